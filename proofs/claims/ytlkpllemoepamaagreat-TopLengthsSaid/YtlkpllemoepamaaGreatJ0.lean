/- Laws and walks. No condition beyond what each says. -/
import Derived.Test.YtlkpllemoepamaaGreatLibE
import Derived.Laws.BitsLemmas
import Derived.Laws.MathBits
import Derived.Shelf.Sort.Plain
import Derived.Shelf.Slices.In.SortNone
namespace Go.Proofs.YtlkpllemoepamaaGreat
open Go Go.Gm Tryz
set_option linter.unusedVariables false
set_option linter.unusedSimpArgs false
set_option maxHeartbeats 4000000
set_option maxRecDepth 8000
theorem YbZ:type_of% @underlying45:=@underlying45
theorem Yb0:type_of% @underlying31:=@underlying31
theorem Yb1:type_of% @underlying220:=@underlying220
theorem Yb2:type_of% @underlying28:=@underlying28
theorem Yb3:type_of% @underlying22:=@underlying22
theorem Yb4:type_of% @underlying3:=@underlying3
theorem Yb5:type_of% @underlying161:=@underlying161
theorem Yb6:type_of% @underlying23:=@underlying23
theorem Yb7:type_of% @underlying287:=@underlying287
theorem Yb8:type_of% @underlying162:=@underlying162
theorem Yb9:type_of% @underlying213:=@underlying213
theorem Yca:type_of% @underlying250:=@underlying250
theorem Ycb:type_of% @underlying127:=@underlying127
theorem Ycc:type_of% @underlying9:=@underlying9
theorem Ycd:type_of% @underlying175:=@underlying175
theorem Yce:type_of% @underlying247:=@underlying247
theorem ZC {x:Int} (h : -9223372036854775808≤x∧x≤9223372036854775807):IntKind.wrap .i64 x=x:=ZgR ⟨by simp [IntKind.min,IntKind.signed,IntKind.bits];omega,by simp [IntKind.max,IntKind.signed,IntKind.bits];omega⟩
theorem Zd {i:Nat} (h:i<9223372036854775807):IntKind.wrap .i64 ((i:Int)+1)=((i+1:Nat):Int):=by rw [ZC ow];omega
theorem ZaO {x:Int} (h:0≤x∧x≤18446744073709551615):IntKind.wrap .u64 x=x:=ZgR ⟨by simp [IntKind.min,IntKind.signed,IntKind.bits];omega,by simp [IntKind.max,IntKind.signed,IntKind.bits];omega⟩
theorem Zao (x:Int):IntKind.wrap .u64 x=x % 18446744073709551616:=by simp [IntKind.wrap,IntKind.bits,IntKind.signed]
theorem Zn6 {x:Int} (h:inR .i64 x) : -9223372036854775808≤x∧x≤9223372036854775807:=by simpa [inR,IntKind.min,IntKind.max,IntKind.signed,IntKind.bits] using h
theorem ZeE {x:Int} (h:inR .u64 x):0≤x∧x≤18446744073709551615:=by simpa [inR,IntKind.min,IntKind.max,IntKind.signed,IntKind.bits] using h
theorem Sat.lenSl {α:Type} {R:α→List PV} {B:Za6} {E:En} {a:Act} {w:World} {F:Fp} (h:Sat B E a w F) {i:Nat} {l:List α} (hl:Go.Gm.look E.s i=some (SF.pv (PV.sl R l))):l.length≤9223372036854775807:=by
 obtain ⟨_,cap,_,h1,h2,_⟩:=h.s i _ hl
 unfold maxLen at h2
 omega
def Zo (n:Int):List PV:=[.int .i64 n]
theorem Zbg.any {ss:List SF} : Zbg ss .any:=fun _ _ _ _ _=>trivial
theorem ZaK {α:Type} [Inhabited α] {x y:List α} (hl:x.length=y.length) (h:∀ j,j<x.length→Nn x j=Nn y j):x=y:=by
 apply YaT hl
 intro j h1 h2
 have:=h j h1
 rwa [nth_eq h1,nth_eq h2] at this
theorem Znv {α:Type} [Inhabited α] {q:List α} {k:Nat} (h:k<q.length):q.take k ++ [Nn q k] = q.take (k+1):=by
 rw [nth_eq h,List.take_succ_eq_append_getElem h]
theorem nth_mem {α:Type} [Inhabited α] {q:List α} {k:Nat} (h:k<q.length):Nn q k ∈ q:=by rw [nth_eq h];exact YaS h
theorem ZpP {α:Type} [Inhabited α] {l:List α} {i:Nat} (h:i<l.length):l.drop i=Nn l i :: l.drop (i+1):=by rw [nth_eq h];exact List.drop_eq_getElem_cons h
theorem Zt {α:Type} [Inhabited α] {l:List α} {i:Nat} (h:i<l.length):l.take (i+1)=l.take i ++ [Nn l i]:=(Znv h).symm
def ZcB (n:Int):Int:=if 65536<(if n<0 then 0 else n) then 65536 else (if n<0 then 0 else n)
theorem ZiQ {n:Int} (h:0≤n∧n≤65536):ZcB n=n:=by unfold ZcB;rw [Yb (show ¬ n<0 by omega),Yb ow]
theorem ZmZ (n:Int):0≤ZcB n∧ZcB n≤65536:=by unfold ZcB;split <;> split <;> omega
theorem Zjy {k:IntKind} {a:Int} {b:Bool} (v:Value) (w:World) (y:Ys) (w':World) (y':Ys) (h:(PV.tup [.int k a,.bool b]).p v w y):(PV.tup [.int k a,.bool b]).p v w' y':=by
 obtain ⟨vs,e,h⟩:=h
 exact ⟨vs,e,by
  match vs,h with
  | [u1,u2],h=>exact h⟩
theorem ZpT (n:Int):FnP prog 199 [.int .i64 n] (.int .i64 (ZcB n)):=by
 refine FnP.mk func199 rfl ntmps199 rfl fun B a w F Z hfr G=>Ya ?_
 refine rZ G (qI qZ) Z [2,0] [0] fun G=>Ya ?_
 refine rZ G (qR rr (qf (ZpX .t qi) r1 qz (qf (Zs9 .t qi) r1 qz (qO rr qZ)))) Z [2] [0] fun G=>Yh ?_
 refine Zw hfr G rfl rfl rfl .refl
def rV (v:Value):List PV:=[.is v]
theorem Zb7 {w:World} {y:Ys} : ∀ {rs:List RS} {f:Ys},stars w y rs f → ∀ r ∈ rs,∃ f1:Ys,(∀ b,f1 b→f b)∧r.holds tau0 w f1 y
 | [],f,_,r,h=>by cases h
 | x :: rs,f,⟨f1,f2,h1,h2,h3,h4,h5⟩,r,hr=>by
  rcases Yk.1 hr with rfl | hr
  ·exact ⟨f1,fun b hb=>(h1 b).2 (.inl hb),h4⟩
  ·obtain ⟨g,g1,g2⟩:=Zb7 h5 r hr
   exact ⟨g,fun b hb=>(h1 b).2 (.inr (g1 b hb)),g2⟩
structure Z4 where
 kind:Int
 label:Int
 node:Int
 deriving DecidableEq,Inhabited
def Zaj (e:Z4):List PV:=[.int .i64 e.kind,.int .i64 e.label,.int .i64 e.node]
def Zal (l:List Z4):List PV:=[.sl Zaj l]
def ZlW (p:Value×List Z4):HP:=ZA 217 3 Zaj p.2 p.1
def Zel (hs:List Value) (L:List (List Z4)):List (Value×List Z4):=(List.range hs.length).map fun k=>(Nn hs k,Nn L k)
theorem Zky (hs:List Value) (L:List (List Z4)):(Zel hs L).length=hs.length:=by unfold Zel;simp
theorem ZmH {hs:List Value} {L:List (List Z4)} {k:Nat} (h:k<hs.length):(Zel hs L)[k]? = some (Nn hs k,Nn L k):=by unfold Zel;simp [h]
theorem Zp4 (hs:List Value) (L:List (List Z4)):(Zel hs L).map (·.1)=hs:=by
 apply YaT (by simp [Zel])
 intro j h1 h2
 simp [Zel,nth_eq h2]
theorem ZpL {hs:List Value} {L:List (List Z4)} (h:hs.length=L.length):(Zel hs L).map (·.2)=L:=by
 apply YaT (by simp [Zel,h])
 intro j h1 h2
 simp [Zel,nth_eq h2]
def ZiN (L:List (List Z4)) (v:Value):HP:=.ex fun hs:List Value=>.and (hs.length=L.length) (.star [.ob (.val v) (ZA 220 1 rV hs),Zqx ZlW (Zel hs L)])
theorem Zkv {w:World} {y y':Ys} : ∀ {ps:List (Value×List Z4)} {xs:List Value},PVs ((ps.map (·.1)).flatMap rV) xs w y→(∀ p ∈ ps,(PV.sl Zaj p.2).p p.1 w y')→PVs ((ps.map (·.2)).flatMap Zal) xs w y'
 | [],[],_,_=>trivial
 | p :: ps,x :: xs,h,k=>by
  have e:x=p.1:=h.1.2.1
  refine ⟨⟨h.1.1,?_⟩,Zkv (ps:=ps) h.2 fun q hq=>k q (YB _ hq)⟩
  rw [e];exact k p Ya0
 | [],_ :: _,h,_=>h.elim
 | _ :: _,[],h,_=>h.elim
theorem ZhF {L:List (List Z4)} {v:Value} : Zsz (ZiN L v) v (.sl Zal L):=fun w f y y' ⟨hs,hl,h⟩ hle hf hb=>by
 obtain ⟨f1,g1,g2⟩:=Zb7 h (.ob (.val v) (ZA 220 1 rV hs)) (by simp)
 obtain ⟨f2,m1,m2⟩:=Zb7 h (Zqx ZlW (Zel hs L)) (by simp)
 have hrow:(ZA 220 1 rV hs v).p w f1 y:=g2
 have hfam:stars w y ((Zel hs L).map fun x=>RS.hp (ZlW x)) f2:=m2
 obtain ⟨xs,k1,k2,k3⟩:=hrow
 obtain ⟨ad,cap,e8,h8,h9,h10⟩:=ZL k1
 rw [hl] at e8 h8
 refine ⟨ad,cap,e8,h8,h9,?_⟩
 rcases h10 with h10 | ⟨b',rfl,h11,h12⟩
 ·exact .inl (YO (by rw [← hl];exact h10))
 ·have hb':f1 b':=(k3 b').2 h11
  refine .inr ⟨b',0,xs,rfl,hf b' (g1 b' hb'),hb b' (g1 b' hb'),h12,?_⟩
  have key:=Zkv (y:=y) (y':=y') (ps:=Zel hs L) (xs:=xs) (w:=w) (by rw [Zp4];exact k2) fun p hp=>by
   obtain ⟨f3,n1,n2⟩:=Zb7 hfam (RS.hp (ZlW p)) (Yv.2 ⟨p,hp,rfl⟩)
   exact ZgZ w f3 y y' n2 hle (fun b h=>hf b (m1 b (n1 b h))) (fun b h=>hb b (m1 b (n1 b h)))
  rwa [ZpL hl] at key
def Zow (O I:List (List Z4)) (n:Nat) (v:Value):HP:=.ex fun ov:Value=>.ex fun iv:Value=>.star [.pt (.val v) 215 [.pv (.is ov),.pv (.is iv),.pv (.int .i64 n)],RS.hp (ZiN O ov),RS.hp (ZiN I iv)]
abbrev Zhq (O I:List (List Z4)) (n:Nat):PV:=.ref [.sl Zal O,.sl Zal I,.int .i64 n]
theorem Zhg {O I:List (List Z4)} {n:Nat} {v:Value} : Zsz (Zow O I n v) v (Zhq O I n):=fun w f y y' ⟨ov,iv,h⟩ hle hf hb=>by
 obtain ⟨f1,g1,g2⟩:=Zb7 h (.pt (.val v) 215 [.pv (.is ov),.pv (.is iv),.pv (.int .i64 n)]) (by simp)
 obtain ⟨f2,m1,m2⟩:=Zb7 h (RS.hp (ZiN O ov)) (by simp)
 obtain ⟨f3,n1,n2⟩:=Zb7 h (RS.hp (ZiN I iv)) (by simp)
 have hO:=ZhF w f2 y y' m2 hle (fun b k=>hf b (m1 b k)) (fun b k=>hb b (m1 b k))
 have hI:=ZhF w f3 y y' n2 hle (fun b k=>hf b (n1 b k)) (fun b k=>hb b (n1 b k))
 obtain ⟨b,vs,k1,k2,k3,k4⟩:=g2
 have hb1:f1 b:=(k3 b).2 rfl
 refine ⟨b,0,vs.toList,k1,hf b (g1 b hb1),hb b (g1 b hb1),Zy.mk fun j u hj=>?_,?_⟩
 ·simp only [Y7]
  simp [World.cell?,k2]
  simpa using hj
 ·generalize vs.toList=us at k4
  match us,k4 with
  | [u1,u2,u3],k4=>
   have e1:u1=ov:=k4.1.2.1
   have e2:u2=iv:=k4.2.1.2.1
   refine ⟨⟨k4.1.1,?_⟩,⟨k4.2.1.1,?_⟩,⟨k4.2.2.1.1,k4.2.2.1.2⟩,tv⟩
   ·rw [e1];exact hO
   ·rw [e2];exact hI
structure Zu where
 src:Int
 dst:Int
 kind:Int
 label:Int
 deriving DecidableEq,Inhabited
def ZaB (a:Zu):List PV:=[.int .i64 a.src,.int .i64 a.dst,.int .i64 a.kind,.int .i64 a.label]
def endO (x:Zu):Z4:=⟨x.kind,x.label,x.dst⟩
def endI (x:Zu):Z4:=⟨x.kind,x.label,x.src⟩
def ofB (mask kind:Int):Bool:=decide (bits .and .i64 (mask.fdiv (2 ^ min (IntKind.wrap .u64 kind).toNat (IntKind.bits .i64))) 1=1)
def Zaz (n:Nat) (x:Zu):Bool:=(((((decide (0≤x.src∧x.src<n)) && decide (0≤x.dst∧x.dst<n)) && decide (1≤x.kind)) && decide (x.kind≤3)) && decide (0≤x.label)) && decide (x.label≤1048575)
theorem ZcD (O I:List (List Z4)) (m:Nat):FnP prog 158 [Zhq O I m] (.int .i64 (O.length:Int)):=by
 refine FnP.mk func158 rfl ntmps158 rfl fun B a w F Z hfr G=>Ya ?_
 refine rZ G (qI qZ) Z [2,0] [0] fun G=>(Ya (Ya ?_))
 refine rZ G (qR rr (qf (ZeV underlying167 .t) r1 qz qZ)) Z [4,2,0] [0] fun G=>?_
 refine Zc G rfl (fun hc0=>?_) (fun hc0=>?_)
 ·simp at hc0
 refine Yf (Za (Ya (rZ G (qR rr (qf (ZR .t) r1 qz (qf (oG 0 .t) r1 qz (qf (oR false 1 .t) r1 qz (qu Yb9 r1 (qO rr qZ)))))) Z [2] [0] fun G=>Yh ?_)))
 refine Zw hfr G rfl rfl rfl .refl
theorem Zev (O I:List (List Z4)) (m:Nat) (u:Int):FnP prog 194 [Zhq O I m,.int .i64 u] (.bool (decide (0≤u∧u<O.length))):=by
 refine FnP.mk func194 rfl ntmps194 rfl fun B a w F Z hfr G=>Ya ?_
 refine rZ G qB Z [4,1,0] [0] fun G=>Ya ?_
 refine rZ G (qR rr (qf (ZbM .t qi) r1 qz (qR rr (qm rfl rfl rfl rfl (qm rfl rfl rfl rfl (qk rfl (fun h=>oP (ZcD O I m) func158 (Args.one (.w h))) r2 qz (qk rfl (fun h=>ZaD (.w h) (.w h)) r3 qz (qf (ZH .t .t) r2 qz (qO rr qZ))))))))) Z [4] [0] fun G=>Yh ?_
 refine Zw hfr G rfl rfl rfl (.bool (by by_cases h:0≤u <;> simp [h]))
theorem ZhB (O I:List (List Z4)) (m:Nat) (x:Zu):FnP prog 154 [Zhq O I m,.agg (ZaB x)] (.bool (Zaz O.length x)):=by
 refine FnP.mk func154 rfl ntmps154 rfl fun B a w F Z hfr G=>Ya ?_
 refine Zb G (qx 101 r1 qB) Z [4,3,0] [101,0] (fun _=>rfl) (fun _=>rfl) fun τ a w F G=>?_
 try dsimp only [RS.sub,SF.sub,CF.sub,csub,Anc.sub,List.map,zCF,Zaj,Zal,Zo,ZaB] at G
 generalize τ 3=v3 at G
 refine Za (Ya (rZ G (qR rr (qg 0 101 r1 r1 (qa 101 r1 r1 (qf (oP (Zev O I m x.src) func194 (Args.two .t .t)) r2 qz (qR rr (qm rfl rfl rfl rfl (qv 1 101 rfl r2 r1 (qw 101 rfl r2 r1 (qk rfl (fun h=>oP (Zev O I m x.dst) func194 (Args.two (.w h) (.w h))) r3 qz (qf (ZH .t .t) r2 qz (qR rr (qv 2 101 rfl r2 r1 (qw 101 rfl r2 r1 (qk rfl (fun h=>ZbM (.w h) qi) r2 qz (qf (ZH .t .t) r2 qz (qR rr (qv 2 101 rfl r2 r1 (qw 101 rfl r2 r1 (qk rfl (fun h=>Zlu (.w h) qi) r2 qz (qf (ZH .t .t) r2 qz (qR rr (qv 3 101 rfl r2 r1 (qw 101 rfl r2 r1 (qk rfl (fun h=>ZbM (.w h) qi) r2 qz (qf (ZH .t .t) r2 qz (qR rr (qv 3 101 rfl r2 r1 (qw 101 rfl r2 r1 (qk rfl (fun h=>Zlu (.w h) qi) r2 qz (qf (ZH .t .t) r2 qz (qO rr qZ))))))))))))))))))))))))))))))) Z [4] [0] fun G=>Yh ?_))
 refine Zw hfr G rfl rfl rfl (.bool (by unfold Zaz;simp))
theorem Zkk (x:Zu):FnP prog 156 [.agg (ZaB x)] (.tup [.agg (Zaj (endO x)),.agg (Zaj (endI x))]):=by
 refine FnP.mk func156 rfl ntmps156 rfl fun B a w F Z hfr G=>Ya ?_
 refine Zb G (qx 101 r1 (qf (oH [.int .i64 0,.int .i64 0,.int .i64 0] 102) trivial qz (qf (oH [.int .i64 0,.int .i64 0,.int .i64 0] 103) trivial qz qZ))) Z [3,2,1] [103,102,101,0] (fun _=>rfl) (fun _=>rfl) fun τ a w F G=>?_
 try dsimp only [RS.sub,SF.sub,CF.sub,csub,Anc.sub,List.map,zCF,Zaj,Zal,Zo,ZaB] at G
 generalize τ 1=v1,τ 2=v2,τ 3=v3 at G
 refine Za (Ya (Zz G (qg 2 101 r1 r1 (qa 101 r1 r1 (qg 3 101 r1 r1 (qa 101 r1 r1 (qg 1 101 r1 r1 (qa 101 r1 r1 (qf (oB [(0,.tmp 5),(1,.tmp 7),(2,.tmp 9)] [.int .i64 0,.int .i64 0,.int .i64 0] [(0,1),(1,1),(2,1)] (.one rfl .t one_int kr (.one rfl .t one_int kr (.one rfl .t one_int kr .nil)))) r3 qz (qg 2 101 r1 r1 (qa 101 r1 r1 (qg 3 101 r1 r1 (qa 101 r1 r1 (qg 0 101 r1 r1 (qa 101 r1 r1 (qf (oB [(0,.tmp 12),(1,.tmp 14),(2,.tmp 16)] [.int .i64 0,.int .i64 0,.int .i64 0] [(0,1),(1,1),(2,1)] (.one rfl .t one_int kr (.one rfl .t one_int kr (.one rfl .t one_int kr .nil)))) r3 qz (qs 3 102 r2 r1 (qs 3 103 r2 r1 qZ)))))))))))))))) Z [3,2] [103,102,0] rfl rfl fun a w F G=>?_))
 try dsimp only [List.map,Zf,xL,xM,Nat.reduceAdd,xD,xE,xT,xU,xC,xN,zCF,ldSF,Zaj,Zal,Zo,ZaB] at G
 refine Za (Yh (Zad hfr G rfl (.cl 102 true 3 rfl rfl (.cl 103 true 3 rfl rfl .nil)) (.two (.aggU rfl rfl) (.aggU rfl rfl))))
theorem ZqF (mask kind:Int):FnP prog 210 [.int .i64 mask,.int .i64 kind] (.bool (ofB mask kind)):=by
 refine FnP.mk func210 rfl ntmps210 rfl fun B a w F Z hfr G=>Ya ?_
 refine rZ G qB Z [4,1,0] [0] fun G=>Ya ?_
 refine rZ G (qR rr (qR rr (qf (Zat Yb8 kr .t) r1 qz (qf (Zej .t .t  (by rw [Zao];omega)) r2 qz (qf (Zde .t qi) r1 qz (qf (o_eql .t qi) r1 qz (qO rr qZ))))))) Z [4] [0] fun G=>Yh ?_
 refine Zw hfr G rfl rfl rfl (.bool rfl)
theorem Zsa (x:Int):IntKind.wrap .u8 x=x % 256:=by simp [IntKind.wrap,IntKind.bits,IntKind.signed]
def ZhN (s:List UInt8):Nat:=s.foldl (fun a c=>a*10+(c.toNat - 48)) 0
theorem Zjo {x:Int} (h:0≤x∧x≤18446744073709551615):bits .and .u64 x 4294967295=x % 4294967296:=by
 obtain ⟨X,rfl⟩:=YaE h.1
 have h1:(BitVec.ofInt 64 (X:Int)).toNat=X:=by rw [Ya1];omega
 have h2:(BitVec.ofInt 64 (4294967295:Int)).toNat=2 ^ 32 - 1:=by decide
 show IntKind.wrap .u64 (((BitVec.ofInt 64 (X:Int) &&& BitVec.ofInt 64 4294967295).toNat:Nat):Int)=_
 rw [YbH,h1,h2,Nat.and_two_pow_sub_one_eq_mod,Zao]
 omega
theorem ZsJ {x:Int} : x.fdiv (2 ^ min (32:Int).toNat (IntKind.bits .u64))=x / 4294967296:=by
 rw [Ya8 _ (by decide)]
 rfl
theorem ZrS (x y:Int):FnP prog 255 [.int .u64 x,.int .u64 y] (.tup [.int .u64 (x*y / 18446744073709551616),.int .u64 (x*y % 18446744073709551616)]):=by
 refine FnP.mk func255 rfl ntmps255 rfl fun B a w F Z hfr G=>?_
 have hx:=ZeE (G.range (i:=0) rfl)
 have hy:=ZeE (G.range (i:=1) rfl)
 have h3:∀ {z:Int},0≤IntKind.wrap .u64 z∧IntKind.wrap .u64 z≤18446744073709551615:=fun {z}=>ZeE (ZbF _ _)
 refine Ya (rZ G (qI (qI qZ)) Z [5,4,1,0] [0] fun G=>Ya ?_)
 refine rZ G (qR rr (qf (Zde .t qi) r1 qz (qO rr qZ))) Z [6,5,4,1,0] [0] fun G=>Ya ?_
 refine rZ G (qR rr (qf (Zej .t qi (by decide)) r1 qz (qO rr qZ))) Z [7,6,5,4,1,0] [0] fun G=>Ya ?_
 refine rZ G (qR rr (qf (Zde .t qi) r1 qz (qO rr qZ))) Z [8,7,6,5,4,1,0] [0] fun G=>Ya ?_
 refine rZ G (qR rr (qf (Zej .t qi (by decide)) r1 qz (qO rr qZ))) Z [9,8,7,6,5,4,1,0] [0] fun G=>Ya ?_
 refine rZ G (qR rr (qR rr (qf (ZlQ .t .t) r2 qz (qO rr qZ)))) Z [10,9,8,7,6,5,4,1,0] [0] fun G=>Ya ?_
 refine rZ G (qR rr (qR rr (qf (ZlQ .t .t) r2 qz (qR rr (qf (Zej .t qi (by decide)) r1 qz (qf (o_add .t .t) r2 qz (qO rr qZ))))))) Z [11,9,7,6,5,4,1,0] [0] fun G=>Ya ?_
 refine rZ G (qR rr (qf (Zde .t qi) r1 qz (qO rr qZ))) Z [12,11,9,7,6,5,4,1,0] [0] fun G=>Ya ?_
 refine rZ G (qR rr (qf (Zej .t qi (by decide)) r1 qz (qO rr qZ))) Z [13,12,9,7,6,5,4,1,0] [0] fun G=>Ya ?_
 refine rZ G (qR rr (qR rr (qR rr (qf (ZlQ .t .t) r2 qz (qf (o_add .t .t) r2 qz (qO rr qZ)))))) Z [13,12,9,7,5,4,1,0] [0] fun G=>Ya ?_
 refine rZ G (qR rr (qR rr (qf (ZlQ .t .t) r2 qz (qR rr (qf (o_add .t .t) r2 qz (qR rr (qf (Zej .t qi (by decide)) r1 qz (qf (o_add .t .t) r2 qz (qO rr qZ))))))))) Z [5,4,1,0] [0] fun G=>Ya ?_
 refine rZ G (qR rr (qR rr (qf (ZlQ .t .t) r2 qz (qO rr qZ)))) Z [5,4] [0] fun G=>Yh ?_
 refine Zad hfr G rfl (.tmp rfl (.tmp rfl .nil)) (.two (.int (by simp only [ZsJ,Zjo hx,Zjo hy,Zjo h3];simp only [Zao];exact mul64_arith x y hx.1 ow hy.1 ow)) (.int (by rw [Zao])))
structure ZsY where
 key:Int
 val:Int
 deriving DecidableEq,Inhabited
section
variable {out t T:List ZsY} {k x:Int} {e:ZsY} {d:Bool}
end
def Zc4 (v:Int):List Int→Int
 | []=>-1
 | x :: l=>if x=v then 0 else if Zc4 v l<0 then -1 else Zc4 v l+1
theorem ZeJ {v:Int} : ∀ {l:List Int},(∀ k,k<l.length→Nn l k≠v)→Zc4 v l = -1
 | [],_=>rfl
 | x :: l,h=>by
  have h0:x≠v:=h 0 (by simp)
  rw [Zc4,Yb h0,ZeJ (l:=l) fun k hk=>by have:=h (k+1) (by simpa using hk);exact this,Ye (by decide)]
theorem ZiU {v:Int} : ∀ {l:List Int} {i:Nat},i<l.length→Nn l i=v→(∀ k,k<i→Nn l k≠v)→Zc4 v l=i
 | [],i,h,_,_=>by simp at h
 | x :: l,0,_,h,_=>by rw [Zc4,Ye (show x=v from h)];rfl
 | x :: l,i+1,h,h1,h2=>by
  have h0:x≠v:=h2 0 ow
  have:=ZiU (l:=l) (i:=i) (by simpa using h) h1 fun k hk=>h2 (k+1) ow
  rw [Zc4,Yb h0,this,Yb ow];omega
theorem Zqe {v:Int} {l:List Int} (h:v ∈ l):∃ i:Nat,Zc4 v l=i∧i<l.length∧Nn l i=v ∧ ∀ k,k<i→Nn l k≠v:=by
 induction l with
 | nil=>cases h
 | cons x l ih=>
  by_cases hx:x=v
  ·exact ⟨0,by rw [Zc4,Ye hx];rfl,by simp,hx,fun k hk=>absurd hk (Y9 k)⟩
  ·obtain ⟨i,h1,h2,h3,h4⟩:=ih (by rcases Yk.1 h with h | h;exact absurd h.symm hx;exact h)
   refine ⟨i+1,by rw [Zc4,Yb hx,h1,Yb ow];omega,by simpa using h2,h3,fun k hk=>?_⟩
   cases k with
   | zero=>exact hx
   | succ k=>exact h4 k ow
theorem ZoF {v:Int} {l:List Int} (h:v ∉ l):Zc4 v l = -1:=ZeJ fun k hk e=>h (e ▸ nth_mem hk)
theorem Zgq (v:Int) (l:List Int) : -1≤Zc4 v l∧Zc4 v l<l.length:=by
 by_cases h:v ∈ l
 ·obtain ⟨i,h1,h2,_⟩:=Zqe h
  omega
 ·rw [ZoF h];omega
def ZtH (l:List Int) (j x:Int):List Int:=if 0≤j∧j≤l.length then l.take j.toNat++x :: l.drop j.toNat else l
def ZfG (l:List Int):Prop:=(∀ x ∈ l,1≤x∧x≤1048575)∧l.Nodup
instance (l:List Int):Decidable (ZfG l):=by unfold ZfG;exact inferInstance
theorem ZfG.take {l:List Int} (h:ZfG l) (i:Nat):ZfG (l.take i):=⟨fun x hx=>h.1 x (Yao hx),h.2.sublist (List.take_sublist i l)⟩
def leI (x y:Int):Bool:=decide (x≤y)
theorem Zoq {a b:List Int} : a.mergeSort leI=b.mergeSort leI ↔ a.Perm b:=by
 constructor
 ·intro h
  exact (YaK a leI).symm.trans (h ▸ YaK b leI)
 ·intro h
  have hs:∀ l:List Int,List.Pairwise (fun x y=>x≤y) (l.mergeSort leI):=fun l=>by
   have:=List.pairwise_mergeSort (le:=leI) (fun a b c h1 h2=>by simp [leI] at *;omega) (fun a b=>by simp [leI];omega) l
   exact this.imp fun h=>by simpa [leI] using h
  exact List.Perm.eq_of_pairwise (fun x y _ _ h1 h2=>Int.le_antisymm h1 h2) (hs a) (hs b) (((YaK a leI).trans h).trans (YaK b leI).symm)
def ZbX (l:List Int) (tx:Int):Int×Bool:=
 if tx≠0∧Zc4 tx l<0 then (0,false) else
 if (l.length:Int)≤(if tx=0 then -1 else Zc4 tx l)+1 then (0,false) else (Nn l ((if tx=0 then -1 else Zc4 tx l)+1).toNat,true)
def Zte (l:List Int) (tx:Int):List Int:=if tx ∈ l then l else l ++ [tx]
def Zcn (l:List Int) (tx:Int):List Int:=l.filter fun x=>decide (x≠tx)
def Zpy (l:List Int) (tx place:Int):List Int×Int:=if Zc4 tx l<0 then ([],3) else if ¬ (0≤place∧place<l.length) then ([],1) else (ZtH (l.eraseIdx (Zc4 tx l).toNat) place tx,0)
def Zob (a b:List Int):Prop:=ZfG a∧ZfG b∧a.Perm b
instance (a b:List Int):Decidable (Zob a b):=by unfold Zob;exact inferInstance
def ZiJ:Go.Shelf.Ren:=⟨fun | 189=>92 | 125=>142 | 257=>141 | 128=>189 | 129=>190 | 294=>180 | 295=>181 | 296=>182 | 297=>183 | 298=>184 | 299=>185 | 216=>186 | 300=>187 | 301=>188 | 328=>212 | 329=>213 | 330=>214 | 331=>215 | 332=>216 | 215=>151 | 343=>240 | n=>n,fun | 28=>45 | 3=>3 | 46=>162 | 0=>0 | 51=>260 | 53=>175 | 4=>4 | 183=>253 | 182=>252 | 131=>43 | 5=>5 | 9=>9 | 218=>290 | 222=>294 | 228=>309 | 229=>107 | n=>n,fun  | n=>n⟩
theorem Zkx:Lays.n189 prog ZiJ where
 mixed:=by kernel_rfl
 f125:=func142.trans (Y1 some kr)
 f128:=func189.trans (Y1 some kr)
 f129:=func190.trans (Y1 some kr)
 f189:=func92.trans (Y1 some kr)
 f215:=func151.trans (Y1 some kr)
 f216:=func186.trans (Y1 some kr)
 f257:=func141.trans (Y1 some kr)
 f294:=func180.trans (Y1 some kr)
 f295:=func181.trans (Y1 some kr)
 f296:=func182.trans (Y1 some kr)
 f297:=func183.trans (Y1 some kr)
 f298:=func184.trans (Y1 some kr)
 f299:=func185.trans (Y1 some kr)
 f300:=func187.trans (Y1 some kr)
 f301:=func188.trans (Y1 some kr)
 f328:=func212.trans (Y1 some kr)
 f329:=func213.trans (Y1 some kr)
 f330:=func214.trans (Y1 some kr)
 f331:=func215.trans (Y1 some kr)
 f332:=func216.trans (Y1 some kr)
 f343:=func240.trans (Y1 some kr)
 t0:=underlying0
 a0:=Tryz.isAgg0
 z0:=Tryz.sizeOf0
 v0:=Tryz.zeroValue0
 t3:=Yb4
 a3:=Tryz.isAgg3
 z3:=Tryz.sizeOf3
 v3:=Tryz.zeroValue3
 t4:=underlying4
 a4:=Tryz.isAgg4
 z4:=Tryz.sizeOf4
 v4:=Tryz.zeroValue4
 t5:=underlying5
 a5:=Tryz.isAgg5
 z5:=Tryz.sizeOf5
 v5:=Tryz.zeroValue5
 t9:=Ycc
 a9:=Tryz.isAgg9
 z9:=Tryz.sizeOf9
 v9:=Tryz.zeroValue9
 t28:=YbZ
 a28:=Tryz.isAgg45
 z28:=Tryz.sizeOf45
 v28:=Tryz.zeroValue45
 t46:=Yb8
 a46:=Tryz.isAgg162
 z46:=Tryz.sizeOf162
 v46:=Tryz.zeroValue162
 t51:=underlying260
 a51:=Tryz.isAgg260
 z51:=Tryz.sizeOf260
 v51:=Tryz.zeroValue260
 t53:=Ycd
 a53:=Tryz.isAgg175
 z53:=Tryz.sizeOf175
 v53:=Tryz.zeroValue175
 t131:=underlying43
 a131:=Tryz.isAgg43
 z131:=Tryz.sizeOf43
 v131:=Tryz.zeroValue43
 t182:=underlying252
 a182:=Tryz.isAgg252
 z182:=Tryz.sizeOf252
 v182:=Tryz.zeroValue252
 t183:=underlying253
 a183:=Tryz.isAgg253
 z183:=Tryz.sizeOf253
 v183:=Tryz.zeroValue253
 t218:=underlying290
 a218:=Tryz.isAgg290
 z218:=Tryz.sizeOf290
 v218:=Tryz.zeroValue290
 t222:=underlying294
 a222:=Tryz.isAgg294
 z222:=Tryz.sizeOf294
 v222:=Tryz.zeroValue294
 t228:=underlying309
 a228:=Tryz.isAgg309
 z228:=Tryz.sizeOf309
 v228:=Tryz.zeroValue309
 t229:=underlying107
 a229:=Tryz.isAgg107
 z229:=Tryz.sizeOf107
 v229:=Tryz.zeroValue107
theorem ZmD (w:World):Calls prog 92 #[.slice none 0 0] w (fun e w'=>e = .returned (.tuple #[])∧w' = w):=
 Go.calls_of_every_depth fun D=>Go.Proofs.AnyS.slices_Sort_int_none_in Zkx D none 0 w
theorem ZjX {w:World} {y:Ys} : ∀ {l:List Int} {xs:List Value},PVs (l.flatMap Zo) xs w y→xs=l.map (Value.int .i64) ∧ ∀ x ∈ l,inR .i64 x
 | [],[],_=>⟨rfl,fun x hx=>by cases hx⟩
 | [],_ :: _,h=>h.elim
 | x :: l,[],h=>h.elim
 | x :: l,v :: xs,h=>by
  have h1:v = .int .i64 x∧inR .i64 x:=h.1.2
  obtain ⟨h2,h3⟩:=ZjX (l:=l) (xs:=xs) h.2
  exact ⟨by rw [h1.1,h2];rfl,fun z hz=>by rcases Yk.1 hz with rfl | hz;exact h1.2;exact h3 z hz⟩
theorem Zfb {w:World} {y:Ys} : ∀ {l:List Int},(∀ x ∈ l,inR .i64 x)→PVs (l.flatMap Zo) (l.map (Value.int .i64)) w y
 | [],_=>trivial
 | x :: l,h=>⟨⟨rfl,rfl,h x (by simp)⟩,Zfb fun z hz=>h z (by simp [hz])⟩
theorem Zo8 {l:List Int} {j:Nat} (hj:j<l.length):(l.toArray)[j]! = l[j]:=by simp [hj]
theorem Zjm {w:World} {g n:Nat} {d:List Int} {os:Array Obj} {cur:Array Value} {e:TypeId} (hg:w.heap[g]? = some (.cells cur e (0,0))) (b:Nat) (hb:b<w.heap.size) :
  (Go.Sort.grow (Go.Sort.putRow (Value.int .i64) (Go.Sort.ahead w n) g 0 d.toArray) os).heap[b]? = if b=g then some (.cells (Go.Sort.putCells (Value.int .i64) 0 d.toArray cur) e (0,0)) else w.heap[b]?:=by
 unfold Go.Sort.grow Go.Sort.putRow Go.Sort.mapBlock Go.Sort.ahead
 simp only
 rw [Array.getElem?_append_left (by simpa using hb),Array.getElem?_modify]
 by_cases h:g=b
 ·subst h
  rw [Ye rfl,Ye rfl,hg];rfl
 ·rw [Yb h,Yb (fun e=>h e.symm)]
theorem ZoY {cur:Array Value} {d:List Int} (h:d.length≤cur.size):(Go.Sort.putCells (Value.int .i64) 0 d.toArray cur).toList.take d.length=d.map (Value.int .i64):=by
 apply YaT
 ·simp [Go.Sort.putCells];omega
 ·intro i h1 h2
  have hi:i<d.length:=by simpa using h2
  simp [Go.Sort.putCells,hi]
theorem Zio (v:Value) (l:List Int) (hlm:l.length≤1000000):FnG prog 92 1 [.is v] [ZA 3 1 Zo l v] (.tup []) (fun _=>[ZA 3 1 Zo (l.mergeSort leI) v]):=fun w F vs hw hle hvs hpr=>by
 match vs,hvs with
 | [u],hvs=>
  have hu:u=v:=hvs.1.1
  subst hu
  obtain ⟨xs,⟨hxl,hx⟩,hp,hf⟩:=hpr 0 _ rfl
  rcases hx with ⟨rfl,h0⟩ | ⟨g,cap,cur,rfl,_,hg,hn,hcap,hcs,hct⟩
  ·have hl:l = []:=YO h0
   subst hl
   refine (ZmD w).mono ?_
   rintro e w' ⟨rfl,rfl⟩
   refine ⟨.tuple #[],F,rfl,hw,⟨rfl,rfl,rfl,YL _,fun _ _ _=>rfl,fun _ _=>rfl,fun n hn b hb=>.inl ⟨n,hn,hb⟩⟩,hle,⟨[],rfl,tv⟩,fun i h hi=>?_⟩
   match i,hi with
   | 0,hi=>simp at hi;subst hi;exact ⟨xs,⟨hxl,.inl ⟨rfl,rfl⟩⟩,by simpa using hp,hf⟩
  ·have hgs:g<w.heap.size:=(YT.1 hg).1
   obtain ⟨hxe,hin⟩:=ZjX hp
   have hcl:l.length≤cur.size:=by rw [hcs];omega
   have hbig:l.length<4611686018427387904:=by omega
   have hcur:∀ j (hj:j<l.length),cur[j]? = some (.int .i64 l[j]):=fun j hj=>by
    have h1:(cur.toList.take (l.length*1))[j]? = (l.map (Value.int .i64))[j]?:=by rw [hct,hxe]
    rw [Ybj ow] at h1
    simpa [hj] using h1
   have hH:Go.Sort.Holds (Value.int .i64) w g 0 l.toArray:=fun j hj=>by
    have hj':j<l.length:=by simpa using hj
    refine ⟨?_,?_⟩
    ·rw [Zo8 hj',Y7,ZN hg];exact hcur j hj'
    ·simp [World.frozen?,hg]
   have hcalls:Calls prog 92 #[.slice (some ⟨g,0,none⟩) l.length cap] w fun e w'=>e = .returned (.tuple #[]) ∧ ∃ n os,w' = Go.Sort.grow (Go.Sort.putRow (Value.int .i64) (Go.Sort.ahead w n) g 0 (l.mergeSort leI).toArray) os:=Go.Proofs.Any.slices_Sort_int Zkx g 0 cap l w hH hgs hbig
   refine hcalls.mono ?_
   rintro e w' ⟨rfl,n,os,rfl⟩
   have hsl:(l.mergeSort leI).length=l.length:=Ybd l
   have hheap:=fun b hb=>Zjm (n:=n) (d:=l.mergeSort leI) (os:=os) hg b hb
   have hsz:(Go.Sort.grow (Go.Sort.putRow (Value.int .i64) (Go.Sort.ahead w n) g 0 (l.mergeSort leI).toArray) os).heap.size=w.heap.size+os.size:=by simp [Go.Sort.ahead]
   have hfg:F 1 g:=(hf g).2 rfl
   have hst:Stp (List.range' 1 1) w F (Go.Sort.grow (Go.Sort.putRow (Value.int .i64) (Go.Sort.ahead w n) g 0 (l.mergeSort leI).toArray) os) F:=
    ⟨rfl,rfl,rfl,by rw [hsz];omega,fun b hb hn=>by
     rw [hheap b hb,Yb (fun e=>by subst e;exact hn 1 (by simp) hfg)],fun _ _=>rfl,fun n hn b hb=>.inl ⟨n,hn,hb⟩⟩
   refine ⟨.tuple #[],F,rfl,⟨hw.dis,fun n b hb=>by rw [hsz];have:=hw.bd n b hb;omega⟩,hst,hle,⟨[],rfl,tv⟩,fun i h hi=>?_⟩
   match i,hi with
   | 0,hi=>
    simp only [Ybs,Y0] at hi
    subst hi
    refine ⟨(l.mergeSort leI).map (Value.int .i64),⟨by simp,.inr ⟨g,cap,_,by rw [hsl],Yw _,(hheap g hgs).trans (Ye rfl),by omega,hcap,by simp [Go.Sort.putCells,hcs],?_⟩⟩,Zfb fun x hx=>hin x ((YaK l leI).mem_iff.1 hx),hf⟩
    rw [Nat.mul_one];exact ZoY ow
structure Ze where
 src:Int
 dst:Int
 kind:Int
 key:Int
 deriving DecidableEq,Inhabited
structure ZbN where
 tx:Int
 key:Int
 nth:Int
 deriving DecidableEq,Inhabited
def Zn (e:Ze):List PV:=[.int .i64 e.src,.int .i64 e.dst,.int .i64 e.kind,.int .i64 e.key]
def ZQ (v:ZbN):List PV:=[.int .i64 v.tx,.int .i64 v.key,.int .i64 v.nth]
def noE:Ze:=⟨0,0,0,0⟩
def noV:ZbN:=⟨0,0,0⟩
def idB (n:Int):Bool:=decide (1≤n) && decide (n≤1048575)
def Zcr (v:ZbN):Bool:=if v.tx=0 then idB v.key && decide (v.nth=0) else ((idB v.tx && idB v.key) && decide (1≤v.nth)) && decide (v.nth≤4095)
def Ztj (v:ZbN):Int:=(v.tx*1048576+v.key)*4096+v.nth
def ZqR (v:ZbN):Int×Int:=if Zcr v then (Ztj v,0) else (0,1)
theorem Zjb {n:Int} : idB n=true ↔ 1≤n∧n≤1048575:=by unfold idB;rw [Yr,Yu,Yu]
theorem Zk0 (k:Int):decide (k<1) = !decide (1≤k):=by rw [← decide_not];exact decide_eq_decide.2 ow
theorem Zno (m k:Int):decide (m<k) = !decide (k≤m):=by rw [← decide_not];exact decide_eq_decide.2 ow
theorem or64 (x y:Nat) (hx:x<18446744073709551616) (hy:y<18446744073709551616):bits .or .u64 (x:Int) (y:Int)=((x ||| y:Nat):Int):=by
 have h1:(BitVec.ofInt 64 (x:Int)).toNat=x:=by rw [Ya1];omega
 have h2:(BitVec.ofInt 64 (y:Int)).toNat=y:=by rw [Ya1];omega
 show IntKind.wrap .u64 (((BitVec.ofInt 64 (x:Int) ||| BitVec.ofInt 64 (y:Int)).toNat:Nat):Int)=_
 rw [BitVec.toNat_or,h1,h2]
 exact ZaO (by have:=Nat.or_lt_two_pow (n:=64) hx hy;omega)
theorem Zqj {q:Nat} (h:q<18446744073709551616):IntKind.wrap .u64 (q:Int)=q:=ZaO ow
theorem ofN {q:Nat} (h:q<18446744073709551616):(BitVec.ofInt 64 (q:Int)).toNat=q:=by rw [Ya1];omega
theorem ZqL {K:Int} (k:Nat) (hk:min K.toNat (IntKind.bits .u64)=k) (x y:Int) (hx:0≤x) (hy:0≤y) (hyk:y<2 ^ k) (hb:x*2 ^ k+y<18446744073709551616):bits .or .u64 (IntKind.wrap .u64 (x*2 ^ min K.toNat (IntKind.bits .u64))) y=x*2 ^ k+y:=by
 obtain ⟨X,rfl⟩:=YaE hx
 obtain ⟨Y,rfl⟩:=YaE hy
 rw [hk]
 have e2:(X:Int)*2 ^ k=((X*2 ^ k:Nat):Int):=by rw [Int.natCast_mul,Int.natCast_pow];rfl
 have hY:Y<2 ^ k:=by exact_mod_cast hyk
 have hor:X*2 ^ k ||| Y=X*2 ^ k+Y:=by rw [Nat.mul_comm];exact (Nat.two_pow_add_eq_or_of_lt hY X).symm
 rw [e2] at hb ⊢
 generalize X*2 ^ k=Q at hb hor ⊢
 rw [Zqj ow,or64 _ _ ow ow,hor]
 omega
theorem ZjK {v:ZbN} (h:Zcr v=true):bits .or .u64 (IntKind.wrap .u64 (bits .or .u64 (IntKind.wrap .u64 (IntKind.wrap .u64 v.tx*2 ^ min (20:Int).toNat (IntKind.bits .u64))) (IntKind.wrap .u64 v.key)*2 ^ min (12:Int).toNat (IntKind.bits .u64))) (IntKind.wrap .u64 v.nth)=Ztj v:=by
 have hb:(0≤v.tx∧v.tx≤1048575)∧(1≤v.key∧v.key≤1048575)∧(0≤v.nth∧v.nth≤4095):=by
  unfold Zcr at h
  split at h <;> simp only [Yr,Yu,Zjb] at h <;> omega
 obtain ⟨h1,h2,h3⟩:=hb
 rw [ZaO (x:=v.tx) ow,ZaO (x:=v.key) ow,ZaO (x:=v.nth) ow]
 rw [ZqL 20 rfl v.tx v.key ow ow ow ow,ZqL 12 rfl (v.tx*2 ^ 20+v.key) v.nth ow ow ow ow]
 unfold Ztj
 omega
theorem mask {x:Int} (h:0≤x∧x≤18446744073709551615) {K:Int} (k:Nat) (hk:min K.toNat (IntKind.bits .u64)=k) (hk2:k<64):bits .and .u64 x (IntKind.wrap .u64 (IntKind.wrap .u64 (1*2 ^ min K.toNat (IntKind.bits .u64)) - 1))=x % 2 ^ k:=by
 obtain ⟨X,rfl⟩:=YaE h.1
 rw [hk,Int.one_mul]
 have hp1:2 ^ k<2 ^ 64:=Nat.pow_lt_pow_right (by decide) hk2
 have hp:2 ^ k<18446744073709551616:=hp1
 have hp0:0<2 ^ k:=Nat.two_pow_pos k
 have e2:(2:Int) ^ k=((2 ^ k:Nat):Int):=by norm_cast
 have e3:∀ q:Nat,0<q→(q:Int) - 1=((q - 1:Nat):Int):=fun q h=>by omega
 rw [e2,Zqj hp,e3 _ hp0,Zqj ow]
 show IntKind.wrap .u64 (((BitVec.ofInt 64 (X:Int) &&& BitVec.ofInt 64 ((2 ^ k - 1:Nat):Int)).toNat:Nat):Int)=_
 rw [YbH,ofN ow,ofN ow,Nat.and_two_pow_sub_one_eq_mod]
 have hm:=Nat.mod_le X (2 ^ k)
 rw [Zqj ow]
 norm_cast
theorem ZtJ (n:Int):FnP prog 178 [.int .i64 n] (.bool (idB n)):=by
 refine FnP.mk func178 rfl ntmps178 rfl fun B a w F Z hfr G=>Ya ?_
 refine rZ G qB Z [2,0] [0] fun G=>Ya ?_
 refine rZ G (qR rr (qf (ZbM .t qi) r1 qz (qR rr (qm rfl rfl rfl rfl (qk rfl (fun h=>Zlu (.w h) qi) r2 qz (qf (ZH .t .t) r2 qz (qO rr qZ))))))) Z [2] [0] fun G=>Yh ?_
 refine Zw hfr G rfl rfl rfl .refl
theorem Zgu (v:ZbN):((!(decide (v.tx=0) && decide (v.nth=0)) && ((!idB v.tx || decide (v.nth<1)) || decide (4095<v.nth))) || !idB v.key) = !Zcr v:=by
 unfold Zcr
 by_cases h:v.tx=0
 ·rw [Ye h,Yaf h]
  have hi:idB v.tx=false:=by rw [h];rfl
  rw [hi]
  cases decide (v.nth=0) <;> cases idB v.key <;> simp
 ·rw [Yb h,YI h,Zk0,Zno 4095]
  cases idB v.tx <;> cases idB v.key <;> cases decide (1≤v.nth) <;> cases decide (v.nth≤4095) <;> rfl
theorem Znx (v:ZbN):FnP prog 137 [.agg (ZQ v)] (.tup [.int .u64 (ZqR v).1,.int .i64 (ZqR v).2]):=by
 refine FnP.mk func137 rfl ntmps137 rfl fun B a w F Z hfr G=>Ya ?_
 refine Zb G (qx 101 r1 (qI (qI qZ))) Z [3,2,1] [101,0] (fun _=>rfl) (fun _=>rfl) fun τ a w F G=>?_
 try dsimp only [RS.sub,SF.sub,CF.sub,csub,Anc.sub,List.map,zCF] at G
 generalize τ 1=v1 at G
 refine Za (Ya (rZ G (qg 0 101 r1 r1 (qa 101 r1 r1 (qf (o_eql .t qi) r1 qz (qR rr (qv 2 101 rfl r2 r1 (qw 101 rfl r2 r1 (qk rfl (fun h=>o_eql (.w h) qi) r2 qz (qf (ZH .t .t) r2 qz (qO rr qZ))))))))) Z [4,3,2,1] [101,0] fun G=>(Ya (Ya ?_))))
 refine Zg G (qR rr (qf (o_not .t) r1 qz (qR rr (qv 0 101 rfl r2 r1 (qw 101 rfl r2 r1 (qk rfl (fun h=>oP (ZtJ _) func178 (Args.one (.w h))) r2 qz (qk rfl (fun h=>o_not (.w h)) r2 qz (qk rfl (fun h=>oM (.w h)) r2 qz (Zv.cons (Zan.cond2 rfl rfl (fun h=>ZT (off:=2) 101 .is kr (by rfl))) r2 r1 (Zv.cons (Zan.cond2 rfl rfl (fun h=>Za8 (ag:=false) (sz:=1) 101 (.w h .adr) kr kr kr (by rfl))) r2 r1 (Zv.cons (Zan.cond2 rfl rfl (fun h=>ZaD (.w h) qi)) r2 qz (qk rfl (fun h=>Zab (.w h) (.wc h)) r3 qz (qk rfl (fun h=>oM (.w h)) r2 qz (Zv.cons (Zan.cond2 rfl rfl (fun h=>ZT (off:=2) 101 .is kr (by rfl))) r2 r1 (Zv.cons (Zan.cond2 rfl rfl (fun h=>Za8 (ag:=false) (sz:=1) 101 (.w h .adr) kr kr kr (by rfl))) r2 r1 (Zv.cons (Zan.cond2 rfl rfl (fun h=>ZaV (.w h) qi)) r2 qz (qk rfl (fun h=>Zab (.w h) (.wc h)) r3 qz (qf (ZH .t .t) r2 qz (qR rr (qv 1 101 rfl r2 r1 (qw 101 rfl r2 r1 (qk rfl (fun h=>oP (ZtJ _) func178 (Args.one (.w h))) r2 qz (qk rfl (fun h=>o_not (.w h)) r2 qz (qf (Zab .t .t) r2 qz qZ)))))))))))))))))))))))) Z [36,3,2,1] [101,0] rfl rfl fun a w F G=>?_
 try dsimp only [List.map,xD,xE,xT,xU,ldSF] at G
 refine Za (Zc G rfl (fun hc0=>?_) (fun hc0=>?_))
 ·rw [Zgu] at hc0
  have hr:Zcr v=false:=by simpa using hc0
  have hg:ZqR v=(0,1):=by unfold ZqR;rw [hr];rfl
  refine Ya (rZ G (qI (qI qZ)) Z [3,2,1] [101,0] fun G=>(Yh (Zm ?_)))
  refine Zad hfr G rfl (.tmp rfl (.tmp rfl .nil)) (.two (.int (by rw [hg];try exact ZjK hr)) (.int (by rw [hg])))
 rw [Zgu] at hc0
 have hr:Zcr v=true:=by simpa using hc0
 have hg:ZqR v=(Ztj v,0):=Ye hr
 refine Yf (Za (Ya (rZ G (qg 0 101 r1 r1 (qa 101 r1 r1 (qf (Zat Ycd kr .t) r1 qz (qf (ZgG .t qi (by decide)) r1 qz (qg 1 101 r1 r1 (qa 101 r1 r1 (qf (Zat Ycd kr .t) r1 qz (qf (ZqK .t .t) r2 qz (qf (ZgG .t qi (by decide)) r1 qz (qg 2 101 r1 r1 (qa 101 r1 r1 (qf (Zat Ycd kr .t) r1 qz (qf (ZqK .t .t) r2 qz (qO rr (qI qZ))))))))))))))) Z [3,2] [0] fun G=>Yh ?_)))
 refine Zad hfr G rfl (.tmp rfl (.tmp rfl .nil)) (.two (.int (by rw [hg];try exact ZjK hr)) (.int (by rw [hg])))
def ZcJ (x y:Int):Int:=if x<y then -1 else if y<x then 1 else 0
def Zep (e:Ze):List Int:=[e.src,e.kind,e.key,e.dst]
def ZfQ:List Int→List Int→Int
 | x :: xs,y :: ys=>if x=y then ZfQ xs ys else ZcJ x y
 | _,_=>0
def cmpE (e f:Ze):Int:=ZfQ (Zep e) (Zep f)
theorem Zcs {x y:Int} : ZcJ x y=0 ↔ x=y:=by unfold ZcJ;split <;> (try split) <;> omega
theorem Zmq:∀ (k:Nat) (xs ys:List Int),k<xs.length→k<ys.length→(∀ j,j<k→Nn xs j=Nn ys j)→Nn xs k≠Nn ys k→ZfQ xs ys=ZcJ (Nn xs k) (Nn ys k)
 | _,[],_,h,_,_,_=>by simp at h
 | _,_ :: _,[],_,h,_,_=>by simp at h
 | 0,x :: xs,y :: ys,_,_,_,hn=>by
  have hn':x≠y:=hn
  unfold ZfQ
  rw [Yb hn']
  rfl
 | k+1,x :: xs,y :: ys,h1,h2,hj,hn=>by
  have h0:x=y:=hj 0 ow
  unfold ZfQ
  rw [Ye h0]
  exact Zmq k xs ys (by simpa using h1) (by simpa using h2) (fun j h=>hj (j+1) ow) hn
theorem ZjF:∀ (xs ys:List Int),xs.length=ys.length→(∀ j,j<xs.length→Nn xs j=Nn ys j)→ZfQ xs ys=0
 | [],[],_,_=>rfl
 | [],_ :: _,h,_=>by simp at h
 | _ :: _,[],h,_=>by simp at h
 | x :: xs,y :: ys,h,hj=>by
  have h0:x=y:=hj 0 (by simp)
  unfold ZfQ
  rw [Ye h0]
  exact ZjF xs ys (by simpa using h) (fun j h=>hj (j+1) (by simpa using h))
theorem ZmJ (n:Int):FnP prog 151 [.int .i64 n] (.bool false):=by
 refine FnP.mk func151 rfl ntmps151 rfl fun B a w F Z hfr G=>Ya ?_
 refine rZ G qB Z [2,0] [0] fun G=>Ya ?_
 refine rZ G (qR rr (qR rr (qf (o_neq .t .t) r2 qz (qO rr qZ)))) Z [2] [0] fun G=>Yh ?_
 refine Zw hfr G rfl rfl rfl (.bool (by simp))
theorem ZsX (m n:Int):FnP prog 110 [.int .i64 m,.int .i64 n] (.int .i64 (ZcJ m n)):=by
 refine FnP.mk func110 rfl ntmps110 rfl fun B a w F Z hfr G=>Ya ?_
 refine rZ G (qI qZ) Z [4,1,0] [0] fun G=>Ya ?_
 refine rZ G (qR rr (qf (oP (ZmJ _) func151 (Args.one .t)) r1 qz (qO rr qZ))) Z [5,4,1,0] [0] fun G=>Ya ?_
 refine rZ G (qR rr (qf (oP (ZmJ _) func151 (Args.one .t)) r1 qz (qO rr qZ))) Z [6,5,4,1,0] [0] fun G=>(Ya (Ya ?_))
 refine rZ G (qR rr qZ) Z [11,6,4,1,0] [0] fun G=>?_
 refine Zc G rfl (fun hc0=>?_) (fun hc0=>?_)
 ·cases hc0
 refine Yf (Za (Ya (Ya (rZ G (qR rr qZ) Z [13,4,1,0] [0] fun G=>?_))))
 refine Zc G rfl (fun hc1=>?_) (fun hc1=>?_)
 ·cases hc1
 refine Yf (Za (Ya (Ya (rZ G (qR rr (qR rr (qL r2))) Z [16,4,1,0] [0] fun G=>?_))))
 refine Zc G rfl (fun hc2=>?_) (fun hc2=>?_)
 ·have hg:ZcJ m n = -1:=Ye (Yt hc2)
  refine Ya (rZ G (qI qZ) Z [4,1,0] [0] fun G=>(Yh (Zm ?_)))
  refine Zw hfr G rfl rfl rfl (.int (by rw [hg]))
 have h1:¬ m<n:=YE hc2
 refine Yf (Za (Ya (Ya (rZ G (qR rr (qR rr (qf (ZaV .t .t) r2 qz qZ))) Z [19,4] [0] fun G=>?_))))
 refine Zc G rfl (fun hc3=>?_) (fun hc3=>?_)
 ·have hg:ZcJ m n=1:=by unfold ZcJ;rw [Yb h1,Ye (Yt hc3)]
  refine Ya (rZ G (qI qZ) Z [4] [0] fun G=>(Yh (Zm ?_)))
  refine Zw hfr G rfl rfl rfl (.int (by rw [hg]))
 have hg:ZcJ m n=0:=by unfold ZcJ;rw [Yb h1,Yb (YE hc3)]
 refine Yf (Za (Ya (rZ G (qI qZ) Z [4] [0] fun G=>Yh ?_)))
 refine Zw hfr G rfl rfl rfl (.int (by rw [hg]))
theorem ZnR (d e:Ze):FnP prog 174 [.agg (Zn d),.agg (Zn e)] (.int .i64 (cmpE d e)):=by
 refine FnP.mk func174 rfl ntmps174 rfl fun B a w F Z hfr G=>Ya ?_
 refine Zb G (qx 101 r1 (qx 102 r1 (qI qZ))) Z [4,3,2] [102,101,0] (fun _=>rfl) (fun _=>rfl) fun τ a w F G=>?_
 try dsimp only [RS.sub,SF.sub,CF.sub,csub,Anc.sub,List.map,zCF] at G
 generalize τ 2=v2,τ 3=v3 at G
 refine Za (Ya (Zb G (qg 0 101 r1 r1 (qa 101 r1 r1 (qg 2 101 r1 r1 (qa 101 r1 r1 (qg 3 101 r1 r1 (qa 101 r1 r1 (qg 1 101 r1 r1 (qa 101 r1 r1 (qf (Zbf (sz:=1) (r:=[(0,.tmp 10),(1,.tmp 12),(2,.tmp 14),(3,.tmp 16)]) (zs:=[.int .i64 0,.int .i64 0,.int .i64 0,.int .i64 0]) (pl:=[(0,1),(1,1),(2,1),(3,1)]) underlying289 kr kr rfl (.one rfl .t one_int kr (.one rfl .t one_int kr (.one rfl .t one_int kr (.one rfl .t one_int kr .nil)))) (by rfl)) r4 qz (qf (oH [.int .i64 0,.int .i64 0,.int .i64 0,.int .i64 0] 103) trivial qz (qS 4 103 r2 r1 qZ))))))))))) Z [5,4,3] [103,102,0] (fun _=>rfl) (fun _=>rfl) fun τ a w F G=>?_))
 try dsimp only [RS.sub,SF.sub,CF.sub,csub,Anc.sub,List.map,Zf,xL,xM,Nat.reduceAdd,xD,xE,xT,xU,xC,xN,zCF,ldSF] at G
 generalize τ 5=v5 at G
 refine Za (Ya (Zb G (qg 0 102 r1 r1 (qa 102 r1 r1 (qg 2 102 r1 r1 (qa 102 r1 r1 (qg 3 102 r1 r1 (qa 102 r1 r1 (qg 1 102 r1 r1 (qa 102 r1 r1 (qf (Zbf (sz:=1) (r:=[(0,.tmp 19),(1,.tmp 21),(2,.tmp 23),(3,.tmp 25)]) (zs:=[.int .i64 0,.int .i64 0,.int .i64 0,.int .i64 0]) (pl:=[(0,1),(1,1),(2,1),(3,1)]) underlying289 kr kr rfl (.one rfl .t one_int kr (.one rfl .t one_int kr (.one rfl .t one_int kr (.one rfl .t one_int kr .nil)))) (by rfl)) r4 qz (qf (oH [.int .i64 0,.int .i64 0,.int .i64 0,.int .i64 0] 104) trivial qz (qS 4 104 r2 r1 qZ))))))))))) Z [6,5,4] [104,103,0] (fun _=>rfl) (fun _=>rfl) fun τ a w F G=>?_))
 try dsimp only [RS.sub,SF.sub,CF.sub,csub,Anc.sub,List.map,Zf,xL,xM,Nat.reduceAdd,xD,xE,xT,xU,xC,xN,zCF,ldSF] at G
 generalize τ 6=v6 at G
 refine Za (Ya (Ya (rZ G (qJ qZ) Z [27,6,5,4] [104,103,0] fun G=>Yg ?_)))
 replace G:=G.turn 103 rfl (r':=.ob (.val v5) (ZlZ 289 (fun x=>PV.int .i64 x) (Zep d))) (fun τ w f y h=>ZgS (f:=(fun x=>PV.int .i64 x)) (l:=Zep d) τ w f y h)
 replace G:=G.turn 104 rfl (r':=.ob (.val v6) (ZlZ 289 (fun x=>PV.int .i64 x) (Zep e))) (fun τ w f y h=>ZgS (f:=(fun x=>PV.int .i64 x)) (l:=Zep e) τ w f y h)
 obtain ⟨F,G⟩:=G.nM [27,6,5] [104,103,0]
 refine Zbb (σ:=Nat) (fun s=>(⟨[(5,.pv (.is v5)),(6,.pv (.is v6)),(27,.pv (.int .i64 s))],[(0,frame B),(103,.ob (.val v5) (ZlZ 289 (fun x=>PV.int .i64 x) (Zep d))),(104,.ob (.val v6) (ZlZ 289 (fun x=>PV.int .i64 x) (Zep e)))]⟩:En)) (fun s=>s≤4 ∧ ∀ j,j<s→Nn (Zep d) j=Nn (Zep e) j) (fun s=>4 - s) 0 G ⟨by decide,fun j hj=>absurd hj (Y9 j)⟩ ?_
 clear G;intro k a w F hC G
 try dsimp only at hC
 try dsimp only at G
 obtain ⟨hk,hq⟩:=hC
 refine Ya (rZ G (qf (ZaD .t qi) r1 qz qZ) Z [28,27,6,5] [104,103,0] fun G=>Ya ?_)
 refine Zc G rfl (fun hc0=>?_) (fun hc0=>?_)
 ·have hkl:k<4:=by simp at hc0;omega
  refine Yf (Za (Ya (Yg (Ya (rZ G (qR rr (qO rr qZ)) Z [27,7,6,5] [104,103,0] fun G=>Ya ?_)))))
  refine Zz G (qR rr (qf (ZbQ (sz:=1) 103 underlying289 kr .is .t ow ow) r2 r1 (qf (Zin 103 .adr kr kr (by simp only [Zep,Yl,Yy];omega)) r1 r1 (qR rr (qf (ZbQ (sz:=1) 104 underlying289 kr .is .t ow ow) r2 r1 (qf (Zin 104 .adr kr kr (by simp only [Zep,Yl,Yy];omega)) r1 r1 (qf (oP (ZsX _ _) func110 (Args.two .t .t)) r2 qz (qO rr qZ)))))))) Z [27,8,6,5] [104,103,0] rfl rfl fun a w F G=>?_
  try dsimp only [List.map,xD,xE,xT,xU,ldSF] at G
  simp only [Y7,Nat.mul_one,Yc] at G
  refine Za (Ya (rZ G (qR rr (qf (o_neq .t qi) r1 qz qZ)) Z [38,27,8,6,5] [104,103,0] fun G=>?_))
  refine Zc G rfl (fun hc1=>?_) (fun hc1=>?_)
  ·have hne:ZcJ (Nn (Zep d) k) (Nn (Zep e) k)≠0:=by simpa using hc1
   have hg:cmpE d e=ZcJ (Nn (Zep d) k) (Nn (Zep e) k):=Zmq k _ _ hkl hkl hq (fun e=>hne (Zcs.2 e))
   refine Ya (rZ G (qR rr (qO rr qZ)) Z [27,6,5,4] [104,103,0] fun G=>(Yh (ZB (Zm (Zm (ZB (Zm ?_)))))))
   refine Zw hfr G rfl rfl rfl (.int (by rw [hg]))
  have hqk:Nn (Zep d) k=Nn (Zep e) k:=Zcs.1 (by simpa using hc1)
  refine Yf (Zk (Za (rZ G (qp r1 (qR rr qZ)) Z [27,6,5] [104,103,0] fun G=>?_)))
  replace G:=G.ent (i:=27) (s':=.pv (.int .i64 ((k+1:Nat):Int))) rfl (.int (Zd ow))
  obtain ⟨F,G⟩:=G.nM [27,6,5] [104,103,0]
  exact ⟨k+1,F,⟨by omega,fun j hj=>by rcases Y8 (Yad hj) with h | h;exact hq j h;rw [h];exact hqk⟩,G,by omega⟩
 have hg:cmpE d e=0:=ZjF _ _ rfl fun j hj=>hq j (by simp only [Zep,Yl,Yy] at hj;simp at hc0;omega)
 refine Yx (Zj (Zj (Zr (Za (Ya (rZ G (qI qZ) Z [4] [104,103,0] fun G=>Yh ?_))))))
 refine Zw hfr G rfl rfl rfl (.int (by rw [hg]))
theorem Zrs (x:Int) (hx:0≤x∧x<256):FnP prog 190 [.int .u64 x] (.any):=by
 refine FnP.mk func190 rfl ntmps190 rfl fun B a w F Z hfr G=>?_
 have u8w:IntKind.wrap .u8 x=x:=ZgR ⟨by simp [IntKind.min,IntKind.signed,IntKind.bits];omega,by simp [IntKind.max,IntKind.signed,IntKind.bits];omega⟩
 have hx256:x<(256:Nat):=by omega
 refine Ya (rZ G (qI qZ) Z [2,0] [0] fun G=>(Ya (Ya ?_)))
 refine rZ G (qR rr (qf (ZbM .t qi) r1 qz qZ)) Z [4,2,0] [0] fun G=>?_
 refine Zc G rfl (fun hc0=>?_) (fun hc0=>?_)
 ·simp at hc0;omega
 refine Yf (Za (Ya (Ya (rZ G (qR rr (qf (ZbM .t qi) r1 qz qZ)) Z [8,2,0] [0] fun G=>?_))))
 refine Zc G rfl (fun hc1=>?_) (fun hc1=>?_)
 ·simp at hc1;omega
 refine Yf (Za (Ya (Ya (rZ G (qR rr (qf (ZbM .t qi) r1 qz qZ)) Z [14,2,0] [0] fun G=>?_))))
 refine Zc G rfl (fun hc2=>?_) (fun hc2=>?_)
 ·simp at hc2;omega
 refine Yf (Za (Ya (rZ G (qR rr (qR rr (qf (Zat underlying5 kr .t) r1 qz (qf (ZkY Ycc (.cs kr) .t (by rw [u8w];omega) (by rw [u8w];exact hx256)) r1 qz (qf (Zat Yb4 kr .t) r1 qz (qf (o_add .t .t) r2 qz (qO rr qZ))))))) Z [2] [0] fun G=>Yh ?_)))
 refine Zw hfr G rfl rfl rfl .any
theorem Zqk (x:Int) (hx:0≤x∧x<256):FnP prog 142 [.int .u64 x] (.any):=by
 refine FnP.mk func142 rfl ntmps142 rfl fun B a w F Z hfr G=>Ya ?_
 refine rZ G (qI qZ) Z [2,0] [0] fun G=>Ya ?_
 refine wp_cond (by rfl) ?_
 refine Yf (Za (Ya (rZ G (qR rr (qf (oP (Zrs x hx) func190 (Args.one .t)) r1 qz (qO rr qZ))) Z [2] [0] fun G=>Yh ?_)))
 refine Zw hfr G rfl rfl rfl .any
theorem Zo3 (v:Value) (l:List Ze) (hl:l.length≤12) (hs:∀ j,0<j→j<l.length→¬ cmpE (Nn l j) (Nn l (j - 1))<0):FnG prog 232 1 [.is v,.int .i64 0,.int .i64 l.length,.is (.func (.func 174) #[] #[])] [ZA 42 4 Zn l v] (.tup []) (fun _=>[ZA 42 4 Zn l v]):=by
 refine FnG.mk func232 rfl ntmps232 rfl kr fun B F0 a w F Z hG G=>?_
 have G:=G.turn 1 rfl (r':=RS.ob (.val v) (ZA 42 4 Zn l)) (fun _ _ _ _ h=>h)
 obtain ⟨F,G⟩:=G.nM [3,2,1,0] [1,0]
 refine Ya (rZ G (qR rr (qp r1 (qO rr qZ))) Z [8,3,2,1,0] [1,0] fun G=>Yg ?_)
 replace G:=G.ent (i:=8) (s':=.pv (.int .i64 ((1:Nat):Int))) rfl (.int (by decide))
 obtain ⟨F,G⟩:=G.nM [8,3,2,1,0] [1,0]
 refine Zbb (σ:=Nat) (fun s=>(⟨[(0,.pv (.is v)),(1,.pv (.int .i64 0)),(2,.pv (.int .i64 l.length)),(3,.pv (.is (.func (.func 174) #[] #[]))),(8,.pv (.int .i64 s))],[(0,frame B),(1,.ob (.val v) (ZA 42 4 Zn l))]⟩:En)) (fun s=>1≤s∧s≤13) (fun s=>13 - s) 1 G ⟨by decide,by decide⟩ ?_
 clear G;intro i a w F hC G
 try dsimp only at hC
 try dsimp only at G
 obtain ⟨hi1,hi2⟩:=hC
 have hw:IntKind.wrap .i64 ((i:Int) - 1)=((i - 1:Nat):Int):=by rw [ZC ow];omega
 refine Ya (Ya (rZ G (qR rr (qR rr (qL r2))) Z [14,8,3,2,1,0] [1,0] fun G=>?_))
 refine Zc G rfl (fun hc0=>?_) (fun hc0=>?_)
 ·have hil:i<l.length:=by simp at hc0;omega
  refine Yf (Za (Ya (Yg (Ya (rZ G (qR rr (qO rr qZ)) Z [9,8,3,2,1,0] [1,0] fun G=>Yg ?_)))))
  obtain ⟨F,G⟩:=G.nM [9,8,3,2,1,0] [1,0]
  refine Zbb (σ:=Unit) (fun s=>(⟨[(0,.pv (.is v)),(1,.pv (.int .i64 0)),(2,.pv (.int .i64 l.length)),(3,.pv (.is (.func (.func 174) #[] #[]))),(8,.pv (.int .i64 i)),(9,.pv (.int .i64 i))],[(0,frame B),(1,.ob (.val v) (ZA 42 4 Zn l))]⟩:En)) (fun s=>True) (fun s=>0) () G trivial ?_
  clear G;intro u a w F hC G
  try dsimp only at hC
  try dsimp only at G
  refine Ya (Ya (Zz G (qR rr (qR rr (qf (ZaV .t .t) r2 qz (qR rr (qm rfl rfl rfl rfl (qm rfl rfl rfl rfl (qm rfl rfl rfl rfl (qk rfl (fun h=>o_indexAddr_row (sz:=4) 1 (.mk Yb0 kr) (.w h .is) (.w h) ow ow (by rfl)) r3 r1 (qk rfl (fun h=>ZD (ag:=true) (sz':=4) (sz:=4) 1 (.w h) (by intro x;rfl) ow kr kr kr) r2 r1 (qm rfl rfl rfl rfl (qm rfl rfl rfl rfl (qk rfl (fun h=>o_sub (.w h) qi) r2 qz (qk rfl (fun h=>o_indexAddr_row (sz:=4) 1 (.mk Yb0 kr) (.w h .is) (.w h) (by rw [hw];omega) (by rw [hw];omega) (by rfl)) r3 r1 (qk rfl (fun h=>ZD (ag:=true) (sz':=4) (sz:=4) 1 (.w h) (by intro x;rfl) (by rw [hw];omega) kr kr kr) r2 r1 (qk rfl (fun h=>ZpS (.w h) (ZnR _ _) func174 rfl kr (Args.two (.pagg (.w h)) (.pagg (.w h)))) r4 qz (qk rfl (fun h=>ZaD (.w h) qi) r2 qz (qf (ZH .t .t) r2 qz qZ))))))))))))))))) Z [34,9,8,3,2,1,0] [1,0] rfl rfl fun a w F G=>?_))
  try dsimp only [List.map,xD,xE,xT,xU,ldSF] at G
  refine Za (Zc G rfl (fun hc1=>?_) (fun hc1=>?_))
  ·simp only [Yr,Yu,Yc,hw] at hc1
   exact (hs i ow ow hc1.2).elim
  refine Yx (Zj (Zj (Zr (Zk (Za (rZ G (qR rr (qp r1 (qO rr qZ))) Z [8,3,2,1,0] [1,0] fun G=>?_))))))
  replace G:=G.ent (i:=8) (s':=.pv (.int .i64 ((i+1:Nat):Int))) rfl (.int (Zd ow))
  obtain ⟨F,G⟩:=G.nM [8,3,2,1,0] [1,0]
  exact ⟨i+1,F,⟨by omega,by omega⟩,G,by omega⟩
 refine Yx (Zj (Zj (Zr ?_)))
 have G:=G.turn 1 rfl (r':=RS.hp (ZA 42 4 Zn l v)) (fun _ _ _ _ h=>h)
 refine Za4 hG G rfl .nil Zbg.none rfl
theorem Ztv (v:Value) (l:List Ze) (hl:l.length≤12) (hs:∀ j,0<j→j<l.length→¬ cmpE (Nn l j) (Nn l (j - 1))<0):FnG prog 211 1 [.is v,.int .i64 0,.int .i64 l.length,.any,.is (.func (.func 174) #[] #[])] [ZA 42 4 Zn l v] (.tup []) (fun _=>[ZA 42 4 Zn l v]):=by
 refine FnG.mk func211 rfl ntmps211 rfl kr fun B F0 a w F Z hG G=>?_
 have G:=G.turn 1 rfl (r':=RS.ob (.val v) (ZA 42 4 Zn l)) (fun _ _ _ _ h=>h)
 obtain ⟨F,G⟩:=G.nM [4,3,2,1,0] [1,0]
 refine Ya (rZ G qB Z [10,4,3,2,1,0] [1,0] fun G=>Ya ?_)
 refine rZ G qB Z [11,10,4,3,2,1,0] [1,0] fun G=>Yg ?_
 obtain ⟨F,G⟩:=G.nM [4,2,1,0] [1,0]
 refine Zbb (σ:=Unit) (fun s=>(⟨[(0,.pv (.is v)),(1,.pv (.int .i64 0)),(2,.pv (.int .i64 l.length)),(4,.pv (.is (.func (.func 174) #[] #[])))],[(0,frame B),(1,.ob (.val v) (ZA 42 4 Zn l))]⟩:En)) (fun s=>True) (fun s=>0) () G trivial ?_
 clear G;intro u a w F hC G
 try dsimp only at hC
 try dsimp only at G
 refine Yg (Ya (Zg G (qR rr (qR rr (qf (o_sub .t .t) r2 qz (qO rr qZ)))) Z [12,4,2,1,0] [1,0] rfl rfl fun a w F G=>?_))
 skip
 refine Za (Ya (Ya (rZ G (qR rr (qf (Zlu .t qi) r1 qz qZ)) Z [25,12,4,2,1,0] [1,0] fun G=>?_)))
 refine Zc G rfl (fun hc0=>?_) (fun hc0=>?_)
 ·refine Ya (rZ G (qR rr (qR rr (qR rr (qR rr (qf (Za3 1 (Zo3 v l hl hs) func232 rfl kr (Args.four .t .t .t .t)) r4 r1 qZ))))) Z [12,4,2,1,0] [1,0] fun G=>(Yh (Zm (ZB (Zm (ZB ?_))))))
  have G:=G.turn 1 rfl (r':=RS.hp (ZA 42 4 Zn l v)) (fun _ _ _ _ h=>h)
  refine Za4 hG G rfl .nil Zbg.none rfl
 rw [ZC ow] at hc0
 simp at hc0
 omega
theorem Zk2 (v:Value) (l:List Ze) (hl:l.length≤12) (hs:∀ j,0<j→j<l.length→¬ cmpE (Nn l j) (Nn l (j - 1))<0):FnG prog 173 1 [.is v,.is (.func (.func 174) #[] #[])] [ZA 42 4 Zn l v] (.tup []) (fun _=>[ZA 42 4 Zn l v]):=by
 refine FnG.mk func173 rfl ntmps173 rfl kr fun B F0 a w F Z hG G=>?_
 have G:=G.turn 1 rfl (r':=RS.ob (.val v) (ZA 42 4 Zn l)) (fun _ _ _ _ h=>h)
 obtain ⟨F,G⟩:=G.nM [1,0] [1,0]
 refine Ya (Zg G (qR rr (qf (Zas 1 Yb0 .is) r1 r1 (qO rr qZ))) Z [4,1,0] [1,0] rfl rfl fun a w F G=>?_)
 have hxl:0≤IntKind.wrap .u64 (l.length:Int)∧IntKind.wrap .u64 (l.length:Int)<256:=by rw [Zao];omega
 refine Za (Zg G (qR rr (qR rr (qR rr (qf (Zat Yb8 kr .t) r1 qz (qf (oP (Zqk _ hxl) func142 (Args.one .t)) r1 qz (qR rr (qf (Za3 1 (Ztv v l hl hs) func211 rfl kr (Args.five .t qi .t .t .t)) r4 r1 qZ))))))) Z [] [1,0] rfl rfl fun a w F G=>?_)
 have G:=G.turn 1 rfl (r':=RS.hp (ZA 42 4 Zn l v)) (fun _ _ _ _ h=>h)
 refine Za4 hG G rfl .nil Zbg.none rfl
theorem Zpm (w:World) (yy:Ys):PVs (Zn noE) [.int .i64 0,.int .i64 0,.int .i64 0,.int .i64 0] w yy:=by
 have h:inR .i64 0:=by simp [inR,IntKind.min,IntKind.max,IntKind.signed,IntKind.bits]
 exact ⟨⟨rfl,rfl,h⟩,⟨rfl,rfl,h⟩,⟨rfl,rfl,h⟩,⟨rfl,rfl,h⟩,tv⟩
theorem Zdf:inR .i64 0:=by show IntKind.min .i64≤0∧0≤IntKind.max .i64;decide
def Zp {α:Type} [DecidableEq α]:List α→List α
 | []=>[]
 | [x]=>[x]
 | x :: y :: l=>if x=y then Zp (y :: l) else x :: Zp (y :: l)
theorem Zcb {α:Type} [DecidableEq α] (a b:α):∀ l:List α,Zp (l ++ [a,b])=if a=b then Zp (l ++ [a]) else Zp (l ++ [a]) ++ [b]
 | []=>by
  show (if a=b then [b] else a :: [b])=if a=b then [a] else [a] ++ [b]
  split
  ·rename_i h;rw [h]
  ·rfl
 | [x]=>by
  have ih:=Zcb a b []
  show (if x=a then Zp ([] ++ [a,b]) else x :: Zp ([] ++ [a,b]))=if a=b then (if x=a then Zp ([] ++ [a]) else x :: Zp ([] ++ [a])) else (if x=a then Zp ([] ++ [a]) else x :: Zp ([] ++ [a])) ++ [b]
  rw [ih]
  by_cases h1:x=a <;> by_cases h2:a=b <;> simp [h1,h2]
 | x :: y :: l=>by
  have ih:=Zcb a b (y :: l)
  show (if x=y then Zp (y :: l ++ [a,b]) else x :: Zp (y :: l ++ [a,b]))=if a=b then (if x=y then Zp (y :: l ++ [a]) else x :: Zp (y :: l ++ [a])) else (if x=y then Zp (y :: l ++ [a]) else x :: Zp (y :: l ++ [a])) ++ [b]
  rw [ih]
  by_cases h1:x=y <;> by_cases h2:a=b <;> simp [h1,h2]
theorem Zbi {α:Type} [DecidableEq α] [Inhabited α] {l:List α} {p:Nat} (h1:1≤p) (h2:p<l.length):Zp (l.take (p+1))=if Nn l (p - 1)=Nn l p then Zp (l.take p) else Zp (l.take p) ++ [Nn l p]:=by
 obtain ⟨q,rfl⟩:∃ q,p=q+1:=⟨p - 1,by omega⟩
 rw [Zt h2,Zt (show q<l.length by omega),YP]
 exact Zcb _ _ _
theorem ZbC {α:Type} [DecidableEq α]:∀ {l:List α},l.length≤1→Zp l=l
 | [],_=>rfl
 | [x],_=>rfl
 | x :: y :: l,h=>by simp at h
structure STO {α:Type} (lt:α→α→Bool):Prop where
 irr:∀ a,lt a a=false
 tr:∀ a b c,lt a b=true→lt b c=true→lt a c=true
 tot:∀ a b,lt a b=false→lt b a=false→a=b
section
variable {α:Type} {lt:α→α→Bool}
theorem STO.asym (h:STO lt) {a b:α} (k:lt a b=true):lt b a=false:=by
 cases e:lt b a with
 | false=>rfl
 | true=>have:=h.tr a b a k e;rw [h.irr] at this;cases this
theorem STO.ne (h:STO lt) {a b:α} (k:lt a b=true):a≠b:=fun e=>by subst e;rw [h.irr] at k;cases k
theorem STO.le (h:STO lt) {a b c:α} (h1:lt a b=true) (h2:lt c b=false):lt a c=true:=by
 cases e:lt a c with
 | true=>rfl
 | false=>
  cases e2:lt c a with
  | true=>have:=h.tr c a b e2 h1;rw [h2] at this;cases this
  | false=>have:=h.tot a c e e2;subst this;rw [h1] at h2;cases h2
abbrev Znz (lt:α→α→Bool) (l:List α):Prop:=l.Pairwise fun a b=>lt a b=true
theorem Ze7 (h:STO lt):∀ {a b:List α},Znz lt a→Znz lt b→(∀ x,x ∈ a ↔ x ∈ b)→a=b
 | [],[],_,_,_=>rfl
 | [],y :: b,_,_,k=>by have:=(k y).2 (by simp);cases this
 | x :: a,[],_,_,k=>by have:=(k x).1 (by simp);cases this
 | x :: a,y :: b,ha,hb,k=>by
  have ha':=Yq.1 ha
  have hb':=Yq.1 hb
  have e:x=y:=by
   rcases Yk.1 ((k x).1 (by simp)) with e | e
   ·exact e
   ·rcases Yk.1 ((k y).2 (by simp)) with e2 | e2
    ·exact e2.symm
    ·have h1:=h.asym (hb'.1 x e);rw [ha'.1 y e2] at h1;cases h1
  subst e
  congr 1
  refine Ze7 h ha'.2 hb'.2 fun z=>⟨fun hz=>?_,fun hz=>?_⟩
  ·rcases Yk.1 ((k z).1 (by simp [hz])) with e | e
   ·exact absurd e.symm (h.ne (ha'.1 z hz))
   ·exact e
  ·rcases Yk.1 ((k z).2 (by simp [hz])) with e | e
   ·exact absurd e.symm (h.ne (hb'.1 z hz))
   ·exact e
theorem Zkz (h:STO lt) (l:List α):(l.mergeSort fun x y=>!lt y x).Pairwise (fun a b=>lt b a=false):=by
 have:=List.pairwise_mergeSort (le:=fun x y=>!lt y x) (fun a b c h1 h2=>by
  simp at h1 h2 ⊢
  cases e:lt c a with
  | false=>rfl
  | true=>have:=h.le e h1;rw [h2] at this;cases this) (fun a b=>by
  cases e:lt b a with
  | false=>simp
  | true=>simp [h.asym e]) l
 exact this.imp fun h=>by simpa using h
variable [DecidableEq α]
def ZdW (lt:α→α→Bool) (e:α):List α→Bool→List α
 | [],d=>if d then [] else [e]
 | x :: l,d=>(if d=false∧lt x e=false then [e] else [])++(if x=e then [] else [x])++ZdW lt e l (d || !lt x e)
def ZkX (lt:α→α→Bool) (l:List α) (e:α):List α:=ZdW lt e l false
theorem Zir (lt:α→α→Bool) (e:α):∀ (l:List α) (d:Bool),(ZdW lt e l d).length≤l.length+(if d then 0 else 1)
 | [],d=>by cases d <;> simp [ZdW]
 | x :: l,d=>by
  have ih:=Zir lt e l (d || !lt x e)
  have h1:(if x=e then ([]:List α) else [x]).length≤1:=by split <;> simp
  have h2:(if d=false∧lt x e=false then [e] else ([]:List α)).length+(if (d || !lt x e)=true then 0 else 1)≤if d=true then 0 else 1:=by
   cases d <;> cases lt x e <;> simp
  rw [ZdW,Yd,Yd,Yl]
  omega
theorem Zd1 (h:STO lt) {e:α} : ∀ {l:List α},(∀ x ∈ l,lt e x=true)→ZdW lt e l true=l
 | [],_=>rfl
 | x :: l,k=>by
  have h1:=k x (by simp)
  rw [ZdW,YbT,Zd1 h fun y hy=>k y (by simp [hy]),Yb (by simp),Yb (h.ne h1).symm]
  rfl
theorem Zkj (h:STO lt) {e:α} : ∀ {l:List α},Znz lt l→Znz lt (ZkX lt l e) ∧ ∀ x,x ∈ ZkX lt l e ↔ x ∈ l∨x=e
 | [],_=>by simp [ZkX,ZdW]
 | y :: l,k=>by
  have h':=Yq.1 k
  unfold ZkX
  cases h1:lt y e with
  | true=>
   have e1:ZdW lt e (y :: l) false=y :: ZdW lt e l false:=by
    rw [ZdW,Yb (by rw [h1];simp),Yb (h.ne h1),h1];rfl
   have ih:=Zkj h (e:=e) h'.2
   rw [e1]
   refine ⟨Yq.2 ⟨fun p hp=>?_,ih.1⟩,fun x=>?_⟩
   ·rcases (ih.2 p).1 hp with hp | rfl
    ·exact h'.1 p hp
    ·exact h1
   ·have:=ih.2 x
    unfold ZkX at this
    simp only [Yk,this,or_assoc]
  | false=>
   by_cases h2:y=e
   ·subst h2
    rw [ZdW,Ye ⟨rfl,h1⟩,Ye rfl,h1,show (false || !false)=true from rfl,Zd1 h h'.1]
    exact ⟨k,fun x=>by simp;intro e;exact .inl e⟩
   ·have h3:lt e y=true:=by
     cases e3:lt e y with
     | true=>rfl
     | false=>exact absurd (h.tot y e h1 e3) h2
    rw [ZdW,Ye ⟨rfl,h1⟩,Yb h2,h1,show (false || !false)=true from rfl,Zd1 h fun x hx=>h.tr e y x h3 (h'.1 x hx)]
    refine ⟨Yq.2 ⟨fun p hp=>?_,k⟩,fun x=>by simp;constructor <;> (rintro (h | h | h) <;> simp [h])⟩
    rcases Yk.1 hp with rfl | hp
    ·exact h3
    ·exact h.tr e y p h3 (h'.1 p hp)
def Zbv (lt:α→α→Bool) (l:List α):List α:=l.foldl (ZkX lt) []
theorem Zbo (h:STO lt) (l:List α):Znz lt (Zbv lt l) ∧ ∀ x,x ∈ Zbv lt l ↔ x ∈ l:=by
 have key:∀ (l acc:List α),Znz lt acc→Znz lt (l.foldl (ZkX lt) acc) ∧ ∀ x,x ∈ l.foldl (ZkX lt) acc ↔ x ∈ acc∨x ∈ l:=by
  intro l
  induction l with
  | nil=>intro acc k;exact ⟨k,fun x=>by simp⟩
  | cons y l ih=>
   intro acc k
   have h1:=Zkj h (e:=y) k
   have h2:=ih (ZkX lt acc y) h1.1
   refine ⟨h2.1,fun x=>?_⟩
   rw [Yav,h2.2 x,h1.2 x,Yk,or_assoc]
 have:=key l [] List.Pairwise.nil
 exact ⟨this.1,fun x=>by rw [show Zbv lt l=l.foldl (ZkX lt) [] from rfl,this.2 x];simp⟩
theorem ZcM (h:STO lt):∀ {l:List α},l.Pairwise (fun a b=>lt b a=false)→Znz lt (Zp l) ∧ ∀ x,x ∈ Zp l ↔ x ∈ l
 | [],_=>by simp [Zp]
 | [x],_=>by simp [Zp]
 | x :: y :: l,k=>by
  have h':=Yq.1 k
  have ih:=ZcM h h'.2
  show Znz lt (if x=y then Zp (y :: l) else x :: Zp (y :: l)) ∧ ∀ z,z ∈ (if x=y then Zp (y :: l) else x :: Zp (y :: l)) ↔ _
  split
  ·rename_i e
   subst e
   exact ⟨ih.1,fun z=>by rw [ih.2 z];simp⟩
  ·rename_i e
   have hxy:lt x y=true:=by
    cases e2:lt x y with
    | true=>rfl
    | false=>exact absurd (h.tot x y e2 (h'.1 y (by simp))) e
   refine ⟨Yq.2 ⟨fun z hz=>?_,ih.1⟩,fun z=>by rw [Yk,ih.2 z,← Yk]⟩
   rcases Yk.1 ((ih.2 z).1 hz) with rfl | hz2
   ·exact hxy
   ·exact h.le hxy ((Yq.1 h'.2).1 z hz2)
theorem Zil (h:STO lt) (l:List α):Zp (l.mergeSort fun x y=>!lt y x)=Zbv lt l:=
 Ze7 h (ZcM h (Zkz h l)).1 (Zbo h l).1 fun x=>by rw [(ZcM h (Zkz h l)).2,(Zbo h l).2];exact (YaK l _).mem_iff
end
theorem Ztk (d e:Ze):(decide (d.src=e.src) && (decide (d.dst=e.dst) && (decide (d.kind=e.kind) && (decide (d.key=e.key) && true))))=decide (d=e):=by
 cases d;cases e
 rw [Ybi]
 simp
def ltE (a b:Ze):Bool:=decide (cmpE a b<0)
theorem Zjz (a b:Ze):(cmpE a b<0 ↔ a.src<b.src∨a.src=b.src∧(a.kind<b.kind∨a.kind=b.kind∧(a.key<b.key∨a.key=b.key∧a.dst<b.dst))):=by
 unfold cmpE Zep ZfQ
 by_cases h1:a.src=b.src
 ·rw [Ye h1]
  unfold ZfQ
  by_cases h2:a.kind=b.kind
  ·rw [Ye h2]
   unfold ZfQ
   by_cases h3:a.key=b.key
   ·rw [Ye h3]
    unfold ZfQ
    by_cases h4:a.dst=b.dst
    ·rw [Ye h4];unfold ZfQ;simp;omega
    ·rw [Yb h4];unfold ZcJ;split <;> (try split) <;> omega
   ·rw [Yb h3];unfold ZcJ;split <;> (try split) <;> omega
  ·rw [Yb h2];unfold ZcJ;split <;> (try split) <;> omega
 ·rw [Yb h1];unfold ZcJ;split <;> (try split) <;> omega
theorem ZrM (a b:Ze):ltE a b=true ↔ a.src<b.src∨a.src=b.src∧(a.kind<b.kind∨a.kind=b.kind∧(a.key<b.key∨a.key=b.key∧a.dst<b.dst)):=by unfold ltE;rw [Yu,Zjz]
theorem Zjt (a b:Ze):ltE a b=false ↔ ¬ (a.src<b.src∨a.src=b.src∧(a.kind<b.kind∨a.kind=b.kind∧(a.key<b.key∨a.key=b.key∧a.dst<b.dst))):=by unfold ltE;rw [YH,Zjz]
theorem ZbK:STO ltE where
 irr a:=by rw [Zjt];omega
 tr a b c h1 h2:=by rw [ZrM] at *;omega
 tot a b h1 h2:=by
  rw [Zjt] at h1 h2
  cases a;cases b
  simp only [Ze.mk.injEq] at *
  omega
def Zcw (l:List Ze):List Ze:=l.mergeSort fun x y=>!ltE y x
theorem Zln (l:List Ze):Zp (Zcw l)=Zbv ltE l:=Zil ZbK l
theorem ZhY (l:List Ze):(Zcw l).length=l.length:=Ybd l
theorem ZfM {α:Type} [Inhabited α] {p:α→Bool} {l:List α} {j:Nat} (h:j<l.length):(l.take (j+1)).filter p=(l.take j).filter p++if p (Nn l j)=true then [Nn l j] else []:=by
 rw [Zt h,Yaa]
 congr 1
 by_cases e:p (Nn l j)=true
 ·rw [Ye e];simp [e]
 ·rw [Yb e];simp at e;simp [e]
def Z2 {α:Type} [Inhabited α] (p:α→Bool) (l:List α):Int:=match l.findIdx? p with
 | some i=>i
 | none=>-1
theorem ZcI {α:Type} [Inhabited α] {p:α→Bool} {l:List α} (h:∀ k,k<l.length→p (Nn l k)=false):Z2 p l = -1:=by
 unfold Z2
 have:l.findIdx? p=none:=List.findIdx?_eq_none_iff.2 fun x hx=>by
  obtain ⟨k,hk,rfl⟩:=YaR.1 hx
  rw [← nth_eq hk];exact h k hk
 rw [this]
theorem Zd4 {α:Type} [Inhabited α] {p:α→Bool} {l:List α} {i:Nat} (hi:i<l.length) (h:p (Nn l i)=true) (h2:∀ k,k<i→p (Nn l k)=false):Z2 p l=i:=by
 unfold Z2
 have:l.findIdx? p=some i:=List.findIdx?_eq_some_iff_getElem.2 ⟨hi,by rw [← nth_eq hi];exact h,fun k hk=>by rw [← nth_eq ow,h2 k hk];decide⟩
 rw [this]
theorem ZbD {α:Type} [Inhabited α] (p:α→Bool) (l:List α):(Z2 p l = -1 ∧ ∀ k,k<l.length→p (Nn l k)=false) ∨ ∃ i:Nat,Z2 p l=i∧i<l.length∧p (Nn l i)=true ∧ ∀ k,k<i→p (Nn l k)=false:=by
 cases h:l.findIdx? p with
 | none=>
  left
  refine ⟨by unfold Z2;rw [h],fun k hk=>?_⟩
  have:=List.findIdx?_eq_none_iff.1 h l[k] (YaS hk)
  rw [nth_eq hk];exact this
 | some i=>
  right
  obtain ⟨h1,h2,h3⟩:=List.findIdx?_eq_some_iff_getElem.1 h
  refine ⟨i,by unfold Z2;rw [h],h1,by rw [nth_eq h1];exact h2,fun k hk=>?_⟩
  rw [nth_eq ow]
  simpa using h3 k hk
theorem ZgB {α:Type} [Inhabited α] {p:α→Bool} {l:List α} (h:∀ k,k<l.length→p (Nn l k)=false):l.filter (fun x=>!p x)=l:=by
 rw [Ya5]
 intro x hx
 obtain ⟨k,hk,rfl⟩:=YaR.1 hx
 rw [← nth_eq hk,h k hk];rfl
theorem ZlE {α:Type} [Inhabited α] {p:α→Bool} {l:List α} {i:Nat} (hi:i<l.length) (hip:p (Nn l i)=true) (hib:∀ k,k<i→p (Nn l k)=false):l.take i=(l.take (i+1)).filter fun x=>!p x:=by
 have h:(l.take i).filter (fun x=>!p x)=l.take i:=ZgB fun k hk=>by
  rw [Yj] at hk
  rw [nth_eq (by rw [Yj];omega),List.getElem_take,← nth_eq ow]
  exact hib k ow
 rw [ZfM (p:=fun x=>!p x) hi,hip,h];simp
theorem ZkH (l:List Int) (hl:l.length≤1000000):FnG prog 42 1 [.sl Zo l] [.star []] (PV.one) (fun v=>[ZA 3 1 Zo l v]):=by
 refine FnG.mk func42 rfl ntmps42 rfl kr fun B F0 a w F Z hG G=>?_
 obtain ⟨F,G⟩:=G.nM [0] [0]
 refine Ya (rZ G (qC qZ) Z [2,0] [0] fun G=>(Ya (Ya ?_)))
 refine Zg G (qR rr (qf (Zbm YbZ .t) r1 qz qZ)) Z [4,2,0] [0] rfl rfl fun a w F G=>?_
 obtain ⟨β4,hβ4,G⟩:=G.pickBool 4 rfl
 obtain ⟨F,G⟩:=G.nM [4,2,0] [0]
 refine Za (Zc G rfl (fun hc0=>?_) (fun hc0=>?_))
 ·have hg:l = []:=hβ4 hc0
  refine Ya (rZ G (qC qZ) Z [2,0] [0] fun G=>(Yh (Zm ?_)))
  have G:=G.fresh 1 rfl
  have G:=G.turn 1 rfl (ZaP (T:=3) (sz:=1) (R:=Zo))
  have G:=G.turn 1 rfl (r':=RS.hp (ZA 3 1 Zo l (.slice none 0 0))) (fun _ _ _ _ h=>by rw [hg];exact h)
  refine Z9 (h':=fun v=>ZA 3 1 Zo l v) hG G rfl (.tmp rfl .nil) (.one .one) rfl
 have hg:l = [] ++ l:=rfl
 refine Yf (Za (Ya (Zb G (qf (ZaL (R:=Zo) (sz:=1) 101 YbZ kr) trivial qz (qR rr (qf (Z1 (sz:=1) (bs:=8) 101 (.mk' YbZ kr kr) (by intro x;rfl) .same (.sl .t) (by simp only [Yd,Yy];omega) (by decide)) ⟨rfl,rfl,tv⟩ ⟨rfl,tv⟩ (qO rr qZ)))) Z [2] [101,0] (fun _=>rfl) (fun _=>rfl) fun τ a w F G=>?_)))
 try dsimp only [RS.sub,SF.sub,CF.sub,csub,Anc.sub,List.map,Zf,xL,xM,Nat.reduceAdd,xD,xE,xT,xU,xC,xN,zCF,Zo] at G
 generalize τ 7=v7 at G
 refine Za (Yh ?_)
 obtain ⟨F,G⟩:=G.rename 101 1 rfl rfl
 have G:=G.turn 1 rfl (r':=RS.hp (ZA 3 1 Zo l v7)) (fun _ _ _ _ h=>by rw [hg];exact h)
 refine Z9 (h':=fun v=>ZA 3 1 Zo l v) hG G rfl (.tmp rfl .nil) (.one .one) rfl
end Go.Proofs.YtlkpllemoepamaaGreat
