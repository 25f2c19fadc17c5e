/- Texts put together. No condition beyond those that each theorem says. -/
import Derived.Test.YtdpkkdigojkpaaaGreatLibE
import Derived.Test.YtdpkkdigojkpaaaGreatJ0
import Derived.Test.YtdpkkdigojkpaaaGreatLibL
import Derived.Test.YtdpkkdigojkpaaaGreatJ1
namespace Go.Proofs.YtdpkkdigojkpaaaGreat
open Go Go.Gm
set_option linter.unusedVariables false
set_option linter.unusedSimpArgs false
set_option maxHeartbeats 4000000
set_option maxRecDepth 8000
def rV (v:Value):List PV:=[.is v]
theorem Zb2 {w:World} {y:Ys} : ∀ {rs:List RS} {f:Ys},stars w y rs f → ∀ r ∈ rs,∃ f1:Ys,(∀ b,f1 b→f b)∧r.holds tau0 w f1 y
 | [],f,_,r,h=>by cases h
 | x :: rs,f,⟨f1,f2,h1,h2,h3,h4,h5⟩,r,hr=>by
   rcases List.mem_cons.1 hr with rfl | hr
   · exact ⟨f1,fun b hb=>(h1 b).2 (.inl hb),h4⟩
   · obtain ⟨g,g1,g2⟩:=Zb2 h5 r hr
     exact ⟨g,fun b hb=>(h1 b).2 (.inr (g1 b hb)),g2⟩
structure Zae where
 kind:Int
 label:Int
 node:Int
 deriving DecidableEq,Inhabited
def Zaq (e:Zae):List PV:=[.int .i64 e.kind,.int .i64 e.label,.int .i64 e.node]
def ZaV (l:List Zae):List PV:=[.sl Zaq l]
def Zk6 (p:Value×List Zae):HP:=Zu 270 3 Zaq p.2 p.1
def Zee (hs:List Value) (L:List (List Zae)):List (Value×List Zae):=(List.range hs.length).map fun k=>(Go.Gm.nth hs k,Go.Gm.nth L k)
theorem Zki (hs:List Value) (L:List (List Zae)):(Zee hs L).length=hs.length:=by unfold Zee;simp
theorem ZmY {hs:List Value} {L:List (List Zae)} {k:Nat} (h:k<hs.length):(Zee hs L)[k]? = some (Go.Gm.nth hs k,Go.Gm.nth L k):=by unfold Zee;simp [h]
theorem Zn4 (hs:List Value) (L:List (List Zae)):(Zee hs L).map (·.1)=hs:=by
 apply List.ext_getElem (by simp [Zee])
 intro j h1 h2
 simp [Zee,nth_eq h2]
theorem Zob {hs:List Value} {L:List (List Zae)} (h:hs.length=L.length):(Zee hs L).map (·.2)=L:=by
 apply List.ext_getElem (by simp [Zee,h])
 intro j h1 h2
 simp [Zee,nth_eq h2]
def Zha (L:List (List Zae)) (v:Value):HP:=.ex fun hs:List Value=>.and (hs.length=L.length) (.star [.ob (.val v) (Zu 273 1 rV hs),Zpm Zk6 (Zee hs L)])
theorem Zjg {w:World} {y y':Ys} : ∀ {ps:List (Value×List Zae)} {xs:List Value},PVs ((ps.map (·.1)).flatMap rV) xs w y→(∀ p ∈ ps,(PV.sl Zaq p.2).p p.1 w y')→PVs ((ps.map (·.2)).flatMap ZaV) xs w y'
 | [],[],_,_=>trivial
 | p :: ps,x :: xs,h,k=>by
   have e:x=p.1:=h.1.2.1
   refine ⟨⟨h.1.1,?_⟩,Zjg (ps:=ps) h.2 fun q hq=>k q (List.mem_cons_of_mem _ hq)⟩
   rw [e];exact k p List.mem_cons_self
 | [],_ :: _,h,_=>h.elim
 | _ :: _,[],h,_=>h.elim
theorem Zhq {L:List (List Zae)} {v:Value} : Zq6 (Zha L v) v (.sl ZaV L):=fun w f y y' ⟨hs,hl,h⟩ hle hf hb=>by
 obtain ⟨f1,g1,g2⟩:=Zb2 h (.ob (.val v) (Zu 273 1 rV hs)) (by simp)
 obtain ⟨f2,m1,m2⟩:=Zb2 h (Zpm Zk6 (Zee hs L)) (by simp)
 have hrow:(Zu 273 1 rV hs v).p w f1 y:=g2
 have hfam:stars w y ((Zee hs L).map fun x=>RS.hp (Zk6 x)) f2:=m2
 obtain ⟨xs,k1,k2,k3⟩:=hrow
 obtain ⟨ad,cap,e8,h8,h9,h10⟩:=ZL k1
 rw [hl] at e8 h8
 refine ⟨ad,cap,e8,h8,h9,?_⟩
 rcases h10 with h10 | ⟨b',rfl,h11,h12⟩
 · exact .inl (List.eq_nil_of_length_eq_zero (by rw [← hl];exact h10))
 · have hb':f1 b':=(k3 b').2 h11
   refine .inr ⟨b',0,xs,rfl,hf b' (g1 b' hb'),hb b' (g1 b' hb'),h12,?_⟩
   have key:=Zjg (y:=y) (y':=y') (ps:=Zee hs L) (xs:=xs) (w:=w) (by rw [Zn4];exact k2) fun p hp=>by
     obtain ⟨f3,n1,n2⟩:=Zb2 hfam (RS.hp (Zk6 p)) (List.mem_map.2 ⟨p,hp,rfl⟩)
     exact Zgw w f3 y y' n2 hle (fun b h=>hf b (m1 b (n1 b h))) (fun b h=>hb b (m1 b (n1 b h)))
   rwa [Zob hl] at key
def Znq (O I:List (List Zae)) (n:Nat) (v:Value):HP:=.ex fun ov:Value=>.ex fun iv:Value=>.star [.pt (.val v) 268 [.pv (.is ov),.pv (.is iv),.pv (.int .i64 n)],RS.hp (Zha O ov),RS.hp (Zha I iv)]
abbrev Zjw (O I:List (List Zae)) (n:Nat):PV:=.ref [.sl ZaV O,.sl ZaV I,.int .i64 n]
theorem ZgZ {O I:List (List Zae)} {n:Nat} {v:Value} : Zq6 (Znq O I n v) v (Zjw O I n):=fun w f y y' ⟨ov,iv,h⟩ hle hf hb=>by
 obtain ⟨f1,g1,g2⟩:=Zb2 h (.pt (.val v) 268 [.pv (.is ov),.pv (.is iv),.pv (.int .i64 n)]) (by simp)
 obtain ⟨f2,m1,m2⟩:=Zb2 h (RS.hp (Zha O ov)) (by simp)
 obtain ⟨f3,n1,n2⟩:=Zb2 h (RS.hp (Zha I iv)) (by simp)
 have hO:=Zhq w f2 y y' m2 hle (fun b k=>hf b (m1 b k)) (fun b k=>hb b (m1 b k))
 have hI:=Zhq w f3 y y' n2 hle (fun b k=>hf b (n1 b k)) (fun b k=>hb b (n1 b k))
 obtain ⟨b,vs,k1,k2,k3,k4⟩:=g2
 have hb1:f1 b:=(k3 b).2 rfl
 refine ⟨b,0,vs.toList,k1,hf b (g1 b hb1),hb b (g1 b hb1),Zx.mk fun j u hj=>?_,?_⟩
 · simp only [Nat.zero_add]
   simp [World.cell?,k2]
   simpa using hj
 · generalize vs.toList=us at k4
   match us,k4 with
   | [u1,u2,u3],k4=>
     have e1:u1=ov:=k4.1.2.1
     have e2:u2=iv:=k4.2.1.2.1
     refine ⟨⟨k4.1.1,?_⟩,⟨k4.2.1.1,?_⟩,⟨k4.2.2.1.1,k4.2.2.1.2⟩,trivial⟩
     · rw [e1];exact hO
     · rw [e2];exact hI
structure ZaG where
 src:Int
 dst:Int
 kind:Int
 label:Int
 deriving DecidableEq,Inhabited
def ZbE (a:ZaG):List PV:=[.int .i64 a.src,.int .i64 a.dst,.int .i64 a.kind,.int .i64 a.label]
def endO (x:ZaG):Zae:=⟨x.kind,x.label,x.dst⟩
def endI (x:ZaG):Zae:=⟨x.kind,x.label,x.src⟩
def ofB (mask kind:Int):Bool:=decide (bits .and .i64 (mask.fdiv (2 ^ min (IntKind.wrap .u64 kind).toNat (IntKind.bits .i64))) 1=1)
def Zam (n:Nat) (x:ZaG):Bool:=(((((decide (0≤x.src∧x.src<n)) && decide (0≤x.dst∧x.dst<n)) && decide (1≤x.kind)) && decide (x.kind≤3)) && decide (0≤x.label)) && decide (x.label≤1048575)
theorem ZhA (O I:List (List Zae)) (m:Nat):FnP Tryz.prog 233 [Zjw O I m] (.int .i64 (O.length:Int)):=by
 refine FnP.mk Tryz.func233 rfl Tryz.ntmps233 rfl ?_
 intro B a w F hB hfr hS
 refine wp_seq ?_
 refine Zb hS (qI qZ) hB [2,0] [0] rfl rfl fun a w F hS=>Za (wp_seq (wp_seq ?_))
 refine Zb hS (qM rfl rfl (qf (Zdg Tryz.underlying214 .t) r1 qz qZ)) hB [4,2,0] [0] rfl rfl fun a w F hS=>Za ?_
 refine Zd hS rfl (fun hc0=>?_) (fun hc0=>?_)
 ·skip
  simp at hc0
 refine wp_skip (Za (wp_seq ?_))
 refine Zb hS (qM rfl rfl (qf (ZP .t) r1 qz (qf (oG 0 .t) r1 qz (qf (oR false 1 .t) r1 qz (qu Tryz.underlying266 r1 (qN rfl rfl qZ)))))) hB [2] [0] rfl rfl fun a w F hS=>Za (wp_ret ?_)
 refine Zw hfr hS rfl rfl rfl .refl
theorem ZgW (O I:List (List Zae)) (m:Nat) (u:Int):FnP Tryz.prog 275 [Zjw O I m,.int .i64 u] (.bool (decide (0≤u∧u<O.length))):=by
 refine FnP.mk Tryz.func275 rfl Tryz.ntmps275 rfl ?_
 intro B a w F hB hfr hS
 refine wp_seq ?_
 refine Zb hS qB hB [4,1,0] [0] rfl rfl fun a w F hS=>Za (wp_seq ?_)
 refine Zb hS (qM rfl rfl (qf (ZbW .t qi) r1 qz (qM rfl rfl (qm rfl rfl rfl rfl (qm rfl rfl rfl rfl (qk rfl (fun h=>oP (ZhA O I m) Tryz.func233 (Args.one (.w h))) r2 qz (qk rfl (fun h=>ZbC (.w h) (.w h)) r3 qz (qf (ZN .t .t) r2 qz (qN rfl rfl qZ))))))))) hB [4] [0] rfl rfl fun a w F hS=>Za (wp_ret ?_)
 refine Zw hfr hS rfl rfl rfl (.bool (by by_cases h:0≤u <;> simp [h]))
theorem Zhz (O I:List (List Zae)) (m:Nat) (x:ZaG):FnP Tryz.prog 229 [Zjw O I m,.agg (ZbE x)] (.bool (Zam O.length x)):=by
 refine FnP.mk Tryz.func229 rfl Tryz.ntmps229 rfl ?_
 intro B a w F hB hfr hS
 refine wp_seq ?_
 refine Zc hS (qx 101 r1 qB) hB [4,3,0] [101,0] (fun _=>rfl) (fun _=>rfl) fun τ a w F hS=>?_
 try dsimp only [RS.sub,SF.sub,CF.sub,csub,Anc.sub,List.map,zCF,Zaq,ZaV,Zo,ZbE] at hS
 generalize τ 3=v3 at hS
 refine Za (wp_seq ?_)
 refine Zb hS (qM rfl rfl (qg 0 101 r1 r1 (qa 101 r1 r1 (qf (oP (ZgW O I m x.src) Tryz.func275 (Args.two .t .t)) r2 qz (qM rfl rfl (qm rfl rfl rfl rfl (qv 1 101 rfl r2 r1 (qw 101 rfl r2 r1 (qk rfl (fun h=>oP (ZgW O I m x.dst) Tryz.func275 (Args.two (.w h) (.w h))) r3 qz (qf (ZN .t .t) r2 qz (qM rfl rfl (qv 2 101 rfl r2 r1 (qw 101 rfl r2 r1 (qk rfl (fun h=>ZbW (.w h) qi) r2 qz (qf (ZN .t .t) r2 qz (qM rfl rfl (qv 2 101 rfl r2 r1 (qw 101 rfl r2 r1 (qk rfl (fun h=>Zk0 (.w h) qi) r2 qz (qf (ZN .t .t) r2 qz (qM rfl rfl (qv 3 101 rfl r2 r1 (qw 101 rfl r2 r1 (qk rfl (fun h=>ZbW (.w h) qi) r2 qz (qf (ZN .t .t) r2 qz (qM rfl rfl (qv 3 101 rfl r2 r1 (qw 101 rfl r2 r1 (qk rfl (fun h=>Zk0 (.w h) qi) r2 qz (qf (ZN .t .t) r2 qz (qN rfl rfl qZ))))))))))))))))))))))))))))))) hB [4] [0] rfl rfl fun a w F hS=>Za (wp_ret ?_)
 refine Zw hfr hS rfl rfl rfl (.bool (by unfold Zam;simp))
theorem ZjS (x:ZaG):FnP Tryz.prog 231 [.agg (ZbE x)] (.tup [.agg (Zaq (endO x)),.agg (Zaq (endI x))]):=by
 refine FnP.mk Tryz.func231 rfl Tryz.ntmps231 rfl ?_
 intro B a w F hB hfr hS
 refine wp_seq ?_
 refine Zc hS (qx 101 r1 (qf (oH [.int .i64 0,.int .i64 0,.int .i64 0] 102) trivial qz (qf (oH [.int .i64 0,.int .i64 0,.int .i64 0] 103) trivial qz qZ))) hB [3,2,1] [103,102,101,0] (fun _=>rfl) (fun _=>rfl) fun τ a w F hS=>?_
 try dsimp only [RS.sub,SF.sub,CF.sub,csub,Anc.sub,List.map,zCF,Zaq,ZaV,Zo,ZbE] at hS
 generalize τ 1=v1 at hS
 generalize τ 2=v2 at hS
 generalize τ 3=v3 at hS
 refine Za (wp_seq ?_)
 refine Zy hS (qg 2 101 r1 r1 (qa 101 r1 r1 (qg 3 101 r1 r1 (qa 101 r1 r1 (qg 1 101 r1 r1 (qa 101 r1 r1 (qf (oB [(0,.tmp 5),(1,.tmp 7),(2,.tmp 9)] [.int .i64 0,.int .i64 0,.int .i64 0] [(0,1),(1,1),(2,1)] (.one rfl .t one_int (by kernel_rfl) (.one rfl .t one_int (by kernel_rfl) (.one rfl .t one_int (by kernel_rfl) .nil)))) r3 qz (qg 2 101 r1 r1 (qa 101 r1 r1 (qg 3 101 r1 r1 (qa 101 r1 r1 (qg 0 101 r1 r1 (qa 101 r1 r1 (qf (oB [(0,.tmp 12),(1,.tmp 14),(2,.tmp 16)] [.int .i64 0,.int .i64 0,.int .i64 0] [(0,1),(1,1),(2,1)] (.one rfl .t one_int (by kernel_rfl) (.one rfl .t one_int (by kernel_rfl) (.one rfl .t one_int (by kernel_rfl) .nil)))) r3 qz (qs 3 102 r2 r1 (qs 3 103 r2 r1 qZ)))))))))))))))) hB [3,2] [103,102,0] rfl rfl fun a w F hS=>?_
 try dsimp only [List.map,Zf,xL,xM,Nat.reduceAdd,xD,xE,xT,xU,xC,xN,zCF,ldSF,Zaq,ZaV,Zo,ZbE] at hS
 refine Za (wp_ret ?_)
 refine Zao hfr hS rfl (.cl 102 true 3 rfl rfl (.cl 103 true 3 rfl rfl .nil)) (.two (.aggU rfl rfl) (.aggU rfl rfl))
theorem Zrn (mask kind:Int):FnP Tryz.prog 302 [.int .i64 mask,.int .i64 kind] (.bool (ofB mask kind)):=by
 refine FnP.mk Tryz.func302 rfl Tryz.ntmps302 rfl ?_
 intro B a w F hB hfr hS
 refine wp_seq ?_
 refine Zb hS qB hB [4,1,0] [0] rfl rfl fun a w F hS=>Za (wp_seq ?_)
 refine Zb hS (qM rfl rfl (qM rfl rfl (qf (o_conv Tryz.underlying174 (by kernel_rfl) .t) r1 qz (qf (ZfC .t .t  (by rw [Zdd];omega)) r2 qz (qf (o_and .t qi) r1 qz (qf (o_eql .t qi) r1 qz (qN rfl rfl qZ))))))) hB [4] [0] rfl rfl fun a w F hS=>Za (wp_ret ?_)
 refine Zw hfr hS rfl rfl rfl (.bool rfl)
def ZcC (x y:Int):Int:=if x<y then -1 else if y<x then 1 else 0
theorem ZdN {x y:Int} : ZcC x y<0 ↔ x<y:=by unfold ZcC;split <;> (try split) <;> omega
theorem ZiF {x y:Int} : ZcC x y=0 ↔ x=y:=by unfold ZcC;split <;> (try split) <;> omega
theorem Zr5 {x:Int} (h:0≤x∧x≤18446744073709551615):IntKind.wrap .u64 x=x:=Zfs ⟨by simp [IntKind.min,IntKind.signed,IntKind.bits];omega,by simp [IntKind.max,IntKind.signed,IntKind.bits];omega⟩
theorem ZiR {i j:Nat} (h:i+j≤2000000):IntKind.wrap .i64 ((IntKind.wrap .u64 (IntKind.wrap .i64 ((i:Int)+(j:Int)))).fdiv (2 ^ min (1:Int).toNat (IntKind.bits .u64)))=(((i+j) / 2:Nat):Int):=by
 rw [ZJ (x:=(i:Int)+(j:Int)) (by omega),Zr5 (by omega),show (2:Int) ^ min (1:Int).toNat (IntKind.bits .u64)=2 by decide,Int.fdiv_eq_ediv_of_nonneg _ (by decide),ZJ (by omega)]
 omega
def Zb8 {α:Type} [Inhabited α] (κ:α→Int) (l:List α):Prop:=∀ a b,a<b→b<l.length→κ (Go.Gm.nth l a)<κ (Go.Gm.nth l b)
def lowK {α:Type} (κ:α→Int) (k:Int) (l:List α):Nat:=(l.takeWhile fun x=>decide (κ x<k)).length
def isK {α:Type} (κ:α→Int) (k:Int) (l:List α):Bool:=l.any fun x=>decide (κ x=k)
theorem ZeF {α:Type} [Inhabited α] {κ:α→Int} {k:Int} : ∀ {l:List α} {i:Nat},i≤l.length→(∀ q,q<i→κ (Go.Gm.nth l q)<k)→(∀ q,i≤q→q<l.length→k≤κ (Go.Gm.nth l q))→lowK κ k l=i
 | [],i,hi,_,_=>by simp at hi;subst hi;rfl
 | x :: l,0,_,_,h2=>by
   have:=h2 0 (Nat.le_refl _) (by simp)
   rw [nth_eq (by simp)] at this
   unfold lowK
   rw [List.takeWhile_cons_of_neg (by simpa using this)];rfl
 | x :: l,i+1,hi,h1,h2=>by
   have hx:=h1 0 (by omega)
   rw [nth_eq (by simp)] at hx
   have ih:=ZeF (κ:=κ) (k:=k) (l:=l) (i:=i) (by simpa using hi) (fun q hq=>by
     have:=h1 (q+1) (by omega)
     rw [nth_eq (by simp at hi ⊢;omega)] at this
     rw [nth_eq (by simp at hi;omega)];simpa using this) (fun q hq hq2=>by
     have:=h2 (q+1) (by omega) (by simp;omega)
     rw [nth_eq (by simp;omega)] at this
     rw [nth_eq hq2];simpa using this)
   unfold lowK at ih ⊢
   rw [List.takeWhile_cons_of_pos (by simpa using hx),List.length_cons,ih]
theorem ZlF {α:Type} [Inhabited α] {κ:α→Int} {k:Int} {l:List α} {i:Nat} (hi:i≤l.length) (hs:Zb8 κ l) (h1:∀ q,q<i→κ (Go.Gm.nth l q)<k) (h2:∀ q,i≤q→q<l.length→k≤κ (Go.Gm.nth l q)):isK κ k l=true ↔ i<l.length∧κ (Go.Gm.nth l i)=k:=by
 unfold isK
 rw [List.any_eq_true]
 constructor
 · rintro ⟨x,hx,hk⟩
   obtain ⟨q,hq,e⟩:=List.getElem_of_mem hx
   have hk':κ (Go.Gm.nth l q)=k:=by rw [nth_eq hq,e];simpa using hk
   have hiq:i≤q:=Nat.le_of_not_lt fun h=>by have:=h1 q h;omega
   rcases Nat.lt_or_eq_of_le hiq with h | h
   · have a1:=hs i q h hq
     have a2:=h2 i (Nat.le_refl _) (by omega)
     omega
   · subst h;exact ⟨hq,hk'⟩
 · rintro ⟨h3,h4⟩
   exact ⟨_,nth_mem h3,by simpa using h4⟩
theorem ZcV {α:Type} [Inhabited α] {κ:α→Int} {l:List α} (hs:Zb8 κ l) {a b:Nat} (h:a≤b) (hb:b<l.length):κ (Go.Gm.nth l a)≤κ (Go.Gm.nth l b):=by
 rcases Nat.lt_or_eq_of_le h with h | h
 · exact Int.le_of_lt (hs a b h hb)
 · subst h;exact Int.le_refl _
theorem Zi5 (x:Int):FnP Tryz.prog 201 [.int .i64 x] (.bool false):=by
 refine FnP.mk Tryz.func201 rfl Tryz.ntmps201 rfl ?_
 intro B a w F hB hfr hS
 refine wp_seq ?_
 refine Zb hS qB hB [2,0] [0] rfl rfl fun a w F hS=>Za (wp_seq ?_)
 refine Zb hS (qM rfl rfl (qM rfl rfl (qf (o_neq .t .t) r2 qz (qN rfl rfl qZ)))) hB [2] [0] rfl rfl fun a w F hS=>Za (wp_ret ?_)
 refine Zw hfr hS rfl rfl rfl (.bool (by simp))
theorem Zg9 (x y:Int):FnP Tryz.prog 127 [.int .i64 x,.int .i64 y] (.int .i64 (ZcC x y)):=by
 refine FnP.mk Tryz.func127 rfl Tryz.ntmps127 rfl ?_
 intro B a w F hB hfr hS
 refine wp_seq ?_
 refine Zb hS (qI qZ) hB [4,1,0] [0] rfl rfl fun a w F hS=>Za (wp_seq ?_)
 refine Zb hS (qM rfl rfl (qf (oP (Zi5 x) Tryz.func201 (Args.one .t)) r1 qz (qN rfl rfl qZ))) hB [5,4,1,0] [0] rfl rfl fun a w F hS=>Za (wp_seq ?_)
 refine Zb hS (qM rfl rfl (qf (oP (Zi5 y) Tryz.func201 (Args.one .t)) r1 qz (qN rfl rfl qZ))) hB [6,5,4,1,0] [0] rfl rfl fun a w F hS=>Za (wp_seq (wp_seq ?_))
 refine Zb hS (qM rfl rfl qZ) hB [11,6,4,1,0] [0] rfl rfl fun a w F hS=>Za ?_
 refine Zd hS rfl (fun hc0=>?_) (fun hc0=>?_)
 ·skip
  simp at hc0
 refine wp_skip (Za (wp_seq (wp_seq ?_)))
 refine Zb hS (qM rfl rfl qZ) hB [13,4,1,0] [0] rfl rfl fun a w F hS=>Za ?_
 refine Zd hS rfl (fun hc1=>?_) (fun hc1=>?_)
 ·skip
  simp at hc1
 refine wp_skip (Za (wp_seq (wp_seq ?_)))
 refine Zb hS (qM rfl rfl (qM rfl rfl (qL r2))) hB [16,4,1,0] [0] rfl rfl fun a w F hS=>Za ?_
 refine Zd hS rfl (fun hc2=>?_) (fun hc2=>?_)
 ·skip
  have hg:(-1:Int)=ZcC x y:=by unfold ZcC;rw [if_pos (by simpa using hc2)]
  refine wp_seq ?_
  refine Zb hS (qI qZ) hB [4,1,0] [0] rfl rfl fun a w F hS=>Za (wp_ret (Zi ?_))
  refine Zw hfr hS rfl rfl rfl (.int hg)
 have h1:¬ x<y:=by simpa using hc2
 refine wp_skip (Za (wp_seq (wp_seq ?_)))
 refine Zb hS (qM rfl rfl (qM rfl rfl (qf (Zbi .t .t) r2 qz qZ))) hB [19,4] [0] rfl rfl fun a w F hS=>Za ?_
 refine Zd hS rfl (fun hc3=>?_) (fun hc3=>?_)
 ·skip
  have hg:(1:Int)=ZcC x y:=by unfold ZcC;rw [if_neg h1,if_pos (by simpa using hc3)]
  refine wp_seq ?_
  refine Zb hS (qI qZ) hB [4] [0] rfl rfl fun a w F hS=>Za (wp_ret (Zi ?_))
  refine Zw hfr hS rfl rfl rfl (.int hg)
 have hg:(0:Int)=ZcC x y:=by unfold ZcC;rw [if_neg h1,if_neg (by simpa using hc3)]
 refine wp_skip (Za (wp_seq ?_))
 refine Zb hS (qI qZ) hB [4] [0] rfl rfl fun a w F hS=>Za (wp_ret ?_)
 refine Zw hfr hS rfl rfl rfl (.int hg)
theorem Zo2 (x:TxD) (k:Int):FnP Tryz.prog 130 [.agg (rTx x),.int .i64 k] (.int .i64 (ZcC x.id k)):=by
 refine FnP.mk Tryz.func130 rfl Tryz.ntmps130 rfl ?_
 intro B a w F hB hfr hS
 refine wp_seq ?_
 refine Zc hS (qx 101 r1 (qI qZ)) hB [4,2,1] [101,0] (fun _=>rfl) (fun _=>rfl) fun τ a w F hS=>?_
 try dsimp only [RS.sub,SF.sub,CF.sub,csub,Anc.sub,List.map,zCF,rTx] at hS
 generalize τ 2=v2 at hS
 refine Za (wp_seq ?_)
 refine Zb hS (qg 0 101 r1 r1 (qa 101 r1 r1 (qM rfl rfl (qf (oP (Zg9 x.id k) Tryz.func127 (Args.two .t .t)) r2 qz (qN rfl rfl qZ))))) hB [4] [0] rfl rfl fun a w F hS=>Za (wp_ret ?_)
 refine Zw hfr hS rfl rfl rfl (.int rfl)
theorem Zqh (x:OrdD) (k:Int):FnP Tryz.prog 132 [.agg (ZF x),.int .i64 k] (.int .i64 (ZcC x.key k)):=by
 refine FnP.mk Tryz.func132 rfl Tryz.ntmps132 rfl ?_
 intro B a w F hB hfr hS
 refine wp_seq ?_
 refine Zc hS (qx 101 r1 (qI qZ)) hB [4,2,1] [101,0] (fun _=>rfl) (fun _=>rfl) fun τ a w F hS=>?_
 try dsimp only [RS.sub,SF.sub,CF.sub,csub,Anc.sub,List.map,zCF,ZF] at hS
 generalize τ 2=v2 at hS
 refine Za (wp_seq ?_)
 refine Zb hS (qg 0 101 r1 r1 (qa 101 r1 r1 (qM rfl rfl (qf (oP (Zg9 x.key k) Tryz.func127 (Args.two .t .t)) r2 qz (qN rfl rfl qZ))))) hB [4] [0] rfl rfl fun a w F hS=>Za (wp_ret ?_)
 refine Zw hfr hS rfl rfl rfl (.int rfl)
theorem Zr6 (l : List TxD) (k : Int) (hll : l.length ≤ 1000000) (hs : Zb8 TxD.id l) (f : FuncId) (fn : Func) (cps : List PV) (hf : Tryz.prog.funcs[f]? = some fn) (hb : fn.body.isSome = true) (hnn : (fn.name == "runtime.NumGoroutine") = false) (hw : ∀ x : TxD, FnP Tryz.prog f (.agg (rTx x) :: .int .i64 k :: cps) (.int .i64 (ZcC (TxD.id x) k))) : FnP Tryz.prog 129 [.sl rTx l, .int .i64 k, .clos f cps] (.tup [.int .i64 (lowK TxD.id k l), .bool (isK TxD.id k l)]) := by
 refine FnP.mk Tryz.func129 rfl Tryz.ntmps129 rfl ?_
 intro B a w F hB hfr hS
 refine wp_seq ?_
 refine Zb hS (qI qB) hB [7,6,2,1,0] [0] rfl rfl fun a w F hS=>Za (wp_seq ?_)
 refine Zb hS (qM rfl rfl (qu Tryz.underlying27 r1 (qN rfl rfl qZ))) hB [8,7,6,2,1,0] [0] rfl rfl fun a w F hS=>Za (wp_seq ?_)
 refine Zb hS (qM rfl rfl (qI (qN rfl rfl qZ))) hB [10,9,8,7,6,2,1,0] [0] rfl rfl fun a w F hS=>Za (wp_seq (wp_block ?_))
 refine Zl (σ:=Nat×Nat) [0,1,2,6,7,8] [0] (fun s=>[(9,.pv (.int .i64 (s.1:Int))),(10,.pv (.int .i64 (s.2:Int)))]) (fun s=>[]) (fun s=>s.1≤s.2∧s.2≤l.length∧(∀ q,q<s.1→TxD.id (Go.Gm.nth l q)<k) ∧ ∀ q,s.2≤q→q<l.length→k≤TxD.id (Go.Gm.nth l q)) (fun s=>s.2 - s.1) ((0),(l.length)) hS ⟨rfl,rfl,rfl,rfl,rfl,rfl,rfl,rfl,trivial⟩ ⟨rfl,trivial⟩ ⟨Nat.zero_le _,Nat.le_refl _,fun q hq=>absurd hq (Nat.not_lt_zero q),fun q h1 h2=>by omega⟩ ?_
 clear hS;intro s a w F hC hS
 obtain ⟨i,j⟩:=s
 try dsimp only at hC
 obtain ⟨F,hS⟩:=hS.nm [10,9,8,7,6,2,1,0] [0] rfl rfl
 try dsimp only at hS
 obtain ⟨hij,hjl,hlo,hhi⟩:=hC
 have hgs:=ZlF (i:=i) (by omega) hs hlo
 have hgl:=ZeF (i:=i) (by omega) hlo
 refine wp_seq (wp_seq ?_)
 refine Zb hS (qM rfl rfl (qM rfl rfl (qL r2))) hB [17,10,9,8,7,6,2,1,0] [0] rfl rfl fun a w F hS=>Za ?_
 refine Zd hS rfl (fun hc0=>?_) (fun hc0=>?_)
 ·skip
  have hlt:i<j:=by simp at hc0;omega
  refine wp_skip (Za (wp_block (wp_seq ?_)))
  refine Zb hS (qM rfl rfl (qM rfl rfl (qf (Zck .t .t) r2 qz (qf (o_conv Tryz.underlying174 (by kernel_rfl) .t) r1 qz (qf (ZfC .t qi (by decide)) r1 qz (qf (o_conv Tryz.underlying3 (by kernel_rfl) .t) r1 qz (qN rfl rfl qZ))))))) hB [11,10,9,8,7,6,2,1,0] [0] rfl rfl fun a w F hS=>?_
  obtain ⟨m,hm⟩:∃ m:Nat,m=(i+j) / 2:=⟨_,rfl⟩
  replace hS:=hS.ent (i:=11) (s':=.pv (.int .i64 (m:Int))) rfl (.int (by rw [hm];exact ZiR (by omega)))
  obtain ⟨F,hS⟩:=hS.nm [11,10,9,8,7,6,2,1,0] [0] rfl rfl
  refine Za (wp_seq ?_)
  refine Zb hS (qM rfl rfl (qM rfl rfl (qM rfl rfl (qy 3 Tryz.underlying27 r2 (qf (oR true 3 .t) r1 qz (qM rfl rfl (qf (ZK (avs:=[.agg (rTx (Go.Gm.nth l m)),.int .i64 k]) .t (hw (Go.Gm.nth l m)) hf hb hnn (Args.two (.pagg .t) .t)) r3 qz (qf (ZbC .t qi) r1 qz qZ)))))))) hB [31,11,10,9,8,7,6,2,1,0] [0] rfl rfl fun a w F hS=>?_
  try simp only [Int.toNat_natCast] at hS
  refine Za ?_
  refine Zd hS rfl (fun hc1=>?_) (fun hc1=>?_)
  ·skip
   have hmk:TxD.id (Go.Gm.nth l m)<k:=ZdN.1 (by simpa using hc1)
   obtain ⟨i2,hi2e⟩:∃ z,z=m+1:=⟨_,rfl⟩
   obtain ⟨j2,hj2e⟩:∃ z,z=j:=⟨_,rfl⟩
   have hi2:IntKind.wrap .i64 ((m:Int)+1)=(i2:Int):=by rw [hi2e];exact Ze (by omega)
   have hj2:(j:Int)=(j2:Int):=by rw [hj2e]
   have hmu:j2 - i2<j - i:=by omega
   have hC2:i2≤j2∧j2≤l.length∧(∀ q,q<i2→TxD.id (Go.Gm.nth l q)<k) ∧ ∀ q,j2≤q→q<l.length→k≤TxD.id (Go.Gm.nth l q):=⟨by omega,by omega,fun q hq=>Int.lt_of_le_of_lt (ZcV hs (by omega) (by omega)) hmk,by rw [hj2e];exact hhi⟩
   refine Zb hS (qM rfl rfl (qp r1 (qN rfl rfl qZ))) hB [10,9,8,7,6,2,1,0] [0] rfl rfl fun a w F hS=>Zj (Za ?_)
   replace hS:=hS.ent (i:=9) (s':=.pv (.int .i64 (i2:Int))) rfl (.int hi2)
   replace hS:=hS.ent (i:=10) (s':=.pv (.int .i64 (j2:Int))) rfl (.int hj2)
   obtain ⟨F,hS⟩:=hS.nm [8,7,6,2,1,0,10,9] [0] rfl rfl
   exact ⟨((i2),(j2)),F,hC2,hS,hmu⟩
  have hmk:k≤TxD.id (Go.Gm.nth l m):=Int.not_lt.1 fun e=>(show ¬ ZcC (TxD.id (Go.Gm.nth l m)) k<0 by simpa using hc1) (ZdN.2 e)
  obtain ⟨i2,hi2e⟩:∃ z,z=i:=⟨_,rfl⟩
  obtain ⟨j2,hj2e⟩:∃ z,z=m:=⟨_,rfl⟩
  have hi2:(i:Int)=(i2:Int):=by rw [hi2e]
  have hj2:(m:Int)=(j2:Int):=by rw [hj2e]
  have hmu:j2 - i2<j - i:=by omega
  have hC2:i2≤j2∧j2≤l.length∧(∀ q,q<i2→TxD.id (Go.Gm.nth l q)<k) ∧ ∀ q,j2≤q→q<l.length→k≤TxD.id (Go.Gm.nth l q):=⟨by omega,by omega,by rw [hi2e];exact hlo,fun q h1 h2=>Int.le_trans hmk (ZcV hs (by omega) h2)⟩
  refine Zb hS (qM rfl rfl (qN rfl rfl qZ)) hB [10,9,8,7,6,2,1,0] [0] rfl rfl fun a w F hS=>Zj (Za ?_)
  replace hS:=hS.ent (i:=9) (s':=.pv (.int .i64 (i2:Int))) rfl (.int hi2)
  replace hS:=hS.ent (i:=10) (s':=.pv (.int .i64 (j2:Int))) rfl (.int hj2)
  obtain ⟨F,hS⟩:=hS.nm [8,7,6,2,1,0,10,9] [0] rfl rfl
  exact ⟨((i2),(j2)),F,hC2,hS,hmu⟩
 have hjj:i=j:=by simp at hc0;omega
 subst hjj
 have hgl2:=hgl hhi
 have hgs2:=hgs hhi
 have hb2:(decide ((i:Int)<(l.length:Int)) && decide (ZcC (TxD.id (Go.Gm.nth l i)) k=0))=isK TxD.id k l:=by
   rw [Bool.eq_iff_iff,hgs2]
   simp [ZiF]
 refine wp_exit (Zh (Zh (Zp (Za (wp_seq ?_)))))
 refine Zb hS (qM rfl rfl (qM rfl rfl (qM rfl rfl (qf (ZbC .t .t) r2 qz (qM rfl rfl (qm rfl rfl rfl rfl (qm rfl rfl rfl rfl (qm rfl rfl rfl rfl (qk rfl (fun h=>o_indexAddr_sl (sz:=3) (.mk Tryz.underlying27 (by kernel_rfl)) (by intro x;rfl) (.w h) (.w h) (by omega) (by have:=of_decide_eq_true h;omega)) r3 qz (qk rfl (fun h=>oR true 3 (.w h)) r2 qz (qm rfl rfl rfl rfl (qk rfl (fun h=>ZK (avs:=[.agg (rTx (Go.Gm.nth l i)),.int .i64 k]) (.w h) (hw (Go.Gm.nth l i)) hf hb hnn (Args.two (.pagg (.w h)) (.w h))) r4 qz (qk rfl (fun h=>o_eql (.w h) qi) r2 qz (qf (ZN .t .t) r2 qz (qN rfl rfl (qN rfl rfl qZ)))))))))))))))) hB [7,6] [0] rfl rfl fun a w F hS=>?_
 try simp only [Int.toNat_natCast] at hS
 refine Za (wp_ret ?_)
 refine Zao hfr hS rfl (.tmp rfl (.tmp rfl .nil)) (.two (.int (by rw [hgl2])) (.bool hb2))
theorem Zr2 (l : List OrdD) (k : Int) (hll : l.length ≤ 1000000) (hs : Zb8 OrdD.key l) (f : FuncId) (fn : Func) (cps : List PV) (hf : Tryz.prog.funcs[f]? = some fn) (hb : fn.body.isSome = true) (hnn : (fn.name == "runtime.NumGoroutine") = false) (hw : ∀ x : OrdD, FnP Tryz.prog f (.agg (ZF x) :: .int .i64 k :: cps) (.int .i64 (ZcC (OrdD.key x) k))) : FnP Tryz.prog 131 [.sl ZF l, .int .i64 k, .clos f cps] (.tup [.int .i64 (lowK OrdD.key k l), .bool (isK OrdD.key k l)]) := by
 refine FnP.mk Tryz.func131 rfl Tryz.ntmps131 rfl ?_
 intro B a w F hB hfr hS
 refine wp_seq ?_
 refine Zb hS (qI qB) hB [7,6,2,1,0] [0] rfl rfl fun a w F hS=>Za (wp_seq ?_)
 refine Zb hS (qM rfl rfl (qu Tryz.underlying28 r1 (qN rfl rfl qZ))) hB [8,7,6,2,1,0] [0] rfl rfl fun a w F hS=>Za (wp_seq ?_)
 refine Zb hS (qM rfl rfl (qI (qN rfl rfl qZ))) hB [10,9,8,7,6,2,1,0] [0] rfl rfl fun a w F hS=>Za (wp_seq (wp_block ?_))
 refine Zl (σ:=Nat×Nat) [0,1,2,6,7,8] [0] (fun s=>[(9,.pv (.int .i64 (s.1:Int))),(10,.pv (.int .i64 (s.2:Int)))]) (fun s=>[]) (fun s=>s.1≤s.2∧s.2≤l.length∧(∀ q,q<s.1→OrdD.key (Go.Gm.nth l q)<k) ∧ ∀ q,s.2≤q→q<l.length→k≤OrdD.key (Go.Gm.nth l q)) (fun s=>s.2 - s.1) ((0),(l.length)) hS ⟨rfl,rfl,rfl,rfl,rfl,rfl,rfl,rfl,trivial⟩ ⟨rfl,trivial⟩ ⟨Nat.zero_le _,Nat.le_refl _,fun q hq=>absurd hq (Nat.not_lt_zero q),fun q h1 h2=>by omega⟩ ?_
 clear hS;intro s a w F hC hS
 obtain ⟨i,j⟩:=s
 try dsimp only at hC
 obtain ⟨F,hS⟩:=hS.nm [10,9,8,7,6,2,1,0] [0] rfl rfl
 try dsimp only at hS
 obtain ⟨hij,hjl,hlo,hhi⟩:=hC
 have hgs:=ZlF (i:=i) (by omega) hs hlo
 have hgl:=ZeF (i:=i) (by omega) hlo
 refine wp_seq (wp_seq ?_)
 refine Zb hS (qM rfl rfl (qM rfl rfl (qL r2))) hB [17,10,9,8,7,6,2,1,0] [0] rfl rfl fun a w F hS=>Za ?_
 refine Zd hS rfl (fun hc0=>?_) (fun hc0=>?_)
 ·skip
  have hlt:i<j:=by simp at hc0;omega
  refine wp_skip (Za (wp_block (wp_seq ?_)))
  refine Zb hS (qM rfl rfl (qM rfl rfl (qf (Zck .t .t) r2 qz (qf (o_conv Tryz.underlying174 (by kernel_rfl) .t) r1 qz (qf (ZfC .t qi (by decide)) r1 qz (qf (o_conv Tryz.underlying3 (by kernel_rfl) .t) r1 qz (qN rfl rfl qZ))))))) hB [11,10,9,8,7,6,2,1,0] [0] rfl rfl fun a w F hS=>?_
  obtain ⟨m,hm⟩:∃ m:Nat,m=(i+j) / 2:=⟨_,rfl⟩
  replace hS:=hS.ent (i:=11) (s':=.pv (.int .i64 (m:Int))) rfl (.int (by rw [hm];exact ZiR (by omega)))
  obtain ⟨F,hS⟩:=hS.nm [11,10,9,8,7,6,2,1,0] [0] rfl rfl
  refine Za (wp_seq ?_)
  refine Zb hS (qM rfl rfl (qM rfl rfl (qM rfl rfl (qy 2 Tryz.underlying28 r2 (qf (oR true 2 .t) r1 qz (qM rfl rfl (qf (ZK (avs:=[.agg (ZF (Go.Gm.nth l m)),.int .i64 k]) .t (hw (Go.Gm.nth l m)) hf hb hnn (Args.two (.pagg .t) .t)) r3 qz (qf (ZbC .t qi) r1 qz qZ)))))))) hB [31,11,10,9,8,7,6,2,1,0] [0] rfl rfl fun a w F hS=>?_
  try simp only [Int.toNat_natCast] at hS
  refine Za ?_
  refine Zd hS rfl (fun hc1=>?_) (fun hc1=>?_)
  ·skip
   have hmk:OrdD.key (Go.Gm.nth l m)<k:=ZdN.1 (by simpa using hc1)
   obtain ⟨i2,hi2e⟩:∃ z,z=m+1:=⟨_,rfl⟩
   obtain ⟨j2,hj2e⟩:∃ z,z=j:=⟨_,rfl⟩
   have hi2:IntKind.wrap .i64 ((m:Int)+1)=(i2:Int):=by rw [hi2e];exact Ze (by omega)
   have hj2:(j:Int)=(j2:Int):=by rw [hj2e]
   have hmu:j2 - i2<j - i:=by omega
   have hC2:i2≤j2∧j2≤l.length∧(∀ q,q<i2→OrdD.key (Go.Gm.nth l q)<k) ∧ ∀ q,j2≤q→q<l.length→k≤OrdD.key (Go.Gm.nth l q):=⟨by omega,by omega,fun q hq=>Int.lt_of_le_of_lt (ZcV hs (by omega) (by omega)) hmk,by rw [hj2e];exact hhi⟩
   refine Zb hS (qM rfl rfl (qp r1 (qN rfl rfl qZ))) hB [10,9,8,7,6,2,1,0] [0] rfl rfl fun a w F hS=>Zj (Za ?_)
   replace hS:=hS.ent (i:=9) (s':=.pv (.int .i64 (i2:Int))) rfl (.int hi2)
   replace hS:=hS.ent (i:=10) (s':=.pv (.int .i64 (j2:Int))) rfl (.int hj2)
   obtain ⟨F,hS⟩:=hS.nm [8,7,6,2,1,0,10,9] [0] rfl rfl
   exact ⟨((i2),(j2)),F,hC2,hS,hmu⟩
  have hmk:k≤OrdD.key (Go.Gm.nth l m):=Int.not_lt.1 fun e=>(show ¬ ZcC (OrdD.key (Go.Gm.nth l m)) k<0 by simpa using hc1) (ZdN.2 e)
  obtain ⟨i2,hi2e⟩:∃ z,z=i:=⟨_,rfl⟩
  obtain ⟨j2,hj2e⟩:∃ z,z=m:=⟨_,rfl⟩
  have hi2:(i:Int)=(i2:Int):=by rw [hi2e]
  have hj2:(m:Int)=(j2:Int):=by rw [hj2e]
  have hmu:j2 - i2<j - i:=by omega
  have hC2:i2≤j2∧j2≤l.length∧(∀ q,q<i2→OrdD.key (Go.Gm.nth l q)<k) ∧ ∀ q,j2≤q→q<l.length→k≤OrdD.key (Go.Gm.nth l q):=⟨by omega,by omega,by rw [hi2e];exact hlo,fun q h1 h2=>Int.le_trans hmk (ZcV hs (by omega) h2)⟩
  refine Zb hS (qM rfl rfl (qN rfl rfl qZ)) hB [10,9,8,7,6,2,1,0] [0] rfl rfl fun a w F hS=>Zj (Za ?_)
  replace hS:=hS.ent (i:=9) (s':=.pv (.int .i64 (i2:Int))) rfl (.int hi2)
  replace hS:=hS.ent (i:=10) (s':=.pv (.int .i64 (j2:Int))) rfl (.int hj2)
  obtain ⟨F,hS⟩:=hS.nm [8,7,6,2,1,0,10,9] [0] rfl rfl
  exact ⟨((i2),(j2)),F,hC2,hS,hmu⟩
 have hjj:i=j:=by simp at hc0;omega
 subst hjj
 have hgl2:=hgl hhi
 have hgs2:=hgs hhi
 have hb2:(decide ((i:Int)<(l.length:Int)) && decide (ZcC (OrdD.key (Go.Gm.nth l i)) k=0))=isK OrdD.key k l:=by
   rw [Bool.eq_iff_iff,hgs2]
   simp [ZiF]
 refine wp_exit (Zh (Zh (Zp (Za (wp_seq ?_)))))
 refine Zb hS (qM rfl rfl (qM rfl rfl (qM rfl rfl (qf (ZbC .t .t) r2 qz (qM rfl rfl (qm rfl rfl rfl rfl (qm rfl rfl rfl rfl (qm rfl rfl rfl rfl (qk rfl (fun h=>o_indexAddr_sl (sz:=2) (.mk Tryz.underlying28 (by kernel_rfl)) (by intro x;rfl) (.w h) (.w h) (by omega) (by have:=of_decide_eq_true h;omega)) r3 qz (qk rfl (fun h=>oR true 2 (.w h)) r2 qz (qm rfl rfl rfl rfl (qk rfl (fun h=>ZK (avs:=[.agg (ZF (Go.Gm.nth l i)),.int .i64 k]) (.w h) (hw (Go.Gm.nth l i)) hf hb hnn (Args.two (.pagg (.w h)) (.w h))) r4 qz (qk rfl (fun h=>o_eql (.w h) qi) r2 qz (qf (ZN .t .t) r2 qz (qN rfl rfl (qN rfl rfl qZ)))))))))))))))) hB [7,6] [0] rfl rfl fun a w F hS=>?_
 try simp only [Int.toNat_natCast] at hS
 refine Za (wp_ret ?_)
 refine Zao hfr hS rfl (.tmp rfl (.tmp rfl .nil)) (.two (.int (by rw [hgl2])) (.bool hb2))
theorem Zl7 (g:Zn) (id:Int) (hs:ZaH g.txs) (hr:Zb8 TxD.id g.txs):FnP Tryz.prog 69 [.agg (Zr g),.int .i64 id] (.tup [.int .i64 (lowK TxD.id id g.txs),.bool (isK TxD.id id g.txs)]):=by
 refine FnP.mk Tryz.func69 rfl Tryz.ntmps69 rfl ?_
 intro B a w F hB hfr hS
 have hsl:=hs.1
 refine wp_seq ?_
 refine Zc hS (qx 101 r1 (qI qB)) hB [5,4,2,1] [101,0] (fun _=>rfl) (fun _=>rfl) fun τ a w F hS=>?_
 try dsimp only [RS.sub,SF.sub,CF.sub,csub,Anc.sub,List.map,zCF,Zr,rTx,ZF,ZS,Zo,rOp] at hS
 generalize τ 2=v2 at hS
 refine Za (wp_seq ?_)
 refine Zb hS (qg 0 101 r1 r1 (qa 101 r1 r1 (qM rfl rfl (qf (oP (Zr6 g.txs id (by omega) hr 130 Tryz.f130 [] Tryz.func130 rfl (by kernel_rfl) (fun x=>Zo2 x id)) Tryz.func129 (Args.three .t .t (.conv .f (Ent.fnClos)))) r2 qz (qf (Zq .t rfl) r1 qz (qf (Zq .t rfl) r1 qz (qN rfl rfl (qN rfl rfl qZ)))))))) hB [5,4] [101,0] rfl rfl fun a w F hS=>Za (wp_ret ?_)
 refine Zao hfr hS rfl (.tmp rfl (.tmp rfl .nil)) (.two .refl .refl)
def orZ:List Int→Int
 | []=>0
 | x :: l=>if x=0 then orZ l else x
theorem Zpi:∀ {l:List Int} {i:Nat},i<l.length→(∀ q,q<i→Go.Gm.nth l q=0)→Go.Gm.nth l i≠0→orZ l=Go.Gm.nth l i
 | x :: l,0,h,_,hn=>by rw [nth_eq h] at hn ⊢;exact if_neg hn
 | x :: l,i+1,h,hq,hn=>by
   have h':i<l.length:=by simpa using h
   have h0:=hq 0 (by omega)
   rw [nth_eq (by simp)] at h0
   have e:Go.Gm.nth (x :: l) (i+1)=Go.Gm.nth l i:=by rw [nth_eq h,nth_eq h'];rfl
   rw [e] at hn ⊢
   rw [orZ,if_pos (show x=0 from h0)]
   exact Zpi h' (fun q hq2=>by
     have:=hq (q+1) (by omega)
     rwa [nth_eq (by simp;omega),List.getElem_cons_succ,← nth_eq (by omega)] at this) hn
theorem Zj4:∀ {l:List Int},(∀ q,q<l.length→Go.Gm.nth l q=0)→orZ l=0
 | [],_=>rfl
 | x :: l,hq=>by
   have h0:=hq 0 (by simp)
   rw [nth_eq (by simp)] at h0
   rw [orZ,if_pos (show x=0 from h0)]
   exact Zj4 fun q hq2=>by
     have:=hq (q+1) (by simp;omega)
     rwa [nth_eq (by simp;omega),List.getElem_cons_succ,← nth_eq hq2] at this
def okE (e:Zae):Prop:=(0≤e.label∧e.label≤1048575)∧0≤e.node∧e.node≤4095
def ZaC (e:Zae):Int:=(e.kind*1048576+e.label)*4096+e.node
theorem Zo7 {a b:Zae} (ha:okE a) (hb:okE b):orZ [ZcC a.kind b.kind,ZcC a.label b.label,ZcC a.node b.node] = ZcC (ZaC a) (ZaC b):=by
 obtain ⟨⟨a1,a2⟩,a3,a4⟩:=ha
 obtain ⟨⟨b1,b2⟩,b3,b4⟩:=hb
 unfold orZ orZ orZ orZ ZaC ZcC
 repeat' split
 all_goals omega
theorem keyE_inj {a b:Zae} (ha:okE a) (hb:okE b) (h:ZaC a=ZaC b):a=b:=by
 obtain ⟨⟨a1,a2⟩,a3,a4⟩:=ha
 obtain ⟨⟨b1,b2⟩,b3,b4⟩:=hb
 unfold ZaC at h
 cases a;cases b
 simp only at *
 congr 1 <;> omega
theorem Zr8 (l:List Int):FnP Tryz.prog 126 [.sl Zo l] (.int .i64 (orZ l)):=by
 refine FnP.mk Tryz.func126 rfl Tryz.ntmps126 rfl ?_
 intro B a w F hB hfr hS
 have hxl:=Sat.lenSl hS (i:=0) rfl
 refine wp_seq ?_
 refine Zb hS (qI qZ) hB [2,0] [0] rfl rfl fun a w F hS=>Za (wp_seq ?_)
 refine Zb hS (qI qZ) hB [3,2,0] [0] rfl rfl fun a w F hS=>Za (wp_seq (wp_seq ?_))
 refine Zb hS (qM rfl rfl (qu Tryz.underlying34 r1 (qJ qZ))) hB [8,7,6,3,2] [0] rfl rfl fun a w F hS=>Za (wp_block ?_)
 refine Zl (σ:=(Nat)) [2,3,6,7] [0] (fun s=>[(8,.pv (.int .i64 (s:Int)))]) (fun s=>[]) (fun s=>s≤l.length∧(∀ q,q<s→Go.Gm.nth l q=0)) (fun s=>l.length - s) (0) hS ⟨rfl,rfl,rfl,rfl,rfl,trivial⟩ ⟨rfl,trivial⟩ ⟨Nat.zero_le _,fun q hq=>absurd hq (Nat.not_lt_zero q)⟩ ?_
 clear hS;intro i a w F hC hS
 try dsimp only at hC
 obtain ⟨F,hS⟩:=hS.nm [8,7,6,3,2] [0] rfl rfl
 try dsimp only at hS
 obtain ⟨hi,hq⟩:=hC
 refine wp_seq ?_
 refine Zb hS (qL r2) hB [9,8,7,6,3,2] [0] rfl rfl fun a w F hS=>Za (wp_seq ?_)
 refine Zd hS rfl (fun hc0=>?_) (fun hc0=>?_)
 ·skip
  have hil:i<l.length:=by simp at hc0;omega
  refine wp_skip (Za (wp_seq (wp_block (wp_seq ?_))))
  refine Zb hS (qy 1 Tryz.underlying34 r2 (qf (oR false 1 .t) r1 qz (qN rfl rfl qZ))) hB [8,7,6,5,3,2] [0] rfl rfl fun a w F hS=>?_
  try simp only [Int.toNat_natCast] at hS
  refine Za (wp_seq ?_)
  refine Zb hS (qM rfl rfl (qM rfl rfl (qf (o_neq .t .t) r2 qz qZ))) hB [14,8,7,6,5,3,2] [0] rfl rfl fun a w F hS=>Za ?_
  refine Zd hS rfl (fun hc1=>?_) (fun hc1=>?_)
  ·skip
   have hg:Go.Gm.nth l i=orZ l:=(Zpi (by omega) hq (by simpa using hc1)).symm
   refine wp_seq ?_
   refine Zb hS (qM rfl rfl (qN rfl rfl qZ)) hB [8,7,6,3,2] [0] rfl rfl fun a w F hS=>Za (wp_ret (Zs (Zi (Zi (Zs (Zi ?_))))))
   refine Zw hfr hS rfl rfl rfl (.int hg)
  have hne:Go.Gm.nth l i=0:=by simpa using hc1
  refine wp_skip (Zj (Za ?_))
  refine Zb hS (qp r1 (qM rfl rfl qZ)) hB [8,7,6,3,2] [0] rfl rfl fun a w F hS=>Za ?_
  replace hS:=hS.ent (i:=8) (s':=.pv (.int .i64 ((i+1:Nat):Int))) rfl (.int (Ze (by omega)))
  obtain ⟨F,hS⟩:=hS.nm [7,6,3,2,8] [0] rfl rfl
  exact ⟨(i+1),F,⟨by omega,(fun q h9=>by rcases Nat.lt_or_eq_of_le (Nat.le_of_lt_succ h9) with h8 | h8;exact hq q h8;rw [h8];exact hne)⟩,hS,by omega⟩
 have hil:i=l.length:=by simp at hc0;omega
 have hg:(0:Int)=orZ l:=(Zj4 fun q h9=>hq q (by omega)).symm
 refine wp_exit (Zh (Zh (Zp (Za (wp_seq ?_)))))
 refine Zb hS (qM rfl rfl (qN rfl rfl qZ)) hB [2] [0] rfl rfl fun a w F hS=>Za (wp_ret ?_)
 refine Zw hfr hS rfl rfl rfl (.int hg)
theorem ZpC (x y:Zae) (hx:okE x) (hy:okE y):FnP Tryz.prog 277 [.agg (Zaq x),.agg (Zaq y)] (.int .i64 (ZcC (ZaC x) (ZaC y))):=by
 refine FnP.mk Tryz.func277 rfl Tryz.ntmps277 rfl ?_
 intro B a w F hB hfr hS
 refine wp_seq ?_
 refine Zc hS (qx 101 r1 (qx 102 r1 (qI qZ))) hB [4,3,2] [102,101,0] (fun _=>rfl) (fun _=>rfl) fun τ a w F hS=>?_
 try dsimp only [RS.sub,SF.sub,CF.sub,csub,Anc.sub,List.map,zCF,Zaq,ZaV,Zo,ZbE] at hS
 generalize τ 2=v2 at hS
 generalize τ 3=v3 at hS
 refine Za (wp_seq ?_)
 refine Zy hS (qg 0 101 r1 r1 (qa 101 r1 r1 (qg 0 102 r1 r1 (qa 102 r1 r1 (qf (oP (Zg9 x.kind y.kind) Tryz.func127 (Args.two .t .t)) r2 qz (qg 1 101 r1 r1 (qa 101 r1 r1 (qg 1 102 r1 r1 (qa 102 r1 r1 (qf (oP (Zg9 x.label y.label) Tryz.func127 (Args.two .t .t)) r2 qz (qg 2 101 r1 r1 (qa 101 r1 r1 (qg 2 102 r1 r1 (qa 102 r1 r1 (qf (oP (Zg9 x.node y.node) Tryz.func127 (Args.two .t .t)) r2 qz (qf (Zt (sz:=1) (zs:=[.int .i64 0]) (r:=[(0,.tmp 9),(1,.tmp 14),(2,.tmp 19)]) (l:=[_,_,_]) Tryz.underlying34 (by kernel_rfl) (by kernel_rfl) (by kernel_rfl) (by kernel_rfl) rfl rfl (.one rfl .t one_int (by kernel_rfl) (.one rfl .t one_int (by kernel_rfl) (.one rfl .t one_int (by kernel_rfl) .nil))) rfl) r3 qz (qf (oP (Zr8 [ZcC x.kind y.kind,ZcC x.label y.label,ZcC x.node y.node]) Tryz.func126 (Args.one (.conv .t (Ent.arrSl (R:=Zo) (l:=[ZcC x.kind y.kind,ZcC x.label y.label,ZcC x.node y.node]) rfl)))) r1 qz (qN rfl rfl qZ)))))))))))))))))) hB [4] [0] rfl rfl fun a w F hS=>?_
 try dsimp only [List.map,Zf,xL,xM,Nat.reduceAdd,xD,xE,xT,xU,xC,xN,zCF,ldSF,Zaq,ZaV,Zo,ZbE] at hS
 refine Za (wp_ret ?_)
 refine Zw hfr hS rfl rfl rfl (.int (Zo7 hx hy))
theorem ZkU {α:Type} {R:α→List PV} {zs:List Value} {sz:Nat} {v:α} (hz:zs.length=sz) (h0:0<sz) (hp:∀ w yy,PVs (R v) zs w yy) (n:Nat):∀ u ∈ (madeCells zs.toArray (n*sz)).toList,u.oneCell' = true:=
 (Zdr (R:=R) (v:=v) hz h0 (hp (default:World) (fun _=>False)) n).one
theorem ZlN {α:Type} {l:List α} {i:Nat} {x:α} (h:i=l.length):l.take i ++ [x] ++ l.drop i=l ++ [x]:=by rw [h];simp
theorem ZjL {α:Type} {l l2 l3:List α} {i:Nat} {x z:α} (hi:i<l.length) (h2:l2=l.take i++List.replicate (l.length+1 - i) z) (h3:l3=l2.take i ++ [x] ++ l2.drop (i + [x].length)) :
   l.take i ++ [x] ++ l.drop i=l3.take (i+1)++l.drop i++l3.drop (i+1+(l.drop i).length):=by
 have e1:l2.take i=l.take i:=by
   rw [h2,List.take_append_of_le_length (by rw [List.length_take];omega),List.take_take,Nat.min_self]
 have e0:l2.length=l.length+1:=by rw [h2,List.length_append,List.length_take,List.length_replicate];omega
 have e2:l3.take (i+1)=l.take i ++ [x]:=by
   rw [h3,e1,List.take_append_of_le_length (by rw [List.length_append,List.length_take];simp;omega),List.take_of_length_le (by rw [List.length_append,List.length_take];simp;omega)]
 have e3:l3.length=l.length+1:=by
   rw [h3,e1,List.length_append,List.length_append,List.length_take,List.length_drop,e0];simp;omega
 have e4:l3.drop (i+1+(l.drop i).length) = []:=List.drop_eq_nil_of_le (by rw [e3,List.length_drop];omega)
 rw [e2,e4,List.append_nil]
theorem Zh7 {α:Type} {l l4:List α} {i:Nat} {x:α} (hi:i<l.length) (h4:l4=l.take (i+1)++l.drop i):l.take i ++ [x] ++ l.drop i=l4.take i ++ [x] ++ l4.drop (i + [x].length):=by
 have e1:l4.take i=l.take i:=by
   rw [h4,List.take_append_of_le_length (by rw [List.length_take];omega),List.take_take,Nat.min_eq_left (by omega)]
 have e2:l4.drop (i + [x].length)=l.drop i:=by
   rw [h4,show i + [x].length=i+1 from rfl,List.drop_append_of_le_length (by rw [List.length_take];omega),List.drop_eq_nil_of_le (by rw [List.length_take];omega),List.nil_append]
 rw [e1,e2]
theorem Zrr (v:Value) (l:List OrdD) (i:Nat) (x:OrdD) (hll:l.length≤1000000) (hi:i≤l.length):FnG Tryz.prog 133 1 [.is v,.int .i64 i,.sl ZF [x]] [Zu 36 2 ZF l v] (PV.one) (fun v=>[Zu 36 2 ZF (l.take i ++ [x] ++ l.drop i) v]):=by
 refine FnG.mk Tryz.func133 rfl Tryz.ntmps133 rfl (by kernel_rfl) ?_
 intro B F0 a w F hB hG hS
 replace hS:=hS.turn 1 rfl (r':=.ob (.val v) (Zu 36 2 ZF l)) (fun _ _ _ _ h=>h)
 refine wp_seq ?_
 refine Zb hS (qC qZ) hB [6,2,1,0] [1,0] rfl rfl fun a w F hS=>Za (wp_seq ?_)
 refine Zb hS (qM rfl rfl (qM rfl rfl (qf (Zhb (sz:=2) 1 (.mk Tryz.underlying28 (by kernel_rfl)) .is .t (by omega) (by omega)) r2 r1 qZ))) hB [6,2,1,0] [1,0] rfl rfl fun a w F hS=>Za (wp_seq ?_)
 refine Zb hS (qM rfl rfl (qu Tryz.underlying28 r1 (qN rfl rfl qZ))) hB [7,6,2,1,0] [1,0] rfl rfl fun a w F hS=>?_
 replace hS:=hS.ent (i:=7) (s':=.pv (.int .i64 1)) rfl (.int rfl)
 obtain ⟨F,hS⟩:=hS.nm [7,6,2,1,0] [1,0] rfl rfl
 refine Za (wp_seq (wp_seq ?_))
 refine Zb hS (qM rfl rfl (qf (o_eql .t qi) r1 qz qZ)) hB [16,7,6,2,1,0] [1,0] rfl rfl fun a w F hS=>Za ?_
 refine Zd hS rfl (fun hc0=>?_) (fun hc0=>?_)
 ·skip
  simp at hc0
 refine wp_skip (Za (wp_seq ?_))
 refine Zb hS (qM rfl rfl (qf (ZQ 1 Tryz.underlying28 .is) r1 r1 (qN rfl rfl qZ))) hB [8,7,6,2,1,0] [1,0] rfl rfl fun a w F hS=>Za (wp_seq (wp_seq ?_))
 refine Zb hS (qM rfl rfl (qM rfl rfl (qf (o_eql .t .t) r2 qz qZ))) hB [22,8,7,6,2,1,0] [1,0] rfl rfl fun a w F hS=>Za ?_
 refine Zd hS rfl (fun hc1=>?_) (fun hc1=>?_)
 ·skip
  have hg:=ZlN (x:=x) (by have h9:=hc1;simp at h9;omega:i=l.length)
  refine wp_seq ?_
  refine Zc hS (qM rfl rfl (qM rfl rfl (qf (ZV (sz:=2) (bs:=32) 1 (.mk' Tryz.underlying28 (by kernel_rfl) (by kernel_rfl)) (by intro x;rfl) .is (.sl .t) (by simp only [List.length_cons,List.length_nil];omega) (by decide)) ⟨rfl,rfl,trivial⟩ ⟨rfl,trivial⟩ (qN rfl rfl qZ)))) hB [8,7,6,2,1,0] [1,0] (fun _=>rfl) (fun _=>rfl) fun τ a w F hS=>?_
  try dsimp only [RS.sub,SF.sub,CF.sub,csub,Anc.sub,List.map,xC,xN,ZF] at hS
  generalize τ 25=v25 at hS
  refine Za (wp_ret (Zi ?_))
  have hS:=hS.turn 1 rfl (r':=RS.hp (Zu 36 2 ZF (l.take i ++ [x] ++ l.drop i) v25)) (fun _ _ _ _ h=>by rw [hg];exact h)
  refine Z2 (h':=fun v=>Zu 36 2 ZF (l.take i ++ [x] ++ l.drop i) v) hG hS rfl (.tmp rfl .nil) (.one .one) rfl
 have hil:i<l.length:=by simp at hc1;omega
 have hw1:IntKind.wrap .i64 ((i:Int)+1)=((i+1:Nat):Int):=Ze (by omega)
 have hwn:IntKind.wrap .i64 ((l.length:Int)+1)=((l.length+1:Nat):Int):=Ze (by omega)
 refine wp_skip (Za (wp_seq (wp_seq ?_)))
 refine Zb hS (qM rfl rfl (qM rfl rfl (qf (Zck .t .t) r2 qz (qM rfl rfl (qf (ZhO 1 Tryz.underlying28 .is) r1 r1 (qf (Zbi .t .t) r2 qz qZ)))))) hB [31,8,7,6,2,1,0] [1,0] rfl rfl fun a w F hS=>Za ?_
 refine Zd hS rfl (fun hc2=>?_) (fun hc2=>?_)
 ·skip
  have hcap:capV v<l.length+1:=by rw [hwn] at hc2;simp at hc2;omega
  have hw:IntKind.wrap .i64 (IntKind.wrap .i64 ((l.length:Int)+1) - (i:Int))=((l.length+1 - i:Nat):Int):=by rw [hwn,ZJ (by omega)];omega
  refine wp_seq ?_
  refine Zc hS (qM rfl rfl (qM rfl rfl (qf (ZdV (sz:=2) 1 (.mk Tryz.underlying28 (by kernel_rfl)) .is .t (by omega) (by omega)) r2 r1 (qM rfl rfl (qM rfl rfl (qf (Zck .t .t) r2 qz (qM rfl rfl (qf (o_sub .t .t) r2 qz (qf (ZcO (R:=ZF) (z:=(⟨0,[]⟩:OrdD)) (bs:=32) (sz:=2) (zs:=[.int .i64 0,.slice none 0 0]) 1 101 Tryz.underlying28 Tryz.underlying3 (by kernel_rfl) (by kernel_rfl) (by kernel_rfl) (by intro x;rfl) (fun _ _=>⟨⟨rfl,rfl,Zc4⟩,⟨rfl,Zh8⟩,trivial⟩) .t .t (by omega) (by rw [hw];omega) (by rw [hw];omega) (by rw [hw];omega) (by rw [hw];omega)) ⟨rfl,rfl,trivial⟩ ⟨rfl,trivial⟩ (qN rfl rfl qZ)))))))))) hB [9,8,7,6,2,1,0] [101,1,0] (fun _=>rfl) (fun _=>rfl) fun τ a w F hS=>?_
  try dsimp only [RS.sub,SF.sub,CF.sub,csub,Anc.sub,List.map,xC,xN,ZF] at hS
  generalize τ 40=v40 at hS
  rw [hw] at hS
  simp only [Int.toNat_natCast] at hS
  obtain ⟨l2,hl2⟩:∃ y,y=l.take i++List.replicate (l.length+1 - i) (⟨0,[]⟩:OrdD):=⟨_,rfl⟩
  rw [← hl2] at hS
  have hl2n:l2.length=l.length+1:=by rw [hl2,List.length_append,List.length_take,List.length_replicate];omega
  obtain ⟨F,hS⟩:=hS.give 1 0 rfl rfl
  obtain ⟨F,hS⟩:=hS.nm [9,8,7,6,2,1,0] [101,0] rfl rfl
  refine Za (wp_seq ?_)
  refine Zb hS (qM rfl rfl (qM rfl rfl (qf (Zag (sz:=2) 101 (.mk Tryz.underlying28 (by kernel_rfl)) .is .t (by omega) (by omega)) r2 r1 (qM rfl rfl (qf (o_copy_sub 101 Tryz.underlying28 (by kernel_rfl) (by intro x;rfl) .t .t (by simp) (by simp;omega)) r2 r1 qZ))))) hB [9,8,7,6,2,1,0] [101,0] rfl rfl fun a w F hS=>?_
  simp only [Int.toNat_natCast] at hS
  obtain ⟨l3,hl3⟩:∃ y,y=l2.take i ++ [x] ++ l2.drop (i + [x].length):=⟨_,rfl⟩
  rw [← hl3] at hS
  have hl3n:l3.length=l.length+1:=by rw [hl3,List.length_append,List.length_append,List.length_take,List.length_drop,hl2n];simp;omega
  refine Za (wp_seq ?_)
  refine Zy hS (qM rfl rfl (qM rfl rfl (qM rfl rfl (qf (Zck .t .t) r2 qz (qf (Zag (sz:=2) 101 (.mk Tryz.underlying28 (by kernel_rfl)) .is .t (by rw [hw1];omega) (by rw [hw1];omega)) r2 r1 (qM rfl rfl (qM rfl rfl (qf (o_slice_lo (sz:=2) (.mk Tryz.underlying28 (by kernel_rfl)) (by intro x;rfl) .t .t (by omega) (by omega)) r2 qz (qf (o_copy_sub 101 Tryz.underlying28 (by kernel_rfl) (by intro x;rfl) .t .t (by intro h9;have:=congrArg List.length h9;simp at this;omega) (by rw [hw1,List.length_drop];omega)) r2 r1 qZ))))))))) hB [9,8,7,6,2,1,0] [101,0] rfl rfl fun a w F hS=>?_
  try dsimp only [ZF] at hS
  rw [hw1] at hS
  simp only [Int.toNat_natCast] at hS
  have hg:=ZjL (x:=x) hil hl2 hl3
  refine Za (wp_seq ?_)
  refine Zb hS (qM rfl rfl (qN rfl rfl qZ)) hB [8,7,6,2,1,0] [101,0] rfl rfl fun a w F hS=>Za (wp_ret (Zi ?_))
  obtain ⟨F,hS⟩:=hS.rename 101 1 rfl rfl
  have hS:=hS.turn 1 rfl (r':=RS.hp (Zu 36 2 ZF (l.take i ++ [x] ++ l.drop i) v40)) (fun _ _ _ _ h=>by rw [hg];exact h)
  refine Z2 (h':=fun v=>Zu 36 2 ZF (l.take i ++ [x] ++ l.drop i) v) hG hS rfl (.tmp rfl .nil) (.one .one) rfl
 have hcap:l.length+1≤capV v:=by rw [hwn] at hc2;simp at hc2;omega
 refine wp_skip (Za (wp_seq ?_))
 refine Zc hS (qM rfl rfl (qM rfl rfl (qM rfl rfl (qf (Zck .t .t) r2 qz (qf (Zgj (sz:=2) 1 (.mk Tryz.underlying28 (by kernel_rfl)) .is .t (by rw [hwn];omega) (by omega)) r2 r1 (qN rfl rfl qZ)))))) hB [8,7,6,2,1,0] [1,0] (fun _=>rfl) (fun _=>rfl) fun τ a w F hS=>?_
 try dsimp only [RS.sub,SF.sub,CF.sub,csub,Anc.sub,List.map,ZF] at hS
 generalize τ 60=v60 at hS
 refine Za (wp_seq (wp_seq ?_))
 refine Zb hS (qM rfl rfl (qM rfl rfl (qM rfl rfl (qM rfl rfl (qf (Zck .t .t) r2 qz (qf (Za7 (sz:=2) 1 (.mk Tryz.underlying28 (by kernel_rfl)) .is .t (by rw [hw1];omega) (by rw [hw1];omega)) r2 r1 (qf (Zge 1 Tryz.func210 (by kernel_rfl) (by kernel_rfl) (by kernel_rfl) rfl Tryz.underlying28 (by kernel_rfl) (by intro x;rfl) .t .t (by rw [hw1];omega)) r2 r1 (qf (o_not .t) r1 qz qZ)))))))) hB [68,8,7,6,2,1,0] [1,0] rfl rfl fun a w F hS=>Za ?_
 refine Zd hS rfl (fun hc3=>?_) (fun hc3=>?_)
 ·skip
  refine wp_seq ?_
  refine Zy hS (qM rfl rfl (qM rfl rfl (qM rfl rfl (qf (Zck .t .t) r2 qz (qf (Za7 (sz:=2) 1 (.mk Tryz.underlying28 (by kernel_rfl)) .is .t (by rw [hw1];omega) (by rw [hw1];omega)) r2 r1 (qM rfl rfl (qM rfl rfl (qf (Za7 (sz:=2) 1 (.mk Tryz.underlying28 (by kernel_rfl)) .is .t (by omega) (by omega)) r2 r1 (qf (Zd9 (k:=i) 1 Tryz.underlying28 (by kernel_rfl) (by intro x;rfl) .t .t (by rw [hw1];rfl) rfl (by omega)) r2 r1 qZ))))))))) hB [8,7,6,2,1,0] [1,0] rfl rfl fun a w F hS=>?_
  try dsimp only [ZF] at hS
  obtain ⟨l4,hl4⟩:∃ y,y=l.take (i+1)++l.drop i:=⟨_,rfl⟩
  rw [← hl4] at hS
  have hl4n:l4.length=l.length+1:=by rw [hl4,List.length_append,List.length_take,List.length_drop];omega
  refine Za (wp_seq ?_)
  refine Zb hS (qM rfl rfl (qM rfl rfl (qf (Zag (sz:=2) 1 (.mk Tryz.underlying28 (by kernel_rfl)) .is .t (by omega) (by omega)) r2 r1 (qM rfl rfl (qf (o_copy_sub 1 Tryz.underlying28 (by kernel_rfl) (by intro x;rfl) .t .t (by simp) (by simp;omega)) r2 r1 qZ))))) hB [8,7,6,2,1,0] [1,0] rfl rfl fun a w F hS=>?_
  simp only [Int.toNat_natCast] at hS
  have hg:=Zh7 (x:=x) hil hl4
  refine Za (wp_seq ?_)
  refine Zb hS (qM rfl rfl (qN rfl rfl qZ)) hB [8,7,6,2,1,0] [1,0] rfl rfl fun a w F hS=>Za (wp_ret (Zi ?_))
  have hS:=hS.turn 1 rfl (r':=RS.hp (Zu 36 2 ZF (l.take i ++ [x] ++ l.drop i) v60)) (fun _ _ _ _ h=>by rw [hg];exact h)
  refine Z2 (h':=fun v=>Zu 36 2 ZF (l.take i ++ [x] ++ l.drop i) v) hG hS rfl (.tmp rfl .nil) (.one .one) rfl
 simp at hc3
theorem ZrG (v:Value) (l:List TxD) (i:Nat) (hll:l.length≤1000000) (hi:i<l.length):FnG Tryz.prog 72 1 [.is v,.int .i64 i,.int .i64 ((i+1:Nat):Int)] [Zu 33 3 rTx l v] (PV.one) (fun v=>[Zu 33 3 rTx (l.take i++l.drop (i+1)) v]):=by
 refine FnG.mk Tryz.func72 rfl Tryz.ntmps72 rfl (by kernel_rfl) ?_
 intro B F0 a w F hB hG hS
 replace hS:=hS.turn 1 rfl (r':=.ob (.val v) (Zu 33 3 rTx l)) (fun _ _ _ _ h=>h)
 have hrc:=(hS.rowCap (n:=1) rfl).1
 refine wp_seq ?_
 refine Zb hS (qC qZ) hB [6,2,1,0] [1,0] rfl rfl fun a w F hS=>Za (wp_seq ?_)
 refine Zb hS (qM rfl rfl (qM rfl rfl (qM rfl rfl (qM rfl rfl (qf (ZQ 1 Tryz.underlying27 .is) r1 r1 (qf (Zop (sz:=3) 1 (.mk Tryz.underlying27 (by kernel_rfl)) .is .t .t .t (by omega) (by omega) (by omega) (by omega)) r4 r1 qZ)))))) hB [6,2,1,0] [1,0] rfl rfl fun a w F hS=>Za (wp_seq (wp_seq ?_))
 refine Zb hS (qM rfl rfl (qM rfl rfl (qf (o_eql .t .t) r2 qz qZ))) hB [16,6,2,1,0] [1,0] rfl rfl fun a w F hS=>Za ?_
 refine Zd hS rfl (fun hc0=>?_) (fun hc0=>?_)
 ·skip
  simp at hc0;omega
 refine wp_skip (Za (wp_seq ?_))
 refine Zb hS (qM rfl rfl (qf (ZQ 1 Tryz.underlying27 .is) r1 r1 (qN rfl rfl qZ))) hB [7,6,2,1,0] [1,0] rfl rfl fun a w F hS=>Za (wp_seq ?_)
 refine Zy hS (qM rfl rfl (qM rfl rfl (qf (ZdV (sz:=3) 1 (.mk Tryz.underlying27 (by kernel_rfl)) .is .t (by omega) (by omega)) r2 r1 (qM rfl rfl (qM rfl rfl (qf (Zim (sz:=3) 1 (.mk Tryz.underlying27 (by kernel_rfl)) .is .t (by omega) (by omega) (by omega)) r2 r1 (qf (ZgQ 1 Tryz.underlying27 (by kernel_rfl) (by intro x;rfl) .t .t (by omega) (by omega) (by omega)) ⟨rfl,rfl,trivial⟩ ⟨rfl,trivial⟩ (qN rfl rfl qZ)))))))) hB [7,6,0] [1,0] rfl rfl fun a w F hS=>?_
 try dsimp only [xC,xN,rTx] at hS
 simp only [Int.toNat_natCast] at hS
 obtain ⟨v2,hv2⟩:∃ y,y=Zgp (i+(l.length - (i+1))) v:=⟨_,rfl⟩
 rw [← hv2] at hS
 have hcv:capV v2=capV v:=by rw [hv2];exact Zmd _ _
 obtain ⟨l4,hl4⟩:∃ y,y=l.take i++l.drop (i+1):=⟨_,rfl⟩
 rw [← hl4] at hS
 have hl4n:l4.length+1=l.length:=by rw [hl4,List.length_append,List.length_take,List.length_drop];omega
 have hg:=hl4.symm
 refine Za (wp_seq ?_)
 refine Zb hS (qM rfl rfl (qM rfl rfl (qf (ZQ 1 Tryz.underlying27 .is) r1 r1 (qM rfl rfl (qf (Zqf (sz:=3) 1 (.mk Tryz.underlying27 (by kernel_rfl)) .is .t .t (by omega) (by omega) (by rw [hcv];omega)) r3 r1 (qf (ZgG (zs:=[.int .i64 0,.bool false,.slice none 0 0]) 1 Tryz.underlying27 rfl rfl (ZkU (zs:=[.int .i64 0,.bool false,.slice none 0 0]) (R:=rTx) (v:=(⟨0,false,[]⟩:TxD)) rfl (by decide) (fun _ _=>⟨⟨rfl,rfl,Zc4⟩,⟨rfl,rfl⟩,⟨rfl,Zh8⟩,trivial⟩) _) .t (by omega) (by rw [hcv];omega)) r1 r1 qZ)))))) hB [6,0] [1,0] rfl rfl fun a w F hS=>Za (wp_seq ?_)
 refine Zb hS (qM rfl rfl (qN rfl rfl qZ)) hB [6] [1,0] rfl rfl fun a w F hS=>Za (wp_ret ?_)
 have hS:=hS.turn 1 rfl (r':=RS.hp (Zu 33 3 rTx (l.take i++l.drop (i+1)) v2)) (fun _ _ _ _ h=>by rw [hg];exact h)
 refine Z2 (h':=fun v=>Zu 33 3 rTx (l.take i++l.drop (i+1)) v) hG hS rfl (.tmp rfl .nil) (.one .one) rfl
theorem ZrD (l : List Zae) (e : Zae) (k : Int) (hll : l.length ≤ 1000000) (hs : Zb8 ZaC l) (f : FuncId) (fn : Func) (cps : List PV) (hf : Tryz.prog.funcs[f]? = some fn) (hb : fn.body.isSome = true) (hnn : (fn.name == "runtime.NumGoroutine") = false) (hw : ∀ x ∈ l, FnP Tryz.prog f (.agg (Zaq x) :: .agg (Zaq e) :: cps) (.int .i64 (ZcC (ZaC x) k))) : FnP Tryz.prog 276 [.sl Zaq l, .agg (Zaq e), .clos f cps] (.tup [.int .i64 (lowK ZaC k l), .bool (isK ZaC k l)]) := by
 refine FnP.mk Tryz.func276 rfl Tryz.ntmps276 rfl ?_
 intro B a w F hB hfr hS
 refine wp_seq ?_
 refine Zc hS (qx 101 r1 (qI qB)) hB [7,6,4,2,0] [101,0] (fun _=>rfl) (fun _=>rfl) fun τ a w F hS=>?_
 try dsimp only [RS.sub,SF.sub,CF.sub,csub,Anc.sub,List.map,zCF,Zaq] at hS
 generalize τ 4=v4 at hS
 refine Za (wp_seq ?_)
 refine Zb hS (qM rfl rfl (qu Tryz.underlying273 r1 (qN rfl rfl qZ))) hB [8,7,6,4,2,0] [101,0] rfl rfl fun a w F hS=>Za (wp_seq ?_)
 refine Zb hS (qM rfl rfl (qI (qN rfl rfl qZ))) hB [10,9,8,7,6,4,2,0] [101,0] rfl rfl fun a w F hS=>Za (wp_seq (wp_block ?_))
 refine Zl (σ:=Nat×Nat) [0,2,4,6,7,8] [0,101] (fun s=>[(9,.pv (.int .i64 (s.1:Int))),(10,.pv (.int .i64 (s.2:Int)))]) (fun s=>[]) (fun s=>s.1≤s.2∧s.2≤l.length∧(∀ q,q<s.1→ZaC (Go.Gm.nth l q)<k) ∧ ∀ q,s.2≤q→q<l.length→k≤ZaC (Go.Gm.nth l q)) (fun s=>s.2 - s.1) ((0),(l.length)) hS ⟨rfl,rfl,rfl,rfl,rfl,rfl,rfl,rfl,trivial⟩ ⟨rfl,rfl,trivial⟩ ⟨Nat.zero_le _,Nat.le_refl _,fun q hq=>absurd hq (Nat.not_lt_zero q),fun q h1 h2=>by omega⟩ ?_
 clear hS;intro s a w F hC hS
 obtain ⟨i,j⟩:=s
 try dsimp only at hC
 obtain ⟨F,hS⟩:=hS.nm [10,9,8,7,6,4,2,0] [101,0] rfl rfl
 try dsimp only at hS
 obtain ⟨hij,hjl,hlo,hhi⟩:=hC
 have hgs:=ZlF (i:=i) (by omega) hs hlo
 have hgl:=ZeF (i:=i) (by omega) hlo
 refine wp_seq (wp_seq ?_)
 refine Zb hS (qM rfl rfl (qM rfl rfl (qL r2))) hB [17,10,9,8,7,6,4,2,0] [101,0] rfl rfl fun a w F hS=>Za ?_
 refine Zd hS rfl (fun hc0=>?_) (fun hc0=>?_)
 ·skip
  have hlt:i<j:=by simp at hc0;omega
  refine wp_skip (Za (wp_block (wp_seq ?_)))
  refine Zb hS (qM rfl rfl (qM rfl rfl (qf (Zck .t .t) r2 qz (qf (o_conv Tryz.underlying174 (by kernel_rfl) .t) r1 qz (qf (ZfC .t qi (by decide)) r1 qz (qf (o_conv Tryz.underlying3 (by kernel_rfl) .t) r1 qz (qN rfl rfl qZ))))))) hB [11,10,9,8,7,6,4,2,0] [101,0] rfl rfl fun a w F hS=>?_
  obtain ⟨m,hm⟩:∃ m:Nat,m=(i+j) / 2:=⟨_,rfl⟩
  replace hS:=hS.ent (i:=11) (s':=.pv (.int .i64 (m:Int))) rfl (.int (by rw [hm];exact ZiR (by omega)))
  obtain ⟨F,hS⟩:=hS.nm [11,10,9,8,7,6,4,2,0] [101,0] rfl rfl
  refine Za (wp_seq ?_)
  refine Zy hS (qM rfl rfl (qM rfl rfl (qM rfl rfl (qy 3 Tryz.underlying273 r2 (qf (oR true 3 .t) r1 qz (qe 3 101 r1 r1 (qf (ZK (avs:=[.agg (Zaq (Go.Gm.nth l m)),.agg (Zaq e)]) .t (hw (Go.Gm.nth l m) (nth_mem (by omega))) hf hb hnn (Args.two (.pagg .t) (.pagg .t))) r3 qz (qf (ZbC .t qi) r1 qz qZ)))))))) hB [31,11,10,9,8,7,6,4,2,0] [101,0] rfl rfl fun a w F hS=>?_
  try dsimp only [List.map,xD,xE,xT,xU,ldSF,Zaq] at hS
  try simp only [Int.toNat_natCast] at hS
  refine Za ?_
  refine Zd hS rfl (fun hc1=>?_) (fun hc1=>?_)
  ·skip
   have hmk:ZaC (Go.Gm.nth l m)<k:=ZdN.1 (by simpa using hc1)
   obtain ⟨i2,hi2e⟩:∃ z,z=m+1:=⟨_,rfl⟩
   obtain ⟨j2,hj2e⟩:∃ z,z=j:=⟨_,rfl⟩
   have hi2:IntKind.wrap .i64 ((m:Int)+1)=(i2:Int):=by rw [hi2e];exact Ze (by omega)
   have hj2:(j:Int)=(j2:Int):=by rw [hj2e]
   have hmu:j2 - i2<j - i:=by omega
   have hC2:i2≤j2∧j2≤l.length∧(∀ q,q<i2→ZaC (Go.Gm.nth l q)<k) ∧ ∀ q,j2≤q→q<l.length→k≤ZaC (Go.Gm.nth l q):=⟨by omega,by omega,fun q hq=>Int.lt_of_le_of_lt (ZcV hs (by omega) (by omega)) hmk,by rw [hj2e];exact hhi⟩
   refine Zb hS (qM rfl rfl (qp r1 (qN rfl rfl qZ))) hB [10,9,8,7,6,4,2,0] [101,0] rfl rfl fun a w F hS=>Zj (Za ?_)
   replace hS:=hS.ent (i:=9) (s':=.pv (.int .i64 (i2:Int))) rfl (.int hi2)
   replace hS:=hS.ent (i:=10) (s':=.pv (.int .i64 (j2:Int))) rfl (.int hj2)
   obtain ⟨F,hS⟩:=hS.nm [8,7,6,4,2,0,10,9] [101,0] rfl rfl
   exact ⟨((i2),(j2)),F,hC2,hS,hmu⟩
  have hmk:k≤ZaC (Go.Gm.nth l m):=Int.not_lt.1 fun e=>(show ¬ ZcC (ZaC (Go.Gm.nth l m)) k<0 by simpa using hc1) (ZdN.2 e)
  obtain ⟨i2,hi2e⟩:∃ z,z=i:=⟨_,rfl⟩
  obtain ⟨j2,hj2e⟩:∃ z,z=m:=⟨_,rfl⟩
  have hi2:(i:Int)=(i2:Int):=by rw [hi2e]
  have hj2:(m:Int)=(j2:Int):=by rw [hj2e]
  have hmu:j2 - i2<j - i:=by omega
  have hC2:i2≤j2∧j2≤l.length∧(∀ q,q<i2→ZaC (Go.Gm.nth l q)<k) ∧ ∀ q,j2≤q→q<l.length→k≤ZaC (Go.Gm.nth l q):=⟨by omega,by omega,by rw [hi2e];exact hlo,fun q h1 h2=>Int.le_trans hmk (ZcV hs (by omega) h2)⟩
  refine Zb hS (qM rfl rfl (qN rfl rfl qZ)) hB [10,9,8,7,6,4,2,0] [101,0] rfl rfl fun a w F hS=>Zj (Za ?_)
  replace hS:=hS.ent (i:=9) (s':=.pv (.int .i64 (i2:Int))) rfl (.int hi2)
  replace hS:=hS.ent (i:=10) (s':=.pv (.int .i64 (j2:Int))) rfl (.int hj2)
  obtain ⟨F,hS⟩:=hS.nm [8,7,6,4,2,0,10,9] [101,0] rfl rfl
  exact ⟨((i2),(j2)),F,hC2,hS,hmu⟩
 have hjj:i=j:=by simp at hc0;omega
 subst hjj
 have hgl2:=hgl hhi
 have hgs2:=hgs hhi
 have hb2:(decide ((i:Int)<(l.length:Int)) && decide (ZcC (ZaC (Go.Gm.nth l i)) k=0))=isK ZaC k l:=by
   rw [Bool.eq_iff_iff,hgs2]
   simp [ZiF]
 refine wp_exit (Zh (Zh (Zp (Za (wp_seq ?_)))))
 refine Zy hS (qM rfl rfl (qM rfl rfl (qM rfl rfl (qf (ZbC .t .t) r2 qz (qM rfl rfl (qm rfl rfl rfl rfl (qm rfl rfl rfl rfl (qm rfl rfl rfl rfl (qk rfl (fun h=>o_indexAddr_sl (sz:=3) (.mk Tryz.underlying273 (by kernel_rfl)) (by intro x;rfl) (.w h) (.w h) (by omega) (by have:=of_decide_eq_true h;omega)) r3 qz (qk rfl (fun h=>oR true 3 (.w h)) r2 qz (qk rfl (fun h=>oL true 3 101 .is) r2 r1 (qk rfl (fun h=>ZK (avs:=[.agg (Zaq (Go.Gm.nth l i)),.agg (Zaq e)]) (.w h) (hw (Go.Gm.nth l i) (nth_mem (by have:=of_decide_eq_true h;omega))) hf hb hnn (Args.two (.pagg (.w h)) (.pagg (.w h)))) r4 qz (qk rfl (fun h=>o_eql (.w h) qi) r2 qz (qf (ZN .t .t) r2 qz (qN rfl rfl (qN rfl rfl qZ)))))))))))))))) hB [7,6] [0] rfl rfl fun a w F hS=>?_
 try dsimp only [List.map,xD,xE,xT,xU,ldSF,Zaq] at hS
 try simp only [Int.toNat_natCast] at hS
 refine Za (wp_ret ?_)
 refine Zao hfr hS rfl (.tmp rfl (.tmp rfl .nil)) (.two (.int (by rw [hgl2])) (.bool hb2))
theorem Zrb (v:Value) (l:List Zae) (i:Nat) (x:Zae) (hll:l.length≤1000000) (hi:i≤l.length):FnG Tryz.prog 278 1 [.is v,.int .i64 i,.sl Zaq [x]] [Zu 270 3 Zaq l v] (PV.one) (fun v=>[Zu 270 3 Zaq (l.take i ++ [x] ++ l.drop i) v]):=by
 refine FnG.mk Tryz.func278 rfl Tryz.ntmps278 rfl (by kernel_rfl) ?_
 intro B F0 a w F hB hG hS
 replace hS:=hS.turn 1 rfl (r':=.ob (.val v) (Zu 270 3 Zaq l)) (fun _ _ _ _ h=>h)
 refine wp_seq ?_
 refine Zb hS (qC qZ) hB [6,2,1,0] [1,0] rfl rfl fun a w F hS=>Za (wp_seq ?_)
 refine Zb hS (qM rfl rfl (qM rfl rfl (qf (Zhb (sz:=3) 1 (.mk Tryz.underlying273 (by kernel_rfl)) .is .t (by omega) (by omega)) r2 r1 qZ))) hB [6,2,1,0] [1,0] rfl rfl fun a w F hS=>Za (wp_seq ?_)
 refine Zb hS (qM rfl rfl (qu Tryz.underlying273 r1 (qN rfl rfl qZ))) hB [7,6,2,1,0] [1,0] rfl rfl fun a w F hS=>?_
 replace hS:=hS.ent (i:=7) (s':=.pv (.int .i64 1)) rfl (.int rfl)
 obtain ⟨F,hS⟩:=hS.nm [7,6,2,1,0] [1,0] rfl rfl
 refine Za (wp_seq (wp_seq ?_))
 refine Zb hS (qM rfl rfl (qf (o_eql .t qi) r1 qz qZ)) hB [16,7,6,2,1,0] [1,0] rfl rfl fun a w F hS=>Za ?_
 refine Zd hS rfl (fun hc0=>?_) (fun hc0=>?_)
 ·skip
  simp at hc0
 refine wp_skip (Za (wp_seq ?_))
 refine Zb hS (qM rfl rfl (qf (ZQ 1 Tryz.underlying273 .is) r1 r1 (qN rfl rfl qZ))) hB [8,7,6,2,1,0] [1,0] rfl rfl fun a w F hS=>Za (wp_seq (wp_seq ?_))
 refine Zb hS (qM rfl rfl (qM rfl rfl (qf (o_eql .t .t) r2 qz qZ))) hB [22,8,7,6,2,1,0] [1,0] rfl rfl fun a w F hS=>Za ?_
 refine Zd hS rfl (fun hc1=>?_) (fun hc1=>?_)
 ·skip
  have hg:=ZlN (x:=x) (by have h9:=hc1;simp at h9;omega:i=l.length)
  refine wp_seq ?_
  refine Zc hS (qM rfl rfl (qM rfl rfl (qf (ZV (sz:=3) (bs:=24) 1 (.mk' Tryz.underlying273 (by kernel_rfl) (by kernel_rfl)) (by intro x;rfl) .is (.sl .t) (by simp only [List.length_cons,List.length_nil];omega) (by decide)) ⟨rfl,rfl,trivial⟩ ⟨rfl,trivial⟩ (qN rfl rfl qZ)))) hB [8,7,6,2,1,0] [1,0] (fun _=>rfl) (fun _=>rfl) fun τ a w F hS=>?_
  try dsimp only [RS.sub,SF.sub,CF.sub,csub,Anc.sub,List.map,xC,xN,Zaq] at hS
  generalize τ 25=v25 at hS
  refine Za (wp_ret (Zi ?_))
  have hS:=hS.turn 1 rfl (r':=RS.hp (Zu 270 3 Zaq (l.take i ++ [x] ++ l.drop i) v25)) (fun _ _ _ _ h=>by rw [hg];exact h)
  refine Z2 (h':=fun v=>Zu 270 3 Zaq (l.take i ++ [x] ++ l.drop i) v) hG hS rfl (.tmp rfl .nil) (.one .one) rfl
 have hil:i<l.length:=by simp at hc1;omega
 have hw1:IntKind.wrap .i64 ((i:Int)+1)=((i+1:Nat):Int):=Ze (by omega)
 have hwn:IntKind.wrap .i64 ((l.length:Int)+1)=((l.length+1:Nat):Int):=Ze (by omega)
 refine wp_skip (Za (wp_seq (wp_seq ?_)))
 refine Zb hS (qM rfl rfl (qM rfl rfl (qf (Zck .t .t) r2 qz (qM rfl rfl (qf (ZhO 1 Tryz.underlying273 .is) r1 r1 (qf (Zbi .t .t) r2 qz qZ)))))) hB [31,8,7,6,2,1,0] [1,0] rfl rfl fun a w F hS=>Za ?_
 refine Zd hS rfl (fun hc2=>?_) (fun hc2=>?_)
 ·skip
  have hcap:capV v<l.length+1:=by rw [hwn] at hc2;simp at hc2;omega
  have hw:IntKind.wrap .i64 (IntKind.wrap .i64 ((l.length:Int)+1) - (i:Int))=((l.length+1 - i:Nat):Int):=by rw [hwn,ZJ (by omega)];omega
  refine wp_seq ?_
  refine Zc hS (qM rfl rfl (qM rfl rfl (qf (ZdV (sz:=3) 1 (.mk Tryz.underlying273 (by kernel_rfl)) .is .t (by omega) (by omega)) r2 r1 (qM rfl rfl (qM rfl rfl (qf (Zck .t .t) r2 qz (qM rfl rfl (qf (o_sub .t .t) r2 qz (qf (ZcO (R:=Zaq) (z:=(⟨0,0,0⟩:Zae)) (bs:=24) (sz:=3) (zs:=[.int .i64 0,.int .i64 0,.int .i64 0]) 1 101 Tryz.underlying273 Tryz.underlying3 (by kernel_rfl) (by kernel_rfl) (by kernel_rfl) (by intro x;rfl) (fun _ _=>⟨⟨rfl,rfl,Zc4⟩,⟨rfl,rfl,Zc4⟩,⟨rfl,rfl,Zc4⟩,trivial⟩) .t .t (by omega) (by rw [hw];omega) (by rw [hw];omega) (by rw [hw];omega) (by rw [hw];omega)) ⟨rfl,rfl,trivial⟩ ⟨rfl,trivial⟩ (qN rfl rfl qZ)))))))))) hB [9,8,7,6,2,1,0] [101,1,0] (fun _=>rfl) (fun _=>rfl) fun τ a w F hS=>?_
  try dsimp only [RS.sub,SF.sub,CF.sub,csub,Anc.sub,List.map,xC,xN,Zaq] at hS
  generalize τ 40=v40 at hS
  rw [hw] at hS
  simp only [Int.toNat_natCast] at hS
  obtain ⟨l2,hl2⟩:∃ y,y=l.take i++List.replicate (l.length+1 - i) (⟨0,0,0⟩:Zae):=⟨_,rfl⟩
  rw [← hl2] at hS
  have hl2n:l2.length=l.length+1:=by rw [hl2,List.length_append,List.length_take,List.length_replicate];omega
  obtain ⟨F,hS⟩:=hS.give 1 0 rfl rfl
  obtain ⟨F,hS⟩:=hS.nm [9,8,7,6,2,1,0] [101,0] rfl rfl
  refine Za (wp_seq ?_)
  refine Zb hS (qM rfl rfl (qM rfl rfl (qf (Zag (sz:=3) 101 (.mk Tryz.underlying273 (by kernel_rfl)) .is .t (by omega) (by omega)) r2 r1 (qM rfl rfl (qf (o_copy_sub 101 Tryz.underlying273 (by kernel_rfl) (by intro x;rfl) .t .t (by simp) (by simp;omega)) r2 r1 qZ))))) hB [9,8,7,6,2,1,0] [101,0] rfl rfl fun a w F hS=>?_
  simp only [Int.toNat_natCast] at hS
  obtain ⟨l3,hl3⟩:∃ y,y=l2.take i ++ [x] ++ l2.drop (i + [x].length):=⟨_,rfl⟩
  rw [← hl3] at hS
  have hl3n:l3.length=l.length+1:=by rw [hl3,List.length_append,List.length_append,List.length_take,List.length_drop,hl2n];simp;omega
  refine Za (wp_seq ?_)
  refine Zy hS (qM rfl rfl (qM rfl rfl (qM rfl rfl (qf (Zck .t .t) r2 qz (qf (Zag (sz:=3) 101 (.mk Tryz.underlying273 (by kernel_rfl)) .is .t (by rw [hw1];omega) (by rw [hw1];omega)) r2 r1 (qM rfl rfl (qM rfl rfl (qf (o_slice_lo (sz:=3) (.mk Tryz.underlying273 (by kernel_rfl)) (by intro x;rfl) .t .t (by omega) (by omega)) r2 qz (qf (o_copy_sub 101 Tryz.underlying273 (by kernel_rfl) (by intro x;rfl) .t .t (by intro h9;have:=congrArg List.length h9;simp at this;omega) (by rw [hw1,List.length_drop];omega)) r2 r1 qZ))))))))) hB [9,8,7,6,2,1,0] [101,0] rfl rfl fun a w F hS=>?_
  try dsimp only [Zaq] at hS
  rw [hw1] at hS
  simp only [Int.toNat_natCast] at hS
  have hg:=ZjL (x:=x) hil hl2 hl3
  refine Za (wp_seq ?_)
  refine Zb hS (qM rfl rfl (qN rfl rfl qZ)) hB [8,7,6,2,1,0] [101,0] rfl rfl fun a w F hS=>Za (wp_ret (Zi ?_))
  obtain ⟨F,hS⟩:=hS.rename 101 1 rfl rfl
  have hS:=hS.turn 1 rfl (r':=RS.hp (Zu 270 3 Zaq (l.take i ++ [x] ++ l.drop i) v40)) (fun _ _ _ _ h=>by rw [hg];exact h)
  refine Z2 (h':=fun v=>Zu 270 3 Zaq (l.take i ++ [x] ++ l.drop i) v) hG hS rfl (.tmp rfl .nil) (.one .one) rfl
 have hcap:l.length+1≤capV v:=by rw [hwn] at hc2;simp at hc2;omega
 refine wp_skip (Za (wp_seq ?_))
 refine Zc hS (qM rfl rfl (qM rfl rfl (qM rfl rfl (qf (Zck .t .t) r2 qz (qf (Zgj (sz:=3) 1 (.mk Tryz.underlying273 (by kernel_rfl)) .is .t (by rw [hwn];omega) (by omega)) r2 r1 (qN rfl rfl qZ)))))) hB [8,7,6,2,1,0] [1,0] (fun _=>rfl) (fun _=>rfl) fun τ a w F hS=>?_
 try dsimp only [RS.sub,SF.sub,CF.sub,csub,Anc.sub,List.map,Zaq] at hS
 generalize τ 60=v60 at hS
 refine Za (wp_seq (wp_seq ?_))
 refine Zb hS (qM rfl rfl (qM rfl rfl (qM rfl rfl (qM rfl rfl (qf (Zck .t .t) r2 qz (qf (Za7 (sz:=3) 1 (.mk Tryz.underlying273 (by kernel_rfl)) .is .t (by rw [hw1];omega) (by rw [hw1];omega)) r2 r1 (qf (Zge 1 Tryz.func300 (by kernel_rfl) (by kernel_rfl) (by kernel_rfl) rfl Tryz.underlying273 (by kernel_rfl) (by intro x;rfl) .t .t (by rw [hw1];omega)) r2 r1 (qf (o_not .t) r1 qz qZ)))))))) hB [68,8,7,6,2,1,0] [1,0] rfl rfl fun a w F hS=>Za ?_
 refine Zd hS rfl (fun hc3=>?_) (fun hc3=>?_)
 ·skip
  refine wp_seq ?_
  refine Zy hS (qM rfl rfl (qM rfl rfl (qM rfl rfl (qf (Zck .t .t) r2 qz (qf (Za7 (sz:=3) 1 (.mk Tryz.underlying273 (by kernel_rfl)) .is .t (by rw [hw1];omega) (by rw [hw1];omega)) r2 r1 (qM rfl rfl (qM rfl rfl (qf (Za7 (sz:=3) 1 (.mk Tryz.underlying273 (by kernel_rfl)) .is .t (by omega) (by omega)) r2 r1 (qf (Zd9 (k:=i) 1 Tryz.underlying273 (by kernel_rfl) (by intro x;rfl) .t .t (by rw [hw1];rfl) rfl (by omega)) r2 r1 qZ))))))))) hB [8,7,6,2,1,0] [1,0] rfl rfl fun a w F hS=>?_
  try dsimp only [Zaq] at hS
  obtain ⟨l4,hl4⟩:∃ y,y=l.take (i+1)++l.drop i:=⟨_,rfl⟩
  rw [← hl4] at hS
  have hl4n:l4.length=l.length+1:=by rw [hl4,List.length_append,List.length_take,List.length_drop];omega
  refine Za (wp_seq ?_)
  refine Zb hS (qM rfl rfl (qM rfl rfl (qf (Zag (sz:=3) 1 (.mk Tryz.underlying273 (by kernel_rfl)) .is .t (by omega) (by omega)) r2 r1 (qM rfl rfl (qf (o_copy_sub 1 Tryz.underlying273 (by kernel_rfl) (by intro x;rfl) .t .t (by simp) (by simp;omega)) r2 r1 qZ))))) hB [8,7,6,2,1,0] [1,0] rfl rfl fun a w F hS=>?_
  simp only [Int.toNat_natCast] at hS
  have hg:=Zh7 (x:=x) hil hl4
  refine Za (wp_seq ?_)
  refine Zb hS (qM rfl rfl (qN rfl rfl qZ)) hB [8,7,6,2,1,0] [1,0] rfl rfl fun a w F hS=>Za (wp_ret (Zi ?_))
  have hS:=hS.turn 1 rfl (r':=RS.hp (Zu 270 3 Zaq (l.take i ++ [x] ++ l.drop i) v60)) (fun _ _ _ _ h=>by rw [hg];exact h)
  refine Z2 (h':=fun v=>Zu 270 3 Zaq (l.take i ++ [x] ++ l.drop i) v) hG hS rfl (.tmp rfl .nil) (.one .one) rfl
 simp at hc3
theorem ZpZ (l : List OrdD) (p : OrdD → Bool) (f : FuncId) (fn : Func) (cps : List PV) (hf : Tryz.prog.funcs[f]? = some fn) (hb : fn.body.isSome = true) (hnn : (fn.name == "runtime.NumGoroutine") = false) (hw : ∀ x, FnP Tryz.prog f (.agg (ZF x) :: cps) (.bool (p x))) : FnP Tryz.prog 67 [.sl ZF l, .clos f cps] (.int .i64 (Z6 p l)) := by
 refine FnP.mk Tryz.func67 rfl Tryz.ntmps67 rfl ?_
 intro B a w F hB hfr hS
 have hll:=Sat.lenSl hS (i:=0) rfl
 refine wp_seq ?_
 refine Zb hS (qI qZ) hB [4,1,0] [0] rfl rfl fun a w F hS=>Za (wp_seq (wp_seq ?_))
 refine Zb hS (qM rfl rfl (qu Tryz.underlying28 r1 (qJ qZ))) hB [8,7,4,1,0] [0] rfl rfl fun a w F hS=>Za (wp_block ?_)
 refine Zl (σ:=(Nat)) [0,1,4,7] [0] (fun s=>[(8,.pv (.int .i64 (s:Int)))]) (fun s=>[]) (fun s=>s≤l.length∧(∀ k,k<s→p (Go.Gm.nth l k)=false)) (fun s=>l.length - s) (0) hS ⟨rfl,rfl,rfl,rfl,rfl,trivial⟩ ⟨rfl,trivial⟩ ⟨Nat.zero_le _,fun k hk=>absurd hk (Nat.not_lt_zero k)⟩ ?_
 clear hS;intro i a w F hC hS
 try dsimp only at hC
 obtain ⟨F,hS⟩:=hS.nm [8,7,4,1,0] [0] rfl rfl
 try dsimp only at hS
 obtain ⟨hi,hq⟩:=hC
 refine wp_seq ?_
 refine Zb hS (qL r2) hB [9,8,7,4,1,0] [0] rfl rfl fun a w F hS=>Za (wp_seq ?_)
 refine Zd hS rfl (fun hc0=>?_) (fun hc0=>?_)
 ·skip
  have hil:i<l.length:=by simp at hc0;omega
  refine wp_skip (Za (wp_seq (wp_block (wp_seq ?_))))
  refine Zb hS (qM rfl rfl (qN rfl rfl qZ)) hB [8,7,5,4,1,0] [0] rfl rfl fun a w F hS=>Za (wp_seq ?_)
  refine Zb hS (qM rfl rfl (qM rfl rfl (qM rfl rfl (qy 2 Tryz.underlying28 r2 (qf (oR true 2 .t) r1 qz (qf (ZK (avs:=[.agg (ZF (Go.Gm.nth l i))]) .t (hw (Go.Gm.nth l i)) hf hb hnn (Args.one (.pagg .t))) r2 qz qZ)))))) hB [16,8,7,5,4,1,0] [0] rfl rfl fun a w F hS=>?_
  try simp only [Int.toNat_natCast] at hS
  refine Za ?_
  refine Zd hS rfl (fun hc1=>?_) (fun hc1=>?_)
  ·skip
   have hg:(i:Int)=Z6 p l:=(Zcx hil hc1 hq).symm
   refine wp_seq ?_
   refine Zb hS (qM rfl rfl (qN rfl rfl qZ)) hB [8,7,4,1,0] [0] rfl rfl fun a w F hS=>Za (wp_ret (Zs (Zi (Zi (Zs (Zi ?_))))))
   refine Zw hfr hS rfl rfl rfl (.int hg)
  have hne:p (Go.Gm.nth l i)=false:=hc1
  refine wp_skip (Zj (Za ?_))
  refine Zb hS (qp r1 (qM rfl rfl qZ)) hB [8,7,4,1,0] [0] rfl rfl fun a w F hS=>Za ?_
  replace hS:=hS.ent (i:=8) (s':=.pv (.int .i64 ((i+1:Nat):Int))) rfl (.int (Ze (by omega)))
  obtain ⟨F,hS⟩:=hS.nm [7,4,1,0,8] [0] rfl rfl
  exact ⟨(i+1),F,⟨by omega,(fun k hk=>by rcases Nat.lt_or_eq_of_le (Nat.le_of_lt_succ hk) with h | h;exact hq k h;rw [h];exact hne)⟩,hS,by omega⟩
 have hil:i=l.length:=by simp at hc0;omega
 have hg : -1=Z6 p l:=(Zbp fun k hk=>hq k (by simp at hc0;omega)).symm
 refine wp_exit (Zh (Zh (Zp (Za (wp_seq ?_)))))
 refine Zb hS (qI qZ) hB [4] [0] rfl rfl fun a w F hS=>Za (wp_ret ?_)
 refine Zw hfr hS rfl rfl rfl (.int hg)
theorem Zqq (v : Value) (l : List OrdD) (hll : l.length ≤ 1000000) (p : OrdD → Bool) (f : FuncId) (fn : Func) (cps : List PV) (hf : Tryz.prog.funcs[f]? = some fn) (hb : fn.body.isSome = true) (hnn : (fn.name == "runtime.NumGoroutine") = false) (hw : ∀ x, FnP Tryz.prog f (.agg (ZF x) :: cps) (.bool (p x))) : FnG Tryz.prog 136 1 [.is v, .clos f cps] [Zu 36 2 ZF l v] (PV.one) (fun v => [Zu 36 2 ZF (l.filter fun x => !p x) v]) := by
 refine FnG.mk Tryz.func136 rfl Tryz.ntmps136 rfl (by kernel_rfl) ?_
 intro B F0 a w F hB hG hS
 replace hS:=hS.turn 1 rfl (r':=.ob (.val v) (Zu 36 2 ZF l)) (fun _ _ _ _ h=>h)
 refine wp_seq ?_
 refine Zb hS (qC qZ) hB [4,1,0] [1,0] rfl rfl fun a w F hS=>Za (wp_seq ?_)
 refine Zb hS (qM rfl rfl (qM rfl rfl (qf (OpC.lendRow 1 [8] (oP (ZpZ l p f fn cps hf hb hnn hw) Tryz.func67 (Args.two .t .t)) ⟨rfl,trivial,trivial⟩ (.pv (fun _ _ _ _ h=>h)) trivial (by rfl)) r2 r1 (qN rfl rfl qZ)))) hB [5,4,1,0] [1,0] rfl rfl fun a w F hS=>Za (wp_seq (wp_seq ?_))
 refine Zb hS (qM rfl rfl (qf (o_eql .t qi) r1 qz qZ)) hB [12,5,4,1,0] [1,0] rfl rfl fun a w F hS=>Za ?_
 refine Zd hS rfl (fun hc0=>?_) (fun hc0=>?_)
 ·skip
  have hno:=(ZaT p l).resolve_right (by rintro ⟨i,h1,_⟩;simp at hc0;omega)
  have hg:(l.filter fun x=>!p x)=l:=ZdD hno.2
  refine wp_seq ?_
  refine Zb hS (qM rfl rfl (qN rfl rfl qZ)) hB [5,4,1,0] [1,0] rfl rfl fun a w F hS=>Za (wp_ret (Zi ?_))
  have hS:=hS.turn 1 rfl (r':=RS.hp (Zu 36 2 ZF (l.filter fun x=>!p x) v)) (fun _ _ _ _ h=>by rw [hg];exact h)
  refine Z2 (h':=fun v=>Zu 36 2 ZF (l.filter fun x=>!p x) v) hG hS rfl (.tmp rfl .nil) (.one .one) rfl
 obtain ⟨i0,hi0,hi1,hip,hib⟩:=(ZaT p l).resolve_left (by rintro ⟨h1,_⟩;simp [h1] at hc0)
 have hst0:=Zf3 hi1 hip hib
 refine wp_skip (Za (wp_seq (wp_seq ?_)))
 refine Zb hS (qM rfl rfl (qp r1 (qN rfl rfl qZ))) hB [6,5,4,1,0] [1,0] rfl rfl fun a w F hS=>Za (wp_block ?_)
 have hC0:i0<i0+1∧i0+1≤l.length∧l.length=l.length∧l.take i0=(l.take (i0+1)).filter (fun x=>!p x) ∧ ∀ k,i0+1≤k→k<l.length→Go.Gm.nth l k=Go.Gm.nth l k:=⟨by omega,by omega,rfl,hst0,fun k _ _=>rfl⟩
 replace hS:=hS.ent (i:=5) (s':=.pv (.int .i64 (i0:Int))) rfl (.int hi0)
 replace hS:=hS.ent (i:=6) (s':=.pv (.int .i64 ((i0+1:Nat):Int))) rfl (.int (by rw [hi0,ZJ (by omega)];omega))
 refine Zl (σ:=Nat×Nat×List OrdD) [0,1,4] [0] (fun s=>[(5,.pv (.int .i64 (s.1:Int))),(6,.pv (.int .i64 (s.2.1:Int)))]) (fun s=>[(1,.ob (.val v) (Zu 36 2 ZF s.2.2))]) (fun s=>s.1<s.2.1∧s.2.1≤l.length∧s.2.2.length=l.length∧s.2.2.take s.1=(l.take s.2.1).filter (fun x=>!p x) ∧ ∀ k,s.2.1≤k→k<l.length→Go.Gm.nth s.2.2 k=Go.Gm.nth l k) (fun s=>l.length - s.2.1) ((i0),(i0+1),(l)) hS ⟨rfl,rfl,rfl,rfl,rfl,trivial⟩ ⟨rfl,rfl,trivial⟩ hC0 ?_
 clear hS;intro s a w F hC hS
 obtain ⟨i,j,l1⟩:=s
 try dsimp only at hC
 obtain ⟨F,hS⟩:=hS.nm [6,5,4,1,0] [1,0] rfl rfl
 try dsimp only at hS
 obtain ⟨hij,hj,hll1,htk,hrest⟩:=hC
 refine wp_seq (wp_seq ?_)
 refine Zb hS (qM rfl rfl (qM rfl rfl (qf (ZQ 1 Tryz.underlying28 .is) r1 r1 (qL r2)))) hB [19,6,5,4,1,0] [1,0] rfl rfl fun a w F hS=>Za ?_
 refine Zd hS rfl (fun hc1=>?_) (fun hc1=>?_)
 ·skip
  have hjl:j<l.length:=by simp at hc1;omega
  have hnj:Go.Gm.nth l1 j=(Go.Gm.nth l j):=hrest j (Nat.le_refl _) hjl
  have hfs:=ZcU (p:=fun x=>!p x) hjl
  refine wp_skip (Za (wp_seq (wp_block (wp_seq ?_))))
  refine Zc hS (qM rfl rfl (qM rfl rfl (qf (o_indexAddr_row (sz:=2) 1 (.mk Tryz.underlying28 (by kernel_rfl)) .is .t (by omega) (by omega) (by rfl)) r2 r1 (qf (Zz (ag:=true) (sz':=2) (sz:=2) 1 .t (by intro x;rfl) (by omega) (by kernel_rfl) (by kernel_rfl) (by kernel_rfl)) r1 r1 (qf (oH [.int .i64 0,.slice none 0 0] 101) trivial qz (qS 2 101 r2 r1 qZ)))))) hB [7,6,5,4,1,0] [101,1,0] (fun _=>rfl) (fun _=>rfl) fun τ a w F hS=>?_
  try dsimp only [RS.sub,SF.sub,CF.sub,csub,Anc.sub,List.map,Zf,xL,xM,Nat.reduceAdd,xD,xE,xT,xU,xC,xN,zCF,ldSF,ZF] at hS
  generalize τ 7=v7 at hS
  try simp only [Int.toNat_natCast] at hS
  rw [hnj] at hS
  refine Za (wp_seq ?_)
  refine Zb hS (qM rfl rfl (qe 2 101 r1 r1 (qf (ZK (avs:=[.agg (ZF (Go.Gm.nth l j))]) .t (hw (Go.Gm.nth l j)) hf hb hnn (Args.one (.pagg .t))) r2 qz (qf (o_not .t) r1 qz qZ)))) hB [29,7,6,5,4,1,0] [101,1,0] rfl rfl fun a w F hS=>Za ?_
  refine Zd hS rfl (fun hc2=>?_) (fun hc2=>?_)
  ·skip
   have hp:p (Go.Gm.nth l j)=false:=by simpa using hc2
   obtain ⟨i2,hi2e⟩:∃ i2,i2=i+1:=⟨_,rfl⟩
   have hi2:IntKind.wrap .i64 ((i:Int)+1)=(i2:Int):=by rw [hi2e];exact Ze (by omega)
   obtain ⟨l2,hl2⟩:∃ l2,l2=l1.set i (Go.Gm.nth l j):=⟨_,rfl⟩
   have hC2:i2<j+1∧j+1≤l.length∧l2.length=l.length∧l2.take i2=(l.take (j+1)).filter (fun x=>!p x) ∧ ∀ k,j+1≤k→k<l.length→Go.Gm.nth l2 k=Go.Gm.nth l k:=⟨by omega,by omega,by rw [hl2,List.length_set];exact hll1,by rw [hl2,hi2e,hfs,hp,← htk,Zv (by rw [List.length_set];omega),List.take_set_of_le (Nat.le_refl _),nth_eq (by rw [List.length_set];omega),List.getElem_set_self];rfl,fun k hk hk2=>by rw [hl2,nth_eq (by rw [List.length_set];omega),List.getElem_set_ne (by omega),← nth_eq (by omega)];exact hrest k (by omega) hk2⟩
   refine wp_seq ?_
   refine Zb hS (qM rfl rfl (qM rfl rfl (qe 2 101 r1 r1 (qf (o_indexAddr_row (sz:=2) 1 (.mk Tryz.underlying28 (by kernel_rfl)) .is .t (by omega) (by omega) (by rfl)) r2 r1 (qf (ZcX (sz:=2) 1 .t (by intro x;rfl) (by omega) (.conv .t (Ent.aggU (l:=ZF (Go.Gm.nth l j)) rfl rfl)) (by kernel_rfl)) r2 r1 qZ))))) hB [6,5,4,1,0] [1,0] rfl rfl fun a w F hS=>?_
   try simp only [Int.toNat_natCast] at hS
   rw [← hl2] at hS
   refine Za ?_
   refine Zb hS (qM rfl rfl (qp r1 (qN rfl rfl qZ))) hB [6,5,4,1,0] [1,0] rfl rfl fun a w F hS=>Zj (Za ?_)
   refine Zb hS (qM rfl rfl (qp r1 (qN rfl rfl qZ))) hB [6,5,4,1,0] [1,0] rfl rfl fun a w F hS=>Za ?_
   have hmu:l.length - (j+1)<l.length - j:=by omega
   replace hS:=hS.ent (i:=5) (s':=.pv (.int .i64 (i2:Int))) rfl (.int hi2)
   replace hS:=hS.ent (i:=6) (s':=.pv (.int .i64 ((j+1:Nat):Int))) rfl (.int (Ze (by omega)))
   obtain ⟨F,hS⟩:=hS.nm [4,1,0,6,5] [0,1] rfl rfl
   exact ⟨((i2),(j+1),(l2)),F,hC2,hS,hmu⟩
  have hp:p (Go.Gm.nth l j)=true:=by simpa using hc2
  obtain ⟨i2,hi2e⟩:∃ i2,i2=i:=⟨_,rfl⟩
  have hi2:(i:Int)=(i2:Int):=by rw [hi2e]
  obtain ⟨l2,hl2⟩:∃ l2,l2=l1:=⟨_,rfl⟩
  rw [← hl2] at hS
  have hC2:i2<j+1∧j+1≤l.length∧l2.length=l.length∧l2.take i2=(l.take (j+1)).filter (fun x=>!p x) ∧ ∀ k,j+1≤k→k<l.length→Go.Gm.nth l2 k=Go.Gm.nth l k:=⟨by omega,by omega,by rw [hl2];exact hll1,by rw [hl2,hi2e,hfs,hp,htk];simp,fun k hk hk2=>by rw [hl2];exact hrest k (by omega) hk2⟩
  refine wp_skip (Zj (Za ?_))
  refine Zb hS (qM rfl rfl (qp r1 (qN rfl rfl qZ))) hB [6,5,4,1,0] [1,0] rfl rfl fun a w F hS=>Za ?_
  have hmu:l.length - (j+1)<l.length - j:=by omega
  replace hS:=hS.ent (i:=5) (s':=.pv (.int .i64 (i2:Int))) rfl (.int hi2)
  replace hS:=hS.ent (i:=6) (s':=.pv (.int .i64 ((j+1:Nat):Int))) rfl (.int (Ze (by omega)))
  obtain ⟨F,hS⟩:=hS.nm [4,1,0,6,5] [0,1] rfl rfl
  exact ⟨((i2),(j+1),(l2)),F,hC2,hS,hmu⟩
 have hjl:j=l.length:=by simp at hc1;omega
 have hil2:i<l.length:=by omega
 have hg:(l.filter fun x=>!p x)=(l1.take i++List.replicate (l1.length - i) (⟨0,[]⟩:OrdD)).take i:=by rw [List.take_append_of_le_length (by rw [List.length_take];omega),List.take_take,Nat.min_self,htk,hjl,List.take_length]
 refine wp_exit (Zh (Zh (Zp (Za (wp_seq ?_)))))
 refine Zb hS (qM rfl rfl (qM rfl rfl (qf (Zag (sz:=2) 1 (.mk Tryz.underlying28 (by kernel_rfl)) .is .t (by omega) (by omega)) r2 r1 (qf (ZbN (R:=ZF) (z:=(⟨0,[]⟩:OrdD)) (zs:=[.int .i64 0,.slice none 0 0]) 1 Tryz.underlying28 (by kernel_rfl) rfl rfl (fun _ _=>⟨⟨rfl,rfl,Zc4⟩,⟨rfl,Zh8⟩,trivial⟩) (by intro x;rfl) .t (by simp;omega)) r1 r1 qZ)))) hB [5,4,0] [1,0] rfl rfl fun a w F hS=>Za (wp_seq ?_)
 refine Zc hS (qM rfl rfl (qM rfl rfl (qf (ZbK (sz:=2) 1 (.mk Tryz.underlying28 (by kernel_rfl)) (by intro x;rfl) .is .t (by omega) (by simp;omega)) r2 r1 (qN rfl rfl qZ)))) hB [4] [1,0] (fun _=>rfl) (fun _=>rfl) fun τ a w F hS=>?_
 try dsimp only [RS.sub,SF.sub,CF.sub,csub,Anc.sub,List.map,ZF] at hS
 generalize τ 41=v41 at hS
 refine Za (wp_ret ?_)
 have hS:=hS.turn 1 rfl (r':=RS.hp (Zu 36 2 ZF (l.filter fun x=>!p x) v41)) (fun _ _ _ _ h=>by rw [hg];exact h)
 refine Z2 (h':=fun v=>Zu 36 2 ZF (l.filter fun x=>!p x) v) hG hS rfl (.tmp rfl .nil) (.one .one) rfl
theorem ZlQ (l:List Int) (hl:l.length≤1000000):FnP Tryz.prog 64 [.sl Zo l] (.sl Zo l):=by
 refine FnP.mk Tryz.func64 rfl Tryz.ntmps64 rfl ?_
 intro B a w F hB hfr hS
 refine wp_seq ?_
 refine Zb hS (qC qZ) hB [2,0] [0] rfl rfl fun a w F hS=>Za (wp_seq (wp_seq ?_))
 refine Zb hS (qM rfl rfl (qf (ZbS Tryz.underlying34 .t) r1 qz qZ)) hB [4,2,0] [0] rfl rfl fun a w F hS=>?_
 obtain ⟨β4,hβ4,hS⟩:=hS.pickBool 4 rfl
 obtain ⟨F,hS⟩:=hS.nm [4,2,0] [0] rfl rfl
 refine Za ?_
 refine Zd hS rfl (fun hc0=>?_) (fun hc0=>?_)
 ·skip
  have hg:l = []:=hβ4 hc0
  refine wp_seq ?_
  refine Zb hS (qC qZ) hB [2,0] [0] rfl rfl fun a w F hS=>Za (wp_ret (Zi ?_))
  refine Zw hfr hS rfl rfl rfl (.trans .nilSl (.sl (by rw [hg])))
 have hg:l = [] ++ l:=rfl
 refine wp_skip (Za (wp_seq ?_))
 refine Zc hS (qf (Za3 (R:=Zo) (sz:=1) 101 Tryz.underlying34 (by kernel_rfl)) trivial qz (qM rfl rfl (qf (ZV (sz:=1) (bs:=8) 101 (.mk' Tryz.underlying34 (by kernel_rfl) (by kernel_rfl)) (by intro x;rfl) .same (.sl .t) (by simp only [List.length_append,List.length_nil];omega) (by decide)) ⟨rfl,rfl,trivial⟩ ⟨rfl,trivial⟩ (qN rfl rfl qZ)))) hB [2] [101,0] (fun _=>rfl) (fun _=>rfl) fun τ a w F hS=>?_
 try dsimp only [RS.sub,SF.sub,CF.sub,csub,Anc.sub,List.map,Zf,xL,xM,Nat.reduceAdd,xD,xE,xT,xU,xC,xN,zCF,Zo] at hS
 generalize τ 7=v7 at hS
 refine Za (wp_ret ?_)
 obtain ⟨F,hS⟩:=hS.give 101 2 rfl rfl
 refine Zw hfr hS rfl rfl rfl (.sl (by rw [hg]))
theorem Zlf (g:Zn) (hs:Za0 g):FnG Tryz.prog 71 1 [.agg (Zr g)] [.star []] (PV.self Zrj) (fun v=>[Zqs (Zu 33 3 rTx g.txs) (Zu 36 2 ZF g.orders) v]):=by
 refine FnG.mk Tryz.func71 rfl Tryz.ntmps71 rfl (by kernel_rfl) ?_
 intro B F0 a w F hB hG hS
 have hsl:=hs.1.1
 have hso:=hs.2.1
 obtain ⟨F,hS⟩:=hS.nm [0] [0] rfl rfl
 refine wp_seq ?_
 refine Zc hS (qx 101 r1 (qf (oH [.slice none 0 0,.slice none 0 0] 102) trivial qz qZ)) hB [2,1] [102,101,0] (fun _=>rfl) (fun _=>rfl) fun τ a w F hS=>?_
 try dsimp only [RS.sub,SF.sub,CF.sub,csub,Anc.sub,List.map,zCF,Zr,rTx,ZF,ZS,Zo,rOp] at hS
 generalize τ 1=v1 at hS
 generalize τ 2=v2 at hS
 refine Za (wp_seq ?_)
 refine Zc hS (qf (oH [.slice none 0 0,.slice none 0 0] 103) trivial qz qZ) hB [3,2,1] [103,102,101,0] (fun _=>rfl) (fun _=>rfl) fun τ a w F hS=>?_
 try dsimp only [RS.sub,SF.sub,CF.sub,csub,Anc.sub,List.map,zCF,Zr,rTx,ZF,ZS,Zo,rOp] at hS
 generalize τ 3=v3 at hS
 refine Za (wp_seq (wp_seq ?_))
 refine Zb hS (qg 0 101 r1 r1 (qa 101 r1 r1 (qu Tryz.underlying27 r1 (qJ qZ)))) hB [11,10,9,3,2,1] [103,102,101,0] rfl rfl fun a w F hS=>Za (wp_block ?_)
 replace hS:=hS.fresh 50 rfl
 replace hS:=hS.turn 50 rfl (Zbj (T:=33) (sz:=3) (R:=rTx))
 refine Zl (σ:=(Nat)×(Value)×(List TxD)) [1,2,3,9,10] [0,101,102] (fun s=>[(11,.pv (.int .i64 (s.1:Int)))]) (fun s=>[(103,.pt (.val v3) 30 [.pv (.is s.2.1),.pv (.is (.slice none 0 0))]),(50,.ob (.val s.2.1) (Zu 33 3 rTx s.2.2))]) (fun s=>s.1≤g.txs.length∧(s.2.2=g.txs.take s.1)) (fun s=>g.txs.length - s.1) ((0),(.slice none 0 0),([])) hS ⟨rfl,rfl,rfl,rfl,rfl,rfl,trivial⟩ ⟨rfl,rfl,rfl,rfl,rfl,trivial⟩ ⟨Nat.zero_le _,rfl⟩ ?_
 clear hS;intro s a w F hC hS
 obtain ⟨i,va,oa⟩:=s
 try dsimp only at hC
 obtain ⟨F,hS⟩:=hS.nm [11,10,9,3,2,1] [103,102,101,50,0] rfl rfl
 try dsimp only at hS
 obtain ⟨hi,hq⟩:=hC
 have hol:oa.length≤i:=by rw [hq,List.length_take];omega
 refine wp_seq ?_
 refine Zb hS (qL r2) hB [12,11,10,9,3,2,1] [103,102,101,50,0] rfl rfl fun a w F hS=>Za (wp_seq ?_)
 refine Zd hS rfl (fun hc0=>?_) (fun hc0=>?_)
 ·skip
  have hil:i<g.txs.length:=by simp at hc0;omega
  have hio:=hil
  refine wp_skip (Za (wp_seq (wp_block (wp_seq ?_))))
  refine Zc hS (qy 3 Tryz.underlying27 r2 (qf (oR true 3 .t) r1 qz (qf (oH [.int .i64 0,.bool false,.slice none 0 0] 104) trivial qz (qS 3 104 r2 r1 qZ)))) hB [11,10,9,5,3,2,1] [104,103,102,101,50,0] (fun _=>rfl) (fun _=>rfl) fun τ a w F hS=>?_
  try dsimp only [RS.sub,SF.sub,CF.sub,csub,Anc.sub,List.map,Zf,xL,xM,Nat.reduceAdd,xD,xE,xT,xU,xC,xN,zCF,ldSF,Zr,rTx,ZF,ZS,Zo,rOp] at hS
  generalize τ 5=v5 at hS
  try simp only [Int.toNat_natCast] at hS
  refine Za ?_
  refine ZaP hS (qg 0 103 r1 r1 (qa 103 r1 r1 (qe 3 104 r1 r1 (qf (oP (Zgy (Go.Gm.nth g.txs i) (by have:=hs.1.at hio;omega)) Tryz.func81 (Args.one (.pagg .t))) r1 qz (qf (Zt (sz:=3) (zs:=[.int .i64 0,.bool false,.slice none 0 0]) (r:=[(0,.tmp 18)]) (l:=[_,_,_]) Tryz.underlying27 (by kernel_rfl) (by kernel_rfl) (by kernel_rfl) (by kernel_rfl) rfl rfl (.agg rfl (.conv .t .agg) (by kernel_rfl) (by kernel_rfl) .nil) rfl) r1 qz (qf (ZV (sz:=3) (bs:=40) 50 (.mk' Tryz.underlying27 (by kernel_rfl) (by kernel_rfl)) (by intro x;rfl) .is (.arr (l':=[(Go.Gm.nth g.txs i)]) .t) (by simp only [List.length_append,List.length_cons,List.length_nil];omega) (by decide)) ⟨rfl,rfl,trivial⟩ ⟨rfl,trivial⟩ (qg 0 103 r1 r1 (qf (o_storeS 103 .adr (by kernel_rfl) (by kernel_rfl)) r2 r1 qZ)))))))) hB [11,10,9,3,2,1] [104,103,102,101,50,0] (fun _=>rfl) (fun _=>rfl) fun τ a w F hS=>?_
  try dsimp only [RS.sub,SF.sub,CF.sub,csub,Anc.sub,List.map,Zf,xL,xM,Nat.reduceAdd,xD,xE,xT,xU,xC,xN,zCF,ldSF,Zr,rTx,ZF,ZS,Zo,rOp] at hS
  generalize τ 20=v20 at hS
  refine Zj (Za ?_)
  refine Zb hS (qp r1 (qM rfl rfl qZ)) hB [11,10,9,3,2,1] [104,103,102,101,50,0] rfl rfl fun a w F hS=>Za ?_
  replace hS:=hS.ent (i:=11) (s':=.pv (.int .i64 ((i+1:Nat):Int))) rfl (.int (Ze (by omega)))
  obtain ⟨F,hS⟩:=hS.nm [10,9,3,2,1,11] [102,101,0,50,103] rfl rfl
  exact ⟨((i+1),_,_),F,⟨by omega,(by rw [Zv hil,← hq])⟩,hS,by omega⟩
 have hil:i=g.txs.length:=by simp at hc0;omega
 have hqa:oa=g.txs:=by rw [hq,hil,List.take_length]
 subst hqa
 refine wp_exit (Zh (Zh (Zp (Za (wp_seq (wp_seq ?_))))))
 refine Zb hS (qg 1 101 r1 r1 (qa 101 r1 r1 (qu Tryz.underlying28 r1 (qJ qZ)))) hB [26,25,24,3,2] [103,102,101,50,0] rfl rfl fun a w F hS=>Za (wp_block ?_)
 replace hS:=hS.fresh 51 rfl
 replace hS:=hS.turn 51 rfl (Zbj (T:=36) (sz:=2) (R:=ZF))
 refine Zl (σ:=(Nat)×(Value)×(List OrdD)) [2,3,24,25] [0,50,101,102] (fun s=>[(26,.pv (.int .i64 (s.1:Int)))]) (fun s=>[(103,.pt (.val v3) 30 [.pv (.is va),.pv (.is s.2.1)]),(51,.ob (.val s.2.1) (Zu 36 2 ZF s.2.2))]) (fun s=>s.1≤g.orders.length∧(s.2.2=g.orders.take s.1)) (fun s=>g.orders.length - s.1) ((0),(.slice none 0 0),([])) hS ⟨rfl,rfl,rfl,rfl,rfl,trivial⟩ ⟨rfl,rfl,rfl,rfl,rfl,rfl,trivial⟩ ⟨Nat.zero_le _,rfl⟩ ?_
 clear hS;intro s a w F hC hS
 obtain ⟨i,vb,ob⟩:=s
 try dsimp only at hC
 obtain ⟨F,hS⟩:=hS.nm [26,25,24,3,2] [103,102,101,51,50,0] rfl rfl
 try dsimp only at hS
 obtain ⟨hi,hq⟩:=hC
 have hol:ob.length≤i:=by rw [hq,List.length_take];omega
 refine wp_seq ?_
 refine Zb hS (qL r2) hB [27,26,25,24,3,2] [103,102,101,51,50,0] rfl rfl fun a w F hS=>Za (wp_seq ?_)
 refine Zd hS rfl (fun hc1=>?_) (fun hc1=>?_)
 ·skip
  have hil:i<g.orders.length:=by simp at hc1;omega
  have hio:=hil
  refine wp_skip (Za (wp_seq (wp_block (wp_seq ?_))))
  refine Zc hS (qy 2 Tryz.underlying28 r2 (qf (oR true 2 .t) r1 qz (qf (oH [.int .i64 0,.slice none 0 0] 105) trivial qz (qS 2 105 r2 r1 qZ)))) hB [26,25,24,7,3,2] [105,103,102,101,51,50,0] (fun _=>rfl) (fun _=>rfl) fun τ a w F hS=>?_
  try dsimp only [RS.sub,SF.sub,CF.sub,csub,Anc.sub,List.map,Zf,xL,xM,Nat.reduceAdd,xD,xE,xT,xU,xC,xN,zCF,ldSF,Zr,rTx,ZF,ZS,Zo,rOp] at hS
  generalize τ 7=v7 at hS
  try simp only [Int.toNat_natCast] at hS
  refine Za ?_
  refine ZaP hS (qg 1 103 r1 r1 (qa 103 r1 r1 (qg 0 105 r1 r1 (qa 105 r1 r1 (qg 1 105 r1 r1 (qa 105 r1 r1 (qf (oP (ZlQ (Go.Gm.nth g.orders i).txs (by have:=hs.2.at hio;omega)) Tryz.func64 (Args.one .t)) r1 qz (qf (oB [(0,.tmp 33),(1,.tmp 36)] [.int .i64 0,.slice none 0 0] [(0,1),(1,1)] (.one rfl .t one_int (by kernel_rfl) (.one rfl .t one_sl (by kernel_rfl) .nil))) r2 qz (qf (Zt (sz:=2) (zs:=[.int .i64 0,.slice none 0 0]) (r:=[(0,.tmp 37)]) (l:=[_,_]) Tryz.underlying28 (by kernel_rfl) (by kernel_rfl) (by kernel_rfl) (by kernel_rfl) rfl rfl (.agg rfl .t (by kernel_rfl) (by kernel_rfl) .nil) rfl) r1 qz (qf (ZV (sz:=2) (bs:=32) 51 (.mk' Tryz.underlying28 (by kernel_rfl) (by kernel_rfl)) (by intro x;rfl) .is (.arr (l':=[(Go.Gm.nth g.orders i)]) .t) (by simp only [List.length_append,List.length_cons,List.length_nil];omega) (by decide)) ⟨rfl,rfl,trivial⟩ ⟨rfl,trivial⟩ (qg 1 103 r1 r1 (qf (o_storeS 103 .adr (by kernel_rfl) (by kernel_rfl)) r2 r1 qZ)))))))))))) hB [26,25,24,3,2] [105,103,102,101,51,50,0] (fun _=>rfl) (fun _=>rfl) fun τ a w F hS=>?_
  try dsimp only [RS.sub,SF.sub,CF.sub,csub,Anc.sub,List.map,Zf,xL,xM,Nat.reduceAdd,xD,xE,xT,xU,xC,xN,zCF,ldSF,Zr,rTx,ZF,ZS,Zo,rOp] at hS
  generalize τ 39=v39 at hS
  refine Zj (Za ?_)
  refine Zb hS (qp r1 (qM rfl rfl qZ)) hB [26,25,24,3,2] [105,103,102,101,51,50,0] rfl rfl fun a w F hS=>Za ?_
  replace hS:=hS.ent (i:=26) (s':=.pv (.int .i64 ((i+1:Nat):Int))) rfl (.int (Ze (by omega)))
  obtain ⟨F,hS⟩:=hS.nm [25,24,3,2,26] [102,101,50,0,51,103] rfl rfl
  exact ⟨((i+1),_,_),F,⟨by omega,(by rw [Zv hil,← hq])⟩,hS,by omega⟩
 have hil:i=g.orders.length:=by simp at hc1;omega
 have hqb:ob=g.orders:=by rw [hq,hil,List.take_length]
 subst hqb
 refine wp_exit (Zh (Zh (Zp (Za (wp_seq ?_)))))
 refine Zb hS (qe 2 103 r1 r1 (qs 2 102 r2 r1 qZ)) hB [2] [103,102,101,51,50,0] rfl rfl fun a w F hS=>Za (wp_ret ?_)
 have hS:=hS.fresh 1 rfl
 obtain ⟨F,hS⟩:=hS.push 1 51 rfl rfl rfl rfl
 obtain ⟨F,hS⟩:=hS.push 1 50 rfl rfl rfl rfl
 refine Zrm hG hS rfl (.cl 102 true 2 rfl rfl .nil) (.one (.aggU rfl rfl)) rfl
end Go.Proofs.YtdpkkdigojkpaaaGreat
