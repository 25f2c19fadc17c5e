/- Walks: loops,strings,arrays,builders,handing over,arguments. No condition. -/
import Derived.Test.YtfecljadegkmdaaGreatLibM
import Derived.Laws.Strings3
import Derived.Laws.Concat
import Derived.Laws.IdiomStrings
import Derived.Lib.Builder
import Derived.Lib.AppendStr
import Derived.Lib.UnsafeStr
import Derived.Laws.Externs
import Derived.ProofKit
import Derived.OpenShut
import Derived.WideKeyArgs
import Derived.Carry
import Derived.Deep.Slices
import Derived.Laws.MakeOwn
import Derived.Lib.SliceRun
namespace Go.Gm
set_option linter.unusedVariables false
set_option linter.unusedSimpArgs false
inductive ZjZ:List Bool→List CF→List CF→Bool→Prop
 | nil:ZjZ [] [] [] true
 | int {k:IntKind} {a b:Int} {ks:List Bool} {cs ds:List CF} {r:Bool} (h:ZjZ ks cs ds r):ZjZ (true :: ks) (.pv (.int k a) :: cs) (.pv (.int k b) :: ds) (decide (a=b) && r)
 | bool {a b:Bool} {ks:List Bool} {cs ds:List CF} {r:Bool} (h:ZjZ ks cs ds r):ZjZ (false :: ks) (.pv (.bool a) :: cs) (.pv (.bool b) :: ds) ((a == b) && r)
def flatFs (P:Program):List Field→Nat→List Bool→Bool
  | [],_,[]=>true
  | f :: fs, k, b :: ks => (f.name != "_") && Nat.beq f.offset k && (match P.underlying f.type with | some (.int _) => b | some .bool => !b | _ => false) && flatFs P fs (k + 1) ks
  | _,_,_=>false
def _root_.Go.Program.flatS (P:Program) (t:TypeId) (ks:List Bool):Bool:=match P.underlying t with
 | some (.struct fs)=>flatFs P fs.toList 0 ks && !P.stoodInHeld t && !P.eqGuardType P.depth t
 | _=>false
theorem ZdB {P:Program} {w:World} {f:Field} {k:Nat} (hk:f.offset=k) (h3:P.aggB f.type=some false) {zs:Array Value} {v:Value} {vs:List Value} (hz:zs.toList.drop k=v :: vs):(part f.type zs f.offset).run P w = .ok v w:=by
 have hg:zs[k]? = some v:=by
  have:=Yap List.head? hz
  simpa [List.head?_drop] using this
 simp [part,ZaW h3,hk,hg]
theorem Zb5 {zs:Array Value} {k:Nat} {v:Value} {vs:List Value} (hz:zs.toList.drop k=v :: vs):zs.toList.drop (k+1)=vs:=by
 have:=Yap List.tail hz
 simpa [List.tail_drop] using this
theorem Zb9 {P:Program} {d:Nat} {w:World} {y:Ys} {τ:Tau} {xs ys:Array Value} : ∀ {fs:List Field} {k:Nat} {ks:List Bool} {cs ds:List CF} {r:Bool},flatFs P fs k ks=true→CFs τ w y cs (xs.toList.drop k)→CFs τ w y ds (ys.toList.drop k)→ZjZ ks cs ds r →
    (Op.eqFields (d+1) xs ys fs).run P w = .ok r w
  | [],k,[],cs,ds,r,_,_,_,he=>by
    cases he
    simp [Op.eqFields]
  | [],k,_ :: _,cs,ds,r,h,_,_,_=>by simp [flatFs] at h
  | _ :: _,k,[],cs,ds,r,h,_,_,_=>by simp [flatFs] at h
  | f :: fs,k,b :: ks,cs,ds,r,hf,hx,hy,he=>by
    simp only [flatFs,Yr] at hf
    obtain ⟨⟨⟨h1,h2⟩,h3⟩,h4⟩:=hf
    have hk:f.offset=k:=Y8 h2
    have hn : f.name ≠ "_" := by simpa using h1
    have hag:P.aggB f.type=some false:=by
      unfold Program.aggB
      cases hu:P.underlying f.type with
      | none=>rw [hu] at h3;cases h3
      | some u=>rw [hu] at h3;cases u <;> first | rfl | cases h3
    cases he with
    | @int kk a b ks cs ds r he=>
      cases ex:xs.toList.drop k with
      | nil=>rw [ex] at hx;exact hx.elim
      | cons u us=>
        cases ey:ys.toList.drop k with
        | nil=>rw [ey] at hy;exact hy.elim
        | cons v vs=>
          rw [ex] at hx
          rw [ey] at hy
          have e1:u = .int kk a:=hx.1.2.1
          have e2:v = .int kk b:=hy.1.2.1
          have ih:=Zb9 (d:=d) (fs:=fs) (k:=k+1) h4 (by rw [Zb5 ex];exact hx.2) (by rw [Zb5 ey];exact hy.2) he
          have heq:(Op.equalIn (d+1) f.type u v).run P w = .ok (decide (a=b)) w:=by
            subst e1;subst e2
            cases hu:P.underlying f.type with
            | none=>rw [hu] at h3;cases h3
            | some t=>
              rw [hu] at h3
              cases t <;> first | cases h3 | skip
              rw [run_equalIn_int w d f.type kk _ a b hu,Zh2]
          simp only [Op.eqFields]
          rw [Ye hn]
          simp only [YD,ZdB hk hag ex,ZdB hk hag ey,Yq,heq]
          by_cases hab:a=b
          · simp [hab,ih]
          · simp [hab]
    | @bool a b ks cs ds r he=>
      cases ex:xs.toList.drop k with
      | nil=>rw [ex] at hx;exact hx.elim
      | cons u us=>
        cases ey:ys.toList.drop k with
        | nil=>rw [ey] at hy;exact hy.elim
        | cons v vs=>
          rw [ex] at hx
          rw [ey] at hy
          have e1:u = .bool a:=hx.1.2
          have e2:v = .bool b:=hy.1.2
          have ih:=Zb9 (d:=d) (fs:=fs) (k:=k+1) h4 (by rw [Zb5 ex];exact hx.2) (by rw [Zb5 ey];exact hy.2) he
          have heq:(Op.equalIn (d+1) f.type u v).run P w = .ok (a == b) w:=by
            subst e1;subst e2
            cases hu:P.underlying f.type with
            | none=>rw [hu] at h3;cases h3
            | some t=>
              rw [hu] at h3
              cases t <;> first | cases h3 | skip
              rw [run_equalIn_bool' w d f.type a b hu]
          simp only [Op.eqFields]
          rw [Ye hn]
          simp only [YD,ZdB hk hag ex,ZdB hk hag ey,Yq,heq]
          cases hab:(a == b)
          · simp
          · simp [ih]
section
variable {P:Program} {d:Option Nat} {ty:TypeId} {pos:String} {af:Array Edge} {g:Option (Nat×Bool)}
variable {x y:Operand} {ps qs:List (Nat×SF)} {t t':TypeId} {cs ds:List CF} {r:Bool} {ks:List Bool}
theorem ZbE (h:P.flatS t ks=true):P.underlying t=some (.struct (P.fieldsOf t))∧flatFs P (P.fieldsOf t).toList 0 ks=true∧P.stoodInHeld t=false∧P.eqGuardType P.depth t=false:=by
 unfold Program.flatS at h
 split at h
 ·rename_i fs hu
  simp only [Yr,Yah] at h
  have e:P.fieldsOf t=fs:=by simp [Program.fieldsOf,hu]
  rw [e]
  exact ⟨hu,h.1.1,h.1.2,h.2⟩
 ·cases h
theorem Zgp {a:Act} {w:World} {yy:Ys} (hf:P.flatS t ks=true) {us vs:List Value} (h1:CFs (Act.tau a) w yy cs us) (h2:CFs (Act.tau a) w yy ds vs) (he:ZjZ ks cs ds r) :
  (Op.equalIn 10000 t (.agg us.toArray) (.agg vs.toArray)).run P w = .ok r w:=by
 obtain ⟨f1,f2,f3,f4⟩:=ZbE hf
 rw [show (10000:Nat)=9999+1 from rfl,run_equalIn_struct w 9999 t us.toArray vs.toArray f1 f3]
 exact Zb9 (d:=9998) f2 XN XO he
theorem Zpi (hf:P.flatS t ks=true) (hx:Opd x ps (.agg cs)) (hy:Opd y qs (.agg ds)) (he:ZjZ ks cs ds r):OpC P ⟨d,.binOp .eql t x y t',ty,pos,af,g⟩ ⟨ps++qs,[],.pv (.bool r),[]⟩:=
 OpC.pure fun a w yy hp=>by
  obtain ⟨us,e1,h1⟩:=hx a w yy hp.left
  obtain ⟨vs,e2,h2⟩:=hy a w yy hp.right
  have hg:=run_eqGuard_agg (P:=P) w .eql t x y us.toArray vs.toArray (ZbE hf).2.2.2
  have hr:=Zgp (P:=P) hf h1 h2 he
  exact ⟨.bool r,by simp only [execOp,e1,e2,YD,hg,Yq,run_eql_struct,hr,YN],fun _ _=>rfl⟩
theorem Znu (hf:P.flatS t ks=true) (hx:Opd x ps (.agg cs)) (hy:Opd y qs (.agg ds)) (he:ZjZ ks cs ds r):OpC P ⟨d,.binOp .neq t x y t',ty,pos,af,g⟩ ⟨ps++qs,[],.pv (.bool (!r)),[]⟩:=
 OpC.pure fun a w yy hp=>by
  obtain ⟨us,e1,h1⟩:=hx a w yy hp.left
  obtain ⟨vs,e2,h2⟩:=hy a w yy hp.right
  have hg:=run_eqGuard_agg (P:=P) w .neq t x y us.toArray vs.toArray (ZbE hf).2.2.2
  have hr:=Zgp (P:=P) hf h1 h2 he
  exact ⟨.bool (!r),by simp only [execOp,e1,e2,YD,hg,Yq,run_neq_struct,hr,YN],fun _ _=>rfl⟩
theorem Zpb {a b:Bool} (hu:P.underlying t=some .bool) (hx:Opd x ps (.pv (.bool a))) (hy:Opd y qs (.pv (.bool b))):OpC P ⟨d,.binOp .eql t x y t',ty,pos,af,g⟩ ⟨ps++qs,[],.pv (.bool (a == b)),[]⟩:=
 OpC.pure fun act w yy hp=>by
  have e1:act.eval x = .bool a:=hx act w yy hp.left
  have e2:act.eval y = .bool b:=hy act w yy hp.right
  have hg:(eqGuard .eql t x y (.bool a) (.bool b)).run P w = .ok () w:=rfl
  have hb:(binOp .eql t (.bool a) (.bool b)).run P w = .ok (.bool (a == b)) w:=by
   simp only [binOp,Op.equal,Op.maxDepth,YD]
   rw [show (10000:Nat)=9999+1 from rfl,run_equalIn_bool' w 9999 t a b hu]
   simp
  exact ⟨.bool (a == b),by simp only [execOp,e1,e2,YD,hg,Yq,hb,YN],fun _ _=>rfl⟩
theorem ZoY {a b:Bool} (hu:P.underlying t=some .bool) (hx:Opd x ps (.pv (.bool a))) (hy:Opd y qs (.pv (.bool b))):OpC P ⟨d,.binOp .neq t x y t',ty,pos,af,g⟩ ⟨ps++qs,[],.pv (.bool (a != b)),[]⟩:=
 OpC.pure fun act w yy hp=>by
  have e1:act.eval x = .bool a:=hx act w yy hp.left
  have e2:act.eval y = .bool b:=hy act w yy hp.right
  have hg:(eqGuard .neq t x y (.bool a) (.bool b)).run P w = .ok () w:=rfl
  have hb:(binOp .neq t (.bool a) (.bool b)).run P w = .ok (.bool (a != b)) w:=by
   simp only [binOp,Op.equal,Op.maxDepth,YD]
   rw [show (10000:Nat)=9999+1 from rfl,run_equalIn_bool' w 9999 t a b hu]
   simp [bne]
  exact ⟨.bool (a != b),by simp only [execOp,e1,e2,YD,hg,Yq,hb,YN],fun _ _=>rfl⟩
end
theorem least (p:Nat→Prop) (h:∃ n,p n):∃ n,p n ∧ ∀ m,p m→n≤m:=by
 obtain ⟨n,hn⟩:=h
 induction n using Nat.strongRecOn with
 | _ n ih=>
  by_cases hs:∃ m,m<n∧p m
  ·obtain ⟨m,h1,h2⟩:=hs
   exact ih m h1 h2
  ·exact ⟨n,hn,fun m hm=>Nat.le_of_not_lt fun hlt=>hs ⟨m,hlt,hm⟩⟩
theorem ZbX {P:Program} {Q:Exit→Act→World→Prop} {B:ZaK} {c:Code} {σ:Type} (I:σ→En) (C:σ→Prop) (μ:σ→Nat) {a:Act} {w:World} {F:Fp} (s0:σ) (h0:Sat B (I s0) a w F) (c0:C s0)
  (round:∀ s a w F,C s→Sat B (I s) a w F→c.wp P (Exit.then (fun a' w'=>∃ s' F',C s' ∧ Sat B (I s') a' w' F' ∧ μ s' < μ s) Q) a w):(Code.loop c).wp P Q a w:=by
 classical
 let p:Act→World→Nat→Prop:=fun a w n=>∃ s F,C s∧Sat B (I s) a w F∧μ s=n
 let mm:Act→World→Nat:=fun a w=>if h:∃ n,p a w n then Classical.choose (least (p a w) h) else 0
 have hmm:∀ a w (h:∃ n,p a w n),p a w (mm a w) ∧ ∀ m,p a w m→mm a w≤m:=by
  intro a w h
  have:=Classical.choose_spec (least (p a w) h)
  simp only [mm,dif_pos h]
  exact this
 refine wp_loop (fun a w=>∃ n,p a w n) mm ⟨_,s0,F,c0,h0,rfl⟩ ?_
 intro a w h
 obtain ⟨⟨s,F,h1,h2,h3⟩,_⟩:=hmm a w h
 refine Code.wp_mono ?_ (round s a w F h1 h2)
 intro e a' w' q
 cases e with
 | normal=>
  obtain ⟨s',F',k1,k2,k3⟩:=q
  have hp:p a' w' (μ s'):=⟨s',F',k1,k2,rfl⟩
  refine ⟨⟨_,hp⟩,?_⟩
  have:=(hmm a' w' ⟨_,hp⟩).2 _ hp
  omega
 | _=>exact q
theorem Zb0 {P:Program} {B:ZaK} {F0:Fp} (hG:Zic B F0 1) {E:En} {a:Act} {w:World} {F:Fp} {fn:Func} {q:PV} {h':HP} {ss:List SF} (G:Sat B E a w F) (h0:look E.r 0=some (frame B)) (hr:ROk P E fn.results.toList ss) (hq:ZdG ss q)
  (h1:look E.r 1=some (RS.hp h')):bodyPost P fn (RG B F0 1 q (fun _=>[h'])) .ret a w:=
 Zj4 hG G h0 hr hq fun v τ y _ i h hi=>by
  match i,hi with
  | 0,hi=>simp at hi;subst hi;exact ⟨_,h1,YP _,fun _ _ _ k=>k⟩
theorem Zac {P:Program} {B:ZaK} {F0:Fp} (hG:Zic B F0 1) {E:En} {a:Act} {w:World} {F:Fp} {fn:Func} {q:PV} {h':Value→HP} {v0:Value} (G:Sat B E a w F) (h0:look E.r 0=some (frame B)) (hr:ROk P E fn.results.toList [.pv (.is v0)]) (hq:ZdG [.pv (.is v0)] q)
  (h1:look E.r 1=some (RS.hp (h' v0))):bodyPost P fn (RG B F0 1 q (fun v=>[h' v])) .ret a w:=
 Zj4 hG G h0 hr hq fun v τ y hv i h hi=>by
  obtain ⟨vs,rfl,hvs⟩:=hv
  have e:ZeB vs=v0:=by
   match vs,hvs with
   | [u],hvs=>exact hvs.1.1
  rw [e] at hi
  match i,hi with
  | 0,hi=>simp at hi;subst hi;exact ⟨_,h1,YP _,fun _ _ _ k=>k⟩
end Go.Gm
namespace Go.Gm
set_option linter.unusedVariables false
set_option linter.unusedSimpArgs false
section
variable {P:Program}
end
section
variable {P:Program} {d:Option Nat} {t ty:TypeId} {pos:String} {af:Array Edge} {g:Option (Nat×Bool)} {ps:List (Nat×SF)}
theorem Zo {e sz n:Nat} {zs:List Value} {r:List (Nat×Operand)} {l:List PV} {cs:List CF} (hu:P.underlying t=some (.slice e)) (hsz:(P.info? e).map (·.size)=some sz) (hz:P.zeros e=some zs) (hn:Nat.ble (n*sz) 1000=true) (h0:Nat.blt 0 (n*sz)=true) (hzl:zs.length=sz)
  {zz:List CF} (hzz:((List.range (n*sz)).map fun i=>zCF (zs.getD (i % sz) undef))=zz)
  (hparts:ZdH P ((List.range n).map fun i=>(i*sz,sz)) r ps zz cs) (hl:cs=l.map CF.pv) :
  OpC P ⟨d,.buildSlice t n r.toArray,ty,pos,af,g⟩ ⟨ps,[],.pv (.arr n l),[]⟩:=by
 subst hl
 exact ZhH hu hsz hz hn h0 hzl hzz hparts
variable {α:Type} {R:α→List PV} {l:List α} {x z z':Operand} {qs rs:List (Nat×SF)} {e sz:Nat} {k k':IntKind} {i j:Int}
theorem ZdN (he:ZaM P t e sz) (hR:∀ x,(R x).length=sz) (hx:Opd x ps (.pv (.sl R l))) (hz:Opd z qs (.pv (.int k j))) (h1:0≤j) (h2:j≤l.length) :
  OpC P ⟨d,.slice t x none (some z) none,ty,pos,af,g⟩ ⟨ps++qs,[],.pv (.sl R (l.take j.toNat)),[]⟩:=by
 have:=Zfy (d:=d) (ty:=ty) (pos:=pos) (af:=af) (g:=g) (P:=P) (lo:=none) (hi:=some z) (k1:=.i64) (i:=0) (qs:=[]) he hR hx ⟨rfl,rfl⟩ hz (Ybh 0) h1 h2
 simpa using this
theorem Zcm (he:ZaM P t e sz) (hR:∀ x,(R x).length=sz) (hx:Opd x ps (.pv (.sl R l))) (hz:Opd z qs (.pv (.int k i))) (h1:0≤i) (h2:i≤l.length) :
  OpC P ⟨d,.slice t x (some z) none none,ty,pos,af,g⟩ ⟨ps++qs,[],.pv (.sl R (l.drop i.toNat)),[]⟩:=by
 have:=Zfy (d:=d) (ty:=ty) (pos:=pos) (af:=af) (g:=g) (P:=P) (lo:=some z) (hi:=none) (k2:=.i64) (rs:=[]) he hR hx hz ⟨rfl,rfl⟩ h1 h2 (Ybh _)
 simpa using this
end
def PV.ptr:PV:=⟨fun u _ _=>∃ b,u = .pointer (some ⟨b,0,none⟩),fun _ h=>h⟩
theorem PV.ptr_one (v:Value) (w:World) (y:Ys) (h:PV.ptr.p v w y):v.oneCell' = true:=by obtain ⟨b,rfl⟩:=h;rfl
section
variable {B:ZaK} {E:En} {a:Act} {w:World} {F:Fp}
theorem Sat.shape {v:Value} {T:TypeId} {cells:List CF} (h:Sat B E a w F) (n:Nat) (hl:look E.r n=some (.pt (.val v) T cells)):∃ b,v = .pointer (some ⟨b,0,none⟩):=by
 obtain ⟨b,vs,e,_⟩:=h.r n _ hl
 exact ⟨b,e⟩
theorem Ent.ptr {b:Nat} : Ent (.pv (.is (.pointer (some ⟨b,0,none⟩)))) (.pv PV.ptr):=fun _ _ _ v h=>⟨b,h.1⟩
theorem ZaC {α:Type} {T sz:Nat} {R:α→List PV} (τ:Tau) (w:World) (f y:Ys) (h:(RS.hp (HP.star [])).holds τ w f y):(RS.ob (.val (.slice none 0 0)) (ZC T sz R ([]:List α))).holds τ w f y:=by
 have e:f=fun _=>False:=by funext b;exact propext ⟨fun k=>h b k,fun k=>k.elim⟩
 subst e
 exact ZmM
def unCF:List CF→List PV
 | .pv p :: cs=>p :: unCF cs
 | .same _ :: cs=>PV.any :: unCF cs
 | .fn _ _ :: cs=>PV.any :: unCF cs
 | []=>[]
def Zl1:List CF→Bool
 | .pv p :: cs=>Zl1 cs
 | .same _ :: cs=>false
 | .fn _ _ :: cs=>false
 | []=>true
theorem PVs.unCF {w y} {τ:Tau} : ∀ {cs:List CF} {vs:List Value},Zl1 cs=true→CFs τ w y cs vs→PVs (unCF cs) vs w y
 | [],[],_,_=>trivial
 | .pv p :: cs,v :: vs,h,k=>⟨k.1,PVs.unCF h k.2⟩
 | .same _ :: cs,v :: vs,h,k=>by cases h
 | .fn _ _ :: cs,v :: vs,h,k=>by cases h
 | [],_ :: _,_,k=>k.elim
 | .pv _ :: _,[],_,k=>k.elim
 | .same _ :: _,[],_,k=>k.elim
 | .fn _ _ :: _,[],_,k=>k.elim
theorem Ent.aggU {cs:List CF} {l:List PV} (h:Zl1 cs=true) (e:unCF cs=l):Ent (.agg cs) (.pv (.agg l)):=fun τ w y v ⟨vs,e',k⟩=>⟨vs,e',by rw [← e];exact PVs.unCF h k⟩
end
section
variable {B:ZaK} {E:En} {a:Act} {w:World} {F:Fp}
theorem Sat.ent {i:Nat} {s s':SF} (h:Sat B E a w F) (hl:look E.s i=some s) (he:Ent s s'):Sat B ⟨(i,s') :: E.s,E.r⟩ a w F:=
 ⟨h.wf,h.ev,h.n,h.df,fun j t hj=>by
  rw [Zf] at hj
  split at hj
  ·rename_i e
   simp only [Y7] at hj;subst hj;subst e
   exact he _ _ _ _ (h.s i s hl)
  ·exact h.s j t hj,h.r,h.em⟩
theorem Sat.eI {x:Int} (h:Sat B E a w F) (i v:Nat) (hl:look E.s i=some (.pv (.int .i64 x)):=by exact rfl) (he:x=((v+1:Nat):Int):=by exact Z4 (by omega)):Sat B ⟨(i,.pv (.int .i64 ((v+1:Nat):Int)))::E.s,E.r⟩ a w F:=h.ent hl (.int he)
theorem Ent.sl {α:Type} {R:α→List PV} {l l':List α} (h:l=l'):Ent (.pv (.sl R l)) (.pv (.sl R l')):=by subst h;exact Ent.refl
theorem Ent.nilSl {α:Type} {R:α→List PV} : Ent (.pv (.is (.slice none 0 0))) (.pv (.sl R [])):=fun _ _ _ v h=>⟨none,0,h.1,YP _,Yp _,.inl rfl⟩
theorem Sat.obGet {v:Value} {h':Value→HP} (h:Sat B E a w F) (n:Nat) (hl:look E.r n=some (.ob (.val v) h')):∃ w f y,(h' v).p w f y:=⟨_,_,_,h.r n _ hl⟩
theorem HP.star_pt {v:Value} {T:TypeId} {cells:List CF} {rs:List RS} {w:World} {f y:Ys} (h:(HP.star (.pt (.val v) T cells :: rs)).p w f y):∃ b,v = .pointer (some ⟨b,0,none⟩):=by
 obtain ⟨_,_,_,_,_,⟨b,_,e,_⟩,_⟩:=h
 exact ⟨b,e⟩
theorem Sat.give {α:Type} {T sz:Nat} {R:α→List PV} {l:List α} {v:Value} (h:Sat B E a w F) (n i:Nat) (hn:look E.r n=some (.ob (.val v) (ZC T sz R l))) (hi:look E.s i=some (.pv (.is v))) :
  ∃ F',Sat B ⟨(i,.pv (.sl R l)) :: E.s,(n,RS.hp (HP.star [])) :: E.r⟩ a w F':=by
 have hle:∀ b,U (fun m=>if m=n then fun _=>False else F m) b→U F b:=fun b ⟨m,hm⟩=>⟨m,by
  by_cases e:m=n
  ·simp only [e,Yv] at hm
  ·simp only [e,Ym] at hm;exact hm⟩
 have hev:=Ev.less w hle
 refine ⟨fun m=>if m=n then fun _=>False else F m,⟨fun m k b hm hk=>?_,fun m b hm=>?_⟩,h.ev.trans hev,h.n,h.df,fun j s hj=>?_,fun m r hm=>?_,fun m b hm=>?_⟩
 ·by_cases e1:m=n
  ·simp only [e1,Yv] at hm
  ·by_cases e2:k=n
   ·simp only [e2,Yv] at hk
   ·simp only [e1,e2,Ym] at hm hk;exact h.wf.dis m k b hm hk
 ·by_cases e1:m=n
  ·simp only [e1,Yv] at hm
  ·simp only [e1,Ym] at hm;exact h.wf.bd m b hm
 ·rw [Zf] at hj
  split at hj
  ·rename_i e
   simp only [Y7] at hj;subst hj;subst e
   have hv:Act.tau a i=v:=(h.s i _ hi).1
   obtain ⟨xs,h1,h2,h3⟩:=h.r n _ hn
   obtain ⟨ad,cap,e1,h4,h5,h6⟩:=ZM h1
   simp only [Anc.v] at e1
   show (PV.sl R l).p (Act.tau a i) w _
   rw [hv,e1]
   refine ⟨ad,cap,rfl,h4,h5,?_⟩
   rcases h6 with h6 | ⟨b,rfl,h7,h8⟩
   ·exact .inl (Y6 h6)
   ·have hb:F n b:=(h3 b).2 h7
    refine .inr ⟨b,0,xs,rfl,?_,h.wf.bd n b hb,h8,PVs.mono hev h2⟩
    rintro ⟨m,hm⟩
    by_cases e2:m=n
    ·simp only [e2,Yv] at hm
    ·simp only [e2,Ym] at hm
     exact e2 (h.wf.dis m n b hm hb)
  ·exact SF.mono hev (fun _ _=>rfl) (h.s j s hj)
 ·rw [Zf] at hm
  split at hm
  ·rename_i e
   simp only [Y7] at hm;subst hm;subst e
   intro b hb
   simp only [Yv] at hb
  ·rename_i e
   have e2:¬ m=n:=fun h=>e h.symm
   simp only [e2,Ym]
   exact RS.mono hev (fun _ _=>rfl) (fun _ _=>rfl) (h.r m r hm)
 ·by_cases e1:m=n
  ·simp only [e1,Yv] at hm
  ·simp only [e1,Ym] at hm
   obtain ⟨r,hr⟩:=h.em m b hm
   exact ⟨r,by rw [Zf,Yb (fun h=>e1 h.symm)];exact hr⟩
end
end Go.Gm
namespace Go.Gm
set_option linter.unusedVariables false
set_option linter.unusedSimpArgs false
abbrev PV.bs (l:List UInt8):PV:=.str ⟨l.toArray⟩
theorem ZnD (l:List UInt8):(ByteArray.mk l.toArray).size=l.length:=by simp [ByteArray.size]
section
variable {P:Program} {d:Option Nat} {t t' ty:TypeId} {pos:String} {af:Array Edge} {g:Option (Nat×Bool)} {x y z z':Operand} {ps qs rs:List (Nat×SF)} {l l':List UInt8} {k k':IntKind} {i j:Int}
theorem Zju (hu:P.underlying t=some .string) (hx:Opd x ps (.pv (.bs l))) (hy:Opd y qs (.pv (.int k i))) (h0:0≤i) (h1:i<l.length) :
  OpC P ⟨d,.index t x y,ty,pos,af,g⟩ ⟨ps++qs,[],.pv (.int .u8 ((Nn l i.toNat).toNat:Int)),[]⟩:=
 OpC.pure fun a w yy hp=>by
  obtain ⟨e1,_⟩:=hx a w yy hp.left
  have e2:=(hy a w yy hp.right).1
  have hn:i.toNat<l.length:=ow
  refine ⟨.int .u8 ((Nn l i.toNat).toNat:Int),?_,fun _ _=>⟨rfl,?_⟩⟩
  ·have:=run_index_string (P:=P) w t ⟨l.toArray⟩ k i hu
   rw [dif_pos ⟨h0,by rw [ZnD];exact h1⟩] at this
   simp only [execOp,e1,e2,YD,this,Yq,YN]
   rw [Zw hn]
   rfl
  ·have:=(Nn l i.toNat).toNat_lt
   simp [inR,IntKind.min,IntKind.max,IntKind.signed,IntKind.bits];omega
theorem ZnI {m n:Int} (hx:Opd x ps (.pv (.int k m))) (hy:Opd y qs (.pv (.int k' n))) (h:0≤n):OpC P ⟨d,.binOp .shr t x y t',ty,pos,af,g⟩ ⟨ps++qs,[],.pv (.int k (m.fdiv (2 ^ min n.toNat k.bits))),[]⟩:=
 OpC.pure fun a w yy hp=>by
  have e1:=(hx a w yy hp.left).1
  have e2:=(hy a w yy hp.right).1
  have hm:=(hx a w yy hp.left).2
  have h':¬ n<0:=ow
  refine ⟨.int k (m.fdiv (2 ^ min n.toNat k.bits)),by simp [execOp,e1,e2,eqGuard,binOp,Op.shift,h'],fun _ _=>⟨rfl,?_⟩⟩
  have hp2:(0:Int)<2 ^ min n.toNat k.bits:=Int.pow_pos XJ
  rw [Int.fdiv_eq_ediv_of_nonneg _ (Int.le_of_lt hp2)]
  have hk:k.min≤0:=by cases k <;> decide
  have hk':0≤k.max:=by cases k <;> decide
  unfold inR at *
  have h1p:(1:Int)≤2 ^ min n.toNat k.bits:=hp2
  constructor
  ·by_cases h0:0≤m
   ·exact Yba hk (Int.ediv_nonneg h0 (Int.le_of_lt hp2))
   ·have:m≤m / 2 ^ min n.toNat k.bits:=by
     rw [Int.le_ediv_iff_mul_le hp2]
     have:m*2 ^ min n.toNat k.bits≤m*1:=Int.mul_le_mul_of_nonpos_left ow h1p
     omega
    exact Yba hm.1 this
  ·by_cases h0:0≤m
   ·exact Yba (Int.ediv_le_self _ h0) hm.2
   ·have:m / 2 ^ min n.toNat k.bits<0:=Int.ediv_neg_of_neg_of_pos ow hp2
    omega
end
end Go.Gm
namespace Go.Gm
set_option linter.unusedVariables false
set_option linter.unusedSimpArgs false
section
variable {P:Program} {d:Option Nat} {t t' ty:TypeId} {pos:String} {af:Array Edge} {g:Option (Nat×Bool)} {x y z z':Operand} {ps qs rs:List (Nat×SF)} {k k':IntKind} {i j:Int} {a:Anc} {T:TypeId} {cells:List CF}
end
section
variable {P:Program} {d:Option Nat} {t t' ty:TypeId} {pos:String} {af:Array Edge} {g:Option (Nat×Bool)} {x y z z':Operand} {ps qs rs:List (Nat×SF)} {k k':IntKind} {i j:Int} {T:TypeId} {α:Type} {f:α→PV} {l:List α} {u:Value}
theorem OpC.res {o:Oper} {ps:List (Nat×SF)} {q:SF} {n:Nat} {r r':RS} {qr qr':List (Nat×RS)} (h:OpC P o ⟨ps,[(n,r)],q,qr⟩) (hr:∀ τ w fb y,r'.holds τ w fb y→r.holds τ w fb y) (hW:qr'.map (·.1)=qr.map (·.1)) (hq:∀ τ w F,Hpr qr τ w F→Hpr qr' τ w F):OpC P o ⟨ps,[(n,r')],q,qr'⟩:=fun a w F K Q hw hs hp ht=>
 h a w F K Q hw hs (fun x hx=>by
  simp only [Yn] at hx;subst hx
  exact hr _ _ _ _ (hp (n,r') XA)) (fun v w' F' h1 h2 h3 h4=>ht v w' F' h1 (by
   have e:(CD.W ⟨ps,[(n,r')],q,qr'⟩)=CD.W ⟨ps,[(n,r)],q,qr⟩:=hW
   rw [e];exact h2) h3 (hq _ _ _ h4))
end
section
variable {B:ZaK} {E:En} {a:Act} {w:World} {F:Fp}
theorem Sat.giveRef {T:TypeId} {cells:List CF} {v:Value} (h:Sat B E a w F) (n i:Nat) (hn:look E.r n=some (.pt (.val v) T cells)) (hi:look E.s i=some (.pv (.is v))) (hk:Zl1 cells=true) :
  ∃ F',Sat B ⟨(i,.pv (.ref (unCF cells))) :: E.s,(n,RS.hp (HP.star [])) :: E.r⟩ a w F':=by
 have hle:∀ b,U (fun m=>if m=n then fun _=>False else F m) b→U F b:=fun b ⟨m,hm⟩=>⟨m,by
  by_cases e:m=n
  ·simp only [e,Yv] at hm
  ·simp only [e,Ym] at hm;exact hm⟩
 have hev:=Ev.less w hle
 refine ⟨fun m=>if m=n then fun _=>False else F m,⟨fun m k b hm hk=>?_,fun m b hm=>?_⟩,h.ev.trans hev,h.n,h.df,fun j s hj=>?_,fun m r hm=>?_,fun m b hm=>?_⟩
 ·by_cases e1:m=n
  ·simp only [e1,Yv] at hm
  ·by_cases e2:k=n
   ·simp only [e2,Yv] at hk
   ·simp only [e1,e2,Ym] at hm hk;exact h.wf.dis m k b hm hk
 ·by_cases e1:m=n
  ·simp only [e1,Yv] at hm
  ·simp only [e1,Ym] at hm;exact h.wf.bd m b hm
 ·rw [Zf] at hj
  split at hj
  ·rename_i e
   simp only [Y7] at hj;subst hj;subst e
   have hv:Act.tau a i=v:=(h.s i _ hi).1
   obtain ⟨b,vs,e1,h1,h2,h3⟩:=h.r n _ hn
   simp only [Anc.v] at e1
   show (PV.ref (unCF cells)).p (Act.tau a i) w _
   rw [hv,e1]
   have hb:F n b:=(h2 b).2 rfl
   refine ⟨b,0,vs.toList,rfl,?_,h.wf.bd n b hb,Zz.mk fun j v hj=>?_,PVs.mono hev (PVs.unCF hk h3)⟩
   ·rintro ⟨m,hm⟩
    by_cases e2:m=n
    ·simp only [e2,Yv] at hm
    ·simp only [e2,Ym] at hm
     exact e2 (h.wf.dis m n b hm hb)
   ·simp only [World.cell?,h1]
    simpa using hj
  ·exact SF.mono hev (fun _ _=>rfl) (h.s j s hj)
 ·rw [Zf] at hm
  split at hm
  ·rename_i e
   simp only [Y7] at hm;subst hm;subst e
   intro b hb
   simp only [Yv] at hb
  ·rename_i e
   have e2:¬ m=n:=fun h=>e h.symm
   simp only [e2,Ym]
   exact RS.mono hev (fun _ _=>rfl) (fun _ _=>rfl) (h.r m r hm)
 ·by_cases e1:m=n
  ·simp only [e1,Yv] at hm
  ·simp only [e1,Ym] at hm
   obtain ⟨r,hr⟩:=h.em m b hm
   exact ⟨r,by rw [Zf,Yb (fun h=>e1 h.symm)];exact hr⟩
end
section
variable {P:Program} {d:Option Nat} {t t' ty:TypeId} {pos:String} {af:Array Edge} {g:Option (Nat×Bool)} {x y z z':Operand} {ps qs rs:List (Nat×SF)} {k k':IntKind} {i j:Int}
end
end Go.Gm
namespace Go.Gm
open Go.Lib
set_option linter.unusedVariables false
set_option linter.unusedSimpArgs false
section
variable {P:Program} {d:Option Nat} {t t' ty:TypeId} {pos:String} {af:Array Edge} {g:Option (Nat×Bool)} {x y z z':Operand} {ps qs rs:List (Nat×SF)} {k k':IntKind} {i j:Int} {T:TypeId} {cells:List CF} {v:Value}
end
end Go.Gm
namespace Go.Gm
open Go.ChangeShapes Go.WideShapes Go.ChangeAt Go.RowKit Go.Deep
set_option linter.unusedVariables false
set_option linter.unusedSimpArgs false
abbrev noY:Ys:=fun _=>False
def Zds (P:Program) (t:TypeId) {β:Type} (R:β→List PV):Prop:=
 ∀ (H:Type) (enc:TypeId×Value→H) (w:World) (base:Nat) (sp:Nat→Bool) (held:Bool) (n:Nat) (cs:List Value) (x:DataW H×List MemPlace),DataW.trod enc P w base sp held n t cs=some x → ∃ b:β,PVs (R b) cs w noY
section
variable {P:Program} {t:TypeId}
theorem Zo6 {k:IntKind} {n:Int} (h:(Lit.int k n).wf=true):inR k n:=by simpa [Lit.wf,inR] using h
theorem ZaI {k:IntKind} (hu:P.underlying t=some (.int k)):Zds P t (fun i:Int=>[.int k i]):=fun H enc w base sp held n cs x h=>by
 obtain ⟨i,rfl,_,hw⟩:=DataW.trod_int hu h
 exact ⟨i,⟨rfl,rfl,Zo6 hw⟩,tv⟩
theorem ZfQ (hu:P.underlying t=some .bool):Zds P t (fun b:Bool=>[.bool b]):=fun H enc w base sp held n cs x h=>by
 obtain ⟨b,rfl,_⟩:=DataW.trod_bool hu h
 exact ⟨b,⟨rfl,rfl⟩,tv⟩
theorem Zds.map {β γ:Type} {R:β→List PV} {R':γ→List PV} (h:Zds P t R) (f:β→γ) (e:∀ b,R b=R' (f b)):Zds P t R':=fun H enc w base sp held n cs x hx=>by
 obtain ⟨b,hb⟩:=h H enc w base sp held n cs x hx
 exact ⟨f b,by rw [← e b];exact hb⟩
def Zjd (P:Program) (fs:List Field) (off tot:Nat) {β:Type} (R:β→List PV):Prop:=
 ∀ (H:Type) (enc:TypeId×Value→H) (w:World) (base:Nat) (sp:Nat→Bool) (held:Bool) (n:Nat) (cs:List Value),cs.length=tot →
  (∀ (i:Nat) (f:Field),fs[i]? = some f → ∃ x,DataW.trod enc P w base sp held n f.type ((cs.drop f.offset).take (P.cellsOf f.type))=some x) → ∃ b:β,PVs (R b) (cs.drop off) w noY
theorem Zcr {tot:Nat} : Zjd P [] tot tot (fun _:Unit=>[]):=fun H enc w base sp held n cs hl _=>⟨(),by rw [List.drop_of_length_le ow];trivial⟩
theorem ZU {f:Field} {fs:List Field} {off k tot:Nat} {β γ:Type} {R:β→List PV} {R':γ→List PV} (ho:Nat.beq f.offset off=true) (hk:Nat.beq (P.cellsOf f.type) k=true) (h:Zds P f.type R) (h':Zjd P fs (off+k) tot R') :
  Zjd P (f :: fs) off tot (fun p:β×γ=>R p.1++R' p.2):=fun H enc w base sp held n cs hl hx=>by
 obtain ⟨x,hf⟩:=hx 0 f rfl
 obtain ⟨b,hb⟩:=h H enc w base sp held n _ x hf
 obtain ⟨c,hc⟩:=h' H enc w base sp held n cs hl (fun i g hg=>hx (i+1) g (by simpa using hg))
 refine ⟨(b,c),?_⟩
 have e1:=Y8 ho
 have e2:=Y8 hk
 rw [e1,e2] at hb
 have:=PVs.append hb hc
 rwa [show cs.drop (off+k)=(cs.drop off).drop k by rw [List.drop_drop],YaR] at this
theorem Zbq {fs:List Field} {tot:Nat} {β:Type} {R:β→List PV} (hu:P.underlying t=some (.struct fs.toArray)) (hc:Nat.beq (P.cellsOf t) tot=true) (h:Zjd P fs 0 tot R):Zds P t R:=fun H enc w base sp held n cs x hx=>by
 obtain ⟨xs,m,rfl,_,hl,hls,hf⟩:=DataW.trod_struct hu hx
 have:=h H enc w base sp held m cs (by rw [hl];exact Y8 hc) (fun i f hi=>by
  have h1:=hf i f XD
  have hi':i<xs.length:=by
   rw [hls]
   have:=(YB.1 hi).1
   simpa using this
  exact ⟨xs[i],by rw [h1];simp [hi']⟩)
 simpa using this
theorem Zi2 {w:World} {base n:Nat} {a:Addr} {cs:List Value} (h:w.cells? base a n=some cs):cs.length=n∧Zz w a.block a.off cs∧(0<n→a.spot=none):=by
 obtain ⟨_,hl,hc⟩:=World.cells?_some h
 have hsp:0<n→a.spot=none:=fun h0=>by
  have h1:=hc 0 h0
  simp only [Addr.add,Yv] at h1
  have:(w.cell? a).isSome=true:=by rw [h1];simp [YaT (show 0<cs.length by omega)]
  unfold World.cell? at this
  split at this
  ·split at this
   ·cases this
   ·rename_i hh;simpa using hh
  ·cases this
 refine ⟨hl,Zz.mk fun j v hj=>?_,hsp⟩
 have hjl:j<n:=by rw [← hl];exact (YB.1 hj).1
 have h1:=hc j hjl
 rw [hj] at h1
 have e:a.add j = ⟨a.block,a.off+j,none⟩:=by
  unfold Addr.add
  by_cases h0:j=0
  ·subst h0
   have:=hsp hjl
   cases a;simp_all
  ·simp [h0]
 rw [← e];exact h1
theorem ZcN {e:TypeId} {β:Type} {R:β→List PV} (hu:P.underlying t=some (.slice e)) (hc:Nat.blt 0 (P.cellsOf e)=true) (h:Zds P e R):Zds P t (fun l:List β=>[.sl R l]):=fun H enc w base sp held n cs x hx=>by
 have hpos:0<P.cellsOf e:=by simpa [Yav] using hc
 rcases open_slice hu hx with ⟨rfl,_⟩ | ⟨a,len,cap,m,k,D,Pl,rfl,_,hl,hm,hmm,_,hel⟩
 ·exact ⟨[],⟨rfl,none,0,rfl,YP _,Yp _,.inl rfl⟩,tv⟩
 ·have hle:len≤m:=by rw [hmm];split <;> omega
  have key:∀ j,j≤len → ∃ (l:List β) (vs:List Value),l.length=j∧vs.length=j*P.cellsOf e∧Zz w a.block a.off vs∧PVs (l.flatMap R) vs w noY:=by
   intro j
   induction j with
   | zero=>intro _;exact ⟨[],[],rfl,by simp,tv,tv⟩
   | succ j ih=>
    intro hj
    obtain ⟨l,vs,h1,h2,h3,h4⟩:=ih ow
    obtain ⟨cs',h5,h6⟩:=hel j ow
    obtain ⟨b,hb⟩:=h H enc w base sp held k cs' _ h6
    obtain ⟨h7,h8,_⟩:=Zi2 h5
    refine ⟨l ++ [b],vs++cs',by simp [h1],by rw [Yd,h2,h7,Ya7],Zz.append h3 ?_,?_⟩
    ·have e1:(a.add (j*P.cellsOf e)).block=a.block:=by unfold Addr.add;split <;> rfl
     have e2:(a.add (j*P.cellsOf e)).off=a.off+j*P.cellsOf e:=by unfold Addr.add;split <;> simp_all
     rw [e1,e2] at h8
     rw [h2];exact h8
    ·rw [Yae]
     exact PVs.append h4 (by simpa using hb)
  obtain ⟨l,vs,h1,h2,h3,h4⟩:=key len (YP _)
  refine ⟨l,⟨rfl,some a,cap,by rw [h1],ow,hm,?_⟩,tv⟩
  by_cases h0:len=0
  ·exact .inl (Y6 ow)
  ·right
   obtain ⟨cs',h5,h6⟩:=hel 0 ow
   have hs:=(Zi2 h5).2.2 hpos
   have hspot:a.spot=none:=by simpa [Addr.add] using hs
   have hlen:0<vs.length:=by rw [h2];exact Nat.mul_pos ow hpos
   refine ⟨a.block,a.off,vs,by cases a;simp_all,fun h=>h,?_,h3,h4⟩
   match vs,hlen,h3 with
   | v :: vs,_,h3=>exact Zz.lt h3
def ZpY (P:Program) (t:TypeId) {β:Type} (A:β→PV):Prop:=
 ∀ (H:Type) (enc:TypeId×Value→H) (w:World) (base:Nat) (sp:Nat→Bool) (held:Bool) (r:Reach) (b0:Nat) (v:Value) (d:DataW H) (ps:List MemPlace),Value.okWide P w r b0 t v→DataW.Trod enc P w base sp held t v d ps → ∃ b:β,(A b).p v w noY
def ZgD (P:Program) (t:TypeId):Bool:=match P.underlying t with
 | some (.int _)=>true
 | some .bool=>true
 | some .string=>true
 | some (.slice _)=>true
 | _=>false
theorem one_cells {w:World} {r:Reach} {b0:Nat} {v:Value} (ht:ZgD P t=true) (h:Value.okWide P w r b0 t v):v.cells.toList = [v]:=by
 cases hu:P.underlying t with
 | none=>simp [ZgD,hu] at ht
 | some d=>
  cases d <;> simp [ZgD,hu] at ht <;> simp only [Value.okWide,hu,Cell.okWide] at h <;> (unfold Cell.ok at h) <;> simp only [hu] at h <;> cases v <;> first | rfl | (exact h.elim)
theorem Zi0 {β:Type} {A:β→PV} (ht:ZgD P t=true) (h:Zds P t (fun b=>[A b])):ZpY P t A:=fun H enc w base sp held r b0 v d ps ho ⟨n,hn⟩=>by
 rw [one_cells ht ho] at hn
 obtain ⟨b,hb⟩:=h H enc w base sp held n _ _ hn
 exact ⟨b,hb.1.2⟩
def ZkZ (P:Program) (ts:List TypeId) {β:Type} (AA:β→List PV):Prop:=
 ∀ (H:Type) (enc:TypeId×Value→H) (w:World) (base:Nat) (sp:Nat→Bool) (held:Bool) (r:Reach) (b0:Nat) (vs:List Value) (ds:List (DataW H)) (ps:List MemPlace),(∀ (j:Nat) t v,ts[j]? = some t→vs[j]? = some v→Value.okWide P w r b0 t v) →
  DataW.TrodAll enc P w base sp held ts vs ds ps → ∃ b:β,PVt (AA b) vs w noY
theorem Zk8:ZkZ P [] (fun _:Unit=>[]):=fun H enc w base sp held r b0 vs ds ps _ h=>by
 obtain ⟨rfl,rfl,rfl⟩:=trodAll_nil h
 exact ⟨(),tv⟩
theorem ZfG {ts:List TypeId} {β γ:Type} {A:β→PV} {AA:γ→List PV} (h:ZpY P t A) (h':ZkZ P ts AA):ZkZ P (t :: ts) (fun p:β×γ=>A p.1 :: AA p.2):=fun H enc w base sp held r b0 vs ds ps ho hd=>by
 obtain ⟨v,vs',d,ds',p,q,rfl,rfl,rfl,h1,h2⟩:=trodAll_cons hd
 obtain ⟨b,hb⟩:=h H enc w base sp held r b0 v d p (ho 0 t v rfl rfl) h1
 obtain ⟨c,hc⟩:=h' H enc w base sp held r b0 vs' ds' q (fun j t v h3 h4=>ho (j+1) t v XH (by simpa using h4)) h2
 exact ⟨(b,c),hb,hc⟩
theorem ZeO {H:Type} {enc:TypeId×Value→H} {w:World} {base:Nat} {sp:Nat→Bool} {held:Bool} : ∀ {ts:List TypeId} {vs:List Value} {ds:List (DataW H)} {ps:List MemPlace},DataW.TrodAll enc P w base sp held ts vs ds ps→ds.length=ts.length
 | [],vs,ds,ps,h=>by obtain ⟨rfl,rfl,rfl⟩:=trodAll_nil h;rfl
 | t :: ts,vs,ds,ps,h=>by
  obtain ⟨v,vs',d,ds',p,q,rfl,rfl,rfl,h1,h2⟩:=trodAll_cons h
  simp [ZeO h2]
theorem Zc0 {H:Type} {enc:TypeId×Value→H} {W W':World} {sp':Nat→Bool} (hl:laidOutB P=true):∀ {ts:List TypeId} {vs:List Value} {ds:List (DataW H)} {ps:List MemPlace},(∀ t ∈ ts,P.readableRec t=true∧t<P.types.size) →
  DataW.TrodAll enc P W 0 (fun _=>true) true ts vs ds ps→(∀ p ∈ ps,W.sameAt W' p)→(∀ p ∈ ps,sp' p.block=true)→DataW.TrodAll enc P W' 0 sp' true ts vs ds ps
 | [],vs,ds,ps,_,h,_,_=>by obtain ⟨rfl,rfl,rfl⟩:=trodAll_nil h;exact trodAll_mk0
 | t :: ts,vs,ds,ps,ht,h,h1,h2=>by
  obtain ⟨v,vs',d,ds',p,q,rfl,rfl,rfl,h3,h4⟩:=trodAll_cons h
  refine trodAll_cons_mk (WideElems.Trod_stays hl (ht t XA).1 (ht t XA).2 h3 (fun p hp=>h1 p (Yaf _ hp)) (fun p hp=>h2 p (Yaf _ hp)))
   (Zc0 hl (fun t ht'=>ht t (by simp [ht'])) h4 (fun p hp=>h1 p (Y0 _ hp)) (fun p hp=>h2 p (Y0 _ hp)))
theorem Zhn {f:FuncId} {fn:Func} {s:ChangeSpec} {β:Type} {AA:β→List PV} {tb:TypeId} (hl:laidOutB P=true) (hts:∀ t ∈ fn.params.toList,P.readableRec t=true∧t<P.types.size) {ts:List TypeId} (hA0:ZkZ P ts AA) (hp:fn.params.toList=ts) (hF:∀ b,FnP P f (AA b) (.bool true))
  (hv:s.vars = []) (hr:fn.resultTypes = #[tb]) (hb:P.underlying tb=some .bool) (hs:∀ (H:Type) (ds:List (DataW H)),ds.length=fn.params.toList.length→s.fn H ds = { results:=[.lit (.bool true)],args:=ds,vars:=[] })
  {apart fresh handsOn again:Bool} (H:Type) (enc:TypeId×Value→H) (W:World) (base:Nat) (args:Array Value) (ds gs:List (DataW H)) (before:List MemPlace)
  (hval:∀ (j:Nat) t v,fn.params[j]? = some t→args[j]? = some v→Value.okWide P W .any base t v) (hW:DataW.Whole enc P fn.params.toList s.vars apart W args.toList ds gs before) :
  Calls P f args W fun e W'=>∃ v,e = .returned v∧s.post enc P fn apart fresh handsOn again W args v W':=by
 have hA:ZkZ P fn.params.toList AA:=by rw [hp];exact hA0
 have hW':=hW
 obtain ⟨p,q,hd,hg,hbe,hz,hn⟩:=hW
 have hg':DataW.TrodVars enc P W (fun _=>true) [] gs q:=by rw [← hv];exact hg
 obtain ⟨hgs,hqs⟩:=trodVars_none hg'
 subst hgs;subst hqs
 obtain ⟨b,hargs⟩:=hA H enc W 0 _ true .any base args.toList ds p (fun j t v h1 h2=>hval j t v XN XO) hd
 have hlen:=ZeO hd
 have hcall:=hF b W noY args.toList (fun b h=>h.elim) hargs
 rw [Array.toArray_toList] at hcall
 refine hcall.mono fun e W' h=>?_
 obtain ⟨v,rfl,hq,hbel⟩:=h
 have hv':v = .bool true:=hq
 subst hv'
 have hlt:∀ p ∈ before,p.block<W.heap.size:=fun p hp=>hW'.lt p hp
 have hsp:=hs H (ds ++ []) (by rw [Y3];exact hlen)
 refine ⟨_,rfl,?_⟩
 have hps:before=p:=by rw [hbe,Y3]
 have hagain:∀ sp:Nat→Bool,(∀ x ∈ before,sp x.block=true)→DataW.TrodAll enc P W' 0 sp true fn.params.toList args.toList (s.fn H (ds ++ [])).args p:=fun sp h=>by
  rw [hsp,Y3]
  exact Zc0 hl hts hd (fun x hx=>hbel.same (hlt x (by rw [hps];exact hx))) (fun x hx=>h x (by rw [hps];exact hx))
 have hres:∀ (c:Nat) (sp:Nat→Bool) (hd:Bool),DataW.TrodAll enc P W' c sp hd fn.resultTypes.toList ((Value.bool true).resultList fn.resultTypes.size) (s.fn H (ds ++ [])).results []:=fun c sp hd=>by
  rw [hsp,hr]
  exact trodAll_cons_mk (shut_bool hb _) trodAll_mk0
 have hvars:∀ sp:Nat→Bool,DataW.TrodVars enc P W' sp s.vars (s.fn H (ds ++ [])).vars []:=fun sp=>by rw [hsp,hv];rfl
 have hold:∀ x ∈ before,(fun b=>decide (b<W.heap.size)) x.block=true:=fun x hx=>by simpa using hlt x hx
 refine ⟨ds,[],before,[],p,[],hW',hres _ _ _,hagain _ hold,hvars _,World.keptBut_mono (fun x hx=>⟨hx,?_⟩) (hbel.frame _),fun _=>?_⟩
 ·rw [hps] at hx;exact Or.inr XP
 ·refine ⟨ok_one hr O (okWide_bool_mk hb _),_,_,([] ++ p) ++ [],⟨[] ++ p,[],trodAll_append (hagain _ (fun _ _=>rfl)) (hres _ _ _),hvars _,rfl,?_,?_⟩,?_⟩
  ·intro c off hp
   have hp':MemPlace.cell c off ∈ before:=by rw [hps];simpa using hp
   rw [hbel.frozen (p:=⟨c,off,none⟩) (hlt _ hp')]
   exact hz c off hp'
  ·intro ha
   have:=hn ha
   rw [hps] at this
   simpa using this
  ·intro x hx _
   rw [hps]
   simpa using hx
end
end Go.Gm
namespace Go.Gm
set_option linter.unusedVariables false
set_option linter.unusedSimpArgs false
theorem Ent.arrSl {α:Type} {R:α→List PV} {l:List α} (h:Nat.ble l.length maxLen=true):Ent (.pv (.arr l.length (l.flatMap R))) (.pv (.sl R l)):=fun τ w y v ⟨b,vs,e,h1,h2,h3,h4⟩=>
 ⟨some ⟨b,0,none⟩,l.length,e,YP _,Yaa h,.inr ⟨b,0,vs,rfl,h1,h2,h3,h4⟩⟩
end Go.Gm
namespace Go.Gm
set_option linter.unusedVariables false
set_option linter.unusedSimpArgs false
section
variable {P:Program} {t ty:TypeId} {pos:String} {af:Array Edge} {g:Option (Nat×Bool)} {x y:Operand} {ps qs:List (Nat×SF)} {α:Type} {R:α→List PV} {l:List α}
theorem PVs.setR {sz:Nat} (hR:∀ x,(R x).length=sz) {w yy} {v:α} {us:List Value} (hu:PVs (R v) us w yy):∀ {l:List α} {xs:List Value} (i:Nat),i<l.length→PVs (l.flatMap R) xs w yy→PVs ((l.set i v).flatMap R) (xs.take (i*sz)++us++xs.drop (i*sz+sz)) w yy
 | [],xs,i,h,_=>by simp at h
 | z :: l,xs,0,_,h=>by
  rw [Yaw] at h
  obtain ⟨us1,us2,rfl,h1,h2⟩:=PVs.split h
  have hl:us1.length=sz:=Kb
  rw [List.set_cons_zero,Yaw,Nat.zero_mul,List.take_zero,Yat,Y2,← hl,List.drop_left]
  exact PVs.append hu h2
 | z :: l,xs,i+1,hi,h=>by
  rw [Yaw] at h
  obtain ⟨us1,us2,rfl,h1,h2⟩:=PVs.split h
  have hl:us1.length=sz:=Kb
  have ih:=PVs.setR hR hu (l:=l) i XD h2
  rw [List.set_cons_succ,Yaw,Ya7,show i*sz+sz=us1.length+i*sz by omega,show us1.length+i*sz+sz=us1.length+(i*sz+sz) by omega,List.take_length_add_append,List.drop_length_add_append,Yad,Yad]
  exact PVs.append h1 (by rw [← Yad];exact ih)
theorem ZgJ {cur us:List Value} {k sz N:Nat} (hk:k+sz≤N) (hu:us.length=sz) (hc:N≤cur.length):(cur.take k++us++cur.drop (k+us.length)).take N=(cur.take N).take k++us++(cur.take N).drop (k+sz):=by
 rw [Yay,YaQ ow,hu]
 have h1:(cur.take k++us).length=k+sz:=by rw [Yd,Yj,hu];omega
 rw [List.take_append,h1,Y1 ow,List.drop_take]
theorem ZhS {T sz i:Nat} {a:Anc} {v:α} (n:Nat) (hx:Opd x ps (.adr a (i*sz))) (hR:∀ x,(R x).length=sz) (hi:i<l.length) (hy:Opd y qs (.pv (.agg (R v)))) (hs:(P.info? t).map (·.size)=some sz) :
  OpC P ⟨none,.store t x y,ty,pos,af,g⟩ ⟨ps++qs,[(n,.ob a (ZC T sz R l))],.pv .any,[(n,.ob a (ZC T sz R (l.set i v)))]⟩:=fun act w F K Q hw hp hr ht=>by
 obtain ⟨xs,h1,h2,h3⟩:=hr (n,.ob a (ZC T sz R l)) XA
 have ex0:act.eval x=shift (i*sz) (a.v (Act.tau act)):=hx act w (U F) hp.left
 obtain ⟨us,eu,hu⟩:=hy act w (U F) hp.right
 have hul:us.length=sz:=by rw [← hu.len,hR]
 have hxl:=h1.1
 rcases h1.2 with ⟨_,h0⟩ | ⟨b,cap,cur,ev,_,hg,hnc,hcm,hcs,htake⟩
 ·omega
 ·have ex:act.eval x = .pointer (some ⟨b,i*sz,none⟩):=by rw [ex0,ev];simp [shift]
  have hfit:i*sz+sz≤l.length*sz:=K9
  have hfit2:l.length*sz≤cur.size:=WZ
  have hst:=Yab P b (i*sz) T us 0 cur w hg ow hu.one
  have hrun:(execOp act.eval ⟨none,.store t x y,ty,pos,af,g⟩).run P w = .ok .skip (w.setRow b (cur.toList.take (i*sz)++us++cur.toList.drop (i*sz+us.length)).toArray):=by
   simp [execOp,ex,Instr.storeAt,Instr.sureAddr,storeVar,run_sizeOf hs,eu,Value.cells,hul,hst]
  have hf:∀ z,F n z ↔ z=b:=fun z=>by rw [h3 z,ev];simp [Value.ownBlock,Yak]
  obtain ⟨g1,g2⟩:=ZaD hw hg hf (cur.toList.take (i*sz)++us++cur.toList.drop (i*sz+us.length)).toArray
  simp only [Oper.wp,hrun,Oper.upon]
  refine ht undef _ F g1 g2 trivial ?_
  intro z hz
  simp only [Yn] at hz
  subst hz
  have eτ:upd (Act.tau act) none undef=Act.tau act:=by funext i;simp [upd]
  show RS.holds (upd (Act.tau act) none undef) _ _ _ _
  rw [eτ]
  refine ⟨xs.take (i*sz)++us++xs.drop (i*sz+sz),⟨?_,.inr ⟨b,cap,_,by rw [YT];exact ev,Yp _,Ybb w b cur _ T (0,0) hg,by rw [YT];exact hnc,hcm,?_,?_⟩⟩,PVs.setR hR (PVs.mono g2.ev hu) i hi (PVs.mono g2.ev h2),h3⟩
  ·rw [YT,Yd,Yd,Yj,Yu,hxl,hul];omega
  ·have:cur.toList.length=cur.size:=by simp
   simp only [Yam,Yd,Yj,Yu,this,hul]
   omega
  ·rw [YT]
   have:=ZgJ (cur:=cur.toList) (us:=us) (k:=i*sz) (sz:=sz) (N:=l.length*sz) hfit hul (by simpa using hfit2)
   rw [htake] at this
   simpa using this
theorem Zla (zs:List Value) (sz:Nat) (hz:zs.length=sz) (h0:0<sz):∀ n,(madeCells zs.toArray ((n+1)*sz)).toList=(madeCells zs.toArray (n*sz)).toList++zs:=fun n=>by
 simp only [madeCells,Array.toList_map,Array.toList_range,Ya7,List.range_add,Yaj,YaY]
 congr 1
 apply List.ext_getElem
 ·simp [hz]
 ·intro j h1 h2
  have hj:j<sz:=XN
  simp only [List.getElem_map,List.getElem_range,Function.comp,Yam,hz]
  rw [Nat.mul_comm n sz,Nat.mul_add_mod,Nat.mod_eq_of_lt hj]
  simp [h2]
theorem Zes {w:World} {yy:Ys} {zs:List Value} {sz:Nat} {v:α} (hz:zs.length=sz) (h0:0<sz) (hp:PVs (R v) zs w yy):∀ n,PVs ((List.replicate n v).flatMap R) (madeCells zs.toArray (n*sz)).toList w yy
 | 0=>by simp [madeCells,PVs]
 | n+1=>by
  rw [Zla zs sz hz h0 n,List.replicate_succ',Yae]
  refine PVs.append (Zes hz h0 hp n) ?_
  simpa using hp
end
def Zor (T:TypeId) (cells:List CF) (v:Value):HP:=⟨fun w f y=>(RS.pt (.val v) T cells).holds tau0 w f y,fun h hf k=>RS.mono h hf (fun _ _=>rfl) k⟩
theorem Znk {T:TypeId} {cells:List CF} {v:Value} (hd:ZcH (cdeps cells)=true) (τ:Tau) (w:World) (f y:Ys) (h:(RS.hp (Zor T cells v)).holds τ w f y):(RS.pt (.val v) T cells).holds τ w f y:=
 RS.closed (by simp [RS.deps,Anc.deps,ZbP hd]) h
theorem Znf {T:TypeId} {cells:List CF} {v:Value} (hd:ZcH (cdeps cells)=true) (τ:Tau) (w:World) (f y:Ys) (h:(RS.pt (.val v) T cells).holds τ w f y):(RS.hp (Zor T cells v)).holds τ w f y:=
 RS.closed (r:=RS.pt (.val v) T cells) (by simp [RS.deps,Anc.deps,ZbP hd]) h
section
variable {P:Program} {ty:TypeId} {pos:String} {af:Array Edge} {g:Option (Nat×Bool)} {ps:List (Nat×SF)}
end
def PV.boolIf (c:Prop):PV:=⟨fun u _ _=>∃ b,u = .bool b∧(b=true→c),fun _ h=>h⟩
theorem Sat.pickBool {B:ZaK} {E:En} {a:Act} {w:World} {F:Fp} (h:Sat B E a w F) {c:Prop} (i:Nat) (hl:look E.s i=some (.pv (.boolIf c))):∃ b,(b=true→c)∧Sat B ⟨(i,.pv (.bool b)) :: E.s,E.r⟩ a w F:=by
 obtain ⟨b,hb,hbc⟩:=h.s i _ hl
 refine ⟨b,hbc,h.wf,h.ev,h.n,h.df,fun j t hj=>?_,h.r,h.em⟩
 rw [Zf] at hj
 split at hj
 ·rename_i e
  simp only [Y7] at hj;subst hj;subst e
  exact hb
 ·exact h.s j t hj
section
variable {P:Program} {d:Option Nat} {t t' ty:TypeId} {pos:String} {af:Array Edge} {g:Option (Nat×Bool)} {x:Operand} {ps:List (Nat×SF)} {α:Type} {R:α→List PV} {l:List α}
theorem Zbn {e:TypeId} (hu:P.underlying t=some (.slice e)) (hx:Opd x ps (.pv (.sl R l))) :
  OpC P ⟨d,.binOp .eql t x (.const (.slice none 0 0)) t',ty,pos,af,g⟩ ⟨ps,[],.pv (.boolIf (l = [])),[]⟩:=
 OpC.pure fun a w yy hp=>by
  obtain ⟨ad,cap,e1,_,_,h3⟩:=hx a w yy hp
  have hr:=Go.Lib.run_eql_slice_nil (P:=P) w t e ad l.length cap 0 0 hu
  refine ⟨.bool ad.isNone,?_,fun _ _=>⟨_,rfl,fun hn=>?_⟩⟩
  ·simp only [execOp,e1,Zc8,YD,show (eqGuard .eql t x (.const (.slice none 0 0)) (.slice ad l.length cap) (.slice none 0 0)).run P w = .ok () w from rfl,Yq,hr,YN]
  ·rcases h3 with h3 | ⟨b,off,vs,rfl,_⟩
   ·exact h3
   ·cases hn
end
end Go.Gm
namespace Go.Gm
set_option linter.unusedVariables false
set_option linter.unusedSimpArgs false
section
variable {P:Program} {d:Option Nat} {t ty:TypeId} {pos:String} {af:Array Edge} {g:Option (Nat×Bool)} {x x2 x3:Operand} {ps qs rs:List (Nat×SF)}
def drop (F:Fp) (n:Nat):Fp:=fun m=>if m=n then fun _=>False else F m
theorem Zj1 (F:Fp) (n:Nat):∀ b,U (drop F n) b→U F b:=fun b ⟨m,hm⟩=>⟨m,by
 unfold drop at hm
 by_cases e:m=n
 ·simp only [e,Yv] at hm
 ·simp only [e,Ym] at hm;exact hm⟩
end
def ZW (p q:PV):Prop:=∀ v w y,p.p v w y→q.p v w y
def Zee:List PV→List PV→Prop
 | [],[]=>True
 | p :: ps,q :: qs=>ZW p q∧Zee ps qs
 | _,_=>False
theorem ZW.refl {p:PV} : ZW p p:=fun _ _ _ h=>h
theorem Zee.refl:∀ {l:List PV},Zee l l
 | []=>trivial
 | _ :: _=>⟨ZW.refl,Zee.refl⟩
theorem ZW.nilSl {α:Type} {R:α→List PV} : ZW (.is (.slice none 0 0)) (.sl R []):=fun v w y h=>Ent.nilSl (fun _=>v) w y v h
theorem PVs.le {w y} : ∀ {ps qs:List PV} {vs:List Value},Zee ps qs→PVs ps vs w y→PVs qs vs w y
 | [],[],[],_,_=>trivial
 | p :: ps,q :: qs,v :: vs,h,k=>⟨⟨k.1.1,h.1 _ _ _ k.1.2⟩,PVs.le h.2 k.2⟩
 | [],[],_ :: _,_,k=>k.elim
 | _ :: _,_ :: _,[],_,k=>k.elim
 | [],_ :: _,_,h,_=>h.elim
 | _ :: _,[],_,h,_=>h.elim
theorem ZnJ {n:Nat} {l:List PV} : ∀ v w yy,(PV.arr n l).p v w yy→v.oneCell' = true:=fun v w yy ⟨b,vs,e,_⟩=>by rw [e];rfl
theorem ZW.arrSl {α:Type} {R:α→List PV} {l:List PV} {l':List α} (h:Nat.ble l'.length maxLen=true) (e:Zee l (l'.flatMap R)):ZW (.arr l'.length l) (.sl R l'):=fun v w y ⟨b,vs,e1,h1,h2,h3,h4⟩=>
 Ent.arrSl h (fun _=>v) w y v ⟨b,vs,e1,h1,h2,h3,PVs.le e h4⟩
theorem CFs.ofUn {w y} {τ:Tau} : ∀ {cs:List CF} {vs:List Value},Zl1 cs=true→PVs (Go.Gm.unCF cs) vs w y→CFs τ w y cs vs
 | [],[],_,_=>trivial
 | .pv p :: cs,v :: vs,h,k=>⟨k.1,CFs.ofUn h k.2⟩
 | .same _ :: cs,v :: vs,h,k=>by cases h
 | .fn _ _ :: cs,v :: vs,h,k=>by cases h
 | [],_ :: _,_,k=>k.elim
 | .pv _ :: _,[],_,k=>k.elim
 | .same _ :: _,[],_,k=>k.elim
 | .fn _ _ :: _,[],_,k=>k.elim
theorem Ent.paggLe {l l':List PV} (e:Zee l l'):Ent (.pv (.agg l)) (.pv (.agg l')):=fun τ w y v ⟨vs,e',k⟩=>⟨vs,e',PVs.le e k⟩
theorem Ent.aggLe {cs:List CF} {l:List PV} (h:Zl1 cs=true) (e:Zee (unCF cs) l):Ent (.agg cs) (.pv (.agg l)):=Ent.trans (Ent.aggU h rfl) (Ent.paggLe e)
theorem Zp6 {an:Anc} {T:TypeId} {cells cells':List CF} (h:Zl1 cells=true) (h':Zl1 cells' = true) (e:Zee (unCF cells) (unCF cells')) (τ:Tau) (w:World) (f y:Ys) (k:(RS.pt an T cells).holds τ w f y):(RS.pt an T cells').holds τ w f y:=by
 obtain ⟨b,vs,e1,h1,h2,h3⟩:=k
 exact ⟨b,vs,e1,h1,h2,CFs.ofUn h' (PVs.le e (PVs.unCF h h3))⟩
theorem ZdG.none:ZdG [] (.tup []):=fun τ w y vs hs=>by
 match vs,hs with
 | [],_=>exact ⟨[],rfl,tv⟩
theorem CFs.setAt {w w' y y'} {τ:Tau} (hev:Ev w y w' y') {v:Value} {p:PV} : ∀ {cs:List CF} {vs:List Value} (k:Nat),Zl1 cs=true→cs[k]? = some (.pv (.is v))→(v.oneCell' = true→p.p v w' y')→CFs τ w y cs vs→CFs τ w' y' (cs.set k (.pv p)) vs
 | [],_,_,_,h,_,_=>by simp at h
 | c :: cs,[],_,_,_,_,k=>k.elim
 | .same _ :: cs,_ :: _,_,h,_,_,_=>by cases h
 | .fn _ _ :: cs,_ :: _,_,h,_,_,_=>by cases h
 | .pv q :: cs,u :: us,0,h0,h,hp,k=>by
  simp at h
  subst h
  refine ⟨⟨k.1.1,?_⟩,CFs.ofUn (by exact h0) (PVs.mono hev (PVs.unCF (by exact h0) k.2))⟩
  have e:u=v:=k.1.2.1
  show p.p u w' y'
  have h1:=k.1.2.2
  rw [e] at h1 ⊢
  exact hp h1
 | .pv q :: cs,u :: us,i+1,h0,h,hp,k=>⟨⟨k.1.1,q.mono hev k.1.2⟩,CFs.setAt hev i (by exact h0) Xz hp k.2⟩
section
variable {B:ZaK} {E:En} {a:Act} {w:World} {F:Fp}
theorem Sat.giveCell {α:Type} {T sz:Nat} {R:α→List PV} {l:List α} {v:Value} {an:Anc} {T':TypeId} {cells:List CF} (h:Sat B E a w F) (n m k:Nat) (hn:look E.r n=some (.ob (.val v) (ZC T sz R l))) (hm:look E.r m=some (.pt an T' cells)) (hk:cells[k]? = some (.pv (.is v))) (ho:Zl1 cells=true) (hne:Nat.beq n m=false) :
  ∃ F',Sat B ⟨E.s,(m,.pt an T' (cells.set k (.pv (.sl R l)))) :: (n,RS.hp (HP.star [])) :: E.r⟩ a w F':=by
 have hle:=Zj1 F n
 have hev:=Ev.less w hle
 have hne':n≠m:=by intro e;subst e;simp at hne
 refine ⟨drop F n,⟨fun j i b hj hi=>?_,fun j b hj=>?_⟩,h.ev.trans hev,h.n,h.df,fun j s hj=>SF.mono hev (fun _ _=>rfl) (h.s j s hj),fun j r hj=>?_,fun j b hj=>?_⟩
 ·unfold drop at hj hi
  by_cases e1:j=n
  ·simp only [e1,Yv] at hj
  ·by_cases e2:i=n
   ·simp only [e2,Yv] at hi
   ·simp only [e1,e2,Ym] at hj hi;exact h.wf.dis j i b hj hi
 ·obtain ⟨j',hj'⟩:=hle b ⟨j,hj⟩
  exact h.wf.bd j' b hj'
 ·rw [Zf] at hj
  split at hj
  ·rename_i e
   subst e
   simp only [Y7] at hj;subst hj
   obtain ⟨xs,h2,h3,h4⟩:=h.r n _ hn
   obtain ⟨b,us,e1,h5,h6,h7⟩:=h.r m _ hm
   have hF:drop F n m=F m:=by unfold drop;rw [Yb (Ne.symm hne')]
   rw [hF]
   refine ⟨b,us,e1,h5,h6,CFs.setAt hev k ho hk (fun _=>?_) h7⟩
   simp only [Anc.v] at h2 h4
   obtain ⟨ad,cap,e8,h8,h9,h10⟩:=ZM h2
   refine ⟨ad,cap,e8,h8,h9,?_⟩
   rcases h10 with h10 | ⟨b',rfl,h11,h12⟩
   ·exact .inl (Y6 h10)
   ·have hb:F n b':=(h4 b').2 h11
    refine .inr ⟨b',0,xs,rfl,?_,h.wf.bd n b' hb,h12,PVs.mono hev h3⟩
    rintro ⟨j,hj⟩
    unfold drop at hj
    by_cases e2:j=n
    ·simp only [e2,Yv] at hj
    ·simp only [e2,Ym] at hj
     exact e2 (h.wf.dis j n b' hj hb)
  ·rw [Zf] at hj
   split at hj
   ·rename_i e2 e
    simp only [Y7] at hj;subst hj;subst e
    intro b hb
    unfold drop at hb
    simp only [Yv] at hb
   ·rename_i e2 e
    have e3:drop F n j=F j:=by unfold drop;rw [Yb (fun h=>e h.symm)]
    rw [e3]
    exact RS.mono hev (fun _ _=>rfl) (fun _ _=>rfl) (h.r j r hj)
 ·unfold drop at hj
  by_cases e1:j=n
  ·simp only [e1,Yv] at hj
  ·simp only [e1,Ym] at hj
   by_cases e2:m=j
   ·exact ⟨_,by rw [Zf,Ye e2]⟩
   ·obtain ⟨r,hr⟩:=h.em j b hj
    exact ⟨r,by rw [Zf,Yb e2,Zf,Yb (fun h=>e1 h.symm)];exact hr⟩
end
section
variable {P:Program} {d:Option Nat} {ty:TypeId} {pos:String} {af:Array Edge} {g:Option (Nat×Bool)} {ps:List (Nat×SF)}
end
section
variable {P:Program} {t ty:TypeId} {pos:String} {af:Array Edge} {g:Option (Nat×Bool)} {x y:Operand} {ps qs:List (Nat×SF)} {α:Type} {R:α→List PV} {l:List α}
theorem Zd5 {T sz i:Nat} {a:Anc} {v:α} {p:PV} (n:Nat) (hx:Opd x ps (.adr a (i*sz))) (hR:∀ x,(R x).length=sz) (hi:i<l.length) (hy:Opd y qs (.pv p)) (hv:R v = [p]) (h1':∀ v w yy,p.p v w yy→v.oneCell' = true) (hs:(P.info? t).map (·.size)=some sz) :
  OpC P ⟨none,.store t x y,ty,pos,af,g⟩ ⟨ps++qs,[(n,.ob a (ZC T sz R l))],.pv .any,[(n,.ob a (ZC T sz R (l.set i v)))]⟩:=fun act w F K Q hw hp hr ht=>by
 obtain ⟨xs,h1,h2,h3⟩:=hr (n,.ob a (ZC T sz R l)) XA
 have ex0:act.eval x=shift (i*sz) (a.v (Act.tau act)):=hx act w (U F) hp.left
 have hpv:=hy act w (U F) hp.right
 have ho:=h1' _ _ _ hpv
 obtain ⟨us,eu,hu⟩:∃ us:List Value,(act.eval y).cells=us.toArray∧PVs (R v) us w (U F):=by
  refine ⟨[act.eval y],?_,by rw [hv];exact ⟨⟨ho,hpv⟩,tv⟩⟩
  cases e:act.eval y <;> rw [e] at ho <;> first | rfl | simp [Value.oneCell'] at ho
 have hul:us.length=sz:=by rw [← hu.len,hR]
 have hxl:=h1.1
 rcases h1.2 with ⟨_,h0⟩ | ⟨b,cap,cur,ev,_,hg,hnc,hcm,hcs,htake⟩
 ·omega
 ·have ex:act.eval x = .pointer (some ⟨b,i*sz,none⟩):=by rw [ex0,ev];simp [shift]
  have hfit:i*sz+sz≤l.length*sz:=K9
  have hfit2:l.length*sz≤cur.size:=WZ
  have hst:=Yab P b (i*sz) T us 0 cur w hg ow hu.one
  have hrun:(execOp act.eval ⟨none,.store t x y,ty,pos,af,g⟩).run P w = .ok .skip (w.setRow b (cur.toList.take (i*sz)++us++cur.toList.drop (i*sz+us.length)).toArray):=by
   simp [execOp,ex,Instr.storeAt,Instr.sureAddr,storeVar,run_sizeOf hs,eu,hul,hst]
  have hf:∀ z,F n z ↔ z=b:=fun z=>by rw [h3 z,ev];simp [Value.ownBlock,Yak]
  obtain ⟨g1,g2⟩:=ZaD hw hg hf (cur.toList.take (i*sz)++us++cur.toList.drop (i*sz+us.length)).toArray
  simp only [Oper.wp,hrun,Oper.upon]
  refine ht undef _ F g1 g2 trivial ?_
  intro z hz
  simp only [Yn] at hz
  subst hz
  have eτ:upd (Act.tau act) none undef=Act.tau act:=by funext i;simp [upd]
  show RS.holds (upd (Act.tau act) none undef) _ _ _ _
  rw [eτ]
  refine ⟨xs.take (i*sz)++us++xs.drop (i*sz+sz),⟨?_,.inr ⟨b,cap,_,by rw [YT];exact ev,Yp _,Ybb w b cur _ T (0,0) hg,by rw [YT];exact hnc,hcm,?_,?_⟩⟩,PVs.setR hR (PVs.mono g2.ev hu) i hi (PVs.mono g2.ev h2),h3⟩
  ·rw [YT,Yd,Yd,Yj,Yu,hxl,hul];omega
  ·have:cur.toList.length=cur.size:=by simp
   simp only [Yam,Yd,Yj,Yu,this,hul]
   omega
  ·rw [YT]
   have:=ZgJ (cur:=cur.toList) (us:=us) (k:=i*sz) (sz:=sz) (N:=l.length*sz) hfit hul (by simpa using hfit2)
   rw [htake] at this
   simpa using this
end
end Go.Gm
namespace Go.Gm
set_option linter.unusedVariables false
set_option linter.unusedSimpArgs false
section
variable {P:Program} {d:Option Nat} {t ty:TypeId} {pos:String} {af:Array Edge} {g:Option (Nat×Bool)} {x y:Operand} {ps qs:List (Nat×SF)}
theorem Zer {len e sz:Nat} {pl:List (Nat×Nat)} {zs:List Value} {r:List (Nat×Operand)} {cs':List CF} (hu:P.underlying t=some (.array len e)) (hs:(P.info? e).map (·.size)=some sz) (hz:P.zeros t=some zs) (hpl:((List.range len).map fun i=>(i*sz,sz))=pl) (hparts:ZdH P pl r ps (zs.map zCF) cs') (hd:ZaL d (.agg cs')=true) :
  OpC P ⟨d,.build t r.toArray,ty,pos,af,g⟩ ⟨ps,[],.agg cs',[]⟩:=
 OpC.pure fun a w yy hp=>by
  obtain ⟨z,h1,h2,h3⟩:=ZbK hz
  obtain ⟨us,h4,h5⟩:=ZgE (place:=fun i=>some (i*sz,sz)) (fun i q h=>by
   rw [← hpl] at h
   obtain ⟨j,hj,rfl⟩:=YI.1 (Ya9 h)
   rw [List.getElem?_map] at h
   obtain ⟨k,hk,e⟩:=Yac.1 h
   have hk':=YB.1 hk
   obtain ⟨hk1,hk2⟩:=hk'
   rw [List.getElem_range] at hk2
   subst hk2
   rw [← e]) hparts hp zs.toArray (by simpa using ZoS h2)
  refine ⟨.agg us,?_,fun τ' ht=>Z8 hd ht ⟨us.toList,by simp,h5⟩⟩
  have e:(r.toArray.map fun (x:Nat×Operand)=>(x.1,a.eval x.2))=(r.map fun x=>(x.1,a.eval x.2)).toArray:=XA
  have h4':Instr.fill (fun i=>some (i*sz,sz)) zs.toArray (r.map fun x=>(x.1,a.eval x.2))=some us:=h4
  simp only [execOp,Instr.build,e,YD,h3,Yq,h1,Yk hu,run_sizeOf hs,h4',YN]
theorem Zdq {α:Type} {R:α→List PV} {T sz:Nat} {l l':List α} {v:Value} {f:FuncId} {args:Array Operand} {tys:Array TypeId} {d':Nat} {avs:List PV} {q:PV} {fn:Func} (n:Nat)
    (hc : FnG P f 1 avs [ZC T sz R l v] q (fun _ => [ZC T sz R l' v])) (hf : P.funcs[f]? = some fn) (hb : fn.body.isSome = true) (hn : (fn.name == "runtime.NumGoroutine") = false)
    (ha:∀ (a:Act) w y,Hps ps (Act.tau a) w y → ∃ vs:List Value,args.map a.eval=vs.toArray∧PVt avs vs w y) :
    OpC P ⟨some d',.call { callee:=.value (.func f),args:=args,argTypes:=tys },ty,pos,af,g⟩ ⟨ps,[(n,.ob (.val v) (ZC T sz R l))],.pv q,[(n,.ob (.val v) (ZC T sz R l'))]⟩:=
  OpC.res (o_callG1 n hc hf hb hn ha) (fun τ w fb y h=>h) rfl (fun τ w F h=>by
    intro z hz
    simp only [Yn] at hz
    subst hz
    exact h (n,RS.hp (ZC T sz R l' v)) XA)
theorem ZaO {α:Type} {R:α→List PV} {T sz:Nat} {l:List α} {v:Value} {f:FuncId} {args:Array Operand} {tys:Array TypeId} {d':Nat} {avs:List PV} {h':Value→HP} {q:PV} {fn:Func} (n:Nat)
    (hc : FnG P f 1 avs [ZC T sz R l v] q (fun u => [h' u])) (hf : P.funcs[f]? = some fn) (hb : fn.body.isSome = true) (hn : (fn.name == "runtime.NumGoroutine") = false)
    (ha:∀ (a:Act) w y,Hps ps (Act.tau a) w y → ∃ vs:List Value,args.map a.eval=vs.toArray∧PVt avs vs w y) (h1:∀ v w y,q.p v w y→v.oneCell' = true) :
    OpC P ⟨some d',.call { callee:=.value (.func f),args:=args,argTypes:=tys },ty,pos,af,g⟩ ⟨ps,[(n,.ob (.val v) (ZC T sz R l))],.same d',[(n,RS.ob (.slot d') h')]⟩:=
  OpC.res (Zb3 (prs:=[(n,RS.hp (ZC T sz R l v))]) (is:=[n]) hc hf hb hn ha rfl XA (fun τ w F hr i x hi=>by
      match i,hi with
      | 0,hi=>simp at hi;subst hi;exact ⟨n,rfl,hr (n,RS.hp (ZC T sz R l v)) XA⟩)
    (fun _ _ _ _ h=>⟨by simp [upd],h1 _ _ _ h⟩) (fun x hx=>by
      simp only [Yn] at hx
      subst hx
      exact ⟨0,rfl,fun v τ w f y ⟨k,hk,hp⟩=>by
        simp at hk;subst hk
        simpa [RS.holds,Anc.v,upd] using hp⟩) rfl (fun _=>rfl)) (fun τ w fb y h=>h) rfl (fun _ _ _ h=>h)
theorem Args.four {x1 x2 x3 x4:Operand} {ps1 ps2 ps3 ps4:List (Nat×SF)} {p1 p2 p3 p4:PV} (h1:Opd x1 ps1 (.pv p1)) (h2:Opd x2 ps2 (.pv p2)) (h3:Opd x3 ps3 (.pv p3)) (h4:Opd x4 ps4 (.pv p4)) :
  ∀ (a:Act) w y,Hps (ps1++(ps2++(ps3++ps4))) (Act.tau a) w y → ∃ vs:List Value,(#[x1,x2,x3,x4]:Array Operand).map a.eval=vs.toArray∧PVt [p1,p2,p3,p4] vs w y:=
 fun a w y hp=>⟨[a.eval x1,a.eval x2,a.eval x3,a.eval x4],by simp,h1 a w y hp.left,h2 a w y hp.right.left,h3 a w y hp.right.right.left,h4 a w y hp.right.right.right,tv⟩
theorem Args.five {x1 x2 x3 x4 x5:Operand} {ps1 ps2 ps3 ps4 ps5:List (Nat×SF)} {p1 p2 p3 p4 p5:PV} (h1:Opd x1 ps1 (.pv p1)) (h2:Opd x2 ps2 (.pv p2)) (h3:Opd x3 ps3 (.pv p3)) (h4:Opd x4 ps4 (.pv p4)) (h5:Opd x5 ps5 (.pv p5)) :
  ∀ (a:Act) w y,Hps (ps1++(ps2++(ps3++(ps4++ps5)))) (Act.tau a) w y → ∃ vs:List Value,(#[x1,x2,x3,x4,x5]:Array Operand).map a.eval=vs.toArray∧PVt [p1,p2,p3,p4,p5] vs w y:=
 fun a w y hp=>⟨[a.eval x1,a.eval x2,a.eval x3,a.eval x4,a.eval x5],by simp,h1 a w y hp.left,h2 a w y hp.right.left,h3 a w y hp.right.right.left,h4 a w y hp.right.right.right.left,h5 a w y hp.right.right.right.right,tv⟩
theorem Ent.any {p:PV} : Ent (.pv p) (.pv .any):=fun _ _ _ _ _=>trivial
def ZkT (sz k:Nat):Value→Value
 | .slice (some a) n c=>.slice (some ⟨a.block,a.off+k*sz,none⟩) (n - k) (c - k)
 | v=>v
theorem Zat {α:Type} {R:α→List PV} {l:List α} {e sz:Nat} {k:IntKind} {j:Int} {v:Value} (n:Nat) (he:ZaM P t e sz) (hx:Zal x ps (.val v)) (hy:Opd y qs (.pv (.int k j))) (h0:0≤j) (h1:j<l.length) :
  OpC P ⟨d,.slice t x (some y) none none,ty,pos,af,g⟩ ⟨ps++qs,[(n,.ob (.val v) (ZC e sz R l))],.pv (.is (ZkT sz j.toNat v)),[]⟩:=
 OpC.read fun act w F hp hr=>by
  obtain ⟨xs,h2,h3,h4⟩:=hr (n,.ob (.val v) (ZC e sz R l)) XA
  obtain ⟨ad,cap,e1,h5,h6,h7⟩:=ZM h2
  simp only [Anc.v] at e1
  have e2:=(hy act w _ hp.right).1
  have e3:act.eval x = .slice ad l.length cap:=WJ
  rcases h7 with h7 | ⟨b,rfl,_,_⟩
  ·omega
  ·subst e1
   have hh:(Instr.sliceBounds true l.length cap (some (.int k j)) none none).run P w = .ok (j.toNat,l.length,cap) w:=by
    have:j≤l.length:=ow
    simp [Instr.sliceBounds,Instr.sliceBound,asIntOf,h0,this]
   refine ⟨.slice (some ⟨b,0+j.toNat*sz,none⟩) (l.length - j.toNat) (cap - j.toNat),?_,fun τ _=>⟨rfl,rfl⟩⟩
   have hne:¬ cap - j.toNat=0:=ow
   have hne2:¬ cap=j.toNat:=ow
   have had:(if j.toNat*sz=0 then (⟨b,0,none⟩:Addr) else ⟨b,0+j.toNat*sz,none⟩) = ⟨b,0+j.toNat*sz,none⟩:=by
    split
    ·rename_i h;rw [h]
    ·rfl
   simp only [execOp,e3,e2,Yar,Yai,Instr.sliceAt,YD,Yk he.1,Yq,Instr.slice,hh,run_sizeOf he.2,YN,Yb hne,Addr.add]
   simp [hne2,had]
   try exact fun h=>h.symm
theorem ZlA {α:Type} {R:α→List PV} {l:List α} {e sz k:Nat} {v:Value} (n:Nat) (hu:P.underlying t=some (.slice e)) (hx:Opd x ps (.pv (.is (ZkT sz k v)))) (hk:k<l.length) :
  OpC P ⟨d,.call { callee:=.builtin .len,args:=#[x],argTypes:=#[t] },ty,pos,af,g⟩ ⟨ps,[(n,.ob (.val v) (ZC e sz R l))],.pv (.int .i64 ((l.length - k:Nat):Int)),[]⟩:=
 OpC.read fun act w F hp hr=>by
  obtain ⟨xs,h2,h3,h4⟩:=hr (n,.ob (.val v) (ZC e sz R l)) XA
  obtain ⟨ad,cap,e1,h5,h6,h7⟩:=ZM h2
  simp only [Anc.v] at e1
  rcases h7 with h7 | ⟨b,rfl,_,_⟩
  ·omega
  ·subst e1
   have e3:act.eval x = .slice (some ⟨b,0+k*sz,none⟩) (l.length - k) (cap - k):=(hx act w _ hp).1
   refine ⟨.int .i64 ((l.length - k:Nat):Int),?_,fun τ _=>⟨rfl,?_⟩⟩
   ·simp [execOp,resolve,invoke,builtin,e3,run_len_slice w t ty (some ⟨b,k*sz,none⟩) (l.length - k) (cap - k) (Zgb hu),goInt]
   ·unfold maxLen at h6
    simp [inR,IntKind.min,IntKind.max,IntKind.signed,IntKind.bits];omega
theorem ZcO {α:Type} {R:α→List PV} {l:List α} {e sz k:Nat} {v:Value} {z:α} {zs:List Value} (n:Nat) (hu:P.underlying t=some (.slice e)) (hzs:P.zeros e=some zs) (hzl:zs.length=sz) (h0:Nat.blt 0 sz=true) (hzp:∀ w yy,PVs (R z) zs w yy) (hR:∀ x,(R x).length=sz) (hx:Opd x ps (.pv (.is (ZkT sz k v)))) (hk:k<l.length) :
  OpC P ⟨none,.call { callee:=.builtin .clear,args:=#[x],argTypes:=#[t] },ty,pos,af,g⟩ ⟨ps,[(n,.ob (.val v) (ZC e sz R l))],.pv .any,[(n,.ob (.val v) (ZC e sz R (l.take k++List.replicate (l.length - k) z)))]⟩:=fun act w F K Q hw hp hr ht=>by
 obtain ⟨xs,h1,h2,h3⟩:=hr (n,.ob (.val v) (ZC e sz R l)) XA
 obtain ⟨zv,z1,z2,z3⟩:=ZbK hzs
 simp only [Anc.v] at h1 h3
 have hxl:=h1.1
 rcases h1.2 with ⟨_,hn0⟩ | ⟨b,cap,cur,ev,_,hg,hnc,hcm,hcs,htake⟩
 ·omega
 ·have ex:act.eval x = .slice (some ⟨b,0+k*sz,none⟩) (l.length - k) (cap - k):=by rw [(hx act w (U F) hp).1,ev];rfl
  obtain ⟨m,hm⟩:∃ m,l.length - k=m+1:=⟨l.length - k - 1,ow⟩
  have hmade:(Builtin.zeroCells zv.cells (l.length - k)).toList=(madeCells zs.toArray ((l.length - k)*sz)).toList:=by
   rw [z1];unfold Builtin.zeroCells madeCells;rw [Yam,hzl]
  have hmp:∀ w' yy,PVs ((List.replicate (l.length - k) z).flatMap R) (madeCells zs.toArray ((l.length - k)*sz)).toList w' yy:=fun w' yy=>Zes hzl (by simpa [Yav] using h0) (hzp w' yy) _
  have hml:(madeCells zs.toArray ((l.length - k)*sz)).toList.length=(l.length - k)*sz:=by simp [size_madeCells]
  have hfit:k*sz+(l.length - k)*sz=l.length*sz:=by rw [← Ya0];congr 1;omega
  have hfit2:l.length*sz≤cur.size:=WZ
  have hst:=Yab P b (k*sz) e (madeCells zs.toArray ((l.length - k)*sz)).toList 0 cur w hg (by rw [hml];omega) (hmp w (U F)).one
  have hrun:(execOp act.eval ⟨none,.call { callee:=.builtin .clear,args:=#[x],argTypes:=#[t] },ty,pos,af,g⟩).run P w = .ok (.value (.tuple #[])) (w.setRow b (cur.toList.take (k*sz)++(madeCells zs.toArray ((l.length - k)*sz)).toList++cur.toList.drop (k*sz+(madeCells zs.toArray ((l.length - k)*sz)).toList.length)).toArray):=by
   rw [YaX] at hst
   simp only [Y2] at ex
   have hcl:(Builtin.clear_ #[t] ty #[.slice (some ⟨b,k*sz,none⟩) (l.length - k) (cap - k)]).run P w = .ok (.tuple #[]) (w.setRow b (cur.toList.take (k*sz)++(madeCells zs.toArray ((l.length - k)*sz)).toList++cur.toList.drop (k*sz+(madeCells zs.toArray ((l.length - k)*sz)).toList.length)).toArray):=by
    rw [← hmade] at hst ⊢
    rw [hm] at hst ⊢
    simp [Builtin.clear_,Yk hu,z3]
    simp at hst
    rw [hst]
    rfl
   simp only [execOp,resolve,invoke,builtin,ex]
   simp [hcl,resolve,invoke,builtin,ex]
  have hf:∀ z,F n z ↔ z=b:=fun z=>by rw [h3 z,ev];simp [Value.ownBlock,Yak]
  obtain ⟨g1,g2⟩:=ZaD hw hg hf (cur.toList.take (k*sz)++(madeCells zs.toArray ((l.length - k)*sz)).toList++cur.toList.drop (k*sz+(madeCells zs.toArray ((l.length - k)*sz)).toList.length)).toArray
  simp only [Oper.wp,hrun,Oper.upon]
  refine ht _ _ F g1 g2 trivial ?_
  intro z' hz'
  simp only [Yn] at hz'
  subst hz'
  have hll:(l.take k++List.replicate (l.length - k) z).length=l.length:=XG
  refine ⟨xs.take (k*sz)++(madeCells zs.toArray ((l.length - k)*sz)).toList,⟨?_,.inr ⟨b,cap,_,by rw [hll];exact ev,Yp _,Ybb w b cur _ e (0,0) hg,by rw [hll];exact hnc,hcm,?_,?_⟩⟩,?_,h3⟩
  ·rw [hll,Yd,Yj,hml,hxl];omega
  ·have:cur.toList.length=cur.size:=by simp
   simp only [Yam,Yd,Yj,Yu,this,hml]
   omega
  ·rw [hll]
   simp only []
   rw [YR (by simp only [Yd,Yj,hml];have:cur.toList.length=cur.size:=XA;omega)]
   rw [Y1 (by simp only [Yd,Yj,hml];omega),← htake,Yay,YaQ ow]
  ·rw [Yae]
   refine PVs.append ?_ (hmp _ _)
   rw [ZcT hR]
   exact PVs.take _ (PVs.mono g2.ev h2)
end
end Go.Gm
namespace Go.Gm
set_option linter.unusedVariables false
set_option linter.unusedSimpArgs false
section
variable {P:Program} {d:Option Nat} {t ty:TypeId} {pos:String} {af:Array Edge} {g:Option (Nat×Bool)} {x y:Operand} {ps qs:List (Nat×SF)} {α:Type} {R:α→List PV}
end
end Go.Gm
namespace Go.Gm
set_option linter.unusedVariables false
set_option linter.unusedSectionVars false
section
variable {P:Program} {d:Option Nat} {ty:TypeId} {pos:String} {af:Array Edge} {g:Option (Nat×Bool)} {x y:Operand} {ps qs:List (Nat×SF)} {t T:TypeId} {a:Anc} {k:Nat} {cells:List CF}
theorem oL (ag:Bool) (sz n:Nat) (hx:ZbH x ps a k) (ha:P.aggB t=some ag:=by kernel_rfl) (hs:(P.info? t).map (·.size)=some sz:=by kernel_rfl) (hk:Nat.ble (k+wid ag sz) cells.length=true:=by kernel_rfl) (hd:ZaL d (ldSF ag sz cells k)=true:=by rfl) :
 OpC P ⟨d,.load t x,ty,pos,af,g⟩ ⟨ps,[(n,.pt a T cells)],ldSF ag sz cells k,[]⟩:=ZfT n hx ha hs hk hd
theorem oR (ag:Bool) (sz:Nat) {l:List PV} (hx:Opd x ps (.pv (.ref l))) (ha:P.aggB t=some ag:=by kernel_rfl) (hs:(P.info? t).map (·.size)=some sz:=by kernel_rfl) (hk:Nat.ble (wid ag sz) l.length=true:=by kernel_rfl) :
 OpC P ⟨d,.load t x,ty,pos,af,g⟩ ⟨ps,[],ldSF ag sz (l.map CF.pv) 0,[]⟩:=ZfV hx ha hs hk
theorem oF (off n:Nat) {s:TypeId} {f:Nat} (hx:ZbH x ps a k) (ho:P.fieldOff s f=some off:=by kernel_rfl) (hd:ZaL d (.adr a (k+off))=true:=by rfl) :
 OpC P ⟨d,.fieldAddr s x f,ty,pos,af,g⟩ ⟨ps,[(n,.pt a T cells)],.adr a (k+off),[]⟩:=Zbf n hx ho hd
theorem oG (off:Nat) {s:TypeId} {f:Nat} {l:List PV} (hx:Opd x ps (.pv (.ref l))) (ho:P.fieldOff s f=some off:=by kernel_rfl) :
 OpC P ⟨d,.fieldAddr s x f,ty,pos,af,g⟩ ⟨ps,[],.pv (.ref (l.drop off)),[]⟩:=Ze5 hx ho
theorem oA (sz n:Nat) {new:List CF} (hx:ZbH x ps a k) (hy:Opd y qs (.agg new)) (hs:(P.info? t).map (·.size)=some sz:=by kernel_rfl) (hl:Nat.beq new.length sz=true:=by kernel_rfl) (hk:Nat.ble (k+sz) cells.length=true:=by kernel_rfl) :
 OpC P ⟨none,.store t x y,ty,pos,af,g⟩ ⟨ps++qs,[(n,.pt a T cells)],.pv .any,[(n,.pt a T (Zc cells k new))]⟩:=ZgA n hx hy hs hl hk
theorem oM {s:SF} (h:Opd x ps s) (hd:ZaL d s=true:=by rfl):OpC P ⟨d,.move x,ty,pos,af,g⟩ ⟨ps,[],s,[]⟩:=o_move h hd
theorem oN {s:SF} (h:Opd x ps s) (hd:ZaL d s=true:=by rfl):OpC P ⟨d,.assign x,ty,pos,af,g⟩ ⟨ps,[],s,[]⟩:=Zgf h hd
theorem oB (r:List (Nat×Operand)) (zs:List Value) (pl:List (Nat×Nat)) {cs':List CF} (hparts:ZdH P pl r ps (zs.map zCF) cs') (hz:P.zeros t=some zs:=by kernel_rfl) (hpl:P.places t=some pl:=by kernel_rfl) (hd:ZaL d (.agg cs')=true:=by rfl) :
 OpC P ⟨d,.build t r.toArray,ty,pos,af,g⟩ ⟨ps,[],.agg cs',[]⟩:=Zle hz hpl hparts hd
theorem oH {d':Nat} (zs:List Value) (n:Nat) (hz:P.zeros t=some zs:=by kernel_rfl) :
 OpC P ⟨some d',.alloc t,ty,pos,af,g⟩ ⟨[],[],.same d',[(n,.pt (.slot d') t (zs.map zCF))]⟩:=ZnM n hz
theorem oX {d':Nat} (n:Nat) (hx:Opd x ps (.agg cells)) (hd:(cdeps cells).contains d' = false:=by kernel_rfl) :
 OpC P ⟨some d',.box t x,ty,pos,af,g⟩ ⟨ps,[],.same d',[(n,.pt (.slot d') t cells)]⟩:=Znt n hx hd
theorem oP {f:FuncId} {args:Array Operand} {tys:Array TypeId} {avs:List PV} {q:PV} {fn:Func} (hc:FnP P f avs q) (hf:P.funcs[f]? = some fn)
    (ha : ∀ (a : Act) w y, Hps ps (Act.tau a) w y → ∃ vs : List Value, args.map a.eval = vs.toArray ∧ PVt avs vs w y) (hb : fn.body.isSome = true := by rfl) (hn : (fn.name == "runtime.NumGoroutine") = false := by kernel_rfl) :
    OpC P ⟨d,.call { callee:=.value (.func f),args:=args,argTypes:=tys },ty,pos,af,g⟩ ⟨ps,[],.pv q,[]⟩:=Zh8 hc hf hb hn ha
end
theorem ZiN {P:Program} {Q:Exit→Act→World→Prop} {B:ZaK} {id n:Nat} {l:List Oper} {cs:List CD} {E E':En} {a:Act} {w:World} {F:Fp} (G:Sat B E a w F) (hc:Chain P l.toArray E l cs E') (M:B.n=n)
  (hQ:∀ a w F,Sat B E' a w F→Q .normal a w) (hE:E.shutB=true:=by kernel_rfl) (ho:okSeq l cs [] = true:=by kernel_rfl) (hd:dstsIn n l=true:=by kernel_rfl):(Code.region id l.toArray false).wp P Q a w:=
 ZjX G hE hc ho (by rw [M];exact hd) hQ
theorem qz:True:=trivial
section
variable {P:Program} {ops:Array Oper} {E E':En} {d:Option Nat} {op:Op} {ty:TypeId} {pos:String} {af:Array Edge} {l:List Oper} {cs:List CD}
theorem qi {k:IntKind} {n:Int} (h:(decide (k.min≤n) && decide (n≤k.max))=true:=by kernel_rfl):Opd (.const (.int k n)) [] (.pv (.int k n)):=.ci h
theorem qf {c:CD} (h:OpC P ⟨d,op,ty,pos,af,none⟩ c) (hs:Z1 E.s c.ps) (hr:Z1 E.r c.pr) (t:Chain P ops (E.step ⟨d,op,ty,pos,af,none⟩ c) l cs E'):Chain P ops E (⟨d,op,ty,pos,af,none⟩ :: l) (c :: cs) E':=cF rfl h hs hr t
theorem qM {i:Nat} {s:SF} (hl:look E.s i=some s) (hd:ZaL d s=true) (t:Chain P ops (E.step ⟨d,.move (.tmp i),ty,pos,af,none⟩ ⟨[(i,s)],[],s,[]⟩) l cs E'):Chain P ops E (⟨d,.move (.tmp i),ty,pos,af,none⟩ :: l) (⟨[(i,s)],[],s,[]⟩ :: cs) E':=cF rfl (o_move .t hd) ⟨hl,tv⟩ trivial t
theorem qR {i:Nat} {s:SF} (h:look E.s i=some s∧ZaL d s=true) (t:Chain P ops (E.step ⟨d,.move (.tmp i),ty,pos,af,none⟩ ⟨[(i,s)],[],s,[]⟩) l cs E'):Chain P ops E (⟨d,.move (.tmp i),ty,pos,af,none⟩ :: l) (⟨[(i,s)],[],s,[]⟩ :: cs) E':=qM h.1 h.2 t
theorem qN {i:Nat} {s:SF} (hl:look E.s i=some s) (hd:ZaL d s=true) (t:Chain P ops (E.step ⟨d,.assign (.tmp i),ty,pos,af,none⟩ ⟨[(i,s)],[],s,[]⟩) l cs E'):Chain P ops E (⟨d,.assign (.tmp i),ty,pos,af,none⟩ :: l) (⟨[(i,s)],[],s,[]⟩ :: cs) E':=cF rfl (Zgf .t hd) ⟨hl,tv⟩ trivial t
theorem qO {i:Nat} {s:SF} (h:look E.s i=some s∧ZaL d s=true) (t:Chain P ops (E.step ⟨d,.assign (.tmp i),ty,pos,af,none⟩ ⟨[(i,s)],[],s,[]⟩) l cs E'):Chain P ops E (⟨d,.assign (.tmp i),ty,pos,af,none⟩ :: l) (⟨[(i,s)],[],s,[]⟩ :: cs) E':=qN h.1 h.2 t
theorem qk {j sj:Nat} {want β:Bool} {ps:List (Nat×SF)} {pr:List (Nat×RS)} {q:SF} (hj:(ops[j]?).bind (·.dst)=some sj) (h:β=want→OpC P ⟨d,op,ty,pos,af,some (j,want)⟩ ⟨ps,pr,q,[]⟩) (hs:Z1 E.s ((sj,.pv (.bool β)) :: ps)) (hr:Z1 E.r pr)
 (t:Chain P ops (E.step ⟨d,op,ty,pos,af,some (j,want)⟩ ⟨(sj,.pv (.bool β)) :: ps,pr,.when (β=want) q,[]⟩) l cs E'):Chain P ops E (⟨d,op,ty,pos,af,some (j,want)⟩ :: l) (⟨(sj,.pv (.bool β)) :: ps,pr,.when (β=want) q,[]⟩ :: cs) E':=.cons (.cond rfl hj h) hs hr t
theorem qm {j sj i:Nat} {want β:Bool} {s:SF} (hj:(ops[j]?).bind (·.dst)=some sj) (hb:look E.s sj=some (.pv (.bool β))) (hl:look E.s i=some s) (hd:ZaL d s=true)
 (t:Chain P ops (E.step ⟨d,.move (.tmp i),ty,pos,af,some (j,want)⟩ ⟨[(sj,.pv (.bool β)),(i,s)],[],.when (β=want) s,[]⟩) l cs E'):Chain P ops E (⟨d,.move (.tmp i),ty,pos,af,some (j,want)⟩ :: l) (⟨[(sj,.pv (.bool β)),(i,s)],[],.when (β=want) s,[]⟩ :: cs) E':=.cons (.cond rfl hj fun _=>o_move .t hd) ⟨hb,hl,tv⟩ trivial t
theorem qZ:Chain P ops E [] [] E:=.nil
variable {i j n:Nat} {k:IntKind} {s:SF} {t T:TypeId} {a:Anc} {o:Nat} {cells:List CF} {c:CD}
theorem qB {b:Bool} : Chain P ops E [⟨d,.assign (.const (.bool b)),ty,pos,af,none⟩] [⟨[],[],.pv (.bool b),[]⟩] (E.step ⟨d,.assign (.const (.bool b)),ty,pos,af,none⟩ ⟨[],[],.pv (.bool b),[]⟩):=qf (oN .cb (by cases d <;> rfl)) trivial trivial qZ
theorem qI {m:Int} (t:Chain P ops (E.step ⟨d,.assign (.const (.int k m)),ty,pos,af,none⟩ ⟨[],[],.pv (.int k m),[]⟩) l cs E') (h:(decide (k.min≤m) && decide (m≤k.max))=true:=by kernel_rfl):Chain P ops E (⟨d,.assign (.const (.int k m)),ty,pos,af,none⟩ :: l) (⟨[],[],.pv (.int k m),[]⟩ :: cs) E':=qf (oN (.ci h) (by cases d <;> rfl)) trivial trivial t
theorem qJ {m:Int} (t:Chain P ops (E.step ⟨d,.move (.const (.int k m)),ty,pos,af,none⟩ ⟨[],[],.pv (.int k m),[]⟩) l cs E') (h:(decide (k.min≤m) && decide (m≤k.max))=true:=by kernel_rfl):Chain P ops E (⟨d,.move (.const (.int k m)),ty,pos,af,none⟩ :: l) (⟨[],[],.pv (.int k m),[]⟩ :: cs) E':=qf (oM (.ci h) (by cases d <;> rfl)) trivial trivial t
theorem qC {v:Value} (t:Chain P ops (E.step ⟨d,.assign (.const v),ty,pos,af,none⟩ ⟨[],[],.pv (.is v),[]⟩) l cs E') (h:v.oneCell' = true:=by rfl):Chain P ops E (⟨d,.assign (.const v),ty,pos,af,none⟩ :: l) (⟨[],[],.pv (.is v),[]⟩ :: cs) E':=qf (oN (.c h) (by cases d <;> rfl)) trivial trivial t
theorem qL {x y:Int} (h:Z1 E.s [(i,.pv (.int k x)),(j,.pv (.int k y))]):Chain P ops E [⟨d,.binOp .lss T (.tmp i) (.tmp j) t,ty,pos,af,none⟩] [⟨[(i,.pv (.int k x)),(j,.pv (.int k y))],[],.pv (.bool (decide (x<y))),[]⟩] (E.step ⟨d,.binOp .lss T (.tmp i) (.tmp j) t,ty,pos,af,none⟩ ⟨[(i,.pv (.int k x)),(j,.pv (.int k y))],[],.pv (.bool (decide (x<y))),[]⟩):=qf (ZcQ .t .t) h trivial qZ
theorem qa (n:Nat) (h:Z1 E.s [(i,.adr a o)]) (hr:Z1 E.r [(n,.pt a T cells)]) (t':Chain P ops (E.step ⟨d,.load t (.tmp i),ty,pos,af,none⟩ ⟨[(i,.adr a o)],[(n,.pt a T cells)],ldSF false 1 cells o,[]⟩) l cs E') (ha:P.aggB t=some false:=by kernel_rfl) (hs:(P.info? t).map (·.size)=some 1:=by kernel_rfl) (hk:Nat.ble (o+wid false 1) cells.length=true:=by kernel_rfl) (hd:ZaL d (ldSF false 1 cells o)=true:=by rfl) :
 Chain P ops E (⟨d,.load t (.tmp i),ty,pos,af,none⟩ :: l) (⟨[(i,.adr a o)],[(n,.pt a T cells)],ldSF false 1 cells o,[]⟩ :: cs) E':=qf (ZfT n .adr ha hs hk hd) h hr t'
theorem qe (sz n:Nat) {v:Value} (h:Z1 E.s [(i,.pv (.is v))]) (hr:Z1 E.r [(n,.pt (.val v) T cells)]) (t':Chain P ops (E.step ⟨d,.load t (.tmp i),ty,pos,af,none⟩ ⟨[(i,.pv (.is v))],[(n,.pt (.val v) T cells)],ldSF true sz cells 0,[]⟩) l cs E') (ha:P.aggB t=some true:=by kernel_rfl) (hs:(P.info? t).map (·.size)=some sz:=by kernel_rfl) (hk:Nat.ble (0+wid true sz) cells.length=true:=by kernel_rfl) (hd:ZaL d (ldSF true sz cells 0)=true:=by rfl) :
 Chain P ops E (⟨d,.load t (.tmp i),ty,pos,af,none⟩ :: l) (⟨[(i,.pv (.is v))],[(n,.pt (.val v) T cells)],ldSF true sz cells 0,[]⟩ :: cs) E':=qf (ZfT n .is ha hs hk hd) h hr t'
theorem qg (off n:Nat) {v:Value} {f:Nat} (h:Z1 E.s [(i,.pv (.is v))]) (hr:Z1 E.r [(n,.pt (.val v) T cells)]) (t':Chain P ops (E.step ⟨d,.fieldAddr t (.tmp i) f,ty,pos,af,none⟩ ⟨[(i,.pv (.is v))],[(n,.pt (.val v) T cells)],.adr (.val v) (0+off),[]⟩) l cs E') (ho:P.fieldOff t f=some off:=by kernel_rfl) :
 Chain P ops E (⟨d,.fieldAddr t (.tmp i) f,ty,pos,af,none⟩ :: l) (⟨[(i,.pv (.is v))],[(n,.pt (.val v) T cells)],.adr (.val v) (0+off),[]⟩ :: cs) E':=qf (Zbf n .is ho (by cases d <;> rfl)) h hr t'
theorem qs (sz n:Nat) {v:Value} {new:List CF} (h:Z1 E.s [(i,.pv (.is v)),(j,.agg new)]) (hr:Z1 E.r [(n,.pt (.val v) T cells)]) (t':Chain P ops (E.step ⟨none,.store t (.tmp i) (.tmp j),ty,pos,af,none⟩ ⟨[(i,.pv (.is v)),(j,.agg new)],[(n,.pt (.val v) T cells)],.pv .any,[(n,.pt (.val v) T (Zc cells 0 new))]⟩) l cs E') (hs:(P.info? t).map (·.size)=some sz:=by kernel_rfl) (hl:Nat.beq new.length sz=true:=by kernel_rfl) (hk:Nat.ble (0+sz) cells.length=true:=by kernel_rfl) :
 Chain P ops E (⟨none,.store t (.tmp i) (.tmp j),ty,pos,af,none⟩ :: l) (⟨[(i,.pv (.is v)),(j,.agg new)],[(n,.pt (.val v) T cells)],.pv .any,[(n,.pt (.val v) T (Zc cells 0 new))]⟩ :: cs) E':=qf (ZgA n .is .t hs hl hk) h hr t'
theorem qS (sz n:Nat) {new:List CF} {e:Nat} (h:Z1 E.s [(i,.same e),(j,.agg new)]) (hr:Z1 E.r [(n,.pt (.slot e) T cells)]) (t':Chain P ops (E.step ⟨none,.store t (.tmp i) (.tmp j),ty,pos,af,none⟩ ⟨[(i,.same e),(j,.agg new)],[(n,.pt (.slot e) T cells)],.pv .any,[(n,.pt (.slot e) T (Zc cells 0 new))]⟩) l cs E') (hs:(P.info? t).map (·.size)=some sz:=by kernel_rfl) (hl:Nat.beq new.length sz=true:=by kernel_rfl) (hk:Nat.ble (0+sz) cells.length=true:=by kernel_rfl) :
 Chain P ops E (⟨none,.store t (.tmp i) (.tmp j),ty,pos,af,none⟩ :: l) (⟨[(i,.same e),(j,.agg new)],[(n,.pt (.slot e) T cells)],.pv .any,[(n,.pt (.slot e) T (Zc cells 0 new))]⟩ :: cs) E':=qf (ZgA n .same .t hs hl hk) h hr t'
theorem qu {α:Type} {R:α→List PV} {q:List α} {e:TypeId} (hu:P.underlying t=some (.slice e)) (h:Z1 E.s [(i,.pv (.sl R q))]) (t':Chain P ops (E.step ⟨d,.call { callee:=.builtin .len,args:=#[.tmp i],argTypes:=#[t] },ty,pos,af,none⟩ ⟨[(i,.pv (.sl R q))],[],.pv (.int .i64 (q.length:Int)),[]⟩) l cs E') :
 Chain P ops E (⟨d,.call { callee:=.builtin .len,args:=#[.tmp i],argTypes:=#[t] },ty,pos,af,none⟩ :: l) (⟨[(i,.pv (.sl R q))],[],.pv (.int .i64 (q.length:Int)),[]⟩ :: cs) E':=qf (ZbV hu .t) h trivial t'
theorem qp {x m:Int} (h:Z1 E.s [(i,.pv (.int k x))]) (t':Chain P ops (E.step ⟨d,.binOp .add T (.tmp i) (.const (.int k m)) t,ty,pos,af,none⟩ ⟨[(i,.pv (.int k x))],[],.pv (.int k (k.wrap (x+m))),[]⟩) l cs E') (hm:(decide (k.min≤m) && decide (m≤k.max))=true:=by kernel_rfl) :
 Chain P ops E (⟨d,.binOp .add T (.tmp i) (.const (.int k m)) t,ty,pos,af,none⟩ :: l) (⟨[(i,.pv (.int k x))],[],.pv (.int k (k.wrap (x+m))),[]⟩ :: cs) E':=qf (Zbb .t (.ci hm)) h trivial t'
theorem qx (n:Nat) {d:Nat} {q:List PV} (h:Z1 E.s [(i,.pv (.agg q))]) (t':Chain P ops (E.step ⟨some d,.box t (.tmp i),ty,pos,af,none⟩ ⟨[(i,.pv (.agg q))],[],.same d,[(n,.pt (.slot d) t (q.map CF.pv))]⟩) l cs E') (hd:(cdeps (q.map CF.pv)).contains d=false:=by kernel_rfl) :
 Chain P ops E (⟨some d,.box t (.tmp i),ty,pos,af,none⟩ :: l) (⟨[(i,.pv (.agg q))],[],.same d,[(n,.pt (.slot d) t (q.map CF.pv))]⟩ :: cs) E':=qf (Znt n (.conv .t .agg) hd) h trivial t'
theorem qy (sz:Nat) {α:Type} [Inhabited α] {R:α→List PV} {q:List α} {e:TypeId} {m:Int} (hu:P.underlying t=some (.slice e)) (h:Z1 E.s [(i,.pv (.sl R q)),(j,.pv (.int k m))]) (t':Chain P ops (E.step ⟨d,.indexAddr t (.tmp i) (.tmp j),ty,pos,af,none⟩ ⟨[(i,.pv (.sl R q)),(j,.pv (.int k m))],[],.pv (.ref (R (Nn q m.toNat))),[]⟩) l cs E') (h0:0≤m:=by omega) (h1:m<q.length:=by omega) (hs:(P.info? e).map (·.size)=some sz:=by kernel_rfl) (hR:∀ x,(R x).length=sz:=by intro x;rfl) :
 Chain P ops E (⟨d,.indexAddr t (.tmp i) (.tmp j),ty,pos,af,none⟩ :: l) (⟨[(i,.pv (.sl R q)),(j,.pv (.int k m))],[],.pv (.ref (R (Nn q m.toNat))),[]⟩ :: cs) E':=qf (ZP (.mk hu hs) hR .t .t h0 h1) h trivial t'
theorem qw (n:Nat) {sj:Nat} {want β:Bool} (hj:(ops[j]?).bind (·.dst)=some sj) (h:Z1 E.s [(sj,.pv (.bool β)),(i,.when (β=want) (.adr a o))]) (hr:Z1 E.r [(n,.pt a T cells)]) (t':Chain P ops (E.step ⟨d,.load t (.tmp i),ty,pos,af,some (j,want)⟩ ⟨[(sj,.pv (.bool β)),(i,.when (β=want) (.adr a o))],[(n,.pt a T cells)],.when (β=want) (ldSF false 1 cells o),[]⟩) l cs E') (ha:P.aggB t=some false:=by kernel_rfl) (hs:(P.info? t).map (·.size)=some 1:=by kernel_rfl) (hk:Nat.ble (o+wid false 1) cells.length=true:=by kernel_rfl) (hd:ZaL d (ldSF false 1 cells o)=true:=by rfl) :
 Chain P ops E (⟨d,.load t (.tmp i),ty,pos,af,some (j,want)⟩ :: l) (⟨[(sj,.pv (.bool β)),(i,.when (β=want) (.adr a o))],[(n,.pt a T cells)],.when (β=want) (ldSF false 1 cells o),[]⟩ :: cs) E':=qk hj (fun g=>ZfT n (.w g .adr) ha hs hk hd) h hr t'
theorem qv (off n:Nat) {sj:Nat} {want β:Bool} {v:Value} {f:Nat} (hj:(ops[j]?).bind (·.dst)=some sj) (h:Z1 E.s [(sj,.pv (.bool β)),(i,.pv (.is v))]) (hr:Z1 E.r [(n,.pt (.val v) T cells)]) (t':Chain P ops (E.step ⟨d,.fieldAddr t (.tmp i) f,ty,pos,af,some (j,want)⟩ ⟨[(sj,.pv (.bool β)),(i,.pv (.is v))],[(n,.pt (.val v) T cells)],.when (β=want) (.adr (.val v) (0+off)),[]⟩) l cs E') (ho:P.fieldOff t f=some off:=by kernel_rfl) :
 Chain P ops E (⟨d,.fieldAddr t (.tmp i) f,ty,pos,af,some (j,want)⟩ :: l) (⟨[(sj,.pv (.bool β)),(i,.pv (.is v))],[(n,.pt (.val v) T cells)],.when (β=want) (.adr (.val v) (0+off)),[]⟩ :: cs) E':=qk hj (fun _=>Zbf n .is ho (by cases d <;> rfl)) h hr t'
end
theorem Zi {P:Program} {Q:Exit→Act→World→Prop} {B:ZaK} {id n:Nat} {l:List Oper} {cs:List CD} {E E':En} {a:Act} {w:World} {F:Fp} (G:Sat B E a w F) (hc:Chain P l.toArray E l cs E') (M:B.n=n) (is ns:List Nat) {L:List (Nat×SF)} {R:List (Nat×RS)} (hL:Zbp E'.s is [] = some L) (hR:Zbp E'.r ns [] = some R)
  (hQ:∀ a w F,Sat B ⟨L,R⟩ a w F→Q .normal a w) (hE:E.shutB=true:=by kernel_rfl) (ho:okSeq l cs [] = true:=by kernel_rfl) (hd:dstsIn n l=true:=by kernel_rfl):(Code.region id l.toArray false).wp P Q a w:=
 ZiN G hc M (fun a w F h=>(h.nm is ns hL hR).elim fun F' h'=>hQ a w F' h') hE ho hd
theorem Zm0 {P:Program} {Q:Exit→Act→World→Prop} {B:ZaK} {id n:Nat} {l:List Oper} {cs:List CD} {E E':En} {a:Act} {w:World} {F:Fp} (G:Sat B E a w F) (hc:Chain P l.toArray E l cs E') (M:B.n=n) (is ns:List Nat) {L:Tau→List (Nat×SF)} {R:Tau→List (Nat×RS)} (hL:∀ τ,Zbp (E'.sub τ).s is [] = some (L τ)) (hR:∀ τ,Zbp (E'.sub τ).r ns [] = some (R τ))
  (hQ:∀ τ a w F,Sat B ⟨L τ,R τ⟩ a w F→Q .normal a w) (hE:E.shutB=true:=by kernel_rfl) (ho:okSeq l cs [] = true:=by kernel_rfl) (hd:dstsIn n l=true:=by kernel_rfl):(Code.region id l.toArray false).wp P Q a w:=
 ZiN G hc M (fun a w F h=>(h.sub.nm is ns (hL _) (hR _)).elim fun F' h'=>hQ _ a w F' h') hE ho hd
section
variable {P:Program} {E:En}
theorem ROk.cl (n:Nat) (ag:Bool) (sz:Nat) {t:Nat} {T T':TypeId} {v:Value} {cells:List CF} {rs:List ResultVar} {ss:List SF} (h:look E.s t=some (.pv (.is v))) (hr:look E.r n=some (.pt (.val v) T' cells)) (r:ROk P E rs ss) (ha:P.aggB T=some ag:=by kernel_rfl) (hs:(P.info? T).map (·.size)=some sz:=by kernel_rfl) (hk:Nat.ble (0+wid ag sz) cells.length=true:=by kernel_rfl):ROk P E (.cell t T :: rs) (ldSF ag sz cells 0 :: ss):=.cell h .is hr ha hs hk r
theorem Zr {B:ZaK} (hfr:B.fr=B.y) {a:Act} {w:World} {F:Fp} {fn:Func} {q:PV} {t:Nat} {s:SF} (G:Sat B E a w F) (h0:look E.r 0=some (frame B)) (hf:fn.results.toList = [.tmp t]) (h:look E.s t=some s) (hq:Ent s (.pv q)):bodyPost P fn (RP B q) .ret a w:=ZL hfr G h0 (hf ▸ .tmp h .nil) (.one hq)
end
theorem Ziw {P:Program} {Q:Exit→Act→World→Prop} {B:ZaK} {id n:Nat} {l:List Oper} {cs:List CD} {E E':En} {a:Act} {w:World} {F:Fp} (G:Sat B E a w F) (hc:Chain P l.toArray E l cs E') (M:B.n=n)
  (hQ:∀ a w F,Sat B E' a w F→Q .normal a w) (hm:P.follows .mixedOrders=true:=by kernel_rfl) (hE:E.shutB=true:=by kernel_rfl) (ho:drf l cs=true:=by kernel_rfl) (hd:dstsIn n l=true:=by kernel_rfl):(Code.region id l.toArray true).wp P Q a w:=
 ZjJ hm G hE hc ho (by rw [M];exact hd) hQ
theorem ZA {P:Program} {Q:Exit→Act→World→Prop} {B:ZaK} {id n:Nat} {l:List Oper} {cs:List CD} {E E':En} {a:Act} {w:World} {F:Fp} (G:Sat B E a w F) (hc:Chain P l.toArray E l cs E') (M:B.n=n) (is ns:List Nat) {L:List (Nat×SF)} {R:List (Nat×RS)} (hL:Zbp E'.s is [] = some L) (hR:Zbp E'.r ns [] = some R)
  (hQ:∀ a w F,Sat B ⟨L,R⟩ a w F→Q .normal a w) (hm:P.follows .mixedOrders=true:=by kernel_rfl) (hE:E.shutB=true:=by kernel_rfl) (ho:drf l cs=true:=by kernel_rfl) (hd:dstsIn n l=true:=by kernel_rfl):(Code.region id l.toArray true).wp P Q a w:=
 Ziw G hc M (fun a w F h=>(h.nm is ns hL hR).elim fun F' h'=>hQ a w F' h') hm hE ho hd
theorem ZmQ {P:Program} {Q:Exit→Act→World→Prop} {B:ZaK} {id n:Nat} {l:List Oper} {cs:List CD} {E E':En} {a:Act} {w:World} {F:Fp} (G:Sat B E a w F) (hc:Chain P l.toArray E l cs E') (M:B.n=n) (is ns:List Nat) {L:Tau→List (Nat×SF)} {R:Tau→List (Nat×RS)} (hL:∀ τ,Zbp (E'.sub τ).s is [] = some (L τ)) (hR:∀ τ,Zbp (E'.sub τ).r ns [] = some (R τ))
  (hQ:∀ τ a w F,Sat B ⟨L τ,R τ⟩ a w F→Q .normal a w) (hm:P.follows .mixedOrders=true:=by kernel_rfl) (hE:E.shutB=true:=by kernel_rfl) (ho:drf l cs=true:=by kernel_rfl) (hd:dstsIn n l=true:=by kernel_rfl):(Code.region id l.toArray true).wp P Q a w:=
 Ziw G hc M (fun a w F h=>(h.sub.nm is ns (hL _) (hR _)).elim fun F' h'=>hQ _ a w F' h') hm hE ho hd
theorem rZ {P:Program} {Q:Exit → Act → World → Prop} {K:Act → World → Prop} {B:ZaK} {id n:Nat} {l:List Oper} {cs:List CD} {E E':En} {a:Act} {w:World} {F:Fp} (G:Sat B E a w F) (hc:Chain P l.toArray E l cs E') (M:B.n=n) (is ns:List Nat) {L:List (Nat × SF)} {R:List (Nat × RS)} (hQ:∀ {a w F},Sat B ⟨L,R⟩ a w F → K a w) (hL:Zbp E'.s is []=some L:=by exact rfl) (hR:Zbp E'.r ns []=some R:=by exact rfl) (hE:E.shutB=true:=by kernel_rfl) (ho:okSeq l cs []=true:=by kernel_rfl) (hd:dstsIn n l=true:=by kernel_rfl):(Code.region id l.toArray false).wp P (Exit.then K Q) a w:=Zi G hc M is ns hL hR (fun a w F h=>hQ h) hE ho hd
theorem rS {P:Program} {Q:Exit → Act → World → Prop} {B:ZaK} {id n:Nat} {l:List Oper} {cs:List CD} {E E':En} {a:Act} {w:World} {F:Fp} (G:Sat B E a w F) (hc:Chain P l.toArray E l cs E') (M:B.n=n) (is ns:List Nat) {L:Tau → List (Nat × SF)} {R:Tau → List (Nat × RS)} (hQ:∀ {a w F} τ,Sat B ⟨L τ,R τ⟩ a w F → Q .normal a w) (hL:∀ τ,Zbp (E'.sub τ).s is []=some (L τ):=by exact fun _=>rfl) (hR:∀ τ,Zbp (E'.sub τ).r ns []=some (R τ):=by exact fun _=>rfl) (hE:E.shutB=true:=by kernel_rfl) (ho:okSeq l cs []=true:=by kernel_rfl) (hd:dstsIn n l=true:=by kernel_rfl):(Code.region id l.toArray false).wp P Q a w:=Zm0 G hc M is ns hL hR (fun τ a w F h=>hQ τ h) hE ho hd
theorem rT {P:Program} {Q:Exit → Act → World → Prop} {B:ZaK} {id n:Nat} {l:List Oper} {cs:List CD} {E E':En} {a:Act} {w:World} {F:Fp} (G:Sat B E a w F) (hc:Chain P l.toArray E l cs E') (M:B.n=n) (is ns:List Nat) {L:Tau → List (Nat × SF)} {R:Tau → List (Nat × RS)} (hQ:∀ {a w F} τ,Sat B ⟨L τ,R τ⟩ a w F → Q .normal a w) (hL:∀ τ,Zbp (E'.sub τ).s is []=some (L τ):=by exact fun _=>rfl) (hR:∀ τ,Zbp (E'.sub τ).r ns []=some (R τ):=by exact fun _=>rfl) (hm:P.follows .mixedOrders=true:=by kernel_rfl) (hE:E.shutB=true:=by kernel_rfl) (ho:drf l cs=true:=by kernel_rfl) (hd:dstsIn n l=true:=by kernel_rfl):(Code.region id l.toArray true).wp P Q a w:=ZmQ G hc M is ns hL hR (fun τ a w F h=>hQ τ h) hm hE ho hd
end Go.Gm
