/- Walks: loops,strings,arrays,builders,handing over,arguments. No condition. -/
import Derived.Test.YtolmpgbpdapaiaaGreatLibM
import Derived.Laws.Strings3
import Derived.Laws.Concat
import Derived.Laws.IdiomStrings
import Derived.Lib.Builder
import Derived.Lib.AppendStr
import Derived.Lib.UnsafeStr
import Derived.Laws.Externs
import Derived.ProofKit
import Derived.OpenShut
import Derived.WideKeyArgs
import Derived.Carry
import Derived.Deep.Slices
import Derived.Laws.MakeOwn
import Derived.Lib.SliceRun
namespace Go.Gm
set_option linter.unusedVariables false
set_option linter.unusedSimpArgs false
inductive Zm7:List Bool→List CF→List CF→Bool→Prop
 | nil:Zm7 [] [] [] true
 | int {k:IntKind} {a b:Int} {ks:List Bool} {cs ds:List CF} {r:Bool} (h:Zm7 ks cs ds r):Zm7 (true :: ks) (.pv (.int k a) :: cs) (.pv (.int k b) :: ds) (decide (a=b) && r)
 | bool {a b:Bool} {ks:List Bool} {cs ds:List CF} {r:Bool} (h:Zm7 ks cs ds r):Zm7 (false :: ks) (.pv (.bool a) :: cs) (.pv (.bool b) :: ds) ((a == b) && r)
def flatFs (P:Program):List Field→Nat→List Bool→Bool
  | [],_,[]=>true
  | f :: fs, k, b :: ks => (f.name != "_") && Nat.beq f.offset k && (match P.underlying f.type with | some (.int _) => b | some .bool => !b | _ => false) && flatFs P fs (k + 1) ks
  | _,_,_=>false
def _root_.Go.Program.flatS (P:Program) (t:TypeId) (ks:List Bool):Bool:=match P.underlying t with
 | some (.struct fs)=>flatFs P fs.toList 0 ks && !P.stoodInHeld t && !P.eqGuardType P.depth t
 | _=>false
theorem Zdp {P:Program} {w:World} {f:Field} {k:Nat} (hk:f.offset=k) (h3:P.aggB f.type=some false) {zs:Array Value} {v:Value} {vs:List Value} (hz:zs.toList.drop k=v :: vs):(part f.type zs f.offset).run P w = .ok v w:=by
 have hg:zs[k]? = some v:=by
  have:=Y8 List.head? hz
  simpa [List.head?_drop] using this
 simp [part,ZaS h3,hk,hg]
theorem ZcC {zs:Array Value} {k:Nat} {v:Value} {vs:List Value} (hz:zs.toList.drop k=v :: vs):zs.toList.drop (k+1)=vs:=by
 have:=Y8 List.tail hz
 simpa [List.tail_drop] using this
theorem ZcG {P:Program} {d:Nat} {w:World} {y:Ys} {τ:Tau} {xs ys:Array Value} : ∀ {fs:List Field} {k:Nat} {ks:List Bool} {cs ds:List CF} {r:Bool},flatFs P fs k ks=true→CFs τ w y cs (xs.toList.drop k)→CFs τ w y ds (ys.toList.drop k)→Zm7 ks cs ds r →
    (Op.eqFields (d+1) xs ys fs).run P w = .ok r w
  | [],k,[],cs,ds,r,_,_,_,he=>by
    cases he
    simp [Op.eqFields]
  | [],k,_ :: _,cs,ds,r,h,_,_,_=>by simp [flatFs] at h
  | _ :: _,k,[],cs,ds,r,h,_,_,_=>by simp [flatFs] at h
  | f :: fs,k,b :: ks,cs,ds,r,hf,hx,hy,he=>by
    simp only [flatFs,Yw] at hf
    obtain ⟨⟨⟨h1,h2⟩,h3⟩,h4⟩:=hf
    have hk:f.offset=k:=Y5 h2
    have hn : f.name ≠ "_" := by simpa using h1
    have hag:P.aggB f.type=some false:=by
      unfold Program.aggB
      cases hu:P.underlying f.type with
      | none=>rw [hu] at h3;cases h3
      | some u=>rw [hu] at h3;cases u <;> first | rfl | cases h3
    cases he with
    | @int kk a b ks cs ds r he=>
      cases ex:xs.toList.drop k with
      | nil=>rw [ex] at hx;exact hx.elim
      | cons u us=>
        cases ey:ys.toList.drop k with
        | nil=>rw [ey] at hy;exact hy.elim
        | cons v vs=>
          rw [ex] at hx
          rw [ey] at hy
          have e1:u = .int kk a:=hx.1.2.1
          have e2:v = .int kk b:=hy.1.2.1
          have ih:=ZcG (d:=d) (fs:=fs) (k:=k+1) h4 (by rw [ZcC ex];exact hx.2) (by rw [ZcC ey];exact hy.2) he
          have heq:(Op.equalIn (d+1) f.type u v).run P w = .ok (decide (a=b)) w:=by
            subst e1;subst e2
            cases hu:P.underlying f.type with
            | none=>rw [hu] at h3;cases h3
            | some t=>
              rw [hu] at h3
              cases t <;> first | cases h3 | skip
              rw [run_equalIn_int w d f.type kk _ a b hu,Zkj]
          simp only [Op.eqFields]
          rw [Ye hn]
          simp only [YD,Zdp hk hag ex,Zdp hk hag ey,Yv,heq]
          by_cases hab:a=b
          · simp [hab,ih]
          · simp [hab]
    | @bool a b ks cs ds r he=>
      cases ex:xs.toList.drop k with
      | nil=>rw [ex] at hx;exact hx.elim
      | cons u us=>
        cases ey:ys.toList.drop k with
        | nil=>rw [ey] at hy;exact hy.elim
        | cons v vs=>
          rw [ex] at hx
          rw [ey] at hy
          have e1:u = .bool a:=hx.1.2
          have e2:v = .bool b:=hy.1.2
          have ih:=ZcG (d:=d) (fs:=fs) (k:=k+1) h4 (by rw [ZcC ex];exact hx.2) (by rw [ZcC ey];exact hy.2) he
          have heq:(Op.equalIn (d+1) f.type u v).run P w = .ok (a == b) w:=by
            subst e1;subst e2
            cases hu:P.underlying f.type with
            | none=>rw [hu] at h3;cases h3
            | some t=>
              rw [hu] at h3
              cases t <;> first | cases h3 | skip
              rw [run_equalIn_bool' w d f.type a b hu]
          simp only [Op.eqFields]
          rw [Ye hn]
          simp only [YD,Zdp hk hag ex,Zdp hk hag ey,Yv,heq]
          cases hab:(a == b)
          · simp
          · simp [ih]
section
variable {P:Program} {d:Option Nat} {ty:TypeId} {pos:String} {af:Array Edge} {g:Option (Nat×Bool)}
variable {x y:Operand} {ps qs:List (Nat×SF)} {t t':TypeId} {cs ds:List CF} {r:Bool} {ks:List Bool}
theorem Zb7 (h:P.flatS t ks=true):P.underlying t=some (.struct (P.fieldsOf t))∧flatFs P (P.fieldsOf t).toList 0 ks=true∧P.stoodInHeld t=false∧P.eqGuardType P.depth t=false:=by
 unfold Program.flatS at h
 split at h
 ·rename_i fs hu
  simp only [Yw,Yae] at h
  have e:P.fieldsOf t=fs:=by simp [Program.fieldsOf,hu]
  rw [e]
  exact ⟨hu,h.1.1,h.1.2,h.2⟩
 ·cases h
theorem Zhm {a:Act} {w:World} {yy:Ys} (hf:P.flatS t ks=true) {us vs:List Value} (h1:CFs (Act.tau a) w yy cs us) (h2:CFs (Act.tau a) w yy ds vs) (he:Zm7 ks cs ds r) :
  (Op.equalIn 10000 t (.agg us.toArray) (.agg vs.toArray)).run P w = .ok r w:=by
 obtain ⟨f1,f2,f3,f4⟩:=Zb7 hf
 rw [show (10000:Nat)=9999+1 from rfl,run_equalIn_struct w 9999 t us.toArray vs.toArray f1 f3]
 exact ZcG (d:=9998) f2 W4 W5 he
theorem o_eqlS (hf:P.flatS t ks=true) (hx:Opd x ps (.agg cs)) (hy:Opd y qs (.agg ds)) (he:Zm7 ks cs ds r):OpC P ⟨d,.binOp .eql t x y t',ty,pos,af,g⟩ ⟨ps++qs,[],.pv (.bool r),[]⟩:=
 OpC.pure fun a w yy hp=>by
  obtain ⟨us,e1,h1⟩:=hx a w yy hp.left
  obtain ⟨vs,e2,h2⟩:=hy a w yy hp.right
  have hg:=run_eqGuard_agg (P:=P) w .eql t x y us.toArray vs.toArray (Zb7 hf).2.2.2
  have hr:=Zhm (P:=P) hf h1 h2 he
  exact ⟨.bool r,by simp only [execOp,e1,e2,YD,hg,Yv,run_eql_struct,hr,YI],fun _ _=>rfl⟩
theorem o_neqS (hf:P.flatS t ks=true) (hx:Opd x ps (.agg cs)) (hy:Opd y qs (.agg ds)) (he:Zm7 ks cs ds r):OpC P ⟨d,.binOp .neq t x y t',ty,pos,af,g⟩ ⟨ps++qs,[],.pv (.bool (!r)),[]⟩:=
 OpC.pure fun a w yy hp=>by
  obtain ⟨us,e1,h1⟩:=hx a w yy hp.left
  obtain ⟨vs,e2,h2⟩:=hy a w yy hp.right
  have hg:=run_eqGuard_agg (P:=P) w .neq t x y us.toArray vs.toArray (Zb7 hf).2.2.2
  have hr:=Zhm (P:=P) hf h1 h2 he
  exact ⟨.bool (!r),by simp only [execOp,e1,e2,YD,hg,Yv,run_neq_struct,hr,YI],fun _ _=>rfl⟩
theorem ZpI {a b:Bool} (hu:P.underlying t=some .bool) (hx:Opd x ps (.pv (.bool a))) (hy:Opd y qs (.pv (.bool b))):OpC P ⟨d,.binOp .eql t x y t',ty,pos,af,g⟩ ⟨ps++qs,[],.pv (.bool (a == b)),[]⟩:=
 OpC.pure fun act w yy hp=>by
  have e1:act.eval x = .bool a:=hx act w yy hp.left
  have e2:act.eval y = .bool b:=hy act w yy hp.right
  have hg:(eqGuard .eql t x y (.bool a) (.bool b)).run P w = .ok () w:=rfl
  have hb:(binOp .eql t (.bool a) (.bool b)).run P w = .ok (.bool (a == b)) w:=by
   simp only [binOp,Op.equal,Op.maxDepth,YD]
   rw [show (10000:Nat)=9999+1 from rfl,run_equalIn_bool' w 9999 t a b hu]
   simp
  exact ⟨.bool (a == b),by simp only [execOp,e1,e2,YD,hg,Yv,hb,YI],fun _ _=>rfl⟩
end
theorem least (p:Nat→Prop) (h:∃ n,p n):∃ n,p n ∧ ∀ m,p m→n≤m:=by
 obtain ⟨n,hn⟩:=h
 induction n using Nat.strongRecOn with
 | _ n ih=>
  by_cases hs:∃ m,m<n∧p m
  ·obtain ⟨m,h1,h2⟩:=hs
   exact ih m h1 h2
  ·exact ⟨n,hn,fun m hm=>Nat.le_of_not_lt fun hlt=>hs ⟨m,hlt,hm⟩⟩
theorem ZY {P:Program} {Q:Exit→Act→World→Prop} {B:ZaV} {c:Code} {σ:Type} (I:σ→En) (C:σ→Prop) (μ:σ→Nat) {a:Act} {w:World} {F:Fp} (s0:σ) (h0:Sat B (I s0) a w F) (c0:C s0)
  (round:∀ s a w F,C s→Sat B (I s) a w F→c.wp P (Exit.then (fun a' w'=>∃ s' F',C s' ∧ Sat B (I s') a' w' F' ∧ μ s' < μ s) Q) a w):(Code.loop c).wp P Q a w:=by
 classical
 let p:Act→World→Nat→Prop:=fun a w n=>∃ s F,C s∧Sat B (I s) a w F∧μ s=n
 let mm:Act→World→Nat:=fun a w=>if h:∃ n,p a w n then Classical.choose (least (p a w) h) else 0
 have hmm:∀ a w (h:∃ n,p a w n),p a w (mm a w) ∧ ∀ m,p a w m→mm a w≤m:=by
  intro a w h
  have:=Classical.choose_spec (least (p a w) h)
  simp only [mm,dif_pos h]
  exact this
 refine wp_loop (fun a w=>∃ n,p a w n) mm ⟨_,s0,F,c0,h0,rfl⟩ ?_
 intro a w h
 obtain ⟨⟨s,F,h1,h2,h3⟩,_⟩:=hmm a w h
 refine Code.wp_mono ?_ (round s a w F h1 h2)
 intro e a' w' q
 cases e with
 | normal=>
  obtain ⟨s',F',k1,k2,k3⟩:=q
  have hp:p a' w' (μ s'):=⟨s',F',k1,k2,rfl⟩
  refine ⟨⟨_,hp⟩,?_⟩
  have:=(hmm a' w' ⟨_,hp⟩).2 _ hp
  omega
 | _=>exact q
theorem ZL {P:Program} {B:ZaV} {F0:Fp} (hG:Zoj B F0 1) {E:En} {a:Act} {w:World} {F:Fp} {fn:Func} {q:PV} {h':HP} {ss:List SF} (G:Sat B E a w F) (h0:look E.r 0=some (frame B)) (hr:ROk P E fn.results.toList ss) (hq:ZaB ss q)
  (h1:look E.r 1=some (RS.hp h')):bodyPost P fn (RG B F0 1 q (fun _=>[h'])) .ret a w:=
 Zs7 hG G h0 hr hq fun v τ y _ i h hi=>by
  match i,hi with
  | 0,hi=>simp at hi;subst hi;exact ⟨_,h1,YF _,fun _ _ _ k=>k⟩
theorem Zaw {P:Program} {B:ZaV} {F0:Fp} (hG:Zoj B F0 1) {E:En} {a:Act} {w:World} {F:Fp} {fn:Func} {q:PV} {h':Value→HP} {v0:Value} (G:Sat B E a w F) (h0:look E.r 0=some (frame B)) (hr:ROk P E fn.results.toList [.pv (.is v0)]) (hq:ZaB [.pv (.is v0)] q)
  (h1:look E.r 1=some (RS.hp (h' v0))):bodyPost P fn (RG B F0 1 q (fun v=>[h' v])) .ret a w:=
 Zs7 hG G h0 hr hq fun v τ y hv i h hi=>by
  obtain ⟨vs,rfl,hvs⟩:=hv
  have e:ZiK vs=v0:=by
   match vs,hvs with
   | [u],hvs=>exact hvs.1.1
  rw [e] at hi
  match i,hi with
  | 0,hi=>simp at hi;subst hi;exact ⟨_,h1,YF _,fun _ _ _ k=>k⟩
theorem Sat.range {B:ZaV} {E:En} {a:Act} {w:World} {F:Fp} (h:Sat B E a w F) {i:Nat} {k:IntKind} {x:Int} (hl:look E.s i=some (.pv (.int k x))):inR k x:=(h.s i _ hl).2
end Go.Gm
namespace Go.Gm
set_option linter.unusedVariables false
set_option linter.unusedSimpArgs false
theorem Stp.any (W:List Nat) (w:World) (F:Fp):Stp W w F w F:=⟨rfl,rfl,rfl,YF _,fun _ _ _=>rfl,fun _ _=>rfl,fun n hn b hb=>.inl ⟨n,hn,hb⟩⟩
section
variable {P:Program}
end
section
variable {P:Program} {d:Option Nat} {t ty:TypeId} {pos:String} {af:Array Edge} {g:Option (Nat×Bool)} {ps:List (Nat×SF)}
theorem Zj {e sz n:Nat} {zs:List Value} {r:List (Nat×Operand)} {l:List PV} {cs:List CF} (hu:P.underlying t=some (.slice e)) (hsz:(P.info? e).map (·.size)=some sz) (hz:P.zeros e=some zs) (hn:Nat.ble (n*sz) 1000=true) (h0:Nat.blt 0 (n*sz)=true) (hzl:zs.length=sz)
  {zz:List CF} (hzz:((List.range (n*sz)).map fun i=>zCF (zs.getD (i % sz) undef))=zz)
  (hparts:ZdR P ((List.range n).map fun i=>(i*sz,sz)) r ps zz cs) (hl:cs=l.map CF.pv) :
  OpC P ⟨d,.buildSlice t n r.toArray,ty,pos,af,g⟩ ⟨ps,[],.pv (.arr n l),[]⟩:=by
 subst hl
 exact ZjF hu hsz hz hn h0 hzl hzz hparts
variable {α:Type} {R:α→List PV} {l:List α} {x z z':Operand} {qs rs:List (Nat×SF)} {e sz:Nat} {k k':IntKind} {i j:Int}
theorem ZmL (he:Zby P t e sz) (hR:∀ x,(R x).length=sz) (hx:Opd x ps (.pv (.sl R l))) (hz:Opd z qs (.pv (.int k j))) (h1:0≤j) (h2:j≤l.length) :
  OpC P ⟨d,.slice t x none (some z) none,ty,pos,af,g⟩ ⟨ps++qs,[],.pv (.sl R (l.take j.toNat)),[]⟩:=by
 have:=ZgH (d:=d) (ty:=ty) (pos:=pos) (af:=af) (g:=g) (P:=P) (lo:=none) (hi:=some z) (k1:=.i64) (i:=0) (qs:=[]) he hR hx ⟨rfl,rfl⟩ hz (Yar 0) h1 h2
 simpa using this
theorem o_slice_lo (he:Zby P t e sz) (hR:∀ x,(R x).length=sz) (hx:Opd x ps (.pv (.sl R l))) (hz:Opd z qs (.pv (.int k i))) (h1:0≤i) (h2:i≤l.length) :
  OpC P ⟨d,.slice t x (some z) none none,ty,pos,af,g⟩ ⟨ps++qs,[],.pv (.sl R (l.drop i.toNat)),[]⟩:=by
 have:=ZgH (d:=d) (ty:=ty) (pos:=pos) (af:=af) (g:=g) (P:=P) (lo:=some z) (hi:=none) (k2:=.i64) (rs:=[]) he hR hx hz ⟨rfl,rfl⟩ h1 h2 (Yar _)
 simpa using this
end
def PV.ptr:PV:=⟨fun u _ _=>∃ b,u = .pointer (some ⟨b,0,none⟩),fun _ h=>h⟩
theorem PV.ptr_one (v:Value) (w:World) (y:Ys) (h:PV.ptr.p v w y):v.oneCell' = true:=by obtain ⟨b,rfl⟩:=h;rfl
section
variable {B:ZaV} {E:En} {a:Act} {w:World} {F:Fp}
theorem Sat.shape {v:Value} {T:TypeId} {cells:List CF} (h:Sat B E a w F) (n:Nat) (hl:look E.r n=some (.pt (.val v) T cells)):∃ b,v = .pointer (some ⟨b,0,none⟩):=by
 obtain ⟨b,vs,e,_⟩:=h.r n _ hl
 exact ⟨b,e⟩
theorem Ent.ptr {b:Nat} : Ent (.pv (.is (.pointer (some ⟨b,0,none⟩)))) (.pv PV.ptr):=fun _ _ _ v h=>⟨b,h.1⟩
theorem Za6 {α:Type} {T sz:Nat} {R:α→List PV} (τ:Tau) (w:World) (f y:Ys) (h:(RS.hp (HP.star [])).holds τ w f y):(RS.ob (.val (.slice none 0 0)) (Zz T sz R ([]:List α))).holds τ w f y:=by
 have e:f=fun _=>False:=by funext b;exact propext ⟨fun k=>h b k,fun k=>k.elim⟩
 subst e
 exact ZkY
def unCF:List CF→List PV
 | .pv p :: cs=>p :: unCF cs
 | .same _ :: cs=>PV.any :: unCF cs
 | .fn _ _ :: cs=>PV.any :: unCF cs
 | []=>[]
def ZmT:List CF→Bool
 | .pv p :: cs=>ZmT cs
 | .same _ :: cs=>false
 | .fn _ _ :: cs=>false
 | []=>true
theorem PVs.unCF {w y} {τ:Tau} : ∀ {cs:List CF} {vs:List Value},ZmT cs=true→CFs τ w y cs vs→PVs (unCF cs) vs w y
 | [],[],_,_=>trivial
 | .pv p :: cs,v :: vs,h,k=>⟨k.1,PVs.unCF h k.2⟩
 | .same _ :: cs,v :: vs,h,k=>by cases h
 | .fn _ _ :: cs,v :: vs,h,k=>by cases h
 | [],_ :: _,_,k=>k.elim
 | .pv _ :: _,[],_,k=>k.elim
 | .same _ :: _,[],_,k=>k.elim
 | .fn _ _ :: _,[],_,k=>k.elim
theorem Ent.aggU {cs:List CF} {l:List PV} (h:ZmT cs=true) (e:unCF cs=l):Ent (.agg cs) (.pv (.agg l)):=fun τ w y v ⟨vs,e',k⟩=>⟨vs,e',by rw [← e];exact PVs.unCF h k⟩
end
section
variable {B:ZaV} {E:En} {a:Act} {w:World} {F:Fp}
theorem Sat.ent {i:Nat} {s s':SF} (h:Sat B E a w F) (hl:look E.s i=some s) (he:Ent s s'):Sat B ⟨(i,s') :: E.s,E.r⟩ a w F:=
 ⟨h.wf,h.ev,h.n,h.df,fun j t hj=>by
  rw [Zf] at hj
  split at hj
  ·rename_i e
   simp only [YX] at hj;subst hj;subst e
   exact he _ _ _ _ (h.s i s hl)
  ·exact h.s j t hj,h.r,h.em⟩
theorem Sat.eI {x:Int} (h:Sat B E a w F) (i v:Nat) (hl:look E.s i=some (.pv (.int .i64 x)):=by exact rfl) (he:x=((v+1:Nat):Int):=by exact Za7 (by omega)):Sat B ⟨(i,.pv (.int .i64 ((v+1:Nat):Int)))::E.s,E.r⟩ a w F:=h.ent hl (.int he)
theorem Ent.sl {α:Type} {R:α→List PV} {l l':List α} (h:l=l'):Ent (.pv (.sl R l)) (.pv (.sl R l')):=by subst h;exact Ent.refl
theorem Ent.nilSl {α:Type} {R:α→List PV} : Ent (.pv (.is (.slice none 0 0))) (.pv (.sl R [])):=fun _ _ _ v h=>⟨none,0,h.1,YF _,YA _,.inl rfl⟩
theorem Sat.obGet {v:Value} {h':Value→HP} (h:Sat B E a w F) (n:Nat) (hl:look E.r n=some (.ob (.val v) h')):∃ w f y,(h' v).p w f y:=⟨_,_,_,h.r n _ hl⟩
theorem HP.star_pt {v:Value} {T:TypeId} {cells:List CF} {rs:List RS} {w:World} {f y:Ys} (h:(HP.star (.pt (.val v) T cells :: rs)).p w f y):∃ b,v = .pointer (some ⟨b,0,none⟩):=by
 obtain ⟨_,_,_,_,_,⟨b,_,e,_⟩,_⟩:=h
 exact ⟨b,e⟩
theorem Sat.give {α:Type} {T sz:Nat} {R:α→List PV} {l:List α} {v:Value} (h:Sat B E a w F) (n i:Nat) (hn:look E.r n=some (.ob (.val v) (Zz T sz R l))) (hi:look E.s i=some (.pv (.is v))) :
  ∃ F',Sat B ⟨(i,.pv (.sl R l)) :: E.s,(n,RS.hp (HP.star [])) :: E.r⟩ a w F':=by
 have hle:∀ b,U (fun m=>if m=n then fun _=>False else F m) b→U F b:=fun b ⟨m,hm⟩=>⟨m,by
  by_cases e:m=n
  ·simp only [e,Yx] at hm
  ·simp only [e,Yt] at hm;exact hm⟩
 have hev:=Ev.less w hle
 refine ⟨fun m=>if m=n then fun _=>False else F m,⟨fun m k b hm hk=>?_,fun m b hm=>?_⟩,h.ev.trans hev,h.n,h.df,fun j s hj=>?_,fun m r hm=>?_,fun m b hm=>?_⟩
 ·by_cases e1:m=n
  ·simp only [e1,Yx] at hm
  ·by_cases e2:k=n
   ·simp only [e2,Yx] at hk
   ·simp only [e1,e2,Yt] at hm hk;exact h.wf.dis m k b hm hk
 ·by_cases e1:m=n
  ·simp only [e1,Yx] at hm
  ·simp only [e1,Yt] at hm;exact h.wf.bd m b hm
 ·rw [Zf] at hj
  split at hj
  ·rename_i e
   simp only [YX] at hj;subst hj;subst e
   have hv:Act.tau a i=v:=(h.s i _ hi).1
   obtain ⟨xs,h1,h2,h3⟩:=h.r n _ hn
   obtain ⟨ad,cap,e1,h4,h5,h6⟩:=ZG h1
   simp only [Anc.v] at e1
   show (PV.sl R l).p (Act.tau a i) w _
   rw [hv,e1]
   refine ⟨ad,cap,rfl,h4,h5,?_⟩
   rcases h6 with h6 | ⟨b,rfl,h7,h8⟩
   ·exact .inl (YM h6)
   ·have hb:F n b:=(h3 b).2 h7
    refine .inr ⟨b,0,xs,rfl,?_,h.wf.bd n b hb,h8,PVs.mono hev h2⟩
    rintro ⟨m,hm⟩
    by_cases e2:m=n
    ·simp only [e2,Yx] at hm
    ·simp only [e2,Yt] at hm
     exact e2 (h.wf.dis m n b hm hb)
  ·exact SF.mono hev (fun _ _=>rfl) (h.s j s hj)
 ·rw [Zf] at hm
  split at hm
  ·rename_i e
   simp only [YX] at hm;subst hm;subst e
   intro b hb
   simp only [Yx] at hb
  ·rename_i e
   have e2:¬ m=n:=fun h=>e h.symm
   simp only [e2,Yt]
   exact RS.mono hev (fun _ _=>rfl) (fun _ _=>rfl) (h.r m r hm)
 ·by_cases e1:m=n
  ·simp only [e1,Yx] at hm
  ·simp only [e1,Yt] at hm
   obtain ⟨r,hr⟩:=h.em m b hm
   exact ⟨r,by rw [Zf,Yb (fun h=>e1 h.symm)];exact hr⟩
end
end Go.Gm
namespace Go.Gm
set_option linter.unusedVariables false
set_option linter.unusedSimpArgs false
abbrev PV.bs (l:List UInt8):PV:=.str ⟨l.toArray⟩
theorem Zbr (l:List UInt8):(ByteArray.mk l.toArray).size=l.length:=by simp [ByteArray.size]
section
variable {P:Program} {d:Option Nat} {t t' ty:TypeId} {pos:String} {af:Array Edge} {g:Option (Nat×Bool)} {x y z z':Operand} {ps qs rs:List (Nat×SF)} {l l':List UInt8} {k k':IntKind} {i j:Int}
theorem Zb9 (hu:P.underlying t=some .string) (hx:Opd x ps (.pv (.bs l))) :
  OpC P ⟨d,.call { callee:=.builtin .len,args:=#[x],argTypes:=#[t] },ty,pos,af,g⟩ ⟨ps,[],.pv (.int .i64 l.length),[]⟩:=
 OpC.pure fun a w yy hp=>by
  obtain ⟨e1,h1⟩:=hx a w yy hp
  rw [Zbr] at h1
  refine ⟨.int .i64 l.length,?_,fun _ _=>⟨rfl,?_⟩⟩
  ·simp [execOp,resolve,invoke,builtin,e1,run_len_string w t ty _ hu,goInt,Zbr]
  ·unfold maxLen at h1
   simp [inR,IntKind.min,IntKind.max,IntKind.signed,IntKind.bits];omega
theorem ZmC (hu:P.underlying t=some .string) (hx:Opd x ps (.pv (.bs l))) (hy:Opd y qs (.pv (.int k i))) (h0:0≤i) (h1:i<l.length) :
  OpC P ⟨d,.index t x y,ty,pos,af,g⟩ ⟨ps++qs,[],.pv (.int .u8 ((Nn l i.toNat).toNat:Int)),[]⟩:=
 OpC.pure fun a w yy hp=>by
  obtain ⟨e1,_⟩:=hx a w yy hp.left
  have e2:=(hy a w yy hp.right).1
  have hn:i.toNat<l.length:=ow
  refine ⟨.int .u8 ((Nn l i.toNat).toNat:Int),?_,fun _ _=>⟨rfl,?_⟩⟩
  ·have:=run_index_string (P:=P) w t ⟨l.toArray⟩ k i hu
   rw [dif_pos ⟨h0,by rw [Zbr];exact h1⟩] at this
   simp only [execOp,e1,e2,YD,this,Yv,YI]
   rw [nth_eq hn]
   rfl
  ·have:=(Nn l i.toNat).toNat_lt
   simp [inR,IntKind.min,IntKind.max,IntKind.signed,IntKind.bits];omega
theorem ZD (hx:Opd x ps (.pv (.bs l))) (hy:Opd y qs (.pv (.bs l'))) (h:l.length+l'.length≤9223372036854775807) :
  OpC P ⟨d,.binOp .add t x y t',ty,pos,af,g⟩ ⟨ps++qs,[],.pv (.bs (l++l')),[]⟩:=
 OpC.pure fun a w yy hp=>by
  obtain ⟨e1,_⟩:=hx a w yy hp.left
  obtain ⟨e2,_⟩:=hy a w yy hp.right
  have hr:=run_string_add_sum (P:=P) w ⟨l.toArray⟩ ⟨l'.toArray⟩ (by rw [Zbr,Zbr];exact h)
  rw [ByteArray.mk_append_mk] at hr
  refine ⟨.string ⟨(l++l').toArray⟩,?_,fun _ _=>⟨rfl,?_⟩⟩
  ·simp only [execOp,e1,e2,YD,show (eqGuard .add t x y (.string ⟨l.toArray⟩) (.string ⟨l'.toArray⟩)).run P w = .ok () w from rfl,Yv,binOp,hr,YI]
  ·rw [Zbr,Yc];unfold maxLen;omega
theorem Zju (l l':List UInt8):(l == l')=decide (l=l'):=by
 by_cases h:l=l'
 ·subst h;simp
 ·rw [YO h];simpa using h
theorem ZhZ (hu:P.underlying t=some .string) (hx:Opd x ps (.pv (.bs l))) (hy:Opd y qs (.pv (.bs l'))) :
  OpC P ⟨d,.binOp .eql t x y t',ty,pos,af,g⟩ ⟨ps++qs,[],.pv (.bool (decide (l=l'))),[]⟩:=
 OpC.pure fun a w yy hp=>by
  obtain ⟨e1,_⟩:=hx a w yy hp.left
  obtain ⟨e2,_⟩:=hy a w yy hp.right
  refine ⟨.bool (decide (l=l')),?_,fun _ _=>rfl⟩
  have hq:(binOp .eql t (.string ⟨l.toArray⟩) (.string ⟨l'.toArray⟩)).run P w = .ok (.bool (decide (l=l'))) w:=by
   simp only [binOp,Op.stringOp,ByteArray.toList_mk,Zju,YI]
  simp only [execOp,e1,e2,YD,show (eqGuard .eql t x y (.string ⟨l.toArray⟩) (.string ⟨l'.toArray⟩)).run P w = .ok () w from rfl,Yv,hq,YI]
theorem Zsp (hu:P.underlying t=some .string) (hx:Opd x ps (.pv (.bs l))) (hy:Opd y qs (.pv (.bs l'))) :
  OpC P ⟨d,.binOp .neq t x y t',ty,pos,af,g⟩ ⟨ps++qs,[],.pv (.bool (!decide (l=l'))),[]⟩:=
 OpC.pure fun a w yy hp=>by
  obtain ⟨e1,_⟩:=hx a w yy hp.left
  obtain ⟨e2,_⟩:=hy a w yy hp.right
  refine ⟨.bool (!decide (l=l')),?_,fun _ _=>rfl⟩
  have hq:(binOp .neq t (.string ⟨l.toArray⟩) (.string ⟨l'.toArray⟩)).run P w = .ok (.bool (!decide (l=l'))) w:=by
   simp only [binOp,Op.stringOp,ByteArray.toList_mk,Zju,YI]
  simp only [execOp,e1,e2,YD,show (eqGuard .neq t x y (.string ⟨l.toArray⟩) (.string ⟨l'.toArray⟩)).run P w = .ok () w from rfl,Yv,hq,YI]
theorem Zf2 {m n:Int} (hx:Opd x ps (.pv (.int k m))) (hy:Opd y qs (.pv (.int k' n))) (h:0≤n):OpC P ⟨d,.binOp .shr t x y t',ty,pos,af,g⟩ ⟨ps++qs,[],.pv (.int k (m.fdiv (2 ^ min n.toNat k.bits))),[]⟩:=
 OpC.pure fun a w yy hp=>by
  have e1:=(hx a w yy hp.left).1
  have e2:=(hy a w yy hp.right).1
  have hm:=(hx a w yy hp.left).2
  have h':¬ n<0:=ow
  refine ⟨.int k (m.fdiv (2 ^ min n.toNat k.bits)),by simp [execOp,e1,e2,eqGuard,binOp,Op.shift,h'],fun _ _=>⟨rfl,?_⟩⟩
  have hp2:(0:Int)<2 ^ min n.toNat k.bits:=Int.pow_pos XW
  rw [Ybm _ (YaV hp2)]
  have hk:k.min≤0:=by cases k <;> decide
  have hk':0≤k.max:=by cases k <;> decide
  unfold inR at *
  have h1p:(1:Int)≤2 ^ min n.toNat k.bits:=hp2
  constructor
  ·by_cases h0:0≤m
   ·exact Int.le_trans hk (Int.ediv_nonneg h0 (YaV hp2))
   ·have:m≤m / 2 ^ min n.toNat k.bits:=by
     rw [Int.le_ediv_iff_mul_le hp2]
     have:m*2 ^ min n.toNat k.bits≤m*1:=Int.mul_le_mul_of_nonpos_left ow h1p
     omega
    exact Int.le_trans hm.1 this
  ·by_cases h0:0≤m
   ·exact Int.le_trans (Int.ediv_le_self _ h0) hm.2
   ·have:m / 2 ^ min n.toNat k.bits<0:=Int.ediv_neg_of_neg_of_pos ow hp2
    omega
end
end Go.Gm
namespace Go.Gm
set_option linter.unusedVariables false
set_option linter.unusedSimpArgs false
section
variable {P:Program} {d:Option Nat} {t t' ty:TypeId} {pos:String} {af:Array Edge} {g:Option (Nat×Bool)} {x y z z':Operand} {ps qs rs:List (Nat×SF)} {k k':IntKind} {i j:Int} {a:Anc} {T:TypeId} {cells:List CF}
theorem Zaf {len e sz k0:Nat} (n:Nat) (hu:P.underlying t=some (.array len e)) (hs:(P.info? e).map (·.size)=some sz) (hx:Za9 x ps a k0) (hy:Opd y qs (.pv (.int k i))) (h0:0≤i) (h1:i<len) (hd:ZaO d (.adr a (k0+i.toNat*sz))=true) :
  OpC P ⟨d,.indexAddr t x y,ty,pos,af,g⟩ ⟨ps++qs,[(n,.pt a T cells)],.adr a (k0+i.toNat*sz),[]⟩:=
 OpC.read fun act w F hp hr=>by
  obtain ⟨b,vs,e1,hb,hf,hc⟩:=Zbe (hr (n,.pt a T cells) XM)
  have ex:act.eval x = .pointer (some ⟨b,k0,none⟩):=hx act w (U F) hp.left b e1
  have e2:=(hy act w (U F) hp.right).1
  have eadd:(⟨b,k0,none⟩:Addr).add (i.toNat*sz) = ⟨b,k0+i.toNat*sz,none⟩:=by
   unfold Addr.add
   split
   ·rename_i h;simp [h]
   ·rfl
  refine ⟨.pointer (some ⟨b,k0+i.toNat*sz,none⟩),?_,fun τ' ht=>Z9 hd ht ?_⟩
  ·simp [execOp,ex,e2,Instr.indexAt,Instr.sureAddr,Yo hu,asIntOf,h0,h1,run_sizeOf hs,eadd]
  ·simp [SF.holds,e1,shift]
theorem Zsw {α:Type} (f:α→CF):∀ (l:List α) (k:Nat) (v:α),k<l.length→Zd (l.map f) k [f v] = (l.set k v).map f
 | [],k,v,h=>by simp at h
 | x :: l,0,v,h=>by simp [Zd]
 | x :: l,k+1,v,h=>by
  have:=Zsw f l k v XL
  simp only [Zd,YG,List.take_succ_cons,Yh,Yq,List.set_cons_succ,Yao] at *
  rw [← this]
  simp [Nat.add_assoc]
theorem ZlU {α:Type} (f:α→PV):∀ (l:List α),unCF (l.map fun x=>CF.pv (f x))=l.flatMap fun x=>[f x]
 | []=>rfl
 | x :: l=>by simp [unCF,ZlU f l]
theorem ZlC {α:Type} (f:α→PV):∀ (l:List α),ZmT (l.map fun x=>CF.pv (f x))=true
 | []=>rfl
 | x :: l=>by simp [ZmT,ZlC f l]
end
def Zkn {α:Type} (T:TypeId) (f:α→PV) (l:List α) (v:Value):HP:=
 ⟨fun w fb y=>(RS.pt (.val v) T (l.map fun x=>CF.pv (f x))).holds tau0 w fb y,fun h hf k=>RS.mono h hf (fun _ _=>rfl) k⟩
theorem Zds {α:Type} (f:α→PV):∀ l:List α,cdeps (l.map fun x=>CF.pv (f x)) = []
 | []=>rfl
 | x :: l=>by simp [cdeps,CF.deps,Zds f l]
theorem Zf7 {α:Type} {T:TypeId} {f:α→PV} {l:List α} {v:Value} (τ:Tau) (w:World) (fb y:Ys) (h:(RS.ob (.val v) (Zkn T f l)).holds τ w fb y):(RS.pt (.val v) T (l.map fun x=>CF.pv (f x))).holds τ w fb y:=
 RS.closed W6 h
theorem Zh6 {α:Type} {T:TypeId} {f:α→PV} {l:List α} {v:Value} (τ:Tau) (w:World) (fb y:Ys) (h:(RS.pt (.val v) T (l.map fun x=>CF.pv (f x))).holds τ w fb y):(RS.ob (.val v) (Zkn T f l)).holds τ w fb y:=
 RS.closed (r:=RS.pt (.val v) T (l.map fun x=>CF.pv (f x))) W6 h
section
variable {P:Program} {d:Option Nat} {t t' ty:TypeId} {pos:String} {af:Array Edge} {g:Option (Nat×Bool)} {x y z z':Operand} {ps qs rs:List (Nat×SF)} {k k':IntKind} {i j:Int} {T:TypeId} {α:Type} {f:α→PV} {l:List α} {u:Value}
theorem OpC.res {o:Oper} {ps:List (Nat×SF)} {q:SF} {n:Nat} {r r':RS} {qr qr':List (Nat×RS)} (h:OpC P o ⟨ps,[(n,r)],q,qr⟩) (hr:∀ τ w fb y,r'.holds τ w fb y→r.holds τ w fb y) (hW:qr'.map (·.1)=qr.map (·.1)) (hq:∀ τ w F,Hpr qr τ w F→Hpr qr' τ w F):OpC P o ⟨ps,[(n,r')],q,qr'⟩:=fun a w F K Q hw hs hp ht=>
 h a w F K Q hw hs (fun x hx=>by
  simp only [Yn] at hx;subst hx
  exact hr _ _ _ _ (hp (n,r') XM)) (fun v w' F' h1 h2 h3 h4=>ht v w' F' h1 (by
   have e:(CD.W ⟨ps,[(n,r')],q,qr'⟩)=CD.W ⟨ps,[(n,r)],q,qr⟩:=hW
   rw [e];exact h2) h3 (hq _ _ _ h4))
theorem Za3 {len e sz k0:Nat} (n:Nat) (hu:P.underlying t=some (.array len e)) (hs:(P.info? e).map (·.size)=some sz) (hx:Za9 x ps (.val u) k0) (hy:Opd y qs (.pv (.int k i))) (h0:0≤i) (h1:i<len) :
  OpC P ⟨d,.indexAddr t x y,ty,pos,af,g⟩ ⟨ps++qs,[(n,.ob (.val u) (Zkn T f l))],.adr (.val u) (k0+i.toNat*sz),[]⟩:=
 OpC.res (Zaf (cells:=l.map fun x=>CF.pv (f x)) (T:=T) n hu hs hx hy h0 h1 (by cases d <;> rfl)) Zf7 rfl (fun _ _ _ h=>h)
theorem ZjE {k0:Nat} [Inhabited α] (n:Nat) (hx:Za9 x ps (.val u) k0) (ha:P.aggB t=some false) (hs:(P.info? t).map (·.size)=some 1) (hk:k0<l.length) :
  OpC P ⟨d,.load t x,ty,pos,af,g⟩ ⟨ps,[(n,.ob (.val u) (Zkn T f l))],.pv (f (Nn l k0)),[]⟩:=by
 have hd:ldSF false 1 (l.map fun x=>CF.pv (f x)) k0 = .pv (f (Nn l k0)):=by
  have:(l.map fun x=>CF.pv (f x))[k0]? = some (CF.pv (f (Nn l k0))):=by rw [YbH,Yas hk,nth_eq hk];rfl
  have h2:(l.map fun x=>CF.pv (f x)).drop k0=CF.pv (f (Nn l k0)) :: (l.map fun x=>CF.pv (f x)).drop (k0+1):=by
   rw [Ya4 W7]
   congr 1
   rw [Yas W7] at this
   exact Ya6 this
  simp [ldSF,h2,this]
 have:=Zbz (d:=d) (ty:=ty) (pos:=pos) (af:=af) (g:=g) (P:=P) (cells:=l.map fun x=>CF.pv (f x)) (T:=T) n hx ha hs (by simpa [wid,Nat.succ_le_iff] using hk) (by rw [hd];cases d <;> rfl)
 rw [hd] at this
 exact OpC.res this Zf7 rfl (fun _ _ _ h=>h)
theorem Zhg {v:α} {k0:Nat} (n:Nat) (hx:Za9 x ps (.val u) k0) (hy:Opd y qs (.pv (f v))) (h1:∀ v' w yy,(f v).p v' w yy→v'.oneCell' = true) (hs:(P.info? t).map (·.size)=some 1) (hk:k0<l.length) :
  OpC P ⟨none,.store t x y,ty,pos,af,g⟩ ⟨ps++qs,[(n,.ob (.val u) (Zkn T f l))],.pv .any,[(n,.ob (.val u) (Zkn T f (l.set k0 v)))]⟩:=
 OpC.res (ZZ (cells:=l.map fun x=>CF.pv (f x)) (T:=T) n hx hy h1 hs (by rw [Nat.ble_eq,YJ];exact hk)) Zf7 rfl (fun τ w F h=>by
  intro z hz
  simp only [Yn] at hz
  subst hz
  have:=h (n,.pt (.val u) T (Zd (l.map fun x=>CF.pv (f x)) k0 [CF.pv (f v)])) XM
  rw [Zsw (fun x=>CF.pv (f x)) l k0 v hk] at this
  exact Zh6 _ _ _ _ this)
end
section
variable {B:ZaV} {E:En} {a:Act} {w:World} {F:Fp}
theorem Sat.giveRef {T:TypeId} {cells:List CF} {v:Value} (h:Sat B E a w F) (n i:Nat) (hn:look E.r n=some (.pt (.val v) T cells)) (hi:look E.s i=some (.pv (.is v))) (hk:ZmT cells=true) :
  ∃ F',Sat B ⟨(i,.pv (.ref (unCF cells))) :: E.s,(n,RS.hp (HP.star [])) :: E.r⟩ a w F':=by
 have hle:∀ b,U (fun m=>if m=n then fun _=>False else F m) b→U F b:=fun b ⟨m,hm⟩=>⟨m,by
  by_cases e:m=n
  ·simp only [e,Yx] at hm
  ·simp only [e,Yt] at hm;exact hm⟩
 have hev:=Ev.less w hle
 refine ⟨fun m=>if m=n then fun _=>False else F m,⟨fun m k b hm hk=>?_,fun m b hm=>?_⟩,h.ev.trans hev,h.n,h.df,fun j s hj=>?_,fun m r hm=>?_,fun m b hm=>?_⟩
 ·by_cases e1:m=n
  ·simp only [e1,Yx] at hm
  ·by_cases e2:k=n
   ·simp only [e2,Yx] at hk
   ·simp only [e1,e2,Yt] at hm hk;exact h.wf.dis m k b hm hk
 ·by_cases e1:m=n
  ·simp only [e1,Yx] at hm
  ·simp only [e1,Yt] at hm;exact h.wf.bd m b hm
 ·rw [Zf] at hj
  split at hj
  ·rename_i e
   simp only [YX] at hj;subst hj;subst e
   have hv:Act.tau a i=v:=(h.s i _ hi).1
   obtain ⟨b,vs,e1,h1,h2,h3⟩:=h.r n _ hn
   simp only [Anc.v] at e1
   show (PV.ref (unCF cells)).p (Act.tau a i) w _
   rw [hv,e1]
   have hb:F n b:=(h2 b).2 rfl
   refine ⟨b,0,vs.toList,rfl,?_,h.wf.bd n b hb,Zt.mk fun j v hj=>?_,PVs.mono hev (PVs.unCF hk h3)⟩
   ·rintro ⟨m,hm⟩
    by_cases e2:m=n
    ·simp only [e2,Yx] at hm
    ·simp only [e2,Yt] at hm
     exact e2 (h.wf.dis m n b hm hb)
   ·simp only [World.cell?,h1]
    simpa using hj
  ·exact SF.mono hev (fun _ _=>rfl) (h.s j s hj)
 ·rw [Zf] at hm
  split at hm
  ·rename_i e
   simp only [YX] at hm;subst hm;subst e
   intro b hb
   simp only [Yx] at hb
  ·rename_i e
   have e2:¬ m=n:=fun h=>e h.symm
   simp only [e2,Yt]
   exact RS.mono hev (fun _ _=>rfl) (fun _ _=>rfl) (h.r m r hm)
 ·by_cases e1:m=n
  ·simp only [e1,Yx] at hm
  ·simp only [e1,Yt] at hm
   obtain ⟨r,hr⟩:=h.em m b hm
   exact ⟨r,by rw [Zf,Yb (fun h=>e1 h.symm)];exact hr⟩
end
section
variable {P:Program} {d:Option Nat} {t t' ty:TypeId} {pos:String} {af:Array Edge} {g:Option (Nat×Bool)} {x y z z':Operand} {ps qs rs:List (Nat×SF)} {k k':IntKind} {i j:Int}
theorem PVs.dropR {α:Type} {R:α→List PV} {sz:Nat} (hR:∀ x,(R x).length=sz) {w y} : ∀ {l:List α} {vs:List Value} (i:Nat),PVs (l.flatMap R) vs w y→PVs ((l.drop i).flatMap R) (vs.drop (i*sz)) w y
 | [],[],i,_=>by simp [PVs]
 | x :: l,vs,0,h=>by simpa using h
 | x :: l,vs,i+1,h=>by
  rw [Y0] at h
  obtain ⟨us,zs,rfl,h1,h2⟩:=PVs.split h
  have hl:us.length=sz:=KH
  have:=PVs.dropR hR (l:=l) i h2
  rw [List.drop_succ_cons,Ya9,show (us++zs).drop (i*sz+sz)=zs.drop (i*sz) by rw [YbC,← hl,List.drop_append,YaY ow];simp]
  exact this
theorem Zkw {α:Type} {R:α→List PV} {l:List α} {e sz len:Nat} (hu:P.underlying t=some (.array len e)) (hs:(P.info? e).map (·.size)=some sz) (hR:∀ x,(R x).length=sz) (hl:l.length=len) (hm:len≤maxLen) (hx:Opd x ps (.pv (.ref (l.flatMap R)))) (hz:Opd z qs (.pv (.int k i))) (h0:0≤i) (h1:i≤len) :
  OpC P ⟨d,.slice t x (some z) none none,ty,pos,af,g⟩ ⟨ps++qs,[],.pv (.sl R (l.drop i.toNat)),[]⟩:=
 OpC.pure fun a w yy hp=>by
  obtain ⟨b,off,vs,e1,hy,hb,hc,hpv⟩:=hx a w yy hp.left
  have e2:=(hz a w yy hp.right).1
  have hbd:(Instr.sliceBounds false len len (some (.int k i)) none none).run P w = .ok (i.toNat,len,len) w:=by
   have h1':i≤((len:Nat):Int):=h1
   simp [Instr.sliceBounds,Instr.sliceBound,asIntOf,h0,h1']
  refine ⟨.slice (some (if len=i.toNat then ⟨b,off,none⟩ else (⟨b,off,none⟩:Addr).add (i.toNat*sz))) (len - i.toNat) (len - i.toNat),?_,fun _ _=>?_⟩
  ·simp [execOp,e1,e2,Instr.sliceAt,Instr.sureAddr,Yo hu,hbd,run_sizeOf hs]
  ·have hld:(l.drop i.toNat).length=len - i.toNat:=by rw [YS,hl]
   refine ⟨_,len - i.toNat,by rw [hld],ow,ow,?_⟩
   by_cases he:len=i.toNat
   ·left;exact YM ow
   ·right
    rw [Yb he]
    refine ⟨b,off+i.toNat*sz,vs.drop (i.toNat*sz),?_,hy,hb,?_,PVs.dropR hR _ hpv⟩
    ·unfold Addr.add
     split
     ·rename_i h;simp [h]
     ·rfl
    ·have hlen:i.toNat*sz≤vs.length:=by
      have h2:=hpv.len
      have h3:(l.flatMap R).length=l.length*sz:=by
       clear hpv h2 hx hl hld
       induction l with
       | nil=>simp
       | cons x l ih=>rw [Y0,Yc,hR,ih,Yh,Ya9];omega
      rw [← h2,h3,hl]
      exact YN sz ow
     have:vs=vs.take (i.toNat*sz)++vs.drop (i.toNat*sz):=(YaD _ _).symm
     rw [this] at hc
     have h4:=Zt.right hc
     rwa [Yp,Ya7 hlen] at h4
theorem Ent.bs {l l':List UInt8} (h:l=l'):Ent (.pv (.bs l)) (.pv (.bs l')):=by subst h;exact Ent.refl
def rB (x:Int):List PV:=[.int .u8 x]
def toB (x:Int):UInt8:=UInt8.ofNat x.toNat
theorem ZsW {x:Int} (h:inR .u8 x):((toB x).toNat:Int)=x:=by
 simp [inR,IntKind.min,IntKind.max,IntKind.signed,IntKind.bits] at h
 unfold toB
 rw [UInt8.toNat_ofNat']
 omega
theorem ZfQ {w:World} {y:Ys} {b:Nat} : ∀ {l:List Int} {off:Nat} {vs:List Value},PVs (l.flatMap rB) vs w y→Zt w b off vs → ∀ j (hj:j<(l.map toB).length),w.cell? ⟨b,off+j,none⟩ = some (.int .u8 ((l.map toB)[j].toNat:Int))
 | [],off,vs,_,_,j,hj=>by simp at hj
 | x :: l,off,[],h,_,_,_=>by simp [rB,PVs] at h
 | x :: l,off,v :: vs,h,hc,j,hj=>by
  have h':(v.oneCell' = true∧(PV.int .u8 x).p v w y)∧PVs (l.flatMap rB) vs w y:=h
  obtain ⟨⟨_,hv,hr⟩,h2⟩:=h'
  cases j with
  | zero=>
   have:=hc.1
   rw [hv] at this
   simp only [YG,List.getElem_cons_zero,ZsW hr]
   simpa using this
  | succ j=>
   have:=ZfQ h2 hc.2 j XJ
   simp only [YG,List.getElem_cons_succ]
   rw [show off+(j+1)=off+1+j by omega];exact this
theorem o_conv_sl_bs {l:List Int} {e:TypeId} (hs:P.underlying t=some (.slice e)) (he:P.underlying e=some (.int .u8)) (hd:P.underlying t' = some .string) (hx:Opd x ps (.pv (.sl rB l))) :
  OpC P ⟨d,.convert t t' x,ty,pos,af,g⟩ ⟨ps,[],.pv (.bs (l.map toB)),[]⟩:=
 OpC.pure fun a w yy hp=>by
  obtain ⟨ad,cap,e1,h1,h2,h3⟩:=hx a w yy hp
  refine ⟨.string ⟨(l.map toB).toArray⟩,?_,fun _ _=>⟨rfl,by rw [Zbr,YJ];omega⟩⟩
  rcases h3 with rfl | ⟨b,off,vs,rfl,_,_,hc,hpv⟩
  ·have:(convert t t' (.slice ad 0 cap)).run P w = .ok (.string ⟨#[]⟩) w:=by
    rw [run_convert_bytes_string w t t' e ad 0 cap hs he hd]
    cases ad with
    | none=>simp [Conv.bytesToString];rfl
    | some ad=>rfl
   simp only [execOp,e1,Yq,Ya8,YD,this,Yv,YI]
  ·have:=run_convert_bytes_back (P:=P) w t t' e ⟨b,off,none⟩ cap (l.map toB) hs he hd (fun j hj=>by
    have:=ZfQ hpv hc j hj
    have ea:(⟨b,off,none⟩:Addr).add j = ⟨b,off+j,none⟩:=by
     unfold Addr.add
     split
     ·rename_i h;simp [h]
     ·rfl
    rw [ea];exact this)
   rw [YJ] at this
   simp only [execOp,e1,YD,this,Yv,YI]
theorem ZdN {l:List Int} {e:TypeId} (hs:P.underlying t=some (.slice e)) (he:P.underlying e=some (.int .u8)) (hd:P.underlying t' = some .string) (hl:Nat.ble l.length maxLen=true) (hx:Opd x ps (.pv (.arr l.length (l.flatMap rB)))) :
  OpC P ⟨d,.convert t t' x,ty,pos,af,g⟩ ⟨ps,[],.pv (.bs (l.map toB)),[]⟩:=
 o_conv_sl_bs hs he hd (fun a w y hp=>by
  obtain ⟨b,vs,e1,h1,h2,h3,h4⟩:=hx a w y hp
  exact ⟨some ⟨b,0,none⟩,l.length,e1,YF _,Yak hl,.inr ⟨b,0,vs,rfl,h1,h2,h3,h4⟩⟩)
end
end Go.Gm
namespace Go.Gm
open Go.Lib
set_option linter.unusedVariables false
set_option linter.unusedSimpArgs false
def rC (c:UInt8):List PV:=[.int .u8 (c.toNat:Int)]
section
variable {P:Program} {d:Option Nat} {t t' ty:TypeId} {pos:String} {af:Array Edge} {g:Option (Nat×Bool)} {x y z z':Operand} {ps qs rs:List (Nat×SF)} {k k':IntKind} {i j:Int} {T:TypeId} {cells:List CF} {v:Value}
theorem ZdK {s:TypeId} (n:Nat) (hs:P.underlying t=some (.pointer s)) (hd:P.underlying t' = some .unsafePointer) (hz:(P.info? s).map (fun i=>Nat.blt 0 i.size)=some true) (hc:Nat.blt 0 cells.length=true) (hx:Opd x ps (.pv (.is v))) :
  OpC P ⟨d,.convert t t' x,ty,pos,af,g⟩ ⟨ps,[(n,.pt (.val v) T cells)],.pv (.is v),[]⟩:=
 OpC.read fun act w F hp hr=>by
  obtain ⟨b,vs,e1,hb,hf,hcs⟩:=Zbe (hr (n,.pt (.val v) T cells) XM)
  have e2:=hx act w (U F) hp
  simp only [Anc.v] at e1
  obtain ⟨i,hi,hz'⟩:=Y7.1 hz
  have hl:vs.size=cells.length:=by have:=hcs.len;simpa using this.symm
  have hsh:w.shape? b=some (T,vs.size):=by simp [World.shape?,hb]
  have hrun:=run_to_unsafe (P:=P) w (src:=t) (dst:=t') (cells:=vs.size) ⟨b,0,none⟩ hs hd hi (by simp [YaA] at hz';omega) hsh (by simp [YaA] at hc;simp;omega)
  refine ⟨v,?_,fun _ _=>⟨rfl,by rw [e1];rfl⟩⟩
  have e3:act.eval x = .pointer (some ⟨b,0,none⟩):=by rw [e2.1];exact e1
  simp only [execOp,e3,YD,hrun,Yv,YI,e1]
theorem ZfV {s:TypeId} (n:Nat) (hs:P.underlying t=some .unsafePointer) (hd:P.underlying t' = some (.pointer s)) (hz:(P.info? s).isSome=true) (hc:liesAt P P.depth T (cells.length / P.cellsOf T) 0 s 1=true) (hx:Opd x ps (.pv (.is v))) :
  OpC P ⟨d,.convert t t' x,ty,pos,af,g⟩ ⟨ps,[(n,.pt (.val v) T cells)],.pv (.is v),[]⟩:=
 OpC.read fun act w F hp hr=>by
  obtain ⟨b,vs,e1,hb,hf,hcs⟩:=Zbe (hr (n,.pt (.val v) T cells) XM)
  have e2:=hx act w (U F) hp
  simp only [Anc.v] at e1
  obtain ⟨i,hi⟩:=YaH.1 hz
  have hl:vs.size=cells.length:=by have:=hcs.len;simpa using this.symm
  have hsh:w.shape? b=some (T,vs.size):=by simp [World.shape?,hb]
  have hrun:=run_from_unsafe (P:=P) w (src:=t) (dst:=t') (cells:=vs.size) ⟨b,0,none⟩ hs hd hi hsh (by rw [hl];exact hc)
  refine ⟨v,?_,fun _ _=>⟨rfl,by rw [e1];rfl⟩⟩
  have e3:act.eval x = .pointer (some ⟨b,0,none⟩):=by rw [e2.1];exact e1
  simp only [execOp,e3,YD,hrun,Yv,YI,e1]
theorem Zhd {f : FuncId} {fn : Func} {tys : Array TypeId} (hf : P.funcs[f]? = some fn) (hname : (fn.name == "runtime.NumGoroutine") = false) (hb : fn.body.isNone = true) (hn : Extern.findNext fn = none) (he : Extern.find fn = some Extern.AbiNoEscape.same) (hx : Opd x ps (.pv (.is v))) :
   OpC P ⟨d,.call { callee:=.value (.func f),args:=#[x],argTypes:=tys },ty,pos,af,g⟩ ⟨ps,[],.pv (.is v),[]⟩:=
 OpC.pure fun a w yy hp=>by
   have e1:=hx a w yy hp
   refine ⟨v,?_,fun _ _=>⟨rfl,by rw [← e1.1];exact e1.2⟩⟩
   have hc:=run_callFunc_extern (P:=P) hf hname hb hn he #[v] w
   have e2:a.eval (.func f) = .func (.func f) #[] #[]:=rfl
   rw [run_noEscape] at hc
   simpa [execOp,resolve,e1.1,e2,Deferred.ofValue,invoke] using hc
theorem ZgM {s:TypeId} {b:Nat} (hu:P.underlying t=some (.pointer s)) (hi:(P.info? s).isSome=true) (hx:Opd x ps (.pv (.is (.pointer (some ⟨b,0,none⟩))))) (hy:Opd y qs (.pv (.is (.pointer (some ⟨b,0,none⟩))))) :
  OpC P ⟨d,.binOp .neq t x y t',ty,pos,af,g⟩ ⟨ps++qs,[],.pv (.bool false),[]⟩:=
 OpC.pure fun a w yy hp=>by
  have e1:=(hx a w yy hp.left).1
  have e2:=(hy a w yy hp.right).1
  obtain ⟨j,hj⟩:=YaH.1 hi
  have hr:=run_neq_ptr_same (P:=P) w ⟨b,0,none⟩ hu hj
  refine ⟨.bool false,?_,fun _ _=>rfl⟩
  simp only [execOp,e1,e2,YD,show (eqGuard .neq t x y (.pointer (some ⟨b,0,none⟩)) (.pointer (some ⟨b,0,none⟩))).run P w = .ok () w from rfl,Yv,hr,YI]
theorem ZoE {w:World} {y:Ys} : ∀ (l:List UInt8),PVs (l.flatMap rC) (l.map fun b=>Value.int .u8 (b.toNat:Int)) w y
 | []=>trivial
 | c :: l=>⟨⟨rfl,rfl,by
  have:=c.toNat_lt
  simp [inR,IntKind.min,IntKind.max,IntKind.signed,IntKind.bits];omega⟩,ZoE l⟩
theorem ZjY (l:List UInt8):strCells ⟨l.toArray⟩ = l.map fun b=>Value.int .u8 (b.toNat:Int):=by simp [strCells]
theorem Zgv {w:World} {t u T:TypeId} {ty:TypeId} (ht:P.underlying t=some (.slice T)) (hu:P.underlying u=some .string) (hi:∃ i,P.info? T=some i∧i.zero=some (.int .u8 0)∧i.size=1∧i.bytes=1) {v:Value} {n:Nat} {xs:List Value} (hown:w.ownsRow 0 T 1 v n xs) (s:ByteArray)
  (h63:n+s.size≤maxLen) (hbytes:n+s.size≤140737488355328) :
  ∃ v' w',(Builtin.append_ #[t,u] ty #[v,.string s]).run P w = .ok v' w' ∧ w'.ownsRow 0 T 1 v' (n+s.size) (xs++strCells s)∧w.grownBy w' v.ownBlock ∧ ∀ k,v'.ownBlock=some k→v.ownBlock=some k∨k=w.heap.size:=by
 obtain ⟨i,hi,hz,hsz,hby⟩:=hi
 obtain ⟨v',w',r1,r2,r3,r4⟩:=run_append_own_string (P:=P) w 0 t u ty T i ht hu hi hz hsz hby v n xs hown s h63 hbytes (YA _)
 refine ⟨v',w',r1,r2,r3,fun k hk=>?_⟩
 rcases hown.2 with ⟨rfl,rfl⟩ | ⟨g,cap,cur,rfl,_,hg,hnc,hcm,hcs,htake⟩
 ·by_cases hm:s.size=0
  ·have:=r4.2 ⟨rfl,hm⟩
   rw [this] at hk;simp [Value.ownBlock] at hk
  ·have hr:=run_append_nil_string (P:=P) w t u ty T i _ ht hu hi hz s ow XY (by rw [hby];omega)
   rw [r1] at hr
   simp only [YbD] at hr
   rw [hr.1] at hk
   simp [Value.ownBlock] at hk
   exact .inr hk.symm
 ·by_cases hroom:n+s.size≤cap
  ·have hr:=run_append_room_string (P:=P) w t u ty T i ht hu hi hsz g n cap cur hg s hroom (by rw [hcs];omega)
   rw [r1] at hr
   simp only [YbD] at hr
   rw [hr.1] at hk
   exact .inl hk
  ·have holds:∀ j u,xs[j]? = some u→w.cell? ((⟨g,0,none⟩:Addr).add j)=some u:=hown.cells (g:=g) rfl
   have hr:=run_append_grow_string (P:=P) w t u ty T i _ ht hu hi hz ⟨g,0,none⟩ n cap xs (by rw [hsz];exact hown.1) holds s ow XY (by rw [hby];have:=growslice_fits (bytes:=1) (show cap<n+s.size by omega) ow;simpa using this)
   rw [r1] at hr
   simp only [YbD] at hr
   rw [hr.1] at hk
   simp [Value.ownBlock] at hk
   exact .inr hk.symm
theorem ZeC {u:TypeId} {a:Anc} {l l':List UInt8} {d':Nat} (n:Nat) (ht:P.underlying t=some (.slice T)) (hu:P.underlying u=some .string) (hi:(P.info? T).map (fun i=>(i.zero,i.size,i.bytes))=some (some (.int .u8 0),1,1)) (hx:Zar x ps a) (hy:Opd y qs (.pv (.bs l'))) (hb:l.length+l'.length≤140737488355328) :
  OpC P ⟨some d',.call { callee:=.builtin .append,args:=#[x,y],argTypes:=#[t,u] },ty,pos,af,g⟩ ⟨ps++qs,[(n,.ob a (Zz T 1 rC l))],.same d',[(n,.ob (.slot d') (Zz T 1 rC (l++l')))]⟩:=fun act w F K Q hw hp hr ht'=>by
 obtain ⟨xs,h1,h2,h3⟩:=hr (n,.ob a (Zz T 1 rC l)) XM
 have e2:act.eval x=a.v (Act.tau act):=hx act w _ hp.left
 have e3:=(hy act w _ hp.right).1
 have hi':∃ i,P.info? T=some i∧i.zero=some (.int .u8 0)∧i.size=1∧i.bytes=1:=by
  obtain ⟨i,h4,h5⟩:=Y7.1 hi
  simp only [Prod.mk.injEq] at h5
  exact ⟨i,h4,h5.1,h5.2.1,h5.2.2⟩
 obtain ⟨v',w',r1,r2,r3,r4⟩:=Zgv (P:=P) (ty:=ty) ht hu hi' h1 ⟨l'.toArray⟩ (by rw [Zbr];unfold maxLen;omega) (by rw [Zbr];exact hb)
 rw [Zbr,ZjY] at r2
 have hrun:(execOp act.eval ⟨some d',.call { callee:=.builtin .append,args:=#[x,y],argTypes:=#[t,u] },ty,pos,af,g⟩).run P w = .ok (.value v') w':=by
  simp only [execOp,resolve,invoke,builtin,YD,YI,Yv,Ybe,YG,Ya8,e2,e3,r1]
 simp only [Oper.wp,hrun,Oper.upon]
 obtain ⟨g1,g2⟩:=Zie hw r3 h3 r4 (fun k hk=>(r2.lt k hk).2)
 refine ht' v' w' _ g1 g2 (by
  obtain ⟨ad,cap,e,_⟩:=ZG r2
  exact ⟨by simp [upd],by rw [e];rfl⟩) ?_
 intro z hz
 simp only [Yn] at hz
 subst hz
 have hτ:upd (Act.tau act) (some d') v' d' = v':=KI
 refine ⟨xs++l'.map (fun b=>Value.int .u8 (b.toNat:Int)),?_,?_,?_⟩
 ·simp only [Anc.v,hτ,Yc];exact r2
 ·rw [Y2]
  exact PVs.append (PVs.mono g2.ev h2) (ZoE l')
 ·intro b;simp [Anc.v,hτ]
theorem ZfZ {a:Anc} {l:List UInt8} {tys:Array TypeId} (n:Nat) (hl:l≠[]) (hx:Zar x ps a) (hd:ZaO d (.adr a 0)=true) :
  OpC P ⟨d,.call { callee:=.builtin .unsafeSliceData,args:=#[x],argTypes:=tys },ty,pos,af,g⟩ ⟨ps,[(n,.ob a (Zz T 1 rC l))],.adr a 0,[]⟩:=
 OpC.read fun act w F hp hr=>by
  obtain ⟨xs,h1,h2,h3⟩:=hr (n,.ob a (Zz T 1 rC l)) XM
  obtain ⟨ad,cap,e1,h4,h5,h6⟩:=ZG h1
  have hpos:0<l.length:=Ya0.2 hl
  rcases h6 with h6 | ⟨b,rfl,h7,_⟩
  ·omega
  ·have e2:act.eval x = .slice (some ⟨b,0,none⟩) l.length cap:=Kr
   have hrun:=run_unsafeSliceData_row (P:=P) w tys ty ⟨b,0,none⟩ l.length cap ow
   refine ⟨.pointer (some ⟨b,0,none⟩),?_,fun τ' ht=>Z9 hd ht ?_⟩
   ·simp only [execOp,resolve,invoke,builtin,YD,YI,Yv,Ybe,YG,Ya8,e2,hrun]
   ·simp [SF.holds,e1,shift]
theorem Ze7 {tys:Array TypeId} (hx:Opd x ps (.pv (.is (.slice none 0 0)))) :
  OpC P ⟨d,.call { callee:=.builtin .unsafeSliceData,args:=#[x],argTypes:=tys },ty,pos,af,g⟩ ⟨ps,[],.pv (.is (.pointer none)),[]⟩:=
 OpC.pure fun act w yy hp=>by
  have e2:=(hx act w yy hp).1
  have hrun:=run_unsafeSliceData_nil (P:=P) w tys ty 0 0
  exact ⟨.pointer none,by simp only [execOp,resolve,invoke,builtin,YD,YI,Yv,Ybe,YG,Ya8,e2,hrun],fun _ _=>⟨rfl,rfl⟩⟩
theorem ZdQ {pt it:TypeId} (hx:Opd x ps (.pv (.is (.pointer none)))) (hy:Opd y qs (.pv (.int .i64 0))) :
  OpC P ⟨d,.call { callee:=.builtin .unsafeString,args:=#[x,y],argTypes:=#[pt,it] },ty,pos,af,g⟩ ⟨ps++qs,[],.pv (.bs []),[]⟩:=
 OpC.pure fun act w yy hp=>by
  have e1:=(hx act w yy hp.left).1
  have e2:=(hy act w yy hp.right).1
  have hrun:=run_unsafeString_none (P:=P) w pt it ty none
  exact ⟨.string ⟨#[]⟩,by simp only [execOp,resolve,invoke,builtin,YD,YI,Yv,Ybe,YG,Ya8,e1,e2,hrun];rfl,fun _ _=>⟨rfl,by decide⟩⟩
theorem Zkg (w:World) (b n k:Nat) (h:k≠b):(w.freeze ⟨b,0,none⟩ n).heap[k]? = w.heap[k]?:=by
 unfold World.freeze
 split
 ·rfl
 ·simp only [Array.getElem?_modify]
  rw [Yb (fun e=>h e.symm)]
theorem Zke (w:World) (b n:Nat):(w.freeze ⟨b,0,none⟩ n).os=w.os∧(w.freeze ⟨b,0,none⟩ n).tape=w.tape∧(w.freeze ⟨b,0,none⟩ n).output=w.output∧(w.freeze ⟨b,0,none⟩ n).heap.size=w.heap.size:=by
 unfold World.freeze
 split
 ·exact ⟨rfl,rfl,rfl,rfl⟩
 ·exact ⟨rfl,rfl,rfl,by simp⟩
theorem Zoq {w:World} {y:Ys} {b:Nat} : ∀ {l:List UInt8} {off:Nat} {vs:List Value},PVs (l.flatMap rC) vs w y→Zt w b off vs → ∀ (j:Nat) (x:UInt8),l[j]? = some x→w.cell? ⟨b,off+j,none⟩ = some (.int .u8 (x.toNat:Int))
 | [],off,vs,_,_,j,x,hj=>by simp at hj
 | c :: l,off,[],h,_,_,_,_=>by simp [rC,PVs] at h
 | c :: l,off,v :: vs,h,hc,j,x,hj=>by
  have h':(v.oneCell' = true∧(PV.int .u8 (c.toNat:Int)).p v w y)∧PVs (l.flatMap rC) vs w y:=h
  obtain ⟨⟨_,hv,hr⟩,h2⟩:=h'
  cases j with
  | zero=>
   have h3:=hc.1
   rw [hv] at h3
   simp at hj
   subst hj
   simpa using h3
  | succ j=>
   have:=Zoq h2 hc.2 j x XJ
   rw [show off+(j+1)=off+1+j by omega];exact this
theorem Zc0 {pt it e:TypeId} {a:Anc} {l:List UInt8} {xi d':Nat} (n:Nat) (hp:P.underlying pt=some (.pointer e)) (hc1:Nat.beq (P.cellsOf e) 1=true) (hl:l≠[]) (hy:Opd y qs (.pv (.int .i64 (l.length:Int)))) :
  OpC P ⟨some d',.call { callee:=.builtin .unsafeString,args:=#[.tmp xi,y],argTypes:=#[pt,it] },ty,pos,af,g⟩ ⟨(xi,.adr a 0) :: qs,[(n,.ob a (Zz e 1 rC l))],.pv (.bs l),[(n,RS.hp (HP.star []))]⟩:=fun act w F K Q hw hps hr ht=>by
 obtain ⟨xs,h1,h2,h3⟩:=hr (n,.ob a (Zz e 1 rC l)) XM
 have e1:act.eval (.tmp xi)=shift 0 (a.v (Act.tau act)):=hps (xi,.adr a 0) XM
 have e2:=(hy act w (U F) (fun z hz=>hps z W8)).1
 have hpos:0<l.length:=Ya0.2 hl
 have hown:=h1
 rcases h1.2 with ⟨_,h0⟩ | ⟨b,cap,cur,ev,_,hg,hnc,hcm,hcs,htake⟩
 ·omega
 ·have hcell:=(by
   obtain ⟨ad,cap',e3,_,_,h6⟩:=ZG hown
   rcases h6 with h6 | ⟨b',hb',h7,h8⟩
   ·omega
   ·rw [ev] at h7
    simp only [Value.ownBlock,YX] at h7
    subst h7
    exact h8:Zt w b 0 xs)
  have hFb:F n b:=(h3 b).2 (by rw [ev];rfl)
  have hrun:=run_unsafeString_row (P:=P) w pt it ty e hp (Y5 hc1) b cur.size (by simp [World.shape?,hg]) l hl (by rw [hcs];omega) (by unfold maxLen at hcm;omega) (fun j x hj=>by
   have:=Zoq h2 hcell j x hj
   rw [show (⟨b,0,none⟩:Addr).add j = ⟨b,0+j,none⟩ by unfold Addr.add;split; (· rename_i hh;simp [hh]); · rfl]
   exact this)
  have e3:act.eval (.tmp xi) = .pointer (some ⟨b,0,none⟩):=by rw [e1,ev];simp [shift]
  have hrun':(execOp act.eval ⟨some d',.call { callee:=.builtin .unsafeString,args:=#[.tmp xi,y],argTypes:=#[pt,it] },ty,pos,af,g⟩).run P w = .ok (.value (.string ⟨l.toArray⟩)) (w.freeze ⟨b,0,none⟩ l.length):=by
   simp only [execOp,resolve,invoke,builtin,YD,YI,Yv,Ybe,YG,Ya8,e3,e2,hrun]
  simp only [Oper.wp,hrun',Oper.upon]
  obtain ⟨f1,f2,f3,f4⟩:=Zke w b l.length
  refine ht _ _ (fun m=>if m=n then fun _=>False else F m) ⟨fun i j b' hi hj=>?_,fun i b' hi=>?_⟩ ⟨f1,f2,f3,by rw [f4];exact YF _,fun b' hb' hn=>?_,fun m hm=>?_,fun m hm b' hb'=>?_⟩ ⟨rfl,?_⟩ ?_
  ·by_cases e4:i=n
   ·simp only [e4,Yx] at hi
   ·by_cases e5:j=n
    ·simp only [e5,Yx] at hj
    ·simp only [e4,e5,Yt] at hi hj;exact hw.dis i j b' hi hj
  ·by_cases e4:i=n
   ·simp only [e4,Yx] at hi
   ·simp only [e4,Yt] at hi;rw [f4];exact hw.bd i b' hi
  ·exact Zkg w b l.length b' (fun e=>hn n (by simp [CD.W]) (e ▸ hFb))
  ·have e4:¬ m=n:=fun e=>hm (by simp [CD.W,e])
   simp only [e4,Yt]
  ·have e4:m=n:=by simpa [CD.W] using hm
   simp only [e4,Yx] at hb'
  ·rw [Zbr];unfold maxLen at *;omega
  ·intro z hz
   simp only [Yn] at hz
   subst hz
   intro b' hb'
   simp only [Yx] at hb'
end
end Go.Gm
namespace Go.Gm
open Go.ChangeShapes Go.WideShapes Go.ChangeAt Go.RowKit Go.Deep
set_option linter.unusedVariables false
set_option linter.unusedSimpArgs false
abbrev noY:Ys:=fun _=>False
def Zd8 (P:Program) (t:TypeId) {β:Type} (R:β→List PV):Prop:=
 ∀ (H:Type) (enc:TypeId×Value→H) (w:World) (base:Nat) (sp:Nat→Bool) (held:Bool) (n:Nat) (cs:List Value) (x:DataW H×List MemPlace),DataW.trod enc P w base sp held n t cs=some x → ∃ b:β,PVs (R b) cs w noY
section
variable {P:Program} {t:TypeId}
theorem ZuM {k:IntKind} {n:Int} (h:(Lit.int k n).wf=true):inR k n:=by simpa [Lit.wf,inR] using h
theorem ZbW {k:IntKind} (hu:P.underlying t=some (.int k)):Zd8 P t (fun i:Int=>[.int k i]):=fun H enc w base sp held n cs x h=>by
 obtain ⟨i,rfl,_,hw⟩:=DataW.trod_int hu h
 exact ⟨i,⟨rfl,rfl,ZuM hw⟩,tv⟩
theorem ZgW (hu:P.underlying t=some .bool):Zd8 P t (fun b:Bool=>[.bool b]):=fun H enc w base sp held n cs x h=>by
 obtain ⟨b,rfl,_⟩:=DataW.trod_bool hu h
 exact ⟨b,⟨rfl,rfl⟩,tv⟩
theorem Zd8.map {β γ:Type} {R:β→List PV} {R':γ→List PV} (h:Zd8 P t R) (f:β→γ) (e:∀ b,R b=R' (f b)):Zd8 P t R':=fun H enc w base sp held n cs x hx=>by
 obtain ⟨b,hb⟩:=h H enc w base sp held n cs x hx
 exact ⟨f b,by rw [← e b];exact hb⟩
def ZkN (P:Program) (fs:List Field) (off tot:Nat) {β:Type} (R:β→List PV):Prop:=
 ∀ (H:Type) (enc:TypeId×Value→H) (w:World) (base:Nat) (sp:Nat→Bool) (held:Bool) (n:Nat) (cs:List Value),cs.length=tot →
  (∀ (i:Nat) (f:Field),fs[i]? = some f → ∃ x,DataW.trod enc P w base sp held n f.type ((cs.drop f.offset).take (P.cellsOf f.type))=some x) → ∃ b:β,PVs (R b) (cs.drop off) w noY
theorem Zd5 {tot:Nat} : ZkN P [] tot tot (fun _:Unit=>[]):=fun H enc w base sp held n cs hl _=>⟨(),by rw [YaY ow];trivial⟩
theorem Zan {f:Field} {fs:List Field} {off k tot:Nat} {β γ:Type} {R:β→List PV} {R':γ→List PV} (ho:Nat.beq f.offset off=true) (hk:Nat.beq (P.cellsOf f.type) k=true) (h:Zd8 P f.type R) (h':ZkN P fs (off+k) tot R') :
  ZkN P (f :: fs) off tot (fun p:β×γ=>R p.1++R' p.2):=fun H enc w base sp held n cs hl hx=>by
 obtain ⟨x,hf⟩:=hx 0 f rfl
 obtain ⟨b,hb⟩:=h H enc w base sp held n _ x hf
 obtain ⟨c,hc⟩:=h' H enc w base sp held n cs hl (fun i g hg=>hx (i+1) g (by simpa using hg))
 refine ⟨(b,c),?_⟩
 have e1:=Y5 ho
 have e2:=Y5 hk
 rw [e1,e2] at hb
 have:=PVs.append hb hc
 rwa [show cs.drop (off+k)=(cs.drop off).drop k by rw [YbT],YaD] at this
theorem ZcE {fs:List Field} {tot:Nat} {β:Type} {R:β→List PV} (hu:P.underlying t=some (.struct fs.toArray)) (hc:Nat.beq (P.cellsOf t) tot=true) (h:ZkN P fs 0 tot R):Zd8 P t R:=fun H enc w base sp held n cs x hx=>by
 obtain ⟨xs,m,rfl,_,hl,hls,hf⟩:=DataW.trod_struct hu hx
 have:=h H enc w base sp held m cs (by rw [hl];exact Y5 hc) (fun i f hi=>by
  have h1:=hf i f XP
  have hi':i<xs.length:=by
   rw [hls]
   have:=(YH.1 hi).1
   simpa using this
  exact ⟨xs[i],by rw [h1];simp [hi']⟩)
 simpa using this
theorem ZeV {w:World} {base n:Nat} {a:Addr} {cs:List Value} (h:w.cells? base a n=some cs):cs.length=n∧Zt w a.block a.off cs∧(0<n→a.spot=none):=by
 obtain ⟨_,hl,hc⟩:=World.cells?_some h
 have hsp:0<n→a.spot=none:=fun h0=>by
  have h1:=hc 0 h0
  simp only [Addr.add,Yx] at h1
  have:(w.cell? a).isSome=true:=by rw [h1];simp [Yas (show 0<cs.length by omega)]
  unfold World.cell? at this
  split at this
  ·split at this
   ·cases this
   ·rename_i hh;simpa using hh
  ·cases this
 refine ⟨hl,Zt.mk fun j v hj=>?_,hsp⟩
 have hjl:j<n:=by rw [← hl];exact (YH.1 hj).1
 have h1:=hc j hjl
 rw [hj] at h1
 have e:a.add j = ⟨a.block,a.off+j,none⟩:=by
  unfold Addr.add
  by_cases h0:j=0
  ·subst h0
   have:=hsp hjl
   cases a;simp_all
  ·simp [h0]
 rw [← e];exact h1
theorem Zdj {e:TypeId} {β:Type} {R:β→List PV} (hu:P.underlying t=some (.slice e)) (hc:Nat.blt 0 (P.cellsOf e)=true) (h:Zd8 P e R):Zd8 P t (fun l:List β=>[.sl R l]):=fun H enc w base sp held n cs x hx=>by
 have hpos:0<P.cellsOf e:=by simpa [YaA] using hc
 rcases open_slice hu hx with ⟨rfl,_⟩ | ⟨a,len,cap,m,k,D,Pl,rfl,_,hl,hm,hmm,_,hel⟩
 ·exact ⟨[],⟨rfl,none,0,rfl,YF _,YA _,.inl rfl⟩,tv⟩
 ·have hle:len≤m:=by rw [hmm];split <;> omega
  have key:∀ j,j≤len → ∃ (l:List β) (vs:List Value),l.length=j∧vs.length=j*P.cellsOf e∧Zt w a.block a.off vs∧PVs (l.flatMap R) vs w noY:=by
   intro j
   induction j with
   | zero=>intro _;exact ⟨[],[],rfl,by simp,tv,tv⟩
   | succ j ih=>
    intro hj
    obtain ⟨l,vs,h1,h2,h3,h4⟩:=ih ow
    obtain ⟨cs',h5,h6⟩:=hel j ow
    obtain ⟨b,hb⟩:=h H enc w base sp held k cs' _ h6
    obtain ⟨h7,h8,_⟩:=ZeV h5
    refine ⟨l ++ [b],vs++cs',by simp [h1],by rw [Yc,h2,h7,Ya9],Zt.append h3 ?_,?_⟩
    ·have e1:(a.add (j*P.cellsOf e)).block=a.block:=by unfold Addr.add;split <;> rfl
     have e2:(a.add (j*P.cellsOf e)).off=a.off+j*P.cellsOf e:=by unfold Addr.add;split <;> simp_all
     rw [e1,e2] at h8
     rw [h2];exact h8
    ·rw [Y2]
     exact PVs.append h4 XS
  obtain ⟨l,vs,h1,h2,h3,h4⟩:=key len (YF _)
  refine ⟨l,⟨rfl,some a,cap,by rw [h1],ow,hm,?_⟩,tv⟩
  by_cases h0:len=0
  ·exact .inl (YM ow)
  ·right
   obtain ⟨cs',h5,h6⟩:=hel 0 ow
   have hs:=(ZeV h5).2.2 hpos
   have hspot:a.spot=none:=by simpa [Addr.add] using hs
   have hlen:0<vs.length:=by rw [h2];exact Nat.mul_pos ow hpos
   refine ⟨a.block,a.off,vs,by cases a;simp_all,fun h=>h,?_,h3,h4⟩
   match vs,hlen,h3 with
   | v :: vs,_,h3=>exact Zt.lt h3
def Zj8 (P:Program) (t:TypeId):Bool:=match P.underlying t with
 | some (.int _)=>true
 | some .bool=>true
 | some .string=>true
 | some (.slice _)=>true
 | _=>false
theorem one_cells {w:World} {r:Reach} {b0:Nat} {v:Value} (ht:Zj8 P t=true) (h:Value.okWide P w r b0 t v):v.cells.toList = [v]:=by
 cases hu:P.underlying t with
 | none=>simp [Zj8,hu] at ht
 | some d=>
  cases d <;> simp [Zj8,hu] at ht <;> simp only [Value.okWide,hu,Cell.okWide] at h <;> (unfold Cell.ok at h) <;> simp only [hu] at h <;> cases v <;> first | rfl | (exact h.elim)
theorem Zfl {H:Type} {enc:TypeId×Value→H} {w:World} {base:Nat} {sp:Nat→Bool} {held:Bool} : ∀ {ts:List TypeId} {vs:List Value} {ds:List (DataW H)} {ps:List MemPlace},DataW.TrodAll enc P w base sp held ts vs ds ps→ds.length=ts.length
 | [],vs,ds,ps,h=>by obtain ⟨rfl,rfl,rfl⟩:=trodAll_nil h;rfl
 | t :: ts,vs,ds,ps,h=>by
  obtain ⟨v,vs',d,ds',p,q,rfl,rfl,rfl,h1,h2⟩:=trodAll_cons h
  simp [Zfl h2]
theorem ZdD {H:Type} {enc:TypeId×Value→H} {W W':World} {sp':Nat→Bool} (hl:laidOutB P=true):∀ {ts:List TypeId} {vs:List Value} {ds:List (DataW H)} {ps:List MemPlace},(∀ t ∈ ts,P.readableRec t=true∧t<P.types.size) →
  DataW.TrodAll enc P W 0 (fun _=>true) true ts vs ds ps→(∀ p ∈ ps,W.sameAt W' p)→(∀ p ∈ ps,sp' p.block=true)→DataW.TrodAll enc P W' 0 sp' true ts vs ds ps
 | [],vs,ds,ps,_,h,_,_=>by obtain ⟨rfl,rfl,rfl⟩:=trodAll_nil h;exact trodAll_mk0
 | t :: ts,vs,ds,ps,ht,h,h1,h2=>by
  obtain ⟨v,vs',d,ds',p,q,rfl,rfl,rfl,h3,h4⟩:=trodAll_cons h
  refine trodAll_cons_mk (WideElems.Trod_stays hl (ht t XM).1 (ht t XM).2 h3 (fun p hp=>h1 p (Y6 _ hp)) (fun p hp=>h2 p (Y6 _ hp)))
   (ZdD hl (fun t ht'=>ht t (by simp [ht'])) h4 (fun p hp=>h1 p (YW _ hp)) (fun p hp=>h2 p (YW _ hp)))
end
end Go.Gm
namespace Go.Gm
set_option linter.unusedVariables false
set_option linter.unusedSimpArgs false
theorem Ent.arrSl {α:Type} {R:α→List PV} {l:List α} (h:Nat.ble l.length maxLen=true):Ent (.pv (.arr l.length (l.flatMap R))) (.pv (.sl R l)):=fun τ w y v ⟨b,vs,e,h1,h2,h3,h4⟩=>
 ⟨some ⟨b,0,none⟩,l.length,e,YF _,Yak h,.inr ⟨b,0,vs,rfl,h1,h2,h3,h4⟩⟩
end Go.Gm
namespace Go.Gm
set_option linter.unusedVariables false
set_option linter.unusedSimpArgs false
section
variable {P:Program} {t ty:TypeId} {pos:String} {af:Array Edge} {g:Option (Nat×Bool)} {x y:Operand} {ps qs:List (Nat×SF)} {α:Type} {R:α→List PV} {l:List α}
theorem PVs.setR {sz:Nat} (hR:∀ x,(R x).length=sz) {w yy} {v:α} {us:List Value} (hu:PVs (R v) us w yy):∀ {l:List α} {xs:List Value} (i:Nat),i<l.length→PVs (l.flatMap R) xs w yy→PVs ((l.set i v).flatMap R) (xs.take (i*sz)++us++xs.drop (i*sz+sz)) w yy
 | [],xs,i,h,_=>by simp at h
 | z :: l,xs,0,_,h=>by
  rw [Y0] at h
  obtain ⟨us1,us2,rfl,h1,h2⟩:=PVs.split h
  have hl:us1.length=sz:=KH
  rw [List.set_cons_zero,Y0,Nat.zero_mul,List.take_zero,Yax,Yab,← hl,List.drop_left]
  exact PVs.append hu h2
 | z :: l,xs,i+1,hi,h=>by
  rw [Y0] at h
  obtain ⟨us1,us2,rfl,h1,h2⟩:=PVs.split h
  have hl:us1.length=sz:=KH
  have ih:=PVs.setR hR hu (l:=l) i XP h2
  rw [List.set_cons_succ,Y0,Ya9,show i*sz+sz=us1.length+i*sz by omega,show us1.length+i*sz+sz=us1.length+(i*sz+sz) by omega,List.take_length_add_append,List.drop_length_add_append,Y1,Y1]
  exact PVs.append h1 (by rw [← Y1];exact ih)
theorem ZhQ {cur us:List Value} {k sz N:Nat} (hk:k+sz≤N) (hu:us.length=sz) (hc:N≤cur.length):(cur.take k++us++cur.drop (k+us.length)).take N=(cur.take N).take k++us++(cur.take N).drop (k+sz):=by
 rw [Ybh,Ya7 ow,hu]
 have h1:(cur.take k++us).length=k+sz:=by rw [Yc,Yp,hu];omega
 rw [List.take_append,h1,Yaf ow,List.drop_take]
theorem Zka {T sz i:Nat} {a:Anc} {v:α} (n:Nat) (hx:Opd x ps (.adr a (i*sz))) (hR:∀ x,(R x).length=sz) (hi:i<l.length) (hy:Opd y qs (.pv (.agg (R v)))) (hs:(P.info? t).map (·.size)=some sz) :
  OpC P ⟨none,.store t x y,ty,pos,af,g⟩ ⟨ps++qs,[(n,.ob a (Zz T sz R l))],.pv .any,[(n,.ob a (Zz T sz R (l.set i v)))]⟩:=fun act w F K Q hw hp hr ht=>by
 obtain ⟨xs,h1,h2,h3⟩:=hr (n,.ob a (Zz T sz R l)) XM
 have ex0:act.eval x=shift (i*sz) (a.v (Act.tau act)):=hx act w (U F) hp.left
 obtain ⟨us,eu,hu⟩:=hy act w (U F) hp.right
 have hul:us.length=sz:=by rw [← hu.len,hR]
 have hxl:=h1.1
 rcases h1.2 with ⟨_,h0⟩ | ⟨b,cap,cur,ev,_,hg,hnc,hcm,hcs,htake⟩
 ·omega
 ·have ex:act.eval x = .pointer (some ⟨b,i*sz,none⟩):=by rw [ex0,ev];simp [shift]
  have hfit:i*sz+sz≤l.length*sz:=KK
  have hfit2:l.length*sz≤cur.size:=Ky
  have hst:=YaB P b (i*sz) T us 0 cur w hg ow hu.one
  have hrun:(execOp act.eval ⟨none,.store t x y,ty,pos,af,g⟩).run P w = .ok .skip (w.setRow b (cur.toList.take (i*sz)++us++cur.toList.drop (i*sz+us.length)).toArray):=by
   simp [execOp,ex,Instr.storeAt,Instr.sureAddr,storeVar,run_sizeOf hs,eu,Value.cells,hul,hst]
  have hf:∀ z,F n z ↔ z=b:=fun z=>by rw [h3 z,ev];simp [Value.ownBlock,Yaj]
  obtain ⟨g1,g2⟩:=Zbq hw hg hf (cur.toList.take (i*sz)++us++cur.toList.drop (i*sz+us.length)).toArray
  simp only [Oper.wp,hrun,Oper.upon]
  refine ht undef _ F g1 g2 trivial ?_
  intro z hz
  simp only [Yn] at hz
  subst hz
  have eτ:upd (Act.tau act) none undef=Act.tau act:=by funext i;simp [upd]
  show RS.holds (upd (Act.tau act) none undef) _ _ _ _
  rw [eτ]
  refine ⟨xs.take (i*sz)++us++xs.drop (i*sz+sz),⟨?_,.inr ⟨b,cap,_,by rw [YU];exact ev,YA _,Ybt w b cur _ T (0,0) hg,by rw [YU];exact hnc,hcm,?_,?_⟩⟩,PVs.setR hR (PVs.mono g2.ev hu) i hi (PVs.mono g2.ev h2),h3⟩
  ·rw [YU,Yc,Yc,Yp,YS,hxl,hul];omega
  ·have:cur.toList.length=cur.size:=by simp
   simp only [YaF,Yc,Yp,YS,this,hul]
   omega
  ·rw [YU]
   have:=ZhQ (cur:=cur.toList) (us:=us) (k:=i*sz) (sz:=sz) (N:=l.length*sz) hfit hul (by simpa using hfit2)
   rw [htake] at this
   simpa using this
theorem Zn2 (zs:List Value) (sz:Nat) (hz:zs.length=sz) (h0:0<sz):∀ n,(madeCells zs.toArray ((n+1)*sz)).toList=(madeCells zs.toArray (n*sz)).toList++zs:=fun n=>by
 simp only [madeCells,Array.toList_map,Array.toList_range,Ya9,List.range_add,Y3,Yba]
 congr 1
 apply YaM
 ·simp [hz]
 ·intro j h1 h2
  have hj:j<sz:=W4
  simp only [List.getElem_map,YbB,Function.comp,YaF,hz]
  rw [Nat.mul_comm n sz,Nat.mul_add_mod,Nat.mod_eq_of_lt hj]
  simp [h2]
theorem ZeQ {w:World} {yy:Ys} {zs:List Value} {sz:Nat} {v:α} (hz:zs.length=sz) (h0:0<sz) (hp:PVs (R v) zs w yy):∀ n,PVs ((List.replicate n v).flatMap R) (madeCells zs.toArray (n*sz)).toList w yy
 | 0=>by simp [madeCells,PVs]
 | n+1=>by
  rw [Zn2 zs sz hz h0 n,List.replicate_succ',Y2]
  refine PVs.append (ZeQ hz h0 hp n) ?_
  simpa using hp
theorem ZaY {e sz bs d':Nat} {k:IntKind} {c:Int} {v:α} {zs:List Value} (n:Nat) (hu:P.underlying t=some (.slice e)) (hi:(P.info? e).map (fun i=>(i.size,i.bytes,i.zero.map (·.cells.toList)))=some (sz,bs,some zs)) (hz:Nat.beq zs.length sz=true) (h0:Nat.blt 0 sz=true) (hp:∀ w yy,PVs (R v) zs w yy)
  (hx:Opd x ps (.pv (.int k c))) (hy:Opd y qs (.pv (.int k c))) (hc:0≤c) (hb:(bs:Int)*c≤281474976710656) (hm:c≤9223372036854775807) :
  OpC P ⟨some d',.makeSlice t x y,ty,pos,af,g⟩ ⟨ps++qs,[],.same d',[(n,.ob (.slot d') (Zz e sz R (List.replicate c.toNat v)))]⟩:=fun a w F K Q hw hps hr ht=>by
 obtain ⟨i,hi1,hi2⟩:=Y7.1 hi
 simp only [Prod.mk.injEq] at hi2
 obtain ⟨e1,e2,e3⟩:=hi2
 obtain ⟨z,hz1,hz2⟩:=Y7.1 e3
 have ex:=(hx a w (U F) hps.left).1
 have ey:=(hy a w (U F) hps.right).1
 have hzc:z.cells=zs.toArray:=by rw [← hz2]
 have hr':=run_make (P:=P) w t e i z hu hi1 hz1 k k c c hc (Yar _) (by rw [e2];exact hb) hm
 rw [hzc,e1] at hr'
 have hrun:(execOp a.eval ⟨some d',.makeSlice t x y,ty,pos,af,g⟩).run P w = .ok (.value (.slice (some ⟨w.heap.size,0,none⟩) c.toNat c.toNat)) (w.alloc (.cells (madeCells zs.toArray (c.toNat*sz)) e)):=by
  simp only [execOp,ex,ey,YD,hr',Yv,YI]
 obtain ⟨g1,g2⟩:=ZaJ hw n (.cells (madeCells zs.toArray (c.toNat*sz)) e)
 simp only [Oper.wp,hrun,Oper.upon]
 refine ht _ _ _ g1 g2 ⟨by simp [upd],rfl⟩ ?_
 intro q hq
 simp only [Yn] at hq
 subst hq
 have hτ:upd (Act.tau a) (some d') (.slice (some ⟨w.heap.size,0,none⟩) c.toNat c.toNat) d' = .slice (some ⟨w.heap.size,0,none⟩) c.toNat c.toNat:=KI
 have hlen:(madeCells zs.toArray (c.toNat*sz)).size=c.toNat*sz:=size_madeCells _ _
 refine ⟨(madeCells zs.toArray (c.toNat*sz)).toList,⟨by simp [hlen],.inr ⟨w.heap.size,c.toNat,_,?_,YA _,Yat w _,by simp,by unfold maxLen;omega,hlen,?_⟩⟩,ZeQ (Y5 hz) (by simpa [YaA] using h0) (hp _ _) _,fun b=>?_⟩
 ·simp only [Anc.v,hτ,Ybb]
 ·rw [Ybb];exact Yaf (by simp [hlen])
 ·simp [Anc.v,hτ,Value.ownBlock,Yaj]
end
def Zid (T:TypeId) (cells:List CF) (v:Value):HP:=⟨fun w f y=>(RS.pt (.val v) T cells).holds tau0 w f y,fun h hf k=>RS.mono h hf (fun _ _=>rfl) k⟩
theorem ZgS {T:TypeId} {cells:List CF} {v:Value} (hd:ZdF (cdeps cells)=true) (τ:Tau) (w:World) (f y:Ys) (h:(RS.hp (Zid T cells v)).holds τ w f y):(RS.pt (.val v) T cells).holds τ w f y:=
 RS.closed (by simp [RS.deps,Anc.deps,Zb0 hd]) h
theorem Zg6 {T:TypeId} {cells:List CF} {v:Value} (hd:ZdF (cdeps cells)=true) (τ:Tau) (w:World) (f y:Ys) (h:(RS.pt (.val v) T cells).holds τ w f y):(RS.hp (Zid T cells v)).holds τ w f y:=
 RS.closed (r:=RS.pt (.val v) T cells) (by simp [RS.deps,Anc.deps,Zb0 hd]) h
section
variable {P:Program} {ty:TypeId} {pos:String} {af:Array Edge} {g:Option (Nat×Bool)} {ps:List (Nat×SF)}
theorem Zde {f:FuncId} {args:Array Operand} {tys:Array TypeId} {d':Nat} {avs:List PV} {T:TypeId} {cells cells':List CF} {v:Value} {q:PV} {fn:Func} (n:Nat) (hd:ZdF (cdeps cells)=true) (hd':ZdF (cdeps cells')=true)
    (hc : FnG P f 1 avs [Zid T cells v] q (fun _ => [Zid T cells' v])) (hf : P.funcs[f]? = some fn) (hb : fn.body.isSome = true) (hn : (fn.name == "runtime.NumGoroutine") = false)
    (ha:∀ (a:Act) w y,Hps ps (Act.tau a) w y → ∃ vs:List Value,args.map a.eval=vs.toArray∧PVt avs vs w y) :
    OpC P ⟨some d',.call { callee:=.value (.func f),args:=args,argTypes:=tys },ty,pos,af,g⟩ ⟨ps,[(n,.pt (.val v) T cells)],.pv q,[(n,.pt (.val v) T cells')]⟩:=
  OpC.res (o_callG1 n hc hf hb hn ha) (fun τ w fb y h=>Zg6 hd τ w fb y h) rfl (fun τ w F h=>by
    intro z hz
    simp only [Yn] at hz
    subst hz
    exact ZgS hd' _ _ _ _ (h (n,RS.hp (Zid T cells' v)) XM))
end
def PV.boolIf (c:Prop):PV:=⟨fun u _ _=>∃ b,u = .bool b∧(b=true→c),fun _ h=>h⟩
theorem Sat.pickBool {B:ZaV} {E:En} {a:Act} {w:World} {F:Fp} (h:Sat B E a w F) {c:Prop} (i:Nat) (hl:look E.s i=some (.pv (.boolIf c))):∃ b,(b=true→c)∧Sat B ⟨(i,.pv (.bool b)) :: E.s,E.r⟩ a w F:=by
 obtain ⟨b,hb,hbc⟩:=h.s i _ hl
 refine ⟨b,hbc,h.wf,h.ev,h.n,h.df,fun j t hj=>?_,h.r,h.em⟩
 rw [Zf] at hj
 split at hj
 ·rename_i e
  simp only [YX] at hj;subst hj;subst e
  exact hb
 ·exact h.s j t hj
section
variable {P:Program} {d:Option Nat} {t t' ty:TypeId} {pos:String} {af:Array Edge} {g:Option (Nat×Bool)} {x:Operand} {ps:List (Nat×SF)} {α:Type} {R:α→List PV} {l:List α}
theorem Zdi {e:TypeId} (hu:P.underlying t=some (.slice e)) (hx:Opd x ps (.pv (.sl R l))) :
  OpC P ⟨d,.binOp .eql t x (.const (.slice none 0 0)) t',ty,pos,af,g⟩ ⟨ps,[],.pv (.boolIf (l = [])),[]⟩:=
 OpC.pure fun a w yy hp=>by
  obtain ⟨ad,cap,e1,_,_,h3⟩:=hx a w yy hp
  have hr:=Go.Lib.run_eql_slice_nil (P:=P) w t e ad l.length cap 0 0 hu
  refine ⟨.bool ad.isNone,?_,fun _ _=>⟨_,rfl,fun hn=>?_⟩⟩
  ·simp only [execOp,e1,Zdq,YD,show (eqGuard .eql t x (.const (.slice none 0 0)) (.slice ad l.length cap) (.slice none 0 0)).run P w = .ok () w from rfl,Yv,hr,YI]
  ·rcases h3 with h3 | ⟨b,off,vs,rfl,_⟩
   ·exact h3
   ·cases hn
end
end Go.Gm
namespace Go.Gm
set_option linter.unusedVariables false
set_option linter.unusedSimpArgs false
section
variable {P:Program} {d:Option Nat} {t ty:TypeId} {pos:String} {af:Array Edge} {g:Option (Nat×Bool)} {x x2 x3:Operand} {ps qs rs:List (Nat×SF)}
theorem ZM {l:List PV} (hx:Opd x ps (.pv (.ref l))):OpC P ⟨d,.nilCheck x,ty,pos,af,g⟩ ⟨ps,[],.pv (.ref l),[]⟩:=
 OpC.pure fun a w yy hp=>by
  obtain ⟨b,k,vs,e1,h⟩:=hx a w yy hp
  exact ⟨.pointer (some ⟨b,k,none⟩),by simp [execOp,e1],fun τ _=>⟨b,k,vs,rfl,h⟩⟩
theorem Zdz {l:List PV} {ty' t':TypeId} (hu:P.underlying t=some (.pointer ty')) (hx:Opd x ps (.pv (.ref l))) :
  OpC P ⟨d,.binOp .eql t x (.const (.pointer none)) t',ty,pos,af,g⟩ ⟨ps,[],.pv (.bool false),[]⟩:=
 OpC.pure fun a w yy hp=>by
  obtain ⟨b,k,vs,e1,_⟩:=hx a w yy hp
  refine ⟨.bool false,?_,fun _ _=>rfl⟩
  have hg:(eqGuard .eql t x (.const (.pointer none)) (.pointer (some ⟨b,k,none⟩)) (.pointer none)).run P w = .ok () w:=rfl
  have hr:=run_eql_pointer_nil (P:=P) w t (some ⟨b,k,none⟩) (ZgQ hu)
  simp only [execOp,e1,Zdq,YD,hg,Yv,hr,YI,Option.isNone_some]
def drop (F:Fp) (n:Nat):Fp:=fun m=>if m=n then fun _=>False else F m
theorem Zeo (F:Fp) (n:Nat):∀ b,U (drop F n) b→U F b:=fun b ⟨m,hm⟩=>⟨m,by
 unfold drop at hm
 by_cases e:m=n
 ·simp only [e,Yx] at hm
 ·simp only [e,Yt] at hm;exact hm⟩
def Za1 (args:Array Operand) (ps:List (Nat×SF)) (an:Anc) (l:List PV) (avs:List PV):Prop:=
 ∀ (a:Act) w y y',Hps ps (Act.tau a) w y→(∀ b,y' b→y b)→(∀ b,an.v (Act.tau a) = .pointer (some ⟨b,0,none⟩)→(PV.ref l).p (.pointer (some ⟨b,0,none⟩)) w y')→(∃ b,an.v (Act.tau a) = .pointer (some ⟨b,0,none⟩)) →
  ∃ vs:List Value,args.map a.eval=vs.toArray∧PVt avs vs w y'
theorem Za1.one {an:Anc} {l:List PV} (h:Za9 x ps an 0):Za1 #[x] ps an l [.ref l]:=fun a w y y' hp hle hr hb=>by
 obtain ⟨b,e⟩:=hb
 refine ⟨[a.eval x],by simp,?_,tv⟩
 rw [h a w y hp b e]
 exact hr b e
theorem Za1.two {an:Anc} {l:List PV} {p2:PV} (h:Za9 x ps an 0) (h2:Opd x2 qs (.pv p2)):Za1 #[x,x2] (ps++qs) an l [.ref l,p2]:=fun a w y y' hp hle hr hb=>by
 obtain ⟨b,e⟩:=hb
 refine ⟨[a.eval x,a.eval x2],by simp,?_,p2.mono (Ev.less w hle) (h2 a w y hp.right),tv⟩
 rw [h a w y hp.left b e]
 exact hr b e
theorem Zts {f:FuncId} {args:Array Operand} {tys:Array TypeId} {an:Anc} {T:TypeId} {cells:List CF} {avs:List PV} {q:PV} {fn:Func} (n:Nat) (hc:FnP P f avs q) (hq:∀ v w y w' y',q.p v w y→q.p v w' y') (hk:ZmT cells=true)
    (hf : P.funcs[f]? = some fn) (hb : fn.body.isSome = true) (hn : (fn.name == "runtime.NumGoroutine") = false) (ha : Za1 args ps an (unCF cells) avs) :
    OpC P ⟨d,.call { callee:=.value (.func f),args:=args,argTypes:=tys },ty,pos,af,g⟩ ⟨ps,[(n,.pt an T cells)],.pv q,[]⟩:=fun a w F K Q hw hp hr ht=>by
  obtain ⟨b,us,e1,h1,h2,h3⟩:=Zbe (hr (n,.pt an T cells) XM)
  have hle:=Zeo F n
  have hev:=Ev.less w hle
  obtain ⟨vs,e,hvs⟩:=ha a w (U F) (U (drop F n)) hp hle (fun b' e'=>by
    rw [e1] at e'
    simp only [Value.pointer.injEq,YX,Addr.mk.injEq] at e'
    obtain ⟨rfl,_⟩:=e'
    have hbF:F n b:=(h2 b).2 rfl
    refine ⟨b,0,us.toList,rfl,?_,hw.bd n b hbF,Zt.mk fun j v hj=>?_,PVs.mono hev (PVs.unCF hk h3)⟩
    · rintro ⟨m,hm⟩
      unfold drop at hm
      by_cases e2:m=n
      · simp only [e2,Yx] at hm
      · simp only [e2,Yt] at hm
        exact e2 (hw.dis m n b hm hbF)
    · simp only [Yab]
      simp [World.cell?,h1]
      simpa using hj) ⟨b,e1⟩
  have hbn:fn.body≠none:=Kd
  have hn' : fn.name ≠ "runtime.NumGoroutine" := by intro h; rw [h] at hn; simp at hn
  have hrun:(execOp a.eval ⟨d,.call { callee:=.value (.func f),args:=args,argTypes:=tys },ty,pos,af,g⟩).run P w = .ok (.enter f vs.toArray) w:=by
    have e2:a.eval (.func f) = .func (.func f) #[] #[]:=rfl
    simp [execOp,resolve,e,e2,Deferred.ofValue,invoke,callFunc,hf,hn',hbn]
  simp only [Oper.wp,hrun,Oper.upon]
  refine (hc w (U (drop F n)) vs (fun b hb=>by obtain ⟨m,hm⟩:=hle b hb;exact hw.bd m b hm) hvs).mono ?_
  rintro e' w' ⟨v,rfl,hqv,hbel⟩
  have hst:Stp [] w F w' F:=⟨hbel.os,hbel.tape,hbel.output,hbel.size,fun b hb _=>hbel.block b hb,fun _ _=>rfl,fun _ h=>by cases h⟩
  exact ht v w' F ⟨hw.dis,fun n b hn=>Yam (hw.bd n b hn) hbel.size⟩ hst (hq _ _ _ _ _ hqv) (fun x hx=>by cases hx)
end
def Zee (p q:PV):Prop:=∀ v w y,p.p v w y→q.p v w y
def ZeL:List PV→List PV→Prop
 | [],[]=>True
 | p :: ps,q :: qs=>Zee p q∧ZeL ps qs
 | _,_=>False
theorem Zee.refl {p:PV} : Zee p p:=fun _ _ _ h=>h
theorem ZeL.refl:∀ {l:List PV},ZeL l l
 | []=>trivial
 | _ :: _=>⟨Zee.refl,ZeL.refl⟩
theorem Zee.nilSl {α:Type} {R:α→List PV} : Zee (.is (.slice none 0 0)) (.sl R []):=fun v w y h=>Ent.nilSl (fun _=>v) w y v h
theorem PVs.le {w y} : ∀ {ps qs:List PV} {vs:List Value},ZeL ps qs→PVs ps vs w y→PVs qs vs w y
 | [],[],[],_,_=>trivial
 | p :: ps,q :: qs,v :: vs,h,k=>⟨⟨k.1.1,h.1 _ _ _ k.1.2⟩,PVs.le h.2 k.2⟩
 | [],[],_ :: _,_,k=>k.elim
 | _ :: _,_ :: _,[],_,k=>k.elim
 | [],_ :: _,_,h,_=>h.elim
 | _ :: _,[],_,h,_=>h.elim
theorem Zeb {n:Nat} {l:List PV} : ∀ v w yy,(PV.arr n l).p v w yy→v.oneCell' = true:=fun v w yy ⟨b,vs,e,_⟩=>by rw [e];rfl
theorem Zee.arrSl {α:Type} {R:α→List PV} {l:List PV} {l':List α} (h:Nat.ble l'.length maxLen=true) (e:ZeL l (l'.flatMap R)):Zee (.arr l'.length l) (.sl R l'):=fun v w y ⟨b,vs,e1,h1,h2,h3,h4⟩=>
 Ent.arrSl h (fun _=>v) w y v ⟨b,vs,e1,h1,h2,h3,PVs.le e h4⟩
theorem CFs.ofUn {w y} {τ:Tau} : ∀ {cs:List CF} {vs:List Value},ZmT cs=true→PVs (Go.Gm.unCF cs) vs w y→CFs τ w y cs vs
 | [],[],_,_=>trivial
 | .pv p :: cs,v :: vs,h,k=>⟨k.1,CFs.ofUn h k.2⟩
 | .same _ :: cs,v :: vs,h,k=>by cases h
 | .fn _ _ :: cs,v :: vs,h,k=>by cases h
 | [],_ :: _,_,k=>k.elim
 | .pv _ :: _,[],_,k=>k.elim
 | .same _ :: _,[],_,k=>k.elim
 | .fn _ _ :: _,[],_,k=>k.elim
theorem Ent.paggLe {l l':List PV} (e:ZeL l l'):Ent (.pv (.agg l)) (.pv (.agg l')):=fun τ w y v ⟨vs,e',k⟩=>⟨vs,e',PVs.le e k⟩
theorem Ent.aggLe {cs:List CF} {l:List PV} (h:ZmT cs=true) (e:ZeL (unCF cs) l):Ent (.agg cs) (.pv (.agg l)):=Ent.trans (Ent.aggU h rfl) (Ent.paggLe e)
theorem ZaB.none:ZaB [] (.tup []):=fun τ w y vs hs=>by
 match vs,hs with
 | [],_=>exact ⟨[],rfl,tv⟩
theorem CFs.setAt {w w' y y'} {τ:Tau} (hev:Ev w y w' y') {v:Value} {p:PV} : ∀ {cs:List CF} {vs:List Value} (k:Nat),ZmT cs=true→cs[k]? = some (.pv (.is v))→(v.oneCell' = true→p.p v w' y')→CFs τ w y cs vs→CFs τ w' y' (cs.set k (.pv p)) vs
 | [],_,_,_,h,_,_=>by simp at h
 | c :: cs,[],_,_,_,_,k=>k.elim
 | .same _ :: cs,_ :: _,_,h,_,_,_=>by cases h
 | .fn _ _ :: cs,_ :: _,_,h,_,_,_=>by cases h
 | .pv q :: cs,u :: us,0,h0,h,hp,k=>by
  simp at h
  subst h
  refine ⟨⟨k.1.1,?_⟩,CFs.ofUn (by exact h0) (PVs.mono hev (PVs.unCF (by exact h0) k.2))⟩
  have e:u=v:=k.1.2.1
  show p.p u w' y'
  have h1:=k.1.2.2
  rw [e] at h1 ⊢
  exact hp h1
 | .pv q :: cs,u :: us,i+1,h0,h,hp,k=>⟨⟨k.1.1,q.mono hev k.1.2⟩,CFs.setAt hev i (by exact h0) XL hp k.2⟩
section
variable {B:ZaV} {E:En} {a:Act} {w:World} {F:Fp}
theorem Sat.giveCell {α:Type} {T sz:Nat} {R:α→List PV} {l:List α} {v:Value} {an:Anc} {T':TypeId} {cells:List CF} (h:Sat B E a w F) (n m k:Nat) (hn:look E.r n=some (.ob (.val v) (Zz T sz R l))) (hm:look E.r m=some (.pt an T' cells)) (hk:cells[k]? = some (.pv (.is v))) (ho:ZmT cells=true) (hne:Nat.beq n m=false) :
  ∃ F',Sat B ⟨E.s,(m,.pt an T' (cells.set k (.pv (.sl R l)))) :: (n,RS.hp (HP.star [])) :: E.r⟩ a w F':=by
 have hle:=Zeo F n
 have hev:=Ev.less w hle
 have hne':n≠m:=by intro e;subst e;simp at hne
 refine ⟨drop F n,⟨fun j i b hj hi=>?_,fun j b hj=>?_⟩,h.ev.trans hev,h.n,h.df,fun j s hj=>SF.mono hev (fun _ _=>rfl) (h.s j s hj),fun j r hj=>?_,fun j b hj=>?_⟩
 ·unfold drop at hj hi
  by_cases e1:j=n
  ·simp only [e1,Yx] at hj
  ·by_cases e2:i=n
   ·simp only [e2,Yx] at hi
   ·simp only [e1,e2,Yt] at hj hi;exact h.wf.dis j i b hj hi
 ·obtain ⟨j',hj'⟩:=hle b ⟨j,hj⟩
  exact h.wf.bd j' b hj'
 ·rw [Zf] at hj
  split at hj
  ·rename_i e
   subst e
   simp only [YX] at hj;subst hj
   obtain ⟨xs,h2,h3,h4⟩:=h.r n _ hn
   obtain ⟨b,us,e1,h5,h6,h7⟩:=h.r m _ hm
   have hF:drop F n m=F m:=by unfold drop;rw [Yb (Ne.symm hne')]
   rw [hF]
   refine ⟨b,us,e1,h5,h6,CFs.setAt hev k ho hk (fun _=>?_) h7⟩
   simp only [Anc.v] at h2 h4
   obtain ⟨ad,cap,e8,h8,h9,h10⟩:=ZG h2
   refine ⟨ad,cap,e8,h8,h9,?_⟩
   rcases h10 with h10 | ⟨b',rfl,h11,h12⟩
   ·exact .inl (YM h10)
   ·have hb:F n b':=(h4 b').2 h11
    refine .inr ⟨b',0,xs,rfl,?_,h.wf.bd n b' hb,h12,PVs.mono hev h3⟩
    rintro ⟨j,hj⟩
    unfold drop at hj
    by_cases e2:j=n
    ·simp only [e2,Yx] at hj
    ·simp only [e2,Yt] at hj
     exact e2 (h.wf.dis j n b' hj hb)
  ·rw [Zf] at hj
   split at hj
   ·rename_i e2 e
    simp only [YX] at hj;subst hj;subst e
    intro b hb
    unfold drop at hb
    simp only [Yx] at hb
   ·rename_i e2 e
    have e3:drop F n j=F j:=by unfold drop;rw [Yb (fun h=>e h.symm)]
    rw [e3]
    exact RS.mono hev (fun _ _=>rfl) (fun _ _=>rfl) (h.r j r hj)
 ·unfold drop at hj
  by_cases e1:j=n
  ·simp only [e1,Yx] at hj
  ·simp only [e1,Yt] at hj
   by_cases e2:m=j
   ·exact ⟨_,by rw [Zf,Ye e2]⟩
   ·obtain ⟨r,hr⟩:=h.em j b hj
    exact ⟨r,by rw [Zf,Yb e2,Zf,Yb (fun h=>e1 h.symm)];exact hr⟩
end
section
variable {P:Program} {d:Option Nat} {ty:TypeId} {pos:String} {af:Array Edge} {g:Option (Nat×Bool)} {ps:List (Nat×SF)}
theorem Zhx {α:Type} {f:FuncId} {args:Array Operand} {tys:Array TypeId} {an:Anc} {T T':TypeId} {sz:Nat} {R:α→List PV} {lst:List α} {v:Value} {cells:List CF} {avs:List PV} {q:PV} {fn:Func} (n m k:Nat) (hc:FnP P f avs q) (hq:∀ v w y w' y',q.p v w y→q.p v w' y') (hk:ZmT cells=true)
    (hf : P.funcs[f]? = some fn) (hb : fn.body.isSome = true) (hn : (fn.name == "runtime.NumGoroutine") = false) (hck : cells[k]? = some (.pv (.is v))) (hk2 : ZmT (cells.set k (.pv (.sl R lst))) = true) (ha : Za1 args ps an (unCF (cells.set k (.pv (.sl R lst)))) avs) :
    OpC P ⟨d,.call { callee:=.value (.func f),args:=args,argTypes:=tys },ty,pos,af,g⟩ ⟨ps,[(n,.pt an T cells),(m,.ob (.val v) (Zz T' sz R lst))],.pv q,[]⟩:=fun a w F K Q hw hp hr ht=>by
  obtain ⟨b,us,e1,h1,h2,h3⟩:=Zbe (hr (n,.pt an T cells) XM)
  obtain ⟨xs,r1,r2,r3⟩:=hr (m,.ob (.val v) (Zz T' sz R lst)) XM
  have hle:∀ b,U (drop (drop F n) m) b→U F b:=fun b hb=>Zeo F n b (Zeo (drop F n) m b hb)
  have hev:=Ev.less w hle
  have hout:∀ i b,F i b→(i=n∨i=m)→¬ U (drop (drop F n) m) b:=by
    rintro i b hib hi ⟨j,hj⟩
    unfold drop at hj
    by_cases e2:j=m
    · simp only [e2,Yx] at hj
    · by_cases e3:j=n
      · simp only [e2,e3,Yt,Yx] at hj
        split at hj
        · exact hj
        · exact hj
      · simp only [e2,e3,Yt] at hj
        have:=hw.dis j i b hj hib
        rcases hi with rfl | rfl
        · exact e3 this
        · exact e2 this
  obtain ⟨vs,e,hvs⟩:=ha a w (U F) (U (drop (drop F n) m)) hp hle (fun b' e'=>by
    rw [e1] at e'
    simp only [Value.pointer.injEq,YX,Addr.mk.injEq] at e'
    obtain ⟨rfl,_⟩:=e'
    have hbF:F n b:=(h2 b).2 rfl
    refine ⟨b,0,us.toList,rfl,hout n b hbF (.inl rfl),hw.bd n b hbF,Zt.mk fun j v hj=>?_,PVs.unCF hk2 (CFs.setAt hev k hk hck (fun _=>?_) h3)⟩
    · simp only [Yab]
      simp [World.cell?,h1]
      simpa using hj
    · simp only [Anc.v] at r1 r3
      obtain ⟨ad,cap,e8,h8,h9,h10⟩:=ZG r1
      refine ⟨ad,cap,e8,h8,h9,?_⟩
      rcases h10 with h10 | ⟨b',rfl,h11,h12⟩
      · exact .inl (YM h10)
      · have hb':F m b':=(r3 b').2 h11
        exact .inr ⟨b',0,xs,rfl,hout m b' hb' (.inr rfl),hw.bd m b' hb',h12,PVs.mono hev r2⟩) ⟨b,e1⟩
  have hbn:fn.body≠none:=Kd
  have hn' : fn.name ≠ "runtime.NumGoroutine" := by intro h; rw [h] at hn; simp at hn
  have hrun:(execOp a.eval ⟨d,.call { callee:=.value (.func f),args:=args,argTypes:=tys },ty,pos,af,g⟩).run P w = .ok (.enter f vs.toArray) w:=by
    have e2:a.eval (.func f) = .func (.func f) #[] #[]:=rfl
    simp [execOp,resolve,e,e2,Deferred.ofValue,invoke,callFunc,hf,hn',hbn]
  simp only [Oper.wp,hrun,Oper.upon]
  refine (hc w (U (drop (drop F n) m)) vs (fun b hb=>by obtain ⟨m',hm⟩:=hle b hb;exact hw.bd m' b hm) hvs).mono ?_
  rintro e' w' ⟨v,rfl,hqv,hbel⟩
  have hst:Stp [] w F w' F:=⟨hbel.os,hbel.tape,hbel.output,hbel.size,fun b hb _=>hbel.block b hb,fun _ _=>rfl,fun _ h=>by cases h⟩
  exact ht v w' F ⟨hw.dis,fun n b hn=>Yam (hw.bd n b hn) hbel.size⟩ hst (hq _ _ _ _ _ hqv) (fun x hx=>by cases hx)
end
section
variable {P:Program} {t ty:TypeId} {pos:String} {af:Array Edge} {g:Option (Nat×Bool)} {x y:Operand} {ps qs:List (Nat×SF)} {α:Type} {R:α→List PV} {l:List α}
theorem ZT {T sz i:Nat} {a:Anc} {v:α} {p:PV} (n:Nat) (hx:Opd x ps (.adr a (i*sz))) (hR:∀ x,(R x).length=sz) (hi:i<l.length) (hy:Opd y qs (.pv p)) (hv:R v = [p]) (h1':∀ v w yy,p.p v w yy→v.oneCell' = true) (hs:(P.info? t).map (·.size)=some sz) :
  OpC P ⟨none,.store t x y,ty,pos,af,g⟩ ⟨ps++qs,[(n,.ob a (Zz T sz R l))],.pv .any,[(n,.ob a (Zz T sz R (l.set i v)))]⟩:=fun act w F K Q hw hp hr ht=>by
 obtain ⟨xs,h1,h2,h3⟩:=hr (n,.ob a (Zz T sz R l)) XM
 have ex0:act.eval x=shift (i*sz) (a.v (Act.tau act)):=hx act w (U F) hp.left
 have hpv:=hy act w (U F) hp.right
 have ho:=h1' _ _ _ hpv
 obtain ⟨us,eu,hu⟩:∃ us:List Value,(act.eval y).cells=us.toArray∧PVs (R v) us w (U F):=by
  refine ⟨[act.eval y],?_,by rw [hv];exact ⟨⟨ho,hpv⟩,tv⟩⟩
  cases e:act.eval y <;> rw [e] at ho <;> first | rfl | simp [Value.oneCell'] at ho
 have hul:us.length=sz:=by rw [← hu.len,hR]
 have hxl:=h1.1
 rcases h1.2 with ⟨_,h0⟩ | ⟨b,cap,cur,ev,_,hg,hnc,hcm,hcs,htake⟩
 ·omega
 ·have ex:act.eval x = .pointer (some ⟨b,i*sz,none⟩):=by rw [ex0,ev];simp [shift]
  have hfit:i*sz+sz≤l.length*sz:=KK
  have hfit2:l.length*sz≤cur.size:=Ky
  have hst:=YaB P b (i*sz) T us 0 cur w hg ow hu.one
  have hrun:(execOp act.eval ⟨none,.store t x y,ty,pos,af,g⟩).run P w = .ok .skip (w.setRow b (cur.toList.take (i*sz)++us++cur.toList.drop (i*sz+us.length)).toArray):=by
   simp [execOp,ex,Instr.storeAt,Instr.sureAddr,storeVar,run_sizeOf hs,eu,hul,hst]
  have hf:∀ z,F n z ↔ z=b:=fun z=>by rw [h3 z,ev];simp [Value.ownBlock,Yaj]
  obtain ⟨g1,g2⟩:=Zbq hw hg hf (cur.toList.take (i*sz)++us++cur.toList.drop (i*sz+us.length)).toArray
  simp only [Oper.wp,hrun,Oper.upon]
  refine ht undef _ F g1 g2 trivial ?_
  intro z hz
  simp only [Yn] at hz
  subst hz
  have eτ:upd (Act.tau act) none undef=Act.tau act:=by funext i;simp [upd]
  show RS.holds (upd (Act.tau act) none undef) _ _ _ _
  rw [eτ]
  refine ⟨xs.take (i*sz)++us++xs.drop (i*sz+sz),⟨?_,.inr ⟨b,cap,_,by rw [YU];exact ev,YA _,Ybt w b cur _ T (0,0) hg,by rw [YU];exact hnc,hcm,?_,?_⟩⟩,PVs.setR hR (PVs.mono g2.ev hu) i hi (PVs.mono g2.ev h2),h3⟩
  ·rw [YU,Yc,Yc,Yp,YS,hxl,hul];omega
  ·have:cur.toList.length=cur.size:=by simp
   simp only [YaF,Yc,Yp,YS,this,hul]
   omega
  ·rw [YU]
   have:=ZhQ (cur:=cur.toList) (us:=us) (k:=i*sz) (sz:=sz) (N:=l.length*sz) hfit hul (by simpa using hfit2)
   rw [htake] at this
   simpa using this
end
end Go.Gm
namespace Go.Gm
set_option linter.unusedVariables false
set_option linter.unusedSimpArgs false
section
variable {P:Program} {d:Option Nat} {t ty:TypeId} {pos:String} {af:Array Edge} {g:Option (Nat×Bool)} {x y:Operand} {ps qs:List (Nat×SF)}
theorem Zcc {len e sz:Nat} {pl:List (Nat×Nat)} {zs:List Value} {r:List (Nat×Operand)} {cs':List CF} (hu:P.underlying t=some (.array len e)) (hs:(P.info? e).map (·.size)=some sz) (hz:P.zeros t=some zs) (hpl:((List.range len).map fun i=>(i*sz,sz))=pl) (hparts:ZdR P pl r ps (zs.map zCF) cs') (hd:ZaO d (.agg cs')=true) :
  OpC P ⟨d,.build t r.toArray,ty,pos,af,g⟩ ⟨ps,[],.agg cs',[]⟩:=
 OpC.pure fun a w yy hp=>by
  obtain ⟨z,h1,h2,h3⟩:=Zb6 hz
  obtain ⟨us,h4,h5⟩:=ZeT (place:=fun i=>some (i*sz,sz)) (fun i q h=>by
   rw [← hpl] at h
   obtain ⟨j,hj,rfl⟩:=YB.1 (Ybr h)
   rw [YbH] at h
   obtain ⟨k,hk,e⟩:=Y7.1 h
   have hk':=YH.1 hk
   obtain ⟨hk1,hk2⟩:=hk'
   rw [YbB] at hk2
   subst hk2
   rw [← e]) hparts hp zs.toArray (by simpa using ZuE h2)
  refine ⟨.agg us,?_,fun τ' ht=>Z9 hd ht ⟨us.toList,by simp,h5⟩⟩
  have e:(r.toArray.map fun (x:Nat×Operand)=>(x.1,a.eval x.2))=(r.map fun x=>(x.1,a.eval x.2)).toArray:=XM
  have h4':Instr.fill (fun i=>some (i*sz,sz)) zs.toArray (r.map fun x=>(x.1,a.eval x.2))=some us:=h4
  simp only [execOp,Instr.build,e,YD,h3,Yv,h1,Yo hu,run_sizeOf hs,h4',YI]
theorem Zsf {f:FuncId} {args:Array Operand} {tys:Array TypeId} {avs:List PV} {q:PV} {fn:Func} (hx:Opd x qs (.pv (.is (.func (.func f) #[] #[]))))
    (hc : FnP P f avs q) (hf : P.funcs[f]? = some fn) (hb : fn.body.isSome = true) (hn : (fn.name == "runtime.NumGoroutine") = false)
    (ha:∀ (a:Act) w y,Hps ps (Act.tau a) w y → ∃ vs:List Value,args.map a.eval=vs.toArray∧PVt avs vs w y) :
    OpC P ⟨d,.call { callee:=.value x,args:=args,argTypes:=tys },ty,pos,af,g⟩ ⟨qs++ps,[],.pv q,[]⟩:=fun a w F K Q hw hp hr ht=>by
  obtain ⟨vs,e,hvs⟩:=ha a w (U F) hp.right
  have e2:a.eval x = .func (.func f) #[] #[]:=(hx a w (U F) hp.left).1
  have hbn:fn.body≠none:=Kd
  have hn' : fn.name ≠ "runtime.NumGoroutine" := by intro h; rw [h] at hn; simp at hn
  have hrun:(execOp a.eval ⟨d,.call { callee:=.value x,args:=args,argTypes:=tys },ty,pos,af,g⟩).run P w = .ok (.enter f vs.toArray) w:=by
    simp [execOp,resolve,e,e2,Deferred.ofValue,invoke,callFunc,hf,hn',hbn]
  simp only [Oper.wp,hrun,Oper.upon]
  refine (hc w (U F) vs (fun b ⟨n,hn⟩=>hw.bd n b hn) hvs).mono ?_
  rintro e' w' ⟨v,rfl,hq,hbel⟩
  have hst:Stp [] w F w' F:=⟨hbel.os,hbel.tape,hbel.output,hbel.size,fun b hb _=>hbel.block b hb,fun _ _=>rfl,fun _ h=>by cases h⟩
  exact ht v w' F ⟨hw.dis,fun n b hn=>Yam (hw.bd n b hn) hbel.size⟩ hst hq (fun x hx=>by cases hx)
theorem ZbF {α:Type} {R:α→List PV} {T sz:Nat} {l l':List α} {v:Value} {f:FuncId} {args:Array Operand} {tys:Array TypeId} {d':Nat} {avs:List PV} {q:PV} {fn:Func} (n:Nat)
    (hc : FnG P f 1 avs [Zz T sz R l v] q (fun _ => [Zz T sz R l' v])) (hf : P.funcs[f]? = some fn) (hb : fn.body.isSome = true) (hn : (fn.name == "runtime.NumGoroutine") = false)
    (ha:∀ (a:Act) w y,Hps ps (Act.tau a) w y → ∃ vs:List Value,args.map a.eval=vs.toArray∧PVt avs vs w y) :
    OpC P ⟨some d',.call { callee:=.value (.func f),args:=args,argTypes:=tys },ty,pos,af,g⟩ ⟨ps,[(n,.ob (.val v) (Zz T sz R l))],.pv q,[(n,.ob (.val v) (Zz T sz R l'))]⟩:=
  OpC.res (o_callG1 n hc hf hb hn ha) (fun τ w fb y h=>h) rfl (fun τ w F h=>by
    intro z hz
    simp only [Yn] at hz
    subst hz
    exact h (n,RS.hp (Zz T sz R l' v)) XM)
theorem o_callRowN {α:Type} {R:α→List PV} {T sz:Nat} {l:List α} {v:Value} {f:FuncId} {args:Array Operand} {tys:Array TypeId} {d':Nat} {avs:List PV} {h':Value→HP} {q:PV} {fn:Func} (n:Nat)
    (hc : FnG P f 1 avs [Zz T sz R l v] q (fun u => [h' u])) (hf : P.funcs[f]? = some fn) (hb : fn.body.isSome = true) (hn : (fn.name == "runtime.NumGoroutine") = false)
    (ha:∀ (a:Act) w y,Hps ps (Act.tau a) w y → ∃ vs:List Value,args.map a.eval=vs.toArray∧PVt avs vs w y) (h1:∀ v w y,q.p v w y→v.oneCell' = true) :
    OpC P ⟨some d',.call { callee:=.value (.func f),args:=args,argTypes:=tys },ty,pos,af,g⟩ ⟨ps,[(n,.ob (.val v) (Zz T sz R l))],.same d',[(n,RS.ob (.slot d') h')]⟩:=
  OpC.res (ZdX (prs:=[(n,RS.hp (Zz T sz R l v))]) (is:=[n]) hc hf hb hn ha rfl XM (fun τ w F hr i x hi=>by
      match i,hi with
      | 0,hi=>simp at hi;subst hi;exact ⟨n,rfl,hr (n,RS.hp (Zz T sz R l v)) XM⟩)
    (fun _ _ _ _ h=>⟨by simp [upd],h1 _ _ _ h⟩) (fun x hx=>by
      simp only [Yn] at hx
      subst hx
      exact ⟨0,rfl,fun v τ w f y ⟨k,hk,hp⟩=>by
        simp at hk;subst hk
        simpa [RS.holds,Anc.v,upd] using hp⟩) rfl (fun _=>rfl)) (fun τ w fb y h=>h) rfl (fun _ _ _ h=>h)
theorem Args.four {x1 x2 x3 x4:Operand} {ps1 ps2 ps3 ps4:List (Nat×SF)} {p1 p2 p3 p4:PV} (h1:Opd x1 ps1 (.pv p1)) (h2:Opd x2 ps2 (.pv p2)) (h3:Opd x3 ps3 (.pv p3)) (h4:Opd x4 ps4 (.pv p4)) :
  ∀ (a:Act) w y,Hps (ps1++(ps2++(ps3++ps4))) (Act.tau a) w y → ∃ vs:List Value,(#[x1,x2,x3,x4]:Array Operand).map a.eval=vs.toArray∧PVt [p1,p2,p3,p4] vs w y:=
 fun a w y hp=>⟨[a.eval x1,a.eval x2,a.eval x3,a.eval x4],by simp,h1 a w y hp.left,h2 a w y hp.right.left,h3 a w y hp.right.right.left,h4 a w y hp.right.right.right,tv⟩
theorem Args.five {x1 x2 x3 x4 x5:Operand} {ps1 ps2 ps3 ps4 ps5:List (Nat×SF)} {p1 p2 p3 p4 p5:PV} (h1:Opd x1 ps1 (.pv p1)) (h2:Opd x2 ps2 (.pv p2)) (h3:Opd x3 ps3 (.pv p3)) (h4:Opd x4 ps4 (.pv p4)) (h5:Opd x5 ps5 (.pv p5)) :
  ∀ (a:Act) w y,Hps (ps1++(ps2++(ps3++(ps4++ps5)))) (Act.tau a) w y → ∃ vs:List Value,(#[x1,x2,x3,x4,x5]:Array Operand).map a.eval=vs.toArray∧PVt [p1,p2,p3,p4,p5] vs w y:=
 fun a w y hp=>⟨[a.eval x1,a.eval x2,a.eval x3,a.eval x4,a.eval x5],by simp,h1 a w y hp.left,h2 a w y hp.right.left,h3 a w y hp.right.right.left,h4 a w y hp.right.right.right.left,h5 a w y hp.right.right.right.right,tv⟩
theorem Ent.any {p:PV} : Ent (.pv p) (.pv .any):=fun _ _ _ _ _=>trivial
def Znl (sz k:Nat):Value→Value
 | .slice (some a) n c=>.slice (some ⟨a.block,a.off+k*sz,none⟩) (n - k) (c - k)
 | v=>v
theorem Zbp {α:Type} {R:α→List PV} {l:List α} {e sz:Nat} {k:IntKind} {j:Int} {v:Value} (n:Nat) (he:Zby P t e sz) (hx:Zar x ps (.val v)) (hy:Opd y qs (.pv (.int k j))) (h0:0≤j) (h1:j<l.length) :
  OpC P ⟨d,.slice t x (some y) none none,ty,pos,af,g⟩ ⟨ps++qs,[(n,.ob (.val v) (Zz e sz R l))],.pv (.is (Znl sz j.toNat v)),[]⟩:=
 OpC.read fun act w F hp hr=>by
  obtain ⟨xs,h2,h3,h4⟩:=hr (n,.ob (.val v) (Zz e sz R l)) XM
  obtain ⟨ad,cap,e1,h5,h6,h7⟩:=ZG h2
  simp only [Anc.v] at e1
  have e2:=(hy act w _ hp.right).1
  have e3:act.eval x = .slice ad l.length cap:=Ke
  rcases h7 with h7 | ⟨b,rfl,_,_⟩
  ·omega
  ·subst e1
   have hh:(Instr.sliceBounds true l.length cap (some (.int k j)) none none).run P w = .ok (j.toNat,l.length,cap) w:=by
    have:j≤l.length:=ow
    simp [Instr.sliceBounds,Instr.sliceBound,asIntOf,h0,this]
   refine ⟨.slice (some ⟨b,0+j.toNat*sz,none⟩) (l.length - j.toNat) (cap - j.toNat),?_,fun τ _=>⟨rfl,rfl⟩⟩
   have hne:¬ cap - j.toNat=0:=ow
   have hne2:¬ cap=j.toNat:=ow
   have had:(if j.toNat*sz=0 then (⟨b,0,none⟩:Addr) else ⟨b,0+j.toNat*sz,none⟩) = ⟨b,0+j.toNat*sz,none⟩:=by
    split
    ·rename_i h;rw [h]
    ·rfl
   simp only [execOp,e3,e2,YaS,YaC,Instr.sliceAt,YD,Yo he.1,Yv,Instr.slice,hh,run_sizeOf he.2,YI,Yb hne,Addr.add]
   simp [hne2,had]
   try exact fun h=>h.symm
theorem ZjH {α:Type} {R:α→List PV} {l:List α} {e sz k:Nat} {v:Value} (n:Nat) (hu:P.underlying t=some (.slice e)) (hx:Opd x ps (.pv (.is (Znl sz k v)))) (hk:k<l.length) :
  OpC P ⟨d,.call { callee:=.builtin .len,args:=#[x],argTypes:=#[t] },ty,pos,af,g⟩ ⟨ps,[(n,.ob (.val v) (Zz e sz R l))],.pv (.int .i64 ((l.length - k:Nat):Int)),[]⟩:=
 OpC.read fun act w F hp hr=>by
  obtain ⟨xs,h2,h3,h4⟩:=hr (n,.ob (.val v) (Zz e sz R l)) XM
  obtain ⟨ad,cap,e1,h5,h6,h7⟩:=ZG h2
  simp only [Anc.v] at e1
  rcases h7 with h7 | ⟨b,rfl,_,_⟩
  ·omega
  ·subst e1
   have e3:act.eval x = .slice (some ⟨b,0+k*sz,none⟩) (l.length - k) (cap - k):=(hx act w _ hp).1
   refine ⟨.int .i64 ((l.length - k:Nat):Int),?_,fun τ _=>⟨rfl,?_⟩⟩
   ·simp [execOp,resolve,invoke,builtin,e3,Ybv w t ty (some ⟨b,k*sz,none⟩) (l.length - k) (cap - k) (Zfh hu),goInt]
   ·unfold maxLen at h6
    simp [inR,IntKind.min,IntKind.max,IntKind.signed,IntKind.bits];omega
theorem ZfN {α:Type} {R:α→List PV} {l:List α} {e sz k:Nat} {v:Value} {z:α} {zs:List Value} (n:Nat) (hu:P.underlying t=some (.slice e)) (hzs:P.zeros e=some zs) (hzl:zs.length=sz) (h0:Nat.blt 0 sz=true) (hzp:∀ w yy,PVs (R z) zs w yy) (hR:∀ x,(R x).length=sz) (hx:Opd x ps (.pv (.is (Znl sz k v)))) (hk:k<l.length) :
  OpC P ⟨none,.call { callee:=.builtin .clear,args:=#[x],argTypes:=#[t] },ty,pos,af,g⟩ ⟨ps,[(n,.ob (.val v) (Zz e sz R l))],.pv .any,[(n,.ob (.val v) (Zz e sz R (l.take k++List.replicate (l.length - k) z)))]⟩:=fun act w F K Q hw hp hr ht=>by
 obtain ⟨xs,h1,h2,h3⟩:=hr (n,.ob (.val v) (Zz e sz R l)) XM
 obtain ⟨zv,z1,z2,z3⟩:=Zb6 hzs
 simp only [Anc.v] at h1 h3
 have hxl:=h1.1
 rcases h1.2 with ⟨_,hn0⟩ | ⟨b,cap,cur,ev,_,hg,hnc,hcm,hcs,htake⟩
 ·omega
 ·have ex:act.eval x = .slice (some ⟨b,0+k*sz,none⟩) (l.length - k) (cap - k):=by rw [(hx act w (U F) hp).1,ev];rfl
  obtain ⟨m,hm⟩:∃ m,l.length - k=m+1:=⟨l.length - k - 1,ow⟩
  have hmade:(Builtin.zeroCells zv.cells (l.length - k)).toList=(madeCells zs.toArray ((l.length - k)*sz)).toList:=by
   rw [z1];unfold Builtin.zeroCells madeCells;rw [YaF,hzl]
  have hmp:∀ w' yy,PVs ((List.replicate (l.length - k) z).flatMap R) (madeCells zs.toArray ((l.length - k)*sz)).toList w' yy:=fun w' yy=>ZeQ hzl (by simpa [YaA] using h0) (hzp w' yy) _
  have hml:(madeCells zs.toArray ((l.length - k)*sz)).toList.length=(l.length - k)*sz:=by simp [size_madeCells]
  have hfit:k*sz+(l.length - k)*sz=l.length*sz:=by rw [← Ybq];congr 1;omega
  have hfit2:l.length*sz≤cur.size:=Ky
  have hst:=YaB P b (k*sz) e (madeCells zs.toArray ((l.length - k)*sz)).toList 0 cur w hg (by rw [hml];omega) (hmp w (U F)).one
  have hrun:(execOp act.eval ⟨none,.call { callee:=.builtin .clear,args:=#[x],argTypes:=#[t] },ty,pos,af,g⟩).run P w = .ok (.value (.tuple #[])) (w.setRow b (cur.toList.take (k*sz)++(madeCells zs.toArray ((l.length - k)*sz)).toList++cur.toList.drop (k*sz+(madeCells zs.toArray ((l.length - k)*sz)).toList.length)).toArray):=by
   rw [Ybg] at hst
   simp only [Yab] at ex
   have hcl:(Builtin.clear_ #[t] ty #[.slice (some ⟨b,k*sz,none⟩) (l.length - k) (cap - k)]).run P w = .ok (.tuple #[]) (w.setRow b (cur.toList.take (k*sz)++(madeCells zs.toArray ((l.length - k)*sz)).toList++cur.toList.drop (k*sz+(madeCells zs.toArray ((l.length - k)*sz)).toList.length)).toArray):=by
    rw [← hmade] at hst ⊢
    rw [hm] at hst ⊢
    simp [Builtin.clear_,Yo hu,z3]
    simp at hst
    rw [hst]
    rfl
   simp only [execOp,resolve,invoke,builtin,ex]
   simp [hcl,resolve,invoke,builtin,ex]
  have hf:∀ z,F n z ↔ z=b:=fun z=>by rw [h3 z,ev];simp [Value.ownBlock,Yaj]
  obtain ⟨g1,g2⟩:=Zbq hw hg hf (cur.toList.take (k*sz)++(madeCells zs.toArray ((l.length - k)*sz)).toList++cur.toList.drop (k*sz+(madeCells zs.toArray ((l.length - k)*sz)).toList.length)).toArray
  simp only [Oper.wp,hrun,Oper.upon]
  refine ht _ _ F g1 g2 trivial ?_
  intro z' hz'
  simp only [Yn] at hz'
  subst hz'
  have hll:(l.take k++List.replicate (l.length - k) z).length=l.length:=XT
  refine ⟨xs.take (k*sz)++(madeCells zs.toArray ((l.length - k)*sz)).toList,⟨?_,.inr ⟨b,cap,_,by rw [hll];exact ev,YA _,Ybt w b cur _ e (0,0) hg,by rw [hll];exact hnc,hcm,?_,?_⟩⟩,?_,h3⟩
  ·rw [hll,Yc,Yp,hml,hxl];omega
  ·have:cur.toList.length=cur.size:=by simp
   simp only [YaF,Yc,Yp,YS,this,hml]
   omega
  ·rw [hll]
   simp only []
   rw [Yal (by simp only [Yc,Yp,hml];have:cur.toList.length=cur.size:=XM;omega)]
   rw [Yaf (by simp only [Yc,Yp,hml];omega),← htake,Ybh,Ya7 ow]
  ·rw [Y2]
   refine PVs.append ?_ (hmp _ _)
   rw [Zes hR]
   exact PVs.take _ (PVs.mono g2.ev h2)
end
end Go.Gm
namespace Go.Gm
set_option linter.unusedVariables false
set_option linter.unusedSimpArgs false
theorem Zlf {α:Type} {R:α→List PV} {sz:Nat} (hR:∀ x,(R x).length=sz):∀ l:List α,(l.flatMap R).length=l.length*sz
 | []=>by simp
 | x :: l=>by rw [Y0,Yc,hR,Zlf hR l,Yh,Ybq,Nat.one_mul,YbC]
section
variable {P:Program} {d:Option Nat} {t ty:TypeId} {pos:String} {af:Array Edge} {g:Option (Nat×Bool)} {x y:Operand} {ps qs:List (Nat×SF)} {α:Type} {R:α→List PV}
theorem Zb2 {e sz n d':Nat} {zs:List Value} {r:List (Nat×Operand)} {l:List α} {cs:List CF} (m:Nat) (hu:P.underlying t=some (.slice e)) (hsz:(P.info? e).map (·.size)=some sz) (hz:P.zeros e=some zs) (hn:Nat.ble (n*sz) 1000=true) (h0:Nat.blt 0 (n*sz)=true) (hzl:zs.length=sz)
  {zz:List CF} (hzz:((List.range (n*sz)).map fun i=>zCF (zs.getD (i % sz) undef))=zz)
  (hparts:ZdR P ((List.range n).map fun i=>(i*sz,sz)) r ps zz cs) (hl:cs=(l.flatMap R).map CF.pv) (hln:l.length=n) (hR:∀ x,(R x).length=sz) :
  OpC P ⟨some d',.buildSlice t n r.toArray,ty,pos,af,g⟩ ⟨ps,[],.same d',[(m,.ob (.slot d') (Zz e sz R l))]⟩:=fun a w F K Q hw hp hr ht=>by
 subst hl
 obtain ⟨z,h1,h2,h3⟩:=Zb6 hz
 have hn':=Yak hn
 have h0':0<n*sz:=by simpa [YaA] using h0
 have hsz0:0<sz:=Nat.pos_of_mul_pos_left h0'
 have hzs0:CFs (Act.tau a) w (U F) zz ((List.range (n*sz)).map fun i=>zs.getD (i % sz) undef):=by
  rw [← hzz]
  have:∀ is:List Nat,CFs (Act.tau a) w (U F) (is.map fun i=>zCF (zs.getD (i % sz) undef)) (is.map fun i=>zs.getD (i % sz) undef):=by
   intro is
   induction is with
   | nil=>trivial
   | cons i is ih=>
    refine ⟨?_,ih⟩
    have hlt:i % sz<zs.length:=Kl
    have hg:zs.getD (i % sz) undef=zs[i % sz]:=XZ
    have hok:zOk zs[i % sz] = true:=(Yad.1 h2) _ (YaL hlt)
    have:=ZuE (τ:=Act.tau a) (w:=w) (y:=U F) (vs:=[zs[i % sz]]) (by simp [hok])
    show (zs.getD (i % sz) undef).oneCell' = true∧CF.holds (Act.tau a) w (U F) (zCF (zs.getD (i % sz) undef)) (zs.getD (i % sz) undef)
    rw [hg]
    exact this.1
  exact this _
 obtain ⟨us,h4,h5⟩:=ZeT (place:=fun i=>some (i*sz,sz)) (fun i q h=>by
  rw [YbH] at h
  cases hr:(List.range n)[i]? with
  | none=>rw [hr] at h;simp at h
  | some j=>
   rw [hr] at h
   have:=(YH.1 hr).2
   simp at this h
   rw [← h,← this]) hparts hp (((List.range (n*sz)).map fun i=>zs.getD (i % sz) undef).toArray) (by simpa using hzs0)
 have e1:(r.toArray.map fun (x:Nat×Operand)=>(x.1,a.eval x.2))=(r.map fun x=>(x.1,a.eval x.2)).toArray:=XM
 have e2:((Array.range (n*sz)).map fun x=>z.cells[x % z.cells.size]!)=((List.range (n*sz)).map fun i=>zs.getD (i % sz) undef).toArray:=by
  rw [h1]
  apply Array.ext
  ·simp
  ·intro i hi1 hi2
   have hlt:i % sz<zs.length:=Kl
   simp [hzl,Yas hlt]
 have hrun:(execOp a.eval ⟨some d',.buildSlice t n r.toArray,ty,pos,af,g⟩).run P w = .ok (.value (.slice (some ⟨w.heap.size,0,none⟩) n n)) (w.alloc (.cells us e)):=by
  have hbig:¬ (n*sz > 2 ^ 24):=ow
  have hne:¬ (n*sz=0):=ow
  simp only [execOp,Instr.buildSlice,e1,YD,Yo hu,Yv,run_sizeOf hsz,Yb hbig,Yb hne,h3,YI,e2,h4,newRow,Ybf]
 obtain ⟨g1,g2⟩:=ZaJ hw m (.cells us e)
 have hpv:PVs (l.flatMap R) us.toList (w.alloc (.cells us e)) (U fun k=>if k=m then fun b=>b=w.heap.size else F k):=PVs.mono g2.ev (PVs.of_cfs h5)
 have hlen:us.size=n*sz:=by
  have:=hpv.len
  rw [Zlf hR,hln] at this
  simpa using this.symm
 simp only [Oper.wp,hrun,Oper.upon]
 refine ht _ _ _ g1 g2 ⟨by simp [upd],rfl⟩ ?_
 intro q hq
 simp only [Yn] at hq
 subst hq
 have hτ:upd (Act.tau a) (some d') (.slice (some ⟨w.heap.size,0,none⟩) n n) d' = .slice (some ⟨w.heap.size,0,none⟩) n n:=KI
 refine ⟨us.toList,⟨by simp [hlen,hln],.inr ⟨w.heap.size,n,us,?_,YA _,Yat w _,ow,?_,hlen,?_⟩⟩,hpv,fun b=>?_⟩
 ·simp only [Anc.v,hτ,hln]
 ·have:n≤n*sz:=Nat.le_mul_of_pos_right n hsz0
  unfold maxLen
  omega
 ·rw [hln];exact Yaf (by simp [hlen])
 ·simp [Anc.v,hτ,Value.ownBlock,Yaj]
end
end Go.Gm
namespace Go.Gm
set_option linter.unusedVariables false
set_option linter.unusedSectionVars false
section
variable {P:Program} {d:Option Nat} {ty:TypeId} {pos:String} {af:Array Edge} {g:Option (Nat×Bool)} {x y:Operand} {ps qs:List (Nat×SF)} {t T:TypeId} {a:Anc} {k:Nat} {cells:List CF}
theorem oL (ag:Bool) (sz n:Nat) (hx:Za9 x ps a k) (ha:P.aggB t=some ag:=by kernel_rfl) (hs:(P.info? t).map (·.size)=some sz:=by kernel_rfl) (hk:Nat.ble (k+wid ag sz) cells.length=true:=by kernel_rfl) (hd:ZaO d (ldSF ag sz cells k)=true:=by rfl) :
 OpC P ⟨d,.load t x,ty,pos,af,g⟩ ⟨ps,[(n,.pt a T cells)],ldSF ag sz cells k,[]⟩:=Zbz n hx ha hs hk hd
theorem oR (ag:Bool) (sz:Nat) {l:List PV} (hx:Opd x ps (.pv (.ref l))) (ha:P.aggB t=some ag:=by kernel_rfl) (hs:(P.info? t).map (·.size)=some sz:=by kernel_rfl) (hk:Nat.ble (wid ag sz) l.length=true:=by kernel_rfl) :
 OpC P ⟨d,.load t x,ty,pos,af,g⟩ ⟨ps,[],ldSF ag sz (l.map CF.pv) 0,[]⟩:=ZgX hx ha hs hk
theorem oF (off n:Nat) {s:TypeId} {f:Nat} (hx:Za9 x ps a k) (ho:P.fieldOff s f=some off:=by kernel_rfl) (hd:ZaO d (.adr a (k+off))=true:=by rfl) :
 OpC P ⟨d,.fieldAddr s x f,ty,pos,af,g⟩ ⟨ps,[(n,.pt a T cells)],.adr a (k+off),[]⟩:=ZS n hx ho hd
theorem oG (off:Nat) {s:TypeId} {f:Nat} {l:List PV} (hx:Opd x ps (.pv (.ref l))) (ho:P.fieldOff s f=some off:=by kernel_rfl) :
 OpC P ⟨d,.fieldAddr s x f,ty,pos,af,g⟩ ⟨ps,[],.pv (.ref (l.drop off)),[]⟩:=Zgh hx ho
theorem oA (sz n:Nat) {new:List CF} (hx:Za9 x ps a k) (hy:Opd y qs (.agg new)) (hs:(P.info? t).map (·.size)=some sz:=by kernel_rfl) (hl:Nat.beq new.length sz=true:=by kernel_rfl) (hk:Nat.ble (k+sz) cells.length=true:=by kernel_rfl) :
 OpC P ⟨none,.store t x y,ty,pos,af,g⟩ ⟨ps++qs,[(n,.pt a T cells)],.pv .any,[(n,.pt a T (Zd cells k new))]⟩:=Zhq n hx hy hs hl hk
theorem oM {s:SF} (h:Opd x ps s) (hd:ZaO d s=true:=by rfl):OpC P ⟨d,.move x,ty,pos,af,g⟩ ⟨ps,[],s,[]⟩:=Zcn h hd
theorem oN {s:SF} (h:Opd x ps s) (hd:ZaO d s=true:=by rfl):OpC P ⟨d,.assign x,ty,pos,af,g⟩ ⟨ps,[],s,[]⟩:=ZhS h hd
theorem oB (r:List (Nat×Operand)) (zs:List Value) (pl:List (Nat×Nat)) {cs':List CF} (hparts:ZdR P pl r ps (zs.map zCF) cs') (hz:P.zeros t=some zs:=by kernel_rfl) (hpl:P.places t=some pl:=by kernel_rfl) (hd:ZaO d (.agg cs')=true:=by rfl) :
 OpC P ⟨d,.build t r.toArray,ty,pos,af,g⟩ ⟨ps,[],.agg cs',[]⟩:=Zpm hz hpl hparts hd
theorem oH {d':Nat} (zs:List Value) (n:Nat) (hz:P.zeros t=some zs:=by kernel_rfl) :
 OpC P ⟨some d',.alloc t,ty,pos,af,g⟩ ⟨[],[],.same d',[(n,.pt (.slot d') t (zs.map zCF))]⟩:=ZpT n hz
theorem oX {d':Nat} (n:Nat) (hx:Opd x ps (.agg cells)) (hd:(cdeps cells).contains d' = false:=by kernel_rfl) :
 OpC P ⟨some d',.box t x,ty,pos,af,g⟩ ⟨ps,[],.same d',[(n,.pt (.slot d') t cells)]⟩:=Zsx n hx hd
theorem oP {f:FuncId} {args:Array Operand} {tys:Array TypeId} {avs:List PV} {q:PV} {fn:Func} (hc:FnP P f avs q) (hf:P.funcs[f]? = some fn)
    (ha : ∀ (a : Act) w y, Hps ps (Act.tau a) w y → ∃ vs : List Value, args.map a.eval = vs.toArray ∧ PVt avs vs w y) (hb : fn.body.isSome = true := by rfl) (hn : (fn.name == "runtime.NumGoroutine") = false := by kernel_rfl) :
    OpC P ⟨d,.call { callee:=.value (.func f),args:=args,argTypes:=tys },ty,pos,af,g⟩ ⟨ps,[],.pv q,[]⟩:=Zpv hc hf hb hn ha
end
theorem Zlz {P:Program} {Q:Exit→Act→World→Prop} {B:ZaV} {id n:Nat} {l:List Oper} {cs:List CD} {E E':En} {a:Act} {w:World} {F:Fp} (G:Sat B E a w F) (hc:Zu P l.toArray E l cs E') (Z:B.n=n)
  (hQ:∀ a w F,Sat B E' a w F→Q .normal a w) (hE:E.shutB=true:=by kernel_rfl) (ho:okSeq l cs [] = true:=by kernel_rfl) (hd:dstsIn n l=true:=by kernel_rfl):(Code.region id l.toArray false).wp P Q a w:=
 Zmh G hE hc ho (by rw [Z];exact hd) hQ
theorem qz:True:=trivial
section
variable {P:Program} {ops:Array Oper} {E E':En} {d:Option Nat} {op:Op} {ty:TypeId} {pos:String} {af:Array Edge} {l:List Oper} {cs:List CD}
theorem qi {k:IntKind} {n:Int} (h:(decide (k.min≤n) && decide (n≤k.max))=true:=by kernel_rfl):Opd (.const (.int k n)) [] (.pv (.int k n)):=.ci h
theorem qf {c:CD} (h:OpC P ⟨d,op,ty,pos,af,none⟩ c) (hs:Z5 E.s c.ps) (hr:Z5 E.r c.pr) (t:Zu P ops (E.step ⟨d,op,ty,pos,af,none⟩ c) l cs E'):Zu P ops E (⟨d,op,ty,pos,af,none⟩ :: l) (c :: cs) E':=cF rfl h hs hr t
theorem qM {i:Nat} {s:SF} (hl:look E.s i=some s) (hd:ZaO d s=true) (t:Zu P ops (E.step ⟨d,.move (.tmp i),ty,pos,af,none⟩ ⟨[(i,s)],[],s,[]⟩) l cs E'):Zu P ops E (⟨d,.move (.tmp i),ty,pos,af,none⟩ :: l) (⟨[(i,s)],[],s,[]⟩ :: cs) E':=cF rfl (Zcn .t hd) ⟨hl,tv⟩ trivial t
theorem qR {i:Nat} {s:SF} (h:look E.s i=some s∧ZaO d s=true) (t:Zu P ops (E.step ⟨d,.move (.tmp i),ty,pos,af,none⟩ ⟨[(i,s)],[],s,[]⟩) l cs E'):Zu P ops E (⟨d,.move (.tmp i),ty,pos,af,none⟩ :: l) (⟨[(i,s)],[],s,[]⟩ :: cs) E':=qM h.1 h.2 t
theorem qN {i:Nat} {s:SF} (hl:look E.s i=some s) (hd:ZaO d s=true) (t:Zu P ops (E.step ⟨d,.assign (.tmp i),ty,pos,af,none⟩ ⟨[(i,s)],[],s,[]⟩) l cs E'):Zu P ops E (⟨d,.assign (.tmp i),ty,pos,af,none⟩ :: l) (⟨[(i,s)],[],s,[]⟩ :: cs) E':=cF rfl (ZhS .t hd) ⟨hl,tv⟩ trivial t
theorem qO {i:Nat} {s:SF} (h:look E.s i=some s∧ZaO d s=true) (t:Zu P ops (E.step ⟨d,.assign (.tmp i),ty,pos,af,none⟩ ⟨[(i,s)],[],s,[]⟩) l cs E'):Zu P ops E (⟨d,.assign (.tmp i),ty,pos,af,none⟩ :: l) (⟨[(i,s)],[],s,[]⟩ :: cs) E':=qN h.1 h.2 t
theorem qk {j sj:Nat} {want β:Bool} {ps:List (Nat×SF)} {pr:List (Nat×RS)} {q:SF} (hj:(ops[j]?).bind (·.dst)=some sj) (h:β=want→OpC P ⟨d,op,ty,pos,af,some (j,want)⟩ ⟨ps,pr,q,[]⟩) (hs:Z5 E.s ((sj,.pv (.bool β)) :: ps)) (hr:Z5 E.r pr)
 (t:Zu P ops (E.step ⟨d,op,ty,pos,af,some (j,want)⟩ ⟨(sj,.pv (.bool β)) :: ps,pr,.when (β=want) q,[]⟩) l cs E'):Zu P ops E (⟨d,op,ty,pos,af,some (j,want)⟩ :: l) (⟨(sj,.pv (.bool β)) :: ps,pr,.when (β=want) q,[]⟩ :: cs) E':=.cons (.cond rfl hj h) hs hr t
theorem qm {j sj i:Nat} {want β:Bool} {s:SF} (hj:(ops[j]?).bind (·.dst)=some sj) (hb:look E.s sj=some (.pv (.bool β))) (hl:look E.s i=some s) (hd:ZaO d s=true)
 (t:Zu P ops (E.step ⟨d,.move (.tmp i),ty,pos,af,some (j,want)⟩ ⟨[(sj,.pv (.bool β)),(i,s)],[],.when (β=want) s,[]⟩) l cs E'):Zu P ops E (⟨d,.move (.tmp i),ty,pos,af,some (j,want)⟩ :: l) (⟨[(sj,.pv (.bool β)),(i,s)],[],.when (β=want) s,[]⟩ :: cs) E':=.cons (.cond rfl hj fun _=>Zcn .t hd) ⟨hb,hl,tv⟩ trivial t
theorem qZ:Zu P ops E [] [] E:=.nil
variable {i j n:Nat} {k:IntKind} {s:SF} {t T:TypeId} {a:Anc} {o:Nat} {cells:List CF} {c:CD}
theorem qB {b:Bool} : Zu P ops E [⟨d,.assign (.const (.bool b)),ty,pos,af,none⟩] [⟨[],[],.pv (.bool b),[]⟩] (E.step ⟨d,.assign (.const (.bool b)),ty,pos,af,none⟩ ⟨[],[],.pv (.bool b),[]⟩):=qf (oN .cb (by cases d <;> rfl)) trivial trivial qZ
theorem qI {m:Int} (t:Zu P ops (E.step ⟨d,.assign (.const (.int k m)),ty,pos,af,none⟩ ⟨[],[],.pv (.int k m),[]⟩) l cs E') (h:(decide (k.min≤m) && decide (m≤k.max))=true:=by kernel_rfl):Zu P ops E (⟨d,.assign (.const (.int k m)),ty,pos,af,none⟩ :: l) (⟨[],[],.pv (.int k m),[]⟩ :: cs) E':=qf (oN (.ci h) (by cases d <;> rfl)) trivial trivial t
theorem qJ {m:Int} (t:Zu P ops (E.step ⟨d,.move (.const (.int k m)),ty,pos,af,none⟩ ⟨[],[],.pv (.int k m),[]⟩) l cs E') (h:(decide (k.min≤m) && decide (m≤k.max))=true:=by kernel_rfl):Zu P ops E (⟨d,.move (.const (.int k m)),ty,pos,af,none⟩ :: l) (⟨[],[],.pv (.int k m),[]⟩ :: cs) E':=qf (oM (.ci h) (by cases d <;> rfl)) trivial trivial t
theorem qC {v:Value} (t:Zu P ops (E.step ⟨d,.assign (.const v),ty,pos,af,none⟩ ⟨[],[],.pv (.is v),[]⟩) l cs E') (h:v.oneCell' = true:=by rfl):Zu P ops E (⟨d,.assign (.const v),ty,pos,af,none⟩ :: l) (⟨[],[],.pv (.is v),[]⟩ :: cs) E':=qf (oN (.c h) (by cases d <;> rfl)) trivial trivial t
theorem qL {x y:Int} (h:Z5 E.s [(i,.pv (.int k x)),(j,.pv (.int k y))]):Zu P ops E [⟨d,.binOp .lss T (.tmp i) (.tmp j) t,ty,pos,af,none⟩] [⟨[(i,.pv (.int k x)),(j,.pv (.int k y))],[],.pv (.bool (decide (x<y))),[]⟩] (E.step ⟨d,.binOp .lss T (.tmp i) (.tmp j) t,ty,pos,af,none⟩ ⟨[(i,.pv (.int k x)),(j,.pv (.int k y))],[],.pv (.bool (decide (x<y))),[]⟩):=qf (Zbb .t .t) h trivial qZ
theorem qa (n:Nat) (h:Z5 E.s [(i,.adr a o)]) (hr:Z5 E.r [(n,.pt a T cells)]) (t':Zu P ops (E.step ⟨d,.load t (.tmp i),ty,pos,af,none⟩ ⟨[(i,.adr a o)],[(n,.pt a T cells)],ldSF false 1 cells o,[]⟩) l cs E') (ha:P.aggB t=some false:=by kernel_rfl) (hs:(P.info? t).map (·.size)=some 1:=by kernel_rfl) (hk:Nat.ble (o+wid false 1) cells.length=true:=by kernel_rfl) (hd:ZaO d (ldSF false 1 cells o)=true:=by rfl) :
 Zu P ops E (⟨d,.load t (.tmp i),ty,pos,af,none⟩ :: l) (⟨[(i,.adr a o)],[(n,.pt a T cells)],ldSF false 1 cells o,[]⟩ :: cs) E':=qf (Zbz n .adr ha hs hk hd) h hr t'
theorem qe (sz n:Nat) {v:Value} (h:Z5 E.s [(i,.pv (.is v))]) (hr:Z5 E.r [(n,.pt (.val v) T cells)]) (t':Zu P ops (E.step ⟨d,.load t (.tmp i),ty,pos,af,none⟩ ⟨[(i,.pv (.is v))],[(n,.pt (.val v) T cells)],ldSF true sz cells 0,[]⟩) l cs E') (ha:P.aggB t=some true:=by kernel_rfl) (hs:(P.info? t).map (·.size)=some sz:=by kernel_rfl) (hk:Nat.ble (0+wid true sz) cells.length=true:=by kernel_rfl) (hd:ZaO d (ldSF true sz cells 0)=true:=by rfl) :
 Zu P ops E (⟨d,.load t (.tmp i),ty,pos,af,none⟩ :: l) (⟨[(i,.pv (.is v))],[(n,.pt (.val v) T cells)],ldSF true sz cells 0,[]⟩ :: cs) E':=qf (Zbz n .is ha hs hk hd) h hr t'
theorem qg (off n:Nat) {v:Value} {f:Nat} (h:Z5 E.s [(i,.pv (.is v))]) (hr:Z5 E.r [(n,.pt (.val v) T cells)]) (t':Zu P ops (E.step ⟨d,.fieldAddr t (.tmp i) f,ty,pos,af,none⟩ ⟨[(i,.pv (.is v))],[(n,.pt (.val v) T cells)],.adr (.val v) (0+off),[]⟩) l cs E') (ho:P.fieldOff t f=some off:=by kernel_rfl) :
 Zu P ops E (⟨d,.fieldAddr t (.tmp i) f,ty,pos,af,none⟩ :: l) (⟨[(i,.pv (.is v))],[(n,.pt (.val v) T cells)],.adr (.val v) (0+off),[]⟩ :: cs) E':=qf (ZS n .is ho (by cases d <;> rfl)) h hr t'
theorem qs (sz n:Nat) {v:Value} {new:List CF} (h:Z5 E.s [(i,.pv (.is v)),(j,.agg new)]) (hr:Z5 E.r [(n,.pt (.val v) T cells)]) (t':Zu P ops (E.step ⟨none,.store t (.tmp i) (.tmp j),ty,pos,af,none⟩ ⟨[(i,.pv (.is v)),(j,.agg new)],[(n,.pt (.val v) T cells)],.pv .any,[(n,.pt (.val v) T (Zd cells 0 new))]⟩) l cs E') (hs:(P.info? t).map (·.size)=some sz:=by kernel_rfl) (hl:Nat.beq new.length sz=true:=by kernel_rfl) (hk:Nat.ble (0+sz) cells.length=true:=by kernel_rfl) :
 Zu P ops E (⟨none,.store t (.tmp i) (.tmp j),ty,pos,af,none⟩ :: l) (⟨[(i,.pv (.is v)),(j,.agg new)],[(n,.pt (.val v) T cells)],.pv .any,[(n,.pt (.val v) T (Zd cells 0 new))]⟩ :: cs) E':=qf (Zhq n .is .t hs hl hk) h hr t'
theorem qS (sz n:Nat) {new:List CF} {e:Nat} (h:Z5 E.s [(i,.same e),(j,.agg new)]) (hr:Z5 E.r [(n,.pt (.slot e) T cells)]) (t':Zu P ops (E.step ⟨none,.store t (.tmp i) (.tmp j),ty,pos,af,none⟩ ⟨[(i,.same e),(j,.agg new)],[(n,.pt (.slot e) T cells)],.pv .any,[(n,.pt (.slot e) T (Zd cells 0 new))]⟩) l cs E') (hs:(P.info? t).map (·.size)=some sz:=by kernel_rfl) (hl:Nat.beq new.length sz=true:=by kernel_rfl) (hk:Nat.ble (0+sz) cells.length=true:=by kernel_rfl) :
 Zu P ops E (⟨none,.store t (.tmp i) (.tmp j),ty,pos,af,none⟩ :: l) (⟨[(i,.same e),(j,.agg new)],[(n,.pt (.slot e) T cells)],.pv .any,[(n,.pt (.slot e) T (Zd cells 0 new))]⟩ :: cs) E':=qf (Zhq n .same .t hs hl hk) h hr t'
theorem qu {α:Type} {R:α→List PV} {q:List α} {e:TypeId} (hu:P.underlying t=some (.slice e)) (h:Z5 E.s [(i,.pv (.sl R q))]) (t':Zu P ops (E.step ⟨d,.call { callee:=.builtin .len,args:=#[.tmp i],argTypes:=#[t] },ty,pos,af,none⟩ ⟨[(i,.pv (.sl R q))],[],.pv (.int .i64 (q.length:Int)),[]⟩) l cs E') :
 Zu P ops E (⟨d,.call { callee:=.builtin .len,args:=#[.tmp i],argTypes:=#[t] },ty,pos,af,none⟩ :: l) (⟨[(i,.pv (.sl R q))],[],.pv (.int .i64 (q.length:Int)),[]⟩ :: cs) E':=qf (ZcS hu .t) h trivial t'
theorem qp {x m:Int} (h:Z5 E.s [(i,.pv (.int k x))]) (t':Zu P ops (E.step ⟨d,.binOp .add T (.tmp i) (.const (.int k m)) t,ty,pos,af,none⟩ ⟨[(i,.pv (.int k x))],[],.pv (.int k (k.wrap (x+m))),[]⟩) l cs E') (hm:(decide (k.min≤m) && decide (m≤k.max))=true:=by kernel_rfl) :
 Zu P ops E (⟨d,.binOp .add T (.tmp i) (.const (.int k m)) t,ty,pos,af,none⟩ :: l) (⟨[(i,.pv (.int k x))],[],.pv (.int k (k.wrap (x+m))),[]⟩ :: cs) E':=qf (Zce .t (.ci hm)) h trivial t'
theorem qx (n:Nat) {d:Nat} {q:List PV} (h:Z5 E.s [(i,.pv (.agg q))]) (t':Zu P ops (E.step ⟨some d,.box t (.tmp i),ty,pos,af,none⟩ ⟨[(i,.pv (.agg q))],[],.same d,[(n,.pt (.slot d) t (q.map CF.pv))]⟩) l cs E') (hd:(cdeps (q.map CF.pv)).contains d=false:=by kernel_rfl) :
 Zu P ops E (⟨some d,.box t (.tmp i),ty,pos,af,none⟩ :: l) (⟨[(i,.pv (.agg q))],[],.same d,[(n,.pt (.slot d) t (q.map CF.pv))]⟩ :: cs) E':=qf (Zsx n (.conv .t .agg) hd) h trivial t'
theorem qy (sz:Nat) {α:Type} [Inhabited α] {R:α→List PV} {q:List α} {e:TypeId} {m:Int} (hu:P.underlying t=some (.slice e)) (h:Z5 E.s [(i,.pv (.sl R q)),(j,.pv (.int k m))]) (t':Zu P ops (E.step ⟨d,.indexAddr t (.tmp i) (.tmp j),ty,pos,af,none⟩ ⟨[(i,.pv (.sl R q)),(j,.pv (.int k m))],[],.pv (.ref (R (Nn q m.toNat))),[]⟩) l cs E') (h0:0≤m:=by omega) (h1:m<q.length:=by omega) (hs:(P.info? e).map (·.size)=some sz:=by kernel_rfl) (hR:∀ x,(R x).length=sz:=by intro x;rfl) :
 Zu P ops E (⟨d,.indexAddr t (.tmp i) (.tmp j),ty,pos,af,none⟩ :: l) (⟨[(i,.pv (.sl R q)),(j,.pv (.int k m))],[],.pv (.ref (R (Nn q m.toNat))),[]⟩ :: cs) E':=qf (o_indexAddr_sl (.mk hu hs) hR .t .t h0 h1) h trivial t'
theorem qw (n:Nat) {sj:Nat} {want β:Bool} (hj:(ops[j]?).bind (·.dst)=some sj) (h:Z5 E.s [(sj,.pv (.bool β)),(i,.when (β=want) (.adr a o))]) (hr:Z5 E.r [(n,.pt a T cells)]) (t':Zu P ops (E.step ⟨d,.load t (.tmp i),ty,pos,af,some (j,want)⟩ ⟨[(sj,.pv (.bool β)),(i,.when (β=want) (.adr a o))],[(n,.pt a T cells)],.when (β=want) (ldSF false 1 cells o),[]⟩) l cs E') (ha:P.aggB t=some false:=by kernel_rfl) (hs:(P.info? t).map (·.size)=some 1:=by kernel_rfl) (hk:Nat.ble (o+wid false 1) cells.length=true:=by kernel_rfl) (hd:ZaO d (ldSF false 1 cells o)=true:=by rfl) :
 Zu P ops E (⟨d,.load t (.tmp i),ty,pos,af,some (j,want)⟩ :: l) (⟨[(sj,.pv (.bool β)),(i,.when (β=want) (.adr a o))],[(n,.pt a T cells)],.when (β=want) (ldSF false 1 cells o),[]⟩ :: cs) E':=qk hj (fun g=>Zbz n (.w g .adr) ha hs hk hd) h hr t'
theorem qv (off n:Nat) {sj:Nat} {want β:Bool} {v:Value} {f:Nat} (hj:(ops[j]?).bind (·.dst)=some sj) (h:Z5 E.s [(sj,.pv (.bool β)),(i,.pv (.is v))]) (hr:Z5 E.r [(n,.pt (.val v) T cells)]) (t':Zu P ops (E.step ⟨d,.fieldAddr t (.tmp i) f,ty,pos,af,some (j,want)⟩ ⟨[(sj,.pv (.bool β)),(i,.pv (.is v))],[(n,.pt (.val v) T cells)],.when (β=want) (.adr (.val v) (0+off)),[]⟩) l cs E') (ho:P.fieldOff t f=some off:=by kernel_rfl) :
 Zu P ops E (⟨d,.fieldAddr t (.tmp i) f,ty,pos,af,some (j,want)⟩ :: l) (⟨[(sj,.pv (.bool β)),(i,.pv (.is v))],[(n,.pt (.val v) T cells)],.when (β=want) (.adr (.val v) (0+off)),[]⟩ :: cs) E':=qk hj (fun _=>ZS n .is ho (by cases d <;> rfl)) h hr t'
end
theorem Zc {P:Program} {Q:Exit→Act→World→Prop} {B:ZaV} {id n:Nat} {l:List Oper} {cs:List CD} {E E':En} {a:Act} {w:World} {F:Fp} (G:Sat B E a w F) (hc:Zu P l.toArray E l cs E') (Z:B.n=n) (is ns:List Nat) {L:List (Nat×SF)} {R:List (Nat×RS)} (hL:ZbG E'.s is [] = some L) (hR:ZbG E'.r ns [] = some R)
  (hQ:∀ a w F,Sat B ⟨L,R⟩ a w F→Q .normal a w) (hE:E.shutB=true:=by kernel_rfl) (ho:okSeq l cs [] = true:=by kernel_rfl) (hd:dstsIn n l=true:=by kernel_rfl):(Code.region id l.toArray false).wp P Q a w:=
 Zlz G hc Z (fun a w F h=>(h.nm is ns hL hR).elim fun F' h'=>hQ a w F' h') hE ho hd
theorem ZrR {P:Program} {Q:Exit→Act→World→Prop} {B:ZaV} {id n:Nat} {l:List Oper} {cs:List CD} {E E':En} {a:Act} {w:World} {F:Fp} (G:Sat B E a w F) (hc:Zu P l.toArray E l cs E') (Z:B.n=n) (is ns:List Nat) {L:Tau→List (Nat×SF)} {R:Tau→List (Nat×RS)} (hL:∀ τ,ZbG (E'.sub τ).s is [] = some (L τ)) (hR:∀ τ,ZbG (E'.sub τ).r ns [] = some (R τ))
  (hQ:∀ τ a w F,Sat B ⟨L τ,R τ⟩ a w F→Q .normal a w) (hE:E.shutB=true:=by kernel_rfl) (ho:okSeq l cs [] = true:=by kernel_rfl) (hd:dstsIn n l=true:=by kernel_rfl):(Code.region id l.toArray false).wp P Q a w:=
 Zlz G hc Z (fun a w F h=>(h.sub.nm is ns (hL _) (hR _)).elim fun F' h'=>hQ _ a w F' h') hE ho hd
section
variable {P:Program} {E:En}
theorem ROk.cl (n:Nat) (ag:Bool) (sz:Nat) {t:Nat} {T T':TypeId} {v:Value} {cells:List CF} {rs:List ResultVar} {ss:List SF} (h:look E.s t=some (.pv (.is v))) (hr:look E.r n=some (.pt (.val v) T' cells)) (r:ROk P E rs ss) (ha:P.aggB T=some ag:=by kernel_rfl) (hs:(P.info? T).map (·.size)=some sz:=by kernel_rfl) (hk:Nat.ble (0+wid ag sz) cells.length=true:=by kernel_rfl):ROk P E (.cell t T :: rs) (ldSF ag sz cells 0 :: ss):=.cell h .is hr ha hs hk r
theorem Zo {B:ZaV} (hfr:B.fr=B.y) {a:Act} {w:World} {F:Fp} {fn:Func} {q:PV} {t:Nat} {s:SF} (G:Sat B E a w F) (h0:look E.r 0=some (frame B)) (hf:fn.results.toList = [.tmp t]) (h:look E.s t=some s) (hq:Ent s (.pv q)):bodyPost P fn (RP B q) .ret a w:=ZW hfr G h0 (hf ▸ .tmp h .nil) (.one hq)
end
theorem Zl2 {P:Program} {Q:Exit→Act→World→Prop} {B:ZaV} {id n:Nat} {l:List Oper} {cs:List CD} {E E':En} {a:Act} {w:World} {F:Fp} (G:Sat B E a w F) (hc:Zu P l.toArray E l cs E') (Z:B.n=n)
  (hQ:∀ a w F,Sat B E' a w F→Q .normal a w) (hm:P.follows .mixedOrders=true:=by kernel_rfl) (hE:E.shutB=true:=by kernel_rfl) (ho:drf l cs=true:=by kernel_rfl) (hd:dstsIn n l=true:=by kernel_rfl):(Code.region id l.toArray true).wp P Q a w:=
 ZmF hm G hE hc ho (by rw [Z];exact hd) hQ
theorem Zv {P:Program} {Q:Exit→Act→World→Prop} {B:ZaV} {id n:Nat} {l:List Oper} {cs:List CD} {E E':En} {a:Act} {w:World} {F:Fp} (G:Sat B E a w F) (hc:Zu P l.toArray E l cs E') (Z:B.n=n) (is ns:List Nat) {L:List (Nat×SF)} {R:List (Nat×RS)} (hL:ZbG E'.s is [] = some L) (hR:ZbG E'.r ns [] = some R)
  (hQ:∀ a w F,Sat B ⟨L,R⟩ a w F→Q .normal a w) (hm:P.follows .mixedOrders=true:=by kernel_rfl) (hE:E.shutB=true:=by kernel_rfl) (ho:drf l cs=true:=by kernel_rfl) (hd:dstsIn n l=true:=by kernel_rfl):(Code.region id l.toArray true).wp P Q a w:=
 Zl2 G hc Z (fun a w F h=>(h.nm is ns hL hR).elim fun F' h'=>hQ a w F' h') hm hE ho hd
theorem Zqr {P:Program} {Q:Exit→Act→World→Prop} {B:ZaV} {id n:Nat} {l:List Oper} {cs:List CD} {E E':En} {a:Act} {w:World} {F:Fp} (G:Sat B E a w F) (hc:Zu P l.toArray E l cs E') (Z:B.n=n) (is ns:List Nat) {L:Tau→List (Nat×SF)} {R:Tau→List (Nat×RS)} (hL:∀ τ,ZbG (E'.sub τ).s is [] = some (L τ)) (hR:∀ τ,ZbG (E'.sub τ).r ns [] = some (R τ))
  (hQ:∀ τ a w F,Sat B ⟨L τ,R τ⟩ a w F→Q .normal a w) (hm:P.follows .mixedOrders=true:=by kernel_rfl) (hE:E.shutB=true:=by kernel_rfl) (ho:drf l cs=true:=by kernel_rfl) (hd:dstsIn n l=true:=by kernel_rfl):(Code.region id l.toArray true).wp P Q a w:=
 Zl2 G hc Z (fun a w F h=>(h.sub.nm is ns (hL _) (hR _)).elim fun F' h'=>hQ _ a w F' h') hm hE ho hd
theorem rZ {P:Program} {Q:Exit → Act → World → Prop} {K:Act → World → Prop} {B:ZaV} {id n:Nat} {l:List Oper} {cs:List CD} {E E':En} {a:Act} {w:World} {F:Fp} (G:Sat B E a w F) (hc:Zu P l.toArray E l cs E') (Z:B.n=n) (is ns:List Nat) {L:List (Nat × SF)} {R:List (Nat × RS)} (hQ:∀ {a w F},Sat B ⟨L,R⟩ a w F → K a w) (hL:ZbG E'.s is []=some L:=by exact rfl) (hR:ZbG E'.r ns []=some R:=by exact rfl) (hE:E.shutB=true:=by kernel_rfl) (ho:okSeq l cs []=true:=by kernel_rfl) (hd:dstsIn n l=true:=by kernel_rfl):(Code.region id l.toArray false).wp P (Exit.then K Q) a w:=Zc G hc Z is ns hL hR (fun a w F h=>hQ h) hE ho hd
theorem rS {P:Program} {Q:Exit → Act → World → Prop} {B:ZaV} {id n:Nat} {l:List Oper} {cs:List CD} {E E':En} {a:Act} {w:World} {F:Fp} (G:Sat B E a w F) (hc:Zu P l.toArray E l cs E') (Z:B.n=n) (is ns:List Nat) {L:Tau → List (Nat × SF)} {R:Tau → List (Nat × RS)} (hQ:∀ {a w F} τ,Sat B ⟨L τ,R τ⟩ a w F → Q .normal a w) (hL:∀ τ,ZbG (E'.sub τ).s is []=some (L τ):=by exact fun _=>rfl) (hR:∀ τ,ZbG (E'.sub τ).r ns []=some (R τ):=by exact fun _=>rfl) (hE:E.shutB=true:=by kernel_rfl) (ho:okSeq l cs []=true:=by kernel_rfl) (hd:dstsIn n l=true:=by kernel_rfl):(Code.region id l.toArray false).wp P Q a w:=ZrR G hc Z is ns hL hR (fun τ a w F h=>hQ τ h) hE ho hd
theorem rT {P:Program} {Q:Exit → Act → World → Prop} {B:ZaV} {id n:Nat} {l:List Oper} {cs:List CD} {E E':En} {a:Act} {w:World} {F:Fp} (G:Sat B E a w F) (hc:Zu P l.toArray E l cs E') (Z:B.n=n) (is ns:List Nat) {L:Tau → List (Nat × SF)} {R:Tau → List (Nat × RS)} (hQ:∀ {a w F} τ,Sat B ⟨L τ,R τ⟩ a w F → Q .normal a w) (hL:∀ τ,ZbG (E'.sub τ).s is []=some (L τ):=by exact fun _=>rfl) (hR:∀ τ,ZbG (E'.sub τ).r ns []=some (R τ):=by exact fun _=>rfl) (hm:P.follows .mixedOrders=true:=by kernel_rfl) (hE:E.shutB=true:=by kernel_rfl) (ho:drf l cs=true:=by kernel_rfl) (hd:dstsIn n l=true:=by kernel_rfl):(Code.region id l.toArray true).wp P Q a w:=Zqr G hc Z is ns hL hR (fun τ a w F h=>hQ τ h) hm hE ho hd
end Go.Gm
