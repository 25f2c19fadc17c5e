/- Laws and walks. No condition beyond what each says. -/
import Derived.Test.YtfecljadegkmdaaGreatLibG
import Derived.Shelf.SlIter.Collect
import Derived.Maps.RangeRun
import Derived.Sort.MapsRangeIn
import Derived.RangeFuncBound
namespace Go.Proofs.YtfecljadegkmdaaGreat
open Go Go.Gm Tryz
set_option linter.unusedVariables false
set_option linter.unusedSimpArgs false
set_option maxHeartbeats 4000000
set_option maxRecDepth 8000
open Go.RowKit Go.Maps Go.Sort Go.Shelf Go.ChangeMaps Go.MapKept
section
variable {F:Fence} {n:Nat} {P:Program} {ops:Array Oper} {rest:List Oper} {o:Oper} {a:Act} {w:World} {Q:Exit→Act→World→Prop}
theorem Ybw:type_of% @underlying27:=@underlying27
theorem Ybx:type_of% @underlying28:=@underlying28
theorem Yby:type_of% @underlying37:=@underlying37
theorem Ybz:type_of% @underlying34:=@underlying34
theorem YbA:type_of% @underlying3:=@underlying3
theorem YbB:type_of% @underlying23:=@underlying23
theorem YbC:type_of% @underlying109:=@underlying109
theorem YbD:type_of% @underlying95:=@underlying95
theorem YbE:type_of% @underlying176:=@underlying176
theorem YbF:type_of% @underlying219:=@underlying219
theorem YbG:type_of% @underlying94:=@underlying94
theorem YbH:type_of% @underlying186:=@underlying186
theorem YbI:type_of% @underlying87:=@underlying87
theorem YbJ:type_of% @underlying167:=@underlying167
theorem ZdJ (hg:o.guard=none) (m:Operand) (t:TypeId) (hop:o.op=Op.range t m) (k e:TypeId) (ht:P.underlying t=some (.map k e)) (b:Nat) (es:Array MapEntry) (clock:Nat) (hm:a.eval m = .map (some b)) (hb:w.heap[b]? = some (.map es clock))
  (hK:wpListIn F n P ops Q rest (a.put o.dst (.pointer (some ⟨w.heap.size,0,none⟩))) (w.alloc (.mapIter (some b) clock #[] clock))):wpListIn F n P ops Q (o :: rest) a w:=by
 refine wpListIn_plain hg fun K' hK'=>?_
 unfold Oper.wpIn
 refine ⟨by simp [Oper.about,hop],?_⟩
 rw [Oper.semAt_plain F _ _ (by rw [hop];intro c hc';cases hc')]
 simp [execOp,hop,hm,run_range_map w t k e b es clock ht hb,Result.andThen]
 exact hK' _ _ hK
end
theorem Zmv {w w1:World} {r b:Nat} {clock c0:Nat} {seen:Array Nat} {es:Array MapEntry} {x:Nat} (hal:w1=w∨w1=w.drew) (hr:w.heap[r]? = some (.mapIter (some b) clock seen c0)) (hb:w.heap[b]? = some (.map es clock)) (hne:r≠b) :
  (setBlock w1 r (.mapIter (some b) clock (seen.push x) clock)).heap[r]? = some (.mapIter (some b) clock (seen.push x) clock)∧(setBlock w1 r (.mapIter (some b) clock (seen.push x) clock)).heap[b]? = some (.map es clock)∧w.grownBy (setBlock w1 r (.mapIter (some b) clock (seen.push x) clock)) (some r):=by
 have hr1:w1.heap[r]? = some (.mapIter (some b) clock seen c0):=by rcases hal with rfl | rfl <;> exact hr
 have hb1:w1.heap[b]? = some (.map es clock):=by rcases hal with rfl | rfl <;> exact hb
 have hset:=heap_set (o':=.mapIter (some b) clock (seen.push x) clock) hr1
 refine ⟨hset.1,(hset.2 b (fun e1=>hne e1.symm)).trans hb1,?_⟩
 rcases hal with rfl | rfl <;> exact ⟨rfl,rfl,rfl,by simp [setBlock],fun i _ hi=>hset.2 i (fun e1=>hi (by rw [e1]))⟩
def ZnR (es:Array MapEntry) (seen:Array Nat):Prop:=(leftOf es seen).size=0
structure ZnK (P:Program) (w w2:World) (r b clock:Nat) (seen:Array Nat) (es:Array MapEntry) (e:MapEntry):Prop where
 left:e ∈ (leftOf es seen).toList
 it:w2.heap[r]? = some (.mapIter (some b) clock (seen.push e.born) clock)
 mp:w2.heap[b]? = some (.map es clock)
 grown:w.grownBy w2 (some r)
 entry:(Instr.entry (.pointer (some ⟨r,0,none⟩))).run P w2 = .ok (.tuple #[e.key,e.val]) w2
section
variable {F:Fence} {n:Nat} {P:Program} {ops:Array Oper} {rest:List Oper} {o:Oper} {a:Act} {w:World} {Q:Exit→Act→World→Prop}
theorem Zep (hg:o.guard=none) (it:Operand) (hop:o.op=Op.next it false) (r b clock c0:Nat) (seen:Array Nat) (es:Array MapEntry) (hit:a.eval it = .pointer (some ⟨r,0,none⟩))
  (hr:w.heap[r]? = some (.mapIter (some b) clock seen c0)) (hb:w.heap[b]? = some (.map es clock)) (hold:∀ x ∈ es.toList,x.born<clock) (hsc:clock≤c0) (hne:r≠b) (hnd:(es.toList.map (·.born)).Nodup)
  (hDone:ZnR es seen→wpListIn F n P ops Q rest (a.put o.dst (.tuple #[.bool false])) w)
  (hMore:∀ (e:MapEntry) (w2:World),ZnK P w w2 r b clock seen es e→wpListIn F n P ops Q rest (a.put o.dst (.tuple #[.bool true,e.key,e.val])) w2) :
  wpListIn F n P ops Q (o :: rest) a w:=by
 refine wpListIn_plain hg fun K' hK'=>?_
 unfold Oper.wpIn
 refine ⟨by simp [Oper.about,hop],?_⟩
 rw [Oper.semAt_plain F _ _ (by rw [hop];intro c hc';cases hc')]
 rcases run_next_at (P:=P) w o.type r b clock c0 seen es clock hr hb hold hsc with ⟨h0,hrun⟩ | ⟨e,he,w1,hal,hrun⟩
 ·simp [execOp,hop,hit,hrun,Result.andThen]
  exact hK' _ _ (hDone h0)
 ·simp [execOp,hop,hit,hrun,Result.andThen]
  obtain ⟨h1,h2,h3⟩:=Zmv (x:=e.born) hal hr hb hne
  exact hK' _ _ (hMore e _ ⟨he,h1,h2,h3,run_entry_at _ r b clock seen es clock e h1 h2 (mem_left he).1 hnd⟩)
end
theorem Ziv:∀ {es:List MapEntry} {seen:Array Nat} {e:MapEntry},(es.map (·.born)).Nodup→e ∈ es→seen.contains e.born=false→(es.filter fun x=>(seen.push e.born).contains x.born).Perm (e :: es.filter fun x=>seen.contains x.born)
 | [],_,_,_,h,_=>by cases h
 | x :: es,seen,e,hn,hm,hs=>by
  rw [Yy,YaT] at hn
  rcases Yo.1 hm with rfl | hm
  ·have hrest:(es.filter fun x=>(seen.push e.born).contains x.born)=es.filter fun x=>seen.contains x.born:=List.filter_congr fun y hy=>by
    rw [contains_push]
    have:(y.born == e.born)=false:=by
     simp
     intro h9
     exact hn.1 (h9 ▸ Yv.2 ⟨y,hy,rfl⟩)
    rw [this,Bool.or_false]
   rw [YaH (by rw [contains_push];simp),hrest,YaI (by rw [hs];simp)]
  ·have ih:=Ziv hn.2 hm hs
   have hx:(x.born == e.born)=false:=by
    simp
    intro h9
    exact hn.1 (h9 ▸ Yv.2 ⟨e,hm,rfl⟩)
   have hc:(seen.push e.born).contains x.born=seen.contains x.born:=by rw [contains_push,hx,Bool.or_false]
   cases hsx:seen.contains x.born with
   | true=>
    rw [YaH (by rw [hc,hsx]),YaH (by rw [hsx])]
    exact (ih.cons x).trans (List.Perm.swap e x _)
   | false=>
    rw [YaI (by rw [hc,hsx];simp),YaI (by rw [hsx];simp)]
    exact ih
theorem ZnG {es:Array MapEntry} {seen:Array Nat} (h:(leftOf es seen).size=0):(es.toList.filter fun x=>seen.contains x.born)=es.toList:=Ya4.2 fun x hx=>all_seen es seen h x hx
theorem Zme {es:List MapEntry} : (es.filter fun x=>(#[]:Array Nat).contains x.born) = []:=by
 rw [List.filter_eq_nil_iff];simp
theorem Zlt {es:Array MapEntry} : (leftOf es #[]).size=es.size:=by simp [leftOf]
end Go.Proofs.YtfecljadegkmdaaGreat
namespace Go.Proofs.YtfecljadegkmdaaGreat
open Go Go.Gm Tryz
set_option linter.unusedVariables false
set_option linter.unusedSimpArgs false
set_option maxHeartbeats 4000000
set_option maxRecDepth 8000
theorem Zc {x:Int} (h : -9223372036854775808≤x∧x≤9223372036854775807):IntKind.wrap .i64 x=x:=ZgO ⟨by simp [IntKind.min,IntKind.signed,IntKind.bits];omega,by simp [IntKind.max,IntKind.signed,IntKind.bits];omega⟩
theorem Zl {i:Nat} (h:i<9223372036854775807):IntKind.wrap .i64 ((i:Int)+1)=((i+1:Nat):Int):=by rw [Zc ow];omega
theorem Zdw {x:Int} (h:0≤x∧x≤18446744073709551615):IntKind.wrap .u64 x=x:=ZgO ⟨by simp [IntKind.min,IntKind.signed,IntKind.bits];omega,by simp [IntKind.max,IntKind.signed,IntKind.bits];omega⟩
theorem Sat.lenSl {α:Type} {R:α→List PV} {B:Zbo} {E:En} {a:Act} {w:World} {F:Fp} (h:Sat B E a w F) {i:Nat} {l:List α} (hl:Go.Gm.look E.s i=some (SF.pv (PV.sl R l))):l.length≤9223372036854775807:=by
 obtain ⟨_,cap,_,h1,h2,_⟩:=h.s i _ hl
 unfold maxLen at h2
 omega
def ZG (n:Int):List PV:=[.int .i64 n]
theorem ZaD {α:Type} [Inhabited α] {x y:List α} (hl:x.length=y.length) (h:∀ j,j<x.length→Nn x j=Nn y j):x=y:=by
 apply List.ext_getElem hl
 intro j h1 h2
 have:=h j h1
 rwa [ZE h1,ZE h2] at this
theorem Ze5 {α:Type} [Inhabited α] {q:List α} {k:Nat} (h:k<q.length):q.take k ++ [Nn q k] = q.take (k+1):=by
 rw [ZE h,YaL h]
theorem Z8 {α:Type} [Inhabited α] {q:List α} {k:Nat} (h:k<q.length):Nn q k ∈ q:=by rw [ZE h];exact Ybj h
theorem Zks {α:Type} [Inhabited α] {l:List α} {i:Nat} (h:i<l.length):l.drop i=Nn l i :: l.drop (i+1):=by rw [ZE h];exact List.drop_eq_getElem_cons h
theorem Z9 {α:Type} [Inhabited α] {l:List α} {i:Nat} (h:i<l.length):l.take (i+1)=l.take i ++ [Nn l i]:=(Ze5 h).symm
structure Zz where
 key:Int
 val:Int
 deriving DecidableEq,Inhabited
def Zx (p:Zz):List PV:=[.int .i64 p.key,.int .i64 p.val]
def Zaz (k v:Int):List Zz→Bool→List Zz
 | [],d=>if d then [] else [⟨k,v⟩]
 | p :: l,d=>(if d=false∧k≤p.key then [⟨k,v⟩] else [])++(if p.key=k then [] else [p])++Zaz k v l (d || decide (k≤p.key))
def putP (l:List Zz) (k v:Int):List Zz:=Zaz k v l false
def delP (l:List Zz) (k:Int):List Zz:=l.filter fun p=>!decide (p.key=k)
theorem Zij {k v:Int} {l:List Zz} (h:∀ p ∈ l,k<p.key):Zaz k v l false = ⟨k,v⟩ :: l:=by
 have done:∀ l:List Zz,(∀ p ∈ l,k<p.key)→Zaz k v l true=l:=by
  intro l
  induction l with
  | nil=>intro _;rfl
  | cons p l ih=>
   intro h
   have:=h p (by simp)
   rw [Zaz,Bool.true_or,ih fun x hx=>h x (by simp [hx]),Yc (by simp),Yc ow]
   rfl
 cases l with
 | nil=>rfl
 | cons p l=>
  have h1:=h p (by simp)
  rw [Zaz,show (false || decide (k≤p.key))=true by simp;omega,done l fun x hx=>h x (by simp [hx])]
  rw [Yd ⟨rfl,by omega⟩,Yc ow]
  rfl
theorem ZfO (k v:Int):∀ (l:List Zz) (d:Bool),(Zaz k v l d).length≤l.length+(if d then 0 else 1)
 | [],d=>by cases d <;> simp [Zaz]
 | p :: l,d=>by
  have h1:(Zaz k v l true).length≤l.length:=by simpa using ZfO k v l true
  have h2:(Zaz k v l false).length≤l.length+1:=by simpa using ZfO k v l false
  rw [Zaz,Yb,Yb,Yp]
  cases d <;> by_cases hx:k≤p.key <;> by_cases h3:p.key=k <;> simp [hx,h3] <;> omega
theorem Zkm (l:List Zz) (k v:Int):(putP l k v).length≤l.length+1:=by have h:=ZfO k v l false;unfold putP;simpa using h
section
variable {out t T:List Zz} {k x:Int} {e:Zz} {d:Bool}
end
inductive Z5 where
 | nil:Z5
 | node:Z5→Zz→Z5→Z5
 deriving Inhabited
def Zw:Z5→Int
 | .nil=>0
 | .node l _ r=>Zw l+Zw r+1
def Zg:Z5→Int
 | .nil=>0
 | .node l _ r=>max (Zg l) (Zg r)+1
def tList:Z5→List Zz
 | .nil=>[]
 | .node l p r=>tList l++p :: tList r
def Bal:Z5→Prop
 | .nil=>True
 | .node l _ r=>Bal l∧Bal r∧Zg l≤Zg r+1∧Zg r≤Zg l+1
theorem Z4:∀ t,0≤Zg t
 | .nil=>Yak _
 | .node l _ r=>by have:=Z4 l;have:=Z4 r;unfold Zg;omega
theorem ZI:∀ t,0≤Zw t
 | .nil=>Yak _
 | .node l _ r=>by have:=ZI l;have:=ZI r;unfold Zw;omega
theorem Zc0:∀ t,Zg t≤Zw t
 | .nil=>Yak _
 | .node l _ r=>by have:=Zc0 l;have:=Zc0 r;have:=ZI l;have:=ZI r;unfold Zg Zw;omega
theorem ZM:∀ t,Zw t=((tList t).length:Int)
 | .nil=>rfl
 | .node l _ r=>by have:=ZM l;have:=ZM r;simp only [Zw,tList,Yb,Yp];omega
def ZaX (l:Z5) (p:Zz) (r:Z5):Z5:=
 if Zg r+1<Zg l then
  match l with
  | .node ll lp lr=>if Zg lr≤Zg ll then .node ll lp (.node lr p r) else
   match lr with
   | .node a z b=>.node (.node ll lp a) z (.node b p r)
   | .nil=>.node (.node ll lp .nil) p r
  | .nil=>.node .nil p r
 else if Zg l+1<Zg r then
  match r with
  | .node rl rp rr=>if Zg rl≤Zg rr then .node (.node l p rl) rp rr else
   match rl with
   | .node a z b=>.node (.node l p a) z (.node b rp rr)
   | .nil=>.node l p (.node .nil rp rr)
  | .nil=>.node l p .nil
 else .node l p r
theorem Zbe (l:Z5) (p:Zz) (r:Z5):tList (ZaX l p r)=tList l++p :: tList r:=by
 unfold ZaX
 split
 ·split
  ·split
   ·simp [tList]
   ·split <;> simp [tList]
  ·simp [tList]
 ·split
  ·split
   ·split
    ·simp [tList]
    ·split <;> simp [tList]
   ·simp [tList]
  ·simp [tList]
theorem Zec {l r:Z5} (p:Zz) (hl:Bal l) (hr:Bal r) (h1:Zg l≤Zg r+2) (h2:Zg r≤Zg l+2):Bal (ZaX l p r)∧max (Zg l) (Zg r)≤Zg (ZaX l p r)∧Zg (ZaX l p r)≤max (Zg l) (Zg r)+1:=by
 unfold ZaX
 split
 ·rename_i hh
  match l,hl with
  | .nil,hl=>simp [Zg] at hh;have:=Z4 r;omega
  | .node ll lp lr,hl=>
   obtain ⟨b1,b2,b3,b4⟩:=hl
   have e:Zg (.node ll lp lr)=max (Zg ll) (Zg lr)+1:=rfl
   simp only
   split
   ·rename_i h3
    have g1:Zg (.node lr p r)=max (Zg lr) (Zg r)+1:=rfl
    have g2:Zg (.node ll lp (.node lr p r))=max (Zg ll) (Zg (.node lr p r))+1:=rfl
    refine ⟨⟨b1,⟨b2,hr,by omega,by omega⟩,by omega,by omega⟩,by omega,by omega⟩
   ·rename_i h3
    match lr,b2 with
    | .nil,b2=>simp [Zg] at h3;have:=Z4 ll;omega
    | .node a z b,b2=>
     obtain ⟨c1,c2,c3,c4⟩:=b2
     have e2:Zg (.node a z b)=max (Zg a) (Zg b)+1:=rfl
     have g1:Zg (.node ll lp a)=max (Zg ll) (Zg a)+1:=rfl
     have g2:Zg (.node b p r)=max (Zg b) (Zg r)+1:=rfl
     have g3:Zg (.node (.node ll lp a) z (.node b p r))=max (Zg (.node ll lp a)) (Zg (.node b p r))+1:=rfl
     show Bal (.node (.node ll lp a) z (.node b p r))∧_≤Zg (.node (.node ll lp a) z (.node b p r))∧Zg (.node (.node ll lp a) z (.node b p r))≤_
     refine ⟨⟨⟨b1,c1,by omega,by omega⟩,⟨c2,hr,by omega,by omega⟩,by omega,by omega⟩,by omega,by omega⟩
 ·rename_i hn
  split
  ·rename_i hh
   match r,hr with
   | .nil,hr=>simp [Zg] at hh;have:=Z4 l;omega
   | .node rl rp rr,hr=>
    obtain ⟨b1,b2,b3,b4⟩:=hr
    have e:Zg (.node rl rp rr)=max (Zg rl) (Zg rr)+1:=rfl
    simp only
    split
    ·rename_i h3
     have g1:Zg (.node l p rl)=max (Zg l) (Zg rl)+1:=rfl
     have g2:Zg (.node (.node l p rl) rp rr)=max (Zg (.node l p rl)) (Zg rr)+1:=rfl
     refine ⟨⟨⟨hl,b1,by omega,by omega⟩,b2,by omega,by omega⟩,by omega,by omega⟩
    ·rename_i h3
     match rl,b1 with
     | .nil,b1=>simp [Zg] at h3;have:=Z4 rr;omega
     | .node a z b,b1=>
      obtain ⟨c1,c2,c3,c4⟩:=b1
      have e2:Zg (.node a z b)=max (Zg a) (Zg b)+1:=rfl
      have g1:Zg (.node l p a)=max (Zg l) (Zg a)+1:=rfl
      have g2:Zg (.node b rp rr)=max (Zg b) (Zg rr)+1:=rfl
      have g3:Zg (.node (.node l p a) z (.node b rp rr))=max (Zg (.node l p a)) (Zg (.node b rp rr))+1:=rfl
      show Bal (.node (.node l p a) z (.node b rp rr))∧_≤Zg (.node (.node l p a) z (.node b rp rr))∧Zg (.node (.node l p a) z (.node b rp rr))≤_
      refine ⟨⟨⟨hl,c1,by omega,by omega⟩,⟨c2,b2,by omega,by omega⟩,by omega,by omega⟩,by omega,by omega⟩
  ·have g:Zg (.node l p r)=max (Zg l) (Zg r)+1:=rfl
   exact ⟨⟨hl,hr,by omega,by omega⟩,by omega,by omega⟩
theorem Zb9 (l:Z5) (p:Zz) (r:Z5):Zw (ZaX l p r)=Zw l+Zw r+1:=by
 rw [ZM,Zbe,ZM,ZM]
 simp only [Yb,Yp]
 omega
theorem ZiI:∀ {t:Z5},Bal t→(2:Int) ^ (Zg t).toNat≤(Zw t+1)*(Zw t+1)
 | .nil,_=>by decide
 | .node l p r,h=>by
  obtain ⟨h1,h2,h3,h4⟩:=h
  have il:=ZiI h1
  have ir:=ZiI h2
  have nl:=Z4 l
  have nr:=Z4 r
  have sl:=ZI l
  have sr:=ZI r
  have e1:Zg (.node l p r)=max (Zg l) (Zg r)+1:=rfl
  have e2:Zw (.node l p r)=Zw l+Zw r+1:=rfl
  have mul:∀ a b:Int,0≤a→0≤b→2 ^ (min (Zg l) (Zg r)).toNat≤(a+1)*(a+1)→2 ^ (min (Zg l) (Zg r)).toNat≤(b+1)*(b+1)→(2:Int) ^ (min (Zg l) (Zg r)+2).toNat≤(a+b+1+1)*(a+b+1+1):=by
   intro a b ha hb h5 h6
   have e:(min (Zg l) (Zg r)+2).toNat=(min (Zg l) (Zg r)).toNat+2:=by omega
   rw [e,Int.pow_add]
   generalize (2:Int) ^ (min (Zg l) (Zg r)).toNat=w at h5 h6 ⊢
   have h7:(2:Int) ^ 2=4:=rfl
   rw [h7]
   have k1:∀ x y:Int,(x+y)*(x+y)=x*x+2*(y*x)+y*y:=fun x y=>by
    rw [Ybn,Int.mul_add,Int.mul_add,Int.mul_comm x y];omega
   rw [show a+b+1+1=(a+1)+(b+1) by omega,k1]
   rcases Int.le_total a b with hab | hab
   ·have:(a+1)*(a+1)≤(b+1)*(a+1):=Int.mul_le_mul_of_nonneg_right ow ow
    omega
   ·have:(b+1)*(b+1)≤(b+1)*(a+1):=Int.mul_le_mul_of_nonneg_left ow ow
    omega
  have pm:∀ x y:Int,0≤x→x≤y→(2:Int) ^ x.toNat≤2 ^ y.toNat:=fun x y hx hxy=>by
   have:=Nat.pow_le_pow_right (n:=2) (by decide) (show x.toNat≤y.toNat by omega)
   exact_mod_cast this
  have h5:=mul (Zw l) (Zw r) sl sr (Ybs (pm _ _ ow ow) il) (Ybs (pm _ _ ow ow) ir)
  rw [e1,e2]
  exact Ybs (pm _ _ ow ow) h5
theorem ZkJ {t:Z5} (h:Bal t) (hs:Zw t≤1000000):Zg t≤40:=by
 apply Classical.byContradiction
 intro hn
 have h1:=ZiI h
 have sn:=ZI t
 have h2:(2:Int) ^ 41≤2 ^ (Zg t).toNat:=by
  have:=Nat.pow_le_pow_right (n:=2) (by decide) (show 41≤(Zg t).toNat by omega)
  exact_mod_cast this
 have h3:(Zw t+1)*(Zw t+1)≤1000001*1000001:=Int.mul_le_mul ow ow ow ow
 have h4:(2:Int) ^ 41=2199023255552:=by decide
 omega
def putT (p:Zz):Z5→Z5
 | .nil=>.node .nil p .nil
 | .node l x r=>if p.key<x.key then ZaX (putT p l) x r else if x.key<p.key then ZaX l x (putT p r) else .node l p r
theorem Zhn (p:Zz):∀ {t:Z5},Bal t→Bal (putT p t)∧Zg t≤Zg (putT p t)∧Zg (putT p t)≤Zg t+1
 | .nil,_=>⟨⟨tv,tv,by show (0:Int)≤0+1;omega,by show (0:Int)≤0+1;omega⟩,by show (0:Int)≤max 0 0+1;omega,by show max (0:Int) 0+1≤0+1;omega⟩
 | .node l x r,h=>by
  obtain ⟨h1,h2,h3,h4⟩:=h
  have il:=Zhn p h1
  have ir:=Zhn p h2
  have e1:Zg (.node l x r)=max (Zg l) (Zg r)+1:=rfl
  unfold putT
  split
  ·have:=Zec x il.1 h2 ow ow
   refine ⟨this.1,?_,by omega⟩
   by_cases e:Zg (putT p l)=Zg l
   ·have:ZaX (putT p l) x r = .node (putT p l) x r:=by unfold ZaX;rw [Yc ow,Yc ow]
    rw [this]
    have:Zg (.node (putT p l) x r)=max (Zg (putT p l)) (Zg r)+1:=rfl
    omega
   ·by_cases e2:Zg r+1<Zg (putT p l)
    ·omega
    ·have:ZaX (putT p l) x r = .node (putT p l) x r:=by unfold ZaX;rw [Yc ow,Yc ow]
     rw [this]
     have:Zg (.node (putT p l) x r)=max (Zg (putT p l)) (Zg r)+1:=rfl
     omega
  ·split
   ·have:=Zec x h1 ir.1 ow ow
    refine ⟨this.1,?_,by omega⟩
    by_cases e2:Zg l+1<Zg (putT p r)
    ·omega
    ·have:ZaX l x (putT p r) = .node l x (putT p r):=by unfold ZaX;rw [Yc ow,Yc ow]
     rw [this]
     have:Zg (.node l x (putT p r))=max (Zg l) (Zg (putT p r))+1:=rfl
     omega
   ·exact ⟨⟨h1,h2,h3,h4⟩,by show _≤max (Zg l) (Zg r)+1;omega,by show max (Zg l) (Zg r)+1≤_;omega⟩
def Inc (l:List Zz):Prop:=l.Pairwise fun a b=>a.key<b.key
theorem ZaZ {k v:Int} : ∀ {l m:List Zz},(∀ p ∈ l,p.key<k)→Zaz k v (l++m) false=l++Zaz k v m false
 | [],m,_=>rfl
 | p :: l,m,h=>by
  have h1:=h p (by simp)
  rw [YO,Zaz,Yc ow,Yc ow,show (false || decide (k≤p.key))=false by simp;omega,ZaZ fun x hx=>h x (by simp [hx])]
  rfl
theorem Zcy {k v:Int} {m:List Zz} (hm:∀ p ∈ m,k<p.key):∀ (l:List Zz) (d:Bool),(∃ p ∈ l,k≤p.key)∨d=true→Zaz k v (l++m) d=Zaz k v l d++m
 | [],d,h=>by
  rcases h with ⟨p,hp,_⟩ | rfl
  ·cases hp
  ·rw [Yaz]
   have:∀ m:List Zz,(∀ p ∈ m,k<p.key)→Zaz k v m true=m:=by
    intro m
    induction m with
    | nil=>intro _;rfl
    | cons p m ih=>
     intro h
     have:=h p (by simp)
     rw [Zaz,Bool.true_or,ih fun x hx=>h x (by simp [hx]),Yc (by simp),Yc ow]
     rfl
   rw [this m hm]
   simp [Zaz]
 | p :: l,d,h=>by
  rw [YO,Zaz,Zaz,Zcy hm l (d || decide (k≤p.key)) (by
   by_cases hp:k≤p.key
   ·exact .inr (by simp [hp])
   ·rcases h with ⟨q,hq,hk⟩ | rfl
    ·rcases Yo.1 hq with rfl | hq
     ·exact absurd hk hp
     ·exact .inl ⟨q,hq,hk⟩
    ·exact .inr rfl)]
  simp [Ym]
theorem ZkN {k v:Int} : ∀ (l:List Zz),(∀ p ∈ l,p.key<k)→Zaz k v l false=l ++ [⟨k,v⟩]:=by
 intro l h
 have:=ZaZ (k:=k) (v:=v) (l:=l) (m:=[]) h
 rw [YD] at this
 rw [this];rfl
theorem Inc.parts {l r:List Zz} {x:Zz} (h:Inc (l++x :: r)):Inc l∧Inc r∧(∀ p ∈ l,p.key<x.key)∧(∀ p ∈ r,x.key<p.key):=by
 unfold Inc at *
 rw [Y1,YI] at h
 exact ⟨h.1,h.2.1.2,fun p hp=>h.2.2 p hp x (by simp),fun p hp=>h.2.1.1 p hp⟩
theorem Zdu (p:Zz):∀ {t:Z5},Inc (tList t)→tList (putT p t)=putP (tList t) p.key p.val
 | .nil,_=>rfl
 | .node l x r,h=>by
  obtain ⟨h1,h2,h3,h4⟩:=Inc.parts h
  have il:=Zdu p h1
  have ir:=Zdu p h2
  unfold putT
  unfold putP at *
  show _=Zaz p.key p.val (tList l++x :: tList r) false
  split
  ·rename_i hk
   rw [Zbe,il]
   by_cases hex:∃ q ∈ tList l,p.key≤q.key
   ·rw [Zcy (fun q hq=>by
     rcases Yo.1 hq with rfl | hq
     ·exact hk
     ·have:=h4 q hq;omega) _ _ (.inl hex)]
   ·have hlt:∀ q ∈ tList l,q.key<p.key:=fun q hq=>by
     apply Classical.byContradiction
     intro hn
     exact hex ⟨q,hq,by omega⟩
    rw [ZaZ hlt,ZkN _ hlt,Zij fun q hq=>by
     rcases Yo.1 hq with rfl | hq
     ·exact hk
     ·have:=h4 q hq;omega]
    simp
  ·split
   ·rename_i hk1 hk
    rw [Zbe,ir,ZaZ fun q hq=>by have:=h3 q hq;omega,Zaz,Yc ow,Yc ow,show (false || decide (p.key≤x.key))=false by simp;omega]
    rfl
   ·rename_i hk1 hk2
    have e:x.key=p.key:=by omega
    rw [ZaZ fun q hq=>by have:=h3 q hq;omega,Zaz,Yd ⟨rfl,by omega⟩,Yd e,show (false || decide (p.key≤x.key))=true by simp;omega]
    have:=Zcy (k:=p.key) (v:=p.val) (m:=tList r) (fun q hq=>by have:=h4 q hq;omega) [] true (.inr rfl)
    rw [Yaz] at this
    rw [this]
    simp [tList,Zaz]
structure Cell where
 left:Int
 right:Int
 key:Int
 val:Int
 size:Int
 high:Int
 deriving DecidableEq,Inhabited
def ZW (c:Cell):List PV:=[.int .i64 c.left,.int .i64 c.right,.int .i64 c.key,.int .i64 c.val,.int .i64 c.size,.int .i64 c.high]
def Zog (c:Cell):List PV:=[.int .u32 c.left,.int .u32 c.right]
def Zp6 (c:Cell):List PV:=[.int .i64 c.key,.int .i64 c.val,.int .i64 c.size,.int .i64 c.high]
def Zbu (n:Int):Int:=if n<0 then 0 else if n > 65536 then 65536 else n
def Zk1 (v wv lv:Value) (room:Int) (q:List Cell):List RS:=
 [.pt (.val v) 170 [.pv (.int .i64 room),.pv (.is wv),.pv (.is lv)],.ob (.val wv) (ZJ 288 2 Zog q),.ob (.val lv) (ZJ 290 4 Zp6 q)]
structure Znn (room:Int) (q:List Cell):Prop where
 lo:0≤room
 hi:room≤65536
 le:(q.length:Int)≤room
 ok:∀ i,i<q.length→0≤(Nn q i).left∧(Nn q i).left≤i∧0≤(Nn q i).right∧(Nn q i).right≤i
def ZaF (v:Value) (room:Int) (q:List Cell):HP:=.ex fun wv=>.ex fun lv=>.and (Znn room q) (.star (Zk1 v wv lv room q))
def Zlh (q:List Cell) (i:Int):Cell×Bool:=if 1≤i∧i≤q.length then (Nn q (i - 1).toNat,true) else (default,false)
def ZqF (q:List Cell) (i:Int):PV:=.tup [.agg (ZW (Zlh q i).1),.bool (Zlh q i).2]
theorem ZjJ {x:Int} (h:0≤x∧x≤65536):IntKind.wrap .u32 x=x:=ZgO ⟨by simp [IntKind.min,IntKind.signed,IntKind.bits];omega,by simp [IntKind.max,IntKind.signed,IntKind.bits];omega⟩
theorem Zhg (b:Nat) (room:Int) (q:List Cell):FnG prog 182 1 [.is (.pointer (some ⟨b,0,none⟩))] [ZaF (.pointer (some ⟨b,0,none⟩)) room q] (.int .i64 q.length) (fun _=>[ZaF (.pointer (some ⟨b,0,none⟩)) room q]):=by
 refine FnG.mk func182 Z ntmps182 Z kr fun B F0 a w F V hG O=>?_
 obtain ⟨wv,O⟩:=O.open_ex 1 rfl
 obtain ⟨lv,O⟩:=O.open_ex 1 rfl
 obtain ⟨hI,O⟩:=O.open_and 1 rfl
 obtain ⟨F,O⟩:=O.peel 1 2 Z rfl
 obtain ⟨F,O⟩:=O.peel 1 3 Z rfl
 obtain ⟨F,O⟩:=O.peel 1 4 Z rfl
 obtain ⟨F,O⟩:=O.norm [(0,_)] [(0,_),(2,_),(3,_),(4,_)] ⟨rfl,tv⟩ ⟨rfl,rfl,rfl,rfl,tv⟩
 refine Ya ?_
 refine Zt O kr
   (cF rfl (ZH (.ci kr) (by rfl)) trivial trivial
   Zh.nil)
   kr (by rw [V];kernel_rfl) ?_
 clear O;intro a w F O
 obtain ⟨F,O⟩:=O.norm [(0,_),(2,_)] [(0,_),(2,_),(3,_),(4,_)] r2 r4
 refine Za (Ya (Ya ?_))
 refine Zt O kr
   (cF rfl (ZF .t (by rfl)) r1 trivial
   (cF rfl (Z3 _ YbI rfl .t) r1 trivial
   Zh.nil))
   kr (by rw [V];kernel_rfl) ?_
 clear O;intro a w F O
 obtain ⟨F,O⟩:=O.norm [(0,_),(2,_),(4,_)] [(0,_),(2,_),(3,_),(4,_)] r3 r4
 refine Za (Zd O Z (fun hc0=>?_) (fun hc0=>?_))
 ·simp at hc0
 refine Yf (Za (Ya ?_))
 refine Zt O kr
   (cF rfl (ZF .t (by rfl)) r1 trivial
   (cF rfl (o_nilCheck 2 .is (by rfl)) r1 r1
   (cF rfl (Zu (off:=1) 2 .adr kr (by rfl)) r1 r1
   (cF rfl (Zaf (ag:=false) (sz:=1) 2 .adr kr kr kr (by rfl)) r1 r1
   (cF rfl (Zae 3 YbJ .is) r1 r1
   (cF rfl (ZH .t (by rfl)) r1 trivial
   Zh.nil))))))
   kr (by rw [V];kernel_rfl) ?_
 clear O;intro a w F O
 obtain ⟨F,O⟩:=O.norm [(2,_)] [(0,_),(2,_),(3,_),(4,_)] r1 r4
 try dsimp only [List.map,List.drop_succ_cons,List.drop_zero,List.drop_nil,List.take_succ_cons,List.take_zero,List.take_nil,ldSF] at O
 refine Za (Yi ?_)
 have O:=O.fresh 1 rfl
 obtain ⟨F,O⟩:=O.push 1 4 Z Z Z kr
 obtain ⟨F,O⟩:=O.push 1 3 Z Z Z kr
 obtain ⟨F,O⟩:=O.push 1 2 Z Z Z kr
 have O:=O.turn 1 Z (r':=RS.hp (ZaF (.pointer (some ⟨b,0,none⟩)) room q)) (fun _ _ _ _ h=>⟨_,_,hI,h⟩)
 refine ZA hG O Z (.tmp Z .nil) (.one .refl) rfl
theorem Zd4  : FnP prog 182 [.is (.pointer none)] (.int .i64 0):=by
 refine FnP.mk func182 Z ntmps182 Z fun B a w F V hfr O=>Ya ?_
 refine Zt O kr
   (cF rfl (ZH (.ci kr) (by rfl)) trivial trivial
   Zh.nil)
   kr (by rw [V];kernel_rfl) ?_
 clear O;intro a w F O
 obtain ⟨F,O⟩:=O.norm [(0,_),(2,_)] [(0,_)] r2 r1
 refine Za (Ya (Ya ?_))
 refine Zt O kr
   (cF rfl (ZF .t (by rfl)) r1 trivial
   (cF rfl (Z3 _ YbI rfl .t) r1 trivial
   Zh.nil))
   kr (by rw [V];kernel_rfl) ?_
 clear O;intro a w F O
 obtain ⟨F,O⟩:=O.norm [(0,_),(2,_),(4,_)] [(0,_)] r3 r1
 refine Za (Zd O Z (fun hc0=>?_) (fun hc0=>?_))
 ·refine Ya ?_
  refine Zt O kr
    (cF rfl (ZH (.ci kr) (by rfl)) trivial trivial
    Zh.nil)
    kr (by rw [V];kernel_rfl) ?_
  clear O;intro a w F O
  obtain ⟨F,O⟩:=O.norm [(0,_),(2,_)] [(0,_)] r2 r1
  refine Za (Yi (Zk (Za4 hfr O Z (.tmp Z .nil) (.one .refl))))
 simp at hc0
theorem Zjs (b:Nat) (room:Int) (q:List Cell):FnG prog 120 1 [.is (.pointer (some ⟨b,0,none⟩))] [ZaF (.pointer (some ⟨b,0,none⟩)) room q] (.int .i64 (room - q.length)) (fun _=>[ZaF (.pointer (some ⟨b,0,none⟩)) room q]):=by
 refine FnG.mk func120 Z ntmps120 Z kr fun B F0 a w F V hG O=>?_
 obtain ⟨wv,O⟩:=O.open_ex 1 rfl
 obtain ⟨lv,O⟩:=O.open_ex 1 rfl
 obtain ⟨hI,O⟩:=O.open_and 1 rfl
 obtain ⟨F,O⟩:=O.peel 1 2 Z rfl
 obtain ⟨F,O⟩:=O.peel 1 3 Z rfl
 obtain ⟨F,O⟩:=O.peel 1 4 Z rfl
 obtain ⟨F,O⟩:=O.norm [(0,_)] [(0,_),(2,_),(3,_),(4,_)] ⟨rfl,tv⟩ ⟨rfl,rfl,rfl,rfl,tv⟩
 refine Ya ?_
 refine Zt O kr
   (cF rfl (ZH (.ci kr) (by rfl)) trivial trivial
   Zh.nil)
   kr (by rw [V];kernel_rfl) ?_
 clear O;intro a w F O
 obtain ⟨F,O⟩:=O.norm [(0,_),(2,_)] [(0,_),(2,_),(3,_),(4,_)] r2 r4
 refine Za (Ya (Ya ?_))
 refine Zt O kr
   (cF rfl (ZF .t (by rfl)) r1 trivial
   (cF rfl (Z3 _ YbI rfl .t) r1 trivial
   Zh.nil))
   kr (by rw [V];kernel_rfl) ?_
 clear O;intro a w F O
 obtain ⟨F,O⟩:=O.norm [(0,_),(2,_),(4,_)] [(0,_),(2,_),(3,_),(4,_)] r3 r4
 refine Za (Zd O Z (fun hc0=>?_) (fun hc0=>?_))
 ·simp at hc0
 refine Yf (Za (Ya ?_))
 refine ZbD kr O kr
   (cF rfl (ZF .t (by rfl)) r1 trivial
   (cF rfl (o_nilCheck 2 .is (by rfl)) r1 r1
   (cF rfl (Zu (off:=0) 2 .adr kr (by rfl)) r1 r1
   (cF rfl (Zaf (ag:=false) (sz:=1) 2 .adr kr kr kr (by rfl)) r1 r1
   (cF rfl (ZF .t (by rfl)) r1 trivial
   (cF rfl (o_nilCheck 2 .is (by rfl)) r1 r1
   (cF rfl (Zu (off:=1) 2 .adr kr (by rfl)) r1 r1
   (cF rfl (Zaf (ag:=false) (sz:=1) 2 .adr kr kr kr (by rfl)) r1 r1
   (cF rfl (Zae 3 YbJ .is) r1 r1
   (cF rfl (o_sub .t .t) r2 trivial
   (cF rfl (ZH .t (by rfl)) r1 trivial
   Zh.nil)))))))))))
   kr (by rw [V];kernel_rfl) ?_
 clear O;intro a w F O
 obtain ⟨F,O⟩:=O.norm [(2,_)] [(0,_),(2,_),(3,_),(4,_)] r1 r4
 try dsimp only [List.map,List.drop_succ_cons,List.drop_zero,List.drop_nil,List.take_succ_cons,List.take_zero,List.take_nil,ldSF] at O
 refine Za (Yi ?_)
 have O:=O.fresh 1 rfl
 obtain ⟨F,O⟩:=O.push 1 4 Z Z Z kr
 obtain ⟨F,O⟩:=O.push 1 3 Z Z Z kr
 obtain ⟨F,O⟩:=O.push 1 2 Z Z Z kr
 have O:=O.turn 1 Z (r':=RS.hp (ZaF (.pointer (some ⟨b,0,none⟩)) room q)) (fun _ _ _ _ h=>⟨_,_,hI,h⟩)
 refine ZA hG O Z (.tmp Z .nil) (.one (.int (Zc (by have:=hI.lo;have:=hI.hi;have:=hI.le;omega)))) rfl
theorem ZkQ  : FnP prog 120 [.is (.pointer none)] (.int .i64 0):=by
 refine FnP.mk func120 Z ntmps120 Z fun B a w F V hfr O=>Ya ?_
 refine Zt O kr
   (cF rfl (ZH (.ci kr) (by rfl)) trivial trivial
   Zh.nil)
   kr (by rw [V];kernel_rfl) ?_
 clear O;intro a w F O
 obtain ⟨F,O⟩:=O.norm [(0,_),(2,_)] [(0,_)] r2 r1
 refine Za (Ya (Ya ?_))
 refine Zt O kr
   (cF rfl (ZF .t (by rfl)) r1 trivial
   (cF rfl (Z3 _ YbI rfl .t) r1 trivial
   Zh.nil))
   kr (by rw [V];kernel_rfl) ?_
 clear O;intro a w F O
 obtain ⟨F,O⟩:=O.norm [(0,_),(2,_),(4,_)] [(0,_)] r3 r1
 refine Za (Zd O Z (fun hc0=>?_) (fun hc0=>?_))
 ·refine Ya ?_
  refine Zt O kr
    (cF rfl (ZH (.ci kr) (by rfl)) trivial trivial
    Zh.nil)
    kr (by rw [V];kernel_rfl) ?_
  clear O;intro a w F O
  obtain ⟨F,O⟩:=O.norm [(0,_),(2,_)] [(0,_)] r2 r1
  refine Za (Yi (Zk (Za4 hfr O Z (.tmp Z .nil) (.one .refl))))
 simp at hc0
theorem Zpi (b:Nat) (room:Int) (q:List Cell) (i:Int):FnG prog 174 1 [.is (.pointer (some ⟨b,0,none⟩)),.int .i64 i] [ZaF (.pointer (some ⟨b,0,none⟩)) room q] (ZqF q i) (fun _=>[ZaF (.pointer (some ⟨b,0,none⟩)) room q]):=by
 refine FnG.mk func174 Z ntmps174 Z kr fun B F0 a w F V hG O=>Ya ?_
 refine Zt O kr
   (cF rfl (ZfY (zs:=[.int .i64 0,.int .i64 0,.int .i64 0,.int .i64 0,.int .i64 0,.int .i64 0]) 101 kr) trivial trivial
   (cF rfl (ZH .cb (by rfl)) trivial trivial
   Zh.nil))
   kr (by rw [V];kernel_rfl) ?_
 clear O;intro a w F O
 replace O:=O.sub
 obtain ⟨F,O⟩:=O.norm [(0,_),(1,_),(4,_),(5,_)] [(0,_),(1,_),(101,_)] r4 r3
 try dsimp only [RS.sub,SF.sub,CF.sub,csub,Anc.sub,List.map,zCF] at O
 generalize Act.tau a 4=v4 at O
 refine Za (Ya (Ya ?_))
 refine Zt O kr
   (cF rfl (ZF .t (by rfl)) r1 trivial
   (cF rfl (ZaG .t (.ci kr)) r1 trivial
   (cF rfl (ZF .t (by rfl)) r1 trivial
   (Zh.cons (Z2.cond rfl rfl (fun h=>ZF .t (by rfl))) r2 trivial
   (Zh.cons (Z2.cond rfl rfl (fun h=>ZF .t (by rfl))) r2 trivial
   (Zh.cons (Z2.condR rfl rfl (by rfl) (fun h=>o_callG1 1 (Zhg b room q) func182 rfl kr (Args.one (.w h)))) r2 r1
   (Zh.cons (Z2.cond rfl rfl (fun h=>Zas (.w h) (.w h))) r3 trivial
   (cF rfl (ZaQ .t .t) r2 trivial
   Zh.nil))))))))
   kr (by rw [V];kernel_rfl) ?_
 clear O;intro a w F O
 obtain ⟨F,O⟩:=O.norm [(0,_),(1,_),(4,_),(5,_),(15,_)] [(0,_),(1,_),(101,_)] r5 r3
 refine Za (Zd O Z (fun hc0=>?_) (fun hc0=>?_))
 ·have hg:Zlh q i=(default,false):=by unfold Zlh;rw [Yc];simp at hc0;omega
  refine Ya ?_
  refine Zt O kr
    (cF rfl (ZcF (r:=[]) (zs:=[.int .i64 0,.int .i64 0,.int .i64 0,.int .i64 0,.int .i64 0,.int .i64 0]) (pl:=[(0,1),(1,1),(2,1),(3,1),(4,1),(5,1)]) kr kr .nil (by rfl)) trivial trivial
    (cF rfl (ZbT (sz:=6) 101 .is .t kr kr kr) r2 r1
    (cF rfl (ZH .cb (by rfl)) trivial trivial
    Zh.nil)))
    kr (by rw [V];kernel_rfl) ?_
  clear O;intro a w F O
  obtain ⟨F,O⟩:=O.norm [(0,_),(1,_),(4,_),(5,_)] [(0,_),(1,_),(101,_)] r4 r3
  try dsimp only [List.map,Ze,List.length_cons,List.length_nil,Nat.reduceAdd,List.drop_succ_cons,List.drop_zero,List.drop_nil,List.take_succ_cons,List.take_zero,List.take_nil,List.cons_append,List.nil_append,zCF] at O
  refine Za (Yi (Zk (ZA hG O Z (.cell (n:=101) (ag:=true) (sz:=6) Z .is Z kr kr kr (.tmp Z .nil)) (.two (.aggU Z (by rw [hg];rfl)) (.bool (by rw [hg]))) Z)))
 obtain ⟨wv,O⟩:=O.open_ex 1 rfl
 obtain ⟨lv,O⟩:=O.open_ex 1 rfl
 obtain ⟨hI,O⟩:=O.open_and 1 rfl
 obtain ⟨F,O⟩:=O.peel 1 2 Z rfl
 obtain ⟨F,O⟩:=O.peel 1 3 Z rfl
 obtain ⟨F,O⟩:=O.peel 1 4 Z rfl
 have hb:1≤i∧i≤q.length:=by simp at hc0;omega
 have hg:Zlh q i=(Nn q (i - 1).toNat,true):=by unfold Zlh;rw [Yd hb]
 have hl:=hI.hi
 have hm:=hI.le
 have he:IntKind.wrap .i64 (i - 1)=i - 1:=Zc ow
 have h0:0≤IntKind.wrap .i64 (i - 1):=by omega
 have h1:IntKind.wrap .i64 (i - 1)<q.length:=by omega
 have h2:(IntKind.wrap .i64 (i - 1)).toNat<q.length:=by omega
 have ho:=hI.ok _ (show (i - 1).toNat<q.length by omega)
 have hw1:IntKind.wrap .i64 (Nn q (IntKind.wrap .i64 (i - 1)).toNat).left=(Nn q (i - 1).toNat).left:=by rw [he];exact Zc ow
 have hw2:IntKind.wrap .i64 (Nn q (IntKind.wrap .i64 (i - 1)).toNat).right=(Nn q (i - 1).toNat).right:=by rw [he];exact Zc ow
 have hcell:ZW ⟨IntKind.wrap .i64 (Nn q (IntKind.wrap .i64 (i - 1)).toNat).left,IntKind.wrap .i64 (Nn q (IntKind.wrap .i64 (i - 1)).toNat).right,(Nn q (IntKind.wrap .i64 (i - 1)).toNat).key,(Nn q (IntKind.wrap .i64 (i - 1)).toNat).val,(Nn q (IntKind.wrap .i64 (i - 1)).toNat).size,(Nn q (IntKind.wrap .i64 (i - 1)).toNat).high⟩ = ZW (Nn q (i - 1).toNat):=by rw [hw1,hw2,he]
 obtain ⟨F,O⟩:=O.norm [(0,_),(1,_),(4,_),(5,_),(15,_)] [(0,_),(2,_),(3,_),(4,_),(101,_)] r5 r5
 refine Yf (Za (Ya ?_))
 refine ZbD kr O kr
   (cF rfl (ZF .t (by rfl)) r1 trivial
   (cF rfl (o_nilCheck 2 .is (by rfl)) r1 r1
   (cF rfl (Zu (off:=1) 2 .adr kr (by rfl)) r1 r1
   (cF rfl (Zaf (ag:=false) (sz:=1) 2 .adr kr kr kr (by rfl)) r1 r1
   (cF rfl (ZF .t (by rfl)) r1 trivial
   (cF rfl (o_sub .t (.ci kr)) r1 trivial
   (cF rfl (o_indexAddr_row (sz:=2) 3 (.mk YbJ kr) .is .t (by first | assumption | omega) (by first | assumption | omega) (by rfl)) r2 r1
   (cF rfl (Zn (ag:=true) (sz':=2) (sz:=2) 3 .t (by intro x;rfl) (by assumption) kr kr kr) r1 r1
   (cF rfl (ZF .t (by rfl)) r1 trivial
   (cF rfl (o_nilCheck 2 .is (by rfl)) r1 r1
   (cF rfl (Zu (off:=2) 2 .adr kr (by rfl)) r1 r1
   (cF rfl (Zaf (ag:=false) (sz:=1) 2 .adr kr kr kr (by rfl)) r1 r1
   (cF rfl (ZF .t (by rfl)) r1 trivial
   (cF rfl (o_sub .t (.ci kr)) r1 trivial
   (cF rfl (o_indexAddr_row (sz:=4) 4 (.mk underlying168 kr) .is .t (by first | assumption | omega) (by first | assumption | omega) (by rfl)) r2 r1
   (cF rfl (Zn (ag:=true) (sz':=4) (sz:=4) 4 .t (by intro x;rfl) (by assumption) kr kr kr) r1 r1
   (cF rfl (ZfY (zs:=[.int .u32 0,.int .u32 0]) 102 kr) trivial trivial
   (cF rfl (ZfY (zs:=[.int .i64 0,.int .i64 0,.int .i64 0,.int .i64 0]) 103 kr) trivial trivial
   (cF rfl (ZbT (sz:=2) 102 .same .t kr kr kr) r2 r1
   (cF rfl (ZbT (sz:=4) 103 .same .t kr kr kr) r2 r1
   Zh.nil))))))))))))))))))))
   kr (by rw [V];kernel_rfl) ?_
 clear O;intro a w F O
 replace O:=O.sub
 obtain ⟨F,O⟩:=O.norm [(4,_),(5,_),(6,_),(7,_)] [(0,_),(2,_),(3,_),(4,_),(101,_),(102,_),(103,_)] r4 r7
 try dsimp only [RS.sub,SF.sub,CF.sub,csub,Anc.sub,List.map,Ze,List.length_cons,List.length_nil,Nat.reduceAdd,List.drop_succ_cons,List.drop_zero,List.drop_nil,List.take_succ_cons,List.take_zero,List.take_nil,List.cons_append,List.nil_append,zCF,ldSF] at O
 generalize Act.tau a 6=v6,Act.tau a 7=v7 at O
 refine Za (Ya ?_)
 refine Zt O kr
   (cF rfl (Zu (off:=0) 102 .is kr (by rfl)) r1 r1
   (cF rfl (Zaf (ag:=false) (sz:=1) 102 .adr kr kr kr (by rfl)) r1 r1
   (cF rfl (ZaK YbA kr .t) r1 trivial
   (cF rfl (Zu (off:=1) 102 .is kr (by rfl)) r1 r1
   (cF rfl (Zaf (ag:=false) (sz:=1) 102 .adr kr kr kr (by rfl)) r1 r1
   (cF rfl (ZaK YbA kr .t) r1 trivial
   (cF rfl (Zu (off:=0) 103 .is kr (by rfl)) r1 r1
   (cF rfl (Zaf (ag:=false) (sz:=1) 103 .adr kr kr kr (by rfl)) r1 r1
   (cF rfl (Zu (off:=1) 103 .is kr (by rfl)) r1 r1
   (cF rfl (Zaf (ag:=false) (sz:=1) 103 .adr kr kr kr (by rfl)) r1 r1
   (cF rfl (Zu (off:=2) 103 .is kr (by rfl)) r1 r1
   (cF rfl (Zaf (ag:=false) (sz:=1) 103 .adr kr kr kr (by rfl)) r1 r1
   (cF rfl (Zu (off:=3) 103 .is kr (by rfl)) r1 r1
   (cF rfl (Zaf (ag:=false) (sz:=1) 103 .adr kr kr kr (by rfl)) r1 r1
   (cF rfl (ZcF (r:=[(0,.tmp 35),(1,.tmp 38),(2,.tmp 40),(3,.tmp 42),(4,.tmp 44),(5,.tmp 46)]) (zs:=[.int .i64 0,.int .i64 0,.int .i64 0,.int .i64 0,.int .i64 0,.int .i64 0]) (pl:=[(0,1),(1,1),(2,1),(3,1),(4,1),(5,1)]) kr kr (.one rfl .t one_int kr (.one rfl .t one_int kr (.one rfl .t one_int kr (.one rfl .t one_int kr (.one rfl .t one_int kr (.one rfl .t one_int kr .nil)))))) (by rfl)) r6 trivial
   (cF rfl (ZbT (sz:=6) 101 .is .t kr kr kr) r2 r1
   (cF rfl (ZH .cb (by rfl)) trivial trivial
   Zh.nil)))))))))))))))))
   kr (by rw [V];kernel_rfl) ?_
 clear O;intro a w F O
 obtain ⟨F,O⟩:=O.norm [(4,_),(5,_)] [(0,_),(2,_),(3,_),(4,_),(101,_)] r2 r5
 try dsimp only [List.map,Ze,List.length_cons,List.length_nil,Nat.reduceAdd,List.drop_succ_cons,List.drop_zero,List.drop_nil,List.take_succ_cons,List.take_zero,List.take_nil,List.cons_append,List.nil_append,zCF,ldSF] at O
 refine Za (Yi ?_)
 have O:=O.fresh 1 rfl
 obtain ⟨F,O⟩:=O.push 1 4 Z Z Z kr
 obtain ⟨F,O⟩:=O.push 1 3 Z Z Z kr
 obtain ⟨F,O⟩:=O.push 1 2 Z Z Z kr
 have O:=O.turn 1 Z (r':=RS.hp (ZaF (.pointer (some ⟨b,0,none⟩)) room q)) (fun _ _ _ _ h=>⟨_,_,hI,h⟩)
 refine ZA hG O Z (.cell (n:=101) (ag:=true) (sz:=6) Z .is Z kr kr kr (.tmp Z .nil)) (.two (.aggU Z (by rw [hg];exact hcell)) (.bool (by rw [hg]))) rfl
def Zji (q:List Cell) (n:Int):Bool:=decide (0≤n∧n≤q.length)
def Zb5 (q:List Cell) (n:Int):List Cell:=if 0≤n∧n≤q.length then q.take n.toNat else q
theorem Zky {q:List Cell} {k i:Nat} (h:i<(q.take k).length):Nn (q.take k) i=Nn q i:=by
 have h1:i<q.length:=by have:=List.length_take_le' k q;omega
 rw [ZE h,ZE h1,Ya2]
theorem Znn.cut {room:Int} {q:List Cell} (h:Znn room q) (n:Int):Znn room (Zb5 q n):=by
 unfold Zb5
 split
 ·refine ⟨h.lo,h.hi,?_,fun i hi=>?_⟩
  ·have:=h.le;have:=List.length_take_le' n.toNat q;omega
  ·rw [Zky hi];exact h.ok i (by have:=List.length_take_le' n.toNat q;omega)
 ·exact h
theorem ZoT (b:Nat) (room:Int) (q:List Cell) (n:Int):FnG prog 189 1 [.is (.pointer (some ⟨b,0,none⟩)),.int .i64 n] [ZaF (.pointer (some ⟨b,0,none⟩)) room q] (.bool (Zji q n)) (fun _=>[ZaF (.pointer (some ⟨b,0,none⟩)) room (Zb5 q n)]):=by
 refine FnG.mk func189 Z ntmps189 Z kr fun B F0 a w F V hG O=>Ya ?_
 refine Zt O kr
   (cF rfl (ZH .cb (by rfl)) trivial trivial
   Zh.nil)
   kr (by rw [V];kernel_rfl) ?_
 clear O;intro a w F O
 obtain ⟨F,O⟩:=O.norm [(0,_),(1,_),(4,_)] [(0,_),(1,_)] r3 r2
 refine Za (Ya (Ya ?_))
 refine Zt O kr
   (cF rfl (ZF .t (by rfl)) r1 trivial
   (cF rfl (ZaG .t (.ci kr)) r1 trivial
   (cF rfl (ZF .t (by rfl)) r1 trivial
   (Zh.cons (Z2.cond rfl rfl (fun h=>ZF .t (by rfl))) r2 trivial
   (Zh.cons (Z2.cond rfl rfl (fun h=>ZF .t (by rfl))) r2 trivial
   (Zh.cons (Z2.condR rfl rfl (by rfl) (fun h=>o_callG1 1 (Zhg b room q) func182 rfl kr (Args.one (.w h)))) r2 r1
   (Zh.cons (Z2.cond rfl rfl (fun h=>Zas (.w h) (.w h))) r3 trivial
   (cF rfl (ZaQ .t .t) r2 trivial
   Zh.nil))))))))
   kr (by rw [V];kernel_rfl) ?_
 clear O;intro a w F O
 obtain ⟨F,O⟩:=O.norm [(0,_),(1,_),(4,_),(12,_)] [(0,_),(1,_)] r4 r2
 refine Za (Zd O Z (fun hc0=>?_) (fun hc0=>?_))
 ·have hb:¬ (0≤n∧n≤q.length):=by simp at hc0;omega
  have hg:Zb5 q n=q:=Yc hb
  have hg':Zji q n=false:=YK hb
  refine Ya ?_
  refine Zt O kr
    (cF rfl (ZH .cb (by rfl)) trivial trivial
    Zh.nil)
    kr (by rw [V];kernel_rfl) ?_
  clear O;intro a w F O
  obtain ⟨F,O⟩:=O.norm [(0,_),(1,_),(4,_)] [(0,_),(1,_)] r3 r2
  refine Za (Yi (Zk ?_))
  have O:=O.turn 1 Z (r':=RS.hp (ZaF (.pointer (some ⟨b,0,none⟩)) room (Zb5 q n))) (fun _ _ _ _ h=>by rw [hg];exact h)
  refine ZA hG O Z (.tmp Z .nil) (.one (.bool (by rw [hg']))) rfl
 have hb:(0≤n∧n≤q.length):=by simp at hc0;omega
 have hg:Zb5 q n=q.take n.toNat:=Yd hb
 have hg':Zji q n=true:=YX hb
 refine Yf (Za (Ya (Ya ?_)))
 refine Zt O kr
   (cF rfl (ZF .t (by rfl)) r1 trivial
   (cF rfl (Zfm _ YbI rfl .t) r1 trivial
   Zh.nil))
   kr (by rw [V];kernel_rfl) ?_
 clear O;intro a w F O
 obtain ⟨F,O⟩:=O.norm [(0,_),(1,_),(4,_),(14,_)] [(0,_),(1,_)] r4 r2
 refine Za (Zd O Z (fun hc1=>?_) (fun hc1=>?_))
 ·obtain ⟨wv,O⟩:=O.open_ex 1 rfl
  obtain ⟨lv,O⟩:=O.open_ex 1 rfl
  obtain ⟨hI,O⟩:=O.open_and 1 rfl
  obtain ⟨F,O⟩:=O.peel 1 2 Z rfl
  obtain ⟨F,O⟩:=O.peel 1 3 Z rfl
  obtain ⟨F,O⟩:=O.peel 1 4 Z rfl
  have h0:=hb.1
  have h1:=hb.2
  obtain ⟨F,O⟩:=O.norm [(0,_),(1,_),(4,_),(14,_)] [(0,_),(2,_),(3,_),(4,_)] r4 r4
  refine ZbD kr O kr
    (cF rfl (ZF .t (by rfl)) r1 trivial
    (cF rfl (ZF .t (by rfl)) r1 trivial
    (cF rfl (ZF .t (by rfl)) r1 trivial
    (cF rfl (o_nilCheck 2 .is (by rfl)) r1 r1
    (cF rfl (Zu (off:=1) 2 .adr kr (by rfl)) r1 r1
    (cF rfl (Zaf (ag:=false) (sz:=1) 2 .adr kr kr kr (by rfl)) r1 r1
    (cF rfl (ZF .t (by rfl)) r1 trivial
    (cF rfl (ZcP (sz:=2) 3 (.mk YbJ kr) (by intro x;rfl) .is .t (by assumption) (by assumption)) r2 r1
    (cF rfl (ZF .t (by rfl)) r1 trivial
    (cF rfl (o_nilCheck 2 .is (by rfl)) r1 r1
    (cF rfl (Zu (off:=2) 2 .adr kr (by rfl)) r1 r1
    (cF rfl (Zaf (ag:=false) (sz:=1) 2 .adr kr kr kr (by rfl)) r1 r1
    (cF rfl (ZF .t (by rfl)) r1 trivial
    (cF rfl (ZcP (sz:=4) 4 (.mk underlying168 kr) (by intro x;rfl) .is .t (by assumption) (by assumption)) r2 r1
    (cF rfl (o_nilCheck 2 .is (by rfl)) r1 r1
    (cF rfl (Zu (off:=1) 2 .adr kr (by rfl)) r1 r1
    (cF rfl (ZaU 2 .adr kr kr) r2 r1
    (cF rfl (o_nilCheck 2 .is (by rfl)) r1 r1
    (cF rfl (Zu (off:=2) 2 .adr kr (by rfl)) r1 r1
    (cF rfl (ZaU 2 .adr kr kr) r2 r1
    Zh.nil))))))))))))))))))))
    kr (by rw [V];kernel_rfl) ?_
  clear O;intro a w F O
  replace O:=O.sub
  obtain ⟨F,O⟩:=O.norm [(4,_)] [(0,_),(2,_),(3,_),(4,_)] r1 r4
  try dsimp only [RS.sub,SF.sub,CF.sub,csub,Anc.sub,List.map,Ze,List.length_cons,List.length_nil,Nat.reduceAdd,List.drop_succ_cons,List.drop_zero,List.drop_nil,List.take_succ_cons,List.take_zero,List.take_nil,List.cons_append,List.nil_append,zCF,ldSF] at O
  generalize Act.tau a 22=v22,Act.tau a 28=v28 at O
  refine Za (Ya ?_)
  refine Zt O kr
    (cF rfl (ZH .cb (by rfl)) trivial trivial
    Zh.nil)
    kr (by rw [V];kernel_rfl) ?_
  clear O;intro a w F O
  obtain ⟨F,O⟩:=O.norm [(4,_)] [(0,_),(2,_),(3,_),(4,_)] r1 r4
  refine Za (Yi ?_)
  have O:=O.fresh 1 rfl
  obtain ⟨F,O⟩:=O.push 1 4 Z Z Z kr
  obtain ⟨F,O⟩:=O.push 1 3 Z Z Z kr
  obtain ⟨F,O⟩:=O.push 1 2 Z Z Z kr
  have O:=O.turn 1 Z (r':=RS.hp (ZaF (.pointer (some ⟨b,0,none⟩)) room (Zb5 q n))) (fun _ _ _ _ h=>⟨_,_,hI.cut n,by rw [hg];exact h⟩)
  refine ZA hG O Z (.tmp Z .nil) (.one (.bool (by rw [hg']))) rfl
 simp at hc1
theorem Zes (n:Int):0≤Zbu n∧Zbu n≤65536:=by unfold Zbu;split; (· omega);split <;> omega
theorem Znu (n:Int):Znn (Zbu n) []:=⟨(Zes n).1,(Zes n).2,(Zes n).1,fun i hi=>absurd hi (YR i)⟩
theorem Zlb (n:Int):(if 65536<(if n<0 then 0 else n) then 65536 else if n<0 then 0 else n)=Zbu n:=by unfold Zbu;split <;> split <;> (try split) <;> omega
theorem Zlw (n:Int):FnG prog 45 1 [.int .i64 n] [.star []] (PV.ptr) (fun v=>[ZaF v (Zbu n) []]):=by
 refine FnG.mk func45 Z ntmps45 Z kr fun B F0 a w F V hG O=>?_
 have hr:=Zlb n
 refine Ya ?_
 refine Zt O kr
  (cF rfl (ZH (.c rfl) (by rfl)) trivial trivial
  Zh.nil)
  kr (by rw [V];kernel_rfl) ?_
 clear O;intro a w F O
 obtain ⟨F,O⟩:=O.norm [(0,_),(2,_)] [(0,_),(1,_)] r2 r2
 refine Za (Ya ?_)
 refine Zt O kr
  (cF rfl (ZF .t (by rfl)) r1 trivial
  (cF rfl (Zo3 .t (.ci kr)) r1 trivial
  (cF rfl (Zqh .t (.ci kr)) r1 trivial
  (cF rfl (ZcF (r:=[(0,.tmp 5)]) (zs:=[.int .i64 0,.slice none 0 0,.slice none 0 0]) (pl:=[(0,1),(1,1),(2,1)]) kr kr (.one rfl .t one_int kr .nil) (by rfl)) r1 trivial
  (cF rfl (Zif 101 .t kr) r1 trivial
  (cF rfl (ZH .t (by rfl)) r1 trivial
  Zh.nil))))))
  kr (by rw [V];kernel_rfl) ?_
 clear O;intro a w F O
 replace O:=O.sub
 obtain ⟨F,O⟩:=O.norm [(2,_)] [(0,_),(1,_),(101,_)] r1 r3
 try dsimp only [RS.sub,SF.sub,CF.sub,csub,Anc.sub,List.map,Ze,List.length_cons,List.length_nil,Nat.reduceAdd,List.drop_succ_cons,List.drop_zero,List.drop_nil,List.take_succ_cons,List.take_zero,List.take_nil,List.cons_append,List.nil_append,zCF] at O
 generalize Act.tau a 7=v7 at O
 refine Za (Yi ?_)
 obtain ⟨b,rfl⟩:=O.shape 101 rfl
 have O:=O.fresh 3 rfl
 have O:=O.turn 3 Z (ZaI (T:=288) (sz:=2) (R:=Zog))
 have O:=O.fresh 4 rfl
 have O:=O.turn 4 Z (ZaI (T:=290) (sz:=4) (R:=Zp6))
 obtain ⟨F,O⟩:=O.push 1 4 Z Z Z kr
 obtain ⟨F,O⟩:=O.push 1 3 Z Z Z kr
 obtain ⟨F,O⟩:=O.push 1 101 Z Z Z kr
 have O:=O.turn 1 Z (r':=RS.hp (ZaF (.pointer (some ⟨b,0,none⟩)) (Zbu n) [])) (fun _ _ _ _ h=>⟨_,_,Znu n,by rw [← hr];exact h⟩)
 refine Zdd (h':=fun v=>ZaF v (Zbu n) []) hG O Z (.tmp Z .nil) (.one .ptr) rfl
def Zdi (q:List Cell) (c:Cell):Prop:=c.left<0∨(q.length:Int)<c.left∨c.right<0∨(q.length:Int)<c.right
instance (q:List Cell) (c:Cell):Decidable (Zdi q c):=by unfold Zdi;exact inferInstance
def ZaW (room:Int) (q:List Cell) (c:Cell):List Cell×Int×Int:=if Zdi q c then (q,0,1) else if room≤q.length then (q,0,2) else (q ++ [c],(q.length:Int)+1,0)
theorem Zmh {q:List Cell} {c:Cell} {i:Nat} (h:i<q.length):Nn (q ++ [c]) i=Nn q i:=by
 rw [ZE h,ZE (by simp;omega),List.getElem_append_left h]
theorem ZhO {q:List Cell} {c:Cell} : Nn (q ++ [c]) q.length=c:=by rw [ZE (by simp)];simp
theorem Znn.put {room:Int} {q:List Cell} {c:Cell} (h:Znn room q) (h1:¬ Zdi q c) (h2:¬ room≤q.length):Znn room (q ++ [c]):=by
 unfold Zdi at h1
 refine ⟨h.lo,h.hi,by simp;omega,fun i hi=>?_⟩
 by_cases e:i<q.length
 ·rw [Zmh e];exact h.ok i e
 ·have:i=q.length:=by simp at hi;omega
  subst this
  rw [ZhO];omega
theorem ZoD (b:Nat) (room:Int) (q:List Cell) (c:Cell):FnG prog 251 1 [.is (.pointer (some ⟨b,0,none⟩)),.agg (ZW c)] [ZaF (.pointer (some ⟨b,0,none⟩)) room q] (.tup [.int .i64 (ZaW room q c).2.1,.int .i64 (ZaW room q c).2.2]) (fun _=>[ZaF (.pointer (some ⟨b,0,none⟩)) room (ZaW room q c).1]):=by
 refine FnG.mk func251 Z ntmps251 Z kr fun B F0 a w F V hG O=>Ya ?_
 refine Zt O kr
   (cF rfl (Zif 101 (.conv .t .agg) kr) r1 trivial
   (cF rfl (ZH (.ci kr) (by rfl)) trivial trivial
   (cF rfl (ZH (.ci kr) (by rfl)) trivial trivial
   Zh.nil)))
   kr (by rw [V];kernel_rfl) ?_
 clear O;intro a w F O
 replace O:=O.sub
 obtain ⟨F,O⟩:=O.norm [(0,_),(3,_),(4,_),(5,_)] [(0,_),(1,_),(101,_)] r4 r3
 try dsimp only [RS.sub,SF.sub,CF.sub,csub,Anc.sub,List.map,zCF] at O
 generalize Act.tau a 3=v3 at O
 refine Za (Ya ?_)
 refine Zt O kr
   (cF rfl (ZF .t (by rfl)) r1 trivial
   (cF rfl (o_callG1 1 (Zhg b room q) func182 rfl kr (Args.one .t)) r1 r1
   (cF rfl (ZH .t (by rfl)) r1 trivial
   Zh.nil)))
   kr (by rw [V];kernel_rfl) ?_
 clear O;intro a w F O
 obtain ⟨F,O⟩:=O.norm [(0,_),(3,_),(4,_),(5,_),(6,_)] [(0,_),(1,_),(101,_)] r5 r3
 refine Za (Ya (Ye (Ya ?_)))
 refine Zt O kr
   (cF rfl (Zu (off:=0) 101 .is kr (by rfl)) r1 r1
   (cF rfl (Zaf (ag:=false) (sz:=1) 101 .adr kr kr kr (by rfl)) r1 r1
   (cF rfl (ZaG .t (.ci kr)) r1 trivial
   (cF rfl (ZF .t (by rfl)) r1 trivial
   (Zh.cons (Z2.cond rfl rfl (fun h=>Zu (off:=0) 101 .is kr (by rfl))) r2 r1
   (Zh.cons (Z2.cond rfl rfl (fun h=>Zaf (ag:=false) (sz:=1) 101 (.w h .adr) kr kr kr (by rfl))) r2 r1
   (Zh.cons (Z2.cond rfl rfl (fun h=>ZF .t (by rfl))) r2 trivial
   (Zh.cons (Z2.cond rfl rfl (fun h=>Zas (.w h) (.w h))) r3 trivial
   (cF rfl (ZaQ .t .t) r2 trivial
   (cF rfl (ZF .t (by rfl)) r1 trivial
   (Zh.cons (Z2.cond rfl rfl (fun h=>Zu (off:=1) 101 .is kr (by rfl))) r2 r1
   (Zh.cons (Z2.cond rfl rfl (fun h=>Zaf (ag:=false) (sz:=1) 101 (.w h .adr) kr kr kr (by rfl))) r2 r1
   (Zh.cons (Z2.cond rfl rfl (fun h=>ZaG (.w h) (.ci kr))) r2 trivial
   (cF rfl (ZaQ .t .t) r2 trivial
   (cF rfl (ZF .t (by rfl)) r1 trivial
   (Zh.cons (Z2.cond rfl rfl (fun h=>Zu (off:=1) 101 .is kr (by rfl))) r2 r1
   (Zh.cons (Z2.cond rfl rfl (fun h=>Zaf (ag:=false) (sz:=1) 101 (.w h .adr) kr kr kr (by rfl))) r2 r1
   (Zh.cons (Z2.cond rfl rfl (fun h=>ZF .t (by rfl))) r2 trivial
   (Zh.cons (Z2.cond rfl rfl (fun h=>Zas (.w h) (.w h))) r3 trivial
   (cF rfl (ZaQ .t .t) r2 trivial
   (cF rfl (ZH .t (by rfl)) r1 trivial
   Zh.nil)))))))))))))))))))))
   kr (by rw [V];kernel_rfl) ?_
 clear O;intro a w F O
 obtain ⟨F,O⟩:=O.norm [(0,_),(3,_),(4,_),(5,_),(6,_),(9,_)] [(0,_),(1,_),(101,_)] r6 r3
 try dsimp only [List.map,List.drop_succ_cons,List.drop_zero,List.drop_nil,List.take_succ_cons,List.take_zero,List.take_nil,ldSF] at O
 refine Za (Zd O Z (fun hc0=>?_) (fun hc0=>?_))
 ·have hb:Zdi q c:=by unfold Zdi;simp only [Yal,YaY,Yj,Yh] at hc0;omega
  have hg:ZaW room q c=(q,0,1):=Yd hb
  refine Ya ?_
  refine Zt O kr
    (cF rfl (ZH (.ci kr) (by rfl)) trivial trivial
    (cF rfl (ZH (.ci kr) (by rfl)) trivial trivial
    Zh.nil))
    kr (by rw [V];kernel_rfl) ?_
  clear O;intro a w F O
  obtain ⟨F,O⟩:=O.norm [(0,_),(3,_),(4,_),(5,_),(6,_)] [(0,_),(1,_),(101,_)] r5 r3
  refine Za (Yi (ZC (Zk ?_)))
  have O:=O.turn 1 Z (r':=RS.hp (ZaF (.pointer (some ⟨b,0,none⟩)) room (ZaW room q c).1)) (fun _ _ _ _ h=>by rw [hg];exact h)
  refine ZA hG O Z (.tmp Z (.tmp Z .nil)) (.two (.int (by rw [hg])) (.int (by rw [hg]))) rfl
 have hb:¬ Zdi q c:=by unfold Zdi;simp only [Yal,YaY,Yj,Yh] at hc0;omega
 have hI:Znn room q:=by obtain ⟨_,O⟩:=O.open_ex 1 rfl;obtain ⟨_,O⟩:=O.open_ex 1 rfl;exact (O.open_and 1 rfl).1
 have hm:=hI.le
 refine Ya ?_
 refine Zt O kr
   (cF rfl (ZF .t (by rfl)) r1 trivial
   (cF rfl (o_callG1 1 (Zjs b room q) func120 rfl kr (Args.one .t)) r1 r1
   (cF rfl (o_eql .t (.ci kr)) r1 trivial
   (cF rfl (ZH .t (by rfl)) r1 trivial
   Zh.nil))))
   kr (by rw [V];kernel_rfl) ?_
 clear O;intro a w F O
 obtain ⟨F,O⟩:=O.norm [(0,_),(3,_),(4,_),(5,_),(6,_),(30,_)] [(0,_),(1,_),(101,_)] r6 r3
 refine Za (Zd O Z (fun hc1=>?_) (fun hc1=>?_))
 ·have hb2:room≤q.length:=by simp only [Yj] at hc1;omega
  have hg:ZaW room q c=(q,0,2):=by unfold ZaW;rw [Yc hb,Yd hb2]
  refine Ya ?_
  refine Zt O kr
    (cF rfl (ZH (.ci kr) (by rfl)) trivial trivial
    (cF rfl (ZH (.ci kr) (by rfl)) trivial trivial
    Zh.nil))
    kr (by rw [V];kernel_rfl) ?_
  clear O;intro a w F O
  obtain ⟨F,O⟩:=O.norm [(0,_),(3,_),(4,_),(5,_),(6,_)] [(0,_),(1,_),(101,_)] r5 r3
  refine Za (Yi (ZC (Zk ?_)))
  have O:=O.turn 1 Z (r':=RS.hp (ZaF (.pointer (some ⟨b,0,none⟩)) room (ZaW room q c).1)) (fun _ _ _ _ h=>by rw [hg];exact h)
  refine ZA hG O Z (.tmp Z (.tmp Z .nil)) (.two (.int (by rw [hg])) (.int (by rw [hg]))) rfl
 obtain ⟨wv,O⟩:=O.open_ex 1 rfl
 obtain ⟨lv,O⟩:=O.open_ex 1 rfl
 obtain ⟨hI,O⟩:=O.open_and 1 rfl
 obtain ⟨F,O⟩:=O.peel 1 2 Z rfl
 obtain ⟨F,O⟩:=O.peel 1 3 Z rfl
 obtain ⟨F,O⟩:=O.peel 1 4 Z rfl
 have hb2:¬ room≤q.length:=by simp only [Yh] at hc1;omega
 have hg:ZaW room q c=(q ++ [c],(q.length:Int)+1,0):=by unfold ZaW;rw [Yc hb,Yc hb2]
 have hl:=hI.hi
 have hm:=hI.le
 have hb':=hb
 unfold Zdi at hb'
 have hcw:(⟨IntKind.wrap .u32 c.left,IntKind.wrap .u32 c.right,c.key,c.val,c.size,c.high⟩:Cell)=c:=by rw [ZjJ ow,ZjJ ow]
 obtain ⟨F,O⟩:=O.norm [(0,_),(3,_),(4,_),(5,_),(6,_),(30,_)] [(0,_),(2,_),(3,_),(4,_),(101,_)] r6 r5
 refine Yf (Zm (Za (Ya ?_)))
 refine ZbD kr O kr
   (cF rfl (ZF .t (by rfl)) r1 trivial
   (cF rfl (ZF .t (by rfl)) r1 trivial
   (cF rfl (o_nilCheck 2 .is (by rfl)) r1 r1
   (cF rfl (Zu (off:=1) 2 .adr kr (by rfl)) r1 r1
   (cF rfl (Zaf (ag:=false) (sz:=1) 2 .adr kr kr kr (by rfl)) r1 r1
   (cF rfl (Zu (off:=0) 101 .is kr (by rfl)) r1 r1
   (cF rfl (Zaf (ag:=false) (sz:=1) 101 .adr kr kr kr (by rfl)) r1 r1
   (cF rfl (ZaK underlying274 kr .t) r1 trivial
   (cF rfl (Zu (off:=1) 101 .is kr (by rfl)) r1 r1
   (cF rfl (Zaf (ag:=false) (sz:=1) 101 .adr kr kr kr (by rfl)) r1 r1
   (cF rfl (ZaK underlying274 kr .t) r1 trivial
   (cF rfl (ZcF (r:=[(0,.tmp 41),(1,.tmp 44)]) (zs:=[.int .u32 0,.int .u32 0]) (pl:=[(0,1),(1,1)]) kr kr (.one rfl .t one_int kr (.one rfl .t one_int kr .nil)) (by rfl)) r2 trivial
   (cF rfl (Zy (sz:=2) (zs:=[.int .u32 0,.int .u32 0]) (r:=[(0,.tmp 45)]) (l:=[_,_]) YbJ kr kr kr kr rfl rfl (.agg rfl .t kr kr .nil) rfl) r1 trivial
   (cF rfl (Z1 (sz:=2) (bs:=8) 3 (.mk' YbJ kr kr) (by intro x;rfl) .is (.arr (l':=[⟨IntKind.wrap .u32 c.left,IntKind.wrap .u32 c.right,c.key,c.val,c.size,c.high⟩]) .t) (by simp only [Yp,Yx];omega) (by decide)) ⟨rfl,rfl,tv⟩ ⟨rfl,tv⟩
   (cF rfl (o_nilCheck 2 .is (by rfl)) r1 r1
   (cF rfl (Zu (off:=1) 2 .adr kr (by rfl)) r1 r1
   (cF rfl (ZaU 2 .adr kr kr) r2 r1
   Zh.nil)))))))))))))))))
   kr (by rw [V];kernel_rfl) ?_
 clear O;intro a w F O
 replace O:=O.sub
 obtain ⟨F,O⟩:=O.norm [(0,_),(3,_),(4,_),(5,_),(6,_)] [(0,_),(2,_),(3,_),(4,_),(101,_)] r5 r5
 try dsimp only [RS.sub,SF.sub,CF.sub,csub,Anc.sub,List.map,Ze,List.length_cons,List.length_nil,Nat.reduceAdd,List.drop_succ_cons,List.drop_zero,List.drop_nil,List.take_succ_cons,List.take_zero,List.take_nil,List.cons_append,List.nil_append,zCF,ldSF] at O
 generalize Act.tau a 47=v47 at O
 refine Za (Ya ?_)
 refine ZbD kr O kr
   (cF rfl (ZF .t (by rfl)) r1 trivial
   (cF rfl (ZF .t (by rfl)) r1 trivial
   (cF rfl (o_nilCheck 2 .is (by rfl)) r1 r1
   (cF rfl (Zu (off:=2) 2 .adr kr (by rfl)) r1 r1
   (cF rfl (Zaf (ag:=false) (sz:=1) 2 .adr kr kr kr (by rfl)) r1 r1
   (cF rfl (Zu (off:=2) 101 .is kr (by rfl)) r1 r1
   (cF rfl (Zaf (ag:=false) (sz:=1) 101 .adr kr kr kr (by rfl)) r1 r1
   (cF rfl (Zu (off:=3) 101 .is kr (by rfl)) r1 r1
   (cF rfl (Zaf (ag:=false) (sz:=1) 101 .adr kr kr kr (by rfl)) r1 r1
   (cF rfl (Zu (off:=4) 101 .is kr (by rfl)) r1 r1
   (cF rfl (Zaf (ag:=false) (sz:=1) 101 .adr kr kr kr (by rfl)) r1 r1
   (cF rfl (Zu (off:=5) 101 .is kr (by rfl)) r1 r1
   (cF rfl (Zaf (ag:=false) (sz:=1) 101 .adr kr kr kr (by rfl)) r1 r1
   (cF rfl (ZcF (r:=[(0,.tmp 56),(1,.tmp 58),(2,.tmp 60),(3,.tmp 62)]) (zs:=[.int .i64 0,.int .i64 0,.int .i64 0,.int .i64 0]) (pl:=[(0,1),(1,1),(2,1),(3,1)]) kr kr (.one rfl .t one_int kr (.one rfl .t one_int kr (.one rfl .t one_int kr (.one rfl .t one_int kr .nil)))) (by rfl)) r4 trivial
   (cF rfl (Zy (sz:=4) (zs:=[.int .i64 0,.int .i64 0,.int .i64 0,.int .i64 0]) (r:=[(0,.tmp 63)]) (l:=[_,_,_,_]) underlying168 kr kr kr kr rfl rfl (.agg rfl .t kr kr .nil) rfl) r1 trivial
   (cF rfl (Z1 (sz:=4) (bs:=32) 4 (.mk' underlying168 kr kr) (by intro x;rfl) .is (.arr (l':=[c]) .t) (by simp only [Yp,Yx];omega) (by decide)) ⟨rfl,rfl,tv⟩ ⟨rfl,tv⟩
   (cF rfl (o_nilCheck 2 .is (by rfl)) r1 r1
   (cF rfl (Zu (off:=2) 2 .adr kr (by rfl)) r1 r1
   (cF rfl (ZaU 2 .adr kr kr) r2 r1
   Zh.nil)))))))))))))))))))
   kr (by rw [V];kernel_rfl) ?_
 clear O;intro a w F O
 replace O:=O.sub
 obtain ⟨F,O⟩:=O.norm [(4,_),(5,_),(6,_)] [(0,_),(2,_),(3,_),(4,_)] r3 r4
 try dsimp only [RS.sub,SF.sub,CF.sub,csub,Anc.sub,List.map,Ze,List.length_cons,List.length_nil,Nat.reduceAdd,List.drop_succ_cons,List.drop_zero,List.drop_nil,List.take_succ_cons,List.take_zero,List.take_nil,List.cons_append,List.nil_append,zCF,ldSF] at O
 generalize Act.tau a 65=v65 at O
 refine Za (Ya ?_)
 refine Zt O kr
   (cF rfl (ZF .t (by rfl)) r1 trivial
   (cF rfl (o_add .t (.ci kr)) r1 trivial
   (cF rfl (ZH .t (by rfl)) r1 trivial
   (cF rfl (ZH (.ci kr) (by rfl)) trivial trivial
   Zh.nil))))
   kr (by rw [V];kernel_rfl) ?_
 clear O;intro a w F O
 obtain ⟨F,O⟩:=O.norm [(4,_),(5,_)] [(0,_),(2,_),(3,_),(4,_)] r2 r4
 refine Za (Yi ?_)
 rw [hcw] at O
 have O:=O.fresh 1 rfl
 obtain ⟨F,O⟩:=O.push 1 4 Z Z Z kr
 obtain ⟨F,O⟩:=O.push 1 3 Z Z Z kr
 obtain ⟨F,O⟩:=O.push 1 2 Z Z Z kr
 have O:=O.turn 1 Z (r':=RS.hp (ZaF (.pointer (some ⟨b,0,none⟩)) room (ZaW room q c).1)) (fun _ _ _ _ h=>⟨_,_,by rw [hg];exact hI.put hb hb2,by rw [hg];exact h⟩)
 refine ZA hG O Z (.tmp Z (.tmp Z .nil)) (.two (.int (by rw [hg];exact Zc ow)) (.int (by rw [hg]))) rfl
theorem Zl8 (i:Int):FnP prog 174 [.is (.pointer none),.int .i64 i] (ZqF [] i):=by
 refine FnP.mk func174 Z ntmps174 Z fun B a w F V hfr O=>Ya ?_
 refine Zt O kr
   (cF rfl (ZfY (zs:=[.int .i64 0,.int .i64 0,.int .i64 0,.int .i64 0,.int .i64 0,.int .i64 0]) 101 kr) trivial trivial
   (cF rfl (ZH .cb (by rfl)) trivial trivial
   Zh.nil))
   kr (by rw [V];kernel_rfl) ?_
 clear O;intro a w F O
 replace O:=O.sub
 obtain ⟨F,O⟩:=O.norm [(0,_),(1,_),(4,_),(5,_)] [(0,_),(101,_)] r4 r2
 try dsimp only [RS.sub,SF.sub,CF.sub,csub,Anc.sub,List.map,zCF] at O
 generalize Act.tau a 4=v4 at O
 refine Za (Ya (Ya ?_))
 refine Zt O kr
   (cF rfl (ZF .t (by rfl)) r1 trivial
   (cF rfl (ZaG .t (.ci kr)) r1 trivial
   (cF rfl (ZF .t (by rfl)) r1 trivial
   (Zh.cons (Z2.cond rfl rfl (fun h=>ZF .t (by rfl))) r2 trivial
   (Zh.cons (Z2.cond rfl rfl (fun h=>ZF .t (by rfl))) r2 trivial
   (Zh.cons (Z2.cond rfl rfl (fun h=>Zfa (Zd4) func182 rfl kr (Args.one (.w h)))) r2 trivial
   (Zh.cons (Z2.cond rfl rfl (fun h=>Zas (.w h) (.w h))) r3 trivial
   (cF rfl (ZaQ .t .t) r2 trivial
   Zh.nil))))))))
   kr (by rw [V];kernel_rfl) ?_
 clear O;intro a w F O
 obtain ⟨F,O⟩:=O.norm [(0,_),(1,_),(4,_),(5,_),(15,_)] [(0,_),(101,_)] r5 r2
 refine Za (Zd O Z (fun hc0=>?_) (fun hc0=>?_))
 ·have hg:Zlh [] i=(default,false):=by unfold Zlh;rw [Yc];simp;omega
  refine Ya ?_
  refine Zt O kr
    (cF rfl (ZcF (r:=[]) (zs:=[.int .i64 0,.int .i64 0,.int .i64 0,.int .i64 0,.int .i64 0,.int .i64 0]) (pl:=[(0,1),(1,1),(2,1),(3,1),(4,1),(5,1)]) kr kr .nil (by rfl)) trivial trivial
    (cF rfl (ZbT (sz:=6) 101 .is .t kr kr kr) r2 r1
    (cF rfl (ZH .cb (by rfl)) trivial trivial
    Zh.nil)))
    kr (by rw [V];kernel_rfl) ?_
  clear O;intro a w F O
  obtain ⟨F,O⟩:=O.norm [(0,_),(1,_),(4,_),(5,_)] [(0,_),(101,_)] r4 r2
  try dsimp only [List.map,Ze,List.length_cons,List.length_nil,Nat.reduceAdd,List.drop_succ_cons,List.drop_zero,List.drop_nil,List.take_succ_cons,List.take_zero,List.take_nil,List.cons_append,List.nil_append,zCF] at O
  refine Za (Yi (Zk (Za4 hfr O Z (.cell (n:=101) (ag:=true) (sz:=6) Z .is Z kr kr kr (.tmp Z .nil)) (.two (.aggU Z (by rw [hg];rfl)) (.bool (by rw [hg]))))))
 have hb:1≤i∧i≤(0:Int):=by simp at hc0;omega
 omega
theorem ZlD (n:Int):FnP prog 189 [.is (.pointer none),.int .i64 n] (.bool (Zji [] n)):=by
 refine FnP.mk func189 Z ntmps189 Z fun B a w F V hfr O=>Ya ?_
 refine Zt O kr
   (cF rfl (ZH .cb (by rfl)) trivial trivial
   Zh.nil)
   kr (by rw [V];kernel_rfl) ?_
 clear O;intro a w F O
 obtain ⟨F,O⟩:=O.norm [(0,_),(1,_),(4,_)] [(0,_)] r3 r1
 refine Za (Ya (Ya ?_))
 refine Zt O kr
   (cF rfl (ZF .t (by rfl)) r1 trivial
   (cF rfl (ZaG .t (.ci kr)) r1 trivial
   (cF rfl (ZF .t (by rfl)) r1 trivial
   (Zh.cons (Z2.cond rfl rfl (fun h=>ZF .t (by rfl))) r2 trivial
   (Zh.cons (Z2.cond rfl rfl (fun h=>ZF .t (by rfl))) r2 trivial
   (Zh.cons (Z2.cond rfl rfl (fun h=>Zfa (Zd4) func182 rfl kr (Args.one (.w h)))) r2 trivial
   (Zh.cons (Z2.cond rfl rfl (fun h=>Zas (.w h) (.w h))) r3 trivial
   (cF rfl (ZaQ .t .t) r2 trivial
   Zh.nil))))))))
   kr (by rw [V];kernel_rfl) ?_
 clear O;intro a w F O
 obtain ⟨F,O⟩:=O.norm [(0,_),(1,_),(4,_),(12,_)] [(0,_)] r4 r1
 refine Za (Zd O Z (fun hc0=>?_) (fun hc0=>?_))
 ·have hg:Zji [] n=false:=YK (by simp at hc0 ⊢;omega)
  refine Ya ?_
  refine Zt O kr
    (cF rfl (ZH .cb (by rfl)) trivial trivial
    Zh.nil)
    kr (by rw [V];kernel_rfl) ?_
  clear O;intro a w F O
  obtain ⟨F,O⟩:=O.norm [(0,_),(1,_),(4,_)] [(0,_)] r3 r1
  refine Za (Yi (Zk (Za4 hfr O Z (.tmp Z .nil) (.one (.bool (by rw [hg]))))))
 have hg:Zji [] n=true:=YX (by simp at hc0 ⊢;omega)
 refine Yf (Za (Ya (Ya ?_)))
 refine Zt O kr
   (cF rfl (ZF .t (by rfl)) r1 trivial
   (cF rfl (Zfm _ YbI rfl .t) r1 trivial
   Zh.nil))
   kr (by rw [V];kernel_rfl) ?_
 clear O;intro a w F O
 obtain ⟨F,O⟩:=O.norm [(0,_),(1,_),(4,_),(14,_)] [(0,_)] r4 r1
 refine Za (Zd O Z (fun hc1=>?_) (fun hc1=>?_))
 ·simp at hc1
 refine Yf (Za (Ya ?_))
 refine Zt O kr
   (cF rfl (ZH .cb (by rfl)) trivial trivial
   Zh.nil)
   kr (by rw [V];kernel_rfl) ?_
 clear O;intro a w F O
 obtain ⟨F,O⟩:=O.norm [(4,_)] [(0,_)] r1 r1
 refine Za (Yi (Za4 hfr O Z (.tmp Z .nil) (.one (.bool (by rw [hg])))))
theorem Zm3 (c:Cell):FnP prog 251 [.is (.pointer none),.agg (ZW c)] (.tup [.int .i64 (ZaW 0 [] c).2.1,.int .i64 (ZaW 0 [] c).2.2]):=by
 refine FnP.mk func251 Z ntmps251 Z fun B a w F V hfr O=>Ya ?_
 refine Zt O kr
   (cF rfl (Zif 101 (.conv .t .agg) kr) r1 trivial
   (cF rfl (ZH (.ci kr) (by rfl)) trivial trivial
   (cF rfl (ZH (.ci kr) (by rfl)) trivial trivial
   Zh.nil)))
   kr (by rw [V];kernel_rfl) ?_
 clear O;intro a w F O
 replace O:=O.sub
 obtain ⟨F,O⟩:=O.norm [(0,_),(3,_),(4,_),(5,_)] [(0,_),(101,_)] r4 r2
 try dsimp only [RS.sub,SF.sub,CF.sub,csub,Anc.sub,List.map,zCF] at O
 generalize Act.tau a 3=v3 at O
 refine Za (Ya ?_)
 refine Zt O kr
   (cF rfl (ZF .t (by rfl)) r1 trivial
   (cF rfl (Zfa (Zd4) func182 rfl kr (Args.one .t)) r1 trivial
   (cF rfl (ZH .t (by rfl)) r1 trivial
   Zh.nil)))
   kr (by rw [V];kernel_rfl) ?_
 clear O;intro a w F O
 obtain ⟨F,O⟩:=O.norm [(0,_),(3,_),(4,_),(5,_),(6,_)] [(0,_),(101,_)] r5 r2
 refine Za (Ya (Ye (Ya ?_)))
 refine Zt O kr
   (cF rfl (Zu (off:=0) 101 .is kr (by rfl)) r1 r1
   (cF rfl (Zaf (ag:=false) (sz:=1) 101 .adr kr kr kr (by rfl)) r1 r1
   (cF rfl (ZaG .t (.ci kr)) r1 trivial
   (cF rfl (ZF .t (by rfl)) r1 trivial
   (Zh.cons (Z2.cond rfl rfl (fun h=>Zu (off:=0) 101 .is kr (by rfl))) r2 r1
   (Zh.cons (Z2.cond rfl rfl (fun h=>Zaf (ag:=false) (sz:=1) 101 (.w h .adr) kr kr kr (by rfl))) r2 r1
   (Zh.cons (Z2.cond rfl rfl (fun h=>ZF .t (by rfl))) r2 trivial
   (Zh.cons (Z2.cond rfl rfl (fun h=>Zas (.w h) (.w h))) r3 trivial
   (cF rfl (ZaQ .t .t) r2 trivial
   (cF rfl (ZF .t (by rfl)) r1 trivial
   (Zh.cons (Z2.cond rfl rfl (fun h=>Zu (off:=1) 101 .is kr (by rfl))) r2 r1
   (Zh.cons (Z2.cond rfl rfl (fun h=>Zaf (ag:=false) (sz:=1) 101 (.w h .adr) kr kr kr (by rfl))) r2 r1
   (Zh.cons (Z2.cond rfl rfl (fun h=>ZaG (.w h) (.ci kr))) r2 trivial
   (cF rfl (ZaQ .t .t) r2 trivial
   (cF rfl (ZF .t (by rfl)) r1 trivial
   (Zh.cons (Z2.cond rfl rfl (fun h=>Zu (off:=1) 101 .is kr (by rfl))) r2 r1
   (Zh.cons (Z2.cond rfl rfl (fun h=>Zaf (ag:=false) (sz:=1) 101 (.w h .adr) kr kr kr (by rfl))) r2 r1
   (Zh.cons (Z2.cond rfl rfl (fun h=>ZF .t (by rfl))) r2 trivial
   (Zh.cons (Z2.cond rfl rfl (fun h=>Zas (.w h) (.w h))) r3 trivial
   (cF rfl (ZaQ .t .t) r2 trivial
   (cF rfl (ZH .t (by rfl)) r1 trivial
   Zh.nil)))))))))))))))))))))
   kr (by rw [V];kernel_rfl) ?_
 clear O;intro a w F O
 obtain ⟨F,O⟩:=O.norm [(0,_),(3,_),(4,_),(5,_),(6,_),(9,_)] [(0,_),(101,_)] r6 r2
 try dsimp only [List.map,List.drop_succ_cons,List.drop_zero,List.drop_nil,List.take_succ_cons,List.take_zero,List.take_nil,ldSF] at O
 refine Za (Zd O Z (fun hc0=>?_) (fun hc0=>?_))
 ·have hb:Zdi [] c:=by unfold Zdi;simp only [Yal,Yj] at hc0;simp only [Yx];omega
  have hg:ZaW 0 [] c=([],0,1):=Yd hb
  refine Ya ?_
  refine Zt O kr
    (cF rfl (ZH (.ci kr) (by rfl)) trivial trivial
    (cF rfl (ZH (.ci kr) (by rfl)) trivial trivial
    Zh.nil))
    kr (by rw [V];kernel_rfl) ?_
  clear O;intro a w F O
  obtain ⟨F,O⟩:=O.norm [(0,_),(3,_),(4,_),(5,_),(6,_)] [(0,_),(101,_)] r5 r2
  refine Za (Yi (ZC (Zk (Za4 hfr O Z (.tmp Z (.tmp Z .nil)) (.two (.int (by rw [hg])) (.int (by rw [hg])))))))
 have hb:¬ Zdi [] c:=by unfold Zdi;simp only [YaY,Yh] at hc0;simp only [Yx];omega
 have hg:ZaW 0 [] c=([],0,2):=by unfold ZaW;rw [Yc hb,Yd (by simp)]
 refine Ya ?_
 refine Zt O kr
   (cF rfl (ZF .t (by rfl)) r1 trivial
   (cF rfl (Zfa (ZkQ) func120 rfl kr (Args.one .t)) r1 trivial
   (cF rfl (o_eql .t (.ci kr)) r1 trivial
   (cF rfl (ZH .t (by rfl)) r1 trivial
   Zh.nil))))
   kr (by rw [V];kernel_rfl) ?_
 clear O;intro a w F O
 obtain ⟨F,O⟩:=O.norm [(0,_),(3,_),(4,_),(5,_),(6,_),(30,_)] [(0,_),(101,_)] r6 r2
 refine Za (Zd O Z (fun hc1=>?_) (fun hc1=>?_))
 ·refine Ya ?_
  refine Zt O kr
    (cF rfl (ZH (.ci kr) (by rfl)) trivial trivial
    (cF rfl (ZH (.ci kr) (by rfl)) trivial trivial
    Zh.nil))
    kr (by rw [V];kernel_rfl) ?_
  clear O;intro a w F O
  obtain ⟨F,O⟩:=O.norm [(0,_),(3,_),(4,_),(5,_),(6,_)] [(0,_),(101,_)] r5 r2
  refine Za (Yi (ZC (Zk (Za4 hfr O Z (.tmp Z (.tmp Z .nil)) (.two (.int (by rw [hg])) (.int (by rw [hg])))))))
 simp at hc1
theorem Zga {v:Value} {room:Int} {q:List Cell} {w:World} {f y:Ys} (h:(ZaF v room q).p w f y):∃ b,v = .pointer (some ⟨b,0,none⟩):=by
 obtain ⟨_,_,_,h⟩:=h
 exact HP.star_pt h
def getC (q:List Cell) (i:Int):Cell:=(Zlh q i).1
theorem Ze4 (q:List Cell):getC q 0=default:=by unfold getC Zlh;rw [Yc ow]
theorem Zja {q:List Cell} {i:Int} (h:1≤i∧i≤q.length):getC q i=Nn q (i - 1).toNat:=by unfold getC Zlh;rw [Yd h]
theorem ZnO {q:List Cell} {i:Int} (h:1≤i∧i≤q.length) (e:List Cell):getC (q++e) i=getC q i:=by
 rw [Zja h,Zja (by simp only [Yb];omega),ZE (show (i - 1).toNat<q.length by omega),ZE (show (i - 1).toNat<(q++e).length by simp only [Yb];omega),List.getElem_append_left (show (i - 1).toNat<q.length by omega)]
theorem Zln (q:List Cell) (c:Cell):getC (q ++ [c]) ((q.length:Int)+1)=c:=by
 rw [Zja (by simp only [Yb,Yp,Yx];omega),show ((q.length:Int)+1 - 1).toNat=q.length by omega,ZE (by simp)]
 simp
def Rep (kf:Int→Int) (q:List Cell):Z5→Int→Prop
 | .nil,i=>i=0
 | .node l p r,i=>(1≤i∧i≤q.length)∧Rep kf q l (getC q i).left∧Rep kf q r (getC q i).right∧(getC q i).key=p.key∧kf p.key=p.key∧(getC q i).val=p.val∧(getC q i).size=Zw l+Zw r+1∧(getC q i).high=max (Zg l) (Zg r)+1
theorem Rep.high {kf:Int→Int} {q:List Cell} : ∀ {t:Z5} {i:Int},Rep kf q t i→(getC q i).high=Zg t
 | .nil,i,h=>by rw [show i=0 from h,Ze4];rfl
 | .node l p r,i,h=>h.2.2.2.2.2.2.2
theorem Rep.size {kf:Int→Int} {q:List Cell} : ∀ {t:Z5} {i:Int},Rep kf q t i→(getC q i).size=Zw t
 | .nil,i,h=>by rw [show i=0 from h,Ze4];rfl
 | .node l p r,i,h=>h.2.2.2.2.2.2.1
theorem Rep.range {kf:Int→Int} {q:List Cell} : ∀ {t:Z5} {i:Int},Rep kf q t i→0≤i∧i≤q.length
 | .nil,i,h=>by rw [show i=0 from h];omega
 | .node l p r,i,h=>by have:=h.1;omega
theorem Rep.app {kf:Int→Int} {q:List Cell} (e:List Cell):∀ {t:Z5} {i:Int},Rep kf q t i→Rep kf (q++e) t i
 | .nil,i,h=>h
 | .node l p r,i,h=>by
  obtain ⟨h1,h2,h3,h4⟩:=h
  have hl:=h2.app e
  have hr:=h3.app e
  unfold Rep
  rw [ZnO h1]
  exact ⟨⟨h1.1,by simp only [Yb];omega⟩,hl,hr,h4⟩
theorem Rep.zero {kf:Int→Int} {q:List Cell} {t:Z5} (h:Rep kf q t 0):t = .nil:=by
 match t,h with
 | .nil,_=>rfl
 | .node l p r,h=>have:=h.1;omega
theorem Rep.node {kf:Int→Int} {q:List Cell} {t:Z5} {i:Int} (h:Rep kf q t i) (hi:i≠0):∃ l p r,t = .node l p r:=by
 match t,h with
 | .nil,h=>exact absurd h hi
 | .node l p r,h=>exact ⟨l,p,r,rfl⟩
def ZD (kf:Int→Int) (c:Cell):Zz:=⟨kf c.key,c.val⟩
theorem Rep.pair {kf:Int→Int} {q:List Cell} {l r:Z5} {p:Zz} {i:Int} (h:Rep kf q (.node l p r) i):ZD kf (getC q i)=p:=by
 obtain ⟨_,_,_,h4,h5,h6,_⟩:=h
 unfold ZD
 rw [h4,h5,h6]
abbrev St:=List Cell×Int×Int
def Za7 (q:List Cell) (l r:Int) (p:Zz):Cell:=⟨l,r,p.key,p.val,IntKind.wrap .i64 (IntKind.wrap .i64 ((getC q l).size+(getC q r).size)+1),IntKind.wrap .i64 ((if (getC q l).high<(getC q r).high then (getC q r).high else (getC q l).high)+1)⟩
def madeS (room:Int) (q:List Cell) (why l r:Int) (p:Zz):St:=
 if why≠0 then (q,why,0) else ((ZaW room q (Za7 q l r p)).1,(ZaW room q (Za7 q l r p)).2.2,(ZaW room q (Za7 q l r p)).2.1)
def ZaC (kf:Int→Int) (room:Int) (q:List Cell) (why l r:Int) (p:Zz):St:=
 if IntKind.wrap .i64 ((getC q r).high+1)<(getC q l).high then
  if (getC q (getC q l).right).high≤(getC q (getC q l).left).high then
   let m:=madeS room q why (getC q l).right r p
   madeS room m.1 m.2.1 (getC q l).left m.2.2 (ZD kf (getC q l))
  else
   let z:=getC q (getC q l).right
   let m:=madeS room q why (getC q l).left z.left (ZD kf (getC q l))
   let n:=madeS room m.1 m.2.1 z.right r p
   madeS room n.1 n.2.1 m.2.2 n.2.2 (ZD kf z)
 else if IntKind.wrap .i64 ((getC q l).high+1)<(getC q r).high then
  if (getC q (getC q r).left).high≤(getC q (getC q r).right).high then
   let m:=madeS room q why l (getC q r).left p
   madeS room m.1 m.2.1 m.2.2 (getC q r).right (ZD kf (getC q r))
  else
   let z:=getC q (getC q r).left
   let m:=madeS room q why l z.left p
   let n:=madeS room m.1 m.2.1 z.right (getC q r).right (ZD kf (getC q r))
   madeS room n.1 n.2.1 m.2.2 n.2.2 (ZD kf z)
 else madeS room q why l r p
theorem Zaj {room:Int} {q:List Cell} {why l r:Int} {p:Zz} (h:why≠0):madeS room q why l r p=(q,why,0):=Yd h
theorem Zb0 {kf:Int→Int} {room:Int} {q:List Cell} {why l r:Int} {p:Zz} (h:why≠0):ZaC kf room q why l r p=(q,why,0):=by
 unfold ZaC
 split
 ·split
  ·simp only [Zaj h]
  ·simp only [Zaj h]
 ·split
  ·split
   ·simp only [Zaj h]
   ·simp only [Zaj h]
  ·exact Zaj h
def ZcY (kf:Int→Int) (room:Int) (q:List Cell) (lo n:Int) (x:St) (t:Z5):Prop:=
 ∃ e:List Cell,x.1=q++e∧(e.length:Int)≤n∧((x.2.1=0∧Rep kf x.1 t x.2.2∧lo≤e.length)∨(x.2.1=2∧room<q.length+n))
theorem ZcY.bind {kf:Int→Int} {room:Int} {q:List Cell} {lo n lo' m:Int} {x y:St} {t t':Z5} (h:ZcY kf room q lo n x t) (hm:0≤m) (h0:∀ e,x.1=q++e→x.2.1=0→Rep kf x.1 t x.2.2→ZcY kf room x.1 lo' m y t') (h1:x.2.1≠0→y=(x.1,x.2.1,0)):ZcY kf room q (lo+lo') (n+m) y t':=by
 obtain ⟨e,e1,e2,⟨e3,e4,e5⟩ | ⟨e3,e4⟩⟩:=h
 ·obtain ⟨f,f1,f2,f3⟩:=h0 e e1 e3 e4
  refine ⟨e++f,by rw [f1,e1,Ym],by simp only [Yb];omega,?_⟩
  rw [e1] at f3
  simp only [Yb] at f3 ⊢
  rcases f3 with ⟨f3,f4,f5⟩ | ⟨f3,f4⟩
  ·exact .inl ⟨f3,f4,by omega⟩
  ·exact .inr ⟨f3,by omega⟩
 ·rw [h1 ow]
  exact ⟨e,e1,by omega,.inr ⟨e3,by omega⟩⟩
theorem ZcY.weak {kf:Int→Int} {room:Int} {q:List Cell} {lo n lo' n':Int} {x:St} {t:Z5} (h:ZcY kf room q lo n x t) (h1:lo' ≤ lo) (h2:n≤n'):ZcY kf room q lo' n' x t:=by
 obtain ⟨e,e1,e2,⟨e3,e4,e5⟩ | ⟨e3,e4⟩⟩:=h
 ·exact ⟨e,e1,by omega,.inl ⟨e3,e4,by omega⟩⟩
 ·exact ⟨e,e1,by omega,.inr ⟨e3,by omega⟩⟩
theorem Zag {kf:Int→Int} {room:Int} {q:List Cell} {li ri:Int} {l r:Z5} {p:Zz} (hl:Rep kf q l li) (hr:Rep kf q r ri) (hp:kf p.key=p.key) (hs:Zw l+Zw r≤1000000):ZcY kf room q 1 1 (madeS room q 0 li ri p) (.node l p r):=by
 have bl:=hl.range
 have br:=hr.range
 have sl:=ZI l
 have sr:=ZI r
 have gl:=Z4 l
 have gr:=Z4 r
 have kl:=Zc0 l
 have kr:=Zc0 r
 unfold madeS
 rw [Yc ow]
 unfold ZaW
 rw [Yc (by unfold Zdi Za7;simp only;omega)]
 split
 ·exact ⟨[],(YD q).symm,by simp,.inr ⟨rfl,by omega⟩⟩
 ·refine ⟨[Za7 q li ri p],rfl,by simp,.inl ⟨rfl,?_,by simp⟩⟩
  unfold Rep
  simp only
  rw [Zln]
  refine ⟨⟨by omega,by simp only [Yb,Yp,Yx];omega⟩,hl.app _,hr.app _,rfl,hp,rfl,?_,?_⟩
  ·unfold Za7
   simp only
   rw [hl.size,hr.size,Zc (x:=Zw l+Zw r) ow,Zc ow]
  ·unfold Za7
   simp only
   rw [hl.high,hr.high,show (if Zg l<Zg r then Zg r else Zg l)=max (Zg l) (Zg r) by split <;> omega,Zc ow]
theorem ZbF {kf:Int→Int} {room:Int} {q:List Cell} {li ri:Int} {l r:Z5} {p:Zz} (hl:Rep kf q l li) (hr:Rep kf q r ri) (hp:kf p.key=p.key) (hs:Zw l+Zw r≤1000000):ZcY kf room q 1 3 (ZaC kf room q 0 li ri p) (ZaX l p r):=by
 have sl:=ZI l
 have sr:=ZI r
 have gl:=Z4 l
 have gr:=Z4 r
 have kl:=Zc0 l
 have kr:=Zc0 r
 unfold ZaC ZaX
 rw [hl.high,hr.high,Zc ow,Zc ow]
 split
 ·rename_i hh
  match l,hl with
  | .nil,hl=>simp [Zg] at hh;omega
  | .node ll lp lr,hl=>
   have hk:=hl
   obtain ⟨h1,h2,h3,h4,h5,h6,_⟩:=hl
   have s1:Zw (.node ll lp lr)=Zw ll+Zw lr+1:=rfl
   have s2:=ZI ll
   have s3:=ZI lr
   rw [h3.high,h2.high,hk.pair]
   show ZcY kf room q 1 3 _ (if Zg lr≤Zg ll then _ else _)
   split
   ·refine (ZcY.bind (lo:=1) (n:=1) (lo':=1) (m:=1) (Zag h3 hr hp ow) ow (fun e e1 e3 e4=>?_) fun h=>Zaj h).weak ow ow
    rw [e3]
    refine Zag (by rw [e1];exact h2.app e) e4 h5 ?_
    show Zw ll+(Zw lr+Zw r+1)≤_
    omega
   ·rename_i h9
    match lr,h3 with
    | .nil,h3=>simp [Zg] at h9;have:=Z4 ll;omega
    | .node a z b,h3=>
     have hz:=h3
     obtain ⟨j1,j2,j3,j4,j5,j6,_⟩:=h3
     have s4:Zw (.node a z b)=Zw a+Zw b+1:=rfl
     have s5:=ZI a
     have s6:=ZI b
     show ZcY kf room q 1 3 _ (.node (.node ll lp a) z (.node b p r))
     refine (ZcY.bind (lo:=1) (n:=1) (lo':=2) (m:=2) (Zag h2 j2 h5 ow) ow (fun e e1 e3 e4=>?_) fun h=>?_).weak ow ow
     ·simp only
      rw [e3]
      generalize madeS room q 0 (getC q li).left (getC q (getC q li).right).left lp=mm at e1 e3 e4 ⊢
      refine (ZcY.bind (lo:=1) (n:=1) (lo':=1) (m:=1) (Zag (l:=b) (r:=r) (by rw [e1];exact j3.app e) (by rw [e1];exact hr.app e) hp ow) ow (fun f f1 f3 f4=>?_) fun h=>Zaj h).weak ow ow
      rw [f3,hz.pair]
      refine Zag (by rw [f1];exact e4.app f) f4 j5 ?_
      show (Zw ll+Zw a+1)+(Zw b+Zw r+1)≤_
      omega
     ·simp only [Zaj h]
 ·split
  ·rename_i hn hh
   match r,hr with
   | .nil,hr=>simp [Zg] at hh;omega
   | .node rl rp rr,hr=>
    have hk:=hr
    obtain ⟨h1,h2,h3,h4,h5,h6,_⟩:=hr
    have s1:Zw (.node rl rp rr)=Zw rl+Zw rr+1:=rfl
    have s2:=ZI rl
    have s3:=ZI rr
    rw [h3.high,h2.high,hk.pair]
    show ZcY kf room q 1 3 _ (if Zg rl≤Zg rr then _ else _)
    split
    ·refine (ZcY.bind (lo:=1) (n:=1) (lo':=1) (m:=1) (Zag hl h2 hp ow) ow (fun e e1 e3 e4=>?_) fun h=>Zaj h).weak ow ow
     rw [e3]
     refine Zag e4 (by rw [e1];exact h3.app e) h5 ?_
     show (Zw l+Zw rl+1)+Zw rr≤_
     omega
    ·rename_i h9
     match rl,h2 with
     | .nil,h2=>simp [Zg] at h9;have:=Z4 rr;omega
     | .node a z b,h2=>
      have hz:=h2
      obtain ⟨j1,j2,j3,j4,j5,j6,_⟩:=h2
      have s4:Zw (.node a z b)=Zw a+Zw b+1:=rfl
      have s5:=ZI a
      have s6:=ZI b
      show ZcY kf room q 1 3 _ (.node (.node l p a) z (.node b rp rr))
      refine (ZcY.bind (lo:=1) (n:=1) (lo':=2) (m:=2) (Zag hl j2 hp ow) ow (fun e e1 e3 e4=>?_) fun h=>?_).weak ow ow
      ·simp only
       rw [e3]
       generalize madeS room q 0 li (getC q (getC q ri).left).left p=mm at e1 e3 e4 ⊢
       refine (ZcY.bind (lo:=1) (n:=1) (lo':=1) (m:=1) (Zag (l:=b) (r:=rr) (by rw [e1];exact j3.app e) (by rw [e1];exact h3.app e) h5 ow) ow (fun f f1 f3 f4=>?_) fun h=>Zaj h).weak ow ow
       rw [f3,hz.pair]
       refine Zag (by rw [f1];exact e4.app f) f4 j5 ?_
       show (Zw l+Zw a+1)+(Zw b+Zw rr+1)≤_
       omega
      ·simp only [Zaj h]
  ·exact (Zag hl hr hp hs).weak ow ow
theorem FnP.ownA {P:Program} {f:FuncId} {args:List PV} {q:PV} {c c':Prop} (h:c→FnP P f args q) (hc:c→c'):FnG P f 1 args [HP.and c (HP.star [])] q (fun _=>[HP.and c' (HP.star [])]):=fun w F vs hw hle hvs hpr=>by
 have h0:=hpr 0 _ rfl
 refine (h h0.1 w (U F) vs (fun b ⟨n,hn⟩=>hw.bd n b hn) hvs).mono ?_
 rintro e' w' ⟨v,rfl,hq,hbel⟩
 refine ⟨v,F,rfl,⟨hw.dis,fun n b hn=>Yay (hw.bd n b hn) hbel.size⟩,⟨hbel.os,hbel.tape,hbel.output,hbel.size,fun b hb _=>hbel.block b hb,fun _ _=>rfl,fun n hn b hb=>.inl ⟨n,hn,hb⟩⟩,hle,hq,fun i h hi=>?_⟩
 match i,hi with
 | 0,hi=>
  simp at hi
  subst hi
  exact ⟨hc h0.1,h0.2⟩
def arV (o:Option Nat):Value:=.pointer (o.map fun b=>⟨b,0,none⟩)
def arH (o:Option Nat) (room:Int) (q:List Cell):HP:=
 match o with
 | none=>.and (room=0∧q = []) (.star [])
 | some b=>ZaF (.pointer (some ⟨b,0,none⟩)) room q
theorem Zkg (o:Option Nat) (room:Int) (q:List Cell):FnG prog 182 1 [.is (arV o)] [arH o room q] (.int .i64 q.length) (fun _=>[arH o room q]):=
 match o with
 | some b=>Zhg b room q
 | none=>FnP.ownA (c:=room=0∧q = []) (fun h=>by rw [h.2];exact Zd4) fun h=>h
theorem Zot (o:Option Nat) (room:Int) (q:List Cell) (i:Int):FnG prog 174 1 [.is (arV o),.int .i64 i] [arH o room q] (.tup [.agg (ZW (getC q i)),.bool (Zlh q i).2]) (fun _=>[arH o room q]):=
 match o with
 | some b=>Zpi b room q i
 | none=>FnP.ownA (c:=room=0∧q = []) (fun h=>by rw [h.2];exact Zl8 i) fun h=>h
theorem Zoq (o:Option Nat) (room:Int) (q:List Cell) (n:Int):FnG prog 189 1 [.is (arV o),.int .i64 n] [arH o room q] (.bool (Zji q n)) (fun _=>[arH o room (Zb5 q n)]):=
 match o with
 | some b=>ZoT b room q n
 | none=>FnP.ownA (c:=room=0∧q = []) (c':=room=0∧Zb5 q n = []) (fun h=>by rw [h.2];exact ZlD n) fun h=>⟨h.1,by rw [h.2];unfold Zb5;split <;> simp⟩
theorem Zoj (o:Option Nat) (room:Int) (q:List Cell) (c:Cell):FnG prog 251 1 [.is (arV o),.agg (ZW c)] [arH o room q] (.tup [.int .i64 (ZaW room q c).2.1,.int .i64 (ZaW room q c).2.2]) (fun _=>[arH o room (ZaW room q c).1]):=
 match o with
 | some b=>ZoD b room q c
 | none=>FnP.ownA (c:=room=0∧q = []) (c':=room=0∧(ZaW room q c).1 = []) (fun h=>by rw [h.1,h.2];exact Zm3 c) fun h=>⟨h.1,by rw [h.1,h.2];unfold ZaW;split;rfl;rw [Yd (by simp)]⟩
theorem Za6 (o:Option Nat) (room:Int) (q:List Cell) (root i:Int):FnG prog 107 1 [.agg [.is (arV o),.int .i64 root],.int .i64 i] [arH o room q] (.agg (ZW (getC q i))) (fun _=>[arH o room q]):=by
 refine FnG.mk func107 Z ntmps107 Z kr fun B F0 a w F V hG O=>Ya ?_
 refine Zb O (qx 101 r1 (qf (oH [.int .i64 0,.int .i64 0,.int .i64 0,.int .i64 0,.int .i64 0,.int .i64 0] 102) trivial qz qZ)) V [4,2,1] [102,101,1,0] (fun _=>rfl) (fun _=>rfl) fun τ a w F O=>?_
 try dsimp only [RS.sub,SF.sub,CF.sub,csub,Anc.sub,List.map,zCF,ZW,Zx] at O
 generalize τ 2=v2,τ 4=v4 at O
 refine Za (Ya (Zb O (qg 0 101 r1 r1 (qa 101 r1 r1 (qR rr (qf (o_callG1 1 (Zot o room q i) func174 Z kr (Args.two .t .t)) r2 r1 (qR rr (qf (o_extract .t Z) r1 qz (qf (o_extract .t Z) r1 qz (qf (oH [.int .i64 0,.int .i64 0,.int .i64 0,.int .i64 0,.int .i64 0,.int .i64 0] 103) trivial qz (qf (oA 6 103 .same (.conv .t .agg)) r2 r1 (qO rr qZ)))))))))) V [5,4] [103,102,1,0] (fun _=>rfl) (fun _=>rfl) fun τ a w F O=>?_))
 try dsimp only [RS.sub,SF.sub,CF.sub,csub,Anc.sub,List.map,Ze,xL,xM,Nat.reduceAdd,xD,xE,xT,xU,xC,xN,zCF,ldSF,ZW,Zx] at O
 generalize τ 5=v5 at O
 refine Za (Ya (rZ O (qe 6 103 r1 r1 (qs 6 102 r2 r1 qZ)) V [4] [102,1,0] fun O=>Yi ?_))
 refine ZA hG O Z (.cl 102 true 6 Z Z .nil) (.one (.aggU Z Z)) rfl
theorem scell_c (o:Option Nat) (room:Int) (q:List Cell) (root i:Int):FnG prog 109 1 [.agg [.is (arV o),.int .i64 root],.int .i64 i] [arH o room q] (.agg (ZW (getC q i))) (fun _=>[arH o room q]):=by
 refine FnG.mk func109 Z ntmps109 Z kr fun B F0 a w F V hG O=>Ya ?_
 refine Zb O (qx 101 r1 (qf (oH [.int .i64 0,.int .i64 0,.int .i64 0,.int .i64 0,.int .i64 0,.int .i64 0] 102) trivial qz qZ)) V [4,2,1] [102,101,1,0] (fun _=>rfl) (fun _=>rfl) fun τ a w F O=>?_
 try dsimp only [RS.sub,SF.sub,CF.sub,csub,Anc.sub,List.map,zCF,ZW,Zx] at O
 generalize τ 2=v2,τ 4=v4 at O
 refine Za (Ya (Zb O (qg 0 101 r1 r1 (qa 101 r1 r1 (qR rr (qf (o_callG1 1 (Zot o room q i) func174 Z kr (Args.two .t .t)) r2 r1 (qR rr (qf (o_extract .t Z) r1 qz (qf (o_extract .t Z) r1 qz (qf (oH [.int .i64 0,.int .i64 0,.int .i64 0,.int .i64 0,.int .i64 0,.int .i64 0] 103) trivial qz (qf (oA 6 103 .same (.conv .t .agg)) r2 r1 (qO rr qZ)))))))))) V [5,4] [103,102,1,0] (fun _=>rfl) (fun _=>rfl) fun τ a w F O=>?_))
 try dsimp only [RS.sub,SF.sub,CF.sub,csub,Anc.sub,List.map,Ze,xL,xM,Nat.reduceAdd,xD,xE,xT,xU,xC,xN,zCF,ldSF,ZW,Zx] at O
 generalize τ 5=v5 at O
 refine Za (Ya (rZ O (qe 6 103 r1 r1 (qs 6 102 r2 r1 qZ)) V [4] [102,1,0] fun O=>Yi ?_))
 refine ZA hG O Z (.cl 102 true 6 Z Z .nil) (.one (.aggU Z Z)) rfl
end Go.Proofs.YtfecljadegkmdaaGreat
