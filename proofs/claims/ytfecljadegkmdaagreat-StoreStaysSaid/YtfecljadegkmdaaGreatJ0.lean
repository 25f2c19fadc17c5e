/- Laws and walks. No condition beyond what each says. -/
import Derived.Test.YtfecljadegkmdaaGreatLibG
import Derived.Shelf.SlIter.Collect
import Derived.Maps.RangeRun
import Derived.Sort.MapsRangeIn
import Derived.RangeFuncBound
namespace Go.Proofs.YtfecljadegkmdaaGreat
open Go Go.Gm Tryz
set_option linter.unusedVariables false
set_option linter.unusedSimpArgs false
set_option maxHeartbeats 4000000
set_option maxRecDepth 8000
open Go.RowKit Go.Maps Go.Sort Go.Shelf Go.ChangeMaps Go.MapKept
section
variable {F:Fence} {n:Nat} {P:Program} {ops:Array Oper} {rest:List Oper} {o:Oper} {a:Act} {w:World} {Q:Exit→Act→World→Prop}
theorem YbO:type_of% @underlying37:=@underlying37
theorem YbP:type_of% @underlying27:=@underlying27
theorem YbQ:type_of% @underlying28:=@underlying28
theorem YbR:type_of% @underlying34:=@underlying34
theorem YbS:type_of% @underlying3:=@underlying3
theorem YbT:type_of% @underlying23:=@underlying23
theorem YbU:type_of% @underlying109:=@underlying109
theorem YbV:type_of% @underlying95:=@underlying95
theorem YbW:type_of% @underlying81:=@underlying81
theorem YbX:type_of% @underlying176:=@underlying176
theorem YbY:type_of% @underlying219:=@underlying219
theorem YbZ:type_of% @underlying94:=@underlying94
theorem Yb0:type_of% @underlying186:=@underlying186
theorem Yb1:type_of% @underlying87:=@underlying87
theorem Yb2:type_of% @underlying167:=@underlying167
theorem Zfq (hg:o.guard=none) (m:Operand) (t:TypeId) (hop:o.op=Op.range t m) (k e:TypeId) (ht:P.underlying t=some (.map k e)) (b:Nat) (es:Array MapEntry) (clock:Nat) (hm:a.eval m = .map (some b)) (hb:w.heap[b]? = some (.map es clock))
  (hK:wpListIn F n P ops Q rest (a.put o.dst (.pointer (some ⟨w.heap.size,0,none⟩))) (w.alloc (.mapIter (some b) clock #[] clock))):wpListIn F n P ops Q (o :: rest) a w:=by
 refine wpListIn_plain hg fun K' hK'=>?_
 unfold Oper.wpIn
 refine ⟨by simp [Oper.about,hop],?_⟩
 rw [Oper.semAt_plain F _ _ (by rw [hop];intro c hc';cases hc')]
 simp [execOp,hop,hm,run_range_map w t k e b es clock ht hb,Result.andThen]
 exact hK' _ _ hK
end
theorem ZnZ {w w1:World} {r b:Nat} {clock c0:Nat} {seen:Array Nat} {es:Array MapEntry} {x:Nat} (hal:w1=w∨w1=w.drew) (hr:w.heap[r]? = some (.mapIter (some b) clock seen c0)) (hb:w.heap[b]? = some (.map es clock)) (hne:r≠b) :
  (setBlock w1 r (.mapIter (some b) clock (seen.push x) clock)).heap[r]? = some (.mapIter (some b) clock (seen.push x) clock)∧(setBlock w1 r (.mapIter (some b) clock (seen.push x) clock)).heap[b]? = some (.map es clock)∧w.grownBy (setBlock w1 r (.mapIter (some b) clock (seen.push x) clock)) (some r):=by
 have hr1:w1.heap[r]? = some (.mapIter (some b) clock seen c0):=by rcases hal with rfl | rfl <;> exact hr
 have hb1:w1.heap[b]? = some (.map es clock):=by rcases hal with rfl | rfl <;> exact hb
 have hset:=heap_set (o':=.mapIter (some b) clock (seen.push x) clock) hr1
 refine ⟨hset.1,(hset.2 b (fun e1=>hne e1.symm)).trans hb1,?_⟩
 rcases hal with rfl | rfl <;> exact ⟨rfl,rfl,rfl,by simp [setBlock],fun i _ hi=>hset.2 i (fun e1=>hi (by rw [e1]))⟩
def Zqz (es:Array MapEntry) (seen:Array Nat):Prop:=(leftOf es seen).size=0
structure Zra (P:Program) (w w2:World) (r b clock:Nat) (seen:Array Nat) (es:Array MapEntry) (e:MapEntry):Prop where
 left:e ∈ (leftOf es seen).toList
 it:w2.heap[r]? = some (.mapIter (some b) clock (seen.push e.born) clock)
 mp:w2.heap[b]? = some (.map es clock)
 grown:w.grownBy w2 (some r)
 entry:(Instr.entry (.pointer (some ⟨r,0,none⟩))).run P w2 = .ok (.tuple #[e.key,e.val]) w2
section
variable {F:Fence} {n:Nat} {P:Program} {ops:Array Oper} {rest:List Oper} {o:Oper} {a:Act} {w:World} {Q:Exit→Act→World→Prop}
theorem Zfy (hg:o.guard=none) (it:Operand) (hop:o.op=Op.next it false) (r b clock c0:Nat) (seen:Array Nat) (es:Array MapEntry) (hit:a.eval it = .pointer (some ⟨r,0,none⟩))
  (hr:w.heap[r]? = some (.mapIter (some b) clock seen c0)) (hb:w.heap[b]? = some (.map es clock)) (hold:∀ x ∈ es.toList,x.born<clock) (hsc:clock≤c0) (hne:r≠b) (hnd:(es.toList.map (·.born)).Nodup)
  (hDone:Zqz es seen→wpListIn F n P ops Q rest (a.put o.dst (.tuple #[.bool false])) w)
  (hMore:∀ (e:MapEntry) (w2:World),Zra P w w2 r b clock seen es e→wpListIn F n P ops Q rest (a.put o.dst (.tuple #[.bool true,e.key,e.val])) w2) :
  wpListIn F n P ops Q (o :: rest) a w:=by
 refine wpListIn_plain hg fun K' hK'=>?_
 unfold Oper.wpIn
 refine ⟨by simp [Oper.about,hop],?_⟩
 rw [Oper.semAt_plain F _ _ (by rw [hop];intro c hc';cases hc')]
 rcases run_next_at (P:=P) w o.type r b clock c0 seen es clock hr hb hold hsc with ⟨h0,hrun⟩ | ⟨e,he,w1,hal,hrun⟩
 ·simp [execOp,hop,hit,hrun,Result.andThen]
  exact hK' _ _ (hDone h0)
 ·simp [execOp,hop,hit,hrun,Result.andThen]
  obtain ⟨h1,h2,h3⟩:=ZnZ (x:=e.born) hal hr hb hne
  exact hK' _ _ (hMore e _ ⟨he,h1,h2,h3,run_entry_at _ r b clock seen es clock e h1 h2 (mem_left he).1 hnd⟩)
end
theorem Zkv:∀ {es:List MapEntry} {seen:Array Nat} {e:MapEntry},(es.map (·.born)).Nodup→e ∈ es→seen.contains e.born=false→(es.filter fun x=>(seen.push e.born).contains x.born).Perm (e :: es.filter fun x=>seen.contains x.born)
 | [],_,_,_,h,_=>by cases h
 | x :: es,seen,e,hn,hm,hs=>by
  rw [YL,Ya2] at hn
  rcases Yo.1 hm with rfl | hm
  ·have hrest:(es.filter fun x=>(seen.push e.born).contains x.born)=es.filter fun x=>seen.contains x.born:=List.filter_congr fun y hy=>by
    rw [contains_push]
    have:(y.born == e.born)=false:=by
     simp
     intro h9
     exact hn.1 (h9 ▸ YC.2 ⟨y,hy,rfl⟩)
    rw [this,Bool.or_false]
   rw [Y9 (by rw [contains_push];simp),hrest,Yaa (by rw [hs];simp)]
  ·have ih:=Zkv hn.2 hm hs
   have hx:(x.born == e.born)=false:=by
    simp
    intro h9
    exact hn.1 (h9 ▸ YC.2 ⟨e,hm,rfl⟩)
   have hc:(seen.push e.born).contains x.born=seen.contains x.born:=by rw [contains_push,hx,Bool.or_false]
   cases hsx:seen.contains x.born with
   | true=>
    rw [Y9 (by rw [hc,hsx]),Y9 (by rw [hsx])]
    exact (ih.cons x).trans (List.Perm.swap e x _)
   | false=>
    rw [Yaa (by rw [hc,hsx];simp),Yaa (by rw [hsx];simp)]
    exact ih
theorem Zqw {es:Array MapEntry} {seen:Array Nat} (h:(leftOf es seen).size=0):(es.toList.filter fun x=>seen.contains x.born)=es.toList:=List.filter_eq_self.2 fun x hx=>all_seen es seen h x hx
theorem ZoG {es:List MapEntry} : (es.filter fun x=>(#[]:Array Nat).contains x.born) = []:=by
 rw [List.filter_eq_nil_iff];simp
theorem ZoN {es:Array MapEntry} : (leftOf es #[]).size=es.size:=by simp [leftOf]
end Go.Proofs.YtfecljadegkmdaaGreat
namespace Go.Proofs.YtfecljadegkmdaaGreat
open Go Go.Gm Tryz
set_option linter.unusedVariables false
set_option linter.unusedSimpArgs false
set_option maxHeartbeats 4000000
set_option maxRecDepth 8000
theorem Zj {x:Int} (h : -9223372036854775808≤x∧x≤9223372036854775807):IntKind.wrap .i64 x=x:=Zi8 ⟨by simp [IntKind.min,IntKind.signed,IntKind.bits];omega,by simp [IntKind.max,IntKind.signed,IntKind.bits];omega⟩
theorem Ze {i:Nat} (h:i<9223372036854775807):IntKind.wrap .i64 ((i:Int)+1)=((i+1:Nat):Int):=by rw [Zj ow];omega
theorem ZeL {x:Int} (h:0≤x∧x≤18446744073709551615):IntKind.wrap .u64 x=x:=Zi8 ⟨by simp [IntKind.min,IntKind.signed,IntKind.bits];omega,by simp [IntKind.max,IntKind.signed,IntKind.bits];omega⟩
theorem Sat.lenSl {α:Type} {R:α→List PV} {B:Zb4} {E:En} {a:Act} {w:World} {F:Fp} (h:Sat B E a w F) {i:Nat} {l:List α} (hl:Go.Gm.look E.s i=some (SF.pv (PV.sl R l))):l.length≤9223372036854775807:=by
 obtain ⟨_,cap,_,h1,h2,_⟩:=h.s i _ hl
 unfold maxLen at h2
 omega
def Zs (n:Int):List PV:=[.int .i64 n]
theorem ZaS {α:Type} [Inhabited α] {x y:List α} (hl:x.length=y.length) (h:∀ j,j<x.length→Nn x j=Nn y j):x=y:=by
 apply List.ext_getElem hl
 intro j h1 h2
 have:=h j h1
 rwa [Zy h1,Zy h2] at this
theorem Zhm {α:Type} [Inhabited α] {q:List α} {k:Nat} (h:k<q.length):q.take k ++ [Nn q k] = q.take (k+1):=by
 rw [Zy h,YaW h]
theorem ZU {α:Type} [Inhabited α] {q:List α} {k:Nat} (h:k<q.length):Nn q k ∈ q:=by rw [Zy h];exact Ybx h
theorem ZaX {α:Type} [Inhabited α] {l:List α} {i:Nat} (h:i<l.length):l.drop i=Nn l i :: l.drop (i+1):=by rw [Zy h];exact List.drop_eq_getElem_cons h
theorem ZQ {α:Type} [Inhabited α] {l:List α} {i:Nat} (h:i<l.length):l.take (i+1)=l.take i ++ [Nn l i]:=(Zhm h).symm
structure ZF where
 key:Int
 val:Int
 deriving DecidableEq,Inhabited
def ZC (p:ZF):List PV:=[.int .i64 p.key,.int .i64 p.val]
def ZaN (k v:Int):List ZF→Bool→List ZF
 | [],d=>if d then [] else [⟨k,v⟩]
 | p :: l,d=>(if d=false∧k≤p.key then [⟨k,v⟩] else [])++(if p.key=k then [] else [p])++ZaN k v l (d || decide (k≤p.key))
def putP (l:List ZF) (k v:Int):List ZF:=ZaN k v l false
def delP (l:List ZF) (k:Int):List ZF:=l.filter fun p=>!decide (p.key=k)
theorem ZkE {k v:Int} {l:List ZF} (h:∀ p ∈ l,k<p.key):ZaN k v l false = ⟨k,v⟩ :: l:=by
 have done:∀ l:List ZF,(∀ p ∈ l,k<p.key)→ZaN k v l true=l:=by
  intro l
  induction l with
  | nil=>intro _;rfl
  | cons p l ih=>
   intro h
   have:=h p (by simp)
   rw [ZaN,YbB,ih fun x hx=>h x (by simp [hx]),Yb (by simp),Yb ow]
   rfl
 cases l with
 | nil=>rfl
 | cons p l=>
  have h1:=h p (by simp)
  rw [ZaN,show (false || decide (k≤p.key))=true by simp;omega,done l fun x hx=>h x (by simp [hx])]
  rw [Yf ⟨rfl,by omega⟩,Yb ow]
  rfl
theorem Zhv (k v:Int):∀ (l:List ZF) (d:Bool),(ZaN k v l d).length≤l.length+(if d then 0 else 1)
 | [],d=>by cases d <;> simp [ZaN]
 | p :: l,d=>by
  have h1:(ZaN k v l true).length≤l.length:=by simpa using Zhv k v l true
  have h2:(ZaN k v l false).length≤l.length+1:=by simpa using Zhv k v l false
  rw [ZaN,Yc,Yc,Yl]
  cases d <;> by_cases hx:k≤p.key <;> by_cases h3:p.key=k <;> simp [hx,h3] <;> omega
theorem Zl1 (l:List ZF) (k v:Int):(putP l k v).length≤l.length+1:=by have h:=Zhv k v l false;unfold putP;simpa using h
section
variable {out t T:List ZF} {k x:Int} {e:ZF} {d:Bool}
end
inductive Zae where
 | nil:Zae
 | node:Zae→ZF→Zae→Zae
 deriving Inhabited
def ZD:Zae→Int
 | .nil=>0
 | .node l _ r=>ZD l+ZD r+1
def Zm:Zae→Int
 | .nil=>0
 | .node l _ r=>max (Zm l) (Zm r)+1
def tList:Zae→List ZF
 | .nil=>[]
 | .node l p r=>tList l++p :: tList r
def Bal:Zae→Prop
 | .nil=>True
 | .node l _ r=>Bal l∧Bal r∧Zm l≤Zm r+1∧Zm r≤Zm l+1
theorem Zac:∀ t,0≤Zm t
 | .nil=>Yar _
 | .node l _ r=>by have:=Zac l;have:=Zac r;unfold Zm;omega
theorem ZP:∀ t,0≤ZD t
 | .nil=>Yar _
 | .node l _ r=>by have:=ZP l;have:=ZP r;unfold ZD;omega
theorem Zd1:∀ t,Zm t≤ZD t
 | .nil=>Yar _
 | .node l _ r=>by have:=Zd1 l;have:=Zd1 r;have:=ZP l;have:=ZP r;unfold Zm ZD;omega
theorem ZS:∀ t,ZD t=((tList t).length:Int)
 | .nil=>rfl
 | .node l _ r=>by have:=ZS l;have:=ZS r;simp only [ZD,tList,Yc,Yl];omega
def Zbh (l:Zae) (p:ZF) (r:Zae):Zae:=
 if Zm r+1<Zm l then
  match l with
  | .node ll lp lr=>if Zm lr≤Zm ll then .node ll lp (.node lr p r) else
   match lr with
   | .node a z b=>.node (.node ll lp a) z (.node b p r)
   | .nil=>.node (.node ll lp .nil) p r
  | .nil=>.node .nil p r
 else if Zm l+1<Zm r then
  match r with
  | .node rl rp rr=>if Zm rl≤Zm rr then .node (.node l p rl) rp rr else
   match rl with
   | .node a z b=>.node (.node l p a) z (.node b rp rr)
   | .nil=>.node l p (.node .nil rp rr)
  | .nil=>.node l p .nil
 else .node l p r
theorem ZbO (l:Zae) (p:ZF) (r:Zae):tList (Zbh l p r)=tList l++p :: tList r:=by
 unfold Zbh
 split
 ·split
  ·split
   ·simp [tList]
   ·split <;> simp [tList]
  ·simp [tList]
 ·split
  ·split
   ·split
    ·simp [tList]
    ·split <;> simp [tList]
   ·simp [tList]
  ·simp [tList]
theorem ZeN {l r:Zae} (p:ZF) (hl:Bal l) (hr:Bal r) (h1:Zm l≤Zm r+2) (h2:Zm r≤Zm l+2):Bal (Zbh l p r)∧max (Zm l) (Zm r)≤Zm (Zbh l p r)∧Zm (Zbh l p r)≤max (Zm l) (Zm r)+1:=by
 unfold Zbh
 split
 ·rename_i hh
  match l,hl with
  | .nil,hl=>simp [Zm] at hh;have:=Zac r;omega
  | .node ll lp lr,hl=>
   obtain ⟨b1,b2,b3,b4⟩:=hl
   have e:Zm (.node ll lp lr)=max (Zm ll) (Zm lr)+1:=rfl
   simp only
   split
   ·rename_i h3
    have g1:Zm (.node lr p r)=max (Zm lr) (Zm r)+1:=rfl
    have g2:Zm (.node ll lp (.node lr p r))=max (Zm ll) (Zm (.node lr p r))+1:=rfl
    refine ⟨⟨b1,⟨b2,hr,by omega,by omega⟩,by omega,by omega⟩,by omega,by omega⟩
   ·rename_i h3
    match lr,b2 with
    | .nil,b2=>simp [Zm] at h3;have:=Zac ll;omega
    | .node a z b,b2=>
     obtain ⟨c1,c2,c3,c4⟩:=b2
     have e2:Zm (.node a z b)=max (Zm a) (Zm b)+1:=rfl
     have g1:Zm (.node ll lp a)=max (Zm ll) (Zm a)+1:=rfl
     have g2:Zm (.node b p r)=max (Zm b) (Zm r)+1:=rfl
     have g3:Zm (.node (.node ll lp a) z (.node b p r))=max (Zm (.node ll lp a)) (Zm (.node b p r))+1:=rfl
     show Bal (.node (.node ll lp a) z (.node b p r))∧_≤Zm (.node (.node ll lp a) z (.node b p r))∧Zm (.node (.node ll lp a) z (.node b p r))≤_
     refine ⟨⟨⟨b1,c1,by omega,by omega⟩,⟨c2,hr,by omega,by omega⟩,by omega,by omega⟩,by omega,by omega⟩
 ·rename_i hn
  split
  ·rename_i hh
   match r,hr with
   | .nil,hr=>simp [Zm] at hh;have:=Zac l;omega
   | .node rl rp rr,hr=>
    obtain ⟨b1,b2,b3,b4⟩:=hr
    have e:Zm (.node rl rp rr)=max (Zm rl) (Zm rr)+1:=rfl
    simp only
    split
    ·rename_i h3
     have g1:Zm (.node l p rl)=max (Zm l) (Zm rl)+1:=rfl
     have g2:Zm (.node (.node l p rl) rp rr)=max (Zm (.node l p rl)) (Zm rr)+1:=rfl
     refine ⟨⟨⟨hl,b1,by omega,by omega⟩,b2,by omega,by omega⟩,by omega,by omega⟩
    ·rename_i h3
     match rl,b1 with
     | .nil,b1=>simp [Zm] at h3;have:=Zac rr;omega
     | .node a z b,b1=>
      obtain ⟨c1,c2,c3,c4⟩:=b1
      have e2:Zm (.node a z b)=max (Zm a) (Zm b)+1:=rfl
      have g1:Zm (.node l p a)=max (Zm l) (Zm a)+1:=rfl
      have g2:Zm (.node b rp rr)=max (Zm b) (Zm rr)+1:=rfl
      have g3:Zm (.node (.node l p a) z (.node b rp rr))=max (Zm (.node l p a)) (Zm (.node b rp rr))+1:=rfl
      show Bal (.node (.node l p a) z (.node b rp rr))∧_≤Zm (.node (.node l p a) z (.node b rp rr))∧Zm (.node (.node l p a) z (.node b rp rr))≤_
      refine ⟨⟨⟨hl,c1,by omega,by omega⟩,⟨c2,b2,by omega,by omega⟩,by omega,by omega⟩,by omega,by omega⟩
  ·have g:Zm (.node l p r)=max (Zm l) (Zm r)+1:=rfl
   exact ⟨⟨hl,hr,by omega,by omega⟩,by omega,by omega⟩
theorem ZcZ (l:Zae) (p:ZF) (r:Zae):ZD (Zbh l p r)=ZD l+ZD r+1:=by
 rw [ZS,ZbO,ZS,ZS]
 simp only [Yc,Yl]
 omega
theorem Zlz:∀ {t:Zae},Bal t→(2:Int) ^ (Zm t).toNat≤(ZD t+1)*(ZD t+1)
 | .nil,_=>by decide
 | .node l p r,h=>by
  obtain ⟨h1,h2,h3,h4⟩:=h
  have il:=Zlz h1
  have ir:=Zlz h2
  have nl:=Zac l
  have nr:=Zac r
  have sl:=ZP l
  have sr:=ZP r
  have e1:Zm (.node l p r)=max (Zm l) (Zm r)+1:=rfl
  have e2:ZD (.node l p r)=ZD l+ZD r+1:=rfl
  have mul:∀ a b:Int,0≤a→0≤b→2 ^ (min (Zm l) (Zm r)).toNat≤(a+1)*(a+1)→2 ^ (min (Zm l) (Zm r)).toNat≤(b+1)*(b+1)→(2:Int) ^ (min (Zm l) (Zm r)+2).toNat≤(a+b+1+1)*(a+b+1+1):=by
   intro a b ha hb h5 h6
   have e:(min (Zm l) (Zm r)+2).toNat=(min (Zm l) (Zm r)).toNat+2:=by omega
   rw [e,Int.pow_add]
   generalize (2:Int) ^ (min (Zm l) (Zm r)).toNat=w at h5 h6 ⊢
   have h7:(2:Int) ^ 2=4:=rfl
   rw [h7]
   have k1:∀ x y:Int,(x+y)*(x+y)=x*x+2*(y*x)+y*y:=fun x y=>by
    rw [Int.add_mul,Int.mul_add,Int.mul_add,Int.mul_comm x y];omega
   rw [show a+b+1+1=(a+1)+(b+1) by omega,k1]
   rcases Int.le_total a b with hab | hab
   ·have:(a+1)*(a+1)≤(b+1)*(a+1):=Int.mul_le_mul_of_nonneg_right ow ow
    omega
   ·have:(b+1)*(b+1)≤(b+1)*(a+1):=Int.mul_le_mul_of_nonneg_left ow ow
    omega
  have pm:∀ x y:Int,0≤x→x≤y→(2:Int) ^ x.toNat≤2 ^ y.toNat:=fun x y hx hxy=>by
   have:=Nat.pow_le_pow_right (n:=2) (by decide) (show x.toNat≤y.toNat by omega)
   exact_mod_cast this
  have h5:=mul (ZD l) (ZD r) sl sr (YbI (pm _ _ ow ow) il) (YbI (pm _ _ ow ow) ir)
  rw [e1,e2]
  exact YbI (pm _ _ ow ow) h5
theorem ZnD {t:Zae} (h:Bal t) (hs:ZD t≤1000000):Zm t≤40:=by
 apply Classical.byContradiction
 intro hn
 have h1:=Zlz h
 have sn:=ZP t
 have h2:(2:Int) ^ 41≤2 ^ (Zm t).toNat:=by
  have:=Nat.pow_le_pow_right (n:=2) (by decide) (show 41≤(Zm t).toNat by omega)
  exact_mod_cast this
 have h3:(ZD t+1)*(ZD t+1)≤1000001*1000001:=Int.mul_le_mul ow ow ow ow
 have h4:(2:Int) ^ 41=2199023255552:=by decide
 omega
def putT (p:ZF):Zae→Zae
 | .nil=>.node .nil p .nil
 | .node l x r=>if p.key<x.key then Zbh (putT p l) x r else if x.key<p.key then Zbh l x (putT p r) else .node l p r
theorem Zjm (p:ZF):∀ {t:Zae},Bal t→Bal (putT p t)∧Zm t≤Zm (putT p t)∧Zm (putT p t)≤Zm t+1
 | .nil,_=>⟨⟨tv,tv,by show (0:Int)≤0+1;omega,by show (0:Int)≤0+1;omega⟩,by show (0:Int)≤max 0 0+1;omega,by show max (0:Int) 0+1≤0+1;omega⟩
 | .node l x r,h=>by
  obtain ⟨h1,h2,h3,h4⟩:=h
  have il:=Zjm p h1
  have ir:=Zjm p h2
  have e1:Zm (.node l x r)=max (Zm l) (Zm r)+1:=rfl
  unfold putT
  split
  ·have:=ZeN x il.1 h2 ow ow
   refine ⟨this.1,?_,by omega⟩
   by_cases e:Zm (putT p l)=Zm l
   ·have:Zbh (putT p l) x r = .node (putT p l) x r:=by unfold Zbh;rw [Yb ow,Yb ow]
    rw [this]
    have:Zm (.node (putT p l) x r)=max (Zm (putT p l)) (Zm r)+1:=rfl
    omega
   ·by_cases e2:Zm r+1<Zm (putT p l)
    ·omega
    ·have:Zbh (putT p l) x r = .node (putT p l) x r:=by unfold Zbh;rw [Yb ow,Yb ow]
     rw [this]
     have:Zm (.node (putT p l) x r)=max (Zm (putT p l)) (Zm r)+1:=rfl
     omega
  ·split
   ·have:=ZeN x h1 ir.1 ow ow
    refine ⟨this.1,?_,by omega⟩
    by_cases e2:Zm l+1<Zm (putT p r)
    ·omega
    ·have:Zbh l x (putT p r) = .node l x (putT p r):=by unfold Zbh;rw [Yb ow,Yb ow]
     rw [this]
     have:Zm (.node l x (putT p r))=max (Zm l) (Zm (putT p r))+1:=rfl
     omega
   ·exact ⟨⟨h1,h2,h3,h4⟩,by show _≤max (Zm l) (Zm r)+1;omega,by show max (Zm l) (Zm r)+1≤_;omega⟩
def Inc (l:List ZF):Prop:=l.Pairwise fun a b=>a.key<b.key
theorem Zbt {k v:Int} : ∀ {l m:List ZF},(∀ p ∈ l,p.key<k)→ZaN k v (l++m) false=l++ZaN k v m false
 | [],m,_=>rfl
 | p :: l,m,h=>by
  have h1:=h p (by simp)
  rw [Y0,ZaN,Yb ow,Yb ow,show (false || decide (k≤p.key))=false by simp;omega,Zbt fun x hx=>h x (by simp [hx])]
  rfl
theorem ZdL {k v:Int} {m:List ZF} (hm:∀ p ∈ m,k<p.key):∀ (l:List ZF) (d:Bool),(∃ p ∈ l,k≤p.key)∨d=true→ZaN k v (l++m) d=ZaN k v l d++m
 | [],d,h=>by
  rcases h with ⟨p,hp,_⟩ | rfl
  ·cases hp
  ·rw [Yal]
   have:∀ m:List ZF,(∀ p ∈ m,k<p.key)→ZaN k v m true=m:=by
    intro m
    induction m with
    | nil=>intro _;rfl
    | cons p m ih=>
     intro h
     have:=h p (by simp)
     rw [ZaN,YbB,ih fun x hx=>h x (by simp [hx]),Yb (by simp),Yb ow]
     rfl
   rw [this m hm]
   simp [ZaN]
 | p :: l,d,h=>by
  rw [Y0,ZaN,ZaN,ZdL hm l (d || decide (k≤p.key)) (by
   by_cases hp:k≤p.key
   ·exact .inr (by simp [hp])
   ·rcases h with ⟨q,hq,hk⟩ | rfl
    ·rcases Yo.1 hq with rfl | hq
     ·exact absurd hk hp
     ·exact .inl ⟨q,hq,hk⟩
    ·exact .inr rfl)]
  simp [Yp]
theorem Zno {k v:Int} : ∀ (l:List ZF),(∀ p ∈ l,p.key<k)→ZaN k v l false=l ++ [⟨k,v⟩]:=by
 intro l h
 have:=Zbt (k:=k) (v:=v) (l:=l) (m:=[]) h
 rw [YF] at this
 rw [this];rfl
theorem Inc.parts {l r:List ZF} {x:ZF} (h:Inc (l++x :: r)):Inc l∧Inc r∧(∀ p ∈ l,p.key<x.key)∧(∀ p ∈ r,x.key<p.key):=by
 unfold Inc at *
 rw [Yac,Yx] at h
 exact ⟨h.1,h.2.1.2,fun p hp=>h.2.2 p hp x (by simp),fun p hp=>h.2.1.1 p hp⟩
theorem Zff (p:ZF):∀ {t:Zae},Inc (tList t)→tList (putT p t)=putP (tList t) p.key p.val
 | .nil,_=>rfl
 | .node l x r,h=>by
  obtain ⟨h1,h2,h3,h4⟩:=Inc.parts h
  have il:=Zff p h1
  have ir:=Zff p h2
  unfold putT
  unfold putP at *
  show _=ZaN p.key p.val (tList l++x :: tList r) false
  split
  ·rename_i hk
   rw [ZbO,il]
   by_cases hex:∃ q ∈ tList l,p.key≤q.key
   ·rw [ZdL (fun q hq=>by
     rcases Yo.1 hq with rfl | hq
     ·exact hk
     ·have:=h4 q hq;omega) _ _ (.inl hex)]
   ·have hlt:∀ q ∈ tList l,q.key<p.key:=fun q hq=>by
     apply Classical.byContradiction
     intro hn
     exact hex ⟨q,hq,by omega⟩
    rw [Zbt hlt,Zno _ hlt,ZkE fun q hq=>by
     rcases Yo.1 hq with rfl | hq
     ·exact hk
     ·have:=h4 q hq;omega]
    simp
  ·split
   ·rename_i hk1 hk
    rw [ZbO,ir,Zbt fun q hq=>by have:=h3 q hq;omega,ZaN,Yb ow,Yb ow,show (false || decide (p.key≤x.key))=false by simp;omega]
    rfl
   ·rename_i hk1 hk2
    have e:x.key=p.key:=by omega
    rw [Zbt fun q hq=>by have:=h3 q hq;omega,ZaN,Yf ⟨rfl,by omega⟩,Yf e,show (false || decide (p.key≤x.key))=true by simp;omega]
    have:=ZdL (k:=p.key) (v:=p.val) (m:=tList r) (fun q hq=>by have:=h4 q hq;omega) [] true (.inr rfl)
    rw [Yal] at this
    rw [this]
    simp [tList,ZaN]
structure Cell where
 left:Int
 right:Int
 key:Int
 val:Int
 size:Int
 high:Int
 deriving DecidableEq,Inhabited
def Z4 (c:Cell):List PV:=[.int .i64 c.left,.int .i64 c.right,.int .i64 c.key,.int .i64 c.val,.int .i64 c.size,.int .i64 c.high]
def Zrv (c:Cell):List PV:=[.int .u32 c.left,.int .u32 c.right]
def Ztu (c:Cell):List PV:=[.int .i64 c.key,.int .i64 c.val,.int .i64 c.size,.int .i64 c.high]
def Zb8 (n:Int):Int:=if n<0 then 0 else if n > 65536 then 65536 else n
def Znp (v wv lv:Value) (room:Int) (q:List Cell):List RS:=
 [.pt (.val v) 170 [.pv (.int .i64 room),.pv (.is wv),.pv (.is lv)],.ob (.val wv) (ZO 288 2 Zrv q),.ob (.val lv) (ZO 290 4 Ztu q)]
structure Zrf (room:Int) (q:List Cell):Prop where
 lo:0≤room
 hi:room≤65536
 le:(q.length:Int)≤room
 ok:∀ i,i<q.length→0≤(Nn q i).left∧(Nn q i).left≤i∧0≤(Nn q i).right∧(Nn q i).right≤i
def ZaV (v:Value) (room:Int) (q:List Cell):HP:=.ex fun wv=>.ex fun lv=>.and (Zrf room q) (.star (Znp v wv lv room q))
def ZnS (q:List Cell) (i:Int):Cell×Bool:=if 1≤i∧i≤q.length then (Nn q (i - 1).toNat,true) else (default,false)
def Zt9 (q:List Cell) (i:Int):PV:=.tup [.agg (Z4 (ZnS q i).1),.bool (ZnS q i).2]
theorem Zmc {x:Int} (h:0≤x∧x≤65536):IntKind.wrap .u32 x=x:=Zi8 ⟨by simp [IntKind.min,IntKind.signed,IntKind.bits];omega,by simp [IntKind.max,IntKind.signed,IntKind.bits];omega⟩
theorem ZiY (b:Nat) (room:Int) (q:List Cell):FnG prog 182 1 [.is (.pointer (some ⟨b,0,none⟩))] [ZaV (.pointer (some ⟨b,0,none⟩)) room q] (.int .i64 q.length) (fun _=>[ZaV (.pointer (some ⟨b,0,none⟩)) room q]):=by
 refine FnG.mk func182 Z ntmps182 Z kr fun B F0 a w F V hG O=>?_
 obtain ⟨wv,O⟩:=O.open_ex 1 rfl
 obtain ⟨lv,O⟩:=O.open_ex 1 rfl
 obtain ⟨hI,O⟩:=O.open_and 1 rfl
 obtain ⟨F,O⟩:=O.peel 1 2 Z rfl
 obtain ⟨F,O⟩:=O.peel 1 3 Z rfl
 obtain ⟨F,O⟩:=O.peel 1 4 Z rfl
 obtain ⟨F,O⟩:=O.norm [(0,_)] [(0,_),(2,_),(3,_),(4,_)] ⟨rfl,tv⟩ ⟨rfl,rfl,rfl,rfl,tv⟩
 refine Ya ?_
 refine Zz O kr
   (cF rfl (ZM (.ci kr) (by rfl)) trivial trivial
   Zq.nil)
   kr (by rw [V];kernel_rfl) ?_
 clear O;intro a w F O
 obtain ⟨F,O⟩:=O.norm [(0,_),(2,_)] [(0,_),(2,_),(3,_),(4,_)] r2 r4
 refine Za (Ya (Ya ?_))
 refine Zz O kr
   (cF rfl (ZI .t (by rfl)) r1 trivial
   (cF rfl (Zab _ Yb1 rfl .t) r1 trivial
   Zq.nil))
   kr (by rw [V];kernel_rfl) ?_
 clear O;intro a w F O
 obtain ⟨F,O⟩:=O.norm [(0,_),(2,_),(4,_)] [(0,_),(2,_),(3,_),(4,_)] r3 r4
 refine Za (Zc O Z (fun hc0=>?_) (fun hc0=>?_))
 ·simp at hc0
 refine Yd (Za (Ya ?_))
 refine Zz O kr
   (cF rfl (ZI .t (by rfl)) r1 trivial
   (cF rfl (o_nilCheck 2 .is (by rfl)) r1 r1
   (cF rfl (ZA (off:=1) 2 .adr kr (by rfl)) r1 r1
   (cF rfl (Zaq (ag:=false) (sz:=1) 2 .adr kr kr kr (by rfl)) r1 r1
   (cF rfl (Zap 3 Yb2 .is) r1 r1
   (cF rfl (ZM .t (by rfl)) r1 trivial
   Zq.nil))))))
   kr (by rw [V];kernel_rfl) ?_
 clear O;intro a w F O
 obtain ⟨F,O⟩:=O.norm [(2,_)] [(0,_),(2,_),(3,_),(4,_)] r1 r4
 try dsimp only [List.map,List.drop_succ_cons,List.drop_zero,List.drop_nil,List.take_succ_cons,List.take_zero,List.take_nil,ldSF] at O
 refine Za (Yh ?_)
 have O:=O.fresh 1 rfl
 obtain ⟨F,O⟩:=O.push 1 4 Z Z Z kr
 obtain ⟨F,O⟩:=O.push 1 3 Z Z Z kr
 obtain ⟨F,O⟩:=O.push 1 2 Z Z Z kr
 have O:=O.turn 1 Z (r':=RS.hp (ZaV (.pointer (some ⟨b,0,none⟩)) room q)) (fun _ _ _ _ h=>⟨_,_,hI,h⟩)
 refine ZE hG O Z (.tmp Z .nil) (.one .refl) rfl
theorem ZeE  : FnP prog 182 [.is (.pointer none)] (.int .i64 0):=by
 refine FnP.mk func182 Z ntmps182 Z fun B a w F V hfr O=>Ya ?_
 refine Zz O kr
   (cF rfl (ZM (.ci kr) (by rfl)) trivial trivial
   Zq.nil)
   kr (by rw [V];kernel_rfl) ?_
 clear O;intro a w F O
 obtain ⟨F,O⟩:=O.norm [(0,_),(2,_)] [(0,_)] r2 r1
 refine Za (Ya (Ya ?_))
 refine Zz O kr
   (cF rfl (ZI .t (by rfl)) r1 trivial
   (cF rfl (Zab _ Yb1 rfl .t) r1 trivial
   Zq.nil))
   kr (by rw [V];kernel_rfl) ?_
 clear O;intro a w F O
 obtain ⟨F,O⟩:=O.norm [(0,_),(2,_),(4,_)] [(0,_)] r3 r1
 refine Za (Zc O Z (fun hc0=>?_) (fun hc0=>?_))
 ·refine Ya ?_
  refine Zz O kr
    (cF rfl (ZM (.ci kr) (by rfl)) trivial trivial
    Zq.nil)
    kr (by rw [V];kernel_rfl) ?_
  clear O;intro a w F O
  obtain ⟨F,O⟩:=O.norm [(0,_),(2,_)] [(0,_)] r2 r1
  refine Za (Yh (Zf (Z3 hfr O Z (.tmp Z .nil) (.one .refl))))
 simp at hc0
theorem ZlN (b:Nat) (room:Int) (q:List Cell):FnG prog 120 1 [.is (.pointer (some ⟨b,0,none⟩))] [ZaV (.pointer (some ⟨b,0,none⟩)) room q] (.int .i64 (room - q.length)) (fun _=>[ZaV (.pointer (some ⟨b,0,none⟩)) room q]):=by
 refine FnG.mk func120 Z ntmps120 Z kr fun B F0 a w F V hG O=>?_
 obtain ⟨wv,O⟩:=O.open_ex 1 rfl
 obtain ⟨lv,O⟩:=O.open_ex 1 rfl
 obtain ⟨hI,O⟩:=O.open_and 1 rfl
 obtain ⟨F,O⟩:=O.peel 1 2 Z rfl
 obtain ⟨F,O⟩:=O.peel 1 3 Z rfl
 obtain ⟨F,O⟩:=O.peel 1 4 Z rfl
 obtain ⟨F,O⟩:=O.norm [(0,_)] [(0,_),(2,_),(3,_),(4,_)] ⟨rfl,tv⟩ ⟨rfl,rfl,rfl,rfl,tv⟩
 refine Ya ?_
 refine Zz O kr
   (cF rfl (ZM (.ci kr) (by rfl)) trivial trivial
   Zq.nil)
   kr (by rw [V];kernel_rfl) ?_
 clear O;intro a w F O
 obtain ⟨F,O⟩:=O.norm [(0,_),(2,_)] [(0,_),(2,_),(3,_),(4,_)] r2 r4
 refine Za (Ya (Ya ?_))
 refine Zz O kr
   (cF rfl (ZI .t (by rfl)) r1 trivial
   (cF rfl (Zab _ Yb1 rfl .t) r1 trivial
   Zq.nil))
   kr (by rw [V];kernel_rfl) ?_
 clear O;intro a w F O
 obtain ⟨F,O⟩:=O.norm [(0,_),(2,_),(4,_)] [(0,_),(2,_),(3,_),(4,_)] r3 r4
 refine Za (Zc O Z (fun hc0=>?_) (fun hc0=>?_))
 ·simp at hc0
 refine Yd (Za (Ya ?_))
 refine Zci kr O kr
   (cF rfl (ZI .t (by rfl)) r1 trivial
   (cF rfl (o_nilCheck 2 .is (by rfl)) r1 r1
   (cF rfl (ZA (off:=0) 2 .adr kr (by rfl)) r1 r1
   (cF rfl (Zaq (ag:=false) (sz:=1) 2 .adr kr kr kr (by rfl)) r1 r1
   (cF rfl (ZI .t (by rfl)) r1 trivial
   (cF rfl (o_nilCheck 2 .is (by rfl)) r1 r1
   (cF rfl (ZA (off:=1) 2 .adr kr (by rfl)) r1 r1
   (cF rfl (Zaq (ag:=false) (sz:=1) 2 .adr kr kr kr (by rfl)) r1 r1
   (cF rfl (Zap 3 Yb2 .is) r1 r1
   (cF rfl (o_sub .t .t) r2 trivial
   (cF rfl (ZM .t (by rfl)) r1 trivial
   Zq.nil)))))))))))
   kr (by rw [V];kernel_rfl) ?_
 clear O;intro a w F O
 obtain ⟨F,O⟩:=O.norm [(2,_)] [(0,_),(2,_),(3,_),(4,_)] r1 r4
 try dsimp only [List.map,List.drop_succ_cons,List.drop_zero,List.drop_nil,List.take_succ_cons,List.take_zero,List.take_nil,ldSF] at O
 refine Za (Yh ?_)
 have O:=O.fresh 1 rfl
 obtain ⟨F,O⟩:=O.push 1 4 Z Z Z kr
 obtain ⟨F,O⟩:=O.push 1 3 Z Z Z kr
 obtain ⟨F,O⟩:=O.push 1 2 Z Z Z kr
 have O:=O.turn 1 Z (r':=RS.hp (ZaV (.pointer (some ⟨b,0,none⟩)) room q)) (fun _ _ _ _ h=>⟨_,_,hI,h⟩)
 refine ZE hG O Z (.tmp Z .nil) (.one (.int (Zj (by have:=hI.lo;have:=hI.hi;have:=hI.le;omega)))) rfl
theorem ZnC  : FnP prog 120 [.is (.pointer none)] (.int .i64 0):=by
 refine FnP.mk func120 Z ntmps120 Z fun B a w F V hfr O=>Ya ?_
 refine Zz O kr
   (cF rfl (ZM (.ci kr) (by rfl)) trivial trivial
   Zq.nil)
   kr (by rw [V];kernel_rfl) ?_
 clear O;intro a w F O
 obtain ⟨F,O⟩:=O.norm [(0,_),(2,_)] [(0,_)] r2 r1
 refine Za (Ya (Ya ?_))
 refine Zz O kr
   (cF rfl (ZI .t (by rfl)) r1 trivial
   (cF rfl (Zab _ Yb1 rfl .t) r1 trivial
   Zq.nil))
   kr (by rw [V];kernel_rfl) ?_
 clear O;intro a w F O
 obtain ⟨F,O⟩:=O.norm [(0,_),(2,_),(4,_)] [(0,_)] r3 r1
 refine Za (Zc O Z (fun hc0=>?_) (fun hc0=>?_))
 ·refine Ya ?_
  refine Zz O kr
    (cF rfl (ZM (.ci kr) (by rfl)) trivial trivial
    Zq.nil)
    kr (by rw [V];kernel_rfl) ?_
  clear O;intro a w F O
  obtain ⟨F,O⟩:=O.norm [(0,_),(2,_)] [(0,_)] r2 r1
  refine Za (Yh (Zf (Z3 hfr O Z (.tmp Z .nil) (.one .refl))))
 simp at hc0
theorem ZsO (b:Nat) (room:Int) (q:List Cell) (i:Int):FnG prog 174 1 [.is (.pointer (some ⟨b,0,none⟩)),.int .i64 i] [ZaV (.pointer (some ⟨b,0,none⟩)) room q] (Zt9 q i) (fun _=>[ZaV (.pointer (some ⟨b,0,none⟩)) room q]):=by
 refine FnG.mk func174 Z ntmps174 Z kr fun B F0 a w F V hG O=>Ya ?_
 refine Zz O kr
   (cF rfl (ZgB (zs:=[.int .i64 0,.int .i64 0,.int .i64 0,.int .i64 0,.int .i64 0,.int .i64 0]) 101 kr) trivial trivial
   (cF rfl (ZM .cb (by rfl)) trivial trivial
   Zq.nil))
   kr (by rw [V];kernel_rfl) ?_
 clear O;intro a w F O
 replace O:=O.sub
 obtain ⟨F,O⟩:=O.norm [(0,_),(1,_),(4,_),(5,_)] [(0,_),(1,_),(101,_)] r4 r3
 try dsimp only [RS.sub,SF.sub,CF.sub,csub,Anc.sub,List.map,zCF] at O
 generalize Act.tau a 4=v4 at O
 refine Za (Ya (Ya ?_))
 refine Zz O kr
   (cF rfl (ZI .t (by rfl)) r1 trivial
   (cF rfl (ZaR .t (.ci kr)) r1 trivial
   (cF rfl (ZI .t (by rfl)) r1 trivial
   (Zq.cons (Zaj.cond rfl rfl (fun h=>ZI .t (by rfl))) r2 trivial
   (Zq.cons (Zaj.cond rfl rfl (fun h=>ZI .t (by rfl))) r2 trivial
   (Zq.cons (Zaj.condR rfl rfl (by rfl) (fun h=>o_callG1 1 (ZiY b room q) func182 rfl kr (Args.one (.w h)))) r2 r1
   (Zq.cons (Zaj.cond rfl rfl (fun h=>Zal (.w h) (.w h))) r3 trivial
   (cF rfl (ZaM .t .t) r2 trivial
   Zq.nil))))))))
   kr (by rw [V];kernel_rfl) ?_
 clear O;intro a w F O
 obtain ⟨F,O⟩:=O.norm [(0,_),(1,_),(4,_),(5,_),(15,_)] [(0,_),(1,_),(101,_)] r5 r3
 refine Za (Zc O Z (fun hc0=>?_) (fun hc0=>?_))
 ·have hg:ZnS q i=(default,false):=by unfold ZnS;rw [Yb];simp at hc0;omega
  refine Ya ?_
  refine Zz O kr
    (cF rfl (Zc9 (r:=[]) (zs:=[.int .i64 0,.int .i64 0,.int .i64 0,.int .i64 0,.int .i64 0,.int .i64 0]) (pl:=[(0,1),(1,1),(2,1),(3,1),(4,1),(5,1)]) kr kr .nil (by rfl)) trivial trivial
    (cF rfl (ZcD (sz:=6) 101 .is .t kr kr kr) r2 r1
    (cF rfl (ZM .cb (by rfl)) trivial trivial
    Zq.nil)))
    kr (by rw [V];kernel_rfl) ?_
  clear O;intro a w F O
  obtain ⟨F,O⟩:=O.norm [(0,_),(1,_),(4,_),(5,_)] [(0,_),(1,_),(101,_)] r4 r3
  try dsimp only [List.map,Zd,List.length_cons,List.length_nil,Nat.reduceAdd,List.drop_succ_cons,List.drop_zero,List.drop_nil,List.take_succ_cons,List.take_zero,List.take_nil,List.cons_append,List.nil_append,zCF] at O
  refine Za (Yh (Zf (ZE hG O Z (.cell (n:=101) (ag:=true) (sz:=6) Z .is Z kr kr kr (.tmp Z .nil)) (.two (.aggU Z (by rw [hg];rfl)) (.bool (by rw [hg]))) Z)))
 obtain ⟨wv,O⟩:=O.open_ex 1 rfl
 obtain ⟨lv,O⟩:=O.open_ex 1 rfl
 obtain ⟨hI,O⟩:=O.open_and 1 rfl
 obtain ⟨F,O⟩:=O.peel 1 2 Z rfl
 obtain ⟨F,O⟩:=O.peel 1 3 Z rfl
 obtain ⟨F,O⟩:=O.peel 1 4 Z rfl
 have hb:1≤i∧i≤q.length:=by simp at hc0;omega
 have hg:ZnS q i=(Nn q (i - 1).toNat,true):=by unfold ZnS;rw [Yf hb]
 have hl:=hI.hi
 have hm:=hI.le
 have he:IntKind.wrap .i64 (i - 1)=i - 1:=Zj ow
 have h0:0≤IntKind.wrap .i64 (i - 1):=by omega
 have h1:IntKind.wrap .i64 (i - 1)<q.length:=by omega
 have h2:(IntKind.wrap .i64 (i - 1)).toNat<q.length:=by omega
 have ho:=hI.ok _ (show (i - 1).toNat<q.length by omega)
 have hw1:IntKind.wrap .i64 (Nn q (IntKind.wrap .i64 (i - 1)).toNat).left=(Nn q (i - 1).toNat).left:=by rw [he];exact Zj ow
 have hw2:IntKind.wrap .i64 (Nn q (IntKind.wrap .i64 (i - 1)).toNat).right=(Nn q (i - 1).toNat).right:=by rw [he];exact Zj ow
 have hcell:Z4 ⟨IntKind.wrap .i64 (Nn q (IntKind.wrap .i64 (i - 1)).toNat).left,IntKind.wrap .i64 (Nn q (IntKind.wrap .i64 (i - 1)).toNat).right,(Nn q (IntKind.wrap .i64 (i - 1)).toNat).key,(Nn q (IntKind.wrap .i64 (i - 1)).toNat).val,(Nn q (IntKind.wrap .i64 (i - 1)).toNat).size,(Nn q (IntKind.wrap .i64 (i - 1)).toNat).high⟩ = Z4 (Nn q (i - 1).toNat):=by rw [hw1,hw2,he]
 obtain ⟨F,O⟩:=O.norm [(0,_),(1,_),(4,_),(5,_),(15,_)] [(0,_),(2,_),(3,_),(4,_),(101,_)] r5 r5
 refine Yd (Za (Ya ?_))
 refine Zci kr O kr
   (cF rfl (ZI .t (by rfl)) r1 trivial
   (cF rfl (o_nilCheck 2 .is (by rfl)) r1 r1
   (cF rfl (ZA (off:=1) 2 .adr kr (by rfl)) r1 r1
   (cF rfl (Zaq (ag:=false) (sz:=1) 2 .adr kr kr kr (by rfl)) r1 r1
   (cF rfl (ZI .t (by rfl)) r1 trivial
   (cF rfl (o_sub .t (.ci kr)) r1 trivial
   (cF rfl (o_indexAddr_row (sz:=2) 3 (.mk Yb2 kr) .is .t (by first | assumption | omega) (by first | assumption | omega) (by rfl)) r2 r1
   (cF rfl (Zt (ag:=true) (sz':=2) (sz:=2) 3 .t (by intro x;rfl) (by assumption) kr kr kr) r1 r1
   (cF rfl (ZI .t (by rfl)) r1 trivial
   (cF rfl (o_nilCheck 2 .is (by rfl)) r1 r1
   (cF rfl (ZA (off:=2) 2 .adr kr (by rfl)) r1 r1
   (cF rfl (Zaq (ag:=false) (sz:=1) 2 .adr kr kr kr (by rfl)) r1 r1
   (cF rfl (ZI .t (by rfl)) r1 trivial
   (cF rfl (o_sub .t (.ci kr)) r1 trivial
   (cF rfl (o_indexAddr_row (sz:=4) 4 (.mk underlying168 kr) .is .t (by first | assumption | omega) (by first | assumption | omega) (by rfl)) r2 r1
   (cF rfl (Zt (ag:=true) (sz':=4) (sz:=4) 4 .t (by intro x;rfl) (by assumption) kr kr kr) r1 r1
   (cF rfl (ZgB (zs:=[.int .u32 0,.int .u32 0]) 102 kr) trivial trivial
   (cF rfl (ZgB (zs:=[.int .i64 0,.int .i64 0,.int .i64 0,.int .i64 0]) 103 kr) trivial trivial
   (cF rfl (ZcD (sz:=2) 102 .same .t kr kr kr) r2 r1
   (cF rfl (ZcD (sz:=4) 103 .same .t kr kr kr) r2 r1
   Zq.nil))))))))))))))))))))
   kr (by rw [V];kernel_rfl) ?_
 clear O;intro a w F O
 replace O:=O.sub
 obtain ⟨F,O⟩:=O.norm [(4,_),(5,_),(6,_),(7,_)] [(0,_),(2,_),(3,_),(4,_),(101,_),(102,_),(103,_)] r4 r7
 try dsimp only [RS.sub,SF.sub,CF.sub,csub,Anc.sub,List.map,Zd,List.length_cons,List.length_nil,Nat.reduceAdd,List.drop_succ_cons,List.drop_zero,List.drop_nil,List.take_succ_cons,List.take_zero,List.take_nil,List.cons_append,List.nil_append,zCF,ldSF] at O
 generalize Act.tau a 6=v6,Act.tau a 7=v7 at O
 refine Za (Ya ?_)
 refine Zz O kr
   (cF rfl (ZA (off:=0) 102 .is kr (by rfl)) r1 r1
   (cF rfl (Zaq (ag:=false) (sz:=1) 102 .adr kr kr kr (by rfl)) r1 r1
   (cF rfl (Za0 YbS kr .t) r1 trivial
   (cF rfl (ZA (off:=1) 102 .is kr (by rfl)) r1 r1
   (cF rfl (Zaq (ag:=false) (sz:=1) 102 .adr kr kr kr (by rfl)) r1 r1
   (cF rfl (Za0 YbS kr .t) r1 trivial
   (cF rfl (ZA (off:=0) 103 .is kr (by rfl)) r1 r1
   (cF rfl (Zaq (ag:=false) (sz:=1) 103 .adr kr kr kr (by rfl)) r1 r1
   (cF rfl (ZA (off:=1) 103 .is kr (by rfl)) r1 r1
   (cF rfl (Zaq (ag:=false) (sz:=1) 103 .adr kr kr kr (by rfl)) r1 r1
   (cF rfl (ZA (off:=2) 103 .is kr (by rfl)) r1 r1
   (cF rfl (Zaq (ag:=false) (sz:=1) 103 .adr kr kr kr (by rfl)) r1 r1
   (cF rfl (ZA (off:=3) 103 .is kr (by rfl)) r1 r1
   (cF rfl (Zaq (ag:=false) (sz:=1) 103 .adr kr kr kr (by rfl)) r1 r1
   (cF rfl (Zc9 (r:=[(0,.tmp 35),(1,.tmp 38),(2,.tmp 40),(3,.tmp 42),(4,.tmp 44),(5,.tmp 46)]) (zs:=[.int .i64 0,.int .i64 0,.int .i64 0,.int .i64 0,.int .i64 0,.int .i64 0]) (pl:=[(0,1),(1,1),(2,1),(3,1),(4,1),(5,1)]) kr kr (.one rfl .t one_int kr (.one rfl .t one_int kr (.one rfl .t one_int kr (.one rfl .t one_int kr (.one rfl .t one_int kr (.one rfl .t one_int kr .nil)))))) (by rfl)) r6 trivial
   (cF rfl (ZcD (sz:=6) 101 .is .t kr kr kr) r2 r1
   (cF rfl (ZM .cb (by rfl)) trivial trivial
   Zq.nil)))))))))))))))))
   kr (by rw [V];kernel_rfl) ?_
 clear O;intro a w F O
 obtain ⟨F,O⟩:=O.norm [(4,_),(5,_)] [(0,_),(2,_),(3,_),(4,_),(101,_)] r2 r5
 try dsimp only [List.map,Zd,List.length_cons,List.length_nil,Nat.reduceAdd,List.drop_succ_cons,List.drop_zero,List.drop_nil,List.take_succ_cons,List.take_zero,List.take_nil,List.cons_append,List.nil_append,zCF,ldSF] at O
 refine Za (Yh ?_)
 have O:=O.fresh 1 rfl
 obtain ⟨F,O⟩:=O.push 1 4 Z Z Z kr
 obtain ⟨F,O⟩:=O.push 1 3 Z Z Z kr
 obtain ⟨F,O⟩:=O.push 1 2 Z Z Z kr
 have O:=O.turn 1 Z (r':=RS.hp (ZaV (.pointer (some ⟨b,0,none⟩)) room q)) (fun _ _ _ _ h=>⟨_,_,hI,h⟩)
 refine ZE hG O Z (.cell (n:=101) (ag:=true) (sz:=6) Z .is Z kr kr kr (.tmp Z .nil)) (.two (.aggU Z (by rw [hg];exact hcell)) (.bool (by rw [hg]))) rfl
def Zlw (q:List Cell) (n:Int):Bool:=decide (0≤n∧n≤q.length)
def ZcM (q:List Cell) (n:Int):List Cell:=if 0≤n∧n≤q.length then q.take n.toNat else q
theorem Znk {q:List Cell} {k i:Nat} (h:i<(q.take k).length):Nn (q.take k) i=Nn q i:=by
 have h1:i<q.length:=by have:=List.length_take_le' k q;omega
 rw [Zy h,Zy h1,Ybh]
theorem Zrf.cut {room:Int} {q:List Cell} (h:Zrf room q) (n:Int):Zrf room (ZcM q n):=by
 unfold ZcM
 split
 ·refine ⟨h.lo,h.hi,?_,fun i hi=>?_⟩
  ·have:=h.le;have:=List.length_take_le' n.toNat q;omega
  ·rw [Znk hi];exact h.ok i (by have:=List.length_take_le' n.toNat q;omega)
 ·exact h
theorem ZsI (b:Nat) (room:Int) (q:List Cell) (n:Int):FnG prog 189 1 [.is (.pointer (some ⟨b,0,none⟩)),.int .i64 n] [ZaV (.pointer (some ⟨b,0,none⟩)) room q] (.bool (Zlw q n)) (fun _=>[ZaV (.pointer (some ⟨b,0,none⟩)) room (ZcM q n)]):=by
 refine FnG.mk func189 Z ntmps189 Z kr fun B F0 a w F V hG O=>Ya ?_
 refine Zz O kr
   (cF rfl (ZM .cb (by rfl)) trivial trivial
   Zq.nil)
   kr (by rw [V];kernel_rfl) ?_
 clear O;intro a w F O
 obtain ⟨F,O⟩:=O.norm [(0,_),(1,_),(4,_)] [(0,_),(1,_)] r3 r2
 refine Za (Ya (Ya ?_))
 refine Zz O kr
   (cF rfl (ZI .t (by rfl)) r1 trivial
   (cF rfl (ZaR .t (.ci kr)) r1 trivial
   (cF rfl (ZI .t (by rfl)) r1 trivial
   (Zq.cons (Zaj.cond rfl rfl (fun h=>ZI .t (by rfl))) r2 trivial
   (Zq.cons (Zaj.cond rfl rfl (fun h=>ZI .t (by rfl))) r2 trivial
   (Zq.cons (Zaj.condR rfl rfl (by rfl) (fun h=>o_callG1 1 (ZiY b room q) func182 rfl kr (Args.one (.w h)))) r2 r1
   (Zq.cons (Zaj.cond rfl rfl (fun h=>Zal (.w h) (.w h))) r3 trivial
   (cF rfl (ZaM .t .t) r2 trivial
   Zq.nil))))))))
   kr (by rw [V];kernel_rfl) ?_
 clear O;intro a w F O
 obtain ⟨F,O⟩:=O.norm [(0,_),(1,_),(4,_),(12,_)] [(0,_),(1,_)] r4 r2
 refine Za (Zc O Z (fun hc0=>?_) (fun hc0=>?_))
 ·have hb:¬ (0≤n∧n≤q.length):=by simp at hc0;omega
  have hg:ZcM q n=q:=Yb hb
  have hg':Zlw q n=false:=Yu hb
  refine Ya ?_
  refine Zz O kr
    (cF rfl (ZM .cb (by rfl)) trivial trivial
    Zq.nil)
    kr (by rw [V];kernel_rfl) ?_
  clear O;intro a w F O
  obtain ⟨F,O⟩:=O.norm [(0,_),(1,_),(4,_)] [(0,_),(1,_)] r3 r2
  refine Za (Yh (Zf ?_))
  have O:=O.turn 1 Z (r':=RS.hp (ZaV (.pointer (some ⟨b,0,none⟩)) room (ZcM q n))) (fun _ _ _ _ h=>by rw [hg];exact h)
  refine ZE hG O Z (.tmp Z .nil) (.one (.bool (by rw [hg']))) rfl
 have hb:(0≤n∧n≤q.length):=by simp at hc0;omega
 have hg:ZcM q n=q.take n.toNat:=Yf hb
 have hg':Zlw q n=true:=YI hb
 refine Yd (Za (Ya (Ya ?_)))
 refine Zz O kr
   (cF rfl (ZI .t (by rfl)) r1 trivial
   (cF rfl (Zhk _ Yb1 rfl .t) r1 trivial
   Zq.nil))
   kr (by rw [V];kernel_rfl) ?_
 clear O;intro a w F O
 obtain ⟨F,O⟩:=O.norm [(0,_),(1,_),(4,_),(14,_)] [(0,_),(1,_)] r4 r2
 refine Za (Zc O Z (fun hc1=>?_) (fun hc1=>?_))
 ·obtain ⟨wv,O⟩:=O.open_ex 1 rfl
  obtain ⟨lv,O⟩:=O.open_ex 1 rfl
  obtain ⟨hI,O⟩:=O.open_and 1 rfl
  obtain ⟨F,O⟩:=O.peel 1 2 Z rfl
  obtain ⟨F,O⟩:=O.peel 1 3 Z rfl
  obtain ⟨F,O⟩:=O.peel 1 4 Z rfl
  have h0:=hb.1
  have h1:=hb.2
  obtain ⟨F,O⟩:=O.norm [(0,_),(1,_),(4,_),(14,_)] [(0,_),(2,_),(3,_),(4,_)] r4 r4
  refine Zci kr O kr
    (cF rfl (ZI .t (by rfl)) r1 trivial
    (cF rfl (ZI .t (by rfl)) r1 trivial
    (cF rfl (ZI .t (by rfl)) r1 trivial
    (cF rfl (o_nilCheck 2 .is (by rfl)) r1 r1
    (cF rfl (ZA (off:=1) 2 .adr kr (by rfl)) r1 r1
    (cF rfl (Zaq (ag:=false) (sz:=1) 2 .adr kr kr kr (by rfl)) r1 r1
    (cF rfl (ZI .t (by rfl)) r1 trivial
    (cF rfl (Zdu (sz:=2) 3 (.mk Yb2 kr) (by intro x;rfl) .is .t (by assumption) (by assumption)) r2 r1
    (cF rfl (ZI .t (by rfl)) r1 trivial
    (cF rfl (o_nilCheck 2 .is (by rfl)) r1 r1
    (cF rfl (ZA (off:=2) 2 .adr kr (by rfl)) r1 r1
    (cF rfl (Zaq (ag:=false) (sz:=1) 2 .adr kr kr kr (by rfl)) r1 r1
    (cF rfl (ZI .t (by rfl)) r1 trivial
    (cF rfl (Zdu (sz:=4) 4 (.mk underlying168 kr) (by intro x;rfl) .is .t (by assumption) (by assumption)) r2 r1
    (cF rfl (o_nilCheck 2 .is (by rfl)) r1 r1
    (cF rfl (ZA (off:=1) 2 .adr kr (by rfl)) r1 r1
    (cF rfl (ZbD 2 .adr kr kr) r2 r1
    (cF rfl (o_nilCheck 2 .is (by rfl)) r1 r1
    (cF rfl (ZA (off:=2) 2 .adr kr (by rfl)) r1 r1
    (cF rfl (ZbD 2 .adr kr kr) r2 r1
    Zq.nil))))))))))))))))))))
    kr (by rw [V];kernel_rfl) ?_
  clear O;intro a w F O
  replace O:=O.sub
  obtain ⟨F,O⟩:=O.norm [(4,_)] [(0,_),(2,_),(3,_),(4,_)] r1 r4
  try dsimp only [RS.sub,SF.sub,CF.sub,csub,Anc.sub,List.map,Zd,List.length_cons,List.length_nil,Nat.reduceAdd,List.drop_succ_cons,List.drop_zero,List.drop_nil,List.take_succ_cons,List.take_zero,List.take_nil,List.cons_append,List.nil_append,zCF,ldSF] at O
  generalize Act.tau a 22=v22,Act.tau a 28=v28 at O
  refine Za (Ya ?_)
  refine Zz O kr
    (cF rfl (ZM .cb (by rfl)) trivial trivial
    Zq.nil)
    kr (by rw [V];kernel_rfl) ?_
  clear O;intro a w F O
  obtain ⟨F,O⟩:=O.norm [(4,_)] [(0,_),(2,_),(3,_),(4,_)] r1 r4
  refine Za (Yh ?_)
  have O:=O.fresh 1 rfl
  obtain ⟨F,O⟩:=O.push 1 4 Z Z Z kr
  obtain ⟨F,O⟩:=O.push 1 3 Z Z Z kr
  obtain ⟨F,O⟩:=O.push 1 2 Z Z Z kr
  have O:=O.turn 1 Z (r':=RS.hp (ZaV (.pointer (some ⟨b,0,none⟩)) room (ZcM q n))) (fun _ _ _ _ h=>⟨_,_,hI.cut n,by rw [hg];exact h⟩)
  refine ZE hG O Z (.tmp Z .nil) (.one (.bool (by rw [hg']))) rfl
 simp at hc1
theorem Zft (n:Int):0≤Zb8 n∧Zb8 n≤65536:=by unfold Zb8;split; (· omega);split <;> omega
theorem ZqL (n:Int):Zrf (Zb8 n) []:=⟨(Zft n).1,(Zft n).2,(Zft n).1,fun i hi=>absurd hi (YJ i)⟩
theorem Znn (n:Int):(if 65536<(if n<0 then 0 else n) then 65536 else if n<0 then 0 else n)=Zb8 n:=by unfold Zb8;split <;> split <;> (try split) <;> omega
theorem ZoU (n:Int):FnG prog 45 1 [.int .i64 n] [.star []] (PV.ptr) (fun v=>[ZaV v (Zb8 n) []]):=by
 refine FnG.mk func45 Z ntmps45 Z kr fun B F0 a w F V hG O=>?_
 have hr:=Znn n
 refine Ya ?_
 refine Zz O kr
  (cF rfl (ZM (.c rfl) (by rfl)) trivial trivial
  Zq.nil)
  kr (by rw [V];kernel_rfl) ?_
 clear O;intro a w F O
 obtain ⟨F,O⟩:=O.norm [(0,_),(2,_)] [(0,_),(1,_)] r2 r2
 refine Za (Ya ?_)
 refine Zz O kr
  (cF rfl (ZI .t (by rfl)) r1 trivial
  (cF rfl (Zsf .t (.ci kr)) r1 trivial
  (cF rfl (ZtT .t (.ci kr)) r1 trivial
  (cF rfl (Zc9 (r:=[(0,.tmp 5)]) (zs:=[.int .i64 0,.slice none 0 0,.slice none 0 0]) (pl:=[(0,1),(1,1),(2,1)]) kr kr (.one rfl .t one_int kr .nil) (by rfl)) r1 trivial
  (cF rfl (ZkK 101 .t kr) r1 trivial
  (cF rfl (ZM .t (by rfl)) r1 trivial
  Zq.nil))))))
  kr (by rw [V];kernel_rfl) ?_
 clear O;intro a w F O
 replace O:=O.sub
 obtain ⟨F,O⟩:=O.norm [(2,_)] [(0,_),(1,_),(101,_)] r1 r3
 try dsimp only [RS.sub,SF.sub,CF.sub,csub,Anc.sub,List.map,Zd,List.length_cons,List.length_nil,Nat.reduceAdd,List.drop_succ_cons,List.drop_zero,List.drop_nil,List.take_succ_cons,List.take_zero,List.take_nil,List.cons_append,List.nil_append,zCF] at O
 generalize Act.tau a 7=v7 at O
 refine Za (Yh ?_)
 obtain ⟨b,rfl⟩:=O.shape 101 rfl
 have O:=O.fresh 3 rfl
 have O:=O.turn 3 Z (ZaC (T:=288) (sz:=2) (R:=Zrv))
 have O:=O.fresh 4 rfl
 have O:=O.turn 4 Z (ZaC (T:=290) (sz:=4) (R:=Ztu))
 obtain ⟨F,O⟩:=O.push 1 4 Z Z Z kr
 obtain ⟨F,O⟩:=O.push 1 3 Z Z Z kr
 obtain ⟨F,O⟩:=O.push 1 101 Z Z Z kr
 have O:=O.turn 1 Z (r':=RS.hp (ZaV (.pointer (some ⟨b,0,none⟩)) (Zb8 n) [])) (fun _ _ _ _ h=>⟨_,_,ZqL n,by rw [← hr];exact h⟩)
 refine Zed (h':=fun v=>ZaV v (Zb8 n) []) hG O Z (.tmp Z .nil) (.one .ptr) rfl
def Zem (q:List Cell) (c:Cell):Prop:=c.left<0∨(q.length:Int)<c.left∨c.right<0∨(q.length:Int)<c.right
instance (q:List Cell) (c:Cell):Decidable (Zem q c):=by unfold Zem;exact inferInstance
def Zbn (room:Int) (q:List Cell) (c:Cell):List Cell×Int×Int:=if Zem q c then (q,0,1) else if room≤q.length then (q,0,2) else (q ++ [c],(q.length:Int)+1,0)
theorem Zpc {q:List Cell} {c:Cell} {i:Nat} (h:i<q.length):Nn (q ++ [c]) i=Nn q i:=by
 rw [Zy h,Zy (by simp;omega),List.getElem_append_left h]
theorem Zj2 {q:List Cell} {c:Cell} : Nn (q ++ [c]) q.length=c:=by rw [Zy (by simp)];simp
theorem Zrf.put {room:Int} {q:List Cell} {c:Cell} (h:Zrf room q) (h1:¬ Zem q c) (h2:¬ room≤q.length):Zrf room (q ++ [c]):=by
 unfold Zem at h1
 refine ⟨h.lo,h.hi,by simp;omega,fun i hi=>?_⟩
 by_cases e:i<q.length
 ·rw [Zpc e];exact h.ok i e
 ·have:i=q.length:=by simp at hi;omega
  subst this
  rw [Zj2];omega
theorem Zsm (b:Nat) (room:Int) (q:List Cell) (c:Cell):FnG prog 251 1 [.is (.pointer (some ⟨b,0,none⟩)),.agg (Z4 c)] [ZaV (.pointer (some ⟨b,0,none⟩)) room q] (.tup [.int .i64 (Zbn room q c).2.1,.int .i64 (Zbn room q c).2.2]) (fun _=>[ZaV (.pointer (some ⟨b,0,none⟩)) room (Zbn room q c).1]):=by
 refine FnG.mk func251 Z ntmps251 Z kr fun B F0 a w F V hG O=>Ya ?_
 refine Zz O kr
   (cF rfl (ZkK 101 (.conv .t .agg) kr) r1 trivial
   (cF rfl (ZM (.ci kr) (by rfl)) trivial trivial
   (cF rfl (ZM (.ci kr) (by rfl)) trivial trivial
   Zq.nil)))
   kr (by rw [V];kernel_rfl) ?_
 clear O;intro a w F O
 replace O:=O.sub
 obtain ⟨F,O⟩:=O.norm [(0,_),(3,_),(4,_),(5,_)] [(0,_),(1,_),(101,_)] r4 r3
 try dsimp only [RS.sub,SF.sub,CF.sub,csub,Anc.sub,List.map,zCF] at O
 generalize Act.tau a 3=v3 at O
 refine Za (Ya ?_)
 refine Zz O kr
   (cF rfl (ZI .t (by rfl)) r1 trivial
   (cF rfl (o_callG1 1 (ZiY b room q) func182 rfl kr (Args.one .t)) r1 r1
   (cF rfl (ZM .t (by rfl)) r1 trivial
   Zq.nil)))
   kr (by rw [V];kernel_rfl) ?_
 clear O;intro a w F O
 obtain ⟨F,O⟩:=O.norm [(0,_),(3,_),(4,_),(5,_),(6,_)] [(0,_),(1,_),(101,_)] r5 r3
 refine Za (Ya (Ye (Ya ?_)))
 refine Zz O kr
   (cF rfl (ZA (off:=0) 101 .is kr (by rfl)) r1 r1
   (cF rfl (Zaq (ag:=false) (sz:=1) 101 .adr kr kr kr (by rfl)) r1 r1
   (cF rfl (ZaR .t (.ci kr)) r1 trivial
   (cF rfl (ZI .t (by rfl)) r1 trivial
   (Zq.cons (Zaj.cond rfl rfl (fun h=>ZA (off:=0) 101 .is kr (by rfl))) r2 r1
   (Zq.cons (Zaj.cond rfl rfl (fun h=>Zaq (ag:=false) (sz:=1) 101 (.w h .adr) kr kr kr (by rfl))) r2 r1
   (Zq.cons (Zaj.cond rfl rfl (fun h=>ZI .t (by rfl))) r2 trivial
   (Zq.cons (Zaj.cond rfl rfl (fun h=>Zal (.w h) (.w h))) r3 trivial
   (cF rfl (ZaM .t .t) r2 trivial
   (cF rfl (ZI .t (by rfl)) r1 trivial
   (Zq.cons (Zaj.cond rfl rfl (fun h=>ZA (off:=1) 101 .is kr (by rfl))) r2 r1
   (Zq.cons (Zaj.cond rfl rfl (fun h=>Zaq (ag:=false) (sz:=1) 101 (.w h .adr) kr kr kr (by rfl))) r2 r1
   (Zq.cons (Zaj.cond rfl rfl (fun h=>ZaR (.w h) (.ci kr))) r2 trivial
   (cF rfl (ZaM .t .t) r2 trivial
   (cF rfl (ZI .t (by rfl)) r1 trivial
   (Zq.cons (Zaj.cond rfl rfl (fun h=>ZA (off:=1) 101 .is kr (by rfl))) r2 r1
   (Zq.cons (Zaj.cond rfl rfl (fun h=>Zaq (ag:=false) (sz:=1) 101 (.w h .adr) kr kr kr (by rfl))) r2 r1
   (Zq.cons (Zaj.cond rfl rfl (fun h=>ZI .t (by rfl))) r2 trivial
   (Zq.cons (Zaj.cond rfl rfl (fun h=>Zal (.w h) (.w h))) r3 trivial
   (cF rfl (ZaM .t .t) r2 trivial
   (cF rfl (ZM .t (by rfl)) r1 trivial
   Zq.nil)))))))))))))))))))))
   kr (by rw [V];kernel_rfl) ?_
 clear O;intro a w F O
 obtain ⟨F,O⟩:=O.norm [(0,_),(3,_),(4,_),(5,_),(6,_),(9,_)] [(0,_),(1,_),(101,_)] r6 r3
 try dsimp only [List.map,List.drop_succ_cons,List.drop_zero,List.drop_nil,List.take_succ_cons,List.take_zero,List.take_nil,ldSF] at O
 refine Za (Zc O Z (fun hc0=>?_) (fun hc0=>?_))
 ·have hb:Zem q c:=by unfold Zem;simp only [Yao,YaG,Yj,Yi] at hc0;omega
  have hg:Zbn room q c=(q,0,1):=Yf hb
  refine Ya ?_
  refine Zz O kr
    (cF rfl (ZM (.ci kr) (by rfl)) trivial trivial
    (cF rfl (ZM (.ci kr) (by rfl)) trivial trivial
    Zq.nil))
    kr (by rw [V];kernel_rfl) ?_
  clear O;intro a w F O
  obtain ⟨F,O⟩:=O.norm [(0,_),(3,_),(4,_),(5,_),(6,_)] [(0,_),(1,_),(101,_)] r5 r3
  refine Za (Yh (Zr (Zf ?_)))
  have O:=O.turn 1 Z (r':=RS.hp (ZaV (.pointer (some ⟨b,0,none⟩)) room (Zbn room q c).1)) (fun _ _ _ _ h=>by rw [hg];exact h)
  refine ZE hG O Z (.tmp Z (.tmp Z .nil)) (.two (.int (by rw [hg])) (.int (by rw [hg]))) rfl
 have hb:¬ Zem q c:=by unfold Zem;simp only [Yao,YaG,Yj,Yi] at hc0;omega
 have hI:Zrf room q:=by obtain ⟨_,O⟩:=O.open_ex 1 rfl;obtain ⟨_,O⟩:=O.open_ex 1 rfl;exact (O.open_and 1 rfl).1
 have hm:=hI.le
 refine Ya ?_
 refine Zz O kr
   (cF rfl (ZI .t (by rfl)) r1 trivial
   (cF rfl (o_callG1 1 (ZlN b room q) func120 rfl kr (Args.one .t)) r1 r1
   (cF rfl (o_eql .t (.ci kr)) r1 trivial
   (cF rfl (ZM .t (by rfl)) r1 trivial
   Zq.nil))))
   kr (by rw [V];kernel_rfl) ?_
 clear O;intro a w F O
 obtain ⟨F,O⟩:=O.norm [(0,_),(3,_),(4,_),(5,_),(6,_),(30,_)] [(0,_),(1,_),(101,_)] r6 r3
 refine Za (Zc O Z (fun hc1=>?_) (fun hc1=>?_))
 ·have hb2:room≤q.length:=by simp only [Yj] at hc1;omega
  have hg:Zbn room q c=(q,0,2):=by unfold Zbn;rw [Yb hb,Yf hb2]
  refine Ya ?_
  refine Zz O kr
    (cF rfl (ZM (.ci kr) (by rfl)) trivial trivial
    (cF rfl (ZM (.ci kr) (by rfl)) trivial trivial
    Zq.nil))
    kr (by rw [V];kernel_rfl) ?_
  clear O;intro a w F O
  obtain ⟨F,O⟩:=O.norm [(0,_),(3,_),(4,_),(5,_),(6,_)] [(0,_),(1,_),(101,_)] r5 r3
  refine Za (Yh (Zr (Zf ?_)))
  have O:=O.turn 1 Z (r':=RS.hp (ZaV (.pointer (some ⟨b,0,none⟩)) room (Zbn room q c).1)) (fun _ _ _ _ h=>by rw [hg];exact h)
  refine ZE hG O Z (.tmp Z (.tmp Z .nil)) (.two (.int (by rw [hg])) (.int (by rw [hg]))) rfl
 obtain ⟨wv,O⟩:=O.open_ex 1 rfl
 obtain ⟨lv,O⟩:=O.open_ex 1 rfl
 obtain ⟨hI,O⟩:=O.open_and 1 rfl
 obtain ⟨F,O⟩:=O.peel 1 2 Z rfl
 obtain ⟨F,O⟩:=O.peel 1 3 Z rfl
 obtain ⟨F,O⟩:=O.peel 1 4 Z rfl
 have hb2:¬ room≤q.length:=by simp only [Yi] at hc1;omega
 have hg:Zbn room q c=(q ++ [c],(q.length:Int)+1,0):=by unfold Zbn;rw [Yb hb,Yb hb2]
 have hl:=hI.hi
 have hm:=hI.le
 have hb':=hb
 unfold Zem at hb'
 have hcw:(⟨IntKind.wrap .u32 c.left,IntKind.wrap .u32 c.right,c.key,c.val,c.size,c.high⟩:Cell)=c:=by rw [Zmc ow,Zmc ow]
 obtain ⟨F,O⟩:=O.norm [(0,_),(3,_),(4,_),(5,_),(6,_),(30,_)] [(0,_),(2,_),(3,_),(4,_),(101,_)] r6 r5
 refine Yd (Zi (Za (Ya ?_)))
 refine Zci kr O kr
   (cF rfl (ZI .t (by rfl)) r1 trivial
   (cF rfl (ZI .t (by rfl)) r1 trivial
   (cF rfl (o_nilCheck 2 .is (by rfl)) r1 r1
   (cF rfl (ZA (off:=1) 2 .adr kr (by rfl)) r1 r1
   (cF rfl (Zaq (ag:=false) (sz:=1) 2 .adr kr kr kr (by rfl)) r1 r1
   (cF rfl (ZA (off:=0) 101 .is kr (by rfl)) r1 r1
   (cF rfl (Zaq (ag:=false) (sz:=1) 101 .adr kr kr kr (by rfl)) r1 r1
   (cF rfl (Za0 underlying274 kr .t) r1 trivial
   (cF rfl (ZA (off:=1) 101 .is kr (by rfl)) r1 r1
   (cF rfl (Zaq (ag:=false) (sz:=1) 101 .adr kr kr kr (by rfl)) r1 r1
   (cF rfl (Za0 underlying274 kr .t) r1 trivial
   (cF rfl (Zc9 (r:=[(0,.tmp 41),(1,.tmp 44)]) (zs:=[.int .u32 0,.int .u32 0]) (pl:=[(0,1),(1,1)]) kr kr (.one rfl .t one_int kr (.one rfl .t one_int kr .nil)) (by rfl)) r2 trivial
   (cF rfl (Zn (sz:=2) (zs:=[.int .u32 0,.int .u32 0]) (r:=[(0,.tmp 45)]) (l:=[_,_]) Yb2 kr kr kr kr rfl rfl (.agg rfl .t kr kr .nil) rfl) r1 trivial
   (cF rfl (o_append (sz:=2) (bs:=8) 3 (.mk' Yb2 kr kr) (by intro x;rfl) .is (.arr (l':=[⟨IntKind.wrap .u32 c.left,IntKind.wrap .u32 c.right,c.key,c.val,c.size,c.high⟩]) .t) (by simp only [Yl,Yq];omega) (by decide)) ⟨rfl,rfl,tv⟩ ⟨rfl,tv⟩
   (cF rfl (o_nilCheck 2 .is (by rfl)) r1 r1
   (cF rfl (ZA (off:=1) 2 .adr kr (by rfl)) r1 r1
   (cF rfl (ZbD 2 .adr kr kr) r2 r1
   Zq.nil)))))))))))))))))
   kr (by rw [V];kernel_rfl) ?_
 clear O;intro a w F O
 replace O:=O.sub
 obtain ⟨F,O⟩:=O.norm [(0,_),(3,_),(4,_),(5,_),(6,_)] [(0,_),(2,_),(3,_),(4,_),(101,_)] r5 r5
 try dsimp only [RS.sub,SF.sub,CF.sub,csub,Anc.sub,List.map,Zd,List.length_cons,List.length_nil,Nat.reduceAdd,List.drop_succ_cons,List.drop_zero,List.drop_nil,List.take_succ_cons,List.take_zero,List.take_nil,List.cons_append,List.nil_append,zCF,ldSF] at O
 generalize Act.tau a 47=v47 at O
 refine Za (Ya ?_)
 refine Zci kr O kr
   (cF rfl (ZI .t (by rfl)) r1 trivial
   (cF rfl (ZI .t (by rfl)) r1 trivial
   (cF rfl (o_nilCheck 2 .is (by rfl)) r1 r1
   (cF rfl (ZA (off:=2) 2 .adr kr (by rfl)) r1 r1
   (cF rfl (Zaq (ag:=false) (sz:=1) 2 .adr kr kr kr (by rfl)) r1 r1
   (cF rfl (ZA (off:=2) 101 .is kr (by rfl)) r1 r1
   (cF rfl (Zaq (ag:=false) (sz:=1) 101 .adr kr kr kr (by rfl)) r1 r1
   (cF rfl (ZA (off:=3) 101 .is kr (by rfl)) r1 r1
   (cF rfl (Zaq (ag:=false) (sz:=1) 101 .adr kr kr kr (by rfl)) r1 r1
   (cF rfl (ZA (off:=4) 101 .is kr (by rfl)) r1 r1
   (cF rfl (Zaq (ag:=false) (sz:=1) 101 .adr kr kr kr (by rfl)) r1 r1
   (cF rfl (ZA (off:=5) 101 .is kr (by rfl)) r1 r1
   (cF rfl (Zaq (ag:=false) (sz:=1) 101 .adr kr kr kr (by rfl)) r1 r1
   (cF rfl (Zc9 (r:=[(0,.tmp 56),(1,.tmp 58),(2,.tmp 60),(3,.tmp 62)]) (zs:=[.int .i64 0,.int .i64 0,.int .i64 0,.int .i64 0]) (pl:=[(0,1),(1,1),(2,1),(3,1)]) kr kr (.one rfl .t one_int kr (.one rfl .t one_int kr (.one rfl .t one_int kr (.one rfl .t one_int kr .nil)))) (by rfl)) r4 trivial
   (cF rfl (Zn (sz:=4) (zs:=[.int .i64 0,.int .i64 0,.int .i64 0,.int .i64 0]) (r:=[(0,.tmp 63)]) (l:=[_,_,_,_]) underlying168 kr kr kr kr rfl rfl (.agg rfl .t kr kr .nil) rfl) r1 trivial
   (cF rfl (o_append (sz:=4) (bs:=32) 4 (.mk' underlying168 kr kr) (by intro x;rfl) .is (.arr (l':=[c]) .t) (by simp only [Yl,Yq];omega) (by decide)) ⟨rfl,rfl,tv⟩ ⟨rfl,tv⟩
   (cF rfl (o_nilCheck 2 .is (by rfl)) r1 r1
   (cF rfl (ZA (off:=2) 2 .adr kr (by rfl)) r1 r1
   (cF rfl (ZbD 2 .adr kr kr) r2 r1
   Zq.nil)))))))))))))))))))
   kr (by rw [V];kernel_rfl) ?_
 clear O;intro a w F O
 replace O:=O.sub
 obtain ⟨F,O⟩:=O.norm [(4,_),(5,_),(6,_)] [(0,_),(2,_),(3,_),(4,_)] r3 r4
 try dsimp only [RS.sub,SF.sub,CF.sub,csub,Anc.sub,List.map,Zd,List.length_cons,List.length_nil,Nat.reduceAdd,List.drop_succ_cons,List.drop_zero,List.drop_nil,List.take_succ_cons,List.take_zero,List.take_nil,List.cons_append,List.nil_append,zCF,ldSF] at O
 generalize Act.tau a 65=v65 at O
 refine Za (Ya ?_)
 refine Zz O kr
   (cF rfl (ZI .t (by rfl)) r1 trivial
   (cF rfl (o_add .t (.ci kr)) r1 trivial
   (cF rfl (ZM .t (by rfl)) r1 trivial
   (cF rfl (ZM (.ci kr) (by rfl)) trivial trivial
   Zq.nil))))
   kr (by rw [V];kernel_rfl) ?_
 clear O;intro a w F O
 obtain ⟨F,O⟩:=O.norm [(4,_),(5,_)] [(0,_),(2,_),(3,_),(4,_)] r2 r4
 refine Za (Yh ?_)
 rw [hcw] at O
 have O:=O.fresh 1 rfl
 obtain ⟨F,O⟩:=O.push 1 4 Z Z Z kr
 obtain ⟨F,O⟩:=O.push 1 3 Z Z Z kr
 obtain ⟨F,O⟩:=O.push 1 2 Z Z Z kr
 have O:=O.turn 1 Z (r':=RS.hp (ZaV (.pointer (some ⟨b,0,none⟩)) room (Zbn room q c).1)) (fun _ _ _ _ h=>⟨_,_,by rw [hg];exact hI.put hb hb2,by rw [hg];exact h⟩)
 refine ZE hG O Z (.tmp Z (.tmp Z .nil)) (.two (.int (by rw [hg];exact Zj ow)) (.int (by rw [hg]))) rfl
theorem ZpO (i:Int):FnP prog 174 [.is (.pointer none),.int .i64 i] (Zt9 [] i):=by
 refine FnP.mk func174 Z ntmps174 Z fun B a w F V hfr O=>Ya ?_
 refine Zz O kr
   (cF rfl (ZgB (zs:=[.int .i64 0,.int .i64 0,.int .i64 0,.int .i64 0,.int .i64 0,.int .i64 0]) 101 kr) trivial trivial
   (cF rfl (ZM .cb (by rfl)) trivial trivial
   Zq.nil))
   kr (by rw [V];kernel_rfl) ?_
 clear O;intro a w F O
 replace O:=O.sub
 obtain ⟨F,O⟩:=O.norm [(0,_),(1,_),(4,_),(5,_)] [(0,_),(101,_)] r4 r2
 try dsimp only [RS.sub,SF.sub,CF.sub,csub,Anc.sub,List.map,zCF] at O
 generalize Act.tau a 4=v4 at O
 refine Za (Ya (Ya ?_))
 refine Zz O kr
   (cF rfl (ZI .t (by rfl)) r1 trivial
   (cF rfl (ZaR .t (.ci kr)) r1 trivial
   (cF rfl (ZI .t (by rfl)) r1 trivial
   (Zq.cons (Zaj.cond rfl rfl (fun h=>ZI .t (by rfl))) r2 trivial
   (Zq.cons (Zaj.cond rfl rfl (fun h=>ZI .t (by rfl))) r2 trivial
   (Zq.cons (Zaj.cond rfl rfl (fun h=>ZgX (ZeE) func182 rfl kr (Args.one (.w h)))) r2 trivial
   (Zq.cons (Zaj.cond rfl rfl (fun h=>Zal (.w h) (.w h))) r3 trivial
   (cF rfl (ZaM .t .t) r2 trivial
   Zq.nil))))))))
   kr (by rw [V];kernel_rfl) ?_
 clear O;intro a w F O
 obtain ⟨F,O⟩:=O.norm [(0,_),(1,_),(4,_),(5,_),(15,_)] [(0,_),(101,_)] r5 r2
 refine Za (Zc O Z (fun hc0=>?_) (fun hc0=>?_))
 ·have hg:ZnS [] i=(default,false):=by unfold ZnS;rw [Yb];simp;omega
  refine Ya ?_
  refine Zz O kr
    (cF rfl (Zc9 (r:=[]) (zs:=[.int .i64 0,.int .i64 0,.int .i64 0,.int .i64 0,.int .i64 0,.int .i64 0]) (pl:=[(0,1),(1,1),(2,1),(3,1),(4,1),(5,1)]) kr kr .nil (by rfl)) trivial trivial
    (cF rfl (ZcD (sz:=6) 101 .is .t kr kr kr) r2 r1
    (cF rfl (ZM .cb (by rfl)) trivial trivial
    Zq.nil)))
    kr (by rw [V];kernel_rfl) ?_
  clear O;intro a w F O
  obtain ⟨F,O⟩:=O.norm [(0,_),(1,_),(4,_),(5,_)] [(0,_),(101,_)] r4 r2
  try dsimp only [List.map,Zd,List.length_cons,List.length_nil,Nat.reduceAdd,List.drop_succ_cons,List.drop_zero,List.drop_nil,List.take_succ_cons,List.take_zero,List.take_nil,List.cons_append,List.nil_append,zCF] at O
  refine Za (Yh (Zf (Z3 hfr O Z (.cell (n:=101) (ag:=true) (sz:=6) Z .is Z kr kr kr (.tmp Z .nil)) (.two (.aggU Z (by rw [hg];rfl)) (.bool (by rw [hg]))))))
 have hb:1≤i∧i≤(0:Int):=by simp at hc0;omega
 omega
theorem Zp3 (n:Int):FnP prog 189 [.is (.pointer none),.int .i64 n] (.bool (Zlw [] n)):=by
 refine FnP.mk func189 Z ntmps189 Z fun B a w F V hfr O=>Ya ?_
 refine Zz O kr
   (cF rfl (ZM .cb (by rfl)) trivial trivial
   Zq.nil)
   kr (by rw [V];kernel_rfl) ?_
 clear O;intro a w F O
 obtain ⟨F,O⟩:=O.norm [(0,_),(1,_),(4,_)] [(0,_)] r3 r1
 refine Za (Ya (Ya ?_))
 refine Zz O kr
   (cF rfl (ZI .t (by rfl)) r1 trivial
   (cF rfl (ZaR .t (.ci kr)) r1 trivial
   (cF rfl (ZI .t (by rfl)) r1 trivial
   (Zq.cons (Zaj.cond rfl rfl (fun h=>ZI .t (by rfl))) r2 trivial
   (Zq.cons (Zaj.cond rfl rfl (fun h=>ZI .t (by rfl))) r2 trivial
   (Zq.cons (Zaj.cond rfl rfl (fun h=>ZgX (ZeE) func182 rfl kr (Args.one (.w h)))) r2 trivial
   (Zq.cons (Zaj.cond rfl rfl (fun h=>Zal (.w h) (.w h))) r3 trivial
   (cF rfl (ZaM .t .t) r2 trivial
   Zq.nil))))))))
   kr (by rw [V];kernel_rfl) ?_
 clear O;intro a w F O
 obtain ⟨F,O⟩:=O.norm [(0,_),(1,_),(4,_),(12,_)] [(0,_)] r4 r1
 refine Za (Zc O Z (fun hc0=>?_) (fun hc0=>?_))
 ·have hg:Zlw [] n=false:=Yu (by simp at hc0 ⊢;omega)
  refine Ya ?_
  refine Zz O kr
    (cF rfl (ZM .cb (by rfl)) trivial trivial
    Zq.nil)
    kr (by rw [V];kernel_rfl) ?_
  clear O;intro a w F O
  obtain ⟨F,O⟩:=O.norm [(0,_),(1,_),(4,_)] [(0,_)] r3 r1
  refine Za (Yh (Zf (Z3 hfr O Z (.tmp Z .nil) (.one (.bool (by rw [hg]))))))
 have hg:Zlw [] n=true:=YI (by simp at hc0 ⊢;omega)
 refine Yd (Za (Ya (Ya ?_)))
 refine Zz O kr
   (cF rfl (ZI .t (by rfl)) r1 trivial
   (cF rfl (Zhk _ Yb1 rfl .t) r1 trivial
   Zq.nil))
   kr (by rw [V];kernel_rfl) ?_
 clear O;intro a w F O
 obtain ⟨F,O⟩:=O.norm [(0,_),(1,_),(4,_),(14,_)] [(0,_)] r4 r1
 refine Za (Zc O Z (fun hc1=>?_) (fun hc1=>?_))
 ·simp at hc1
 refine Yd (Za (Ya ?_))
 refine Zz O kr
   (cF rfl (ZM .cb (by rfl)) trivial trivial
   Zq.nil)
   kr (by rw [V];kernel_rfl) ?_
 clear O;intro a w F O
 obtain ⟨F,O⟩:=O.norm [(4,_)] [(0,_)] r1 r1
 refine Za (Yh (Z3 hfr O Z (.tmp Z .nil) (.one (.bool (by rw [hg])))))
theorem Zpr (c:Cell):FnP prog 251 [.is (.pointer none),.agg (Z4 c)] (.tup [.int .i64 (Zbn 0 [] c).2.1,.int .i64 (Zbn 0 [] c).2.2]):=by
 refine FnP.mk func251 Z ntmps251 Z fun B a w F V hfr O=>Ya ?_
 refine Zz O kr
   (cF rfl (ZkK 101 (.conv .t .agg) kr) r1 trivial
   (cF rfl (ZM (.ci kr) (by rfl)) trivial trivial
   (cF rfl (ZM (.ci kr) (by rfl)) trivial trivial
   Zq.nil)))
   kr (by rw [V];kernel_rfl) ?_
 clear O;intro a w F O
 replace O:=O.sub
 obtain ⟨F,O⟩:=O.norm [(0,_),(3,_),(4,_),(5,_)] [(0,_),(101,_)] r4 r2
 try dsimp only [RS.sub,SF.sub,CF.sub,csub,Anc.sub,List.map,zCF] at O
 generalize Act.tau a 3=v3 at O
 refine Za (Ya ?_)
 refine Zz O kr
   (cF rfl (ZI .t (by rfl)) r1 trivial
   (cF rfl (ZgX (ZeE) func182 rfl kr (Args.one .t)) r1 trivial
   (cF rfl (ZM .t (by rfl)) r1 trivial
   Zq.nil)))
   kr (by rw [V];kernel_rfl) ?_
 clear O;intro a w F O
 obtain ⟨F,O⟩:=O.norm [(0,_),(3,_),(4,_),(5,_),(6,_)] [(0,_),(101,_)] r5 r2
 refine Za (Ya (Ye (Ya ?_)))
 refine Zz O kr
   (cF rfl (ZA (off:=0) 101 .is kr (by rfl)) r1 r1
   (cF rfl (Zaq (ag:=false) (sz:=1) 101 .adr kr kr kr (by rfl)) r1 r1
   (cF rfl (ZaR .t (.ci kr)) r1 trivial
   (cF rfl (ZI .t (by rfl)) r1 trivial
   (Zq.cons (Zaj.cond rfl rfl (fun h=>ZA (off:=0) 101 .is kr (by rfl))) r2 r1
   (Zq.cons (Zaj.cond rfl rfl (fun h=>Zaq (ag:=false) (sz:=1) 101 (.w h .adr) kr kr kr (by rfl))) r2 r1
   (Zq.cons (Zaj.cond rfl rfl (fun h=>ZI .t (by rfl))) r2 trivial
   (Zq.cons (Zaj.cond rfl rfl (fun h=>Zal (.w h) (.w h))) r3 trivial
   (cF rfl (ZaM .t .t) r2 trivial
   (cF rfl (ZI .t (by rfl)) r1 trivial
   (Zq.cons (Zaj.cond rfl rfl (fun h=>ZA (off:=1) 101 .is kr (by rfl))) r2 r1
   (Zq.cons (Zaj.cond rfl rfl (fun h=>Zaq (ag:=false) (sz:=1) 101 (.w h .adr) kr kr kr (by rfl))) r2 r1
   (Zq.cons (Zaj.cond rfl rfl (fun h=>ZaR (.w h) (.ci kr))) r2 trivial
   (cF rfl (ZaM .t .t) r2 trivial
   (cF rfl (ZI .t (by rfl)) r1 trivial
   (Zq.cons (Zaj.cond rfl rfl (fun h=>ZA (off:=1) 101 .is kr (by rfl))) r2 r1
   (Zq.cons (Zaj.cond rfl rfl (fun h=>Zaq (ag:=false) (sz:=1) 101 (.w h .adr) kr kr kr (by rfl))) r2 r1
   (Zq.cons (Zaj.cond rfl rfl (fun h=>ZI .t (by rfl))) r2 trivial
   (Zq.cons (Zaj.cond rfl rfl (fun h=>Zal (.w h) (.w h))) r3 trivial
   (cF rfl (ZaM .t .t) r2 trivial
   (cF rfl (ZM .t (by rfl)) r1 trivial
   Zq.nil)))))))))))))))))))))
   kr (by rw [V];kernel_rfl) ?_
 clear O;intro a w F O
 obtain ⟨F,O⟩:=O.norm [(0,_),(3,_),(4,_),(5,_),(6,_),(9,_)] [(0,_),(101,_)] r6 r2
 try dsimp only [List.map,List.drop_succ_cons,List.drop_zero,List.drop_nil,List.take_succ_cons,List.take_zero,List.take_nil,ldSF] at O
 refine Za (Zc O Z (fun hc0=>?_) (fun hc0=>?_))
 ·have hb:Zem [] c:=by unfold Zem;simp only [Yao,Yj] at hc0;simp only [Yq];omega
  have hg:Zbn 0 [] c=([],0,1):=Yf hb
  refine Ya ?_
  refine Zz O kr
    (cF rfl (ZM (.ci kr) (by rfl)) trivial trivial
    (cF rfl (ZM (.ci kr) (by rfl)) trivial trivial
    Zq.nil))
    kr (by rw [V];kernel_rfl) ?_
  clear O;intro a w F O
  obtain ⟨F,O⟩:=O.norm [(0,_),(3,_),(4,_),(5,_),(6,_)] [(0,_),(101,_)] r5 r2
  refine Za (Yh (Zr (Zf (Z3 hfr O Z (.tmp Z (.tmp Z .nil)) (.two (.int (by rw [hg])) (.int (by rw [hg])))))))
 have hb:¬ Zem [] c:=by unfold Zem;simp only [YaG,Yi] at hc0;simp only [Yq];omega
 have hg:Zbn 0 [] c=([],0,2):=by unfold Zbn;rw [Yb hb,Yf (by simp)]
 refine Ya ?_
 refine Zz O kr
   (cF rfl (ZI .t (by rfl)) r1 trivial
   (cF rfl (ZgX (ZnC) func120 rfl kr (Args.one .t)) r1 trivial
   (cF rfl (o_eql .t (.ci kr)) r1 trivial
   (cF rfl (ZM .t (by rfl)) r1 trivial
   Zq.nil))))
   kr (by rw [V];kernel_rfl) ?_
 clear O;intro a w F O
 obtain ⟨F,O⟩:=O.norm [(0,_),(3,_),(4,_),(5,_),(6,_),(30,_)] [(0,_),(101,_)] r6 r2
 refine Za (Zc O Z (fun hc1=>?_) (fun hc1=>?_))
 ·refine Ya ?_
  refine Zz O kr
    (cF rfl (ZM (.ci kr) (by rfl)) trivial trivial
    (cF rfl (ZM (.ci kr) (by rfl)) trivial trivial
    Zq.nil))
    kr (by rw [V];kernel_rfl) ?_
  clear O;intro a w F O
  obtain ⟨F,O⟩:=O.norm [(0,_),(3,_),(4,_),(5,_),(6,_)] [(0,_),(101,_)] r5 r2
  refine Za (Yh (Zr (Zf (Z3 hfr O Z (.tmp Z (.tmp Z .nil)) (.two (.int (by rw [hg])) (.int (by rw [hg])))))))
 simp at hc1
theorem Zik {v:Value} {room:Int} {q:List Cell} {w:World} {f y:Ys} (h:(ZaV v room q).p w f y):∃ b,v = .pointer (some ⟨b,0,none⟩):=by
 obtain ⟨_,_,_,h⟩:=h
 exact HP.star_pt h
def getC (q:List Cell) (i:Int):Cell:=(ZnS q i).1
theorem Zhe (q:List Cell):getC q 0=default:=by unfold getC ZnS;rw [Yb ow]
theorem Zlg {q:List Cell} {i:Int} (h:1≤i∧i≤q.length):getC q i=Nn q (i - 1).toNat:=by unfold getC ZnS;rw [Yf h]
theorem ZqN {q:List Cell} {i:Int} (h:1≤i∧i≤q.length) (e:List Cell):getC (q++e) i=getC q i:=by
 rw [Zlg h,Zlg (by simp only [Yc];omega),Zy (show (i - 1).toNat<q.length by omega),Zy (show (i - 1).toNat<(q++e).length by simp only [Yc];omega),List.getElem_append_left (show (i - 1).toNat<q.length by omega)]
theorem Zn4 (q:List Cell) (c:Cell):getC (q ++ [c]) ((q.length:Int)+1)=c:=by
 rw [Zlg (by simp only [Yc,Yl,Yq];omega),show ((q.length:Int)+1 - 1).toNat=q.length by omega,Zy (by simp)]
 simp
def Rep (kf:Int→Int) (q:List Cell):Zae→Int→Prop
 | .nil,i=>i=0
 | .node l p r,i=>(1≤i∧i≤q.length)∧Rep kf q l (getC q i).left∧Rep kf q r (getC q i).right∧(getC q i).key=p.key∧kf p.key=p.key∧(getC q i).val=p.val∧(getC q i).size=ZD l+ZD r+1∧(getC q i).high=max (Zm l) (Zm r)+1
theorem Rep.high {kf:Int→Int} {q:List Cell} : ∀ {t:Zae} {i:Int},Rep kf q t i→(getC q i).high=Zm t
 | .nil,i,h=>by rw [show i=0 from h,Zhe];rfl
 | .node l p r,i,h=>h.2.2.2.2.2.2.2
theorem Rep.size {kf:Int→Int} {q:List Cell} : ∀ {t:Zae} {i:Int},Rep kf q t i→(getC q i).size=ZD t
 | .nil,i,h=>by rw [show i=0 from h,Zhe];rfl
 | .node l p r,i,h=>h.2.2.2.2.2.2.1
theorem Rep.range {kf:Int→Int} {q:List Cell} : ∀ {t:Zae} {i:Int},Rep kf q t i→0≤i∧i≤q.length
 | .nil,i,h=>by rw [show i=0 from h];omega
 | .node l p r,i,h=>by have:=h.1;omega
theorem Rep.app {kf:Int→Int} {q:List Cell} (e:List Cell):∀ {t:Zae} {i:Int},Rep kf q t i→Rep kf (q++e) t i
 | .nil,i,h=>h
 | .node l p r,i,h=>by
  obtain ⟨h1,h2,h3,h4⟩:=h
  have hl:=h2.app e
  have hr:=h3.app e
  unfold Rep
  rw [ZqN h1]
  exact ⟨⟨h1.1,by simp only [Yc];omega⟩,hl,hr,h4⟩
theorem Rep.zero {kf:Int→Int} {q:List Cell} {t:Zae} (h:Rep kf q t 0):t = .nil:=by
 match t,h with
 | .nil,_=>rfl
 | .node l p r,h=>have:=h.1;omega
theorem Rep.node {kf:Int→Int} {q:List Cell} {t:Zae} {i:Int} (h:Rep kf q t i) (hi:i≠0):∃ l p r,t = .node l p r:=by
 match t,h with
 | .nil,h=>exact absurd h hi
 | .node l p r,h=>exact ⟨l,p,r,rfl⟩
def ZH (kf:Int→Int) (c:Cell):ZF:=⟨kf c.key,c.val⟩
theorem Rep.pair {kf:Int→Int} {q:List Cell} {l r:Zae} {p:ZF} {i:Int} (h:Rep kf q (.node l p r) i):ZH kf (getC q i)=p:=by
 obtain ⟨_,_,_,h4,h5,h6,_⟩:=h
 unfold ZH
 rw [h4,h5,h6]
abbrev St:=List Cell×Int×Int
def Zby (q:List Cell) (l r:Int) (p:ZF):Cell:=⟨l,r,p.key,p.val,IntKind.wrap .i64 (IntKind.wrap .i64 ((getC q l).size+(getC q r).size)+1),IntKind.wrap .i64 ((if (getC q l).high<(getC q r).high then (getC q r).high else (getC q l).high)+1)⟩
def madeS (room:Int) (q:List Cell) (why l r:Int) (p:ZF):St:=
 if why≠0 then (q,why,0) else ((Zbn room q (Zby q l r p)).1,(Zbn room q (Zby q l r p)).2.2,(Zbn room q (Zby q l r p)).2.1)
def ZaO (kf:Int→Int) (room:Int) (q:List Cell) (why l r:Int) (p:ZF):St:=
 if IntKind.wrap .i64 ((getC q r).high+1)<(getC q l).high then
  if (getC q (getC q l).right).high≤(getC q (getC q l).left).high then
   let m:=madeS room q why (getC q l).right r p
   madeS room m.1 m.2.1 (getC q l).left m.2.2 (ZH kf (getC q l))
  else
   let z:=getC q (getC q l).right
   let m:=madeS room q why (getC q l).left z.left (ZH kf (getC q l))
   let n:=madeS room m.1 m.2.1 z.right r p
   madeS room n.1 n.2.1 m.2.2 n.2.2 (ZH kf z)
 else if IntKind.wrap .i64 ((getC q l).high+1)<(getC q r).high then
  if (getC q (getC q r).left).high≤(getC q (getC q r).right).high then
   let m:=madeS room q why l (getC q r).left p
   madeS room m.1 m.2.1 m.2.2 (getC q r).right (ZH kf (getC q r))
  else
   let z:=getC q (getC q r).left
   let m:=madeS room q why l z.left p
   let n:=madeS room m.1 m.2.1 z.right (getC q r).right (ZH kf (getC q r))
   madeS room n.1 n.2.1 m.2.2 n.2.2 (ZH kf z)
 else madeS room q why l r p
theorem Zaw {room:Int} {q:List Cell} {why l r:Int} {p:ZF} (h:why≠0):madeS room q why l r p=(q,why,0):=Yf h
theorem ZcQ {kf:Int→Int} {room:Int} {q:List Cell} {why l r:Int} {p:ZF} (h:why≠0):ZaO kf room q why l r p=(q,why,0):=by
 unfold ZaO
 split
 ·split
  ·simp only [Zaw h]
  ·simp only [Zaw h]
 ·split
  ·split
   ·simp only [Zaw h]
   ·simp only [Zaw h]
  ·exact Zaw h
def ZdX (kf:Int→Int) (room:Int) (q:List Cell) (lo n:Int) (x:St) (t:Zae):Prop:=
 ∃ e:List Cell,x.1=q++e∧(e.length:Int)≤n∧((x.2.1=0∧Rep kf x.1 t x.2.2∧lo≤e.length)∨(x.2.1=2∧room<q.length+n))
theorem ZdX.bind {kf:Int→Int} {room:Int} {q:List Cell} {lo n lo' m:Int} {x y:St} {t t':Zae} (h:ZdX kf room q lo n x t) (hm:0≤m) (h0:∀ e,x.1=q++e→x.2.1=0→Rep kf x.1 t x.2.2→ZdX kf room x.1 lo' m y t') (h1:x.2.1≠0→y=(x.1,x.2.1,0)):ZdX kf room q (lo+lo') (n+m) y t':=by
 obtain ⟨e,e1,e2,⟨e3,e4,e5⟩ | ⟨e3,e4⟩⟩:=h
 ·obtain ⟨f,f1,f2,f3⟩:=h0 e e1 e3 e4
  refine ⟨e++f,by rw [f1,e1,Yp],by simp only [Yc];omega,?_⟩
  rw [e1] at f3
  simp only [Yc] at f3 ⊢
  rcases f3 with ⟨f3,f4,f5⟩ | ⟨f3,f4⟩
  ·exact .inl ⟨f3,f4,by omega⟩
  ·exact .inr ⟨f3,by omega⟩
 ·rw [h1 ow]
  exact ⟨e,e1,by omega,.inr ⟨e3,by omega⟩⟩
theorem ZdX.weak {kf:Int→Int} {room:Int} {q:List Cell} {lo n lo' n':Int} {x:St} {t:Zae} (h:ZdX kf room q lo n x t) (h1:lo' ≤ lo) (h2:n≤n'):ZdX kf room q lo' n' x t:=by
 obtain ⟨e,e1,e2,⟨e3,e4,e5⟩ | ⟨e3,e4⟩⟩:=h
 ·exact ⟨e,e1,by omega,.inl ⟨e3,e4,by omega⟩⟩
 ·exact ⟨e,e1,by omega,.inr ⟨e3,by omega⟩⟩
theorem Zat {kf:Int→Int} {room:Int} {q:List Cell} {li ri:Int} {l r:Zae} {p:ZF} (hl:Rep kf q l li) (hr:Rep kf q r ri) (hp:kf p.key=p.key) (hs:ZD l+ZD r≤1000000):ZdX kf room q 1 1 (madeS room q 0 li ri p) (.node l p r):=by
 have bl:=hl.range
 have br:=hr.range
 have sl:=ZP l
 have sr:=ZP r
 have gl:=Zac l
 have gr:=Zac r
 have kl:=Zd1 l
 have kr:=Zd1 r
 unfold madeS
 rw [Yb ow]
 unfold Zbn
 rw [Yb (by unfold Zem Zby;simp only;omega)]
 split
 ·exact ⟨[],(YF q).symm,by simp,.inr ⟨rfl,by omega⟩⟩
 ·refine ⟨[Zby q li ri p],rfl,by simp,.inl ⟨rfl,?_,by simp⟩⟩
  unfold Rep
  simp only
  rw [Zn4]
  refine ⟨⟨by omega,by simp only [Yc,Yl,Yq];omega⟩,hl.app _,hr.app _,rfl,hp,rfl,?_,?_⟩
  ·unfold Zby
   simp only
   rw [hl.size,hr.size,Zj (x:=ZD l+ZD r) ow,Zj ow]
  ·unfold Zby
   simp only
   rw [hl.high,hr.high,show (if Zm l<Zm r then Zm r else Zm l)=max (Zm l) (Zm r) by split <;> omega,Zj ow]
theorem Zch {kf:Int→Int} {room:Int} {q:List Cell} {li ri:Int} {l r:Zae} {p:ZF} (hl:Rep kf q l li) (hr:Rep kf q r ri) (hp:kf p.key=p.key) (hs:ZD l+ZD r≤1000000):ZdX kf room q 1 3 (ZaO kf room q 0 li ri p) (Zbh l p r):=by
 have sl:=ZP l
 have sr:=ZP r
 have gl:=Zac l
 have gr:=Zac r
 have kl:=Zd1 l
 have kr:=Zd1 r
 unfold ZaO Zbh
 rw [hl.high,hr.high,Zj ow,Zj ow]
 split
 ·rename_i hh
  match l,hl with
  | .nil,hl=>simp [Zm] at hh;omega
  | .node ll lp lr,hl=>
   have hk:=hl
   obtain ⟨h1,h2,h3,h4,h5,h6,_⟩:=hl
   have s1:ZD (.node ll lp lr)=ZD ll+ZD lr+1:=rfl
   have s2:=ZP ll
   have s3:=ZP lr
   rw [h3.high,h2.high,hk.pair]
   show ZdX kf room q 1 3 _ (if Zm lr≤Zm ll then _ else _)
   split
   ·refine (ZdX.bind (lo:=1) (n:=1) (lo':=1) (m:=1) (Zat h3 hr hp ow) ow (fun e e1 e3 e4=>?_) fun h=>Zaw h).weak ow ow
    rw [e3]
    refine Zat (by rw [e1];exact h2.app e) e4 h5 ?_
    show ZD ll+(ZD lr+ZD r+1)≤_
    omega
   ·rename_i h9
    match lr,h3 with
    | .nil,h3=>simp [Zm] at h9;have:=Zac ll;omega
    | .node a z b,h3=>
     have hz:=h3
     obtain ⟨j1,j2,j3,j4,j5,j6,_⟩:=h3
     have s4:ZD (.node a z b)=ZD a+ZD b+1:=rfl
     have s5:=ZP a
     have s6:=ZP b
     show ZdX kf room q 1 3 _ (.node (.node ll lp a) z (.node b p r))
     refine (ZdX.bind (lo:=1) (n:=1) (lo':=2) (m:=2) (Zat h2 j2 h5 ow) ow (fun e e1 e3 e4=>?_) fun h=>?_).weak ow ow
     ·simp only
      rw [e3]
      generalize madeS room q 0 (getC q li).left (getC q (getC q li).right).left lp=mm at e1 e3 e4 ⊢
      refine (ZdX.bind (lo:=1) (n:=1) (lo':=1) (m:=1) (Zat (l:=b) (r:=r) (by rw [e1];exact j3.app e) (by rw [e1];exact hr.app e) hp ow) ow (fun f f1 f3 f4=>?_) fun h=>Zaw h).weak ow ow
      rw [f3,hz.pair]
      refine Zat (by rw [f1];exact e4.app f) f4 j5 ?_
      show (ZD ll+ZD a+1)+(ZD b+ZD r+1)≤_
      omega
     ·simp only [Zaw h]
 ·split
  ·rename_i hn hh
   match r,hr with
   | .nil,hr=>simp [Zm] at hh;omega
   | .node rl rp rr,hr=>
    have hk:=hr
    obtain ⟨h1,h2,h3,h4,h5,h6,_⟩:=hr
    have s1:ZD (.node rl rp rr)=ZD rl+ZD rr+1:=rfl
    have s2:=ZP rl
    have s3:=ZP rr
    rw [h3.high,h2.high,hk.pair]
    show ZdX kf room q 1 3 _ (if Zm rl≤Zm rr then _ else _)
    split
    ·refine (ZdX.bind (lo:=1) (n:=1) (lo':=1) (m:=1) (Zat hl h2 hp ow) ow (fun e e1 e3 e4=>?_) fun h=>Zaw h).weak ow ow
     rw [e3]
     refine Zat e4 (by rw [e1];exact h3.app e) h5 ?_
     show (ZD l+ZD rl+1)+ZD rr≤_
     omega
    ·rename_i h9
     match rl,h2 with
     | .nil,h2=>simp [Zm] at h9;have:=Zac rr;omega
     | .node a z b,h2=>
      have hz:=h2
      obtain ⟨j1,j2,j3,j4,j5,j6,_⟩:=h2
      have s4:ZD (.node a z b)=ZD a+ZD b+1:=rfl
      have s5:=ZP a
      have s6:=ZP b
      show ZdX kf room q 1 3 _ (.node (.node l p a) z (.node b rp rr))
      refine (ZdX.bind (lo:=1) (n:=1) (lo':=2) (m:=2) (Zat hl j2 hp ow) ow (fun e e1 e3 e4=>?_) fun h=>?_).weak ow ow
      ·simp only
       rw [e3]
       generalize madeS room q 0 li (getC q (getC q ri).left).left p=mm at e1 e3 e4 ⊢
       refine (ZdX.bind (lo:=1) (n:=1) (lo':=1) (m:=1) (Zat (l:=b) (r:=rr) (by rw [e1];exact j3.app e) (by rw [e1];exact h3.app e) h5 ow) ow (fun f f1 f3 f4=>?_) fun h=>Zaw h).weak ow ow
       rw [f3,hz.pair]
       refine Zat (by rw [f1];exact e4.app f) f4 j5 ?_
       show (ZD l+ZD a+1)+(ZD b+ZD rr+1)≤_
       omega
      ·simp only [Zaw h]
  ·exact (Zat hl hr hp hs).weak ow ow
theorem FnP.ownA {P:Program} {f:FuncId} {args:List PV} {q:PV} {c c':Prop} (h:c→FnP P f args q) (hc:c→c'):FnG P f 1 args [HP.and c (HP.star [])] q (fun _=>[HP.and c' (HP.star [])]):=fun w F vs hw hle hvs hpr=>by
 have h0:=hpr 0 _ rfl
 refine (h h0.1 w (U F) vs (fun b ⟨n,hn⟩=>hw.bd n b hn) hvs).mono ?_
 rintro e' w' ⟨v,rfl,hq,hbel⟩
 refine ⟨v,F,rfl,⟨hw.dis,fun n b hn=>YaH (hw.bd n b hn) hbel.size⟩,⟨hbel.os,hbel.tape,hbel.output,hbel.size,fun b hb _=>hbel.block b hb,fun _ _=>rfl,fun n hn b hb=>.inl ⟨n,hn,hb⟩⟩,hle,hq,fun i h hi=>?_⟩
 match i,hi with
 | 0,hi=>
  simp at hi
  subst hi
  exact ⟨hc h0.1,h0.2⟩
def arV (o:Option Nat):Value:=.pointer (o.map fun b=>⟨b,0,none⟩)
def arH (o:Option Nat) (room:Int) (q:List Cell):HP:=
 match o with
 | none=>.and (room=0∧q = []) (.star [])
 | some b=>ZaV (.pointer (some ⟨b,0,none⟩)) room q
theorem ZmU (o:Option Nat) (room:Int) (q:List Cell):FnG prog 182 1 [.is (arV o)] [arH o room q] (.int .i64 q.length) (fun _=>[arH o room q]):=
 match o with
 | some b=>ZiY b room q
 | none=>FnP.ownA (c:=room=0∧q = []) (fun h=>by rw [h.2];exact ZeE) fun h=>h
theorem ZrE (o:Option Nat) (room:Int) (q:List Cell) (i:Int):FnG prog 174 1 [.is (arV o),.int .i64 i] [arH o room q] (.tup [.agg (Z4 (getC q i)),.bool (ZnS q i).2]) (fun _=>[arH o room q]):=
 match o with
 | some b=>ZsO b room q i
 | none=>FnP.ownA (c:=room=0∧q = []) (fun h=>by rw [h.2];exact ZpO i) fun h=>h
theorem ZrD (o:Option Nat) (room:Int) (q:List Cell) (n:Int):FnG prog 189 1 [.is (arV o),.int .i64 n] [arH o room q] (.bool (Zlw q n)) (fun _=>[arH o room (ZcM q n)]):=
 match o with
 | some b=>ZsI b room q n
 | none=>FnP.ownA (c:=room=0∧q = []) (c':=room=0∧ZcM q n = []) (fun h=>by rw [h.2];exact Zp3 n) fun h=>⟨h.1,by rw [h.2];unfold ZcM;split <;> simp⟩
theorem ZrL (o:Option Nat) (room:Int) (q:List Cell) (c:Cell):FnG prog 251 1 [.is (arV o),.agg (Z4 c)] [arH o room q] (.tup [.int .i64 (Zbn room q c).2.1,.int .i64 (Zbn room q c).2.2]) (fun _=>[arH o room (Zbn room q c).1]):=
 match o with
 | some b=>Zsm b room q c
 | none=>FnP.ownA (c:=room=0∧q = []) (c':=room=0∧(Zbn room q c).1 = []) (fun h=>by rw [h.1,h.2];exact Zpr c) fun h=>⟨h.1,by rw [h.1,h.2];unfold Zbn;split;rfl;rw [Yf (by simp)]⟩
theorem ZbB (o:Option Nat) (room:Int) (q:List Cell) (root i:Int):FnG prog 107 1 [.agg [.is (arV o),.int .i64 root],.int .i64 i] [arH o room q] (.agg (Z4 (getC q i))) (fun _=>[arH o room q]):=by
 refine FnG.mk func107 Z ntmps107 Z kr fun B F0 a w F V hG O=>Ya ?_
 refine Zb O (qx 101 r1 (qf (oH [.int .i64 0,.int .i64 0,.int .i64 0,.int .i64 0,.int .i64 0,.int .i64 0] 102) trivial qz qZ)) V [4,2,1] [102,101,1,0] (fun _=>rfl) (fun _=>rfl) fun τ a w F O=>?_
 try dsimp only [RS.sub,SF.sub,CF.sub,csub,Anc.sub,List.map,zCF,Z4,ZC] at O
 generalize τ 2=v2,τ 4=v4 at O
 refine Za (Ya (Zb O (qg 0 101 r1 r1 (qa 101 r1 r1 (qR rr (qf (o_callG1 1 (ZrE o room q i) func174 Z kr (Args.two .t .t)) r2 r1 (qR rr (qf (o_extract .t Z) r1 qz (qf (o_extract .t Z) r1 qz (qf (oH [.int .i64 0,.int .i64 0,.int .i64 0,.int .i64 0,.int .i64 0,.int .i64 0] 103) trivial qz (qf (oA 6 103 .same (.conv .t .agg)) r2 r1 (qO rr qZ)))))))))) V [5,4] [103,102,1,0] (fun _=>rfl) (fun _=>rfl) fun τ a w F O=>?_))
 try dsimp only [RS.sub,SF.sub,CF.sub,csub,Anc.sub,List.map,Zd,xL,xM,Nat.reduceAdd,xD,xE,xT,xU,xC,xN,zCF,ldSF,Z4,ZC] at O
 generalize τ 5=v5 at O
 refine Za (Ya (rZ O (qe 6 103 r1 r1 (qs 6 102 r2 r1 qZ)) V [4] [102,1,0] fun O=>Yh ?_))
 refine ZE hG O Z (.cl 102 true 6 Z Z .nil) (.one (.aggU Z Z)) rfl
theorem scell_c (o:Option Nat) (room:Int) (q:List Cell) (root i:Int):FnG prog 109 1 [.agg [.is (arV o),.int .i64 root],.int .i64 i] [arH o room q] (.agg (Z4 (getC q i))) (fun _=>[arH o room q]):=by
 refine FnG.mk func109 Z ntmps109 Z kr fun B F0 a w F V hG O=>Ya ?_
 refine Zb O (qx 101 r1 (qf (oH [.int .i64 0,.int .i64 0,.int .i64 0,.int .i64 0,.int .i64 0,.int .i64 0] 102) trivial qz qZ)) V [4,2,1] [102,101,1,0] (fun _=>rfl) (fun _=>rfl) fun τ a w F O=>?_
 try dsimp only [RS.sub,SF.sub,CF.sub,csub,Anc.sub,List.map,zCF,Z4,ZC] at O
 generalize τ 2=v2,τ 4=v4 at O
 refine Za (Ya (Zb O (qg 0 101 r1 r1 (qa 101 r1 r1 (qR rr (qf (o_callG1 1 (ZrE o room q i) func174 Z kr (Args.two .t .t)) r2 r1 (qR rr (qf (o_extract .t Z) r1 qz (qf (o_extract .t Z) r1 qz (qf (oH [.int .i64 0,.int .i64 0,.int .i64 0,.int .i64 0,.int .i64 0,.int .i64 0] 103) trivial qz (qf (oA 6 103 .same (.conv .t .agg)) r2 r1 (qO rr qZ)))))))))) V [5,4] [103,102,1,0] (fun _=>rfl) (fun _=>rfl) fun τ a w F O=>?_))
 try dsimp only [RS.sub,SF.sub,CF.sub,csub,Anc.sub,List.map,Zd,xL,xM,Nat.reduceAdd,xD,xE,xT,xU,xC,xN,zCF,ldSF,Z4,ZC] at O
 generalize τ 5=v5 at O
 refine Za (Ya (rZ O (qe 6 103 r1 r1 (qs 6 102 r2 r1 qZ)) V [4] [102,1,0] fun O=>Yh ?_))
 refine ZE hG O Z (.cl 102 true 6 Z Z .nil) (.one (.aggU Z Z)) rfl
def ZaD (T:Nat) (v:Value) (o:Option Nat) (root why room:Int) (q:List Cell):HP:=.star [.pt (.val v) T [.pv (.is (arV o)),.pv (.int .i64 root),.pv (.int .i64 why)],RS.hp (arH o room q)]
def Zdk (q:List Cell) (l r x:Int):Cell:=⟨l,r,0,x,IntKind.wrap .i64 (IntKind.wrap .i64 ((getC q l).size+(getC q r).size)+1),IntKind.wrap .i64 (1+if (getC q l).high<(getC q r).high then (getC q r).high else (getC q l).high)⟩
theorem Zoi (q:List Cell) (l r x:Int):Zdk q l r x=Zby q l r ⟨0,x⟩:=by unfold Zdk Zby;rw [Int.add_comm 1 _]
theorem Zdj (c:Cell):FnP prog 247 [.agg (Z4 c)] (.agg (ZC (ZH id c))):=by
 refine FnP.mk func247 Z ntmps247 Z fun B a w F V hfr O=>Ya ?_
 refine Zb O (qx 101 r1 (qf (oH [.int .i64 0,.int .i64 0] 102) trivial qz qZ)) V [2,1] [102,101,0] (fun _=>rfl) (fun _=>rfl) fun τ a w F O=>?_
 try dsimp only [RS.sub,SF.sub,CF.sub,csub,Anc.sub,List.map,zCF,Z4,ZC,ZH] at O
 generalize τ 1=v1,τ 2=v2 at O
 refine Za (Ya (rZ O (qg 2 101 r1 r1 (qa 101 r1 r1 (qg 3 101 r1 r1 (qa 101 r1 r1 (qf (oB [(0,.tmp 4),(1,.tmp 6)] [.int .i64 0,.int .i64 0] [(0,1),(1,1)] (.one Z .t one_int kr (.one Z .t one_int kr .nil))) r2 qz (qs 2 102 r2 r1 qZ)))))) V [2] [102,0] fun O=>Yh ?_))
 refine Z3 hfr O Z (.cl 102 true 2 Z Z .nil) (.one (.aggU Z Z))
theorem Zbv (b:Nat) (o:Option Nat) (root why room:Int) (q:List Cell) (l r:Int) (p:ZF):FnG prog 249 1 [.is (.pointer (some ⟨b,0,none⟩)),.int .i64 l,.int .i64 r,.agg (ZC p)] [ZaD 242 (.pointer (some ⟨b,0,none⟩)) o root why room q] (.int .i64 (madeS room q why l r p).2.2) (fun _=>[ZaD 242 (.pointer (some ⟨b,0,none⟩)) o root (madeS room q why l r p).2.1 room (madeS room q why l r p).1]):=by
 refine FnG.mk func249 Z ntmps249 Z kr fun B F0 a w F V hG O=>?_
 obtain ⟨F,O⟩:=O.peel 1 4 Z rfl
 obtain ⟨F,O⟩:=O.peel 1 5 Z rfl
 obtain ⟨F,O⟩:=O.nM [3,2,1,0] [5,4,0]
 refine Ya (Zb O (qx 101 r1 (qI qZ)) V [8,7,2,1,0] [101,5,4,0] (fun _=>rfl) (fun _=>rfl) fun τ a w F O=>?_)
 try dsimp only [RS.sub,SF.sub,CF.sub,csub,Anc.sub,List.map,zCF,Z4,ZC,Zby,Zdk] at O
 generalize τ 7=v7 at O
 refine Za (Ya (Ya (rZ O (qR rr (qf (o_nilCheck 4 .is (by rfl)) r1 r1 (qf (oF 2 4 .adr) r1 r1 (qa 4 r1 r1 (qf (o_neq .t qi) r1 qz qZ))))) V [18,8,7,2,1,0] [101,5,4,0] fun O=>?_)))
 refine Zc O Z (fun hc0=>?_) (fun hc0=>?_)
 ·have hg:(madeS room q why l r p)=(q,why,0):=Zaw (by simpa using hc0)
  refine Ya (rZ O (qI qZ) V [8,7,2,1,0] [101,5,4,0] fun O=>(Yh (Zf ?_)))
  have O:=O.fresh 1 rfl
  obtain ⟨F,O⟩:=O.push 1 5 Z Z Z kr
  obtain ⟨F,O⟩:=O.push 1 4 Z Z Z kr
  have O:=O.turn 1 Z (r':=RS.hp (ZaD 242 (.pointer (some ⟨b,0,none⟩)) o root (madeS room q why l r p).2.1 room (madeS room q why l r p).1)) (fun _ _ _ _ h=>by rw [hg];exact h)
  refine ZE hG O Z (.tmp Z .nil) (.one (.int (by first | (rw [hg];done) | (rw [hg];rfl)))) rfl
 have hg:(madeS room q why l r p)=((Zbn room q (Zby q l r p)).1,(Zbn room q (Zby q l r p)).2.2,(Zbn room q (Zby q l r p)).2.1):=by exact Yb (by simpa using hc0)
 refine Yd (Za (Ya (ZaK O (qR rr (qf (o_nilCheck 4 .is (by rfl)) r1 r1 (qf (oF 0 4 .adr) r1 r1 (qf (oL true 2 4 .adr) r1 r1 (qR rr (qf (o_callG1 5 (ZbB o room q root l) func107 Z kr (Args.two (.pagg .t) .t)) r2 r1 (qR rr (qf (o_nilCheck 4 .is (by rfl)) r1 r1 (qf (oF 0 4 .adr) r1 r1 (qf (oL true 2 4 .adr) r1 r1 (qR rr (qf (o_callG1 5 (ZbB o room q root r) func107 Z kr (Args.two (.pagg .t) .t)) r2 r1 (qf (oH [.int .i64 0,.int .i64 0,.int .i64 0,.int .i64 0,.int .i64 0,.int .i64 0] 102) trivial qz (qf (oH [.int .i64 0,.int .i64 0,.int .i64 0,.int .i64 0,.int .i64 0,.int .i64 0] 103) trivial qz (qf (oA 6 102 .same (.conv .t .agg)) r2 r1 (qf (oA 6 103 .same (.conv .t .agg)) r2 r1 qZ)))))))))))))))) V [10,9,8,7,2,1,0] [103,102,101,5,4,0] (fun _=>rfl) (fun _=>rfl) fun τ a w F O=>?_)))
 try dsimp only [RS.sub,SF.sub,CF.sub,csub,Anc.sub,List.map,Zd,xL,xM,Nat.reduceAdd,xD,xE,xT,xU,xC,xN,zCF,ldSF,Z4,ZC,Zby,Zdk] at O
 generalize τ 9=v9,τ 10=v10 at O
 refine Za (Ya (Zb O (qR rr (qR rr (qg 0 101 r1 r1 (qa 101 r1 r1 (qg 1 101 r1 r1 (qa 101 r1 r1 (qg 4 102 r1 r1 (qa 102 r1 r1 (qg 4 103 r1 r1 (qa 103 r1 r1 (qf (o_add .t .t) r2 qz (qp r1 (qg 5 102 r1 r1 (qa 102 r1 r1 (qg 5 103 r1 r1 (qa 103 r1 r1 (qf (Zsf .t .t) r2 qz (qp r1 (qf (oB [(0,.tmp 31),(1,.tmp 32),(2,.tmp 34),(3,.tmp 36),(4,.tmp 42),(5,.tmp 48)] [.int .i64 0,.int .i64 0,.int .i64 0,.int .i64 0,.int .i64 0,.int .i64 0] [(0,1),(1,1),(2,1),(3,1),(4,1),(5,1)] (.one Z .t one_int kr (.one Z .t one_int kr (.one Z .t one_int kr (.one Z .t one_int kr (.one Z .t one_int kr (.one Z .t one_int kr .nil))))))) r6 qz (qf (oH [.int .i64 0,.int .i64 0,.int .i64 0,.int .i64 0,.int .i64 0,.int .i64 0] 104) trivial qz (qS 6 104 r2 r1 qZ))))))))))))))))))))) V [11,8,0] [104,5,4,0] (fun _=>rfl) (fun _=>rfl) fun τ a w F O=>?_))
 try dsimp only [RS.sub,SF.sub,CF.sub,csub,Anc.sub,List.map,Zd,xL,xM,Nat.reduceAdd,xD,xE,xT,xU,xC,xN,zCF,ldSF,Z4,ZC,Zby,Zdk] at O
 generalize τ 11=v11 at O
 refine Za (Ya (Zu O (qR rr (qf (o_nilCheck 4 .is (by rfl)) r1 r1 (qf (oF 0 4 .adr) r1 r1 (qf (oF 0 4 .adr) r1 r1 (qa 4 r1 r1 (qe 6 104 r1 r1 (qf (o_callG1 5 (ZrL o room q (Zby q l r p)) func251 Z kr (Args.two .t (.pagg .t))) r2 r1 (qR rr (qf (o_extract .t Z) r1 qz (qf (o_extract .t Z) r1 qz (qO rr (qO rr qZ)))))))))))) V [13,12,8,0] [5,4,0] Z Z fun a w F O=>?_))
 try dsimp only [List.map,xD,xE,xT,xU,ldSF,Z4,ZC,Zby,Zdk] at O
 refine Za (Ya (rZ O (qR rr (qR rr (qf (o_nilCheck 4 .is (by rfl)) r1 r1 (qf (oF 2 4 .adr) r1 r1 (qf (ZeU 4 .adr .t one_int kr kr) r2 r1 qZ))))) V [12,8] [5,4,0] fun O=>Ya ?_))
 refine rZ O (qR rr (qO rr qZ)) V [8] [5,4,0] fun O=>Yh ?_
 have O:=O.fresh 1 rfl
 obtain ⟨F,O⟩:=O.push 1 5 Z Z Z kr
 obtain ⟨F,O⟩:=O.push 1 4 Z Z Z kr
 have O:=O.turn 1 Z (r':=RS.hp (ZaD 242 (.pointer (some ⟨b,0,none⟩)) o root (madeS room q why l r p).2.1 room (madeS room q why l r p).1)) (fun _ _ _ _ h=>by rw [hg];exact h)
 refine ZE hG O Z (.tmp Z .nil) (.one (.int (by first | (rw [hg];done) | (rw [hg];rfl)))) rfl
theorem ZfD (b:Nat) (o:Option Nat) (root why room:Int) (q:List Cell) (l r:Int) (p:ZF):FnG prog 246 1 [.is (.pointer (some ⟨b,0,none⟩)),.int .i64 l,.int .i64 r,.agg (ZC p)] [ZaD 242 (.pointer (some ⟨b,0,none⟩)) o root why room q] (.int .i64 (ZaO id room q why l r p).2.2) (fun _=>[ZaD 242 (.pointer (some ⟨b,0,none⟩)) o root (ZaO id room q why l r p).2.1 room (ZaO id room q why l r p).1]):=by
 refine FnG.mk func246 Z ntmps246 Z kr fun B F0 a w F V hG O=>?_
 obtain ⟨F,O⟩:=O.peel 1 4 Z rfl
 obtain ⟨F,O⟩:=O.peel 1 5 Z rfl
 obtain ⟨F,O⟩:=O.nM [3,2,1,0] [5,4,0]
 refine Ya (Zb O (qx 101 r1 (qI qZ)) V [8,7,2,1,0] [101,5,4,0] (fun _=>rfl) (fun _=>rfl) fun τ a w F O=>?_)
 try dsimp only [RS.sub,SF.sub,CF.sub,csub,Anc.sub,List.map,zCF,Z4,ZC,Zby,ZH] at O
 generalize τ 7=v7 at O
 refine Za (Ya (ZaK O (qR rr (qf (o_nilCheck 4 .is (by rfl)) r1 r1 (qf (oF 0 4 .adr) r1 r1 (qf (oL true 2 4 .adr) r1 r1 (qR rr (qf (o_callG1 5 (ZbB o room q root l) func107 Z kr (Args.two (.pagg .t) .t)) r2 r1 (qR rr (qf (o_nilCheck 4 .is (by rfl)) r1 r1 (qf (oF 0 4 .adr) r1 r1 (qf (oL true 2 4 .adr) r1 r1 (qR rr (qf (o_callG1 5 (ZbB o room q root r) func107 Z kr (Args.two (.pagg .t) .t)) r2 r1 (qf (oH [.int .i64 0,.int .i64 0,.int .i64 0,.int .i64 0,.int .i64 0,.int .i64 0] 102) trivial qz (qf (oH [.int .i64 0,.int .i64 0,.int .i64 0,.int .i64 0,.int .i64 0,.int .i64 0] 103) trivial qz (qf (oA 6 102 .same (.conv .t .agg)) r2 r1 (qf (oA 6 103 .same (.conv .t .agg)) r2 r1 qZ)))))))))))))))) V [10,9,8,7,2,1,0] [103,102,101,5,4,0] (fun _=>rfl) (fun _=>rfl) fun τ a w F O=>?_))
 try dsimp only [RS.sub,SF.sub,CF.sub,csub,Anc.sub,List.map,Zd,xL,xM,Nat.reduceAdd,xD,xE,xT,xU,xC,xN,zCF,ldSF,Z4,ZC,Zby,ZH] at O
 generalize τ 9=v9,τ 10=v10 at O
 refine Za (Ya (Ye (Ya (rZ O (qg 5 102 r1 r1 (qa 102 r1 r1 (qg 5 103 r1 r1 (qa 103 r1 r1 (qp r1 (qf (Zal .t .t) r2 qz (qO rr qZ))))))) V [25,10,9,8,7,2,1,0] [103,102,101,5,4,0] fun O=>?_))))
 refine Zc O Z (fun hc0=>?_) (fun hc0=>?_)
 ·have h1:(IntKind.wrap .i64 ((getC q r).high+1)<(getC q l).high):=by simp only [Yj,Yi] at hc0;omega
  refine Ya (ZaK O (qR rr (qf (o_nilCheck 4 .is (by rfl)) r1 r1 (qf (oF 0 4 .adr) r1 r1 (qf (oL true 2 4 .adr) r1 r1 (qg 1 102 r1 r1 (qa 102 r1 r1 (qf (o_callG1 5 (ZbB o room q root (getC q l).right) func107 Z kr (Args.two (.pagg .t) .t)) r2 r1 (qf (oH [.int .i64 0,.int .i64 0,.int .i64 0,.int .i64 0,.int .i64 0,.int .i64 0] 104) trivial qz (qf (oA 6 104 .same (.conv .t .agg)) r2 r1 qZ))))))))) V [11,9,8,7,2,1,0] [104,102,101,5,4,0] (fun _=>rfl) (fun _=>rfl) fun τ a w F O=>?_)
  try dsimp only [RS.sub,SF.sub,CF.sub,csub,Anc.sub,List.map,Zd,xL,xM,Nat.reduceAdd,xD,xE,xT,xU,xC,xN,zCF,ldSF,Z4,ZC,Zby,ZH] at O
  generalize τ 11=v11 at O
  refine Za (Ya (Ya (Zu O (qR rr (qf (o_nilCheck 4 .is (by rfl)) r1 r1 (qf (oF 0 4 .adr) r1 r1 (qf (oL true 2 4 .adr) r1 r1 (qg 0 102 r1 r1 (qa 102 r1 r1 (qf (o_callG1 5 (ZbB o room q root (getC q l).left) func107 Z kr (Args.two (.pagg .t) .t)) r2 r1 (qf (ZeX (ft:=3) (off:=5) kr kr .t Z) r1 qz (qg 5 104 r1 r1 (qa 104 r1 r1 (qf (Zcx .t .t) r2 qz qZ))))))))))) V [49,11,9,8,7,2,1,0] [104,102,101,5,4,0] Z Z fun a w F O=>?_)))
  try dsimp only [List.map,xD,xE,xT,xU,ldSF,Z4,ZC,Zby,ZH] at O
  refine Za (Zc O Z (fun hc1=>?_) (fun hc1=>?_))
  ·have h3:((getC q (getC q l).right).high≤(getC q (getC q l).left).high):=by simp only [Yj,Yi] at hc1;omega
   have hg:(ZaO id room q why l r p)=(madeS room (madeS room q why (getC q l).right r p).1 (madeS room q why (getC q l).right r p).2.1 (getC q l).left (madeS room q why (getC q l).right r p).2.2 (ZH id (getC q l))):=by unfold ZaO;rw [Yf h1,Yf h3] <;> rfl
   refine Ya ?_
   have O:=O.fresh 1 rfl
   obtain ⟨F,O⟩:=O.push 1 5 Z Z Z kr
   obtain ⟨F,O⟩:=O.push 1 4 Z Z Z kr
   have O:=O.turn 1 Z (r':=RS.hp (ZaD 242 (.pointer (some ⟨b,0,none⟩)) o root why room q)) (fun _ _ _ _ h=>h)
   obtain ⟨F,O⟩:=O.nM [49,11,9,8,7,2,1,0] [104,102,101,1,0]
   refine Zu O (qR rr (qg 0 102 r1 r1 (qa 102 r1 r1 (qR rr (qg 1 102 r1 r1 (qa 102 r1 r1 (qR rr (qe 2 101 r1 r1 (qf (o_callG1 1 (Zbv b o root why room q (getC q l).right r p) func249 Z kr (Args.four .t .t .t (.pagg .t))) r4 r1 (qe 6 102 r1 r1 (qf (oP (Zdj (getC q l)) func247 (Args.one (.pagg .t))) r1 qz (qf (o_callG1 1 (Zbv b o root (madeS room q why (getC q l).right r p).2.1 room (madeS room q why (getC q l).right r p).1 (getC q l).left (madeS room q why (getC q l).right r p).2.2 (ZH id (getC q l))) func249 Z kr (Args.four .t .t .t .t)) r4 r1 (qO rr qZ))))))))))))) V [11,9,8,7,2,1,0] [104,102,101,1,0] Z Z fun a w F O=>?_
   try dsimp only [List.map,xD,xE,xT,xU,ldSF,Z4,ZC,Zby,ZH] at O
   refine Za (Yh (Zf (Zr (Zf ?_))))
   have O:=O.turn 1 Z (r':=RS.hp (ZaD 242 (.pointer (some ⟨b,0,none⟩)) o root (ZaO id room q why l r p).2.1 room (ZaO id room q why l r p).1)) (fun _ _ _ _ h=>by rw [hg];exact h)
   refine ZE hG O Z (.tmp Z .nil) (.one (.int (by first | (rw [hg];done) | (rw [hg];rfl)))) rfl
  have h3:¬ ((getC q (getC q l).right).high≤(getC q (getC q l).left).high):=by simp only [Yj,Yi] at hc1;omega
  have hg:(ZaO id room q why l r p)=(madeS room (madeS room (madeS room q why (getC q l).left (getC q (getC q l).right).left (ZH id (getC q l))).1 (madeS room q why (getC q l).left (getC q (getC q l).right).left (ZH id (getC q l))).2.1 (getC q (getC q l).right).right r p).1 (madeS room (madeS room q why (getC q l).left (getC q (getC q l).right).left (ZH id (getC q l))).1 (madeS room q why (getC q l).left (getC q (getC q l).right).left (ZH id (getC q l))).2.1 (getC q (getC q l).right).right r p).2.1 (madeS room q why (getC q l).left (getC q (getC q l).right).left (ZH id (getC q l))).2.2 (madeS room (madeS room q why (getC q l).left (getC q (getC q l).right).left (ZH id (getC q l))).1 (madeS room q why (getC q l).left (getC q (getC q l).right).left (ZH id (getC q l))).2.1 (getC q (getC q l).right).right r p).2.2 (ZH id (getC q (getC q l).right))):=by unfold ZaO;rw [Yf h1,Yb h3] <;> rfl
  refine Yd (Za (Ya ?_))
  have O:=O.fresh 1 rfl
  obtain ⟨F,O⟩:=O.push 1 5 Z Z Z kr
  obtain ⟨F,O⟩:=O.push 1 4 Z Z Z kr
  have O:=O.turn 1 Z (r':=RS.hp (ZaD 242 (.pointer (some ⟨b,0,none⟩)) o root why room q)) (fun _ _ _ _ h=>h)
  obtain ⟨F,O⟩:=O.nM [49,11,9,8,7,2,1,0] [104,102,101,1,0]
  refine Zu O (qR rr (qR rr (qg 0 102 r1 r1 (qa 102 r1 r1 (qg 0 104 r1 r1 (qa 104 r1 r1 (qe 6 102 r1 r1 (qf (oP (Zdj (getC q l)) func247 (Args.one (.pagg .t))) r1 qz (qf (o_callG1 1 (Zbv b o root why room q (getC q l).left (getC q (getC q l).right).left (ZH id (getC q l))) func249 Z kr (Args.four .t .t .t .t)) r4 r1 (qR rr (qg 1 104 r1 r1 (qa 104 r1 r1 (qR rr (qe 2 101 r1 r1 (qf (o_callG1 1 (Zbv b o root (madeS room q why (getC q l).left (getC q (getC q l).right).left (ZH id (getC q l))).2.1 room (madeS room q why (getC q l).left (getC q (getC q l).right).left (ZH id (getC q l))).1 (getC q (getC q l).right).right r p) func249 Z kr (Args.four .t .t .t (.pagg .t))) r4 r1 (qe 6 104 r1 r1 (qf (oP (Zdj (getC q (getC q l).right)) func247 (Args.one (.pagg .t))) r1 qz (qf (o_callG1 1 (Zbv b o root (madeS room (madeS room q why (getC q l).left (getC q (getC q l).right).left (ZH id (getC q l))).1 (madeS room q why (getC q l).left (getC q (getC q l).right).left (ZH id (getC q l))).2.1 (getC q (getC q l).right).right r p).2.1 room (madeS room (madeS room q why (getC q l).left (getC q (getC q l).right).left (ZH id (getC q l))).1 (madeS room q why (getC q l).left (getC q (getC q l).right).left (ZH id (getC q l))).2.1 (getC q (getC q l).right).right r p).1 (madeS room q why (getC q l).left (getC q (getC q l).right).left (ZH id (getC q l))).2.2 (madeS room (madeS room q why (getC q l).left (getC q (getC q l).right).left (ZH id (getC q l))).1 (madeS room q why (getC q l).left (getC q (getC q l).right).left (ZH id (getC q l))).2.1 (getC q (getC q l).right).right r p).2.2 (ZH id (getC q (getC q l).right))) func249 Z kr (Args.four .t .t .t .t)) r4 r1 (qO rr qZ))))))))))))))))))) V [8,7,2,1,0] [101,1,0] Z Z fun a w F O=>?_
  try dsimp only [List.map,xD,xE,xT,xU,ldSF,Z4,ZC,Zby,ZH] at O
  refine Za (Yh (Zr (Zf ?_)))
  have O:=O.turn 1 Z (r':=RS.hp (ZaD 242 (.pointer (some ⟨b,0,none⟩)) o root (ZaO id room q why l r p).2.1 room (ZaO id room q why l r p).1)) (fun _ _ _ _ h=>by rw [hg];exact h)
  refine ZE hG O Z (.tmp Z .nil) (.one (.int (by first | (rw [hg];done) | (rw [hg];rfl)))) rfl
 have h1:¬ (IntKind.wrap .i64 ((getC q r).high+1)<(getC q l).high):=by simp only [Yj,Yi] at hc0;omega
 refine Ya (rZ O (qg 5 103 r1 r1 (qa 103 r1 r1 (qg 5 102 r1 r1 (qa 102 r1 r1 (qp r1 (qf (Zal .t .t) r2 qz (qO rr qZ))))))) V [80,10,8,7,2,1,0] [103,101,5,4,0] fun O=>?_)
 refine Zc O Z (fun hc2=>?_) (fun hc2=>?_)
 ·have h2:(IntKind.wrap .i64 ((getC q l).high+1)<(getC q r).high):=by simp only [Yj,Yi] at hc2;omega
  refine Ya (ZaK O (qR rr (qf (o_nilCheck 4 .is (by rfl)) r1 r1 (qf (oF 0 4 .adr) r1 r1 (qf (oL true 2 4 .adr) r1 r1 (qg 0 103 r1 r1 (qa 103 r1 r1 (qf (o_callG1 5 (ZbB o room q root (getC q r).left) func107 Z kr (Args.two (.pagg .t) .t)) r2 r1 (qf (oH [.int .i64 0,.int .i64 0,.int .i64 0,.int .i64 0,.int .i64 0,.int .i64 0] 105) trivial qz (qf (oA 6 105 .same (.conv .t .agg)) r2 r1 qZ))))))))) V [12,10,8,7,2,1,0] [105,103,101,5,4,0] (fun _=>rfl) (fun _=>rfl) fun τ a w F O=>?_)
  try dsimp only [RS.sub,SF.sub,CF.sub,csub,Anc.sub,List.map,Zd,xL,xM,Nat.reduceAdd,xD,xE,xT,xU,xC,xN,zCF,ldSF,Z4,ZC,Zby,ZH] at O
  generalize τ 12=v12 at O
  refine Za (Ya (Ya (Zu O (qR rr (qf (o_nilCheck 4 .is (by rfl)) r1 r1 (qf (oF 0 4 .adr) r1 r1 (qf (oL true 2 4 .adr) r1 r1 (qg 1 103 r1 r1 (qa 103 r1 r1 (qf (o_callG1 5 (ZbB o room q root (getC q r).right) func107 Z kr (Args.two (.pagg .t) .t)) r2 r1 (qf (ZeX (ft:=3) (off:=5) kr kr .t Z) r1 qz (qg 5 105 r1 r1 (qa 105 r1 r1 (qf (Zcx .t .t) r2 qz qZ))))))))))) V [104,12,10,8,7,2,1,0] [105,103,101,5,4,0] Z Z fun a w F O=>?_)))
  try dsimp only [List.map,xD,xE,xT,xU,ldSF,Z4,ZC,Zby,ZH] at O
  refine Za (Zc O Z (fun hc3=>?_) (fun hc3=>?_))
  ·have h3:((getC q (getC q r).left).high≤(getC q (getC q r).right).high):=by simp only [Yj,Yi] at hc3;omega
   have hg:(ZaO id room q why l r p)=(madeS room (madeS room q why l (getC q r).left p).1 (madeS room q why l (getC q r).left p).2.1 (madeS room q why l (getC q r).left p).2.2 (getC q r).right (ZH id (getC q r))):=by unfold ZaO;rw [Yb h1,Yf h2,Yf h3] <;> rfl
   refine Ya ?_
   have O:=O.fresh 1 rfl
   obtain ⟨F,O⟩:=O.push 1 5 Z Z Z kr
   obtain ⟨F,O⟩:=O.push 1 4 Z Z Z kr
   have O:=O.turn 1 Z (r':=RS.hp (ZaD 242 (.pointer (some ⟨b,0,none⟩)) o root why room q)) (fun _ _ _ _ h=>h)
   obtain ⟨F,O⟩:=O.nM [104,12,10,8,7,2,1,0] [105,103,101,1,0]
   refine Zu O (qR rr (qR rr (qR rr (qg 0 103 r1 r1 (qa 103 r1 r1 (qe 2 101 r1 r1 (qf (o_callG1 1 (Zbv b o root why room q l (getC q r).left p) func249 Z kr (Args.four .t .t .t (.pagg .t))) r4 r1 (qg 1 103 r1 r1 (qa 103 r1 r1 (qe 6 103 r1 r1 (qf (oP (Zdj (getC q r)) func247 (Args.one (.pagg .t))) r1 qz (qf (o_callG1 1 (Zbv b o root (madeS room q why l (getC q r).left p).2.1 room (madeS room q why l (getC q r).left p).1 (madeS room q why l (getC q r).left p).2.2 (getC q r).right (ZH id (getC q r))) func249 Z kr (Args.four .t .t .t .t)) r4 r1 (qO rr qZ))))))))))))) V [12,10,8,7,2,1,0] [105,103,101,1,0] Z Z fun a w F O=>?_
   try dsimp only [List.map,xD,xE,xT,xU,ldSF,Z4,ZC,Zby,ZH] at O
   refine Za (Yh (Zf (Zr (Zf ?_))))
   have O:=O.turn 1 Z (r':=RS.hp (ZaD 242 (.pointer (some ⟨b,0,none⟩)) o root (ZaO id room q why l r p).2.1 room (ZaO id room q why l r p).1)) (fun _ _ _ _ h=>by rw [hg];exact h)
   refine ZE hG O Z (.tmp Z .nil) (.one (.int (by first | (rw [hg];done) | (rw [hg];rfl)))) rfl
  have h3:¬ ((getC q (getC q r).left).high≤(getC q (getC q r).right).high):=by simp only [Yj,Yi] at hc3;omega
  have hg:(ZaO id room q why l r p)=(madeS room (madeS room (madeS room q why l (getC q (getC q r).left).left p).1 (madeS room q why l (getC q (getC q r).left).left p).2.1 (getC q (getC q r).left).right (getC q r).right (ZH id (getC q r))).1 (madeS room (madeS room q why l (getC q (getC q r).left).left p).1 (madeS room q why l (getC q (getC q r).left).left p).2.1 (getC q (getC q r).left).right (getC q r).right (ZH id (getC q r))).2.1 (madeS room q why l (getC q (getC q r).left).left p).2.2 (madeS room (madeS room q why l (getC q (getC q r).left).left p).1 (madeS room q why l (getC q (getC q r).left).left p).2.1 (getC q (getC q r).left).right (getC q r).right (ZH id (getC q r))).2.2 (ZH id (getC q (getC q r).left))):=by unfold ZaO;rw [Yb h1,Yf h2,Yb h3] <;> rfl
  refine Yd (Za (Ya ?_))
  have O:=O.fresh 1 rfl
  obtain ⟨F,O⟩:=O.push 1 5 Z Z Z kr
  obtain ⟨F,O⟩:=O.push 1 4 Z Z Z kr
  have O:=O.turn 1 Z (r':=RS.hp (ZaD 242 (.pointer (some ⟨b,0,none⟩)) o root why room q)) (fun _ _ _ _ h=>h)
  obtain ⟨F,O⟩:=O.nM [104,12,10,8,7,2,1,0] [105,103,101,1,0]
  refine Zu O (qR rr (qR rr (qR rr (qg 0 105 r1 r1 (qa 105 r1 r1 (qe 2 101 r1 r1 (qf (o_callG1 1 (Zbv b o root why room q l (getC q (getC q r).left).left p) func249 Z kr (Args.four .t .t .t (.pagg .t))) r4 r1 (qR rr (qg 1 105 r1 r1 (qa 105 r1 r1 (qg 1 103 r1 r1 (qa 103 r1 r1 (qe 6 103 r1 r1 (qf (oP (Zdj (getC q r)) func247 (Args.one (.pagg .t))) r1 qz (qf (o_callG1 1 (Zbv b o root (madeS room q why l (getC q (getC q r).left).left p).2.1 room (madeS room q why l (getC q (getC q r).left).left p).1 (getC q (getC q r).left).right (getC q r).right (ZH id (getC q r))) func249 Z kr (Args.four .t .t .t .t)) r4 r1 (qe 6 105 r1 r1 (qf (oP (Zdj (getC q (getC q r).left)) func247 (Args.one (.pagg .t))) r1 qz (qf (o_callG1 1 (Zbv b o root (madeS room (madeS room q why l (getC q (getC q r).left).left p).1 (madeS room q why l (getC q (getC q r).left).left p).2.1 (getC q (getC q r).left).right (getC q r).right (ZH id (getC q r))).2.1 room (madeS room (madeS room q why l (getC q (getC q r).left).left p).1 (madeS room q why l (getC q (getC q r).left).left p).2.1 (getC q (getC q r).left).right (getC q r).right (ZH id (getC q r))).1 (madeS room q why l (getC q (getC q r).left).left p).2.2 (madeS room (madeS room q why l (getC q (getC q r).left).left p).1 (madeS room q why l (getC q (getC q r).left).left p).2.1 (getC q (getC q r).left).right (getC q r).right (ZH id (getC q r))).2.2 (ZH id (getC q (getC q r).left))) func249 Z kr (Args.four .t .t .t .t)) r4 r1 (qO rr qZ))))))))))))))))))) V [8,7,2,1,0] [101,1,0] Z Z fun a w F O=>?_
  try dsimp only [List.map,xD,xE,xT,xU,ldSF,Z4,ZC,Zby,ZH] at O
  refine Za (Yh (Zr (Zf ?_)))
  have O:=O.turn 1 Z (r':=RS.hp (ZaD 242 (.pointer (some ⟨b,0,none⟩)) o root (ZaO id room q why l r p).2.1 room (ZaO id room q why l r p).1)) (fun _ _ _ _ h=>by rw [hg];exact h)
  refine ZE hG O Z (.tmp Z .nil) (.one (.int (by first | (rw [hg];done) | (rw [hg];rfl)))) rfl
 have h2:¬ (IntKind.wrap .i64 ((getC q l).high+1)<(getC q r).high):=by simp only [Yj,Yi] at hc2;omega
 have hg:(ZaO id room q why l r p)=(madeS room q why l r p):=by unfold ZaO;rw [Yb h1,Yb h2] <;> rfl
 refine Yd (Zi (Za (Ya ?_)))
 have O:=O.fresh 1 rfl
 obtain ⟨F,O⟩:=O.push 1 5 Z Z Z kr
 obtain ⟨F,O⟩:=O.push 1 4 Z Z Z kr
 have O:=O.turn 1 Z (r':=RS.hp (ZaD 242 (.pointer (some ⟨b,0,none⟩)) o root why room q)) (fun _ _ _ _ h=>h)
 obtain ⟨F,O⟩:=O.nM [80,10,8,7,2,1,0] [103,101,1,0]
 refine rZ O (qR rr (qR rr (qR rr (qe 2 101 r1 r1 (qf (o_callG1 1 (Zbv b o root why room q l r p) func249 Z kr (Args.four .t .t .t (.pagg .t))) r4 r1 (qO rr qZ)))))) V [8] [1,0] fun O=>Yh ?_
 have O:=O.turn 1 Z (r':=RS.hp (ZaD 242 (.pointer (some ⟨b,0,none⟩)) o root (ZaO id room q why l r p).2.1 room (ZaO id room q why l r p).1)) (fun _ _ _ _ h=>by rw [hg];exact h)
 refine ZE hG O Z (.tmp Z .nil) (.one (.int (by first | (rw [hg];done) | (rw [hg];rfl)))) rfl
theorem Zsq (b:Nat) (o:Option Nat) (root why room:Int) (q:List Cell) (l r:Int) (x:Int):FnG prog 190 1 [.is (.pointer (some ⟨b,0,none⟩)),.int .i64 l,.int .i64 r,.int .i64 x] [ZaD 247 (.pointer (some ⟨b,0,none⟩)) o root why room q] (.int .i64 (madeS room q why l r ⟨0,x⟩).2.2) (fun _=>[ZaD 247 (.pointer (some ⟨b,0,none⟩)) o root (madeS room q why l r ⟨0,x⟩).2.1 room (madeS room q why l r ⟨0,x⟩).1]):=by
 refine FnG.mk func190 Z ntmps190 Z kr fun B F0 a w F V hG O=>?_
 obtain ⟨F,O⟩:=O.peel 1 4 Z rfl
 obtain ⟨F,O⟩:=O.peel 1 5 Z rfl
 obtain ⟨F,O⟩:=O.nM [3,2,1,0] [5,4,0]
 refine Ya (rZ O (qI qZ) V [8,3,2,1,0] [5,4,0] fun O=>(Ya (Ya ?_)))
 refine rZ O (qR rr (qf (o_nilCheck 4 .is (by rfl)) r1 r1 (qf (oF 2 4 .adr) r1 r1 (qa 4 r1 r1 (qf (o_neq .t qi) r1 qz qZ))))) V [17,8,3,2,1,0] [5,4,0] fun O=>?_
 refine Zc O Z (fun hc0=>?_) (fun hc0=>?_)
 ·have hg:(madeS room q why l r ⟨0,x⟩)=(q,why,0):=Zaw (by simpa using hc0)
  refine Ya (rZ O (qI qZ) V [8,3,2,1,0] [5,4,0] fun O=>(Yh (Zf ?_)))
  have O:=O.fresh 1 rfl
  obtain ⟨F,O⟩:=O.push 1 5 Z Z Z kr
  obtain ⟨F,O⟩:=O.push 1 4 Z Z Z kr
  have O:=O.turn 1 Z (r':=RS.hp (ZaD 247 (.pointer (some ⟨b,0,none⟩)) o root (madeS room q why l r ⟨0,x⟩).2.1 room (madeS room q why l r ⟨0,x⟩).1)) (fun _ _ _ _ h=>by rw [hg];exact h)
  refine ZE hG O Z (.tmp Z .nil) (.one (.int (by first | (rw [hg];done) | (rw [hg];rfl)))) rfl
 have hg:(madeS room q why l r ⟨0,x⟩)=((Zbn room q (Zdk q l r x)).1,(Zbn room q (Zdk q l r x)).2.2,(Zbn room q (Zdk q l r x)).2.1):=by rw [Zoi];exact Yb (by simpa using hc0)
 refine Yd (Za (Ya (ZaK O (qR rr (qf (o_nilCheck 4 .is (by rfl)) r1 r1 (qf (oF 0 4 .adr) r1 r1 (qf (oL true 2 4 .adr) r1 r1 (qR rr (qf (o_callG1 5 (scell_c o room q root l) func109 Z kr (Args.two (.pagg .t) .t)) r2 r1 (qR rr (qf (o_nilCheck 4 .is (by rfl)) r1 r1 (qf (oF 0 4 .adr) r1 r1 (qf (oL true 2 4 .adr) r1 r1 (qR rr (qf (o_callG1 5 (scell_c o room q root r) func109 Z kr (Args.two (.pagg .t) .t)) r2 r1 (qf (oH [.int .i64 0,.int .i64 0,.int .i64 0,.int .i64 0,.int .i64 0,.int .i64 0] 101) trivial qz (qf (oH [.int .i64 0,.int .i64 0,.int .i64 0,.int .i64 0,.int .i64 0,.int .i64 0] 102) trivial qz (qf (oA 6 101 .same (.conv .t .agg)) r2 r1 (qf (oA 6 102 .same (.conv .t .agg)) r2 r1 qZ)))))))))))))))) V [10,9,8,3,2,1,0] [102,101,5,4,0] (fun _=>rfl) (fun _=>rfl) fun τ a w F O=>?_)))
 try dsimp only [RS.sub,SF.sub,CF.sub,csub,Anc.sub,List.map,Zd,xL,xM,Nat.reduceAdd,xD,xE,xT,xU,xC,xN,zCF,ldSF,Z4,ZC,Zby,Zdk] at O
 generalize τ 9=v9,τ 10=v10 at O
 refine Za (Ya (Zu O (qR rr (qf (o_nilCheck 4 .is (by rfl)) r1 r1 (qf (oF 0 4 .adr) r1 r1 (qf (oF 0 4 .adr) r1 r1 (qa 4 r1 r1 (qR rr (qR rr (qR rr (qg 4 101 r1 r1 (qa 101 r1 r1 (qg 4 102 r1 r1 (qa 102 r1 r1 (qf (o_add .t .t) r2 qz (qp r1 (qg 5 101 r1 r1 (qa 101 r1 r1 (qg 5 102 r1 r1 (qa 102 r1 r1 (qf (Zsf .t .t) r2 qz (qf (o_add qi .t) r1 qz (qf (oB [(0,.tmp 36),(1,.tmp 37),(3,.tmp 38),(4,.tmp 44),(5,.tmp 50)] [.int .i64 0,.int .i64 0,.int .i64 0,.int .i64 0,.int .i64 0,.int .i64 0] [(0,1),(1,1),(2,1),(3,1),(4,1),(5,1)] (.one Z .t one_int kr (.one Z .t one_int kr (.one Z .t one_int kr (.one Z .t one_int kr (.one Z .t one_int kr .nil)))))) r5 qz (qf (o_callG1 5 (ZrL o room q (Zdk q l r x)) func251 Z kr (Args.two .t (.pagg .t))) r2 r1 (qR rr (qf (o_extract .t Z) r1 qz (qf (o_extract .t Z) r1 qz (qO rr (qO rr qZ))))))))))))))))))))))))))) V [12,11,8,0] [5,4,0] Z Z fun a w F O=>?_))
 try dsimp only [List.map,Zd,xL,xM,Nat.reduceAdd,xD,xE,xT,xU,xC,xN,zCF,ldSF,Z4,ZC,Zby,Zdk] at O
 refine Za (Ya (rZ O (qR rr (qR rr (qf (o_nilCheck 4 .is (by rfl)) r1 r1 (qf (oF 2 4 .adr) r1 r1 (qf (ZeU 4 .adr .t one_int kr kr) r2 r1 qZ))))) V [11,8] [5,4,0] fun O=>Ya ?_))
 refine rZ O (qR rr (qO rr qZ)) V [8] [5,4,0] fun O=>Yh ?_
 have O:=O.fresh 1 rfl
 obtain ⟨F,O⟩:=O.push 1 5 Z Z Z kr
 obtain ⟨F,O⟩:=O.push 1 4 Z Z Z kr
 have O:=O.turn 1 Z (r':=RS.hp (ZaD 247 (.pointer (some ⟨b,0,none⟩)) o root (madeS room q why l r ⟨0,x⟩).2.1 room (madeS room q why l r ⟨0,x⟩).1)) (fun _ _ _ _ h=>by rw [hg];exact h)
 refine ZE hG O Z (.tmp Z .nil) (.one (.int (by first | (rw [hg];done) | (rw [hg];rfl)))) rfl
theorem Zt0 {P:Zae→Prop} (h:∀ t,(∀ t',ZD t' < ZD t→P t')→P t) (t:Zae):P t:=by
 have h0:∀ (n:Nat) (t:Zae),ZD t<n→P t:=by
  intro n
  induction n with
  | zero=>intro t ht;have:=ZP t;omega
  | succ n ih=>intro t ht;exact h t fun t' ht'=>ih t' ow
 have:=ZP t
 exact h0 ((ZD t).toNat+1) t ow
theorem Zlj {l r:Zae} {p:ZF} : ZD l<ZD (.node l p r):=by have:=ZP r;show _<ZD l+ZD r+1;omega
theorem Zo5 {l r:Zae} {p:ZF} : ZD r<ZD (.node l p r):=by have:=ZP l;show _<ZD l+ZD r+1;omega
theorem Zkm {l l' r:Zae} {p:ZF} (h1:Bal l') (h2:Bal r) (h3:Zm l≤Zm r+1) (h4:Zm r≤Zm l+1) (a:Zm l - 1≤Zm l') (b:Zm l' ≤ Zm l):Bal (Zbh l' p r)∧max (Zm l) (Zm r)≤Zm (Zbh l' p r)∧Zm (Zbh l' p r)≤max (Zm l) (Zm r)+1:=by
 have hb:=ZeN p h1 h2 ow ow
 refine ⟨hb.1,?_,by omega⟩
 by_cases e2:Zm l' + 1<Zm r
 ·omega
 ·have e:Zbh l' p r = .node l' p r:=by unfold Zbh;rw [Yb ow,Yb ow]
  rw [e]
  show _≤max (Zm l') (Zm r)+1
  omega
theorem Zky {l r r':Zae} {p:ZF} (h1:Bal l) (h2:Bal r') (h3:Zm l≤Zm r+1) (h4:Zm r≤Zm l+1) (a:Zm r - 1≤Zm r') (b:Zm r' ≤ Zm r):Bal (Zbh l p r')∧max (Zm l) (Zm r)≤Zm (Zbh l p r')∧Zm (Zbh l p r')≤max (Zm l) (Zm r)+1:=by
 have hb:=ZeN p h1 h2 ow ow
 refine ⟨hb.1,?_,by omega⟩
 by_cases e2:Zm r' + 1<Zm l
 ·omega
 ·have e:Zbh l p r' = .node l p r':=by unfold Zbh;rw [Yb ow,Yb ow]
  rw [e]
  show _≤max (Zm l) (Zm r')+1
  omega
theorem Ze7 (p:ZF):∀ t:Zae,ZD t≤ZD (putT p t)∧ZD (putT p t)≤ZD t+1
 | .nil=>⟨by show (0:Int)≤0+0+1;omega,by show (0:Int)+0+1≤0+1;omega⟩
 | .node l x r=>by
  have hl:=Ze7 p l
  have hr:=Ze7 p r
  have e:ZD (.node l x r)=ZD l+ZD r+1:=rfl
  unfold putT
  split
  ·rw [ZcZ];omega
  ·split
   ·rw [ZcZ];omega
   ·show _≤ZD l+ZD r+1∧ZD l+ZD r+1≤_;omega
def Zb3 (kf:Int→Int) (room:Int) (q:List Cell) (why:Int) (p:ZF):Zae→Int→St
 | .nil,_=>madeS room q why 0 0 p
 | .node l _ r,i=>
  if p.key<(getC q i).key then ZaO kf room (Zb3 kf room q why p l (getC q i).left).1 (Zb3 kf room q why p l (getC q i).left).2.1 (Zb3 kf room q why p l (getC q i).left).2.2 (getC q i).right (ZH kf (getC q i))
  else if (getC q i).key<p.key then ZaO kf room (Zb3 kf room q why p r (getC q i).right).1 (Zb3 kf room q why p r (getC q i).right).2.1 (getC q i).left (Zb3 kf room q why p r (getC q i).right).2.2 (ZH kf (getC q i))
  else madeS room q why (getC q i).left (getC q i).right p
theorem ZdX.lo {kf:Int→Int} {room:Int} {q:List Cell} {lo n:Int} {x:St} {t:Zae} (h:ZdX kf room q lo n x t):0≤n:=by
 obtain ⟨e,_,e2,_⟩:=h
 omega
theorem ZhF {kf:Int→Int} {room:Int} {q:List Cell} {p:ZF} (hp:kf p.key=p.key):∀ {t:Zae} {i:Int},Rep kf q t i→ZD t<1000000→ZdX kf room q 1 (3*(Zm t+1)) (Zb3 kf room q 0 p t i) (putT p t)
 | .nil,i,h,hs=>(Zat (l:=.nil) (r:=.nil) rfl rfl hp (by show (0:Int)+0≤_;omega)).weak ow (by show (1:Int)≤3*(0+1);omega)
 | .node l x r,i,h,hs=>by
  have hk:=h.pair
  obtain ⟨h1,h2,h3,h4,h5,h6,_⟩:=h
  have e:ZD (.node l x r)=ZD l+ZD r+1:=rfl
  have e2:Zm (.node l x r)=max (Zm l) (Zm r)+1:=rfl
  have sl:=ZP l
  have sr:=ZP r
  have tl:=Ze7 p l
  have tr:=Ze7 p r
  have gl:=Zac l
  have gr:=Zac r
  have il:=ZhF (room:=room) hp h2 ow
  have ir:=ZhF (room:=room) hp h3 ow
  unfold Zb3 putT
  rw [h4,hk]
  split
  ·refine (ZdX.bind (lo':=1) (m:=3) il ow (fun e' e1 e3 e4=>?_) fun hw=>ZcQ hw).weak ow ow
   rw [e3]
   exact Zch e4 (by rw [e1];exact h3.app e') h5 ow
  ·split
   ·refine (ZdX.bind (lo':=1) (m:=3) ir ow (fun e' e1 e3 e4=>?_) fun hw=>ZcQ hw).weak ow ow
    rw [e3]
    exact Zch (by rw [e1];exact h2.app e') e4 h5 ow
   ·exact (Zat h2 h3 hp ow).weak ow ow
def ZbY:Zae→ZF×Zae
 | .nil=>(default,.nil)
 | .node .nil p r=>(p,r)
 | .node (.node a b c) p r=>((ZbY (.node a b c)).1,Zbh (ZbY (.node a b c)).2 p r)
theorem Zda:∀ {t:Zae},t ≠ .nil→tList t=(ZbY t).1 :: tList (ZbY t).2
 | .nil,h=>absurd rfl h
 | .node .nil p r,_=>rfl
 | .node (.node a b c) p r,_=>by
  have:=Zda (t:=.node a b c) (by simp)
  unfold ZbY
  simp only
  rw [ZbO]
  show tList (.node a b c)++p :: tList r=_
  rw [this]
  rfl
theorem Zek {t:Zae} (h:t ≠ .nil):ZD (ZbY t).2=ZD t - 1:=by
 rw [ZS,ZS,Zda h]
 simp only [Yl]
 omega
theorem Zh2:∀ {t:Zae},Bal t→Bal (ZbY t).2∧Zm t - 1≤Zm (ZbY t).2∧Zm (ZbY t).2≤Zm t
 | .nil,_=>⟨tv,by show (0:Int) - 1≤0;omega,Yar _⟩
 | .node .nil p r,h=>by
  have:=Zac r
  have h4:=h.2.2.2
  have e:Zm (.node .nil p r)=max 0 (Zm r)+1:=rfl
  have e1:Zm Zae.nil=0:=rfl
  exact ⟨h.2.1,by show _≤Zm r;omega,by show Zm r≤_;omega⟩
 | .node (.node a b c) p r,h=>by
  obtain ⟨h1,h2,h3,h4⟩:=h
  have il:=Zh2 h1
  have e:Zm (.node (.node a b c) p r)=max (Zm (.node a b c)) (Zm r)+1:=rfl
  have:=Zkm (p:=p) il.1 h2 h3 h4 il.2.1 il.2.2
  unfold ZbY
  simp only
  exact ⟨this.1,by omega,by omega⟩
def Z8 (kf:Int→Int) (room:Int) (q:List Cell) (why:Int):Zae→Int→ZF×St
 | .nil,i=>(ZH kf (getC q i),q,why,(getC q i).right)
 | .node l _ _,i=>
  if (getC q i).left=0 then (ZH kf (getC q i),q,why,(getC q i).right)
  else ((Z8 kf room q why l (getC q i).left).1,ZaO kf room (Z8 kf room q why l (getC q i).left).2.1 (Z8 kf room q why l (getC q i).left).2.2.1 (Z8 kf room q why l (getC q i).left).2.2.2 (getC q i).right (ZH kf (getC q i)))
theorem ZgH {kf:Int→Int} {room:Int} {q:List Cell} : ∀ {t:Zae} {i:Int},Rep kf q t i→t ≠ .nil→ZD t≤1000000→(Z8 kf room q 0 t i).1=(ZbY t).1∧ZdX kf room q 0 (3*Zm t) (Z8 kf room q 0 t i).2 (ZbY t).2
 | .nil,i,h,hn,hs=>absurd rfl hn
 | .node .nil x r,i,h,hn,hs=>by
  have hk:=h.pair
  have h2:(getC q i).left=0:=h.2.1
  have e2:Zm (.node .nil x r)=max 0 (Zm r)+1:=rfl
  unfold Z8 ZbY
  rw [Yf h2]
  exact ⟨hk,[],(YF q).symm,by simp only [Yq];omega,.inl ⟨rfl,h.2.2.1,by simp⟩⟩
 | .node (.node a b c) x r,i,h,hn,hs=>by
  have hk:=h.pair
  obtain ⟨h1,h2,h3,h4,h5,h6,_⟩:=h
  have hz:(getC q i).left≠0:=fun hz=>by rw [hz] at h2;exact absurd h2.zero (by simp)
  have e:ZD (.node (.node a b c) x r)=ZD (.node a b c)+ZD r+1:=rfl
  have e2:Zm (.node (.node a b c) x r)=max (Zm (.node a b c)) (Zm r)+1:=rfl
  have sr:=ZP r
  have gr:=Zac r
  have gl:=Zac (.node a b c)
  have il:=ZgH (room:=room) h2 (by simp) ow
  have ts:=Zek (t:=.node a b c) (by simp)
  unfold Z8 ZbY
  rw [Yb hz,hk]
  refine ⟨il.1,(ZdX.bind (lo':=1) (m:=3) il.2 ow (fun e' e1 e3 e4=>?_) fun hw=>ZcQ hw).weak ow ow⟩
  rw [e3]
  exact Zch e4 (by rw [e1];exact h3.app e') h5 ow
def delT (k:Int):Zae→Zae
 | .nil=>.nil
 | .node l p r=>if k<p.key then Zbh (delT k l) p r else if p.key<k then Zbh l p (delT k r) else
  match l with
  | .nil=>r
  | .node _ _ _=>match r with
   | .nil=>l
   | .node _ _ _=>Zbh l (ZbY r).1 (ZbY r).2
def ZkI (k:Int):Zae→Prop
 | .nil=>False
 | .node l p r=>if k<p.key then ZkI k l else if p.key<k then ZkI k r else True
theorem ZiE (k:Int):∀ {t:Zae},Bal t→Bal (delT k t)∧Zm t - 1≤Zm (delT k t)∧Zm (delT k t)≤Zm t
 | .nil,_=>⟨tv,by show (0:Int) - 1≤0;omega,Yar _⟩
 | .node l p r,h=>by
  obtain ⟨h1,h2,h3,h4⟩:=h
  have il:=ZiE k h1
  have ir:=ZiE k h2
  have e:Zm (.node l p r)=max (Zm l) (Zm r)+1:=rfl
  have gl:=Zac l
  have gr:=Zac r
  unfold delT
  split
  ·have:=Zkm (p:=p) il.1 h2 h3 h4 il.2.1 il.2.2
   exact ⟨this.1,by omega,by omega⟩
  ·split
   ·have:=Zky (p:=p) h1 ir.1 h3 h4 ir.2.1 ir.2.2
    exact ⟨this.1,by omega,by omega⟩
   ·have e1:Zm Zae.nil=0:=rfl
    split
    ·exact ⟨h2,by omega,by omega⟩
    ·split
     ·exact ⟨h1,by omega,by omega⟩
     ·rename_i ra rb rc
      have fb:=Zh2 h2
      have:=Zky (p:=(ZbY (.node ra rb rc)).1) h1 fb.1 h3 h4 fb.2.1 fb.2.2
      exact ⟨this.1,by omega,by omega⟩
theorem Zrs (k:Int) (l m:List ZF):delP (l++m) k=delP l k++delP m k:=by unfold delP;rw [Y3]
theorem ZeO {k:Int} {l:List ZF} (h:∀ p ∈ l,p.key≠k):delP l k=l:=by
 unfold delP
 rw [List.filter_eq_self]
 intro p hp
 simpa using h p hp
theorem ZfU {k:Int} {x:ZF} {l:List ZF} (h:x.key≠k):delP (x :: l) k=x :: delP l k:=by
 unfold delP
 rw [Y9 (by simpa using h)]
theorem ZjO {k:Int} {x:ZF} {l:List ZF} (h:x.key=k):delP (x :: l) k=delP l k:=by
 unfold delP
 rw [Yaa (by simpa using h)]
theorem ZeF (k:Int):∀ {t:Zae},Inc (tList t)→tList (delT k t)=delP (tList t) k
 | .nil,_=>rfl
 | .node l p r,h=>by
  obtain ⟨h1,h2,h3,h4⟩:=Inc.parts h
  have il:=ZeF k h1
  have ir:=ZeF k h2
  show _=delP (tList l++p :: tList r) k
  rw [Zrs]
  unfold delT
  split
  ·rename_i hk
   rw [ZbO,il,ZfU ow,ZeO (l:=tList r) fun x hx=>by have:=h4 x hx;omega]
  ·split
   ·rename_i hk
    rw [ZbO,ir,ZfU ow,ZeO (l:=tList l) fun x hx=>by have:=h3 x hx;omega]
   ·have e:p.key=k:=by omega
    rw [ZjO e,ZeO (l:=tList l) fun x hx=>by have:=h3 x hx;omega,ZeO (l:=tList r) fun x hx=>by have:=h4 x hx;omega]
    split
    ·rfl
    ·split
     ·simp [tList]
     ·rename_i a b c
      rw [ZbO,← Zda (t:=.node _ _ _) (by simp)]
def ZbE (kf:Int→Int) (room:Int) (q:List Cell) (why k:Int):Zae→Int→St
 | .nil,_=>(q,why,0)
 | .node l _ r,i=>
  if k<(getC q i).key then ZaO kf room (ZbE kf room q why k l (getC q i).left).1 (ZbE kf room q why k l (getC q i).left).2.1 (ZbE kf room q why k l (getC q i).left).2.2 (getC q i).right (ZH kf (getC q i))
  else if (getC q i).key<k then ZaO kf room (ZbE kf room q why k r (getC q i).right).1 (ZbE kf room q why k r (getC q i).right).2.1 (getC q i).left (ZbE kf room q why k r (getC q i).right).2.2 (ZH kf (getC q i))
  else if (getC q i).left=0 then (q,why,(getC q i).right)
  else if (getC q i).right=0 then (q,why,(getC q i).left)
  else ZaO kf room (Z8 kf room q why r (getC q i).right).2.1 (Z8 kf room q why r (getC q i).right).2.2.1 (getC q i).left (Z8 kf room q why r (getC q i).right).2.2.2 (Z8 kf room q why r (getC q i).right).1
theorem Ze9 {k:Int} : ∀ {t:Zae},ZkI k t→ZD (delT k t)=ZD t - 1
 | .nil,h=>h.elim
 | .node l p r,h=>by
  have e:ZD (.node l p r)=ZD l+ZD r+1:=rfl
  unfold ZkI at h
  unfold delT
  split
  ·rename_i hk
   rw [Yf hk] at h
   rw [ZcZ,Ze9 h];omega
  ·rename_i hk
   rw [Yb hk] at h
   split
   ·rename_i hk2
    rw [Yf hk2] at h
    rw [ZcZ,Ze9 h];omega
   ·split
    ·have:ZD Zae.nil=0:=rfl
     omega
    ·split
     ·have:ZD Zae.nil=0:=rfl
      omega
     ·rw [ZcZ,Zek (by simp)];omega
theorem ZhD {kf:Int→Int} {room:Int} {q:List Cell} {k:Int} : ∀ {t:Zae} {i:Int},Rep kf q t i→ZkI k t→ZD t≤1000000→(∀ p ∈ tList t,kf p.key=p.key)→ZdX kf room q 0 (3*(Zm t+1)) (ZbE kf room q 0 k t i) (delT k t)
 | .nil,i,h,hn,hs,_=>hn.elim
 | .node l x r,i,h,hn,hs,hkf=>by
  have hk:=h.pair
  obtain ⟨h1,h2,h3,h4,h5,h6,_⟩:=h
  have e:ZD (.node l x r)=ZD l+ZD r+1:=rfl
  have e2:Zm (.node l x r)=max (Zm l) (Zm r)+1:=rfl
  have sl:=ZP l
  have sr:=ZP r
  have gl:=Zac l
  have gr:=Zac r
  have kl:∀ p ∈ tList l,kf p.key=p.key:=fun p hp=>hkf p (by simp [tList,hp])
  have kr:∀ p ∈ tList r,kf p.key=p.key:=fun p hp=>hkf p (by simp [tList,hp])
  unfold ZkI at hn
  unfold ZbE delT
  rw [h4,hk]
  split
  ·rename_i hc
   rw [Yf hc] at hn
   have:=Ze9 hn
   refine (ZdX.bind (lo':=1) (m:=3) (ZhD h2 hn ow kl) ow (fun e' e1 e3 e4=>?_) fun hw=>ZcQ hw).weak ow ow
   rw [e3]
   exact Zch e4 (by rw [e1];exact h3.app e') h5 ow
  ·rename_i hc
   rw [Yb hc] at hn
   split
   ·rename_i hc2
    rw [Yf hc2] at hn
    have:=Ze9 hn
    refine (ZdX.bind (lo':=1) (m:=3) (ZhD h3 hn ow kr) ow (fun e' e1 e3 e4=>?_) fun hw=>ZcQ hw).weak ow ow
    rw [e3]
    exact Zch (by rw [e1];exact h2.app e') e4 h5 ow
   ·match l,h2 with
    | .nil,h2=>
     rw [Yf (show (getC q i).left=0 from h2)]
     exact ⟨[],(YF q).symm,by simp only [Yq];omega,.inl ⟨rfl,h3,by simp⟩⟩
    | .node la lb lc,h2=>
     have hz:(getC q i).left≠0:=fun hz=>by rw [hz] at h2;exact absurd h2.zero (by simp)
     rw [Yb hz]
     match r,h3 with
     | .nil,h3=>
      rw [Yf (show (getC q i).right=0 from h3)]
      exact ⟨[],(YF q).symm,by simp only [Yq];omega,.inl ⟨rfl,h2,by simp⟩⟩
     | .node ra rb rc,h3=>
      have hz:(getC q i).right≠0:=fun hz=>by rw [hz] at h3;exact absurd h3.zero (by simp)
      rw [Yb hz]
      have fg:=ZgH (room:=room) h3 (by simp) ow
      have fs:=Zek (t:=.node ra rb rc) (by simp)
      have fl:=Zda (t:=.node ra rb rc) (by simp)
      refine (ZdX.bind (lo':=1) (m:=3) fg.2 ow (fun e' e1 e3 e4=>?_) fun hw=>ZcQ hw).weak ow ow
      rw [e3,fg.1]
      exact Zch (by rw [e1];exact h2.app e') e4 (kr _ (by rw [fl];simp)) ow
theorem Ztb (b:Nat) (o:Option Nat) (root why room:Int) (q:List Cell) (p:ZF) (t:Zae) (ih:∀ t',ZD t' < ZD t → ∀ i,Rep id q t' i→FnG prog 185 1 [.is (.pointer (some ⟨b,0,none⟩)),.int .i64 i,.agg (ZC p)] [ZaD 242 (.pointer (some ⟨b,0,none⟩)) o root why room q] (.int .i64 (Zb3 id room q why p t' i).2.2) (fun _=>[ZaD 242 (.pointer (some ⟨b,0,none⟩)) o root (Zb3 id room q why p t' i).2.1 room (Zb3 id room q why p t' i).1])) (i:Int) (hr:Rep id q t i):FnG prog 185 1 [.is (.pointer (some ⟨b,0,none⟩)),.int .i64 i,.agg (ZC p)] [ZaD 242 (.pointer (some ⟨b,0,none⟩)) o root why room q] (.int .i64 (Zb3 id room q why p t i).2.2) (fun _=>[ZaD 242 (.pointer (some ⟨b,0,none⟩)) o root (Zb3 id room q why p t i).2.1 room (Zb3 id room q why p t i).1]):=by
 refine FnG.mk func185 Z ntmps185 Z kr fun B F0 a w F V hG O=>?_
 obtain ⟨F,O⟩:=O.peel 1 4 Z rfl
 obtain ⟨F,O⟩:=O.peel 1 5 Z rfl
 obtain ⟨F,O⟩:=O.nM [2,1,0] [5,4,0]
 refine Ya (Zb O (qx 101 r1 (qI qZ)) V [6,5,1,0] [101,5,4,0] (fun _=>rfl) (fun _=>rfl) fun τ a w F O=>?_)
 try dsimp only [RS.sub,SF.sub,CF.sub,csub,Anc.sub,List.map,zCF,Z4,ZC,ZH] at O
 generalize τ 5=v5 at O
 refine Za (Ya (Zb O (qR rr (qf (o_nilCheck 4 .is (by rfl)) r1 r1 (qf (oF 0 4 .adr) r1 r1 (qf (oL true 2 4 .adr) r1 r1 (qR rr (qf (o_callG1 5 (ZbB o room q root i) func107 Z kr (Args.two (.pagg .t) .t)) r2 r1 (qf (oH [.int .i64 0,.int .i64 0,.int .i64 0,.int .i64 0,.int .i64 0,.int .i64 0] 102) trivial qz (qf (oA 6 102 .same (.conv .t .agg)) r2 r1 qZ)))))))) V [7,6,5,1,0] [102,101,5,4,0] (fun _=>rfl) (fun _=>rfl) fun τ a w F O=>?_))
 try dsimp only [RS.sub,SF.sub,CF.sub,csub,Anc.sub,List.map,Zd,xL,xM,Nat.reduceAdd,xD,xE,xT,xU,xC,xN,zCF,ldSF,Z4,ZC,ZH] at O
 generalize τ 7=v7 at O
 refine Za (Ya (Ye (Ya (rZ O (qR rr (qf (o_eql .t qi) r1 qz (qO rr qZ))) V [14,7,6,5,0] [102,101,5,4,0] fun O=>?_))))
 refine Zc O Z (fun hc0=>?_) (fun hc0=>?_)
 ·have hi0:i=0:=by simpa using hc0
  have ht:t = .nil:=by rw [hi0] at hr;exact hr.zero
  have hg:(Zb3 id room q why p t i)=(madeS room q why 0 0 p):=by rw [ht];rfl
  refine Ya ?_
  have O:=O.fresh 1 rfl
  obtain ⟨F,O⟩:=O.push 1 5 Z Z Z kr
  obtain ⟨F,O⟩:=O.push 1 4 Z Z Z kr
  have O:=O.turn 1 Z (r':=RS.hp (ZaD 242 (.pointer (some ⟨b,0,none⟩)) o root why room q)) (fun _ _ _ _ h=>h)
  obtain ⟨F,O⟩:=O.nM [14,7,6,5,0] [102,101,1,0]
  refine rZ O (qR rr (qe 2 101 r1 r1 (qf (o_callG1 1 (Zbv b o root why room q 0 0 p) func249 Z kr (Args.four .t qi qi (.pagg .t))) r2 r1 (qO rr qZ)))) V [7,6,5,0] [102,101,1,0] fun O=>(Yh (Zr (Zf ?_)))
  have O:=O.turn 1 Z (r':=RS.hp (ZaD 242 (.pointer (some ⟨b,0,none⟩)) o root (Zb3 id room q why p t i).2.1 room (Zb3 id room q why p t i).1)) (fun _ _ _ _ h=>by rw [hg];exact h)
  refine ZE hG O Z (.tmp Z .nil) (.one (.int (by first | (rw [hg];done) | (rw [hg];rfl)))) rfl
 have hi0:i≠0:=by simpa using hc0
 obtain ⟨l,x,r,ht⟩:=hr.node hi0
 have hn:Rep id q (.node l x r) i:=by rw [← ht];exact hr
 have hkx:=hn.2.2.2.1
 refine Ya (rZ O (qg 0 101 r1 r1 (qa 101 r1 r1 (qg 2 102 r1 r1 (qa 102 r1 r1 (qf (ZaR .t .t) r2 qz (qO rr qZ)))))) V [20,7,6,5,0] [102,101,5,4,0] fun O=>?_)
 refine Zc O Z (fun hc1=>?_) (fun hc1=>?_)
 ·have h1:(p.key<(getC q i).key):=by simp only [Yj,Yi] at hc1;omega
  have hg:(Zb3 id room q why p t i)=(ZaO id room (Zb3 id room q why p l ((getC q i).left)).1 (Zb3 id room q why p l ((getC q i).left)).2.1 (Zb3 id room q why p l ((getC q i).left)).2.2 (getC q i).right (ZH id (getC q i))):=by rw [ht]; (conv=>lhs;unfold Zb3);rw [Yf h1] <;> rfl
  refine Ya ?_
  have O:=O.fresh 1 rfl
  obtain ⟨F,O⟩:=O.push 1 5 Z Z Z kr
  obtain ⟨F,O⟩:=O.push 1 4 Z Z Z kr
  have O:=O.turn 1 Z (r':=RS.hp (ZaD 242 (.pointer (some ⟨b,0,none⟩)) o root why room q)) (fun _ _ _ _ h=>h)
  obtain ⟨F,O⟩:=O.nM [20,7,6,5,0] [102,101,1,0]
  refine Zu O (qR rr (qR rr (qg 0 102 r1 r1 (qa 102 r1 r1 (qe 2 101 r1 r1 (qf (o_callG1 1 (ih l (by rw [ht];exact Zlj) (getC q i).left hn.2.1) func185 Z kr (Args.three .t .t (.pagg .t))) r3 r1 (qg 1 102 r1 r1 (qa 102 r1 r1 (qe 6 102 r1 r1 (qf (oP (Zdj (getC q i)) func247 (Args.one (.pagg .t))) r1 qz (qf (o_callG1 1 (ZfD b o root (Zb3 id room q why p l ((getC q i).left)).2.1 room (Zb3 id room q why p l ((getC q i).left)).1 (Zb3 id room q why p l ((getC q i).left)).2.2 (getC q i).right (ZH id (getC q i))) func246 Z kr (Args.four .t .t .t .t)) r4 r1 (qO rr qZ)))))))))))) V [7,6,5,0] [102,101,1,0] Z Z fun a w F O=>?_
  try dsimp only [List.map,xD,xE,xT,xU,ldSF,Z4,ZC,ZH] at O
  refine Za (Yh (Zr (Zf ?_)))
  have O:=O.turn 1 Z (r':=RS.hp (ZaD 242 (.pointer (some ⟨b,0,none⟩)) o root (Zb3 id room q why p t i).2.1 room (Zb3 id room q why p t i).1)) (fun _ _ _ _ h=>by rw [hg];exact h)
  refine ZE hG O Z (.tmp Z .nil) (.one (.int (by first | (rw [hg];done) | (rw [hg];rfl)))) rfl
 have h1:¬ (p.key<(getC q i).key):=by simp only [Yj,Yi] at hc1;omega
 refine Ya (rZ O (qg 0 101 r1 r1 (qa 101 r1 r1 (qg 2 102 r1 r1 (qa 102 r1 r1 (qf (Zal .t .t) r2 qz (qO rr qZ)))))) V [37,7,6,5,0] [102,101,5,4,0] fun O=>?_)
 refine Zc O Z (fun hc2=>?_) (fun hc2=>?_)
 ·have h2:((getC q i).key<p.key):=by simp only [Yj,Yi] at hc2;omega
  have hg:(Zb3 id room q why p t i)=(ZaO id room (Zb3 id room q why p r ((getC q i).right)).1 (Zb3 id room q why p r ((getC q i).right)).2.1 (getC q i).left (Zb3 id room q why p r ((getC q i).right)).2.2 (ZH id (getC q i))):=by rw [ht]; (conv=>lhs;unfold Zb3);rw [Yb h1,Yf h2] <;> rfl
  refine Ya ?_
  have O:=O.fresh 1 rfl
  obtain ⟨F,O⟩:=O.push 1 5 Z Z Z kr
  obtain ⟨F,O⟩:=O.push 1 4 Z Z Z kr
  have O:=O.turn 1 Z (r':=RS.hp (ZaD 242 (.pointer (some ⟨b,0,none⟩)) o root why room q)) (fun _ _ _ _ h=>h)
  obtain ⟨F,O⟩:=O.nM [37,7,6,5,0] [102,101,1,0]
  refine Zu O (qR rr (qg 0 102 r1 r1 (qa 102 r1 r1 (qR rr (qg 1 102 r1 r1 (qa 102 r1 r1 (qe 2 101 r1 r1 (qf (o_callG1 1 (ih r (by rw [ht];exact Zo5) (getC q i).right hn.2.2.1) func185 Z kr (Args.three .t .t (.pagg .t))) r3 r1 (qe 6 102 r1 r1 (qf (oP (Zdj (getC q i)) func247 (Args.one (.pagg .t))) r1 qz (qf (o_callG1 1 (ZfD b o root (Zb3 id room q why p r ((getC q i).right)).2.1 room (Zb3 id room q why p r ((getC q i).right)).1 (getC q i).left (Zb3 id room q why p r ((getC q i).right)).2.2 (ZH id (getC q i))) func246 Z kr (Args.four .t .t .t .t)) r4 r1 (qO rr qZ)))))))))))) V [7,6,5,0] [102,101,1,0] Z Z fun a w F O=>?_
  try dsimp only [List.map,xD,xE,xT,xU,ldSF,Z4,ZC,ZH] at O
  refine Za (Yh (Zr (Zf ?_)))
  have O:=O.turn 1 Z (r':=RS.hp (ZaD 242 (.pointer (some ⟨b,0,none⟩)) o root (Zb3 id room q why p t i).2.1 room (Zb3 id room q why p t i).1)) (fun _ _ _ _ h=>by rw [hg];exact h)
  refine ZE hG O Z (.tmp Z .nil) (.one (.int (by first | (rw [hg];done) | (rw [hg];rfl)))) rfl
 have h2:¬ ((getC q i).key<p.key):=by simp only [Yj,Yi] at hc2;omega
 have hg:(Zb3 id room q why p t i)=(madeS room q why (getC q i).left (getC q i).right p):=by rw [ht]; (conv=>lhs;unfold Zb3);rw [Yb h1,Yb h2] <;> rfl
 refine Yd (Zi (Za (Ya ?_)))
 have O:=O.fresh 1 rfl
 obtain ⟨F,O⟩:=O.push 1 5 Z Z Z kr
 obtain ⟨F,O⟩:=O.push 1 4 Z Z Z kr
 have O:=O.turn 1 Z (r':=RS.hp (ZaD 242 (.pointer (some ⟨b,0,none⟩)) o root why room q)) (fun _ _ _ _ h=>h)
 obtain ⟨F,O⟩:=O.nM [37,7,6,5,0] [102,101,1,0]
 refine rZ O (qR rr (qg 0 102 r1 r1 (qa 102 r1 r1 (qg 1 102 r1 r1 (qa 102 r1 r1 (qe 2 101 r1 r1 (qf (o_callG1 1 (Zbv b o root why room q (getC q i).left (getC q i).right p) func249 Z kr (Args.four .t .t .t (.pagg .t))) r4 r1 (qO rr qZ)))))))) V [6] [1,0] fun O=>Yh ?_
 have O:=O.turn 1 Z (r':=RS.hp (ZaD 242 (.pointer (some ⟨b,0,none⟩)) o root (Zb3 id room q why p t i).2.1 room (Zb3 id room q why p t i).1)) (fun _ _ _ _ h=>by rw [hg];exact h)
 refine ZE hG O Z (.tmp Z .nil) (.one (.int (by first | (rw [hg];done) | (rw [hg];rfl)))) rfl
theorem ZsV (b:Nat) (o:Option Nat) (root why room:Int) (q:List Cell) (p:ZF) (t:Zae) (i:Int) (hr:Rep id q t i):FnG prog 185 1 [.is (.pointer (some ⟨b,0,none⟩)),.int .i64 i,.agg (ZC p)] [ZaD 242 (.pointer (some ⟨b,0,none⟩)) o root why room q] (.int .i64 (Zb3 id room q why p t i).2.2) (fun _=>[ZaD 242 (.pointer (some ⟨b,0,none⟩)) o root (Zb3 id room q why p t i).2.1 room (Zb3 id room q why p t i).1]):=Zt0 (P:=fun t=>∀ i,Rep id q t i→FnG prog 185 1 [.is (.pointer (some ⟨b,0,none⟩)),.int .i64 i,.agg (ZC p)] [ZaD 242 (.pointer (some ⟨b,0,none⟩)) o root why room q] (.int .i64 (Zb3 id room q why p t i).2.2) (fun _=>[ZaD 242 (.pointer (some ⟨b,0,none⟩)) o root (Zb3 id room q why p t i).2.1 room (Zb3 id room q why p t i).1])) (fun t ih i hr=>Ztb b o root why room q p t ih i hr) t i hr
theorem ZqS (b:Nat) (o:Option Nat) (root why room:Int) (q:List Cell) (t:Zae) (ih:∀ t',ZD t' < ZD t → ∀ i,Rep id q t' i→FnG prog 248 1 [.is (.pointer (some ⟨b,0,none⟩)),.int .i64 i] [ZaD 242 (.pointer (some ⟨b,0,none⟩)) o root why room q] (.tup [.agg (ZC (Z8 id room q why t' i).1),.int .i64 (Z8 id room q why t' i).2.2.2]) (fun _=>[ZaD 242 (.pointer (some ⟨b,0,none⟩)) o root (Z8 id room q why t' i).2.2.1 room (Z8 id room q why t' i).2.1])) (i:Int) (hr:Rep id q t i):FnG prog 248 1 [.is (.pointer (some ⟨b,0,none⟩)),.int .i64 i] [ZaD 242 (.pointer (some ⟨b,0,none⟩)) o root why room q] (.tup [.agg (ZC (Z8 id room q why t i).1),.int .i64 (Z8 id room q why t i).2.2.2]) (fun _=>[ZaD 242 (.pointer (some ⟨b,0,none⟩)) o root (Z8 id room q why t i).2.2.1 room (Z8 id room q why t i).2.1]):=by
 refine FnG.mk func248 Z ntmps248 Z kr fun B F0 a w F V hG O=>?_
 obtain ⟨F,O⟩:=O.peel 1 4 Z rfl
 obtain ⟨F,O⟩:=O.peel 1 5 Z rfl
 obtain ⟨F,O⟩:=O.nM [1,0] [5,4,0]
 refine Ya (Zb O (qf (oH [.int .i64 0,.int .i64 0] 101) trivial qz (qI qZ)) V [5,4,1,0] [101,5,4,0] (fun _=>rfl) (fun _=>rfl) fun τ a w F O=>?_)
 try dsimp only [RS.sub,SF.sub,CF.sub,csub,Anc.sub,List.map,zCF,Z4,ZC,ZH] at O
 generalize τ 4=v4 at O
 refine Za (Ya (Zb O (qR rr (qf (o_nilCheck 4 .is (by rfl)) r1 r1 (qf (oF 0 4 .adr) r1 r1 (qf (oL true 2 4 .adr) r1 r1 (qR rr (qf (o_callG1 5 (ZbB o room q root i) func107 Z kr (Args.two (.pagg .t) .t)) r2 r1 (qf (oH [.int .i64 0,.int .i64 0,.int .i64 0,.int .i64 0,.int .i64 0,.int .i64 0] 102) trivial qz (qf (oA 6 102 .same (.conv .t .agg)) r2 r1 qZ)))))))) V [6,5,4,0] [102,101,5,4,0] (fun _=>rfl) (fun _=>rfl) fun τ a w F O=>?_))
 try dsimp only [RS.sub,SF.sub,CF.sub,csub,Anc.sub,List.map,Zd,xL,xM,Nat.reduceAdd,xD,xE,xT,xU,xC,xN,zCF,ldSF,Z4,ZC,ZH] at O
 generalize τ 6=v6 at O
 refine Za (Ya (Ya (rZ O (qg 0 102 r1 r1 (qa 102 r1 r1 (qf (o_eql .t qi) r1 qz qZ))) V [17,6,5,4,0] [102,101,5,4,0] fun O=>?_)))
 refine Zc O Z (fun hc0=>?_) (fun hc0=>?_)
 ·have hz:(getC q i).left=0:=by simpa using hc0
  have hg:(Z8 id room q why t i)=(ZH id (getC q i),q,why,(getC q i).right):=by cases t with | nil=>rfl | node l x r=>exact Yf hz
  refine Ya (Zu O (qe 6 102 r1 r1 (qf (oP (Zdj (getC q i)) func247 (Args.one (.pagg .t))) r1 qz (qg 1 102 r1 r1 (qa 102 r1 r1 (qf (oA 2 101 .is (.conv .t .agg)) r2 r1 (qO rr qZ)))))) V [6,5,4,0] [102,101,5,4,0] Z Z fun a w F O=>?_)
  try dsimp only [List.map,Zd,xL,xM,Nat.reduceAdd,xD,xE,xT,xU,xC,xN,zCF,ldSF,Z4,ZC,ZH] at O
  refine Za (Yh (Zf ?_))
  have O:=O.fresh 1 rfl
  obtain ⟨F,O⟩:=O.push 1 5 Z Z Z kr
  obtain ⟨F,O⟩:=O.push 1 4 Z Z Z kr
  have O:=O.turn 1 Z (r':=RS.hp (ZaD 242 (.pointer (some ⟨b,0,none⟩)) o root (Z8 id room q why t i).2.2.1 room (Z8 id room q why t i).2.1)) (fun _ _ _ _ h=>by rw [hg];exact h)
  refine ZE hG O Z (.cl 101 true 2 Z Z (.tmp Z .nil)) (.two (.aggU Z (by rw [hg];rfl)) (.int (by first | (rw [hg];done) | (rw [hg];rfl)))) rfl
 have hz:¬ (getC q i).left=0:=by simpa using hc0
 obtain ⟨l,x,r,ht⟩:=hr.node (fun h=>hz (by rw [h,Zhe];rfl))
 have hn:Rep id q (.node l x r) i:=by rw [← ht];exact hr
 have hkx:=hn.2.2.2.1
 have hg:(Z8 id room q why t i)=((Z8 id room q why l (getC q i).left).1,ZaO id room (Z8 id room q why l (getC q i).left).2.1 (Z8 id room q why l (getC q i).left).2.2.1 (Z8 id room q why l (getC q i).left).2.2.2 (getC q i).right (ZH id (getC q i))):=by rw [ht];exact Yb hz
 refine Yd (Za (Ya ?_))
 have O:=O.fresh 1 rfl
 obtain ⟨F,O⟩:=O.push 1 5 Z Z Z kr
 obtain ⟨F,O⟩:=O.push 1 4 Z Z Z kr
 have O:=O.turn 1 Z (r':=RS.hp (ZaD 242 (.pointer (some ⟨b,0,none⟩)) o root why room q)) (fun _ _ _ _ h=>h)
 obtain ⟨F,O⟩:=O.nM [17,6,5,4,0] [102,101,1,0]
 refine Zb O (qR rr (qg 0 102 r1 r1 (qa 102 r1 r1 (qf (o_callG1 1 (ih l (by rw [ht];exact Zlj) (getC q i).left hn.2.1) func248 Z kr (Args.two .t .t)) r2 r1 (qR rr (qf (o_extract .t Z) r1 qz (qf (o_extract .t Z) r1 qz (qf (oH [.int .i64 0,.int .i64 0] 103) trivial qz (qf (oA 2 103 .same (.conv .t .agg)) r2 r1 (qO rr qZ)))))))))) V [8,7,6,5,4,0] [103,102,101,1,0] (fun _=>rfl) (fun _=>rfl) fun τ a w F O=>?_
 try dsimp only [RS.sub,SF.sub,CF.sub,csub,Anc.sub,List.map,Zd,xL,xM,Nat.reduceAdd,xD,xE,xT,xU,xC,xN,zCF,ldSF,Z4,ZC,ZH] at O
 generalize τ 7=v7 at O
 refine Za (Ya (Zu O (qe 2 103 r1 r1 (qR rr (qR rr (qg 1 102 r1 r1 (qa 102 r1 r1 (qe 6 102 r1 r1 (qf (oP (Zdj (getC q i)) func247 (Args.one (.pagg .t))) r1 qz (qf (o_callG1 1 (ZfD b o root (Z8 id room q why l (getC q i).left).2.2.1 room (Z8 id room q why l (getC q i).left).2.1 (Z8 id room q why l (getC q i).left).2.2.2 (getC q i).right (ZH id (getC q i))) func246 Z kr (Args.four .t .t .t .t)) r4 r1 (qs 2 101 r2 r1 (qO rr qZ)))))))))) V [5,4] [101,1,0] Z Z fun a w F O=>?_))
 try dsimp only [List.map,Zd,xL,xM,Nat.reduceAdd,xD,xE,xT,xU,xC,xN,zCF,ldSF,Z4,ZC,ZH] at O
 refine Za (Yh ?_)
 have O:=O.turn 1 Z (r':=RS.hp (ZaD 242 (.pointer (some ⟨b,0,none⟩)) o root (Z8 id room q why t i).2.2.1 room (Z8 id room q why t i).2.1)) (fun _ _ _ _ h=>by rw [hg];exact h)
 refine ZE hG O Z (.cl 101 true 2 Z Z (.tmp Z .nil)) (.two (.aggU Z (by rw [hg];rfl)) (.int (by first | (rw [hg];done) | (rw [hg];rfl)))) rfl
theorem ZqU (b:Nat) (o:Option Nat) (root why room:Int) (q:List Cell) (t:Zae) (i:Int) (hr:Rep id q t i):FnG prog 248 1 [.is (.pointer (some ⟨b,0,none⟩)),.int .i64 i] [ZaD 242 (.pointer (some ⟨b,0,none⟩)) o root why room q] (.tup [.agg (ZC (Z8 id room q why t i).1),.int .i64 (Z8 id room q why t i).2.2.2]) (fun _=>[ZaD 242 (.pointer (some ⟨b,0,none⟩)) o root (Z8 id room q why t i).2.2.1 room (Z8 id room q why t i).2.1]):=Zt0 (P:=fun t=>∀ i,Rep id q t i→FnG prog 248 1 [.is (.pointer (some ⟨b,0,none⟩)),.int .i64 i] [ZaD 242 (.pointer (some ⟨b,0,none⟩)) o root why room q] (.tup [.agg (ZC (Z8 id room q why t i).1),.int .i64 (Z8 id room q why t i).2.2.2]) (fun _=>[ZaD 242 (.pointer (some ⟨b,0,none⟩)) o root (Z8 id room q why t i).2.2.1 room (Z8 id room q why t i).2.1])) (fun t ih i hr=>ZqS b o root why room q t ih i hr) t i hr
theorem ZsX (b:Nat) (o:Option Nat) (root why room:Int) (q:List Cell) (k:Int) (t:Zae) (ih:∀ t',ZD t' < ZD t → ∀ i,Rep id q t' i→ZkI k t' → FnG prog 184 1 [.is (.pointer (some ⟨b,0,none⟩)),.int .i64 i,.int .i64 k] [ZaD 242 (.pointer (some ⟨b,0,none⟩)) o root why room q] (.int .i64 (ZbE id room q why k t' i).2.2) (fun _=>[ZaD 242 (.pointer (some ⟨b,0,none⟩)) o root (ZbE id room q why k t' i).2.1 room (ZbE id room q why k t' i).1])) (i:Int) (hr:Rep id q t i) (hh:ZkI k t):FnG prog 184 1 [.is (.pointer (some ⟨b,0,none⟩)),.int .i64 i,.int .i64 k] [ZaD 242 (.pointer (some ⟨b,0,none⟩)) o root why room q] (.int .i64 (ZbE id room q why k t i).2.2) (fun _=>[ZaD 242 (.pointer (some ⟨b,0,none⟩)) o root (ZbE id room q why k t i).2.1 room (ZbE id room q why k t i).1]):=by
 refine FnG.mk func184 Z ntmps184 Z kr fun B F0 a w F V hG O=>?_
 obtain ⟨l,x,r,ht⟩:∃ l x r,t = .node l x r:=by cases t with | nil=>exact hh.elim | node l x r=>exact ⟨l,x,r,rfl⟩
 have hn:Rep id q (.node l x r) i:=by rw [← ht];exact hr
 have hkx:=hn.2.2.2.1
 obtain ⟨F,O⟩:=O.peel 1 4 Z rfl
 obtain ⟨F,O⟩:=O.peel 1 5 Z rfl
 obtain ⟨F,O⟩:=O.nM [2,1,0] [5,4,0]
 refine Ya (rZ O (qI qZ) V [6,2,1,0] [5,4,0] fun O=>Ya ?_)
 refine Zb O (qR rr (qf (o_nilCheck 4 .is (by rfl)) r1 r1 (qf (oF 0 4 .adr) r1 r1 (qf (oL true 2 4 .adr) r1 r1 (qR rr (qf (o_callG1 5 (ZbB o room q root i) func107 Z kr (Args.two (.pagg .t) .t)) r2 r1 (qf (oH [.int .i64 0,.int .i64 0,.int .i64 0,.int .i64 0,.int .i64 0,.int .i64 0] 101) trivial qz (qf (oA 6 101 .same (.conv .t .agg)) r2 r1 qZ)))))))) V [7,6,2,0] [101,5,4,0] (fun _=>rfl) (fun _=>rfl) fun τ a w F O=>?_
 try dsimp only [RS.sub,SF.sub,CF.sub,csub,Anc.sub,List.map,Zd,xL,xM,Nat.reduceAdd,xD,xE,xT,xU,xC,xN,zCF,ldSF,Z4,ZC,ZH] at O
 generalize τ 7=v7 at O
 refine Za (Ya (Ye (Ya (rZ O (qR rr (qg 2 101 r1 r1 (qa 101 r1 r1 (qf (ZaR .t .t) r2 qz (qO rr qZ))))) V [16,7,6,2,0] [101,5,4,0] fun O=>?_))))
 refine Zc O Z (fun hc0=>?_) (fun hc0=>?_)
 ·have h1:(k<(getC q i).key):=by simp only [Yj,Yi] at hc0;omega
  have h9:ZkI k l:=by rw [ht] at hh;unfold ZkI at hh;rwa [Yf ow] at hh
  have hg:(ZbE id room q why k t i)=(ZaO id room (ZbE id room q why k l (getC q i).left).1 (ZbE id room q why k l (getC q i).left).2.1 (ZbE id room q why k l (getC q i).left).2.2 (getC q i).right (ZH id (getC q i))):=by rw [ht]; (conv=>lhs;unfold ZbE);rw [Yf h1] <;> rfl
  refine Ya ?_
  have O:=O.fresh 1 rfl
  obtain ⟨F,O⟩:=O.push 1 5 Z Z Z kr
  obtain ⟨F,O⟩:=O.push 1 4 Z Z Z kr
  have O:=O.turn 1 Z (r':=RS.hp (ZaD 242 (.pointer (some ⟨b,0,none⟩)) o root why room q)) (fun _ _ _ _ h=>h)
  obtain ⟨F,O⟩:=O.nM [16,7,6,2,0] [101,1,0]
  refine Zu O (qR rr (qR rr (qg 0 101 r1 r1 (qa 101 r1 r1 (qR rr (qf (o_callG1 1 (ih l (by rw [ht];exact Zlj) (getC q i).left hn.2.1 h9) func184 Z kr (Args.three .t .t .t)) r3 r1 (qg 1 101 r1 r1 (qa 101 r1 r1 (qe 6 101 r1 r1 (qf (oP (Zdj (getC q i)) func247 (Args.one (.pagg .t))) r1 qz (qf (o_callG1 1 (ZfD b o root (ZbE id room q why k l (getC q i).left).2.1 room (ZbE id room q why k l (getC q i).left).1 (ZbE id room q why k l (getC q i).left).2.2 (getC q i).right (ZH id (getC q i))) func246 Z kr (Args.four .t .t .t .t)) r4 r1 (qO rr qZ)))))))))))) V [7,6,0] [101,1,0] Z Z fun a w F O=>?_
  try dsimp only [List.map,xD,xE,xT,xU,ldSF,Z4,ZC,ZH] at O
  refine Za (Yh (Zr (Zf ?_)))
  have O:=O.turn 1 Z (r':=RS.hp (ZaD 242 (.pointer (some ⟨b,0,none⟩)) o root (ZbE id room q why k t i).2.1 room (ZbE id room q why k t i).1)) (fun _ _ _ _ h=>by rw [hg];exact h)
  refine ZE hG O Z (.tmp Z .nil) (.one (.int (by first | (rw [hg];done) | (rw [hg];rfl)))) rfl
 have h1:¬ (k<(getC q i).key):=by simp only [Yj,Yi] at hc0;omega
 refine Ya (rZ O (qR rr (qg 2 101 r1 r1 (qa 101 r1 r1 (qf (Zal .t .t) r2 qz (qO rr qZ))))) V [32,7,6,2,0] [101,5,4,0] fun O=>?_)
 refine Zc O Z (fun hc1=>?_) (fun hc1=>?_)
 ·have h2:((getC q i).key<k):=by simp only [Yj,Yi] at hc1;omega
  have h9:ZkI k r:=by rw [ht] at hh;unfold ZkI at hh;rwa [Yb ow,Yf ow] at hh
  have hg:(ZbE id room q why k t i)=(ZaO id room (ZbE id room q why k r (getC q i).right).1 (ZbE id room q why k r (getC q i).right).2.1 (getC q i).left (ZbE id room q why k r (getC q i).right).2.2 (ZH id (getC q i))):=by rw [ht]; (conv=>lhs;unfold ZbE);rw [Yb h1,Yf h2] <;> rfl
  refine Ya ?_
  have O:=O.fresh 1 rfl
  obtain ⟨F,O⟩:=O.push 1 5 Z Z Z kr
  obtain ⟨F,O⟩:=O.push 1 4 Z Z Z kr
  have O:=O.turn 1 Z (r':=RS.hp (ZaD 242 (.pointer (some ⟨b,0,none⟩)) o root why room q)) (fun _ _ _ _ h=>h)
  obtain ⟨F,O⟩:=O.nM [32,7,6,2,0] [101,1,0]
  refine Zu O (qR rr (qg 0 101 r1 r1 (qa 101 r1 r1 (qR rr (qg 1 101 r1 r1 (qa 101 r1 r1 (qR rr (qf (o_callG1 1 (ih r (by rw [ht];exact Zo5) (getC q i).right hn.2.2.1 h9) func184 Z kr (Args.three .t .t .t)) r3 r1 (qe 6 101 r1 r1 (qf (oP (Zdj (getC q i)) func247 (Args.one (.pagg .t))) r1 qz (qf (o_callG1 1 (ZfD b o root (ZbE id room q why k r (getC q i).right).2.1 room (ZbE id room q why k r (getC q i).right).1 (getC q i).left (ZbE id room q why k r (getC q i).right).2.2 (ZH id (getC q i))) func246 Z kr (Args.four .t .t .t .t)) r4 r1 (qO rr qZ)))))))))))) V [7,6,0] [101,1,0] Z Z fun a w F O=>?_
  try dsimp only [List.map,xD,xE,xT,xU,ldSF,Z4,ZC,ZH] at O
  refine Za (Yh (Zr (Zf ?_)))
  have O:=O.turn 1 Z (r':=RS.hp (ZaD 242 (.pointer (some ⟨b,0,none⟩)) o root (ZbE id room q why k t i).2.1 room (ZbE id room q why k t i).1)) (fun _ _ _ _ h=>by rw [hg];exact h)
  refine ZE hG O Z (.tmp Z .nil) (.one (.int (by first | (rw [hg];done) | (rw [hg];rfl)))) rfl
 have h2:¬ ((getC q i).key<k):=by simp only [Yj,Yi] at hc1;omega
 refine Ya (rZ O (qg 0 101 r1 r1 (qa 101 r1 r1 (qf (o_eql .t qi) r1 qz (qO rr qZ)))) V [48,7,6,0] [101,5,4,0] fun O=>?_)
 refine Zc O Z (fun hc2=>?_) (fun hc2=>?_)
 ·have hz:(getC q i).left=0:=by simpa using hc2
  have hg:(ZbE id room q why k t i)=(q,why,(getC q i).right):=by rw [ht]; (conv=>lhs;unfold ZbE);rw [Yb h1,Yb h2,Yf hz] <;> rfl
  refine Ya (rZ O (qg 1 101 r1 r1 (qa 101 r1 r1 (qO rr qZ))) V [7,6,0] [101,5,4,0] fun O=>(Yh (Zr (Zf ?_))))
  have O:=O.fresh 1 rfl
  obtain ⟨F,O⟩:=O.push 1 5 Z Z Z kr
  obtain ⟨F,O⟩:=O.push 1 4 Z Z Z kr
  have O:=O.turn 1 Z (r':=RS.hp (ZaD 242 (.pointer (some ⟨b,0,none⟩)) o root (ZbE id room q why k t i).2.1 room (ZbE id room q why k t i).1)) (fun _ _ _ _ h=>by rw [hg];exact h)
  refine ZE hG O Z (.tmp Z .nil) (.one (.int (by first | (rw [hg];done) | (rw [hg];rfl)))) rfl
 have hz:¬ (getC q i).left=0:=by simpa using hc2
 refine Ya (rZ O (qg 1 101 r1 r1 (qa 101 r1 r1 (qf (o_eql .t qi) r1 qz (qO rr qZ)))) V [54,7,6,0] [101,5,4,0] fun O=>?_)
 refine Zc O Z (fun hc3=>?_) (fun hc3=>?_)
 ·have hz2:(getC q i).right=0:=by simpa using hc3
  have hg:(ZbE id room q why k t i)=(q,why,(getC q i).left):=by rw [ht]; (conv=>lhs;unfold ZbE);rw [Yb h1,Yb h2,Yb hz,Yf hz2] <;> rfl
  refine Ya (rZ O (qg 0 101 r1 r1 (qa 101 r1 r1 (qO rr qZ))) V [7,6,0] [101,5,4,0] fun O=>(Yh (Zr (Zf ?_))))
  have O:=O.fresh 1 rfl
  obtain ⟨F,O⟩:=O.push 1 5 Z Z Z kr
  obtain ⟨F,O⟩:=O.push 1 4 Z Z Z kr
  have O:=O.turn 1 Z (r':=RS.hp (ZaD 242 (.pointer (some ⟨b,0,none⟩)) o root (ZbE id room q why k t i).2.1 room (ZbE id room q why k t i).1)) (fun _ _ _ _ h=>by rw [hg];exact h)
  refine ZE hG O Z (.tmp Z .nil) (.one (.int (by first | (rw [hg];done) | (rw [hg];rfl)))) rfl
 have hz2:¬ (getC q i).right=0:=by simpa using hc3
 have hg:(ZbE id room q why k t i)=(ZaO id room (Z8 id room q why r (getC q i).right).2.1 (Z8 id room q why r (getC q i).right).2.2.1 (getC q i).left (Z8 id room q why r (getC q i).right).2.2.2 (Z8 id room q why r (getC q i).right).1):=by rw [ht]; (conv=>lhs;unfold ZbE);rw [Yb h1,Yb h2,Yb hz,Yb hz2] <;> rfl
 refine Yd (Zi (Za (Ya ?_)))
 have O:=O.fresh 1 rfl
 obtain ⟨F,O⟩:=O.push 1 5 Z Z Z kr
 obtain ⟨F,O⟩:=O.push 1 4 Z Z Z kr
 have O:=O.turn 1 Z (r':=RS.hp (ZaD 242 (.pointer (some ⟨b,0,none⟩)) o root why room q)) (fun _ _ _ _ h=>h)
 obtain ⟨F,O⟩:=O.nM [54,7,6,0] [101,1,0]
 refine Zb O (qR rr (qg 1 101 r1 r1 (qa 101 r1 r1 (qf (o_callG1 1 (ZqU b o root why room q r (getC q i).right hn.2.2.1) func248 Z kr (Args.two .t .t)) r2 r1 (qR rr (qf (o_extract .t Z) r1 qz (qf (o_extract .t Z) r1 qz (qf (oH [.int .i64 0,.int .i64 0] 102) trivial qz (qf (oA 2 102 .same (.conv .t .agg)) r2 r1 (qO rr qZ)))))))))) V [9,8,7,6,0] [102,101,1,0] (fun _=>rfl) (fun _=>rfl) fun τ a w F O=>?_
 try dsimp only [RS.sub,SF.sub,CF.sub,csub,Anc.sub,List.map,Zd,xL,xM,Nat.reduceAdd,xD,xE,xT,xU,xC,xN,zCF,ldSF,Z4,ZC,ZH] at O
 generalize τ 8=v8 at O
 refine Za (Ya (rZ O (qR rr (qg 0 101 r1 r1 (qa 101 r1 r1 (qR rr (qe 2 102 r1 r1 (qf (o_callG1 1 (ZfD b o root (Z8 id room q why r (getC q i).right).2.2.1 room (Z8 id room q why r (getC q i).right).2.1 (getC q i).left (Z8 id room q why r (getC q i).right).2.2.2 (Z8 id room q why r (getC q i).right).1) func246 Z kr (Args.four .t .t .t (.pagg .t))) r4 r1 (qO rr qZ))))))) V [6] [1,0] fun O=>Yh ?_))
 have O:=O.turn 1 Z (r':=RS.hp (ZaD 242 (.pointer (some ⟨b,0,none⟩)) o root (ZbE id room q why k t i).2.1 room (ZbE id room q why k t i).1)) (fun _ _ _ _ h=>by rw [hg];exact h)
 refine ZE hG O Z (.tmp Z .nil) (.one (.int (by first | (rw [hg];done) | (rw [hg];rfl)))) rfl
theorem Zs3 (b:Nat) (o:Option Nat) (root why room:Int) (q:List Cell) (k:Int) (t:Zae) (i:Int) (hr:Rep id q t i) (hh:ZkI k t):FnG prog 184 1 [.is (.pointer (some ⟨b,0,none⟩)),.int .i64 i,.int .i64 k] [ZaD 242 (.pointer (some ⟨b,0,none⟩)) o root why room q] (.int .i64 (ZbE id room q why k t i).2.2) (fun _=>[ZaD 242 (.pointer (some ⟨b,0,none⟩)) o root (ZbE id room q why k t i).2.1 room (ZbE id room q why k t i).1]):=Zt0 (P:=fun t=>∀ i,Rep id q t i→ZkI k t→FnG prog 184 1 [.is (.pointer (some ⟨b,0,none⟩)),.int .i64 i,.int .i64 k] [ZaD 242 (.pointer (some ⟨b,0,none⟩)) o root why room q] (.int .i64 (ZbE id room q why k t i).2.2) (fun _=>[ZaD 242 (.pointer (some ⟨b,0,none⟩)) o root (ZbE id room q why k t i).2.1 room (ZbE id room q why k t i).1])) (fun t ih i hr=>ZsX b o root why room q k t ih i hr) t i hr hh
def Zqb (a b:Int):Int:=if a<b then -1 else if b<a then 1 else 0
theorem cmpI_zero {a b:Int} : Zqb a b=0 ↔ a=b:=by unfold Zqb;split;omega;split <;> omega
theorem cmpI_neg {a b:Int} : Zqb a b = -1 ↔ a<b:=by unfold Zqb;split;omega;split <;> omega
def Zcf (k:Int):Zae→Int×Bool
 | .nil=>(0,false)
 | .node l p r=>if k<p.key then Zcf k l else if p.key<k then Zcf k r else (p.val,true)
theorem Zpy (x:Int):FnP prog 175 [.int .i64 x] (.bool false):=by
 refine FnP.mk func175 Z ntmps175 Z fun B a w F V hfr O=>Ya ?_
 refine rZ O qB V [2,0] [0] fun O=>Ya ?_
 refine rZ O (qR rr (qR rr (qf (o_neq .t .t) r2 qz (qO rr qZ)))) V [2] [0] fun O=>Yh ?_
 refine ZB hfr O Z Z Z (.bool (by simp))
theorem ZtY (x y:Int):FnP prog 108 [.int .i64 x,.int .i64 y] (.int .i64 (Zqb x y)):=by
 refine FnP.mk func108 Z ntmps108 Z fun B a w F V hfr O=>Ya ?_
 refine rZ O (qI qZ) V [4,1,0] [0] fun O=>Ya ?_
 refine rZ O (qR rr (qf (oP (Zpy x) func175 (Args.one .t)) r1 qz (qO rr qZ))) V [5,4,1,0] [0] fun O=>Ya ?_
 refine rZ O (qR rr (qf (oP (Zpy y) func175 (Args.one .t)) r1 qz (qO rr qZ))) V [6,5,4,1,0] [0] fun O=>(Ya (Ya ?_))
 refine rZ O (qR rr qZ) V [11,6,4,1,0] [0] fun O=>?_
 refine Zc O Z (fun hc0=>?_) (fun hc0=>?_)
 ·simp at hc0
 refine Yd (Za (Ya (Ya (rZ O (qR rr qZ) V [13,4,1,0] [0] fun O=>?_))))
 refine Zc O Z (fun hc1=>?_) (fun hc1=>?_)
 ·simp at hc1
 refine Yd (Za (Ya (Ya (rZ O (qR rr (qR rr (qL r2))) V [16,4,1,0] [0] fun O=>?_))))
 refine Zc O Z (fun hc2=>?_) (fun hc2=>?_)
 ·have hg:(-1:Int)=Zqb x y:=(cmpI_neg.2 (by simpa using hc2)).symm
  refine Ya (rZ O (qI qZ) V [4,1,0] [0] fun O=>(Yh (Zf ?_)))
  refine ZB hfr O Z Z Z (.int hg)
 have h1:¬ x<y:=by simpa using hc2
 refine Yd (Za (Ya (Ya (rZ O (qR rr (qR rr (qf (Zal .t .t) r2 qz qZ))) V [19,4] [0] fun O=>?_))))
 refine Zc O Z (fun hc3=>?_) (fun hc3=>?_)
 ·have h2:y<x:=by simpa using hc3
  have hg:(1:Int)=Zqb x y:=by unfold Zqb;rw [Yb h1,Yf h2]
  refine Ya (rZ O (qI qZ) V [4] [0] fun O=>(Yh (Zf ?_)))
  refine ZB hfr O Z Z Z (.int hg)
 have h2:¬ y<x:=by simpa using hc3
 have hg:(0:Int)=Zqb x y:=by unfold Zqb;rw [Yb h1,Yb h2]
 refine Yd (Za (Ya (rZ O (qI qZ) V [4] [0] fun O=>Yh ?_)))
 refine ZB hfr O Z Z Z (.int hg)
theorem Zr7 (o:Option Nat) (room:Int) (q:List Cell) (root:Int):FnG prog 117 1 [.agg [.is (arV o),.int .i64 root]] [arH o room q] (.int .i64 (getC q root).high) (fun _=>[arH o room q]):=by
 refine FnG.mk func117 Z ntmps117 Z kr fun B F0 a w F V hG O=>Ya ?_
 refine Zb O (qx 101 r1 (qI qZ)) V [2,1] [101,1,0] (fun _=>rfl) (fun _=>rfl) fun τ a w F O=>?_
 try dsimp only [RS.sub,SF.sub,CF.sub,csub,Anc.sub,List.map,zCF,Z4,ZC] at O
 generalize τ 1=v1 at O
 refine Za (Ya (rZ O (qe 2 101 r1 r1 (qg 1 101 r1 r1 (qa 101 r1 r1 (qf (o_callG1 1 (ZbB o room q root root) func107 Z kr (Args.two (.pagg .t) .t)) r2 r1 (qf (ZeX (ft:=3) (off:=5) kr kr .t Z) r1 qz (qO rr qZ)))))) V [2] [1,0] fun O=>Yh ?_))
 refine ZE hG O Z (.tmp Z .nil) (.one (.int Z)) rfl
theorem ZrK (o:Option Nat) (room:Int) (q:List Cell) (root:Int) (k:Int) (t0:Zae) (hr0:Rep id q t0 root):FnG prog 53 1 [.agg [.is (arV o),.int .i64 root],.int .i64 k] [arH o room q] (.tup [.int .i64 (Zcf k t0).1,.bool (Zcf k t0).2]) (fun _=>[arH o room q]):=by
 refine FnG.mk func53 Z ntmps53 Z kr fun B F0 a w F V hG O=>Ya ?_
 refine Zb O (qx 101 r1 (qI qB)) V [5,4,2,1] [101,1,0] (fun _=>rfl) (fun _=>rfl) fun τ a w F O=>?_
 try dsimp only [RS.sub,SF.sub,CF.sub,csub,Anc.sub,List.map,zCF,Z4,ZC] at O
 generalize τ 2=v2 at O
 refine Za (Ya (Ya (rZ O (qg 1 101 r1 r1 (qa 101 r1 r1 (qO rr qZ))) V [6,5,4,2,1] [101,1,0] fun O=>Ye ?_)))
 refine Zk (σ:=Int×Zae) [1,2,4,5] [0,1,101] (fun s=>[(6,.pv (.int .i64 s.1))]) (fun s=>[]) (fun s=>Rep id q s.2 s.1∧Zcf k s.2=Zcf k t0) (fun s=>(ZD s.2).toNat) ((root),(t0)) O ⟨rfl,rfl,rfl,rfl,rfl,tv⟩ ⟨rfl,rfl,rfl,tv⟩ ⟨hr0,rfl⟩ ?_
 clear O;intro s a w F hC O
 obtain ⟨i,t⟩:=s
 try dsimp only at hC
 obtain ⟨F,O⟩:=O.nM [6,5,4,2,1] [101,1,0]
 try dsimp only at O
 obtain ⟨hr,hk⟩:=hC
 refine Ya (Ya (rZ O (qR rr (qf (Zal .t qi) r1 qz qZ)) V [11,6,5,4,2,1] [101,1,0] fun O=>?_))
 refine Zc O Z (fun hc0=>?_) (fun hc0=>?_)
 ·have hi:0<i:=by simpa using hc0
  obtain ⟨l,x,r,ht⟩:=hr.node (show i≠0 by omega)
  rw [ht] at hr hk
  have hkx:=hr.2.2.2.1
  refine Yd (Za (Ye (Ya (Zb O (qe 2 101 r1 r1 (qR rr (qf (o_callG1 1 (ZbB o room q root i) func107 Z kr (Args.two (.pagg .t) .t)) r2 r1 (qf (oH [.int .i64 0,.int .i64 0,.int .i64 0,.int .i64 0,.int .i64 0,.int .i64 0] 102) trivial qz (qf (oA 6 102 .same (.conv .t .agg)) r2 r1 qZ))))) V [7,6,5,4,2,1] [102,101,1,0] (fun _=>rfl) (fun _=>rfl) fun τ a w F O=>?_))))
  try dsimp only [RS.sub,SF.sub,CF.sub,csub,Anc.sub,List.map,Zd,xL,xM,Nat.reduceAdd,xD,xE,xT,xU,xC,xN,zCF,ldSF,Z4,ZC] at O
  generalize τ 7=v7 at O
  refine Za (Ya (rZ O (qR rr (qg 2 102 r1 r1 (qa 102 r1 r1 (qf (oP (ZtY k (getC q i).key) func108 (Args.two .t .t)) r2 qz qZ)))) V [18,7,6,5,4,2,1] [102,101,1,0] fun O=>(Ye (Ya ?_))))
  refine rZ O (qf (o_eql .t qi) r1 qz (qO rr qZ)) V [21,18,7,6,5,4,2,1] [102,101,1,0] fun O=>?_
  refine Zc O Z (fun hc1=>?_) (fun hc1=>?_)
  ·have h1:k=x.key:=by rw [← hkx];exact cmpI_zero.1 (by simpa using hc1)
   have hg:Zcf k t0=((getC q i).val,true):=by rw [← hk];unfold Zcf;rw [Yb ow,Yb ow,hr.2.2.2.2.2.1]
   refine Ya (rZ O (qg 3 102 r1 r1 (qa 102 r1 r1 (qO rr qB))) V [6,5,4,2,1] [101,1,0] fun O=>(Yh (Zr (Zr (Zf (Zr (Zf ?_)))))))
   refine ZE hG O Z (.tmp Z (.tmp Z .nil)) (.two (.int (by rw [hg])) (.bool (by rw [hg]))) rfl
  have h1:¬ k=x.key:=by rw [← hkx];intro hh;simp [cmpI_zero.2 hh] at hc1
  refine Ya (rZ O (qf (o_eql .t qi) r1 qz (qO rr qZ)) V [25,7,6,5,4,2,1] [102,101,1,0] fun O=>?_)
  refine Zc O Z (fun hc2=>?_) (fun hc2=>?_)
  ·have h2:k<x.key:=by rw [← hkx];exact cmpI_neg.1 (by simpa using hc2)
   obtain ⟨t2,ht2⟩:∃ t2,t2=l:=⟨_,rfl⟩
   have hC2:Rep id q t2 (getC q i).left∧Zcf k t2=Zcf k t0:=⟨by rw [ht2];exact hr.2.1,by rw [← hk,ht2];exact (Yf h2).symm⟩
   have hmu:(ZD t2).toNat<(ZD t).toNat:=by rw [ht];rw [ht2];have:=ZP l;have:=ZP r;show _<(ZD l+ZD r+1).toNat;omega
   refine Zh O (qg 0 102 r1 r1 (qa 102 r1 r1 (qO rr qZ))) V [6,5,4,2,1] [101,1,0] Z Z fun a w F O=>Zi (Zi (Za ?_))
   obtain ⟨F,O⟩:=O.nM [5,4,2,1,6] [101,1,0]
   exact ⟨(_,(t2)),F,hC2,O,hmu⟩
  have h2:¬ k<x.key:=by rw [← hkx];intro hh;simp [cmpI_neg.2 hh] at hc2
  obtain ⟨t2,ht2⟩:∃ t2,t2=r:=⟨_,rfl⟩
  have hC2:Rep id q t2 (getC q i).right∧Zcf k t2=Zcf k t0:=⟨by rw [ht2];exact hr.2.2.1,by rw [← hk,ht2];exact ((Yb h2).trans (Yf ow)).symm⟩
  have hmu:(ZD t2).toNat<(ZD t).toNat:=by rw [ht];rw [ht2];have:=ZP l;have:=ZP r;show _<(ZD l+ZD r+1).toNat;omega
  refine Zh O (qg 1 102 r1 r1 (qa 102 r1 r1 (qO rr qZ))) V [6,5,4,2,1] [101,1,0] Z Z fun a w F O=>Zi (Zi (Za ?_))
  obtain ⟨F,O⟩:=O.nM [5,4,2,1,6] [101,1,0]
  exact ⟨(_,(t2)),F,hC2,O,hmu⟩
 have hi:¬ 0<i:=by simpa using hc0
 have hi0:=hr.range
 have hi2:i=0:=by omega
 subst hi2
 have hg:Zcf k t0=(0,false):=by rw [← hk,hr.zero];rfl
 refine Ym (Zg (Zg (Zo (Za (Ya (rZ O (qI qB) V [5,4] [1,0] fun O=>Yh ?_))))))
 refine ZE hG O Z (.tmp Z (.tmp Z .nil)) (.two (.int (by rw [hg])) (.bool (by rw [hg]))) rfl
theorem Zfh {k:Int} : ∀ {t:Zae},(Zcf k t).2=true ↔ ZkI k t
 | .nil=>by simp [Zcf,ZkI]
 | .node l p r=>by
  have hl:=@Zfh k l
  have hr:=@Zfh k r
  unfold Zcf ZkI
  split
  ·exact hl
  ·split
   ·exact hr
   ·simp
def Zc4 (n:Nat) (m:St):St:=(if m.2.1≠0 then ZcM m.1 n else m.1,m.2.1,if m.2.1≠0 then 0 else m.2.2)
def Zrt (room:Int) (q:List Cell) (p:ZF) (t:Zae) (root:Int):St:=Zc4 q.length (Zb3 id room q 0 p t root)
def ZoA (room:Int) (q:List Cell) (k:Int) (t:Zae) (root:Int):St:=if (Zcf k t).2=true then Zc4 q.length (ZbE id room q 0 k t root) else (q,3,0)
theorem Zd0 {kf:Int→Int} {room lo n:Int} {q:List Cell} {m:St} {t:Zae} (h:ZdX kf room q lo n m t):(∃ e:List Cell,(Zc4 q.length m).1=q++e∧(Zc4 q.length m).2.1=0∧Rep kf (q++e) t (Zc4 q.length m).2.2∧lo≤e.length∧(e.length:Int)≤n)∨(Zc4 q.length m=(q,2,0)∧room<q.length+n):=by
 obtain ⟨e,e1,e2,⟨e3,e4,e5⟩ | ⟨e3,e4⟩⟩:=h
 ·refine .inl ⟨e,?_⟩
  unfold Zc4
  rw [Yb ow,Yb ow]
  exact ⟨e1,e3,by rw [← e1];exact e4,e5,e2⟩
 ·refine .inr ⟨?_,e4⟩
  unfold Zc4
  rw [Yf ow,Yf ow,e3,e1]
  have:ZcM (q++e) q.length=q:=by
   unfold ZcM
   rw [Yf (by simp only [Yc];omega),Yg,List.take_left]
  rw [this]
theorem ZkF (o:Option Nat):FnP prog 104 [.is (arV o)] (.agg [.is (arV o),.int .i64 0]):=by
 refine FnP.mk func104 Z ntmps104 Z fun B a w F V hfr O=>Ya ?_
 refine Zb O (qf (oH [.pointer none,.int .i64 0] 101) trivial qz qZ) V [2,0] [101,0] (fun _=>rfl) (fun _=>rfl) fun τ a w F O=>?_
 try dsimp only [RS.sub,SF.sub,CF.sub,csub,Anc.sub,List.map,zCF,Z4,ZC] at O
 generalize τ 2=v2 at O
 refine Za (Ya (rZ O (qR rr (qf (oB [(0,.tmp 3)] [.pointer none,.int .i64 0] [(0,1),(1,1)] (.one Z .t Zh3 kr .nil)) r1 qz (qs 2 101 r2 r1 qZ))) V [2] [101,0] fun O=>Yh ?_))
 refine Z3 hfr O Z (.cl 101 true 2 Z Z .nil) (.one (.aggU Z Z))
theorem Zla (b:Nat) (o:Option Nat) (root why room:Int) (q:List Cell) (rt mark:Int):FnG prog 183 1 [.is (.pointer (some ⟨b,0,none⟩)),.int .i64 rt,.int .i64 mark] [ZaD 242 (.pointer (some ⟨b,0,none⟩)) o root why room q] (.tup [.agg [.is (arV o),.int .i64 (if why≠0 then 0 else rt)],.int .i64 why]) (fun _=>[ZaD 242 (.pointer (some ⟨b,0,none⟩)) o root why room (if why≠0 then ZcM q mark else q)]):=by
 refine FnG.mk func183 Z ntmps183 Z kr fun B F0 a w F V hG O=>?_
 obtain ⟨F,O⟩:=O.peel 1 4 Z rfl
 obtain ⟨F,O⟩:=O.peel 1 5 Z rfl
 obtain ⟨F,O⟩:=O.nM [2,1,0] [5,4,0]
 refine Ya (Zb O (qf (oH [.pointer none,.int .i64 0] 101) trivial qz (qI qZ)) V [7,6,2,1,0] [101,5,4,0] (fun _=>rfl) (fun _=>rfl) fun τ a w F O=>?_)
 try dsimp only [RS.sub,SF.sub,CF.sub,csub,Anc.sub,List.map,zCF,Z4,ZC] at O
 generalize τ 6=v6 at O
 refine Za (Ya (Ya (rZ O (qR rr (qf (o_nilCheck 4 .is (by rfl)) r1 r1 (qf (oF 2 4 .adr) r1 r1 (qa 4 r1 r1 (qf (o_neq .t qi) r1 qz qZ))))) V [12,7,6,2,1,0] [101,5,4,0] fun O=>?_)))
 refine Zc O Z (fun hc0=>?_) (fun hc0=>?_)
 ·have hg:(if why≠0 then ZcM q mark else q)=ZcM q mark:=Yf (by simpa using hc0)
  have hg2:(if why≠0 then 0 else rt)=0:=Yf (by simpa using hc0)
  refine Ya (rZ O (qR rr (qf (o_nilCheck 4 .is (by rfl)) r1 r1 (qf (oF 0 4 .adr) r1 r1 (qf (oF 0 4 .adr) r1 r1 (qa 4 r1 r1 (qR rr (qf (o_callG1 5 (ZrD o room q mark) func189 Z kr (Args.two .t .t)) r2 r1 qZ))))))) V [7,6,1,0] [101,5,4,0] fun O=>Ya ?_)
  refine Zu O (qR rr (qf (o_nilCheck 4 .is (by rfl)) r1 r1 (qf (oF 0 4 .adr) r1 r1 (qf (oF 0 4 .adr) r1 r1 (qa 4 r1 r1 (qf (oP (ZkF o) func104 (Args.one .t)) r1 qz (qR rr (qf (o_nilCheck 4 .is (by rfl)) r1 r1 (qf (oF 2 4 .adr) r1 r1 (qa 4 r1 r1 (qf (oA 2 101 .is (.conv .t .agg)) r2 r1 (qO rr qZ)))))))))))) V [7,6,1,0] [101,5,4,0] Z Z fun a w F O=>?_
  try dsimp only [List.map,Zd,xL,xM,Nat.reduceAdd,xD,xE,xT,xU,xC,xN,zCF,ldSF,Z4,ZC] at O
  refine Za (Yh (Zf ?_))
  have O:=O.fresh 1 rfl
  obtain ⟨F,O⟩:=O.push 1 5 Z Z Z kr
  obtain ⟨F,O⟩:=O.push 1 4 Z Z Z kr
  have O:=O.turn 1 Z (r':=RS.hp (ZaD 242 (.pointer (some ⟨b,0,none⟩)) o root why room (if why≠0 then ZcM q mark else q))) (fun _ _ _ _ h=>by rw [hg];exact h)
  refine ZE hG O Z (.cl 101 true 2 Z Z (.tmp Z .nil)) (.two (.aggU Z (by first | (rw [hg2];done) | (rw [hg2];rfl))) (.int (by first | rfl | exact hw))) rfl
 have hw:(0:Int)=why:=by simp at hc0;omega
 have hg:(if why≠0 then ZcM q mark else q)=q:=Yb ow
 have hg2:(if why≠0 then 0 else rt)=rt:=Yb ow
 refine Yd (Za (Ya (rZ O (qR rr (qf (o_nilCheck 4 .is (by rfl)) r1 r1 (qf (oF 0 4 .adr) r1 r1 (qf (oF 0 4 .adr) r1 r1 (qa 4 r1 r1 (qR rr (qf (oB [(0,.tmp 34),(1,.tmp 35)] [.pointer none,.int .i64 0] [(0,1),(1,1)] (.one Z .t Zh3 kr (.one Z .t one_int kr .nil))) r2 qz (qs 2 101 r2 r1 (qI qZ))))))))) V [7,6] [101,5,4,0] fun O=>Yh ?_)))
 have O:=O.fresh 1 rfl
 obtain ⟨F,O⟩:=O.push 1 5 Z Z Z kr
 obtain ⟨F,O⟩:=O.push 1 4 Z Z Z kr
 have O:=O.turn 1 Z (r':=RS.hp (ZaD 242 (.pointer (some ⟨b,0,none⟩)) o root why room (if why≠0 then ZcM q mark else q))) (fun _ _ _ _ h=>by rw [hg];exact h)
 refine ZE hG O Z (.cl 101 true 2 Z Z (.tmp Z .nil)) (.two (.aggU Z (by first | (rw [hg2];done) | (rw [hg2];rfl))) (.int (by first | rfl | exact hw))) rfl
theorem ZtA (o:Option Nat) (room:Int) (q:List Cell) (root:Int) (k x:Int) (t0:Zae) (hr0:Rep id q t0 root):FnG prog 119 1 [.agg [.is (arV o),.int .i64 root],.int .i64 k,.int .i64 x] [arH o room q] (.tup [.agg [.is (arV o),.int .i64 (Zrt room q ⟨k,x⟩ t0 root).2.2],.int .i64 (Zrt room q ⟨k,x⟩ t0 root).2.1]) (fun _=>[arH o room (Zrt room q ⟨k,x⟩ t0 root).1]):=by
 refine FnG.mk func119 Z ntmps119 Z kr fun B F0 a w F V hG O=>?_
 have hg:(Zrt room q ⟨k,x⟩ t0 root)=Zc4 q.length (Zb3 id room q 0 ⟨k,x⟩ t0 root):=rfl
 refine Ya (Zb O (qx 101 r1 (qf (oH [.pointer none,.int .i64 0] 102) trivial qz (qI qZ))) V [7,6,3,2,1] [102,101,1,0] (fun _=>rfl) (fun _=>rfl) fun τ a w F O=>?_)
 try dsimp only [RS.sub,SF.sub,CF.sub,csub,Anc.sub,List.map,zCF,Z4,ZC] at O
 generalize τ 3=v3,τ 6=v6 at O
 refine Za (Ya (Zb O (qe 2 101 r1 r1 (qf (oB [(0,.tmp 10)] [.pointer none,.int .i64 0,.int .i64 0] [(0,2),(2,1)] (.agg Z .t kr kr .nil)) r1 qz (qf (oX 103 .t) r1 qz (qO rr qZ)))) V [8,7,6,3,2,1] [103,102,101,1,0] (fun _=>rfl) (fun _=>rfl) fun τ a w F O=>?_))
 try dsimp only [RS.sub,SF.sub,CF.sub,csub,Anc.sub,List.map,Zd,xL,xM,Nat.reduceAdd,xD,xE,xT,xU,xC,xN,zCF,ldSF,Z4,ZC] at O
 generalize τ 12=v12 at O
 refine Za (Ya (rZ O (qg 0 101 r1 r1 (qa 101 r1 r1 (qf (o_callG1 1 (ZmU o room q) func182 Z kr (Args.one .t)) r1 r1 (qO rr qZ)))) V [9,8,7,6,3,2,1] [103,102,101,1,0] fun O=>Ya ?_))
 obtain ⟨b,rfl⟩:=O.shape 103 rfl
 have O:=O.fresh 4 rfl
 obtain ⟨F,O⟩:=O.push 4 1 Z Z Z kr
 obtain ⟨F,O⟩:=O.push 4 103 Z Z Z kr
 have O:=O.turn 4 Z (r':=RS.hp (ZaD 242 (.pointer (some ⟨b,0,none⟩)) o root 0 room q)) (fun _ _ _ _ h=>h)
 obtain ⟨F,O⟩:=O.nM [9,8,7,6,3,2,1] [102,101,4,0]
 refine rZ O (qR rr (qR rr (qg 1 101 r1 r1 (qa 101 r1 r1 (qR rr (qR rr (qf (oB [(0,.tmp 20),(1,.tmp 21)] [.int .i64 0,.int .i64 0] [(0,1),(1,1)] (.one Z .t one_int kr (.one Z .t one_int kr .nil))) r2 qz (qf (o_callG1 4 (ZsV b o root 0 room q ⟨k,x⟩ t0 root hr0) func185 Z kr (Args.three .t .t (.pagg .t))) r3 r1 (qR rr (qf (o_callG1 4 (Zla b o root (Zb3 id room q 0 ⟨k,x⟩ t0 root).2.1 room (Zb3 id room q 0 ⟨k,x⟩ t0 root).1 (Zb3 id room q 0 ⟨k,x⟩ t0 root).2.2 q.length) func183 Z kr (Args.three .t .t .t)) r3 r1 (qf (o_extract .t Z) r1 qz (qf (o_extract .t Z) r1 qz (qf (oA 2 102 .is (.conv .t .agg)) r2 r1 (qO rr qZ)))))))))))))) V [7,6] [102,4,0] fun O=>Yh ?_
 obtain ⟨F,O⟩:=O.peel 4 7 Z rfl
 obtain ⟨F,O⟩:=O.peel 4 1 Z rfl
 have O:=O.turn 1 Z (r':=RS.hp (arH o room (Zrt room q ⟨k,x⟩ t0 root).1)) (fun _ _ _ _ h=>by rw [hg];exact h)
 refine ZE hG O Z (.cl 102 true 2 Z Z (.tmp Z .nil)) (.two (.aggU Z (by first | (rw [hg];done) | (rw [hg];rfl))) (.int (by first | (rw [hg];done) | (rw [hg];rfl)))) rfl
theorem Ztt (o:Option Nat) (room:Int) (q:List Cell) (root:Int) (k:Int) (t0:Zae) (hr0:Rep id q t0 root):FnG prog 118 1 [.agg [.is (arV o),.int .i64 root],.int .i64 k] [arH o room q] (.tup [.agg [.is (arV o),.int .i64 (ZoA room q k t0 root).2.2],.int .i64 (ZoA room q k t0 root).2.1]) (fun _=>[arH o room (ZoA room q k t0 root).1]):=by
 refine FnG.mk func118 Z ntmps118 Z kr fun B F0 a w F V hG O=>Ya ?_
 refine Zb O (qx 101 r1 (qf (oH [.pointer none,.int .i64 0] 102) trivial qz (qI qZ))) V [5,4,2,1] [102,101,1,0] (fun _=>rfl) (fun _=>rfl) fun τ a w F O=>?_
 try dsimp only [RS.sub,SF.sub,CF.sub,csub,Anc.sub,List.map,zCF,Z4,ZC] at O
 generalize τ 2=v2,τ 4=v4 at O
 refine Za (Ya (Ya (rZ O (qe 2 101 r1 r1 (qR rr (qf (o_callG1 1 (ZrK o room q root k t0 hr0) func53 Z kr (Args.two (.pagg .t) .t)) r2 r1 (qR rr (qf (o_extract .t Z) r1 qz (qf (o_extract .t Z) r1 qz (qO rr (qO rr qZ)))))))) V [7,5,4,2,1] [102,101,1,0] fun O=>Ya ?_)))
 refine rZ O (qR rr (qf (Z1 .t) r1 qz qZ)) V [17,5,4,2,1] [102,101,1,0] fun O=>?_
 refine Zc O Z (fun hc0=>?_) (fun hc0=>?_)
 ·have hk:¬ (Zcf k t0).2=true:=by simpa using hc0
  have hg:(ZoA room q k t0 root)=(q,3,0):=Yb hk
  refine Ya (rZ O (qg 0 101 r1 r1 (qa 101 r1 r1 (qf (oP (ZkF o) func104 (Args.one .t)) r1 qz (qf (oA 2 102 .is (.conv .t .agg)) r2 r1 (qI qZ))))) V [5,4,2,1] [102,101,1,0] fun O=>(Yh (Zf ?_)))
  have O:=O.turn 1 Z (r':=RS.hp (arH o room (ZoA room q k t0 root).1)) (fun _ _ _ _ h=>by rw [hg];exact h)
  refine ZE hG O Z (.cl 102 true 2 Z Z (.tmp Z .nil)) (.two (.aggU Z (by first | (rw [hg];done) | (rw [hg];rfl))) (.int (by first | (rw [hg];done) | (rw [hg];rfl)))) rfl
 have hk:(Zcf k t0).2=true:=by simpa using hc0
 have hh:=Zfh.1 hk
 have hg:(ZoA room q k t0 root)=Zc4 q.length (ZbE id room q 0 k t0 root):=Yf hk
 refine Yd (Za (Ya (Zb O (qe 2 101 r1 r1 (qf (oB [(0,.tmp 21)] [.pointer none,.int .i64 0,.int .i64 0] [(0,2),(2,1)] (.agg Z .t kr kr .nil)) r1 qz (qf (oX 103 .t) r1 qz (qO rr qZ)))) V [8,5,4,2,1] [103,102,101,1,0] (fun _=>rfl) (fun _=>rfl) fun τ a w F O=>?_)))
 try dsimp only [RS.sub,SF.sub,CF.sub,csub,Anc.sub,List.map,Zd,xL,xM,Nat.reduceAdd,xD,xE,xT,xU,xC,xN,zCF,ldSF,Z4,ZC] at O
 generalize τ 23=v23 at O
 refine Za (Ya (rZ O (qg 0 101 r1 r1 (qa 101 r1 r1 (qf (o_callG1 1 (ZmU o room q) func182 Z kr (Args.one .t)) r1 r1 (qO rr qZ)))) V [9,8,5,4,2,1] [103,102,101,1,0] fun O=>Ya ?_))
 obtain ⟨b,rfl⟩:=O.shape 103 rfl
 have O:=O.fresh 4 rfl
 obtain ⟨F,O⟩:=O.push 4 1 Z Z Z kr
 obtain ⟨F,O⟩:=O.push 4 103 Z Z Z kr
 have O:=O.turn 4 Z (r':=RS.hp (ZaD 242 (.pointer (some ⟨b,0,none⟩)) o root 0 room q)) (fun _ _ _ _ h=>h)
 obtain ⟨F,O⟩:=O.nM [9,8,5,4,2,1] [102,101,4,0]
 refine rZ O (qR rr (qR rr (qg 1 101 r1 r1 (qa 101 r1 r1 (qR rr (qf (o_callG1 4 (Zs3 b o root 0 room q k t0 root hr0 hh) func184 Z kr (Args.three .t .t .t)) r3 r1 (qR rr (qf (o_callG1 4 (Zla b o root (ZbE id room q 0 k t0 root).2.1 room (ZbE id room q 0 k t0 root).1 (ZbE id room q 0 k t0 root).2.2 q.length) func183 Z kr (Args.three .t .t .t)) r3 r1 (qf (o_extract .t Z) r1 qz (qf (o_extract .t Z) r1 qz (qf (oA 2 102 .is (.conv .t .agg)) r2 r1 (qO rr qZ)))))))))))) V [5,4] [102,4,0] fun O=>Yh ?_
 obtain ⟨F,O⟩:=O.peel 4 7 Z rfl
 obtain ⟨F,O⟩:=O.peel 4 1 Z rfl
 have O:=O.turn 1 Z (r':=RS.hp (arH o room (ZoA room q k t0 root).1)) (fun _ _ _ _ h=>by rw [hg];exact h)
 refine ZE hG O Z (.cl 102 true 2 Z Z (.tmp Z .nil)) (.two (.aggU Z (by first | (rw [hg];done) | (rw [hg];rfl))) (.int (by first | (rw [hg];done) | (rw [hg];rfl)))) rfl
theorem Zdx {P:Program} {d:Option Nat} {ty:TypeId} {pos:String} {af:Array Edge} {g:Option (Nat×Bool)} {x:Operand} {ps:List (Nat×SF)} {a:Anc} {α:Type} {R:α→List PV} {l:List α} {T sz i:Nat} {s:TypeId} {f off:Nat} (n:Nat) (hx:Opd x ps (.adr a (i*sz))) (hi:i<l.length) (ho:P.fieldOff s f=some off) (hd:Zb9 d (.adr a (i*sz+off))=true) :
  OpC P ⟨d,.fieldAddr s x f,ty,pos,af,g⟩ ⟨ps,[(n,.ob a (ZO T sz R l))],.adr a (i*sz+off),[]⟩:=
 OpC.read fun act w F hp hr=>by
  obtain ⟨xs,h2,h3,h4⟩:=hr (n,.ob a (ZO T sz R l)) (by simp)
  obtain ⟨ad,cap,e1,h5,h6,h7⟩:=ZaG h2
  rcases h7 with h7 | ⟨b,rfl,_,_⟩
  ·omega
  ·have ev:a.v (Act.tau act) = .slice (some ⟨b,0,none⟩) l.length cap:=e1
   have e2:act.eval x = .pointer (some ⟨b,i*sz,none⟩):=by
    have:=hx act w (U F) hp
    simp only [SF.holds,ev,shift,Yah] at this
    exact this
   refine ⟨.pointer (some ⟨b,i*sz+off,none⟩),by simp [execOp,e2,Zcq ho],fun τ' ht=>ZaU (w:=w) (y:=U F) hd ht ?_⟩
   simp [SF.holds,ev,shift]
def stL (kf:Int→Int):List (Cell×Zae)→List ZF
 | []=>[]
 | e :: st=>stL kf st++ZH kf e.1 :: tList e.2
def stM:List (Cell×Zae)→Int
 | []=>0
 | e :: st=>stM st+(2*ZD e.2+1)
theorem stL_snoc {kf:Int→Int} (e:Cell×Zae):∀ st:List (Cell×Zae),stL kf (st ++ [e])=ZH kf e.1 :: (tList e.2++stL kf st)
 | []=>by simp [stL]
 | x :: st=>by rw [Y0,stL,stL_snoc e st,stL];simp
theorem Zi1 (e:Cell×Zae):∀ st:List (Cell×Zae),stM (st ++ [e])=stM st+(2*ZD e.2+1)
 | []=>by simp [stM]
 | x :: st=>by rw [Y0,stM,Zi1 e st,stM];omega
theorem ZoT:∀ st:List (Cell×Zae),0≤stM st
 | []=>Yar _
 | x :: st=>by have:=ZoT st;have:=ZP x.2;rw [stM];omega
theorem ZpG {kf:Int→Int} : ∀ st:List (Cell×Zae),st.length≤(stL kf st).length
 | []=>by simp [stL]
 | x :: st=>by have:=ZpG (kf:=kf) st;rw [stL];simp;omega
theorem Zo2 {α:Type} {l:List α} (h:0<l.length):∃ l' e,l=l' ++ [e]:=by
 have:l≠[]:=fun h'=>by rw [h'] at h;simp at h
 exact ⟨l.dropLast,l.getLast this,(List.dropLast_concat_getLast this).symm⟩
theorem ZiT {α:Type} [Inhabited α] (l:List α) (e:α):Nn (l ++ [e]) l.length=e:=by rw [Zy (by simp)];simp
theorem ZoP (o:Option Nat) (room:Int) (q:List Cell) (root:Int) (t0:Zae) (hr0:Rep id q t0 root) (hs:ZD t0≤1000000):FnG prog 56 1 [.agg [.is (arV o),.int .i64 root]] [arH o room q] (.sl ZC (tList t0)) (fun _=>[arH o room q]):=by
 refine FnG.mk func56 Z ntmps56 Z kr fun B F0 a w F V hG O=>Ya ?_
 refine Zb O (qx 101 r1 (qC qZ)) V [2,1] [101,1,0] (fun _=>rfl) (fun _=>rfl) fun τ a w F O=>?_
 try dsimp only [RS.sub,SF.sub,CF.sub,csub,Anc.sub,List.map,zCF,Z4,ZC] at O
 generalize τ 1=v1 at O
 refine Za (Ya (rZ O (qC qZ) V [3,2,1] [101,1,0] fun O=>Ya ?_))
 refine rZ O (qC qZ) V [4,3,2,1] [101,1,0] fun O=>(Ya (Ya ?_))
 refine rZ O (qg 1 101 r1 r1 (qa 101 r1 r1 (qO rr qZ))) V [5,4,3,2,1] [101,1,0] fun O=>Ye ?_
 replace O:=O.fresh 50 rfl
 replace O:=O.turn 50 Z (ZaC (T:=112) (sz:=2) (R:=ZC))
 replace O:=O.fresh 51 rfl
 replace O:=O.turn 51 Z (ZaC (T:=174) (sz:=6) (R:=Z4))
 refine Zk (σ:=Int×Zae×List (Cell×Zae)×Value×List ZF×Value×List Cell) [1,2] [0,1,101] (fun s=>[(5,.pv (.int .i64 s.1)),(3,.pv (.is s.2.2.2.1)),(4,.pv (.is s.2.2.2.2.2.1))]) (fun s=>[(50,.ob (.val s.2.2.2.1) (ZO 112 2 ZC s.2.2.2.2.1)),(51,.ob (.val s.2.2.2.2.2.1) (ZO 174 6 Z4 s.2.2.2.2.2.2))]) (fun s=>Rep id q s.2.1 s.1∧(∀ e ∈ s.2.2.1,Rep id q e.2 e.1.right)∧s.2.2.2.2.2.2=s.2.2.1.map Prod.fst∧s.2.2.2.2.1++(tList s.2.1++stL id s.2.2.1)=tList t0) (fun s=>(2*ZD s.2.1+stM s.2.2.1).toNat) ((root),(t0),([]),(.slice none 0 0),([]),(.slice none 0 0),([])) O ⟨rfl,rfl,rfl,rfl,rfl,tv⟩ ⟨rfl,rfl,rfl,rfl,rfl,tv⟩ ⟨hr0,fun e he=>by simp at he,rfl,by simp [stL]⟩ ?_
 clear O;intro s a w F hC O
 obtain ⟨i,t,st,v,out,wv,wt⟩:=s
 try dsimp only at hC
 obtain ⟨F,O⟩:=O.nM [5,4,3,2,1] [101,51,50,1,0]
 try dsimp only at O
 obtain ⟨hr,hst,hwt,hk⟩:=hC
 have hkl:=Yai List.length hk
 simp only [Yc] at hkl
 have hsl:=ZpG (kf:=id) st
 have hwl:=Yai List.length hwt
 rw [YP] at hwl
 have hnn:=ZoT st
 have hsz:=ZS t0
 refine Ya (Ya (rZ O (qR rr (qf (Zal .t qi) r1 qz (qR rr (qm Z Z Z Z (qk Z (fun h=>Zap 51 YbX (.w h .is)) r2 r1 (qk Z (fun h=>Zal (.w h) qi) r2 qz (qf (ZaM .t .t) r2 qz qZ))))))) V [15,5,4,3,2,1] [101,51,50,1,0] fun O=>?_))
 refine Zc O Z (fun hc0=>?_) (fun hc0=>?_)
 ·have hgo:0<i∨0<wt.length:=by simp only [Yao,Yj] at hc0;omega
  refine Yd (Za (Ye (Ya (Ya (rZ O (qR rr (qf (Zal .t qi) r1 qz qZ)) V [17,5,4,3,2,1] [101,51,50,1,0] fun O=>?_)))))
  refine Zc O Z (fun hc1=>?_) (fun hc1=>?_)
  ·have hi:0<i:=by simpa using hc1
   obtain ⟨l,x,r,ht⟩:=hr.node (show i≠0 by omega)
   rw [ht] at hr hk
   have hkx:=hr.2.2.2.1
   have hnp:IntKind.wrap .i64 (((wt ++ [getC q i]).length:Int) - 1)=(wt.length:Int):=by rw [Yc,Yaq,Zj (by have:=ZS t0;omega)];omega
   obtain ⟨t2,ht2⟩:∃ t2,t2=l:=⟨_,rfl⟩
   obtain ⟨st2,hs2⟩:∃ st2,st2=st ++ [(getC q i,r)]:=⟨_,rfl⟩
   have hmu:(2*ZD t2+stM st2).toNat<(2*ZD t+stM st).toNat:=by rw [ht,hs2,ht2,Zi1];have:=ZP l;have:=ZP r;show (2*ZD l+(stM st+(2*ZD r+1))).toNat<(2*(ZD l+ZD r+1)+stM st).toNat;omega
   have hC2:Rep id q t2 (getC q i).left∧(∀ e ∈ st2,Rep id q e.2 e.1.right)∧wt ++ [getC q i] = st2.map Prod.fst∧out++(tList t2++stL id st2)=tList t0:=⟨by rw [ht2];exact hr.2.1,fun e he=>by rw [hs2] at he;rcases YB.1 he with he | he; (· exact hst e he); (· rw [Yn.1 he];exact hr.2.2.1),by rw [hs2,hwt];simp,by rw [← hk,ht2,hs2,stL_snoc,hr.pair];simp [tList]⟩
   refine Ya (Zb O (qR rr (qe 2 101 r1 r1 (qR rr (qf (o_callG1 1 (ZbB o room q root i) func107 Z kr (Args.two (.pagg .t) .t)) r2 r1 (qf (Zn (sz:=6) (zs:=[.int .i64 0,.int .i64 0,.int .i64 0,.int .i64 0,.int .i64 0,.int .i64 0]) (r:=[(0,.tmp 21)]) (l:=[_,_,_,_,_,_]) YbX kr kr kr kr Z Z (.agg Z (.conv .t .agg) kr kr .nil) Z) r1 qz (qf (o_append (sz:=6) (bs:=48) 51 (.mk' YbX kr kr) (by intro x;rfl) .is (.arr (l':=[getC q i]) .t) (by simp only [Yc,Yl,Yq];have:=ZS t0;omega) (by decide)) ⟨rfl,rfl,tv⟩ ⟨rfl,tv⟩ (qO rr qZ))))))) V [5,4,3,2,1] [101,51,50,1,0] (fun _=>rfl) (fun _=>rfl) fun τ a w F O=>?_)
   try dsimp only [RS.sub,SF.sub,CF.sub,csub,Anc.sub,List.map,Zd,xL,xM,Nat.reduceAdd,xD,xE,xT,xU,xC,xN,zCF,ldSF,Z4,ZC] at O
   generalize τ 23=v23 at O
   refine Za (Ya (Zh O (qR rr (qR rr (qf (Zap 51 YbX .is) r1 r1 (qf (o_sub .t qi) r1 qz (qf (o_indexAddr_row (sz:=6) 51 (.mk YbX kr) .is .t ow (by rw [hnp,Yc,Yaq];omega) (by rfl)) r2 r1 (qf (Zdx (off:=0) (sz:=6) 51 .t (by rw [hnp,Yc,Yaq,Yg];omega) kr (by rfl)) r1 r1 (qf (ZhX (ag:=false) (sz':=1) (sz:=6) 51 .t (by intro x;rfl) (by rw [hnp,Yc,Yaq,Yg];omega) kr kr kr) r1 r1 (qO rr qZ)))))))) V [5,4,3,2,1] [101,51,50,1,0] Z Z fun a w F O=>?_))
   try simp only [Yg] at O
   rw [hnp,Yg,ZiT] at O
   refine Za (Ym (Zg (Zo (Za ?_))))
   obtain ⟨F,O⟩:=O.nM [2,1,4,3,5] [101,1,0,51,50]
   exact ⟨(_,(t2),(st2),_,_,_,_),F,hC2,O,hmu⟩
  have hi:¬ 0<i:=by simpa using hc1
  have hx:=hr.range
  have h0:i=0:=by omega
  rw [h0] at hr
  have hz:t = .nil:=hr.zero
  obtain ⟨st2,e,hse⟩:=Zo2 (l:=st) ow
  have hwe:wt=st2.map Prod.fst ++ [e.1]:=by rw [hwt,hse];simp
  have hw2:wt.length=st2.length+1:=by rw [hwl,hse];simp
  have hnw:IntKind.wrap .i64 ((wt.length:Int) - 1)=(st2.length:Int):=by rw [Zj ow];omega
  have hcut0:0≤IntKind.wrap .i64 ((wt.length:Int) - 1):=by omega
  have hcut1:IntKind.wrap .i64 ((wt.length:Int) - 1)≤wt.length:=by omega
  have hne:Nn wt st2.length=e.1:=by rw [hwe];have:=ZiT (st2.map Prod.fst) e.1;rwa [YP] at this
  have htk:wt.take st2.length=st2.map Prod.fst:=by rw [hwe,show st2.length=(st2.map Prod.fst).length by simp,List.take_left]
  obtain ⟨t2,ht2⟩:∃ t2,t2=e.2:=⟨_,rfl⟩
  have hmu:(2*ZD t2+stM st2).toNat<(2*ZD t+stM st).toNat:=by rw [hz,hse,ht2,Zi1];have:=ZP e.2;have:=ZoT st2;show (2*ZD e.2+stM st2).toNat<(2*0+(stM st2+(2*ZD e.2+1))).toNat;omega
  have hC2:Rep id q t2 e.1.right∧(∀ e ∈ st2,Rep id q e.2 e.1.right)∧st2.map Prod.fst=st2.map Prod.fst∧(out ++ [(⟨e.1.key,e.1.val⟩:ZF)])++(tList t2++stL id st2)=tList t0:=⟨by rw [ht2];exact hst e (by rw [hse];simp),fun x hx=>hst x (by rw [hse];simp [hx]),rfl,by rw [← hk,hz,hse,ht2,stL_snoc];simp [tList,ZH]⟩
  have hol:out.length≤1000000:=by have:=ZS t0;omega
  refine Yd (Za (Ya (Zb O (qR rr (qR rr (qf (Zap 51 YbX .is) r1 r1 (qf (o_sub .t qi) r1 qz (qf (o_indexAddr_row (sz:=6) 51 (.mk YbX kr) .is .t ow ow (by rfl)) r2 r1 (qf (Zt (ag:=true) (sz':=6) (sz:=6) 51 .t (by intro x;rfl) (by rw [hnw,Yg];omega) kr kr kr) r1 r1 (qf (oH [.int .i64 0,.int .i64 0,.int .i64 0,.int .i64 0,.int .i64 0,.int .i64 0] 102) trivial qz (qS 6 102 r2 r1 qZ)))))))) V [6,5,4,3,2,1] [102,101,51,50,1,0] (fun _=>rfl) (fun _=>rfl) fun τ a w F O=>?_)))
  try dsimp only [RS.sub,SF.sub,CF.sub,csub,Anc.sub,List.map,Zd,xL,xM,Nat.reduceAdd,xD,xE,xT,xU,xC,xN,zCF,ldSF,Z4,ZC] at O
  generalize τ 6=v6 at O
  try simp only [Yg] at O
  rw [hnw,Yg,hne] at O
  refine Za (Ya (Zb O (qR rr (qR rr (qf (Zap 51 YbX .is) r1 r1 (qf (o_sub .t qi) r1 qz (qf (Zdu (sz:=6) 51 (.mk YbX kr) (by intro x;rfl) .is .t (by assumption) (by assumption)) r2 r1 (qO rr qZ)))))) V [6,5,4,3,2,1] [102,101,51,50,1,0] (fun _=>rfl) (fun _=>rfl) fun τ a w F O=>?_))
  try dsimp only [RS.sub,SF.sub,CF.sub,csub,Anc.sub,List.map,Z4,ZC] at O
  generalize τ 41=v41 at O
  rw [hnw,Yg,htk] at O
  refine Za (Ya (Zb O (qR rr (qg 2 102 r1 r1 (qa 102 r1 r1 (qg 3 102 r1 r1 (qa 102 r1 r1 (qf (oB [(0,.tmp 44),(1,.tmp 46)] [.int .i64 0,.int .i64 0] [(0,1),(1,1)] (.one Z .t one_int kr (.one Z .t one_int kr .nil))) r2 qz (qf (Zn (sz:=2) (zs:=[.int .i64 0,.int .i64 0]) (r:=[(0,.tmp 47)]) (l:=[_,_]) YbU kr kr kr kr Z Z (.agg Z .t kr kr .nil) Z) r1 qz (qf (o_append (sz:=2) (bs:=16) 50 (.mk' YbU kr kr) (by intro x;rfl) .is (.arr (l':=[(⟨e.1.key,e.1.val⟩:ZF)]) .t) (by simp only [Yc,Yl,Yq];have:=ZS t0;omega) (by decide)) ⟨rfl,rfl,tv⟩ ⟨rfl,tv⟩ (qO rr qZ))))))))) V [6,5,4,3,2,1] [102,101,51,50,1,0] (fun _=>rfl) (fun _=>rfl) fun τ a w F O=>?_))
  try dsimp only [RS.sub,SF.sub,CF.sub,csub,Anc.sub,List.map,Zd,xL,xM,Nat.reduceAdd,xD,xE,xT,xU,xC,xN,zCF,ldSF,Z4,ZC] at O
  generalize τ 49=v49 at O
  refine Za (Zh O (qg 1 102 r1 r1 (qa 102 r1 r1 (qO rr qZ))) V [5,4,3,2,1] [101,51,50,1,0] Z Z fun a w F O=>Zi (Za ?_))
  obtain ⟨F,O⟩:=O.nM [2,1,4,3,5] [101,1,0,51,50]
  exact ⟨(_,(t2),(st2),_,_,_,_),F,hC2,O,hmu⟩
 have hstop:¬ 0<i∧wt.length=0:=by simp only [YaG,Yi] at hc0;omega
 have hx:=hr.range
 have h0:i=0:=by omega
 rw [h0] at hr
 have hfin:out=tList t0:=by rw [← hk,hr.zero,YU (show st.length=0 by omega)];simp [tList,stL]
 refine Ym (Zg (Zg (Zo (Za (Ya (rZ O (qR rr (qO rr qZ)) V [2] [51,50,1,0] fun O=>Yh ?_))))))
 obtain ⟨F,O⟩:=O.give 50 2 Z rfl
 refine ZE hG O Z (.tmp Z .nil) (.one (.sl (by rw [hfin]))) rfl
theorem Zk8 {P:Program} {B:Zb4} {F0:Fp} (hG:Znr B F0 2) {E:En} {a:Act} {w:World} {F:Fp} {fn:Func} {q:PV} {k1 k2:HP} {ss:List SF} (O:Sat B E a w F) (h0:Go.Gm.look E.r 0=some (frame B)) (hr:ROk P E fn.results.toList ss) (hq:Zf3 ss q)
  (h1:Go.Gm.look E.r 1=some (RS.hp k1)) (h2:Go.Gm.look E.r 2=some (RS.hp k2)):bodyPost P fn (RG B F0 2 q (fun _=>[k1,k2])) .ret a w:=
 Zrk hG O h0 hr hq fun v τ y hv i h hi=>by
  match i,hi with
  | 0,hi=>simp at hi;subst hi;exact ⟨_,h1,by omega,fun _ _ _ h=>h⟩
  | 1,hi=>simp at hi;subst hi;exact ⟨_,h2,by omega,fun _ _ _ h=>h⟩
def ZnV:Nat→List ZF→Zae
 | 0,_=>.nil
 | n+1,l=>if l = [] then .nil else .node (ZnV n (l.take (l.length / 2))) (Nn l (l.length / 2)) (ZnV n (l.drop (l.length / 2+1)))
def allS (room:Int):Nat→List Cell→Int→List ZF→St
 | 0,q,why,_=>(q,why,0)
 | n+1,q,why,l=>if l = [] then (q,why,0) else
  madeS room (allS room n (allS room n q why (l.take (l.length / 2))).1 (allS room n q why (l.take (l.length / 2))).2.1 (l.drop (l.length / 2+1))).1 (allS room n (allS room n q why (l.take (l.length / 2))).1 (allS room n q why (l.take (l.length / 2))).2.1 (l.drop (l.length / 2+1))).2.1 (allS room n q why (l.take (l.length / 2))).2.2 (allS room n (allS room n q why (l.take (l.length / 2))).1 (allS room n q why (l.take (l.length / 2))).2.1 (l.drop (l.length / 2+1))).2.2 (Nn l (l.length / 2))
theorem Zcv:∀ (n:Nat) (l:List ZF),l.length<n→tList (ZnV n l)=l
 | 0,l,h=>by omega
 | n+1,l,h=>by
  unfold ZnV
  split
  ·rename_i h;rw [h];rfl
  ·rename_i hl
   have hp:0<l.length:=YaA.2 hl
   show tList _++_ :: tList _=l
   rw [Zcv n _ (by rw [Yk];omega),Zcv n _ (by rw [YK];omega)]
   rw [← ZaX (show l.length / 2<l.length by omega),YX]
def bitsL (m:Nat):Int:=if h:m=0 then 0 else bitsL (m / 2)+1
termination_by m
decreasing_by omega
theorem ZcY:∀ (b a:Nat),a≤b→bitsL a≤bitsL b∧0≤bitsL a
 | b,a,h=>by
  rw [bitsL.eq_def a,bitsL.eq_def b]
  by_cases ha:a=0
  ·by_cases hb:b=0
   ·rw [dif_pos ha,dif_pos hb];omega
   ·rw [dif_pos ha,dif_neg hb]
    have:=ZcY (b / 2) (b / 2) (YA _)
    omega
  ·rw [dif_neg ha,dif_neg ow]
   have:=ZcY (b / 2) (a / 2) ow
   omega
termination_by b=>b
decreasing_by all_goals omega
theorem Znl (a:Nat):bitsL (a+1)≤bitsL a+1:=by
 rw [bitsL.eq_def (a+1),dif_neg ow]
 have:=ZcY a ((a+1) / 2) ow
 omega
theorem Zg7:∀ (n:Nat) (l:List ZF),l.length<n→Zm (ZnV n l)=bitsL l.length∧Bal (ZnV n l)
 | 0,l,h=>by omega
 | n+1,l,h=>by
  unfold ZnV
  split
  ·rename_i h;rw [h];exact ⟨by rw [bitsL.eq_def];rfl,tv⟩
  ·rename_i hl
   have hp:0<l.length:=YaA.2 hl
   have a:=Zg7 n (l.take (l.length / 2)) (by rw [Yk];omega)
   have b:=Zg7 n (l.drop (l.length / 2+1)) (by rw [YK];omega)
   rw [Yk,Y7 ow] at a
   rw [YK] at b
   have c:=ZcY (l.length / 2) (l.length - (l.length / 2+1)) ow
   have d:=Znl (l.length - (l.length / 2+1))
   have e:=ZcY (l.length - (l.length / 2+1)+1) (l.length / 2) ow
   refine ⟨?_,a.2,b.2,by omega,by omega⟩
   show max _ _+1=_
   rw [a.1,b.1,bitsL.eq_def l.length,dif_neg ow]
   omega
theorem Zfo {kf:Int→Int} {room:Int} : ∀ (n:Nat) (q:List Cell) (l:List ZF),l.length<n→l.length≤1000000→(∀ p ∈ l,kf p.key=p.key)→ZdX kf room q l.length l.length (allS room n q 0 l) (ZnV n l)
 | 0,q,l,h,_,_=>by omega
 | n+1,q,l,h,hs,hk=>by
  unfold allS ZnV
  split
  ·rename_i h;rw [h];exact ⟨[],(YF q).symm,by simp,.inl ⟨rfl,rfl,by simp⟩⟩
  ·rename_i hl
   have hp:0<l.length:=YaA.2 hl
   have lt:(l.take (l.length / 2)).length=l.length / 2:=by rw [Yk];omega
   have ld:(l.drop (l.length / 2+1)).length=l.length - (l.length / 2+1):=YK ..
   have h1:=Zfo (room:=room) n q (l.take (l.length / 2)) ow ow fun p hp=>hk p (Yat hp)
   have t1:=ZS (ZnV n (l.take (l.length / 2)))
   rw [Zcv n _ ow] at t1
   have t2:=ZS (ZnV n (l.drop (l.length / 2+1)))
   rw [Zcv n _ ow] at t2
   have bad:∀ (n:Nat) (q:List Cell) (why:Int) (l:List ZF),why≠0→allS room n q why l=(q,why,0):=by
    intro n
    induction n with
    | zero=>intro q why l _;rfl
    | succ n ih=>
     intro q why l hw
     unfold allS
     split
     ·rfl
     ·simp only [ih _ _ _ hw,Zaw hw]
   refine (ZdX.bind (lo':=(l.drop (l.length / 2+1)).length+1) (m:=(l.drop (l.length / 2+1)).length+1) h1 ow (fun e e1 e3 e4=>?_) fun hw=>?_).weak ow ow
   ·rw [e3]
    have h2:=Zfo (room:=room) n (allS room n q 0 (l.take (l.length / 2))).1 (l.drop (l.length / 2+1)) ow ow fun p hp=>hk p (YaU hp)
    refine ZdX.bind (lo':=1) (m:=1) h2 ow (fun f f1 f3 f4=>?_) fun hw=>Zaw hw
    rw [f3]
    exact Zat (by rw [f1];exact e4.app f) f4 (hk _ (ZU ow)) ow
   ·rw [bad _ _ _ _ hw,Zaw hw]
theorem mall_s (b:Nat) (o:Option Nat) (root why room:Int) (q:List Cell) (n:Nat) (ih:∀ (q:List Cell) (why:Int) (l:List ZF),l.length<n→FnG prog 250 1 [.is (.pointer (some ⟨b,0,none⟩)),.sl ZC l] [ZaD 242 (.pointer (some ⟨b,0,none⟩)) o root why room q] (.int .i64 (allS room n q why l).2.2) (fun _=>[ZaD 242 (.pointer (some ⟨b,0,none⟩)) o root (allS room n q why l).2.1 room (allS room n q why l).1])) (l:List ZF) (hl:l.length<n+1):FnG prog 250 1 [.is (.pointer (some ⟨b,0,none⟩)),.sl ZC l] [ZaD 242 (.pointer (some ⟨b,0,none⟩)) o root why room q] (.int .i64 (allS room (n+1) q why l).2.2) (fun _=>[ZaD 242 (.pointer (some ⟨b,0,none⟩)) o root (allS room (n+1) q why l).2.1 room (allS room (n+1) q why l).1]):=by
 refine FnG.mk func250 Z ntmps250 Z kr fun B F0 a w F V hG O=>?_
 have hll:=Sat.lenSl O (i:=1) rfl
 refine Ya (rZ O (qI qZ) V [4,1,0] [1,0] fun O=>(Ya (Ya ?_)))
 refine rZ O (qR rr (qu YbU r1 (qf (o_eql .t qi) r1 qz qZ))) V [8,4,1,0] [1,0] fun O=>?_
 refine Zc O Z (fun hc0=>?_) (fun hc0=>?_)
 ·have hz:l = []:=YU (by simp only [Yj] at hc0;omega)
  have hg:(allS room (n+1) q why l)=(q,why,0):=Yf hz
  refine Ya (rZ O (qI qZ) V [4,1,0] [1,0] fun O=>(Yh (Zf ?_)))
  have O:=O.turn 1 Z (r':=RS.hp (ZaD 242 (.pointer (some ⟨b,0,none⟩)) o root (allS room (n+1) q why l).2.1 room (allS room (n+1) q why l).1)) (fun _ _ _ _ h=>by rw [hg];exact h)
  refine ZE hG O Z (.tmp Z .nil) (.one (.int (by first | (rw [hg];done) | (rw [hg];rfl)))) rfl
 have hz:¬ l = []:=by intro hz;rw [hz] at hc0;simp at hc0
 have hp:0<l.length:=YaA.2 hz
 have hq2:IntKind.wrap .i64 (Int.tdiv (l.length:Int) 2)=((l.length / 2:Nat):Int):=by rw [Int.tdiv_eq_ediv_of_nonneg ow,Zj ow];omega
 have hk1:IntKind.wrap .i64 (((l.length / 2:Nat):Int)+1)=((l.length / 2+1:Nat):Int):=by rw [Zj ow];omega
 have hg:(allS room (n+1) q why l)=(madeS room (allS room n (allS room n q why (l.take (l.length / 2))).1 (allS room n q why (l.take (l.length / 2))).2.1 (l.drop (IntKind.wrap .i64 (((l.length / 2:Nat):Int)+1)).toNat)).1 (allS room n (allS room n q why (l.take (l.length / 2))).1 (allS room n q why (l.take (l.length / 2))).2.1 (l.drop (IntKind.wrap .i64 (((l.length / 2:Nat):Int)+1)).toNat)).2.1 (allS room n q why (l.take (l.length / 2))).2.2 (allS room n (allS room n q why (l.take (l.length / 2))).1 (allS room n q why (l.take (l.length / 2))).2.1 (l.drop (IntKind.wrap .i64 (((l.length / 2:Nat):Int)+1)).toNat)).2.2 (Nn l (l.length / 2))):=by rw [hk1,Yg];exact Yb hz
 refine Yd (Za (Ya (Zh O (qR rr (qu YbU r1 (qf (ZtJ .t qi (by decide)) r1 qz (qO rr qZ)))) V [5,4,1,0] [1,0] Z Z fun a w F O=>?_)))
 rw [hq2] at O
 refine Za (Ya (Zu O (qR rr (qR rr (qR rr (qR rr (qf (ZcP (sz:=2) (.mk YbU kr) (by intro x;rfl) .t .t ow ow) r2 qz (qf (o_callG1 1 (ih q why (l.take (l.length / 2)) (by rw [Yk];omega)) func250 Z kr (Args.two .t .t)) r2 r1 (qR rr (qR rr (qR rr (qp r1 (qf (o_slice_lo (sz:=2) (.mk YbU kr) (by intro x;rfl) .t .t (by rw [hk1];omega) (by rw [hk1];omega)) r2 qz (qf (o_callG1 1 (ih (allS room n q why (l.take (l.length / 2))).1 (allS room n q why (l.take (l.length / 2))).2.1 (l.drop (IntKind.wrap .i64 (((l.length / 2:Nat):Int)+1)).toNat) (by rw [YK,hk1];omega)) func250 Z kr (Args.two .t .t)) r2 r1 (qR rr (qR rr (qy 2 YbU r2 (qf (oR true 2 .t) r1 qz (qf (o_callG1 1 (Zbv b o root (allS room n (allS room n q why (l.take (l.length / 2))).1 (allS room n q why (l.take (l.length / 2))).2.1 (l.drop (IntKind.wrap .i64 (((l.length / 2:Nat):Int)+1)).toNat)).2.1 room (allS room n (allS room n q why (l.take (l.length / 2))).1 (allS room n q why (l.take (l.length / 2))).2.1 (l.drop (IntKind.wrap .i64 (((l.length / 2:Nat):Int)+1)).toNat)).1 (allS room n q why (l.take (l.length / 2))).2.2 (allS room n (allS room n q why (l.take (l.length / 2))).1 (allS room n q why (l.take (l.length / 2))).2.1 (l.drop (IntKind.wrap .i64 (((l.length / 2:Nat):Int)+1)).toNat)).2.2 (Nn l (l.length / 2))) func249 Z kr (Args.four .t .t .t (.pagg .t))) r4 r1 (qO rr qZ)))))))))))))))))) V [4] [1,0] Z Z fun a w F O=>?_))
 try dsimp only [List.map,xD,xE,xT,xU,ldSF,Z4,ZC] at O
 try simp only [Yg] at O
 refine Za (Yh ?_)
 have O:=O.turn 1 Z (r':=RS.hp (ZaD 242 (.pointer (some ⟨b,0,none⟩)) o root (allS room (n+1) q why l).2.1 room (allS room (n+1) q why l).1)) (fun _ _ _ _ h=>by rw [hg];exact h)
 refine ZE hG O Z (.tmp Z .nil) (.one (.int (by first | (rw [hg];done) | (rw [hg];rfl)))) rfl
theorem Ztl (b:Nat) (o:Option Nat) (root room:Int):∀ (n:Nat) (q:List Cell) (why:Int) (l:List ZF),l.length<n→FnG prog 250 1 [.is (.pointer (some ⟨b,0,none⟩)),.sl ZC l] [ZaD 242 (.pointer (some ⟨b,0,none⟩)) o root why room q] (.int .i64 (allS room n q why l).2.2) (fun _=>[ZaD 242 (.pointer (some ⟨b,0,none⟩)) o root (allS room n q why l).2.1 room (allS room n q why l).1]):=fun n=>by
 induction n with
 | zero=>intro q why l h;omega
 | succ n ih=>intro q why l h;exact mall_s b o root why room q n ih l h
abbrev kz:Int→Int:=fun _=>0
end Go.Proofs.YtfecljadegkmdaaGreat
