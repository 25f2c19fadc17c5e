/- Laws and walks. No condition beyond what each says. -/
import Derived.Test.YtfecljadegkmdaaGreatLibG
import Derived.Shelf.SlIter.Collect
import Derived.Maps.RangeRun
import Derived.Sort.MapsRangeIn
import Derived.RangeFuncBound
namespace Go.Proofs.YtfecljadegkmdaaGreat
open Go Go.Gm Tryz
set_option linter.unusedVariables false
set_option linter.unusedSimpArgs false
set_option maxHeartbeats 4000000
set_option maxRecDepth 8000
open Go.RowKit Go.Maps Go.Sort Go.Shelf Go.ChangeMaps Go.MapKept
section
variable {F:Fence} {n:Nat} {P:Program} {ops:Array Oper} {rest:List Oper} {o:Oper} {a:Act} {w:World} {Q:Exit→Act→World→Prop}
theorem YbR:type_of% @underlying27:=@underlying27
theorem YbS:type_of% @underlying28:=@underlying28
theorem YbT:type_of% @underlying37:=@underlying37
theorem YbU:type_of% @underlying34:=@underlying34
theorem YbV:type_of% @underlying3:=@underlying3
theorem YbW:type_of% @underlying23:=@underlying23
theorem YbX:type_of% @underlying109:=@underlying109
theorem YbY:type_of% @underlying31:=@underlying31
theorem YbZ:type_of% @underlying95:=@underlying95
theorem Yb0:type_of% @underlying81:=@underlying81
theorem Yb1:type_of% @underlying176:=@underlying176
theorem Yb2:type_of% @underlying219:=@underlying219
theorem Yb3:type_of% @underlying94:=@underlying94
theorem Yb4:type_of% @underlying186:=@underlying186
theorem Yb5:type_of% @underlying87:=@underlying87
theorem Yb6:type_of% @underlying167:=@underlying167
theorem Zfq (hg:o.guard=none) (m:Operand) (t:TypeId) (hop:o.op=Op.range t m) (k e:TypeId) (ht:P.underlying t=some (.map k e)) (b:Nat) (es:Array MapEntry) (clock:Nat) (hm:a.eval m = .map (some b)) (hb:w.heap[b]? = some (.map es clock))
  (hK:wpListIn F n P ops Q rest (a.put o.dst (.pointer (some ⟨w.heap.size,0,none⟩))) (w.alloc (.mapIter (some b) clock #[] clock))):wpListIn F n P ops Q (o :: rest) a w:=by
 refine wpListIn_plain hg fun K' hK'=>?_
 unfold Oper.wpIn
 refine ⟨by simp [Oper.about,hop],?_⟩
 rw [Oper.semAt_plain F _ _ (by rw [hop];intro c hc';cases hc')]
 simp [execOp,hop,hm,run_range_map w t k e b es clock ht hb,Result.andThen]
 exact hK' _ _ hK
end
theorem ZqK {w w1:World} {r b:Nat} {clock c0:Nat} {seen:Array Nat} {es:Array MapEntry} {x:Nat} (hal:w1=w∨w1=w.drew) (hr:w.heap[r]? = some (.mapIter (some b) clock seen c0)) (hb:w.heap[b]? = some (.map es clock)) (hne:r≠b) :
  (setBlock w1 r (.mapIter (some b) clock (seen.push x) clock)).heap[r]? = some (.mapIter (some b) clock (seen.push x) clock)∧(setBlock w1 r (.mapIter (some b) clock (seen.push x) clock)).heap[b]? = some (.map es clock)∧w.grownBy (setBlock w1 r (.mapIter (some b) clock (seen.push x) clock)) (some r):=by
 have hr1:w1.heap[r]? = some (.mapIter (some b) clock seen c0):=by rcases hal with rfl | rfl <;> exact hr
 have hb1:w1.heap[b]? = some (.map es clock):=by rcases hal with rfl | rfl <;> exact hb
 have hset:=heap_set (o':=.mapIter (some b) clock (seen.push x) clock) hr1
 refine ⟨hset.1,(hset.2 b (fun e1=>hne e1.symm)).trans hb1,?_⟩
 rcases hal with rfl | rfl <;> exact ⟨rfl,rfl,rfl,by simp [setBlock],fun i _ hi=>hset.2 i (fun e1=>hi (by rw [e1]))⟩
def Zr5 (es:Array MapEntry) (seen:Array Nat):Prop:=(leftOf es seen).size=0
structure Zrn (P:Program) (w w2:World) (r b clock:Nat) (seen:Array Nat) (es:Array MapEntry) (e:MapEntry):Prop where
 left:e ∈ (leftOf es seen).toList
 it:w2.heap[r]? = some (.mapIter (some b) clock (seen.push e.born) clock)
 mp:w2.heap[b]? = some (.map es clock)
 grown:w.grownBy w2 (some r)
 entry:(Instr.entry (.pointer (some ⟨r,0,none⟩))).run P w2 = .ok (.tuple #[e.key,e.val]) w2
section
variable {F:Fence} {n:Nat} {P:Program} {ops:Array Oper} {rest:List Oper} {o:Oper} {a:Act} {w:World} {Q:Exit→Act→World→Prop}
theorem ZfR (hg:o.guard=none) (it:Operand) (hop:o.op=Op.next it false) (r b clock c0:Nat) (seen:Array Nat) (es:Array MapEntry) (hit:a.eval it = .pointer (some ⟨r,0,none⟩))
  (hr:w.heap[r]? = some (.mapIter (some b) clock seen c0)) (hb:w.heap[b]? = some (.map es clock)) (hold:∀ x ∈ es.toList,x.born<clock) (hsc:clock≤c0) (hne:r≠b) (hnd:(es.toList.map (·.born)).Nodup)
  (hDone:Zr5 es seen→wpListIn F n P ops Q rest (a.put o.dst (.tuple #[.bool false])) w)
  (hMore:∀ (e:MapEntry) (w2:World),Zrn P w w2 r b clock seen es e→wpListIn F n P ops Q rest (a.put o.dst (.tuple #[.bool true,e.key,e.val])) w2) :
  wpListIn F n P ops Q (o :: rest) a w:=by
 refine wpListIn_plain hg fun K' hK'=>?_
 unfold Oper.wpIn
 refine ⟨by simp [Oper.about,hop],?_⟩
 rw [Oper.semAt_plain F _ _ (by rw [hop];intro c hc';cases hc')]
 rcases run_next_at (P:=P) w o.type r b clock c0 seen es clock hr hb hold hsc with ⟨h0,hrun⟩ | ⟨e,he,w1,hal,hrun⟩
 ·simp [execOp,hop,hit,hrun,Result.andThen]
  exact hK' _ _ (hDone h0)
 ·simp [execOp,hop,hit,hrun,Result.andThen]
  obtain ⟨h1,h2,h3⟩:=ZqK (x:=e.born) hal hr hb hne
  exact hK' _ _ (hMore e _ ⟨he,h1,h2,h3,run_entry_at _ r b clock seen es clock e h1 h2 (mem_left he).1 hnd⟩)
end
theorem ZkY:∀ {es:List MapEntry} {seen:Array Nat} {e:MapEntry},(es.map (·.born)).Nodup→e ∈ es→seen.contains e.born=false→(es.filter fun x=>(seen.push e.born).contains x.born).Perm (e :: es.filter fun x=>seen.contains x.born)
 | [],_,_,_,h,_=>by cases h
 | x :: es,seen,e,hn,hm,hs=>by
  rw [YM,Ya5] at hn
  rcases Yp.1 hm with rfl | hm
  ·have hrest:(es.filter fun x=>(seen.push e.born).contains x.born)=es.filter fun x=>seen.contains x.born:=List.filter_congr fun y hy=>by
    rw [contains_push]
    have:(y.born == e.born)=false:=by
     simp
     intro h9
     exact hn.1 (h9 ▸ YG.2 ⟨y,hy,rfl⟩)
    rw [this,Bool.or_false]
   rw [Yac (by rw [contains_push];simp),hrest,Yad (by rw [hs];simp)]
  ·have ih:=ZkY hn.2 hm hs
   have hx:(x.born == e.born)=false:=by
    simp
    intro h9
    exact hn.1 (h9 ▸ YG.2 ⟨e,hm,rfl⟩)
   have hc:(seen.push e.born).contains x.born=seen.contains x.born:=by rw [contains_push,hx,Bool.or_false]
   cases hsx:seen.contains x.born with
   | true=>
    rw [Yac (by rw [hc,hsx]),Yac (by rw [hsx])]
    exact (ih.cons x).trans (List.Perm.swap e x _)
   | false=>
    rw [Yad (by rw [hc,hsx];simp),Yad (by rw [hsx];simp)]
    exact ih
theorem Zr9 {es:Array MapEntry} {seen:Array Nat} (h:(leftOf es seen).size=0):(es.toList.filter fun x=>seen.contains x.born)=es.toList:=Yba.2 fun x hx=>all_seen es seen h x hx
theorem ZqO {es:List MapEntry} : (es.filter fun x=>(#[]:Array Nat).contains x.born) = []:=by
 rw [List.filter_eq_nil_iff];simp
theorem Zqw {es:Array MapEntry} : (leftOf es #[]).size=es.size:=by simp [leftOf]
end Go.Proofs.YtfecljadegkmdaaGreat
namespace Go.Proofs.YtfecljadegkmdaaGreat
open Go Go.Gm Tryz
set_option linter.unusedVariables false
set_option linter.unusedSimpArgs false
set_option maxHeartbeats 4000000
set_option maxRecDepth 8000
theorem Zj {x:Int} (h : -9223372036854775808≤x∧x≤9223372036854775807):IntKind.wrap .i64 x=x:=Zi2 ⟨by simp [IntKind.min,IntKind.signed,IntKind.bits];omega,by simp [IntKind.max,IntKind.signed,IntKind.bits];omega⟩
theorem ZaY {i:Nat} (h:i<9223372036854775807):IntKind.wrap .i64 ((i:Int)+1)=((i+1:Nat):Int):=by rw [Zj ow];omega
theorem Zfo {x:Int} (h:0≤x∧x≤18446744073709551615):IntKind.wrap .u64 x=x:=Zi2 ⟨by simp [IntKind.min,IntKind.signed,IntKind.bits];omega,by simp [IntKind.max,IntKind.signed,IntKind.bits];omega⟩
theorem Sat.lenSl {α:Type} {R:α→List PV} {B:Zb3} {E:En} {a:Act} {w:World} {F:Fp} (h:Sat B E a w F) {i:Nat} {l:List α} (hl:Go.Gm.look E.s i=some (SF.pv (PV.sl R l))):l.length≤9223372036854775807:=by
 obtain ⟨_,cap,_,h1,h2,_⟩:=h.s i _ hl
 unfold maxLen at h2
 omega
def Zo (n:Int):List PV:=[.int .i64 n]
theorem ZaX {α:Type} [Inhabited α] {x y:List α} (hl:x.length=y.length) (h:∀ j,j<x.length→Nn x j=Nn y j):x=y:=by
 apply List.ext_getElem hl
 intro j h1 h2
 have:=h j h1
 rwa [Zu h1,Zu h2] at this
theorem Zg1 {α:Type} [Inhabited α] {q:List α} {k:Nat} (h:k<q.length):q.take k ++ [Nn q k] = q.take (k+1):=by
 rw [Zu h,YaX h]
theorem ZP {α:Type} [Inhabited α] {q:List α} {k:Nat} (h:k<q.length):Nn q k ∈ q:=by rw [Zu h];exact YbB h
theorem Zal {α:Type} [Inhabited α] {l:List α} {i:Nat} (h:i<l.length):l.drop i=Nn l i :: l.drop (i+1):=by rw [Zu h];exact List.drop_eq_getElem_cons h
theorem ZN {α:Type} [Inhabited α] {l:List α} {i:Nat} (h:i<l.length):l.take (i+1)=l.take i ++ [Nn l i]:=(Zg1 h).symm
structure ZD where
 key:Int
 val:Int
 deriving DecidableEq,Inhabited
def Zt (p:ZD):List PV:=[.int .i64 p.key,.int .i64 p.val]
def ZaQ (k v:Int):List ZD→Bool→List ZD
 | [],d=>if d then [] else [⟨k,v⟩]
 | p :: l,d=>(if d=false∧k≤p.key then [⟨k,v⟩] else [])++(if p.key=k then [] else [p])++ZaQ k v l (d || decide (k≤p.key))
def putP (l:List ZD) (k v:Int):List ZD:=ZaQ k v l false
def delP (l:List ZD) (k:Int):List ZD:=l.filter fun p=>!decide (p.key=k)
theorem Zkc {k v:Int} {l:List ZD} (h:∀ p ∈ l,k<p.key):ZaQ k v l false = ⟨k,v⟩ :: l:=by
 have done:∀ l:List ZD,(∀ p ∈ l,k<p.key)→ZaQ k v l true=l:=by
  intro l
  induction l with
  | nil=>intro _;rfl
  | cons p l ih=>
   intro h
   have:=h p W5
   rw [ZaQ,YbD,ih fun x hx=>h x W7,Yb W5,Yb ow]
   rfl
 cases l with
 | nil=>rfl
 | cons p l=>
  have h1:=h p W5
  rw [ZaQ,show (false || decide (k≤p.key))=true by simp;omega,done l fun x hx=>h x W7]
  rw [Yg ⟨rfl,ow⟩,Yb ow]
  rfl
theorem Zg5 (k v:Int):∀ (l:List ZD) (d:Bool),(ZaQ k v l d).length≤l.length+(if d then 0 else 1)
 | [],d=>by cases d <;> simp [ZaQ]
 | p :: l,d=>by
  have h1:(ZaQ k v l true).length≤l.length:=by simpa using Zg5 k v l true
  have h2:(ZaQ k v l false).length≤l.length+1:=by simpa using Zg5 k v l false
  rw [ZaQ,Yc,Yc,Yl]
  cases d <;> by_cases hx:k≤p.key <;> by_cases h3:p.key=k <;> simp [hx,h3] <;> omega
theorem Znt (l:List ZD) (k v:Int):(putP l k v).length≤l.length+1:=by have h:=Zg5 k v l false;unfold putP;simpa using h
section
variable {out t T:List ZD} {k x:Int} {e:ZD} {d:Bool}
end
inductive Zae where
 | nil:Zae
 | node:Zae→ZD→Zae→Zae
 deriving Inhabited
def ZB:Zae→Int
 | .nil=>0
 | .node l _ r=>ZB l+ZB r+1
def Zn:Zae→Int
 | .nil=>0
 | .node l _ r=>max (Zn l) (Zn r)+1
def tList:Zae→List ZD
 | .nil=>[]
 | .node l p r=>tList l++p :: tList r
def Bal:Zae→Prop
 | .nil=>True
 | .node l _ r=>Bal l∧Bal r∧Zn l≤Zn r+1∧Zn r≤Zn l+1
theorem Zad:∀ t,0≤Zn t
 | .nil=>Yau _
 | .node l _ r=>by have:=Zad l;have:=Zad r;unfold Zn;omega
theorem ZQ:∀ t,0≤ZB t
 | .nil=>Yau _
 | .node l _ r=>by have:=ZQ l;have:=ZQ r;unfold ZB;omega
theorem Zd8:∀ t,Zn t≤ZB t
 | .nil=>Yau _
 | .node l _ r=>by have:=Zd8 l;have:=Zd8 r;have:=ZQ l;have:=ZQ r;unfold Zn ZB;omega
theorem ZT:∀ t,ZB t=((tList t).length:Int)
 | .nil=>rfl
 | .node l _ r=>by have:=ZT l;have:=ZT r;simp only [ZB,tList,Yc,Yl];omega
def Zbt (l:Zae) (p:ZD) (r:Zae):Zae:=
 if Zn r+1<Zn l then
  match l with
  | .node ll lp lr=>if Zn lr≤Zn ll then .node ll lp (.node lr p r) else
   match lr with
   | .node a z b=>.node (.node ll lp a) z (.node b p r)
   | .nil=>.node (.node ll lp .nil) p r
  | .nil=>.node .nil p r
 else if Zn l+1<Zn r then
  match r with
  | .node rl rp rr=>if Zn rl≤Zn rr then .node (.node l p rl) rp rr else
   match rl with
   | .node a z b=>.node (.node l p a) z (.node b rp rr)
   | .nil=>.node l p (.node .nil rp rr)
  | .nil=>.node l p .nil
 else .node l p r
theorem ZbW (l:Zae) (p:ZD) (r:Zae):tList (Zbt l p r)=tList l++p :: tList r:=by
 unfold Zbt
 split
 ·split
  ·split
   ·simp [tList]
   ·split <;> simp [tList]
  ·simp [tList]
 ·split
  ·split
   ·split
    ·simp [tList]
    ·split <;> simp [tList]
   ·simp [tList]
  ·simp [tList]
theorem ZeR {l r:Zae} (p:ZD) (hl:Bal l) (hr:Bal r) (h1:Zn l≤Zn r+2) (h2:Zn r≤Zn l+2):Bal (Zbt l p r)∧max (Zn l) (Zn r)≤Zn (Zbt l p r)∧Zn (Zbt l p r)≤max (Zn l) (Zn r)+1:=by
 unfold Zbt
 split
 ·rename_i hh
  match l,hl with
  | .nil,hl=>simp [Zn] at hh;have:=Zad r;omega
  | .node ll lp lr,hl=>
   obtain ⟨b1,b2,b3,b4⟩:=hl
   have e:Zn (.node ll lp lr)=max (Zn ll) (Zn lr)+1:=rfl
   simp only
   split
   ·rename_i h3
    have g1:Zn (.node lr p r)=max (Zn lr) (Zn r)+1:=rfl
    have g2:Zn (.node ll lp (.node lr p r))=max (Zn ll) (Zn (.node lr p r))+1:=rfl
    refine ⟨⟨b1,⟨b2,hr,ow,ow⟩,ow,ow⟩,ow,ow⟩
   ·rename_i h3
    match lr,b2 with
    | .nil,b2=>simp [Zn] at h3;have:=Zad ll;omega
    | .node a z b,b2=>
     obtain ⟨c1,c2,c3,c4⟩:=b2
     have e2:Zn (.node a z b)=max (Zn a) (Zn b)+1:=rfl
     have g1:Zn (.node ll lp a)=max (Zn ll) (Zn a)+1:=rfl
     have g2:Zn (.node b p r)=max (Zn b) (Zn r)+1:=rfl
     have g3:Zn (.node (.node ll lp a) z (.node b p r))=max (Zn (.node ll lp a)) (Zn (.node b p r))+1:=rfl
     show Bal (.node (.node ll lp a) z (.node b p r))∧_≤Zn (.node (.node ll lp a) z (.node b p r))∧Zn (.node (.node ll lp a) z (.node b p r))≤_
     refine ⟨⟨⟨b1,c1,ow,ow⟩,⟨c2,hr,ow,ow⟩,ow,ow⟩,ow,ow⟩
 ·rename_i hn
  split
  ·rename_i hh
   match r,hr with
   | .nil,hr=>simp [Zn] at hh;have:=Zad l;omega
   | .node rl rp rr,hr=>
    obtain ⟨b1,b2,b3,b4⟩:=hr
    have e:Zn (.node rl rp rr)=max (Zn rl) (Zn rr)+1:=rfl
    simp only
    split
    ·rename_i h3
     have g1:Zn (.node l p rl)=max (Zn l) (Zn rl)+1:=rfl
     have g2:Zn (.node (.node l p rl) rp rr)=max (Zn (.node l p rl)) (Zn rr)+1:=rfl
     refine ⟨⟨⟨hl,b1,ow,ow⟩,b2,ow,ow⟩,ow,ow⟩
    ·rename_i h3
     match rl,b1 with
     | .nil,b1=>simp [Zn] at h3;have:=Zad rr;omega
     | .node a z b,b1=>
      obtain ⟨c1,c2,c3,c4⟩:=b1
      have e2:Zn (.node a z b)=max (Zn a) (Zn b)+1:=rfl
      have g1:Zn (.node l p a)=max (Zn l) (Zn a)+1:=rfl
      have g2:Zn (.node b rp rr)=max (Zn b) (Zn rr)+1:=rfl
      have g3:Zn (.node (.node l p a) z (.node b rp rr))=max (Zn (.node l p a)) (Zn (.node b rp rr))+1:=rfl
      show Bal (.node (.node l p a) z (.node b rp rr))∧_≤Zn (.node (.node l p a) z (.node b rp rr))∧Zn (.node (.node l p a) z (.node b rp rr))≤_
      refine ⟨⟨⟨hl,c1,ow,ow⟩,⟨c2,b2,ow,ow⟩,ow,ow⟩,ow,ow⟩
  ·have g:Zn (.node l p r)=max (Zn l) (Zn r)+1:=rfl
   exact ⟨⟨hl,hr,ow,ow⟩,ow,ow⟩
theorem ZcW (l:Zae) (p:ZD) (r:Zae):ZB (Zbt l p r)=ZB l+ZB r+1:=by
 rw [ZT,ZbW,ZT,ZT]
 simp only [Yc,Yl]
 omega
theorem ZlY:∀ {t:Zae},Bal t→(2:Int) ^ (Zn t).toNat≤(ZB t+1)*(ZB t+1)
 | .nil,_=>by decide
 | .node l p r,h=>by
  obtain ⟨h1,h2,h3,h4⟩:=h
  have il:=ZlY h1
  have ir:=ZlY h2
  have nl:=Zad l
  have nr:=Zad r
  have sl:=ZQ l
  have sr:=ZQ r
  have e1:Zn (.node l p r)=max (Zn l) (Zn r)+1:=rfl
  have e2:ZB (.node l p r)=ZB l+ZB r+1:=rfl
  have mul:∀ a b:Int,0≤a→0≤b→2 ^ (min (Zn l) (Zn r)).toNat≤(a+1)*(a+1)→2 ^ (min (Zn l) (Zn r)).toNat≤(b+1)*(b+1)→(2:Int) ^ (min (Zn l) (Zn r)+2).toNat≤(a+b+1+1)*(a+b+1+1):=by
   intro a b ha hb h5 h6
   have e:(min (Zn l) (Zn r)+2).toNat=(min (Zn l) (Zn r)).toNat+2:=ow
   rw [e,Int.pow_add]
   generalize (2:Int) ^ (min (Zn l) (Zn r)).toNat=w at h5 h6 ⊢
   have h7:(2:Int) ^ 2=4:=rfl
   rw [h7]
   have k1:∀ x y:Int,(x+y)*(x+y)=x*x+2*(y*x)+y*y:=fun x y=>by
    rw [Int.add_mul,Int.mul_add,Int.mul_add,Int.mul_comm x y];omega
   rw [show a+b+1+1=(a+1)+(b+1) by omega,k1]
   rcases Int.le_total a b with hab | hab
   ·have:(a+1)*(a+1)≤(b+1)*(a+1):=Int.mul_le_mul_of_nonneg_right ow ow
    omega
   ·have:(b+1)*(b+1)≤(b+1)*(a+1):=Int.mul_le_mul_of_nonneg_left ow ow
    omega
  have pm:∀ x y:Int,0≤x→x≤y→(2:Int) ^ x.toNat≤2 ^ y.toNat:=fun x y hx hxy=>by
   have:=Nat.pow_le_pow_right (n:=2) We (show x.toNat≤y.toNat by omega)
   exact_mod_cast this
  have h5:=mul (ZB l) (ZB r) sl sr (YbL (pm _ _ ow ow) il) (YbL (pm _ _ ow ow) ir)
  rw [e1,e2]
  exact YbL (pm _ _ ow ow) h5
theorem Zou {t:Zae} (h:Bal t) (hs:ZB t≤1000000):Zn t≤40:=by
 apply Classical.byContradiction
 intro hn
 have h1:=ZlY h
 have sn:=ZQ t
 have h2:(2:Int) ^ 41≤2 ^ (Zn t).toNat:=by
  have:=Nat.pow_le_pow_right (n:=2) We (show 41≤(Zn t).toNat by omega)
  exact_mod_cast this
 have h3:(ZB t+1)*(ZB t+1)≤1000001*1000001:=Int.mul_le_mul ow ow ow ow
 have h4:(2:Int) ^ 41=2199023255552:=We
 omega
def putT (p:ZD):Zae→Zae
 | .nil=>.node .nil p .nil
 | .node l x r=>if p.key<x.key then Zbt (putT p l) x r else if x.key<p.key then Zbt l x (putT p r) else .node l p r
theorem ZiX (p:ZD):∀ {t:Zae},Bal t→Bal (putT p t)∧Zn t≤Zn (putT p t)∧Zn (putT p t)≤Zn t+1
 | .nil,_=>⟨⟨tv,tv,by show (0:Int)≤0+1;omega,by show (0:Int)≤0+1;omega⟩,by show (0:Int)≤max 0 0+1;omega,by show max (0:Int) 0+1≤0+1;omega⟩
 | .node l x r,h=>by
  obtain ⟨h1,h2,h3,h4⟩:=h
  have il:=ZiX p h1
  have ir:=ZiX p h2
  have e1:Zn (.node l x r)=max (Zn l) (Zn r)+1:=rfl
  unfold putT
  split
  ·have:=ZeR x il.1 h2 ow ow
   refine ⟨this.1,?_,ow⟩
   by_cases e:Zn (putT p l)=Zn l
   ·have:Zbt (putT p l) x r = .node (putT p l) x r:=by unfold Zbt;rw [Yb ow,Yb ow]
    rw [this]
    have:Zn (.node (putT p l) x r)=max (Zn (putT p l)) (Zn r)+1:=rfl
    omega
   ·by_cases e2:Zn r+1<Zn (putT p l)
    ·omega
    ·have:Zbt (putT p l) x r = .node (putT p l) x r:=by unfold Zbt;rw [Yb ow,Yb ow]
     rw [this]
     have:Zn (.node (putT p l) x r)=max (Zn (putT p l)) (Zn r)+1:=rfl
     omega
  ·split
   ·have:=ZeR x h1 ir.1 ow ow
    refine ⟨this.1,?_,ow⟩
    by_cases e2:Zn l+1<Zn (putT p r)
    ·omega
    ·have:Zbt l x (putT p r) = .node l x (putT p r):=by unfold Zbt;rw [Yb ow,Yb ow]
     rw [this]
     have:Zn (.node l x (putT p r))=max (Zn l) (Zn (putT p r))+1:=rfl
     omega
   ·exact ⟨⟨h1,h2,h3,h4⟩,by show _≤max (Zn l) (Zn r)+1;omega,by show max (Zn l) (Zn r)+1≤_;omega⟩
def Inc (l:List ZD):Prop:=l.Pairwise fun a b=>a.key<b.key
theorem ZbA {k v:Int} : ∀ {l m:List ZD},(∀ p ∈ l,p.key<k)→ZaQ k v (l++m) false=l++ZaQ k v m false
 | [],m,_=>rfl
 | p :: l,m,h=>by
  have h1:=h p W5
  rw [Y1,ZaQ,Yb ow,Yb ow,show (false || decide (k≤p.key))=false by simp;omega,ZbA fun x hx=>h x W7]
  rfl
theorem ZdZ {k v:Int} {m:List ZD} (hm:∀ p ∈ m,k<p.key):∀ (l:List ZD) (d:Bool),(∃ p ∈ l,k≤p.key)∨d=true→ZaQ k v (l++m) d=ZaQ k v l d++m
 | [],d,h=>by
  rcases h with ⟨p,hp,_⟩ | rfl
  ·cases hp
  ·rw [Yao]
   have:∀ m:List ZD,(∀ p ∈ m,k<p.key)→ZaQ k v m true=m:=by
    intro m
    induction m with
    | nil=>intro _;rfl
    | cons p m ih=>
     intro h
     have:=h p W5
     rw [ZaQ,YbD,ih fun x hx=>h x W7,Yb W5,Yb ow]
     rfl
   rw [this m hm]
   simp [ZaQ]
 | p :: l,d,h=>by
  rw [Y1,ZaQ,ZaQ,ZdZ hm l (d || decide (k≤p.key)) (by
   by_cases hp:k≤p.key
   ·exact .inr (by simp [hp])
   ·rcases h with ⟨q,hq,hk⟩ | rfl
    ·rcases Yp.1 hq with rfl | hq
     ·exact absurd hk hp
     ·exact .inl ⟨q,hq,hk⟩
    ·exact .inr rfl)]
  simp [Yt]
theorem Zn8 {k v:Int} : ∀ (l:List ZD),(∀ p ∈ l,p.key<k)→ZaQ k v l false=l ++ [⟨k,v⟩]:=by
 intro l h
 have:=ZbA (k:=k) (v:=v) (l:=l) (m:=[]) h
 rw [YF] at this
 rw [this];rfl
theorem Inc.parts {l r:List ZD} {x:ZD} (h:Inc (l++x :: r)):Inc l∧Inc r∧(∀ p ∈ l,p.key<x.key)∧(∀ p ∈ r,x.key<p.key):=by
 unfold Inc at *
 rw [Y4,YB] at h
 exact ⟨h.1,h.2.1.2,fun p hp=>h.2.2 p hp x W5,fun p hp=>h.2.1.1 p hp⟩
theorem ZeQ (p:ZD):∀ {t:Zae},Inc (tList t)→tList (putT p t)=putP (tList t) p.key p.val
 | .nil,_=>rfl
 | .node l x r,h=>by
  obtain ⟨h1,h2,h3,h4⟩:=Inc.parts h
  have il:=ZeQ p h1
  have ir:=ZeQ p h2
  unfold putT
  unfold putP at *
  show _=ZaQ p.key p.val (tList l++x :: tList r) false
  split
  ·rename_i hk
   rw [ZbW,il]
   by_cases hex:∃ q ∈ tList l,p.key≤q.key
   ·rw [ZdZ (fun q hq=>by
     rcases Yp.1 hq with rfl | hq
     ·exact hk
     ·have:=h4 q hq;omega) _ _ (.inl hex)]
   ·have hlt:∀ q ∈ tList l,q.key<p.key:=fun q hq=>by
     apply Classical.byContradiction
     intro hn
     exact hex ⟨q,hq,ow⟩
    rw [ZbA hlt,Zn8 _ hlt,Zkc fun q hq=>by
     rcases Yp.1 hq with rfl | hq
     ·exact hk
     ·have:=h4 q hq;omega]
    simp
  ·split
   ·rename_i hk1 hk
    rw [ZbW,ir,ZbA fun q hq=>by have:=h3 q hq;omega,ZaQ,Yb ow,Yb ow,show (false || decide (p.key≤x.key))=false by simp;omega]
    rfl
   ·rename_i hk1 hk2
    have e:x.key=p.key:=ow
    rw [ZbA fun q hq=>by have:=h3 q hq;omega,ZaQ,Yg ⟨rfl,ow⟩,Yg e,show (false || decide (p.key≤x.key))=true by simp;omega]
    have:=ZdZ (k:=p.key) (v:=p.val) (m:=tList r) (fun q hq=>by have:=h4 q hq;omega) [] true (.inr rfl)
    rw [Yao] at this
    rw [this]
    simp [tList,ZaQ]
structure Cell where
 left:Int
 right:Int
 key:Int
 val:Int
 size:Int
 high:Int
 deriving DecidableEq,Inhabited
def Z3 (c:Cell):List PV:=[.int .i64 c.left,.int .i64 c.right,.int .i64 c.key,.int .i64 c.val,.int .i64 c.size,.int .i64 c.high]
def Zsh (c:Cell):List PV:=[.int .u32 c.left,.int .u32 c.right]
def Zt8 (c:Cell):List PV:=[.int .i64 c.key,.int .i64 c.val,.int .i64 c.size,.int .i64 c.high]
def Zcg (n:Int):Int:=if n<0 then 0 else if n > 65536 then 65536 else n
def ZnR (v wv lv:Value) (room:Int) (q:List Cell):List RS:=
 [.pt (.val v) 170 [.pv (.int .i64 room),.pv (.is wv),.pv (.is lv)],.ob (.val wv) (ZM 288 2 Zsh q),.ob (.val lv) (ZM 290 4 Zt8 q)]
structure Zrf (room:Int) (q:List Cell):Prop where
 lo:0≤room
 hi:room≤65536
 le:(q.length:Int)≤room
 ok:∀ i,i<q.length→0≤(Nn q i).left∧(Nn q i).left≤i∧0≤(Nn q i).right∧(Nn q i).right≤i
def Za2 (v:Value) (room:Int) (q:List Cell):HP:=.ex fun wv=>.ex fun lv=>.and (Zrf room q) (.star (ZnR v wv lv room q))
def Zov (q:List Cell) (i:Int):Cell×Bool:=if 1≤i∧i≤q.length then (Nn q (i - 1).toNat,true) else (default,false)
def Zu4 (q:List Cell) (i:Int):PV:=.tup [.agg (Z3 (Zov q i).1),.bool (Zov q i).2]
theorem Zna {x:Int} (h:0≤x∧x≤65536):IntKind.wrap .u32 x=x:=Zi2 ⟨by simp [IntKind.min,IntKind.signed,IntKind.bits];omega,by simp [IntKind.max,IntKind.signed,IntKind.bits];omega⟩
theorem Zjb (b:Nat) (room:Int) (q:List Cell):FnG prog 182 1 [.is (.pointer (some ⟨b,0,none⟩))] [Za2 (.pointer (some ⟨b,0,none⟩)) room q] (.int .i64 q.length) (fun _=>[Za2 (.pointer (some ⟨b,0,none⟩)) room q]):=by
 refine FnG.mk func182 Z ntmps182 Z kr fun B F0 a w F V hG O=>?_
 obtain ⟨wv,O⟩:=O.open_ex 1 rfl
 obtain ⟨lv,O⟩:=O.open_ex 1 rfl
 obtain ⟨hI,O⟩:=O.open_and 1 rfl
 obtain ⟨F,O⟩:=O.peel 1 2 Z rfl
 obtain ⟨F,O⟩:=O.peel 1 3 Z rfl
 obtain ⟨F,O⟩:=O.peel 1 4 Z rfl
 obtain ⟨F,O⟩:=O.norm [(0,_)] [(0,_),(2,_),(3,_),(4,_)] ⟨rfl,tv⟩ ⟨rfl,rfl,rfl,rfl,tv⟩
 refine Ya ?_
 refine Zy O kr
   (cF rfl (ZL (.ci kr) Wd) trivial trivial
   Zm.nil)
   kr Wq ?_
 clear O;intro a w F O
 obtain ⟨F,O⟩:=O.norm [(0,_),(2,_)] [(0,_),(2,_),(3,_),(4,_)] r2 r4
 refine Za (Ya (Ya ?_))
 refine Zy O kr
   (cF rfl (ZJ .t Wd) r1 trivial
   (cF rfl (Zab _ Yb5 rfl .t) r1 trivial
   Zm.nil))
   kr Wq ?_
 clear O;intro a w F O
 obtain ⟨F,O⟩:=O.norm [(0,_),(2,_),(4,_)] [(0,_),(2,_),(3,_),(4,_)] r3 r4
 refine Za (Zb O Z (fun hc0=>?_) (fun hc0=>?_))
 ·simp at hc0
 refine Yd (Za (Ya ?_))
 refine Zy O kr
   (cF rfl (ZJ .t Wd) r1 trivial
   (cF rfl (o_nilCheck 2 .is Wd) r1 r1
   (cF rfl (ZA (off:=1) 2 .adr kr Wd) r1 r1
   (cF rfl (Zaq (ag:=false) (sz:=1) 2 .adr kr kr kr Wd) r1 r1
   (cF rfl (Zam 3 Yb6 .is) r1 r1
   (cF rfl (ZL .t Wd) r1 trivial
   Zm.nil))))))
   kr Wq ?_
 clear O;intro a w F O
 obtain ⟨F,O⟩:=O.norm [(2,_)] [(0,_),(2,_),(3,_),(4,_)] r1 r4
 have O:=Xr
 refine Za (Yh ?_)
 have O:=O.fresh 1 rfl
 obtain ⟨F,O⟩:=O.push 1 4 Z Z Z kr
 obtain ⟨F,O⟩:=O.push 1 3 Z Z Z kr
 obtain ⟨F,O⟩:=O.push 1 2 Z Z Z kr
 have O:=O.turn 1 Z (r':=RS.hp (Za2 (.pointer (some ⟨b,0,none⟩)) room q)) (fun _ _ _ _ h=>⟨_,_,hI,h⟩)
 refine Zz hG O Z (.tmp Z .nil) (.one .refl) rfl
theorem ZeV  : FnP prog 182 [.is (.pointer none)] (.int .i64 0):=by
 refine FnP.mk func182 Z ntmps182 Z fun B a w F V hfr O=>Ya ?_
 refine Zy O kr
   (cF rfl (ZL (.ci kr) Wd) trivial trivial
   Zm.nil)
   kr Wq ?_
 clear O;intro a w F O
 obtain ⟨F,O⟩:=O.norm [(0,_),(2,_)] [(0,_)] r2 r1
 refine Za (Ya (Ya ?_))
 refine Zy O kr
   (cF rfl (ZJ .t Wd) r1 trivial
   (cF rfl (Zab _ Yb5 rfl .t) r1 trivial
   Zm.nil))
   kr Wq ?_
 clear O;intro a w F O
 obtain ⟨F,O⟩:=O.norm [(0,_),(2,_),(4,_)] [(0,_)] r3 r1
 refine Za (Zb O Z (fun hc0=>?_) (fun hc0=>?_))
 ·refine Ya ?_
  refine Zy O kr
    (cF rfl (ZL (.ci kr) Wd) trivial trivial
    Zm.nil)
    kr Wq ?_
  clear O;intro a w F O
  obtain ⟨F,O⟩:=O.norm [(0,_),(2,_)] [(0,_)] r2 r1
  refine Za (Yh (Zd (ZU hfr O Z (.tmp Z .nil) (.one .refl))))
 simp at hc0
theorem Znq (b:Nat) (room:Int) (q:List Cell):FnG prog 120 1 [.is (.pointer (some ⟨b,0,none⟩))] [Za2 (.pointer (some ⟨b,0,none⟩)) room q] (.int .i64 (room - q.length)) (fun _=>[Za2 (.pointer (some ⟨b,0,none⟩)) room q]):=by
 refine FnG.mk func120 Z ntmps120 Z kr fun B F0 a w F V hG O=>?_
 obtain ⟨wv,O⟩:=O.open_ex 1 rfl
 obtain ⟨lv,O⟩:=O.open_ex 1 rfl
 obtain ⟨hI,O⟩:=O.open_and 1 rfl
 obtain ⟨F,O⟩:=O.peel 1 2 Z rfl
 obtain ⟨F,O⟩:=O.peel 1 3 Z rfl
 obtain ⟨F,O⟩:=O.peel 1 4 Z rfl
 obtain ⟨F,O⟩:=O.norm [(0,_)] [(0,_),(2,_),(3,_),(4,_)] ⟨rfl,tv⟩ ⟨rfl,rfl,rfl,rfl,tv⟩
 refine Ya ?_
 refine Zy O kr
   (cF rfl (ZL (.ci kr) Wd) trivial trivial
   Zm.nil)
   kr Wq ?_
 clear O;intro a w F O
 obtain ⟨F,O⟩:=O.norm [(0,_),(2,_)] [(0,_),(2,_),(3,_),(4,_)] r2 r4
 refine Za (Ya (Ya ?_))
 refine Zy O kr
   (cF rfl (ZJ .t Wd) r1 trivial
   (cF rfl (Zab _ Yb5 rfl .t) r1 trivial
   Zm.nil))
   kr Wq ?_
 clear O;intro a w F O
 obtain ⟨F,O⟩:=O.norm [(0,_),(2,_),(4,_)] [(0,_),(2,_),(3,_),(4,_)] r3 r4
 refine Za (Zb O Z (fun hc0=>?_) (fun hc0=>?_))
 ·simp at hc0
 refine Yd (Za (Ya ?_))
 refine Zcu kr O kr
   (cF rfl (ZJ .t Wd) r1 trivial
   (cF rfl (o_nilCheck 2 .is Wd) r1 r1
   (cF rfl (ZA (off:=0) 2 .adr kr Wd) r1 r1
   (cF rfl (Zaq (ag:=false) (sz:=1) 2 .adr kr kr kr Wd) r1 r1
   (cF rfl (ZJ .t Wd) r1 trivial
   (cF rfl (o_nilCheck 2 .is Wd) r1 r1
   (cF rfl (ZA (off:=1) 2 .adr kr Wd) r1 r1
   (cF rfl (Zaq (ag:=false) (sz:=1) 2 .adr kr kr kr Wd) r1 r1
   (cF rfl (Zam 3 Yb6 .is) r1 r1
   (cF rfl (o_sub .t .t) r2 trivial
   (cF rfl (ZL .t Wd) r1 trivial
   Zm.nil)))))))))))
   kr Wq ?_
 clear O;intro a w F O
 obtain ⟨F,O⟩:=O.norm [(2,_)] [(0,_),(2,_),(3,_),(4,_)] r1 r4
 have O:=Xr
 refine Za (Yh ?_)
 have O:=O.fresh 1 rfl
 obtain ⟨F,O⟩:=O.push 1 4 Z Z Z kr
 obtain ⟨F,O⟩:=O.push 1 3 Z Z Z kr
 obtain ⟨F,O⟩:=O.push 1 2 Z Z Z kr
 have O:=O.turn 1 Z (r':=RS.hp (Za2 (.pointer (some ⟨b,0,none⟩)) room q)) (fun _ _ _ _ h=>⟨_,_,hI,h⟩)
 refine Zz hG O Z (.tmp Z .nil) (.one (.int (Zj (by have:=hI.lo;have:=hI.hi;have:=hI.le;omega)))) rfl
theorem ZnE  : FnP prog 120 [.is (.pointer none)] (.int .i64 0):=by
 refine FnP.mk func120 Z ntmps120 Z fun B a w F V hfr O=>Ya ?_
 refine Zy O kr
   (cF rfl (ZL (.ci kr) Wd) trivial trivial
   Zm.nil)
   kr Wq ?_
 clear O;intro a w F O
 obtain ⟨F,O⟩:=O.norm [(0,_),(2,_)] [(0,_)] r2 r1
 refine Za (Ya (Ya ?_))
 refine Zy O kr
   (cF rfl (ZJ .t Wd) r1 trivial
   (cF rfl (Zab _ Yb5 rfl .t) r1 trivial
   Zm.nil))
   kr Wq ?_
 clear O;intro a w F O
 obtain ⟨F,O⟩:=O.norm [(0,_),(2,_),(4,_)] [(0,_)] r3 r1
 refine Za (Zb O Z (fun hc0=>?_) (fun hc0=>?_))
 ·refine Ya ?_
  refine Zy O kr
    (cF rfl (ZL (.ci kr) Wd) trivial trivial
    Zm.nil)
    kr Wq ?_
  clear O;intro a w F O
  obtain ⟨F,O⟩:=O.norm [(0,_),(2,_)] [(0,_)] r2 r1
  refine Za (Yh (Zd (ZU hfr O Z (.tmp Z .nil) (.one .refl))))
 simp at hc0
theorem Ztj (b:Nat) (room:Int) (q:List Cell) (i:Int):FnG prog 174 1 [.is (.pointer (some ⟨b,0,none⟩)),.int .i64 i] [Za2 (.pointer (some ⟨b,0,none⟩)) room q] (Zu4 q i) (fun _=>[Za2 (.pointer (some ⟨b,0,none⟩)) room q]):=by
 refine FnG.mk func174 Z ntmps174 Z kr fun B F0 a w F V hG O=>Ya ?_
 refine Zy O kr
   (cF rfl (Zhj (zs:=[.int .i64 0,.int .i64 0,.int .i64 0,.int .i64 0,.int .i64 0,.int .i64 0]) 101 kr) trivial trivial
   (cF rfl (ZL .cb Wd) trivial trivial
   Zm.nil))
   kr Wq ?_
 clear O;intro a w F O
 replace O:=O.sub
 obtain ⟨F,O⟩:=O.norm [(0,_),(1,_),(4,_),(5,_)] [(0,_),(1,_),(101,_)] r4 r3
 have O:=Xa
 generalize Act.tau a 4=v4 at O
 refine Za (Ya (Ya ?_))
 refine Zy O kr
   (cF rfl (ZJ .t Wd) r1 trivial
   (cF rfl (ZaR .t (.ci kr)) r1 trivial
   (cF rfl (ZJ .t Wd) r1 trivial
   (Zm.cons (Z9.cond rfl rfl (fun h=>ZJ .t Wd)) r2 trivial
   (Zm.cons (Z9.cond rfl rfl (fun h=>ZJ .t Wd)) r2 trivial
   (Zm.cons (Z9.condR rfl rfl Wd (fun h=>o_callG1 1 (Zjb b room q) func182 rfl kr (Args.one (.w h)))) r2 r1
   (Zm.cons (Z9.cond rfl rfl (fun h=>o_gtr (.w h) (.w h))) r3 trivial
   (cF rfl (ZaB .t .t) r2 trivial
   Zm.nil))))))))
   kr Wq ?_
 clear O;intro a w F O
 obtain ⟨F,O⟩:=O.norm [(0,_),(1,_),(4,_),(5,_),(15,_)] [(0,_),(1,_),(101,_)] r5 r3
 refine Za (Zb O Z (fun hc0=>?_) (fun hc0=>?_))
 ·have hg:Zov q i=(default,false):=by unfold Zov;rw [Yb];simp at hc0;omega
  refine Ya ?_
  refine Zy O kr
    (cF rfl (Zdi (r:=[]) (zs:=[.int .i64 0,.int .i64 0,.int .i64 0,.int .i64 0,.int .i64 0,.int .i64 0]) (pl:=[(0,1),(1,1),(2,1),(3,1),(4,1),(5,1)]) kr kr .nil Wd) trivial trivial
    (cF rfl (ZcO (sz:=6) 101 .is .t kr kr kr) r2 r1
    (cF rfl (ZL .cb Wd) trivial trivial
    Zm.nil)))
    kr Wq ?_
  clear O;intro a w F O
  obtain ⟨F,O⟩:=O.norm [(0,_),(1,_),(4,_),(5,_)] [(0,_),(1,_),(101,_)] r4 r3
  have O:=Xs
  refine Za (Yh (Zd (Zz hG O Z (.cell (n:=101) (ag:=true) (sz:=6) Z .is Z kr kr kr (.tmp Z .nil)) (.two (.aggU Z Wp) (.bool Wr)) Z)))
 obtain ⟨wv,O⟩:=O.open_ex 1 rfl
 obtain ⟨lv,O⟩:=O.open_ex 1 rfl
 obtain ⟨hI,O⟩:=O.open_and 1 rfl
 obtain ⟨F,O⟩:=O.peel 1 2 Z rfl
 obtain ⟨F,O⟩:=O.peel 1 3 Z rfl
 obtain ⟨F,O⟩:=O.peel 1 4 Z rfl
 have hb:1≤i∧i≤q.length:=WI
 have hg:Zov q i=(Nn q (i - 1).toNat,true):=by unfold Zov;rw [Yg hb]
 have hl:=hI.hi
 have hm:=hI.le
 have he:IntKind.wrap .i64 (i - 1)=i - 1:=Zj ow
 have h0:0≤IntKind.wrap .i64 (i - 1):=ow
 have h1:IntKind.wrap .i64 (i - 1)<q.length:=ow
 have h2:(IntKind.wrap .i64 (i - 1)).toNat<q.length:=ow
 have ho:=hI.ok _ (show (i - 1).toNat<q.length by omega)
 have hw1:IntKind.wrap .i64 (Nn q (IntKind.wrap .i64 (i - 1)).toNat).left=(Nn q (i - 1).toNat).left:=by rw [he];exact Zj ow
 have hw2:IntKind.wrap .i64 (Nn q (IntKind.wrap .i64 (i - 1)).toNat).right=(Nn q (i - 1).toNat).right:=by rw [he];exact Zj ow
 have hcell:Z3 ⟨IntKind.wrap .i64 (Nn q (IntKind.wrap .i64 (i - 1)).toNat).left,IntKind.wrap .i64 (Nn q (IntKind.wrap .i64 (i - 1)).toNat).right,(Nn q (IntKind.wrap .i64 (i - 1)).toNat).key,(Nn q (IntKind.wrap .i64 (i - 1)).toNat).val,(Nn q (IntKind.wrap .i64 (i - 1)).toNat).size,(Nn q (IntKind.wrap .i64 (i - 1)).toNat).high⟩ = Z3 (Nn q (i - 1).toNat):=by rw [hw1,hw2,he]
 obtain ⟨F,O⟩:=O.norm [(0,_),(1,_),(4,_),(5,_),(15,_)] [(0,_),(2,_),(3,_),(4,_),(101,_)] r5 r5
 refine Yd (Za (Ya ?_))
 refine Zcu kr O kr
   (cF rfl (ZJ .t Wd) r1 trivial
   (cF rfl (o_nilCheck 2 .is Wd) r1 r1
   (cF rfl (ZA (off:=1) 2 .adr kr Wd) r1 r1
   (cF rfl (Zaq (ag:=false) (sz:=1) 2 .adr kr kr kr Wd) r1 r1
   (cF rfl (ZJ .t Wd) r1 trivial
   (cF rfl (o_sub .t (.ci kr)) r1 trivial
   (cF rfl (o_indexAddr_row (sz:=2) 3 (.mk Yb6 kr) .is .t Ws Ws Wd) r2 r1
   (cF rfl (Zs (ag:=true) (sz':=2) (sz:=2) 3 .t Wt Wu kr kr kr) r1 r1
   (cF rfl (ZJ .t Wd) r1 trivial
   (cF rfl (o_nilCheck 2 .is Wd) r1 r1
   (cF rfl (ZA (off:=2) 2 .adr kr Wd) r1 r1
   (cF rfl (Zaq (ag:=false) (sz:=1) 2 .adr kr kr kr Wd) r1 r1
   (cF rfl (ZJ .t Wd) r1 trivial
   (cF rfl (o_sub .t (.ci kr)) r1 trivial
   (cF rfl (o_indexAddr_row (sz:=4) 4 (.mk underlying168 kr) .is .t Ws Ws Wd) r2 r1
   (cF rfl (Zs (ag:=true) (sz':=4) (sz:=4) 4 .t Wt Wu kr kr kr) r1 r1
   (cF rfl (Zhj (zs:=[.int .u32 0,.int .u32 0]) 102 kr) trivial trivial
   (cF rfl (Zhj (zs:=[.int .i64 0,.int .i64 0,.int .i64 0,.int .i64 0]) 103 kr) trivial trivial
   (cF rfl (ZcO (sz:=2) 102 .same .t kr kr kr) r2 r1
   (cF rfl (ZcO (sz:=4) 103 .same .t kr kr kr) r2 r1
   Zm.nil))))))))))))))))))))
   kr Wq ?_
 clear O;intro a w F O
 replace O:=O.sub
 obtain ⟨F,O⟩:=O.norm [(4,_),(5,_),(6,_),(7,_)] [(0,_),(2,_),(3,_),(4,_),(101,_),(102,_),(103,_)] r4 r7
 have O:=Xd
 generalize Act.tau a 6=v6,Act.tau a 7=v7 at O
 refine Za (Ya ?_)
 refine Zy O kr
   (cF rfl (ZA (off:=0) 102 .is kr Wd) r1 r1
   (cF rfl (Zaq (ag:=false) (sz:=1) 102 .adr kr kr kr Wd) r1 r1
   (cF rfl (Za6 YbV kr .t) r1 trivial
   (cF rfl (ZA (off:=1) 102 .is kr Wd) r1 r1
   (cF rfl (Zaq (ag:=false) (sz:=1) 102 .adr kr kr kr Wd) r1 r1
   (cF rfl (Za6 YbV kr .t) r1 trivial
   (cF rfl (ZA (off:=0) 103 .is kr Wd) r1 r1
   (cF rfl (Zaq (ag:=false) (sz:=1) 103 .adr kr kr kr Wd) r1 r1
   (cF rfl (ZA (off:=1) 103 .is kr Wd) r1 r1
   (cF rfl (Zaq (ag:=false) (sz:=1) 103 .adr kr kr kr Wd) r1 r1
   (cF rfl (ZA (off:=2) 103 .is kr Wd) r1 r1
   (cF rfl (Zaq (ag:=false) (sz:=1) 103 .adr kr kr kr Wd) r1 r1
   (cF rfl (ZA (off:=3) 103 .is kr Wd) r1 r1
   (cF rfl (Zaq (ag:=false) (sz:=1) 103 .adr kr kr kr Wd) r1 r1
   (cF rfl (Zdi (r:=[(0,.tmp 35),(1,.tmp 38),(2,.tmp 40),(3,.tmp 42),(4,.tmp 44),(5,.tmp 46)]) (zs:=[.int .i64 0,.int .i64 0,.int .i64 0,.int .i64 0,.int .i64 0,.int .i64 0]) (pl:=[(0,1),(1,1),(2,1),(3,1),(4,1),(5,1)]) kr kr (.one rfl .t one_int kr (.one rfl .t one_int kr (.one rfl .t one_int kr (.one rfl .t one_int kr (.one rfl .t one_int kr (.one rfl .t one_int kr .nil)))))) Wd) r6 trivial
   (cF rfl (ZcO (sz:=6) 101 .is .t kr kr kr) r2 r1
   (cF rfl (ZL .cb Wd) trivial trivial
   Zm.nil)))))))))))))))))
   kr Wq ?_
 clear O;intro a w F O
 obtain ⟨F,O⟩:=O.norm [(4,_),(5,_)] [(0,_),(2,_),(3,_),(4,_),(101,_)] r2 r5
 try dsimp only [List.map,Zc,List.length_cons,List.length_nil,Nat.reduceAdd,List.drop_succ_cons,List.drop_zero,List.drop_nil,List.take_succ_cons,List.take_zero,List.take_nil,List.cons_append,List.nil_append,zCF,ldSF] at O
 refine Za (Yh ?_)
 have O:=O.fresh 1 rfl
 obtain ⟨F,O⟩:=O.push 1 4 Z Z Z kr
 obtain ⟨F,O⟩:=O.push 1 3 Z Z Z kr
 obtain ⟨F,O⟩:=O.push 1 2 Z Z Z kr
 have O:=O.turn 1 Z (r':=RS.hp (Za2 (.pointer (some ⟨b,0,none⟩)) room q)) (fun _ _ _ _ h=>⟨_,_,hI,h⟩)
 refine Zz hG O Z (.cell (n:=101) (ag:=true) (sz:=6) Z .is Z kr kr kr (.tmp Z .nil)) (.two (.aggU Z (by rw [hg];exact hcell)) (.bool Wr)) rfl
def Zlz (q:List Cell) (n:Int):Bool:=decide (0≤n∧n≤q.length)
def ZcT (q:List Cell) (n:Int):List Cell:=if 0≤n∧n≤q.length then q.take n.toNat else q
theorem Zoq {q:List Cell} {k i:Nat} (h:i<(q.take k).length):Nn (q.take k) i=Nn q i:=by
 have h1:i<q.length:=by have:=List.length_take_le' k q;omega
 rw [Zu h,Zu h1,Ybi]
theorem Zrf.cut {room:Int} {q:List Cell} (h:Zrf room q) (n:Int):Zrf room (ZcT q n):=by
 unfold ZcT
 split
 ·refine ⟨h.lo,h.hi,?_,fun i hi=>?_⟩
  ·have:=h.le;have:=List.length_take_le' n.toNat q;omega
  ·rw [Zoq hi];exact h.ok i (by have:=List.length_take_le' n.toNat q;omega)
 ·exact h
theorem ZsK (b:Nat) (room:Int) (q:List Cell) (n:Int):FnG prog 189 1 [.is (.pointer (some ⟨b,0,none⟩)),.int .i64 n] [Za2 (.pointer (some ⟨b,0,none⟩)) room q] (.bool (Zlz q n)) (fun _=>[Za2 (.pointer (some ⟨b,0,none⟩)) room (ZcT q n)]):=by
 refine FnG.mk func189 Z ntmps189 Z kr fun B F0 a w F V hG O=>Ya ?_
 refine Zy O kr
   (cF rfl (ZL .cb Wd) trivial trivial
   Zm.nil)
   kr Wq ?_
 clear O;intro a w F O
 obtain ⟨F,O⟩:=O.norm [(0,_),(1,_),(4,_)] [(0,_),(1,_)] r3 r2
 refine Za (Ya (Ya ?_))
 refine Zy O kr
   (cF rfl (ZJ .t Wd) r1 trivial
   (cF rfl (ZaR .t (.ci kr)) r1 trivial
   (cF rfl (ZJ .t Wd) r1 trivial
   (Zm.cons (Z9.cond rfl rfl (fun h=>ZJ .t Wd)) r2 trivial
   (Zm.cons (Z9.cond rfl rfl (fun h=>ZJ .t Wd)) r2 trivial
   (Zm.cons (Z9.condR rfl rfl Wd (fun h=>o_callG1 1 (Zjb b room q) func182 rfl kr (Args.one (.w h)))) r2 r1
   (Zm.cons (Z9.cond rfl rfl (fun h=>o_gtr (.w h) (.w h))) r3 trivial
   (cF rfl (ZaB .t .t) r2 trivial
   Zm.nil))))))))
   kr Wq ?_
 clear O;intro a w F O
 obtain ⟨F,O⟩:=O.norm [(0,_),(1,_),(4,_),(12,_)] [(0,_),(1,_)] r4 r2
 refine Za (Zb O Z (fun hc0=>?_) (fun hc0=>?_))
 ·have hb:¬ (0≤n∧n≤q.length):=WI
  have hg:ZcT q n=q:=Yb hb
  have hg':Zlz q n=false:=Yq hb
  refine Ya ?_
  refine Zy O kr
    (cF rfl (ZL .cb Wd) trivial trivial
    Zm.nil)
    kr Wq ?_
  clear O;intro a w F O
  obtain ⟨F,O⟩:=O.norm [(0,_),(1,_),(4,_)] [(0,_),(1,_)] r3 r2
  refine Za (Yh (Zd ?_))
  have O:=O.turn 1 Z (r':=RS.hp (Za2 (.pointer (some ⟨b,0,none⟩)) room (ZcT q n))) (fun _ _ _ _ h=>by rw [hg];exact h)
  refine Zz hG O Z (.tmp Z .nil) (.one (.bool (by rw [hg']))) rfl
 have hb:(0≤n∧n≤q.length):=WI
 have hg:ZcT q n=q.take n.toNat:=Yg hb
 have hg':Zlz q n=true:=YA hb
 refine Yd (Za (Ya (Ya ?_)))
 refine Zy O kr
   (cF rfl (ZJ .t Wd) r1 trivial
   (cF rfl (ZgZ _ Yb5 rfl .t) r1 trivial
   Zm.nil))
   kr Wq ?_
 clear O;intro a w F O
 obtain ⟨F,O⟩:=O.norm [(0,_),(1,_),(4,_),(14,_)] [(0,_),(1,_)] r4 r2
 refine Za (Zb O Z (fun hc1=>?_) (fun hc1=>?_))
 ·obtain ⟨wv,O⟩:=O.open_ex 1 rfl
  obtain ⟨lv,O⟩:=O.open_ex 1 rfl
  obtain ⟨hI,O⟩:=O.open_and 1 rfl
  obtain ⟨F,O⟩:=O.peel 1 2 Z rfl
  obtain ⟨F,O⟩:=O.peel 1 3 Z rfl
  obtain ⟨F,O⟩:=O.peel 1 4 Z rfl
  have h0:=hb.1
  have h1:=hb.2
  obtain ⟨F,O⟩:=O.norm [(0,_),(1,_),(4,_),(14,_)] [(0,_),(2,_),(3,_),(4,_)] r4 r4
  refine Zcu kr O kr
    (cF rfl (ZJ .t Wd) r1 trivial
    (cF rfl (ZJ .t Wd) r1 trivial
    (cF rfl (ZJ .t Wd) r1 trivial
    (cF rfl (o_nilCheck 2 .is Wd) r1 r1
    (cF rfl (ZA (off:=1) 2 .adr kr Wd) r1 r1
    (cF rfl (Zaq (ag:=false) (sz:=1) 2 .adr kr kr kr Wd) r1 r1
    (cF rfl (ZJ .t Wd) r1 trivial
    (cF rfl (ZdV (sz:=2) 3 (.mk Yb6 kr) Wt .is .t Wu Wu) r2 r1
    (cF rfl (ZJ .t Wd) r1 trivial
    (cF rfl (o_nilCheck 2 .is Wd) r1 r1
    (cF rfl (ZA (off:=2) 2 .adr kr Wd) r1 r1
    (cF rfl (Zaq (ag:=false) (sz:=1) 2 .adr kr kr kr Wd) r1 r1
    (cF rfl (ZJ .t Wd) r1 trivial
    (cF rfl (ZdV (sz:=4) 4 (.mk underlying168 kr) Wt .is .t Wu Wu) r2 r1
    (cF rfl (o_nilCheck 2 .is Wd) r1 r1
    (cF rfl (ZA (off:=1) 2 .adr kr Wd) r1 r1
    (cF rfl (Zbo 2 .adr kr kr) r2 r1
    (cF rfl (o_nilCheck 2 .is Wd) r1 r1
    (cF rfl (ZA (off:=2) 2 .adr kr Wd) r1 r1
    (cF rfl (Zbo 2 .adr kr kr) r2 r1
    Zm.nil))))))))))))))))))))
    kr Wq ?_
  clear O;intro a w F O
  replace O:=O.sub
  obtain ⟨F,O⟩:=O.norm [(4,_)] [(0,_),(2,_),(3,_),(4,_)] r1 r4
  have O:=Xd
  generalize Act.tau a 22=v22,Act.tau a 28=v28 at O
  refine Za (Ya ?_)
  refine Zy O kr
    (cF rfl (ZL .cb Wd) trivial trivial
    Zm.nil)
    kr Wq ?_
  clear O;intro a w F O
  obtain ⟨F,O⟩:=O.norm [(4,_)] [(0,_),(2,_),(3,_),(4,_)] r1 r4
  refine Za (Yh ?_)
  have O:=O.fresh 1 rfl
  obtain ⟨F,O⟩:=O.push 1 4 Z Z Z kr
  obtain ⟨F,O⟩:=O.push 1 3 Z Z Z kr
  obtain ⟨F,O⟩:=O.push 1 2 Z Z Z kr
  have O:=O.turn 1 Z (r':=RS.hp (Za2 (.pointer (some ⟨b,0,none⟩)) room (ZcT q n))) (fun _ _ _ _ h=>⟨_,_,hI.cut n,by rw [hg];exact h⟩)
  refine Zz hG O Z (.tmp Z .nil) (.one (.bool (by rw [hg']))) rfl
 simp at hc1
theorem ZfW (n:Int):0≤Zcg n∧Zcg n≤65536:=by unfold Zcg;split; (· omega);split <;> omega
theorem ZqV (n:Int):Zrf (Zcg n) []:=⟨(ZfW n).1,(ZfW n).2,(ZfW n).1,fun i hi=>absurd hi (YI i)⟩
theorem Zon (n:Int):(if 65536<(if n<0 then 0 else n) then 65536 else if n<0 then 0 else n)=Zcg n:=by unfold Zcg;split <;> split <;> (try split) <;> omega
theorem Zpm (n:Int):FnG prog 45 1 [.int .i64 n] [.star []] (PV.ptr) (fun v=>[Za2 v (Zcg n) []]):=by
 refine FnG.mk func45 Z ntmps45 Z kr fun B F0 a w F V hG O=>?_
 have hr:=Zon n
 refine Ya ?_
 refine Zy O kr
  (cF rfl (ZL (.c rfl) Wd) trivial trivial
  Zm.nil)
  kr Wq ?_
 clear O;intro a w F O
 obtain ⟨F,O⟩:=O.norm [(0,_),(2,_)] [(0,_),(1,_)] r2 r2
 refine Za (Ya ?_)
 refine Zy O kr
  (cF rfl (ZJ .t Wd) r1 trivial
  (cF rfl (ZsZ .t (.ci kr)) r1 trivial
  (cF rfl (ZuO .t (.ci kr)) r1 trivial
  (cF rfl (Zdi (r:=[(0,.tmp 5)]) (zs:=[.int .i64 0,.slice none 0 0,.slice none 0 0]) (pl:=[(0,1),(1,1),(2,1)]) kr kr (.one rfl .t one_int kr .nil) Wd) r1 trivial
  (cF rfl (Zk0 101 .t kr) r1 trivial
  (cF rfl (ZL .t Wd) r1 trivial
  Zm.nil))))))
  kr Wq ?_
 clear O;intro a w F O
 replace O:=O.sub
 obtain ⟨F,O⟩:=O.norm [(2,_)] [(0,_),(1,_),(101,_)] r1 r3
 try dsimp only [RS.sub,SF.sub,CF.sub,csub,Anc.sub,List.map,Zc,List.length_cons,List.length_nil,Nat.reduceAdd,List.drop_succ_cons,List.drop_zero,List.drop_nil,List.take_succ_cons,List.take_zero,List.take_nil,List.cons_append,List.nil_append,zCF] at O
 generalize Act.tau a 7=v7 at O
 refine Za (Yh ?_)
 obtain ⟨b,rfl⟩:=O.shape 101 rfl
 have O:=O.fresh 3 rfl
 have O:=O.turn 3 Z (Zas (T:=288) (sz:=2) (R:=Zsh))
 have O:=O.fresh 4 rfl
 have O:=O.turn 4 Z (Zas (T:=290) (sz:=4) (R:=Zt8))
 obtain ⟨F,O⟩:=O.push 1 4 Z Z Z kr
 obtain ⟨F,O⟩:=O.push 1 3 Z Z Z kr
 obtain ⟨F,O⟩:=O.push 1 101 Z Z Z kr
 have O:=O.turn 1 Z (r':=RS.hp (Za2 (.pointer (some ⟨b,0,none⟩)) (Zcg n) [])) (fun _ _ _ _ h=>⟨_,_,ZqV n,by rw [← hr];exact h⟩)
 refine Zen (h':=fun v=>Za2 v (Zcg n) []) hG O Z (.tmp Z .nil) (.one .ptr) rfl
def ZeG (q:List Cell) (c:Cell):Prop:=c.left<0∨(q.length:Int)<c.left∨c.right<0∨(q.length:Int)<c.right
instance (q:List Cell) (c:Cell):Decidable (ZeG q c):=by unfold ZeG;exact inferInstance
def Zbv (room:Int) (q:List Cell) (c:Cell):List Cell×Int×Int:=if ZeG q c then (q,0,1) else if room≤q.length then (q,0,2) else (q ++ [c],(q.length:Int)+1,0)
theorem ZpB {q:List Cell} {c:Cell} {i:Nat} (h:i<q.length):Nn (q ++ [c]) i=Nn q i:=by
 rw [Zu h,Zu Wb,List.getElem_append_left h]
theorem ZkM {q:List Cell} {c:Cell} : Nn (q ++ [c]) q.length=c:=by rw [Zu (by simp)];simp
theorem Zrf.put {room:Int} {q:List Cell} {c:Cell} (h:Zrf room q) (h1:¬ ZeG q c) (h2:¬ room≤q.length):Zrf room (q ++ [c]):=by
 unfold ZeG at h1
 refine ⟨h.lo,h.hi,by simp;omega,fun i hi=>?_⟩
 by_cases e:i<q.length
 ·rw [ZpB e];exact h.ok i e
 ·have:i=q.length:=by simp at hi;omega
  subst this
  rw [ZkM];omega
theorem Ztc (b:Nat) (room:Int) (q:List Cell) (c:Cell):FnG prog 251 1 [.is (.pointer (some ⟨b,0,none⟩)),.agg (Z3 c)] [Za2 (.pointer (some ⟨b,0,none⟩)) room q] (.tup [.int .i64 (Zbv room q c).2.1,.int .i64 (Zbv room q c).2.2]) (fun _=>[Za2 (.pointer (some ⟨b,0,none⟩)) room (Zbv room q c).1]):=by
 refine FnG.mk func251 Z ntmps251 Z kr fun B F0 a w F V hG O=>Ya ?_
 refine Zy O kr
   (cF rfl (Zk0 101 (.conv .t .agg) kr) r1 trivial
   (cF rfl (ZL (.ci kr) Wd) trivial trivial
   (cF rfl (ZL (.ci kr) Wd) trivial trivial
   Zm.nil)))
   kr Wq ?_
 clear O;intro a w F O
 replace O:=O.sub
 obtain ⟨F,O⟩:=O.norm [(0,_),(3,_),(4,_),(5,_)] [(0,_),(1,_),(101,_)] r4 r3
 have O:=Xa
 generalize Act.tau a 3=v3 at O
 refine Za (Ya ?_)
 refine Zy O kr
   (cF rfl (ZJ .t Wd) r1 trivial
   (cF rfl (o_callG1 1 (Zjb b room q) func182 rfl kr (Args.one .t)) r1 r1
   (cF rfl (ZL .t Wd) r1 trivial
   Zm.nil)))
   kr Wq ?_
 clear O;intro a w F O
 obtain ⟨F,O⟩:=O.norm [(0,_),(3,_),(4,_),(5,_),(6,_)] [(0,_),(1,_),(101,_)] r5 r3
 refine Za (Ya (Ye (Ya ?_)))
 refine Zy O kr
   (cF rfl (ZA (off:=0) 101 .is kr Wd) r1 r1
   (cF rfl (Zaq (ag:=false) (sz:=1) 101 .adr kr kr kr Wd) r1 r1
   (cF rfl (ZaR .t (.ci kr)) r1 trivial
   (cF rfl (ZJ .t Wd) r1 trivial
   (Zm.cons (Z9.cond rfl rfl (fun h=>ZA (off:=0) 101 .is kr Wd)) r2 r1
   (Zm.cons (Z9.cond rfl rfl (fun h=>Zaq (ag:=false) (sz:=1) 101 (.w h .adr) kr kr kr Wd)) r2 r1
   (Zm.cons (Z9.cond rfl rfl (fun h=>ZJ .t Wd)) r2 trivial
   (Zm.cons (Z9.cond rfl rfl (fun h=>o_gtr (.w h) (.w h))) r3 trivial
   (cF rfl (ZaB .t .t) r2 trivial
   (cF rfl (ZJ .t Wd) r1 trivial
   (Zm.cons (Z9.cond rfl rfl (fun h=>ZA (off:=1) 101 .is kr Wd)) r2 r1
   (Zm.cons (Z9.cond rfl rfl (fun h=>Zaq (ag:=false) (sz:=1) 101 (.w h .adr) kr kr kr Wd)) r2 r1
   (Zm.cons (Z9.cond rfl rfl (fun h=>ZaR (.w h) (.ci kr))) r2 trivial
   (cF rfl (ZaB .t .t) r2 trivial
   (cF rfl (ZJ .t Wd) r1 trivial
   (Zm.cons (Z9.cond rfl rfl (fun h=>ZA (off:=1) 101 .is kr Wd)) r2 r1
   (Zm.cons (Z9.cond rfl rfl (fun h=>Zaq (ag:=false) (sz:=1) 101 (.w h .adr) kr kr kr Wd)) r2 r1
   (Zm.cons (Z9.cond rfl rfl (fun h=>ZJ .t Wd)) r2 trivial
   (Zm.cons (Z9.cond rfl rfl (fun h=>o_gtr (.w h) (.w h))) r3 trivial
   (cF rfl (ZaB .t .t) r2 trivial
   (cF rfl (ZL .t Wd) r1 trivial
   Zm.nil)))))))))))))))))))))
   kr Wq ?_
 clear O;intro a w F O
 obtain ⟨F,O⟩:=O.norm [(0,_),(3,_),(4,_),(5,_),(6,_),(9,_)] [(0,_),(1,_),(101,_)] r6 r3
 have O:=Xr
 refine Za (Zb O Z (fun hc0=>?_) (fun hc0=>?_))
 ·have hb:ZeG q c:=Qp
  have hg:Zbv room q c=(q,0,1):=Yg hb
  refine Ya ?_
  refine Zy O kr
    (cF rfl (ZL (.ci kr) Wd) trivial trivial
    (cF rfl (ZL (.ci kr) Wd) trivial trivial
    Zm.nil))
    kr Wq ?_
  clear O;intro a w F O
  obtain ⟨F,O⟩:=O.norm [(0,_),(3,_),(4,_),(5,_),(6,_)] [(0,_),(1,_),(101,_)] r5 r3
  refine Za (Yh (Zl (Zd ?_)))
  have O:=O.turn 1 Z (r':=RS.hp (Za2 (.pointer (some ⟨b,0,none⟩)) room (Zbv room q c).1)) (fun _ _ _ _ h=>by rw [hg];exact h)
  refine Zz hG O Z (.tmp Z (.tmp Z .nil)) (.two (.int Wr) (.int Wr)) rfl
 have hb:¬ ZeG q c:=Qp
 have hI:Zrf room q:=by obtain ⟨_,O⟩:=O.open_ex 1 rfl;obtain ⟨_,O⟩:=O.open_ex 1 rfl;exact (O.open_and 1 rfl).1
 have hm:=hI.le
 refine Ya ?_
 refine Zy O kr
   (cF rfl (ZJ .t Wd) r1 trivial
   (cF rfl (o_callG1 1 (Znq b room q) func120 rfl kr (Args.one .t)) r1 r1
   (cF rfl (o_eql .t (.ci kr)) r1 trivial
   (cF rfl (ZL .t Wd) r1 trivial
   Zm.nil))))
   kr Wq ?_
 clear O;intro a w F O
 obtain ⟨F,O⟩:=O.norm [(0,_),(3,_),(4,_),(5,_),(6,_),(30,_)] [(0,_),(1,_),(101,_)] r6 r3
 refine Za (Zb O Z (fun hc1=>?_) (fun hc1=>?_))
 ·have hb2:room≤q.length:=by simp only [Yj] at hc1;omega
  have hg:Zbv room q c=(q,0,2):=by unfold Zbv;rw [Yb hb,Yg hb2]
  refine Ya ?_
  refine Zy O kr
    (cF rfl (ZL (.ci kr) Wd) trivial trivial
    (cF rfl (ZL (.ci kr) Wd) trivial trivial
    Zm.nil))
    kr Wq ?_
  clear O;intro a w F O
  obtain ⟨F,O⟩:=O.norm [(0,_),(3,_),(4,_),(5,_),(6,_)] [(0,_),(1,_),(101,_)] r5 r3
  refine Za (Yh (Zl (Zd ?_)))
  have O:=O.turn 1 Z (r':=RS.hp (Za2 (.pointer (some ⟨b,0,none⟩)) room (Zbv room q c).1)) (fun _ _ _ _ h=>by rw [hg];exact h)
  refine Zz hG O Z (.tmp Z (.tmp Z .nil)) (.two (.int Wr) (.int Wr)) rfl
 obtain ⟨wv,O⟩:=O.open_ex 1 rfl
 obtain ⟨lv,O⟩:=O.open_ex 1 rfl
 obtain ⟨hI,O⟩:=O.open_and 1 rfl
 obtain ⟨F,O⟩:=O.peel 1 2 Z rfl
 obtain ⟨F,O⟩:=O.peel 1 3 Z rfl
 obtain ⟨F,O⟩:=O.peel 1 4 Z rfl
 have hb2:¬ room≤q.length:=by simp only [Yi] at hc1;omega
 have hg:Zbv room q c=(q ++ [c],(q.length:Int)+1,0):=by unfold Zbv;rw [Yb hb,Yb hb2]
 have hl:=hI.hi
 have hm:=hI.le
 have hb':=hb
 unfold ZeG at hb'
 have hcw:(⟨IntKind.wrap .u32 c.left,IntKind.wrap .u32 c.right,c.key,c.val,c.size,c.high⟩:Cell)=c:=by rw [Zna ow,Zna ow]
 obtain ⟨F,O⟩:=O.norm [(0,_),(3,_),(4,_),(5,_),(6,_),(30,_)] [(0,_),(2,_),(3,_),(4,_),(101,_)] r6 r5
 refine Yd (Zf (Za (Ya ?_)))
 refine Zcu kr O kr
   (cF rfl (ZJ .t Wd) r1 trivial
   (cF rfl (ZJ .t Wd) r1 trivial
   (cF rfl (o_nilCheck 2 .is Wd) r1 r1
   (cF rfl (ZA (off:=1) 2 .adr kr Wd) r1 r1
   (cF rfl (Zaq (ag:=false) (sz:=1) 2 .adr kr kr kr Wd) r1 r1
   (cF rfl (ZA (off:=0) 101 .is kr Wd) r1 r1
   (cF rfl (Zaq (ag:=false) (sz:=1) 101 .adr kr kr kr Wd) r1 r1
   (cF rfl (Za6 underlying274 kr .t) r1 trivial
   (cF rfl (ZA (off:=1) 101 .is kr Wd) r1 r1
   (cF rfl (Zaq (ag:=false) (sz:=1) 101 .adr kr kr kr Wd) r1 r1
   (cF rfl (Za6 underlying274 kr .t) r1 trivial
   (cF rfl (Zdi (r:=[(0,.tmp 41),(1,.tmp 44)]) (zs:=[.int .u32 0,.int .u32 0]) (pl:=[(0,1),(1,1)]) kr kr (.one rfl .t one_int kr (.one rfl .t one_int kr .nil)) Wd) r2 trivial
   (cF rfl (o_buildSliceE (sz:=2) (zs:=[.int .u32 0,.int .u32 0]) (r:=[(0,.tmp 45)]) (l:=[_,_]) Yb6 kr kr kr kr rfl rfl (.agg rfl .t kr kr .nil) rfl) r1 trivial
   (cF rfl (o_append (sz:=2) (bs:=8) 3 (.mk' Yb6 kr kr) Wt .is (.arr (l':=[⟨IntKind.wrap .u32 c.left,IntKind.wrap .u32 c.right,c.key,c.val,c.size,c.high⟩]) .t) Wv We) ⟨rfl,rfl,tv⟩ ⟨rfl,tv⟩
   (cF rfl (o_nilCheck 2 .is Wd) r1 r1
   (cF rfl (ZA (off:=1) 2 .adr kr Wd) r1 r1
   (cF rfl (Zbo 2 .adr kr kr) r2 r1
   Zm.nil)))))))))))))))))
   kr Wq ?_
 clear O;intro a w F O
 replace O:=O.sub
 obtain ⟨F,O⟩:=O.norm [(0,_),(3,_),(4,_),(5,_),(6,_)] [(0,_),(2,_),(3,_),(4,_),(101,_)] r5 r5
 have O:=Xd
 generalize Act.tau a 47=v47 at O
 refine Za (Ya ?_)
 refine Zcu kr O kr
   (cF rfl (ZJ .t Wd) r1 trivial
   (cF rfl (ZJ .t Wd) r1 trivial
   (cF rfl (o_nilCheck 2 .is Wd) r1 r1
   (cF rfl (ZA (off:=2) 2 .adr kr Wd) r1 r1
   (cF rfl (Zaq (ag:=false) (sz:=1) 2 .adr kr kr kr Wd) r1 r1
   (cF rfl (ZA (off:=2) 101 .is kr Wd) r1 r1
   (cF rfl (Zaq (ag:=false) (sz:=1) 101 .adr kr kr kr Wd) r1 r1
   (cF rfl (ZA (off:=3) 101 .is kr Wd) r1 r1
   (cF rfl (Zaq (ag:=false) (sz:=1) 101 .adr kr kr kr Wd) r1 r1
   (cF rfl (ZA (off:=4) 101 .is kr Wd) r1 r1
   (cF rfl (Zaq (ag:=false) (sz:=1) 101 .adr kr kr kr Wd) r1 r1
   (cF rfl (ZA (off:=5) 101 .is kr Wd) r1 r1
   (cF rfl (Zaq (ag:=false) (sz:=1) 101 .adr kr kr kr Wd) r1 r1
   (cF rfl (Zdi (r:=[(0,.tmp 56),(1,.tmp 58),(2,.tmp 60),(3,.tmp 62)]) (zs:=[.int .i64 0,.int .i64 0,.int .i64 0,.int .i64 0]) (pl:=[(0,1),(1,1),(2,1),(3,1)]) kr kr (.one rfl .t one_int kr (.one rfl .t one_int kr (.one rfl .t one_int kr (.one rfl .t one_int kr .nil)))) Wd) r4 trivial
   (cF rfl (o_buildSliceE (sz:=4) (zs:=[.int .i64 0,.int .i64 0,.int .i64 0,.int .i64 0]) (r:=[(0,.tmp 63)]) (l:=[_,_,_,_]) underlying168 kr kr kr kr rfl rfl (.agg rfl .t kr kr .nil) rfl) r1 trivial
   (cF rfl (o_append (sz:=4) (bs:=32) 4 (.mk' underlying168 kr kr) Wt .is (.arr (l':=[c]) .t) Wv We) ⟨rfl,rfl,tv⟩ ⟨rfl,tv⟩
   (cF rfl (o_nilCheck 2 .is Wd) r1 r1
   (cF rfl (ZA (off:=2) 2 .adr kr Wd) r1 r1
   (cF rfl (Zbo 2 .adr kr kr) r2 r1
   Zm.nil)))))))))))))))))))
   kr Wq ?_
 clear O;intro a w F O
 replace O:=O.sub
 obtain ⟨F,O⟩:=O.norm [(4,_),(5,_),(6,_)] [(0,_),(2,_),(3,_),(4,_)] r3 r4
 have O:=Xd
 generalize Act.tau a 65=v65 at O
 refine Za (Ya ?_)
 refine Zy O kr
   (cF rfl (ZJ .t Wd) r1 trivial
   (cF rfl (o_add .t (.ci kr)) r1 trivial
   (cF rfl (ZL .t Wd) r1 trivial
   (cF rfl (ZL (.ci kr) Wd) trivial trivial
   Zm.nil))))
   kr Wq ?_
 clear O;intro a w F O
 obtain ⟨F,O⟩:=O.norm [(4,_),(5,_)] [(0,_),(2,_),(3,_),(4,_)] r2 r4
 refine Za (Yh ?_)
 rw [hcw] at O
 have O:=O.fresh 1 rfl
 obtain ⟨F,O⟩:=O.push 1 4 Z Z Z kr
 obtain ⟨F,O⟩:=O.push 1 3 Z Z Z kr
 obtain ⟨F,O⟩:=O.push 1 2 Z Z Z kr
 have O:=O.turn 1 Z (r':=RS.hp (Za2 (.pointer (some ⟨b,0,none⟩)) room (Zbv room q c).1)) (fun _ _ _ _ h=>⟨_,_,by rw [hg];exact hI.put hb hb2,by rw [hg];exact h⟩)
 refine Zz hG O Z (.tmp Z (.tmp Z .nil)) (.two (.int (by rw [hg];exact Zj ow)) (.int Wr)) rfl
theorem Zp2 (i:Int):FnP prog 174 [.is (.pointer none),.int .i64 i] (Zu4 [] i):=by
 refine FnP.mk func174 Z ntmps174 Z fun B a w F V hfr O=>Ya ?_
 refine Zy O kr
   (cF rfl (Zhj (zs:=[.int .i64 0,.int .i64 0,.int .i64 0,.int .i64 0,.int .i64 0,.int .i64 0]) 101 kr) trivial trivial
   (cF rfl (ZL .cb Wd) trivial trivial
   Zm.nil))
   kr Wq ?_
 clear O;intro a w F O
 replace O:=O.sub
 obtain ⟨F,O⟩:=O.norm [(0,_),(1,_),(4,_),(5,_)] [(0,_),(101,_)] r4 r2
 have O:=Xa
 generalize Act.tau a 4=v4 at O
 refine Za (Ya (Ya ?_))
 refine Zy O kr
   (cF rfl (ZJ .t Wd) r1 trivial
   (cF rfl (ZaR .t (.ci kr)) r1 trivial
   (cF rfl (ZJ .t Wd) r1 trivial
   (Zm.cons (Z9.cond rfl rfl (fun h=>ZJ .t Wd)) r2 trivial
   (Zm.cons (Z9.cond rfl rfl (fun h=>ZJ .t Wd)) r2 trivial
   (Zm.cons (Z9.cond rfl rfl (fun h=>ZgD (ZeV) func182 rfl kr (Args.one (.w h)))) r2 trivial
   (Zm.cons (Z9.cond rfl rfl (fun h=>o_gtr (.w h) (.w h))) r3 trivial
   (cF rfl (ZaB .t .t) r2 trivial
   Zm.nil))))))))
   kr Wq ?_
 clear O;intro a w F O
 obtain ⟨F,O⟩:=O.norm [(0,_),(1,_),(4,_),(5,_),(15,_)] [(0,_),(101,_)] r5 r2
 refine Za (Zb O Z (fun hc0=>?_) (fun hc0=>?_))
 ·have hg:Zov [] i=(default,false):=by unfold Zov;rw [Yb];simp;omega
  refine Ya ?_
  refine Zy O kr
    (cF rfl (Zdi (r:=[]) (zs:=[.int .i64 0,.int .i64 0,.int .i64 0,.int .i64 0,.int .i64 0,.int .i64 0]) (pl:=[(0,1),(1,1),(2,1),(3,1),(4,1),(5,1)]) kr kr .nil Wd) trivial trivial
    (cF rfl (ZcO (sz:=6) 101 .is .t kr kr kr) r2 r1
    (cF rfl (ZL .cb Wd) trivial trivial
    Zm.nil)))
    kr Wq ?_
  clear O;intro a w F O
  obtain ⟨F,O⟩:=O.norm [(0,_),(1,_),(4,_),(5,_)] [(0,_),(101,_)] r4 r2
  have O:=Xs
  refine Za (Yh (Zd (ZU hfr O Z (.cell (n:=101) (ag:=true) (sz:=6) Z .is Z kr kr kr (.tmp Z .nil)) (.two (.aggU Z Wp) (.bool Wr)))))
 have hb:1≤i∧i≤(0:Int):=WI
 omega
theorem ZqL (n:Int):FnP prog 189 [.is (.pointer none),.int .i64 n] (.bool (Zlz [] n)):=by
 refine FnP.mk func189 Z ntmps189 Z fun B a w F V hfr O=>Ya ?_
 refine Zy O kr
   (cF rfl (ZL .cb Wd) trivial trivial
   Zm.nil)
   kr Wq ?_
 clear O;intro a w F O
 obtain ⟨F,O⟩:=O.norm [(0,_),(1,_),(4,_)] [(0,_)] r3 r1
 refine Za (Ya (Ya ?_))
 refine Zy O kr
   (cF rfl (ZJ .t Wd) r1 trivial
   (cF rfl (ZaR .t (.ci kr)) r1 trivial
   (cF rfl (ZJ .t Wd) r1 trivial
   (Zm.cons (Z9.cond rfl rfl (fun h=>ZJ .t Wd)) r2 trivial
   (Zm.cons (Z9.cond rfl rfl (fun h=>ZJ .t Wd)) r2 trivial
   (Zm.cons (Z9.cond rfl rfl (fun h=>ZgD (ZeV) func182 rfl kr (Args.one (.w h)))) r2 trivial
   (Zm.cons (Z9.cond rfl rfl (fun h=>o_gtr (.w h) (.w h))) r3 trivial
   (cF rfl (ZaB .t .t) r2 trivial
   Zm.nil))))))))
   kr Wq ?_
 clear O;intro a w F O
 obtain ⟨F,O⟩:=O.norm [(0,_),(1,_),(4,_),(12,_)] [(0,_)] r4 r1
 refine Za (Zb O Z (fun hc0=>?_) (fun hc0=>?_))
 ·have hg:Zlz [] n=false:=Yq (by simp at hc0 ⊢;omega)
  refine Ya ?_
  refine Zy O kr
    (cF rfl (ZL .cb Wd) trivial trivial
    Zm.nil)
    kr Wq ?_
  clear O;intro a w F O
  obtain ⟨F,O⟩:=O.norm [(0,_),(1,_),(4,_)] [(0,_)] r3 r1
  refine Za (Yh (Zd (ZU hfr O Z (.tmp Z .nil) (.one (.bool Wr)))))
 have hg:Zlz [] n=true:=YA (by simp at hc0 ⊢;omega)
 refine Yd (Za (Ya (Ya ?_)))
 refine Zy O kr
   (cF rfl (ZJ .t Wd) r1 trivial
   (cF rfl (ZgZ _ Yb5 rfl .t) r1 trivial
   Zm.nil))
   kr Wq ?_
 clear O;intro a w F O
 obtain ⟨F,O⟩:=O.norm [(0,_),(1,_),(4,_),(14,_)] [(0,_)] r4 r1
 refine Za (Zb O Z (fun hc1=>?_) (fun hc1=>?_))
 ·simp at hc1
 refine Yd (Za (Ya ?_))
 refine Zy O kr
   (cF rfl (ZL .cb Wd) trivial trivial
   Zm.nil)
   kr Wq ?_
 clear O;intro a w F O
 obtain ⟨F,O⟩:=O.norm [(4,_)] [(0,_)] r1 r1
 refine Za (Yh (ZU hfr O Z (.tmp Z .nil) (.one (.bool Wr))))
theorem ZqN (c:Cell):FnP prog 251 [.is (.pointer none),.agg (Z3 c)] (.tup [.int .i64 (Zbv 0 [] c).2.1,.int .i64 (Zbv 0 [] c).2.2]):=by
 refine FnP.mk func251 Z ntmps251 Z fun B a w F V hfr O=>Ya ?_
 refine Zy O kr
   (cF rfl (Zk0 101 (.conv .t .agg) kr) r1 trivial
   (cF rfl (ZL (.ci kr) Wd) trivial trivial
   (cF rfl (ZL (.ci kr) Wd) trivial trivial
   Zm.nil)))
   kr Wq ?_
 clear O;intro a w F O
 replace O:=O.sub
 obtain ⟨F,O⟩:=O.norm [(0,_),(3,_),(4,_),(5,_)] [(0,_),(101,_)] r4 r2
 have O:=Xa
 generalize Act.tau a 3=v3 at O
 refine Za (Ya ?_)
 refine Zy O kr
   (cF rfl (ZJ .t Wd) r1 trivial
   (cF rfl (ZgD (ZeV) func182 rfl kr (Args.one .t)) r1 trivial
   (cF rfl (ZL .t Wd) r1 trivial
   Zm.nil)))
   kr Wq ?_
 clear O;intro a w F O
 obtain ⟨F,O⟩:=O.norm [(0,_),(3,_),(4,_),(5,_),(6,_)] [(0,_),(101,_)] r5 r2
 refine Za (Ya (Ye (Ya ?_)))
 refine Zy O kr
   (cF rfl (ZA (off:=0) 101 .is kr Wd) r1 r1
   (cF rfl (Zaq (ag:=false) (sz:=1) 101 .adr kr kr kr Wd) r1 r1
   (cF rfl (ZaR .t (.ci kr)) r1 trivial
   (cF rfl (ZJ .t Wd) r1 trivial
   (Zm.cons (Z9.cond rfl rfl (fun h=>ZA (off:=0) 101 .is kr Wd)) r2 r1
   (Zm.cons (Z9.cond rfl rfl (fun h=>Zaq (ag:=false) (sz:=1) 101 (.w h .adr) kr kr kr Wd)) r2 r1
   (Zm.cons (Z9.cond rfl rfl (fun h=>ZJ .t Wd)) r2 trivial
   (Zm.cons (Z9.cond rfl rfl (fun h=>o_gtr (.w h) (.w h))) r3 trivial
   (cF rfl (ZaB .t .t) r2 trivial
   (cF rfl (ZJ .t Wd) r1 trivial
   (Zm.cons (Z9.cond rfl rfl (fun h=>ZA (off:=1) 101 .is kr Wd)) r2 r1
   (Zm.cons (Z9.cond rfl rfl (fun h=>Zaq (ag:=false) (sz:=1) 101 (.w h .adr) kr kr kr Wd)) r2 r1
   (Zm.cons (Z9.cond rfl rfl (fun h=>ZaR (.w h) (.ci kr))) r2 trivial
   (cF rfl (ZaB .t .t) r2 trivial
   (cF rfl (ZJ .t Wd) r1 trivial
   (Zm.cons (Z9.cond rfl rfl (fun h=>ZA (off:=1) 101 .is kr Wd)) r2 r1
   (Zm.cons (Z9.cond rfl rfl (fun h=>Zaq (ag:=false) (sz:=1) 101 (.w h .adr) kr kr kr Wd)) r2 r1
   (Zm.cons (Z9.cond rfl rfl (fun h=>ZJ .t Wd)) r2 trivial
   (Zm.cons (Z9.cond rfl rfl (fun h=>o_gtr (.w h) (.w h))) r3 trivial
   (cF rfl (ZaB .t .t) r2 trivial
   (cF rfl (ZL .t Wd) r1 trivial
   Zm.nil)))))))))))))))))))))
   kr Wq ?_
 clear O;intro a w F O
 obtain ⟨F,O⟩:=O.norm [(0,_),(3,_),(4,_),(5,_),(6,_),(9,_)] [(0,_),(101,_)] r6 r2
 have O:=Xr
 refine Za (Zb O Z (fun hc0=>?_) (fun hc0=>?_))
 ·have hb:ZeG [] c:=by unfold ZeG;simp only [Yar,Yj] at hc0;simp only [Yn];omega
  have hg:Zbv 0 [] c=([],0,1):=Yg hb
  refine Ya ?_
  refine Zy O kr
    (cF rfl (ZL (.ci kr) Wd) trivial trivial
    (cF rfl (ZL (.ci kr) Wd) trivial trivial
    Zm.nil))
    kr Wq ?_
  clear O;intro a w F O
  obtain ⟨F,O⟩:=O.norm [(0,_),(3,_),(4,_),(5,_),(6,_)] [(0,_),(101,_)] r5 r2
  refine Za (Yh (Zl (Zd (ZU hfr O Z (.tmp Z (.tmp Z .nil)) (.two (.int Wr) (.int Wr))))))
 have hb:¬ ZeG [] c:=by unfold ZeG;simp only [YaK,Yi] at hc0;simp only [Yn];omega
 have hg:Zbv 0 [] c=([],0,2):=by unfold Zbv;rw [Yb hb,Yg W5]
 refine Ya ?_
 refine Zy O kr
   (cF rfl (ZJ .t Wd) r1 trivial
   (cF rfl (ZgD (ZnE) func120 rfl kr (Args.one .t)) r1 trivial
   (cF rfl (o_eql .t (.ci kr)) r1 trivial
   (cF rfl (ZL .t Wd) r1 trivial
   Zm.nil))))
   kr Wq ?_
 clear O;intro a w F O
 obtain ⟨F,O⟩:=O.norm [(0,_),(3,_),(4,_),(5,_),(6,_),(30,_)] [(0,_),(101,_)] r6 r2
 refine Za (Zb O Z (fun hc1=>?_) (fun hc1=>?_))
 ·refine Ya ?_
  refine Zy O kr
    (cF rfl (ZL (.ci kr) Wd) trivial trivial
    (cF rfl (ZL (.ci kr) Wd) trivial trivial
    Zm.nil))
    kr Wq ?_
  clear O;intro a w F O
  obtain ⟨F,O⟩:=O.norm [(0,_),(3,_),(4,_),(5,_),(6,_)] [(0,_),(101,_)] r5 r2
  refine Za (Yh (Zl (Zd (ZU hfr O Z (.tmp Z (.tmp Z .nil)) (.two (.int Wr) (.int Wr))))))
 simp at hc1
theorem ZiD {v:Value} {room:Int} {q:List Cell} {w:World} {f y:Ys} (h:(Za2 v room q).p w f y):∃ b,v = .pointer (some ⟨b,0,none⟩):=by
 obtain ⟨_,_,_,h⟩:=h
 exact HP.star_pt h
def getC (q:List Cell) (i:Int):Cell:=(Zov q i).1
theorem Zhk (q:List Cell):getC q 0=default:=by unfold getC Zov;rw [Yb ow]
theorem ZlE {q:List Cell} {i:Int} (h:1≤i∧i≤q.length):getC q i=Nn q (i - 1).toNat:=by unfold getC Zov;rw [Yg h]
theorem ZrD {q:List Cell} {i:Int} (h:1≤i∧i≤q.length) (e:List Cell):getC (q++e) i=getC q i:=by
 rw [ZlE h,ZlE Ww,Zu (show (i - 1).toNat<q.length by omega),Zu (show (i - 1).toNat<(q++e).length by simp only [Yc];omega),List.getElem_append_left (show (i - 1).toNat<q.length by omega)]
theorem ZoD (q:List Cell) (c:Cell):getC (q ++ [c]) ((q.length:Int)+1)=c:=by
 rw [ZlE Wx,show ((q.length:Int)+1 - 1).toNat=q.length by omega,Zu W5]
 simp
def Rep (kf:Int→Int) (q:List Cell):Zae→Int→Prop
 | .nil,i=>i=0
 | .node l p r,i=>(1≤i∧i≤q.length)∧Rep kf q l (getC q i).left∧Rep kf q r (getC q i).right∧(getC q i).key=p.key∧kf p.key=p.key∧(getC q i).val=p.val∧(getC q i).size=ZB l+ZB r+1∧(getC q i).high=max (Zn l) (Zn r)+1
theorem Rep.high {kf:Int→Int} {q:List Cell} : ∀ {t:Zae} {i:Int},Rep kf q t i→(getC q i).high=Zn t
 | .nil,i,h=>by rw [show i=0 from h,Zhk];rfl
 | .node l p r,i,h=>h.2.2.2.2.2.2.2
theorem Rep.size {kf:Int→Int} {q:List Cell} : ∀ {t:Zae} {i:Int},Rep kf q t i→(getC q i).size=ZB t
 | .nil,i,h=>by rw [show i=0 from h,Zhk];rfl
 | .node l p r,i,h=>h.2.2.2.2.2.2.1
theorem Rep.range {kf:Int→Int} {q:List Cell} : ∀ {t:Zae} {i:Int},Rep kf q t i→0≤i∧i≤q.length
 | .nil,i,h=>by rw [show i=0 from h];omega
 | .node l p r,i,h=>by have:=h.1;omega
theorem Rep.app {kf:Int→Int} {q:List Cell} (e:List Cell):∀ {t:Zae} {i:Int},Rep kf q t i→Rep kf (q++e) t i
 | .nil,i,h=>h
 | .node l p r,i,h=>by
  obtain ⟨h1,h2,h3,h4⟩:=h
  have hl:=h2.app e
  have hr:=h3.app e
  unfold Rep
  rw [ZrD h1]
  exact ⟨⟨h1.1,by simp only [Yc];omega⟩,hl,hr,h4⟩
theorem Rep.zero {kf:Int→Int} {q:List Cell} {t:Zae} (h:Rep kf q t 0):t = .nil:=by
 match t,h with
 | .nil,_=>rfl
 | .node l p r,h=>have:=h.1;omega
theorem Rep.node {kf:Int→Int} {q:List Cell} {t:Zae} {i:Int} (h:Rep kf q t i) (hi:i≠0):∃ l p r,t = .node l p r:=by
 match t,h with
 | .nil,h=>exact absurd h hi
 | .node l p r,h=>exact ⟨l,p,r,rfl⟩
def ZI (kf:Int→Int) (c:Cell):ZD:=⟨kf c.key,c.val⟩
theorem Rep.pair {kf:Int→Int} {q:List Cell} {l r:Zae} {p:ZD} {i:Int} (h:Rep kf q (.node l p r) i):ZI kf (getC q i)=p:=by
 obtain ⟨_,_,_,h4,h5,h6,_⟩:=h
 unfold ZI
 rw [h4,h5,h6]
abbrev St:=List Cell×Int×Int
def ZbM (q:List Cell) (l r:Int) (p:ZD):Cell:=⟨l,r,p.key,p.val,IntKind.wrap .i64 (IntKind.wrap .i64 ((getC q l).size+(getC q r).size)+1),IntKind.wrap .i64 ((if (getC q l).high<(getC q r).high then (getC q r).high else (getC q l).high)+1)⟩
def madeS (room:Int) (q:List Cell) (why l r:Int) (p:ZD):St:=
 if why≠0 then (q,why,0) else ((Zbv room q (ZbM q l r p)).1,(Zbv room q (ZbM q l r p)).2.2,(Zbv room q (ZbM q l r p)).2.1)
def ZaS (kf:Int→Int) (room:Int) (q:List Cell) (why l r:Int) (p:ZD):St:=
 if IntKind.wrap .i64 ((getC q r).high+1)<(getC q l).high then
  if (getC q (getC q l).right).high≤(getC q (getC q l).left).high then
   let m:=madeS room q why (getC q l).right r p
   madeS room m.1 m.2.1 (getC q l).left m.2.2 (ZI kf (getC q l))
  else
   let z:=getC q (getC q l).right
   let m:=madeS room q why (getC q l).left z.left (ZI kf (getC q l))
   let n:=madeS room m.1 m.2.1 z.right r p
   madeS room n.1 n.2.1 m.2.2 n.2.2 (ZI kf z)
 else if IntKind.wrap .i64 ((getC q l).high+1)<(getC q r).high then
  if (getC q (getC q r).left).high≤(getC q (getC q r).right).high then
   let m:=madeS room q why l (getC q r).left p
   madeS room m.1 m.2.1 m.2.2 (getC q r).right (ZI kf (getC q r))
  else
   let z:=getC q (getC q r).left
   let m:=madeS room q why l z.left p
   let n:=madeS room m.1 m.2.1 z.right (getC q r).right (ZI kf (getC q r))
   madeS room n.1 n.2.1 m.2.2 n.2.2 (ZI kf z)
 else madeS room q why l r p
theorem Zav {room:Int} {q:List Cell} {why l r:Int} {p:ZD} (h:why≠0):madeS room q why l r p=(q,why,0):=Yg h
theorem Zdb {kf:Int→Int} {room:Int} {q:List Cell} {why l r:Int} {p:ZD} (h:why≠0):ZaS kf room q why l r p=(q,why,0):=by
 unfold ZaS
 split
 ·split
  ·simp only [Zav h]
  ·simp only [Zav h]
 ·split
  ·split
   ·simp only [Zav h]
   ·simp only [Zav h]
  ·exact Zav h
def Zd9 (kf:Int→Int) (room:Int) (q:List Cell) (lo n:Int) (x:St) (t:Zae):Prop:=
 ∃ e:List Cell,x.1=q++e∧(e.length:Int)≤n∧((x.2.1=0∧Rep kf x.1 t x.2.2∧lo≤e.length)∨(x.2.1=2∧room<q.length+n))
theorem Zd9.bind {kf:Int→Int} {room:Int} {q:List Cell} {lo n lo' m:Int} {x y:St} {t t':Zae} (h:Zd9 kf room q lo n x t) (hm:0≤m) (h0:∀ e,x.1=q++e→x.2.1=0→Rep kf x.1 t x.2.2→Zd9 kf room x.1 lo' m y t') (h1:x.2.1≠0→y=(x.1,x.2.1,0)):Zd9 kf room q (lo+lo') (n+m) y t':=by
 obtain ⟨e,e1,e2,⟨e3,e4,e5⟩ | ⟨e3,e4⟩⟩:=h
 ·obtain ⟨f,f1,f2,f3⟩:=h0 e e1 e3 e4
  refine ⟨e++f,by rw [f1,e1,Yt],by simp only [Yc];omega,?_⟩
  rw [e1] at f3
  simp only [Yc] at f3 ⊢
  rcases f3 with ⟨f3,f4,f5⟩ | ⟨f3,f4⟩
  ·exact .inl ⟨f3,f4,ow⟩
  ·exact .inr ⟨f3,ow⟩
 ·rw [h1 ow]
  exact ⟨e,e1,ow,.inr ⟨e3,ow⟩⟩
theorem Zd9.weak {kf:Int→Int} {room:Int} {q:List Cell} {lo n lo' n':Int} {x:St} {t:Zae} (h:Zd9 kf room q lo n x t) (h1:lo' ≤ lo) (h2:n≤n'):Zd9 kf room q lo' n' x t:=by
 obtain ⟨e,e1,e2,⟨e3,e4,e5⟩ | ⟨e3,e4⟩⟩:=h
 ·exact ⟨e,e1,ow,.inl ⟨e3,e4,ow⟩⟩
 ·exact ⟨e,e1,ow,.inr ⟨e3,ow⟩⟩
theorem Zat {kf:Int→Int} {room:Int} {q:List Cell} {li ri:Int} {l r:Zae} {p:ZD} (hl:Rep kf q l li) (hr:Rep kf q r ri) (hp:kf p.key=p.key) (hs:ZB l+ZB r≤1000000):Zd9 kf room q 1 1 (madeS room q 0 li ri p) (.node l p r):=by
 have bl:=hl.range
 have br:=hr.range
 have sl:=ZQ l
 have sr:=ZQ r
 have gl:=Zad l
 have gr:=Zad r
 have kl:=Zd8 l
 have kr:=Zd8 r
 unfold madeS
 rw [Yb ow]
 unfold Zbv
 rw [Yb (by unfold ZeG ZbM;simp only;omega)]
 split
 ·exact ⟨[],(YF q).symm,by simp,.inr ⟨rfl,ow⟩⟩
 ·refine ⟨[ZbM q li ri p],rfl,by simp,.inl ⟨rfl,?_,by simp⟩⟩
  unfold Rep
  simp only
  rw [ZoD]
  refine ⟨⟨ow,by simp only [Yc,Yl,Yn];omega⟩,hl.app _,hr.app _,rfl,hp,rfl,?_,?_⟩
  ·unfold ZbM
   simp only
   rw [hl.size,hr.size,Zj (x:=ZB l+ZB r) ow,Zj ow]
  ·unfold ZbM
   simp only
   rw [hl.high,hr.high,show (if Zn l<Zn r then Zn r else Zn l)=max (Zn l) (Zn r) by split <;> omega,Zj ow]
theorem Zct {kf:Int→Int} {room:Int} {q:List Cell} {li ri:Int} {l r:Zae} {p:ZD} (hl:Rep kf q l li) (hr:Rep kf q r ri) (hp:kf p.key=p.key) (hs:ZB l+ZB r≤1000000):Zd9 kf room q 1 3 (ZaS kf room q 0 li ri p) (Zbt l p r):=by
 have sl:=ZQ l
 have sr:=ZQ r
 have gl:=Zad l
 have gr:=Zad r
 have kl:=Zd8 l
 have kr:=Zd8 r
 unfold ZaS Zbt
 rw [hl.high,hr.high,Zj ow,Zj ow]
 split
 ·rename_i hh
  match l,hl with
  | .nil,hl=>simp [Zn] at hh;omega
  | .node ll lp lr,hl=>
   have hk:=hl
   obtain ⟨h1,h2,h3,h4,h5,h6,_⟩:=hl
   have s1:ZB (.node ll lp lr)=ZB ll+ZB lr+1:=rfl
   have s2:=ZQ ll
   have s3:=ZQ lr
   rw [h3.high,h2.high,hk.pair]
   show Zd9 kf room q 1 3 _ (if Zn lr≤Zn ll then _ else _)
   split
   ·refine (Zd9.bind (lo:=1) (n:=1) (lo':=1) (m:=1) (Zat h3 hr hp ow) ow (fun e e1 e3 e4=>?_) fun h=>Zav h).weak ow ow
    rw [e3]
    refine Zat (by rw [e1];exact h2.app e) e4 h5 ?_
    show ZB ll+(ZB lr+ZB r+1)≤_
    omega
   ·rename_i h9
    match lr,h3 with
    | .nil,h3=>simp [Zn] at h9;have:=Zad ll;omega
    | .node a z b,h3=>
     have hz:=h3
     obtain ⟨j1,j2,j3,j4,j5,j6,_⟩:=h3
     have s4:ZB (.node a z b)=ZB a+ZB b+1:=rfl
     have s5:=ZQ a
     have s6:=ZQ b
     show Zd9 kf room q 1 3 _ (.node (.node ll lp a) z (.node b p r))
     refine (Zd9.bind (lo:=1) (n:=1) (lo':=2) (m:=2) (Zat h2 j2 h5 ow) ow (fun e e1 e3 e4=>?_) fun h=>?_).weak ow ow
     ·simp only
      rw [e3]
      generalize madeS room q 0 (getC q li).left (getC q (getC q li).right).left lp=mm at e1 e3 e4 ⊢
      refine (Zd9.bind (lo:=1) (n:=1) (lo':=1) (m:=1) (Zat (l:=b) (r:=r) (by rw [e1];exact j3.app e) (by rw [e1];exact hr.app e) hp ow) ow (fun f f1 f3 f4=>?_) fun h=>Zav h).weak ow ow
      rw [f3,hz.pair]
      refine Zat Wy f4 j5 ?_
      show (ZB ll+ZB a+1)+(ZB b+ZB r+1)≤_
      omega
     ·simp only [Zav h]
 ·split
  ·rename_i hn hh
   match r,hr with
   | .nil,hr=>simp [Zn] at hh;omega
   | .node rl rp rr,hr=>
    have hk:=hr
    obtain ⟨h1,h2,h3,h4,h5,h6,_⟩:=hr
    have s1:ZB (.node rl rp rr)=ZB rl+ZB rr+1:=rfl
    have s2:=ZQ rl
    have s3:=ZQ rr
    rw [h3.high,h2.high,hk.pair]
    show Zd9 kf room q 1 3 _ (if Zn rl≤Zn rr then _ else _)
    split
    ·refine (Zd9.bind (lo:=1) (n:=1) (lo':=1) (m:=1) (Zat hl h2 hp ow) ow (fun e e1 e3 e4=>?_) fun h=>Zav h).weak ow ow
     rw [e3]
     refine Zat e4 (by rw [e1];exact h3.app e) h5 ?_
     show (ZB l+ZB rl+1)+ZB rr≤_
     omega
    ·rename_i h9
     match rl,h2 with
     | .nil,h2=>simp [Zn] at h9;have:=Zad rr;omega
     | .node a z b,h2=>
      have hz:=h2
      obtain ⟨j1,j2,j3,j4,j5,j6,_⟩:=h2
      have s4:ZB (.node a z b)=ZB a+ZB b+1:=rfl
      have s5:=ZQ a
      have s6:=ZQ b
      show Zd9 kf room q 1 3 _ (.node (.node l p a) z (.node b rp rr))
      refine (Zd9.bind (lo:=1) (n:=1) (lo':=2) (m:=2) (Zat hl j2 hp ow) ow (fun e e1 e3 e4=>?_) fun h=>?_).weak ow ow
      ·simp only
       rw [e3]
       generalize madeS room q 0 li (getC q (getC q ri).left).left p=mm at e1 e3 e4 ⊢
       refine (Zd9.bind (lo:=1) (n:=1) (lo':=1) (m:=1) (Zat (l:=b) (r:=rr) (by rw [e1];exact j3.app e) (by rw [e1];exact h3.app e) h5 ow) ow (fun f f1 f3 f4=>?_) fun h=>Zav h).weak ow ow
       rw [f3,hz.pair]
       refine Zat Wy f4 j5 ?_
       show (ZB l+ZB a+1)+(ZB b+ZB rr+1)≤_
       omega
      ·simp only [Zav h]
  ·exact (Zat hl hr hp hs).weak ow ow
theorem FnP.ownA {P:Program} {f:FuncId} {args:List PV} {q:PV} {c c':Prop} (h:c→FnP P f args q) (hc:c→c'):FnG P f 1 args [HP.and c (HP.star [])] q (fun _=>[HP.and c' (HP.star [])]):=fun w F vs hw hle hvs hpr=>by
 have h0:=hpr 0 _ rfl
 refine (h h0.1 w (U F) vs (fun b ⟨n,hn⟩=>hw.bd n b hn) hvs).mono ?_
 rintro e' w' ⟨v,rfl,hq,hbel⟩
 refine ⟨v,F,rfl,⟨hw.dis,fun n b hn=>YaL (hw.bd n b hn) hbel.size⟩,⟨hbel.os,hbel.tape,hbel.output,hbel.size,fun b hb _=>hbel.block b hb,fun _ _=>rfl,fun n hn b hb=>.inl ⟨n,hn,hb⟩⟩,hle,hq,fun i h hi=>?_⟩
 match i,hi with
 | 0,hi=>
  simp at hi
  subst hi
  exact ⟨hc h0.1,h0.2⟩
def arV (o:Option Nat):Value:=.pointer (o.map fun b=>⟨b,0,none⟩)
def arH (o:Option Nat) (room:Int) (q:List Cell):HP:=
 match o with
 | none=>.and (room=0∧q = []) (.star [])
 | some b=>Za2 (.pointer (some ⟨b,0,none⟩)) room q
theorem ZmA (o:Option Nat) (room:Int) (q:List Cell):FnG prog 182 1 [.is (arV o)] [arH o room q] (.int .i64 q.length) (fun _=>[arH o room q]):=
 match o with
 | some b=>Zjb b room q
 | none=>FnP.ownA (c:=room=0∧q = []) (fun h=>by rw [h.2];exact ZeV) fun h=>h
theorem Zsj (o:Option Nat) (room:Int) (q:List Cell) (i:Int):FnG prog 174 1 [.is (arV o),.int .i64 i] [arH o room q] (.tup [.agg (Z3 (getC q i)),.bool (Zov q i).2]) (fun _=>[arH o room q]):=
 match o with
 | some b=>Ztj b room q i
 | none=>FnP.ownA (c:=room=0∧q = []) (fun h=>by rw [h.2];exact Zp2 i) fun h=>h
theorem Zsq (o:Option Nat) (room:Int) (q:List Cell) (n:Int):FnG prog 189 1 [.is (arV o),.int .i64 n] [arH o room q] (.bool (Zlz q n)) (fun _=>[arH o room (ZcT q n)]):=
 match o with
 | some b=>ZsK b room q n
 | none=>FnP.ownA (c:=room=0∧q = []) (c':=room=0∧ZcT q n = []) (fun h=>by rw [h.2];exact ZqL n) fun h=>⟨h.1,by rw [h.2];unfold ZcT;split <;> simp⟩
theorem Zsm (o:Option Nat) (room:Int) (q:List Cell) (c:Cell):FnG prog 251 1 [.is (arV o),.agg (Z3 c)] [arH o room q] (.tup [.int .i64 (Zbv room q c).2.1,.int .i64 (Zbv room q c).2.2]) (fun _=>[arH o room (Zbv room q c).1]):=
 match o with
 | some b=>Ztc b room q c
 | none=>FnP.ownA (c:=room=0∧q = []) (c':=room=0∧(Zbv room q c).1 = []) (fun h=>by rw [h.1,h.2];exact ZqN c) fun h=>⟨h.1,by rw [h.1,h.2];unfold Zbv;split;rfl;rw [Yg W5]⟩
theorem ZbJ (o:Option Nat) (room:Int) (q:List Cell) (root i:Int):FnG prog 107 1 [.agg [.is (arV o),.int .i64 root],.int .i64 i] [arH o room q] (.agg (Z3 (getC q i))) (fun _=>[arH o room q]):=by
 refine FnG.mk func107 Z ntmps107 Z kr fun B F0 a w F V hG O=>Ya ?_
 refine rS O (qx 101 r1 (qf (oH [.int .i64 0,.int .i64 0,.int .i64 0,.int .i64 0,.int .i64 0,.int .i64 0] 102) trivial qz qZ)) V Dz QP fun τ O=>?_
 have O:=Xc
 generalize τ 2=v2,τ 4=v4 at O
 refine Za (Ya (rS O (qg 0 101 r1 r1 (qa 101 r1 r1 (qR rr (qf (o_callG1 1 (Zsj o room q i) func174 Z kr (Args.two .t .t)) r2 r1 (qR rr (qf (o_extract .t Z) r1 qz (qf (o_extract .t Z) r1 qz (qf (oH [.int .i64 0,.int .i64 0,.int .i64 0,.int .i64 0,.int .i64 0,.int .i64 0] 103) trivial qz (qf (oA 6 103 .same (.conv .t .agg)) r2 r1 (qO rr qZ)))))))))) V Jf [103,102,1,0] fun τ O=>?_))
 have O:=Xb
 generalize τ 5=v5 at O
 refine Za (Ya (rZ O (qe 6 103 r1 r1 (qs 6 102 r2 r1 qZ)) V [4] XaY fun O=>Yh ?_))
 refine Zz hG O Z (.cl 102 true 6 Z Z .nil) (.one (.aggU Z Z)) rfl
theorem scell_c (o:Option Nat) (room:Int) (q:List Cell) (root i:Int):FnG prog 109 1 [.agg [.is (arV o),.int .i64 root],.int .i64 i] [arH o room q] (.agg (Z3 (getC q i))) (fun _=>[arH o room q]):=by
 refine FnG.mk func109 Z ntmps109 Z kr fun B F0 a w F V hG O=>Ya ?_
 refine rS O (qx 101 r1 (qf (oH [.int .i64 0,.int .i64 0,.int .i64 0,.int .i64 0,.int .i64 0,.int .i64 0] 102) trivial qz qZ)) V Dz QP fun τ O=>?_
 have O:=Xc
 generalize τ 2=v2,τ 4=v4 at O
 refine Za (Ya (rS O (qg 0 101 r1 r1 (qa 101 r1 r1 (qR rr (qf (o_callG1 1 (Zsj o room q i) func174 Z kr (Args.two .t .t)) r2 r1 (qR rr (qf (o_extract .t Z) r1 qz (qf (o_extract .t Z) r1 qz (qf (oH [.int .i64 0,.int .i64 0,.int .i64 0,.int .i64 0,.int .i64 0,.int .i64 0] 103) trivial qz (qf (oA 6 103 .same (.conv .t .agg)) r2 r1 (qO rr qZ)))))))))) V Jf [103,102,1,0] fun τ O=>?_))
 have O:=Xb
 generalize τ 5=v5 at O
 refine Za (Ya (rZ O (qe 6 103 r1 r1 (qs 6 102 r2 r1 qZ)) V [4] XaY fun O=>Yh ?_))
 refine Zz hG O Z (.cl 102 true 6 Z Z .nil) (.one (.aggU Z Z)) rfl
def ZaE (T:Nat) (v:Value) (o:Option Nat) (root why room:Int) (q:List Cell):HP:=.star [.pt (.val v) T [.pv (.is (arV o)),.pv (.int .i64 root),.pv (.int .i64 why)],RS.hp (arH o room q)]
def Zdt (q:List Cell) (l r x:Int):Cell:=⟨l,r,0,x,IntKind.wrap .i64 (IntKind.wrap .i64 ((getC q l).size+(getC q r).size)+1),IntKind.wrap .i64 (1+if (getC q l).high<(getC q r).high then (getC q r).high else (getC q l).high)⟩
theorem Zqx (q:List Cell) (l r x:Int):Zdt q l r x=ZbM q l r ⟨0,x⟩:=by unfold Zdt ZbM;rw [Int.add_comm 1 _]
theorem Zdu (c:Cell):FnP prog 247 [.agg (Z3 c)] (.agg (Zt (ZI id c))):=by
 refine FnP.mk func247 Z ntmps247 Z fun B a w F V hfr O=>Ya ?_
 refine rS O (qx 101 r1 (qf (oH [.int .i64 0,.int .i64 0] 102) trivial qz qZ)) V J5 QI fun τ O=>?_
 have O:=XH
 generalize τ 1=v1,τ 2=v2 at O
 refine Za (Ya (rZ O (qg 2 101 r1 r1 (qa 101 r1 r1 (qg 3 101 r1 r1 (qa 101 r1 r1 (qf (oB [(0,.tmp 4),(1,.tmp 6)] [.int .i64 0,.int .i64 0] [(0,1),(1,1)] (.one Z .t one_int kr (.one Z .t one_int kr .nil))) r2 qz (qs 2 102 r2 r1 qZ)))))) V [2] XaS fun O=>Yh ?_))
 refine ZU hfr O Z (.cl 102 true 2 Z Z .nil) (.one (.aggU Z Z))
theorem ZbP (b:Nat) (o:Option Nat) (root why room:Int) (q:List Cell) (l r:Int) (p:ZD):FnG prog 249 1 [.is (.pointer (some ⟨b,0,none⟩)),.int .i64 l,.int .i64 r,.agg (Zt p)] [ZaE 242 (.pointer (some ⟨b,0,none⟩)) o root why room q] (.int .i64 (madeS room q why l r p).2.2) (fun _=>[ZaE 242 (.pointer (some ⟨b,0,none⟩)) o root (madeS room q why l r p).2.1 room (madeS room q why l r p).1]):=by
 refine FnG.mk func249 Z ntmps249 Z kr fun B F0 a w F V hG O=>?_
 obtain ⟨F,O⟩:=O.peel 1 4 Z rfl
 obtain ⟨F,O⟩:=O.peel 1 5 Z rfl
 obtain ⟨F,O⟩:=O.nM DA Jm
 refine Ya (rS O (qx 101 r1 (qI qZ)) V Gf Jd fun τ O=>?_)
 try dsimp only [RS.sub,SF.sub,CF.sub,csub,Anc.sub,List.map,zCF,Z3,Zt,ZbM,Zdt] at O
 generalize τ 7=v7 at O
 refine Za (Ya (Ya (rZ O (qR rr (qf (o_nilCheck 4 .is Wd) r1 r1 (qf (oF 2 4 .adr) r1 r1 (qa 4 r1 r1 (qf (o_neq .t qi) r1 qz qZ))))) V [18,8,7,2,1,0] Jd fun O=>?_)))
 refine Zb O Z (fun hc0=>?_) (fun hc0=>?_)
 ·have hg:(madeS room q why l r p)=(q,why,0):=Zav Wz
  refine Ya (rZ O (qI qZ) V Gf Jd fun O=>(Yh (Zd ?_)))
  have O:=O.fresh 1 rfl
  obtain ⟨F,O⟩:=O.push 1 5 Z Z Z kr
  obtain ⟨F,O⟩:=O.push 1 4 Z Z Z kr
  have O:=O.turn 1 Z (r':=RS.hp (ZaE 242 (.pointer (some ⟨b,0,none⟩)) o root (madeS room q why l r p).2.1 room (madeS room q why l r p).1)) (fun _ _ _ _ h=>by rw [hg];exact h)
  refine Zz hG O Z (.tmp Z .nil) (.one (.int WA)) rfl
 have hg:(madeS room q why l r p)=((Zbv room q (ZbM q l r p)).1,(Zbv room q (ZbM q l r p)).2.2,(Zbv room q (ZbM q l r p)).2.1):=by exact Yb Wz
 refine Yd (Za (Ya (rT O (qR rr (qf (o_nilCheck 4 .is Wd) r1 r1 (qf (oF 0 4 .adr) r1 r1 (qf (oL true 2 4 .adr) r1 r1 (qR rr (qf (o_callG1 5 (ZbJ o room q root l) func107 Z kr (Args.two (.pagg .t) .t)) r2 r1 (qR rr (qf (o_nilCheck 4 .is Wd) r1 r1 (qf (oF 0 4 .adr) r1 r1 (qf (oL true 2 4 .adr) r1 r1 (qR rr (qf (o_callG1 5 (ZbJ o room q root r) func107 Z kr (Args.two (.pagg .t) .t)) r2 r1 (qf (oH [.int .i64 0,.int .i64 0,.int .i64 0,.int .i64 0,.int .i64 0,.int .i64 0] 102) trivial qz (qf (oH [.int .i64 0,.int .i64 0,.int .i64 0,.int .i64 0,.int .i64 0,.int .i64 0] 103) trivial qz (qf (oA 6 102 .same (.conv .t .agg)) r2 r1 (qf (oA 6 103 .same (.conv .t .agg)) r2 r1 qZ)))))))))))))))) V [10,9,8,7,2,1,0] DS fun τ O=>?_)))
 have O:=Xv
 generalize τ 9=v9,τ 10=v10 at O
 refine Za (Ya (rS O (qR rr (qR rr (qg 0 101 r1 r1 (qa 101 r1 r1 (qg 1 101 r1 r1 (qa 101 r1 r1 (qg 4 102 r1 r1 (qa 102 r1 r1 (qg 4 103 r1 r1 (qa 103 r1 r1 (qf (o_add .t .t) r2 qz (qp r1 (qg 5 102 r1 r1 (qa 102 r1 r1 (qg 5 103 r1 r1 (qa 103 r1 r1 (qf (ZsZ .t .t) r2 qz (qp r1 (qf (oB [(0,.tmp 31),(1,.tmp 32),(2,.tmp 34),(3,.tmp 36),(4,.tmp 42),(5,.tmp 48)] [.int .i64 0,.int .i64 0,.int .i64 0,.int .i64 0,.int .i64 0,.int .i64 0] [(0,1),(1,1),(2,1),(3,1),(4,1),(5,1)] (.one Z .t one_int kr (.one Z .t one_int kr (.one Z .t one_int kr (.one Z .t one_int kr (.one Z .t one_int kr (.one Z .t one_int kr .nil))))))) r6 qz (qf (oH [.int .i64 0,.int .i64 0,.int .i64 0,.int .i64 0,.int .i64 0,.int .i64 0] 104) trivial qz (qS 6 104 r2 r1 qZ))))))))))))))))))))) V [11,8,0] [104,5,4,0] fun τ O=>?_))
 have O:=Xv
 generalize τ 11=v11 at O
 refine Za (Ya (Zr O (qR rr (qf (o_nilCheck 4 .is Wd) r1 r1 (qf (oF 0 4 .adr) r1 r1 (qf (oF 0 4 .adr) r1 r1 (qa 4 r1 r1 (qe 6 104 r1 r1 (qf (o_callG1 5 (Zsm o room q (ZbM q l r p)) func251 Z kr (Args.two .t (.pagg .t))) r2 r1 (qR rr (qf (o_extract .t Z) r1 qz (qf (o_extract .t Z) r1 qz (qO rr (qO rr qZ)))))))))))) V [13,12,8,0] Jm Z Z fun a w F O=>?_))
 try dsimp only [List.map,xD,xE,xT,xU,ldSF,Z3,Zt,ZbM,Zdt] at O
 refine Za (Ya (rZ O (qR rr (qR rr (qf (o_nilCheck 4 .is Wd) r1 r1 (qf (oF 2 4 .adr) r1 r1 (qf (ZbI 4 .adr .t one_int kr kr) r2 r1 qZ))))) V [12,8] Jm fun O=>Ya ?_))
 refine rZ O (qR rr (qO rr qZ)) V [8] Jm fun O=>Yh ?_
 have O:=O.fresh 1 rfl
 obtain ⟨F,O⟩:=O.push 1 5 Z Z Z kr
 obtain ⟨F,O⟩:=O.push 1 4 Z Z Z kr
 have O:=O.turn 1 Z (r':=RS.hp (ZaE 242 (.pointer (some ⟨b,0,none⟩)) o root (madeS room q why l r p).2.1 room (madeS room q why l r p).1)) (fun _ _ _ _ h=>by rw [hg];exact h)
 refine Zz hG O Z (.tmp Z .nil) (.one (.int WA)) rfl
theorem ZfU (b:Nat) (o:Option Nat) (root why room:Int) (q:List Cell) (l r:Int) (p:ZD):FnG prog 246 1 [.is (.pointer (some ⟨b,0,none⟩)),.int .i64 l,.int .i64 r,.agg (Zt p)] [ZaE 242 (.pointer (some ⟨b,0,none⟩)) o root why room q] (.int .i64 (ZaS id room q why l r p).2.2) (fun _=>[ZaE 242 (.pointer (some ⟨b,0,none⟩)) o root (ZaS id room q why l r p).2.1 room (ZaS id room q why l r p).1]):=by
 refine FnG.mk func246 Z ntmps246 Z kr fun B F0 a w F V hG O=>?_
 obtain ⟨F,O⟩:=O.peel 1 4 Z rfl
 obtain ⟨F,O⟩:=O.peel 1 5 Z rfl
 obtain ⟨F,O⟩:=O.nM DA Jm
 refine Ya (rS O (qx 101 r1 (qI qZ)) V Gf Jd fun τ O=>?_)
 try dsimp only [RS.sub,SF.sub,CF.sub,csub,Anc.sub,List.map,zCF,Z3,Zt,ZbM,ZI] at O
 generalize τ 7=v7 at O
 refine Za (Ya (rT O (qR rr (qf (o_nilCheck 4 .is Wd) r1 r1 (qf (oF 0 4 .adr) r1 r1 (qf (oL true 2 4 .adr) r1 r1 (qR rr (qf (o_callG1 5 (ZbJ o room q root l) func107 Z kr (Args.two (.pagg .t) .t)) r2 r1 (qR rr (qf (o_nilCheck 4 .is Wd) r1 r1 (qf (oF 0 4 .adr) r1 r1 (qf (oL true 2 4 .adr) r1 r1 (qR rr (qf (o_callG1 5 (ZbJ o room q root r) func107 Z kr (Args.two (.pagg .t) .t)) r2 r1 (qf (oH [.int .i64 0,.int .i64 0,.int .i64 0,.int .i64 0,.int .i64 0,.int .i64 0] 102) trivial qz (qf (oH [.int .i64 0,.int .i64 0,.int .i64 0,.int .i64 0,.int .i64 0,.int .i64 0] 103) trivial qz (qf (oA 6 102 .same (.conv .t .agg)) r2 r1 (qf (oA 6 103 .same (.conv .t .agg)) r2 r1 qZ)))))))))))))))) V [10,9,8,7,2,1,0] DS fun τ O=>?_))
 have O:=Xw
 generalize τ 9=v9,τ 10=v10 at O
 refine Za (Ya (Ye (Ya (rZ O (qg 5 102 r1 r1 (qa 102 r1 r1 (qg 5 103 r1 r1 (qa 103 r1 r1 (qp r1 (qf (o_gtr .t .t) r2 qz (qO rr qZ))))))) V [25,10,9,8,7,2,1,0] DS fun O=>?_))))
 refine Zb O Z (fun hc0=>?_) (fun hc0=>?_)
 ·have h1:(IntKind.wrap .i64 ((getC q r).high+1)<(getC q l).high):=Qe
  refine Ya (rT O (qR rr (qf (o_nilCheck 4 .is Wd) r1 r1 (qf (oF 0 4 .adr) r1 r1 (qf (oL true 2 4 .adr) r1 r1 (qg 1 102 r1 r1 (qa 102 r1 r1 (qf (o_callG1 5 (ZbJ o room q root (getC q l).right) func107 Z kr (Args.two (.pagg .t) .t)) r2 r1 (qf (oH [.int .i64 0,.int .i64 0,.int .i64 0,.int .i64 0,.int .i64 0,.int .i64 0] 104) trivial qz (qf (oA 6 104 .same (.conv .t .agg)) r2 r1 qZ))))))))) V [11,9,8,7,2,1,0] [104,102,101,5,4,0] fun τ O=>?_)
  have O:=Xw
  generalize τ 11=v11 at O
  refine Za (Ya (Ya (Zr O (qR rr (qf (o_nilCheck 4 .is Wd) r1 r1 (qf (oF 0 4 .adr) r1 r1 (qf (oL true 2 4 .adr) r1 r1 (qg 0 102 r1 r1 (qa 102 r1 r1 (qf (o_callG1 5 (ZbJ o room q root (getC q l).left) func107 Z kr (Args.two (.pagg .t) .t)) r2 r1 (qf (ZeL (ft:=3) (off:=5) kr kr .t Z) r1 qz (qg 5 104 r1 r1 (qa 104 r1 r1 (qf (Zcb .t .t) r2 qz qZ))))))))))) V DT [104,102,101,5,4,0] Z Z fun a w F O=>?_)))
  have O:=Xx
  refine Za (Zb O Z (fun hc1=>?_) (fun hc1=>?_))
  ·have h3:((getC q (getC q l).right).high≤(getC q (getC q l).left).high):=KZ
   have hg:(ZaS id room q why l r p)=(madeS room (madeS room q why (getC q l).right r p).1 (madeS room q why (getC q l).right r p).2.1 (getC q l).left (madeS room q why (getC q l).right r p).2.2 (ZI id (getC q l))):=by unfold ZaS;rw [Yg h1,Yg h3] <;> rfl
   refine Ya ?_
   have O:=O.fresh 1 rfl
   obtain ⟨F,O⟩:=O.push 1 5 Z Z Z kr
   obtain ⟨F,O⟩:=O.push 1 4 Z Z Z kr
   have O:=O.turn 1 Z (r':=RS.hp (ZaE 242 (.pointer (some ⟨b,0,none⟩)) o root why room q)) (fun _ _ _ _ h=>h)
   obtain ⟨F,O⟩:=O.nM DT G8
   refine Zr O (qR rr (qg 0 102 r1 r1 (qa 102 r1 r1 (qR rr (qg 1 102 r1 r1 (qa 102 r1 r1 (qR rr (qe 2 101 r1 r1 (qf (o_callG1 1 (ZbP b o root why room q (getC q l).right r p) func249 Z kr (Args.four .t .t .t (.pagg .t))) r4 r1 (qe 6 102 r1 r1 (qf (oP (Zdu (getC q l)) func247 (Args.one (.pagg .t))) r1 qz (qf (o_callG1 1 (ZbP b o root (madeS room q why (getC q l).right r p).2.1 room (madeS room q why (getC q l).right r p).1 (getC q l).left (madeS room q why (getC q l).right r p).2.2 (ZI id (getC q l))) func249 Z kr (Args.four .t .t .t .t)) r4 r1 (qO rr qZ))))))))))))) V [11,9,8,7,2,1,0] G8 Z Z fun a w F O=>?_
   have O:=Xx
   refine Za (Yh (Zd (Zl (Zd ?_))))
   have O:=O.turn 1 Z (r':=RS.hp (ZaE 242 (.pointer (some ⟨b,0,none⟩)) o root (ZaS id room q why l r p).2.1 room (ZaS id room q why l r p).1)) (fun _ _ _ _ h=>by rw [hg];exact h)
   refine Zz hG O Z (.tmp Z .nil) (.one (.int WA)) rfl
  have h3:¬ ((getC q (getC q l).right).high≤(getC q (getC q l).left).high):=KZ
  have hg:(ZaS id room q why l r p)=(madeS room (madeS room (madeS room q why (getC q l).left (getC q (getC q l).right).left (ZI id (getC q l))).1 (madeS room q why (getC q l).left (getC q (getC q l).right).left (ZI id (getC q l))).2.1 (getC q (getC q l).right).right r p).1 (madeS room (madeS room q why (getC q l).left (getC q (getC q l).right).left (ZI id (getC q l))).1 (madeS room q why (getC q l).left (getC q (getC q l).right).left (ZI id (getC q l))).2.1 (getC q (getC q l).right).right r p).2.1 (madeS room q why (getC q l).left (getC q (getC q l).right).left (ZI id (getC q l))).2.2 (madeS room (madeS room q why (getC q l).left (getC q (getC q l).right).left (ZI id (getC q l))).1 (madeS room q why (getC q l).left (getC q (getC q l).right).left (ZI id (getC q l))).2.1 (getC q (getC q l).right).right r p).2.2 (ZI id (getC q (getC q l).right))):=by unfold ZaS;rw [Yg h1,Yb h3] <;> rfl
  refine Yd (Za (Ya ?_))
  have O:=O.fresh 1 rfl
  obtain ⟨F,O⟩:=O.push 1 5 Z Z Z kr
  obtain ⟨F,O⟩:=O.push 1 4 Z Z Z kr
  have O:=O.turn 1 Z (r':=RS.hp (ZaE 242 (.pointer (some ⟨b,0,none⟩)) o root why room q)) (fun _ _ _ _ h=>h)
  obtain ⟨F,O⟩:=O.nM DT G8
  refine Zr O (qR rr (qR rr (qg 0 102 r1 r1 (qa 102 r1 r1 (qg 0 104 r1 r1 (qa 104 r1 r1 (qe 6 102 r1 r1 (qf (oP (Zdu (getC q l)) func247 (Args.one (.pagg .t))) r1 qz (qf (o_callG1 1 (ZbP b o root why room q (getC q l).left (getC q (getC q l).right).left (ZI id (getC q l))) func249 Z kr (Args.four .t .t .t .t)) r4 r1 (qR rr (qg 1 104 r1 r1 (qa 104 r1 r1 (qR rr (qe 2 101 r1 r1 (qf (o_callG1 1 (ZbP b o root (madeS room q why (getC q l).left (getC q (getC q l).right).left (ZI id (getC q l))).2.1 room (madeS room q why (getC q l).left (getC q (getC q l).right).left (ZI id (getC q l))).1 (getC q (getC q l).right).right r p) func249 Z kr (Args.four .t .t .t (.pagg .t))) r4 r1 (qe 6 104 r1 r1 (qf (oP (Zdu (getC q (getC q l).right)) func247 (Args.one (.pagg .t))) r1 qz (qf (o_callG1 1 (ZbP b o root (madeS room (madeS room q why (getC q l).left (getC q (getC q l).right).left (ZI id (getC q l))).1 (madeS room q why (getC q l).left (getC q (getC q l).right).left (ZI id (getC q l))).2.1 (getC q (getC q l).right).right r p).2.1 room (madeS room (madeS room q why (getC q l).left (getC q (getC q l).right).left (ZI id (getC q l))).1 (madeS room q why (getC q l).left (getC q (getC q l).right).left (ZI id (getC q l))).2.1 (getC q (getC q l).right).right r p).1 (madeS room q why (getC q l).left (getC q (getC q l).right).left (ZI id (getC q l))).2.2 (madeS room (madeS room q why (getC q l).left (getC q (getC q l).right).left (ZI id (getC q l))).1 (madeS room q why (getC q l).left (getC q (getC q l).right).left (ZI id (getC q l))).2.1 (getC q (getC q l).right).right r p).2.2 (ZI id (getC q (getC q l).right))) func249 Z kr (Args.four .t .t .t .t)) r4 r1 (qO rr qZ))))))))))))))))))) V Gf QW Z Z fun a w F O=>?_
  have O:=Xx
  refine Za (Yh (Zl (Zd ?_)))
  have O:=O.turn 1 Z (r':=RS.hp (ZaE 242 (.pointer (some ⟨b,0,none⟩)) o root (ZaS id room q why l r p).2.1 room (ZaS id room q why l r p).1)) (fun _ _ _ _ h=>by rw [hg];exact h)
  refine Zz hG O Z (.tmp Z .nil) (.one (.int WA)) rfl
 have h1:¬ (IntKind.wrap .i64 ((getC q r).high+1)<(getC q l).high):=Qe
 refine Ya (rZ O (qg 5 103 r1 r1 (qa 103 r1 r1 (qg 5 102 r1 r1 (qa 102 r1 r1 (qp r1 (qf (o_gtr .t .t) r2 qz (qO rr qZ))))))) V [80,10,8,7,2,1,0] [103,101,5,4,0] fun O=>?_)
 refine Zb O Z (fun hc2=>?_) (fun hc2=>?_)
 ·have h2:(IntKind.wrap .i64 ((getC q l).high+1)<(getC q r).high):=Qf
  refine Ya (rT O (qR rr (qf (o_nilCheck 4 .is Wd) r1 r1 (qf (oF 0 4 .adr) r1 r1 (qf (oL true 2 4 .adr) r1 r1 (qg 0 103 r1 r1 (qa 103 r1 r1 (qf (o_callG1 5 (ZbJ o room q root (getC q r).left) func107 Z kr (Args.two (.pagg .t) .t)) r2 r1 (qf (oH [.int .i64 0,.int .i64 0,.int .i64 0,.int .i64 0,.int .i64 0,.int .i64 0] 105) trivial qz (qf (oA 6 105 .same (.conv .t .agg)) r2 r1 qZ))))))))) V [12,10,8,7,2,1,0] [105,103,101,5,4,0] fun τ O=>?_)
  have O:=Xw
  generalize τ 12=v12 at O
  refine Za (Ya (Ya (Zr O (qR rr (qf (o_nilCheck 4 .is Wd) r1 r1 (qf (oF 0 4 .adr) r1 r1 (qf (oL true 2 4 .adr) r1 r1 (qg 1 103 r1 r1 (qa 103 r1 r1 (qf (o_callG1 5 (ZbJ o room q root (getC q r).right) func107 Z kr (Args.two (.pagg .t) .t)) r2 r1 (qf (ZeL (ft:=3) (off:=5) kr kr .t Z) r1 qz (qg 5 105 r1 r1 (qa 105 r1 r1 (qf (Zcb .t .t) r2 qz qZ))))))))))) V DB [105,103,101,5,4,0] Z Z fun a w F O=>?_)))
  have O:=Xx
  refine Za (Zb O Z (fun hc3=>?_) (fun hc3=>?_))
  ·have h3:((getC q (getC q r).left).high≤(getC q (getC q r).right).high):=by simp only [Yj,Yi] at hc3;omega
   have hg:(ZaS id room q why l r p)=(madeS room (madeS room q why l (getC q r).left p).1 (madeS room q why l (getC q r).left p).2.1 (madeS room q why l (getC q r).left p).2.2 (getC q r).right (ZI id (getC q r))):=by unfold ZaS;rw [Yb h1,Yg h2,Yg h3] <;> rfl
   refine Ya ?_
   have O:=O.fresh 1 rfl
   obtain ⟨F,O⟩:=O.push 1 5 Z Z Z kr
   obtain ⟨F,O⟩:=O.push 1 4 Z Z Z kr
   have O:=O.turn 1 Z (r':=RS.hp (ZaE 242 (.pointer (some ⟨b,0,none⟩)) o root why room q)) (fun _ _ _ _ h=>h)
   obtain ⟨F,O⟩:=O.nM DB Xam
   refine Zr O (qR rr (qR rr (qR rr (qg 0 103 r1 r1 (qa 103 r1 r1 (qe 2 101 r1 r1 (qf (o_callG1 1 (ZbP b o root why room q l (getC q r).left p) func249 Z kr (Args.four .t .t .t (.pagg .t))) r4 r1 (qg 1 103 r1 r1 (qa 103 r1 r1 (qe 6 103 r1 r1 (qf (oP (Zdu (getC q r)) func247 (Args.one (.pagg .t))) r1 qz (qf (o_callG1 1 (ZbP b o root (madeS room q why l (getC q r).left p).2.1 room (madeS room q why l (getC q r).left p).1 (madeS room q why l (getC q r).left p).2.2 (getC q r).right (ZI id (getC q r))) func249 Z kr (Args.four .t .t .t .t)) r4 r1 (qO rr qZ))))))))))))) V [12,10,8,7,2,1,0] Xam Z Z fun a w F O=>?_
   have O:=Xx
   refine Za (Yh (Zd (Zl (Zd ?_))))
   have O:=O.turn 1 Z (r':=RS.hp (ZaE 242 (.pointer (some ⟨b,0,none⟩)) o root (ZaS id room q why l r p).2.1 room (ZaS id room q why l r p).1)) (fun _ _ _ _ h=>by rw [hg];exact h)
   refine Zz hG O Z (.tmp Z .nil) (.one (.int WA)) rfl
  have h3:¬ ((getC q (getC q r).left).high≤(getC q (getC q r).right).high):=by simp only [Yj,Yi] at hc3;omega
  have hg:(ZaS id room q why l r p)=(madeS room (madeS room (madeS room q why l (getC q (getC q r).left).left p).1 (madeS room q why l (getC q (getC q r).left).left p).2.1 (getC q (getC q r).left).right (getC q r).right (ZI id (getC q r))).1 (madeS room (madeS room q why l (getC q (getC q r).left).left p).1 (madeS room q why l (getC q (getC q r).left).left p).2.1 (getC q (getC q r).left).right (getC q r).right (ZI id (getC q r))).2.1 (madeS room q why l (getC q (getC q r).left).left p).2.2 (madeS room (madeS room q why l (getC q (getC q r).left).left p).1 (madeS room q why l (getC q (getC q r).left).left p).2.1 (getC q (getC q r).left).right (getC q r).right (ZI id (getC q r))).2.2 (ZI id (getC q (getC q r).left))):=by unfold ZaS;rw [Yb h1,Yg h2,Yb h3] <;> rfl
  refine Yd (Za (Ya ?_))
  have O:=O.fresh 1 rfl
  obtain ⟨F,O⟩:=O.push 1 5 Z Z Z kr
  obtain ⟨F,O⟩:=O.push 1 4 Z Z Z kr
  have O:=O.turn 1 Z (r':=RS.hp (ZaE 242 (.pointer (some ⟨b,0,none⟩)) o root why room q)) (fun _ _ _ _ h=>h)
  obtain ⟨F,O⟩:=O.nM DB Xam
  refine Zr O (qR rr (qR rr (qR rr (qg 0 105 r1 r1 (qa 105 r1 r1 (qe 2 101 r1 r1 (qf (o_callG1 1 (ZbP b o root why room q l (getC q (getC q r).left).left p) func249 Z kr (Args.four .t .t .t (.pagg .t))) r4 r1 (qR rr (qg 1 105 r1 r1 (qa 105 r1 r1 (qg 1 103 r1 r1 (qa 103 r1 r1 (qe 6 103 r1 r1 (qf (oP (Zdu (getC q r)) func247 (Args.one (.pagg .t))) r1 qz (qf (o_callG1 1 (ZbP b o root (madeS room q why l (getC q (getC q r).left).left p).2.1 room (madeS room q why l (getC q (getC q r).left).left p).1 (getC q (getC q r).left).right (getC q r).right (ZI id (getC q r))) func249 Z kr (Args.four .t .t .t .t)) r4 r1 (qe 6 105 r1 r1 (qf (oP (Zdu (getC q (getC q r).left)) func247 (Args.one (.pagg .t))) r1 qz (qf (o_callG1 1 (ZbP b o root (madeS room (madeS room q why l (getC q (getC q r).left).left p).1 (madeS room q why l (getC q (getC q r).left).left p).2.1 (getC q (getC q r).left).right (getC q r).right (ZI id (getC q r))).2.1 room (madeS room (madeS room q why l (getC q (getC q r).left).left p).1 (madeS room q why l (getC q (getC q r).left).left p).2.1 (getC q (getC q r).left).right (getC q r).right (ZI id (getC q r))).1 (madeS room q why l (getC q (getC q r).left).left p).2.2 (madeS room (madeS room q why l (getC q (getC q r).left).left p).1 (madeS room q why l (getC q (getC q r).left).left p).2.1 (getC q (getC q r).left).right (getC q r).right (ZI id (getC q r))).2.2 (ZI id (getC q (getC q r).left))) func249 Z kr (Args.four .t .t .t .t)) r4 r1 (qO rr qZ))))))))))))))))))) V Gf QW Z Z fun a w F O=>?_
  have O:=Xx
  refine Za (Yh (Zl (Zd ?_)))
  have O:=O.turn 1 Z (r':=RS.hp (ZaE 242 (.pointer (some ⟨b,0,none⟩)) o root (ZaS id room q why l r p).2.1 room (ZaS id room q why l r p).1)) (fun _ _ _ _ h=>by rw [hg];exact h)
  refine Zz hG O Z (.tmp Z .nil) (.one (.int WA)) rfl
 have h2:¬ (IntKind.wrap .i64 ((getC q l).high+1)<(getC q r).high):=Qf
 have hg:(ZaS id room q why l r p)=(madeS room q why l r p):=by unfold ZaS;rw [Yb h1,Yb h2] <;> rfl
 refine Yd (Zf (Za (Ya ?_)))
 have O:=O.fresh 1 rfl
 obtain ⟨F,O⟩:=O.push 1 5 Z Z Z kr
 obtain ⟨F,O⟩:=O.push 1 4 Z Z Z kr
 have O:=O.turn 1 Z (r':=RS.hp (ZaE 242 (.pointer (some ⟨b,0,none⟩)) o root why room q)) (fun _ _ _ _ h=>h)
 obtain ⟨F,O⟩:=O.nM [80,10,8,7,2,1,0] [103,101,1,0]
 refine rZ O (qR rr (qR rr (qR rr (qe 2 101 r1 r1 (qf (o_callG1 1 (ZbP b o root why room q l r p) func249 Z kr (Args.four .t .t .t (.pagg .t))) r4 r1 (qO rr qZ)))))) V [8] QL fun O=>Yh ?_
 have O:=O.turn 1 Z (r':=RS.hp (ZaE 242 (.pointer (some ⟨b,0,none⟩)) o root (ZaS id room q why l r p).2.1 room (ZaS id room q why l r p).1)) (fun _ _ _ _ h=>by rw [hg];exact h)
 refine Zz hG O Z (.tmp Z .nil) (.one (.int WA)) rfl
theorem ZsP (b:Nat) (o:Option Nat) (root why room:Int) (q:List Cell) (l r:Int) (x:Int):FnG prog 190 1 [.is (.pointer (some ⟨b,0,none⟩)),.int .i64 l,.int .i64 r,.int .i64 x] [ZaE 247 (.pointer (some ⟨b,0,none⟩)) o root why room q] (.int .i64 (madeS room q why l r ⟨0,x⟩).2.2) (fun _=>[ZaE 247 (.pointer (some ⟨b,0,none⟩)) o root (madeS room q why l r ⟨0,x⟩).2.1 room (madeS room q why l r ⟨0,x⟩).1]):=by
 refine FnG.mk func190 Z ntmps190 Z kr fun B F0 a w F V hG O=>?_
 obtain ⟨F,O⟩:=O.peel 1 4 Z rfl
 obtain ⟨F,O⟩:=O.peel 1 5 Z rfl
 obtain ⟨F,O⟩:=O.nM DA Jm
 refine Ya (rZ O (qI qZ) V G1 Jm fun O=>(Ya (Ya ?_)))
 refine rZ O (qR rr (qf (o_nilCheck 4 .is Wd) r1 r1 (qf (oF 2 4 .adr) r1 r1 (qa 4 r1 r1 (qf (o_neq .t qi) r1 qz qZ))))) V [17,8,3,2,1,0] Jm fun O=>?_
 refine Zb O Z (fun hc0=>?_) (fun hc0=>?_)
 ·have hg:(madeS room q why l r ⟨0,x⟩)=(q,why,0):=Zav Wz
  refine Ya (rZ O (qI qZ) V G1 Jm fun O=>(Yh (Zd ?_)))
  have O:=O.fresh 1 rfl
  obtain ⟨F,O⟩:=O.push 1 5 Z Z Z kr
  obtain ⟨F,O⟩:=O.push 1 4 Z Z Z kr
  have O:=O.turn 1 Z (r':=RS.hp (ZaE 247 (.pointer (some ⟨b,0,none⟩)) o root (madeS room q why l r ⟨0,x⟩).2.1 room (madeS room q why l r ⟨0,x⟩).1)) (fun _ _ _ _ h=>by rw [hg];exact h)
  refine Zz hG O Z (.tmp Z .nil) (.one (.int WA)) rfl
 have hg:(madeS room q why l r ⟨0,x⟩)=((Zbv room q (Zdt q l r x)).1,(Zbv room q (Zdt q l r x)).2.2,(Zbv room q (Zdt q l r x)).2.1):=by rw [Zqx];exact Yb Wz
 refine Yd (Za (Ya (rT O (qR rr (qf (o_nilCheck 4 .is Wd) r1 r1 (qf (oF 0 4 .adr) r1 r1 (qf (oL true 2 4 .adr) r1 r1 (qR rr (qf (o_callG1 5 (scell_c o room q root l) func109 Z kr (Args.two (.pagg .t) .t)) r2 r1 (qR rr (qf (o_nilCheck 4 .is Wd) r1 r1 (qf (oF 0 4 .adr) r1 r1 (qf (oL true 2 4 .adr) r1 r1 (qR rr (qf (o_callG1 5 (scell_c o room q root r) func109 Z kr (Args.two (.pagg .t) .t)) r2 r1 (qf (oH [.int .i64 0,.int .i64 0,.int .i64 0,.int .i64 0,.int .i64 0,.int .i64 0] 101) trivial qz (qf (oH [.int .i64 0,.int .i64 0,.int .i64 0,.int .i64 0,.int .i64 0,.int .i64 0] 102) trivial qz (qf (oA 6 101 .same (.conv .t .agg)) r2 r1 (qf (oA 6 102 .same (.conv .t .agg)) r2 r1 qZ)))))))))))))))) V [10,9,8,3,2,1,0] JO fun τ O=>?_)))
 have O:=Xv
 generalize τ 9=v9,τ 10=v10 at O
 refine Za (Ya (Zr O (qR rr (qf (o_nilCheck 4 .is Wd) r1 r1 (qf (oF 0 4 .adr) r1 r1 (qf (oF 0 4 .adr) r1 r1 (qa 4 r1 r1 (qR rr (qR rr (qR rr (qg 4 101 r1 r1 (qa 101 r1 r1 (qg 4 102 r1 r1 (qa 102 r1 r1 (qf (o_add .t .t) r2 qz (qp r1 (qg 5 101 r1 r1 (qa 101 r1 r1 (qg 5 102 r1 r1 (qa 102 r1 r1 (qf (ZsZ .t .t) r2 qz (qf (o_add qi .t) r1 qz (qf (oB [(0,.tmp 36),(1,.tmp 37),(3,.tmp 38),(4,.tmp 44),(5,.tmp 50)] [.int .i64 0,.int .i64 0,.int .i64 0,.int .i64 0,.int .i64 0,.int .i64 0] [(0,1),(1,1),(2,1),(3,1),(4,1),(5,1)] (.one Z .t one_int kr (.one Z .t one_int kr (.one Z .t one_int kr (.one Z .t one_int kr (.one Z .t one_int kr .nil)))))) r5 qz (qf (o_callG1 5 (Zsm o room q (Zdt q l r x)) func251 Z kr (Args.two .t (.pagg .t))) r2 r1 (qR rr (qf (o_extract .t Z) r1 qz (qf (o_extract .t Z) r1 qz (qO rr (qO rr qZ))))))))))))))))))))))))))) V [12,11,8,0] Jm Z Z fun a w F O=>?_))
 try dsimp only [List.map,Zc,xL,xM,Nat.reduceAdd,xD,xE,xT,xU,xC,xN,zCF,ldSF,Z3,Zt,ZbM,Zdt] at O
 refine Za (Ya (rZ O (qR rr (qR rr (qf (o_nilCheck 4 .is Wd) r1 r1 (qf (oF 2 4 .adr) r1 r1 (qf (ZbI 4 .adr .t one_int kr kr) r2 r1 qZ))))) V [11,8] Jm fun O=>Ya ?_))
 refine rZ O (qR rr (qO rr qZ)) V [8] Jm fun O=>Yh ?_
 have O:=O.fresh 1 rfl
 obtain ⟨F,O⟩:=O.push 1 5 Z Z Z kr
 obtain ⟨F,O⟩:=O.push 1 4 Z Z Z kr
 have O:=O.turn 1 Z (r':=RS.hp (ZaE 247 (.pointer (some ⟨b,0,none⟩)) o root (madeS room q why l r ⟨0,x⟩).2.1 room (madeS room q why l r ⟨0,x⟩).1)) (fun _ _ _ _ h=>by rw [hg];exact h)
 refine Zz hG O Z (.tmp Z .nil) (.one (.int WA)) rfl
theorem ZuN {P:Zae→Prop} (h:∀ t,(∀ t',ZB t' < ZB t→P t')→P t) (t:Zae):P t:=by
 have h0:∀ (n:Nat) (t:Zae),ZB t<n→P t:=by
  intro n
  induction n with
  | zero=>intro t ht;have:=ZQ t;omega
  | succ n ih=>intro t ht;exact h t fun t' ht'=>ih t' ow
 have:=ZQ t
 exact h0 ((ZB t).toNat+1) t ow
theorem ZlB {l r:Zae} {p:ZD} : ZB l<ZB (.node l p r):=by have:=ZQ r;show _<ZB l+ZB r+1;omega
theorem ZpD {l r:Zae} {p:ZD} : ZB r<ZB (.node l p r):=by have:=ZQ l;show _<ZB l+ZB r+1;omega
theorem Zku {l l' r:Zae} {p:ZD} (h1:Bal l') (h2:Bal r) (h3:Zn l≤Zn r+1) (h4:Zn r≤Zn l+1) (a:Zn l - 1≤Zn l') (b:Zn l' ≤ Zn l):Bal (Zbt l' p r)∧max (Zn l) (Zn r)≤Zn (Zbt l' p r)∧Zn (Zbt l' p r)≤max (Zn l) (Zn r)+1:=by
 have hb:=ZeR p h1 h2 ow ow
 refine ⟨hb.1,?_,ow⟩
 by_cases e2:Zn l' + 1<Zn r
 ·omega
 ·have e:Zbt l' p r = .node l' p r:=by unfold Zbt;rw [Yb ow,Yb ow]
  rw [e]
  show _≤max (Zn l') (Zn r)+1
  omega
theorem Zkx {l r r':Zae} {p:ZD} (h1:Bal l) (h2:Bal r') (h3:Zn l≤Zn r+1) (h4:Zn r≤Zn l+1) (a:Zn r - 1≤Zn r') (b:Zn r' ≤ Zn r):Bal (Zbt l p r')∧max (Zn l) (Zn r)≤Zn (Zbt l p r')∧Zn (Zbt l p r')≤max (Zn l) (Zn r)+1:=by
 have hb:=ZeR p h1 h2 ow ow
 refine ⟨hb.1,?_,ow⟩
 by_cases e2:Zn r' + 1<Zn l
 ·omega
 ·have e:Zbt l p r' = .node l p r':=by unfold Zbt;rw [Yb ow,Yb ow]
  rw [e]
  show _≤max (Zn l) (Zn r')+1
  omega
theorem ZeJ (p:ZD):∀ t:Zae,ZB t≤ZB (putT p t)∧ZB (putT p t)≤ZB t+1
 | .nil=>⟨by show (0:Int)≤0+0+1;omega,by show (0:Int)+0+1≤0+1;omega⟩
 | .node l x r=>by
  have hl:=ZeJ p l
  have hr:=ZeJ p r
  have e:ZB (.node l x r)=ZB l+ZB r+1:=rfl
  unfold putT
  split
  ·rw [ZcW];omega
  ·split
   ·rw [ZcW];omega
   ·show _≤ZB l+ZB r+1∧ZB l+ZB r+1≤_;omega
def Zcc (kf:Int→Int) (room:Int) (q:List Cell) (why:Int) (p:ZD):Zae→Int→St
 | .nil,_=>madeS room q why 0 0 p
 | .node l _ r,i=>
  if p.key<(getC q i).key then ZaS kf room (Zcc kf room q why p l (getC q i).left).1 (Zcc kf room q why p l (getC q i).left).2.1 (Zcc kf room q why p l (getC q i).left).2.2 (getC q i).right (ZI kf (getC q i))
  else if (getC q i).key<p.key then ZaS kf room (Zcc kf room q why p r (getC q i).right).1 (Zcc kf room q why p r (getC q i).right).2.1 (getC q i).left (Zcc kf room q why p r (getC q i).right).2.2 (ZI kf (getC q i))
  else madeS room q why (getC q i).left (getC q i).right p
theorem Zd9.lo {kf:Int→Int} {room:Int} {q:List Cell} {lo n:Int} {x:St} {t:Zae} (h:Zd9 kf room q lo n x t):0≤n:=by
 obtain ⟨e,_,e2,_⟩:=h
 omega
theorem Zhp {kf:Int→Int} {room:Int} {q:List Cell} {p:ZD} (hp:kf p.key=p.key):∀ {t:Zae} {i:Int},Rep kf q t i→ZB t<1000000→Zd9 kf room q 1 (3*(Zn t+1)) (Zcc kf room q 0 p t i) (putT p t)
 | .nil,i,h,hs=>(Zat (l:=.nil) (r:=.nil) rfl rfl hp (by show (0:Int)+0≤_;omega)).weak ow (by show (1:Int)≤3*(0+1);omega)
 | .node l x r,i,h,hs=>by
  have hk:=h.pair
  obtain ⟨h1,h2,h3,h4,h5,h6,_⟩:=h
  have e:ZB (.node l x r)=ZB l+ZB r+1:=rfl
  have e2:Zn (.node l x r)=max (Zn l) (Zn r)+1:=rfl
  have sl:=ZQ l
  have sr:=ZQ r
  have tl:=ZeJ p l
  have tr:=ZeJ p r
  have gl:=Zad l
  have gr:=Zad r
  have il:=Zhp (room:=room) hp h2 ow
  have ir:=Zhp (room:=room) hp h3 ow
  unfold Zcc putT
  rw [h4,hk]
  split
  ·refine (Zd9.bind (lo':=1) (m:=3) il ow (fun e' e1 e3 e4=>?_) fun hw=>Zdb hw).weak ow ow
   rw [e3]
   exact Zct e4 WB h5 ow
  ·split
   ·refine (Zd9.bind (lo':=1) (m:=3) ir ow (fun e' e1 e3 e4=>?_) fun hw=>Zdb hw).weak ow ow
    rw [e3]
    exact Zct WC e4 h5 ow
   ·exact (Zat h2 h3 hp ow).weak ow ow
def Zb5:Zae→ZD×Zae
 | .nil=>(default,.nil)
 | .node .nil p r=>(p,r)
 | .node (.node a b c) p r=>((Zb5 (.node a b c)).1,Zbt (Zb5 (.node a b c)).2 p r)
theorem Zdl:∀ {t:Zae},t ≠ .nil→tList t=(Zb5 t).1 :: tList (Zb5 t).2
 | .nil,h=>absurd rfl h
 | .node .nil p r,_=>rfl
 | .node (.node a b c) p r,_=>by
  have:=Zdl (t:=.node a b c) W5
  unfold Zb5
  simp only
  rw [ZbW]
  show tList (.node a b c)++p :: tList r=_
  rw [this]
  rfl
theorem ZeA {t:Zae} (h:t ≠ .nil):ZB (Zb5 t).2=ZB t - 1:=by
 rw [ZT,ZT,Zdl h]
 simp only [Yl]
 omega
theorem Zil:∀ {t:Zae},Bal t→Bal (Zb5 t).2∧Zn t - 1≤Zn (Zb5 t).2∧Zn (Zb5 t).2≤Zn t
 | .nil,_=>⟨tv,by show (0:Int) - 1≤0;omega,Yau _⟩
 | .node .nil p r,h=>by
  have:=Zad r
  have h4:=h.2.2.2
  have e:Zn (.node .nil p r)=max 0 (Zn r)+1:=rfl
  have e1:Zn Zae.nil=0:=rfl
  exact ⟨h.2.1,by show _≤Zn r;omega,by show Zn r≤_;omega⟩
 | .node (.node a b c) p r,h=>by
  obtain ⟨h1,h2,h3,h4⟩:=h
  have il:=Zil h1
  have e:Zn (.node (.node a b c) p r)=max (Zn (.node a b c)) (Zn r)+1:=rfl
  have:=Zku (p:=p) il.1 h2 h3 h4 il.2.1 il.2.2
  unfold Zb5
  simp only
  exact ⟨this.1,ow,ow⟩
def Z7 (kf:Int→Int) (room:Int) (q:List Cell) (why:Int):Zae→Int→ZD×St
 | .nil,i=>(ZI kf (getC q i),q,why,(getC q i).right)
 | .node l _ _,i=>
  if (getC q i).left=0 then (ZI kf (getC q i),q,why,(getC q i).right)
  else ((Z7 kf room q why l (getC q i).left).1,ZaS kf room (Z7 kf room q why l (getC q i).left).2.1 (Z7 kf room q why l (getC q i).left).2.2.1 (Z7 kf room q why l (getC q i).left).2.2.2 (getC q i).right (ZI kf (getC q i)))
theorem ZgY {kf:Int→Int} {room:Int} {q:List Cell} : ∀ {t:Zae} {i:Int},Rep kf q t i→t ≠ .nil→ZB t≤1000000→(Z7 kf room q 0 t i).1=(Zb5 t).1∧Zd9 kf room q 0 (3*Zn t) (Z7 kf room q 0 t i).2 (Zb5 t).2
 | .nil,i,h,hn,hs=>absurd rfl hn
 | .node .nil x r,i,h,hn,hs=>by
  have hk:=h.pair
  have h2:(getC q i).left=0:=h.2.1
  have e2:Zn (.node .nil x r)=max 0 (Zn r)+1:=rfl
  unfold Z7 Zb5
  rw [Yg h2]
  exact ⟨hk,[],(YF q).symm,by simp only [Yn];omega,.inl ⟨rfl,h.2.2.1,by simp⟩⟩
 | .node (.node a b c) x r,i,h,hn,hs=>by
  have hk:=h.pair
  obtain ⟨h1,h2,h3,h4,h5,h6,_⟩:=h
  have hz:(getC q i).left≠0:=fun hz=>by rw [hz] at h2;exact absurd h2.zero W5
  have e:ZB (.node (.node a b c) x r)=ZB (.node a b c)+ZB r+1:=rfl
  have e2:Zn (.node (.node a b c) x r)=max (Zn (.node a b c)) (Zn r)+1:=rfl
  have sr:=ZQ r
  have gr:=Zad r
  have gl:=Zad (.node a b c)
  have il:=ZgY (room:=room) h2 W5 ow
  have ts:=ZeA (t:=.node a b c) W5
  unfold Z7 Zb5
  rw [Yb hz,hk]
  refine ⟨il.1,(Zd9.bind (lo':=1) (m:=3) il.2 ow (fun e' e1 e3 e4=>?_) fun hw=>Zdb hw).weak ow ow⟩
  rw [e3]
  exact Zct e4 WB h5 ow
def delT (k:Int):Zae→Zae
 | .nil=>.nil
 | .node l p r=>if k<p.key then Zbt (delT k l) p r else if p.key<k then Zbt l p (delT k r) else
  match l with
  | .nil=>r
  | .node _ _ _=>match r with
   | .nil=>l
   | .node _ _ _=>Zbt l (Zb5 r).1 (Zb5 r).2
def Zla (k:Int):Zae→Prop
 | .nil=>False
 | .node l p r=>if k<p.key then Zla k l else if p.key<k then Zla k r else True
theorem Zjx (k:Int):∀ {t:Zae},Bal t→Bal (delT k t)∧Zn t - 1≤Zn (delT k t)∧Zn (delT k t)≤Zn t
 | .nil,_=>⟨tv,by show (0:Int) - 1≤0;omega,Yau _⟩
 | .node l p r,h=>by
  obtain ⟨h1,h2,h3,h4⟩:=h
  have il:=Zjx k h1
  have ir:=Zjx k h2
  have e:Zn (.node l p r)=max (Zn l) (Zn r)+1:=rfl
  have gl:=Zad l
  have gr:=Zad r
  unfold delT
  split
  ·have:=Zku (p:=p) il.1 h2 h3 h4 il.2.1 il.2.2
   exact ⟨this.1,ow,ow⟩
  ·split
   ·have:=Zkx (p:=p) h1 ir.1 h3 h4 ir.2.1 ir.2.2
    exact ⟨this.1,ow,ow⟩
   ·have e1:Zn Zae.nil=0:=rfl
    split
    ·exact ⟨h2,ow,ow⟩
    ·split
     ·exact ⟨h1,ow,ow⟩
     ·rename_i ra rb rc
      have fb:=Zil h2
      have:=Zkx (p:=(Zb5 (.node ra rb rc)).1) h1 fb.1 h3 h4 fb.2.1 fb.2.2
      exact ⟨this.1,ow,ow⟩
theorem ZrH (k:Int) (l m:List ZD):delP (l++m) k=delP l k++delP m k:=by unfold delP;rw [Y5]
theorem Zfv {k:Int} {l:List ZD} (h:∀ p ∈ l,p.key≠k):delP l k=l:=by
 unfold delP
 rw [Yba]
 intro p hp
 simpa using h p hp
theorem Zgc {k:Int} {x:ZD} {l:List ZD} (h:x.key≠k):delP (x :: l) k=x :: delP l k:=by
 unfold delP
 rw [Yac W4]
theorem Zlf {k:Int} {x:ZD} {l:List ZD} (h:x.key=k):delP (x :: l) k=delP l k:=by
 unfold delP
 rw [Yad W4]
theorem ZeN (k:Int):∀ {t:Zae},Inc (tList t)→tList (delT k t)=delP (tList t) k
 | .nil,_=>rfl
 | .node l p r,h=>by
  obtain ⟨h1,h2,h3,h4⟩:=Inc.parts h
  have il:=ZeN k h1
  have ir:=ZeN k h2
  show _=delP (tList l++p :: tList r) k
  rw [ZrH]
  unfold delT
  split
  ·rename_i hk
   rw [ZbW,il,Zgc ow,Zfv (l:=tList r) fun x hx=>by have:=h4 x hx;omega]
  ·split
   ·rename_i hk
    rw [ZbW,ir,Zgc ow,Zfv (l:=tList l) fun x hx=>by have:=h3 x hx;omega]
   ·have e:p.key=k:=ow
    rw [Zlf e,Zfv (l:=tList l) fun x hx=>by have:=h3 x hx;omega,Zfv (l:=tList r) fun x hx=>by have:=h4 x hx;omega]
    split
    ·rfl
    ·split
     ·simp [tList]
     ·rename_i a b c
      rw [ZbW,← Zdl (t:=.node _ _ _) W5]
def ZbQ (kf:Int→Int) (room:Int) (q:List Cell) (why k:Int):Zae→Int→St
 | .nil,_=>(q,why,0)
 | .node l _ r,i=>
  if k<(getC q i).key then ZaS kf room (ZbQ kf room q why k l (getC q i).left).1 (ZbQ kf room q why k l (getC q i).left).2.1 (ZbQ kf room q why k l (getC q i).left).2.2 (getC q i).right (ZI kf (getC q i))
  else if (getC q i).key<k then ZaS kf room (ZbQ kf room q why k r (getC q i).right).1 (ZbQ kf room q why k r (getC q i).right).2.1 (getC q i).left (ZbQ kf room q why k r (getC q i).right).2.2 (ZI kf (getC q i))
  else if (getC q i).left=0 then (q,why,(getC q i).right)
  else if (getC q i).right=0 then (q,why,(getC q i).left)
  else ZaS kf room (Z7 kf room q why r (getC q i).right).2.1 (Z7 kf room q why r (getC q i).right).2.2.1 (getC q i).left (Z7 kf room q why r (getC q i).right).2.2.2 (Z7 kf room q why r (getC q i).right).1
theorem ZeX {k:Int} : ∀ {t:Zae},Zla k t→ZB (delT k t)=ZB t - 1
 | .nil,h=>h.elim
 | .node l p r,h=>by
  have e:ZB (.node l p r)=ZB l+ZB r+1:=rfl
  unfold Zla at h
  unfold delT
  split
  ·rename_i hk
   rw [Yg hk] at h
   rw [ZcW,ZeX h];omega
  ·rename_i hk
   rw [Yb hk] at h
   split
   ·rename_i hk2
    rw [Yg hk2] at h
    rw [ZcW,ZeX h];omega
   ·split
    ·have:ZB Zae.nil=0:=rfl
     omega
    ·split
     ·have:ZB Zae.nil=0:=rfl
      omega
     ·rw [ZcW,ZeA W5];omega
theorem ZhW {kf:Int→Int} {room:Int} {q:List Cell} {k:Int} : ∀ {t:Zae} {i:Int},Rep kf q t i→Zla k t→ZB t≤1000000→(∀ p ∈ tList t,kf p.key=p.key)→Zd9 kf room q 0 (3*(Zn t+1)) (ZbQ kf room q 0 k t i) (delT k t)
 | .nil,i,h,hn,hs,_=>hn.elim
 | .node l x r,i,h,hn,hs,hkf=>by
  have hk:=h.pair
  obtain ⟨h1,h2,h3,h4,h5,h6,_⟩:=h
  have e:ZB (.node l x r)=ZB l+ZB r+1:=rfl
  have e2:Zn (.node l x r)=max (Zn l) (Zn r)+1:=rfl
  have sl:=ZQ l
  have sr:=ZQ r
  have gl:=Zad l
  have gr:=Zad r
  have kl:∀ p ∈ tList l,kf p.key=p.key:=fun p hp=>hkf p (by simp [tList,hp])
  have kr:∀ p ∈ tList r,kf p.key=p.key:=fun p hp=>hkf p (by simp [tList,hp])
  unfold Zla at hn
  unfold ZbQ delT
  rw [h4,hk]
  split
  ·rename_i hc
   rw [Yg hc] at hn
   have:=ZeX hn
   refine (Zd9.bind (lo':=1) (m:=3) (ZhW h2 hn ow kl) ow (fun e' e1 e3 e4=>?_) fun hw=>Zdb hw).weak ow ow
   rw [e3]
   exact Zct e4 WB h5 ow
  ·rename_i hc
   rw [Yb hc] at hn
   split
   ·rename_i hc2
    rw [Yg hc2] at hn
    have:=ZeX hn
    refine (Zd9.bind (lo':=1) (m:=3) (ZhW h3 hn ow kr) ow (fun e' e1 e3 e4=>?_) fun hw=>Zdb hw).weak ow ow
    rw [e3]
    exact Zct WC e4 h5 ow
   ·match l,h2 with
    | .nil,h2=>
     rw [Yg (show (getC q i).left=0 from h2)]
     exact ⟨[],(YF q).symm,by simp only [Yn];omega,.inl ⟨rfl,h3,by simp⟩⟩
    | .node la lb lc,h2=>
     have hz:(getC q i).left≠0:=fun hz=>by rw [hz] at h2;exact absurd h2.zero W5
     rw [Yb hz]
     match r,h3 with
     | .nil,h3=>
      rw [Yg (show (getC q i).right=0 from h3)]
      exact ⟨[],(YF q).symm,by simp only [Yn];omega,.inl ⟨rfl,h2,by simp⟩⟩
     | .node ra rb rc,h3=>
      have hz:(getC q i).right≠0:=fun hz=>by rw [hz] at h3;exact absurd h3.zero W5
      rw [Yb hz]
      have fg:=ZgY (room:=room) h3 W5 ow
      have fs:=ZeA (t:=.node ra rb rc) W5
      have fl:=Zdl (t:=.node ra rb rc) W5
      refine (Zd9.bind (lo':=1) (m:=3) fg.2 ow (fun e' e1 e3 e4=>?_) fun hw=>Zdb hw).weak ow ow
      rw [e3,fg.1]
      exact Zct WC e4 (kr _ (by rw [fl];simp)) ow
theorem ZtZ (b:Nat) (o:Option Nat) (root why room:Int) (q:List Cell) (p:ZD) (t:Zae) (ih:∀ t',ZB t' < ZB t → ∀ i,Rep id q t' i→FnG prog 185 1 [.is (.pointer (some ⟨b,0,none⟩)),.int .i64 i,.agg (Zt p)] [ZaE 242 (.pointer (some ⟨b,0,none⟩)) o root why room q] (.int .i64 (Zcc id room q why p t' i).2.2) (fun _=>[ZaE 242 (.pointer (some ⟨b,0,none⟩)) o root (Zcc id room q why p t' i).2.1 room (Zcc id room q why p t' i).1])) (i:Int) (hr:Rep id q t i):FnG prog 185 1 [.is (.pointer (some ⟨b,0,none⟩)),.int .i64 i,.agg (Zt p)] [ZaE 242 (.pointer (some ⟨b,0,none⟩)) o root why room q] (.int .i64 (Zcc id room q why p t i).2.2) (fun _=>[ZaE 242 (.pointer (some ⟨b,0,none⟩)) o root (Zcc id room q why p t i).2.1 room (Zcc id room q why p t i).1]):=by
 refine FnG.mk func185 Z ntmps185 Z kr fun B F0 a w F V hG O=>?_
 obtain ⟨F,O⟩:=O.peel 1 4 Z rfl
 obtain ⟨F,O⟩:=O.peel 1 5 Z rfl
 obtain ⟨F,O⟩:=O.nM Jq Jm
 refine Ya (rS O (qx 101 r1 (qI qZ)) V [6,5,1,0] Jd fun τ O=>?_)
 have O:=XH
 generalize τ 5=v5 at O
 refine Za (Ya (rS O (qR rr (qf (o_nilCheck 4 .is Wd) r1 r1 (qf (oF 0 4 .adr) r1 r1 (qf (oL true 2 4 .adr) r1 r1 (qR rr (qf (o_callG1 5 (ZbJ o room q root i) func107 Z kr (Args.two (.pagg .t) .t)) r2 r1 (qf (oH [.int .i64 0,.int .i64 0,.int .i64 0,.int .i64 0,.int .i64 0,.int .i64 0] 102) trivial qz (qf (oA 6 102 .same (.conv .t .agg)) r2 r1 qZ)))))))) V [7,6,5,1,0] JO fun τ O=>?_))
 have O:=Xm
 generalize τ 7=v7 at O
 refine Za (Ya (Ye (Ya (rZ O (qR rr (qf (o_eql .t qi) r1 qz (qO rr qZ))) V [14,7,6,5,0] JO fun O=>?_))))
 refine Zb O Z (fun hc0=>?_) (fun hc0=>?_)
 ·have hi0:i=0:=Wz
  have ht:t = .nil:=by rw [hi0] at hr;exact hr.zero
  have hg:(Zcc id room q why p t i)=(madeS room q why 0 0 p):=by rw [ht];rfl
  refine Ya ?_
  have O:=O.fresh 1 rfl
  obtain ⟨F,O⟩:=O.push 1 5 Z Z Z kr
  obtain ⟨F,O⟩:=O.push 1 4 Z Z Z kr
  have O:=O.turn 1 Z (r':=RS.hp (ZaE 242 (.pointer (some ⟨b,0,none⟩)) o root why room q)) (fun _ _ _ _ h=>h)
  obtain ⟨F,O⟩:=O.nM [14,7,6,5,0] QP
  refine rZ O (qR rr (qe 2 101 r1 r1 (qf (o_callG1 1 (ZbP b o root why room q 0 0 p) func249 Z kr (Args.four .t qi qi (.pagg .t))) r2 r1 (qO rr qZ)))) V [7,6,5,0] QP fun O=>(Yh (Zl (Zd ?_)))
  have O:=O.turn 1 Z (r':=RS.hp (ZaE 242 (.pointer (some ⟨b,0,none⟩)) o root (Zcc id room q why p t i).2.1 room (Zcc id room q why p t i).1)) (fun _ _ _ _ h=>by rw [hg];exact h)
  refine Zz hG O Z (.tmp Z .nil) (.one (.int WA)) rfl
 have hi0:i≠0:=Wz
 obtain ⟨l,x,r,ht⟩:=hr.node hi0
 have hn:Rep id q (.node l x r) i:=by rw [← ht];exact hr
 have hkx:=hn.2.2.2.1
 refine Ya (rZ O (qg 0 101 r1 r1 (qa 101 r1 r1 (qg 2 102 r1 r1 (qa 102 r1 r1 (qf (ZaR .t .t) r2 qz (qO rr qZ)))))) V [20,7,6,5,0] JO fun O=>?_)
 refine Zb O Z (fun hc1=>?_) (fun hc1=>?_)
 ·have h1:(p.key<(getC q i).key):=KZ
  have hg:(Zcc id room q why p t i)=(ZaS id room (Zcc id room q why p l ((getC q i).left)).1 (Zcc id room q why p l ((getC q i).left)).2.1 (Zcc id room q why p l ((getC q i).left)).2.2 (getC q i).right (ZI id (getC q i))):=by rw [ht]; (conv=>lhs;unfold Zcc);rw [Yg h1] <;> rfl
  refine Ya ?_
  have O:=O.fresh 1 rfl
  obtain ⟨F,O⟩:=O.push 1 5 Z Z Z kr
  obtain ⟨F,O⟩:=O.push 1 4 Z Z Z kr
  have O:=O.turn 1 Z (r':=RS.hp (ZaE 242 (.pointer (some ⟨b,0,none⟩)) o root why room q)) (fun _ _ _ _ h=>h)
  obtain ⟨F,O⟩:=O.nM [20,7,6,5,0] QP
  refine Zr O (qR rr (qR rr (qg 0 102 r1 r1 (qa 102 r1 r1 (qe 2 101 r1 r1 (qf (o_callG1 1 (ih l (by rw [ht];exact ZlB) (getC q i).left hn.2.1) func185 Z kr (Args.three .t .t (.pagg .t))) r3 r1 (qg 1 102 r1 r1 (qa 102 r1 r1 (qe 6 102 r1 r1 (qf (oP (Zdu (getC q i)) func247 (Args.one (.pagg .t))) r1 qz (qf (o_callG1 1 (ZfU b o root (Zcc id room q why p l ((getC q i).left)).2.1 room (Zcc id room q why p l ((getC q i).left)).1 (Zcc id room q why p l ((getC q i).left)).2.2 (getC q i).right (ZI id (getC q i))) func246 Z kr (Args.four .t .t .t .t)) r4 r1 (qO rr qZ)))))))))))) V [7,6,5,0] QP Z Z fun a w F O=>?_
  have O:=XJ
  refine Za (Yh (Zl (Zd ?_)))
  have O:=O.turn 1 Z (r':=RS.hp (ZaE 242 (.pointer (some ⟨b,0,none⟩)) o root (Zcc id room q why p t i).2.1 room (Zcc id room q why p t i).1)) (fun _ _ _ _ h=>by rw [hg];exact h)
  refine Zz hG O Z (.tmp Z .nil) (.one (.int WA)) rfl
 have h1:¬ (p.key<(getC q i).key):=KZ
 refine Ya (rZ O (qg 0 101 r1 r1 (qa 101 r1 r1 (qg 2 102 r1 r1 (qa 102 r1 r1 (qf (o_gtr .t .t) r2 qz (qO rr qZ)))))) V [37,7,6,5,0] JO fun O=>?_)
 refine Zb O Z (fun hc2=>?_) (fun hc2=>?_)
 ·have h2:((getC q i).key<p.key):=Qf
  have hg:(Zcc id room q why p t i)=(ZaS id room (Zcc id room q why p r ((getC q i).right)).1 (Zcc id room q why p r ((getC q i).right)).2.1 (getC q i).left (Zcc id room q why p r ((getC q i).right)).2.2 (ZI id (getC q i))):=by rw [ht]; (conv=>lhs;unfold Zcc);rw [Yb h1,Yg h2] <;> rfl
  refine Ya ?_
  have O:=O.fresh 1 rfl
  obtain ⟨F,O⟩:=O.push 1 5 Z Z Z kr
  obtain ⟨F,O⟩:=O.push 1 4 Z Z Z kr
  have O:=O.turn 1 Z (r':=RS.hp (ZaE 242 (.pointer (some ⟨b,0,none⟩)) o root why room q)) (fun _ _ _ _ h=>h)
  obtain ⟨F,O⟩:=O.nM [37,7,6,5,0] QP
  refine Zr O (qR rr (qg 0 102 r1 r1 (qa 102 r1 r1 (qR rr (qg 1 102 r1 r1 (qa 102 r1 r1 (qe 2 101 r1 r1 (qf (o_callG1 1 (ih r (by rw [ht];exact ZpD) (getC q i).right hn.2.2.1) func185 Z kr (Args.three .t .t (.pagg .t))) r3 r1 (qe 6 102 r1 r1 (qf (oP (Zdu (getC q i)) func247 (Args.one (.pagg .t))) r1 qz (qf (o_callG1 1 (ZfU b o root (Zcc id room q why p r ((getC q i).right)).2.1 room (Zcc id room q why p r ((getC q i).right)).1 (getC q i).left (Zcc id room q why p r ((getC q i).right)).2.2 (ZI id (getC q i))) func246 Z kr (Args.four .t .t .t .t)) r4 r1 (qO rr qZ)))))))))))) V [7,6,5,0] QP Z Z fun a w F O=>?_
  have O:=XJ
  refine Za (Yh (Zl (Zd ?_)))
  have O:=O.turn 1 Z (r':=RS.hp (ZaE 242 (.pointer (some ⟨b,0,none⟩)) o root (Zcc id room q why p t i).2.1 room (Zcc id room q why p t i).1)) (fun _ _ _ _ h=>by rw [hg];exact h)
  refine Zz hG O Z (.tmp Z .nil) (.one (.int WA)) rfl
 have h2:¬ ((getC q i).key<p.key):=Qf
 have hg:(Zcc id room q why p t i)=(madeS room q why (getC q i).left (getC q i).right p):=by rw [ht]; (conv=>lhs;unfold Zcc);rw [Yb h1,Yb h2] <;> rfl
 refine Yd (Zf (Za (Ya ?_)))
 have O:=O.fresh 1 rfl
 obtain ⟨F,O⟩:=O.push 1 5 Z Z Z kr
 obtain ⟨F,O⟩:=O.push 1 4 Z Z Z kr
 have O:=O.turn 1 Z (r':=RS.hp (ZaE 242 (.pointer (some ⟨b,0,none⟩)) o root why room q)) (fun _ _ _ _ h=>h)
 obtain ⟨F,O⟩:=O.nM [37,7,6,5,0] QP
 refine rZ O (qR rr (qg 0 102 r1 r1 (qa 102 r1 r1 (qg 1 102 r1 r1 (qa 102 r1 r1 (qe 2 101 r1 r1 (qf (o_callG1 1 (ZbP b o root why room q (getC q i).left (getC q i).right p) func249 Z kr (Args.four .t .t .t (.pagg .t))) r4 r1 (qO rr qZ)))))))) V [6] QL fun O=>Yh ?_
 have O:=O.turn 1 Z (r':=RS.hp (ZaE 242 (.pointer (some ⟨b,0,none⟩)) o root (Zcc id room q why p t i).2.1 room (Zcc id room q why p t i).1)) (fun _ _ _ _ h=>by rw [hg];exact h)
 refine Zz hG O Z (.tmp Z .nil) (.one (.int WA)) rfl
theorem Zuj (b:Nat) (o:Option Nat) (root why room:Int) (q:List Cell) (p:ZD) (t:Zae) (i:Int) (hr:Rep id q t i):FnG prog 185 1 [.is (.pointer (some ⟨b,0,none⟩)),.int .i64 i,.agg (Zt p)] [ZaE 242 (.pointer (some ⟨b,0,none⟩)) o root why room q] (.int .i64 (Zcc id room q why p t i).2.2) (fun _=>[ZaE 242 (.pointer (some ⟨b,0,none⟩)) o root (Zcc id room q why p t i).2.1 room (Zcc id room q why p t i).1]):=ZuN (P:=fun t=>∀ i,Rep id q t i→FnG prog 185 1 [.is (.pointer (some ⟨b,0,none⟩)),.int .i64 i,.agg (Zt p)] [ZaE 242 (.pointer (some ⟨b,0,none⟩)) o root why room q] (.int .i64 (Zcc id room q why p t i).2.2) (fun _=>[ZaE 242 (.pointer (some ⟨b,0,none⟩)) o root (Zcc id room q why p t i).2.1 room (Zcc id room q why p t i).1])) (fun t ih i hr=>ZtZ b o root why room q p t ih i hr) t i hr
theorem Zrq (b:Nat) (o:Option Nat) (root why room:Int) (q:List Cell) (t:Zae) (ih:∀ t',ZB t' < ZB t → ∀ i,Rep id q t' i→FnG prog 248 1 [.is (.pointer (some ⟨b,0,none⟩)),.int .i64 i] [ZaE 242 (.pointer (some ⟨b,0,none⟩)) o root why room q] (.tup [.agg (Zt (Z7 id room q why t' i).1),.int .i64 (Z7 id room q why t' i).2.2.2]) (fun _=>[ZaE 242 (.pointer (some ⟨b,0,none⟩)) o root (Z7 id room q why t' i).2.2.1 room (Z7 id room q why t' i).2.1])) (i:Int) (hr:Rep id q t i):FnG prog 248 1 [.is (.pointer (some ⟨b,0,none⟩)),.int .i64 i] [ZaE 242 (.pointer (some ⟨b,0,none⟩)) o root why room q] (.tup [.agg (Zt (Z7 id room q why t i).1),.int .i64 (Z7 id room q why t i).2.2.2]) (fun _=>[ZaE 242 (.pointer (some ⟨b,0,none⟩)) o root (Z7 id room q why t i).2.2.1 room (Z7 id room q why t i).2.1]):=by
 refine FnG.mk func248 Z ntmps248 Z kr fun B F0 a w F V hG O=>?_
 obtain ⟨F,O⟩:=O.peel 1 4 Z rfl
 obtain ⟨F,O⟩:=O.peel 1 5 Z rfl
 obtain ⟨F,O⟩:=O.nM QL Jm
 refine Ya (rS O (qf (oH [.int .i64 0,.int .i64 0] 101) trivial qz (qI qZ)) V J6 Jd fun τ O=>?_)
 have O:=XH
 generalize τ 4=v4 at O
 refine Za (Ya (rS O (qR rr (qf (o_nilCheck 4 .is Wd) r1 r1 (qf (oF 0 4 .adr) r1 r1 (qf (oL true 2 4 .adr) r1 r1 (qR rr (qf (o_callG1 5 (ZbJ o room q root i) func107 Z kr (Args.two (.pagg .t) .t)) r2 r1 (qf (oH [.int .i64 0,.int .i64 0,.int .i64 0,.int .i64 0,.int .i64 0,.int .i64 0] 102) trivial qz (qf (oA 6 102 .same (.conv .t .agg)) r2 r1 qZ)))))))) V Xa7 JO fun τ O=>?_))
 have O:=Xm
 generalize τ 6=v6 at O
 refine Za (Ya (Ya (rZ O (qg 0 102 r1 r1 (qa 102 r1 r1 (qf (o_eql .t qi) r1 qz qZ))) V [17,6,5,4,0] JO fun O=>?_)))
 refine Zb O Z (fun hc0=>?_) (fun hc0=>?_)
 ·have hz:(getC q i).left=0:=Wz
  have hg:(Z7 id room q why t i)=(ZI id (getC q i),q,why,(getC q i).right):=by cases t with | nil=>rfl | node l x r=>exact Yg hz
  refine Ya (Zr O (qe 6 102 r1 r1 (qf (oP (Zdu (getC q i)) func247 (Args.one (.pagg .t))) r1 qz (qg 1 102 r1 r1 (qa 102 r1 r1 (qf (oA 2 101 .is (.conv .t .agg)) r2 r1 (qO rr qZ)))))) V Xa7 JO Z Z fun a w F O=>?_)
  have O:=XT
  refine Za (Yh (Zd ?_))
  have O:=O.fresh 1 rfl
  obtain ⟨F,O⟩:=O.push 1 5 Z Z Z kr
  obtain ⟨F,O⟩:=O.push 1 4 Z Z Z kr
  have O:=O.turn 1 Z (r':=RS.hp (ZaE 242 (.pointer (some ⟨b,0,none⟩)) o root (Z7 id room q why t i).2.2.1 room (Z7 id room q why t i).2.1)) (fun _ _ _ _ h=>by rw [hg];exact h)
  refine Zz hG O Z (.cl 101 true 2 Z Z (.tmp Z .nil)) (.two (.aggU Z Wp) (.int WA)) rfl
 have hz:¬ (getC q i).left=0:=Wz
 obtain ⟨l,x,r,ht⟩:=hr.node (fun h=>hz (by rw [h,Zhk];rfl))
 have hn:Rep id q (.node l x r) i:=by rw [← ht];exact hr
 have hkx:=hn.2.2.2.1
 have hg:(Z7 id room q why t i)=((Z7 id room q why l (getC q i).left).1,ZaS id room (Z7 id room q why l (getC q i).left).2.1 (Z7 id room q why l (getC q i).left).2.2.1 (Z7 id room q why l (getC q i).left).2.2.2 (getC q i).right (ZI id (getC q i))):=by rw [ht];exact Yb hz
 refine Yd (Za (Ya ?_))
 have O:=O.fresh 1 rfl
 obtain ⟨F,O⟩:=O.push 1 5 Z Z Z kr
 obtain ⟨F,O⟩:=O.push 1 4 Z Z Z kr
 have O:=O.turn 1 Z (r':=RS.hp (ZaE 242 (.pointer (some ⟨b,0,none⟩)) o root why room q)) (fun _ _ _ _ h=>h)
 obtain ⟨F,O⟩:=O.nM [17,6,5,4,0] QP
 refine rS O (qR rr (qg 0 102 r1 r1 (qa 102 r1 r1 (qf (o_callG1 1 (ih l (by rw [ht];exact ZlB) (getC q i).left hn.2.1) func248 Z kr (Args.two .t .t)) r2 r1 (qR rr (qf (o_extract .t Z) r1 qz (qf (o_extract .t Z) r1 qz (qf (oH [.int .i64 0,.int .i64 0] 103) trivial qz (qf (oA 2 103 .same (.conv .t .agg)) r2 r1 (qO rr qZ)))))))))) V [8,7,6,5,4,0] QZ fun τ O=>?_
 have O:=Xm
 generalize τ 7=v7 at O
 refine Za (Ya (Zr O (qe 2 103 r1 r1 (qR rr (qR rr (qg 1 102 r1 r1 (qa 102 r1 r1 (qe 6 102 r1 r1 (qf (oP (Zdu (getC q i)) func247 (Args.one (.pagg .t))) r1 qz (qf (o_callG1 1 (ZfU b o root (Z7 id room q why l (getC q i).left).2.2.1 room (Z7 id room q why l (getC q i).left).2.1 (Z7 id room q why l (getC q i).left).2.2.2 (getC q i).right (ZI id (getC q i))) func246 Z kr (Args.four .t .t .t .t)) r4 r1 (qs 2 101 r2 r1 (qO rr qZ)))))))))) V Jf QW Z Z fun a w F O=>?_))
 have O:=XT
 refine Za (Yh ?_)
 have O:=O.turn 1 Z (r':=RS.hp (ZaE 242 (.pointer (some ⟨b,0,none⟩)) o root (Z7 id room q why t i).2.2.1 room (Z7 id room q why t i).2.1)) (fun _ _ _ _ h=>by rw [hg];exact h)
 refine Zz hG O Z (.cl 101 true 2 Z Z (.tmp Z .nil)) (.two (.aggU Z Wp) (.int WA)) rfl
theorem Zq8 (b:Nat) (o:Option Nat) (root why room:Int) (q:List Cell) (t:Zae) (i:Int) (hr:Rep id q t i):FnG prog 248 1 [.is (.pointer (some ⟨b,0,none⟩)),.int .i64 i] [ZaE 242 (.pointer (some ⟨b,0,none⟩)) o root why room q] (.tup [.agg (Zt (Z7 id room q why t i).1),.int .i64 (Z7 id room q why t i).2.2.2]) (fun _=>[ZaE 242 (.pointer (some ⟨b,0,none⟩)) o root (Z7 id room q why t i).2.2.1 room (Z7 id room q why t i).2.1]):=ZuN (P:=fun t=>∀ i,Rep id q t i→FnG prog 248 1 [.is (.pointer (some ⟨b,0,none⟩)),.int .i64 i] [ZaE 242 (.pointer (some ⟨b,0,none⟩)) o root why room q] (.tup [.agg (Zt (Z7 id room q why t i).1),.int .i64 (Z7 id room q why t i).2.2.2]) (fun _=>[ZaE 242 (.pointer (some ⟨b,0,none⟩)) o root (Z7 id room q why t i).2.2.1 room (Z7 id room q why t i).2.1])) (fun t ih i hr=>Zrq b o root why room q t ih i hr) t i hr
theorem ZtY (b:Nat) (o:Option Nat) (root why room:Int) (q:List Cell) (k:Int) (t:Zae) (ih:∀ t',ZB t' < ZB t → ∀ i,Rep id q t' i→Zla k t' → FnG prog 184 1 [.is (.pointer (some ⟨b,0,none⟩)),.int .i64 i,.int .i64 k] [ZaE 242 (.pointer (some ⟨b,0,none⟩)) o root why room q] (.int .i64 (ZbQ id room q why k t' i).2.2) (fun _=>[ZaE 242 (.pointer (some ⟨b,0,none⟩)) o root (ZbQ id room q why k t' i).2.1 room (ZbQ id room q why k t' i).1])) (i:Int) (hr:Rep id q t i) (hh:Zla k t):FnG prog 184 1 [.is (.pointer (some ⟨b,0,none⟩)),.int .i64 i,.int .i64 k] [ZaE 242 (.pointer (some ⟨b,0,none⟩)) o root why room q] (.int .i64 (ZbQ id room q why k t i).2.2) (fun _=>[ZaE 242 (.pointer (some ⟨b,0,none⟩)) o root (ZbQ id room q why k t i).2.1 room (ZbQ id room q why k t i).1]):=by
 refine FnG.mk func184 Z ntmps184 Z kr fun B F0 a w F V hG O=>?_
 obtain ⟨l,x,r,ht⟩:∃ l x r,t = .node l x r:=by cases t with | nil=>exact hh.elim | node l x r=>exact ⟨l,x,r,rfl⟩
 have hn:Rep id q (.node l x r) i:=by rw [← ht];exact hr
 have hkx:=hn.2.2.2.1
 obtain ⟨F,O⟩:=O.peel 1 4 Z rfl
 obtain ⟨F,O⟩:=O.peel 1 5 Z rfl
 obtain ⟨F,O⟩:=O.nM Jq Jm
 refine Ya (rZ O (qI qZ) V JG Jm fun O=>Ya ?_)
 refine rS O (qR rr (qf (o_nilCheck 4 .is Wd) r1 r1 (qf (oF 0 4 .adr) r1 r1 (qf (oL true 2 4 .adr) r1 r1 (qR rr (qf (o_callG1 5 (ZbJ o room q root i) func107 Z kr (Args.two (.pagg .t) .t)) r2 r1 (qf (oH [.int .i64 0,.int .i64 0,.int .i64 0,.int .i64 0,.int .i64 0,.int .i64 0] 101) trivial qz (qf (oA 6 101 .same (.conv .t .agg)) r2 r1 qZ)))))))) V [7,6,2,0] Jd fun τ O=>?_
 have O:=Xm
 generalize τ 7=v7 at O
 refine Za (Ya (Ye (Ya (rZ O (qR rr (qg 2 101 r1 r1 (qa 101 r1 r1 (qf (ZaR .t .t) r2 qz (qO rr qZ))))) V [16,7,6,2,0] Jd fun O=>?_))))
 refine Zb O Z (fun hc0=>?_) (fun hc0=>?_)
 ·have h1:(k<(getC q i).key):=Qe
  have h9:Zla k l:=by rw [ht] at hh;unfold Zla at hh;rwa [Yg ow] at hh
  have hg:(ZbQ id room q why k t i)=(ZaS id room (ZbQ id room q why k l (getC q i).left).1 (ZbQ id room q why k l (getC q i).left).2.1 (ZbQ id room q why k l (getC q i).left).2.2 (getC q i).right (ZI id (getC q i))):=by rw [ht]; (conv=>lhs;unfold ZbQ);rw [Yg h1] <;> rfl
  refine Ya ?_
  have O:=O.fresh 1 rfl
  obtain ⟨F,O⟩:=O.push 1 5 Z Z Z kr
  obtain ⟨F,O⟩:=O.push 1 4 Z Z Z kr
  have O:=O.turn 1 Z (r':=RS.hp (ZaE 242 (.pointer (some ⟨b,0,none⟩)) o root why room q)) (fun _ _ _ _ h=>h)
  obtain ⟨F,O⟩:=O.nM [16,7,6,2,0] QW
  refine Zr O (qR rr (qR rr (qg 0 101 r1 r1 (qa 101 r1 r1 (qR rr (qf (o_callG1 1 (ih l (by rw [ht];exact ZlB) (getC q i).left hn.2.1 h9) func184 Z kr (Args.three .t .t .t)) r3 r1 (qg 1 101 r1 r1 (qa 101 r1 r1 (qe 6 101 r1 r1 (qf (oP (Zdu (getC q i)) func247 (Args.one (.pagg .t))) r1 qz (qf (o_callG1 1 (ZfU b o root (ZbQ id room q why k l (getC q i).left).2.1 room (ZbQ id room q why k l (getC q i).left).1 (ZbQ id room q why k l (getC q i).left).2.2 (getC q i).right (ZI id (getC q i))) func246 Z kr (Args.four .t .t .t .t)) r4 r1 (qO rr qZ)))))))))))) V [7,6,0] QW Z Z fun a w F O=>?_
  have O:=XJ
  refine Za (Yh (Zl (Zd ?_)))
  have O:=O.turn 1 Z (r':=RS.hp (ZaE 242 (.pointer (some ⟨b,0,none⟩)) o root (ZbQ id room q why k t i).2.1 room (ZbQ id room q why k t i).1)) (fun _ _ _ _ h=>by rw [hg];exact h)
  refine Zz hG O Z (.tmp Z .nil) (.one (.int WA)) rfl
 have h1:¬ (k<(getC q i).key):=Qe
 refine Ya (rZ O (qR rr (qg 2 101 r1 r1 (qa 101 r1 r1 (qf (o_gtr .t .t) r2 qz (qO rr qZ))))) V [32,7,6,2,0] Jd fun O=>?_)
 refine Zb O Z (fun hc1=>?_) (fun hc1=>?_)
 ·have h2:((getC q i).key<k):=KZ
  have h9:Zla k r:=by rw [ht] at hh;unfold Zla at hh;rwa [Yb ow,Yg ow] at hh
  have hg:(ZbQ id room q why k t i)=(ZaS id room (ZbQ id room q why k r (getC q i).right).1 (ZbQ id room q why k r (getC q i).right).2.1 (getC q i).left (ZbQ id room q why k r (getC q i).right).2.2 (ZI id (getC q i))):=by rw [ht]; (conv=>lhs;unfold ZbQ);rw [Yb h1,Yg h2] <;> rfl
  refine Ya ?_
  have O:=O.fresh 1 rfl
  obtain ⟨F,O⟩:=O.push 1 5 Z Z Z kr
  obtain ⟨F,O⟩:=O.push 1 4 Z Z Z kr
  have O:=O.turn 1 Z (r':=RS.hp (ZaE 242 (.pointer (some ⟨b,0,none⟩)) o root why room q)) (fun _ _ _ _ h=>h)
  obtain ⟨F,O⟩:=O.nM [32,7,6,2,0] QW
  refine Zr O (qR rr (qg 0 101 r1 r1 (qa 101 r1 r1 (qR rr (qg 1 101 r1 r1 (qa 101 r1 r1 (qR rr (qf (o_callG1 1 (ih r (by rw [ht];exact ZpD) (getC q i).right hn.2.2.1 h9) func184 Z kr (Args.three .t .t .t)) r3 r1 (qe 6 101 r1 r1 (qf (oP (Zdu (getC q i)) func247 (Args.one (.pagg .t))) r1 qz (qf (o_callG1 1 (ZfU b o root (ZbQ id room q why k r (getC q i).right).2.1 room (ZbQ id room q why k r (getC q i).right).1 (getC q i).left (ZbQ id room q why k r (getC q i).right).2.2 (ZI id (getC q i))) func246 Z kr (Args.four .t .t .t .t)) r4 r1 (qO rr qZ)))))))))))) V [7,6,0] QW Z Z fun a w F O=>?_
  have O:=XJ
  refine Za (Yh (Zl (Zd ?_)))
  have O:=O.turn 1 Z (r':=RS.hp (ZaE 242 (.pointer (some ⟨b,0,none⟩)) o root (ZbQ id room q why k t i).2.1 room (ZbQ id room q why k t i).1)) (fun _ _ _ _ h=>by rw [hg];exact h)
  refine Zz hG O Z (.tmp Z .nil) (.one (.int WA)) rfl
 have h2:¬ ((getC q i).key<k):=KZ
 refine Ya (rZ O (qg 0 101 r1 r1 (qa 101 r1 r1 (qf (o_eql .t qi) r1 qz (qO rr qZ)))) V [48,7,6,0] Jd fun O=>?_)
 refine Zb O Z (fun hc2=>?_) (fun hc2=>?_)
 ·have hz:(getC q i).left=0:=WD
  have hg:(ZbQ id room q why k t i)=(q,why,(getC q i).right):=by rw [ht]; (conv=>lhs;unfold ZbQ);rw [Yb h1,Yb h2,Yg hz] <;> rfl
  refine Ya (rZ O (qg 1 101 r1 r1 (qa 101 r1 r1 (qO rr qZ))) V [7,6,0] Jd fun O=>(Yh (Zl (Zd ?_))))
  have O:=O.fresh 1 rfl
  obtain ⟨F,O⟩:=O.push 1 5 Z Z Z kr
  obtain ⟨F,O⟩:=O.push 1 4 Z Z Z kr
  have O:=O.turn 1 Z (r':=RS.hp (ZaE 242 (.pointer (some ⟨b,0,none⟩)) o root (ZbQ id room q why k t i).2.1 room (ZbQ id room q why k t i).1)) (fun _ _ _ _ h=>by rw [hg];exact h)
  refine Zz hG O Z (.tmp Z .nil) (.one (.int WA)) rfl
 have hz:¬ (getC q i).left=0:=WD
 refine Ya (rZ O (qg 1 101 r1 r1 (qa 101 r1 r1 (qf (o_eql .t qi) r1 qz (qO rr qZ)))) V [54,7,6,0] Jd fun O=>?_)
 refine Zb O Z (fun hc3=>?_) (fun hc3=>?_)
 ·have hz2:(getC q i).right=0:=WS
  have hg:(ZbQ id room q why k t i)=(q,why,(getC q i).left):=by rw [ht]; (conv=>lhs;unfold ZbQ);rw [Yb h1,Yb h2,Yb hz,Yg hz2] <;> rfl
  refine Ya (rZ O (qg 0 101 r1 r1 (qa 101 r1 r1 (qO rr qZ))) V [7,6,0] Jd fun O=>(Yh (Zl (Zd ?_))))
  have O:=O.fresh 1 rfl
  obtain ⟨F,O⟩:=O.push 1 5 Z Z Z kr
  obtain ⟨F,O⟩:=O.push 1 4 Z Z Z kr
  have O:=O.turn 1 Z (r':=RS.hp (ZaE 242 (.pointer (some ⟨b,0,none⟩)) o root (ZbQ id room q why k t i).2.1 room (ZbQ id room q why k t i).1)) (fun _ _ _ _ h=>by rw [hg];exact h)
  refine Zz hG O Z (.tmp Z .nil) (.one (.int WA)) rfl
 have hz2:¬ (getC q i).right=0:=WS
 have hg:(ZbQ id room q why k t i)=(ZaS id room (Z7 id room q why r (getC q i).right).2.1 (Z7 id room q why r (getC q i).right).2.2.1 (getC q i).left (Z7 id room q why r (getC q i).right).2.2.2 (Z7 id room q why r (getC q i).right).1):=by rw [ht]; (conv=>lhs;unfold ZbQ);rw [Yb h1,Yb h2,Yb hz,Yb hz2] <;> rfl
 refine Yd (Zf (Za (Ya ?_)))
 have O:=O.fresh 1 rfl
 obtain ⟨F,O⟩:=O.push 1 5 Z Z Z kr
 obtain ⟨F,O⟩:=O.push 1 4 Z Z Z kr
 have O:=O.turn 1 Z (r':=RS.hp (ZaE 242 (.pointer (some ⟨b,0,none⟩)) o root why room q)) (fun _ _ _ _ h=>h)
 obtain ⟨F,O⟩:=O.nM [54,7,6,0] QW
 refine rS O (qR rr (qg 1 101 r1 r1 (qa 101 r1 r1 (qf (o_callG1 1 (Zq8 b o root why room q r (getC q i).right hn.2.2.1) func248 Z kr (Args.two .t .t)) r2 r1 (qR rr (qf (o_extract .t Z) r1 qz (qf (o_extract .t Z) r1 qz (qf (oH [.int .i64 0,.int .i64 0] 102) trivial qz (qf (oA 2 102 .same (.conv .t .agg)) r2 r1 (qO rr qZ)))))))))) V [9,8,7,6,0] QP fun τ O=>?_
 have O:=Xm
 generalize τ 8=v8 at O
 refine Za (Ya (rZ O (qR rr (qg 0 101 r1 r1 (qa 101 r1 r1 (qR rr (qe 2 102 r1 r1 (qf (o_callG1 1 (ZfU b o root (Z7 id room q why r (getC q i).right).2.2.1 room (Z7 id room q why r (getC q i).right).2.1 (getC q i).left (Z7 id room q why r (getC q i).right).2.2.2 (Z7 id room q why r (getC q i).right).1) func246 Z kr (Args.four .t .t .t (.pagg .t))) r4 r1 (qO rr qZ))))))) V [6] QL fun O=>Yh ?_))
 have O:=O.turn 1 Z (r':=RS.hp (ZaE 242 (.pointer (some ⟨b,0,none⟩)) o root (ZbQ id room q why k t i).2.1 room (ZbQ id room q why k t i).1)) (fun _ _ _ _ h=>by rw [hg];exact h)
 refine Zz hG O Z (.tmp Z .nil) (.one (.int WA)) rfl
theorem ZtU (b:Nat) (o:Option Nat) (root why room:Int) (q:List Cell) (k:Int) (t:Zae) (i:Int) (hr:Rep id q t i) (hh:Zla k t):FnG prog 184 1 [.is (.pointer (some ⟨b,0,none⟩)),.int .i64 i,.int .i64 k] [ZaE 242 (.pointer (some ⟨b,0,none⟩)) o root why room q] (.int .i64 (ZbQ id room q why k t i).2.2) (fun _=>[ZaE 242 (.pointer (some ⟨b,0,none⟩)) o root (ZbQ id room q why k t i).2.1 room (ZbQ id room q why k t i).1]):=ZuN (P:=fun t=>∀ i,Rep id q t i→Zla k t→FnG prog 184 1 [.is (.pointer (some ⟨b,0,none⟩)),.int .i64 i,.int .i64 k] [ZaE 242 (.pointer (some ⟨b,0,none⟩)) o root why room q] (.int .i64 (ZbQ id room q why k t i).2.2) (fun _=>[ZaE 242 (.pointer (some ⟨b,0,none⟩)) o root (ZbQ id room q why k t i).2.1 room (ZbQ id room q why k t i).1])) (fun t ih i hr=>ZtY b o root why room q k t ih i hr) t i hr hh
def ZqQ (a b:Int):Int:=if a<b then -1 else if b<a then 1 else 0
theorem cmpI_zero {a b:Int} : ZqQ a b=0 ↔ a=b:=by unfold ZqQ;split;omega;split <;> omega
theorem cmpI_neg {a b:Int} : ZqQ a b = -1 ↔ a<b:=by unfold ZqQ;split;omega;split <;> omega
def Zco (k:Int):Zae→Int×Bool
 | .nil=>(0,false)
 | .node l p r=>if k<p.key then Zco k l else if p.key<k then Zco k r else (p.val,true)
theorem Zqj (x:Int):FnP prog 175 [.int .i64 x] (.bool false):=by
 refine FnP.mk func175 Z ntmps175 Z fun B a w F V hfr O=>Ya ?_
 refine rZ O qB V Ju [0] fun O=>Ya ?_
 refine rZ O (qR rr (qR rr (qf (o_neq .t .t) r2 qz (qO rr qZ)))) V [2] [0] fun O=>Yh ?_
 refine Zx hfr O Z Z Z (.bool W5)
theorem ZuM (x y:Int):FnP prog 108 [.int .i64 x,.int .i64 y] (.int .i64 (ZqQ x y)):=by
 refine FnP.mk func108 Z ntmps108 Z fun B a w F V hfr O=>Ya ?_
 refine rZ O (qI qZ) V J0 [0] fun O=>Ya ?_
 refine rZ O (qR rr (qf (oP (Zqj x) func175 (Args.one .t)) r1 qz (qO rr qZ))) V J6 [0] fun O=>Ya ?_
 refine rZ O (qR rr (qf (oP (Zqj y) func175 (Args.one .t)) r1 qz (qO rr qZ))) V Xa4 [0] fun O=>(Ya (Ya ?_))
 refine rZ O (qR rr qZ) V [11,6,4,1,0] [0] fun O=>?_
 refine Zb O Z (fun hc0=>?_) (fun hc0=>?_)
 ·simp at hc0
 refine Yd (Za (Ya (Ya (rZ O (qR rr qZ) V [13,4,1,0] [0] fun O=>?_))))
 refine Zb O Z (fun hc1=>?_) (fun hc1=>?_)
 ·simp at hc1
 refine Yd (Za (Ya (Ya (rZ O (qR rr (qR rr (qL r2))) V [16,4,1,0] [0] fun O=>?_))))
 refine Zb O Z (fun hc2=>?_) (fun hc2=>?_)
 ·have hg:(-1:Int)=ZqQ x y:=(cmpI_neg.2 WD).symm
  refine Ya (rZ O (qI qZ) V J0 [0] fun O=>(Yh (Zd ?_)))
  refine Zx hfr O Z Z Z (.int hg)
 have h1:¬ x<y:=WD
 refine Yd (Za (Ya (Ya (rZ O (qR rr (qR rr (qf (o_gtr .t .t) r2 qz qZ))) V [19,4] [0] fun O=>?_))))
 refine Zb O Z (fun hc3=>?_) (fun hc3=>?_)
 ·have h2:y<x:=WS
  have hg:(1:Int)=ZqQ x y:=by unfold ZqQ;rw [Yb h1,Yg h2]
  refine Ya (rZ O (qI qZ) V [4] [0] fun O=>(Yh (Zd ?_)))
  refine Zx hfr O Z Z Z (.int hg)
 have h2:¬ y<x:=WS
 have hg:(0:Int)=ZqQ x y:=by unfold ZqQ;rw [Yb h1,Yb h2]
 refine Yd (Za (Ya (rZ O (qI qZ) V [4] [0] fun O=>Yh ?_)))
 refine Zx hfr O Z Z Z (.int hg)
theorem Zs7 (o:Option Nat) (room:Int) (q:List Cell) (root:Int):FnG prog 117 1 [.agg [.is (arV o),.int .i64 root]] [arH o room q] (.int .i64 (getC q root).high) (fun _=>[arH o room q]):=by
 refine FnG.mk func117 Z ntmps117 Z kr fun B F0 a w F V hG O=>Ya ?_
 refine rS O (qx 101 r1 (qI qZ)) V J5 QW fun τ O=>?_
 have O:=Xc
 generalize τ 1=v1 at O
 refine Za (Ya (rZ O (qe 2 101 r1 r1 (qg 1 101 r1 r1 (qa 101 r1 r1 (qf (o_callG1 1 (ZbJ o room q root root) func107 Z kr (Args.two (.pagg .t) .t)) r2 r1 (qf (ZeL (ft:=3) (off:=5) kr kr .t Z) r1 qz (qO rr qZ)))))) V [2] QL fun O=>Yh ?_))
 refine Zz hG O Z (.tmp Z .nil) (.one (.int Z)) rfl
theorem Zsz (o:Option Nat) (room:Int) (q:List Cell) (root:Int) (k:Int) (t0:Zae) (hr0:Rep id q t0 root):FnG prog 53 1 [.agg [.is (arV o),.int .i64 root],.int .i64 k] [arH o room q] (.tup [.int .i64 (Zco k t0).1,.bool (Zco k t0).2]) (fun _=>[arH o room q]):=by
 refine FnG.mk func53 Z ntmps53 Z kr fun B F0 a w F V hG O=>Ya ?_
 refine rS O (qx 101 r1 (qI qB)) V Js QW fun τ O=>?_
 have O:=Xc
 generalize τ 2=v2 at O
 refine Za (Ya (Ya (rZ O (qg 1 101 r1 r1 (qa 101 r1 r1 (qO rr qZ))) V GM QW fun O=>Ye ?_)))
 refine Zh (σ:=Int×Zae) [1,2,4,5] [0,1,101] (fun s=>[(6,.pv (.int .i64 s.1))]) (fun s=>[]) (fun s=>Rep id q s.2 s.1∧Zco k s.2=Zco k t0) (fun s=>(ZB s.2).toNat) ((root),(t0)) O ⟨rfl,rfl,rfl,rfl,rfl,tv⟩ ⟨rfl,rfl,rfl,tv⟩ ⟨hr0,rfl⟩ ?_
 clear O;intro s a w F hC O
 obtain ⟨i,t⟩:=s
 have hC:=X3
 obtain ⟨F,O⟩:=O.nM GM QW
 have O:=X2
 obtain ⟨hr,hk⟩:=hC
 refine Ya (Ya (rZ O (qR rr (qf (o_gtr .t qi) r1 qz qZ)) V [11,6,5,4,2,1] QW fun O=>?_))
 refine Zb O Z (fun hc0=>?_) (fun hc0=>?_)
 ·have hi:0<i:=Wz
  obtain ⟨l,x,r,ht⟩:=hr.node (show i≠0 by omega)
  rw [ht] at hr hk
  have hkx:=hr.2.2.2.1
  refine Yd (Za (Ye (Ya (rS O (qe 2 101 r1 r1 (qR rr (qf (o_callG1 1 (ZbJ o room q root i) func107 Z kr (Args.two (.pagg .t) .t)) r2 r1 (qf (oH [.int .i64 0,.int .i64 0,.int .i64 0,.int .i64 0,.int .i64 0,.int .i64 0] 102) trivial qz (qf (oA 6 102 .same (.conv .t .agg)) r2 r1 qZ))))) V [7,6,5,4,2,1] QP fun τ O=>?_))))
  have O:=Xb
  generalize τ 7=v7 at O
  refine Za (Ya (rZ O (qR rr (qg 2 102 r1 r1 (qa 102 r1 r1 (qf (oP (ZuM k (getC q i).key) func108 (Args.two .t .t)) r2 qz qZ)))) V [18,7,6,5,4,2,1] QP fun O=>(Ye (Ya ?_))))
  refine rZ O (qf (o_eql .t qi) r1 qz (qO rr qZ)) V [21,18,7,6,5,4,2,1] QP fun O=>?_
  refine Zb O Z (fun hc1=>?_) (fun hc1=>?_)
  ·have h1:k=x.key:=by rw [← hkx];exact cmpI_zero.1 WE
   have hg:Zco k t0=((getC q i).val,true):=by rw [← hk];unfold Zco;rw [Yb ow,Yb ow,hr.2.2.2.2.2.1]
   refine Ya (rZ O (qg 3 102 r1 r1 (qa 102 r1 r1 (qO rr qB))) V GM QW fun O=>(Yh (Zl (Zl (Zd (Zl (Zd ?_)))))))
   refine Zz hG O Z (.tmp Z (.tmp Z .nil)) (.two (.int Wr) (.bool Wr)) rfl
  have h1:¬ k=x.key:=by rw [← hkx];intro hh;simp [cmpI_zero.2 hh] at hc1
  refine Ya (rZ O (qf (o_eql .t qi) r1 qz (qO rr qZ)) V [25,7,6,5,4,2,1] QP fun O=>?_)
  refine Zb O Z (fun hc2=>?_) (fun hc2=>?_)
  ·have h2:k<x.key:=by rw [← hkx];exact cmpI_neg.1 WD
   obtain ⟨t2,ht2⟩:∃ t2,t2=l:=⟨_,rfl⟩
   have hC2:Rep id q t2 (getC q i).left∧Zco k t2=Zco k t0:=⟨by rw [ht2];exact hr.2.1,by rw [← hk,ht2];exact (Yg h2).symm⟩
   have hmu:(ZB t2).toNat<(ZB t).toNat:=Q7
   refine Zg O (qg 0 102 r1 r1 (qa 102 r1 r1 (qO rr qZ))) V GM QW Z Z fun a w F O=>Zf (Zf (Za ?_))
   obtain ⟨F,O⟩:=O.nM [5,4,2,1,6] QW
   exact ⟨(_,(t2)),F,hC2,O,hmu⟩
  have h2:¬ k<x.key:=by rw [← hkx];intro hh;simp [cmpI_neg.2 hh] at hc2
  obtain ⟨t2,ht2⟩:∃ t2,t2=r:=⟨_,rfl⟩
  have hC2:Rep id q t2 (getC q i).right∧Zco k t2=Zco k t0:=⟨by rw [ht2];exact hr.2.2.1,by rw [← hk,ht2];exact ((Yb h2).trans (Yg ow)).symm⟩
  have hmu:(ZB t2).toNat<(ZB t).toNat:=Q7
  refine Zg O (qg 1 102 r1 r1 (qa 102 r1 r1 (qO rr qZ))) V GM QW Z Z fun a w F O=>Zf (Zf (Za ?_))
  obtain ⟨F,O⟩:=O.nM [5,4,2,1,6] QW
  exact ⟨(_,(t2)),F,hC2,O,hmu⟩
 have hi:¬ 0<i:=Wz
 have hi0:=hr.range
 have hi2:i=0:=ow
 subst hi2
 have hg:Zco k t0=(0,false):=by rw [← hk,hr.zero];rfl
 refine Ym (Ze (Ze (Zk (Za (Ya (rZ O (qI qB) V Jf QL fun O=>Yh ?_))))))
 refine Zz hG O Z (.tmp Z (.tmp Z .nil)) (.two (.int Wr) (.bool Wr)) rfl
theorem ZeT {k:Int} : ∀ {t:Zae},(Zco k t).2=true ↔ Zla k t
 | .nil=>by simp [Zco,Zla]
 | .node l p r=>by
  have hl:=@ZeT k l
  have hr:=@ZeT k r
  unfold Zco Zla
  split
  ·exact hl
  ·split
   ·exact hr
   ·simp
def Zdh (n:Nat) (m:St):St:=(if m.2.1≠0 then ZcT m.1 n else m.1,m.2.1,if m.2.1≠0 then 0 else m.2.2)
def ZsA (room:Int) (q:List Cell) (p:ZD) (t:Zae) (root:Int):St:=Zdh q.length (Zcc id room q 0 p t root)
def ZqI (room:Int) (q:List Cell) (k:Int) (t:Zae) (root:Int):St:=if (Zco k t).2=true then Zdh q.length (ZbQ id room q 0 k t root) else (q,3,0)
theorem Zd7 {kf:Int→Int} {room lo n:Int} {q:List Cell} {m:St} {t:Zae} (h:Zd9 kf room q lo n m t):(∃ e:List Cell,(Zdh q.length m).1=q++e∧(Zdh q.length m).2.1=0∧Rep kf (q++e) t (Zdh q.length m).2.2∧lo≤e.length∧(e.length:Int)≤n)∨(Zdh q.length m=(q,2,0)∧room<q.length+n):=by
 obtain ⟨e,e1,e2,⟨e3,e4,e5⟩ | ⟨e3,e4⟩⟩:=h
 ·refine .inl ⟨e,?_⟩
  unfold Zdh
  rw [Yb ow,Yb ow]
  exact ⟨e1,e3,by rw [← e1];exact e4,e5,e2⟩
 ·refine .inr ⟨?_,e4⟩
  unfold Zdh
  rw [Yg ow,Yg ow,e3,e1]
  have:ZcT (q++e) q.length=q:=by
   unfold ZcT
   rw [Yg Ww,Yf,List.take_left]
  rw [this]
theorem ZjZ (o:Option Nat):FnP prog 104 [.is (arV o)] (.agg [.is (arV o),.int .i64 0]):=by
 refine FnP.mk func104 Z ntmps104 Z fun B a w F V hfr O=>Ya ?_
 refine rS O (qf (oH [.pointer none,.int .i64 0] 101) trivial qz qZ) V Ju QK fun τ O=>?_
 have O:=Xc
 generalize τ 2=v2 at O
 refine Za (Ya (rZ O (qR rr (qf (oB [(0,.tmp 3)] [.pointer none,.int .i64 0] [(0,1),(1,1)] (.one Z .t Ziw kr .nil)) r1 qz (qs 2 101 r2 r1 qZ))) V [2] QK fun O=>Yh ?_))
 refine ZU hfr O Z (.cl 101 true 2 Z Z .nil) (.one (.aggU Z Z))
theorem ZlM (b:Nat) (o:Option Nat) (root why room:Int) (q:List Cell) (rt mark:Int):FnG prog 183 1 [.is (.pointer (some ⟨b,0,none⟩)),.int .i64 rt,.int .i64 mark] [ZaE 242 (.pointer (some ⟨b,0,none⟩)) o root why room q] (.tup [.agg [.is (arV o),.int .i64 (if why≠0 then 0 else rt)],.int .i64 why]) (fun _=>[ZaE 242 (.pointer (some ⟨b,0,none⟩)) o root why room (if why≠0 then ZcT q mark else q)]):=by
 refine FnG.mk func183 Z ntmps183 Z kr fun B F0 a w F V hG O=>?_
 obtain ⟨F,O⟩:=O.peel 1 4 Z rfl
 obtain ⟨F,O⟩:=O.peel 1 5 Z rfl
 obtain ⟨F,O⟩:=O.nM Jq Jm
 refine Ya (rS O (qf (oH [.pointer none,.int .i64 0] 101) trivial qz (qI qZ)) V Gg Jd fun τ O=>?_)
 have O:=Xc
 generalize τ 6=v6 at O
 refine Za (Ya (Ya (rZ O (qR rr (qf (o_nilCheck 4 .is Wd) r1 r1 (qf (oF 2 4 .adr) r1 r1 (qa 4 r1 r1 (qf (o_neq .t qi) r1 qz qZ))))) V [12,7,6,2,1,0] Jd fun O=>?_)))
 refine Zb O Z (fun hc0=>?_) (fun hc0=>?_)
 ·have hg:(if why≠0 then ZcT q mark else q)=ZcT q mark:=Yg Wz
  have hg2:(if why≠0 then 0 else rt)=0:=Yg Wz
  refine Ya (rZ O (qR rr (qf (o_nilCheck 4 .is Wd) r1 r1 (qf (oF 0 4 .adr) r1 r1 (qf (oF 0 4 .adr) r1 r1 (qa 4 r1 r1 (qR rr (qf (o_callG1 5 (Zsq o room q mark) func189 Z kr (Args.two .t .t)) r2 r1 qZ))))))) V [7,6,1,0] Jd fun O=>Ya ?_)
  refine Zr O (qR rr (qf (o_nilCheck 4 .is Wd) r1 r1 (qf (oF 0 4 .adr) r1 r1 (qf (oF 0 4 .adr) r1 r1 (qa 4 r1 r1 (qf (oP (ZjZ o) func104 (Args.one .t)) r1 qz (qR rr (qf (o_nilCheck 4 .is Wd) r1 r1 (qf (oF 2 4 .adr) r1 r1 (qa 4 r1 r1 (qf (oA 2 101 .is (.conv .t .agg)) r2 r1 (qO rr qZ)))))))))))) V [7,6,1,0] Jd Z Z fun a w F O=>?_
  have O:=XU
  refine Za (Yh (Zd ?_))
  have O:=O.fresh 1 rfl
  obtain ⟨F,O⟩:=O.push 1 5 Z Z Z kr
  obtain ⟨F,O⟩:=O.push 1 4 Z Z Z kr
  have O:=O.turn 1 Z (r':=RS.hp (ZaE 242 (.pointer (some ⟨b,0,none⟩)) o root why room (if why≠0 then ZcT q mark else q))) (fun _ _ _ _ h=>by rw [hg];exact h)
  refine Zz hG O Z (.cl 101 true 2 Z Z (.tmp Z .nil)) (.two (.aggU Z (by first | (rw [hg2];done) | (rw [hg2];rfl))) (.int (by first | rfl | exact hw))) rfl
 have hw:(0:Int)=why:=WI
 have hg:(if why≠0 then ZcT q mark else q)=q:=Yb ow
 have hg2:(if why≠0 then 0 else rt)=rt:=Yb ow
 refine Yd (Za (Ya (rZ O (qR rr (qf (o_nilCheck 4 .is Wd) r1 r1 (qf (oF 0 4 .adr) r1 r1 (qf (oF 0 4 .adr) r1 r1 (qa 4 r1 r1 (qR rr (qf (oB [(0,.tmp 34),(1,.tmp 35)] [.pointer none,.int .i64 0] [(0,1),(1,1)] (.one Z .t Ziw kr (.one Z .t one_int kr .nil))) r2 qz (qs 2 101 r2 r1 (qI qZ))))))))) V XaK Jd fun O=>Yh ?_)))
 have O:=O.fresh 1 rfl
 obtain ⟨F,O⟩:=O.push 1 5 Z Z Z kr
 obtain ⟨F,O⟩:=O.push 1 4 Z Z Z kr
 have O:=O.turn 1 Z (r':=RS.hp (ZaE 242 (.pointer (some ⟨b,0,none⟩)) o root why room (if why≠0 then ZcT q mark else q))) (fun _ _ _ _ h=>by rw [hg];exact h)
 refine Zz hG O Z (.cl 101 true 2 Z Z (.tmp Z .nil)) (.two (.aggU Z (by first | (rw [hg2];done) | (rw [hg2];rfl))) (.int (by first | rfl | exact hw))) rfl
theorem Zt1 (o:Option Nat) (room:Int) (q:List Cell) (root:Int) (k x:Int) (t0:Zae) (hr0:Rep id q t0 root):FnG prog 119 1 [.agg [.is (arV o),.int .i64 root],.int .i64 k,.int .i64 x] [arH o room q] (.tup [.agg [.is (arV o),.int .i64 (ZsA room q ⟨k,x⟩ t0 root).2.2],.int .i64 (ZsA room q ⟨k,x⟩ t0 root).2.1]) (fun _=>[arH o room (ZsA room q ⟨k,x⟩ t0 root).1]):=by
 refine FnG.mk func119 Z ntmps119 Z kr fun B F0 a w F V hG O=>?_
 have hg:(ZsA room q ⟨k,x⟩ t0 root)=Zdh q.length (Zcc id room q 0 ⟨k,x⟩ t0 root):=rfl
 refine Ya (rS O (qx 101 r1 (qf (oH [.pointer none,.int .i64 0] 102) trivial qz (qI qZ))) V [7,6,3,2,1] QP fun τ O=>?_)
 have O:=Xc
 generalize τ 3=v3,τ 6=v6 at O
 refine Za (Ya (rS O (qe 2 101 r1 r1 (qf (oB [(0,.tmp 10)] [.pointer none,.int .i64 0,.int .i64 0] [(0,2),(2,1)] (.agg Z .t kr kr .nil)) r1 qz (qf (oX 103 .t) r1 qz (qO rr qZ)))) V [8,7,6,3,2,1] QZ fun τ O=>?_))
 have O:=Xb
 generalize τ 12=v12 at O
 refine Za (Ya (rZ O (qg 0 101 r1 r1 (qa 101 r1 r1 (qf (o_callG1 1 (ZmA o room q) func182 Z kr (Args.one .t)) r1 r1 (qO rr qZ)))) V [9,8,7,6,3,2,1] QZ fun O=>Ya ?_))
 obtain ⟨b,rfl⟩:=O.shape 103 rfl
 have O:=O.fresh 4 rfl
 obtain ⟨F,O⟩:=O.push 4 1 Z Z Z kr
 obtain ⟨F,O⟩:=O.push 4 103 Z Z Z kr
 have O:=O.turn 4 Z (r':=RS.hp (ZaE 242 (.pointer (some ⟨b,0,none⟩)) o root 0 room q)) (fun _ _ _ _ h=>h)
 obtain ⟨F,O⟩:=O.nM [9,8,7,6,3,2,1] Xac
 refine rZ O (qR rr (qR rr (qg 1 101 r1 r1 (qa 101 r1 r1 (qR rr (qR rr (qf (oB [(0,.tmp 20),(1,.tmp 21)] [.int .i64 0,.int .i64 0] [(0,1),(1,1)] (.one Z .t one_int kr (.one Z .t one_int kr .nil))) r2 qz (qf (o_callG1 4 (Zuj b o root 0 room q ⟨k,x⟩ t0 root hr0) func185 Z kr (Args.three .t .t (.pagg .t))) r3 r1 (qR rr (qf (o_callG1 4 (ZlM b o root (Zcc id room q 0 ⟨k,x⟩ t0 root).2.1 room (Zcc id room q 0 ⟨k,x⟩ t0 root).1 (Zcc id room q 0 ⟨k,x⟩ t0 root).2.2 q.length) func183 Z kr (Args.three .t .t .t)) r3 r1 (qf (o_extract .t Z) r1 qz (qf (o_extract .t Z) r1 qz (qf (oA 2 102 .is (.conv .t .agg)) r2 r1 (qO rr qZ)))))))))))))) V XaK [102,4,0] fun O=>Yh ?_
 obtain ⟨F,O⟩:=O.peel 4 7 Z rfl
 obtain ⟨F,O⟩:=O.peel 4 1 Z rfl
 have O:=O.turn 1 Z (r':=RS.hp (arH o room (ZsA room q ⟨k,x⟩ t0 root).1)) (fun _ _ _ _ h=>by rw [hg];exact h)
 refine Zz hG O Z (.cl 102 true 2 Z Z (.tmp Z .nil)) (.two (.aggU Z WA) (.int WA)) rfl
theorem ZtH (o:Option Nat) (room:Int) (q:List Cell) (root:Int) (k:Int) (t0:Zae) (hr0:Rep id q t0 root):FnG prog 118 1 [.agg [.is (arV o),.int .i64 root],.int .i64 k] [arH o room q] (.tup [.agg [.is (arV o),.int .i64 (ZqI room q k t0 root).2.2],.int .i64 (ZqI room q k t0 root).2.1]) (fun _=>[arH o room (ZqI room q k t0 root).1]):=by
 refine FnG.mk func118 Z ntmps118 Z kr fun B F0 a w F V hG O=>Ya ?_
 refine rS O (qx 101 r1 (qf (oH [.pointer none,.int .i64 0] 102) trivial qz (qI qZ))) V Js QP fun τ O=>?_
 have O:=Xc
 generalize τ 2=v2,τ 4=v4 at O
 refine Za (Ya (Ya (rZ O (qe 2 101 r1 r1 (qR rr (qf (o_callG1 1 (Zsz o room q root k t0 hr0) func53 Z kr (Args.two (.pagg .t) .t)) r2 r1 (qR rr (qf (o_extract .t Z) r1 qz (qf (o_extract .t Z) r1 qz (qO rr (qO rr qZ)))))))) V [7,5,4,2,1] QP fun O=>Ya ?_)))
 refine rZ O (qR rr (qf (ZW .t) r1 qz qZ)) V [17,5,4,2,1] QP fun O=>?_
 refine Zb O Z (fun hc0=>?_) (fun hc0=>?_)
 ·have hk:¬ (Zco k t0).2=true:=Wz
  have hg:(ZqI room q k t0 root)=(q,3,0):=Yb hk
  refine Ya (rZ O (qg 0 101 r1 r1 (qa 101 r1 r1 (qf (oP (ZjZ o) func104 (Args.one .t)) r1 qz (qf (oA 2 102 .is (.conv .t .agg)) r2 r1 (qI qZ))))) V Js QP fun O=>(Yh (Zd ?_)))
  have O:=O.turn 1 Z (r':=RS.hp (arH o room (ZqI room q k t0 root).1)) (fun _ _ _ _ h=>by rw [hg];exact h)
  refine Zz hG O Z (.cl 102 true 2 Z Z (.tmp Z .nil)) (.two (.aggU Z WA) (.int WA)) rfl
 have hk:(Zco k t0).2=true:=Wz
 have hh:=ZeT.1 hk
 have hg:(ZqI room q k t0 root)=Zdh q.length (ZbQ id room q 0 k t0 root):=Yg hk
 refine Yd (Za (Ya (rS O (qe 2 101 r1 r1 (qf (oB [(0,.tmp 21)] [.pointer none,.int .i64 0,.int .i64 0] [(0,2),(2,1)] (.agg Z .t kr kr .nil)) r1 qz (qf (oX 103 .t) r1 qz (qO rr qZ)))) V [8,5,4,2,1] QZ fun τ O=>?_)))
 have O:=Xb
 generalize τ 23=v23 at O
 refine Za (Ya (rZ O (qg 0 101 r1 r1 (qa 101 r1 r1 (qf (o_callG1 1 (ZmA o room q) func182 Z kr (Args.one .t)) r1 r1 (qO rr qZ)))) V [9,8,5,4,2,1] QZ fun O=>Ya ?_))
 obtain ⟨b,rfl⟩:=O.shape 103 rfl
 have O:=O.fresh 4 rfl
 obtain ⟨F,O⟩:=O.push 4 1 Z Z Z kr
 obtain ⟨F,O⟩:=O.push 4 103 Z Z Z kr
 have O:=O.turn 4 Z (r':=RS.hp (ZaE 242 (.pointer (some ⟨b,0,none⟩)) o root 0 room q)) (fun _ _ _ _ h=>h)
 obtain ⟨F,O⟩:=O.nM [9,8,5,4,2,1] Xac
 refine rZ O (qR rr (qR rr (qg 1 101 r1 r1 (qa 101 r1 r1 (qR rr (qf (o_callG1 4 (ZtU b o root 0 room q k t0 root hr0 hh) func184 Z kr (Args.three .t .t .t)) r3 r1 (qR rr (qf (o_callG1 4 (ZlM b o root (ZbQ id room q 0 k t0 root).2.1 room (ZbQ id room q 0 k t0 root).1 (ZbQ id room q 0 k t0 root).2.2 q.length) func183 Z kr (Args.three .t .t .t)) r3 r1 (qf (o_extract .t Z) r1 qz (qf (o_extract .t Z) r1 qz (qf (oA 2 102 .is (.conv .t .agg)) r2 r1 (qO rr qZ)))))))))))) V Jf [102,4,0] fun O=>Yh ?_
 obtain ⟨F,O⟩:=O.peel 4 7 Z rfl
 obtain ⟨F,O⟩:=O.peel 4 1 Z rfl
 have O:=O.turn 1 Z (r':=RS.hp (arH o room (ZqI room q k t0 root).1)) (fun _ _ _ _ h=>by rw [hg];exact h)
 refine Zz hG O Z (.cl 102 true 2 Z Z (.tmp Z .nil)) (.two (.aggU Z WA) (.int WA)) rfl
theorem ZdY {P:Program} {d:Option Nat} {ty:TypeId} {pos:String} {af:Array Edge} {g:Option (Nat×Bool)} {x:Operand} {ps:List (Nat×SF)} {a:Anc} {α:Type} {R:α→List PV} {l:List α} {T sz i:Nat} {s:TypeId} {f off:Nat} (n:Nat) (hx:Opd x ps (.adr a (i*sz))) (hi:i<l.length) (ho:P.fieldOff s f=some off) (hd:Zcd d (.adr a (i*sz+off))=true) :
  OpC P ⟨d,.fieldAddr s x f,ty,pos,af,g⟩ ⟨ps,[(n,.ob a (ZM T sz R l))],.adr a (i*sz+off),[]⟩:=
 OpC.read fun act w F hp hr=>by
  obtain ⟨xs,h2,h3,h4⟩:=hr (n,.ob a (ZM T sz R l)) W5
  obtain ⟨ad,cap,e1,h5,h6,h7⟩:=ZaH h2
  rcases h7 with h7 | ⟨b,rfl,_,_⟩
  ·omega
  ·have ev:a.v (Act.tau act) = .slice (some ⟨b,0,none⟩) l.length cap:=e1
   have e2:act.eval x = .pointer (some ⟨b,i*sz,none⟩):=by
    have:=hx act w (U F) hp
    simp only [SF.holds,ev,shift,Yaj] at this
    exact this
   refine ⟨.pointer (some ⟨b,i*sz+off,none⟩),by simp [execOp,e2,ZcC ho],fun τ' ht=>Za1 (w:=w) (y:=U F) hd ht ?_⟩
   simp [SF.holds,ev,shift]
def stL (kf:Int→Int):List (Cell×Zae)→List ZD
 | []=>[]
 | e :: st=>stL kf st++ZI kf e.1 :: tList e.2
def stM:List (Cell×Zae)→Int
 | []=>0
 | e :: st=>stM st+(2*ZB e.2+1)
theorem stL_snoc {kf:Int→Int} (e:Cell×Zae):∀ st:List (Cell×Zae),stL kf (st ++ [e])=ZI kf e.1 :: (tList e.2++stL kf st)
 | []=>by simp [stL]
 | x :: st=>by rw [Y1,stL,stL_snoc e st,stL];simp
theorem Zi1 (e:Cell×Zae):∀ st:List (Cell×Zae),stM (st ++ [e])=stM st+(2*ZB e.2+1)
 | []=>by simp [stM]
 | x :: st=>by rw [Y1,stM,Zi1 e st,stM];omega
theorem ZpV:∀ st:List (Cell×Zae),0≤stM st
 | []=>Yau _
 | x :: st=>by have:=ZpV st;have:=ZQ x.2;rw [stM];omega
theorem ZpY {kf:Int→Int} : ∀ st:List (Cell×Zae),st.length≤(stL kf st).length
 | []=>by simp [stL]
 | x :: st=>by have:=ZpY (kf:=kf) st;rw [stL];simp;omega
theorem ZoC {α:Type} {l:List α} (h:0<l.length):∃ l' e,l=l' ++ [e]:=by
 have:l≠[]:=fun h'=>by rw [h'] at h;simp at h
 exact ⟨l.dropLast,l.getLast this,(List.dropLast_concat_getLast this).symm⟩
theorem Zi8 {α:Type} [Inhabited α] (l:List α) (e:α):Nn (l ++ [e]) l.length=e:=by rw [Zu (by simp)];simp
theorem ZoR (o:Option Nat) (room:Int) (q:List Cell) (root:Int) (t0:Zae) (hr0:Rep id q t0 root) (hs:ZB t0≤1000000):FnG prog 56 1 [.agg [.is (arV o),.int .i64 root]] [arH o room q] (.sl Zt (tList t0)) (fun _=>[arH o room q]):=by
 refine FnG.mk func56 Z ntmps56 Z kr fun B F0 a w F V hG O=>Ya ?_
 refine rS O (qx 101 r1 (qC qZ)) V J5 QW fun τ O=>?_
 have O:=Xc
 generalize τ 1=v1 at O
 refine Za (Ya (rZ O (qC qZ) V Gh QW fun O=>Ya ?_))
 refine rZ O (qC qZ) V XaL QW fun O=>(Ya (Ya ?_))
 refine rZ O (qg 1 101 r1 r1 (qa 101 r1 r1 (qO rr qZ))) V Jk QW fun O=>Ye ?_
 replace O:=O.fresh 50 rfl
 replace O:=O.turn 50 Z (Zas (T:=112) (sz:=2) (R:=Zt))
 replace O:=O.fresh 51 rfl
 replace O:=O.turn 51 Z (Zas (T:=174) (sz:=6) (R:=Z3))
 refine Zh (σ:=Int×Zae×List (Cell×Zae)×Value×List ZD×Value×List Cell) [1,2] [0,1,101] (fun s=>[(5,.pv (.int .i64 s.1)),(3,.pv (.is s.2.2.2.1)),(4,.pv (.is s.2.2.2.2.2.1))]) (fun s=>[(50,.ob (.val s.2.2.2.1) (ZM 112 2 Zt s.2.2.2.2.1)),(51,.ob (.val s.2.2.2.2.2.1) (ZM 174 6 Z3 s.2.2.2.2.2.2))]) (fun s=>Rep id q s.2.1 s.1∧(∀ e ∈ s.2.2.1,Rep id q e.2 e.1.right)∧s.2.2.2.2.2.2=s.2.2.1.map Prod.fst∧s.2.2.2.2.1++(tList s.2.1++stL id s.2.2.1)=tList t0) (fun s=>(2*ZB s.2.1+stM s.2.2.1).toNat) ((root),(t0),([]),(.slice none 0 0),([]),(.slice none 0 0),([])) O ⟨rfl,rfl,rfl,rfl,rfl,tv⟩ ⟨rfl,rfl,rfl,rfl,rfl,tv⟩ ⟨hr0,fun e he=>by simp at he,rfl,by simp [stL]⟩ ?_
 clear O;intro s a w F hC O
 obtain ⟨i,t,st,v,out,wv,wt⟩:=s
 have hC:=X3
 obtain ⟨F,O⟩:=O.nM Jk Jh
 have O:=X2
 obtain ⟨hr,hst,hwt,hk⟩:=hC
 have hkl:=Yai List.length hk
 simp only [Yc] at hkl
 have hsl:=ZpY (kf:=id) st
 have hwl:=Yai List.length hwt
 rw [YO] at hwl
 have hnn:=ZpV st
 have hsz:=ZT t0
 refine Ya (Ya (rZ O (qR rr (qf (o_gtr .t qi) r1 qz (qR rr (qm Z Z Z Z (qk Z (fun h=>Zam 51 Yb1 (.w h .is)) r2 r1 (qk Z (fun h=>o_gtr (.w h) qi) r2 qz (qf (ZaB .t .t) r2 qz qZ))))))) V [15,5,4,3,2,1] Jh fun O=>?_))
 refine Zb O Z (fun hc0=>?_) (fun hc0=>?_)
 ·have hgo:0<i∨0<wt.length:=by simp only [Yar,Yj] at hc0;omega
  refine Yd (Za (Ye (Ya (Ya (rZ O (qR rr (qf (o_gtr .t qi) r1 qz qZ)) V [17,5,4,3,2,1] Jh fun O=>?_)))))
  refine Zb O Z (fun hc1=>?_) (fun hc1=>?_)
  ·have hi:0<i:=WE
   obtain ⟨l,x,r,ht⟩:=hr.node (show i≠0 by omega)
   rw [ht] at hr hk
   have hkx:=hr.2.2.2.1
   have hnp:IntKind.wrap .i64 (((wt ++ [getC q i]).length:Int) - 1)=(wt.length:Int):=by rw [Yc,Yat,Zj (by have:=ZT t0;omega)];omega
   obtain ⟨t2,ht2⟩:∃ t2,t2=l:=⟨_,rfl⟩
   obtain ⟨st2,hs2⟩:∃ st2,st2=st ++ [(getC q i,r)]:=⟨_,rfl⟩
   have hmu:(2*ZB t2+stM st2).toNat<(2*ZB t+stM st).toNat:=by rw [ht,hs2,ht2,Zi1];have:=ZQ l;have:=ZQ r;show (2*ZB l+(stM st+(2*ZB r+1))).toNat<(2*(ZB l+ZB r+1)+stM st).toNat;omega
   have hC2:Rep id q t2 (getC q i).left∧(∀ e ∈ st2,Rep id q e.2 e.1.right)∧wt ++ [getC q i] = st2.map Prod.fst∧out++(tList t2++stL id st2)=tList t0:=⟨by rw [ht2];exact hr.2.1,fun e he=>by rw [hs2] at he;rcases YH.1 he with he | he; (· exact hst e he); (· rw [Yr.1 he];exact hr.2.2.1),by rw [hs2,hwt];simp,by rw [← hk,ht2,hs2,stL_snoc,hr.pair];simp [tList]⟩
   refine Ya (rS O (qR rr (qe 2 101 r1 r1 (qR rr (qf (o_callG1 1 (ZbJ o room q root i) func107 Z kr (Args.two (.pagg .t) .t)) r2 r1 (qf (o_buildSliceE (sz:=6) (zs:=[.int .i64 0,.int .i64 0,.int .i64 0,.int .i64 0,.int .i64 0,.int .i64 0]) (r:=[(0,.tmp 21)]) (l:=[_,_,_,_,_,_]) Yb1 kr kr kr kr Z Z (.agg Z (.conv .t .agg) kr kr .nil) Z) r1 qz (qf (o_append (sz:=6) (bs:=48) 51 (.mk' Yb1 kr kr) Wt .is (.arr (l':=[getC q i]) .t) (by simp only [Yc,Yl,Yn];have:=ZT t0;omega) We) ⟨rfl,rfl,tv⟩ ⟨rfl,tv⟩ (qO rr qZ))))))) V Jk Jh fun τ O=>?_)
   have O:=Xb
   generalize τ 23=v23 at O
   refine Za (Ya (Zg O (qR rr (qR rr (qf (Zam 51 Yb1 .is) r1 r1 (qf (o_sub .t qi) r1 qz (qf (o_indexAddr_row (sz:=6) 51 (.mk Yb1 kr) .is .t ow (by rw [hnp,Yc,Yat];omega) Wd) r2 r1 (qf (ZdY (off:=0) (sz:=6) 51 .t (by rw [hnp,Yc,Yat,Yf];omega) kr Wd) r1 r1 (qf (Ziy (ag:=false) (sz':=1) (sz:=6) 51 .t Wt (by rw [hnp,Yc,Yat,Yf];omega) kr kr kr) r1 r1 (qO rr qZ)))))))) V Jk Jh Z Z fun a w F O=>?_))
   try simp only [Yf] at O
   rw [hnp,Yf,Zi8] at O
   refine Za (Ym (Ze (Zk (Za ?_))))
   obtain ⟨F,O⟩:=O.nM XaN DH
   exact ⟨(_,(t2),(st2),_,_,_,_),F,hC2,O,hmu⟩
  have hi:¬ 0<i:=WE
  have hx:=hr.range
  have h0:i=0:=ow
  rw [h0] at hr
  have hz:t = .nil:=hr.zero
  obtain ⟨st2,e,hse⟩:=ZoC (l:=st) ow
  have hwe:wt=st2.map Prod.fst ++ [e.1]:=by rw [hwt,hse];simp
  have hw2:wt.length=st2.length+1:=by rw [hwl,hse];simp
  have hnw:IntKind.wrap .i64 ((wt.length:Int) - 1)=(st2.length:Int):=K8
  have hcut0:0≤IntKind.wrap .i64 ((wt.length:Int) - 1):=ow
  have hcut1:IntKind.wrap .i64 ((wt.length:Int) - 1)≤wt.length:=ow
  have hne:Nn wt st2.length=e.1:=Qi
  have htk:wt.take st2.length=st2.map Prod.fst:=Q5
  obtain ⟨t2,ht2⟩:∃ t2,t2=e.2:=⟨_,rfl⟩
  have hmu:(2*ZB t2+stM st2).toNat<(2*ZB t+stM st).toNat:=by rw [hz,hse,ht2,Zi1];have:=ZQ e.2;have:=ZpV st2;show (2*ZB e.2+stM st2).toNat<(2*0+(stM st2+(2*ZB e.2+1))).toNat;omega
  have hC2:Rep id q t2 e.1.right∧(∀ e ∈ st2,Rep id q e.2 e.1.right)∧st2.map Prod.fst=st2.map Prod.fst∧(out ++ [(⟨e.1.key,e.1.val⟩:ZD)])++(tList t2++stL id st2)=tList t0:=⟨by rw [ht2];exact hst e (by rw [hse];simp),fun x hx=>hst x (by rw [hse];simp [hx]),rfl,by rw [← hk,hz,hse,ht2,stL_snoc];simp [tList,ZI]⟩
  have hol:out.length≤1000000:=by have:=ZT t0;omega
  refine Yd (Za (Ya (rS O (qR rr (qR rr (qf (Zam 51 Yb1 .is) r1 r1 (qf (o_sub .t qi) r1 qz (qf (o_indexAddr_row (sz:=6) 51 (.mk Yb1 kr) .is .t ow ow Wd) r2 r1 (qf (Zs (ag:=true) (sz':=6) (sz:=6) 51 .t Wt (by rw [hnw,Yf];omega) kr kr kr) r1 r1 (qf (oH [.int .i64 0,.int .i64 0,.int .i64 0,.int .i64 0,.int .i64 0,.int .i64 0] 102) trivial qz (qS 6 102 r2 r1 qZ)))))))) V GK JU fun τ O=>?_)))
  have O:=Xb
  generalize τ 6=v6 at O
  try simp only [Yf] at O
  rw [hnw,Yf,hne] at O
  refine Za (Ya (rS O (qR rr (qR rr (qf (Zam 51 Yb1 .is) r1 r1 (qf (o_sub .t qi) r1 qz (qf (ZdV (sz:=6) 51 (.mk Yb1 kr) Wt .is .t Wu Wu) r2 r1 (qO rr qZ)))))) V GK JU fun τ O=>?_))
  try dsimp only [RS.sub,SF.sub,CF.sub,csub,Anc.sub,List.map,Z3,Zt] at O
  generalize τ 41=v41 at O
  rw [hnw,Yf,htk] at O
  refine Za (Ya (rS O (qR rr (qg 2 102 r1 r1 (qa 102 r1 r1 (qg 3 102 r1 r1 (qa 102 r1 r1 (qf (oB [(0,.tmp 44),(1,.tmp 46)] [.int .i64 0,.int .i64 0] [(0,1),(1,1)] (.one Z .t one_int kr (.one Z .t one_int kr .nil))) r2 qz (qf (o_buildSliceE (sz:=2) (zs:=[.int .i64 0,.int .i64 0]) (r:=[(0,.tmp 47)]) (l:=[_,_]) YbX kr kr kr kr Z Z (.agg Z .t kr kr .nil) Z) r1 qz (qf (o_append (sz:=2) (bs:=16) 50 (.mk' YbX kr kr) Wt .is (.arr (l':=[(⟨e.1.key,e.1.val⟩:ZD)]) .t) (by simp only [Yc,Yl,Yn];have:=ZT t0;omega) We) ⟨rfl,rfl,tv⟩ ⟨rfl,tv⟩ (qO rr qZ))))))))) V GK JU fun τ O=>?_))
  have O:=Xb
  generalize τ 49=v49 at O
  refine Za (Zg O (qg 1 102 r1 r1 (qa 102 r1 r1 (qO rr qZ))) V Jk Jh Z Z fun a w F O=>Zf (Za ?_))
  obtain ⟨F,O⟩:=O.nM XaN DH
  exact ⟨(_,(t2),(st2),_,_,_,_),F,hC2,O,hmu⟩
 have hstop:¬ 0<i∧wt.length=0:=by simp only [YaK,Yi] at hc0;omega
 have hx:=hr.range
 have h0:i=0:=ow
 rw [h0] at hr
 have hfin:out=tList t0:=by rw [← hk,hr.zero,YX (show st.length=0 by omega)];simp [tList,stL]
 refine Ym (Ze (Ze (Zk (Za (Ya (rZ O (qR rr (qO rr qZ)) V [2] [51,50,1,0] fun O=>Yh ?_))))))
 obtain ⟨F,O⟩:=O.give 50 2 Z rfl
 refine Zz hG O Z (.tmp Z .nil) (.one (.sl (by rw [hfin]))) rfl
theorem Zll {P:Program} {B:Zb3} {F0:Fp} (hG:Zn3 B F0 2) {E:En} {a:Act} {w:World} {F:Fp} {fn:Func} {q:PV} {k1 k2:HP} {ss:List SF} (O:Sat B E a w F) (h0:Go.Gm.look E.r 0=some (frame B)) (hr:ROk P E fn.results.toList ss) (hq:Zft ss q)
  (h1:Go.Gm.look E.r 1=some (RS.hp k1)) (h2:Go.Gm.look E.r 2=some (RS.hp k2)):bodyPost P fn (RG B F0 2 q (fun _=>[k1,k2])) .ret a w:=
 Zq1 hG O h0 hr hq fun v τ y hv i h hi=>by
  match i,hi with
  | 0,hi=>simp at hi;subst hi;exact ⟨_,h1,ow,fun _ _ _ h=>h⟩
  | 1,hi=>simp at hi;subst hi;exact ⟨_,h2,ow,fun _ _ _ h=>h⟩
def Zoy:Nat→List ZD→Zae
 | 0,_=>.nil
 | n+1,l=>if l = [] then .nil else .node (Zoy n (l.take (l.length / 2))) (Nn l (l.length / 2)) (Zoy n (l.drop (l.length / 2+1)))
def allS (room:Int):Nat→List Cell→Int→List ZD→St
 | 0,q,why,_=>(q,why,0)
 | n+1,q,why,l=>if l = [] then (q,why,0) else
  madeS room (allS room n (allS room n q why (l.take (l.length / 2))).1 (allS room n q why (l.take (l.length / 2))).2.1 (l.drop (l.length / 2+1))).1 (allS room n (allS room n q why (l.take (l.length / 2))).1 (allS room n q why (l.take (l.length / 2))).2.1 (l.drop (l.length / 2+1))).2.1 (allS room n q why (l.take (l.length / 2))).2.2 (allS room n (allS room n q why (l.take (l.length / 2))).1 (allS room n q why (l.take (l.length / 2))).2.1 (l.drop (l.length / 2+1))).2.2 (Nn l (l.length / 2))
theorem ZcF:∀ (n:Nat) (l:List ZD),l.length<n→tList (Zoy n l)=l
 | 0,l,h=>by omega
 | n+1,l,h=>by
  unfold Zoy
  split
  ·rename_i h;rw [h];rfl
  ·rename_i hl
   have hp:0<l.length:=Yaz.2 hl
   show tList _++_ :: tList _=l
   rw [ZcF n _ WF,ZcF n _ (by rw [YN];omega)]
   rw [← Zal (show l.length / 2<l.length by omega),YY]
def bitsL (m:Nat):Int:=if h:m=0 then 0 else bitsL (m / 2)+1
termination_by m
decreasing_by omega
theorem Zc4:∀ (b a:Nat),a≤b→bitsL a≤bitsL b∧0≤bitsL a
 | b,a,h=>by
  rw [bitsL.eq_def a,bitsL.eq_def b]
  by_cases ha:a=0
  ·by_cases hb:b=0
   ·rw [dif_pos ha,dif_pos hb];omega
   ·rw [dif_pos ha,dif_neg hb]
    have:=Zc4 (b / 2) (b / 2) (YE _)
    omega
  ·rw [dif_neg ha,dif_neg ow]
   have:=Zc4 (b / 2) (a / 2) ow
   omega
termination_by b=>b
decreasing_by all_goals omega
theorem Zob (a:Nat):bitsL (a+1)≤bitsL a+1:=by
 rw [bitsL.eq_def (a+1),dif_neg ow]
 have:=Zc4 a ((a+1) / 2) ow
 omega
theorem ZgS:∀ (n:Nat) (l:List ZD),l.length<n→Zn (Zoy n l)=bitsL l.length∧Bal (Zoy n l)
 | 0,l,h=>by omega
 | n+1,l,h=>by
  unfold Zoy
  split
  ·rename_i h;rw [h];exact ⟨by rw [bitsL.eq_def];rfl,tv⟩
  ·rename_i hl
   have hp:0<l.length:=Yaz.2 hl
   have a:=ZgS n (l.take (l.length / 2)) WF
   have b:=ZgS n (l.drop (l.length / 2+1)) (by rw [YN];omega)
   rw [Yk,Yab ow] at a
   rw [YN] at b
   have c:=Zc4 (l.length / 2) (l.length - (l.length / 2+1)) ow
   have d:=Zob (l.length - (l.length / 2+1))
   have e:=Zc4 (l.length - (l.length / 2+1)+1) (l.length / 2) ow
   refine ⟨?_,a.2,b.2,ow,ow⟩
   show max _ _+1=_
   rw [a.1,b.1,bitsL.eq_def l.length,dif_neg ow]
   omega
theorem ZeP {kf:Int→Int} {room:Int} : ∀ (n:Nat) (q:List Cell) (l:List ZD),l.length<n→l.length≤1000000→(∀ p ∈ l,kf p.key=p.key)→Zd9 kf room q l.length l.length (allS room n q 0 l) (Zoy n l)
 | 0,q,l,h,_,_=>by omega
 | n+1,q,l,h,hs,hk=>by
  unfold allS Zoy
  split
  ·rename_i h;rw [h];exact ⟨[],(YF q).symm,by simp,.inl ⟨rfl,rfl,by simp⟩⟩
  ·rename_i hl
   have hp:0<l.length:=Yaz.2 hl
   have lt:(l.take (l.length / 2)).length=l.length / 2:=WF
   have ld:(l.drop (l.length / 2+1)).length=l.length - (l.length / 2+1):=YN ..
   have h1:=ZeP (room:=room) n q (l.take (l.length / 2)) ow ow fun p hp=>hk p (Yax hp)
   have t1:=ZT (Zoy n (l.take (l.length / 2)))
   rw [ZcF n _ ow] at t1
   have t2:=ZT (Zoy n (l.drop (l.length / 2+1)))
   rw [ZcF n _ ow] at t2
   have bad:∀ (n:Nat) (q:List Cell) (why:Int) (l:List ZD),why≠0→allS room n q why l=(q,why,0):=by
    intro n
    induction n with
    | zero=>intro q why l _;rfl
    | succ n ih=>
     intro q why l hw
     unfold allS
     split
     ·rfl
     ·simp only [ih _ _ _ hw,Zav hw]
   refine (Zd9.bind (lo':=(l.drop (l.length / 2+1)).length+1) (m:=(l.drop (l.length / 2+1)).length+1) h1 ow (fun e e1 e3 e4=>?_) fun hw=>?_).weak ow ow
   ·rw [e3]
    have h2:=ZeP (room:=room) n (allS room n q 0 (l.take (l.length / 2))).1 (l.drop (l.length / 2+1)) ow ow fun p hp=>hk p (YaW hp)
    refine Zd9.bind (lo':=1) (m:=1) h2 ow (fun f f1 f3 f4=>?_) fun hw=>Zav hw
    rw [f3]
    exact Zat Wy f4 (hk _ (ZP ow)) ow
   ·rw [bad _ _ _ _ hw,Zav hw]
theorem mall_s (b:Nat) (o:Option Nat) (root why room:Int) (q:List Cell) (n:Nat) (ih:∀ (q:List Cell) (why:Int) (l:List ZD),l.length<n→FnG prog 250 1 [.is (.pointer (some ⟨b,0,none⟩)),.sl Zt l] [ZaE 242 (.pointer (some ⟨b,0,none⟩)) o root why room q] (.int .i64 (allS room n q why l).2.2) (fun _=>[ZaE 242 (.pointer (some ⟨b,0,none⟩)) o root (allS room n q why l).2.1 room (allS room n q why l).1])) (l:List ZD) (hl:l.length<n+1):FnG prog 250 1 [.is (.pointer (some ⟨b,0,none⟩)),.sl Zt l] [ZaE 242 (.pointer (some ⟨b,0,none⟩)) o root why room q] (.int .i64 (allS room (n+1) q why l).2.2) (fun _=>[ZaE 242 (.pointer (some ⟨b,0,none⟩)) o root (allS room (n+1) q why l).2.1 room (allS room (n+1) q why l).1]):=by
 refine FnG.mk func250 Z ntmps250 Z kr fun B F0 a w F V hG O=>?_
 have hll:=Sat.lenSl O (i:=1) rfl
 refine Ya (rZ O (qI qZ) V J0 QL fun O=>(Ya (Ya ?_)))
 refine rZ O (qR rr (qu YbX r1 (qf (o_eql .t qi) r1 qz qZ))) V XaM QL fun O=>?_
 refine Zb O Z (fun hc0=>?_) (fun hc0=>?_)
 ·have hz:l = []:=YX (by simp only [Yj] at hc0;omega)
  have hg:(allS room (n+1) q why l)=(q,why,0):=Yg hz
  refine Ya (rZ O (qI qZ) V J0 QL fun O=>(Yh (Zd ?_)))
  have O:=O.turn 1 Z (r':=RS.hp (ZaE 242 (.pointer (some ⟨b,0,none⟩)) o root (allS room (n+1) q why l).2.1 room (allS room (n+1) q why l).1)) (fun _ _ _ _ h=>by rw [hg];exact h)
  refine Zz hG O Z (.tmp Z .nil) (.one (.int WA)) rfl
 have hz:¬ l = []:=by intro hz;rw [hz] at hc0;simp at hc0
 have hp:0<l.length:=Yaz.2 hz
 have hq2:IntKind.wrap .i64 (Int.tdiv (l.length:Int) 2)=((l.length / 2:Nat):Int):=by rw [Int.tdiv_eq_ediv_of_nonneg ow,Zj ow];omega
 have hk1:IntKind.wrap .i64 (((l.length / 2:Nat):Int)+1)=((l.length / 2+1:Nat):Int):=K8
 have hg:(allS room (n+1) q why l)=(madeS room (allS room n (allS room n q why (l.take (l.length / 2))).1 (allS room n q why (l.take (l.length / 2))).2.1 (l.drop (IntKind.wrap .i64 (((l.length / 2:Nat):Int)+1)).toNat)).1 (allS room n (allS room n q why (l.take (l.length / 2))).1 (allS room n q why (l.take (l.length / 2))).2.1 (l.drop (IntKind.wrap .i64 (((l.length / 2:Nat):Int)+1)).toNat)).2.1 (allS room n q why (l.take (l.length / 2))).2.2 (allS room n (allS room n q why (l.take (l.length / 2))).1 (allS room n q why (l.take (l.length / 2))).2.1 (l.drop (IntKind.wrap .i64 (((l.length / 2:Nat):Int)+1)).toNat)).2.2 (Nn l (l.length / 2))):=by rw [hk1,Yf];exact Yb hz
 refine Yd (Za (Ya (Zg O (qR rr (qu YbX r1 (qf (ZuD .t qi We) r1 qz (qO rr qZ)))) V J6 QL Z Z fun a w F O=>?_)))
 rw [hq2] at O
 refine Za (Ya (Zr O (qR rr (qR rr (qR rr (qR rr (qf (Zc1 (sz:=2) (.mk YbX kr) Wt .t .t ow ow) r2 qz (qf (o_callG1 1 (ih q why (l.take (l.length / 2)) WF) func250 Z kr (Args.two .t .t)) r2 r1 (qR rr (qR rr (qR rr (qp r1 (qf (o_slice_lo (sz:=2) (.mk YbX kr) Wt .t .t WG WG) r2 qz (qf (o_callG1 1 (ih (allS room n q why (l.take (l.length / 2))).1 (allS room n q why (l.take (l.length / 2))).2.1 (l.drop (IntKind.wrap .i64 (((l.length / 2:Nat):Int)+1)).toNat) (by rw [YN,hk1];omega)) func250 Z kr (Args.two .t .t)) r2 r1 (qR rr (qR rr (qy 2 YbX r2 (qf (oR true 2 .t) r1 qz (qf (o_callG1 1 (ZbP b o root (allS room n (allS room n q why (l.take (l.length / 2))).1 (allS room n q why (l.take (l.length / 2))).2.1 (l.drop (IntKind.wrap .i64 (((l.length / 2:Nat):Int)+1)).toNat)).2.1 room (allS room n (allS room n q why (l.take (l.length / 2))).1 (allS room n q why (l.take (l.length / 2))).2.1 (l.drop (IntKind.wrap .i64 (((l.length / 2:Nat):Int)+1)).toNat)).1 (allS room n q why (l.take (l.length / 2))).2.2 (allS room n (allS room n q why (l.take (l.length / 2))).1 (allS room n q why (l.take (l.length / 2))).2.1 (l.drop (IntKind.wrap .i64 (((l.length / 2:Nat):Int)+1)).toNat)).2.2 (Nn l (l.length / 2))) func249 Z kr (Args.four .t .t .t (.pagg .t))) r4 r1 (qO rr qZ)))))))))))))))))) V [4] QL Z Z fun a w F O=>?_))
 try dsimp only [List.map,xD,xE,xT,xU,ldSF,Z3,Zt] at O
 try simp only [Yf] at O
 refine Za (Yh ?_)
 have O:=O.turn 1 Z (r':=RS.hp (ZaE 242 (.pointer (some ⟨b,0,none⟩)) o root (allS room (n+1) q why l).2.1 room (allS room (n+1) q why l).1)) (fun _ _ _ _ h=>by rw [hg];exact h)
 refine Zz hG O Z (.tmp Z .nil) (.one (.int WA)) rfl
theorem Zuc (b:Nat) (o:Option Nat) (root room:Int):∀ (n:Nat) (q:List Cell) (why:Int) (l:List ZD),l.length<n→FnG prog 250 1 [.is (.pointer (some ⟨b,0,none⟩)),.sl Zt l] [ZaE 242 (.pointer (some ⟨b,0,none⟩)) o root why room q] (.int .i64 (allS room n q why l).2.2) (fun _=>[ZaE 242 (.pointer (some ⟨b,0,none⟩)) o root (allS room n q why l).2.1 room (allS room n q why l).1]):=fun n=>by
 induction n with
 | zero=>intro q why l h;omega
 | succ n ih=>intro q why l h;exact mall_s b o root why room q n ih l h
abbrev kz:Int→Int:=fun _=>0
end Go.Proofs.YtfecljadegkmdaaGreat
