/- Laws and walks. No condition beyond what each says. -/
import Derived.Test.YtfecljadegkmdaaGreatLibG
import Derived.Shelf.SlIter.Collect
import Derived.Maps.RangeRun
import Derived.Sort.MapsRangeIn
import Derived.RangeFuncBound
import Derived.Shelf.Sort.Plain
import Derived.Shelf.Slices.In.SortNone
namespace Go.Proofs.YtfecljadegkmdaaGreat
open Go Go.Gm Tryz
set_option linter.unusedVariables false
set_option linter.unusedSimpArgs false
set_option maxHeartbeats 4000000
set_option maxRecDepth 8000
open Go.RowKit Go.Maps Go.Sort Go.Shelf Go.ChangeMaps Go.MapKept
section
variable {F:Fence} {n:Nat} {P:Program} {ops:Array Oper} {rest:List Oper} {o:Oper} {a:Act} {w:World} {Q:Exit→Act→World→Prop}
theorem Ybs:type_of% @underlying37:=@underlying37
theorem Ybt:type_of% @underlying27:=@underlying27
theorem Ybu:type_of% @underlying28:=@underlying28
theorem Ybv:type_of% @underlying34:=@underlying34
theorem Ybw:type_of% @underlying81:=@underlying81
theorem Ybx:type_of% @underlying3:=@underlying3
theorem Yby:type_of% @underlying73:=@underlying73
theorem Ybz:type_of% @underlying127:=@underlying127
theorem YbA:type_of% @underlying128:=@underlying128
theorem Zdi (hg:o.guard=none) (m:Operand) (t:TypeId) (hop:o.op=Op.range t m) (k e:TypeId) (ht:P.underlying t=some (.map k e)) (b:Nat) (es:Array MapEntry) (clock:Nat) (hm:a.eval m = .map (some b)) (hb:w.heap[b]? = some (.map es clock))
  (hK:wpListIn F n P ops Q rest (a.put o.dst (.pointer (some ⟨w.heap.size,0,none⟩))) (w.alloc (.mapIter (some b) clock #[] clock))):wpListIn F n P ops Q (o :: rest) a w:=by
 refine wpListIn_plain hg fun K' hK'=>?_
 unfold Oper.wpIn
 refine ⟨by simp [Oper.about,hop],?_⟩
 rw [Oper.semAt_plain F _ _ (by rw [hop];intro c hc';cases hc')]
 simp [execOp,hop,hm,run_range_map w t k e b es clock ht hb,Result.andThen]
 exact hK' _ _ hK
end
theorem Zk6 {w w1:World} {r b:Nat} {clock c0:Nat} {seen:Array Nat} {es:Array MapEntry} {x:Nat} (hal:w1=w∨w1=w.drew) (hr:w.heap[r]? = some (.mapIter (some b) clock seen c0)) (hb:w.heap[b]? = some (.map es clock)) (hne:r≠b) :
  (setBlock w1 r (.mapIter (some b) clock (seen.push x) clock)).heap[r]? = some (.mapIter (some b) clock (seen.push x) clock)∧(setBlock w1 r (.mapIter (some b) clock (seen.push x) clock)).heap[b]? = some (.map es clock)∧w.grownBy (setBlock w1 r (.mapIter (some b) clock (seen.push x) clock)) (some r):=by
 have hr1:w1.heap[r]? = some (.mapIter (some b) clock seen c0):=by rcases hal with rfl | rfl <;> exact hr
 have hb1:w1.heap[b]? = some (.map es clock):=by rcases hal with rfl | rfl <;> exact hb
 have hset:=heap_set (o':=.mapIter (some b) clock (seen.push x) clock) hr1
 refine ⟨hset.1,(hset.2 b (fun e1=>hne e1.symm)).trans hb1,?_⟩
 rcases hal with rfl | rfl <;> exact ⟨rfl,rfl,rfl,by simp [setBlock],fun i _ hi=>hset.2 i (fun e1=>hi (by rw [e1]))⟩
def Zmm (es:Array MapEntry) (seen:Array Nat):Prop:=(leftOf es seen).size=0
structure Zmq (P:Program) (w w2:World) (r b clock:Nat) (seen:Array Nat) (es:Array MapEntry) (e:MapEntry):Prop where
 left:e ∈ (leftOf es seen).toList
 it:w2.heap[r]? = some (.mapIter (some b) clock (seen.push e.born) clock)
 mp:w2.heap[b]? = some (.map es clock)
 grown:w.grownBy w2 (some r)
 entry:(Instr.entry (.pointer (some ⟨r,0,none⟩))).run P w2 = .ok (.tuple #[e.key,e.val]) w2
section
variable {F:Fence} {n:Nat} {P:Program} {ops:Array Oper} {rest:List Oper} {o:Oper} {a:Act} {w:World} {Q:Exit→Act→World→Prop}
theorem ZdQ (hg:o.guard=none) (it:Operand) (hop:o.op=Op.next it false) (r b clock c0:Nat) (seen:Array Nat) (es:Array MapEntry) (hit:a.eval it = .pointer (some ⟨r,0,none⟩))
  (hr:w.heap[r]? = some (.mapIter (some b) clock seen c0)) (hb:w.heap[b]? = some (.map es clock)) (hold:∀ x ∈ es.toList,x.born<clock) (hsc:clock≤c0) (hne:r≠b) (hnd:(es.toList.map (·.born)).Nodup)
  (hDone:Zmm es seen→wpListIn F n P ops Q rest (a.put o.dst (.tuple #[.bool false])) w)
  (hMore:∀ (e:MapEntry) (w2:World),Zmq P w w2 r b clock seen es e→wpListIn F n P ops Q rest (a.put o.dst (.tuple #[.bool true,e.key,e.val])) w2) :
  wpListIn F n P ops Q (o :: rest) a w:=by
 refine wpListIn_plain hg fun K' hK'=>?_
 unfold Oper.wpIn
 refine ⟨by simp [Oper.about,hop],?_⟩
 rw [Oper.semAt_plain F _ _ (by rw [hop];intro c hc';cases hc')]
 rcases run_next_at (P:=P) w o.type r b clock c0 seen es clock hr hb hold hsc with ⟨h0,hrun⟩ | ⟨e,he,w1,hal,hrun⟩
 ·simp [execOp,hop,hit,hrun,Result.andThen]
  exact hK' _ _ (hDone h0)
 ·simp [execOp,hop,hit,hrun,Result.andThen]
  obtain ⟨h1,h2,h3⟩:=Zk6 (x:=e.born) hal hr hb hne
  exact hK' _ _ (hMore e _ ⟨he,h1,h2,h3,run_entry_at _ r b clock seen es clock e h1 h2 (mem_left he).1 hnd⟩)
end
theorem ZgT:∀ {es:List MapEntry} {seen:Array Nat} {e:MapEntry},(es.map (·.born)).Nodup→e ∈ es→seen.contains e.born=false→(es.filter fun x=>(seen.push e.born).contains x.born).Perm (e :: es.filter fun x=>seen.contains x.born)
 | [],_,_,_,h,_=>by cases h
 | x :: es,seen,e,hn,hm,hs=>by
  rw [YJ,Ya1] at hn
  rcases Yo.1 hm with rfl | hm
  ·have hrest:(es.filter fun x=>(seen.push e.born).contains x.born)=es.filter fun x=>seen.contains x.born:=List.filter_congr fun y hy=>by
    rw [contains_push]
    have:(y.born == e.born)=false:=by
     simp
     intro h9
     exact hn.1 (h9 ▸ YI.2 ⟨y,hy,rfl⟩)
    rw [this,Bool.or_false]
   rw [YW (by rw [contains_push];simp),hrest,YX (by rw [hs];simp)]
  ·have ih:=ZgT hn.2 hm hs
   have hx:(x.born == e.born)=false:=by
    simp
    intro h9
    exact hn.1 (h9 ▸ YI.2 ⟨e,hm,rfl⟩)
   have hc:(seen.push e.born).contains x.born=seen.contains x.born:=by rw [contains_push,hx,Bool.or_false]
   cases hsx:seen.contains x.born with
   | true=>
    rw [YW (by rw [hc,hsx]),YW (by rw [hsx])]
    exact (ih.cons x).trans (List.Perm.swap e x _)
   | false=>
    rw [YX (by rw [hc,hsx];simp),YX (by rw [hsx];simp)]
    exact ih
theorem Zmk {es:Array MapEntry} {seen:Array Nat} (h:(leftOf es seen).size=0):(es.toList.filter fun x=>seen.contains x.born)=es.toList:=YaL.2 fun x hx=>all_seen es seen h x hx
theorem Zko {es:List MapEntry} : (es.filter fun x=>(#[]:Array Nat).contains x.born) = []:=by
 rw [YaI];simp
theorem Zkv {es:Array MapEntry} : (leftOf es #[]).size=es.size:=by simp [leftOf]
end Go.Proofs.YtfecljadegkmdaaGreat
namespace Go.Proofs.YtfecljadegkmdaaGreat
open Go Go.Gm Tryz
set_option linter.unusedVariables false
set_option linter.unusedSimpArgs false
set_option maxHeartbeats 4000000
set_option maxRecDepth 8000
theorem ZK {x:Int} (h : -9223372036854775808≤x∧x≤9223372036854775807):IntKind.wrap .i64 x=x:=Zgm ⟨by simp [IntKind.min,IntKind.signed,IntKind.bits];omega,by simp [IntKind.max,IntKind.signed,IntKind.bits];omega⟩
theorem Z4 {i:Nat} (h:i<9223372036854775807):IntKind.wrap .i64 ((i:Int)+1)=((i+1:Nat):Int):=by rw [ZK ow];omega
theorem Zc5 {x:Int} (h:0≤x∧x≤18446744073709551615):IntKind.wrap .u64 x=x:=Zgm ⟨by simp [IntKind.min,IntKind.signed,IntKind.bits];omega,by simp [IntKind.max,IntKind.signed,IntKind.bits];omega⟩
theorem Sat.lenSl {α:Type} {R:α→List PV} {B:ZaK} {E:En} {a:Act} {w:World} {F:Fp} (h:Sat B E a w F) {i:Nat} {l:List α} (hl:Go.Gm.look E.s i=some (SF.pv (PV.sl R l))):l.length≤9223372036854775807:=by
 obtain ⟨_,cap,_,h1,h2,_⟩:=h.s i _ hl
 unfold maxLen at h2
 omega
def Zk (n:Int):List PV:=[.int .i64 n]
theorem Zhv {α:Type} [Inhabited α] {x y:List α} (hl:x.length=y.length) (h:∀ j,j<x.length→Nn x j=Nn y j):x=y:=by
 apply List.ext_getElem hl
 intro j h1 h2
 have:=h j h1
 rwa [Zw h1,Zw h2] at this
theorem Zez {α:Type} [Inhabited α] {q:List α} {k:Nat} (h:k<q.length):q.take k ++ [Nn q k] = q.take (k+1):=by
 rw [Zw h,List.take_succ_eq_append_getElem h]
theorem ZT {α:Type} [Inhabited α] {q:List α} {k:Nat} (h:k<q.length):Nn q k ∈ q:=by rw [Zw h];exact Ybk h
theorem Zap {α:Type} [Inhabited α] {l:List α} {i:Nat} (h:i<l.length):l.drop i=Nn l i :: l.drop (i+1):=by rw [Zw h];exact List.drop_eq_getElem_cons h
theorem Zu {α:Type} [Inhabited α] {l:List α} {i:Nat} (h:i<l.length):l.take (i+1)=l.take i ++ [Nn l i]:=(Zez h).symm
structure ZeU where
 key:Int
 val:Int
 deriving DecidableEq,Inhabited
section
variable {out t T:List ZeU} {k x:Int} {e:ZeU} {d:Bool}
end
inductive ZgB where
 | nil:ZgB
 | node:ZgB→ZeU→ZgB→ZgB
 deriving Inhabited
def ZbR:ZgB→Int
 | .nil=>0
 | .node l _ r=>ZbR l+ZbR r+1
def Zao:ZgB→Int
 | .nil=>0
 | .node l _ r=>max (Zao l) (Zao r)+1
def Zlm:ZgB→List ZeU
 | .nil=>[]
 | .node l p r=>Zlm l++p :: Zlm r
def Bal:ZgB→Prop
 | .nil=>True
 | .node l _ r=>Bal l∧Bal r∧Zao l≤Zao r+1∧Zao r≤Zao l+1
theorem Zcw:∀ t,0≤Zao t
 | .nil=>Ybh _
 | .node l _ r=>by have:=Zcw l;have:=Zcw r;unfold Zao;omega
theorem Zdr:∀ t,0≤ZbR t
 | .nil=>Ybh _
 | .node l _ r=>by have:=Zdr l;have:=Zdr r;unfold ZbR;omega
theorem ZhP:∀ {t:ZgB},Bal t→(2:Int) ^ (Zao t).toNat≤(ZbR t+1)*(ZbR t+1)
 | .nil,_=>by decide
 | .node l p r,h=>by
  obtain ⟨h1,h2,h3,h4⟩:=h
  have il:=ZhP h1
  have ir:=ZhP h2
  have nl:=Zcw l
  have nr:=Zcw r
  have sl:=Zdr l
  have sr:=Zdr r
  have e1:Zao (.node l p r)=max (Zao l) (Zao r)+1:=rfl
  have e2:ZbR (.node l p r)=ZbR l+ZbR r+1:=rfl
  have mul:∀ a b:Int,0≤a→0≤b→2 ^ (min (Zao l) (Zao r)).toNat≤(a+1)*(a+1)→2 ^ (min (Zao l) (Zao r)).toNat≤(b+1)*(b+1)→(2:Int) ^ (min (Zao l) (Zao r)+2).toNat≤(a+b+1+1)*(a+b+1+1):=by
   intro a b ha hb h5 h6
   have e:(min (Zao l) (Zao r)+2).toNat=(min (Zao l) (Zao r)).toNat+2:=ow
   rw [e,Int.pow_add]
   generalize (2:Int) ^ (min (Zao l) (Zao r)).toNat=w at h5 h6 ⊢
   have h7:(2:Int) ^ 2=4:=rfl
   rw [h7]
   have k1:∀ x y:Int,(x+y)*(x+y)=x*x+2*(y*x)+y*y:=fun x y=>by
    rw [Int.add_mul,Int.mul_add,Int.mul_add,Int.mul_comm x y];omega
   rw [show a+b+1+1=(a+1)+(b+1) by omega,k1]
   rcases Int.le_total a b with hab | hab
   ·have:(a+1)*(a+1)≤(b+1)*(a+1):=Int.mul_le_mul_of_nonneg_right ow ow
    omega
   ·have:(b+1)*(b+1)≤(b+1)*(a+1):=Int.mul_le_mul_of_nonneg_left ow ow
    omega
  have pm:∀ x y:Int,0≤x→x≤y→(2:Int) ^ x.toNat≤2 ^ y.toNat:=fun x y hx hxy=>by
   have:=Nat.pow_le_pow_right (n:=2) XJ (show x.toNat≤y.toNat by omega)
   exact_mod_cast this
  have h5:=mul (ZbR l) (ZbR r) sl sr (Yba (pm _ _ ow ow) il) (Yba (pm _ _ ow ow) ir)
  rw [e1,e2]
  exact Yba (pm _ _ ow ow) h5
theorem ZfR {t:ZgB} (h:Bal t) (hs:ZbR t≤1000000):Zao t≤40:=by
 apply Classical.byContradiction
 intro hn
 have h1:=ZhP h
 have sn:=Zdr t
 have h2:(2:Int) ^ 41≤2 ^ (Zao t).toNat:=by
  have:=Nat.pow_le_pow_right (n:=2) XJ (show 41≤(Zao t).toNat by omega)
  exact_mod_cast this
 have h3:(ZbR t+1)*(ZbR t+1)≤1000001*1000001:=Int.mul_le_mul ow ow ow ow
 have h4:(2:Int) ^ 41=2199023255552:=XJ
 omega
def Inc (l:List ZeU):Prop:=l.Pairwise fun a b=>a.key<b.key
structure Cell where
 left:Int
 right:Int
 key:Int
 val:Int
 size:Int
 high:Int
 deriving DecidableEq,Inhabited
structure Zqc (room:Int) (q:List Cell):Prop where
 lo:0≤room
 hi:room≤65536
 le:(q.length:Int)≤room
 ok:∀ i,i<q.length→0≤(Nn q i).left∧(Nn q i).left≤i∧0≤(Nn q i).right∧(Nn q i).right≤i
def Zp3 (q:List Cell) (i:Int):Cell×Bool:=if 1≤i∧i≤q.length then (Nn q (i - 1).toNat,true) else (default,false)
def Zps (q:List Cell) (c:Cell):Prop:=c.left<0∨(q.length:Int)<c.left∨c.right<0∨(q.length:Int)<c.right
instance (q:List Cell) (c:Cell):Decidable (Zps q c):=by unfold Zps;exact inferInstance
def ZlZ (q:List Cell) (i:Int):Cell:=(Zp3 q i).1
theorem Zhi (q:List Cell):ZlZ q 0=default:=by unfold ZlZ Zp3;rw [Yb ow]
def Rep (kf:Int→Int) (q:List Cell):ZgB→Int→Prop
 | .nil,i=>i=0
 | .node l p r,i=>(1≤i∧i≤q.length)∧Rep kf q l (ZlZ q i).left∧Rep kf q r (ZlZ q i).right∧(ZlZ q i).key=p.key∧kf p.key=p.key∧(ZlZ q i).val=p.val∧(ZlZ q i).size=ZbR l+ZbR r+1∧(ZlZ q i).high=max (Zao l) (Zao r)+1
theorem Rep.high {kf:Int→Int} {q:List Cell} : ∀ {t:ZgB} {i:Int},Rep kf q t i→(ZlZ q i).high=Zao t
 | .nil,i,h=>by rw [show i=0 from h,Zhi];rfl
 | .node l p r,i,h=>h.2.2.2.2.2.2.2
theorem Rep.size {kf:Int→Int} {q:List Cell} : ∀ {t:ZgB} {i:Int},Rep kf q t i→(ZlZ q i).size=ZbR t
 | .nil,i,h=>by rw [show i=0 from h,Zhi];rfl
 | .node l p r,i,h=>h.2.2.2.2.2.2.1
theorem Rep.node {kf:Int→Int} {q:List Cell} {t:ZgB} {i:Int} (h:Rep kf q t i) (hi:i≠0):∃ l p r,t = .node l p r:=by
 match t,h with
 | .nil,h=>exact absurd h hi
 | .node l p r,h=>exact ⟨l,p,r,rfl⟩
abbrev St:=List Cell×Int×Int
def arV (o:Option Nat):Value:=.pointer (o.map fun b=>⟨b,0,none⟩)
theorem Z6 {P:Program} {d:Option Nat} {ty:TypeId} {pos:String} {af:Array Edge} {g:Option (Nat×Bool)} {x:Operand} {ps:List (Nat×SF)} {a:Anc} {α:Type} {R:α→List PV} {l:List α} {T sz i:Nat} {s:TypeId} {f off:Nat} (n:Nat) (hx:Opd x ps (.adr a (i*sz))) (hi:i<l.length) (ho:P.fieldOff s f=some off) (hd:ZaL d (.adr a (i*sz+off))=true) :
  OpC P ⟨d,.fieldAddr s x f,ty,pos,af,g⟩ ⟨ps,[(n,.ob a (ZC T sz R l))],.adr a (i*sz+off),[]⟩:=
 OpC.read fun act w F hp hr=>by
  obtain ⟨xs,h2,h3,h4⟩:=hr (n,.ob a (ZC T sz R l)) XA
  obtain ⟨ad,cap,e1,h5,h6,h7⟩:=ZM h2
  rcases h7 with h7 | ⟨b,rfl,_,_⟩
  ·omega
  ·have ev:a.v (Act.tau act) = .slice (some ⟨b,0,none⟩) l.length cap:=e1
   have e2:act.eval x = .pointer (some ⟨b,i*sz,none⟩):=by
    have:=hx act w (U F) hp
    simp only [SF.holds,ev,shift,Y2] at this
    exact this
   refine ⟨.pointer (some ⟨b,i*sz+off,none⟩),by simp [execOp,e2,ZbW ho],fun τ' ht=>Z8 (w:=w) (y:=U F) hd ht ?_⟩
   simp [SF.holds,ev,shift]
theorem Zoi {P:Program} {B:ZaK} {F0:Fp} (hG:Zic B F0 2) {E:En} {a:Act} {w:World} {F:Fp} {fn:Func} {q:PV} {k1 k2:HP} {ss:List SF} (G:Sat B E a w F) (h0:Go.Gm.look E.r 0=some (frame B)) (hr:ROk P E fn.results.toList ss) (hq:ZdG ss q)
  (h1:Go.Gm.look E.r 1=some (RS.hp k1)) (h2:Go.Gm.look E.r 2=some (RS.hp k2)):bodyPost P fn (RG B F0 2 q (fun _=>[k1,k2])) .ret a w:=
 Zj4 hG G h0 hr hq fun v τ y hv i h hi=>by
  match i,hi with
  | 0,hi=>simp at hi;subst hi;exact ⟨_,h1,ow,fun _ _ _ h=>h⟩
  | 1,hi=>simp at hi;subst hi;exact ⟨_,h2,ow,fun _ _ _ h=>h⟩
abbrev kz:Int→Int:=fun _=>0
def kp (x:Int):ZeU:=⟨0,x⟩
def ZpR (t:ZgB):List Int:=(Zlm t).map ZeU.val
def ZcC (v:Int):List Int→Int
 | []=>-1
 | x :: l=>if x=v then 0 else if ZcC v l<0 then -1 else ZcC v l+1
theorem Zdy {v:Int} : ∀ {l:List Int},(∀ k,k<l.length→Nn l k≠v)→ZcC v l = -1
 | [],_=>rfl
 | x :: l,h=>by
  have h0:x≠v:=h 0 XA
  rw [ZcC,Yb h0,Zdy (l:=l) fun k hk=>by have:=h (k+1) (by simpa using hk);exact this,Ye XJ]
theorem Zil {v:Int} : ∀ {l:List Int} {i:Nat},i<l.length→Nn l i=v→(∀ k,k<i→Nn l k≠v)→ZcC v l=i
 | [],i,h,_,_=>by simp at h
 | x :: l,0,_,h,_=>by rw [ZcC,Ye (show x=v from h)];rfl
 | x :: l,i+1,h,h1,h2=>by
  have h0:x≠v:=h2 0 ow
  have:=Zil (l:=l) (i:=i) Xz h1 fun k hk=>h2 (k+1) ow
  rw [ZcC,Yb h0,this,Yb ow];omega
def ZkN (l:List Int) (j x:Int):List Int:=if 0≤j∧j≤l.length then l.take j.toNat++x :: l.drop j.toNat else l
structure Zmg (q:List Cell) (t:ZgB) (root:Int):Prop where
 rep:Rep kz q t root
 bal:Bal t
theorem Zmg.nil (q:List Cell):Zmg q .nil 0:=⟨rfl,tv⟩
theorem Zmg.high {q:List Cell} {t:ZgB} {root:Int} (h:Zmg q t root) (hs:ZbR t≤1000000):0≤Zao t∧Zao t≤40:=⟨Zcw t,ZfR h.bal hs⟩
theorem Zox (l:List Int) (v:Int):FnP prog 270 [.sl Zk l,.int .i64 v] (.int .i64 (ZcC v l)):=by
 refine FnP.mk func270 O ntmps270 O fun B a w F M hfr G=>?_
 have hll:=Sat.lenSl G (i:=0) rfl
 refine Ya (rZ G (qI qZ) M Kr [0] fun G=>(Ya (Ya ?_)))
 refine rZ G (qR rr (qu Ybs r1 (qJ qZ))) M KD [0] fun G=>Yf ?_
 refine Zj (σ:=(Nat)) [0,1,4,7] [0] (fun s=>[(8,.pv (.int .i64 (s:Int)))]) (fun s=>[]) (fun s=>s≤l.length∧(∀ k,k<s→Nn l k≠v)) (fun s=>l.length - s) (0) G ⟨rfl,rfl,rfl,rfl,rfl,tv⟩ ⟨rfl,tv⟩ ⟨Yp _,fun k hk=>absurd hk (YO k)⟩ ?_
 clear G;intro i a w F hC G
 have hC:=X4
 obtain ⟨F,G⟩:=G.nM KD [0]
 have G:=X2
 obtain ⟨hi,hq⟩:=hC
 refine Ya (rZ G (qL r2) M Jc [0] fun G=>Ya ?_)
 refine Zb G O (fun hc0=>?_) (fun hc0=>?_)
 ·have hil:i<l.length:=XV
  refine Yc (Za (Ya (Yf (Ya (rZ G (qR rr (qO rr qZ)) M Jd [0] fun G=>Ya ?_)))))
  refine Zi G (qR rr (qR rr (qR rr (qy 1 Ybs r2 (qf (oR false 1 .t) r1 qz (qf (o_eql .t .t) r2 qz qZ)))))) M QP [0] O O fun a w F G=>?_
  try simp only [Yg] at G
  refine Za (Zb G O (fun hc1=>?_) (fun hc1=>?_))
  ·have hg:(i:Int)=ZcC v l:=(Zil hil XU hq).symm
   refine Ya (rZ G (qR rr (qO rr qZ)) M KD [0] fun G=>(Yh (Zq (Ze (Ze (Zq (Ze ?_)))))))
   refine Zr hfr G O O O (.int hg)
  have hne:Nn l i≠v:=XU
  refine Yc (Zh (Za (rZ G (qp r1 (qR rr qZ)) M KD [0] fun G=>?_)))
  replace G:=G.eI 8 i
  obtain ⟨F,G⟩:=G.nM Jt [0]
  exact ⟨(i+1),F,⟨ow,(fun k hk=>by rcases YF (YL hk) with h | h;exact hq k h;rw [h];exact hne)⟩,G,ow⟩
 have hil:i=l.length:=XV
 have hg : -1=ZcC v l:=(Zdy fun k hk=>hq k XV).symm
 refine Yt (Zg (Zg (Zp (Za (Ya (rZ G (qI qZ) M [4] [0] fun G=>Yh ?_))))))
 refine Zr hfr G O O O (.int hg)
theorem ZlL (l:List Int) (v:Int):FnP prog 205 [.sl Zk l,.int .i64 v] (.int .i64 (ZcC v l)):=by
 refine FnP.mk func205 O ntmps205 O fun B a w F M hfr G=>?_
 have hll:=Sat.lenSl G (i:=0) rfl
 refine Ya (rZ G (qI qZ) M Kr [0] fun G=>(Ya (Ya ?_)))
 refine rZ G (qR rr (qu Ybs r1 (qJ qZ))) M Qj [0] fun G=>Yf ?_
 refine Zj (σ:=(Nat)) [1,4,7,8] [0] (fun s=>[(9,.pv (.int .i64 (s:Int)))]) (fun s=>[]) (fun s=>s≤l.length∧(∀ k,k<s→Nn l k≠v)) (fun s=>l.length - s) (0) G ⟨rfl,rfl,rfl,rfl,rfl,tv⟩ ⟨rfl,tv⟩ ⟨Yp _,fun k hk=>absurd hk (YO k)⟩ ?_
 clear G;intro i a w F hC G
 have hC:=X4
 obtain ⟨F,G⟩:=G.nM Qj [0]
 have G:=X2
 obtain ⟨hi,hq⟩:=hC
 refine Ya (rZ G (qL r2) M [10,9,8,7,4,1] [0] fun G=>Ya ?_)
 refine Zb G O (fun hc0=>?_) (fun hc0=>?_)
 ·have hil:i<l.length:=XV
  refine Yc (Za (Ya (Yf (Ya (Zi G (qR rr (qy 1 Ybs r2 (qf (oR false 1 .t) r1 qz (qO rr (qO rr qZ))))) M [9,8,7,6,5,4,1] [0] O O fun a w F G=>?_)))))
  try simp only [Yg] at G
  refine Za (Ya (rZ G (qR rr (qR rr (qf (o_eql .t .t) r2 qz qZ))) M [16,9,8,7,5,4,1] [0] fun G=>?_))
  refine Zb G O (fun hc1=>?_) (fun hc1=>?_)
  ·have hg:(i:Int)=ZcC v l:=(Zil hil XU hq).symm
   refine Ya (rZ G (qR rr (qO rr qZ)) M Qj [0] fun G=>(Yh (Zq (Ze (Ze (Zq (Ze ?_)))))))
   refine Zr hfr G O O O (.int hg)
  have hne:Nn l i≠v:=XU
  refine Yc (Zh (Za (rZ G (qp r1 (qR rr qZ)) M Qj [0] fun G=>?_)))
  replace G:=G.eI 9 i
  obtain ⟨F,G⟩:=G.nM [8,7,4,1,9] [0]
  exact ⟨(i+1),F,⟨ow,(fun k hk=>by rcases YF (YL hk) with h | h;exact hq k h;rw [h];exact hne)⟩,G,ow⟩
 have hil:i=l.length:=XV
 have hg : -1=ZcC v l:=(Zdy fun k hk=>hq k XV).symm
 refine Yt (Zg (Zg (Zp (Za (Ya (rZ G (qI qZ) M [4] [0] fun G=>Yh ?_))))))
 refine Zr hfr G O O O (.int hg)
theorem ZlR (l:List Int) (j:Int):FnP prog 206 [.sl Zk l,.int .i64 j] (.bool (decide (0≤j∧j<l.length))):=by
 refine FnP.mk func206 O ntmps206 O fun B a w F M hfr G=>Ya ?_
 refine rZ G qB M Kr [0] fun G=>Ya ?_
 refine rZ G (qR rr (qf (ZbB .t qi) r1 qz (qR rr (qm O O O O (qm O O O O (qk O (fun h=>ZbV Ybs (.w h)) r2 qz (qk O (fun h=>ZcQ (.w h) (.w h)) r3 qz (qf (o_and2 .t .t) r2 qz (qO rr qZ))))))))) M [4] [0] fun G=>Yh ?_
 refine Zr hfr G O O O (.bool XA)
theorem ZnY (l:List Int) (j x:Int) (hl:l.length≤1000000):FnP prog 207 [.sl Zk l,.int .i64 j,.int .i64 x] (.tup [.sl Zk (ZkN l j x),.bool (decide (0≤j∧j≤l.length))]):=by
 refine FnP.mk func207 O ntmps207 O fun B a w F M hfr G=>Ya ?_
 refine rZ G (qC qB) M KK [0] fun G=>(Ya (Ya ?_))
 refine rZ G (qR rr (qf (ZcQ .t qi) r1 qz (qR rr (qm O O O O (qm O O O O (qk O (fun h=>ZbV Ybs (.w h)) r2 qz (qk O (fun h=>Za7 (.w h) (.w h)) r3 qz (qf (ZaU .t .t) r2 qz qZ)))))))) M Jy [0] fun G=>?_
 refine Zb G O (fun hc0=>?_) (fun hc0=>?_)
 ·have hj:¬ (0≤j∧j≤l.length):=XV
  have hfin:l=ZkN l j x:=(Yb hj).symm
  have hfin2:false=decide (0≤j∧j≤l.length):=(Yw hj).symm
  refine Ya (rZ G (qR rr (qO rr qB)) M KK [0] fun G=>(Yh (Ze ?_)))
  refine ZL hfr G O (.tmp O (.tmp O .nil)) (.two (.sl hfin) (.bool hfin2))
 have hj:0≤j∧j≤l.length:=XV
 have hfin:[] ++ l.take j.toNat ++ [x] ++ l.drop j.toNat=ZkN l j x:=by unfold ZkN;rw [Ye hj];simp
 have hfin2:true=decide (0≤j∧j≤l.length):=(YS hj).symm
 refine Yc (Za (Ya (rS G (qf (Z2 (R:=Zk) (sz:=1) 101 Ybs kr) trivial qz (qR rr (qR rr (qf (ZdN (sz:=1) (.mk Ybs kr) XW .t .t ow ow) r2 qz (qf (o_append (sz:=1) (bs:=8) 101 (.mk' Ybs kr kr) XW .same (.sl .t) XX XJ) ⟨rfl,rfl,tv⟩ ⟨rfl,tv⟩ (qO rr qZ)))))) M Ku Kf fun τ G=>?_)))
 have G:=X3
 generalize τ 22=v22 at G
 refine Za (Ya (rS G (qR rr (qR rr (qf (Zo (sz:=1) (zs:=[.int .i64 0]) (r:=[(0,.tmp 24)]) (l:=[_]) Ybs kr kr kr kr O O (.one O .t one_int kr .nil) O) r1 qz (qf (o_append (sz:=1) (bs:=8) 101 (.mk' Ybs kr kr) XW .is (.arr (l':=[x]) .t) XX XJ) ⟨rfl,rfl,tv⟩ ⟨rfl,tv⟩ (qO rr qZ))))) M [8,7,6,1,0] Kf fun τ G=>?_))
 have G:=X3
 generalize τ 26=v26 at G
 refine Za (Ya (rS G (qR rr (qR rr (qR rr (qf (Zcm (sz:=1) (.mk Ybs kr) XW .t .t ow ow) r2 qz (qf (o_append (sz:=1) (bs:=8) 101 (.mk' Ybs kr kr) XW .is (.sl .t) XX XJ) ⟨rfl,rfl,tv⟩ ⟨rfl,tv⟩ (qO rr qZ)))))) M [8,7,6] Kf fun τ G=>?_))
 have G:=Xj
 generalize τ 31=v31 at G
 refine Za (Ya (rZ G (qR rr (qO rr qB)) M [7,6] Kf fun G=>Yh ?_))
 obtain ⟨F,G⟩:=G.give 101 6 O rfl
 refine ZL hfr G O (.tmp O (.tmp O .nil)) (.two (.sl hfin) (.bool hfin2))
theorem ZoD (l:List Int) (j:Int) (hl:l.length≤1000000) (hj:0≤j∧j<l.length):FnP prog 208 [.sl Zk l,.int .i64 j] (.sl Zk (l.eraseIdx j.toNat)):=by
 refine FnP.mk func208 O ntmps208 O fun B a w F M hfr G=>?_
 have hw:IntKind.wrap .i64 (j+1)=j+1:=ZK ow
 have hfin:[] ++ l.take j.toNat++l.drop (IntKind.wrap .i64 (j+1)).toNat=l.eraseIdx j.toNat:=by rw [hw,List.eraseIdx_eq_take_drop_succ,Yat,show (j+1).toNat=j.toNat+1 by omega]
 refine Ya (rZ G (qC qZ) M Kr [0] fun G=>Ya ?_)
 refine rS G (qf (Z2 (R:=Zk) (sz:=1) 101 Ybs kr) trivial qz (qR rr (qR rr (qf (ZdN (sz:=1) (.mk Ybs kr) XW .t .t ow ow) r2 qz (qf (o_append (sz:=1) (bs:=8) 101 (.mk' Ybs kr kr) XW .same (.sl .t) XX XJ) ⟨rfl,rfl,tv⟩ ⟨rfl,tv⟩ (qO rr qZ)))))) M KA Kf fun τ G=>?_
 have G:=X3
 generalize τ 10=v10 at G
 refine Za (Ya (rS G (qR rr (qR rr (qR rr (qp r1 (qf (Zcm (sz:=1) (.mk Ybs kr) XW .t .t XY XY) r2 qz (qf (o_append (sz:=1) (bs:=8) 101 (.mk' Ybs kr kr) XW .is (.sl .t) XX XJ) ⟨rfl,rfl,tv⟩ ⟨rfl,tv⟩ (qO rr qZ))))))) M [4] Kf fun τ G=>?_))
 have G:=Xj
 generalize τ 16=v16 at G
 refine Za (Yh ?_)
 obtain ⟨F,G⟩:=G.give 101 4 O rfl
 refine Zr hfr G O O O (.sl hfin)
theorem ZgC {v:Int} {l:List Int} (h:v ∈ l):∃ i:Nat,ZcC v l=i∧i<l.length∧Nn l i=v ∧ ∀ k,k<i→Nn l k≠v:=by
 induction l with
 | nil=>cases h
 | cons x l ih=>
  by_cases hx:x=v
  ·exact ⟨0,by rw [ZcC,Ye hx];rfl,by simp,hx,fun k hk=>absurd hk (YO k)⟩
  ·obtain ⟨i,h1,h2,h3,h4⟩:=ih (by rcases Yo.1 h with h | h;exact absurd h.symm hx;exact h)
   refine ⟨i+1,by rw [ZcC,Yb hx,h1,Yb ow];omega,by simpa using h2,h3,fun k hk=>?_⟩
   cases k with
   | zero=>exact hx
   | succ k=>exact h4 k ow
theorem Zgs {v:Int} {l:List Int} (h:v ∉ l):ZcC v l = -1:=Zdy fun k hk e=>h (e ▸ ZT hk)
theorem ZfB (v:Int) (l:List Int) : -1≤ZcC v l∧ZcC v l<l.length:=by
 by_cases h:v ∈ l
 ·obtain ⟨i,h1,h2,_⟩:=ZgC h
  omega
 ·rw [Zgs h];omega
theorem Zi7 {v:Int} {l:List Int} : 0≤ZcC v l ↔ v ∈ l:=by
 constructor
 ·intro h
  by_cases hm:v ∈ l
  ·exact hm
  ·rw [Zgs hm] at h;omega
 ·intro h
  obtain ⟨i,h1,_⟩:=ZgC h
  omega
def ZeD (l:List Int):Prop:=(∀ x ∈ l,1≤x∧x≤1048575)∧l.Nodup
instance (l:List Int):Decidable (ZeD l):=by unfold ZeD;exact inferInstance
theorem ZeD.take {l:List Int} (h:ZeD l) (i:Nat):ZeD (l.take i):=⟨fun x hx=>h.1 x (Yax hx),h.2.sublist (List.take_sublist i l)⟩
def leI (x y:Int):Bool:=decide (x≤y)
theorem Zku {a b:List Int} : a.mergeSort leI=b.mergeSort leI ↔ a.Perm b:=by
 constructor
 ·intro h
  exact (Yaz a leI).symm.trans (h ▸ Yaz b leI)
 ·intro h
  have hs:∀ l:List Int,List.Pairwise (fun x y=>x≤y) (l.mergeSort leI):=fun l=>by
   have:=Ybe (le:=leI) (fun a b c h1 h2=>by simp [leI] at *;omega) (fun a b=>by simp [leI];omega) l
   exact this.imp fun h=>by simpa [leI] using h
  exact List.Perm.eq_of_pairwise (fun x y _ _ h1 h2=>Int.le_antisymm h1 h2) (hs a) (hs b) (((Yaz a leI).trans h).trans (Yaz b leI).symm)
theorem ZhU {a b:List Int} : (a.length=b.length ∧ ∀ x ∈ a,a.count x=b.count x) ↔ a.Perm b:=by
 constructor
 ·rintro ⟨hl,hc⟩
  have key:∀ (a b:List Int),(∀ x ∈ a,a.count x≤b.count x) → ∃ c,b.Perm (a++c):=by
   intro a
   induction a with
   | nil=>intro b _;exact ⟨b,List.Perm.refl _⟩
   | cons x a ih=>
    intro b h
    have hx:x ∈ b:=by
     have:=h x XA
     rw [List.count_cons_self] at this
     exact List.count_pos_iff.1 ow
    obtain ⟨c,hc⟩:=ih (b.erase x) fun y hy=>by
     have:=h y (by simp [hy])
     rw [List.count_cons] at this
     rw [List.count_erase]
     split at this <;> rename_i e
     ·rw [Ye e];omega
     ·rw [Yb e];omega
    exact ⟨c,(List.perm_cons_erase hx).trans (hc.cons x)⟩
  obtain ⟨c,hp⟩:=key a b fun x hx=>by rw [hc x hx];exact YP _
  have:=hp.length_eq
  rw [Yd] at this
  have hc0:c = []:=Y6 ow
  rw [hc0,Y3] at hp
  exact hp.symm
 ·intro h
  exact ⟨h.length_eq,fun x _=>h.count_eq x⟩
def withO (l:List Int) (tx:Int):List Int:=if tx ∈ l then l else l ++ [tx]
def withoutO (l:List Int) (tx:Int):List Int:=l.filter fun x=>decide (x≠tx)
def Zbk (l:List Int) (tx place:Int):List Int×Int:=if ZcC tx l<0 then ([],3) else if ¬ (0≤place∧place<l.length) then ([],1) else (ZkN (l.eraseIdx (ZcC tx l).toNat) place tx,0)
def Zke (a b:List Int):Prop:=ZeD a∧ZeD b∧a.Perm b
instance (a b:List Int):Decidable (Zke a b):=by unfold Zke;exact inferInstance
theorem ZhG {v:Int} {l:List Int} (h:v ∈ l):l.eraseIdx (ZcC v l).toNat=l.erase v:=by
 induction l with
 | nil=>cases h
 | cons x l ih=>
  by_cases hx:x=v
  ·subst hx
   rw [ZcC,Ye rfl];simp
  ·have hm:v ∈ l:=by rcases Yo.1 h with h | h;exact absurd h.symm hx;exact h
   obtain ⟨i,h1,h2,_⟩:=ZgC hm
   rw [ZcC,Yb hx,Yb ow,h1,List.erase_cons_tail XP,← ih hm,h1]
   rw [show ((i:Int)+1).toNat=i+1 by omega,Yg,List.eraseIdx_cons_succ]
theorem ZkC {l:List Int} {j x:Int} (h:0≤j∧j≤l.length):(ZkN l j x).Perm (x :: l):=by
 unfold ZkN
 rw [Ye h]
 have:=(List.perm_middle (a:=x) (l₁:=l.take j.toNat) (l₂:=l.drop j.toNat))
 rwa [YaR] at this
theorem ZmK {l:List Int} {tx place:Int} (h:tx ∈ l) (hp:0≤place∧place<l.length):Zbk l tx place=(ZkN (l.erase tx) place tx,0):=by
 unfold Zbk
 rw [Yb (by have:=Zi7.2 h;omega),Yb (by simpa using hp),ZhG h]
theorem ZjR {l:List Int} {tx place:Int} (h:tx ∈ l) (hp:0≤place∧place<l.length):(Zbk l tx place).1.Perm l:=by
 rw [ZmK h hp]
 have hl:(l.erase tx).length=l.length - 1:=List.length_erase_of_mem h
 exact (ZkC ow).trans (List.perm_cons_erase h).symm
def Zhs:Go.Shelf.Ren:=⟨fun | 189=>92 | 125=>152 | 257=>154 | 128=>226 | 129=>227 | 294=>228 | 295=>229 | 296=>230 | 297=>231 | 298=>232 | 299=>233 | 216=>213 | 300=>234 | 301=>235 | 328=>266 | 329=>262 | 330=>263 | 331=>267 | 332=>268 | 215=>175 | 343=>278 | n=>n,fun | 28=>37 | 3=>3 | 46=>219 | 0=>0 | 51=>274 | 53=>262 | 4=>4 | 183=>268 | 182=>267 | 131=>105 | 5=>5 | 9=>9 | 218=>301 | 222=>305 | 228=>314 | 229=>315 | n=>n,fun  | n=>n⟩
theorem Zjn:Lays.n189 prog Zhs where
 mixed:=by kernel_rfl
 f125:=func152.trans (Yap some kr)
 f128:=func226.trans (Yap some kr)
 f129:=func227.trans (Yap some kr)
 f189:=func92.trans (Yap some kr)
 f215:=func175.trans (Yap some kr)
 f216:=func213.trans (Yap some kr)
 f257:=func154.trans (Yap some kr)
 f294:=func228.trans (Yap some kr)
 f295:=func229.trans (Yap some kr)
 f296:=func230.trans (Yap some kr)
 f297:=func231.trans (Yap some kr)
 f298:=func232.trans (Yap some kr)
 f299:=func233.trans (Yap some kr)
 f300:=func234.trans (Yap some kr)
 f301:=func235.trans (Yap some kr)
 f328:=func266.trans (Yap some kr)
 f329:=func262.trans (Yap some kr)
 f330:=func263.trans (Yap some kr)
 f331:=func267.trans (Yap some kr)
 f332:=func268.trans (Yap some kr)
 f343:=func278.trans (Yap some kr)
 t0:=underlying0
 a0:=Tryz.isAgg0
 z0:=Tryz.sizeOf0
 v0:=Tryz.zeroValue0
 t3:=Ybx
 a3:=Tryz.isAgg3
 z3:=Tryz.sizeOf3
 v3:=Tryz.zeroValue3
 t4:=underlying4
 a4:=Tryz.isAgg4
 z4:=Tryz.sizeOf4
 v4:=Tryz.zeroValue4
 t5:=underlying5
 a5:=Tryz.isAgg5
 z5:=Tryz.sizeOf5
 v5:=Tryz.zeroValue5
 t9:=underlying9
 a9:=Tryz.isAgg9
 z9:=Tryz.sizeOf9
 v9:=Tryz.zeroValue9
 t28:=Ybs
 a28:=Tryz.isAgg37
 z28:=Tryz.sizeOf37
 v28:=Tryz.zeroValue37
 t46:=underlying219
 a46:=Tryz.isAgg219
 z46:=Tryz.sizeOf219
 v46:=Tryz.zeroValue219
 t51:=underlying274
 a51:=Tryz.isAgg274
 z51:=Tryz.sizeOf274
 v51:=Tryz.zeroValue274
 t53:=underlying262
 a53:=Tryz.isAgg262
 z53:=Tryz.sizeOf262
 v53:=Tryz.zeroValue262
 t131:=underlying105
 a131:=Tryz.isAgg105
 z131:=Tryz.sizeOf105
 v131:=Tryz.zeroValue105
 t182:=underlying267
 a182:=Tryz.isAgg267
 z182:=Tryz.sizeOf267
 v182:=Tryz.zeroValue267
 t183:=underlying268
 a183:=Tryz.isAgg268
 z183:=Tryz.sizeOf268
 v183:=Tryz.zeroValue268
 t218:=underlying301
 a218:=Tryz.isAgg301
 z218:=Tryz.sizeOf301
 v218:=Tryz.zeroValue301
 t222:=underlying305
 a222:=Tryz.isAgg305
 z222:=Tryz.sizeOf305
 v222:=Tryz.zeroValue305
 t228:=underlying314
 a228:=Tryz.isAgg314
 z228:=Tryz.sizeOf314
 v228:=Tryz.zeroValue314
 t229:=underlying315
 a229:=Tryz.isAgg315
 z229:=Tryz.sizeOf315
 v229:=Tryz.zeroValue315
theorem ZlF (w:World):Calls prog 92 #[.slice none 0 0] w (fun e w'=>e = .returned (.tuple #[])∧w' = w):=
 Go.calls_of_every_depth fun D=>Go.Proofs.AnyS.slices_Sort_int_none_in Zjn D none 0 w
theorem Zis {w:World} {y:Ys} : ∀ {l:List Int} {xs:List Value},PVs (l.flatMap Zk) xs w y→xs=l.map (Value.int .i64) ∧ ∀ x ∈ l,inR .i64 x
 | [],[],_=>⟨rfl,fun x hx=>by cases hx⟩
 | [],_ :: _,h=>h.elim
 | x :: l,[],h=>h.elim
 | x :: l,v :: xs,h=>by
  have h1:v = .int .i64 x∧inR .i64 x:=h.1.2
  obtain ⟨h2,h3⟩:=Zis (l:=l) (xs:=xs) h.2
  exact ⟨by rw [h1.1,h2];rfl,fun z hz=>by rcases Yo.1 hz with rfl | hz;exact h1.2;exact h3 z hz⟩
theorem ZeH {w:World} {y:Ys} : ∀ {l:List Int},(∀ x ∈ l,inR .i64 x)→PVs (l.flatMap Zk) (l.map (Value.int .i64)) w y
 | [],_=>trivial
 | x :: l,h=>⟨⟨rfl,rfl,h x XA⟩,ZeH fun z hz=>h z XZ⟩
theorem ZmO {l:List Int} {j:Nat} (hj:j<l.length):(l.toArray)[j]! = l[j]:=by simp [hj]
theorem Zik {w:World} {g n:Nat} {d:List Int} {os:Array Obj} {cur:Array Value} {e:TypeId} (hg:w.heap[g]? = some (.cells cur e (0,0))) (b:Nat) (hb:b<w.heap.size) :
  (Go.Sort.grow (Go.Sort.putRow (Value.int .i64) (Go.Sort.ahead w n) g 0 d.toArray) os).heap[b]? = if b=g then some (.cells (Go.Sort.putCells (Value.int .i64) 0 d.toArray cur) e (0,0)) else w.heap[b]?:=by
 unfold Go.Sort.grow Go.Sort.putRow Go.Sort.mapBlock Go.Sort.ahead
 simp only
 rw [Array.getElem?_append_left (by simpa using hb),Array.getElem?_modify]
 by_cases h:g=b
 ·subst h
  rw [Ye rfl,Ye rfl,hg];rfl
 ·rw [Yb h,Yb (fun e=>h e.symm)]
theorem Zl6 {cur:Array Value} {d:List Int} (h:d.length≤cur.size):(Go.Sort.putCells (Value.int .i64) 0 d.toArray cur).toList.take d.length=d.map (Value.int .i64):=by
 apply List.ext_getElem
 ·simp [Go.Sort.putCells];omega
 ·intro i h1 h2
  have hi:i<d.length:=XO
  simp [Go.Sort.putCells,hi]
theorem ZiJ (v:Value) (l:List Int) (hlm:l.length≤1000000):FnG prog 92 1 [.is v] [ZC 3 1 Zk l v] (.tup []) (fun _=>[ZC 3 1 Zk (l.mergeSort leI) v]):=fun w F vs hw hle hvs hpr=>by
 match vs,hvs with
 | [u],hvs=>
  have hu:u=v:=hvs.1.1
  subst hu
  obtain ⟨xs,⟨hxl,hx⟩,hp,hf⟩:=hpr 0 _ rfl
  rcases hx with ⟨rfl,h0⟩ | ⟨g,cap,cur,rfl,_,hg,hn,hcap,hcs,hct⟩
  ·have hl:l = []:=Y6 h0
   subst hl
   refine (ZlF w).mono ?_
   rintro e w' ⟨rfl,rfl⟩
   refine ⟨.tuple #[],F,rfl,hw,⟨rfl,rfl,rfl,YP _,fun _ _ _=>rfl,fun _ _=>rfl,fun n hn b hb=>.inl ⟨n,hn,hb⟩⟩,hle,⟨[],rfl,tv⟩,fun i h hi=>?_⟩
   match i,hi with
   | 0,hi=>simp at hi;subst hi;exact ⟨xs,⟨hxl,.inl ⟨rfl,rfl⟩⟩,by simpa using hp,hf⟩
  ·have hgs:g<w.heap.size:=(YZ.1 hg).1
   obtain ⟨hxe,hin⟩:=Zis hp
   have hcl:l.length≤cur.size:=by rw [hcs];omega
   have hbig:l.length<4611686018427387904:=ow
   have hcur:∀ j (hj:j<l.length),cur[j]? = some (.int .i64 l[j]):=fun j hj=>by
    have h1:(cur.toList.take (l.length*1))[j]? = (l.map (Value.int .i64))[j]?:=by rw [hct,hxe]
    rw [List.getElem?_take_of_lt ow] at h1
    simpa [hj] using h1
   have hH:Go.Sort.Holds (Value.int .i64) w g 0 l.toArray:=fun j hj=>by
    have hj':j<l.length:=Xx
    refine ⟨?_,?_⟩
    ·rw [ZmO hj',Y2,ZaJ hg];exact hcur j hj'
    ·simp [World.frozen?,hg]
   have hcalls:Calls prog 92 #[.slice (some ⟨g,0,none⟩) l.length cap] w fun e w'=>e = .returned (.tuple #[]) ∧ ∃ n os,w' = Go.Sort.grow (Go.Sort.putRow (Value.int .i64) (Go.Sort.ahead w n) g 0 (l.mergeSort leI).toArray) os:=Go.Proofs.Any.slices_Sort_int Zjn g 0 cap l w hH hgs hbig
   refine hcalls.mono ?_
   rintro e w' ⟨rfl,n,os,rfl⟩
   have hsl:(l.mergeSort leI).length=l.length:=List.length_mergeSort l
   have hheap:=fun b hb=>Zik (n:=n) (d:=l.mergeSort leI) (os:=os) hg b hb
   have hsz:(Go.Sort.grow (Go.Sort.putRow (Value.int .i64) (Go.Sort.ahead w n) g 0 (l.mergeSort leI).toArray) os).heap.size=w.heap.size+os.size:=by simp [Go.Sort.ahead]
   have hfg:F 1 g:=(hf g).2 rfl
   have hst:Stp (List.range' 1 1) w F (Go.Sort.grow (Go.Sort.putRow (Value.int .i64) (Go.Sort.ahead w n) g 0 (l.mergeSort leI).toArray) os) F:=
    ⟨rfl,rfl,rfl,by rw [hsz];omega,fun b hb hn=>by
     rw [hheap b hb,Yb (fun e=>by subst e;exact hn 1 XA hfg)],fun _ _=>rfl,fun n hn b hb=>.inl ⟨n,hn,hb⟩⟩
   refine ⟨.tuple #[],F,rfl,⟨hw.dis,fun n b hb=>by rw [hsz];have:=hw.bd n b hb;omega⟩,hst,hle,⟨[],rfl,tv⟩,fun i h hi=>?_⟩
   match i,hi with
   | 0,hi=>
    simp only [List.getElem?_cons_zero,Y7] at hi
    subst hi
    refine ⟨(l.mergeSort leI).map (Value.int .i64),⟨by simp,.inr ⟨g,cap,_,by rw [hsl],Yp _,(hheap g hgs).trans (Ye O),ow,hcap,by simp [Go.Sort.putCells,hcs],?_⟩⟩,ZeH fun x hx=>hin x ((Yaz l leI).mem_iff.1 hx),hf⟩
    rw [Nat.mul_one];exact Zl6 ow
theorem Zay {α:Type} [Inhabited α] {p:α→Bool} {l:List α} {j:Nat} (h:j<l.length):(l.take (j+1)).filter p=(l.take j).filter p++if p (Nn l j)=true then [Nn l j] else []:=by
 rw [Zu h,YU]
 congr 1
 by_cases e:p (Nn l j)=true
 ·rw [Ye e];simp [e]
 ·rw [Yb e];simp at e;simp [e]
def Z0 {α:Type} [Inhabited α] (p:α→Bool) (l:List α):Int:=match l.findIdx? p with
 | some i=>i
 | none=>-1
theorem Zb4 {α:Type} [Inhabited α] {p:α→Bool} {l:List α} (h:∀ k,k<l.length→p (Nn l k)=false):Z0 p l = -1:=by
 unfold Z0
 have:l.findIdx? p=none:=List.findIdx?_eq_none_iff.2 fun x hx=>by
  obtain ⟨k,hk,rfl⟩:=List.mem_iff_getElem.1 hx
  rw [← Zw hk];exact h k hk
 rw [this]
theorem ZdW {α:Type} [Inhabited α] {p:α→Bool} {l:List α} {i:Nat} (hi:i<l.length) (h:p (Nn l i)=true) (h2:∀ k,k<i→p (Nn l k)=false):Z0 p l=i:=by
 unfold Z0
 have:l.findIdx? p=some i:=List.findIdx?_eq_some_iff_getElem.2 ⟨hi,by rw [← Zw hi];exact h,fun k hk=>by rw [← Zw ow,h2 k hk];decide⟩
 rw [this]
theorem Zaz {α:Type} [Inhabited α] (p:α→Bool) (l:List α):(Z0 p l = -1 ∧ ∀ k,k<l.length→p (Nn l k)=false) ∨ ∃ i:Nat,Z0 p l=i∧i<l.length∧p (Nn l i)=true ∧ ∀ k,k<i→p (Nn l k)=false:=by
 cases h:l.findIdx? p with
 | none=>
  left
  refine ⟨by unfold Z0;rw [h],fun k hk=>?_⟩
  have:=List.findIdx?_eq_none_iff.1 h l[k] (Ybk hk)
  rw [Zw hk];exact this
 | some i=>
  right
  obtain ⟨h1,h2,h3⟩:=List.findIdx?_eq_some_iff_getElem.1 h
  refine ⟨i,by unfold Z0;rw [h],h1,by rw [Zw h1];exact h2,fun k hk=>?_⟩
  rw [Zw ow]
  simpa using h3 k hk
theorem ZdE {α:Type} [Inhabited α] {p:α→Bool} {l:List α} (h:∀ k,k<l.length→p (Nn l k)=false):l.filter (fun x=>!p x)=l:=by
 rw [YaL]
 intro x hx
 obtain ⟨k,hk,rfl⟩:=List.mem_iff_getElem.1 hx
 rw [← Zw hk,h k hk];rfl
theorem Zf0 {α:Type} [Inhabited α] {p:α→Bool} {l:List α} {i:Nat} (hi:i<l.length) (hip:p (Nn l i)=true) (hib:∀ k,k<i→p (Nn l k)=false):l.take i=(l.take (i+1)).filter fun x=>!p x:=by
 have h:(l.take i).filter (fun x=>!p x)=l.take i:=ZdE fun k hk=>by
  rw [Yj] at hk
  rw [Zw W4,List.getElem_take,← Zw ow]
  exact hib k ow
 rw [Zay (p:=fun x=>!p x) hi,hip,h];simp
theorem ZfP:inR .i64 0:=by show IntKind.min .i64≤0∧0≤IntKind.max .i64;decide
theorem Zc3 (l:List Int) (hl:l.length≤1000000):FnG prog 91 1 [.sl Zk l] [.star []] (PV.one) (fun v=>[ZC 3 1 Zk l v]):=by
 refine FnG.mk func91 O ntmps91 O kr fun B F0 a w F M hG G=>?_
 obtain ⟨F,G⟩:=G.nM [0] [0]
 refine Ya (rZ G (qC qZ) M KO [0] fun G=>(Ya (Ya ?_)))
 refine Zi G (qR rr (qf (Zbn Ybs .t) r1 qz qZ)) M Qe [0] O O fun a w F G=>?_
 obtain ⟨β4,hβ4,G⟩:=G.pickBool 4 rfl
 obtain ⟨F,G⟩:=G.nM Qe [0]
 refine Za (Zb G O (fun hc0=>?_) (fun hc0=>?_))
 ·have hg:l = []:=hβ4 hc0
  refine Ya (rZ G (qC qZ) M KO [0] fun G=>(Yh (Ze ?_)))
  have G:=G.fresh 1 rfl
  have G:=G.turn 1 O (ZaC (T:=3) (sz:=1) (R:=Zk))
  have G:=G.turn 1 O (r':=RS.hp (ZC 3 1 Zk l (.slice none 0 0))) (fun _ _ _ _ h=>by rw [hg];exact h)
  refine Zac (h':=fun v=>ZC 3 1 Zk l v) hG G O (.tmp O .nil) (.one .one) rfl
 have hg:l = [] ++ l:=rfl
 refine Yc (Za (Ya (rS G (qf (Z2 (R:=Zk) (sz:=1) 101 Ybs kr) trivial qz (qR rr (qf (o_append (sz:=1) (bs:=8) 101 (.mk' Ybs kr kr) XW .same (.sl .t) W5 XJ) ⟨rfl,rfl,tv⟩ ⟨rfl,tv⟩ (qO rr qZ)))) M [2] Kf fun τ G=>?_)))
 have G:=X3
 generalize τ 7=v7 at G
 refine Za (Yh ?_)
 obtain ⟨F,G⟩:=G.rename 101 1 O rfl
 have G:=G.turn 1 O (r':=RS.hp (ZC 3 1 Zk l v7)) (fun _ _ _ _ h=>by rw [hg];exact h)
 refine Zac (h':=fun v=>ZC 3 1 Zk l v) hG G O (.tmp O .nil) (.one .one) rfl
theorem Zok (l : List Int) (p : Int → Bool) (f : FuncId) (fn : Func) (cps : List PV) (hf : prog.funcs[f]? = some fn) (hb : fn.body.isSome = true) (hnn : (fn.name == "runtime.NumGoroutine") = false) (hw : ∀ x, FnP prog f (.int .i64 x :: cps) (.bool (p x))) : FnP prog 271 [.sl Zk l, .clos f cps] (.int .i64 (Z0 p l)) := by
 refine FnP.mk func271 O ntmps271 O fun B a w F M hfr G=>?_
 have hll:=Sat.lenSl G (i:=0) rfl
 refine Ya (rZ G (qI qZ) M Kr [0] fun G=>(Ya (Ya ?_)))
 refine rZ G (qR rr (qu Ybs r1 (qJ qZ))) M KD [0] fun G=>Yf ?_
 refine Zj (σ:=(Nat)) [0,1,4,7] [0] (fun s=>[(8,.pv (.int .i64 (s:Int)))]) (fun s=>[]) (fun s=>s≤l.length∧(∀ k,k<s→p (Nn l k)=false)) (fun s=>l.length - s) (0) G ⟨rfl,rfl,rfl,rfl,rfl,tv⟩ ⟨rfl,tv⟩ ⟨Yp _,fun k hk=>absurd hk (YO k)⟩ ?_
 clear G;intro i a w F hC G
 have hC:=X4
 obtain ⟨F,G⟩:=G.nM KD [0]
 have G:=X2
 obtain ⟨hi,hq⟩:=hC
 refine Ya (rZ G (qL r2) M Jc [0] fun G=>Ya ?_)
 refine Zb G O (fun hc0=>?_) (fun hc0=>?_)
 ·skip
  have hil:i<l.length:=XV
  refine Yc (Za (Ya (Yf (Ya (rZ G (qR rr (qO rr qZ)) M Jd [0] fun G=>Ya ?_)))))
  refine Zi G (qR rr (qR rr (qR rr (qy 1 Ybs r2 (qf (oR false 1 .t) r1 qz (qf (ZJ (avs:=[.int .i64 (Nn l i)]) .t (hw (Nn l i)) hf hb hnn (Args.one .t)) r2 qz qZ)))))) M QP [0] O O fun a w F G=>?_
  try simp only [Yg] at G
  refine Za (Zb G O (fun hc1=>?_) (fun hc1=>?_))
  ·skip
   have hg:(i:Int)=Z0 p l:=(ZdW hil hc1 hq).symm
   refine Ya (rZ G (qR rr (qO rr qZ)) M KD [0] fun G=>(Yh (Zq (Ze (Ze (Zq (Ze ?_)))))))
   refine Zr hfr G O O O (.int hg)
  have hne:p (Nn l i)=false:=hc1
  refine Yc (Zh (Za (rZ G (qp r1 (qR rr qZ)) M KD [0] fun G=>?_)))
  replace G:=G.eI 8 i
  obtain ⟨F,G⟩:=G.nM Jt [0]
  exact ⟨(i+1),F,⟨ow,(fun k hk=>by rcases YF (YL hk) with h | h;exact hq k h;rw [h];exact hne)⟩,G,ow⟩
 have hil:i=l.length:=XV
 have hg : -1=Z0 p l:=(Zb4 fun k hk=>hq k XV).symm
 refine Yt (Zg (Zg (Zp (Za (Ya (rZ G (qI qZ) M [4] [0] fun G=>Yh ?_))))))
 refine Zr hfr G O O O (.int hg)
theorem Zog (v : Value) (l : List Int) (hll : l.length ≤ 1000000) (p : Int → Bool) (f : FuncId) (fn : Func) (cps : List PV) (hf : prog.funcs[f]? = some fn) (hb : fn.body.isSome = true) (hnn : (fn.name == "runtime.NumGoroutine") = false) (hw : ∀ x, FnP prog f (.int .i64 x :: cps) (.bool (p x))) : FnG prog 239 1 [.is v, .clos f cps] [ZC 3 1 Zk l v] (PV.one) (fun v => [ZC 3 1 Zk (l.filter fun x => !p x) v]) := by
 refine FnG.mk func239 O ntmps239 O kr fun B F0 a w F M hG G=>?_
 replace G:=G.turn 1 O (r':=.ob (.val v) (ZC 3 1 Zk l)) (fun _ _ _ _ h=>h)
 refine Ya (rZ G (qC qZ) M Kr Kk fun G=>Ya ?_)
 refine rZ G (qR rr (qR rr (qf (OpC.lendRow 1 [8] (oP (Zok l p f fn cps hf hb hnn hw) func271 (Args.two .t .t)) ⟨rfl,tv,tv⟩ (.pv (fun _ _ _ _ h=>h)) trivial XI) r2 r1 (qO rr qZ)))) M KA Kk fun G=>(Ya (Ya ?_))
 refine rZ G (qR rr (qf (o_eql .t qi) r1 qz qZ)) M [12,5,4,1,0] Kk fun G=>?_
 refine Zb G O (fun hc0=>?_) (fun hc0=>?_)
 ·skip
  have hno:=(Zaz p l).resolve_right (by rintro ⟨i,h1,_⟩;simp at hc0;omega)
  have hg:(l.filter fun x=>!p x)=l:=ZdE hno.2
  refine Ya (rZ G (qR rr (qO rr qZ)) M KA Kk fun G=>(Yh (Ze ?_)))
  have G:=G.turn 1 O (r':=RS.hp (ZC 3 1 Zk (l.filter fun x=>!p x) v)) (fun _ _ _ _ h=>by rw [hg];exact h)
  refine Zac (h':=fun v=>ZC 3 1 Zk (l.filter fun x=>!p x) v) hG G O (.tmp O .nil) (.one .one) rfl
 obtain ⟨i0,hi0,hi1,hip,hib⟩:=(Zaz p l).resolve_left (by rintro ⟨h1,_⟩;simp [h1] at hc0)
 have hst0:=Zf0 hi1 hip hib
 refine Yc (Za (Ya (Ya (rZ G (qR rr (qp r1 (qO rr qZ))) M Kx Kk fun G=>Yf ?_))))
 have hC0:i0<i0+1∧i0+1≤l.length∧l.length=l.length∧l.take i0=(l.take (i0+1)).filter (fun x=>!p x) ∧ ∀ k,i0+1≤k→k<l.length→Nn l k=Nn l k:=⟨ow,ow,rfl,hst0,fun k _ _=>rfl⟩
 replace G:=G.ent (i:=5) (s':=.pv (.int .i64 (i0:Int))) O (.int hi0)
 replace G:=G.ent (i:=6) (s':=.pv (.int .i64 ((i0+1:Nat):Int))) O (.int (by rw [hi0,ZK ow];omega))
 refine Zj (σ:=Nat×Nat×List Int) [0,1,4] [0] (fun s=>[(5,.pv (.int .i64 (s.1:Int))),(6,.pv (.int .i64 (s.2.1:Int)))]) (fun s=>[(1,.ob (.val v) (ZC 3 1 Zk s.2.2))]) (fun s=>s.1<s.2.1∧s.2.1≤l.length∧s.2.2.length=l.length∧s.2.2.take s.1=(l.take s.2.1).filter (fun x=>!p x) ∧ ∀ k,s.2.1≤k→k<l.length→Nn s.2.2 k=Nn l k) (fun s=>l.length - s.2.1) ((i0),(i0+1),(l)) G ⟨rfl,rfl,rfl,rfl,rfl,tv⟩ ⟨rfl,rfl,tv⟩ hC0 ?_
 clear G;intro s a w F hC G
 obtain ⟨i,j,l1⟩:=s
 have hC:=X4
 obtain ⟨F,G⟩:=G.nM Kx Kk
 have G:=X2
 obtain ⟨hij,hj,hll1,htk,hrest⟩:=hC
 refine Ya (Ya (rZ G (qR rr (qR rr (qf (Z3 1 Ybs .is) r1 r1 (qL r2)))) M [19,6,5,4,1,0] Kk fun G=>?_))
 refine Zb G O (fun hc1=>?_) (fun hc1=>?_)
 ·skip
  have hjl:j<l.length:=XU
  have hnj:Nn l1 j=(Nn l j):=hrest j (YP _) hjl
  have hfs:=Zay (p:=fun x=>!p x) hjl
  refine Yc (Za (Ya (Yf (Ya (Zi G (qR rr (qR rr (qf (o_indexAddr_row (sz:=1) 1 (.mk Ybs kr) .is .t ow ow XI) r2 r1 (qf (Zaw (ag:=false) (sz':=1) (sz:=1) 1 .t XW ow kr kr kr) r1 r1 (qO rr qZ))))) M [7,6,5,4,1,0] Kk O O fun a w F G=>?_)))))
  try simp only [Yg] at G
  rw [hnj] at G
  refine Za (Ya (rZ G (qR rr (qR rr (qf (ZJ (avs:=[.int .i64 (Nn l j)]) .t (hw (Nn l j)) hf hb hnn (Args.one .t)) r2 qz (qf (o_not .t) r1 qz qZ)))) M [29,7,6,5,4,1,0] Kk fun G=>?_))
  refine Zb G O (fun hc2=>?_) (fun hc2=>?_)
  ·skip
   have hp:p (Nn l j)=false:=Wh
   obtain ⟨i2,hi2e⟩:∃ i2,i2=i+1:=⟨_,rfl⟩
   have hi2:IntKind.wrap .i64 ((i:Int)+1)=(i2:Int):=WR
   obtain ⟨l2,hl2⟩:∃ l2,l2=l1.set i (Nn l j):=⟨_,rfl⟩
   have hC2:i2<j+1∧j+1≤l.length∧l2.length=l.length∧l2.take i2=(l.take (j+1)).filter (fun x=>!p x) ∧ ∀ k,j+1≤k→k<l.length→Nn l2 k=Nn l k:=⟨ow,ow,by rw [hl2,YT];exact hll1,by rw [hl2,hi2e,hfs,hp,← htk,Zu W6,List.take_set_of_le (YP _),Zw W6,List.getElem_set_self];rfl,fun k hk hk2=>by rw [hl2,Zw W6,List.getElem_set_ne ow,← Zw ow];exact hrest k ow hk2⟩
   refine Ya (Zi G (qR rr (qR rr (qR rr (qf (o_indexAddr_row (sz:=1) 1 (.mk Ybs kr) .is .t ow ow XI) r2 r1 (qf (Zd5 (R:=Zk) (sz:=1) (v:=(Nn l j)) 1 .t XW ow .t O one_int kr) r2 r1 qZ))))) M Kx Kk O O fun a w F G=>?_)
   try simp only [Yg] at G
   rw [← hl2] at G
   refine Za (Zi G (qR rr (qp r1 (qO rr qZ))) M Kx Kk O O fun a w F G=>Zh (Za ?_))
   refine rZ G (qR rr (qp r1 (qO rr qZ))) M Kx Kk fun G=>?_
   have hmu:l.length - (j+1)<l.length - j:=ow
   replace G:=G.ent (i:=5) (s':=.pv (.int .i64 (i2:Int))) O (.int hi2)
   replace G:=G.eI 6 j
   obtain ⟨F,G⟩:=G.nM Ju [0,1]
   exact ⟨((i2),(j+1),(l2)),F,hC2,G,hmu⟩
  have hp:p (Nn l j)=true:=Wh
  obtain ⟨i2,hi2e⟩:∃ i2,i2=i:=⟨_,rfl⟩
  have hi2:(i:Int)=(i2:Int):=Kc
  obtain ⟨l2,hl2⟩:∃ l2,l2=l1:=⟨_,rfl⟩
  rw [← hl2] at G
  have hC2:i2<j+1∧j+1≤l.length∧l2.length=l.length∧l2.take i2=(l.take (j+1)).filter (fun x=>!p x) ∧ ∀ k,j+1≤k→k<l.length→Nn l2 k=Nn l k:=⟨ow,ow,by rw [hl2];exact hll1,by rw [hl2,hi2e,hfs,hp,htk];simp,fun k hk hk2=>by rw [hl2];exact hrest k ow hk2⟩
  refine Yc (Zh (Za (rZ G (qR rr (qp r1 (qO rr qZ))) M Kx Kk fun G=>?_)))
  have hmu:l.length - (j+1)<l.length - j:=ow
  replace G:=G.ent (i:=5) (s':=.pv (.int .i64 (i2:Int))) O (.int hi2)
  replace G:=G.eI 6 j
  obtain ⟨F,G⟩:=G.nM Ju [0,1]
  exact ⟨((i2),(j+1),(l2)),F,hC2,G,hmu⟩
 have hjl:j=l.length:=XU
 have hil2:i<l.length:=ow
 have hg:(l.filter fun x=>!p x)=(l1.take i++List.replicate (l1.length - i) (0:Int)).take i:=WS
 refine Yt (Zg (Zg (Zp (Za (Ya (rZ G (qR rr (qR rr (qf (Zat (sz:=1) 1 (.mk Ybs kr) .is .t ow ow) r2 r1 (qf (ZcO (R:=Zk) (z:=(0:Int)) (zs:=[.int .i64 0]) 1 Ybs kr O O (fun _ _=>⟨⟨rfl,rfl,ZfP⟩,tv⟩) XW .t XG) r1 r1 qZ)))) M [5,4,0] Kk fun G=>Ya ?_))))))
 refine rS G (qR rr (qR rr (qf (ZeW (sz:=1) 1 (.mk Ybs kr) XW .is .t ow XG) r2 r1 (qO rr qZ)))) M [4] Kk fun τ G=>?_
 have G:=Xd
 generalize τ 41=v41 at G
 refine Za (Yh ?_)
 have G:=G.turn 1 O (r':=RS.hp (ZC 3 1 Zk (l.filter fun x=>!p x) v41)) (fun _ _ _ _ h=>by rw [hg];exact h)
 refine Zac (h':=fun v=>ZC 3 1 Zk (l.filter fun x=>!p x) v) hG G O (.tmp O .nil) (.one .one) rfl
def ZE {α:Type} [DecidableEq α]:List α→List α
 | []=>[]
 | [x]=>[x]
 | x :: y :: l=>if x=y then ZE (y :: l) else x :: ZE (y :: l)
theorem ZbT {α:Type} [DecidableEq α] (a b:α):∀ l:List α,ZE (l ++ [a,b])=if a=b then ZE (l ++ [a]) else ZE (l ++ [a]) ++ [b]
 | []=>by
  show (if a=b then [b] else a :: [b])=if a=b then [a] else [a] ++ [b]
  split
  ·rename_i h;rw [h]
  ·rfl
 | [x]=>by
  have ih:=ZbT a b []
  show (if x=a then ZE ([] ++ [a,b]) else x :: ZE ([] ++ [a,b]))=if a=b then (if x=a then ZE ([] ++ [a]) else x :: ZE ([] ++ [a])) else (if x=a then ZE ([] ++ [a]) else x :: ZE ([] ++ [a])) ++ [b]
  rw [ih]
  by_cases h1:x=a <;> by_cases h2:a=b <;> simp [h1,h2]
 | x :: y :: l=>by
  have ih:=ZbT a b (y :: l)
  show (if x=y then ZE (y :: l ++ [a,b]) else x :: ZE (y :: l ++ [a,b]))=if a=b then (if x=y then ZE (y :: l ++ [a]) else x :: ZE (y :: l ++ [a])) else (if x=y then ZE (y :: l ++ [a]) else x :: ZE (y :: l ++ [a])) ++ [b]
  rw [ih]
  by_cases h1:x=y <;> by_cases h2:a=b <;> simp [h1,h2]
theorem Zdd {α:Type} [DecidableEq α] [Inhabited α] {l:List α} {p:Nat} (h1:1≤p) (h2:p<l.length):ZE (l.take (p+1))=if Nn l (p - 1)=Nn l p then ZE (l.take p) else ZE (l.take p) ++ [Nn l p]:=by
 obtain ⟨q,rfl⟩:∃ q,p=q+1:=⟨p - 1,ow⟩
 rw [Zu h2,Zu (show q<l.length by omega),Yad]
 exact ZbT _ _ _
theorem Zd3 {α:Type} [DecidableEq α]:∀ {l:List α},l.length≤1→ZE l=l
 | [],_=>rfl
 | [x],_=>rfl
 | x :: y :: l,h=>by simp at h
theorem ZnC (v:Value) (l:List Int) (hll:l.length≤1000000):FnG prog 212 1 [.is v] [ZC 3 1 Zk l v] (PV.one) (fun v=>[ZC 3 1 Zk (ZE l) v]):=by
 refine FnG.mk func212 O ntmps212 O kr fun B F0 a w F M hG G=>?_
 replace G:=G.turn 1 O (r':=.ob (.val v) (ZC 3 1 Zk l)) (fun _ _ _ _ h=>h)
 refine Ya (rZ G (qC qZ) M KO Kk fun G=>(Ya (Ya ?_)))
 refine rZ G (qR rr (qf (Z3 1 Ybs .is) r1 r1 (qf (ZcQ .t qi) r1 qz qZ))) M [8,2,0] Kk fun G=>?_
 refine Zb G O (fun hc0=>?_) (fun hc0=>?_)
 ·have hg:(ZE l)=l:=Zd3 XV
  refine Ya (rZ G (qR rr (qO rr qZ)) M KO Kk fun G=>(Yh (Ze ?_)))
  have G:=G.turn 1 O (r':=RS.hp (ZC 3 1 Zk (ZE l) v)) (fun _ _ _ _ h=>by rw [hg];exact h)
  refine Zac (h':=fun v=>ZC 3 1 Zk (ZE l) v) hG G O (.tmp O .nil) (.one .one) rfl
 have hl2:2≤l.length:=XV
 refine Yc (Za (Ya (Ya (rZ G (qI qZ) M J4 Kk fun G=>Yf ?_))))
 refine Zj (σ:=Nat) [0,2] [0,1] (fun s=>[(3,.pv (.int .i64 (s:Int)))]) (fun s=>[]) (fun s=>1≤s∧s≤l.length∧ZE (l.take s)=l.take s) (fun s=>l.length - s) (1) G ⟨rfl,rfl,rfl,tv⟩ ⟨rfl,rfl,tv⟩ ⟨ow,ow,Zd3 W4⟩ ?_
 clear G;intro k a w F hC G
 have hC:=X4
 obtain ⟨F,G⟩:=G.nM J4 Kk
 have G:=X2
 obtain ⟨hk1,hkl,hkc⟩:=hC
 have hkw:IntKind.wrap .i64 ((k:Int) - 1)=(k:Int) - 1:=ZK ow
 refine Ya (Ya (rZ G (qR rr (qR rr (qf (Z3 1 Ybs .is) r1 r1 (qL r2)))) M [13,3,2,0] Kk fun G=>?_))
 refine Zb G O (fun hc1=>?_) (fun hc1=>?_)
 ·have hil:k<l.length:=XU
  have hst:=Zdd (l:=l) hk1 hil
  have hy0:(IntKind.wrap .i64 ((k:Int) - 1)).toNat=k - 1:=by rw [hkw];omega
  refine Yc (Za (Ya (Yf (Ya (ZA G (qR rr (qR rr (qf (o_indexAddr_row (sz:=1) 1 (.mk Ybs kr) .is .t ow ow XI) r2 r1 (qf (Zaw (ag:=false) (sz':=1) (sz:=1) 1 .t XW ow kr kr kr) r1 r1 (qR rr (qR rr (qf (o_sub .t qi) r1 qz (qf (o_indexAddr_row (sz:=1) 1 (.mk Ybs kr) .is .t (by rw [hkw];omega) (by rw [hkw];omega) XI) r2 r1 (qf (Zaw (ag:=false) (sz':=1) (sz:=1) 1 .t XW (by rw [hkw];omega) kr kr kr) r1 r1 (qf (o_eql .t .t) r2 qz qZ)))))))))) M [25,3,2,0] Kk O O fun a w F G=>?_)))))
  try dsimp only [List.map,xD,xE,xT,xU,ldSF,Zk] at G
  try simp only [Yg] at G
  refine Za (Zb G O (fun hc2=>?_) (fun hc2=>?_))
  ·have heq:Nn l (k - 1)=Nn l k:=by rw [hy0] at hc2;simp at hc2;exact hc2.symm
   rw [Ye heq,hkc] at hst
   have hst0:=hst.symm
   refine Ya (rZ G (qR rr (qR rr (qf (Zat (sz:=1) 1 (.mk Ybs kr) .is .t ow ow) r2 r1 (qO rr qZ)))) M [4,3,2,0] Kk fun G=>(Ya (Ya ?_)))
   refine rZ G (qI qZ) M QK Kk fun G=>Yf ?_
   have hC0:1≤1∧1≤l.length - k∧k≤k∧k≤k+1 - 1∧l.length=l.length∧l.take k=ZE (l.take (k+1)) ∧ ∀ q,k+1 - 1≤q→q<l.length→Nn l q=Nn l q:=⟨ow,ow,ow,ow,rfl,hst0,fun q _ _=>rfl⟩
   refine Zj (σ:=Nat×Nat×List Int) [0,2,4] [0] (fun s=>[(3,.pv (.int .i64 (s.1:Int))),(5,.pv (.int .i64 (s.2.1:Int)))]) (fun s=>[(1,.ob (.val v) (ZC 3 1 Zk s.2.2))]) (fun s=>1≤s.2.1∧s.2.1≤l.length - k∧k≤s.1∧s.1≤k+s.2.1 - 1∧s.2.2.length=l.length∧s.2.2.take s.1=ZE (l.take (k+s.2.1)) ∧ ∀ q,k+s.2.1 - 1≤q→q<l.length→Nn s.2.2 q=Nn l q) (fun s=>l.length - s.2.1) ((k),(1),(l)) G ⟨rfl,rfl,rfl,rfl,rfl,tv⟩ ⟨rfl,rfl,tv⟩ hC0 ?_
   clear G;intro s a w F hC G
   obtain ⟨k1,j,l1⟩:=s
   have hC:=X4
   obtain ⟨F,G⟩:=G.nM QK Kk
   have G:=X2
   obtain ⟨hj1,hjk,hkk,hkj,hl1,htk,hrest⟩:=hC
   have hjw:IntKind.wrap .i64 ((j:Int) - 1)=(j:Int) - 1:=ZK ow
   refine Ya (Ya (rZ G (qR rr (qR rr (qf (ZlA 1 Ybs .t ow) r1 r1 (qL r2)))) M [32,5,4,3,2,0] Kk fun G=>?_))
   refine Zb G O (fun hc3=>?_) (fun hc3=>?_)
   ·have hjl:k+j<l.length:=WX
    have hx1:(Nn l1 (((k:Int)).toNat+((j:Int)).toNat))=Nn l (k+j):=by rw [Yg,Yg];exact hrest _ ow hjl
    have hx0:Nn l1 (((k:Int)).toNat+(IntKind.wrap .i64 ((j:Int) - 1)).toNat)=Nn l (k+j - 1):=by rw [hjw,show ((k:Int)).toNat+((j:Int) - 1).toNat=k+j - 1 by omega];exact hrest _ ow ow
    have hstp:=Zdd (l:=l) (p:=k+j) ow hjl
    refine Yc (Za (Ya (Yf (Ya (ZA G (qR rr (qR rr (qf (o_indexAddr_sub (sz:=1) 1 (.mk Ybs kr) .t .t ow ow XI) r2 r1 (qf (Zaw (ag:=false) (sz':=1) (sz:=1) 1 .t XW ow kr kr kr) r1 r1 (qR rr (qR rr (qf (o_sub .t qi) r1 qz (qf (o_indexAddr_sub (sz:=1) 1 (.mk Ybs kr) .t .t (by rw [hjw];omega) (by rw [hjw];omega) XI) r2 r1 (qf (Zaw (ag:=false) (sz':=1) (sz:=1) 1 .t XW (by rw [hjw];omega) kr kr kr) r1 r1 (qf (o_neq .t .t) r2 qz qZ)))))))))) M [44,5,4,3,2,0] Kk O O fun a w F G=>?_)))))
    try dsimp only [List.map,xD,xE,xT,xU,ldSF,Zk] at G
    try simp only [Yg] at G
    refine Za (Zb G O (fun hc4=>?_) (fun hc4=>?_))
    ·have hne:¬ Nn l (k+j - 1)=Nn l (k+j):=by rw [← hx1,← hx0];simp at hc4 ⊢;exact fun e=>hc4 e.symm
     rw [Yb hne] at hstp
     obtain ⟨i2,hi2e⟩:∃ i2,i2=k1+1:=⟨_,rfl⟩
     have hi2:IntKind.wrap .i64 ((k1:Int)+1)=(i2:Int):=WR
     obtain ⟨l2,hl2e⟩:∃ l2,l2=l1.set k1 (Nn l1 (k+j)):=⟨_,rfl⟩
     have hx1b:Nn l1 (k+j)=Nn l (k+j):=hrest _ ow hjl
     have hC2:1≤j+1∧j+1≤l.length - k∧k≤i2∧i2≤k+(j+1) - 1∧l2.length=l.length∧l2.take i2=ZE (l.take (k+(j+1))) ∧ ∀ q,k+(j+1) - 1≤q→q<l.length→Nn l2 q=Nn l q:=⟨ow,ow,ow,ow,by rw [hl2e,YT];exact hl1,by rw [hl2e,hi2e,Zu W6,List.take_set_of_le (YP _),htk,Zw W6,List.getElem_set_self,hx1b];exact hstp.symm,fun q hq hq2=>by rw [hl2e,Zw W6,List.getElem_set_ne ow,← Zw ow];exact hrest q ow hq2⟩
     refine Ya (Zi G (qR rr (qR rr (qR rr (qR rr (qf (o_indexAddr_sub (sz:=1) 1 (.mk Ybs kr) .t .t ow ow XI) r2 r1 (qf (Zaw (ag:=false) (sz':=1) (sz:=1) 1 .t XW ow kr kr kr) r1 r1 (qf (o_indexAddr_row (sz:=1) 1 (.mk Ybs kr) .is .t ow ow XI) r2 r1 (qf (Zd5 (R:=Zk) (sz:=1) (v:=(Nn l1 (((k:Int)).toNat+((j:Int)).toNat))) 1 .t XW ow .t O one_int kr) r2 r1 qZ)))))))) M QK Kk O O fun a w F G=>?_)
     try simp only [Yg] at G
     rw [← hl2e] at G
     refine Za (Zi G (qR rr (qp r1 (qO rr qZ))) M QK Kk O O fun a w F G=>Zh (Za ?_))
     refine rZ G (qR rr (qp r1 (qO rr qZ))) M QK Kk fun G=>?_
     have hmu:l.length - (j+1)<l.length - j:=ow
     replace G:=G.ent (i:=3) (s':=.pv (.int .i64 (i2:Int))) O (.int hi2)
     replace G:=G.eI 5 j
     obtain ⟨F,G⟩:=G.nM [4,2,0,5,3] [0,1]
     exact ⟨((i2),(j+1),(l2)),F,hC2,G,hmu⟩
    have heq2:Nn l (k+j - 1)=Nn l (k+j):=by rw [← hx1,← hx0];simp at hc4 ⊢;exact hc4.symm
    rw [Ye heq2] at hstp
    obtain ⟨i2,hi2e⟩:∃ i2,i2=k1:=⟨_,rfl⟩
    have hi2:(k1:Int)=(i2:Int):=Kc
    obtain ⟨l2,hl2e⟩:∃ l2,l2=l1:=⟨_,rfl⟩
    rw [← hl2e] at G
    have hC2:1≤j+1∧j+1≤l.length - k∧k≤i2∧i2≤k+(j+1) - 1∧l2.length=l.length∧l2.take i2=ZE (l.take (k+(j+1))) ∧ ∀ q,k+(j+1) - 1≤q→q<l.length→Nn l2 q=Nn l q:=⟨ow,ow,ow,ow,by rw [hl2e];exact hl1,by rw [hl2e,hi2e,htk];exact hstp.symm,fun q hq hq2=>by rw [hl2e];exact hrest q ow hq2⟩
    refine Yc (Zh (Za (rZ G (qR rr (qp r1 (qO rr qZ))) M QK Kk fun G=>?_)))
    have hmu:l.length - (j+1)<l.length - j:=ow
    replace G:=G.ent (i:=3) (s':=.pv (.int .i64 (i2:Int))) O (.int hi2)
    replace G:=G.eI 5 j
    obtain ⟨F,G⟩:=G.nM [4,2,0,5,3] [0,1]
    exact ⟨((i2),(j+1),(l2)),F,hC2,G,hmu⟩
   have hjl:k+j=l.length:=WX
   have hg:(ZE l)=(l1.take k1++List.replicate (l1.length - k1) (0:Int)).take k1:=WS
   refine Yt (Zg (Zg (Zp (Za (Ya (rZ G (qR rr (qR rr (qf (Zat (sz:=1) 1 (.mk Ybs kr) .is .t ow ow) r2 r1 (qf (ZcO (R:=Zk) (z:=(0:Int)) (zs:=[.int .i64 0]) 1 Ybs kr O O (fun _ _=>⟨⟨rfl,rfl,ZfP⟩,tv⟩) XW .t XG) r1 r1 qZ)))) M J4 Kk fun G=>Ya ?_))))))
   refine rS G (qR rr (qR rr (qf (ZeW (sz:=1) 1 (.mk Ybs kr) XW .is .t ow XG) r2 r1 (qO rr qZ)))) M J4 Kk fun τ G=>?_
   have G:=Xd
   generalize τ 59=v59 at G
   refine Za (Yh (Zq (Ze (Ze (Zq (Ze ?_))))))
   have G:=G.turn 1 O (r':=RS.hp (ZC 3 1 Zk (ZE l) v59)) (fun _ _ _ _ h=>by rw [hg];exact h)
   refine Zac (h':=fun v=>ZC 3 1 Zk (ZE l) v) hG G O (.tmp O .nil) (.one .one) rfl
  have hne:¬ Nn l (k - 1)=Nn l k:=by rw [hy0] at hc2;simp at hc2;exact fun e=>hc2 e.symm
  rw [Yb hne] at hst
  refine Yc (Zh (Za (rZ G (qR rr (qp r1 (qO rr qZ))) M J4 Kk fun G=>?_)))
  replace G:=G.eI 3 k
  obtain ⟨F,G⟩:=G.nM [2,0,3] Kk
  exact ⟨(k+1),F,⟨ow,ow,by rw [hst,hkc,← Zu hil]⟩,G,ow⟩
 have hg:(ZE l)=l:=by rw [show k=l.length by simp at hc1;omega,Yz] at hkc;exact hkc
 refine Yt (Zg (Zg (Zp (Za (Ya (rZ G (qR rr (qO rr qZ)) M [2] Kk fun G=>Yh ?_))))))
 have G:=G.turn 1 O (r':=RS.hp (ZC 3 1 Zk (ZE l) v)) (fun _ _ _ _ h=>by rw [hg];exact h)
 refine Zac (h':=fun v=>ZC 3 1 Zk (ZE l) v) hG G O (.tmp O .nil) (.one .one) rfl
def putIR (n:Int):List Int→Bool→List Int
 | [],d=>if d then [] else [n]
 | x :: l,d=>(if d=false∧n≤x then [n] else [])++(if x=n then [] else [x])++putIR n l (d || decide (n≤x))
def ZbZ (l:List Int) (n:Int):List Int:=putIR n l false
abbrev Za3 (l:List Int):Prop:=l.Pairwise fun a b=>a<b
theorem ZdR {n:Int} : ∀ {l:List Int},(∀ x ∈ l,n<x)→putIR n l true=l
 | [],_=>rfl
 | x :: l,h=>by
  have:=h x XA
  rw [putIR,Bool.true_or,ZdR fun y hy=>h y (by simp [hy]),Yb XA,Yb ow]
  rfl
theorem Zgu {n:Int} : ∀ {l:List Int},Za3 l→Za3 (ZbZ l n) ∧ ∀ x,x ∈ ZbZ l n ↔ x ∈ l∨x=n
 | [],_=>by simp [ZbZ,putIR]
 | y :: l,h=>by
  have h':=Yx.1 h
  unfold ZbZ
  by_cases h1:y<n
  ·have e:putIR n (y :: l) false=y :: putIR n l false:=by
    rw [putIR,Yb ow,Yb ow,show (false || decide (n≤y))=false by simp;omega];rfl
   have ih:=Zgu (n:=n) h'.2
   rw [e]
   refine ⟨Yx.2 ⟨fun p hp=>?_,ih.1⟩,fun x=>?_⟩
   ·rcases (ih.2 p).1 hp with hp | rfl
    ·exact h'.1 p hp
    ·exact h1
   ·have:=ih.2 x
    unfold ZbZ at this
    simp only [Yo,this]
    constructor
    ·rintro (h | h | h)
     ·exact .inl (.inl h)
     ·exact .inl (.inr h)
     ·exact .inr h
    ·rintro ((h | h) | h)
     ·exact .inl h
     ·exact .inr (.inl h)
     ·exact .inr (.inr h)
  ·by_cases h2:y=n
   ·subst h2
    rw [putIR,Ye ⟨rfl,Ybh _⟩,Ye rfl,show (false || decide (y≤y))=true by simp,ZdR h'.1]
    exact ⟨h,fun x=>by simp;intro e;exact .inl e⟩
   ·rw [putIR,Ye ⟨rfl,ow⟩,Yb h2,show (false || decide (n≤y))=true by simp;omega,ZdR fun x hx=>by have:=h'.1 x hx;omega]
    refine ⟨Yx.2 ⟨fun p hp=>?_,h⟩,fun x=>by simp;constructor <;> (rintro (h | h | h) <;> simp [h])⟩
    rcases Yo.1 hp with rfl | hp
    ·omega
    ·have:=h'.1 p hp;omega
def Zan (l:List Int):List Int:=l.foldl ZbZ []
theorem Z9 (l:List Int):Za3 (Zan l) ∧ ∀ x,x ∈ Zan l ↔ x ∈ l:=by
 have key:∀ (l acc:List Int),Za3 acc→Za3 (l.foldl ZbZ acc) ∧ ∀ x,x ∈ l.foldl ZbZ acc ↔ x ∈ acc∨x ∈ l:=by
  intro l
  induction l with
  | nil=>intro acc h;exact ⟨h,fun x=>by simp⟩
  | cons y l ih=>
   intro acc h
   have h1:=Zgu (n:=y) h
   have h2:=ih (ZbZ acc y) h1.1
   refine ⟨h2.1,fun x=>?_⟩
   rw [Yas,h2.2 x,h1.2 x,Yo]
   constructor
   ·rintro ((h | h) | h)
    ·exact .inl h
    ·exact .inr (.inl h)
    ·exact .inr (.inr h)
   ·rintro (h | h | h)
    ·exact .inl (.inl h)
    ·exact .inl (.inr h)
    ·exact .inr h
 have:=key l [] List.Pairwise.nil
 exact ⟨this.1,fun x=>by rw [show Zan l=l.foldl ZbZ [] from rfl,this.2 x];simp⟩
theorem Zd0:∀ {a b:List Int},Za3 a→Za3 b→(∀ x,x ∈ a ↔ x ∈ b)→a=b
 | [],[],_,_,_=>rfl
 | [],y :: b,_,_,h=>by have:=(h y).2 XA;cases this
 | x :: a,[],_,_,h=>by have:=(h x).1 XA;cases this
 | x :: a,y :: b,ha,hb,h=>by
  have ha':=Yx.1 ha
  have hb':=Yx.1 hb
  have e:x=y:=by
   rcases Yo.1 ((h x).1 XA) with e | e
   ·exact e
   ·rcases Yo.1 ((h y).2 XA) with e2 | e2
    ·exact e2.symm
    ·have:=hb'.1 x e;have:=ha'.1 y e2;omega
  subst e
  congr 1
  refine Zd0 ha'.2 hb'.2 fun z=>⟨fun hz=>?_,fun hz=>?_⟩
  ·rcases Yo.1 ((h z).1 XZ) with e | e
   ·have:=ha'.1 z hz;omega
   ·exact e
  ·rcases Yo.1 ((h z).2 XZ) with e | e
   ·have:=hb'.1 z hz;omega
   ·exact e
def Zaq:List Int→List Int
 | []=>[]
 | x :: l=>match Zaq l with
  | []=>[x]
  | y :: m=>if x=y then y :: m else x :: y :: m
theorem Zc6:∀ (x:Int) (l:List Int),∃ m,Zaq (x :: l)=x :: m
 | x,[]=>⟨[],rfl⟩
 | x,y :: l=>by
  obtain ⟨m,hm⟩:=Zc6 y l
  unfold Zaq
  rw [hm]
  by_cases h:x=y
  ·subst h;exact ⟨m,Ye rfl⟩
  ·exact ⟨y :: m,Yb h⟩
theorem Zde (x y:Int) (l:List Int):Zaq (x :: y :: l)=if x=y then Zaq (y :: l) else x :: Zaq (y :: l):=by
 obtain ⟨m,hm⟩:=Zc6 y l
 conv=>lhs;unfold Zaq
 rw [hm]
theorem Zcc:∀ {l:List Int},l.Pairwise (fun a b=>a≤b)→Za3 (Zaq l) ∧ ∀ x,x ∈ Zaq l ↔ x ∈ l
 | [],_=>by simp [Zaq]
 | [x],_=>by simp [Zaq]
 | x :: y :: l,h=>by
  have h':=Yx.1 h
  have ih:=Zcc h'.2
  rw [Zde]
  split
  ·rename_i e
   subst e
   exact ⟨ih.1,fun z=>by rw [ih.2 z];simp⟩
  ·rename_i e
   refine ⟨Yx.2 ⟨fun z hz=>?_,ih.1⟩,fun z=>by rw [Yo,ih.2 z,← Yo]⟩
   have h1:=h'.1 y XA
   rcases Yo.1 ((ih.2 z).1 hz) with rfl | hz2
   ·omega
   ·have:=(Yx.1 h'.2).1 z hz2
    omega
theorem Zkp (l:List Int):List.Pairwise (fun x y=>x≤y) (l.mergeSort leI):=by
 have:=Ybe (le:=leI) (fun a b c h1 h2=>by simp [leI] at *;omega) (fun a b=>by simp [leI];omega) l
 exact this.imp fun h=>by simpa [leI] using h
theorem ZhX (l:List Int):Zaq (l.mergeSort leI)=Zan l:=
 Zd0 (Zcc (Zkp l)).1 (Z9 l).1 fun x=>by rw [(Zcc (Zkp l)).2,(Z9 l).2];exact (Yaz l leI).mem_iff
theorem ZfS:∀ l:List Int,ZE l=Zaq l
 | []=>rfl
 | [x]=>rfl
 | x :: y :: l=>by
  rw [Zde,← ZfS (y :: l)];rfl
theorem Zek {n x:Int} {l out r:List Int} {d:Bool} (hA:d=false∧n≤x) (M:¬ x=n) (h:out++putIR n (x :: l) d=r):out ++ [n] ++ [x] ++ putIR n l true=r:=by
 rw [← h,putIR,Ye hA,Yb M];simp [hA.2]
theorem Zen {n x:Int} {l out r:List Int} {d:Bool} (hA:d=false∧n≤x) (M:x=n) (h:out++putIR n (x :: l) d=r):out ++ [n] ++ putIR n l true=r:=by
 rw [← h,putIR,Ye hA,Ye M];simp [hA.2]
theorem Zj9 {n x:Int} {d:Bool} (hA:¬ (d=false∧n≤x)):(d || decide (n≤x))=d:=by
 cases d
 ·simp at hA ⊢;omega
 ·rfl
theorem Zej {n x:Int} {l out r:List Int} {d:Bool} (hA:¬ (d=false∧n≤x)) (M:¬ x=n) (h:out++putIR n (x :: l) d=r):out ++ [x] ++ putIR n l d=r:=by
 rw [← h,putIR,Yb hA,Yb M,Zj9 hA];simp
theorem Zeo {n x:Int} {l out r:List Int} {d:Bool} (hA:¬ (d=false∧n≤x)) (M:x=n) (h:out++putIR n (x :: l) d=r):out++putIR n l d=r:=by
 rw [← h,putIR,Yb hA,Ye M,Zj9 hA];simp
theorem Zc1 {n:Int} : ∀ (l:List Int) (d:Bool),(putIR n l d).length≤l.length+1
 | [],d=>by cases d <;> simp [putIR]
 | x :: l,d=>by
  have h1:=Zc1 (n:=n) l (d || decide (n≤x))
  have h2:∀ l:List Int,(putIR n l true).length≤l.length:=fun l=>by
   induction l with
   | nil=>simp [putIR]
   | cons y l ih=>
    rw [putIR,Yb XA,Yd,Yd,Bool.true_or]
    split <;> simp <;> omega
  rw [putIR,Yd,Yd]
  have h3:=h2 l
  by_cases hA:d=false∧n≤x
  ·rw [show (d || decide (n≤x))=true by simp [hA.2],Ye hA]
   split <;> simp <;> omega
  ·rw [Yb hA]
   split <;> simp <;> omega
theorem ZlE (l:List Int) (n:Int) (hl:l.length≤1000000):FnP prog 255 [.sl Zk l,.int .i64 n] (.sl Zk (ZbZ l n)):=by
 refine FnP.mk func255 O ntmps255 O fun B a w F M hfr G=>?_
 have hll:=Sat.lenSl G (i:=0) rfl
 refine Ya (rZ G (qC qZ) M Kr [0] fun G=>Ya ?_)
 refine rZ G (qC qZ) M KA [0] fun G=>Ya ?_
 refine rZ G qB M Kx [0] fun G=>(Ya (Ya ?_))
 refine rZ G (qR rr (qu Ybs r1 (qJ qZ))) M KM [0] fun G=>Yf ?_
 replace G:=G.fresh 50 rfl
 replace G:=G.turn 50 O (ZaC (T:=3) (sz:=1) (R:=Zk))
 refine Zj (σ:=(Nat)×(Bool)×(Value)×(List Int)) [1,4,9,10] [0] (fun s=>[(11,.pv (.int .i64 (s.1:Int))),(6,.pv (.bool s.2.1)),(5,.pv (.is s.2.2.1))]) (fun s=>[(50,.ob (.val s.2.2.1) (ZC 3 1 Zk s.2.2.2))]) (fun s=>s.1≤l.length∧(s.2.2.2++putIR n (l.drop s.1) s.2.1=ZbZ l n)) (fun s=>l.length - s.1) ((0),_,(.slice none 0 0),([])) G ⟨rfl,rfl,rfl,rfl,rfl,rfl,rfl,tv⟩ ⟨rfl,rfl,tv⟩ ⟨Yp _,rfl⟩ ?_
 clear G;intro s a w F hC G
 obtain ⟨i,d,v,out⟩:=s
 have hC:=X4
 obtain ⟨F,G⟩:=G.nM KM Ks
 have G:=X2
 obtain ⟨hi,hq⟩:=hC
 have hol:=Yap List.length hq
 rw [Yd] at hol
 have htl:(ZbZ l n).length≤l.length+1:=Zc1 l false
 refine Ya (rZ G (qL r2) M [12,11,10,9,6,5,4,1] Ks fun G=>Ya ?_)
 refine Zb G O (fun hc0=>?_) (fun hc0=>?_)
 ·have hil:i<l.length:=XV
  refine Yc (Za (Ya (Yf (Ya (Zi G (qy 1 Ybs r2 (qf (oR false 1 .t) r1 qz (qO rr qZ))) M J1 Ks O O fun a w F G=>?_)))))
  try simp only [Yg] at G
  refine Za (Ya (Ya (rZ G (qR rr (qf (o_not .t) r1 qz (qR rr (qm O O O O (qm O O O O (qk O (fun h=>ZbB (.w h) (.w h)) r3 qz (qf (o_and2 .t .t) r2 qz qZ))))))) M [21,11,10,9,8,6,5,4,1] Ks fun G=>?_)))
  refine Zb G O (fun hc1=>?_) (fun hc1=>?_)
  ·have hA:d=false∧n≤Nn l i:=Wj
   refine Ya (rS G (qR rr (qR rr (qf (Zo (sz:=1) (zs:=[.int .i64 0]) (r:=[(0,.tmp 23)]) (l:=[_]) Ybs kr kr kr kr O O (.one O .t one_int kr .nil) O) r1 qz (qf (o_append (sz:=1) (bs:=8) 50 (.mk' Ybs kr kr) XW .is (.arr (l':=[n]) .t) W7 XJ) ⟨rfl,rfl,tv⟩ ⟨rfl,tv⟩ (qO rr qZ))))) M J1 Ks fun τ G=>?_)
   have G:=X3
   generalize τ 25=v25 at G
   refine Za (rZ G qB M J1 Ks fun G=>Ya ?_)
   refine rZ G (qR rr (qR rr (qf (o_neq .t .t) r2 qz qZ))) M [28,11,10,9,8,6,5,4,1] Ks fun G=>?_
   refine Zb G O (fun hc2=>?_) (fun hc2=>?_)
   ·have hBq:¬ Nn l i=n:=Wh
    refine rS G (qR rr (qR rr (qf (Zo (sz:=1) (zs:=[.int .i64 0]) (r:=[(0,.tmp 30)]) (l:=[_]) Ybs kr kr kr kr O O (.one O .t one_int kr .nil) O) r1 qz (qf (o_append (sz:=1) (bs:=8) 50 (.mk' Ybs kr kr) XW .is (.arr (l':=[Nn l i]) .t) W7 XJ) ⟨rfl,rfl,tv⟩ ⟨rfl,tv⟩ (qO rr qZ))))) M KM Ks fun τ G=>?_
    have G:=X3
    generalize τ 32=v32 at G
    refine Zh (Za (rZ G (qp r1 (qR rr qZ)) M KM Ks fun G=>?_))
    replace G:=G.eI 11 i
    obtain ⟨F,G⟩:=G.nM QH QU
    exact ⟨((i+1),_,_,_),F,⟨ow,W8⟩,G,ow⟩
   have hBq:Nn l i=n:=Wh
   refine Yc (Zh (Za (rZ G (qp r1 (qR rr qZ)) M KM Ks fun G=>?_)))
   replace G:=G.eI 11 i
   obtain ⟨F,G⟩:=G.nM QH QU
   exact ⟨((i+1),_,_,_),F,⟨ow,W8⟩,G,ow⟩
  have hA:¬ (d=false∧n≤Nn l i):=by rintro ⟨h1,h2⟩;subst h1;simp at hc1;omega
  refine Yc (Za (Ya (rZ G (qR rr (qR rr (qf (o_neq .t .t) r2 qz qZ))) M [28,11,10,9,8,6,5,4,1] Ks fun G=>?_)))
  refine Zb G O (fun hc3=>?_) (fun hc3=>?_)
  ·have hBq:¬ Nn l i=n:=Wi
   refine rS G (qR rr (qR rr (qf (Zo (sz:=1) (zs:=[.int .i64 0]) (r:=[(0,.tmp 30)]) (l:=[_]) Ybs kr kr kr kr O O (.one O .t one_int kr .nil) O) r1 qz (qf (o_append (sz:=1) (bs:=8) 50 (.mk' Ybs kr kr) XW .is (.arr (l':=[Nn l i]) .t) W7 XJ) ⟨rfl,rfl,tv⟩ ⟨rfl,tv⟩ (qO rr qZ))))) M KM Ks fun τ G=>?_
   have G:=X3
   generalize τ 32=v32 at G
   refine Zh (Za (rZ G (qp r1 (qR rr qZ)) M KM Ks fun G=>?_))
   replace G:=G.eI 11 i
   obtain ⟨F,G⟩:=G.nM QH QU
   exact ⟨((i+1),_,_,_),F,⟨ow,W8⟩,G,ow⟩
  have hBq:Nn l i=n:=Wi
  refine Yc (Zh (Za (rZ G (qp r1 (qR rr qZ)) M KM Ks fun G=>?_)))
  replace G:=G.eI 11 i
  obtain ⟨F,G⟩:=G.nM QH QU
  exact ⟨((i+1),_,_,_),F,⟨ow,W8⟩,G,ow⟩
 have hil:i=l.length:=XV
 refine Yt (Zg (Zg (Zp (Za (Ya (Ya (rZ G (qR rr (qf (o_not .t) r1 qz qZ)) M [35,5,4,1] Ks fun G=>?_)))))))
 refine Zb G O (fun hc4=>?_) (fun hc4=>?_)
 ·have hfin:out ++ [n] = ZbZ l n:=WK
  refine rS G (qR rr (qR rr (qf (Zo (sz:=1) (zs:=[.int .i64 0]) (r:=[(0,.tmp 37)]) (l:=[_]) Ybs kr kr kr kr O O (.one O .t one_int kr .nil) O) r1 qz (qf (o_append (sz:=1) (bs:=8) 50 (.mk' Ybs kr kr) XW .is (.arr (l':=[n]) .t) W7 XJ) ⟨rfl,rfl,tv⟩ ⟨rfl,tv⟩ (qO rr qZ))))) M KZ Ks fun τ G=>?_
  have G:=X3
  generalize τ 39=v39 at G
  refine Za (Ya (rZ G (qR rr (qO rr qZ)) M [4] Ks fun G=>Yh ?_))
  obtain ⟨F,G⟩:=G.give 50 4 O rfl
  refine Zr hfr G O O O (.sl hfin)
 have hfin:out=ZbZ l n:=by rw [hil,YaV] at hq;cases d with | false=>simp at hc4 | true=>simpa [putIR] using hq
 refine Yc (Za (Ya (rZ G (qR rr (qO rr qZ)) M [4] Ks fun G=>Yh ?_)))
 obtain ⟨F,G⟩:=G.give 50 4 O rfl
 refine Zr hfr G O O O (.sl hfin)
structure OpD where
 read:Bool
 key:Int
 tx:Int
 nth:Int
 deriving DecidableEq,Inhabited
structure TxD where
 id:Int
 done:Bool
 ops:List OpD
 deriving DecidableEq,Inhabited
structure OrdD where
 key:Int
 txs:List Int
 deriving DecidableEq,Inhabited
structure Zs where
 txs:List TxD
 orders:List OrdD
 deriving DecidableEq,Inhabited
structure Za4 where
 was:List TxD
 now:List TxD
 old:List OrdD
 new:List OrdD
 deriving DecidableEq,Inhabited
def rOp (o:OpD):List PV:=[.bool o.read,.int .i64 o.key,.int .i64 o.tx,.int .i64 o.nth]
def rTx (t:TxD):List PV:=[.int .i64 t.id,.bool t.done,.sl rOp t.ops]
def Zv (o:OrdD):List PV:=[.int .i64 o.key,.sl Zk o.txs]
def Zm (h:Zs):List PV:=[.sl rTx h.txs,.sl Zv h.orders]
def Zaf (d:Za4):List PV:=[.sl rTx d.was,.sl rTx d.now,.sl Zv d.old,.sl Zv d.new]
theorem Zo5 {u v:OpD} (h:(!((u.read == v.read) && (decide (u.key=v.key) && (decide (u.tx=v.tx) && (decide (u.nth=v.nth) && true)))))=false):u=v:=by
 cases u;cases v
 simp at h
 simp [h]
theorem ZgK (l:List OpD) (hl:l.length≤1000000):FnG prog 86 1 [.sl rOp l] [.star []] (PV.one) (fun v=>[ZC 70 4 rOp l v]):=by
 refine FnG.mk func86 O ntmps86 O kr fun B F0 a w F M hG G=>?_
 obtain ⟨F,G⟩:=G.nM [0] [0]
 refine Ya (rZ G (qC qZ) M KO [0] fun G=>(Ya (Ya ?_)))
 refine Zi G (qR rr (qf (Zbn Ybv .t) r1 qz qZ)) M Qe [0] O O fun a w F G=>?_
 obtain ⟨β4,hβ4,G⟩:=G.pickBool 4 rfl
 obtain ⟨F,G⟩:=G.nM Qe [0]
 refine Za (Zb G O (fun hc0=>?_) (fun hc0=>?_))
 ·have hg:l = []:=hβ4 hc0
  refine Ya (rZ G (qC qZ) M KO [0] fun G=>(Yh (Ze ?_)))
  have G:=G.fresh 1 rfl
  have G:=G.turn 1 O (ZaC (T:=70) (sz:=4) (R:=rOp))
  have G:=G.turn 1 O (r':=RS.hp (ZC 70 4 rOp l (.slice none 0 0))) (fun _ _ _ _ h=>by rw [hg];exact h)
  refine Zac (h':=fun v=>ZC 70 4 rOp l v) hG G O (.tmp O .nil) (.one .one) rfl
 have hg:l = [] ++ l:=rfl
 refine Yc (Za (Ya (rS G (qf (Z2 (R:=rOp) (sz:=4) 101 Ybv kr) trivial qz (qR rr (qf (o_append (sz:=4) (bs:=32) 101 (.mk' Ybv kr kr) XW .same (.sl .t) W5 XJ) ⟨rfl,rfl,tv⟩ ⟨rfl,tv⟩ (qO rr qZ)))) M [2] Kf fun τ G=>?_)))
 try dsimp only [RS.sub,SF.sub,CF.sub,csub,Anc.sub,List.map,Zc,xL,xM,Nat.reduceAdd,xD,xE,xT,xU,xC,xN,zCF,rOp] at G
 generalize τ 7=v7 at G
 refine Za (Yh ?_)
 obtain ⟨F,G⟩:=G.rename 101 1 O rfl
 have G:=G.turn 1 O (r':=RS.hp (ZC 70 4 rOp l v7)) (fun _ _ _ _ h=>by rw [hg];exact h)
 refine Zac (h':=fun v=>ZC 70 4 rOp l v) hG G O (.tmp O .nil) (.one .one) rfl
structure Zp8 where
 src:Int
 dst:Int
 kind:Int
 key:Int
 deriving DecidableEq,Inhabited
structure Zad where
 tx:Int
 key:Int
 nth:Int
 deriving DecidableEq,Inhabited
def Zy (v:Zad):List PV:=[.int .i64 v.tx,.int .i64 v.key,.int .i64 v.nth]
def noV:Zad:=⟨0,0,0⟩
def idB (n:Int):Bool:=decide (1≤n) && decide (n≤1048575)
def Za5 (v:Zad):Bool:=if v.tx=0 then idB v.key && decide (v.nth=0) else ((idB v.tx && idB v.key) && decide (1≤v.nth)) && decide (v.nth≤4095)
def ZpF (v:Zad):Int:=(v.tx*1048576+v.key)*4096+v.nth
def Zm9 (v:Zad):Int×Int:=if Za5 v then (ZpF v,0) else (0,1)
theorem ZeM {n:Int} : idB n=true ↔ 1≤n∧n≤1048575:=by unfold idB;rw [Yr,Yi,Yi]
theorem ZjW (k:Int):decide (k<1) = !decide (1≤k):=by rw [← decide_not];exact decide_eq_decide.2 ow
theorem Zlp (m k:Int):decide (m<k) = !decide (k≤m):=by rw [← decide_not];exact decide_eq_decide.2 ow
theorem or64 (x y:Nat) (hx:x<18446744073709551616) (hy:y<18446744073709551616):bits .or .u64 (x:Int) (y:Int)=((x ||| y:Nat):Int):=by
 have h1:(BitVec.ofInt 64 (x:Int)).toNat=x:=by rw [BitVec.toNat_ofInt];omega
 have h2:(BitVec.ofInt 64 (y:Int)).toNat=y:=by rw [BitVec.toNat_ofInt];omega
 show IntKind.wrap .u64 (((BitVec.ofInt 64 (x:Int) ||| BitVec.ofInt 64 (y:Int)).toNat:Nat):Int)=_
 rw [BitVec.toNat_or,h1,h2]
 exact Zc5 (by have:=Nat.or_lt_two_pow (n:=64) hx hy;omega)
theorem ZpH {q:Nat} (h:q<18446744073709551616):IntKind.wrap .u64 (q:Int)=q:=Zc5 ow
theorem Znh {K:Int} (k:Nat) (hk:min K.toNat (IntKind.bits .u64)=k) (x y:Int) (hx:0≤x) (hy:0≤y) (hyk:y<2 ^ k) (hb:x*2 ^ k+y<18446744073709551616):bits .or .u64 (IntKind.wrap .u64 (x*2 ^ min K.toNat (IntKind.bits .u64))) y=x*2 ^ k+y:=by
 obtain ⟨X,rfl⟩:=Int.eq_ofNat_of_zero_le hx
 obtain ⟨Y,rfl⟩:=Int.eq_ofNat_of_zero_le hy
 rw [hk]
 have e2:(X:Int)*2 ^ k=((X*2 ^ k:Nat):Int):=by rw [Int.natCast_mul,Int.natCast_pow];rfl
 have hY:Y<2 ^ k:=by exact_mod_cast hyk
 have hor:X*2 ^ k ||| Y=X*2 ^ k+Y:=by rw [Nat.mul_comm];exact (Nat.two_pow_add_eq_or_of_lt hY X).symm
 rw [e2] at hb ⊢
 generalize X*2 ^ k=Q at hb hor ⊢
 rw [ZpH ow,or64 _ _ ow ow,hor]
 omega
theorem Zjm {v:Zad} (h:Za5 v=true):bits .or .u64 (IntKind.wrap .u64 (bits .or .u64 (IntKind.wrap .u64 (IntKind.wrap .u64 v.tx*2 ^ min (20:Int).toNat (IntKind.bits .u64))) (IntKind.wrap .u64 v.key)*2 ^ min (12:Int).toNat (IntKind.bits .u64))) (IntKind.wrap .u64 v.nth)=ZpF v:=by
 have hb:(0≤v.tx∧v.tx≤1048575)∧(1≤v.key∧v.key≤1048575)∧(0≤v.nth∧v.nth≤4095):=by
  unfold Za5 at h
  split at h <;> simp only [Yr,Yi,ZeM] at h <;> omega
 obtain ⟨h1,h2,h3⟩:=hb
 rw [Zc5 (x:=v.tx) ow,Zc5 (x:=v.key) ow,Zc5 (x:=v.nth) ow]
 rw [Znh 20 rfl v.tx v.key ow ow ow ow,Znh 12 rfl (v.tx*2 ^ 20+v.key) v.nth ow ow ow ow]
 unfold ZpF
 omega
theorem Zp2 (n:Int):FnP prog 259 [.int .i64 n] (.bool (idB n)):=by
 refine FnP.mk func259 O ntmps259 O fun B a w F M hfr G=>Ya ?_
 refine rZ G qB M KO [0] fun G=>Ya ?_
 refine rZ G (qR rr (qf (ZbB .t qi) r1 qz (qR rr (qm O O O O (qk O (fun h=>Zio (.w h) qi) r2 qz (qf (o_and2 .t .t) r2 qz (qO rr qZ))))))) M [2] [0] fun G=>Yh ?_
 refine Zr hfr G O O O .refl
theorem ZdI (n:Int):FnP prog 195 [.int .i64 n] (.bool (idB n)):=by
 refine FnP.mk func195 O ntmps195 O fun B a w F M hfr G=>Ya ?_
 refine rZ G qB M KO [0] fun G=>Ya ?_
 refine rZ G (qR rr (qf (ZbB .t qi) r1 qz (qR rr (qm O O O O (qk O (fun h=>Zio (.w h) qi) r2 qz (qf (o_and2 .t .t) r2 qz (qO rr qZ))))))) M [2] [0] fun G=>Yh ?_
 refine Zr hfr G O O O .refl
theorem ZfY (v:Zad):((!(decide (v.tx=0) && decide (v.nth=0)) && ((!idB v.tx || decide (v.nth<1)) || decide (4095<v.nth))) || !idB v.key) = !Za5 v:=by
 unfold Za5
 by_cases h:v.tx=0
 ·rw [Ye h,YS h]
  have hi:idB v.tx=false:=by rw [h];rfl
  rw [hi]
  cases decide (v.nth=0) <;> cases idB v.key <;> simp
 ·rw [Yb h,Yw h,ZjW,Zlp 4095]
  cases idB v.tx <;> cases idB v.key <;> cases decide (1≤v.nth) <;> cases decide (v.nth≤4095) <;> rfl
theorem Zkg (v:Zad):FnP prog 215 [.agg (Zy v)] (.tup [.int .u64 (Zm9 v).1,.int .i64 (Zm9 v).2]):=by
 refine FnP.mk func215 O ntmps215 O fun B a w F M hfr G=>Ya ?_
 refine rS G (qx 101 r1 (qI (qI qZ))) M Qm Kf fun τ G=>?_
 have G:=Xc
 generalize τ 1=v1 at G
 refine Za (Ya (rZ G (qg 0 101 r1 r1 (qa 101 r1 r1 (qf (o_eql .t qi) r1 qz (qR rr (qv 2 101 O r2 r1 (qw 101 O r2 r1 (qk O (fun h=>o_eql (.w h) qi) r2 qz (qf (o_and2 .t .t) r2 qz (qO rr qZ))))))))) M [4,3,2,1] Kf fun G=>(Ya (Ya ?_))))
 refine Zi G (qR rr (qf (o_not .t) r1 qz (qR rr (qv 0 101 O r2 r1 (qw 101 O r2 r1 (qk O (fun h=>oP (Zp2 _) func259 (Args.one (.w h))) r2 qz (qk O (fun h=>o_not (.w h)) r2 qz (qk O (fun h=>oM (.w h)) r2 qz (Chain.cons (Cert.cond2 O O (fun h=>Zbf (off:=2) 101 .is kr XI)) r2 r1 (Chain.cons (Cert.cond2 O O (fun h=>ZfT (ag:=false) (sz:=1) 101 (.w h .adr) kr kr kr XI)) r2 r1 (Chain.cons (Cert.cond2 O O (fun h=>ZcQ (.w h) qi)) r2 qz (qk O (fun h=>ZaU (.w h) (.wc h)) r3 qz (qk O (fun h=>oM (.w h)) r2 qz (Chain.cons (Cert.cond2 O O (fun h=>Zbf (off:=2) 101 .is kr XI)) r2 r1 (Chain.cons (Cert.cond2 O O (fun h=>ZfT (ag:=false) (sz:=1) 101 (.w h .adr) kr kr kr XI)) r2 r1 (Chain.cons (Cert.cond2 O O (fun h=>Za7 (.w h) qi)) r2 qz (qk O (fun h=>ZaU (.w h) (.wc h)) r3 qz (qf (o_and2 .t .t) r2 qz (qR rr (qv 1 101 O r2 r1 (qw 101 O r2 r1 (qk O (fun h=>oP (Zp2 _) func259 (Args.one (.w h))) r2 qz (qk O (fun h=>o_not (.w h)) r2 qz (qf (ZaU .t .t) r2 qz qZ)))))))))))))))))))))))) M [36,3,2,1] Kf O O fun a w F G=>?_
 have G:=Xp
 refine Za (Zb G O (fun hc0=>?_) (fun hc0=>?_))
 ·rw [ZfY] at hc0
  have hr:Za5 v=false:=Wk
  have hg:Zm9 v=(0,1):=by unfold Zm9;rw [hr];rfl
  refine Ya (rZ G (qI (qI qZ)) M Qm Kf fun G=>(Yh (Ze ?_)))
  refine ZL hfr G O (.tmp O (.tmp O .nil)) (.two (.int (by rw [hg];try exact Zjm hr)) (.int W9))
 rw [ZfY] at hc0
 have hr:Za5 v=true:=Wk
 have hg:Zm9 v=(ZpF v,0):=Ye hr
 refine Yc (Za (Ya (rZ G (qg 0 101 r1 r1 (qa 101 r1 r1 (qf (ZbY underlying262 kr .t) r1 qz (qf (Zpv .t qi XJ) r1 qz (qg 1 101 r1 r1 (qa 101 r1 r1 (qf (ZbY underlying262 kr .t) r1 qz (qf (Zp4 .t .t) r2 qz (qf (Zpv .t qi XJ) r1 qz (qg 2 101 r1 r1 (qa 101 r1 r1 (qf (ZbY underlying262 kr .t) r1 qz (qf (Zp4 .t .t) r2 qz (qO rr (qI qZ))))))))))))))) M [3,2] [0] fun G=>Yh ?_)))
 refine ZL hfr G O (.tmp O (.tmp O .nil)) (.two (.int (by rw [hg];try exact Zjm hr)) (.int W9))
theorem ZmZ (v:Zad):FnP prog 252 [.agg (Zy v)] (.bool (Za5 v)):=by
 refine FnP.mk func252 O ntmps252 O fun B a w F M hfr G=>Ya ?_
 refine rS G (qx 101 r1 qB) M Ky Kf fun τ G=>?_
 have G:=Xc
 generalize τ 1=v1 at G
 refine Za (Ya (Ya (rZ G (qg 0 101 r1 r1 (qa 101 r1 r1 (qf (o_eql .t qi) r1 qz qZ))) M J5 Kf fun G=>?_)))
 refine Zb G O (fun hc0=>?_) (fun hc0=>?_)
 ·have h0:v.tx=0:=YV hc0
  refine Ya (rZ G (qg 1 101 r1 r1 (qa 101 r1 r1 (qf (oP (ZdI _) func195 (Args.one .t)) r1 qz (qR rr (qv 2 101 O r2 r1 (qw 101 O r2 r1 (qk O (fun h=>o_eql (.w h) qi) r2 qz (qf (o_and2 .t .t) r2 qz (qO rr qZ))))))))) M Ky Kf fun G=>(Yh (Ze ?_)))
  refine Zr hfr G O O O (.bool (by unfold Za5;first | rw [Ye h0] | rw [Yb h0]))
 have h0:¬ v.tx=0:=of_decide_eq_false hc0
 refine Yc (Za (Ya (rZ G (qg 0 101 r1 r1 (qa 101 r1 r1 (qf (oP (ZdI _) func195 (Args.one .t)) r1 qz (qR rr (qv 1 101 O r2 r1 (qw 101 O r2 r1 (qk O (fun h=>oP (ZdI _) func195 (Args.one (.w h))) r2 qz (qf (o_and2 .t .t) r2 qz (qR rr (qv 2 101 O r2 r1 (qw 101 O r2 r1 (qk O (fun h=>ZbB (.w h) qi) r2 qz (qf (o_and2 .t .t) r2 qz (qR rr (qv 2 101 O r2 r1 (qw 101 O r2 r1 (qk O (fun h=>Zio (.w h) qi) r2 qz (qf (o_and2 .t .t) r2 qz (qO rr qZ))))))))))))))))))) M [2] [0] fun G=>Yh ?_)))
 refine Zr hfr G O O O (.bool (by unfold Za5;first | rw [Ye h0] | rw [Yb h0]))
def Za1 (o:OpD):Bool:=if o.read=true then Za5 ⟨o.tx,o.key,o.nth⟩ else (idB o.key && decide (o.tx=0)) && decide (o.nth=0)
def ofO (o:OpD):Zad:=if o.read=true then ⟨o.tx,o.key,o.nth⟩ else noV
def Zb8 (o:OpD):Int:=if Za1 o=true then 0 else 1
theorem Zlf {o:OpD} (h:Za1 o=true):(1≤o.key∧o.key≤1048575)∧(0≤o.tx∧o.tx≤1048575)∧(0≤o.nth∧o.nth≤4095):=by
 unfold Za1 at h
 split at h
 ·unfold Za5 at h
  dsimp only at h
  split at h <;> simp only [Yr,Yi,ZeM] at h <;> omega
 ·simp only [Yr,Yi,ZeM] at h
  omega
theorem ZdV {o:OpD} (h:o.read=true):Za1 o=Za5 (ofO o):=by unfold Za1 ofO;rw [Ye h,Ye h]
theorem ZcL {o:OpD} (h:o.read=false):Za1 o=((idB o.key && decide (o.tx=0)) && decide (o.nth=0)):=by unfold Za1;rw [Yb (by rw [h];decide)]
theorem ZjD (v:Zad):(Zm9 v).2=if Za5 v=true then 0 else 1:=by unfold Zm9;split <;> rfl
theorem Znn (o:OpD):FnP prog 148 [.agg (rOp o)] (.agg (Zy (ofO o))):=by
 refine FnP.mk func148 O ntmps148 O fun B a w F M hfr G=>Ya ?_
 refine rS G (qx 101 r1 (qf (oH [.int .i64 0,.int .i64 0,.int .i64 0] 102) trivial qz qZ)) M Ky Ke fun τ G=>?_
 have G:=Xc
 generalize τ 1=v1,τ 2=v2 at G
 refine Za (Ya (Ya (rZ G (qg 0 101 r1 r1 (qa 101 r1 r1 (qf (o_not .t) r1 qz qZ))) M J5 Ke fun G=>?_)))
 refine Zb G O (fun hc0=>?_) (fun hc0=>?_)
 ·have hr:o.read=false:=Wk
  refine Ya (rZ G (qf (oB [] [.int .i64 0,.int .i64 0,.int .i64 0] [(0,1),(1,1),(2,1)] .nil) trivial qz (qs 3 102 r2 r1 qZ)) M Ky Ke fun G=>(Yh (Ze ?_)))
  refine ZL hfr G O (.cl 102 true 3 O O .nil) (.one (.aggU O Wa))
 have hr:o.read=true:=Wk
 refine Yc (Za (Ya (rZ G (qg 2 101 r1 r1 (qa 101 r1 r1 (qg 1 101 r1 r1 (qa 101 r1 r1 (qg 3 101 r1 r1 (qa 101 r1 r1 (qf (oB [(0,.tmp 8),(1,.tmp 10),(2,.tmp 12)] [.int .i64 0,.int .i64 0,.int .i64 0] [(0,1),(1,1),(2,1)] (.one O .t one_int kr (.one O .t one_int kr (.one O .t one_int kr .nil)))) r3 qz (qs 3 102 r2 r1 qZ)))))))) M [2] Ke fun G=>Yh ?_)))
 refine ZL hfr G O (.cl 102 true 3 O O .nil) (.one (.aggU O Wa))
theorem Zls (o:OpD):FnP prog 253 [.agg (rOp o)] (.agg (Zy (ofO o))):=by
 refine FnP.mk func253 O ntmps253 O fun B a w F M hfr G=>Ya ?_
 refine rS G (qx 101 r1 (qf (oH [.int .i64 0,.int .i64 0,.int .i64 0] 102) trivial qz qZ)) M Ky Ke fun τ G=>?_
 have G:=Xc
 generalize τ 1=v1,τ 2=v2 at G
 refine Za (Ya (Ya (rZ G (qg 0 101 r1 r1 (qa 101 r1 r1 (qf (o_not .t) r1 qz qZ))) M J5 Ke fun G=>?_)))
 refine Zb G O (fun hc0=>?_) (fun hc0=>?_)
 ·have hr:o.read=false:=Wk
  refine Ya (rZ G (qf (oB [] [.int .i64 0,.int .i64 0,.int .i64 0] [(0,1),(1,1),(2,1)] .nil) trivial qz (qs 3 102 r2 r1 qZ)) M Ky Ke fun G=>(Yh (Ze ?_)))
  refine ZL hfr G O (.cl 102 true 3 O O .nil) (.one (.aggU O Wa))
 have hr:o.read=true:=Wk
 refine Yc (Za (Ya (rZ G (qg 2 101 r1 r1 (qa 101 r1 r1 (qg 1 101 r1 r1 (qa 101 r1 r1 (qg 3 101 r1 r1 (qa 101 r1 r1 (qf (oB [(0,.tmp 8),(1,.tmp 10),(2,.tmp 12)] [.int .i64 0,.int .i64 0,.int .i64 0] [(0,1),(1,1),(2,1)] (.one O .t one_int kr (.one O .t one_int kr (.one O .t one_int kr .nil)))) r3 qz (qs 3 102 r2 r1 qZ)))))))) M [2] Ke fun G=>Yh ?_)))
 refine ZL hfr G O (.cl 102 true 3 O O .nil) (.one (.aggU O Wa))
theorem ZlY (o:OpD):FnP prog 149 [.agg (rOp o)] (.int .i64 (Zb8 o)):=by
 refine FnP.mk func149 O ntmps149 O fun B a w F M hfr G=>Ya ?_
 refine rS G (qx 101 r1 (qI qZ)) M Ky Kf fun τ G=>?_
 have G:=Xc
 generalize τ 1=v1 at G
 refine Za (Ya (Ya (rZ G (qg 0 101 r1 r1 (qa 101 r1 r1 qZ)) M [6,2,1] Kf fun G=>?_)))
 refine Zb G O (fun hc0=>?_) (fun hc0=>?_)
 ·have hg:(Zm9 (ofO o)).2=Zb8 o:=by rw [ZjD];unfold Zb8;rw [ZdV hc0]
  refine Ya (rZ G (qe 4 101 r1 r1 (qf (oP (Znn o) func148 (Args.one (.pagg .t))) r1 qz (qf (oP (Zkg (ofO o)) func215 (Args.one .t)) r1 qz (qR rr (qf (Zn .t O) r1 qz (qf (Zn .t O) r1 qz (qO rr (qO rr qZ)))))))) M QS Kf fun G=>Ya ?_)
  refine rZ G (qR rr (qO rr qZ)) M Ky Kf fun G=>(Yh (Ze ?_))
  refine Zr hfr G O O O (.int hg)
 have hr:o.read=false:=hc0
 refine Yc (Za (Ya (Ya (rZ G (qe 4 101 r1 r1 (qg 1 101 r1 r1 (qa 101 r1 r1 (qf (oB [(1,.tmp 16)] [.bool false,.int .i64 0,.int .i64 0,.int .i64 0] [(0,1),(1,1),(2,1),(3,1)] (.one O .t one_int kr .nil)) r1 qz (qf (Znu (ks:=[false,true,true,true]) kr .t .t (.bool (.int (.int (.int .nil))))) r2 qz (qR rr (qv 1 101 O r2 r1 (qw 101 O r2 r1 (qk O (fun h=>ZcQ (.w h) qi) r2 qz (qf (ZaU .t .t) r2 qz (qR rr (qv 1 101 O r2 r1 (qw 101 O r2 r1 (qk O (fun h=>Za7 (.w h) qi) r2 qz (qf (ZaU .t .t) r2 qz qZ))))))))))))))) M [28,2] Kf fun G=>?_))))
 refine Zb G O (fun hc1=>?_) (fun hc1=>?_)
 ·have hg:(1:Int)=Zb8 o:=by
    unfold Zb8
    rw [Yb]
    rw [ZcL hr]
    simp [hr,idB] at hc1 ⊢
    omega
  refine Ya (rZ G (qI qZ) M [2] Kf fun G=>(Yh (Ze ?_)))
  refine Zr hfr G O O O (.int hg)
 have hg:(0:Int)=Zb8 o:=by
   unfold Zb8
   rw [Ye]
   rw [ZcL hr]
   simp [hr,idB] at hc1 ⊢
   omega
 refine Yc (Za (Ya (rZ G (qI qZ) M [2] Kf fun G=>Yh ?_)))
 refine Zr hfr G O O O (.int hg)
theorem ZhE (o:OpD):FnP prog 196 [.agg (rOp o)] (.bool (Za1 o)):=by
 refine FnP.mk func196 O ntmps196 O fun B a w F M hfr G=>Ya ?_
 refine rS G (qx 101 r1 qB) M Ky Kf fun τ G=>?_
 have G:=Xc
 generalize τ 1=v1 at G
 refine Za (Ya (Ya (rZ G (qg 0 101 r1 r1 (qa 101 r1 r1 qZ)) M QS Kf fun G=>?_)))
 refine Zb G O (fun hc0=>?_) (fun hc0=>?_)
 ·have hg:Za5 (ofO o)=Za1 o:=(ZdV hc0).symm
  refine Ya (rZ G (qe 4 101 r1 r1 (qf (oP (Zls o) func253 (Args.one (.pagg .t))) r1 qz (qf (oP (ZmZ (ofO o)) func252 (Args.one .t)) r1 qz (qO rr qZ)))) M Ky Kf fun G=>(Yh (Ze ?_)))
  refine Zr hfr G O O O (.bool hg)
 have hg:((idB o.key && decide (o.tx=0)) && decide (o.nth=0))=Za1 o:=(ZcL hc0).symm
 refine Yc (Za (Ya (rZ G (qg 1 101 r1 r1 (qa 101 r1 r1 (qf (oP (ZdI o.key) func195 (Args.one .t)) r1 qz (qR rr (qv 2 101 O r2 r1 (qw 101 O r2 r1 (qk O (fun h=>o_eql (.w h) qi) r2 qz (qf (o_and2 .t .t) r2 qz (qR rr (qv 3 101 O r2 r1 (qw 101 O r2 r1 (qk O (fun h=>o_eql (.w h) qi) r2 qz (qf (o_and2 .t .t) r2 qz (qO rr qZ)))))))))))))) M [2] Kf fun G=>Yh ?_)))
 refine Zr hfr G O O O (.bool hg)
theorem ZnP (t : TxD) (hl : t.ops.length ≤ 1000000) (p : OpD → Bool) (f : FuncId) (fn : Func) (cps : List PV) (hf : prog.funcs[f]? = some fn) (hb : fn.body.isSome = true) (hnn : (fn.name == "runtime.NumGoroutine") = false) (hw : ∀ x, FnP prog f (.agg (rOp x) :: cps) (.bool (p x))) : FnP prog 144 [.agg (rTx t), .clos f cps] (.sl Zk (Zan ((t.ops.filter p).map OpD.key))) := by
 refine FnP.mk func144 O ntmps144 O fun B a w F M hfr G=>Ya ?_
 refine rS G (qx 101 r1 (qC qZ)) M QS Kf fun τ G=>?_
 have G:=Xg
 generalize τ 2=v2 at G
 refine Za (Ya (rZ G (qC qZ) M KU Kf fun G=>(Ya (Ya ?_))))
 refine rZ G (qg 2 101 r1 r1 (qa 101 r1 r1 (qu Ybv r1 (qJ qZ)))) M Km Kf fun G=>Yf ?_
 replace G:=G.fresh 50 rfl
 replace G:=G.turn 50 O (ZaC (T:=3) (sz:=1) (R:=Zk))
 refine Zj (σ:=(Nat)×(Value)×(List Int)) [1,4,9,10] [0,101] (fun s=>[(11,.pv (.int .i64 (s.1:Int))),(5,.pv (.is s.2.1))]) (fun s=>[(50,.ob (.val s.2.1) (ZC 3 1 Zk s.2.2))]) (fun s=>s.1≤t.ops.length∧(s.2.2=(((t.ops.take s.1).filter p).map OpD.key))) (fun s=>t.ops.length - s.1) ((0),(.slice none 0 0),([])) G ⟨rfl,rfl,rfl,rfl,rfl,rfl,tv⟩ ⟨rfl,rfl,rfl,tv⟩ ⟨Yp _,rfl⟩ ?_
 clear G;intro s a w F hC G
 obtain ⟨i,v,out⟩:=s
 have hC:=X4
 obtain ⟨F,G⟩:=G.nM Km Kp
 have G:=X2
 obtain ⟨hi,hq⟩:=hC
 have hol:out.length≤i:=by rw [hq,Y9];exact Y5 (YG _ _) W4
 refine Ya (rZ G (qL r2) M Q0 Kp fun G=>Ya ?_)
 refine Zb G O (fun hc0=>?_) (fun hc0=>?_)
 ·skip
  have hil:i<t.ops.length:=XV
  refine Yc (Za (Ya (Yf (Ya (rS G (qy 4 Ybv r2 (qf (oR true 4 .t) r1 qz (qf (oH [.bool false,.int .i64 0,.int .i64 0,.int .i64 0] 102) trivial qz (qS 4 102 r2 r1 qZ)))) M Q2 Ki fun τ G=>?_)))))
  have G:=X6
  generalize τ 7=v7 at G
  try simp only [Yg] at G
  refine Za (Ya (rZ G (qR rr (qe 4 102 r1 r1 (qf (ZJ (avs:=[.agg (rOp (Nn t.ops i))]) .t (hw (Nn t.ops i)) hf hb hnn (Args.one (.pagg .t))) r2 qz qZ))) M [17,11,10,9,7,5,4,1] Ki fun G=>?_))
  refine Zb G O (fun hc1=>?_) (fun hc1=>?_)
  ·skip
   have hBq:p (Nn t.ops i)=true:=Wj
   refine rS G (qR rr (qg 1 102 r1 r1 (qa 102 r1 r1 (qf (Zo (sz:=1) (zs:=[.int .i64 0]) (r:=[(0,.tmp 20)]) (l:=[_]) Ybs kr kr kr kr O O (.one O .t one_int kr .nil) O) r1 qz (qf (o_append (sz:=1) (bs:=8) 50 (.mk' Ybs kr kr) XW .is (.arr (l':=[(Nn t.ops i).key]) .t) XX XJ) ⟨rfl,rfl,tv⟩ ⟨rfl,tv⟩ (qO rr qZ)))))) M Km Ki fun τ G=>?_
   have G:=X6
   generalize τ 22=v22 at G
   refine Zh (Za (rZ G (qp r1 (qR rr qZ)) M Km Ki fun G=>?_))
   replace G:=G.eI 11 i
   obtain ⟨F,G⟩:=G.nM KR KL
   exact ⟨((i+1),_,_),F,⟨ow,(by rw [Zu hil,YU,Yaj,← hq];simp [hBq])⟩,G,ow⟩
  have hBq:p (Nn t.ops i)=false:=Wj
  refine Yc (Zh (Za (rZ G (qp r1 (qR rr qZ)) M Km Ki fun G=>?_)))
  replace G:=G.eI 11 i
  obtain ⟨F,G⟩:=G.nM KR KL
  exact ⟨((i+1),_,_),F,⟨ow,(by rw [Zu hil,YU,Yaj,← hq];simp [hBq])⟩,G,ow⟩
 have hil:i=t.ops.length:=XV
 refine Yt (Zg (Zg (Zp (Za (Ya (rZ G (qR rr (qf (Zdq 50 (ZiJ _ out ow) func92 O kr (Args.one .t)) r1 r1 qZ)) M KZ Kp fun G=>Ya ?_))))))
 refine rS G (qR rr (qf (ZaO 50 (ZnC _ _ (by rw [List.length_mergeSort];omega)) func212 O kr (Args.one .t) Zar) r1 r1 (qO rr qZ))) M [4] Kp fun τ G=>?_
 try dsimp only [RS.sub,SF.sub,CF.sub,csub,Anc.sub,List.map,Zk,rOp,rTx] at G
 generalize τ 27=v27 at G
 refine Za (Yh ?_)
 obtain ⟨F,G⟩:=G.give 50 4 O rfl
 refine Zr hfr G O O O (.sl (by rw [ZfS,ZhX,hq,hil,Yz]))
theorem ZbL (l:List Int):(Zan l).length≤l.length:=by
 have key:∀ (l acc:List Int),(l.foldl ZbZ acc).length≤acc.length+l.length:=fun l=>by
  induction l with
  | nil=>intro acc;simp
  | cons x l ih=>
   intro acc
   have h1:=ih (ZbZ acc x)
   have h2:(ZbZ acc x).length≤acc.length+1:=Zc1 acc false
   rw [Yas,Yl];omega
 have:=key l []
 simpa [Zan] using this
theorem ZkR (t:TxD) (all:Bool) (hl:t.ops.length≤1000000):FnP prog 201 [.agg (rTx t),.bool all] (.sl Zk (Zan ((t.ops.filter fun o=>all || !o.read).map OpD.key))):=by
 refine FnP.mk func201 O ntmps201 O fun B a w F M hfr G=>Ya ?_
 refine rS G (qx 101 r1 (qC qZ)) M QS Kf fun τ G=>?_
 have G:=Xg
 generalize τ 2=v2 at G
 refine Za (Ya (rZ G (qC qZ) M KU Kf fun G=>(Ya (Ya ?_))))
 refine rZ G (qg 2 101 r1 r1 (qa 101 r1 r1 (qu Ybv r1 (qJ qZ)))) M Km [0] fun G=>Yf ?_
 replace G:=G.ent (i:=5) (s':=.pv (.sl Zk [])) O (.nilSl)
 refine Zj (σ:=(Nat)) [1,4,9,10] [0] (fun s=>[(11,.pv (.int .i64 (s:Int))),(5,.pv (.sl Zk (Zan (((t.ops.take s).filter fun o=>all || !o.read).map OpD.key))))]) (fun s=>[]) (fun s=>s≤t.ops.length∧(True)) (fun s=>t.ops.length - s) (0) G ⟨rfl,rfl,rfl,rfl,rfl,rfl,tv⟩ ⟨rfl,tv⟩ ⟨Yp _,tv⟩ ?_
 clear G;intro i a w F hC G
 have hC:=X4
 obtain ⟨F,G⟩:=G.nM Km [0]
 have G:=X2
 obtain ⟨hi,hq⟩:=hC
 have hol:(Zan (((t.ops.take i).filter fun o=>all || !o.read).map OpD.key)).length≤i:=by
   refine Y5 (ZbL _) ?_
   rw [Y9];exact Y5 (YG _ _) W4
 refine Ya (rZ G (qL r2) M Q0 [0] fun G=>Ya ?_)
 refine Zb G O (fun hc0=>?_) (fun hc0=>?_)
 ·have hil:i<t.ops.length:=XV
  refine Yc (Za (Ya (Yf (Ya (rS G (qy 4 Ybv r2 (qf (oR true 4 .t) r1 qz (qf (oH [.bool false,.int .i64 0,.int .i64 0,.int .i64 0] 102) trivial qz (qS 4 102 r2 r1 qZ)))) M Q2 Ji fun τ G=>?_)))))
  have G:=X6
  generalize τ 7=v7 at G
  try simp only [Yg] at G
  refine Za (Ya (rZ G (qR rr (qR rr (qv 0 102 O r2 r1 (qw 102 O r2 r1 (qk O (fun h=>o_not (.w h)) r2 qz (qf (ZaU .t .t) r2 qz qZ)))))) M [20,11,10,9,7,5,4,1] Ji fun G=>?_))
  refine Zb G O (fun hc1=>?_) (fun hc1=>?_)
  ·have hBq:(all || !(Nn t.ops i).read)=true:=Wj
   refine Zi G (qR rr (qg 1 102 r1 r1 (qa 102 r1 r1 (qf (oP (ZlE _ (Nn t.ops i).key ow) func255 (Args.two .t .t)) r2 qz (qO rr qZ))))) M Km [0] O O fun a w F G=>Zh (Za ?_)
   refine rZ G (qp r1 (qR rr qZ)) M Km [0] fun G=>?_
   replace G:=G.eI 11 i
   replace G:=G.ent (i:=5) (s':=.pv (.sl Zk (Zan (((t.ops.take (i+1)).filter fun o=>all || !o.read).map OpD.key)))) O ((.sl (by rw [Zu hil,YU,Yaj];simp [hBq,Zan])))
   obtain ⟨F,G⟩:=G.nM KR [0]
   exact ⟨(i+1),F,⟨ow,tv⟩,G,ow⟩
  have hBq:(all || !(Nn t.ops i).read)=false:=Wj
  refine Yc (Zh (Za (rZ G (qp r1 (qR rr qZ)) M Km [0] fun G=>?_)))
  replace G:=G.eI 11 i
  replace G:=G.ent (i:=5) (s':=.pv (.sl Zk (Zan (((t.ops.take (i+1)).filter fun o=>all || !o.read).map OpD.key)))) O ((.sl (by rw [Zu hil,YU,Yaj];simp [hBq,Zan])))
  obtain ⟨F,G⟩:=G.nM KR [0]
  exact ⟨(i+1),F,⟨ow,tv⟩,G,ow⟩
 have hil:i=t.ops.length:=XV
 refine Yt (Zg (Zg (Zp (Za (Ya (rZ G (qR rr (qO rr qZ)) M [4] [0] fun G=>Yh ?_))))))
 refine Zr hfr G O O O (.sl Wb)
theorem Ent.fnClos {f:FuncId} : Ent (.pv (.is (.func (.func f) #[] #[]))) (.pv (.clos f [])):=fun τ w y v h=>⟨[],h.1,tv⟩
theorem ZoH (o:OpD):FnP prog 145 [.agg (rOp o)] (.bool (!o.read)):=by
 refine FnP.mk func145 O ntmps145 O fun B a w F M hfr G=>Ya ?_
 refine rS G (qx 101 r1 qB) M Ky Kf fun τ G=>?_
 try dsimp only [RS.sub,SF.sub,CF.sub,csub,Anc.sub,List.map,zCF,rOp] at G
 generalize τ 1=v1 at G
 refine Za (Ya (rZ G (qg 0 101 r1 r1 (qa 101 r1 r1 (qf (o_not .t) r1 qz (qO rr qZ)))) M [2] [0] fun G=>Yh ?_))
 refine Zr hfr G O O O (.bool O)
theorem Zgo (t:TxD) (hl:t.ops.length≤1000000):FnP prog 82 [.agg (rTx t)] (.sl Zk (Zan ((t.ops.filter fun o=>!o.read).map OpD.key))):=by
 refine FnP.mk func82 O ntmps82 O fun B a w F M hfr G=>Ya ?_
 refine rS G (qx 101 r1 (qC qZ)) M Ky Kf fun τ G=>?_
 try dsimp only [RS.sub,SF.sub,CF.sub,csub,Anc.sub,List.map,zCF,rTx,Zk] at G
 generalize τ 1=v1 at G
 refine Za (Ya (rZ G (qe 3 101 r1 r1 (qf (oP (ZnP t hl (fun o=>!o.read) 145 f145 [] func145 O kr (fun o=>ZoH o)) func144 (Args.two (.pagg .t) (.conv .f (Ent.fnClos)))) r1 qz (qO rr qZ))) M [2] [0] fun G=>Yh ?_))
 refine Zr hfr G O O O (.sl O)
theorem Zdp (t:TxD) (n:Int) (hl:t.ops.length≤1000000):FnP prog 87 [.agg (rTx t),.int .i64 n] (.int .i64 (((t.ops.filter fun o=>!o.read && decide (o.key=n)).length:Nat):Int)):=by
 refine FnP.mk func87 O ntmps87 O fun B a w F M hfr G=>?_
 have hll:t.ops.length≤1000000:=hl
 refine Ya (rS G (qx 101 r1 (qI qZ)) M QS Kf fun τ G=>?_)
 have G:=Xg
 generalize τ 2=v2 at G
 refine Za (Ya (rZ G (qI qZ) M KU Kf fun G=>(Ya (Ya ?_))))
 refine rZ G (qg 2 101 r1 r1 (qa 101 r1 r1 (qu Ybv r1 (qJ qZ)))) M Km [0] fun G=>Yf ?_
 refine Zj (σ:=(Nat)) [1,4,9,10] [0] (fun s=>[(11,.pv (.int .i64 (s:Int))),(5,.pv (.int .i64 ((((t.ops.take s).filter fun o=>!o.read && decide (o.key=n)).length:Nat):Int)))]) (fun s=>[]) (fun s=>s≤t.ops.length∧(True)) (fun s=>t.ops.length - s) (0) G ⟨rfl,rfl,rfl,rfl,rfl,rfl,tv⟩ ⟨rfl,tv⟩ ⟨Yp _,tv⟩ ?_
 clear G;intro i a w F hC G
 have hC:=X4
 obtain ⟨F,G⟩:=G.nM Km [0]
 have G:=X2
 obtain ⟨hi,hq⟩:=hC
 refine Ya (rZ G (qL r2) M Q0 [0] fun G=>Ya ?_)
 refine Zb G O (fun hc0=>?_) (fun hc0=>?_)
 ·have hil:i<t.ops.length:=XV
  refine Yc (Za (Ya (Yf (Ya (rS G (qy 4 Ybv r2 (qf (oR true 4 .t) r1 qz (qf (oH [.bool false,.int .i64 0,.int .i64 0,.int .i64 0] 102) trivial qz (qS 4 102 r2 r1 qZ)))) M Q2 Ji fun τ G=>?_)))))
  have G:=X6
  generalize τ 7=v7 at G
  try simp only [Yg] at G
  refine Za (Ya (rZ G (qg 0 102 r1 r1 (qa 102 r1 r1 (qf (o_not .t) r1 qz (qR rr (qv 1 102 O r2 r1 (qw 102 O r2 r1 (qm O O O O (qk O (fun h=>o_eql (.w h) (.w h)) r3 qz (qf (o_and2 .t .t) r2 qz qZ))))))))) M [23,11,10,9,5,4,1] [0] fun G=>?_))
  refine Zb G O (fun hc1=>?_) (fun hc1=>?_)
  ·have hstp:((t.ops.take (i+1)).filter fun o=>!o.read && decide (o.key=n))=((t.ops.take i).filter fun o=>!o.read && decide (o.key=n))++(if (!(Nn t.ops i).read && decide ((Nn t.ops i).key=n))=true then [(Nn t.ops i)] else []):=WP
   have hle:((t.ops.take i).filter fun o=>!o.read && decide (o.key=n)).length≤i:=Y5 (YG _ _) W4
   have hBq:(!(Nn t.ops i).read && decide ((Nn t.ops i).key=n))=true:=hc1
   have hcc:IntKind.wrap .i64 (((((t.ops.take i).filter fun o=>!o.read && decide (o.key=n)).length:Nat):Int)+1)=((((t.ops.take (i+1)).filter fun o=>!o.read && decide (o.key=n)).length:Nat):Int):=by rw [hstp,Ye hBq,Yd,ZK ow];simp
   refine Zi G (qR rr (qp r1 (qO rr qZ))) M Km [0] O O fun a w F G=>Zh (Za ?_)
   refine rZ G (qp r1 (qR rr qZ)) M Km [0] fun G=>?_
   replace G:=G.eI 11 i
   replace G:=G.ent (i:=5) (s':=.pv (.int .i64 ((((t.ops.take (i+1)).filter fun o=>!o.read && decide (o.key=n)).length:Nat):Int))) O (.int hcc)
   obtain ⟨F,G⟩:=G.nM KR [0]
   exact ⟨(i+1),F,⟨ow,tv⟩,G,ow⟩
  have hstp:((t.ops.take (i+1)).filter fun o=>!o.read && decide (o.key=n))=((t.ops.take i).filter fun o=>!o.read && decide (o.key=n))++(if (!(Nn t.ops i).read && decide ((Nn t.ops i).key=n))=true then [(Nn t.ops i)] else []):=WP
  have hle:((t.ops.take i).filter fun o=>!o.read && decide (o.key=n)).length≤i:=Y5 (YG _ _) W4
  have hBq:(!(Nn t.ops i).read && decide ((Nn t.ops i).key=n))=false:=hc1
  have hcc:((((t.ops.take i).filter fun o=>!o.read && decide (o.key=n)).length:Nat):Int)=((((t.ops.take (i+1)).filter fun o=>!o.read && decide (o.key=n)).length:Nat):Int):=by rw [hstp,Yb (by rw [hBq];simp),Y3]
  refine Yc (Zh (Za (rZ G (qp r1 (qR rr qZ)) M Km [0] fun G=>?_)))
  replace G:=G.eI 11 i
  replace G:=G.ent (i:=5) (s':=.pv (.int .i64 ((((t.ops.take (i+1)).filter fun o=>!o.read && decide (o.key=n)).length:Nat):Int))) O (.int hcc)
  obtain ⟨F,G⟩:=G.nM KR [0]
  exact ⟨(i+1),F,⟨ow,tv⟩,G,ow⟩
 have hil:i=t.ops.length:=XV
 refine Yt (Zg (Zg (Zp (Za (Ya (rZ G (qR rr (qO rr qZ)) M [4] [0] fun G=>Yh ?_))))))
 refine Zr hfr G O O O (.int Wb)
theorem Zb7 (l:List OpD) (n:Int) (hl:l.length≤1000000):FnP prog 197 [.sl rOp l,.int .i64 n] (.int .i64 (((l.filter fun o=>!o.read && decide (o.key=n)).length:Nat):Int)):=by
 refine FnP.mk func197 O ntmps197 O fun B a w F M hfr G=>?_
 have hll:l.length≤1000000:=hl
 refine Ya (rZ G (qI qZ) M Kr [0] fun G=>Ya ?_)
 refine rZ G (qI qZ) M KA [0] fun G=>(Ya (Ya ?_))
 refine rZ G (qR rr (qu Ybv r1 (qJ qZ))) M Kw [0] fun G=>Yf ?_
 refine Zj (σ:=(Nat)) [1,4,8,9] [0] (fun s=>[(10,.pv (.int .i64 (s:Int))),(5,.pv (.int .i64 ((((l.take s).filter fun o=>!o.read && decide (o.key=n)).length:Nat):Int)))]) (fun s=>[]) (fun s=>s≤l.length∧(True)) (fun s=>l.length - s) (0) G ⟨rfl,rfl,rfl,rfl,rfl,rfl,tv⟩ ⟨rfl,tv⟩ ⟨Yp _,tv⟩ ?_
 clear G;intro i a w F hC G
 have hC:=X4
 obtain ⟨F,G⟩:=G.nM Kw [0]
 have G:=X2
 obtain ⟨hi,hq⟩:=hC
 refine Ya (rZ G (qL r2) M Jh [0] fun G=>Ya ?_)
 refine Zb G O (fun hc0=>?_) (fun hc0=>?_)
 ·have hil:i<l.length:=XV
  refine Yc (Za (Ya (Yf (Ya (rS G (qy 4 Ybv r2 (qf (oR true 4 .t) r1 qz (qf (oH [.bool false,.int .i64 0,.int .i64 0,.int .i64 0] 101) trivial qz (qS 4 101 r2 r1 qZ)))) M Jj Kf fun τ G=>?_)))))
  have G:=X6
  generalize τ 7=v7 at G
  try simp only [Yg] at G
  refine Za (Ya (rZ G (qg 0 101 r1 r1 (qa 101 r1 r1 (qf (o_not .t) r1 qz (qR rr (qv 1 101 O r2 r1 (qw 101 O r2 r1 (qm O O O O (qk O (fun h=>o_eql (.w h) (.w h)) r3 qz (qf (o_and2 .t .t) r2 qz qZ))))))))) M [22,10,9,8,5,4,1] [0] fun G=>?_))
  refine Zb G O (fun hc1=>?_) (fun hc1=>?_)
  ·have hstp:((l.take (i+1)).filter fun o=>!o.read && decide (o.key=n))=((l.take i).filter fun o=>!o.read && decide (o.key=n))++(if (!(Nn l i).read && decide ((Nn l i).key=n))=true then [(Nn l i)] else []):=WP
   have hle:((l.take i).filter fun o=>!o.read && decide (o.key=n)).length≤i:=Y5 (YG _ _) W4
   have hBq:(!(Nn l i).read && decide ((Nn l i).key=n))=true:=hc1
   have hcc:IntKind.wrap .i64 (((((l.take i).filter fun o=>!o.read && decide (o.key=n)).length:Nat):Int)+1)=((((l.take (i+1)).filter fun o=>!o.read && decide (o.key=n)).length:Nat):Int):=by rw [hstp,Ye hBq,Yd,ZK ow];simp
   refine Zi G (qR rr (qp r1 (qO rr qZ))) M Kw [0] O O fun a w F G=>Zh (Za ?_)
   refine rZ G (qp r1 (qR rr qZ)) M Kw [0] fun G=>?_
   replace G:=G.eI 10 i
   replace G:=G.ent (i:=5) (s':=.pv (.int .i64 ((((l.take (i+1)).filter fun o=>!o.read && decide (o.key=n)).length:Nat):Int))) O (.int hcc)
   obtain ⟨F,G⟩:=G.nM Qn [0]
   exact ⟨(i+1),F,⟨ow,tv⟩,G,ow⟩
  have hstp:((l.take (i+1)).filter fun o=>!o.read && decide (o.key=n))=((l.take i).filter fun o=>!o.read && decide (o.key=n))++(if (!(Nn l i).read && decide ((Nn l i).key=n))=true then [(Nn l i)] else []):=WP
  have hle:((l.take i).filter fun o=>!o.read && decide (o.key=n)).length≤i:=Y5 (YG _ _) W4
  have hBq:(!(Nn l i).read && decide ((Nn l i).key=n))=false:=hc1
  have hcc:((((l.take i).filter fun o=>!o.read && decide (o.key=n)).length:Nat):Int)=((((l.take (i+1)).filter fun o=>!o.read && decide (o.key=n)).length:Nat):Int):=by rw [hstp,Yb (by rw [hBq];simp),Y3]
  refine Yc (Zh (Za (rZ G (qp r1 (qR rr qZ)) M Kw [0] fun G=>?_)))
  replace G:=G.eI 10 i
  replace G:=G.ent (i:=5) (s':=.pv (.int .i64 ((((l.take (i+1)).filter fun o=>!o.read && decide (o.key=n)).length:Nat):Int))) O (.int hcc)
  obtain ⟨F,G⟩:=G.nM Qn [0]
  exact ⟨(i+1),F,⟨ow,tv⟩,G,ow⟩
 have hil:i=l.length:=XV
 refine Yt (Zg (Zg (Zp (Za (Ya (rZ G (qR rr (qO rr qZ)) M [4] [0] fun G=>Yh ?_))))))
 refine Zr hfr G O O O (.int Wb)
def wcnt (l:List OpD) (k:Int):Nat:=(l.filter fun o=>!o.read && decide (o.key=k)).length
theorem Zhx {l:List OpD} {i:Nat} (h:i<l.length) (k:Int):wcnt (l.take (i+1)) k=wcnt (l.take i) k+if (Nn l i).read=false∧(Nn l i).key=k then 1 else 0:=by
 unfold wcnt
 rw [Zu h,YU,Yd]
 congr 1
 by_cases h1:(Nn l i).read=false∧(Nn l i).key=k
 ·rw [Ye h1];simp [h1.1,h1.2]
 ·rw [Yb h1]
  have:(!(Nn l i).read && decide ((Nn l i).key=k))=false:=by
   cases hr:(Nn l i).read with
   | true=>rfl
   | false=>simp;exact fun e=>h1 ⟨hr,e⟩
  simp [this]
theorem Zn6 (l:List OpD) (i:Nat) (k:Int):wcnt (l.take i) k≤i:=Y5 (YG _ _) (by rw [Yj];omega)
def Zas (id:Int):List OpD→List OpD→Int
 | _,[]=>0
 | s,o :: r=>if Za1 o=false then 1 else if o.read=true∧o.tx=id∧(wcnt s o.key:Int)<o.nth then 6 else Zas id (s ++ [o]) r
def ZF (t:TxD):Int:=if ¬ (1≤t.id∧t.id≤1048575) then 1 else if 4095<t.ops.length then 9 else Zas t.id [] t.ops
theorem ZaT {id:Int} {l:List OpD} {i:Nat} (h:i<l.length):Zas id (l.take i) (l.drop i)=if Za1 (Nn l i)=false then 1 else if (Nn l i).read=true∧(Nn l i).tx=id∧(wcnt (l.take i) (Nn l i).key:Int)<(Nn l i).nth then 6 else Zas id (l.take (i+1)) (l.drop (i+1)):=by
 rw [Zap h,Zas,Zu h]
theorem ZeL {id:Int} {l:List OpD} {i:Nat} (h:i=l.length):Zas id (l.take i) (l.drop i)=0:=by rw [h,YaV];rfl
def ZdZ (id:Int) (o:OpD):Bool:=(o.read && !decide (o.tx=0)) && !decide (o.tx=id)
def Zaa (id:Int) (out:List Zad) (o:OpD):List Zad:=if ZdZ id o=true∧ofO o ∉ out then out ++ [ofO o] else out
def ZbD (id:Int) (l:List OpD):List Zad:=l.foldl (Zaa id) []
def Zd (t:TxD):List Zad:=ZbD t.id t.ops
theorem ZeP {id:Int} {l:List OpD} {i:Nat} (h:i<l.length):ZbD id (l.take (i+1))=Zaa id (ZbD id (l.take i)) (Nn l i):=by
 unfold ZbD
 rw [Zu h,YaB]
 rfl
theorem ZhI (id:Int) (out:List Zad) (o:OpD):(Zaa id out o).length≤out.length+1:=by
 unfold Zaa
 split <;> simp
theorem Za9 (id:Int) (l:List OpD) (i:Nat):(ZbD id (l.take i)).length≤i:=by
 have key:∀ (l:List OpD) (out:List Zad),(l.foldl (Zaa id) out).length≤out.length+l.length:=by
  intro l
  induction l with
  | nil=>intro out;simp
  | cons x l ih=>
   intro out
   have h1:=ih (Zaa id out x)
   have h2:=ZhI id out x
   rw [Yas,Yl];omega
 have:=key (l.take i) []
 rw [Yj] at this
 unfold ZbD
 simp at this ⊢
 omega
structure ZaX where
 key:Int
 nth:Int
 deriving DecidableEq,Inhabited
def Za2 (p:ZaX):List Int:=[p.key,p.nth]
def Zag (v:Zad):List Int:=[v.tx,v.key,v.nth]
def ZbU (es:List (GE ZaX Int)) (s:List OpD):Prop:=∀ k n,0≤n→(gGet (⟨k,n⟩:ZaX) es).getD 0=if n=0 then (wcnt s k:Int) else if n≤wcnt s k then 1 else 0
theorem Zkt:ZbU [] []:=fun k n h=>by
 show (0:Int)=_
 have:wcnt [] k=0:=rfl
 rw [this]
 split
 ·rfl
 ·rw [Yb XG]
theorem Zkw {es:List (GE ZaX Int)} {l:List OpD} {i:Nat} (h:ZbU es (l.take i)) (hi:i<l.length) (hr:(Nn l i).read=true):ZbU es (l.take (i+1)):=fun k n hn=>by
 rw [h k n hn,Zhx hi,Yb (c:=(Nn l i).read=false∧(Nn l i).key=k) (by simp [hr]),YaX]
theorem Zkf {es es2:List (GE ZaX Int)} {l:List OpD} {i:Nat} {c:Int} (h:ZbU es (l.take i)) (hi:i<l.length) (hr:(Nn l i).read=false) (hc:c=(wcnt (l.take i) (Nn l i).key:Int)+1)
  (he:∀ p,(gGet p es2).getD 0=if p = ⟨(Nn l i).key,c⟩ then 1 else if p = ⟨(Nn l i).key,0⟩ then c else (gGet p es).getD 0):ZbU es2 (l.take (i+1)):=fun k n hn=>by
 have hk:=h k n hn
 rw [he,hk,Zhx hi]
 by_cases e:(Nn l i).key=k
 ·rw [Ye (c:=(Nn l i).read=false∧_) ⟨hr,e⟩]
  rw [e] at hc
  rw [e]
  by_cases e2:n=c
  ·subst e2
   rw [Ye rfl,Yb ow,Ye ow]
  ·rw [Yb (by simp [e2])]
   by_cases e3:n=0
   ·subst e3
    rw [Ye rfl,Ye rfl,hc];simp
   ·rw [Yb (by simp [e3]),Yb e3,Yb e3]
    by_cases e4:n≤(wcnt (l.take i) k:Int)
    ·rw [Ye e4,Ye ow]
    ·rw [Yb e4,Yb ow]
 ·rw [Yb (c:=(Nn l i).read=false∧_) (by simp [e]),YaX,Yb (by simp;exact fun h=>absurd h.symm e),Yb (by simp;exact fun h=>absurd h.symm e)]
def Zdl (es:List (GE Zad Int)) (i:Nat) (out:List Zad):Prop:=∀ v,0≤(gGet v es).getD 0∧(gGet v es).getD 0≤i∧(0<(gGet v es).getD 0 ↔ v ∈ out)
theorem Zl7:Zdl [] 0 []:=fun v=>⟨Ybh _,Ybh _,by show (0:Int)<0 ↔ _;simp⟩
theorem Zm1 {es:List (GE Zad Int)} {i:Nat} {out:List Zad} (h:Zdl es i out):Zdl es (i+1) out:=fun v=>⟨(h v).1,by have:=(h v).2.1;omega,(h v).2.2⟩
theorem ZmC {es es2:List (GE Zad Int)} {i:Nat} {out:List Zad} {v:Zad} (h:Zdl es i out) (he:∀ u,(gGet u es2).getD 0=if u=v then (gGet v es).getD 0+1 else (gGet u es).getD 0):Zdl es2 (i+1) (if v ∈ out then out else out ++ [v]):=fun u=>by
 have h1:=h u
 have h2:=h v
 rw [he u]
 by_cases e:u=v
 ·subst e
  rw [Ye rfl]
  refine ⟨ow,ow,?_⟩
  constructor
  ·intro _;split <;> simp_all
  ·intro _;omega
 ·rw [Yb e]
  refine ⟨ow,ow,?_⟩
  rw [h1.2.2]
  split
  ·rfl
  ·simp [e]
theorem ZfX {κ:Type} [DecidableEq κ] {k p:κ} {x:Int} (s:List (GE κ Int)×Nat):(gGet p (gSet k x (gEns 0 k s).1)).getD 0=if p=k then x else (gGet p s.1).getD 0:=by
 rw [ZfI];split <;> rfl
theorem ZmV {κ:Type} [DecidableEq κ] {k p:κ} {x:Int} (s:List (GE κ Int)×Nat):(gGet p (gPut k x s).1).getD 0=if p=k then x else (gGet p s.1).getD 0:=by
 rw [Zbw];split <;> rfl
theorem ZeJ:ZhN prog 215 (fun k=>∀ x ∈ Za2 k,inR .i64 x) (kvS Za2):=ZcU (n:=2) (fun _=>rfl) (fun a b h=>by cases a;cases b;simpa [Za2] using h) kr
theorem Zda:ZhN prog 146 (fun k=>∀ x ∈ Zag k,inR .i64 x) (kvS Zag):=ZcU (n:=3) (fun _=>rfl) (fun a b h=>by cases a;cases b;simpa [Zag] using h) kr
theorem Zhh {es:List (GE ZaX Int)} {s:List OpD} {o:OpD} {id:Int} (h:ZbU es s) (hk:Za1 o=true) (hr:o.read=true) (hid:1≤id):(o.tx=id∧(gGet (⟨o.key,o.nth⟩:ZaX) es).getD 0=0) ↔ (o.read=true∧o.tx=id∧(wcnt s o.key:Int)<o.nth):=by
 have hb:=Zlf hk
 have h1:=h o.key o.nth ow
 constructor
 ·rintro ⟨e1,e2⟩
  refine ⟨hr,e1,?_⟩
  have hn:1≤o.nth:=by
   rw [ZdV hr] at hk
   unfold ofO at hk
   rw [Ye hr] at hk
   unfold Za5 at hk
   rw [Yb (show ¬ o.tx=0 by omega)] at hk
   simp at hk
   omega
  rw [e2,Yb ow] at h1
  split at h1
  ·cases h1
  ·omega
 ·rintro ⟨_,e1,e2⟩
  refine ⟨e1,?_⟩
  rw [h1,Yb ow,Yb ow]
theorem Zg5 (t:TxD):FnP prog 85 [.agg (rTx t)] (.int .i64 (ZF t)):=by
 refine FnP.mk func85 O ntmps85 O fun B a w F M hfr G=>Ya ?_
 refine rS G (qx 101 r1 (qI qZ)) M Ky Kf fun τ G=>?_
 have G:=Xg
 generalize τ 1=v1 at G
 refine Za (Ya (Yf (Ya (rZ G (qg 0 101 r1 r1 (qa 101 r1 r1 (qf (ZcQ .t qi) r1 qz (qR rr (qv 0 101 O r2 r1 (qw 101 O r2 r1 (qk O (fun h=>Za7 (.w h) qi) r2 qz (qf (ZaU .t .t) r2 qz (qO rr qZ))))))))) M [7,2,1] Kf fun G=>?_))))
 refine Zb G O (fun hc0=>?_) (fun hc0=>?_)
 ·have hg:1=ZF t:=by unfold ZF;rw [Ye XV]
  refine Ya (rZ G (qI qZ) M Ky Kf fun G=>(Yh (Zq (Ze ?_))))
  refine Zr hfr G O O O (.int hg)
 have hid:1≤t.id∧t.id≤1048575:=XV
 refine Ya (rZ G (qg 2 101 r1 r1 (qa 101 r1 r1 (qu Ybv r1 (qf (Za7 .t qi) r1 qz (qO rr qZ))))) M [16,2,1] Kf fun G=>?_)
 refine Zb G O (fun hc1=>?_) (fun hc1=>?_)
 ·have hg:9=ZF t:=by unfold ZF;rw [Yb ow,Ye XU]
  refine Ya (rZ G (qI qZ) M Ky Kf fun G=>(Yh (Zq (Ze ?_))))
  refine Zr hfr G O O O (.int hg)
 have hlen:t.ops.length≤4095:=XU
 have hT:ZF t=Zas t.id [] t.ops:=by unfold ZF;rw [Yb ow,Yb ow]
 refine Yc (Zh (Za (Ya (rS G (qf (ZaA (ek:=(fun n:Int=>PV.int .i64 n)) (ok:=(fun k=>∀ x ∈ Za2 k,inR .i64 x)) (kv:=(kvS Za2)) 102) trivial qz (qO rr qZ)) M Qm Ke fun τ G=>?_))))
 try dsimp only [RS.sub,SF.sub,CF.sub,csub,Anc.sub,List.map,Zc,xL,xM,Nat.reduceAdd,xD,xE,xT,xU,xC,xN,zCF,Zk,rOp,rTx] at G
 generalize τ 21=v21 at G
 refine Za (Ya (Ya (rZ G (qg 2 101 r1 r1 (qa 101 r1 r1 (qu Ybv r1 (qJ qZ)))) M Qq Ke fun G=>Yf ?_)))
 refine Zj (σ:=(Nat)×(List (GE ZaX Int))×(Nat)) [1,2,3,23,24] [0,101] (fun s=>[(25,.pv (.int .i64 (s.1:Int)))]) (fun s=>[(102,.ob (.val v21) (mapG (fun n:Int=>PV.int .i64 n) (fun k=>∀ x ∈ Za2 k,inR .i64 x) (kvS Za2) s.2.1 s.2.2))]) (fun s=>s.1≤t.ops.length∧(Zas t.id [] t.ops=Zas t.id (t.ops.take s.1) (t.ops.drop s.1)∧ZbU s.2.1 (t.ops.take s.1))) (fun s=>t.ops.length - s.1) ((0),([]),(0)) G ⟨rfl,rfl,rfl,rfl,rfl,rfl,tv⟩ ⟨rfl,rfl,rfl,tv⟩ ⟨Yp _,⟨rfl,Zkt⟩⟩ ?_
 clear G;intro s a w F hC G
 obtain ⟨i,es,ck⟩:=s
 have hC:=X4
 obtain ⟨F,G⟩:=G.nM Qq Ke
 have G:=X2
 obtain ⟨hi,hq⟩:=hC
 obtain ⟨hrt,hsp⟩:=hq
 have hwl:=fun k=>Zn6 t.ops i k
 refine Ya (rZ G (qL r2) M [26,25,24,23,3,2,1] Ke fun G=>Ya ?_)
 refine Zb G O (fun hc2=>?_) (fun hc2=>?_)
 ·have hil:i<t.ops.length:=WI
  refine Yc (Za (Ya (Yf (Ya (rS G (qy 4 Ybv r2 (qf (oR true 4 .t) r1 qz (qf (oH [.bool false,.int .i64 0,.int .i64 0,.int .i64 0] 103) trivial qz (qS 4 103 r2 r1 qZ)))) M Qy Kg fun τ G=>?_)))))
  have G:=X6
  generalize τ 5=v5 at G
  try simp only [Yg] at G
  refine Za (Ya (Ya (rZ G (qe 4 103 r1 r1 (qf (oP (ZlY (Nn t.ops i)) func149 (Args.one (.pagg .t))) r1 qz (qO rr qZ))) M [25,24,23,6,5,3,2,1] Kg fun G=>Ya ?_)))
  refine rZ G (qR rr (qf (o_neq .t qi) r1 qz qZ)) M [32,25,24,23,6,5,3,2,1] Kg fun G=>?_
  refine Zb G O (fun hc3=>?_) (fun hc3=>?_)
  ·have hk:Za1 (Nn t.ops i)=false:=by unfold Zb8 at hc3;simpa using hc3
   have hg:Zb8 (Nn t.ops i)=ZF t:=by rw [hT,hrt,ZaT hil,Ye hk];unfold Zb8;rw [hk];rfl
   refine Ya (rZ G (qR rr (qO rr qZ)) M Qy Kg fun G=>(Yh (Ze (Zq (Ze (Ze (Zq (Ze ?_))))))))
   refine Zr hfr G O O O (.int hg)
  have hk:Za1 (Nn t.ops i)=true:=by unfold Zb8 at hc3;simpa using hc3
  refine Yc (Za (Ya (Ya (rZ G (qg 0 103 r1 r1 (qa 103 r1 r1 (qf (o_not .t) r1 qz qZ))) M [36,25,24,23,5,3,2,1] Kg fun G=>?_))))
  refine Zb G O (fun hc4=>?_) (fun hc4=>?_)
  ·have hr:(Nn t.ops i).read=false:=WG
   have hm0:=hsp (Nn t.ops i).key 0 (Ybh _)
   rw [Ye rfl] at hm0
   have hwc:IntKind.wrap .i64 (((gGet (⟨(Nn t.ops i).key,0⟩:ZaX) es).getD 0)+1)=(wcnt (t.ops.take i) (Nn t.ops i).key:Int)+1:=by rw [hm0];exact ZK (by have:=hwl (Nn t.ops i).key;omega)
   refine Ya ?_
   replace G:=G.turnZ 102 (0) (⟨(Nn t.ops i).key,0⟩:ZaX) rfl
   refine ZcM 102 8 (m1:=1) (m2:=2) kr G kr (qR rr (qg 1 103 r1 r1 (qa 103 r1 r1 (qf (oB [(0,.tmp 39),(1,_)] [.int .i64 0,.int .i64 0] [(0,1),(1,1)] (.one O .t one_int kr (.one O qi one_int kr .nil))) r1 qz (qf (Zfh (ek:=(fun n:Int=>PV.int .i64 n)) (z0:=(0)) 102 underlying212 ZeJ kr (fun _ _=>⟨rfl,ZfP⟩) .is (ZD.agg (enc:=Za2) (k:=(⟨(Nn t.ops i).key,0⟩:ZaX)) (.pagg .t) O)) r2 r1 (qp r1 (qf (ZcK (ek:=(fun n:Int=>PV.int .i64 n)) (z0:=(0)) 102 underlying212 ZeJ kr (fun _ _=>⟨rfl,ZfP⟩) .is (ZD.agg (enc:=Za2) (k:=(⟨(Nn t.ops i).key,0⟩:ZaX)) (.pagg .t) O) Wc) r2 r1 (qf (Zn .t O) r1 qz (qf (ZbQ 102 (Zdt _ _ _) .is .t .t) r3 r1 qZ))))))))) kr kr kr O O O (fun _ _ _ _ h=>.inr h) Wd fun a w F G=>?_
   obtain ⟨F,G⟩:=G.nM Qy Kg
   have G:=Xs
   obtain ⟨es1,he1⟩:∃ z,z=gSet (⟨(Nn t.ops i).key,0⟩:ZaX) (IntKind.wrap .i64 (((gGet (⟨(Nn t.ops i).key,0⟩:ZaX) es).getD 0)+1)) (gEns 0 (⟨(Nn t.ops i).key,0⟩:ZaX) (es,ck)).1:=⟨_,rfl⟩
   obtain ⟨ck1,hc1⟩:∃ z,z=(gEns 0 (⟨(Nn t.ops i).key,0⟩:ZaX) (es,ck)).2:=⟨_,rfl⟩
   rw [← he1,← hc1] at G
   refine Za (Ya (ZA G (qR rr (qg 1 103 r1 r1 (qa 103 r1 r1 (qR rr (qg 1 103 r1 r1 (qa 103 r1 r1 (qf (oB [(0,.tmp 50),(1,_)] [.int .i64 0,.int .i64 0] [(0,1),(1,1)] (.one O .t one_int kr (.one O qi one_int kr .nil))) r1 qz (qf (ZX (ek:=(fun n:Int=>PV.int .i64 n)) (z0:=(0)) 102 underlying212 ZeJ kr (fun _ _=>⟨rfl,ZfP⟩) .is (ZD.agg (enc:=Za2) (k:=(⟨(Nn t.ops i).key,0⟩:ZaX)) (.pagg .t) O)) r2 r1 (qf (oB [(0,.tmp 47),(1,.tmp 52)] [.int .i64 0,.int .i64 0] [(0,1),(1,1)] (.one O .t one_int kr (.one O .t one_int kr .nil))) r2 qz (qf (Za0 (ek:=(fun n:Int=>PV.int .i64 n)) 102 underlying212 ZeJ .is (ZD.agg (enc:=Za2) (k:=(⟨(Nn t.ops i).key,(gGet (⟨(Nn t.ops i).key,0⟩:ZaX) es1).getD 0⟩:ZaX)) (.pagg .t) O) qi) r2 r1 qZ)))))))))) M Qy Kg O O fun a w F G=>?_))
   have G:=Xs
   have hv1:∀ p,(gGet p es1).getD 0=if p=(⟨(Nn t.ops i).key,0⟩:ZaX) then (wcnt (t.ops.take i) (Nn t.ops i).key:Int)+1 else (gGet p es).getD 0:=fun p=>by rw [he1,ZfX,hwc]
   obtain ⟨es2,he2⟩:∃ z,z=(gPut (⟨(Nn t.ops i).key,(gGet (⟨(Nn t.ops i).key,0⟩:ZaX) es1).getD 0⟩:ZaX) 1 (es1,ck1)).1:=⟨_,rfl⟩
   obtain ⟨ck2,hc2⟩:∃ z,z=(gPut (⟨(Nn t.ops i).key,(gGet (⟨(Nn t.ops i).key,0⟩:ZaX) es1).getD 0⟩:ZaX) 1 (es1,ck1)).2:=⟨_,rfl⟩
   rw [← he2,← hc2] at G
   have hR2:Zas t.id [] t.ops=Zas t.id (t.ops.take (i+1)) (t.ops.drop (i+1))∧ZbU es2 (t.ops.take (i+1)):=⟨by rw [hrt,ZaT hil,Yb We,Yb (by rw [hr];simp)],Zkf hsp hil hr rfl (fun p=>by rw [he2,ZmV];dsimp only;rw [hv1,hv1,Ye rfl])⟩
   refine Za (Yt (Zg (Zp (Za (rZ G (qp r1 (qR rr qZ)) M Qq Kg fun G=>?_)))))
   replace G:=G.eI 25 i
   obtain ⟨F,G⟩:=G.nM [24,23,3,2,1,25] [101,0,102]
   exact ⟨((i+1),(es2),(ck2)),F,⟨ow,hR2⟩,G,ow⟩
  have hr:(Nn t.ops i).read=true:=WG
  refine Yc (Za (Ya (rZ G (qg 2 103 r1 r1 (qa 103 r1 r1 (qg 0 101 r1 r1 (qa 101 r1 r1 (qf (o_eql .t .t) r2 qz (qR rr (qm O O O O (qv 1 103 O r2 r1 (qw 103 O r2 r1 (qv 3 103 O r2 r1 (qw 103 O r2 r1 (qk O (fun h=>Zle (r:=[(0,.tmp 62),(1,.tmp 64)]) (zs:=[.int .i64 0,.int .i64 0]) (pl:=[(0,1),(1,1)]) kr kr (.one O (.w h) one_int kr (.one O (.w h) one_int kr .nil)) XI) r3 qz (qk O (fun h=>ZX (ek:=(fun n:Int=>PV.int .i64 n)) (z0:=(0)) 102 underlying212 ZeJ kr (fun _ _=>⟨rfl,ZfP⟩) (.w h .is) (ZD.agg (enc:=Za2) (k:=(⟨(Nn t.ops i).key,(Nn t.ops i).nth⟩:ZaX)) (.pagg (.w h)) O)) r3 r1 (qk O (fun h=>o_eql (.w h) qi) r2 qz (qf (o_and2 .t .t) r2 qz qZ))))))))))))))) M [68,25,24,23,3,2,1] Kg fun G=>?_)))
  refine Zb G O (fun hc5=>?_) (fun hc5=>?_)
  ·have hg:6=ZF t:=by rw [hT,hrt,ZaT hil,Yb We,Ye ((Zhh hsp hk hr hid.1).1 (by simpa using hc5))]
   refine Ya (rZ G (qI qZ) M Qq Kg fun G=>(Yh (Zq (Ze (Ze (Zq (Ze ?_)))))))
   refine Zr hfr G O O O (.int hg)
  have hno:=fun h9=>(by simpa using hc5:¬ ((Nn t.ops i).tx=t.id∧(gGet (⟨(Nn t.ops i).key,(Nn t.ops i).nth⟩:ZaX) es).getD 0=0)) ((Zhh hsp hk hr hid.1).2 h9)
  obtain ⟨es2,he2⟩:∃ z,z=es:=⟨_,rfl⟩
  obtain ⟨ck2,hc2⟩:∃ z,z=ck:=⟨_,rfl⟩
  have hR2:Zas t.id [] t.ops=Zas t.id (t.ops.take (i+1)) (t.ops.drop (i+1))∧ZbU es2 (t.ops.take (i+1)):=⟨by rw [hrt,ZaT hil,Yb We,Yb hno],by rw [he2];exact Zkw hsp hil hr⟩
  rw [← he2,← hc2] at G
  refine Yc (Zh (Za (rZ G (qp r1 (qR rr qZ)) M Qq Kg fun G=>?_)))
  replace G:=G.eI 25 i
  obtain ⟨F,G⟩:=G.nM [24,23,3,2,1,25] [101,0,102]
  exact ⟨((i+1),(es2),(ck2)),F,⟨ow,hR2⟩,G,ow⟩
 have hil:i=t.ops.length:=WI
 have hg:0=ZF t:=by rw [hT,hrt,ZeL hil]
 refine Yt (Zg (Zg (Zp (Za (Ya (rZ G (qI qZ) M [2] Ke fun G=>Yh ?_))))))
 refine Zr hfr G O O O (.int hg)
theorem Zch (t:TxD):FnP prog 131 [.agg (rTx t)] (.int .i64 (ZF t)):=by
 refine FnP.mk func131 O ntmps131 O fun B a w F M hfr G=>Ya ?_
 refine rS G (qx 101 r1 (qI qZ)) M Ky Kf fun τ G=>?_
 have G:=Xg
 generalize τ 1=v1 at G
 refine Za (Ya (Ya (rZ G (qg 0 101 r1 r1 (qa 101 r1 r1 (qf (oP (ZdI t.id) func195 (Args.one .t)) r1 qz (qf (o_not .t) r1 qz qZ)))) M [8,2,1] Kf fun G=>?_)))
 refine Zb G O (fun hc0=>?_) (fun hc0=>?_)
 ·have hg:1=ZF t:=by unfold ZF;rw [Ye (by rw [← ZeM];simpa using hc0)]
  refine Ya (rZ G (qI qZ) M Ky Kf fun G=>(Yh (Ze ?_)))
  refine Zr hfr G O O O (.int hg)
 have hid:1≤t.id∧t.id≤1048575:=by rw [← ZeM];simpa using hc0
 refine Yc (Za (Ya (Ya (rZ G (qg 2 101 r1 r1 (qa 101 r1 r1 (qu Ybv r1 (qf (Za7 .t qi) r1 qz qZ)))) M [12,2,1] Kf fun G=>?_))))
 refine Zb G O (fun hc1=>?_) (fun hc1=>?_)
 ·have hg:9=ZF t:=by unfold ZF;rw [Yb ow,Ye XU]
  refine Ya (rZ G (qI qZ) M Ky Kf fun G=>(Yh (Ze ?_)))
  refine Zr hfr G O O O (.int hg)
 have hlen:t.ops.length≤4095:=XU
 have hT:ZF t=Zas t.id [] t.ops:=by unfold ZF;rw [Yb ow,Yb ow]
 refine Yc (Za (Ya (Ya (rZ G (qg 2 101 r1 r1 (qa 101 r1 r1 (qu Ybv r1 (qJ qZ)))) M J6 Kf fun G=>Yf ?_))))
 refine Zj (σ:=(Nat)) [1,2,14,15] [0,101] (fun s=>[(16,.pv (.int .i64 (s:Int)))]) (fun s=>[]) (fun s=>s≤t.ops.length∧(Zas t.id [] t.ops=Zas t.id (t.ops.take s) (t.ops.drop s))) (fun s=>t.ops.length - s) (0) G ⟨rfl,rfl,rfl,rfl,rfl,tv⟩ ⟨rfl,rfl,tv⟩ ⟨Yp _,rfl⟩ ?_
 clear G;intro i a w F hC G
 have hC:=X4
 obtain ⟨F,G⟩:=G.nM J6 Kf
 have G:=X2
 obtain ⟨hi,hq⟩:=hC
 have hrt:=hq
 refine Ya (rZ G (qL r2) M [17,16,15,14,2,1] Kf fun G=>Ya ?_)
 refine Zb G O (fun hc2=>?_) (fun hc2=>?_)
 ·have hil:i<t.ops.length:=WI
  refine Yc (Za (Ya (Yf (Ya (rS G (qR rr (qy 4 Ybv r2 (qf (oR true 4 .t) r1 qz (qf (oH [.bool false,.int .i64 0,.int .i64 0,.int .i64 0] 102) trivial qz (qO rr (qS 4 102 r2 r1 qZ)))))) M [16,15,14,4,3,2,1] Ke fun τ G=>?_)))))
  have G:=X6
  generalize τ 4=v4 at G
  try simp only [Yg] at G
  refine Za (Ya (Ya (rZ G (qe 4 102 r1 r1 (qf (oP (ZhE (Nn t.ops i)) func196 (Args.one (.pagg .t))) r1 qz (qf (o_not .t) r1 qz qZ))) M [23,16,15,14,4,3,2,1] Ke fun G=>?_)))
  refine Zb G O (fun hc3=>?_) (fun hc3=>?_)
  ·have hk:Za1 (Nn t.ops i)=false:=Wi
   have hg:1=ZF t:=by rw [hT,hrt,ZaT hil,Ye hk]
   refine Ya (rZ G (qI qZ) M [16,15,14,4,3,2,1] Ke fun G=>(Yh (Ze (Zq (Ze (Ze (Zq (Ze ?_))))))))
   refine Zr hfr G O O O (.int hg)
  have hk:Za1 (Nn t.ops i)=true:=Wi
  refine Yc (Za (Ya (ZA G (qg 0 102 r1 r1 (qa 102 r1 r1 (qR rr (qv 2 102 O r2 r1 (qw 102 O r2 r1 (qv 0 101 O r2 r1 (qw 101 O r2 r1 (qk O (fun h=>o_eql (.w h) (.w h)) r3 qz (qf (o_and2 .t .t) r2 qz (qR rr (qv 3 102 O r2 r1 (qw 102 O r2 r1 (qv 2 101 O r2 r1 (qw 101 O r2 r1 (qm O O O O (qk O (fun h=>ZdN (sz:=4) (.mk Ybv kr) XW (.w h) (.w h) ow ow) r3 qz (qv 1 102 O r2 r1 (qw 102 O r2 r1 (qk O (fun h=>oP (Zb7 (t.ops.take i) (Nn t.ops i).key W4) func197 (Args.two (.w h) (.w h))) r3 qz (qk O (fun h=>Za7 (.w h) (.w h)) r3 qz (qf (o_and2 .t .t) r2 qz qZ))))))))))))))))))))) M [44,16,15,14,2,1] Ke O O fun a w F G=>?_)))
  try dsimp only [List.map,xD,xE,xT,xU,ldSF,Zk,rOp,rTx] at G
  refine Za (Zb G O (fun hc4=>?_) (fun hc4=>?_))
  ·have hyes:(Nn t.ops i).read=true∧(Nn t.ops i).tx=t.id∧(wcnt (t.ops.take i) (Nn t.ops i).key:Int)<(Nn t.ops i).nth:=by unfold wcnt;simpa [and_assoc] using hc4
   have hg:6=ZF t:=by rw [hT,hrt,ZaT hil,Yb We,Ye hyes]
   refine Ya (rZ G (qI qZ) M J6 Ke fun G=>(Yh (Zq (Ze (Ze (Zq (Ze ?_)))))))
   refine Zr hfr G O O O (.int hg)
  have hno:¬ ((Nn t.ops i).read=true∧(Nn t.ops i).tx=t.id∧(wcnt (t.ops.take i) (Nn t.ops i).key:Int)<(Nn t.ops i).nth):=by unfold wcnt;intro h9;have h8:=hc4;simp [h9.1,h9.2.1] at h8;omega
  refine Yc (Zh (Za (rZ G (qp r1 (qR rr qZ)) M J6 Ke fun G=>?_)))
  replace G:=G.eI 16 i
  obtain ⟨F,G⟩:=G.nM [15,14,2,1,16] Kf
  exact ⟨(i+1),F,⟨ow,(by rw [hrt,ZaT hil,Yb We,Yb hno])⟩,G,ow⟩
 have hil:i=t.ops.length:=WI
 have hg:0=ZF t:=by rw [hT,hrt,ZeL hil]
 refine Yt (Zg (Zg (Zp (Za (Ya (rZ G (qI qZ) M [2] Kf fun G=>Yh ?_))))))
 refine Zr hfr G O O O (.int hg)
theorem ZkJ {u v:Zad} {r:Bool} (h:(decide (u.tx=v.tx) && (decide (u.key=v.key) && (decide (u.nth=v.nth) && true)))=r):r=decide (u=v):=by
 cases u;cases v
 rw [← h,Y4]
 simp
theorem Zmn (l:List Zad) (v:Zad):FnP prog 254 [.sl Zy l,.agg (Zy v)] (.bool (decide (v ∈ l))):=by
 refine FnP.mk func254 O ntmps254 O fun B a w F M hfr G=>?_
 have hll:=Sat.lenSl G (i:=0) rfl
 refine Ya (rS G (qx 101 r1 qB) M Q7 Kf fun τ G=>?_)
 try dsimp only [RS.sub,SF.sub,CF.sub,csub,Anc.sub,List.map,zCF,Zy] at G
 generalize τ 3=v3 at G
 refine Za (Ya (Ya (rZ G (qR rr (qu Ybw r1 (qJ qZ))) M Jv Kf fun G=>Yf ?_)))
 refine Zj (σ:=(Nat)) [3,4,7,8] [0,101] (fun s=>[(9,.pv (.int .i64 (s:Int)))]) (fun s=>[]) (fun s=>s≤l.length∧(∀ k,k<s→Nn l k≠v)) (fun s=>l.length - s) (0) G ⟨rfl,rfl,rfl,rfl,rfl,tv⟩ ⟨rfl,rfl,tv⟩ ⟨Yp _,fun k hk=>absurd hk (YO k)⟩ ?_
 clear G;intro i a w F hC G
 have hC:=X4
 obtain ⟨F,G⟩:=G.nM Jv Kf
 have G:=X2
 obtain ⟨hi,hq⟩:=hC
 refine Ya (rZ G (qL r2) M [10,9,8,7,4,3] Kf fun G=>Ya ?_)
 refine Zb G O (fun hc0=>?_) (fun hc0=>?_)
 ·have hil:i<l.length:=XV
  refine Yc (Za (Ya (Yf (Ya (rS G (qy 3 Ybw r2 (qf (oR true 3 .t) r1 qz (qf (oH [.int .i64 0,.int .i64 0,.int .i64 0] 102) trivial qz (qS 3 102 r2 r1 qZ)))) M [9,8,7,6,4,3] Ke fun τ G=>?_)))))
  try dsimp only [RS.sub,SF.sub,CF.sub,csub,Anc.sub,List.map,Zc,xL,xM,Nat.reduceAdd,xD,xE,xT,xU,xC,xN,zCF,ldSF,Zy] at G
  generalize τ 6=v6 at G
  try simp only [Yg] at G
  refine Za (Ya (rZ G (qe 3 102 r1 r1 (qe 3 101 r1 r1 (qf (Zpi (ks:=[true,true,true]) kr .t .t (.int (.int (.int .nil)))) r2 qz qZ))) M [15,9,8,7,4,3] Kf fun G=>?_))
  refine Zb G O (fun hc1=>?_) (fun hc1=>?_)
  ·have hg:true=decide (v ∈ l):=(YS (by have h9:=(ZkJ hc1).symm;rw [Yi] at h9;rw [← h9];exact ZT hil)).symm
   refine Ya (rZ G qB M Jv Kf fun G=>(Yh (Zq (Ze (Ze (Zq (Ze ?_)))))))
   refine Zr hfr G O O O (.bool hg)
  have hne:Nn l i≠v:=by have h9:=(ZkJ hc1).symm;rwa [YM] at h9
  refine Yc (Zh (Za (rZ G (qp r1 (qR rr qZ)) M Jv Kf fun G=>?_)))
  replace G:=G.eI 9 i
  obtain ⟨F,G⟩:=G.nM [8,7,4,3,9] Kf
  exact ⟨(i+1),F,⟨ow,(fun k hk=>by rcases YF (YL hk) with h | h;exact hq k h;rw [h];exact hne)⟩,G,ow⟩
 have hil:i=l.length:=XV
 have hg:false=decide (v ∈ l):=by
   rw [Yak,YM]
   intro hv
   obtain ⟨k,hk,e⟩:=YK hv
   exact hq k XV (by rw [Zw hk];exact e)
 refine Yt (Zg (Zg (Zp (Za (Ya (rZ G qB M [4] Kf fun G=>Yh ?_))))))
 refine Zr hfr G O O O (.bool hg)
theorem Zdk (t:TxD) (hl:t.ops.length≤1000000):FnP prog 84 [.agg (rTx t)] (.sl Zy (Zd t)):=by
 refine FnP.mk func84 O ntmps84 O fun B a w F M hfr G=>Ya ?_
 refine rS G (qx 101 r1 (qC qZ)) M Ky Kf fun τ G=>?_
 have G:=Xt
 generalize τ 1=v1 at G
 refine Za (Ya (rZ G (qC qZ) M Qm Kf fun G=>Ya ?_))
 refine rS G (qf (ZaA (ek:=(fun n:Int=>PV.int .i64 n)) (ok:=(fun k=>∀ x ∈ Zag k,inR .i64 x)) (kv:=(kvS Zag)) 102) trivial qz (qO rr qZ)) M [4,3,2,1] Ke fun τ G=>?_
 try dsimp only [RS.sub,SF.sub,CF.sub,csub,Anc.sub,List.map,Zc,xL,xM,Nat.reduceAdd,xD,xE,xT,xU,xC,xN,zCF,Zk,rOp,rTx,Zy] at G
 generalize τ 8=v8 at G
 refine Za (Ya (Ya (rZ G (qg 2 101 r1 r1 (qa 101 r1 r1 (qu Ybv r1 (qJ qZ)))) M Q1 Ke fun G=>Yf ?_)))
 replace G:=G.fresh 50 rfl
 replace G:=G.turn 50 O (ZaC (T:=146) (sz:=3) (R:=Zy))
 refine Zj (σ:=(Nat)×(List (GE Zad Int))×(Nat)×(Value)×(List Zad)) [1,2,4,10,11] [0,101] (fun s=>[(12,.pv (.int .i64 (s.1:Int))),(3,.pv (.is s.2.2.2.1))]) (fun s=>[(102,.ob (.val v8) (mapG (fun n:Int=>PV.int .i64 n) (fun k=>∀ x ∈ Zag k,inR .i64 x) (kvS Zag) s.2.1 s.2.2.1)),(50,.ob (.val s.2.2.2.1) (ZC 146 3 Zy s.2.2.2.2))]) (fun s=>s.1≤t.ops.length∧(s.2.2.2.2=ZbD t.id (t.ops.take s.1)∧Zdl s.2.1 s.1 s.2.2.2.2)) (fun s=>t.ops.length - s.1) ((0),([]),(0),(.slice none 0 0),([])) G ⟨rfl,rfl,rfl,rfl,rfl,rfl,rfl,tv⟩ ⟨rfl,rfl,rfl,rfl,tv⟩ ⟨Yp _,⟨rfl,Zl7⟩⟩ ?_
 clear G;intro s a w F hC G
 obtain ⟨i,es,ck,v,out⟩:=s
 have hC:=X4
 obtain ⟨F,G⟩:=G.nM Q1 Ki
 have G:=X2
 obtain ⟨hi,hq⟩:=hC
 obtain ⟨hou,hvi⟩:=hq
 have hol:out.length≤i:=by rw [hou];exact Za9 _ _ _
 have hst:=fun hil:i<t.ops.length=>ZeP (id:=t.id) hil
 refine Ya (rZ G (qL r2) M [13,12,11,10,4,3,2,1] Ki fun G=>Ya ?_)
 refine Zb G O (fun hc0=>?_) (fun hc0=>?_)
 ·have hil:i<t.ops.length:=XV
  refine Yc (Za (Ya (Yf (Ya (rS G (qy 4 Ybv r2 (qf (oR true 4 .t) r1 qz (qf (oH [.bool false,.int .i64 0,.int .i64 0,.int .i64 0] 103) trivial qz (qS 4 103 r2 r1 qZ)))) M [12,11,10,6,4,3,2,1] Kq fun τ G=>?_)))))
  have G:=X7
  generalize τ 6=v6 at G
  try simp only [Yg] at G
  refine Za (Ya (rS G (qe 4 103 r1 r1 (qf (oP (Znn (Nn t.ops i)) func148 (Args.one (.pagg .t))) r1 qz (qf (oH [.int .i64 0,.int .i64 0,.int .i64 0] 104) trivial qz (qf (oA 3 104 .same (.conv .t .agg)) r2 r1 qZ)))) M [12,11,10,7,6,4,3,2,1] Kt fun τ G=>?_))
  have G:=X7
  generalize τ 7=v7 at G
  refine Za (Ya (Ya (rZ G (qg 0 103 r1 r1 (qa 103 r1 r1 (qf (o_not .t) r1 qz (qR rr (qv 0 104 O r2 r1 (qw 104 O r2 r1 (qk O (fun h=>o_eql (.w h) qi) r2 qz (qf (ZaU .t .t) r2 qz (qR rr (qv 0 104 O r2 r1 (qw 104 O r2 r1 (qv 0 101 O r2 r1 (qw 101 O r2 r1 (qk O (fun h=>o_eql (.w h) (.w h)) r3 qz (qf (ZaU .t .t) r2 qz qZ))))))))))))))) M [32,12,11,10,7,4,3,2,1] Kt fun G=>?_)))
  refine Zb G O (fun hc1=>?_) (fun hc1=>?_)
  ·have hno:ZdZ t.id (Nn t.ops i)=false:=by unfold ZdZ;unfold ofO at hc1;cases hr:(Nn t.ops i).read <;> simp [hr] at hc1 ⊢;omega
   obtain ⟨es2,he2⟩:∃ z,z=es:=⟨_,rfl⟩
   obtain ⟨ck2,hc2⟩:∃ z,z=ck:=⟨_,rfl⟩
   obtain ⟨out2,ho2⟩:∃ z,z=out:=⟨_,rfl⟩
   have hR2:out2=ZbD t.id (t.ops.take (i+1))∧Zdl es2 (i+1) out2:=⟨by rw [ho2,hou,hst hil];unfold Zaa;rw [Yb (by rw [hno];simp)],by rw [he2,ho2];exact Zm1 hvi⟩
   rw [← he2,← hc2,← ho2] at G
   refine Yt (Zg (Zp (Za (rZ G (qp r1 (qR rr qZ)) M Q1 Kq fun G=>?_))))
   replace G:=G.eI 12 i
   obtain ⟨F,G⟩:=G.nM J9 Jz
   exact ⟨((i+1),(es2),(ck2),_,(out2)),F,⟨ow,hR2⟩,G,ow⟩
  have hyes:ZdZ t.id (Nn t.ops i)=true:=by unfold ZdZ;unfold ofO at hc1;cases hr:(Nn t.ops i).read <;> simp [hr] at hc1 ⊢;exact hc1
  have hvr:=hvi (ofO (Nn t.ops i))
  have hw1:IntKind.wrap .i64 (((gGet (ofO (Nn t.ops i)) es).getD 0)+1)=((gGet (ofO (Nn t.ops i)) es).getD 0)+1:=ZK (by have:=Sat.lenSl G (i:=10) rfl;omega)
  refine Yc (Za (Ya ?_))
  replace G:=G.turnZ 102 (0) (ofO (Nn t.ops i)) rfl
  refine ZcM 102 6 (m1:=1) (m2:=2) kr G kr (qR rr (qe 3 104 r1 r1 (qf (Zfh (ek:=(fun n:Int=>PV.int .i64 n)) (z0:=(0)) 102 underlying210 Zda kr (fun _ _=>⟨rfl,ZfP⟩) .is (ZD.agg (enc:=Zag) (k:=(ofO (Nn t.ops i))) (.pagg .t) O)) r2 r1 (qp r1 (qf (ZcK (ek:=(fun n:Int=>PV.int .i64 n)) (z0:=(0)) 102 underlying210 Zda kr (fun _ _=>⟨rfl,ZfP⟩) .is (ZD.agg (enc:=Zag) (k:=(ofO (Nn t.ops i))) (.pagg .t) O) Wc) r2 r1 (qf (Zn .t O) r1 qz (qf (ZbQ 102 (Zdt _ _ _) .is .t .t) r3 r1 qZ))))))) kr kr kr O O O (fun _ _ _ _ h=>.inr h) Wd fun a w F G=>?_
  obtain ⟨F,G⟩:=G.nM [12,11,10,7,4,3,2,1] Kt
  try dsimp only [List.map,xD,xE,xT,xU,ldSF,Zk,rOp,rTx,Zy] at G
  obtain ⟨es2,he2⟩:∃ z,z=gSet (ofO (Nn t.ops i)) (IntKind.wrap .i64 (((gGet (ofO (Nn t.ops i)) es).getD 0)+1)) (gEns 0 (ofO (Nn t.ops i)) (es,ck)).1:=⟨_,rfl⟩
  obtain ⟨ck2,hc2⟩:∃ z,z=(gEns 0 (ofO (Nn t.ops i)) (es,ck)).2:=⟨_,rfl⟩
  rw [← he2,← hc2] at G
  have hvv:∀ u,(gGet u es2).getD 0=if u=(ofO (Nn t.ops i)) then ((gGet (ofO (Nn t.ops i)) es).getD 0)+1 else (gGet u es).getD 0:=fun u=>by rw [he2,ZfX,hw1]
  have hmv:(gGet (ofO (Nn t.ops i)) es2).getD 0=((gGet (ofO (Nn t.ops i)) es).getD 0)+1:=by rw [hvv,Ye rfl]
  have hvs:=ZmC hvi hvv
  refine Za (Ya (rZ G (qR rr (qe 3 104 r1 r1 (qf (ZX (ek:=(fun n:Int=>PV.int .i64 n)) (z0:=(0)) 102 underlying210 Zda kr (fun _ _=>⟨rfl,ZfP⟩) .is (ZD.agg (enc:=Zag) (k:=(ofO (Nn t.ops i))) (.pagg .t) O)) r2 r1 (qf (o_eql .t qi) r1 qz qZ)))) M [42,12,11,10,7,4,3,2,1] Kt fun G=>?_))
  refine Zb G O (fun hc2=>?_) (fun hc2=>?_)
  ·have hnm:(ofO (Nn t.ops i)) ∉ out:=K0
   obtain ⟨out2,ho2⟩:∃ z,z=out ++ [(ofO (Nn t.ops i))]:=⟨_,rfl⟩
   have hR2:out2=ZbD t.id (t.ops.take (i+1))∧Zdl es2 (i+1) out2:=⟨by rw [ho2,hst hil];unfold Zaa;rw [Ye ⟨hyes,by rw [← hou];exact hnm⟩,← hou],by have:=hvs;rw [Yb hnm] at this;rw [ho2];exact this⟩
   refine rS G (qR rr (qe 3 104 r1 r1 (qf (Zo (sz:=3) (zs:=[.int .i64 0,.int .i64 0,.int .i64 0]) (r:=[(0,.tmp 44)]) (l:=[_,_,_]) Ybw kr kr kr kr O O (.agg O .t kr kr .nil) O) r1 qz (qf (o_append (sz:=3) (bs:=24) 50 (.mk' Ybw kr kr) XW .is (.arr (l':=[_]) .t) XX XJ) ⟨rfl,rfl,tv⟩ ⟨rfl,tv⟩ (qO rr qZ))))) M Q1 Kq fun τ G=>?_
   have G:=X7
   generalize τ 46=v46 at G
   rw [← ho2] at G
   refine Zh (Za (rZ G (qp r1 (qR rr qZ)) M Q1 Kq fun G=>?_))
   replace G:=G.eI 12 i
   obtain ⟨F,G⟩:=G.nM J9 Jz
   exact ⟨((i+1),(es2),(ck2),_,(out2)),F,⟨ow,hR2⟩,G,ow⟩
  have hnm:(ofO (Nn t.ops i)) ∈ out:=K0
  obtain ⟨out2,ho2⟩:∃ z,z=out:=⟨_,rfl⟩
  have hR2:out2=ZbD t.id (t.ops.take (i+1))∧Zdl es2 (i+1) out2:=⟨by rw [ho2,hst hil];unfold Zaa;rw [Yb (by rw [← hou];simp [hnm])];exact hou,by have:=hvs;rw [Ye hnm] at this;rw [ho2];exact this⟩
  rw [← ho2] at G
  refine Yc (Zh (Za (rZ G (qp r1 (qR rr qZ)) M Q1 Kq fun G=>?_)))
  replace G:=G.eI 12 i
  obtain ⟨F,G⟩:=G.nM J9 Jz
  exact ⟨((i+1),(es2),(ck2),_,(out2)),F,⟨ow,hR2⟩,G,ow⟩
 have hil:i=t.ops.length:=XV
 refine Yt (Zg (Zg (Zp (Za (Ya (rZ G (qR rr (qO rr qZ)) M [2] Ki fun G=>Yh ?_))))))
 obtain ⟨F,G⟩:=G.give 50 2 O rfl
 refine Zr hfr G O O O (.sl (by rw [hou,hil,Yz];rfl))
theorem ZfC (t:TxD) (hl:t.ops.length≤1000000):FnP prog 198 [.agg (rTx t)] (.sl Zy (Zd t)):=by
 refine FnP.mk func198 O ntmps198 O fun B a w F M hfr G=>Ya ?_
 refine rS G (qx 101 r1 (qC qZ)) M Ky Kf fun τ G=>?_
 have G:=Xt
 generalize τ 1=v1 at G
 refine Za (Ya (rZ G (qC qZ) M Qm Kf fun G=>(Ya (Ya ?_))))
 refine rZ G (qg 2 101 r1 r1 (qa 101 r1 r1 (qu Ybv r1 (qJ qZ)))) M QE Kf fun G=>Yf ?_
 replace G:=G.fresh 50 rfl
 replace G:=G.turn 50 O (ZaC (T:=146) (sz:=3) (R:=Zy))
 refine Zj (σ:=(Nat)×(Value)×(List Zad)) [1,2,8,9] [0,101] (fun s=>[(10,.pv (.int .i64 (s.1:Int))),(3,.pv (.is s.2.1))]) (fun s=>[(50,.ob (.val s.2.1) (ZC 146 3 Zy s.2.2))]) (fun s=>s.1≤t.ops.length∧(s.2.2=ZbD t.id (t.ops.take s.1))) (fun s=>t.ops.length - s.1) ((0),(.slice none 0 0),([])) G ⟨rfl,rfl,rfl,rfl,rfl,rfl,tv⟩ ⟨rfl,rfl,rfl,tv⟩ ⟨Yp _,rfl⟩ ?_
 clear G;intro s a w F hC G
 obtain ⟨i,v,out⟩:=s
 have hC:=X4
 obtain ⟨F,G⟩:=G.nM QE Kp
 have G:=X2
 obtain ⟨hi,hq⟩:=hC
 have hol:out.length≤i:=by rw [hq];exact Za9 _ _ _
 have hst:=fun hil:i<t.ops.length=>ZeP (id:=t.id) hil
 refine Ya (rZ G (qL r2) M [11,10,9,8,3,2,1] Kp fun G=>Ya ?_)
 refine Zb G O (fun hc0=>?_) (fun hc0=>?_)
 ·have hil:i<t.ops.length:=XV
  refine Yc (Za (Ya (Yf (Ya (rS G (qy 4 Ybv r2 (qf (oR true 4 .t) r1 qz (qf (oH [.bool false,.int .i64 0,.int .i64 0,.int .i64 0] 102) trivial qz (qS 4 102 r2 r1 qZ)))) M [10,9,8,5,3,2,1] Ki fun τ G=>?_)))))
  have G:=X7
  generalize τ 5=v5 at G
  try simp only [Yg] at G
  refine Za (Ya (rS G (qe 4 102 r1 r1 (qf (oP (Zls (Nn t.ops i)) func253 (Args.one (.pagg .t))) r1 qz (qf (oH [.int .i64 0,.int .i64 0,.int .i64 0] 103) trivial qz (qf (oA 3 103 .same (.conv .t .agg)) r2 r1 qZ)))) M [10,9,8,6,5,3,2,1] Kq fun τ G=>?_))
  have G:=X7
  generalize τ 6=v6 at G
  refine Za (Ya (rZ G (qg 0 102 r1 r1 (qa 102 r1 r1 (qR rr (qv 2 102 O r2 r1 (qw 102 O r2 r1 (qk O (fun h=>o_neq (.w h) qi) r2 qz (qf (o_and2 .t .t) r2 qz (qR rr (qv 2 102 O r2 r1 (qw 102 O r2 r1 (qv 0 101 O r2 r1 (qw 101 O r2 r1 (qk O (fun h=>o_neq (.w h) (.w h)) r3 qz (qf (o_and2 .t .t) r2 qz (qR rr (qm O O O O (qk O (fun h=>oL true 3 103 .is) r2 r1 (qk O (fun h=>OpC.lendRow 50 [31] (oP (Zmn out (ofO (Nn t.ops i))) func254 (Args.two (.w h) (.pagg (.w h)))) ⟨rfl,tv,tv⟩ (.pv (fun _ _ _ _ h=>h)) trivial XI) r3 r1 (qk O (fun h=>o_not (.w h)) r2 qz (qf (o_and2 .t .t) r2 qz qZ)))))))))))))))))))) M [35,10,9,8,6,3,2,1] Kq fun G=>?_))
  refine Zb G O (fun hc1=>?_) (fun hc1=>?_)
  ·have hBq:(ZdZ t.id (Nn t.ops i)=true∧(ofO (Nn t.ops i)) ∉ ZbD t.id (t.ops.take i)):=by rw [← hq];unfold ZdZ;simpa [and_assoc] using hc1
   refine rS G (qR rr (qe 3 103 r1 r1 (qf (Zo (sz:=3) (zs:=[.int .i64 0,.int .i64 0,.int .i64 0]) (r:=[(0,.tmp 37)]) (l:=[_,_,_]) Ybw kr kr kr kr O O (.agg O .t kr kr .nil) O) r1 qz (qf (o_append (sz:=3) (bs:=24) 50 (.mk' Ybw kr kr) XW .is (.arr (l':=[_]) .t) XX XJ) ⟨rfl,rfl,tv⟩ ⟨rfl,tv⟩ (qO rr qZ))))) M QE Kq fun τ G=>?_
   have G:=X7
   generalize τ 39=v39 at G
   refine Zh (Za (rZ G (qp r1 (qR rr qZ)) M QE Kq fun G=>?_))
   replace G:=G.eI 10 i
   obtain ⟨F,G⟩:=G.nM [9,8,2,1,3,10] KL
   exact ⟨((i+1),_,_),F,⟨ow,Wg⟩,G,ow⟩
  have hBq:¬ (ZdZ t.id (Nn t.ops i)=true∧(ofO (Nn t.ops i)) ∉ ZbD t.id (t.ops.take i)):=by rw [← hq];unfold ZdZ;intro h9;have h8:=hc1;simp at h8 h9;simp [h9] at h8
  refine Yc (Zh (Za (rZ G (qp r1 (qR rr qZ)) M QE Kq fun G=>?_)))
  replace G:=G.eI 10 i
  obtain ⟨F,G⟩:=G.nM [9,8,2,1,3,10] KL
  exact ⟨((i+1),_,_),F,⟨ow,Wg⟩,G,ow⟩
 have hil:i=t.ops.length:=XV
 refine Yt (Zg (Zg (Zp (Za (Ya (rZ G (qR rr (qO rr qZ)) M [2] Kp fun G=>Yh ?_))))))
 obtain ⟨F,G⟩:=G.give 50 2 O rfl
 refine Zr hfr G O O O (.sl (by rw [hq,hil,Yz];rfl))
theorem ZjF (l:List Int) (v:Int):FnP prog 238 [.sl Zk l,.int .i64 v] (.bool (decide (v ∈ l))):=by
 refine FnP.mk func238 O ntmps238 O fun B a w F M hfr G=>Ya ?_
 refine rZ G qB M Kr [0] fun G=>Ya ?_
 refine rZ G (qR rr (qR rr (qf (oP (Zox l v) func270 (Args.two .t .t)) r2 qz (qf (ZbB .t qi) r1 qz (qO rr qZ))))) M [4] [0] fun G=>Yh ?_
 refine Zr hfr G O O O (.bool (by rw [YaW];exact Zi7))
theorem ZkW (x y:List Int):FnP prog 93 [.sl Zk x,.sl Zk y] (.bool (decide (x=y))):=by
 refine FnP.mk func93 O ntmps93 O fun B a w F M hfr G=>?_
 have hxl:=Sat.lenSl G (i:=0) rfl
 refine Ya (rZ G qB M Kr [0] fun G=>(Ya (Ya ?_)))
 refine rZ G (qR rr (qu Ybs r1 (qR rr (qu Ybs r1 (qf (o_neq .t .t) r2 qz qZ))))) M [10,4,1,0] [0] fun G=>?_
 refine Zb G O (fun hc0=>?_) (fun hc0=>?_)
 ·have hg:false=decide (x=y):=by
    rw [Yak,YM]
    intro h
    subst h
    simp at hc0
  refine Ya (rZ G qB M Kr [0] fun G=>(Yh (Ze ?_)))
  refine Zr hfr G O O O (.bool hg)
 have hl:x.length=y.length:=XV
 refine Yc (Za (Ya (Ya (rZ G (qR rr (qu Ybs r1 (qJ qZ))) M Je [0] fun G=>Yf ?_))))
 obtain ⟨F,G⟩:=G.nM QL [0]
 refine ZbX (σ:=Nat) (fun s=>(⟨[(0,.pv (.sl Zk x)),(1,.pv (.sl Zk y)),(12,.pv (.int .i64 x.length)),(13,.pv (.int .i64 s))],[(0,frame B)]⟩:En)) (fun s=>s≤x.length ∧ ∀ j,j<s→Nn x j=Nn y j) (fun s=>x.length - s) 0 G ⟨Yp _,fun j hj=>absurd hj (YO j)⟩ ?_
 clear G;intro i a w F hC G
 have hC:=X4
 have G:=X2
 obtain ⟨hi,hq⟩:=hC
 refine Ya (rZ G (qL r2) M [14,13,12,1,0] [0] fun G=>Ya ?_)
 refine Zb G O (fun hc1=>?_) (fun hc1=>?_)
 ·have hil:i<x.length:=XU
  refine Yc (Za (Ya (Yf (Ya (rZ G (qR rr (qO rr qZ)) M [13,12,5,1,0] [0] fun G=>Ya ?_)))))
  refine ZA G (qR rr (qR rr (qy 1 Ybs r2 (qf (oR false 1 .t) r1 qz (qR rr (qR rr (qy 1 Ybs r2 (qf (oR false 1 .t) r1 qz (qf (o_neq .t .t) r2 qz qZ))))))))) M [24,13,12,1,0] [0] O O fun a w F G=>?_
  have G:=Xp
  refine Za (Zb G O (fun hc2=>?_) (fun hc2=>?_))
  ·have hg:false=decide (x=y):=by
     rw [Yak,YM]
     intro h
     subst h
     simp at hc2
   refine Ya (rZ G qB M Je [0] fun G=>(Yh (Zq (Ze (Ze (Zq (Ze ?_)))))))
   refine Zr hfr G O O O (.bool hg)
  rw [Yg] at hc2
  have hqi:Nn x i=Nn y i:=Wh
  refine Yc (Zh (Za (rZ G (qp r1 (qR rr qZ)) M QL [0] fun G=>?_)))
  replace G:=G.eI 13 i
  obtain ⟨F,G⟩:=G.nM QL [0]
  exact ⟨i+1,F,⟨ow,fun j hj=>by rcases YF (YL hj) with h | h;exact hq j h;rw [h];exact hqi⟩,G,ow⟩
 have hg:true=decide (x=y):=by
   rw [Yak,Yi]
   exact Zhv hl fun j hj=>hq j XU
 refine Yt (Zg (Zg (Zp (Za (Ya (rZ G qB M [4] [0] fun G=>Yh ?_))))))
 refine Zr hfr G O O O (.bool hg)
theorem Zod (x y:List Int):FnP prog 143 [.sl Zk x,.sl Zk y] (.bool (decide (x=y))):=by
 refine FnP.mk func143 O ntmps143 O fun B a w F M hfr G=>Ya ?_
 refine rZ G qB M Kr [0] fun G=>Ya ?_
 refine rZ G (qR rr (qR rr (qf (oP (ZkW x y) func93 (Args.two .t .t)) r2 qz (qO rr qZ)))) M [4] [0] fun G=>Yh ?_
 refine Zr hfr G O O O .refl
theorem Zna (x y:List Int) (hx:x.length≤1000000) (hy:y.length≤1000000):FnP prog 37 [.sl Zk x,.sl Zk y] (.bool (decide (x.Perm y))):=by
 refine FnP.mk func37 O ntmps37 O fun B a w F M hfr G=>Ya ?_
 refine rZ G qB M Kr [0] fun G=>Ya ?_
 replace G:=G.fresh 101 rfl
 replace G:=G.fresh 102 rfl
 refine rS G (qR rr (qf (Zbd 101 (Zc3 x hx) func91 O kr (Args.one .t) Zar) r1 r1 (qR rr (qf (Zbd 102 (Zc3 y hy) func91 O kr (Args.one .t) Zar) r1 r1 (qO rr (qO rr qZ)))))) M [6,5,4] Ke fun τ G=>?_
 have G:=Xd
 generalize τ 8=v8,τ 10=v10 at G
 refine Za (Ya (rZ G (qR rr (qf (Zdq 101 (ZiJ _ x hx) func92 O kr (Args.one .t)) r1 r1 qZ)) M [6,5,4] Ke fun G=>Ya ?_))
 refine rZ G (qR rr (qf (Zdq 102 (ZiJ _ y hy) func92 O kr (Args.one .t)) r1 r1 qZ)) M [6,5,4] Ke fun G=>Ya ?_
 refine rZ G (qR rr (qR rr (qf (OpC.lendRow 102 [16] (OpC.lendRow 101 [15] (oP (ZkW _ _) func93 (Args.two .t .t)) ⟨rfl,tv,tv⟩ (.pv (fun _ _ _ _ h=>h)) trivial XI) ⟨tv,rfl,tv⟩ (.pv (fun _ _ _ _ h=>h)) trivial XI) r2 r2 (qO rr qZ)))) M [4] Ke fun G=>Yh ?_
 refine Zr hfr G O O O (.bool (by rw [YaW];exact Zku))
theorem ZoI {u v:OrdD} : (decide (u.key=v.key) && decide (u.txs=v.txs))=decide (u=v):=by
 cases u;cases v
 rw [Y4]
 simp
def zeroT:TxD:=⟨0,false,[]⟩
def Zae (l:List TxD):Prop:=l.length≤1000 ∧ ∀ t ∈ l,t.ops.length≤1000
def ZaF (l:List OrdD):Prop:=l.length≤1000 ∧ ∀ o ∈ l,o.txs.length≤1000
def Zbe (h:Zs):Prop:=Zae h.txs∧ZaF h.orders
theorem Zae.at {l:List TxD} (h:Zae l) {i:Nat} (hi:i<l.length):(Nn l i).ops.length≤1000:=h.2 _ (ZT hi)
theorem ZaF.at {l:List OrdD} (h:ZaF l) {i:Nat} (hi:i<l.length):(Nn l i).txs.length≤1000:=h.2 _ (ZT hi)
def ZS (l:List TxD) (id:Int):Option TxD:=l.find? fun t=>decide (t.id=id)
theorem Zjk {l:List TxD} {id:Int} {i:Nat} (hi:i<l.length) (h:(Nn l i).id=id) (hq:∀ k,k<i→(Nn l k).id≠id):ZS l id=some (Nn l i):=by
 unfold ZS
 rw [List.find?_eq_some_iff_getElem]
 refine ⟨by simpa using h,i,hi,(Zw hi).symm,fun j hj=>?_⟩
 have:=hq j hj
 rw [Zw ow] at this
 simpa using this
theorem ZfN {l:List TxD} {id:Int} (hq:∀ k,k<l.length→(Nn l k).id≠id):ZS l id=none:=by
 unfold ZS
 rw [Yaq]
 intro x hx
 obtain ⟨k,hk,e⟩:=YK hx
 have:=hq k hk
 rw [Zw hk,e] at this
 simpa using this
theorem findT_mem {l:List TxD} {id:Int} {t:TxD} (h:ZS l id=some t):t ∈ l∧t.id=id:=⟨List.mem_of_find?_eq_some h,by have:=List.find?_some h;simpa using this⟩
def ZdD (h:Zs) (v:Zad):Bool:=if v.tx=0∧v.nth=0 then decide (1≤v.key∧v.key≤1048575) else (ZS h.txs v.tx).isSome && (decide (1≤v.nth) && decide (v.nth≤(wcnt ((ZS h.txs v.tx).getD zeroT).ops v.key:Int)))
def Zak (h:Zs) (t:TxD):Bool:=(Zd t).all (ZdD h)
theorem ZhW {h:Zs} {t:TxD} (hq:∀ k,k<(Zd t).length→ZdD h (Nn (Zd t) k)=true):Zak h t=true:=by
 unfold Zak
 rw [Yag]
 intro x hx
 obtain ⟨k,hk,e⟩:=YK hx
 have:=hq k hk
 rwa [Zw hk,e] at this
theorem Zhl {h:Zs} {t:TxD} {i:Nat} (hi:i<(Zd t).length) (hn:ZdD h (Nn (Zd t) i)=false):Zak h t=false:=by
 unfold Zak
 rw [List.all_eq_false]
 exact ⟨_,ZT hi,by simp [hn]⟩
def Zl (t:TxD):List Int:=Zan ((t.ops.filter fun o=>!o.read).map OpD.key)
theorem ZaH {t:TxD} {k:Int} : k ∈ Zl t ↔ 0<wcnt t.ops k:=by
 unfold Zl
 rw [(Z9 _).2,YI]
 unfold wcnt
 rw [List.length_pos_iff_exists_mem]
 constructor
 ·rintro ⟨o,ho,e⟩
  rw [YA] at ho
  exact ⟨o,by rw [YA];exact ⟨ho.1,by simp [e];simpa using ho.2⟩⟩
 ·rintro ⟨o,ho⟩
  rw [YA] at ho
  simp at ho
  exact ⟨o,by rw [YA];simp [ho.1,ho.2.1],ho.2.2⟩
theorem Zbj (t:TxD):(Zl t).length≤t.ops.length:=Y5 (ZbL _) (by rw [Y9];exact YG _ _)
def ZI (l:List TxD) (k:Int):List Int:=(l.filter fun t=>t.done && decide (0<wcnt t.ops k)).map TxD.id
theorem Zbx (l:List TxD) (k:Int):(ZI l k).length≤l.length:=by unfold ZI;rw [Y9];exact YG _ _
theorem Za6 {l:List TxD} {i:Nat} (hi:i<l.length) (k:Int):ZI (l.take (i+1)) k=ZI (l.take i) k++if (Nn l i).done=true∧0<wcnt (Nn l i).ops k then [(Nn l i).id] else []:=by
 unfold ZI
 rw [Zu hi,YU,Yaj]
 congr 1
 by_cases h:(Nn l i).done=true∧0<wcnt (Nn l i).ops k
 ·rw [Ye h,YW (by simp [h.1,h.2])];rfl
 ·rw [Yb h,YX (by simp;intro e;exact Nat.eq_zero_of_not_pos fun e2=>h ⟨e,e2⟩)];rfl
def Zai (l:List TxD):List Int:=Zan ((l.filter fun t=>t.done).flatMap Zl)
theorem Zf6 {l:List TxD} {i:Nat} (hi:i<l.length):Zai (l.take (i+1))=if (Nn l i).done=true then (Zl (Nn l i)).foldl ZbZ (Zai (l.take i)) else Zai (l.take i):=by
 unfold Zai
 rw [Zu hi,YU,Yae]
 split
 ·rename_i h
  rw [YW Xz]
  unfold Zan
  rw [YaB]
  simp
 ·rename_i h
  rw [YX Xz]
  simp
theorem Zi5 {l:List TxD} (h:Zae l) (i:Nat):(Zai (l.take i)).length≤1000*i:=by
 unfold Zai
 refine Y5 (ZbL _) ?_
 have key:∀ l:List TxD,(∀ t ∈ l,t.ops.length≤1000)→((l.filter fun t=>t.done).flatMap Zl).length≤1000*l.length:=by
  intro l
  induction l with
  | nil=>intro _;simp
  | cons t l ih=>
   intro h
   have h1:=ih fun x hx=>h x XC
   have h2:=h t XA
   have h3:=Zbj t
   by_cases hd:t.done=true
   ·rw [YW (by simpa using hd),Yaw,Yd,Yl]
    omega
   ·rw [YX (by simpa using hd),Yl]
    omega
 have h1:=key (l.take i) fun t ht=>h.2 t (Yax ht)
 have h2:(l.take i).length≤i:=W4
 exact Y5 h1 (Nat.mul_le_mul_left _ h2)
theorem Zhg {l:List TxD} (h:Zae l):(Zai l).length≤1000000:=by
 have h1:=Zi5 h l.length
 rw [Yz] at h1
 have:=h.1
 omega
theorem Zdh (a:List Int):∀ b:List Int,(b.foldl ZbZ a).length≤a.length+b.length:=by
 intro b
 induction b generalizing a with
 | nil=>simp
 | cons x b ih=>
  have h1:=ih (ZbZ a x)
  have h2:(ZbZ a x).length≤a.length+1:=Zc1 a false
  rw [Yas,Yl];omega
theorem Zcf {l:List TxD} {k:Int} : k ∈ Zai l ↔ ZI l k≠[]:=by
 unfold Zai
 rw [(Z9 _).2,List.mem_flatMap]
 unfold ZI
 rw [ne_eq,List.map_eq_nil_iff,YaI]
 constructor
 ·rintro ⟨t,ht,hk⟩ hn
  rw [YA] at ht
  have:=hn t ht.1
  simp [ht.2] at this
  have:=ZaH.1 hk
  simp_all
 ·intro hn
  simp only [Classical.not_forall] at hn
  obtain ⟨t,ht,h2⟩:=hn
  simp at h2
  exact ⟨t,by rw [YA];exact ⟨ht,by simpa using h2.1⟩,ZaH.2 (Nat.pos_of_ne_zero h2.2)⟩
def Ziu (h:Zs) (i:Nat):Prop:=(0<i→(Nn h.txs (i - 1)).id<(Nn h.txs i).id)∧ZF (Nn h.txs i)=0∧Zak h (Nn h.txs i)=true
instance (h:Zs) (i:Nat):Decidable (Ziu h i):=by unfold Ziu;exact inferInstance
def ZgL (h:Zs) (i:Nat):Prop:=(Nn h.orders i).key=Nn (Zai h.txs) i∧(Nn h.orders i).txs.Perm (ZI h.txs (Nn h.orders i).key)
instance (h:Zs) (i:Nat):Decidable (ZgL h i):=by unfold ZgL;exact inferInstance
def Zx (h:Zs):Prop:=h.txs.length≤4096∧(∀ i,i<h.txs.length→Ziu h i)∧h.orders.length=(Zai h.txs).length ∧ ∀ i,i<h.orders.length→ZgL h i
instance (h:Zs):Decidable (Zx h):=by unfold Zx;exact inferInstance
def Zfr (h:Zs) (i:Nat):Prop:=(0<i→(Nn h.orders (i - 1)).key<(Nn h.orders i).key)∧(Nn h.orders i).txs≠[]∧(Nn h.orders i).txs.Perm (ZI h.txs (Nn h.orders i).key)
theorem Zgg:∀ {l:List Int},(∀ i,i<l.length→0<i→Nn l (i - 1)<Nn l i)→Za3 l
 | [],_=>List.Pairwise.nil
 | [x],_=>by simp
 | x :: y :: l,h=>by
  have ih:=Zgg (l:=y :: l) fun i hi h0=>by
   have:=h (i+1) XD ow
   obtain ⟨j,rfl⟩:∃ j,i=j+1:=⟨i - 1,ow⟩
   have hj:j<l.length:=XD
   rw [Zw (l:=x :: y :: l) XG,Zw (l:=x :: y :: l) XG] at this
   rw [Zw (l:=y :: l) XG,Zw (l:=y :: l) XG]
   exact this
  have h1:=h 1 XA ow
  rw [Zw XA,Zw XA] at h1
  simp at h1
  have ih2:=Yx.1 ih
  refine Yx.2 ⟨fun z hz=>?_,ih⟩
  rcases Yo.1 hz with rfl | hz
  ·exact h1
  ·have:=ih2.1 z hz;omega
theorem ZnQ {l:List Int} (h:Za3 l) {i:Nat} (hi:i<l.length) (h0:0<i):Nn l (i - 1)<Nn l i:=by
 rw [Zw hi,Zw ow]
 exact Yao.1 h (i - 1) i ow hi ow
theorem Zgd:∀ {b a:List Int},Za3 a→Za3 b→(∀ x ∈ a,x ∈ b)→a.length≤b.length∧(a.length=b.length→a=b)
 | [],a,_,_,h=>by
  have:a = []:=List.eq_nil_iff_forall_not_mem.2 fun x hx=>by cases h x hx
  subst this;simp
 | y :: b,[],_,_,_=>⟨by simp,fun h=>by simp at h⟩
 | y :: b,x :: a,ha,hb,h=>by
  have ha':=Yx.1 ha
  have hb':=Yx.1 hb
  by_cases e:x=y
  ·subst e
   have ih:=Zgd (b:=b) (a:=a) ha'.2 hb'.2 fun z hz=>by
    rcases Yo.1 (h z XZ) with e | e
    ·have:=ha'.1 z hz;omega
    ·exact e
   exact ⟨by simp;exact ih.1,fun hl=>by rw [ih.2 (by simpa using hl)]⟩
  ·have hx:y<x:=by
    rcases Yo.1 (h x XA) with e2 | e2
    ·exact absurd e2 e
    ·exact hb'.1 x e2
   have ih:=Zgd (b:=b) (a:=x :: a) ha hb'.2 fun z hz=>by
    rcases Yo.1 (h z hz) with e2 | e2
    ·rcases Yo.1 hz with e3 | e3
     ·omega
     ·have:=ha'.1 z e3;omega
    ·exact e2
   exact ⟨by have:=ih.1;simp at this ⊢;omega,fun hl=>by have:=ih.1;simp at this hl;omega⟩
theorem Zce {α β:Type} [Inhabited α] [Inhabited β] {f:α→β} {l:List α} {i:Nat} (h:i<l.length):Nn (l.map f) i=f (Nn l i):=by
 rw [Zw Xz,Zw h];simp
theorem Zco (h:Zs):(h.orders.length=(Zai h.txs).length ∧ ∀ i,i<h.orders.length→Zfr h i) ↔ (h.orders.length=(Zai h.txs).length ∧ ∀ i,i<h.orders.length→ZgL h i):=by
 have hK:Za3 (Zai h.txs):=(Z9 _).1
 constructor
 ·rintro ⟨hl,hq⟩
  refine ⟨hl,?_⟩
  have hO:Za3 (h.orders.map OrdD.key):=Zgg fun i hi h0=>by
   have hi':i<h.orders.length:=XD
   rw [Zce ow,Zce hi']
   exact (hq i hi').1 h0
  have hsub:∀ x ∈ h.orders.map OrdD.key,x ∈ Zai h.txs:=fun x hx=>by
   obtain ⟨o,ho,rfl⟩:=YI.1 hx
   obtain ⟨k,hk,e⟩:=YK ho
   have:=hq k hk
   unfold Zfr at this
   rw [Zw hk,e] at this
   rw [Zcf]
   intro e2
   rw [e2] at this
   exact this.2.1 (List.Perm.eq_nil this.2.2)
  have he:=(Zgd hO hK hsub).2 (by simpa using hl)
  intro i hi
  refine ⟨?_,(hq i hi).2.2⟩
  rw [← he,Zce hi]
 ·rintro ⟨hl,hq⟩
  refine ⟨hl,fun i hi=>?_⟩
  have hin:(Nn h.orders i).key ∈ Zai h.txs:=by rw [(hq i hi).1];exact ZT ow
  refine ⟨fun h0=>?_,fun e=>?_,(hq i hi).2⟩
  ·rw [(hq i hi).1,(hq (i - 1) ow).1]
   exact ZnQ hK ow h0
  ·have:=(hq i hi).2
   rw [e] at this
   exact Zcf.1 hin this.symm.eq_nil
theorem ZcF {h:Zs} (hb:4096<h.txs.length):false=decide (Zx h):=(Yw fun hr=>by have:=hr.1;omega).symm
theorem Zd8 {h:Zs} {i:Nat} (hi:i<h.txs.length) (hb:¬ Ziu h i):false=decide (Zx h):=(Yw fun hr=>hb (hr.2.1 i hi)).symm
theorem Zdf {h:Zs} (hb:h.orders.length≠(Zai h.txs).length):false=decide (Zx h):=(Yw fun hr=>hb hr.2.2.1).symm
theorem Zgy {h:Zs} {i:Nat} (hi:i<h.orders.length) (hb:¬ ZgL h i):false=decide (Zx h):=(Yw fun hr=>hb (hr.2.2.2 i hi)).symm
theorem Zft {h:Zs} {i:Nat} (hi:i<h.orders.length) (hb:¬ Zfr h i):false=decide (Zx h):=(Yw fun hr=>hb (((Zco h).2 hr.2.2).2 i hi)).symm
theorem ZjQ {h:Zs} (h1:h.txs.length≤4096) (h2:∀ i,i<h.txs.length→Ziu h i) (h3:h.orders.length=(Zai h.txs).length) (h4:∀ i,i<h.orders.length→ZgL h i):true=decide (Zx h):=(YS ⟨h1,h2,h3,h4⟩).symm
theorem Zie {h:Zs} (h1:h.txs.length≤4096) (h2:∀ i,i<h.txs.length→Ziu h i) (h3:h.orders.length=(Zai h.txs).length) (h4:∀ i,i<h.orders.length→Zfr h i):true=decide (Zx h):=(YS ⟨h1,h2,(Zco h).1 ⟨h3,h4⟩⟩).symm
def Znz (l:List Int):Option (List Int):=if l = [] then none else some l
theorem Zi9 (l:List Int):(Znz l).getD [] = l:=by
 unfold Znz
 split
 ·rename_i h;rw [h];rfl
 ·rfl
def WrL (es:List (GE Int (List Int))) (l:List TxD):Prop:=GNd es ∧ ∀ k,gGet k es=Znz (ZI l k)
def WrV (es:List (GE Int (Value×List Int))) (l:List TxD) (id:Int) (ks:List Int):Prop:=GNd es ∧ ∀ k,(gGet k es).map (·.2)=Znz (ZI l k++if k ∈ ks then [id] else [])
theorem ZoC {id:Int} : WrV [] [] id []:=⟨by simp [GNd],fun k=>by simp [gGet,ZI,Znz]⟩
theorem ZmR {es:List (GE Int (Value×List Int))} {l:List TxD} {id:Int} (h:WrV es l id []):WrL (Zd7 es) l:=⟨by unfold GNd;rw [ZhQ];exact h.1,fun k=>by rw [ZfL,h.2];simp⟩
theorem Zl4 {es:List (GE Int (Value×List Int))} {l:List TxD} {id id':Int} (h:WrV es l id []):WrV es l id' []:=⟨h.1,fun k=>by rw [h.2];simp⟩
theorem Zn4 {es:List (GE Int (Value×List Int))} {l:List TxD} {i:Nat} {id:Int} (h:WrV es (l.take i) id []) (hi:i<l.length) (hd:(Nn l i).done=false):WrV es (l.take (i+1)) id []:=⟨h.1,fun k=>by rw [h.2,Za6 hi];simp [hd]⟩
theorem Zoa {es:List (GE Int (Value×List Int))} {l:List TxD} {i:Nat} {id:Int} (h:WrV es (l.take i) (Nn l i).id (Zl (Nn l i))) (hi:i<l.length) (hd:(Nn l i).done=true):WrV es (l.take (i+1)) id []:=⟨h.1,fun k=>by
 rw [h.2,Za6 hi]
 congr 1
 simp only [YaH,Ym,Y3]
 congr 1
 by_cases hk:k ∈ Zl (Nn l i)
 ·rw [Ye hk,Ye ⟨hd,ZaH.1 hk⟩]
 ·rw [Yb hk,Yb fun h9=>hk (ZaH.2 h9.2)]⟩
theorem Znd {es:List (GE Int (Value×List Int))} {l:List TxD} {id:Int} {ks:List Int} {j:Nat} (h:WrV es l id (ks.take j)) (hn:ks.Nodup) (hj:j<ks.length):((gGet (Nn ks j) es).getD ZaP).2=ZI l (Nn ks j):=by
 have h1:=h.2 (Nn ks j)
 have hni:Nn ks j ∉ ks.take j:=fun hm=>by
  rw [Zw hj] at hm
  obtain ⟨k,hk,e⟩:=YK hm
  rw [Yj] at hk
  rw [List.getElem_take] at e
  have h3:=Yao.1 hn k j ow hj ow
  exact h3 e
 rw [Yb hni,Y3] at h1
 have h2:=Zi9 (ZI l (Nn ks j))
 rw [← h1] at h2
 rw [← h2]
 cases gGet (Nn ks j) es <;> rfl
theorem Zoe {es:List (GE Int (Value×List Int))} {l:List TxD} {id:Int} {ks:List Int} {j ck:Nat} {v:Value} (h:WrV es l id (ks.take j)) (hn:ks.Nodup) (hj:j<ks.length):WrV (gPut (Nn ks j) (v,((gGet (Nn ks j) es).getD ZaP).2 ++ [id]) (es,ck)).1 l id (ks.take (j+1)):=⟨GNd.put h.1,fun k=>by
 rw [Zbw,Znd h hn hj,Zu hj]
 by_cases e:k=Nn ks j
 ·subst e
  rw [Ye rfl,Ye XA]
  simp [Znz]
 ·rw [Yb e,h.2]
  simp [e]⟩
theorem Zph {es:List (GE Int (List Int))} {l:List TxD} (h:WrL es l) (k:Int):(gGet k es).getD [] = ZI l k:=by rw [h.2,Zi9]
theorem Zpj {es:List (GE Int (List Int))} {l:List TxD} (h:WrL es l):es.length=(Zai l).length:=by
 have h1:(es.map (·.key)).Perm (Zai l):=by
  refine (Ya3 h.1 ((Z9 _).1.imp fun h=>Ybr h)).2 fun k=>?_
  rw [← ZbS,h.2,show (k ∈ Zan ((l.filter fun t=>t.done).flatMap Zl)) ↔ ZI l k≠[] from Zcf]
  unfold Znz
  split <;> simp_all
 simpa using h1.length_eq
theorem ZeE (t:TxD):(Zl t).Nodup:=(Z9 _).1.imp fun h=>Ybr h
theorem Zhj {α:Type} {R:α→List PV} {w:World} {y:Ys} : (PV.sl R ([]:List α)).p (.slice none 0 0) w y:=⟨none,0,rfl,YP _,by unfold maxLen;omega,.inl rfl⟩
end Go.Proofs.YtfecljadegkmdaaGreat
