/- Texts put together. No condition beyond those that each theorem says. -/
import Derived.Test.YtdpkkdigojkpaaaGreatLibG
import Derived.Shelf.SlIter.Collect
import Derived.Maps.RangeRun
import Derived.Sort.MapsRangeIn
import Derived.RangeFuncBound
import Derived.Test.YtdpkkdigojkpaaaGreatJ2
import Derived.Test.YtdpkkdigojkpaaaGreatJ5
import Derived.Test.YtdpkkdigojkpaaaGreatJ7
namespace Go.Proofs.YtdpkkdigojkpaaaGreat
open Go Go.Gm
set_option linter.unusedVariables false
set_option linter.unusedSimpArgs false
set_option maxHeartbeats 4000000
set_option maxRecDepth 8000
open Go.RowKit Go.Maps Go.Sort Go.Shelf Go.ChangeMaps Go.MapKept
section
variable {F:Fence} {n:Nat} {P:Program} {ops:Array Oper} {rest:List Oper} {o:Oper} {a:Act} {w:World} {Q:Exit→Act→World→Prop}
theorem Zdv (hg:o.guard=none) (m:Operand) (t:TypeId) (hop:o.op=Op.range t m) (k e:TypeId) (ht:P.underlying t=some (.map k e)) (b:Nat) (es:Array MapEntry) (clock:Nat) (hm:a.eval m = .map (some b)) (hb:w.heap[b]? = some (.map es clock))
   (hK:wpListIn F n P ops Q rest (a.put o.dst (.pointer (some ⟨w.heap.size,0,none⟩))) (w.alloc (.mapIter (some b) clock #[] clock))):wpListIn F n P ops Q (o :: rest) a w:=by
 refine wpListIn_plain hg fun K' hK'=>?_
 unfold Oper.wpIn
 refine ⟨by simp [Oper.about,hop],?_⟩
 rw [Oper.semAt_plain F _ _ (by rw [hop];intro c hc';cases hc')]
 simp [execOp,hop,hm,run_range_map w t k e b es clock ht hb,Result.andThen]
 exact hK' _ _ hK
end
theorem Zli {w w1:World} {r b:Nat} {clock c0:Nat} {seen:Array Nat} {es:Array MapEntry} {x:Nat} (hal:w1=w∨w1=w.drew) (hr:w.heap[r]? = some (.mapIter (some b) clock seen c0)) (hb:w.heap[b]? = some (.map es clock)) (hne:r≠b) :
   (setBlock w1 r (.mapIter (some b) clock (seen.push x) clock)).heap[r]? = some (.mapIter (some b) clock (seen.push x) clock)∧(setBlock w1 r (.mapIter (some b) clock (seen.push x) clock)).heap[b]? = some (.map es clock)∧w.grownBy (setBlock w1 r (.mapIter (some b) clock (seen.push x) clock)) (some r):=by
 have hr1:w1.heap[r]? = some (.mapIter (some b) clock seen c0):=by rcases hal with rfl | rfl <;> exact hr
 have hb1:w1.heap[b]? = some (.map es clock):=by rcases hal with rfl | rfl <;> exact hb
 have hset:=heap_set (o':=.mapIter (some b) clock (seen.push x) clock) hr1
 refine ⟨hset.1,(hset.2 b (fun e1=>hne e1.symm)).trans hb1,?_⟩
 rcases hal with rfl | rfl <;> exact ⟨rfl,rfl,rfl,by simp [setBlock],fun i _ hi=>hset.2 i (fun e1=>hi (by rw [e1]))⟩
def ZnX (es:Array MapEntry) (seen:Array Nat):Prop:=(leftOf es seen).size=0
structure Zn8 (P:Program) (w w2:World) (r b clock:Nat) (seen:Array Nat) (es:Array MapEntry) (e:MapEntry):Prop where
 left:e ∈ (leftOf es seen).toList
 it:w2.heap[r]? = some (.mapIter (some b) clock (seen.push e.born) clock)
 mp:w2.heap[b]? = some (.map es clock)
 grown:w.grownBy w2 (some r)
 entry:(Instr.entry (.pointer (some ⟨r,0,none⟩))).run P w2 = .ok (.tuple #[e.key,e.val]) w2
section
variable {F:Fence} {n:Nat} {P:Program} {ops:Array Oper} {rest:List Oper} {o:Oper} {a:Act} {w:World} {Q:Exit→Act→World→Prop}
theorem ZdQ (hg:o.guard=none) (it:Operand) (hop:o.op=Op.next it false) (r b clock c0:Nat) (seen:Array Nat) (es:Array MapEntry) (hit:a.eval it = .pointer (some ⟨r,0,none⟩))
   (hr:w.heap[r]? = some (.mapIter (some b) clock seen c0)) (hb:w.heap[b]? = some (.map es clock)) (hold:∀ x ∈ es.toList,x.born<clock) (hsc:clock≤c0) (hne:r≠b) (hnd:(es.toList.map (·.born)).Nodup)
   (hDone:ZnX es seen→wpListIn F n P ops Q rest (a.put o.dst (.tuple #[.bool false])) w)
   (hMore:∀ (e:MapEntry) (w2:World),Zn8 P w w2 r b clock seen es e→wpListIn F n P ops Q rest (a.put o.dst (.tuple #[.bool true,e.key,e.val])) w2) :
   wpListIn F n P ops Q (o :: rest) a w:=by
 refine wpListIn_plain hg fun K' hK'=>?_
 unfold Oper.wpIn
 refine ⟨by simp [Oper.about,hop],?_⟩
 rw [Oper.semAt_plain F _ _ (by rw [hop];intro c hc';cases hc')]
 rcases run_next_at (P:=P) w o.type r b clock c0 seen es clock hr hb hold hsc with ⟨h0,hrun⟩ | ⟨e,he,w1,hal,hrun⟩
 · simp [execOp,hop,hit,hrun,Result.andThen]
   exact hK' _ _ (hDone h0)
 · simp [execOp,hop,hit,hrun,Result.andThen]
   obtain ⟨h1,h2,h3⟩:=Zli (x:=e.born) hal hr hb hne
   exact hK' _ _ (hMore e _ ⟨he,h1,h2,h3,run_entry_at _ r b clock seen es clock e h1 h2 (mem_left he).1 hnd⟩)
end
theorem ZhR:∀ {es:List MapEntry} {seen:Array Nat} {e:MapEntry},(es.map (·.born)).Nodup→e ∈ es→seen.contains e.born=false→(es.filter fun x=>(seen.push e.born).contains x.born).Perm (e :: es.filter fun x=>seen.contains x.born)
 | [],_,_,_,h,_=>by cases h
 | x :: es,seen,e,hn,hm,hs=>by
   rw [List.map_cons,List.nodup_cons] at hn
   rcases List.mem_cons.1 hm with rfl | hm
   · have hrest:(es.filter fun x=>(seen.push e.born).contains x.born)=es.filter fun x=>seen.contains x.born:=List.filter_congr fun y hy=>by
       rw [contains_push]
       have:(y.born == e.born)=false:=by
         simp
         intro h9
         exact hn.1 (h9 ▸ List.mem_map.2 ⟨y,hy,rfl⟩)
       rw [this,Bool.or_false]
     rw [List.filter_cons_of_pos (by rw [contains_push];simp),hrest,List.filter_cons_of_neg (by rw [hs];simp)]
   · have ih:=ZhR hn.2 hm hs
     have hx:(x.born == e.born)=false:=by
       simp
       intro h9
       exact hn.1 (h9 ▸ List.mem_map.2 ⟨e,hm,rfl⟩)
     have hc:(seen.push e.born).contains x.born=seen.contains x.born:=by rw [contains_push,hx,Bool.or_false]
     cases hsx:seen.contains x.born with
     | true=>
       rw [List.filter_cons_of_pos (by rw [hc,hsx]),List.filter_cons_of_pos (by rw [hsx])]
       exact (ih.cons x).trans (List.Perm.swap e x _)
     | false=>
       rw [List.filter_cons_of_neg (by rw [hc,hsx];simp),List.filter_cons_of_neg (by rw [hsx];simp)]
       exact ih
theorem ZnH {es:Array MapEntry} {seen:Array Nat} (h:(leftOf es seen).size=0):(es.toList.filter fun x=>seen.contains x.born)=es.toList:=List.filter_eq_self.2 fun x hx=>all_seen es seen h x hx
theorem Zmv {es:List MapEntry} : (es.filter fun x=>(#[]:Array Nat).contains x.born) = []:=by
 rw [List.filter_eq_nil_iff];simp
theorem Zl1 {es:Array MapEntry} : (leftOf es #[]).size=es.size:=by simp [leftOf]
end Go.Proofs.YtdpkkdigojkpaaaGreat
namespace Go.Proofs.YtdpkkdigojkpaaaGreat
open Go Go.Gm
set_option linter.unusedVariables false
set_option linter.unusedSimpArgs false
set_option maxHeartbeats 4000000
set_option maxRecDepth 8000
open Go.RowKit Go.Maps Go.Sort Go.Shelf Go.ChangeMaps Go.MapKept
def Zog (x:Zk):List Value:=[Value.int .i64 x.src,.int .i64 x.dst,.int .i64 x.kind,.int .i64 x.key]
def Zjl (x:Zk):Value:=(.agg #[.int .i64 x.src,.int .i64 x.dst,.int .i64 x.kind,.int .i64 x.key])
def Zsq (v:Value):Zk:=match v with
 | .agg z=>match z.toList with
   | [.int _ b,.int _ c,.int _ d,.int _ e]=>⟨b,c,d,e⟩
   | _=>noE
 | _=>noE
theorem Zod (x:Zk):Zsq (Zjl x)=x:=rfl
theorem ZnW (x:Zk):∀ u ∈ [Value.int .i64 x.src,.int .i64 x.dst,.int .i64 x.kind,.int .i64 x.key],u.oneCell' = true:=by
 intro u hu
 simp at hu
 rcases hu with rfl | rfl | rfl | rfl <;> rfl
theorem ZlA {w:World} {y:Ys} : ∀ {l:List Zk},(∀ e ∈ l,∀ x ∈ Zaa e,inR .i64 x)→PVs (l.flatMap ZI) (l.flatMap Zog) w y
 | [],_=>trivial
 | e :: l,h=>by
   have h1:=h e (by simp)
   unfold Zaa at h1
   exact ⟨⟨rfl,rfl,h1 _ (by simp)⟩,⟨rfl,rfl,h1 _ (by simp)⟩,⟨rfl,rfl,h1 _ (by simp)⟩,⟨rfl,rfl,h1 _ (by simp)⟩,ZlA fun z hz=>h z (by simp [hz])⟩
set_option maxRecDepth 100000 in
set_option maxHeartbeats 1000000 in
theorem Zp9 (F:Fence) (n:Nat) (h10:F.fn 288) (hro:F.round=none) (hn:1≤n) (l Bm off b clock:Nat) (es:Array MapEntry) (hnd:(es.toList.map (·.born)).Nodup) (hold:∀ x ∈ es.toList,x.born<clock) (hkv:∀ e ∈ es.toList,∃ k:Zk,e.key=Zjl k) (J:List Zk→World→Prop)
   (hY:∀ pre x W,J pre W→pre.length<es.size→YieldAt F (n - 1) Tryz.prog l #[Zjl x] W fun e W'=>e = .returned (.bool true)∧J (pre ++ [x]) W' ∧ KeepsWalks W W')
   (W:World) (hJ:AbidesFrom W.heap.size J) (hm:W.cell? ⟨Bm,off,none⟩ = some (.map (some b))) (hb:W.heap[b]? = some (.map es clock)) (h0:J [] W) :
   CallsIn F n Tryz.prog 288 #[.func (.yield l) #[] #[],.pointer (some ⟨Bm,off,none⟩)] W fun e W'=>(∃ v,e = .returned v) ∧ ∃ ss:List Zk,(ss.map Zjl).Perm (es.toList.map (·.key))∧J ss W':=by
 have hbl:b<W.heap.size:=(Array.getElem?_eq_some_iff.1 hb).1
 refine callsIn_of_wp Tryz.func288 rfl h10 ?_ hro
 simp only [Tryz.ntmps288,List.size_toArray,List.length_cons,List.length_nil,Nat.reduceAdd,Nat.reduceSub,Array.replicate_succ,Array.replicate_zero,List.push_toArray,List.append_toArray,List.nil_append,List.cons_append]
 gi_wp2_with (first
   | (gi_at_range;refine Zdv rfl _ 223 rfl 192 3 (by kernel_rfl) b es clock rfl hb ?_)
   | gi_in)
 go_frame
 have hg0:W.grownBy (W.alloc (.mapIter (some b) clock #[] clock)) none:=World.grownBy_alloc W _ none
 have hr0:(W.alloc (.mapIter (some b) clock #[] clock)).heap[W.heap.size]? = some (.mapIter (some b) clock #[] clock):=World.alloc_heap_new W _
 have hb0:(W.alloc (.mapIter (some b) clock #[] clock)).heap[b]? = some (.map es clock):=(Below.heap_alloc _ _ b hbl).trans hb
 generalize W.alloc (.mapIter (some b) clock #[] clock)=w0 at hg0 hr0 hb0 ⊢
 gi_loopw [3] (fun _ wr=>∃ (seen:Array Nat) (c0:Nat) (ss:List Zk),wr.heap[W.heap.size]? = some (.mapIter (some b) clock seen c0)∧clock≤c0∧wr.heap[b]? = some (.map es clock)∧(ss.map Zjl).Perm ((es.toList.filter fun x=>seen.contains x.born).map (·.key))∧ss.length+(leftOf es seen).size≤es.size∧J ss wr)
   (fun _ wr=>(leftOf es (wr.iterSeen W.heap.size)).size)
 case atStart=>
   exact ⟨#[],clock,[],hr0,Nat.le_refl _,hb0,by rw [Zmv];exact .nil,by rw [Zl1];simp,hJ [] W w0 none h0 hg0 (fun r e=>by cases e)⟩
 case round=>
   obtain ⟨seen,c0,ss,hr,hsc,hbr,hp,hcs,hJs⟩:=hrel
   gi_wp2_with (first
     | (gi_at_next;refine ZdQ rfl _ rfl W.heap.size b clock c0 seen es rfl hr hbr hold hsc (by omega) hnd ?_ ?_)
     | gi_in)
   · intro hl0
     gi_wp2
     go_end0
     exact ⟨⟨_,rfl⟩,ss,by rw [ZnH hl0] at hp;exact hp,hJs⟩
   · intro e w2 hN
     obtain ⟨hem,hes⟩:=mem_left hN.left
     obtain ⟨x,hx⟩:=hkv e hem
     have hr2:=hN.it
     have hb2:=hN.mp
     have hen:=hN.entry
     have hlt:=left_shrinks es seen e hN.left
     have hJ2:J ss w2:=hJ ss wr w2 (some W.heap.size) hJs hN.grown (fun r e9=>by cases e9;exact ⟨Nat.le_refl _,_,hr,rfl⟩)
     rw [hx,show Zjl x=(.agg #[.int .i64 x.src,.int .i64 x.dst,.int .i64 x.kind,.int .i64 x.key]) from rfl] at hen
     have hJ3:J ss (w2.alloc (.cells #[.int .i64 x.src,.int .i64 x.dst,.int .i64 x.kind,.int .i64 x.key] 192)):=hJ ss w2 _ none hJ2 (World.grownBy_alloc w2 _ none) (fun r e9=>by cases e9)
     have hr2b:(w2.alloc (.cells #[.int .i64 x.src,.int .i64 x.dst,.int .i64 x.kind,.int .i64 x.key] 192)).heap[W.heap.size]? = _:=(Below.heap_alloc _ _ _ (Array.getElem?_eq_some_iff.1 hr2).1).trans hr2
     have hb2b:(w2.alloc (.cells #[.int .i64 x.src,.int .i64 x.dst,.int .i64 x.kind,.int .i64 x.key] 192)).heap[b]? = _:=(Below.heap_alloc _ _ _ (Array.getElem?_eq_some_iff.1 hb2).1).trans hb2
     obtain ⟨fn,tmps,assign,body,hy,hR⟩:=hY ss x _ hJ3 (by omega)
     rw [show Zjl x=(.agg #[.int .i64 x.src,.int .i64 x.dst,.int .i64 x.kind,.int .i64 x.key]) from rfl] at hy
     rw [hx,show Zjl x=(.agg #[.int .i64 x.src,.int .i64 x.dst,.int .i64 x.kind,.int .i64 x.key]) from rfl]
     clear hN
     gi_wp2
     refine hR.mono ?_
     rintro e9 W3 ⟨rfl,hJ4,hk3⟩
     gi_wp2
     have hr3:=hk3.same _ _ hr2b rfl
     have hb3:=hk3.same _ _ hb2b rfl
     go_roundw
     case rel=>
       exact ⟨seen.push e.born,clock,ss ++ [x],hr3,Nat.le_refl _,hb3,by
         rw [List.map_append,List.map_singleton]
         have h9:=((ZhR hnd hem hes).map (·.key)).symm
         rw [List.map_cons,hx] at h9
         exact ((List.perm_append_singleton _ _).trans (hp.cons _)).trans h9,by rw [List.length_append,List.length_singleton];omega,hJ4⟩
     case measure=>
       simp only [World.iterSeen,hr3,hr]
       exact hlt
end Go.Proofs.YtdpkkdigojkpaaaGreat
namespace Go.Proofs.YtdpkkdigojkpaaaGreat
open Go Go.Gm
set_option linter.unusedVariables false
set_option linter.unusedSimpArgs false
set_option maxHeartbeats 4000000
set_option maxRecDepth 8000
open Go.RowKit Go.Maps Go.Sort Go.Shelf Go.ChangeMaps Go.MapKept
theorem Zmb (w:World) (l:List Value) (t:TypeId):∀ j u,l[j]? = some u→(w.alloc (.cells l.toArray t)).cell? ((⟨w.heap.size,0,none⟩:Addr).add j)=some u:=by
 intro j u hj
 rw [show (⟨w.heap.size,0,none⟩:Addr).add j = ⟨w.heap.size,j,none⟩ from by cases j <;> simp [Addr.add]]
 rw [ZM (vs:=l.toArray) (T:=t) (fr:=(0,0)) (World.alloc_heap_new w _)]
 simpa using hj
def ZdP : Code := (Code.region 2 #[{ dst := some 5, op := Op.alloc 192, type := 0, pos := "iter.go:51", after := #[], guard := none }, { dst := none, op := Op.store 192 (Operand.tmp 5) (Operand.tmp 7), type := 0, pos := "iter.go:51", after := #[{ on := 0, ground := Ground.data }, { on := 0, ground := Ground.phase }], guard := none }] false)
def ZgT : Code := (Code.block 1 (Code.region 3 #[{ dst := some 8, op := Op.load 127 (Operand.tmp 2), type := 127, pos := "iter.go:52", after := #[], guard := none }, { dst := some 9, op := Op.load 192 (Operand.tmp 5), type := 192, pos := "iter.go:52", after := #[], guard := none }, { dst := some 10, op := Op.buildSlice 127 1 #[(0, Operand.tmp 9)], type := 127, pos := "iter.go:52", after := #[{ on := 1, ground := Ground.data }], guard := none }, { dst := some 11, op := Op.call { callee := Callee.builtin Builtin.append, args := #[Operand.tmp 8, Operand.tmp 10], argTypes := #[127, 127] }, type := 127, pos := "iter.go:52", after := #[{ on := 0, ground := Ground.data }, { on := 2, ground := Ground.data }], guard := none }, { dst := none, op := Op.store 127 (Operand.tmp 2) (Operand.tmp 11), type := 0, pos := "iter.go:52", after := #[{ on := 3, ground := Ground.data }, { on := 3, ground := Ground.chain }, { on := 0, ground := Ground.phase }, { on := 1, ground := Ground.phase }, { on := 2, ground := Ground.phase }, { on := 3, ground := Ground.phase }], guard := none }] false))
def kcApRec (fn:FuncId) (sv:Value) (Bs D:Nat) (st:LoopState) (pend:Option Code):Loop:=
 { state:=st,pending:=pend,fn,tmps:=#[.slice none 0 0,sv,.pointer (some ⟨Bs,0,none⟩),undef,.slice none 0 0,undef,sv,undef,undef,undef,undef,undef,undef],params:=#[7],assign:=ZdP,body:=ZgT,defers:=D }
structure Zga (w0:World) (fn:FuncId) (sv:Value) (Bs l D:Nat) (ss:List Zk) (W:World):Prop where
 box:∃ v,W.heap[Bs]? = some (.cells #[v] 127 (0,0))∧W.ownsRow w0.heap.size 192 4 v ss.length (ss.flatMap Zog)∧(v = .slice none 0 0 ↔ ss = [])
 L:W.heap[l]? = some (.loop (kcApRec fn sv Bs D .ready none))
 K:W.heap[D]? = some (.deferred (some []))
 below:Below w0.heap.size w0 W
theorem Zfa (w0:World) (fn:FuncId) (sv:Value) (Bs l D B:Nat) (hB:w0.heap.size≤B):AbidesFrom B (Zga w0 fn sv Bs l D):=fun s W W' row h hg hrow=>by
 have hrow':∀ r,row=some r → ∃ o:Obj,W.heap[r]? = some o∧o.isWalk=true:=fun r e=>(hrow r e).2
 obtain ⟨v,hv,hr,hn⟩:=h.box
 exact ⟨⟨v,(grownBy_keeps hg hrow' hv rfl).trans hv,ownsRow_abides_a hr hg hrow',hn⟩,(grownBy_keeps hg hrow' h.L rfl).trans h.L,(grownBy_keeps hg hrow' h.K rfl).trans h.K,
   h.below.grown hg h.below.size (fun k e=>Nat.le_trans hB (hrow k e).1)⟩
set_option maxRecDepth 100000 in
set_option maxHeartbeats 2000000 in
theorem Zm3 (F:Fence) (m:Nat) (w0:World) (fn:FuncId) (hfn:F.fn fn) (sv:Value) (Bs l D:Nat) (hBl:Bs≠l) (hDl:D≠l) (hDB:D≠Bs) (h0B:w0.heap.size≤Bs) (h0l:w0.heap.size≤l)
   (N:Nat) (hN:N≤maxLen) (hNb:N*32≤140737488355328) (ss:List Zk) (x:Zk) (W:World) (h:Zga w0 fn sv Bs l D ss W) (hlen:ss.length<N) :
   YieldAt F m Tryz.prog l #[(.agg #[.int .i64 x.src,.int .i64 x.dst,.int .i64 x.kind,.int .i64 x.key])] W fun e W'=>e = .returned (.bool true)∧Zga w0 fn sv Bs l D (ss ++ [x]) W' ∧ KeepsWalks W W':=by
 have hne:127≠192:=by decide
 obtain ⟨i0,hi,hz0,hz1,hz2⟩:=info_parts (show (Tryz.prog.info? 192).map (fun i=>(i.zero,i.size,i.bytes))=some (some (.agg #[.int .i64 0,.int .i64 0,.int .i64 0,.int .i64 0]),4,32) from by kernel_rfl)
 obtain ⟨v,hv,hrow,_⟩:=h.box
 refine ⟨fn,#[.slice none 0 0,sv,.pointer (some ⟨Bs,0,none⟩),undef,.slice none 0 0,undef,sv,(.agg #[.int .i64 x.src,.int .i64 x.dst,.int .i64 x.kind,.int .i64 x.key]),undef,undef,undef,undef,undef],ZdP,ZgT,by simpa [kcApRec] using run_yield (P:=Tryz.prog) (args:=#[(.agg #[.int .i64 x.src,.int .i64 x.dst,.int .i64 x.kind,.int .i64 x.key])]) h.L rfl,roundIn_of_wpIn hfn ?_⟩
 have hb9:Zga w0 fn sv Bs l D ss (W.alloc (.cells #[.int .i64 x.src,.int .i64 x.dst,.int .i64 x.kind,.int .i64 x.key] 192)):=Zfa w0 fn sv Bs l D w0.heap.size (Nat.le_refl _) ss W _ none h (World.grownBy_alloc W _ none) (fun r e=>by cases e)
 obtain ⟨v,hv,hrow,_⟩:=hb9.box
 have hl:l<(W.alloc (.cells #[.int .i64 x.src,.int .i64 x.dst,.int .i64 x.kind,.int .i64 x.key] 192)).heap.size:=(Array.getElem?_eq_some_iff.1 hb9.L).1
 have hbr:=run_beginRound (P:=Tryz.prog) hb9.L rfl
 obtain ⟨W2,hW2⟩:∃ W2,(W.alloc (.cells #[.int .i64 x.src,.int .i64 x.dst,.int .i64 x.kind,.int .i64 x.key] 192)).putObj l (.loop { kcApRec fn sv Bs D .ready none with state:=.busy })=W2:=⟨_,rfl⟩
 rw [hW2] at hbr
 have hg2:(W.alloc (.cells #[.int .i64 x.src,.int .i64 x.dst,.int .i64 x.kind,.int .i64 x.key] 192)).grownBy W2 (some l):=by rw [← hW2];exact grownBy_putObj_a _ _ _
 have hk2:KeepsWalks (W.alloc (.cells #[.int .i64 x.src,.int .i64 x.dst,.int .i64 x.kind,.int .i64 x.key] 192)) W2:=by rw [← hW2];exact KeepsWalks.putObj _ hb9.L rfl
 have hv2:W2.heap[Bs]? = some (.cells #[v] 127 (0,0)):=by rw [← hW2];exact (World.putObj_heap_other hBl).trans hv
 have hK2:W2.heap[D]? = some (.deferred (some [])):=by rw [← hW2];exact (World.putObj_heap_other hDl).trans hb9.K
 have hL2:W2.heap[l]? = some (.loop { kcApRec fn sv Bs D .ready none with state:=.busy }):=by rw [← hW2];exact World.putObj_heap_same hl
 have hrow2:W2.ownsRow w0.heap.size 192 4 v ss.length (ss.flatMap Zog):=hrow.kept hg2 (ownsRow_ne_a hrow hb9.L (fun cur e=>by first | cases e | exact hne (Obj.cells.inj e).2.1))
 have hb2:Below w0.heap.size w0 W2:=hb9.below.grown hg2 hb9.below.size (fun k e=>by cases e;exact h0l)
 obtain ⟨hc2,hf2⟩:=cell_of_box_a hv2
 have hBlt:Bs<W2.heap.size:=(Array.getElem?_eq_some_iff.1 hv2).1
 have hl2:l<W2.heap.size:=(Array.getElem?_eq_some_iff.1 hL2).1
 have hDlt:D<W2.heap.size:=(Array.getElem?_eq_some_iff.1 hK2).1
 have ne_of:∀ {j:Nat} {o:Obj},W2.heap[j]? = some o→(∀ cur,o ≠ .cells cur 192 (0,0))→some j≠v.ownBlock:=fun hj hno=>by
   rcases ownsRow_ne_a hrow2 hj hno with e | e
   · rw [e];simp
   · exact fun e'=>e e'.symm
 have hx2:W2.heap[W.heap.size]? = some (.cells #[.int .i64 x.src,.int .i64 x.dst,.int .i64 x.kind,.int .i64 x.key] 192 (0,0)):=by rw [← hW2];exact (World.putObj_heap_other (by have:=(Array.getElem?_eq_some_iff.1 h.L).1;omega)).trans (World.alloc_heap_new W _)
 have cb0:W2.cell? ⟨W.heap.size,0,none⟩ = some _:=(ZM hx2 _).trans rfl
 have cb1:W2.cell? ⟨W.heap.size,1,none⟩ = some _:=(ZM hx2 _).trans rfl
 have cb2:W2.cell? ⟨W.heap.size,2,none⟩ = some _:=(ZM hx2 _).trans rfl
 have cb3:W2.cell? ⟨W.heap.size,3,none⟩ = some _:=(ZM hx2 _).trans rfl
 clear hW2
 unfold ZdP
 gi_wp2_with gi_round_op_a
 unfold ZgT
 gi_wp2_with (first
   | (gi_at_builtin;refine wpListIn_append_own _ rfl _ _ 127 rfl w0.heap.size 192 i0 (.agg #[.int .i64 0,.int .i64 0,.int .i64 0,.int .i64 0]) 4 32 Tryz.underlying127 hi hz0 hz1 hz2 rfl (by decide) _ _ _ rfl (hrow2.alloc _) ⟨W2.heap.size,0,none⟩ 1 1 ([.int .i64 x.src,.int .i64 x.dst,.int .i64 x.kind,.int .i64 x.key]) rfl rfl (Zmb _ _ _) (ZnW x) (by omega) (by omega) (by have:=hb2.size;simp;omega) ?_;intro v' w3 hown' hg3 hnil3
      have hv3:w3.heap[Bs]? = some (.cells #[v] 127 (0,0)):=(hg3.block Bs (by simp;omega) (ne_of hv2 (fun cur e=>by first | cases e | exact hne (Obj.cells.inj e).2.1))).trans ((Below.heap_alloc _ _ Bs hBlt).trans hv2)
      obtain ⟨hc3,hf3⟩:=cell_of_box_a hv3
      obtain ⟨g',cap',cur',rfl,hbase',hgb',hr1,hr2,hr3,hr4⟩:∃ g' cap' cur',v' = .slice (some ⟨g',0,none⟩) (ss.length+1) cap' ∧ w0.heap.size≤g' ∧ w3.heap[g']? = some (.cells cur' 192 (0,0))∧ss.length+1≤cap' ∧ cap' ≤ maxLen∧cur'.size=cap' * 4∧cur'.toList.take ((ss.length+1)*4)=ss.flatMap Zog ++ [.int .i64 x.src,.int .i64 x.dst,.int .i64 x.kind,.int .i64 x.key]:=by
        rcases hown'.2 with ⟨_,h0⟩ | h'
        · exact absurd h0 (by omega)
        · exact h'
      go_frame)
   | gi_round_op_a)
 have hg3':(W2.alloc (.cells ([.int .i64 x.src,.int .i64 x.dst,.int .i64 x.kind,.int .i64 x.key]).toArray 192)).grownBy w3 v.ownBlock:=hg3
 have hL3:w3.heap[l]? = some (.loop { kcApRec fn sv Bs D .ready none with state:=.busy }):=(hg3'.block l (by simp;omega) (ne_of hL2 (fun cur e=>by first | cases e | exact hne (Obj.cells.inj e).2.1))).trans ((Below.heap_alloc _ _ l hl2).trans hL2)
 have hK3:w3.heap[D]? = some (.deferred (some [])):=(hg3'.block D (by simp;omega) (ne_of hK2 (fun cur e=>by first | cases e | exact hne (Obj.cells.inj e).2.1))).trans ((Below.heap_alloc _ _ D hDlt).trans hK2)
 obtain ⟨w4,hw4⟩:∃ w4,w3.setCell ⟨Bs,0,none⟩ (.slice (some ⟨g',0,none⟩) (ss.length+1) cap')=w4:=⟨_,rfl⟩
 rw [hw4]
 have hg4:w3.grownBy w4 (some Bs):=by rw [← hw4];exact grownBy_setCell0_a _ _ _
 have hv4:w4.heap[Bs]? = some (.cells #[.slice (some ⟨g',0,none⟩) (ss.length+1) cap'] 127 (0,0)):=by rw [← hw4];exact heap_setCell_box_a _ hv3
 have hL4:w4.heap[l]? = some (.loop { kcApRec fn sv Bs D .ready none with state:=.busy }):=(hg4.block l (Array.getElem?_eq_some_iff.1 hL3).1 (fun e=>hBl (by cases e;rfl))).trans hL3
 have hK4:w4.heap[D]? = some (.deferred (some [])):=(hg4.block D (Array.getElem?_eq_some_iff.1 hK3).1 (fun e=>hDB (by cases e;rfl))).trans hK3
 have hrow4:=hown'.kept hg4 (ownsRow_ne_a hown' hv3 (fun cur e=>by first | cases e | exact hne (Obj.cells.inj e).2.1))
 have hl4:l<w4.heap.size:=(Array.getElem?_eq_some_iff.1 hL4).1
 have hb3:Below w0.heap.size w0 w3:=(hb2.alloc hb2.size _).grown hg3' (by have:=hb2.size;simp;omega) (fun k e=>(hrow2.lt k e).1)
 have hb4:Below w0.heap.size w0 w4:=hb3.grown hg4 hb3.size (fun k e=>by cases e;exact h0B)
 have hk4:KeepsWalks (W.alloc (.cells #[.int .i64 x.src,.int .i64 x.dst,.int .i64 x.kind,.int .i64 x.key] 192)) w4:=((hk2.trans (KeepsWalks.alloc _ _)).trans (KeepsWalks.of_grownBy hg3' (ownsRow_not_walk_a (hrow2.alloc _)))).trans (by rw [← hw4];exact KeepsWalks.setCell _ _ _)
 clear hw4
 refine ⟨_,_,run_endRound none hL4,rfl,⟨⟨_,(World.putObj_heap_other hBl).trans hv4,?_,by simp⟩,World.putObj_heap_same hl4,(World.putObj_heap_other hDl).trans hK4,hb4.grown (grownBy_putObj_a _ _ _) hb4.size (fun k e=>by cases e;exact h0l)⟩,((KeepsWalks.alloc _ _).trans hk4).trans (KeepsWalks.putObj _ hL4 rfl)⟩
 have:=hrow4.kept (grownBy_putObj_a w4 l (.loop { { kcApRec fn sv Bs D .ready none with state:=.busy } with state:=if (none:Option Code).isNone then .ready else .done,pending:=none })) (ownsRow_ne_a hrow4 hL4 (fun cur e=>by first | cases e | exact hne (Obj.cells.inj e).2.1))
 rw [List.flatMap_append,show [x].flatMap Zog = [.int .i64 x.src,.int .i64 x.dst,.int .i64 x.kind,.int .i64 x.key] from rfl,List.length_append]
 simpa using this
set_option maxRecDepth 100000 in
set_option maxHeartbeats 2000000 in
theorem ZfF (F:Fence) (n:Nat) (h11:F.fn 287) (hro:F.round=none) (hn:2≤n) (g:Nat) (lb:Array Value) (hFg:F.fn g) (eg:∀ args w,(callFunc g args).run Tryz.prog w = .ok (.enter g args) w)
   (S:List Zk→Prop) (N:Nat) (hN:N≤maxLen) (hNb:N*32≤140737488355328) (w:World) (hseq:SeqGives F (n - 1) Tryz.prog g lb Zjl S N w) :
   CallsIn F n Tryz.prog 287 #[.slice none 0 0,.func (.func g) #[] lb] w fun e w'=>∃ (v:Value) (ss:List Zk),e = .returned v∧S ss∧w'.ownsRow w.heap.size 192 4 v ss.length (ss.flatMap Zog)∧(v = .slice none 0 0 ↔ ss = [])∧Below w.heap.size w w':=by
 have h1:1≤n:=by omega
 have hne:127≠192:=by decide
 refine callsIn_of_wp_marks Tryz.func287 rfl h11 ?_ hro
 simp only [Tryz.ntmps287,List.size_toArray,List.length_cons,List.length_nil,Nat.reduceAdd,Nat.reduceSub,Array.replicate_succ,Array.replicate_zero,List.push_toArray,List.append_toArray,List.nil_append,List.cons_append]
 gi_wp2
 refine wpIn_rangeFunc ?_
 intro fn hfn
 rw [hro]
 obtain ⟨W0,hW0⟩:∃ W0,w.alloc (.cells #[.slice none 0 0] 127)=W0:=⟨_,rfl⟩
 have hs0:W0.heap.size=w.heap.size+1:=by rw [← hW0];simp
 have hv0:W0.heap[w.heap.size]? = some (.cells #[.slice none 0 0] 127 (0,0)):=by rw [← hW0];exact World.alloc_heap_new w _
 have hb0:Below w.heap.size w W0:=by rw [← hW0];exact (Below.refl _ w).alloc (Nat.le_refl _) _
 rw [hW0]
 obtain ⟨W1,hW1⟩:∃ W1,(W0.alloc (.deferred (some []))).alloc (.loop (kcApRec fn (.func (.func g) #[] lb) w.heap.size W0.heap.size .ready none))=W1:=⟨_,rfl⟩
 have hold:∀ k,k<W0.heap.size→W1.heap[k]? = W0.heap[k]?:=fun k hk=>by
   rw [← hW1];exact (Below.heap_alloc _ _ k (by simp;omega)).trans (Below.heap_alloc _ _ k hk)
 have hb1:Below w.heap.size w W1:=by rw [← hW1];exact (hb0.alloc hb0.size _).alloc (by have:=hb0.size;simp;omega) _
 have hs1:W1.heap.size=W0.heap.size+2:=by rw [← hW1];simp
 have hM:Zga w fn (.func (.func g) #[] lb) w.heap.size (W0.heap.size+1) W0.heap.size [] W1:=
   ⟨⟨_,(hold w.heap.size (by omega)).trans hv0,⟨rfl,.inl ⟨rfl,rfl⟩⟩,by simp⟩,
    by rw [← hW1];have:=World.alloc_heap_new (W0.alloc (.deferred (some []))) (.loop (kcApRec fn (.func (.func g) #[] lb) w.heap.size W0.heap.size .ready none));rwa [World.size_alloc] at this,
    by rw [← hW1];exact (Below.heap_alloc _ _ _ (by simp)).trans (World.alloc_heap_new W0 _),hb1⟩
 refine ⟨W0.heap.size+1,[{ target:=.collected W0.heap.size,args:=#[] }],W1,{ target:=.fn (.func g) lb,args:=#[.func (.yield (W0.heap.size+1)) #[] #[]] },W1,g,
   #[.func (.yield (W0.heap.size+1)) #[] #[]] ++ lb,W1,?_,?_,?_,?_,fun _=>h1,?_⟩
 · rw [← hW1];exact run_enterLoop_outer _ _ _ _ _
 · simp [resolve,go_sem]
 · intro f' hf';simp [Target.leads] at hf';subst hf';exact hFg
 · simp [invoke,go_sem,eg]
 · refine (hseq (W0.heap.size+1) (Zga w fn (.func (.func g) #[] lb) w.heap.size (W0.heap.size+1) W0.heap.size) W1 hb1 (Zfa _ _ _ _ _ _ _ hb1.size)
     (fun pre x W hJ hl=>Zm3 F (n - 1 - 1) w fn hfn _ w.heap.size (W0.heap.size+1) W0.heap.size (by omega) (by omega) (by omega) (Nat.le_refl _) (by omega) N hN hNb pre x W hJ hl) hM).mono ?_
   rintro e W2 ⟨⟨v0,rfl⟩,ss,hS,h2⟩
   obtain ⟨v,hv,hrow,hnil⟩:=h2.box
   have hend:=run_endLoop (P:=Tryz.prog) h2.L (by simp [kcApRec])
   obtain ⟨W3,hW3⟩:∃ W3,W2.putObj (W0.heap.size+1) (.loop { kcApRec fn (.func (.func g) #[] lb) w.heap.size W0.heap.size .ready none with state:=.exhausted })=W3:=⟨_,rfl⟩
   rw [hW3] at hend
   have hg3:W2.grownBy W3 (some (W0.heap.size+1)):=by rw [← hW3];exact grownBy_putObj_a _ _ _
   have hv3:W3.heap[w.heap.size]? = some (.cells #[v] 127 (0,0)):=by rw [← hW3];exact (World.putObj_heap_other (by omega)).trans hv
   have hK3:W3.heap[W0.heap.size]? = some (.deferred (some [])):=by rw [← hW3];exact (World.putObj_heap_other (by omega)).trans h2.K
   have hrow3:=hrow.kept hg3 (ownsRow_ne_a hrow h2.L (fun cur e=>by first | cases e | exact hne (Obj.cells.inj e).2.1))
   have hb3:Below w.heap.size w W3:=h2.below.grown hg3 h2.below.size (fun k e=>by cases e;omega)
   obtain ⟨hc3,hf3⟩:=cell_of_box_a hv3
   clear hW3
   refine ⟨none,W3,hend,?_⟩
   gi_wp2
   rw [← hs0]
   refine ⟨by simp,.inl ⟨_,_,rfl,run_takeDeferred hK3,?_⟩⟩
   exact ⟨_,results_tmp rfl _ _ _,v,ss,rfl,hS,hrow3.kept (grownBy_putObj_a _ _ _) (ownsRow_ne_a hrow3 hK3 (fun cur e=>by first | cases e | exact hne (Obj.cells.inj e).2.1)),hnil,hb3.grown (grownBy_putObj_a _ _ _) hb3.size (fun k e=>by cases e;omega)⟩
set_option maxHeartbeats 1000000 in
theorem Zih (F:Fence) (n:Nat) (h8:F.fn 241) (h11:F.fn 287) (hro:F.round=none) (hn:3≤n) (g:Nat) (lb:Array Value) (hFg:F.fn g) (eg:∀ args w,(callFunc g args).run Tryz.prog w = .ok (.enter g args) w)
   (S:List Zk→Prop) (N:Nat) (hN:N≤maxLen) (hNb:N*32≤140737488355328) (w:World) (hseq:SeqGives F (n - 1 - 1) Tryz.prog g lb Zjl S N w) :
   CallsIn F n Tryz.prog 241 #[.func (.func g) #[] lb] w fun e w'=>∃ (v:Value) (ss:List Zk),e = .returned v∧S ss∧w'.ownsRow w.heap.size 192 4 v ss.length (ss.flatMap Zog)∧(v = .slice none 0 0 ↔ ss = [])∧Below w.heap.size w w':=by
 have h1:1≤n:=by omega
 have e11:∀ args w,(callFunc 287 args).run Tryz.prog w = .ok (.enter 287 args) w:=enters_of Tryz.func287 (by kernel_rfl) rfl
 refine callsIn_of_wp Tryz.func241 rfl h8 ?_ hro
 simp only [Tryz.ntmps241,List.size_toArray,List.length_cons,List.length_nil,Nat.reduceAdd,Nat.reduceSub,Array.replicate_succ,Array.replicate_zero,List.push_toArray,List.append_toArray,List.nil_append,List.cons_append]
 gi_wp2_with (gi_at_fn 287;refine (ZfF F (n - 1) h11 hro (by omega) g lb hFg eg S N hN hNb _ hseq).mono ?_;rintro e w' ⟨v,ss,rfl,hS,hrow,hnil,hb⟩)
 go_ret
 exact ⟨v,ss,rfl,hS,hrow,hnil,hb⟩
end Go.Proofs.YtdpkkdigojkpaaaGreat
namespace Go.Proofs.YtdpkkdigojkpaaaGreat
open Go Go.Gm
set_option linter.unusedVariables false
set_option linter.unusedSimpArgs false
set_option maxHeartbeats 4000000
set_option maxRecDepth 8000
open Go.RowKit Go.Maps Go.Sort Go.Shelf Go.ChangeMaps Go.MapKept
theorem ZoW {α:Type} {enc:α→Value} {dec:Value→α} (h:∀ x,dec (enc x)=x) {l m:List α} (hp:(l.map enc).Perm (m.map enc)):l.Perm m:=by
 have h1:=hp.map dec
 rw [List.map_map,List.map_map] at h1
 have e:dec ∘ enc=id:=by funext x;exact h x
 rwa [e,List.map_id,List.map_id] at h1
theorem ZiX {ν:Type} (ek:ν→PV) (mv:Value) (es:List (GE Zk ν)) (ck:Nat) (hN:es.length≤1000000000):FnG Tryz.prog 241 2 [.clos 288 [.ref [.is mv]]] [Zbd ek (fun k=>∀ x ∈ Zaa k,inR .i64 x) (kvS Zaa) es ck mv,.star []] PV.one (fun v=>[Zbd ek (fun k=>∀ x ∈ Zaa k,inR .i64 x) (kvS Zaa) es ck mv,.ex fun l:List Zk=>.and (l.Perm (es.map (·.key))) (Zu 192 4 ZI l v)]):=fun w F vs hw hle hvs hpr=>by
 match vs,hvs with
 | [fv],hvs=>
   obtain ⟨caps,hfv,hcaps⟩:=hvs.1
   match caps,hcaps with
   | [cu],hcaps=>
     obtain ⟨Bm,off,us,hcu,hny,hBm,hc,hus⟩:=hcaps.1
     match us,hus with
     | [mu],hus=>
       have hmu:mu=mv:=hus.1.2.1
       subst hmu
       subst hcu
       subst hfv
       obtain ⟨b,rs,hmv,hb,hg,⟨hwf,hkeys⟩,hf⟩:=hpr 0 _ rfl
       have hst:∀ c,¬ F 2 c:=hpr 1 _ rfl
       subst hmv
       have hbl:b<w.heap.size:=(Array.getElem?_eq_some_iff.1 hb).1
       have hm:w.cell? ⟨Bm,off,none⟩ = some (.map (some b)):=hc.1
       have hkm:rs.map (·.key)=es.map (·.key):=hg.keys
       have hbm:rs.map (·.born)=es.map (·.born):=hg.borns
       have hnd:(((rs.map (rEnc (kvS Zaa))).toArray).toList.map (·.born)).Nodup:=by
         have e1:((rs.map (rEnc (kvS Zaa))).toArray).toList.map (·.born)=rs.map (·.born):=by rw [List.map_map];rfl
         rw [e1,hbm];exact hwf.1
       have hold:∀ x ∈ ((rs.map (rEnc (kvS Zaa))).toArray).toList,x.born<ck:=fun x hx=>by
         obtain ⟨r,hr,rfl⟩:=List.mem_map.1 hx
         have h1:r.born ∈ es.map (·.born):=hbm ▸ List.mem_map.2 ⟨r,hr,rfl⟩
         obtain ⟨e,he,e1⟩:=List.mem_map.1 h1
         show r.born<ck
         rw [← e1];exact hwf.2 e he
       have hkv:∀ x ∈ ((rs.map (rEnc (kvS Zaa))).toArray).toList,∃ k:Zk,x.key=Zjl k:=fun x hx=>by
         obtain ⟨r,_,rfl⟩:=List.mem_map.1 hx
         exact ⟨r.key,rfl⟩
       have hlen:((rs.map (rEnc (kvS Zaa))).toArray).size=es.length:=by
         have h1:=congrArg List.length hkm
         simp at h1 ⊢;exact h1
       have hseq:SeqGives Fence.wide 10 Tryz.prog 288 #[.pointer (some ⟨Bm,off,none⟩)] Zjl (fun ss=>(ss.map Zjl).Perm (((rs.map (rEnc (kvS Zaa))).toArray).toList.map (·.key))) ((rs.map (rEnc (kvS Zaa))).toArray).size w:=fun l J W hW hJ hY h0=>
         Zp9 Fence.wide 10 trivial rfl (by omega) l Bm off b ck _ hnd hold hkv J hY W hJ ((hW.cell (p:=⟨Bm,off,none⟩) hBm).trans hm) ((hW.block b hbl).trans hb) h0
       have eg:∀ args w,(callFunc 288 args).run Tryz.prog w = .ok (.enter 288 args) w:=enters_of Tryz.func288 (by kernel_rfl) rfl
       have hcalls:=callsIn_wide.1 (Zih Fence.wide 12 trivial trivial rfl (by omega) 288 #[.pointer (some ⟨Bm,off,none⟩)] trivial eg _ _ (by rw [hlen];unfold maxLen;omega) (by rw [hlen];omega) w hseq)
       refine hcalls.mono ?_
       rintro e w' ⟨v,ss,rfl,hS,hrow,hnil,hbel⟩
       have hss:ss.Perm (es.map (·.key)):=by
         have e1:((rs.map (rEnc (kvS Zaa))).toArray).toList.map (·.key)=(es.map (·.key)).map Zjl:=by
           rw [← hkm,List.map_map,List.map_map];rfl
         rw [e1] at hS
         exact ZoW Zod hS
       have hown:∀ c,v.ownBlock=some c→w.heap.size≤c∧c<w'.heap.size:=fun c hc9=>by
         rcases hrow.2 with ⟨rfl,_⟩ | ⟨g,cap,cur,rfl,hbase,hgb,_⟩
         · simp [Value.ownBlock] at hc9
         · simp [Value.ownBlock] at hc9
           subst hc9
           exact ⟨hbase,(Array.getElem?_eq_some_iff.1 hgb).1⟩
       have hrow0:w'.ownsRow 0 192 4 v ss.length (ss.flatMap Zog):=⟨hrow.1,by
         rcases hrow.2 with h | ⟨g,cap,cur,h1,_,h3⟩
         · exact .inl h
         · exact .inr ⟨g,cap,cur,h1,Nat.zero_le _,h3⟩⟩
       have hst2:Stp (List.range' 1 2) w F w' (fun n c=>F n c∨(n=2∧v.ownBlock=some c)):=⟨hbel.os,hbel.tape,hbel.output,hbel.size,fun c hc9 _=>hbel.block c hc9,fun n hn=>by
           funext c
           have:n≠2:=fun e=>hn (by subst e;simp)
           simp [this],fun n hn c hc9=>by
           rcases hc9 with h | ⟨_,h⟩
           · exact .inl ⟨n,hn,h⟩
           · exact .inr (hown c h).1⟩
       refine ⟨v,_,rfl,⟨fun n m c h1 h2=>?_,fun n c h1=>?_⟩,hst2,fun n c h1=>?_,?_,fun i h hi=>?_⟩
       · rcases h1 with h1 | ⟨h1,h1'⟩ <;> rcases h2 with h2 | ⟨h2,h2'⟩
         · exact hw.dis n m c h1 h2
         · have:=hw.bd n c h1;have:=(hown c h2').1;omega
         · have:=hw.bd m c h2;have:=(hown c h1').1;omega
         · omega
       · rcases h1 with h1 | ⟨_,h1⟩
         · have:=hw.bd n c h1;have:=hbel.size;omega
         · exact (hown c h1).2
       · rcases h1 with h1 | ⟨h1,_⟩
         · exact hle n c h1
         · omega
       · show v.oneCell' = true
         rcases hrow.2 with ⟨rfl,_⟩ | ⟨g,cap,cur,rfl,_⟩ <;> rfl
       · match i,hi with
         | 0,hi=>
           simp only [List.getElem?_cons_zero,Option.some.injEq] at hi
           subst hi
           exact ⟨b,rs,rfl,(hbel.block b hbl).trans hb,hg.mono hst2.ev,⟨hwf,hkeys⟩,fun c=>by rw [← hf c];simp⟩
         | 1,hi=>
           simp only [List.getElem?_cons_succ,List.getElem?_cons_zero,Option.some.injEq] at hi
           subst hi
           refine ⟨ss,hss,ss.flatMap Zog,hrow0,ZlA fun x hx=>?_,fun c=>?_⟩
           · obtain ⟨e,he,e1⟩:=List.mem_map.1 (hss.mem_iff.1 hx)
             rw [← e1];exact hkeys e he
           · have:=hst c
             simp [this]
end Go.Proofs.YtdpkkdigojkpaaaGreat
namespace Go.Proofs.YtdpkkdigojkpaaaGreat
open Go Go.Gm
set_option linter.unusedVariables false
set_option linter.unusedSimpArgs false
set_option maxHeartbeats 4000000
set_option maxRecDepth 8000
theorem ZpW (mv:Value):FnP Tryz.prog 242 [.is mv] (.clos 288 [.ref [.is mv]]):=by
 refine FnP.mk Tryz.func242 rfl Tryz.ntmps242 rfl ?_
 intro B a w F hB hfr hS
 refine wp_seq ?_
 refine Zc hS (qf (ZhQ 101 .t one_is) r1 qz (qC qZ)) hB [2,1] [101,0] (fun _=>rfl) (fun _=>rfl) fun τ a w F hS=>?_
 try dsimp only [RS.sub,SF.sub,CF.sub,csub,Anc.sub,List.map,zCF,Zr,rTx,ZF,ZS,Zo,rOp] at hS
 generalize τ 1=v1 at hS
 obtain ⟨F,hS⟩:=hS.giveRef 101 1 rfl rfl rfl
 obtain ⟨F,hS⟩:=hS.nm [2,1] [0] rfl rfl
 try dsimp only [Go.Gm.unCF] at hS
 refine Za (wp_seq ?_)
 refine Zb hS (qf (ZbL (Args.one .t)) r1 qz (qN rfl rfl qZ)) hB [2] [0] rfl rfl fun a w F hS=>Za (wp_ret ?_)
 refine Zw hfr hS rfl rfl rfl .refl
theorem Zhx (l:List Zk):(Zbf ltE l).length≤l.length:=by
 have key:∀ (l acc:List Zk),(l.foldl (Zk1 ltE) acc).length≤acc.length+l.length:=by
   intro l
   induction l with
   | nil=>intro acc;simp
   | cons e l ih=>
     intro acc
     rw [List.foldl_cons,List.length_cons]
     have h1:=ih (Zk1 ltE acc e)
     have h2:(Zk1 ltE acc e).length≤acc.length+1:=ZhT ltE e acc false
     omega
 have:=key l []
 unfold Zbf
 simpa using this
theorem Zru (mv:Value) (AA:List (Zk×Int)) (RR:List Zk) (hAR:AA.length+RR.length≤1000000):FnG Tryz.prog 164 1 [.is mv] [ZeA AA RR mv] (.sl rHv (Zf7 AA RR)) (fun _=>[ZeA AA RR mv]):=by
 refine FnG.mk Tryz.func164 rfl Tryz.ntmps164 rfl (by kernel_rfl) ?_
 intro B F0 a w F hB hG hS
 obtain ⟨⟨es,ck⟩,hS⟩:=hS.open_ex 1 rfl
 obtain ⟨hE,hS⟩:=hS.open_and 1 rfl
 replace hS:=hS.turn 1 rfl (r':=.ob (.val mv) (Zbd (fun n:Int=>PV.int .i64 n) (fun k=>∀ x ∈ Zaa k,inR .i64 x) (kvS Zaa) es ck)) (fun _ _ _ _ h=>h)
 try dsimp only at hE
 obtain ⟨F,hS⟩:=hS.nm [0] [1,0] rfl rfl
 refine wp_seq ?_
 refine Zb hS (qC qZ) hB [2,0] [1,0] rfl rfl fun a w F hS=>Za (wp_seq ?_)
 refine Zb hS (qC qZ) hB [3,2,0] [1,0] rfl rfl fun a w F hS=>Za (wp_seq (wp_seq ?_))
 replace hS:=hS.fresh 60 rfl
 replace hS:=hS.turn 1 rfl (r':=RS.hp (Zbd (fun n:Int=>PV.int .i64 n) (fun k=>∀ x ∈ Zaa k,inR .i64 x) (kvS Zaa) es ck mv)) (fun _ _ _ _ h=>h)
 obtain ⟨F,hS⟩:=hS.nm [3,2,0] [60,1,0] rfl rfl
 refine Zah 3 hS (by kernel_rfl) (cG rfl (oM .t) r1 trivial (cG rfl (oP (ZpW mv) Tryz.func242 (Args.one .t)) r1 trivial (cG rfl (Zng 1 60 (ZiX (fun n:Int=>PV.int .i64 n) mv es ck (by have:=hE.len;omega)) Tryz.func241 rfl (by kernel_rfl) rfl (Args.one .t) pvOne1) r1 r2 ChainN.nil))) (by kernel_rfl) (by rw [hB];kernel_rfl) fun a w F hS=>?_
 replace hS:=hS.sub
 obtain ⟨F,hS⟩:=hS.nm [8,3,2,0] [60,1,0] rfl rfl
 try dsimp only [RS.sub,SF.sub,CF.sub,csub,Anc.sub,List.map,Zr,rTx,ZF,ZS,Zo,rOp,ZI,rHv] at hS
 generalize Act.tau a 8=v8 at hS
 replace hS:=hS.turn 60 rfl (r':=RS.hp (HP.ex fun l:List Zk=>HP.and (l.Perm (es.map fun z:GE Zk Int=>z.key)) (Zu 192 4 ZI l v8))) (fun _ _ _ _ h=>h)
 obtain ⟨ks,hS⟩:=hS.open_ex 60 rfl
 obtain ⟨hks,hS⟩:=hS.open_and 60 rfl
 replace hS:=hS.turn 60 rfl (r':=.ob (.val v8) (Zu 192 4 ZI ks)) (fun _ _ _ _ h=>h)
 have hkl:ks.length≤1000000:=by have h1:=hks.length_eq;have h2:=hE.len;rw [List.length_map] at h1;omega
 replace hS:=hS.turn 1 rfl (r':=.ob (.val mv) (Zbd (fun n:Int=>PV.int .i64 n) (fun k=>∀ x ∈ Zaa k,inR .i64 x) (kvS Zaa) es ck)) (fun _ _ _ _ h=>h)
 obtain ⟨F,hS⟩:=hS.give 60 8 rfl rfl
 obtain ⟨F,hS⟩:=hS.nm [8,3,2,0] [1,0] rfl rfl
 refine Zav hS (by kernel_rfl) (cG rfl (oP (Znx ks hkl) Tryz.func240 (Args.one .t)) r1 trivial (cG rfl (Zep Tryz.underlying127 .t) r1 trivial (cG rfl (oM (.ci (by kernel_rfl))) trivial trivial ChainN.nil))) (by kernel_rfl) (by rw [hB];kernel_rfl) fun a w F hS=>?_
 obtain ⟨F,hS⟩:=hS.nm [11,10,9,3,2,0] [1,0] rfl rfl
 try dsimp only [Zr,rTx,ZF,ZS,Zo,rOp,ZI,rHv] at hS
 rw [ZeR hE hks] at hS
 have hkn:(Zbf ltE (Zgz AA RR)).length≤1000000:=by rw [← ZeR hE hks];exact Nat.le_trans (Zhx ks) hkl
 refine Za (wp_block ?_)
 replace hS:=hS.fresh 50 rfl
 replace hS:=hS.turn 50 rfl (Zbj (T:=221) (sz:=5) (R:=rHv))
 refine Zl (σ:=(Nat)×(Value)×(List HvD)) [0,2,9,10] [0,1] (fun s=>[(11,.pv (.int .i64 (s.1:Int))),(3,.pv (.is s.2.1))]) (fun s=>[(50,.ob (.val s.2.1) (Zu 221 5 rHv s.2.2))]) (fun s=>s.1≤(Zbf ltE (Zgz AA RR)).length∧(s.2.2=((Zbf ltE (Zgz AA RR)).take s.1).map fun e=>(⟨e,cntA AA RR e⟩:HvD))) (fun s=>(Zbf ltE (Zgz AA RR)).length - s.1) ((0),(.slice none 0 0),([])) hS ⟨rfl,rfl,rfl,rfl,rfl,rfl,trivial⟩ ⟨rfl,rfl,rfl,trivial⟩ ⟨Nat.zero_le _,rfl⟩ ?_
 clear hS;intro s a w F hC hS
 obtain ⟨i,v,out⟩:=s
 try dsimp only at hC
 obtain ⟨F,hS⟩:=hS.nm [11,10,9,3,2,0] [50,1,0] rfl rfl
 try dsimp only at hS
 obtain ⟨hi,hq⟩:=hC
 have hol:out.length≤i:=by rw [hq,List.length_map,List.length_take];omega
 refine wp_seq ?_
 refine Zb hS (qL r2) hB [12,11,10,9,3,2,0] [50,1,0] rfl rfl fun a w F hS=>Za (wp_seq ?_)
 refine Zd hS rfl (fun hc0=>?_) (fun hc0=>?_)
 ·skip
  have hil:i<(Zbf ltE (Zgz AA RR)).length:=by simp at hc0;omega
  refine wp_skip (Za (wp_seq (wp_block (wp_seq ?_))))
  refine Zc hS (qy 4 Tryz.underlying127 r2 (qf (oR true 4 .t) r1 qz (qf (oH [.int .i64 0,.int .i64 0,.int .i64 0,.int .i64 0] 101) trivial qz (qS 4 101 r2 r1 qZ)))) hB [11,10,9,5,3,2,0] [101,50,1,0] (fun _=>rfl) (fun _=>rfl) fun τ a w F hS=>?_
  try dsimp only [RS.sub,SF.sub,CF.sub,csub,Anc.sub,List.map,Zf,xL,xM,Nat.reduceAdd,xD,xE,xT,xU,xC,xN,zCF,ldSF,Zr,rTx,ZF,ZS,Zo,rOp,ZI,rHv] at hS
  generalize τ 5=v5 at hS
  try simp only [Int.toNat_natCast] at hS
  refine Za ?_
  refine ZaP hS (qM rfl rfl (qe 4 101 r1 r1 (qM rfl rfl (qe 4 101 r1 r1 (qf (Zab (ek:=(fun n:Int=>PV.int .i64 n)) (z0:=(0)) 1 Tryz.underlying223 Zcd (by kernel_rfl) (fun _ _=>⟨rfl,Zc4⟩) .is (ZD.agg (enc:=Zaa) (k:=Go.Gm.nth (Zbf ltE (Zgz AA RR)) i) (.pagg .t) rfl)) r2 r1 (qf (oB [(0,.tmp 16),(1,.tmp 19)] [.int .i64 0,.int .i64 0,.int .i64 0,.int .i64 0,.int .i64 0] [(0,4),(4,1)] (.agg rfl .t (by kernel_rfl) (by kernel_rfl) (.one rfl .t one_int (by kernel_rfl) .nil))) r2 qz (qf (Zt (sz:=5) (zs:=[.int .i64 0,.int .i64 0,.int .i64 0,.int .i64 0,.int .i64 0]) (r:=[(0,.tmp 20)]) (l:=[_,_,_,_,_]) Tryz.underlying150 (by kernel_rfl) (by kernel_rfl) (by kernel_rfl) (by kernel_rfl) rfl rfl (.agg rfl .t (by kernel_rfl) (by kernel_rfl) .nil) rfl) r1 qz (qf (ZV (sz:=5) (bs:=40) 50 (.mk' Tryz.underlying150 (by kernel_rfl) (by kernel_rfl)) (by intro x;rfl) .is (.arr (l':=[(⟨Go.Gm.nth (Zbf ltE (Zgz AA RR)) i,(gGet (Go.Gm.nth (Zbf ltE (Zgz AA RR)) i) es).getD 0⟩:HvD)]) .t) (by simp only [List.length_append,List.length_cons,List.length_nil];omega) (by decide)) ⟨rfl,rfl,trivial⟩ ⟨rfl,trivial⟩ (qN rfl rfl qZ))))))))) hB [11,10,9,3,2,0] [101,50,1,0] (fun _=>rfl) (fun _=>rfl) fun τ a w F hS=>?_
  try dsimp only [RS.sub,SF.sub,CF.sub,csub,Anc.sub,List.map,Zf,xL,xM,Nat.reduceAdd,xD,xE,xT,xU,xC,xN,zCF,ldSF,Zr,rTx,ZF,ZS,Zo,rOp,ZI,rHv] at hS
  generalize τ 22=v22 at hS
  refine Zj (Za ?_)
  refine Zb hS (qp r1 (qM rfl rfl qZ)) hB [11,10,9,3,2,0] [101,50,1,0] rfl rfl fun a w F hS=>Za ?_
  replace hS:=hS.ent (i:=11) (s':=.pv (.int .i64 ((i+1:Nat):Int))) rfl (.int (Ze (by omega)))
  obtain ⟨F,hS⟩:=hS.nm [10,9,2,0,3,11] [1,0,50] rfl rfl
  exact ⟨((i+1),_,_),F,⟨by omega,(by rw [Zv hil,List.map_append,← hq,List.map_singleton];unfold cntA;rw [hE.val])⟩,hS,by omega⟩
 have hil:i=(Zbf ltE (Zgz AA RR)).length:=by simp at hc0;omega
 refine wp_exit (Zh (Zh (Zp (Za (wp_seq ?_)))))
 refine Zb hS (qM rfl rfl (qN rfl rfl qZ)) hB [2] [50,1,0] rfl rfl fun a w F hS=>Za (wp_ret ?_)
 obtain ⟨F,hS⟩:=hS.give 50 2 rfl rfl
 have hS:=hS.turn 1 rfl (r':=RS.hp (ZeA AA RR mv)) (fun _ _ _ _ h=>⟨(es,ck),hE,h⟩)
 refine Zas hG hS rfl (.tmp rfl .nil) (.one (.sl (by rw [hq,hil,List.take_length];rfl))) rfl
theorem Zoq (x:Int):FnP Tryz.prog 166 [.int .i64 x] (.bool ((fun _=>true) x)):=by
 refine FnP.mk Tryz.func166 rfl Tryz.ntmps166 rfl ?_
 intro B a w F hB hfr hS
 refine wp_seq ?_
 refine Zb hS qB hB [2] [0] rfl rfl fun a w F hS=>Za (wp_seq ?_)
 refine Zb hS qB hB [2] [0] rfl rfl fun a w F hS=>Za (wp_ret ?_)
 refine Zw hfr hS rfl rfl rfl (.bool rfl)
theorem ZqV (g:Zn) (hsm:Za0 g) (hAR:(wwC (fun _=>true) g).length+(rdC (fun _=>true) g).length≤1000000):FnP Tryz.prog 99 [.agg (Zr g)] (.sl rHv (Zf7 (wwC (fun _=>true) g) (rdC (fun _=>true) g))):=by
 refine FnP.mk Tryz.func99 rfl Tryz.ntmps99 rfl ?_
 intro B a w F hB hfr hS
 refine wp_seq ?_
 refine Zc hS (qx 101 r1 (qC qZ)) hB [2,1] [101,0] (fun _=>rfl) (fun _=>rfl) fun τ a w F hS=>?_
 try dsimp only [RS.sub,SF.sub,CF.sub,csub,Anc.sub,List.map,zCF,Zr,rTx,ZF,ZS,Zo,rOp,rHv] at hS
 generalize τ 1=v1 at hS
 refine Za (wp_seq ?_)
 replace hS:=hS.fresh 102 rfl
 refine Zah 2 hS (by kernel_rfl) (cG rfl (oL true 2 101 .is) r1 r1 (cG rfl (Za1 102 (Zm4 g hsm (fun _=>true) 166 Tryz.f166 [] Tryz.func166 rfl (by kernel_rfl) (fun x=>Zoq x)) Tryz.func165 rfl (by kernel_rfl) (Args.two (.pagg .t) (.conv .f (Ent.fnClos))) pvOne1) r1 r1 ChainN.nil)) (by kernel_rfl) (by rw [hB];kernel_rfl) fun a w F hS=>?_
 replace hS:=hS.sub
 obtain ⟨F,hS⟩:=hS.nm [4,2] [102,101,0] rfl rfl
 try dsimp only [RS.sub,SF.sub,CF.sub,csub,Anc.sub,List.map,xD,xE,xT,xU,ldSF,Zr,rTx,ZF,ZS,Zo,rOp,rHv] at hS
 generalize Act.tau a 4=v4 at hS
 replace hS:=hS.turn 102 rfl (r':=RS.hp (ZeA (wwC (fun _=>true) g) (rdC (fun _=>true) g) v4)) (fun _ _ _ _ h=>h)
 obtain ⟨F,hS⟩:=hS.nm [4,2] [102,101,0] rfl rfl
 refine Zav hS (by kernel_rfl) (cG rfl (Z5 102 (Zru _ (wwC (fun _=>true) g) (rdC (fun _=>true) g) hAR) Tryz.func164 rfl (by kernel_rfl) (Args.one .t)) r1 r1 (cG rfl (oN .t) r1 trivial ChainN.nil)) (by kernel_rfl) (by rw [hB];kernel_rfl) fun a w F hS=>?_
 obtain ⟨F,hS⟩:=hS.nm [2] [102,101,0] rfl rfl
 try dsimp only [Zr,rTx,ZF,ZS,Zo,rOp,rHv] at hS
 refine Za (wp_ret ?_)
 refine Zw hfr hS rfl rfl rfl .refl
theorem Zqv (t u:TxD) (o:OpD) (phen:Int) (hu:u.ops.length≤1000):FnP Tryz.prog 227 [.agg (rTx t),.agg (rTx u),.agg (rOp o),.int .i64 phen] (.bool (ZfO t u o phen)):=by
 refine FnP.mk Tryz.func227 rfl Tryz.ntmps227 rfl ?_
 intro B a w F hB hfr hS
 refine wp_seq ?_
 refine Zc hS (qx 101 r1 (qx 102 r1 (qx 103 r1 qB))) hB [8,6,5,4,3] [103,102,101,0] (fun _=>rfl) (fun _=>rfl) fun τ a w F hS=>?_
 try dsimp only [RS.sub,SF.sub,CF.sub,csub,Anc.sub,List.map,zCF,Zr,rTx,ZF,ZS,Zo,rOp,Ziq] at hS
 generalize τ 4=v4 at hS
 generalize τ 5=v5 at hS
 generalize τ 6=v6 at hS
 refine Za (wp_seq (wp_seq ?_))
 refine Zb hS (qM rfl rfl qZ) hB [9,8,6,5,4] [103,102,101,0] rfl rfl fun a w F hS=>Za (wp_block (wp_seq ?_))
 refine Zb hS (qf (o_eql .t qi) r1 qz (qN rfl rfl qZ)) hB [10,9,8,6,5,4] [103,102,101,0] rfl rfl fun a w F hS=>Za ?_
 refine Zd hS rfl (fun hc0=>?_) (fun hc0=>?_)
 ·skip
  have h2:phen=2:=by simpa using hc0
  refine wp_seq ?_
  refine Zb hS (qg 1 101 r1 r1 (qa 101 r1 r1 (qM rfl rfl (qv 1 102 rfl r2 r1 (qw 102 rfl r2 r1 (qk rfl (fun h=>o_not (.w h)) r2 qz (qf (ZN .t .t) r2 qz (qN rfl rfl qZ)))))))) hB [8] [103,102,101,0] rfl rfl fun a w F hS=>Za (wp_ret (Zs (Zi ?_)))
  refine Zw hfr hS rfl rfl rfl (.bool (by unfold ZfO wcnt;first | (rw [if_pos h2];done) | (rw [if_neg h2,h3,Bool.true_and];done) | (rw [if_neg h2,h3];simp)))
 have h2:¬ phen=2:=by simpa using hc0
 refine wp_seq ?_
 refine Zb hS (qf (o_eql .t qi) r1 qz (qN rfl rfl qZ)) hB [19,8,6,5,4] [103,102,101,0] rfl rfl fun a w F hS=>Za ?_
 refine Zd hS rfl (fun hc1=>?_) (fun hc1=>?_)
 ·skip
  have h3:decide (phen=3)=true:=hc1
  refine wp_seq ?_
  refine Zy hS (qg 1 101 r1 r1 (qa 101 r1 r1 (qM rfl rfl (qv 3 103 rfl r2 r1 (qw 103 rfl r2 r1 (qk rfl (fun h=>oL true 3 102 .is) r2 r1 (qv 1 103 rfl r2 r1 (qw 103 rfl r2 r1 (qk rfl (fun h=>oP (Zc6 u o.key (by omega)) Tryz.func60 (Args.two (.pagg (.w h)) (.w h))) r3 qz (qk rfl (fun h=>ZbC (.w h) (.w h)) r3 qz (qf (ZN .t .t) r2 qz (qN rfl rfl qZ)))))))))))) hB [8] [103,102,101,0] rfl rfl fun a w F hS=>?_
  try dsimp only [List.map,xD,xE,xT,xU,ldSF,Zr,rTx,ZF,ZS,Zo,rOp,Ziq] at hS
  refine Za (wp_ret (Zs (Zi ?_)))
  refine Zw hfr hS rfl rfl rfl (.bool (by unfold ZfO wcnt;first | (rw [if_pos h2];done) | (rw [if_neg h2,h3,Bool.true_and];done) | (rw [if_neg h2,h3];simp)))
 have h3:decide (phen=3)=false:=hc1
 refine wp_skip (Zj (Za (wp_seq ?_)))
 refine Zb hS qB hB [8] [103,102,101,0] rfl rfl fun a w F hS=>Za (wp_ret ?_)
 refine Zw hfr hS rfl rfl rfl (.bool (by unfold ZfO wcnt;first | (rw [if_pos h2];done) | (rw [if_neg h2,h3,Bool.true_and];done) | (rw [if_neg h2,h3];simp)))
theorem Zqa {g:Zn} (hs:ZaH g.txs) (o:OpD):(uOf g o).ops.length≤1000:=by
 unfold uOf
 cases hf:Z7 g.txs o.tx with
 | none=>simp [zeroT]
 | some t=>exact hs.2 _ (findT_mem hf).1
theorem ZoU (g : Zn) (phen : Int) (hsm : Za0 g) (p : Int → Bool) (f : FuncId) (fn : Func) (cps : List PV) (hf : Tryz.prog.funcs[f]? = some fn) (hb : fn.body.isSome = true) (hnn : (fn.name == "runtime.NumGoroutine") = false) (hw : ∀ x, FnP Tryz.prog f (.int .i64 x :: cps) (.bool (p x))) : FnP Tryz.prog 155 [.agg (Zr g), .int .i64 phen, .clos f cps] (.sl Ziq (Zca g phen p)) := by
 refine FnP.mk Tryz.func155 rfl Tryz.ntmps155 rfl ?_
 intro B a w F hB hfr hS
 have hs:=hsm.1
 have hsl:=hs.1
 refine wp_seq ?_
 refine Zc hS (qx 101 r1 (qC qZ)) hB [6,3,2,1] [101,0] (fun _=>rfl) (fun _=>rfl) fun τ a w F hS=>?_
 try dsimp only [RS.sub,SF.sub,CF.sub,csub,Anc.sub,List.map,zCF,Zr,rTx,ZF,ZS,Zo,rOp,Ziq] at hS
 generalize τ 3=v3 at hS
 refine Za (wp_seq ?_)
 refine Zb hS (qC qZ) hB [7,6,3,2,1] [101,0] rfl rfl fun a w F hS=>Za (wp_seq (wp_seq ?_))
 refine Zb hS (qe 2 101 r1 r1 (qf (oP (Zek g hsm) Tryz.func47 (Args.one (.pagg .t))) r1 qz (qf (o_not .t) r1 qz qZ))) hB [17,7,6,3,2,1] [101,0] rfl rfl fun a w F hS=>Za ?_
 refine Zd hS rfl (fun hc0=>?_) (fun hc0=>?_)
 ·skip
  have hg:[] = Zca g phen p:=by unfold Zca;rw [if_neg (by simpa using hc0)]
  refine wp_seq ?_
  refine Zb hS (qM rfl rfl (qN rfl rfl qZ)) hB [7,6,3,2,1] [101,0] rfl rfl fun a w F hS=>Za (wp_ret (Zi ?_))
  refine Zw hfr hS rfl rfl rfl (.trans .nilSl (.sl (by first | exact hg | (rw [hq,hil,List.take_length];exact hgg))))
 have hr:ZG g:=by simpa using hc0
 have hgg:badsG g phen p g.txs=Zca g phen p:=by unfold Zca;rw [if_pos hr]
 refine wp_skip (Za (wp_seq ?_))
 refine Zc hS (qf (ZaA (ek:=(fun t:TxD=>PV.agg (rTx t))) (ok:=(fun _=>True)) (kv:=(fun n:Int=>Value.int .i64 n)) 102) trivial qz (qN rfl rfl qZ)) hB [8,7,6,3,2,1] [102,101,0] (fun _=>rfl) (fun _=>rfl) fun τ a w F hS=>?_
 try dsimp only [RS.sub,SF.sub,CF.sub,csub,Anc.sub,List.map,Zf,xL,xM,Nat.reduceAdd,xD,xE,xT,xU,xC,xN,zCF,Zr,rTx,ZF,ZS,Zo,rOp,Ziq] at hS
 generalize τ 19=v19 at hS
 refine Za (wp_seq (wp_seq ?_))
 refine Zb hS (qg 0 101 r1 r1 (qa 101 r1 r1 (qu Tryz.underlying27 r1 (qJ qZ)))) hB [23,22,21,8,7,6,3,2,1] [102,101,0] rfl rfl fun a w F hS=>Za (wp_block ?_)
 refine Zl (σ:=(Nat)×(List (GE Int TxD))×(Nat)) [1,2,3,6,7,8,21,22] [0,101] (fun s=>[(23,.pv (.int .i64 (s.1:Int)))]) (fun s=>[(102,.ob (.val v19) (Zbd (fun t:TxD=>PV.agg (rTx t)) (fun _=>True) (fun n:Int=>Value.int .i64 n) s.2.1 s.2.2))]) (fun s=>s.1≤g.txs.length∧(ZqT s.2.1 (g.txs.take s.1))) (fun s=>g.txs.length - s.1) ((0),([]),(0)) hS ⟨rfl,rfl,rfl,rfl,rfl,rfl,rfl,rfl,rfl,trivial⟩ ⟨rfl,rfl,rfl,trivial⟩ ⟨Nat.zero_le _,(fun id=>rfl)⟩ ?_
 clear hS;intro s a w F hC hS
 obtain ⟨i,es,ck⟩:=s
 try dsimp only at hC
 obtain ⟨F,hS⟩:=hS.nm [23,22,21,8,7,6,3,2,1] [102,101,0] rfl rfl
 try dsimp only at hS
 obtain ⟨hi,hq⟩:=hC
 refine wp_seq ?_
 refine Zb hS (qL r2) hB [24,23,22,21,8,7,6,3,2,1] [102,101,0] rfl rfl fun a w F hS=>Za (wp_seq ?_)
 refine Zd hS rfl (fun hc1=>?_) (fun hc1=>?_)
 ·skip
  have hil:i<g.txs.length:=by simp at hc1;omega
  refine wp_skip (Za (wp_seq (wp_block (wp_seq ?_))))
  refine Zc hS (qy 3 Tryz.underlying27 r2 (qf (oR true 3 .t) r1 qz (qf (oH [.int .i64 0,.bool false,.slice none 0 0] 103) trivial qz (qS 3 103 r2 r1 qZ)))) hB [23,22,21,10,8,7,6,3,2,1] [103,102,101,0] (fun _=>rfl) (fun _=>rfl) fun τ a w F hS=>?_
  try dsimp only [RS.sub,SF.sub,CF.sub,csub,Anc.sub,List.map,Zf,xL,xM,Nat.reduceAdd,xD,xE,xT,xU,xC,xN,zCF,ldSF,Zr,rTx,ZF,ZS,Zo,rOp,Ziq] at hS
  generalize τ 10=v10 at hS
  try simp only [Int.toNat_natCast] at hS
  refine Za ?_
  refine Zb hS (qM rfl rfl (qg 0 103 r1 r1 (qa 103 r1 r1 (qe 3 103 r1 r1 (qf (o_mapUpdateG (ek:=(fun t:TxD=>PV.agg (rTx t))) (v:=(Go.Gm.nth g.txs i)) 102 Tryz.underlying78 (ZbP Tryz.underlying3) .is (ZD.int .t rfl) (.pagg .t)) r3 r1 qZ))))) hB [23,22,21,8,7,6,3,2,1] [103,102,101,0] rfl rfl fun a w F hS=>Zj (Za ?_)
  refine Zb hS (qp r1 (qM rfl rfl qZ)) hB [23,22,21,8,7,6,3,2,1] [103,102,101,0] rfl rfl fun a w F hS=>Za ?_
  replace hS:=hS.ent (i:=23) (s':=.pv (.int .i64 ((i+1:Nat):Int))) rfl (.int (Ze (by omega)))
  obtain ⟨F,hS⟩:=hS.nm [22,21,8,7,6,3,2,1,23] [101,0,102] rfl rfl
  exact ⟨((i+1),((gPut (Go.Gm.nth g.txs i).id (Go.Gm.nth g.txs i) (es,ck)).1),((gPut (Go.Gm.nth g.txs i).id (Go.Gm.nth g.txs i) (es,ck)).2)),F,⟨by omega,ZpI hr.2.1 hq hil⟩,hS,by omega⟩
 have hil:i=g.txs.length:=by simp at hc1;omega
 have hby:∀ id,gGet id es=Z7 g.txs id:=by rw [hil,List.take_length] at hq;exact hq
 refine wp_exit (Zh (Zh (Zp (Za (wp_seq (wp_seq ?_))))))
 refine Zb hS (qg 0 101 r1 r1 (qa 101 r1 r1 (qu Tryz.underlying27 r1 (qJ qZ)))) hB [35,34,33,8,7,6,2,1] [102,101,0] rfl rfl fun a w F hS=>Za (wp_block ?_)
 replace hS:=hS.fresh 50 rfl
 replace hS:=hS.turn 50 rfl (Zbj (T:=129) (sz:=5) (R:=Ziq))
 refine Zl (σ:=(Nat)×(Value)×(List Zp3)) [1,2,6,8,33,34] [0,101,102] (fun s=>[(35,.pv (.int .i64 (s.1:Int))),(7,.pv (.is s.2.1))]) (fun s=>[(50,.ob (.val s.2.1) (Zu 129 5 Ziq s.2.2))]) (fun s=>s.1≤g.txs.length∧(s.2.2=badsG g phen p (g.txs.take s.1))) (fun s=>g.txs.length - s.1) ((0),(.slice none 0 0),([])) hS ⟨rfl,rfl,rfl,rfl,rfl,rfl,rfl,rfl,trivial⟩ ⟨rfl,rfl,rfl,rfl,trivial⟩ ⟨Nat.zero_le _,rfl⟩ ?_
 clear hS;intro s a w F hC hS
 obtain ⟨i,x0,out⟩:=s
 try dsimp only at hC
 obtain ⟨F,hS⟩:=hS.nm [35,34,33,8,7,6,2,1] [102,101,50,0] rfl rfl
 try dsimp only at hS
 obtain ⟨hi,hq⟩:=hC
 have hxl:=fun hil:i<g.txs.length=>hs.at hil
 have hol:out.length≤1000*i:=by rw [hq];exact ZjN hs i
 refine wp_seq ?_
 refine Zb hS (qL r2) hB [36,35,34,33,8,7,6,2,1] [102,101,50,0] rfl rfl fun a w F hS=>Za (wp_seq ?_)
 refine Zd hS rfl (fun hc2=>?_) (fun hc2=>?_)
 ·skip
  have hil:i<g.txs.length:=by simp at hc2;omega
  have hio:=hil
  have htl:=hxl hil
  have hsl:=hs.1
  refine wp_skip (Za (wp_seq (wp_block (wp_seq ?_))))
  refine Zc hS (qy 3 Tryz.underlying27 r2 (qf (oR true 3 .t) r1 qz (qf (oH [.int .i64 0,.bool false,.slice none 0 0] 104) trivial qz (qS 3 104 r2 r1 qZ)))) hB [35,34,33,12,8,7,6,2,1] [104,102,101,50,0] (fun _=>rfl) (fun _=>rfl) fun τ a w F hS=>?_
  try dsimp only [RS.sub,SF.sub,CF.sub,csub,Anc.sub,List.map,Zf,xL,xM,Nat.reduceAdd,xD,xE,xT,xU,xC,xN,zCF,ldSF,Zr,rTx,ZF,ZS,Zo,rOp,Ziq] at hS
  generalize τ 12=v12 at hS
  try simp only [Int.toNat_natCast] at hS
  refine Za (wp_seq ?_)
  refine Zb hS (qg 2 104 r1 r1 (qa 104 r1 r1 (qu Tryz.underlying31 r1 (qJ qZ)))) hB [42,41,40,35,34,33,12,8,7,6,2,1] [104,102,101,50,0] rfl rfl fun a w F hS=>Za (wp_block ?_)
  refine Zl (σ:=(Nat)×(Value)×(List Zp3)) [1,2,6,8,12,33,34,35,40,41] [0,101,102,104] (fun s=>[(42,.pv (.int .i64 (s.1:Int))),(7,.pv (.is s.2.1))]) (fun s=>[(50,.ob (.val s.2.1) (Zu 129 5 Ziq s.2.2))]) (fun s=>s.1≤(Go.Gm.nth g.txs i).ops.length∧(s.2.2=badsG g phen p (g.txs.take i)++ZbF g phen p (Go.Gm.nth g.txs i) ((Go.Gm.nth g.txs i).ops.take s.1))) (fun s=>(Go.Gm.nth g.txs i).ops.length - s.1) ((0),(x0),(out)) hS ⟨rfl,rfl,rfl,rfl,rfl,rfl,rfl,rfl,rfl,rfl,rfl,rfl,trivial⟩ ⟨rfl,rfl,rfl,rfl,rfl,trivial⟩ ⟨Nat.zero_le _,(by rw [hq];simp [ZbF])⟩ ?_
  clear hS;intro s a w F hC hS
  obtain ⟨j,x1,outj⟩:=s
  try dsimp only at hC
  obtain ⟨F,hS⟩:=hS.nm [42,41,40,35,34,33,12,8,7,6,2,1] [104,102,101,50,0] rfl rfl
  try dsimp only at hS
  obtain ⟨hi,hq⟩:=hC
  have hbl:=Zf2 g phen p (Go.Gm.nth g.txs i) ((Go.Gm.nth g.txs i).ops.take j)
  have hbg:=ZjN (g:=g) (phen:=phen) (p:=p) hs i
  have hoj:outj.length≤1000*i+j:=by rw [hq,List.length_append];rw [List.length_take] at hbl;omega
  refine wp_seq ?_
  refine Zb hS (qL r2) hB [43,42,41,40,35,34,33,12,8,7,6,2,1] [104,102,101,50,0] rfl rfl fun a w F hS=>Za (wp_seq ?_)
  refine Zd hS rfl (fun hc3=>?_) (fun hc3=>?_)
  ·skip
   have hil:j<(Go.Gm.nth g.txs i).ops.length:=by simp at hc3;omega
   refine wp_skip (Za (wp_seq (wp_block (wp_seq ?_))))
   refine Zc hS (qM rfl rfl (qy 4 Tryz.underlying31 r2 (qf (oR true 4 .t) r1 qz (qf (oH [.bool false,.int .i64 0,.int .i64 0,.int .i64 0] 105) trivial qz (qN rfl rfl (qS 4 105 r2 r1 qZ)))))) hB [42,41,40,35,34,33,14,13,12,8,7,6,2,1] [105,104,102,101,50,0] (fun _=>rfl) (fun _=>rfl) fun τ a w F hS=>?_
   try dsimp only [RS.sub,SF.sub,CF.sub,csub,Anc.sub,List.map,Zf,xL,xM,Nat.reduceAdd,xD,xE,xT,xU,xC,xN,zCF,ldSF,Zr,rTx,ZF,ZS,Zo,rOp,Ziq] at hS
   generalize τ 14=v14 at hS
   try simp only [Int.toNat_natCast] at hS
   refine Za (wp_seq (wp_seq ?_))
   refine Zb hS (qg 0 105 r1 r1 (qa 105 r1 r1 (qf (o_not .t) r1 qz (qM rfl rfl (qv 2 105 rfl r2 r1 (qw 105 rfl r2 r1 (qk rfl (fun h=>o_eql (.w h) qi) r2 qz (qf (Zbc .t .t) r2 qz (qM rfl rfl (qv 2 105 rfl r2 r1 (qw 105 rfl r2 r1 (qv 0 104 rfl r2 r1 (qw 104 rfl r2 r1 (qk rfl (fun h=>o_eql (.w h) (.w h)) r3 qz (qf (Zbc .t .t) r2 qz (qM rfl rfl (qm rfl rfl rfl rfl (qv 1 105 rfl r2 r1 (qw 105 rfl r2 r1 (qk rfl (fun h=>ZK (avs:=[.int .i64 (Go.Gm.nth (Go.Gm.nth g.txs i).ops j).key]) (.w h) (hw (Go.Gm.nth (Go.Gm.nth g.txs i).ops j).key) hf hb hnn (Args.one (.w h))) r3 qz (qk rfl (fun h=>o_not (.w h)) r2 qz (qf (Zbc .t .t) r2 qz qZ)))))))))))))))))))))) hB [68,42,41,40,35,34,33,14,13,12,8,7,6,2,1] [105,104,102,101,50,0] rfl rfl fun a w F hS=>Za ?_
   refine Zd hS rfl (fun hc4=>?_) (fun hc4=>?_)
   ·skip
    have hBq:¬ (p (Go.Gm.nth (Go.Gm.nth g.txs i).ops j).key && Zi6 g phen (Go.Gm.nth g.txs i) (Go.Gm.nth (Go.Gm.nth g.txs i).ops j))=true:=by
      intro h9
      rw [Bool.and_eq_true] at h9
      have h8:=h9.2
      unfold Zi6 at h8
      rw [Bool.and_eq_true] at h8
      have h7:=h8.1
      unfold ZbU at h7
      simp at h7
      have h6:=hc4
      simp [h9.1,h7] at h6
    refine wp_exit (Zh (Zp (Za ?_)))
    refine Zb hS (qp r1 (qM rfl rfl qZ)) hB [42,41,40,35,34,33,12,8,7,6,2,1] [105,104,102,101,50,0] rfl rfl fun a w F hS=>Za ?_
    replace hS:=hS.ent (i:=42) (s':=.pv (.int .i64 ((j+1:Nat):Int))) rfl (.int (Ze (by omega)))
    obtain ⟨F,hS⟩:=hS.nm [41,40,35,34,33,12,8,6,2,1,7,42] [104,102,101,0,50] rfl rfl
    exact ⟨((j+1),_,_),F,⟨by omega,(by rw [ZcR hil,← List.append_assoc,← hq];first | (rw [if_pos hBq];done) | (rw [if_neg hBq,List.append_nil]))⟩,hS,by omega⟩
   have hnd:ZbU (Go.Gm.nth g.txs i).id (Go.Gm.nth (Go.Gm.nth g.txs i).ops j)=true∧p (Go.Gm.nth (Go.Gm.nth g.txs i).ops j).key=true:=by
     have h6:=hc4
     unfold ZbU
     simp at h6
     refine ⟨by simp [h6],by simp [h6]⟩
   refine wp_skip (Za (wp_seq ?_))
   refine Zah 5 hS (by kernel_rfl) (cG rfl (oL true 3 104 .is) r1 r1 (cG rfl (oM .t) r1 trivial (cG rfl (oF 2 105 .is) r1 r1 (cG rfl (oL false 1 105 .adr) r1 r1 (cG rfl (Zab (ek:=(fun t:TxD=>PV.agg (rTx t))) (z0:=zeroT) 102 Tryz.underlying78 (ZbP Tryz.underlying3) (by kernel_rfl) (fun _ _=>⟨[_,_,_],rfl,⟨rfl,rfl,Zc4⟩,⟨rfl,rfl⟩,⟨rfl,Zh8⟩,trivial⟩) .is (ZD.int .t rfl)) r2 r1 ChainN.nil))))) (by kernel_rfl) (by rw [hB];kernel_rfl) fun a w F hS=>?_
   obtain ⟨F,hS⟩:=hS.nm [73,69,42,41,40,35,34,33,14,13,12,8,7,6,2,1] [105,104,102,101,50,0] rfl rfl
   try dsimp only [List.map,xD,xE,xT,xU,ldSF,Zr,rTx,ZF,ZS,Zo,rOp,Ziq] at hS
   rw [show (gGet (Go.Gm.nth (Go.Gm.nth g.txs i).ops j).tx es).getD zeroT=(uOf g (Go.Gm.nth (Go.Gm.nth g.txs i).ops j)) by rw [hby];rfl] at hS
   refine Zav hS (by kernel_rfl) (cG rfl (oL true 4 105 .is) r1 r1 (cG rfl (oM .t) r1 trivial (cG rfl (oP (Zqv (Go.Gm.nth g.txs i) (uOf g (Go.Gm.nth (Go.Gm.nth g.txs i).ops j)) (Go.Gm.nth (Go.Gm.nth g.txs i).ops j) phen (by have:=Zqa hs (Go.Gm.nth (Go.Gm.nth g.txs i).ops j);omega)) Tryz.func227 (Args.four (.pagg .t) .t (.pagg .t) .t)) r4 trivial ChainN.nil))) (by kernel_rfl) (by rw [hB];kernel_rfl) fun a w F hS=>?_
   obtain ⟨F,hS⟩:=hS.nm [76,42,41,40,35,34,33,14,13,12,8,7,6,2,1] [105,104,102,101,50,0] rfl rfl
   try dsimp only [List.map,xD,xE,xT,xU,ldSF,Zr,rTx,ZF,ZS,Zo,rOp,Ziq] at hS
   refine Za ?_
   refine Zd hS rfl (fun hc5=>?_) (fun hc5=>?_)
   ·skip
    have hBq:(p (Go.Gm.nth (Go.Gm.nth g.txs i).ops j).key && Zi6 g phen (Go.Gm.nth g.txs i) (Go.Gm.nth (Go.Gm.nth g.txs i).ops j))=true:=by unfold Zi6;rw [hnd.1,hnd.2,hc5];rfl
    refine ZaP hS (qM rfl rfl (qg 0 104 r1 r1 (qa 104 r1 r1 (qM rfl rfl (qe 4 105 r1 r1 (qf (oP (Zlm (Go.Gm.nth (Go.Gm.nth g.txs i).ops j)) Tryz.func121 (Args.one (.pagg .t))) r1 qz (qf (oB [(0,.tmp 79),(1,.tmp 80),(2,.tmp 82)] [.int .i64 0,.int .i64 0,.int .i64 0,.int .i64 0,.int .i64 0] [(0,1),(1,1),(2,3)] (.one rfl .t one_int (by kernel_rfl) (.one rfl .t one_int (by kernel_rfl) (.agg rfl (.conv .t .agg) (by kernel_rfl) (by kernel_rfl) .nil)))) r3 qz (qf (Zt (sz:=5) (zs:=[.int .i64 0,.int .i64 0,.int .i64 0,.int .i64 0,.int .i64 0]) (r:=[(0,.tmp 83)]) (l:=[_,_,_,_,_]) Tryz.underlying144 (by kernel_rfl) (by kernel_rfl) (by kernel_rfl) (by kernel_rfl) rfl rfl (.agg rfl .t (by kernel_rfl) (by kernel_rfl) .nil) rfl) r1 qz (qf (ZV (sz:=5) (bs:=40) 50 (.mk' Tryz.underlying144 (by kernel_rfl) (by kernel_rfl)) (by intro x;rfl) .is (.arr (l':=[(⟨(Go.Gm.nth g.txs i).id,j,ofO (Go.Gm.nth (Go.Gm.nth g.txs i).ops j)⟩:Zp3)]) .t) (by simp only [List.length_append,List.length_cons,List.length_nil,List.length_take,List.length_drop];omega) (by decide)) ⟨rfl,rfl,trivial⟩ ⟨rfl,trivial⟩ (qN rfl rfl qZ)))))))))) hB [42,41,40,35,34,33,12,8,7,6,2,1] [105,104,102,101,50,0] (fun _=>rfl) (fun _=>rfl) fun τ a w F hS=>?_
    try dsimp only [RS.sub,SF.sub,CF.sub,csub,Anc.sub,List.map,Zf,xL,xM,Nat.reduceAdd,xD,xE,xT,xU,xC,xN,zCF,ldSF,Zr,rTx,ZF,ZS,Zo,rOp,Ziq] at hS
    generalize τ 85=v85 at hS
    refine Zj (Za ?_)
    refine Zb hS (qp r1 (qM rfl rfl qZ)) hB [42,41,40,35,34,33,12,8,7,6,2,1] [105,104,102,101,50,0] rfl rfl fun a w F hS=>Za ?_
    replace hS:=hS.ent (i:=42) (s':=.pv (.int .i64 ((j+1:Nat):Int))) rfl (.int (Ze (by omega)))
    obtain ⟨F,hS⟩:=hS.nm [41,40,35,34,33,12,8,6,2,1,7,42] [104,102,101,0,50] rfl rfl
    exact ⟨((j+1),_,_),F,⟨by omega,(by rw [ZcR hil,← List.append_assoc,← hq];first | (rw [if_pos hBq];done) | (rw [if_neg hBq,List.append_nil]))⟩,hS,by omega⟩
   have hBq:¬ (p (Go.Gm.nth (Go.Gm.nth g.txs i).ops j).key && Zi6 g phen (Go.Gm.nth g.txs i) (Go.Gm.nth (Go.Gm.nth g.txs i).ops j))=true:=by unfold Zi6;rw [hnd.1,hnd.2,hc5];simp
   refine wp_skip (Zj (Za ?_))
   refine Zb hS (qp r1 (qM rfl rfl qZ)) hB [42,41,40,35,34,33,12,8,7,6,2,1] [105,104,102,101,50,0] rfl rfl fun a w F hS=>Za ?_
   replace hS:=hS.ent (i:=42) (s':=.pv (.int .i64 ((j+1:Nat):Int))) rfl (.int (Ze (by omega)))
   obtain ⟨F,hS⟩:=hS.nm [41,40,35,34,33,12,8,6,2,1,7,42] [104,102,101,0,50] rfl rfl
   exact ⟨((j+1),_,_),F,⟨by omega,(by rw [ZcR hil,← List.append_assoc,← hq];first | (rw [if_pos hBq];done) | (rw [if_neg hBq,List.append_nil]))⟩,hS,by omega⟩
  have hil:j=(Go.Gm.nth g.txs i).ops.length:=by simp at hc3;omega
  refine wp_exit (Zh (Zh (Zp (Zj (Za ?_)))))
  refine Zb hS (qp r1 (qM rfl rfl qZ)) hB [35,34,33,8,7,6,2,1] [104,102,101,50,0] rfl rfl fun a w F hS=>Za ?_
  replace hS:=hS.ent (i:=35) (s':=.pv (.int .i64 ((i+1:Nat):Int))) rfl (.int (Ze (by omega)))
  obtain ⟨F,hS⟩:=hS.nm [34,33,8,6,2,1,7,35] [102,101,0,50] rfl rfl
  exact ⟨((i+1),_,_),F,⟨by omega,(by rw [Zk4 hio,hq,hil,List.take_length])⟩,hS,by omega⟩
 have hil:i=g.txs.length:=by simp at hc2;omega
 refine wp_exit (Zh (Zh (Zp (Za (wp_seq ?_)))))
 refine Zb hS (qM rfl rfl (qN rfl rfl qZ)) hB [6] [102,101,50,0] rfl rfl fun a w F hS=>Za (wp_ret ?_)
 obtain ⟨F,hS⟩:=hS.give 50 6 rfl rfl
 refine Zw hfr hS rfl rfl rfl (.sl (by first | exact hg | (rw [hq,hil,List.take_length];exact hgg)))
theorem Zr4 (x:Int):FnP Tryz.prog 156 [.int .i64 x] (.bool ((fun _=>true) x)):=by
 refine FnP.mk Tryz.func156 rfl Tryz.ntmps156 rfl ?_
 intro B a w F hB hfr hS
 refine wp_seq ?_
 refine Zb hS qB hB [2] [0] rfl rfl fun a w F hS=>Za (wp_seq ?_)
 refine Zb hS qB hB [2] [0] rfl rfl fun a w F hS=>Za (wp_ret ?_)
 refine Zw hfr hS rfl rfl rfl (.bool rfl)
theorem Zsm (g:Zn) (phen:Int) (hsm:Za0 g):FnP Tryz.prog 95 [.agg (Zr g),.int .i64 phen] (.sl Ziq (Zca g phen fun _=>true)):=by
 refine FnP.mk Tryz.func95 rfl Tryz.ntmps95 rfl ?_
 intro B a w F hB hfr hS
 refine wp_seq ?_
 refine Zc hS (qx 101 r1 (qC qZ)) hB [4,2,1] [101,0] (fun _=>rfl) (fun _=>rfl) fun τ a w F hS=>?_
 try dsimp only [RS.sub,SF.sub,CF.sub,csub,Anc.sub,List.map,zCF,Zr,rTx,ZF,ZS,Zo,rOp,Ziq] at hS
 generalize τ 2=v2 at hS
 refine Za (wp_seq ?_)
 refine Zb hS (qe 2 101 r1 r1 (qM rfl rfl (qf (oP (ZoU g phen hsm (fun _=>true) 156 Tryz.f156 [] Tryz.func156 rfl (by kernel_rfl) (fun x=>Zr4 x)) Tryz.func155 (Args.three (.pagg .t) .t (.conv .f (Ent.fnClos)))) r2 qz (qN rfl rfl qZ)))) hB [4] [101,0] rfl rfl fun a w F hS=>Za (wp_ret ?_)
 refine Zw hfr hS rfl rfl rfl .refl
theorem Zrq {p:Int→Bool} {g:Zn} (hs:Za0 g):(rdC p g).length≤2000*g.txs.length:=by
 unfold rdC
 split
 · have h1:=Zni (p:=p) (g:=g) hs.1 g.txs.length
   rwa [List.take_length] at h1
 · simp
def ZaX (g:Zn):List Zk:=(Zf7 (wwC PT1 g) (rdC PT1 g)).map HvD.edge
def ZaB (p:Int):Int×Int:=if p=1 then (2,0) else if p=4 then (6,0) else if p=5 then (14,8) else (0,0)
def PhB (g:Zn) (p:Int):Prop:=if p=2∨p=3 then Zca g p PT1≠[] else (ZaB p).1≠0∧ZeE (ZaX g) (ZaB p).1 (ZaB p).2
def ZlW (b1 b2 b3 b4 b5:Bool):Int:=if b1=true then 0 else if ((b2 || b3) || b4)=true then 1 else if b5=true then 2 else 3
def bsI (bs:List Bool) (i:Nat):List Bool:=bs.take i++List.replicate (6 - i) false
theorem ZpP {bs:List Bool} (h:bs.length=6) {i:Nat} (hi:i≤6):(bsI bs i).length=6:=by unfold bsI;rw [List.length_append,List.length_take,List.length_replicate];omega
theorem Zqc {bs:List Bool} (h:bs.length=6) {i:Nat} (hi:i<6):(bsI bs i).set i (Go.Gm.nth bs i)=bsI bs (i+1):=by
 unfold bsI
 have e1:(bs.take i).length=i:=by rw [List.length_take];omega
 rw [List.set_append_right _ _ (by omega),e1,Nat.sub_self,show 6 - i=(6 - (i+1))+1 by omega,List.replicate_succ,List.set_cons_zero,Zv (by omega),List.append_assoc];rfl
theorem ZhC {g:Zn} (hg:ZG g) {e:Zk} : e ∈ ZaX g ↔ EdS g e:=by
 rw [← Zrx hg]
 unfold ZaX Zf7
 rw [List.map_map]
 rw [show (HvD.edge ∘ fun e=>(⟨e,cntA (wwC PT1 g) (rdC PT1 g) e⟩:HvD))=id from rfl,List.map_id]
 exact (Zbh ZbA _).2 _
theorem Znu {g:Zn} (hg:¬ ZG g):ZaX g = []:=by
 unfold ZaX Zf7 Zgz wwC rdC
 rw [if_neg hg,if_neg hg];rfl
theorem Zpc {g:Zn} (hg:ZG g) {e:Zk} (he:EdS g e):(∃ t ∈ g.txs,t.id=e.src∧t.done=true) ∧ ∃ t ∈ g.txs,t.id=e.dst∧t.done=true:=by
 obtain ⟨_,h2,h3,_,_,h6⟩:=Zba.1 hg
 have ord:∀ {k z:Int},z ∈ getO g.orders k → ∃ t ∈ g.txs,t.id=z∧t.done=true:=fun {k z} hz=>by
   obtain ⟨t,h4,h5,h7,_⟩:=ZbO.1 ((h6 k).mem_iff.1 hz)
   exact ⟨t,h4,h5,h7⟩
 rcases he with ⟨_,h⟩ | ⟨t,ht,hd,o,_,_,h1,h7,h8⟩
 · exact ⟨ord h.mem.1,ord h.mem.2⟩
 · rcases h8 with ⟨h9,rfl⟩ | ⟨y,h9,_,rfl⟩
   · refine ⟨?_,t,ht,rfl,hd⟩
     rcases h7 with h7 | ⟨u,u1,u2,_⟩
     · exact absurd h7 h9
     · exact ⟨u,(findT_mem u1).1,(findT_mem u1).2,u2⟩
   · exact ⟨⟨t,ht,rfl,hd⟩,ord h9.mem⟩
theorem ZmL {g:Zn} (hs:Za0 g) (mask:Int):(ZC (Zd0 (ZaX g) mask)).length≤4096:=by
 by_cases hg:ZG g
 · have h1:(ZC (Zd0 (ZaX g) mask)).length≤(g.txs.map TxD.id).length:=List.Nodup.length_le_of_subset (ZhF _) fun x hx=>by
     obtain ⟨e,he,hx⟩:=ZbG.1 hx
     obtain ⟨h3,h4⟩:=Zpc hg ((ZhC hg).1 (List.mem_filter.1 he).1)
     rcases hx with rfl | rfl
     · obtain ⟨t,h5,h6,_⟩:=h3;exact List.mem_map.2 ⟨t,h5,h6⟩
     · obtain ⟨t,h5,h6,_⟩:=h4;exact List.mem_map.2 ⟨t,h5,h6⟩
   have h2:=hs.1.1
   rw [List.length_map] at h1;omega
 · rw [Znu hg];exact Nat.zero_le _
theorem Zqp (l:List HvD) (hl:l.length≤1000000):FnP Tryz.prog 98 [.sl rHv l] (.sl ZI (l.map HvD.edge)):=by
 refine FnP.mk Tryz.func98 rfl Tryz.ntmps98 rfl ?_
 intro B a w F hB hfr hS
 refine wp_seq ?_
 refine Zb hS (qC qZ) hB [2,0] [0] rfl rfl fun a w F hS=>Za (wp_seq ?_)
 refine Zb hS (qC qZ) hB [3,2,0] [0] rfl rfl fun a w F hS=>Za (wp_seq (wp_seq ?_))
 refine Zb hS (qM rfl rfl (qu Tryz.underlying150 r1 (qJ qZ))) hB [8,7,6,3,2] [0] rfl rfl fun a w F hS=>Za (wp_block ?_)
 replace hS:=hS.fresh 50 rfl
 replace hS:=hS.turn 50 rfl (Zbj (T:=192) (sz:=4) (R:=ZI))
 refine Zl (σ:=(Nat)×(Value)×(List Zk)) [2,6,7] [0] (fun s=>[(8,.pv (.int .i64 (s.1:Int))),(3,.pv (.is s.2.1))]) (fun s=>[(50,.ob (.val s.2.1) (Zu 192 4 ZI s.2.2))]) (fun s=>s.1≤l.length∧(s.2.2=(l.take s.1).map HvD.edge)) (fun s=>l.length - s.1) ((0),(.slice none 0 0),([])) hS ⟨rfl,rfl,rfl,rfl,rfl,trivial⟩ ⟨rfl,rfl,trivial⟩ ⟨Nat.zero_le _,rfl⟩ ?_
 clear hS;intro s a w F hC hS
 obtain ⟨i,v,out⟩:=s
 try dsimp only at hC
 obtain ⟨F,hS⟩:=hS.nm [8,7,6,3,2] [50,0] rfl rfl
 try dsimp only at hS
 obtain ⟨hi,hq⟩:=hC
 have hol:out.length≤i:=by rw [hq,List.length_map,List.length_take];omega
 refine wp_seq ?_
 refine Zb hS (qL r2) hB [9,8,7,6,3,2] [50,0] rfl rfl fun a w F hS=>Za (wp_seq ?_)
 refine Zd hS rfl (fun hc0=>?_) (fun hc0=>?_)
 ·skip
  have hil:i<l.length:=by simp at hc0;omega
  refine wp_skip (Za (wp_seq (wp_block (wp_seq ?_))))
  refine Zc hS (qy 5 Tryz.underlying150 r2 (qf (oR true 5 .t) r1 qz (qf (oH [.int .i64 0,.int .i64 0,.int .i64 0,.int .i64 0,.int .i64 0] 101) trivial qz (qS 5 101 r2 r1 qZ)))) hB [8,7,6,5,3,2] [101,50,0] (fun _=>rfl) (fun _=>rfl) fun τ a w F hS=>?_
  try dsimp only [RS.sub,SF.sub,CF.sub,csub,Anc.sub,List.map,Zf,xL,xM,Nat.reduceAdd,xD,xE,xT,xU,xC,xN,zCF,ldSF,ZI,rHv] at hS
  generalize τ 5=v5 at hS
  try simp only [Int.toNat_natCast] at hS
  refine Za ?_
  refine Zc hS (qM rfl rfl (qg 0 101 r1 r1 (qf (oL true 4 101 .adr) r1 r1 (qf (Zt (sz:=4) (zs:=[.int .i64 0,.int .i64 0,.int .i64 0,.int .i64 0]) (r:=[(0,.tmp 14)]) (l:=[_,_,_,_]) Tryz.underlying127 (by kernel_rfl) (by kernel_rfl) (by kernel_rfl) (by kernel_rfl) rfl rfl (.agg rfl .t (by kernel_rfl) (by kernel_rfl) .nil) rfl) r1 qz (qf (ZV (sz:=4) (bs:=32) 50 (.mk' Tryz.underlying127 (by kernel_rfl) (by kernel_rfl)) (by intro x;rfl) .is (.arr (l':=[(Go.Gm.nth l i).edge]) .t) (by simp only [List.length_append,List.length_cons,List.length_nil];omega) (by decide)) ⟨rfl,rfl,trivial⟩ ⟨rfl,trivial⟩ (qN rfl rfl qZ)))))) hB [8,7,6,3,2] [50,0] (fun _=>rfl) (fun _=>rfl) fun τ a w F hS=>?_
  try dsimp only [RS.sub,SF.sub,CF.sub,csub,Anc.sub,List.map,Zf,xL,xM,Nat.reduceAdd,xD,xE,xT,xU,xC,xN,zCF,ldSF,ZI,rHv] at hS
  generalize τ 16=v16 at hS
  refine Zj (Za ?_)
  refine Zb hS (qp r1 (qM rfl rfl qZ)) hB [8,7,6,3,2] [50,0] rfl rfl fun a w F hS=>Za ?_
  replace hS:=hS.ent (i:=8) (s':=.pv (.int .i64 ((i+1:Nat):Int))) rfl (.int (Ze (by omega)))
  obtain ⟨F,hS⟩:=hS.nm [7,6,2,3,8] [0,50] rfl rfl
  exact ⟨((i+1),_,_),F,⟨by omega,(by rw [Zv hil,List.map_append,← hq];rfl)⟩,hS,by omega⟩
 have hil:i=l.length:=by simp at hc0;omega
 refine wp_exit (Zh (Zh (Zp (Za (wp_seq ?_)))))
 refine Zb hS (qM rfl rfl (qN rfl rfl qZ)) hB [2] [50,0] rfl rfl fun a w F hS=>Za (wp_ret ?_)
 obtain ⟨F,hS⟩:=hS.give 50 2 rfl rfl
 refine Zw hfr hS rfl rfl rfl (.sl (by rw [hq,hil,List.take_length]))
theorem ZqK (p:Int):FnP Tryz.prog 96 [.int .i64 p] (.tup [.int .i64 (ZaB p).1,.int .i64 (ZaB p).2]):=by
 refine FnP.mk Tryz.func96 rfl Tryz.ntmps96 rfl ?_
 intro B a w F hB hfr hS
 refine wp_seq ?_
 refine Zb hS (qI (qI qZ)) hB [3,2,0] [0] rfl rfl fun a w F hS=>Za (wp_seq (wp_seq ?_))
 refine Zb hS (qM rfl rfl qZ) hB [4,3,2] [0] rfl rfl fun a w F hS=>Za (wp_block (wp_seq ?_))
 refine Zb hS (qf (o_eql .t qi) r1 qz (qN rfl rfl qZ)) hB [5,4,3,2] [0] rfl rfl fun a w F hS=>Za ?_
 refine Zd hS rfl (fun hc0=>?_) (fun hc0=>?_)
 ·skip
  have hp:p=1:=by simpa using hc0
  subst hp
  have hg1:(2:Int)=(ZaB 1).1:=rfl
  have hg2:(0:Int)=(ZaB 1).2:=rfl
  refine wp_seq ?_
  refine Zb hS (qI (qI qZ)) hB [3,2] [0] rfl rfl fun a w F hS=>Za (wp_ret (Zs (Zi ?_)))
  refine Zao hfr hS rfl (.tmp rfl (.tmp rfl .nil)) (.two (.int hg1) (.int hg2))
 have hp1:¬ p=1:=by simpa using hc0
 refine wp_seq ?_
 refine Zb hS (qf (o_eql .t qi) r1 qz (qN rfl rfl qZ)) hB [7,4,3,2] [0] rfl rfl fun a w F hS=>Za ?_
 refine Zd hS rfl (fun hc1=>?_) (fun hc1=>?_)
 ·skip
  have hp:p=4:=by simpa using hc1
  subst hp
  have hg1:(6:Int)=(ZaB 4).1:=rfl
  have hg2:(0:Int)=(ZaB 4).2:=rfl
  refine wp_seq ?_
  refine Zb hS (qI (qI qZ)) hB [3,2] [0] rfl rfl fun a w F hS=>Za (wp_ret (Zs (Zi ?_)))
  refine Zao hfr hS rfl (.tmp rfl (.tmp rfl .nil)) (.two (.int hg1) (.int hg2))
 have hp2:¬ p=4:=by simpa using hc1
 refine wp_seq ?_
 refine Zb hS (qf (o_eql .t qi) r1 qz (qN rfl rfl qZ)) hB [9,3,2] [0] rfl rfl fun a w F hS=>Za ?_
 refine Zd hS rfl (fun hc2=>?_) (fun hc2=>?_)
 ·skip
  have hp:p=5:=by simpa using hc2
  subst hp
  have hg1:(14:Int)=(ZaB 5).1:=rfl
  have hg2:(8:Int)=(ZaB 5).2:=rfl
  refine wp_seq ?_
  refine Zb hS (qI (qI qZ)) hB [3,2] [0] rfl rfl fun a w F hS=>Za (wp_ret (Zs (Zi ?_)))
  refine Zao hfr hS rfl (.tmp rfl (.tmp rfl .nil)) (.two (.int hg1) (.int hg2))
 have hp3:¬ p=5:=by simpa using hc2
 have hg1:(0:Int)=(ZaB p).1:=by unfold ZaB;rw [if_neg hp1,if_neg hp2,if_neg hp3]
 have hg2:(0:Int)=(ZaB p).2:=by unfold ZaB;rw [if_neg hp1,if_neg hp2,if_neg hp3]
 refine wp_skip (Zj (Za (wp_seq ?_)))
 refine Zb hS (qI (qI qZ)) hB [3,2] [0] rfl rfl fun a w F hS=>Za (wp_ret ?_)
 refine Zao hfr hS rfl (.tmp rfl (.tmp rfl .nil)) (.two (.int hg1) (.int hg2))
theorem ZiH {α:Type} {l:List α} : decide (0<(l.length:Int))=true ↔ l≠[]:=by rw [decide_eq_true_eq,Ne,← List.length_eq_zero_iff];omega
theorem Zsf {g:Zn} {p:Int} (h:¬ (p=2∨p=3)) {b0 rb:Bool} (hb:b0=true ↔ PhB g p) (hr:rb=true ↔ ZeE (ZaX g) (ZaB p).1 (ZaB p).2):(!decide ((ZaB p).1=0) && rb)=b0:=by
 rw [Bool.eq_iff_iff,hb]
 unfold PhB
 rw [if_neg h,Bool.and_eq_true,hr];simp
theorem Zqr (g:Zn) (hsm:Za0 g) (hAR:(wwC PT1 g).length+(rdC PT1 g).length≤100000) (p:Int) (b0:Bool) (hb:b0=true ↔ PhB g p):FnP Tryz.prog 38 [.agg (Zr g),.int .i64 p] (.bool b0):=by
 refine FnP.mk Tryz.func38 rfl Tryz.ntmps38 rfl ?_
 intro B a w F hB hfr hS
 have hel:=Zkw (A:=wwC PT1 g) (R:=rdC PT1 g)
 have hkl:=Zhx (Zgz (wwC PT1 g) (rdC PT1 g))
 have hal:(Zgz (wwC PT1 g) (rdC PT1 g)).length≤100000:=by unfold Zgz;rw [List.length_append,List.length_map];exact hAR
 have hpl:(ZaX g).length≤100000:=by unfold ZaX;rw [List.length_map];omega
 obtain ⟨rb,hrb⟩:=ZcS (ZeE (ZaX g) (ZaB p).1 (ZaB p).2)
 refine wp_seq ?_
 refine Zc hS (qx 101 r1 qB) hB [4,2,1] [101,0] (fun _=>rfl) (fun _=>rfl) fun τ a w F hS=>?_
 try dsimp only [RS.sub,SF.sub,CF.sub,csub,Anc.sub,List.map,zCF,Zr,rTx,ZF,ZS,Zo,rOp] at hS
 generalize τ 2=v2 at hS
 refine Za (wp_seq (wp_seq ?_))
 refine Zb hS (qM rfl rfl qZ) hB [7,4,2,1] [101,0] rfl rfl fun a w F hS=>Za (wp_block (wp_seq (wp_seq ?_)))
 refine Zb hS (qf (o_eql .t qi) r1 qz (qN rfl rfl qZ)) hB [8,7,4,2,1] [101,0] rfl rfl fun a w F hS=>Za ?_
 refine Zd hS rfl (fun hc0=>?_) (fun hc0=>?_)
 ·skip
  have h23:(p=2∨p=3):=(by have h9:=hc0;simp at h9;omega)
  have hfin:decide (0<((Zca g p fun _=>true).length:Int))=b0:=by
    rw [Bool.eq_iff_iff,hb]
    unfold PhB
    rw [if_pos h23]
    exact ZiH
  refine wp_skip (Za ?_)
  refine Zd hS rfl (fun hc1=>?_) (fun hc1=>?_)
  ·skip
   have h23:(p=2∨p=3):=(by have h9:=hc1;simp at h9;omega)
   have hfin:decide (0<((Zca g p fun _=>true).length:Int))=b0:=by
     rw [Bool.eq_iff_iff,hb]
     unfold PhB
     rw [if_pos h23]
     exact ZiH
   refine wp_seq ?_
   refine Zb hS (qe 2 101 r1 r1 (qM rfl rfl (qf (oP (Zsm g p hsm) Tryz.func95 (Args.two (.pagg .t) .t)) r2 qz (qu Tryz.underlying144 r1 (qf (Zbi .t qi) r1 qz (qN rfl rfl qZ)))))) hB [4,2,1] [101,0] rfl rfl fun a w F hS=>Za (wp_ret (Zs (Zi ?_)))
   refine Zw hfr hS rfl rfl rfl (.bool hfin)
  exact Bool.noConfusion (hc0.symm.trans hc1)
 have hn2:¬ p=2:=by simpa using hc0
 refine Zb hS (qf (o_eql .t qi) r1 qz (qN rfl rfl qZ)) hB [8,4,2,1] [101,0] rfl rfl fun a w F hS=>Za ?_
 refine Zd hS rfl (fun hc2=>?_) (fun hc2=>?_)
 ·skip
  have h23:(p=2∨p=3):=(by have h9:=hc2;simp at h9;omega)
  have hfin:decide (0<((Zca g p fun _=>true).length:Int))=b0:=by
    rw [Bool.eq_iff_iff,hb]
    unfold PhB
    rw [if_pos h23]
    exact ZiH
  refine wp_seq ?_
  refine Zb hS (qe 2 101 r1 r1 (qM rfl rfl (qf (oP (Zsm g p hsm) Tryz.func95 (Args.two (.pagg .t) .t)) r2 qz (qu Tryz.underlying144 r1 (qf (Zbi .t qi) r1 qz (qN rfl rfl qZ)))))) hB [4,2,1] [101,0] rfl rfl fun a w F hS=>Za (wp_ret (Zs (Zi ?_)))
  refine Zw hfr hS rfl rfl rfl (.bool hfin)
 have h23:¬ (p=2∨p=3):=(by have h9:=hc2;simp at h9;omega)
 have hfin:=Zsf h23 hb hrb
 refine wp_skip (Zj (Za (wp_seq ?_)))
 refine Zb hS (qM rfl rfl (qf (oP (ZqK p) Tryz.func96 (Args.one .t)) r1 qz (qM rfl rfl (qf (Zq .t rfl) r1 qz (qf (Zq .t rfl) r1 qz (qN rfl rfl (qN rfl rfl qZ))))))) hB [6,5,4,2] [101,0] rfl rfl fun a w F hS=>Za (wp_seq ?_)
 refine Zb hS (qM rfl rfl (qf (o_neq .t qi) r1 qz (qM rfl rfl (qk rfl (fun h=>oL true 2 101 .is) r2 r1 (qk rfl (fun h=>oP (ZqV g hsm (Nat.le_trans hAR (by decide))) Tryz.func99 (Args.one (.pagg (.w h)))) r2 qz (qk rfl (fun h=>oP (Zqp _ (by have h9:=hpl;unfold ZaX at h9;rw [List.length_map] at h9;exact Nat.le_trans h9 (by decide))) Tryz.func98 (Args.one (.w h))) r2 qz (qm rfl rfl rfl rfl (qm rfl rfl rfl rfl (qk rfl (fun h=>oP (ZpL (ZaX g) (ZaB p).1 (ZaB p).2 hpl (ZmL hsm _) rb hrb) Tryz.func97 (Args.three (.w h) (.w h) (.w h))) r4 qz (qf (ZN .t .t) r2 qz (qN rfl rfl qZ))))))))))) hB [4] [0] rfl rfl fun a w F hS=>Za (wp_ret ?_)
 refine Zw hfr hS rfl rfl rfl (.bool hfin)
theorem Zdy {g:Zn} (hg:ZG g) {mask must:Int} : ZeE (ZaX g) mask must ↔ ZeK g (fun k=>(decide (1≤k) && decide (k≤3)) && ofB mask k) (Zks must):=by
 have hm:∀ e,e ∈ (ZaX g).filter (ZU mask) ↔ EdS g e∧((decide (1≤e.kind) && decide (e.kind≤3)) && ofB mask e.kind)=true:=fun e=>by
   rw [List.mem_filter,ZhC hg];rfl
 have hl:∀ a b,LE_ ((ZaX g).filter (ZU mask)) a b ↔ EK g (fun k=>(decide (1≤k) && decide (k≤3)) && ofB mask k) a b:=fun a b=>by
   unfold LE_ EK
   constructor
   · rintro ⟨e,h1,h2,h3⟩;exact ⟨e,((hm e).1 h1).1,((hm e).1 h1).2,h2,h3⟩
   · rintro ⟨e,h1,h2,h3,h4⟩;exact ⟨e,(hm e).2 ⟨h1,h2⟩,h3,h4⟩
 unfold ZeE ZeK
 constructor
 · rintro ⟨e,h1,h2,h3⟩
   exact ⟨e,((hm e).1 h1).1,((hm e).1 h1).2,h2,h3.imp (fun k=>k) (Rch.mono fun a b=>(hl a b).1)⟩
 · rintro ⟨e,h1,h2,h3,h4⟩
   exact ⟨e,(hm e).2 ⟨h1,h2⟩,h3,h4.imp (fun k=>k) (Rch.mono fun a b=>(hl a b).2)⟩
theorem ZqI {t:TxD} {v:ZbB} (h:v ∈ ZaE t):∃ o ∈ t.ops,ZbU t.id o=true∧ofO o=v:=by
 have key:∀ (l:List OpD) (out:List ZbB),v ∈ l.foldl (Z9 t.id) out→v ∈ out ∨ ∃ o ∈ l,ZbU t.id o=true∧ofO o=v:=by
   intro l
   induction l with
   | nil=>intro out h;exact .inl h
   | cons x l ih=>
     intro out h
     rw [List.foldl_cons] at h
     rcases ih _ h with h | ⟨o,o1,o2⟩
     · unfold Z9 at h
       split at h
       · rename_i hc
         rcases List.mem_append.1 h with h | h
         · exact .inl h
         · exact .inr ⟨x,by simp,hc.1,(List.mem_singleton.1 h).symm⟩
       · exact .inl h
     · exact .inr ⟨o,by simp [o1],o2⟩
 exact (key t.ops [] h).resolve_left fun h=>by cases h
theorem Zp6 {t:TxD} {v:ZbB} (h:Zia t v=true):v.tx=t.id:=by
 unfold Zia at h
 rw [Bool.and_eq_true] at h
 simpa using h.1
theorem ZlO {id:Int} {u:TxD} (hu:u.id=id):∀ l:List TxD,lowK TxD.id id (l.set (lowK TxD.id id l) u)=lowK TxD.id id l
 | []=>rfl
 | x :: l=>by
   have ih:=ZlO hu l
   unfold lowK at ih ⊢
   by_cases h:x.id<id
   · rw [List.takeWhile_cons_of_pos (by simpa using h),List.length_cons,List.set_cons_succ,List.takeWhile_cons_of_pos (by simpa using h),List.length_cons,ih]
   · rw [List.takeWhile_cons_of_neg (by simpa using h),List.length_nil,List.set_cons_zero,List.takeWhile_cons_of_neg (by simp;omega)];rfl
theorem ZoD {t:TxD} {o:OpD} (ho:o ∈ t.ops) (hd:ZbU t.id o=true):ofO o ∈ ZaE t:=by
 have key:∀ (l:List OpD) (out:List ZbB),(ofO o ∈ out∨o ∈ l)→ofO o ∈ l.foldl (Z9 t.id) out:=by
   intro l
   induction l with
   | nil=>intro out h;rcases h with h | h;exact h;cases h
   | cons x l ih=>
     intro out h
     rw [List.foldl_cons]
     refine ih _ ?_
     rcases h with h | h
     · left
       unfold Z9
       split
       · exact List.mem_append_left _ h
       · exact h
     · rcases List.mem_cons.1 h with rfl | h
       · left
         unfold Z9
         by_cases hin:ofO o ∈ out
         · rw [if_neg (by simp [hin])];exact hin
         · rw [if_pos ⟨hd,hin⟩];simp
       · exact .inr h
 exact key t.ops [] (.inr ho)
theorem Zd4 (l:List TxD) (id i:Int):Z7 (l.filter fun t=>!decide (t.id=id)) i=if i=id then none else Z7 l i:=by
 unfold Z7
 induction l with
 | nil=>simp
 | cons t l ih=>
   rw [List.filter_cons]
   by_cases e:t.id=id
   · rw [if_neg (by simp [e]),ih,List.find?_cons]
     by_cases h:i=id
     · rw [if_pos h,if_pos h]
     · rw [if_neg h,if_neg h,decide_eq_false (by omega)]
   · rw [if_pos (by simp [e]),List.find?_cons,List.find?_cons,ih]
     by_cases h:i=id
     · rw [if_pos h,if_pos h,decide_eq_false (by omega)]
     · rw [if_neg h,if_neg h]
theorem ZhW {g:Zn} {t:TxD} (hg:ZG g) (hid:t.id≠0) (h0:∀ k,wcnt t.ops k=0) (hu:Zeh g t=false):∀ u ∈ g.txs,u.id≠t.id → ∀ o ∈ u.ops,o.read=true→o.tx≠t.id:=fun u hu1 hn o ho hr e=>by
 have hd:ZbU u.id o=true:=by
   unfold ZbU
   rw [hr,decide_eq_false (by omega),decide_eq_false (by omega)];rfl
 have hv:=ZoD ho hd
 have ev:ofO o = ⟨o.tx,o.key,o.nth⟩:=by unfold ofO;rw [if_pos hr]
 have h1:=Zl5 hu hu1 hn hv (by rw [ev];exact e)
 rw [h0] at h1
 obtain ⟨_,_,h3,_⟩:=Zba.1 hg
 have h4:=List.all_eq_true.1 (h3 u hu1).2 _ hv
 unfold Zio at h4
 rw [ev] at h4 h1
 rw [if_neg (by simp;omega)] at h4
 simp at h4 h1
 omega
theorem Zi7 {g:Zn} {id:Int} (h:(ZO g id).2=0):ZG g∧isK TxD.id id g.txs=true∧Zeh g (Zbx id)=false∧(ZO g id).1 = ⟨g.txs.filter fun t=>!decide (t.id=id),settleO (Zbx id) g.orders⟩:=by
 by_cases h1:ZG g
 · cases h2:isK TxD.id id g.txs
   · rw [Zsi h1 h2] at h;cases h
   · cases h3:Zeh g (Zbx id)
     · refine ⟨h1,rfl,rfl,?_⟩
       unfold ZO
       rw [if_neg (Decidable.not_not.2 h1),if_neg (by simp [h2]),if_neg (by simp [h3]),← ZcH (ZE.1 (ZR h1).1) h2]
     · rw [Zsb h1 h2 h3] at h;cases h
 · rw [Zsc h1] at h;cases h
theorem ZrO {l:List TxD} {id:Int} (h:isK TxD.id id l=true):∃ t ∈ l,t.id=id:=by
 unfold isK at h
 rw [List.any_eq_true] at h
 obtain ⟨t,h1,h2⟩:=h
 exact ⟨t,h1,by simpa using h2⟩
theorem Zpq {g:Zn} (hg:ZG g) {t:TxD} (ht:t ∈ g.txs):1≤t.id:=by
 obtain ⟨_,_,h3,_⟩:=Zba.1 hg
 have:=(h3 t ht).1
 unfold Zai at this
 split at this
 · cases this
 · rename_i h;exact (Decidable.not_not.1 h).1
theorem ZoJ {g:Zn} {id:Int} (hs:Za0 g) (h:(ZO g id).2=0):ZdW g (ZO g id).1 id:=by
 have hx:=Zd1 hs h
 obtain ⟨h1,h2,h3,h4⟩:=Zi7 h
 obtain ⟨t,t1,t2⟩:=ZrO h2
 have hid:=Zpq h1 t1
 refine ⟨h1,hx,fun i=>?_,fun k=>?_,ZhW (t:=Zbx id) h1 (show id≠0 by omega) (fun _=>rfl) h3⟩
 · rw [h4];exact Zd4 _ _ _
 · rw [h4,ZcB (ZR h1).2]
   exact if_neg (fun h=>by cases h.1)
theorem ZlI {g:Zn} {p:Int} : Zca g p PT1≠[] ↔ ZG g ∧ ∃ t ∈ g.txs,∃ o ∈ t.ops,Zi6 g p t o=true:=by
 unfold Zca
 by_cases hg:ZG g
 · rw [if_pos hg]
   unfold badsG
   rw [Ne,List.flatMap_eq_nil_iff]
   constructor
   · intro h
     refine ⟨hg,Classical.byContradiction fun hn=>h fun t ht=>?_⟩
     unfold ZbF
     rw [List.map_eq_nil_iff,List.filter_eq_nil_iff]
     intro x hx hb
     have hm:x.1 ∈ t.ops:=by
       obtain ⟨i,hi,e⟩:=List.getElem_of_mem hx
       simp at e
       rw [← e];exact List.getElem_mem _
     exact hn ⟨t,ht,x.1,hm,by simpa using hb⟩
   · rintro ⟨_,t,ht,o,ho,hb⟩ h
     have:=h t ht
     unfold ZbF at this
     rw [List.map_eq_nil_iff,List.filter_eq_nil_iff] at this
     obtain ⟨i,hi,e⟩:=List.getElem_of_mem ho
     exact this (o,i) (by rw [← e];exact List.mk_mem_zipIdx_iff_getElem?.2 (List.getElem?_eq_getElem hi)) (by simpa using hb)
 · rw [if_neg hg]
   exact ⟨fun h=>absurd rfl h,fun h=>absurd h.1 hg⟩
theorem ZdW.bads {g x:Zn} {id:Int} (h:ZdW g x id) {p:Int} (hb:Zca x p PT1≠[]):Zca g p PT1≠[]:=by
 obtain ⟨_,t,ht,o,ho,hb⟩:=ZlI.1 hb
 obtain ⟨t1,t2⟩:=h.mem.1 ht
 refine ZlI.2 ⟨h.rg,t,t1,o,ho,?_⟩
 have hr:o.read=true:=by
   unfold Zi6 ZbU at hb
   cases hor:o.read
   · rw [hor] at hb;simp at hb
   · rfl
 unfold Zi6 uOf at hb ⊢
 rw [h.tab,if_neg (h.free t t1 t2 o ho hr)] at hb
 exact hb
theorem ZdW.phen {g x:Zn} {id:Int} (h:ZdW g x id) {p:Int} (hb:PhB x p):PhB g p:=by
 unfold PhB at hb ⊢
 split at hb
 · rename_i h1;rw [if_pos h1];exact h.bads hb
 · rename_i h1
   rw [if_neg h1]
   refine ⟨hb.1,?_⟩
   have h2:(ZaB p)=(2,0)∨(ZaB p)=(6,0)∨(ZaB p)=(14,8):=by
     have:=hb.1
     unfold ZaB at this ⊢
     split
     · exact .inl rfl
     · split
       · exact .inr (.inl rfl)
       · split
         · exact .inr (.inr rfl)
         · rename_i a b c;rw [if_neg a,if_neg b,if_neg c] at this;exact absurd rfl this
   have hm:ofB (ZaB p).1 1=true:=by rcases h2 with h2 | h2 | h2 <;> rw [h2] <;> decide
   exact (Zdy h.rg).2 (h.round (by show (_ && ofB (ZaB p).1 1)=true;rw [hm];rfl) ((Zdy h.rx).1 hb.2))
structure ZdO (x y:Zn) (id:Int):Prop where
 rx:ZG x
 ry:ZG y
 ord:∀ k,getO y.orders k=getO x.orders k
 flt:x.txs=y.txs.filter fun t=>!decide (t.id=id)
 idle:∀ t ∈ y.txs,t.id=id→t.done=false∨t.ops = []
 free:∀ t ∈ x.txs,∀ o ∈ t.ops,o.read=true→o.tx≠id
section
variable {x y:Zn} {id:Int}
theorem ZdO.mem (h:ZdO x y id) {t:TxD} : t ∈ x.txs ↔ t ∈ y.txs∧t.id≠id:=by rw [h.flt,List.mem_filter];simp
theorem ZdO.find (h:ZdO x y id) {i:Int} (hi:i≠id):Z7 y.txs i=Z7 x.txs i:=by rw [h.flt,Zd4,if_neg hi]
theorem ZdO.rds (h:ZdO x y id) {t:TxD} (ht:t ∈ x.txs) {o:OpD} (ho:o ∈ t.ops) (hr:o.read=true) {e:Zk} : RdS y t o e ↔ RdS x t o e:=by
 unfold RdS OkV
 rw [h.find (h.free t ht o ho hr),h.ord]
theorem ZdO.edge (h:ZdO x y id) {e:Zk} : EdS y e ↔ EdS x e:=by
 unfold EdS
 rw [h.ord]
 constructor
 · rintro (k | ⟨t,ht,hd,o,ho,hr,k⟩)
   · exact .inl k
   · by_cases e:t.id=id
     · rcases h.idle t ht e with h1 | h1
       · rw [hd] at h1;cases h1
       · rw [h1] at ho;cases ho
     · have hx:=h.mem.2 ⟨ht,e⟩
       exact .inr ⟨t,hx,hd,o,ho,hr,(h.rds hx ho hr).1 k⟩
 · rintro (k | ⟨t,ht,hd,o,ho,hr,k⟩)
   · exact .inl k
   · exact .inr ⟨t,(h.mem.1 ht).1,hd,o,ho,hr,(h.rds ht ho hr).2 k⟩
theorem ZeC {α β:Type} {f f':α→List β} {p:α→Bool} : ∀ {l:List α},(∀ t ∈ l,p t=false→f t = [])→(∀ t ∈ l,p t=true→f t=f' t)→l.flatMap f=(l.filter p).flatMap f'
 | [],_,_=>rfl
 | t :: l,h,k=>by
   have ih:=ZeC (l:=l) (fun u hu=>h u (by simp [hu])) fun u hu=>k u (by simp [hu])
   rw [List.flatMap_cons,List.filter_cons,ih]
   cases hp:p t
   · rw [h t (by simp) hp,if_neg (by simp)];rfl
   · rw [if_pos rfl,List.flatMap_cons,k t (by simp) hp]
theorem ZdO.bads (h:ZdO x y id) (p:Int):Zca y p PT1=Zca x p PT1:=by
 unfold Zca
 rw [if_pos h.ry,if_pos h.rx]
 unfold badsG
 rw [h.flt]
 refine ZeC (fun t ht hp=>?_) fun t ht hp=>?_
 · have e:t.id=id:=by simpa using hp
   unfold ZbF
   rw [List.map_eq_nil_iff,List.filter_eq_nil_iff]
   intro z hz hb
   have hm:z.1 ∈ t.ops:=by
     obtain ⟨i,hi,e⟩:=List.getElem_of_mem hz
     simp at e
     rw [← e];exact List.getElem_mem _
   rcases h.idle t ht e with h1 | h1
   · unfold Zi6 ZfO at hb
     rw [h1] at hb;simp at hb
   · rw [h1] at hm;cases hm
 · have e:t.id≠id:=by simpa using hp
   have hx:=h.mem.2 ⟨ht,e⟩
   unfold ZbF
   congr 1
   refine List.filter_congr fun z hz=>?_
   have hm:z.1 ∈ t.ops:=by
     obtain ⟨i,hi,e⟩:=List.getElem_of_mem hz
     simp at e
     rw [← e];exact List.getElem_mem _
   congr 1
   unfold Zi6
   cases hn:ZbU t.id z.1
   · rfl
   · have hr:z.1.read=true:=by
       unfold ZbU at hn
       cases hor:z.1.read
       · rw [hor] at hn;simp at hn
       · rfl
     unfold uOf
     rw [h.find (h.free t hx z.1 hm hr)]
theorem ZdO.phen (h:ZdO x y id) (p:Int):PhB y p ↔ PhB x p:=by
 unfold PhB
 split
 · rw [h.bads]
 · rw [Zdy h.ry,Zdy h.rx]
   have:∀ {m mu:Int→Bool},ZeK y m mu ↔ ZeK x m mu:=fun {m mu}=>by
     have he:∀ a b,EK y m a b ↔ EK x m a b:=fun a b=>by
       unfold EK
       exact ⟨fun ⟨e,h1,h2⟩=>⟨e,h.edge.1 h1,h2⟩,fun ⟨e,h1,h2⟩=>⟨e,h.edge.2 h1,h2⟩⟩
     unfold ZeK
     constructor
     · rintro ⟨e,h1,h2,h3,h4⟩
       exact ⟨e,h.edge.1 h1,h2,h3,h4.imp (fun k=>k) (Rch.mono fun a b=>(he a b).1)⟩
     · rintro ⟨e,h1,h2,h3,h4⟩
       exact ⟨e,h.edge.2 h1,h2,h3,h4.imp (fun k=>k) (Rch.mono fun a b=>(he a b).2)⟩
   rw [this]
end
theorem Zle {g:Zn} {id:Int} {t:TxD} (hs:Za0 g) (h:(ZO g id).2=0) (ht:Z7 g.txs id=some t):(Zan g ⟨t.id,false,t.ops⟩).2=0∧ZdO (ZO g id).1 (Zan g ⟨t.id,false,t.ops⟩).1 id:=by
 have hx:=Zd1 hs h
 obtain ⟨h1,h2,h3,h4⟩:=Zi7 h
 obtain ⟨t1,t2⟩:=findT_mem ht
 have hid:=Zpq h1 t1
 have hfr:=ZhW (t:=Zbx id) h1 (show id≠0 by omega) (fun _=>rfl) h3
 obtain ⟨_,a2,a3,_⟩:=Zba.1 h1
 have b1:Zai ⟨t.id,false,t.ops⟩ = 0:=(a3 t t1).1
 have b2:Zdf g ⟨t.id,false,t.ops⟩ = true:=(a3 t t1).2
 have b3:isK TxD.id (⟨t.id,false,t.ops⟩:TxD).id g.txs=true:=by rw [show (⟨t.id,false,t.ops⟩:TxD).id=id from t2];exact h2
 have b4:Zeh g ⟨t.id,false,t.ops⟩ = false:=by
   unfold Zeh
   rw [List.any_eq_false]
   intro u hu hb
   unfold ZiE at hb
   rw [Bool.and_eq_true,List.any_eq_true] at hb
   obtain ⟨c1,v,c2,c3⟩:=hb
   have c1:u.id≠t.id:=by simpa using c1
   obtain ⟨o,o1,o2,o3⟩:=ZqI c2
   have hr:o.read=true:=by
     unfold ZbU at o2
     cases hor:o.read
     · rw [hor] at o2;simp at o2
     · rfl
   refine hfr u hu (by rw [show (Zbx id).id=id from rfl];omega) o o1 hr ?_
   have ev:ofO o = ⟨o.tx,o.key,o.nth⟩:=by unfold ofO;rw [if_pos hr]
   have c4:=Zp6 c3
   rw [← o3,ev] at c4
   show o.tx=id
   have c4:o.tx=t.id:=c4
   omega
 have hm:(mayH g ⟨t.id,false,t.ops⟩ 3 true).2=0:=by
   unfold mayH
   rw [if_neg (Decidable.not_not.2 h1),if_neg (by rw [b1];exact fun h=>h rfl),if_neg (by rw [b3];simp),if_neg (by rw [b2];simp)]
 have hA:Zan g ⟨t.id,false,t.ops⟩ = (⟨g.txs.set (lowK TxD.id t.id g.txs) ⟨t.id,false,t.ops⟩,settleO ⟨t.id,false,t.ops⟩ g.orders⟩,0):=by
   unfold Zan
   rw [if_neg (by rw [hm];exact fun h=>h rfl),if_neg (by rw [b4];simp)]
 have hz:(Zan g ⟨t.id,false,t.ops⟩).2=0:=by rw [hA]
 have hry:=ZiJ hs hz
 obtain ⟨m1,m2⟩:=Zkg a2 b3
 refine ⟨hz,hx,hry,fun k=>?_,?_,fun u hu e=>?_,fun u hu o ho hr=>?_⟩
 · rw [hA,h4,ZcB (ZR h1).2,ZcB (ZR h1).2]
   show Zex _ _ _=Zex _ _ _
   unfold Zex
   rw [if_neg (fun h=>by cases h.1),if_neg (fun h=>by cases h.1)]
   show withoutO _ t.id=withoutO _ id
   rw [t2]
 · rw [hA,h4]
   show g.txs.filter _=(g.txs.set _ _).filter _
   rw [ZcH (ZE.1 a2) h2]
   have b3':isK TxD.id id (g.txs.set (lowK TxD.id t.id g.txs) ⟨t.id,false,t.ops⟩)=true:=by
     unfold isK
     rw [List.any_eq_true]
     exact ⟨_,(m2 _).2 (.inr ⟨rfl,rfl⟩),by simpa using t2⟩
   rw [ZcH (ZE.1 m1) b3']
   have hlow:lowK TxD.id id (g.txs.set (lowK TxD.id t.id g.txs) ⟨t.id,false,t.ops⟩)=lowK TxD.id t.id g.txs:=by
     rw [t2]
     exact ZlO (u:=⟨id,false,t.ops⟩) rfl g.txs
   rw [hlow,← t2,List.take_set_of_le (Nat.le_refl _),List.drop_set_of_lt (Nat.lt_succ_self _)]
 · rw [hA] at hu
   rcases (m2 u).1 hu with ⟨_,k⟩ | ⟨k,_⟩
   · exact absurd (e.trans t2.symm) k
   · rw [k];exact .inl rfl
 · rw [h4] at hu
   have hu2:=List.mem_filter.1 hu
   exact hfr u hu2.1 (show u.id≠id by simpa using hu2.2) o ho hr
end Go.Proofs.YtdpkkdigojkpaaaGreat
