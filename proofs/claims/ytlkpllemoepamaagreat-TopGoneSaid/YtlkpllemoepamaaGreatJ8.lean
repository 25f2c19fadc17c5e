/- Texts put together. No condition beyond those that each theorem says. -/
import Derived.Test.YtlkpllemoepamaaGreatJ7
import Derived.Test.YtlkpllemoepamaaGreatJ2
import Derived.Test.YtlkpllemoepamaaGreatJ5
import Derived.Test.YtlkpllemoepamaaGreatJ3
import Derived.Test.YtlkpllemoepamaaGreatLibI
namespace Go.Proofs.YtlkpllemoepamaaGreat
open Go Go.Gm Tryz
set_option linter.unusedVariables false
set_option linter.unusedSimpArgs false
set_option maxHeartbeats 4000000
set_option maxRecDepth 8000
open Go.RowKit Go.Maps Go.Sort Go.Shelf Go.ChangeMaps Go.MapKept
def Zqm (x:Zg):List Value:=[Value.int .i64 x.src,.int .i64 x.dst,.int .i64 x.kind,.int .i64 x.key]
def Zlk (x:Zg):Value:=(.agg #[.int .i64 x.src,.int .i64 x.dst,.int .i64 x.kind,.int .i64 x.key])
def Zv0 (v:Value):Zg:=match v with
 | .agg z=>match z.toList with
  | [.int _ b,.int _ c,.int _ d,.int _ e]=>⟨b,c,d,e⟩
  | _=>noE
 | _=>noE
theorem ZqI (x:Zg):Zv0 (Zlk x)=x:=rfl
theorem Zqy (x:Zg):∀ u ∈ [Value.int .i64 x.src,.int .i64 x.dst,.int .i64 x.kind,.int .i64 x.key],u.oneCell' = true:=by
 intro u hu
 simp at hu
 rcases hu with rfl | rfl | rfl | rfl <;> rfl
theorem Zod {w:World} {y:Ys} : ∀ {l:List Zg},(∀ e ∈ l,∀ x ∈ Zat e,inR .i64 x)→PVs (l.flatMap Zs) (l.flatMap Zqm) w y
 | [],_=>trivial
 | e :: l,h=>by
  have h1:=h e (by simp)
  unfold Zat at h1
  exact ⟨⟨rfl,rfl,h1 _ (by simp)⟩,⟨rfl,rfl,h1 _ (by simp)⟩,⟨rfl,rfl,h1 _ (by simp)⟩,⟨rfl,rfl,h1 _ (by simp)⟩,Zod fun z hz=>h z (by simp [hz])⟩
set_option maxRecDepth 100000 in
set_option maxHeartbeats 1000000 in
theorem Zs0 (F:Fence) (n:Nat) (h10:F.fn 177) (hro:F.round=none) (hn:1≤n) (l Bm off b clock:Nat) (es:Array MapEntry) (hnd:(es.toList.map (·.born)).Nodup) (hold:∀ x ∈ es.toList,x.born<clock) (hkv:∀ e ∈ es.toList,∃ k:Zg,e.key=Zlk k) (J:List Zg→World→Prop)
  (hY:∀ pre x W,J pre W→pre.length<es.size→YieldAt F (n - 1) prog l #[Zlk x] W fun e W'=>e = .returned (.bool true)∧J (pre ++ [x]) W' ∧ KeepsWalks W W')
  (W:World) (hJ:AbidesFrom W.heap.size J) (hm:W.cell? ⟨Bm,off,none⟩ = some (.map (some b))) (hb:W.heap[b]? = some (.map es clock)) (h0:J [] W) :
  CallsIn F n prog 177 #[.func (.yield l) #[] #[],.pointer (some ⟨Bm,off,none⟩)] W fun e W'=>(∃ v,e = .returned v) ∧ ∃ ss:List Zg,(ss.map Zlk).Perm (es.toList.map (·.key))∧J ss W':=by
 have hbl:b<W.heap.size:=(YW.1 hb).1
 refine callsIn_of_wp func177 rfl h10 ?_ hro
 simp only [ntmps177,YaC,Yl,Yy,Nat.reduceAdd,Nat.reduceSub,Array.replicate_succ,Array.replicate_zero,List.push_toArray,List.append_toArray,Yaw,Yak]
 gi_wp2_with (first
  | (gi_at_range;refine Zd9 rfl _ 127 rfl 42 3 kr b es clock rfl hb ?_)
  | gi_in)
 go_frame
 have hg0:W.grownBy (W.alloc (.mapIter (some b) clock #[] clock)) none:=World.grownBy_alloc W _ none
 have hr0:(W.alloc (.mapIter (some b) clock #[] clock)).heap[W.heap.size]? = some (.mapIter (some b) clock #[] clock):=World.alloc_heap_new W _
 have hb0:(W.alloc (.mapIter (some b) clock #[] clock)).heap[b]? = some (.map es clock):=(Below.heap_alloc _ _ b hbl).trans hb
 generalize W.alloc (.mapIter (some b) clock #[] clock)=w0 at hg0 hr0 hb0 ⊢
 gi_loopw [3] (fun _ wr=>∃ (seen:Array Nat) (c0:Nat) (ss:List Zg),wr.heap[W.heap.size]? = some (.mapIter (some b) clock seen c0)∧clock≤c0∧wr.heap[b]? = some (.map es clock)∧(ss.map Zlk).Perm ((es.toList.filter fun x=>seen.contains x.born).map (·.key))∧ss.length+(leftOf es seen).size≤es.size∧J ss wr)
  (fun _ wr=>(leftOf es (wr.iterSeen W.heap.size)).size)
 case atStart=>
  exact ⟨#[],clock,[],hr0,YN _,hb0,by rw [Zoi];exact .nil,by rw [Zn9];simp,hJ [] W w0 none h0 hg0 (fun r e=>by cases e)⟩
 case round=>
  obtain ⟨seen,c0,ss,hr,hsc,hbr,hp,hcs,hJs⟩:=hrel
  gi_wp2_with (first
   | (gi_at_next;refine Zeu rfl _ rfl W.heap.size b clock c0 seen es rfl hr hbr hold hsc ow hnd ?_ ?_)
   | gi_in)
  ·intro hl0
   gi_wp2
   go_end0
   exact ⟨⟨_,rfl⟩,ss,by rw [ZqU hl0] at hp;exact hp,hJs⟩
  ·intro e w2 hN
   obtain ⟨hem,hes⟩:=mem_left hN.left
   obtain ⟨x,hx⟩:=hkv e hem
   have hr2:=hN.it
   have hb2:=hN.mp
   have hen:=hN.entry
   have hlt:=left_shrinks es seen e hN.left
   have hJ2:J ss w2:=hJ ss wr w2 (some W.heap.size) hJs hN.grown (fun r e9=>by cases e9;exact ⟨YN _,_,hr,rfl⟩)
   rw [hx,show Zlk x=(.agg #[.int .i64 x.src,.int .i64 x.dst,.int .i64 x.kind,.int .i64 x.key]) from rfl] at hen
   have hJ3:J ss (w2.alloc (.cells #[.int .i64 x.src,.int .i64 x.dst,.int .i64 x.kind,.int .i64 x.key] 42)):=hJ ss w2 _ none hJ2 (World.grownBy_alloc w2 _ none) (fun r e9=>by cases e9)
   have hr2b:(w2.alloc (.cells #[.int .i64 x.src,.int .i64 x.dst,.int .i64 x.kind,.int .i64 x.key] 42)).heap[W.heap.size]? = _:=(Below.heap_alloc _ _ _ (YW.1 hr2).1).trans hr2
   have hb2b:(w2.alloc (.cells #[.int .i64 x.src,.int .i64 x.dst,.int .i64 x.kind,.int .i64 x.key] 42)).heap[b]? = _:=(Below.heap_alloc _ _ _ (YW.1 hb2).1).trans hb2
   obtain ⟨fn,tmps,assign,body,hy,hR⟩:=hY ss x _ hJ3 ow
   rw [show Zlk x=(.agg #[.int .i64 x.src,.int .i64 x.dst,.int .i64 x.kind,.int .i64 x.key]) from rfl] at hy
   rw [hx,show Zlk x=(.agg #[.int .i64 x.src,.int .i64 x.dst,.int .i64 x.kind,.int .i64 x.key]) from rfl]
   clear hN
   gi_wp2
   refine hR.mono ?_
   rintro e9 W3 ⟨rfl,hJ4,hk3⟩
   gi_wp2
   have hr3:=hk3.same _ _ hr2b rfl
   have hb3:=hk3.same _ _ hb2b rfl
   go_roundw
   case rel=>
    exact ⟨seen.push e.born,clock,ss ++ [x],hr3,YN _,hb3,by
     rw [YP,List.map_singleton]
     have h9:=((Zil hnd hem hes).map (·.key)).symm
     rw [YU,hx] at h9
     exact ((List.perm_append_singleton _ _).trans (hp.cons _)).trans h9,by rw [Yd,YM];omega,hJ4⟩
   case measure=>
    simp only [World.iterSeen,hr3,hr]
    exact hlt
end Go.Proofs.YtlkpllemoepamaaGreat
namespace Go.Proofs.YtlkpllemoepamaaGreat
open Go Go.Gm Tryz
set_option linter.unusedVariables false
set_option linter.unusedSimpArgs false
set_option maxHeartbeats 4000000
set_option maxRecDepth 8000
open Go.RowKit Go.Maps Go.Sort Go.Shelf Go.ChangeMaps Go.MapKept
theorem Zpz (w:World) (l:List Value) (t:TypeId):∀ j u,l[j]? = some u→(w.alloc (.cells l.toArray t)).cell? ((⟨w.heap.size,0,none⟩:Addr).add j)=some u:=by
 intro j u hj
 rw [show (⟨w.heap.size,0,none⟩:Addr).add j = ⟨w.heap.size,j,none⟩ from by cases j <;> simp [Addr.add]]
 rw [Z0 (vs:=l.toArray) (T:=t) (fr:=(0,0)) (World.alloc_heap_new w _)]
 simpa using hj
def Zeo : Code := (Code.region 2 #[{ dst := some 5, op := Op.alloc 42, type := 0, pos := "iter.go:51", after := #[], guard := none }, { dst := none, op := Op.store 42 (Operand.tmp 5) (Operand.tmp 7), type := 0, pos := "iter.go:51", after := #[{ on := 0, ground := Ground.data }, { on := 0, ground := Ground.phase }], guard := none }] false)
def ZhM : Code := (Code.block 1 (Code.region 3 #[{ dst := some 8, op := Op.load 31 (Operand.tmp 2), type := 31, pos := "iter.go:52", after := #[], guard := none }, { dst := some 9, op := Op.load 42 (Operand.tmp 5), type := 42, pos := "iter.go:52", after := #[], guard := none }, { dst := some 10, op := Op.buildSlice 31 1 #[(0, Operand.tmp 9)], type := 31, pos := "iter.go:52", after := #[{ on := 1, ground := Ground.data }], guard := none }, { dst := some 11, op := Op.call { callee := Callee.builtin Builtin.append, args := #[Operand.tmp 8, Operand.tmp 10], argTypes := #[31, 31] }, type := 31, pos := "iter.go:52", after := #[{ on := 0, ground := Ground.data }, { on := 2, ground := Ground.data }], guard := none }, { dst := none, op := Op.store 31 (Operand.tmp 2) (Operand.tmp 11), type := 0, pos := "iter.go:52", after := #[{ on := 3, ground := Ground.data }, { on := 3, ground := Ground.chain }, { on := 0, ground := Ground.phase }, { on := 1, ground := Ground.phase }, { on := 2, ground := Ground.phase }, { on := 3, ground := Ground.phase }], guard := none }] false))
def kcApRec (fn:FuncId) (sv:Value) (Bs D:Nat) (st:LoopState) (pend:Option Code):Loop:=
 { state:=st,pending:=pend,fn,tmps:=#[.slice none 0 0,sv,.pointer (some ⟨Bs,0,none⟩),undef,.slice none 0 0,undef,sv,undef,undef,undef,undef,undef,undef],params:=#[7],assign:=Zeo,body:=ZhM,defers:=D }
structure ZgY (w0:World) (fn:FuncId) (sv:Value) (Bs l D:Nat) (ss:List Zg) (W:World):Prop where
 box:∃ v,W.heap[Bs]? = some (.cells #[v] 31 (0,0))∧W.ownsRow w0.heap.size 42 4 v ss.length (ss.flatMap Zqm)∧(v = .slice none 0 0 ↔ ss = [])
 L:W.heap[l]? = some (.loop (kcApRec fn sv Bs D .ready none))
 K:W.heap[D]? = some (.deferred (some []))
 below:Below w0.heap.size w0 W
theorem Zfl (w0:World) (fn:FuncId) (sv:Value) (Bs l D B:Nat) (V:w0.heap.size≤B):AbidesFrom B (ZgY w0 fn sv Bs l D):=fun s W W' row h hg hrow=>by
 have hrow':∀ r,row=some r → ∃ o:Obj,W.heap[r]? = some o∧o.isWalk=true:=fun r e=>(hrow r e).2
 obtain ⟨v,hv,hr,hn⟩:=h.box
 exact ⟨⟨v,(grownBy_keeps hg hrow' hv rfl).trans hv,ownsRow_abides_a hr hg hrow',hn⟩,(grownBy_keeps hg hrow' h.L rfl).trans h.L,(grownBy_keeps hg hrow' h.K rfl).trans h.K,
  h.below.grown hg h.below.size (fun k e=>Y0 V (hrow k e).1)⟩
set_option maxRecDepth 100000 in
set_option maxHeartbeats 2000000 in
theorem Zny (F:Fence) (m:Nat) (w0:World) (fn:FuncId) (hfn:F.fn fn) (sv:Value) (Bs l D:Nat) (hBl:Bs≠l) (hDl:D≠l) (hDB:D≠Bs) (h0B:w0.heap.size≤Bs) (h0l:w0.heap.size≤l)
  (N:Nat) (hN:N≤maxLen) (hNb:N*32≤140737488355328) (ss:List Zg) (x:Zg) (W:World) (h:ZgY w0 fn sv Bs l D ss W) (hlen:ss.length<N) :
  YieldAt F m prog l #[(.agg #[.int .i64 x.src,.int .i64 x.dst,.int .i64 x.kind,.int .i64 x.key])] W fun e W'=>e = .returned (.bool true)∧ZgY w0 fn sv Bs l D (ss ++ [x]) W' ∧ KeepsWalks W W':=by
 have hne:31≠42:=by decide
 obtain ⟨i0,hi,hz0,hz1,hz2⟩:=info_parts (show (prog.info? 42).map (fun i=>(i.zero,i.size,i.bytes))=some (some (.agg #[.int .i64 0,.int .i64 0,.int .i64 0,.int .i64 0]),4,32) from by kernel_rfl)
 obtain ⟨v,hv,hrow,_⟩:=h.box
 refine ⟨fn,#[.slice none 0 0,sv,.pointer (some ⟨Bs,0,none⟩),undef,.slice none 0 0,undef,sv,(.agg #[.int .i64 x.src,.int .i64 x.dst,.int .i64 x.kind,.int .i64 x.key]),undef,undef,undef,undef,undef],Zeo,ZhM,by simpa [kcApRec] using run_yield (P:=prog) (args:=#[(.agg #[.int .i64 x.src,.int .i64 x.dst,.int .i64 x.kind,.int .i64 x.key])]) h.L rfl,roundIn_of_wpIn hfn ?_⟩
 have hb9:ZgY w0 fn sv Bs l D ss (W.alloc (.cells #[.int .i64 x.src,.int .i64 x.dst,.int .i64 x.kind,.int .i64 x.key] 42)):=Zfl w0 fn sv Bs l D w0.heap.size (YN _) ss W _ none h (World.grownBy_alloc W _ none) (fun r e=>by cases e)
 obtain ⟨v,hv,hrow,_⟩:=hb9.box
 have hl:l<(W.alloc (.cells #[.int .i64 x.src,.int .i64 x.dst,.int .i64 x.kind,.int .i64 x.key] 42)).heap.size:=(YW.1 hb9.L).1
 have hbr:=run_beginRound (P:=prog) hb9.L rfl
 obtain ⟨W2,hW2⟩:∃ W2,(W.alloc (.cells #[.int .i64 x.src,.int .i64 x.dst,.int .i64 x.kind,.int .i64 x.key] 42)).putObj l (.loop { kcApRec fn sv Bs D .ready none with state:=.busy })=W2:=⟨_,rfl⟩
 rw [hW2] at hbr
 have hg2:(W.alloc (.cells #[.int .i64 x.src,.int .i64 x.dst,.int .i64 x.kind,.int .i64 x.key] 42)).grownBy W2 (some l):=by rw [← hW2];exact grownBy_putObj_a _ _ _
 have hk2:KeepsWalks (W.alloc (.cells #[.int .i64 x.src,.int .i64 x.dst,.int .i64 x.kind,.int .i64 x.key] 42)) W2:=by rw [← hW2];exact KeepsWalks.putObj _ hb9.L rfl
 have hv2:W2.heap[Bs]? = some (.cells #[v] 31 (0,0)):=by rw [← hW2];exact (World.putObj_heap_other hBl).trans hv
 have hK2:W2.heap[D]? = some (.deferred (some [])):=by rw [← hW2];exact (World.putObj_heap_other hDl).trans hb9.K
 have hL2:W2.heap[l]? = some (.loop { kcApRec fn sv Bs D .ready none with state:=.busy }):=by rw [← hW2];exact World.putObj_heap_same hl
 have hrow2:W2.ownsRow w0.heap.size 42 4 v ss.length (ss.flatMap Zqm):=hrow.kept hg2 (ownsRow_ne_a hrow hb9.L (fun cur e=>by first | cases e | exact hne (YbJ e).2.1))
 have hb2:Below w0.heap.size w0 W2:=hb9.below.grown hg2 hb9.below.size (fun k e=>by cases e;exact h0l)
 obtain ⟨hc2,hf2⟩:=cell_of_box_a hv2
 have hBlt:Bs<W2.heap.size:=(YW.1 hv2).1
 have hl2:l<W2.heap.size:=(YW.1 hL2).1
 have hDlt:D<W2.heap.size:=(YW.1 hK2).1
 have ne_of:∀ {j:Nat} {o:Obj},W2.heap[j]? = some o→(∀ cur,o ≠ .cells cur 42 (0,0))→some j≠v.ownBlock:=fun hj hno=>by
  rcases ownsRow_ne_a hrow2 hj hno with e | e
  ·rw [e];simp
  ·exact fun e'=>e e'.symm
 have hx2:W2.heap[W.heap.size]? = some (.cells #[.int .i64 x.src,.int .i64 x.dst,.int .i64 x.kind,.int .i64 x.key] 42 (0,0)):=by rw [← hW2];exact (World.putObj_heap_other (by have:=(YW.1 h.L).1;omega)).trans (World.alloc_heap_new W _)
 have cb0:W2.cell? ⟨W.heap.size,0,none⟩ = some _:=(Z0 hx2 _).trans rfl
 have cb1:W2.cell? ⟨W.heap.size,1,none⟩ = some _:=(Z0 hx2 _).trans rfl
 have cb2:W2.cell? ⟨W.heap.size,2,none⟩ = some _:=(Z0 hx2 _).trans rfl
 have cb3:W2.cell? ⟨W.heap.size,3,none⟩ = some _:=(Z0 hx2 _).trans rfl
 clear hW2
 unfold Zeo
 gi_wp2_with gi_round_op_a
 unfold ZhM
 gi_wp2_with (first
  | (gi_at_builtin;refine wpListIn_append_own _ rfl _ _ 31 rfl w0.heap.size 42 i0 (.agg #[.int .i64 0,.int .i64 0,.int .i64 0,.int .i64 0]) 4 32 underlying31 hi hz0 hz1 hz2 rfl (by decide) _ _ _ rfl (hrow2.alloc _) ⟨W2.heap.size,0,none⟩ 1 1 ([.int .i64 x.src,.int .i64 x.dst,.int .i64 x.kind,.int .i64 x.key]) rfl rfl (Zpz _ _ _) (Zqy x) ow ow (by have:=hb2.size;simp;omega) ?_;intro v' w3 hown' hg3 hnil3
     have hv3:w3.heap[Bs]? = some (.cells #[v] 31 (0,0)):=(hg3.block Bs (by simp;omega) (ne_of hv2 (fun cur e=>by first | cases e | exact hne (YbJ e).2.1))).trans ((Below.heap_alloc _ _ Bs hBlt).trans hv2)
     obtain ⟨hc3,hf3⟩:=cell_of_box_a hv3
     obtain ⟨g',cap',cur',rfl,hbase',hgb',hr1,hr2,hr3,hr4⟩:∃ g' cap' cur',v' = .slice (some ⟨g',0,none⟩) (ss.length+1) cap' ∧ w0.heap.size≤g' ∧ w3.heap[g']? = some (.cells cur' 42 (0,0))∧ss.length+1≤cap' ∧ cap' ≤ maxLen∧cur'.size=cap' * 4∧cur'.toList.take ((ss.length+1)*4)=ss.flatMap Zqm ++ [.int .i64 x.src,.int .i64 x.dst,.int .i64 x.kind,.int .i64 x.key]:=by
      rcases hown'.2 with ⟨_,h0⟩ | h'
      ·exact absurd h0 ow
      ·exact h'
     go_frame)
  | gi_round_op_a)
 have hg3':(W2.alloc (.cells ([.int .i64 x.src,.int .i64 x.dst,.int .i64 x.kind,.int .i64 x.key]).toArray 42)).grownBy w3 v.ownBlock:=hg3
 have hL3:w3.heap[l]? = some (.loop { kcApRec fn sv Bs D .ready none with state:=.busy }):=(hg3'.block l (by simp;omega) (ne_of hL2 (fun cur e=>by first | cases e | exact hne (YbJ e).2.1))).trans ((Below.heap_alloc _ _ l hl2).trans hL2)
 have hK3:w3.heap[D]? = some (.deferred (some [])):=(hg3'.block D (by simp;omega) (ne_of hK2 (fun cur e=>by first | cases e | exact hne (YbJ e).2.1))).trans ((Below.heap_alloc _ _ D hDlt).trans hK2)
 obtain ⟨w4,hw4⟩:∃ w4,w3.setCell ⟨Bs,0,none⟩ (.slice (some ⟨g',0,none⟩) (ss.length+1) cap')=w4:=⟨_,rfl⟩
 rw [hw4]
 have hg4:w3.grownBy w4 (some Bs):=by rw [← hw4];exact grownBy_setCell0_a _ _ _
 have hv4:w4.heap[Bs]? = some (.cells #[.slice (some ⟨g',0,none⟩) (ss.length+1) cap'] 31 (0,0)):=by rw [← hw4];exact heap_setCell_box_a _ hv3
 have hL4:w4.heap[l]? = some (.loop { kcApRec fn sv Bs D .ready none with state:=.busy }):=(hg4.block l (YW.1 hL3).1 (fun e=>hBl (by cases e;rfl))).trans hL3
 have hK4:w4.heap[D]? = some (.deferred (some [])):=(hg4.block D (YW.1 hK3).1 (fun e=>hDB (by cases e;rfl))).trans hK3
 have hrow4:=hown'.kept hg4 (ownsRow_ne_a hown' hv3 (fun cur e=>by first | cases e | exact hne (YbJ e).2.1))
 have hl4:l<w4.heap.size:=(YW.1 hL4).1
 have hb3:Below w0.heap.size w0 w3:=(hb2.alloc hb2.size _).grown hg3' (by have:=hb2.size;simp;omega) (fun k e=>(hrow2.lt k e).1)
 have hb4:Below w0.heap.size w0 w4:=hb3.grown hg4 hb3.size (fun k e=>by cases e;exact h0B)
 have hk4:KeepsWalks (W.alloc (.cells #[.int .i64 x.src,.int .i64 x.dst,.int .i64 x.kind,.int .i64 x.key] 42)) w4:=((hk2.trans (KeepsWalks.alloc _ _)).trans (KeepsWalks.of_grownBy hg3' (ownsRow_not_walk_a (hrow2.alloc _)))).trans (by rw [← hw4];exact KeepsWalks.setCell _ _ _)
 clear hw4
 refine ⟨_,_,run_endRound none hL4,rfl,⟨⟨_,(World.putObj_heap_other hBl).trans hv4,?_,by simp⟩,World.putObj_heap_same hl4,(World.putObj_heap_other hDl).trans hK4,hb4.grown (grownBy_putObj_a _ _ _) hb4.size (fun k e=>by cases e;exact h0l)⟩,((KeepsWalks.alloc _ _).trans hk4).trans (KeepsWalks.putObj _ hL4 rfl)⟩
 have:=hrow4.kept (grownBy_putObj_a w4 l (.loop { { kcApRec fn sv Bs D .ready none with state:=.busy } with state:=if (none:Option Code).isNone then .ready else .done,pending:=none })) (ownsRow_ne_a hrow4 hL4 (fun cur e=>by first | cases e | exact hne (YbJ e).2.1))
 rw [YV,show [x].flatMap Zqm = [.int .i64 x.src,.int .i64 x.dst,.int .i64 x.kind,.int .i64 x.key] from rfl,Yd]
 simpa using this
set_option maxRecDepth 100000 in
set_option maxHeartbeats 2000000 in
theorem Zgy (F:Fence) (n:Nat) (h11:F.fn 176) (hro:F.round=none) (hn:2≤n) (g:Nat) (lb:Array Value) (hFg:F.fn g) (eg:∀ args w,(callFunc g args).run prog w = .ok (.enter g args) w)
  (S:List Zg→Prop) (N:Nat) (hN:N≤maxLen) (hNb:N*32≤140737488355328) (w:World) (hseq:SeqGives F (n - 1) prog g lb Zlk S N w) :
  CallsIn F n prog 176 #[.slice none 0 0,.func (.func g) #[] lb] w fun e w'=>∃ (v:Value) (ss:List Zg),e = .returned v∧S ss∧w'.ownsRow w.heap.size 42 4 v ss.length (ss.flatMap Zqm)∧(v = .slice none 0 0 ↔ ss = [])∧Below w.heap.size w w':=by
 have h1:1≤n:=by omega
 have hne:31≠42:=by decide
 refine callsIn_of_wp_marks func176 rfl h11 ?_ hro
 simp only [ntmps176,YaC,Yl,Yy,Nat.reduceAdd,Nat.reduceSub,Array.replicate_succ,Array.replicate_zero,List.push_toArray,List.append_toArray,Yaw,Yak]
 gi_wp2
 refine wpIn_rangeFunc ?_
 intro fn hfn
 rw [hro]
 obtain ⟨W0,hW0⟩:∃ W0,w.alloc (.cells #[.slice none 0 0] 31)=W0:=⟨_,rfl⟩
 have hs0:W0.heap.size=w.heap.size+1:=by rw [← hW0];simp
 have hv0:W0.heap[w.heap.size]? = some (.cells #[.slice none 0 0] 31 (0,0)):=by rw [← hW0];exact World.alloc_heap_new w _
 have hb0:Below w.heap.size w W0:=by rw [← hW0];exact (Below.refl _ w).alloc (YN _) _
 rw [hW0]
 obtain ⟨W1,hW1⟩:∃ W1,(W0.alloc (.deferred (some []))).alloc (.loop (kcApRec fn (.func (.func g) #[] lb) w.heap.size W0.heap.size .ready none))=W1:=⟨_,rfl⟩
 have hold:∀ k,k<W0.heap.size→W1.heap[k]? = W0.heap[k]?:=fun k hk=>by
  rw [← hW1];exact (Below.heap_alloc _ _ k (by simp;omega)).trans (Below.heap_alloc _ _ k hk)
 have hb1:Below w.heap.size w W1:=by rw [← hW1];exact (hb0.alloc hb0.size _).alloc (by have:=hb0.size;simp;omega) _
 have hs1:W1.heap.size=W0.heap.size+2:=by rw [← hW1];simp
 have hM:ZgY w fn (.func (.func g) #[] lb) w.heap.size (W0.heap.size+1) W0.heap.size [] W1:=
  ⟨⟨_,(hold w.heap.size ow).trans hv0,⟨rfl,.inl ⟨rfl,rfl⟩⟩,by simp⟩,
   by rw [← hW1];have:=World.alloc_heap_new (W0.alloc (.deferred (some []))) (.loop (kcApRec fn (.func (.func g) #[] lb) w.heap.size W0.heap.size .ready none));rwa [World.size_alloc] at this,
   by rw [← hW1];exact (Below.heap_alloc _ _ _ (by simp)).trans (World.alloc_heap_new W0 _),hb1⟩
 refine ⟨W0.heap.size+1,[{ target:=.collected W0.heap.size,args:=#[] }],W1,{ target:=.fn (.func g) lb,args:=#[.func (.yield (W0.heap.size+1)) #[] #[]] },W1,g,
  #[.func (.yield (W0.heap.size+1)) #[] #[]] ++ lb,W1,?_,?_,?_,?_,fun _=>h1,?_⟩
 ·rw [← hW1];exact run_enterLoop_outer _ _ _ _ _
 ·simp [resolve,go_sem]
 ·intro f' hf';simp [Target.leads] at hf';subst hf';exact hFg
 ·simp [invoke,go_sem,eg]
 ·refine (hseq (W0.heap.size+1) (ZgY w fn (.func (.func g) #[] lb) w.heap.size (W0.heap.size+1) W0.heap.size) W1 hb1 (Zfl _ _ _ _ _ _ _ hb1.size)
    (fun pre x W hJ hl=>Zny F (n - 1 - 1) w fn hfn _ w.heap.size (W0.heap.size+1) W0.heap.size ow ow ow (YN _) ow N hN hNb pre x W hJ hl) hM).mono ?_
  rintro e W2 ⟨⟨v0,rfl⟩,ss,G,h2⟩
  obtain ⟨v,hv,hrow,hnil⟩:=h2.box
  have hend:=run_endLoop (P:=prog) h2.L (by simp [kcApRec])
  obtain ⟨W3,hW3⟩:∃ W3,W2.putObj (W0.heap.size+1) (.loop { kcApRec fn (.func (.func g) #[] lb) w.heap.size W0.heap.size .ready none with state:=.exhausted })=W3:=⟨_,rfl⟩
  rw [hW3] at hend
  have hg3:W2.grownBy W3 (some (W0.heap.size+1)):=by rw [← hW3];exact grownBy_putObj_a _ _ _
  have hv3:W3.heap[w.heap.size]? = some (.cells #[v] 31 (0,0)):=by rw [← hW3];exact (World.putObj_heap_other ow).trans hv
  have hK3:W3.heap[W0.heap.size]? = some (.deferred (some [])):=by rw [← hW3];exact (World.putObj_heap_other ow).trans h2.K
  have hrow3:=hrow.kept hg3 (ownsRow_ne_a hrow h2.L (fun cur e=>by first | cases e | exact hne (YbJ e).2.1))
  have hb3:Below w.heap.size w W3:=h2.below.grown hg3 h2.below.size (fun k e=>by cases e;omega)
  obtain ⟨hc3,hf3⟩:=cell_of_box_a hv3
  clear hW3
  refine ⟨none,W3,hend,?_⟩
  gi_wp2
  rw [← hs0]
  refine ⟨by simp,.inl ⟨_,_,rfl,run_takeDeferred hK3,?_⟩⟩
  exact ⟨_,results_tmp rfl _ _ _,v,ss,rfl,G,hrow3.kept (grownBy_putObj_a _ _ _) (ownsRow_ne_a hrow3 hK3 (fun cur e=>by first | cases e | exact hne (YbJ e).2.1)),hnil,hb3.grown (grownBy_putObj_a _ _ _) hb3.size (fun k e=>by cases e;omega)⟩
set_option maxHeartbeats 1000000 in
theorem Zjf (F:Fence) (n:Nat) (h8:F.fn 133) (h11:F.fn 176) (hro:F.round=none) (hn:3≤n) (g:Nat) (lb:Array Value) (hFg:F.fn g) (eg:∀ args w,(callFunc g args).run prog w = .ok (.enter g args) w)
  (S:List Zg→Prop) (N:Nat) (hN:N≤maxLen) (hNb:N*32≤140737488355328) (w:World) (hseq:SeqGives F (n - 1 - 1) prog g lb Zlk S N w) :
  CallsIn F n prog 133 #[.func (.func g) #[] lb] w fun e w'=>∃ (v:Value) (ss:List Zg),e = .returned v∧S ss∧w'.ownsRow w.heap.size 42 4 v ss.length (ss.flatMap Zqm)∧(v = .slice none 0 0 ↔ ss = [])∧Below w.heap.size w w':=by
 have h1:1≤n:=by omega
 have e11:∀ args w,(callFunc 176 args).run prog w = .ok (.enter 176 args) w:=enters_of func176 kr rfl
 refine callsIn_of_wp func133 rfl h8 ?_ hro
 simp only [ntmps133,YaC,Yl,Yy,Nat.reduceAdd,Nat.reduceSub,Array.replicate_succ,Array.replicate_zero,List.push_toArray,List.append_toArray,Yaw,Yak]
 gi_wp2_with (gi_at_fn 176;refine (Zgy F (n - 1) h11 hro ow g lb hFg eg S N hN hNb _ hseq).mono ?_;rintro e w' ⟨v,ss,rfl,G,hrow,hnil,hb⟩)
 go_ret
 exact ⟨v,ss,rfl,G,hrow,hnil,hb⟩
end Go.Proofs.YtlkpllemoepamaaGreat
namespace Go.Proofs.YtlkpllemoepamaaGreat
open Go Go.Gm Tryz
set_option linter.unusedVariables false
set_option linter.unusedSimpArgs false
set_option maxHeartbeats 4000000
set_option maxRecDepth 8000
open Go.RowKit Go.Maps Go.Sort Go.Shelf Go.ChangeMaps Go.MapKept
theorem Zq0 {α:Type} {enc:α→Value} {dec:Value→α} (h:∀ x,dec (enc x)=x) {l m:List α} (hp:(l.map enc).Perm (m.map enc)):l.Perm m:=by
 have h1:=hp.map dec
 rw [Ybs,Ybs] at h1
 have e:dec ∘ enc=id:=by funext x;exact h x
 rwa [e,List.map_id,List.map_id] at h1
theorem Zke {ν:Type} (ek:ν→PV) (mv:Value) (es:List (GE Zg ν)) (ck:Nat) (hN:es.length≤1000000000):FnG prog 133 2 [.clos 177 [.ref [.is mv]]] [ZbP ek (fun k=>∀ x ∈ Zat k,inR .i64 x) (kvS Zat) es ck mv,.star []] PV.one (fun v=>[ZbP ek (fun k=>∀ x ∈ Zat k,inR .i64 x) (kvS Zat) es ck mv,.ex fun l:List Zg=>.and (l.Perm (es.map (·.key))) (Zu 42 4 Zs l v)]):=fun w F vs hw hle hvs hpr=>by
 match vs,hvs with
 | [fv],hvs=>
  obtain ⟨caps,hfv,hcaps⟩:=hvs.1
  match caps,hcaps with
  | [cu],hcaps=>
   obtain ⟨Bm,off,us,hcu,hny,hBm,hc,hus⟩:=hcaps.1
   match us,hus with
   | [mu],hus=>
    have hmu:mu=mv:=hus.1.2.1
    subst hmu
    subst hcu
    subst hfv
    obtain ⟨b,rs,hmv,hb,hg,⟨hwf,hkeys⟩,hf⟩:=hpr 0 _ rfl
    have hst:∀ c,¬ F 2 c:=hpr 1 _ rfl
    subst hmv
    have hbl:b<w.heap.size:=(YW.1 hb).1
    have hm:w.cell? ⟨Bm,off,none⟩ = some (.map (some b)):=hc.1
    have hkm:rs.map (·.key)=es.map (·.key):=hg.keys
    have hbm:rs.map (·.born)=es.map (·.born):=hg.borns
    have hnd:(((rs.map (rEnc (kvS Zat))).toArray).toList.map (·.born)).Nodup:=by
     have e1:((rs.map (rEnc (kvS Zat))).toArray).toList.map (·.born)=rs.map (·.born):=by rw [Ybs];rfl
     rw [e1,hbm];exact hwf.1
    have hold:∀ x ∈ ((rs.map (rEnc (kvS Zat))).toArray).toList,x.born<ck:=fun x hx=>by
     obtain ⟨r,hr,rfl⟩:=Yw.1 hx
     have h1:r.born ∈ es.map (·.born):=hbm ▸ Yw.2 ⟨r,hr,rfl⟩
     obtain ⟨e,he,e1⟩:=Yw.1 h1
     show r.born<ck
     rw [← e1];exact hwf.2 e he
    have hkv:∀ x ∈ ((rs.map (rEnc (kvS Zat))).toArray).toList,∃ k:Zg,x.key=Zlk k:=fun x hx=>by
     obtain ⟨r,_,rfl⟩:=Yw.1 hx
     exact ⟨r.key,rfl⟩
    have hlen:((rs.map (rEnc (kvS Zat))).toArray).size=es.length:=by
     have h1:=Y7 List.length hkm
     simp at h1 ⊢;exact h1
    have hseq:SeqGives Fence.wide 10 prog 177 #[.pointer (some ⟨Bm,off,none⟩)] Zlk (fun ss=>(ss.map Zlk).Perm (((rs.map (rEnc (kvS Zat))).toArray).toList.map (·.key))) ((rs.map (rEnc (kvS Zat))).toArray).size w:=fun l J W hW hJ hY h0=>
     Zs0 Fence.wide 10 trivial rfl ow l Bm off b ck _ hnd hold hkv J hY W hJ ((hW.cell (p:=⟨Bm,off,none⟩) hBm).trans hm) ((hW.block b hbl).trans hb) h0
    have eg:∀ args w,(callFunc 177 args).run prog w = .ok (.enter 177 args) w:=enters_of func177 kr rfl
    have hcalls:=callsIn_wide.1 (Zjf Fence.wide 12 trivial trivial rfl ow 177 #[.pointer (some ⟨Bm,off,none⟩)] trivial eg _ _ (by rw [hlen];unfold maxLen;omega) (by rw [hlen];omega) w hseq)
    refine hcalls.mono ?_
    rintro e w' ⟨v,ss,rfl,G,hrow,hnil,hbel⟩
    have hss:ss.Perm (es.map (·.key)):=by
     have e1:((rs.map (rEnc (kvS Zat))).toArray).toList.map (·.key)=(es.map (·.key)).map Zlk:=by
      rw [← hkm,Ybs,Ybs];rfl
     rw [e1] at G
     exact Zq0 ZqI G
    have hown:∀ c,v.ownBlock=some c→w.heap.size≤c∧c<w'.heap.size:=fun c hc9=>by
     rcases hrow.2 with ⟨rfl,_⟩ | ⟨g,cap,cur,rfl,hbase,hgb,_⟩
     ·simp [Value.ownBlock] at hc9
     ·simp [Value.ownBlock] at hc9
      subst hc9
      exact ⟨hbase,(YW.1 hgb).1⟩
    have hrow0:w'.ownsRow 0 42 4 v ss.length (ss.flatMap Zqm):=⟨hrow.1,by
     rcases hrow.2 with h | ⟨g,cap,cur,h1,_,h3⟩
     ·exact .inl h
     ·exact .inr ⟨g,cap,cur,h1,Yx _,h3⟩⟩
    have hst2:Stp (List.range' 1 2) w F w' (fun n c=>F n c∨(n=2∧v.ownBlock=some c)):=⟨hbel.os,hbel.tape,hbel.output,hbel.size,fun c hc9 _=>hbel.block c hc9,fun n hn=>by
      funext c
      have:n≠2:=fun e=>hn (by subst e;simp)
      simp [this],fun n hn c hc9=>by
      rcases hc9 with h | ⟨_,h⟩
      ·exact .inl ⟨n,hn,h⟩
      ·exact .inr (hown c h).1⟩
    refine ⟨v,_,rfl,⟨fun n m c h1 h2=>?_,fun n c h1=>?_⟩,hst2,fun n c h1=>?_,?_,fun i h hi=>?_⟩
    ·rcases h1 with h1 | ⟨h1,h1'⟩ <;> rcases h2 with h2 | ⟨h2,h2'⟩
     ·exact hw.dis n m c h1 h2
     ·have:=hw.bd n c h1;have:=(hown c h2').1;omega
     ·have:=hw.bd m c h2;have:=(hown c h1').1;omega
     ·omega
    ·rcases h1 with h1 | ⟨_,h1⟩
     ·have:=hw.bd n c h1;have:=hbel.size;omega
     ·exact (hown c h1).2
    ·rcases h1 with h1 | ⟨h1,_⟩
     ·exact hle n c h1
     ·omega
    ·show v.oneCell' = true
     rcases hrow.2 with ⟨rfl,_⟩ | ⟨g,cap,cur,rfl,_⟩ <;> rfl
    ·match i,hi with
     | 0,hi=>
      simp only [YbF,Y8] at hi
      subst hi
      exact ⟨b,rs,rfl,(hbel.block b hbl).trans hb,hg.mono hst2.ev,⟨hwf,hkeys⟩,fun c=>by rw [← hf c];simp⟩
     | 1,hi=>
      simp only [List.getElem?_cons_succ,YbF,Y8] at hi
      subst hi
      refine ⟨ss,hss,ss.flatMap Zqm,hrow0,Zod fun x hx=>?_,fun c=>?_⟩
      ·obtain ⟨e,he,e1⟩:=Yw.1 (hss.mem_iff.1 hx)
       rw [← e1];exact hkeys e he
      ·have:=hst c
       simp [this]
end Go.Proofs.YtlkpllemoepamaaGreat
namespace Go.Proofs.YtlkpllemoepamaaGreat
open Go Go.Gm Tryz
set_option linter.unusedVariables false
set_option linter.unusedSimpArgs false
set_option maxHeartbeats 4000000
set_option maxRecDepth 8000
theorem Zs7 (mv:Value):FnP prog 134 [.is mv] (.clos 177 [.ref [.is mv]]):=by
 refine FnP.mk func134 rfl ntmps134 rfl fun B a w F V hfr G=>Ya ?_
 refine Zb G (qf (ZfF 101 .t one_is) r1 qz (qC qZ)) V [2,1] [101,0] (fun _=>rfl) (fun _=>rfl) fun τ a w F G=>?_
 try dsimp only [RS.sub,SF.sub,CF.sub,csub,Anc.sub,List.map,zCF,Zx,rTx,ZJ,ZW,Zn,rOp] at G
 generalize τ 1=v1 at G
 obtain ⟨F,G⟩:=G.giveRef 101 1 rfl rfl rfl
 obtain ⟨F,G⟩:=G.nM [2,1] [0]
 try dsimp only [Go.Gm.unCF] at G
 refine Za (Ya (rZ G (qf (ZaK (Args.one .t)) r1 qz (qO rr qZ)) V [2] [0] fun G=>Yh ?_))
 refine Zr hfr G rfl rfl rfl .refl
theorem Zf1 (l:List Zg):(ZbK ltE l).length≤l.length:=by
 have key:∀ (l acc:List Zg),(l.foldl (ZmC ltE) acc).length≤acc.length+l.length:=by
  intro l
  induction l with
  | nil=>intro acc;simp
  | cons e l ih=>
   intro acc
   rw [Yan,Yl]
   have h1:=ih (ZmC ltE acc e)
   have h2:(ZmC ltE acc e).length≤acc.length+1:=Zjn ltE e acc false
   omega
 have:=key l []
 unfold ZbK
 simpa using this
theorem ZuJ (mv:Value) (AA:List (Zg×Int)) (RR:List Zg) (hAR:AA.length+RR.length≤1000000):FnG prog 77 1 [.is mv] [Zgh AA RR mv] (.sl rHv (Zg2 AA RR)) (fun _=>[Zgh AA RR mv]):=by
 refine FnG.mk func77 rfl ntmps77 rfl kr fun B F0 a w F V hG G=>?_
 obtain ⟨⟨es,ck⟩,G⟩:=G.open_ex 1 rfl
 obtain ⟨hE,G⟩:=G.open_and 1 rfl
 replace G:=G.turn 1 rfl (r':=.ob (.val mv) (ZbP (fun n:Int=>PV.int .i64 n) (fun k=>∀ x ∈ Zat k,inR .i64 x) (kvS Zat) es ck)) (fun _ _ _ _ h=>h)
 try dsimp only at hE
 obtain ⟨F,G⟩:=G.nM [0] [1,0]
 refine Ya (rZ G (qC qZ) V [2,0] [1,0] fun G=>Ya ?_)
 refine rZ G (qC qZ) V [3,2,0] [1,0] fun G=>(Ya (Ya ?_))
 replace G:=G.fresh 60 rfl
 replace G:=G.turn 1 rfl (r':=RS.hp (ZbP (fun n:Int=>PV.int .i64 n) (fun k=>∀ x ∈ Zat k,inR .i64 x) (kvS Zat) es ck mv)) (fun _ _ _ _ h=>h)
 obtain ⟨F,G⟩:=G.nM [3,2,0] [60,1,0]
 refine Zap 3 G kr (cG rfl (oM .t) r1 trivial (cG rfl (oP (Zs7 mv) func134 (Args.one .t)) r1 trivial (cG rfl (Zot 1 60 (Zke (fun n:Int=>PV.int .i64 n) mv es ck (by have:=hE.len;omega)) func133 rfl kr rfl (Args.one .t) pvOne1) r1 r2 ChainN.nil))) kr (by rw [V];kernel_rfl) fun a w F G=>?_
 replace G:=G.sub
 obtain ⟨F,G⟩:=G.nM [8,3,2,0] [60,1,0]
 try dsimp only [RS.sub,SF.sub,CF.sub,csub,Anc.sub,List.map,Zx,rTx,ZJ,ZW,Zn,rOp,Zs,rHv] at G
 generalize Act.tau a 8=v8 at G
 replace G:=G.turn 60 rfl (r':=RS.hp (HP.ex fun l:List Zg=>HP.and (l.Perm (es.map fun z:GE Zg Int=>z.key)) (Zu 42 4 Zs l v8))) (fun _ _ _ _ h=>h)
 obtain ⟨ks,G⟩:=G.open_ex 60 rfl
 obtain ⟨hks,G⟩:=G.open_and 60 rfl
 replace G:=G.turn 60 rfl (r':=.ob (.val v8) (Zu 42 4 Zs ks)) (fun _ _ _ _ h=>h)
 have hkl:ks.length≤1000000:=by have h1:=hks.length_eq;have h2:=hE.len;rw [YH] at h1;omega
 replace G:=G.turn 1 rfl (r':=.ob (.val mv) (ZbP (fun n:Int=>PV.int .i64 n) (fun k=>∀ x ∈ Zat k,inR .i64 x) (kvS Zat) es ck)) (fun _ _ _ _ h=>h)
 obtain ⟨F,G⟩:=G.give 60 8 rfl rfl
 obtain ⟨F,G⟩:=G.nM [8,3,2,0] [1,0]
 refine ZaJ G kr (cG rfl (oP (Zqr ks hkl) func132 (Args.one .t)) r1 trivial (cG rfl (Zdh underlying31 .t) r1 trivial (cG rfl (oM (.ci kr)) trivial trivial ChainN.nil))) kr (by rw [V];kernel_rfl) fun a w F G=>?_
 obtain ⟨F,G⟩:=G.nM [11,10,9,3,2,0] [1,0]
 try dsimp only [Zx,rTx,ZJ,ZW,Zn,rOp,Zs,rHv] at G
 rw [ZfJ hE hks] at G
 have hkn:(ZbK ltE (Zgv AA RR)).length≤1000000:=by rw [← ZfJ hE hks];exact Y0 (Zf1 ks) hkl
 refine Za (Yg ?_)
 replace G:=G.fresh 50 rfl
 replace G:=G.turn 50 rfl (ZaD (T:=125) (sz:=5) (R:=rHv))
 refine Zk (σ:=(Nat)×(Value)×(List HvD)) [0,2,9,10] [0,1] (fun s=>[(11,.pv (.int .i64 (s.1:Int))),(3,.pv (.is s.2.1))]) (fun s=>[(50,.ob (.val s.2.1) (Zu 125 5 rHv s.2.2))]) (fun s=>s.1≤(ZbK ltE (Zgv AA RR)).length∧(s.2.2=((ZbK ltE (Zgv AA RR)).take s.1).map fun e=>(⟨e,cntA AA RR e⟩:HvD))) (fun s=>(ZbK ltE (Zgv AA RR)).length - s.1) ((0),(.slice none 0 0),([])) G ⟨rfl,rfl,rfl,rfl,rfl,rfl,tv⟩ ⟨rfl,rfl,rfl,tv⟩ ⟨Yx _,rfl⟩ ?_
 clear G;intro s a w F hC G
 obtain ⟨i,v,out⟩:=s
 try dsimp only at hC
 obtain ⟨F,G⟩:=G.nM [11,10,9,3,2,0] [50,1,0]
 try dsimp only at G
 obtain ⟨hi,hq⟩:=hC
 have hol:out.length≤i:=by rw [hq,YH,Yi];omega
 refine Ya (rZ G (qL r2) V [12,11,10,9,3,2,0] [50,1,0] fun G=>Ya ?_)
 refine Zc G rfl (fun hc0=>?_) (fun hc0=>?_)
 ·have hil:i<(ZbK ltE (Zgv AA RR)).length:=by simp at hc0;omega
  refine Ye (Za (Ya (Yg (Ya (Zb G (qy 4 underlying31 r2 (qf (oR true 4 .t) r1 qz (qf (oH [.int .i64 0,.int .i64 0,.int .i64 0,.int .i64 0] 101) trivial qz (qS 4 101 r2 r1 qZ)))) V [11,10,9,5,3,2,0] [101,50,1,0] (fun _=>rfl) (fun _=>rfl) fun τ a w F G=>?_)))))
  try dsimp only [RS.sub,SF.sub,CF.sub,csub,Anc.sub,List.map,Zf,xL,xM,Nat.reduceAdd,xD,xE,xT,xU,xC,xN,zCF,ldSF,Zx,rTx,ZJ,ZW,Zn,rOp,Zs,rHv] at G
  generalize τ 5=v5 at G
  try simp only [Yb] at G
  refine Za (ZaP G (qR rr (qe 4 101 r1 r1 (qR rr (qe 4 101 r1 r1 (qf (Zas (ek:=(fun n:Int=>PV.int .i64 n)) (z0:=(0)) 1 underlying127 ZcZ kr (fun _ _=>⟨rfl,ZcY⟩) .is (ZM.agg (enc:=Zat) (k:=Nn (ZbK ltE (Zgv AA RR)) i) (.pagg .t) rfl)) r2 r1 (qf (oB [(0,.tmp 16),(1,.tmp 19)] [.int .i64 0,.int .i64 0,.int .i64 0,.int .i64 0,.int .i64 0] [(0,4),(4,1)] (.agg rfl .t kr kr (.one rfl .t one_int kr .nil))) r2 qz (qf (o_buildSliceE (sz:=5) (zs:=[.int .i64 0,.int .i64 0,.int .i64 0,.int .i64 0,.int .i64 0]) (r:=[(0,.tmp 20)]) (l:=[_,_,_,_,_]) underlying73 kr kr kr kr rfl rfl (.agg rfl .t kr kr .nil) rfl) r1 qz (qf (ZV (sz:=5) (bs:=40) 50 (.mk' underlying73 kr kr) (by intro x;rfl) .is (.arr (l':=[(⟨Nn (ZbK ltE (Zgv AA RR)) i,(gGet (Nn (ZbK ltE (Zgv AA RR)) i) es).getD 0⟩:HvD)]) .t) (by simp only [Yd,Yl,Yy];omega) (by decide)) ⟨rfl,rfl,tv⟩ ⟨rfl,tv⟩ (qO rr qZ))))))))) V [11,10,9,3,2,0] [101,50,1,0] (fun _=>rfl) (fun _=>rfl) fun τ a w F G=>?_)
  try dsimp only [RS.sub,SF.sub,CF.sub,csub,Anc.sub,List.map,Zf,xL,xM,Nat.reduceAdd,xD,xE,xT,xU,xC,xN,zCF,ldSF,Zx,rTx,ZJ,ZW,Zn,rOp,Zs,rHv] at G
  generalize τ 22=v22 at G
  refine Zh (Za (rZ G (qp r1 (qR rr qZ)) V [11,10,9,3,2,0] [101,50,1,0] fun G=>?_))
  replace G:=G.ent (i:=11) (s':=.pv (.int .i64 ((i+1:Nat):Int))) rfl (.int (Zd ow))
  obtain ⟨F,G⟩:=G.nM [10,9,2,0,3,11] [1,0,50]
  exact ⟨((i+1),_,_),F,⟨by omega,(by rw [Zp hil,YP,← hq,List.map_singleton];unfold cntA;rw [hE.val])⟩,G,by omega⟩
 have hil:i=(ZbK ltE (Zgv AA RR)).length:=by simp at hc0;omega
 refine Yv (Zi (Zi (Zo (Za (Ya (rZ G (qR rr (qO rr qZ)) V [2] [50,1,0] fun G=>Yh ?_))))))
 obtain ⟨F,G⟩:=G.give 50 2 rfl rfl
 have G:=G.turn 1 rfl (r':=RS.hp (Zgh AA RR mv)) (fun _ _ _ _ h=>⟨(es,ck),hE,h⟩)
 refine Zad hG G rfl (.tmp rfl .nil) (.one (.sl (by rw [hq,hil,Yz];rfl))) rfl
theorem ZrS (x:Int):FnP prog 79 [.int .i64 x] (.bool ((fun _=>true) x)):=by
 refine FnP.mk func79 rfl ntmps79 rfl fun B a w F V hfr G=>Ya ?_
 refine rZ G qB V [2] [0] fun G=>Ya ?_
 refine rZ G qB V [2] [0] fun G=>Yh ?_
 refine Zr hfr G rfl rfl rfl (.bool rfl)
theorem Zpg (g:Zw) (hsm:Zbs g) (hAR:(wwC (fun _=>true) g).length+(rdC (fun _=>true) g).length≤1000000):FnP prog 38 [.agg (Zx g)] (.sl rHv (Zg2 (wwC (fun _=>true) g) (rdC (fun _=>true) g))):=by
 refine FnP.mk func38 rfl ntmps38 rfl fun B a w F V hfr G=>Ya ?_
 refine Zb G (qx 101 r1 (qC qZ)) V [2,1] [101,0] (fun _=>rfl) (fun _=>rfl) fun τ a w F G=>?_
 try dsimp only [RS.sub,SF.sub,CF.sub,csub,Anc.sub,List.map,zCF,Zx,rTx,ZJ,ZW,Zn,rOp,rHv] at G
 generalize τ 1=v1 at G
 refine Za (Ya ?_)
 replace G:=G.fresh 102 rfl
 refine Zap 2 G kr (cG rfl (oL true 2 101 .is) r1 r1 (cG rfl (Zaq 102 (ZpI g hsm (fun _=>true) 79 f79 [] func79 rfl kr (fun x=>ZrS x)) func78 rfl kr (Args.two (.pagg .t) (.conv .f (Ent.fnClos))) pvOne1) r1 r1 ChainN.nil)) kr (by rw [V];kernel_rfl) fun a w F G=>?_
 replace G:=G.sub
 obtain ⟨F,G⟩:=G.nM [4,2] [102,101,0]
 try dsimp only [RS.sub,SF.sub,CF.sub,csub,Anc.sub,List.map,xD,xE,xT,xU,ldSF,Zx,rTx,ZJ,ZW,Zn,rOp,rHv] at G
 generalize Act.tau a 4=v4 at G
 replace G:=G.turn 102 rfl (r':=RS.hp (Zgh (wwC (fun _=>true) g) (rdC (fun _=>true) g) v4)) (fun _ _ _ _ h=>h)
 obtain ⟨F,G⟩:=G.nM [4,2] [102,101,0]
 refine ZaJ G kr (cG rfl (ZK 102 (ZuJ _ (wwC (fun _=>true) g) (rdC (fun _=>true) g) hAR) func77 rfl kr (Args.one .t)) r1 r1 (cG rfl (oN .t) r1 trivial ChainN.nil)) kr (by rw [V];kernel_rfl) fun a w F G=>?_
 obtain ⟨F,G⟩:=G.nM [2] [102,101,0]
 try dsimp only [Zx,rTx,ZJ,ZW,Zn,rOp,rHv] at G
 refine Za (Yh (Zr hfr G rfl rfl rfl .refl))
theorem ZsS (t u:TxD) (o:OpD) (phen:Int) (hu:u.ops.length≤1000):FnP prog 152 [.agg (rTx t),.agg (rTx u),.agg (rOp o),.int .i64 phen] (.bool (Zjz t u o phen)):=by
 refine FnP.mk func152 rfl ntmps152 rfl fun B a w F V hfr G=>Ya ?_
 refine Zb G (qx 101 r1 (qx 102 r1 (qx 103 r1 qB))) V [8,6,5,4,3] [103,102,101,0] (fun _=>rfl) (fun _=>rfl) fun τ a w F G=>?_
 try dsimp only [RS.sub,SF.sub,CF.sub,csub,Anc.sub,List.map,zCF,Zx,rTx,ZJ,ZW,Zn,rOp,Zic] at G
 generalize τ 4=v4 at G
 generalize τ 5=v5 at G
 generalize τ 6=v6 at G
 refine Za (Ya (Ya (rZ G (qR rr qZ) V [9,8,6,5,4] [103,102,101,0] fun G=>(Yg (Ya ?_)))))
 refine rZ G (qf (o_eql .t qi) r1 qz (qO rr qZ)) V [10,9,8,6,5,4] [103,102,101,0] fun G=>?_
 refine Zc G rfl (fun hc0=>?_) (fun hc0=>?_)
 ·have h2:phen=2:=by simpa using hc0
  refine Ya (rZ G (qg 1 101 r1 r1 (qa 101 r1 r1 (qR rr (qv 1 102 rfl r2 r1 (qw 102 rfl r2 r1 (qk rfl (fun h=>o_not (.w h)) r2 qz (qf (ZE .t .t) r2 qz (qO rr qZ)))))))) V [8] [103,102,101,0] fun G=>(Yh (Zz (Zl ?_))))
  refine Zr hfr G rfl rfl rfl (.bool (by unfold Zjz wcnt;first | (rw [Yf h2];done) | (rw [Yc h2,h3,Ya2];done) | (rw [Yc h2,h3];simp)))
 have h2:¬ phen=2:=by simpa using hc0
 refine Ya (rZ G (qf (o_eql .t qi) r1 qz (qO rr qZ)) V [19,8,6,5,4] [103,102,101,0] fun G=>?_)
 refine Zc G rfl (fun hc1=>?_) (fun hc1=>?_)
 ·have h3:decide (phen=3)=true:=hc1
  refine Ya (Zv G (qg 1 101 r1 r1 (qa 101 r1 r1 (qR rr (qv 3 103 rfl r2 r1 (qw 103 rfl r2 r1 (qk rfl (fun h=>oL true 3 102 .is) r2 r1 (qv 1 103 rfl r2 r1 (qw 103 rfl r2 r1 (qk rfl (fun h=>oP (Zdf u o.key ow) func29 (Args.two (.pagg (.w h)) (.w h))) r3 qz (qk rfl (fun h=>ZaC (.w h) (.w h)) r3 qz (qf (ZE .t .t) r2 qz (qO rr qZ)))))))))))) V [8] [103,102,101,0] rfl rfl fun a w F G=>?_)
  try dsimp only [List.map,xD,xE,xT,xU,ldSF,Zx,rTx,ZJ,ZW,Zn,rOp,Zic] at G
  refine Za (Yh (Zz (Zl (Zr hfr G rfl rfl rfl (.bool (by unfold Zjz wcnt;first | (rw [Yf h2];done) | (rw [Yc h2,h3,Ya2];done) | (rw [Yc h2,h3];simp)))))))
 have h3:decide (phen=3)=false:=hc1
 refine Ye (Zh (Za (Ya (rZ G qB V [8] [103,102,101,0] fun G=>Yh ?_))))
 refine Zr hfr G rfl rfl rfl (.bool (by unfold Zjz wcnt;first | (rw [Yf h2];done) | (rw [Yc h2,h3,Ya2];done) | (rw [Yc h2,h3];simp)))
theorem Zs2 {g:Zw} (hs:ZaW g.txs) (o:OpD):(uOf g o).ops.length≤1000:=by
 unfold uOf
 cases hf:Z6 g.txs o.tx with
 | none=>simp [zeroT]
 | some t=>exact hs.2 _ (findT_mem hf).1
theorem ZqK (g : Zw) (phen : Int) (hsm : Zbs g) (p : Int → Bool) (f : FuncId) (fn : Func) (cps : List PV) (hf : prog.funcs[f]? = some fn) (hb : fn.body.isSome = true) (hnn : (fn.name == "runtime.NumGoroutine") = false) (hw : ∀ x, FnP prog f (.int .i64 x :: cps) (.bool (p x))) : FnP prog 111 [.agg (Zx g), .int .i64 phen, .clos f cps] (.sl Zic (ZaT g phen p)) := by
 refine FnP.mk func111 rfl ntmps111 rfl fun B a w F V hfr G=>?_
 have hs:=hsm.1
 have hsl:=hs.1
 refine Ya (Zb G (qx 101 r1 (qC qZ)) V [6,3,2,1] [101,0] (fun _=>rfl) (fun _=>rfl) fun τ a w F G=>?_)
 try dsimp only [RS.sub,SF.sub,CF.sub,csub,Anc.sub,List.map,zCF,Zx,rTx,ZJ,ZW,Zn,rOp,Zic] at G
 generalize τ 3=v3 at G
 refine Za (Ya (rZ G (qC qZ) V [7,6,3,2,1] [101,0] fun G=>(Ya (Ya ?_))))
 refine rZ G (qe 2 101 r1 r1 (qf (oP (Zfe g hsm) func19 (Args.one (.pagg .t))) r1 qz (qf (o_not .t) r1 qz qZ))) V [17,7,6,3,2,1] [101,0] fun G=>?_
 refine Zc G rfl (fun hc0=>?_) (fun hc0=>?_)
 ·skip
  have hg:[] = ZaT g phen p:=by unfold ZaT;rw [Yc (by simpa using hc0)]
  refine Ya (rZ G (qR rr (qO rr qZ)) V [7,6,3,2,1] [101,0] fun G=>(Yh (Zl ?_)))
  refine Zr hfr G rfl rfl rfl (.trans .nilSl (.sl (by first | exact hg | (rw [hq,hil,Yz];exact hgg))))
 have hr:ZT g:=by simpa using hc0
 have hgg:badsG g phen p g.txs=ZaT g phen p:=by unfold ZaT;rw [Yf hr]
 refine Ye (Za (Ya (Zb G (qf (Za1 (ek:=(fun t:TxD=>PV.agg (rTx t))) (ok:=(fun _=>True)) (kv:=(fun n:Int=>Value.int .i64 n)) 102) trivial qz (qO rr qZ)) V [8,7,6,3,2,1] [102,101,0] (fun _=>rfl) (fun _=>rfl) fun τ a w F G=>?_)))
 try dsimp only [RS.sub,SF.sub,CF.sub,csub,Anc.sub,List.map,Zf,xL,xM,Nat.reduceAdd,xD,xE,xT,xU,xC,xN,zCF,Zx,rTx,ZJ,ZW,Zn,rOp,Zic] at G
 generalize τ 19=v19 at G
 refine Za (Ya (Ya (rZ G (qg 0 101 r1 r1 (qa 101 r1 r1 (qu underlying22 r1 (qJ qZ)))) V [23,22,21,8,7,6,3,2,1] [102,101,0] fun G=>Yg ?_)))
 refine Zk (σ:=(Nat)×(List (GE Int TxD))×(Nat)) [1,2,3,6,7,8,21,22] [0,101] (fun s=>[(23,.pv (.int .i64 (s.1:Int)))]) (fun s=>[(102,.ob (.val v19) (ZbP (fun t:TxD=>PV.agg (rTx t)) (fun _=>True) (fun n:Int=>Value.int .i64 n) s.2.1 s.2.2))]) (fun s=>s.1≤g.txs.length∧(Zue s.2.1 (g.txs.take s.1))) (fun s=>g.txs.length - s.1) ((0),([]),(0)) G ⟨rfl,rfl,rfl,rfl,rfl,rfl,rfl,rfl,rfl,tv⟩ ⟨rfl,rfl,rfl,tv⟩ ⟨Yx _,(fun id=>rfl)⟩ ?_
 clear G;intro s a w F hC G
 obtain ⟨i,es,ck⟩:=s
 try dsimp only at hC
 obtain ⟨F,G⟩:=G.nM [23,22,21,8,7,6,3,2,1] [102,101,0]
 try dsimp only at G
 obtain ⟨hi,hq⟩:=hC
 refine Ya (rZ G (qL r2) V [24,23,22,21,8,7,6,3,2,1] [102,101,0] fun G=>Ya ?_)
 refine Zc G rfl (fun hc1=>?_) (fun hc1=>?_)
 ·skip
  have hil:i<g.txs.length:=by simp at hc1;omega
  refine Ye (Za (Ya (Yg (Ya (Zb G (qy 3 underlying22 r2 (qf (oR true 3 .t) r1 qz (qf (oH [.int .i64 0,.bool false,.slice none 0 0] 103) trivial qz (qS 3 103 r2 r1 qZ)))) V [23,22,21,10,8,7,6,3,2,1] [103,102,101,0] (fun _=>rfl) (fun _=>rfl) fun τ a w F G=>?_)))))
  try dsimp only [RS.sub,SF.sub,CF.sub,csub,Anc.sub,List.map,Zf,xL,xM,Nat.reduceAdd,xD,xE,xT,xU,xC,xN,zCF,ldSF,Zx,rTx,ZJ,ZW,Zn,rOp,Zic] at G
  generalize τ 10=v10 at G
  try simp only [Yb] at G
  refine Za (Ze G (qR rr (qg 0 103 r1 r1 (qa 103 r1 r1 (qe 3 103 r1 r1 (qf (o_mapUpdateG (ek:=(fun t:TxD=>PV.agg (rTx t))) (v:=(Nn g.txs i)) 102 underlying210 (Zcw underlying3) .is (ZM.int .t rfl) (.pagg .t)) r3 r1 qZ))))) V [23,22,21,8,7,6,3,2,1] [103,102,101,0] rfl rfl fun a w F G=>Zh (Za ?_))
  refine rZ G (qp r1 (qR rr qZ)) V [23,22,21,8,7,6,3,2,1] [103,102,101,0] fun G=>?_
  replace G:=G.ent (i:=23) (s':=.pv (.int .i64 ((i+1:Nat):Int))) rfl (.int (Zd ow))
  obtain ⟨F,G⟩:=G.nM [22,21,8,7,6,3,2,1,23] [101,0,102]
  exact ⟨((i+1),((gPut (Nn g.txs i).id (Nn g.txs i) (es,ck)).1),((gPut (Nn g.txs i).id (Nn g.txs i) (es,ck)).2)),F,⟨by omega,Zt2 hr.2.1 hq hil⟩,G,by omega⟩
 have hil:i=g.txs.length:=by simp at hc1;omega
 have hby:∀ id,gGet id es=Z6 g.txs id:=by rw [hil,Yz] at hq;exact hq
 refine Yv (Zi (Zi (Zo (Za (Ya (Ya (rZ G (qg 0 101 r1 r1 (qa 101 r1 r1 (qu underlying22 r1 (qJ qZ)))) V [35,34,33,8,7,6,2,1] [102,101,0] fun G=>Yg ?_)))))))
 replace G:=G.fresh 50 rfl
 replace G:=G.turn 50 rfl (ZaD (T:=35) (sz:=5) (R:=Zic))
 refine Zk (σ:=(Nat)×(Value)×(List Zp9)) [1,2,6,8,33,34] [0,101,102] (fun s=>[(35,.pv (.int .i64 (s.1:Int))),(7,.pv (.is s.2.1))]) (fun s=>[(50,.ob (.val s.2.1) (Zu 35 5 Zic s.2.2))]) (fun s=>s.1≤g.txs.length∧(s.2.2=badsG g phen p (g.txs.take s.1))) (fun s=>g.txs.length - s.1) ((0),(.slice none 0 0),([])) G ⟨rfl,rfl,rfl,rfl,rfl,rfl,rfl,rfl,tv⟩ ⟨rfl,rfl,rfl,rfl,tv⟩ ⟨Yx _,rfl⟩ ?_
 clear G;intro s a w F hC G
 obtain ⟨i,x0,out⟩:=s
 try dsimp only at hC
 obtain ⟨F,G⟩:=G.nM [35,34,33,8,7,6,2,1] [102,101,50,0]
 try dsimp only at G
 obtain ⟨hi,hq⟩:=hC
 have hxl:=fun hil:i<g.txs.length=>hs.at hil
 have hol:out.length≤1000*i:=by rw [hq];exact Zk3 hs i
 refine Ya (rZ G (qL r2) V [36,35,34,33,8,7,6,2,1] [102,101,50,0] fun G=>Ya ?_)
 refine Zc G rfl (fun hc2=>?_) (fun hc2=>?_)
 ·skip
  have hil:i<g.txs.length:=by simp at hc2;omega
  have hio:=hil
  have htl:=hxl hil
  have hsl:=hs.1
  refine Ye (Za (Ya (Yg (Ya (Zb G (qy 3 underlying22 r2 (qf (oR true 3 .t) r1 qz (qf (oH [.int .i64 0,.bool false,.slice none 0 0] 104) trivial qz (qS 3 104 r2 r1 qZ)))) V [35,34,33,12,8,7,6,2,1] [104,102,101,50,0] (fun _=>rfl) (fun _=>rfl) fun τ a w F G=>?_)))))
  try dsimp only [RS.sub,SF.sub,CF.sub,csub,Anc.sub,List.map,Zf,xL,xM,Nat.reduceAdd,xD,xE,xT,xU,xC,xN,zCF,ldSF,Zx,rTx,ZJ,ZW,Zn,rOp,Zic] at G
  generalize τ 12=v12 at G
  try simp only [Yb] at G
  refine Za (Ya (rZ G (qg 2 104 r1 r1 (qa 104 r1 r1 (qu underlying28 r1 (qJ qZ)))) V [42,41,40,35,34,33,12,8,7,6,2,1] [104,102,101,50,0] fun G=>Yg ?_))
  refine Zk (σ:=(Nat)×(Value)×(List Zp9)) [1,2,6,8,12,33,34,35,40,41] [0,101,102,104] (fun s=>[(42,.pv (.int .i64 (s.1:Int))),(7,.pv (.is s.2.1))]) (fun s=>[(50,.ob (.val s.2.1) (Zu 35 5 Zic s.2.2))]) (fun s=>s.1≤(Nn g.txs i).ops.length∧(s.2.2=badsG g phen p (g.txs.take i)++Zc3 g phen p (Nn g.txs i) ((Nn g.txs i).ops.take s.1))) (fun s=>(Nn g.txs i).ops.length - s.1) ((0),(x0),(out)) G ⟨rfl,rfl,rfl,rfl,rfl,rfl,rfl,rfl,rfl,rfl,rfl,rfl,tv⟩ ⟨rfl,rfl,rfl,rfl,rfl,tv⟩ ⟨Yx _,(by rw [hq];simp [Zc3])⟩ ?_
  clear G;intro s a w F hC G
  obtain ⟨j,x1,outj⟩:=s
  try dsimp only at hC
  obtain ⟨F,G⟩:=G.nM [42,41,40,35,34,33,12,8,7,6,2,1] [104,102,101,50,0]
  try dsimp only at G
  obtain ⟨hi,hq⟩:=hC
  have hbl:=ZgX g phen p (Nn g.txs i) ((Nn g.txs i).ops.take j)
  have hbg:=Zk3 (g:=g) (phen:=phen) (p:=p) hs i
  have hoj:outj.length≤1000*i+j:=by rw [hq,Yd];rw [Yi] at hbl;omega
  refine Ya (rZ G (qL r2) V [43,42,41,40,35,34,33,12,8,7,6,2,1] [104,102,101,50,0] fun G=>Ya ?_)
  refine Zc G rfl (fun hc3=>?_) (fun hc3=>?_)
  ·skip
   have hil:j<(Nn g.txs i).ops.length:=by simp at hc3;omega
   refine Ye (Za (Ya (Yg (Ya (Zb G (qR rr (qy 4 underlying28 r2 (qf (oR true 4 .t) r1 qz (qf (oH [.bool false,.int .i64 0,.int .i64 0,.int .i64 0] 105) trivial qz (qO rr (qS 4 105 r2 r1 qZ)))))) V [42,41,40,35,34,33,14,13,12,8,7,6,2,1] [105,104,102,101,50,0] (fun _=>rfl) (fun _=>rfl) fun τ a w F G=>?_)))))
   try dsimp only [RS.sub,SF.sub,CF.sub,csub,Anc.sub,List.map,Zf,xL,xM,Nat.reduceAdd,xD,xE,xT,xU,xC,xN,zCF,ldSF,Zx,rTx,ZJ,ZW,Zn,rOp,Zic] at G
   generalize τ 14=v14 at G
   try simp only [Yb] at G
   refine Za (Ya (Ya (rZ G (qg 0 105 r1 r1 (qa 105 r1 r1 (qf (o_not .t) r1 qz (qR rr (qv 2 105 rfl r2 r1 (qw 105 rfl r2 r1 (qk rfl (fun h=>o_eql (.w h) qi) r2 qz (qf (ZaA .t .t) r2 qz (qR rr (qv 2 105 rfl r2 r1 (qw 105 rfl r2 r1 (qv 0 104 rfl r2 r1 (qw 104 rfl r2 r1 (qk rfl (fun h=>o_eql (.w h) (.w h)) r3 qz (qf (ZaA .t .t) r2 qz (qR rr (qm rfl rfl rfl rfl (qv 1 105 rfl r2 r1 (qw 105 rfl r2 r1 (qk rfl (fun h=>ZO (avs:=[.int .i64 (Nn (Nn g.txs i).ops j).key]) (.w h) (hw (Nn (Nn g.txs i).ops j).key) hf hb hnn (Args.one (.w h))) r3 qz (qk rfl (fun h=>o_not (.w h)) r2 qz (qf (ZaA .t .t) r2 qz qZ)))))))))))))))))))))) V [68,42,41,40,35,34,33,14,13,12,8,7,6,2,1] [105,104,102,101,50,0] fun G=>?_)))
   refine Zc G rfl (fun hc4=>?_) (fun hc4=>?_)
   ·skip
    have hBq:¬ (p (Nn (Nn g.txs i).ops j).key && Znk g phen (Nn g.txs i) (Nn (Nn g.txs i).ops j))=true:=by
      intro h9
      rw [Yr] at h9
      have h8:=h9.2
      unfold Znk at h8
      rw [Yr] at h8
      have h7:=h8.1
      unfold Zey at h7
      simp at h7
      have h6:=hc4
      simp [h9.1,h7] at h6
    refine Yv (Zi (Zo (Za (rZ G (qp r1 (qR rr qZ)) V [42,41,40,35,34,33,12,8,7,6,2,1] [105,104,102,101,50,0] fun G=>?_))))
    replace G:=G.ent (i:=42) (s':=.pv (.int .i64 ((j+1:Nat):Int))) rfl (.int (Zd ow))
    obtain ⟨F,G⟩:=G.nM [41,40,35,34,33,12,8,6,2,1,7,42] [104,102,101,0,50]
    exact ⟨((j+1),_,_),F,⟨by omega,(by rw [ZdQ hil,← YO,← hq];first | (rw [Yf hBq];done) | (rw [Yc hBq,YQ]))⟩,G,by omega⟩
   have hnd:Zey (Nn g.txs i).id (Nn (Nn g.txs i).ops j)=true∧p (Nn (Nn g.txs i).ops j).key=true:=by
     have h6:=hc4
     unfold Zey
     simp at h6
     refine ⟨by simp [h6],by simp [h6]⟩
   refine Ye (Za (Ya (Zap 5 G kr (cG rfl (oL true 3 104 .is) r1 r1 (cG rfl (oM .t) r1 trivial (cG rfl (oF 2 105 .is) r1 r1 (cG rfl (oL false 1 105 .adr) r1 r1 (cG rfl (Zas (ek:=(fun t:TxD=>PV.agg (rTx t))) (z0:=zeroT) 102 underlying210 (Zcw underlying3) kr (fun _ _=>⟨[_,_,_],rfl,⟨rfl,rfl,ZcY⟩,⟨rfl,rfl⟩,⟨rfl,Zip⟩,tv⟩) .is (ZM.int .t rfl)) r2 r1 ChainN.nil))))) kr (by rw [V];kernel_rfl) fun a w F G=>?_)))
   obtain ⟨F,G⟩:=G.nM [73,69,42,41,40,35,34,33,14,13,12,8,7,6,2,1] [105,104,102,101,50,0]
   try dsimp only [List.map,xD,xE,xT,xU,ldSF,Zx,rTx,ZJ,ZW,Zn,rOp,Zic] at G
   rw [show (gGet (Nn (Nn g.txs i).ops j).tx es).getD zeroT=(uOf g (Nn (Nn g.txs i).ops j)) by rw [hby];rfl] at G
   refine ZaJ G kr (cG rfl (oL true 4 105 .is) r1 r1 (cG rfl (oM .t) r1 trivial (cG rfl (oP (ZsS (Nn g.txs i) (uOf g (Nn (Nn g.txs i).ops j)) (Nn (Nn g.txs i).ops j) phen (by have:=Zs2 hs (Nn (Nn g.txs i).ops j);omega)) func152 (Args.four (.pagg .t) .t (.pagg .t) .t)) r4 trivial ChainN.nil))) kr (by rw [V];kernel_rfl) fun a w F G=>?_
   obtain ⟨F,G⟩:=G.nM [76,42,41,40,35,34,33,14,13,12,8,7,6,2,1] [105,104,102,101,50,0]
   try dsimp only [List.map,xD,xE,xT,xU,ldSF,Zx,rTx,ZJ,ZW,Zn,rOp,Zic] at G
   refine Za (Zc G rfl (fun hc5=>?_) (fun hc5=>?_))
   ·skip
    have hBq:(p (Nn (Nn g.txs i).ops j).key && Znk g phen (Nn g.txs i) (Nn (Nn g.txs i).ops j))=true:=by unfold Znk;rw [hnd.1,hnd.2,hc5];rfl
    refine ZaP G (qR rr (qg 0 104 r1 r1 (qa 104 r1 r1 (qR rr (qe 4 105 r1 r1 (qf (oP (Zln (Nn (Nn g.txs i).ops j)) func120 (Args.one (.pagg .t))) r1 qz (qf (oB [(0,.tmp 79),(1,.tmp 80),(2,.tmp 82)] [.int .i64 0,.int .i64 0,.int .i64 0,.int .i64 0,.int .i64 0] [(0,1),(1,1),(2,3)] (.one rfl .t one_int kr (.one rfl .t one_int kr (.agg rfl (.conv .t .agg) kr kr .nil)))) r3 qz (qf (o_buildSliceE (sz:=5) (zs:=[.int .i64 0,.int .i64 0,.int .i64 0,.int .i64 0,.int .i64 0]) (r:=[(0,.tmp 83)]) (l:=[_,_,_,_,_]) underlying105 kr kr kr kr rfl rfl (.agg rfl .t kr kr .nil) rfl) r1 qz (qf (ZV (sz:=5) (bs:=40) 50 (.mk' underlying105 kr kr) (by intro x;rfl) .is (.arr (l':=[(⟨(Nn g.txs i).id,j,ofO (Nn (Nn g.txs i).ops j)⟩:Zp9)]) .t) (by simp only [Yd,Yl,Yy,Yi,YE];omega) (by decide)) ⟨rfl,rfl,tv⟩ ⟨rfl,tv⟩ (qO rr qZ)))))))))) V [42,41,40,35,34,33,12,8,7,6,2,1] [105,104,102,101,50,0] (fun _=>rfl) (fun _=>rfl) fun τ a w F G=>?_
    try dsimp only [RS.sub,SF.sub,CF.sub,csub,Anc.sub,List.map,Zf,xL,xM,Nat.reduceAdd,xD,xE,xT,xU,xC,xN,zCF,ldSF,Zx,rTx,ZJ,ZW,Zn,rOp,Zic] at G
    generalize τ 85=v85 at G
    refine Zh (Za (rZ G (qp r1 (qR rr qZ)) V [42,41,40,35,34,33,12,8,7,6,2,1] [105,104,102,101,50,0] fun G=>?_))
    replace G:=G.ent (i:=42) (s':=.pv (.int .i64 ((j+1:Nat):Int))) rfl (.int (Zd ow))
    obtain ⟨F,G⟩:=G.nM [41,40,35,34,33,12,8,6,2,1,7,42] [104,102,101,0,50]
    exact ⟨((j+1),_,_),F,⟨by omega,(by rw [ZdQ hil,← YO,← hq];first | (rw [Yf hBq];done) | (rw [Yc hBq,YQ]))⟩,G,by omega⟩
   have hBq:¬ (p (Nn (Nn g.txs i).ops j).key && Znk g phen (Nn g.txs i) (Nn (Nn g.txs i).ops j))=true:=by unfold Znk;rw [hnd.1,hnd.2,hc5];simp
   refine Ye (Zh (Za (rZ G (qp r1 (qR rr qZ)) V [42,41,40,35,34,33,12,8,7,6,2,1] [105,104,102,101,50,0] fun G=>?_)))
   replace G:=G.ent (i:=42) (s':=.pv (.int .i64 ((j+1:Nat):Int))) rfl (.int (Zd ow))
   obtain ⟨F,G⟩:=G.nM [41,40,35,34,33,12,8,6,2,1,7,42] [104,102,101,0,50]
   exact ⟨((j+1),_,_),F,⟨by omega,(by rw [ZdQ hil,← YO,← hq];first | (rw [Yf hBq];done) | (rw [Yc hBq,YQ]))⟩,G,by omega⟩
  have hil:j=(Nn g.txs i).ops.length:=by simp at hc3;omega
  refine Yv (Zi (Zi (Zo (Zh (Za (rZ G (qp r1 (qR rr qZ)) V [35,34,33,8,7,6,2,1] [104,102,101,50,0] fun G=>?_))))))
  replace G:=G.ent (i:=35) (s':=.pv (.int .i64 ((i+1:Nat):Int))) rfl (.int (Zd ow))
  obtain ⟨F,G⟩:=G.nM [34,33,8,6,2,1,7,35] [102,101,0,50]
  exact ⟨((i+1),_,_),F,⟨by omega,(by rw [Zng hio,hq,hil,Yz])⟩,G,by omega⟩
 have hil:i=g.txs.length:=by simp at hc2;omega
 refine Yv (Zi (Zi (Zo (Za (Ya (rZ G (qR rr (qO rr qZ)) V [6] [102,101,50,0] fun G=>Yh ?_))))))
 obtain ⟨F,G⟩:=G.give 50 6 rfl rfl
 refine Zr hfr G rfl rfl rfl (.sl (by first | exact hg | (rw [hq,hil,Yz];exact hgg)))
theorem Zvv (x:Int):FnP prog 112 [.int .i64 x] (.bool ((fun _=>true) x)):=by
 refine FnP.mk func112 rfl ntmps112 rfl fun B a w F V hfr G=>Ya ?_
 refine rZ G qB V [2] [0] fun G=>Ya ?_
 refine rZ G qB V [2] [0] fun G=>Yh ?_
 refine Zr hfr G rfl rfl rfl (.bool rfl)
theorem ZvI (g:Zw) (phen:Int) (hsm:Zbs g):FnP prog 67 [.agg (Zx g),.int .i64 phen] (.sl Zic (ZaT g phen fun _=>true)):=by
 refine FnP.mk func67 rfl ntmps67 rfl fun B a w F V hfr G=>Ya ?_
 refine Zb G (qx 101 r1 (qC qZ)) V [4,2,1] [101,0] (fun _=>rfl) (fun _=>rfl) fun τ a w F G=>?_
 try dsimp only [RS.sub,SF.sub,CF.sub,csub,Anc.sub,List.map,zCF,Zx,rTx,ZJ,ZW,Zn,rOp,Zic] at G
 generalize τ 2=v2 at G
 refine Za (Ya (rZ G (qe 2 101 r1 r1 (qR rr (qf (oP (ZqK g phen hsm (fun _=>true) 112 f112 [] func112 rfl kr (fun x=>Zvv x)) func111 (Args.three (.pagg .t) .t (.conv .f (Ent.fnClos)))) r2 qz (qO rr qZ)))) V [4] [101,0] fun G=>Yh ?_))
 refine Zr hfr G rfl rfl rfl .refl
theorem Zvj {p:Int→Bool} {g:Zw} (hs:Zbs g):(rdC p g).length≤2000*g.txs.length:=by
 unfold rdC
 split
 ·have h1:=ZoC (p:=p) (g:=g) hs.1 g.txs.length
  rwa [Yz] at h1
 ·simp
def Zaj (g:Zw):List Zg:=(Zg2 (wwC PT1 g) (rdC PT1 g)).map HvD.edge
def ZZ (p:Int):Int×Int:=if p=1 then (2,0) else if p=4 then (6,0) else if p=5 then (14,8) else (0,0)
def PhB (g:Zw) (p:Int):Prop:=if p=2∨p=3 then ZaT g p PT1≠[] else (ZZ p).1≠0∧ZeR (Zaj g) (ZZ p).1 (ZZ p).2
theorem Zf5 {g:Zw} (hg:ZT g) {e:Zg} : e ∈ Zaj g ↔ EdS g e:=by
 rw [← ZuA hg]
 unfold Zaj Zg2
 rw [Ybs]
 rw [show (HvD.edge ∘ fun e=>(⟨e,cntA (wwC PT1 g) (rdC PT1 g) e⟩:HvD))=id from rfl,List.map_id]
 exact (ZbI Zb9 _).2 _
theorem ZlV {g:Zw} (hg:¬ ZT g):Zaj g = []:=by
 unfold Zaj Zg2 Zgv wwC rdC
 rw [Yc hg,Yc hg];rfl
theorem Zlu {g:Zw} (hg:ZT g) {e:Zg} (he:EdS g e):(∃ t ∈ g.txs,t.id=e.src∧t.done=true) ∧ ∃ t ∈ g.txs,t.id=e.dst∧t.done=true:=by
 obtain ⟨_,h2,h3,_,_,h6⟩:=Zcj.1 hg
 have ord:∀ {k z:Int},z ∈ getO g.orders k → ∃ t ∈ g.txs,t.id=z∧t.done=true:=fun {k z} hz=>by
  obtain ⟨t,h4,h5,h7,_⟩:=ZcC.1 ((h6 k).mem_iff.1 hz)
  exact ⟨t,h4,h5,h7⟩
 rcases he with ⟨_,h⟩ | ⟨t,ht,hd,o,_,_,h1,h7,h8⟩
 ·exact ⟨ord h.mem.1,ord h.mem.2⟩
 ·rcases h8 with ⟨h9,rfl⟩ | ⟨y,h9,_,rfl⟩
  ·refine ⟨?_,t,ht,rfl,hd⟩
   rcases h7 with h7 | ⟨u,u1,u2,_⟩
   ·exact absurd h7 h9
   ·exact ⟨u,(findT_mem u1).1,(findT_mem u1).2,u2⟩
  ·exact ⟨⟨t,ht,rfl,hd⟩,ord h9.mem⟩
theorem Zn1 {g:Zw} (hs:Zbs g) (mask:Int):(ZI (ZeM (Zaj g) mask)).length≤4096:=by
 by_cases hg:ZT g
 ·have h1:(ZI (ZeM (Zaj g) mask)).length≤(g.txs.map TxD.id).length:=List.Nodup.length_le_of_subset (Zja _) fun x hx=>by
   obtain ⟨e,he,hx⟩:=Zcl.1 hx
   obtain ⟨h3,h4⟩:=Zlu hg ((Zf5 hg).1 (YT.1 he).1)
   rcases hx with rfl | rfl
   ·obtain ⟨t,h5,h6,_⟩:=h3;exact Yw.2 ⟨t,h5,h6⟩
   ·obtain ⟨t,h5,h6,_⟩:=h4;exact Yw.2 ⟨t,h5,h6⟩
  have h2:=hs.1.1
  rw [YH] at h1;omega
 ·rw [ZlV hg];exact Yx _
theorem ZoT (l:List HvD) (hl:l.length≤1000000):FnP prog 37 [.sl rHv l] (.sl Zs (l.map HvD.edge)):=by
 refine FnP.mk func37 rfl ntmps37 rfl fun B a w F V hfr G=>Ya ?_
 refine rZ G (qC qZ) V [2,0] [0] fun G=>Ya ?_
 refine rZ G (qC qZ) V [3,2,0] [0] fun G=>(Ya (Ya ?_))
 refine rZ G (qR rr (qu underlying73 r1 (qJ qZ))) V [8,7,6,3,2] [0] fun G=>Yg ?_
 replace G:=G.fresh 50 rfl
 replace G:=G.turn 50 rfl (ZaD (T:=42) (sz:=4) (R:=Zs))
 refine Zk (σ:=(Nat)×(Value)×(List Zg)) [2,6,7] [0] (fun s=>[(8,.pv (.int .i64 (s.1:Int))),(3,.pv (.is s.2.1))]) (fun s=>[(50,.ob (.val s.2.1) (Zu 42 4 Zs s.2.2))]) (fun s=>s.1≤l.length∧(s.2.2=(l.take s.1).map HvD.edge)) (fun s=>l.length - s.1) ((0),(.slice none 0 0),([])) G ⟨rfl,rfl,rfl,rfl,rfl,tv⟩ ⟨rfl,rfl,tv⟩ ⟨Yx _,rfl⟩ ?_
 clear G;intro s a w F hC G
 obtain ⟨i,v,out⟩:=s
 try dsimp only at hC
 obtain ⟨F,G⟩:=G.nM [8,7,6,3,2] [50,0]
 try dsimp only at G
 obtain ⟨hi,hq⟩:=hC
 have hol:out.length≤i:=by rw [hq,YH,Yi];omega
 refine Ya (rZ G (qL r2) V [9,8,7,6,3,2] [50,0] fun G=>Ya ?_)
 refine Zc G rfl (fun hc0=>?_) (fun hc0=>?_)
 ·have hil:i<l.length:=by simp at hc0;omega
  refine Ye (Za (Ya (Yg (Ya (Zb G (qy 5 underlying73 r2 (qf (oR true 5 .t) r1 qz (qf (oH [.int .i64 0,.int .i64 0,.int .i64 0,.int .i64 0,.int .i64 0] 101) trivial qz (qS 5 101 r2 r1 qZ)))) V [8,7,6,5,3,2] [101,50,0] (fun _=>rfl) (fun _=>rfl) fun τ a w F G=>?_)))))
  try dsimp only [RS.sub,SF.sub,CF.sub,csub,Anc.sub,List.map,Zf,xL,xM,Nat.reduceAdd,xD,xE,xT,xU,xC,xN,zCF,ldSF,Zs,rHv] at G
  generalize τ 5=v5 at G
  try simp only [Yb] at G
  refine Za (Zb G (qR rr (qg 0 101 r1 r1 (qf (oL true 4 101 .adr) r1 r1 (qf (o_buildSliceE (sz:=4) (zs:=[.int .i64 0,.int .i64 0,.int .i64 0,.int .i64 0]) (r:=[(0,.tmp 14)]) (l:=[_,_,_,_]) underlying31 kr kr kr kr rfl rfl (.agg rfl .t kr kr .nil) rfl) r1 qz (qf (ZV (sz:=4) (bs:=32) 50 (.mk' underlying31 kr kr) (by intro x;rfl) .is (.arr (l':=[(Nn l i).edge]) .t) (by simp only [Yd,Yl,Yy];omega) (by decide)) ⟨rfl,rfl,tv⟩ ⟨rfl,tv⟩ (qO rr qZ)))))) V [8,7,6,3,2] [50,0] (fun _=>rfl) (fun _=>rfl) fun τ a w F G=>?_)
  try dsimp only [RS.sub,SF.sub,CF.sub,csub,Anc.sub,List.map,Zf,xL,xM,Nat.reduceAdd,xD,xE,xT,xU,xC,xN,zCF,ldSF,Zs,rHv] at G
  generalize τ 16=v16 at G
  refine Zh (Za (rZ G (qp r1 (qR rr qZ)) V [8,7,6,3,2] [50,0] fun G=>?_))
  replace G:=G.ent (i:=8) (s':=.pv (.int .i64 ((i+1:Nat):Int))) rfl (.int (Zd ow))
  obtain ⟨F,G⟩:=G.nM [7,6,2,3,8] [0,50]
  exact ⟨((i+1),_,_),F,⟨by omega,(by rw [Zp hil,YP,← hq];rfl)⟩,G,by omega⟩
 have hil:i=l.length:=by simp at hc0;omega
 refine Yv (Zi (Zi (Zo (Za (Ya (rZ G (qR rr (qO rr qZ)) V [2] [50,0] fun G=>Yh ?_))))))
 obtain ⟨F,G⟩:=G.give 50 2 rfl rfl
 refine Zr hfr G rfl rfl rfl (.sl (by rw [hq,hil,Yz]))
theorem Zj4 (p:Int):FnP prog 68 [.int .i64 p] (.tup [.int .i64 (ZZ p).1,.int .i64 (ZZ p).2]):=by
 refine FnP.mk func68 rfl ntmps68 rfl fun B a w F V hfr G=>Ya ?_
 refine rZ G (qI (qI qZ)) V [3,2,0] [0] fun G=>(Ya (Ya ?_))
 refine rZ G (qR rr qZ) V [4,3,2] [0] fun G=>(Yg (Ya ?_))
 refine rZ G (qf (o_eql .t qi) r1 qz (qO rr qZ)) V [5,4,3,2] [0] fun G=>?_
 refine Zc G rfl (fun hc0=>?_) (fun hc0=>?_)
 ·have hp:p=1:=by simpa using hc0
  subst hp
  have hg1:(2:Int)=(ZZ 1).1:=rfl
  have hg2:(0:Int)=(ZZ 1).2:=rfl
  refine Ya (rZ G (qI (qI qZ)) V [3,2] [0] fun G=>(Yh (Zz (Zl ?_))))
  refine Zab hfr G rfl (.tmp rfl (.tmp rfl .nil)) (.two (.int hg1) (.int hg2))
 have hp1:¬ p=1:=by simpa using hc0
 refine Ya (rZ G (qf (o_eql .t qi) r1 qz (qO rr qZ)) V [7,4,3,2] [0] fun G=>?_)
 refine Zc G rfl (fun hc1=>?_) (fun hc1=>?_)
 ·have hp:p=4:=by simpa using hc1
  subst hp
  have hg1:(6:Int)=(ZZ 4).1:=rfl
  have hg2:(0:Int)=(ZZ 4).2:=rfl
  refine Ya (rZ G (qI (qI qZ)) V [3,2] [0] fun G=>(Yh (Zz (Zl ?_))))
  refine Zab hfr G rfl (.tmp rfl (.tmp rfl .nil)) (.two (.int hg1) (.int hg2))
 have hp2:¬ p=4:=by simpa using hc1
 refine Ya (rZ G (qf (o_eql .t qi) r1 qz (qO rr qZ)) V [9,3,2] [0] fun G=>?_)
 refine Zc G rfl (fun hc2=>?_) (fun hc2=>?_)
 ·have hp:p=5:=by simpa using hc2
  subst hp
  have hg1:(14:Int)=(ZZ 5).1:=rfl
  have hg2:(8:Int)=(ZZ 5).2:=rfl
  refine Ya (rZ G (qI (qI qZ)) V [3,2] [0] fun G=>(Yh (Zz (Zl ?_))))
  refine Zab hfr G rfl (.tmp rfl (.tmp rfl .nil)) (.two (.int hg1) (.int hg2))
 have hp3:¬ p=5:=by simpa using hc2
 have hg1:(0:Int)=(ZZ p).1:=by unfold ZZ;rw [Yc hp1,Yc hp2,Yc hp3]
 have hg2:(0:Int)=(ZZ p).2:=by unfold ZZ;rw [Yc hp1,Yc hp2,Yc hp3]
 refine Ye (Zh (Za (Ya (rZ G (qI (qI qZ)) V [3,2] [0] fun G=>Yh ?_))))
 refine Zab hfr G rfl (.tmp rfl (.tmp rfl .nil)) (.two (.int hg1) (.int hg2))
theorem Zkn {α:Type} {l:List α} : decide (0<(l.length:Int))=true ↔ l≠[]:=by rw [Yu,Ne,← List.length_eq_zero_iff];omega
theorem Zvx {g:Zw} {p:Int} (h:¬ (p=2∨p=3)) {b0 rb:Bool} (hb:b0=true ↔ PhB g p) (hr:rb=true ↔ ZeR (Zaj g) (ZZ p).1 (ZZ p).2):(!decide ((ZZ p).1=0) && rb)=b0:=by
 rw [Yar,hb]
 unfold PhB
 rw [Yc h,Yr,hr];simp
theorem ZnD (g:Zw) (hsm:Zbs g) (hAR:(wwC PT1 g).length+(rdC PT1 g).length≤100000) (p:Int) (b0:Bool) (hb:b0=true ↔ PhB g p):FnP prog 31 [.agg (Zx g),.int .i64 p] (.bool b0):=by
 refine FnP.mk func31 rfl ntmps31 rfl fun B a w F V hfr G=>?_
 have hel:=Zhc (A:=wwC PT1 g) (R:=rdC PT1 g)
 have hkl:=Zf1 (Zgv (wwC PT1 g) (rdC PT1 g))
 have hal:(Zgv (wwC PT1 g) (rdC PT1 g)).length≤100000:=by unfold Zgv;rw [Yd,YH];exact hAR
 have hpl:(Zaj g).length≤100000:=by unfold Zaj;rw [YH];omega
 obtain ⟨rb,hrb⟩:=ZhP (ZeR (Zaj g) (ZZ p).1 (ZZ p).2)
 refine Ya (Zb G (qx 101 r1 qB) V [4,2,1] [101,0] (fun _=>rfl) (fun _=>rfl) fun τ a w F G=>?_)
 try dsimp only [RS.sub,SF.sub,CF.sub,csub,Anc.sub,List.map,zCF,Zx,rTx,ZJ,ZW,Zn,rOp] at G
 generalize τ 2=v2 at G
 refine Za (Ya (Ya (rZ G (qR rr qZ) V [7,4,2,1] [101,0] fun G=>(Yg (Ya (Ya ?_))))))
 refine rZ G (qf (o_eql .t qi) r1 qz (qO rr qZ)) V [8,7,4,2,1] [101,0] fun G=>?_
 refine Zc G rfl (fun hc0=>?_) (fun hc0=>?_)
 ·have h23:(p=2∨p=3):=(by have h9:=hc0;simp at h9;omega)
  have hfin:decide (0<((ZaT g p fun _=>true).length:Int))=b0:=by
    rw [Yar,hb]
    unfold PhB
    rw [Yf h23]
    exact Zkn
  refine Ye (Za (Zc G rfl (fun hc1=>?_) (fun hc1=>?_)))
  ·have h23:(p=2∨p=3):=(by have h9:=hc1;simp at h9;omega)
   have hfin:decide (0<((ZaT g p fun _=>true).length:Int))=b0:=by
     rw [Yar,hb]
     unfold PhB
     rw [Yf h23]
     exact Zkn
   refine Ya (rZ G (qe 2 101 r1 r1 (qR rr (qf (oP (ZvI g p hsm) func67 (Args.two (.pagg .t) .t)) r2 qz (qu underlying105 r1 (qf (ZaR .t qi) r1 qz (qO rr qZ)))))) V [4,2,1] [101,0] fun G=>(Yh (Zz (Zl ?_))))
   refine Zr hfr G rfl rfl rfl (.bool hfin)
  exact Bool.noConfusion (hc0.symm.trans hc1)
 have hn2:¬ p=2:=by simpa using hc0
 refine rZ G (qf (o_eql .t qi) r1 qz (qO rr qZ)) V [8,4,2,1] [101,0] fun G=>?_
 refine Zc G rfl (fun hc2=>?_) (fun hc2=>?_)
 ·have h23:(p=2∨p=3):=(by have h9:=hc2;simp at h9;omega)
  have hfin:decide (0<((ZaT g p fun _=>true).length:Int))=b0:=by
    rw [Yar,hb]
    unfold PhB
    rw [Yf h23]
    exact Zkn
  refine Ya (rZ G (qe 2 101 r1 r1 (qR rr (qf (oP (ZvI g p hsm) func67 (Args.two (.pagg .t) .t)) r2 qz (qu underlying105 r1 (qf (ZaR .t qi) r1 qz (qO rr qZ)))))) V [4,2,1] [101,0] fun G=>(Yh (Zz (Zl ?_))))
  refine Zr hfr G rfl rfl rfl (.bool hfin)
 have h23:¬ (p=2∨p=3):=(by have h9:=hc2;simp at h9;omega)
 have hfin:=Zvx h23 hb hrb
 refine Ye (Zh (Za (Ya (rZ G (qR rr (qf (oP (Zj4 p) func68 (Args.one .t)) r1 qz (qR rr (qf (Zj .t rfl) r1 qz (qf (Zj .t rfl) r1 qz (qO rr (qO rr qZ))))))) V [6,5,4,2] [101,0] fun G=>Ya ?_))))
 refine rZ G (qR rr (qf (o_neq .t qi) r1 qz (qR rr (qk rfl (fun h=>oL true 2 101 .is) r2 r1 (qk rfl (fun h=>oP (Zpg g hsm (Y0 hAR (by decide))) func38 (Args.one (.pagg (.w h)))) r2 qz (qk rfl (fun h=>oP (ZoT _ (by have h9:=hpl;unfold Zaj at h9;rw [YH] at h9;exact Y0 h9 (by decide))) func37 (Args.one (.w h))) r2 qz (qm rfl rfl rfl rfl (qm rfl rfl rfl rfl (qk rfl (fun h=>oP (Zup (Zaj g) (ZZ p).1 (ZZ p).2 hpl (Zn1 hsm _) rb hrb) func69 (Args.three (.w h) (.w h) (.w h))) r4 qz (qf (ZE .t .t) r2 qz (qO rr qZ))))))))))) V [4] [0] fun G=>Yh ?_
 refine Zr hfr G rfl rfl rfl (.bool hfin)
theorem ZjL {g:Zw} (hg:ZT g) {mask must:Int} : ZeR (Zaj g) mask must ↔ Zlw g (fun k=>(decide (1≤k) && decide (k≤3)) && ofB mask k) (ZmX must):=by
 have hm:∀ e,e ∈ (Zaj g).filter (kindOk mask) ↔ EdS g e∧((decide (1≤e.kind) && decide (e.kind≤3)) && ofB mask e.kind)=true:=fun e=>by
  rw [YT,Zf5 hg];rfl
 have hl:∀ a b,LE_ ((Zaj g).filter (kindOk mask)) a b ↔ EK g (fun k=>(decide (1≤k) && decide (k≤3)) && ofB mask k) a b:=fun a b=>by
  unfold LE_ EK
  constructor
  ·rintro ⟨e,h1,h2,h3⟩;exact ⟨e,((hm e).1 h1).1,((hm e).1 h1).2,h2,h3⟩
  ·rintro ⟨e,h1,h2,h3,h4⟩;exact ⟨e,(hm e).2 ⟨h1,h2⟩,h3,h4⟩
 unfold ZeR Zlw
 constructor
 ·rintro ⟨e,h1,h2,h3⟩
  exact ⟨e,((hm e).1 h1).1,((hm e).1 h1).2,h2,h3.imp (fun k=>k) (Rch.mono fun a b=>(hl a b).1)⟩
 ·rintro ⟨e,h1,h2,h3,h4⟩
  exact ⟨e,(hm e).2 ⟨h1,h2⟩,h3,h4.imp (fun k=>k) (Rch.mono fun a b=>(hl a b).2)⟩
theorem Zr6 {t:TxD} {o:OpD} (ho:o ∈ t.ops) (hd:Zey t.id o=true):ofO o ∈ Zbn t:=by
 have key:∀ (l:List OpD) (out:List ZbT),(ofO o ∈ out∨o ∈ l)→ofO o ∈ l.foldl (Za0 t.id) out:=by
  intro l
  induction l with
  | nil=>intro out h;rcases h with h | h;exact h;cases h
  | cons x l ih=>
   intro out h
   rw [Yan]
   refine ih _ ?_
   rcases h with h | h
   ·left
    unfold Za0
    split
    ·exact Yah _ h
    ·exact h
   ·rcases Yk.1 h with rfl | h
    ·left
     unfold Za0
     by_cases hin:ofO o ∈ out
     ·rw [Yc (by simp [hin])];exact hin
     ·rw [Yf ⟨hd,hin⟩];simp
    ·exact .inr h
 exact key t.ops [] (.inr ho)
theorem Zju (l:List TxD) (id i:Int):Z6 (l.filter fun t=>!decide (t.id=id)) i=if i=id then none else Z6 l i:=by
 unfold Z6
 induction l with
 | nil=>simp
 | cons t l ih=>
  rw [List.filter_cons]
  by_cases e:t.id=id
  ·rw [Yc (by simp [e]),ih,Yb2]
   by_cases h:i=id
   ·rw [Yf h,Yf h]
   ·rw [Yc h,Yc h,YB ow]
  ·rw [Yf (by simp [e]),Yb2,Yb2,ih]
   by_cases h:i=id
   ·rw [Yf h,Yf h,YB ow]
   ·rw [Yc h,Yc h]
theorem ZnJ {g:Zw} {t:TxD} (hg:ZT g) (hid:t.id≠0) (h0:∀ k,wcnt t.ops k=0) (hu:Zhr g t=false):∀ u ∈ g.txs,u.id≠t.id → ∀ o ∈ u.ops,o.read=true→o.tx≠t.id:=fun u hu1 hn o ho hr e=>by
 have hd:Zey u.id o=true:=by
  unfold Zey
  rw [hr,YB ow,YB ow];rfl
 have hv:=Zr6 ho hd
 have ev:ofO o = ⟨o.tx,o.key,o.nth⟩:=by unfold ofO;rw [Yf hr]
 have h1:=ZsJ hu hu1 hn hv (by rw [ev];exact e)
 rw [h0] at h1
 obtain ⟨_,_,h3,_⟩:=Zcj.1 hg
 have h4:=YaU.1 (h3 u hu1).2 _ hv
 unfold ZjR at h4
 rw [ev] at h4 h1
 rw [Yc (by simp;omega)] at h4
 simp at h4 h1
 omega
theorem ZsF {g:Zw} {id:Int} (h:(Z4 g id).2=0):ZT g∧isK TxD.id id g.txs=true∧Zhr g (ZcT id)=false∧(Z4 g id).1 = ⟨g.txs.filter fun t=>!decide (t.id=id),ZaU (ZcT id) g.orders⟩:=by
 by_cases h1:ZT g
 ·cases h2:isK TxD.id id g.txs
  ·rw [ZvJ h1 h2] at h;cases h
  ·cases h3:Zhr g (ZcT id)
   ·refine ⟨h1,rfl,rfl,?_⟩
    unfold Z4
    rw [Yc (YaZ.2 h1),Yc (by simp [h2]),Yc (by simp [h3]),← Zhh (ZU.1 (Zaz h1).1) h2]
   ·rw [ZvH h1 h2 h3] at h;cases h
 ·rw [ZvO h1] at h;cases h
theorem Zvn {l:List TxD} {id:Int} (h:isK TxD.id id l=true):∃ t ∈ l,t.id=id:=by
 unfold isK at h
 rw [Yay] at h
 obtain ⟨t,h1,h2⟩:=h
 exact ⟨t,h1,by simpa using h2⟩
theorem ZuQ {g:Zw} (hg:ZT g) {t:TxD} (ht:t ∈ g.txs):1≤t.id:=by
 obtain ⟨_,_,h3,_⟩:=Zcj.1 hg
 have:=(h3 t ht).1
 unfold Zbo at this
 split at this
 ·cases this
 ·rename_i h;exact (YaZ.1 h).1
theorem Zra {g:Zw} {id:Int} (hs:Zbs g) (h:(Z4 g id).2=0):Zew g (Z4 g id).1 id:=by
 have hx:=Ziz hs h
 obtain ⟨h1,h2,h3,h4⟩:=ZsF h
 obtain ⟨t,t1,t2⟩:=Zvn h2
 have hid:=ZuQ h1 t1
 refine ⟨h1,hx,fun i=>?_,fun k=>?_,ZnJ (t:=ZcT id) h1 (show id≠0 by omega) (fun _=>rfl) h3⟩
 ·rw [h4];exact Zju _ _ _
 ·rw [h4,ZgM (Zaz h1).2]
  exact Yc (fun h=>by cases h.1)
theorem ZnQ {g:Zw} {p:Int} : ZaT g p PT1≠[] ↔ ZT g ∧ ∃ t ∈ g.txs,∃ o ∈ t.ops,Znk g p t o=true:=by
 unfold ZaT
 by_cases hg:ZT g
 ·rw [Yf hg]
  unfold badsG
  rw [Ne,List.flatMap_eq_nil_iff]
  constructor
  ·intro h
   refine ⟨hg,Ybw fun hn=>h fun t ht=>?_⟩
   unfold Zc3
   rw [List.map_eq_nil_iff,Ybl]
   intro x hx hb
   have hm:x.1 ∈ t.ops:=by
    obtain ⟨i,hi,e⟩:=Yaa hx
    simp at e
    rw [← e];exact Ybd _
   exact hn ⟨t,ht,x.1,hm,by simpa using hb⟩
  ·rintro ⟨_,t,ht,o,ho,hb⟩ h
   have:=h t ht
   unfold Zc3 at this
   rw [List.map_eq_nil_iff,Ybl] at this
   obtain ⟨i,hi,e⟩:=Yaa ho
   exact this (o,i) (by rw [← e];exact List.mk_mem_zipIdx_iff_getElem?.2 (Yao hi)) (by simpa using hb)
 ·rw [Yc hg]
  exact ⟨fun h=>absurd rfl h,fun h=>absurd h.1 hg⟩
theorem Zew.bads {g x:Zw} {id:Int} (h:Zew g x id) {p:Int} (hb:ZaT x p PT1≠[]):ZaT g p PT1≠[]:=by
 obtain ⟨_,t,ht,o,ho,hb⟩:=ZnQ.1 hb
 obtain ⟨t1,t2⟩:=h.mem.1 ht
 refine ZnQ.2 ⟨h.rg,t,t1,o,ho,?_⟩
 have hr:o.read=true:=by
  unfold Znk Zey at hb
  cases hor:o.read
  ·rw [hor] at hb;simp at hb
  ·rfl
 unfold Znk uOf at hb ⊢
 rw [h.tab,Yc (h.free t t1 t2 o ho hr)] at hb
 exact hb
theorem Zew.phen {g x:Zw} {id:Int} (h:Zew g x id) {p:Int} (hb:PhB x p):PhB g p:=by
 unfold PhB at hb ⊢
 split at hb
 ·rename_i h1;rw [Yf h1];exact h.bads hb
 ·rename_i h1
  rw [Yc h1]
  refine ⟨hb.1,?_⟩
  have h2:(ZZ p)=(2,0)∨(ZZ p)=(6,0)∨(ZZ p)=(14,8):=by
   have:=hb.1
   unfold ZZ at this ⊢
   split
   ·exact .inl rfl
   ·split
    ·exact .inr (.inl rfl)
    ·split
     ·exact .inr (.inr rfl)
     ·rename_i a b c;rw [Yc a,Yc b,Yc c] at this;exact absurd rfl this
  have hm:ofB (ZZ p).1 1=true:=by rcases h2 with h2 | h2 | h2 <;> rw [h2] <;> decide
  exact (ZjL h.rg).2 (h.round (by show (_ && ofB (ZZ p).1 1)=true;rw [hm];rfl) ((ZjL h.rx).1 hb.2))
structure ZvX (x y:Zw) (id:Int):Prop where
 rx:ZT x
 ry:ZT y
 ord:∀ k,getO y.orders k=getO x.orders k
 flt:x.txs=y.txs.filter fun t=>!decide (t.id=id)
 idle:∀ t ∈ y.txs,t.id=id→t.done=false∨t.ops = []
 free:∀ t ∈ x.txs,∀ o ∈ t.ops,o.read=true→o.tx≠id
section
variable {x y:Zw} {id:Int}
end
theorem Zu4 {p:Int→Bool} {n:Nat} {g:Zw} (h:Fit n g):(wwC p g).length≤n*(24*n):=by
 unfold wwC
 split
 ·have key:∀ l:List ZP,(∀ o ∈ l,o.txs.length≤n)→(wwA p l).length≤n*l.length:=by
   intro l
   induction l with
   | nil=>intro _;simp [wwA]
   | cons o l ih=>
    intro h
    have h1:=ih fun x hx=>h x (by simp [hx])
    have h2:=h o (by simp)
    unfold wwA at h1 ⊢
    rw [Y4,Yd,Yl,Nat.mul_succ]
    split
    ·have h3:(wwO o (o.txs.length - 1)).length=o.txs.length - 1:=by unfold wwO;rw [YH,List.length_range]
     omega
    ·simp only [Yy];omega
  exact Y0 (key _ h.2.2) (Ybk _ h.2.1)
 ·simp
theorem ZiI {n:Nat} {g:Zw} (h:Fit n g) (hn:n≤26):Zbs g∧(wwC PT1 g).length+(rdC PT1 g).length≤100000:=by
 have hs:=h.small ow
 refine ⟨hs,?_⟩
 have h1:=Zu4 (p:=PT1) h
 have h2:=Zvj (p:=PT1) hs
 have h3:=h.1.1
 have h4:n*(24*n)≤26*(24*26):=Nat.mul_le_mul hn (Ybk _ hn)
 omega
theorem Zpv {g:Zw} (h:Zcn g):Fit 24 g:=by
 obtain ⟨h1,h2,h3,h4⟩:=h
 refine ⟨⟨by omega,fun t ht=>?_⟩,by omega,fun o ho=>?_⟩
 ·obtain ⟨j,hj,e⟩:=Yaa ht
  have:=h3 j hj
  rw [nth_eq hj,e] at this;omega
 ·obtain ⟨j,hj,e⟩:=Yaa ho
  have:=h4 j hj
  rw [nth_eq hj,e] at this;omega
theorem ZsY {n:Nat} {g:Zw} {id:Int} (h:Fit n g) (hz:(Z4 g id).2=0):Fit (n+1) (Z4 g id).1:=by
 obtain ⟨_,_,_,h4⟩:=ZsF hz
 rw [h4]
 obtain ⟨s1,s2⟩:=ZmG (t:=ZcT id) (Yx 24) h.2.1 h.2.2
 exact ⟨⟨Y0 (Y6 _ _) (by have:=h.1.1;omega),fun t ht=>h.1.2 t (YT.1 ht).1⟩,s1,s2⟩
def Zd8:Zw:=⟨[⟨1,true,[⟨true,1,0,0⟩,⟨false,2,0,0⟩]⟩,⟨2,true,[⟨true,2,0,0⟩,⟨false,1,0,0⟩]⟩],[⟨1,[2]⟩,⟨2,[1]⟩]⟩
theorem Zmh:Zaj Zd8 = [⟨1,2,3,1⟩,⟨2,1,3,2⟩]:=by decide +kernel
theorem Zdl:Zbs Zd8∧(wwC PT1 Zd8).length+(rdC PT1 Zd8).length≤100000:=⟨⟨⟨by decide,by decide⟩,by decide,by decide⟩,by decide +kernel⟩
theorem Zu7  : FnP prog 32 [] (.agg (Zx Zd8)):=by
 refine FnP.mk func32 rfl ntmps32 rfl fun B a w F V hfr G=>Ya ?_
 refine Zb G (qf (oH [.slice none 0 0,.slice none 0 0] 101) trivial qz qZ) V [0] [101,0] (fun _=>rfl) (fun _=>rfl) fun τ a w F G=>?_
 try dsimp only [RS.sub,SF.sub,CF.sub,csub,Anc.sub,List.map,zCF,Zx,rTx,ZJ,ZW,Zn,rOp] at G
 generalize τ 0=v0 at G
 refine Za (Ya (rZ G (qf (oB [(0,_),(1,_)] [.bool false,.int .i64 0,.int .i64 0,.int .i64 0] [(0,1),(1,1),(2,1),(3,1)] (.one rfl .cb Zfb kr (.one rfl qi one_int kr .nil))) trivial qz (qf (oB [(1,_)] [.bool false,.int .i64 0,.int .i64 0,.int .i64 0] [(0,1),(1,1),(2,1),(3,1)] (.one rfl qi one_int kr .nil)) trivial qz (qf (o_buildSliceE (sz:=4) (zs:=[.bool false,.int .i64 0,.int .i64 0,.int .i64 0]) (r:=[(0,.tmp 1),(1,.tmp 2)]) (l:=[_,_,_,_,_,_,_,_]) underlying28 kr kr kr kr rfl rfl (.agg rfl .t kr kr (.agg rfl .t kr kr .nil)) rfl) r2 qz (qf (oB [(0,_),(1,_),(2,.tmp 3)] [.int .i64 0,.bool false,.slice none 0 0] [(0,1),(1,1),(2,1)] (.one rfl qi one_int kr (.one rfl .cb Zfb kr (.one rfl .t Zex kr .nil)))) r1 qz (qf (oB [(0,_),(1,_)] [.bool false,.int .i64 0,.int .i64 0,.int .i64 0] [(0,1),(1,1),(2,1),(3,1)] (.one rfl .cb Zfb kr (.one rfl qi one_int kr .nil))) trivial qz (qf (oB [(1,_)] [.bool false,.int .i64 0,.int .i64 0,.int .i64 0] [(0,1),(1,1),(2,1),(3,1)] (.one rfl qi one_int kr .nil)) trivial qz (qf (o_buildSliceE (sz:=4) (zs:=[.bool false,.int .i64 0,.int .i64 0,.int .i64 0]) (r:=[(0,.tmp 5),(1,.tmp 6)]) (l:=[_,_,_,_,_,_,_,_]) underlying28 kr kr kr kr rfl rfl (.agg rfl .t kr kr (.agg rfl .t kr kr .nil)) rfl) r2 qz (qf (oB [(0,_),(1,_),(2,.tmp 7)] [.int .i64 0,.bool false,.slice none 0 0] [(0,1),(1,1),(2,1)] (.one rfl qi one_int kr (.one rfl .cb Zfb kr (.one rfl .t Zex kr .nil)))) r1 qz (qf (o_buildSliceE (sz:=3) (zs:=[.int .i64 0,.bool false,.slice none 0 0]) (r:=[(0,.tmp 4),(1,.tmp 8)]) (l:=[_,_,_,_,_,_]) underlying22 kr kr kr kr rfl rfl (.agg rfl .t kr kr (.agg rfl .t kr kr .nil)) rfl) r2 qz (qf (o_buildSliceE (sz:=1) (zs:=[.int .i64 0]) (r:=[(0,_)]) (l:=[_]) underlying45 kr kr kr kr rfl rfl (.one rfl qi one_int kr .nil) rfl) trivial qz (qf (oB [(0,_),(1,.tmp 10)] [.int .i64 0,.slice none 0 0] [(0,1),(1,1)] (.one rfl qi one_int kr (.one rfl .t Zex kr .nil))) r1 qz (qf (o_buildSliceE (sz:=1) (zs:=[.int .i64 0]) (r:=[(0,_)]) (l:=[_]) underlying45 kr kr kr kr rfl rfl (.one rfl qi one_int kr .nil) rfl) trivial qz (qf (oB [(0,_),(1,.tmp 12)] [.int .i64 0,.slice none 0 0] [(0,1),(1,1)] (.one rfl qi one_int kr (.one rfl .t Zex kr .nil))) r1 qz (qf (o_buildSliceE (sz:=2) (zs:=[.int .i64 0,.slice none 0 0]) (r:=[(0,.tmp 11),(1,.tmp 13)]) (l:=[_,_,_,_]) underlying23 kr kr kr kr rfl rfl (.agg rfl .t kr kr (.agg rfl .t kr kr .nil)) rfl) r2 qz (qf (oB [(0,.tmp 9),(1,.tmp 14)] [.slice none 0 0,.slice none 0 0] [(0,1),(1,1)] (.one rfl .t Zex kr (.one rfl .t Zex kr .nil))) r2 qz (qs 2 101 r2 r1 qZ)))))))))))))))) V [0] [101,0] fun G=>Yh ?_))
 refine Zab hfr G rfl (.cl 101 true 2 rfl rfl .nil) (.one (.aggLe rfl ⟨.arrSl (R:=rTx) (l':=[⟨1,true,[⟨true,1,0,0⟩,⟨false,2,0,0⟩]⟩,⟨2,true,[⟨true,2,0,0⟩,⟨false,1,0,0⟩]⟩]) rfl ⟨.refl,.refl,.arrSl (R:=rOp) (l':=[⟨true,1,0,0⟩,⟨false,2,0,0⟩]) rfl Zeq.refl,.refl,.refl,.arrSl (R:=rOp) (l':=[⟨true,2,0,0⟩,⟨false,1,0,0⟩]) rfl Zeq.refl,tv⟩,.arrSl (R:=ZJ) (l':=[⟨1,[2]⟩,⟨2,[1]⟩]) rfl ⟨.refl,.arrSl (R:=Zn) (l':=[2]) rfl Zeq.refl,.refl,.arrSl (R:=Zn) (l':=[1]) rfl Zeq.refl,tv⟩,tv⟩))
end Go.Proofs.YtlkpllemoepamaaGreat
