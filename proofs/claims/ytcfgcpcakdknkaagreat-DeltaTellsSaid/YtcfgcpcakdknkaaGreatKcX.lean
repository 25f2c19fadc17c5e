/- Kc1,Kc2,Kc3,Dl8,in one text. -/
import Derived.Test.YtcfgcpcakdknkaaGreatKc0
import Derived.Test.YtcfgcpcakdknkaaGreatDlX
import Derived.Test.YtcfgcpcakdknkaaGreatSrt
import Derived.Test.YtcfgcpcakdknkaaGreatOr1
import Derived.Test.YtcfgcpcakdknkaaGreatTx0
import Derived.Test.YtcfgcpcakdknkaaGreatLibL
namespace Go.Proofs.YtcfgcpcakdknkaaGreat
open Go Go.Gm
set_option linter.unusedVariables false
set_option linter.unusedSimpArgs false
set_option maxHeartbeats 4000000
set_option maxRecDepth 8000
open Go.RowKit Go.Maps Go.Sort Go.Shelf Go.ChangeMaps Go.MapKept
def encC (x:Int):List Value:=[.int .i64 x]
def encV (x:Int):Value:=.int .i64 x
def decV (v:Value):Int:=match v with
 | .int _ x=>x
 | _=>0
theorem decV_enc (x:Int):decV (encV x)=x:=rfl
theorem encC_one (x:Int):∀ u ∈ [Value.int .i64 x],u.oneCell' = true:=by simp [Value.oneCell']
theorem keys_pv {w:World} {y:Ys} : ∀ {l:List Int},(∀ x ∈ l,inR .i64 x)→PVs (l.flatMap rInt) (l.flatMap encC) w y
 | [],_=>trivial
 | x :: l,h=>⟨⟨rfl,rfl,h x (by simp)⟩,keys_pv fun z hz=>h z (by simp [hz])⟩
set_option maxRecDepth 100000 in
set_option maxHeartbeats 1000000 in
theorem kcKeys1 (F:Fence) (n:Nat) (h10:F.fn 150) (hro:F.round=none) (hn:1≤n) (l Bm off b clock:Nat) (es:Array MapEntry) (hnd:(es.toList.map (·.born)).Nodup) (hold:∀ x ∈ es.toList,x.born<clock) (hkv:∀ e ∈ es.toList,∃ k:Int,e.key=encV k) (J:List Int→World→Prop)
   (hY:∀ pre x W,J pre W→pre.length<es.size→YieldAt F (n - 1) Tryz.prog l #[encV x] W fun e W'=>e = .returned (.bool true)∧J (pre ++ [x]) W' ∧ KeepsWalks W W')
   (W:World) (hJ:AbidesFrom W.heap.size J) (hm:W.cell? ⟨Bm,off,none⟩ = some (.map (some b))) (hb:W.heap[b]? = some (.map es clock)) (h0:J [] W) :
   CallsIn F n Tryz.prog 150 #[.func (.yield l) #[] #[],.pointer (some ⟨Bm,off,none⟩)] W fun e W'=>(∃ v,e = .returned v) ∧ ∃ ss:List Int,(ss.map encV).Perm (es.toList.map (·.key))∧J ss W':=by
 have hbl:b<W.heap.size:=(Array.getElem?_eq_some_iff.1 hb).1
 refine callsIn_of_wp Tryz.func150 rfl h10 ?_ hro
 simp only [Tryz.ntmps150,List.size_toArray,List.length_cons,List.length_nil,Nat.reduceAdd,Nat.reduceSub,Array.replicate_succ,Array.replicate_zero,List.push_toArray,List.append_toArray,List.nil_append,List.cons_append]
 gi_wp2_with (first
   | (gi_at_range;refine wpListIn_range_raw rfl _ 135 rfl 3 3 (by kernel_rfl) b es clock rfl hb ?_)
   | gi_in)
 go_frame
 have hg0:W.grownBy (W.alloc (.mapIter (some b) clock #[] clock)) none:=World.grownBy_alloc W _ none
 have hr0:(W.alloc (.mapIter (some b) clock #[] clock)).heap[W.heap.size]? = some (.mapIter (some b) clock #[] clock):=World.alloc_heap_new W _
 have hb0:(W.alloc (.mapIter (some b) clock #[] clock)).heap[b]? = some (.map es clock):=(Below.heap_alloc _ _ b hbl).trans hb
 generalize W.alloc (.mapIter (some b) clock #[] clock)=w0 at hg0 hr0 hb0 ⊢
 gi_loopw [3] (fun _ wr=>∃ (seen:Array Nat) (c0:Nat) (ss:List Int),wr.heap[W.heap.size]? = some (.mapIter (some b) clock seen c0)∧clock≤c0∧wr.heap[b]? = some (.map es clock)∧(ss.map encV).Perm ((es.toList.filter fun x=>seen.contains x.born).map (·.key))∧ss.length+(leftOf es seen).size≤es.size∧J ss wr)
   (fun _ wr=>(leftOf es (wr.iterSeen W.heap.size)).size)
 case atStart=>
   exact ⟨#[],clock,[],hr0,Nat.le_refl _,hb0,by rw [seen_none];exact .nil,by rw [left_none];simp,hJ [] W w0 none h0 hg0 (fun r e=>by cases e)⟩
 case round=>
   obtain ⟨seen,c0,ss,hr,hsc,hbr,hp,hcs,hJs⟩:=hrel
   gi_wp2_with (first
     | (gi_at_next;refine wpListIn_next_raw rfl _ rfl W.heap.size b clock c0 seen es rfl hr hbr hold hsc (by omega) hnd ?_ ?_)
     | gi_in)
   · intro hl0
     gi_wp2
     go_end0
     exact ⟨⟨_,rfl⟩,ss,by rw [seen_all hl0] at hp;exact hp,hJs⟩
   · intro e w2 hN
     obtain ⟨hem,hes⟩:=mem_left hN.left
     obtain ⟨x,hx⟩:=hkv e hem
     have hr2:=hN.it
     have hb2:=hN.mp
     have hen:=hN.entry
     have hlt:=left_shrinks es seen e hN.left
     have hJ2:J ss w2:=hJ ss wr w2 (some W.heap.size) hJs hN.grown (fun r e9=>by cases e9;exact ⟨Nat.le_refl _,_,hr,rfl⟩)
     rw [hx] at hen
     obtain ⟨fn,tmps,assign,body,hy,hR⟩:=hY ss x w2 hJ2 (by omega)
     rw [hx]
     clear hN
     gi_wp2
     refine hR.mono ?_
     rintro e9 W3 ⟨rfl,hJ3,hk3⟩
     gi_wp2
     have hr3:=hk3.same _ _ hr2 rfl
     have hb3:=hk3.same _ _ hb2 rfl
     go_roundw
     case rel=>
       exact ⟨seen.push e.born,clock,ss ++ [x],hr3,Nat.le_refl _,hb3,by
         rw [List.map_append,List.map_singleton]
         have h9:=((seen_perm hnd hem hes).map (·.key)).symm
         rw [List.map_cons,hx] at h9
         exact ((List.perm_append_singleton _ _).trans (hp.cons _)).trans h9,by rw [List.length_append,List.length_singleton];omega,hJ3⟩
     case measure=>
       simp only [World.iterSeen,hr3,hr]
       exact hlt
end Go.Proofs.YtcfgcpcakdknkaaGreat
namespace Go.Proofs.YtcfgcpcakdknkaaGreat
open Go Go.Gm
set_option linter.unusedVariables false
set_option linter.unusedSimpArgs false
set_option maxHeartbeats 4000000
set_option maxRecDepth 8000
open Go.RowKit Go.Maps Go.Sort Go.Shelf Go.ChangeMaps Go.MapKept
theorem cells_new (w:World) (l:List Value) (t:TypeId):∀ j u,l[j]? = some u→(w.alloc (.cells l.toArray t)).cell? ((⟨w.heap.size,0,none⟩:Addr).add j)=some u:=by
 intro j u hj
 rw [show (⟨w.heap.size,0,none⟩:Addr).add j = ⟨w.heap.size,j,none⟩ from by cases j <;> simp [Addr.add]]
 rw [cell_of_block (vs:=l.toArray) (T:=t) (fr:=(0,0)) (World.alloc_heap_new w _)]
 simpa using hj
def kcApAssign : Code := (Code.region 2 #[{ dst := some 5, op := Op.assign (Operand.tmp 7), type := 3, pos := "iter.go:51", after := #[], guard := none }] false)
def kcApBody : Code := (Code.block 1 (Code.region 3 #[{ dst := some 8, op := Op.load 35 (Operand.tmp 2), type := 35, pos := "iter.go:52", after := #[], guard := none }, { dst := some 9, op := Op.move (Operand.tmp 5), type := 3, pos := "iter.go:52", after := #[], guard := none }, { dst := some 10, op := Op.buildSlice 35 1 #[(0, Operand.tmp 9)], type := 35, pos := "iter.go:52", after := #[{ on := 1, ground := Ground.data }], guard := none }, { dst := some 11, op := Op.call { callee := Callee.builtin Builtin.append, args := #[Operand.tmp 8, Operand.tmp 10], argTypes := #[35, 35] }, type := 35, pos := "iter.go:52", after := #[{ on := 0, ground := Ground.data }, { on := 2, ground := Ground.data }], guard := none }, { dst := none, op := Op.store 35 (Operand.tmp 2) (Operand.tmp 11), type := 0, pos := "iter.go:52", after := #[{ on := 3, ground := Ground.data }, { on := 3, ground := Ground.chain }, { on := 0, ground := Ground.phase }, { on := 1, ground := Ground.phase }, { on := 2, ground := Ground.phase }, { on := 3, ground := Ground.phase }], guard := none }] false))
def kcApRec (fn:FuncId) (sv:Value) (Bs D:Nat) (st:LoopState) (pend:Option Code):Loop:=
 { state:=st,pending:=pend,fn,tmps:=#[.slice none 0 0,sv,.pointer (some ⟨Bs,0,none⟩),undef,.slice none 0 0,undef,sv,undef,undef,undef,undef,undef,undef],params:=#[7],assign:=kcApAssign,body:=kcApBody,defers:=D }
structure kcApAt (w0:World) (fn:FuncId) (sv:Value) (Bs l D:Nat) (ss:List Int) (W:World):Prop where
 box:∃ v,W.heap[Bs]? = some (.cells #[v] 35 (0,0))∧W.ownsRow w0.heap.size 3 1 v ss.length (ss.flatMap encC)∧(v = .slice none 0 0 ↔ ss = [])
 L:W.heap[l]? = some (.loop (kcApRec fn sv Bs D .ready none))
 K:W.heap[D]? = some (.deferred (some []))
 below:Below w0.heap.size w0 W
theorem kcAp_abides (w0:World) (fn:FuncId) (sv:Value) (Bs l D B:Nat) (hB:w0.heap.size≤B):AbidesFrom B (kcApAt w0 fn sv Bs l D):=fun s W W' row h hg hrow=>by
 have hrow':∀ r,row=some r → ∃ o:Obj,W.heap[r]? = some o∧o.isWalk=true:=fun r e=>(hrow r e).2
 obtain ⟨v,hv,hr,hn⟩:=h.box
 exact ⟨⟨v,(grownBy_keeps hg hrow' hv rfl).trans hv,ownsRow_abides_a hr hg hrow',hn⟩,(grownBy_keeps hg hrow' h.L rfl).trans h.L,(grownBy_keeps hg hrow' h.K rfl).trans h.K,
   h.below.grown hg h.below.size (fun k e=>Nat.le_trans hB (hrow k e).1)⟩
set_option maxRecDepth 100000 in
set_option maxHeartbeats 2000000 in
theorem kcApYield (F:Fence) (m:Nat) (w0:World) (fn:FuncId) (hfn:F.fn fn) (sv:Value) (Bs l D:Nat) (hBl:Bs≠l) (hDl:D≠l) (hDB:D≠Bs) (h0B:w0.heap.size≤Bs) (h0l:w0.heap.size≤l)
   (N:Nat) (hN:N≤maxLen) (hNb:N*8≤140737488355328) (ss:List Int) (x:Int) (W:World) (h:kcApAt w0 fn sv Bs l D ss W) (hlen:ss.length<N) :
   YieldAt F m Tryz.prog l #[(.int .i64 x)] W fun e W'=>e = .returned (.bool true)∧kcApAt w0 fn sv Bs l D (ss ++ [x]) W' ∧ KeepsWalks W W':=by
 have hne:35≠3:=by decide
 obtain ⟨i0,hi,hz0,hz1,hz2⟩:=info_parts (show (Tryz.prog.info? 3).map (fun i=>(i.zero,i.size,i.bytes))=some (some (.int .i64 0),1,8) from by kernel_rfl)
 obtain ⟨v,hv,hrow,_⟩:=h.box
 refine ⟨fn,#[.slice none 0 0,sv,.pointer (some ⟨Bs,0,none⟩),undef,.slice none 0 0,undef,sv,(.int .i64 x),undef,undef,undef,undef,undef],kcApAssign,kcApBody,by simpa [kcApRec] using run_yield (P:=Tryz.prog) (args:=#[(.int .i64 x)]) h.L rfl,roundIn_of_wpIn hfn ?_⟩
 have hl:l<W.heap.size:=(Array.getElem?_eq_some_iff.1 h.L).1
 have hbr:=run_beginRound (P:=Tryz.prog) h.L rfl
 obtain ⟨W2,hW2⟩:∃ W2,W.putObj l (.loop { kcApRec fn sv Bs D .ready none with state:=.busy })=W2:=⟨_,rfl⟩
 rw [hW2] at hbr
 have hg2:W.grownBy W2 (some l):=by rw [← hW2];exact grownBy_putObj_a _ _ _
 have hk2:KeepsWalks W W2:=by rw [← hW2];exact KeepsWalks.putObj _ h.L rfl
 have hv2:W2.heap[Bs]? = some (.cells #[v] 35 (0,0)):=by rw [← hW2];exact (World.putObj_heap_other hBl).trans hv
 have hK2:W2.heap[D]? = some (.deferred (some [])):=by rw [← hW2];exact (World.putObj_heap_other hDl).trans h.K
 have hL2:W2.heap[l]? = some (.loop { kcApRec fn sv Bs D .ready none with state:=.busy }):=by rw [← hW2];exact World.putObj_heap_same hl
 have hrow2:W2.ownsRow w0.heap.size 3 1 v ss.length (ss.flatMap encC):=hrow.kept hg2 (ownsRow_ne_a hrow h.L (fun cur e=>by first | cases e | exact hne (Obj.cells.inj e).2.1))
 have hb2:Below w0.heap.size w0 W2:=h.below.grown hg2 h.below.size (fun k e=>by cases e;exact h0l)
 obtain ⟨hc2,hf2⟩:=cell_of_box_a hv2
 have hBlt:Bs<W2.heap.size:=(Array.getElem?_eq_some_iff.1 hv2).1
 have hl2:l<W2.heap.size:=(Array.getElem?_eq_some_iff.1 hL2).1
 have hDlt:D<W2.heap.size:=(Array.getElem?_eq_some_iff.1 hK2).1
 have ne_of:∀ {j:Nat} {o:Obj},W2.heap[j]? = some o→(∀ cur,o ≠ .cells cur 3 (0,0))→some j≠v.ownBlock:=fun hj hno=>by
   rcases ownsRow_ne_a hrow2 hj hno with e | e
   · rw [e];simp
   · exact fun e'=>e e'.symm
 clear hW2
 unfold kcApAssign
 gi_wp2_with gi_round_op_a
 unfold kcApBody
 gi_wp2_with (first
   | (gi_at_builtin;refine wpListIn_append_own _ rfl _ _ 35 rfl w0.heap.size 3 i0 (.int .i64 0) 1 8 Tryz.underlying35 hi hz0 hz1 hz2 rfl (by decide) _ _ _ rfl (hrow2.alloc _) ⟨W2.heap.size,0,none⟩ 1 1 ([.int .i64 x]) rfl rfl (cells_new _ _ _) (encC_one x) (by omega) (by omega) (by have:=hb2.size;simp;omega) ?_;intro v' w3 hown' hg3 hnil3
      have hv3:w3.heap[Bs]? = some (.cells #[v] 35 (0,0)):=(hg3.block Bs (by simp;omega) (ne_of hv2 (fun cur e=>by first | cases e | exact hne (Obj.cells.inj e).2.1))).trans ((Below.heap_alloc _ _ Bs hBlt).trans hv2)
      obtain ⟨hc3,hf3⟩:=cell_of_box_a hv3
      obtain ⟨g',cap',cur',rfl,hbase',hgb',hr1,hr2,hr3,hr4⟩:∃ g' cap' cur',v' = .slice (some ⟨g',0,none⟩) (ss.length+1) cap' ∧ w0.heap.size≤g' ∧ w3.heap[g']? = some (.cells cur' 3 (0,0))∧ss.length+1≤cap' ∧ cap' ≤ maxLen∧cur'.size=cap' * 1∧cur'.toList.take ((ss.length+1)*1)=ss.flatMap encC ++ [.int .i64 x]:=by
        rcases hown'.2 with ⟨_,h0⟩ | h'
        · exact absurd h0 (by omega)
        · exact h'
      go_frame)
   | gi_round_op_a)
 have hg3':(W2.alloc (.cells ([.int .i64 x]).toArray 3)).grownBy w3 v.ownBlock:=hg3
 have hL3:w3.heap[l]? = some (.loop { kcApRec fn sv Bs D .ready none with state:=.busy }):=(hg3'.block l (by simp;omega) (ne_of hL2 (fun cur e=>by first | cases e | exact hne (Obj.cells.inj e).2.1))).trans ((Below.heap_alloc _ _ l hl2).trans hL2)
 have hK3:w3.heap[D]? = some (.deferred (some [])):=(hg3'.block D (by simp;omega) (ne_of hK2 (fun cur e=>by first | cases e | exact hne (Obj.cells.inj e).2.1))).trans ((Below.heap_alloc _ _ D hDlt).trans hK2)
 obtain ⟨w4,hw4⟩:∃ w4,w3.setCell ⟨Bs,0,none⟩ (.slice (some ⟨g',0,none⟩) (ss.length+1) cap')=w4:=⟨_,rfl⟩
 rw [hw4]
 have hg4:w3.grownBy w4 (some Bs):=by rw [← hw4];exact grownBy_setCell0_a _ _ _
 have hv4:w4.heap[Bs]? = some (.cells #[.slice (some ⟨g',0,none⟩) (ss.length+1) cap'] 35 (0,0)):=by rw [← hw4];exact heap_setCell_box_a _ hv3
 have hL4:w4.heap[l]? = some (.loop { kcApRec fn sv Bs D .ready none with state:=.busy }):=(hg4.block l (Array.getElem?_eq_some_iff.1 hL3).1 (fun e=>hBl (by cases e;rfl))).trans hL3
 have hK4:w4.heap[D]? = some (.deferred (some [])):=(hg4.block D (Array.getElem?_eq_some_iff.1 hK3).1 (fun e=>hDB (by cases e;rfl))).trans hK3
 have hrow4:=hown'.kept hg4 (ownsRow_ne_a hown' hv3 (fun cur e=>by first | cases e | exact hne (Obj.cells.inj e).2.1))
 have hl4:l<w4.heap.size:=(Array.getElem?_eq_some_iff.1 hL4).1
 have hb3:Below w0.heap.size w0 w3:=(hb2.alloc hb2.size _).grown hg3' (by have:=hb2.size;simp;omega) (fun k e=>(hrow2.lt k e).1)
 have hb4:Below w0.heap.size w0 w4:=hb3.grown hg4 hb3.size (fun k e=>by cases e;exact h0B)
 have hk4:KeepsWalks W w4:=((hk2.trans (KeepsWalks.alloc _ _)).trans (KeepsWalks.of_grownBy hg3' (ownsRow_not_walk_a (hrow2.alloc _)))).trans (by rw [← hw4];exact KeepsWalks.setCell _ _ _)
 clear hw4
 refine ⟨_,_,run_endRound none hL4,rfl,⟨⟨_,(World.putObj_heap_other hBl).trans hv4,?_,by simp⟩,World.putObj_heap_same hl4,(World.putObj_heap_other hDl).trans hK4,hb4.grown (grownBy_putObj_a _ _ _) hb4.size (fun k e=>by cases e;exact h0l)⟩,hk4.trans (KeepsWalks.putObj _ hL4 rfl)⟩
 have:=hrow4.kept (grownBy_putObj_a w4 l (.loop { { kcApRec fn sv Bs D .ready none with state:=.busy } with state:=if (none:Option Code).isNone then .ready else .done,pending:=none })) (ownsRow_ne_a hrow4 hL4 (fun cur e=>by first | cases e | exact hne (Obj.cells.inj e).2.1))
 rw [List.flatMap_append,show [x].flatMap encC = [.int .i64 x] from rfl,List.length_append]
 simpa using this
set_option maxRecDepth 100000 in
set_option maxHeartbeats 2000000 in
theorem kcAppendSeq_in (F:Fence) (n:Nat) (h11:F.fn 176) (hro:F.round=none) (hn:2≤n) (g:Nat) (lb:Array Value) (hFg:F.fn g) (eg:∀ args w,(callFunc g args).run Tryz.prog w = .ok (.enter g args) w)
   (S:List Int→Prop) (N:Nat) (hN:N≤maxLen) (hNb:N*8≤140737488355328) (w:World) (hseq:SeqGives F (n - 1) Tryz.prog g lb encV S N w) :
   CallsIn F n Tryz.prog 176 #[.slice none 0 0,.func (.func g) #[] lb] w fun e w'=>∃ (v:Value) (ss:List Int),e = .returned v∧S ss∧w'.ownsRow w.heap.size 3 1 v ss.length (ss.flatMap encC)∧(v = .slice none 0 0 ↔ ss = [])∧Below w.heap.size w w':=by
 have h1:1≤n:=by omega
 have hne:35≠3:=by decide
 refine callsIn_of_wp_marks Tryz.func176 rfl h11 ?_ hro
 simp only [Tryz.ntmps176,List.size_toArray,List.length_cons,List.length_nil,Nat.reduceAdd,Nat.reduceSub,Array.replicate_succ,Array.replicate_zero,List.push_toArray,List.append_toArray,List.nil_append,List.cons_append]
 gi_wp2
 refine wpIn_rangeFunc ?_
 intro fn hfn
 rw [hro]
 obtain ⟨W0,hW0⟩:∃ W0,w.alloc (.cells #[.slice none 0 0] 35)=W0:=⟨_,rfl⟩
 have hs0:W0.heap.size=w.heap.size+1:=by rw [← hW0];simp
 have hv0:W0.heap[w.heap.size]? = some (.cells #[.slice none 0 0] 35 (0,0)):=by rw [← hW0];exact World.alloc_heap_new w _
 have hb0:Below w.heap.size w W0:=by rw [← hW0];exact (Below.refl _ w).alloc (Nat.le_refl _) _
 rw [hW0]
 obtain ⟨W1,hW1⟩:∃ W1,(W0.alloc (.deferred (some []))).alloc (.loop (kcApRec fn (.func (.func g) #[] lb) w.heap.size W0.heap.size .ready none))=W1:=⟨_,rfl⟩
 have hold:∀ k,k<W0.heap.size→W1.heap[k]? = W0.heap[k]?:=fun k hk=>by
   rw [← hW1];exact (Below.heap_alloc _ _ k (by simp;omega)).trans (Below.heap_alloc _ _ k hk)
 have hb1:Below w.heap.size w W1:=by rw [← hW1];exact (hb0.alloc hb0.size _).alloc (by have:=hb0.size;simp;omega) _
 have hs1:W1.heap.size=W0.heap.size+2:=by rw [← hW1];simp
 have hM:kcApAt w fn (.func (.func g) #[] lb) w.heap.size (W0.heap.size+1) W0.heap.size [] W1:=
   ⟨⟨_,(hold w.heap.size (by omega)).trans hv0,⟨rfl,.inl ⟨rfl,rfl⟩⟩,by simp⟩,
    by rw [← hW1];have:=World.alloc_heap_new (W0.alloc (.deferred (some []))) (.loop (kcApRec fn (.func (.func g) #[] lb) w.heap.size W0.heap.size .ready none));rwa [World.size_alloc] at this,
    by rw [← hW1];exact (Below.heap_alloc _ _ _ (by simp)).trans (World.alloc_heap_new W0 _),hb1⟩
 refine ⟨W0.heap.size+1,[{ target:=.collected W0.heap.size,args:=#[] }],W1,{ target:=.fn (.func g) lb,args:=#[.func (.yield (W0.heap.size+1)) #[] #[]] },W1,g,
   #[.func (.yield (W0.heap.size+1)) #[] #[]] ++ lb,W1,?_,?_,?_,?_,fun _=>h1,?_⟩
 · rw [← hW1];exact run_enterLoop_outer _ _ _ _ _
 · simp [resolve,go_sem]
 · intro f' hf';simp [Target.leads] at hf';subst hf';exact hFg
 · simp [invoke,go_sem,eg]
 · refine (hseq (W0.heap.size+1) (kcApAt w fn (.func (.func g) #[] lb) w.heap.size (W0.heap.size+1) W0.heap.size) W1 hb1 (kcAp_abides _ _ _ _ _ _ _ hb1.size)
     (fun pre x W hJ hl=>kcApYield F (n - 1 - 1) w fn hfn _ w.heap.size (W0.heap.size+1) W0.heap.size (by omega) (by omega) (by omega) (Nat.le_refl _) (by omega) N hN hNb pre x W hJ hl) hM).mono ?_
   rintro e W2 ⟨⟨v0,rfl⟩,ss,hS,h2⟩
   obtain ⟨v,hv,hrow,hnil⟩:=h2.box
   have hend:=run_endLoop (P:=Tryz.prog) h2.L (by simp [kcApRec])
   obtain ⟨W3,hW3⟩:∃ W3,W2.putObj (W0.heap.size+1) (.loop { kcApRec fn (.func (.func g) #[] lb) w.heap.size W0.heap.size .ready none with state:=.exhausted })=W3:=⟨_,rfl⟩
   rw [hW3] at hend
   have hg3:W2.grownBy W3 (some (W0.heap.size+1)):=by rw [← hW3];exact grownBy_putObj_a _ _ _
   have hv3:W3.heap[w.heap.size]? = some (.cells #[v] 35 (0,0)):=by rw [← hW3];exact (World.putObj_heap_other (by omega)).trans hv
   have hK3:W3.heap[W0.heap.size]? = some (.deferred (some [])):=by rw [← hW3];exact (World.putObj_heap_other (by omega)).trans h2.K
   have hrow3:=hrow.kept hg3 (ownsRow_ne_a hrow h2.L (fun cur e=>by first | cases e | exact hne (Obj.cells.inj e).2.1))
   have hb3:Below w.heap.size w W3:=h2.below.grown hg3 h2.below.size (fun k e=>by cases e;omega)
   obtain ⟨hc3,hf3⟩:=cell_of_box_a hv3
   clear hW3
   refine ⟨none,W3,hend,?_⟩
   gi_wp2
   rw [← hs0]
   refine ⟨by simp,.inl ⟨_,_,rfl,run_takeDeferred hK3,?_⟩⟩
   exact ⟨_,results_tmp rfl _ _ _,v,ss,rfl,hS,hrow3.kept (grownBy_putObj_a _ _ _) (ownsRow_ne_a hrow3 hK3 (fun cur e=>by first | cases e | exact hne (Obj.cells.inj e).2.1)),hnil,hb3.grown (grownBy_putObj_a _ _ _) hb3.size (fun k e=>by cases e;omega)⟩
set_option maxHeartbeats 1000000 in
theorem kcCollect_in (F:Fence) (n:Nat) (h8:F.fn 149) (h11:F.fn 176) (hro:F.round=none) (hn:3≤n) (g:Nat) (lb:Array Value) (hFg:F.fn g) (eg:∀ args w,(callFunc g args).run Tryz.prog w = .ok (.enter g args) w)
   (S:List Int→Prop) (N:Nat) (hN:N≤maxLen) (hNb:N*8≤140737488355328) (w:World) (hseq:SeqGives F (n - 1 - 1) Tryz.prog g lb encV S N w) :
   CallsIn F n Tryz.prog 149 #[.func (.func g) #[] lb] w fun e w'=>∃ (v:Value) (ss:List Int),e = .returned v∧S ss∧w'.ownsRow w.heap.size 3 1 v ss.length (ss.flatMap encC)∧(v = .slice none 0 0 ↔ ss = [])∧Below w.heap.size w w':=by
 have h1:1≤n:=by omega
 have e11:∀ args w,(callFunc 176 args).run Tryz.prog w = .ok (.enter 176 args) w:=enters_of Tryz.func176 (by kernel_rfl) rfl
 refine callsIn_of_wp Tryz.func149 rfl h8 ?_ hro
 simp only [Tryz.ntmps149,List.size_toArray,List.length_cons,List.length_nil,Nat.reduceAdd,Nat.reduceSub,Array.replicate_succ,Array.replicate_zero,List.push_toArray,List.append_toArray,List.nil_append,List.cons_append]
 gi_wp2_with (gi_at_fn 176;refine (kcAppendSeq_in F (n - 1) h11 hro (by omega) g lb hFg eg S N hN hNb _ hseq).mono ?_;rintro e w' ⟨v,ss,rfl,hS,hrow,hnil,hb⟩)
 go_ret
 exact ⟨v,ss,rfl,hS,hrow,hnil,hb⟩
end Go.Proofs.YtcfgcpcakdknkaaGreat
namespace Go.Proofs.YtcfgcpcakdknkaaGreat
open Go Go.Gm
set_option linter.unusedVariables false
set_option linter.unusedSimpArgs false
set_option maxHeartbeats 4000000
set_option maxRecDepth 8000
open Go.RowKit Go.Maps Go.Sort Go.Shelf Go.ChangeMaps Go.MapKept
theorem perm_dec {α:Type} {enc:α→Value} {dec:Value→α} (h:∀ x,dec (enc x)=x) {l m:List α} (hp:(l.map enc).Perm (m.map enc)):l.Perm m:=by
 have h1:=hp.map dec
 rw [List.map_map,List.map_map] at h1
 have e:dec ∘ enc=id:=by funext x;exact h x
 rwa [e,List.map_id,List.map_id] at h1
theorem kcCollect_c {ν:Type} (ek:ν→PV) (mv:Value) (es:List (GE Int ν)) (ck:Nat) (hN:es.length≤1000000000):FnG Tryz.prog 149 2 [.clos 150 [.ref [.is mv]]] [mapG ek (fun n:Int=>inR .i64 n) (fun n:Int=>Value.int .i64 n) es ck mv,.star []] PV.one (fun v=>[mapG ek (fun n:Int=>inR .i64 n) (fun n:Int=>Value.int .i64 n) es ck mv,.ex fun l:List Int=>.and (l.Perm (es.map (·.key))) (rowH 3 1 rInt l v)]):=fun w F vs hw hle hvs hpr=>by
 match vs,hvs with
 | [fv],hvs=>
   obtain ⟨caps,hfv,hcaps⟩:=hvs.1
   match caps,hcaps with
   | [cu],hcaps=>
     obtain ⟨Bm,off,us,hcu,hny,hBm,hc,hus⟩:=hcaps.1
     match us,hus with
     | [mu],hus=>
       have hmu:mu=mv:=hus.1.2.1
       subst hmu
       subst hcu
       subst hfv
       obtain ⟨b,rs,hmv,hb,hg,⟨hwf,hkeys⟩,hf⟩:=hpr 0 _ rfl
       have hst:∀ c,¬ F 2 c:=hpr 1 _ rfl
       subst hmv
       have hbl:b<w.heap.size:=(Array.getElem?_eq_some_iff.1 hb).1
       have hm:w.cell? ⟨Bm,off,none⟩ = some (.map (some b)):=hc.1
       have hkm:rs.map (·.key)=es.map (·.key):=hg.keys
       have hbm:rs.map (·.born)=es.map (·.born):=hg.borns
       have hnd:(((rs.map (rEnc (fun n:Int=>Value.int .i64 n))).toArray).toList.map (·.born)).Nodup:=by
         have e1:((rs.map (rEnc (fun n:Int=>Value.int .i64 n))).toArray).toList.map (·.born)=rs.map (·.born):=by rw [List.map_map];rfl
         rw [e1,hbm];exact hwf.1
       have hold:∀ x ∈ ((rs.map (rEnc (fun n:Int=>Value.int .i64 n))).toArray).toList,x.born<ck:=fun x hx=>by
         obtain ⟨r,hr,rfl⟩:=List.mem_map.1 hx
         have h1:r.born ∈ es.map (·.born):=hbm ▸ List.mem_map.2 ⟨r,hr,rfl⟩
         obtain ⟨e,he,e1⟩:=List.mem_map.1 h1
         show r.born<ck
         rw [← e1];exact hwf.2 e he
       have hkv:∀ x ∈ ((rs.map (rEnc (fun n:Int=>Value.int .i64 n))).toArray).toList,∃ k:Int,x.key=encV k:=fun x hx=>by
         obtain ⟨r,_,rfl⟩:=List.mem_map.1 hx
         exact ⟨r.key,rfl⟩
       have hlen:((rs.map (rEnc (fun n:Int=>Value.int .i64 n))).toArray).size=es.length:=by
         have h1:=congrArg List.length hkm
         simp at h1 ⊢;exact h1
       have hseq:SeqGives Fence.wide 10 Tryz.prog 150 #[.pointer (some ⟨Bm,off,none⟩)] encV (fun ss=>(ss.map encV).Perm (((rs.map (rEnc (fun n:Int=>Value.int .i64 n))).toArray).toList.map (·.key))) ((rs.map (rEnc (fun n:Int=>Value.int .i64 n))).toArray).size w:=fun l J W hW hJ hY h0=>
         kcKeys1 Fence.wide 10 trivial rfl (by omega) l Bm off b ck _ hnd hold hkv J hY W hJ ((hW.cell (p:=⟨Bm,off,none⟩) hBm).trans hm) ((hW.block b hbl).trans hb) h0
       have eg:∀ args w,(callFunc 150 args).run Tryz.prog w = .ok (.enter 150 args) w:=enters_of Tryz.func150 (by kernel_rfl) rfl
       have hcalls:=callsIn_wide.1 (kcCollect_in Fence.wide 12 trivial trivial rfl (by omega) 150 #[.pointer (some ⟨Bm,off,none⟩)] trivial eg _ _ (by rw [hlen];unfold maxLen;omega) (by rw [hlen];omega) w hseq)
       refine hcalls.mono ?_
       rintro e w' ⟨v,ss,rfl,hS,hrow,hnil,hbel⟩
       have hss:ss.Perm (es.map (·.key)):=by
         have e1:((rs.map (rEnc (fun n:Int=>Value.int .i64 n))).toArray).toList.map (·.key)=(es.map (·.key)).map encV:=by
           rw [← hkm,List.map_map,List.map_map];rfl
         rw [e1] at hS
         exact perm_dec decV_enc hS
       have hown:∀ c,v.ownBlock=some c→w.heap.size≤c∧c<w'.heap.size:=fun c hc9=>by
         rcases hrow.2 with ⟨rfl,_⟩ | ⟨g,cap,cur,rfl,hbase,hgb,_⟩
         · simp [Value.ownBlock] at hc9
         · simp [Value.ownBlock] at hc9
           subst hc9
           exact ⟨hbase,(Array.getElem?_eq_some_iff.1 hgb).1⟩
       have hrow0:w'.ownsRow 0 3 1 v ss.length (ss.flatMap encC):=⟨hrow.1,by
         rcases hrow.2 with h | ⟨g,cap,cur,h1,_,h3⟩
         · exact .inl h
         · exact .inr ⟨g,cap,cur,h1,Nat.zero_le _,h3⟩⟩
       have hst2:Stp (List.range' 1 2) w F w' (fun n c=>F n c∨(n=2∧v.ownBlock=some c)):=⟨hbel.os,hbel.tape,hbel.output,hbel.size,fun c hc9 _=>hbel.block c hc9,fun n hn=>by
           funext c
           have:n≠2:=fun e=>hn (by subst e;simp)
           simp [this],fun n hn c hc9=>by
           rcases hc9 with h | ⟨_,h⟩
           · exact .inl ⟨n,hn,h⟩
           · exact .inr (hown c h).1⟩
       refine ⟨v,_,rfl,⟨fun n m c h1 h2=>?_,fun n c h1=>?_⟩,hst2,fun n c h1=>?_,?_,fun i h hi=>?_⟩
       · rcases h1 with h1 | ⟨h1,h1'⟩ <;> rcases h2 with h2 | ⟨h2,h2'⟩
         · exact hw.dis n m c h1 h2
         · have:=hw.bd n c h1;have:=(hown c h2').1;omega
         · have:=hw.bd m c h2;have:=(hown c h1').1;omega
         · omega
       · rcases h1 with h1 | ⟨_,h1⟩
         · have:=hw.bd n c h1;have:=hbel.size;omega
         · exact (hown c h1).2
       · rcases h1 with h1 | ⟨h1,_⟩
         · exact hle n c h1
         · omega
       · show v.oneCell' = true
         rcases hrow.2 with ⟨rfl,_⟩ | ⟨g,cap,cur,rfl,_⟩ <;> rfl
       · match i,hi with
         | 0,hi=>
           simp only [List.getElem?_cons_zero,Option.some.injEq] at hi
           subst hi
           exact ⟨b,rs,rfl,(hbel.block b hbl).trans hb,hg.mono hst2.ev,⟨hwf,hkeys⟩,fun c=>by rw [← hf c];simp⟩
         | 1,hi=>
           simp only [List.getElem?_cons_succ,List.getElem?_cons_zero,Option.some.injEq] at hi
           subst hi
           refine ⟨ss,hss,ss.flatMap encC,hrow0,keys_pv fun x hx=>?_,fun c=>?_⟩
           · obtain ⟨e,he,e1⟩:=List.mem_map.1 (hss.mem_iff.1 hx)
             rw [← e1];exact hkeys e he
           · have:=hst c
             simp [this]
end Go.Proofs.YtcfgcpcakdknkaaGreat
namespace Go.Proofs.YtcfgcpcakdknkaaGreat
open Go Go.Gm
set_option linter.unusedVariables false
set_option linter.unusedSimpArgs false
set_option maxHeartbeats 4000000
set_option maxRecDepth 8000
theorem mkeys_c (mv:Value):FnP Tryz.prog 118 [.is mv] (.clos 150 [.ref [.is mv]]):=by
 refine FnP.mk Tryz.func118 rfl Tryz.ntmps118 rfl ?_
 intro B a w F hB hfr hS
 refine wp_seq ?_
 refine region_q hS (qf (o_box1 101 .t one_is) r1 qz (qf (oN (.c rfl)) trivial qz qZ)) hB ?_
 clear hS;intro a w F hS
 replace hS:=hS.sub
 obtain ⟨F,hS⟩:=hS.nm [2,1] [101,0] rfl rfl
 try dsimp only [RS.sub,SF.sub,CF.sub,csub,Anc.sub,List.map,zCF] at hS
 generalize Act.tau a 1=v1 at hS
 obtain ⟨F,hS⟩:=hS.giveRef 101 1 rfl rfl rfl
 obtain ⟨F,hS⟩:=hS.nm [2,1] [0] rfl rfl
 try dsimp only [Go.Gm.unCF] at hS
 refine then_n (wp_seq ?_)
 refine region_z hS (qf (o_makeFunc (Args.one .t)) r1 qz (qN rfl rfl qZ)) hB [2] [0] rfl rfl ?_
 clear hS;intro a w F hS
 refine then_n (wp_ret ?_)
 refine ret_P hfr hS rfl (.tmp rfl .nil) (.one .refl)
theorem sortedI_c (mv:Value) (es:List (GE Int Int)) (ck:Nat) (ks:List Int) (hk:KSet es ks) (hl9:ks.length≤100000):FnG Tryz.prog 117 2 [.clos 150 [.ref [.is mv]]] [MPI es ck mv,.star []] (PV.one) (fun v=>[MPI es ck mv,rowH 3 1 rInt (keysL ks) v]):=by
 refine FnG.mk Tryz.func117 rfl Tryz.ntmps117 rfl (by kernel_rfl) ?_
 intro B F0 a w F hB hG hS
 refine wp_seq ?_
 refine region_z hS (qf (oN (.c rfl)) trivial qz qZ) hB [2,0] [2,1,0] rfl rfl ?_
 clear hS;intro a w F hS
 refine then_n (wp_seq ?_)
 refine region_q hS (qM rfl rfl (qf (o_callG2N 1 2 (kcCollect_c (fun n:Int=>PV.int .i64 n) mv es ck (by have:=hk.len;omega)) Tryz.func149 rfl (by kernel_rfl) rfl (Args.one .t) pvOne1) r1 r2 (qN rfl rfl qZ))) hB ?_
 clear hS;intro a w F hS
 replace hS:=hS.sub
 obtain ⟨F,hS⟩:=hS.nm [3,2] [2,1,0] rfl rfl
 try dsimp only [RS.sub,SF.sub,CF.sub,csub,Anc.sub,List.map,rInt] at hS
 generalize Act.tau a 5=v5 at hS
 replace hS:=hS.turn 2 rfl (r':=RS.hp (HP.ex fun l:List Int=>HP.and (l.Perm (es.map fun z:GE Int Int=>z.key)) (rowH 3 1 rInt l v5))) (fun _ _ _ _ h=>h)
 obtain ⟨ks2,hS⟩:=hS.open_ex 2 rfl
 obtain ⟨hks,hS⟩:=hS.open_and 2 rfl
 replace hS:=hS.turn 2 rfl (r':=.ob (.val v5) (rowH 3 1 rInt ks2)) (fun _ _ _ _ h=>h)
 have hkl:ks2.length≤1000000:=by have h1:=hks.length_eq;have h2:=hk.len;rw [List.length_map] at h1;omega
 obtain ⟨F,hS⟩:=hS.nm [3,2] [2,1,0] rfl rfl
 refine then_n (wp_seq ?_)
 refine region_z hS (qM rfl rfl (qf (o_callRow 2 (sort_c _ ks2 hkl) Tryz.func82 rfl (by kernel_rfl) (Args.one .t)) r1 r1 qZ)) hB [3,2] [2,1,0] rfl rfl ?_
 clear hS;intro a w F hS
 rw [hk.sorted hks] at hS
 refine then_n (wp_seq ?_)
 refine region_z hS (qM rfl rfl (qN rfl rfl qZ)) hB [2] [2,1,0] rfl rfl ?_
 clear hS;intro a w F hS
 refine then_n (wp_ret ?_)
 have hS:=hS.turn 2 rfl (r':=RS.hp (rowH 3 1 rInt (keysL ks) v5)) (fun _ _ _ _ h=>h)
 refine ret_N2 (k2:=fun v=>rowH 3 1 rInt (keysL ks) v) hG hS rfl (.tmp rfl .nil) (.one .one) rfl rfl
end Go.Proofs.YtcfgcpcakdknkaaGreat
