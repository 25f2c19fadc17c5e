/- Ranges over maps. No condition beyond those that each theorem says. -/
import Derived.Test.YtcfgcpcakdknkaaGreatLibG
import Derived.Shelf.SlIter.Collect
import Derived.Maps.RangeRun
import Derived.Sort.MapsRangeIn
import Derived.RangeFuncBound
namespace Go.Proofs.YtcfgcpcakdknkaaGreat
open Go Go.Gm
set_option linter.unusedVariables false
set_option linter.unusedSimpArgs false
set_option maxHeartbeats 4000000
set_option maxRecDepth 8000
open Go.RowKit Go.Maps Go.Sort Go.Shelf Go.ChangeMaps Go.MapKept
section
variable {F:Fence} {n:Nat} {P:Program} {ops:Array Oper} {rest:List Oper} {o:Oper} {a:Act} {w:World} {Q:Exit→Act→World→Prop}
theorem wpListIn_range_raw (hg:o.guard=none) (m:Operand) (t:TypeId) (hop:o.op=Op.range t m) (k e:TypeId) (ht:P.underlying t=some (.map k e)) (b:Nat) (es:Array MapEntry) (clock:Nat) (hm:a.eval m = .map (some b)) (hb:w.heap[b]? = some (.map es clock))
   (hK:wpListIn F n P ops Q rest (a.put o.dst (.pointer (some ⟨w.heap.size,0,none⟩))) (w.alloc (.mapIter (some b) clock #[] clock))):wpListIn F n P ops Q (o :: rest) a w:=by
 refine wpListIn_plain hg fun K' hK'=>?_
 unfold Oper.wpIn
 refine ⟨by simp [Oper.about,hop],?_⟩
 rw [Oper.semAt_plain F _ _ (by rw [hop];intro c hc';cases hc')]
 simp [execOp,hop,hm,run_range_map w t k e b es clock ht hb,Result.andThen]
 exact hK' _ _ hK
end
theorem iter_step {w w1:World} {r b:Nat} {clock c0:Nat} {seen:Array Nat} {es:Array MapEntry} {x:Nat} (hal:w1=w∨w1=w.drew) (hr:w.heap[r]? = some (.mapIter (some b) clock seen c0)) (hb:w.heap[b]? = some (.map es clock)) (hne:r≠b) :
   (setBlock w1 r (.mapIter (some b) clock (seen.push x) clock)).heap[r]? = some (.mapIter (some b) clock (seen.push x) clock)∧(setBlock w1 r (.mapIter (some b) clock (seen.push x) clock)).heap[b]? = some (.map es clock)∧w.grownBy (setBlock w1 r (.mapIter (some b) clock (seen.push x) clock)) (some r):=by
 have hr1:w1.heap[r]? = some (.mapIter (some b) clock seen c0):=by rcases hal with rfl | rfl <;> exact hr
 have hb1:w1.heap[b]? = some (.map es clock):=by rcases hal with rfl | rfl <;> exact hb
 have hset:=heap_set (o':=.mapIter (some b) clock (seen.push x) clock) hr1
 refine ⟨hset.1,(hset.2 b (fun e1=>hne e1.symm)).trans hb1,?_⟩
 rcases hal with rfl | rfl <;> exact ⟨rfl,rfl,rfl,by simp [setBlock],fun i _ hi=>hset.2 i (fun e1=>hi (by rw [e1]))⟩
def NoneLeft (es:Array MapEntry) (seen:Array Nat):Prop:=(leftOf es seen).size=0
structure NextStep (P:Program) (w w2:World) (r b clock:Nat) (seen:Array Nat) (es:Array MapEntry) (e:MapEntry):Prop where
 left:e ∈ (leftOf es seen).toList
 it:w2.heap[r]? = some (.mapIter (some b) clock (seen.push e.born) clock)
 mp:w2.heap[b]? = some (.map es clock)
 grown:w.grownBy w2 (some r)
 entry:(Instr.entry (.pointer (some ⟨r,0,none⟩))).run P w2 = .ok (.tuple #[e.key,e.val]) w2
section
variable {F:Fence} {n:Nat} {P:Program} {ops:Array Oper} {rest:List Oper} {o:Oper} {a:Act} {w:World} {Q:Exit→Act→World→Prop}
theorem wpListIn_next_raw (hg:o.guard=none) (it:Operand) (hop:o.op=Op.next it false) (r b clock c0:Nat) (seen:Array Nat) (es:Array MapEntry) (hit:a.eval it = .pointer (some ⟨r,0,none⟩))
   (hr:w.heap[r]? = some (.mapIter (some b) clock seen c0)) (hb:w.heap[b]? = some (.map es clock)) (hold:∀ x ∈ es.toList,x.born<clock) (hsc:clock≤c0) (hne:r≠b) (hnd:(es.toList.map (·.born)).Nodup)
   (hDone:NoneLeft es seen→wpListIn F n P ops Q rest (a.put o.dst (.tuple #[.bool false])) w)
   (hMore:∀ (e:MapEntry) (w2:World),NextStep P w w2 r b clock seen es e→wpListIn F n P ops Q rest (a.put o.dst (.tuple #[.bool true,e.key,e.val])) w2) :
   wpListIn F n P ops Q (o :: rest) a w:=by
 refine wpListIn_plain hg fun K' hK'=>?_
 unfold Oper.wpIn
 refine ⟨by simp [Oper.about,hop],?_⟩
 rw [Oper.semAt_plain F _ _ (by rw [hop];intro c hc';cases hc')]
 rcases run_next_at (P:=P) w o.type r b clock c0 seen es clock hr hb hold hsc with ⟨h0,hrun⟩ | ⟨e,he,w1,hal,hrun⟩
 · simp [execOp,hop,hit,hrun,Result.andThen]
   exact hK' _ _ (hDone h0)
 · simp [execOp,hop,hit,hrun,Result.andThen]
   obtain ⟨h1,h2,h3⟩:=iter_step (x:=e.born) hal hr hb hne
   exact hK' _ _ (hMore e _ ⟨he,h1,h2,h3,run_entry_at _ r b clock seen es clock e h1 h2 (mem_left he).1 hnd⟩)
end
theorem seen_perm:∀ {es:List MapEntry} {seen:Array Nat} {e:MapEntry},(es.map (·.born)).Nodup→e ∈ es→seen.contains e.born=false→(es.filter fun x=>(seen.push e.born).contains x.born).Perm (e :: es.filter fun x=>seen.contains x.born)
 | [],_,_,_,h,_=>by cases h
 | x :: es,seen,e,hn,hm,hs=>by
   rw [List.map_cons,List.nodup_cons] at hn
   rcases List.mem_cons.1 hm with rfl | hm
   · have hrest:(es.filter fun x=>(seen.push e.born).contains x.born)=es.filter fun x=>seen.contains x.born:=List.filter_congr fun y hy=>by
       rw [contains_push]
       have:(y.born == e.born)=false:=by
         simp
         intro h9
         exact hn.1 (h9 ▸ List.mem_map.2 ⟨y,hy,rfl⟩)
       rw [this,Bool.or_false]
     rw [List.filter_cons_of_pos (by rw [contains_push];simp),hrest,List.filter_cons_of_neg (by rw [hs];simp)]
   · have ih:=seen_perm hn.2 hm hs
     have hx:(x.born == e.born)=false:=by
       simp
       intro h9
       exact hn.1 (h9 ▸ List.mem_map.2 ⟨e,hm,rfl⟩)
     have hc:(seen.push e.born).contains x.born=seen.contains x.born:=by rw [contains_push,hx,Bool.or_false]
     cases hsx:seen.contains x.born with
     | true=>
       rw [List.filter_cons_of_pos (by rw [hc,hsx]),List.filter_cons_of_pos (by rw [hsx])]
       exact (ih.cons x).trans (List.Perm.swap e x _)
     | false=>
       rw [List.filter_cons_of_neg (by rw [hc,hsx];simp),List.filter_cons_of_neg (by rw [hsx];simp)]
       exact ih
theorem seen_all {es:Array MapEntry} {seen:Array Nat} (h:(leftOf es seen).size=0):(es.toList.filter fun x=>seen.contains x.born)=es.toList:=List.filter_eq_self.2 fun x hx=>all_seen es seen h x hx
theorem seen_none {es:List MapEntry} : (es.filter fun x=>(#[]:Array Nat).contains x.born) = []:=by
 rw [List.filter_eq_nil_iff];simp
theorem left_none {es:Array MapEntry} : (leftOf es #[]).size=es.size:=by simp [leftOf]
end Go.Proofs.YtcfgcpcakdknkaaGreat
