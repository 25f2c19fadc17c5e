/- Walks: what slots and owned things hold,operations,calls. No condition. -/
import Derived.Test.YtolmpgbpdapaiaaGreatChecked
import Derived.WalkKit
import Derived.Orders
import Derived.Laws.StructEq
namespace Go.Gm
set_option linter.unusedVariables false
set_option linter.unusedSimpArgs false
theorem Ya:type_of% @wp_seq:=@wp_seq
theorem Yb:type_of% @if_neg:=@if_neg
theorem Yc:type_of% @List.length_append:=@List.length_append
theorem Yd:type_of% @of_decide_eq_true:=@of_decide_eq_true
theorem Ye:type_of% @if_pos:=@if_pos
theorem Yf:type_of% @wp_skip:=@wp_skip
theorem Yg:type_of% @Int.toNat_natCast:=@Int.toNat_natCast
theorem Yh:type_of% @List.length_cons:=@List.length_cons
theorem Yi:type_of% @wp_block:=@wp_block
theorem Yj:type_of% @wp_ret:=@wp_ret
theorem Yk:type_of% @of_decide_eq_false:=@of_decide_eq_false
theorem Yl:type_of% @decide_eq_true_eq:=@decide_eq_true_eq
theorem Ym:type_of% @List.mem_cons:=@List.mem_cons
theorem Yn:type_of% @List.mem_singleton:=@List.mem_singleton
theorem Yo:type_of% @run_underlying:=@run_underlying
theorem Yp:type_of% @List.length_take:=@List.length_take
theorem Yq:type_of% @List.length_nil:=@List.length_nil
theorem Yr:type_of% @decide_eq_false_iff_not:=@decide_eq_false_iff_not
theorem Yt:type_of% @if_false:=@if_false
theorem Yu:type_of% @List.pairwise_cons:=@List.pairwise_cons
theorem Yv:type_of% @Result.andThen_ok:=@Result.andThen_ok
theorem Yw:type_of% @Bool.and_eq_true:=@Bool.and_eq_true
theorem Yx:type_of% @if_true:=@if_true
theorem Yy:type_of% @List.mem_cons_of_mem:=@List.mem_cons_of_mem
theorem Yz:type_of% @wp_exit:=@wp_exit
theorem YA:type_of% @Nat.zero_le:=@Nat.zero_le
theorem YB:type_of% @List.mem_map:=@List.mem_map
theorem YC:type_of% @List.mem_append:=@List.mem_append
theorem YD:type_of% @Sem.run_bind:=@Sem.run_bind
theorem YE:type_of% @List.take_length:=@List.take_length
theorem YF:type_of% @Nat.le_refl:=@Nat.le_refl
theorem YG:type_of% @List.map_cons:=@List.map_cons
theorem YH:type_of% @List.getElem?_eq_some_iff:=@List.getElem?_eq_some_iff
theorem YI:type_of% @Sem.run_pure:=@Sem.run_pure
theorem YJ:type_of% @List.length_map:=@List.length_map
theorem YK:type_of% @List.mem_filter:=@List.mem_filter
theorem YL:type_of% @decide_eq_true:=@decide_eq_true
theorem YM:type_of% @List.eq_nil_of_length_eq_zero:=@List.eq_nil_of_length_eq_zero
theorem YN:type_of% @Nat.mul_le_mul_right:=@Nat.mul_le_mul_right
theorem YO:type_of% @decide_eq_false:=@decide_eq_false
theorem YP:type_of% @Go.MapKept.run_getObj_map:=@Go.MapKept.run_getObj_map
theorem YQ:type_of% @List.append_nil:=@List.append_nil
theorem YR:type_of% @List.getElem_of_mem:=@List.getElem_of_mem
theorem YS:type_of% @List.length_drop:=@List.length_drop
theorem YT:type_of% @List.filter_cons_of_pos:=@List.filter_cons_of_pos
theorem YU:type_of% @List.length_set:=@List.length_set
theorem YV:type_of% @Array.getElem?_eq_some_iff:=@Array.getElem?_eq_some_iff
theorem YW:type_of% @List.mem_append_right:=@List.mem_append_right
theorem YX:type_of% @Option.some.injEq:=@Option.some.injEq
theorem YY:type_of% @Nat.lt_or_eq_of_le:=@Nat.lt_or_eq_of_le
theorem YZ:type_of% @List.length_singleton:=@List.length_singleton
theorem Y0:type_of% @List.flatMap_cons:=@List.flatMap_cons
theorem Y1:type_of% @List.append_assoc:=@List.append_assoc
theorem Y2:type_of% @List.flatMap_append:=@List.flatMap_append
theorem Y3:type_of% @List.map_append:=@List.map_append
theorem Y4:type_of% @List.pairwise_iff_getElem:=@List.pairwise_iff_getElem
theorem Y5:type_of% @Nat.eq_of_beq_eq_true:=@Nat.eq_of_beq_eq_true
theorem Y6:type_of% @List.mem_append_left:=@List.mem_append_left
theorem Y7:type_of% @Option.map_eq_some_iff:=@Option.map_eq_some_iff
theorem Y8:type_of% @congrArg:=@congrArg
theorem Y9:type_of% @List.filter_cons_of_neg:=@List.filter_cons_of_neg
theorem Yaa:type_of% @Nat.le_trans:=@Nat.le_trans
theorem Yab:type_of% @Nat.zero_add:=@Nat.zero_add
theorem Yac:type_of% @List.length_filter_le:=@List.length_filter_le
theorem Yad:type_of% @List.all_eq_true:=@List.all_eq_true
theorem Yae:type_of% @Bool.not_eq_true':=@Bool.not_eq_true'
theorem Yaf:type_of% @List.take_of_length_le:=@List.take_of_length_le
theorem Yag:type_of% @Nat.le_of_lt_succ:=@Nat.le_of_lt_succ
theorem Yah:type_of% @Nat.not_lt_zero:=@Nat.not_lt_zero
theorem Yai:type_of% @List.filter_append:=@List.filter_append
theorem Yaj:type_of% @eq_comm:=@eq_comm
theorem Yak:type_of% @Nat.le_of_ble_eq_true:=@Nat.le_of_ble_eq_true
theorem Yal:type_of% @List.take_append_of_le_length:=@List.take_append_of_le_length
theorem Yam:type_of% @Nat.lt_of_lt_of_le:=@Nat.lt_of_lt_of_le
theorem Yan:type_of% @List.reverse_append:=@List.reverse_append
theorem Yao:type_of% @List.cons_append:=@List.cons_append
theorem Yap:type_of% @List.mem_reverse:=@List.mem_reverse
theorem Yaq:type_of% @Bool.or_eq_true:=@Bool.or_eq_true
theorem Yar:type_of% @Int.le_refl:=@Int.le_refl
theorem Yas:type_of% @List.getElem?_eq_getElem:=@List.getElem?_eq_getElem
theorem Yat:type_of% @heap_alloc_new:=@heap_alloc_new
theorem Yau:type_of% @Bool.eq_iff_iff:=@Bool.eq_iff_iff
theorem Yav:type_of% @List.foldl_cons:=@List.foldl_cons
theorem Yaw:type_of% @List.mem_of_mem_take:=@List.mem_of_mem_take
theorem Yax:type_of% @List.nil_append:=@List.nil_append
theorem Yay:type_of% @List.mem_cons_self:=@List.mem_cons_self
theorem Yaz:type_of% @Int.eq_ofNat_of_zero_le:=@Int.eq_ofNat_of_zero_le
theorem YaA:type_of% @Nat.blt_eq:=@Nat.blt_eq
theorem YaB:type_of% @run_storeCells_at:=@run_storeCells_at
theorem YaC:type_of% @Option.map_some:=@Option.map_some
theorem YaD:type_of% @List.take_append_drop:=@List.take_append_drop
theorem YaE:type_of% @List.mem_range:=@List.mem_range
theorem YaF:type_of% @List.size_toArray:=@List.size_toArray
theorem YaG:type_of% @Go.MapKept.run_setObj_map:=@Go.MapKept.run_setObj_map
theorem YaH:type_of% @Option.isSome_iff_exists:=@Option.isSome_iff_exists
theorem YaI:type_of% @List.mergeSort_perm:=@List.mergeSort_perm
theorem YaJ:type_of% @List.singleton_append:=@List.singleton_append
theorem YaK:type_of% @List.mem_flatMap:=@List.mem_flatMap
theorem YaL:type_of% @List.getElem_mem:=@List.getElem_mem
theorem YaM:type_of% @List.ext_getElem:=@List.ext_getElem
theorem YaN:type_of% @List.getD_eq_getElem?_getD:=@List.getD_eq_getElem?_getD
theorem YaO:type_of% @List.sum_cons:=@List.sum_cons
theorem YaP:type_of% @Int.toNat_of_nonneg:=@Int.toNat_of_nonneg
theorem YaQ:type_of% @List.mem_iff_getElem?:=@List.mem_iff_getElem?
theorem YaR:type_of% @run_loadCells_list:=@run_loadCells_list
theorem YaS:type_of% @Option.map_none:=@Option.map_none
theorem YaT:type_of% @List.nodup_cons:=@List.nodup_cons
theorem YaU:type_of% @Bool.or_eq_false_iff:=@Bool.or_eq_false_iff
theorem YaV:type_of% @Int.le_of_lt:=@Int.le_of_lt
theorem YaW:type_of% @List.take_succ_eq_append_getElem:=@List.take_succ_eq_append_getElem
theorem YaX:type_of% @Int.tdiv_eq_ediv_of_nonneg:=@Int.tdiv_eq_ediv_of_nonneg
theorem YaY:type_of% @List.drop_of_length_le:=@List.drop_of_length_le
theorem YaZ:type_of% @Array.getElem?_setIfInBounds_ne:=@Array.getElem?_setIfInBounds_ne
theorem Ya0:type_of% @List.length_pos_iff:=@List.length_pos_iff
theorem Ya1:type_of% @List.mem_range'_1:=@List.mem_range'_1
theorem Ya2:type_of% @List.foldl_append:=@List.foldl_append
theorem Ya3:type_of% @List.pairwise_map:=@List.pairwise_map
theorem Ya4:type_of% @List.drop_eq_getElem_cons:=@List.drop_eq_getElem_cons
theorem Ya5:type_of% @Classical.byContradiction:=@Classical.byContradiction
theorem Ya6:type_of% @Option.some.inj:=@Option.some.inj
theorem Ya7:type_of% @Nat.min_eq_left:=@Nat.min_eq_left
theorem Ya8:type_of% @List.map_nil:=@List.map_nil
theorem Ya9:type_of% @Nat.succ_mul:=@Nat.succ_mul
theorem Yba:type_of% @List.map_map:=@List.map_map
theorem Ybb:type_of% @List.length_replicate:=@List.length_replicate
theorem Ybc:type_of% @BitVec.toNat_ofInt:=@BitVec.toNat_ofInt
theorem Ybd:type_of% @List.any_eq_true:=@List.any_eq_true
theorem Ybe:type_of% @List.map_toArray:=@List.map_toArray
theorem Ybf:type_of% @run_newObj_alloc:=@run_newObj_alloc
theorem Ybg:type_of% @Nat.add_zero:=@Nat.add_zero
theorem Ybh:type_of% @List.take_take:=@List.take_take
theorem Ybi:type_of% @Nat.mul_le_mul_left:=@Nat.mul_le_mul_left
theorem Ybj:type_of% @List.filter_sublist:=@List.filter_sublist
theorem Ybk:type_of% @List.filter_eq_nil_iff:=@List.filter_eq_nil_iff
theorem Ybl:type_of% @Option.map_eq_none_iff:=@Option.map_eq_none_iff
theorem Ybm:type_of% @Int.fdiv_eq_ediv_of_nonneg:=@Int.fdiv_eq_ediv_of_nonneg
theorem Ybn:type_of% @List.getElem?_take:=@List.getElem?_take
theorem Ybo:type_of% @Bool.false_eq_true:=@Bool.false_eq_true
theorem Ybp:type_of% @Int.natCast_nonneg:=@Int.natCast_nonneg
theorem Ybq:type_of% @Nat.add_mul:=@Nat.add_mul
theorem Ybr:type_of% @List.mem_of_getElem?:=@List.mem_of_getElem?
theorem Ybs:type_of% @List.mem_of_mem_drop:=@List.mem_of_mem_drop
theorem Ybt:type_of% @setRow_heap:=@setRow_heap
theorem Ybu:type_of% @Bool.true_and:=@Bool.true_and
theorem Ybv:type_of% @run_len_slice:=@run_len_slice
theorem Ybw:type_of% @Go.MapKept.heap_set:=@Go.MapKept.heap_set
theorem Ybx:type_of% @List.pairwise_mergeSort:=@List.pairwise_mergeSort
theorem Yby:type_of% @List.getElem?_cons_zero:=@List.getElem?_cons_zero
theorem Ybz:type_of% @rounds_succ:=@rounds_succ
theorem YbA:type_of% @Obj.cells.inj:=@Obj.cells.inj
theorem YbB:type_of% @List.getElem_range:=@List.getElem_range
theorem YbC:type_of% @Nat.add_comm:=@Nat.add_comm
theorem YbD:type_of% @Result.ok.injEq:=@Result.ok.injEq
theorem YbE:type_of% @List.length_mergeSort:=@List.length_mergeSort
theorem YbF:type_of% @List.getElem?_eq_none:=@List.getElem?_eq_none
theorem YbG:type_of% @Nat.lt_trichotomy:=@Nat.lt_trichotomy
theorem YbH:type_of% @List.getElem?_map:=@List.getElem?_map
theorem YbI:type_of% @List.getElem_take:=@List.getElem_take
theorem YbJ:type_of% @List.count_append:=@List.count_append
theorem YbK:type_of% @Bool.eq_false_iff:=@Bool.eq_false_iff
theorem YbL:type_of% @List.mem_iff_getElem:=@List.mem_iff_getElem
theorem YbM:type_of% @List.pairwise_append:=@List.pairwise_append
theorem YbN:type_of% @List.getElem_set:=@List.getElem_set
theorem YbR:type_of% @Nat.sub_zero:=@Nat.sub_zero
theorem YbS:type_of% @Bool.decide_and:=@Bool.decide_and
theorem YbT:type_of% @List.drop_drop:=@List.drop_drop
theorem YbU:type_of% @Int.ne_of_lt:=@Int.ne_of_lt
theorem kr {p:Prop} (h:p:=by kernel_rfl):p:=h
theorem ow {p:Prop} (h:p:=by omega):p:=h
theorem X0 {p:Prop} (h:p:=by
 try dsimp only [RS.sub,SF.sub,CF.sub,csub,Anc.sub,List.map,Zd,xL,xM,Nat.reduceAdd,xD,xE,xT,xU,xC,xN,zCF,ldSF] at G
 exact G):p:=h
theorem X1 {p:Prop} (h:p:=by
 try dsimp only [RS.sub,SF.sub,CF.sub,csub,Anc.sub,List.map,Zd,xL,xM,Nat.reduceAdd,xD,xE,xT,xU,xC,xN,zCF,ldSF,Zr,rTx,ZK,ZJ,Zq,rOp] at G
 exact G):p:=h
theorem X2 {p:Prop} (h:p:=by
 try dsimp only [RS.sub,SF.sub,CF.sub,csub,Anc.sub,List.map,zCF,Zr,rTx,ZK,ZJ,Zq,rOp] at G
 exact G):p:=h
theorem X3 {p:Prop} (h:p:=by
 try dsimp only at G
 exact G):p:=h
theorem X4 {p:Prop} (h:p:=by
 try dsimp only at hC
 exact hC):p:=h
theorem X5 {p:Prop} (h:p:=by
 try dsimp only [RS.sub,SF.sub,CF.sub,csub,Anc.sub,List.map,zCF] at G
 exact G):p:=h
theorem X6 {p:Prop} (h:p:=by
 try dsimp only [List.map,Zd,xL,xM,Nat.reduceAdd,xD,xE,xT,xU,xC,xN,zCF,ldSF,Zr,rTx,ZK,ZJ,Zq,rOp] at G
 exact G):p:=h
theorem X7 {p:Prop} (h:p:=by
 try dsimp only [RS.sub,SF.sub,CF.sub,csub,Anc.sub,List.map,Zd,xL,xM,Nat.reduceAdd,xD,xE,xT,xU,xC,xN,zCF,ldSF,rTx,rOp,Zq,ZJ,ZK,Zr] at G
 exact G):p:=h
theorem X8 {p:Prop} (h:p:=by
 try dsimp only [RS.sub,SF.sub,CF.sub,csub,Anc.sub,List.map,Zd,xL,xM,Nat.reduceAdd,xD,xE,xT,xU,xC,xN,zCF,ldSF,ZaG,Zbd,Zq,Zb5] at G
 exact G):p:=h
theorem X9 {p:Prop} (h:p:=by
 try dsimp only [RS.sub,SF.sub,CF.sub,csub,Anc.sub,List.map,zCF,ZaG,Zbd,Zq,Zb5] at G
 exact G):p:=h
theorem Xa {p:Prop} (h:p:=by
 try dsimp only [List.map,xD,xE,xT,xU,ldSF] at G
 exact G):p:=h
theorem Xb {p:Prop} (h:p:=by
 try dsimp only [RS.sub,SF.sub,CF.sub,csub,Anc.sub,List.map,Zd,xL,xM,Nat.reduceAdd,xD,xE,xT,xU,xC,xN,zCF,ldSF,Zr,rTx,ZK,ZJ,Zq,rOp,ZjO] at G
 exact G):p:=h
theorem Xc {p:Prop} (h:p:=by
 try dsimp only [RS.sub,SF.sub,CF.sub,csub,Anc.sub,List.map,Zd,xL,xM,Nat.reduceAdd,xD,xE,xT,xU,xC,xN,zCF,rTx,rOp,Zq,ZJ,ZK,Zr] at G
 exact G):p:=h
theorem Xd {p:Prop} (h:p:=by
 try dsimp only [RS.sub,SF.sub,CF.sub,csub,Anc.sub,List.map,Zd,xL,xM,Nat.reduceAdd,xD,xE,xT,xU,xC,xN,zCF,ldSF,Zq,rOp,rTx] at G
 exact G):p:=h
theorem Xe {p:Prop} (h:p:=by
 try dsimp only [RS.sub,SF.sub,CF.sub,csub,Anc.sub,List.map,zCF,rTx,rOp,Zq,ZJ,ZK,Zr] at G
 exact G):p:=h
theorem Xf {p:Prop} (h:p:=by
 try dsimp only [List.map,xD,xE,xT,xU,ldSF,Zr,rTx,ZK,ZJ,Zq,rOp] at G
 exact G):p:=h
theorem Xg {p:Prop} (h:p:=by
 try dsimp only [RS.sub,SF.sub,CF.sub,csub,Anc.sub,List.map,Zd,xL,xM,Nat.reduceAdd,xD,xE,xT,xU,xC,xN,zCF,ldSF,Zq,rOp,rTx,ZJ] at G
 exact G):p:=h
theorem Xh {p:Prop} (h:p:=by
 try dsimp only [RS.sub,SF.sub,CF.sub,csub,Anc.sub,List.map,Zd,xL,xM,Nat.reduceAdd,xD,xE,xT,xU,xC,xN,zCF,ldSF,ZE,Zb5,Zq] at G
 exact G):p:=h
theorem Xi {p:Prop} (h:p:=by
 try dsimp only [RS.sub,SF.sub,CF.sub,csub,Anc.sub,List.map,Zd,xL,xM,Nat.reduceAdd,xD,xE,xT,xU,xC,xN,zCF,rOp,rTx,ZK,Zjz] at G
 exact G):p:=h
theorem Xj {p:Prop} (h:p:=by
 try dsimp only [RS.sub,SF.sub,CF.sub,csub,Anc.sub,List.map,Zd,xL,xM,Nat.reduceAdd,xD,xE,xT,xU,xC,xN,zCF,Zq,Zgl,ZiT] at G
 exact G):p:=h
theorem Xk {p:Prop} (h:p:=by
 try dsimp only [RS.sub,SF.sub,CF.sub,csub,Anc.sub,List.map,Zd,xL,xM,Nat.reduceAdd,xD,xE,xT,xU,xC,xN,zCF,ldSF,Zr,rTx,ZK,ZJ,Zq,rOp,ZE,rHv] at G
 exact G):p:=h
theorem Xl {p:Prop} (h:p:=by
 try dsimp only [RS.sub,SF.sub,CF.sub,csub,Anc.sub,List.map,zCF,Zr,rTx,ZK,ZJ,Zq,rOp,ZjO] at G
 exact G):p:=h
theorem Xm {p:Prop} (h:p:=by
 try dsimp only [RS.sub,SF.sub,CF.sub,csub,Anc.sub,List.map,Zd,xL,xM,Nat.reduceAdd,xD,xE,xT,xU,xC,xN,zCF,ldSF,rTx,rOp,Zq,ZJ,ZK,Zr,ZE] at G
 exact G):p:=h
theorem Xn {p:Prop} (h:p:=by
 try dsimp only [List.map,Zd,xL,xM,Nat.reduceAdd,xD,xE,xT,xU,xC,xN,zCF,ldSF,Zq,Zgl,ZiT] at G
 exact G):p:=h
theorem Xo {p:Prop} (h:p:=by
 try dsimp only [List.map,xD,xE,xT,xU,ldSF,rTx,rOp,Zq,ZJ,ZK,Zr] at G
 exact G):p:=h
theorem Xp {p:Prop} (h:p:=by
 try dsimp only [RS.sub,SF.sub,CF.sub,csub,Anc.sub,List.map,Zd,xL,xM,Nat.reduceAdd,xD,xE,xT,xU,xC,xN,zCF,rTx,rOp,Zq,ZJ,ZK,Zr,ZE] at G
 exact G):p:=h
theorem Xq {p:Prop} (h:p:=by
 try dsimp only [RS.sub,SF.sub,CF.sub,csub,Anc.sub,List.map,Zd,xL,xM,Nat.reduceAdd,xD,xE,xT,xU,xC,xN,zCF,Zr,rTx,ZK,ZJ,Zq,rOp] at G
 exact G):p:=h
theorem Xr {p:Prop} (h:p:=by
 try dsimp only [RS.sub,SF.sub,CF.sub,csub,Anc.sub,List.map,Zd,xL,xM,Nat.reduceAdd,xD,xE,xT,xU,xC,xN,zCF,ldSF,rOp,rTx,ZK,Zjz] at G
 exact G):p:=h
theorem Xs {p:Prop} (h:p:=by
 try dsimp only [RS.sub,SF.sub,CF.sub,csub,Anc.sub,List.map,Zd,xL,xM,Nat.reduceAdd,xD,xE,xT,xU,xC,xN,zCF,ldSF,ZE,rHv] at G
 exact G):p:=h
theorem Xt {p:Prop} (h:p:=by
 try dsimp only [RS.sub,SF.sub,CF.sub,csub,Anc.sub,List.map,Zd,xL,xM,Nat.reduceAdd,xD,xE,xT,xU,xC,xN,zCF,ZE,Zb5,Zq] at G
 exact G):p:=h
theorem Xu {p:Prop} (h:p:=by
 try dsimp only [RS.sub,SF.sub,CF.sub,csub,Anc.sub,List.map,zCF,Zq,rOp,rTx] at G
 exact G):p:=h
theorem Xv {p:Prop} (h:p:=by
 try dsimp only [RS.sub,SF.sub,CF.sub,csub,Anc.sub,List.map,Zd,xL,xM,Nat.reduceAdd,xD,xE,xT,xU,xC,xN,zCF,ldSF,Zq] at G
 exact G):p:=h
theorem Xw {p:Prop} (h:p:=by
 try dsimp only [RS.sub,SF.sub,CF.sub,csub,Anc.sub,List.map,Zd,xL,xM,Nat.reduceAdd,xD,xE,xT,xU,xC,xN,zCF,rOp] at G
 exact G):p:=h
theorem Xx {p:Prop} (h:p:=by
 try dsimp only [RS.sub,SF.sub,CF.sub,csub,Anc.sub,List.map,Zd,xL,xM,Nat.reduceAdd,xD,xE,xT,xU,xC,xN,zCF,Zq] at G
 exact G):p:=h
theorem Xy {p:Prop} (h:p:=by
 try dsimp only [List.map,xD,xE,xT,xU,ldSF,Zr,rTx,ZK,ZJ,Zq,rOp,ZjO] at G
 exact G):p:=h
theorem Xz {p:Prop} (h:p:=by
 try dsimp only [Zr,rTx,ZK,ZJ,Zq,rOp] at G
 exact G):p:=h
theorem XA {p:Prop} (h:p:=by
 try dsimp only [RS.sub,SF.sub,CF.sub,csub,Anc.sub,List.map,xD,xE,xT,xU,ldSF,Zr,rTx,ZK,ZJ,Zq,rOp] at G
 exact G):p:=h
theorem XB {p:Prop} (h:p:=by
 try dsimp only [RS.sub,SF.sub,CF.sub,csub,Anc.sub,List.map,ZE] at G
 exact G):p:=h
theorem XC {p:Prop} (h:p:=by
 try dsimp only [List.map,xD,xE,xT,xU,ldSF,Zq] at G
 exact G):p:=h
theorem XD {p:Prop} (h:p:=by
 try dsimp only [Go.Gm.unCF] at G
 exact G):p:=h
theorem XE {p:Prop} (h:p:=by
 try dsimp only [List.map,Zd,xL,xM,Nat.reduceAdd,xD,xE,xT,xU,xC,xN,zCF,ldSF,ZaG,Zbd,Zq,Zb5] at G
 exact G):p:=h
theorem XF {p:Prop} (h:p:=by
 try dsimp only [List.map,Zd,xL,xM,Nat.reduceAdd,xD,xE,xT,xU,xC,xN,zCF,ldSF,Zq,rOp,rTx] at G
 exact G):p:=h
theorem XG {p:Prop} (h:p:=by
 try dsimp only [List.map,xD,xE,xT,xU,ldSF,Zq,Zgl,ZiT] at G
 exact G):p:=h
theorem XH {p:Prop} (h:p:=by
 try dsimp only [RS.sub,SF.sub,CF.sub,csub,Anc.sub,List.map,rTx,rOp,Zq,ZJ,ZK,Zr,ZE] at G
 exact G):p:=h
theorem XI {p:Prop} (h:p:=by
 try dsimp only [RS.sub,SF.sub,CF.sub,csub,Anc.sub,List.map,zCF,rOp,rTx,ZK,Zjz] at G
 exact G):p:=h
theorem XM {p:Prop} (h:p:=by simp):p:=h
theorem Wh {p:Prop} (h:p:=by intro x;rfl):p:=h
theorem XW {p:Prop} (h:p:=by decide):p:=h
theorem WO {p:Prop} (h:p:=by first | rfl | (unfold Z3;rw [Yb n1,Yb n2,Yb n3,Yb n4,Yb n5,Yb n6,Yb n7,Yb n8,Yb n9,Yb n10,Yb n11,Yb n12];rfl)):p:=h
theorem XV {p:Prop} (h:p:=by rfl):p:=h
theorem Wy {p:Prop} (h:p:=by simp only [Yc,Yh,Yq];omega):p:=h
theorem K8 {p:Prop} (h:p:=by have h8:=(Z4 hrc hc).2;have h9:=ZbH c.kind;unfold sumL at h8 ⊢;rw [YG,YaO];omega):p:=h
theorem XL {p:Prop} (h:p:=by simpa using h):p:=h
theorem WG {p:Prop} (h:p:=by rw [Z];kernel_rfl):p:=h
theorem Ws {p:Prop} (h:p:=by simp only [Yh,Yq];omega):p:=h
theorem K6 {p:Prop} (h:p:=by first | exact hg | (unfold ZeE;rw [Yb (by rw [hrc];decide)])):p:=h
theorem XT {p:Prop} (h:p:=by simp;omega):p:=h
theorem K4 {p:Prop} (h:p:=by decide +kernel):p:=h
theorem WP {p:Prop} (h:p:=by first | rfl | (unfold ZjT;rw [Yb n1,Yb n2,Yb n3,Yb n4,Yb n5])):p:=h
theorem WQ {p:Prop} (h:p:=by first | rfl | (unfold Zcq;rw [Yb n1,Yb n2,Yb n3,Yb n4,Yb n5])):p:=h
theorem K7 {p:Prop} (h:p:=by have:=(Z4 hrc hc).1;simp only [Yh];omega):p:=h
theorem Ka {p:Prop} (h:p:=by first | rfl | simp):p:=h
theorem K1 {p:Prop} (h:p:=by unfold Zp5;first | (simp [e1,e2,e3];done) | (simp [e1,e2];done) | simp [e1]):p:=h
theorem Wm {p:Prop} (h:p:=by rw [Yp];omega):p:=h
theorem WX {p:Prop} (h:p:=by unfold ZfA wcnt;first | (rw [Ye h2];done) | (rw [Yb h2,h3,Ybu];done) | (rw [Yb h2,h3];simp)):p:=h
theorem XJ {p:Prop} (h:p:=by simpa using hj):p:=h
theorem WF {p:Prop} (h:p:=by intros;first | rfl | simp [Anc.v,upd]):p:=h
theorem W7 {p:Prop} (h:p:=by simpa using hk):p:=h
theorem Wv {p:Prop} (h:p:=by rw [hw1];omega):p:=h
theorem WJ {p:Prop} (h:p:=by first | (rw [hu,YbS];done) | (rw [hu];unfold idB;rw [YbS];done) | (unfold ZrQ wcnt;rw [Yb h0,Bool.and_assoc])):p:=h
theorem WZ {p:Prop} (h:p:=by rw [Zdb hil,← Y1,← hq];first | (rw [Ye hBq];done) | (rw [Yb hBq,YQ])):p:=h
theorem Wx {p:Prop} (h:p:=by rw [hk];decide):p:=h
theorem WM {p:Prop} (h:p:=by assumption):p:=h
theorem Wd {p:Prop} (h:p:=by rw [Zf,Ye rfl]):p:=h
theorem K3 {p:Prop} (h:p:=by rw [wrap_i64 ow];omega):p:=h
theorem K9 {p:Prop} (h:p:=by simp only [Yh,Yc,Yq];omega):p:=h
theorem XO {p:Prop} (h:p:=by simp [hx]):p:=h
theorem Wc {p:Prop} (h:p:=by have:n1≠n2:=(fun e=>by subst e;simp at hne);simp [this]):p:=h
theorem Wp {p:Prop} (h:p:=by rw [YU];omega):p:=h
theorem XP {p:Prop} (h:p:=by simpa using hi):p:=h
theorem WD {p:Prop} (h:p:=by simp [hr]):p:=h
theorem WI {p:Prop} (h:p:=by rw [hg];first | exact .aggU rfl rfl | exact .aggLe rfl ⟨.refl,.refl,.nilSl,tv⟩):p:=h
theorem Wi {p:Prop} (h:p:=by rw [hw];omega):p:=h
theorem WL {p:Prop} (h:p:=by have h9:(rdA t o).length≤1:=by { unfold rdA;split <;> simp };rw [Yc];omega):p:=h
theorem WC {p:Prop} (h:p:=by rw [Zy hil,Yai,Y3,← hq];simp [hBq]):p:=h
theorem K5 {p:Prop} (h:p:=by show 3 - (i+1)<3 - i;omega):p:=h
theorem W8 {p:Prop} (h:p:=by simp [hz]):p:=h
theorem Wl {p:Prop} (h:p:=by simp at hc0;omega):p:=h
theorem WK {p:Prop} (h:p:=by rw [hiw (by simpa using h)];omega):p:=h
theorem WB {p:Prop} (h:p:=by simp only [Yc,Yh,Yq,Yp,YS];omega):p:=h
theorem K0 {p:Prop} (h:p:=by have h9:=hpl;unfold Z6 at h9;rw [YJ] at h9;exact Yaa h9 (by decide)):p:=h
theorem WT {p:Prop} (h:p:=by simp at h1 ⊢;omega):p:=h
theorem Wb {p:Prop} (h:p:=by have:=ZkI (enc k) (enc e.key) (by rw [hl,hl]);rwa [hl] at this):p:=h
theorem W4 {p:Prop} (h:p:=by simpa using h1):p:=h
theorem XY {p:Prop} (h:p:=by unfold maxLen at h63;omega):p:=h
theorem We {p:Prop} (h:p:=by rw [hg]):p:=h
theorem Wg {p:Prop} (h:p:=by simpa using hc1):p:=h
theorem WN {p:Prop} (h:p:=by rw [e,World.drewN_drewN]):p:=h
theorem XS {p:Prop} (h:p:=by simpa using hb):p:=h
theorem Wn {p:Prop} (h:p:=by rw [hkw];omega):p:=h
theorem Wo {p:Prop} (h:p:=by rw [hjw];omega):p:=h
theorem Wz {p:Prop} (h:p:=by rw [hr];decide):p:=h
theorem K2 {p:Prop} (h:p:=by simp at h;rw [wrap_i64 ow];omega):p:=h
theorem WE {p:Prop} (h:p:=by simp at hc1;omega):p:=h
theorem Ww {p:Prop} (h:p:=by unfold ofO;rw [hr];rfl):p:=h
theorem Wt {p:Prop} (h:p:=by rw [hg,← hdd];try rfl):p:=h
theorem XR {p:Prop} (h:p:=by simpa [runT] using h):p:=h
theorem WS {p:Prop} (h:p:=by rw [hw1,Yc,YZ];omega):p:=h
theorem WV {p:Prop} (h:p:=by simpa using hc0):p:=h
theorem WW {p:Prop} (h:p:=by have:=Ze0 room;omega):p:=h
theorem WY {p:Prop} (h:p:=by first | exact hg | (rw [hq,hil,YE];exact hgg)):p:=h
theorem W6 {p:Prop} (h:p:=by simp [RS.deps,Anc.deps,Zds]):p:=h
theorem Wu {p:Prop} (h:p:=by first | exact hr.symm | rfl):p:=h
theorem XQ {p:Prop} (h:p:=by simpa using ho):p:=h
theorem Wr {p:Prop} (h:p:=by simp only [Yh,Yq,YJ];omega):p:=h
theorem WH {p:Prop} (h:p:=by rw [hno];simp):p:=h
theorem WU {p:Prop} (h:p:=by rw [hI2.lw];omega):p:=h
theorem W9 {p:Prop} (h:p:=by simp [Go.MapKept.IsKey]):p:=h
theorem Wj {p:Prop} (h:p:=by simp [hy]):p:=h
theorem Wk {p:Prop} (h:p:=by simp only [Yc,Yq];omega):p:=h
theorem WR {p:Prop} (h:p:=by rw [Yc,YZ];omega):p:=h
theorem XK {p:Prop} (h:p:=by simp [cdeps,hi]):p:=h
theorem XX {p:Prop} (h:p:=by simpa using hku):p:=h
theorem WA {p:Prop} (h:p:=by simpa using hc2):p:=h
theorem Wq {p:Prop} (h:p:=by rw [Zaa,YaX ow];omega):p:=h
theorem XU {p:Prop} (h:p:=by simpa using h3):p:=h
theorem W5 {p:Prop} (h:p:=by simpa using h2):p:=h
theorem Wa {p:Prop} (h:p:=by simpa using hx):p:=h
theorem XZ {p:Prop} (h:p:=by simp [hlt]):p:=h
theorem XN {p:Prop} (h:p:=by simpa using e):p:=h
theorem Kb {p:Prop} (h:p:=by simp at hc3;omega):p:=h
theorem Kc {p:Prop} (h:p:=by rw [← e1];exact hx act w _ hp.left):p:=h
theorem Kd {p:Prop} (h:p:=by intro h;rw [h] at hb;cases hb):p:=h
theorem Ke {p:Prop} (h:p:=by rw [hx act w _ hp.left];exact e1):p:=h
theorem Kf {p:Prop} (h:p:=by unfold ZsN;revert hc0;cases (decide (0≤i) && decide (i<n)) <;> cases hasW n ws i <;> cases on <;> simp):p:=h
theorem Kg {p:Prop} (h:p:=by rw [hjw,show ((k:Int)).toNat+((j:Int) - 1).toNat=k+j - 1 by omega];exact hrest _ ow ow):p:=h
theorem Kh {p:Prop} (h:p:=by rw [hes3];unfold rdO;rw [Yb WH];unfold rdB;rw [Ye h1,← Y1];exact Zkt hR2 WL):p:=h
theorem Ki {p:Prop} (h:p:=by simp at hc4;omega):p:=h
theorem Kj {p:Prop} (h:p:=by simp at hc2;omega):p:=h
theorem Kk {p:Prop} (h:p:=by rw [hes3];unfold rdO;rw [Yb WH];unfold rdB;rw [Yb h1,YQ];exact hR2):p:=h
theorem Kl {p:Prop} (h:p:=by rw [hzl];exact Nat.mod_lt _ hsz0):p:=h
theorem Km {p:Prop} (h:p:=by rw [show k=l.length by simp at hc1;omega,YE] at hkc;exact hkc):p:=h
theorem Kn {p:Prop} (h:p:=by rw [Zy hil,Yai];simp only [List.filter_cons,List.filter_nil]):p:=h
theorem Ko {p:Prop} (h:p:=by cases k <;> simp [IntKind.min,IntKind.signed,IntKind.bits]):p:=h
theorem Kp {p:Prop} (h:p:=by rw [wrap_i64 WR,Yc,YZ];omega):p:=h
theorem Kq {p:Prop} (h:p:=by unfold Zss Zix Zmp;rw [← hI.dn,← hI.la];simpa using hc0):p:=h
theorem Kr {p:Prop} (h:p:=by rw [hx act w _ hp];exact e1):p:=h
theorem Ks {p:Prop} (h:p:=by rw [hq,YJ];exact Yaa (Yac _ _) Wm):p:=h
theorem Kt {p:Prop} (h:p:=by first | exact .inl (Yd hc1) | exact .inr (Yd hc1)):p:=h
theorem Ku {p:Prop} (h:p:=by first | exact .inl (Yd hc2) | exact .inr (Yd hc2)):p:=h
theorem Kv {p:Prop} (h:p:=by first | exact .inl (Yd hc3) | exact .inr (Yd hc3)):p:=h
theorem Kw {p:Prop} (h:p:=by first | exact .inl (Yd hc4) | exact .inr (Yd hc4)):p:=h
theorem Kx {p:Prop} (h:p:=by first | exact .inl (Yd hc5) | exact .inr (Yd hc5)):p:=h
theorem Ky {p:Prop} (h:p:=by rw [hcs];exact YN sz hnc):p:=h
theorem Kz {p:Prop} (h:p:=by rw [ZkH,Zaa,Int.tmod_eq_emod_of_nonneg ow];omega):p:=h
theorem KA {p:Prop} (h:p:=by rw [← hvr.2.2];rw [hmv] at hc2;simp at hc2;omega):p:=h
theorem KB {p:Prop} (h:p:=by unfold Zc8;rw [hsf,Bool.false_or,Yl];exact hyes):p:=h
theorem KC {p:Prop} (h:p:=by rw [← hlen];exact (YH.1 hj).1):p:=h
theorem KD {p:Prop} (h:p:=by rw [Ybc];omega):p:=h
theorem KE {p:Prop} (h:p:=by have h9:=Yk hc0;omega):p:=h
theorem KF {p:Prop} (h:p:=by have h9:=hc2;simpa using h9):p:=h
theorem KG {p:Prop} (h:p:=by unfold ZaI;rw [Yb ow,Ye hk]):p:=h
theorem KH {p:Prop} (h:p:=by rw [← h1.len,hR]):p:=h
theorem KI {p:Prop} (h:p:=by simp [upd]):p:=h
theorem KJ {p:Prop} (h:p:=by rw [hg.idx];exact hi):p:=h
theorem KK {p:Prop} (h:p:=by rw [← Ya9];exact YN sz hi):p:=h
theorem KL {p:Prop} (h:p:=by simpa using hc4):p:=h
theorem KM {p:Prop} (h:p:=by simpa using hc3):p:=h
def KN:=[101,0]
def KO:=[103,102,101,0]
def KP:=[102,101,0]
def KQ:=[1,0]
def KR:=[3,2,0]
def KS:=[101,1,0]
def KT:=[105,104,102,101,60,0]
def KU:=[4,1,0]
def KV:=[102,101,50,0]
def KW:=[108,105,104,103,102,101,1,0]
def KX:=[105,104,103,102,101,60,0]
def KY:=[103,102,101,1,0]
def KZ:=[103,102,101,60,0]
def Q0:=[2,0]
def Q1:=[7,6,5,4,3,2,0]
def Q2:=[106,105,104,103,102,101,1,0]
def Q3:=[2,1]
def Q4:=[10,0]
def Q5:=[101,7,6,5,4,3,2,0]
def Q6:=[11,10,9,5,4,1]
def Q7:=[102,101,6,5,4,3,2,0]
def Q8:=[3,2]
def Q9:=[105,104,103,102,101,1,0]
def Qa:=[3,2,1]
def Qb:=[42,41,40,35,34,33,12,8,7,6,2,1]
def Qc:=[103,102,101,50,0]
def Qd:=[67,66,65,60,59,58,11,6,5,4,1]
def Qe:=[105,104,102,101,50,0]
def Qf:=[5,4,3,2,0]
def Qg:=[107,106,105,104,103,102,101,1,0]
def Qh:=[5,4,1,0]
def Qi:=[106,105,103,102,101,0]
def Qj:=[104,103,102,101,0]
def Qk:=[104,103,102,101,1,0]
def Ql:=[47,46,45,27,26,25,8,6,5,4,2]
def Qm:=[8,7,4,1,0]
def Qn:=[38,37,36,22,21,20,5,3,2,1]
def Qo:=[101,50,0]
def Qp:=[102,101,60,0]
def Qq:=[103,102,101,61,60,0]
def Qr:=[104,102,101,50,0]
def Qs:=[104,103,0]
def Qt:=[103,101,0]
def Qu:=[7,6,2,1,0]
def Qv:=[8,7,6,2,1,0]
def Qw:=[105,103,102,101,0]
def Qx:=[70,69,68,63,62,61,10,9,3,2]
def Qy:=[12,11,10,4,3,0]
def Qz:=[104,103,102,101,60,0]
def QA:=[5,4,3,0]
def QB:=[12,11,10,4,3,2,1]
def QC:=[50,7,6,5,4,3,2,0]
def QD:=[32,31,30,9,6,5,4]
def QE:=[22,21,20,12,11,10,5,3,2]
def QF:=[18,17,16,8,7,6,5,1]
def QG:=[6,5,4,1,0]
def QH:=[8,7,6,3,2]
def QI:=[13,12,1,0]
def QJ:=[4,3,2]
def QK:=[24,23,22,9,8,6,5,4,2,1]
def QL:=[17,16,15,3]
def QM:=[41,40,35,34,33,12,8,6,2,1,7,42]
def QN:=[4,3,0]
def QO:=[13,12,4,1,0]
def QP:=[102,0]
def QQ:=[5,4,3,2]
def QR:=[20,19,5,4,1,0]
def QS:=[104,103,102,101,50,0]
def QT:=[23,22,21,8,7,6,3,2,1]
def QU:=[4,2,0]
def QV:=[4,3,2,0]
def QW:=[25,24,23,3,2,1]
def QX:=[4,2,1]
def QY:=[65,64,63,11,8,6,5]
def QZ:=[9,8,7,6,2,1,0]
def J0:=[25,24,23,5,3,2,1]
def J1:=[82,67,66,65,60,59,58,13,11,6,5,4,1]
def J2:=[10,9,8,7,6,4,2,0]
def J3:=[22,21,20,6,5,4,1]
def J4:=[68,66,12,9,6,5,4]
def J5:=[65,64,63,8,1]
def J6:=[101,0,50,102]
def J7:=[10,9,8,5,4,1]
def J8:=[101,10,0]
def J9:=[30,27,26,22,21,20,12,11,10,5,3,2]
def Ja:=[68,67,66,65,60,59,58,11,6,5,4,1]
def Jb:=[27,26,25,9,8,6,5,4,2]
def Jc:=[102,101,1,0]
def Jd:=[41,40,39,5,1,0]
def Je:=[57,56,55,5,2,1]
def Jf:=[22,21,20,3,2,1]
def Jg:=[47,46,45,27,26,25,12,8,6,5,4,2]
def Jh:=[8,7,6,3]
def Ji:=[61,60,59,58,6,5,4,1]
def Jj:=[32,31,30,11,9,6,5,4]
def Jk:=[70,69,68,63,62,61,12,10,9,3,2]
def Jl:=[10,9,4,1,5,11]
def Jm:=[104,103,101,0]
def Jn:=[24,23,22,6,5,4,2,1]
def Jo:=[66,65,60,59,58,11,6,5,4,1,67]
def Jp:=[104,102,101,0]
def Jq:=[11,10,9,3,2,0]
def Jr:=[35,34,33,8,7,6,2,1]
def Js:=[12,9,6,5,4]
def Jt:=[106,105,104,102,101,1,0,103]
def Ju:=[105,104,103,102,101,61,60,0]
def Jv:=[105,104,102,101,0]
def Jw:=[12,11,10,3,2]
def Jx:=[15,14,13,2,1]
def Jy:=[52,51,50,7,0]
def Jz:=[26,25,7,4]
def JA:=[5,4,3,2,1]
def JB:=[9,8,7,3,2]
def JC:=[5,4,2,1]
def JD:=[12,11,10,9,5,4,1]
def JE:=[11,10,4,2,1,3,12]
def JF:=[37,36,22,21,20,5,3,2,1,38]
def JG:=[60,59,58,6,5,4,1]
def JH:=[6,2,1,0]
def JI:=[50,0]
def JJ:=[104,102,101,0,50]
def JK:=[27,26,25,6,5,4,2]
def JL:=[104,102,101,60,0]
def JM:=[9,8,5,4,3,2]
def JN:=[11,10,9,7,5,4,1]
def JO:=[105,104,101,1,0,103,102]
def JP:=[16,8,7,5,4,1,0]
def JQ:=[36,26,25,8,7,4]
def JR:=[11,10,4,3,0,12]
def JS:=[25,24,23,22,6,5,4,2,1]
def JT:=[19,18,17,16,8,7,6,5,1]
def JU:=[0,101,1]
def JV:=[66,12,9,6,5,4]
def JW:=[8,3,2,1,0]
def JX:=[4,2,0,5,3]
def JY:=[6,5,4,2,1]
def JZ:=[6,5,4,3,0]
def G0:=[9,8,7,3,0]
def G1:=[5,2,1]
def G2:=[5,4,1]
def G3:=[14,13,12,1,0]
def G4:=[24,13,12,1,0]
def G5:=[63,62,61,3,2]
def G6:=[4,0]
def G7:=[101,0,50]
def G8:=[32,31,30]
def G9:=[72,71,70]
def Ga:=[13,12,5,1,0]
def Gb:=[9,8,7,4,1,0]
def Gc:=[8,7,5,4,1,0]
def Gd:=[8,7,6,5,2,0]
def Ge:=[4,3,2,1]
def Gf:=[5,3,2,1]
theorem rr {α β:Type} {a:α} {b:β}:a=a∧b=b:=⟨rfl,rfl⟩
theorem tv:True:=trivial
abbrev Ys:=Nat→Prop
structure Ev (w:World) (y:Ys) (w':World) (y':Ys):Prop where
 os:w'.os=w.os
 tape:w'.tape=w.tape
 output:w'.output=w.output
 size:w.heap.size≤w'.heap.size
 block:∀ b,b<w.heap.size→¬ y b→w'.heap[b]? = w.heap[b]? ∧ ¬ y' b
theorem Ev.refl (w:World) (y:Ys):Ev w y w y:=⟨rfl,rfl,rfl,YF _,fun _ _ h=>⟨rfl,h⟩⟩
theorem Ev.trans {w1 w2 w3:World} {y1 y2 y3:Ys} (h:Ev w1 y1 w2 y2) (k:Ev w2 y2 w3 y3):Ev w1 y1 w3 y3:=
 ⟨k.os.trans h.os,k.tape.trans h.tape,k.output.trans h.output,Yaa h.size k.size,fun b hb hy=>by
  have h1:=h.block b hb hy
  have h2:=k.block b (Yam hb h.size) h1.2
  exact ⟨h2.1.trans h1.1,h2.2⟩⟩
theorem Ev.less (w:World) {y y':Ys} (h:∀ b,y' b→y b):Ev w y w y':=⟨rfl,rfl,rfl,YF _,fun b _ hy=>⟨rfl,fun h'=>hy (h b h')⟩⟩
structure PV where
 p:Value→World→Ys→Prop
 mono:∀ {v w y w' y'},Ev w y w' y' → p v w y→p v w' y'
structure HP where
 p:World→Ys→Ys→Prop
 st:∀ {w f y w' y'},Ev w y w' y' → (∀ b,f b→w'.heap[b]? = w.heap[b]?)→p w f y→p w' f y'
def PV.is (v:Value):PV:=⟨fun u _ _=>u=v∧u.oneCell' = true,fun _ h=>h⟩
def PV.any:PV:=⟨fun _ _ _=>True,fun _ h=>h⟩
def inR (k:IntKind) (x:Int):Prop:=k.min≤x∧x≤k.max
def PV.int (k:IntKind) (x:Int):PV:=⟨fun u _ _=>u = .int k x∧inR k x,fun _ h=>h⟩
def PV.bool (b:Bool):PV:=⟨fun u _ _=>u = .bool b,fun _ h=>h⟩
def PV.str (s:ByteArray):PV:=⟨fun u _ _=>u = .string s∧s.size≤maxLen,fun _ h=>h⟩
def PVs:List PV→List Value→World→Ys→Prop
 | [],[],_,_=>True
 | p :: ps,v :: vs,w,y=>(v.oneCell' = true∧p.p v w y)∧PVs ps vs w y
 | _,_,_,_=>False
def PVt:List PV→List Value→World→Ys→Prop
 | [],[],_,_=>True
 | p :: ps,v :: vs,w,y=>p.p v w y∧PVt ps vs w y
 | _,_,_,_=>False
theorem PVs.mono {w y w' y'} (h:Ev w y w' y'):∀ {ps:List PV} {vs:List Value},PVs ps vs w y→PVs ps vs w' y'
 | [],[],_=>trivial
 | p :: ps,v :: vs,hh=>⟨⟨hh.1.1,p.mono h hh.1.2⟩,PVs.mono h hh.2⟩
 | [],_ :: _,hh=>hh.elim
 | _ :: _,[],hh=>hh.elim
theorem PVt.mono {w y w' y'} (h:Ev w y w' y'):∀ {ps:List PV} {vs:List Value},PVt ps vs w y→PVt ps vs w' y'
 | [],[],_=>trivial
 | p :: ps,v :: vs,hh=>⟨p.mono h hh.1,PVt.mono h hh.2⟩
 | [],_ :: _,hh=>hh.elim
 | _ :: _,[],hh=>hh.elim
theorem PVs.len {w y} : ∀ {ps:List PV} {vs:List Value},PVs ps vs w y→ps.length=vs.length
 | [],[],_=>rfl
 | p :: ps,v :: vs,hh=>by simp [PVs.len hh.2]
 | [],_ :: _,hh=>hh.elim
 | _ :: _,[],hh=>hh.elim
theorem PVs.append {w y} : ∀ {ps qs:List PV} {us vs:List Value},PVs ps us w y→PVs qs vs w y→PVs (ps++qs) (us++vs) w y
 | [],_,[],_,_,k=>k
 | p :: ps,_,v :: us,_,hh,k=>⟨hh.1,PVs.append hh.2 k⟩
 | [],_,_ :: _,_,hh,_=>hh.elim
 | _ :: _,_,[],_,hh,_=>hh.elim
theorem PVs.split {w y} : ∀ {ps qs:List PV} {vs:List Value},PVs (ps++qs) vs w y → ∃ us zs,vs=us++zs∧PVs ps us w y∧PVs qs zs w y
 | [],qs,vs,h=>⟨[],vs,rfl,tv,h⟩
 | p :: ps,qs,v :: vs,h=>by
  obtain ⟨us,zs,rfl,h1,h2⟩:=PVs.split (ps:=ps) h.2
  exact ⟨v :: us,zs,rfl,⟨h.1,h1⟩,h2⟩
 | p :: ps,qs,[],h=>h.elim
def PV.agg (l:List PV):PV:=⟨fun u w y=>∃ vs:List Value,u = .agg vs.toArray∧PVs l vs w y,fun h ⟨vs,e,k⟩=>⟨vs,e,PVs.mono h k⟩⟩
def PV.tup (l:List PV):PV:=⟨fun u w y=>∃ vs:List Value,u = .tuple vs.toArray∧PVt l vs w y,fun h ⟨vs,e,k⟩=>⟨vs,e,PVt.mono h k⟩⟩
def Zt (w:World) (b off:Nat):List Value→Prop
 | []=>True
 | v :: vs=>w.cell? ⟨b,off,none⟩ = some v∧Zt w b (off+1) vs
theorem Zt.block {w w':World} {b:Nat} (h:w'.heap[b]? = w.heap[b]?):∀ {vs:List Value} {off:Nat},Zt w b off vs→Zt w' b off vs
 | [],_,_=>trivial
 | v :: vs,off,k=>⟨(World.cell?_of_block (a:=⟨b,off,none⟩) h).trans k.1,Zt.block h k.2⟩
theorem Zt.lt {w:World} {b off:Nat} {v:Value} {vs:List Value} (h:Zt w b off (v :: vs)):b<w.heap.size:=
 World.block_lt_of_cell? w ⟨b,off,none⟩ h.1
theorem Zt.append {w:World} {b:Nat} : ∀ {us vs:List Value} {off:Nat},Zt w b off us→Zt w b (off+us.length) vs→Zt w b off (us++vs)
 | [],_,_,_,k=>by simpa using k
 | u :: us,vs,off,h,k=>⟨h.1,Zt.append h.2 (by simpa [Nat.add_assoc,YbC 1] using k)⟩
theorem Zt.left {w:World} {b:Nat} : ∀ {us vs:List Value} {off:Nat},Zt w b off (us++vs)→Zt w b off us
 | [],_,_,_=>trivial
 | u :: us,vs,off,h=>⟨h.1,Zt.left h.2⟩
theorem Zt.right {w:World} {b:Nat} : ∀ {us vs:List Value} {off:Nat},Zt w b off (us++vs)→Zt w b (off+us.length) vs
 | [],_,_,h=>by simpa using h
 | u :: us,vs,off,h=>by have:=Zt.right h.2;simpa [Nat.add_assoc,YbC 1] using this
theorem Zt.get {w:World} {b:Nat} : ∀ {vs:List Value} {off:Nat},Zt w b off vs → ∀ j v,vs[j]? = some v→w.cell? ⟨b,off+j,none⟩ = some v
 | [],_,_,j,v,hj=>by simp at hj
 | u :: us,off,h,0,v,hj=>by simp at hj;subst hj;exact h.1
 | u :: us,off,h,j+1,v,hj=>by
  have:=Zt.get h.2 j v XJ
  rw [show off+(j+1)=off+1+j by omega];exact this
theorem Zt.mk {w:World} {b:Nat} : ∀ {vs:List Value} {off:Nat},(∀ j v,vs[j]? = some v→w.cell? ⟨b,off+j,none⟩ = some v)→Zt w b off vs
 | [],_,_=>trivial
 | u :: us,off,h=>⟨by simpa using h 0 u rfl,Zt.mk fun j v hj=>by
  have:=h (j+1) v XJ
  rw [show off+1+j=off+(j+1) by omega];exact this⟩
def PV.sl {α:Type} (R:α→List PV) (l:List α):PV:=
 ⟨fun u w y=>∃ a cap,u = .slice a l.length cap∧l.length≤cap∧cap≤maxLen ∧
   (l = [] ∨ ∃ b off vs,a=some ⟨b,off,none⟩∧¬ y b∧b<w.heap.size∧Zt w b off vs∧PVs (l.flatMap R) vs w y),
  fun {v w y w' y'} h ⟨a,cap,e,h1,h2,h3⟩=>⟨a,cap,e,h1,h2,h3.imp id fun ⟨b,off,vs,ea,hy,hb,hc,hp⟩=>
   ⟨b,off,vs,ea,(h.block b hb hy).2,Yam hb h.size,Zt.block (h.block b hb hy).1 hc,PVs.mono h hp⟩⟩⟩
inductive Anc where
 | slot (i:Nat)
 | val (v:Value)
inductive CF where
 | pv (p:PV)
 | same (i:Nat)
 | fn (i:Nat) (p:Value→PV)
inductive SF where
 | pv (p:PV)
 | adr (a:Anc) (k:Nat)
 | agg (l:List CF)
 | tup (l:List CF)
 | same (i:Nat)
 | fn (i:Nat) (p:Value→PV)
 | when (c:Prop) (s:SF)
inductive RS where
 | pt (a:Anc) (T:TypeId) (cells:List CF)
 | ob (a:Anc) (h:Value→HP)
 | obf (i:Nat) (a:Anc) (h:Value→Value→HP)
abbrev Tau:=Nat→Value
def Anc.v (τ:Tau):Anc→Value
 | .slot i=>τ i
 | .val v=>v
def shift (k:Nat):Value→Value
 | .pointer (some a)=>.pointer (some ⟨a.block,a.off+k,none⟩)
 | .slice (some a) _ _=>.pointer (some ⟨a.block,a.off+k,none⟩)
 | .tuple vs=>if k=999 then .tuple vs else vs.toList.getD k undef
 | v=>v
def CF.holds (τ:Tau) (w:World) (y:Ys):CF→Value→Prop
 | .pv p,v=>p.p v w y
 | .same i,v=>v=τ i∧v.oneCell' = true
 | .fn i p,v=>(p (τ i)).p v w y
def CFs (τ:Tau) (w:World) (y:Ys):List CF→List Value→Prop
 | [],[]=>True
 | c :: cs,v :: vs=>(v.oneCell' = true∧c.holds τ w y v)∧CFs τ w y cs vs
 | _,_=>False
def CFt (τ:Tau) (w:World) (y:Ys):List CF→List Value→Prop
 | [],[]=>True
 | c :: cs,v :: vs=>c.holds τ w y v∧CFt τ w y cs vs
 | _,_=>False
def SF.holds (τ:Tau) (w:World) (y:Ys):SF→Value→Prop
 | .pv p,v=>p.p v w y
 | .adr a k,v=>v=shift k (a.v τ)
 | .agg l,v=>∃ vs:List Value,v = .agg vs.toArray∧CFs τ w y l vs
 | .tup l,v=>∃ vs:List Value,v = .tuple vs.toArray∧CFt τ w y l vs
 | .same i,v=>v=τ i∧v.oneCell' = true
 | .fn i p,v=>(p (τ i)).p v w y
 | .when c s,v=>(c→s.holds τ w y v)∧(¬ c→v=undef)
def RS.holds (τ:Tau) (w:World) (f y:Ys):RS→Prop
 | .pt a T cells=>∃ b vs,a.v τ = .pointer (some ⟨b,0,none⟩)∧w.heap[b]? = some (.cells vs T (0,0))∧(∀ x,f x ↔ x=b)∧CFs τ w y cells vs.toList
 | .ob a h=>(h (a.v τ)).p w f y
 | .obf i a h=>(h (τ i) (a.v τ)).p w f y
def Anc.deps:Anc→List Nat
 | .slot i=>[i]
 | .val _=>[]
def CF.deps:CF→List Nat
 | .pv _=>[]
 | .same i=>[i]
 | .fn i _=>[i]
def cdeps:List CF→List Nat
 | []=>[]
 | c :: cs=>c.deps++cdeps cs
def SF.deps:SF→List Nat
 | .pv _=>[]
 | .adr a _=>a.deps
 | .agg l=>cdeps l
 | .tup l=>cdeps l
 | .same i=>[i]
 | .fn i _=>[i]
 | .when _ s=>s.deps
def RS.deps:RS→List Nat
 | .pt a _ cells=>a.deps++cdeps cells
 | .ob a _=>a.deps
 | .obf i a _=>i :: a.deps
theorem Anc.v_congr {τ τ':Tau} : ∀ {a:Anc},(∀ i ∈ a.deps,τ' i=τ i)→a.v τ' = a.v τ
 | .slot i,h=>h i (by simp [Anc.deps])
 | .val v,_=>rfl
theorem CF.mono {τ τ':Tau} {w y w' y'} (h:Ev w y w' y'):∀ {c:CF} {v},(∀ i ∈ c.deps,τ' i=τ i)→c.holds τ w y v→c.holds τ' w' y' v
 | .pv p,v,_,k=>p.mono h k
 | .same i,v,hd,k=>by simp only [CF.holds] at *;rw [hd i (by simp [CF.deps])];exact k
 | .fn i p,v,hd,k=>by simp only [CF.holds] at *;rw [hd i (by simp [CF.deps])];exact (p (τ i)).mono h k
theorem CFs.mono {τ τ':Tau} {w y w' y'} (h:Ev w y w' y'):∀ {cs:List CF} {vs},(∀ i ∈ cdeps cs,τ' i=τ i)→CFs τ w y cs vs→CFs τ' w' y' cs vs
 | [],[],_,_=>trivial
 | c :: cs,v :: vs,hd,k=>⟨⟨k.1.1,CF.mono h (fun i hi=>hd i XK) k.1.2⟩,CFs.mono h (fun i hi=>hd i XK) k.2⟩
 | [],_ :: _,_,k=>k.elim
 | _ :: _,[],_,k=>k.elim
theorem CFt.mono {τ τ':Tau} {w y w' y'} (h:Ev w y w' y'):∀ {cs:List CF} {vs},(∀ i ∈ cdeps cs,τ' i=τ i)→CFt τ w y cs vs→CFt τ' w' y' cs vs
 | [],[],_,_=>trivial
 | c :: cs,v :: vs,hd,k=>⟨CF.mono h (fun i hi=>hd i XK) k.1,CFt.mono h (fun i hi=>hd i XK) k.2⟩
 | [],_ :: _,_,k=>k.elim
 | _ :: _,[],_,k=>k.elim
theorem SF.mono {τ τ':Tau} {w y w' y'} (h:Ev w y w' y'):∀ {s:SF} {v},(∀ i ∈ s.deps,τ' i=τ i)→s.holds τ w y v→s.holds τ' w' y' v
 | .pv p,v,_,k=>p.mono h k
 | .adr a n,v,hd,k=>by simp only [SF.holds] at *;rw [Anc.v_congr hd];exact k
 | .agg l,v,hd,⟨vs,e,k⟩=>⟨vs,e,CFs.mono h hd k⟩
 | .tup l,v,hd,⟨vs,e,k⟩=>⟨vs,e,CFt.mono h hd k⟩
 | .same i,v,hd,k=>by simp only [SF.holds] at *;rw [hd i (by simp [SF.deps])];exact k
 | .fn i p,v,hd,k=>by simp only [SF.holds] at *;rw [hd i (by simp [SF.deps])];exact (p (τ i)).mono h k
 | .when c s,v,hd,k=>⟨fun hc=>SF.mono h (s:=s) hd (k.1 hc),k.2⟩
theorem RS.mono {τ τ':Tau} {w y w' y' f} (h:Ev w y w' y') (hf:∀ b,f b→w'.heap[b]? = w.heap[b]?):∀ {r:RS},(∀ i ∈ r.deps,τ' i=τ i)→r.holds τ w f y→r.holds τ' w' f y'
 | .pt a T cells,hd,⟨b,vs,e,hb,hx,k⟩=>by
  refine ⟨b,vs,?_,?_,hx,CFs.mono h (fun i hi=>hd i (by simp [RS.deps,hi])) k⟩
  ·rw [Anc.v_congr (fun i hi=>hd i (by simp [RS.deps,hi]))];exact e
  ·rw [hf b ((hx b).2 rfl)];exact hb
 | .ob a g,hd,k=>by
  have e:a.v τ' = a.v τ:=Anc.v_congr hd
  simp only [RS.holds] at *
  rw [e];exact (g _).st h hf k
 | .obf i a g,hd,k=>by
  have e:a.v τ' = a.v τ:=Anc.v_congr fun j hj=>hd j (by simp [RS.deps,hj])
  have e2:τ' i=τ i:=hd i (by simp [RS.deps])
  simp only [RS.holds] at *
  rw [e,e2];exact (g _ _).st h hf k
def Anc.sub (ρ:Tau):Anc→Anc
 | .slot i=>.val (ρ i)
 | a=>a
def CF.sub (ρ:Tau):CF→CF
 | .same i=>.pv (PV.is (ρ i))
 | .fn i p=>.pv (p (ρ i))
 | c=>c
def csub (ρ:Tau):List CF→List CF
 | []=>[]
 | c :: cs=>c.sub ρ :: csub ρ cs
def SF.sub (ρ:Tau):SF→SF
 | .adr a k=>.adr (a.sub ρ) k
 | .agg l=>.agg (csub ρ l)
 | .tup l=>.tup (csub ρ l)
 | .same i=>.pv (PV.is (ρ i))
 | .fn i p=>.pv (p (ρ i))
 | .when c s=>.when c (s.sub ρ)
 | s=>s
def RS.sub (ρ:Tau):RS→RS
 | .pt a T cells=>.pt (a.sub ρ) T (csub ρ cells)
 | .ob a h=>.ob (a.sub ρ) h
 | .obf i a h=>.ob (a.sub ρ) (h (ρ i))
theorem Anc.sub_v (τ:Tau):∀ a:Anc,(a.sub τ).v τ=a.v τ
 | .slot _=>rfl
 | .val _=>rfl
theorem CF.sub_holds {τ:Tau} {w y} : ∀ {c:CF} {v},c.holds τ w y v→(c.sub τ).holds τ w y v
 | .pv _,_,h=>h
 | .same _,_,h=>h
 | .fn _ _,_,h=>h
theorem Zd7 {τ:Tau} {w y} : ∀ {cs:List CF} {vs},CFs τ w y cs vs→CFs τ w y (csub τ cs) vs
 | [],[],_=>trivial
 | c :: cs,v :: vs,k=>⟨⟨k.1.1,CF.sub_holds k.1.2⟩,Zd7 k.2⟩
 | [],_ :: _,k=>k.elim
 | _ :: _,[],k=>k.elim
theorem ZgL {τ:Tau} {w y} : ∀ {cs:List CF} {vs},CFt τ w y cs vs→CFt τ w y (csub τ cs) vs
 | [],[],_=>trivial
 | c :: cs,v :: vs,k=>⟨CF.sub_holds k.1,ZgL k.2⟩
 | [],_ :: _,k=>k.elim
 | _ :: _,[],k=>k.elim
theorem SF.sub_holds {τ:Tau} {w y} : ∀ {s:SF} {v},s.holds τ w y v→(s.sub τ).holds τ w y v
 | .pv _,_,h=>h
 | .adr a k,v,h=>by simp only [SF.holds,SF.sub,Anc.sub_v] at *;exact h
 | .agg l,v,⟨vs,e,h⟩=>⟨vs,e,Zd7 h⟩
 | .tup l,v,⟨vs,e,h⟩=>⟨vs,e,ZgL h⟩
 | .same _,_,h=>h
 | .fn _ _,_,h=>h
 | .when c s,v,h=>⟨fun hc=>SF.sub_holds (s:=s) (h.1 hc),h.2⟩
theorem RS.sub_holds {τ:Tau} {w f y} : ∀ {r:RS},r.holds τ w f y→(r.sub τ).holds τ w f y
 | .pt a T cells,⟨b,vs,e,h1,h2,h3⟩=>⟨b,vs,by rw [Anc.sub_v];exact e,h1,h2,Zd7 h3⟩
 | .ob a h,k=>by simp only [RS.holds,RS.sub,Anc.sub_v] at *;exact k
 | .obf i a h,k=>by simp only [RS.holds,RS.sub,Anc.sub_v] at *;exact k
def look {α:Type} : List (Nat×α)→Nat→Option α
 | [],_=>none
 | x :: l,i=>match Nat.beq x.1 i with
  | true=>some x.2
  | false=>look l i
structure En where
 s:List (Nat×SF)
 r:List (Nat×RS)
abbrev Fp:=Nat→Ys
def U (F:Fp):Ys:=fun b=>∃ n,F n b
structure Wf (F:Fp) (w:World):Prop where
 dis:∀ n m b,F n b→F m b→n=m
 bd:∀ n b,F n b→b<w.heap.size
structure Stp (W:List Nat) (w:World) (F:Fp) (w':World) (F':Fp):Prop where
 os:w'.os=w.os
 tape:w'.tape=w.tape
 output:w'.output=w.output
 size:w.heap.size≤w'.heap.size
 keep:∀ b,b<w.heap.size→(∀ n ∈ W,¬ F n b)→w'.heap[b]? = w.heap[b]?
 fkeep:∀ n,n ∉ W→F' n=F n
 fnew:∀ n ∈ W,∀ b,F' n b→(∃ m ∈ W,F m b)∨w.heap.size≤b
theorem Stp.refl (w:World) (F:Fp):Stp [] w F w F:=⟨rfl,rfl,rfl,YF _,fun _ _ _=>rfl,fun _ _=>rfl,fun _ h=>by cases h⟩
theorem Stp.ev {W w F w' F'} (h:Stp W w F w' F'):Ev w (U F) w' (U F'):=
 ⟨h.os,h.tape,h.output,h.size,fun b hb hy=>⟨h.keep b hb (fun n _ hn=>hy ⟨n,hn⟩),fun ⟨n,hn⟩=>by
  by_cases hW:n ∈ W
  ·rcases h.fnew n hW b hn with ⟨m,_,hm⟩ | h'
   ·exact hy ⟨m,hm⟩
   ·omega
  ·rw [h.fkeep n hW] at hn;exact hy ⟨n,hn⟩⟩⟩
theorem Stp.same {W w F w' F'} (hw:Wf F w) (h:Stp W w F w' F') {n:Nat} (hn:n ∉ W):∀ b,F n b→w'.heap[b]? = w.heap[b]?:=
 fun b hb=>h.keep b (hw.bd n b hb) (fun m hm hmb=>hn (hw.dis n m b hb hmb ▸ hm))
def Act.tau (a:Act):Tau:=fun i=>a.tmps.getD i undef
def upd (τ:Tau) (d:Option Nat) (v:Value):Tau:=fun i=>if d=some i then v else τ i
theorem Act.tau_put (a:Act) (d:Option Nat) (v:Value) (h:∀ i,d=some i→i<a.tmps.size):Act.tau (a.put d v)=upd (Act.tau a) d v:=by
 funext i
 cases d with
 | none=>simp [Act.tau,Act.put,upd]
 | some d=>
  by_cases e:d=i
  ·subst e;have:=h d rfl;simp [Act.tau,Act.put,upd,this]
  ·simp [Act.tau,Act.put,upd,e,YaZ e]
theorem Act.size_put (a:Act) (d:Option Nat) (v:Value):(a.put d v).tmps.size=a.tmps.size:=by cases d <;> simp [Act.put]
theorem Act.defers_put (a:Act) (d:Option Nat) (v:Value):(a.put d v).defers=a.defers:=by cases d <;> rfl
structure ZaV where
 w:World
 y:Ys
 fr:Ys
 n:Nat
structure Sat (B:ZaV) (E:En) (a:Act) (w:World) (F:Fp):Prop where
 wf:Wf F w
 ev:Ev B.w B.y w (U F)
 n:a.tmps.size=B.n
 df:a.defers = []
 s:∀ i s,look E.s i=some s→s.holds (Act.tau a) w (U F) (Act.tau a i)
 r:∀ n r,look E.r n=some r→r.holds (Act.tau a) w (F n) (U F)
 em:∀ n b,F n b → ∃ r,look E.r n=some r
end Go.Gm
namespace Go.Gm
set_option linter.unusedVariables false
set_option linter.unusedSimpArgs false
structure CD where
 ps:List (Nat×SF)
 pr:List (Nat×RS)
 q:SF
 qr:List (Nat×RS)
def CD.W (c:CD):List Nat:=c.qr.map (·.1)
def Hps (ps:List (Nat×SF)) (τ:Tau) (w:World) (y:Ys):Prop:=∀ x ∈ ps,x.2.holds τ w y (τ x.1)
def Hpr (pr:List (Nat×RS)) (τ:Tau) (w:World) (F:Fp):Prop:=∀ x ∈ pr,x.2.holds τ w (F x.1) (U F)
def Zwl (c:CD) (a:Act) (d:Option Nat) (w:World) (F:Fp) (K:Act→World→Prop):Prop:=
 ∀ v w' F',Wf F' w' → Stp c.W w F w' F' → c.q.holds (upd (Act.tau a) d v) w' (U F') v→Hpr c.qr (upd (Act.tau a) d v) w' F' → K (a.put d v) w'
def OpC (P:Program) (o:Oper) (c:CD):Prop:=
 ∀ a w F K Q,Wf F w→Hps c.ps (Act.tau a) w (U F)→Hpr c.pr (Act.tau a) w F→Zwl c a o.dst w F K→o.wp P a w K Q
def ZaF (P:Program) (ops:Array Oper) (o:Oper) (c:CD):Prop:=
 ∀ a w F K Q,Wf F w→Hps c.ps (Act.tau a) w (U F)→Hpr c.pr (Act.tau a) w F→Zwl c a o.dst w F K →
  if Region.wanted o (yielded ops a.tmps)=true then o.wp P a w K Q else K (a.put o.dst undef) w
def En.step (E:En) (o:Oper) (c:CD):En:=⟨match o.dst with | some d=>(d,c.q) :: E.s | none=>E.s,c.qr++E.r⟩
def Z5 {α:Type} (l:List (Nat×α)):List (Nat×α)→Prop
 | []=>True
 | x :: xs=>look l x.1=some x.2∧Z5 l xs
theorem Z5.get {α:Type} {l:List (Nat×α)} : ∀ {xs},Z5 l xs → ∀ x ∈ xs,look l x.1=some x.2
 | [],_,x,hx=>by cases hx
 | z :: xs,h,x,hx=>by
  rcases Ym.1 hx with rfl | hx
  ·exact h.1
  ·exact h.2.get x hx
inductive Zu (P:Program) (ops:Array Oper):En→List Oper→List CD→En→Prop
 | nil {E:En} : Zu P ops E [] [] E
 | cons {E:En} {o:Oper} {c:CD} {l:List Oper} {cs:List CD} {E':En} (hc:ZaF P ops o c) (hs:Z5 E.s c.ps) (hr:Z5 E.r c.pr)
     (t:Zu P ops (E.step o c) l cs E'):Zu P ops E (o :: l) (c :: cs) E'
theorem Zf {α:Type} (l:List (Nat×α)) (j:Nat) (x:α) (i:Nat):look ((j,x) :: l) i=if j=i then some x else look l i:=by
 simp only [look]
 by_cases h:j=i
 ·subst h;simp
 ·have:Nat.beq j i=false:=by
   cases e:Nat.beq j i with
   | false=>rfl
   | true=>exact absurd (Y5 e) h
  rw [this];simp [h]
theorem Zbx {α:Type} (l l':List (Nat×α)) (i:Nat):look (l++l') i=(look l i).orElse (fun _=>look l' i):=by
 induction l with
 | nil=>simp [look]
 | cons x l ih=>
  obtain ⟨j,x⟩:=x
  rw [Yao,Zf,Zf,ih]
  by_cases h:j=i <;> simp [h]
theorem Zam {α:Type} {l:List (Nat×α)} {i:Nat} {x:α} (h:look l i=some x):(i,x) ∈ l:=by
 induction l with
 | nil=>simp [look] at h
 | cons z l ih=>
  obtain ⟨j,z⟩:=z
  rw [Zf] at h
  by_cases e:j=i
  ·subst e;simp at h;subst h;simp
  ·simp [e] at h;exact Yy _ (ih h)
theorem Zcz {α:Type} {l:List (Nat×α)} {i:Nat} (h:i ∉ l.map (·.1)):look l i=none:=by
 induction l with
 | nil=>rfl
 | cons z l ih=>
  obtain ⟨j,z⟩:=z
  simp at h
  rw [Zf,Yb (fun e=>h.1 e.symm)]
  exact ih (by simpa using h.2)
theorem Zbo {α:Type} {l:List (Nat×α)} {i:Nat} (h:i ∈ l.map (·.1)):∃ x,look l i=some x:=by
 induction l with
 | nil=>simp at h
 | cons z l ih=>
  obtain ⟨j,z⟩:=z
  rw [Zf]
  by_cases e:j=i
  ·exact ⟨z,by simp [e]⟩
  ·simp only [e,Yt]
   simp at h
   rcases h with h | h
   ·exact absurd h.symm e
   ·exact ih XL
def En.shut (E:En):Prop:=(∀ x ∈ E.s,x.2.deps = [])∧(∀ x ∈ E.r,x.2.deps = [])
def ZdF:List Nat→Bool
 | []=>true
 | _=>false
def En.shutB (E:En):Bool:=E.s.all (fun x=>ZdF x.2.deps) && E.r.all (fun x=>ZdF x.2.deps)
theorem Zb0 {l:List Nat} (h:ZdF l=true):l = []:=by cases l <;> simp_all [ZdF]
theorem En.shut_of {E:En} (h:E.shutB=true):E.shut:=by
 simp only [En.shutB,Yw,Yad] at h
 exact ⟨fun x hx=>Zb0 (h.1 x hx),fun x hx=>Zb0 (h.2 x hx)⟩
def CD.deps (c:CD):List Nat:=c.q.deps++c.qr.flatMap fun x=>x.2.deps
theorem Zej {c:CD} {a:Act} {d:Option Nat} {w:World} {F:Fp} {v:Value} {w':World} {F':Fp} (hd:∀ i,d=some i→i<a.tmps.size)
  (hwf:Wf F w) (hst:Stp c.W w F w' F') :
  (∀ i (s:SF),(∀ j ∈ s.deps,d≠some j)→d≠some i→s.holds (Act.tau a) w (U F) (Act.tau a i)→s.holds (Act.tau (a.put d v)) w' (U F') (Act.tau (a.put d v) i)) ∧
  (∀ n (r:RS),(∀ j ∈ r.deps,d≠some j)→n ∉ c.W→r.holds (Act.tau a) w (F n) (U F)→r.holds (Act.tau (a.put d v)) w' (F' n) (U F')):=by
 have hev:=hst.ev
 rw [Act.tau_put a d v hd]
 refine ⟨fun i s hdep hi h=>?_,fun n r hdep hn h=>?_⟩
 ·have e:upd (Act.tau a) d v i=Act.tau a i:=by simp [upd,hi]
  rw [e]
  exact SF.mono hev (fun j hj=>by simp [upd,hdep j hj]) h
 ·rw [hst.fkeep n hn]
  exact RS.mono hev (hst.same hwf hn) (fun j hj=>by simp [upd,hdep j hj]) h
section seq
variable {P:Program} {ops:Array Oper} {Q:Exit→Act→World→Prop}
def okSeq:List Oper→List CD→List Nat→Bool
 | [],[],_=>true
 | o :: l,c :: cs,named=>(match o.dst with | some d=>!named.contains d | none=>true) && okSeq l cs (c.deps++named)
 | _,_,_=>false
def dstsIn (n:Nat):List Oper→Bool
 | []=>true
 | o :: l=>(match o.dst with | some d=>Nat.blt d n | none=>true) && dstsIn n l
theorem Ztq {B:ZaV} : ∀ (l:List Oper) (cs:List CD) (E E':En) (named:List Nat) (a:Act) (w:World) (F:Fp),Zu P ops E l cs E' →
  okSeq l cs named=true→dstsIn B.n l=true→(∀ x ∈ E.s,∀ j ∈ x.2.deps,j ∈ named)→(∀ x ∈ E.r,∀ j ∈ x.2.deps,j ∈ named)→Sat B E a w F →
  (∀ a w F,Sat B E' a w F→Q .normal a w)→wpList P ops Q l a w:=by
 intro l
 induction l with
 | nil=>
  intro cs E E' named a w F hc ho hd hs hr G hQ
  cases hc
  exact wpList_nil (hQ a w F G)
 | cons o l ih=>
  intro cs E E' named a w F hc ho hd hs hr G hQ
  cases hc with
  | @cons _ _ c _ cs _ hc hls hlr t=>
   simp only [okSeq,Yw] at ho
   simp only [dstsIn,Yw] at hd
   have hdd:∀ i,o.dst=some i→i<a.tmps.size:=by
    intro i hi
    have:=hd.1
    rw [hi] at this
    rw [G.n]
    exact Yd (by simpa [YaA] using this)
   refine wpList_step fun K hK=>hc a w F K Q G.wf (fun x hx=>G.s _ _ (hls.get x hx)) (fun x hx=>G.r _ _ (hlr.get x hx)) ?_
   intro v w' F' hwf' hst hq hqr
   refine hK _ _ ?_
   have hnd:∀ j,j ∈ named→o.dst≠some j:=by
    intro j hj e
    have:=ho.1
    rw [e] at this
    simp [hj] at this
   have keeps:=Zej (c:=c) (v:=v) hdd G.wf hst
   refine ih cs _ E' (c.deps++named) _ _ F' t ho.2 hd.2 ?_ ?_ ⟨hwf',G.ev.trans hst.ev,by rw [Act.size_put];exact G.n,by rw [Act.defers_put];exact G.df,?_,?_,?_⟩ hQ
   ·intro x hx j hj
    simp only [En.step] at hx
    split at hx
    ·rcases Ym.1 hx with rfl | hx
     ·exact Y6 _ (by simp [CD.deps,hj])
     ·exact YW _ (hs x hx j hj)
    ·exact YW _ (hs x hx j hj)
   ·intro x hx j hj
    simp only [En.step] at hx
    rcases YC.1 hx with hx | hx
    ·refine Y6 _ ?_
     simp only [CD.deps]
     exact YW _ (YaK.2 ⟨x,hx,hj⟩)
    ·exact YW _ (hr x hx j hj)
   ·intro i s hl
    have hold:look E.s i=some s→o.dst≠some i→s.holds (Act.tau (a.put o.dst v)) w' (U F') (Act.tau (a.put o.dst v) i):=fun hl hi=>
     keeps.1 i s (fun j hj=>hnd j (hs _ (Zam hl) j hj)) hi (G.s i s hl)
    simp only [En.step] at hl
    cases hdst:o.dst with
    | none=>rw [hdst] at hl hold;exact hold hl XM
    | some d=>
     rw [hdst] at hl hold
     simp only [] at hl
     rw [Zf] at hl
     by_cases e:d=i
     ·subst e
      simp at hl
      subst hl
      rw [hdst] at hq hdd
      rw [Act.tau_put a (some d) v hdd]
      have:upd (Act.tau a) (some d) v d=v:=by simp [upd]
      rw [this];exact hq
     ·rw [Yb e] at hl
      exact hold hl XN
   ·intro n r hl
    simp only [En.step] at hl
    rw [Zbx] at hl
    by_cases hn:n ∈ c.W
    ·obtain ⟨x,hx⟩:=Zbo (l:=c.qr) (i:=n) hn
     rw [hx] at hl
     simp at hl
     subst hl
     rw [Act.tau_put a o.dst v hdd]
     exact hqr _ (Zam hx)
    ·rw [Zcz (l:=c.qr) (i:=n) hn] at hl
     simp at hl
     exact keeps.2 n r (fun j hj=>hnd j (hr _ (Zam hl) j hj)) hn (G.r n r hl)
   ·intro n b hb
    simp only [En.step]
    rw [Zbx]
    by_cases hn:n ∈ c.W
    ·obtain ⟨x,hx⟩:=Zbo (l:=c.qr) (i:=n) hn
     exact ⟨x,by rw [hx];rfl⟩
    ·rw [hst.fkeep n hn] at hb
     obtain ⟨r,hr'⟩:=G.em n b hb
     rw [Zcz (l:=c.qr) (i:=n) hn]
     exact ⟨r,by simpa using hr'⟩
def En.sub (ρ:Tau) (E:En):En:=⟨E.s.map fun x=>(x.1,x.2.sub ρ),E.r.map fun x=>(x.1,x.2.sub ρ)⟩
theorem Zhp {α:Type} (f:α→α) (l:List (Nat×α)) (i:Nat):look (l.map fun x=>(x.1,f x.2)) i=(look l i).map f:=by
 induction l with
 | nil=>rfl
 | cons z l ih=>
  obtain ⟨j,z⟩:=z
  rw [YG,Zf,Zf,ih]
  by_cases e:j=i <;> simp [e]
theorem Sat.sub {B:ZaV} {E:En} {a:Act} {w:World} {F:Fp} (h:Sat B E a w F):Sat B (E.sub (Act.tau a)) a w F:=
 ⟨h.wf,h.ev,h.n,h.df,fun i s hl=>by
   simp only [En.sub] at hl
   rw [Zhp (fun s=>SF.sub (Act.tau a) s)] at hl
   cases e:look E.s i with
   | none=>rw [e] at hl;simp at hl
   | some s'=>rw [e] at hl;simp at hl;subst hl;exact SF.sub_holds (h.s i s' e),
  fun i s hl=>by
   simp only [En.sub] at hl
   rw [Zhp (fun s=>RS.sub (Act.tau a) s)] at hl
   cases e:look E.r i with
   | none=>rw [e] at hl;simp at hl
   | some s'=>rw [e] at hl;simp at hl;subst hl;exact RS.sub_holds (h.r i s' e),
  fun n b hb=>by
   obtain ⟨r,hr⟩:=h.em n b hb
   exact ⟨r.sub (Act.tau a),by simp only [En.sub];rw [Zhp (fun s=>RS.sub (Act.tau a) s),hr];rfl⟩⟩
theorem Sat.norm {B:ZaV} {E:En} {a:Act} {w:World} {F:Fp} (h:Sat B E a w F) (L:List (Nat×SF)) (R:List (Nat×RS)) (hL:Z5 E.s L) (hR:Z5 E.r R):∃ F',Sat B ⟨L,R⟩ a w F':=by
 have hle:∀ b,U (fun n b=>n ∈ R.map (·.1)∧F n b) b→U F b:=fun b ⟨n,hn⟩=>⟨n,hn.2⟩
 have hev:=Ev.less w hle
 refine ⟨fun n b=>n ∈ R.map (·.1)∧F n b,⟨fun n m b hn hm=>h.wf.dis n m b hn.2 hm.2,fun n b hn=>h.wf.bd n b hn.2⟩,h.ev.trans hev,h.n,h.df,fun i s hl=>?_,fun i s hl=>?_,fun n b hb=>?_⟩
 ·exact SF.mono hev (fun _ _=>rfl) (h.s i s (hL.get (i,s) (Zam hl)))
 ·have hm:=Zam hl
  have hi:i ∈ R.map (·.1):=YB.2 ⟨_,hm,rfl⟩
  have e:(fun b=>i ∈ R.map (·.1)∧F i b)=F i:=by funext b;simp only [hi,true_and]
  show RS.holds (Act.tau a) w (fun b=>i ∈ R.map (·.1)∧F i b) _ s
  rw [e]
  exact RS.mono hev (fun _ _=>rfl) (fun _ _=>rfl) (h.r i s (hR.get (i,s) hm))
 ·exact Zbo hb.1
def lk {α β:Type} : List (Nat×α)→Nat→(α→Option β)→Option β
 | [],_,_=>none
 | (j,v) :: l,i,k=>match Nat.beq j i with
  | true=>k v
  | false=>lk l i k
def ZbG {α:Type} (E:List (Nat×α)):List Nat→List (Nat×α)→Option (List (Nat×α))
 | [],acc=>some acc
 | i :: is,acc=>lk E i fun v=>ZbG E is ((i,v) :: acc)
theorem lk_ok {α β:Type} {i:Nat} {k:α→Option β} {b:β} : ∀ {E:List (Nat×α)},lk E i k=some b → ∃ v,look E i=some v∧k v=some b
 | [],h=>by cases h
 | (j,v) :: l,h=>by
  unfold lk at h
  unfold look
  split at h
  ·rename_i hb;rw [hb];exact ⟨v,rfl,h⟩
  ·rename_i hb;rw [hb];exact lk_ok h
theorem ZdJ {α:Type} {E ss:List (Nat×α)} : ∀ {is:List Nat} {acc:List (Nat×α)},ZbG E is acc=some ss→Z5 E acc→Z5 E ss
 | [],acc,h,k=>by cases h;exact k
 | i :: is,acc,h,k=>by
  obtain ⟨v,h1,h2⟩:=lk_ok h
  exact ZdJ h2 ⟨h1,k⟩
theorem Sat.nm {B:ZaV} {E:En} {a:Act} {w:World} {F:Fp} (h:Sat B E a w F) (is ns:List Nat) {L:List (Nat×SF)} {R:List (Nat×RS)} (hL:ZbG E.s is [] = some L) (hR:ZbG E.r ns [] = some R):∃ F',Sat B ⟨L,R⟩ a w F':=
 h.norm L R (ZdJ hL tv) (ZdJ hR tv)
theorem Sat.nM {B:ZaV} {E:En} {a:Act} {w:World} {F:Fp} (h:Sat B E a w F) (is ns:List Nat) {L:List (Nat × SF)} {R:List (Nat × RS)} (hL:ZbG E.s is []=some L:=by exact rfl) (hR:ZbG E.r ns []=some R:=by exact rfl):∃ F',Sat B ⟨L,R⟩ a w F':=h.nm is ns hL hR
theorem xD {α:Type} {x:α} {l:List α} {i:Nat} : (x :: l).drop (i+1)=l.drop i:=rfl
theorem xE {α:Type} {l:List α} : l.drop 0=l:=rfl
theorem xT {α:Type} {x:α} {l:List α} {i:Nat} : (x :: l).take (i+1)=x :: l.take i:=rfl
theorem xU {α:Type} {l:List α} : l.take 0 = []:=rfl
theorem xL {α:Type} {x:α} {l:List α} : (x :: l).length=l.length+1:=rfl
theorem xM {α:Type} : ([]:List α).length=0:=rfl
theorem xC {α:Type} {x:α} {l m:List α} : (x :: l)++m=x :: (l++m):=rfl
theorem xN {α:Type} {l:List α} : [] ++ l=l:=rfl
theorem Zmh {B:ZaV} {id:Nat} {l:List Oper} {cs:List CD} {E E':En} {a:Act} {w:World} {F:Fp} (G:Sat B E a w F) (hE:E.shutB=true)
  (hc:Zu P l.toArray E l cs E') (ho:okSeq l cs [] = true) (hd:dstsIn B.n l=true)
  (hQ:∀ a w F,Sat B E' a w F→Q .normal a w):(Code.region id l.toArray false).wp P Q a w:=
 wp_region_list (by
  rw [List.toList_toArray]
  exact Ztq l cs E E' [] a w F hc ho hd (fun x hx j hj=>by rw [(En.shut_of hE).1 x hx] at hj;cases hj) (fun x hx j hj=>by rw [(En.shut_of hE).2 x hx] at hj;cases hj) G hQ)
end seq
end Go.Gm
namespace Go.Gm
set_option linter.unusedVariables false
set_option linter.unusedSimpArgs false
section
variable {P:Program}
def Opd (x:Operand) (ps:List (Nat×SF)) (s:SF):Prop:=∀ (a:Act) w y,Hps ps (Act.tau a) w y→s.holds (Act.tau a) w y (a.eval x)
theorem Opd.t {i:Nat} {s:SF} : Opd (.tmp i) [(i,s)] s:=fun a w y h=>h (i,s) (by simp)
theorem Opd.c {v:Value} (h:v.oneCell' = true):Opd (.const v) [] (.pv (.is v)):=fun a w y _=>⟨rfl,h⟩
theorem Opd.ci {k:IntKind} {n:Int} (h:(decide (k.min≤n) && decide (n≤k.max))=true):Opd (.const (.int k n)) [] (.pv (.int k n)):=fun a w y _=>⟨rfl,by simpa [inR] using h⟩
theorem Opd.cb {b:Bool} : Opd (.const (.bool b)) [] (.pv (.bool b)):=fun a w y _=>rfl
theorem Opd.cs {s:ByteArray} (h:Nat.ble s.size maxLen=true):Opd (.const (.string s)) [] (.pv (.str s)):=fun a w y _=>⟨rfl,by simpa using h⟩
theorem Opd.f {f:FuncId} : Opd (.func f) [] (.pv (.is (.func (.func f) #[] #[]))):=fun a w y _=>⟨rfl,rfl⟩
theorem Opd.w {c:Prop} {i:Nat} {s:SF} (hc:c):Opd (.tmp i) [(i,.when c s)] s:=fun a w y h=>(h (i,.when c s) (by simp)).1 hc
theorem Opd.wc {c d:Prop} {i:Nat} {s:SF} (hc:c):Opd (.tmp i) [(i,.when (c∧d) s)] (.when d s):=fun a w y h=>
 have k:=h (i,.when (c∧d) s) XM
 ⟨fun hd=>k.1 ⟨hc,hd⟩,fun hd=>k.2 fun h=>hd h.2⟩
def Ent (s s':SF):Prop:=∀ τ w y v,s.holds τ w y v→s'.holds τ w y v
theorem Opd.conv {x ps s s'} (h:Opd x ps s) (e:Ent s s'):Opd x ps s':=fun a w y hp=>e _ _ _ _ (h a w y hp)
theorem Hps.left {ps qs:List (Nat×SF)} {τ w y} (h:Hps (ps++qs) τ w y):Hps ps τ w y:=fun x hx=>h x (Y6 _ hx)
theorem Hps.right {ps qs:List (Nat×SF)} {τ w y} (h:Hps (ps++qs) τ w y):Hps qs τ w y:=fun x hx=>h x (YW _ hx)
theorem ZaF.free {ops:Array Oper} {o:Oper} {c:CD} (hg:o.guard=none) (h:OpC P o c):ZaF P ops o c:=fun a w F K Q hw hs hr ht=>by
 have:Region.wanted o (yielded ops a.tmps)=true:=by simp [Region.wanted,hg]
 rw [Ye this];exact h a w F K Q hw hs hr ht
theorem r1 {α1:Type _} {a1:α1} : a1=a1∧True:=⟨rfl,tv⟩
theorem r2 {α1:Type _} {α2:Type _} {a1:α1} {a2:α2} : a1=a1∧a2=a2∧True:=⟨rfl,rfl,tv⟩
theorem r3 {α1:Type _} {α2:Type _} {α3:Type _} {a1:α1} {a2:α2} {a3:α3} : a1=a1∧a2=a2∧a3=a3∧True:=⟨rfl,rfl,rfl,tv⟩
theorem r4 {α1:Type _} {α2:Type _} {α3:Type _} {α4:Type _} {a1:α1} {a2:α2} {a3:α3} {a4:α4} : a1=a1∧a2=a2∧a3=a3∧a4=a4∧True:=⟨rfl,rfl,rfl,rfl,tv⟩
theorem r5 {α1:Type _} {α2:Type _} {α3:Type _} {α4:Type _} {α5:Type _} {a1:α1} {a2:α2} {a3:α3} {a4:α4} {a5:α5} : a1=a1∧a2=a2∧a3=a3∧a4=a4∧a5=a5∧True:=⟨rfl,rfl,rfl,rfl,rfl,tv⟩
theorem r6 {α1:Type _} {α2:Type _} {α3:Type _} {α4:Type _} {α5:Type _} {α6:Type _} {a1:α1} {a2:α2} {a3:α3} {a4:α4} {a5:α5} {a6:α6} : a1=a1∧a2=a2∧a3=a3∧a4=a4∧a5=a5∧a6=a6∧True:=⟨rfl,rfl,rfl,rfl,rfl,rfl,tv⟩
theorem cF {P:Program} {ops:Array Oper} {E:En} {o:Oper} {c:CD} {l:List Oper} {cs:List CD} {E':En} (hg:o.guard=none) (h:OpC P o c) (hs:Z5 E.s c.ps) (hr:Z5 E.r c.pr) (t:Zu P ops (E.step o c) l cs E'):Zu P ops E (o :: l) (c :: cs) E':=Zu.cons (ZaF.free hg h) hs hr t
theorem Za5 {ops:Array Oper} {j sj:Nat} {a:Act} {β:Bool} (hj:(ops[j]?).bind (·.dst)=some sj) (h:Act.tau a sj = .bool β):yielded ops a.tmps j=some β:=by
 simp only [yielded,hj,Option.bind_some]
 simp only [Act.tau,Array.getD_eq_getD_getElem?] at h
 cases e:a.tmps[sj]? with
 | none=>rw [e] at h;simp [undef] at h
 | some v=>rw [e] at h;simp at h;subst h;rfl
theorem ZaF.run {ops:Array Oper} {o:Oper} {c:CD} {j sj:Nat} {want β:Bool} (hg:o.guard=some (j,want)) (hj:(ops[j]?).bind (·.dst)=some sj) (hβ:β=want)
  (h:OpC P o c):ZaF P ops o ⟨(sj,.pv (.bool β)) :: c.ps,c.pr,c.q,c.qr⟩:=fun a w F K Q hw hs hr ht=>by
 have hb:Act.tau a sj = .bool β:=hs (sj,.pv (.bool β)) XM
 have:Region.wanted o (yielded ops a.tmps)=true:=by simp [Region.wanted,hg,Za5 hj hb,hβ]
 rw [Ye this]
 exact h a w F K Q hw (fun x hx=>hs x XO) hr ht
theorem ZaF.cond {ops:Array Oper} {o:Oper} {ps:List (Nat×SF)} {pr:List (Nat×RS)} {q:SF} {j sj:Nat} {want β:Bool} (hg:o.guard=some (j,want))
  (hj:(ops[j]?).bind (·.dst)=some sj) (h:β=want→OpC P o ⟨ps,pr,q,[]⟩):ZaF P ops o ⟨(sj,.pv (.bool β)) :: ps,pr,.when (β=want) q,[]⟩:=fun a w F K Q hw hs hr ht=>by
 have hb:Act.tau a sj = .bool β:=hs (sj,.pv (.bool β)) XM
 by_cases hβ:β=want
 ·have:Region.wanted o (yielded ops a.tmps)=true:=by simp [Region.wanted,hg,Za5 hj hb,hβ]
  rw [Ye this]
  exact h hβ a w F K Q hw (fun x hx=>hs x XO) hr (fun v w' F' h1 h2 h3 h4=>ht v w' F' h1 h2 ⟨fun _=>h3,fun h=>absurd hβ h⟩ h4)
 ·have:Region.wanted o (yielded ops a.tmps)=false:=by
   simp [Region.wanted,hg,Za5 hj hb,hβ]
  rw [this]
  exact ht _ w F hw (Stp.refl w F) ⟨fun h=>absurd h hβ,fun _=>rfl⟩ (fun x hx=>by cases hx)
theorem ZaF.cond2 {ops:Array Oper} {o:Oper} {ps:List (Nat×SF)} {pr:List (Nat×RS)} {q:SF} {j sj:Nat} {want γ:Bool} {c:Prop} (hg:o.guard=some (j,want))
  (hj:(ops[j]?).bind (·.dst)=some sj) (h:c∧γ=want→OpC P o ⟨ps,pr,q,[]⟩):ZaF P ops o ⟨(sj,.when c (.pv (.bool γ))) :: ps,pr,.when (c∧γ=want) q,[]⟩:=fun a w F K Q hw hs hr ht=>by
 have hb:=hs (sj,.when c (.pv (.bool γ))) XM
 by_cases hβ:c∧γ=want
 ·have hv:Act.tau a sj = .bool γ:=hb.1 hβ.1
  have:Region.wanted o (yielded ops a.tmps)=true:=by simp [Region.wanted,hg,Za5 hj hv,hβ.2]
  rw [Ye this]
  exact h hβ a w F K Q hw (fun x hx=>hs x XO) hr (fun v w' F' h1 h2 h3 h4=>ht v w' F' h1 h2 ⟨fun _=>h3,fun h=>absurd hβ h⟩ h4)
 ·have:Region.wanted o (yielded ops a.tmps)=false:=by
   by_cases hc:c
   ·have hv:Act.tau a sj = .bool γ:=hb.1 hc
    have hne:γ≠want:=fun e=>hβ ⟨hc,e⟩
    simp [Region.wanted,hg,Za5 hj hv,hne]
   ·have hu:Act.tau a sj=undef:=hb.2 hc
    have:yielded ops a.tmps j=none:=by
     simp only [yielded,hj,Option.bind_some]
     simp only [Act.tau,Array.getD_eq_getD_getElem?] at hu
     cases e:a.tmps[sj]? with
     | none=>rfl
     | some v=>rw [e] at hu;simp at hu;subst hu;rfl
    simp [Region.wanted,hg,this]
  rw [this]
  exact ht _ w F hw (Stp.refl w F) ⟨fun h=>absurd h hβ,fun _=>rfl⟩ (fun x hx=>by cases hx)
theorem OpC.pure {o:Oper} {ps:List (Nat×SF)} {q:SF}
  (h:∀ (a:Act) w y,Hps ps (Act.tau a) w y → ∃ v,(execOp a.eval o).run P w = .ok (.value v) w∧(∀ τ',(∀ i,o.dst≠some i→τ' i=Act.tau a i)→q.holds τ' w y v)) :
  OpC P o ⟨ps,[],q,[]⟩:=fun a w F K Q hw hs hr ht=>by
 obtain ⟨v,hrun,hq⟩:=h a w (U F) hs
 simp only [Oper.wp,hrun,Oper.upon]
 exact ht v w F hw (Stp.refl w F) (hq _ (fun i hi=>by simp [upd,hi])) (fun x hx=>by cases hx)
theorem OpC.read {o:Oper} {ps:List (Nat×SF)} {pr:List (Nat×RS)} {q:SF}
  (h:∀ (a:Act) w F,Hps ps (Act.tau a) w (U F)→Hpr pr (Act.tau a) w F → ∃ v,(execOp a.eval o).run P w = .ok (.value v) w∧(∀ τ',(∀ i,o.dst≠some i→τ' i=Act.tau a i)→q.holds τ' w (U F) v)) :
  OpC P o ⟨ps,pr,q,[]⟩:=fun a w F K Q hw hs hr ht=>by
 obtain ⟨v,hrun,hq⟩:=h a w F hs hr
 simp only [Oper.wp,hrun,Oper.upon]
 exact ht v w F hw (Stp.refl w F) (hq _ (fun i hi=>by simp [upd,hi])) (fun x hx=>by cases hx)
def ZaO (d:Option Nat) (s:SF):Bool:=match d with | some d=>!s.deps.contains d | none=>true
theorem Z9 {d:Option Nat} {s:SF} (h:ZaO d s=true) {τ τ':Tau} {w y v} (ht:∀ i,d≠some i→τ' i=τ i) (k:s.holds τ w y v):s.holds τ' w y v:=
 SF.mono (Ev.refl w y) (fun i hi=>ht i (fun e=>by rw [e] at h;simp [ZaO,hi] at h)) k
section
variable {d:Option Nat} {ty:TypeId} {pos:String} {af:Array Edge} {g:Option (Nat×Bool)}
theorem Zcn {x:Operand} {ps:List (Nat×SF)} {s:SF} (h:Opd x ps s) (hd:ZaO d s=true):OpC P ⟨d,.move x,ty,pos,af,g⟩ ⟨ps,[],s,[]⟩:=
 OpC.pure fun a w y hp=>⟨a.eval x,rfl,fun τ' ht=>Z9 hd ht (h a w y hp)⟩
theorem ZhS {x:Operand} {ps:List (Nat×SF)} {s:SF} (h:Opd x ps s) (hd:ZaO d s=true):OpC P ⟨d,.assign x,ty,pos,af,g⟩ ⟨ps,[],s,[]⟩:=
 OpC.pure fun a w y hp=>⟨a.eval x,rfl,fun τ' ht=>Z9 hd ht (h a w y hp)⟩
end
end
end Go.Gm
namespace Go.Gm
set_option linter.unusedVariables false
set_option linter.unusedSimpArgs false
theorem Zdq (a:Act) (v:Value):a.eval (.const v)=v:=rfl
theorem Zkj (m n:Int):(m == n)=decide (m=n):=by
 by_cases h:m=n <;> simp [h]
theorem ZbK (k:IntKind) (n:Int):inR k (k.wrap n):=wrap_within k n
theorem ZdW {k:IntKind} {n:Int} (h:inR k n):k.wrap n=n:=by
 unfold inR at h
 unfold IntKind.wrap
 cases k <;> simp [IntKind.min,IntKind.max,IntKind.signed,IntKind.bits] at h ⊢ <;> first | omega | (split <;> omega)
theorem add_lit (b off j:Nat):(⟨b,off,none⟩:Addr).add j = ⟨b,off+j,none⟩:=Addr.add_lit b off j
section
variable {P:Program} {d:Option Nat} {ty:TypeId} {pos:String} {af:Array Edge} {g:Option (Nat×Bool)}
variable {x y:Operand} {ps qs:List (Nat×SF)} {k:IntKind} {m n:Int} {t t':TypeId}
section ints
theorem ZbZ (hx:Opd x ps (.pv (.int k m))) (hy:Opd y qs (.pv (.int k n))) {op:BinOp} {s:PV} (h:∀ w,∃ v,(do eqGuard op t x y (.int k m) (.int k n);binOp op t (.int k m) (.int k n):Sem Value).run P w = .ok v w ∧ ∀ y,s.p v w y) :
  OpC P ⟨d,.binOp op t x y t',ty,pos,af,g⟩ ⟨ps++qs,[],.pv s,[]⟩:=
 OpC.pure fun a w yy hp=>by
  have e1:a.eval x = .int k m:=(hx a w yy hp.left).1
  have e2:a.eval y = .int k n:=(hy a w yy hp.right).1
  obtain ⟨v,hv,hs⟩:=h w
  refine ⟨v,?_,fun τ' _=>hs yy⟩
  simp only [execOp,e1,e2,YD,hv,Yv,YI]
theorem Zbb (hx:Opd x ps (.pv (.int k m))) (hy:Opd y qs (.pv (.int k n))):OpC P ⟨d,.binOp .lss t x y t',ty,pos,af,g⟩ ⟨ps++qs,[],.pv (.bool (decide (m<n))),[]⟩:=
 ZbZ hx hy fun w=>⟨.bool (decide (m<n)),by simp [eqGuard,binOp,Op.intCmp],fun _=>rfl⟩
theorem o_leq (hx:Opd x ps (.pv (.int k m))) (hy:Opd y qs (.pv (.int k n))):OpC P ⟨d,.binOp .leq t x y t',ty,pos,af,g⟩ ⟨ps++qs,[],.pv (.bool (decide (m≤n))),[]⟩:=
 ZbZ hx hy fun w=>⟨.bool (decide (m≤n)),by simp [eqGuard,binOp,Op.intCmp],fun _=>rfl⟩
theorem Zad (hx:Opd x ps (.pv (.int k m))) (hy:Opd y qs (.pv (.int k n))):OpC P ⟨d,.binOp .gtr t x y t',ty,pos,af,g⟩ ⟨ps++qs,[],.pv (.bool (decide (n<m))),[]⟩:=
 ZbZ hx hy fun w=>⟨.bool (decide (n<m)),by simp [eqGuard,binOp,Op.intCmp],fun _=>rfl⟩
theorem ZbD (hx:Opd x ps (.pv (.int k m))) (hy:Opd y qs (.pv (.int k n))):OpC P ⟨d,.binOp .geq t x y t',ty,pos,af,g⟩ ⟨ps++qs,[],.pv (.bool (decide (n≤m))),[]⟩:=
 ZbZ hx hy fun w=>⟨.bool (decide (n≤m)),by simp [eqGuard,binOp,Op.intCmp],fun _=>rfl⟩
theorem o_eql (hx:Opd x ps (.pv (.int k m))) (hy:Opd y qs (.pv (.int k n))):OpC P ⟨d,.binOp .eql t x y t',ty,pos,af,g⟩ ⟨ps++qs,[],.pv (.bool (decide (m=n))),[]⟩:=
 ZbZ hx hy fun w=>⟨.bool (m == n),by simp [eqGuard,binOp,Op.intCmp],fun _=>by rw [Zkj];rfl⟩
theorem o_neq (hx:Opd x ps (.pv (.int k m))) (hy:Opd y qs (.pv (.int k n))):OpC P ⟨d,.binOp .neq t x y t',ty,pos,af,g⟩ ⟨ps++qs,[],.pv (.bool (!decide (m=n))),[]⟩:=
 ZbZ hx hy fun w=>⟨.bool (m != n),by simp [eqGuard,binOp,Op.intCmp],fun _=>by rw [bne,Zkj];rfl⟩
theorem Zce (hx:Opd x ps (.pv (.int k m))) (hy:Opd y qs (.pv (.int k n))):OpC P ⟨d,.binOp .add t x y t',ty,pos,af,g⟩ ⟨ps++qs,[],.pv (.int k (k.wrap (m+n))),[]⟩:=
 ZbZ hx hy fun w=>⟨.int k (k.wrap (m+n)),by simp [eqGuard,binOp,Op.intArith],fun _=>⟨rfl,ZbK _ _⟩⟩
theorem o_sub (hx:Opd x ps (.pv (.int k m))) (hy:Opd y qs (.pv (.int k n))):OpC P ⟨d,.binOp .sub t x y t',ty,pos,af,g⟩ ⟨ps++qs,[],.pv (.int k (k.wrap (m - n))),[]⟩:=
 ZbZ hx hy fun w=>⟨.int k (k.wrap (m - n)),by simp [eqGuard,binOp,Op.intArith],fun _=>⟨rfl,ZbK _ _⟩⟩
theorem Zmr (hx:Opd x ps (.pv (.int k m))) (hy:Opd y qs (.pv (.int k n))):OpC P ⟨d,.binOp .mul t x y t',ty,pos,af,g⟩ ⟨ps++qs,[],.pv (.int k (k.wrap (m*n))),[]⟩:=
 ZbZ hx hy fun w=>⟨.int k (k.wrap (m*n)),by simp [eqGuard,binOp,Op.intArith],fun _=>⟨rfl,ZbK _ _⟩⟩
theorem ZmW (hx:Opd x ps (.pv (.int k m))) (hy:Opd y qs (.pv (.int k n))) (h:n≠0):OpC P ⟨d,.binOp .quo t x y t',ty,pos,af,g⟩ ⟨ps++qs,[],.pv (.int k (k.wrap (m.tdiv n))),[]⟩:=
 ZbZ hx hy fun w=>⟨.int k (k.wrap (m.tdiv n)),by simp [eqGuard,binOp,Op.intDiv,h],fun _=>⟨rfl,ZbK _ _⟩⟩
theorem o_and (hx:Opd x ps (.pv (.int k m))) (hy:Opd y qs (.pv (.int k n))):OpC P ⟨d,.binOp .and t x y t',ty,pos,af,g⟩ ⟨ps++qs,[],.pv (.int k (bits .and k m n)),[]⟩:=
 ZbZ hx hy fun w=>⟨.int k (bits .and k m n),by simp [eqGuard,binOp,Op.intBits,bits],fun _=>⟨rfl,bits_within _ _ _ _⟩⟩
theorem Zwi (hx:Opd x ps (.pv (.int k m))) (hy:Opd y qs (.pv (.int k n))):OpC P ⟨d,.binOp .or t x y t',ty,pos,af,g⟩ ⟨ps++qs,[],.pv (.int k (bits .or k m n)),[]⟩:=
 ZbZ hx hy fun w=>⟨.int k (bits .or k m n),by simp [eqGuard,binOp,Op.intBits,bits],fun _=>⟨rfl,bits_within _ _ _ _⟩⟩
theorem o_xor (hx:Opd x ps (.pv (.int k m))) (hy:Opd y qs (.pv (.int k n))):OpC P ⟨d,.binOp .xor t x y t',ty,pos,af,g⟩ ⟨ps++qs,[],.pv (.int k (bits .xor k m n)),[]⟩:=
 ZbZ hx hy fun w=>⟨.int k (bits .xor k m n),by simp [eqGuard,binOp,Op.intBits,bits],fun _=>⟨rfl,bits_within _ _ _ _⟩⟩
end ints
theorem o_min {m n:Int} (hx:Opd x ps (.pv (.int k m))) (hy:Opd y qs (.pv (.int k n))) :
  OpC P ⟨d,.call { callee:=.builtin .min,args:=#[x,y],argTypes:=#[t,t'] },ty,pos,af,g⟩ ⟨ps++qs,[],.pv (.int k (if n<m then n else m)),[]⟩:=
 OpC.pure fun a w yy hp=>by
  have e1:=hx a w yy hp.left
  have e2:=hy a w yy hp.right
  refine ⟨.int k (if n<m then n else m),?_,fun τ' _=>⟨rfl,?_⟩⟩
  ·simp [execOp,resolve,invoke,builtin,Builtin.min_,Builtin.min2,e1.1,e2.1]
  ·by_cases h:n<m
   ·rw [Ye h];exact e2.2
   ·rw [Yb h];exact e1.2
theorem Zup {m n:Int} (hx:Opd x ps (.pv (.int k m))) (hy:Opd y qs (.pv (.int k n))) :
  OpC P ⟨d,.call { callee:=.builtin .max,args:=#[x,y],argTypes:=#[t,t'] },ty,pos,af,g⟩ ⟨ps++qs,[],.pv (.int k (if m<n then n else m)),[]⟩:=
 OpC.pure fun a w yy hp=>by
  have e1:=hx a w yy hp.left
  have e2:=hy a w yy hp.right
  refine ⟨.int k (if m<n then n else m),?_,fun τ' _=>⟨rfl,?_⟩⟩
  ·simp [execOp,resolve,invoke,builtin,Builtin.max_,Builtin.max2,e1.1,e2.1]
  ·by_cases h:m<n
   ·rw [Ye h];exact e2.2
   ·rw [Yb h];exact e1.2
theorem o_not {β:Bool} (hx:Opd x ps (.pv (.bool β))):OpC P ⟨d,.unOp .not t x,ty,pos,af,g⟩ ⟨ps,[],.pv (.bool (!β)),[]⟩:=
 OpC.pure fun a w yy hp=>by
  have e1:a.eval x = .bool β:=hx a w yy hp
  exact ⟨.bool !β,by simp [execOp,e1,Op.unary],fun τ' _=>rfl⟩
theorem Zwf (hx:Opd x ps (.pv (.int k m))):OpC P ⟨d,.unOp .neg t x,ty,pos,af,g⟩ ⟨ps,[],.pv (.int k (k.wrap (0 - m))),[]⟩:=
 OpC.pure fun a w yy hp=>by
  have e1:=(hx a w yy hp).1
  exact ⟨.int k (k.wrap (0 - m)),by simp [execOp,e1,Op.unary,Op.intArith],fun τ' _=>⟨rfl,ZbK _ _⟩⟩
theorem o_conv {k':IntKind} (hu:P.underlying t' = some (.int k')) (ht:(P.underlying t).isSome=true) (hx:Opd x ps (.pv (.int k m))) :
  OpC P ⟨d,.convert t t' x,ty,pos,af,g⟩ ⟨ps,[],.pv (.int k' (k'.wrap m)),[]⟩:=
 OpC.pure fun a w yy hp=>by
  have e1:=(hx a w yy hp).1
  obtain ⟨u,hu'⟩:=YaH.1 ht
  exact ⟨.int k' (k'.wrap m),by simp [execOp,e1,convert,Yo hu,Yo hu',Conv.intToInt],fun τ' _=>⟨rfl,ZbK _ _⟩⟩
theorem Zaq {c:Operand} {β γ:Bool} (hc:Opd c ps (.pv (.bool β))) (hb:Opd y qs (.when (β=false) (.pv (.bool γ)))) :
  OpC P ⟨d,.pick c (.const (.bool true)) y,ty,pos,af,g⟩ ⟨ps++qs,[],.pv (.bool (β || γ)),[]⟩:=
 OpC.pure fun a w yy hp=>by
  have e1:a.eval c = .bool β:=hc a w yy hp.left
  have e2:=(hb a w yy hp.right).1
  cases β with
  | true=>exact ⟨.bool true,by simp [execOp,e1,asBool,Zdq],fun _ _=>rfl⟩
  | false=>
   have e3:a.eval y = .bool γ:=e2 rfl
   exact ⟨.bool γ,by simp [execOp,e1,e3,asBool],fun _ _=>by simp [SF.holds,PV.bool]⟩
theorem ZC {c:Operand} {β γ:Bool} (hc:Opd c ps (.pv (.bool β))) (hb:Opd y qs (.when (β=true) (.pv (.bool γ)))) :
  OpC P ⟨d,.pick c y (.const (.bool false)),ty,pos,af,g⟩ ⟨ps++qs,[],.pv (.bool (β && γ)),[]⟩:=
 OpC.pure fun a w yy hp=>by
  have e1:a.eval c = .bool β:=hc a w yy hp.left
  have e2:=(hb a w yy hp.right).1
  cases β with
  | false=>exact ⟨.bool false,by simp [execOp,e1,asBool,Zdq],fun _ _=>rfl⟩
  | true=>
   have e3:a.eval y = .bool γ:=e2 rfl
   exact ⟨.bool γ,by simp [execOp,e1,e3,asBool],fun _ _=>by simp [SF.holds,PV.bool]⟩
theorem ZrL {k:IntKind} {m n:Int} (hm:inR k m) (hn:inR k n) (h:n≠0):inR k (m.tmod n):=by
 unfold inR at *
 have h1:=Int.tmod_lt_of_pos
 have habs:(m.tmod n).natAbs≤m.natAbs:=by rw [Int.natAbs_tmod];exact Nat.mod_le _ _
 rcases Int.lt_or_le m 0 with hneg | hpos
 ·have h2:m.tmod n≤0:=by
   have:=Int.tmod_nonneg (a:=-m) n ow
   rw [Int.neg_tmod] at this;omega
  have h3:k.min≤0:=Ko
  have h4:0≤k.max:=by cases k <;> simp [IntKind.max,IntKind.signed,IntKind.bits]
  omega
 ·have h2:=Int.tmod_nonneg n hpos
  have h3:k.min≤0:=Ko
  omega
theorem Zjs {m n:Int} (hx:Opd x ps (.pv (.int k m))) (hy:Opd y qs (.pv (.int k n))) (h:n≠0):OpC P ⟨d,.binOp .rem t x y t',ty,pos,af,g⟩ ⟨ps++qs,[],.pv (.int k (m.tmod n)),[]⟩:=
 OpC.pure fun a w yy hp=>by
  have e1:=hx a w yy hp.left
  have e2:=hy a w yy hp.right
  exact ⟨.int k (m.tmod n),by simp [execOp,e1.1,e2.1,eqGuard,binOp,Op.intDiv,h],fun _ _=>⟨rfl,ZrL e1.2 e2.2 h⟩⟩
theorem o_shl {m n:Int} {k':IntKind} (hx:Opd x ps (.pv (.int k m))) (hy:Opd y qs (.pv (.int k' n))) (h:0≤n):OpC P ⟨d,.binOp .shl t x y t',ty,pos,af,g⟩ ⟨ps++qs,[],.pv (.int k (k.wrap (m*2 ^ min n.toNat k.bits))),[]⟩:=
 OpC.pure fun a w yy hp=>by
  have e1:=(hx a w yy hp.left).1
  have e2:=(hy a w yy hp.right).1
  have h':¬ n<0:=ow
  exact ⟨.int k (k.wrap (m*2 ^ min n.toNat k.bits)),by simp [execOp,e1,e2,eqGuard,binOp,Op.shift,h'],fun _ _=>⟨rfl,ZbK _ _⟩⟩
theorem ZgQ {t ty':TypeId} (hu:P.underlying t=some (.pointer ty')):P.underlying t=some (.pointer (P.pointee t)):=by
 simp [Program.pointee,hu]
theorem ZdA {v:Value} {ty':TypeId} (ad:Option Addr) (hu:P.underlying t=some (.pointer ty')) (hv:v = .pointer ad) (hx:Opd x ps (.pv (.is v))) :
  OpC P ⟨d,.binOp .eql t x (.const (.pointer none)) t',ty,pos,af,g⟩ ⟨ps,[],.pv (.bool ad.isNone),[]⟩:=
 OpC.pure fun a w yy hp=>by
  have e1:a.eval x=v:=(hx a w yy hp).1
  subst hv
  refine ⟨.bool ad.isNone,?_,fun _ _=>rfl⟩
  have hg:(eqGuard .eql t x (.const (.pointer none)) (.pointer ad) (.pointer none)).run P w = .ok () w:=rfl
  have hr:=run_eql_pointer_nil (P:=P) w t ad (ZgQ hu)
  simp only [execOp,e1,Zdq,YD,hg,Yv,hr,YI]
end
end Go.Gm
namespace Go.Gm
set_option linter.unusedVariables false
set_option linter.unusedSimpArgs false
theorem CFs.len {τ w y} : ∀ {cs:List CF} {vs:List Value},CFs τ w y cs vs→cs.length=vs.length
 | [],[],_=>rfl
 | c :: cs,v :: vs,h=>by simp [CFs.len h.2]
 | [],_ :: _,h=>h.elim
 | _ :: _,[],h=>h.elim
theorem CFs.get {τ w y} : ∀ {cs:List CF} {vs:List Value},CFs τ w y cs vs → ∀ (i:Nat) (c:CF),cs[i]? = some c → ∃ v,vs[i]? = some v∧c.holds τ w y v
 | [],[],_,i,c,h=>by simp at h
 | c :: cs,v :: vs,h,0,c',hi=>by simp at hi;subst hi;exact ⟨v,rfl,h.1.2⟩
 | c :: cs,v :: vs,h,i+1,c',hi=>by
  obtain ⟨u,h1,h2⟩:=CFs.get h.2 i c' XP
  exact ⟨u,by simpa using h1,h2⟩
 | [],_ :: _,h,_,_,_=>h.elim
 | _ :: _,[],h,_,_,_=>h.elim
theorem CFs.drop {τ w y} : ∀ {cs:List CF} {vs:List Value} (k:Nat),CFs τ w y cs vs→CFs τ w y (cs.drop k) (vs.drop k)
 | cs,vs,0,h=>h
 | [],[],k+1,h=>trivial
 | c :: cs,v :: vs,k+1,h=>by simpa using CFs.drop k h.2
 | [],_ :: _,_+1,h=>h.elim
 | _ :: _,[],_+1,h=>h.elim
theorem CFs.take {τ w y} : ∀ {cs:List CF} {vs:List Value} (k:Nat),CFs τ w y cs vs→CFs τ w y (cs.take k) (vs.take k)
 | cs,vs,0,h=>by simp [CFs]
 | [],[],k+1,h=>trivial
 | c :: cs,v :: vs,k+1,h=>⟨h.1,CFs.take k h.2⟩
 | [],_ :: _,_+1,h=>h.elim
 | _ :: _,[],_+1,h=>h.elim
theorem CFs.append {τ w y} : ∀ {cs ds:List CF} {vs us:List Value},CFs τ w y cs vs→CFs τ w y ds us→CFs τ w y (cs++ds) (vs++us)
 | [],_,[],_,_,k=>k
 | c :: cs,_,v :: vs,_,h,k=>⟨h.1,CFs.append h.2 k⟩
 | [],_,_ :: _,_,h,_=>h.elim
 | _ :: _,_,[],_,h,_=>h.elim
theorem CFs.one {τ w y} : ∀ {cs:List CF} {vs:List Value},CFs τ w y cs vs → ∀ v ∈ vs,v.oneCell' = true
 | [],[],_,v,hv=>by cases hv
 | c :: cs,v :: vs,h,u,hu=>by
  rcases Ym.1 hu with rfl | hu
  ·exact h.1.1
  ·exact CFs.one h.2 u hu
 | [],_ :: _,h,_,_=>h.elim
 | _ :: _,[],h,_,_=>h.elim
theorem CFs.of_pvs {τ w y} : ∀ {ps:List PV} {vs:List Value},PVs ps vs w y→CFs τ w y (ps.map CF.pv) vs
 | [],[],_=>trivial
 | p :: ps,v :: vs,h=>⟨h.1,CFs.of_pvs h.2⟩
 | [],_ :: _,h=>h.elim
 | _ :: _,[],h=>h.elim
def _root_.Go.Program.aggB (P:Program) (t:TypeId):Option Bool:=match P.underlying t with
 | some (.struct _) | some (.array _ _)=>some true
 | some _=>some false
 | none=>none
theorem ZaS {P:Program} {t:TypeId} {b:Bool} (h:P.aggB t=some b) (w:World):(isAgg t).run P w = .ok b w:=by
 unfold Program.aggB at h
 cases hu:P.underlying t with
 | none=>rw [hu] at h;cases h
 | some u=>
  rw [hu] at h
  unfold isAgg
  simp only [YD,Yo hu,Yv]
  cases u <;> simp at h <;> subst h <;> rfl
theorem run_sizeOf {P:Program} {t:TypeId} {n:Nat} (h:(P.info? t).map (·.size)=some n) (w:World):(sizeOf t).run P w = .ok n w:=by
 cases hi:P.info? t with
 | none=>rw [hi] at h;cases h
 | some i=>rw [hi] at h;simp at h;subst h;simp [sizeOf,typeInfo,hi]
def ldSF (agg:Bool) (sz:Nat) (cells:List CF) (k:Nat):SF:=match agg with
 | true=>.agg ((cells.drop k).take sz)
 | false=>match cells[k]? with
  | some (.pv p)=>.pv p
  | _=>.pv .any
def wid (ag:Bool) (sz:Nat):Nat:=match ag with | true=>sz | false=>1
theorem ZI {w:World} {b:Nat} {vs:Array Value} {T:TypeId} {fr:Nat×Nat} (h:w.heap[b]? = some (.cells vs T fr)) (j:Nat):w.cell? ⟨b,j,none⟩ = vs[j]?:=by
 simp [World.cell?,h]
theorem Zib {P:Program} {τ:Tau} {w:World} {y:Ys} {b k sz:Nat} {t T:TypeId} {ag:Bool} {vs:Array Value} {fr:Nat×Nat} {cells:List CF}
  (ha:P.aggB t=some ag) (hs:(P.info? t).map (·.size)=some sz) (hb:w.heap[b]? = some (.cells vs T fr)) (hc:CFs τ w y cells vs.toList)
  (hk:Nat.ble (k+wid ag sz) cells.length=true) :
  ∃ v,(loadVar t ⟨b,k,none⟩).run P w = .ok v w∧(ldSF ag sz cells k).holds τ w y v:=by
 have hl:=hc.len
 simp only [Array.length_toList] at hl
 have hk':k+wid ag sz≤vs.size:=by rw [← hl];exact Yak hk
 cases ag with
 | true=>
  simp only [wid] at hk'
  have h1:=YaR (P:=P) w ⟨b,k,none⟩ ((vs.toList.drop k).take sz) (by
   intro j v hj
   rw [add_lit,ZI hb]
   rw [Ybn] at hj
   split at hj
   ·simpa using hj
   ·cases hj)
  have h2:((vs.toList.drop k).take sz).length=sz:=XT
  rw [h2] at h1
  refine ⟨.agg ((vs.toList.drop k).take sz).toArray,?_,_,rfl,(hc.drop k).take sz⟩
  simp [loadVar,ZaS ha,run_sizeOf hs,h1]
 | false=>
  simp only [wid] at hk'
  have hlt:k<vs.size:=ow
  refine ⟨vs[k],?_,?_⟩
  ·have hcell:w.cell? ⟨b,k,none⟩ = some vs[k]:=by rw [ZI hb];simp [hlt]
   simp [loadVar,ZaS ha,load,Sem.run,hcell]
  ·have hkc:k<cells.length:=ow
   obtain ⟨v,h1,h2⟩:=hc.get k cells[k] (by simp [hkc])
   have:v=vs[k]:=by simpa [hlt] using h1.symm
   subst this
   simp only [ldSF,Yas hkc]
   cases e:cells[k] with
   | pv p=>rw [e] at h2;exact h2
   | same i=>trivial
   | fn i p=>trivial
section
variable {P:Program} {d:Option Nat} {ty:TypeId} {pos:String} {af:Array Edge} {g:Option (Nat×Bool)}
variable {x y:Operand} {ps qs:List (Nat×SF)} {t T:TypeId} {a:Anc} {k:Nat} {cells:List CF} {n:Nat}
theorem Zbe {τ:Tau} {w:World} {f yy:Ys} (h:(RS.pt a T cells).holds τ w f yy) :
 ∃ b vs,a.v τ = .pointer (some ⟨b,0,none⟩)∧w.heap[b]? = some (.cells vs T (0,0))∧(∀ x,f x ↔ x=b)∧CFs τ w yy cells vs.toList:=h
def Za9 (x:Operand) (ps:List (Nat×SF)) (a:Anc) (k:Nat):Prop:=∀ (act:Act) w y,Hps ps (Act.tau act) w y → ∀ b,a.v (Act.tau act) = .pointer (some ⟨b,0,none⟩)→act.eval x = .pointer (some ⟨b,k,none⟩)
theorem Za9.adr {i:Nat} {a:Anc} {k:Nat} : Za9 (.tmp i) [(i,.adr a k)] a k:=fun act w y h b e=>by
 have:act.eval (.tmp i)=shift k (a.v (Act.tau act)):=h (i,.adr a k) XM
 rw [this,e];simp [shift]
theorem Za9.same {i j:Nat} : Za9 (.tmp i) [(i,.same j)] (.slot j) 0:=fun act w y h b e=>by
 have:act.eval (.tmp i)=Act.tau act j:=(h (i,.same j) XM).1
 rw [this];exact e
theorem Za9.is {i:Nat} {v:Value} : Za9 (.tmp i) [(i,.pv (.is v))] (.val v) 0:=fun act w y h b e=>by
 have:act.eval (.tmp i)=v:=(h (i,.pv (.is v)) XM).1
 rw [this];exact e
theorem Za9.w {c:Prop} {i:Nat} {s:SF} {a:Anc} {k:Nat} (hc:c) (h:Za9 (.tmp i) [(i,s)] a k):Za9 (.tmp i) [(i,.when c s)] a k:=fun act w y hp=>
 h act w y (fun x hx=>by simp only [Yn] at hx;subst hx;exact (hp (i,.when c s) XM).1 hc)
theorem Zbz {ag:Bool} {sz:Nat} (n:Nat) (hx:Za9 x ps a k) (ha:P.aggB t=some ag) (hs:(P.info? t).map (·.size)=some sz)
  (hk:Nat.ble (k+wid ag sz) cells.length=true) (hd:ZaO d (ldSF ag sz cells k)=true) :
  OpC P ⟨d,.load t x,ty,pos,af,g⟩ ⟨ps,[(n,.pt a T cells)],ldSF ag sz cells k,[]⟩:=
 OpC.read fun act w F hp hr=>by
  obtain ⟨b,vs,e,hb,hf,hc⟩:=Zbe (hr (n,.pt a T cells) XM)
  have ex:act.eval x = .pointer (some ⟨b,k,none⟩):=hx act w (U F) hp b e
  obtain ⟨v,h1,h2⟩:=Zib (P:=P) ha hs hb hc hk
  refine ⟨v,?_,fun τ' ht=>Z9 hd ht h2⟩
  simp [execOp,ex,Instr.loadAt,Instr.sureAddr,h1]
theorem o_nilCheck (n:Nat) (hx:Za9 x ps a k) (hd:ZaO d (.adr a k)=true) :
  OpC P ⟨d,.nilCheck x,ty,pos,af,g⟩ ⟨ps,[(n,.pt a T cells)],.adr a k,[]⟩:=
 OpC.read fun act w F hp hr=>by
  obtain ⟨b,vs,e,hb,hf,hc⟩:=Zbe (hr (n,.pt a T cells) XM)
  have ex:act.eval x = .pointer (some ⟨b,k,none⟩):=hx act w (U F) hp b e
  have h0:(SF.adr a k).holds (Act.tau act) w (U F) (.pointer (some ⟨b,k,none⟩)):=by simp [SF.holds,e,shift]
  refine ⟨.pointer (some ⟨b,k,none⟩),?_,fun τ' ht=>Z9 hd ht h0⟩
  simp [execOp,ex]
def _root_.Go.Program.fieldOff (P:Program) (s:TypeId) (f:Nat):Option Nat:=match P.underlying s with
 | some (.struct fs)=>match fs[f]? with
  | some fd=>match P.info? fd.type with
   | some i=>if i.size=0 then none else some fd.offset
   | none=>none
  | none=>none
 | _=>none
theorem Zc6 {P:Program} {s:TypeId} {f off:Nat} (h:P.fieldOff s f=some off) (b k:Nat) (w:World) :
  (Instr.fieldAt s (.pointer (some ⟨b,k,none⟩)) f).run P w = .ok (.pointer (some ⟨b,k+off,none⟩)) w:=by
 unfold Program.fieldOff at h
 split at h
 ·rename_i fs hu
  split at h
  ·rename_i fd hf
   split at h
   ·rename_i i hi
    split at h
    ·cases h
    ·rename_i hz
     simp at h
     subst h
     simp [Instr.fieldAt,Yo hu,hf,Instr.sureAddr,fieldPlace,sizeOf,typeInfo,hi,hz,add_lit]
   ·cases h
  ·cases h
 ·cases h
theorem ZS {s:TypeId} {f off:Nat} (n:Nat) (hx:Za9 x ps a k) (ho:P.fieldOff s f=some off) (hd:ZaO d (.adr a (k+off))=true) :
  OpC P ⟨d,.fieldAddr s x f,ty,pos,af,g⟩ ⟨ps,[(n,.pt a T cells)],.adr a (k+off),[]⟩:=
 OpC.read fun act w F hp hr=>by
  obtain ⟨b,vs,e,hb,hf,hc⟩:=Zbe (hr (n,.pt a T cells) XM)
  have ex:act.eval x = .pointer (some ⟨b,k,none⟩):=hx act w (U F) hp b e
  refine ⟨.pointer (some ⟨b,k+off,none⟩),by simp [execOp,ex,Zc6 ho],fun τ' ht=>Z9 hd ht ?_⟩
  simp [SF.holds,e,shift]
theorem ZaJ {w:World} {F:Fp} (hw:Wf F w) (n:Nat) (o:Obj) :
  Wf (fun m=>if m=n then fun b=>b=w.heap.size else F m) (w.alloc o)∧Stp [n] w F (w.alloc o) (fun m=>if m=n then fun b=>b=w.heap.size else F m):=by
 have hs:(w.alloc o).heap.size=w.heap.size+1:=XM
 refine ⟨⟨fun i j b hi hj=>?_,fun i b hi=>?_⟩,⟨rfl,rfl,rfl,by rw [hs];omega,fun b hb _=>heap_alloc_old w o hb,fun m hm=>?_,fun m hm b hb=>?_⟩⟩
 ·by_cases e1:i=n <;> by_cases e2:j=n <;> simp [e1,e2] at hi hj
  ·rw [e1,e2]
  ·subst hi;have:=hw.bd j _ hj;omega
  ·subst hj;have:=hw.bd i _ hi;omega
  ·exact hw.dis i j b hi hj
 ·rw [hs]
  by_cases e1:i=n <;> simp [e1] at hi
  ·omega
  ·have:=hw.bd i b hi;omega
 ·simp at hm;simp [hm]
 ·simp at hm;subst hm;simp at hb;right;omega
theorem ZtZ {o:Oper} {d':Nat} {ps:List (Nat×SF)} {cells:List CF} (n:Nat) (hdst:o.dst=some d')
  (h:∀ (a:Act) w y,Hps ps (Act.tau a) w y → ∃ vs:List Value,CFs (Act.tau a) w y cells vs ∧
   (execOp a.eval o).run P w = .ok (.value (.pointer (some ⟨w.heap.size,0,none⟩))) (w.alloc (.cells vs.toArray T (0,0)))) (hd:(cdeps cells).contains d' = false) :
  OpC P o ⟨ps,[],.same d',[(n,.pt (.slot d') T cells)]⟩:=fun act w F K Q hw hs hr ht=>by
 obtain ⟨vs,hc,hrun⟩:=h act w (U F) hs
 obtain ⟨h1,h2⟩:=ZaJ hw n (.cells vs.toArray T (0,0))
 simp only [Oper.wp,hrun,Oper.upon]
 have hτ:upd (Act.tau act) o.dst (.pointer (some ⟨w.heap.size,0,none⟩)) d' = .pointer (some ⟨w.heap.size,0,none⟩):=by simp [upd,hdst]
 refine ht _ _ _ h1 h2 ?_ ?_
 ·exact ⟨hτ.symm,rfl⟩
 ·intro x hx
  simp only [Yn] at hx
  subst hx
  refine ⟨w.heap.size,vs.toArray,hτ,Yat w _,fun x=>by simp,?_⟩
  refine CFs.mono h2.ev (fun i hi=>?_) hc
  have:i≠d':=fun e=>by subst e;simp [hi] at hd
  simp [upd,hdst,Ne.symm this]
def zCF:Value→CF
 | .int k n=>.pv (.int k n)
 | .bool b=>.pv (.bool b)
 | .string s=>.pv (.str s)
 | v=>.pv (.is v)
def zOk:Value→Bool
 | .int k n=>decide (k.min≤n) && decide (n≤k.max)
 | .string s=>Nat.ble s.size maxLen
 | .agg _=>false
 | .tuple _=>false
 | _=>true
def _root_.Go.Program.zeros (P:Program) (t:TypeId):Option (List Value):=match P.info? t with
 | some i=>match i.zero with
  | some z=>if z.cells.toList.all zOk then some z.cells.toList else none
  | none=>none
 | none=>none
theorem ZuE {τ w y} : ∀ {vs:List Value},vs.all zOk=true→CFs τ w y (vs.map zCF) vs
 | [],_=>trivial
 | v :: vs,h=>by
  simp only [List.all_cons,Yw] at h
  refine ⟨?_,ZuE h.2⟩
  cases v <;> first | exact ⟨rfl,rfl⟩ | exact ⟨rfl,rfl,rfl⟩ | (have:=h.1;simp [zOk] at this;exact ⟨rfl,rfl,this⟩) | (have:=h.1;simp [zOk] at this)
theorem Zb6 {t:TypeId} {zs:List Value} (h:P.zeros t=some zs):∃ z:Value,z.cells=zs.toArray∧zs.all zOk=true ∧ ∀ w,(zeroValue t).run P w = .ok z w:=by
 unfold Program.zeros at h
 cases hi:P.info? t with
 | none=>rw [hi] at h;cases h
 | some i=>
  rw [hi] at h
  simp only [] at h
  cases hz:i.zero with
  | none=>rw [hz] at h;cases h
  | some z=>
   rw [hz] at h
   simp only [] at h
   split at h
   ·rename_i hok
    simp at h
    subst h
    exact ⟨z,by simp,hok,fun w=>by simp [zeroValue,typeInfo,hi,hz]⟩
   ·cases h
theorem ZpT {d':Nat} {zs:List Value} (n:Nat) (hz:P.zeros t=some zs) :
  OpC P ⟨some d',.alloc t,ty,pos,af,g⟩ ⟨[],[],.same d',[(n,.pt (.slot d') t (zs.map zCF))]⟩:=by
 obtain ⟨z,h1,h2,h3⟩:=Zb6 hz
 refine ZtZ n rfl (fun a w y _=>⟨zs,ZuE h2,?_⟩) ?_
 ·simp [execOp,Instr.alloc,h3,newVar,newRow,h1]
 ·have:∀ vs:List Value,cdeps (vs.map zCF) = []:=by
   intro vs
   induction vs with
   | nil=>rfl
   | cons v vs ih=>simp only [YG,cdeps,ih,YQ];cases v <;> rfl
  rw [this];rfl
theorem Zsx {d':Nat} (n:Nat) (hx:Opd x ps (.agg cells)) (hd:(cdeps cells).contains d' = false) :
  OpC P ⟨some d',.box t x,ty,pos,af,g⟩ ⟨ps,[],.same d',[(n,.pt (.slot d') t cells)]⟩:=
 ZtZ n rfl (fun a w y hp=>by
  obtain ⟨vs,e,hc⟩:=hx a w y hp
  exact ⟨vs,hc,by simp [execOp,Instr.box,e,newVar,newRow,Value.cells]⟩) hd
theorem Ent.agg {l:List PV} : Ent (.pv (.agg l)) (.agg (l.map CF.pv)):=fun τ w y v ⟨vs,e,h⟩=>⟨vs,e,CFs.of_pvs h⟩
theorem PVs.of_cfs {w y} {τ:Tau} : ∀ {ps:List PV} {vs:List Value},CFs τ w y (ps.map CF.pv) vs→PVs ps vs w y
 | [],[],_=>trivial
 | p :: ps,v :: vs,h=>⟨h.1,PVs.of_cfs h.2⟩
 | [],_ :: _,h=>h.elim
 | _ :: _,[],h=>h.elim
theorem Opd.pagg {l:List PV} (h:Opd x ps (.agg (l.map CF.pv))):Opd x ps (.pv (.agg l)):=fun a w y hp=>by
 obtain ⟨vs,e,k⟩:=h a w y hp
 exact ⟨vs,e,PVs.of_cfs k⟩
def Zd (cells:List CF) (k:Nat) (new:List CF):List CF:=cells.take k++new++cells.drop (k+new.length)
theorem Zbq {w:World} {F:Fp} (hw:Wf F w) {n b:Nat} {vs:Array Value} {T:TypeId} (hb:w.heap[b]? = some (.cells vs T (0,0))) (hf:∀ x,F n x ↔ x=b) (us:Array Value) :
  Wf F (w.setRow b us)∧Stp [n] w F (w.setRow b us) F:=
 ⟨⟨hw.dis,fun i c hc=>by rw [setRow_size];exact hw.bd i c hc⟩,rfl,rfl,rfl,by rw [setRow_size];exact YF _,
  fun c _ hc=>setRow_other w b c us (fun e=>hc n XM ((hf c).2 e)),fun _ _=>rfl,fun m hm c hc=>.inl ⟨m,hm,hc⟩⟩
theorem Zhn {cs new:List CF} {sz:Nat} (n:Nat) (hx:Za9 x ps a k)
  (hy:∀ (act:Act) w yy,Hps qs (Act.tau act) w yy → ∃ us:List Value,(act.eval y).cells=us.toArray∧CFs (Act.tau act) w yy new us)
  (hs:(P.info? t).map (·.size)=some sz) (hl:new.length=sz) (hk:Nat.ble (k+sz) cells.length=true) :
  OpC P ⟨none,.store t x y,ty,pos,af,g⟩ ⟨ps++qs,[(n,.pt a T cells)],.pv .any,[(n,.pt a T (Zd cells k new))]⟩:=fun act w F K Q hw hp hr ht=>by
 obtain ⟨b,vs,e,hb,hf,hc⟩:=Zbe (hr (n,.pt a T cells) XM)
 have ex:act.eval x = .pointer (some ⟨b,k,none⟩):=hx act w (U F) hp.left b e
 obtain ⟨us,eu,hu⟩:=hy act w (U F) hp.right
 have hul:us.length=sz:=by rw [← hu.len];exact hl
 have hcl:=hc.len
 have hk':k+sz≤vs.size:=by have:=Yak hk;simp at hcl;omega
 have hst:=YaB P b k T us 0 vs w hb ow hu.one
 have hrun:(execOp act.eval ⟨none,.store t x y,ty,pos,af,g⟩).run P w = .ok .skip (w.setRow b (vs.toList.take k++us++vs.toList.drop (k+us.length)).toArray):=by
  simp [execOp,ex,Instr.storeAt,Instr.sureAddr,storeVar,run_sizeOf hs,eu,hul,hst]
 obtain ⟨h1,h2⟩:=Zbq hw hb hf (vs.toList.take k++us++vs.toList.drop (k+us.length)).toArray
 simp only [Oper.wp,hrun,Oper.upon]
 refine ht undef _ F h1 h2 trivial ?_
 intro z hz
 simp only [Yn] at hz
 subst hz
 have eτ:upd (Act.tau act) none undef=Act.tau act:=by funext i;simp [upd]
 show RS.holds (upd (Act.tau act) none undef) _ _ _ _
 rw [eτ]
 refine ⟨b,_,e,Ybt w b vs _ T (0,0) hb,hf,?_⟩
 have hlen:new.length=us.length:=hu.len
 simp only [Zd,hlen]
 refine CFs.mono h2.ev (fun _ _=>rfl) ?_
 exact ((hc.take k).append hu).append (hc.drop (k+us.length))
theorem Zhq {new:List CF} {sz:Nat} (n:Nat) (hx:Za9 x ps a k) (hy:Opd y qs (.agg new))
  (hs:(P.info? t).map (·.size)=some sz) (hl:Nat.beq new.length sz=true) (hk:Nat.ble (k+sz) cells.length=true) :
  OpC P ⟨none,.store t x y,ty,pos,af,g⟩ ⟨ps++qs,[(n,.pt a T cells)],.pv .any,[(n,.pt a T (Zd cells k new))]⟩:=
 Zhn (cs:=new) n hx (fun act w yy h=>by
  obtain ⟨us,e,hc⟩:=hy act w yy h
  exact ⟨us,by rw [e];rfl,hc⟩) hs (Y5 hl) hk
theorem ZZ {p:PV} (n:Nat) (hx:Za9 x ps a k) (hy:Opd y qs (.pv p)) (h1:∀ v w yy,p.p v w yy→v.oneCell' = true)
  (hs:(P.info? t).map (·.size)=some 1) (hk:Nat.ble (k+1) cells.length=true) :
  OpC P ⟨none,.store t x y,ty,pos,af,g⟩ ⟨ps++qs,[(n,.pt a T cells)],.pv .any,[(n,.pt a T (Zd cells k [.pv p]))]⟩:=
 Zhn (cs:=[]) n hx (fun act w yy h=>by
  have hp:=hy act w yy h
  have h1':=h1 _ _ _ hp
  refine ⟨[act.eval y],?_,⟨h1',hp⟩,tv⟩
  cases e:act.eval y <;> rw [e] at h1' <;> first | rfl | simp [Value.oneCell'] at h1') hs rfl hk
theorem one_int {k:IntKind} {n:Int} : ∀ v w yy,(PV.int k n).p v w yy→v.oneCell' = true:=fun v _ _ h=>by rw [h.1];rfl
theorem ZbI {b:Bool} : ∀ v w yy,(PV.bool b).p v w yy→v.oneCell' = true:=fun v _ _ h=>by rw [show v=_ from h];rfl
theorem Zah {s:ByteArray} : ∀ v w yy,(PV.str s).p v w yy→v.oneCell' = true:=fun v _ _ h=>by rw [h.1];rfl
theorem one_is {u:Value} : ∀ v w yy,(PV.is u).p v w yy→v.oneCell' = true:=fun v _ _ e=>e.2
theorem o_storeS {j:Nat} (n:Nat) (hx:Za9 x ps a k) {i:Nat}
  (hs:(P.info? t).map (·.size)=some 1) (hk:Nat.ble (k+1) cells.length=true) :
  OpC P ⟨none,.store t x (.tmp i),ty,pos,af,g⟩ ⟨ps ++ [(i,.same j)],[(n,.pt a T cells)],.pv .any,[(n,.pt a T (Zd cells k [.same j]))]⟩:=
 Zhn (cs:=[]) n hx (fun act w yy h=>by
  have hp:=h (i,.same j) XM
  have h1':(act.eval (.tmp i)).oneCell' = true:=hp.2
  refine ⟨[act.eval (.tmp i)],?_,⟨h1',hp⟩,tv⟩
  cases e:act.eval (.tmp i) <;> rw [e] at h1' <;> first | rfl | simp [Value.oneCell'] at h1') hs rfl hk
theorem one_sl {α:Type} {R:α→List PV} {l:List α} : ∀ v w yy,(PV.sl R l).p v w yy→v.oneCell' = true:=fun v _ _ ⟨_,_,e,_⟩=>by rw [e];rfl
end
end Go.Gm
namespace Go.Gm
set_option linter.unusedVariables false
set_option linter.unusedSimpArgs false
open Go.RowKit
def FnP (P:Program) (f:FuncId) (args:List PV) (q:PV):Prop:=
 ∀ (w:World) (y:Ys) (vs:List Value),(∀ b,y b→b<w.heap.size)→PVt args vs w y →
  Calls P f vs.toArray w fun e w'=>∃ v,e = .returned v∧q.p v w' y∧Below w.heap.size w w'
def frame (B:ZaV):RS:=.ob (.val undef) fun _=>
 ⟨fun w f _=>(∀ b,f b ↔ B.fr b) ∧ ∀ b,f b→w.heap[b]? = B.w.heap[b]?,fun _ hf h=>⟨h.1,fun b hb=>(hf b hb).trans (h.2 b hb)⟩⟩
def ZgV:List PV→Nat→List (Nat×SF)
 | [],_=>[]
 | p :: ps,i=>(i,.pv p) :: ZgV ps (i+1)
theorem Zc7 {w y} : ∀ {ps:List PV} {vs:List Value} {k:Nat} {i s},PVt ps vs w y→look (ZgV ps k) i=some s → ∃ v,k≤i∧vs[i - k]? = some v ∧ ∀ τ,s.holds τ w y v
 | [],_,k,i,s,_,h=>by simp [ZgV,look] at h
 | p :: ps,[],k,i,s,h,_=>h.elim
 | p :: ps,v :: vs,k,i,s,h,hl=>by
  simp only [ZgV] at hl
  rw [Zf] at hl
  by_cases e:k=i
  ·subst e;simp at hl;subst hl;exact ⟨v,YF _,by simp,fun τ=>h.1⟩
  ·rw [Yb e] at hl
   obtain ⟨u,h1,h2,h3⟩:=Zc7 h.2 hl
   exact ⟨u,ow,by rw [show i - k=(i - (k+1))+1 by omega];simpa using h2,h3⟩
def RP (B:ZaV) (q:PV) (e:Ending) (w':World):Prop:=∃ v,e = .returned v∧q.p v w' B.y∧Below B.w.heap.size B.w w'
theorem PVt.len {w y} : ∀ {ps:List PV} {vs:List Value},PVt ps vs w y→ps.length=vs.length
 | [],[],_=>rfl
 | p :: ps,v :: vs,hh=>by simp [PVt.len hh.2]
 | [],_ :: _,hh=>hh.elim
 | _ :: _,[],hh=>hh.elim
theorem FnP.mk {P:Program} {f:FuncId} {args:List PV} {q:PV} {fn:Func} {c:Code} {n:Nat} (hf:P.funcs[f]? = some fn) (hb:fn.body=some c) (hn:fn.ntmps=n) (ha:Nat.ble args.length n=true)
  (h:∀ B a w F,B.n=n→B.fr=B.y→Sat B ⟨ZgV args 0,[(0,frame B)]⟩ a w F→c.wp P (bodyPost P fn (RP B q)) a w):FnP P f args q:=fun w y vs hy hvs=>by
 have hl:=hvs.len
 have hle:vs.length≤n:=by rw [← hl];exact Yak ha
 refine calls_of_wp hf hb (h ⟨w,y,y,n⟩ _ w (fun m b=>m=0∧y b) rfl rfl ?_)
 have hU:U (fun m b=>m=0∧y b)=y:=by funext b;simp [U]
 refine ⟨⟨fun i j b hi hj=>by rw [hi.1,hj.1],fun i b hi=>hy b hi.2⟩,?_,?_,rfl,fun i s hs=>?_,fun i r hr=>?_,fun i b hi=>⟨frame ⟨w,y,y,n⟩,by obtain ⟨rfl,_⟩:=hi;rfl⟩⟩
 ·rw [hU];exact Ev.refl w y
 ·subst hn;simp;omega
 ·rw [hU]
  obtain ⟨v,h1,h2,h3⟩:=Zc7 hvs hs
  have:Act.tau { tmps:=vs.toArray++Array.replicate (fn.ntmps - vs.toArray.size) undef,defers:=[] } i=v:=by
   simp only [YbR] at h2
   have hi:i<vs.length:=(YH.1 h2).1
   have h2':vs[i] = v:=by simpa [hi] using h2
   simp [Act.tau,Array.getElem?_append,hi,h2']
  rw [this];exact h3 _
 ·rw [Zf] at hr
  by_cases e:0=i
  ·subst e
   simp at hr
   subst hr
   exact ⟨fun b=>by simp,fun b _=>rfl⟩
  ·rw [Yb e] at hr;simp [look] at hr
inductive ROk (P:Program) (E:En):List ResultVar→List SF→Prop
 | nil:ROk P E [] []
 | tmp {t:Nat} {s:SF} {rs:List ResultVar} {ss:List SF} (h:look E.s t=some s) (r:ROk P E rs ss):ROk P E (.tmp t :: rs) (s :: ss)
 | cell {t:Nat} {T T':TypeId} {an:Anc} {n sz:Nat} {ag:Bool} {cells:List CF} {rs:List ResultVar} {ss:List SF} {s0:SF} (h:look E.s t=some s0) (hx:Za9 (.tmp t) [(t,s0)] an 0) (hr:look E.r n=some (.pt an T' cells))
     (ha:P.aggB T=some ag) (hs:(P.info? T).map (·.size)=some sz) (hk:Nat.ble (0+wid ag sz) cells.length=true) (r:ROk P E rs ss):ROk P E (.cell t T :: rs) (ldSF ag sz cells 0 :: ss)
def SFt (τ:Tau) (w:World) (y:Ys):List SF→List Value→Prop
 | [],[]=>True
 | s :: ss,v :: vs=>s.holds τ w y v∧SFt τ w y ss vs
 | _,_=>False
def Zn0 (tmps:Array Value):ResultVar→Sem Value
 | .tmp t=>pure (tmps.getD t undef)
 | .cell a t=>do loadVar t (← asAddr (tmps.getD a undef))
def RVs (P:Program) (tmps:Array Value) (w:World):List ResultVar→List Value→Prop
 | [],[]=>True
 | r :: rs,v :: vs=>(Zn0 tmps r).run P w = .ok v w∧RVs P tmps w rs vs
 | _,_=>False
theorem ROk.run {P:Program} {B:ZaV} {E:En} {a:Act} {w:World} {F:Fp} (G:Sat B E a w F) {rs:List ResultVar} {ss:List SF} (h:ROk P E rs ss) :
  ∃ vs:List Value,SFt (Act.tau a) w (U F) ss vs∧RVs P a.tmps w rs vs:=by
 induction h with
 | nil=>exact ⟨[],tv,tv⟩
 | @tmp t s rs ss h _ ih=>
  obtain ⟨vs,h1,h2⟩:=ih
  exact ⟨a.tmps.getD t undef :: vs,⟨G.s t s h,h1⟩,rfl,h2⟩
 | @cell t T T' an n sz ag cells rs ss s0 h hx hr ha hs hk _ ih=>
  obtain ⟨vs,h1,h2⟩:=ih
  obtain ⟨b,us,e,hb,hf,hc⟩:=Zbe (G.r n _ hr)
  have ex:a.tmps.getD t undef = .pointer (some ⟨b,0,none⟩):=hx a w (U F) (fun x hx=>by simp only [Yn] at hx;subst hx;exact G.s t _ h) b e
  obtain ⟨v,h3,h4⟩:=Zib (P:=P) ha hs hb hc hk
  exact ⟨v :: vs,⟨h4,h1⟩,by simp only [Zn0,ex,asAddr,YD,YI,Yv,h3],h2⟩
def ZiK:List Value→Value
 | [v]=>v
 | vs=>.tuple vs.toArray
def ZaB (ss:List SF) (q:PV):Prop:=∀ τ w y vs,SFt τ w y ss vs→q.p (ZiK vs) w y
theorem ZmR (fn:Func) (tmps:Array Value):results fn tmps=(fn.results.mapM (Zn0 tmps) >>= fun vs=>pure (if h:vs.size=1 then vs[0] else .tuple vs)):=by
 unfold results
 congr 1
theorem ZlH {P:Program} {tmps:Array Value} {w:World} : ∀ {rs:List ResultVar} {vs:List Value},RVs P tmps w rs vs→(rs.mapM (Zn0 tmps)).run P w = .ok vs w
 | [],[],_=>by simp
 | r :: rs,v :: vs,h=>by simp [h.1,ZlH h.2]
 | [],_ :: _,h=>h.elim
 | _ :: _,[],h=>h.elim
theorem Zgn {P:Program} {fn:Func} {tmps:Array Value} {w:World} {vs:List Value} (h:RVs P tmps w fn.results.toList vs) :
  (results fn tmps).run P w = .ok (ZiK vs) w:=by
 rw [ZmR]
 have e:(fn.results.mapM (Zn0 tmps)).run P w = .ok vs.toArray w:=by
  have h1:=ZlH h
  rcases fn with ⟨_,_,_,_,_,_,_,rs,_⟩
  rcases rs with ⟨rs⟩
  simp only [] at h1 ⊢
  rw [List.mapM_toArray]
  simp [h1]
 simp only [YD,e,Yv,YI]
 match vs with
 | []=>simp [ZiK]
 | [v]=>simp [ZiK]
 | u :: v :: vs=>simp [ZiK]
theorem ZW {P:Program} {B:ZaV} (hfr:B.fr=B.y) {E:En} {a:Act} {w:World} {F:Fp} {fn:Func} {q:PV} {ss:List SF} (G:Sat B E a w F) (h0:look E.r 0=some (frame B)) (hr:ROk P E fn.results.toList ss) (hq:ZaB ss q) :
  bodyPost P fn (RP B q) .ret a w:=by
 obtain ⟨vs,h1,h2⟩:=hr.run G
 have hf:(frame B).holds (Act.tau a) w (F 0) (U F):=G.r 0 _ h0
 have hy:∀ b,B.y b→U F b:=fun b hb=>⟨0,(hf.1 b).2 (by rw [hfr];exact hb)⟩
 refine bodyPost_ret (Zgn h2) G.df ⟨_,rfl,q.mono (Ev.less w hy) (hq _ _ _ _ h1),?_⟩
 refine ⟨G.ev.os,G.ev.tape,G.ev.output,G.ev.size,fun k hk=>?_⟩
 by_cases e:B.y k
 ·exact hf.2 k ((hf.1 k).2 (by rw [hfr];exact e))
 ·exact (G.ev.block k hk e).1
theorem ZaB.one {s:SF} {q:PV} (h:Ent s (.pv q)):ZaB [s] q:=fun τ w y vs hs=>by
 match vs,hs with
 | [v],hs=>exact h τ w y v hs.1
theorem ZaB.two {s1 s2:SF} {q1 q2:PV} (h1:Ent s1 (.pv q1)) (h2:Ent s2 (.pv q2)):ZaB [s1,s2] (.tup [q1,q2]):=fun τ w y vs hs=>by
 match vs,hs with
 | [u,v],hs=>exact ⟨[u,v],rfl,h1 τ w y u hs.1,h2 τ w y v hs.2.1,tv⟩
theorem Ent.refl {s:SF} : Ent s s:=fun _ _ _ _ h=>h
theorem Ent.bool {b b':Bool} (h:b=b'):Ent (.pv (.bool b)) (.pv (.bool b')):=by subst h;exact Ent.refl
theorem Ent.int {k:IntKind} {x x':Int} (h:x=x'):Ent (.pv (.int k x)) (.pv (.int k x')):=by subst h;exact Ent.refl
theorem Ent.trans {s1 s2 s3:SF} (h:Ent s1 s2) (k:Ent s2 s3):Ent s1 s3:=fun τ w y v hs=>k τ w y v (h τ w y v hs)
section
variable {P:Program} {Q:Exit→Act→World→Prop} {K:Act→World→Prop} {a:Act} {w:World}
theorem Za (h:K a w):Exit.then K Q .normal a w:=h
theorem Zh (h:Q .ret a w):Exit.then K Q .ret a w:=h
theorem Zg {i:Nat} (h:Q (.exit i) a w):Exit.then K Q (.exit i) a w:=h
theorem Ze {i:Nat} (h:Q .normal a w):Exit.inBlock i Q .normal a w:=h
theorem Zn {i:Nat} (h:Q .ret a w):Exit.inBlock i Q .ret a w:=h
theorem Zm {i:Nat} (h:Q .normal a w):Exit.inBlock i Q (.exit i) a w:=by simp [Exit.inBlock,h]
theorem ZtV {i j:Nat} (hne:j≠i) (h:Q (.exit j) a w):Exit.inBlock i Q (.exit j) a w:=by simp [Exit.inBlock,hne,h]
theorem Zb {B:ZaV} {E:En} {F:Fp} {t:Nat} {β:Bool} {x y:Code} (G:Sat B E a w F) (hl:look E.s t=some (.pv (.bool β)))
  (h1:β=true→x.wp P Q a w) (h2:β=false→y.wp P Q a w):(Code.cond (.tmp t) x y).wp P Q a w:=by
 have e:a.eval (.tmp t) = .bool β:=G.s t _ hl
 exact wp_cond_split e h1 h2
theorem Zpv {f:FuncId} {args:Array Operand} {tys:Array TypeId} {d:Option Nat} {ty:TypeId} {pos:String} {af:Array Edge} {g:Option (Nat×Bool)} {ps:List (Nat×SF)} {avs:List PV} {q:PV} {fn:Func}
    (hc : FnP P f avs q) (hf : P.funcs[f]? = some fn) (hb : fn.body.isSome = true) (hn : (fn.name == "runtime.NumGoroutine") = false)
    (ha:∀ (a:Act) w y,Hps ps (Act.tau a) w y → ∃ vs:List Value,args.map a.eval=vs.toArray∧PVt avs vs w y) :
    OpC P ⟨d,.call { callee:=.value (.func f),args:=args,argTypes:=tys },ty,pos,af,g⟩ ⟨ps,[],.pv q,[]⟩:=fun a w F K Q hw hp hr ht=>by
  obtain ⟨vs,e,hvs⟩:=ha a w (U F) hp
  have hbn:fn.body≠none:=Kd
  have hn' : fn.name ≠ "runtime.NumGoroutine" := by intro h; rw [h] at hn; simp at hn
  have hrun:(execOp a.eval ⟨d,.call { callee:=.value (.func f),args:=args,argTypes:=tys },ty,pos,af,g⟩).run P w = .ok (.enter f vs.toArray) w:=by
    have e2:a.eval (.func f) = .func (.func f) #[] #[]:=rfl
    simp [execOp,resolve,e,e2,Deferred.ofValue,invoke,callFunc,hf,hn',hbn]
  simp only [Oper.wp,hrun,Oper.upon]
  refine (hc w (U F) vs (fun b ⟨n,hn⟩=>hw.bd n b hn) hvs).mono ?_
  rintro e' w' ⟨v,rfl,hq,hbel⟩
  have hst:Stp [] w F w' F:=⟨hbel.os,hbel.tape,hbel.output,hbel.size,fun b hb _=>hbel.block b hb,fun _ _=>rfl,fun _ h=>by cases h⟩
  exact ht v w' F ⟨hw.dis,fun n b hn=>Yam (hw.bd n b hn) hbel.size⟩ hst hq (fun x hx=>by cases hx)
theorem Args.nil:∀ (a:Act) w y,Hps [] (Act.tau a) w y → ∃ vs:List Value,(#[]:Array Operand).map a.eval=vs.toArray∧PVt [] vs w y:=fun a w y _=>⟨[],by simp,tv⟩
theorem Args.one {x:Operand} {ps:List (Nat×SF)} {p:PV} (h:Opd x ps (.pv p)):∀ (a:Act) w y,Hps ps (Act.tau a) w y → ∃ vs:List Value,(#[x]:Array Operand).map a.eval=vs.toArray∧PVt [p] vs w y:=
 fun a w y hp=>⟨[a.eval x],by simp,h a w y hp,tv⟩
theorem Args.two {x1 x2:Operand} {ps1 ps2:List (Nat×SF)} {p1 p2:PV} (h1:Opd x1 ps1 (.pv p1)) (h2:Opd x2 ps2 (.pv p2)) :
  ∀ (a:Act) w y,Hps (ps1++ps2) (Act.tau a) w y → ∃ vs:List Value,(#[x1,x2]:Array Operand).map a.eval=vs.toArray∧PVt [p1,p2] vs w y:=
 fun a w y hp=>⟨[a.eval x1,a.eval x2],by simp,h1 a w y hp.left,h2 a w y hp.right,tv⟩
theorem Args.three {x1 x2 x3:Operand} {ps1 ps2 ps3:List (Nat×SF)} {p1 p2 p3:PV} (h1:Opd x1 ps1 (.pv p1)) (h2:Opd x2 ps2 (.pv p2)) (h3:Opd x3 ps3 (.pv p3)) :
  ∀ (a:Act) w y,Hps (ps1++(ps2++ps3)) (Act.tau a) w y → ∃ vs:List Value,(#[x1,x2,x3]:Array Operand).map a.eval=vs.toArray∧PVt [p1,p2,p3] vs w y:=
 fun a w y hp=>⟨[a.eval x1,a.eval x2,a.eval x3],by simp,h1 a w y hp.left,h2 a w y hp.right.left,h3 a w y hp.right.right,tv⟩
end
end Go.Gm
namespace Go.Gm
set_option linter.unusedVariables false
set_option linter.unusedSimpArgs false
def runT:En→List Oper→List CD→(Nat→Bool)→Nat→En
 | E,o :: l,c :: cs,T,k=>runT (if T k then E.step o c else E) l cs T (k+1)
 | E,_,_,_,_=>E
theorem Zau {E:En} {o:Oper} {c:CD} (i:Nat):look (E.step o c).s i=if o.dst=some i then some c.q else look E.s i:=by
 unfold En.step
 cases h:o.dst with
 | none=>simp
 | some d=>simp only [];rw [Zf];by_cases e:d=i <;> simp [e]
theorem Zac {E:En} {o:Oper} {c:CD} (n:Nat):look (E.step o c).r n=if n ∈ c.W then look c.qr n else look E.r n:=by
 unfold En.step
 simp only []
 rw [Zbx]
 by_cases h:n ∈ c.W
 ·rw [Ye h]
  obtain ⟨x,hx⟩:=Zbo (l:=c.qr) (i:=n) h
  rw [hx];rfl
 ·rw [Yb h,Zcz (l:=c.qr) (i:=n) h];simp
theorem Zja {T1 T2:Nat→Bool} {i:Nat} : ∀ (l:List Oper) (cs:List CD) (E1 E2:En) (k:Nat),(∀ j o,l[j]? = some o→o.dst=some i→T1 (k+j)=T2 (k+j))→look E1.s i=look E2.s i →
  look (runT E1 l cs T1 k).s i=look (runT E2 l cs T2 k).s i
 | [],_,_,_,_,_,h=>by simpa [runT] using h
 | _ :: _,[],_,_,_,_,h=>by simpa [runT] using h
 | o :: l,c :: cs,E1,E2,k,ht,h=>by
  simp only [runT]
  refine Zja l cs _ _ (k+1) (fun j o' hj hd=>by have:=ht (j+1) o' XJ hd;rw [show k+1+j=k+(j+1) by omega];exact this) ?_
  by_cases hd:o.dst=some i
  ·have e:=ht 0 o rfl hd
   simp only [Ybg] at e
   rw [e]
   split
   ·rw [Zau,Zau,Ye hd,Ye hd]
   ·exact h
  ·have e1:look (if T1 k then E1.step o c else E1).s i=look E1.s i:=by split;rw [Zau,Yb hd];rfl
   have e2:look (if T2 k then E2.step o c else E2).s i=look E2.s i:=by split;rw [Zau,Yb hd];rfl
   rw [e1,e2];exact h
theorem ZiS {T1 T2:Nat→Bool} {n:Nat} : ∀ (l:List Oper) (cs:List CD) (E1 E2:En) (k:Nat),(∀ j c,cs[j]? = some c→n ∈ c.W→T1 (k+j)=T2 (k+j))→look E1.r n=look E2.r n →
  look (runT E1 l cs T1 k).r n=look (runT E2 l cs T2 k).r n
 | [],_,_,_,_,_,h=>by simpa [runT] using h
 | _ :: _,[],_,_,_,_,h=>by simpa [runT] using h
 | o :: l,c :: cs,E1,E2,k,ht,h=>by
  simp only [runT]
  refine ZiS l cs _ _ (k+1) (fun j c' hj hd=>by have:=ht (j+1) c' XJ hd;rw [show k+1+j=k+(j+1) by omega];exact this) ?_
  by_cases hd:n ∈ c.W
  ·have e:=ht 0 c rfl hd
   simp only [Ybg] at e
   rw [e]
   split
   ·rw [Zac,Zac,Ye hd,Ye hd]
   ·exact h
  ·have e1:look (if T1 k then E1.step o c else E1).r n=look E1.r n:=by split;rw [Zac,Yb hd];rfl
   have e2:look (if T2 k then E2.step o c else E2).r n=look E2.r n:=by split;rw [Zac,Yb hd];rfl
   rw [e1,e2];exact h
theorem ZfF {T:Nat→Bool} {i:Nat} : ∀ (l:List Oper) (cs:List CD) (E:En) (k j:Nat) (o:Oper) (c:CD),l[j]? = some o→cs[j]? = some c→o.dst=some i→T (k+j)=true →
  (∀ j' o',j<j' → l[j']? = some o' → o'.dst=some i→T (k+j')=false)→look (runT E l cs T k).s i=some c.q
 | [],_,_,_,_,_,_,h,_,_,_,_=>by simp at h
 | _ :: _,[],_,_,_,_,_,_,h,_,_,_=>by simp at h
 | o :: l,c :: cs,E,k,0,o',c',ho,hc,hd,hT,hl=>by
  simp at ho hc
  subst ho;subst hc
  simp only [Ybg] at hT
  simp only [runT,hT,Yx]
  rw [Zja (T1:=T) (T2:=fun _=>false) l cs (E.step o c) (E.step o c) (k+1) (fun j o' hj hd'=>by
   have:=hl (j+1) o' ow XJ hd'
   rw [show k+1+j=k+(j+1) by omega];exact this) rfl]
  have hnone:∀ (l:List Oper) (cs:List CD) (E:En) (k:Nat),runT E l cs (fun _=>false) k=E:=by
   intro l
   induction l with
   | nil=>intro cs E k;simp [runT]
   | cons o l ih=>intro cs E k;cases cs with
    | nil=>simp [runT]
    | cons c cs=>simp only [runT];exact ih cs E (k+1)
  rw [hnone,Zau,Ye hd]
 | o :: l,c :: cs,E,k,j+1,o',c',ho,hc,hd,hT,hl=>by
  simp only [runT]
  exact ZfF l cs _ (k+1) j o' c' XQ (by simpa using hc) hd (by rw [show k+1+j=k+(j+1) by omega];exact hT)
   (fun j' o'' hj ho' hd'=>by rw [show k+1+j' = k+(j' + 1) by omega];exact hl (j' + 1) o'' ow (by simpa using ho') hd')
theorem Zfo:∀ (l:List Oper) (cs:List CD) (E:En) (k:Nat),runT E l cs (fun _=>false) k=E:=by
 intro l
 induction l with
 | nil=>intro cs E k;simp [runT]
 | cons o l ih=>intro cs E k;cases cs with
  | nil=>simp [runT]
  | cons c cs=>simp only [runT];exact ih cs E (k+1)
theorem Zgi {T:Nat→Bool} {n:Nat} : ∀ (l:List Oper) (cs:List CD) (E:En) (k j:Nat) (c:CD),cs[j]? = some c→j<l.length→n ∈ c.W→T (k+j)=true →
  (∀ j' c',j<j' → cs[j']? = some c' → n ∈ c'.W→T (k+j')=false)→look (runT E l cs T k).r n=look c.qr n
 | [],_,_,_,_,_,_,h,_,_,_=>by simp at h
 | _ :: _,[],_,_,_,_,h,_,_,_,_=>by simp at h
 | o :: l,c :: cs,E,k,0,c',hc,hlen,hd,hT,hl=>by
  simp at hc
  subst hc
  simp only [Ybg] at hT
  simp only [runT,hT,Yx]
  rw [ZiS (T1:=T) (T2:=fun _=>false) l cs (E.step o c) (E.step o c) (k+1) (fun j c' hj hd'=>by
   have:=hl (j+1) c' ow XJ hd'
   rw [show k+1+j=k+(j+1) by omega];exact this) rfl]
  rw [Zfo,Zac,Ye hd]
 | o :: l,c :: cs,E,k,j+1,c',hc,hlen,hd,hT,hl=>by
  simp only [runT]
  exact Zgi l cs _ (k+1) j c' (by simpa using hc) (by simpa using hlen) hd (by rw [show k+1+j=k+(j+1) by omega];exact hT)
   (fun j' c'' hj hc' hd'=>by rw [show k+1+j' = k+(j' + 1) by omega];exact hl (j' + 1) c'' ow (by simpa using hc') hd')
theorem ZfP {T:Nat→Bool} {i:Nat} {s:SF} : ∀ (l:List Oper) (cs:List CD) (E:En) (k:Nat),look (runT E l cs T k).s i=some s →
  look E.s i=some s ∨ ∃ j c,cs[j]? = some c∧j<l.length∧T (k+j)=true∧s=c.q
 | [],_,_,_,h=>.inl XR
 | _ :: _,[],_,_,h=>.inl XR
 | o :: l,c :: cs,E,k,h=>by
  simp only [runT] at h
  rcases ZfP l cs _ (k+1) h with h | ⟨j,c',h1,h2,h3,h4⟩
  ·split at h
   ·rename_i hT
    rw [Zau] at h
    split at h
    ·simp at h;exact .inr ⟨0,c,rfl,by simp,by simpa using hT,h.symm⟩
    ·exact .inl h
   ·exact .inl h
  ·exact .inr ⟨j+1,c',by simpa using h1,by simpa using h2,by rw [show k+(j+1)=k+1+j by omega];exact h3,h4⟩
theorem Zf4 {T:Nat→Bool} {n:Nat} {r:RS} : ∀ (l:List Oper) (cs:List CD) (E:En) (k:Nat),look (runT E l cs T k).r n=some r →
  look E.r n=some r ∨ ∃ j c,cs[j]? = some c∧j<l.length∧T (k+j)=true∧(n,r) ∈ c.qr
 | [],_,_,_,h=>.inl XR
 | _ :: _,[],_,_,h=>.inl XR
 | o :: l,c :: cs,E,k,h=>by
  simp only [runT] at h
  rcases Zf4 l cs _ (k+1) h with h | ⟨j,c',h1,h2,h3,h4⟩
  ·split at h
   ·rename_i hT
    rw [Zac] at h
    split at h
    ·exact .inr ⟨0,c,rfl,by simp,by simpa using hT,Zam h⟩
    ·exact .inl h
   ·exact .inl h
  ·exact .inr ⟨j+1,c',by simpa using h1,by simpa using h2,by rw [show k+(j+1)=k+1+j by omega];exact h3,h4⟩
def Zfb (acc:List Nat):List Edge→Nat
 | []=>0
 | e :: es=>if Region.binds .any e then 2 ^ e.on ||| acc.getD e.on 0 ||| Zfb acc es else Zfb acc es
def msks:List Oper→List Nat→List Nat
 | [],acc=>acc
 | o :: l,acc=>msks l (acc ++ [Zfb acc o.after.toList])
theorem Zgc {acc:List Nat} {j:Nat} : ∀ {es:List Edge},(Zfb acc es).testBit j=true → ∃ e ∈ es,Region.binds .any e=true∧(e.on=j∨(acc.getD e.on 0).testBit j=true)
 | [],h=>by simp [Zfb] at h
 | e :: es,h=>by
  simp only [Zfb] at h
  split at h
  ·rename_i hb
   simp only [Nat.testBit_or,Yaq] at h
   rcases h with (h | h) | h
   ·refine ⟨e,by simp,hb,.inl ?_⟩
    simpa [Nat.testBit_two_pow] using h
   ·exact ⟨e,by simp,hb,.inr h⟩
   ·obtain ⟨e',h1,h2⟩:=Zgc h
    exact ⟨e',by simp [h1],h2⟩
  ·obtain ⟨e',h1,h2⟩:=Zgc h
   exact ⟨e',by simp [h1],h2⟩
theorem Zk9:∀ (l:List Oper) (acc:List Nat),∃ t,msks l acc=acc++t∧t.length=l.length
 | [],acc=>⟨[],by simp [msks],rfl⟩
 | o :: l,acc=>by
  obtain ⟨t,h1,h2⟩:=Zk9 l (acc ++ [Zfb acc o.after.toList])
  exact ⟨Zfb acc o.after.toList :: t,by simp [msks,h1],by simp [h2]⟩
theorem ZkP:∀ (l:List Oper) (acc:List Nat) (k:Nat) (o:Oper),l[k]? = some o→(msks l acc).getD (acc.length+k) 0=Zfb ((msks l acc).take (acc.length+k)) o.after.toList
 | [],_,k,o,h=>by simp at h
 | o :: l,acc,0,o',h=>by
  simp at h
  subst h
  obtain ⟨t,h1,h2⟩:=Zk9 l (acc ++ [Zfb acc o.after.toList])
  simp [msks,h1]
 | o :: l,acc,k+1,o',h=>by
  have:=ZkP l (acc ++ [Zfb acc o.after.toList]) k o' XL
  simp only [msks]
  simp only [Yc,Yh,Yq] at this
  rw [show acc.length+(k+1)=acc.length+(0+1)+k by omega]
  exact this
structure ZuG where
 dst:Option Nat
 rs:List Nat
 rr:List Nat
 W:List Nat
 deps:List Nat
def ZlZ (fr:Nat→CD→List Nat):Nat→List Oper→List CD→List ZuG
 | k,o :: l,c :: cs=>⟨o.dst,c.ps.map (·.1),fr k c,c.W,c.deps⟩ :: ZlZ fr (k+1) l cs
 | _,_,_=>[]
def Zvq (_:Nat) (c:CD):List Nat:=c.pr.map (·.1)
def meets (a b:List Nat):Bool:=a.any fun x=>b.contains x
def isIn (d:Option Nat) (l:List Nat):Bool:=match d with | some d=>l.contains d | none=>false
def ZdB (m:Nat) (j:Nat) (a b:ZuG):Bool:=
 m.testBit j || (!isIn a.dst b.rs && !isIn b.dst a.rs && !meets a.W b.rr && !meets b.W a.rr && !meets a.W b.W && !isIn a.dst b.deps && !isIn b.dst a.deps)
def pairs:List Nat→Nat→List ZuG→List ZuG→Bool
 | m :: ms,k,seen,b :: is=>(seen.zipIdx.all fun x=>ZdB m x.2 x.1 b && !(match x.1.dst with | some d=>isIn (some d) b.dst.toList | none=>false) && !isIn b.dst x.1.deps) && pairs ms (k+1) (seen ++ [b]) is
 | [],_,_,[]=>true
 | _,_,_,_=>false
def backs:List Oper→Nat→Bool
 | [],_=>true
 | o :: l,k=>(o.after.toList.all fun e=>!Region.binds .any e || Nat.blt e.on k) && backs l (k+1)
def Zrt (fr:Nat→CD→List Nat) (l:List Oper) (cs:List CD):Bool:=backs l 0 && pairs (msks l []) 0 [] (ZlZ fr 0 l cs) && (cs.length == l.length)
def drf (l:List Oper) (cs:List CD):Bool:=Zrt Zvq l cs
theorem Zfz {fr:Nat→CD→List Nat} : ∀ {n:Nat} {l:List Oper} {cs:List CD} {k:Nat} {o:Oper} {c:CD},l[k]? = some o→cs[k]? = some c→(ZlZ fr n l cs)[k]? = some ⟨o.dst,c.ps.map (·.1),fr (n+k) c,c.W,c.deps⟩
 | n,[],_,k,o,c,h,_=>by simp at h
 | n,_ :: _,[],k,o,c,_,h=>by simp at h
 | n,o :: l,c :: cs,0,o',c',h,h'=>by simp at h h';subst h;subst h';rfl
 | n,o :: l,c :: cs,k+1,o',c',h,h'=>by
  have:=Zfz (fr:=fr) (n:=n+1) (l:=l) (cs:=cs) (k:=k) XL (by simpa using h')
  rw [show n+1+k=n+(k+1) by omega] at this
  simpa [ZlZ] using this
theorem ZjK:∀ {ms:List Nat} {k:Nat} {seen is:List ZuG},pairs ms k seen is=true → ∀ (j i:Nat) (a b:ZuG),(seen++is)[j]? = some a→is[i]? = some b→j<seen.length+i →
  ZdB (ms.getD i 0) j a b=true∧(∀ d,a.dst=some d→b.dst≠some d)∧isIn b.dst a.deps=false
 | [],_,_,[],_,j,i,a,b,_,h,_=>by simp at h
 | [],_,_,_ :: _,h,_,_,_,_,_,_,_=>by simp [pairs] at h
 | _ :: _,_,_,[],h,_,_,_,_,_,_,_=>by simp [pairs] at h
 | m :: ms,k,seen,x :: is,h,j,0,a,b,ha,hb,hj=>by
  simp only [pairs,Yw,Yad] at h
  simp at hb
  subst hb
  have hj':j<seen.length:=XJ
  have ha':seen[j]? = some a:=by rw [List.getElem?_append_left hj'] at ha;exact ha
  have hm:(a,j) ∈ seen.zipIdx:=by
   rw [List.mk_mem_zipIdx_iff_getElem?];exact ha'
  have:=h.1 (a,j) hm
  simp only [Yw,Yae] at this
  refine ⟨by simpa using this.1.1,fun d hd hx=>?_,this.2⟩
  have h2:=this.1.2
  rw [hd] at h2
  simp [isIn,hx] at h2
 | m :: ms,k,seen,x :: is,h,j,i+1,a,b,ha,hb,hj=>by
  simp only [pairs,Yw] at h
  have:=ZjK h.2 j i a b (by simpa using ha) XS XT
  simpa using this
theorem Zfy:∀ {l:List Oper} {k i:Nat} {o:Oper},backs l k=true→l[i]? = some o → ∀ e ∈ o.after.toList,Region.binds .any e=true→e.on<k+i
 | [],_,_,_,_,h,_,_,_=>by simp at h
 | o :: l,k,0,o',h,ho,e,he,hb=>by
  simp at ho
  subst ho
  simp only [backs,Yw,Yad] at h
  have:=h.1 e he
  simp [hb] at this
  simpa [YaA] using this
 | o :: l,k,i+1,o',h,ho,e,he,hb=>by
  simp only [backs,Yw] at h
  have:=Zfy h.2 XQ e he hb
  omega
end Go.Gm
namespace Go.Gm
set_option linter.unusedVariables false
set_option linter.unusedSimpArgs false
theorem Zld (j:Nat):Nat.blt j j=false:=by
 cases e:Nat.blt j j with
 | false=>rfl
 | true=>rw [YaA] at e;omega
theorem Zep:∀ (l:List Oper) (cs:List CD) (E:En) (T:Nat→Bool) (k:Nat),runT E l cs T (k+1)=runT E l cs (fun i=>T (i+1)) k
 | [],_,_,_,_=>by simp [runT]
 | _ :: _,[],_,_,_=>by simp [runT]
 | o :: l,c :: cs,E,T,k=>by simp only [runT];exact Zep l cs _ T (k+1)
theorem Zu.facts {P:Program} {ops:Array Oper} : ∀ {E:En} {l:List Oper} {cs:List CD} {E':En},Zu P ops E l cs E' → cs.length=l.length∧E' = runT E l cs (fun _=>true) 0 ∧
  ∀ (k:Nat) (o:Oper) (c:CD),l[k]? = some o→cs[k]? = some c→ZaF P ops o c∧Z5 (runT E l cs (fun i=>Nat.blt i k) 0).s c.ps∧Z5 (runT E l cs (fun i=>Nat.blt i k) 0).r c.pr
 | E,_,_,_,.nil=>⟨rfl,rfl,fun k o c h _=>by simp at h⟩
 | E,_,_,_,.cons (o:=o) (c:=c) (l:=l) (cs:=cs) hc hs hr t=>by
  obtain ⟨h1,h2,h3⟩:=t.facts
  refine ⟨by simp [h1],?_,fun k o' c' ho hcs=>?_⟩
  ·simp only [runT,Yx]
   rw [Zep];exact h2
  ·cases k with
   | zero=>
    simp at ho hcs
    subst ho;subst hcs
    have e:runT E (o :: l) (c :: cs) (fun i=>Nat.blt i 0) 0=E:=by
     have:(fun i=>Nat.blt i 0)=fun _=>false:=by funext i;rfl
     rw [this,Zfo]
    rw [e];exact ⟨hc,hs,hr⟩
   | succ k=>
    have e:runT E (o :: l) (c :: cs) (fun i=>Nat.blt i (k+1)) 0=runT (E.step o c) l cs (fun i=>Nat.blt i k) 0:=by
     simp only [runT]
     have h0:Nat.blt 0 (k+1)=true:=by rw [YaA];omega
     have hs:(fun i=>Nat.blt (i+1) (k+1))=fun i=>Nat.blt i k:=by
      funext i
      rw [Yau,YaA,YaA]
      omega
     rw [Ye h0,Zep,hs]
    rw [e]
    exact h3 k o' c' XQ (by simpa using hcs)
theorem Sat.congr {B:ZaV} {E E':En} {a:Act} {w:World} {F:Fp} (h:Sat B E a w F) (hs:∀ i,look E'.s i=look E.s i) (hr:∀ n,look E'.r n=look E.r n):Sat B E' a w F:=
 ⟨h.wf,h.ev,h.n,h.df,fun i s hl=>h.s i s (by rw [← hs];exact hl),fun i s hl=>h.r i s (by rw [← hr];exact hl),fun n b hb=>by
  obtain ⟨r,h'⟩:=h.em n b hb
  exact ⟨r,by rw [hr];exact h'⟩⟩
theorem Sat.step {B:ZaV} {E:En} {a:Act} {w:World} {F:Fp} {o:Oper} {c:CD} {v:Value} {w':World} {F':Fp} (G:Sat B E a w F) (hdd:∀ i,o.dst=some i→i<a.tmps.size)
  (hds:∀ i s,look E.s i=some s → ∀ j ∈ s.deps,o.dst≠some j) (hdr:∀ i r,look E.r i=some r → ∀ j ∈ r.deps,o.dst≠some j)
  (hwf':Wf F' w') (hst:Stp c.W w F w' F') (hq:c.q.holds (upd (Act.tau a) o.dst v) w' (U F') v) (hqr:Hpr c.qr (upd (Act.tau a) o.dst v) w' F'):Sat B (E.step o c) (a.put o.dst v) w' F':=by
 have keeps:=Zej (c:=c) (v:=v) hdd G.wf hst
 refine ⟨hwf',G.ev.trans hst.ev,by rw [Act.size_put];exact G.n,by rw [Act.defers_put];exact G.df,?_,?_,?_⟩
 ·intro i s hl
  rw [Zau] at hl
  split at hl
  ·rename_i hd
   simp at hl
   subst hl
   rw [Act.tau_put a o.dst v hdd]
   have:upd (Act.tau a) o.dst v i=v:=by simp [upd,hd]
   rw [this];exact hq
  ·rename_i hd
   exact keeps.1 i s (hds i s hl) hd (G.s i s hl)
 ·intro n r hl
  rw [Zac] at hl
  split at hl
  ·rename_i hn
   rw [Act.tau_put a o.dst v hdd]
   exact hqr _ (Zam hl)
  ·rename_i hn
   exact keeps.2 n r (hdr n r hl) hn (G.r n r hl)
 ·intro n b hb
  rw [Zac]
  by_cases hn:n ∈ c.W
  ·rw [Ye hn]
   exact Zbo (l:=c.qr) (i:=n) hn
  ·rw [Yb hn]
   rw [hst.fkeep n hn] at hb
   exact G.em n b hb
section
variable {P:Program} {Q:Exit→Act→World→Prop} {l:List Oper} {cs:List CD} {E E':En} {B:ZaV}
theorem Zkc (hb:backs l 0=true) {S:Nat→Bool} (hcl:∀ k o,l[k]? = some o→S k=true → ∀ e ∈ o.after.toList,Region.binds .any e=true→S e.on=true) :
  ∀ (k:Nat) (o:Oper),l[k]? = some o→(∀ e ∈ o.after.toList,Region.binds .any e=true→S e.on=true) → ∀ j,((msks l []).getD k 0).testBit j=true→S j=true:=by
 intro k
 induction k using Nat.strongRecOn with
 | _ k ih=>
  intro o ho he j hj
  have hg:=ZkP l [] k o ho
  simp only [Yq,Yab] at hg
  rw [hg] at hj
  obtain ⟨e,h1,h2,h3⟩:=Zgc hj
  have G:=he e h1 h2
  rcases h3 with h3 | h3
  ·rw [← h3];exact G
  ·have hlt:e.on<k:=by have:=Zfy hb ho e h1 h2;omega
   have hl:k<l.length:=(YH.1 ho).1
   have ho':l[e.on]? = some l[e.on]:=XM
   refine ih e.on hlt _ ho' (hcl e.on _ ho' G) j ?_
   simp only [YaN] at h3 ⊢
   rw [List.getElem?_take_of_lt hlt] at h3
   exact h3
def cnt (listed:Array Bool):Nat:=listed.toList.count false
def ZhB (l:List Oper) (cs:List CD) (E:En):Prop:=∀ (T:Nat→Bool) (k:Nat) (c:CD),cs[k]? = some c→k<l.length→T k=false→(∀ j,((msks l []).getD k 0).testBit j=true→T j=true)→(∀ j,k<j→j<l.length→T j=true→((msks l []).getD j 0).testBit k=false) →
 ∀ x ∈ c.pr,look (runT E l cs (fun i=>Nat.blt i k) 0).r x.1=some x.2 → ∃ r,look (runT E l cs T 0).r x.1=some r ∧ ∀ τ w f y,r.holds τ w f y→x.2.holds τ w f y
theorem ZlG {fr:Nat→CD→List Nat} (hdrf:Zrt fr l cs=true):∀ (j k:Nat) (oj ok:Oper) (cj ck:CD),j<k→l[j]? = some oj→l[k]? = some ok→cs[j]? = some cj→cs[k]? = some ck →
  ZdB ((msks l []).getD k 0) j ⟨oj.dst,cj.ps.map (·.1),fr j cj,cj.W,cj.deps⟩ ⟨ok.dst,ck.ps.map (·.1),fr k ck,ck.W,ck.deps⟩ = true∧(∀ d,oj.dst=some d→ok.dst≠some d)∧isIn ok.dst cj.deps=false:=by
 simp only [Zrt,Yw] at hdrf
 obtain ⟨⟨hback,hpairs⟩,_⟩:=hdrf
 intro j k oj ok cj ck hjk h1 h2 h3 h4
 have:=ZjK hpairs j k _ _ (by have:=Zfz (fr:=fr) (n:=0) h1 h3;rw [Yab] at this;simpa using this) (by have:=Zfz (fr:=fr) (n:=0) h2 h4;rw [Yab] at this;exact this) (by simpa using hjk)
 exact this
theorem Zuh {fr:Nat→CD→List Nat} (hch:Zu P l.toArray E l cs E') (hsh:E.shut) (hdrf:Zrt fr l cs=true) (hrd:ZhB l cs E) (hd:dstsIn B.n l=true) (hQ:∀ a w F,Sat B E' a w F→Q .normal a w) :
  ∀ (fuel:Nat) (listed:Array Bool) (a:Act) (w:World) (F:Fp),listed.size=l.length→cnt listed≤fuel →
   (∀ k o,l[k]? = some o→listed.getD k false=true → ∀ e ∈ o.after.toList,Region.binds .any e=true→listed.getD e.on false=true) →
   Sat B (runT E l cs (fun k=>listed.getD k false) 0) a w F→wpAny P .any l.toArray Q fuel listed a w:=by
 obtain ⟨hlen,hE',hfacts⟩:=hch.facts
 have hpair:=ZlG hdrf
 simp only [Zrt,Yw] at hdrf
 obtain ⟨⟨hback,hpairs⟩,_⟩:=hdrf
 have hdst:∀ (k:Nat) (o:Oper) (d:Nat),l[k]? = some o→o.dst=some d→d<B.n:=by
  have:∀ (l:List Oper),dstsIn B.n l=true → ∀ (k:Nat) (o:Oper) (d:Nat),l[k]? = some o→o.dst=some d→d<B.n:=by
   intro l
   induction l with
   | nil=>intro _ k o d h;simp at h
   | cons x l ih=>
    intro hd k o d ho hod
    simp only [dstsIn,Yw] at hd
    cases k with
    | zero=>simp at ho;subst ho;have:=hd.1;rw [hod] at this;simpa [YaA] using this
    | succ k=>exact ih hd.2 k o d XQ hod
  exact this l hd
 have hall:∀ (listed:Array Bool) (a:Act) (w:World) (F:Fp),(∀ k,k<l.length→listed.getD k false=true)→Sat B (runT E l cs (fun k=>listed.getD k false) 0) a w F→Q .normal a w:=by
  intro listed a w F ht G
  refine hQ a w F (G.congr (fun i=>?_) (fun n=>?_))
  ·rw [hE']
   exact Zja l cs E E 0 (fun j o hj _=>by simp only [Yab];rw [ht j (YH.1 hj).1]) rfl
  ·rw [hE']
   exact ZiS l cs E E 0 (fun j c hj _=>by simp only [Yab];rw [ht j (by rw [← hlen];exact (YH.1 hj).1)]) rfl
 have hnone:∀ (listed:Array Bool),listed.size=l.length→Region.ready .any l.toArray listed = [] → ∀ k,k<l.length→listed.getD k false=true:=by
  intro listed hsz hr k
  induction k using Nat.strongRecOn with
  | _ k ih=>
   intro hk
   cases hf:listed.getD k false with
   | true=>rfl
   | false=>
    exfalso
    have ho:l[k]? = some l[k]:=by simp [hk]
    have:k ∈ Region.ready .any l.toArray listed:=by
     unfold Region.ready
     rw [YK]
     refine ⟨by simp [hk],?_⟩
     have hk':k<listed.size:=ow
     have e:listed.getD k true=false:=by
      simp [hk'] at hf ⊢;exact hf
     simp only [e,Bool.not_false,Ybu]
     simp only [List.getElem?_toArray,ho,YaC,Option.getD_some]
     rw [Array.all_eq_true_iff_forall_mem]
     intro e he
     by_cases hb:Region.binds .any e=true
     ·have hlt:=Zfy hback ho e (by simpa using he) hb
      simp [ih e.on ow ow]
     ·simp [hb]
    rw [hr] at this
    cases this
 intro fuel
 induction fuel with
 | zero=>
  intro listed a w F hsz hc hcl G
  have ht:∀ k,k<l.length→listed.getD k false=true:=by
   intro k hk
   cases hf:listed.getD k false with
   | true=>rfl
   | false=>
    exfalso
    have hk':k<listed.size:=ow
    have:false ∈ listed.toList:=by
     rw [Array.mem_toList_iff,Array.mem_iff_getElem]
     refine ⟨k,hk',?_⟩
     simpa [hk'] using hf
    have:=List.count_pos_iff.2 this
    unfold cnt at hc
    omega
  refine ⟨?_,hall listed a w F ht G⟩
  unfold Region.ready
  rw [Ybk]
  intro k hk
  simp only [YaE,YaF] at hk
  have:=ht k hk
  have hk':k<listed.size:=ow
  have e:listed.getD k true=true:=by simpa [hk'] using this
  simp only [e];simp
 | succ fuel ih=>
  intro listed a w F hsz hc hcl G
  refine ⟨fun hr=>hall listed a w F (hnone listed hsz hr) G,fun k hk=>?_⟩
  unfold Region.ready at hk
  rw [YK] at hk
  obtain ⟨hk1,hk2⟩:=hk
  simp only [YaE,YaF] at hk1
  simp only [Yw,Yae] at hk2
  have hk':k<listed.size:=ow
  have hun:listed.getD k false=false:=by have:=hk2.1;simpa [hk'] using this
  have ho:l[k]? = some l[k]:=by simp [hk1]
  have hcs:cs[k]? = some (cs[k]'ow):=by simp [hk1,hlen]
  generalize hog:l[k] = o at ho
  generalize hcg:(cs[k]'ow)=c at hcs
  have hpre:∀ e ∈ o.after.toList,Region.binds .any e=true→listed.getD e.on false=true:=by
   have:=hk2.2
   simp only [List.getElem?_toArray,ho,YaC,Option.getD_some] at this
   rw [Array.all_eq_true_iff_forall_mem] at this
   intro e he hb
   have:=this e (by simpa using he)
   simp [hb] at this
   simpa using this
  have hmask:=Zkc (S:=fun k=>listed.getD k false) hback hcl
  have hmk:=hmask k o ho hpre
  have hlater:∀ j oj cj,k<j→l[j]? = some oj→cs[j]? = some cj→listed.getD j false=true→((msks l []).getD j 0).testBit k=false:=by
   intro j oj cj hkj h1 h2 h3
   cases hb:((msks l []).getD j 0).testBit k with
   | false=>rfl
   | true=>
    have:=hmask j oj h1 (hcl j oj h1 h3) k hb
    rw [hun] at this;cases this
  obtain ⟨hcert,hls,hlr⟩:=hfacts k o c ho hcs
  have hdd:∀ i,o.dst=some i→i<a.tmps.size:=fun i hi=>by rw [G.n];exact hdst k o i ho hi
  have hreadS:∀ x ∈ c.ps,look (runT E l cs (fun k=>listed.getD k false) 0).s x.1=some x.2:=by
   intro x hx
   rw [← hls.get x hx]
   refine Zja l cs E E 0 (fun j oj hj hdj=>?_) rfl
   simp only [Yab]
   have hjl:j<l.length:=(YH.1 hj).1
   have hcj:cs[j]? = some (cs[j]'ow):=by simp [hjl,hlen]
   have hin:isIn oj.dst (c.ps.map (·.1))=true:=by simp only [isIn,hdj];simp;exact ⟨x.2,hx⟩
   rcases YbG j k with h | h | h
   ·have hp:=(hpair j k oj o _ c h hj ho hcj hcs).1
    simp only [ZdB,Yaq,Yw,Yae] at hp
    have hb:Nat.blt j k=true:=by rw [YaA];exact h
    rw [hb]
    rcases hp with hp | hp
    ·exact hmk j hp
    ·rw [hp.1.1.1.1.1.1] at hin;cases hin
   ·subst h
    have hb:Nat.blt j j=false:=Zld j
    rw [hb,hun]
   ·have hb:Nat.blt j k=false:=by
     cases e:Nat.blt j k with
     | false=>rfl
     | true=>rw [YaA] at e;omega
    rw [hb]
    cases hf:listed.getD j false with
    | false=>rfl
    | true=>
     have hp:=(hpair k j o oj c _ h ho hj hcs hcj).1
     simp only [ZdB,Yaq,Yw,Yae] at hp
     rcases hp with hp | hp
     ·rw [hlater j oj _ h hj hcj hf] at hp;cases hp
     ·rw [hp.1.1.1.1.1.2] at hin;cases hin
  have hreadR:∀ x ∈ c.pr,∃ r,look (runT E l cs (fun k=>listed.getD k false) 0).r x.1=some r ∧ ∀ τ w f y,r.holds τ w f y→x.2.holds τ w f y:=fun x hx=>
   hrd (fun k=>listed.getD k false) k c hcs hk1 hun hmk (fun j hkj hj hf=>hlater j _ _ hkj (by simp [hj];rfl) (by simp [hj,hlen];rfl) hf) x hx (hlr.get x hx)
  have hfree:∀ j cj,cs[j]? = some cj→listed.getD j false=true → ∀ i ∈ cj.deps,o.dst≠some i:=by
   intro j cj hj hf i hi hoi
   have hjl:j<l.length:=KC
   have hoj:l[j]? = some l[j]:=by simp [hjl]
   have hin:isIn o.dst cj.deps=true:=by simp only [isIn,hoi];simpa using hi
   rcases YbG j k with h | h | h
   ·have:=(hpair j k _ o cj c h hoj ho hj hcs).2.2
    rw [this] at hin;cases hin
   ·subst h;rw [hun] at hf;cases hf
   ·have hp:=(hpair k j o _ c cj h ho hoj hcs hj).1
    simp only [ZdB,Yaq,Yw,Yae] at hp
    rcases hp with hp | hp
    ·rw [hlater j _ _ h hoj hj hf] at hp;cases hp
    ·rw [hp.1.2] at hin;cases hin
  have hds:∀ i s,look (runT E l cs (fun k=>listed.getD k false) 0).s i=some s → ∀ j ∈ s.deps,o.dst≠some j:=by
   intro i s hl j hj
   rcases ZfP l cs E 0 hl with h | ⟨j',cj,h1,h2,h3,h4⟩
   ·rw [hsh.1 _ (Zam h)] at hj;cases hj
   ·subst h4
    exact hfree j' cj h1 XU j (by simp [CD.deps,hj])
  have hdr:∀ i r,look (runT E l cs (fun k=>listed.getD k false) 0).r i=some r → ∀ j ∈ r.deps,o.dst≠some j:=by
   intro i r hl j hj
   rcases Zf4 l cs E 0 hl with h | ⟨j',cj,h1,h2,h3,h4⟩
   ·rw [hsh.2 _ (Zam h)] at hj;cases hj
   ·refine hfree j' cj h1 XU j ?_
    simp only [CD.deps]
    exact YW _ (YaK.2 ⟨_,h4,hj⟩)
  refine wpOp_step (o:=o) XQ fun K hK=>?_
  refine hcert a w F K Q G.wf (fun x hx=>G.s _ _ (hreadS x hx)) (fun x hx=>(hreadR x hx).elim fun r hr=>hr.2 _ _ _ _ (G.r _ _ hr.1)) ?_
  intro v w' F' hwf' hst hq hqr
  refine hK _ _ (ih _ _ _ F' (by simp [hsz]) ?_ ?_ ?_)
  ·unfold cnt at hc ⊢
   have hg:listed.toList[k]'(by simpa using hk')=false:=by
    have:=hk2.1
    simpa [hk'] using this
   rw [Array.toList_setIfInBounds,List.count_set (by simpa using hk'),hg,Ye XV,Yb XW]
   have:false ∈ listed.toList:=YbL.2 ⟨k,by simpa using hk',hg⟩
   have:=List.count_pos_iff.2 this
   omega
  ·intro j oj hj hf e he hb
   have hput:∀ i,(listed.setIfInBounds k true).getD i false=(if k=i then true else listed.getD i false):=by
    intro i
    by_cases e:k=i
    ·subst e;simp [hk']
    ·simp [e,YaZ e]
   rw [hput] at hf ⊢
   split
   ·rfl
   ·split at hf
    ·rename_i h1 h2
     subst h2
     rw [ho] at hj
     simp at hj
     subst hj
     exact hpre e he hb
    ·exact hcl j oj hj hf e he hb
  ·have hput:(fun i=>(listed.setIfInBounds k true).getD i false)=fun i=>(if k=i then true else listed.getD i false):=by
    funext i
    by_cases e:k=i
    ·subst e;simp [hk']
    ·simp [e,YaZ e]
   rw [hput]
   refine (G.step hdd hds hdr hwf' hst hq hqr).congr (fun i=>?_) (fun n=>?_)
   ·rw [Zau]
    split
    ·rename_i hdi
     refine ZfF l cs E 0 k o c ho hcs hdi XM (fun j oj hkj hj hdj=>?_)
     have hjl:j<l.length:=(YH.1 hj).1
     have hcj:cs[j]? = some (cs[j]'ow):=by simp [hjl,hlen]
     exact absurd hdj ((hpair k j o oj c _ hkj ho hj hcs hcj).2.1 i hdi)
    ·rename_i hdi
     refine Zja l cs E E 0 (fun j oj hj hdj=>?_) rfl
     simp only [Yab]
     split
     ·rename_i e;subst e;rw [ho] at hj;simp at hj;subst hj;exact absurd hdj hdi
     ·rfl
   ·rw [Zac]
    split
    ·rename_i hn
     refine Zgi l cs E 0 k c hcs hk1 hn XM (fun j cj hkj hj hnj=>?_)
     simp only [Yab]
     rw [Yb ow]
     cases hf:listed.getD j false with
     | false=>rfl
     | true=>
      have hjl:j<l.length:=KC
      have hoj:l[j]? = some l[j]:=by simp [hjl]
      have hp:=(hpair k j o _ c cj hkj ho hoj hcs hj).1
      simp only [ZdB,Yaq,Yw,Yae] at hp
      rcases hp with hp | hp
      ·rw [hlater j _ _ hkj hoj hj hf] at hp;cases hp
      ·have hin:meets c.W cj.W=true:=by
        simp only [meets,Ybd]
        exact ⟨n,hn,by simpa using hnj⟩
       rw [hp.1.1.2] at hin;cases hin
    ·rename_i hn
     refine ZiS l cs E E 0 (fun j cj hj hdj=>?_) rfl
     simp only [Yab]
     split
     ·rename_i e;subst e;rw [hcs] at hj;simp at hj;subst hj;exact absurd hdj hn
     ·rfl
theorem Zdm (hch:Zu P l.toArray E l cs E') (fr:Nat→CD→List Nat) (hdrf:Zrt fr l cs=true) {T:Nat→Bool} {k n:Nat} {c:CD} {r:RS} (hcs:cs[k]? = some c) (hk:k<l.length) (hn:n ∈ fr k c) (hun:T k=false) (hmk:∀ j,((msks l []).getD k 0).testBit j=true→T j=true)
  (hlater:∀ j,k<j→j<l.length→T j=true→((msks l []).getD j 0).testBit k=false) (hl:look (runT E l cs (fun i=>Nat.blt i k) 0).r n=some r):look (runT E l cs T 0).r n=some r:=by
 obtain ⟨hlen,_,_⟩:=hch.facts
 have hpair:=ZlG hdrf
 rw [← hl]
 have ho:l[k]? = some l[k]:=by simp [hk]
 refine ZiS l cs E E 0 (fun j cj hj hdj=>?_) rfl
 simp only [Yab]
 have hjl:j<l.length:=KC
 have hoj:l[j]? = some l[j]:=by simp [hjl]
 have hin:meets cj.W (fr k c)=true:=by
  simp only [meets,Ybd]
  exact ⟨n,hdj,by simpa using hn⟩
 rcases YbG j k with h | h | h
 ·have hp:=(hpair j k _ _ cj c h hoj ho hj hcs).1
  simp only [ZdB,Yaq,Yw,Yae] at hp
  have hb:Nat.blt j k=true:=by rw [YaA];exact h
  rw [hb]
  rcases hp with hp | hp
  ·exact hmk j hp
  ·rw [hp.1.1.1.1.2] at hin;cases hin
 ·subst h
  have hb:Nat.blt j j=false:=Zld j
  rw [hb,hun]
 ·have hb:Nat.blt j k=false:=by
   cases e:Nat.blt j k with
   | false=>rfl
   | true=>rw [YaA] at e;omega
  rw [hb]
  cases hf:T j with
  | false=>rfl
  | true=>
   have hp:=(hpair k j _ _ c cj h ho hoj hcs hj).1
   simp only [ZdB,Yaq,Yw,Yae] at hp
   rcases hp with hp | hp
   ·rw [hlater j h hjl hf] at hp;cases hp
   ·rw [hp.1.1.1.2] at hin;cases hin
theorem ZnJ (hch:Zu P l.toArray E l cs E') (hdrf:drf l cs=true):ZhB l cs E:=fun T k c hcs hk hun hmk hlater x hx hl=>
 ⟨x.2,Zdm hch Zvq hdrf hcs hk (YB.2 ⟨x,hx,rfl⟩) hun hmk hlater hl,fun _ _ _ _ h=>h⟩
theorem ZjR {a b:Nat} (h:a≠b):Nat.beq a b=false:=by
 cases e:Nat.beq a b with
 | false=>rfl
 | true=>exact absurd (Y5 e) h
def ZgK (n u:Nat) (k:Nat) (c:CD):List Nat:=if Nat.beq k u then c.pr.map (·.1) else (c.pr.map (·.1)).filter fun i=>!Nat.beq i n
def ZmS (n u mu:Nat):Nat→List CD→Bool
 | _,[]=>true
 | k,c :: cs=>(Nat.beq k u || (!(c.pr.map (·.1)).contains n && !c.W.contains n) || (Nat.blt k u && mu.testBit k)) && ZmS n u mu (k+1) cs
def ZmK (n u:Nat):Nat→List CD→List (Option RS)
 | _,[]=>[]
 | k,c :: cs=>(if Nat.beq k u || !c.W.contains n then [] else [look c.qr n])++ZmK n u (k+1) cs
def Zl4 (n u:Nat):Nat→List CD→List (Option RS)
 | _,[]=>[]
 | k,c :: cs=>(if Nat.beq k u || !(c.pr.map (·.1)).contains n then [] else [look c.pr n])++Zl4 n u (k+1) cs
theorem ZiI {n u mu:Nat} : ∀ {cs:List CD} {s k:Nat} {c:CD},ZmS n u mu s cs=true→cs[k]? = some c→s+k≠u→(n ∈ c.pr.map (·.1)∨n ∈ c.W)→s+k<u∧mu.testBit (s+k)=true
 | [],s,k,c,_,h,_,_=>by simp at h
 | c0 :: cs,s,0,c,hb,h,hne,hn=>by
  simp at h;subst h
  simp only [ZmS,Yw,Yaq,Yae,YaA] at hb
  rcases hb.1 with (h1 | h1) | h1
  ·exact absurd (Y5 h1) (by simpa using hne)
  ·rcases hn with hn | hn
   ·have:=h1.1;simp at this;simp at hn;obtain ⟨x,hx⟩:=hn;exact absurd hx (this x)
   ·have:=h1.2;simp at this;exact absurd hn this
  ·exact h1
 | c0 :: cs,s,k+1,c,hb,h,hne,hn=>by
  simp only [ZmS,Yw] at hb
  have:=ZiI (s:=s+1) (k:=k) (c:=c) hb.2 XL ow hn
  rw [show s+1+k=s+(k+1) by omega] at this
  exact this
theorem ZiY {n u:Nat} : ∀ {cs:List CD} {s k:Nat} {c:CD},cs[k]? = some c→s+k≠u→n ∈ c.W→look c.qr n ∈ ZmK n u s cs
 | [],s,k,c,h,_,_=>by simp at h
 | c0 :: cs,s,0,c,h,hne,hn=>by
  simp at h;subst h
  have h1:Nat.beq s u=false:=ZjR (by simpa using hne)
  simp [ZmK,h1,hn]
 | c0 :: cs,s,k+1,c,h,hne,hn=>by
  have:=ZiY (s:=s+1) (k:=k) (c:=c) (u:=u) XL ow hn
  rw [ZmK];exact YW _ this
theorem ZiW {n u:Nat} : ∀ {cs:List CD} {s k:Nat} {c:CD},cs[k]? = some c→s+k≠u→n ∈ c.pr.map (·.1)→look c.pr n ∈ Zl4 n u s cs
 | [],s,k,c,h,_,_=>by simp at h
 | c0 :: cs,s,0,c,h,hne,hn=>by
  simp at h;subst h
  have h1:Nat.beq s u=false:=ZjR (by simpa using hne)
  have h2:(c0.pr.map (·.1)).contains n=true:=by simpa using hn
  simp only [Zl4,h1,h2,Bool.not_true,Bool.or_false,Ybo,Yt]
  simp
 | c0 :: cs,s,k+1,c,h,hne,hn=>by
  have:=ZiW (s:=s+1) (k:=k) (c:=c) (u:=u) XL ow hn
  rw [Zl4];exact YW _ this
theorem Zjw {n:Nat} {ok:Option RS→Prop} : ∀ (l:List Oper) (cs:List CD) (E:En) (T:Nat→Bool) (k:Nat),(∀ j c,cs[j]? = some c→n ∈ c.W→T (k+j)=true→ok (look c.qr n))→ok (look E.r n)→ok (look (runT E l cs T k).r n)
 | [],_,_,_,_,_,h=>by simpa [runT] using h
 | _ :: _,[],_,_,_,_,h=>by simpa [runT] using h
 | o :: l,c :: cs,E,T,k,ht,h=>by
  simp only [runT]
  refine Zjw l cs _ T (k+1) (fun j c' hj hn hT=>ht (j+1) c' XJ hn (by rw [show k+(j+1)=k+1+j by omega];exact hT)) ?_
  split
  ·rename_i hT
   rw [Zac]
   split
   ·rename_i hn;exact ht 0 c rfl hn (by simpa using hT)
   ·exact h
  ·exact h
theorem ZmN (hch:Zu P l.toArray E l cs E') (n u:Nat) (hdrf:Zrt (ZgK n u) l cs=true) (hu:u<l.length) (hb:ZmS n u ((msks l []).getD u 0) 0 cs=true) {r0 r1:RS} (h0:look E.r n=some r0) (hW:∀ x ∈ ZmK n u 0 cs,x=some r1) (hR:∀ x ∈ Zl4 n u 0 cs,x=some r0)
  (h10:∀ τ w f y,r1.holds τ w f y→r0.holds τ w f y):ZhB l cs E:=fun T k c hcs hk hun hmk hlater x hx hl=>by
 by_cases hku:k=u
 ·refine ⟨x.2,Zdm hch (ZgK n u) hdrf hcs hk ?_ hun hmk hlater hl,fun _ _ _ _ h=>h⟩
  unfold ZgK
  rw [Ye XX]
  exact YB.2 ⟨x,hx,rfl⟩
 ·by_cases hxn:x.1=n
  ·have hmem:n ∈ c.pr.map (·.1):=YB.2 ⟨x,hx,hxn⟩
   obtain ⟨g1,g2⟩:=ZiI (s:=0) hb hcs XX (.inl hmem)
   simp only [Yab] at g1 g2
   have hTu:T u=false:=by
    cases hT:T u with
    | false=>rfl
    | true=>rw [hlater u g1 hu hT] at g2;cases g2
   have hx0:x.2=r0:=by
    have hr:=hR _ (ZiW (s:=0) hcs XX hmem)
    obtain ⟨_,_,hf⟩:=hch.facts
    have ho:l[k]? = some l[k]:=by simp [hk]
    have h9:=(hf k _ c ho hcs).2.2.get _ (Zam hr)
    rw [hxn] at hl
    rw [hl] at h9
    exact Ya6 h9
   have hs:=Zjw (n:=n) (ok:=fun y=>y=some r0∨y=some r1) l cs E T 0 (fun j c' hj hn hT=>by
    refine .inr (hW _ (ZiY (s:=0) hj ?_ hn))
    intro e
    simp only [Yab] at hT e
    subst e
    rw [hTu] at hT
    cases hT) (.inl h0)
   rw [hxn,hx0]
   rcases hs with hs | hs
   ·exact ⟨r0,hs,fun _ _ _ _ h=>h⟩
   ·exact ⟨r1,hs,h10⟩
  ·refine ⟨x.2,Zdm hch (ZgK n u) hdrf hcs hk ?_ hun hmk hlater hl,fun _ _ _ _ h=>h⟩
   unfold ZgK
   rw [Yb XX,YK]
   exact ⟨YB.2 ⟨x,hx,rfl⟩,by rw [Yae];exact ZjR hxn⟩
theorem Ze5 {fr:Nat→CD→List Nat} (hm:P.follows .mixedOrders=true) {id:Nat} {a:Act} {w:World} {F:Fp} (G:Sat B E a w F) (hE:E.shutB=true)
  (hc:Zu P l.toArray E l cs E') (ho:Zrt fr l cs=true) (hrd:ZhB l cs E) (hd:dstsIn B.n l=true) (hQ:∀ a w F,Sat B E' a w F→Q .normal a w):(Code.region id l.toArray true).wp P Q a w:=by
 refine wp_region_any hm ?_
 have hev:Ev w (U F) { w with drawn:=w.drawn+1 } (U F):=⟨rfl,rfl,rfl,YF _,fun _ _ h=>⟨rfl,h⟩⟩
 have hS':Sat B E a { w with drawn:=w.drawn+1 } F:=
  ⟨⟨G.wf.dis,G.wf.bd⟩,G.ev.trans hev,G.n,G.df,fun i s hl=>SF.mono hev (fun _ _=>rfl) (G.s i s hl),fun i r hl=>RS.mono hev (fun _ _=>rfl) (fun _ _=>rfl) (G.r i r hl),G.em⟩
 refine Zuh hc (En.shut_of hE) ho hrd hd hQ _ _ a _ F XM ?_ ?_ ?_
 ·unfold cnt
  simp [List.count_le_length]
 ·intro k o _ hf
  exfalso
  simp only [Array.getD_eq_getD_getElem?,Array.getElem?_replicate] at hf
  split at hf <;> simp at hf
 ·have:(fun k=>(Array.replicate l.toArray.size false).getD k false)=fun _=>false:=by
   funext k
   simp [Array.getElem?_replicate]
   split <;> rfl
  rw [this,Zfo]
  exact hS'
theorem ZmF (hm:P.follows .mixedOrders=true) {id:Nat} {a:Act} {w:World} {F:Fp} (G:Sat B E a w F) (hE:E.shutB=true)
 (hc:Zu P l.toArray E l cs E') (ho:drf l cs=true) (hd:dstsIn B.n l=true) (hQ:∀ a w F,Sat B E' a w F→Q .normal a w):(Code.region id l.toArray true).wp P Q a w:=Ze5 hm G hE hc ho (ZnJ hc ho) hd hQ
theorem ZaZ (n u:Nat) {r0 r1:RS} {m1 m2:Nat} (hm:P.follows .mixedOrders=true) {id:Nat} {a:Act} {w:World} {F:Fp} (G:Sat B E a w F) (hE:E.shutB=true)
  (hc:Zu P l.toArray E l cs E') (ho:Zrt (ZgK n u) l cs=true) (hu:Nat.blt u l.length=true) (hb:ZmS n u ((msks l []).getD u 0) 0 cs=true) (h0:look E.r n=some r0) (hW:ZmK n u 0 cs=List.replicate m1 (some r1)) (hR:Zl4 n u 0 cs=List.replicate m2 (some r0))
  (h10:∀ τ w f y,r1.holds τ w f y→r0.holds τ w f y) (hd:dstsIn B.n l=true) (hQ:∀ a w F,Sat B E' a w F→Q .normal a w):(Code.region id l.toArray true).wp P Q a w:=
 Ze5 hm G hE hc ho (ZmN hc n u ho (by rwa [YaA] at hu) hb h0 (fun x hx=>by rw [hW] at hx;exact List.eq_of_mem_replicate hx) (fun x hx=>by rw [hR] at hx;exact List.eq_of_mem_replicate hx) h10) hd hQ
end
end Go.Gm
namespace Go.Gm
set_option linter.unusedVariables false
set_option linter.unusedSimpArgs false
def PV.ref (l:List PV):PV:=
 ⟨fun u w y=>∃ b off vs,u = .pointer (some ⟨b,off,none⟩)∧¬ y b∧b<w.heap.size∧Zt w b off vs∧PVs l vs w y,
  fun {v w y w' y'} h ⟨b,off,vs,e,hy,hb,hc,hp⟩=>⟨b,off,vs,e,(h.block b hb hy).2,Yam hb h.size,Zt.block (h.block b hb hy).1 hc,PVs.mono h hp⟩⟩
def PV.arr (n:Nat) (l:List PV):PV:=
 ⟨fun u w y=>∃ b vs,u = .slice (some ⟨b,0,none⟩) n n∧¬ y b∧b<w.heap.size∧Zt w b 0 vs∧PVs l vs w y,
  fun {v w y w' y'} h ⟨b,vs,e,hy,hb,hc,hp⟩=>⟨b,vs,e,(h.block b hb hy).2,Yam hb h.size,Zt.block (h.block b hb hy).1 hc,PVs.mono h hp⟩⟩
def Nn {α:Type} [Inhabited α] (l:List α) (i:Nat):α:=l.getD i default
theorem nth_eq {α:Type} [Inhabited α] {l:List α} {i:Nat} (h:i<l.length):Nn l i=l[i]:=by simp [Nn,h]
theorem PVs.pick {α:Type} [Inhabited α] {R:α→List PV} {sz:Nat} (hR:∀ x,(R x).length=sz) {w y} : ∀ {l:List α} {vs:List Value} (i:Nat),i<l.length→PVs (l.flatMap R) vs w y→PVs (R (Nn l i)) ((vs.drop (i*sz)).take sz) w y
 | [],vs,i,h,_=>by simp at h
 | x :: l,vs,0,h,hp=>by
  simp only [Y0] at hp
  obtain ⟨us,zs,rfl,h1,h2⟩:=PVs.split hp
  have e:us.length=sz:=KH
  simp [Nn,← e];exact h1
 | x :: l,vs,i+1,h,hp=>by
  simp only [Y0] at hp
  obtain ⟨us,zs,rfl,h1,h2⟩:=PVs.split hp
  have e:us.length=sz:=KH
  have:=PVs.pick hR i XL h2
  rw [show (i+1)*sz=us.length+i*sz by rw [e,Ybq];omega,← YbT,List.drop_left]
  simpa [Nn] using this
theorem ZpE {α:Type} {R:α→List PV} {sz:Nat} (hR:∀ x,(R x).length=sz) (l:List α):(l.flatMap R).length=l.length*sz:=by
 induction l with
 | nil=>simp
 | cons x l ih=>simp [Y0,ih,hR,Ybq];omega
theorem Zes {α:Type} {R:α→List PV} {sz:Nat} (hR:∀ x,(R x).length=sz):∀ (n:Nat) (l:List α),(l.take n).flatMap R=(l.flatMap R).take (n*sz):=by
 intro n
 induction n with
 | zero=>intro l;simp
 | succ n ih=>
  intro l
  cases l with
  | nil=>simp
  | cons x l=>
   simp only [List.take_succ_cons,Y0,ih,List.take_append,hR,Ybq,Nat.one_mul,Nat.add_sub_cancel]
   rw [Yaf (l:=R x) (by rw [hR];omega)]
theorem Zj0 {α:Type} {R:α→List PV} {sz:Nat} (hR:∀ x,(R x).length=sz):∀ (n:Nat) (l:List α),(l.drop n).flatMap R=(l.flatMap R).drop (n*sz):=by
 intro n
 induction n with
 | zero=>intro l;simp
 | succ n ih=>
  intro l
  cases l with
  | nil=>simp
  | cons x l=>
   simp only [List.drop_succ_cons,Y0,ih,List.drop_append,hR,Ybq,Nat.one_mul,Nat.add_sub_cancel]
   rw [YaY (l:=R x) (by rw [hR];omega)]
   simp
theorem PVs.cfs {w y} {τ:Tau} {ps:List PV} {vs:List Value} (h:PVs ps vs w y):CFs τ w y (ps.map CF.pv) vs:=CFs.of_pvs h
theorem PVs.take {w y} : ∀ {ps:List PV} {vs:List Value} (k:Nat),PVs ps vs w y→PVs (ps.take k) (vs.take k) w y
 | ps,vs,0,h=>by simp [PVs]
 | [],[],k+1,h=>trivial
 | p :: ps,v :: vs,k+1,h=>⟨h.1,PVs.take k h.2⟩
 | [],_ :: _,_+1,h=>h.elim
 | _ :: _,[],_+1,h=>h.elim
theorem PVs.drop {w y} : ∀ {ps:List PV} {vs:List Value} (k:Nat),PVs ps vs w y→PVs (ps.drop k) (vs.drop k) w y
 | ps,vs,0,h=>h
 | [],[],k+1,h=>trivial
 | p :: ps,v :: vs,k+1,h=>by simpa using PVs.drop k h.2
 | [],_ :: _,_+1,h=>h.elim
 | _ :: _,[],_+1,h=>h.elim
theorem PVs.one {w y} : ∀ {ps:List PV} {vs:List Value},PVs ps vs w y → ∀ v ∈ vs,v.oneCell' = true
 | [],[],_,v,hv=>by cases hv
 | p :: ps,v :: vs,h,u,hu=>by
  rcases Ym.1 hu with rfl | hu
  ·exact h.1.1
  ·exact PVs.one h.2 u hu
 | [],_ :: _,h,_,_=>h.elim
 | _ :: _,[],h,_,_=>h.elim
theorem Zt.slice {w:World} {b off k n:Nat} {vs:List Value} (h:Zt w b off vs):Zt w b (off+k) ((vs.drop k).take n):=by
 refine Zt.mk fun j v hj=>?_
 rw [Ybn] at hj
 split at hj
 ·have:=h.get (k+j) v XJ
  rw [show off+k+j=off+(k+j) by omega];exact this
 ·cases hj
section
variable {P:Program} {d:Option Nat} {ty:TypeId} {pos:String} {af:Array Edge} {g:Option (Nat×Bool)}
variable {x y:Operand} {ps qs:List (Nat×SF)} {t T:TypeId} {α:Type} {R:α→List PV} {l:List α}
def Zby (P:Program) (t e sz:Nat):Prop:=P.underlying t=some (.slice e)∧(P.info? e).map (·.size)=some sz
theorem Zby.mk {t e sz:Nat} (h1:P.underlying t=some (.slice e)) (h2:(P.info? e).map (·.size)=some sz):Zby P t e sz:=⟨h1,h2⟩
theorem Zfh {t e:Nat} (h:P.underlying t=some (.slice e)):P.underlying t=some (.slice (P.elem t)):=by simp [Program.elem,h]
theorem Ztg {t e:Nat} (h:P.underlying t=some (.slice e)):P.elem t=e:=by simp [Program.elem,h]
theorem ZcS {e:TypeId} (hu:P.underlying t=some (.slice e)) (hx:Opd x ps (.pv (.sl R l))) :
  OpC P ⟨d,.call { callee:=.builtin .len,args:=#[x],argTypes:=#[t] },ty,pos,af,g⟩ ⟨ps,[],.pv (.int .i64 l.length),[]⟩:=
 OpC.pure fun a w yy hp=>by
  obtain ⟨ad,cap,e1,h1,h2,_⟩:=hx a w yy hp
  refine ⟨.int .i64 l.length,?_,fun _ _=>⟨rfl,?_⟩⟩
  ·simp [execOp,resolve,invoke,builtin,e1,Ybv w t ty ad l.length cap (Zfh hu),goInt]
  ·unfold maxLen at h2
   simp [inR,IntKind.min,IntKind.max,IntKind.signed,IntKind.bits];omega
theorem ZfB {e sz:Nat} (h:Zby P t e sz) {b off len cap:Nat} {i:Int} (h0:0≤i) (h1:i<len) {k:IntKind} (w:World) :
  (Instr.indexAt t (.slice (some ⟨b,off,none⟩) len cap) (.int k i)).run P w = .ok (.pointer (some ⟨b,off+i.toNat*sz,none⟩)) w:=by
 rw [run_indexAt_slice w t ⟨b,off,none⟩ len cap k i (Zfh h.1),Ye ⟨h0,h1⟩,Ztg h.1]
 rw [run_sizeOf h.2]
 simp [add_lit]
theorem o_indexAddr_sl [Inhabited α] {e sz:Nat} {k:IntKind} {i:Int} (he:Zby P t e sz) (hR:∀ x,(R x).length=sz) (hx:Opd x ps (.pv (.sl R l))) (hy:Opd y qs (.pv (.int k i))) (h0:0≤i) (h1:i<l.length) :
  OpC P ⟨d,.indexAddr t x y,ty,pos,af,g⟩ ⟨ps++qs,[],.pv (.ref (R (Nn l i.toNat))),[]⟩:=
 OpC.pure fun a w yy hp=>by
  obtain ⟨ad,cap,e1,h3,h4,h5⟩:=hx a w yy hp.left
  have e2:=(hy a w yy hp.right).1
  rcases h5 with rfl | ⟨b,off,vs,rfl,hyb,hb,hc,hpv⟩
  ·simp at h1;omega
  ·refine ⟨.pointer (some ⟨b,off+i.toNat*sz,none⟩),?_,fun _ _=>⟨b,off+i.toNat*sz,(vs.drop (i.toNat*sz)).take sz,rfl,hyb,hb,hc.slice,PVs.pick hR i.toNat ow hpv⟩⟩
   simp [execOp,e1,e2,ZfB he h0 h1]
theorem Ze9 {b off sz:Nat} {ag:Bool} {vs:List Value} {w:World} {yy:Ys} {l:List PV} (ha:P.aggB t=some ag) (hs:(P.info? t).map (·.size)=some sz) (hc:Zt w b off vs) (hp:PVs l vs w yy)
  (hk:Nat.ble (wid ag sz) l.length=true):∃ v,(loadVar t ⟨b,off,none⟩).run P w = .ok v w ∧ ∀ τ,(ldSF ag sz (l.map CF.pv) 0).holds τ w yy v:=by
 have hlen:=hp.len
 have hk':=Yak hk
 cases ag with
 | true=>
  simp only [wid] at hk'
  have h1:=YaR (P:=P) w ⟨b,off,none⟩ (vs.take sz) (fun j v hj=>by
   rw [add_lit]
   rw [Ybn] at hj
   split at hj
   ·exact hc.get j v hj
   ·cases hj)
  have h2:(vs.take sz).length=sz:=XT
  rw [h2] at h1
  refine ⟨.agg (vs.take sz).toArray,by simp [loadVar,ZaS ha,run_sizeOf hs,h1],fun τ=>⟨vs.take sz,rfl,?_⟩⟩
  simp only [List.drop_zero]
  exact (PVs.cfs hp).take sz
 | false=>
  simp only [wid] at hk'
  match l,vs,hp,hc with
  | p :: l,v :: vs,hp,hc=>
   have hcell:=hc.1
   exact ⟨v,by simp [loadVar,ZaS ha,load,Sem.run,hcell],fun τ=>hp.1.2⟩
  | [],_,hp,_=>simp at hk'
theorem ZgX {ag:Bool} {sz:Nat} {l:List PV} (hx:Opd x ps (.pv (.ref l))) (ha:P.aggB t=some ag) (hs:(P.info? t).map (·.size)=some sz) (hk:Nat.ble (wid ag sz) l.length=true) :
  OpC P ⟨d,.load t x,ty,pos,af,g⟩ ⟨ps,[],ldSF ag sz (l.map CF.pv) 0,[]⟩:=
 OpC.pure fun a w yy hp=>by
  obtain ⟨b,off,vs,e1,_,_,hc,hpv⟩:=hx a w yy hp
  obtain ⟨v,h1,h2⟩:=Ze9 (P:=P) ha hs hc hpv hk
  exact ⟨v,by simp [execOp,e1,Instr.loadAt,Instr.sureAddr,h1],fun τ _=>h2 τ⟩
theorem Zgh {s:TypeId} {f off:Nat} {l:List PV} (hx:Opd x ps (.pv (.ref l))) (ho:P.fieldOff s f=some off) :
  OpC P ⟨d,.fieldAddr s x f,ty,pos,af,g⟩ ⟨ps,[],.pv (.ref (l.drop off)),[]⟩:=
 OpC.pure fun a w yy hp=>by
  obtain ⟨b,k,vs,e1,hy,hb,hc,hpv⟩:=hx a w yy hp
  refine ⟨.pointer (some ⟨b,k+off,none⟩),by simp [execOp,e1,Zc6 ho],fun τ _=>⟨b,k+off,vs.drop off,rfl,hy,hb,?_,PVs.drop off hpv⟩⟩
  have:=hc.slice (k:=off) (n:=vs.length)
  rw [Yaf XM] at this
  exact this
theorem ZgH {e sz:Nat} {lo hi:Option Operand} {k1 k2:IntKind} {i j:Int} {rs:List (Nat×SF)} (he:Zby P t e sz) (hR:∀ x,(R x).length=sz) (hx:Opd x ps (.pv (.sl R l)))
  (hlo:match lo with | some z=>Opd z qs (.pv (.int k1 i)) | none=>qs = []∧i=0) (hhi:match hi with | some z=>Opd z rs (.pv (.int k2 j)) | none=>rs = []∧j=l.length)
  (h0:0≤i) (h1:i≤j) (h2:j≤l.length) :
  OpC P ⟨d,.slice t x lo hi none,ty,pos,af,g⟩ ⟨ps++(qs++rs),[],.pv (.sl R ((l.take j.toNat).drop i.toNat)),[]⟩:=
 OpC.pure fun a w yy hp=>by
  obtain ⟨ad,cap,e1,h3,h4,h5⟩:=hx a w yy hp.left
  have hlen:((l.take j.toNat).drop i.toNat).length=j.toNat - i.toNat:=XT
  have hbl:∀ (v:Value) (k:IntKind) (z:Int) (c:BoundsCode) (m:Nat),0≤z→z≤m→(Instr.sliceBound (.int k z) m c).run P w = .ok z.toNat w:=by
   intro v k z c m hz1 hz2
   simp [Instr.sliceBound,asIntOf,hz1,hz2]
  have hrun:(Instr.slice t (.slice ad l.length cap) (lo.map a.eval) (hi.map a.eval) none).run P w = .ok (.slice (if cap=i.toNat then ad else ad.map (·.add (i.toNat*sz))) (j.toNat - i.toNat) (cap - i.toNat)) w:=by
   have hh:(Instr.sliceBounds true l.length cap (lo.map a.eval) (hi.map a.eval) none).run P w = .ok (i.toNat,j.toNat,cap) w:=by
    cases hi with
    | none=>
     obtain ⟨_,rfl⟩:=hhi
     cases lo with
     | none=>
      obtain ⟨_,rfl⟩:=hlo
      simp [Instr.sliceBounds]
     | some z=>
      have ez:=(hlo a w yy hp.right.left).1
      simp [Instr.sliceBounds,ez,hbl undef k1 i .sliceB l.length h0 h1]
    | some z=>
     have ez:=(hhi a w yy hp.right.right).1
     cases lo with
     | none=>
      obtain ⟨_,rfl⟩:=hlo
      simp [Instr.sliceBounds,ez,hbl undef k2 j .sliceAcap cap ow ow]
     | some z'=>
      have ez':=(hlo a w yy hp.right.left).1
      simp [Instr.sliceBounds,ez,ez',hbl undef k2 j .sliceAcap cap ow ow,hbl undef k1 i .sliceB j.toNat h0 ow]
   simp [Instr.slice,Yo he.1,hh,run_sizeOf he.2]
  have hexec:(execOp a.eval ⟨d,.slice t x lo hi none,ty,pos,af,g⟩).run P w = .ok (.value (.slice (if cap=i.toNat then ad else ad.map (·.add (i.toNat*sz))) (j.toNat - i.toNat) (cap - i.toNat))) w:=by
   have hs:(Instr.sliceAt t (.slice ad l.length cap) (lo.map a.eval) (hi.map a.eval) none).run P w=(Instr.slice t (.slice ad l.length cap) (lo.map a.eval) (hi.map a.eval) none).run P w:=by
    simp [Instr.sliceAt,Yo he.1]
   simp only [execOp,e1,YaS,YD,hs,hrun,Yv,YI]
  refine ⟨_,hexec,fun τ _=>?_⟩
  refine ⟨_,_,by rw [hlen],by rw [hlen];omega,ow,?_⟩
  by_cases hnil:(l.take j.toNat).drop i.toNat = []
  ·exact .inl hnil
  ·right
   have hl:0<((l.take j.toNat).drop i.toNat).length:=Ya0.2 hnil
   rw [hlen] at hl
   rcases h5 with rfl | ⟨b,off,vs,rfl,hyb,hb,hc,hpv⟩
   ·simp at h2;omega
   ·have hne:cap≠i.toNat:=ow
    rw [Yb hne]
    refine ⟨b,off+i.toNat*sz,(vs.take (j.toNat*sz)).drop (i.toNat*sz),by simp [add_lit],hyb,hb,?_,?_⟩
    ·have h6:Zt w b off (vs.take (j.toNat*sz)):=by
      have:=hc.slice (k:=0) (n:=j.toNat*sz)
      simpa using this
     have:=h6.slice (k:=i.toNat*sz) (n:=(vs.take (j.toNat*sz)).length)
     rw [Yaf XM] at this
     exact this
    ·rw [Zj0 hR,Zes hR]
     exact PVs.drop _ (PVs.take _ hpv)
end
end Go.Gm
namespace Go.Gm
set_option linter.unusedVariables false
set_option linter.unusedSimpArgs false
theorem Zeu {w w':World} {e sz n:Nat} {v:Value} {xs:List Value} (h:w.ownsRow 0 e sz v n xs) (hb:∀ b,v.ownBlock=some b→w'.heap[b]? = w.heap[b]?):w'.ownsRow 0 e sz v n xs:=by
 refine ⟨h.1,?_⟩
 rcases h.2 with h2 | ⟨g,cap,cur,rfl,h0,hg,r⟩
 ·exact .inl h2
 ·exact .inr ⟨g,cap,cur,rfl,h0,by rw [hb g (by simp [Value.ownBlock])];exact hg,r⟩
def Zz {α:Type} (T sz:Nat) (R:α→List PV) (l:List α) (v:Value):HP:=
 ⟨fun w f y=>∃ xs,w.ownsRow 0 T sz v l.length xs∧PVs (l.flatMap R) xs w y ∧ ∀ b,f b ↔ v.ownBlock=some b,
  fun {w f y w' y'} h hf ⟨xs,h1,h2,h3⟩=>⟨xs,Zeu h1 (fun b hb=>hf b ((h3 b).2 hb)),PVs.mono h h2,h3⟩⟩
theorem ZkY {α:Type} {T sz:Nat} {R:α→List PV} {w:World} {y:Ys} : (Zz T sz R ([]:List α) (.slice none 0 0)).p w (fun _=>False) y:=
 ⟨[],World.ownsRow_nil w 0 T sz,tv,fun b=>by simp [Value.ownBlock]⟩
theorem ZG {w:World} {e sz n:Nat} {v:Value} {xs:List Value} (h:w.ownsRow 0 e sz v n xs):∃ ad cap,v = .slice ad n cap∧n≤cap∧cap≤maxLen∧(n=0 ∨ ∃ b,ad=some ⟨b,0,none⟩∧v.ownBlock=some b∧Zt w b 0 xs):=by
 rcases h.2 with ⟨rfl,rfl⟩ | ⟨g,cap,cur,rfl,_,hg,h1,h2,h3,h4⟩
 ·exact ⟨none,0,rfl,YF _,by unfold maxLen;omega,.inl rfl⟩
 ·refine ⟨_,cap,rfl,h1,h2,.inr ⟨g,rfl,rfl,?_⟩⟩
  have:=h.cells (g:=g) rfl
  exact Zt.mk fun j u hu=>by have:=this j u hu;rw [add_lit] at this;exact this
section
variable {P:Program} {d:Option Nat} {ty:TypeId} {pos:String} {af:Array Edge} {g:Option (Nat×Bool)}
variable {x y:Operand} {ps qs:List (Nat×SF)} {t T:TypeId} {α:Type} {R:α→List PV} {l:List α} {a:Anc}
def Zar (x:Operand) (ps:List (Nat×SF)) (a:Anc):Prop:=∀ (act:Act) w y,Hps ps (Act.tau act) w y→act.eval x=a.v (Act.tau act)
theorem Zar.is {i:Nat} {v:Value} : Zar (.tmp i) [(i,.pv (.is v))] (.val v):=fun act w y h=>(h (i,.pv (.is v)) (by simp)).1
theorem Zar.same {i j:Nat} : Zar (.tmp i) [(i,.same j)] (.slot j):=fun act w y h=>(h (i,.same j) (by simp)).1
theorem Zar.w {c:Prop} {i:Nat} {s:SF} {a:Anc} (hc:c) (h:Zar (.tmp i) [(i,s)] a):Zar (.tmp i) [(i,.when c s)] a:=fun act w y hp=>
 h act w y (fun x hx=>by simp only [Yn] at hx;subst hx;exact (hp (i,.when c s) XM).1 hc)
theorem ZN {e sz:Nat} (n:Nat) (hu:P.underlying t=some (.slice e)) (hx:Zar x ps a) :
  OpC P ⟨d,.call { callee:=.builtin .len,args:=#[x],argTypes:=#[t] },ty,pos,af,g⟩ ⟨ps,[(n,.ob a (Zz T sz R l))],.pv (.int .i64 l.length),[]⟩:=
 OpC.read fun act w F hp hr=>by
  obtain ⟨xs,h1,h2,h3⟩:=hr (n,.ob a (Zz T sz R l)) XM
  obtain ⟨ad,cap,e1,h4,h5,_⟩:=ZG h1
  have e2:act.eval x = .slice ad l.length cap:=Kr
  refine ⟨.int .i64 l.length,?_,fun _ _=>⟨rfl,?_⟩⟩
  ·simp [execOp,resolve,invoke,builtin,e2,Ybv w t ty ad l.length cap (Zfh hu),goInt]
  ·unfold maxLen at h5
   simp [inR,IntKind.min,IntKind.max,IntKind.signed,IntKind.bits];omega
theorem o_indexAddr_row {e sz:Nat} {k:IntKind} {i:Int} (n:Nat) (he:Zby P t e sz) (hx:Zar x ps a) (hy:Opd y qs (.pv (.int k i))) (h0:0≤i) (h1:i<l.length) (hd:ZaO d (.adr a (i.toNat*sz))=true) :
  OpC P ⟨d,.indexAddr t x y,ty,pos,af,g⟩ ⟨ps++qs,[(n,.ob a (Zz T sz R l))],.adr a (i.toNat*sz),[]⟩:=
 OpC.read fun act w F hp hr=>by
  obtain ⟨xs,h2,h3,h4⟩:=hr (n,.ob a (Zz T sz R l)) XM
  obtain ⟨ad,cap,e1,h5,h6,h7⟩:=ZG h2
  have e2:=(hy act w _ hp.right).1
  have e3:act.eval x = .slice ad l.length cap:=Ke
  rcases h7 with h7 | ⟨b,rfl,_,_⟩
  ·omega
  ·have ev:a.v (Act.tau act) = .slice (some ⟨b,0,none⟩) l.length cap:=e1
   refine ⟨.pointer (some ⟨b,0+i.toNat*sz,none⟩),by simp [execOp,e3,e2,ZfB he h0 h1],fun τ' ht=>Z9 (w:=w) (y:=U F) hd ht ?_⟩
   simp [SF.holds,ev,shift]
theorem Zji {w:World} {f yy:Ys} {sz:Nat} {ag:Bool} {τ:Tau} {sz' i off:Nat} [Inhabited α] (hr:(RS.ob a (Zz T sz R l)).holds τ w f yy) (hR:∀ x,(R x).length=sz) (hi:i<l.length) (hoff:off+wid ag sz' ≤ sz)
  (ha:P.aggB t=some ag) (hs:(P.info? t).map (·.size)=some sz') :
  ∃ b cap v,a.v τ = .slice (some ⟨b,0,none⟩) l.length cap∧(loadVar t ⟨b,i*sz+off,none⟩).run P w = .ok v w ∧ ∀ τ,(ldSF ag sz' (((R (Nn l i)).drop off).map CF.pv) 0).holds τ w yy v:=by
 obtain ⟨xs,h2,h3,h4⟩:=hr
 obtain ⟨ad,cap,e1,h5,h6,h7⟩:=ZG h2
 rcases h7 with h7 | ⟨b,rfl,_,hc⟩
 ·omega
 ·have hp:=PVs.drop off (PVs.pick hR i hi h3)
  have hc':=(hc.slice (k:=i*sz) (n:=sz)).slice (k:=off) (n:=((xs.drop (i*sz)).take sz).length)
  rw [Yaf XM,Yab] at hc'
  obtain ⟨v,h8,h9⟩:=Ze9 (P:=P) ha hs hc' hp (by
   refine Nat.ble_eq_true_of_le ?_
   simp [hR];omega)
  exact ⟨b,cap,v,e1,h8,h9⟩
theorem Zay {sz:Nat} {ag:Bool} {sz' i off:Nat} [Inhabited α] (n:Nat) (hx:Opd x ps (.adr a (i*sz+off))) (hR:∀ x,(R x).length=sz) (hi:i<l.length) (hoff:Nat.ble (off+wid ag sz') sz=true)
  (ha:P.aggB t=some ag) (hs:(P.info? t).map (·.size)=some sz') :
  OpC P ⟨d,.load t x,ty,pos,af,g⟩ ⟨ps,[(n,.ob a (Zz T sz R l))],ldSF ag sz' (((R (Nn l i)).drop off).map CF.pv) 0,[]⟩:=
 OpC.read fun act w F hp hr=>by
  obtain ⟨b,cap,v,e1,h1,h2⟩:=Zji (P:=P) (yy:=U F) (hr (n,.ob a (Zz T sz R l)) XM) hR hi (Yak hoff) ha hs
  have e2:act.eval x = .pointer (some ⟨b,i*sz+off,none⟩):=by
   have:=hx act w (U F) hp
   simp only [SF.holds,e1,shift,Yab] at this
   exact this
  exact ⟨v,by simp [execOp,e2,Instr.loadAt,Instr.sureAddr,h1],fun τ _=>h2 τ⟩
theorem Zx {sz:Nat} {ag:Bool} {sz' i:Nat} [Inhabited α] (n:Nat) (hx:Opd x ps (.adr a (i*sz))) (hR:∀ x,(R x).length=sz) (hi:i<l.length) (hoff:Nat.ble (wid ag sz') sz=true)
  (ha:P.aggB t=some ag) (hs:(P.info? t).map (·.size)=some sz') :
  OpC P ⟨d,.load t x,ty,pos,af,g⟩ ⟨ps,[(n,.ob a (Zz T sz R l))],ldSF ag sz' ((R (Nn l i)).map CF.pv) 0,[]⟩:=
 Zay (off:=0) n hx hR hi (by simpa using hoff) ha hs
structure Zoo (P:Program) (t T sz bs:Nat):Prop where
 u:P.underlying t=some (.slice T)
 i:∃ i z,P.info? T=some i∧i.zero=some z∧i.size=sz∧i.bytes=bs∧z.cells.size=sz
 p:0<sz
theorem Zoo.mk' {t T sz bs:Nat} (h1:P.underlying t=some (.slice T)) (h2:(P.info? T).map (fun i=>(i.size,i.bytes,i.zero.map (·.cells.size)))=some (sz,bs,some sz)) (h3:Nat.blt 0 sz=true):Zoo P t T sz bs:=by
 refine ⟨h1,?_,by simpa [YaA] using h3⟩
 cases hi:P.info? T with
 | none=>rw [hi] at h2;cases h2
 | some i=>
  rw [hi] at h2
  simp at h2
  obtain ⟨e1,e2,z,e3,e4⟩:=h2
  exact ⟨i,z,rfl,e3,e1,e2,e4⟩
theorem Zmy {w:World} {t T sz bs:Nat} {ty:TypeId} (he:Zoo P t T sz bs) {v:Value} {n:Nat} {xs:List Value} (hown:w.ownsRow 0 T sz v n xs) {b off m c:Nat} {news:List Value} (hl:news.length=m*sz) (hc:Zt w b off news) (h1:∀ u ∈ news,u.oneCell' = true)
  (h63:n+m≤maxLen) (hbytes:(n+m)*bs≤140737488355328) :
  ∃ v' w',(Builtin.append_ #[t,t] ty #[v,.slice (some ⟨b,off,none⟩) m c]).run P w = .ok v' w' ∧ w'.ownsRow 0 T sz v' (n+m) (xs++news)∧w.grownBy w' v.ownBlock ∧ ∀ k,v'.ownBlock=some k→v.ownBlock=some k∨k=w.heap.size:=by
 obtain ⟨i,z,hi,hz,hsz,hby,hzs⟩:=he.i
 have hnews:∀ j u,news[j]? = some u→w.cell? ((⟨b,off,none⟩:Addr).add j)=some u:=fun j u hu=>by rw [add_lit];exact hc.get j u hu
 obtain ⟨v',w',r1,r2,r3,r4⟩:=run_append_own (P:=P) w 0 t ty T i z sz bs he.u hi hz hsz hby hzs he.p v n xs hown ⟨b,off,none⟩ m c news hl hnews h1 h63 hbytes (YA _)
 refine ⟨v',w',r1,r2,r3,fun k hk=>?_⟩
 subst hsz;subst hby
 rcases hown.2 with ⟨rfl,rfl⟩ | ⟨g,cap,cur,rfl,_,hg,hnc,hcm,hcs,htake⟩
 ·by_cases hm:m=0
  ·have:=r4.2 ⟨rfl,hm⟩
   rw [this] at hk;simp [Value.ownBlock] at hk
  ·have hr:=run_append_nil (P:=P) w t ty T i z he.u hi hz ⟨b,off,none⟩ m c news hl hnews ow XY (by have:=hbytes;simp only [Yab] at this;omega)
   rw [r1] at hr
   simp only [YbD] at hr
   rw [hr.1] at hk
   simp [Value.ownBlock] at hk
   exact .inr hk.symm
 ·by_cases hroom:n+m≤cap
  ·have hfit:n*i.size+news.length≤cur.size:=by rw [hl,hcs,← Ybq];exact YN _ hroom
   have hr:=run_append_room (P:=P) w t ty T i he.u hi g n cap cur hg ⟨b,off,none⟩ m c news hl hnews h1 hroom hfit
   rw [r1] at hr
   simp only [YbD] at hr
   rw [hr.1] at hk
   exact .inl hk
  ·have holds:∀ j u,xs[j]? = some u→w.cell? ((⟨g,0,none⟩:Addr).add j)=some u:=hown.cells (g:=g) rfl
   have hr:=run_append_grow (P:=P) w t ty T i z he.u hi hz ⟨g,0,none⟩ n cap xs hown.1 holds ⟨b,off,none⟩ m c news hl hnews ow XY (growslice_fits ow hbytes)
   rw [r1] at hr
   simp only [YbD] at hr
   rw [hr.1] at hk
   simp [Value.ownBlock] at hk
   exact .inr hk.symm
theorem Zie {w w':World} {F:Fp} (hw:Wf F w) {n:Nat} {v v':Value} (hg:w.grownBy w' v.ownBlock) (hf:∀ b,F n b ↔ v.ownBlock=some b) (hv:∀ k,v'.ownBlock=some k→v.ownBlock=some k∨k=w.heap.size)
  (hlt:∀ k,v'.ownBlock=some k→k<w'.heap.size) :
  Wf (fun m=>if m=n then fun b=>v'.ownBlock=some b else F m) w' ∧ Stp [n] w F w' (fun m=>if m=n then fun b=>v'.ownBlock=some b else F m):=by
 refine ⟨⟨fun i j b hi hj=>?_,fun i b hi=>?_⟩,⟨hg.os,hg.tape,hg.output,hg.size,fun b hb hn=>?_,fun m hm=>?_,fun m hm b hb=>?_⟩⟩
 ·by_cases e1:i=n <;> by_cases e2:j=n <;> simp [e1,e2] at hi hj
  ·rw [e1,e2]
  ·rcases hv b hi with h | h
   ·rw [e1];exact hw.dis n j b ((hf b).2 h) hj
   ·have:=hw.bd j b hj;omega
  ·rcases hv b hj with h | h
   ·rw [e2];exact hw.dis i n b hi ((hf b).2 h)
   ·have:=hw.bd i b hi;omega
  ·exact hw.dis i j b hi hj
 ·by_cases e1:i=n <;> simp [e1] at hi
  ·exact hlt b hi
  ·exact Yam (hw.bd i b hi) hg.size
 ·refine hg.block b hb (fun e=>hn n XM ((hf b).2 e.symm))
 ·simp at hm;simp [hm]
 ·simp at hm
  subst hm
  simp at hb
  rcases hv b hb with h | h
  ·exact .inl ⟨m,by simp,(hf b).2 h⟩
  ·right;omega
theorem ZcH {e sz:Nat} {d':Nat} {k:IntKind} {j:Int} (n:Nat) (he:Zby P t e sz) (hR:∀ x,(R x).length=sz) (hx:Zar x ps a) (hy:Opd y qs (.pv (.int k j))) (h0:0≤j) (h1:j≤l.length) :
  OpC P ⟨some d',.slice t x none (some y) none,ty,pos,af,g⟩ ⟨ps++qs,[(n,.ob a (Zz e sz R l))],.same d',[(n,.ob (.slot d') (Zz e sz R (l.take j.toNat)))]⟩:=fun act w F K Q hw hp hr ht=>by
 obtain ⟨xs,h2,h3,h4⟩:=hr (n,.ob a (Zz e sz R l)) XM
 obtain ⟨ad,cap,e1,h5,h6,h7⟩:=ZG h2
 have e2:=(hy act w _ hp.right).1
 have e3:act.eval x = .slice ad l.length cap:=Ke
 have hh:(Instr.sliceBounds true l.length cap none (some (.int k j)) none).run P w = .ok (0,j.toNat,cap) w:=by
  have:j≤cap:=ow
  simp [Instr.sliceBounds,Instr.sliceBound,asIntOf,h0,this]
 have hv:(if cap=0 then ad else ad.map (·.add (0*sz)))=ad:=by
  split
  ·rfl
  ·cases ad <;> simp [Addr.add]
 have hrun:(execOp act.eval ⟨some d',.slice t x none (some y) none,ty,pos,af,g⟩).run P w = .ok (.value (.slice ad j.toNat cap)) w:=by
  simp only [execOp,e3,e2,YaS,YaC,Instr.sliceAt,YD,Yo he.1,Yv,Instr.slice,hh,run_sizeOf he.2,YI,hv,YbR]
 have hlt:(l.take j.toNat).length=j.toNat:=XT
 have hown:w.ownsRow 0 e sz (.slice ad j.toNat cap) j.toNat (xs.take (j.toNat*sz)):=by
  refine ⟨by rw [Yp,h2.1,Ya7 (YN _ ow)],?_⟩
  rcases h2.2 with ⟨hn,hl0⟩ | ⟨g,cap',cur,hv',hb,hg,k1,k2,k3,k4⟩
  ·rw [e1] at hn
   simp only [Value.slice.injEq] at hn
   left
   have hj:j.toNat=0:=ow
   rw [hj,hn.1,hn.2.2]
   exact ⟨rfl,rfl⟩
  ·rw [e1] at hv'
   simp only [Value.slice.injEq] at hv'
   obtain ⟨rfl,_,rfl⟩:=hv'
   refine .inr ⟨g,cap,cur,rfl,hb,hg,ow,k2,k3,?_⟩
   rw [← k4,Ybh,Ya7 (YN _ ow)]
 have hob:(Value.slice ad j.toNat cap).ownBlock=(a.v (Act.tau act)).ownBlock:=by rw [e1];cases ad <;> rfl
 simp only [Oper.wp,hrun,Oper.upon]
 refine ht _ w F hw ⟨rfl,rfl,rfl,YF _,fun _ _ _=>rfl,fun _ _=>rfl,fun m hm b hb=>.inl ⟨m,hm,hb⟩⟩ ⟨by simp [upd],rfl⟩ ?_
 intro z hz
 simp only [Yn] at hz
 subst hz
 have hτ:upd (Act.tau act) (some d') (.slice ad j.toNat cap) d' = .slice ad j.toNat cap:=KI
 refine ⟨xs.take (j.toNat*sz),?_,?_,?_⟩
 ·simp only [Anc.v,hτ,hlt];exact hown
 ·rw [Zes hR];exact PVs.take _ h3
 ·intro b;simp only [Anc.v,hτ,hob];exact h4 b
def Zor (y:Operand) (qs:List (Nat×SF)) (R:α→List PV) (l':List α):Prop:=∀ (act:Act) w yy,Hps qs (Act.tau act) w yy → ∃ c,(l' = [] ∧ ∃ ad,act.eval y = .slice ad 0 c) ∨
 ∃ b off news,act.eval y = .slice (some ⟨b,off,none⟩) l'.length c∧Zt w b off news∧PVs (l'.flatMap R) news w yy
theorem Zor.arr {l':List α} (h:Opd y qs (.pv (.arr l'.length (l'.flatMap R)))):Zor y qs R l':=fun act w yy hp=>by
 obtain ⟨b,news,e1,_,_,hc,hpv⟩:=h act w yy hp
 exact ⟨_,.inr ⟨b,0,news,e1,hc,hpv⟩⟩
theorem Zor.sl {l':List α} (h:Opd y qs (.pv (.sl R l'))):Zor y qs R l':=fun act w yy hp=>by
 obtain ⟨ad,cap,e1,_,_,h3⟩:=h act w yy hp
 rcases h3 with rfl | ⟨b,off,news,rfl,_,_,hc,hpv⟩
 ·exact ⟨cap,.inl ⟨rfl,ad,e1⟩⟩
 ·exact ⟨cap,.inr ⟨b,off,news,e1,hc,hpv⟩⟩
theorem Zfw {w:World} {t T sz bs:Nat} {ty:TypeId} (he:Zoo P t T sz bs) {v:Value} {n:Nat} {xs:List Value} (hown:w.ownsRow 0 T sz v n xs) (ad:Option Addr) (c:Nat) :
  (Builtin.append_ #[t,t] ty #[v,.slice ad 0 c]).run P w = .ok v w:=by
 obtain ⟨i,z,hi,hz,hsz,hby,hzs⟩:=he.i
 obtain ⟨ad',cap,rfl,h1,_⟩:=ZG hown
 have hf:∀ (ad:Option Addr),(Builtin.firstCells i.size 0 (.slice ad 0 c)).run P w = .ok #[] w:=by
  intro ad
  cases ad with
  | none=>simp [Builtin.firstCells]
  | some a=>simp [Builtin.firstCells,loadCells,loadCellsFrom]
 cases ad' with
 | none=>simp [Builtin.append_,Yo he.u,sizeOf,typeInfo,hi,Builtin.lenOf,h1,hf]
 | some a'=>simp [Builtin.append_,Yo he.u,sizeOf,typeInfo,hi,Builtin.lenOf,h1,hf,storeCells]
theorem o_append {l':List α} {d':Nat} {T sz bs:Nat} (n:Nat) (he:Zoo P t T sz bs) (hR:∀ x,(R x).length=sz) (hx:Zar x ps a) (hy:Zor y qs R l') (hb:(l.length+l'.length)*bs≤140737488355328) (hbs:0<bs) :
  OpC P ⟨some d',.call { callee:=.builtin .append,args:=#[x,y],argTypes:=#[t,t] },ty,pos,af,g⟩ ⟨ps++qs,[(n,.ob a (Zz T sz R l))],.same d',[(n,.ob (.slot d') (Zz T sz R (l++l')))]⟩:=fun act w F K Q hw hp hr ht=>by
 obtain ⟨xs,h1,h2,h3⟩:=hr (n,.ob a (Zz T sz R l)) XM
 have e2:act.eval x=a.v (Act.tau act):=hx act w _ hp.left
 have hlen:l.length+l'.length≤maxLen:=by
  unfold maxLen
  have:l.length+l'.length≤(l.length+l'.length)*bs:=Nat.le_mul_of_pos_right _ hbs
  omega
 have hall:∃ v' w' news,(Builtin.append_ #[t,t] ty #[act.eval x,act.eval y]).run P w = .ok v' w' ∧ w'.ownsRow 0 T sz v' (l.length+l'.length) (xs++news)∧w.grownBy w' (a.v (Act.tau act)).ownBlock∧(∀ k,v'.ownBlock=some k→(a.v (Act.tau act)).ownBlock=some k∨k=w.heap.size)∧PVs (l'.flatMap R) news w (U F):=by
  obtain ⟨c,⟨rfl,ad,e1⟩ | ⟨b,off,news,e1,hc,hpv⟩⟩:=hy act w _ hp.right
  ·refine ⟨a.v (Act.tau act),w,[],by rw [e2,e1];exact Zfw he h1 ad c,by simpa using h1,⟨rfl,rfl,rfl,YF _,fun _ _ _=>rfl⟩,fun k hk=>.inl hk,tv⟩
  ·obtain ⟨v',w',r1,r2,r3,r4⟩:=Zmy (P:=P) (ty:=ty) he h1 (c:=c) (by rw [← hpv.len,ZpE hR]) hc hpv.one hlen hb
   exact ⟨v',w',news,by rw [e2,e1];exact r1,r2,r3,r4,hpv⟩
 obtain ⟨v',w',news,r1,r2,r3,r4,hpv⟩:=hall
 have hrun:(execOp act.eval ⟨some d',.call { callee:=.builtin .append,args:=#[x,y],argTypes:=#[t,t] },ty,pos,af,g⟩).run P w = .ok (.value v') w':=by
  simp only [execOp,resolve,invoke,builtin,YD,YI,Yv,Ybe,YG,Ya8,r1]
 simp only [Oper.wp,hrun,Oper.upon]
 obtain ⟨g1,g2⟩:=Zie hw r3 h3 r4 (fun k hk=>(r2.lt k hk).2)
 refine ht v' w' _ g1 g2 (by
  obtain ⟨ad,cap,e,_⟩:=ZG r2
  exact ⟨by simp [upd],by rw [e];rfl⟩) ?_
 intro z hz
 simp only [Yn] at hz
 subst hz
 have hτ:upd (Act.tau act) (some d') v' d' = v':=KI
 refine ⟨xs++news,?_,?_,?_⟩
 ·simp only [Anc.v,hτ,Yc];exact r2
 ·rw [Y2]
  exact PVs.append (PVs.mono g2.ev h2) (PVs.mono g2.ev hpv)
 ·intro b;simp [Anc.v,hτ]
end
end Go.Gm
namespace Go.Gm
set_option linter.unusedVariables false
set_option linter.unusedSimpArgs false
open Go.RowKit
def tau0:Tau:=fun _=>undef
theorem RS.closed {r:RS} (h:r.deps = []) {τ τ':Tau} {w f y} (k:r.holds τ w f y):r.holds τ' w f y:=
 RS.mono (Ev.refl w y) (fun _ _=>rfl) (fun i hi=>by rw [h] at hi;cases hi) k
abbrev RS.hp (h:HP):RS:=.ob (.val undef) fun _=>h
def stars (w:World) (y:Ys):List RS→Ys→Prop
 | [],f=>∀ b,¬ f b
 | r :: rs,f=>∃ f1 f2,(∀ b,f b ↔ f1 b∨f2 b)∧(∀ b,f1 b→¬ f2 b)∧r.deps = []∧r.holds tau0 w f1 y∧stars w y rs f2
theorem stars.mono {w y w' y'} (h:Ev w y w' y'):∀ {rs:List RS} {f:Ys},(∀ b,f b→w'.heap[b]? = w.heap[b]?)→stars w y rs f→stars w' y' rs f
 | [],f,_,k=>k
 | r :: rs,f,hf,⟨f1,f2,h1,h2,h3,h4,h5⟩=>⟨f1,f2,h1,h2,h3,RS.mono h (fun b hb=>hf b ((h1 b).2 (.inl hb))) (fun _ _=>rfl) h4,stars.mono h (fun b hb=>hf b ((h1 b).2 (.inr hb))) h5⟩
def HP.star (rs:List RS):HP:=⟨fun w f y=>stars w y rs f,fun h hf k=>stars.mono h hf k⟩
def HP.ex {α:Type} (g:α→HP):HP:=⟨fun w f y=>∃ x,(g x).p w f y,fun h hf ⟨x,k⟩=>⟨x,(g x).st h hf k⟩⟩
def HP.and (c:Prop) (g:HP):HP:=⟨fun w f y=>c∧g.p w f y,fun h hf ⟨x,k⟩=>⟨x,g.st h hf k⟩⟩
section
variable {B:ZaV} {E:En} {a:Act} {w:World} {F:Fp}
theorem Sat.repart {R:List (Nat×RS)} (h:Sat B E a w F) (F':Fp) (hU:∀ b,U F' b ↔ U F b) (hdis:∀ n m b,F' n b→F' m b→n=m) (hr:∀ n r,look R n=some r→r.holds (Act.tau a) w (F' n) (U F))
  (hem:∀ n b,F' n b → ∃ r,look R n=some r):Sat B ⟨E.s,R⟩ a w F':=by
 have e:U F' = U F:=by funext b;exact propext (hU b)
 refine ⟨⟨hdis,fun n b hb=>?_⟩,by rw [e];exact h.ev,h.n,h.df,fun i s hl=>by rw [e];exact h.s i s hl,fun n r hl=>by rw [e];exact hr n r hl,hem⟩
 obtain ⟨m,hm⟩:=(hU b).1 ⟨n,hb⟩
 exact h.wf.bd m b hm
theorem Sat.open_ex {α:Type} {g:α→HP} (h:Sat B E a w F) (n:Nat) (hl:look E.r n=some (RS.hp (HP.ex g))):∃ x,Sat B ⟨E.s,(n,RS.hp (g x)) :: E.r⟩ a w F:=by
 obtain ⟨x,hx⟩:=h.r n _ hl
 refine ⟨x,h.repart F (fun _=>Iff.rfl) h.wf.dis (fun m r hm=>?_) (fun m b hb=>?_)⟩
 ·rw [Zf] at hm
  split at hm
  ·rename_i e;simp at hm;subst hm;subst e;exact hx
  ·exact h.r m r hm
 ·rw [Zf]
  by_cases e:n=m
  ·exact ⟨_,Ye e⟩
  ·rw [Yb e];exact h.em m b hb
theorem Sat.open_and {c:Prop} {g:HP} (h:Sat B E a w F) (n:Nat) (hl:look E.r n=some (RS.hp (HP.and c g))):c∧Sat B ⟨E.s,(n,RS.hp g) :: E.r⟩ a w F:=by
 obtain ⟨x,hx⟩:=h.r n _ hl
 refine ⟨x,h.repart F (fun _=>Iff.rfl) h.wf.dis (fun m r hm=>?_) (fun m b hb=>?_)⟩
 ·rw [Zf] at hm
  split at hm
  ·rename_i e;simp at hm;subst hm;subst e;exact hx
  ·exact h.r m r hm
 ·rw [Zf]
  by_cases e:n=m
  ·exact ⟨_,Ye e⟩
  ·rw [Yb e];exact h.em m b hb
theorem Sat.turn {r r':RS} (h:Sat B E a w F) (n:Nat) (hl:look E.r n=some r) (hr:∀ τ w f y,r.holds τ w f y→r'.holds τ w f y):Sat B ⟨E.s,(n,r') :: E.r⟩ a w F:=by
 refine h.repart F (fun _=>Iff.rfl) h.wf.dis (fun m r hm=>?_) (fun m b hb=>?_)
 ·rw [Zf] at hm
  split at hm
  ·rename_i e;simp at hm;subst hm;subst e;exact hr _ _ _ _ (h.r n _ hl)
  ·exact h.r m r hm
 ·rw [Zf]
  by_cases e:n=m
  ·exact ⟨_,Ye e⟩
  ·rw [Yb e];exact h.em m b hb
theorem Sat.peel {r:RS} {rs:List RS} (h:Sat B E a w F) (n i:Nat) (hl:look E.r n=some (RS.hp (HP.star (r :: rs)))) (hi:look E.r i=none):∃ F',Sat B ⟨E.s,(i,r) :: (n,RS.hp (HP.star rs)) :: E.r⟩ a w F':=by
 obtain ⟨f1,f2,h1,h2,h3,h4,h5⟩:=h.r n _ hl
 have hni:n≠i:=fun e=>by subst e;rw [hl] at hi;cases hi
 have hFi:∀ b,¬ F i b:=fun b hb=>by obtain ⟨r,hr⟩:=h.em i b hb;rw [hi] at hr;cases hr
 have hd1:∀ m b,f1 b→F m b→m=n:=fun m b hb hm=>h.wf.dis m n b hm ((h1 b).2 (.inl hb))
 have hd2:∀ m b,f2 b→F m b→m=n:=fun m b hb hm=>h.wf.dis m n b hm ((h1 b).2 (.inr hb))
 refine ⟨fun m=>if m=i then f1 else if m=n then f2 else F m,h.repart _ (fun b=>⟨?_,?_⟩) ?_ (fun m r' hm=>?_) (fun m b hb=>?_)⟩
 ·rintro ⟨m,hm⟩
  by_cases e1:m=i
  ·simp only [e1,Yx] at hm;exact ⟨n,(h1 b).2 (.inl hm)⟩
  ·by_cases e2:m=n
   ·simp only [e1,Yt,e2,Yx] at hm
    simp only [hni,Yt] at hm
    exact ⟨n,(h1 b).2 (.inr hm)⟩
   ·simp only [e1,Yt,e2] at hm;exact ⟨m,hm⟩
 ·rintro ⟨m,hm⟩
  by_cases e2:m=n
  ·subst e2
   rcases (h1 b).1 hm with k | k
   ·exact ⟨i,by simpa using k⟩
   ·exact ⟨m,by simp only [hni,Yt,Yx];exact k⟩
  ·have e1:m≠i:=fun e=>hFi b (e ▸ hm)
   exact ⟨m,by simp only [e1,e2,Yt];exact hm⟩
 ·intro m k b hm hk
  by_cases e1:m=i <;> by_cases e2:k=i
  ·rw [e1,e2]
  ·simp only [e1,Yx] at hm
   simp only [e2,Yt] at hk
   by_cases e3:k=n
   ·simp only [e3,Yx] at hk;exact absurd hk (h2 b hm)
   ·simp only [e3,Yt] at hk;exact absurd (hd1 k b hm hk) e3
  ·simp only [e2,Yx] at hk
   simp only [e1,Yt] at hm
   by_cases e3:m=n
   ·simp only [e3,Yx] at hm;exact absurd hm (h2 b hk)
   ·simp only [e3,Yt] at hm;exact absurd (hd1 m b hk hm) e3
  ·simp only [e1,e2,Yt] at hm hk
   by_cases e3:m=n <;> by_cases e4:k=n
   ·rw [e3,e4]
   ·simp only [e3,Yx,e4,Yt] at hm hk;exact absurd (hd2 k b hm hk) e4
   ·simp only [e3,Yt,e4,Yx] at hm hk;exact absurd (hd2 m b hk hm) e3
   ·simp only [e3,e4,Yt] at hm hk;exact h.wf.dis m k b hm hk
 ·rw [Zf] at hm
  split at hm
  ·rename_i e;simp at hm;subst hm;subst e;simp only [Yx];exact RS.closed h3 h4
  ·rename_i e
   have e':m≠i:=fun k=>e k.symm
   rw [Zf] at hm
   split at hm
   ·rename_i e2;simp at hm;subst hm;subst e2;simp only [e',Yt,Yx];exact h5
   ·rename_i e2
    have e2':m≠n:=fun k=>e2 k.symm
    simp only [e',e2',Yt];exact h.r m r' hm
 ·rw [Zf,Zf]
  by_cases e1:i=m
  ·exact ⟨_,Ye e1⟩
  ·rw [Yb e1]
   by_cases e2:n=m
   ·exact ⟨_,Ye e2⟩
   ·rw [Yb e2]
    have e1':m≠i:=fun k=>e1 k.symm
    have e2':m≠n:=fun k=>e2 k.symm
    simp only [e1',e2',Yt] at hb
    exact h.em m b hb
theorem Sat.push {r:RS} {rs:List RS} (h:Sat B E a w F) (n i:Nat) (hn:look E.r n=some (RS.hp (HP.star rs))) (hi:look E.r i=some r) (hne:Nat.beq n i=false) (hd:ZdF r.deps=true):∃ F',Sat B ⟨E.s,(n,RS.hp (HP.star (r :: rs))) :: (i,RS.hp (HP.star [])) :: E.r⟩ a w F':=by
 have hni:n≠i:=fun e=>by subst e;simp at hne
 have k1:=h.r n _ hn
 have k2:=h.r i _ hi
 refine ⟨fun m=>if m=n then fun b=>F i b∨F n b else if m=i then fun _=>False else F m,h.repart _ (fun b=>⟨?_,?_⟩) ?_ (fun m r' hm=>?_) (fun m b hb=>?_)⟩
 ·rintro ⟨m,hm⟩
  by_cases e1:m=n
  ·simp only [e1,Yx] at hm
   rcases hm with hm | hm
   ·exact ⟨i,hm⟩
   ·exact ⟨n,hm⟩
  ·by_cases e2:m=i
   ·simp only [e1,Yt,e2,Yx] at hm
    have:i≠n:=fun k=>hni k.symm
    simp only [this,Yt] at hm
   ·simp only [e1,e2,Yt] at hm;exact ⟨m,hm⟩
 ·rintro ⟨m,hm⟩
  by_cases e1:m=n
  ·subst e1;exact ⟨m,by simp only [Yx];exact .inr hm⟩
  ·by_cases e2:m=i
   ·subst e2;exact ⟨n,by simp only [Yx];exact .inl hm⟩
   ·exact ⟨m,by simp only [e1,e2,Yt];exact hm⟩
 ·intro m k b hm hk
  have hx:∀ m,(if m=n then fun b=>F i b∨F n b else if m=i then fun _=>False else F m) b→(m=n∧(F i b∨F n b))∨(m≠n∧m≠i∧F m b):=by
   intro m hm
   by_cases e1:m=n
   ·simp only [e1,Yx] at hm;exact .inl ⟨e1,hm⟩
   ·by_cases e2:m=i
    ·simp only [e1,Yt,e2,Yx] at hm
     have:i≠n:=fun k=>hni k.symm
     simp only [this,Yt] at hm
    ·simp only [e1,e2,Yt] at hm;exact .inr ⟨e1,e2,hm⟩
  rcases hx m hm with ⟨rfl,h1⟩ | ⟨h1,h2,h3⟩ <;> rcases hx k hk with ⟨rfl,h4⟩ | ⟨h4,h5,h6⟩
  ·rfl
  ·rcases h1 with h1 | h1
   ·exact absurd (h.wf.dis k i b h6 h1) h5
   ·exact absurd (h.wf.dis k m b h6 h1) h4
  ·rcases h4 with h4 | h4
   ·exact absurd (h.wf.dis m i b h3 h4) h2
   ·exact absurd (h.wf.dis m k b h3 h4) h1
  ·exact h.wf.dis m k b h3 h6
 ·rw [Zf] at hm
  split at hm
  ·rename_i e
   simp at hm;subst hm;subst e
   simp only [Yx]
   exact ⟨F i,F n,fun b=>Iff.rfl,fun b h1 h2=>hni (h.wf.dis n i b h2 h1),Zb0 hd,RS.closed (Zb0 hd) k2,k1⟩
  ·rename_i e
   have e':m≠n:=fun k=>e k.symm
   rw [Zf] at hm
   split at hm
   ·rename_i e2;simp at hm;subst hm;subst e2
    simp only [e',Yt,Yx]
    intro b hb;exact hb
   ·rename_i e2
    have e2':m≠i:=fun k=>e2 k.symm
    simp only [e',e2',Yt];exact h.r m r' hm
 ·rw [Zf,Zf]
  by_cases e1:n=m
  ·exact ⟨_,Ye e1⟩
  ·rw [Yb e1]
   by_cases e2:i=m
   ·exact ⟨_,Ye e2⟩
   ·rw [Yb e2]
    have e1':m≠n:=fun k=>e1 k.symm
    have e2':m≠i:=fun k=>e2 k.symm
    simp only [e1',e2',Yt] at hb
    exact h.em m b hb
theorem Sat.fresh (h:Sat B E a w F) (n:Nat) (hn:look E.r n=none):Sat B ⟨E.s,(n,RS.hp (HP.star [])) :: E.r⟩ a w F:=by
 have hF:∀ b,¬ F n b:=fun b hb=>by obtain ⟨r,hr⟩:=h.em n b hb;rw [hn] at hr;cases hr
 refine h.repart F (fun _=>Iff.rfl) h.wf.dis (fun m r hm=>?_) (fun m b hb=>?_)
 ·rw [Zf] at hm
  split at hm
  ·rename_i e;simp at hm;subst hm;subst e;exact hF
  ·exact h.r m r hm
 ·rw [Zf]
  by_cases e:n=m
  ·exact ⟨_,Ye e⟩
  ·rw [Yb e];exact h.em m b hb
end
def FnG (P:Program) (f:FuncId) (m:Nat) (args:List PV) (pr:List HP) (q:PV) (qr:Value→List HP):Prop:=
 ∀ (w:World) (F:Fp) (vs:List Value),Wf F w→(∀ n b,F n b→n≤m)→PVt args vs w (U F)→(∀ i (h:HP),pr[i]? = some h→h.p w (F (i+1)) (U F)) →
  Calls P f vs.toArray w fun e w'=>∃ v F',e = .returned v∧Wf F' w' ∧ Stp (List.range' 1 m) w F w' F' ∧ (∀ n b,F' n b→n≤m)∧q.p v w' (U F') ∧ ∀ i (h:HP),(qr v)[i]? = some h→h.p w' (F' (i+1)) (U F')
def RG (B:ZaV) (F0:Fp) (m:Nat) (q:PV) (qr:Value→List HP) (e:Ending) (w':World):Prop:=
 ∃ v F',e = .returned v∧Wf F' w' ∧ Stp (List.range' 1 m) B.w F0 w' F' ∧ (∀ n b,F' n b→n≤m)∧q.p v w' (U F') ∧ ∀ i (h:HP),(qr v)[i]? = some h→h.p w' (F' (i+1)) (U F')
def Zfg:List HP→Nat→List (Nat×RS)
 | [],_=>[]
 | h :: hs,i=>(i,RS.hp h) :: Zfg hs (i+1)
theorem Zfm:∀ {hs:List HP} {k n:Nat} {r:RS},look (Zfg hs k) n=some r → ∃ h,k≤n∧hs[n - k]? = some h∧r=RS.hp h
 | [],k,n,r,h=>by simp [Zfg,look] at h
 | h :: hs,k,n,r,hl=>by
  simp only [Zfg] at hl
  rw [Zf] at hl
  by_cases e:k=n
  ·subst e;simp at hl;subst hl;exact ⟨h,YF _,by simp,rfl⟩
  ·rw [Yb e] at hl
   obtain ⟨h',h1,h2,h3⟩:=Zfm hl
   exact ⟨h',ow,by rw [show n - k=(n - (k+1))+1 by omega];simpa using h2,h3⟩
theorem Ze3:∀ {hs:List HP} {k n:Nat} {h:HP},k≤n→hs[n - k]? = some h→look (Zfg hs k) n=some (RS.hp h)
 | [],k,n,h,_,h2=>by simp at h2
 | x :: hs,k,n,h,h1,h2=>by
  simp only [Zfg]
  rw [Zf]
  by_cases e:k=n
  ·subst e;simp at h2;subst h2;simp
  ·rw [Yb e]
   exact Ze3 ow (by rw [show n - k=(n - (k+1))+1 by omega] at h2;simpa using h2)
structure Zoj (B:ZaV) (F0:Fp) (m:Nat):Prop where
 y:B.y=U F0
 fr:B.fr=F0 0
 le:∀ n b,F0 n b→n≤m
theorem FnG.mk {P:Program} {f:FuncId} {m:Nat} {args:List PV} {pr:List HP} {q:PV} {qr:Value→List HP} {fn:Func} {c:Code} {n:Nat} (hf:P.funcs[f]? = some fn) (hb:fn.body=some c) (hn:fn.ntmps=n) (ha:Nat.ble args.length n=true) (hm:Nat.beq pr.length m=true)
  (h:∀ B F0 a w F,B.n=n→Zoj B F0 m→Sat B ⟨ZgV args 0,(0,frame B) :: Zfg pr 1⟩ a w F→c.wp P (bodyPost P fn (RG B F0 m q qr)) a w):FnG P f m args pr q qr:=fun w F vs hw hle hvs hpr=>by
 have hl:=hvs.len
 have hlen:vs.length≤n:=by rw [← hl];exact Yak ha
 have hmm:pr.length=m:=Y5 hm
 refine calls_of_wp hf hb (h ⟨w,U F,F 0,n⟩ F _ w F rfl ⟨rfl,rfl,hle⟩ ?_)
 refine ⟨hw,Ev.refl w _,?_,rfl,fun i s hs=>?_,fun i r hr=>?_,fun i b hi=>?_⟩
 ·subst hn;simp;omega
 ·obtain ⟨v,h1,h2,h3⟩:=Zc7 hvs hs
  have:Act.tau { tmps:=vs.toArray++Array.replicate (fn.ntmps - vs.toArray.size) undef,defers:=[] } i=v:=by
   simp only [YbR] at h2
   have hi:i<vs.length:=(YH.1 h2).1
   have h2':vs[i] = v:=by simpa [hi] using h2
   simp [Act.tau,Array.getElem?_append,hi,h2']
  rw [this];exact h3 _
 ·rw [Zf] at hr
  by_cases e:0=i
  ·subst e
   simp at hr
   subst hr
   exact ⟨fun b=>Iff.rfl,fun b _=>rfl⟩
  ·rw [Yb e] at hr
   obtain ⟨h',h1,h2,rfl⟩:=Zfm hr
   have:=hpr (i - 1) h' h2
   rw [show i - 1+1=i by omega] at this
   exact this
 ·by_cases e:0=i
  ·exact ⟨frame ⟨w,U F,F 0,n⟩,by rw [Zf,Ye e]⟩
  ·have h1:=hle i b hi
   have hlt:i - 1<pr.length:=ow
   exact ⟨RS.hp pr[i - 1],by rw [Zf,Yb e];exact Ze3 ow XZ⟩
theorem Zs7 {P:Program} {B:ZaV} {F0:Fp} {m:Nat} (hG:Zoj B F0 m) {E:En} {a:Act} {w:World} {F:Fp} {fn:Func} {q:PV} {qr:Value→List HP} {ss:List SF} (G:Sat B E a w F) (h0:look E.r 0=some (frame B)) (hr:ROk P E fn.results.toList ss) (hq:ZaB ss q)
  (hqr:∀ v τ y,(∃ vs,v=ZiK vs∧SFt τ w y ss vs) → ∀ i (h:HP),(qr v)[i]? = some h → ∃ r,look E.r (i+1)=some r∧i+1≤m ∧ ∀ w f y,r.holds (Act.tau a) w f y→h.p w f y) :
  bodyPost P fn (RG B F0 m q qr) .ret a w:=by
 obtain ⟨vs,h1,h2⟩:=hr.run G
 have hf:(frame B).holds (Act.tau a) w (F 0) (U F):=G.r 0 _ h0
 have hle:∀ b,U (fun n b=>n≤m∧F n b) b→U F b:=fun b ⟨n,hn⟩=>⟨n,hn.2⟩
 have hev:=Ev.less w hle
 have hold:∀ b,b<B.w.heap.size→¬ U F0 b→w.heap[b]? = B.w.heap[b]? ∧ ¬ U F b:=fun b hb hn=>by
  have:=G.ev.block b hb (by rw [hG.y];exact hn)
  exact this
 refine bodyPost_ret (Zgn h2) G.df ⟨_,fun n b=>n≤m∧F n b,rfl,⟨fun n k b hn hk=>G.wf.dis n k b hn.2 hk.2,fun n b hn=>G.wf.bd n b hn.2⟩,?_,fun n b hn=>hn.1,q.mono hev (hq _ _ _ _ h1),fun i h hi=>?_⟩
 ·refine ⟨G.ev.os,G.ev.tape,G.ev.output,G.ev.size,fun b hb hn=>?_,fun n hn=>?_,fun n hn b hb=>?_⟩
  ·by_cases e:F0 0 b
   ·exact hf.2 b ((hf.1 b).2 (by rw [hG.fr];exact e))
   ·refine (hold b hb ?_).1
    rintro ⟨k,hk⟩
    have:=hG.le k b hk
    by_cases e0:k=0
    ·subst e0;exact e hk
    ·exact hn k (by rw [Ya1];omega) hk
  ·funext b
   rw [Ya1] at hn
   by_cases e0:n=0
   ·subst e0
    refine propext ⟨fun h=>?_,fun h=>⟨YA _,?_⟩⟩
    ·have:=(hf.1 b).1 h.2;rw [hG.fr] at this;exact this
    ·exact (hf.1 b).2 (by rw [hG.fr];exact h)
   ·refine propext ⟨fun h=>?_,fun h=>?_⟩
    ·have:=h.1;omega
    ·have:=hG.le n b h;omega
  ·by_cases hlt:b<B.w.heap.size
   ·left
    rw [Ya1] at hn
    by_cases hu:U F0 b
    ·obtain ⟨k,hk⟩:=hu
     have hkm:=hG.le k b hk
     by_cases e0:k=0
     ·subst e0
      have h00:F 0 b:=(hf.1 b).2 (by rw [hG.fr];exact hk)
      have:=G.wf.dis n 0 b hb.2 h00
      omega
     ·exact ⟨k,by rw [Ya1];omega,hk⟩
    ·exact absurd ⟨n,hb.2⟩ (hold b hlt hu).2
   ·right;omega
 ·obtain ⟨r,h3,h4,h5⟩:=hqr _ _ _ ⟨vs,rfl,h1⟩ i h hi
  have k:=G.r (i+1) r h3
  have e:(fun b=>i+1≤m∧F (i+1) b)=F (i+1):=by funext b;simp only [h4,true_and]
  show h.p w (fun b=>i+1≤m∧F (i+1) b) _
  rw [e]
  exact h.st hev (fun _ _=>rfl) (h5 _ _ _ k)
end Go.Gm
namespace Go.Gm
set_option linter.unusedVariables false
set_option linter.unusedSimpArgs false
open Go.RowKit
def idx (l:List Nat) (n:Nat) (k:Nat):Nat:=match l with
 | []=>0
 | x :: l=>if x=n then k else idx l n (k+1)
theorem ZhM:∀ {l:List Nat} {n k i:Nat},l.Nodup→l[i]? = some n→idx l n k=k+i
 | [],n,k,i,_,h=>by simp at h
 | x :: l,n,k,0,_,h=>by simp at h;subst h;simp [idx]
 | x :: l,n,k,i+1,hd,h=>by
  simp only [idx]
  have hn:n ∈ l:=by rw [List.getElem?_cons_succ] at h;exact Ybr h
  have hne:x≠n:=fun e=>by subst e;exact (YaT.1 hd).1 hn
  rw [Yb hne,ZhM (YaT.1 hd).2 XL]
  omega
def ZbT (F:Fp) (is:List Nat):Fp:=fun n b=>(n=0 ∧ ∃ k,k ∉ is∧F k b)∨(n≠0 ∧ ∃ k,is[n - 1]? = some k∧F k b)
theorem ZlY {F:Fp} {is:List Nat} (b:Nat):U (ZbT F is) b ↔ U F b:=by
 constructor
 ·rintro ⟨n,⟨_,k,_,hk⟩ | ⟨_,k,_,hk⟩⟩
  ·exact ⟨k,hk⟩
  ·exact ⟨k,hk⟩
 ·rintro ⟨k,hk⟩
  by_cases h:k ∈ is
  ·obtain ⟨i,hi⟩:=YaQ.1 h
   exact ⟨i+1,.inr ⟨ow,k,by simpa using hi,hk⟩⟩
  ·exact ⟨0,.inl ⟨rfl,k,h,hk⟩⟩
theorem ZnD {F:Fp} {is:List Nat} {w:World} (hd:is.Nodup) (hw:Wf F w):Wf (ZbT F is) w:=by
 refine ⟨fun n m b hn hm=>?_,fun n b hn=>?_⟩
 ·rcases hn with ⟨rfl,k,h1,h2⟩ | ⟨hn,k,h1,h2⟩ <;> rcases hm with ⟨rfl,k',h3,h4⟩ | ⟨hm,k',h3,h4⟩
  ·rfl
  ·have:=hw.dis k k' b h2 h4
   subst this
   exact absurd (Ybr h3) h1
  ·have:=hw.dis k k' b h2 h4
   subst this
   exact absurd (Ybr h1) h3
  ·have:=hw.dis k k' b h2 h4
   subst this
   have h5:=ZhM (k:=0) hd h1
   have h6:=ZhM (k:=0) hd h3
   omega
 ·obtain ⟨k,hk⟩:=(ZlY (F:=F) (is:=is) b).1 ⟨n,hn⟩
  exact hw.bd k b hk
theorem Zme {F:Fp} {is:List Nat} {i k:Nat} (h:is[i]? = some k):ZbT F is (i+1)=F k:=by
 funext b
 refine propext ⟨?_,fun hb=>.inr ⟨ow,k,by simpa using h,hb⟩⟩
 rintro (⟨h0,_⟩ | ⟨_,k',h1,h2⟩)
 ·omega
 ·simp only [Nat.add_sub_cancel] at h1
  rw [h] at h1
  simp at h1
  subst h1;exact h2
theorem Zki {F:Fp} {is:List Nat} {b:Nat} : ZbT F is 0 b ↔ ∃ k,k ∉ is∧F k b:=by
 refine ⟨?_,fun h=>.inl ⟨rfl,h⟩⟩
 rintro (⟨_,h⟩ | ⟨h0,_⟩)
 ·exact h
 ·exact absurd rfl h0
theorem ZnS {F:Fp} {is:List Nat} {n b:Nat} (h:ZbT F is n b):n≤is.length:=by
 rcases h with ⟨rfl,_⟩ | ⟨h0,k,h1,_⟩
 ·omega
 ·have:=(YH.1 h1).1
  omega
def Zkq (F:Fp) (is:List Nat) (Fc':Fp):Fp:=fun n=>if n ∈ is then Fc' (idx is n 1) else F n
section
variable {P:Program} {d:Option Nat} {ty:TypeId} {pos:String} {af:Array Edge} {g:Option (Nat×Bool)}
theorem Zpo {f:FuncId} {op:Op} {d':Nat} {ps:List (Nat×SF)} {m:Nat} {avs:List PV} {pr:List HP} {q:PV} {qr:Value→List HP} {is:List Nat} {prs qrs:List (Nat×RS)} {s:SF}
  (hc:FnG P f m avs pr q qr)
  (hrn:∀ (a:Act) w y,Hps ps (Act.tau a) w y → ∃ vs:List Value,(execOp a.eval ⟨some d',op,ty,pos,af,g⟩).run P w = .ok (.enter f vs.toArray) w∧PVt avs vs w y)
  (hl:is.length=m) (hd:is.Nodup) (hps:∀ τ w F,Hpr prs τ w F → ∀ (i:Nat) (h:HP),pr[i]? = some h → ∃ k,is[i]? = some k∧h.p w (F k) (U F))
  (hs:∀ τ w y v,q.p v w y→s.holds (upd τ (some d') v) w y v)
  (hqs:∀ x ∈ qrs,∃ i:Nat,is[i]? = some x.1 ∧ ∀ v τ w f y,(∃ h:HP,(qr v)[i]? = some h∧h.p w f y)→x.2.holds (upd τ (some d') v) w f y) (hW:qrs.map (·.1)=is) (hql:∀ v,(qr v).length=m) :
  OpC P ⟨some d',op,ty,pos,af,g⟩ ⟨ps,prs,s,qrs⟩:=fun a w F K Q hw hp hr ht=>by
 obtain ⟨vs,hrun,hvs⟩:=hrn a w (U F) hp
 simp only [Oper.wp,hrun,Oper.upon]
 have hUc:U (ZbT F is)=U F:=by funext b;exact propext (ZlY b)
 have hcF:∀ i k,is[i]? = some k→ZbT F is (i+1)=F k:=fun i k hk=>Zme hk
 refine (hc w (ZbT F is) vs (ZnD hd hw) (fun n b hn=>?_) (by rw [hUc];exact hvs) (fun i h hi=>?_)).mono ?_
 ·rw [← hl];exact ZnS hn
 ·obtain ⟨k,h1,h2⟩:=hps _ _ _ hr i h hi
  rw [hUc,hcF i k h1];exact h2
 rintro e' w' ⟨v,Fc',rfl,hwf',hst,hle',hq,hqr⟩
 have hc0:Fc' 0=ZbT F is 0:=hst.fkeep 0 (by rw [Ya1];omega)
 have hc00:∀ b,ZbT F is 0 b ↔ ∃ k,k ∉ is∧F k b:=fun b=>Zki
 have hback:∀ i k,is[i]? = some k→Zkq F is Fc' k=Fc' (i+1):=by
  intro i k hk
  unfold Zkq
  rw [Ye (Ybr hk),ZhM hd hk,YbC]
 have hout:∀ k,k ∉ is→Zkq F is Fc' k=F k:=fun k hk=>by unfold Zkq;rw [Yb hk]
 have hU':U (Zkq F is Fc')=U Fc':=by
  funext b
  refine propext ⟨?_,?_⟩
  ·rintro ⟨k,hk⟩
   by_cases h:k ∈ is
   ·obtain ⟨i,hi⟩:=YaQ.1 h
    rw [hback i k hi] at hk;exact ⟨i+1,hk⟩
   ·rw [hout k h] at hk
    exact ⟨0,by rw [hc0,hc00];exact ⟨k,h,hk⟩⟩
  ·rintro ⟨n,hn⟩
   by_cases e0:n=0
   ·subst e0
    rw [hc0,hc00] at hn
    obtain ⟨k,h,hk⟩:=hn
    exact ⟨k,by rw [hout k h];exact hk⟩
   ·have hnm:=hle' n b hn
    have hlt:n - 1<is.length:=ow
    refine ⟨is[n - 1],?_⟩
    rw [hback (n - 1) _ XZ,show n - 1+1=n by omega];exact hn
 have hwfb:Wf (Zkq F is Fc') w':=by
  refine ⟨fun n k b hn hk=>?_,fun n b hn=>?_⟩
  ·by_cases h1:n ∈ is <;> by_cases h2:k ∈ is
   ·obtain ⟨i,hi⟩:=YaQ.1 h1
    obtain ⟨j,hj⟩:=YaQ.1 h2
    rw [hback i n hi] at hn
    rw [hback j k hj] at hk
    have:=hwf'.dis _ _ b hn hk
    have e:i=j:=ow
    subst e
    rw [hi] at hj;simpa using hj
   ·obtain ⟨i,hi⟩:=YaQ.1 h1
    rw [hback i n hi] at hn
    rw [hout k h2] at hk
    have h0:Fc' 0 b:=by rw [hc0,hc00];exact ⟨k,h2,hk⟩
    have:=hwf'.dis _ _ b hn h0
    omega
   ·obtain ⟨j,hj⟩:=YaQ.1 h2
    rw [hback j k hj] at hk
    rw [hout n h1] at hn
    have h0:Fc' 0 b:=by rw [hc0,hc00];exact ⟨n,h1,hn⟩
    have:=hwf'.dis _ _ b hk h0
    omega
   ·rw [hout n h1] at hn
    rw [hout k h2] at hk
    exact hw.dis n k b hn hk
  ·have:U Fc' b:=by rw [← hU'];exact ⟨n,hn⟩
   obtain ⟨k,hk⟩:=this
   exact hwf'.bd k b hk
 have hWis:CD.W ⟨ps,prs,s,qrs⟩ = is:=hW
 have hstp:Stp (CD.W ⟨ps,prs,s,qrs⟩) w F w' (Zkq F is Fc'):=by
  rw [hWis]
  refine ⟨hst.os,hst.tape,hst.output,hst.size,fun b hb hn=>hst.keep b hb (fun n hn' hnb=>?_),fun n hn=>hout n hn,fun n hn b hb=>?_⟩
  ·rw [Ya1] at hn'
   have hlt:n - 1<is.length:=ow
   have e1:=hcF (n - 1) is[n - 1] XZ
   rw [show n - 1+1=n by omega] at e1
   rw [e1] at hnb
   exact hn _ (YaL hlt) hnb
  ·obtain ⟨i,hi⟩:=YaQ.1 hn
   rw [hback i n hi] at hb
   have him:=(YH.1 hi).1
   rcases hst.fnew (i+1) (by rw [Ya1];omega) b hb with ⟨k,hk,hkb⟩ | h'
   ·rw [Ya1] at hk
    have hlt:k - 1<is.length:=ow
    have e1:=hcF (k - 1) is[k - 1] XZ
    rw [show k - 1+1=k by omega] at e1
    rw [e1] at hkb
    exact .inl ⟨_,YaL hlt,hkb⟩
   ·exact .inr h'
 refine ht v w' _ hwfb hstp ?_ ?_
 ·rw [hU'];exact hs _ _ _ _ hq
 ·intro x hx
  obtain ⟨i,h1,h2⟩:=hqs x hx
  rw [hU']
  have him:=(YH.1 h1).1
  have hlt:i<(qr v).length:=by rw [hql];omega
  refine h2 v _ _ _ _ ⟨(qr v)[i],by simp [hlt],?_⟩
  rw [hback i x.1 h1]
  exact hqr i _ XZ
theorem ZdX {f:FuncId} {args:Array Operand} {tys:Array TypeId} {d':Nat} {ps:List (Nat×SF)} {m:Nat} {avs:List PV} {pr:List HP} {q:PV} {qr:Value→List HP} {fn:Func} {is:List Nat} {prs qrs:List (Nat×RS)} {s:SF}
    (hc : FnG P f m avs pr q qr) (hf : P.funcs[f]? = some fn) (hb : fn.body.isSome = true) (hn : (fn.name == "runtime.NumGoroutine") = false)
    (ha:∀ (a:Act) w y,Hps ps (Act.tau a) w y → ∃ vs:List Value,args.map a.eval=vs.toArray∧PVt avs vs w y)
    (hl:is.length=m) (hd:is.Nodup) (hps:∀ τ w F,Hpr prs τ w F → ∀ (i:Nat) (h:HP),pr[i]? = some h → ∃ k,is[i]? = some k∧h.p w (F k) (U F))
    (hs:∀ τ w y v,q.p v w y→s.holds (upd τ (some d') v) w y v)
    (hqs:∀ x ∈ qrs,∃ i:Nat,is[i]? = some x.1 ∧ ∀ v τ w f y,(∃ h:HP,(qr v)[i]? = some h∧h.p w f y)→x.2.holds (upd τ (some d') v) w f y) (hW:qrs.map (·.1)=is) (hql:∀ v,(qr v).length=m) :
    OpC P ⟨some d',.call { callee:=.value (.func f),args:=args,argTypes:=tys },ty,pos,af,g⟩ ⟨ps,prs,s,qrs⟩:=
  Zpo hc (fun a w y hp=>by
    obtain ⟨vs,e,hvs⟩:=ha a w y hp
    have hbn:fn.body≠none:=Kd
    have hn' : fn.name ≠ "runtime.NumGoroutine" := by intro h; rw [h] at hn; simp at hn
    have e2:a.eval (.func f) = .func (.func f) #[] #[]:=rfl
    exact ⟨vs,by simp [execOp,resolve,e,e2,Deferred.ofValue,invoke,callFunc,hf,hn',hbn],hvs⟩) hl hd hps hs hqs hW hql
theorem o_callG1 {f:FuncId} {args:Array Operand} {tys:Array TypeId} {d':Nat} {ps:List (Nat×SF)} {avs:List PV} {h h':HP} {q:PV} {fn:Func} (n:Nat)
    (hc : FnG P f 1 avs [h] q (fun _ => [h'])) (hf : P.funcs[f]? = some fn) (hb : fn.body.isSome = true) (hn : (fn.name == "runtime.NumGoroutine") = false)
    (ha:∀ (a:Act) w y,Hps ps (Act.tau a) w y → ∃ vs:List Value,args.map a.eval=vs.toArray∧PVt avs vs w y) :
    OpC P ⟨some d',.call { callee:=.value (.func f),args:=args,argTypes:=tys },ty,pos,af,g⟩ ⟨ps,[(n,RS.hp h)],.pv q,[(n,RS.hp h')]⟩:=
  ZdX (is:=[n]) hc hf hb hn ha rfl XM (fun τ w F hr i x hi=>by
      match i,hi with
      | 0,hi=>simp at hi;subst hi;exact ⟨n,rfl,hr (n,RS.hp h) XM⟩)
    (fun _ _ _ _ h=>h) (fun x hx=>by
      simp only [Yn] at hx
      subst hx
      exact ⟨0,rfl,fun v τ w f y ⟨k,hk,hp⟩=>by simp at hk;subst hk;exact hp⟩) rfl (fun _=>rfl)
theorem ZbS {f:FuncId} {args:Array Operand} {tys:Array TypeId} {d':Nat} {ps:List (Nat×SF)} {avs:List PV} {h':Value→HP} {q:PV} {fn:Func} (n:Nat)
    (hc : FnG P f 1 avs [HP.star []] q (fun v => [h' v])) (hf : P.funcs[f]? = some fn) (hb : fn.body.isSome = true) (hn : (fn.name == "runtime.NumGoroutine") = false)
    (ha:∀ (a:Act) w y,Hps ps (Act.tau a) w y → ∃ vs:List Value,args.map a.eval=vs.toArray∧PVt avs vs w y) (h1:∀ v w y,q.p v w y→v.oneCell' = true) :
    OpC P ⟨some d',.call { callee:=.value (.func f),args:=args,argTypes:=tys },ty,pos,af,g⟩ ⟨ps,[(n,RS.hp (HP.star []))],.same d',[(n,RS.ob (.slot d') h')]⟩:=
  ZdX (is:=[n]) hc hf hb hn ha rfl XM (fun τ w F hr i x hi=>by
      match i,hi with
      | 0,hi=>simp at hi;subst hi;exact ⟨n,rfl,hr (n,RS.hp (HP.star [])) XM⟩)
    (fun _ _ _ _ h=>⟨by simp [upd],h1 _ _ _ h⟩) (fun x hx=>by
      simp only [Yn] at hx
      subst hx
      exact ⟨0,rfl,fun v τ w f y ⟨k,hk,hp⟩=>by
        simp at hk;subst hk
        simpa [RS.holds,Anc.v,upd] using hp⟩) rfl (fun _=>rfl)
end
end Go.Gm
namespace Go.Gm
set_option linter.unusedVariables false
set_option linter.unusedSimpArgs false
section
variable {P:Program} {d:Option Nat} {ty:TypeId} {pos:String} {af:Array Edge} {g:Option (Nat×Bool)}
variable {x y:Operand} {ps qs:List (Nat×SF)} {t T:TypeId}
theorem Zs {l:List PV} {i:Nat} {p:PV} (hx:Opd x ps (.pv (.tup l))) (hi:l[i]? = some p):OpC P ⟨d,.extract x i,ty,pos,af,g⟩ ⟨ps,[],.pv p,[]⟩:=
 OpC.pure fun a w yy hp=>by
  obtain ⟨vs,e,h⟩:=hx a w yy hp
  have:∀ {l:List PV} {vs:List Value} {i:Nat} {p:PV},PVt l vs w yy→l[i]? = some p → ∃ v,vs[i]? = some v∧p.p v w yy:=by
   intro l
   induction l with
   | nil=>intro vs i p _ h;simp at h
   | cons q l ih=>
    intro vs i p h hi
    cases vs with
    | nil=>exact h.elim
    | cons v vs=>
     cases i with
     | zero=>simp at hi;subst hi;exact ⟨v,rfl,h.1⟩
     | succ i=>obtain ⟨u,h1,h2⟩:=ih h.2 (i:=i) XP;exact ⟨u,by simpa using h1,h2⟩
  obtain ⟨v,h1,h2⟩:=this h hi
  exact ⟨v,by simp [execOp,Instr.extract,e,h1],fun _ _=>h2⟩
def _root_.Go.Program.places (P:Program) (t:TypeId):Option (List (Nat×Nat)):=match P.underlying t with
 | some (.struct fs)=>fs.toList.mapM fun f=>(P.info? f.type).map fun i=>(f.offset,i.size)
 | _=>none
inductive ZdR (P:Program) (pl:List (Nat×Nat)):List (Nat×Operand)→List (Nat×SF)→List CF→List CF→Prop
 | nil {cs:List CF} : ZdR P pl [] [] cs cs
 | agg {i off sz:Nat} {x:Operand} {r:List (Nat×Operand)} {ps qs:List (Nat×SF)} {l cs cs':List CF} (hp:pl[i]? = some (off,sz)) (hx:Opd x ps (.agg l)) (hl:Nat.beq l.length sz=true) (hk:Nat.ble (off+sz) cs.length=true)
     (hr:ZdR P pl r qs (Zd cs off l) cs'):ZdR P pl ((i,x) :: r) (ps++qs) cs cs'
 | one {i off:Nat} {x:Operand} {r:List (Nat×Operand)} {ps qs:List (Nat×SF)} {p:PV} {cs cs':List CF} (hp:pl[i]? = some (off,1)) (hx:Opd x ps (.pv p)) (h1:∀ v w yy,p.p v w yy→v.oneCell' = true) (hk:Nat.ble (off+1) cs.length=true)
     (hr:ZdR P pl r qs (Zd cs off [.pv p]) cs'):ZdR P pl ((i,x) :: r) (ps++qs) cs cs'
 | same {i off j k:Nat} {r:List (Nat×Operand)} {qs:List (Nat×SF)} {cs cs':List CF} (hp:pl[i]? = some (off,1)) (hk:Nat.ble (off+1) cs.length=true)
     (hr:ZdR P pl r qs (Zd cs off [.same k]) cs'):ZdR P pl ((i,.tmp j) :: r) ((j,.same k) :: qs) cs cs'
theorem Zpj (us:List Value):∀ (vs:Array Value) (off k:Nat),off+k+us.length≤vs.size →
  ((us.zipIdx k).foldl (fun cs (x:Value×Nat)=>cs.setIfInBounds (off+x.2) x.1) vs).toList=vs.toList.take (off+k)++us++vs.toList.drop (off+k+us.length):=by
 induction us with
 | nil=>intro vs off k h;simp
 | cons u us ih=>
  intro vs off k h
  simp only [Yh] at h
  rw [List.zipIdx_cons,Yav,ih _ off (k+1) XT]
  simp only [Array.toList_setIfInBounds]
  have hlt:off+k<vs.toList.length:=XT
  have e1:(vs.toList.set (off+k) u)=vs.toList.take (off+k)++u :: vs.toList.drop (off+k+1):=by
   rw [List.set_eq_take_append_cons_drop,Ye hlt]
  have hl:(vs.toList.take (off+k)).length=off+k:=XT
  have e2:(vs.toList.set (off+k) u).take (off+(k+1))=vs.toList.take (off+k) ++ [u]:=by
   rw [e1,List.take_append,hl,Yaf (l:=vs.toList.take (off+k)) (by rw [hl];omega)]
   rw [show off+(k+1) - (off+k)=1 by omega];simp
  have e3:(vs.toList.set (off+k) u).drop (off+(k+1)+us.length)=vs.toList.drop (off+k+(us.length+1)):=by
   rw [e1,List.drop_append,hl,YaY (l:=vs.toList.take (off+k)) (by rw [hl];omega)]
   rw [show off+(k+1)+us.length - (off+k)=us.length+1 by omega]
   simp only [Yax,List.drop_succ_cons,YbT]
   congr 1;omega
  rw [e2,e3]
  simp
theorem ZeT {pl:List (Nat×Nat)} {place:Nat→Option (Nat×Nat)} (hpl:∀ i q,pl[i]? = some q→place i=some q) {a:Act} {w:World} {yy:Ys} : ∀ {r:List (Nat×Operand)} {ps:List (Nat×SF)} {cs cs':List CF},ZdR P pl r ps cs cs' → Hps ps (Act.tau a) w yy → ∀ (vs:Array Value),CFs (Act.tau a) w yy cs vs.toList →
  ∃ us:Array Value,Instr.fill place vs (r.map fun x=>(x.1,a.eval x.2))=some us∧CFs (Act.tau a) w yy cs' us.toList:=by
 have step:∀ {off sz i:Nat} {v:Value} {l cs:List CF} {news:List Value} {vs:Array Value} {rest:List (Nat×Value)},pl[i]? = some (off,sz)→v.cells=news.toArray→CFs (Act.tau a) w yy l news→l.length=sz→off+sz≤cs.length→CFs (Act.tau a) w yy cs vs.toList →
   ∃ vs':Array Value,Instr.fill place vs ((i,v) :: rest)=Instr.fill place vs' rest∧CFs (Act.tau a) w yy (Zd cs off l) vs'.toList:=by
  intro off sz i v l cs news vs rest hp hv hl hsz hk hc
  have e1:news.length=sz:=by rw [← hl.len];exact hsz
  have e2:off+sz≤vs.size:=by have:=hc.len;simp at this;omega
  refine ⟨(v.cells.zipIdx.foldl (fun cs (x:Value×Nat)=>cs.setIfInBounds (off+x.2) x.1) vs),?_,?_⟩
  ·simp only [Instr.fill,hpl _ _ hp,hv]
   simp [e1]
   intro hc;omega
  ·rw [hv]
   have:=Zpj news vs off 0 ow
   simp only [Ybg] at this
   have e3:(news.toArray.zipIdx.foldl (fun cs (x:Value×Nat)=>cs.setIfInBounds (off+x.2) x.1) vs).toList=vs.toList.take off++news++vs.toList.drop (off+news.length):=by
    rw [← this];simp
   rw [e3]
   simp only [Zd,hl.len]
   exact ((hc.take off).append hl).append (hc.drop (off+news.length))
 have one_cells:∀ {v:Value},v.oneCell' = true→v.cells = [v].toArray:=by
  intro v h
  cases v <;> first | rfl | simp [Value.oneCell'] at h
 intro r ps cs cs' hparts
 induction hparts with
 | nil=>intro _ vs hc;exact ⟨vs,by simp [Instr.fill],hc⟩
 | @agg i off sz x r ps qs l cs cs' hp hx hl hk hr ih=>
  intro hps vs hc
  obtain ⟨news,e,hn⟩:=hx a w yy hps.left
  obtain ⟨vs',h1,h2⟩:=step (rest:=r.map fun x=>(x.1,a.eval x.2)) hp (v:=a.eval x) (by rw [e];rfl) hn (Y5 hl) (Yak hk) hc
  obtain ⟨us,h3,h4⟩:=ih hps.right vs' h2
  exact ⟨us,by rw [YG,h1,h3],h4⟩
 | @one i off x r ps qs p cs cs' hp hx h1 hk hr ih=>
  intro hps vs hc
  have hpx:=hx a w yy hps.left
  have ho:=h1 _ _ _ hpx
  obtain ⟨vs',h2,h3⟩:=step (rest:=r.map fun x=>(x.1,a.eval x.2)) hp (one_cells ho) (l:=[.pv p]) ⟨⟨ho,hpx⟩,tv⟩ rfl (Yak hk) hc
  obtain ⟨us,h4,h5⟩:=ih hps.right vs' h3
  exact ⟨us,by rw [YG,h2,h4],h5⟩
 | @same i off j k r qs cs cs' hp hk hr ih=>
  intro hps vs hc
  have hpx:(SF.same k).holds (Act.tau a) w yy (a.eval (.tmp j)):=hps (j,.same k) XM
  have ho:=hpx.2
  obtain ⟨vs',h2,h3⟩:=step (rest:=r.map fun x=>(x.1,a.eval x.2)) hp (one_cells ho) (l:=[.same k]) ⟨⟨ho,hpx⟩,tv⟩ rfl (Yak hk) hc
  obtain ⟨us,h4,h5⟩:=ih (fun x hx=>hps x XO) vs' h3
  exact ⟨us,by rw [YG,h2,h4],h5⟩
def placeSem (f:Field):Sem (Nat×Nat):=do pure (f.offset,← sizeOf f.type)
theorem Zm0 {pl:List (Nat×Nat)} (h:P.places t=some pl):∃ fs:Array Field,P.underlying t=some (.struct fs) ∧ ∀ w,(fs.mapM placeSem).run P w = .ok pl.toArray w:=by
 unfold Program.places at h
 split at h
 ·rename_i fs hu
  refine ⟨fs,hu,fun w=>?_⟩
  rcases fs with ⟨fs⟩
  simp only [] at h
  rw [List.mapM_toArray]
  have:∀ (fs:List Field) (pl:List (Nat×Nat)),(fs.mapM fun f=>(P.info? f.type).map fun i=>(f.offset,i.size))=some pl→(fs.mapM placeSem).run P w = .ok pl w:=by
   intro fs
   induction fs with
   | nil=>intro pl h;simp at h;subst h;simp
   | cons f fs ih=>
    intro pl h
    simp only [List.mapM_cons] at h
    cases hi:P.info? f.type with
    | none=>rw [hi] at h;simp at h
    | some i=>
     rw [hi] at h
     simp only [YaC] at h
     cases hm:(fs.mapM fun f=>(P.info? f.type).map fun i=>(f.offset,i.size)) with
     | none=>rw [hm] at h;simp at h
     | some ps=>
      rw [hm] at h
      simp at h
      subst h
      have e:=run_sizeOf (P:=P) (t:=f.type) (n:=i.size) (by rw [hi];rfl) w
      simp only [List.mapM_cons,placeSem,YD,e,Yv,YI]
      rw [ih ps hm];rfl
  have h2:=this fs pl h
  generalize (fs.mapM placeSem)=m at h2
  simp [h2]
 ·cases h
theorem Zpm {pl:List (Nat×Nat)} {zs:List Value} {r:List (Nat×Operand)} {cs':List CF} (hz:P.zeros t=some zs) (hpl:P.places t=some pl) (hparts:ZdR P pl r ps (zs.map zCF) cs') (hd:ZaO d (.agg cs')=true) :
  OpC P ⟨d,.build t r.toArray,ty,pos,af,g⟩ ⟨ps,[],.agg cs',[]⟩:=
 OpC.pure fun a w yy hp=>by
  obtain ⟨z,h1,h2,h3⟩:=Zb6 hz
  obtain ⟨fs,hu,hfs⟩:=Zm0 hpl
  obtain ⟨us,h4,h5⟩:=ZeT (place:=fun i=>pl.toArray[i]?) (fun i q h=>by simpa using h) hparts hp zs.toArray (by simpa using ZuE h2)
  refine ⟨.agg us,?_,fun τ' ht=>Z9 hd ht ⟨us.toList,by simp,h5⟩⟩
  have e:(r.toArray.map fun (x:Nat×Operand)=>(x.1,a.eval x.2))=(r.map fun x=>(x.1,a.eval x.2)).toArray:=XM
  have h4':Instr.fill (fun i=>pl.toArray[i]?) zs.toArray (r.map fun x=>(x.1,a.eval x.2))=some us:=h4
  have hfs':=hfs w
  unfold placeSem at hfs'
  simp only [execOp,Instr.build,e,YD,h3,Yv,h1,Yo hu,hfs',h4',YI]
theorem ZjF {e sz n:Nat} {zs:List Value} {r:List (Nat×Operand)} {l:List PV} (hu:P.underlying t=some (.slice e)) (hsz:(P.info? e).map (·.size)=some sz) (hz:P.zeros e=some zs) (hn:Nat.ble (n*sz) 1000=true) (h0:Nat.blt 0 (n*sz)=true) (hzl:zs.length=sz)
  {zz:List CF} (hzz:((List.range (n*sz)).map fun i=>zCF (zs.getD (i % sz) undef))=zz)
  (hparts:ZdR P ((List.range n).map fun i=>(i*sz,sz)) r ps zz (l.map CF.pv)) :
  OpC P ⟨d,.buildSlice t n r.toArray,ty,pos,af,g⟩ ⟨ps,[],.pv (.arr n l),[]⟩:=fun a w F K Q hw hp hr ht=>by
 obtain ⟨z,h1,h2,h3⟩:=Zb6 hz
 have hn':=Yak hn
 have h0':0<n*sz:=by simpa [YaA] using h0
 have hsz0:0<sz:=Nat.pos_of_mul_pos_left h0'
 have hzs0:CFs (Act.tau a) w (U F) zz ((List.range (n*sz)).map fun i=>zs.getD (i % sz) undef):=by
  rw [← hzz]
  have:∀ is:List Nat,CFs (Act.tau a) w (U F) (is.map fun i=>zCF (zs.getD (i % sz) undef)) (is.map fun i=>zs.getD (i % sz) undef):=by
   intro is
   induction is with
   | nil=>trivial
   | cons i is ih=>
    refine ⟨?_,ih⟩
    have hlt:i % sz<zs.length:=Kl
    have hg:zs.getD (i % sz) undef=zs[i % sz]:=XZ
    have hok:zOk zs[i % sz] = true:=(Yad.1 h2) _ (YaL hlt)
    have:=ZuE (τ:=Act.tau a) (w:=w) (y:=U F) (vs:=[zs[i % sz]]) (by simp [hok])
    show (zs.getD (i % sz) undef).oneCell' = true∧CF.holds (Act.tau a) w (U F) (zCF (zs.getD (i % sz) undef)) (zs.getD (i % sz) undef)
    rw [hg]
    exact this.1
  exact this _
 obtain ⟨us,h4,h5⟩:=ZeT (place:=fun i=>some (i*sz,sz)) (fun i q h=>by
  rw [YbH] at h
  cases hr:(List.range n)[i]? with
  | none=>rw [hr] at h;simp at h
  | some j=>
   rw [hr] at h
   have:=(YH.1 hr).2
   simp at this h
   rw [← h,← this]) hparts hp (((List.range (n*sz)).map fun i=>zs.getD (i % sz) undef).toArray) (by simpa using hzs0)
 have e1:(r.toArray.map fun (x:Nat×Operand)=>(x.1,a.eval x.2))=(r.map fun x=>(x.1,a.eval x.2)).toArray:=XM
 have e2:((Array.range (n*sz)).map fun x=>z.cells[x % z.cells.size]!)=((List.range (n*sz)).map fun i=>zs.getD (i % sz) undef).toArray:=by
  rw [h1]
  apply Array.ext
  ·simp
  ·intro i hi1 hi2
   have hlt:i % sz<zs.length:=Kl
   simp [hzl,Yas hlt]
 have hrun:(execOp a.eval ⟨d,.buildSlice t n r.toArray,ty,pos,af,g⟩).run P w = .ok (.value (.slice (some ⟨w.heap.size,0,none⟩) n n)) (w.alloc (.cells us e)):=by
  have hbig:¬ (n*sz > 2 ^ 24):=ow
  have hne:¬ (n*sz=0):=ow
  simp only [execOp,Instr.buildSlice,e1,YD,Yo hu,Yv,run_sizeOf hsz,Yb hbig,Yb hne,h3,YI,e2,h4,newRow,Ybf]
 obtain ⟨g1,g2⟩:=ZaJ hw 0 (.cells us e)
 have hev:Ev w (U F) (w.alloc (.cells us e)) (U F):=⟨rfl,rfl,rfl,by simp,fun b hb hy=>⟨heap_alloc_old w _ hb,hy⟩⟩
 have hst:Stp [] w F (w.alloc (.cells us e)) F:=⟨rfl,rfl,rfl,by simp,fun b hb _=>heap_alloc_old w _ hb,fun _ _=>rfl,fun _ h=>by cases h⟩
 simp only [Oper.wp,hrun,Oper.upon]
 refine ht _ _ F ⟨hw.dis,fun n b hn=>by have:=hw.bd n b hn;simp;omega⟩ hst ⟨w.heap.size,us.toList,rfl,fun ⟨k,hk⟩=>Nat.lt_irrefl _ (hw.bd k _ hk),by simp,?_,?_⟩ (fun x hx=>by cases hx)
 ·refine Zt.mk fun j v hj=>?_
  rw [Yab,ZI (Yat w _)]
  simpa using hj
 ·have:∀ {l:List PV} {vs:List Value} {τ:Tau} {w:World} {y:Ys},CFs τ w y (l.map CF.pv) vs→PVs l vs w y:=by
   intro l
   induction l with
   | nil=>intro vs τ w y h;cases vs;trivial;exact h.elim
   | cons p l ih=>intro vs τ w y h;cases vs with
    | nil=>exact h.elim
    | cons v vs=>exact ⟨h.1,ih h.2⟩
  exact PVs.mono hev (this h5)
theorem ZaR {α:Type} {R:α→List PV} {e sz:Nat} {d':Nat} (n:Nat) (hu:P.underlying t=some (.slice e)) (hsz:(P.info? e).map (·.size)=some sz) :
  OpC P ⟨some d',.buildSlice t 0 #[],ty,pos,af,g⟩ ⟨[],[],.same d',[(n,.ob (.slot d') (Zz e sz R ([]:List α)))]⟩:=fun a w F K Q hw hp hr ht=>by
 have hrun:(execOp a.eval ⟨some d',.buildSlice t 0 #[],ty,pos,af,g⟩).run P w = .ok (.value (.slice (some ⟨w.heap.size,0,none⟩) 0 0)) (w.alloc (.cells #[] e)):=by
  simp [execOp,Instr.buildSlice,Yo hu,run_sizeOf hsz,Instr.fill,newRow]
  congr 2
  exact Array.eq_empty_of_size_eq_zero XM
 obtain ⟨g1,g2⟩:=ZaJ hw n (.cells #[] e)
 simp only [Oper.wp,hrun,Oper.upon]
 refine ht _ _ _ g1 g2 ⟨by simp [upd],rfl⟩ ?_
 intro x hx
 simp only [Yn] at hx
 subst hx
 refine ⟨[],?_,tv,fun b=>by simp [Anc.v,upd,Value.ownBlock];omega⟩
 have:=World.ownsRow_made (base:=0) (e:=e) (size:=sz) w #[] 0 (YA _) (YA _) XM
 simpa [Anc.v,upd] using this
end
end Go.Gm
