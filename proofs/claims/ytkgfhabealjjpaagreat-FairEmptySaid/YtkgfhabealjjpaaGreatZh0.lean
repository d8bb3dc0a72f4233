/- Abbreviations of tactics. No condition. -/
import Derived.OrdersHeld
import Derived.OrdersIn
import Derived.TacticsIn
import Derived.Sort.LoopGhostIn
import Derived.Deep.MidRow
import Derived.Laws.AppendOwn
import Derived.Below
import Derived.WalkKit
import Derived.Scope
import Derived.Laws.LoneSync
import Derived.Lib.Builder
import Derived.Lib.ItoaMem
import Derived.Lib.LaidTab
import Derived.Lib.Join
import Derived.MapKept
import Derived.Laws.StructEq
import Derived.Laws.BitsAllLaws
import Derived.Test.YtkgfhabealjjpaaGreatRows
import Derived.KernelRfl
import Derived.Test.YtkgfhabealjjpaaGreatProg
import Derived.Shelf.SlGeneric
import Derived.Shelf.SlMaps.Clone
import Derived.Lib.OthersKept
import Derived.Tactics
import Derived.Tactics2
import Derived.Defers
import Derived.Laws.Pointers
import Derived.RegionTactic
import Derived.RegionCalls
import Derived.Maps.RangeRun
import Derived.Sort.Grow
import Derived.Deep.Draws
import Derived.Shelf.SlSortCmp.InsertionK
import Derived.Shelf.SlSortCmp.SiftDownK
import Derived.Shelf.SlSortCmp.HeapSortK
import Derived.Shelf.SlSortCmp.MedianK
import Derived.Shelf.SlSortCmp.PivotK
import Derived.Shelf.SlSortCmp.ReverseRangeK
import Derived.Shelf.SlSortCmp.PartialInsertionK
import Derived.Shelf.SlSortCmp.PartitionEqualK
import Derived.Shelf.SlSortCmp.PartitionK
import Derived.Shelf.SlSortCmp.PdqK
import Derived.Shelf.SlSortCmp.WholeK
import Derived.Shelf.SlSortCmp.NoneTotal
import Derived.RangeFuncRecord
import Derived.ProofKit
import Derived.OpenShut
import Derived.SizedLaws
import Derived.Carry
import Derived.Deep.Strs
import Derived.Deep.Slices
namespace Go.Proofs.YtkgfhabealjjpaaGreat
theorem a_:type_of% @List.length_append:=@List.length_append
theorem bK:type_of% @List.append_nil:=@List.append_nil
theorem bP:type_of% @List.mem_map:=@List.mem_map
theorem bU:type_of% @Nat.zero_le:=@Nat.zero_le
theorem bY:type_of% @List.getElem?_eq_some_iff:=@List.getElem?_eq_some_iff
theorem cd:type_of% @Int.le_refl:=@Int.le_refl
theorem cW:type_of% @List.length_map:=@List.length_map
theorem di:type_of% @Nat.zero_add:=@Nat.zero_add
theorem dN:type_of% @Bool.and_eq_true:=@Bool.and_eq_true
theorem dZ:type_of% @Int.toNat_natCast:=@Int.toNat_natCast
theorem eh:type_of% @List.getElem?_map:=@List.getElem?_map
theorem ez:type_of% @List.mem_append:=@List.mem_append
theorem eA:type_of% @List.mem_singleton:=@List.mem_singleton
theorem eL:type_of% @List.append_assoc:=@List.append_assoc
theorem gA:type_of% @List.map_cons:=@List.map_cons
theorem hU:type_of% @List.map_append:=@List.map_append
theorem hZ:type_of% @Nat.le_of_ble_eq_true:=@Nat.le_of_ble_eq_true
theorem iz:type_of% @List.eq_nil_of_length_eq_zero:=@List.eq_nil_of_length_eq_zero
theorem iA:type_of% @List.length_cons:=@List.length_cons
theorem iB:type_of% @List.length_set:=@List.length_set
theorem iC:type_of% @List.mem_filter:=@List.mem_filter
theorem iM:type_of% @List.getElem?_set_self:=@List.getElem?_set_self
theorem iZ:type_of% @List.map_set:=@List.map_set
theorem i_:type_of% @List.mem_cons_of_mem:=@List.mem_cons_of_mem
theorem ja:type_of% @List.nodup_append:=@List.nodup_append
theorem jb:type_of% @List.take_add_one:=@List.take_add_one
theorem jK:type_of% @List.mem_cons:=@List.mem_cons
theorem jL:type_of% @List.perm_append_comm:=@List.perm_append_comm
theorem ki:type_of% @Bool.and_false:=@Bool.and_false
theorem kF:type_of% @Bool.false_and:=@Bool.false_and
theorem kG:type_of% @List.getElem?_set_ne:=@List.getElem?_set_ne
theorem kH:type_of% @List.length_take:=@List.length_take
theorem lh:type_of% @List.all_eq_true:=@List.all_eq_true
theorem lj:type_of% @List.take_length:=@List.take_length
theorem lO:type_of% @List.getElem?_eq_none:=@List.getElem?_eq_none
theorem lP:type_of% @List.mem_or_eq_of_mem_set:=@List.mem_or_eq_of_mem_set
theorem mD:type_of% @Option.bind_some:=@Option.bind_some
theorem mV:type_of% @List.map_map:=@List.map_map
theorem mW:type_of% @List.mem_cons_self:=@List.mem_cons_self
theorem mX:type_of% @List.prefix_refl:=@List.prefix_refl
theorem nK:type_of% @Array.toList_inj:=@Array.toList_inj
theorem nL:type_of% @List.getElem?_append_left:=@List.getElem?_append_left
theorem nN:type_of% @List.nil_append:=@List.nil_append
theorem nO:type_of% @Option.map_some:=@Option.map_some
theorem oD:type_of% @List.getElem?_of_mem:=@List.getElem?_of_mem
theorem oE:type_of% @List.not_mem_nil:=@List.not_mem_nil
theorem oF:type_of% @Option.some.inj:=@Option.some.inj
theorem oZ:type_of% @List.foldl_cons:=@List.foldl_cons
theorem o6:type_of% @List.mem_range:=@List.mem_range
theorem o7:type_of% @Nat.eq_of_beq_eq_true:=@Nat.eq_of_beq_eq_true
theorem pM:type_of% @Bool.false_ne_true:=@Bool.false_ne_true
theorem pN:type_of% @List.ext_getElem?:=@List.ext_getElem?
theorem pO:type_of% @List.length_filter_le:=@List.length_filter_le
theorem pP:type_of% @List.sum_cons:=@List.sum_cons
theorem pQ:type_of% @Nat.le_trans:=@Nat.le_trans
theorem qI:type_of% @List.getElem?_append_right:=@List.getElem?_append_right
theorem qJ:type_of% @List.getElem?_cons_zero:=@List.getElem?_cons_zero
theorem qK:type_of% @Nat.add_mul:=@Nat.add_mul
theorem rW:type_of% @Array.getElem?_eq_some_iff:=@Array.getElem?_eq_some_iff
theorem rX:type_of% @List.cons_append:=@List.cons_append
theorem rY:type_of% @List.getElem?_cons_succ:=@List.getElem?_cons_succ
theorem rZ:type_of% @List.getElem?_drop:=@List.getElem?_drop
theorem r4:type_of% @List.length_drop:=@List.length_drop
theorem r5:type_of% @List.take_of_length_le:=@List.take_of_length_le
theorem r6:type_of% @List.take_zero:=@List.take_zero
theorem r7:type_of% @Nat.mul_le_mul_right:=@Nat.mul_le_mul_right
theorem r8:type_of% @Nat.zero_lt_one:=@Nat.zero_lt_one
theorem tk:type_of% @Int.eq_ofNat_of_zero_le:=@Int.eq_ofNat_of_zero_le
theorem tm:type_of% @List.all_eq_false:=@List.all_eq_false
theorem tp:type_of% @List.filter_append:=@List.filter_append
theorem tq:type_of% @List.getElem?_take:=@List.getElem?_take
theorem tr:type_of% @List.length_range:=@List.length_range
theorem tu:type_of% @List.set_cons_succ:=@List.set_cons_succ
theorem tv:type_of% @Nat.le_succ:=@Nat.le_succ
theorem tw:type_of% @Nat.mul_one:=@Nat.mul_one
theorem uH:type_of% @Bool.true_and:=@Bool.true_and
theorem uI:type_of% @Int.add_zero:=@Int.add_zero
theorem uJ:type_of% @Int.le_trans:=@Int.le_trans
theorem uK:type_of% @List.filter_cons:=@List.filter_cons
theorem uL:type_of% @List.flatMap_cons:=@List.flatMap_cons
theorem uM:type_of% @List.pairwise_map:=@List.pairwise_map
theorem vW:type_of% @Array.ext_getElem?:=@Array.ext_getElem?
theorem vX:type_of% @Array.getElem?_modify:=@Array.getElem?_modify
theorem vY:type_of% @Classical.not_not:=@Classical.not_not
theorem vZ:type_of% @List.getElem?_set:=@List.getElem?_set
theorem v7:type_of% @List.getLast?_eq_getElem?:=@List.getLast?_eq_getElem?
theorem v8:type_of% @List.range_succ:=@List.range_succ
theorem v_:type_of% @List.set_set:=@List.set_set
theorem wb:type_of% @List.take_left':=@List.take_left'
theorem we:type_of% @Nat.lt_of_lt_of_le:=@Nat.lt_of_lt_of_le
theorem wi:type_of% @Nat.mod_lt:=@Nat.mod_lt
theorem yK:type_of% @Array.getD_eq_getD_getElem?:=@Array.getD_eq_getD_getElem?
theorem yL:type_of% @List.getElem_mem:=@List.getElem_mem
theorem yM:type_of% @Nat.add_zero:=@Nat.add_zero
theorem yO:type_of% @Nat.succ_mul:=@Nat.succ_mul
theorem Bl:type_of% @Array.getElem?_setIfInBounds_ne:=@Array.getElem?_setIfInBounds_ne
theorem Bm:type_of% @Array.getElem?_toList:=@Array.getElem?_toList
theorem Bn:type_of% @List.any_eq_true:=@List.any_eq_true
theorem Bo:type_of% @List.drop_eq_getElem_cons:=@List.drop_eq_getElem_cons
theorem Bp:type_of% @List.foldl_append:=@List.foldl_append
theorem Br:type_of% @List.length_take_le:=@List.length_take_le
theorem Bt:type_of% @List.length_zipIdx:=@List.length_zipIdx
theorem Bu:type_of% @List.nodup_cons:=@List.nodup_cons
theorem Bv:type_of% @List.take_prefix:=@List.take_prefix
theorem Bw:type_of% @Nat.min_eq_left:=@Nat.min_eq_left
theorem Bx:type_of% @Nat.not_lt_zero:=@Nat.not_lt_zero
theorem By:type_of% @Nat.pow_le_pow_right:=@Nat.pow_le_pow_right
theorem Eg:type_of% @Array.getElem?_append:=@Array.getElem?_append
theorem Eh:type_of% @Bool.or_eq_false_iff:=@Bool.or_eq_false_iff
theorem Ei:type_of% @List.getElem?_append:=@List.getElem?_append
theorem Ej:type_of% @List.length_singleton:=@List.length_singleton
theorem Ek:type_of% @List.mem_of_getLast?:=@List.mem_of_getLast?
theorem Z{α:Sort _}{a:α}:a=a:=rfl
structure Bq(q:Prop):Prop where
 v:q
variable {p q:Prop}
theorem DF:type_of% @decide_eq_false:=@decide_eq_false
theorem DT:type_of% @decide_eq_true:=@decide_eq_true
theorem GE:type_of% @List.getElem?_eq_getElem:=@List.getElem?_eq_getElem
theorem NR:type_of% @Nat.le_refl:=@Nat.le_refl
theorem ME:type_of% @List.mem_of_getElem?:=@List.mem_of_getElem?
theorem yv(k:p:=by(try refine Pd.st ?_);(repeat(first|exact Pd.nil|exact Pd.fnil|refine Pd.inner ?_|refine Pd.skip (by decide +kernel) ?_|refine zf (zo 0 Z Z) ?_|refine zf (zo 1 Z Z) ?_|refine zf (zo 2 Z Z) ?_|refine zf (zo 3 Z Z) ?_|refine zf (zo 4 Z Z) ?_|refine zf (zo 5 Z Z) ?_|refine zf (zo 6 Z Z) ?_|refine zf (zo 7 Z Z) ?_|refine zf (zo 8 Z Z) ?_|refine zf (zm 0 Z Z) ?_|refine zf (zm 1 Z Z) ?_|refine zf (zm 2 Z Z) ?_|refine zf (zm 3 Z Z) ?_|refine zf (zm 4 Z Z) ?_|refine zf (zm 5 Z Z) ?_|refine zf (zm 6 Z Z) ?_|refine zf (zm 7 Z Z) ?_|refine zf (zm 8 Z Z) ?_|refine zc (zo 0 Z Z) ?_|refine zc (zo 1 Z Z) ?_|refine zc (zo 2 Z Z) ?_|refine zc (zo 3 Z Z) ?_|refine zc (zo 4 Z Z) ?_|refine zc (zo 5 Z Z) ?_|refine zc (zo 6 Z Z) ?_|refine zc (zo 7 Z Z) ?_|refine zc (zo 8 Z Z) ?_|refine zc (zm 0 Z Z) ?_|refine zc (zm 1 Z Z) ?_|refine zc (zm 2 Z Z) ?_|refine zc (zm 3 Z Z) ?_|refine zc (zm 4 Z Z) ?_|refine zc (zm 5 Z Z) ?_|refine zc (zm 6 Z Z) ?_|refine zc (zm 7 Z Z) ?_|refine zc (zm 8 Z Z) ?_|refine Pd.lE (dA.one 0 Z) ?_|refine Pd.lE (dA.one 1 Z) ?_|refine Pd.lE (dA.one 2 Z) ?_|refine Pd.lE (dA.one 3 Z) ?_|refine Pd.lE (dA.one 4 Z) ?_|refine Pd.lE (dA.one 5 Z) ?_|refine Pd.lE (dA.one 6 Z) ?_|refine Pd.lE (dA.one 7 Z) ?_|refine Pd.lE (dA.one 8 Z) ?_|refine Pd.consM (dA.one 0 Z) ?_|refine Pd.consM (dA.one 1 Z) ?_|refine Pd.consM (dA.one 2 Z) ?_|refine Pd.consM (dA.one 3 Z) ?_|refine Pd.consM (dA.one 4 Z) ?_|refine Pd.consM (dA.one 5 Z) ?_|refine Pd.consM (dA.one 6 Z) ?_|refine Pd.consM (dA.one 7 Z) ?_|refine Pd.consM (dA.one 8 Z) ?_))):p:=k
theorem mU(k:p:=by(try refine Pd.st ?_);(repeat(first|exact Pd.nil|exact Pd.fnil|refine Pd.inner ?_|refine Pd.skip (by decide +kernel) ?_|refine zf (zo 0 rfl rfl) ?_|refine zf (zo 1 rfl rfl) ?_|refine zf (zo 2 rfl rfl) ?_|refine zf (zo 3 rfl rfl) ?_|refine zf (zo 4 rfl rfl) ?_|refine zf (zo 5 rfl rfl) ?_|refine zf (zo 6 rfl rfl) ?_|refine zf (zo 7 rfl rfl) ?_|refine zf (zo 8 rfl rfl) ?_|refine zf (zm 0 rfl rfl) ?_|refine zf (zm 1 rfl rfl) ?_|refine zf (zm 2 rfl rfl) ?_|refine zf (zm 3 rfl rfl) ?_|refine zf (zm 4 rfl rfl) ?_|refine zf (zm 5 rfl rfl) ?_|refine zf (zm 6 rfl rfl) ?_|refine zf (zm 7 rfl rfl) ?_|refine zf (zm 8 rfl rfl) ?_|refine zc (zo 0 rfl rfl) ?_|refine zc (zo 1 rfl rfl) ?_|refine zc (zo 2 rfl rfl) ?_|refine zc (zo 3 rfl rfl) ?_|refine zc (zo 4 rfl rfl) ?_|refine zc (zo 5 rfl rfl) ?_|refine zc (zo 6 rfl rfl) ?_|refine zc (zo 7 rfl rfl) ?_|refine zc (zo 8 rfl rfl) ?_|refine zc (zm 0 rfl rfl) ?_|refine zc (zm 1 rfl rfl) ?_|refine zc (zm 2 rfl rfl) ?_|refine zc (zm 3 rfl rfl) ?_|refine zc (zm 4 rfl rfl) ?_|refine zc (zm 5 rfl rfl) ?_|refine zc (zm 6 rfl rfl) ?_|refine zc (zm 7 rfl rfl) ?_|refine zc (zm 8 rfl rfl) ?_))):p:=k
theorem yu(k:p:=by(try refine Pd.st ?_);(repeat(first|exact Pd.nil|exact Pd.fnil|refine Pd.inner ?_|refine Pd.skip (by decide +kernel) ?_|refine zf (zo 0 Z Z) ?_|refine zf (zo 1 Z Z) ?_|refine zf (zo 2 Z Z) ?_|refine zf (zo 3 Z Z) ?_|refine zf (zo 4 Z Z) ?_|refine zf (zo 5 Z Z) ?_|refine zf (zo 6 Z Z) ?_|refine zf (zo 7 Z Z) ?_|refine zf (zo 8 Z Z) ?_|refine zf (zm 0 Z Z) ?_|refine zf (zm 1 Z Z) ?_|refine zf (zm 2 Z Z) ?_|refine zf (zm 3 Z Z) ?_|refine zf (zm 4 Z Z) ?_|refine zf (zm 5 Z Z) ?_|refine zf (zm 6 Z Z) ?_|refine zf (zm 7 Z Z) ?_|refine zf (zm 8 Z Z) ?_|refine zc (zo 0 Z Z) ?_|refine zc (zo 1 Z Z) ?_|refine zc (zo 2 Z Z) ?_|refine zc (zo 3 Z Z) ?_|refine zc (zo 4 Z Z) ?_|refine zc (zo 5 Z Z) ?_|refine zc (zo 6 Z Z) ?_|refine zc (zo 7 Z Z) ?_|refine zc (zo 8 Z Z) ?_|refine zc (zm 0 Z Z) ?_|refine zc (zm 1 Z Z) ?_|refine zc (zm 2 Z Z) ?_|refine zc (zm 3 Z Z) ?_|refine zc (zm 4 Z Z) ?_|refine zc (zm 5 Z Z) ?_|refine zc (zm 6 Z Z) ?_|refine zc (zm 7 Z Z) ?_|refine zc (zm 8 Z Z) ?_))):p:=k
theorem Qp(k:p:=by(try refine Pd.st ?_);(repeat(first|exact Pd.nil|exact Pd.fnil|refine Pd.inner ?_|refine Pd.skip (by decide +kernel) ?_|refine zf (zo 0 Z Z) ?_|refine zf (zo 1 Z Z) ?_|refine zf (zo 2 Z Z) ?_|refine zf (zo 3 Z Z) ?_|refine zf (zo 4 Z Z) ?_|refine zf (zm 0 Z Z) ?_|refine zf (zm 1 Z Z) ?_|refine zf (zm 2 Z Z) ?_|refine zf (zm 3 Z Z) ?_|refine zf (zm 4 Z Z) ?_|refine zf (ax.aC (ax.many 0 Z Z) Z) ?_|refine zf ((ax.many 0 Z Z)) ?_|refine zc (zo 0 Z Z) ?_|refine zc (zo 1 Z Z) ?_|refine zc (zo 2 Z Z) ?_|refine zc (zo 3 Z Z) ?_|refine zc (zo 4 Z Z) ?_|refine zc (zm 0 Z Z) ?_|refine zc (zm 1 Z Z) ?_|refine zc (zm 2 Z Z) ?_|refine zc (zm 3 Z Z) ?_|refine zc (zm 4 Z Z) ?_|refine zc (ax.aC (ax.many 0 Z Z) Z) ?_|refine zc ((ax.many 0 Z Z)) ?_))):p:=k
theorem Iy(k:p:=by(try refine Pd.st ?_);(repeat(first|exact Pd.nil|exact Pd.fnil|refine Pd.inner ?_|refine Pd.skip (by decide +kernel) ?_|refine zf (zo 0 Z Z) ?_|refine zf (zo 1 Z Z) ?_|refine zf (zo 2 Z Z) ?_|refine zf (zo 3 Z Z) ?_|refine zf (zo 4 Z Z) ?_|refine zf (zm 0 Z Z) ?_|refine zf (zm 1 Z Z) ?_|refine zf (zm 2 Z Z) ?_|refine zf (zm 3 Z Z) ?_|refine zf (zm 4 Z Z) ?_|refine zf (ax.aC PQ Z) ?_|refine zf (PQ) ?_|refine zc (zo 0 Z Z) ?_|refine zc (zo 1 Z Z) ?_|refine zc (zo 2 Z Z) ?_|refine zc (zo 3 Z Z) ?_|refine zc (zo 4 Z Z) ?_|refine zc (zm 0 Z Z) ?_|refine zc (zm 1 Z Z) ?_|refine zc (zm 2 Z Z) ?_|refine zc (zm 3 Z Z) ?_|refine zc (zm 4 Z Z) ?_|refine zc (ax.aC PQ Z) ?_|refine zc (PQ) ?_))):p:=k
theorem xY(k:p:=by(try refine Pd.st ?_);(repeat(first|exact Pd.nil|exact Pd.fnil|refine Pd.inner ?_|refine Pd.skip (by decide +kernel) ?_|refine zf (zo 0 Z Z) ?_|refine zf (zo 1 Z Z) ?_|refine zf (zo 2 Z Z) ?_|refine zf (zo 3 Z Z) ?_|refine zf (zm 0 Z Z) ?_|refine zf (zm 1 Z Z) ?_|refine zf (zm 2 Z Z) ?_|refine zf (zm 3 Z Z) ?_|refine zf (ax.aC (ax.many 0 Z Z) Z) ?_|refine zf ((ax.many 0 Z Z)) ?_|refine zc (zo 0 Z Z) ?_|refine zc (zo 1 Z Z) ?_|refine zc (zo 2 Z Z) ?_|refine zc (zo 3 Z Z) ?_|refine zc (zm 0 Z Z) ?_|refine zc (zm 1 Z Z) ?_|refine zc (zm 2 Z Z) ?_|refine zc (zm 3 Z Z) ?_|refine zc (ax.aC (ax.many 0 Z Z) Z) ?_|refine zc ((ax.many 0 Z Z)) ?_))):p:=k
theorem Qr(k:p:=by(try refine Pd.st ?_);(repeat(first|exact Pd.nil|exact Pd.fnil|refine Pd.inner ?_|refine Pd.skip (by decide +kernel) ?_|refine zf (zo 0 Z Z) ?_|refine zf (zo 1 Z Z) ?_|refine zf (zo 2 Z Z) ?_|refine zf (zm 0 Z Z) ?_|refine zf (zm 1 Z Z) ?_|refine zf (zm 2 Z Z) ?_|refine zf (ax.aC (ax.one 5 Z (ru hx)) Z) ?_|refine zf ((ax.one 5 Z (ru hx))) ?_|refine zc (zo 0 Z Z) ?_|refine zc (zo 1 Z Z) ?_|refine zc (zo 2 Z Z) ?_|refine zc (zm 0 Z Z) ?_|refine zc (zm 1 Z Z) ?_|refine zc (zm 2 Z Z) ?_|refine zc (ax.aC (ax.one 5 Z (ru hx)) Z) ?_|refine zc ((ax.one 5 Z (ru hx))) ?_))):p:=k
theorem IG(k:p:=by(try refine Pd.st ?_);(repeat(first|exact Pd.nil|exact Pd.fnil|refine Pd.inner ?_|refine Pd.skip (by decide +kernel) ?_|refine zf (zo 0 Z Z) ?_|refine zf (zo 1 Z Z) ?_|refine zf (zo 2 Z Z) ?_|refine zf (zm 0 Z Z) ?_|refine zf (zm 1 Z Z) ?_|refine zf (zm 2 Z Z) ?_|refine zf (ax.aC (ax.many 0 Z Z) Z) ?_|refine zf ((ax.many 0 Z Z)) ?_|refine zc (zo 0 Z Z) ?_|refine zc (zo 1 Z Z) ?_|refine zc (zo 2 Z Z) ?_|refine zc (zm 0 Z Z) ?_|refine zc (zm 1 Z Z) ?_|refine zc (zm 2 Z Z) ?_|refine zc (ax.aC (ax.many 0 Z Z) Z) ?_|refine zc ((ax.many 0 Z Z)) ?_))):p:=k
theorem D6(k:p:=by(try refine Pd.st ?_);(repeat(first|exact Pd.nil|exact Pd.fnil|refine Pd.inner ?_|refine Pd.skip (by decide +kernel) ?_|refine zf (ax.aC (ax.aC h Z) Z) ?_|refine zf (ax.aC (ax.jR (ds:=R.ch.cells x.a x.c) h Z) Z) ?_|refine zf ((ax.aC h Z)) ?_|refine zf ((ax.jR (ds:=R.ch.cells x.a x.c) h Z)) ?_|refine zc (ax.aC (ax.aC h Z) Z) ?_|refine zc (ax.aC (ax.jR (ds:=R.ch.cells x.a x.c) h Z) Z) ?_|refine zc ((ax.aC h Z)) ?_|refine zc ((ax.jR (ds:=R.ch.cells x.a x.c) h Z)) ?_))):p:=k
theorem yz(k:p:=by(try refine Pd.st ?_);(repeat(first|exact Pd.nil|exact Pd.fnil|refine Pd.inner ?_|refine Pd.skip (by decide +kernel) ?_|refine zf (ax.aC (ax.aC hb Z) Z) ?_|refine zf (ax.aC (ax.jR (ds:=l_ es) hb Z) Z) ?_|refine zf ((ax.aC hb Z)) ?_|refine zf ((ax.jR (ds:=l_ es) hb Z)) ?_|refine zc (ax.aC (ax.aC hb Z) Z) ?_|refine zc (ax.aC (ax.jR (ds:=l_ es) hb Z) Z) ?_|refine zc ((ax.aC hb Z)) ?_|refine zc ((ax.jR (ds:=l_ es) hb Z)) ?_))):p:=k
theorem Qq(k:p:=by(try refine Pd.st ?_);(repeat(first|exact Pd.nil|exact Pd.fnil|refine Pd.inner ?_|refine Pd.skip (by decide +kernel) ?_|refine zf (zo 0 Z Z) ?_|refine zf (zo 1 Z Z) ?_|refine zf (zm 0 Z Z) ?_|refine zf (zm 1 Z Z) ?_|refine zf (ax.aC (ax.many 0 Z Z) Z) ?_|refine zf ((ax.many 0 Z Z)) ?_|refine zc (zo 0 Z Z) ?_|refine zc (zo 1 Z Z) ?_|refine zc (zm 0 Z Z) ?_|refine zc (zm 1 Z Z) ?_|refine zc (ax.aC (ax.many 0 Z Z) Z) ?_|refine zc ((ax.many 0 Z Z)) ?_))):p:=k
theorem P4(k:p:=by(try refine Pd.st ?_);(repeat(first|exact Pd.nil|exact Pd.fnil|refine Pd.inner ?_|refine Pd.skip (by decide +kernel) ?_|refine zf (ax.aC hb Z) ?_|refine zf (ax.aC (ax.jR hp hrow) Z) ?_|refine zf (hb) ?_|refine zf ((ax.jR hp hrow)) ?_|refine zc (ax.aC hb Z) ?_|refine zc (ax.aC (ax.jR hp hrow) Z) ?_|refine zc (hb) ?_|refine zc ((ax.jR hp hrow)) ?_))):p:=k
theorem D5(k:p:=by(try refine Pd.st ?_);(repeat(first|exact Pd.nil|exact Pd.fnil|refine Pd.inner ?_|refine Pd.skip (by decide +kernel) ?_|refine zf (zo 0 Z Z) ?_|refine zf (zm 0 Z Z) ?_|refine zf (ax.aC hb Z) ?_|refine zf (hb) ?_|refine zc (zo 0 Z Z) ?_|refine zc (zm 0 Z Z) ?_|refine zc (ax.aC hb Z) ?_|refine zc (hb) ?_))):p:=k
theorem yx(k:p:=by(try refine Pd.st ?_);(repeat(first|exact Pd.nil|exact Pd.fnil|refine Pd.inner ?_|refine Pd.skip (by decide +kernel) ?_|refine zf (ax.aC (ax.aC hb Z) Z) ?_|refine zf ((ax.aC hb Z)) ?_|refine zc (ax.aC (ax.aC hb Z) Z) ?_|refine zc ((ax.aC hb Z)) ?_))):p:=k
theorem Qn(k:p:=by rw[ByteArray.size_append,ByteArray.size_append,iO,iO,iO,iO];omega):p:=k
theorem Ql(k:p:=by rw[(wA he (by decide)).1,(wA he (by decide)).2,he];exact sP Z Z):p:=k
theorem Qo(k:p:=by show 0+k*1<_;rw[Nat.zero_add,List.length_append,fA F4];omega):p:=k
theorem P9(k:p:=by rw[List.length_append,refs,List.length_map,List.length_take];omega):p:=k
theorem jI(k:p:=by(repeat refine Pd.filter ?_);exact hS _ (.tail _ (.tail _ (.head _)))):p:=k
theorem rQ(k:p:=by(repeat refine Pd.filter ?_);exact hS _ (.tail _ (.head _))):p:=k
theorem ybk(k:p:=by rw[iO,iO];simp only[List.length_append];omega):p:=k
theorem Qm(k:p:=by rw[ByteArray.size_append,iO,iO,iO];omega):p:=k
theorem Qe(k:p:=by rw[List.take_zero,List.flatMap_nil,List.append_nil];rfl):p:=k
theorem IF(k:p:=by rw[show getM s=none from(by exact hG)];exact⟨rfl,Z⟩):p:=k
theorem Qa(k:p:=by exact(fun v L h=>⟨_,by rw[hch] at h;exact h.2,h.1,Z⟩)):p:=k
theorem yw(k:p:=by rw[jX,if_neg hb,if_neg h1,if_pos h2,hg]):p:=k
theorem P8(k:p:=by rw[Es h];show 0+15+n*1<21;omega):p:=k
theorem Qu(k:p:=by have:=(List.getElem?_eq_some_iff.1 hj).1;omega):p:=k
theorem Qh(k:p:=by unfold bA;repeat' split;all_goals omega):p:=k
theorem Qf(k:p:=by rw[e];simp only[List.append_assoc];rfl):p:=k
theorem P7(k:p:=by rw[fA u9,h.marks];omega):p:=k
theorem Qt(k:p:=by have:=hml.length_eq;dsimp only;omega):p:=k
theorem P5(k:p:=by have:=h0.wf.n0;have:=h0.len;omega):p:=k
theorem P_(k:p:=by show(0+c.ms.length)*16≤_;omega):p:=k
theorem IE(k:p:=by show 2+3≤_;rw[u_ ok];omega):p:=k
theorem yi(k:p:=by simpa using(List.mem_filter.1 hp1).2):p:=k
theorem Qd(k:p:=by show(done.length+1)*1≤_;omega):p:=k
theorem Qi(k:p:=by rw[←beq_eq_false_iff_ne.2 he];rfl):p:=k
theorem yl(k:p:=by simp[stepG,stepG.exec,Frame.atR]):p:=k
theorem D0(k:p:=by show(0+l.length)*16≤_;omega):p:=k
theorem P6(k:p:=by rw[zM,Va];exact hi2):p:=k
theorem yn(k:p:=by simp[dD,qn,h1];omega):p:=k
theorem Qb(k:p:=by rw[if_pos hyes];exact⟨p,Z,Z⟩):p:=k
theorem Qv(k:p:=by rw[List.length_singleton];omega):p:=k
theorem D4(k:p:=by simp only[cY];rw[hcr];rfl):p:=k
theorem Qs(k:p:=by rw[Array.size_modify];exact hx):p:=k
theorem yp(k:p:=by rw[List.length_append];omega):p:=k
theorem IA(k:p:=by show gP R.log _=0;omega):p:=k
theorem Qj(k:p:=by rw[if_neg hf];exact⟨rfl,Z⟩):p:=k
theorem ybz(k:p:=by rw[if_neg hE];exact⟨rfl,Z⟩):p:=k
theorem Qg(k:p:=by rw[hW];exact⟨a2,c2,Z,Z⟩):p:=k
theorem II(k:p:=by show ¬(0:Int)≤-1;decide):p:=k
theorem Ix(k:p:=by rw[List.length_take];omega):p:=k
theorem Qc(k:p:=by rw[hel];exact⟨_,_,Z,Z⟩):p:=k
theorem ybj(k:p:=by rw[iO,iO];omega):p:=k
theorem IH(k:p:=by rw[h1,h2,h3,h4];decide):p:=k
theorem yy(k:p:=by exact(fun v L h=>⟨_,h.2,h.1,Z⟩)):p:=k
theorem D3(k:p:=by show(0:Int)≤95;omega):p:=k
theorem IJ(k:p:=by as_aux_lemma=>kernel_rfl):p:=k
theorem IC(k:p:=by show ms.length≤_;omega):p:=k
theorem yh(k:p:=by rw[hpr] at h0;cases h0):p:=k
theorem yca(k:p:=by rw[hn];exact⟨rfl,Z⟩):p:=k
theorem IB(k:p:=by show 0≤900000;omega):p:=k
theorem ID(k:p:=by show 0≤800000;omega):p:=k
theorem Qk(k:p:=by show 12<21;omega):p:=k
theorem Bi(k:p:=by show 3<12;omega):p:=k
theorem Iz(k:p:=by rw[hwt];exact h2):p:=k
theorem P'(k:p:=by show 8<17;omega):p:=k
theorem D9(k:p:=by show 9<21;omega):p:=k
theorem yq(k:p:=by rw[e_,hc];rfl):p:=k
theorem D1(k:p:=by show 2<3;omega):p:=k
theorem uC(k:p:=by show 1<3;omega):p:=k
theorem f_(k:p:=by dsimp only;omega):p:=k
theorem Bj(k:p:=by rw[hlv];decide):p:=k
theorem D2(k:p:=by simp[ke,hr]):p:=k
theorem D7(k:p:=by rw[hf];decide):p:=k
theorem D8(k:p:=by rw[h2];decide):p:=k
theorem D_(k:p:=by rw[←hfc];rfl):p:=k
theorem yk(k:p:=by simpa using hi):p:=k
theorem yr(k:p:=by decide +kernel):p:=k
theorem cN(k:p:=by rw[h];decide):p:=k
theorem s_(k:p:=by simpa using k1):p:=k
theorem D'(k:p:=by simpa using hh):p:=k
theorem yc(k:p:=by simpa using h):p:=k
theorem s9(k:p:=by rw[h1];simp):p:=k
theorem yb(k:p:=by simp[hs.1]):p:=k
theorem ye(k:p:=by simp;omega):p:=k
theorem Bh(k:p:=by rw[e];rfl):p:=k
theorem oY(k:p:=by exact(fun v L h=>h)):p:=k
theorem ym(k:p:=by kernel_rfl):p:=k
theorem yg(k:p:=by simp[h1]):p:=k
theorem yj(k:p:=by simp[h2]):p:=k
theorem ya(k:p:=by simp[h]):p:=k
theorem pI(k:p:=by cases k):p:=k
theorem yo(k:p:=by decide):p:=k
theorem mT(k:p:=by rw[e]):p:=k
theorem yd(k:p:=by omega):p:=k
theorem yf(k:p:=by simp):p:=k
theorem Ou(k:p:=by exact⟨fun _ _=>trivial,hk Q' hQ _ _ _ (ha.bX hd _) (hG.put hf _) hw⟩):p:=k
theorem Dy(k:p:=by exact .inl ⟨_,E _ (fun w=>r1 w),h⟩):p:=k
theorem Dz(k:p:=by exact .inl ⟨_,E _ (fun w=>r2 w),h⟩):p:=k
theorem Ov(k:p:=by exact .inl ⟨v,fun a ha _ _ _ _ _ w=>by simp only[execOp,ha.ev hv];rfl,h⟩):p:=k
theorem Ow(k:p:=by exact .inl ⟨_,fun a ha _ _ _ _ _ w=>by simp only[execOp,ha.ev hv];rfl,h⟩):p:=k
theorem Ox(k:p:=by exact .inl ⟨_,fun a ha _ _ _ _ _ w=>by simp only[execOp,ha.ev hv,ha.ev hu];rfl,h⟩):p:=k
theorem Oy(k:p:=by exact List.nodup_append.2 ⟨hGn,hnl,fun x hx y hy he=>(hGb x hx).1 (.inr (he▸hy))⟩):p:=k
theorem Ht(k:p:=by exact⟨(hb b ya).1,Nat.lt_of_lt_of_le (hb b ya).2 h4.size⟩):p:=k
theorem Oz(k:p:=by exact h.cS.trans ⟨rfl,Z,Z,by rw[Ha];exact NR _,fun c hc=>FB fun he=>hf (he▸hc),NR _⟩):p:=k
theorem OA(k:p:=by exact hk v L' hm Q' hp0 hQ hsel ro _ _ w' hp.2 (ha.bX hd v) (hG.put hf v) hs (fun p hp1=>hst v L' hm w' hs p (List.mem_filter.1 hp1).1 yi)):p:=k
theorem uv(g:q)(k:Bq q→p:=by(intro zq;refine CS (VC.block ?_);exact zq.v)):p:=k ⟨g⟩
theorem aj(g:q)(k:Bq q→p:=by(intro zq;(repeat(first|refine zS ?_|refine zR ?_|refine zB ?_|refine zL ?_|refine zC ?_|refine zG (zN ?_)|refine zG (zD 0 rfl rfl rfl rfl ?_)));exact zq.v)):p:=k ⟨g⟩
theorem qC(g:q)(k:Bq q→p:=by(intro zq;refine VC.kM Z ?_;exact zq.v)):p:=k ⟨g⟩
theorem kD(g:q)(k:Bq q→p:=by(intro zq;(repeat(first|refine zS ?_|refine zR ?_|refine zB ?_|refine zL ?_|refine zC ?_|refine zG (zN ?_)|refine zG (zE rfl rfl (ax.aC hb rfl) ?_)));exact zq.v)):p:=k ⟨g⟩
theorem OB(g:q)(k:Bq q→p:=by(intro zq;refine VG (VI (fp i Z Z Z Z Z Z hi2) ?_);exact zq.v)):p:=k ⟨g⟩
theorem uw(g:q)(k:Bq q→p:=by(intro zq;refine VG (VO.load Z Z (ra _ _ Z Z) ?_);exact zq.v)):p:=k ⟨g⟩
theorem pF(g:q)(k:Bq q→p:=by(intro zq;refine VG (VP Z Z yd yd ?_);exact zq.v)):p:=k ⟨g⟩
theorem Hu(g:q)(k:Bq q→p:=by(intro zq;refine VG (VI (wX (u:=[]) (v:=[.pointer (some ⟨b,0,none⟩)]) Z Z) ?_);exact zq.v)):p:=k ⟨g⟩
theorem bW(g:q)(k:Bq q→p:=by(intro zq;(repeat(first|refine zS ?_|refine zR ?_|refine zB ?_|refine zL ?_|refine zC ?_|refine zG (zN ?_)|refine zG (zD 0 rfl rfl rfl rfl ?_)|refine zG (zU rfl rfl rfl ?_)));exact zq.v)):p:=k ⟨g⟩
theorem OD(k:p:=by exact⟨(),trivial,SC Z (Sub.bl Z (by simp[tT];omega) (SN _)),ER⟩):p:=k
theorem Hv(g:q)(k:Bq q→p:=by(intro zq;refine VG (VL 0 (c.cells a cap) Z Z Z Z ?_);exact zq.v)):p:=k ⟨g⟩
theorem AW(g:q)(k:Bq q→p:=by(intro zq;refine VG (VK (Lc:=[]) (fun Fr w hF hw _=>Mt (c:=c) (a:=a) (cap:=cap) Fr w) Z Z ?_);exact zq.v)):p:=k ⟨g⟩
theorem dz(g:q)(k:Bq q→p:=by(intro zq;(repeat(first|refine zS ?_|refine zR ?_|refine zB ?_|refine zL ?_|refine zC ?_|refine zG (zN ?_)|refine zG (zD 0 rfl rfl rfl rfl ?_)|refine zG (zD 1 rfl rfl rfl rfl ?_)));exact zq.v)):p:=k ⟨g⟩
theorem gK(g:q)(k:Bq q→p:=by(intro zq;(repeat(first|refine zS ?_|refine zR ?_|refine zB ?_|refine zL ?_|refine zC ?_|refine zG (zN ?_)|refine zG (zD 0 rfl rfl rfl rfl ?_)|refine zG (zD 1 rfl rfl rfl rfl ?_)|refine zG (zD 2 rfl rfl rfl rfl ?_)));exact zq.v)):p:=k ⟨g⟩
theorem AX(g:q)(k:Bq q→p:=by(intro zq;refine VG (VY 40 true Z Z ?_);exact zq.v)):p:=k ⟨g⟩
theorem jG(g:q)(k:Bq q→p:=by(intro zq;(repeat(first|refine zS ?_|refine zR ?_|refine zB ?_|refine zL ?_|refine zC ?_|refine zG (zN ?_)|refine zG (zD 0 rfl rfl rfl rfl ?_)|refine zG (zD 1 rfl rfl rfl rfl ?_)|refine zG (zD 2 rfl rfl rfl rfl ?_)|refine zG (zU rfl rfl rfl ?_)));exact zq.v)):p:=k ⟨g⟩
theorem xL(g:q)(k:Bq q→p:=by(intro zq;refine VG (VY 40 false Z Z ?_);exact zq.v)):p:=k ⟨g⟩
theorem g_(g:q)(k:Bq q→p:=by(intro zq;(repeat(first|refine zS ?_|refine zR ?_|refine zB ?_|refine zL ?_|refine zC ?_|refine zG (zN ?_)|refine zG (zD 0 rfl rfl rfl rfl ?_)|refine zG (zD 1 rfl rfl rfl rfl ?_)|refine zG (zU rfl rfl rfl ?_)));exact zq.v)):p:=k ⟨g⟩
theorem js(g:q)(k:Bq q→p:=by(intro zq;refine VC.kM Z (CK ?_);exact zq.v)):p:=k ⟨g⟩
theorem mz(g:q)(k:Bq q→p:=by(intro zq;refine VC.nj Z ?_;exact zq.v)):p:=k ⟨g⟩
theorem AZ(g:q)(k:Bq q→p:=by(intro zq;refine VG (VI (fp k Z Z Z Z Z Z hk) ?_);exact zq.v)):p:=k ⟨g⟩
theorem sW(k:p:=by exact CR (aq.tmp 2 Z Z aa.nil.ah ⟨rfl,Z⟩)):p:=k
theorem qD(g:q)(k:Bq q→p:=by(intro zq;refine VG (VO.xz Z Z yd yd ?_);exact zq.v)):p:=k ⟨g⟩
theorem DA(g:q)(k:Bq q→p:=by(intro zq;refine VG (VO.wz (u:=.int .i64 (placeOf c.ms n)) Z (fun Fr w hF hs hS=>CU Fr w (hS.aC 0 Z) (h.of hF hs) yd n) Z ?_);exact zq.v)):p:=k ⟨g⟩
theorem ux(g:q)(k:Bq q→p:=by(intro zq;refine VG (VL 1 (c.cells a cap) Z Z Z Z ?_);exact zq.v)):p:=k ⟨g⟩
theorem lg(g:q)(k:Bq q→p:=by(intro zq;refine VG (VN ?_);exact zq.v)):p:=k ⟨g⟩
theorem bt(g:q)(k:Bq q→p:=by(intro zq;(repeat(first|refine yG (yN ?_)|refine yG (yD 0 rfl rfl rfl rfl rfl ?_)));exact zq.v)):p:=k ⟨g⟩
theorem xM(g:q)(k:Bq q→p:=by(intro zq;refine AG (VA.xz Z Z Z yd yd ?_);exact zq.v)):p:=k ⟨g⟩
theorem Hw(k:p:=by exact CR (aq.tmp 4 Z Z aa.nil.ah ⟨rfl,Z⟩)):p:=k
theorem oA(g:q)(k:Bq q→p:=by(intro zq;(repeat(first|refine zS ?_|refine zR ?_|refine zB ?_|refine zL ?_|refine zC ?_|refine zG (zN ?_)|refine zG (zE rfl rfl (ax.aC h rfl) ?_)));exact zq.v)):p:=k ⟨g⟩
theorem Hx(g:q)(k:Bq q→p:=by(intro zq;refine VG (VV (fun Fr w hF hs _=>gy Fr w (h.of hF hs) hc) Z ?_);exact zq.v)):p:=k ⟨g⟩
theorem vL(k:p:=by exact CR (aq.int 2 Z Z Z ER ⟨rfl,Z⟩)):p:=k
theorem rL(g:q)(k:Bq q→p:=by(intro zq;(repeat(first|refine yG (yN ?_)|refine yG (yE rfl rfl rfl (ax.aC h rfl) ?_)));exact zq.v)):p:=k ⟨g⟩
theorem rM(g:q)(k:Bq q→p:=by(intro zq;refine AG (AP Z Z Z yd yd ?_);exact zq.v)):p:=k ⟨g⟩
theorem vM(k:p:=by exact CR (aq.bool 2 Z Z Z ER ⟨rfl,Z⟩)):p:=k
theorem DB(g:q)(k:Bq q→p:=by(intro zq;refine VG (VV (fun Fr w hF hs hS=>gy Fr w (hS.aC 0 Z) o1) Z ?_);exact zq.v)):p:=k ⟨g⟩
theorem Hy(k:p:=by exact CR (aq.tmp 4 Z Z ER ⟨by rw[hb],by rw[bz.gp,hb];rfl⟩)):p:=k
theorem vN(k:p:=by exact aq.void Z ER ⟨rfl,Z⟩):p:=k
theorem mA(g:q)(k:Bq q→p:=by(intro zq;refine CS (CG (VG (VN ?_)));exact zq.v)):p:=k ⟨g⟩
theorem ee(g:q)(k:Bq q→p:=by(intro zq;(repeat(first|refine yG (yN ?_)|refine yG (yD 0 rfl rfl rfl rfl rfl ?_)|refine yG (yU rfl rfl rfl rfl ?_)));exact zq.v)):p:=k ⟨g⟩
theorem Hz(k:p:=by exact CR (aq.dh 2 3 Z Z Z ER ⟨by rw[hb];rfl,by rw[bz.next,hb];rfl⟩)):p:=k
theorem HA(g:q)(k:Bq q→p:=by(intro zq;refine VG (VO.lW (fun Fr w=>iG Fr w o) Z ?_);exact zq.v)):p:=k ⟨g⟩
theorem DC(g:q)(k:Bq q→p:=by(intro zq;(repeat(first|refine zS ?_|refine zR ?_|refine zB ?_|refine zL ?_|refine zC ?_|refine zG (zN ?_)|refine zG (zD 0 rfl rfl rfl rfl ?_)|refine zG (zE rfl rfl (ax.aC hp rfl) ?_)));exact zq.v)):p:=k ⟨g⟩
theorem OE(g:q)(k:Bq q→p:=by(intro zq;refine VG (VY 5 false Z Z ?_);exact zq.v)):p:=k ⟨g⟩
theorem mB(k:p:=by exact CR (aq.tmp 2 Z Z ER ⟨rfl,Z⟩)):p:=k
theorem HB(g:q)(k:Bq q→p:=by(intro zq;refine VG (VV (fun Fr w hF hs _=>gy Fr w (h.of hF hs)) Z ?_);exact zq.v)):p:=k ⟨g⟩
theorem OF(g:q)(k:Bq q→p:=by(intro zq;refine VG (VI (LB (pv:=[]) (bb cF) Z Z Z ym Z) ?_);exact zq.v)):p:=k ⟨g⟩
theorem HC(g:q)(k:Bq q→p:=by(intro zq;refine VG (VT (vs:=bb cF) 0 Z Z Z Z (NR _) Z Z Z ?_);exact zq.v)):p:=k ⟨g⟩
theorem iL(g:q)(k:Bq q→p:=by(intro zq;(repeat(first|refine yG (yN ?_)|refine yG (yD 0 rfl rfl rfl rfl rfl ?_)|refine yG (yD 1 rfl rfl rfl rfl rfl ?_)|refine yG (yD 2 rfl rfl rfl rfl rfl ?_)|refine yG (yD 3 rfl rfl rfl rfl rfl ?_)));exact zq.v)):p:=k ⟨g⟩
theorem HD(g:q)(k:Bq q→p:=by(intro zq;refine CS (CD (ts 0 10 (.only 10 .nil)) ym yr ?_);exact zq.v)):p:=k ⟨g⟩
theorem rN(g:q)(k:Bq q→p:=by(intro zq;(repeat(first|refine yG (yN ?_)|refine yG (yD 0 rfl rfl rfl rfl rfl ?_)|refine yG (yD 1 rfl rfl rfl rfl rfl ?_)|refine yG (yD 2 rfl rfl rfl rfl rfl ?_)|refine yG (yD 3 rfl rfl rfl rfl rfl ?_)|refine yG (yD 4 rfl rfl rfl rfl rfl ?_)));exact zq.v)):p:=k ⟨g⟩
theorem oB(g:q)(k:Bq q→p:=by(intro zq;(repeat(first|refine zS ?_|refine zR ?_|refine zB ?_|refine zL ?_|refine zC ?_|refine zG (zN ?_)|refine zG (zD 0 rfl rfl rfl rfl ?_)|refine zG (zD 1 rfl rfl rfl rfl ?_)|refine zG (zD 2 rfl rfl rfl rfl ?_)|refine zG (zD 3 rfl rfl rfl rfl ?_)|refine zG (zD 4 rfl rfl rfl rfl ?_)));exact zq.v)):p:=k ⟨g⟩
theorem DD(g:q)(k:Bq q→p:=by(intro zq;refine CS (CD (ts 0 6 (.only 6 .nil)) ym yr ?_);exact zq.v)):p:=k ⟨g⟩
theorem HE(g:q)(k:Bq q→p:=by(intro zq;refine VG (VV (fun Fr w hF hs hS=>gy Fr w (hb.of hF hs)) Z ?_);exact zq.v)):p:=k ⟨g⟩
theorem xN(g:q)(k:Bq q→p:=by(intro zq;refine VG (VY 8 false Z Z ?_);exact zq.v)):p:=k ⟨g⟩
theorem A0(g:q)(k:Bq q→p:=by(intro zq;(repeat(first|refine yG (yN ?_)|refine yG (yE rfl rfl rfl (ax.aC hb rfl) ?_)));exact zq.v)):p:=k ⟨g⟩
theorem DE(g:q)(k:Bq q→p:=by(intro zq;(repeat(first|refine zS ?_|refine zR ?_|refine zB ?_|refine zL ?_|refine zC ?_|refine zG (zN ?_)|refine zG (zD 0 rfl rfl rfl rfl ?_)|refine zG (zD 1 rfl rfl rfl rfl ?_)|refine zG (zD 2 rfl rfl rfl rfl ?_)|refine zG (zD 3 rfl rfl rfl rfl ?_)|refine zG (zD 4 rfl rfl rfl rfl ?_)|refine zG (zD 5 rfl rfl rfl rfl ?_)));exact zq.v)):p:=k ⟨g⟩
theorem uy(g:q)(k:Bq q→p:=by(intro zq;(repeat(first|refine zS ?_|refine zR ?_|refine zB ?_|refine zL ?_|refine zC ?_|refine zG (zN ?_)|refine zG (zD 0 rfl rfl rfl rfl ?_)|refine zG (zD 1 rfl rfl rfl rfl ?_)|refine zG (zD 2 rfl rfl rfl rfl ?_)|refine zG (zD 3 rfl rfl rfl rfl ?_)|refine zG (zD 4 rfl rfl rfl rfl ?_)|refine zG (zD 5 rfl rfl rfl rfl ?_)|refine zG (zU rfl rfl rfl ?_)));exact zq.v)):p:=k ⟨g⟩
theorem DG(g:q)(k:Bq q→p:=by(intro zq;refine VG (VT (vs:=bb cF) 4 Z Z Z Z (NR _) Z Z Z ?_);exact zq.v)):p:=k ⟨g⟩
theorem mC(g:q)(k:Bq q→p:=by(intro zq;(repeat(first|refine yG (yN ?_)|refine yG (yD 0 rfl rfl rfl rfl rfl ?_)|refine yG (yD 1 rfl rfl rfl rfl rfl ?_)|refine yG (yD 2 rfl rfl rfl rfl rfl ?_)|refine yG (yD 3 rfl rfl rfl rfl rfl ?_)|refine yG (yD 4 rfl rfl rfl rfl rfl ?_)|refine yG (yD 5 rfl rfl rfl rfl rfl ?_)));exact zq.v)):p:=k ⟨g⟩
theorem OG(g:q)(k:Bq q→p:=by(intro zq;refine CS (CD (ts 0 6 (.only 6 (.only 7 (ts 8 2 (.only 10 .nil))))) ym yr ?_);exact zq.v)):p:=k ⟨g⟩
theorem A1(k:p:=by exact CR (aq.tmp 2 Z Z (aa.dM aa.nil).ah ⟨none,0,Z,Z⟩)):p:=k
theorem A2(k:p:=by exact CR (aq.tmp 2 Z Z ER ⟨a',c',Z,Z⟩)):p:=k
theorem DH(k:p:=by exact⟨s,h1,G,h2,by simpa using hn,fun b hb=>by simpa using hb⟩):p:=k
theorem HF(g:q)(k:Bq q→p:=by(intro zq;refine VO.ah (L':=[aA aU 2 (some ⟨b,0,none⟩) 0 0 []]) (aa.sl (M:=[]) (cs:=[]) (rest:=[]) Z (NR _) Z (aa.refl (L:=[pt b [] aU]))).ah ?_;exact zq.v)):p:=k ⟨g⟩
theorem OH(g:q)(k:Bq q→p:=by(intro zq;(repeat(first|refine zS ?_|refine zR ?_|refine zB ?_|refine zL ?_|refine zC ?_|refine zG (zN ?_)|refine zG (zD 0 rfl rfl rfl rfl ?_)|refine zG (zE rfl rfl (ax.aC hb rfl) ?_)));exact zq.v)):p:=k ⟨g⟩
theorem OI(k:p:=by exact CR (aq.tmp 4 Z Z (IP 0 Z (IP 0 Z aa.nil)).ah ⟨a,c,rows,h1,Z,Z⟩)):p:=k
theorem OJ(g:q)(k:Bq q→p:=by(intro zq;refine VG (VT (vs:=aY (f,m)) (cs':=aY (f,m)) 1 Z Z Z Z (NR _) Z Z Z (VG (VN ?_)));exact zq.v)):p:=k ⟨g⟩
theorem OK(g:q)(k:Bq q→p:=by(intro zq;refine VG (VT (vs:=aY fB) (cs':=aY fB) 0 Z Z Z Z (NR _) Z Z Z (VG (VN ?_)));exact zq.v)):p:=k ⟨g⟩
theorem fK(g:q)(k:Bq q→p:=by(intro zq;(repeat(first|refine yG (yN ?_)|refine yG (yD 0 rfl rfl rfl rfl rfl ?_)|refine yG (yD 1 rfl rfl rfl rfl rfl ?_)));exact zq.v)):p:=k ⟨g⟩
theorem jt(g:q)(k:Bq q→p:=by(intro zq;(repeat(first|refine yG (yN ?_)|refine yG (yD 0 rfl rfl rfl rfl rfl ?_)|refine yG (yD 1 rfl rfl rfl rfl rfl ?_)|refine yG (yD 2 rfl rfl rfl rfl rfl ?_)));exact zq.v)):p:=k ⟨g⟩
theorem HG(g:q)(k:Bq q→p:=by(intro zq;refine VG (VO.st 2 Z Z Z Z D1 Z Z (VG (VN ?_)));exact zq.v)):p:=k ⟨g⟩
theorem xO(g:q)(k:Bq q→p:=by(intro zq;refine VG (VI (fp k Z Z Z Z Z Z yd) ?_);exact zq.v)):p:=k ⟨g⟩
theorem OL(g:q)(k:Bq q→p:=by(intro zq;refine VG (VV (fun Fr w hF hs _=>Ring.kP Fr w ((h.ring k _ hr).of hF hs)) Z (VG (VN ?_)));exact zq.v)):p:=k ⟨g⟩
theorem OM(g:q)(k:Bq q→p:=by(intro zq;refine VG (VV (fun Fr w hF _ hs=>FC Fr w (a8.shut s0 h0 hs.tail)) Z (VG (VN ?_)));exact zq.v)):p:=k ⟨g⟩
theorem DI(g:q)(k:Bq q→p:=by(intro zq;refine VG (VO.ld 2 Z Z Z (hcell (j:=0) Z) ?_);exact zq.v)):p:=k ⟨g⟩
theorem HH(g:q)(k:Bq q→p:=by(intro zq;refine VG (VQ 2 (ψ:=fun v H=>v=.tuple #[]∧H=Wl p s.cb s.rows.length s.qT S.bw) Z (fun Fr w _ _ _=>Gr Fr w yd yd) Z (fun v L1 ⟨h1,h2⟩=>⟨_,h2,h1,Z⟩) ?_);exact zq.v)):p:=k ⟨g⟩
theorem ON(k:p:=by exact(aa.trans aa.tl (aa.trans aa.tl (aa.trans (aa.of_eq e) (xr (h.C8 hr hwf))))).ah):p:=k
theorem xP(g:q)(k:Bq q→p:=by(intro zq;refine VG (VO.ld 1 Z Z Z Z ?_);exact zq.v)):p:=k ⟨g⟩
theorem sX(g:q)(k:Bq q→p:=by(intro zq;refine CS (CG ?_);exact zq.v)):p:=k ⟨g⟩
theorem pG(g:q)(k:Bq q→p:=by(intro zq;refine VG (VO.ld 2 Z Z Z Z (VG (VO.ld 0 Z Z Z Z ?_)));exact zq.v)):p:=k ⟨g⟩
theorem A3(g:q)(k:Bq q→p:=by(intro zq;refine VG (VY 47 false Z Z ?_);exact zq.v)):p:=k ⟨g⟩
theorem HI(g:q)(k:Bq q→p:=by(intro zq;refine VG (VY 54 false Z Z ?_);exact zq.v)):p:=k ⟨g⟩
theorem xgl(g:q)(k:Bq q→p:=by(intro zq;refine VG (VY 61 false Z Z ?_);exact zq.v)):p:=k ⟨g⟩
theorem xgm(g:q)(k:Bq q→p:=by(intro zq;refine VG (VY 68 false Z Z ?_);exact zq.v)):p:=k ⟨g⟩
theorem xgn(g:q)(k:Bq q→p:=by(intro zq;refine VG (VY 75 false Z Z ?_);exact zq.v)):p:=k ⟨g⟩
theorem OO(g:q)(k:Bq q→p:=by(intro zq;refine VG (VY 82 false Z Z ?_);exact zq.v)):p:=k ⟨g⟩
theorem OP(g:q)(k:Bq q→p:=by(intro zq;refine AG (AO (aQ.dK (φ:=fun v=>v=.int .i64 (aG c.bC 1 6)) (fun Fr w _ _ _=>jD Fr w _ _ _) rfl) rfl (fun v L' h=>by obtain⟨_,rfl⟩:=h;exact jI) ?_);exact zq.v)):p:=k ⟨g⟩
theorem HJ(g:q)(k:Bq q→p:=by(intro zq;refine AG (AO (aQ.dK (φ:=fun v=>v=.int .i64 (aG c.queue 1 16)) (fun Fr w _ _ _=>jD Fr w _ _ _) rfl) rfl (fun v L' h=>by obtain⟨_,rfl⟩:=h;exact jI) ?_);exact zq.v)):p:=k ⟨g⟩
theorem DJ(g:q)(k:Bq q→p:=by(intro zq;refine AG (AO (aQ.dK (φ:=fun v=>v=.int .i64 (aG c.gZ 1 16)) (fun Fr w _ _ _=>jD Fr w _ _ _) rfl) rfl (fun v L' h=>by obtain⟨_,rfl⟩:=h;exact jI) ?_);exact zq.v)):p:=k ⟨g⟩
theorem A4(g:q)(k:Bq q→p:=by(intro zq;refine AG (AO (aQ.dK (φ:=fun v=>v=.int .i64 (aG c.reads 1 16)) (fun Fr w _ _ _=>jD Fr w _ _ _) rfl) rfl (fun v L' h=>by obtain⟨_,rfl⟩:=h;exact jI) ?_);exact zq.v)):p:=k ⟨g⟩
theorem xQ(g:q)(k:Bq q→p:=by(intro zq;refine AG (AO (aQ.dK (φ:=fun v=>v=.int .i64 (aG c.link 4 64)) (fun Fr w _ _ _=>jD Fr w _ _ _) rfl) rfl (fun v L' h=>by obtain⟨_,rfl⟩:=h;exact jI) ?_);exact zq.v)):p:=k ⟨g⟩
theorem vO(g:q)(k:Bq q→p:=by(intro zq;refine AG (AO (aQ.dK (φ:=fun v=>v=.int .i64 (aG c.fI 4 64)) (fun Fr w _ _ _=>jD Fr w _ _ _) rfl) rfl (fun v L' h=>by obtain⟨_,rfl⟩:=h;exact jI) ?_);exact zq.v)):p:=k ⟨g⟩
theorem uz(g:q)(k:Bq q→p:=by(intro zq;refine AG (AO (aQ.dK (φ:=fun v=>v=.int .i64 (aG c.timeout 4 64)) (fun Fr w _ _ _=>jD Fr w _ _ _) rfl) rfl (fun v L' h=>by obtain⟨_,rfl⟩:=h;exact jI) ?_);exact zq.v)):p:=k ⟨g⟩
theorem sY(g:q)(k:Bq q→p:=by(intro zq;refine AG (AO (aQ.dK (φ:=fun v=>v=.int .i64 (aG c.gr 0 16)) (fun Fr w _ _ _=>jD Fr w _ _ _) rfl) rfl (fun v L' h=>by obtain⟨_,rfl⟩:=h;exact jI) ?_);exact zq.v)):p:=k ⟨g⟩
theorem rO(g:q)(k:Bq q→p:=by(intro zq;refine AG (AO (aQ.dK (φ:=fun v=>v=.int .i64 (aG c.fE 1 1099511627776)) (fun Fr w _ _ _=>jD Fr w _ _ _) rfl) rfl (fun v L' h=>by obtain⟨_,rfl⟩:=h;exact jI) ?_);exact zq.v)):p:=k ⟨g⟩
theorem OQ(g:q)(k:Bq q→p:=by(intro zq;refine AG (AI Z (Uu Z Z) ?_);exact zq.v)):p:=k ⟨g⟩
theorem OR(g:q)(k:Bq q→p:=by(intro zq;refine AG (AT (vs:=[.int .i64 (aG c.nodes 1 6),.int .i64 (aG c.chain 1 (aG c.nodes 1 6)),.int .i64 (aG c.bC 1 6),.slice none 0 0,.int .i64 (aG c.queue 1 16),.int .i64 (aG c.gZ 1 16),.int .i64 (aG c.reads 1 16),.int .i64 (aG c.link 4 64),.int .i64 (aG c.fI 4 64),.int .i64 (aG c.timeout 4 64),.int .i64 (aG c.gr 0 16),.int .i64 (aG c.fE 1 1099511627776)]) (cs':=[.int .i64 (aG c.nodes 1 6),.int .i64 (aG c.chain 1 (aG c.nodes 1 6)),.int .i64 (aG c.bC 1 6),.slice none 0 0,.int .i64 (aG c.queue 1 16),.int .i64 (aG c.gZ 1 16),.int .i64 (aG c.reads 1 16),.int .i64 (aG c.link 4 64),.int .i64 (aG c.fI 4 64),.int .i64 (aG c.timeout 4 64),.int .i64 (aG c.gr 0 16),.int .i64 (aG c.fE 1 1099511627776)]) 0 Z Z Z Z Z (NR _) Z Z Z jI (AG (AN ?_)));exact zq.v)):p:=k ⟨g⟩
theorem OS(k:p:=by exact⟨d,trivial,aP,ER⟩):p:=k
theorem OT(g:q)(k:Bq q→p:=by(intro zq;refine VG (VI (LB (pv:=[(0,.int .i64 s),(1,.int .i64 t)]) (kS (s,t)) Z Z Z Z Z) ?_);exact zq.v)):p:=k ⟨g⟩
theorem HK(k:p:=by exact CR (aq.int 8 Z Z mT out ⟨rfl,by rw[e]⟩)):p:=k
theorem DK(g:q)(k:Bq q→p:=by(intro zq;refine CD (ts 0 6 (.only 6 .nil)) ym yr ?_;exact zq.v)):p:=k ⟨g⟩
theorem oX(g:q)(k:Bq q→p:=by(intro zq;(repeat(first|refine yG (yN ?_)|refine yG (yD 0 rfl rfl rfl rfl rfl ?_)|refine yG (yE rfl rfl rfl (ax.aC hb rfl) ?_)));exact zq.v)):p:=k ⟨g⟩
theorem pH(g:q)(k:Bq q→p:=by(intro zq;refine AG (VA.V1 Z Z ?_);exact zq.v)):p:=k ⟨g⟩
theorem OU(g:q)(k:Bq q→p:=by(intro zq;refine AG (AY 38 false Z Z ?_);exact zq.v)):p:=k ⟨g⟩
theorem xhh(g:q)(k:Bq q→p:=by(intro zq;refine AG (AY 43 false Z Z ?_);exact zq.v)):p:=k ⟨g⟩
theorem xhi(g:q)(k:Bq q→p:=by(intro zq;refine AG (AY 48 false Z Z ?_);exact zq.v)):p:=k ⟨g⟩
theorem xhj(g:q)(k:Bq q→p:=by(intro zq;refine AG (AY 54 false Z Z ?_);exact zq.v)):p:=k ⟨g⟩
theorem DL(g:q)(k:Bq q→p:=by(intro zq;refine AG (AI Z (kq n Z Z Z Z Z hcl hn) ?_);exact zq.v)):p:=k ⟨g⟩
theorem DM(k:p:=by exact CR (aq.int 6 Z Z mT out ⟨rfl,by rw[e]⟩)):p:=k
theorem HL(k:p:=by exact CR (aq.int 6 Z Z mT (L':=[_]) aa.tl.ah ⟨rfl,by rw[e]⟩)):p:=k
theorem DN(g:q)(k:Bq q→p:=by(intro zq;(repeat(first|refine yG (yN ?_)|refine yG (yD 0 rfl rfl rfl rfl rfl ?_)|refine yG (yE rfl rfl rfl (ax.aC h rfl) ?_)));exact zq.v)):p:=k ⟨g⟩
theorem DO(g:q)(k:Bq q→p:=by(intro zq;refine AG (VA.load Z Z Z (ax.jR (ds:=R.ch.cells x.a x.c) h Z) ?_);exact zq.v)):p:=k ⟨g⟩
theorem OV(g:q)(k:Bq q→p:=by(intro zq;refine CS (CD (.take 0 (.only 1 (ts 2 5 (ts 8 4 (.only 7 (ts 12 3 .nil)))))) ym yr ?_);exact zq.v)):p:=k ⟨g⟩
theorem HM(g:q)(k:Bq q→p:=by(intro zq;refine AG (AR (fun Fr w hF hs hS=>KH Fr w (h.of hF hs)) Z Z yu ?_);exact zq.v)):p:=k ⟨g⟩
theorem uA(g:q)(k:Bq q→p:=by(intro zq;(repeat(first|refine yG (yN ?_)|refine yG (yE rfl rfl rfl (ax.aC h rfl) ?_)|refine yG (yU rfl rfl rfl rfl ?_)));exact zq.v)):p:=k ⟨g⟩
theorem HN(k:p:=by exact aq.void Z (IP 1 Z aa.nil).ah ⟨rfl,Z⟩):p:=k
theorem OW(k:p:=by exact⟨(),trivial,SC Z (SC Z (SC Z (Sub.int Z (by rw[hd];rfl) (SN _)))),ER⟩):p:=k
theorem sZ(g:q)(k:Bq q→p:=by(intro zq;(repeat(first|refine zS ?_|refine zR ?_|refine zB ?_|refine zL ?_|refine zC ?_|refine zG (zN ?_)|refine zG (zE rfl rfl (ax.aC hb rfl) ?_)|refine zG (zU rfl rfl rfl ?_)));exact zq.v)):p:=k ⟨g⟩
theorem xR(g:q)(k:Bq q→p:=by(intro zq;refine VC.bJ 0 Z (ba.rep p R) ?_;exact zq.v)):p:=k ⟨g⟩
theorem OX(g:q)(k:Bq q→p:=by(intro zq;refine VG (VV (fun Fr w hF hs hS=>AJ Fr w (hS.aC 0 Z) (aV.aA cn (hS.at_ 1 Z)) ok.ch) Z ?_);exact zq.v)):p:=k ⟨g⟩
theorem OY(g:q)(k:Bq q→p:=by(intro zq;refine VG (VV (fun Fr w hF hs hS=>Win.BV Fr w (hS.aC 3 Z) w0) Z ?_);exact zq.v)):p:=k ⟨g⟩
theorem OZ(g:q)(k:Bq q→p:=by(intro zq;refine VG (VV (fun Fr w hF hs hS=>Win.pk Fr w (hS.aC 3 Z) w0) Z ?_);exact zq.v)):p:=k ⟨g⟩
theorem uB(g:q)(k:Bq q→p:=by(intro zq;(repeat(first|refine yG (yN ?_)|refine yG (yD 0 rfl rfl rfl rfl rfl ?_)|refine yG (yD 1 rfl rfl rfl rfl rfl ?_)|refine yG (yD 2 rfl rfl rfl rfl rfl ?_)|refine yG (yD 3 rfl rfl rfl rfl rfl ?_)|refine yG (yD 4 rfl rfl rfl rfl rfl ?_)|refine yG (yD 5 rfl rfl rfl rfl rfl ?_)|refine yG (yD 6 rfl rfl rfl rfl rfl ?_)|refine yG (yD 7 rfl rfl rfl rfl rfl ?_)));exact zq.v)):p:=k ⟨g⟩
theorem O0(g:q)(k:Bq q→p:=by(intro zq;refine CS (CD (ts 0 2 (.only 2 .nil)) ym yr ?_);exact zq.v)):p:=k ⟨g⟩
theorem O1(g:q)(k:Bq q→p:=by(intro zq;refine AG (VA.dQ 6 (bb cF) Z Z Z Z Z ?_);exact zq.v)):p:=k ⟨g⟩
theorem xic(g:q)(k:Bq q→p:=by(intro zq;refine AG (AT (vs:=bb cF) 6 Z Z Z Z Z (NR _) Z Z Z yu ?_);exact zq.v)):p:=k ⟨g⟩
theorem vP(g:q)(k:Bq q→p:=by(intro zq;(repeat(first|refine zS ?_|refine zR ?_|refine zB ?_|refine zL ?_|refine zC ?_|refine zG (zN ?_)|refine zG (zD 0 rfl rfl rfl rfl ?_)|refine zG (zD 1 rfl rfl rfl rfl ?_)|refine zG (zD 2 rfl rfl rfl rfl ?_)|refine zG (zD 3 rfl rfl rfl rfl ?_)|refine zG (zD 4 rfl rfl rfl rfl ?_)|refine zG (zD 5 rfl rfl rfl rfl ?_)|refine zG (zD 6 rfl rfl rfl rfl ?_)|refine zG (zD 7 rfl rfl rfl rfl ?_)));exact zq.v)):p:=k ⟨g⟩
theorem O2(k:p:=by exact⟨(),trivial,SC Z (SC Z (SC Z (SC Z (SC Z (SC Z (SC Z (Sub.bl Z Z (SN _)))))))),ER⟩):p:=k
theorem DP(g:q)(k:Bq q→p:=by(intro zq;refine VC.bJ 1 Z (ba.rep p R) ?_;exact zq.v)):p:=k ⟨g⟩
theorem A5(g:q)(k:Bq q→p:=by(intro zq;refine VG (VV (fun Fr w hF hs hS=>KM Fr w (hS.aC 0 Z) f _) Z ?_);exact zq.v)):p:=k ⟨g⟩
theorem O3(g:q)(k:Bq q→p:=by(intro zq;(repeat(first|refine zS ?_|refine zR ?_|refine zB ?_|refine zL ?_|refine zC ?_|refine zG (zN ?_)|refine zG (zD 0 rfl rfl rfl rfl ?_)|refine zG (zD 1 rfl rfl rfl rfl ?_)|refine zG (zD 2 rfl rfl rfl rfl ?_)|refine zG (zD 3 rfl rfl rfl rfl ?_)|refine zG (zD 4 rfl rfl rfl rfl ?_)|refine zG (zD 5 rfl rfl rfl rfl ?_)|refine zG (zD 6 rfl rfl rfl rfl ?_)));exact zq.v)):p:=k ⟨g⟩
theorem qE(g:q)(k:Bq q→p:=by(intro zq;(repeat(first|refine yG (yN ?_)|refine yG (yD 0 rfl rfl rfl rfl rfl ?_)|refine yG (yD 1 rfl rfl rfl rfl rfl ?_)|refine yG (yD 2 rfl rfl rfl rfl rfl ?_)|refine yG (yD 3 rfl rfl rfl rfl rfl ?_)|refine yG (yD 4 rfl rfl rfl rfl rfl ?_)|refine yG (yD 5 rfl rfl rfl rfl rfl ?_)|refine yG (yD 6 rfl rfl rfl rfl rfl ?_)));exact zq.v)):p:=k ⟨g⟩
theorem O4(k:p:=by exact⟨h.ch,h.an,h.last,h.ku,h.kR,h.ie,h.ig,h.rl,h.kW,h.lM,h.jn,h.calls,h.wf⟩):p:=k
theorem O5(g:q)(k:Bq q→p:=by(intro zq;refine CD (ts 0 5 (.two 5 9 (ts 6 3 (.only 9 (.only 10 (.take 11 .nil)))) (.only 5 (ts 6 3 (.only 10 (.take 11 .nil)))))) ym yr ?_;exact zq.v)):p:=k ⟨g⟩
theorem O6(g:q)(k:Bq q→p:=by(intro zq;refine VG (VV (fun Fr w hF hs hS=>Rep.sH Fr w (hS.aC 0 Z) (aV.aA cn (hS.at_ 1 Z)) ok.ch) Z ?_);exact zq.v)):p:=k ⟨g⟩
theorem HO(g:q)(k:Bq q→p:=by(intro zq;refine VG (VO.load Z Z ((hrd 1 Z).1 _ Z Z) ?_);exact zq.v)):p:=k ⟨g⟩
theorem O7(g:q)(k:Bq q→p:=by(intro zq;refine AG (AI Z (LB (pv:=[(0,.int .i64 (R.log.length+1)),(1,.int .i64 (db R now).aF),(2,.int .i64 (db R now).seq),(3,.agg (db R now).op.cells.toArray)]) (bZ (eG R now)) Z Z Z ym Z) ?_);exact zq.v)):p:=k ⟨g⟩
theorem O8(g:q)(k:Bq q→p:=by(intro zq;refine AG (AT (vs:=bb (oo R.log (eG R now))) 0 Z Z Z Z Z (NR _) Z Z Z yu ?_);exact zq.v)):p:=k ⟨g⟩
theorem HQ(g:q)(k:Bq q→p:=by(intro zq;refine VG (VV (fun Fr w hF hs hS=>tZ Fr w (hS.aC 0 Z)) Z ?_);exact zq.v)):p:=k ⟨g⟩
theorem HR(g:q)(k:Bq q→p:=by(intro zq;refine VG (VI (wX (u:=[.pointer (some ⟨ob,0,none⟩)]) (v:=[]) Z Z) ?_);exact zq.v)):p:=k ⟨g⟩
theorem HS(g:q)(k:Bq q→p:=by(intro zq;refine VG (VO.load Z Z ((hrd 0 Z).1 _ Z Z) ?_);exact zq.v)):p:=k ⟨g⟩
theorem HT(g:q)(k:Bq q→p:=by(intro zq;refine VG (VT (vs:=dw g) 0 Z Z Z Z (NR _) Z Z Z ?_);exact zq.v)):p:=k ⟨g⟩
theorem O9(g:q)(k:Bq q→p:=by(intro zq;refine VO.ah (L':=[aA aU 2 none 0 0 [],pt d [.int .i64 0,.slice none 0 0,.int .i64 0] dP,pt b (c.cells a cap) dP]) (aa.dM (bm [0,0])).ah ?_;exact zq.v)):p:=k ⟨g⟩
theorem HU(k:p:=by exact CR (aq.cell 2 Z Z Z (ax.many 1 Z Z) (IP 0 Z aa.nil).ah ⟨a',c',Z,Z⟩)):p:=k
theorem O_(g:q)(k:Bq q→p:=by(intro zq;refine VG (VK (Lc:=[]) (fun Fr w hF hs _=>RU Fr w (hm.of hF hs) yd) Z Z ?_);exact zq.v)):p:=k ⟨g⟩
theorem O'(g:q)(k:Bq q→p:=by(intro zq;refine VG (VO.st 0 (cs':=bx { iQ R c with whole:=false } y) Z Z Z Z P' Z Z ?_);exact zq.v)):p:=k ⟨g⟩
theorem HV(g:q)(k:Bq q→p:=by(intro zq;refine VG (VT (vs:=qU.cells none 0) (cs':=qU.cells none 0) 0 Z Z Z Z (NR _) Z Z Z ?_);exact zq.v)):p:=k ⟨g⟩
theorem HW(g:q)(k:Bq q→p:=by(intro zq;refine CR (aq.dh 6 7 Z Z Z aa.nil.ah ?_);exact zq.v)):p:=k ⟨g⟩
theorem xS(k:p:=by exact⟨rfl,Z,Z,Z,Z⟩):p:=k
theorem s8(g:q)(k:Bq q→p:=by(intro zq;(repeat(first|refine yG (yN ?_)|refine yG (yD 0 rfl rfl rfl rfl rfl ?_)|refine yG (yD 1 rfl rfl rfl rfl rfl ?_)|refine yG (yD 2 rfl rfl rfl rfl rfl ?_)|refine yG (yD 3 rfl rfl rfl rfl rfl ?_)|refine yG (yD 4 rfl rfl rfl rfl rfl ?_)|refine yG (yD 5 rfl rfl rfl rfl rfl ?_)|refine yG (yD 6 rfl rfl rfl rfl rfl ?_)|refine yG (yD 7 rfl rfl rfl rfl rfl ?_)|refine yG (yU rfl rfl rfl rfl ?_)));exact zq.v)):p:=k ⟨g⟩
theorem xjb(g:q)(k:Bq q→p:=by(intro zq;refine VG (VL 7 (cM f (ma,ms.length,mc)) Z Z Z Z ?_);exact zq.v)):p:=k ⟨g⟩
theorem A6(g:q)(k:Bq q→p:=by(intro zq;refine VO.ah (L':=[bp p R,aZ ob []]) shut ?_;exact zq.v)):p:=k ⟨g⟩
theorem qF(k:p:=by exact⟨(),trivial,aP,none_ hT⟩):p:=k
theorem Pa(g:q)(k:Bq q→p:=by(intro zq;refine VG (VV (fun Fr w hF hs hS=>Rep.CY Fr w (hS.aC 0 Z) (aV.aA cn (hS.at_ 1 Z)) ok.ch) Z ?_);exact zq.v)):p:=k ⟨g⟩
theorem ae(g:q)(k:Bq q→p:=by(intro zq;(repeat(first|refine zS ?_|refine zR ?_|refine zB ?_|refine zL ?_|refine zC ?_|refine zG (zN ?_)));exact zq.v)):p:=k ⟨g⟩
theorem aw(g:q)(k:Bq q→p:=by(intro zq;(repeat(first|refine zS ?_|refine zR ?_|refine zB ?_|refine zL ?_|refine zC ?_|refine zG (zN ?_)|refine zG (zU rfl rfl rfl ?_)));exact zq.v)):p:=k ⟨g⟩
theorem jH(g:q)(k:Bq q→p:=by(intro zq;(repeat(first|refine zS ?_|refine zR ?_|refine zB ?_|refine zL ?_|refine zC ?_|refine zG (zN ?_)|refine zG (zE rfl rfl (ax.aC h rfl) ?_)|refine zG (zU rfl rfl rfl ?_)));exact zq.v)):p:=k ⟨g⟩
theorem dp(g:q)(k:Bq q→p:=by(intro zq;(repeat(first|refine yG (yN ?_)));exact zq.v)):p:=k ⟨g⟩
theorem Pb(g:q)(k:Bq q→p:=by(intro zq;refine VG (VT (vs:=dR mj) (cs':=dR mj) 0 Z Z Z Z (NR _) Z Z Z ?_);exact zq.v)):p:=k ⟨g⟩
theorem Pc(k:p:=by exact CR (aq.dB 2 3 Z Z Z (ax.many (ds:=dR mj) 0 Z Z) Z aa.nil.ah ⟨rfl,Z⟩)):p:=k
theorem xT(k:p:=by exact CR (aq.tmp 4 Z Z ER ⟨rfl,Z⟩)):p:=k
theorem Pe(g:q)(k:Bq q→p:=by(intro zq;refine VG (VI (Uy i (i+1) l.length Z Z Z Z Z Z Z Z Z Z yd yd hcap) ?_);exact zq.v)):p:=k ⟨g⟩
theorem HX(g:q)(k:Bq q→p:=by(intro zq;refine CD (ts 0 6 (.only 6 (.take 7 .nil))) ym yr ?_;exact zq.v)):p:=k ⟨g⟩
theorem Pf(g:q)(k:Bq q→p:=by(intro zq;refine VG (VI (K3 (l.length-1) l.length Z Z Z Z Z Z Z Z yd hcap yd) ?_);exact zq.v)):p:=k ⟨g⟩
theorem Pg(g:q)(k:Bq q→p:=by(intro zq;refine VG (VV (u:=GH none) (fun Fr w hF hw _=>hr▸C6 Fr w s hs) Z ?_);exact zq.v)):p:=k ⟨g⟩
theorem Ph(g:q)(k:Bq q→p:=by(intro zq;refine VG (VV (u:=GH (some (u,r))) (fun Fr w hF hw _=>hr▸C6 Fr w s hs) Z ?_);exact zq.v)):p:=k ⟨g⟩
theorem A7(g:q)(k:Bq q→p:=by(intro zq;refine AG (AI Z (sE Z Z ybj) ?_);exact zq.v)):p:=k ⟨g⟩
theorem DQ(g:q)(k:Bq q→p:=by(intro zq;refine VG (VI (sE Z Z ybk) ?_);exact zq.v)):p:=k ⟨g⟩
theorem HY(g:q)(k:Bq q→p:=by(intro zq;refine VG (VV (fun Fr w hF hw _=>hv▸R9 Fr w r yd) Z ?_);exact zq.v)):p:=k ⟨g⟩
theorem HZ(g:q)(k:Bq q→p:=by(intro zq;refine VG (VI (LB (pv:=[]) (bB.cells ⟨0,bT [],bT [],0⟩) Z Z Z ym Z) ?_);exact zq.v)):p:=k ⟨g⟩
theorem H0(g:q)(k:Bq q→p:=by(intro zq;refine VG (VT (vs:=bB.cells ⟨0,bT [],bT [],0⟩) (cs':=bB.cells ⟨0,bT [],bT [],0⟩) 1 Z Z Z Z (NR _) Z Z Z ?_);exact zq.v)):p:=k ⟨g⟩
theorem Pj(g:q)(k:Bq q→p:=by(intro zq;refine VG (VI (LB (pv:=[]) (fX.cells none 0) Z Z Z ym Z) ?_);exact zq.v)):p:=k ⟨g⟩
theorem Pk(g:q)(k:Bq q→p:=by(intro zq;refine VG (VT (vs:=fX.cells none 0) (cs':=fX.cells none 0) 0 Z Z Z Z (NR _) Z Z Z ?_);exact zq.v)):p:=k ⟨g⟩
theorem H2(g:q)(k:Bq q→p:=by(intro zq;refine VG (VK (Lc:=[]) (fun Fr w hF hw _=>Tp (c:=c) (a:=a) (cap:=cap) Fr w (h.of hF hw) hl) Z Z ?_);exact zq.v)):p:=k ⟨g⟩
theorem H3(g:q)(k:Bq q→p:=by(intro zq;refine VG (VT (vs:=fX.cells ma mc) (cs':=fX.cells ma mc) 1 Z Z Z Z (NR _) Z Z Z ?_);exact zq.v)):p:=k ⟨g⟩
theorem xka(g:q)(k:Bq q→p:=by(intro zq;refine VG (VT (vs:=fX.cells none 0) (cs':=fX.cells none 0) 1 Z Z Z Z (NR _) Z Z Z ?_);exact zq.v)):p:=k ⟨g⟩
theorem H4(g:q)(k:Bq q→p:=by(intro zq;refine VG (VT (vs:=(aW.mk (c.ar+1) c.ms c.drain).cells ma mc) (cs':=(aW.mk (c.ar+1) c.ms c.drain).cells ma mc) 1 Z Z Z Z (NR _) Z Z Z ?_);exact zq.v)):p:=k ⟨g⟩
theorem Pm(g:q)(k:Bq q→p:=by(intro zq;refine VG (VV (fun Fr w hF hw _=>Ur (c:=c) (a:=a) (cap:=cap) Fr w (h.of hF hw) hl n) Z ?_);exact zq.v)):p:=k ⟨g⟩
theorem H5(g:q)(k:Bq q→p:=by(intro zq;refine VG (VO.load Z Z (ax.jR (ds:=M.ch.cells a c) h UQ) ?_);exact zq.v)):p:=k ⟨g⟩
theorem Pn(g:q)(k:Bq q→p:=by(intro zq;refine VG (VK (Lc:=[]) (fun Fr w hF hw _=>Ly Fr w (hm.of hF hw) yd) Z Z ?_);exact zq.v)):p:=k ⟨g⟩
theorem DR(g:q)(k:Bq q→p:=by(intro zq;refine VG (VT (vs:=aH x) (cs':=aH x) 0 Z Z Z Z (NR _) Z Z Z ?_);exact zq.v)):p:=k ⟨g⟩
theorem A8(g:q)(k:Bq q→p:=by(intro zq;refine VC.bJ 0 Z (ba.au p M) ?_;exact zq.v)):p:=k ⟨g⟩
theorem A9(g:q)(k:Bq q→p:=by(intro zq;refine VG (VL 0 (M.ch.cells a c) Z Z Z Z ?_);exact zq.v)):p:=k ⟨g⟩
theorem A_(g:q)(k:Bq q→p:=by(intro zq;refine VG (VV (fun Fr w hF hw hS=>LK Fr w ok (hS.aC 0 Z)) Z ?_);exact zq.v)):p:=k ⟨g⟩
theorem Po(g:q)(k:Bq q→p:=by(intro zq;refine VG (VK (Lc:=[]) (fun Fr w hF hw hS=>FW Fr w ok (hS.aC 0 Z) (aV.aA cn (hS.at_ 1 Z)) from_) Z Z ?_);exact zq.v)):p:=k ⟨g⟩
theorem Pp(k:p:=by exact CR (aq.tmp 8 Z Z (Gi (a:=a) (c:=c) (R:=[_])).ah (Df (x:=(gu M.ch from_,y)) Z Z))):p:=k
theorem xU(k:p:=by exact CR (aq.tmp 8 Z Z (ry (a:=a) (c:=c) (R:=[_])).ah (xv Z Z))):p:=k
theorem H6(g:q)(k:Bq q→p:=by(intro zq;refine AG (AI Z (kq j Z Z Z Z Z hj hj6) ?_);exact zq.v)):p:=k ⟨g⟩
theorem Pq(k:p:=by exact CR (aq.tmp 8 Z Z (ry (M:=M.iv from_ now) (a:=a) (c:=c) (R:=[_])).ah (xv Z Z))):p:=k
theorem ju(g:q)(k:Bq q→p:=by(intro zq;(repeat(first|refine yG (yN ?_)|refine yG (yD 0 rfl rfl rfl rfl rfl ?_)|refine yG (yD 1 rfl rfl rfl rfl rfl ?_)|refine yG (yU rfl rfl rfl rfl ?_)));exact zq.v)):p:=k ⟨g⟩
theorem fi(g:q)(k:Bq q→p:=by(intro zq;(repeat(first|refine yG (yN ?_)|refine yG (yU rfl rfl rfl rfl ?_)));exact zq.v)):p:=k ⟨g⟩
theorem Pr(g:q)(k:Bq q→p:=by(intro zq;refine VG (VV (fun Fr w hF hw hS=>LL Fr w ok (hS.aC 0 Z) (aV.aA cn (hS.at_ 1 Z)) n) Z ?_);exact zq.v)):p:=k ⟨g⟩
theorem Ps(g:q)(k:Bq q→p:=by(intro zq;refine VG (VV (fun Fr w hF hw hS=>FY Fr w ok (hS.aC 0 Z) (aV.aA cn (hS.at_ 1 Z)) n) Z ?_);exact zq.v)):p:=k ⟨g⟩
theorem H7(g:q)(k:Bq q→p:=by(intro zq;refine VG (VV (fun Fr w hF hw _=>JP Fr w ok (h.of hF hw)) Z ?_);exact zq.v)):p:=k ⟨g⟩
theorem Pt(g:q)(k:Bq q→p:=by(intro zq;refine VG (VO.load (v:=.pointer (some ⟨y.b,0,none⟩)) Z Z (ax.aC h (hv _ ho)) ?_);exact zq.v)):p:=k ⟨g⟩
theorem vQ(g:q)(k:Bq q→p:=by(intro zq;refine VC.bJ 0 Z (ba.du p S) ?_;exact zq.v)):p:=k ⟨g⟩
theorem DS(g:q)(k:Bq q→p:=by(intro zq;refine CN (L':=[bR p S]) (aa.du y aa.refl).ah ?_;exact zq.v)):p:=k ⟨g⟩
theorem H8(g:q)(k:Bq q→p:=by(intro zq;refine VG (VK (Lc:=[bR p S]) (Lr:=[]) (fun Fr w hF hw _=>EM Fr w ho reason) Z Z ?_);exact zq.v)):p:=k ⟨g⟩
theorem xV(k:p:=by exact CR (aq.tmp 6 Z Z ER ⟨X,sa,sc,hX,Z,List.append_nil _⟩)):p:=k
theorem Pu(g:q)(k:Bq q→p:=by(intro zq;refine VG (VO.st 0 (cs':=dv { S with unsure:=true } y) Z Z Z Z Qk Z Z ?_);exact zq.v)):p:=k ⟨g⟩
theorem H9(g:q)(k:Bq q→p:=by(intro zq;refine VG (VV (fun Fr w hF hw hS=>JP Fr w ok (hS.aC 0 Z)) Z ?_);exact zq.v)):p:=k ⟨g⟩
theorem H_(g:q)(k:Bq q→p:=by(intro zq;refine VG (VV (fun Fr w hF hw _=>R_ Fr w now) Z ?_);exact zq.v)):p:=k ⟨g⟩
theorem xlb(k:p:=by exact CR (aq.tmp 6 Z Z (wD (y:=y) (R:=[_])).ah (AB Z Z))):p:=k
theorem DU(k:p:=by exact CR (aq.tmp 4 Z Z ER ⟨X,sa,sc,hX,Z,List.append_nil _⟩)):p:=k
theorem DV(k:p:=by exact CR (aq.tmp 4 Z Z (wD (y:=y) (R:=[])).ah (AB Z Z))):p:=k
theorem Pv(g:q)(k:Bq q→p:=by(intro zq;refine VG (VK (Lc:=[bR p S]) (Lr:=[]) (fun Fr w hF hw _=>JC Fr w ok tn) Z Z ?_);exact zq.v)):p:=k ⟨g⟩
theorem Pw(g:q)(k:Bq q→p:=by(intro zq;refine CN (L':=[bR p (S.begun o cl d)]) (aa.du (S:=S.begun o cl d) { y with b:=sb } (bm [0,0,0,0])).ah ?_;exact zq.v)):p:=k ⟨g⟩
theorem Ia(k:p:=by exact CR (aq.dh 4 5 Z Z Z aa.nil.ah ybz)):p:=k
theorem DW(k:p:=by exact CR (aq.tmp 8 Z Z (fin a cap) ⟨by rw[hE],by rw[bE.wA hE yo]⟩)):p:=k
theorem Px(g:q)(k:Bq q→p:=by(intro zq;refine VG (VV (fun Fr w hF hw hS=>Uc Fr w ok (hS.aC 0 Z) (aV.aA sN (hS.at_ 1 Z)) c) Z ?_);exact zq.v)):p:=k ⟨g⟩
theorem Py(k:p:=by exact CR (aq.tmp 8 Z Z (fin _ _) ⟨by rw[hE2],by rw[bE.wA hE2 yo]⟩)):p:=k
theorem DX(k:p:=by exact CR (aq.tmp 8 Z Z fin ⟨by rw[g2],by rw[g1]⟩)):p:=k
theorem xll(g:q)(k:Bq q→p:=by(intro zq;refine VG (VI (LB (pv:=[]) lB Z Z Z ym Z) ?_);exact zq.v)):p:=k ⟨g⟩
theorem xlm(g:q)(k:Bq q→p:=by(intro zq;refine VG (VT (vs:=lB) (cs':=lB) 4 Z Z Z Z (NR _) Z Z Z ?_);exact zq.v)):p:=k ⟨g⟩
theorem xW(k:p:=by exact CR (aq.dB 2 3 Z Z Z (ax.many (ds:=lB) 4 Z Z) Z aa.nil.ah yca)):p:=k
theorem DY(g:q)(k:Bq q→p:=by(intro zq;(repeat(first|refine zS ?_|refine zR ?_|refine zB ?_|refine zL ?_|refine zC ?_|refine zG (zN ?_)|refine zG (zD 0 rfl rfl rfl rfl ?_)|refine zG (zD 1 rfl rfl rfl rfl ?_)|refine zG (zD 2 rfl rfl rfl rfl ?_)|refine zG (zD 3 rfl rfl rfl rfl ?_)));exact zq.v)):p:=k ⟨g⟩
theorem Pz(g:q)(k:Bq q→p:=by(intro zq;refine VG (VL 0 ((aW.mk k1 ms dr).cells (some ⟨mb,0,none⟩) k) Z Z Z Z ?_);exact zq.v)):p:=k ⟨g⟩
theorem PA(g:q)(k:Bq q→p:=by(intro zq;refine VG (VT (vs:=C7 f.res) (cs':=C7 f.res) 0 Z Z Z Z (NR _) Z Z Z ?_);exact zq.v)):p:=k ⟨g⟩
theorem PB(g:q)(k:Bq q→p:=by(intro zq;refine VG (VT (vs:=BZ f.entry) (cs':=BZ f.entry) 0 Z Z Z Z (NR _) Z Z Z ?_);exact zq.v)):p:=k ⟨g⟩
theorem Ba(k:p:=by exact⟨(),trivial,aP,aa.nil.ah⟩):p:=k
theorem Ib(k:p:=by exact⟨(10,[],true,[]),ly.bad Z n10,aP,aa.nil.ah⟩):p:=k
theorem Bb(g:q)(k:Bq q→p:=by(intro zq;refine VG (VI (LB (pv:=[]) (ay.zero.cells eE) Z Z Z ym Z) ?_);exact zq.v)):p:=k ⟨g⟩
theorem Ic(g:q)(k:Bq q→p:=by(intro zq;refine VG (VT (vs:=ay.zero.cells eE) (cs':=ay.zero.cells eE) 0 Z Z Z Z (NR _) Z Z Z ?_);exact zq.v)):p:=k ⟨g⟩
theorem PC(g:q)(k:Bq q→p:=by(intro zq;refine VG (VT (vs:=ay.zero.cells eE) (cs':=ay.zero.cells eE) 1 Z Z Z Z (NR _) Z Z Z ?_);exact zq.v)):p:=k ⟨g⟩
theorem PD(k:p:=by exact CR (aq.dB 2 3 Z Z Z (ax.many (ds:=ay.zero.cells eE) 1 Z Z) Z aa.nil.ah IF)):p:=k
theorem Ie(g:q)(k:Bq q→p:=by(intro zq;refine VG (VL 0 (f.cells (ma,ms.length,mc)) Z Z Z Z ?_);exact zq.v)):p:=k ⟨g⟩
theorem Ig(g:q)(k:Bq q→p:=by(intro zq;refine CN (L':=pt p (nu S b) u5::fZ gx jq b X::X.map jo) (aa.of_eq (List.append_nil _)).ah ?_;exact zq.v)):p:=k ⟨g⟩
theorem Ih(g:q)(k:Bq q→p:=by(intro zq;refine VG (VI (LB (pv:=[(0,.int .i64 x),(1,.int .i64 y)]) [.int .i64 x,.int .i64 y] Z Z Z ym Z) ?_);exact zq.v)):p:=k ⟨g⟩
theorem PE(g:q)(k:Bq q→p:=by(intro zq;refine VG (VT (vs:=[.int .i64 x,.int .i64 y]) (cs':=[.int .i64 x,.int .i64 y]) 0 Z Z Z Z (NR _) Z Z Z ?_);exact zq.v)):p:=k ⟨g⟩
theorem Bc(k:p:=by exact CR (aq.tmp 4 Z Z fin ⟨by rw[hE],by rw[Xz hE yo]⟩)):p:=k
theorem Bd(g:q)(k:Bq q→p:=by(intro zq;refine AG (VA.dQ 1 [.int .i64 x,.int .i64 y] Z Z Z Z Z ?_);exact zq.v)):p:=k ⟨g⟩
theorem Ii(g:q)(k:Bq q→p:=by(intro zq;refine VG (VV (fun Fr w hF hw _=>K7 Fr w (h.of hF hw)) Z ?_);exact zq.v)):p:=k ⟨g⟩
theorem Ij(g:q)(k:Bq q→p:=by(intro zq;refine VG (VI (LB (pv:=[]) (e7 0 0 ⟨#[]⟩) Z Z Z ym Z) ?_);exact zq.v)):p:=k ⟨g⟩
theorem xX(g:q)(k:Bq q→p:=by(intro zq;refine VG (VT (vs:=e7 0 0 ⟨#[]⟩) (cs':=e7 0 0 ⟨#[]⟩) 0 Z Z Z Z (NR _) Z Z Z ?_);exact zq.v)):p:=k ⟨g⟩
theorem Ik(g:q)(k:Bq q→p:=by(intro zq;refine VG (VT (vs:=e7 x y t) (cs':=e7 x y t) 0 Z Z Z Z (NR _) Z Z Z ?_);exact zq.v)):p:=k ⟨g⟩
theorem PF(g:q)(k:Bq q→p:=by(intro zq;refine VG (VO.vi (aQ.W6 (es:=es) (clock:=clock) gx jq Tryz.underlying79 Z (fun w hw=>(hw.cS.block b hm.fr).trans g1)) ?_);exact zq.v)):p:=k ⟨g⟩
theorem PG(g:q)(k:Bq q→p:=by(intro zq;refine VG (VO.vi (aQ.cq 0 Z Z (fun w hw=>(hw.cS.block b hm.fr).trans g1) hz hJ) ?_);exact zq.v)):p:=k ⟨g⟩
theorem PH(g:q)(k:Bq q→p:=by(intro zq;refine VG (VO.ue (aQ.SF 0 (J:=J) (z:=z) Z Z (fun w hw=>(hw.cS.block b hm.fr).trans g1) hz z2) ?_);exact zq.v)):p:=k ⟨g⟩
theorem PI(g:q)(k:Bq q→p:=by(intro zq;refine VG (VT (vs:=[.int .i64 z.2.1.1,.int .i64 z.2.1.2]) (cs':=[.int .i64 z.2.1.1,.int .i64 z.2.1.2]) 0 Z Z Z Z (NR _) Z Z Z ?_);exact zq.v)):p:=k ⟨g⟩
theorem DZ(g:q)(k:Bq q→p:=by(intro zq;refine VG (VI (fp k Z Z Z Z Z Z hkl) ?_);exact zq.v)):p:=k ⟨g⟩
theorem PJ(k:p:=by exact⟨k+1,by omega,by dsimp only;omega,SC Z (SC Z (SC Z (SC Z (Sub.int Z yd (SN _))))),by dsimp only;rw[←h1];exact(IP 1 Z aa.nil).ah⟩):p:=k
theorem PK(k:p:=by exact⟨[qu H a c X],⟨_,Z,X,a,c,e,Z,Z⟩,aa.sep (aa.cons (aa.sep (aa.of_eq (List.append_nil _).symm)))⟩):p:=k
theorem PL(k:p:=by exact CR (aq.tmp 4 Z Z (aa.tail.trans (nZ (R:=[]) fit)).ah ⟨by rw[hr],by rw[hr]⟩)):p:=k
theorem Be(g:q)(k:Bq q→p:=by(intro zq;refine VC.bJ 0 Z (ba.sn p C) ?_;exact zq.v)):p:=k ⟨g⟩
theorem Il(g:q)(k:Bq q→p:=by(intro zq;refine CN (L':=eY p C y) (aa.of_eq (List.append_nil _)).ah ?_;exact zq.v)):p:=k ⟨g⟩
theorem PM(g:q)(k:Bq q→p:=by(intro zq;refine VG (VV (fun Fr w hF hw hS=>abS Fr w fitd (hS.aC 2 Z) (hS.aC 5 Z) (hS.aC 6 Z) ht0 ht1) Z ?_);exact zq.v)):p:=k ⟨g⟩
theorem Im(g:q)(k:Bq q→p:=by(intro zq;refine VG (VI (KZ true Tryz.underlying204 Z (.inr ⟨_,_,_,Z,Z⟩)) ?_);exact zq.v)):p:=k ⟨g⟩
theorem Io(g:q)(k:Bq q→p:=by(intro zq;refine CD (ts 0 11 (.only 11 (.only 12 .nil))) ym yr ?_;exact zq.v)):p:=k ⟨g⟩
theorem Ip(g:q)(k:Bq q→p:=by(intro zq;refine AG (VA.dQ 0 (f.cells (ma,ms.length,mc)) Z Z Z Z Z ?_);exact zq.v)):p:=k ⟨g⟩
theorem PN(k:p:=by exact⟨k+1,by omega,by dsimp only;omega,SC Z (SC Z (SC Z (Sub.int Z yd (SN _)))),by dsimp only;rw[hsu,e1];exact(aa.tail (H:=pt ob _ _)).ah⟩):p:=k
theorem PO(g:q)(k:Bq q→p:=by(intro zq;refine VG (VV (fun Fr w hF hw hS=>Win.BV Fr w (hS.aC 0 Z) okr.an.dL) Z ?_);exact zq.v)):p:=k ⟨g⟩
theorem PR(g:q)(k:Bq q→p:=by(intro zq;refine VG (VV (fun Fr w hF hw hS=>Dr Fr w fit (hS.aC 1 Z) (hS.aC 4 Z) s.a) Z ?_);exact zq.v)):p:=k ⟨g⟩
theorem PS(k:p:=by exact CR (aq.tmp 4 Z Z (aa.trans (aa.tail (H:=pt sb _ jy)) (nZ (p:=p) (C:=C) (R:=[]) fit)).ah ⟨by rw[hr],by rw[hr]⟩)):p:=k
theorem Iq(g:q)(k:Bq q→p:=by(intro zq;refine CN (L':=pt sb s.cells jy::cJ y.mp C.au::tL p C y C.aB) (aa.cons FV).ah ?_;exact zq.v)):p:=k ⟨g⟩
theorem Ir(g:q)(k:Bq q→p:=by(intro zq;refine CD (ts 0 10 (.only 10 (ts 11 1 .nil))) ym yr ?_;exact zq.v)):p:=k ⟨g⟩
theorem PT(g:q)(k:Bq q→p:=by(intro zq;refine VG (VQ 6 Z (fun Fr w hF hs hS=>pD Fr w (hS.aC 2 Z) ok.aB 16 (mG.at_ 1 hS Z hX fw)) Z (ψ:=fun v H=>v=.tuple #[]∧H=de y.lp (bD 16 C.aB (X.map Prod.fst))) yy ?_);exact zq.v)):p:=k ⟨g⟩
theorem Bf(g:q)(k:Bq q→p:=by(intro zq;refine VG (VV (fun Fr w hF hs _=>NZ Fr w (hb.of hF hs)) Z ?_);exact zq.v)):p:=k ⟨g⟩
theorem Is(g:q)(k:Bq q→p:=by(intro zq;refine AG (AI Z (kq 0 Z Z Z Z Z Z yo) ?_);exact zq.v)):p:=k ⟨g⟩
theorem It(g:q)(k:Bq q→p:=by(intro zq;refine AG (AI Z (kq 1 Z Z Z Z Z Z yo) ?_);exact zq.v)):p:=k ⟨g⟩
theorem Iu(g:q)(k:Bq q→p:=by(intro zq;refine VG (VV (fun Fr w hF hw hS=>Hj Fr w (y:=y) (C:=C) ((hy.aC 0 Z).of hF hw)) Z ?_);exact zq.v)):p:=k ⟨g⟩
theorem PU(g:q)(k:Bq q→p:=by(intro zq;refine VG (VO.dK (fun Fr w hF hw hS=>N3 Fr w fit ((hy.aC 0 Z).of hF hw) ((hy.aC 3 Z).of hF hw)) Z ?_);exact zq.v)):p:=k ⟨g⟩
theorem PV(g:q)(k:Bq q→p:=by(intro zq;refine AG (VA.dK (φ:=fun v=>v=.int .i64 r.since) (fun Fr w hF hw hS=>MZ Fr w (hr.of hF hw)) Z Z yu ?_);exact zq.v)):p:=k ⟨g⟩
theorem PW(g:q)(k:Bq q→p:=by(intro zq;refine VG (VK (Lc:=[]) (fun Fr w hF hw hS=>Dt Fr w ok.au ((hy.at_ 2 Z).of hF hw)) Z Z ?_);exact zq.v)):p:=k ⟨g⟩
theorem PX(g:q)(k:Bq q→p:=by(intro zq;refine VG (VT (vs:=C.au.ch.cells xa xc) (cs':=C.au.ch.cells xa xc) 0 Z Z Z Z (NR _) Z Z Z ?_);exact zq.v)):p:=k ⟨g⟩
theorem PY(g:q)(k:Bq q→p:=by(intro zq;refine VG (VK (Lc:=[]) (fun Fr w hF hw hS=>Oi Fr w okr (hr.of hF hw)) Z Z ?_);exact zq.v)):p:=k ⟨g⟩
theorem PZ(g:q)(k:Bq q→p:=by(intro zq;refine AG (VA.dK (φ:=fun v=>v=.bool true) (fun Fr w hF hw hS=>by have:=rh Fr w fit (hy.of hF hw) x;rw[hhas] at this;exact this) Z Z yu ?_);exact zq.v)):p:=k ⟨g⟩
theorem P0(g:q)(k:Bq q→p:=by(intro zq;refine AG (VA.dQ 1 (C.au.ch.cells (some ⟨tb,tof,none⟩) xc) Z Z Z Z Z ?_);exact zq.v)):p:=k ⟨g⟩
theorem P1(g:q)(k:Bq q→p:=by(intro zq;refine AG (VA.dK (φ:=fun v=>∃k q,x.1=(k:Nat)∧y.nr[k]?=some (some (q,r))∧v=.pointer (some ⟨q,0,none⟩)) (fun Fr w hF hw hS=>by have:=N3 Fr w fit ((hy.aC 0 Z).of hF hw) ((hy.aC 3 Z).of hF hw) (n:=x.1);rw[hnd] at this;exact this) Z Z yu ?_);exact zq.v)):p:=k ⟨g⟩
theorem P2(k:p:=by exact⟨g,eC.stay hg (q _) fun s hs=>by rw[List.mem_singleton.1 hs];exact ot 3 Z yo⟩):p:=k
theorem P3(k:p:=by exact h.send fun f ms hf=>(hl s (List.mem_cons_self ..)).back (MC ht (by rw[GV] at hf;exact hf))):p:=k
theorem rP(k:p:=by exact⟨Int.le_refl _,NR _⟩):p:=k
theorem Iv(g:q)(k:Bq q→p:=by(intro zq;refine VG (VV (fun Fr w _ _ _=>Xi Fr w) Z ?_);exact zq.v)):p:=k ⟨g⟩
theorem Bg(g:q)(k:Bq q→p:=by(intro zq;refine VG (VV (fun Fr w hF' hw hS=>by have:=I_ Fr w ok2 (hS.at_ 1 Z);rw[hal] at this;exact this) Z ?_);exact zq.v)):p:=k ⟨g⟩
theorem Iw(k:p:=by exact⟨(r+1,D),⟨by dsimp only;omega,by dsimp only;rw[show 5-(r+1)=4-r by omega];exact hRd2,ok2.mono f_ f_,by dsimp only;omega,by dsimp only;omega⟩,by dsimp only;omega,SC Z (Sub.int Z f_ (SN _)),aa.tail.ah⟩):p:=k
theorem vR(k:p:=by exact one _ e (Option.some.inj h).symm):p:=k
theorem Bk(g:q)(k:Bq q→p:=by(intro zq;refine pF ?_;refine ae ?_;exact zq.v)):p:=k ⟨g⟩
theorem xZ(g:q)(k:Bq q→p:=by(intro zq;refine aw ?_;refine mz ?_;exact zq.v)):p:=k ⟨g⟩
theorem fL(g:q)(k:Bq q→p:=by(intro zq;refine ae ?_;refine Bk ?_;exact zq.v)):p:=k ⟨g⟩
theorem ta(g:q)(k:Bq q→p:=by(intro zq;refine aj ?_;refine pF ?_;exact zq.v)):p:=k ⟨g⟩
theorem kg(g:q)(k:Bq q→p:=by(intro zq;refine aj ?_;refine js ?_;exact zq.v)):p:=k ⟨g⟩
theorem kh(g:q)(k:Bq q→p:=by(intro zq;refine aw ?_;refine js ?_;exact zq.v)):p:=k ⟨g⟩
theorem jJ(g:q)(k:Bq q→p:=by(intro zq;refine ta ?_;refine aj ?_;exact zq.v)):p:=k ⟨g⟩
theorem Ea(g:q)(k:Bq q→p:=by(intro zq;refine mz ?_;refine aj ?_;exact zq.v)):p:=k ⟨g⟩
theorem qG(g:q)(k:Bq q→p:=by(intro zq;refine ae ?_;refine js ?_;exact zq.v)):p:=k ⟨g⟩
theorem kE(g:q)(k:Bq q→p:=by(intro zq;refine xZ ?_;refine aw ?_;exact zq.v)):p:=k ⟨g⟩
theorem uD(g:q)(k:Bq q→p:=by(intro zq;refine mz ?_;refine ae ?_;exact zq.v)):p:=k ⟨g⟩
theorem oC(g:q)(k:Bq q→p:=by(intro zq;refine dp ?_;refine ae ?_;exact zq.v)):p:=k ⟨g⟩
theorem pK(g:q)(k:Bq q→p:=by(intro zq;refine qG ?_;refine ae ?_;exact zq.v)):p:=k ⟨g⟩
theorem pL(g:q)(k:Bq q→p:=by(intro zq;refine ae ?_;refine xO ?_;exact zq.v)):p:=k ⟨g⟩
theorem qH(g:q)(k:Bq q→p:=by(intro zq;refine xZ ?_;refine ae ?_;exact zq.v)):p:=k ⟨g⟩
theorem rR(g:q)(k:Bq q→p:=by(intro zq;refine bW ?_;refine Ea ?_;exact zq.v)):p:=k ⟨g⟩
theorem rS(g:q)(k:Bq q→p:=by(intro zq;refine kg ?_;refine aj ?_;exact zq.v)):p:=k ⟨g⟩
theorem rT(g:q)(k:Bq q→p:=by(intro zq;refine aj ?_;refine Ea ?_;exact zq.v)):p:=k ⟨g⟩
theorem zoo(g:q)(k:Bq q→p:=by(intro zq;refine OQ ?_;refine OR ?_;exact zq.v)):p:=k ⟨g⟩
theorem Eb(g:q)(k:Bq q→p:=by(intro zq;refine pH ?_;refine ee ?_;exact zq.v)):p:=k ⟨g⟩
theorem zoq(g:q)(k:Bq q→p:=by(intro zq;refine bt ?_;refine xic ?_;exact zq.v)):p:=k ⟨g⟩
theorem Qz(g:q)(k:Bq q→p:=by(intro zq;refine zoq ?_;refine bt ?_;exact zq.v)):p:=k ⟨g⟩
theorem tf(g:q)(k:Bq q→p:=by(intro zq;refine bW ?_;refine js ?_;exact zq.v)):p:=k ⟨g⟩
theorem tg(g:q)(k:Bq q→p:=by(intro zq;refine lg ?_;refine sX ?_;exact zq.v)):p:=k ⟨g⟩
theorem QA(g:q)(k:Bq q→p:=by(intro zq;refine xgn ?_;refine OO ?_;exact zq.v)):p:=k ⟨g⟩
theorem QB(g:q)(k:Bq q→p:=by(intro zq;refine pH ?_;refine bt ?_;exact zq.v)):p:=k ⟨g⟩
theorem zow(g:q)(k:Bq q→p:=by(intro zq;refine O0 ?_;refine O1 ?_;exact zq.v)):p:=k ⟨g⟩
theorem th(g:q)(k:Bq q→p:=by(intro zq;refine zow ?_;refine Qz ?_;exact zq.v)):p:=k ⟨g⟩
theorem tj(g:q)(k:Bq q→p:=by(intro zq;refine aw ?_;refine Pj ?_;exact zq.v)):p:=k ⟨g⟩
theorem rU(k:p:=by(refine zoo ?_;exact OS)):p:=k
theorem rV(k:p:=by(refine ae ?_;exact xlb)):p:=k
theorem uE(g:q)(k:Bq q→p:=by(intro zq;refine aj ?_;refine OB ?_;exact zq.v)):p:=k ⟨g⟩
theorem uF(g:q)(k:Bq q→p:=by(intro zq;refine aj ?_;refine Hv ?_;exact zq.v)):p:=k ⟨g⟩
theorem uG(g:q)(k:Bq q→p:=by(intro zq;refine bt ?_;refine aj ?_;exact zq.v)):p:=k ⟨g⟩
theorem QC(g:q)(k:Bq q→p:=by(intro zq;refine xgm ?_;refine QA ?_;exact zq.v)):p:=k ⟨g⟩
theorem zpf(g:q)(k:Bq q→p:=by(intro zq;refine pH ?_;refine xhj ?_;exact zq.v)):p:=k ⟨g⟩
theorem QE(g:q)(k:Bq q→p:=by(intro zq;refine zpf ?_;refine QB ?_;exact zq.v)):p:=k ⟨g⟩
theorem QF(g:q)(k:Bq q→p:=by(intro zq;refine xgl ?_;refine QC ?_;exact zq.v)):p:=k ⟨g⟩
theorem QG(g:q)(k:Bq q→p:=by(intro zq;refine xhi ?_;refine QE ?_;exact zq.v)):p:=k ⟨g⟩
theorem vS(g:q)(k:Bq q→p:=by(intro zq;refine ee ?_;refine Eb ?_;exact zq.v)):p:=k ⟨g⟩
theorem Ec(k:p:=by(refine bt ?_;exact⟨rb,trivial,aP,ER⟩)):p:=k
theorem vT(g:q)(k:Bq q→p:=by(intro zq;refine aj ?_;refine xjb ?_;exact zq.v)):p:=k ⟨g⟩
theorem vU(g:q)(k:Bq q→p:=by(intro zq;refine ae ?_;refine uD ?_;exact zq.v)):p:=k ⟨g⟩
theorem vV(g:q)(k:Bq q→p:=by(intro zq;refine xka ?_;refine aw ?_;exact zq.v)):p:=k ⟨g⟩
theorem Ed(g:q)(k:Bq q→p:=by(intro zq;refine AG (AY 29 false Z Z ?_);refine OU ?_;exact zq.v)):p:=k ⟨g⟩
theorem Ee(g:q)(k:Bq q→p:=by(intro zq;refine ae ?_;refine VG (VO.ld 0 Z Z Z Z ?_);exact zq.v)):p:=k ⟨g⟩
theorem Ef(g:q)(k:Bq q→p:=by(intro zq;refine aw ?_;refine VG (VY 5 true Z Z ?_);exact zq.v)):p:=k ⟨g⟩
theorem IK(g:q)(k:Bq q→p:=by(intro zq;refine aw ?_;refine VG (VL 2 (c.cells a cap) Z Z Z Z ?_);exact zq.v)):p:=k ⟨g⟩
theorem IL(g:q)(k:Bq q→p:=by(intro zq;refine ae ?_;refine VG (VL 0 (c.cells qa qc) Z Z Z Z ?_);exact zq.v)):p:=k ⟨g⟩
theorem IM(g:q)(k:Bq q→p:=by(intro zq;refine fi ?_;refine AG (VA.dQ 0 (aH x) Z Z Z Z Z ?_);exact zq.v)):p:=k ⟨g⟩
theorem x_(g:q)(k:Bq q→p:=by(intro zq;refine aj ?_;refine OF ?_;exact zq.v)):p:=k ⟨g⟩
theorem yA(g:q)(k:Bq q→p:=by(intro zq;refine HI ?_;refine QF ?_;exact zq.v)):p:=k ⟨g⟩
theorem yB(g:q)(k:Bq q→p:=by(intro zq;refine xhh ?_;refine QG ?_;exact zq.v)):p:=k ⟨g⟩
theorem yC(g:q)(k:Bq q→p:=by(intro zq;refine aw ?_;refine OE ?_;exact zq.v)):p:=k ⟨g⟩
theorem yF(g:q)(k:Bq q→p:=by(intro zq;refine kh ?_;refine ae ?_;exact zq.v)):p:=k ⟨g⟩
theorem yH(g:q)(k:Bq q→p:=by(intro zq;refine fi ?_;refine js ?_;exact zq.v)):p:=k ⟨g⟩
theorem zqa(g:q)(k:Bq q→p:=by(intro zq;refine xll ?_;refine xlm ?_;exact zq.v)):p:=k ⟨g⟩
theorem yI(g:q)(k:Bq q→p:=by(intro zq;refine zqa ?_;refine ae ?_;exact zq.v)):p:=k ⟨g⟩
theorem IN(k:p:=by(refine aj ?_;exact CR (aq.tmp 2 Z Z ER ⟨q,Z,Z⟩))):p:=k
theorem IQ(k:p:=by(refine ae ?_;exact CR (aq.tmp 4 Z Z fin ⟨rfl,Z⟩))):p:=k
theorem yJ(g:q)(k:Bq q→p:=by(intro zq;refine CK ?_;refine aj ?_;exact zq.v)):p:=k ⟨g⟩
theorem IS(g:q)(k:Bq q→p:=by(intro zq;refine VG (VI (wX Z Z) ?_);refine aw ?_;exact zq.v)):p:=k ⟨g⟩
theorem IT(g:q)(k:Bq q→p:=by(intro zq;refine aj ?_;refine VG (VL 0 (dw row) Z Z Z Z ?_);exact zq.v)):p:=k ⟨g⟩
end Go.Proofs.YtkgfhabealjjpaaGreat
