/- Abbreviations of tactics. No condition. -/
import Derived.OrdersHeld
import Derived.OrdersIn
import Derived.TacticsIn
import Derived.Sort.LoopGhostIn
import Derived.Deep.MidRow
import Derived.Laws.AppendOwn
import Derived.Below
import Derived.WalkKit
import Derived.Scope
import Derived.MapKept
import Derived.Laws.StructEq
import Derived.Laws.BitsAllLaws
import Derived.Test.YtkgfhabealjjpaaGreatDoorRows
import Derived.KernelRfl
import Derived.Shelf.Strconv.Itoa0
import Derived.Shelf.Strconv.Itoa1
import Derived.Shelf.LaysM
import Derived.Shelf.Strconv.Itoa2
import Derived.Shelf.Strconv.Itoa3
import Derived.Test.YtkgfhabealjjpaaGreatDoorProg
import Derived.Shelf.SlGeneric
import Derived.Shelf.SlMaps.Clone
import Derived.Laws.LoneSync
import Derived.Lib.Builder
import Derived.Lib.ItoaMem
import Derived.Lib.LaidTab
import Derived.Lib.Join
import Derived.Lib.OthersKept
import Derived.Tactics
import Derived.Tactics2
import Derived.Defers
import Derived.Laws.Pointers
import Derived.RegionTactic
import Derived.RegionCalls
import Derived.Maps.RangeRun
import Derived.Sort.Grow
import Derived.Deep.Draws
import Derived.Shelf.SlSortCmp.InsertionK
import Derived.Shelf.SlSortCmp.SiftDownK
import Derived.Shelf.SlSortCmp.HeapSortK
import Derived.Shelf.SlSortCmp.MedianK
import Derived.Shelf.SlSortCmp.PivotK
import Derived.Shelf.SlSortCmp.ReverseRangeK
import Derived.Shelf.SlSortCmp.PartialInsertionK
import Derived.Shelf.SlSortCmp.PartitionEqualK
import Derived.Shelf.SlSortCmp.PartitionK
import Derived.Shelf.SlSortCmp.PdqK
import Derived.Shelf.SlSortCmp.WholeK
import Derived.Shelf.SlSortCmp.NoneTotal
import Derived.Lib.ItoaLen
import Derived.ProofKit
import Derived.OpenShut
import Derived.SizedLaws
import Derived.Carry
import Derived.LaidMore
import Derived.MakeChecks
import Derived.Stop.Joined
import Derived.Deep.Strs
import Derived.Deep.Slices
import Derived.Test.YtkgfhabealjjpaaGreatDoorCards
import Derived.Test.YtkgfhabealjjpaaGreatDoorTie
import Derived.Lay
import Derived.SevenTiedAt
namespace Go.Proofs.YtkgfhabealjjpaaGreatDoor
theorem a8:type_of% @List.length_append:=@List.length_append
theorem br:type_of% @List.append_nil:=@List.append_nil
theorem bH:type_of% @Nat.zero_le:=@Nat.zero_le
theorem bP:type_of% @List.getElem?_eq_some_iff:=@List.getElem?_eq_some_iff
theorem cj:type_of% @Nat.zero_add:=@Nat.zero_add
theorem cy:type_of% @List.mem_map:=@List.mem_map
theorem cY:type_of% @List.length_map:=@List.length_map
theorem dH:type_of% @List.getElem?_map:=@List.getElem?_map
theorem ea:type_of% @Int.toNat_natCast:=@Int.toNat_natCast
theorem ed:type_of% @List.append_assoc:=@List.append_assoc
theorem eG:type_of% @Bool.and_eq_true:=@Bool.and_eq_true
theorem eP:type_of% @List.mem_append:=@List.mem_append
theorem e_:type_of% @Int.le_refl:=@Int.le_refl
theorem fe:type_of% @List.mem_singleton:=@List.mem_singleton
theorem fW:type_of% @List.length_set:=@List.length_set
theorem fX:type_of% @List.take_add_one:=@List.take_add_one
theorem gn:type_of% @List.map_append:=@List.map_append
theorem gZ:type_of% @List.map_set:=@List.map_set
theorem g_:type_of% @Nat.le_of_ble_eq_true:=@Nat.le_of_ble_eq_true
theorem ij:type_of% @Option.some.inj:=@Option.some.inj
theorem iC:type_of% @List.eq_nil_of_length_eq_zero:=@List.eq_nil_of_length_eq_zero
theorem iD:type_of% @List.mem_cons:=@List.mem_cons
theorem iR:type_of% @List.getElem?_set_self:=@List.getElem?_set_self
theorem iS:type_of% @List.mem_filter:=@List.mem_filter
theorem iT:type_of% @List.take_length:=@List.take_length
theorem jj:type_of% @List.length_take:=@List.length_take
theorem jS:type_of% @Option.bind_some:=@Option.bind_some
theorem kr:type_of% @List.getElem?_eq_none:=@List.getElem?_eq_none
theorem ku:type_of% @List.length_cons:=@List.length_cons
theorem kx:type_of% @List.mem_or_eq_of_mem_set:=@List.mem_or_eq_of_mem_set
theorem kV:type_of% @List.map_cons:=@List.map_cons
theorem kW:type_of% @List.mem_cons_of_mem:=@List.mem_cons_of_mem
theorem lU:type_of% @List.getElem?_set_ne:=@List.getElem?_set_ne
theorem lV:type_of% @List.perm_append_comm:=@List.perm_append_comm
theorem mX:type_of% @Bool.and_false:=@Bool.and_false
theorem mY:type_of% @List.map_map:=@List.map_map
theorem mZ:type_of% @List.nil_append:=@List.nil_append
theorem m_:type_of% @List.prefix_refl:=@List.prefix_refl
theorem ng:type_of% @Option.map_some:=@Option.map_some
theorem nK:type_of% @List.all_eq_true:=@List.all_eq_true
theorem nL:type_of% @List.getElem?_append_left:=@List.getElem?_append_left
theorem nM:type_of% @List.getElem?_of_mem:=@List.getElem?_of_mem
theorem nN:type_of% @List.nodup_append:=@List.nodup_append
theorem oz:type_of% @Array.toList_inj:=@Array.toList_inj
theorem oA:type_of% @Bool.false_and:=@Bool.false_and
theorem oB:type_of% @List.not_mem_nil:=@List.not_mem_nil
theorem pg:type_of% @Nat.eq_of_beq_eq_true:=@Nat.eq_of_beq_eq_true
theorem ph:type_of% @Nat.le_trans:=@Nat.le_trans
theorem pj:type_of% @Nat.mul_one:=@Nat.mul_one
theorem qd:type_of% @Bool.false_ne_true:=@Bool.false_ne_true
theorem qe:type_of% @List.ext_getElem?:=@List.ext_getElem?
theorem qf:type_of% @List.length_filter_le:=@List.length_filter_le
theorem qg:type_of% @List.take_of_length_le:=@List.take_of_length_le
theorem qi:type_of% @List.take_zero:=@List.take_zero
theorem qj:type_of% @Nat.add_mul:=@Nat.add_mul
theorem qW:type_of% @List.foldl_cons:=@List.foldl_cons
theorem qX:type_of% @List.getElem?_append_right:=@List.getElem?_append_right
theorem qY:type_of% @List.getElem?_drop:=@List.getElem?_drop
theorem qZ:type_of% @List.mem_cons_self:=@List.mem_cons_self
theorem sn:type_of% @Array.getElem?_eq_some_iff:=@Array.getElem?_eq_some_iff
theorem sr:type_of% @List.getElem?_cons_succ:=@List.getElem?_cons_succ
theorem ss:type_of% @List.getElem?_take:=@List.getElem?_take
theorem su:type_of% @List.length_drop:=@List.length_drop
theorem sv:type_of% @Nat.mul_le_mul_right:=@Nat.mul_le_mul_right
theorem tE:type_of% @Int.eq_ofNat_of_zero_le:=@Int.eq_ofNat_of_zero_le
theorem tF:type_of% @List.cons.inj:=@List.cons.inj
theorem tG:type_of% @List.mem_range:=@List.mem_range
theorem tH:type_of% @List.range_succ:=@List.range_succ
theorem uL:type_of% @ByteArray.size_append:=@ByteArray.size_append
theorem uM:type_of% @List.cons_append:=@List.cons_append
theorem uN:type_of% @List.filter_append:=@List.filter_append
theorem uO:type_of% @List.flatMap_cons:=@List.flatMap_cons
theorem uP:type_of% @List.getElem?_cons_zero:=@List.getElem?_cons_zero
theorem uQ:type_of% @List.mem_append_left:=@List.mem_append_left
theorem uR:type_of% @List.pairwise_map:=@List.pairwise_map
theorem uS:type_of% @Nat.zero_lt_one:=@Nat.zero_lt_one
theorem v7:type_of% @Array.ext_getElem?:=@Array.ext_getElem?
theorem v8:type_of% @Array.getD_eq_getD_getElem?:=@Array.getD_eq_getD_getElem?
theorem v_:type_of% @Array.getElem?_modify:=@Array.getElem?_modify
theorem we:type_of% @Classical.not_not:=@Classical.not_not
theorem wg:type_of% @List.flatMap_append:=@List.flatMap_append
theorem wi:type_of% @List.getElem?_set:=@List.getElem?_set
theorem wj:type_of% @List.set_set:=@List.set_set
theorem wk:type_of% @List.take_left':=@List.take_left'
theorem wm:type_of% @Nat.add_zero:=@Nat.add_zero
theorem wu:type_of% @Nat.lt_of_lt_of_le:=@Nat.lt_of_lt_of_le
theorem wx:type_of% @Nat.mod_lt:=@Nat.mod_lt
theorem yS:type_of% @Bool.true_and:=@Bool.true_and
theorem yT:type_of% @List.all_eq_false:=@List.all_eq_false
theorem yV:type_of% @List.getElem_map:=@List.getElem_map
theorem yW:type_of% @List.getLast?_eq_getElem?:=@List.getLast?_eq_getElem?
theorem yX:type_of% @List.length_take_le:=@List.length_take_le
theorem yY:type_of% @List.length_zipIdx:=@List.length_zipIdx
theorem yZ:type_of% @List.mem_flatMap:=@List.mem_flatMap
theorem y_:type_of% @List.set_cons_succ:=@List.set_cons_succ
theorem za:type_of% @Nat.lt_irrefl:=@Nat.lt_irrefl
theorem zb:type_of% @Nat.succ_mul:=@Nat.succ_mul
theorem Bn:type_of% @Array.getElem?_append:=@Array.getElem?_append
theorem Bo:type_of% @Array.getElem?_setIfInBounds_ne:=@Array.getElem?_setIfInBounds_ne
theorem Bp:type_of% @Array.getElem?_toList:=@Array.getElem?_toList
theorem Br:type_of% @Bool.or_eq_true:=@Bool.or_eq_true
theorem Bt:type_of% @List.drop_drop:=@List.drop_drop
theorem Bu:type_of% @List.drop_eq_getElem_cons:=@List.drop_eq_getElem_cons
theorem Bv:type_of% @List.foldl_append:=@List.foldl_append
theorem Bw:type_of% @List.length_singleton:=@List.length_singleton
theorem Bx:type_of% @List.mem_append_right:=@List.mem_append_right
theorem By:type_of% @List.take_prefix:=@List.take_prefix
theorem Bz:type_of% @Nat.min_eq_left:=@Nat.min_eq_left
theorem BA:type_of% @Nat.pow_le_pow_right:=@Nat.pow_le_pow_right
theorem EH:type_of% @Bool.or_eq_false_iff:=@Bool.or_eq_false_iff
theorem EI:type_of% @Classical.byContradiction:=@Classical.byContradiction
theorem EJ:type_of% @List.eraseIdx_sublist:=@List.eraseIdx_sublist
theorem EK:type_of% @List.getElem?_append:=@List.getElem?_append
theorem EL:type_of% @List.mem_of_getLast?:=@List.mem_of_getLast?
theorem Z{α:Sort _}{a:α}:a=a:=rfl
structure Bq(q:Prop):Prop where
 v:q
variable {p q:Prop}
theorem DF:type_of% @decide_eq_false:=@decide_eq_false
theorem DT:type_of% @decide_eq_true:=@decide_eq_true
theorem GE:type_of% @List.getElem?_eq_getElem:=@List.getElem?_eq_getElem
theorem NR:type_of% @Nat.le_refl:=@Nat.le_refl
theorem ME:type_of% @List.mem_of_getElem?:=@List.mem_of_getElem?
theorem yv(k:p:=by(try refine Pd.st ?_);(repeat(first|exact Pd.nil|exact Pd.fnil|refine Pd.inner ?_|refine Pd.skip (by decide +kernel) ?_|refine zf (zo 0 Z Z) ?_|refine zf (zo 1 Z Z) ?_|refine zf (zo 2 Z Z) ?_|refine zf (zo 3 Z Z) ?_|refine zf (zo 4 Z Z) ?_|refine zf (zo 5 Z Z) ?_|refine zf (zo 6 Z Z) ?_|refine zf (zo 7 Z Z) ?_|refine zf (zo 8 Z Z) ?_|refine zf (zm 0 Z Z) ?_|refine zf (zm 1 Z Z) ?_|refine zf (zm 2 Z Z) ?_|refine zf (zm 3 Z Z) ?_|refine zf (zm 4 Z Z) ?_|refine zf (zm 5 Z Z) ?_|refine zf (zm 6 Z Z) ?_|refine zf (zm 7 Z Z) ?_|refine zf (zm 8 Z Z) ?_|refine zc (zo 0 Z Z) ?_|refine zc (zo 1 Z Z) ?_|refine zc (zo 2 Z Z) ?_|refine zc (zo 3 Z Z) ?_|refine zc (zo 4 Z Z) ?_|refine zc (zo 5 Z Z) ?_|refine zc (zo 6 Z Z) ?_|refine zc (zo 7 Z Z) ?_|refine zc (zo 8 Z Z) ?_|refine zc (zm 0 Z Z) ?_|refine zc (zm 1 Z Z) ?_|refine zc (zm 2 Z Z) ?_|refine zc (zm 3 Z Z) ?_|refine zc (zm 4 Z Z) ?_|refine zc (zm 5 Z Z) ?_|refine zc (zm 6 Z Z) ?_|refine zc (zm 7 Z Z) ?_|refine zc (zm 8 Z Z) ?_|refine Pd.lx (di.one 0 Z) ?_|refine Pd.lx (di.one 1 Z) ?_|refine Pd.lx (di.one 2 Z) ?_|refine Pd.lx (di.one 3 Z) ?_|refine Pd.lx (di.one 4 Z) ?_|refine Pd.lx (di.one 5 Z) ?_|refine Pd.lx (di.one 6 Z) ?_|refine Pd.lx (di.one 7 Z) ?_|refine Pd.lx (di.one 8 Z) ?_|refine Pd.consM (di.one 0 Z) ?_|refine Pd.consM (di.one 1 Z) ?_|refine Pd.consM (di.one 2 Z) ?_|refine Pd.consM (di.one 3 Z) ?_|refine Pd.consM (di.one 4 Z) ?_|refine Pd.consM (di.one 5 Z) ?_|refine Pd.consM (di.one 6 Z) ?_|refine Pd.consM (di.one 7 Z) ?_|refine Pd.consM (di.one 8 Z) ?_))):p:=k
theorem kp(k:p:=by(try refine Pd.st ?_);(repeat(first|exact Pd.nil|exact Pd.fnil|refine Pd.inner ?_|refine Pd.skip (by decide +kernel) ?_|refine zf (zo 0 rfl rfl) ?_|refine zf (zo 1 rfl rfl) ?_|refine zf (zo 2 rfl rfl) ?_|refine zf (zo 3 rfl rfl) ?_|refine zf (zo 4 rfl rfl) ?_|refine zf (zo 5 rfl rfl) ?_|refine zf (zo 6 rfl rfl) ?_|refine zf (zo 7 rfl rfl) ?_|refine zf (zo 8 rfl rfl) ?_|refine zf (zm 0 rfl rfl) ?_|refine zf (zm 1 rfl rfl) ?_|refine zf (zm 2 rfl rfl) ?_|refine zf (zm 3 rfl rfl) ?_|refine zf (zm 4 rfl rfl) ?_|refine zf (zm 5 rfl rfl) ?_|refine zf (zm 6 rfl rfl) ?_|refine zf (zm 7 rfl rfl) ?_|refine zf (zm 8 rfl rfl) ?_|refine zc (zo 0 rfl rfl) ?_|refine zc (zo 1 rfl rfl) ?_|refine zc (zo 2 rfl rfl) ?_|refine zc (zo 3 rfl rfl) ?_|refine zc (zo 4 rfl rfl) ?_|refine zc (zo 5 rfl rfl) ?_|refine zc (zo 6 rfl rfl) ?_|refine zc (zo 7 rfl rfl) ?_|refine zc (zo 8 rfl rfl) ?_|refine zc (zm 0 rfl rfl) ?_|refine zc (zm 1 rfl rfl) ?_|refine zc (zm 2 rfl rfl) ?_|refine zc (zm 3 rfl rfl) ?_|refine zc (zm 4 rfl rfl) ?_|refine zc (zm 5 rfl rfl) ?_|refine zc (zm 6 rfl rfl) ?_|refine zc (zm 7 rfl rfl) ?_|refine zc (zm 8 rfl rfl) ?_))):p:=k
theorem yu(k:p:=by(try refine Pd.st ?_);(repeat(first|exact Pd.nil|exact Pd.fnil|refine Pd.inner ?_|refine Pd.skip (by decide +kernel) ?_|refine zf (zo 0 Z Z) ?_|refine zf (zo 1 Z Z) ?_|refine zf (zo 2 Z Z) ?_|refine zf (zo 3 Z Z) ?_|refine zf (zo 4 Z Z) ?_|refine zf (zo 5 Z Z) ?_|refine zf (zo 6 Z Z) ?_|refine zf (zo 7 Z Z) ?_|refine zf (zo 8 Z Z) ?_|refine zf (zm 0 Z Z) ?_|refine zf (zm 1 Z Z) ?_|refine zf (zm 2 Z Z) ?_|refine zf (zm 3 Z Z) ?_|refine zf (zm 4 Z Z) ?_|refine zf (zm 5 Z Z) ?_|refine zf (zm 6 Z Z) ?_|refine zf (zm 7 Z Z) ?_|refine zf (zm 8 Z Z) ?_|refine zc (zo 0 Z Z) ?_|refine zc (zo 1 Z Z) ?_|refine zc (zo 2 Z Z) ?_|refine zc (zo 3 Z Z) ?_|refine zc (zo 4 Z Z) ?_|refine zc (zo 5 Z Z) ?_|refine zc (zo 6 Z Z) ?_|refine zc (zo 7 Z Z) ?_|refine zc (zo 8 Z Z) ?_|refine zc (zm 0 Z Z) ?_|refine zc (zm 1 Z Z) ?_|refine zc (zm 2 Z Z) ?_|refine zc (zm 3 Z Z) ?_|refine zc (zm 4 Z Z) ?_|refine zc (zm 5 Z Z) ?_|refine zc (zm 6 Z Z) ?_|refine zc (zm 7 Z Z) ?_|refine zc (zm 8 Z Z) ?_))):p:=k
theorem PN(k:p:=by(try refine Pd.st ?_);(repeat(first|exact Pd.nil|exact Pd.fnil|refine Pd.inner ?_|refine Pd.skip (by decide +kernel) ?_|refine zf (zo 0 Z Z) ?_|refine zf (zo 1 Z Z) ?_|refine zf (zo 2 Z Z) ?_|refine zf (zo 3 Z Z) ?_|refine zf (zo 4 Z Z) ?_|refine zf (zm 0 Z Z) ?_|refine zf (zm 1 Z Z) ?_|refine zf (zm 2 Z Z) ?_|refine zf (zm 3 Z Z) ?_|refine zf (zm 4 Z Z) ?_|refine zf (aw.aA (aw.many 0 Z Z) Z) ?_|refine zf ((aw.many 0 Z Z)) ?_|refine zc (zo 0 Z Z) ?_|refine zc (zo 1 Z Z) ?_|refine zc (zo 2 Z Z) ?_|refine zc (zo 3 Z Z) ?_|refine zc (zo 4 Z Z) ?_|refine zc (zm 0 Z Z) ?_|refine zc (zm 1 Z Z) ?_|refine zc (zm 2 Z Z) ?_|refine zc (zm 3 Z Z) ?_|refine zc (zm 4 Z Z) ?_|refine zc (aw.aA (aw.many 0 Z Z) Z) ?_|refine zc ((aw.many 0 Z Z)) ?_))):p:=k
theorem Iy(k:p:=by(try refine Pd.st ?_);(repeat(first|exact Pd.nil|exact Pd.fnil|refine Pd.inner ?_|refine Pd.skip (by decide +kernel) ?_|refine zf (zo 0 Z Z) ?_|refine zf (zo 1 Z Z) ?_|refine zf (zo 2 Z Z) ?_|refine zf (zo 3 Z Z) ?_|refine zf (zo 4 Z Z) ?_|refine zf (zm 0 Z Z) ?_|refine zf (zm 1 Z Z) ?_|refine zf (zm 2 Z Z) ?_|refine zf (zm 3 Z Z) ?_|refine zf (zm 4 Z Z) ?_|refine zf (aw.aA PQ Z) ?_|refine zf (PQ) ?_|refine zc (zo 0 Z Z) ?_|refine zc (zo 1 Z Z) ?_|refine zc (zo 2 Z Z) ?_|refine zc (zo 3 Z Z) ?_|refine zc (zo 4 Z Z) ?_|refine zc (zm 0 Z Z) ?_|refine zc (zm 1 Z Z) ?_|refine zc (zm 2 Z Z) ?_|refine zc (zm 3 Z Z) ?_|refine zc (zm 4 Z Z) ?_|refine zc (aw.aA PQ Z) ?_|refine zc (PQ) ?_))):p:=k
theorem yH(k:p:=by(try refine Pd.st ?_);(repeat(first|exact Pd.nil|exact Pd.fnil|refine Pd.inner ?_|refine Pd.skip (by decide +kernel) ?_|refine zf (zo 0 Z Z) ?_|refine zf (zo 1 Z Z) ?_|refine zf (zo 2 Z Z) ?_|refine zf (zo 3 Z Z) ?_|refine zf (zm 0 Z Z) ?_|refine zf (zm 1 Z Z) ?_|refine zf (zm 2 Z Z) ?_|refine zf (zm 3 Z Z) ?_|refine zf (aw.aA (aw.many 0 Z Z) Z) ?_|refine zf ((aw.many 0 Z Z)) ?_|refine zc (zo 0 Z Z) ?_|refine zc (zo 1 Z Z) ?_|refine zc (zo 2 Z Z) ?_|refine zc (zo 3 Z Z) ?_|refine zc (zm 0 Z Z) ?_|refine zc (zm 1 Z Z) ?_|refine zc (zm 2 Z Z) ?_|refine zc (zm 3 Z Z) ?_|refine zc (aw.aA (aw.many 0 Z Z) Z) ?_|refine zc ((aw.many 0 Z Z)) ?_))):p:=k
theorem PR(k:p:=by(try refine Pd.st ?_);(repeat(first|exact Pd.nil|exact Pd.fnil|refine Pd.inner ?_|refine Pd.skip (by decide +kernel) ?_|refine zf (zo 0 Z Z) ?_|refine zf (zo 1 Z Z) ?_|refine zf (zo 2 Z Z) ?_|refine zf (zm 0 Z Z) ?_|refine zf (zm 1 Z Z) ?_|refine zf (zm 2 Z Z) ?_|refine zf (aw.aA (aw.one 5 Z (rM hx)) Z) ?_|refine zf ((aw.one 5 Z (rM hx))) ?_|refine zc (zo 0 Z Z) ?_|refine zc (zo 1 Z Z) ?_|refine zc (zo 2 Z Z) ?_|refine zc (zm 0 Z Z) ?_|refine zc (zm 1 Z Z) ?_|refine zc (zm 2 Z Z) ?_|refine zc (aw.aA (aw.one 5 Z (rM hx)) Z) ?_|refine zc ((aw.one 5 Z (rM hx))) ?_))):p:=k
theorem ycz(k:p:=by(try refine Pd.st ?_);(repeat(first|exact Pd.nil|exact Pd.fnil|refine Pd.inner ?_|refine Pd.skip (by decide +kernel) ?_|refine zf (zo 0 Z Z) ?_|refine zf (zo 1 Z Z) ?_|refine zf (zo 2 Z Z) ?_|refine zf (zm 0 Z Z) ?_|refine zf (zm 1 Z Z) ?_|refine zf (zm 2 Z Z) ?_|refine zf (aw.aA (aw.one 2 Z hidc) Z) ?_|refine zf ((aw.one 2 Z hidc)) ?_|refine zc (zo 0 Z Z) ?_|refine zc (zo 1 Z Z) ?_|refine zc (zo 2 Z Z) ?_|refine zc (zm 0 Z Z) ?_|refine zc (zm 1 Z Z) ?_|refine zc (zm 2 Z Z) ?_|refine zc (aw.aA (aw.one 2 Z hidc) Z) ?_|refine zc ((aw.one 2 Z hidc)) ?_))):p:=k
theorem IG(k:p:=by(try refine Pd.st ?_);(repeat(first|exact Pd.nil|exact Pd.fnil|refine Pd.inner ?_|refine Pd.skip (by decide +kernel) ?_|refine zf (zo 0 Z Z) ?_|refine zf (zo 1 Z Z) ?_|refine zf (zo 2 Z Z) ?_|refine zf (zm 0 Z Z) ?_|refine zf (zm 1 Z Z) ?_|refine zf (zm 2 Z Z) ?_|refine zf (aw.aA (aw.many 0 Z Z) Z) ?_|refine zf ((aw.many 0 Z Z)) ?_|refine zc (zo 0 Z Z) ?_|refine zc (zo 1 Z Z) ?_|refine zc (zo 2 Z Z) ?_|refine zc (zm 0 Z Z) ?_|refine zc (zm 1 Z Z) ?_|refine zc (zm 2 Z Z) ?_|refine zc (aw.aA (aw.many 0 Z Z) Z) ?_|refine zc ((aw.many 0 Z Z)) ?_))):p:=k
theorem Eu(k:p:=by(try refine Pd.st ?_);(repeat(first|exact Pd.nil|exact Pd.fnil|refine Pd.inner ?_|refine Pd.skip (by decide +kernel) ?_|refine zf (aw.aA (aw.aA h Z) Z) ?_|refine zf (aw.aA (aw.jF (ds:=R.ch.cells x.a x.c) h Z) Z) ?_|refine zf ((aw.aA h Z)) ?_|refine zf ((aw.jF (ds:=R.ch.cells x.a x.c) h Z)) ?_|refine zc (aw.aA (aw.aA h Z) Z) ?_|refine zc (aw.aA (aw.jF (ds:=R.ch.cells x.a x.c) h Z) Z) ?_|refine zc ((aw.aA h Z)) ?_|refine zc ((aw.jF (ds:=R.ch.cells x.a x.c) h Z)) ?_))):p:=k
theorem El(k:p:=by(try refine Pd.st ?_);(repeat(first|exact Pd.nil|exact Pd.fnil|refine Pd.inner ?_|refine Pd.skip (by decide +kernel) ?_|refine zf (aw.aA (aw.aA hb Z) Z) ?_|refine zf (aw.aA (aw.jF (ds:=mq es) hb Z) Z) ?_|refine zf ((aw.aA hb Z)) ?_|refine zf ((aw.jF (ds:=mq es) hb Z)) ?_|refine zc (aw.aA (aw.aA hb Z) Z) ?_|refine zc (aw.aA (aw.jF (ds:=mq es) hb Z) Z) ?_|refine zc ((aw.aA hb Z)) ?_|refine zc ((aw.jF (ds:=mq es) hb Z)) ?_))):p:=k
theorem PO(k:p:=by(try refine Pd.st ?_);(repeat(first|exact Pd.nil|exact Pd.fnil|refine Pd.inner ?_|refine Pd.skip (by decide +kernel) ?_|refine zf (zo 0 Z Z) ?_|refine zf (zo 1 Z Z) ?_|refine zf (zm 0 Z Z) ?_|refine zf (zm 1 Z Z) ?_|refine zf (aw.aA (aw.many 0 Z Z) Z) ?_|refine zf ((aw.many 0 Z Z)) ?_|refine zc (zo 0 Z Z) ?_|refine zc (zo 1 Z Z) ?_|refine zc (zm 0 Z Z) ?_|refine zc (zm 1 Z Z) ?_|refine zc (aw.aA (aw.many 0 Z Z) Z) ?_|refine zc ((aw.many 0 Z Z)) ?_))):p:=k
theorem PT(k:p:=by(try refine Pd.st ?_);(repeat(first|exact Pd.nil|exact Pd.fnil|refine Pd.inner ?_|refine Pd.skip (by decide +kernel) ?_|refine zf (zo 0 Z Z) ?_|refine zf (zm 0 Z Z) ?_|refine zf (aw.aA (aw.aA hW (AW hn3)) Z) ?_|refine zf ((aw.aA hW (AW hn3))) ?_|refine zc (zo 0 Z Z) ?_|refine zc (zm 0 Z Z) ?_|refine zc (aw.aA (aw.aA hW (AW hn3)) Z) ?_|refine zc ((aw.aA hW (AW hn3))) ?_))):p:=k
theorem Pp(k:p:=by(try refine Pd.st ?_);(repeat(first|exact Pd.nil|exact Pd.fnil|refine Pd.inner ?_|refine Pd.skip (by decide +kernel) ?_|refine zf (aw.aA hb Z) ?_|refine zf (aw.aA (aw.jF hp hrow) Z) ?_|refine zf (hb) ?_|refine zf ((aw.jF hp hrow)) ?_|refine zc (aw.aA hb Z) ?_|refine zc (aw.aA (aw.jF hp hrow) Z) ?_|refine zc (hb) ?_|refine zc ((aw.jF hp hrow)) ?_))):p:=k
theorem Et(k:p:=by(try refine Pd.st ?_);(repeat(first|exact Pd.nil|exact Pd.fnil|refine Pd.inner ?_|refine Pd.skip (by decide +kernel) ?_|refine zf (zo 0 Z Z) ?_|refine zf (zm 0 Z Z) ?_|refine zf (aw.aA hb Z) ?_|refine zf (hb) ?_|refine zc (zo 0 Z Z) ?_|refine zc (zm 0 Z Z) ?_|refine zc (aw.aA hb Z) ?_|refine zc (hb) ?_))):p:=k
theorem yx(k:p:=by(try refine Pd.st ?_);(repeat(first|exact Pd.nil|exact Pd.fnil|refine Pd.inner ?_|refine Pd.skip (by decide +kernel) ?_|refine zf (aw.aA (aw.aA hb Z) Z) ?_|refine zf ((aw.aA hb Z)) ?_|refine zc (aw.aA (aw.aA hb Z) Z) ?_|refine zc ((aw.aA hb Z)) ?_))):p:=k
theorem PU(k:p:=by have:=Conf.sX F.qs;rw[←show F.qs=eI F.qs from congrArg ba.qs hF] at this;omega):p:=k
theorem PK(k:p:=by rw[ByteArray.size_append,ByteArray.size_append,iF,iF,iF,iF];omega):p:=k
theorem PI(k:p:=by rw[(wH he (by decide)).1,(wH he (by decide)).2,he];exact s9 Z Z):p:=k
theorem PM(k:p:=by show 0+k*1<_;rw[Nat.zero_add,List.length_append,eu Gl];omega):p:=k
theorem Pu(k:p:=by rw[List.length_append,refs,List.length_map,List.length_take];omega):p:=k
theorem jB(k:p:=by(repeat refine Pd.filter ?_);exact hS _ (.tail _ (.tail _ (.head _)))):p:=k
theorem r8(k:p:=by(repeat refine Pd.filter ?_);exact hS _ (.tail _ (.head _))):p:=k
theorem ybm(k:p:=by rw[iF,iF];simp only[List.length_append];omega):p:=k
theorem PJ(k:p:=by rw[ByteArray.size_append,iF,iF,iF];omega):p:=k
theorem PB(k:p:=by rw[List.take_zero,List.flatMap_nil,List.append_nil];rfl):p:=k
theorem IE(k:p:=by rw[show getM s=none from(by exact hG)];exact⟨rfl,Z⟩):p:=k
theorem Px(k:p:=by exact(fun v L h=>⟨_,by rw[hch] at h;exact h.2,h.1,Z⟩)):p:=k
theorem yw(k:p:=by rw[jL,if_neg hb,if_neg h1,if_pos h2,hg]):p:=k
theorem Pt(k:p:=by rw[EP h];show 0+15+n*1<21;omega):p:=k
theorem PE(k:p:=by unfold bY;repeat' split;all_goals omega):p:=k
theorem PC(k:p:=by rw[e];simp only[List.append_assoc];rfl):p:=k
theorem Ps(k:p:=by rw[eu vo,h.marks];omega):p:=k
theorem Pq(k:p:=by have:=h0.wf.n0;have:=h0.len;omega):p:=k
theorem Pv(k:p:=by show(0+c.ms.length)*16≤_;omega):p:=k
theorem ID(k:p:=by show 2+3≤_;rw[vp ok];omega):p:=k
theorem yl(k:p:=by simpa using(List.mem_filter.1 hp1).2):p:=k
theorem PA(k:p:=by show(done.length+1)*1≤_;omega):p:=k
theorem PF(k:p:=by rw[←beq_eq_false_iff_ne.2 he];rfl):p:=k
theorem yo(k:p:=by simp[stepG,stepG.exec,Frame.atR]):p:=k
theorem En(k:p:=by show(0+l.length)*16≤_;omega):p:=k
theorem Pr(k:p:=by rw[zQ,Uq];exact hi2):p:=k
theorem yq(k:p:=by simp[dv,qH,h1];omega):p:=k
theorem Py(k:p:=by rw[if_pos hyes];exact⟨p,Z,Z⟩):p:=k
theorem PL(k:p:=by rw[List.length_singleton];omega):p:=k
theorem Es(k:p:=by simp only[cN];rw[hcr];rfl):p:=k
theorem PS(k:p:=by rw[Array.size_modify];exact hx):p:=k
theorem p7(k:p:=by rw[List.length_append];omega):p:=k
theorem PG(k:p:=by rw[if_neg hf];exact⟨rfl,Z⟩):p:=k
theorem yca(k:p:=by rw[if_neg hE];exact⟨rfl,Z⟩):p:=k
theorem PD(k:p:=by rw[hW];exact⟨a2,c2,Z,Z⟩):p:=k
theorem IF(k:p:=by show ¬(0:Int)≤-1;decide):p:=k
theorem Ix(k:p:=by rw[List.length_take];omega):p:=k
theorem Pz(k:p:=by rw[hel];exact⟨_,_,Z,Z⟩):p:=k
theorem ybl(k:p:=by rw[iF,iF];omega):p:=k
theorem yz(k:p:=by exact(fun v L h=>⟨_,h.2,h.1,Z⟩)):p:=k
theorem Er(k:p:=by show(0:Int)≤95;omega):p:=k
theorem IB(k:p:=by show ms.length≤_;omega):p:=k
theorem IH(k:p:=by rw[←q4] at z1;exact z1):p:=k
theorem yk(k:p:=by rw[hpr] at h0;cases h0):p:=k
theorem ycb(k:p:=by rw[hn];exact⟨rfl,Z⟩):p:=k
theorem IA(k:p:=by show 0≤900000;omega):p:=k
theorem IC(k:p:=by show 0≤800000;omega):p:=k
theorem PH(k:p:=by show 12<21;omega):p:=k
theorem yI(k:p:=by unfold wZ;decide):p:=k
theorem Bk(k:p:=by show 3<12;omega):p:=k
theorem Iz(k:p:=by rw[hwt];exact h2):p:=k
theorem Pw(k:p:=by show 8<17;omega):p:=k
theorem Ew(k:p:=by show 9<21;omega):p:=k
theorem ycw(k:p:=by show 0<1;decide):p:=k
theorem Em(k:p:=by rw[eN,hc];rfl):p:=k
theorem Eo(k:p:=by show 2<3;omega):p:=k
theorem uF(k:p:=by show 1<3;omega):p:=k
theorem fB(k:p:=by dsimp only;omega):p:=k
theorem Bl(k:p:=by rw[hlv];decide):p:=k
theorem Ep(k:p:=by simp[jP,hr]):p:=k
theorem Ev(k:p:=by rw[hf];decide):p:=k
theorem Ex(k:p:=by rw[←hfc];rfl):p:=k
theorem yn(k:p:=by simpa using hi):p:=k
theorem yr(k:p:=by decide +kernel):p:=k
theorem cG(k:p:=by rw[h];decide):p:=k
theorem tx(k:p:=by simpa using k1):p:=k
theorem Ey(k:p:=by simpa using hh):p:=k
theorem ye(k:p:=by simpa using h):p:=k
theorem tw(k:p:=by rw[h1];simp):p:=k
theorem yd(k:p:=by simp[hs.1]):p:=k
theorem yh(k:p:=by simp;omega):p:=k
theorem Bj(k:p:=by rw[e];rfl):p:=k
theorem pe(k:p:=by exact(fun v L h=>h)):p:=k
theorem yp(k:p:=by kernel_rfl):p:=k
theorem yj(k:p:=by simp[h1]):p:=k
theorem ym(k:p:=by simp[h2]):p:=k
theorem yf(k:p:=by simp[h]):p:=k
theorem p8(k:p:=by cases k):p:=k
theorem yy(k:p:=by decide):p:=k
theorem mW(k:p:=by rw[e]):p:=k
theorem yg(k:p:=by omega):p:=k
theorem yi(k:p:=by simp):p:=k
theorem NY(k:p:=by exact⟨fun _ _=>trivial,hk Q' hQ _ _ _ (ha.bW hd _) (hG.put hf _) hw⟩):p:=k
theorem DR(k:p:=by exact .inl ⟨_,E _ (fun w=>r1 w),h⟩):p:=k
theorem DS(k:p:=by exact .inl ⟨_,E _ (fun w=>r2 w),h⟩):p:=k
theorem NZ(k:p:=by exact .inl ⟨v,fun a ha _ _ _ _ _ w=>by simp only[execOp,ha.ev hv];rfl,h⟩):p:=k
theorem N0(k:p:=by exact .inl ⟨_,fun a ha _ _ _ _ _ w=>by simp only[execOp,ha.ev hv];rfl,h⟩):p:=k
theorem N1(k:p:=by exact .inl ⟨_,fun a ha _ _ _ _ _ w=>by simp only[execOp,ha.ev hv,ha.ev hu];rfl,h⟩):p:=k
theorem N2(k:p:=by exact List.nodup_append.2 ⟨hGn,hnl,fun x hx y hy he=>(hGb x hx).1 (.inr (he▸hy))⟩):p:=k
theorem N3(k:p:=by exact h.cP.trans ⟨rfl,Z,Z,by rw[Hk];exact NR _,fun c hc=>FQ fun he=>hf (he▸hc),NR _⟩):p:=k
theorem tm(g:q)(k:Bq q→p:=by(intro zq;refine CS (VC.block ?_);exact zq.v)):p:=k ⟨g⟩
theorem al(g:q)(k:Bq q→p:=by(intro zq;(repeat(first|refine zS ?_|refine zR ?_|refine zB ?_|refine zL ?_|refine zC ?_|refine zG (zN ?_)|refine zG (zD 0 rfl rfl rfl rfl ?_)));exact zq.v)):p:=k ⟨g⟩
theorem vM(g:q)(k:Bq q→p:=by(intro zq;refine VC.mh Z ?_;exact zq.v)):p:=k ⟨g⟩
theorem ow(g:q)(k:Bq q→p:=by(intro zq;(repeat(first|refine zS ?_|refine zR ?_|refine zB ?_|refine zL ?_|refine zC ?_|refine zG (zN ?_)|refine zG (zE rfl rfl (aw.aA h rfl) ?_)));exact zq.v)):p:=k ⟨g⟩
theorem Hz(g:q)(k:Bq q→p:=by(intro zq;refine VG (VV (fun Fr w hF hs _=>fO Fr w (h.of hF hs) hc) Z ?_);exact zq.v)):p:=k ⟨g⟩
theorem fV(g:q)(k:Bq q→p:=by(intro zq;refine VC.mh Z (CK ?_);exact zq.v)):p:=k ⟨g⟩
theorem vN(k:p:=by exact CR (an.int 2 Z Z Z ER ⟨rfl,Z⟩)):p:=k
theorem r5(g:q)(k:Bq q→p:=by(intro zq;(repeat(first|refine yG (yN ?_)|refine yG (yE rfl rfl rfl (aw.aA h rfl) ?_)));exact zq.v)):p:=k ⟨g⟩
theorem pY(g:q)(k:Bq q→p:=by(intro zq;refine AG (AP Z Z Z yg yg ?_);exact zq.v)):p:=k ⟨g⟩
theorem bp(g:q)(k:Bq q→p:=by(intro zq;(repeat(first|refine yG (yN ?_)|refine yG (yD 0 rfl rfl rfl rfl rfl ?_)));exact zq.v)):p:=k ⟨g⟩
theorem tp(g:q)(k:Bq q→p:=by(intro zq;refine VG (VP Z Z yg yg ?_);exact zq.v)):p:=k ⟨g⟩
theorem xQ(k:p:=by exact CR (an.bool 2 Z Z Z ER ⟨rfl,Z⟩)):p:=k
theorem DU(g:q)(k:Bq q→p:=by(intro zq;refine VG (VV (fun Fr w hF hs hS=>fO Fr w (hS.aA 0 Z) o1) Z ?_);exact zq.v)):p:=k ⟨g⟩
theorem bG(g:q)(k:Bq q→p:=by(intro zq;(repeat(first|refine zS ?_|refine zR ?_|refine zB ?_|refine zL ?_|refine zC ?_|refine zG (zN ?_)|refine zG (zD 0 rfl rfl rfl rfl ?_)|refine zG (zU rfl rfl rfl ?_)));exact zq.v)):p:=k ⟨g⟩
theorem lR(g:q)(k:Bq q→p:=by(intro zq;refine VC.mi Z ?_;exact zq.v)):p:=k ⟨g⟩
theorem HA(k:p:=by exact CR (an.tmp 4 Z Z ER ⟨by rw[hb],by rw[bJ.jl,hb];rfl⟩)):p:=k
theorem vO(k:p:=by exact an.void Z ER ⟨rfl,Z⟩):p:=k
theorem jz(g:q)(k:Bq q→p:=by(intro zq;refine CS (CG (VG (VN ?_)));exact zq.v)):p:=k ⟨g⟩
theorem cW(g:q)(k:Bq q→p:=by(intro zq;(repeat(first|refine yG (yN ?_)|refine yG (yD 0 rfl rfl rfl rfl rfl ?_)|refine yG (yU rfl rfl rfl rfl ?_)));exact zq.v)):p:=k ⟨g⟩
theorem HB(k:p:=by exact CR (an.cV 2 3 Z Z Z ER ⟨by rw[hb];rfl,by rw[bJ.next,hb];rfl⟩)):p:=k
theorem HC(g:q)(k:Bq q→p:=by(intro zq;refine VG (VO.mf (fun Fr w=>gv Fr w o) Z ?_);exact zq.v)):p:=k ⟨g⟩
theorem DV(g:q)(k:Bq q→p:=by(intro zq;(repeat(first|refine zS ?_|refine zR ?_|refine zB ?_|refine zL ?_|refine zC ?_|refine zG (zN ?_)|refine zG (zD 0 rfl rfl rfl rfl ?_)|refine zG (zE rfl rfl (aw.aA hp rfl) ?_)));exact zq.v)):p:=k ⟨g⟩
theorem AZ(g:q)(k:Bq q→p:=by(intro zq;refine VG (VY 5 false Z Z ?_);exact zq.v)):p:=k ⟨g⟩
theorem o_(k:p:=by exact CR (an.tmp 2 Z Z ER ⟨rfl,Z⟩)):p:=k
theorem HD(g:q)(k:Bq q→p:=by(intro zq;refine VG (VV (fun Fr w hF hs _=>fO Fr w (h.of hF hs)) Z ?_);exact zq.v)):p:=k ⟨g⟩
theorem N4(g:q)(k:Bq q→p:=by(intro zq;refine VG (VI (LB (pv:=[]) (bg cw) Z Z Z yp Z) ?_);exact zq.v)):p:=k ⟨g⟩
theorem HE(g:q)(k:Bq q→p:=by(intro zq;refine VG (VT (vs:=bg cw) 0 Z Z Z Z (NR _) Z Z Z ?_);exact zq.v)):p:=k ⟨g⟩
theorem iB(g:q)(k:Bq q→p:=by(intro zq;(repeat(first|refine yG (yN ?_)|refine yG (yD 0 rfl rfl rfl rfl rfl ?_)|refine yG (yD 1 rfl rfl rfl rfl rfl ?_)|refine yG (yD 2 rfl rfl rfl rfl rfl ?_)|refine yG (yD 3 rfl rfl rfl rfl rfl ?_)));exact zq.v)):p:=k ⟨g⟩
theorem HF(g:q)(k:Bq q→p:=by(intro zq;refine CS (CD (ts 0 10 (.only 10 .nil)) yp yr ?_);exact zq.v)):p:=k ⟨g⟩
theorem r6(g:q)(k:Bq q→p:=by(intro zq;(repeat(first|refine yG (yN ?_)|refine yG (yD 0 rfl rfl rfl rfl rfl ?_)|refine yG (yD 1 rfl rfl rfl rfl rfl ?_)|refine yG (yD 2 rfl rfl rfl rfl rfl ?_)|refine yG (yD 3 rfl rfl rfl rfl rfl ?_)|refine yG (yD 4 rfl rfl rfl rfl rfl ?_)));exact zq.v)):p:=k ⟨g⟩
theorem ox(g:q)(k:Bq q→p:=by(intro zq;(repeat(first|refine zS ?_|refine zR ?_|refine zB ?_|refine zL ?_|refine zC ?_|refine zG (zN ?_)|refine zG (zD 0 rfl rfl rfl rfl ?_)|refine zG (zD 1 rfl rfl rfl rfl ?_)|refine zG (zD 2 rfl rfl rfl rfl ?_)|refine zG (zD 3 rfl rfl rfl rfl ?_)|refine zG (zD 4 rfl rfl rfl rfl ?_)));exact zq.v)):p:=k ⟨g⟩
theorem DW(g:q)(k:Bq q→p:=by(intro zq;refine CS (CD (ts 0 6 (.only 6 .nil)) yp yr ?_);exact zq.v)):p:=k ⟨g⟩
theorem kl(g:q)(k:Bq q→p:=by(intro zq;(repeat(first|refine zS ?_|refine zR ?_|refine zB ?_|refine zL ?_|refine zC ?_|refine zG (zN ?_)|refine zG (zE rfl rfl (aw.aA hb rfl) ?_)));exact zq.v)):p:=k ⟨g⟩
theorem pZ(g:q)(k:Bq q→p:=by(intro zq;refine VG (VO.xH Z Z yg yg ?_);exact zq.v)):p:=k ⟨g⟩
theorem uB(g:q)(k:Bq q→p:=by(intro zq;refine VG (VD Z Z (ra _ _ Z Z) ?_);exact zq.v)):p:=k ⟨g⟩
theorem HG(g:q)(k:Bq q→p:=by(intro zq;refine VG (VV (fun Fr w hF hs hS=>fO Fr w (hb.of hF hs)) Z ?_);exact zq.v)):p:=k ⟨g⟩
theorem A0(g:q)(k:Bq q→p:=by(intro zq;(repeat(first|refine yG (yN ?_)|refine yG (yE rfl rfl rfl (aw.aA hb rfl) ?_)));exact zq.v)):p:=k ⟨g⟩
theorem DX(g:q)(k:Bq q→p:=by(intro zq;(repeat(first|refine zS ?_|refine zR ?_|refine zB ?_|refine zL ?_|refine zC ?_|refine zG (zN ?_)|refine zG (zD 0 rfl rfl rfl rfl ?_)|refine zG (zD 1 rfl rfl rfl rfl ?_)|refine zG (zD 2 rfl rfl rfl rfl ?_)|refine zG (zD 3 rfl rfl rfl rfl ?_)|refine zG (zD 4 rfl rfl rfl rfl ?_)|refine zG (zD 5 rfl rfl rfl rfl ?_)));exact zq.v)):p:=k ⟨g⟩
theorem tq(g:q)(k:Bq q→p:=by(intro zq;(repeat(first|refine zS ?_|refine zR ?_|refine zB ?_|refine zL ?_|refine zC ?_|refine zG (zN ?_)|refine zG (zD 0 rfl rfl rfl rfl ?_)|refine zG (zD 1 rfl rfl rfl rfl ?_)|refine zG (zD 2 rfl rfl rfl rfl ?_)|refine zG (zD 3 rfl rfl rfl rfl ?_)|refine zG (zD 4 rfl rfl rfl rfl ?_)|refine zG (zD 5 rfl rfl rfl rfl ?_)|refine zG (zU rfl rfl rfl ?_)));exact zq.v)):p:=k ⟨g⟩
theorem DY(g:q)(k:Bq q→p:=by(intro zq;refine VG (VT (vs:=bg cw) 4 Z Z Z Z (NR _) Z Z Z ?_);exact zq.v)):p:=k ⟨g⟩
theorem mB(g:q)(k:Bq q→p:=by(intro zq;(repeat(first|refine yG (yN ?_)|refine yG (yD 0 rfl rfl rfl rfl rfl ?_)|refine yG (yD 1 rfl rfl rfl rfl rfl ?_)|refine yG (yD 2 rfl rfl rfl rfl rfl ?_)|refine yG (yD 3 rfl rfl rfl rfl rfl ?_)|refine yG (yD 4 rfl rfl rfl rfl rfl ?_)|refine yG (yD 5 rfl rfl rfl rfl rfl ?_)));exact zq.v)):p:=k ⟨g⟩
theorem N5(g:q)(k:Bq q→p:=by(intro zq;refine CS (CD (ts 0 6 (.only 6 (.only 7 (ts 8 2 (.only 10 .nil))))) yp yr ?_);exact zq.v)):p:=k ⟨g⟩
theorem A1(k:p:=by exact CR (an.tmp 2 Z Z (aa.cK aa.nil).aj ⟨none,0,Z,Z⟩)):p:=k
theorem xR(k:p:=by exact CR (an.tmp 2 Z Z ER ⟨a',c',Z,Z⟩)):p:=k
theorem N6(g:q)(k:Bq q→p:=by(intro zq;refine VG (VI (eE i Z Z Z Z Z Z hi2) ?_);exact zq.v)):p:=k ⟨g⟩
theorem HH(g:q)(k:Bq q→p:=by(intro zq;refine VG (VI (zY (u:=[]) (v:=[.pointer (some ⟨b,0,none⟩)]) Z Z) ?_);exact zq.v)):p:=k ⟨g⟩
theorem N7(k:p:=by exact⟨(),trivial,SC Z (Sub.bl Z (by simp[ua];omega) (SN _)),ER⟩):p:=k
theorem HI(g:q)(k:Bq q→p:=by(intro zq;refine VG (VL 0 (c.cells a cap) Z Z Z Z ?_);exact zq.v)):p:=k ⟨g⟩
theorem A2(g:q)(k:Bq q→p:=by(intro zq;refine VG (VK (Lc:=[]) (fun Fr w hF hw _=>Me (c:=c) (a:=a) (cap:=cap) Fr w) Z Z ?_);exact zq.v)):p:=k ⟨g⟩
theorem dF(g:q)(k:Bq q→p:=by(intro zq;(repeat(first|refine zS ?_|refine zR ?_|refine zB ?_|refine zL ?_|refine zC ?_|refine zG (zN ?_)|refine zG (zD 0 rfl rfl rfl rfl ?_)|refine zG (zD 1 rfl rfl rfl rfl ?_)));exact zq.v)):p:=k ⟨g⟩
theorem jA(g:q)(k:Bq q→p:=by(intro zq;(repeat(first|refine zS ?_|refine zR ?_|refine zB ?_|refine zL ?_|refine zC ?_|refine zG (zN ?_)|refine zG (zD 0 rfl rfl rfl rfl ?_)|refine zG (zD 1 rfl rfl rfl rfl ?_)|refine zG (zD 2 rfl rfl rfl rfl ?_)));exact zq.v)):p:=k ⟨g⟩
theorem xS(g:q)(k:Bq q→p:=by(intro zq;refine VG (VY 40 true Z Z ?_);exact zq.v)):p:=k ⟨g⟩
theorem gO(g:q)(k:Bq q→p:=by(intro zq;(repeat(first|refine zS ?_|refine zR ?_|refine zB ?_|refine zL ?_|refine zC ?_|refine zG (zN ?_)|refine zG (zD 0 rfl rfl rfl rfl ?_)|refine zG (zD 1 rfl rfl rfl rfl ?_)|refine zG (zD 2 rfl rfl rfl rfl ?_)|refine zG (zU rfl rfl rfl ?_)));exact zq.v)):p:=k ⟨g⟩
theorem xT(g:q)(k:Bq q→p:=by(intro zq;refine VG (VY 40 false Z Z ?_);exact zq.v)):p:=k ⟨g⟩
theorem dG(g:q)(k:Bq q→p:=by(intro zq;(repeat(first|refine zS ?_|refine zR ?_|refine zB ?_|refine zL ?_|refine zC ?_|refine zG (zN ?_)|refine zG (zD 0 rfl rfl rfl rfl ?_)|refine zG (zD 1 rfl rfl rfl rfl ?_)|refine zG (zU rfl rfl rfl ?_)));exact zq.v)):p:=k ⟨g⟩
theorem A3(g:q)(k:Bq q→p:=by(intro zq;refine VG (VI (eE k Z Z Z Z Z Z hk) ?_);exact zq.v)):p:=k ⟨g⟩
theorem xU(g:q)(k:Bq q→p:=by(intro zq;refine VG (VD Z Z (rc _ _ 0 _ Z Z) ?_);exact zq.v)):p:=k ⟨g⟩
theorem qS(k:p:=by exact CR (an.tmp 2 Z Z aa.nil.aj ⟨rfl,Z⟩)):p:=k
theorem DZ(g:q)(k:Bq q→p:=by(intro zq;refine VG (VO.wG (u:=.int .i64 (placeOf c.ms n)) Z (fun Fr w hF hs hS=>CU Fr w (hS.aA 0 Z) (h.of hF hs) yg n) Z ?_);exact zq.v)):p:=k ⟨g⟩
theorem vP(g:q)(k:Bq q→p:=by(intro zq;refine VG (VL 1 (c.cells a cap) Z Z Z Z ?_);exact zq.v)):p:=k ⟨g⟩
theorem gm(g:q)(k:Bq q→p:=by(intro zq;refine VG (VN ?_);exact zq.v)):p:=k ⟨g⟩
theorem xV(g:q)(k:Bq q→p:=by(intro zq;refine AG (VA.xH Z Z Z yg yg ?_);exact zq.v)):p:=k ⟨g⟩
theorem D0(k:p:=by exact⟨s,h1,G,h2,by simpa using hn,fun b hb=>by simpa using hb⟩):p:=k
theorem HJ(g:q)(k:Bq q→p:=by(intro zq;refine VO.aj (L':=[aq aP 2 (some ⟨b,0,none⟩) 0 0 []]) (aa.sl (M:=[]) (cs:=[]) (rest:=[]) Z (NR _) Z (aa.refl (L:=[pt b [] aP]))).aj ?_;exact zq.v)):p:=k ⟨g⟩
theorem N8(g:q)(k:Bq q→p:=by(intro zq;(repeat(first|refine zS ?_|refine zR ?_|refine zB ?_|refine zL ?_|refine zC ?_|refine zG (zN ?_)|refine zG (zD 0 rfl rfl rfl rfl ?_)|refine zG (zE rfl rfl (aw.aA hb rfl) ?_)));exact zq.v)):p:=k ⟨g⟩
theorem N9(k:p:=by exact CR (an.tmp 4 Z Z (IP 0 Z (IP 0 Z aa.nil)).aj ⟨a,c,rows,h1,Z,Z⟩)):p:=k
theorem N_(g:q)(k:Bq q→p:=by(intro zq;refine VG (VT (vs:=aY (f,m)) (cs':=aY (f,m)) 1 Z Z Z Z (NR _) Z Z Z (VG (VN ?_)));exact zq.v)):p:=k ⟨g⟩
theorem N'(g:q)(k:Bq q→p:=by(intro zq;refine VG (VT (vs:=aY eZ) (cs':=aY eZ) 0 Z Z Z Z (NR _) Z Z Z (VG (VN ?_)));exact zq.v)):p:=k ⟨g⟩
theorem fj(g:q)(k:Bq q→p:=by(intro zq;(repeat(first|refine yG (yN ?_)|refine yG (yD 0 rfl rfl rfl rfl rfl ?_)|refine yG (yD 1 rfl rfl rfl rfl rfl ?_)));exact zq.v)):p:=k ⟨g⟩
theorem jh(g:q)(k:Bq q→p:=by(intro zq;(repeat(first|refine yG (yN ?_)|refine yG (yD 0 rfl rfl rfl rfl rfl ?_)|refine yG (yD 1 rfl rfl rfl rfl rfl ?_)|refine yG (yD 2 rfl rfl rfl rfl rfl ?_)));exact zq.v)):p:=k ⟨g⟩
theorem HK(g:q)(k:Bq q→p:=by(intro zq;refine VG (VO.st 2 Z Z Z Z Eo Z Z (VG (VN ?_)));exact zq.v)):p:=k ⟨g⟩
theorem xW(g:q)(k:Bq q→p:=by(intro zq;refine VG (VI (eE k Z Z Z Z Z Z yg) ?_);exact zq.v)):p:=k ⟨g⟩
theorem Oa(g:q)(k:Bq q→p:=by(intro zq;refine VG (VV (fun Fr w hF hs _=>Ring.kJ Fr w ((h.ring k _ hr).of hF hs)) Z (VG (VN ?_)));exact zq.v)):p:=k ⟨g⟩
theorem Ob(g:q)(k:Bq q→p:=by(intro zq;refine VG (VV (fun Fr w hF _ hs=>SY Fr w (a_.shut s0 h0 hs.tail)) Z (VG (VN ?_)));exact zq.v)):p:=k ⟨g⟩
theorem D1(g:q)(k:Bq q→p:=by(intro zq;refine VG (VO.ld 2 Z Z Z (hcell (j:=0) Z) ?_);exact zq.v)):p:=k ⟨g⟩
theorem HL(g:q)(k:Bq q→p:=by(intro zq;refine VG (VQ 2 (ψ:=fun v H=>v=.tuple #[]∧H=Vt p s.cb s.rows.length s.rk S.bt) Z (fun Fr w _ _ _=>GH Fr w yg yg) Z (fun v L1 ⟨h1,h2⟩=>⟨_,h2,h1,Z⟩) ?_);exact zq.v)):p:=k ⟨g⟩
theorem Oc(k:p:=by exact(aa.trans aa.tl (aa.trans aa.tl (aa.trans (aa.of_eq e) (xz (h.C6 hr hwf))))).aj):p:=k
theorem vQ(g:q)(k:Bq q→p:=by(intro zq;refine VG (VO.ld 1 Z Z Z Z ?_);exact zq.v)):p:=k ⟨g⟩
theorem mV(g:q)(k:Bq q→p:=by(intro zq;refine CS (CG ?_);exact zq.v)):p:=k ⟨g⟩
theorem p5(g:q)(k:Bq q→p:=by(intro zq;refine VG (VO.ld 2 Z Z Z Z (VG (VO.ld 0 Z Z Z Z ?_)));exact zq.v)):p:=k ⟨g⟩
theorem A4(g:q)(k:Bq q→p:=by(intro zq;refine VG (VY 47 false Z Z ?_);exact zq.v)):p:=k ⟨g⟩
theorem HM(g:q)(k:Bq q→p:=by(intro zq;refine VG (VY 54 false Z Z ?_);exact zq.v)):p:=k ⟨g⟩
theorem xgm(g:q)(k:Bq q→p:=by(intro zq;refine VG (VY 61 false Z Z ?_);exact zq.v)):p:=k ⟨g⟩
theorem xgn(g:q)(k:Bq q→p:=by(intro zq;refine VG (VY 68 false Z Z ?_);exact zq.v)):p:=k ⟨g⟩
theorem xgo(g:q)(k:Bq q→p:=by(intro zq;refine VG (VY 75 false Z Z ?_);exact zq.v)):p:=k ⟨g⟩
theorem Od(g:q)(k:Bq q→p:=by(intro zq;refine VG (VY 82 false Z Z ?_);exact zq.v)):p:=k ⟨g⟩
theorem Oe(g:q)(k:Bq q→p:=by(intro zq;refine AG (AO (aK.eB (φ:=fun v=>v=.int .i64 (aF c.bK 1 6)) (fun Fr w _ _ _=>ju Fr w _ _ _) rfl) rfl (fun v L' h=>by obtain⟨_,rfl⟩:=h;exact jB) ?_);exact zq.v)):p:=k ⟨g⟩
theorem HN(g:q)(k:Bq q→p:=by(intro zq;refine AG (AO (aK.eB (φ:=fun v=>v=.int .i64 (aF c.queue 1 16)) (fun Fr w _ _ _=>ju Fr w _ _ _) rfl) rfl (fun v L' h=>by obtain⟨_,rfl⟩:=h;exact jB) ?_);exact zq.v)):p:=k ⟨g⟩
theorem D2(g:q)(k:Bq q→p:=by(intro zq;refine AG (AO (aK.eB (φ:=fun v=>v=.int .i64 (aF c.gY 1 16)) (fun Fr w _ _ _=>ju Fr w _ _ _) rfl) rfl (fun v L' h=>by obtain⟨_,rfl⟩:=h;exact jB) ?_);exact zq.v)):p:=k ⟨g⟩
theorem A5(g:q)(k:Bq q→p:=by(intro zq;refine AG (AO (aK.eB (φ:=fun v=>v=.int .i64 (aF c.reads 1 16)) (fun Fr w _ _ _=>ju Fr w _ _ _) rfl) rfl (fun v L' h=>by obtain⟨_,rfl⟩:=h;exact jB) ?_);exact zq.v)):p:=k ⟨g⟩
theorem xX(g:q)(k:Bq q→p:=by(intro zq;refine AG (AO (aK.eB (φ:=fun v=>v=.int .i64 (aF c.link 4 64)) (fun Fr w _ _ _=>ju Fr w _ _ _) rfl) rfl (fun v L' h=>by obtain⟨_,rfl⟩:=h;exact jB) ?_);exact zq.v)):p:=k ⟨g⟩
theorem vR(g:q)(k:Bq q→p:=by(intro zq;refine AG (AO (aK.eB (φ:=fun v=>v=.int .i64 (aF c.fQ 4 64)) (fun Fr w _ _ _=>ju Fr w _ _ _) rfl) rfl (fun v L' h=>by obtain⟨_,rfl⟩:=h;exact jB) ?_);exact zq.v)):p:=k ⟨g⟩
theorem uC(g:q)(k:Bq q→p:=by(intro zq;refine AG (AO (aK.eB (φ:=fun v=>v=.int .i64 (aF c.timeout 4 64)) (fun Fr w _ _ _=>ju Fr w _ _ _) rfl) rfl (fun v L' h=>by obtain⟨_,rfl⟩:=h;exact jB) ?_);exact zq.v)):p:=k ⟨g⟩
theorem tr(g:q)(k:Bq q→p:=by(intro zq;refine AG (AO (aK.eB (φ:=fun v=>v=.int .i64 (aF c.gI 0 16)) (fun Fr w _ _ _=>ju Fr w _ _ _) rfl) rfl (fun v L' h=>by obtain⟨_,rfl⟩:=h;exact jB) ?_);exact zq.v)):p:=k ⟨g⟩
theorem r7(g:q)(k:Bq q→p:=by(intro zq;refine AG (AO (aK.eB (φ:=fun v=>v=.int .i64 (aF c.fh 1 1099511627776)) (fun Fr w _ _ _=>ju Fr w _ _ _) rfl) rfl (fun v L' h=>by obtain⟨_,rfl⟩:=h;exact jB) ?_);exact zq.v)):p:=k ⟨g⟩
theorem Of(g:q)(k:Bq q→p:=by(intro zq;refine AG (AI Z (TJ Z Z) ?_);exact zq.v)):p:=k ⟨g⟩
theorem Og(g:q)(k:Bq q→p:=by(intro zq;refine AG (AT (vs:=[.int .i64 (aF c.nodes 1 6),.int .i64 (aF c.chain 1 (aF c.nodes 1 6)),.int .i64 (aF c.bK 1 6),.slice none 0 0,.int .i64 (aF c.queue 1 16),.int .i64 (aF c.gY 1 16),.int .i64 (aF c.reads 1 16),.int .i64 (aF c.link 4 64),.int .i64 (aF c.fQ 4 64),.int .i64 (aF c.timeout 4 64),.int .i64 (aF c.gI 0 16),.int .i64 (aF c.fh 1 1099511627776)]) (cs':=[.int .i64 (aF c.nodes 1 6),.int .i64 (aF c.chain 1 (aF c.nodes 1 6)),.int .i64 (aF c.bK 1 6),.slice none 0 0,.int .i64 (aF c.queue 1 16),.int .i64 (aF c.gY 1 16),.int .i64 (aF c.reads 1 16),.int .i64 (aF c.link 4 64),.int .i64 (aF c.fQ 4 64),.int .i64 (aF c.timeout 4 64),.int .i64 (aF c.gI 0 16),.int .i64 (aF c.fh 1 1099511627776)]) 0 Z Z Z Z Z (NR _) Z Z Z jB (AG (AN ?_)));exact zq.v)):p:=k ⟨g⟩
theorem Oh(k:p:=by exact⟨d,trivial,aH,ER⟩):p:=k
theorem Oi(g:q)(k:Bq q→p:=by(intro zq;refine VG (VI (LB (pv:=[(0,.int .i64 s),(1,.int .i64 t)]) (kN (s,t)) Z Z Z Z Z) ?_);exact zq.v)):p:=k ⟨g⟩
theorem HO(k:p:=by exact CR (an.int 8 Z Z mW out ⟨rfl,by rw[e]⟩)):p:=k
theorem D3(g:q)(k:Bq q→p:=by(intro zq;refine CD (ts 0 6 (.only 6 .nil)) yp yr ?_;exact zq.v)):p:=k ⟨g⟩
theorem pd(g:q)(k:Bq q→p:=by(intro zq;(repeat(first|refine yG (yN ?_)|refine yG (yD 0 rfl rfl rfl rfl rfl ?_)|refine yG (yE rfl rfl rfl (aw.aA hb rfl) ?_)));exact zq.v)):p:=k ⟨g⟩
theorem p6(g:q)(k:Bq q→p:=by(intro zq;refine AG (VA.U7 Z Z ?_);exact zq.v)):p:=k ⟨g⟩
theorem Oj(g:q)(k:Bq q→p:=by(intro zq;refine AG (AY 38 false Z Z ?_);exact zq.v)):p:=k ⟨g⟩
theorem xhi(g:q)(k:Bq q→p:=by(intro zq;refine AG (AY 43 false Z Z ?_);exact zq.v)):p:=k ⟨g⟩
theorem xhj(g:q)(k:Bq q→p:=by(intro zq;refine AG (AY 48 false Z Z ?_);exact zq.v)):p:=k ⟨g⟩
theorem xhk(g:q)(k:Bq q→p:=by(intro zq;refine AG (AY 54 false Z Z ?_);exact zq.v)):p:=k ⟨g⟩
theorem D4(g:q)(k:Bq q→p:=by(intro zq;refine AG (AI Z (iL n Z Z Z Z Z hcl hn) ?_);exact zq.v)):p:=k ⟨g⟩
theorem D5(k:p:=by exact CR (an.int 6 Z Z mW out ⟨rfl,by rw[e]⟩)):p:=k
theorem HQ(k:p:=by exact CR (an.int 6 Z Z mW (L':=[_]) aa.tl.aj ⟨rfl,by rw[e]⟩)):p:=k
theorem D6(g:q)(k:Bq q→p:=by(intro zq;(repeat(first|refine yG (yN ?_)|refine yG (yD 0 rfl rfl rfl rfl rfl ?_)|refine yG (yE rfl rfl rfl (aw.aA h rfl) ?_)));exact zq.v)):p:=k ⟨g⟩
theorem D7(g:q)(k:Bq q→p:=by(intro zq;refine AG (VA.load Z Z Z (aw.jF (ds:=R.ch.cells x.a x.c) h Z) ?_);exact zq.v)):p:=k ⟨g⟩
theorem Ol(g:q)(k:Bq q→p:=by(intro zq;refine CS (CD (.take 0 (.only 1 (ts 2 5 (ts 8 4 (.only 7 (ts 12 3 .nil)))))) yp yr ?_);exact zq.v)):p:=k ⟨g⟩
theorem HR(g:q)(k:Bq q→p:=by(intro zq;refine AG (AR (fun Fr w hF hs hS=>KF Fr w (h.of hF hs)) Z Z yu ?_);exact zq.v)):p:=k ⟨g⟩
theorem uD(g:q)(k:Bq q→p:=by(intro zq;(repeat(first|refine yG (yN ?_)|refine yG (yE rfl rfl rfl (aw.aA h rfl) ?_)|refine yG (yU rfl rfl rfl rfl ?_)));exact zq.v)):p:=k ⟨g⟩
theorem HS(k:p:=by exact an.void Z (IP 1 Z aa.nil).aj ⟨rfl,Z⟩):p:=k
theorem Om(k:p:=by exact⟨(),trivial,SC Z (SC Z (SC Z (Sub.int Z (by rw[hd];rfl) (SN _)))),ER⟩):p:=k
theorem vS(g:q)(k:Bq q→p:=by(intro zq;(repeat(first|refine zS ?_|refine zR ?_|refine zB ?_|refine zL ?_|refine zC ?_|refine zG (zN ?_)|refine zG (zE rfl rfl (aw.aA hb rfl) ?_)|refine zG (zU rfl rfl rfl ?_)));exact zq.v)):p:=k ⟨g⟩
theorem xY(g:q)(k:Bq q→p:=by(intro zq;refine VC.bz 0 Z (bd.rep p R) ?_;exact zq.v)):p:=k ⟨g⟩
theorem On(g:q)(k:Bq q→p:=by(intro zq;refine VG (VV (fun Fr w hF hs hS=>AJ Fr w (hS.aA 0 Z) (aT.aq cu (hS.at_ 1 Z)) ok.ch) Z ?_);exact zq.v)):p:=k ⟨g⟩
theorem Oo(g:q)(k:Bq q→p:=by(intro zq;refine VG (VV (fun Fr w hF hs hS=>Win.zx Fr w (hS.aA 3 Z) w0) Z ?_);exact zq.v)):p:=k ⟨g⟩
theorem Oq(g:q)(k:Bq q→p:=by(intro zq;refine VG (VV (fun Fr w hF hs hS=>Win.qz Fr w (hS.aA 3 Z) w0) Z ?_);exact zq.v)):p:=k ⟨g⟩
theorem uE(g:q)(k:Bq q→p:=by(intro zq;(repeat(first|refine yG (yN ?_)|refine yG (yD 0 rfl rfl rfl rfl rfl ?_)|refine yG (yD 1 rfl rfl rfl rfl rfl ?_)|refine yG (yD 2 rfl rfl rfl rfl rfl ?_)|refine yG (yD 3 rfl rfl rfl rfl rfl ?_)|refine yG (yD 4 rfl rfl rfl rfl rfl ?_)|refine yG (yD 5 rfl rfl rfl rfl rfl ?_)|refine yG (yD 6 rfl rfl rfl rfl rfl ?_)|refine yG (yD 7 rfl rfl rfl rfl rfl ?_)));exact zq.v)):p:=k ⟨g⟩
theorem Ot(g:q)(k:Bq q→p:=by(intro zq;refine CS (CD (ts 0 2 (.only 2 .nil)) yp yr ?_);exact zq.v)):p:=k ⟨g⟩
theorem Ou(g:q)(k:Bq q→p:=by(intro zq;refine AG (VA.dE 6 (bg cw) Z Z Z Z Z ?_);exact zq.v)):p:=k ⟨g⟩
theorem xid(g:q)(k:Bq q→p:=by(intro zq;refine AG (AT (vs:=bg cw) 6 Z Z Z Z Z (NR _) Z Z Z yu ?_);exact zq.v)):p:=k ⟨g⟩
theorem vT(g:q)(k:Bq q→p:=by(intro zq;(repeat(first|refine zS ?_|refine zR ?_|refine zB ?_|refine zL ?_|refine zC ?_|refine zG (zN ?_)|refine zG (zD 0 rfl rfl rfl rfl ?_)|refine zG (zD 1 rfl rfl rfl rfl ?_)|refine zG (zD 2 rfl rfl rfl rfl ?_)|refine zG (zD 3 rfl rfl rfl rfl ?_)|refine zG (zD 4 rfl rfl rfl rfl ?_)|refine zG (zD 5 rfl rfl rfl rfl ?_)|refine zG (zD 6 rfl rfl rfl rfl ?_)|refine zG (zD 7 rfl rfl rfl rfl ?_)));exact zq.v)):p:=k ⟨g⟩
theorem Ov(k:p:=by exact⟨(),trivial,SC Z (SC Z (SC Z (SC Z (SC Z (SC Z (SC Z (Sub.bl Z Z (SN _)))))))),ER⟩):p:=k
theorem D8(g:q)(k:Bq q→p:=by(intro zq;refine VC.bz 1 Z (bd.rep p R) ?_;exact zq.v)):p:=k ⟨g⟩
theorem A6(g:q)(k:Bq q→p:=by(intro zq;refine VG (VV (fun Fr w hF hs hS=>KL Fr w (hS.aA 0 Z) f _) Z ?_);exact zq.v)):p:=k ⟨g⟩
theorem HT(g:q)(k:Bq q→p:=by(intro zq;(repeat(first|refine zS ?_|refine zR ?_|refine zB ?_|refine zL ?_|refine zC ?_|refine zG (zN ?_)|refine zG (zD 0 rfl rfl rfl rfl ?_)|refine zG (zD 1 rfl rfl rfl rfl ?_)|refine zG (zD 2 rfl rfl rfl rfl ?_)|refine zG (zD 3 rfl rfl rfl rfl ?_)|refine zG (zD 4 rfl rfl rfl rfl ?_)|refine zG (zD 5 rfl rfl rfl rfl ?_)|refine zG (zD 6 rfl rfl rfl rfl ?_)));exact zq.v)):p:=k ⟨g⟩
theorem qT(g:q)(k:Bq q→p:=by(intro zq;(repeat(first|refine yG (yN ?_)|refine yG (yD 0 rfl rfl rfl rfl rfl ?_)|refine yG (yD 1 rfl rfl rfl rfl rfl ?_)|refine yG (yD 2 rfl rfl rfl rfl rfl ?_)|refine yG (yD 3 rfl rfl rfl rfl rfl ?_)|refine yG (yD 4 rfl rfl rfl rfl rfl ?_)|refine yG (yD 5 rfl rfl rfl rfl rfl ?_)|refine yG (yD 6 rfl rfl rfl rfl rfl ?_)));exact zq.v)):p:=k ⟨g⟩
theorem Ow(k:p:=by exact⟨h.ch,h.au,h.last,h.kL,h.kM,h.gU,h.gA,h.rl,h.kR,h.lM,h.kh,h.calls,h.wf⟩):p:=k
theorem HU(g:q)(k:Bq q→p:=by(intro zq;(repeat(first|refine yG (yN ?_)|refine yG (yD 0 rfl rfl rfl rfl rfl ?_)|refine yG (yD 1 rfl rfl rfl rfl rfl ?_)|refine yG (yD 2 rfl rfl rfl rfl rfl ?_)|refine yG (yD 3 rfl rfl rfl rfl rfl ?_)|refine yG (yD 4 rfl rfl rfl rfl rfl ?_)|refine yG (yD 5 rfl rfl rfl rfl rfl ?_)|refine yG (yD 6 rfl rfl rfl rfl rfl ?_)|refine yG (yU rfl rfl rfl rfl ?_)));exact zq.v)):p:=k ⟨g⟩
theorem Ox(g:q)(k:Bq q→p:=by(intro zq;refine CD (ts 0 5 (.two 5 9 (ts 6 3 (.only 9 (.only 10 (.take 11 .nil)))) (.only 5 (ts 6 3 (.only 10 (.take 11 .nil)))))) yp yr ?_;exact zq.v)):p:=k ⟨g⟩
theorem Oy(g:q)(k:Bq q→p:=by(intro zq;refine VG (VV (fun Fr w hF hs hS=>Rep.sU Fr w (hS.aA 0 Z) (aT.aq cu (hS.at_ 1 Z)) ok.ch) Z ?_);exact zq.v)):p:=k ⟨g⟩
theorem Oz(g:q)(k:Bq q→p:=by(intro zq;refine AG (AI Z (LB (pv:=[(0,.int .i64 (R.log.length+1)),(1,.int .i64 (eF R now).aL),(2,.int .i64 (eF R now).seq),(3,.agg (eF R now).op.cells.toArray)]) (bm (e7 R now)) Z Z Z yp Z) ?_);exact zq.v)):p:=k ⟨g⟩
theorem OA(g:q)(k:Bq q→p:=by(intro zq;refine AG (AT (vs:=bg (oc R.log (e7 R now))) 0 Z Z Z Z Z (NR _) Z Z Z yu ?_);exact zq.v)):p:=k ⟨g⟩
theorem HV(g:q)(k:Bq q→p:=by(intro zq;refine VG (VV (fun Fr w hF hs hS=>vn Fr w (hS.aA 0 Z)) Z ?_);exact zq.v)):p:=k ⟨g⟩
theorem HW(g:q)(k:Bq q→p:=by(intro zq;refine VG (VI (zY (u:=[.pointer (some ⟨ob,0,none⟩)]) (v:=[]) Z Z) ?_);exact zq.v)):p:=k ⟨g⟩
theorem A7(g:q)(k:Bq q→p:=by(intro zq;refine VG (VD Z Z ((hrd 0 Z).1 _ Z Z) ?_);exact zq.v)):p:=k ⟨g⟩
theorem HX(g:q)(k:Bq q→p:=by(intro zq;refine VG (VT (vs:=dq g) 0 Z Z Z Z (NR _) Z Z Z ?_);exact zq.v)):p:=k ⟨g⟩
theorem OB(g:q)(k:Bq q→p:=by(intro zq;refine VO.aj (L':=[aq aP 2 none 0 0 [],pt d [.int .i64 0,.slice none 0 0,.int .i64 0] cM,pt b (c.cells a cap) cM]) (aa.cK (bb [0,0])).aj ?_;exact zq.v)):p:=k ⟨g⟩
theorem HY(k:p:=by exact CR (an.cell 2 Z Z Z (aw.many 1 Z Z) (IP 0 Z aa.nil).aj ⟨a',c',Z,Z⟩)):p:=k
theorem OD(g:q)(k:Bq q→p:=by(intro zq;refine VG (VK (Lc:=[]) (fun Fr w hF hs _=>Ra Fr w (hm.of hF hs) yg) Z Z ?_);exact zq.v)):p:=k ⟨g⟩
theorem OE(g:q)(k:Bq q→p:=by(intro zq;refine VG (VO.st 0 (cs':=bu { iH R c with whole:=false } y) Z Z Z Z Pw Z Z ?_);exact zq.v)):p:=k ⟨g⟩
theorem HZ(g:q)(k:Bq q→p:=by(intro zq;refine VG (VT (vs:=rm.cells none 0) (cs':=rm.cells none 0) 0 Z Z Z Z (NR _) Z Z Z ?_);exact zq.v)):p:=k ⟨g⟩
theorem H0(g:q)(k:Bq q→p:=by(intro zq;refine CR (an.cV 6 7 Z Z Z aa.nil.aj ?_);exact zq.v)):p:=k ⟨g⟩
theorem tu(g:q)(k:Bq q→p:=by(intro zq;(repeat(first|refine yG (yN ?_)|refine yG (yD 0 rfl rfl rfl rfl rfl ?_)|refine yG (yD 1 rfl rfl rfl rfl rfl ?_)|refine yG (yD 2 rfl rfl rfl rfl rfl ?_)|refine yG (yD 3 rfl rfl rfl rfl rfl ?_)|refine yG (yD 4 rfl rfl rfl rfl rfl ?_)|refine yG (yD 5 rfl rfl rfl rfl rfl ?_)|refine yG (yD 6 rfl rfl rfl rfl rfl ?_)|refine yG (yD 7 rfl rfl rfl rfl rfl ?_)|refine yG (yU rfl rfl rfl rfl ?_)));exact zq.v)):p:=k ⟨g⟩
theorem xjb(g:q)(k:Bq q→p:=by(intro zq;refine VG (VL 7 (cF f (ma,ms.length,mc)) Z Z Z Z ?_);exact zq.v)):p:=k ⟨g⟩
theorem A8(g:q)(k:Bq q→p:=by(intro zq;refine VO.aj (L':=[bo p R,aZ ob []]) shut ?_;exact zq.v)):p:=k ⟨g⟩
theorem qU(k:p:=by exact⟨(),trivial,aH,none_ hT⟩):p:=k
theorem OF(g:q)(k:Bq q→p:=by(intro zq;refine VG (VV (fun Fr w hF hs hS=>Rep.C0 Fr w (hS.aA 0 Z) (aT.aq cu (hS.at_ 1 Z)) ok.ch) Z ?_);exact zq.v)):p:=k ⟨g⟩
theorem D9(g:q)(k:Bq q→p:=by(intro zq;refine AG (AI Z (eE n Z Z Z Z Z yg yg) ?_);exact zq.v)):p:=k ⟨g⟩
theorem ae(g:q)(k:Bq q→p:=by(intro zq;(repeat(first|refine zS ?_|refine zR ?_|refine zB ?_|refine zL ?_|refine zC ?_|refine zG (zN ?_)));exact zq.v)):p:=k ⟨g⟩
theorem cn(g:q)(k:Bq q→p:=by(intro zq;(repeat(first|refine yG (yN ?_)|refine yG (yU rfl rfl rfl rfl ?_)));exact zq.v)):p:=k ⟨g⟩
theorem km(g:q)(k:Bq q→p:=by(intro zq;(repeat(first|refine zS ?_|refine zR ?_|refine zB ?_|refine zL ?_|refine zC ?_|refine zG (zN ?_)|refine zG (zD 0 rfl rfl rfl rfl ?_)|refine zG (zD 1 rfl rfl rfl rfl ?_)|refine zG (zD 2 rfl rfl rfl rfl ?_)|refine zG (zD 3 rfl rfl rfl rfl ?_)|refine zG (zU rfl rfl rfl ?_)));exact zq.v)):p:=k ⟨g⟩
theorem av(g:q)(k:Bq q→p:=by(intro zq;(repeat(first|refine zS ?_|refine zR ?_|refine zB ?_|refine zL ?_|refine zC ?_|refine zG (zN ?_)|refine zG (zU rfl rfl rfl ?_)));exact zq.v)):p:=k ⟨g⟩
theorem A9(k:p:=by exact⟨(a2,c2),trivial,aH,(bb [0,1,1,1]).aj⟩):p:=k
theorem qV(k:p:=by exact⟨(sa,sc),trivial,aH,ER⟩):p:=k
theorem tv(g:q)(k:Bq q→p:=by(intro zq;(repeat(first|refine yG (yN ?_)|refine yG (yD 0 rfl rfl rfl rfl rfl ?_)|refine yG (yD 1 rfl rfl rfl rfl rfl ?_)|refine yG (yD 2 rfl rfl rfl rfl rfl ?_)|refine yG (yD 3 rfl rfl rfl rfl rfl ?_)|refine yG (yU rfl rfl rfl rfl ?_)));exact zq.v)):p:=k ⟨g⟩
theorem xZ(g:q)(k:Bq q→p:=by(intro zq;(repeat(first|refine yG (yN ?_)|refine yG (yD 0 rfl rfl rfl rfl rfl ?_)|refine yG (yD 1 rfl rfl rfl rfl rfl ?_)|refine yG (yD 2 rfl rfl rfl rfl rfl ?_)|refine yG (yU rfl rfl rfl rfl ?_)));exact zq.v)):p:=k ⟨g⟩
theorem ko(g:q)(k:Bq q→p:=by(intro zq;(repeat(first|refine yG (yN ?_)|refine yG (yD 0 rfl rfl rfl rfl rfl ?_)|refine yG (yD 1 rfl rfl rfl rfl rfl ?_)|refine yG (yU rfl rfl rfl rfl ?_)));exact zq.v)):p:=k ⟨g⟩
theorem D_(g:q)(k:Bq q→p:=by(intro zq;refine CD (ts 0 6 (.only 6 (.take 7 .nil))) yp yr ?_;exact zq.v)):p:=k ⟨g⟩
theorem OG(g:q)(k:Bq q→p:=by(intro zq;refine VG (VV (fun Fr w hF hs _=>Conf.gv Fr w c qa qc (pG hq hF hs) hqa hqc) Z ?_);exact zq.v)):p:=k ⟨g⟩
theorem ji(g:q)(k:Bq q→p:=by(intro zq;(repeat(first|refine zS ?_|refine zR ?_|refine zB ?_|refine zL ?_|refine zC ?_|refine zG (zN ?_)|refine zG (zE rfl rfl (aw.aA h rfl) ?_)|refine zG (zU rfl rfl rfl ?_)));exact zq.v)):p:=k ⟨g⟩
theorem cX(g:q)(k:Bq q→p:=by(intro zq;(repeat(first|refine yG (yN ?_)));exact zq.v)):p:=k ⟨g⟩
theorem OH(g:q)(k:Bq q→p:=by(intro zq;refine VG (VT (vs:=dL my) (cs':=dL my) 0 Z Z Z Z (NR _) Z Z Z ?_);exact zq.v)):p:=k ⟨g⟩
theorem OI(k:p:=by exact CR (an.dt 2 3 Z Z Z (aw.many (ds:=dL my) 0 Z Z) Z aa.nil.aj ⟨rfl,Z⟩)):p:=k
theorem A_(k:p:=by exact CR (an.tmp 4 Z Z ER ⟨rfl,Z⟩)):p:=k
theorem OJ(g:q)(k:Bq q→p:=by(intro zq;refine VG (VI (TN i (i+1) l.length Z Z Z Z Z Z Z Z Z Z yg yg hcap) ?_);exact zq.v)):p:=k ⟨g⟩
theorem OK(g:q)(k:Bq q→p:=by(intro zq;refine VG (VI (K3 (l.length-1) l.length Z Z Z Z Z Z Z Z yg hcap yg) ?_);exact zq.v)):p:=k ⟨g⟩
theorem OL(g:q)(k:Bq q→p:=by(intro zq;refine VG (VV (u:=G3 none) (fun Fr w hF hw _=>hr▸C4 Fr w s hs) Z ?_);exact zq.v)):p:=k ⟨g⟩
theorem OM(g:q)(k:Bq q→p:=by(intro zq;refine VG (VV (u:=G3 (some (u,r))) (fun Fr w hF hw _=>hr▸C4 Fr w s hs) Z ?_);exact zq.v)):p:=k ⟨g⟩
theorem Ba(g:q)(k:Bq q→p:=by(intro zq;refine AG (AI Z (oS Z Z ybl) ?_);exact zq.v)):p:=k ⟨g⟩
theorem D'(g:q)(k:Bq q→p:=by(intro zq;refine VG (VI (oS Z Z ybm) ?_);exact zq.v)):p:=k ⟨g⟩
theorem H2(g:q)(k:Bq q→p:=by(intro zq;refine VG (VV (fun Fr w hF hw _=>hv▸Ro Fr w r yg) Z ?_);exact zq.v)):p:=k ⟨g⟩
theorem H3(g:q)(k:Bq q→p:=by(intro zq;refine VG (VI (LB (pv:=[]) (bw.cells ⟨0,bT [],bT [],0⟩) Z Z Z yp Z) ?_);exact zq.v)):p:=k ⟨g⟩
theorem H4(g:q)(k:Bq q→p:=by(intro zq;refine VG (VT (vs:=bw.cells ⟨0,bT [],bT [],0⟩) (cs':=bw.cells ⟨0,bT [],bT [],0⟩) 1 Z Z Z Z (NR _) Z Z Z ?_);exact zq.v)):p:=k ⟨g⟩
theorem ON(g:q)(k:Bq q→p:=by(intro zq;refine VG (VI (LB (pv:=[]) (fE.cells none 0) Z Z Z yp Z) ?_);exact zq.v)):p:=k ⟨g⟩
theorem OO(g:q)(k:Bq q→p:=by(intro zq;refine VG (VT (vs:=fE.cells none 0) (cs':=fE.cells none 0) 0 Z Z Z Z (NR _) Z Z Z ?_);exact zq.v)):p:=k ⟨g⟩
theorem H5(g:q)(k:Bq q→p:=by(intro zq;refine VG (VK (Lc:=[]) (fun Fr w hF hw _=>Sq (c:=c) (a:=a) (cap:=cap) Fr w (h.of hF hw) hl) Z Z ?_);exact zq.v)):p:=k ⟨g⟩
theorem H6(g:q)(k:Bq q→p:=by(intro zq;refine VG (VT (vs:=fE.cells ma mc) (cs':=fE.cells ma mc) 1 Z Z Z Z (NR _) Z Z Z ?_);exact zq.v)):p:=k ⟨g⟩
theorem xkj(g:q)(k:Bq q→p:=by(intro zq;refine VG (VT (vs:=fE.cells none 0) (cs':=fE.cells none 0) 1 Z Z Z Z (NR _) Z Z Z ?_);exact zq.v)):p:=k ⟨g⟩
theorem H7(g:q)(k:Bq q→p:=by(intro zq;refine VG (VT (vs:=(aV.mk (c.ar+1) c.ms c.drain).cells ma mc) (cs':=(aV.mk (c.ar+1) c.ms c.drain).cells ma mc) 1 Z Z Z Z (NR _) Z Z Z ?_);exact zq.v)):p:=k ⟨g⟩
theorem OP(g:q)(k:Bq q→p:=by(intro zq;refine VG (VV (fun Fr w hF hw _=>TH (c:=c) (a:=a) (cap:=cap) Fr w (h.of hF hw) hl n) Z ?_);exact zq.v)):p:=k ⟨g⟩
theorem H8(g:q)(k:Bq q→p:=by(intro zq;refine VG (VD Z Z (aw.jF (ds:=M.ch.cells a c) h T7) ?_);exact zq.v)):p:=k ⟨g⟩
theorem OQ(g:q)(k:Bq q→p:=by(intro zq;refine VG (VK (Lc:=[]) (fun Fr w hF hw _=>Lt Fr w (hm.of hF hw) yg) Z Z ?_);exact zq.v)):p:=k ⟨g⟩
theorem Bb(g:q)(k:Bq q→p:=by(intro zq;refine VC.bz 0 Z (bd.aG p M) ?_;exact zq.v)):p:=k ⟨g⟩
theorem Bc(g:q)(k:Bq q→p:=by(intro zq;refine VG (VL 0 (M.ch.cells a c) Z Z Z Z ?_);exact zq.v)):p:=k ⟨g⟩
theorem Bd(g:q)(k:Bq q→p:=by(intro zq;refine VG (VV (fun Fr w hF hw hS=>LA Fr w ok (hS.aA 0 Z)) Z ?_);exact zq.v)):p:=k ⟨g⟩
theorem OR(g:q)(k:Bq q→p:=by(intro zq;refine VG (VK (Lc:=[]) (fun Fr w hF hw hS=>F_ Fr w ok (hS.aA 0 Z) (aT.aq cu (hS.at_ 1 Z)) from_) Z Z ?_);exact zq.v)):p:=k ⟨g⟩
theorem OS(k:p:=by exact CR (an.tmp 8 Z Z (Gy (a:=a) (c:=c) (R:=[_])).aj (De (x:=(gP M.ch from_,y)) Z Z))):p:=k
theorem x_(k:p:=by exact CR (an.tmp 8 Z Z (rN (a:=a) (c:=c) (R:=[_])).aj (xB Z Z))):p:=k
theorem H9(g:q)(k:Bq q→p:=by(intro zq;refine AG (AI Z (iL j Z Z Z Z Z hj hj6) ?_);exact zq.v)):p:=k ⟨g⟩
theorem OT(k:p:=by exact CR (an.tmp 8 Z Z (rN (M:=M.ic from_ now) (a:=a) (c:=c) (R:=[_])).aj (xB Z Z))):p:=k
theorem OU(g:q)(k:Bq q→p:=by(intro zq;refine VG (VV (fun Fr w hF hw hS=>LC Fr w ok (hS.aA 0 Z) (aT.aq cu (hS.at_ 1 Z)) n) Z ?_);exact zq.v)):p:=k ⟨g⟩
theorem OV(g:q)(k:Bq q→p:=by(intro zq;refine VG (VV (fun Fr w hF hw hS=>Gd Fr w ok (hS.aA 0 Z) (aT.aq cu (hS.at_ 1 Z)) n) Z ?_);exact zq.v)):p:=k ⟨g⟩
theorem H_(g:q)(k:Bq q→p:=by(intro zq;refine VG (VV (fun Fr w hF hw _=>JQ Fr w ok (h.of hF hw)) Z ?_);exact zq.v)):p:=k ⟨g⟩
theorem OW(g:q)(k:Bq q→p:=by(intro zq;refine VG (VD (v:=.pointer (some ⟨y.b,0,none⟩)) Z Z (aw.aA h (hv _ ho)) ?_);exact zq.v)):p:=k ⟨g⟩
theorem vU(g:q)(k:Bq q→p:=by(intro zq;refine VC.bz 0 Z (bd.eS p S) ?_;exact zq.v)):p:=k ⟨g⟩
theorem Ea(g:q)(k:Bq q→p:=by(intro zq;refine CN (L':=[bQ p S]) (aa.eS y aa.refl).aj ?_;exact zq.v)):p:=k ⟨g⟩
theorem Ia(g:q)(k:Bq q→p:=by(intro zq;refine VG (VK (Lc:=[bQ p S]) (Lr:=[]) (fun Fr w hF hw _=>E9 Fr w ho reason) Z Z ?_);exact zq.v)):p:=k ⟨g⟩
theorem yA(k:p:=by exact CR (an.tmp 6 Z Z ER ⟨X,sa,sc,hX,Z,List.append_nil _⟩)):p:=k
theorem OX(g:q)(k:Bq q→p:=by(intro zq;refine VG (VO.st 0 (cs':=du { S with unsure:=true } y) Z Z Z Z PH Z Z ?_);exact zq.v)):p:=k ⟨g⟩
theorem Ib(g:q)(k:Bq q→p:=by(intro zq;refine VG (VV (fun Fr w hF hw hS=>JQ Fr w ok (hS.aA 0 Z)) Z ?_);exact zq.v)):p:=k ⟨g⟩
theorem Ic(g:q)(k:Bq q→p:=by(intro zq;refine VG (VV (fun Fr w hF hw _=>Rp Fr w now) Z ?_);exact zq.v)):p:=k ⟨g⟩
theorem xlh(k:p:=by exact CR (an.tmp 6 Z Z (wL (y:=y) (R:=[_])).aj (AA Z Z))):p:=k
theorem Eb(k:p:=by exact CR (an.tmp 4 Z Z ER ⟨X,sa,sc,hX,Z,List.append_nil _⟩)):p:=k
theorem Ec(k:p:=by exact CR (an.tmp 4 Z Z (wL (y:=y) (R:=[])).aj (AA Z Z))):p:=k
theorem OY(g:q)(k:Bq q→p:=by(intro zq;refine VG (VK (Lc:=[bQ p S]) (Lr:=[]) (fun Fr w hF hw _=>JA Fr w ok tn) Z Z ?_);exact zq.v)):p:=k ⟨g⟩
theorem OZ(g:q)(k:Bq q→p:=by(intro zq;refine CN (L':=[bQ p (S.begun o cl d)]) (aa.eS (S:=S.begun o cl d) { y with b:=sb } (bb [0,0,0,0])).aj ?_;exact zq.v)):p:=k ⟨g⟩
theorem Ie(k:p:=by exact CR (an.cV 4 5 Z Z Z aa.nil.aj yca)):p:=k
theorem Ed(k:p:=by exact CR (an.tmp 8 Z Z (fin a cap) ⟨by rw[hE],by rw[bx.wH hE yy]⟩)):p:=k
theorem O0(g:q)(k:Bq q→p:=by(intro zq;refine VG (VV (fun Fr w hF hw hS=>To Fr w ok (hS.aA 0 Z) (aT.aq s3 (hS.at_ 1 Z)) c) Z ?_);exact zq.v)):p:=k ⟨g⟩
theorem O1(k:p:=by exact CR (an.tmp 8 Z Z (fin _ _) ⟨by rw[hE2],by rw[bx.wH hE2 yy]⟩)):p:=k
theorem Ee(k:p:=by exact CR (an.tmp 8 Z Z fin ⟨by rw[g2],by rw[g1]⟩)):p:=k
theorem xlr(g:q)(k:Bq q→p:=by(intro zq;refine VG (VI (LB (pv:=[]) lj Z Z Z yp Z) ?_);exact zq.v)):p:=k ⟨g⟩
theorem xls(g:q)(k:Bq q→p:=by(intro zq;refine VG (VT (vs:=lj) (cs':=lj) 4 Z Z Z Z (NR _) Z Z Z ?_);exact zq.v)):p:=k ⟨g⟩
theorem yB(k:p:=by exact CR (an.dt 2 3 Z Z Z (aw.many (ds:=lj) 4 Z Z) Z aa.nil.aj ycb)):p:=k
theorem Ig(g:q)(k:Bq q→p:=by(intro zq;(repeat(first|refine zS ?_|refine zR ?_|refine zB ?_|refine zL ?_|refine zC ?_|refine zG (zN ?_)|refine zG (zD 0 rfl rfl rfl rfl ?_)|refine zG (zD 1 rfl rfl rfl rfl ?_)|refine zG (zD 2 rfl rfl rfl rfl ?_)|refine zG (zD 3 rfl rfl rfl rfl ?_)));exact zq.v)):p:=k ⟨g⟩
theorem O2(g:q)(k:Bq q→p:=by(intro zq;refine VG (VL 0 ((aV.mk k1 ms dr).cells (some ⟨mb,0,none⟩) k) Z Z Z Z ?_);exact zq.v)):p:=k ⟨g⟩
theorem O3(g:q)(k:Bq q→p:=by(intro zq;refine VG (VT (vs:=C5 f.res) (cs':=C5 f.res) 0 Z Z Z Z (NR _) Z Z Z ?_);exact zq.v)):p:=k ⟨g⟩
theorem O4(g:q)(k:Bq q→p:=by(intro zq;refine VG (VT (vs:=B4 f.entry) (cs':=B4 f.entry) 0 Z Z Z Z (NR _) Z Z Z ?_);exact zq.v)):p:=k ⟨g⟩
theorem Be(k:p:=by exact⟨(),trivial,aH,aa.nil.aj⟩):p:=k
theorem Ih(k:p:=by exact⟨(10,[],true,[]),k_.bad Z n10,aH,aa.nil.aj⟩):p:=k
theorem Bf(g:q)(k:Bq q→p:=by(intro zq;refine VG (VI (LB (pv:=[]) (aB.zero.cells ey) Z Z Z yp Z) ?_);exact zq.v)):p:=k ⟨g⟩
theorem Ii(g:q)(k:Bq q→p:=by(intro zq;refine VG (VT (vs:=aB.zero.cells ey) (cs':=aB.zero.cells ey) 0 Z Z Z Z (NR _) Z Z Z ?_);exact zq.v)):p:=k ⟨g⟩
theorem O5(g:q)(k:Bq q→p:=by(intro zq;refine VG (VT (vs:=aB.zero.cells ey) (cs':=aB.zero.cells ey) 1 Z Z Z Z (NR _) Z Z Z ?_);exact zq.v)):p:=k ⟨g⟩
theorem O6(k:p:=by exact CR (an.dt 2 3 Z Z Z (aw.many (ds:=aB.zero.cells ey) 1 Z Z) Z aa.nil.aj IE)):p:=k
theorem Ij(g:q)(k:Bq q→p:=by(intro zq;refine VG (VL 0 (f.cells (ma,ms.length,mc)) Z Z Z Z ?_);exact zq.v)):p:=k ⟨g⟩
theorem Ef(g:q)(k:Bq q→p:=by(intro zq;refine VG (VV (fun Fr w hF hw _=>K5 Fr w (h.of hF hw)) Z ?_);exact zq.v)):p:=k ⟨g⟩
theorem Eg(g:q)(k:Bq q→p:=by(intro zq;refine VG (VI (LB (pv:=[(0,.int .i64 x),(1,.int .i64 y)]) [.int .i64 x,.int .i64 y] Z Z Z yp Z) ?_);exact zq.v)):p:=k ⟨g⟩
theorem Ik(g:q)(k:Bq q→p:=by(intro zq;refine CN (L':=pt p (mN S b) vl::fG fN iQ b X::X.map jf) (aa.of_eq (List.append_nil _)).aj ?_;exact zq.v)):p:=k ⟨g⟩
theorem O7(g:q)(k:Bq q→p:=by(intro zq;refine VG (VT (vs:=[.int .i64 x,.int .i64 y]) (cs':=[.int .i64 x,.int .i64 y]) 0 Z Z Z Z (NR _) Z Z Z ?_);exact zq.v)):p:=k ⟨g⟩
theorem Bg(k:p:=by exact CR (an.tmp 4 Z Z fin ⟨by rw[hE],by rw[WV hE yy]⟩)):p:=k
theorem Bh(g:q)(k:Bq q→p:=by(intro zq;refine AG (VA.dE 1 [.int .i64 x,.int .i64 y] Z Z Z Z Z ?_);exact zq.v)):p:=k ⟨g⟩
theorem Il(g:q)(k:Bq q→p:=by(intro zq;refine VG (VI (LB (pv:=[]) (eO 0 0 ⟨#[]⟩) Z Z Z yp Z) ?_);exact zq.v)):p:=k ⟨g⟩
theorem yC(g:q)(k:Bq q→p:=by(intro zq;refine VG (VT (vs:=eO 0 0 ⟨#[]⟩) (cs':=eO 0 0 ⟨#[]⟩) 0 Z Z Z Z (NR _) Z Z Z ?_);exact zq.v)):p:=k ⟨g⟩
theorem Im(g:q)(k:Bq q→p:=by(intro zq;refine VG (VT (vs:=eO x y t) (cs':=eO x y t) 0 Z Z Z Z (NR _) Z Z Z ?_);exact zq.v)):p:=k ⟨g⟩
theorem O8(g:q)(k:Bq q→p:=by(intro zq;refine VG (VO.vv (aK.Wo (es:=es) (clock:=clock) fN iQ Tryz.underlying114 Z (fun w hw=>(hw.cP.block b hm.fr).trans g1)) ?_);exact zq.v)):p:=k ⟨g⟩
theorem O9(g:q)(k:Bq q→p:=by(intro zq;refine VG (VO.vv (aK.dX 0 Z Z (fun w hw=>(hw.cP.block b hm.fr).trans g1) hz hJ) ?_);exact zq.v)):p:=k ⟨g⟩
theorem O_(g:q)(k:Bq q→p:=by(intro zq;refine VG (VO.sV (aK.RN 0 (J:=J) (z:=z) Z Z (fun w hw=>(hw.cP.block b hm.fr).trans g1) hz z2) ?_);exact zq.v)):p:=k ⟨g⟩
theorem O'(g:q)(k:Bq q→p:=by(intro zq;refine VG (VT (vs:=[.int .i64 z.2.1.1,.int .i64 z.2.1.2]) (cs':=[.int .i64 z.2.1.1,.int .i64 z.2.1.2]) 0 Z Z Z Z (NR _) Z Z Z ?_);exact zq.v)):p:=k ⟨g⟩
theorem Eh(g:q)(k:Bq q→p:=by(intro zq;refine VG (VI (eE k Z Z Z Z Z Z hkl) ?_);exact zq.v)):p:=k ⟨g⟩
theorem Pa(k:p:=by exact⟨k+1,by omega,by dsimp only;omega,SC Z (SC Z (SC Z (SC Z (Sub.int Z yg (SN _))))),by dsimp only;rw[←h1];exact(IP 1 Z aa.nil).aj⟩):p:=k
theorem Pb(k:p:=by exact⟨[qK H a c X],⟨_,Z,X,a,c,e,Z,Z⟩,aa.sep (aa.cons (aa.sep (aa.of_eq (List.append_nil _).symm)))⟩):p:=k
theorem Pc(k:p:=by exact⟨g,eh.stay hg (q _) fun s hs=>by rw[List.mem_singleton.1 hs];exact od 3 Z yy⟩):p:=k
theorem Pe(k:p:=by exact CR (an.tmp 4 Z Z (aa.tail.trans (pB (R:=[]) fit)).aj ⟨by rw[hr],by rw[hr]⟩)):p:=k
theorem Ei(g:q)(k:Bq q→p:=by(intro zq;refine VC.bz 0 Z (bd.tQ p C) ?_;exact zq.v)):p:=k ⟨g⟩
theorem Io(g:q)(k:Bq q→p:=by(intro zq;refine CN (L':=fp p C y) (aa.of_eq (List.append_nil _)).aj ?_;exact zq.v)):p:=k ⟨g⟩
theorem Pf(g:q)(k:Bq q→p:=by(intro zq;refine VG (VV (fun Fr w hF hw hS=>abe Fr w fitd (hS.aA 2 Z) (hS.aA 5 Z) (hS.aA 6 Z) ht0 ht1) Z ?_);exact zq.v)):p:=k ⟨g⟩
theorem Ip(g:q)(k:Bq q→p:=by(intro zq;refine VG (VI (K0 true Tryz.underlying211 Z (.inr ⟨_,_,_,Z,Z⟩)) ?_);exact zq.v)):p:=k ⟨g⟩
theorem Iq(g:q)(k:Bq q→p:=by(intro zq;refine CD (ts 0 11 (.only 11 (.only 12 .nil))) yp yr ?_;exact zq.v)):p:=k ⟨g⟩
theorem Ir(g:q)(k:Bq q→p:=by(intro zq;refine AG (VA.dE 0 (f.cells (ma,ms.length,mc)) Z Z Z Z Z ?_);exact zq.v)):p:=k ⟨g⟩
theorem Pg(k:p:=by exact⟨k+1,by omega,by dsimp only;omega,SC Z (SC Z (SC Z (Sub.int Z yg (SN _)))),by dsimp only;rw[hsu,e1];exact(aa.tail (H:=pt ob _ _)).aj⟩):p:=k
theorem Ph(g:q)(k:Bq q→p:=by(intro zq;refine VG (VV (fun Fr w hF hw hS=>DK Fr w fit (hS.aA 1 Z) (hS.aA 4 Z) s.a) Z ?_);exact zq.v)):p:=k ⟨g⟩
theorem Pj(k:p:=by exact CR (an.tmp 4 Z Z (aa.trans (aa.tail (H:=pt sb _ jU)) (pB (p:=p) (C:=C) (R:=[]) fit)).aj ⟨by rw[hr],by rw[hr]⟩)):p:=k
theorem Is(g:q)(k:Bq q→p:=by(intro zq;refine AG (AI Z (eE k Z Z Z Z Z Z hkl) ?_);exact zq.v)):p:=k ⟨g⟩
theorem It(g:q)(k:Bq q→p:=by(intro zq;refine CN (L':=pt sb s.cells jU::cC y.mp C.aG::tS p C y C.aU) (aa.cons F9).aj ?_;exact zq.v)):p:=k ⟨g⟩
theorem Pk(g:q)(k:Bq q→p:=by(intro zq;refine VG (VQ 6 Z (fun Fr w hF hs hS=>pW Fr w (hS.aA 2 Z) ok.aU 16 (mE.at_ 1 hS Z hX fw)) Z (ψ:=fun v H=>v=.tuple #[]∧H=cH y.lp (b_ 16 C.aU (X.map Prod.fst))) yz ?_);exact zq.v)):p:=k ⟨g⟩
theorem Ej(g:q)(k:Bq q→p:=by(intro zq;refine AG (AI Z (iL 0 Z Z Z Z Z Z yy) ?_);exact zq.v)):p:=k ⟨g⟩
theorem yF(g:q)(k:Bq q→p:=by(intro zq;refine AG (AI Z (iL 1 Z Z Z Z Z Z yy) ?_);exact zq.v)):p:=k ⟨g⟩
theorem Ek(g:q)(k:Bq q→p:=by(intro zq;refine VG (VV (fun Fr w hF hs _=>Ny Fr w (hb.of hF hs)) Z ?_);exact zq.v)):p:=k ⟨g⟩
theorem Bi(g:q)(k:Bq q→p:=by(intro zq;refine CS (VC.block (CS (CG ?_)));exact zq.v)):p:=k ⟨g⟩
theorem Pm(g:q)(k:Bq q→p:=by(intro zq;refine VG (VV (fun Fr w hF hw hS=>aa7 Fr w (y:=y) (C:=C) ((hy.aA 0 Z).of hF hw)) Z ?_);exact zq.v)):p:=k ⟨g⟩
theorem Iu(g:q)(k:Bq q→p:=by(intro zq;refine VG (VI (eE 0 Z Z Z Z Z Z ycw) ?_);exact zq.v)):p:=k ⟨g⟩
theorem xnp(g:q)(k:Bq q→p:=by(intro zq;refine VG (VV (fun Fr w hF hw _=>Wl Fr w (nj.st Z hT hF hw) (oI.st hW hF hw)) Z ?_);exact zq.v)):p:=k ⟨g⟩
theorem xnq(k:p:=by exact CR (an.tmp 6 Z Z fin ⟨rfl,Z⟩)):p:=k
theorem Iv(k:p:=by exact⟨(),trivial,SC Z (SC Z (SC Z (SC (by rw[hnext];rfl) aH))),ER⟩):p:=k
theorem Pn(g:q)(k:Bq q→p:=by(intro zq;refine AG (AR (fun Fr w hF hs _=>Au.uy Fr w f (Nb hfn.1) (Nb hfn.2) (nj.st Z hT hF hs) (oI.st hW hF hs)) Z Z ycz ?_);exact zq.v)):p:=k ⟨g⟩
theorem Po(k:p:=by exact⟨(),trivial,SC Z (SC Z (SC Z (SC (by rw[hnext,←htx];rfl) aH))),ER⟩):p:=k
theorem Iw(k:p:=by exact⟨i+1,hil,by dsimp only;omega,SC Z (SC Z (SC Z (SC Z (Sub.int Z yg (SN _))))),(aa.tail (H:=pt fb (bB f) tY)).aj⟩):p:=k
theorem vV(k:p:=by exact one _ e (Option.some.inj h).symm):p:=k
theorem yJ(g:q)(k:Bq q→p:=by(intro zq;refine av ?_;refine lR ?_;exact zq.v)):p:=k ⟨g⟩
theorem Bm(g:q)(k:Bq q→p:=by(intro zq;refine ae ?_;refine tp ?_;exact zq.v)):p:=k ⟨g⟩
theorem jR(g:q)(k:Bq q→p:=by(intro zq;refine al ?_;refine fV ?_;exact zq.v)):p:=k ⟨g⟩
theorem uG(g:q)(k:Bq q→p:=by(intro zq;refine al ?_;refine tp ?_;exact zq.v)):p:=k ⟨g⟩
theorem gC(g:q)(k:Bq q→p:=by(intro zq;refine Bm ?_;refine ae ?_;exact zq.v)):p:=k ⟨g⟩
theorem lS(g:q)(k:Bq q→p:=by(intro zq;refine av ?_;refine fV ?_;exact zq.v)):p:=k ⟨g⟩
theorem Ez(g:q)(k:Bq q→p:=by(intro zq;refine lR ?_;refine al ?_;exact zq.v)):p:=k ⟨g⟩
theorem jC(g:q)(k:Bq q→p:=by(intro zq;refine uG ?_;refine al ?_;exact zq.v)):p:=k ⟨g⟩
theorem kq(g:q)(k:Bq q→p:=by(intro zq;refine yJ ?_;refine av ?_;exact zq.v)):p:=k ⟨g⟩
theorem r9(g:q)(k:Bq q→p:=by(intro zq;refine ae ?_;refine vM ?_;exact zq.v)):p:=k ⟨g⟩
theorem tz(g:q)(k:Bq q→p:=by(intro zq;refine ae ?_;refine fV ?_;exact zq.v)):p:=k ⟨g⟩
theorem r_(g:q)(k:Bq q→p:=by(intro zq;refine ae ?_;refine lR ?_;exact zq.v)):p:=k ⟨g⟩
theorem oy(g:q)(k:Bq q→p:=by(intro zq;refine yJ ?_;refine ae ?_;exact zq.v)):p:=k ⟨g⟩
theorem pf(g:q)(k:Bq q→p:=by(intro zq;refine cX ?_;refine ae ?_;exact zq.v)):p:=k ⟨g⟩
theorem p9(g:q)(k:Bq q→p:=by(intro zq;refine bG ?_;refine fV ?_;exact zq.v)):p:=k ⟨g⟩
theorem p_(g:q)(k:Bq q→p:=by(intro zq;refine ae ?_;refine xW ?_;exact zq.v)):p:=k ⟨g⟩
theorem sd(g:q)(k:Bq q→p:=by(intro zq;refine bG ?_;refine Ez ?_;exact zq.v)):p:=k ⟨g⟩
theorem sf(g:q)(k:Bq q→p:=by(intro zq;refine jR ?_;refine al ?_;exact zq.v)):p:=k ⟨g⟩
theorem sg(g:q)(k:Bq q→p:=by(intro zq;refine al ?_;refine Ez ?_;exact zq.v)):p:=k ⟨g⟩
theorem zop(g:q)(k:Bq q→p:=by(intro zq;refine Of ?_;refine Og ?_;exact zq.v)):p:=k ⟨g⟩
theorem EA(g:q)(k:Bq q→p:=by(intro zq;refine p6 ?_;refine cW ?_;exact zq.v)):p:=k ⟨g⟩
theorem zor(g:q)(k:Bq q→p:=by(intro zq;refine bp ?_;refine xid ?_;exact zq.v)):p:=k ⟨g⟩
theorem PY(g:q)(k:Bq q→p:=by(intro zq;refine zor ?_;refine bp ?_;exact zq.v)):p:=k ⟨g⟩
theorem zot(g:q)(k:Bq q→p:=by(intro zq;refine av ?_;refine tp ?_;exact zq.v)):p:=k ⟨g⟩
theorem sh(g:q)(k:Bq q→p:=by(intro zq;refine zot ?_;refine av ?_;exact zq.v)):p:=k ⟨g⟩
theorem si(g:q)(k:Bq q→p:=by(intro zq;refine tz ?_;refine ae ?_;exact zq.v)):p:=k ⟨g⟩
theorem yK(g:q)(k:Bq q→p:=by(intro zq;refine r9 ?_;refine r9 ?_;exact zq.v)):p:=k ⟨g⟩
theorem tA(g:q)(k:Bq q→p:=by(intro zq;refine gm ?_;refine mV ?_;exact zq.v)):p:=k ⟨g⟩
theorem PZ(g:q)(k:Bq q→p:=by(intro zq;refine xgo ?_;refine Od ?_;exact zq.v)):p:=k ⟨g⟩
theorem P0(g:q)(k:Bq q→p:=by(intro zq;refine p6 ?_;refine bp ?_;exact zq.v)):p:=k ⟨g⟩
theorem zpa(g:q)(k:Bq q→p:=by(intro zq;refine Ot ?_;refine Ou ?_;exact zq.v)):p:=k ⟨g⟩
theorem tC(g:q)(k:Bq q→p:=by(intro zq;refine zpa ?_;refine PY ?_;exact zq.v)):p:=k ⟨g⟩
theorem tD(g:q)(k:Bq q→p:=by(intro zq;refine av ?_;refine ON ?_;exact zq.v)):p:=k ⟨g⟩
theorem sj(k:p:=by(refine zop ?_;exact Oh)):p:=k
theorem sk(k:p:=by(refine ae ?_;exact xlh)):p:=k
theorem uH(g:q)(k:Bq q→p:=by(intro zq;refine al ?_;refine N6 ?_;exact zq.v)):p:=k ⟨g⟩
theorem uI(g:q)(k:Bq q→p:=by(intro zq;refine al ?_;refine HI ?_;exact zq.v)):p:=k ⟨g⟩
theorem uJ(g:q)(k:Bq q→p:=by(intro zq;refine bp ?_;refine al ?_;exact zq.v)):p:=k ⟨g⟩
theorem P1(g:q)(k:Bq q→p:=by(intro zq;refine xgn ?_;refine PZ ?_;exact zq.v)):p:=k ⟨g⟩
theorem zpj(g:q)(k:Bq q→p:=by(intro zq;refine p6 ?_;refine xhk ?_;exact zq.v)):p:=k ⟨g⟩
theorem P2(g:q)(k:Bq q→p:=by(intro zq;refine zpj ?_;refine P0 ?_;exact zq.v)):p:=k ⟨g⟩
theorem zpl(g:q)(k:Bq q→p:=by(intro zq;refine xnp ?_;refine ae ?_;exact zq.v)):p:=k ⟨g⟩
theorem P3(g:q)(k:Bq q→p:=by(intro zq;refine xgm ?_;refine P1 ?_;exact zq.v)):p:=k ⟨g⟩
theorem P4(g:q)(k:Bq q→p:=by(intro zq;refine xhj ?_;refine P2 ?_;exact zq.v)):p:=k ⟨g⟩
theorem vW(g:q)(k:Bq q→p:=by(intro zq;refine cW ?_;refine EA ?_;exact zq.v)):p:=k ⟨g⟩
theorem EB(k:p:=by(refine bp ?_;exact⟨rb,trivial,aH,ER⟩)):p:=k
theorem vX(g:q)(k:Bq q→p:=by(intro zq;refine al ?_;refine xjb ?_;exact zq.v)):p:=k ⟨g⟩
theorem vY(g:q)(k:Bq q→p:=by(intro zq;refine r_ ?_;refine ae ?_;exact zq.v)):p:=k ⟨g⟩
theorem vZ(g:q)(k:Bq q→p:=by(intro zq;refine xkj ?_;refine av ?_;exact zq.v)):p:=k ⟨g⟩
theorem EC(g:q)(k:Bq q→p:=by(intro zq;refine cn ?_;refine AG (AY 198 false Z Z ?_);exact zq.v)):p:=k ⟨g⟩
theorem ED(g:q)(k:Bq q→p:=by(intro zq;refine AG (AY 29 false Z Z ?_);refine Oj ?_;exact zq.v)):p:=k ⟨g⟩
theorem EE(g:q)(k:Bq q→p:=by(intro zq;refine ae ?_;refine VG (VO.ld 0 Z Z Z Z ?_);exact zq.v)):p:=k ⟨g⟩
theorem uK(k:p:=by(refine zpl ?_;exact xnq)):p:=k
theorem EF(g:q)(k:Bq q→p:=by(intro zq;refine av ?_;refine VG (VY 5 true Z Z ?_);exact zq.v)):p:=k ⟨g⟩
theorem II(g:q)(k:Bq q→p:=by(intro zq;refine av ?_;refine VG (VL 2 (c.cells a cap) Z Z Z Z ?_);exact zq.v)):p:=k ⟨g⟩
theorem IJ(g:q)(k:Bq q→p:=by(intro zq;refine ae ?_;refine VG (VL 0 (c.cells qa qc) Z Z Z Z ?_);exact zq.v)):p:=k ⟨g⟩
theorem yL(g:q)(k:Bq q→p:=by(intro zq;refine al ?_;refine N4 ?_;exact zq.v)):p:=k ⟨g⟩
theorem yM(g:q)(k:Bq q→p:=by(intro zq;refine HM ?_;refine P3 ?_;exact zq.v)):p:=k ⟨g⟩
theorem yO(g:q)(k:Bq q→p:=by(intro zq;refine xhi ?_;refine P4 ?_;exact zq.v)):p:=k ⟨g⟩
theorem yP(g:q)(k:Bq q→p:=by(intro zq;refine lS ?_;refine av ?_;exact zq.v)):p:=k ⟨g⟩
theorem zqe(g:q)(k:Bq q→p:=by(intro zq;refine xlr ?_;refine xls ?_;exact zq.v)):p:=k ⟨g⟩
theorem yQ(g:q)(k:Bq q→p:=by(intro zq;refine zqe ?_;refine ae ?_;exact zq.v)):p:=k ⟨g⟩
theorem IK(k:p:=by(refine al ?_;exact CR (an.tmp 2 Z Z ER ⟨q,Z,Z⟩))):p:=k
theorem EG(g:q)(k:Bq q→p:=by(intro zq;refine VC.mh Z (CX ?_);refine ae ?_;exact zq.v)):p:=k ⟨g⟩
theorem yR(g:q)(k:Bq q→p:=by(intro zq;refine CK ?_;refine al ?_;exact zq.v)):p:=k ⟨g⟩
theorem IL(g:q)(k:Bq q→p:=by(intro zq;refine VG (VI (zY Z Z) ?_);refine av ?_;exact zq.v)):p:=k ⟨g⟩
theorem IM(g:q)(k:Bq q→p:=by(intro zq;refine al ?_;refine VG (VL 0 (dq row) Z Z Z Z ?_);exact zq.v)):p:=k ⟨g⟩
theorem IN(g:q)(k:Bq q→p:=by(intro zq;refine cW ?_;refine AG (AY 203 true Z (DT hw) ?_);exact zq.v)):p:=k ⟨g⟩
theorem IQ(g:q)(k:Bq q→p:=by(intro zq;refine cW ?_;refine AG (VA.ld 2 Z Z Z Z hidc ?_);exact zq.v)):p:=k ⟨g⟩
end Go.Proofs.YtkgfhabealjjpaaGreatDoor
