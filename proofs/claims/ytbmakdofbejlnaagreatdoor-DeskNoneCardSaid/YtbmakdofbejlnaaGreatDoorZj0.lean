/- Abbreviations of tactics. No condition. -/
import Derived.OrdersHeld
import Derived.OrdersIn
import Derived.TacticsIn
import Derived.Sort.LoopGhostIn
import Derived.Deep.MidRow
import Derived.Laws.AppendOwn
import Derived.Below
import Derived.WalkKit
import Derived.Scope
import Derived.Laws.LoneSync
import Derived.Lib.Builder
import Derived.Lib.ItoaMem
import Derived.Lib.LaidTab
import Derived.Lib.Join
import Derived.MapKept
import Derived.Laws.StructEq
import Derived.Laws.BitsAllLaws
import Derived.Lib.OthersKept
import Derived.Test.YtbmakdofbejlnaaGreatDoorRows
import Derived.KernelRfl
import Derived.Shelf.Strings.Builder1
import Derived.Shelf.Strings.Builder2
import Derived.Shelf.Strings.OnBuilder
import Derived.Shelf.Strings.BuilderF
import Derived.Shelf.Strings.BuilderK
import Derived.Shelf.Utf8.RuneCount
import Derived.Shelf.Strconv.Atoi
import Derived.Shelf.Strconv.Itoa0
import Derived.Shelf.Strconv.Itoa1
import Derived.Shelf.LaysM
import Derived.Shelf.Strconv.Itoa2
import Derived.Shelf.Strconv.Itoa3
import Derived.Shelf.Strconv.AtoiErrFast
import Derived.Shelf.Strconv.ParseIntEmpty
import Derived.Shelf.Strconv.AtoiFail
import Derived.Shelf.Strconv.Clone
import Derived.Shelf.Strconv.SyntaxError
import Derived.Shelf.LaysC
import Derived.Shelf.Strconv.ToError
import Derived.Shelf.Strconv.Lower
import Derived.Shelf.Strconv.ParseUint10
import Derived.Shelf.Strconv.ParseUint10Empty
import Derived.Shelf.Strconv.ParseUint10Any
import Derived.Shelf.Strconv.ParseInt10
import Derived.Shelf.Strconv.AtoiLong
import Derived.Shelf.Strconv.AtoiInnerAll
import Derived.Shelf.Strconv.RangeError
import Derived.Shelf.Strconv.ToErrorRange
import Derived.Shelf.Strconv.AtoiAll
import Derived.Shelf.Strconv.ErrVarAll
import Derived.Shelf.Strings.Search1
import Derived.Shelf.Strings.Search2
import Derived.Shelf.Strings.Search3
import Derived.Shelf.Strings.Count
import Derived.Shelf.Strings.Shaped
import Derived.Shelf.Strings.Split
import Derived.Shelf.Strings.SplitShaped
import Derived.Shelf.Unicode.Decode
import Derived.Shelf.Strings.RuneCount
import Derived.Shelf.Strings.Explode
import Derived.Shelf.Unicode.DecodeSlow
import Derived.Shelf.Unicode.DecodeAny
import Derived.Test.YtbmakdofbejlnaaGreatDoorProg
import Derived.Shelf.SlGeneric
import Derived.Shelf.SlMaps.Clone
import Derived.Lib.UnsafeStr
import Derived.Tactics
import Derived.Tactics2
import Derived.Defers
import Derived.Laws.Pointers
import Derived.RegionTactic
import Derived.RegionCalls
import Derived.Maps.RangeRun
import Derived.RangeFuncRecord
import Derived.ProofKit
import Derived.OpenShut
import Derived.SizedLaws
import Derived.Carry
import Derived.Deep.Strs
import Derived.Deep.Slices
import Derived.LaidMore
import Derived.MakeChecks
import Derived.Stop.Joined
import Derived.Test.YtbmakdofbejlnaaGreatDoorCards
import Derived.Test.YtbmakdofbejlnaaGreatDoorTie
import Derived.Lay
import Derived.SevenTiedAt
namespace Go.Proofs.YtbmakdofbejlnaaGreatDoor
theorem a_:type_of% @List.length_append:=@List.length_append
theorem bA:type_of% @List.append_nil:=@List.append_nil
theorem bK:type_of% @Nat.zero_le:=@Nat.zero_le
theorem bZ:type_of% @Nat.zero_add:=@Nat.zero_add
theorem cH:type_of% @List.getElem?_eq_some_iff:=@List.getElem?_eq_some_iff
theorem dG:type_of% @Bool.and_eq_true:=@Bool.and_eq_true
theorem dH:type_of% @List.getElem?_map:=@List.getElem?_map
theorem dW:type_of% @List.length_map:=@List.length_map
theorem eC:type_of% @List.mem_map:=@List.mem_map
theorem eV:type_of% @List.append_assoc:=@List.append_assoc
theorem fj:type_of% @Int.le_refl:=@Int.le_refl
theorem fy:type_of% @Int.toNat_natCast:=@Int.toNat_natCast
theorem fA:type_of% @List.map_append:=@List.map_append
theorem fB:type_of% @Nat.le_of_ble_eq_true:=@Nat.le_of_ble_eq_true
theorem fK:type_of% @Bool.false_and:=@Bool.false_and
theorem fL:type_of% @List.mem_append:=@List.mem_append
theorem fS:type_of% @List.take_add_one:=@List.take_add_one
theorem gj:type_of% @Bool.and_false:=@Bool.and_false
theorem gk:type_of% @List.length_set:=@List.length_set
theorem gy:type_of% @List.nodup_append:=@List.nodup_append
theorem gI:type_of% @List.eq_nil_of_length_eq_zero:=@List.eq_nil_of_length_eq_zero
theorem gJ:type_of% @List.map_set:=@List.map_set
theorem gK:type_of% @List.mem_cons:=@List.mem_cons
theorem gL:type_of% @List.mem_filter:=@List.mem_filter
theorem hO:type_of% @List.getElem?_set_self:=@List.getElem?_set_self
theorem hU:type_of% @List.perm_append_comm:=@List.perm_append_comm
theorem iT:type_of% @List.length_take:=@List.length_take
theorem js:type_of% @Option.bind_some:=@Option.bind_some
theorem jR:type_of% @List.take_length:=@List.take_length
theorem jS:type_of% @Option.some.inj:=@Option.some.inj
theorem ky:type_of% @List.getElem?_set_ne:=@List.getElem?_set_ne
theorem kT:type_of% @Array.toList_inj:=@Array.toList_inj
theorem kU:type_of% @List.all_eq_true:=@List.all_eq_true
theorem kV:type_of% @List.map_cons:=@List.map_cons
theorem kW:type_of% @List.nil_append:=@List.nil_append
theorem lG:type_of% @List.map_map:=@List.map_map
theorem lH:type_of% @List.mem_cons_of_mem:=@List.mem_cons_of_mem
theorem lI:type_of% @List.mem_or_eq_of_mem_set:=@List.mem_or_eq_of_mem_set
theorem mh:type_of% @List.length_cons:=@List.length_cons
theorem mi:type_of% @List.mem_singleton:=@List.mem_singleton
theorem mj:type_of% @Option.map_some:=@Option.map_some
theorem mQ:type_of% @List.getElem?_eq_none:=@List.getElem?_eq_none
theorem mR:type_of% @Nat.eq_of_beq_eq_true:=@Nat.eq_of_beq_eq_true
theorem nO:type_of% @Bool.false_ne_true:=@Bool.false_ne_true
theorem nP:type_of% @List.length_filter_le:=@List.length_filter_le
theorem nQ:type_of% @Nat.zero_lt_one:=@Nat.zero_lt_one
theorem oL:type_of% @List.ext_getElem?:=@List.ext_getElem?
theorem oM:type_of% @List.not_mem_nil:=@List.not_mem_nil
theorem oN:type_of% @Nat.add_mul:=@Nat.add_mul
theorem oO:type_of% @Nat.mul_one:=@Nat.mul_one
theorem pY:type_of% @Array.getElem?_eq_some_iff:=@Array.getElem?_eq_some_iff
theorem pZ:type_of% @List.getElem?_cons_succ:=@List.getElem?_cons_succ
theorem p3:type_of% @List.getElem?_take:=@List.getElem?_take
theorem p4:type_of% @List.take_of_length_le:=@List.take_of_length_le
theorem p5:type_of% @List.take_zero:=@List.take_zero
theorem p6:type_of% @Nat.le_trans:=@Nat.le_trans
theorem qY:type_of% @Bool.true_and:=@Bool.true_and
theorem qZ:type_of% @List.getElem?_drop:=@List.getElem?_drop
theorem q3:type_of% @List.length_drop:=@List.length_drop
theorem q4:type_of% @List.mem_cons_self:=@List.mem_cons_self
theorem sj:type_of% @Int.eq_ofNat_of_zero_le:=@Int.eq_ofNat_of_zero_le
theorem sk:type_of% @List.filter_append:=@List.filter_append
theorem sn:type_of% @List.getElem?_cons_zero:=@List.getElem?_cons_zero
theorem so:type_of% @Nat.mul_le_mul_right:=@Nat.mul_le_mul_right
theorem tH:type_of% @Classical.not_not:=@Classical.not_not
theorem tI:type_of% @List.cons_append:=@List.cons_append
theorem tJ:type_of% @List.getElem?_append_left:=@List.getElem?_append_left
theorem tK:type_of% @List.range_succ:=@List.range_succ
theorem tL:type_of% @List.set_set:=@List.set_set
theorem tM:type_of% @Nat.mod_lt:=@Nat.mod_lt
theorem vm:type_of% @Array.getD_eq_getD_getElem?:=@Array.getD_eq_getD_getElem?
theorem vn:type_of% @List.all_eq_false:=@List.all_eq_false
theorem vo:type_of% @List.foldl_append:=@List.foldl_append
theorem vp:type_of% @List.getElem?_append_right:=@List.getElem?_append_right
theorem vq:type_of% @List.getElem?_of_mem:=@List.getElem?_of_mem
theorem vt:type_of% @List.set_cons_succ:=@List.set_cons_succ
theorem vu:type_of% @Nat.add_zero:=@Nat.add_zero
theorem vv:type_of% @Nat.lt_of_lt_of_le:=@Nat.lt_of_lt_of_le
theorem xC:type_of% @Array.ext_getElem?:=@Array.ext_getElem?
theorem xD:type_of% @Array.getElem?_modify:=@Array.getElem?_modify
theorem xE:type_of% @Array.getElem?_setIfInBounds_ne:=@Array.getElem?_setIfInBounds_ne
theorem xF:type_of% @List.all_append:=@List.all_append
theorem xG:type_of% @List.drop_eq_getElem_cons:=@List.drop_eq_getElem_cons
theorem xH:type_of% @List.foldl_cons:=@List.foldl_cons
theorem xI:type_of% @List.getElem?_set:=@List.getElem?_set
theorem xJ:type_of% @List.length_take_le:=@List.length_take_le
theorem xK:type_of% @List.length_zipIdx:=@List.length_zipIdx
theorem xL:type_of% @List.take_left':=@List.take_left'
theorem xM:type_of% @Nat.lt_succ_self:=@Nat.lt_succ_self
theorem xN:type_of% @Nat.min_eq_left:=@Nat.min_eq_left
theorem xO:type_of% @Nat.pow_le_pow_right:=@Nat.pow_le_pow_right
theorem BI:type_of% @Array.getElem?_toList:=@Array.getElem?_toList
theorem BJ:type_of% @List.getElem?_append:=@List.getElem?_append
theorem Z{α:Sort _}{a:α}:a=a:=rfl
structure Bq(q:Prop):Prop where
 v:q
variable {p q:Prop}
theorem DF:type_of% @decide_eq_false:=@decide_eq_false
theorem DT:type_of% @decide_eq_true:=@decide_eq_true
theorem GE:type_of% @List.getElem?_eq_getElem:=@List.getElem?_eq_getElem
theorem NR:type_of% @Nat.le_refl:=@Nat.le_refl
theorem ME:type_of% @List.mem_of_getElem?:=@List.mem_of_getElem?
theorem yw(k:p:=by(try refine Pd.st ?_);(repeat(first|exact Pd.nil|exact Pd.fnil|refine Pd.inner ?_|refine Pd.skip (by decide +kernel) ?_|refine zf (zo 0 Z Z) ?_|refine zf (zo 1 Z Z) ?_|refine zf (zo 2 Z Z) ?_|refine zf (zo 3 Z Z) ?_|refine zf (zo 4 Z Z) ?_|refine zf (zo 5 Z Z) ?_|refine zf (zo 6 Z Z) ?_|refine zf (zo 7 Z Z) ?_|refine zf (zo 8 Z Z) ?_|refine zf (zm 0 Z Z) ?_|refine zf (zm 1 Z Z) ?_|refine zf (zm 2 Z Z) ?_|refine zf (zm 3 Z Z) ?_|refine zf (zm 4 Z Z) ?_|refine zf (zm 5 Z Z) ?_|refine zf (zm 6 Z Z) ?_|refine zf (zm 7 Z Z) ?_|refine zf (zm 8 Z Z) ?_|refine zc (zo 0 Z Z) ?_|refine zc (zo 1 Z Z) ?_|refine zc (zo 2 Z Z) ?_|refine zc (zo 3 Z Z) ?_|refine zc (zo 4 Z Z) ?_|refine zc (zo 5 Z Z) ?_|refine zc (zo 6 Z Z) ?_|refine zc (zo 7 Z Z) ?_|refine zc (zo 8 Z Z) ?_|refine zc (zm 0 Z Z) ?_|refine zc (zm 1 Z Z) ?_|refine zc (zm 2 Z Z) ?_|refine zc (zm 3 Z Z) ?_|refine zc (zm 4 Z Z) ?_|refine zc (zm 5 Z Z) ?_|refine zc (zm 6 Z Z) ?_|refine zc (zm 7 Z Z) ?_|refine zc (zm 8 Z Z) ?_|refine Pd.jB (cO.one 0 Z) ?_|refine Pd.jB (cO.one 1 Z) ?_|refine Pd.jB (cO.one 2 Z) ?_|refine Pd.jB (cO.one 3 Z) ?_|refine Pd.jB (cO.one 4 Z) ?_|refine Pd.jB (cO.one 5 Z) ?_|refine Pd.jB (cO.one 6 Z) ?_|refine Pd.jB (cO.one 7 Z) ?_|refine Pd.jB (cO.one 8 Z) ?_|refine Pd.consM (cO.one 0 Z) ?_|refine Pd.consM (cO.one 1 Z) ?_|refine Pd.consM (cO.one 2 Z) ?_|refine Pd.consM (cO.one 3 Z) ?_|refine Pd.consM (cO.one 4 Z) ?_|refine Pd.consM (cO.one 5 Z) ?_|refine Pd.consM (cO.one 6 Z) ?_|refine Pd.consM (cO.one 7 Z) ?_|refine Pd.consM (cO.one 8 Z) ?_))):p:=k
theorem gx(k:p:=by(try refine Pd.st ?_);(repeat(first|exact Pd.nil|exact Pd.fnil|refine Pd.inner ?_|refine Pd.skip (by decide +kernel) ?_|refine zf (zo 0 rfl rfl) ?_|refine zf (zo 1 rfl rfl) ?_|refine zf (zo 2 rfl rfl) ?_|refine zf (zo 3 rfl rfl) ?_|refine zf (zo 4 rfl rfl) ?_|refine zf (zo 5 rfl rfl) ?_|refine zf (zo 6 rfl rfl) ?_|refine zf (zo 7 rfl rfl) ?_|refine zf (zo 8 rfl rfl) ?_|refine zf (zm 0 rfl rfl) ?_|refine zf (zm 1 rfl rfl) ?_|refine zf (zm 2 rfl rfl) ?_|refine zf (zm 3 rfl rfl) ?_|refine zf (zm 4 rfl rfl) ?_|refine zf (zm 5 rfl rfl) ?_|refine zf (zm 6 rfl rfl) ?_|refine zf (zm 7 rfl rfl) ?_|refine zf (zm 8 rfl rfl) ?_|refine zc (zo 0 rfl rfl) ?_|refine zc (zo 1 rfl rfl) ?_|refine zc (zo 2 rfl rfl) ?_|refine zc (zo 3 rfl rfl) ?_|refine zc (zo 4 rfl rfl) ?_|refine zc (zo 5 rfl rfl) ?_|refine zc (zo 6 rfl rfl) ?_|refine zc (zo 7 rfl rfl) ?_|refine zc (zo 8 rfl rfl) ?_|refine zc (zm 0 rfl rfl) ?_|refine zc (zm 1 rfl rfl) ?_|refine zc (zm 2 rfl rfl) ?_|refine zc (zm 3 rfl rfl) ?_|refine zc (zm 4 rfl rfl) ?_|refine zc (zm 5 rfl rfl) ?_|refine zc (zm 6 rfl rfl) ?_|refine zc (zm 7 rfl rfl) ?_|refine zc (zm 8 rfl rfl) ?_))):p:=k
theorem yv(k:p:=by(try refine Pd.st ?_);(repeat(first|exact Pd.nil|exact Pd.fnil|refine Pd.inner ?_|refine Pd.skip (by decide +kernel) ?_|refine zf (zo 0 Z Z) ?_|refine zf (zo 1 Z Z) ?_|refine zf (zo 2 Z Z) ?_|refine zf (zo 3 Z Z) ?_|refine zf (zo 4 Z Z) ?_|refine zf (zo 5 Z Z) ?_|refine zf (zo 6 Z Z) ?_|refine zf (zo 7 Z Z) ?_|refine zf (zo 8 Z Z) ?_|refine zf (zm 0 Z Z) ?_|refine zf (zm 1 Z Z) ?_|refine zf (zm 2 Z Z) ?_|refine zf (zm 3 Z Z) ?_|refine zf (zm 4 Z Z) ?_|refine zf (zm 5 Z Z) ?_|refine zf (zm 6 Z Z) ?_|refine zf (zm 7 Z Z) ?_|refine zf (zm 8 Z Z) ?_|refine zc (zo 0 Z Z) ?_|refine zc (zo 1 Z Z) ?_|refine zc (zo 2 Z Z) ?_|refine zc (zo 3 Z Z) ?_|refine zc (zo 4 Z Z) ?_|refine zc (zo 5 Z Z) ?_|refine zc (zo 6 Z Z) ?_|refine zc (zo 7 Z Z) ?_|refine zc (zo 8 Z Z) ?_|refine zc (zm 0 Z Z) ?_|refine zc (zm 1 Z Z) ?_|refine zc (zm 2 Z Z) ?_|refine zc (zm 3 Z Z) ?_|refine zc (zm 4 Z Z) ?_|refine zc (zm 5 Z Z) ?_|refine zc (zm 6 Z Z) ?_|refine zc (zm 7 Z Z) ?_|refine zc (zm 8 Z Z) ?_))):p:=k
theorem Mp(k:p:=by(try refine Pd.st ?_);(repeat(first|exact Pd.nil|exact Pd.fnil|refine Pd.inner ?_|refine Pd.skip (by decide +kernel) ?_|refine zf (zo 0 Z Z) ?_|refine zf (zo 1 Z Z) ?_|refine zf (zo 2 Z Z) ?_|refine zf (zo 3 Z Z) ?_|refine zf (zo 4 Z Z) ?_|refine zf (zm 0 Z Z) ?_|refine zf (zm 1 Z Z) ?_|refine zf (zm 2 Z Z) ?_|refine zf (zm 3 Z Z) ?_|refine zf (zm 4 Z Z) ?_|refine zf (an.ar (an.many 0 Z Z) Z) ?_|refine zf ((an.many 0 Z Z)) ?_|refine zc (zo 0 Z Z) ?_|refine zc (zo 1 Z Z) ?_|refine zc (zo 2 Z Z) ?_|refine zc (zo 3 Z Z) ?_|refine zc (zo 4 Z Z) ?_|refine zc (zm 0 Z Z) ?_|refine zc (zm 1 Z Z) ?_|refine zc (zm 2 Z Z) ?_|refine zc (zm 3 Z Z) ?_|refine zc (zm 4 Z Z) ?_|refine zc (an.ar (an.many 0 Z Z) Z) ?_|refine zc ((an.many 0 Z Z)) ?_))):p:=k
theorem FH(k:p:=by(try refine Pd.st ?_);(repeat(first|exact Pd.nil|exact Pd.fnil|refine Pd.inner ?_|refine Pd.skip (by decide +kernel) ?_|refine zf (zo 0 Z Z) ?_|refine zf (zo 1 Z Z) ?_|refine zf (zo 2 Z Z) ?_|refine zf (zo 3 Z Z) ?_|refine zf (zo 4 Z Z) ?_|refine zf (zm 0 Z Z) ?_|refine zf (zm 1 Z Z) ?_|refine zf (zm 2 Z Z) ?_|refine zf (zm 3 Z Z) ?_|refine zf (zm 4 Z Z) ?_|refine zf (an.ar PQ Z) ?_|refine zf (PQ) ?_|refine zc (zo 0 Z Z) ?_|refine zc (zo 1 Z Z) ?_|refine zc (zo 2 Z Z) ?_|refine zc (zo 3 Z Z) ?_|refine zc (zo 4 Z Z) ?_|refine zc (zm 0 Z Z) ?_|refine zc (zm 1 Z Z) ?_|refine zc (zm 2 Z Z) ?_|refine zc (zm 3 Z Z) ?_|refine zc (zm 4 Z Z) ?_|refine zc (an.ar PQ Z) ?_|refine zc (PQ) ?_))):p:=k
theorem u_(k:p:=by(try refine Pd.st ?_);(repeat(first|exact Pd.nil|exact Pd.fnil|refine Pd.inner ?_|refine Pd.skip (by decide +kernel) ?_|refine zf (zo 0 Z Z) ?_|refine zf (zo 1 Z Z) ?_|refine zf (zo 2 Z Z) ?_|refine zf (zo 3 Z Z) ?_|refine zf (zm 0 Z Z) ?_|refine zf (zm 1 Z Z) ?_|refine zf (zm 2 Z Z) ?_|refine zf (zm 3 Z Z) ?_|refine zf (an.ar (an.many 0 Z Z) Z) ?_|refine zf ((an.many 0 Z Z)) ?_|refine zc (zo 0 Z Z) ?_|refine zc (zo 1 Z Z) ?_|refine zc (zo 2 Z Z) ?_|refine zc (zo 3 Z Z) ?_|refine zc (zm 0 Z Z) ?_|refine zc (zm 1 Z Z) ?_|refine zc (zm 2 Z Z) ?_|refine zc (zm 3 Z Z) ?_|refine zc (an.ar (an.many 0 Z Z) Z) ?_|refine zc ((an.many 0 Z Z)) ?_))):p:=k
theorem Mr(k:p:=by(try refine Pd.st ?_);(repeat(first|exact Pd.nil|exact Pd.fnil|refine Pd.inner ?_|refine Pd.skip (by decide +kernel) ?_|refine zf (zo 0 Z Z) ?_|refine zf (zo 1 Z Z) ?_|refine zf (zo 2 Z Z) ?_|refine zf (zm 0 Z Z) ?_|refine zf (zm 1 Z Z) ?_|refine zf (zm 2 Z Z) ?_|refine zf (an.ar (an.one 5 Z (qy hx)) Z) ?_|refine zf ((an.one 5 Z (qy hx))) ?_|refine zc (zo 0 Z Z) ?_|refine zc (zo 1 Z Z) ?_|refine zc (zo 2 Z Z) ?_|refine zc (zm 0 Z Z) ?_|refine zc (zm 1 Z Z) ?_|refine zc (zm 2 Z Z) ?_|refine zc (an.ar (an.one 5 Z (qy hx)) Z) ?_|refine zc ((an.one 5 Z (qy hx))) ?_))):p:=k
theorem FQ(k:p:=by(try refine Pd.st ?_);(repeat(first|exact Pd.nil|exact Pd.fnil|refine Pd.inner ?_|refine Pd.skip (by decide +kernel) ?_|refine zf (zo 0 Z Z) ?_|refine zf (zo 1 Z Z) ?_|refine zf (zo 2 Z Z) ?_|refine zf (zm 0 Z Z) ?_|refine zf (zm 1 Z Z) ?_|refine zf (zm 2 Z Z) ?_|refine zf (an.ar (an.many 0 Z Z) Z) ?_|refine zf ((an.many 0 Z Z)) ?_|refine zc (zo 0 Z Z) ?_|refine zc (zo 1 Z Z) ?_|refine zc (zo 2 Z Z) ?_|refine zc (zm 0 Z Z) ?_|refine zc (zm 1 Z Z) ?_|refine zc (zm 2 Z Z) ?_|refine zc (an.ar (an.many 0 Z Z) Z) ?_|refine zc ((an.many 0 Z Z)) ?_))):p:=k
theorem Bw(k:p:=by(try refine Pd.st ?_);(repeat(first|exact Pd.nil|exact Pd.fnil|refine Pd.inner ?_|refine Pd.skip (by decide +kernel) ?_|refine zf (an.ar (an.ar h Z) Z) ?_|refine zf (an.ar (an.h_ (ds:=R.ch.cells x.a x.c) h Z) Z) ?_|refine zf ((an.ar h Z)) ?_|refine zf ((an.h_ (ds:=R.ch.cells x.a x.c) h Z)) ?_|refine zc (an.ar (an.ar h Z) Z) ?_|refine zc (an.ar (an.h_ (ds:=R.ch.cells x.a x.c) h Z) Z) ?_|refine zc ((an.ar h Z)) ?_|refine zc ((an.h_ (ds:=R.ch.cells x.a x.c) h Z)) ?_))):p:=k
theorem Mx(k:p:=by(try refine Pd.st ?_);(repeat(first|exact Pd.nil|exact Pd.fnil|refine Pd.inner ?_|refine Pd.skip (by decide +kernel) ?_|refine zf (zo 0 rfl rfl) ?_|refine zf (zo 1 rfl rfl) ?_|refine zf (zm 0 rfl rfl) ?_|refine zf (zm 1 rfl rfl) ?_|refine zf (an.ar (an.ar hd hD) rfl) ?_|refine zf ((an.ar hd hD)) ?_|refine zc (zo 0 rfl rfl) ?_|refine zc (zo 1 rfl rfl) ?_|refine zc (zm 0 rfl rfl) ?_|refine zc (zm 1 rfl rfl) ?_|refine zc (an.ar (an.ar hd hD) rfl) ?_|refine zc ((an.ar hd hD)) ?_))):p:=k
theorem Bn(k:p:=by(try refine Pd.st ?_);(repeat(first|exact Pd.nil|exact Pd.fnil|refine Pd.inner ?_|refine Pd.skip (by decide +kernel) ?_|refine zf (an.ar (an.ar hb Z) Z) ?_|refine zf (an.ar (an.h_ (ds:=kk es) hb Z) Z) ?_|refine zf ((an.ar hb Z)) ?_|refine zf ((an.h_ (ds:=kk es) hb Z)) ?_|refine zc (an.ar (an.ar hb Z) Z) ?_|refine zc (an.ar (an.h_ (ds:=kk es) hb Z) Z) ?_|refine zc ((an.ar hb Z)) ?_|refine zc ((an.h_ (ds:=kk es) hb Z)) ?_))):p:=k
theorem Mq(k:p:=by(try refine Pd.st ?_);(repeat(first|exact Pd.nil|exact Pd.fnil|refine Pd.inner ?_|refine Pd.skip (by decide +kernel) ?_|refine zf (zo 0 Z Z) ?_|refine zf (zo 1 Z Z) ?_|refine zf (zm 0 Z Z) ?_|refine zf (zm 1 Z Z) ?_|refine zf (an.ar (an.many 0 Z Z) Z) ?_|refine zf ((an.many 0 Z Z)) ?_|refine zc (zo 0 Z Z) ?_|refine zc (zo 1 Z Z) ?_|refine zc (zm 0 Z Z) ?_|refine zc (zm 1 Z Z) ?_|refine zc (an.ar (an.many 0 Z Z) Z) ?_|refine zc ((an.many 0 Z Z)) ?_))):p:=k
theorem Mw(k:p:=by(try refine Pd.st ?_);(repeat(first|exact Pd.nil|exact Pd.fnil|refine Pd.inner ?_|refine Pd.skip (by decide +kernel) ?_|refine zf (zo 0 Z Z) ?_|refine zf (zo 1 Z Z) ?_|refine zf (zm 0 Z Z) ?_|refine zf (zm 1 Z Z) ?_|refine zf (an.ar (an.ar hd hD) Z) ?_|refine zf ((an.ar hd hD)) ?_|refine zc (zo 0 Z Z) ?_|refine zc (zo 1 Z Z) ?_|refine zc (zm 0 Z Z) ?_|refine zc (zm 1 Z Z) ?_|refine zc (an.ar (an.ar hd hD) Z) ?_|refine zc ((an.ar hd hD)) ?_))):p:=k
theorem L0(k:p:=by(try refine Pd.st ?_);(repeat(first|exact Pd.nil|exact Pd.fnil|refine Pd.inner ?_|refine Pd.skip (by decide +kernel) ?_|refine zf (an.ar hb Z) ?_|refine zf (an.ar (an.h_ hp hrow) Z) ?_|refine zf (hb) ?_|refine zf ((an.h_ hp hrow)) ?_|refine zc (an.ar hb Z) ?_|refine zc (an.ar (an.h_ hp hrow) Z) ?_|refine zc (hb) ?_|refine zc ((an.h_ hp hrow)) ?_))):p:=k
theorem Bv(k:p:=by(try refine Pd.st ?_);(repeat(first|exact Pd.nil|exact Pd.fnil|refine Pd.inner ?_|refine Pd.skip (by decide +kernel) ?_|refine zf (zo 0 Z Z) ?_|refine zf (zm 0 Z Z) ?_|refine zf (an.ar hb Z) ?_|refine zf (hb) ?_|refine zc (zo 0 Z Z) ?_|refine zc (zm 0 Z Z) ?_|refine zc (an.ar hb Z) ?_|refine zc (hb) ?_))):p:=k
theorem yy(k:p:=by(try refine Pd.st ?_);(repeat(first|exact Pd.nil|exact Pd.fnil|refine Pd.inner ?_|refine Pd.skip (by decide +kernel) ?_|refine zf (an.ar (an.ar hb Z) Z) ?_|refine zf ((an.ar hb Z)) ?_|refine zc (an.ar (an.ar hb Z) Z) ?_|refine zc ((an.ar hb Z)) ?_))):p:=k
theorem Mn(k:p:=by rw[ByteArray.size_append,ByteArray.size_append,gn,gn,gn,gn];omega):p:=k
theorem Ml(k:p:=by rw[(tT he (by decide)).1,(tT he (by decide)).2,he];exact qG Z Z):p:=k
theorem Mo(k:p:=by show 0+k*1<_;rw[Nat.zero_add,List.length_append,dS Du];omega):p:=k
theorem Mt(k:p:=by unfold du;rw[List.all_map];exact List.all_eq_true.2 fun _ _=>rfl):p:=k
theorem L9(k:p:=by rw[List.length_append,refs,List.length_map,List.length_take];omega):p:=k
theorem g'(k:p:=by(repeat refine Pd.filter ?_);exact hS _ (.tail _ (.tail _ (.head _)))):p:=k
theorem Ms(k:p:=by intro h0;rw[h0] at hb2;exact absurd hb2.2.2.2.2.2.1 (by decide)):p:=k
theorem pO(k:p:=by(repeat refine Pd.filter ?_);exact hS _ (.tail _ (.head _))):p:=k
theorem YD(k:p:=by rw[gn,gn];simp only[List.length_append];omega):p:=k
theorem Mm(k:p:=by rw[ByteArray.size_append,gn,gn,gn];omega):p:=k
theorem Mf(k:p:=by rw[List.take_zero,List.flatMap_nil,List.append_nil];rfl):p:=k
theorem FP(k:p:=by rw[show getM s=none from(by exact hG)];exact⟨rfl,Z⟩):p:=k
theorem Mb(k:p:=by exact(fun v L h=>⟨_,by rw[hch] at h;exact h.2,h.1,Z⟩)):p:=k
theorem yx(k:p:=by rw[iq,if_neg hb,if_neg h1,if_pos h2,hg]):p:=k
theorem L8(k:p:=by rw[BP h];show 0+15+n*1<21;omega):p:=k
theorem Mi(k:p:=by unfold cV;repeat' split;all_goals omega):p:=k
theorem Mg(k:p:=by rw[e];simp only[List.append_assoc];rfl):p:=k
theorem L7(k:p:=by rw[dS sT,h.marks];omega):p:=k
theorem L5(k:p:=by have:=h0.wf.n0;have:=h0.len;omega):p:=k
theorem L_(k:p:=by show(0+c.ms.length)*16≤_;omega):p:=k
theorem FO(k:p:=by show 2+3≤_;rw[sU ok];omega):p:=k
theorem Mv(k:p:=by exact(fun v L h=>⟨_,h.2,by rw[h.1,hr],Z⟩)):p:=k
theorem yi(k:p:=by simpa using(List.mem_filter.1 hp1).2):p:=k
theorem Me(k:p:=by show(done.length+1)*1≤_;omega):p:=k
theorem Mj(k:p:=by rw[←beq_eq_false_iff_ne.2 he];rfl):p:=k
theorem yl(k:p:=by simp[stepG,stepG.exec,Frame.atR]):p:=k
theorem Bo(k:p:=by show(0+l.length)*16≤_;omega):p:=k
theorem L6(k:p:=by rw[v8,QW];exact hi2):p:=k
theorem yr(k:p:=by simp[c_,px,h1];omega):p:=k
theorem Mc(k:p:=by rw[if_pos hyes];exact⟨p,Z,Z⟩):p:=k
theorem Bu(k:p:=by simp only[cn];rw[hcr];rfl):p:=k
theorem Mu(k:p:=by have:=(C9 n).toNat_lt;omega):p:=k
theorem pP(k:p:=by rw[List.length_append];omega):p:=k
theorem YE(k:p:=by rw[if_neg hf];exact⟨rfl,Z⟩):p:=k
theorem YF(k:p:=by rw[if_neg hE];exact⟨rfl,Z⟩):p:=k
theorem Mh(k:p:=by rw[hW];exact⟨a2,c2,Z,Z⟩):p:=k
theorem FG(k:p:=by rw[List.length_take];omega):p:=k
theorem Md(k:p:=by rw[hel];exact⟨_,_,Z,Z⟩):p:=k
theorem YC(k:p:=by rw[gn,gn];omega):p:=k
theorem FN(k:p:=by rw[List.length_set];omega):p:=k
theorem yz(k:p:=by exact(fun v L h=>⟨_,h.2,h.1,Z⟩)):p:=k
theorem Bt(k:p:=by show(0:Int)≤95;omega):p:=k
theorem FK(k:p:=by show ms.length≤_;omega):p:=k
theorem yh(k:p:=by rw[hpr] at h0;cases h0):p:=k
theorem YG(k:p:=by rw[hn];exact⟨rfl,Z⟩):p:=k
theorem FJ(k:p:=by show 0≤900000;omega):p:=k
theorem FL(k:p:=by show 0≤800000;omega):p:=k
theorem Mk(k:p:=by show 12<21;omega):p:=k
theorem u9(k:p:=by show 3<12;omega):p:=k
theorem FI(k:p:=by rw[hwt];exact h2):p:=k
theorem Ma(k:p:=by show 8<17;omega):p:=k
theorem By(k:p:=by show 9<21;omega):p:=k
theorem yp(k:p:=by dsimp only;omega):p:=k
theorem yu(k:p:=by rw[fp,hc];rfl):p:=k
theorem Bp(k:p:=by show 2<3;omega):p:=k
theorem sd(k:p:=by show 1<3;omega):p:=k
theorem xB(k:p:=by rw[hlv];decide):p:=k
theorem Br(k:p:=by simp[iA,hr]):p:=k
theorem Bx(k:p:=by rw[hf];decide):p:=k
theorem Bz(k:p:=by rw[←hfc];rfl):p:=k
theorem yk(k:p:=by simpa using hi):p:=k
theorem yo(k:p:=by decide +kernel):p:=k
theorem bY(k:p:=by rw[h];decide):p:=k
theorem se(k:p:=by simpa using k1):p:=k
theorem yc(k:p:=by simpa using h):p:=k
theorem qS(k:p:=by rw[h1];simp):p:=k
theorem yb(k:p:=by simp[hs.1]):p:=k
theorem ye(k:p:=by simp;omega):p:=k
theorem yq(k:p:=by rw[e];rfl):p:=k
theorem mP(k:p:=by exact(fun v L h=>h)):p:=k
theorem ym(k:p:=by kernel_rfl):p:=k
theorem yg(k:p:=by simp[h1]):p:=k
theorem yj(k:p:=by simp[h2]):p:=k
theorem ya(k:p:=by simp[h]):p:=k
theorem yn(k:p:=by decide):p:=k
theorem oJ(k:p:=by rw[e]):p:=k
theorem yd(k:p:=by omega):p:=k
theorem yf(k:p:=by simp):p:=k
theorem Kt(k:p:=by exact⟨fun _ _=>trivial,hk Q' hQ _ _ _ (ha.bI hd _) (hG.put hf _) hw⟩):p:=k
theorem AF(k:p:=by exact .inl ⟨_,E _ (fun w=>r1 w),h⟩):p:=k
theorem AH(k:p:=by exact .inl ⟨_,E _ (fun w=>r2 w),h⟩):p:=k
theorem Ku(k:p:=by exact .inl ⟨v,fun a ha _ _ _ _ _ w=>by simp only[execOp,ha.ev hv];rfl,h⟩):p:=k
theorem Kw(k:p:=by exact .inl ⟨_,fun a ha _ _ _ _ _ w=>by simp only[execOp,ha.ev hv];rfl,h⟩):p:=k
theorem Kx(k:p:=by exact .inl ⟨_,fun a ha _ _ _ _ _ w=>by simp only[execOp,ha.ev hv,ha.ev hu];rfl,h⟩):p:=k
theorem Ky(k:p:=by exact List.nodup_append.2 ⟨hGn,hnl,fun x hx y hy he=>(hGb x hx).1 (.inr (he▸hy))⟩):p:=k
theorem ED(k:p:=by exact⟨(hb b ya).1,Nat.lt_of_lt_of_le (hb b ya).2 h4.size⟩):p:=k
theorem Kz(k:p:=by exact h.bL.trans ⟨rfl,Z,Z,by rw[El];exact NR _,fun c hc=>CV fun he=>hf (he▸hc),NR _⟩):p:=k
theorem KA(k:p:=by exact hk v L' hm Q' hp0 hQ hsel ro _ _ w' hp.2 (ha.bI hd v) (hG.put hf v) hs (fun p hp1=>hst v L' hm w' hs p (List.mem_filter.1 hp1).1 yi)):p:=k
theorem ae(g:q)(k:Bq q→p:=by(intro zq;(repeat(first|refine zS ?_|refine zR ?_|refine zB ?_|refine zL ?_|refine zC ?_|refine zG (zN ?_)));exact zq.v)):p:=k ⟨g⟩
theorem KB(g:q)(k:Bq q→p:=by(intro zq;refine VC.loop (σ:=Nat) (fun i=>[(0,.string s),(3,.int .i64 (i:Int))]) (fun _=>[]) (fun i=>i≤s.size) (fun i=>s.size-i) 0 (Nat.zero_le _) aF ER ?_;exact zq.v)):p:=k ⟨g⟩
theorem AJ(g:q)(k:Bq q→p:=by(intro zq;refine VG (VI (sO i Z Z Z Z Z hc) ?_);exact zq.v)):p:=k ⟨g⟩
theorem au(g:q)(k:Bq q→p:=by(intro zq;(repeat(first|refine zS ?_|refine zR ?_|refine zB ?_|refine zL ?_|refine zC ?_|refine zG (zN ?_)|refine zG (zU rfl rfl rfl ?_)));exact zq.v)):p:=k ⟨g⟩
theorem nH(g:q)(k:Bq q→p:=by(intro zq;refine VG (VP Z Z yd yd ?_);exact zq.v)):p:=k ⟨g⟩
theorem KC(k:p:=by exact⟨i+1,by dsimp only;omega,by dsimp only;omega,SC Z (Sub.int Z yd (SN _)),ER⟩):p:=k
theorem jQ(k:p:=by exact CR (al.tmp 2 Z Z ER ⟨rfl,Z⟩)):p:=k
theorem l_(g:q)(k:Bq q→p:=by(intro zq;refine VC.lf Z ?_;exact zq.v)):p:=k ⟨g⟩
theorem iQ(g:q)(k:Bq q→p:=by(intro zq;refine VC.kG Z (CK ?_);exact zq.v)):p:=k ⟨g⟩
theorem EE(g:q)(k:Bq q→p:=by(intro zq;refine VG (VI (dU k Z Z Z Z Z Z hkl) ?_);exact zq.v)):p:=k ⟨g⟩
theorem aj(g:q)(k:Bq q→p:=by(intro zq;(repeat(first|refine zS ?_|refine zR ?_|refine zB ?_|refine zL ?_|refine zC ?_|refine zG (zN ?_)|refine zG (zD 0 rfl rfl rfl rfl ?_)));exact zq.v)):p:=k ⟨g⟩
theorem oG(g:q)(k:Bq q→p:=by(intro zq;refine VC.kG Z ?_;exact zq.v)):p:=k ⟨g⟩
theorem kS(g:q)(k:Bq q→p:=by(intro zq;(repeat(first|refine zS ?_|refine zR ?_|refine zB ?_|refine zL ?_|refine zC ?_|refine zG (zN ?_)|refine zG (zE rfl rfl (an.ar hb rfl) ?_)));exact zq.v)):p:=k ⟨g⟩
theorem KD(g:q)(k:Bq q→p:=by(intro zq;refine VG (VI (dU i Z Z Z Z Z Z hi2) ?_);exact zq.v)):p:=k ⟨g⟩
theorem tq(g:q)(k:Bq q→p:=by(intro zq;refine VG (VO.load Z Z (ra _ _ Z Z) ?_);exact zq.v)):p:=k ⟨g⟩
theorem EF(g:q)(k:Bq q→p:=by(intro zq;refine VG (VI (uk (u:=[]) (v:=[.pointer (some ⟨b,0,none⟩)]) Z Z) ?_);exact zq.v)):p:=k ⟨g⟩
theorem bF(g:q)(k:Bq q→p:=by(intro zq;(repeat(first|refine zS ?_|refine zR ?_|refine zB ?_|refine zL ?_|refine zC ?_|refine zG (zN ?_)|refine zG (zD 0 rfl rfl rfl rfl ?_)|refine zG (zU rfl rfl rfl ?_)));exact zq.v)):p:=k ⟨g⟩
theorem KE(k:p:=by exact⟨(),trivial,SC Z (Sub.bl Z (by simp[sK];omega) (SN _)),ER⟩):p:=k
theorem EG(g:q)(k:Bq q→p:=by(intro zq;refine VG (VL 0 (c.cells a cap) Z Z Z Z ?_);exact zq.v)):p:=k ⟨g⟩
theorem xe(g:q)(k:Bq q→p:=by(intro zq;refine VG (VK (Lc:=[]) (fun Fr w hF hw _=>I9 (c:=c) (a:=a) (cap:=cap) Fr w) Z Z ?_);exact zq.v)):p:=k ⟨g⟩
theorem cF(g:q)(k:Bq q→p:=by(intro zq;(repeat(first|refine zS ?_|refine zR ?_|refine zB ?_|refine zL ?_|refine zC ?_|refine zG (zN ?_)|refine zG (zD 0 rfl rfl rfl rfl ?_)|refine zG (zD 1 rfl rfl rfl rfl ?_)));exact zq.v)):p:=k ⟨g⟩
theorem gh(g:q)(k:Bq q→p:=by(intro zq;(repeat(first|refine zS ?_|refine zR ?_|refine zB ?_|refine zL ?_|refine zC ?_|refine zG (zN ?_)|refine zG (zD 0 rfl rfl rfl rfl ?_)|refine zG (zD 1 rfl rfl rfl rfl ?_)|refine zG (zD 2 rfl rfl rfl rfl ?_)));exact zq.v)):p:=k ⟨g⟩
theorem xf(g:q)(k:Bq q→p:=by(intro zq;refine VG (VY 40 true Z Z ?_);exact zq.v)):p:=k ⟨g⟩
theorem gZ(g:q)(k:Bq q→p:=by(intro zq;(repeat(first|refine zS ?_|refine zR ?_|refine zB ?_|refine zL ?_|refine zC ?_|refine zG (zN ?_)|refine zG (zD 0 rfl rfl rfl rfl ?_)|refine zG (zD 1 rfl rfl rfl rfl ?_)|refine zG (zD 2 rfl rfl rfl rfl ?_)|refine zG (zU rfl rfl rfl ?_)));exact zq.v)):p:=k ⟨g⟩
theorem uT(g:q)(k:Bq q→p:=by(intro zq;refine VG (VY 40 false Z Z ?_);exact zq.v)):p:=k ⟨g⟩
theorem iC(g:q)(k:Bq q→p:=by(intro zq;(repeat(first|refine zS ?_|refine zR ?_|refine zB ?_|refine zL ?_|refine zC ?_|refine zG (zN ?_)|refine zG (zD 0 rfl rfl rfl rfl ?_)|refine zG (zD 1 rfl rfl rfl rfl ?_)|refine zG (zU rfl rfl rfl ?_)));exact zq.v)):p:=k ⟨g⟩
theorem xg(g:q)(k:Bq q→p:=by(intro zq;refine VG (VI (dU k Z Z Z Z Z Z hk) ?_);exact zq.v)):p:=k ⟨g⟩
theorem qO(k:p:=by exact CR (al.tmp 2 Z Z aa.nil.ah ⟨rfl,Z⟩)):p:=k
theorem mN(g:q)(k:Bq q→p:=by(intro zq;refine VG (VO.uN Z Z yd yd ?_);exact zq.v)):p:=k ⟨g⟩
theorem AK(g:q)(k:Bq q→p:=by(intro zq;refine VG (VO.tS (u:=.int .i64 (placeOf c.ms n)) Z (fun Fr w hF hs hS=>zY Fr w (hS.ar 0 Z) (h.of hF hs) yd n) Z ?_);exact zq.v)):p:=k ⟨g⟩
theorem tr(g:q)(k:Bq q→p:=by(intro zq;refine VG (VL 1 (c.cells a cap) Z Z Z Z ?_);exact zq.v)):p:=k ⟨g⟩
theorem jr(g:q)(k:Bq q→p:=by(intro zq;refine VG (VN ?_);exact zq.v)):p:=k ⟨g⟩
theorem bg(g:q)(k:Bq q→p:=by(intro zq;(repeat(first|refine yG (yN ?_)|refine yG (yD 0 rfl rfl rfl rfl rfl ?_)));exact zq.v)):p:=k ⟨g⟩
theorem qP(g:q)(k:Bq q→p:=by(intro zq;refine AG (VA.uN Z Z Z yd yd ?_);exact zq.v)):p:=k ⟨g⟩
theorem uU(k:p:=by exact CR (al.tmp 4 Z Z aa.nil.ah ⟨rfl,Z⟩)):p:=k
theorem me(g:q)(k:Bq q→p:=by(intro zq;(repeat(first|refine zS ?_|refine zR ?_|refine zB ?_|refine zL ?_|refine zC ?_|refine zG (zN ?_)|refine zG (zE rfl rfl (an.ar h rfl) ?_)));exact zq.v)):p:=k ⟨g⟩
theorem EH(g:q)(k:Bq q→p:=by(intro zq;refine VG (VV (fun Fr w hF hs _=>eZ Fr w (h.of hF hs) hc) Z ?_);exact zq.v)):p:=k ⟨g⟩
theorem uV(k:p:=by exact CR (al.int 2 Z Z Z ER ⟨rfl,Z⟩)):p:=k
theorem pJ(g:q)(k:Bq q→p:=by(intro zq;(repeat(first|refine yG (yN ?_)|refine yG (yE rfl rfl rfl (an.ar h rfl) ?_)));exact zq.v)):p:=k ⟨g⟩
theorem pK(g:q)(k:Bq q→p:=by(intro zq;refine AG (AP Z Z Z yd yd ?_);exact zq.v)):p:=k ⟨g⟩
theorem uW(k:p:=by exact CR (al.bool 2 Z Z Z ER ⟨rfl,Z⟩)):p:=k
theorem AL(g:q)(k:Bq q→p:=by(intro zq;refine VG (VV (fun Fr w hF hs hS=>eZ Fr w (hS.ar 0 Z) o1) Z ?_);exact zq.v)):p:=k ⟨g⟩
theorem EI(k:p:=by exact CR (al.tmp 4 Z Z ER ⟨by rw[hb],by rw[bE.kD,hb];rfl⟩)):p:=k
theorem tu(k:p:=by exact al.void Z ER ⟨rfl,Z⟩):p:=k
theorem ku(g:q)(k:Bq q→p:=by(intro zq;refine CS (CG (VG (VN ?_)));exact zq.v)):p:=k ⟨g⟩
theorem dF(g:q)(k:Bq q→p:=by(intro zq;(repeat(first|refine yG (yN ?_)|refine yG (yD 0 rfl rfl rfl rfl rfl ?_)|refine yG (yU rfl rfl rfl rfl ?_)));exact zq.v)):p:=k ⟨g⟩
theorem EJ(k:p:=by exact CR (al.cz 2 3 Z Z Z ER ⟨by rw[hb];rfl,by rw[bE.next,hb];rfl⟩)):p:=k
theorem EK(g:q)(k:Bq q→p:=by(intro zq;refine VG (VO.iY (fun Fr w=>gq Fr w o) Z ?_);exact zq.v)):p:=k ⟨g⟩
theorem AM(g:q)(k:Bq q→p:=by(intro zq;(repeat(first|refine zS ?_|refine zR ?_|refine zB ?_|refine zL ?_|refine zC ?_|refine zG (zN ?_)|refine zG (zD 0 rfl rfl rfl rfl ?_)|refine zG (zE rfl rfl (an.ar hp rfl) ?_)));exact zq.v)):p:=k ⟨g⟩
theorem xh(g:q)(k:Bq q→p:=by(intro zq;refine VG (VY 5 false Z Z ?_);exact zq.v)):p:=k ⟨g⟩
theorem EL(g:q)(k:Bq q→p:=by(intro zq;refine VG (VV (fun Fr w hF hs _=>eZ Fr w (h.of hF hs)) Z ?_);exact zq.v)):p:=k ⟨g⟩
theorem KF(g:q)(k:Bq q→p:=by(intro zq;refine VG (VI (LB (pv:=[]) (a8 bO) Z Z Z ym Z) ?_);exact zq.v)):p:=k ⟨g⟩
theorem EM(g:q)(k:Bq q→p:=by(intro zq;refine VG (VT (vs:=a8 bO) 0 Z Z Z Z (NR _) Z Z Z ?_);exact zq.v)):p:=k ⟨g⟩
theorem gi(g:q)(k:Bq q→p:=by(intro zq;(repeat(first|refine yG (yN ?_)|refine yG (yD 0 rfl rfl rfl rfl rfl ?_)|refine yG (yD 1 rfl rfl rfl rfl rfl ?_)|refine yG (yD 2 rfl rfl rfl rfl rfl ?_)|refine yG (yD 3 rfl rfl rfl rfl rfl ?_)));exact zq.v)):p:=k ⟨g⟩
theorem EN(g:q)(k:Bq q→p:=by(intro zq;refine CS (CD (ts 0 10 (.only 10 .nil)) ym yo ?_);exact zq.v)):p:=k ⟨g⟩
theorem pL(g:q)(k:Bq q→p:=by(intro zq;(repeat(first|refine yG (yN ?_)|refine yG (yD 0 rfl rfl rfl rfl rfl ?_)|refine yG (yD 1 rfl rfl rfl rfl rfl ?_)|refine yG (yD 2 rfl rfl rfl rfl rfl ?_)|refine yG (yD 3 rfl rfl rfl rfl rfl ?_)|refine yG (yD 4 rfl rfl rfl rfl rfl ?_)));exact zq.v)):p:=k ⟨g⟩
theorem lF(g:q)(k:Bq q→p:=by(intro zq;(repeat(first|refine zS ?_|refine zR ?_|refine zB ?_|refine zL ?_|refine zC ?_|refine zG (zN ?_)|refine zG (zD 0 rfl rfl rfl rfl ?_)|refine zG (zD 1 rfl rfl rfl rfl ?_)|refine zG (zD 2 rfl rfl rfl rfl ?_)|refine zG (zD 3 rfl rfl rfl rfl ?_)|refine zG (zD 4 rfl rfl rfl rfl ?_)));exact zq.v)):p:=k ⟨g⟩
theorem AS(g:q)(k:Bq q→p:=by(intro zq;refine CS (CD (ts 0 6 (.only 6 .nil)) ym yo ?_);exact zq.v)):p:=k ⟨g⟩
theorem EO(g:q)(k:Bq q→p:=by(intro zq;refine VG (VV (fun Fr w hF hs hS=>eZ Fr w (hb.of hF hs)) Z ?_);exact zq.v)):p:=k ⟨g⟩
theorem xi(g:q)(k:Bq q→p:=by(intro zq;(repeat(first|refine yG (yN ?_)|refine yG (yE rfl rfl rfl (an.ar hb rfl) ?_)));exact zq.v)):p:=k ⟨g⟩
theorem AU(g:q)(k:Bq q→p:=by(intro zq;(repeat(first|refine zS ?_|refine zR ?_|refine zB ?_|refine zL ?_|refine zC ?_|refine zG (zN ?_)|refine zG (zD 0 rfl rfl rfl rfl ?_)|refine zG (zD 1 rfl rfl rfl rfl ?_)|refine zG (zD 2 rfl rfl rfl rfl ?_)|refine zG (zD 3 rfl rfl rfl rfl ?_)|refine zG (zD 4 rfl rfl rfl rfl ?_)|refine zG (zD 5 rfl rfl rfl rfl ?_)));exact zq.v)):p:=k ⟨g⟩
theorem r6(g:q)(k:Bq q→p:=by(intro zq;(repeat(first|refine zS ?_|refine zR ?_|refine zB ?_|refine zL ?_|refine zC ?_|refine zG (zN ?_)|refine zG (zD 0 rfl rfl rfl rfl ?_)|refine zG (zD 1 rfl rfl rfl rfl ?_)|refine zG (zD 2 rfl rfl rfl rfl ?_)|refine zG (zD 3 rfl rfl rfl rfl ?_)|refine zG (zD 4 rfl rfl rfl rfl ?_)|refine zG (zD 5 rfl rfl rfl rfl ?_)|refine zG (zU rfl rfl rfl ?_)));exact zq.v)):p:=k ⟨g⟩
theorem AV(g:q)(k:Bq q→p:=by(intro zq;refine VG (VT (vs:=a8 bO) 4 Z Z Z Z (NR _) Z Z Z ?_);exact zq.v)):p:=k ⟨g⟩
theorem kx(g:q)(k:Bq q→p:=by(intro zq;(repeat(first|refine yG (yN ?_)|refine yG (yD 0 rfl rfl rfl rfl rfl ?_)|refine yG (yD 1 rfl rfl rfl rfl rfl ?_)|refine yG (yD 2 rfl rfl rfl rfl rfl ?_)|refine yG (yD 3 rfl rfl rfl rfl rfl ?_)|refine yG (yD 4 rfl rfl rfl rfl rfl ?_)|refine yG (yD 5 rfl rfl rfl rfl rfl ?_)));exact zq.v)):p:=k ⟨g⟩
theorem KG(g:q)(k:Bq q→p:=by(intro zq;refine CS (CD (ts 0 6 (.only 6 (.only 7 (ts 8 2 (.only 10 .nil))))) ym yo ?_);exact zq.v)):p:=k ⟨g⟩
theorem xj(k:p:=by exact CR (al.tmp 2 Z Z (aa.cN aa.nil).ah ⟨none,0,Z,Z⟩)):p:=k
theorem xk(k:p:=by exact CR (al.tmp 2 Z Z ER ⟨a',c',Z,Z⟩)):p:=k
theorem AW(k:p:=by exact⟨s,h1,G,h2,by simpa using hn,fun b hb=>by simpa using hb⟩):p:=k
theorem EP(g:q)(k:Bq q→p:=by(intro zq;refine VO.ah (L':=[av aN 2 (some ⟨b,0,none⟩) 0 0 []]) (aa.sl (M:=[]) (cs:=[]) (rest:=[]) Z (NR _) Z (aa.refl (L:=[pt b [] aN]))).ah ?_;exact zq.v)):p:=k ⟨g⟩
theorem KH(g:q)(k:Bq q→p:=by(intro zq;(repeat(first|refine zS ?_|refine zR ?_|refine zB ?_|refine zL ?_|refine zC ?_|refine zG (zN ?_)|refine zG (zD 0 rfl rfl rfl rfl ?_)|refine zG (zE rfl rfl (an.ar hb rfl) ?_)));exact zq.v)):p:=k ⟨g⟩
theorem KI(k:p:=by exact CR (al.tmp 4 Z Z (IP 0 Z (IP 0 Z aa.nil)).ah ⟨a,c,rows,h1,Z,Z⟩)):p:=k
theorem KJ(g:q)(k:Bq q→p:=by(intro zq;refine VG (VT (vs:=aS (f,m)) (cs':=aS (f,m)) 1 Z Z Z Z (NR _) Z Z Z (VG (VN ?_)));exact zq.v)):p:=k ⟨g⟩
theorem KK(g:q)(k:Bq q→p:=by(intro zq;refine VG (VT (vs:=aS d_) (cs':=aS d_) 0 Z Z Z Z (NR _) Z Z Z (VG (VN ?_)));exact zq.v)):p:=k ⟨g⟩
theorem eu(g:q)(k:Bq q→p:=by(intro zq;(repeat(first|refine yG (yN ?_)|refine yG (yD 0 rfl rfl rfl rfl rfl ?_)|refine yG (yD 1 rfl rfl rfl rfl rfl ?_)));exact zq.v)):p:=k ⟨g⟩
theorem gF(g:q)(k:Bq q→p:=by(intro zq;(repeat(first|refine yG (yN ?_)|refine yG (yD 0 rfl rfl rfl rfl rfl ?_)|refine yG (yD 1 rfl rfl rfl rfl rfl ?_)|refine yG (yD 2 rfl rfl rfl rfl rfl ?_)));exact zq.v)):p:=k ⟨g⟩
theorem ES(g:q)(k:Bq q→p:=by(intro zq;refine VG (VO.st 2 Z Z Z Z Bp Z Z (VG (VN ?_)));exact zq.v)):p:=k ⟨g⟩
theorem xl(g:q)(k:Bq q→p:=by(intro zq;refine VG (VI (dU k Z Z Z Z Z Z yd) ?_);exact zq.v)):p:=k ⟨g⟩
theorem KL(g:q)(k:Bq q→p:=by(intro zq;refine VG (VV (fun Fr w hF _ hs=>Pv Fr w (aV.shut s0 h0 hs.tail)) Z (VG (VN ?_)));exact zq.v)):p:=k ⟨g⟩
theorem AX(g:q)(k:Bq q→p:=by(intro zq;refine VG (VO.ld 2 Z Z Z (hcell (j:=0) Z) ?_);exact zq.v)):p:=k ⟨g⟩
theorem ET(g:q)(k:Bq q→p:=by(intro zq;refine VG (VQ 2 (ψ:=fun v H=>v=.tuple #[]∧H=RG p s.cb s.rows.length s.oW S.bf) Z (fun Fr w _ _ _=>DM Fr w yd yd) Z (fun v L1 ⟨h1,h2⟩=>⟨_,h2,h1,Z⟩) ?_);exact zq.v)):p:=k ⟨g⟩
theorem KM(k:p:=by exact(aa.trans aa.tl (aa.trans aa.tl (aa.trans (aa.of_eq e) (uI (h.Ah hr hwf))))).ah):p:=k
theorem uX(g:q)(k:Bq q→p:=by(intro zq;refine VG (VO.ld 1 Z Z Z Z ?_);exact zq.v)):p:=k ⟨g⟩
theorem nI(g:q)(k:Bq q→p:=by(intro zq;refine VG (VO.ld 2 Z Z Z Z (VG (VO.ld 0 Z Z Z Z ?_)));exact zq.v)):p:=k ⟨g⟩
theorem xm(g:q)(k:Bq q→p:=by(intro zq;refine VG (VY 47 false Z Z ?_);exact zq.v)):p:=k ⟨g⟩
theorem EU(g:q)(k:Bq q→p:=by(intro zq;refine VG (VY 54 false Z Z ?_);exact zq.v)):p:=k ⟨g⟩
theorem Yq(g:q)(k:Bq q→p:=by(intro zq;refine VG (VY 61 false Z Z ?_);exact zq.v)):p:=k ⟨g⟩
theorem EV(g:q)(k:Bq q→p:=by(intro zq;refine VG (VY 68 false Z Z ?_);exact zq.v)):p:=k ⟨g⟩
theorem Yr(g:q)(k:Bq q→p:=by(intro zq;refine VG (VY 75 false Z Z ?_);exact zq.v)):p:=k ⟨g⟩
theorem KN(g:q)(k:Bq q→p:=by(intro zq;refine VG (VY 82 false Z Z ?_);exact zq.v)):p:=k ⟨g⟩
theorem KP(g:q)(k:Bq q→p:=by(intro zq;refine AG (AO (aG.dI (φ:=fun v=>v=.int .i64 (aD c.bt 1 6)) (fun Fr w _ _ _=>gX Fr w _ _ _) rfl) rfl (fun v L' h=>by obtain⟨_,rfl⟩:=h;exact g') ?_);exact zq.v)):p:=k ⟨g⟩
theorem EW(g:q)(k:Bq q→p:=by(intro zq;refine AG (AO (aG.dI (φ:=fun v=>v=.int .i64 (aD c.queue 1 16)) (fun Fr w _ _ _=>gX Fr w _ _ _) rfl) rfl (fun v L' h=>by obtain⟨_,rfl⟩:=h;exact g') ?_);exact zq.v)):p:=k ⟨g⟩
theorem AZ(g:q)(k:Bq q→p:=by(intro zq;refine AG (AO (aG.dI (φ:=fun v=>v=.int .i64 (aD c.gg 1 16)) (fun Fr w _ _ _=>gX Fr w _ _ _) rfl) rfl (fun v L' h=>by obtain⟨_,rfl⟩:=h;exact g') ?_);exact zq.v)):p:=k ⟨g⟩
theorem xn(g:q)(k:Bq q→p:=by(intro zq;refine AG (AO (aG.dI (φ:=fun v=>v=.int .i64 (aD c.reads 1 16)) (fun Fr w _ _ _=>gX Fr w _ _ _) rfl) rfl (fun v L' h=>by obtain⟨_,rfl⟩:=h;exact g') ?_);exact zq.v)):p:=k ⟨g⟩
theorem uY(g:q)(k:Bq q→p:=by(intro zq;refine AG (AO (aG.dI (φ:=fun v=>v=.int .i64 (aD c.link 4 64)) (fun Fr w _ _ _=>gX Fr w _ _ _) rfl) rfl (fun v L' h=>by obtain⟨_,rfl⟩:=h;exact g') ?_);exact zq.v)):p:=k ⟨g⟩
theorem tv(g:q)(k:Bq q→p:=by(intro zq;refine AG (AO (aG.dI (φ:=fun v=>v=.int .i64 (aD c.ei 4 64)) (fun Fr w _ _ _=>gX Fr w _ _ _) rfl) rfl (fun v L' h=>by obtain⟨_,rfl⟩:=h;exact g') ?_);exact zq.v)):p:=k ⟨g⟩
theorem r7(g:q)(k:Bq q→p:=by(intro zq;refine AG (AO (aG.dI (φ:=fun v=>v=.int .i64 (aD c.timeout 4 64)) (fun Fr w _ _ _=>gX Fr w _ _ _) rfl) rfl (fun v L' h=>by obtain⟨_,rfl⟩:=h;exact g') ?_);exact zq.v)):p:=k ⟨g⟩
theorem qQ(g:q)(k:Bq q→p:=by(intro zq;refine AG (AO (aG.dI (φ:=fun v=>v=.int .i64 (aD c.eR 0 16)) (fun Fr w _ _ _=>gX Fr w _ _ _) rfl) rfl (fun v L' h=>by obtain⟨_,rfl⟩:=h;exact g') ?_);exact zq.v)):p:=k ⟨g⟩
theorem pM(g:q)(k:Bq q→p:=by(intro zq;refine AG (AO (aG.dI (φ:=fun v=>v=.int .i64 (aD c.dQ 1 1099511627776)) (fun Fr w _ _ _=>gX Fr w _ _ _) rfl) rfl (fun v L' h=>by obtain⟨_,rfl⟩:=h;exact g') ?_);exact zq.v)):p:=k ⟨g⟩
theorem KQ(g:q)(k:Bq q→p:=by(intro zq;refine AG (AI Z (Qg Z Z) ?_);exact zq.v)):p:=k ⟨g⟩
theorem KR(g:q)(k:Bq q→p:=by(intro zq;refine AG (AT (vs:=[.int .i64 (aD c.nodes 1 6),.int .i64 (aD c.chain 1 (aD c.nodes 1 6)),.int .i64 (aD c.bt 1 6),.slice none 0 0,.int .i64 (aD c.queue 1 16),.int .i64 (aD c.gg 1 16),.int .i64 (aD c.reads 1 16),.int .i64 (aD c.link 4 64),.int .i64 (aD c.ei 4 64),.int .i64 (aD c.timeout 4 64),.int .i64 (aD c.eR 0 16),.int .i64 (aD c.dQ 1 1099511627776)]) (cs':=[.int .i64 (aD c.nodes 1 6),.int .i64 (aD c.chain 1 (aD c.nodes 1 6)),.int .i64 (aD c.bt 1 6),.slice none 0 0,.int .i64 (aD c.queue 1 16),.int .i64 (aD c.gg 1 16),.int .i64 (aD c.reads 1 16),.int .i64 (aD c.link 4 64),.int .i64 (aD c.ei 4 64),.int .i64 (aD c.timeout 4 64),.int .i64 (aD c.eR 0 16),.int .i64 (aD c.dQ 1 1099511627776)]) 0 Z Z Z Z Z (NR _) Z Z Z g' (AG (AN ?_)));exact zq.v)):p:=k ⟨g⟩
theorem KS(k:p:=by exact⟨d,trivial,aF,ER⟩):p:=k
theorem KT(g:q)(k:Bq q→p:=by(intro zq;refine VG (VI (LB (pv:=[(0,.int .i64 s),(1,.int .i64 t)]) (jf (s,t)) Z Z Z Z Z) ?_);exact zq.v)):p:=k ⟨g⟩
theorem EX(k:p:=by exact CR (al.int 8 Z Z oJ out ⟨rfl,by rw[e]⟩)):p:=k
theorem A0(g:q)(k:Bq q→p:=by(intro zq;refine CD (ts 0 6 (.only 6 .nil)) ym yo ?_;exact zq.v)):p:=k ⟨g⟩
theorem mO(g:q)(k:Bq q→p:=by(intro zq;(repeat(first|refine yG (yN ?_)|refine yG (yD 0 rfl rfl rfl rfl rfl ?_)|refine yG (yE rfl rfl rfl (an.ar hb rfl) ?_)));exact zq.v)):p:=k ⟨g⟩
theorem nJ(g:q)(k:Bq q→p:=by(intro zq;refine AG (VA.Ro Z Z ?_);exact zq.v)):p:=k ⟨g⟩
theorem KU(g:q)(k:Bq q→p:=by(intro zq;refine AG (AY 38 false Z Z ?_);exact zq.v)):p:=k ⟨g⟩
theorem Ys(g:q)(k:Bq q→p:=by(intro zq;refine AG (AY 43 false Z Z ?_);exact zq.v)):p:=k ⟨g⟩
theorem Yt(g:q)(k:Bq q→p:=by(intro zq;refine AG (AY 48 false Z Z ?_);exact zq.v)):p:=k ⟨g⟩
theorem Yu(g:q)(k:Bq q→p:=by(intro zq;refine AG (AY 54 false Z Z ?_);exact zq.v)):p:=k ⟨g⟩
theorem A1(g:q)(k:Bq q→p:=by(intro zq;refine AG (AI Z (iu n Z Z Z Z Z hcl hn) ?_);exact zq.v)):p:=k ⟨g⟩
theorem A2(k:p:=by exact CR (al.int 6 Z Z oJ out ⟨rfl,by rw[e]⟩)):p:=k
theorem EY(k:p:=by exact CR (al.int 6 Z Z oJ (L':=[_]) aa.tl.ah ⟨rfl,by rw[e]⟩)):p:=k
theorem A3(g:q)(k:Bq q→p:=by(intro zq;(repeat(first|refine yG (yN ?_)|refine yG (yD 0 rfl rfl rfl rfl rfl ?_)|refine yG (yE rfl rfl rfl (an.ar h rfl) ?_)));exact zq.v)):p:=k ⟨g⟩
theorem A4(g:q)(k:Bq q→p:=by(intro zq;refine AG (VA.load Z Z Z (an.h_ (ds:=R.ch.cells x.a x.c) h Z) ?_);exact zq.v)):p:=k ⟨g⟩
theorem KV(g:q)(k:Bq q→p:=by(intro zq;refine CS (CD (.take 0 (.only 1 (ts 2 5 (ts 8 4 (.only 7 (ts 12 3 .nil)))))) ym yo ?_);exact zq.v)):p:=k ⟨g⟩
theorem EZ(g:q)(k:Bq q→p:=by(intro zq;refine AG (AR (fun Fr w hF hs hS=>HL Fr w (h.of hF hs)) Z Z yv ?_);exact zq.v)):p:=k ⟨g⟩
theorem r8(g:q)(k:Bq q→p:=by(intro zq;(repeat(first|refine yG (yN ?_)|refine yG (yE rfl rfl rfl (an.ar h rfl) ?_)|refine yG (yU rfl rfl rfl rfl ?_)));exact zq.v)):p:=k ⟨g⟩
theorem E0(k:p:=by exact al.void Z (IP 1 Z aa.nil).ah ⟨rfl,Z⟩):p:=k
theorem KW(k:p:=by exact⟨(),trivial,SC Z (SC Z (SC Z (Sub.int Z (by rw[hd];rfl) (SN _)))),ER⟩):p:=k
theorem uZ(g:q)(k:Bq q→p:=by(intro zq;(repeat(first|refine zS ?_|refine zR ?_|refine zB ?_|refine zL ?_|refine zC ?_|refine zG (zN ?_)|refine zG (zE rfl rfl (an.ar hb rfl) ?_)|refine zG (zU rfl rfl rfl ?_)));exact zq.v)):p:=k ⟨g⟩
theorem u0(g:q)(k:Bq q→p:=by(intro zq;refine VC.bu 0 Z (aY.rep p R) ?_;exact zq.v)):p:=k ⟨g⟩
theorem KX(g:q)(k:Bq q→p:=by(intro zq;refine VG (VV (fun Fr w hF hs hS=>w7 Fr w (hS.ar 0 Z) (aP.av cj (hS.at_ 1 Z)) ok.ch) Z ?_);exact zq.v)):p:=k ⟨g⟩
theorem KY(g:q)(k:Bq q→p:=by(intro zq;refine VG (VV (fun Fr w hF hs hS=>Win.yQ Fr w (hS.ar 3 Z) w0) Z ?_);exact zq.v)):p:=k ⟨g⟩
theorem KZ(g:q)(k:Bq q→p:=by(intro zq;refine VG (VV (fun Fr w hF hs hS=>Win.oe Fr w (hS.ar 3 Z) w0) Z ?_);exact zq.v)):p:=k ⟨g⟩
theorem r9(g:q)(k:Bq q→p:=by(intro zq;(repeat(first|refine yG (yN ?_)|refine yG (yD 0 rfl rfl rfl rfl rfl ?_)|refine yG (yD 1 rfl rfl rfl rfl rfl ?_)|refine yG (yD 2 rfl rfl rfl rfl rfl ?_)|refine yG (yD 3 rfl rfl rfl rfl rfl ?_)|refine yG (yD 4 rfl rfl rfl rfl rfl ?_)|refine yG (yD 5 rfl rfl rfl rfl rfl ?_)|refine yG (yD 6 rfl rfl rfl rfl rfl ?_)|refine yG (yD 7 rfl rfl rfl rfl rfl ?_)));exact zq.v)):p:=k ⟨g⟩
theorem K0(g:q)(k:Bq q→p:=by(intro zq;refine CS (CD (ts 0 2 (.only 2 .nil)) ym yo ?_);exact zq.v)):p:=k ⟨g⟩
theorem K1(g:q)(k:Bq q→p:=by(intro zq;refine AG (VA.cK 6 (a8 bO) Z Z Z Z Z ?_);exact zq.v)):p:=k ⟨g⟩
theorem Yv(g:q)(k:Bq q→p:=by(intro zq;refine AG (AT (vs:=a8 bO) 6 Z Z Z Z Z (NR _) Z Z Z yv ?_);exact zq.v)):p:=k ⟨g⟩
theorem tw(g:q)(k:Bq q→p:=by(intro zq;(repeat(first|refine zS ?_|refine zR ?_|refine zB ?_|refine zL ?_|refine zC ?_|refine zG (zN ?_)|refine zG (zD 0 rfl rfl rfl rfl ?_)|refine zG (zD 1 rfl rfl rfl rfl ?_)|refine zG (zD 2 rfl rfl rfl rfl ?_)|refine zG (zD 3 rfl rfl rfl rfl ?_)|refine zG (zD 4 rfl rfl rfl rfl ?_)|refine zG (zD 5 rfl rfl rfl rfl ?_)|refine zG (zD 6 rfl rfl rfl rfl ?_)|refine zG (zD 7 rfl rfl rfl rfl ?_)));exact zq.v)):p:=k ⟨g⟩
theorem K2(k:p:=by exact⟨(),trivial,SC Z (SC Z (SC Z (SC Z (SC Z (SC Z (SC Z (Sub.bl Z Z (SN _)))))))),ER⟩):p:=k
theorem A5(g:q)(k:Bq q→p:=by(intro zq;refine VC.bu 1 Z (aY.rep p R) ?_;exact zq.v)):p:=k ⟨g⟩
theorem xp(g:q)(k:Bq q→p:=by(intro zq;refine VG (VV (fun Fr w hF hs hS=>HS Fr w (hS.ar 0 Z) f _) Z ?_);exact zq.v)):p:=k ⟨g⟩
theorem K3(g:q)(k:Bq q→p:=by(intro zq;(repeat(first|refine zS ?_|refine zR ?_|refine zB ?_|refine zL ?_|refine zC ?_|refine zG (zN ?_)|refine zG (zD 0 rfl rfl rfl rfl ?_)|refine zG (zD 1 rfl rfl rfl rfl ?_)|refine zG (zD 2 rfl rfl rfl rfl ?_)|refine zG (zD 3 rfl rfl rfl rfl ?_)|refine zG (zD 4 rfl rfl rfl rfl ?_)|refine zG (zD 5 rfl rfl rfl rfl ?_)|refine zG (zD 6 rfl rfl rfl rfl ?_)));exact zq.v)):p:=k ⟨g⟩
theorem oH(g:q)(k:Bq q→p:=by(intro zq;(repeat(first|refine yG (yN ?_)|refine yG (yD 0 rfl rfl rfl rfl rfl ?_)|refine yG (yD 1 rfl rfl rfl rfl rfl ?_)|refine yG (yD 2 rfl rfl rfl rfl rfl ?_)|refine yG (yD 3 rfl rfl rfl rfl rfl ?_)|refine yG (yD 4 rfl rfl rfl rfl rfl ?_)|refine yG (yD 5 rfl rfl rfl rfl rfl ?_)|refine yG (yD 6 rfl rfl rfl rfl rfl ?_)));exact zq.v)):p:=k ⟨g⟩
theorem K4(k:p:=by exact⟨h.ch,h.win,h.last,h.jd,h.je,h.fR,h.fG,h.rl,h.jl,h.jK,h.iO,h.calls,h.wf⟩):p:=k
theorem K5(g:q)(k:Bq q→p:=by(intro zq;refine CD (ts 0 5 (.two 5 9 (ts 6 3 (.only 9 (.only 10 (.take 11 .nil)))) (.only 5 (ts 6 3 (.only 10 (.take 11 .nil)))))) ym yo ?_;exact zq.v)):p:=k ⟨g⟩
theorem K6(g:q)(k:Bq q→p:=by(intro zq;refine VG (VV (fun Fr w hF hs hS=>Rep.qx Fr w (hS.ar 0 Z) (aP.av cj (hS.at_ 1 Z)) ok.ch) Z ?_);exact zq.v)):p:=k ⟨g⟩
theorem K7(g:q)(k:Bq q→p:=by(intro zq;refine AG (AI Z (LB (pv:=[(0,.int .i64 (R.log.length+1)),(1,.int .i64 (dV R now).aI),(2,.int .i64 (dV R now).seq),(3,.agg (dV R now).op.cells.toArray)]) (bJ (eJ R now)) Z Z Z ym Z) ?_);exact zq.v)):p:=k ⟨g⟩
theorem K8(g:q)(k:Bq q→p:=by(intro zq;refine AG (AT (vs:=a8 (lU R.log (eJ R now))) 0 Z Z Z Z Z (NR _) Z Z Z yv ?_);exact zq.v)):p:=k ⟨g⟩
theorem E1(g:q)(k:Bq q→p:=by(intro zq;refine VG (VV (fun Fr w hF hs hS=>wz Fr w (hS.ar 0 Z)) Z ?_);exact zq.v)):p:=k ⟨g⟩
theorem E2(g:q)(k:Bq q→p:=by(intro zq;refine VG (VI (uk (u:=[.pointer (some ⟨ob,0,none⟩)]) (v:=[]) Z Z) ?_);exact zq.v)):p:=k ⟨g⟩
theorem E3(g:q)(k:Bq q→p:=by(intro zq;refine VG (VO.load Z Z ((hrd 0 Z).1 _ Z Z) ?_);exact zq.v)):p:=k ⟨g⟩
theorem E4(g:q)(k:Bq q→p:=by(intro zq;refine VG (VT (vs:=cM g) 0 Z Z Z Z (NR _) Z Z Z ?_);exact zq.v)):p:=k ⟨g⟩
theorem r_(g:q)(k:Bq q→p:=by(intro zq;refine VC.kG Z (CX ?_);exact zq.v)):p:=k ⟨g⟩
theorem K9(g:q)(k:Bq q→p:=by(intro zq;refine VO.ah (L':=[av aN 2 none 0 0 [],pt d [.int .i64 0,.slice none 0 0,.int .i64 0] cX,pt b (c.cells a cap) cX]) (aa.cN (aZ [0,0])).ah ?_;exact zq.v)):p:=k ⟨g⟩
theorem E5(k:p:=by exact CR (al.cell 2 Z Z Z (an.many 1 Z Z) (IP 0 Z aa.nil).ah ⟨a',c',Z,Z⟩)):p:=k
theorem K_(g:q)(k:Bq q→p:=by(intro zq;refine VG (VK (Lc:=[]) (fun Fr w hF hs _=>NZ Fr w (hm.of hF hs) yd) Z Z ?_);exact zq.v)):p:=k ⟨g⟩
theorem La(g:q)(k:Bq q→p:=by(intro zq;refine VG (VO.st 0 (cs':=bh { gz R c with whole:=false } y) Z Z Z Z Ma Z Z ?_);exact zq.v)):p:=k ⟨g⟩
theorem E6(g:q)(k:Bq q→p:=by(intro zq;refine VG (VT (vs:=vJ.cells none 0) (cs':=vJ.cells none 0) 0 Z Z Z Z (NR _) Z Z Z ?_);exact zq.v)):p:=k ⟨g⟩
theorem E7(g:q)(k:Bq q→p:=by(intro zq;refine CR (al.cz 6 7 Z Z Z aa.nil.ah ?_);exact zq.v)):p:=k ⟨g⟩
theorem qR(g:q)(k:Bq q→p:=by(intro zq;(repeat(first|refine yG (yN ?_)|refine yG (yD 0 rfl rfl rfl rfl rfl ?_)|refine yG (yD 1 rfl rfl rfl rfl rfl ?_)|refine yG (yD 2 rfl rfl rfl rfl rfl ?_)|refine yG (yD 3 rfl rfl rfl rfl rfl ?_)|refine yG (yD 4 rfl rfl rfl rfl rfl ?_)|refine yG (yD 5 rfl rfl rfl rfl rfl ?_)|refine yG (yD 6 rfl rfl rfl rfl rfl ?_)|refine yG (yD 7 rfl rfl rfl rfl rfl ?_)|refine yG (yU rfl rfl rfl rfl ?_)));exact zq.v)):p:=k ⟨g⟩
theorem Yw(g:q)(k:Bq q→p:=by(intro zq;refine VG (VL 7 (bW f (ma,ms.length,mc)) Z Z Z Z ?_);exact zq.v)):p:=k ⟨g⟩
theorem xq(g:q)(k:Bq q→p:=by(intro zq;refine VO.ah (L':=[bd p R,aT ob []]) shut ?_;exact zq.v)):p:=k ⟨g⟩
theorem oI(k:p:=by exact⟨(),trivial,aF,none_ hT⟩):p:=k
theorem Lb(g:q)(k:Bq q→p:=by(intro zq;refine VG (VV (fun Fr w hF hs hS=>Rep.Aa Fr w (hS.ar 0 Z) (aP.av cj (hS.at_ 1 Z)) ok.ch) Z ?_);exact zq.v)):p:=k ⟨g⟩
theorem g_(g:q)(k:Bq q→p:=by(intro zq;(repeat(first|refine zS ?_|refine zR ?_|refine zB ?_|refine zL ?_|refine zC ?_|refine zG (zN ?_)|refine zG (zE rfl rfl (an.ar h rfl) ?_)|refine zG (zU rfl rfl rfl ?_)));exact zq.v)):p:=k ⟨g⟩
theorem cG(g:q)(k:Bq q→p:=by(intro zq;(repeat(first|refine yG (yN ?_)));exact zq.v)):p:=k ⟨g⟩
theorem Ld(g:q)(k:Bq q→p:=by(intro zq;refine VG (VT (vs:=cL kp) (cs':=cL kp) 0 Z Z Z Z (NR _) Z Z Z ?_);exact zq.v)):p:=k ⟨g⟩
theorem Le(k:p:=by exact CR (al.cJ 2 3 Z Z Z (an.many (ds:=cL kp) 0 Z Z) Z aa.nil.ah ⟨rfl,Z⟩)):p:=k
theorem tx(k:p:=by exact CR (al.tmp 4 Z Z ER ⟨rfl,Z⟩)):p:=k
theorem Lf(g:q)(k:Bq q→p:=by(intro zq;refine VG (VI (Qj i (i+1) l.length Z Z Z Z Z Z Z Z Z Z yd yd hcap) ?_);exact zq.v)):p:=k ⟨g⟩
theorem E8(g:q)(k:Bq q→p:=by(intro zq;refine CD (ts 0 6 (.only 6 (.take 7 .nil))) ym yo ?_;exact zq.v)):p:=k ⟨g⟩
theorem Lh(g:q)(k:Bq q→p:=by(intro zq;refine VG (VI (Ia (l.length-1) l.length Z Z Z Z Z Z Z Z yd hcap yd) ?_);exact zq.v)):p:=k ⟨g⟩
theorem Li(g:q)(k:Bq q→p:=by(intro zq;refine VG (VV (u:=D2 none) (fun Fr w hF hw _=>hr▸Af Fr w s hs) Z ?_);exact zq.v)):p:=k ⟨g⟩
theorem Lj(g:q)(k:Bq q→p:=by(intro zq;refine VG (VV (u:=D2 (some (u,r))) (fun Fr w hF hw _=>hr▸Af Fr w s hs) Z ?_);exact zq.v)):p:=k ⟨g⟩
theorem xr(g:q)(k:Bq q→p:=by(intro zq;refine AG (AI Z (nk Z Z YC) ?_);exact zq.v)):p:=k ⟨g⟩
theorem A6(g:q)(k:Bq q→p:=by(intro zq;refine VG (VI (nk Z Z YD) ?_);exact zq.v)):p:=k ⟨g⟩
theorem E9(g:q)(k:Bq q→p:=by(intro zq;refine VG (VV (fun Fr w hF hw _=>hv▸Oa Fr w r yd) Z ?_);exact zq.v)):p:=k ⟨g⟩
theorem E_(g:q)(k:Bq q→p:=by(intro zq;refine VG (VI (LB (pv:=[]) (bp.cells ⟨0,bT [],bT [],0⟩) Z Z Z ym Z) ?_);exact zq.v)):p:=k ⟨g⟩
theorem E'(g:q)(k:Bq q→p:=by(intro zq;refine VG (VT (vs:=bp.cells ⟨0,bT [],bT [],0⟩) (cs':=bp.cells ⟨0,bT [],bT [],0⟩) 1 Z Z Z Z (NR _) Z Z Z ?_);exact zq.v)):p:=k ⟨g⟩
theorem Lk(g:q)(k:Bq q→p:=by(intro zq;refine VG (VI (LB (pv:=[]) (eG.cells none 0) Z Z Z ym Z) ?_);exact zq.v)):p:=k ⟨g⟩
theorem Ll(g:q)(k:Bq q→p:=by(intro zq;refine VG (VT (vs:=eG.cells none 0) (cs':=eG.cells none 0) 0 Z Z Z Z (NR _) Z Z Z ?_);exact zq.v)):p:=k ⟨g⟩
theorem Fa(g:q)(k:Bq q→p:=by(intro zq;refine VG (VK (Lc:=[]) (fun Fr w hF hw _=>O9 (c:=c) (a:=a) (cap:=cap) Fr w (h.of hF hw) hl) Z Z ?_);exact zq.v)):p:=k ⟨g⟩
theorem Fb(g:q)(k:Bq q→p:=by(intro zq;refine VG (VT (vs:=eG.cells ma mc) (cs':=eG.cells ma mc) 1 Z Z Z Z (NR _) Z Z Z ?_);exact zq.v)):p:=k ⟨g⟩
theorem Yx(g:q)(k:Bq q→p:=by(intro zq;refine VG (VT (vs:=eG.cells none 0) (cs':=eG.cells none 0) 1 Z Z Z Z (NR _) Z Z Z ?_);exact zq.v)):p:=k ⟨g⟩
theorem Fe(g:q)(k:Bq q→p:=by(intro zq;refine VG (VT (vs:=(aW.mk (c.aB+1) c.ms c.drain).cells ma mc) (cs':=(aW.mk (c.aB+1) c.ms c.drain).cells ma mc) 1 Z Z Z Z (NR _) Z Z Z ?_);exact zq.v)):p:=k ⟨g⟩
theorem Lm(g:q)(k:Bq q→p:=by(intro zq;refine VG (VV (fun Fr w hF hw _=>Qe (c:=c) (a:=a) (cap:=cap) Fr w (h.of hF hw) hl n) Z ?_);exact zq.v)):p:=k ⟨g⟩
theorem Ff(g:q)(k:Bq q→p:=by(intro zq;refine VG (VO.load Z Z (an.h_ (ds:=M.ch.cells a c) h QF) ?_);exact zq.v)):p:=k ⟨g⟩
theorem Ln(g:q)(k:Bq q→p:=by(intro zq;refine VG (VK (Lc:=[]) (fun Fr w hF hw _=>Iz Fr w (hm.of hF hw) yd) Z Z ?_);exact zq.v)):p:=k ⟨g⟩
theorem xu(g:q)(k:Bq q→p:=by(intro zq;refine VC.bu 0 Z (aY.aU p M) ?_;exact zq.v)):p:=k ⟨g⟩
theorem xv(g:q)(k:Bq q→p:=by(intro zq;refine VG (VL 0 (M.ch.cells a c) Z Z Z Z ?_);exact zq.v)):p:=k ⟨g⟩
theorem xw(g:q)(k:Bq q→p:=by(intro zq;refine VG (VV (fun Fr w hF hw hS=>IF Fr w ok (hS.ar 0 Z)) Z ?_);exact zq.v)):p:=k ⟨g⟩
theorem Lo(g:q)(k:Bq q→p:=by(intro zq;refine VG (VK (Lc:=[]) (fun Fr w hF hw hS=>Dk Fr w ok (hS.ar 0 Z) (aP.av cj (hS.at_ 1 Z)) from_) Z Z ?_);exact zq.v)):p:=k ⟨g⟩
theorem Lp(k:p:=by exact CR (al.tmp 8 Z Z (DG (a:=a) (c:=c) (R:=[_])).ah (An (x:=(gp M.ch from_,y)) Z Z))):p:=k
theorem u3(k:p:=by exact CR (al.tmp 8 Z Z (pw (a:=a) (c:=c) (R:=[_])).ah (uK Z Z))):p:=k
theorem Fg(g:q)(k:Bq q→p:=by(intro zq;refine AG (AI Z (iu j Z Z Z Z Z hj hj6) ?_);exact zq.v)):p:=k ⟨g⟩
theorem Lq(k:p:=by exact CR (al.tmp 8 Z Z (pw (M:=M.fY from_ now) (a:=a) (c:=c) (R:=[_])).ah (uK Z Z))):p:=k
theorem nK(g:q)(k:Bq q→p:=by(intro zq;(repeat(first|refine yG (yN ?_)|refine yG (yD 0 rfl rfl rfl rfl rfl ?_)|refine yG (yD 1 rfl rfl rfl rfl rfl ?_)|refine yG (yU rfl rfl rfl rfl ?_)));exact zq.v)):p:=k ⟨g⟩
theorem bV(g:q)(k:Bq q→p:=by(intro zq;(repeat(first|refine yG (yN ?_)|refine yG (yU rfl rfl rfl rfl ?_)));exact zq.v)):p:=k ⟨g⟩
theorem Lt(g:q)(k:Bq q→p:=by(intro zq;refine VG (VV (fun Fr w hF hw hS=>IG Fr w ok (hS.ar 0 Z) (aP.av cj (hS.at_ 1 Z)) n) Z ?_);exact zq.v)):p:=k ⟨g⟩
theorem Lu(g:q)(k:Bq q→p:=by(intro zq;refine VG (VV (fun Fr w hF hw hS=>Dn Fr w ok (hS.ar 0 Z) (aP.av cj (hS.at_ 1 Z)) n) Z ?_);exact zq.v)):p:=k ⟨g⟩
theorem A7(g:q)(k:Bq q→p:=by(intro zq;refine VG (VL 0 (c.cells qa qc) Z Z Z Z ?_);exact zq.v)):p:=k ⟨g⟩
theorem Fh(k:p:=by exact CR (al.cz 2 3 Z Z Z aa.nil.ah YE)):p:=k
theorem Fi(g:q)(k:Bq q→p:=by(intro zq;refine VG (VV (fun Fr w hF hw _=>GW Fr w ok (h.of hF hw)) Z ?_);exact zq.v)):p:=k ⟨g⟩
theorem Lv(g:q)(k:Bq q→p:=by(intro zq;refine VG (VO.load (v:=.pointer (some ⟨y.b,0,none⟩)) Z Z (an.ar h (hv _ ho)) ?_);exact zq.v)):p:=k ⟨g⟩
theorem tz(g:q)(k:Bq q→p:=by(intro zq;refine VC.bu 0 Z (aY.dO p S) ?_;exact zq.v)):p:=k ⟨g⟩
theorem A8(g:q)(k:Bq q→p:=by(intro zq;refine CN (L':=[bB p S]) (aa.dO y aa.refl).ah ?_;exact zq.v)):p:=k ⟨g⟩
theorem Fj(g:q)(k:Bq q→p:=by(intro zq;refine VG (VK (Lc:=[bB p S]) (Lr:=[]) (fun Fr w hF hw _=>B5 Fr w ho reason) Z Z ?_);exact zq.v)):p:=k ⟨g⟩
theorem u4(k:p:=by exact CR (al.tmp 6 Z Z ER ⟨X,sa,sc,hX,Z,List.append_nil _⟩)):p:=k
theorem Lw(g:q)(k:Bq q→p:=by(intro zq;refine VG (VO.st 0 (cs':=cP { S with unsure:=true } y) Z Z Z Z Mk Z Z ?_);exact zq.v)):p:=k ⟨g⟩
theorem Fk(g:q)(k:Bq q→p:=by(intro zq;refine VG (VV (fun Fr w hF hw hS=>GW Fr w ok (hS.ar 0 Z)) Z ?_);exact zq.v)):p:=k ⟨g⟩
theorem Fm(g:q)(k:Bq q→p:=by(intro zq;refine VG (VV (fun Fr w hF hw _=>Ob Fr w now) Z ?_);exact zq.v)):p:=k ⟨g⟩
theorem pN(k:p:=by exact CR (al.tmp 6 Z Z (tV (y:=y) (R:=[_])).ah (wY Z Z))):p:=k
theorem A9(k:p:=by exact CR (al.tmp 4 Z Z ER ⟨X,sa,sc,hX,Z,List.append_nil _⟩)):p:=k
theorem A_(k:p:=by exact CR (al.tmp 4 Z Z (tV (y:=y) (R:=[])).ah (wY Z Z))):p:=k
theorem Lx(g:q)(k:Bq q→p:=by(intro zq;refine VG (VK (Lc:=[bB p S]) (Lr:=[]) (fun Fr w hF hw _=>GH Fr w ok tn) Z Z ?_);exact zq.v)):p:=k ⟨g⟩
theorem u5(g:q)(k:Bq q→p:=by(intro zq;refine VG (VP Z Z yp yp ?_);exact zq.v)):p:=k ⟨g⟩
theorem Ly(g:q)(k:Bq q→p:=by(intro zq;refine CN (L':=[bB p (S.begun o cl d)]) (aa.dO (S:=S.begun o cl d) { y with b:=sb } (aZ [0,0,0,0])).ah ?_;exact zq.v)):p:=k ⟨g⟩
theorem Fo(k:p:=by exact CR (al.cz 4 5 Z Z Z aa.nil.ah YF)):p:=k
theorem Ba(k:p:=by exact CR (al.tmp 8 Z Z (fin a cap) ⟨by rw[hE],by rw[bo.tT hE yn]⟩)):p:=k
theorem Lz(g:q)(k:Bq q→p:=by(intro zq;refine VG (VV (fun Fr w hF hw hS=>PT Fr w ok (hS.ar 0 Z) (aP.av qE (hS.at_ 1 Z)) c) Z ?_);exact zq.v)):p:=k ⟨g⟩
theorem LA(k:p:=by exact CR (al.tmp 8 Z Z (fin _ _) ⟨by rw[hE2],by rw[bo.tT hE2 yn]⟩)):p:=k
theorem Bb(k:p:=by exact CR (al.tmp 8 Z Z fin ⟨by rw[g2],by rw[g1]⟩)):p:=k
theorem Yy(g:q)(k:Bq q→p:=by(intro zq;refine VG (VI (LB (pv:=[]) jy Z Z Z ym Z) ?_);exact zq.v)):p:=k ⟨g⟩
theorem Yz(g:q)(k:Bq q→p:=by(intro zq;refine VG (VT (vs:=jy) (cs':=jy) 4 Z Z Z Z (NR _) Z Z Z ?_);exact zq.v)):p:=k ⟨g⟩
theorem u6(k:p:=by exact CR (al.cJ 2 3 Z Z Z (an.many (ds:=jy) 4 Z Z) Z aa.nil.ah YG)):p:=k
theorem Bc(g:q)(k:Bq q→p:=by(intro zq;(repeat(first|refine zS ?_|refine zR ?_|refine zB ?_|refine zL ?_|refine zC ?_|refine zG (zN ?_)|refine zG (zD 0 rfl rfl rfl rfl ?_)|refine zG (zD 1 rfl rfl rfl rfl ?_)|refine zG (zD 2 rfl rfl rfl rfl ?_)|refine zG (zD 3 rfl rfl rfl rfl ?_)));exact zq.v)):p:=k ⟨g⟩
theorem LC(g:q)(k:Bq q→p:=by(intro zq;refine VG (VL 0 ((aW.mk k1 ms dr).cells (some ⟨mb,0,none⟩) k) Z Z Z Z ?_);exact zq.v)):p:=k ⟨g⟩
theorem LD(g:q)(k:Bq q→p:=by(intro zq;refine VG (VT (vs:=Ag f.res) (cs':=Ag f.res) 0 Z Z Z Z (NR _) Z Z Z ?_);exact zq.v)):p:=k ⟨g⟩
theorem LF(g:q)(k:Bq q→p:=by(intro zq;refine VG (VT (vs:=yW f.entry) (cs':=yW f.entry) 0 Z Z Z Z (NR _) Z Z Z ?_);exact zq.v)):p:=k ⟨g⟩
theorem xx(k:p:=by exact⟨(),trivial,aF,aa.nil.ah⟩):p:=k
theorem Fp(k:p:=by exact⟨(10,[],true,[]),ju.bad Z n10,aF,aa.nil.ah⟩):p:=k
theorem xy(g:q)(k:Bq q→p:=by(intro zq;refine VG (VI (LB (pv:=[]) (aA.zero.cells dx) Z Z Z ym Z) ?_);exact zq.v)):p:=k ⟨g⟩
theorem Fq(g:q)(k:Bq q→p:=by(intro zq;refine VG (VT (vs:=aA.zero.cells dx) (cs':=aA.zero.cells dx) 0 Z Z Z Z (NR _) Z Z Z ?_);exact zq.v)):p:=k ⟨g⟩
theorem LG(g:q)(k:Bq q→p:=by(intro zq;refine VG (VT (vs:=aA.zero.cells dx) (cs':=aA.zero.cells dx) 1 Z Z Z Z (NR _) Z Z Z ?_);exact zq.v)):p:=k ⟨g⟩
theorem LH(k:p:=by exact CR (al.cJ 2 3 Z Z Z (an.many (ds:=aA.zero.cells dx) 1 Z Z) Z aa.nil.ah FP)):p:=k
theorem Fs(g:q)(k:Bq q→p:=by(intro zq;refine VG (VL 0 (f.cells (ma,ms.length,mc)) Z Z Z Z ?_);exact zq.v)):p:=k ⟨g⟩
theorem Ft(g:q)(k:Bq q→p:=by(intro zq;refine CN (L':=pt p (lx S b) sR::eI eT gD b X::X.map gC) (aa.of_eq (List.append_nil _)).ah ?_;exact zq.v)):p:=k ⟨g⟩
theorem Fu(g:q)(k:Bq q→p:=by(intro zq;refine VG (VI (LB (pv:=[(0,.int .i64 x),(1,.int .i64 y)]) [.int .i64 x,.int .i64 y] Z Z Z ym Z) ?_);exact zq.v)):p:=k ⟨g⟩
theorem LJ(g:q)(k:Bq q→p:=by(intro zq;refine VG (VT (vs:=[.int .i64 x,.int .i64 y]) (cs':=[.int .i64 x,.int .i64 y]) 0 Z Z Z Z (NR _) Z Z Z ?_);exact zq.v)):p:=k ⟨g⟩
theorem xz(k:p:=by exact CR (al.tmp 4 Z Z fin ⟨by rw[hE],by rw[SG hE yn]⟩)):p:=k
theorem xA(g:q)(k:Bq q→p:=by(intro zq;refine AG (VA.cK 1 [.int .i64 x,.int .i64 y] Z Z Z Z Z ?_);exact zq.v)):p:=k ⟨g⟩
theorem Fv(g:q)(k:Bq q→p:=by(intro zq;refine VG (VV (fun Fr w hF hw _=>Ie Fr w (h.of hF hw)) Z ?_);exact zq.v)):p:=k ⟨g⟩
theorem Fw(g:q)(k:Bq q→p:=by(intro zq;refine VG (VI (LB (pv:=[]) (dP 0 0 ⟨#[]⟩) Z Z Z ym Z) ?_);exact zq.v)):p:=k ⟨g⟩
theorem u7(g:q)(k:Bq q→p:=by(intro zq;refine VG (VT (vs:=dP 0 0 ⟨#[]⟩) (cs':=dP 0 0 ⟨#[]⟩) 0 Z Z Z Z (NR _) Z Z Z ?_);exact zq.v)):p:=k ⟨g⟩
theorem Fx(g:q)(k:Bq q→p:=by(intro zq;refine VG (VT (vs:=dP x y t) (cs':=dP x y t) 0 Z Z Z Z (NR _) Z Z Z ?_);exact zq.v)):p:=k ⟨g⟩
theorem LK(g:q)(k:Bq q→p:=by(intro zq;refine VG (VO.ot (aG.Sb (es:=es) (clock:=clock) eT gD Tryz.underlying140 Z (fun w hw=>(hw.bL.block b hm.fr).trans g1)) ?_);exact zq.v)):p:=k ⟨g⟩
theorem LL(g:q)(k:Bq q→p:=by(intro zq;refine VG (VO.ot (aG.dK 0 Z Z (fun w hw=>(hw.bL.block b hm.fr).trans g1) hz hJ) ?_);exact zq.v)):p:=k ⟨g⟩
theorem LM(g:q)(k:Bq q→p:=by(intro zq;refine VG (VO.rU (aG.OI 0 (J:=J) (z:=z) Z Z (fun w hw=>(hw.bL.block b hm.fr).trans g1) hz z2) ?_);exact zq.v)):p:=k ⟨g⟩
theorem LN(g:q)(k:Bq q→p:=by(intro zq;refine VG (VT (vs:=[.int .i64 z.2.1.1,.int .i64 z.2.1.2]) (cs':=[.int .i64 z.2.1.1,.int .i64 z.2.1.2]) 0 Z Z Z Z (NR _) Z Z Z ?_);exact zq.v)):p:=k ⟨g⟩
theorem LO(k:p:=by exact⟨k+1,by omega,by dsimp only;omega,SC Z (SC Z (SC Z (SC Z (Sub.int Z yd (SN _))))),by dsimp only;rw[←h1];exact(IP 1 Z aa.nil).ah⟩):p:=k
theorem LP(k:p:=by exact⟨[oy H a c X],⟨_,Z,X,a,c,e,Z,Z⟩,aa.sep (aa.cons (aa.sep (aa.of_eq (List.append_nil _).symm)))⟩):p:=k
theorem LQ(k:p:=by exact CR (al.tmp 4 Z Z (aa.tail.trans (mY (R:=[]) fit)).ah ⟨by rw[hr],by rw[hr]⟩)):p:=k
theorem Bd(g:q)(k:Bq q→p:=by(intro zq;refine VC.bu 0 Z (aY.rk p C) ?_;exact zq.v)):p:=k ⟨g⟩
theorem Fy(g:q)(k:Bq q→p:=by(intro zq;refine CN (L':=eH p C y) (aa.of_eq (List.append_nil _)).ah ?_;exact zq.v)):p:=k ⟨g⟩
theorem LR(g:q)(k:Bq q→p:=by(intro zq;refine VG (VV (fun Fr w hF hw hS=>XY Fr w fitd (hS.ar 2 Z) (hS.ar 5 Z) (hS.ar 6 Z) ht0 ht1) Z ?_);exact zq.v)):p:=k ⟨g⟩
theorem Fz(g:q)(k:Bq q→p:=by(intro zq;refine VG (VI (H7 true Tryz.underlying376 Z (.inr ⟨_,_,_,Z,Z⟩)) ?_);exact zq.v)):p:=k ⟨g⟩
theorem FA(g:q)(k:Bq q→p:=by(intro zq;refine CD (ts 0 11 (.only 11 (.only 12 .nil))) ym yo ?_;exact zq.v)):p:=k ⟨g⟩
theorem FB(g:q)(k:Bq q→p:=by(intro zq;refine AG (VA.cK 0 (f.cells (ma,ms.length,mc)) Z Z Z Z Z ?_);exact zq.v)):p:=k ⟨g⟩
theorem LS(k:p:=by exact⟨k+1,by omega,by dsimp only;omega,SC Z (SC Z (SC Z (Sub.int Z yd (SN _)))),by dsimp only;rw[hsu,e1];exact(aa.tail (H:=pt ob _ _)).ah⟩):p:=k
theorem LU(g:q)(k:Bq q→p:=by(intro zq;refine VG (VV (fun Fr w hF hw hS=>Ex Fr w fit (hS.ar 1 Z) (hS.ar 4 Z) s.a) Z ?_);exact zq.v)):p:=k ⟨g⟩
theorem LV(k:p:=by exact CR (al.tmp 4 Z Z (aa.trans (aa.tail (H:=pt sb _ gO)) (mY (p:=p) (C:=C) (R:=[]) fit)).ah ⟨by rw[hr],by rw[hr]⟩)):p:=k
theorem FC(g:q)(k:Bq q→p:=by(intro zq;refine CN (L':=pt sb s.cells gO::bQ y.mp C.aU::rn p C y C.aQ) (aa.cons Dj).ah ?_;exact zq.v)):p:=k ⟨g⟩
theorem Be(g:q)(k:Bq q→p:=by(intro zq;refine CD (ts 0 10 (.only 10 (ts 11 1 .nil))) ym yo ?_;exact zq.v)):p:=k ⟨g⟩
theorem LW(g:q)(k:Bq q→p:=by(intro zq;refine VG (VQ 6 Z (fun Fr w hF hs hS=>nF Fr w (hS.ar 2 Z) ok.aQ 16 (kB.at_ 1 hS Z hX fw)) Z (ψ:=fun v H=>v=.tuple #[]∧H=cu y.lp (cw 16 C.aQ (X.map Prod.fst))) yz ?_);exact zq.v)):p:=k ⟨g⟩
theorem FD(g:q)(k:Bq q→p:=by(intro zq;refine VG (VV (fun Fr w hF hs _=>J' Fr w (hb.of hF hs)) Z ?_);exact zq.v)):p:=k ⟨g⟩
theorem Bf(g:q)(k:Bq q→p:=by(intro zq;(repeat(first|refine yG (yN ?_)|refine yG (yD 0 rfl rfl rfl rfl rfl ?_)|refine yG (yD 1 rfl rfl rfl rfl rfl ?_)|refine yG (yD 2 rfl rfl rfl rfl rfl ?_)|refine yG (yU rfl rfl rfl rfl ?_)));exact zq.v)):p:=k ⟨g⟩
theorem LX(g:q)(k:Bq q→p:=by(intro zq;refine AG (AI Z (dU 0 Z Z Z Z Z Z (Nat.zero_lt_succ _)) ?_);exact zq.v)):p:=k ⟨g⟩
theorem Bg(g:q)(k:Bq q→p:=by(intro zq;refine AG (AI Z (iu 0 Z Z Z Z Z Z yn) ?_);exact zq.v)):p:=k ⟨g⟩
theorem Bh(g:q)(k:Bq q→p:=by(intro zq;refine AG (AI Z (iu 1 Z Z Z Z Z Z yn) ?_);exact zq.v)):p:=k ⟨g⟩
theorem FE(g:q)(k:Bq q→p:=by(intro zq;refine AG (AI Z (dU (j+1) Z Z Z Z Z Z yd) ?_);exact zq.v)):p:=k ⟨g⟩
theorem FF(g:q)(k:Bq q→p:=by(intro zq;refine AG (AI Z (dU j Z Z Z Z Z Z yd) ?_);exact zq.v)):p:=k ⟨g⟩
theorem Bi(g:q)(k:Bq q→p:=by(intro zq;refine AG (VA.load Z Z Z (an.ar hd hD) ?_);exact zq.v)):p:=k ⟨g⟩
theorem Bj(g:q)(k:Bq q→p:=by(intro zq;refine AG (VA.load Z Z Z (r1 _) ?_);exact zq.v)):p:=k ⟨g⟩
theorem Bk(k:p:=by exact CR (al.tmp 4 Z Z (IP 1 Z aa.nil).ah ⟨rfl,Z⟩)):p:=k
theorem Bl(g:q)(k:Bq q→p:=by(intro zq;refine AG (AO (OC (Lc:=[]) (vals:=[.int .i64 1]) rfl (List.Perm.refl _) (fun Fr w hF hw hS=>wi Fr w 1 yd yd (hg.st hF hw))) rfl (fun v L' h=>by obtain⟨_,⟨rfl,rfl⟩,rfl⟩:=h;exact gx) ?_);exact zq.v)):p:=k ⟨g⟩
theorem YA(g:q)(k:Bq q→p:=by(intro zq;refine VG (VO.iY (fun Fr w=>uS Fr w _ _ _) Z ?_);exact zq.v)):p:=k ⟨g⟩
theorem YB(g:q)(k:Bq q→p:=by(intro zq;refine VG (VY 73 false Z Z ?_);exact zq.v)):p:=k ⟨g⟩
theorem LY(g:q)(k:Bq q→p:=by(intro zq;refine VG (VY 78 false Z Z ?_);exact zq.v)):p:=k ⟨g⟩
theorem Bm(g:q)(k:Bq q→p:=by(intro zq;refine VG (VV (fun Fr w hF hw _=>Yl Fr w (hg.st hF hw)) Z ?_);exact zq.v)):p:=k ⟨g⟩
theorem LZ(g:q)(k:Bq q→p:=by(intro zq;refine VG (VV (fun Fr w hF hs _=>Sc Fr w c ca cc (lS hq hF hs) yd) Z ?_);exact zq.v)):p:=k ⟨g⟩
theorem tA(k:p:=by exact one _ e (Option.some.inj h).symm):p:=k
theorem qT(g:q)(k:Bq q→p:=by(intro zq;refine iQ ?_;refine ae ?_;exact zq.v)):p:=k ⟨g⟩
theorem pQ(g:q)(k:Bq q→p:=by(intro zq;refine nH ?_;refine ae ?_;exact zq.v)):p:=k ⟨g⟩
theorem va(g:q)(k:Bq q→p:=by(intro zq;refine au ?_;refine l_ ?_;exact zq.v)):p:=k ⟨g⟩
theorem iD(g:q)(k:Bq q→p:=by(intro zq;refine aj ?_;refine iQ ?_;exact zq.v)):p:=k ⟨g⟩
theorem fx(g:q)(k:Bq q→p:=by(intro zq;refine ae ?_;refine pQ ?_;exact zq.v)):p:=k ⟨g⟩
theorem vb(g:q)(k:Bq q→p:=by(intro zq;refine aj ?_;refine nH ?_;exact zq.v)):p:=k ⟨g⟩
theorem gG(g:q)(k:Bq q→p:=by(intro zq;refine vb ?_;refine aj ?_;exact zq.v)):p:=k ⟨g⟩
theorem BA(g:q)(k:Bq q→p:=by(intro zq;refine l_ ?_;refine aj ?_;exact zq.v)):p:=k ⟨g⟩
theorem iR(g:q)(k:Bq q→p:=by(intro zq;refine ae ?_;refine qT ?_;exact zq.v)):p:=k ⟨g⟩
theorem iS(g:q)(k:Bq q→p:=by(intro zq;refine va ?_;refine au ?_;exact zq.v)):p:=k ⟨g⟩
theorem tC(g:q)(k:Bq q→p:=by(intro zq;refine ae ?_;refine l_ ?_;exact zq.v)):p:=k ⟨g⟩
theorem mf(g:q)(k:Bq q→p:=by(intro zq;refine au ?_;refine iQ ?_;exact zq.v)):p:=k ⟨g⟩
theorem mg(g:q)(k:Bq q→p:=by(intro zq;refine cG ?_;refine ae ?_;exact zq.v)):p:=k ⟨g⟩
theorem nM(g:q)(k:Bq q→p:=by(intro zq;refine ae ?_;refine xl ?_;exact zq.v)):p:=k ⟨g⟩
theorem nN(g:q)(k:Bq q→p:=by(intro zq;refine aj ?_;refine YA ?_;exact zq.v)):p:=k ⟨g⟩
theorem oK(g:q)(k:Bq q→p:=by(intro zq;refine tC ?_;refine ae ?_;exact zq.v)):p:=k ⟨g⟩
theorem qU(g:q)(k:Bq q→p:=by(intro zq;refine jr ?_;refine CS (CG ?_);exact zq.v)):p:=k ⟨g⟩
theorem pR(g:q)(k:Bq q→p:=by(intro zq;refine ae ?_;refine iQ ?_;exact zq.v)):p:=k ⟨g⟩
theorem pS(g:q)(k:Bq q→p:=by(intro zq;refine bF ?_;refine BA ?_;exact zq.v)):p:=k ⟨g⟩
theorem pT(g:q)(k:Bq q→p:=by(intro zq;refine iD ?_;refine aj ?_;exact zq.v)):p:=k ⟨g⟩
theorem pU(g:q)(k:Bq q→p:=by(intro zq;refine aj ?_;refine BA ?_;exact zq.v)):p:=k ⟨g⟩
theorem YH(g:q)(k:Bq q→p:=by(intro zq;refine KQ ?_;refine KR ?_;exact zq.v)):p:=k ⟨g⟩
theorem BB(g:q)(k:Bq q→p:=by(intro zq;refine nJ ?_;refine dF ?_;exact zq.v)):p:=k ⟨g⟩
theorem YI(g:q)(k:Bq q→p:=by(intro zq;refine bg ?_;refine Yv ?_;exact zq.v)):p:=k ⟨g⟩
theorem MC(g:q)(k:Bq q→p:=by(intro zq;refine YI ?_;refine bg ?_;exact zq.v)):p:=k ⟨g⟩
theorem pW(g:q)(k:Bq q→p:=by(intro zq;refine va ?_;refine ae ?_;exact zq.v)):p:=k ⟨g⟩
theorem qV(g:q)(k:Bq q→p:=by(intro zq;refine bF ?_;refine iQ ?_;exact zq.v)):p:=k ⟨g⟩
theorem MD(g:q)(k:Bq q→p:=by(intro zq;refine Yr ?_;refine KN ?_;exact zq.v)):p:=k ⟨g⟩
theorem MF(g:q)(k:Bq q→p:=by(intro zq;refine nJ ?_;refine bg ?_;exact zq.v)):p:=k ⟨g⟩
theorem YJ(g:q)(k:Bq q→p:=by(intro zq;refine K0 ?_;refine K1 ?_;exact zq.v)):p:=k ⟨g⟩
theorem qW(g:q)(k:Bq q→p:=by(intro zq;refine YJ ?_;refine MC ?_;exact zq.v)):p:=k ⟨g⟩
theorem qX(g:q)(k:Bq q→p:=by(intro zq;refine au ?_;refine Lk ?_;exact zq.v)):p:=k ⟨g⟩
theorem pX(k:p:=by(refine YH ?_;exact KS)):p:=k
theorem sf(g:q)(k:Bq q→p:=by(intro zq;refine aj ?_;refine KD ?_;exact zq.v)):p:=k ⟨g⟩
theorem sg(g:q)(k:Bq q→p:=by(intro zq;refine aj ?_;refine EG ?_;exact zq.v)):p:=k ⟨g⟩
theorem sh(g:q)(k:Bq q→p:=by(intro zq;refine bg ?_;refine aj ?_;exact zq.v)):p:=k ⟨g⟩
theorem MG(g:q)(k:Bq q→p:=by(intro zq;refine EV ?_;refine MD ?_;exact zq.v)):p:=k ⟨g⟩
theorem YK(g:q)(k:Bq q→p:=by(intro zq;refine nJ ?_;refine Yu ?_;exact zq.v)):p:=k ⟨g⟩
theorem MH(g:q)(k:Bq q→p:=by(intro zq;refine YK ?_;refine MF ?_;exact zq.v)):p:=k ⟨g⟩
theorem si(g:q)(k:Bq q→p:=by(intro zq;refine au ?_;refine qT ?_;exact zq.v)):p:=k ⟨g⟩
theorem MI(g:q)(k:Bq q→p:=by(intro zq;refine Yq ?_;refine MG ?_;exact zq.v)):p:=k ⟨g⟩
theorem MJ(g:q)(k:Bq q→p:=by(intro zq;refine Yt ?_;refine MH ?_;exact zq.v)):p:=k ⟨g⟩
theorem tD(g:q)(k:Bq q→p:=by(intro zq;refine dF ?_;refine BB ?_;exact zq.v)):p:=k ⟨g⟩
theorem BC(k:p:=by(refine bg ?_;exact⟨rb,trivial,aF,ER⟩)):p:=k
theorem tE(g:q)(k:Bq q→p:=by(intro zq;refine aj ?_;refine Yw ?_;exact zq.v)):p:=k ⟨g⟩
theorem tF(g:q)(k:Bq q→p:=by(intro zq;refine Yx ?_;refine au ?_;exact zq.v)):p:=k ⟨g⟩
theorem tG(g:q)(k:Bq q→p:=by(intro zq;refine bV ?_;refine ae ?_;exact zq.v)):p:=k ⟨g⟩
theorem BD(g:q)(k:Bq q→p:=by(intro zq;refine AG (AY 29 false Z Z ?_);refine KU ?_;exact zq.v)):p:=k ⟨g⟩
theorem BE(g:q)(k:Bq q→p:=by(intro zq;refine ae ?_;refine VG (VO.ld 0 Z Z Z Z ?_);exact zq.v)):p:=k ⟨g⟩
theorem BF(g:q)(k:Bq q→p:=by(intro zq;refine VG (VY 63 false Z Z ?_);refine EV ?_;exact zq.v)):p:=k ⟨g⟩
theorem BG(g:q)(k:Bq q→p:=by(intro zq;refine au ?_;refine VG (VY 5 true Z Z ?_);exact zq.v)):p:=k ⟨g⟩
theorem FR(g:q)(k:Bq q→p:=by(intro zq;refine au ?_;refine VG (VL 2 (c.cells a cap) Z Z Z Z ?_);exact zq.v)):p:=k ⟨g⟩
theorem vc(g:q)(k:Bq q→p:=by(intro zq;refine aj ?_;refine KF ?_;exact zq.v)):p:=k ⟨g⟩
theorem ve(g:q)(k:Bq q→p:=by(intro zq;refine EU ?_;refine MI ?_;exact zq.v)):p:=k ⟨g⟩
theorem vf(g:q)(k:Bq q→p:=by(intro zq;refine Ys ?_;refine MJ ?_;exact zq.v)):p:=k ⟨g⟩
theorem vg(g:q)(k:Bq q→p:=by(intro zq;refine l_ ?_;refine ae ?_;exact zq.v)):p:=k ⟨g⟩
theorem vh(g:q)(k:Bq q→p:=by(intro zq;refine bV ?_;refine qT ?_;exact zq.v)):p:=k ⟨g⟩
theorem YL(g:q)(k:Bq q→p:=by(intro zq;refine Yy ?_;refine Yz ?_;exact zq.v)):p:=k ⟨g⟩
theorem vi(g:q)(k:Bq q→p:=by(intro zq;refine YL ?_;refine ae ?_;exact zq.v)):p:=k ⟨g⟩
theorem vj(g:q)(k:Bq q→p:=by(intro zq;refine dF ?_;refine LX ?_;exact zq.v)):p:=k ⟨g⟩
theorem vk(g:q)(k:Bq q→p:=by(intro zq;refine YB ?_;refine LY ?_;exact zq.v)):p:=k ⟨g⟩
theorem FT(k:p:=by(refine aj ?_;exact CR (al.tmp 2 Z Z ER ⟨q,Z,Z⟩))):p:=k
theorem BH(g:q)(k:Bq q→p:=by(intro zq;refine ae ?_;refine VC.lf Z (CK ?_);exact zq.v)):p:=k ⟨g⟩
theorem vl(g:q)(k:Bq q→p:=by(intro zq;refine CK ?_;refine aj ?_;exact zq.v)):p:=k ⟨g⟩
theorem FU(g:q)(k:Bq q→p:=by(intro zq;refine VG (VI (uk Z Z) ?_);refine au ?_;exact zq.v)):p:=k ⟨g⟩
theorem FV(g:q)(k:Bq q→p:=by(intro zq;refine aj ?_;refine VG (VL 0 (cM row) Z Z Z Z ?_);exact zq.v)):p:=k ⟨g⟩
end Go.Proofs.YtbmakdofbejlnaaGreatDoor
