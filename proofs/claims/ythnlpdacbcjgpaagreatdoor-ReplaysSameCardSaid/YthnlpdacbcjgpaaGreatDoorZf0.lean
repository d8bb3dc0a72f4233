/- Abbreviations of tactics. No condition. -/
import Derived.OrdersHeld
import Derived.OrdersIn
import Derived.TacticsIn
import Derived.Sort.LoopGhostIn
import Derived.Deep.MidRow
import Derived.Laws.AppendOwn
import Derived.Below
import Derived.WalkKit
import Derived.Scope
import Derived.MapKept
import Derived.Laws.StructEq
import Derived.Laws.BitsAllLaws
import Derived.Test.YthnlpdacbcjgpaaGreatDoorRows
import Derived.KernelRfl
import Derived.Shelf.Strings.Builder1
import Derived.Shelf.Small.Strs
import Derived.Shelf.Strings.BuilderF
import Derived.Shelf.Strings.BuilderK
import Derived.Shelf.Strconv.Atoi
import Derived.Shelf.Strconv.Itoa0
import Derived.Shelf.Strconv.Itoa1
import Derived.Shelf.LaysM
import Derived.Shelf.Strconv.Itoa2
import Derived.Shelf.Strconv.Itoa3
import Derived.Shelf.Strconv.AtoiErrFast
import Derived.Shelf.Strconv.ParseIntEmpty
import Derived.Shelf.Strconv.AtoiFail
import Derived.Shelf.Strconv.Clone
import Derived.Shelf.Strconv.SyntaxError
import Derived.Shelf.LaysC
import Derived.Shelf.Strconv.ToError
import Derived.Shelf.Strconv.Lower
import Derived.Shelf.Strconv.ParseUint10
import Derived.Shelf.Strconv.ParseUint10Empty
import Derived.Shelf.Strconv.ParseUint10Any
import Derived.Shelf.Strconv.ParseInt10
import Derived.Shelf.Strconv.AtoiLong
import Derived.Shelf.Strconv.AtoiInnerAll
import Derived.Shelf.Strconv.RangeError
import Derived.Shelf.Strconv.ToErrorRange
import Derived.Shelf.Strconv.AtoiAll
import Derived.Shelf.Strconv.ErrVarAll
import Derived.Shelf.Strings.Search1
import Derived.Shelf.Strings.Search2
import Derived.Shelf.Strings.Search3
import Derived.Shelf.Strings.Cut
import Derived.Shelf.Strings.Count
import Derived.Shelf.Strings.Shaped
import Derived.Shelf.Strings.Split
import Derived.Shelf.Strings.SplitShaped
import Derived.Shelf.Unicode.DecodeSlow
import Derived.Test.YthnlpdacbcjgpaaGreatDoorProg
import Derived.Shelf.SlGeneric
import Derived.Shelf.SlMaps.Clone
import Derived.Laws.LoneSync
import Derived.Lib.Builder
import Derived.Lib.ItoaMem
import Derived.Lib.LaidTab
import Derived.Lib.Join
import Derived.Lib.OthersKept
import Derived.Lib.UnsafeStr
import Derived.Lib.ItoaLen
import Derived.Lib.AtoiAllCases
import Derived.RangeFuncRecord
import Derived.Tactics
import Derived.Tactics2
import Derived.Defers
import Derived.Laws.Pointers
import Derived.RegionTactic
import Derived.RegionCalls
import Derived.Maps.RangeRun
import Derived.ProofKit
import Derived.OpenShut
import Derived.SizedLaws
import Derived.Carry
import Derived.Deep.Strs
import Derived.Deep.Slices
import Derived.LaidMore
import Derived.MakeChecks
import Derived.Stop.Joined
import Derived.Test.YthnlpdacbcjgpaaGreatDoorCards
import Derived.Test.YthnlpdacbcjgpaaGreatDoorTie
import Derived.Lay
import Derived.SevenTiedAt
namespace Go.Proofs.YthnlpdacbcjgpaaGreatDoor
theorem Zh:type_of% @List.length_append:=@List.length_append
theorem Zi:type_of% @List.append_nil:=@List.append_nil
theorem Zj:type_of% @Nat.zero_le:=@Nat.zero_le
theorem Zk:type_of% @List.getElem?_eq_some_iff:=@List.getElem?_eq_some_iff
theorem Zl:type_of% @Nat.zero_add:=@Nat.zero_add
theorem Zm:type_of% @List.length_map:=@List.length_map
theorem Zn:type_of% @List.getElem?_map:=@List.getElem?_map
theorem Zo:type_of% @Nat.le_of_ble_eq_true:=@Nat.le_of_ble_eq_true
theorem Zp:type_of% @Int.toNat_natCast:=@Int.toNat_natCast
theorem Zq:type_of% @List.mem_append:=@List.mem_append
theorem Zr:type_of% @List.append_assoc:=@List.append_assoc
theorem Zs:type_of% @List.length_cons:=@List.length_cons
theorem Zt:type_of% @List.mem_cons:=@List.mem_cons
theorem Zu:type_of% @List.take_add_one:=@List.take_add_one
theorem Zv:type_of% @List.mem_map:=@List.mem_map
theorem Zw:type_of% @List.length_take:=@List.length_take
theorem Zx:type_of% @Bool.and_eq_true:=@Bool.and_eq_true
theorem Zy:type_of% @Option.some.inj:=@Option.some.inj
theorem Zz:type_of% @Int.le_refl:=@Int.le_refl
theorem ZA:type_of% @List.mem_filter:=@List.mem_filter
theorem ZB:type_of% @List.length_set:=@List.length_set
theorem ZC:type_of% @List.mem_singleton:=@List.mem_singleton
theorem ZD:type_of% @List.nodup_append:=@List.nodup_append
theorem ZE:type_of% @List.map_set:=@List.map_set
theorem ZF:type_of% @List.take_length:=@List.take_length
theorem ZG:type_of% @List.getElem?_set_self:=@List.getElem?_set_self
theorem ZH:type_of% @List.eq_nil_of_length_eq_zero:=@List.eq_nil_of_length_eq_zero
theorem ZI:type_of% @List.nil_append:=@List.nil_append
theorem ZJ:type_of% @Option.bind_some:=@Option.bind_some
theorem ZK:type_of% @List.mem_cons_of_mem:=@List.mem_cons_of_mem
theorem ZL:type_of% @List.map_append:=@List.map_append
theorem ZM:type_of% @List.perm_append_comm:=@List.perm_append_comm
theorem ZN:type_of% @List.getElem?_set_ne:=@List.getElem?_set_ne
theorem ZO:type_of% @List.not_mem_nil:=@List.not_mem_nil
theorem ZP:type_of% @Array.toList_inj:=@Array.toList_inj
theorem ZQ:type_of% @Nat.le_trans:=@Nat.le_trans
theorem ZR:type_of% @List.all_eq_true:=@List.all_eq_true
theorem ZS:type_of% @Option.map_some:=@Option.map_some
theorem ZT:type_of% @List.mem_or_eq_of_mem_set:=@List.mem_or_eq_of_mem_set
theorem ZU:type_of% @Bool.and_false:=@Bool.and_false
theorem ZV:type_of% @Nat.zero_lt_one:=@Nat.zero_lt_one
theorem ZW:type_of% @Nat.eq_of_beq_eq_true:=@Nat.eq_of_beq_eq_true
theorem ZX:type_of% @List.map_cons:=@List.map_cons
theorem ZY:type_of% @Bool.false_and:=@Bool.false_and
theorem ZZ:type_of% @Array.getElem?_eq_some_iff:=@Array.getElem?_eq_some_iff
theorem Z0:type_of% @List.take_zero:=@List.take_zero
theorem Z1:type_of% @List.length_filter_le:=@List.length_filter_le
theorem Z2:type_of% @List.cons_append:=@List.cons_append
theorem Z3:type_of% @List.take_of_length_le:=@List.take_of_length_le
theorem Z4:type_of% @List.getElem?_eq_none:=@List.getElem?_eq_none
theorem Z5:type_of% @Bool.false_ne_true:=@Bool.false_ne_true
theorem Z6:type_of% @Nat.add_mul:=@Nat.add_mul
theorem Z7:type_of% @List.length_drop:=@List.length_drop
theorem Z8:type_of% @List.ext_getElem?:=@List.ext_getElem?
theorem Z9:type_of% @List.mem_of_mem_tail:=@List.mem_of_mem_tail
theorem Z_:type_of% @List.mem_cons_self:=@List.mem_cons_self
theorem Z':type_of% @List.getElem?_cons_succ:=@List.getElem?_cons_succ
theorem Z{α:Sort _}{a:α}:a=a:=rfl
structure Bq(q:Prop):Prop where
 v:q
variable {p q:Prop}
theorem DF:type_of% @decide_eq_false:=@decide_eq_false
theorem DT:type_of% @decide_eq_true:=@decide_eq_true
theorem GE:type_of% @List.getElem?_eq_getElem:=@List.getElem?_eq_getElem
theorem NR:type_of% @Nat.le_refl:=@Nat.le_refl
theorem ME:type_of% @List.mem_of_getElem?:=@List.mem_of_getElem?
theorem yv(k:p:=by(try refine Pd.st ?_);(repeat(first|exact Pd.nil|exact Pd.fnil|refine Pd.inner ?_|refine Pd.skip (by decide +kernel) ?_|refine zf (zo 0 Z Z) ?_|refine zf (zo 1 Z Z) ?_|refine zf (zo 2 Z Z) ?_|refine zf (zo 3 Z Z) ?_|refine zf (zo 4 Z Z) ?_|refine zf (zo 5 Z Z) ?_|refine zf (zo 6 Z Z) ?_|refine zf (zo 7 Z Z) ?_|refine zf (zo 8 Z Z) ?_|refine zf (zm 0 Z Z) ?_|refine zf (zm 1 Z Z) ?_|refine zf (zm 2 Z Z) ?_|refine zf (zm 3 Z Z) ?_|refine zf (zm 4 Z Z) ?_|refine zf (zm 5 Z Z) ?_|refine zf (zm 6 Z Z) ?_|refine zf (zm 7 Z Z) ?_|refine zf (zm 8 Z Z) ?_|refine zc (zo 0 Z Z) ?_|refine zc (zo 1 Z Z) ?_|refine zc (zo 2 Z Z) ?_|refine zc (zo 3 Z Z) ?_|refine zc (zo 4 Z Z) ?_|refine zc (zo 5 Z Z) ?_|refine zc (zo 6 Z Z) ?_|refine zc (zo 7 Z Z) ?_|refine zc (zo 8 Z Z) ?_|refine zc (zm 0 Z Z) ?_|refine zc (zm 1 Z Z) ?_|refine zc (zm 2 Z Z) ?_|refine zc (zm 3 Z Z) ?_|refine zc (zm 4 Z Z) ?_|refine zc (zm 5 Z Z) ?_|refine zc (zm 6 Z Z) ?_|refine zc (zm 7 Z Z) ?_|refine zc (zm 8 Z Z) ?_|refine Pd.mS (pJ.one 0 Z) ?_|refine Pd.mS (pJ.one 1 Z) ?_|refine Pd.mS (pJ.one 2 Z) ?_|refine Pd.mS (pJ.one 3 Z) ?_|refine Pd.mS (pJ.one 4 Z) ?_|refine Pd.mS (pJ.one 5 Z) ?_|refine Pd.mS (pJ.one 6 Z) ?_|refine Pd.mS (pJ.one 7 Z) ?_|refine Pd.mS (pJ.one 8 Z) ?_|refine Pd.consM (pJ.one 0 Z) ?_|refine Pd.consM (pJ.one 1 Z) ?_|refine Pd.consM (pJ.one 2 Z) ?_|refine Pd.consM (pJ.one 3 Z) ?_|refine Pd.consM (pJ.one 4 Z) ?_|refine Pd.consM (pJ.one 5 Z) ?_|refine Pd.consM (pJ.one 6 Z) ?_|refine Pd.consM (pJ.one 7 Z) ?_|refine Pd.consM (pJ.one 8 Z) ?_))):p:=k
theorem Dg(k:p:=by(try refine Pd.st ?_);(repeat(first|exact Pd.nil|exact Pd.fnil|refine Pd.inner ?_|refine Pd.skip (by decide +kernel) ?_|refine zf (zo 0 rfl rfl) ?_|refine zf (zo 1 rfl rfl) ?_|refine zf (zo 2 rfl rfl) ?_|refine zf (zo 3 rfl rfl) ?_|refine zf (zo 4 rfl rfl) ?_|refine zf (zo 5 rfl rfl) ?_|refine zf (zo 6 rfl rfl) ?_|refine zf (zo 7 rfl rfl) ?_|refine zf (zo 8 rfl rfl) ?_|refine zf (zm 0 rfl rfl) ?_|refine zf (zm 1 rfl rfl) ?_|refine zf (zm 2 rfl rfl) ?_|refine zf (zm 3 rfl rfl) ?_|refine zf (zm 4 rfl rfl) ?_|refine zf (zm 5 rfl rfl) ?_|refine zf (zm 6 rfl rfl) ?_|refine zf (zm 7 rfl rfl) ?_|refine zf (zm 8 rfl rfl) ?_|refine zc (zo 0 rfl rfl) ?_|refine zc (zo 1 rfl rfl) ?_|refine zc (zo 2 rfl rfl) ?_|refine zc (zo 3 rfl rfl) ?_|refine zc (zo 4 rfl rfl) ?_|refine zc (zo 5 rfl rfl) ?_|refine zc (zo 6 rfl rfl) ?_|refine zc (zo 7 rfl rfl) ?_|refine zc (zo 8 rfl rfl) ?_|refine zc (zm 0 rfl rfl) ?_|refine zc (zm 1 rfl rfl) ?_|refine zc (zm 2 rfl rfl) ?_|refine zc (zm 3 rfl rfl) ?_|refine zc (zm 4 rfl rfl) ?_|refine zc (zm 5 rfl rfl) ?_|refine zc (zm 6 rfl rfl) ?_|refine zc (zm 7 rfl rfl) ?_|refine zc (zm 8 rfl rfl) ?_))):p:=k
theorem yu(k:p:=by(try refine Pd.st ?_);(repeat(first|exact Pd.nil|exact Pd.fnil|refine Pd.inner ?_|refine Pd.skip (by decide +kernel) ?_|refine zf (zo 0 Z Z) ?_|refine zf (zo 1 Z Z) ?_|refine zf (zo 2 Z Z) ?_|refine zf (zo 3 Z Z) ?_|refine zf (zo 4 Z Z) ?_|refine zf (zo 5 Z Z) ?_|refine zf (zo 6 Z Z) ?_|refine zf (zo 7 Z Z) ?_|refine zf (zo 8 Z Z) ?_|refine zf (zm 0 Z Z) ?_|refine zf (zm 1 Z Z) ?_|refine zf (zm 2 Z Z) ?_|refine zf (zm 3 Z Z) ?_|refine zf (zm 4 Z Z) ?_|refine zf (zm 5 Z Z) ?_|refine zf (zm 6 Z Z) ?_|refine zf (zm 7 Z Z) ?_|refine zf (zm 8 Z Z) ?_|refine zc (zo 0 Z Z) ?_|refine zc (zo 1 Z Z) ?_|refine zc (zo 2 Z Z) ?_|refine zc (zo 3 Z Z) ?_|refine zc (zo 4 Z Z) ?_|refine zc (zo 5 Z Z) ?_|refine zc (zo 6 Z Z) ?_|refine zc (zo 7 Z Z) ?_|refine zc (zo 8 Z Z) ?_|refine zc (zm 0 Z Z) ?_|refine zc (zm 1 Z Z) ?_|refine zc (zm 2 Z Z) ?_|refine zc (zm 3 Z Z) ?_|refine zc (zm 4 Z Z) ?_|refine zc (zm 5 Z Z) ?_|refine zc (zm 6 Z Z) ?_|refine zc (zm 7 Z Z) ?_|refine zc (zm 8 Z Z) ?_))):p:=k
theorem WG(k:p:=by(try refine Pd.st ?_);(repeat(first|exact Pd.nil|exact Pd.fnil|refine Pd.inner ?_|refine Pd.skip (by decide +kernel) ?_|refine zf (zo 0 Z Z) ?_|refine zf (zo 1 Z Z) ?_|refine zf (zo 2 Z Z) ?_|refine zf (zo 3 Z Z) ?_|refine zf (zo 4 Z Z) ?_|refine zf (zm 0 Z Z) ?_|refine zf (zm 1 Z Z) ?_|refine zf (zm 2 Z Z) ?_|refine zf (zm 3 Z Z) ?_|refine zf (zm 4 Z Z) ?_|refine zf (aE.aP (aE.many 0 Z Z) Z) ?_|refine zf ((aE.many 0 Z Z)) ?_|refine zc (zo 0 Z Z) ?_|refine zc (zo 1 Z Z) ?_|refine zc (zo 2 Z Z) ?_|refine zc (zo 3 Z Z) ?_|refine zc (zo 4 Z Z) ?_|refine zc (zm 0 Z Z) ?_|refine zc (zm 1 Z Z) ?_|refine zc (zm 2 Z Z) ?_|refine zc (zm 3 Z Z) ?_|refine zc (zm 4 Z Z) ?_|refine zc (aE.aP (aE.many 0 Z Z) Z) ?_|refine zc ((aE.many 0 Z Z)) ?_))):p:=k
theorem Uh(k:p:=by(try refine Pd.st ?_);(repeat(first|exact Pd.nil|exact Pd.fnil|refine Pd.inner ?_|refine Pd.skip (by decide +kernel) ?_|refine zf (zo 0 Z Z) ?_|refine zf (zo 1 Z Z) ?_|refine zf (zo 2 Z Z) ?_|refine zf (zo 3 Z Z) ?_|refine zf (zo 4 Z Z) ?_|refine zf (zm 0 Z Z) ?_|refine zf (zm 1 Z Z) ?_|refine zf (zm 2 Z Z) ?_|refine zf (zm 3 Z Z) ?_|refine zf (zm 4 Z Z) ?_|refine zf (aE.aP PQ Z) ?_|refine zf (PQ) ?_|refine zc (zo 0 Z Z) ?_|refine zc (zo 1 Z Z) ?_|refine zc (zo 2 Z Z) ?_|refine zc (zo 3 Z Z) ?_|refine zc (zo 4 Z Z) ?_|refine zc (zm 0 Z Z) ?_|refine zc (zm 1 Z Z) ?_|refine zc (zm 2 Z Z) ?_|refine zc (zm 3 Z Z) ?_|refine zc (zm 4 Z Z) ?_|refine zc (aE.aP PQ Z) ?_|refine zc (PQ) ?_))):p:=k
theorem QU(k:p:=by(try refine Pd.st ?_);(repeat(first|exact Pd.nil|exact Pd.fnil|refine Pd.inner ?_|refine Pd.skip (by decide +kernel) ?_|refine zf (zo 0 Z Z) ?_|refine zf (zo 1 Z Z) ?_|refine zf (zo 2 Z Z) ?_|refine zf (zo 3 Z Z) ?_|refine zf (zm 0 Z Z) ?_|refine zf (zm 1 Z Z) ?_|refine zf (zm 2 Z Z) ?_|refine zf (zm 3 Z Z) ?_|refine zf (aE.aP (aE.many 0 Z Z) Z) ?_|refine zf ((aE.many 0 Z Z)) ?_|refine zc (zo 0 Z Z) ?_|refine zc (zo 1 Z Z) ?_|refine zc (zo 2 Z Z) ?_|refine zc (zo 3 Z Z) ?_|refine zc (zm 0 Z Z) ?_|refine zc (zm 1 Z Z) ?_|refine zc (zm 2 Z Z) ?_|refine zc (zm 3 Z Z) ?_|refine zc (aE.aP (aE.many 0 Z Z) Z) ?_|refine zc ((aE.many 0 Z Z)) ?_))):p:=k
theorem WH(k:p:=by(try refine Pd.st ?_);(repeat(first|exact Pd.nil|exact Pd.fnil|refine Pd.inner ?_|refine Pd.skip (by decide +kernel) ?_|refine zf (zo 0 Z Z) ?_|refine zf (zo 1 Z Z) ?_|refine zf (zo 2 Z Z) ?_|refine zf (zm 0 Z Z) ?_|refine zf (zm 1 Z Z) ?_|refine zf (zm 2 Z Z) ?_|refine zf (aE.aP (aE.one 5 Z (iQ hx)) Z) ?_|refine zf ((aE.one 5 Z (iQ hx))) ?_|refine zc (zo 0 Z Z) ?_|refine zc (zo 1 Z Z) ?_|refine zc (zo 2 Z Z) ?_|refine zc (zm 0 Z Z) ?_|refine zc (zm 1 Z Z) ?_|refine zc (zm 2 Z Z) ?_|refine zc (aE.aP (aE.one 5 Z (iQ hx)) Z) ?_|refine zc ((aE.one 5 Z (iQ hx))) ?_))):p:=k
theorem Ui(k:p:=by(try refine Pd.st ?_);(repeat(first|exact Pd.nil|exact Pd.fnil|refine Pd.inner ?_|refine Pd.skip (by decide +kernel) ?_|refine zf (zo 0 Z Z) ?_|refine zf (zo 1 Z Z) ?_|refine zf (zo 2 Z Z) ?_|refine zf (zm 0 Z Z) ?_|refine zf (zm 1 Z Z) ?_|refine zf (zm 2 Z Z) ?_|refine zf (aE.aP (aE.many 0 Z Z) Z) ?_|refine zf ((aE.many 0 Z Z)) ?_|refine zc (zo 0 Z Z) ?_|refine zc (zo 1 Z Z) ?_|refine zc (zo 2 Z Z) ?_|refine zc (zm 0 Z Z) ?_|refine zc (zm 1 Z Z) ?_|refine zc (zm 2 Z Z) ?_|refine zc (aE.aP (aE.many 0 Z Z) Z) ?_|refine zc ((aE.many 0 Z Z)) ?_))):p:=k
theorem S7(k:p:=by(try refine Pd.st ?_);(repeat(first|exact Pd.nil|exact Pd.fnil|refine Pd.inner ?_|refine Pd.skip (by decide +kernel) ?_|refine zf (aE.aP (aE.aP h Z) Z) ?_|refine zf (aE.aP (aE.lB (ds:=R.ch.cells x.a x.c) h Z) Z) ?_|refine zf ((aE.aP h Z)) ?_|refine zf ((aE.lB (ds:=R.ch.cells x.a x.c) h Z)) ?_|refine zc (aE.aP (aE.aP h Z) Z) ?_|refine zc (aE.aP (aE.lB (ds:=R.ch.cells x.a x.c) h Z) Z) ?_|refine zc ((aE.aP h Z)) ?_|refine zc ((aE.lB (ds:=R.ch.cells x.a x.c) h Z)) ?_))):p:=k
theorem yz(k:p:=by(try refine Pd.st ?_);(repeat(first|exact Pd.nil|exact Pd.fnil|refine Pd.inner ?_|refine Pd.skip (by decide +kernel) ?_|refine zf (aE.aP (aE.aP hb Z) Z) ?_|refine zf (aE.aP (aE.lB (ds:=gp es) hb Z) Z) ?_|refine zf ((aE.aP hb Z)) ?_|refine zf ((aE.lB (ds:=gp es) hb Z)) ?_|refine zc (aE.aP (aE.aP hb Z) Z) ?_|refine zc (aE.aP (aE.lB (ds:=gp es) hb Z) Z) ?_|refine zc ((aE.aP hb Z)) ?_|refine zc ((aE.lB (ds:=gp es) hb Z)) ?_))):p:=k
theorem WI(k:p:=by(try refine Pd.st ?_);(repeat(first|exact Pd.nil|exact Pd.fnil|refine Pd.inner ?_|refine Pd.skip (by decide +kernel) ?_|refine zf (zo 0 Z Z) ?_|refine zf (zo 1 Z Z) ?_|refine zf (zm 0 Z Z) ?_|refine zf (zm 1 Z Z) ?_|refine zf (aE.aP (aE.many 0 Z Z) Z) ?_|refine zf ((aE.many 0 Z Z)) ?_|refine zc (zo 0 Z Z) ?_|refine zc (zo 1 Z Z) ?_|refine zc (zm 0 Z Z) ?_|refine zc (zm 1 Z Z) ?_|refine zc (aE.aP (aE.many 0 Z Z) Z) ?_|refine zc ((aE.many 0 Z Z)) ?_))):p:=k
theorem WJ(k:p:=by(try refine Pd.st ?_);(repeat(first|exact Pd.nil|exact Pd.fnil|refine Pd.inner ?_|refine Pd.skip (by decide +kernel) ?_|refine zf (aE.aP hb Z) ?_|refine zf (aE.aP (aE.lB hp hrow) Z) ?_|refine zf (hb) ?_|refine zf ((aE.lB hp hrow)) ?_|refine zc (aE.aP hb Z) ?_|refine zc (aE.aP (aE.lB hp hrow) Z) ?_|refine zc (hb) ?_|refine zc ((aE.lB hp hrow)) ?_))):p:=k
theorem S8(k:p:=by(try refine Pd.st ?_);(repeat(first|exact Pd.nil|exact Pd.fnil|refine Pd.inner ?_|refine Pd.skip (by decide +kernel) ?_|refine zf (zo 0 Z Z) ?_|refine zf (zm 0 Z Z) ?_|refine zf (aE.aP hb Z) ?_|refine zf (hb) ?_|refine zc (zo 0 Z Z) ?_|refine zc (zm 0 Z Z) ?_|refine zc (aE.aP hb Z) ?_|refine zc (hb) ?_))):p:=k
theorem yx(k:p:=by(try refine Pd.st ?_);(repeat(first|exact Pd.nil|exact Pd.fnil|refine Pd.inner ?_|refine Pd.skip (by decide +kernel) ?_|refine zf (aE.aP (aE.aP hb Z) Z) ?_|refine zf ((aE.aP hb Z)) ?_|refine zc (aE.aP (aE.aP hb Z) Z) ?_|refine zc ((aE.aP hb Z)) ?_))):p:=k
theorem WK(k:p:=by rw[ByteArray.size_append,ByteArray.size_append,di,di,di,di];omega):p:=k
theorem WL(k:p:=by rw[(mF he (by decide)).1,(mF he (by decide)).2,he];exact gI Z Z):p:=k
theorem WM(k:p:=by show 0+k*1<_;rw[Nat.zero_add,List.length_append,bo vR];omega):p:=k
theorem WN(k:p:=by rw[List.length_append,refs,List.length_map,List.length_take];omega):p:=k
theorem wk(k:p:=by(repeat refine Pd.filter ?_);exact hS _ (.tail _ (.tail _ (.head _)))):p:=k
theorem JW(k:p:=by(repeat refine Pd.filter ?_);exact hS _ (.tail _ (.head _))):p:=k
theorem YN(k:p:=by rw[di,di];simp only[List.length_append];omega):p:=k
theorem WO(k:p:=by rw[ByteArray.size_append,di,di,di];omega):p:=k
theorem WQ(k:p:=by rw[List.take_zero,List.flatMap_nil,List.append_nil];rfl):p:=k
theorem Uj(k:p:=by rw[show getM s=none from(by exact hG)];exact⟨rfl,Z⟩):p:=k
theorem WR(k:p:=by rw[a7,List.length_append];show _+1≤_;omega):p:=k
theorem WS(k:p:=by exact(fun v L h=>⟨_,by rw[hch] at h;exact h.2,h.1,Z⟩)):p:=k
theorem yw(k:p:=by rw[dQ,if_neg hb,if_neg h1,if_pos h2,hg]):p:=k
theorem WT(k:p:=by rw[sF h];show 0+15+n*1<21;omega):p:=k
theorem WU(k:p:=by unfold cu;repeat' split;all_goals omega):p:=k
theorem WV(k:p:=by rw[e];simp only[List.append_assoc];rfl):p:=k
theorem WW(k:p:=by rw[bo hZ,h.marks];omega):p:=k
theorem WX(k:p:=by have:=h0.wf.n0;have:=h0.len;omega):p:=k
theorem WY(k:p:=by show(0+c.ms.length)*16≤_;omega):p:=k
theorem Uk(k:p:=by show 2+3≤_;rw[nE ok];omega):p:=k
theorem yi(k:p:=by simpa using(List.mem_filter.1 hp1).2):p:=k
theorem WZ(k:p:=by show(done.length+1)*1≤_;omega):p:=k
theorem W0(k:p:=by rw[←beq_eq_false_iff_ne.2 he];rfl):p:=k
theorem yl(k:p:=by simp[stepG,stepG.exec,Frame.atR]):p:=k
theorem Ul(k:p:=by show(0+l.length)*16≤_;omega):p:=k
theorem W1(k:p:=by rw[mh,Ii];exact hi2):p:=k
theorem yo(k:p:=by simp[aZ,lC,h1];omega):p:=k
theorem W2(k:p:=by rw[if_pos hyes];exact⟨p,Z,Z⟩):p:=k
theorem S9(k:p:=by simp only[bQ];rw[hcr];rfl):p:=k
theorem JX(k:p:=by rw[List.length_append];omega):p:=k
theorem S_(k:p:=by rw[a7,a7];omega):p:=k
theorem W3(k:p:=by rw[if_neg hf];exact⟨rfl,Z⟩):p:=k
theorem YO(k:p:=by rw[if_neg hE];exact⟨rfl,Z⟩):p:=k
theorem W4(k:p:=by rw[hW];exact⟨a2,c2,Z,Z⟩):p:=k
theorem Ta(k:p:=by rw[List.length_take];omega):p:=k
theorem W5(k:p:=by rw[hel];exact⟨_,_,Z,Z⟩):p:=k
theorem YP(k:p:=by rw[di,di];omega):p:=k
theorem yy(k:p:=by exact(fun v L h=>⟨_,h.2,h.1,Z⟩)):p:=k
theorem Tb(k:p:=by show(0:Int)≤95;omega):p:=k
theorem Um(k:p:=by show ms.length≤_;omega):p:=k
theorem yh(k:p:=by rw[hpr] at h0;cases h0):p:=k
theorem Hw(k:p:=by rw[a7];exact hm2):p:=k
theorem YQ(k:p:=by rw[hn];exact⟨rfl,Z⟩):p:=k
theorem Un(k:p:=by show 0≤900000;omega):p:=k
theorem Uo(k:p:=by show 0≤800000;omega):p:=k
theorem Up(k:p:=by rw[mq];exact DT Z):p:=k
theorem Rk(k:p:=by rw[a7];omega):p:=k
theorem Kc(k:p:=by rw[hsz,hs1];omega):p:=k
theorem W6(k:p:=by show 12<21;omega):p:=k
theorem Rl(k:p:=by show 3<12;omega):p:=k
theorem Uq(k:p:=by rw[hwt];exact h2):p:=k
theorem W7(k:p:=by show 8<17;omega):p:=k
theorem Tc(k:p:=by show 9<21;omega):p:=k
theorem yq(k:p:=by rw[se,hc];rfl):p:=k
theorem Td(k:p:=by show 2<3;omega):p:=k
theorem Om(k:p:=by show 1<3;omega):p:=k
theorem tL(k:p:=by dsimp only;omega):p:=k
theorem Rm(k:p:=by rw[hlv];decide):p:=k
theorem Te(k:p:=by simp[lF,hr]):p:=k
theorem Tf(k:p:=by rw[hsz];omega):p:=k
theorem Tg(k:p:=by rw[hf];decide):p:=k
theorem Th(k:p:=by rw[←hfc];rfl):p:=k
theorem yk(k:p:=by simpa using hi):p:=k
theorem ym(k:p:=by simpa using hb):p:=k
theorem yr(k:p:=by decide +kernel):p:=k
theorem Ur(k:p:=by rw[←hd];rfl):p:=k
theorem ir(k:p:=by rw[h];decide):p:=k
theorem On(k:p:=by simpa using k1):p:=k
theorem yc(k:p:=by simpa using h):p:=k
theorem Kd(k:p:=by rw[h1];simp):p:=k
theorem Rn(k:p:=by rw[hL];rfl):p:=k
theorem yb(k:p:=by simp[hs.1]):p:=k
theorem ye(k:p:=by simp;omega):p:=k
theorem Ro(k:p:=by rw[e];rfl):p:=k
theorem FQ(k:p:=by exact(fun v L h=>h)):p:=k
theorem yn(k:p:=by kernel_rfl):p:=k
theorem Tj(k:p:=by simp[cH]):p:=k
theorem yg(k:p:=by simp[h1]):p:=k
theorem yj(k:p:=by simp[h2]):p:=k
theorem ya(k:p:=by simp[h]):p:=k
theorem yp(k:p:=by decide):p:=k
theorem Ke(k:p:=by rw[e]):p:=k
theorem yd(k:p:=by omega):p:=k
theorem yf(k:p:=by simp):p:=k
theorem W8(k:p:=by exact⟨fun _ _=>trivial,hk Q' hQ _ _ _ (ha.cC hd _) (hG.put hf _) hw⟩):p:=k
theorem Tk(k:p:=by exact .inl ⟨_,E _ (fun w=>r1 w),h⟩):p:=k
theorem Tl(k:p:=by exact .inl ⟨_,E _ (fun w=>r2 w),h⟩):p:=k
theorem W9(k:p:=by exact .inl ⟨v,fun a ha _ _ _ _ _ w=>by simp only[execOp,ha.ev hv];rfl,h⟩):p:=k
theorem W_(k:p:=by exact .inl ⟨_,fun a ha _ _ _ _ _ w=>by simp only[execOp,ha.ev hv];rfl,h⟩):p:=k
theorem Xa(k:p:=by exact .inl ⟨_,fun a ha _ _ _ _ _ w=>by simp only[execOp,ha.ev hv,ha.ev hu];rfl,h⟩):p:=k
theorem Us(k:p:=by exact List.nodup_append.2 ⟨hGn,hnl,fun x hx y hy he=>(hGb x hx).1 (.inr (he▸hy))⟩):p:=k
theorem Ut(k:p:=by exact⟨fun h'=>(hGb b h).1 (.inl h'),(hGb b h).2⟩):p:=k
theorem Tm(k:p:=by exact⟨(hb b ya).1,Nat.lt_of_lt_of_le (hb b ya).2 h4.size⟩):p:=k
theorem Xb(k:p:=by exact h.cJ.trans ⟨rfl,Z,Z,by rw[om];exact NR _,fun c hc=>kl fun he=>hf (he▸hc),NR _⟩):p:=k
theorem Uu(k:p:=by exact⟨_,⟨H',hψ,Z⟩,jj.back i H' hi w' hs⟩):p:=k
theorem Tn(k:p:=by exact .inl ⟨v,w',L'',h1,h4,h5⟩):p:=k
theorem To(k:p:=by exact .inr (.inl ⟨w',L'',h1,h4,h5⟩)):p:=k
theorem an(g:q)(k:Bq q→p:=by(intro zq;(repeat(first|refine zS ?_|refine zR ?_|refine zB ?_|refine zL ?_|refine zC ?_|refine zG (zN ?_)|refine zG (zD 0 rfl rfl rfl rfl ?_)));exact zq.v)):p:=k ⟨g⟩
theorem HF(g:q)(k:Bq q→p:=by(intro zq;refine VC.jm Z ?_;exact zq.v)):p:=k ⟨g⟩
theorem Db(g:q)(k:Bq q→p:=by(intro zq;(repeat(first|refine zS ?_|refine zR ?_|refine zB ?_|refine zL ?_|refine zC ?_|refine zG (zN ?_)|refine zG (zE rfl rfl (aE.aP hb rfl) ?_)));exact zq.v)):p:=k ⟨g⟩
theorem Xc(g:q)(k:Bq q→p:=by(intro zq;refine VG (VI (a_ i Z Z Z Z Z Z hi2) ?_);exact zq.v)):p:=k ⟨g⟩
theorem HG(g:q)(k:Bq q→p:=by(intro zq;refine VG (VO.load Z Z (ra _ _ Z Z) ?_);exact zq.v)):p:=k ⟨g⟩
theorem JY(g:q)(k:Bq q→p:=by(intro zq;refine VG (VP Z Z yd yd ?_);exact zq.v)):p:=k ⟨g⟩
theorem Uv(g:q)(k:Bq q→p:=by(intro zq;refine VG (VI (fE (u:=[]) (v:=[.pointer (some ⟨b,0,none⟩)]) Z Z) ?_);exact zq.v)):p:=k ⟨g⟩
theorem eP(g:q)(k:Bq q→p:=by(intro zq;(repeat(first|refine zS ?_|refine zR ?_|refine zB ?_|refine zL ?_|refine zC ?_|refine zG (zN ?_)|refine zG (zD 0 rfl rfl rfl rfl ?_)|refine zG (zU rfl rfl rfl ?_)));exact zq.v)):p:=k ⟨g⟩
theorem Xd(k:p:=by exact⟨(),trivial,SC Z (Sub.bl Z (by simp[qi];omega) (SN _)),ER⟩):p:=k
theorem Uw(g:q)(k:Bq q→p:=by(intro zq;refine VG (VL 0 (c.cells a cap) Z Z Z Z ?_);exact zq.v)):p:=k ⟨g⟩
theorem Rp(g:q)(k:Bq q→p:=by(intro zq;refine VG (VK (Lc:=[]) (fun Fr w hF hw _=>s9 (c:=c) (a:=a) (cap:=cap) Fr w) Z Z ?_);exact zq.v)):p:=k ⟨g⟩
theorem jA(g:q)(k:Bq q→p:=by(intro zq;(repeat(first|refine zS ?_|refine zR ?_|refine zB ?_|refine zL ?_|refine zC ?_|refine zG (zN ?_)|refine zG (zD 0 rfl rfl rfl rfl ?_)|refine zG (zD 1 rfl rfl rfl rfl ?_)));exact zq.v)):p:=k ⟨g⟩
theorem sf(g:q)(k:Bq q→p:=by(intro zq;(repeat(first|refine zS ?_|refine zR ?_|refine zB ?_|refine zL ?_|refine zC ?_|refine zG (zN ?_)|refine zG (zD 0 rfl rfl rfl rfl ?_)|refine zG (zD 1 rfl rfl rfl rfl ?_)|refine zG (zD 2 rfl rfl rfl rfl ?_)));exact zq.v)):p:=k ⟨g⟩
theorem Rq(g:q)(k:Bq q→p:=by(intro zq;refine VG (VY 40 true Z Z ?_);exact zq.v)):p:=k ⟨g⟩
theorem pP(g:q)(k:Bq q→p:=by(intro zq;(repeat(first|refine zS ?_|refine zR ?_|refine zB ?_|refine zL ?_|refine zC ?_|refine zG (zN ?_)|refine zG (zD 0 rfl rfl rfl rfl ?_)|refine zG (zD 1 rfl rfl rfl rfl ?_)|refine zG (zD 2 rfl rfl rfl rfl ?_)|refine zG (zU rfl rfl rfl ?_)));exact zq.v)):p:=k ⟨g⟩
theorem QV(g:q)(k:Bq q→p:=by(intro zq;refine VG (VY 40 false Z Z ?_);exact zq.v)):p:=k ⟨g⟩
theorem wu(g:q)(k:Bq q→p:=by(intro zq;(repeat(first|refine zS ?_|refine zR ?_|refine zB ?_|refine zL ?_|refine zC ?_|refine zG (zN ?_)|refine zG (zD 0 rfl rfl rfl rfl ?_)|refine zG (zD 1 rfl rfl rfl rfl ?_)|refine zG (zU rfl rfl rfl ?_)));exact zq.v)):p:=k ⟨g⟩
theorem r_(g:q)(k:Bq q→p:=by(intro zq;refine VC.jm Z (CK ?_);exact zq.v)):p:=k ⟨g⟩
theorem wm(g:q)(k:Bq q→p:=by(intro zq;refine VC.kk Z ?_;exact zq.v)):p:=k ⟨g⟩
theorem Rr(g:q)(k:Bq q→p:=by(intro zq;refine VG (VI (a_ k Z Z Z Z Z Z hk) ?_);exact zq.v)):p:=k ⟨g⟩
theorem Kf(k:p:=by exact CR (ay.tmp 2 Z Z ae.nil.ar ⟨rfl,Z⟩)):p:=k
theorem HH(g:q)(k:Bq q→p:=by(intro zq;refine VG (VO.A1 Z Z yd yd ?_);exact zq.v)):p:=k ⟨g⟩
theorem Tp(g:q)(k:Bq q→p:=by(intro zq;refine VG (VO.si (u:=.int .i64 (placeOf c.ms n)) Z (fun Fr w hF hs hS=>kW Fr w (hS.aP 0 Z) (h.of hF hs) yd n) Z ?_);exact zq.v)):p:=k ⟨g⟩
theorem O5(g:q)(k:Bq q→p:=by(intro zq;refine VG (VL 1 (c.cells a cap) Z Z Z Z ?_);exact zq.v)):p:=k ⟨g⟩
theorem AM(g:q)(k:Bq q→p:=by(intro zq;refine VG (VN ?_);exact zq.v)):p:=k ⟨g⟩
theorem eT(g:q)(k:Bq q→p:=by(intro zq;(repeat(first|refine yG (yN ?_)|refine yG (yD 0 rfl rfl rfl rfl rfl ?_)));exact zq.v)):p:=k ⟨g⟩
theorem QW(g:q)(k:Bq q→p:=by(intro zq;refine AG (VA.A1 Z Z Z yd yd ?_);exact zq.v)):p:=k ⟨g⟩
theorem EW(g:q)(k:Bq q→p:=by(intro zq;(repeat(first|refine zS ?_|refine zR ?_|refine zB ?_|refine zL ?_|refine zC ?_|refine zG (zN ?_)|refine zG (zE rfl rfl (aE.aP h rfl) ?_)));exact zq.v)):p:=k ⟨g⟩
theorem Ux(g:q)(k:Bq q→p:=by(intro zq;refine VG (VV (fun Fr w hF hs _=>bj Fr w (h.of hF hs) hc) Z ?_);exact zq.v)):p:=k ⟨g⟩
theorem QX(k:p:=by exact CR (ay.int 2 Z Z Z ER ⟨rfl,Z⟩)):p:=k
theorem JZ(g:q)(k:Bq q→p:=by(intro zq;(repeat(first|refine yG (yN ?_)|refine yG (yE rfl rfl rfl (aE.aP h rfl) ?_)));exact zq.v)):p:=k ⟨g⟩
theorem HI(g:q)(k:Bq q→p:=by(intro zq;refine AG (AP Z Z Z yd yd ?_);exact zq.v)):p:=k ⟨g⟩
theorem QY(k:p:=by exact CR (ay.bool 2 Z Z Z ER ⟨rfl,Z⟩)):p:=k
theorem Tq(g:q)(k:Bq q→p:=by(intro zq;refine VG (VV (fun Fr w hF hs hS=>bj Fr w (hS.aP 0 Z) o1) Z ?_);exact zq.v)):p:=k ⟨g⟩
theorem Uy(k:p:=by exact CR (ay.tmp 4 Z Z ER ⟨by rw[hb],by rw[cD.Df,hb];rfl⟩)):p:=k
theorem O6(k:p:=by exact ay.void Z ER ⟨rfl,Z⟩):p:=k
theorem Dc(g:q)(k:Bq q→p:=by(intro zq;refine CS (CG (VG (VN ?_)));exact zq.v)):p:=k ⟨g⟩
theorem lS(g:q)(k:Bq q→p:=by(intro zq;(repeat(first|refine yG (yN ?_)|refine yG (yD 0 rfl rfl rfl rfl rfl ?_)|refine yG (yU rfl rfl rfl rfl ?_)));exact zq.v)):p:=k ⟨g⟩
theorem Uz(k:p:=by exact CR (ay.cU 2 3 Z Z Z ER ⟨by rw[hb];rfl,by rw[cD.next,hb];rfl⟩)):p:=k
theorem UA(g:q)(k:Bq q→p:=by(intro zq;refine VG (VO.ic (fun Fr w=>bm Fr w o) Z ?_);exact zq.v)):p:=k ⟨g⟩
theorem Tr(g:q)(k:Bq q→p:=by(intro zq;(repeat(first|refine zS ?_|refine zR ?_|refine zB ?_|refine zL ?_|refine zC ?_|refine zG (zN ?_)|refine zG (zD 0 rfl rfl rfl rfl ?_)|refine zG (zE rfl rfl (aE.aP hp rfl) ?_)));exact zq.v)):p:=k ⟨g⟩
theorem Rs(g:q)(k:Bq q→p:=by(intro zq;refine VG (VY 5 false Z Z ?_);exact zq.v)):p:=k ⟨g⟩
theorem EX(k:p:=by exact CR (ay.tmp 2 Z Z ER ⟨rfl,Z⟩)):p:=k
theorem UB(g:q)(k:Bq q→p:=by(intro zq;refine VG (VV (fun Fr w hF hs _=>bj Fr w (h.of hF hs)) Z ?_);exact zq.v)):p:=k ⟨g⟩
theorem Xe(g:q)(k:Bq q→p:=by(intro zq;refine VG (VI (LB (pv:=[]) (bn cY) Z Z Z yn Z) ?_);exact zq.v)):p:=k ⟨g⟩
theorem UC(g:q)(k:Bq q→p:=by(intro zq;refine VG (VT (vs:=bn cY) 0 Z Z Z Z (NR _) Z Z Z ?_);exact zq.v)):p:=k ⟨g⟩
theorem tM(g:q)(k:Bq q→p:=by(intro zq;(repeat(first|refine yG (yN ?_)|refine yG (yD 0 rfl rfl rfl rfl rfl ?_)|refine yG (yD 1 rfl rfl rfl rfl rfl ?_)|refine yG (yD 2 rfl rfl rfl rfl rfl ?_)|refine yG (yD 3 rfl rfl rfl rfl rfl ?_)));exact zq.v)):p:=k ⟨g⟩
theorem UD(g:q)(k:Bq q→p:=by(intro zq;refine CS (CD (ts 0 10 (.only 10 .nil)) yn yr ?_);exact zq.v)):p:=k ⟨g⟩
theorem J0(g:q)(k:Bq q→p:=by(intro zq;(repeat(first|refine yG (yN ?_)|refine yG (yD 0 rfl rfl rfl rfl rfl ?_)|refine yG (yD 1 rfl rfl rfl rfl rfl ?_)|refine yG (yD 2 rfl rfl rfl rfl rfl ?_)|refine yG (yD 3 rfl rfl rfl rfl rfl ?_)|refine yG (yD 4 rfl rfl rfl rfl rfl ?_)));exact zq.v)):p:=k ⟨g⟩
theorem Dd(g:q)(k:Bq q→p:=by(intro zq;(repeat(first|refine zS ?_|refine zR ?_|refine zB ?_|refine zL ?_|refine zC ?_|refine zG (zN ?_)|refine zG (zD 0 rfl rfl rfl rfl ?_)|refine zG (zD 1 rfl rfl rfl rfl ?_)|refine zG (zD 2 rfl rfl rfl rfl ?_)|refine zG (zD 3 rfl rfl rfl rfl ?_)|refine zG (zD 4 rfl rfl rfl rfl ?_)));exact zq.v)):p:=k ⟨g⟩
theorem Ts(g:q)(k:Bq q→p:=by(intro zq;refine CS (CD (ts 0 6 (.only 6 .nil)) yn yr ?_);exact zq.v)):p:=k ⟨g⟩
theorem UE(g:q)(k:Bq q→p:=by(intro zq;refine VG (VV (fun Fr w hF hs hS=>bj Fr w (hb.of hF hs)) Z ?_);exact zq.v)):p:=k ⟨g⟩
theorem Rt(g:q)(k:Bq q→p:=by(intro zq;(repeat(first|refine yG (yN ?_)|refine yG (yE rfl rfl rfl (aE.aP hb rfl) ?_)));exact zq.v)):p:=k ⟨g⟩
theorem Tt(g:q)(k:Bq q→p:=by(intro zq;(repeat(first|refine zS ?_|refine zR ?_|refine zB ?_|refine zL ?_|refine zC ?_|refine zG (zN ?_)|refine zG (zD 0 rfl rfl rfl rfl ?_)|refine zG (zD 1 rfl rfl rfl rfl ?_)|refine zG (zD 2 rfl rfl rfl rfl ?_)|refine zG (zD 3 rfl rfl rfl rfl ?_)|refine zG (zD 4 rfl rfl rfl rfl ?_)|refine zG (zD 5 rfl rfl rfl rfl ?_)));exact zq.v)):p:=k ⟨g⟩
theorem Oo(g:q)(k:Bq q→p:=by(intro zq;(repeat(first|refine zS ?_|refine zR ?_|refine zB ?_|refine zL ?_|refine zC ?_|refine zG (zN ?_)|refine zG (zD 0 rfl rfl rfl rfl ?_)|refine zG (zD 1 rfl rfl rfl rfl ?_)|refine zG (zD 2 rfl rfl rfl rfl ?_)|refine zG (zD 3 rfl rfl rfl rfl ?_)|refine zG (zD 4 rfl rfl rfl rfl ?_)|refine zG (zD 5 rfl rfl rfl rfl ?_)|refine zG (zU rfl rfl rfl ?_)));exact zq.v)):p:=k ⟨g⟩
theorem UF(g:q)(k:Bq q→p:=by(intro zq;refine VC.kk Z (CK ?_);exact zq.v)):p:=k ⟨g⟩
theorem Tu(g:q)(k:Bq q→p:=by(intro zq;refine VG (VT (vs:=bn cY) 4 Z Z Z Z (NR _) Z Z Z ?_);exact zq.v)):p:=k ⟨g⟩
theorem AW(g:q)(k:Bq q→p:=by(intro zq;(repeat(first|refine yG (yN ?_)|refine yG (yD 0 rfl rfl rfl rfl rfl ?_)|refine yG (yD 1 rfl rfl rfl rfl rfl ?_)|refine yG (yD 2 rfl rfl rfl rfl rfl ?_)|refine yG (yD 3 rfl rfl rfl rfl rfl ?_)|refine yG (yD 4 rfl rfl rfl rfl rfl ?_)|refine yG (yD 5 rfl rfl rfl rfl rfl ?_)));exact zq.v)):p:=k ⟨g⟩
theorem Xf(g:q)(k:Bq q→p:=by(intro zq;refine CS (CD (ts 0 6 (.only 6 (.only 7 (ts 8 2 (.only 10 .nil))))) yn yr ?_);exact zq.v)):p:=k ⟨g⟩
theorem Tv(k:p:=by exact CR (ay.tmp 2 Z Z (ae.bY ae.nil).ar ⟨none,0,Z,Z⟩)):p:=k
theorem Tw(k:p:=by exact CR (ay.tmp 2 Z Z ER ⟨a',c',Z,Z⟩)):p:=k
theorem Tx(k:p:=by exact⟨s,h1,G,h2,by simpa using hn,fun b hb=>by simpa using hb⟩):p:=k
theorem UG(g:q)(k:Bq q→p:=by(intro zq;refine VO.ar (L':=[aJ aG 2 (some ⟨b,0,none⟩) 0 0 []]) (ae.sl (M:=[]) (cs:=[]) (rest:=[]) Z (NR _) Z (ae.refl (L:=[pt b [] aG]))).ar ?_;exact zq.v)):p:=k ⟨g⟩
theorem Xg(g:q)(k:Bq q→p:=by(intro zq;(repeat(first|refine zS ?_|refine zR ?_|refine zB ?_|refine zL ?_|refine zC ?_|refine zG (zN ?_)|refine zG (zD 0 rfl rfl rfl rfl ?_)|refine zG (zE rfl rfl (aE.aP hb rfl) ?_)));exact zq.v)):p:=k ⟨g⟩
theorem Xh(k:p:=by exact CR (ay.tmp 4 Z Z (IP 0 Z (IP 0 Z ae.nil)).ar ⟨a,c,rows,h1,Z,Z⟩)):p:=k
theorem Xi(g:q)(k:Bq q→p:=by(intro zq;refine VG (VT (vs:=cF (f,m)) (cs':=cF (f,m)) 1 Z Z Z Z (NR _) Z Z Z (VG (VN ?_)));exact zq.v)):p:=k ⟨g⟩
theorem Xj(g:q)(k:Bq q→p:=by(intro zq;refine VG (VT (vs:=cF od) (cs':=cF od) 0 Z Z Z Z (NR _) Z Z Z (VG (VN ?_)));exact zq.v)):p:=k ⟨g⟩
theorem qe(g:q)(k:Bq q→p:=by(intro zq;(repeat(first|refine yG (yN ?_)|refine yG (yD 0 rfl rfl rfl rfl rfl ?_)|refine yG (yD 1 rfl rfl rfl rfl rfl ?_)));exact zq.v)):p:=k ⟨g⟩
theorem sg(g:q)(k:Bq q→p:=by(intro zq;(repeat(first|refine yG (yN ?_)|refine yG (yD 0 rfl rfl rfl rfl rfl ?_)|refine yG (yD 1 rfl rfl rfl rfl rfl ?_)|refine yG (yD 2 rfl rfl rfl rfl rfl ?_)));exact zq.v)):p:=k ⟨g⟩
theorem UH(g:q)(k:Bq q→p:=by(intro zq;refine VG (VO.st 2 Z Z Z Z Td Z Z (VG (VN ?_)));exact zq.v)):p:=k ⟨g⟩
theorem Ty(g:q)(k:Bq q→p:=by(intro zq;refine VG (VI (a_ k Z Z Z Z Z Z yd) ?_);exact zq.v)):p:=k ⟨g⟩
theorem Xk(g:q)(k:Bq q→p:=by(intro zq;refine VG (VV (fun Fr w hF _ hs=>Gc Fr w (aL.shut s0 h0 hs.tail)) Z (VG (VN ?_)));exact zq.v)):p:=k ⟨g⟩
theorem Tz(g:q)(k:Bq q→p:=by(intro zq;refine VG (VO.ld 2 Z Z Z (hcell (j:=0) Z) ?_);exact zq.v)):p:=k ⟨g⟩
theorem UI(g:q)(k:Bq q→p:=by(intro zq;refine VG (VQ 2 (ψ:=fun v H=>v=.tuple #[]∧H=Sd p s.cb s.rows.length s.wD S.bD) Z (fun Fr w _ _ _=>sr Fr w yd yd) Z (fun v L1 ⟨h1,h2⟩=>⟨_,h2,h1,Z⟩) ?_);exact zq.v)):p:=k ⟨g⟩
theorem Xl(k:p:=by exact(ae.trans ae.tl (ae.trans ae.tl (ae.trans (ae.of_eq e) (l_ (h.M5 hr hwf))))).ar):p:=k
theorem QZ(g:q)(k:Bq q→p:=by(intro zq;refine VG (VO.ld 1 Z Z Z Z ?_);exact zq.v)):p:=k ⟨g⟩
theorem Hx(g:q)(k:Bq q→p:=by(intro zq;refine VG (VO.ld 2 Z Z Z Z (VG (VO.ld 0 Z Z Z Z ?_)));exact zq.v)):p:=k ⟨g⟩
theorem Ru(g:q)(k:Bq q→p:=by(intro zq;refine VG (VY 47 false Z Z ?_);exact zq.v)):p:=k ⟨g⟩
theorem UJ(g:q)(k:Bq q→p:=by(intro zq;refine VG (VY 54 false Z Z ?_);exact zq.v)):p:=k ⟨g⟩
theorem YR(g:q)(k:Bq q→p:=by(intro zq;refine VG (VY 61 false Z Z ?_);exact zq.v)):p:=k ⟨g⟩
theorem YS(g:q)(k:Bq q→p:=by(intro zq;refine VG (VY 68 false Z Z ?_);exact zq.v)):p:=k ⟨g⟩
theorem YT(g:q)(k:Bq q→p:=by(intro zq;refine VG (VY 75 false Z Z ?_);exact zq.v)):p:=k ⟨g⟩
theorem Xm(g:q)(k:Bq q→p:=by(intro zq;refine VG (VY 82 false Z Z ?_);exact zq.v)):p:=k ⟨g⟩
theorem Xn(g:q)(k:Bq q→p:=by(intro zq;refine AG (AO (a8.c_ (φ:=fun v=>v=.int .i64 (aw c.aB 1 6)) (fun Fr w _ _ _=>bF Fr w _ _ _) rfl) rfl (fun v L' h=>by obtain⟨_,rfl⟩:=h;exact wk) ?_);exact zq.v)):p:=k ⟨g⟩
theorem UK(g:q)(k:Bq q→p:=by(intro zq;refine AG (AO (a8.c_ (φ:=fun v=>v=.int .i64 (aw c.queue 1 16)) (fun Fr w _ _ _=>bF Fr w _ _ _) rfl) rfl (fun v L' h=>by obtain⟨_,rfl⟩:=h;exact wk) ?_);exact zq.v)):p:=k ⟨g⟩
theorem TA(g:q)(k:Bq q→p:=by(intro zq;refine AG (AO (a8.c_ (φ:=fun v=>v=.int .i64 (aw c.eV 1 16)) (fun Fr w _ _ _=>bF Fr w _ _ _) rfl) rfl (fun v L' h=>by obtain⟨_,rfl⟩:=h;exact wk) ?_);exact zq.v)):p:=k ⟨g⟩
theorem Rv(g:q)(k:Bq q→p:=by(intro zq;refine AG (AO (a8.c_ (φ:=fun v=>v=.int .i64 (aw c.reads 1 16)) (fun Fr w _ _ _=>bF Fr w _ _ _) rfl) rfl (fun v L' h=>by obtain⟨_,rfl⟩:=h;exact wk) ?_);exact zq.v)):p:=k ⟨g⟩
theorem Q0(g:q)(k:Bq q→p:=by(intro zq;refine AG (AO (a8.c_ (φ:=fun v=>v=.int .i64 (aw c.link 4 64)) (fun Fr w _ _ _=>bF Fr w _ _ _) rfl) rfl (fun v L' h=>by obtain⟨_,rfl⟩:=h;exact wk) ?_);exact zq.v)):p:=k ⟨g⟩
theorem O7(g:q)(k:Bq q→p:=by(intro zq;refine AG (AO (a8.c_ (φ:=fun v=>v=.int .i64 (aw c.bt 4 64)) (fun Fr w _ _ _=>bF Fr w _ _ _) rfl) rfl (fun v L' h=>by obtain⟨_,rfl⟩:=h;exact wk) ?_);exact zq.v)):p:=k ⟨g⟩
theorem Oq(g:q)(k:Bq q→p:=by(intro zq;refine AG (AO (a8.c_ (φ:=fun v=>v=.int .i64 (aw c.timeout 4 64)) (fun Fr w _ _ _=>bF Fr w _ _ _) rfl) rfl (fun v L' h=>by obtain⟨_,rfl⟩:=h;exact wk) ?_);exact zq.v)):p:=k ⟨g⟩
theorem Kg(g:q)(k:Bq q→p:=by(intro zq;refine AG (AO (a8.c_ (φ:=fun v=>v=.int .i64 (aw c.dB 0 16)) (fun Fr w _ _ _=>bF Fr w _ _ _) rfl) rfl (fun v L' h=>by obtain⟨_,rfl⟩:=h;exact wk) ?_);exact zq.v)):p:=k ⟨g⟩
theorem J1(g:q)(k:Bq q→p:=by(intro zq;refine AG (AO (a8.c_ (φ:=fun v=>v=.int .i64 (aw c.cG 1 1099511627776)) (fun Fr w _ _ _=>bF Fr w _ _ _) rfl) rfl (fun v L' h=>by obtain⟨_,rfl⟩:=h;exact wk) ?_);exact zq.v)):p:=k ⟨g⟩
theorem Xo(g:q)(k:Bq q→p:=by(intro zq;refine AG (AI Z (DI Z Z) ?_);exact zq.v)):p:=k ⟨g⟩
theorem Xp(g:q)(k:Bq q→p:=by(intro zq;refine AG (AT (vs:=[.int .i64 (aw c.nodes 1 6),.int .i64 (aw c.chain 1 (aw c.nodes 1 6)),.int .i64 (aw c.aB 1 6),.slice none 0 0,.int .i64 (aw c.queue 1 16),.int .i64 (aw c.eV 1 16),.int .i64 (aw c.reads 1 16),.int .i64 (aw c.link 4 64),.int .i64 (aw c.bt 4 64),.int .i64 (aw c.timeout 4 64),.int .i64 (aw c.dB 0 16),.int .i64 (aw c.cG 1 1099511627776)]) (cs':=[.int .i64 (aw c.nodes 1 6),.int .i64 (aw c.chain 1 (aw c.nodes 1 6)),.int .i64 (aw c.aB 1 6),.slice none 0 0,.int .i64 (aw c.queue 1 16),.int .i64 (aw c.eV 1 16),.int .i64 (aw c.reads 1 16),.int .i64 (aw c.link 4 64),.int .i64 (aw c.bt 4 64),.int .i64 (aw c.timeout 4 64),.int .i64 (aw c.dB 0 16),.int .i64 (aw c.cG 1 1099511627776)]) 0 Z Z Z Z Z (NR _) Z Z Z wk (AG (AN ?_)));exact zq.v)):p:=k ⟨g⟩
theorem Xq(k:p:=by exact⟨d,trivial,bd,ER⟩):p:=k
theorem Xr(g:q)(k:Bq q→p:=by(intro zq;refine VG (VI (LB (pv:=[(0,.int .i64 s),(1,.int .i64 t)]) (fU (s,t)) Z Z Z Z Z) ?_);exact zq.v)):p:=k ⟨g⟩
theorem UL(k:p:=by exact CR (ay.int 8 Z Z Ke out ⟨rfl,by rw[e]⟩)):p:=k
theorem TB(g:q)(k:Bq q→p:=by(intro zq;refine CD (ts 0 6 (.only 6 .nil)) yn yr ?_;exact zq.v)):p:=k ⟨g⟩
theorem FR(g:q)(k:Bq q→p:=by(intro zq;(repeat(first|refine yG (yN ?_)|refine yG (yD 0 rfl rfl rfl rfl rfl ?_)|refine yG (yE rfl rfl rfl (aE.aP hb rfl) ?_)));exact zq.v)):p:=k ⟨g⟩
theorem Hy(g:q)(k:Bq q→p:=by(intro zq;refine AG (VA.VW Z Z ?_);exact zq.v)):p:=k ⟨g⟩
theorem Xs(g:q)(k:Bq q→p:=by(intro zq;refine AG (AY 38 false Z Z ?_);exact zq.v)):p:=k ⟨g⟩
theorem YU(g:q)(k:Bq q→p:=by(intro zq;refine AG (AY 43 false Z Z ?_);exact zq.v)):p:=k ⟨g⟩
theorem YV(g:q)(k:Bq q→p:=by(intro zq;refine AG (AY 48 false Z Z ?_);exact zq.v)):p:=k ⟨g⟩
theorem YW(g:q)(k:Bq q→p:=by(intro zq;refine AG (AY 54 false Z Z ?_);exact zq.v)):p:=k ⟨g⟩
theorem TC(g:q)(k:Bq q→p:=by(intro zq;refine AG (AI Z (bS n Z Z Z Z Z hcl hn) ?_);exact zq.v)):p:=k ⟨g⟩
theorem TD(k:p:=by exact CR (ay.int 6 Z Z Ke out ⟨rfl,by rw[e]⟩)):p:=k
theorem UM(k:p:=by exact CR (ay.int 6 Z Z Ke (L':=[_]) ae.tl.ar ⟨rfl,by rw[e]⟩)):p:=k
theorem TE(g:q)(k:Bq q→p:=by(intro zq;(repeat(first|refine yG (yN ?_)|refine yG (yD 0 rfl rfl rfl rfl rfl ?_)|refine yG (yE rfl rfl rfl (aE.aP h rfl) ?_)));exact zq.v)):p:=k ⟨g⟩
theorem TG(g:q)(k:Bq q→p:=by(intro zq;refine AG (VA.load Z Z Z (aE.lB (ds:=R.ch.cells x.a x.c) h Z) ?_);exact zq.v)):p:=k ⟨g⟩
theorem Xt(g:q)(k:Bq q→p:=by(intro zq;refine CS (CD (.take 0 (.only 1 (ts 2 5 (ts 8 4 (.only 7 (ts 12 3 .nil)))))) yn yr ?_);exact zq.v)):p:=k ⟨g⟩
theorem UN(g:q)(k:Bq q→p:=by(intro zq;refine AG (AR (fun Fr w hF hs hS=>E8 Fr w (h.of hF hs)) Z Z yu ?_);exact zq.v)):p:=k ⟨g⟩
theorem Ot(g:q)(k:Bq q→p:=by(intro zq;(repeat(first|refine yG (yN ?_)|refine yG (yE rfl rfl rfl (aE.aP h rfl) ?_)|refine yG (yU rfl rfl rfl rfl ?_)));exact zq.v)):p:=k ⟨g⟩
theorem UO(k:p:=by exact ay.void Z (IP 1 Z ae.nil).ar ⟨rfl,Z⟩):p:=k
theorem Xu(k:p:=by exact⟨(),trivial,SC Z (SC Z (SC Z (Sub.int Z (by rw[hd];rfl) (SN _)))),ER⟩):p:=k
theorem Xv(g:q)(k:Bq q→p:=by(intro zq;(repeat(first|refine zS ?_|refine zR ?_|refine zB ?_|refine zL ?_|refine zC ?_|refine zG (zN ?_)|refine zG (zE rfl rfl (aE.aP hb rfl) ?_)|refine zG (zU rfl rfl rfl ?_)));exact zq.v)):p:=k ⟨g⟩
theorem Q1(g:q)(k:Bq q→p:=by(intro zq;refine VC.e7 0 Z (aV.rep p R) ?_;exact zq.v)):p:=k ⟨g⟩
theorem Xw(g:q)(k:Bq q→p:=by(intro zq;refine VG (VV (fun Fr w hF hs hS=>lX Fr w (hS.aP 0 Z) (aI.aJ aF (hS.at_ 1 Z)) ok.ch) Z ?_);exact zq.v)):p:=k ⟨g⟩
theorem Xx(g:q)(k:Bq q→p:=by(intro zq;refine VG (VV (fun Fr w hF hs hS=>Win.pq Fr w (hS.aP 3 Z) w0) Z ?_);exact zq.v)):p:=k ⟨g⟩
theorem Xy(g:q)(k:Bq q→p:=by(intro zq;refine VG (VV (fun Fr w hF hs hS=>Win.fF Fr w (hS.aP 3 Z) w0) Z ?_);exact zq.v)):p:=k ⟨g⟩
theorem Ou(g:q)(k:Bq q→p:=by(intro zq;(repeat(first|refine yG (yN ?_)|refine yG (yD 0 rfl rfl rfl rfl rfl ?_)|refine yG (yD 1 rfl rfl rfl rfl rfl ?_)|refine yG (yD 2 rfl rfl rfl rfl rfl ?_)|refine yG (yD 3 rfl rfl rfl rfl rfl ?_)|refine yG (yD 4 rfl rfl rfl rfl rfl ?_)|refine yG (yD 5 rfl rfl rfl rfl rfl ?_)|refine yG (yD 6 rfl rfl rfl rfl rfl ?_)|refine yG (yD 7 rfl rfl rfl rfl rfl ?_)));exact zq.v)):p:=k ⟨g⟩
theorem Xz(g:q)(k:Bq q→p:=by(intro zq;refine CS (CD (ts 0 2 (.only 2 .nil)) yn yr ?_);exact zq.v)):p:=k ⟨g⟩
theorem XA(g:q)(k:Bq q→p:=by(intro zq;refine AG (VA.kn 6 (bn cY) Z Z Z Z Z ?_);exact zq.v)):p:=k ⟨g⟩
theorem YX(g:q)(k:Bq q→p:=by(intro zq;refine AG (AT (vs:=bn cY) 6 Z Z Z Z Z (NR _) Z Z Z yu ?_);exact zq.v)):p:=k ⟨g⟩
theorem O8(g:q)(k:Bq q→p:=by(intro zq;(repeat(first|refine zS ?_|refine zR ?_|refine zB ?_|refine zL ?_|refine zC ?_|refine zG (zN ?_)|refine zG (zD 0 rfl rfl rfl rfl ?_)|refine zG (zD 1 rfl rfl rfl rfl ?_)|refine zG (zD 2 rfl rfl rfl rfl ?_)|refine zG (zD 3 rfl rfl rfl rfl ?_)|refine zG (zD 4 rfl rfl rfl rfl ?_)|refine zG (zD 5 rfl rfl rfl rfl ?_)|refine zG (zD 6 rfl rfl rfl rfl ?_)|refine zG (zD 7 rfl rfl rfl rfl ?_)));exact zq.v)):p:=k ⟨g⟩
theorem XB(k:p:=by exact⟨(),trivial,SC Z (SC Z (SC Z (SC Z (SC Z (SC Z (SC Z (Sub.bl Z Z (SN _)))))))),ER⟩):p:=k
theorem TH(g:q)(k:Bq q→p:=by(intro zq;refine VC.e7 1 Z (aV.rep p R) ?_;exact zq.v)):p:=k ⟨g⟩
theorem Rw(g:q)(k:Bq q→p:=by(intro zq;refine VG (VV (fun Fr w hF hs hS=>uM Fr w (hS.aP 0 Z) f _) Z ?_);exact zq.v)):p:=k ⟨g⟩
theorem XC(g:q)(k:Bq q→p:=by(intro zq;(repeat(first|refine zS ?_|refine zR ?_|refine zB ?_|refine zL ?_|refine zC ?_|refine zG (zN ?_)|refine zG (zD 0 rfl rfl rfl rfl ?_)|refine zG (zD 1 rfl rfl rfl rfl ?_)|refine zG (zD 2 rfl rfl rfl rfl ?_)|refine zG (zD 3 rfl rfl rfl rfl ?_)|refine zG (zD 4 rfl rfl rfl rfl ?_)|refine zG (zD 5 rfl rfl rfl rfl ?_)|refine zG (zD 6 rfl rfl rfl rfl ?_)));exact zq.v)):p:=k ⟨g⟩
theorem HJ(g:q)(k:Bq q→p:=by(intro zq;(repeat(first|refine yG (yN ?_)|refine yG (yD 0 rfl rfl rfl rfl rfl ?_)|refine yG (yD 1 rfl rfl rfl rfl rfl ?_)|refine yG (yD 2 rfl rfl rfl rfl rfl ?_)|refine yG (yD 3 rfl rfl rfl rfl rfl ?_)|refine yG (yD 4 rfl rfl rfl rfl rfl ?_)|refine yG (yD 5 rfl rfl rfl rfl rfl ?_)|refine yG (yD 6 rfl rfl rfl rfl rfl ?_)));exact zq.v)):p:=k ⟨g⟩
theorem XD(k:p:=by exact⟨h.ch,h.win,h.last,h.nh,h.ni,h.tj,h.sG,h.rl,h.zJ,h.AU,h.xu,h.calls,h.wf⟩):p:=k
theorem XE(g:q)(k:Bq q→p:=by(intro zq;refine CD (ts 0 5 (.two 5 9 (ts 6 3 (.only 9 (.only 10 (.take 11 .nil)))) (.only 5 (ts 6 3 (.only 10 (.take 11 .nil)))))) yn yr ?_;exact zq.v)):p:=k ⟨g⟩
theorem XF(g:q)(k:Bq q→p:=by(intro zq;refine VG (VV (fun Fr w hF hs hS=>Rep.gz Fr w (hS.aP 0 Z) (aI.aJ aF (hS.at_ 1 Z)) ok.ch) Z ?_);exact zq.v)):p:=k ⟨g⟩
theorem XG(g:q)(k:Bq q→p:=by(intro zq;refine AG (AI Z (LB (pv:=[(0,.int .i64 (R.log.length+1)),(1,.int .i64 (dA R now).aj),(2,.int .i64 (dA R now).seq),(3,.agg (dA R now).op.cells.toArray)]) (cL (ey R now)) Z Z Z yn Z) ?_);exact zq.v)):p:=k ⟨g⟩
theorem XH(g:q)(k:Bq q→p:=by(intro zq;refine AG (AT (vs:=bn (iF R.log (ey R now))) 0 Z Z Z Z Z (NR _) Z Z Z yu ?_);exact zq.v)):p:=k ⟨g⟩
theorem UP(g:q)(k:Bq q→p:=by(intro zq;refine VG (VV (fun Fr w hF hs hS=>mj Fr w (hS.aP 0 Z)) Z ?_);exact zq.v)):p:=k ⟨g⟩
theorem UQ(g:q)(k:Bq q→p:=by(intro zq;refine VG (VI (fE (u:=[.pointer (some ⟨ob,0,none⟩)]) (v:=[]) Z Z) ?_);exact zq.v)):p:=k ⟨g⟩
theorem UR(g:q)(k:Bq q→p:=by(intro zq;refine VG (VO.load Z Z ((hrd 0 Z).1 _ Z Z) ?_);exact zq.v)):p:=k ⟨g⟩
theorem US(g:q)(k:Bq q→p:=by(intro zq;refine VG (VT (vs:=jB g) 0 Z Z Z Z (NR _) Z Z Z ?_);exact zq.v)):p:=k ⟨g⟩
theorem Rx(g:q)(k:Bq q→p:=by(intro zq;refine VG (VY 57 false Z Z ?_);exact zq.v)):p:=k ⟨g⟩
theorem XI(g:q)(k:Bq q→p:=by(intro zq;refine VO.ar (L':=[aJ aG 2 none 0 0 [],pt d [.int .i64 0,.slice none 0 0,.int .i64 0] kK,pt b (c.cells a cap) kK]) (ae.bY (dG [0,0])).ar ?_;exact zq.v)):p:=k ⟨g⟩
theorem UT(k:p:=by exact CR (ay.cell 2 Z Z Z (aE.many 1 Z Z) (IP 0 Z ae.nil).ar ⟨a',c',Z,Z⟩)):p:=k
theorem XJ(g:q)(k:Bq q→p:=by(intro zq;refine VG (VK (Lc:=[]) (fun Fr w hF hs _=>BH Fr w (hm.of hF hs) yd) Z Z ?_);exact zq.v)):p:=k ⟨g⟩
theorem XK(g:q)(k:Bq q→p:=by(intro zq;refine VG (VO.st 0 (cs':=aS { kz R c with whole:=false } y) Z Z Z Z W7 Z Z ?_);exact zq.v)):p:=k ⟨g⟩
theorem UU(g:q)(k:Bq q→p:=by(intro zq;refine VG (VT (vs:=Sl.cells none 0) (cs':=Sl.cells none 0) 0 Z Z Z Z (NR _) Z Z Z ?_);exact zq.v)):p:=k ⟨g⟩
theorem UW(g:q)(k:Bq q→p:=by(intro zq;refine CR (ay.cU 6 7 Z Z Z ae.nil.ar ?_);exact zq.v)):p:=k ⟨g⟩
theorem Kh(g:q)(k:Bq q→p:=by(intro zq;(repeat(first|refine yG (yN ?_)|refine yG (yD 0 rfl rfl rfl rfl rfl ?_)|refine yG (yD 1 rfl rfl rfl rfl rfl ?_)|refine yG (yD 2 rfl rfl rfl rfl rfl ?_)|refine yG (yD 3 rfl rfl rfl rfl rfl ?_)|refine yG (yD 4 rfl rfl rfl rfl rfl ?_)|refine yG (yD 5 rfl rfl rfl rfl rfl ?_)|refine yG (yD 6 rfl rfl rfl rfl rfl ?_)|refine yG (yD 7 rfl rfl rfl rfl rfl ?_)|refine yG (yU rfl rfl rfl rfl ?_)));exact zq.v)):p:=k ⟨g⟩
theorem YY(g:q)(k:Bq q→p:=by(intro zq;refine VG (VL 7 (iz f (ma,ms.length,mc)) Z Z Z Z ?_);exact zq.v)):p:=k ⟨g⟩
theorem Ry(g:q)(k:Bq q→p:=by(intro zq;refine VO.ar (L':=[bz p R,aQ ob []]) shut ?_;exact zq.v)):p:=k ⟨g⟩
theorem HK(k:p:=by exact⟨(),trivial,bd,none_ hT⟩):p:=k
theorem XL(g:q)(k:Bq q→p:=by(intro zq;refine VG (VV (fun Fr w hF hs hS=>Rep.pn Fr w (hS.aP 0 Z) (aI.aJ aF (hS.at_ 1 Z)) ok.ch) Z ?_);exact zq.v)):p:=k ⟨g⟩
theorem UX(g:q)(k:Bq q→p:=by(intro zq;refine VO.ar (L':=[jv w.heap.size b (cH [])]) (ae.DD hB ae.refl).ar ?_;exact zq.v)):p:=k ⟨g⟩
theorem XM(g:q)(k:Bq q→p:=by(intro zq;refine VG (VI (tu (r:=false) Tryz.underlying60 Z (.inl ⟨rfl,Z⟩)) ?_);exact zq.v)):p:=k ⟨g⟩
theorem XN(g:q)(k:Bq q→p:=by(intro zq;refine VG (VI (tu (r:=true) Tryz.underlying60 Z (.inr ⟨_,_,Z,Z⟩)) ?_);exact zq.v)):p:=k ⟨g⟩
theorem XO(g:q)(k:Bq q→p:=by(intro zq;refine VG (VK (Lc:=[xA p ws bad]) (Lr:=[]) (fun Fr w hF hw _=>xB Fr w p ws bad) Z Z ?_);exact zq.v)):p:=k ⟨g⟩
theorem YZ(g:q)(k:Bq q→p:=by(intro zq;refine VG (VO.st 0 (cs':=[r.v,.bool true]) Z Z Z Z (Nat.le_of_ble_eq_true Z) Z Z ?_);exact zq.v)):p:=k ⟨g⟩
theorem XP(k:p:=by exact CR (ay.tmp 2 Z Z (ae.rd (p:=p) (bad:=true) (M:=[]) r hok hx (IP 0 Z (IP 0 Z ae.nil))).ar ⟨rfl,Z⟩)):p:=k
theorem XQ(g:q)(k:Bq q→p:=by(intro zq;refine VG (VO.st 0 (cs':=[r.v,.bool false]) Z Z Z Z (Nat.le_of_ble_eq_true Z) Z Z ?_);exact zq.v)):p:=k ⟨g⟩
theorem XR(k:p:=by exact CR (ay.tmp 2 Z Z (ae.rd (p:=p) (bad:=false) (M:=[]) r hok hx (IP 0 Z (IP 0 Z ae.nil))).ar ⟨rfl,Z⟩)):p:=k
theorem TJ(k:p:=by exact CR (ay.tmp 2 Z Z (ae.rd (p:=p) (bad:=true) (M:=[]) r hok hx (IP 0 Z (IP 0 Z ae.nil))).ar ⟨rfl,by simp⟩)):p:=k
theorem UY(g:q)(k:Bq q→p:=by(intro zq;refine VG (VI (bS k Z Z Z Z Z hk yd) ?_);exact zq.v)):p:=k ⟨g⟩
theorem UZ(g:q)(k:Bq q→p:=by(intro zq;refine VG (VO.load Z Z (aE.aP hK (vi (k:=k) (j:=1) yd Z)) ?_);exact zq.v)):p:=k ⟨g⟩
theorem U0(g:q)(k:Bq q→p:=by(intro zq;refine VG (VO.OI (a8.range Tryz.underlying9 Z) ?_);exact zq.v)):p:=k ⟨g⟩
theorem TK(k:p:=by exact⟨m+1,hm2,by dsimp only;omega,bd,ER⟩):p:=k
theorem U1(g:q)(k:Bq q→p:=by(intro zq;refine VG (VI (LB (pv:=[]) (dR oV) Z Z Z yn Z) ?_);exact zq.v)):p:=k ⟨g⟩
theorem XS(k:p:=by exact CR (ay.aT 2 3 Z Z Z (aE.many (ds:=dR oV) 2 Z Z) Z ae.nil.ar ⟨rfl,.inr ⟨by rw[hlr];rfl,Z⟩⟩)):p:=k
theorem XT(k:p:=by exact CR (ay.Ss 2 3 4 Z Z Z Z (ae.bY ae.nil).ar ⟨none,0,by rw[hJ];rfl,by rw[hJ];rfl⟩)):p:=k
theorem Rz(g:q)(k:Bq q→p:=by(intro zq;refine VG (VL 0 (dR d) Z Z Z Z ?_);exact zq.v)):p:=k ⟨g⟩
theorem aK(g:q)(k:Bq q→p:=by(intro zq;(repeat(first|refine zS ?_|refine zR ?_|refine zB ?_|refine zL ?_|refine zC ?_|refine zG (zN ?_)|refine zG (zU rfl rfl rfl ?_)));exact zq.v)):p:=k ⟨g⟩
theorem O9(k:p:=by exact CR (ay.tmp 4 Z Z ER ⟨rfl,Z⟩)):p:=k
theorem RA(g:q)(k:Bq q→p:=by(intro zq;refine CS (CG (VG (VL 0 (dR oV) Z Z Z Z ?_)));exact zq.v)):p:=k ⟨g⟩
theorem Q2(g:q)(k:Bq q→p:=by(intro zq;refine VG (VT (vs:=dR oV) (cs':=dR oV) 0 Z Z Z Z (NR _) Z Z Z ?_);exact zq.v)):p:=k ⟨g⟩
theorem U2(k:p:=by exact CR (ay.um 2 3 4 Z Z Z (aE.many (ds:=dR oV) 0 Z Z) Z Z ae.nil.ar ⟨.inr ⟨hr,Z⟩,Z⟩)):p:=k
theorem XU(k:p:=by exact CR (ay.um 2 3 4 Z Z Z (aE.many (ds:=dR oV) 1 Z Z) Z Z ae.nil.ar ⟨.inr ⟨hr,Z⟩,Z⟩)):p:=k
theorem aq(g:q)(k:Bq q→p:=by(intro zq;(repeat(first|refine zS ?_|refine zR ?_|refine zB ?_|refine zL ?_|refine zC ?_|refine zG (zN ?_)));exact zq.v)):p:=k ⟨g⟩
theorem TL(g:q)(k:Bq q→p:=by(intro zq;refine VG (VT (vs:=dR d) (cs':=dR d) 0 Z Z Z Z (NR _) Z Z Z ?_);exact zq.v)):p:=k ⟨g⟩
theorem U3(g:q)(k:Bq q→p:=by(intro zq;refine CS (CD (ts 0 1 (.only 1 (.only 2 (.only 3 (.only 4 .nil))))) yn yr ?_);exact zq.v)):p:=k ⟨g⟩
theorem U4(g:q)(k:Bq q→p:=by(intro zq;(repeat(first|refine yG (yN ?_)|refine yG (yD 0 rfl rfl rfl rfl rfl ?_)|refine yG (yD 1 rfl rfl rfl rfl rfl ?_)|refine yG (yD 2 rfl rfl rfl rfl rfl ?_)|refine yG (yD 3 rfl rfl rfl rfl rfl ?_)|refine yG (yD 4 rfl rfl rfl rfl rfl ?_)|refine yG (yD 5 rfl rfl rfl rfl rfl ?_)|refine yG (yU rfl rfl rfl rfl ?_)));exact zq.v)):p:=k ⟨g⟩
theorem TM(g:q)(k:Bq q→p:=by(intro zq;refine AG (VA.st 1 Z Z Z Z Z Nat.zero_lt_one Z Z yu ?_);exact zq.v)):p:=k ⟨g⟩
theorem TN(g:q)(k:Bq q→p:=by(intro zq;refine AG (VA.st 2 Z Z Z Z Z Nat.zero_lt_one Z Z yu ?_);exact zq.v)):p:=k ⟨g⟩
theorem TO(g:q)(k:Bq q→p:=by(intro zq;refine AG (VA.st 3 Z Z Z Z Z Nat.zero_lt_one Z Z yu ?_);exact zq.v)):p:=k ⟨g⟩
theorem U5(g:q)(k:Bq q→p:=by(intro zq;refine AG (VA.st 4 Z Z Z Z Z Nat.zero_lt_one Z Z yu ?_);exact zq.v)):p:=k ⟨g⟩
theorem U6(g:q)(k:Bq q→p:=by(intro zq;refine VA.ar (L':=t_ l rb::xR ⟨lb,tb,mb,eb,nb⟩ x) (dG [8,1,1,1,1]).ar ?_;exact zq.v)):p:=k ⟨g⟩
theorem FT(g:q)(k:Bq q→p:=by(intro zq;(repeat(first|refine yG (yN ?_)|refine yG (yD 0 rfl rfl rfl rfl rfl ?_)|refine yG (yD 1 rfl rfl rfl rfl rfl ?_)|refine yG (yU rfl rfl rfl rfl ?_)));exact zq.v)):p:=k ⟨g⟩
theorem yS(g:q)(k:Bq q→p:=by(intro zq;(repeat(first|refine zS ?_|refine zR ?_|refine zB ?_|refine zL ?_|refine zC ?_|refine zG (zN ?_)|refine zG (zE rfl rfl (aE.aP h rfl) ?_)|refine zG (zU rfl rfl rfl ?_)));exact zq.v)):p:=k ⟨g⟩
theorem ji(g:q)(k:Bq q→p:=by(intro zq;(repeat(first|refine yG (yN ?_)));exact zq.v)):p:=k ⟨g⟩
theorem XV(g:q)(k:Bq q→p:=by(intro zq;refine VG (VT (vs:=eK jy) (cs':=eK jy) 0 Z Z Z Z (NR _) Z Z Z ?_);exact zq.v)):p:=k ⟨g⟩
theorem XW(k:p:=by exact CR (ay.aT 2 3 Z Z Z (aE.many (ds:=eK jy) 0 Z Z) Z ae.nil.ar ⟨rfl,Z⟩)):p:=k
theorem XX(g:q)(k:Bq q→p:=by(intro zq;refine VG (VI (Ag i (i+1) l.length Z Z Z Z Z Z Z Z Z Z yd yd hcap) ?_);exact zq.v)):p:=k ⟨g⟩
theorem U7(g:q)(k:Bq q→p:=by(intro zq;refine CD (ts 0 6 (.only 6 (.take 7 .nil))) yn yr ?_;exact zq.v)):p:=k ⟨g⟩
theorem XY(g:q)(k:Bq q→p:=by(intro zq;refine VG (VI (sY (l.length-1) l.length Z Z Z Z Z Z Z Z yd hcap yd) ?_);exact zq.v)):p:=k ⟨g⟩
theorem XZ(g:q)(k:Bq q→p:=by(intro zq;refine VG (VV (u:=Wb none) (fun Fr w hF hw _=>hr▸jf Fr w s hs) Z ?_);exact zq.v)):p:=k ⟨g⟩
theorem X1(g:q)(k:Bq q→p:=by(intro zq;refine VG (VV (u:=Wb (some (u,r))) (fun Fr w hF hw _=>hr▸jf Fr w s hs) Z ?_);exact zq.v)):p:=k ⟨g⟩
theorem RB(g:q)(k:Bq q→p:=by(intro zq;refine AG (AI Z (cm Z Z YP) ?_);exact zq.v)):p:=k ⟨g⟩
theorem TP(g:q)(k:Bq q→p:=by(intro zq;refine VG (VI (cm Z Z YN) ?_);exact zq.v)):p:=k ⟨g⟩
theorem U8(g:q)(k:Bq q→p:=by(intro zq;refine VG (VV (fun Fr w hF hw _=>hv▸oT Fr w r yd) Z ?_);exact zq.v)):p:=k ⟨g⟩
theorem U9(g:q)(k:Bq q→p:=by(intro zq;refine VG (VI (LB (pv:=[]) (e8.cells ⟨0,bT [],bT [],0⟩) Z Z Z yn Z) ?_);exact zq.v)):p:=k ⟨g⟩
theorem U_(g:q)(k:Bq q→p:=by(intro zq;refine VG (VT (vs:=e8.cells ⟨0,bT [],bT [],0⟩) (cs':=e8.cells ⟨0,bT [],bT [],0⟩) 1 Z Z Z Z (NR _) Z Z Z ?_);exact zq.v)):p:=k ⟨g⟩
theorem X3(g:q)(k:Bq q→p:=by(intro zq;refine VG (VI (LB (pv:=[]) (ez.cells none 0) Z Z Z yn Z) ?_);exact zq.v)):p:=k ⟨g⟩
theorem X4(g:q)(k:Bq q→p:=by(intro zq;refine VG (VT (vs:=ez.cells none 0) (cs':=ez.cells none 0) 0 Z Z Z Z (NR _) Z Z Z ?_);exact zq.v)):p:=k ⟨g⟩
theorem U'(g:q)(k:Bq q→p:=by(intro zq;refine VG (VK (Lc:=[]) (fun Fr w hF hw _=>Ao (c:=c) (a:=a) (cap:=cap) Fr w (h.of hF hw) hl) Z Z ?_);exact zq.v)):p:=k ⟨g⟩
theorem Va(g:q)(k:Bq q→p:=by(intro zq;refine VG (VT (vs:=ez.cells ma mc) (cs':=ez.cells ma mc) 1 Z Z Z Z (NR _) Z Z Z ?_);exact zq.v)):p:=k ⟨g⟩
theorem Y0(g:q)(k:Bq q→p:=by(intro zq;refine VG (VT (vs:=ez.cells none 0) (cs':=ez.cells none 0) 1 Z Z Z Z (NR _) Z Z Z ?_);exact zq.v)):p:=k ⟨g⟩
theorem Vb(g:q)(k:Bq q→p:=by(intro zq;refine VG (VT (vs:=(dL.mk (c.al+1) c.ms c.drain).cells ma mc) (cs':=(dL.mk (c.al+1) c.ms c.drain).cells ma mc) 1 Z Z Z Z (NR _) Z Z Z ?_);exact zq.v)):p:=k ⟨g⟩
theorem X5(g:q)(k:Bq q→p:=by(intro zq;refine VG (VV (fun Fr w hF hw _=>Ap (c:=c) (a:=a) (cap:=cap) Fr w (h.of hF hw) hl n) Z ?_);exact zq.v)):p:=k ⟨g⟩
theorem Vc(g:q)(k:Bq q→p:=by(intro zq;refine VG (VO.load Z Z (aE.lB (ds:=M.ch.cells a c) h Qu) ?_);exact zq.v)):p:=k ⟨g⟩
theorem X6(g:q)(k:Bq q→p:=by(intro zq;refine VG (VK (Lc:=[]) (fun Fr w hF hw _=>rP Fr w (hm.of hF hw) yd) Z Z ?_);exact zq.v)):p:=k ⟨g⟩
theorem RC(g:q)(k:Bq q→p:=by(intro zq;refine VC.e7 0 Z (aV.dk p M) ?_;exact zq.v)):p:=k ⟨g⟩
theorem RD(g:q)(k:Bq q→p:=by(intro zq;refine VG (VL 0 (M.ch.cells a c) Z Z Z Z ?_);exact zq.v)):p:=k ⟨g⟩
theorem RE(g:q)(k:Bq q→p:=by(intro zq;refine VG (VV (fun Fr w hF hw hS=>vA Fr w ok (hS.aP 0 Z)) Z ?_);exact zq.v)):p:=k ⟨g⟩
theorem X7(g:q)(k:Bq q→p:=by(intro zq;refine VG (VK (Lc:=[]) (fun Fr w hF hw hS=>nD Fr w ok (hS.aP 0 Z) (aI.aJ aF (hS.at_ 1 Z)) from_) Z Z ?_);exact zq.v)):p:=k ⟨g⟩
theorem X8(k:p:=by exact CR (ay.tmp 8 Z Z (vD (a:=a) (c:=c) (R:=[_])).ar (Ar (x:=(jR M.ch from_,y)) Z Z))):p:=k
theorem Q3(k:p:=by exact CR (ay.tmp 8 Z Z (gh (a:=a) (c:=c) (R:=[_])).ar (mB Z Z))):p:=k
theorem Vd(g:q)(k:Bq q→p:=by(intro zq;refine AG (AI Z (bS j Z Z Z Z Z hj hj6) ?_);exact zq.v)):p:=k ⟨g⟩
theorem X9(k:p:=by exact CR (ay.tmp 8 Z Z (gh (M:=M.cV from_ now) (a:=a) (c:=c) (R:=[_])).ar (mB Z Z))):p:=k
theorem oc(g:q)(k:Bq q→p:=by(intro zq;(repeat(first|refine yG (yN ?_)|refine yG (yU rfl rfl rfl rfl ?_)));exact zq.v)):p:=k ⟨g⟩
theorem X_(g:q)(k:Bq q→p:=by(intro zq;refine VG (VV (fun Fr w hF hw hS=>rR Fr w ok (hS.aP 0 Z) (aI.aJ aF (hS.at_ 1 Z)) n) Z ?_);exact zq.v)):p:=k ⟨g⟩
theorem Ya(g:q)(k:Bq q→p:=by(intro zq;refine VG (VV (fun Fr w hF hw hS=>o9 Fr w ok (hS.aP 0 Z) (aI.aJ aF (hS.at_ 1 Z)) n) Z ?_);exact zq.v)):p:=k ⟨g⟩
theorem Ve(g:q)(k:Bq q→p:=by(intro zq;refine VG (VV (fun Fr w hF hw _=>vE Fr w ok (h.of hF hw)) Z ?_);exact zq.v)):p:=k ⟨g⟩
theorem Yb(g:q)(k:Bq q→p:=by(intro zq;refine VG (VO.load (v:=.pointer (some ⟨y.b,0,none⟩)) Z Z (aE.aP h (hv _ ho)) ?_);exact zq.v)):p:=k ⟨g⟩
theorem O_(g:q)(k:Bq q→p:=by(intro zq;refine VC.e7 0 Z (aV.pz p S) ?_;exact zq.v)):p:=k ⟨g⟩
theorem TQ(g:q)(k:Bq q→p:=by(intro zq;refine CN (L':=[cw p S]) (ae.pz y ae.refl).ar ?_;exact zq.v)):p:=k ⟨g⟩
theorem Vf(g:q)(k:Bq q→p:=by(intro zq;refine VG (VK (Lc:=[cw p S]) (Lr:=[]) (fun Fr w hF hw _=>qI Fr w ho reason) Z Z ?_);exact zq.v)):p:=k ⟨g⟩
theorem Q4(k:p:=by exact CR (ay.tmp 6 Z Z ER ⟨X,sa,sc,hX,Z,List.append_nil _⟩)):p:=k
theorem Yc(g:q)(k:Bq q→p:=by(intro zq;refine VG (VO.st 0 (cs':=ed { S with unsure:=true } y) Z Z Z Z W6 Z Z ?_);exact zq.v)):p:=k ⟨g⟩
theorem Vh(g:q)(k:Bq q→p:=by(intro zq;refine VG (VV (fun Fr w hF hw hS=>vE Fr w ok (hS.aP 0 Z)) Z ?_);exact zq.v)):p:=k ⟨g⟩
theorem Vi(g:q)(k:Bq q→p:=by(intro zq;refine VG (VV (fun Fr w hF hw _=>As Fr w now) Z ?_);exact zq.v)):p:=k ⟨g⟩
theorem J2(k:p:=by exact CR (ay.tmp 6 Z Z (mD (y:=y) (R:=[_])).ar (mE Z Z))):p:=k
theorem TR(k:p:=by exact CR (ay.tmp 4 Z Z ER ⟨X,sa,sc,hX,Z,List.append_nil _⟩)):p:=k
theorem TS(k:p:=by exact CR (ay.tmp 4 Z Z (mD (y:=y) (R:=[])).ar (mE Z Z))):p:=k
theorem Yd(g:q)(k:Bq q→p:=by(intro zq;refine VG (VK (Lc:=[cw p S]) (Lr:=[]) (fun Fr w hF hw _=>xX Fr w ok tn) Z Z ?_);exact zq.v)):p:=k ⟨g⟩
theorem Ye(g:q)(k:Bq q→p:=by(intro zq;refine CN (L':=[cw p (S.begun o cl d)]) (ae.pz (S:=S.begun o cl d) { y with b:=sb } (dG [0,0,0,0])).ar ?_;exact zq.v)):p:=k ⟨g⟩
theorem Vj(k:p:=by exact CR (ay.cU 4 5 Z Z Z ae.nil.ar YO)):p:=k
theorem TT(k:p:=by exact CR (ay.tmp 8 Z Z (fin a cap) ⟨by rw[hE],by rw[bK.mF hE yp]⟩)):p:=k
theorem Yf(g:q)(k:Bq q→p:=by(intro zq;refine VG (VV (fun Fr w hF hw hS=>Cs Fr w ok (hS.aP 0 Z) (aI.aJ iP (hS.at_ 1 Z)) c) Z ?_);exact zq.v)):p:=k ⟨g⟩
theorem Yg(k:p:=by exact CR (ay.tmp 8 Z Z (fin _ _) ⟨by rw[hE2],by rw[bK.mF hE2 yp]⟩)):p:=k
theorem TU(k:p:=by exact CR (ay.tmp 8 Z Z fin ⟨by rw[g2],by rw[g1]⟩)):p:=k
theorem Y1(g:q)(k:Bq q→p:=by(intro zq;refine VG (VI (LB (pv:=[]) oa Z Z Z yn Z) ?_);exact zq.v)):p:=k ⟨g⟩
theorem Y2(g:q)(k:Bq q→p:=by(intro zq;refine VG (VT (vs:=oa) (cs':=oa) 4 Z Z Z Z (NR _) Z Z Z ?_);exact zq.v)):p:=k ⟨g⟩
theorem Q5(k:p:=by exact CR (ay.aT 2 3 Z Z Z (aE.many (ds:=oa) 4 Z Z) Z ae.nil.ar YQ)):p:=k
theorem Vk(g:q)(k:Bq q→p:=by(intro zq;(repeat(first|refine zS ?_|refine zR ?_|refine zB ?_|refine zL ?_|refine zC ?_|refine zG (zN ?_)|refine zG (zD 0 rfl rfl rfl rfl ?_)|refine zG (zD 1 rfl rfl rfl rfl ?_)|refine zG (zD 2 rfl rfl rfl rfl ?_)|refine zG (zD 3 rfl rfl rfl rfl ?_)));exact zq.v)):p:=k ⟨g⟩
theorem Yh(g:q)(k:Bq q→p:=by(intro zq;refine VG (VL 0 ((dL.mk k1 ms dr).cells (some ⟨mb,0,none⟩) k) Z Z Z Z ?_);exact zq.v)):p:=k ⟨g⟩
theorem Yi(g:q)(k:Bq q→p:=by(intro zq;refine VG (VT (vs:=NU f.res) (cs':=NU f.res) 0 Z Z Z Z (NR _) Z Z Z ?_);exact zq.v)):p:=k ⟨g⟩
theorem Yj(g:q)(k:Bq q→p:=by(intro zq;refine VG (VT (vs:=NV f.entry) (cs':=NV f.entry) 0 Z Z Z Z (NR _) Z Z Z ?_);exact zq.v)):p:=k ⟨g⟩
theorem RF(k:p:=by exact⟨(),trivial,bd,ae.nil.ar⟩):p:=k
theorem Vl(k:p:=by exact⟨(10,[],true,[]),AV.bad Z n10,bd,ae.nil.ar⟩):p:=k
theorem RG(g:q)(k:Bq q→p:=by(intro zq;refine VG (VI (LB (pv:=[]) (aa.zero.cells cS) Z Z Z yn Z) ?_);exact zq.v)):p:=k ⟨g⟩
theorem Vm(g:q)(k:Bq q→p:=by(intro zq;refine VG (VT (vs:=aa.zero.cells cS) (cs':=aa.zero.cells cS) 0 Z Z Z Z (NR _) Z Z Z ?_);exact zq.v)):p:=k ⟨g⟩
theorem Yk(g:q)(k:Bq q→p:=by(intro zq;refine VG (VT (vs:=aa.zero.cells cS) (cs':=aa.zero.cells cS) 1 Z Z Z Z (NR _) Z Z Z ?_);exact zq.v)):p:=k ⟨g⟩
theorem Yl(k:p:=by exact CR (ay.aT 2 3 Z Z Z (aE.many (ds:=aa.zero.cells cS) 1 Z Z) Z ae.nil.ar Uj)):p:=k
theorem Vn(g:q)(k:Bq q→p:=by(intro zq;refine VG (VL 0 (f.cells (ma,ms.length,mc)) Z Z Z Z ?_);exact zq.v)):p:=k ⟨g⟩
theorem Vo(g:q)(k:Bq q→p:=by(intro zq;refine CN (L':=pt p (wX S b) G_::gL wU Ha b X::X.map wW) (ae.of_eq (List.append_nil _)).ar ?_;exact zq.v)):p:=k ⟨g⟩
theorem Vp(g:q)(k:Bq q→p:=by(intro zq;refine VG (VI (LB (pv:=[(0,.int .i64 x),(1,.int .i64 y)]) [.int .i64 x,.int .i64 y] Z Z Z yn Z) ?_);exact zq.v)):p:=k ⟨g⟩
theorem Ym(g:q)(k:Bq q→p:=by(intro zq;refine VG (VT (vs:=[.int .i64 x,.int .i64 y]) (cs':=[.int .i64 x,.int .i64 y]) 0 Z Z Z Z (NR _) Z Z Z ?_);exact zq.v)):p:=k ⟨g⟩
theorem RH(k:p:=by exact CR (ay.tmp 4 Z Z fin ⟨by rw[hE],by rw[Ju hE yp]⟩)):p:=k
theorem RI(g:q)(k:Bq q→p:=by(intro zq;refine AG (VA.kn 1 [.int .i64 x,.int .i64 y] Z Z Z Z Z ?_);exact zq.v)):p:=k ⟨g⟩
theorem Vq(g:q)(k:Bq q→p:=by(intro zq;refine VG (VI (LB (pv:=[]) (dw 0 0 ⟨#[]⟩) Z Z Z yn Z) ?_);exact zq.v)):p:=k ⟨g⟩
theorem Q6(g:q)(k:Bq q→p:=by(intro zq;refine VG (VT (vs:=dw 0 0 ⟨#[]⟩) (cs':=dw 0 0 ⟨#[]⟩) 0 Z Z Z Z (NR _) Z Z Z ?_);exact zq.v)):p:=k ⟨g⟩
theorem Vr(g:q)(k:Bq q→p:=by(intro zq;refine VG (VT (vs:=dw x y t) (cs':=dw x y t) 0 Z Z Z Z (NR _) Z Z Z ?_);exact zq.v)):p:=k ⟨g⟩
theorem Vs(g:q)(k:Bq q→p:=by(intro zq;refine VG (VI (a_ k Z Z Z Z Z Z hkl) ?_);exact zq.v)):p:=k ⟨g⟩
theorem Yn(k:p:=by exact⟨k+1,by omega,by dsimp only;omega,SC Z (SC Z (SC Z (SC Z (Sub.int Z yd (SN _))))),by dsimp only;rw[←h1];exact(IP 1 Z ae.nil).ar⟩):p:=k
theorem Yo(k:p:=by exact⟨[pf H a c X],⟨_,Z,X,a,c,e,Z,Z⟩,ae.sep (ae.cons (ae.sep (ae.of_eq (List.append_nil _).symm)))⟩):p:=k
theorem Yp(k:p:=by exact CR (ay.tmp 4 Z Z (ae.tail.trans (gf (R:=[]) fit)).ar ⟨by rw[hr],by rw[hr]⟩)):p:=k
theorem TV(g:q)(k:Bq q→p:=by(intro zq;refine VC.e7 0 Z (aV.O0 p C) ?_;exact zq.v)):p:=k ⟨g⟩
theorem Vt(g:q)(k:Bq q→p:=by(intro zq;refine CN (L':=gO p C y) (ae.of_eq (List.append_nil _)).ar ?_;exact zq.v)):p:=k ⟨g⟩
theorem Yq(g:q)(k:Bq q→p:=by(intro zq;refine VG (VV (fun Fr w hF hw hS=>C3 Fr w fitd (hS.aP 2 Z) (hS.aP 5 Z) (hS.aP 6 Z) ht0 ht1) Z ?_);exact zq.v)):p:=k ⟨g⟩
theorem Vu(g:q)(k:Bq q→p:=by(intro zq;refine VG (VI (v8 true Tryz.underlying227 Z (.inr ⟨_,_,_,Z,Z⟩)) ?_);exact zq.v)):p:=k ⟨g⟩
theorem Vv(g:q)(k:Bq q→p:=by(intro zq;refine CD (ts 0 11 (.only 11 (.only 12 .nil))) yn yr ?_;exact zq.v)):p:=k ⟨g⟩
theorem Vw(g:q)(k:Bq q→p:=by(intro zq;refine AG (VA.kn 0 (f.cells (ma,ms.length,mc)) Z Z Z Z Z ?_);exact zq.v)):p:=k ⟨g⟩
theorem Yr(k:p:=by exact⟨k+1,by omega,by dsimp only;omega,SC Z (SC Z (SC Z (Sub.int Z yd (SN _)))),by dsimp only;rw[hsu,e1];exact(ae.tail (H:=pt ob _ _)).ar⟩):p:=k
theorem Ys(g:q)(k:Bq q→p:=by(intro zq;refine VG (VV (fun Fr w hF hw hS=>AA Fr w fit (hS.aP 1 Z) (hS.aP 4 Z) s.a) Z ?_);exact zq.v)):p:=k ⟨g⟩
theorem Yt(k:p:=by exact CR (ay.tmp 4 Z Z (ae.trans (ae.tail (H:=pt sb _ yF)) (gf (p:=p) (C:=C) (R:=[]) fit)).ar ⟨by rw[hr],by rw[hr]⟩)):p:=k
theorem Vx(g:q)(k:Bq q→p:=by(intro zq;refine CN (L':=pt sb s.cells yF::dh y.mp C.dk::O4 p C y C.cB) (ae.cons AD).ar ?_;exact zq.v)):p:=k ⟨g⟩
theorem Yu(g:q)(k:Bq q→p:=by(intro zq;refine VG (VQ 6 Z (fun Fr w hF hs hS=>ee Fr w (hS.aP 2 Z) ok.cB 16 (pO.at_ 1 hS Z hX fw)) Z (ψ:=fun v H=>v=.tuple #[]∧H=eG y.lp (bW 16 C.cB (X.map Prod.fst))) yy ?_);exact zq.v)):p:=k ⟨g⟩
theorem TW(g:q)(k:Bq q→p:=by(intro zq;refine VG (VL 0 (F.cells fa fc) Z Z Z Z ?_);exact zq.v)):p:=k ⟨g⟩
theorem TX(g:q)(k:Bq q→p:=by(intro zq;refine VG (VI (a_ i Z Z Z Z Z Z hil) ?_);exact zq.v)):p:=k ⟨g⟩
theorem Yv(g:q)(k:Bq q→p:=by(intro zq;refine VG (VV (fun Fr w hF' hw hS=>Hr Fr w hS d 0 Z hd.1 hd.2 (bX.st (X:=⟨Tryz.prog,tab,ah,57,_,_⟩) hG hF' hw) (cj.st (X:=⟨Tryz.prog,tab,ah,57,_,_⟩) hK hF' hw)) Z ?_);exact zq.v)):p:=k ⟨g⟩
theorem Yw(g:q)(k:Bq q→p:=by(intro zq;refine VG (VK (Lc:=[]) (fun Fr w hF' hw hS=>Hp Fr w F (fT hq hF' hw) hqc) Z Z ?_);exact zq.v)):p:=k ⟨g⟩
theorem Vy(k:p:=by exact CR (ay.cU 4 5 Z Z Z ae.nil.ar ⟨rfl,Z⟩)):p:=k
theorem RJ(g:q)(k:Bq q→p:=by(intro zq;refine AG (AI Z (a_ i Z Z Z Z Z Z hil) ?_);exact zq.v)):p:=k ⟨g⟩
theorem TY(g:q)(k:Bq q→p:=by(intro zq;refine VG (VL 1 (F.cells fa fc) Z Z Z Z ?_);exact zq.v)):p:=k ⟨g⟩
theorem Vz(g:q)(k:Bq q→p:=by(intro zq;refine VG (VV (fun Fr w hF hw _=>EN Fr w (bX.st (X:=⟨Tryz.prog,tab,ah,183,_,_⟩) hG hF hw) (cj.st (X:=⟨Tryz.prog,tab,ah,183,_,_⟩) hK hF hw)) Z ?_);exact zq.v)):p:=k ⟨g⟩
theorem O'(k:p:=by exact one _ e (Option.some.inj h).symm):p:=k
theorem Ki(g:q)(k:Bq q→p:=by(intro zq;refine aK ?_;refine wm ?_;exact zq.v)):p:=k ⟨g⟩
theorem Ov(g:q)(k:Bq q→p:=by(intro zq;refine an ?_;refine JY ?_;exact zq.v)):p:=k ⟨g⟩
theorem RM(g:q)(k:Bq q→p:=by(intro zq;refine aq ?_;refine JY ?_;exact zq.v)):p:=k ⟨g⟩
theorem Ow(g:q)(k:Bq q→p:=by(intro zq;refine wm ?_;refine an ?_;exact zq.v)):p:=k ⟨g⟩
theorem w7(g:q)(k:Bq q→p:=by(intro zq;refine an ?_;refine r_ ?_;exact zq.v)):p:=k ⟨g⟩
theorem qO(g:q)(k:Bq q→p:=by(intro zq;refine RM ?_;refine aq ?_;exact zq.v)):p:=k ⟨g⟩
theorem sd(g:q)(k:Bq q→p:=by(intro zq;refine Ov ?_;refine an ?_;exact zq.v)):p:=k ⟨g⟩
theorem FU(g:q)(k:Bq q→p:=by(intro zq;refine r_ ?_;refine aq ?_;exact zq.v)):p:=k ⟨g⟩
theorem Kj(g:q)(k:Bq q→p:=by(intro zq;refine HF ?_;refine an ?_;exact zq.v)):p:=k ⟨g⟩
theorem wv(g:q)(k:Bq q→p:=by(intro zq;refine Ki ?_;refine aK ?_;exact zq.v)):p:=k ⟨g⟩
theorem Dh(g:q)(k:Bq q→p:=by(intro zq;refine eP ?_;refine Ow ?_;exact zq.v)):p:=k ⟨g⟩
theorem EY(g:q)(k:Bq q→p:=by(intro zq;refine aq ?_;refine FU ?_;exact zq.v)):p:=k ⟨g⟩
theorem Pa(g:q)(k:Bq q→p:=by(intro zq;refine aq ?_;refine wm ?_;exact zq.v)):p:=k ⟨g⟩
theorem Y3(g:q)(k:Bq q→p:=by(intro zq;refine an ?_;refine UF ?_;exact zq.v)):p:=k ⟨g⟩
theorem Pb(g:q)(k:Bq q→p:=by(intro zq;refine Y3 ?_;refine an ?_;exact zq.v)):p:=k ⟨g⟩
theorem Hz(g:q)(k:Bq q→p:=by(intro zq;refine ji ?_;refine aq ?_;exact zq.v)):p:=k ⟨g⟩
theorem HA(g:q)(k:Bq q→p:=by(intro zq;refine aq ?_;refine Ty ?_;exact zq.v)):p:=k ⟨g⟩
theorem HL(g:q)(k:Bq q→p:=by(intro zq;refine Ki ?_;refine aq ?_;exact zq.v)):p:=k ⟨g⟩
theorem Kk(g:q)(k:Bq q→p:=by(intro zq;refine AM ?_;refine CS (CG ?_);exact zq.v)):p:=k ⟨g⟩
theorem J3(g:q)(k:Bq q→p:=by(intro zq;refine w7 ?_;refine an ?_;exact zq.v)):p:=k ⟨g⟩
theorem J4(g:q)(k:Bq q→p:=by(intro zq;refine eP ?_;refine r_ ?_;exact zq.v)):p:=k ⟨g⟩
theorem J5(g:q)(k:Bq q→p:=by(intro zq;refine an ?_;refine Ow ?_;exact zq.v)):p:=k ⟨g⟩
theorem Y4(g:q)(k:Bq q→p:=by(intro zq;refine Xo ?_;refine Xp ?_;exact zq.v)):p:=k ⟨g⟩
theorem TZ(g:q)(k:Bq q→p:=by(intro zq;refine Hy ?_;refine lS ?_;exact zq.v)):p:=k ⟨g⟩
theorem Y5(g:q)(k:Bq q→p:=by(intro zq;refine eT ?_;refine YX ?_;exact zq.v)):p:=k ⟨g⟩
theorem Yx(g:q)(k:Bq q→p:=by(intro zq;refine Y5 ?_;refine eT ?_;exact zq.v)):p:=k ⟨g⟩
theorem J6(g:q)(k:Bq q→p:=by(intro zq;refine aK ?_;refine r_ ?_;exact zq.v)):p:=k ⟨g⟩
theorem Kl(g:q)(k:Bq q→p:=by(intro zq;refine an ?_;refine Xc ?_;exact zq.v)):p:=k ⟨g⟩
theorem Yy(g:q)(k:Bq q→p:=by(intro zq;refine YT ?_;refine Xm ?_;exact zq.v)):p:=k ⟨g⟩
theorem Yz(g:q)(k:Bq q→p:=by(intro zq;refine Hy ?_;refine eT ?_;exact zq.v)):p:=k ⟨g⟩
theorem Y6(g:q)(k:Bq q→p:=by(intro zq;refine Xz ?_;refine XA ?_;exact zq.v)):p:=k ⟨g⟩
theorem Km(g:q)(k:Bq q→p:=by(intro zq;refine Y6 ?_;refine Yx ?_;exact zq.v)):p:=k ⟨g⟩
theorem Kn(g:q)(k:Bq q→p:=by(intro zq;refine pP ?_;refine Kj ?_;exact zq.v)):p:=k ⟨g⟩
theorem Ko(g:q)(k:Bq q→p:=by(intro zq;refine aK ?_;refine X3 ?_;exact zq.v)):p:=k ⟨g⟩
theorem J7(k:p:=by(refine Y4 ?_;exact Xq)):p:=k
theorem Ox(g:q)(k:Bq q→p:=by(intro zq;refine an ?_;refine Uw ?_;exact zq.v)):p:=k ⟨g⟩
theorem Oy(g:q)(k:Bq q→p:=by(intro zq;refine eT ?_;refine an ?_;exact zq.v)):p:=k ⟨g⟩
theorem YA(g:q)(k:Bq q→p:=by(intro zq;refine YS ?_;refine Yy ?_;exact zq.v)):p:=k ⟨g⟩
theorem Y7(g:q)(k:Bq q→p:=by(intro zq;refine Hy ?_;refine YW ?_;exact zq.v)):p:=k ⟨g⟩
theorem YB(g:q)(k:Bq q→p:=by(intro zq;refine Y7 ?_;refine Yz ?_;exact zq.v)):p:=k ⟨g⟩
theorem Oz(g:q)(k:Bq q→p:=by(intro zq;refine aq ?_;refine r_ ?_;exact zq.v)):p:=k ⟨g⟩
theorem YC(g:q)(k:Bq q→p:=by(intro zq;refine YR ?_;refine YA ?_;exact zq.v)):p:=k ⟨g⟩
theorem YD(g:q)(k:Bq q→p:=by(intro zq;refine YV ?_;refine YB ?_;exact zq.v)):p:=k ⟨g⟩
theorem Pc(g:q)(k:Bq q→p:=by(intro zq;refine lS ?_;refine TZ ?_;exact zq.v)):p:=k ⟨g⟩
theorem T0(k:p:=by(refine eT ?_;exact⟨rb,trivial,bd,ER⟩)):p:=k
theorem Pe(g:q)(k:Bq q→p:=by(intro zq;refine an ?_;refine YY ?_;exact zq.v)):p:=k ⟨g⟩
theorem Pf(g:q)(k:Bq q→p:=by(intro zq;refine Pa ?_;refine aq ?_;exact zq.v)):p:=k ⟨g⟩
theorem Pg(g:q)(k:Bq q→p:=by(intro zq;refine Y0 ?_;refine aK ?_;exact zq.v)):p:=k ⟨g⟩
theorem T5(g:q)(k:Bq q→p:=by(intro zq;refine AG (AY 29 false Z Z ?_);refine Xs ?_;exact zq.v)):p:=k ⟨g⟩
theorem T6(g:q)(k:Bq q→p:=by(intro zq;refine VG (VY 16 false Z Z ?_);refine eP ?_;exact zq.v)):p:=k ⟨g⟩
theorem T7(g:q)(k:Bq q→p:=by(intro zq;refine aq ?_;refine VG (VO.ld 0 Z Z Z Z ?_);exact zq.v)):p:=k ⟨g⟩
theorem T8(g:q)(k:Bq q→p:=by(intro zq;refine VG (VY 16 true Z Z ?_);refine eP ?_;exact zq.v)):p:=k ⟨g⟩
theorem T9(g:q)(k:Bq q→p:=by(intro zq;refine aK ?_;refine VG (VY 5 true Z Z ?_);exact zq.v)):p:=k ⟨g⟩
theorem VE(g:q)(k:Bq q→p:=by(intro zq;refine aK ?_;refine VG (VL 2 (c.cells a cap) Z Z Z Z ?_);exact zq.v)):p:=k ⟨g⟩
theorem VF(g:q)(k:Bq q→p:=by(intro zq;refine aq ?_;refine VG (VL 0 (c.cells qa qc) Z Z Z Z ?_);exact zq.v)):p:=k ⟨g⟩
theorem Q7(g:q)(k:Bq q→p:=by(intro zq;refine an ?_;refine Xe ?_;exact zq.v)):p:=k ⟨g⟩
theorem Q8(g:q)(k:Bq q→p:=by(intro zq;refine UJ ?_;refine YC ?_;exact zq.v)):p:=k ⟨g⟩
theorem Q9(g:q)(k:Bq q→p:=by(intro zq;refine YU ?_;refine YD ?_;exact zq.v)):p:=k ⟨g⟩
theorem Q_(g:q)(k:Bq q→p:=by(intro zq;refine YZ ?_;refine an ?_;exact zq.v)):p:=k ⟨g⟩
theorem Ra(g:q)(k:Bq q→p:=by(intro zq;refine Pb ?_;refine Kj ?_;exact zq.v)):p:=k ⟨g⟩
theorem Rb(g:q)(k:Bq q→p:=by(intro zq;refine wm ?_;refine aq ?_;exact zq.v)):p:=k ⟨g⟩
theorem Y8(g:q)(k:Bq q→p:=by(intro zq;refine Y1 ?_;refine Y2 ?_;exact zq.v)):p:=k ⟨g⟩
theorem Rc(g:q)(k:Bq q→p:=by(intro zq;refine Y8 ?_;refine aq ?_;exact zq.v)):p:=k ⟨g⟩
theorem VH(k:p:=by(refine an ?_;exact CR (ay.tmp 2 Z Z ER ⟨q,Z,Z⟩))):p:=k
theorem Re(g:q)(k:Bq q→p:=by(intro zq;refine CK ?_;refine an ?_;exact zq.v)):p:=k ⟨g⟩
theorem VJ(g:q)(k:Bq q→p:=by(intro zq;refine VG (VI (fE Z Z) ?_);refine aK ?_;exact zq.v)):p:=k ⟨g⟩
theorem VR(g:q)(k:Bq q→p:=by(intro zq;refine an ?_;refine VG (VL 0 (jB row) Z Z Z Z ?_);exact zq.v)):p:=k ⟨g⟩
theorem VS(g:q)(k:Bq q→p:=by(intro zq;refine an ?_;refine VG (VO.text Z 0 Z hO Z ?_);exact zq.v)):p:=k ⟨g⟩
end Go.Proofs.YthnlpdacbcjgpaaGreatDoor
