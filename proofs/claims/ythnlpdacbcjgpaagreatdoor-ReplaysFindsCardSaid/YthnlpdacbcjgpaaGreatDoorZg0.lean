/- Abbreviations of tactics. No condition. -/
import Derived.OrdersHeld
import Derived.OrdersIn
import Derived.TacticsIn
import Derived.Sort.LoopGhostIn
import Derived.Deep.MidRow
import Derived.Laws.AppendOwn
import Derived.Below
import Derived.WalkKit
import Derived.Scope
import Derived.MapKept
import Derived.Laws.StructEq
import Derived.Laws.BitsAllLaws
import Derived.Test.YthnlpdacbcjgpaaGreatDoorRows
import Derived.KernelRfl
import Derived.Shelf.Strings.Builder1
import Derived.Shelf.Small.Strs
import Derived.Shelf.Strings.BuilderF
import Derived.Shelf.Strings.BuilderK
import Derived.Shelf.Strconv.Atoi
import Derived.Shelf.Strconv.Itoa0
import Derived.Shelf.Strconv.Itoa1
import Derived.Shelf.LaysM
import Derived.Shelf.Strconv.Itoa2
import Derived.Shelf.Strconv.Itoa3
import Derived.Shelf.Strconv.AtoiErrFast
import Derived.Shelf.Strconv.ParseIntEmpty
import Derived.Shelf.Strconv.AtoiFail
import Derived.Shelf.Strconv.Clone
import Derived.Shelf.Strconv.SyntaxError
import Derived.Shelf.LaysC
import Derived.Shelf.Strconv.ToError
import Derived.Shelf.Strconv.Lower
import Derived.Shelf.Strconv.ParseUint10
import Derived.Shelf.Strconv.ParseUint10Empty
import Derived.Shelf.Strconv.ParseUint10Any
import Derived.Shelf.Strconv.ParseInt10
import Derived.Shelf.Strconv.AtoiLong
import Derived.Shelf.Strconv.AtoiInnerAll
import Derived.Shelf.Strconv.RangeError
import Derived.Shelf.Strconv.ToErrorRange
import Derived.Shelf.Strconv.AtoiAll
import Derived.Shelf.Strconv.ErrVarAll
import Derived.Shelf.Strings.Search1
import Derived.Shelf.Strings.Search2
import Derived.Shelf.Strings.Search3
import Derived.Shelf.Strings.Cut
import Derived.Shelf.Strings.Count
import Derived.Shelf.Strings.Shaped
import Derived.Shelf.Strings.Split
import Derived.Shelf.Strings.SplitShaped
import Derived.Shelf.Unicode.DecodeSlow
import Derived.Test.YthnlpdacbcjgpaaGreatDoorProg
import Derived.Shelf.SlGeneric
import Derived.Shelf.SlMaps.Clone
import Derived.Laws.LoneSync
import Derived.Lib.Builder
import Derived.Lib.ItoaMem
import Derived.Lib.LaidTab
import Derived.Lib.Join
import Derived.Lib.OthersKept
import Derived.Lib.UnsafeStr
import Derived.Lib.ItoaLen
import Derived.Lib.AtoiAllCases
import Derived.RangeFuncRecord
import Derived.Tactics
import Derived.Tactics2
import Derived.Defers
import Derived.Laws.Pointers
import Derived.RegionTactic
import Derived.RegionCalls
import Derived.Maps.RangeRun
import Derived.ProofKit
import Derived.OpenShut
import Derived.SizedLaws
import Derived.Carry
import Derived.Deep.Strs
import Derived.Deep.Slices
import Derived.LaidMore
import Derived.MakeChecks
import Derived.Stop.Joined
import Derived.Test.YthnlpdacbcjgpaaGreatDoorCards
import Derived.Test.YthnlpdacbcjgpaaGreatDoorTie
import Derived.Lay
import Derived.SevenTiedAt
namespace Go.Proofs.YthnlpdacbcjgpaaGreatDoor
theorem ZM:type_of% @List.length_append:=@List.length_append
theorem ZN:type_of% @List.append_nil:=@List.append_nil
theorem ZO:type_of% @Nat.zero_le:=@Nat.zero_le
theorem ZP:type_of% @List.getElem?_eq_some_iff:=@List.getElem?_eq_some_iff
theorem ZQ:type_of% @Nat.zero_add:=@Nat.zero_add
theorem ZR:type_of% @List.length_map:=@List.length_map
theorem ZS:type_of% @List.getElem?_map:=@List.getElem?_map
theorem ZT:type_of% @Nat.le_of_ble_eq_true:=@Nat.le_of_ble_eq_true
theorem ZU:type_of% @Int.toNat_natCast:=@Int.toNat_natCast
theorem ZV:type_of% @List.mem_cons:=@List.mem_cons
theorem ZW:type_of% @List.length_cons:=@List.length_cons
theorem ZX:type_of% @List.append_assoc:=@List.append_assoc
theorem ZY:type_of% @List.mem_append:=@List.mem_append
theorem ZZ:type_of% @List.take_add_one:=@List.take_add_one
theorem Z0:type_of% @List.mem_map:=@List.mem_map
theorem Z1:type_of% @List.length_take:=@List.length_take
theorem Z2:type_of% @Bool.and_eq_true:=@Bool.and_eq_true
theorem Z3:type_of% @Option.some.inj:=@Option.some.inj
theorem Z4:type_of% @List.length_set:=@List.length_set
theorem Z5:type_of% @Int.le_refl:=@Int.le_refl
theorem Z6:type_of% @List.mem_filter:=@List.mem_filter
theorem Z7:type_of% @List.mem_singleton:=@List.mem_singleton
theorem Z8:type_of% @List.nodup_append:=@List.nodup_append
theorem Z9:type_of% @List.getElem?_set_self:=@List.getElem?_set_self
theorem Z_:type_of% @List.map_set:=@List.map_set
theorem Z':type_of% @List.take_length:=@List.take_length
theorem Z{α:Sort _}{a:α}:a=a:=rfl
structure Bq(q:Prop):Prop where
 v:q
variable {p q:Prop}
theorem DF:type_of% @decide_eq_false:=@decide_eq_false
theorem DT:type_of% @decide_eq_true:=@decide_eq_true
theorem GE:type_of% @List.getElem?_eq_getElem:=@List.getElem?_eq_getElem
theorem NR:type_of% @Nat.le_refl:=@Nat.le_refl
theorem ME:type_of% @List.mem_of_getElem?:=@List.mem_of_getElem?
theorem yv(k:p:=by(try refine Pd.st ?_);(repeat(first|exact Pd.nil|exact Pd.fnil|refine Pd.inner ?_|refine Pd.skip (by decide +kernel) ?_|refine zf (zo 0 Z Z) ?_|refine zf (zo 1 Z Z) ?_|refine zf (zo 2 Z Z) ?_|refine zf (zo 3 Z Z) ?_|refine zf (zo 4 Z Z) ?_|refine zf (zo 5 Z Z) ?_|refine zf (zo 6 Z Z) ?_|refine zf (zo 7 Z Z) ?_|refine zf (zo 8 Z Z) ?_|refine zf (zm 0 Z Z) ?_|refine zf (zm 1 Z Z) ?_|refine zf (zm 2 Z Z) ?_|refine zf (zm 3 Z Z) ?_|refine zf (zm 4 Z Z) ?_|refine zf (zm 5 Z Z) ?_|refine zf (zm 6 Z Z) ?_|refine zf (zm 7 Z Z) ?_|refine zf (zm 8 Z Z) ?_|refine zc (zo 0 Z Z) ?_|refine zc (zo 1 Z Z) ?_|refine zc (zo 2 Z Z) ?_|refine zc (zo 3 Z Z) ?_|refine zc (zo 4 Z Z) ?_|refine zc (zo 5 Z Z) ?_|refine zc (zo 6 Z Z) ?_|refine zc (zo 7 Z Z) ?_|refine zc (zo 8 Z Z) ?_|refine zc (zm 0 Z Z) ?_|refine zc (zm 1 Z Z) ?_|refine zc (zm 2 Z Z) ?_|refine zc (zm 3 Z Z) ?_|refine zc (zm 4 Z Z) ?_|refine zc (zm 5 Z Z) ?_|refine zc (zm 6 Z Z) ?_|refine zc (zm 7 Z Z) ?_|refine zc (zm 8 Z Z) ?_|refine Pd.mV (pK.one 0 Z) ?_|refine Pd.mV (pK.one 1 Z) ?_|refine Pd.mV (pK.one 2 Z) ?_|refine Pd.mV (pK.one 3 Z) ?_|refine Pd.mV (pK.one 4 Z) ?_|refine Pd.mV (pK.one 5 Z) ?_|refine Pd.mV (pK.one 6 Z) ?_|refine Pd.mV (pK.one 7 Z) ?_|refine Pd.mV (pK.one 8 Z) ?_|refine Pd.consM (pK.one 0 Z) ?_|refine Pd.consM (pK.one 1 Z) ?_|refine Pd.consM (pK.one 2 Z) ?_|refine Pd.consM (pK.one 3 Z) ?_|refine Pd.consM (pK.one 4 Z) ?_|refine Pd.consM (pK.one 5 Z) ?_|refine Pd.consM (pK.one 6 Z) ?_|refine Pd.consM (pK.one 7 Z) ?_|refine Pd.consM (pK.one 8 Z) ?_))):p:=k
theorem Dy(k:p:=by(try refine Pd.st ?_);(repeat(first|exact Pd.nil|exact Pd.fnil|refine Pd.inner ?_|refine Pd.skip (by decide +kernel) ?_|refine zf (zo 0 rfl rfl) ?_|refine zf (zo 1 rfl rfl) ?_|refine zf (zo 2 rfl rfl) ?_|refine zf (zo 3 rfl rfl) ?_|refine zf (zo 4 rfl rfl) ?_|refine zf (zo 5 rfl rfl) ?_|refine zf (zo 6 rfl rfl) ?_|refine zf (zo 7 rfl rfl) ?_|refine zf (zo 8 rfl rfl) ?_|refine zf (zm 0 rfl rfl) ?_|refine zf (zm 1 rfl rfl) ?_|refine zf (zm 2 rfl rfl) ?_|refine zf (zm 3 rfl rfl) ?_|refine zf (zm 4 rfl rfl) ?_|refine zf (zm 5 rfl rfl) ?_|refine zf (zm 6 rfl rfl) ?_|refine zf (zm 7 rfl rfl) ?_|refine zf (zm 8 rfl rfl) ?_|refine zc (zo 0 rfl rfl) ?_|refine zc (zo 1 rfl rfl) ?_|refine zc (zo 2 rfl rfl) ?_|refine zc (zo 3 rfl rfl) ?_|refine zc (zo 4 rfl rfl) ?_|refine zc (zo 5 rfl rfl) ?_|refine zc (zo 6 rfl rfl) ?_|refine zc (zo 7 rfl rfl) ?_|refine zc (zo 8 rfl rfl) ?_|refine zc (zm 0 rfl rfl) ?_|refine zc (zm 1 rfl rfl) ?_|refine zc (zm 2 rfl rfl) ?_|refine zc (zm 3 rfl rfl) ?_|refine zc (zm 4 rfl rfl) ?_|refine zc (zm 5 rfl rfl) ?_|refine zc (zm 6 rfl rfl) ?_|refine zc (zm 7 rfl rfl) ?_|refine zc (zm 8 rfl rfl) ?_))):p:=k
theorem yu(k:p:=by(try refine Pd.st ?_);(repeat(first|exact Pd.nil|exact Pd.fnil|refine Pd.inner ?_|refine Pd.skip (by decide +kernel) ?_|refine zf (zo 0 Z Z) ?_|refine zf (zo 1 Z Z) ?_|refine zf (zo 2 Z Z) ?_|refine zf (zo 3 Z Z) ?_|refine zf (zo 4 Z Z) ?_|refine zf (zo 5 Z Z) ?_|refine zf (zo 6 Z Z) ?_|refine zf (zo 7 Z Z) ?_|refine zf (zo 8 Z Z) ?_|refine zf (zm 0 Z Z) ?_|refine zf (zm 1 Z Z) ?_|refine zf (zm 2 Z Z) ?_|refine zf (zm 3 Z Z) ?_|refine zf (zm 4 Z Z) ?_|refine zf (zm 5 Z Z) ?_|refine zf (zm 6 Z Z) ?_|refine zf (zm 7 Z Z) ?_|refine zf (zm 8 Z Z) ?_|refine zc (zo 0 Z Z) ?_|refine zc (zo 1 Z Z) ?_|refine zc (zo 2 Z Z) ?_|refine zc (zo 3 Z Z) ?_|refine zc (zo 4 Z Z) ?_|refine zc (zo 5 Z Z) ?_|refine zc (zo 6 Z Z) ?_|refine zc (zo 7 Z Z) ?_|refine zc (zo 8 Z Z) ?_|refine zc (zm 0 Z Z) ?_|refine zc (zm 1 Z Z) ?_|refine zc (zm 2 Z Z) ?_|refine zc (zm 3 Z Z) ?_|refine zc (zm 4 Z Z) ?_|refine zc (zm 5 Z Z) ?_|refine zc (zm 6 Z Z) ?_|refine zc (zm 7 Z Z) ?_|refine zc (zm 8 Z Z) ?_))):p:=k
theorem W8(k:p:=by(try refine Pd.st ?_);(repeat(first|exact Pd.nil|exact Pd.fnil|refine Pd.inner ?_|refine Pd.skip (by decide +kernel) ?_|refine zf (zo 0 Z Z) ?_|refine zf (zo 1 Z Z) ?_|refine zf (zo 2 Z Z) ?_|refine zf (zo 3 Z Z) ?_|refine zf (zo 4 Z Z) ?_|refine zf (zm 0 Z Z) ?_|refine zf (zm 1 Z Z) ?_|refine zf (zm 2 Z Z) ?_|refine zf (zm 3 Z Z) ?_|refine zf (zm 4 Z Z) ?_|refine zf (aE.aP (aE.many 0 Z Z) Z) ?_|refine zf ((aE.many 0 Z Z)) ?_|refine zc (zo 0 Z Z) ?_|refine zc (zo 1 Z Z) ?_|refine zc (zo 2 Z Z) ?_|refine zc (zo 3 Z Z) ?_|refine zc (zo 4 Z Z) ?_|refine zc (zm 0 Z Z) ?_|refine zc (zm 1 Z Z) ?_|refine zc (zm 2 Z Z) ?_|refine zc (zm 3 Z Z) ?_|refine zc (zm 4 Z Z) ?_|refine zc (aE.aP (aE.many 0 Z Z) Z) ?_|refine zc ((aE.many 0 Z Z)) ?_))):p:=k
theorem UI(k:p:=by(try refine Pd.st ?_);(repeat(first|exact Pd.nil|exact Pd.fnil|refine Pd.inner ?_|refine Pd.skip (by decide +kernel) ?_|refine zf (zo 0 Z Z) ?_|refine zf (zo 1 Z Z) ?_|refine zf (zo 2 Z Z) ?_|refine zf (zo 3 Z Z) ?_|refine zf (zo 4 Z Z) ?_|refine zf (zm 0 Z Z) ?_|refine zf (zm 1 Z Z) ?_|refine zf (zm 2 Z Z) ?_|refine zf (zm 3 Z Z) ?_|refine zf (zm 4 Z Z) ?_|refine zf (aE.aP PQ Z) ?_|refine zf (PQ) ?_|refine zc (zo 0 Z Z) ?_|refine zc (zo 1 Z Z) ?_|refine zc (zo 2 Z Z) ?_|refine zc (zo 3 Z Z) ?_|refine zc (zo 4 Z Z) ?_|refine zc (zm 0 Z Z) ?_|refine zc (zm 1 Z Z) ?_|refine zc (zm 2 Z Z) ?_|refine zc (zm 3 Z Z) ?_|refine zc (zm 4 Z Z) ?_|refine zc (aE.aP PQ Z) ?_|refine zc (PQ) ?_))):p:=k
theorem Rk(k:p:=by(try refine Pd.st ?_);(repeat(first|exact Pd.nil|exact Pd.fnil|refine Pd.inner ?_|refine Pd.skip (by decide +kernel) ?_|refine zf (zo 0 Z Z) ?_|refine zf (zo 1 Z Z) ?_|refine zf (zo 2 Z Z) ?_|refine zf (zo 3 Z Z) ?_|refine zf (zm 0 Z Z) ?_|refine zf (zm 1 Z Z) ?_|refine zf (zm 2 Z Z) ?_|refine zf (zm 3 Z Z) ?_|refine zf (aE.aP (aE.many 0 Z Z) Z) ?_|refine zf ((aE.many 0 Z Z)) ?_|refine zc (zo 0 Z Z) ?_|refine zc (zo 1 Z Z) ?_|refine zc (zo 2 Z Z) ?_|refine zc (zo 3 Z Z) ?_|refine zc (zm 0 Z Z) ?_|refine zc (zm 1 Z Z) ?_|refine zc (zm 2 Z Z) ?_|refine zc (zm 3 Z Z) ?_|refine zc (aE.aP (aE.many 0 Z Z) Z) ?_|refine zc ((aE.many 0 Z Z)) ?_))):p:=k
theorem W9(k:p:=by(try refine Pd.st ?_);(repeat(first|exact Pd.nil|exact Pd.fnil|refine Pd.inner ?_|refine Pd.skip (by decide +kernel) ?_|refine zf (zo 0 Z Z) ?_|refine zf (zo 1 Z Z) ?_|refine zf (zo 2 Z Z) ?_|refine zf (zm 0 Z Z) ?_|refine zf (zm 1 Z Z) ?_|refine zf (zm 2 Z Z) ?_|refine zf (aE.aP (aE.one 5 Z (iW hx)) Z) ?_|refine zf ((aE.one 5 Z (iW hx))) ?_|refine zc (zo 0 Z Z) ?_|refine zc (zo 1 Z Z) ?_|refine zc (zo 2 Z Z) ?_|refine zc (zm 0 Z Z) ?_|refine zc (zm 1 Z Z) ?_|refine zc (zm 2 Z Z) ?_|refine zc (aE.aP (aE.one 5 Z (iW hx)) Z) ?_|refine zc ((aE.one 5 Z (iW hx))) ?_))):p:=k
theorem UJ(k:p:=by(try refine Pd.st ?_);(repeat(first|exact Pd.nil|exact Pd.fnil|refine Pd.inner ?_|refine Pd.skip (by decide +kernel) ?_|refine zf (zo 0 Z Z) ?_|refine zf (zo 1 Z Z) ?_|refine zf (zo 2 Z Z) ?_|refine zf (zm 0 Z Z) ?_|refine zf (zm 1 Z Z) ?_|refine zf (zm 2 Z Z) ?_|refine zf (aE.aP (aE.many 0 Z Z) Z) ?_|refine zf ((aE.many 0 Z Z)) ?_|refine zc (zo 0 Z Z) ?_|refine zc (zo 1 Z Z) ?_|refine zc (zo 2 Z Z) ?_|refine zc (zm 0 Z Z) ?_|refine zc (zm 1 Z Z) ?_|refine zc (zm 2 Z Z) ?_|refine zc (aE.aP (aE.many 0 Z Z) Z) ?_|refine zc ((aE.many 0 Z Z)) ?_))):p:=k
theorem Tz(k:p:=by(try refine Pd.st ?_);(repeat(first|exact Pd.nil|exact Pd.fnil|refine Pd.inner ?_|refine Pd.skip (by decide +kernel) ?_|refine zf (aE.aP (aE.aP h Z) Z) ?_|refine zf (aE.aP (aE.lG (ds:=R.ch.cells x.a x.c) h Z) Z) ?_|refine zf ((aE.aP h Z)) ?_|refine zf ((aE.lG (ds:=R.ch.cells x.a x.c) h Z)) ?_|refine zc (aE.aP (aE.aP h Z) Z) ?_|refine zc (aE.aP (aE.lG (ds:=R.ch.cells x.a x.c) h Z) Z) ?_|refine zc ((aE.aP h Z)) ?_|refine zc ((aE.lG (ds:=R.ch.cells x.a x.c) h Z)) ?_))):p:=k
theorem yz(k:p:=by(try refine Pd.st ?_);(repeat(first|exact Pd.nil|exact Pd.fnil|refine Pd.inner ?_|refine Pd.skip (by decide +kernel) ?_|refine zf (aE.aP (aE.aP hb Z) Z) ?_|refine zf (aE.aP (aE.lG (ds:=gw es) hb Z) Z) ?_|refine zf ((aE.aP hb Z)) ?_|refine zf ((aE.lG (ds:=gw es) hb Z)) ?_|refine zc (aE.aP (aE.aP hb Z) Z) ?_|refine zc (aE.aP (aE.lG (ds:=gw es) hb Z) Z) ?_|refine zc ((aE.aP hb Z)) ?_|refine zc ((aE.lG (ds:=gw es) hb Z)) ?_))):p:=k
theorem W_(k:p:=by(try refine Pd.st ?_);(repeat(first|exact Pd.nil|exact Pd.fnil|refine Pd.inner ?_|refine Pd.skip (by decide +kernel) ?_|refine zf (zo 0 Z Z) ?_|refine zf (zo 1 Z Z) ?_|refine zf (zm 0 Z Z) ?_|refine zf (zm 1 Z Z) ?_|refine zf (aE.aP (aE.many 0 Z Z) Z) ?_|refine zf ((aE.many 0 Z Z)) ?_|refine zc (zo 0 Z Z) ?_|refine zc (zo 1 Z Z) ?_|refine zc (zm 0 Z Z) ?_|refine zc (zm 1 Z Z) ?_|refine zc (aE.aP (aE.many 0 Z Z) Z) ?_|refine zc ((aE.many 0 Z Z)) ?_))):p:=k
theorem Xa(k:p:=by(try refine Pd.st ?_);(repeat(first|exact Pd.nil|exact Pd.fnil|refine Pd.inner ?_|refine Pd.skip (by decide +kernel) ?_|refine zf (aE.aP hb Z) ?_|refine zf (aE.aP (aE.lG hp hrow) Z) ?_|refine zf (hb) ?_|refine zf ((aE.lG hp hrow)) ?_|refine zc (aE.aP hb Z) ?_|refine zc (aE.aP (aE.lG hp hrow) Z) ?_|refine zc (hb) ?_|refine zc ((aE.lG hp hrow)) ?_))):p:=k
theorem TA(k:p:=by(try refine Pd.st ?_);(repeat(first|exact Pd.nil|exact Pd.fnil|refine Pd.inner ?_|refine Pd.skip (by decide +kernel) ?_|refine zf (zo 0 Z Z) ?_|refine zf (zm 0 Z Z) ?_|refine zf (aE.aP hb Z) ?_|refine zf (hb) ?_|refine zc (zo 0 Z Z) ?_|refine zc (zm 0 Z Z) ?_|refine zc (aE.aP hb Z) ?_|refine zc (hb) ?_))):p:=k
theorem yx(k:p:=by(try refine Pd.st ?_);(repeat(first|exact Pd.nil|exact Pd.fnil|refine Pd.inner ?_|refine Pd.skip (by decide +kernel) ?_|refine zf (aE.aP (aE.aP hb Z) Z) ?_|refine zf ((aE.aP hb Z)) ?_|refine zc (aE.aP (aE.aP hb Z) Z) ?_|refine zc ((aE.aP hb Z)) ?_))):p:=k
theorem Xb(k:p:=by rw[ByteArray.size_append,ByteArray.size_append,dk,dk,dk,dk];omega):p:=k
theorem Xc(k:p:=by rw[(mJ he (by decide)).1,(mJ he (by decide)).2,he];exact gK Z Z):p:=k
theorem Xd(k:p:=by show 0+k*1<_;rw[Nat.zero_add,List.length_append,bp wj];omega):p:=k
theorem Xe(k:p:=by rw[List.length_append,refs,List.length_map,List.length_take];omega):p:=k
theorem wE(k:p:=by(repeat refine Pd.filter ?_);exact hS _ (.tail _ (.tail _ (.head _)))):p:=k
theorem Kl(k:p:=by(repeat refine Pd.filter ?_);exact hS _ (.tail _ (.head _))):p:=k
theorem Zf(k:p:=by rw[dk,dk];simp only[List.length_append];omega):p:=k
theorem Xf(k:p:=by rw[ByteArray.size_append,dk,dk,dk];omega):p:=k
theorem Xg(k:p:=by rw[List.take_zero,List.flatMap_nil,List.append_nil];rfl):p:=k
theorem UK(k:p:=by rw[show getM s=none from(by exact hG)];exact⟨rfl,Z⟩):p:=k
theorem Xh(k:p:=by rw[aQ,List.length_append];show _+1≤_;omega):p:=k
theorem Xi(k:p:=by exact(fun v L h=>⟨_,by rw[hch] at h;exact h.2,h.1,Z⟩)):p:=k
theorem yw(k:p:=by rw[dU,if_neg hb,if_neg h1,if_pos h2,hg]):p:=k
theorem Xj(k:p:=by rw[sK h];show 0+15+n*1<21;omega):p:=k
theorem Xk(k:p:=by unfold cw;repeat' split;all_goals omega):p:=k
theorem Xl(k:p:=by rw[e];simp only[List.append_assoc];rfl):p:=k
theorem Xm(k:p:=by rw[i64_in _ (by omega) (by omega)];omega):p:=k
theorem Xn(k:p:=by rw[bp ie,h.marks];omega):p:=k
theorem Xo(k:p:=by have:=h0.wf.n0;have:=h0.len;omega):p:=k
theorem Xp(k:p:=by show(0+c.ms.length)*16≤_;omega):p:=k
theorem UL(k:p:=by show 2+3≤_;rw[nG ok];omega):p:=k
theorem yi(k:p:=by simpa using(List.mem_filter.1 hp1).2):p:=k
theorem Xq(k:p:=by show(done.length+1)*1≤_;omega):p:=k
theorem Xr(k:p:=by rw[aQ];show _+1≤_;omega):p:=k
theorem Xs(k:p:=by rw[←beq_eq_false_iff_ne.2 he];rfl):p:=k
theorem yl(k:p:=by simp[stepG,stepG.exec,Frame.atR]):p:=k
theorem UM(k:p:=by show(0+l.length)*16≤_;omega):p:=k
theorem Xt(k:p:=by rw[mn,IH];exact hi2):p:=k
theorem yo(k:p:=by simp[a6,lH,h1];omega):p:=k
theorem Xu(k:p:=by rw[if_pos hyes];exact⟨p,Z,Z⟩):p:=k
theorem TB(k:p:=by simp only[bS];rw[hcr];rfl):p:=k
theorem Km(k:p:=by rw[List.length_append];omega):p:=k
theorem UN(k:p:=by rw[aQ,aQ];omega):p:=k
theorem Xv(k:p:=by rw[if_neg hf];exact⟨rfl,Z⟩):p:=k
theorem Zg(k:p:=by rw[if_neg hE];exact⟨rfl,Z⟩):p:=k
theorem Xw(k:p:=by rw[hW];exact⟨a2,c2,Z,Z⟩):p:=k
theorem TC(k:p:=by rw[List.length_take];omega):p:=k
theorem Xx(k:p:=by rw[hel];exact⟨_,_,Z,Z⟩):p:=k
theorem Zh(k:p:=by rw[dk,dk];omega):p:=k
theorem yy(k:p:=by exact(fun v L h=>⟨_,h.2,h.1,Z⟩)):p:=k
theorem TD(k:p:=by show(0:Int)≤95;omega):p:=k
theorem UO(k:p:=by show ms.length≤_;omega):p:=k
theorem yh(k:p:=by rw[hpr] at h0;cases h0):p:=k
theorem HV(k:p:=by rw[aQ];exact hm2):p:=k
theorem Zi(k:p:=by rw[hn];exact⟨rfl,Z⟩):p:=k
theorem UP(k:p:=by show 0≤900000;omega):p:=k
theorem UQ(k:p:=by show 0≤800000;omega):p:=k
theorem Pw(k:p:=by rw[aQ];omega):p:=k
theorem KD(k:p:=by rw[hsz,hs1];omega):p:=k
theorem Xy(k:p:=by show 12<21;omega):p:=k
theorem RP(k:p:=by show 3<12;omega):p:=k
theorem UR(k:p:=by rw[hwt];exact h2):p:=k
theorem Xz(k:p:=by show 8<17;omega):p:=k
theorem TE(k:p:=by show 9<21;omega):p:=k
theorem yq(k:p:=by rw[si,hc];rfl):p:=k
theorem TG(k:p:=by show 2<3;omega):p:=k
theorem OQ(k:p:=by show 1<3;omega):p:=k
theorem tZ(k:p:=by dsimp only;omega):p:=k
theorem RQ(k:p:=by rw[hlv];decide):p:=k
theorem TH(k:p:=by simp[lK,hr]):p:=k
theorem KE(k:p:=by rw[hsz];omega):p:=k
theorem TJ(k:p:=by rw[hf];decide):p:=k
theorem TK(k:p:=by rw[←hfc];rfl):p:=k
theorem yk(k:p:=by simpa using hi):p:=k
theorem ym(k:p:=by simpa using hb):p:=k
theorem yr(k:p:=by decide +kernel):p:=k
theorem US(k:p:=by rw[←hd];rfl):p:=k
theorem iy(k:p:=by rw[h];decide):p:=k
theorem OR(k:p:=by simpa using k1):p:=k
theorem yc(k:p:=by simpa using h):p:=k
theorem KF(k:p:=by rw[h1];simp):p:=k
theorem RR(k:p:=by rw[hL];rfl):p:=k
theorem yb(k:p:=by simp[hs.1]):p:=k
theorem ye(k:p:=by simp;omega):p:=k
theorem RS(k:p:=by rw[e];rfl):p:=k
theorem Gc(k:p:=by exact(fun v L h=>h)):p:=k
theorem yn(k:p:=by kernel_rfl):p:=k
theorem TL(k:p:=by simp[bY]):p:=k
theorem yg(k:p:=by simp[h1]):p:=k
theorem yj(k:p:=by simp[h2]):p:=k
theorem ya(k:p:=by simp[h]):p:=k
theorem yp(k:p:=by decide):p:=k
theorem KG(k:p:=by rw[e]):p:=k
theorem yd(k:p:=by omega):p:=k
theorem yf(k:p:=by simp):p:=k
theorem XA(k:p:=by exact⟨fun _ _=>trivial,hk Q' hQ _ _ _ (ha.cE hd _) (hG.put hf _) hw⟩):p:=k
theorem TM(k:p:=by exact .inl ⟨_,E _ (fun w=>r1 w),h⟩):p:=k
theorem TN(k:p:=by exact .inl ⟨_,E _ (fun w=>r2 w),h⟩):p:=k
theorem XB(k:p:=by exact .inl ⟨v,fun a ha _ _ _ _ _ w=>by simp only[execOp,ha.ev hv];rfl,h⟩):p:=k
theorem XC(k:p:=by exact .inl ⟨_,fun a ha _ _ _ _ _ w=>by simp only[execOp,ha.ev hv];rfl,h⟩):p:=k
theorem XD(k:p:=by exact .inl ⟨_,fun a ha _ _ _ _ _ w=>by simp only[execOp,ha.ev hv,ha.ev hu];rfl,h⟩):p:=k
theorem UT(k:p:=by exact List.nodup_append.2 ⟨hGn,hnl,fun x hx y hy he=>(hGb x hx).1 (.inr (he▸hy))⟩):p:=k
theorem UU(k:p:=by exact⟨fun h'=>(hGb b h).1 (.inl h'),(hGb b h).2⟩):p:=k
theorem TO(k:p:=by exact⟨(hb b ya).1,Nat.lt_of_lt_of_le (hb b ya).2 h4.size⟩):p:=k
theorem XE(k:p:=by exact h.cK.trans ⟨rfl,Z,Z,by rw[oo];exact NR _,fun c hc=>ku fun he=>hf (he▸hc),NR _⟩):p:=k
theorem UW(k:p:=by exact⟨_,⟨H',hψ,Z⟩,jq.back i H' hi w' hs⟩):p:=k
theorem TP(k:p:=by exact .inl ⟨v,w',L'',h1,h4,h5⟩):p:=k
theorem TQ(k:p:=by exact .inr (.inl ⟨w',L'',h1,h4,h5⟩)):p:=k
theorem an(g:q)(k:Bq q→p:=by(intro zq;(repeat(first|refine zS ?_|refine zR ?_|refine zB ?_|refine zL ?_|refine zC ?_|refine zG (zN ?_)|refine zG (zD 0 rfl rfl rfl rfl ?_)));exact zq.v)):p:=k ⟨g⟩
theorem H5(g:q)(k:Bq q→p:=by(intro zq;refine VC.jt Z ?_;exact zq.v)):p:=k ⟨g⟩
theorem Dt(g:q)(k:Bq q→p:=by(intro zq;(repeat(first|refine zS ?_|refine zR ?_|refine zB ?_|refine zL ?_|refine zC ?_|refine zG (zN ?_)|refine zG (zE rfl rfl (aE.aP hb rfl) ?_)));exact zq.v)):p:=k ⟨g⟩
theorem XF(g:q)(k:Bq q→p:=by(intro zq;refine VG (VI (a_ i Z Z Z Z Z Z hi2) ?_);exact zq.v)):p:=k ⟨g⟩
theorem H6(g:q)(k:Bq q→p:=by(intro zq;refine VG (VO.load Z Z (ra _ _ Z Z) ?_);exact zq.v)):p:=k ⟨g⟩
theorem Gd(g:q)(k:Bq q→p:=by(intro zq;refine VG (VP Z Z yd yd ?_);exact zq.v)):p:=k ⟨g⟩
theorem UX(g:q)(k:Bq q→p:=by(intro zq;refine VG (VI (fI (u:=[]) (v:=[.pointer (some ⟨b,0,none⟩)]) Z Z) ?_);exact zq.v)):p:=k ⟨g⟩
theorem eR(g:q)(k:Bq q→p:=by(intro zq;(repeat(first|refine zS ?_|refine zR ?_|refine zB ?_|refine zL ?_|refine zC ?_|refine zG (zN ?_)|refine zG (zD 0 rfl rfl rfl rfl ?_)|refine zG (zU rfl rfl rfl ?_)));exact zq.v)):p:=k ⟨g⟩
theorem XG(k:p:=by exact⟨(),trivial,SC Z (Sub.bl Z (by simp[ql];omega) (SN _)),ER⟩):p:=k
theorem UY(g:q)(k:Bq q→p:=by(intro zq;refine VG (VL 0 (c.cells a cap) Z Z Z Z ?_);exact zq.v)):p:=k ⟨g⟩
theorem RT(g:q)(k:Bq q→p:=by(intro zq;refine VG (VK (Lc:=[]) (fun Fr w hF hw _=>tu (c:=c) (a:=a) (cap:=cap) Fr w) Z Z ?_);exact zq.v)):p:=k ⟨g⟩
theorem jd(g:q)(k:Bq q→p:=by(intro zq;(repeat(first|refine zS ?_|refine zR ?_|refine zB ?_|refine zL ?_|refine zC ?_|refine zG (zN ?_)|refine zG (zD 0 rfl rfl rfl rfl ?_)|refine zG (zD 1 rfl rfl rfl rfl ?_)));exact zq.v)):p:=k ⟨g⟩
theorem sj(g:q)(k:Bq q→p:=by(intro zq;(repeat(first|refine zS ?_|refine zR ?_|refine zB ?_|refine zL ?_|refine zC ?_|refine zG (zN ?_)|refine zG (zD 0 rfl rfl rfl rfl ?_)|refine zG (zD 1 rfl rfl rfl rfl ?_)|refine zG (zD 2 rfl rfl rfl rfl ?_)));exact zq.v)):p:=k ⟨g⟩
theorem RU(g:q)(k:Bq q→p:=by(intro zq;refine VG (VY 40 true Z Z ?_);exact zq.v)):p:=k ⟨g⟩
theorem pQ(g:q)(k:Bq q→p:=by(intro zq;(repeat(first|refine zS ?_|refine zR ?_|refine zB ?_|refine zL ?_|refine zC ?_|refine zG (zN ?_)|refine zG (zD 0 rfl rfl rfl rfl ?_)|refine zG (zD 1 rfl rfl rfl rfl ?_)|refine zG (zD 2 rfl rfl rfl rfl ?_)|refine zG (zU rfl rfl rfl ?_)));exact zq.v)):p:=k ⟨g⟩
theorem Rl(g:q)(k:Bq q→p:=by(intro zq;refine VG (VY 40 false Z Z ?_);exact zq.v)):p:=k ⟨g⟩
theorem wH(g:q)(k:Bq q→p:=by(intro zq;(repeat(first|refine zS ?_|refine zR ?_|refine zB ?_|refine zL ?_|refine zC ?_|refine zG (zN ?_)|refine zG (zD 0 rfl rfl rfl rfl ?_)|refine zG (zD 1 rfl rfl rfl rfl ?_)|refine zG (zU rfl rfl rfl ?_)));exact zq.v)):p:=k ⟨g⟩
theorem sk(g:q)(k:Bq q→p:=by(intro zq;refine VC.jt Z (CK ?_);exact zq.v)):p:=k ⟨g⟩
theorem wF(g:q)(k:Bq q→p:=by(intro zq;refine VC.kr Z ?_;exact zq.v)):p:=k ⟨g⟩
theorem RV(g:q)(k:Bq q→p:=by(intro zq;refine VG (VI (a_ k Z Z Z Z Z Z hk) ?_);exact zq.v)):p:=k ⟨g⟩
theorem KH(k:p:=by exact CR (ay.tmp 2 Z Z ae.nil.ar ⟨rfl,Z⟩)):p:=k
theorem H7(g:q)(k:Bq q→p:=by(intro zq;refine VG (VO.zp Z Z yd yd ?_);exact zq.v)):p:=k ⟨g⟩
theorem TR(g:q)(k:Bq q→p:=by(intro zq;refine VG (VO.sr (u:=.int .i64 (placeOf c.ms n)) Z (fun Fr w hF hs hS=>lg Fr w (hS.aP 0 Z) (h.of hF hs) yd n) Z ?_);exact zq.v)):p:=k ⟨g⟩
theorem Px(g:q)(k:Bq q→p:=by(intro zq;refine VG (VL 1 (c.cells a cap) Z Z Z Z ?_);exact zq.v)):p:=k ⟨g⟩
theorem Bd(g:q)(k:Bq q→p:=by(intro zq;refine VG (VN ?_);exact zq.v)):p:=k ⟨g⟩
theorem eW(g:q)(k:Bq q→p:=by(intro zq;(repeat(first|refine yG (yN ?_)|refine yG (yD 0 rfl rfl rfl rfl rfl ?_)));exact zq.v)):p:=k ⟨g⟩
theorem Rm(g:q)(k:Bq q→p:=by(intro zq;refine AG (VA.zp Z Z Z yd yd ?_);exact zq.v)):p:=k ⟨g⟩
theorem Fe(g:q)(k:Bq q→p:=by(intro zq;(repeat(first|refine zS ?_|refine zR ?_|refine zB ?_|refine zL ?_|refine zC ?_|refine zG (zN ?_)|refine zG (zE rfl rfl (aE.aP h rfl) ?_)));exact zq.v)):p:=k ⟨g⟩
theorem UZ(g:q)(k:Bq q→p:=by(intro zq;refine VG (VV (fun Fr w hF hs _=>bj Fr w (h.of hF hs) hc) Z ?_);exact zq.v)):p:=k ⟨g⟩
theorem Rn(k:p:=by exact CR (ay.int 2 Z Z Z ER ⟨rfl,Z⟩)):p:=k
theorem Kn(g:q)(k:Bq q→p:=by(intro zq;(repeat(first|refine yG (yN ?_)|refine yG (yE rfl rfl rfl (aE.aP h rfl) ?_)));exact zq.v)):p:=k ⟨g⟩
theorem H8(g:q)(k:Bq q→p:=by(intro zq;refine AG (AP Z Z Z yd yd ?_);exact zq.v)):p:=k ⟨g⟩
theorem Ro(k:p:=by exact CR (ay.bool 2 Z Z Z ER ⟨rfl,Z⟩)):p:=k
theorem TS(g:q)(k:Bq q→p:=by(intro zq;refine VG (VV (fun Fr w hF hs hS=>bj Fr w (hS.aP 0 Z) o1) Z ?_);exact zq.v)):p:=k ⟨g⟩
theorem U0(k:p:=by exact CR (ay.tmp 4 Z Z ER ⟨by rw[hb],by rw[cF.Dx,hb];rfl⟩)):p:=k
theorem Py(k:p:=by exact ay.void Z ER ⟨rfl,Z⟩):p:=k
theorem Du(g:q)(k:Bq q→p:=by(intro zq;refine CS (CG (VG (VN ?_)));exact zq.v)):p:=k ⟨g⟩
theorem lW(g:q)(k:Bq q→p:=by(intro zq;(repeat(first|refine yG (yN ?_)|refine yG (yD 0 rfl rfl rfl rfl rfl ?_)|refine yG (yU rfl rfl rfl rfl ?_)));exact zq.v)):p:=k ⟨g⟩
theorem U1(k:p:=by exact CR (ay.cV 2 3 Z Z Z ER ⟨by rw[hb];rfl,by rw[cF.next,hb];rfl⟩)):p:=k
theorem U2(g:q)(k:Bq q→p:=by(intro zq;refine VG (VO.ik (fun Fr w=>bm Fr w o) Z ?_);exact zq.v)):p:=k ⟨g⟩
theorem TT(g:q)(k:Bq q→p:=by(intro zq;(repeat(first|refine zS ?_|refine zR ?_|refine zB ?_|refine zL ?_|refine zC ?_|refine zG (zN ?_)|refine zG (zD 0 rfl rfl rfl rfl ?_)|refine zG (zE rfl rfl (aE.aP hp rfl) ?_)));exact zq.v)):p:=k ⟨g⟩
theorem RW(g:q)(k:Bq q→p:=by(intro zq;refine VG (VY 5 false Z Z ?_);exact zq.v)):p:=k ⟨g⟩
theorem Dz(k:p:=by exact CR (ay.tmp 2 Z Z ER ⟨rfl,Z⟩)):p:=k
theorem U3(g:q)(k:Bq q→p:=by(intro zq;refine VG (VV (fun Fr w hF hs _=>bj Fr w (h.of hF hs)) Z ?_);exact zq.v)):p:=k ⟨g⟩
theorem XH(g:q)(k:Bq q→p:=by(intro zq;refine VG (VI (LB (pv:=[]) (bn c_) Z Z Z yn Z) ?_);exact zq.v)):p:=k ⟨g⟩
theorem U4(g:q)(k:Bq q→p:=by(intro zq;refine VG (VT (vs:=bn c_) 0 Z Z Z Z (NR _) Z Z Z ?_);exact zq.v)):p:=k ⟨g⟩
theorem t_(g:q)(k:Bq q→p:=by(intro zq;(repeat(first|refine yG (yN ?_)|refine yG (yD 0 rfl rfl rfl rfl rfl ?_)|refine yG (yD 1 rfl rfl rfl rfl rfl ?_)|refine yG (yD 2 rfl rfl rfl rfl rfl ?_)|refine yG (yD 3 rfl rfl rfl rfl rfl ?_)));exact zq.v)):p:=k ⟨g⟩
theorem U5(g:q)(k:Bq q→p:=by(intro zq;refine CS (CD (ts 0 10 (.only 10 .nil)) yn yr ?_);exact zq.v)):p:=k ⟨g⟩
theorem Ko(g:q)(k:Bq q→p:=by(intro zq;(repeat(first|refine yG (yN ?_)|refine yG (yD 0 rfl rfl rfl rfl rfl ?_)|refine yG (yD 1 rfl rfl rfl rfl rfl ?_)|refine yG (yD 2 rfl rfl rfl rfl rfl ?_)|refine yG (yD 3 rfl rfl rfl rfl rfl ?_)|refine yG (yD 4 rfl rfl rfl rfl rfl ?_)));exact zq.v)):p:=k ⟨g⟩
theorem Dv(g:q)(k:Bq q→p:=by(intro zq;(repeat(first|refine zS ?_|refine zR ?_|refine zB ?_|refine zL ?_|refine zC ?_|refine zG (zN ?_)|refine zG (zD 0 rfl rfl rfl rfl ?_)|refine zG (zD 1 rfl rfl rfl rfl ?_)|refine zG (zD 2 rfl rfl rfl rfl ?_)|refine zG (zD 3 rfl rfl rfl rfl ?_)|refine zG (zD 4 rfl rfl rfl rfl ?_)));exact zq.v)):p:=k ⟨g⟩
theorem TU(g:q)(k:Bq q→p:=by(intro zq;refine CS (CD (ts 0 6 (.only 6 .nil)) yn yr ?_);exact zq.v)):p:=k ⟨g⟩
theorem U6(g:q)(k:Bq q→p:=by(intro zq;refine VG (VV (fun Fr w hF hs hS=>bj Fr w (hb.of hF hs)) Z ?_);exact zq.v)):p:=k ⟨g⟩
theorem RX(g:q)(k:Bq q→p:=by(intro zq;(repeat(first|refine yG (yN ?_)|refine yG (yE rfl rfl rfl (aE.aP hb rfl) ?_)));exact zq.v)):p:=k ⟨g⟩
theorem TV(g:q)(k:Bq q→p:=by(intro zq;(repeat(first|refine zS ?_|refine zR ?_|refine zB ?_|refine zL ?_|refine zC ?_|refine zG (zN ?_)|refine zG (zD 0 rfl rfl rfl rfl ?_)|refine zG (zD 1 rfl rfl rfl rfl ?_)|refine zG (zD 2 rfl rfl rfl rfl ?_)|refine zG (zD 3 rfl rfl rfl rfl ?_)|refine zG (zD 4 rfl rfl rfl rfl ?_)|refine zG (zD 5 rfl rfl rfl rfl ?_)));exact zq.v)):p:=k ⟨g⟩
theorem OS(g:q)(k:Bq q→p:=by(intro zq;(repeat(first|refine zS ?_|refine zR ?_|refine zB ?_|refine zL ?_|refine zC ?_|refine zG (zN ?_)|refine zG (zD 0 rfl rfl rfl rfl ?_)|refine zG (zD 1 rfl rfl rfl rfl ?_)|refine zG (zD 2 rfl rfl rfl rfl ?_)|refine zG (zD 3 rfl rfl rfl rfl ?_)|refine zG (zD 4 rfl rfl rfl rfl ?_)|refine zG (zD 5 rfl rfl rfl rfl ?_)|refine zG (zU rfl rfl rfl ?_)));exact zq.v)):p:=k ⟨g⟩
theorem U7(g:q)(k:Bq q→p:=by(intro zq;refine VC.kr Z (CK ?_);exact zq.v)):p:=k ⟨g⟩
theorem TW(g:q)(k:Bq q→p:=by(intro zq;refine VG (VT (vs:=bn c_) 4 Z Z Z Z (NR _) Z Z Z ?_);exact zq.v)):p:=k ⟨g⟩
theorem Bh(g:q)(k:Bq q→p:=by(intro zq;(repeat(first|refine yG (yN ?_)|refine yG (yD 0 rfl rfl rfl rfl rfl ?_)|refine yG (yD 1 rfl rfl rfl rfl rfl ?_)|refine yG (yD 2 rfl rfl rfl rfl rfl ?_)|refine yG (yD 3 rfl rfl rfl rfl rfl ?_)|refine yG (yD 4 rfl rfl rfl rfl rfl ?_)|refine yG (yD 5 rfl rfl rfl rfl rfl ?_)));exact zq.v)):p:=k ⟨g⟩
theorem XI(g:q)(k:Bq q→p:=by(intro zq;refine CS (CD (ts 0 6 (.only 6 (.only 7 (ts 8 2 (.only 10 .nil))))) yn yr ?_);exact zq.v)):p:=k ⟨g⟩
theorem TX(k:p:=by exact CR (ay.tmp 2 Z Z (ae.bZ ae.nil).ar ⟨none,0,Z,Z⟩)):p:=k
theorem TY(k:p:=by exact CR (ay.tmp 2 Z Z ER ⟨a',c',Z,Z⟩)):p:=k
theorem TZ(k:p:=by exact⟨s,h1,G,h2,by simpa using hn,fun b hb=>by simpa using hb⟩):p:=k
theorem U8(g:q)(k:Bq q→p:=by(intro zq;refine VO.ar (L':=[aI aG 2 (some ⟨b,0,none⟩) 0 0 []]) (ae.sl (M:=[]) (cs:=[]) (rest:=[]) Z (NR _) Z (ae.refl (L:=[pt b [] aG]))).ar ?_;exact zq.v)):p:=k ⟨g⟩
theorem XJ(g:q)(k:Bq q→p:=by(intro zq;(repeat(first|refine zS ?_|refine zR ?_|refine zB ?_|refine zL ?_|refine zC ?_|refine zG (zN ?_)|refine zG (zD 0 rfl rfl rfl rfl ?_)|refine zG (zE rfl rfl (aE.aP hb rfl) ?_)));exact zq.v)):p:=k ⟨g⟩
theorem XK(k:p:=by exact CR (ay.tmp 4 Z Z (IP 0 Z (IP 0 Z ae.nil)).ar ⟨a,c,rows,h1,Z,Z⟩)):p:=k
theorem XL(g:q)(k:Bq q→p:=by(intro zq;refine VG (VT (vs:=cG (f,m)) (cs':=cG (f,m)) 1 Z Z Z Z (NR _) Z Z Z (VG (VN ?_)));exact zq.v)):p:=k ⟨g⟩
theorem XM(g:q)(k:Bq q→p:=by(intro zq;refine VG (VT (vs:=cG oe) (cs':=cG oe) 0 Z Z Z Z (NR _) Z Z Z (VG (VN ?_)));exact zq.v)):p:=k ⟨g⟩
theorem qg(g:q)(k:Bq q→p:=by(intro zq;(repeat(first|refine yG (yN ?_)|refine yG (yD 0 rfl rfl rfl rfl rfl ?_)|refine yG (yD 1 rfl rfl rfl rfl rfl ?_)));exact zq.v)):p:=k ⟨g⟩
theorem sn(g:q)(k:Bq q→p:=by(intro zq;(repeat(first|refine yG (yN ?_)|refine yG (yD 0 rfl rfl rfl rfl rfl ?_)|refine yG (yD 1 rfl rfl rfl rfl rfl ?_)|refine yG (yD 2 rfl rfl rfl rfl rfl ?_)));exact zq.v)):p:=k ⟨g⟩
theorem U9(g:q)(k:Bq q→p:=by(intro zq;refine VG (VO.st 2 Z Z Z Z TG Z Z (VG (VN ?_)));exact zq.v)):p:=k ⟨g⟩
theorem T0(g:q)(k:Bq q→p:=by(intro zq;refine VG (VI (a_ k Z Z Z Z Z Z yd) ?_);exact zq.v)):p:=k ⟨g⟩
theorem XN(g:q)(k:Bq q→p:=by(intro zq;refine VG (VV (fun Fr w hF _ hs=>Gz Fr w (aM.shut s0 h0 hs.tail)) Z (VG (VN ?_)));exact zq.v)):p:=k ⟨g⟩
theorem T5(g:q)(k:Bq q→p:=by(intro zq;refine VG (VO.ld 2 Z Z Z (hcell (j:=0) Z) ?_);exact zq.v)):p:=k ⟨g⟩
theorem U_(g:q)(k:Bq q→p:=by(intro zq;refine VG (VQ 2 (ψ:=fun v H=>v=.tuple #[]∧H=SG p s.cb s.rows.length s.wP S.bE) Z (fun Fr w _ _ _=>sy Fr w yd yd) Z (fun v L1 ⟨h1,h2⟩=>⟨_,h2,h1,Z⟩) ?_);exact zq.v)):p:=k ⟨g⟩
theorem XO(k:p:=by exact(ae.trans ae.tl (ae.trans ae.tl (ae.trans (ae.of_eq e) (mi (h.Ny hr hwf))))).ar):p:=k
theorem Rp(g:q)(k:Bq q→p:=by(intro zq;refine VG (VO.ld 1 Z Z Z Z ?_);exact zq.v)):p:=k ⟨g⟩
theorem HW(g:q)(k:Bq q→p:=by(intro zq;refine VG (VO.ld 2 Z Z Z Z (VG (VO.ld 0 Z Z Z Z ?_)));exact zq.v)):p:=k ⟨g⟩
theorem RY(g:q)(k:Bq q→p:=by(intro zq;refine VG (VY 47 false Z Z ?_);exact zq.v)):p:=k ⟨g⟩
theorem U'(g:q)(k:Bq q→p:=by(intro zq;refine VG (VY 54 false Z Z ?_);exact zq.v)):p:=k ⟨g⟩
theorem Zj(g:q)(k:Bq q→p:=by(intro zq;refine VG (VY 61 false Z Z ?_);exact zq.v)):p:=k ⟨g⟩
theorem Zk(g:q)(k:Bq q→p:=by(intro zq;refine VG (VY 68 false Z Z ?_);exact zq.v)):p:=k ⟨g⟩
theorem Zl(g:q)(k:Bq q→p:=by(intro zq;refine VG (VY 75 false Z Z ?_);exact zq.v)):p:=k ⟨g⟩
theorem XP(g:q)(k:Bq q→p:=by(intro zq;refine VG (VY 82 false Z Z ?_);exact zq.v)):p:=k ⟨g⟩
theorem XQ(g:q)(k:Bq q→p:=by(intro zq;refine AG (AO (a8.de (φ:=fun v=>v=.int .i64 (aw c.aB 1 6)) (fun Fr w _ _ _=>bH Fr w _ _ _) rfl) rfl (fun v L' h=>by obtain⟨_,rfl⟩:=h;exact wE) ?_);exact zq.v)):p:=k ⟨g⟩
theorem Va(g:q)(k:Bq q→p:=by(intro zq;refine AG (AO (a8.de (φ:=fun v=>v=.int .i64 (aw c.queue 1 16)) (fun Fr w _ _ _=>bH Fr w _ _ _) rfl) rfl (fun v L' h=>by obtain⟨_,rfl⟩:=h;exact wE) ?_);exact zq.v)):p:=k ⟨g⟩
theorem T6(g:q)(k:Bq q→p:=by(intro zq;refine AG (AO (a8.de (φ:=fun v=>v=.int .i64 (aw c.eZ 1 16)) (fun Fr w _ _ _=>bH Fr w _ _ _) rfl) rfl (fun v L' h=>by obtain⟨_,rfl⟩:=h;exact wE) ?_);exact zq.v)):p:=k ⟨g⟩
theorem RZ(g:q)(k:Bq q→p:=by(intro zq;refine AG (AO (a8.de (φ:=fun v=>v=.int .i64 (aw c.reads 1 16)) (fun Fr w _ _ _=>bH Fr w _ _ _) rfl) rfl (fun v L' h=>by obtain⟨_,rfl⟩:=h;exact wE) ?_);exact zq.v)):p:=k ⟨g⟩
theorem Rq(g:q)(k:Bq q→p:=by(intro zq;refine AG (AO (a8.de (φ:=fun v=>v=.int .i64 (aw c.link 4 64)) (fun Fr w _ _ _=>bH Fr w _ _ _) rfl) rfl (fun v L' h=>by obtain⟨_,rfl⟩:=h;exact wE) ?_);exact zq.v)):p:=k ⟨g⟩
theorem Pz(g:q)(k:Bq q→p:=by(intro zq;refine AG (AO (a8.de (φ:=fun v=>v=.int .i64 (aw c.bu 4 64)) (fun Fr w _ _ _=>bH Fr w _ _ _) rfl) rfl (fun v L' h=>by obtain⟨_,rfl⟩:=h;exact wE) ?_);exact zq.v)):p:=k ⟨g⟩
theorem OT(g:q)(k:Bq q→p:=by(intro zq;refine AG (AO (a8.de (φ:=fun v=>v=.int .i64 (aw c.timeout 4 64)) (fun Fr w _ _ _=>bH Fr w _ _ _) rfl) rfl (fun v L' h=>by obtain⟨_,rfl⟩:=h;exact wE) ?_);exact zq.v)):p:=k ⟨g⟩
theorem KI(g:q)(k:Bq q→p:=by(intro zq;refine AG (AO (a8.de (φ:=fun v=>v=.int .i64 (aw c.dE 0 16)) (fun Fr w _ _ _=>bH Fr w _ _ _) rfl) rfl (fun v L' h=>by obtain⟨_,rfl⟩:=h;exact wE) ?_);exact zq.v)):p:=k ⟨g⟩
theorem Kp(g:q)(k:Bq q→p:=by(intro zq;refine AG (AO (a8.de (φ:=fun v=>v=.int .i64 (aw c.cH 1 1099511627776)) (fun Fr w _ _ _=>bH Fr w _ _ _) rfl) rfl (fun v L' h=>by obtain⟨_,rfl⟩:=h;exact wE) ?_);exact zq.v)):p:=k ⟨g⟩
theorem XR(g:q)(k:Bq q→p:=by(intro zq;refine AG (AI Z (D1 Z Z) ?_);exact zq.v)):p:=k ⟨g⟩
theorem XS(g:q)(k:Bq q→p:=by(intro zq;refine AG (AT (vs:=[.int .i64 (aw c.nodes 1 6),.int .i64 (aw c.chain 1 (aw c.nodes 1 6)),.int .i64 (aw c.aB 1 6),.slice none 0 0,.int .i64 (aw c.queue 1 16),.int .i64 (aw c.eZ 1 16),.int .i64 (aw c.reads 1 16),.int .i64 (aw c.link 4 64),.int .i64 (aw c.bu 4 64),.int .i64 (aw c.timeout 4 64),.int .i64 (aw c.dE 0 16),.int .i64 (aw c.cH 1 1099511627776)]) (cs':=[.int .i64 (aw c.nodes 1 6),.int .i64 (aw c.chain 1 (aw c.nodes 1 6)),.int .i64 (aw c.aB 1 6),.slice none 0 0,.int .i64 (aw c.queue 1 16),.int .i64 (aw c.eZ 1 16),.int .i64 (aw c.reads 1 16),.int .i64 (aw c.link 4 64),.int .i64 (aw c.bu 4 64),.int .i64 (aw c.timeout 4 64),.int .i64 (aw c.dE 0 16),.int .i64 (aw c.cH 1 1099511627776)]) 0 Z Z Z Z Z (NR _) Z Z Z wE (AG (AN ?_)));exact zq.v)):p:=k ⟨g⟩
theorem XT(k:p:=by exact⟨d,trivial,ba,ER⟩):p:=k
theorem XU(g:q)(k:Bq q→p:=by(intro zq;refine VG (VI (LB (pv:=[(0,.int .i64 s),(1,.int .i64 t)]) (fZ (s,t)) Z Z Z Z Z) ?_);exact zq.v)):p:=k ⟨g⟩
theorem Vb(k:p:=by exact CR (ay.int 8 Z Z KG out ⟨rfl,by rw[e]⟩)):p:=k
theorem T7(g:q)(k:Bq q→p:=by(intro zq;refine CD (ts 0 6 (.only 6 .nil)) yn yr ?_;exact zq.v)):p:=k ⟨g⟩
theorem Ge(g:q)(k:Bq q→p:=by(intro zq;(repeat(first|refine yG (yN ?_)|refine yG (yD 0 rfl rfl rfl rfl rfl ?_)|refine yG (yE rfl rfl rfl (aE.aP hb rfl) ?_)));exact zq.v)):p:=k ⟨g⟩
theorem HX(g:q)(k:Bq q→p:=by(intro zq;refine AG (VA.Wp Z Z ?_);exact zq.v)):p:=k ⟨g⟩
theorem XV(g:q)(k:Bq q→p:=by(intro zq;refine AG (AY 38 false Z Z ?_);exact zq.v)):p:=k ⟨g⟩
theorem Zm(g:q)(k:Bq q→p:=by(intro zq;refine AG (AY 43 false Z Z ?_);exact zq.v)):p:=k ⟨g⟩
theorem Zn(g:q)(k:Bq q→p:=by(intro zq;refine AG (AY 48 false Z Z ?_);exact zq.v)):p:=k ⟨g⟩
theorem Zo(g:q)(k:Bq q→p:=by(intro zq;refine AG (AY 54 false Z Z ?_);exact zq.v)):p:=k ⟨g⟩
theorem T8(g:q)(k:Bq q→p:=by(intro zq;refine AG (AI Z (bG n Z Z Z Z Z hcl hn) ?_);exact zq.v)):p:=k ⟨g⟩
theorem T9(k:p:=by exact CR (ay.int 6 Z Z KG out ⟨rfl,by rw[e]⟩)):p:=k
theorem Vc(k:p:=by exact CR (ay.int 6 Z Z KG (L':=[_]) ae.tl.ar ⟨rfl,by rw[e]⟩)):p:=k
theorem T_(g:q)(k:Bq q→p:=by(intro zq;(repeat(first|refine yG (yN ?_)|refine yG (yD 0 rfl rfl rfl rfl rfl ?_)|refine yG (yE rfl rfl rfl (aE.aP h rfl) ?_)));exact zq.v)):p:=k ⟨g⟩
theorem T'(g:q)(k:Bq q→p:=by(intro zq;refine AG (VA.load Z Z Z (aE.lG (ds:=R.ch.cells x.a x.c) h Z) ?_);exact zq.v)):p:=k ⟨g⟩
theorem XW(g:q)(k:Bq q→p:=by(intro zq;refine CS (CD (.take 0 (.only 1 (ts 2 5 (ts 8 4 (.only 7 (ts 12 3 .nil)))))) yn yr ?_);exact zq.v)):p:=k ⟨g⟩
theorem Vd(g:q)(k:Bq q→p:=by(intro zq;refine AG (AR (fun Fr w hF hs hS=>Fs Fr w (h.of hF hs)) Z Z yu ?_);exact zq.v)):p:=k ⟨g⟩
theorem OU(g:q)(k:Bq q→p:=by(intro zq;(repeat(first|refine yG (yN ?_)|refine yG (yE rfl rfl rfl (aE.aP h rfl) ?_)|refine yG (yU rfl rfl rfl rfl ?_)));exact zq.v)):p:=k ⟨g⟩
theorem Ve(k:p:=by exact ay.void Z (IP 1 Z ae.nil).ar ⟨rfl,Z⟩):p:=k
theorem XX(k:p:=by exact⟨(),trivial,SC Z (SC Z (SC Z (Sub.int Z (by rw[hd];rfl) (SN _)))),ER⟩):p:=k
theorem XY(g:q)(k:Bq q→p:=by(intro zq;(repeat(first|refine zS ?_|refine zR ?_|refine zB ?_|refine zL ?_|refine zC ?_|refine zG (zN ?_)|refine zG (zE rfl rfl (aE.aP hb rfl) ?_)|refine zG (zU rfl rfl rfl ?_)));exact zq.v)):p:=k ⟨g⟩
theorem Rr(g:q)(k:Bq q→p:=by(intro zq;refine VC.e_ 0 Z (aW.rep p R) ?_;exact zq.v)):p:=k ⟨g⟩
theorem XZ(g:q)(k:Bq q→p:=by(intro zq;refine VG (VV (fun Fr w hF hs hS=>l9 Fr w (hS.aP 0 Z) (aK.aI aF (hS.at_ 1 Z)) ok.ch) Z ?_);exact zq.v)):p:=k ⟨g⟩
theorem X1(g:q)(k:Bq q→p:=by(intro zq;refine VG (VV (fun Fr w hF hs hS=>Win.pq Fr w (hS.aP 3 Z) w0) Z ?_);exact zq.v)):p:=k ⟨g⟩
theorem X3(g:q)(k:Bq q→p:=by(intro zq;refine VG (VV (fun Fr w hF hs hS=>Win.fJ Fr w (hS.aP 3 Z) w0) Z ?_);exact zq.v)):p:=k ⟨g⟩
theorem OV(g:q)(k:Bq q→p:=by(intro zq;(repeat(first|refine yG (yN ?_)|refine yG (yD 0 rfl rfl rfl rfl rfl ?_)|refine yG (yD 1 rfl rfl rfl rfl rfl ?_)|refine yG (yD 2 rfl rfl rfl rfl rfl ?_)|refine yG (yD 3 rfl rfl rfl rfl rfl ?_)|refine yG (yD 4 rfl rfl rfl rfl rfl ?_)|refine yG (yD 5 rfl rfl rfl rfl rfl ?_)|refine yG (yD 6 rfl rfl rfl rfl rfl ?_)|refine yG (yD 7 rfl rfl rfl rfl rfl ?_)));exact zq.v)):p:=k ⟨g⟩
theorem X4(g:q)(k:Bq q→p:=by(intro zq;refine CS (CD (ts 0 2 (.only 2 .nil)) yn yr ?_);exact zq.v)):p:=k ⟨g⟩
theorem X5(g:q)(k:Bq q→p:=by(intro zq;refine AG (VA.ky 6 (bn c_) Z Z Z Z Z ?_);exact zq.v)):p:=k ⟨g⟩
theorem Zp(g:q)(k:Bq q→p:=by(intro zq;refine AG (AT (vs:=bn c_) 6 Z Z Z Z Z (NR _) Z Z Z yu ?_);exact zq.v)):p:=k ⟨g⟩
theorem PA(g:q)(k:Bq q→p:=by(intro zq;(repeat(first|refine zS ?_|refine zR ?_|refine zB ?_|refine zL ?_|refine zC ?_|refine zG (zN ?_)|refine zG (zD 0 rfl rfl rfl rfl ?_)|refine zG (zD 1 rfl rfl rfl rfl ?_)|refine zG (zD 2 rfl rfl rfl rfl ?_)|refine zG (zD 3 rfl rfl rfl rfl ?_)|refine zG (zD 4 rfl rfl rfl rfl ?_)|refine zG (zD 5 rfl rfl rfl rfl ?_)|refine zG (zD 6 rfl rfl rfl rfl ?_)|refine zG (zD 7 rfl rfl rfl rfl ?_)));exact zq.v)):p:=k ⟨g⟩
theorem X6(k:p:=by exact⟨(),trivial,SC Z (SC Z (SC Z (SC Z (SC Z (SC Z (SC Z (Sub.bl Z Z (SN _)))))))),ER⟩):p:=k
theorem Ua(g:q)(k:Bq q→p:=by(intro zq;refine VC.e_ 1 Z (aW.rep p R) ?_;exact zq.v)):p:=k ⟨g⟩
theorem R0(g:q)(k:Bq q→p:=by(intro zq;refine VG (VV (fun Fr w hF hs hS=>uZ Fr w (hS.aP 0 Z) f _) Z ?_);exact zq.v)):p:=k ⟨g⟩
theorem X7(g:q)(k:Bq q→p:=by(intro zq;(repeat(first|refine zS ?_|refine zR ?_|refine zB ?_|refine zL ?_|refine zC ?_|refine zG (zN ?_)|refine zG (zD 0 rfl rfl rfl rfl ?_)|refine zG (zD 1 rfl rfl rfl rfl ?_)|refine zG (zD 2 rfl rfl rfl rfl ?_)|refine zG (zD 3 rfl rfl rfl rfl ?_)|refine zG (zD 4 rfl rfl rfl rfl ?_)|refine zG (zD 5 rfl rfl rfl rfl ?_)|refine zG (zD 6 rfl rfl rfl rfl ?_)));exact zq.v)):p:=k ⟨g⟩
theorem H9(g:q)(k:Bq q→p:=by(intro zq;(repeat(first|refine yG (yN ?_)|refine yG (yD 0 rfl rfl rfl rfl rfl ?_)|refine yG (yD 1 rfl rfl rfl rfl rfl ?_)|refine yG (yD 2 rfl rfl rfl rfl rfl ?_)|refine yG (yD 3 rfl rfl rfl rfl rfl ?_)|refine yG (yD 4 rfl rfl rfl rfl rfl ?_)|refine yG (yD 5 rfl rfl rfl rfl rfl ?_)|refine yG (yD 6 rfl rfl rfl rfl rfl ?_)));exact zq.v)):p:=k ⟨g⟩
theorem X8(k:p:=by exact⟨h.ch,h.win,h.last,h.nk,h.np,h.tD,h.sL,h.rl,h.Af,h.Bf,h.xM,h.calls,h.wf⟩):p:=k
theorem X9(g:q)(k:Bq q→p:=by(intro zq;refine CD (ts 0 5 (.two 5 9 (ts 6 3 (.only 9 (.only 10 (.take 11 .nil)))) (.only 5 (ts 6 3 (.only 10 (.take 11 .nil)))))) yn yr ?_;exact zq.v)):p:=k ⟨g⟩
theorem X_(g:q)(k:Bq q→p:=by(intro zq;refine VG (VV (fun Fr w hF hs hS=>Rep.gG Fr w (hS.aP 0 Z) (aK.aI aF (hS.at_ 1 Z)) ok.ch) Z ?_);exact zq.v)):p:=k ⟨g⟩
theorem Ya(g:q)(k:Bq q→p:=by(intro zq;refine AG (AI Z (LB (pv:=[(0,.int .i64 (R.log.length+1)),(1,.int .i64 (dB R now).aj),(2,.int .i64 (dB R now).seq),(3,.agg (dB R now).op.cells.toArray)]) (cM (eE R now)) Z Z Z yn Z) ?_);exact zq.v)):p:=k ⟨g⟩
theorem Yb(g:q)(k:Bq q→p:=by(intro zq;refine AG (AT (vs:=bn (iJ R.log (eE R now))) 0 Z Z Z Z Z (NR _) Z Z Z yu ?_);exact zq.v)):p:=k ⟨g⟩
theorem Vf(g:q)(k:Bq q→p:=by(intro zq;refine VG (VV (fun Fr w hF hs hS=>mu Fr w (hS.aP 0 Z)) Z ?_);exact zq.v)):p:=k ⟨g⟩
theorem Vh(g:q)(k:Bq q→p:=by(intro zq;refine VG (VI (fI (u:=[.pointer (some ⟨ob,0,none⟩)]) (v:=[]) Z Z) ?_);exact zq.v)):p:=k ⟨g⟩
theorem Vi(g:q)(k:Bq q→p:=by(intro zq;refine VG (VO.load Z Z ((hrd 0 Z).1 _ Z Z) ?_);exact zq.v)):p:=k ⟨g⟩
theorem Vj(g:q)(k:Bq q→p:=by(intro zq;refine VG (VT (vs:=jH g) 0 Z Z Z Z (NR _) Z Z Z ?_);exact zq.v)):p:=k ⟨g⟩
theorem R1(g:q)(k:Bq q→p:=by(intro zq;refine VG (VY 57 false Z Z ?_);exact zq.v)):p:=k ⟨g⟩
theorem Yc(g:q)(k:Bq q→p:=by(intro zq;refine VO.ar (L':=[aI aG 2 none 0 0 [],pt d [.int .i64 0,.slice none 0 0,.int .i64 0] kP,pt b (c.cells a cap) kP]) (ae.bZ (dF [0,0])).ar ?_;exact zq.v)):p:=k ⟨g⟩
theorem Vk(k:p:=by exact CR (ay.cell 2 Z Z Z (aE.many 1 Z Z) (IP 0 Z ae.nil).ar ⟨a',c',Z,Z⟩)):p:=k
theorem Yd(g:q)(k:Bq q→p:=by(intro zq;refine VG (VK (Lc:=[]) (fun Fr w hF hs _=>B1 Fr w (hm.of hF hs) yd) Z Z ?_);exact zq.v)):p:=k ⟨g⟩
theorem Ye(g:q)(k:Bq q→p:=by(intro zq;refine VG (VO.st 0 (cs':=aS { kF R c with whole:=false } y) Z Z Z Z Xz Z Z ?_);exact zq.v)):p:=k ⟨g⟩
theorem Vl(g:q)(k:Bq q→p:=by(intro zq;refine VG (VT (vs:=SO.cells none 0) (cs':=SO.cells none 0) 0 Z Z Z Z (NR _) Z Z Z ?_);exact zq.v)):p:=k ⟨g⟩
theorem Vm(g:q)(k:Bq q→p:=by(intro zq;refine CR (ay.cV 6 7 Z Z Z ae.nil.ar ?_);exact zq.v)):p:=k ⟨g⟩
theorem KJ(g:q)(k:Bq q→p:=by(intro zq;(repeat(first|refine yG (yN ?_)|refine yG (yD 0 rfl rfl rfl rfl rfl ?_)|refine yG (yD 1 rfl rfl rfl rfl rfl ?_)|refine yG (yD 2 rfl rfl rfl rfl rfl ?_)|refine yG (yD 3 rfl rfl rfl rfl rfl ?_)|refine yG (yD 4 rfl rfl rfl rfl rfl ?_)|refine yG (yD 5 rfl rfl rfl rfl rfl ?_)|refine yG (yD 6 rfl rfl rfl rfl rfl ?_)|refine yG (yD 7 rfl rfl rfl rfl rfl ?_)|refine yG (yU rfl rfl rfl rfl ?_)));exact zq.v)):p:=k ⟨g⟩
theorem Zq(g:q)(k:Bq q→p:=by(intro zq;refine VG (VL 7 (iD f (ma,ms.length,mc)) Z Z Z Z ?_);exact zq.v)):p:=k ⟨g⟩
theorem R2(g:q)(k:Bq q→p:=by(intro zq;refine VO.ar (L':=[bA p R,aR ob []]) shut ?_;exact zq.v)):p:=k ⟨g⟩
theorem H_(k:p:=by exact⟨(),trivial,ba,none_ hT⟩):p:=k
theorem Yf(g:q)(k:Bq q→p:=by(intro zq;refine VG (VV (fun Fr w hF hs hS=>Rep.pn Fr w (hS.aP 0 Z) (aK.aI aF (hS.at_ 1 Z)) ok.ch) Z ?_);exact zq.v)):p:=k ⟨g⟩
theorem Vn(g:q)(k:Bq q→p:=by(intro zq;refine VO.ar (L':=[jC w.heap.size b (bY [])]) (ae.DX hB ae.refl).ar ?_;exact zq.v)):p:=k ⟨g⟩
theorem Rs(g:q)(k:Bq q→p:=by(intro zq;refine VG (VI (lY Z Z yd yp) ?_);exact zq.v)):p:=k ⟨g⟩
theorem Yg(g:q)(k:Bq q→p:=by(intro zq;refine VG (VI (tI (r:=false) Tryz.underlying60 Z (.inl ⟨rfl,Z⟩)) ?_);exact zq.v)):p:=k ⟨g⟩
theorem Yh(g:q)(k:Bq q→p:=by(intro zq;refine VG (VI (tI (r:=true) Tryz.underlying60 Z (.inr ⟨_,_,Z,Z⟩)) ?_);exact zq.v)):p:=k ⟨g⟩
theorem Yi(g:q)(k:Bq q→p:=by(intro zq;refine VG (VK (Lc:=[xS p ws bad]) (Lr:=[]) (fun Fr w hF hw _=>xT Fr w p ws bad) Z Z ?_);exact zq.v)):p:=k ⟨g⟩
theorem Zr(g:q)(k:Bq q→p:=by(intro zq;refine VG (VO.st 0 (cs':=[r.v,.bool true]) Z Z Z Z (Nat.le_of_ble_eq_true Z) Z Z ?_);exact zq.v)):p:=k ⟨g⟩
theorem Yj(k:p:=by exact CR (ay.tmp 2 Z Z (ae.rd (p:=p) (bad:=true) (M:=[]) r hok hx (IP 0 Z (IP 0 Z ae.nil))).ar ⟨rfl,Z⟩)):p:=k
theorem Yk(g:q)(k:Bq q→p:=by(intro zq;refine VG (VO.st 0 (cs':=[r.v,.bool false]) Z Z Z Z (Nat.le_of_ble_eq_true Z) Z Z ?_);exact zq.v)):p:=k ⟨g⟩
theorem Yl(k:p:=by exact CR (ay.tmp 2 Z Z (ae.rd (p:=p) (bad:=false) (M:=[]) r hok hx (IP 0 Z (IP 0 Z ae.nil))).ar ⟨rfl,Z⟩)):p:=k
theorem Ub(k:p:=by exact CR (ay.tmp 2 Z Z (ae.rd (p:=p) (bad:=true) (M:=[]) r hok hx (IP 0 Z (IP 0 Z ae.nil))).ar ⟨rfl,by simp⟩)):p:=k
theorem Vo(g:q)(k:Bq q→p:=by(intro zq;refine VG (VI (bG k Z Z Z Z Z hk yd) ?_);exact zq.v)):p:=k ⟨g⟩
theorem Vp(g:q)(k:Bq q→p:=by(intro zq;refine VG (VO.load Z Z (aE.aP hK (vw (k:=k) (j:=1) yd Z)) ?_);exact zq.v)):p:=k ⟨g⟩
theorem Vq(g:q)(k:Bq q→p:=by(intro zq;refine VG (VO.O8 (a8.range Tryz.underlying9 Z) ?_);exact zq.v)):p:=k ⟨g⟩
theorem Uc(k:p:=by exact⟨m+1,hm2,by dsimp only;omega,ba,ER⟩):p:=k
theorem Vr(g:q)(k:Bq q→p:=by(intro zq;refine VG (VI (LB (pv:=[]) (dV oW) Z Z Z yn Z) ?_);exact zq.v)):p:=k ⟨g⟩
theorem Ym(k:p:=by exact CR (ay.aT 2 3 Z Z Z (aE.many (ds:=dV oW) 2 Z Z) Z ae.nil.ar ⟨rfl,.inr ⟨by rw[hlr];rfl,Z⟩⟩)):p:=k
theorem Yn(k:p:=by exact CR (ay.SX 2 3 4 Z Z Z Z (ae.bZ ae.nil).ar ⟨none,0,by rw[hJ];rfl,by rw[hJ];rfl⟩)):p:=k
theorem R3(g:q)(k:Bq q→p:=by(intro zq;refine VG (VL 0 (dV d) Z Z Z Z ?_);exact zq.v)):p:=k ⟨g⟩
theorem aJ(g:q)(k:Bq q→p:=by(intro zq;(repeat(first|refine zS ?_|refine zR ?_|refine zB ?_|refine zL ?_|refine zC ?_|refine zG (zN ?_)|refine zG (zU rfl rfl rfl ?_)));exact zq.v)):p:=k ⟨g⟩
theorem PB(k:p:=by exact CR (ay.tmp 4 Z Z ER ⟨rfl,Z⟩)):p:=k
theorem R4(g:q)(k:Bq q→p:=by(intro zq;refine CS (CG (VG (VL 0 (dV oW) Z Z Z Z ?_)));exact zq.v)):p:=k ⟨g⟩
theorem Rt(g:q)(k:Bq q→p:=by(intro zq;refine VG (VT (vs:=dV oW) (cs':=dV oW) 0 Z Z Z Z (NR _) Z Z Z ?_);exact zq.v)):p:=k ⟨g⟩
theorem Vs(k:p:=by exact CR (ay.uD 2 3 4 Z Z Z (aE.many (ds:=dV oW) 0 Z Z) Z Z ae.nil.ar ⟨.inr ⟨hr,Z⟩,Z⟩)):p:=k
theorem Yo(k:p:=by exact CR (ay.uD 2 3 4 Z Z Z (aE.many (ds:=dV oW) 1 Z Z) Z Z ae.nil.ar ⟨.inr ⟨hr,Z⟩,Z⟩)):p:=k
theorem aq(g:q)(k:Bq q→p:=by(intro zq;(repeat(first|refine zS ?_|refine zR ?_|refine zB ?_|refine zL ?_|refine zC ?_|refine zG (zN ?_)));exact zq.v)):p:=k ⟨g⟩
theorem Ud(g:q)(k:Bq q→p:=by(intro zq;refine VG (VT (vs:=dV d) (cs':=dV d) 0 Z Z Z Z (NR _) Z Z Z ?_);exact zq.v)):p:=k ⟨g⟩
theorem Vt(g:q)(k:Bq q→p:=by(intro zq;refine CS (CD (ts 0 1 (.only 1 (.only 2 (.only 3 (.only 4 .nil))))) yn yr ?_);exact zq.v)):p:=k ⟨g⟩
theorem Vu(g:q)(k:Bq q→p:=by(intro zq;(repeat(first|refine yG (yN ?_)|refine yG (yD 0 rfl rfl rfl rfl rfl ?_)|refine yG (yD 1 rfl rfl rfl rfl rfl ?_)|refine yG (yD 2 rfl rfl rfl rfl rfl ?_)|refine yG (yD 3 rfl rfl rfl rfl rfl ?_)|refine yG (yD 4 rfl rfl rfl rfl rfl ?_)|refine yG (yD 5 rfl rfl rfl rfl rfl ?_)|refine yG (yU rfl rfl rfl rfl ?_)));exact zq.v)):p:=k ⟨g⟩
theorem Ue(g:q)(k:Bq q→p:=by(intro zq;refine AG (VA.st 1 Z Z Z Z Z Nat.zero_lt_one Z Z yu ?_);exact zq.v)):p:=k ⟨g⟩
theorem Uf(g:q)(k:Bq q→p:=by(intro zq;refine AG (VA.st 2 Z Z Z Z Z Nat.zero_lt_one Z Z yu ?_);exact zq.v)):p:=k ⟨g⟩
theorem Ug(g:q)(k:Bq q→p:=by(intro zq;refine AG (VA.st 3 Z Z Z Z Z Nat.zero_lt_one Z Z yu ?_);exact zq.v)):p:=k ⟨g⟩
theorem Vv(g:q)(k:Bq q→p:=by(intro zq;refine AG (VA.st 4 Z Z Z Z Z Nat.zero_lt_one Z Z yu ?_);exact zq.v)):p:=k ⟨g⟩
theorem Vw(g:q)(k:Bq q→p:=by(intro zq;refine VA.ar (L':=uo l rb::yH ⟨lb,tb,mb,eb,nb⟩ x) (dF [8,1,1,1,1]).ar ?_;exact zq.v)):p:=k ⟨g⟩
theorem Gf(g:q)(k:Bq q→p:=by(intro zq;(repeat(first|refine yG (yN ?_)|refine yG (yD 0 rfl rfl rfl rfl rfl ?_)|refine yG (yD 1 rfl rfl rfl rfl rfl ?_)|refine yG (yU rfl rfl rfl rfl ?_)));exact zq.v)):p:=k ⟨g⟩
theorem zn(g:q)(k:Bq q→p:=by(intro zq;(repeat(first|refine zS ?_|refine zR ?_|refine zB ?_|refine zL ?_|refine zC ?_|refine zG (zN ?_)|refine zG (zE rfl rfl (aE.aP h rfl) ?_)|refine zG (zU rfl rfl rfl ?_)));exact zq.v)):p:=k ⟨g⟩
theorem jo(g:q)(k:Bq q→p:=by(intro zq;(repeat(first|refine yG (yN ?_)));exact zq.v)):p:=k ⟨g⟩
theorem Yp(g:q)(k:Bq q→p:=by(intro zq;refine VG (VT (vs:=eN jF) (cs':=eN jF) 0 Z Z Z Z (NR _) Z Z Z ?_);exact zq.v)):p:=k ⟨g⟩
theorem Yq(k:p:=by exact CR (ay.aT 2 3 Z Z Z (aE.many (ds:=eN jF) 0 Z Z) Z ae.nil.ar ⟨rfl,Z⟩)):p:=k
theorem Yr(g:q)(k:Bq q→p:=by(intro zq;refine VG (VI (AB i (i+1) l.length Z Z Z Z Z Z Z Z Z Z yd yd hcap) ?_);exact zq.v)):p:=k ⟨g⟩
theorem Vx(g:q)(k:Bq q→p:=by(intro zq;refine CD (ts 0 6 (.only 6 (.take 7 .nil))) yn yr ?_;exact zq.v)):p:=k ⟨g⟩
theorem Ys(g:q)(k:Bq q→p:=by(intro zq;refine VG (VI (tj (l.length-1) l.length Z Z Z Z Z Z Z Z yd hcap yd) ?_);exact zq.v)):p:=k ⟨g⟩
theorem Yt(g:q)(k:Bq q→p:=by(intro zq;refine VG (VV (u:=WD none) (fun Fr w hF hw _=>hr▸jk Fr w s hs) Z ?_);exact zq.v)):p:=k ⟨g⟩
theorem Yu(g:q)(k:Bq q→p:=by(intro zq;refine VG (VV (u:=WD (some (u,r))) (fun Fr w hF hw _=>hr▸jk Fr w s hs) Z ?_);exact zq.v)):p:=k ⟨g⟩
theorem R6(g:q)(k:Bq q→p:=by(intro zq;refine AG (AI Z (bq Z Z Zh) ?_);exact zq.v)):p:=k ⟨g⟩
theorem Uh(g:q)(k:Bq q→p:=by(intro zq;refine VG (VI (bq Z Z Zf) ?_);exact zq.v)):p:=k ⟨g⟩
theorem Vy(g:q)(k:Bq q→p:=by(intro zq;refine VG (VV (fun Fr w hF hw _=>hv▸oU Fr w r yd) Z ?_);exact zq.v)):p:=k ⟨g⟩
theorem Vz(g:q)(k:Bq q→p:=by(intro zq;refine VG (VI (LB (pv:=[]) (fe.cells ⟨0,bT [],bT [],0⟩) Z Z Z yn Z) ?_);exact zq.v)):p:=k ⟨g⟩
theorem VE(g:q)(k:Bq q→p:=by(intro zq;refine VG (VT (vs:=fe.cells ⟨0,bT [],bT [],0⟩) (cs':=fe.cells ⟨0,bT [],bT [],0⟩) 1 Z Z Z Z (NR _) Z Z Z ?_);exact zq.v)):p:=k ⟨g⟩
theorem Yv(g:q)(k:Bq q→p:=by(intro zq;refine VG (VI (LB (pv:=[]) (eF.cells none 0) Z Z Z yn Z) ?_);exact zq.v)):p:=k ⟨g⟩
theorem Yw(g:q)(k:Bq q→p:=by(intro zq;refine VG (VT (vs:=eF.cells none 0) (cs':=eF.cells none 0) 0 Z Z Z Z (NR _) Z Z Z ?_);exact zq.v)):p:=k ⟨g⟩
theorem VF(g:q)(k:Bq q→p:=by(intro zq;refine VG (VK (Lc:=[]) (fun Fr w hF hw _=>AM (c:=c) (a:=a) (cap:=cap) Fr w (h.of hF hw) hl) Z Z ?_);exact zq.v)):p:=k ⟨g⟩
theorem VH(g:q)(k:Bq q→p:=by(intro zq;refine VG (VT (vs:=eF.cells ma mc) (cs':=eF.cells ma mc) 1 Z Z Z Z (NR _) Z Z Z ?_);exact zq.v)):p:=k ⟨g⟩
theorem Zs(g:q)(k:Bq q→p:=by(intro zq;refine VG (VT (vs:=eF.cells none 0) (cs':=eF.cells none 0) 1 Z Z Z Z (NR _) Z Z Z ?_);exact zq.v)):p:=k ⟨g⟩
theorem VJ(g:q)(k:Bq q→p:=by(intro zq;refine VG (VT (vs:=(dO.mk (c.al+1) c.ms c.drain).cells ma mc) (cs':=(dO.mk (c.al+1) c.ms c.drain).cells ma mc) 1 Z Z Z Z (NR _) Z Z Z ?_);exact zq.v)):p:=k ⟨g⟩
theorem Yx(g:q)(k:Bq q→p:=by(intro zq;refine VG (VV (fun Fr w hF hw _=>AS (c:=c) (a:=a) (cap:=cap) Fr w (h.of hF hw) hl n) Z ?_);exact zq.v)):p:=k ⟨g⟩
theorem VR(g:q)(k:Bq q→p:=by(intro zq;refine VG (VO.load Z Z (aE.lG (ds:=M.ch.cells a c) h QU) ?_);exact zq.v)):p:=k ⟨g⟩
theorem Yy(g:q)(k:Bq q→p:=by(intro zq;refine VG (VK (Lc:=[]) (fun Fr w hF hw _=>rV Fr w (hm.of hF hw) yd) Z Z ?_);exact zq.v)):p:=k ⟨g⟩
theorem R7(g:q)(k:Bq q→p:=by(intro zq;refine VC.e_ 0 Z (aW.dm p M) ?_;exact zq.v)):p:=k ⟨g⟩
theorem R8(g:q)(k:Bq q→p:=by(intro zq;refine VG (VL 0 (M.ch.cells a c) Z Z Z Z ?_);exact zq.v)):p:=k ⟨g⟩
theorem R9(g:q)(k:Bq q→p:=by(intro zq;refine VG (VV (fun Fr w hF hw hS=>vP Fr w ok (hS.aP 0 Z)) Z ?_);exact zq.v)):p:=k ⟨g⟩
theorem Yz(g:q)(k:Bq q→p:=by(intro zq;refine VG (VK (Lc:=[]) (fun Fr w hF hw hS=>nF Fr w ok (hS.aP 0 Z) (aK.aI aF (hS.at_ 1 Z)) from_) Z Z ?_);exact zq.v)):p:=k ⟨g⟩
theorem YA(k:p:=by exact CR (ay.tmp 8 Z Z (vS (a:=a) (c:=c) (R:=[_])).ar (AV (x:=(jY M.ch from_,y)) Z Z))):p:=k
theorem Ru(k:p:=by exact CR (ay.tmp 8 Z Z (gm (a:=a) (c:=c) (R:=[_])).ar (mF Z Z))):p:=k
theorem VS(g:q)(k:Bq q→p:=by(intro zq;refine AG (AI Z (bG j Z Z Z Z Z hj hj6) ?_);exact zq.v)):p:=k ⟨g⟩
theorem YB(k:p:=by exact CR (ay.tmp 8 Z Z (gm (M:=M.cW from_ now) (a:=a) (c:=c) (R:=[_])).ar (mF Z Z))):p:=k
theorem nY(g:q)(k:Bq q→p:=by(intro zq;(repeat(first|refine yG (yN ?_)|refine yG (yU rfl rfl rfl rfl ?_)));exact zq.v)):p:=k ⟨g⟩
theorem YC(g:q)(k:Bq q→p:=by(intro zq;refine VG (VV (fun Fr w hF hw hS=>rX Fr w ok (hS.aP 0 Z) (aK.aI aF (hS.at_ 1 Z)) n) Z ?_);exact zq.v)):p:=k ⟨g⟩
theorem YD(g:q)(k:Bq q→p:=by(intro zq;refine VG (VV (fun Fr w hF hw hS=>o9 Fr w ok (hS.aP 0 Z) (aK.aI aF (hS.at_ 1 Z)) n) Z ?_);exact zq.v)):p:=k ⟨g⟩
theorem VU(g:q)(k:Bq q→p:=by(intro zq;refine VG (VV (fun Fr w hF hw _=>vT Fr w ok (h.of hF hw)) Z ?_);exact zq.v)):p:=k ⟨g⟩
theorem YE(g:q)(k:Bq q→p:=by(intro zq;refine VG (VO.load (v:=.pointer (some ⟨y.b,0,none⟩)) Z Z (aE.aP h (hv _ ho)) ?_);exact zq.v)):p:=k ⟨g⟩
theorem PC(g:q)(k:Bq q→p:=by(intro zq;refine VC.e_ 0 Z (aW.pz p S) ?_;exact zq.v)):p:=k ⟨g⟩
theorem Ui(g:q)(k:Bq q→p:=by(intro zq;refine CN (L':=[cz p S]) (ae.pz y ae.refl).ar ?_;exact zq.v)):p:=k ⟨g⟩
theorem VW(g:q)(k:Bq q→p:=by(intro zq;refine VG (VK (Lc:=[cz p S]) (Lr:=[]) (fun Fr w hF hw _=>qN Fr w ho reason) Z Z ?_);exact zq.v)):p:=k ⟨g⟩
theorem Rv(k:p:=by exact CR (ay.tmp 6 Z Z ER ⟨X,sa,sc,hX,Z,List.append_nil _⟩)):p:=k
theorem YF(g:q)(k:Bq q→p:=by(intro zq;refine VG (VO.st 0 (cs':=ek { S with unsure:=true } y) Z Z Z Z Xy Z Z ?_);exact zq.v)):p:=k ⟨g⟩
theorem VX(g:q)(k:Bq q→p:=by(intro zq;refine VG (VV (fun Fr w hF hw hS=>vT Fr w ok (hS.aP 0 Z)) Z ?_);exact zq.v)):p:=k ⟨g⟩
theorem VZ(g:q)(k:Bq q→p:=by(intro zq;refine VG (VV (fun Fr w hF hw _=>AW Fr w now) Z ?_);exact zq.v)):p:=k ⟨g⟩
theorem Kq(k:p:=by exact CR (ay.tmp 6 Z Z (mH (y:=y) (R:=[_])).ar (mI Z Z))):p:=k
theorem Uj(k:p:=by exact CR (ay.tmp 4 Z Z ER ⟨X,sa,sc,hX,Z,List.append_nil _⟩)):p:=k
theorem Uk(k:p:=by exact CR (ay.tmp 4 Z Z (mH (y:=y) (R:=[])).ar (mI Z Z))):p:=k
theorem YG(g:q)(k:Bq q→p:=by(intro zq;refine VG (VK (Lc:=[cz p S]) (Lr:=[]) (fun Fr w hF hw _=>yO Fr w ok tn) Z Z ?_);exact zq.v)):p:=k ⟨g⟩
theorem YH(g:q)(k:Bq q→p:=by(intro zq;refine CN (L':=[cz p (S.begun o cl d)]) (ae.pz (S:=S.begun o cl d) { y with b:=sb } (dF [0,0,0,0])).ar ?_;exact zq.v)):p:=k ⟨g⟩
theorem V0(k:p:=by exact CR (ay.cV 4 5 Z Z Z ae.nil.ar Zg)):p:=k
theorem Ul(k:p:=by exact CR (ay.tmp 8 Z Z (fin a cap) ⟨by rw[hE],by rw[bN.mJ hE yp]⟩)):p:=k
theorem YI(g:q)(k:Bq q→p:=by(intro zq;refine VG (VV (fun Fr w hF hw hS=>CT Fr w ok (hS.aP 0 Z) (aK.aI iV (hS.at_ 1 Z)) c) Z ?_);exact zq.v)):p:=k ⟨g⟩
theorem YJ(k:p:=by exact CR (ay.tmp 8 Z Z (fin _ _) ⟨by rw[hE2],by rw[bN.mJ hE2 yp]⟩)):p:=k
theorem Um(k:p:=by exact CR (ay.tmp 8 Z Z fin ⟨by rw[g2],by rw[g1]⟩)):p:=k
theorem Zt(g:q)(k:Bq q→p:=by(intro zq;refine VG (VI (LB (pv:=[]) od Z Z Z yn Z) ?_);exact zq.v)):p:=k ⟨g⟩
theorem Zu(g:q)(k:Bq q→p:=by(intro zq;refine VG (VT (vs:=od) (cs':=od) 4 Z Z Z Z (NR _) Z Z Z ?_);exact zq.v)):p:=k ⟨g⟩
theorem Rw(k:p:=by exact CR (ay.aT 2 3 Z Z Z (aE.many (ds:=od) 4 Z Z) Z ae.nil.ar Zi)):p:=k
theorem V1(g:q)(k:Bq q→p:=by(intro zq;(repeat(first|refine zS ?_|refine zR ?_|refine zB ?_|refine zL ?_|refine zC ?_|refine zG (zN ?_)|refine zG (zD 0 rfl rfl rfl rfl ?_)|refine zG (zD 1 rfl rfl rfl rfl ?_)|refine zG (zD 2 rfl rfl rfl rfl ?_)|refine zG (zD 3 rfl rfl rfl rfl ?_)));exact zq.v)):p:=k ⟨g⟩
theorem YK(g:q)(k:Bq q→p:=by(intro zq;refine VG (VL 0 ((dO.mk k1 ms dr).cells (some ⟨mb,0,none⟩) k) Z Z Z Z ?_);exact zq.v)):p:=k ⟨g⟩
theorem YL(g:q)(k:Bq q→p:=by(intro zq;refine VG (VT (vs:=Oi f.res) (cs':=Oi f.res) 0 Z Z Z Z (NR _) Z Z Z ?_);exact zq.v)):p:=k ⟨g⟩
theorem YM(g:q)(k:Bq q→p:=by(intro zq;refine VG (VT (vs:=Oj f.entry) (cs':=Oj f.entry) 0 Z Z Z Z (NR _) Z Z Z ?_);exact zq.v)):p:=k ⟨g⟩
theorem R_(k:p:=by exact⟨(),trivial,ba,ae.nil.ar⟩):p:=k
theorem V3(k:p:=by exact⟨(10,[],true,[]),Bg.bad Z n10,ba,ae.nil.ar⟩):p:=k
theorem Sa(g:q)(k:Bq q→p:=by(intro zq;refine VG (VI (LB (pv:=[]) (aa.zero.cells cT) Z Z Z yn Z) ?_);exact zq.v)):p:=k ⟨g⟩
theorem V4(g:q)(k:Bq q→p:=by(intro zq;refine VG (VT (vs:=aa.zero.cells cT) (cs':=aa.zero.cells cT) 0 Z Z Z Z (NR _) Z Z Z ?_);exact zq.v)):p:=k ⟨g⟩
theorem YN(g:q)(k:Bq q→p:=by(intro zq;refine VG (VT (vs:=aa.zero.cells cT) (cs':=aa.zero.cells cT) 1 Z Z Z Z (NR _) Z Z Z ?_);exact zq.v)):p:=k ⟨g⟩
theorem YO(k:p:=by exact CR (ay.aT 2 3 Z Z Z (aE.many (ds:=aa.zero.cells cT) 1 Z Z) Z ae.nil.ar UK)):p:=k
theorem V5(g:q)(k:Bq q→p:=by(intro zq;refine VG (VL 0 (f.cells (ma,ms.length,mc)) Z Z Z Z ?_);exact zq.v)):p:=k ⟨g⟩
theorem V6(g:q)(k:Bq q→p:=by(intro zq;refine CN (L':=pt p (xi S b) Hy::gO xf Hz b X::X.map xh) (ae.of_eq (List.append_nil _)).ar ?_;exact zq.v)):p:=k ⟨g⟩
theorem V7(g:q)(k:Bq q→p:=by(intro zq;refine VG (VI (LB (pv:=[(0,.int .i64 x),(1,.int .i64 y)]) [.int .i64 x,.int .i64 y] Z Z Z yn Z) ?_);exact zq.v)):p:=k ⟨g⟩
theorem YP(g:q)(k:Bq q→p:=by(intro zq;refine VG (VT (vs:=[.int .i64 x,.int .i64 y]) (cs':=[.int .i64 x,.int .i64 y]) 0 Z Z Z Z (NR _) Z Z Z ?_);exact zq.v)):p:=k ⟨g⟩
theorem Sb(k:p:=by exact CR (ay.tmp 4 Z Z fin ⟨by rw[hE],by rw[JR hE yp]⟩)):p:=k
theorem Sc(g:q)(k:Bq q→p:=by(intro zq;refine AG (VA.ky 1 [.int .i64 x,.int .i64 y] Z Z Z Z Z ?_);exact zq.v)):p:=k ⟨g⟩
theorem V8(g:q)(k:Bq q→p:=by(intro zq;refine VG (VI (LB (pv:=[]) (dx 0 0 ⟨#[]⟩) Z Z Z yn Z) ?_);exact zq.v)):p:=k ⟨g⟩
theorem Rx(g:q)(k:Bq q→p:=by(intro zq;refine VG (VT (vs:=dx 0 0 ⟨#[]⟩) (cs':=dx 0 0 ⟨#[]⟩) 0 Z Z Z Z (NR _) Z Z Z ?_);exact zq.v)):p:=k ⟨g⟩
theorem V9(g:q)(k:Bq q→p:=by(intro zq;refine VG (VT (vs:=dx x y t) (cs':=dx x y t) 0 Z Z Z Z (NR _) Z Z Z ?_);exact zq.v)):p:=k ⟨g⟩
theorem V_(g:q)(k:Bq q→p:=by(intro zq;refine VG (VI (a_ k Z Z Z Z Z Z hkl) ?_);exact zq.v)):p:=k ⟨g⟩
theorem YQ(k:p:=by exact⟨k+1,by omega,by dsimp only;omega,SC Z (SC Z (SC Z (SC Z (Sub.int Z yd (SN _))))),by dsimp only;rw[←h1];exact(IP 1 Z ae.nil).ar⟩):p:=k
theorem YR(k:p:=by exact⟨[pf H a c X],⟨_,Z,X,a,c,e,Z,Z⟩,ae.sep (ae.cons (ae.sep (ae.of_eq (List.append_nil _).symm)))⟩):p:=k
theorem YS(k:p:=by exact CR (ay.tmp 4 Z Z (ae.tail.trans (gj (R:=[]) fit)).ar ⟨by rw[hr],by rw[hr]⟩)):p:=k
theorem Un(g:q)(k:Bq q→p:=by(intro zq;refine VC.e_ 0 Z (aW.Pr p C) ?_;exact zq.v)):p:=k ⟨g⟩
theorem V'(g:q)(k:Bq q→p:=by(intro zq;refine CN (L':=gS p C y) (ae.of_eq (List.append_nil _)).ar ?_;exact zq.v)):p:=k ⟨g⟩
theorem YT(g:q)(k:Bq q→p:=by(intro zq;refine VG (VV (fun Fr w hF hw hS=>Dj Fr w fitd (hS.aP 2 Z) (hS.aP 5 Z) (hS.aP 6 Z) ht0 ht1) Z ?_);exact zq.v)):p:=k ⟨g⟩
theorem Wa(g:q)(k:Bq q→p:=by(intro zq;refine VG (VI (wB true Tryz.underlying227 Z (.inr ⟨_,_,_,Z,Z⟩)) ?_);exact zq.v)):p:=k ⟨g⟩
theorem Wb(g:q)(k:Bq q→p:=by(intro zq;refine CD (ts 0 11 (.only 11 (.only 12 .nil))) yn yr ?_;exact zq.v)):p:=k ⟨g⟩
theorem Wc(g:q)(k:Bq q→p:=by(intro zq;refine AG (VA.ky 0 (f.cells (ma,ms.length,mc)) Z Z Z Z Z ?_);exact zq.v)):p:=k ⟨g⟩
theorem YU(k:p:=by exact⟨k+1,by omega,by dsimp only;omega,SC Z (SC Z (SC Z (Sub.int Z yd (SN _)))),by dsimp only;rw[hsu,e1];exact(ae.tail (H:=pt ob _ _)).ar⟩):p:=k
theorem YV(g:q)(k:Bq q→p:=by(intro zq;refine VG (VV (fun Fr w hF hw hS=>A5 Fr w fit (hS.aP 1 Z) (hS.aP 4 Z) s.a) Z ?_);exact zq.v)):p:=k ⟨g⟩
theorem YW(k:p:=by exact CR (ay.tmp 4 Z Z (ae.trans (ae.tail (H:=pt sb _ yW)) (gj (p:=p) (C:=C) (R:=[]) fit)).ar ⟨by rw[hr],by rw[hr]⟩)):p:=k
theorem Wd(g:q)(k:Bq q→p:=by(intro zq;refine CN (L':=pt sb s.cells yW::di y.mp C.dm::Pv p C y C.cD) (ae.cons A7).ar ?_;exact zq.v)):p:=k ⟨g⟩
theorem YX(g:q)(k:Bq q→p:=by(intro zq;refine VG (VQ 6 Z (fun Fr w hF hs hS=>eu Fr w (hS.aP 2 Z) ok.cD 16 (pP.at_ 1 hS Z hX fw)) Z (ψ:=fun v H=>v=.tuple #[]∧H=eK y.lp (bX 16 C.cD (X.map Prod.fst))) yy ?_);exact zq.v)):p:=k ⟨g⟩
theorem Uo(g:q)(k:Bq q→p:=by(intro zq;refine VG (VL 0 (F.cells fa fc) Z Z Z Z ?_);exact zq.v)):p:=k ⟨g⟩
theorem Ry(g:q)(k:Bq q→p:=by(intro zq;refine VG (VI (a_ i Z Z Z Z Z Z hil) ?_);exact zq.v)):p:=k ⟨g⟩
theorem YY(g:q)(k:Bq q→p:=by(intro zq;refine VG (VV (fun Fr w hF' hw hS=>ze Fr w hS d 0 Z hd.1 hd.2 (b9.st (X:=⟨Tryz.prog,tab,ah,57,_,_⟩) hG hF' hw) (cy.st (X:=⟨Tryz.prog,tab,ah,57,_,_⟩) hK hF' hw)) Z ?_);exact zq.v)):p:=k ⟨g⟩
theorem YZ(g:q)(k:Bq q→p:=by(intro zq;refine VG (VK (Lc:=[]) (fun Fr w hF' hw hS=>HO Fr w F (fY hq hF' hw) hqc) Z Z ?_);exact zq.v)):p:=k ⟨g⟩
theorem We(k:p:=by exact CR (ay.cV 4 5 Z Z Z ae.nil.ar ⟨rfl,Z⟩)):p:=k
theorem Wg(g:q)(k:Bq q→p:=by(intro zq;refine AG (AI Z (a_ i Z Z Z Z Z Z hil) ?_);exact zq.v)):p:=k ⟨g⟩
theorem Y0(g:q)(k:Bq q→p:=by(intro zq;refine VG (VI (E_ (s:=tY) Z Z Z Z Z yd yd (by show _≤(10:Int);omega)) ?_);exact zq.v)):p:=k ⟨g⟩
theorem Up(g:q)(k:Bq q→p:=by(intro zq;refine VG (VV (fun Fr w hF' hw _=>E7 Fr w (b9.st (X:=⟨Tryz.prog,tab,ah,182,_,_⟩) hG hF' hw) (cy.st (X:=⟨Tryz.prog,tab,ah,182,_,_⟩) hK hF' hw)) Z ?_);exact zq.v)):p:=k ⟨g⟩
theorem Uq(k:p:=by exact CR (ay.tmp 6 Z Z fin ⟨rfl,Z⟩)):p:=k
theorem PD(k:p:=by exact one _ e (Option.some.inj h).symm):p:=k
theorem KK(g:q)(k:Bq q→p:=by(intro zq;refine aJ ?_;refine wF ?_;exact zq.v)):p:=k ⟨g⟩
theorem OW(g:q)(k:Bq q→p:=by(intro zq;refine an ?_;refine Gd ?_;exact zq.v)):p:=k ⟨g⟩
theorem Rz(g:q)(k:Bq q→p:=by(intro zq;refine aq ?_;refine Gd ?_;exact zq.v)):p:=k ⟨g⟩
theorem OX(g:q)(k:Bq q→p:=by(intro zq;refine wF ?_;refine an ?_;exact zq.v)):p:=k ⟨g⟩
theorem qT(g:q)(k:Bq q→p:=by(intro zq;refine Rz ?_;refine aq ?_;exact zq.v)):p:=k ⟨g⟩
theorem xu(g:q)(k:Bq q→p:=by(intro zq;refine an ?_;refine sk ?_;exact zq.v)):p:=k ⟨g⟩
theorem sh(g:q)(k:Bq q→p:=by(intro zq;refine OW ?_;refine an ?_;exact zq.v)):p:=k ⟨g⟩
theorem Gg(g:q)(k:Bq q→p:=by(intro zq;refine sk ?_;refine aq ?_;exact zq.v)):p:=k ⟨g⟩
theorem KL(g:q)(k:Bq q→p:=by(intro zq;refine H5 ?_;refine an ?_;exact zq.v)):p:=k ⟨g⟩
theorem wI(g:q)(k:Bq q→p:=by(intro zq;refine KK ?_;refine aJ ?_;exact zq.v)):p:=k ⟨g⟩
theorem DA(g:q)(k:Bq q→p:=by(intro zq;refine eR ?_;refine OX ?_;exact zq.v)):p:=k ⟨g⟩
theorem Ff(g:q)(k:Bq q→p:=by(intro zq;refine aq ?_;refine Gg ?_;exact zq.v)):p:=k ⟨g⟩
theorem PE(g:q)(k:Bq q→p:=by(intro zq;refine aq ?_;refine wF ?_;exact zq.v)):p:=k ⟨g⟩
theorem Zv(g:q)(k:Bq q→p:=by(intro zq;refine an ?_;refine U7 ?_;exact zq.v)):p:=k ⟨g⟩
theorem PF(g:q)(k:Bq q→p:=by(intro zq;refine Zv ?_;refine an ?_;exact zq.v)):p:=k ⟨g⟩
theorem HY(g:q)(k:Bq q→p:=by(intro zq;refine jo ?_;refine aq ?_;exact zq.v)):p:=k ⟨g⟩
theorem HZ(g:q)(k:Bq q→p:=by(intro zq;refine aq ?_;refine T0 ?_;exact zq.v)):p:=k ⟨g⟩
theorem Ia(g:q)(k:Bq q→p:=by(intro zq;refine KK ?_;refine aq ?_;exact zq.v)):p:=k ⟨g⟩
theorem KM(g:q)(k:Bq q→p:=by(intro zq;refine Bd ?_;refine CS (CG ?_);exact zq.v)):p:=k ⟨g⟩
theorem Kr(g:q)(k:Bq q→p:=by(intro zq;refine xu ?_;refine an ?_;exact zq.v)):p:=k ⟨g⟩
theorem Ks(g:q)(k:Bq q→p:=by(intro zq;refine eR ?_;refine sk ?_;exact zq.v)):p:=k ⟨g⟩
theorem Kt(g:q)(k:Bq q→p:=by(intro zq;refine an ?_;refine OX ?_;exact zq.v)):p:=k ⟨g⟩
theorem Zw(g:q)(k:Bq q→p:=by(intro zq;refine XR ?_;refine XS ?_;exact zq.v)):p:=k ⟨g⟩
theorem Ur(g:q)(k:Bq q→p:=by(intro zq;refine HX ?_;refine lW ?_;exact zq.v)):p:=k ⟨g⟩
theorem Zx(g:q)(k:Bq q→p:=by(intro zq;refine eW ?_;refine Zp ?_;exact zq.v)):p:=k ⟨g⟩
theorem Y1(g:q)(k:Bq q→p:=by(intro zq;refine Zx ?_;refine eW ?_;exact zq.v)):p:=k ⟨g⟩
theorem KN(g:q)(k:Bq q→p:=by(intro zq;refine an ?_;refine XF ?_;exact zq.v)):p:=k ⟨g⟩
theorem Y2(g:q)(k:Bq q→p:=by(intro zq;refine Zl ?_;refine XP ?_;exact zq.v)):p:=k ⟨g⟩
theorem Y3(g:q)(k:Bq q→p:=by(intro zq;refine HX ?_;refine eW ?_;exact zq.v)):p:=k ⟨g⟩
theorem Zy(g:q)(k:Bq q→p:=by(intro zq;refine X4 ?_;refine X5 ?_;exact zq.v)):p:=k ⟨g⟩
theorem KP(g:q)(k:Bq q→p:=by(intro zq;refine Zy ?_;refine Y1 ?_;exact zq.v)):p:=k ⟨g⟩
theorem KQ(g:q)(k:Bq q→p:=by(intro zq;refine pQ ?_;refine KL ?_;exact zq.v)):p:=k ⟨g⟩
theorem KR(g:q)(k:Bq q→p:=by(intro zq;refine aJ ?_;refine sk ?_;exact zq.v)):p:=k ⟨g⟩
theorem KS(g:q)(k:Bq q→p:=by(intro zq;refine aJ ?_;refine Yv ?_;exact zq.v)):p:=k ⟨g⟩
theorem Ku(k:p:=by(refine Zw ?_;exact XT)):p:=k
theorem OY(g:q)(k:Bq q→p:=by(intro zq;refine an ?_;refine UY ?_;exact zq.v)):p:=k ⟨g⟩
theorem OZ(g:q)(k:Bq q→p:=by(intro zq;refine eW ?_;refine an ?_;exact zq.v)):p:=k ⟨g⟩
theorem Y4(g:q)(k:Bq q→p:=by(intro zq;refine Zk ?_;refine Y2 ?_;exact zq.v)):p:=k ⟨g⟩
theorem Zz(g:q)(k:Bq q→p:=by(intro zq;refine HX ?_;refine Zo ?_;exact zq.v)):p:=k ⟨g⟩
theorem Y5(g:q)(k:Bq q→p:=by(intro zq;refine Zz ?_;refine Y3 ?_;exact zq.v)):p:=k ⟨g⟩
theorem O0(g:q)(k:Bq q→p:=by(intro zq;refine aq ?_;refine sk ?_;exact zq.v)):p:=k ⟨g⟩
theorem Y6(g:q)(k:Bq q→p:=by(intro zq;refine Zj ?_;refine Y4 ?_;exact zq.v)):p:=k ⟨g⟩
theorem Y7(g:q)(k:Bq q→p:=by(intro zq;refine Zn ?_;refine Y5 ?_;exact zq.v)):p:=k ⟨g⟩
theorem PG(g:q)(k:Bq q→p:=by(intro zq;refine lW ?_;refine Ur ?_;exact zq.v)):p:=k ⟨g⟩
theorem Us(k:p:=by(refine eW ?_;exact⟨rb,trivial,ba,ER⟩)):p:=k
theorem PH(g:q)(k:Bq q→p:=by(intro zq;refine an ?_;refine Zq ?_;exact zq.v)):p:=k ⟨g⟩
theorem PI(g:q)(k:Bq q→p:=by(intro zq;refine PE ?_;refine aq ?_;exact zq.v)):p:=k ⟨g⟩
theorem PJ(g:q)(k:Bq q→p:=by(intro zq;refine Zs ?_;refine aJ ?_;exact zq.v)):p:=k ⟨g⟩
theorem Ut(g:q)(k:Bq q→p:=by(intro zq;refine AG (AY 29 false Z Z ?_);refine XV ?_;exact zq.v)):p:=k ⟨g⟩
theorem Uu(g:q)(k:Bq q→p:=by(intro zq;refine VG (VY 16 false Z Z ?_);refine eR ?_;exact zq.v)):p:=k ⟨g⟩
theorem Uv(g:q)(k:Bq q→p:=by(intro zq;refine aq ?_;refine VG (VO.ld 0 Z Z Z Z ?_);exact zq.v)):p:=k ⟨g⟩
theorem Uw(g:q)(k:Bq q→p:=by(intro zq;refine VG (VY 16 true Z Z ?_);refine eR ?_;exact zq.v)):p:=k ⟨g⟩
theorem Ux(g:q)(k:Bq q→p:=by(intro zq;refine aJ ?_;refine VG (VY 5 true Z Z ?_);exact zq.v)):p:=k ⟨g⟩
theorem Wh(g:q)(k:Bq q→p:=by(intro zq;refine aJ ?_;refine VG (VL 2 (c.cells a cap) Z Z Z Z ?_);exact zq.v)):p:=k ⟨g⟩
theorem Wi(g:q)(k:Bq q→p:=by(intro zq;refine aq ?_;refine VG (VL 0 (c.cells qa qc) Z Z Z Z ?_);exact zq.v)):p:=k ⟨g⟩
theorem Wj(g:q)(k:Bq q→p:=by(intro zq;refine an ?_;refine VG (VL 1 (F.cells fa fc) Z Z Z Z ?_);exact zq.v)):p:=k ⟨g⟩
theorem RA(g:q)(k:Bq q→p:=by(intro zq;refine an ?_;refine XH ?_;exact zq.v)):p:=k ⟨g⟩
theorem RB(g:q)(k:Bq q→p:=by(intro zq;refine U' ?_;refine Y6 ?_;exact zq.v)):p:=k ⟨g⟩
theorem RC(g:q)(k:Bq q→p:=by(intro zq;refine Zm ?_;refine Y7 ?_;exact zq.v)):p:=k ⟨g⟩
theorem RD(g:q)(k:Bq q→p:=by(intro zq;refine Zr ?_;refine an ?_;exact zq.v)):p:=k ⟨g⟩
theorem RE(g:q)(k:Bq q→p:=by(intro zq;refine PF ?_;refine KL ?_;exact zq.v)):p:=k ⟨g⟩
theorem RF(g:q)(k:Bq q→p:=by(intro zq;refine wF ?_;refine aq ?_;exact zq.v)):p:=k ⟨g⟩
theorem ZA(g:q)(k:Bq q→p:=by(intro zq;refine Zt ?_;refine Zu ?_;exact zq.v)):p:=k ⟨g⟩
theorem RG(g:q)(k:Bq q→p:=by(intro zq;refine ZA ?_;refine aq ?_;exact zq.v)):p:=k ⟨g⟩
theorem Wk(k:p:=by(refine an ?_;exact CR (ay.tmp 2 Z Z ER ⟨q,Z,Z⟩))):p:=k
theorem RH(g:q)(k:Bq q→p:=by(intro zq;refine CK ?_;refine an ?_;exact zq.v)):p:=k ⟨g⟩
theorem Wl(g:q)(k:Bq q→p:=by(intro zq;refine VG (VI (fI Z Z) ?_);refine aJ ?_;exact zq.v)):p:=k ⟨g⟩
theorem Wm(g:q)(k:Bq q→p:=by(intro zq;refine an ?_;refine VG (VL 0 (jH row) Z Z Z Z ?_);exact zq.v)):p:=k ⟨g⟩
theorem Wn(g:q)(k:Bq q→p:=by(intro zq;refine an ?_;refine VG (VO.text Z 0 Z h_ Z ?_);exact zq.v)):p:=k ⟨g⟩
end Go.Proofs.YthnlpdacbcjgpaaGreatDoor
