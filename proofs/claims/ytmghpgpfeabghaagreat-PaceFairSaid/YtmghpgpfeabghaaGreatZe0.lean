/- Abbreviations of tactics. No condition. -/
import Derived.OrdersHeld
import Derived.OrdersIn
import Derived.TacticsIn
import Derived.Sort.LoopGhostIn
import Derived.Deep.MidRow
import Derived.Laws.AppendOwn
import Derived.Below
import Derived.WalkKit
import Derived.Scope
import Derived.Laws.LoneSync
import Derived.Lib.Builder
import Derived.Lib.ItoaMem
import Derived.Lib.LaidTab
import Derived.Lib.Join
import Derived.MapKept
import Derived.Laws.StructEq
import Derived.Laws.BitsAllLaws
import Derived.Test.YtmghpgpfeabghaaGreatRows
import Derived.KernelRfl
import Derived.Test.YtmghpgpfeabghaaGreatProg
import Derived.Shelf.SlGeneric
import Derived.Shelf.SlMaps.Clone
import Derived.Lib.OthersKept
import Derived.Tactics
import Derived.Tactics2
import Derived.Defers
import Derived.Laws.Pointers
import Derived.RegionTactic
import Derived.RegionCalls
import Derived.Maps.RangeRun
import Derived.Sort.Grow
import Derived.Deep.Draws
import Derived.Shelf.SlSortCmp.InsertionK
import Derived.Shelf.SlSortCmp.SiftDownK
import Derived.Shelf.SlSortCmp.HeapSortK
import Derived.Shelf.SlSortCmp.MedianK
import Derived.Shelf.SlSortCmp.PivotK
import Derived.Shelf.SlSortCmp.ReverseRangeK
import Derived.Shelf.SlSortCmp.PartialInsertionK
import Derived.Shelf.SlSortCmp.PartitionEqualK
import Derived.Shelf.SlSortCmp.PartitionK
import Derived.Shelf.SlSortCmp.PdqK
import Derived.Shelf.SlSortCmp.WholeK
import Derived.Shelf.SlSortCmp.NoneTotal
import Derived.RangeFuncRecord
import Derived.ProofKit
import Derived.OpenShut
import Derived.SizedLaws
import Derived.Carry
import Derived.Deep.Strs
import Derived.Deep.Slices
namespace Go.Proofs.YtmghpgpfeabghaaGreat
theorem Z{α:Sort _}{a:α}:a=a:=rfl
structure Bq(q:Prop):Prop where
 v:q
variable {p q:Prop}
theorem DF:type_of% @decide_eq_false:=@decide_eq_false
theorem DT:type_of% @decide_eq_true:=@decide_eq_true
theorem GE:type_of% @List.getElem?_eq_getElem:=@List.getElem?_eq_getElem
theorem NR:type_of% @Nat.le_refl:=@Nat.le_refl
theorem ME:type_of% @List.mem_of_getElem?:=@List.mem_of_getElem?
theorem yv(k:p:=by(try refine Pd.st ?_);(repeat(first|exact Pd.nil|exact Pd.fnil|refine Pd.inner ?_|refine Pd.skip (by decide +kernel) ?_|refine zf (zo 0 rfl rfl) ?_|refine zf (zo 1 rfl rfl) ?_|refine zf (zo 2 rfl rfl) ?_|refine zf (zo 3 rfl rfl) ?_|refine zf (zo 4 rfl rfl) ?_|refine zf (zo 5 rfl rfl) ?_|refine zf (zo 6 rfl rfl) ?_|refine zf (zo 7 rfl rfl) ?_|refine zf (zo 8 rfl rfl) ?_|refine zf (zm 0 rfl rfl) ?_|refine zf (zm 1 rfl rfl) ?_|refine zf (zm 2 rfl rfl) ?_|refine zf (zm 3 rfl rfl) ?_|refine zf (zm 4 rfl rfl) ?_|refine zf (zm 5 rfl rfl) ?_|refine zf (zm 6 rfl rfl) ?_|refine zf (zm 7 rfl rfl) ?_|refine zf (zm 8 rfl rfl) ?_|refine zc (zo 0 rfl rfl) ?_|refine zc (zo 1 rfl rfl) ?_|refine zc (zo 2 rfl rfl) ?_|refine zc (zo 3 rfl rfl) ?_|refine zc (zo 4 rfl rfl) ?_|refine zc (zo 5 rfl rfl) ?_|refine zc (zo 6 rfl rfl) ?_|refine zc (zo 7 rfl rfl) ?_|refine zc (zo 8 rfl rfl) ?_|refine zc (zm 0 rfl rfl) ?_|refine zc (zm 1 rfl rfl) ?_|refine zc (zm 2 rfl rfl) ?_|refine zc (zm 3 rfl rfl) ?_|refine zc (zm 4 rfl rfl) ?_|refine zc (zm 5 rfl rfl) ?_|refine zc (zm 6 rfl rfl) ?_|refine zc (zm 7 rfl rfl) ?_|refine zc (zm 8 rfl rfl) ?_|refine Pd.fconsM (MpL.one 0 rfl) ?_|refine Pd.fconsM (MpL.one 1 rfl) ?_|refine Pd.fconsM (MpL.one 2 rfl) ?_|refine Pd.fconsM (MpL.one 3 rfl) ?_|refine Pd.fconsM (MpL.one 4 rfl) ?_|refine Pd.fconsM (MpL.one 5 rfl) ?_|refine Pd.fconsM (MpL.one 6 rfl) ?_|refine Pd.fconsM (MpL.one 7 rfl) ?_|refine Pd.fconsM (MpL.one 8 rfl) ?_|refine Pd.consM (MpL.one 0 rfl) ?_|refine Pd.consM (MpL.one 1 rfl) ?_|refine Pd.consM (MpL.one 2 rfl) ?_|refine Pd.consM (MpL.one 3 rfl) ?_|refine Pd.consM (MpL.one 4 rfl) ?_|refine Pd.consM (MpL.one 5 rfl) ?_|refine Pd.consM (MpL.one 6 rfl) ?_|refine Pd.consM (MpL.one 7 rfl) ?_|refine Pd.consM (MpL.one 8 rfl) ?_))):p:=k
theorem yu(k:p:=by(try refine Pd.st ?_);(repeat(first|exact Pd.nil|exact Pd.fnil|refine Pd.inner ?_|refine Pd.skip (by decide +kernel) ?_|refine zf (zo 0 rfl rfl) ?_|refine zf (zo 1 rfl rfl) ?_|refine zf (zo 2 rfl rfl) ?_|refine zf (zo 3 rfl rfl) ?_|refine zf (zo 4 rfl rfl) ?_|refine zf (zo 5 rfl rfl) ?_|refine zf (zo 6 rfl rfl) ?_|refine zf (zo 7 rfl rfl) ?_|refine zf (zo 8 rfl rfl) ?_|refine zf (zm 0 rfl rfl) ?_|refine zf (zm 1 rfl rfl) ?_|refine zf (zm 2 rfl rfl) ?_|refine zf (zm 3 rfl rfl) ?_|refine zf (zm 4 rfl rfl) ?_|refine zf (zm 5 rfl rfl) ?_|refine zf (zm 6 rfl rfl) ?_|refine zf (zm 7 rfl rfl) ?_|refine zf (zm 8 rfl rfl) ?_|refine zc (zo 0 rfl rfl) ?_|refine zc (zo 1 rfl rfl) ?_|refine zc (zo 2 rfl rfl) ?_|refine zc (zo 3 rfl rfl) ?_|refine zc (zo 4 rfl rfl) ?_|refine zc (zo 5 rfl rfl) ?_|refine zc (zo 6 rfl rfl) ?_|refine zc (zo 7 rfl rfl) ?_|refine zc (zo 8 rfl rfl) ?_|refine zc (zm 0 rfl rfl) ?_|refine zc (zm 1 rfl rfl) ?_|refine zc (zm 2 rfl rfl) ?_|refine zc (zm 3 rfl rfl) ?_|refine zc (zm 4 rfl rfl) ?_|refine zc (zm 5 rfl rfl) ?_|refine zc (zm 6 rfl rfl) ?_|refine zc (zm 7 rfl rfl) ?_|refine zc (zm 8 rfl rfl) ?_))):p:=k
theorem ycl(k:p:=by(try refine Pd.st ?_);(repeat(first|exact Pd.nil|exact Pd.fnil|refine Pd.inner ?_|refine Pd.skip (by decide +kernel) ?_|refine zf (zo 0 rfl rfl) ?_|refine zf (zo 1 rfl rfl) ?_|refine zf (zo 2 rfl rfl) ?_|refine zf (zo 3 rfl rfl) ?_|refine zf (zo 4 rfl rfl) ?_|refine zf (zm 0 rfl rfl) ?_|refine zf (zm 1 rfl rfl) ?_|refine zf (zm 2 rfl rfl) ?_|refine zf (zm 3 rfl rfl) ?_|refine zf (zm 4 rfl rfl) ?_|refine zf (RdL.blk (RdL.many 0 rfl rfl) rfl) ?_|refine zf ((RdL.many 0 rfl rfl)) ?_|refine zc (zo 0 rfl rfl) ?_|refine zc (zo 1 rfl rfl) ?_|refine zc (zo 2 rfl rfl) ?_|refine zc (zo 3 rfl rfl) ?_|refine zc (zo 4 rfl rfl) ?_|refine zc (zm 0 rfl rfl) ?_|refine zc (zm 1 rfl rfl) ?_|refine zc (zm 2 rfl rfl) ?_|refine zc (zm 3 rfl rfl) ?_|refine zc (zm 4 rfl rfl) ?_|refine zc (RdL.blk (RdL.many 0 rfl rfl) rfl) ?_|refine zc ((RdL.many 0 rfl rfl)) ?_))):p:=k
theorem ycn(k:p:=by(try refine Pd.st ?_);(repeat(first|exact Pd.nil|exact Pd.fnil|refine Pd.inner ?_|refine Pd.skip (by decide +kernel) ?_|refine zf (zo 0 rfl rfl) ?_|refine zf (zo 1 rfl rfl) ?_|refine zf (zo 2 rfl rfl) ?_|refine zf (zo 3 rfl rfl) ?_|refine zf (zo 4 rfl rfl) ?_|refine zf (zm 0 rfl rfl) ?_|refine zf (zm 1 rfl rfl) ?_|refine zf (zm 2 rfl rfl) ?_|refine zf (zm 3 rfl rfl) ?_|refine zf (zm 4 rfl rfl) ?_|refine zf (RdL.blk (RdL.many 2 rfl rfl) rfl) ?_|refine zf ((RdL.many 2 rfl rfl)) ?_|refine zc (zo 0 rfl rfl) ?_|refine zc (zo 1 rfl rfl) ?_|refine zc (zo 2 rfl rfl) ?_|refine zc (zo 3 rfl rfl) ?_|refine zc (zo 4 rfl rfl) ?_|refine zc (zm 0 rfl rfl) ?_|refine zc (zm 1 rfl rfl) ?_|refine zc (zm 2 rfl rfl) ?_|refine zc (zm 3 rfl rfl) ?_|refine zc (zm 4 rfl rfl) ?_|refine zc (RdL.blk (RdL.many 2 rfl rfl) rfl) ?_|refine zc ((RdL.many 2 rfl rfl)) ?_))):p:=k
theorem yap(k:p:=by(try refine Pd.st ?_);(repeat(first|exact Pd.nil|exact Pd.fnil|refine Pd.inner ?_|refine Pd.skip (by decide +kernel) ?_|refine zf (zo 0 rfl rfl) ?_|refine zf (zo 1 rfl rfl) ?_|refine zf (zo 2 rfl rfl) ?_|refine zf (zo 3 rfl rfl) ?_|refine zf (zo 4 rfl rfl) ?_|refine zf (zm 0 rfl rfl) ?_|refine zf (zm 1 rfl rfl) ?_|refine zf (zm 2 rfl rfl) ?_|refine zf (zm 3 rfl rfl) ?_|refine zf (zm 4 rfl rfl) ?_|refine zf (RdL.blk PQ rfl) ?_|refine zf (PQ) ?_|refine zc (zo 0 rfl rfl) ?_|refine zc (zo 1 rfl rfl) ?_|refine zc (zo 2 rfl rfl) ?_|refine zc (zo 3 rfl rfl) ?_|refine zc (zo 4 rfl rfl) ?_|refine zc (zm 0 rfl rfl) ?_|refine zc (zm 1 rfl rfl) ?_|refine zc (zm 2 rfl rfl) ?_|refine zc (zm 3 rfl rfl) ?_|refine zc (zm 4 rfl rfl) ?_|refine zc (RdL.blk PQ rfl) ?_|refine zc (PQ) ?_))):p:=k
theorem ycj(k:p:=by(try refine Pd.st ?_);(repeat(first|exact Pd.nil|exact Pd.fnil|refine Pd.inner ?_|refine Pd.skip (by decide +kernel) ?_|refine zf (zo 0 rfl rfl) ?_|refine zf (zo 1 rfl rfl) ?_|refine zf (zo 2 rfl rfl) ?_|refine zf (zo 3 rfl rfl) ?_|refine zf (zm 0 rfl rfl) ?_|refine zf (zm 1 rfl rfl) ?_|refine zf (zm 2 rfl rfl) ?_|refine zf (zm 3 rfl rfl) ?_|refine zf (RdL.blk (RdL.many 0 rfl rfl) rfl) ?_|refine zf ((RdL.many 0 rfl rfl)) ?_|refine zc (zo 0 rfl rfl) ?_|refine zc (zo 1 rfl rfl) ?_|refine zc (zo 2 rfl rfl) ?_|refine zc (zo 3 rfl rfl) ?_|refine zc (zm 0 rfl rfl) ?_|refine zc (zm 1 rfl rfl) ?_|refine zc (zm 2 rfl rfl) ?_|refine zc (zm 3 rfl rfl) ?_|refine zc (RdL.blk (RdL.many 0 rfl rfl) rfl) ?_|refine zc ((RdL.many 0 rfl rfl)) ?_))):p:=k
theorem yco(k:p:=by(try refine Pd.st ?_);(repeat(first|exact Pd.nil|exact Pd.fnil|refine Pd.inner ?_|refine Pd.skip (by decide +kernel) ?_|refine zf (zo 0 rfl rfl) ?_|refine zf (zo 1 rfl rfl) ?_|refine zf (zo 2 rfl rfl) ?_|refine zf (zm 0 rfl rfl) ?_|refine zf (zm 1 rfl rfl) ?_|refine zf (zm 2 rfl rfl) ?_|refine zf (RdL.blk (RdL.one 5 rfl (nod_cell hx)) rfl) ?_|refine zf ((RdL.one 5 rfl (nod_cell hx))) ?_|refine zc (zo 0 rfl rfl) ?_|refine zc (zo 1 rfl rfl) ?_|refine zc (zo 2 rfl rfl) ?_|refine zc (zm 0 rfl rfl) ?_|refine zc (zm 1 rfl rfl) ?_|refine zc (zm 2 rfl rfl) ?_|refine zc (RdL.blk (RdL.one 5 rfl (nod_cell hx)) rfl) ?_|refine zc ((RdL.one 5 rfl (nod_cell hx))) ?_))):p:=k
theorem yci(k:p:=by(try refine Pd.st ?_);(repeat(first|exact Pd.nil|exact Pd.fnil|refine Pd.inner ?_|refine Pd.skip (by decide +kernel) ?_|refine zf (zo 0 rfl rfl) ?_|refine zf (zo 1 rfl rfl) ?_|refine zf (zo 2 rfl rfl) ?_|refine zf (zm 0 rfl rfl) ?_|refine zf (zm 1 rfl rfl) ?_|refine zf (zm 2 rfl rfl) ?_|refine zf (RdL.blk (RdL.many 0 rfl rfl) rfl) ?_|refine zf ((RdL.many 0 rfl rfl)) ?_|refine zc (zo 0 rfl rfl) ?_|refine zc (zo 1 rfl rfl) ?_|refine zc (zo 2 rfl rfl) ?_|refine zc (zm 0 rfl rfl) ?_|refine zc (zm 1 rfl rfl) ?_|refine zc (zm 2 rfl rfl) ?_|refine zc (RdL.blk (RdL.many 0 rfl rfl) rfl) ?_|refine zc ((RdL.many 0 rfl rfl)) ?_))):p:=k
theorem yav(k:p:=by(try refine Pd.st ?_);(repeat(first|exact Pd.nil|exact Pd.fnil|refine Pd.inner ?_|refine Pd.skip (by decide +kernel) ?_|refine zf (RdL.blk (RdL.blk h rfl) rfl) ?_|refine zf (RdL.blk (RdL.blkA (ds:=R.ch.cells x.a x.c) h rfl) rfl) ?_|refine zf ((RdL.blk h rfl)) ?_|refine zf ((RdL.blkA (ds:=R.ch.cells x.a x.c) h rfl)) ?_|refine zc (RdL.blk (RdL.blk h rfl) rfl) ?_|refine zc (RdL.blk (RdL.blkA (ds:=R.ch.cells x.a x.c) h rfl) rfl) ?_|refine zc ((RdL.blk h rfl)) ?_|refine zc ((RdL.blkA (ds:=R.ch.cells x.a x.c) h rfl)) ?_))):p:=k
theorem ycm(k:p:=by(try refine Pd.st ?_);(repeat(first|exact Pd.nil|exact Pd.fnil|refine Pd.inner ?_|refine Pd.skip (by decide +kernel) ?_|refine zf (zo 0 rfl rfl) ?_|refine zf (zo 1 rfl rfl) ?_|refine zf (zm 0 rfl rfl) ?_|refine zf (zm 1 rfl rfl) ?_|refine zf (RdL.blk (RdL.many 0 rfl rfl) rfl) ?_|refine zf ((RdL.many 0 rfl rfl)) ?_|refine zc (zo 0 rfl rfl) ?_|refine zc (zo 1 rfl rfl) ?_|refine zc (zm 0 rfl rfl) ?_|refine zc (zm 1 rfl rfl) ?_|refine zc (RdL.blk (RdL.many 0 rfl rfl) rfl) ?_|refine zc ((RdL.many 0 rfl rfl)) ?_))):p:=k
theorem yz(k:p:=by(try refine Pd.st ?_);(repeat(first|exact Pd.nil|exact Pd.fnil|refine Pd.inner ?_|refine Pd.skip (by decide +kernel) ?_|refine zf (RdL.blk (RdL.blk hb rfl) rfl) ?_|refine zf (RdL.blk (RdL.blkA (ds:=lastsC es) hb rfl) rfl) ?_|refine zf ((RdL.blk hb rfl)) ?_|refine zf ((RdL.blkA (ds:=lastsC es) hb rfl)) ?_|refine zc (RdL.blk (RdL.blk hb rfl) rfl) ?_|refine zc (RdL.blk (RdL.blkA (ds:=lastsC es) hb rfl) rfl) ?_|refine zc ((RdL.blk hb rfl)) ?_|refine zc ((RdL.blkA (ds:=lastsC es) hb rfl)) ?_))):p:=k
theorem yab(k:p:=by(try refine Pd.st ?_);(repeat(first|exact Pd.nil|exact Pd.fnil|refine Pd.inner ?_|refine Pd.skip (by decide +kernel) ?_|refine zf (RdL.blk hb rfl) ?_|refine zf (RdL.blk (RdL.blkA hp hrow) rfl) ?_|refine zf (hb) ?_|refine zf ((RdL.blkA hp hrow)) ?_|refine zc (RdL.blk hb rfl) ?_|refine zc (RdL.blk (RdL.blkA hp hrow) rfl) ?_|refine zc (hb) ?_|refine zc ((RdL.blkA hp hrow)) ?_))):p:=k
theorem yar(k:p:=by(try refine Pd.st ?_);(repeat(first|exact Pd.nil|exact Pd.fnil|refine Pd.inner ?_|refine Pd.skip (by decide +kernel) ?_|refine zf (zo 0 rfl rfl) ?_|refine zf (zm 0 rfl rfl) ?_|refine zf (RdL.blk hb rfl) ?_|refine zf (hb) ?_|refine zc (zo 0 rfl rfl) ?_|refine zc (zm 0 rfl rfl) ?_|refine zc (RdL.blk hb rfl) ?_|refine zc (hb) ?_))):p:=k
theorem yx(k:p:=by(try refine Pd.st ?_);(repeat(first|exact Pd.nil|exact Pd.fnil|refine Pd.inner ?_|refine Pd.skip (by decide +kernel) ?_|refine zf (RdL.blk (RdL.blk hb rfl) rfl) ?_|refine zf ((RdL.blk hb rfl)) ?_|refine zc (RdL.blk (RdL.blk hb rfl) rfl) ?_|refine zc ((RdL.blk hb rfl)) ?_))):p:=k
theorem yct(k:p:=by rw[show(2+2*(dueMost F:Int)) / 2=(dueMost F:Int)+1 by omega];exact i64_in _ (by omega) (by omega)):p:=k
theorem ycd(k:p:=by rw[ByteArray.size_append,ByteArray.size_append,bT_size,bT_size,bT_size,bT_size];omega):p:=k
theorem ybx(k:p:=by rw[(call_bad he (by decide)).1,(call_bad he (by decide)).2,he];exact sentE_nil rfl rfl):p:=k
theorem yck(k:p:=by show 0+k*1<_;rw[Nat.zero_add,List.length_append,flat_len nodC_len];omega):p:=k
theorem yaw(k:p:=by rw[List.length_append,refs,List.length_map,List.length_take];omega):p:=k
theorem yao(k:p:=by(repeat refine Pd.filter ?_);exact hS _ (.tail _ (.tail _ (.head _)))):p:=k
theorem yan(k:p:=by(repeat refine Pd.filter ?_);exact hS _ (.tail _ (.head _))):p:=k
theorem ybj(k:p:=by rw[bT_size,bT_size];simp only[List.length_append];omega):p:=k
theorem ycc(k:p:=by rw[ByteArray.size_append,bT_size,bT_size,bT_size];omega):p:=k
theorem yce(k:p:=by rw[show getM s=none from(by exact hG)];exact⟨rfl,rfl⟩):p:=k
theorem ybk(k:p:=by rw[List.take_zero,List.flatMap_nil,List.append_nil];rfl):p:=k
theorem yba(k:p:=by exact(fun v L h=>⟨_,by rw[hch] at h;exact h.2,h.1,rfl⟩)):p:=k
theorem yw(k:p:=by rw[kvApply,if_neg hb,if_neg h1,if_pos h2,hg]):p:=k
theorem yau(k:p:=by rw[admCs_len h];show 0+15+n*1<21;omega):p:=k
theorem ybp(k:p:=by unfold tickN;repeat' split;all_goals omega):p:=k
theorem ybl(k:p:=by rw[e];simp only[List.append_assoc];rfl):p:=k
theorem yaq(k:p:=by rw[flat_len markCs_len,h.marks];omega):p:=k
theorem yaf(k:p:=by have:=h0.wf.n0;have:=h0.len;omega):p:=k
theorem yax(k:p:=by show(0+c.ms.length)*16≤_;omega):p:=k
theorem ybr(k:p:=by show 2+3≤_;rw[mas_len ok];omega):p:=k
theorem yi(k:p:=by simpa using(List.mem_filter.1 hp1).2):p:=k
theorem ybc(k:p:=by rw[if_pos hyes];exact⟨p,rfl,rfl⟩):p:=k
theorem ybh(k:p:=by show(done.length+1)*1≤_;omega):p:=k
theorem ycs(k:p:=by rw[←htb (by omega) (by omega)];rfl):p:=k
theorem ybs(k:p:=by rw[←beq_eq_false_iff_ne.2 he];rfl):p:=k
theorem yl(k:p:=by simp[stepG,stepG.exec,Frame.atR]):p:=k
theorem yaa(k:p:=by show(0+l.length)*16≤_;omega):p:=k
theorem yam(k:p:=by rw[intCs_len,mixQ_len];exact hi2):p:=k
theorem yn(k:p:=by simp[opCheck,opLong,h1];omega):p:=k
theorem ybn(k:p:=by rw[hW];exact⟨a2,c2,rfl,rfl⟩):p:=k
theorem yah(k:p:=by simp only[clsCs];rw[hcr];rfl):p:=k
theorem ybg(k:p:=by rw[hel];exact⟨_,_,rfl,rfl⟩):p:=k
theorem ybt(k:p:=by rw[if_neg hf];exact⟨rfl,rfl⟩):p:=k
theorem yby(k:p:=by rw[if_neg hE];exact⟨rfl,rfl⟩):p:=k
theorem ycp(k:p:=by rw[Array.size_modify];exact hx):p:=k
theorem yca(k:p:=by rw[hG];exact⟨_,_,rfl,rfl⟩):p:=k
theorem yp(k:p:=by rw[List.length_append];omega):p:=k
theorem ycq(k:p:=by show 0+2+i*1<18;omega):p:=k
theorem yy(k:p:=by exact(fun v L h=>⟨_,h.2,h.1,rfl⟩)):p:=k
theorem yak(k:p:=by rw[List.length_take];omega):p:=k
theorem ybi(k:p:=by rw[bT_size,bT_size];omega):p:=k
theorem yag(k:p:=by show(0:Int)≤95;omega):p:=k
theorem ybq(k:p:=by dsimp only;rw[hlen];rfl):p:=k
theorem ycu(k:p:=by as_aux_lemma=>kernel_rfl):p:=k
theorem ybe(k:p:=by show ms.length≤_;omega):p:=k
theorem ybz(k:p:=by rw[hn];exact⟨rfl,rfl⟩):p:=k
theorem yh(k:p:=by rw[hpr] at h0;cases h0):p:=k
theorem ybd(k:p:=by show 0≤900000;omega):p:=k
theorem ybf(k:p:=by show 0≤800000;omega):p:=k
theorem ybv(k:p:=by show 12<21;omega):p:=k
theorem yal(k:p:=by show 3<12;omega):p:=k
theorem yat(k:p:=by rw[hwt];exact h2):p:=k
theorem yaz(k:p:=by show 8<17;omega):p:=k
theorem ybu(k:p:=by show 9<21;omega):p:=k
theorem yq(k:p:=by rw[chE,hc];rfl):p:=k
theorem yac(k:p:=by show 2<3;omega):p:=k
theorem yad(k:p:=by show 1<3;omega):p:=k
theorem ybb(k:p:=by dsimp only;omega):p:=k
theorem ybo(k:p:=by rw[hlv];decide):p:=k
theorem yae(k:p:=by simp[schL,hr]):p:=k
theorem ybm(k:p:=by rw[hf];decide):p:=k
theorem ycb(k:p:=by rw[←hfc];rfl):p:=k
theorem ycr(k:p:=by rw[←htb];rfl):p:=k
theorem yk(k:p:=by simpa using hi):p:=k
theorem yr(k:p:=by decide +kernel):p:=k
theorem ybw(k:p:=by rw[h];decide):p:=k
theorem ycf(k:p:=by simpa using k1):p:=k
theorem ycg(k:p:=by simpa using hh):p:=k
theorem yc(k:p:=by simpa using h):p:=k
theorem yas(k:p:=by rw[h1];simp):p:=k
theorem yay(k:p:=by rw[h1];rfl):p:=k
theorem yb(k:p:=by simp[hs.1]):p:=k
theorem ye(k:p:=by simp;omega):p:=k
theorem yai(k:p:=by rw[e];rfl):p:=k
theorem ych(k:p:=by exact(fun v L h=>h)):p:=k
theorem ym(k:p:=by kernel_rfl):p:=k
theorem yg(k:p:=by simp[h1]):p:=k
theorem yj(k:p:=by simp[h2]):p:=k
theorem ya(k:p:=by simp[h]):p:=k
theorem yo(k:p:=by decide):p:=k
theorem yaj(k:p:=by rw[e]):p:=k
theorem yd(k:p:=by omega):p:=k
theorem yf(k:p:=by simp):p:=k
theorem xcv(k:p:=by exact⟨fun _ _=>trivial,hk Q' hQ _ _ _ (ha.putE hd _) (hG.put hf _) hw⟩):p:=k
theorem xcw(k:p:=by exact .inl ⟨_,E _ (fun w=>r1 w),h⟩):p:=k
theorem xcx(k:p:=by exact .inl ⟨_,E _ (fun w=>r2 w),h⟩):p:=k
theorem xcy(k:p:=by exact .inl ⟨v,fun a ha _ _ _ _ _ w=>by simp only[execOp,ha.ev hv];rfl,h⟩):p:=k
theorem xcz(k:p:=by exact .inl ⟨_,fun a ha _ _ _ _ _ w=>by simp only[execOp,ha.ev hv];rfl,h⟩):p:=k
theorem xda(k:p:=by exact .inl ⟨_,fun a ha _ _ _ _ _ w=>by simp only[execOp,ha.ev hv,ha.ev hu];rfl,h⟩):p:=k
theorem xdb(k:p:=by exact List.nodup_append.2 ⟨hGn,hnl,fun x hx y hy he=>(hGb x hx).1 (.inr (he▸hy))⟩):p:=k
theorem xdc(k:p:=by exact⟨(hb b ya).1,Nat.lt_of_lt_of_le (hb b ya).2 h4.size⟩):p:=k
theorem xdd(k:p:=by exact h.keep.trans ⟨rfl,rfl,rfl,by rw[size_setBlk];exact NR _,fun c hc=>heap_setBlk_ne fun he=>hf (he▸hc),NR _⟩):p:=k
theorem xde(k:p:=by exact hk v L' hm Q' hp0 hQ hsel ro _ _ w' hp.2 (ha.putE hd v) (hG.put hf v) hs (fun p hp1=>hst v L' hm w' hs p (List.mem_filter.1 hp1).1 yi)):p:=k
theorem xdf(g:q)(k:Bq q→p:=by(intro zq;(repeat(first|refine zS ?_|refine zR ?_|refine zB ?_|refine zL ?_|refine zC ?_|refine zG (zN ?_)|refine zG (zD 0 rfl rfl rfl rfl ?_)));exact zq.v)):p:=k ⟨g⟩
theorem xdg(g:q)(k:Bq q→p:=by(intro zq;refine VC.condF rfl ?_;exact zq.v)):p:=k ⟨g⟩
theorem xdh(k:p:=by exact CR (Ret.int 2 rfl rfl (by simp[opCost,h1]) Imp.nil.ent ⟨rfl,rfl⟩)):p:=k
theorem xdi(g:q)(k:Bq q→p:=by(intro zq;(repeat(first|refine zS ?_|refine zR ?_|refine zB ?_|refine zL ?_|refine zC ?_|refine zG (zN ?_)|refine zG (zE rfl rfl (RdL.blk hb rfl) ?_)));exact zq.v)):p:=k ⟨g⟩
theorem xdj(g:q)(k:Bq q→p:=by(intro zq;refine VG (VI (light_idx i rfl rfl rfl rfl rfl rfl hi2) ?_);exact zq.v)):p:=k ⟨g⟩
theorem xdk(g:q)(k:Bq q→p:=by(intro zq;refine VG (VO.load rfl rfl (ra _ _ rfl rfl) ?_);exact zq.v)):p:=k ⟨g⟩
theorem xdl(g:q)(k:Bq q→p:=by(intro zq;refine VG (VP rfl rfl yd yd ?_);exact zq.v)):p:=k ⟨g⟩
theorem xdm(g:q)(k:Bq q→p:=by(intro zq;refine VG (VI (light_makeFunc (u:=[]) (v:=[.pointer (some ⟨b,0,none⟩)]) rfl rfl) ?_);exact zq.v)):p:=k ⟨g⟩
theorem xdn(g:q)(k:Bq q→p:=by(intro zq;(repeat(first|refine zS ?_|refine zR ?_|refine zB ?_|refine zL ?_|refine zC ?_|refine zG (zN ?_)|refine zG (zD 0 rfl rfl rfl rfl ?_)|refine zG (zU rfl rfl rfl ?_)));exact zq.v)):p:=k ⟨g⟩
theorem xdo(g:q)(k:Bq q→p:=by(intro zq;refine VG (VY 14 true rfl rfl ?_);exact zq.v)):p:=k ⟨g⟩
theorem xdp(k:p:=by exact⟨(),trivial,SC rfl (Sub.bl rfl (by simp[headOk];omega) (SN _)),ER⟩):p:=k
theorem xdq(g:q)(k:Bq q→p:=by(intro zq;refine VG (VL 0 (c.cells a cap) rfl rfl rfl rfl ?_);exact zq.v)):p:=k ⟨g⟩
theorem xdr(g:q)(k:Bq q→p:=by(intro zq;refine VG (VK (Lc:=[]) (fun Fr w hF hw _=>places_spec (c:=c) (a:=a) (cap:=cap) Fr w) rfl rfl ?_);exact zq.v)):p:=k ⟨g⟩
theorem xds(g:q)(k:Bq q→p:=by(intro zq;(repeat(first|refine zS ?_|refine zR ?_|refine zB ?_|refine zL ?_|refine zC ?_|refine zG (zN ?_)|refine zG (zD 0 rfl rfl rfl rfl ?_)|refine zG (zD 1 rfl rfl rfl rfl ?_)));exact zq.v)):p:=k ⟨g⟩
theorem xdt(g:q)(k:Bq q→p:=by(intro zq;(repeat(first|refine zS ?_|refine zR ?_|refine zB ?_|refine zL ?_|refine zC ?_|refine zG (zN ?_)|refine zG (zD 0 rfl rfl rfl rfl ?_)|refine zG (zD 1 rfl rfl rfl rfl ?_)|refine zG (zD 2 rfl rfl rfl rfl ?_)));exact zq.v)):p:=k ⟨g⟩
theorem xdu(g:q)(k:Bq q→p:=by(intro zq;refine VG (VY 40 true rfl rfl ?_);exact zq.v)):p:=k ⟨g⟩
theorem xdv(g:q)(k:Bq q→p:=by(intro zq;(repeat(first|refine zS ?_|refine zR ?_|refine zB ?_|refine zL ?_|refine zC ?_|refine zG (zN ?_)|refine zG (zD 0 rfl rfl rfl rfl ?_)|refine zG (zD 1 rfl rfl rfl rfl ?_)|refine zG (zD 2 rfl rfl rfl rfl ?_)|refine zG (zU rfl rfl rfl ?_)));exact zq.v)):p:=k ⟨g⟩
theorem xdw(g:q)(k:Bq q→p:=by(intro zq;refine VG (VY 40 false rfl rfl ?_);exact zq.v)):p:=k ⟨g⟩
theorem xdx(g:q)(k:Bq q→p:=by(intro zq;(repeat(first|refine zS ?_|refine zR ?_|refine zB ?_|refine zL ?_|refine zC ?_|refine zG (zN ?_)|refine zG (zD 0 rfl rfl rfl rfl ?_)|refine zG (zD 1 rfl rfl rfl rfl ?_)|refine zG (zU rfl rfl rfl ?_)));exact zq.v)):p:=k ⟨g⟩
theorem xdy(g:q)(k:Bq q→p:=by(intro zq;refine VC.condF rfl (CK ?_);exact zq.v)):p:=k ⟨g⟩
theorem xdz(g:q)(k:Bq q→p:=by(intro zq;refine VC.condT rfl ?_;exact zq.v)):p:=k ⟨g⟩
theorem xea(g:q)(k:Bq q→p:=by(intro zq;refine VG (VI (light_idx k rfl rfl rfl rfl rfl rfl hk) ?_);exact zq.v)):p:=k ⟨g⟩
theorem xeb(g:q)(k:Bq q→p:=by(intro zq;refine VG (VO.load rfl rfl (rc _ _ 0 _ rfl rfl) ?_);exact zq.v)):p:=k ⟨g⟩
theorem xec(k:p:=by exact CR (Ret.tmp 2 rfl rfl Imp.nil.ent ⟨rfl,rfl⟩)):p:=k
theorem xed(g:q)(k:Bq q→p:=by(intro zq;refine VG (VO.sub' rfl rfl yd yd ?_);exact zq.v)):p:=k ⟨g⟩
theorem xee(g:q)(k:Bq q→p:=by(intro zq;refine VG (VO.callFV (u:=.int .i64 (placeOf c.ms n)) rfl (fun Fr w hF hs hS=>place1_spec Fr w (hS.blk 0 rfl) (h.of hF hs) yd n) rfl ?_);exact zq.v)):p:=k ⟨g⟩
theorem xef(g:q)(k:Bq q→p:=by(intro zq;refine VG (VL 1 (c.cells a cap) rfl rfl rfl rfl ?_);exact zq.v)):p:=k ⟨g⟩
theorem xeg(g:q)(k:Bq q→p:=by(intro zq;refine VG (VN ?_);exact zq.v)):p:=k ⟨g⟩
theorem xeh(g:q)(k:Bq q→p:=by(intro zq;(repeat(first|refine yG (yN ?_)|refine yG (yD 0 rfl rfl rfl rfl rfl ?_)));exact zq.v)):p:=k ⟨g⟩
theorem xei(g:q)(k:Bq q→p:=by(intro zq;refine AG (VA.sub' rfl rfl rfl yd yd ?_);exact zq.v)):p:=k ⟨g⟩
theorem xej(g:q)(k:Bq q→p:=by(intro zq;(repeat(first|refine zS ?_|refine zR ?_|refine zB ?_|refine zL ?_|refine zC ?_|refine zG (zN ?_)|refine zG (zE rfl rfl (RdL.blk h rfl) ?_)));exact zq.v)):p:=k ⟨g⟩
theorem xek(k:p:=by exact CR (Ret.bool 2 rfl rfl ye ER ⟨rfl,rfl⟩)):p:=k
theorem xel(g:q)(k:Bq q→p:=by(intro zq;refine VG (VV (fun Fr w hF hs _=>none_spec Fr w (h.of hF hs) hc) rfl ?_);exact zq.v)):p:=k ⟨g⟩
theorem xem(k:p:=by exact CR (Ret.int 2 rfl rfl rfl ER ⟨rfl,rfl⟩)):p:=k
theorem xen(g:q)(k:Bq q→p:=by(intro zq;(repeat(first|refine yG (yN ?_)|refine yG (yE rfl rfl rfl (RdL.blk h rfl) ?_)));exact zq.v)):p:=k ⟨g⟩
theorem xeo(g:q)(k:Bq q→p:=by(intro zq;refine AG (AP rfl rfl rfl yd yd ?_);exact zq.v)):p:=k ⟨g⟩
theorem xep(k:p:=by exact CR (Ret.bool 2 rfl rfl rfl ER ⟨rfl,rfl⟩)):p:=k
theorem xeq(g:q)(k:Bq q→p:=by(intro zq;refine VG (VV (fun Fr w hF hs hS=>none_spec Fr w (hS.blk 0 rfl) o1) rfl ?_);exact zq.v)):p:=k ⟨g⟩
theorem xer(k:p:=by exact CR (Ret.tmp 4 rfl rfl ER ⟨by rw[hb],by rw[WinM.ack,hb];rfl⟩)):p:=k
theorem xes(k:p:=by exact Ret.void rfl ER ⟨rfl,rfl⟩):p:=k
theorem xet(g:q)(k:Bq q→p:=by(intro zq;refine CS (CG (VG (VN ?_)));exact zq.v)):p:=k ⟨g⟩
theorem xeu(g:q)(k:Bq q→p:=by(intro zq;(repeat(first|refine yG (yN ?_)|refine yG (yD 0 rfl rfl rfl rfl rfl ?_)|refine yG (yU rfl rfl rfl rfl ?_)));exact zq.v)):p:=k ⟨g⟩
theorem xev(k:p:=by exact CR (Ret.tmp2 2 3 rfl rfl rfl ER ⟨by rw[hb];rfl,by rw[WinM.next,hb];rfl⟩)):p:=k
theorem xew(k:p:=by exact CR (Ret.tmp 2 rfl rfl ER ⟨q,rfl,rfl⟩)):p:=k
theorem xex(g:q)(k:Bq q→p:=by(intro zq;refine VG (VO.callV (fun Fr w=>check_spec Fr w o) rfl ?_);exact zq.v)):p:=k ⟨g⟩
theorem xey(g:q)(k:Bq q→p:=by(intro zq;(repeat(first|refine zS ?_|refine zR ?_|refine zB ?_|refine zL ?_|refine zC ?_|refine zG (zN ?_)|refine zG (zD 0 rfl rfl rfl rfl ?_)|refine zG (zE rfl rfl (RdL.blk hp rfl) ?_)));exact zq.v)):p:=k ⟨g⟩
theorem xez(g:q)(k:Bq q→p:=by(intro zq;refine VG (VY 5 false rfl rfl ?_);exact zq.v)):p:=k ⟨g⟩
theorem xfa(k:p:=by exact CR (Ret.tmp 2 rfl rfl ER ⟨rfl,rfl⟩)):p:=k
theorem xfb(g:q)(k:Bq q→p:=by(intro zq;refine VG (VV (fun Fr w hF hs _=>none_spec Fr w (h.of hF hs)) rfl ?_);exact zq.v)):p:=k ⟨g⟩
theorem xfc(g:q)(k:Bq q→p:=by(intro zq;refine VG (VI (LB (pv:=[]) (resC resZ) rfl rfl rfl ym rfl) ?_);exact zq.v)):p:=k ⟨g⟩
theorem xfd(g:q)(k:Bq q→p:=by(intro zq;refine VG (VT (vs:=resC resZ) 0 rfl rfl rfl rfl (NR _) rfl rfl rfl ?_);exact zq.v)):p:=k ⟨g⟩
theorem xfe(g:q)(k:Bq q→p:=by(intro zq;(repeat(first|refine yG (yN ?_)|refine yG (yD 0 rfl rfl rfl rfl rfl ?_)|refine yG (yD 1 rfl rfl rfl rfl rfl ?_)|refine yG (yD 2 rfl rfl rfl rfl rfl ?_)|refine yG (yD 3 rfl rfl rfl rfl rfl ?_)));exact zq.v)):p:=k ⟨g⟩
theorem xff(g:q)(k:Bq q→p:=by(intro zq;refine CS (CD (ts 0 10 (.only 10 .nil)) ym yr ?_);exact zq.v)):p:=k ⟨g⟩
theorem xfg(g:q)(k:Bq q→p:=by(intro zq;(repeat(first|refine yG (yN ?_)|refine yG (yD 0 rfl rfl rfl rfl rfl ?_)|refine yG (yD 1 rfl rfl rfl rfl rfl ?_)|refine yG (yD 2 rfl rfl rfl rfl rfl ?_)|refine yG (yD 3 rfl rfl rfl rfl rfl ?_)|refine yG (yD 4 rfl rfl rfl rfl rfl ?_)));exact zq.v)):p:=k ⟨g⟩
theorem xfh(g:q)(k:Bq q→p:=by(intro zq;(repeat(first|refine zS ?_|refine zR ?_|refine zB ?_|refine zL ?_|refine zC ?_|refine zG (zN ?_)|refine zG (zD 0 rfl rfl rfl rfl ?_)|refine zG (zD 1 rfl rfl rfl rfl ?_)|refine zG (zD 2 rfl rfl rfl rfl ?_)|refine zG (zD 3 rfl rfl rfl rfl ?_)|refine zG (zD 4 rfl rfl rfl rfl ?_)));exact zq.v)):p:=k ⟨g⟩
theorem xfi(g:q)(k:Bq q→p:=by(intro zq;refine CS (CD (ts 0 6 (.only 6 .nil)) ym yr ?_);exact zq.v)):p:=k ⟨g⟩
theorem xfj(g:q)(k:Bq q→p:=by(intro zq;refine VG (VV (fun Fr w hF hs hS=>none_spec Fr w (hb.of hF hs)) rfl ?_);exact zq.v)):p:=k ⟨g⟩
theorem xfk(g:q)(k:Bq q→p:=by(intro zq;(repeat(first|refine yG (yN ?_)|refine yG (yE rfl rfl rfl (RdL.blk hb rfl) ?_)));exact zq.v)):p:=k ⟨g⟩
theorem xfl(g:q)(k:Bq q→p:=by(intro zq;(repeat(first|refine zS ?_|refine zR ?_|refine zB ?_|refine zL ?_|refine zC ?_|refine zG (zN ?_)|refine zG (zD 0 rfl rfl rfl rfl ?_)|refine zG (zD 1 rfl rfl rfl rfl ?_)|refine zG (zD 2 rfl rfl rfl rfl ?_)|refine zG (zD 3 rfl rfl rfl rfl ?_)|refine zG (zD 4 rfl rfl rfl rfl ?_)|refine zG (zD 5 rfl rfl rfl rfl ?_)));exact zq.v)):p:=k ⟨g⟩
theorem xfm(g:q)(k:Bq q→p:=by(intro zq;(repeat(first|refine zS ?_|refine zR ?_|refine zB ?_|refine zL ?_|refine zC ?_|refine zG (zN ?_)|refine zG (zD 0 rfl rfl rfl rfl ?_)|refine zG (zD 1 rfl rfl rfl rfl ?_)|refine zG (zD 2 rfl rfl rfl rfl ?_)|refine zG (zD 3 rfl rfl rfl rfl ?_)|refine zG (zD 4 rfl rfl rfl rfl ?_)|refine zG (zD 5 rfl rfl rfl rfl ?_)|refine zG (zU rfl rfl rfl ?_)));exact zq.v)):p:=k ⟨g⟩
theorem xfn(g:q)(k:Bq q→p:=by(intro zq;refine VG (VT (vs:=resC resZ) 4 rfl rfl rfl rfl (NR _) rfl rfl rfl ?_);exact zq.v)):p:=k ⟨g⟩
theorem xfo(g:q)(k:Bq q→p:=by(intro zq;(repeat(first|refine yG (yN ?_)|refine yG (yD 0 rfl rfl rfl rfl rfl ?_)|refine yG (yD 1 rfl rfl rfl rfl rfl ?_)|refine yG (yD 2 rfl rfl rfl rfl rfl ?_)|refine yG (yD 3 rfl rfl rfl rfl rfl ?_)|refine yG (yD 4 rfl rfl rfl rfl rfl ?_)|refine yG (yD 5 rfl rfl rfl rfl rfl ?_)));exact zq.v)):p:=k ⟨g⟩
theorem xfp(g:q)(k:Bq q→p:=by(intro zq;refine CS (CD (ts 0 6 (.only 6 (.only 7 (ts 8 2 (.only 10 .nil))))) ym yr ?_);exact zq.v)):p:=k ⟨g⟩
theorem xfq(k:p:=by exact CR (Ret.tmp 2 rfl rfl (Imp.slNil Imp.nil).ent ⟨none,0,rfl,rfl⟩)):p:=k
theorem xfr(k:p:=by exact CR (Ret.tmp 2 rfl rfl ER ⟨a',c',rfl,rfl⟩)):p:=k
theorem xfs(k:p:=by exact⟨s,h1,G,h2,by simpa using hn,fun b hb=>by simpa using hb⟩):p:=k
theorem xft(g:q)(k:Bq q→p:=by(intro zq;refine TF 8 Tryz.func256 rfl ym tabOk rfl rfl ?_;exact zq.v)):p:=k ⟨g⟩
theorem xfu(g:q)(k:Bq q→p:=by(intro zq;refine VO.ent (L':=[slH memT 2 (some ⟨b,0,none⟩) 0 0 []]) (Imp.sl (M:=[]) (cs:=[]) (rest:=[]) rfl (NR _) rfl (Imp.refl (L:=[pt b [] memT]))).ent ?_;exact zq.v)):p:=k ⟨g⟩
theorem xfv(g:q)(k:Bq q→p:=by(intro zq;refine VG (VV (fun Fr w hF hs hS=>none_spec Fr w (hS.blk 0 rfl) hc) rfl ?_);exact zq.v)):p:=k ⟨g⟩
theorem xfw(g:q)(k:Bq q→p:=by(intro zq;refine VG (VL 0 (rdC row) rfl rfl rfl rfl ?_);exact zq.v)):p:=k ⟨g⟩
theorem xfx(g:q)(k:Bq q→p:=by(intro zq;(repeat(first|refine zS ?_|refine zR ?_|refine zB ?_|refine zL ?_|refine zC ?_|refine zG (zN ?_)|refine zG (zD 0 rfl rfl rfl rfl ?_)|refine zG (zE rfl rfl (RdL.blk hb rfl) ?_)));exact zq.v)):p:=k ⟨g⟩
theorem xfy(k:p:=by exact CR (Ret.tmp 4 rfl rfl (IP 0 rfl (IP 0 rfl Imp.nil)).ent ⟨a,c,rows,h1,rfl,rfl⟩)):p:=k
theorem xfz(g:q)(k:Bq q→p:=by(intro zq;refine VG (VT (vs:=fmc (f,m)) (cs':=fmc (f,m)) 1 rfl rfl rfl rfl (NR _) rfl rfl rfl (VG (VN ?_)));exact zq.v)):p:=k ⟨g⟩
theorem xga(g:q)(k:Bq q→p:=by(intro zq;refine VG (VT (vs:=fmc fmz) (cs':=fmc fmz) 0 rfl rfl rfl rfl (NR _) rfl rfl rfl (VG (VN ?_)));exact zq.v)):p:=k ⟨g⟩
theorem xgb(g:q)(k:Bq q→p:=by(intro zq;refine CR (Ret.cellTmp 2 3 rfl rfl rfl (RdL.many 0 rfl rfl) rfl Imp.nil.ent ?_);exact zq.v)):p:=k ⟨g⟩
theorem xgc(g:q)(k:Bq q→p:=by(intro zq;(repeat(first|refine yG (yN ?_)|refine yG (yD 0 rfl rfl rfl rfl rfl ?_)|refine yG (yD 1 rfl rfl rfl rfl rfl ?_)));exact zq.v)):p:=k ⟨g⟩
theorem xgd(g:q)(k:Bq q→p:=by(intro zq;(repeat(first|refine yG (yN ?_)|refine yG (yD 0 rfl rfl rfl rfl rfl ?_)|refine yG (yD 1 rfl rfl rfl rfl rfl ?_)|refine yG (yD 2 rfl rfl rfl rfl rfl ?_)));exact zq.v)):p:=k ⟨g⟩
theorem xge(g:q)(k:Bq q→p:=by(intro zq;refine VG (VO.st 2 rfl rfl rfl rfl yac rfl rfl (VG (VN ?_)));exact zq.v)):p:=k ⟨g⟩
theorem xgf(g:q)(k:Bq q→p:=by(intro zq;refine VG (VI (light_idx k rfl rfl rfl rfl rfl rfl yd) ?_);exact zq.v)):p:=k ⟨g⟩
theorem xgg(g:q)(k:Bq q→p:=by(intro zq;refine VG (VV (fun Fr w hF _ hs=>idle_spec Fr w (SatIn.shut s0 h0 hs.tail)) rfl (VG (VN ?_)));exact zq.v)):p:=k ⟨g⟩
theorem xgh(g:q)(k:Bq q→p:=by(intro zq;refine VG (VO.ld 2 rfl rfl rfl (hcell (j:=0) rfl) ?_);exact zq.v)):p:=k ⟨g⟩
theorem xgi(g:q)(k:Bq q→p:=by(intro zq;refine VG (VQ 2 (ψ:=fun v H=>v=.tuple #[]∧H=passH p s.cb s.rows.length s.ccap S.turn) rfl (fun Fr w _ _ _=>pass_spec Fr w yd yd) rfl (fun v L1 ⟨h1,h2⟩=>⟨_,h2,h1,rfl⟩) ?_);exact zq.v)):p:=k ⟨g⟩
theorem xgj(k:p:=by exact(Imp.trans Imp.tl (Imp.trans Imp.tl (Imp.trans (Imp.of_eq e) (sch_shut (h.row' hr hwf))))).ent):p:=k
theorem xgk(g:q)(k:Bq q→p:=by(intro zq;refine VG (VO.ld 1 rfl rfl rfl rfl ?_);exact zq.v)):p:=k ⟨g⟩
theorem xgl(g:q)(k:Bq q→p:=by(intro zq;refine VG (VO.ld 2 rfl rfl rfl rfl (VG (VO.ld 0 rfl rfl rfl rfl ?_)));exact zq.v)):p:=k ⟨g⟩
theorem xgm(g:q)(k:Bq q→p:=by(intro zq;refine VG (VY 47 false rfl rfl ?_);exact zq.v)):p:=k ⟨g⟩
theorem xgn(g:q)(k:Bq q→p:=by(intro zq;refine VG (VY 54 false rfl rfl ?_);exact zq.v)):p:=k ⟨g⟩
theorem xgo(g:q)(k:Bq q→p:=by(intro zq;refine VG (VY 61 false rfl rfl ?_);exact zq.v)):p:=k ⟨g⟩
theorem xgp(g:q)(k:Bq q→p:=by(intro zq;refine VG (VY 68 false rfl rfl ?_);exact zq.v)):p:=k ⟨g⟩
theorem xgq(g:q)(k:Bq q→p:=by(intro zq;refine VG (VY 75 false rfl rfl ?_);exact zq.v)):p:=k ⟨g⟩
theorem xgr(g:q)(k:Bq q→p:=by(intro zq;refine VG (VY 82 false rfl rfl ?_);exact zq.v)):p:=k ⟨g⟩
theorem xgs(g:q)(k:Bq q→p:=by(intro zq;refine CS (CG (VG (VO.ld 1 rfl rfl rfl rfl ?_)));exact zq.v)):p:=k ⟨g⟩
theorem xgt(g:q)(k:Bq q→p:=by(intro zq;refine AG (AO (OpT.callP (φ:=fun v=>v=.int .i64 (near c.clients 1 6)) (fun Fr w _ _ _=>rnear_spec Fr w _ _ _) rfl) rfl (fun v L' h=>by obtain⟨_,rfl⟩:=h;exact yao) ?_);exact zq.v)):p:=k ⟨g⟩
theorem xgu(g:q)(k:Bq q→p:=by(intro zq;refine AG (AO (OpT.callP (φ:=fun v=>v=.int .i64 (near c.queue 1 16)) (fun Fr w _ _ _=>rnear_spec Fr w _ _ _) rfl) rfl (fun v L' h=>by obtain⟨_,rfl⟩:=h;exact yao) ?_);exact zq.v)):p:=k ⟨g⟩
theorem xgv(g:q)(k:Bq q→p:=by(intro zq;refine AG (AO (OpT.callP (φ:=fun v=>v=.int .i64 (near c.window 1 16)) (fun Fr w _ _ _=>rnear_spec Fr w _ _ _) rfl) rfl (fun v L' h=>by obtain⟨_,rfl⟩:=h;exact yao) ?_);exact zq.v)):p:=k ⟨g⟩
theorem xgw(g:q)(k:Bq q→p:=by(intro zq;refine AG (AO (OpT.callP (φ:=fun v=>v=.int .i64 (near c.reads 1 16)) (fun Fr w _ _ _=>rnear_spec Fr w _ _ _) rfl) rfl (fun v L' h=>by obtain⟨_,rfl⟩:=h;exact yao) ?_);exact zq.v)):p:=k ⟨g⟩
theorem xgx(g:q)(k:Bq q→p:=by(intro zq;refine AG (AO (OpT.callP (φ:=fun v=>v=.int .i64 (near c.link 4 64)) (fun Fr w _ _ _=>rnear_spec Fr w _ _ _) rfl) rfl (fun v L' h=>by obtain⟨_,rfl⟩:=h;exact yao) ?_);exact zq.v)):p:=k ⟨g⟩
theorem xgy(g:q)(k:Bq q→p:=by(intro zq;refine AG (AO (OpT.callP (φ:=fun v=>v=.int .i64 (near c.patience 4 64)) (fun Fr w _ _ _=>rnear_spec Fr w _ _ _) rfl) rfl (fun v L' h=>by obtain⟨_,rfl⟩:=h;exact yao) ?_);exact zq.v)):p:=k ⟨g⟩
theorem xgz(g:q)(k:Bq q→p:=by(intro zq;refine AG (AO (OpT.callP (φ:=fun v=>v=.int .i64 (near c.timeout 4 64)) (fun Fr w _ _ _=>rnear_spec Fr w _ _ _) rfl) rfl (fun v L' h=>by obtain⟨_,rfl⟩:=h;exact yao) ?_);exact zq.v)):p:=k ⟨g⟩
theorem xha(g:q)(k:Bq q→p:=by(intro zq;refine AG (AO (OpT.callP (φ:=fun v=>v=.int .i64 (near c.budget 0 16)) (fun Fr w _ _ _=>rnear_spec Fr w _ _ _) rfl) rfl (fun v L' h=>by obtain⟨_,rfl⟩:=h;exact yao) ?_);exact zq.v)):p:=k ⟨g⟩
theorem xhb(g:q)(k:Bq q→p:=by(intro zq;refine AG (AO (OpT.callP (φ:=fun v=>v=.int .i64 (near c.refill 1 1099511627776)) (fun Fr w _ _ _=>rnear_spec Fr w _ _ _) rfl) rfl (fun v L' h=>by obtain⟨_,rfl⟩:=h;exact yao) ?_);exact zq.v)):p:=k ⟨g⟩
theorem xhc(g:q)(k:Bq q→p:=by(intro zq;refine AG (AI rfl (light_conf rfl rfl) ?_);exact zq.v)):p:=k ⟨g⟩
theorem xhd(g:q)(k:Bq q→p:=by(intro zq;refine AG (AT (vs:=[.int .i64 (near c.nodes 1 6),.int .i64 (near c.chain 1 (near c.nodes 1 6)),.int .i64 (near c.clients 1 6),.slice none 0 0,.int .i64 (near c.queue 1 16),.int .i64 (near c.window 1 16),.int .i64 (near c.reads 1 16),.int .i64 (near c.link 4 64),.int .i64 (near c.patience 4 64),.int .i64 (near c.timeout 4 64),.int .i64 (near c.budget 0 16),.int .i64 (near c.refill 1 1099511627776)]) (cs':=[.int .i64 (near c.nodes 1 6),.int .i64 (near c.chain 1 (near c.nodes 1 6)),.int .i64 (near c.clients 1 6),.slice none 0 0,.int .i64 (near c.queue 1 16),.int .i64 (near c.window 1 16),.int .i64 (near c.reads 1 16),.int .i64 (near c.link 4 64),.int .i64 (near c.patience 4 64),.int .i64 (near c.timeout 4 64),.int .i64 (near c.budget 0 16),.int .i64 (near c.refill 1 1099511627776)]) 0 rfl rfl rfl rfl rfl (NR _) rfl rfl rfl yao (AG (AN ?_)));exact zq.v)):p:=k ⟨g⟩
theorem xhe(k:p:=by exact⟨d,trivial,sbZ,ER⟩):p:=k
theorem xhf(g:q)(k:Bq q→p:=by(intro zq;refine VG (VI (LB (pv:=[(0,.int .i64 s),(1,.int .i64 t)]) (markCs (s,t)) rfl rfl rfl rfl rfl) ?_);exact zq.v)):p:=k ⟨g⟩
theorem xhg(k:p:=by exact CR (Ret.int 8 rfl rfl yaj out ⟨rfl,by rw[e]⟩)):p:=k
theorem xhh(g:q)(k:Bq q→p:=by(intro zq;refine CD (ts 0 6 (.only 6 .nil)) ym yr ?_;exact zq.v)):p:=k ⟨g⟩
theorem xhi(g:q)(k:Bq q→p:=by(intro zq;(repeat(first|refine yG (yN ?_)|refine yG (yD 0 rfl rfl rfl rfl rfl ?_)|refine yG (yE rfl rfl rfl (RdL.blk hb rfl) ?_)));exact zq.v)):p:=k ⟨g⟩
theorem xhj(g:q)(k:Bq q→p:=by(intro zq;refine AG (VA.offO rfl rfl ?_);exact zq.v)):p:=k ⟨g⟩
theorem xhk(g:q)(k:Bq q→p:=by(intro zq;refine AG (AY 38 false rfl rfl ?_);exact zq.v)):p:=k ⟨g⟩
theorem xhl(g:q)(k:Bq q→p:=by(intro zq;refine AG (AY 43 false rfl rfl ?_);exact zq.v)):p:=k ⟨g⟩
theorem xhm(g:q)(k:Bq q→p:=by(intro zq;refine AG (AY 48 false rfl rfl ?_);exact zq.v)):p:=k ⟨g⟩
theorem xhn(g:q)(k:Bq q→p:=by(intro zq;refine AG (AY 54 false rfl rfl ?_);exact zq.v)):p:=k ⟨g⟩
theorem xho(g:q)(k:Bq q→p:=by(intro zq;refine AG (AI rfl (light_idxA n rfl rfl rfl rfl rfl hcl hn) ?_);exact zq.v)):p:=k ⟨g⟩
theorem xhp(k:p:=by exact CR (Ret.int 6 rfl rfl yaj out ⟨rfl,by rw[e]⟩)):p:=k
theorem xhq(k:p:=by exact CR (Ret.int 6 rfl rfl yaj (L':=[_]) Imp.tl.ent ⟨rfl,by rw[e]⟩)):p:=k
theorem xhr(g:q)(k:Bq q→p:=by(intro zq;(repeat(first|refine yG (yN ?_)|refine yG (yD 0 rfl rfl rfl rfl rfl ?_)|refine yG (yE rfl rfl rfl (RdL.blk h rfl) ?_)));exact zq.v)):p:=k ⟨g⟩
theorem xhs(g:q)(k:Bq q→p:=by(intro zq;refine AG (VA.load rfl rfl rfl (RdL.blkA (ds:=R.ch.cells x.a x.c) h rfl) ?_);exact zq.v)):p:=k ⟨g⟩
theorem xht(g:q)(k:Bq q→p:=by(intro zq;refine CS (CD (.take 0 (.only 1 (ts 2 5 (ts 8 4 (.only 7 (ts 12 3 .nil)))))) ym yr ?_);exact zq.v)):p:=k ⟨g⟩
theorem xhu(g:q)(k:Bq q→p:=by(intro zq;refine AG (AR (fun Fr w hF hs hS=>in_spec Fr w (h.of hF hs)) rfl rfl yu ?_);exact zq.v)):p:=k ⟨g⟩
theorem xhv(g:q)(k:Bq q→p:=by(intro zq;(repeat(first|refine yG (yN ?_)|refine yG (yE rfl rfl rfl (RdL.blk h rfl) ?_)|refine yG (yU rfl rfl rfl rfl ?_)));exact zq.v)):p:=k ⟨g⟩
theorem xhw(k:p:=by exact CR (Ret.bool 2 rfl rfl (by rw[RepM.headB,hi];rfl) ER ⟨rfl,rfl⟩)):p:=k
theorem xhx(k:p:=by exact CR (Ret.bool 2 rfl rfl (by rw[RepM.tailB,hi];rfl) ER ⟨rfl,rfl⟩)):p:=k
theorem xhy(k:p:=by exact CR (Ret.bool 2 rfl rfl (by rw[RepM.drainsB,hi];rfl) ER ⟨rfl,rfl⟩)):p:=k
theorem xhz(k:p:=by exact Ret.void rfl (IP 1 rfl Imp.nil).ent ⟨rfl,rfl⟩):p:=k
theorem xia(k:p:=by exact⟨(),trivial,SC rfl (SC rfl (SC rfl (Sub.int rfl (by rw[hd];rfl) (SN _)))),ER⟩):p:=k
theorem xib(g:q)(k:Bq q→p:=by(intro zq;(repeat(first|refine zS ?_|refine zR ?_|refine zB ?_|refine zL ?_|refine zC ?_|refine zG (zN ?_)|refine zG (zE rfl rfl (RdL.blk hb rfl) ?_)|refine zG (zU rfl rfl rfl ?_)));exact zq.v)):p:=k ⟨g⟩
theorem xic(g:q)(k:Bq q→p:=by(intro zq;refine VC.opn 0 rfl (HOpn.rep p R) ?_;exact zq.v)):p:=k ⟨g⟩
theorem xid(g:q)(k:Bq q→p:=by(intro zq;refine VG (VV (fun Fr w hF hs hS=>tail_spec Fr w (hS.blk 0 rfl) (RwIn.slH memC_len (hS.at_ 1 rfl)) ok.ch) rfl ?_);exact zq.v)):p:=k ⟨g⟩
theorem xie(g:q)(k:Bq q→p:=by(intro zq;refine VG (VV (fun Fr w hF hs hS=>Win.done_spec Fr w (hS.blk 3 rfl) w0) rfl ?_);exact zq.v)):p:=k ⟨g⟩
theorem xif(g:q)(k:Bq q→p:=by(intro zq;refine VG (VV (fun Fr w hF hs hS=>Win.last_spec Fr w (hS.blk 3 rfl) w0) rfl ?_);exact zq.v)):p:=k ⟨g⟩
theorem xig(g:q)(k:Bq q→p:=by(intro zq;(repeat(first|refine yG (yN ?_)|refine yG (yD 0 rfl rfl rfl rfl rfl ?_)|refine yG (yD 1 rfl rfl rfl rfl rfl ?_)|refine yG (yD 2 rfl rfl rfl rfl rfl ?_)|refine yG (yD 3 rfl rfl rfl rfl rfl ?_)|refine yG (yD 4 rfl rfl rfl rfl rfl ?_)|refine yG (yD 5 rfl rfl rfl rfl rfl ?_)|refine yG (yD 6 rfl rfl rfl rfl rfl ?_)|refine yG (yD 7 rfl rfl rfl rfl rfl ?_)));exact zq.v)):p:=k ⟨g⟩
theorem xih(g:q)(k:Bq q→p:=by(intro zq;refine CS (CD (ts 0 2 (.only 2 .nil)) ym yr ?_);exact zq.v)):p:=k ⟨g⟩
theorem xii(g:q)(k:Bq q→p:=by(intro zq;refine AG (VA.ldA 6 (resC resZ) rfl rfl rfl rfl rfl ?_);exact zq.v)):p:=k ⟨g⟩
theorem xij(g:q)(k:Bq q→p:=by(intro zq;refine AG (AT (vs:=resC resZ) 6 rfl rfl rfl rfl rfl (NR _) rfl rfl rfl yu ?_);exact zq.v)):p:=k ⟨g⟩
theorem xik(g:q)(k:Bq q→p:=by(intro zq;(repeat(first|refine zS ?_|refine zR ?_|refine zB ?_|refine zL ?_|refine zC ?_|refine zG (zN ?_)|refine zG (zD 0 rfl rfl rfl rfl ?_)|refine zG (zD 1 rfl rfl rfl rfl ?_)|refine zG (zD 2 rfl rfl rfl rfl ?_)|refine zG (zD 3 rfl rfl rfl rfl ?_)|refine zG (zD 4 rfl rfl rfl rfl ?_)|refine zG (zD 5 rfl rfl rfl rfl ?_)|refine zG (zD 6 rfl rfl rfl rfl ?_)|refine zG (zD 7 rfl rfl rfl rfl ?_)));exact zq.v)):p:=k ⟨g⟩
theorem xil(k:p:=by exact⟨(),trivial,SC rfl (SC rfl (SC rfl (SC rfl (SC rfl (SC rfl (SC rfl (Sub.bl rfl rfl (SN _)))))))),ER⟩):p:=k
theorem xim(g:q)(k:Bq q→p:=by(intro zq;refine VC.opn 1 rfl (HOpn.rep p R) ?_;exact zq.v)):p:=k ⟨g⟩
theorem xin(g:q)(k:Bq q→p:=by(intro zq;refine VG (VV (fun Fr w hF hs hS=>known_spec Fr w (hS.blk 0 rfl) f _) rfl ?_);exact zq.v)):p:=k ⟨g⟩
theorem xio(g:q)(k:Bq q→p:=by(intro zq;(repeat(first|refine zS ?_|refine zR ?_|refine zB ?_|refine zL ?_|refine zC ?_|refine zG (zN ?_)|refine zG (zD 0 rfl rfl rfl rfl ?_)|refine zG (zD 1 rfl rfl rfl rfl ?_)|refine zG (zD 2 rfl rfl rfl rfl ?_)|refine zG (zD 3 rfl rfl rfl rfl ?_)|refine zG (zD 4 rfl rfl rfl rfl ?_)|refine zG (zD 5 rfl rfl rfl rfl ?_)|refine zG (zD 6 rfl rfl rfl rfl ?_)));exact zq.v)):p:=k ⟨g⟩
theorem xip(g:q)(k:Bq q→p:=by(intro zq;(repeat(first|refine yG (yN ?_)|refine yG (yD 0 rfl rfl rfl rfl rfl ?_)|refine yG (yD 1 rfl rfl rfl rfl rfl ?_)|refine yG (yD 2 rfl rfl rfl rfl rfl ?_)|refine yG (yD 3 rfl rfl rfl rfl rfl ?_)|refine yG (yD 4 rfl rfl rfl rfl rfl ?_)|refine yG (yD 5 rfl rfl rfl rfl rfl ?_)|refine yG (yD 6 rfl rfl rfl rfl rfl ?_)));exact zq.v)):p:=k ⟨g⟩
theorem xiq(k:p:=by exact⟨h.ch,h.win,h.last,h.logc,h.logi,h.rc0,h.rc1,h.rl,h.rn0,h.rn1,h.rcl,h.calls,h.wf⟩):p:=k
theorem xir(g:q)(k:Bq q→p:=by(intro zq;refine CD (ts 0 5 (.two 5 9 (ts 6 3 (.only 9 (.only 10 (.take 11 .nil)))) (.only 5 (ts 6 3 (.only 10 (.take 11 .nil)))))) ym yr ?_;exact zq.v)):p:=k ⟨g⟩
theorem xis(g:q)(k:Bq q→p:=by(intro zq;refine AG (AT (vs:=resC (logRes R.log e)) 0 rfl rfl rfl rfl rfl (NR _) rfl rfl rfl yu ?_);exact zq.v)):p:=k ⟨g⟩
theorem xit(g:q)(k:Bq q→p:=by(intro zq;refine VG (VV (fun Fr w hF hs hS=>Rep.next_spec Fr w (hS.blk 0 rfl) (RwIn.slH memC_len (hS.at_ 1 rfl)) ok.ch) rfl ?_);exact zq.v)):p:=k ⟨g⟩
theorem xiu(g:q)(k:Bq q→p:=by(intro zq;refine AG (AI rfl (LB (pv:=[(0,.int .i64 (R.log.length+1)),(1,.int .i64 (nextF R now).client),(2,.int .i64 (nextF R now).seq),(3,.agg (nextF R now).op.cells.toArray)]) (entC (nextE R now)) rfl rfl rfl ym rfl) ?_);exact zq.v)):p:=k ⟨g⟩
theorem xiv(g:q)(k:Bq q→p:=by(intro zq;refine AG (AT (vs:=entC (nextE R now)) 0 rfl rfl rfl rfl rfl (NR _) rfl rfl rfl yu ?_);exact zq.v)):p:=k ⟨g⟩
theorem xiw(g:q)(k:Bq q→p:=by(intro zq;refine AG (AT (vs:=resC (logRes R.log (nextE R now))) 0 rfl rfl rfl rfl rfl (NR _) rfl rfl rfl yu ?_);exact zq.v)):p:=k ⟨g⟩
theorem xix(g:q)(k:Bq q→p:=by(intro zq;refine VG (VV (fun Fr w hF hs hS=>made_spec Fr w (hS.blk 0 rfl)) rfl ?_);exact zq.v)):p:=k ⟨g⟩
theorem xiy(g:q)(k:Bq q→p:=by(intro zq;refine VG (VI (light_makeFunc (u:=[.pointer (some ⟨ob,0,none⟩)]) (v:=[]) rfl rfl) ?_);exact zq.v)):p:=k ⟨g⟩
theorem xiz(g:q)(k:Bq q→p:=by(intro zq;refine VG (VO.load rfl rfl ((hrd 0 rfl).1 _ rfl rfl) ?_);exact zq.v)):p:=k ⟨g⟩
theorem xja(g:q)(k:Bq q→p:=by(intro zq;refine VG (VT (vs:=rdC g) 0 rfl rfl rfl rfl (NR _) rfl rfl rfl ?_);exact zq.v)):p:=k ⟨g⟩
theorem xjb(k:p:=by exact CR (Ret.tmp 4 rfl rfl (IP 2 rfl (IP 1 rfl Imp.nil)).ent ⟨a,c,rfl,rfl⟩)):p:=k
theorem xjc(g:q)(k:Bq q→p:=by(intro zq;refine VO.ent (L':=[slH memT 2 none 0 0 [],pt d [.int .i64 0,.slice none 0 0,.int .i64 0] chT,pt b (c.cells a cap) chT]) (Imp.slNil (pkZ [0,0])).ent ?_;exact zq.v)):p:=k ⟨g⟩
theorem xjd(g:q)(k:Bq q→p:=by(intro zq;refine VG (VO.st 2 (cs':=c.cells a' c') rfl rfl rfl rfl yad rfl rfl (VG (VN ?_)));exact zq.v)):p:=k ⟨g⟩
theorem xje(k:p:=by exact CR (Ret.cell 2 rfl rfl rfl (RdL.many 1 rfl rfl) (IP 0 rfl Imp.nil).ent ⟨a',c',rfl,rfl⟩)):p:=k
theorem xjf(g:q)(k:Bq q→p:=by(intro zq;refine VG (VK (Lc:=[]) (fun Fr w hF hs _=>copied_spec Fr w (hm.of hF hs) yd) rfl rfl ?_);exact zq.v)):p:=k ⟨g⟩
theorem xjg(g:q)(k:Bq q→p:=by(intro zq;refine VG (VO.st 0 (cs':=repCs { ent2 R c with whole:=false } y) rfl rfl rfl rfl yaz rfl rfl ?_);exact zq.v)):p:=k ⟨g⟩
theorem xjh(g:q)(k:Bq q→p:=by(intro zq;refine VG (VT (vs:=chZ.cells none 0) (cs':=chZ.cells none 0) 0 rfl rfl rfl rfl (NR _) rfl rfl rfl ?_);exact zq.v)):p:=k ⟨g⟩
theorem xji(g:q)(k:Bq q→p:=by(intro zq;refine CR (Ret.tmp2 6 7 rfl rfl rfl Imp.nil.ent ?_);exact zq.v)):p:=k ⟨g⟩
theorem xjj(k:p:=by exact⟨rfl,rfl,rfl,rfl,rfl⟩):p:=k
theorem xjk(g:q)(k:Bq q→p:=by(intro zq;(repeat(first|refine yG (yN ?_)|refine yG (yD 0 rfl rfl rfl rfl rfl ?_)|refine yG (yD 1 rfl rfl rfl rfl rfl ?_)|refine yG (yD 2 rfl rfl rfl rfl rfl ?_)|refine yG (yD 3 rfl rfl rfl rfl rfl ?_)|refine yG (yD 4 rfl rfl rfl rfl rfl ?_)|refine yG (yD 5 rfl rfl rfl rfl rfl ?_)|refine yG (yD 6 rfl rfl rfl rfl rfl ?_)|refine yG (yD 7 rfl rfl rfl rfl rfl ?_)|refine yG (yU rfl rfl rfl rfl ?_)));exact zq.v)):p:=k ⟨g⟩
theorem xjl(g:q)(k:Bq q→p:=by(intro zq;refine VG (VL 7 (fgC f (ma,ms.length,mc)) rfl rfl rfl rfl ?_);exact zq.v)):p:=k ⟨g⟩
theorem xjm(g:q)(k:Bq q→p:=by(intro zq;refine VO.ent (L':=[repH p R,outH ob []]) shut ?_;exact zq.v)):p:=k ⟨g⟩
theorem xjn(k:p:=by exact⟨(),trivial,sbZ,none_ hT⟩):p:=k
theorem xjo(g:q)(k:Bq q→p:=by(intro zq;refine VG (VV (fun Fr w hF hs hS=>Rep.prev_spec Fr w (hS.blk 0 rfl) (RwIn.slH memC_len (hS.at_ 1 rfl)) ok.ch) rfl ?_);exact zq.v)):p:=k ⟨g⟩
theorem xjp(g:q)(k:Bq q→p:=by(intro zq;(repeat(first|refine zS ?_|refine zR ?_|refine zB ?_|refine zL ?_|refine zC ?_|refine zG (zN ?_)));exact zq.v)):p:=k ⟨g⟩
theorem xjq(g:q)(k:Bq q→p:=by(intro zq;(repeat(first|refine zS ?_|refine zR ?_|refine zB ?_|refine zL ?_|refine zC ?_|refine zG (zN ?_)|refine zG (zU rfl rfl rfl ?_)));exact zq.v)):p:=k ⟨g⟩
theorem xjr(g:q)(k:Bq q→p:=by(intro zq;(repeat(first|refine zS ?_|refine zR ?_|refine zB ?_|refine zL ?_|refine zC ?_|refine zG (zN ?_)|refine zG (zE rfl rfl (RdL.blk h rfl) ?_)|refine zG (zU rfl rfl rfl ?_)));exact zq.v)):p:=k ⟨g⟩
theorem xjs(g:q)(k:Bq q→p:=by(intro zq;(repeat(first|refine yG (yN ?_)));exact zq.v)):p:=k ⟨g⟩
theorem xjt(g:q)(k:Bq q→p:=by(intro zq;refine VG (VT (vs:=outC outZ') (cs':=outC outZ') 0 rfl rfl rfl rfl (NR _) rfl rfl rfl ?_);exact zq.v)):p:=k ⟨g⟩
theorem xju(k:p:=by exact CR (Ret.cellTmp 2 3 rfl rfl rfl (RdL.many (ds:=outC outZ') 0 rfl rfl) rfl Imp.nil.ent ⟨rfl,rfl⟩)):p:=k
theorem xjv(g:q)(k:Bq q→p:=by(intro zq;refine VG (VO.ld 0 rfl rfl rfl rfl ?_);exact zq.v)):p:=k ⟨g⟩
theorem xjw(k:p:=by exact CR (Ret.tmp 4 rfl rfl ER ⟨rfl,rfl⟩)):p:=k
theorem xjx(k:p:=by exact CR (Ret.int 4 rfl rfl (by repeat' split;all_goals omega) ER ⟨rfl,rfl⟩)):p:=k
theorem xjy(g:q)(k:Bq q→p:=by(intro zq;refine VG (VI (light_slice3 i (i+1) l.length rfl rfl rfl rfl rfl rfl rfl rfl rfl rfl yd yd hcap) ?_);exact zq.v)):p:=k ⟨g⟩
theorem xjz(g:q)(k:Bq q→p:=by(intro zq;refine CD (ts 0 6 (.only 6 (.take 7 .nil))) ym yr ?_;exact zq.v)):p:=k ⟨g⟩
theorem xka(g:q)(k:Bq q→p:=by(intro zq;refine VG (VI (light_slice (l.length-1) l.length rfl rfl rfl rfl rfl rfl rfl rfl yd hcap yd) ?_);exact zq.v)):p:=k ⟨g⟩
theorem xkb(g:q)(k:Bq q→p:=by(intro zq;refine VG (VV (u:=rdV none) (fun Fr w hF hw _=>hr▸read_spec Fr w s hs) rfl ?_);exact zq.v)):p:=k ⟨g⟩
theorem xkc(g:q)(k:Bq q→p:=by(intro zq;refine VG (VV (u:=rdV (some (u,r))) (fun Fr w hF hw _=>hr▸read_spec Fr w s hs) rfl ?_);exact zq.v)):p:=k ⟨g⟩
theorem xkd(g:q)(k:Bq q→p:=by(intro zq;refine AG (AI rfl (light_cat rfl rfl ybi) ?_);exact zq.v)):p:=k ⟨g⟩
theorem xke(g:q)(k:Bq q→p:=by(intro zq;refine VG (VI (light_cat rfl rfl ybj) ?_);exact zq.v)):p:=k ⟨g⟩
theorem xkf(g:q)(k:Bq q→p:=by(intro zq;refine VG (VV (fun Fr w hF hw _=>hv▸cut_spec Fr w r yd) rfl ?_);exact zq.v)):p:=k ⟨g⟩
theorem xkg(g:q)(k:Bq q→p:=by(intro zq;refine VG (VI (LB (pv:=[]) (OpM.cells ⟨0,bT [],bT [],0⟩) rfl rfl rfl ym rfl) ?_);exact zq.v)):p:=k ⟨g⟩
theorem xkh(g:q)(k:Bq q→p:=by(intro zq;refine VG (VT (vs:=OpM.cells ⟨0,bT [],bT [],0⟩) (cs':=OpM.cells ⟨0,bT [],bT [],0⟩) 1 rfl rfl rfl rfl (NR _) rfl rfl rfl ?_);exact zq.v)):p:=k ⟨g⟩
theorem xki(g:q)(k:Bq q→p:=by(intro zq;refine VG (VV (fun Fr w hF hw _=>Ch.check_spec Fr w (h.of hF hw) yd) rfl ?_);exact zq.v)):p:=k ⟨g⟩
theorem xkj(g:q)(k:Bq q→p:=by(intro zq;refine VG (VI (LB (pv:=[]) (chNil.cells none 0) rfl rfl rfl ym rfl) ?_);exact zq.v)):p:=k ⟨g⟩
theorem xkk(g:q)(k:Bq q→p:=by(intro zq;refine VG (VT (vs:=chNil.cells none 0) (cs':=chNil.cells none 0) 0 rfl rfl rfl rfl (NR _) rfl rfl rfl ?_);exact zq.v)):p:=k ⟨g⟩
theorem xkl(g:q)(k:Bq q→p:=by(intro zq;refine VG (VK (Lc:=[]) (fun Fr w hF hw _=>further_spec (c:=c) (a:=a) (cap:=cap) Fr w (h.of hF hw) hl) rfl rfl ?_);exact zq.v)):p:=k ⟨g⟩
theorem xkm(g:q)(k:Bq q→p:=by(intro zq;refine VG (VT (vs:=chNil.cells ma mc) (cs':=chNil.cells ma mc) 1 rfl rfl rfl rfl (NR _) rfl rfl rfl ?_);exact zq.v)):p:=k ⟨g⟩
theorem xkn(g:q)(k:Bq q→p:=by(intro zq;refine VG (VT (vs:=chNil.cells none 0) (cs':=chNil.cells none 0) 1 rfl rfl rfl rfl (NR _) rfl rfl rfl ?_);exact zq.v)):p:=k ⟨g⟩
theorem xko(g:q)(k:Bq q→p:=by(intro zq;refine VG (VT (vs:=(ChM.mk (c.epoch+1) c.ms c.drain).cells ma mc) (cs':=(ChM.mk (c.epoch+1) c.ms c.drain).cells ma mc) 1 rfl rfl rfl rfl (NR _) rfl rfl rfl ?_);exact zq.v)):p:=k ⟨g⟩
theorem xkp(g:q)(k:Bq q→p:=by(intro zq;refine VG (VL 2 (c.cells a cap) rfl rfl rfl rfl ?_);exact zq.v)):p:=k ⟨g⟩
theorem xkq(g:q)(k:Bq q→p:=by(intro zq;refine VG (VV (fun Fr w hF hw _=>leaving_spec (c:=c) (a:=a) (cap:=cap) Fr w (h.of hF hw) hl n) rfl ?_);exact zq.v)):p:=k ⟨g⟩
theorem xkr(g:q)(k:Bq q→p:=by(intro zq;refine VG (VO.load rfl rfl (RdL.blkA (ds:=M.ch.cells a c) h mas_ch) ?_);exact zq.v)):p:=k ⟨g⟩
theorem xks(g:q)(k:Bq q→p:=by(intro zq;refine VG (VK (Lc:=[]) (fun Fr w hF hw _=>mcopied_spec Fr w (hm.of hF hw) yd) rfl rfl ?_);exact zq.v)):p:=k ⟨g⟩
theorem xkt(g:q)(k:Bq q→p:=by(intro zq;refine VG (VT (vs:=memC x) (cs':=memC x) 0 rfl rfl rfl rfl (NR _) rfl rfl rfl ?_);exact zq.v)):p:=k ⟨g⟩
theorem xku(g:q)(k:Bq q→p:=by(intro zq;refine VC.opn 0 rfl (HOpn.mas p M) ?_;exact zq.v)):p:=k ⟨g⟩
theorem xkv(g:q)(k:Bq q→p:=by(intro zq;refine VG (VL 0 (M.ch.cells a c) rfl rfl rfl rfl ?_);exact zq.v)):p:=k ⟨g⟩
theorem xkw(g:q)(k:Bq q→p:=by(intro zq;refine VG (VV (fun Fr w hF hw hS=>mmade_spec Fr w ok (hS.blk 0 rfl)) rfl ?_);exact zq.v)):p:=k ⟨g⟩
theorem xkx(g:q)(k:Bq q→p:=by(intro zq;refine VG (VK (Lc:=[]) (fun Fr w hF hw hS=>mconfig_spec Fr w ok (hS.blk 0 rfl) (RwIn.slH memC_len (hS.at_ 1 rfl)) from_) rfl rfl ?_);exact zq.v)):p:=k ⟨g⟩
theorem xky(k:p:=by exact CR (Ret.tmp 8 rfl rfl (one_sent (a:=a) (c:=c) (R:=[_])).ent (sent_1 (x:=(cfgS M.ch from_,y)) rfl rfl))):p:=k
theorem xkz(k:p:=by exact CR (Ret.tmp 8 rfl rfl (none_sent (a:=a) (c:=c) (R:=[_])).ent (sent_nil rfl rfl))):p:=k
theorem xla(g:q)(k:Bq q→p:=by(intro zq;refine AG (AI rfl (light_idxA j rfl rfl rfl rfl rfl hj hj6) ?_);exact zq.v)):p:=k ⟨g⟩
theorem xlb(k:p:=by exact CR (Ret.tmp 8 rfl rfl (none_sent (M:=M.heardAt from_ now) (a:=a) (c:=c) (R:=[_])).ent (sent_nil rfl rfl))):p:=k
theorem xlc(g:q)(k:Bq q→p:=by(intro zq;(repeat(first|refine yG (yN ?_)|refine yG (yD 0 rfl rfl rfl rfl rfl ?_)|refine yG (yD 1 rfl rfl rfl rfl rfl ?_)|refine yG (yU rfl rfl rfl rfl ?_)));exact zq.v)):p:=k ⟨g⟩
theorem xld(g:q)(k:Bq q→p:=by(intro zq;(repeat(first|refine yG (yN ?_)|refine yG (yU rfl rfl rfl rfl ?_)));exact zq.v)):p:=k ⟨g⟩
theorem xle(g:q)(k:Bq q→p:=by(intro zq;refine VG (VV (fun Fr w hF hw hS=>mmember_spec Fr w ok (hS.blk 0 rfl) (RwIn.slH memC_len (hS.at_ 1 rfl)) n) rfl ?_);exact zq.v)):p:=k ⟨g⟩
theorem xlf(g:q)(k:Bq q→p:=by(intro zq;refine VG (VV (fun Fr w hF hw hS=>mmayGo_spec Fr w ok (hS.blk 0 rfl) (RwIn.slH memC_len (hS.at_ 1 rfl)) n) rfl ?_);exact zq.v)):p:=k ⟨g⟩
theorem xlg(g:q)(k:Bq q→p:=by(intro zq;refine VG (VL 0 (c.cells qa qc) rfl rfl rfl rfl ?_);exact zq.v)):p:=k ⟨g⟩
theorem xlh(g:q)(k:Bq q→p:=by(intro zq;refine VG (VV (fun Fr w hF hw _=>cmade_spec Fr w ok (h.of hF hw)) rfl ?_);exact zq.v)):p:=k ⟨g⟩
theorem xli(g:q)(k:Bq q→p:=by(intro zq;refine VG (VO.load (v:=.pointer (some ⟨y.b,0,none⟩)) rfl rfl (RdL.blk h (hv _ ho)) ?_);exact zq.v)):p:=k ⟨g⟩
theorem xlj(g:q)(k:Bq q→p:=by(intro zq;refine VC.opn 0 rfl (HOpn.cli p S) ?_;exact zq.v)):p:=k ⟨g⟩
theorem xlk(g:q)(k:Bq q→p:=by(intro zq;refine VG (VK (Lc:=[]) (fun Fr w hF hw _=>question_spec Fr w) rfl rfl ?_);exact zq.v)):p:=k ⟨g⟩
theorem xll(g:q)(k:Bq q→p:=by(intro zq;refine CN (L':=[cliH p S]) (Imp.cli y Imp.refl).ent ?_;exact zq.v)):p:=k ⟨g⟩
theorem xlm(g:q)(k:Bq q→p:=by(intro zq;refine VG (VK (Lc:=[cliH p S]) (Lr:=[]) (fun Fr w hF hw _=>cgive_spec Fr w ho reason) rfl rfl ?_);exact zq.v)):p:=k ⟨g⟩
theorem xln(k:p:=by exact CR (Ret.tmp 6 rfl rfl ER ⟨X,sa,sc,hX,rfl,List.append_nil _⟩)):p:=k
theorem xlo(g:q)(k:Bq q→p:=by(intro zq;refine VG (VO.st 0 (cs':=cliC { S with unsure:=true } y) rfl rfl rfl rfl ybv rfl rfl ?_);exact zq.v)):p:=k ⟨g⟩
theorem xlp(g:q)(k:Bq q→p:=by(intro zq;refine VG (VV (fun Fr w hF hw hS=>cmade_spec Fr w ok (hS.blk 0 rfl)) rfl ?_);exact zq.v)):p:=k ⟨g⟩
theorem xlq(g:q)(k:Bq q→p:=by(intro zq;refine VG (VV (fun Fr w hF hw _=>cwithin_spec Fr w now) rfl ?_);exact zq.v)):p:=k ⟨g⟩
theorem xlr(k:p:=by exact CR (Ret.tmp 6 rfl rfl (cli_none (y:=y) (R:=[_])).ent (sent_none rfl rfl))):p:=k
theorem xls(k:p:=by exact CR (Ret.tmp 4 rfl rfl ER ⟨X,sa,sc,hX,rfl,List.append_nil _⟩)):p:=k
theorem xlt(k:p:=by exact CR (Ret.tmp 4 rfl rfl (cli_none (y:=y) (R:=[])).ent (sent_none rfl rfl))):p:=k
theorem xlu(g:q)(k:Bq q→p:=by(intro zq;refine VG (VK (Lc:=[cliH p S]) (Lr:=[]) (fun Fr w hF hw _=>cask_spec Fr w ok tn) rfl rfl ?_);exact zq.v)):p:=k ⟨g⟩
theorem xlv(g:q)(k:Bq q→p:=by(intro zq;refine CN (L':=[cliH p (S.begun o cl d)]) (Imp.cli (S:=S.begun o cl d) { y with b:=sb } (pkZ [0,0,0,0])).ent ?_;exact zq.v)):p:=k ⟨g⟩
theorem xlw(k:p:=by exact CR (Ret.tmp2 10 11 rfl rfl rfl ER ⟨X,sa,sc,hX,rfl,List.append_nil _⟩)):p:=k
theorem xlx(k:p:=by exact CR (Ret.tmp2 4 5 rfl rfl rfl Imp.nil.ent yby)):p:=k
theorem xly(k:p:=by exact CR (Ret.tmp 8 rfl rfl (fin a cap) ⟨by rw[hE],by rw[HisM.call_bad hE yo]⟩)):p:=k
theorem xlz(g:q)(k:Bq q→p:=by(intro zq;refine VG (VV (fun Fr w hF hw hS=>lastOf_spec Fr w ok (hS.blk 0 rfl) (RwIn.slH recC_len (hS.at_ 1 rfl)) c) rfl ?_);exact zq.v)):p:=k ⟨g⟩
theorem xma(k:p:=by exact CR (Ret.tmp 8 rfl rfl (fin _ _) ⟨by rw[hE2],by rw[HisM.call_bad hE2 yo]⟩)):p:=k
theorem xmb(k:p:=by exact CR (Ret.tmp 8 rfl rfl fin ⟨by rw[g2],by rw[g1]⟩)):p:=k
theorem xmc(g:q)(k:Bq q→p:=by(intro zq;refine VG (VI (LB (pv:=[]) chZc rfl rfl rfl ym rfl) ?_);exact zq.v)):p:=k ⟨g⟩
theorem xmd(g:q)(k:Bq q→p:=by(intro zq;refine VG (VT (vs:=chZc) (cs':=chZc) 4 rfl rfl rfl rfl (NR _) rfl rfl rfl ?_);exact zq.v)):p:=k ⟨g⟩
theorem xme(k:p:=by exact CR (Ret.cellTmp 2 3 rfl rfl rfl (RdL.many (ds:=chZc) 4 rfl rfl) rfl Imp.nil.ent ybz)):p:=k
theorem xmf(g:q)(k:Bq q→p:=by(intro zq;(repeat(first|refine zS ?_|refine zR ?_|refine zB ?_|refine zL ?_|refine zC ?_|refine zG (zN ?_)|refine zG (zD 0 rfl rfl rfl rfl ?_)|refine zG (zD 1 rfl rfl rfl rfl ?_)|refine zG (zD 2 rfl rfl rfl rfl ?_)|refine zG (zD 3 rfl rfl rfl rfl ?_)));exact zq.v)):p:=k ⟨g⟩
theorem xmg(g:q)(k:Bq q→p:=by(intro zq;refine VG (VL 0 ((ChM.mk k1 ms dr).cells (some ⟨mb,0,none⟩) k) rfl rfl rfl rfl ?_);exact zq.v)):p:=k ⟨g⟩
theorem xmh(g:q)(k:Bq q→p:=by(intro zq;refine VG (VT (vs:=resV f.res) (cs':=resV f.res) 0 rfl rfl rfl rfl (NR _) rfl rfl rfl ?_);exact zq.v)):p:=k ⟨g⟩
theorem xmi(g:q)(k:Bq q→p:=by(intro zq;refine VG (VT (vs:=entV f.entry) (cs':=entV f.entry) 0 rfl rfl rfl rfl (NR _) rfl rfl rfl ?_);exact zq.v)):p:=k ⟨g⟩
theorem xmj(k:p:=by exact⟨(),trivial,sbZ,Imp.nil.ent⟩):p:=k
theorem xmk(k:p:=by exact⟨(10,[],true,[]),RdE.bad rfl n10,sbZ,Imp.nil.ent⟩):p:=k
theorem xml(g:q)(k:Bq q→p:=by(intro zq;refine VG (VI (LB (pv:=[]) (FrameM.zero.cells mem0') rfl rfl rfl ym rfl) ?_);exact zq.v)):p:=k ⟨g⟩
theorem xmm(g:q)(k:Bq q→p:=by(intro zq;refine VG (VT (vs:=FrameM.zero.cells mem0') (cs':=FrameM.zero.cells mem0') 0 rfl rfl rfl rfl (NR _) rfl rfl rfl ?_);exact zq.v)):p:=k ⟨g⟩
theorem xmn(g:q)(k:Bq q→p:=by(intro zq;refine VG (VT (vs:=FrameM.zero.cells mem0') (cs':=FrameM.zero.cells mem0') 1 rfl rfl rfl rfl (NR _) rfl rfl rfl ?_);exact zq.v)):p:=k ⟨g⟩
theorem xmo(k:p:=by exact CR (Ret.cellTmp 2 3 rfl rfl rfl (RdL.many (ds:=FrameM.zero.cells mem0') 1 rfl rfl) rfl Imp.nil.ent yce)):p:=k
theorem xmp(g:q)(k:Bq q→p:=by(intro zq;refine VG (VL 0 (f.cells (ma,ms.length,mc)) rfl rfl rfl rfl ?_);exact zq.v)):p:=k ⟨g⟩
theorem xmq(g:q)(k:Bq q→p:=by(intro zq;refine CN (L':=pt p (lnkC S b) lnkT::mapH iiV txV b X::X.map txH) (Imp.of_eq (List.append_nil _)).ent ?_;exact zq.v)):p:=k ⟨g⟩
theorem xmr(g:q)(k:Bq q→p:=by(intro zq;refine VG (VI (LB (pv:=[(0,.int .i64 x),(1,.int .i64 y)]) [.int .i64 x,.int .i64 y] rfl rfl rfl ym rfl) ?_);exact zq.v)):p:=k ⟨g⟩
theorem xms(g:q)(k:Bq q→p:=by(intro zq;refine VG (VT (vs:=[.int .i64 x,.int .i64 y]) (cs':=[.int .i64 x,.int .i64 y]) 0 rfl rfl rfl rfl (NR _) rfl rfl rfl ?_);exact zq.v)):p:=k ⟨g⟩
theorem xmt(k:p:=by exact CR (Ret.tmp 4 rfl rfl fin ⟨by rw[hE],by rw[send_bad hE yo]⟩)):p:=k
theorem xmu(g:q)(k:Bq q→p:=by(intro zq;refine AG (VA.ldA 1 [.int .i64 x,.int .i64 y] rfl rfl rfl rfl rfl ?_);exact zq.v)):p:=k ⟨g⟩
theorem xmv(g:q)(k:Bq q→p:=by(intro zq;refine VG (VV (fun Fr w hF hw _=>lnone_spec Fr w (h.of hF hw)) rfl ?_);exact zq.v)):p:=k ⟨g⟩
theorem xmw(g:q)(k:Bq q→p:=by(intro zq;refine VG (VI (LB (pv:=[]) (mailC 0 0 ⟨#[]⟩) rfl rfl rfl ym rfl) ?_);exact zq.v)):p:=k ⟨g⟩
theorem xmx(g:q)(k:Bq q→p:=by(intro zq;refine VG (VT (vs:=mailC 0 0 ⟨#[]⟩) (cs':=mailC 0 0 ⟨#[]⟩) 0 rfl rfl rfl rfl (NR _) rfl rfl rfl ?_);exact zq.v)):p:=k ⟨g⟩
theorem xmy(g:q)(k:Bq q→p:=by(intro zq;refine VG (VT (vs:=mailC x y t) (cs':=mailC x y t) 0 rfl rfl rfl rfl (NR _) rfl rfl rfl ?_);exact zq.v)):p:=k ⟨g⟩
theorem xmz(g:q)(k:Bq q→p:=by(intro zq;refine VG (VO.opx (OpT.rangeM (es:=es) (clock:=clock) iiV txV Tryz.underlying127 rfl (fun w hw=>(hw.keep.block b hm.fr).trans g1)) ?_);exact zq.v)):p:=k ⟨g⟩
theorem xna(g:q)(k:Bq q→p:=by(intro zq;refine VG (VO.opx (OpT.nextM 0 rfl rfl (fun w hw=>(hw.keep.block b hm.fr).trans g1) hz hJ) ?_);exact zq.v)):p:=k ⟨g⟩
theorem xnb(g:q)(k:Bq q→p:=by(intro zq;refine VG (VO.op1 (OpT.entryM 0 (J:=J) (z:=z) rfl rfl (fun w hw=>(hw.keep.block b hm.fr).trans g1) hz z2) ?_);exact zq.v)):p:=k ⟨g⟩
theorem xnc(g:q)(k:Bq q→p:=by(intro zq;refine VG (VT (vs:=[.int .i64 z.2.1.1,.int .i64 z.2.1.2]) (cs':=[.int .i64 z.2.1.1,.int .i64 z.2.1.2]) 0 rfl rfl rfl rfl (NR _) rfl rfl rfl ?_);exact zq.v)):p:=k ⟨g⟩
theorem xnd(g:q)(k:Bq q→p:=by(intro zq;refine VG (VI (light_idx k rfl rfl rfl rfl rfl rfl hkl) ?_);exact zq.v)):p:=k ⟨g⟩
theorem xne(k:p:=by exact⟨k+1,by omega,by dsimp only;omega,SC rfl (SC rfl (SC rfl (SC rfl (Sub.int rfl yd (SN _))))),by dsimp only;rw[←h1];exact(IP 1 rfl Imp.nil).ent⟩):p:=k
theorem xnf(k:p:=by exact⟨[sentH H a c X],⟨_,rfl,X,a,c,e,rfl,rfl⟩,Imp.sep (Imp.cons (Imp.sep (Imp.of_eq (List.append_nil _).symm)))⟩):p:=k
theorem xng(k:p:=by exact CR (Ret.tmp 4 rfl rfl (Imp.tail.trans (clu_shut (R:=[]) fit)).ent ⟨by rw[hr],by rw[hr]⟩)):p:=k
theorem xnh(g:q)(k:Bq q→p:=by(intro zq;refine VC.opn 0 rfl (HOpn.clu p C) ?_;exact zq.v)):p:=k ⟨g⟩
theorem xni(g:q)(k:Bq q→p:=by(intro zq;refine CN (L':=cluL p C y) (Imp.of_eq (List.append_nil _)).ent ?_;exact zq.v)):p:=k ⟨g⟩
theorem xnj(g:q)(k:Bq q→p:=by(intro zq;refine VG (VV (fun Fr w hF hw hS=>utaker_spec Fr w fitd (hS.blk 2 rfl) (hS.blk 5 rfl) (hS.blk 6 rfl) ht0 ht1) rfl ?_);exact zq.v)):p:=k ⟨g⟩
theorem xnk(g:q)(k:Bq q→p:=by(intro zq;refine VG (VI (light_neFn true Tryz.underlying221 rfl (.inr ⟨_,_,_,rfl,rfl⟩)) ?_);exact zq.v)):p:=k ⟨g⟩
theorem xnl(g:q)(k:Bq q→p:=by(intro zq;refine CD (ts 0 11 (.only 11 (.only 12 .nil))) ym yr ?_;exact zq.v)):p:=k ⟨g⟩
theorem xnm(g:q)(k:Bq q→p:=by(intro zq;refine AG (VA.ldA 0 (f.cells (ma,ms.length,mc)) rfl rfl rfl rfl rfl ?_);exact zq.v)):p:=k ⟨g⟩
theorem xnn(k:p:=by exact⟨k+1,by omega,by dsimp only;omega,SC rfl (SC rfl (SC rfl (Sub.int rfl yd (SN _)))),by dsimp only;rw[hsu,e1];exact(Imp.tail (H:=pt ob _ _)).ent⟩):p:=k
theorem xno(g:q)(k:Bq q→p:=by(intro zq;refine VG (VL 0 s.cells rfl rfl rfl rfl ?_);exact zq.v)):p:=k ⟨g⟩
theorem xnp(g:q)(k:Bq q→p:=by(intro zq;refine VG (VV (fun Fr w hF hw hS=>up_spec Fr w fit (hS.blk 1 rfl) (hS.blk 4 rfl) s.a) rfl ?_);exact zq.v)):p:=k ⟨g⟩
theorem xnq(k:p:=by exact CR (Ret.tmp 4 rfl rfl (Imp.trans (Imp.tail (H:=pt sb _ doT)) (clu_shut (p:=p) (C:=C) (R:=[]) fit)).ent ⟨by rw[hr],by rw[hr]⟩)):p:=k
theorem xnr(g:q)(k:Bq q→p:=by(intro zq;refine CN (L':=pt sb s.cells doT::masH y.mp C.mas::cmL p C y C.lnk) (Imp.cons mas_out).ent ?_;exact zq.v)):p:=k ⟨g⟩
theorem xns(g:q)(k:Bq q→p:=by(intro zq;refine VG (VQ 6 rfl (fun Fr w hF hs hS=>usend_spec Fr w (hS.blk 2 rfl) ok.lnk 16 (SdIn.at_ 1 hS rfl hX fw)) rfl (ψ:=fun v H=>v=.tuple #[]∧H=lnkH y.lp (postL 16 C.lnk (X.map Prod.fst))) yy ?_);exact zq.v)):p:=k ⟨g⟩
theorem xnt(k:p:=by exact⟨h,SndA.nil⟩):p:=k
theorem xnu(g:q)(k:Bq q→p:=by(intro zq;refine VG (VL 0 (F.cells a c) rfl rfl rfl rfl ?_);exact zq.v)):p:=k ⟨g⟩
theorem xnv(g:q)(k:Bq q→p:=by(intro zq;refine VG (VO.mul rfl rfl yd yd ?_);exact zq.v)):p:=k ⟨g⟩
theorem xnw(g:q)(k:Bq q→p:=by(intro zq;refine AG (AI rfl (light_idxA 0 rfl rfl rfl rfl rfl rfl yo) ?_);exact zq.v)):p:=k ⟨g⟩
theorem xnx(g:q)(k:Bq q→p:=by(intro zq;refine AG (AI rfl (light_idxA 1 rfl rfl rfl rfl rfl rfl yo) ?_);exact zq.v)):p:=k ⟨g⟩
theorem xny(g:q)(k:Bq q→p:=by(intro zq;refine VG (VI (light_idxA i rfl rfl rfl rfl rfl rfl hi6) ?_);exact zq.v)):p:=k ⟨g⟩
theorem xnz(g:q)(k:Bq q→p:=by(intro zq;refine VG (VO.st 0 rfl rfl rfl rfl ycq (up_set hi6 ho.symm) rfl ?_);exact zq.v)):p:=k ⟨g⟩
theorem xoa(g:q)(k:Bq q→p:=by(intro zq;refine VG (VT (vs:=prC pr) (cs':=prC pr) 0 rfl rfl rfl rfl (NR _) rfl rfl rfl ?_);exact zq.v)):p:=k ⟨g⟩
theorem xob(k:p:=by exact⟨(),trivial,SC rfl (SC rfl (SC (by rw[←this];rfl) (SN _))),hsh.ent⟩):p:=k
theorem xoc(g:q)(k:Bq q→p:=by(intro zq;refine VG (VI (LB (pv:=[(0,.int .i64 3)]) ((stS 3 0 0).cells) rfl rfl rfl ym rfl) ?_);exact zq.v)):p:=k ⟨g⟩
theorem xod(g:q)(k:Bq q→p:=by(intro zq;(repeat(first|refine zS ?_|refine zR ?_|refine zB ?_|refine zL ?_|refine zC ?_|refine zG (zN ?_)|refine zG (zD 0 rfl rfl rfl rfl ?_)|refine zG (zD 1 rfl rfl rfl rfl ?_)|refine zG (zD 2 rfl rfl rfl rfl ?_)|refine zG (zD 3 rfl rfl rfl rfl ?_)|refine zG (zE rfl rfl (RdL.blk hb rfl) ?_)));exact zq.v)):p:=k ⟨g⟩
theorem xoe(g:q)(k:Bq q→p:=by(intro zq;refine VG (VK (Lc:=[]) (fun Fr w hF' hw hS=>pstart_spec Fr w hF hc (ints_of hq hF' hw)) rfl rfl ?_);exact zq.v)):p:=k ⟨g⟩
theorem xof(g:q)(k:Bq q→p:=by(intro zq;refine VG (VT (vs:=y.1.step.cells) (cs':=y.1.step.cells) 0 rfl rfl rfl rfl (NR _) rfl rfl rfl ?_);exact zq.v)):p:=k ⟨g⟩
theorem xog(g:q)(k:Bq q→p:=by(intro zq;refine VG (VL 1 ((fitM zC).cells a cap) rfl rfl rfl rfl ?_);exact zq.v)):p:=k ⟨g⟩
theorem xoh(g:q)(k:Bq q→p:=by(intro zq;refine VG (VV (fun Fr w _ _ _=>paced_spec Fr w) rfl ?_);exact zq.v)):p:=k ⟨g⟩
theorem xoi(k:p:=by exact CR (Ret.tmp 6 rfl rfl fin ⟨rfl,rfl⟩)):p:=k
theorem xoj(k:p:=by exact one _ e (Option.some.inj h).symm):p:=k
theorem zok(g:q)(k:Bq q→p:=by(intro zq;refine xdl ?_;refine xjp ?_;exact zq.v)):p:=k ⟨g⟩
theorem zol(g:q)(k:Bq q→p:=by(intro zq;refine xjq ?_;refine xdz ?_;exact zq.v)):p:=k ⟨g⟩
theorem zom(g:q)(k:Bq q→p:=by(intro zq;refine xjp ?_;refine zok ?_;exact zq.v)):p:=k ⟨g⟩
theorem zon(g:q)(k:Bq q→p:=by(intro zq;refine xdf ?_;refine xdy ?_;exact zq.v)):p:=k ⟨g⟩
theorem zoo(g:q)(k:Bq q→p:=by(intro zq;refine xdf ?_;refine xdl ?_;exact zq.v)):p:=k ⟨g⟩
theorem zop(g:q)(k:Bq q→p:=by(intro zq;refine xjq ?_;refine xdy ?_;exact zq.v)):p:=k ⟨g⟩
theorem zoq(g:q)(k:Bq q→p:=by(intro zq;refine xdz ?_;refine xdf ?_;exact zq.v)):p:=k ⟨g⟩
theorem zor(g:q)(k:Bq q→p:=by(intro zq;refine zoo ?_;refine xdf ?_;exact zq.v)):p:=k ⟨g⟩
theorem zos(g:q)(k:Bq q→p:=by(intro zq;refine zol ?_;refine xjq ?_;exact zq.v)):p:=k ⟨g⟩
theorem zot(g:q)(k:Bq q→p:=by(intro zq;refine xjp ?_;refine xdy ?_;exact zq.v)):p:=k ⟨g⟩
theorem zou(g:q)(k:Bq q→p:=by(intro zq;refine xjs ?_;refine xjp ?_;exact zq.v)):p:=k ⟨g⟩
theorem zov(g:q)(k:Bq q→p:=by(intro zq;refine xjp ?_;refine xgf ?_;exact zq.v)):p:=k ⟨g⟩
theorem zow(g:q)(k:Bq q→p:=by(intro zq;refine xjp ?_;refine xdz ?_;exact zq.v)):p:=k ⟨g⟩
theorem zox(g:q)(k:Bq q→p:=by(intro zq;refine zot ?_;refine xjp ?_;exact zq.v)):p:=k ⟨g⟩
theorem zoy(g:q)(k:Bq q→p:=by(intro zq;refine zol ?_;refine xjp ?_;exact zq.v)):p:=k ⟨g⟩
theorem zoz(g:q)(k:Bq q→p:=by(intro zq;refine xeg ?_;refine CS (CG ?_);exact zq.v)):p:=k ⟨g⟩
theorem zpa(g:q)(k:Bq q→p:=by(intro zq;refine xdn ?_;refine zoq ?_;exact zq.v)):p:=k ⟨g⟩
theorem zpb(g:q)(k:Bq q→p:=by(intro zq;refine zon ?_;refine xdf ?_;exact zq.v)):p:=k ⟨g⟩
theorem zpc(g:q)(k:Bq q→p:=by(intro zq;refine xdf ?_;refine zoq ?_;exact zq.v)):p:=k ⟨g⟩
theorem zpd(g:q)(k:Bq q→p:=by(intro zq;refine xhc ?_;refine xhd ?_;exact zq.v)):p:=k ⟨g⟩
theorem zpe(g:q)(k:Bq q→p:=by(intro zq;refine xhj ?_;refine xeu ?_;exact zq.v)):p:=k ⟨g⟩
theorem zpf(g:q)(k:Bq q→p:=by(intro zq;refine xeh ?_;refine xij ?_;exact zq.v)):p:=k ⟨g⟩
theorem zpg(g:q)(k:Bq q→p:=by(intro zq;refine zpf ?_;refine xeh ?_;exact zq.v)):p:=k ⟨g⟩
theorem zph(g:q)(k:Bq q→p:=by(intro zq;refine xdn ?_;refine xdy ?_;exact zq.v)):p:=k ⟨g⟩
theorem zpi(g:q)(k:Bq q→p:=by(intro zq;refine xgq ?_;refine xgr ?_;exact zq.v)):p:=k ⟨g⟩
theorem zpj(g:q)(k:Bq q→p:=by(intro zq;refine xhj ?_;refine xeh ?_;exact zq.v)):p:=k ⟨g⟩
theorem zpk(g:q)(k:Bq q→p:=by(intro zq;refine xih ?_;refine xii ?_;exact zq.v)):p:=k ⟨g⟩
theorem zpl(g:q)(k:Bq q→p:=by(intro zq;refine zpk ?_;refine zpg ?_;exact zq.v)):p:=k ⟨g⟩
theorem zpm(g:q)(k:Bq q→p:=by(intro zq;refine xjq ?_;refine xkj ?_;exact zq.v)):p:=k ⟨g⟩
theorem zpn(k:p:=by(refine zpd ?_;exact xhe)):p:=k
theorem zpo(k:p:=by(refine xjp ?_;exact xlr)):p:=k
theorem zpp(g:q)(k:Bq q→p:=by(intro zq;refine xdf ?_;refine xdj ?_;exact zq.v)):p:=k ⟨g⟩
theorem zpq(g:q)(k:Bq q→p:=by(intro zq;refine xdf ?_;refine xdq ?_;exact zq.v)):p:=k ⟨g⟩
theorem zpr(g:q)(k:Bq q→p:=by(intro zq;refine xeh ?_;refine xdf ?_;exact zq.v)):p:=k ⟨g⟩
theorem zps(g:q)(k:Bq q→p:=by(intro zq;refine xgp ?_;refine zpi ?_;exact zq.v)):p:=k ⟨g⟩
theorem zpt(g:q)(k:Bq q→p:=by(intro zq;refine xhj ?_;refine xhn ?_;exact zq.v)):p:=k ⟨g⟩
theorem zpu(g:q)(k:Bq q→p:=by(intro zq;refine zpt ?_;refine zpj ?_;exact zq.v)):p:=k ⟨g⟩
theorem zpv(g:q)(k:Bq q→p:=by(intro zq;refine AG (AY 24 false rfl rfl ?_);refine AG (AY 29 false rfl rfl ?_);exact zq.v)):p:=k ⟨g⟩
theorem zpw(g:q)(k:Bq q→p:=by(intro zq;refine xgo ?_;refine zps ?_;exact zq.v)):p:=k ⟨g⟩
theorem zpx(g:q)(k:Bq q→p:=by(intro zq;refine xhm ?_;refine zpu ?_;exact zq.v)):p:=k ⟨g⟩
theorem zpy(g:q)(k:Bq q→p:=by(intro zq;refine xeu ?_;refine zpe ?_;exact zq.v)):p:=k ⟨g⟩
theorem zpz(k:p:=by(refine xeh ?_;exact⟨rb,trivial,sbZ,ER⟩)):p:=k
theorem zqa(g:q)(k:Bq q→p:=by(intro zq;refine xdf ?_;refine xjl ?_;exact zq.v)):p:=k ⟨g⟩
theorem zqb(g:q)(k:Bq q→p:=by(intro zq;refine xed ?_;refine xjp ?_;exact zq.v)):p:=k ⟨g⟩
theorem zqc(g:q)(k:Bq q→p:=by(intro zq;refine xkn ?_;refine xjq ?_;exact zq.v)):p:=k ⟨g⟩
theorem zqd(g:q)(k:Bq q→p:=by(intro zq;refine xjq ?_;refine VG (VY 5 true rfl rfl ?_);exact zq.v)):p:=k ⟨g⟩
theorem zqe(g:q)(k:Bq q→p:=by(intro zq;refine xld ?_;refine xdy ?_;exact zq.v)):p:=k ⟨g⟩
theorem zqf(g:q)(k:Bq q→p:=by(intro zq;refine VG (VI (light_makeFunc rfl rfl) ?_);refine xjq ?_;exact zq.v)):p:=k ⟨g⟩
theorem zqg(g:q)(k:Bq q→p:=by(intro zq;refine xdf ?_;refine xfc ?_;exact zq.v)):p:=k ⟨g⟩
theorem zqh(g:q)(k:Bq q→p:=by(intro zq;refine xgn ?_;refine zpw ?_;exact zq.v)):p:=k ⟨g⟩
theorem zqi(g:q)(k:Bq q→p:=by(intro zq;refine xhl ?_;refine zpx ?_;exact zq.v)):p:=k ⟨g⟩
theorem zqj(g:q)(k:Bq q→p:=by(intro zq;refine zow ?_;refine xjp ?_;exact zq.v)):p:=k ⟨g⟩
theorem zqk(g:q)(k:Bq q→p:=by(intro zq;refine zop ?_;refine xjp ?_;exact zq.v)):p:=k ⟨g⟩
theorem zql(g:q)(k:Bq q→p:=by(intro zq;refine xmc ?_;refine xmd ?_;exact zq.v)):p:=k ⟨g⟩
theorem zqm(g:q)(k:Bq q→p:=by(intro zq;refine zql ?_;refine xjp ?_;exact zq.v)):p:=k ⟨g⟩
theorem zqn(g:q)(k:Bq q→p:=by(intro zq;refine CK ?_;refine xdf ?_;exact zq.v)):p:=k ⟨g⟩
theorem zqo(g:q)(k:Bq q→p:=by(intro zq;refine VG (VY 104 false rfl rfl ?_);refine zqk ?_;exact zq.v)):p:=k ⟨g⟩
end Go.Proofs.YtmghpgpfeabghaaGreat
