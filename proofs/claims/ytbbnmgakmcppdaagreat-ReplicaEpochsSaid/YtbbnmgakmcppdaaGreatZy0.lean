/- Abbreviations of tactics. No condition. -/
import Derived.OrdersHeld
import Derived.Deep.MidRow
import Derived.Laws.AppendOwn
import Derived.Below
import Derived.WalkKit
import Derived.Scope
import Derived.MapKept
import Derived.Laws.StructEq
import Derived.Laws.BitsAllLaws
import Derived.Test.YtbbnmgakmcppdaaGreatRows
import Derived.KernelRfl
import Derived.Test.YtbbnmgakmcppdaaGreatProg
import Derived.Shelf.SlGeneric
import Derived.Shelf.SlMaps.Clone
import Derived.Laws.LoneSync
import Derived.Lib.Builder
import Derived.Lib.ItoaMem
import Derived.Lib.LaidTab
import Derived.Lib.Join
import Derived.Lib.OthersKept
import Derived.ProofKit
import Derived.OpenShut
import Derived.SizedLaws
import Derived.Carry
import Derived.Deep.Strs
import Derived.Deep.Slices
namespace Go.Proofs.YtbbnmgakmcppdaaGreat
theorem Z {α : Sort _} {a : α} : a = a := rfl
structure Bq (q : Prop) : Prop where
 v : q
variable {p q : Prop}
theorem DF : type_of% @decide_eq_false := @decide_eq_false
theorem DT : type_of% @decide_eq_true := @decide_eq_true
theorem GE : type_of% @List.getElem?_eq_getElem := @List.getElem?_eq_getElem
theorem NR : type_of% @Nat.le_refl := @Nat.le_refl
theorem ME : type_of% @List.mem_of_getElem? := @List.mem_of_getElem?
theorem yu (k : p := by (try refine Pd.st ?_);(repeat (first|exact Pd.nil|exact Pd.fnil|refine Pd.inner ?_|refine Pd.skip (by decide +kernel) ?_|refine zf (zo 0 Z Z) ?_|refine zf (zo 1 Z Z) ?_|refine zf (zo 2 Z Z) ?_|refine zf (zo 3 Z Z) ?_|refine zf (zo 4 Z Z) ?_|refine zf (zo 5 Z Z) ?_|refine zf (zo 6 Z Z) ?_|refine zf (zo 7 Z Z) ?_|refine zf (zo 8 Z Z) ?_|refine zf (zm 0 Z Z) ?_|refine zf (zm 1 Z Z) ?_|refine zf (zm 2 Z Z) ?_|refine zf (zm 3 Z Z) ?_|refine zf (zm 4 Z Z) ?_|refine zf (zm 5 Z Z) ?_|refine zf (zm 6 Z Z) ?_|refine zf (zm 7 Z Z) ?_|refine zf (zm 8 Z Z) ?_|refine zc (zo 0 Z Z) ?_|refine zc (zo 1 Z Z) ?_|refine zc (zo 2 Z Z) ?_|refine zc (zo 3 Z Z) ?_|refine zc (zo 4 Z Z) ?_|refine zc (zo 5 Z Z) ?_|refine zc (zo 6 Z Z) ?_|refine zc (zo 7 Z Z) ?_|refine zc (zo 8 Z Z) ?_|refine zc (zm 0 Z Z) ?_|refine zc (zm 1 Z Z) ?_|refine zc (zm 2 Z Z) ?_|refine zc (zm 3 Z Z) ?_|refine zc (zm 4 Z Z) ?_|refine zc (zm 5 Z Z) ?_|refine zc (zm 6 Z Z) ?_|refine zc (zm 7 Z Z) ?_|refine zc (zm 8 Z Z) ?_|refine Pd.fconsM (MpL.one 0 Z) ?_|refine Pd.fconsM (MpL.one 1 Z) ?_|refine Pd.fconsM (MpL.one 2 Z) ?_|refine Pd.fconsM (MpL.one 3 Z) ?_|refine Pd.fconsM (MpL.one 4 Z) ?_|refine Pd.fconsM (MpL.one 5 Z) ?_|refine Pd.fconsM (MpL.one 6 Z) ?_|refine Pd.fconsM (MpL.one 7 Z) ?_|refine Pd.fconsM (MpL.one 8 Z) ?_|refine Pd.consM (MpL.one 0 Z) ?_|refine Pd.consM (MpL.one 1 Z) ?_|refine Pd.consM (MpL.one 2 Z) ?_|refine Pd.consM (MpL.one 3 Z) ?_|refine Pd.consM (MpL.one 4 Z) ?_|refine Pd.consM (MpL.one 5 Z) ?_|refine Pd.consM (MpL.one 6 Z) ?_|refine Pd.consM (MpL.one 7 Z) ?_|refine Pd.consM (MpL.one 8 Z) ?_))) : p := k
theorem yr (k : p := by (try refine Pd.st ?_);(repeat (first|exact Pd.nil|exact Pd.fnil|refine Pd.inner ?_|refine Pd.skip (by decide +kernel) ?_|refine zf (zo 0 Z Z) ?_|refine zf (zo 1 Z Z) ?_|refine zf (zo 2 Z Z) ?_|refine zf (zo 3 Z Z) ?_|refine zf (zo 4 Z Z) ?_|refine zf (zo 5 Z Z) ?_|refine zf (zo 6 Z Z) ?_|refine zf (zo 7 Z Z) ?_|refine zf (zo 8 Z Z) ?_|refine zf (zm 0 Z Z) ?_|refine zf (zm 1 Z Z) ?_|refine zf (zm 2 Z Z) ?_|refine zf (zm 3 Z Z) ?_|refine zf (zm 4 Z Z) ?_|refine zf (zm 5 Z Z) ?_|refine zf (zm 6 Z Z) ?_|refine zf (zm 7 Z Z) ?_|refine zf (zm 8 Z Z) ?_|refine zc (zo 0 Z Z) ?_|refine zc (zo 1 Z Z) ?_|refine zc (zo 2 Z Z) ?_|refine zc (zo 3 Z Z) ?_|refine zc (zo 4 Z Z) ?_|refine zc (zo 5 Z Z) ?_|refine zc (zo 6 Z Z) ?_|refine zc (zo 7 Z Z) ?_|refine zc (zo 8 Z Z) ?_|refine zc (zm 0 Z Z) ?_|refine zc (zm 1 Z Z) ?_|refine zc (zm 2 Z Z) ?_|refine zc (zm 3 Z Z) ?_|refine zc (zm 4 Z Z) ?_|refine zc (zm 5 Z Z) ?_|refine zc (zm 6 Z Z) ?_|refine zc (zm 7 Z Z) ?_|refine zc (zm 8 Z Z) ?_))) : p := k
theorem ycv (k : p := by (try refine Pd.st ?_);(repeat (first|exact Pd.nil|exact Pd.fnil|refine Pd.inner ?_|refine Pd.skip (by decide +kernel) ?_|refine zf (zo 0 Z Z) ?_|refine zf (zo 1 Z Z) ?_|refine zf (zo 2 Z Z) ?_|refine zf (zo 3 Z Z) ?_|refine zf (zo 4 Z Z) ?_|refine zf (zm 0 Z Z) ?_|refine zf (zm 1 Z Z) ?_|refine zf (zm 2 Z Z) ?_|refine zf (zm 3 Z Z) ?_|refine zf (zm 4 Z Z) ?_|refine zf (RdL.blk (ra _ _ Z Z) Z) ?_|refine zf ((ra _ _ Z Z)) ?_|refine zc (zo 0 Z Z) ?_|refine zc (zo 1 Z Z) ?_|refine zc (zo 2 Z Z) ?_|refine zc (zo 3 Z Z) ?_|refine zc (zo 4 Z Z) ?_|refine zc (zm 0 Z Z) ?_|refine zc (zm 1 Z Z) ?_|refine zc (zm 2 Z Z) ?_|refine zc (zm 3 Z Z) ?_|refine zc (zm 4 Z Z) ?_|refine zc (RdL.blk (ra _ _ Z Z) Z) ?_|refine zc ((ra _ _ Z Z)) ?_))) : p := k
theorem yaw (k : p := by (try refine Pd.st ?_);(repeat (first|exact Pd.nil|exact Pd.fnil|refine Pd.inner ?_|refine Pd.skip (by decide +kernel) ?_|refine zf (zo 0 Z Z) ?_|refine zf (zo 1 Z Z) ?_|refine zf (zo 2 Z Z) ?_|refine zf (zo 3 Z Z) ?_|refine zf (zo 4 Z Z) ?_|refine zf (zm 0 Z Z) ?_|refine zf (zm 1 Z Z) ?_|refine zf (zm 2 Z Z) ?_|refine zf (zm 3 Z Z) ?_|refine zf (zm 4 Z Z) ?_|refine zf (RdL.blk PQ Z) ?_|refine zf (PQ) ?_|refine zc (zo 0 Z Z) ?_|refine zc (zo 1 Z Z) ?_|refine zc (zo 2 Z Z) ?_|refine zc (zo 3 Z Z) ?_|refine zc (zo 4 Z Z) ?_|refine zc (zm 0 Z Z) ?_|refine zc (zm 1 Z Z) ?_|refine zc (zm 2 Z Z) ?_|refine zc (zm 3 Z Z) ?_|refine zc (zm 4 Z Z) ?_|refine zc (RdL.blk PQ Z) ?_|refine zc (PQ) ?_))) : p := k
theorem ycy (k : p := by (try refine Pd.st ?_);(repeat (first|exact Pd.nil|exact Pd.fnil|refine Pd.inner ?_|refine Pd.skip (by decide +kernel) ?_|refine zf (zo 0 Z Z) ?_|refine zf (zo 1 Z Z) ?_|refine zf (zm 0 Z Z) ?_|refine zf (zm 1 Z Z) ?_|refine zf (RdL.blk hnb Z) ?_|refine zf (RdL.blk (RdL.blkA hnb Z) Z) ?_|refine zf (hnb) ?_|refine zf ((RdL.blkA hnb Z)) ?_|refine zc (zo 0 Z Z) ?_|refine zc (zo 1 Z Z) ?_|refine zc (zm 0 Z Z) ?_|refine zc (zm 1 Z Z) ?_|refine zc (RdL.blk hnb Z) ?_|refine zc (RdL.blk (RdL.blkA hnb Z) Z) ?_|refine zc (hnb) ?_|refine zc ((RdL.blkA hnb Z)) ?_))) : p := k
theorem ybd (k : p := by (try refine Pd.st ?_);(repeat (first|exact Pd.nil|exact Pd.fnil|refine Pd.inner ?_|refine Pd.skip (by decide +kernel) ?_|refine zf (RdL.blk (RdL.blk h Z) Z) ?_|refine zf (RdL.blk (RdL.blkA (ds := R.ch.cells x.a x.c) h Z) Z) ?_|refine zf ((RdL.blk h Z)) ?_|refine zf ((RdL.blkA (ds := R.ch.cells x.a x.c) h Z)) ?_|refine zc (RdL.blk (RdL.blk h Z) Z) ?_|refine zc (RdL.blk (RdL.blkA (ds := R.ch.cells x.a x.c) h Z) Z) ?_|refine zc ((RdL.blk h Z)) ?_|refine zc ((RdL.blkA (ds := R.ch.cells x.a x.c) h Z)) ?_))) : p := k
theorem yaa (k : p := by (try refine Pd.st ?_);(repeat (first|exact Pd.nil|exact Pd.fnil|refine Pd.inner ?_|refine Pd.skip (by decide +kernel) ?_|refine zf (RdL.blk (RdL.blk hb Z) Z) ?_|refine zf (RdL.blk (RdL.blkA (ds := lastsC es) hb Z) Z) ?_|refine zf ((RdL.blk hb Z)) ?_|refine zf ((RdL.blkA (ds := lastsC es) hb Z)) ?_|refine zc (RdL.blk (RdL.blk hb Z) Z) ?_|refine zc (RdL.blk (RdL.blkA (ds := lastsC es) hb Z) Z) ?_|refine zc ((RdL.blk hb Z)) ?_|refine zc ((RdL.blkA (ds := lastsC es) hb Z)) ?_))) : p := k
theorem ycg (k : p := by (try refine Pd.st ?_);(repeat (first|exact Pd.nil|exact Pd.fnil|refine Pd.inner ?_|refine Pd.skip (by decide +kernel) ?_|refine zf (zo 0 Z Z) ?_|refine zf (zm 0 Z Z) ?_|refine zf (RdL.blk (RdL.nm 0 Z (fun _ => rfl)) Z) ?_|refine zf ((RdL.nm 0 Z (fun _ => rfl))) ?_|refine zc (zo 0 Z Z) ?_|refine zc (zm 0 Z Z) ?_|refine zc (RdL.blk (RdL.nm 0 Z (fun _ => rfl)) Z) ?_|refine zc ((RdL.nm 0 Z (fun _ => rfl))) ?_))) : p := k
theorem ycx (k : p := by (try refine Pd.st ?_);(repeat (first|exact Pd.nil|exact Pd.fnil|refine Pd.inner ?_|refine Pd.skip (by decide +kernel) ?_|refine zf (RdL.blk (RdL.blkA hb Z) Z) ?_|refine zf (RdL.blk (RdL.blk hb Z) Z) ?_|refine zf ((RdL.blkA hb Z)) ?_|refine zf ((RdL.blk hb Z)) ?_|refine zc (RdL.blk (RdL.blkA hb Z) Z) ?_|refine zc (RdL.blk (RdL.blk hb Z) Z) ?_|refine zc ((RdL.blkA hb Z)) ?_|refine zc ((RdL.blk hb Z)) ?_))) : p := k
theorem yah (k : p := by (try refine Pd.st ?_);(repeat (first|exact Pd.nil|exact Pd.fnil|refine Pd.inner ?_|refine Pd.skip (by decide +kernel) ?_|refine zf (RdL.blk hb Z) ?_|refine zf (RdL.blk (RdL.blkA hp hrow) Z) ?_|refine zf (hb) ?_|refine zf ((RdL.blkA hp hrow)) ?_|refine zc (RdL.blk hb Z) ?_|refine zc (RdL.blk (RdL.blkA hp hrow) Z) ?_|refine zc (hb) ?_|refine zc ((RdL.blkA hp hrow)) ?_))) : p := k
theorem yx (k : p := by (try refine Pd.st ?_);(repeat (first|exact Pd.nil|exact Pd.fnil|refine Pd.inner ?_|refine Pd.skip (by decide +kernel) ?_|refine zf (zo 0 Z Z) ?_|refine zf (zm 0 Z Z) ?_|refine zf (RdL.blk (RdL.blk hb Z) Z) ?_|refine zf ((RdL.blk hb Z)) ?_|refine zc (zo 0 Z Z) ?_|refine zc (zm 0 Z Z) ?_|refine zc (RdL.blk (RdL.blk hb Z) Z) ?_|refine zc ((RdL.blk hb Z)) ?_))) : p := k
theorem yay (k : p := by (try refine Pd.st ?_);(repeat (first|exact Pd.nil|exact Pd.fnil|refine Pd.inner ?_|refine Pd.skip (by decide +kernel) ?_|refine zf (zo 0 Z Z) ?_|refine zf (zm 0 Z Z) ?_|refine zf (RdL.blk hb Z) ?_|refine zf (hb) ?_|refine zc (zo 0 Z Z) ?_|refine zc (zm 0 Z Z) ?_|refine zc (RdL.blk hb Z) ?_|refine zc (hb) ?_))) : p := k
theorem ycw (k : p := by (try refine Pd.st ?_);(repeat (first|exact Pd.nil|exact Pd.fnil|refine Pd.inner ?_|refine Pd.skip (by decide +kernel) ?_|refine zf (RdL.blk (RdL.blkA hb Z) Z) ?_|refine zf ((RdL.blkA hb Z)) ?_|refine zc (RdL.blk (RdL.blkA hb Z) Z) ?_|refine zc ((RdL.blkA hb Z)) ?_))) : p := k
theorem yw (k : p := by (try refine Pd.st ?_);(repeat (first|exact Pd.nil|exact Pd.fnil|refine Pd.inner ?_|refine Pd.skip (by decide +kernel) ?_|refine zf (RdL.blk (RdL.blk hb Z) Z) ?_|refine zf ((RdL.blk hb Z)) ?_|refine zc (RdL.blk (RdL.blk hb Z) Z) ?_|refine zc ((RdL.blk hb Z)) ?_))) : p := k
theorem ybx (k : p := by show (s.rows.map RL.v).set (0 + k * 1) _ = _; rw [Nat.zero_add, Nat.mul_one, hvl, hv']) : p := k
theorem ybg (k : p := by rw [List.length_append, refs, List.length_map, List.length_take]; omega) : p := k
theorem yav (k : p := by (repeat refine Pd.filter ?_); exact hS _ (.tail _ (.tail _ (.head _)))) : p := k
theorem yau (k : p := by (repeat refine Pd.filter ?_); exact hS _ (.tail _ (.head _))) : p := k
theorem yac (k : p := by rw [headOk, DF (show ¬ 1 ≤ c.ms.length by omega)]; simp) : p := k
theorem yap (k : p := by show (cl.q.filter (stay now)).length ≤ S.cap; omega) : p := k
theorem ybl (k : p := by exact (fun v L h => ⟨_, by rw [hch] at h; exact h.2, h.1, Z⟩)) : p := k
theorem ybt (k : p := by (repeat refine Pd.filter ?_); exact hS _ (by simp)) : p := k
theorem yv (k : p := by rw [kvApply, if_neg hb, if_neg h1, if_pos h2, hg]) : p := k
theorem ybc (k : p := by rw [admCs_len h]; show 0 + 15 + n * 1 < 21; omega) : p := k
theorem ybw (k : p := by show (0 + r.xs.length + 1) * 288 ≤ _; omega) : p := k
theorem yax (k : p := by rw [flat_len markCs_len, h.marks]; omega) : p := k
theorem yal (k : p := by have := h0.wf.n0; have := h0.len; omega) : p := k
theorem ybv (k : p := by show (0 + r.xs.length) * 288 ≤ _; omega) : p := k
theorem ycr (k : p := by show R.rds.l.filter _ = []; rw [e]; rfl) : p := k
theorem ybj (k : p := by show (0 + c.ms.length) * 16 ≤ _; omega) : p := k
theorem yci (k : p := by rw [hn2]; show n.out.length ≤ _; omega) : p := k
theorem ycu (k : p := by show (c.ms.length + 1) * 16 ≤ _; omega) : p := k
theorem yi (k : p := by simpa using (List.mem_filter.1 hp1).2) : p := k
theorem yao (k : p := by show (gs.length + 1) * 288 ≤ _; omega) : p := k
theorem ybu (k : p := by rw [List.length_append]; simp; omega) : p := k
theorem yae (k : p := by show (0 + l.length) * 16 ≤ _; omega) : p := k
theorem yat (k : p := by rw [intCs_len, mixQ_len]; exact hi2) : p := k
theorem ybr (k : p := by rw [beq_eq_false_iff_ne]; exact h3) : p := k
theorem ycd (k : p := by rw [bne_eq_false_iff_eq]; exact h2) : p := k
theorem ycj (k : p := by rw [beq_eq_false_iff_ne]; exact h1) : p := k
theorem yck (k : p := by rw [beq_eq_false_iff_ne]; exact h0) : p := k
theorem ycp (k : p := by rw [hT', if_neg (fun h => h1 h.1)]) : p := k
theorem ycq (k : p := by rw [hT', if_neg (fun h => h2 h.2)]) : p := k
theorem yct (k : p := by rw [bne_eq_false_iff_eq]; exact h1) : p := k
theorem yo (k : p := by simp [opCheck, opLong, h1]; omega) : p := k
theorem ybm (k : p := by rw [if_pos hyes]; exact ⟨p, Z, Z⟩) : p := k
theorem ybs (k : p := by simp [opCheck, hb, opLong]; omega) : p := k
theorem yan (k : p := by simp only [clsCs]; rw [hcr]; rfl) : p := k
theorem ycm (k : p := by show -1000000 ≤ f.client; omega) : p := k
theorem ybe (k : p := by rw [List.length_append]; omega) : p := k
theorem ybf (k : p := by show logErr R.log _ = 0; omega) : p := k
theorem yby (k : p := by show 24 * qs.length ≤ _; omega) : p := k
theorem ycn (k : p := by show f.client ≤ 1000000; omega) : p := k
theorem ybz (k : p := by show 8 * qs.length ≤ _; omega) : p := k
theorem ycc (k : p := by rw [ConfM.cells_len]; omega) : p := k
theorem yz (k : p := by exact (fun v L h => ⟨_, h.2, h.1, Z⟩)) : p := k
theorem yam (k : p := by show (0 : Int) ≤ 95; omega) : p := k
theorem yce (k : p := by rw [bne_iff_ne]; exact h2) : p := k
theorem ycs (k : p := by rw [bne_iff_ne]; exact h1) : p := k
theorem yh (k : p := by rw [hpr] at h0; cases h0) : p := k
theorem ybq (k : p := by show 1 ≤ 1000000; omega) : p := k
theorem ybn (k : p := by show 0 ≤ 900000; omega) : p := k
theorem ybo (k : p := by show 0 ≤ 800000; omega) : p := k
theorem yaz (k : p := by rw [checkM, if_pos e]) : p := k
theorem ybh (k : p := by exact (fun v L h => ⟨_, h.2, Z⟩)) : p := k
theorem yab (k : p := by simp [headOk]; omega) : p := k
theorem yaf (k : p := by show 24 < 29; omega) : p := k
theorem yca (k : p := by show 17 < 29; omega) : p := k
theorem ycf (k : p := by show 28 < 29; omega) : p := k
theorem ych (k : p := by show 21 < 29; omega) : p := k
theorem yas (k : p := by show 3 < 12; omega) : p := k
theorem ybb (k : p := by rw [hwt]; exact h2) : p := k
theorem ybk (k : p := by show 8 < 17; omega) : p := k
theorem yad (k : p := by rw [chE, hc]; rfl) : p := k
theorem yai (k : p := by show 2 < 3; omega) : p := k
theorem yaj (k : p := by show 1 < 3; omega) : p := k
theorem ybp (k : p := by show 0 < 1; omega) : p := k
theorem yak (k : p := by simp [schL, hr]) : p := k
theorem ycl (k : p := by rw [← en3]; rfl) : p := k
theorem yl (k : p := by simpa using hi) : p := k
theorem ym (k : p := by simpa using hy) : p := k
theorem yp (k : p := by simpa using hk) : p := k
theorem yq (k : p := by decide +kernel) : p := k
theorem ybi (k : p := by simpa using h1) : p := k
theorem ycb (k : p := by rw [← e2]; rfl) : p := k
theorem yc (k : p := by simpa using h) : p := k
theorem yba (k : p := by rw [h1]; simp) : p := k
theorem yco (k : p := by rw [h3]; simp) : p := k
theorem yag (k : p := by rw [hL]; rfl) : p := k
theorem yf (k : p := by simp; omega) : p := k
theorem yaq (k : p := by rw [e]; rfl) : p := k
theorem yn (k : p := by kernel_rfl) : p := k
theorem yg (k : p := by simp [h1]) : p := k
theorem yj (k : p := by simp [hg]) : p := k
theorem yk (k : p := by simp [h2]) : p := k
theorem yd (k : p := by simp [h]) : p := k
theorem yy (k : p := by decide) : p := k
theorem yar (k : p := by rw [e]) : p := k
theorem ye (k : p := by omega) : p := k
theorem ya (k : p := by simp) : p := k
theorem xcz (k : p := by exact .inl ⟨_, E _ (fun w => r1 w), h⟩) : p := k
theorem xda (k : p := by exact .inl ⟨_, E _ (fun w => r2 w), h⟩) : p := k
theorem xdb (k : p := by exact .inl ⟨v, fun a ha _ _ _ _ _ w => by simp only [execOp, ha.ev hv]; rfl, h⟩) : p := k
theorem xdc (k : p := by exact .inl ⟨_, fun a ha _ _ _ _ _ w => by simp only [execOp, ha.ev hv]; rfl, h⟩) : p := k
theorem xdd (k : p := by exact .inl ⟨_, fun a ha _ _ _ _ _ w => by simp only [execOp, ha.ev hv, ha.ev hu]; rfl, h⟩) : p := k
theorem xde (k : p := by exact List.nodup_append.2 ⟨hGn, hnl, fun x hx y hy he => (hGb x hx).1 (.inr (he ▸ hy))⟩) : p := k
theorem xdf (k : p := by exact h.keep.trans ⟨rfl, Z, Z, by rw [size_setBlk]; exact NR _, fun c hc => heap_setBlk_ne fun he => hf (he ▸ hc)⟩) : p := k
theorem xdg (k : p := by exact hki v L' hm Q' hp0 hQ hsel _ _ w' hpi (ha.putE hdi v) (hG.put hfi v) hs (fun p hp1 => hsti v L' hm w' hs p (List.mem_filter.1 hp1).1 yi)) : p := k
theorem xdh (k : p := by exact hkj v L' hm Q' hp0 hQ hsel _ _ w' hpj (ha.putE hdj v) (hG.put hfj v) hs (fun p hp1 => hstj v L' hm w' hs p (List.mem_filter.1 hp1).1 yi)) : p := k
theorem xdi (g : q) (k : Bq q → p := by (intro zq; refine CS (VC.block ?_); exact zq.v)) : p := k ⟨g⟩
theorem xdj (g : q) (k : Bq q → p := by (intro zq; (repeat (first|refine zS ?_|refine zR ?_|refine zB ?_|refine zL ?_|refine zC ?_|refine zG (zN ?_)|refine zG (zD 0 rfl rfl rfl rfl ?_))); exact zq.v)) : p := k ⟨g⟩
theorem xdk (g : q) (k : Bq q → p := by (intro zq; refine VC.condF Z ?_; exact zq.v)) : p := k ⟨g⟩
theorem xdl (g : q) (k : Bq q → p := by (intro zq; (repeat (first|refine zS ?_|refine zR ?_|refine zB ?_|refine zL ?_|refine zC ?_|refine zG (zN ?_)|refine zG (zE rfl rfl (RdL.blk h rfl) ?_))); exact zq.v)) : p := k ⟨g⟩
theorem xdm (g : q) (k : Bq q → p := by (intro zq; refine VG (VV (fun Fr w hF hs _ => none_spec Fr w (h.of hF hs) hc) Z ?_); exact zq.v)) : p := k ⟨g⟩
theorem xdn (g : q) (k : Bq q → p := by (intro zq; refine VC.condF Z (CK ?_); exact zq.v)) : p := k ⟨g⟩
theorem xdo (k : p := by exact CR (Ret.int 2 Z Z Z ER ⟨rfl, Z⟩)) : p := k
theorem xdp (g : q) (k : Bq q → p := by (intro zq; (repeat (first|refine yG (yN ?_)|refine yG (yE rfl rfl rfl (RdL.blk h rfl) ?_))); exact zq.v)) : p := k ⟨g⟩
theorem xdq (g : q) (k : Bq q → p := by (intro zq; refine VA.go (AP Z Z Z ye ye ?_); exact zq.v)) : p := k ⟨g⟩
theorem xdr (g : q) (k : Bq q → p := by (intro zq; (repeat (first|refine yG (yN ?_)|refine yG (yD 0 rfl rfl rfl rfl rfl ?_))); exact zq.v)) : p := k ⟨g⟩
theorem xds (g : q) (k : Bq q → p := by (intro zq; refine VG (VP Z Z ye ye ?_); exact zq.v)) : p := k ⟨g⟩
theorem xdt (k : p := by exact CR (Ret.bool 2 Z Z Z ER ⟨rfl, Z⟩)) : p := k
theorem xdu (g : q) (k : Bq q → p := by (intro zq; refine VG (VV (fun Fr w hF hs hS => none_spec Fr w (hS.blk 0 Z) o1) Z ?_); exact zq.v)) : p := k ⟨g⟩
theorem xdv (g : q) (k : Bq q → p := by (intro zq; (repeat (first|refine zS ?_|refine zR ?_|refine zB ?_|refine zL ?_|refine zC ?_|refine zG (zN ?_)|refine zG (zD 0 rfl rfl rfl rfl ?_)|refine zG (zU rfl rfl rfl ?_))); exact zq.v)) : p := k ⟨g⟩
theorem xdw (g : q) (k : Bq q → p := by (intro zq; refine VC.condT Z ?_; exact zq.v)) : p := k ⟨g⟩
theorem xdx (k : p := by exact CR (Ret.tmp 4 Z Z ER ⟨by rw [hb], by rw [WinM.ack, hb]; rfl⟩)) : p := k
theorem xdy (k : p := by exact Ret.void Z ER ⟨rfl, Z⟩) : p := k
theorem xdz (g : q) (k : Bq q → p := by (intro zq; refine CS (CG (VG (VN ?_))); exact zq.v)) : p := k ⟨g⟩
theorem xea (g : q) (k : Bq q → p := by (intro zq; (repeat (first|refine yG (yN ?_)|refine yG (yD 0 rfl rfl rfl rfl rfl ?_)|refine yG (yU rfl rfl rfl rfl ?_))); exact zq.v)) : p := k ⟨g⟩
theorem xeb (k : p := by exact CR (Ret.tmp2 2 3 Z Z Z ER ⟨by rw [hb]; rfl, by rw [WinM.next, hb]; rfl⟩)) : p := k
theorem xec (g : q) (k : Bq q → p := by (intro zq; refine VG (VO.callV (fun Fr w => check_spec Fr w o) Z ?_); exact zq.v)) : p := k ⟨g⟩
theorem xed (g : q) (k : Bq q → p := by (intro zq; (repeat (first|refine zS ?_|refine zR ?_|refine zB ?_|refine zL ?_|refine zC ?_|refine zG (zN ?_)|refine zG (zD 0 rfl rfl rfl rfl ?_)|refine zG (zE rfl rfl (RdL.blk hp rfl) ?_))); exact zq.v)) : p := k ⟨g⟩
theorem xee (k : p := by exact CR (Ret.tmp 2 Z Z ER ⟨rfl, Z⟩)) : p := k
theorem xef (g : q) (k : Bq q → p := by (intro zq; refine VG (VV (fun Fr w hF hs _ => none_spec Fr w (h.of hF hs)) Z ?_); exact zq.v)) : p := k ⟨g⟩
theorem xeg (g : q) (k : Bq q → p := by (intro zq; refine VG (VY 19 true Z Z ?_); exact zq.v)) : p := k ⟨g⟩
theorem xeh (g : q) (k : Bq q → p := by (intro zq; refine VG (VI (LB (pv := []) (resC resZ) Z Z Z yn Z) ?_); exact zq.v)) : p := k ⟨g⟩
theorem xei (g : q) (k : Bq q → p := by (intro zq; refine VG (VT (vs := resC resZ) 0 Z Z Z Z (NR _) Z Z Z ?_); exact zq.v)) : p := k ⟨g⟩
theorem xej (g : q) (k : Bq q → p := by (intro zq; (repeat (first|refine yG (yN ?_)|refine yG (yD 0 rfl rfl rfl rfl rfl ?_)|refine yG (yD 1 rfl rfl rfl rfl rfl ?_)|refine yG (yD 2 rfl rfl rfl rfl rfl ?_)|refine yG (yD 3 rfl rfl rfl rfl rfl ?_))); exact zq.v)) : p := k ⟨g⟩
theorem xek (g : q) (k : Bq q → p := by (intro zq; refine CS (CD (ts 0 10 (.only 10 .nil)) yn yq ?_); exact zq.v)) : p := k ⟨g⟩
theorem xel (g : q) (k : Bq q → p := by (intro zq; (repeat (first|refine yG (yN ?_)|refine yG (yD 0 rfl rfl rfl rfl rfl ?_)|refine yG (yD 1 rfl rfl rfl rfl rfl ?_)|refine yG (yD 2 rfl rfl rfl rfl rfl ?_)|refine yG (yD 3 rfl rfl rfl rfl rfl ?_)|refine yG (yD 4 rfl rfl rfl rfl rfl ?_))); exact zq.v)) : p := k ⟨g⟩
theorem xem (g : q) (k : Bq q → p := by (intro zq; refine VA.go (AN ?_); exact zq.v)) : p := k ⟨g⟩
theorem xen (g : q) (k : Bq q → p := by (intro zq; refine VG (VI (LB (pv := [(0, .int .i64 1), (2, .int .i64 i), (3, .int .i64 i)]) (resC ⟨1, nilB, i, i⟩) Z Z Z yn Z) ?_); exact zq.v)) : p := k ⟨g⟩
theorem xeo (g : q) (k : Bq q → p := by (intro zq; (repeat (first|refine zS ?_|refine zR ?_|refine zB ?_|refine zL ?_|refine zC ?_|refine zG (zN ?_)|refine zG (zD 0 rfl rfl rfl rfl ?_)|refine zG (zD 1 rfl rfl rfl rfl ?_)|refine zG (zD 2 rfl rfl rfl rfl ?_)|refine zG (zD 3 rfl rfl rfl rfl ?_)|refine zG (zD 4 rfl rfl rfl rfl ?_))); exact zq.v)) : p := k ⟨g⟩
theorem xep (g : q) (k : Bq q → p := by (intro zq; refine CS (CD (ts 0 6 (.only 6 .nil)) yn yq ?_); exact zq.v)) : p := k ⟨g⟩
theorem xeq (g : q) (k : Bq q → p := by (intro zq; refine VG (VI (LB (pv := [(0, .int .i64 1), (3, .int .i64 i)]) (resC ⟨1, nilB, 0, i⟩) Z Z Z yn Z) ?_); exact zq.v)) : p := k ⟨g⟩
theorem xer (g : q) (k : Bq q → p := by (intro zq; (repeat (first|refine zS ?_|refine zR ?_|refine zB ?_|refine zL ?_|refine zC ?_|refine zG (zN ?_)|refine zG (zE rfl rfl (RdL.blk hb rfl) ?_))); exact zq.v)) : p := k ⟨g⟩
theorem xes (g : q) (k : Bq q → p := by (intro zq; refine VG (VI (LB (pv := []) (entC entZ) Z Z Z yn Z) ?_); exact zq.v)) : p := k ⟨g⟩
theorem xet (g : q) (k : Bq q → p := by (intro zq; refine VG (VO.sub' Z Z ye ye ?_); exact zq.v)) : p := k ⟨g⟩
theorem xeu (g : q) (k : Bq q → p := by (intro zq; refine VG (VD Z Z (ra _ _ Z Z) ?_); exact zq.v)) : p := k ⟨g⟩
theorem xev (g : q) (k : Bq q → p := by (intro zq; refine VG (VV (fun Fr w hF hs hS => none_spec Fr w (hb.of hF hs)) Z ?_); exact zq.v)) : p := k ⟨g⟩
theorem xew (g : q) (k : Bq q → p := by (intro zq; (repeat (first|refine yG (yN ?_)|refine yG (yE rfl rfl rfl (RdL.blk hb rfl) ?_))); exact zq.v)) : p := k ⟨g⟩
theorem xex (g : q) (k : Bq q → p := by (intro zq; (repeat (first|refine zS ?_|refine zR ?_|refine zB ?_|refine zL ?_|refine zC ?_|refine zG (zN ?_)|refine zG (zD 0 rfl rfl rfl rfl ?_)|refine zG (zD 1 rfl rfl rfl rfl ?_)|refine zG (zD 2 rfl rfl rfl rfl ?_)|refine zG (zD 3 rfl rfl rfl rfl ?_)|refine zG (zD 4 rfl rfl rfl rfl ?_)|refine zG (zD 5 rfl rfl rfl rfl ?_))); exact zq.v)) : p := k ⟨g⟩
theorem xey (g : q) (k : Bq q → p := by (intro zq; (repeat (first|refine zS ?_|refine zR ?_|refine zB ?_|refine zL ?_|refine zC ?_|refine zG (zN ?_)|refine zG (zD 0 rfl rfl rfl rfl ?_)|refine zG (zD 1 rfl rfl rfl rfl ?_)|refine zG (zD 2 rfl rfl rfl rfl ?_)|refine zG (zD 3 rfl rfl rfl rfl ?_)|refine zG (zD 4 rfl rfl rfl rfl ?_)|refine zG (zD 5 rfl rfl rfl rfl ?_)|refine zG (zU rfl rfl rfl ?_))); exact zq.v)) : p := k ⟨g⟩
theorem xez (k : p := by exact ⟨(), trivial, by rw [hb]; exact sbZ, ER⟩) : p := k
theorem xfa (g : q) (k : Bq q → p := by (intro zq; refine VG (VT (vs := resC resZ) 4 Z Z Z Z (NR _) Z Z Z ?_); exact zq.v)) : p := k ⟨g⟩
theorem xfb (g : q) (k : Bq q → p := by (intro zq; (repeat (first|refine yG (yN ?_)|refine yG (yD 0 rfl rfl rfl rfl rfl ?_)|refine yG (yD 1 rfl rfl rfl rfl rfl ?_)|refine yG (yD 2 rfl rfl rfl rfl rfl ?_)|refine yG (yD 3 rfl rfl rfl rfl rfl ?_)|refine yG (yD 4 rfl rfl rfl rfl rfl ?_)|refine yG (yD 5 rfl rfl rfl rfl rfl ?_))); exact zq.v)) : p := k ⟨g⟩
theorem xfc (g : q) (k : Bq q → p := by (intro zq; refine CS (CD (ts 0 6 (.only 6 (.only 7 (ts 8 2 (.only 10 .nil))))) yn yq ?_); exact zq.v)) : p := k ⟨g⟩
theorem xfd (k : p := by exact CR (Ret.tmp 2 Z Z (Imp.slNil Imp.nil).ent ⟨none, 0, Z, Z⟩)) : p := k
theorem xfe (k : p := by exact CR (Ret.tmp 2 Z Z ER ⟨a', c', Z, Z⟩)) : p := k
theorem xff (g : q) (k : Bq q → p := by (intro zq; refine VG (VI (light_idx i Z Z Z Z Z Z hi2) ?_); exact zq.v)) : p := k ⟨g⟩
theorem xfg (g : q) (k : Bq q → p := by (intro zq; refine VG (VI (light_makeFunc (u := []) (v := [.pointer (some ⟨b, 0, none⟩)]) Z Z) ?_); exact zq.v)) : p := k ⟨g⟩
theorem xfh (g : q) (k : Bq q → p := by (intro zq; refine VG (VY 20 true Z Z ?_); exact zq.v)) : p := k ⟨g⟩
theorem xfi (k : p := by exact ⟨(), trivial, SC Z (Sub.bl Z yab (SN _)), ER⟩) : p := k
theorem xfj (g : q) (k : Bq q → p := by (intro zq; refine VG (VL 0 (c.cells a cap) Z Z Z Z ?_); exact zq.v)) : p := k ⟨g⟩
theorem xfk (g : q) (k : Bq q → p := by (intro zq; refine VG (VK (Lc := []) (fun Fr w hF hw _ => places_spec (c := c) (a := a) (cap := cap) Fr w) Z Z ?_); exact zq.v)) : p := k ⟨g⟩
theorem xfl (g : q) (k : Bq q → p := by (intro zq; (repeat (first|refine zS ?_|refine zR ?_|refine zB ?_|refine zL ?_|refine zC ?_|refine zG (zN ?_)|refine zG (zD 0 rfl rfl rfl rfl ?_)|refine zG (zD 1 rfl rfl rfl rfl ?_))); exact zq.v)) : p := k ⟨g⟩
theorem xfm (g : q) (k : Bq q → p := by (intro zq; (repeat (first|refine zS ?_|refine zR ?_|refine zB ?_|refine zL ?_|refine zC ?_|refine zG (zN ?_)|refine zG (zD 0 rfl rfl rfl rfl ?_)|refine zG (zD 1 rfl rfl rfl rfl ?_)|refine zG (zD 2 rfl rfl rfl rfl ?_))); exact zq.v)) : p := k ⟨g⟩
theorem xfn (g : q) (k : Bq q → p := by (intro zq; (repeat (first|refine zS ?_|refine zR ?_|refine zB ?_|refine zL ?_|refine zC ?_|refine zG (zN ?_)|refine zG (zD 0 rfl rfl rfl rfl ?_)|refine zG (zD 1 rfl rfl rfl rfl ?_)|refine zG (zD 2 rfl rfl rfl rfl ?_)|refine zG (zU rfl rfl rfl ?_))); exact zq.v)) : p := k ⟨g⟩
theorem xfo (g : q) (k : Bq q → p := by (intro zq; refine VG (VY 40 false Z Z ?_); exact zq.v)) : p := k ⟨g⟩
theorem xfp (g : q) (k : Bq q → p := by (intro zq; (repeat (first|refine zS ?_|refine zR ?_|refine zB ?_|refine zL ?_|refine zC ?_|refine zG (zN ?_)|refine zG (zD 0 rfl rfl rfl rfl ?_)|refine zG (zD 1 rfl rfl rfl rfl ?_)|refine zG (zU rfl rfl rfl ?_))); exact zq.v)) : p := k ⟨g⟩
theorem xfq (g : q) (k : Bq q → p := by (intro zq; refine VG (VD Z Z (rc _ _ 0 _ Z Z) ?_); exact zq.v)) : p := k ⟨g⟩
theorem xfr (k : p := by exact CR (Ret.tmp 2 Z Z Imp.nil.ent ⟨rfl, Z⟩)) : p := k
theorem xfs (g : q) (k : Bq q → p := by (intro zq; refine VG (VO.callFV (u := .int .i64 (placeOf c.ms n)) Z (fun Fr w hF hs hS => place1_spec Fr w (hS.blk 0 Z) (h.of hF hs) ye n) Z ?_); exact zq.v)) : p := k ⟨g⟩
theorem xft (g : q) (k : Bq q → p := by (intro zq; refine VG (VL 1 (c.cells a cap) Z Z Z Z ?_); exact zq.v)) : p := k ⟨g⟩
theorem xfu (g : q) (k : Bq q → p := by (intro zq; refine VG (VN ?_); exact zq.v)) : p := k ⟨g⟩
theorem xfv (k : p := by exact CR (Ret.tmp2 4 5 Z Z Z Imp.nil.ent ⟨by rw [sinceOf, if_neg (by rw [hc]; simp)], Z⟩)) : p := k
theorem xfw (k : p := by exact CR (Ret.tmp2 4 5 Z Z Z Imp.nil.ent ⟨by rw [sinceOf, if_neg ye], Z⟩)) : p := k
theorem xfx (g : q) (k : Bq q → p := by (intro zq; refine VG (VD Z Z (rc _ _ 1 _ Z Z) ?_); exact zq.v)) : p := k ⟨g⟩
theorem xfy (k : p := by exact CR (Ret.tmp2 4 5 Z Z Z Imp.nil.ent ⟨by rw [sinceOf, if_pos ⟨hc, by omega⟩, h2, Int.toNat_natCast, h4]; rfl, Z⟩)) : p := k
theorem xfz (k : p := by exact ⟨s, h1, G, h2, by simpa using hn, fun b hb => by simpa using hb⟩) : p := k
theorem xga (g : q) (k : Bq q → p := by (intro zq; refine VO.ent (L' := [slH memT 2 (some ⟨b, 0, none⟩) 0 0 []]) (Imp.sl (M := []) (cs := []) (rest := []) Z (NR _) Z (Imp.refl (L := [pt b [] memT]))).ent ?_; exact zq.v)) : p := k ⟨g⟩
theorem xgb (g : q) (k : Bq q → p := by (intro zq; (repeat (first|refine zS ?_|refine zR ?_|refine zB ?_|refine zL ?_|refine zC ?_|refine zG (zN ?_)|refine zG (zD 0 rfl rfl rfl rfl ?_)|refine zG (zE rfl rfl (RdL.blk hb rfl) ?_))); exact zq.v)) : p := k ⟨g⟩
theorem xgc (k : p := by exact CR (Ret.tmp 4 Z Z (IP 0 Z (IP 0 Z Imp.nil)).ent ⟨a, c, rows, h1, Z, Z⟩)) : p := k
theorem xgd (g : q) (k : Bq q → p := by (intro zq; refine VG (VT (vs := fmc (f, m)) (cs' := fmc (f, m)) 1 Z Z Z Z (NR _) Z Z Z (VG (VN ?_))); exact zq.v)) : p := k ⟨g⟩
theorem xge (g : q) (k : Bq q → p := by (intro zq; refine VG (VT (vs := fmc fmz) (cs' := fmc fmz) 0 Z Z Z Z (NR _) Z Z Z (VG (VN ?_))); exact zq.v)) : p := k ⟨g⟩
theorem xgf (g : q) (k : Bq q → p := by (intro zq; refine CR (Ret.cellTmp 2 3 Z Z Z (RdL.many 0 Z Z) Z Imp.nil.ent ?_); exact zq.v)) : p := k ⟨g⟩
theorem xgg (g : q) (k : Bq q → p := by (intro zq; (repeat (first|refine yG (yN ?_)|refine yG (yD 0 rfl rfl rfl rfl rfl ?_)|refine yG (yD 1 rfl rfl rfl rfl rfl ?_))); exact zq.v)) : p := k ⟨g⟩
theorem xgh (g : q) (k : Bq q → p := by (intro zq; (repeat (first|refine yG (yN ?_)|refine yG (yD 0 rfl rfl rfl rfl rfl ?_)|refine yG (yD 1 rfl rfl rfl rfl rfl ?_)|refine yG (yD 2 rfl rfl rfl rfl rfl ?_))); exact zq.v)) : p := k ⟨g⟩
theorem xgi (g : q) (k : Bq q → p := by (intro zq; refine VG (VO.st 2 Z Z Z Z yai Z Z (VG (VN ?_))); exact zq.v)) : p := k ⟨g⟩
theorem xgj (k : p := by exact CR (Ret.bool 4 Z Z yk ER ⟨rfl, Z⟩)) : p := k
theorem xgk (g : q) (k : Bq q → p := by (intro zq; refine VG (VV (fun Fr w hF hs _ => has_spec Fr w i (hb.of hF hs)) Z (VG (VN ?_))); exact zq.v)) : p := k ⟨g⟩
theorem xgl (g : q) (k : Bq q → p := by (intro zq; refine VG (VI (light_idx k Z Z Z Z Z Z ye) ?_); exact zq.v)) : p := k ⟨g⟩
theorem xgm (g : q) (k : Bq q → p := by (intro zq; refine VG (VV (fun Fr w hF hs _ => Ring.len_spec Fr w ((h.ring k _ hr).of hF hs)) Z (VG (VN ?_))); exact zq.v)) : p := k ⟨g⟩
theorem xgn (k : p := by exact CR (Ret.int 4 Z Z Z out ⟨by rw [e], by rw [e]⟩)) : p := k
theorem xgo (g : q) (k : Bq q → p := by (intro zq; refine VG (VV (fun Fr w hF _ hs => idle_spec Fr w (SatIn.shut s0 h0 hs.tail)) Z (VG (VN ?_))); exact zq.v)) : p := k ⟨g⟩
theorem xgp (g : q) (k : Bq q → p := by (intro zq; refine VG (VO.ld 2 Z Z Z (hcell (j := 0) Z) ?_); exact zq.v)) : p := k ⟨g⟩
theorem xgq (g : q) (k : Bq q → p := by (intro zq; refine VG (VQ 2 (ψ := fun v H => v = .tuple #[] ∧ H = passH p s.cb s.rows.length s.ccap S.turn) Z (fun Fr w _ _ _ => pass_spec Fr w ye ye) Z (fun v L1 ⟨h1, h2⟩ => ⟨_, h2, h1, Z⟩) ?_); exact zq.v)) : p := k ⟨g⟩
theorem xgr (k : p := by exact ⟨(), trivial, sbZ, ER⟩) : p := k
theorem xgs (k : p := by exact (Imp.trans Imp.tl (Imp.trans Imp.tl (Imp.trans (Imp.of_eq e) (sch_shut (h.row' hr hwf))))).ent) : p := k
theorem xgt (g : q) (k : Bq q → p := by (intro zq; refine VG (VN (VC.condT Z ?_)); exact zq.v)) : p := k ⟨g⟩
theorem xgu (g : q) (k : Bq q → p := by (intro zq; refine VG (VO.ld 1 Z Z Z Z ?_); exact zq.v)) : p := k ⟨g⟩
theorem xgv (g : q) (k : Bq q → p := by (intro zq; refine VA.go (AI Z (light_idx i Z Z Z Z Z Z hi2) ?_); exact zq.v)) : p := k ⟨g⟩
theorem xgw (g : q) (k : Bq q → p := by (intro zq; refine CS (CG ?_); exact zq.v)) : p := k ⟨g⟩
theorem xgx (g : q) (k : Bq q → p := by (intro zq; refine VG (VO.ld 2 Z Z Z Z (VG (VO.ld 0 Z Z Z Z ?_))); exact zq.v)) : p := k ⟨g⟩
theorem xgy (g : q) (k : Bq q → p := by (intro zq; refine VG (VY 47 false Z Z ?_); exact zq.v)) : p := k ⟨g⟩
theorem xgz (g : q) (k : Bq q → p := by (intro zq; refine VG (VY 54 false Z Z ?_); exact zq.v)) : p := k ⟨g⟩
theorem xha (g : q) (k : Bq q → p := by (intro zq; refine VG (VY 61 false Z Z ?_); exact zq.v)) : p := k ⟨g⟩
theorem xhb (g : q) (k : Bq q → p := by (intro zq; refine VG (VY 68 false Z Z ?_); exact zq.v)) : p := k ⟨g⟩
theorem xhc (g : q) (k : Bq q → p := by (intro zq; refine VG (VY 75 false Z Z ?_); exact zq.v)) : p := k ⟨g⟩
theorem xhd (g : q) (k : Bq q → p := by (intro zq; refine VG (VY 82 false Z Z ?_); exact zq.v)) : p := k ⟨g⟩
theorem xhe (g : q) (k : Bq q → p := by (intro zq; refine VA.go (AO (OpT.callP (φ := fun v => v = .int .i64 (near c.clients 1 6)) (fun Fr w _ _ _ => rnear_spec Fr w _ _ _) rfl) rfl (fun v L' h => by obtain ⟨_, rfl⟩ := h; exact yav) ?_); exact zq.v)) : p := k ⟨g⟩
theorem xhf (g : q) (k : Bq q → p := by (intro zq; refine VA.go (AO (OpT.callP (φ := fun v => v = .int .i64 (near c.queue 1 16)) (fun Fr w _ _ _ => rnear_spec Fr w _ _ _) rfl) rfl (fun v L' h => by obtain ⟨_, rfl⟩ := h; exact yav) ?_); exact zq.v)) : p := k ⟨g⟩
theorem xhg (g : q) (k : Bq q → p := by (intro zq; refine VA.go (AO (OpT.callP (φ := fun v => v = .int .i64 (near c.window 1 16)) (fun Fr w _ _ _ => rnear_spec Fr w _ _ _) rfl) rfl (fun v L' h => by obtain ⟨_, rfl⟩ := h; exact yav) ?_); exact zq.v)) : p := k ⟨g⟩
theorem xhh (g : q) (k : Bq q → p := by (intro zq; refine VA.go (AO (OpT.callP (φ := fun v => v = .int .i64 (near c.reads 1 16)) (fun Fr w _ _ _ => rnear_spec Fr w _ _ _) rfl) rfl (fun v L' h => by obtain ⟨_, rfl⟩ := h; exact yav) ?_); exact zq.v)) : p := k ⟨g⟩
theorem xhi (g : q) (k : Bq q → p := by (intro zq; refine VA.go (AO (OpT.callP (φ := fun v => v = .int .i64 (near c.link 4 64)) (fun Fr w _ _ _ => rnear_spec Fr w _ _ _) rfl) rfl (fun v L' h => by obtain ⟨_, rfl⟩ := h; exact yav) ?_); exact zq.v)) : p := k ⟨g⟩
theorem xhj (g : q) (k : Bq q → p := by (intro zq; refine VA.go (AO (OpT.callP (φ := fun v => v = .int .i64 (near c.patience 4 64)) (fun Fr w _ _ _ => rnear_spec Fr w _ _ _) rfl) rfl (fun v L' h => by obtain ⟨_, rfl⟩ := h; exact yav) ?_); exact zq.v)) : p := k ⟨g⟩
theorem xhk (g : q) (k : Bq q → p := by (intro zq; refine VA.go (AO (OpT.callP (φ := fun v => v = .int .i64 (near c.timeout 4 64)) (fun Fr w _ _ _ => rnear_spec Fr w _ _ _) rfl) rfl (fun v L' h => by obtain ⟨_, rfl⟩ := h; exact yav) ?_); exact zq.v)) : p := k ⟨g⟩
theorem xhl (g : q) (k : Bq q → p := by (intro zq; refine VA.go (AO (OpT.callP (φ := fun v => v = .int .i64 (near c.budget 0 16)) (fun Fr w _ _ _ => rnear_spec Fr w _ _ _) rfl) rfl (fun v L' h => by obtain ⟨_, rfl⟩ := h; exact yav) ?_); exact zq.v)) : p := k ⟨g⟩
theorem xhm (g : q) (k : Bq q → p := by (intro zq; refine VA.go (AO (OpT.callP (φ := fun v => v = .int .i64 (near c.refill 1 1099511627776)) (fun Fr w _ _ _ => rnear_spec Fr w _ _ _) rfl) rfl (fun v L' h => by obtain ⟨_, rfl⟩ := h; exact yav) ?_); exact zq.v)) : p := k ⟨g⟩
theorem xhn (g : q) (k : Bq q → p := by (intro zq; refine VA.go (AI Z (light_conf Z Z) ?_); exact zq.v)) : p := k ⟨g⟩
theorem xho (g : q) (k : Bq q → p := by (intro zq; refine VA.go (AT (vs := [.int .i64 (near c.nodes 1 6), .int .i64 (near c.chain 1 (near c.nodes 1 6)), .int .i64 (near c.clients 1 6), .slice none 0 0, .int .i64 (near c.queue 1 16), .int .i64 (near c.window 1 16), .int .i64 (near c.reads 1 16), .int .i64 (near c.link 4 64), .int .i64 (near c.patience 4 64), .int .i64 (near c.timeout 4 64), .int .i64 (near c.budget 0 16), .int .i64 (near c.refill 1 1099511627776)]) (cs' := [.int .i64 (near c.nodes 1 6), .int .i64 (near c.chain 1 (near c.nodes 1 6)), .int .i64 (near c.clients 1 6), .slice none 0 0, .int .i64 (near c.queue 1 16), .int .i64 (near c.window 1 16), .int .i64 (near c.reads 1 16), .int .i64 (near c.link 4 64), .int .i64 (near c.patience 4 64), .int .i64 (near c.timeout 4 64), .int .i64 (near c.budget 0 16), .int .i64 (near c.refill 1 1099511627776)]) 0 Z Z Z Z Z (NR _) Z Z Z yav (VA.go (AN ?_))); exact zq.v)) : p := k ⟨g⟩
theorem xhp (k : p := by exact ⟨d, trivial, sbZ, ER⟩) : p := k
theorem xhq (g : q) (k : Bq q → p := by (intro zq; refine VG (VI (light_idxA n Z Z Z Z Z Z hn) ?_); exact zq.v)) : p := k ⟨g⟩
theorem xhr (g : q) (k : Bq q → p := by (intro zq; refine VG (VI (LB (pv := [(0, .int .i64 s), (1, .int .i64 t)]) (markCs (s, t)) Z Z Z Z Z) ?_); exact zq.v)) : p := k ⟨g⟩
theorem xhs (k : p := by exact CR (Ret.int 8 Z Z yar out ⟨rfl, by rw [e]⟩)) : p := k
theorem xht (g : q) (k : Bq q → p := by (intro zq; refine VA.go (AI Z (light_idxA n Z Z Z Z Z Z hn) ?_); exact zq.v)) : p := k ⟨g⟩
theorem xhu (k : p := by exact CR (Ret.int 4 Z Z Z ER ⟨rfl, Z⟩)) : p := k
theorem xhv (g : q) (k : Bq q → p := by (intro zq; (repeat (first|refine yG (yN ?_)|refine yG (yD 0 rfl rfl rfl rfl rfl ?_)|refine yG (yE rfl rfl rfl (RdL.blk hb rfl) ?_))); exact zq.v)) : p := k ⟨g⟩
theorem xhw (g : q) (k : Bq q → p := by (intro zq; refine VA.go (VA.offO Z Z ?_); exact zq.v)) : p := k ⟨g⟩
theorem xhx (g : q) (k : Bq q → p := by (intro zq; refine VA.go (AY 19 false Z Z ?_); exact zq.v)) : p := k ⟨g⟩
theorem xhy (g : q) (k : Bq q → p := by (intro zq; refine VA.go (AY 24 false Z Z ?_); exact zq.v)) : p := k ⟨g⟩
theorem xhz (g : q) (k : Bq q → p := by (intro zq; refine VA.go (AY 29 false Z Z ?_); exact zq.v)) : p := k ⟨g⟩
theorem xia (g : q) (k : Bq q → p := by (intro zq; refine VA.go (AY 38 false Z Z ?_); exact zq.v)) : p := k ⟨g⟩
theorem xib (g : q) (k : Bq q → p := by (intro zq; refine VA.go (AY 43 false Z Z ?_); exact zq.v)) : p := k ⟨g⟩
theorem xic (g : q) (k : Bq q → p := by (intro zq; refine VA.go (AY 48 false Z Z ?_); exact zq.v)) : p := k ⟨g⟩
theorem xid (g : q) (k : Bq q → p := by (intro zq; refine VA.go (AY 54 false Z Z ?_); exact zq.v)) : p := k ⟨g⟩
theorem xie (g : q) (k : Bq q → p := by (intro zq; refine VA.go (VA.ldA 0 f.1.op.cells Z Z Z Z Z ?_); exact zq.v)) : p := k ⟨g⟩
theorem xif (g : q) (k : Bq q → p := by (intro zq; refine VA.go (AI Z (light_idxA n Z Z Z Z Z hcl hn) ?_); exact zq.v)) : p := k ⟨g⟩
theorem xig (k : p := by exact CR (Ret.int 6 Z Z yar out ⟨rfl, by rw [e]⟩)) : p := k
theorem xih (g : q) (k : Bq q → p := by (intro zq; refine VG (VL 0 (fmc f) Z Z Z Z ?_); exact zq.v)) : p := k ⟨g⟩
theorem xii (k : p := by exact CR (Ret.int 6 Z Z yar (L' := [_]) Imp.tl.ent ⟨rfl, by rw [e]⟩)) : p := k
theorem xij (g : q) (k : Bq q → p := by (intro zq; refine CD (ts 0 8 (.only 8 (.only 9 (ts 10 2 (.only 12 .nil))))) yn yq ?_; exact zq.v)) : p := k ⟨g⟩
theorem xik (g : q) (k : Bq q → p := by (intro zq; (repeat (first|refine yG (yN ?_)|refine yG (yD 0 rfl rfl rfl rfl rfl ?_)|refine yG (yE rfl rfl rfl (RdL.blk h rfl) ?_))); exact zq.v)) : p := k ⟨g⟩
theorem xil (g : q) (k : Bq q → p := by (intro zq; refine VA.go (VA.load Z Z Z (RdL.blkA (ds := R.ch.cells x.a x.c) h Z) ?_); exact zq.v)) : p := k ⟨g⟩
theorem xim (g : q) (k : Bq q → p := by (intro zq; refine CS (CD (.take 0 (.only 1 (ts 2 5 (ts 8 4 (.only 7 (ts 12 3 .nil)))))) yn yq ?_); exact zq.v)) : p := k ⟨g⟩
theorem xin (g : q) (k : Bq q → p := by (intro zq; refine VA.go (AR (fun Fr w hF hs hS => in_spec Fr w (h.of hF hs)) Z Z yr ?_); exact zq.v)) : p := k ⟨g⟩
theorem xio (g : q) (k : Bq q → p := by (intro zq; (repeat (first|refine yG (yN ?_)|refine yG (yE rfl rfl rfl (RdL.blk h rfl) ?_)|refine yG (yU rfl rfl rfl rfl ?_))); exact zq.v)) : p := k ⟨g⟩
theorem xip (k : p := by exact Ret.void Z (IP 1 Z Imp.nil).ent ⟨rfl, Z⟩) : p := k
theorem xiq (k : p := by exact ⟨(), trivial, SC Z (SC Z (SC Z (Sub.int Z (by rw [hd]; rfl) (SN _)))), ER⟩) : p := k
theorem xir (g : q) (k : Bq q → p := by (intro zq; (repeat (first|refine zS ?_|refine zR ?_|refine zB ?_|refine zL ?_|refine zC ?_|refine zG (zN ?_)|refine zG (zE rfl rfl (RdL.blk hb rfl) ?_)|refine zG (zU rfl rfl rfl ?_))); exact zq.v)) : p := k ⟨g⟩
theorem xis (g : q) (k : Bq q → p := by (intro zq; refine VC.opn 0 Z (HOpn.rep p R) ?_; exact zq.v)) : p := k ⟨g⟩
theorem xit (g : q) (k : Bq q → p := by (intro zq; refine VG (VV (fun Fr w hF hs hS => tail_spec Fr w (hS.blk 0 Z) (RwIn.slH memC_len (hS.at_ 1 Z)) ok.ch) Z ?_); exact zq.v)) : p := k ⟨g⟩
theorem xiu (g : q) (k : Bq q → p := by (intro zq; refine VG (VV (fun Fr w hF hs hS => Win.done_spec Fr w (hS.blk 3 Z) w0) Z ?_); exact zq.v)) : p := k ⟨g⟩
theorem xiv (g : q) (k : Bq q → p := by (intro zq; refine VG (VV (fun Fr w hF hs hS => Win.last_spec Fr w (hS.blk 3 Z) w0) Z ?_); exact zq.v)) : p := k ⟨g⟩
theorem xiw (g : q) (k : Bq q → p := by (intro zq; (repeat (first|refine yG (yN ?_)|refine yG (yD 0 rfl rfl rfl rfl rfl ?_)|refine yG (yD 1 rfl rfl rfl rfl rfl ?_)|refine yG (yD 2 rfl rfl rfl rfl rfl ?_)|refine yG (yD 3 rfl rfl rfl rfl rfl ?_)|refine yG (yD 4 rfl rfl rfl rfl rfl ?_)|refine yG (yD 5 rfl rfl rfl rfl rfl ?_)|refine yG (yD 6 rfl rfl rfl rfl rfl ?_)|refine yG (yD 7 rfl rfl rfl rfl rfl ?_))); exact zq.v)) : p := k ⟨g⟩
theorem xix (g : q) (k : Bq q → p := by (intro zq; refine CS (CD (ts 0 2 (.only 2 .nil)) yn yq ?_); exact zq.v)) : p := k ⟨g⟩
theorem xiy (g : q) (k : Bq q → p := by (intro zq; refine VA.go (VA.ldA 6 (resC resZ) Z Z Z Z Z ?_); exact zq.v)) : p := k ⟨g⟩
theorem xiz (g : q) (k : Bq q → p := by (intro zq; refine VA.go (AT (vs := resC resZ) 6 Z Z Z Z Z (NR _) Z Z Z yr ?_); exact zq.v)) : p := k ⟨g⟩
theorem xja (g : q) (k : Bq q → p := by (intro zq; (repeat (first|refine zS ?_|refine zR ?_|refine zB ?_|refine zL ?_|refine zC ?_|refine zG (zN ?_)|refine zG (zD 0 rfl rfl rfl rfl ?_)|refine zG (zD 1 rfl rfl rfl rfl ?_)|refine zG (zD 2 rfl rfl rfl rfl ?_)|refine zG (zD 3 rfl rfl rfl rfl ?_)|refine zG (zD 4 rfl rfl rfl rfl ?_)|refine zG (zD 5 rfl rfl rfl rfl ?_)|refine zG (zD 6 rfl rfl rfl rfl ?_)|refine zG (zD 7 rfl rfl rfl rfl ?_))); exact zq.v)) : p := k ⟨g⟩
theorem xjb (k : p := by exact ⟨(), trivial, SC Z (SC Z (SC Z (SC Z (SC Z (SC Z (SC Z (Sub.bl Z Z (SN _)))))))), ER⟩) : p := k
theorem xjc (g : q) (k : Bq q → p := by (intro zq; refine CD (ts 0 10 (.only 10 .nil)) yn yq ?_; exact zq.v)) : p := k ⟨g⟩
theorem xjd (g : q) (k : Bq q → p := by (intro zq; refine VC.opn 1 Z (HOpn.rep p R) ?_; exact zq.v)) : p := k ⟨g⟩
theorem xje (g : q) (k : Bq q → p := by (intro zq; refine VC.block ?_; exact zq.v)) : p := k ⟨g⟩
theorem xjf (g : q) (k : Bq q → p := by (intro zq; refine VG (VV (fun Fr w hF hs hS => known_spec Fr w (hS.blk 0 Z) f _) Z ?_); exact zq.v)) : p := k ⟨g⟩
theorem xjg (g : q) (k : Bq q → p := by (intro zq; (repeat (first|refine zS ?_|refine zR ?_|refine zB ?_|refine zL ?_|refine zC ?_|refine zG (zN ?_)|refine zG (zD 0 rfl rfl rfl rfl ?_)|refine zG (zD 1 rfl rfl rfl rfl ?_)|refine zG (zD 2 rfl rfl rfl rfl ?_)|refine zG (zD 3 rfl rfl rfl rfl ?_)|refine zG (zD 4 rfl rfl rfl rfl ?_)|refine zG (zD 5 rfl rfl rfl rfl ?_)|refine zG (zD 6 rfl rfl rfl rfl ?_))); exact zq.v)) : p := k ⟨g⟩
theorem xjh (g : q) (k : Bq q → p := by (intro zq; (repeat (first|refine yG (yN ?_)|refine yG (yD 0 rfl rfl rfl rfl rfl ?_)|refine yG (yD 1 rfl rfl rfl rfl rfl ?_)|refine yG (yD 2 rfl rfl rfl rfl rfl ?_)|refine yG (yD 3 rfl rfl rfl rfl rfl ?_)|refine yG (yD 4 rfl rfl rfl rfl rfl ?_)|refine yG (yD 5 rfl rfl rfl rfl rfl ?_)|refine yG (yD 6 rfl rfl rfl rfl rfl ?_))); exact zq.v)) : p := k ⟨g⟩
theorem xji (k : p := by exact ⟨h.ch, h.win, h.last, h.logc, h.logi, h.rc0, h.rc1, h.rl, h.rn0, h.rn1, h.rcl, h.calls, h.wf⟩) : p := k
theorem xjj (g : q) (k : Bq q → p := by (intro zq; refine CD (ts 0 5 (.two 5 9 (ts 6 3 (.only 9 (.only 10 (.take 11 .nil)))) (.only 5 (ts 6 3 (.only 10 (.take 11 .nil)))))) yn yq ?_; exact zq.v)) : p := k ⟨g⟩
theorem xjk (g : q) (k : Bq q → p := by (intro zq; refine VA.go (AT (vs := resC (logRes R.log e)) 0 Z Z Z Z Z (NR _) Z Z Z yr ?_); exact zq.v)) : p := k ⟨g⟩
theorem xjl (g : q) (k : Bq q → p := by (intro zq; refine VG (VV (fun Fr w hF hs hS => Rep.next_spec Fr w (hS.blk 0 Z) (RwIn.slH memC_len (hS.at_ 1 Z)) ok.ch) Z ?_); exact zq.v)) : p := k ⟨g⟩
theorem xjm (g : q) (k : Bq q → p := by (intro zq; refine VA.go (AI Z (LB (pv := [(0, .int .i64 (R.log.length + 1)), (1, .int .i64 (nextF R now).client), (2, .int .i64 (nextF R now).seq), (3, .agg (nextF R now).op.cells.toArray)]) (entC (nextE R now)) Z Z Z yn Z) ?_); exact zq.v)) : p := k ⟨g⟩
theorem xjn (g : q) (k : Bq q → p := by (intro zq; refine VA.go (AT (vs := resC (logRes R.log (nextE R now))) 0 Z Z Z Z Z (NR _) Z Z Z yr ?_); exact zq.v)) : p := k ⟨g⟩
theorem xjo (g : q) (k : Bq q → p := by (intro zq; refine VG (VI (light_makeFunc (u := [.pointer (some ⟨ob, 0, none⟩)]) (v := []) Z Z) ?_); exact zq.v)) : p := k ⟨g⟩
theorem xjp (g : q) (k : Bq q → p := by (intro zq; refine VG (VD Z Z ((hrd 0 Z).1 _ Z Z) ?_); exact zq.v)) : p := k ⟨g⟩
theorem xjq (g : q) (k : Bq q → p := by (intro zq; refine VG (VT (vs := rdC g) 0 Z Z Z Z (NR _) Z Z Z ?_); exact zq.v)) : p := k ⟨g⟩
theorem xjr (k : p := by exact CR (Ret.cell 2 Z Z Z (RdL.many 1 Z Z) (IP 0 Z Imp.nil).ent ⟨a', c', Z, Z⟩)) : p := k
theorem xjs (g : q) (k : Bq q → p := by (intro zq; refine VG (VK (Lc := []) (fun Fr w hF hs _ => copied_spec Fr w (hm.of hF hs) ye) Z Z ?_); exact zq.v)) : p := k ⟨g⟩
theorem xjt (g : q) (k : Bq q → p := by (intro zq; refine VG (VO.st 0 (cs' := repCs { ent2 R c with whole := false } y) Z Z Z Z ybk Z Z ?_); exact zq.v)) : p := k ⟨g⟩
theorem xju (g : q) (k : Bq q → p := by (intro zq; refine VG (VI (LB (pv := []) (chZ.cells none 0) Z Z Z yn Z) ?_); exact zq.v)) : p := k ⟨g⟩
theorem xjv (g : q) (k : Bq q → p := by (intro zq; refine VG (VT (vs := chZ.cells none 0) (cs' := chZ.cells none 0) 0 Z Z Z Z (NR _) Z Z Z ?_); exact zq.v)) : p := k ⟨g⟩
theorem xjw (g : q) (k : Bq q → p := by (intro zq; refine VG (VI (LB (pv := [(0, .int .i64 i), (1, .int .i64 1)]) (memC ((i : Int), 1)) Z Z Z yn Z) ?_); exact zq.v)) : p := k ⟨g⟩
theorem xjx (g : q) (k : Bq q → p := by (intro zq; refine VG (VT (vs := [.int .i64 1, .slice a' c.chain.toNat c', .int .i64 (-1)]) (cs' := [.int .i64 1, .slice a' c.chain.toNat c', .int .i64 (-1)]) 1 Z Z Z Z (NR _) Z Z Z ?_); exact zq.v)) : p := k ⟨g⟩
theorem xjy (g : q) (k : Bq q → p := by (intro zq; refine VG (VY 24 true Z Z ?_); exact zq.v)) : p := k ⟨g⟩
theorem xjz (g : q) (k : Bq q → p := by (intro zq; refine CR (Ret.tmp2 6 7 Z Z Z Imp.nil.ent ?_); exact zq.v)) : p := k ⟨g⟩
theorem xka (g : q) (k : Bq q → p := by (intro zq; (repeat (first|refine yG (yN ?_)|refine yG (yD 0 rfl rfl rfl rfl rfl ?_)|refine yG (yD 1 rfl rfl rfl rfl rfl ?_)|refine yG (yD 2 rfl rfl rfl rfl rfl ?_)|refine yG (yD 3 rfl rfl rfl rfl rfl ?_)|refine yG (yD 4 rfl rfl rfl rfl rfl ?_)|refine yG (yD 5 rfl rfl rfl rfl rfl ?_)|refine yG (yD 6 rfl rfl rfl rfl rfl ?_)|refine yG (yD 7 rfl rfl rfl rfl rfl ?_)|refine yG (yU rfl rfl rfl rfl ?_))); exact zq.v)) : p := k ⟨g⟩
theorem xkb (g : q) (k : Bq q → p := by (intro zq; refine VG (VL 7 (fgC f (ma, ms.length, mc)) Z Z Z Z ?_); exact zq.v)) : p := k ⟨g⟩
theorem xkc (g : q) (k : Bq q → p := by (intro zq; refine VO.ent (L' := [repH p R, outH ob []]) shut ?_; exact zq.v)) : p := k ⟨g⟩
theorem xkd (k : p := by exact ⟨(), trivial, sbZ, none_ hT⟩) : p := k
theorem xke (g : q) (k : Bq q → p := by (intro zq; refine VG (VV (fun Fr w hF hs hS => Rep.prev_spec Fr w (hS.blk 0 Z) (RwIn.slH memC_len (hS.at_ 1 Z)) ok.ch) Z ?_); exact zq.v)) : p := k ⟨g⟩
theorem xkf (g : q) (k : Bq q → p := by (intro zq; refine VG (VI (light_idx 0 Z Z Z Z Z ye ybp) ?_); exact zq.v)) : p := k ⟨g⟩
theorem xkg (g : q) (k : Bq q → p := by (intro zq; (repeat (first|refine zS ?_|refine zR ?_|refine zB ?_|refine zL ?_|refine zC ?_|refine zG (zN ?_)|refine zG (zD 0 rfl rfl rfl rfl ?_)|refine zG (zD 1 rfl rfl rfl rfl ?_)|refine zG (zD 2 rfl rfl rfl rfl ?_)|refine zG (zD 3 rfl rfl rfl rfl ?_)|refine zG (zU rfl rfl rfl ?_))); exact zq.v)) : p := k ⟨g⟩
theorem xkh (g : q) (k : Bq q → p := by (intro zq; refine VG (VO.callV (fun Fr w => within_spec Fr w _ _ _) Z ?_); exact zq.v)) : p := k ⟨g⟩
theorem xki (g : q) (k : Bq q → p := by (intro zq; refine VG (VY 73 false Z Z ?_); exact zq.v)) : p := k ⟨g⟩
theorem xkj (g : q) (k : Bq q → p := by (intro zq; refine VG (VY 78 false Z Z ?_); exact zq.v)) : p := k ⟨g⟩
theorem xkk (g : q) (k : Bq q → p := by (intro zq; refine VG (VO.ld 0 Z Z Z Z ?_); exact zq.v)) : p := k ⟨g⟩
theorem xkl (g : q) (k : Bq q → p := by (intro zq; refine VG (VV (fun Fr w hF hs hS => rat_spec Fr w (h.of hF hs) hl n) Z ?_); exact zq.v)) : p := k ⟨g⟩
theorem xkm (g : q) (k : Bq q → p := by (intro zq; refine VG (VV (fun Fr w hF hs hS => rchk_spec Fr w (h.of hF hs) hl) Z ?_); exact zq.v)) : p := k ⟨g⟩
theorem xkn (g : q) (k : Bq q → p := by (intro zq; (repeat (first|refine zS ?_|refine zR ?_|refine zB ?_|refine zL ?_|refine zC ?_|refine zG (zN ?_)|refine zG (zU rfl rfl rfl ?_))); exact zq.v)) : p := k ⟨g⟩
theorem xko (g : q) (k : Bq q → p := by (intro zq; refine VA.go (AO (OpT.append (m := r.xs.length - k) (news := flat rcC (r.xs.drop k)) 0 rfl rfl rfl rfl rfl rfl rfl (RL.rdFrom (t := rcT) rcC_len hrok 2 rfl hk) (flat_all rcC_one _) (small_bytes (k := 200002) ye yy) ye) rfl (fun v L' h => by obtain ⟨a4, c4, rfl, hc4, rfl⟩ := h; exact ybt) ?_); exact zq.v)) : p := k ⟨g⟩
theorem xkp (k : p := by exact CR (Ret.tmp 4 Z Z ER ⟨r.xs.take k ++ [x] ++ r.xs.drop k, a4, c4, hins, by rw [e1]; omega, by rw [e1], Z⟩)) : p := k
theorem xkq (g : q) (k : Bq q → p := by (intro zq; refine VG (VT (vs := resC resZ) (cs' := resC resZ) 0 Z Z Z Z (NR _) Z Z Z ?_); exact zq.v)) : p := k ⟨g⟩
theorem xkr (k : p := by exact CR (same 0 Z Z Z Z Z (IP 2 Z Imp.nil).ent hk)) : p := k
theorem xks (g : q) (k : Bq q → p := by (intro zq; refine VA.go (AT (vs := resC (kvLook S o.key i)) (cs' := resC (kvLook S o.key i)) 1 Z Z Z Z Z (NR _) Z Z Z yu ?_); exact zq.v)) : p := k ⟨g⟩
theorem xkt (k : p := by exact CR (same 1 Z Z Z Z Z (IP 3 Z Imp.nil).ent hk)) : p := k
theorem xku (g : q) (k : Bq q → p := by (intro zq; refine VG (VT (vs := entC entZ) (cs' := entC entZ) 0 Z Z Z Z (NR _) Z Z Z ?_); exact zq.v)) : p := k ⟨g⟩
theorem xkv (k : p := by exact CR (Ret.cellTmp 4 5 Z Z Z (RdL.many 0 Z Z) Z Imp.nil.ent ⟨by rw [atI_none (.inl h1)]; rfl, Z⟩)) : p := k
theorem xkw (g : q) (k : Bq q → p := by (intro zq; (repeat (first|refine zS ?_|refine zR ?_|refine zB ?_|refine zL ?_|refine zC ?_|refine zG (zN ?_)|refine zG (zD 0 rfl rfl rfl rfl ?_)|refine zG (zE rfl rfl (RdL.blk hb rfl) ?_)|refine zG (zU rfl rfl rfl ?_))); exact zq.v)) : p := k ⟨g⟩
theorem xkx (g : q) (k : Bq q → p := by (intro zq; refine VG (VI (light_idx i Z Z Z Z Z Z hk) ?_); exact zq.v)) : p := k ⟨g⟩
theorem xky (g : q) (k : Bq q → p := by (intro zq; refine VA.go (AI Z (light_idx k Z Z Z Z Z hfk hk) ?_); exact zq.v)) : p := k ⟨g⟩
theorem xkz (g : q) (k : Bq q → p := by (intro zq; refine VA.ent (L' := slH 46 29 a2 (r.xs ++ [f]).length c2 (flat fmc (r.xs ++ [f])) :: pt nb (fmc f) 46 :: pt b (fmc f) 46 :: rfL p S s) (Imp.of_eq (by rw [← hnf]; rfl)).ent ?_; exact zq.v)) : p := k ⟨g⟩
theorem xla (g : q) (k : Bq q → p := by (intro zq; refine VA.go (VA.st 4 Z Z Z Z Z hkq (cs' := (s.rows.map RL.v).set k r'.v) ybx Z yr (VA.go (AN ?_))); exact zq.v)) : p := k ⟨g⟩
theorem xlb (g : q) (k : Bq q → p := by (intro zq; refine VA.go (AO (OpT.makeSlice qs.length Z Z Z Z Z ye ybz) Z (fun v L' _ => yr) ?_); exact zq.v)) : p := k ⟨g⟩
theorem xlc (g : q) (k : Bq q → p := by (intro zq; refine VA.go (AI Z (LB (pv := [(0, .int .i64 cap), (1, .slice a qs.length qc), (2, .slice (some ⟨qb, 0, none⟩) qs.length qs.length), (3, .slice (some ⟨cb, 0, none⟩) qs.length qs.length), (4, .slice (some ⟨sb, 0, none⟩) qs.length qs.length), (6, .bool true)]) [.int .i64 cap, .slice a qs.length qc, .slice (some ⟨qb, 0, none⟩) qs.length qs.length, .slice (some ⟨cb, 0, none⟩) qs.length qs.length, .slice (some ⟨sb, 0, none⟩) qs.length qs.length, .int .i64 0, .bool true] Z Z Z Z Z) ?_); exact zq.v)) : p := k ⟨g⟩
theorem xld (g : q) (k : Bq q → p := by (intro zq; refine VA.go (AO (OpT.box Z Z) Z (fun v L' _ => yr) ?_); exact zq.v)) : p := k ⟨g⟩
theorem xle (g : q) (k : Bq q → p := by (intro zq; refine VA.go (AO (OpT.makeSlice qs.length Z Z Z Z Z ye yby) Z (fun v L' _ => yr) ?_); exact zq.v)) : p := k ⟨g⟩
theorem xlf (g : q) (k : Bq q → p := by (intro zq; refine VG (VL 2 (c.cells a cap) Z Z Z Z ?_); exact zq.v)) : p := k ⟨g⟩
theorem xlg (g : q) (k : Bq q → p := by (intro zq; (repeat (first|refine zS ?_|refine zR ?_|refine zB ?_|refine zL ?_|refine zC ?_|refine zG (zN ?_)|refine zG (zD 0 rfl rfl rfl rfl ?_)|refine zG (zD 1 rfl rfl rfl rfl ?_)|refine zG (zD 2 rfl rfl rfl rfl ?_)|refine zG (zD 3 rfl rfl rfl rfl ?_))); exact zq.v)) : p := k ⟨g⟩
theorem xlh (g : q) (k : Bq q → p := by (intro zq; refine VG (VK (Lc := []) (fun Fr w hF hs hS => cells_spec Fr w ⟨hb.of hF hs, RwIn.of hx.ents hF hs⟩ hnum hl) Z Z ?_); exact zq.v)) : p := k ⟨g⟩
theorem xli (g : q) (k : Bq q → p := by (intro zq; (repeat (first|refine zS ?_|refine zR ?_|refine zB ?_|refine zL ?_|refine zC ?_|refine zG (zN ?_)|refine zG (zE rfl rfl (RdL.blk hb2 rfl) ?_))); exact zq.v)) : p := k ⟨g⟩
theorem xlj (g : q) (k : Bq q → p := by (intro zq; refine VA.go (VA.st 2 Z Z Z Z Z (by show 0 < 1; decide) (cs' := [.slice a2 (es ++ [e]).length c2]) ycb Z yr (VA.go (AN ?_))); exact zq.v)) : p := k ⟨g⟩
theorem xlk (k : p := by exact ⟨(), trivial, sbZ, Imp.ent (Imp.rlog (es := es ++ [e]) (a2, c2) (IP 2 Z (IP 0 (congrArg some e1) (IP 2 Z Imp.nil))))⟩) : p := k
theorem xll (g : q) (k : Bq q → p := by (intro zq; refine VA.go (VA.st 2 (cs' := [.int .i64 R.cap, .slice a2 (r.xs ++ [z]).length c2, .int .i64 (R.last + 1)]) Z Z Z Z Z (Nat.le_of_ble_eq_true Z) ycb Z yr (VA.go (AN ?_))); exact zq.v)) : p := k ⟨g⟩
theorem xlm (k : p := by exact ⟨(a2, c2), trivial, sbZ, Imp.ent (IP 2 Z (IP 0 (congrArg some e1) Imp.nil))⟩) : p := k
theorem xln (g : q) (k : Bq q → p := by (intro zq; refine VG (VI (light_idx j Z Z Z Z Z Z hj2) ?_); exact zq.v)) : p := k ⟨g⟩
theorem xlo (g : q) (k : Bq q → p := by (intro zq; refine VG (VD Z Z (v := .agg (fmc (f, m)).toArray) (RdL.many (i + 6) (t := 46) (cs := r.cells) hrowk hrow) ?_); exact zq.v)) : p := k ⟨g⟩
theorem xlp (g : q) (k : Bq q → p := by (intro zq; refine Imp.trans (IP 1 Z (IP 1 Z (IP 1 Z (IP 1 Z (rfR_put (r' := r') hki))))) (Imp.of_eq ?_); exact zq.v)) : p := k ⟨g⟩
theorem xlq (k : p := by exact ⟨(), trivial, by simpa [h1] using tail Z Z Z Z Z (by simp [h1, hs]), ER⟩) : p := k
theorem xlr (g : q) (k : Bq q → p := by (intro zq; refine VG (VI (light_idx i Z Z Z Z Z Z h1) ?_); exact zq.v)) : p := k ⟨g⟩
theorem xls (g : q) (k : Bq q → p := by (intro zq; refine VA.go (AY 34 false Z Z ?_); exact zq.v)) : p := k ⟨g⟩
theorem xlt (g : q) (k : Bq q → p := by (intro zq; refine VA.go (AY 53 false Z Z ?_); exact zq.v)) : p := k ⟨g⟩
theorem xlu (g : q) (k : Bq q → p := by (intro zq; refine VA.go (AY 59 false Z Z ?_); exact zq.v)) : p := k ⟨g⟩
theorem xlv (g : q) (k : Bq q → p := by (intro zq; refine VA.go (AI Z (light_idx i Z Z Z Z Z Z h1) ?_); exact zq.v)) : p := k ⟨g⟩
theorem xlw (g : q) (k : Bq q → p := by (intro zq; refine VA.go (AR (fun Fr w hF hs _ => nplace_spec Fr w (h.of' hF hs) (RwIn.of hm hF hs) hl) Z Z yr ?_); exact zq.v)) : p := k ⟨g⟩
theorem xlx (g : q) (k : Bq q → p := by (intro zq; (repeat (first|refine yG (yN ?_))); exact zq.v)) : p := k ⟨g⟩
theorem xly (g : q) (k : Bq q → p := by (intro zq; refine VC.opn 1 Z (HOpn.nm p C ca cc m n) ?_; exact zq.v)) : p := k ⟨g⟩
theorem xlz (g : q) (k : Bq q → p := by (intro zq; refine VA.go (AI Z (LB (pv := [(0, .int .i64 to), (1, .agg (fgC f mem0).toArray)]) (sndC (to, f)) Z Z Z yn Z) ?_); exact zq.v)) : p := k ⟨g⟩
theorem xma (g : q) (k : Bq q → p := by (intro zq; refine VG (VI (LB (pv := [(0, .int .i64 2), (2, .int .i64 c), (3, .int .i64 s), (4, .int .i64 t), (8, .agg (resC r).toArray)]) (fgC (replyF c s t r) mem0) Z Z Z yn Z) ?_); exact zq.v)) : p := k ⟨g⟩
theorem xmb (k : p := by exact Ret.void Z (IP 0 Z Imp.nil).ent ⟨rfl, Z⟩) : p := k
theorem xmc (g : q) (k : Bq q → p := by (intro zq; refine VC.opn 0 Z (HOpn.nm p C ca cc m n) ?_; exact zq.v)) : p := k ⟨g⟩
theorem xmd (g : q) (k : Bq q → p := by (intro zq; refine VG (VV (fun Fr w hF hs hS => ndrains_spec Fr w (NmIn.pcs hS 0 Z Z Z Z) (RwIn.of hm hF hs) ok.ms) Z ?_); exact zq.v)) : p := k ⟨g⟩
theorem xme (g : q) (k : Bq q → p := by (intro zq; refine VG (VV (fun Fr w hF hs hS => nlast_spec Fr w (NmIn.pcs hS 0 Z Z Z Z)) Z ?_); exact zq.v)) : p := k ⟨g⟩
theorem xmf (g : q) (k : Bq q → p := by (intro zq; refine VA.go (AR (fun Fr w hF hs hS => nlast_spec Fr w (NmIn.pcs hS 0 Z Z Z Z)) Z Z yr ?_); exact zq.v)) : p := k ⟨g⟩
theorem xmg (g : q) (k : Bq q → p := by (intro zq; refine VG (VV (fun Fr w hF hs hS => nplace_spec Fr w (NmIn.pcs hS 0 Z Z Z Z) (RwIn.of hm hF hs) ms) Z ?_); exact zq.v)) : p := k ⟨g⟩
theorem xmh (k : p := by exact CR (Ret.bool 4 Z Z e.symm (Imp.nmB Imp.nil).ent ⟨rfl, by rw [NdM.ack, e]; rfl⟩)) : p := k
theorem xmi (g : q) (k : Bq q → p := by (intro zq; refine CD (ts 0 8 (.two 8 12 (ts 9 3 (.only 12 (.only 13 (.take 14 .nil)))) (.only 8 (ts 9 3 (.only 13 (.take 14 .nil)))))) yn yq ?_; exact zq.v)) : p := k ⟨g⟩
theorem xmj (g : q) (k : Bq q → p := by (intro zq; refine VA.go (AT (vs := entC e) (cs' := entC e) 0 Z Z Z Z Z (NR _) Z Z Z yr ?_); exact zq.v)) : p := k ⟨g⟩
theorem xmk (k : p := by exact ⟨d, trivial, sbZ, Imp.ent (Imp.trans (IP 1 Z (IP 1 Z (IP 1 Z (IP 1 Z (IP 1 Z Imp.refl))))) (Imp.nmB (n := N1) (y := y) Imp.refl))⟩) : p := k
theorem xml (g : q) (k : Bq q → p := by (intro zq; refine VA.go (AT (vs := resC r) (cs' := resC r) 0 Z Z Z Z Z (NR _) Z Z Z yr ?_); exact zq.v)) : p := k ⟨g⟩
theorem xmm (k : p := by exact ⟨q, trivial, sbZ, Imp.ent (Imp.trans (IP 1 Z (IP 1 Z (IP 1 Z (IP 1 Z (IP 1 Z Imp.refl))))) (Imp.nmB (n := N1) (y := y2) Imp.refl))⟩) : p := k
theorem xmn (g : q) (k : Bq q → p := by (intro zq; refine VA.go (VA.ldA 5 (fmc f) Z Z Z Z Z ?_); exact zq.v)) : p := k ⟨g⟩
theorem xmo (k : p := by exact ⟨hc, k.log, k.num, k.logc, k.ra, k.calls, k.d0, k.d1, by show (0 : Int) ≤ n.log.length; omega, Int.le_refl _, k.w0, k.w1, k.rl, k.rc, k.rn0, k.rn1, k.rcl⟩) : p := k
theorem xmp (k : p := by exact ⟨i + 1, h1, by dsimp only; omega, sbZ, ER⟩) : p := k
theorem xmq (g : q) (k : Bq q → p := by (intro zq; refine VC.opn 0 Z (HOpn.nm p C ca cc m n0) ?_; exact zq.v)) : p := k ⟨g⟩
theorem xmr (g : q) (k : Bq q → p := by (intro zq; refine VG (VV (fun Fr w hF hs hS => nplace_spec Fr w (NmIn.pcs hS 0 Z Z Z Z) (RwIn.of hm0 hF hs) hms0) Z ?_); exact zq.v)) : p := k ⟨g⟩
theorem xmt (g : q) (k : Bq q → p := by (intro zq; refine VO.ent (L' := [nmH p C ca cc m n0]) (Imp.nmB Imp.nil).ent ?_; exact zq.v)) : p := k ⟨g⟩
theorem xmu (k : p := by exact ⟨(), trivial, sbZ, by rw [hT']; exact ER⟩) : p := k
theorem xmv (k : p := by exact ⟨(), trivial, sbZ, miss ycp k8⟩) : p := k
theorem xmw (k : p := by exact ⟨(), trivial, sbZ, miss ycq k8⟩) : p := k
theorem xmx (k : p := by exact ⟨(), trivial, sbZ, by rw [hN1]; exact Imp.ent (Imp.trans Imp.tl (Imp.nmB (n := { n0 with log := logApp n0.log f.entry }) (y := y3) Imp.nil))⟩) : p := k
theorem xmy (g : q) (k : Bq q → p := by (intro zq; (repeat (first|refine zS ?_|refine zR ?_|refine zB ?_|refine zL ?_|refine zC ?_|refine zG (zN ?_))); exact zq.v)) : p := k ⟨g⟩
theorem xmz (k : p := by exact ⟨_, Z, hj.elim .inl fun h => .inr (.inl h), fun m hm => by rw [List.mem_singleton.1 hm]⟩) : p := k
theorem xna (k : p := by exact ⟨(a2, c2), trivial, SC Z (SC Z (SC Z (SC (by rw [hlen]; rfl) (SN _)))), by rw [hlen, hfl]; exact Imp.ent (pkZ [0, 1, 1])⟩) : p := k
theorem xnb (g : q) (k : Bq q → p := by (intro zq; refine VG (VV (fun Fr w hF hs hS => rleaves_spec Fr w (h.of hF hs) ye n) Z ?_); exact zq.v)) : p := k ⟨g⟩
theorem xnc (k : p := by exact one _ e (Option.some.inj h).symm) : p := k
theorem xnd (g : q) (k : Bq q → p := by (intro zq; (repeat (first|refine yG (yN ?_)|refine yG (yE rfl rfl rfl (RdL.blk hb rfl) ?_)|refine yG (yE rfl rfl rfl (RdL.blk hrb rfl) ?_))); exact zq.v)) : p := k ⟨g⟩
theorem xne (g : q) (k : Bq q → p := by (intro zq; refine VA.go (AR (fun Fr w hF hs hS => ndlast_spec Fr w (hx.of' hF hs)) Z Z yw ?_); exact zq.v)) : p := k ⟨g⟩
theorem xnf (g : q) (k : Bq q → p := by (intro zq; refine VG (VT (vs := entC ((atI R.log i).getD entZ)) (cs' := entC ((atI R.log i).getD entZ)) 0 Z Z Z Z (NR _) Z Z Z ?_); exact zq.v)) : p := k ⟨g⟩
theorem xng (g : q) (k : Bq q → p := by (intro zq; refine VG (VT (vs := resC ((atI (logRun R.log).2 i).getD resZ)) (cs' := resC ((atI (logRun R.log).2 i).getD resZ)) 0 Z Z Z Z (NR _) Z Z Z ?_); exact zq.v)) : p := k ⟨g⟩
theorem xnh (g : q) (k : Bq q → p := by (intro zq; (repeat (first|refine yG (yN ?_)|refine yG (yE rfl rfl rfl (RdL.blk hb rfl) ?_)|refine yG (yE rfl rfl rfl (RdL.blk hab rfl) ?_)|refine yG (yE rfl rfl rfl (RdL.blk hsb rfl) ?_))); exact zq.v)) : p := k ⟨g⟩
theorem xni (g : q) (k : Bq q → p := by (intro zq; refine VG (VY 63 true Z Z ?_); exact zq.v)) : p := k ⟨g⟩
theorem xnj (g : q) (k : Bq q → p := by (intro zq; refine VG (VY 71 true Z Z ?_); exact zq.v)) : p := k ⟨g⟩
theorem xnk (g : q) (k : Bq q → p := by (intro zq; (repeat (first|refine yG (yN ?_)|refine yG (yE rfl rfl rfl (RdL.blk hnb rfl) ?_))); exact zq.v)) : p := k ⟨g⟩
theorem xnl (g : q) (k : Bq q → p := by (intro zq; refine VA.go (VA.load Z Z Z (RdL.blkA (ds := n.ch.cells m.1 m.2) hnb Z) ?_); exact zq.v)) : p := k ⟨g⟩
theorem xnm (g : q) (k : Bq q → p := by (intro zq; refine VG (VI (light_rem Z Z ye yy) ?_); exact zq.v)) : p := k ⟨g⟩
theorem xnn (g : q) (k : Bq q → p := by (intro zq; refine VA.go (VA.ldA 1 (fgC x.f (x.ma, x.mn, x.mc)) Z Z Z Z Z ?_); exact zq.v)) : p := k ⟨g⟩
theorem xno (g : q) (k : Bq q → p := by (intro zq; refine VA.go (AT (vs := fgC x.f (x.ma, x.mn, x.mc)) (cs' := fgC x.f (x.ma, x.mn, x.mc)) 0 Z Z Z Z Z (NR _) Z Z Z yr (VA.go (AN ?_))); exact zq.v)) : p := k ⟨g⟩
theorem xnp (k : p := by exact CR (Ret.tmpCell 4 5 Z Z Z Z (RdL.many (ds := fgC x.f (x.ma, x.mn, x.mc)) 0 Z Z) (Imp.hp Imp.nil).ent ⟨(x.ma, x.mc), hpure True, by rw [hA, ← hx], Z, .inr ⟨rfl, by rw [hA]; exact .inl ⟨rfl, Z⟩⟩⟩)) : p := k
theorem xnq (g : q) (k : Bq q → p := by (intro zq; refine VA.go (AI Z (light_rem Z Z ye yy) ?_); exact zq.v)) : p := k ⟨g⟩
theorem xnr (g : q) (k : Bq q → p := by (intro zq; refine VG (VO.callV (fun Fr w => led_spec Fr w) Z ?_); exact zq.v)) : p := k ⟨g⟩
theorem xns (k : p := by exact CR (Ret.bool 6 Z Z Z Imp.nil.ent ⟨rfl, Z⟩)) : p := k
theorem xnt (g : q) (k : Bq q → p := by (intro zq; refine VG (VI (light_fld Tryz.underlying36 Z Z Z Z Z) ?_); exact zq.v)) : p := k ⟨g⟩
theorem znu (g : q) (k : Bq q → p := by (intro zq; refine xdj ?_; refine xds ?_; exact zq.v)) : p := k ⟨g⟩
theorem znv (g : q) (k : Bq q → p := by (intro zq; refine znu ?_; refine xdj ?_; exact zq.v)) : p := k ⟨g⟩
theorem znw (g : q) (k : Bq q → p := by (intro zq; refine xdw ?_; refine xdj ?_; exact zq.v)) : p := k ⟨g⟩
theorem znx (g : q) (k : Bq q → p := by (intro zq; refine xdj ?_; refine xdn ?_; exact zq.v)) : p := k ⟨g⟩
theorem zny (g : q) (k : Bq q → p := by (intro zq; refine xdj ?_; refine xfj ?_; exact zq.v)) : p := k ⟨g⟩
theorem znz (g : q) (k : Bq q → p := by (intro zq; refine xdv ?_; refine znw ?_; exact zq.v)) : p := k ⟨g⟩
theorem zoa (g : q) (k : Bq q → p := by (intro zq; refine xkn ?_; refine xds ?_; exact zq.v)) : p := k ⟨g⟩
theorem zob (g : q) (k : Bq q → p := by (intro zq; refine xdv ?_; refine xdn ?_; exact zq.v)) : p := k ⟨g⟩
theorem zoc (g : q) (k : Bq q → p := by (intro zq; refine zoa ?_; refine xkn ?_; exact zq.v)) : p := k ⟨g⟩
theorem zod (g : q) (k : Bq q → p := by (intro zq; refine xib ?_; refine xic ?_; exact zq.v)) : p := k ⟨g⟩
theorem zoe (g : q) (k : Bq q → p := by (intro zq; refine xhw ?_; refine xdr ?_; exact zq.v)) : p := k ⟨g⟩
theorem zof (g : q) (k : Bq q → p := by (intro zq; refine xdj ?_; refine xkh ?_; exact zq.v)) : p := k ⟨g⟩
theorem zog (g : q) (k : Bq q → p := by (intro zq; refine xhw ?_; refine yG (yN ?_); exact zq.v)) : p := k ⟨g⟩
theorem zoh (g : q) (k : Bq q → p := by (intro zq; refine znx ?_; refine xdj ?_; exact zq.v)) : p := k ⟨g⟩
theorem zoi (g : q) (k : Bq q → p := by (intro zq; refine xdj ?_; refine xff ?_; exact zq.v)) : p := k ⟨g⟩
theorem zoj (g : q) (k : Bq q → p := by (intro zq; refine xhn ?_; refine xho ?_; exact zq.v)) : p := k ⟨g⟩
theorem zok (g : q) (k : Bq q → p := by (intro zq; refine xdr ?_; refine xiz ?_; exact zq.v)) : p := k ⟨g⟩
theorem zol (g : q) (k : Bq q → p := by (intro zq; refine zok ?_; refine xdr ?_; exact zq.v)) : p := k ⟨g⟩
theorem zom (g : q) (k : Bq q → p := by (intro zq; refine xdj ?_; refine znw ?_; exact zq.v)) : p := k ⟨g⟩
theorem zon (g : q) (k : Bq q → p := by (intro zq; refine xfu ?_; refine xgw ?_; exact zq.v)) : p := k ⟨g⟩
theorem zoo (g : q) (k : Bq q → p := by (intro zq; refine xhc ?_; refine xhd ?_; exact zq.v)) : p := k ⟨g⟩
theorem zop (g : q) (k : Bq q → p := by (intro zq; refine xix ?_; refine xiy ?_; exact zq.v)) : p := k ⟨g⟩
theorem zoq (g : q) (k : Bq q → p := by (intro zq; refine zop ?_; refine zol ?_; exact zq.v)) : p := k ⟨g⟩
theorem zor (g : q) (k : Bq q → p := by (intro zq; refine xgw ?_; refine xeh ?_; exact zq.v)) : p := k ⟨g⟩
theorem zos (g : q) (k : Bq q → p := by (intro zq; refine zor ?_; refine xkq ?_; exact zq.v)) : p := k ⟨g⟩
theorem zot (g : q) (k : Bq q → p := by (intro zq; refine xhw ?_; refine xlu ?_; exact zq.v)) : p := k ⟨g⟩
theorem zou (g : q) (k : Bq q → p := by (intro zq; refine zot ?_; refine zog ?_; exact zq.v)) : p := k ⟨g⟩
theorem zov (k : p := by (refine zoj ?_; exact xhp)) : p := k
theorem zow (g : q) (k : Bq q → p := by (intro zq; refine xhb ?_; refine zoo ?_; exact zq.v)) : p := k ⟨g⟩
theorem zox (g : q) (k : Bq q → p := by (intro zq; refine xhw ?_; refine xid ?_; exact zq.v)) : p := k ⟨g⟩
theorem zoy (g : q) (k : Bq q → p := by (intro zq; refine zox ?_; refine zoe ?_; exact zq.v)) : p := k ⟨g⟩
theorem zoz (g : q) (k : Bq q → p := by (intro zq; refine xlt ?_; refine zou ?_; exact zq.v)) : p := k ⟨g⟩
theorem zpa (g : q) (k : Bq q → p := by (intro zq; refine xha ?_; refine zow ?_; exact zq.v)) : p := k ⟨g⟩
theorem zpb (k : p := by (refine xdr ?_; exact ⟨rb, trivial, sbZ, ER⟩)) : p := k
theorem zpc (g : q) (k : Bq q → p := by (intro zq; refine xdj ?_; refine xkb ?_; exact zq.v)) : p := k ⟨g⟩
theorem zpd (g : q) (k : Bq q → p := by (intro zq; refine VG (VY 63 false Z Z ?_); refine xhb ?_; exact zq.v)) : p := k ⟨g⟩
theorem zpe (k : p := by (refine xdj ?_; exact xig)) : p := k
theorem zpf (g : q) (k : Bq q → p := by (intro zq; refine xkn ?_; refine VG (VY 54 true Z Z ?_); exact zq.v)) : p := k ⟨g⟩
theorem zpg (g : q) (k : Bq q → p := by (intro zq; refine xgg ?_; refine VA.go (VA.ldA 0 (fmc f) Z Z Z Z Z ?_); exact zq.v)) : p := k ⟨g⟩
theorem zph (k : p := by (refine xkn ?_; exact st hr Z Z Z Z Z (pkZ [1, 0, 0, 0]).ent)) : p := k
theorem zpi (g : q) (k : Bq q → p := by (intro zq; refine xdj ?_; refine xeh ?_; exact zq.v)) : p := k ⟨g⟩
theorem zpj (g : q) (k : Bq q → p := by (intro zq; refine xdr ?_; refine xdj ?_; exact zq.v)) : p := k ⟨g⟩
theorem zpk (g : q) (k : Bq q → p := by (intro zq; refine xgz ?_; refine zpa ?_; exact zq.v)) : p := k ⟨g⟩
theorem zpl (g : q) (k : Bq q → p := by (intro zq; refine xhy ?_; refine xhz ?_; exact zq.v)) : p := k ⟨g⟩
theorem zpm (g : q) (k : Bq q → p := by (intro zq; refine zod ?_; refine zoy ?_; exact zq.v)) : p := k ⟨g⟩
theorem zpn (g : q) (k : Bq q → p := by (intro zq; refine xhw ?_; refine xea ?_; exact zq.v)) : p := k ⟨g⟩
theorem zpo (g : q) (k : Bq q → p := by (intro zq; refine xki ?_; refine xkj ?_; exact zq.v)) : p := k ⟨g⟩
theorem zpp (g : q) (k : Bq q → p := by (intro zq; refine xdv ?_; refine xdw ?_; exact zq.v)) : p := k ⟨g⟩
theorem zpq (g : q) (k : Bq q → p := by (intro zq; refine xdr ?_; refine xlc ?_; exact zq.v)) : p := k ⟨g⟩
theorem zpr (g : q) (k : Bq q → p := by (intro zq; refine zpq ?_; refine xld ?_; exact zq.v)) : p := k ⟨g⟩
theorem zps (g : q) (k : Bq q → p := by (intro zq; refine zos ?_; refine xdj ?_; exact zq.v)) : p := k ⟨g⟩
theorem zpt (g : q) (k : Bq q → p := by (intro zq; refine xfm ?_; refine xkx ?_; exact zq.v)) : p := k ⟨g⟩
theorem zpu (g : q) (k : Bq q → p := by (intro zq; refine xhw ?_; refine zod ?_; exact zq.v)) : p := k ⟨g⟩
theorem zpv (g : q) (k : Bq q → p := by (intro zq; refine zpu ?_; refine zoz ?_; exact zq.v)) : p := k ⟨g⟩
theorem zpw (g : q) (k : Bq q → p := by (intro zq; refine xgw ?_; refine xdv ?_; exact zq.v)) : p := k ⟨g⟩
theorem zpx (g : q) (k : Bq q → p := by (intro zq; refine xhw ?_; refine xfb ?_; exact zq.v)) : p := k ⟨g⟩
theorem zpy (g : q) (k : Bq q → p := by (intro zq; refine xkn ?_; refine xdn ?_; exact zq.v)) : p := k ⟨g⟩
theorem zpz (g : q) (k : Bq q → p := by (intro zq; refine xkn ?_; refine xnj ?_; exact zq.v)) : p := k ⟨g⟩
theorem zqa (g : q) (k : Bq q → p := by (intro zq; refine zpz ?_; refine xkn ?_; exact zq.v)) : p := k ⟨g⟩
theorem zqb (k : p := by (refine xdj ?_; exact CR (Ret.tmp 2 Z Z ER ⟨q, Z, Z⟩))) : p := k
theorem zqc (g : q) (k : Bq q → p := by (intro zq; refine CK ?_; refine xdj ?_; exact zq.v)) : p := k ⟨g⟩
theorem zqd (g : q) (k : Bq q → p := by (intro zq; refine xdj ?_; refine VG (VL 0 (rdC row) Z Z Z Z ?_); exact zq.v)) : p := k ⟨g⟩
theorem zqe (g : q) (k : Bq q → p := by (intro zq; refine xdj ?_; refine VG (VY 6 false Z (DF ye) ?_); exact zq.v)) : p := k ⟨g⟩
end Go.Proofs.YtbbnmgakmcppdaaGreat
