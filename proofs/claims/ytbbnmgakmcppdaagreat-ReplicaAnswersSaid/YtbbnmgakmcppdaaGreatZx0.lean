/- Abbreviations of tactics. No condition. -/
import Derived.OrdersHeld
import Derived.Deep.MidRow
import Derived.Laws.AppendOwn
import Derived.Below
import Derived.WalkKit
import Derived.Scope
import Derived.MapKept
import Derived.Laws.StructEq
import Derived.Laws.BitsAllLaws
import Derived.Test.YtbbnmgakmcppdaaGreatRows
import Derived.KernelRfl
import Derived.Test.YtbbnmgakmcppdaaGreatProg
import Derived.Shelf.SlGeneric
import Derived.Shelf.SlMaps.Clone
import Derived.Laws.LoneSync
import Derived.Lib.Builder
import Derived.Lib.ItoaMem
import Derived.Lib.LaidTab
import Derived.Lib.Join
import Derived.Lib.OthersKept
import Derived.ProofKit
import Derived.OpenShut
import Derived.SizedLaws
import Derived.Carry
import Derived.Deep.Strs
import Derived.Deep.Slices
namespace Go.Proofs.YtbbnmgakmcppdaaGreat
theorem Z {α : Sort _} {a : α} : a = a := rfl
structure Bq (q : Prop) : Prop where
 v : q
variable {p q : Prop}
theorem DF : type_of% @decide_eq_false := @decide_eq_false
theorem DT : type_of% @decide_eq_true := @decide_eq_true
theorem GE : type_of% @List.getElem?_eq_getElem := @List.getElem?_eq_getElem
theorem NR : type_of% @Nat.le_refl := @Nat.le_refl
theorem ME : type_of% @List.mem_of_getElem? := @List.mem_of_getElem?
theorem yu (k : p := by (try refine Pd.st ?_);(repeat (first|exact Pd.nil|exact Pd.fnil|refine Pd.inner ?_|refine Pd.skip (by decide +kernel) ?_|refine zf (zo 0 Z Z) ?_|refine zf (zo 1 Z Z) ?_|refine zf (zo 2 Z Z) ?_|refine zf (zo 3 Z Z) ?_|refine zf (zo 4 Z Z) ?_|refine zf (zo 5 Z Z) ?_|refine zf (zo 6 Z Z) ?_|refine zf (zo 7 Z Z) ?_|refine zf (zo 8 Z Z) ?_|refine zf (zm 0 Z Z) ?_|refine zf (zm 1 Z Z) ?_|refine zf (zm 2 Z Z) ?_|refine zf (zm 3 Z Z) ?_|refine zf (zm 4 Z Z) ?_|refine zf (zm 5 Z Z) ?_|refine zf (zm 6 Z Z) ?_|refine zf (zm 7 Z Z) ?_|refine zf (zm 8 Z Z) ?_|refine zc (zo 0 Z Z) ?_|refine zc (zo 1 Z Z) ?_|refine zc (zo 2 Z Z) ?_|refine zc (zo 3 Z Z) ?_|refine zc (zo 4 Z Z) ?_|refine zc (zo 5 Z Z) ?_|refine zc (zo 6 Z Z) ?_|refine zc (zo 7 Z Z) ?_|refine zc (zo 8 Z Z) ?_|refine zc (zm 0 Z Z) ?_|refine zc (zm 1 Z Z) ?_|refine zc (zm 2 Z Z) ?_|refine zc (zm 3 Z Z) ?_|refine zc (zm 4 Z Z) ?_|refine zc (zm 5 Z Z) ?_|refine zc (zm 6 Z Z) ?_|refine zc (zm 7 Z Z) ?_|refine zc (zm 8 Z Z) ?_|refine Pd.fconsM (MpL.one 0 Z) ?_|refine Pd.fconsM (MpL.one 1 Z) ?_|refine Pd.fconsM (MpL.one 2 Z) ?_|refine Pd.fconsM (MpL.one 3 Z) ?_|refine Pd.fconsM (MpL.one 4 Z) ?_|refine Pd.fconsM (MpL.one 5 Z) ?_|refine Pd.fconsM (MpL.one 6 Z) ?_|refine Pd.fconsM (MpL.one 7 Z) ?_|refine Pd.fconsM (MpL.one 8 Z) ?_|refine Pd.consM (MpL.one 0 Z) ?_|refine Pd.consM (MpL.one 1 Z) ?_|refine Pd.consM (MpL.one 2 Z) ?_|refine Pd.consM (MpL.one 3 Z) ?_|refine Pd.consM (MpL.one 4 Z) ?_|refine Pd.consM (MpL.one 5 Z) ?_|refine Pd.consM (MpL.one 6 Z) ?_|refine Pd.consM (MpL.one 7 Z) ?_|refine Pd.consM (MpL.one 8 Z) ?_))) : p := k
theorem yr (k : p := by (try refine Pd.st ?_);(repeat (first|exact Pd.nil|exact Pd.fnil|refine Pd.inner ?_|refine Pd.skip (by decide +kernel) ?_|refine zf (zo 0 Z Z) ?_|refine zf (zo 1 Z Z) ?_|refine zf (zo 2 Z Z) ?_|refine zf (zo 3 Z Z) ?_|refine zf (zo 4 Z Z) ?_|refine zf (zo 5 Z Z) ?_|refine zf (zo 6 Z Z) ?_|refine zf (zo 7 Z Z) ?_|refine zf (zo 8 Z Z) ?_|refine zf (zm 0 Z Z) ?_|refine zf (zm 1 Z Z) ?_|refine zf (zm 2 Z Z) ?_|refine zf (zm 3 Z Z) ?_|refine zf (zm 4 Z Z) ?_|refine zf (zm 5 Z Z) ?_|refine zf (zm 6 Z Z) ?_|refine zf (zm 7 Z Z) ?_|refine zf (zm 8 Z Z) ?_|refine zc (zo 0 Z Z) ?_|refine zc (zo 1 Z Z) ?_|refine zc (zo 2 Z Z) ?_|refine zc (zo 3 Z Z) ?_|refine zc (zo 4 Z Z) ?_|refine zc (zo 5 Z Z) ?_|refine zc (zo 6 Z Z) ?_|refine zc (zo 7 Z Z) ?_|refine zc (zo 8 Z Z) ?_|refine zc (zm 0 Z Z) ?_|refine zc (zm 1 Z Z) ?_|refine zc (zm 2 Z Z) ?_|refine zc (zm 3 Z Z) ?_|refine zc (zm 4 Z Z) ?_|refine zc (zm 5 Z Z) ?_|refine zc (zm 6 Z Z) ?_|refine zc (zm 7 Z Z) ?_|refine zc (zm 8 Z Z) ?_))) : p := k
theorem ydj (k : p := by (try refine Pd.st ?_);(repeat (first|exact Pd.nil|exact Pd.fnil|refine Pd.inner ?_|refine Pd.skip (by decide +kernel) ?_|refine zf (zo 0 Z Z) ?_|refine zf (zo 1 Z Z) ?_|refine zf (zo 2 Z Z) ?_|refine zf (zo 3 Z Z) ?_|refine zf (zo 4 Z Z) ?_|refine zf (zm 0 Z Z) ?_|refine zf (zm 1 Z Z) ?_|refine zf (zm 2 Z Z) ?_|refine zf (zm 3 Z Z) ?_|refine zf (zm 4 Z Z) ?_|refine zf (RdL.blk (ra _ _ Z Z) Z) ?_|refine zf ((ra _ _ Z Z)) ?_|refine zc (zo 0 Z Z) ?_|refine zc (zo 1 Z Z) ?_|refine zc (zo 2 Z Z) ?_|refine zc (zo 3 Z Z) ?_|refine zc (zo 4 Z Z) ?_|refine zc (zm 0 Z Z) ?_|refine zc (zm 1 Z Z) ?_|refine zc (zm 2 Z Z) ?_|refine zc (zm 3 Z Z) ?_|refine zc (zm 4 Z Z) ?_|refine zc (RdL.blk (ra _ _ Z Z) Z) ?_|refine zc ((ra _ _ Z Z)) ?_))) : p := k
theorem yaw (k : p := by (try refine Pd.st ?_);(repeat (first|exact Pd.nil|exact Pd.fnil|refine Pd.inner ?_|refine Pd.skip (by decide +kernel) ?_|refine zf (zo 0 Z Z) ?_|refine zf (zo 1 Z Z) ?_|refine zf (zo 2 Z Z) ?_|refine zf (zo 3 Z Z) ?_|refine zf (zo 4 Z Z) ?_|refine zf (zm 0 Z Z) ?_|refine zf (zm 1 Z Z) ?_|refine zf (zm 2 Z Z) ?_|refine zf (zm 3 Z Z) ?_|refine zf (zm 4 Z Z) ?_|refine zf (RdL.blk PQ Z) ?_|refine zf (PQ) ?_|refine zc (zo 0 Z Z) ?_|refine zc (zo 1 Z Z) ?_|refine zc (zo 2 Z Z) ?_|refine zc (zo 3 Z Z) ?_|refine zc (zo 4 Z Z) ?_|refine zc (zm 0 Z Z) ?_|refine zc (zm 1 Z Z) ?_|refine zc (zm 2 Z Z) ?_|refine zc (zm 3 Z Z) ?_|refine zc (zm 4 Z Z) ?_|refine zc (RdL.blk PQ Z) ?_|refine zc (PQ) ?_))) : p := k
theorem ydk (k : p := by (try refine Pd.st ?_);(repeat (first|exact Pd.nil|exact Pd.fnil|refine Pd.inner ?_|refine Pd.skip (by decide +kernel) ?_|refine zf (zo 0 Z Z) ?_|refine zf (zo 1 Z Z) ?_|refine zf (zm 0 Z Z) ?_|refine zf (zm 1 Z Z) ?_|refine zf (RdL.blk hnb Z) ?_|refine zf (RdL.blk (RdL.blkA hnb Z) Z) ?_|refine zf (hnb) ?_|refine zf ((RdL.blkA hnb Z)) ?_|refine zc (zo 0 Z Z) ?_|refine zc (zo 1 Z Z) ?_|refine zc (zm 0 Z Z) ?_|refine zc (zm 1 Z Z) ?_|refine zc (RdL.blk hnb Z) ?_|refine zc (RdL.blk (RdL.blkA hnb Z) Z) ?_|refine zc (hnb) ?_|refine zc ((RdL.blkA hnb Z)) ?_))) : p := k
theorem ybd (k : p := by (try refine Pd.st ?_);(repeat (first|exact Pd.nil|exact Pd.fnil|refine Pd.inner ?_|refine Pd.skip (by decide +kernel) ?_|refine zf (RdL.blk (RdL.blk h Z) Z) ?_|refine zf (RdL.blk (RdL.blkA (ds := R.ch.cells x.a x.c) h Z) Z) ?_|refine zf ((RdL.blk h Z)) ?_|refine zf ((RdL.blkA (ds := R.ch.cells x.a x.c) h Z)) ?_|refine zc (RdL.blk (RdL.blk h Z) Z) ?_|refine zc (RdL.blk (RdL.blkA (ds := R.ch.cells x.a x.c) h Z) Z) ?_|refine zc ((RdL.blk h Z)) ?_|refine zc ((RdL.blkA (ds := R.ch.cells x.a x.c) h Z)) ?_))) : p := k
theorem yci (k : p := by (try refine Pd.st ?_);(repeat (first|exact Pd.nil|exact Pd.fnil|refine Pd.inner ?_|refine Pd.skip (by decide +kernel) ?_|refine zf (zo 0 Z Z) ?_|refine zf (zo 1 Z Z) ?_|refine zf (zm 0 Z Z) ?_|refine zf (zm 1 Z Z) ?_|refine zf (RdL.blk (RdL.nm 0 Z (fun _ => rfl)) Z) ?_|refine zf ((RdL.nm 0 Z (fun _ => rfl))) ?_|refine zc (zo 0 Z Z) ?_|refine zc (zo 1 Z Z) ?_|refine zc (zm 0 Z Z) ?_|refine zc (zm 1 Z Z) ?_|refine zc (RdL.blk (RdL.nm 0 Z (fun _ => rfl)) Z) ?_|refine zc ((RdL.nm 0 Z (fun _ => rfl))) ?_))) : p := k
theorem ycj (k : p := by (try refine Pd.st ?_);(repeat (first|exact Pd.nil|exact Pd.fnil|refine Pd.inner ?_|refine Pd.skip (by decide +kernel) ?_|refine zf (zo 0 Z Z) ?_|refine zf (zm 0 Z Z) ?_|refine zf (RdL.blk (RdL.nm 0 Z (fun _ => rfl)) Z) ?_|refine zf ((RdL.nm 0 Z (fun _ => rfl))) ?_|refine zc (zo 0 Z Z) ?_|refine zc (zm 0 Z Z) ?_|refine zc (RdL.blk (RdL.nm 0 Z (fun _ => rfl)) Z) ?_|refine zc ((RdL.nm 0 Z (fun _ => rfl))) ?_))) : p := k
theorem yag (k : p := by (try refine Pd.st ?_);(repeat (first|exact Pd.nil|exact Pd.fnil|refine Pd.inner ?_|refine Pd.skip (by decide +kernel) ?_|refine zf (RdL.blk hb Z) ?_|refine zf (RdL.blk (RdL.blkA hp hrow) Z) ?_|refine zf (hb) ?_|refine zf ((RdL.blkA hp hrow)) ?_|refine zc (RdL.blk hb Z) ?_|refine zc (RdL.blk (RdL.blkA hp hrow) Z) ?_|refine zc (hb) ?_|refine zc ((RdL.blkA hp hrow)) ?_))) : p := k
theorem yx (k : p := by (try refine Pd.st ?_);(repeat (first|exact Pd.nil|exact Pd.fnil|refine Pd.inner ?_|refine Pd.skip (by decide +kernel) ?_|refine zf (zo 0 Z Z) ?_|refine zf (zm 0 Z Z) ?_|refine zf (RdL.blk (RdL.blk hb Z) Z) ?_|refine zf ((RdL.blk hb Z)) ?_|refine zc (zo 0 Z Z) ?_|refine zc (zm 0 Z Z) ?_|refine zc (RdL.blk (RdL.blk hb Z) Z) ?_|refine zc ((RdL.blk hb Z)) ?_))) : p := k
theorem yay (k : p := by (try refine Pd.st ?_);(repeat (first|exact Pd.nil|exact Pd.fnil|refine Pd.inner ?_|refine Pd.skip (by decide +kernel) ?_|refine zf (zo 0 Z Z) ?_|refine zf (zm 0 Z Z) ?_|refine zf (RdL.blk hb Z) ?_|refine zf (hb) ?_|refine zc (zo 0 Z Z) ?_|refine zc (zm 0 Z Z) ?_|refine zc (RdL.blk hb Z) ?_|refine zc (hb) ?_))) : p := k
theorem yw (k : p := by (try refine Pd.st ?_);(repeat (first|exact Pd.nil|exact Pd.fnil|refine Pd.inner ?_|refine Pd.skip (by decide +kernel) ?_|refine zf (RdL.blk (RdL.blk hb Z) Z) ?_|refine zf ((RdL.blk hb Z)) ?_|refine zc (RdL.blk (RdL.blk hb Z) Z) ?_|refine zc ((RdL.blk hb Z)) ?_))) : p := k
theorem ybz (k : p := by show (s.rows.map RL.v).set (0 + k * 1) _ = _; rw [Nat.zero_add, Nat.mul_one, hvl, hv']) : p := k
theorem ydd (k : p := by rw [judgeM, if_neg c1, if_neg c2, if_neg c3, if_neg c4, if_neg c5, if_pos c6]) : p := k
theorem ybg (k : p := by rw [List.length_append, refs, List.length_map, List.length_take]; omega) : p := k
theorem yav (k : p := by (repeat refine Pd.filter ?_); exact hS _ (.tail _ (.tail _ (.head _)))) : p := k
theorem ydc (k : p := by rw [judgeM, if_neg c1, if_neg c2, if_neg c3, if_neg c4, if_pos c5]) : p := k
theorem ydt (k : p := by show some (Value.slice rs.addr S1.length rs.cap) = _; rw [hta]) : p := k
theorem yau (k : p := by (repeat refine Pd.filter ?_); exact hS _ (.tail _ (.head _))) : p := k
theorem yab (k : p := by rw [headOk, DF (show ¬ 1 ≤ c.ms.length by omega)]; simp) : p := k
theorem ydb (k : p := by rw [judgeM, if_neg c1, if_neg c2, if_neg c3, if_pos c4]) : p := k
theorem yao (k : p := by show (cl.q.filter (stay now)).length ≤ S.cap; omega) : p := k
theorem ybl (k : p := by exact (fun v L h => ⟨_, by rw [hch] at h; exact h.2, h.1, Z⟩)) : p := k
theorem ybu (k : p := by (repeat refine Pd.filter ?_); exact hS _ (by simp)) : p := k
theorem yv (k : p := by rw [kvApply, if_neg hb, if_neg h1, if_pos h2, hg]) : p := k
theorem ybc (k : p := by rw [admCs_len h]; show 0 + 15 + n * 1 < 21; omega) : p := k
theorem ydq (k : p := by show 0 ≤ id % C.nodes; rw [← hd]; exact hd0.1) : p := k
theorem ydr (k : p := by show id % C.nodes < _; rw [← hd]; exact hd0.2) : p := k
theorem yda (k : p := by rw [judgeM, if_neg c1, if_neg c2, if_pos c3]) : p := k
theorem yby (k : p := by show (0 + r.xs.length + 1) * 288 ≤ _; omega) : p := k
theorem yax (k : p := by rw [flat_len markCs_len, h.marks]; omega) : p := k
theorem yak (k : p := by have := h0.wf.n0; have := h0.len; omega) : p := k
theorem ybx (k : p := by show (0 + r.xs.length) * 288 ≤ _; omega) : p := k
theorem yde (k : p := by show R.rds.l.filter _ = []; rw [e]; rfl) : p := k
theorem ybj (k : p := by show (0 + c.ms.length) * 16 ≤ _; omega) : p := k
theorem ycl (k : p := by rw [hn2]; show n.out.length ≤ _; omega) : p := k
theorem ydi (k : p := by show (c.ms.length + 1) * 16 ≤ _; omega) : p := k
theorem yh (k : p := by simpa using (List.mem_filter.1 hp1).2) : p := k
theorem yan (k : p := by show (gs.length + 1) * 288 ≤ _; omega) : p := k
theorem ydf (k : p := by rw [hsv2]; exact (IP 0 Z Imp.nil).ent) : p := k
theorem ybv (k : p := by rw [List.length_append]; simp; omega) : p := k
theorem yad (k : p := by show (0 + l.length) * 16 ≤ _; omega) : p := k
theorem yat (k : p := by rw [intCs_len, mixQ_len]; exact hi2) : p := k
theorem ycr (k : p := by show -1000000 ≤ x.1.f.client; omega) : p := k
theorem ycy (k : p := by rw [raExp_sch]; exact exp_wf wf now) : p := k
theorem ybs (k : p := by rw [beq_eq_false_iff_ne]; exact h3) : p := k
theorem ycf (k : p := by rw [bne_eq_false_iff_eq]; exact h2) : p := k
theorem ycm (k : p := by rw [beq_eq_false_iff_ne]; exact h1) : p := k
theorem ycn (k : p := by rw [beq_eq_false_iff_ne]; exact h0) : p := k
theorem ycs (k : p := by show x.1.f.client ≤ 1000000; omega) : p := k
theorem ycw (k : p := by rw [hT', if_neg (fun h => h1 h.1)]) : p := k
theorem ycx (k : p := by rw [hT', if_neg (fun h => h2 h.2)]) : p := k
theorem ydh (k : p := by rw [bne_eq_false_iff_eq]; exact h1) : p := k
theorem ydm (k : p := by rw [beq_eq_false_iff_ne]; exact b3) : p := k
theorem ydn (k : p := by rw [beq_eq_false_iff_ne]; exact b4) : p := k
theorem ydo (k : p := by rw [beq_eq_false_iff_ne]; exact b5) : p := k
theorem ydp (k : p := by rw [beq_eq_false_iff_ne]; exact k3) : p := k
theorem yds (k : p := by rw [beq_eq_false_iff_ne]; exact ka) : p := k
theorem yn (k : p := by simp [opCheck, opLong, h1]; omega) : p := k
theorem ybn (k : p := by rw [if_pos hyes]; exact ⟨p, Z, Z⟩) : p := k
theorem ybt (k : p := by simp [opCheck, hb, opLong]; omega) : p := k
theorem ycz (k : p := by rw [judgeM, if_neg c1, if_pos c2]) : p := k
theorem yam (k : p := by simp only [clsCs]; rw [hcr]; rfl) : p := k
theorem yct (k : p := by show -1000000 ≤ f.client; omega) : p := k
theorem ybe (k : p := by rw [List.length_append]; omega) : p := k
theorem ybf (k : p := by show logErr R.log _ = 0; omega) : p := k
theorem yca (k : p := by show 24 * qs.length ≤ _; omega) : p := k
theorem yco (k : p := by exact (fun v L h => ⟨_, h.2, by rw [hB]⟩)) : p := k
theorem ycu (k : p := by show f.client ≤ 1000000; omega) : p := k
theorem ycb (k : p := by show 8 * qs.length ≤ _; omega) : p := k
theorem yce (k : p := by rw [ConfM.cells_len]; omega) : p := k
theorem yz (k : p := by exact (fun v L h => ⟨_, h.2, h.1, Z⟩)) : p := k
theorem yal (k : p := by show (0 : Int) ≤ 95; omega) : p := k
theorem ycg (k : p := by rw [bne_iff_ne]; exact h2) : p := k
theorem ydg (k : p := by rw [bne_iff_ne]; exact h1) : p := k
theorem yg (k : p := by rw [hpr] at h0; cases h0) : p := k
theorem ybr (k : p := by show 1 ≤ 1000000; omega) : p := k
theorem ybo (k : p := by show 0 ≤ 900000; omega) : p := k
theorem ybp (k : p := by show 0 ≤ 800000; omega) : p := k
theorem yaz (k : p := by rw [checkM, if_pos e]) : p := k
theorem ybh (k : p := by exact (fun v L h => ⟨_, h.2, Z⟩)) : p := k
theorem yaa (k : p := by simp [headOk]; omega) : p := k
theorem yae (k : p := by show 24 < 29; omega) : p := k
theorem ycc (k : p := by show 17 < 29; omega) : p := k
theorem ych (k : p := by show 28 < 29; omega) : p := k
theorem yck (k : p := by show 21 < 29; omega) : p := k
theorem ycp (k : p := by show 22 < 29; omega) : p := k
theorem yas (k : p := by show 3 < 12; omega) : p := k
theorem ybb (k : p := by rw [hwt]; exact h2) : p := k
theorem ybk (k : p := by show 8 < 17; omega) : p := k
theorem ydu (k : p := by rw [hlen1]; decide) : p := k
theorem yo (k : p := by simp [opCost, h1]) : p := k
theorem yac (k : p := by rw [chE, hc]; rfl) : p := k
theorem yah (k : p := by show 2 < 3; omega) : p := k
theorem yai (k : p := by show 1 < 3; omega) : p := k
theorem ybm (k : p := by dsimp only; omega) : p := k
theorem ybq (k : p := by show 0 < 1; omega) : p := k
theorem ybw (k : p := by show 6 < 7; omega) : p := k
theorem ydl (k : p := by rw [hsucc]; simp) : p := k
theorem yaj (k : p := by simp [schL, hr]) : p := k
theorem ycq (k : p := by rw [← en3]; rfl) : p := k
theorem yk (k : p := by simpa using hi) : p := k
theorem yl (k : p := by simpa using hy) : p := k
theorem yp (k : p := by simpa using hk) : p := k
theorem yq (k : p := by decide +kernel) : p := k
theorem ybi (k : p := by simpa using h1) : p := k
theorem ycd (k : p := by rw [← e2]; rfl) : p := k
theorem yb (k : p := by simpa using h) : p := k
theorem yba (k : p := by rw [h1]; simp) : p := k
theorem ycv (k : p := by rw [h3]; simp) : p := k
theorem yaf (k : p := by rw [hL]; rfl) : p := k
theorem yaq (k : p := by rw [h]; simp) : p := k
theorem ye (k : p := by simp; omega) : p := k
theorem yap (k : p := by rw [e]; rfl) : p := k
theorem ym (k : p := by kernel_rfl) : p := k
theorem yf (k : p := by simp [h1]) : p := k
theorem yi (k : p := by simp [hg]) : p := k
theorem yj (k : p := by simp [h2]) : p := k
theorem yc (k : p := by simp [h]) : p := k
theorem yy (k : p := by decide) : p := k
theorem yar (k : p := by rw [e]) : p := k
theorem yd (k : p := by omega) : p := k
theorem ya (k : p := by simp) : p := k
theorem xdv (k : p := by exact .inl ⟨_, E _ (fun w => r1 w), h⟩) : p := k
theorem xdw (k : p := by exact .inl ⟨_, E _ (fun w => r2 w), h⟩) : p := k
theorem xdx (k : p := by exact .inl ⟨v, fun a ha _ _ _ _ _ w => by simp only [execOp, ha.ev hv]; rfl, h⟩) : p := k
theorem xdy (k : p := by exact .inl ⟨_, fun a ha _ _ _ _ _ w => by simp only [execOp, ha.ev hv]; rfl, h⟩) : p := k
theorem xdz (k : p := by exact .inl ⟨_, fun a ha _ _ _ _ _ w => by simp only [execOp, ha.ev hv, ha.ev hu]; rfl, h⟩) : p := k
theorem xea (k : p := by exact List.nodup_append.2 ⟨hGn, hnl, fun x hx y hy he => (hGb x hx).1 (.inr (he ▸ hy))⟩) : p := k
theorem xeb (k : p := by exact h.keep.trans ⟨rfl, Z, Z, by rw [size_setBlk]; exact NR _, fun c hc => heap_setBlk_ne fun he => hf (he ▸ hc)⟩) : p := k
theorem xec (k : p := by exact hki v L' hm Q' hp0 hQ hsel _ _ w' hpi (ha.putE hdi v) (hG.put hfi v) hs (fun p hp1 => hsti v L' hm w' hs p (List.mem_filter.1 hp1).1 yh)) : p := k
theorem xed (k : p := by exact hkj v L' hm Q' hp0 hQ hsel _ _ w' hpj (ha.putE hdj v) (hG.put hfj v) hs (fun p hp1 => hstj v L' hm w' hs p (List.mem_filter.1 hp1).1 yh)) : p := k
theorem xee (g : q) (k : Bq q → p := by (intro zq; refine CS (VC.block ?_); exact zq.v)) : p := k ⟨g⟩
theorem xef (g : q) (k : Bq q → p := by (intro zq; (repeat (first|refine zS ?_|refine zR ?_|refine zB ?_|refine zL ?_|refine zC ?_|refine zG (zN ?_)|refine zG (zD 0 rfl rfl rfl rfl ?_))); exact zq.v)) : p := k ⟨g⟩
theorem xeg (g : q) (k : Bq q → p := by (intro zq; refine VC.condF Z ?_; exact zq.v)) : p := k ⟨g⟩
theorem xeh (k : p := by exact CR (Ret.int 2 Z Z yo Imp.nil.ent ⟨rfl, Z⟩)) : p := k
theorem xei (g : q) (k : Bq q → p := by (intro zq; (repeat (first|refine zS ?_|refine zR ?_|refine zB ?_|refine zL ?_|refine zC ?_|refine zG (zN ?_)|refine zG (zE rfl rfl (RdL.blk h rfl) ?_))); exact zq.v)) : p := k ⟨g⟩
theorem xej (g : q) (k : Bq q → p := by (intro zq; refine VC.condF Z (CK ?_); exact zq.v)) : p := k ⟨g⟩
theorem xek (k : p := by exact CR (Ret.int 2 Z Z Z ER ⟨rfl, Z⟩)) : p := k
theorem xel (g : q) (k : Bq q → p := by (intro zq; (repeat (first|refine yG (yN ?_)|refine yG (yE rfl rfl rfl (RdL.blk h rfl) ?_))); exact zq.v)) : p := k ⟨g⟩
theorem xem (g : q) (k : Bq q → p := by (intro zq; refine VA.go (AP Z Z Z yd yd ?_); exact zq.v)) : p := k ⟨g⟩
theorem xen (g : q) (k : Bq q → p := by (intro zq; (repeat (first|refine yG (yN ?_)|refine yG (yD 0 rfl rfl rfl rfl rfl ?_))); exact zq.v)) : p := k ⟨g⟩
theorem xeo (g : q) (k : Bq q → p := by (intro zq; refine VG (VP Z Z yd yd ?_); exact zq.v)) : p := k ⟨g⟩
theorem xep (k : p := by exact CR (Ret.bool 2 Z Z Z ER ⟨rfl, Z⟩)) : p := k
theorem xeq (g : q) (k : Bq q → p := by (intro zq; refine VG (VV (fun Fr w hF hs hS => none_spec Fr w (hS.blk 0 Z) o1) Z ?_); exact zq.v)) : p := k ⟨g⟩
theorem xer (g : q) (k : Bq q → p := by (intro zq; (repeat (first|refine zS ?_|refine zR ?_|refine zB ?_|refine zL ?_|refine zC ?_|refine zG (zN ?_)|refine zG (zD 0 rfl rfl rfl rfl ?_)|refine zG (zU rfl rfl rfl ?_))); exact zq.v)) : p := k ⟨g⟩
theorem xes (g : q) (k : Bq q → p := by (intro zq; refine VC.condT Z ?_; exact zq.v)) : p := k ⟨g⟩
theorem xet (k : p := by exact CR (Ret.tmp 4 Z Z ER ⟨by rw [hb], by rw [WinM.ack, hb]; rfl⟩)) : p := k
theorem xeu (k : p := by exact Ret.void Z ER ⟨rfl, Z⟩) : p := k
theorem xev (g : q) (k : Bq q → p := by (intro zq; refine CS (CG (VG (VN ?_))); exact zq.v)) : p := k ⟨g⟩
theorem xew (g : q) (k : Bq q → p := by (intro zq; (repeat (first|refine yG (yN ?_)|refine yG (yD 0 rfl rfl rfl rfl rfl ?_)|refine yG (yU rfl rfl rfl rfl ?_))); exact zq.v)) : p := k ⟨g⟩
theorem xex (k : p := by exact CR (Ret.tmp2 2 3 Z Z Z ER ⟨by rw [hb]; rfl, by rw [WinM.next, hb]; rfl⟩)) : p := k
theorem xey (g : q) (k : Bq q → p := by (intro zq; refine VG (VO.callV (fun Fr w => check_spec Fr w o) Z ?_); exact zq.v)) : p := k ⟨g⟩
theorem xez (g : q) (k : Bq q → p := by (intro zq; (repeat (first|refine zS ?_|refine zR ?_|refine zB ?_|refine zL ?_|refine zC ?_|refine zG (zN ?_)|refine zG (zD 0 rfl rfl rfl rfl ?_)|refine zG (zE rfl rfl (RdL.blk hp rfl) ?_))); exact zq.v)) : p := k ⟨g⟩
theorem xfa (k : p := by exact CR (Ret.tmp 2 Z Z ER ⟨rfl, Z⟩)) : p := k
theorem xfb (g : q) (k : Bq q → p := by (intro zq; refine VG (VY 19 true Z Z ?_); exact zq.v)) : p := k ⟨g⟩
theorem xfc (g : q) (k : Bq q → p := by (intro zq; refine VG (VI (LB (pv := []) (resC resZ) Z Z Z ym Z) ?_); exact zq.v)) : p := k ⟨g⟩
theorem xfd (g : q) (k : Bq q → p := by (intro zq; refine VG (VT (vs := resC resZ) 0 Z Z Z Z (NR _) Z Z Z ?_); exact zq.v)) : p := k ⟨g⟩
theorem xfe (g : q) (k : Bq q → p := by (intro zq; (repeat (first|refine yG (yN ?_)|refine yG (yD 0 rfl rfl rfl rfl rfl ?_)|refine yG (yD 1 rfl rfl rfl rfl rfl ?_)|refine yG (yD 2 rfl rfl rfl rfl rfl ?_)|refine yG (yD 3 rfl rfl rfl rfl rfl ?_))); exact zq.v)) : p := k ⟨g⟩
theorem xff (g : q) (k : Bq q → p := by (intro zq; refine CS (CD (ts 0 10 (.only 10 .nil)) ym yq ?_); exact zq.v)) : p := k ⟨g⟩
theorem xfg (g : q) (k : Bq q → p := by (intro zq; (repeat (first|refine yG (yN ?_)|refine yG (yD 0 rfl rfl rfl rfl rfl ?_)|refine yG (yD 1 rfl rfl rfl rfl rfl ?_)|refine yG (yD 2 rfl rfl rfl rfl rfl ?_)|refine yG (yD 3 rfl rfl rfl rfl rfl ?_)|refine yG (yD 4 rfl rfl rfl rfl rfl ?_))); exact zq.v)) : p := k ⟨g⟩
theorem xfh (g : q) (k : Bq q → p := by (intro zq; refine VA.go (AN ?_); exact zq.v)) : p := k ⟨g⟩
theorem xfi (g : q) (k : Bq q → p := by (intro zq; refine VG (VI (LB (pv := [(0, .int .i64 1), (2, .int .i64 i), (3, .int .i64 i)]) (resC ⟨1, nilB, i, i⟩) Z Z Z ym Z) ?_); exact zq.v)) : p := k ⟨g⟩
theorem xfj (g : q) (k : Bq q → p := by (intro zq; (repeat (first|refine zS ?_|refine zR ?_|refine zB ?_|refine zL ?_|refine zC ?_|refine zG (zN ?_)|refine zG (zD 0 rfl rfl rfl rfl ?_)|refine zG (zD 1 rfl rfl rfl rfl ?_)|refine zG (zD 2 rfl rfl rfl rfl ?_)|refine zG (zD 3 rfl rfl rfl rfl ?_)|refine zG (zD 4 rfl rfl rfl rfl ?_))); exact zq.v)) : p := k ⟨g⟩
theorem xfk (g : q) (k : Bq q → p := by (intro zq; refine CS (CD (ts 0 6 (.only 6 .nil)) ym yq ?_); exact zq.v)) : p := k ⟨g⟩
theorem xfl (g : q) (k : Bq q → p := by (intro zq; refine VG (VI (LB (pv := [(0, .int .i64 1), (3, .int .i64 i)]) (resC ⟨1, nilB, 0, i⟩) Z Z Z ym Z) ?_); exact zq.v)) : p := k ⟨g⟩
theorem xfm (g : q) (k : Bq q → p := by (intro zq; (repeat (first|refine zS ?_|refine zR ?_|refine zB ?_|refine zL ?_|refine zC ?_|refine zG (zN ?_)|refine zG (zE rfl rfl (RdL.blk hb rfl) ?_))); exact zq.v)) : p := k ⟨g⟩
theorem xfn (g : q) (k : Bq q → p := by (intro zq; refine VG (VI (LB (pv := []) (entC entZ) Z Z Z ym Z) ?_); exact zq.v)) : p := k ⟨g⟩
theorem xfo (g : q) (k : Bq q → p := by (intro zq; refine VG (VO.sub' Z Z yd yd ?_); exact zq.v)) : p := k ⟨g⟩
theorem xfp (g : q) (k : Bq q → p := by (intro zq; refine VG (VD Z Z (ra _ _ Z Z) ?_); exact zq.v)) : p := k ⟨g⟩
theorem xfq (g : q) (k : Bq q → p := by (intro zq; (repeat (first|refine yG (yN ?_)|refine yG (yE rfl rfl rfl (RdL.blk hb rfl) ?_))); exact zq.v)) : p := k ⟨g⟩
theorem xfr (g : q) (k : Bq q → p := by (intro zq; (repeat (first|refine zS ?_|refine zR ?_|refine zB ?_|refine zL ?_|refine zC ?_|refine zG (zN ?_)|refine zG (zD 0 rfl rfl rfl rfl ?_)|refine zG (zD 1 rfl rfl rfl rfl ?_)|refine zG (zD 2 rfl rfl rfl rfl ?_)|refine zG (zD 3 rfl rfl rfl rfl ?_)|refine zG (zD 4 rfl rfl rfl rfl ?_)|refine zG (zD 5 rfl rfl rfl rfl ?_))); exact zq.v)) : p := k ⟨g⟩
theorem xfs (g : q) (k : Bq q → p := by (intro zq; (repeat (first|refine zS ?_|refine zR ?_|refine zB ?_|refine zL ?_|refine zC ?_|refine zG (zN ?_)|refine zG (zD 0 rfl rfl rfl rfl ?_)|refine zG (zD 1 rfl rfl rfl rfl ?_)|refine zG (zD 2 rfl rfl rfl rfl ?_)|refine zG (zD 3 rfl rfl rfl rfl ?_)|refine zG (zD 4 rfl rfl rfl rfl ?_)|refine zG (zD 5 rfl rfl rfl rfl ?_)|refine zG (zU rfl rfl rfl ?_))); exact zq.v)) : p := k ⟨g⟩
theorem xft (k : p := by exact ⟨(), trivial, by rw [hb]; exact sbZ, ER⟩) : p := k
theorem xfu (g : q) (k : Bq q → p := by (intro zq; refine VG (VT (vs := resC resZ) 4 Z Z Z Z (NR _) Z Z Z ?_); exact zq.v)) : p := k ⟨g⟩
theorem xfv (g : q) (k : Bq q → p := by (intro zq; (repeat (first|refine yG (yN ?_)|refine yG (yD 0 rfl rfl rfl rfl rfl ?_)|refine yG (yD 1 rfl rfl rfl rfl rfl ?_)|refine yG (yD 2 rfl rfl rfl rfl rfl ?_)|refine yG (yD 3 rfl rfl rfl rfl rfl ?_)|refine yG (yD 4 rfl rfl rfl rfl rfl ?_)|refine yG (yD 5 rfl rfl rfl rfl rfl ?_))); exact zq.v)) : p := k ⟨g⟩
theorem xfw (g : q) (k : Bq q → p := by (intro zq; refine CS (CD (ts 0 6 (.only 6 (.only 7 (ts 8 2 (.only 10 .nil))))) ym yq ?_); exact zq.v)) : p := k ⟨g⟩
theorem xfx (g : q) (k : Bq q → p := by (intro zq; refine VG (VI (light_idx i Z Z Z Z Z Z hi2) ?_); exact zq.v)) : p := k ⟨g⟩
theorem xfy (g : q) (k : Bq q → p := by (intro zq; refine VG (VI (light_makeFunc (u := []) (v := [.pointer (some ⟨b, 0, none⟩)]) Z Z) ?_); exact zq.v)) : p := k ⟨g⟩
theorem xfz (g : q) (k : Bq q → p := by (intro zq; refine VG (VY 20 true Z Z ?_); exact zq.v)) : p := k ⟨g⟩
theorem xga (k : p := by exact ⟨(), trivial, SC Z (Sub.bl Z yaa (SN _)), ER⟩) : p := k
theorem xgb (g : q) (k : Bq q → p := by (intro zq; refine VG (VL 0 (c.cells a cap) Z Z Z Z ?_); exact zq.v)) : p := k ⟨g⟩
theorem xgc (g : q) (k : Bq q → p := by (intro zq; refine VG (VK (Lc := []) (fun Fr w hF hw _ => places_spec (c := c) (a := a) (cap := cap) Fr w) Z Z ?_); exact zq.v)) : p := k ⟨g⟩
theorem xgd (g : q) (k : Bq q → p := by (intro zq; (repeat (first|refine zS ?_|refine zR ?_|refine zB ?_|refine zL ?_|refine zC ?_|refine zG (zN ?_)|refine zG (zD 0 rfl rfl rfl rfl ?_)|refine zG (zD 1 rfl rfl rfl rfl ?_))); exact zq.v)) : p := k ⟨g⟩
theorem xge (g : q) (k : Bq q → p := by (intro zq; (repeat (first|refine zS ?_|refine zR ?_|refine zB ?_|refine zL ?_|refine zC ?_|refine zG (zN ?_)|refine zG (zD 0 rfl rfl rfl rfl ?_)|refine zG (zD 1 rfl rfl rfl rfl ?_)|refine zG (zD 2 rfl rfl rfl rfl ?_))); exact zq.v)) : p := k ⟨g⟩
theorem xgf (g : q) (k : Bq q → p := by (intro zq; (repeat (first|refine zS ?_|refine zR ?_|refine zB ?_|refine zL ?_|refine zC ?_|refine zG (zN ?_)|refine zG (zD 0 rfl rfl rfl rfl ?_)|refine zG (zD 1 rfl rfl rfl rfl ?_)|refine zG (zD 2 rfl rfl rfl rfl ?_)|refine zG (zU rfl rfl rfl ?_))); exact zq.v)) : p := k ⟨g⟩
theorem xgg (g : q) (k : Bq q → p := by (intro zq; refine VG (VY 40 false Z Z ?_); exact zq.v)) : p := k ⟨g⟩
theorem xgh (g : q) (k : Bq q → p := by (intro zq; (repeat (first|refine zS ?_|refine zR ?_|refine zB ?_|refine zL ?_|refine zC ?_|refine zG (zN ?_)|refine zG (zD 0 rfl rfl rfl rfl ?_)|refine zG (zD 1 rfl rfl rfl rfl ?_)|refine zG (zU rfl rfl rfl ?_))); exact zq.v)) : p := k ⟨g⟩
theorem xgi (g : q) (k : Bq q → p := by (intro zq; refine VG (VD Z Z (rc _ _ 0 _ Z Z) ?_); exact zq.v)) : p := k ⟨g⟩
theorem xgj (k : p := by exact CR (Ret.tmp 2 Z Z Imp.nil.ent ⟨rfl, Z⟩)) : p := k
theorem xgk (g : q) (k : Bq q → p := by (intro zq; refine VG (VO.callFV (u := .int .i64 (placeOf c.ms n)) Z (fun Fr w hF hs hS => place1_spec Fr w (hS.blk 0 Z) (h.of hF hs) yd n) Z ?_); exact zq.v)) : p := k ⟨g⟩
theorem xgl (g : q) (k : Bq q → p := by (intro zq; refine VG (VL 1 (c.cells a cap) Z Z Z Z ?_); exact zq.v)) : p := k ⟨g⟩
theorem xgm (g : q) (k : Bq q → p := by (intro zq; refine VG (VN ?_); exact zq.v)) : p := k ⟨g⟩
theorem xgn (g : q) (k : Bq q → p := by (intro zq; refine VA.go (VA.sub' Z Z Z yd yd ?_); exact zq.v)) : p := k ⟨g⟩
theorem xgo (k : p := by exact CR (Ret.tmp2 4 5 Z Z Z Imp.nil.ent ⟨by rw [sinceOf, if_neg (by rw [hc]; simp)], Z⟩)) : p := k
theorem xgp (k : p := by exact CR (Ret.tmp2 4 5 Z Z Z Imp.nil.ent ⟨by rw [sinceOf, if_neg yd], Z⟩)) : p := k
theorem xgq (g : q) (k : Bq q → p := by (intro zq; refine VG (VD Z Z (rc _ _ 1 _ Z Z) ?_); exact zq.v)) : p := k ⟨g⟩
theorem xgr (k : p := by exact CR (Ret.tmp2 4 5 Z Z Z Imp.nil.ent ⟨by rw [sinceOf, if_pos ⟨hc, by omega⟩, h2, Int.toNat_natCast, h4]; rfl, Z⟩)) : p := k
theorem xgs (k : p := by exact ⟨s, h1, G, h2, by simpa using hn, fun b hb => by simpa using hb⟩) : p := k
theorem xgt (g : q) (k : Bq q → p := by (intro zq; (repeat (first|refine yG (yN ?_)|refine yG (yE rfl rfl rfl (RdL.blk hb2 rfl) ?_))); exact zq.v)) : p := k ⟨g⟩
theorem xgu (g : q) (k : Bq q → p := by (intro zq; refine VA.go (VA.load Z Z Z (rc _ _ 0 _ Z Z) ?_); exact zq.v)) : p := k ⟨g⟩
theorem xgv (g : q) (k : Bq q → p := by (intro zq; refine VO.ent (L' := [slH memT 2 (some ⟨b, 0, none⟩) 0 0 []]) (Imp.sl (M := []) (cs := []) (rest := []) Z (NR _) Z (Imp.refl (L := [pt b [] memT]))).ent ?_; exact zq.v)) : p := k ⟨g⟩
theorem xgw (g : q) (k : Bq q → p := by (intro zq; (repeat (first|refine zS ?_|refine zR ?_|refine zB ?_|refine zL ?_|refine zC ?_|refine zG (zN ?_)|refine zG (zD 0 rfl rfl rfl rfl ?_)|refine zG (zE rfl rfl (RdL.blk hb rfl) ?_))); exact zq.v)) : p := k ⟨g⟩
theorem xgx (k : p := by exact CR (Ret.tmp 4 Z Z (IP 0 Z (IP 0 Z Imp.nil)).ent ⟨a, c, rows, h1, Z, Z⟩)) : p := k
theorem xgy (g : q) (k : Bq q → p := by (intro zq; refine VG (VT (vs := fmc (f, m)) (cs' := fmc (f, m)) 1 Z Z Z Z (NR _) Z Z Z (VG (VN ?_))); exact zq.v)) : p := k ⟨g⟩
theorem xgz (g : q) (k : Bq q → p := by (intro zq; refine VG (VT (vs := fmc fmz) (cs' := fmc fmz) 0 Z Z Z Z (NR _) Z Z Z (VG (VN ?_))); exact zq.v)) : p := k ⟨g⟩
theorem xha (g : q) (k : Bq q → p := by (intro zq; refine CR (Ret.cellTmp 2 3 Z Z Z (RdL.many 0 Z Z) Z Imp.nil.ent ?_); exact zq.v)) : p := k ⟨g⟩
theorem xhb (g : q) (k : Bq q → p := by (intro zq; (repeat (first|refine yG (yN ?_)|refine yG (yD 0 rfl rfl rfl rfl rfl ?_)|refine yG (yD 1 rfl rfl rfl rfl rfl ?_))); exact zq.v)) : p := k ⟨g⟩
theorem xhc (g : q) (k : Bq q → p := by (intro zq; (repeat (first|refine yG (yN ?_)|refine yG (yD 0 rfl rfl rfl rfl rfl ?_)|refine yG (yD 1 rfl rfl rfl rfl rfl ?_)|refine yG (yD 2 rfl rfl rfl rfl rfl ?_))); exact zq.v)) : p := k ⟨g⟩
theorem xhd (g : q) (k : Bq q → p := by (intro zq; refine VG (VO.st 2 Z Z Z Z yah Z Z (VG (VN ?_))); exact zq.v)) : p := k ⟨g⟩
theorem xhe (k : p := by exact CR (Ret.bool 4 Z Z yj ER ⟨rfl, Z⟩)) : p := k
theorem xhf (g : q) (k : Bq q → p := by (intro zq; refine VG (VI (light_idx k Z Z Z Z Z Z yd) ?_); exact zq.v)) : p := k ⟨g⟩
theorem xhg (g : q) (k : Bq q → p := by (intro zq; refine VG (VV (fun Fr w hF hs _ => Ring.len_spec Fr w ((h.ring k _ hr).of hF hs)) Z (VG (VN ?_))); exact zq.v)) : p := k ⟨g⟩
theorem xhh (k : p := by exact CR (Ret.int 4 Z Z Z out ⟨by rw [e], by rw [e]⟩)) : p := k
theorem xhi (g : q) (k : Bq q → p := by (intro zq; refine VG (VV (fun Fr w hF _ hs => idle_spec Fr w (SatIn.shut s0 h0 hs.tail)) Z (VG (VN ?_))); exact zq.v)) : p := k ⟨g⟩
theorem xhj (g : q) (k : Bq q → p := by (intro zq; refine VG (VO.ld 2 Z Z Z (hcell (j := 0) Z) ?_); exact zq.v)) : p := k ⟨g⟩
theorem xhk (g : q) (k : Bq q → p := by (intro zq; refine VG (VQ 2 (ψ := fun v H => v = .tuple #[] ∧ H = passH p s.cb s.rows.length s.ccap S.turn) Z (fun Fr w _ _ _ => pass_spec Fr w yd yd) Z (fun v L1 ⟨h1, h2⟩ => ⟨_, h2, h1, Z⟩) ?_); exact zq.v)) : p := k ⟨g⟩
theorem xhl (k : p := by exact ⟨(), trivial, sbZ, ER⟩) : p := k
theorem xhm (k : p := by exact (Imp.trans Imp.tl (Imp.trans Imp.tl (Imp.trans (Imp.of_eq e) (sch_shut (h.row' hr hwf))))).ent) : p := k
theorem xhn (g : q) (k : Bq q → p := by (intro zq; refine VG (VN (VC.condT Z ?_)); exact zq.v)) : p := k ⟨g⟩
theorem xho (g : q) (k : Bq q → p := by (intro zq; refine VG (VO.ld 1 Z Z Z Z ?_); exact zq.v)) : p := k ⟨g⟩
theorem xhp (g : q) (k : Bq q → p := by (intro zq; refine VA.go (AI Z (light_idx i Z Z Z Z Z Z hi2) ?_); exact zq.v)) : p := k ⟨g⟩
theorem xhq (g : q) (k : Bq q → p := by (intro zq; refine CS (CG ?_); exact zq.v)) : p := k ⟨g⟩
theorem xhr (g : q) (k : Bq q → p := by (intro zq; refine VG (VO.ld 2 Z Z Z Z (VG (VO.ld 0 Z Z Z Z ?_))); exact zq.v)) : p := k ⟨g⟩
theorem xhs (g : q) (k : Bq q → p := by (intro zq; refine VG (VY 47 false Z Z ?_); exact zq.v)) : p := k ⟨g⟩
theorem xht (g : q) (k : Bq q → p := by (intro zq; refine VG (VY 54 false Z Z ?_); exact zq.v)) : p := k ⟨g⟩
theorem xhu (g : q) (k : Bq q → p := by (intro zq; refine VG (VY 61 false Z Z ?_); exact zq.v)) : p := k ⟨g⟩
theorem xhv (g : q) (k : Bq q → p := by (intro zq; refine VG (VY 68 false Z Z ?_); exact zq.v)) : p := k ⟨g⟩
theorem xhw (g : q) (k : Bq q → p := by (intro zq; refine VG (VY 75 false Z Z ?_); exact zq.v)) : p := k ⟨g⟩
theorem xhx (g : q) (k : Bq q → p := by (intro zq; refine VG (VY 82 false Z Z ?_); exact zq.v)) : p := k ⟨g⟩
theorem xhy (g : q) (k : Bq q → p := by (intro zq; refine VA.go (AO (OpT.callP (φ := fun v => v = .int .i64 (near c.clients 1 6)) (fun Fr w _ _ _ => rnear_spec Fr w _ _ _) rfl) rfl (fun v L' h => by obtain ⟨_, rfl⟩ := h; exact yav) ?_); exact zq.v)) : p := k ⟨g⟩
theorem xhz (g : q) (k : Bq q → p := by (intro zq; refine VA.go (AO (OpT.callP (φ := fun v => v = .int .i64 (near c.queue 1 16)) (fun Fr w _ _ _ => rnear_spec Fr w _ _ _) rfl) rfl (fun v L' h => by obtain ⟨_, rfl⟩ := h; exact yav) ?_); exact zq.v)) : p := k ⟨g⟩
theorem xia (g : q) (k : Bq q → p := by (intro zq; refine VA.go (AO (OpT.callP (φ := fun v => v = .int .i64 (near c.window 1 16)) (fun Fr w _ _ _ => rnear_spec Fr w _ _ _) rfl) rfl (fun v L' h => by obtain ⟨_, rfl⟩ := h; exact yav) ?_); exact zq.v)) : p := k ⟨g⟩
theorem xib (g : q) (k : Bq q → p := by (intro zq; refine VA.go (AO (OpT.callP (φ := fun v => v = .int .i64 (near c.reads 1 16)) (fun Fr w _ _ _ => rnear_spec Fr w _ _ _) rfl) rfl (fun v L' h => by obtain ⟨_, rfl⟩ := h; exact yav) ?_); exact zq.v)) : p := k ⟨g⟩
theorem xic (g : q) (k : Bq q → p := by (intro zq; refine VA.go (AO (OpT.callP (φ := fun v => v = .int .i64 (near c.link 4 64)) (fun Fr w _ _ _ => rnear_spec Fr w _ _ _) rfl) rfl (fun v L' h => by obtain ⟨_, rfl⟩ := h; exact yav) ?_); exact zq.v)) : p := k ⟨g⟩
theorem xid (g : q) (k : Bq q → p := by (intro zq; refine VA.go (AO (OpT.callP (φ := fun v => v = .int .i64 (near c.patience 4 64)) (fun Fr w _ _ _ => rnear_spec Fr w _ _ _) rfl) rfl (fun v L' h => by obtain ⟨_, rfl⟩ := h; exact yav) ?_); exact zq.v)) : p := k ⟨g⟩
theorem xie (g : q) (k : Bq q → p := by (intro zq; refine VA.go (AO (OpT.callP (φ := fun v => v = .int .i64 (near c.timeout 4 64)) (fun Fr w _ _ _ => rnear_spec Fr w _ _ _) rfl) rfl (fun v L' h => by obtain ⟨_, rfl⟩ := h; exact yav) ?_); exact zq.v)) : p := k ⟨g⟩
theorem xif (g : q) (k : Bq q → p := by (intro zq; refine VA.go (AO (OpT.callP (φ := fun v => v = .int .i64 (near c.budget 0 16)) (fun Fr w _ _ _ => rnear_spec Fr w _ _ _) rfl) rfl (fun v L' h => by obtain ⟨_, rfl⟩ := h; exact yav) ?_); exact zq.v)) : p := k ⟨g⟩
theorem xig (g : q) (k : Bq q → p := by (intro zq; refine VA.go (AO (OpT.callP (φ := fun v => v = .int .i64 (near c.refill 1 1099511627776)) (fun Fr w _ _ _ => rnear_spec Fr w _ _ _) rfl) rfl (fun v L' h => by obtain ⟨_, rfl⟩ := h; exact yav) ?_); exact zq.v)) : p := k ⟨g⟩
theorem xih (g : q) (k : Bq q → p := by (intro zq; refine VA.go (AI Z (light_conf Z Z) ?_); exact zq.v)) : p := k ⟨g⟩
theorem xii (g : q) (k : Bq q → p := by (intro zq; refine VA.go (AT (vs := [.int .i64 (near c.nodes 1 6), .int .i64 (near c.chain 1 (near c.nodes 1 6)), .int .i64 (near c.clients 1 6), .slice none 0 0, .int .i64 (near c.queue 1 16), .int .i64 (near c.window 1 16), .int .i64 (near c.reads 1 16), .int .i64 (near c.link 4 64), .int .i64 (near c.patience 4 64), .int .i64 (near c.timeout 4 64), .int .i64 (near c.budget 0 16), .int .i64 (near c.refill 1 1099511627776)]) (cs' := [.int .i64 (near c.nodes 1 6), .int .i64 (near c.chain 1 (near c.nodes 1 6)), .int .i64 (near c.clients 1 6), .slice none 0 0, .int .i64 (near c.queue 1 16), .int .i64 (near c.window 1 16), .int .i64 (near c.reads 1 16), .int .i64 (near c.link 4 64), .int .i64 (near c.patience 4 64), .int .i64 (near c.timeout 4 64), .int .i64 (near c.budget 0 16), .int .i64 (near c.refill 1 1099511627776)]) 0 Z Z Z Z Z (NR _) Z Z Z yav (VA.go (AN ?_))); exact zq.v)) : p := k ⟨g⟩
theorem xij (k : p := by exact ⟨d, trivial, sbZ, ER⟩) : p := k
theorem xik (g : q) (k : Bq q → p := by (intro zq; refine VG (VI (light_idxA n Z Z Z Z Z Z hn) ?_); exact zq.v)) : p := k ⟨g⟩
theorem xil (g : q) (k : Bq q → p := by (intro zq; refine VG (VI (LB (pv := [(0, .int .i64 s), (1, .int .i64 t)]) (markCs (s, t)) Z Z Z Z Z) ?_); exact zq.v)) : p := k ⟨g⟩
theorem xim (k : p := by exact CR (Ret.int 8 Z Z yar out ⟨rfl, by rw [e]⟩)) : p := k
theorem xin (g : q) (k : Bq q → p := by (intro zq; refine VA.go (AI Z (light_idxA n Z Z Z Z Z Z hn) ?_); exact zq.v)) : p := k ⟨g⟩
theorem xio (g : q) (k : Bq q → p := by (intro zq; (repeat (first|refine yG (yN ?_)|refine yG (yD 0 rfl rfl rfl rfl rfl ?_)|refine yG (yE rfl rfl rfl (RdL.blk hb rfl) ?_))); exact zq.v)) : p := k ⟨g⟩
theorem xip (g : q) (k : Bq q → p := by (intro zq; refine VA.go (VA.offO Z Z ?_); exact zq.v)) : p := k ⟨g⟩
theorem xiq (g : q) (k : Bq q → p := by (intro zq; refine VA.go (AY 19 false Z Z ?_); exact zq.v)) : p := k ⟨g⟩
theorem xir (g : q) (k : Bq q → p := by (intro zq; refine VA.go (AY 24 false Z Z ?_); exact zq.v)) : p := k ⟨g⟩
theorem xis (g : q) (k : Bq q → p := by (intro zq; refine VA.go (AY 29 false Z Z ?_); exact zq.v)) : p := k ⟨g⟩
theorem xit (g : q) (k : Bq q → p := by (intro zq; refine VA.go (AY 38 false Z Z ?_); exact zq.v)) : p := k ⟨g⟩
theorem xiu (g : q) (k : Bq q → p := by (intro zq; refine VA.go (AY 43 false Z Z ?_); exact zq.v)) : p := k ⟨g⟩
theorem xiv (g : q) (k : Bq q → p := by (intro zq; refine VA.go (AY 48 false Z Z ?_); exact zq.v)) : p := k ⟨g⟩
theorem xiw (g : q) (k : Bq q → p := by (intro zq; refine VA.go (AY 54 false Z Z ?_); exact zq.v)) : p := k ⟨g⟩
theorem xix (g : q) (k : Bq q → p := by (intro zq; refine VA.go (VA.ldA 0 f.1.op.cells Z Z Z Z Z ?_); exact zq.v)) : p := k ⟨g⟩
theorem xiy (g : q) (k : Bq q → p := by (intro zq; refine VA.go (AI Z (light_idxA n Z Z Z Z Z hcl hn) ?_); exact zq.v)) : p := k ⟨g⟩
theorem xiz (k : p := by exact CR (Ret.int 6 Z Z yar out ⟨rfl, by rw [e]⟩)) : p := k
theorem xja (g : q) (k : Bq q → p := by (intro zq; refine VG (VL 0 (fmc f) Z Z Z Z ?_); exact zq.v)) : p := k ⟨g⟩
theorem xjb (k : p := by exact CR (Ret.int 6 Z Z yar (L' := [_]) Imp.tl.ent ⟨rfl, by rw [e]⟩)) : p := k
theorem xjc (g : q) (k : Bq q → p := by (intro zq; refine CD (ts 0 8 (.only 8 (.only 9 (ts 10 2 (.only 12 .nil))))) ym yq ?_; exact zq.v)) : p := k ⟨g⟩
theorem xjd (g : q) (k : Bq q → p := by (intro zq; (repeat (first|refine yG (yN ?_)|refine yG (yD 0 rfl rfl rfl rfl rfl ?_)|refine yG (yE rfl rfl rfl (RdL.blk h rfl) ?_))); exact zq.v)) : p := k ⟨g⟩
theorem xje (g : q) (k : Bq q → p := by (intro zq; refine VA.go (VA.load Z Z Z (RdL.blkA (ds := R.ch.cells x.a x.c) h Z) ?_); exact zq.v)) : p := k ⟨g⟩
theorem xjf (g : q) (k : Bq q → p := by (intro zq; refine CS (CD (.take 0 (.only 1 (ts 2 5 (ts 8 4 (.only 7 (ts 12 3 .nil)))))) ym yq ?_); exact zq.v)) : p := k ⟨g⟩
theorem xjg (g : q) (k : Bq q → p := by (intro zq; refine VA.go (AR (fun Fr w hF hs hS => in_spec Fr w (h.of hF hs)) Z Z yr ?_); exact zq.v)) : p := k ⟨g⟩
theorem xjh (g : q) (k : Bq q → p := by (intro zq; (repeat (first|refine yG (yN ?_)|refine yG (yE rfl rfl rfl (RdL.blk h rfl) ?_)|refine yG (yU rfl rfl rfl rfl ?_))); exact zq.v)) : p := k ⟨g⟩
theorem xji (k : p := by exact Ret.void Z (IP 1 Z Imp.nil).ent ⟨rfl, Z⟩) : p := k
theorem xjj (k : p := by exact ⟨(), trivial, SC Z (SC Z (SC Z (Sub.int Z (by rw [hd]; rfl) (SN _)))), ER⟩) : p := k
theorem xjk (g : q) (k : Bq q → p := by (intro zq; (repeat (first|refine zS ?_|refine zR ?_|refine zB ?_|refine zL ?_|refine zC ?_|refine zG (zN ?_)|refine zG (zE rfl rfl (RdL.blk hb rfl) ?_)|refine zG (zU rfl rfl rfl ?_))); exact zq.v)) : p := k ⟨g⟩
theorem xjl (g : q) (k : Bq q → p := by (intro zq; refine VC.opn 0 Z (HOpn.rep p R) ?_; exact zq.v)) : p := k ⟨g⟩
theorem xjm (g : q) (k : Bq q → p := by (intro zq; refine VG (VV (fun Fr w hF hs hS => tail_spec Fr w (hS.blk 0 Z) (RwIn.slH memC_len (hS.at_ 1 Z)) ok.ch) Z ?_); exact zq.v)) : p := k ⟨g⟩
theorem xjn (g : q) (k : Bq q → p := by (intro zq; refine VG (VV (fun Fr w hF hs hS => Win.done_spec Fr w (hS.blk 3 Z) w0) Z ?_); exact zq.v)) : p := k ⟨g⟩
theorem xjo (g : q) (k : Bq q → p := by (intro zq; refine VG (VV (fun Fr w hF hs hS => Win.last_spec Fr w (hS.blk 3 Z) w0) Z ?_); exact zq.v)) : p := k ⟨g⟩
theorem xjp (g : q) (k : Bq q → p := by (intro zq; (repeat (first|refine yG (yN ?_)|refine yG (yD 0 rfl rfl rfl rfl rfl ?_)|refine yG (yD 1 rfl rfl rfl rfl rfl ?_)|refine yG (yD 2 rfl rfl rfl rfl rfl ?_)|refine yG (yD 3 rfl rfl rfl rfl rfl ?_)|refine yG (yD 4 rfl rfl rfl rfl rfl ?_)|refine yG (yD 5 rfl rfl rfl rfl rfl ?_)|refine yG (yD 6 rfl rfl rfl rfl rfl ?_)|refine yG (yD 7 rfl rfl rfl rfl rfl ?_))); exact zq.v)) : p := k ⟨g⟩
theorem xjq (g : q) (k : Bq q → p := by (intro zq; refine CS (CD (ts 0 2 (.only 2 .nil)) ym yq ?_); exact zq.v)) : p := k ⟨g⟩
theorem xjr (g : q) (k : Bq q → p := by (intro zq; refine VA.go (VA.ldA 6 (resC resZ) Z Z Z Z Z ?_); exact zq.v)) : p := k ⟨g⟩
theorem xjs (g : q) (k : Bq q → p := by (intro zq; refine VA.go (AT (vs := resC resZ) 6 Z Z Z Z Z (NR _) Z Z Z yr ?_); exact zq.v)) : p := k ⟨g⟩
theorem xjt (g : q) (k : Bq q → p := by (intro zq; (repeat (first|refine zS ?_|refine zR ?_|refine zB ?_|refine zL ?_|refine zC ?_|refine zG (zN ?_)|refine zG (zD 0 rfl rfl rfl rfl ?_)|refine zG (zD 1 rfl rfl rfl rfl ?_)|refine zG (zD 2 rfl rfl rfl rfl ?_)|refine zG (zD 3 rfl rfl rfl rfl ?_)|refine zG (zD 4 rfl rfl rfl rfl ?_)|refine zG (zD 5 rfl rfl rfl rfl ?_)|refine zG (zD 6 rfl rfl rfl rfl ?_)|refine zG (zD 7 rfl rfl rfl rfl ?_))); exact zq.v)) : p := k ⟨g⟩
theorem xju (k : p := by exact ⟨(), trivial, SC Z (SC Z (SC Z (SC Z (SC Z (SC Z (SC Z (Sub.bl Z Z (SN _)))))))), ER⟩) : p := k
theorem xjv (g : q) (k : Bq q → p := by (intro zq; refine CD (ts 0 10 (.only 10 .nil)) ym yq ?_; exact zq.v)) : p := k ⟨g⟩
theorem xjw (g : q) (k : Bq q → p := by (intro zq; refine VC.opn 1 Z (HOpn.rep p R) ?_; exact zq.v)) : p := k ⟨g⟩
theorem xjx (g : q) (k : Bq q → p := by (intro zq; refine VC.block ?_; exact zq.v)) : p := k ⟨g⟩
theorem xjy (g : q) (k : Bq q → p := by (intro zq; refine VG (VV (fun Fr w hF hs hS => known_spec Fr w (hS.blk 0 Z) f _) Z ?_); exact zq.v)) : p := k ⟨g⟩
theorem xjz (g : q) (k : Bq q → p := by (intro zq; (repeat (first|refine zS ?_|refine zR ?_|refine zB ?_|refine zL ?_|refine zC ?_|refine zG (zN ?_)|refine zG (zD 0 rfl rfl rfl rfl ?_)|refine zG (zD 1 rfl rfl rfl rfl ?_)|refine zG (zD 2 rfl rfl rfl rfl ?_)|refine zG (zD 3 rfl rfl rfl rfl ?_)|refine zG (zD 4 rfl rfl rfl rfl ?_)|refine zG (zD 5 rfl rfl rfl rfl ?_)|refine zG (zD 6 rfl rfl rfl rfl ?_))); exact zq.v)) : p := k ⟨g⟩
theorem xka (g : q) (k : Bq q → p := by (intro zq; (repeat (first|refine yG (yN ?_)|refine yG (yD 0 rfl rfl rfl rfl rfl ?_)|refine yG (yD 1 rfl rfl rfl rfl rfl ?_)|refine yG (yD 2 rfl rfl rfl rfl rfl ?_)|refine yG (yD 3 rfl rfl rfl rfl rfl ?_)|refine yG (yD 4 rfl rfl rfl rfl rfl ?_)|refine yG (yD 5 rfl rfl rfl rfl rfl ?_)|refine yG (yD 6 rfl rfl rfl rfl rfl ?_))); exact zq.v)) : p := k ⟨g⟩
theorem xkb (k : p := by exact ⟨h.ch, h.win, h.last, h.logc, h.logi, h.rc0, h.rc1, h.rl, h.rn0, h.rn1, h.rcl, h.calls, h.wf⟩) : p := k
theorem xkc (g : q) (k : Bq q → p := by (intro zq; refine CD (ts 0 5 (.two 5 9 (ts 6 3 (.only 9 (.only 10 (.take 11 .nil)))) (.only 5 (ts 6 3 (.only 10 (.take 11 .nil)))))) ym yq ?_; exact zq.v)) : p := k ⟨g⟩
theorem xkd (g : q) (k : Bq q → p := by (intro zq; refine VA.go (AT (vs := resC (logRes R.log e)) 0 Z Z Z Z Z (NR _) Z Z Z yr ?_); exact zq.v)) : p := k ⟨g⟩
theorem xke (g : q) (k : Bq q → p := by (intro zq; refine VG (VV (fun Fr w hF hs hS => Rep.next_spec Fr w (hS.blk 0 Z) (RwIn.slH memC_len (hS.at_ 1 Z)) ok.ch) Z ?_); exact zq.v)) : p := k ⟨g⟩
theorem xkf (g : q) (k : Bq q → p := by (intro zq; refine VG (VD Z Z ((hrd 1 Z).1 _ Z Z) ?_); exact zq.v)) : p := k ⟨g⟩
theorem xkg (g : q) (k : Bq q → p := by (intro zq; refine VA.go (AI Z (LB (pv := [(0, .int .i64 (R.log.length + 1)), (1, .int .i64 (nextF R now).client), (2, .int .i64 (nextF R now).seq), (3, .agg (nextF R now).op.cells.toArray)]) (entC (nextE R now)) Z Z Z ym Z) ?_); exact zq.v)) : p := k ⟨g⟩
theorem xkh (g : q) (k : Bq q → p := by (intro zq; refine VA.go (AT (vs := resC (logRes R.log (nextE R now))) 0 Z Z Z Z Z (NR _) Z Z Z yr ?_); exact zq.v)) : p := k ⟨g⟩
theorem xki (g : q) (k : Bq q → p := by (intro zq; refine VG (VV (fun Fr w hF hs hS => made_spec Fr w (hS.blk 0 Z)) Z ?_); exact zq.v)) : p := k ⟨g⟩
theorem xkj (g : q) (k : Bq q → p := by (intro zq; refine VG (VI (light_makeFunc (u := [.pointer (some ⟨ob, 0, none⟩)]) (v := []) Z Z) ?_); exact zq.v)) : p := k ⟨g⟩
theorem xkk (g : q) (k : Bq q → p := by (intro zq; refine VG (VD Z Z ((hrd 0 Z).1 _ Z Z) ?_); exact zq.v)) : p := k ⟨g⟩
theorem xkl (g : q) (k : Bq q → p := by (intro zq; refine VG (VT (vs := rdC g) 0 Z Z Z Z (NR _) Z Z Z ?_); exact zq.v)) : p := k ⟨g⟩
theorem xkm (g : q) (k : Bq q → p := by (intro zq; refine VG (VO.st 0 (cs' := repCs { ent2 R c with whole := false } y) Z Z Z Z ybk Z Z ?_); exact zq.v)) : p := k ⟨g⟩
theorem xkn (g : q) (k : Bq q → p := by (intro zq; refine VG (VI (LB (pv := []) (chZ.cells none 0) Z Z Z ym Z) ?_); exact zq.v)) : p := k ⟨g⟩
theorem xko (g : q) (k : Bq q → p := by (intro zq; refine VG (VT (vs := chZ.cells none 0) (cs' := chZ.cells none 0) 0 Z Z Z Z (NR _) Z Z Z ?_); exact zq.v)) : p := k ⟨g⟩
theorem xkp (g : q) (k : Bq q → p := by (intro zq; refine VG (VI (LB (pv := [(0, .int .i64 i), (1, .int .i64 1)]) (memC ((i : Int), 1)) Z Z Z ym Z) ?_); exact zq.v)) : p := k ⟨g⟩
theorem xkq (g : q) (k : Bq q → p := by (intro zq; refine VG (VT (vs := [.int .i64 1, .slice a' c.chain.toNat c', .int .i64 (-1)]) (cs' := [.int .i64 1, .slice a' c.chain.toNat c', .int .i64 (-1)]) 1 Z Z Z Z (NR _) Z Z Z ?_); exact zq.v)) : p := k ⟨g⟩
theorem xkr (g : q) (k : Bq q → p := by (intro zq; refine VG (VY 24 true Z Z ?_); exact zq.v)) : p := k ⟨g⟩
theorem xks (g : q) (k : Bq q → p := by (intro zq; refine CR (Ret.tmp2 6 7 Z Z Z Imp.nil.ent ?_); exact zq.v)) : p := k ⟨g⟩
theorem xkt (g : q) (k : Bq q → p := by (intro zq; (repeat (first|refine yG (yN ?_)|refine yG (yD 0 rfl rfl rfl rfl rfl ?_)|refine yG (yD 1 rfl rfl rfl rfl rfl ?_)|refine yG (yD 2 rfl rfl rfl rfl rfl ?_)|refine yG (yD 3 rfl rfl rfl rfl rfl ?_)|refine yG (yD 4 rfl rfl rfl rfl rfl ?_)|refine yG (yD 5 rfl rfl rfl rfl rfl ?_)|refine yG (yD 6 rfl rfl rfl rfl rfl ?_)|refine yG (yD 7 rfl rfl rfl rfl rfl ?_)|refine yG (yU rfl rfl rfl rfl ?_))); exact zq.v)) : p := k ⟨g⟩
theorem xku (g : q) (k : Bq q → p := by (intro zq; refine VG (VL 7 (fgC f (ma, ms.length, mc)) Z Z Z Z ?_); exact zq.v)) : p := k ⟨g⟩
theorem xkv (g : q) (k : Bq q → p := by (intro zq; refine VO.ent (L' := [repH p R, outH ob []]) shut ?_; exact zq.v)) : p := k ⟨g⟩
theorem xkw (k : p := by exact ⟨(), trivial, sbZ, none_ hT⟩) : p := k
theorem xkx (g : q) (k : Bq q → p := by (intro zq; refine VG (VV (fun Fr w hF hs hS => Rep.prev_spec Fr w (hS.blk 0 Z) (RwIn.slH memC_len (hS.at_ 1 Z)) ok.ch) Z ?_); exact zq.v)) : p := k ⟨g⟩
theorem xky (g : q) (k : Bq q → p := by (intro zq; refine VG (VI (light_idx 0 Z Z Z Z Z yd ybq) ?_); exact zq.v)) : p := k ⟨g⟩
theorem xkz (g : q) (k : Bq q → p := by (intro zq; (repeat (first|refine zS ?_|refine zR ?_|refine zB ?_|refine zL ?_|refine zC ?_|refine zG (zN ?_)|refine zG (zD 0 rfl rfl rfl rfl ?_)|refine zG (zD 1 rfl rfl rfl rfl ?_)|refine zG (zD 2 rfl rfl rfl rfl ?_)|refine zG (zD 3 rfl rfl rfl rfl ?_)|refine zG (zU rfl rfl rfl ?_))); exact zq.v)) : p := k ⟨g⟩
theorem xla (g : q) (k : Bq q → p := by (intro zq; refine VG (VO.callV (fun Fr w => within_spec Fr w _ _ _) Z ?_); exact zq.v)) : p := k ⟨g⟩
theorem xlb (g : q) (k : Bq q → p := by (intro zq; refine VG (VY 73 false Z Z ?_); exact zq.v)) : p := k ⟨g⟩
theorem xlc (g : q) (k : Bq q → p := by (intro zq; refine VG (VY 78 false Z Z ?_); exact zq.v)) : p := k ⟨g⟩
theorem xld (g : q) (k : Bq q → p := by (intro zq; refine VG (VO.ld 0 Z Z Z Z ?_); exact zq.v)) : p := k ⟨g⟩
theorem xle (g : q) (k : Bq q → p := by (intro zq; refine VG (VV (fun Fr w hF hs hS => rat_spec Fr w (h.of hF hs) hl n) Z ?_); exact zq.v)) : p := k ⟨g⟩
theorem xlf (g : q) (k : Bq q → p := by (intro zq; refine VG (VV (fun Fr w hF hs hS => rchk_spec Fr w (h.of hF hs) hl) Z ?_); exact zq.v)) : p := k ⟨g⟩
theorem xlg (g : q) (k : Bq q → p := by (intro zq; (repeat (first|refine zS ?_|refine zR ?_|refine zB ?_|refine zL ?_|refine zC ?_|refine zG (zN ?_)|refine zG (zU rfl rfl rfl ?_))); exact zq.v)) : p := k ⟨g⟩
theorem xlh (g : q) (k : Bq q → p := by (intro zq; refine VA.go (AO (OpT.append (m := r.xs.length - k) (news := flat rcC (r.xs.drop k)) 0 rfl rfl rfl rfl rfl rfl rfl (RL.rdFrom (t := rcT) rcC_len hrok 2 rfl hk) (flat_all rcC_one _) (small_bytes (k := 200002) yd yy) yd) rfl (fun v L' h => by obtain ⟨a4, c4, rfl, hc4, rfl⟩ := h; exact ybu) ?_); exact zq.v)) : p := k ⟨g⟩
theorem xli (k : p := by exact CR (Ret.tmp 4 Z Z ER ⟨r.xs.take k ++ [x] ++ r.xs.drop k, a4, c4, hins, by rw [e1]; omega, by rw [e1], Z⟩)) : p := k
theorem xlj (g : q) (k : Bq q → p := by (intro zq; refine VG (VT (vs := resC resZ) (cs' := resC resZ) 0 Z Z Z Z (NR _) Z Z Z ?_); exact zq.v)) : p := k ⟨g⟩
theorem xlk (k : p := by exact CR (same 0 Z Z Z Z Z (IP 2 Z Imp.nil).ent hk)) : p := k
theorem xll (g : q) (k : Bq q → p := by (intro zq; refine VA.go (AT (vs := resC (kvLook S o.key i)) (cs' := resC (kvLook S o.key i)) 1 Z Z Z Z Z (NR _) Z Z Z yu ?_); exact zq.v)) : p := k ⟨g⟩
theorem xlm (k : p := by exact CR (same 1 Z Z Z Z Z (IP 3 Z Imp.nil).ent hk)) : p := k
theorem xln (g : q) (k : Bq q → p := by (intro zq; refine VG (VT (vs := entC entZ) (cs' := entC entZ) 0 Z Z Z Z (NR _) Z Z Z ?_); exact zq.v)) : p := k ⟨g⟩
theorem xlo (k : p := by exact CR (Ret.cellTmp 4 5 Z Z Z (RdL.many 0 Z Z) Z Imp.nil.ent ⟨by rw [atI_none (.inl h1)]; rfl, Z⟩)) : p := k
theorem xlp (g : q) (k : Bq q → p := by (intro zq; (repeat (first|refine zS ?_|refine zR ?_|refine zB ?_|refine zL ?_|refine zC ?_|refine zG (zN ?_)|refine zG (zD 0 rfl rfl rfl rfl ?_)|refine zG (zE rfl rfl (RdL.blk hb rfl) ?_)|refine zG (zU rfl rfl rfl ?_))); exact zq.v)) : p := k ⟨g⟩
theorem xlq (g : q) (k : Bq q → p := by (intro zq; refine VG (VI (light_idx i Z Z Z Z Z Z hk) ?_); exact zq.v)) : p := k ⟨g⟩
theorem xlr (g : q) (k : Bq q → p := by (intro zq; refine VA.go (AI Z (light_idx k Z Z Z Z Z hfk hk) ?_); exact zq.v)) : p := k ⟨g⟩
theorem xls (g : q) (k : Bq q → p := by (intro zq; refine VA.ent (L' := slH 46 29 a2 (r.xs ++ [f]).length c2 (flat fmc (r.xs ++ [f])) :: pt nb (fmc f) 46 :: pt b (fmc f) 46 :: rfL p S s) (Imp.of_eq (by rw [← hnf]; rfl)).ent ?_; exact zq.v)) : p := k ⟨g⟩
theorem xlt (g : q) (k : Bq q → p := by (intro zq; refine VA.go (VA.st 4 Z Z Z Z Z hkq (cs' := (s.rows.map RL.v).set k r'.v) ybz Z yr (VA.go (AN ?_))); exact zq.v)) : p := k ⟨g⟩
theorem xlu (g : q) (k : Bq q → p := by (intro zq; refine VA.go (AO (OpT.makeSlice qs.length Z Z Z Z Z yd ycb) Z (fun v L' _ => yr) ?_); exact zq.v)) : p := k ⟨g⟩
theorem xlv (g : q) (k : Bq q → p := by (intro zq; refine VA.go (AI Z (LB (pv := [(0, .int .i64 cap), (1, .slice a qs.length qc), (2, .slice (some ⟨qb, 0, none⟩) qs.length qs.length), (3, .slice (some ⟨cb, 0, none⟩) qs.length qs.length), (4, .slice (some ⟨sb, 0, none⟩) qs.length qs.length), (6, .bool true)]) [.int .i64 cap, .slice a qs.length qc, .slice (some ⟨qb, 0, none⟩) qs.length qs.length, .slice (some ⟨cb, 0, none⟩) qs.length qs.length, .slice (some ⟨sb, 0, none⟩) qs.length qs.length, .int .i64 0, .bool true] Z Z Z Z Z) ?_); exact zq.v)) : p := k ⟨g⟩
theorem xlw (g : q) (k : Bq q → p := by (intro zq; refine VA.go (AO (OpT.box Z Z) Z (fun v L' _ => yr) ?_); exact zq.v)) : p := k ⟨g⟩
theorem xlx (g : q) (k : Bq q → p := by (intro zq; refine VA.go (AO (OpT.makeSlice qs.length Z Z Z Z Z yd yca) Z (fun v L' _ => yr) ?_); exact zq.v)) : p := k ⟨g⟩
theorem xly (g : q) (k : Bq q → p := by (intro zq; refine VG (VL 2 (c.cells a cap) Z Z Z Z ?_); exact zq.v)) : p := k ⟨g⟩
theorem xlz (g : q) (k : Bq q → p := by (intro zq; (repeat (first|refine zS ?_|refine zR ?_|refine zB ?_|refine zL ?_|refine zC ?_|refine zG (zN ?_)|refine zG (zD 0 rfl rfl rfl rfl ?_)|refine zG (zD 1 rfl rfl rfl rfl ?_)|refine zG (zD 2 rfl rfl rfl rfl ?_)|refine zG (zD 3 rfl rfl rfl rfl ?_))); exact zq.v)) : p := k ⟨g⟩
theorem xma (g : q) (k : Bq q → p := by (intro zq; refine VG (VK (Lc := []) (fun Fr w hF hs hS => cells_spec Fr w ⟨hb.of hF hs, RwIn.of hx.ents hF hs⟩ hnum hl) Z Z ?_); exact zq.v)) : p := k ⟨g⟩
theorem xmb (g : q) (k : Bq q → p := by (intro zq; (repeat (first|refine zS ?_|refine zR ?_|refine zB ?_|refine zL ?_|refine zC ?_|refine zG (zN ?_)|refine zG (zE rfl rfl (RdL.blk hb2 rfl) ?_))); exact zq.v)) : p := k ⟨g⟩
theorem xmc (g : q) (k : Bq q → p := by (intro zq; refine VA.go (VA.st 2 Z Z Z Z Z (by show 0 < 1; decide) (cs' := [.slice a2 (es ++ [e]).length c2]) ycd Z yr (VA.go (AN ?_))); exact zq.v)) : p := k ⟨g⟩
theorem xmd (k : p := by exact ⟨(), trivial, sbZ, Imp.ent (Imp.rlog (es := es ++ [e]) (a2, c2) (IP 2 Z (IP 0 (congrArg some e1) (IP 2 Z Imp.nil))))⟩) : p := k
theorem xme (g : q) (k : Bq q → p := by (intro zq; refine VG (VI (light_idx k Z Z Z Z Z Z h1) ?_); exact zq.v)) : p := k ⟨g⟩
theorem xmf (g : q) (k : Bq q → p := by (intro zq; refine VA.go (VA.st 2 (cs' := [.int .i64 R.cap, .slice a2 (r.xs ++ [z]).length c2, .int .i64 (R.last + 1)]) Z Z Z Z Z (Nat.le_of_ble_eq_true Z) ycd Z yr (VA.go (AN ?_))); exact zq.v)) : p := k ⟨g⟩
theorem xmg (k : p := by exact ⟨(a2, c2), trivial, sbZ, Imp.ent (IP 2 Z (IP 0 (congrArg some e1) Imp.nil))⟩) : p := k
theorem xmh (g : q) (k : Bq q → p := by (intro zq; refine VG (VI (light_idx S.turn Z Z Z Z Z Z ht) ?_); exact zq.v)) : p := k ⟨g⟩
theorem xmi (g : q) (k : Bq q → p := by (intro zq; refine VA.go (AI Z (light_idx S.turn Z Z Z Z Z Z ht) ?_); exact zq.v)) : p := k ⟨g⟩
theorem xmj (g : q) (k : Bq q → p := by (intro zq; refine VG (VQ 2 (ψ := fun v H => v = .tuple #[] ∧ H = pt p (rfC s S.cls.length S.cap ((S.turn + 1) % S.cls.length : Nat) true) 174) Z (fun Fr w _ _ _ => on_spec Fr w ht hn4) Z (fun v L1 ⟨h1, h2⟩ => ⟨_, h2, h1, Z⟩) ?_); exact zq.v)) : p := k ⟨g⟩
theorem xmk (g : q) (k : Bq q → p := by (intro zq; refine VG (VI (light_idx j Z Z Z Z Z Z hj2) ?_); exact zq.v)) : p := k ⟨g⟩
theorem xml (g : q) (k : Bq q → p := by (intro zq; refine VG (VD Z Z (v := .agg (fmc (f, m)).toArray) (RdL.many (i + 6) (t := 46) (cs := r.cells) hrowk hrow) ?_); exact zq.v)) : p := k ⟨g⟩
theorem xmm (g : q) (k : Bq q → p := by (intro zq; refine Imp.trans (IP 1 Z (IP 1 Z (IP 1 Z (IP 1 Z (rfR_put (r' := r') hki))))) (Imp.of_eq ?_); exact zq.v)) : p := k ⟨g⟩
theorem xmn (k : p := by exact ⟨(), trivial, by simpa [h1] using tail Z Z Z Z Z (by simp [h1, hs]), ER⟩) : p := k
theorem xmo (g : q) (k : Bq q → p := by (intro zq; refine VG (VI (light_idx i Z Z Z Z Z Z h1) ?_); exact zq.v)) : p := k ⟨g⟩
theorem xmp (g : q) (k : Bq q → p := by (intro zq; refine VA.go (AY 34 false Z Z ?_); exact zq.v)) : p := k ⟨g⟩
theorem xmq (g : q) (k : Bq q → p := by (intro zq; refine VA.go (AY 53 false Z Z ?_); exact zq.v)) : p := k ⟨g⟩
theorem xmr (g : q) (k : Bq q → p := by (intro zq; refine VA.go (AY 59 false Z Z ?_); exact zq.v)) : p := k ⟨g⟩
theorem xmt (k : p := by exact Imp.ent (Imp.app (L := rfL sp A.sch s) (rf_shut s hs Imp.refl) Imp.refl)) : p := k
theorem xmu (g : q) (k : Bq q → p := by (intro zq; refine VA.go (AI Z (light_idx i Z Z Z Z Z Z h1) ?_); exact zq.v)) : p := k ⟨g⟩
theorem xmv (g : q) (k : Bq q → p := by (intro zq; refine VA.go (AQ 0 (ψ := fun v H => H = pt p (radCs C ca cc ((barAll A0 (gs0.take i)).barM y.1.client y.1.seq y.1.try_).2 sp) radT) Z (fun Fr w hF hs _ => rbar_spec Fr w (ra.1.trans k1.symm) (by rw [k2]; exact ra.2.1) (by rw [k1]; exact ra.2.2) y.1.client y.1.seq y.1.try_) Z Z ybh (fun v H h => by exact yr) ?_); exact zq.v)) : p := k ⟨g⟩
theorem xmw (k : p := by exact ⟨i + 1, h1, by dsimp only; omega, sbZ, by dsimp only; rw [htk, barAll_snoc]; exact ER⟩) : p := k
theorem xmx (g : q) (k : Bq q → p := by (intro zq; refine VA.go (AR (fun Fr w hF hs _ => nplace_spec Fr w (h.of' hF hs) (RwIn.of hm hF hs) hl) Z Z yr ?_); exact zq.v)) : p := k ⟨g⟩
theorem xmy (g : q) (k : Bq q → p := by (intro zq; (repeat (first|refine yG (yN ?_))); exact zq.v)) : p := k ⟨g⟩
theorem xmz (g : q) (k : Bq q → p := by (intro zq; refine VC.opn 1 Z (HOpn.nm p C ca cc m n) ?_; exact zq.v)) : p := k ⟨g⟩
theorem xna (g : q) (k : Bq q → p := by (intro zq; refine VA.go (AI Z (LB (pv := [(0, .int .i64 to), (1, .agg (fgC f mem0).toArray)]) (sndC (to, f)) Z Z Z ym Z) ?_); exact zq.v)) : p := k ⟨g⟩
theorem xnb (g : q) (k : Bq q → p := by (intro zq; refine VG (VI (LB (pv := [(0, .int .i64 2), (2, .int .i64 c), (3, .int .i64 s), (4, .int .i64 t), (8, .agg (resC r).toArray)]) (fgC (replyF c s t r) mem0) Z Z Z ym Z) ?_); exact zq.v)) : p := k ⟨g⟩
theorem xnc (k : p := by exact Ret.void Z (IP 0 Z Imp.nil).ent ⟨rfl, Z⟩) : p := k
theorem xnd (g : q) (k : Bq q → p := by (intro zq; refine VC.opn 0 Z (HOpn.nm p C ca cc m n) ?_; exact zq.v)) : p := k ⟨g⟩
theorem xne (g : q) (k : Bq q → p := by (intro zq; refine VG (VV (fun Fr w hF hs hS => ndrains_spec Fr w (NmIn.pcs hS 0 Z Z Z Z) (RwIn.of hm hF hs) ok.ms) Z ?_); exact zq.v)) : p := k ⟨g⟩
theorem xnf (g : q) (k : Bq q → p := by (intro zq; refine VG (VV (fun Fr w hF hs hS => nlast_spec Fr w (NmIn.pcs hS 0 Z Z Z Z)) Z ?_); exact zq.v)) : p := k ⟨g⟩
theorem xng (g : q) (k : Bq q → p := by (intro zq; refine VA.go (AR (fun Fr w hF hs hS => nlast_spec Fr w (NmIn.pcs hS 0 Z Z Z Z)) Z Z yr ?_); exact zq.v)) : p := k ⟨g⟩
theorem xnh (g : q) (k : Bq q → p := by (intro zq; refine VG (VV (fun Fr w hF hs hS => nplace_spec Fr w (NmIn.pcs hS 0 Z Z Z Z) (RwIn.of hm hF hs) ms) Z ?_); exact zq.v)) : p := k ⟨g⟩
theorem xni (k : p := by exact CR (Ret.bool 4 Z Z e.symm (Imp.nmB Imp.nil).ent ⟨rfl, by rw [NdM.ack, e]; rfl⟩)) : p := k
theorem xnj (g : q) (k : Bq q → p := by (intro zq; refine CD (ts 0 8 (.two 8 12 (ts 9 3 (.only 12 (.only 13 (.take 14 .nil)))) (.only 8 (ts 9 3 (.only 13 (.take 14 .nil)))))) ym yq ?_; exact zq.v)) : p := k ⟨g⟩
theorem xnk (g : q) (k : Bq q → p := by (intro zq; refine VA.go (AT (vs := entC e) (cs' := entC e) 0 Z Z Z Z Z (NR _) Z Z Z yr ?_); exact zq.v)) : p := k ⟨g⟩
theorem xnl (k : p := by exact ⟨d, trivial, sbZ, Imp.ent (Imp.trans (IP 1 Z (IP 1 Z (IP 1 Z (IP 1 Z (IP 1 Z Imp.refl))))) (Imp.nmB (n := N1) (y := y) Imp.refl))⟩) : p := k
theorem xnm (g : q) (k : Bq q → p := by (intro zq; refine VA.go (AT (vs := resC r) (cs' := resC r) 0 Z Z Z Z Z (NR _) Z Z Z yr ?_); exact zq.v)) : p := k ⟨g⟩
theorem xnn (k : p := by exact ⟨q, trivial, sbZ, Imp.ent (Imp.trans (IP 1 Z (IP 1 Z (IP 1 Z (IP 1 Z (IP 1 Z Imp.refl))))) (Imp.nmB (n := N1) (y := y2) Imp.refl))⟩) : p := k
theorem xno (g : q) (k : Bq q → p := by (intro zq; refine VA.go (VA.ldA 5 (fmc f) Z Z Z Z Z ?_); exact zq.v)) : p := k ⟨g⟩
theorem xnp (k : p := by exact ⟨hc, k.log, k.num, k.logc, k.ra, k.calls, k.d0, k.d1, by show (0 : Int) ≤ n.log.length; omega, Int.le_refl _, k.w0, k.w1, k.rl, k.rc, k.rn0, k.rn1, k.rcl⟩) : p := k
theorem xnq (k : p := by exact ⟨i + 1, h1, by dsimp only; omega, sbZ, ER⟩) : p := k
theorem xnr (g : q) (k : Bq q → p := by (intro zq; refine VG (VO.st 0 (cs' := nmCs C ca cc m n0 ⟨y.lp, y.ap, y.rp, none, 0⟩) Z Z Z Z ych (by rw [hn0]; rfl) Z ?_); exact zq.v)) : p := k ⟨g⟩
theorem xns (g : q) (k : Bq q → p := by (intro zq; refine VC.opn 0 Z (HOpn.nm p C ca cc m n0) ?_; exact zq.v)) : p := k ⟨g⟩
theorem xnt (g : q) (k : Bq q → p := by (intro zq; refine VG (VV (fun Fr w hF hs hS => nplace_spec Fr w (NmIn.pcs hS 0 Z Z Z Z) (RwIn.of hm0 hF hs) hms0) Z ?_); exact zq.v)) : p := k ⟨g⟩
theorem xnu (g : q) (k : Bq q → p := by (intro zq; refine VO.ent (L' := [nmH p C ca cc m n0]) (Imp.nmB Imp.nil).ent ?_; exact zq.v)) : p := k ⟨g⟩
theorem xnv (k : p := by exact ⟨(), trivial, sbZ, by rw [hT']; exact ER⟩) : p := k
theorem xnw (k : p := by exact ⟨(), trivial, sbZ, miss ycw k8⟩) : p := k
theorem xnx (k : p := by exact ⟨(), trivial, sbZ, miss ycx k8⟩) : p := k
theorem xny (k : p := by exact ⟨(), trivial, sbZ, by rw [hN1]; exact Imp.ent (Imp.trans Imp.tl (Imp.nmB (n := { n0 with log := logApp n0.log f.entry }) (y := y3) Imp.nil))⟩) : p := k
theorem xnz (g : q) (k : Bq q → p := by (intro zq; (repeat (first|refine zS ?_|refine zR ?_|refine zB ?_|refine zL ?_|refine zC ?_|refine zG (zN ?_))); exact zq.v)) : p := k ⟨g⟩
theorem xoa (k : p := by exact ⟨_, Z, hj.elim .inl fun h => .inr (.inl h), fun m hm => by rw [List.mem_singleton.1 hm]⟩) : p := k
theorem xob (k : p := by exact ⟨⟨ho, i.fit.most, i.fit.cap0, i.fit.cap1, i.fit.cl⟩, i.cl, i.acl, i.cap, i.wcap, i.qs, i.si, i.lok, i.ch, i.sn, i.ahead, i.rd, i.rw⟩) : p := k
theorem xoc (g : q) (k : Bq q → p := by (intro zq; (repeat (first|refine zS ?_|refine zR ?_|refine zB ?_|refine zL ?_|refine zC ?_|refine zG (zN ?_)|refine zG (zD 0 rfl rfl rfl rfl ?_)|refine zG (zD 1 rfl rfl rfl rfl ?_)|refine zG (zD 2 rfl rfl rfl rfl ?_)|refine zG (zD 3 rfl rfl rfl rfl ?_)|refine zG (zD 4 rfl rfl rfl rfl ?_)|refine zG (zU rfl rfl rfl ?_))); exact zq.v)) : p := k ⟨g⟩
theorem xod (g : q) (k : Bq q → p := by (intro zq; refine VA.go (AI Z (LB (pv := [(0, .int .i64 (n6.log.length + 1)), (1, .int .i64 (N.nxF nw).client), (2, .int .i64 (N.nxF nw).seq), (3, .agg (N.nxF nw).op.cells.toArray)]) (entC ⟨n6.log.length + 1, (N.nxF nw).client, (N.nxF nw).seq, (N.nxF nw).op⟩) Z Z Z ym Z) ?_); exact zq.v)) : p := k ⟨g⟩
theorem xoe (k : p := by exact ⟨(), trivial, sbZ, Imp.ent (Imp.trans Imp.tl (Imp.nmB (n := { n6 with log := logApp n6.log e }) (y := y) Imp.refl))⟩) : p := k
theorem xof (g : q) (k : Bq q → p := by (intro zq; refine VA.go (AQ 2 (ψ := fun v H => (∃ r, v = .tuple #[.agg (resC r).toArray, .int .i64 (logErr n6.log e)]) ∧ H = rlogH y.lp (logApp n6.log e)) Z (fun Fr w hF hs hS => rlapp_spec Fr w y.lp n6.log k6.ok.num k6.ok.log e) Z Z yz (fun v H h => by rw [h.2]; exact yr) ?_); exact zq.v)) : p := k ⟨g⟩
theorem xog (k : p := by exact ⟨(a2, c2), trivial, SC Z (SC Z (SC Z (SC (by rw [hlen]; rfl) (SN _)))), by rw [hlen, hfl]; exact Imp.ent (pkZ [0, 1, 1])⟩) : p := k
theorem xoh (g : q) (k : Bq q → p := by (intro zq; refine VG (VV (fun Fr w hF hs hS => rleaves_spec Fr w (h.of hF hs) yd n) Z ?_); exact zq.v)) : p := k ⟨g⟩
theorem xoi (k : p := by exact one _ e (Option.some.inj h).symm) : p := k
theorem xoj (g : q) (k : Bq q → p := by (intro zq; refine VG (VY 45 true Z Z ?_); exact zq.v)) : p := k ⟨g⟩
theorem xok (g : q) (k : Bq q → p := by (intro zq; refine VG (VY 63 true Z Z ?_); exact zq.v)) : p := k ⟨g⟩
theorem xol (g : q) (k : Bq q → p := by (intro zq; refine VG (VY 71 true Z Z ?_); exact zq.v)) : p := k ⟨g⟩
theorem xom (g : q) (k : Bq q → p := by (intro zq; (repeat (first|refine yG (yN ?_)|refine yG (yE rfl rfl rfl (RdL.blk hnb rfl) ?_))); exact zq.v)) : p := k ⟨g⟩
theorem xon (g : q) (k : Bq q → p := by (intro zq; refine VA.go (VA.load Z Z Z (RdL.blkA (ds := n.ch.cells m.1 m.2) hnb Z) ?_); exact zq.v)) : p := k ⟨g⟩
theorem xoo (g : q) (k : Bq q → p := by (intro zq; refine VG (VI (light_rem Z Z yd yy) ?_); exact zq.v)) : p := k ⟨g⟩
theorem xop (g : q) (k : Bq q → p := by (intro zq; refine VA.go (VA.ldA 1 (fgC x.f (x.ma, x.mn, x.mc)) Z Z Z Z Z ?_); exact zq.v)) : p := k ⟨g⟩
theorem xoq (g : q) (k : Bq q → p := by (intro zq; refine VA.go (AT (vs := fgC x.f (x.ma, x.mn, x.mc)) (cs' := fgC x.f (x.ma, x.mn, x.mc)) 0 Z Z Z Z Z (NR _) Z Z Z yr (VA.go (AN ?_))); exact zq.v)) : p := k ⟨g⟩
theorem xor (k : p := by exact CR (Ret.tmpCell 4 5 Z Z Z Z (RdL.many (ds := fgC x.f (x.ma, x.mn, x.mc)) 0 Z Z) (Imp.hp Imp.nil).ent ⟨(x.ma, x.mc), hpure True, by rw [hA, ← hx], Z, .inr ⟨rfl, by rw [hA]; exact .inl ⟨rfl, Z⟩⟩⟩)) : p := k
theorem xos (g : q) (k : Bq q → p := by (intro zq; refine VA.go (AI Z (light_rem Z Z yd yy) ?_); exact zq.v)) : p := k ⟨g⟩
theorem xot (g : q) (k : Bq q → p := by (intro zq; refine VG (VY 52 true Z Z ?_); exact zq.v)) : p := k ⟨g⟩
theorem xou (k : p := by exact CR (Ret.tmp 4 rfl rfl Imp.nil.ent ⟨⟨false, rfl, fun h => by cases h⟩, rfl⟩)) : p := k
theorem xov (g : q) (k : Bq q → p := by (intro zq; refine VG (VY 99 false Z Z ?_); exact zq.v)) : p := k ⟨g⟩
theorem xow (k : p := by exact CR (Ret.tmp 4 Z Z Imp.nil.ent ⟨⟨_, Z, fun _ => same⟩, Z⟩)) : p := k
theorem xox (g : q) (k : Bq q → p := by (intro zq; (repeat (first|refine yG (yN ?_)|refine yG (yD 0 rfl rfl rfl rfl rfl ?_)|refine yG (yD 1 rfl rfl rfl rfl rfl ?_)|refine yG (yU rfl rfl rfl rfl ?_))); exact zq.v)) : p := k ⟨g⟩
theorem xoy (k : p := by exact out (q := ((ansM f (S.take k) : Nat) : Int)) ydl sbZ) : p := k
theorem xoz (g : q) (k : Bq q → p := by (intro zq; refine VG (VO.callV (fun Fr w => led_spec Fr w) Z ?_); exact zq.v)) : p := k ⟨g⟩
theorem xpa (k : p := by exact CR (Ret.bool 6 Z Z Z Imp.nil.ent ⟨rfl, Z⟩)) : p := k
theorem xpb (k : p := by exact ⟨_, trivial, SC Z (SC Z (SC Z (SC Z (SC Z (SC Z (SC Z (SC Z (SC Z (SN _))))))))), ER⟩) : p := k
theorem xpc (g : q) (k : Bq q → p := by (intro zq; (repeat (first|refine zS ?_|refine zR ?_|refine zB ?_|refine zL ?_|refine zC ?_|refine zG (zN ?_)|refine zG (zD 0 rfl rfl rfl rfl ?_)|refine zG (zD 1 rfl rfl rfl rfl ?_)|refine zG (zD 2 rfl rfl rfl rfl ?_)|refine zG (zD 3 rfl rfl rfl rfl ?_)|refine zG (zD 4 rfl rfl rfl rfl ?_)|refine zG (zD 5 rfl rfl rfl rfl ?_)|refine zG (zD 6 rfl rfl rfl rfl ?_)|refine zG (zU rfl rfl rfl ?_))); exact zq.v)) : p := k ⟨g⟩
theorem xpd (g : q) (k : Bq q → p := by (intro zq; (repeat (first|refine zS ?_|refine zR ?_|refine zB ?_|refine zL ?_|refine zC ?_|refine zG (zN ?_)|refine zG (zD 0 rfl rfl rfl rfl ?_)|refine zG (zD 1 rfl rfl rfl rfl ?_)|refine zG (zD 2 rfl rfl rfl rfl ?_)|refine zG (zD 3 rfl rfl rfl rfl ?_)|refine zG (zD 4 rfl rfl rfl rfl ?_)|refine zG (zD 5 rfl rfl rfl rfl ?_)|refine zG (zD 6 rfl rfl rfl rfl ?_)|refine zG (zD 7 rfl rfl rfl rfl ?_)|refine zG (zU rfl rfl rfl ?_))); exact zq.v)) : p := k ⟨g⟩
theorem xpe (g : q) (k : Bq q → p := by (intro zq; refine VG (VV (fun Fr w hF hs hS => waits_spec Fr w hI1.r (hS.at_ 1 Z)) Z ?_); exact zq.v)) : p := k ⟨g⟩
theorem xpf (g : q) (k : Bq q → p := by (intro zq; (repeat (first|refine yG (yN ?_)|refine yG (yU rfl rfl rfl rfl ?_))); exact zq.v)) : p := k ⟨g⟩
theorem xpg (g : q) (k : Bq q → p := by (intro zq; refine VG (VI (light_idx 0 ydt Z Z Z Z Z ydu) ?_); exact zq.v)) : p := k ⟨g⟩
theorem zph (g : q) (k : Bq q → p := by (intro zq; refine xef ?_; refine xeo ?_; exact zq.v)) : p := k ⟨g⟩
theorem zpi (g : q) (k : Bq q → p := by (intro zq; refine zph ?_; refine xef ?_; exact zq.v)) : p := k ⟨g⟩
theorem zpj (g : q) (k : Bq q → p := by (intro zq; refine xes ?_; refine xef ?_; exact zq.v)) : p := k ⟨g⟩
theorem zpk (g : q) (k : Bq q → p := by (intro zq; refine xef ?_; refine xej ?_; exact zq.v)) : p := k ⟨g⟩
theorem zpl (g : q) (k : Bq q → p := by (intro zq; refine xer ?_; refine zpj ?_; exact zq.v)) : p := k ⟨g⟩
theorem zpm (g : q) (k : Bq q → p := by (intro zq; refine xef ?_; refine xgb ?_; exact zq.v)) : p := k ⟨g⟩
theorem zpn (g : q) (k : Bq q → p := by (intro zq; refine xlg ?_; refine xeo ?_; exact zq.v)) : p := k ⟨g⟩
theorem zpo (g : q) (k : Bq q → p := by (intro zq; refine xer ?_; refine xej ?_; exact zq.v)) : p := k ⟨g⟩
theorem zpp (g : q) (k : Bq q → p := by (intro zq; refine zpn ?_; refine xlg ?_; exact zq.v)) : p := k ⟨g⟩
theorem zpq (g : q) (k : Bq q → p := by (intro zq; refine xiu ?_; refine xiv ?_; exact zq.v)) : p := k ⟨g⟩
theorem zpr (g : q) (k : Bq q → p := by (intro zq; refine xip ?_; refine xen ?_; exact zq.v)) : p := k ⟨g⟩
theorem zps (g : q) (k : Bq q → p := by (intro zq; refine xef ?_; refine xla ?_; exact zq.v)) : p := k ⟨g⟩
theorem zpt (g : q) (k : Bq q → p := by (intro zq; refine xip ?_; refine yG (yN ?_); exact zq.v)) : p := k ⟨g⟩
theorem zpu (g : q) (k : Bq q → p := by (intro zq; refine xmq ?_; refine xip ?_; exact zq.v)) : p := k ⟨g⟩
theorem zpv (g : q) (k : Bq q → p := by (intro zq; refine xlg ?_; refine xej ?_; exact zq.v)) : p := k ⟨g⟩
theorem zpw (g : q) (k : Bq q → p := by (intro zq; refine zpk ?_; refine xef ?_; exact zq.v)) : p := k ⟨g⟩
theorem zpx (g : q) (k : Bq q → p := by (intro zq; refine xef ?_; refine xfx ?_; exact zq.v)) : p := k ⟨g⟩
theorem zpy (g : q) (k : Bq q → p := by (intro zq; refine xih ?_; refine xii ?_; exact zq.v)) : p := k ⟨g⟩
theorem zpz (g : q) (k : Bq q → p := by (intro zq; refine xen ?_; refine xjs ?_; exact zq.v)) : p := k ⟨g⟩
theorem zqa (g : q) (k : Bq q → p := by (intro zq; refine zpz ?_; refine xen ?_; exact zq.v)) : p := k ⟨g⟩
theorem zqb (g : q) (k : Bq q → p := by (intro zq; refine xgm ?_; refine xhq ?_; exact zq.v)) : p := k ⟨g⟩
theorem zqc (g : q) (k : Bq q → p := by (intro zq; refine xhw ?_; refine xhx ?_; exact zq.v)) : p := k ⟨g⟩
theorem zqd (g : q) (k : Bq q → p := by (intro zq; refine xjq ?_; refine xjr ?_; exact zq.v)) : p := k ⟨g⟩
theorem zqe (g : q) (k : Bq q → p := by (intro zq; refine zqd ?_; refine zqa ?_; exact zq.v)) : p := k ⟨g⟩
theorem zqf (g : q) (k : Bq q → p := by (intro zq; refine xhq ?_; refine xfc ?_; exact zq.v)) : p := k ⟨g⟩
theorem zqg (g : q) (k : Bq q → p := by (intro zq; refine zqf ?_; refine xlj ?_; exact zq.v)) : p := k ⟨g⟩
theorem zqh (g : q) (k : Bq q → p := by (intro zq; refine xmr ?_; refine zpt ?_; exact zq.v)) : p := k ⟨g⟩
theorem zqi (k : p := by (refine zpy ?_; exact xij)) : p := k
theorem zqj (g : q) (k : Bq q → p := by (intro zq; refine xhv ?_; refine zqc ?_; exact zq.v)) : p := k ⟨g⟩
theorem zqk (g : q) (k : Bq q → p := by (intro zq; refine xip ?_; refine xiw ?_; exact zq.v)) : p := k ⟨g⟩
theorem zql (g : q) (k : Bq q → p := by (intro zq; refine zqk ?_; refine zpr ?_; exact zq.v)) : p := k ⟨g⟩
theorem zqm (g : q) (k : Bq q → p := by (intro zq; refine xip ?_; refine xew ?_; exact zq.v)) : p := k ⟨g⟩
theorem zqn (g : q) (k : Bq q → p := by (intro zq; refine zpu ?_; refine zqh ?_; exact zq.v)) : p := k ⟨g⟩
theorem zqo (g : q) (k : Bq q → p := by (intro zq; refine xox ?_; refine xej ?_; exact zq.v)) : p := k ⟨g⟩
theorem zqp (g : q) (k : Bq q → p := by (intro zq; refine xox ?_; refine VA.go (AY 52 false Z Z ?_); exact zq.v)) : p := k ⟨g⟩
theorem zqq (g : q) (k : Bq q → p := by (intro zq; refine xef ?_; refine zpj ?_; exact zq.v)) : p := k ⟨g⟩
theorem zqr (g : q) (k : Bq q → p := by (intro zq; refine xhu ?_; refine zqj ?_; exact zq.v)) : p := k ⟨g⟩
theorem zqs (k : p := by (refine xen ?_; exact ⟨rb, trivial, sbZ, ER⟩)) : p := k
theorem zqt (g : q) (k : Bq q → p := by (intro zq; refine xef ?_; refine xku ?_; exact zq.v)) : p := k ⟨g⟩
theorem zqu (g : q) (k : Bq q → p := by (intro zq; refine xnm ?_; refine xen ?_; exact zq.v)) : p := k ⟨g⟩
theorem zqv (g : q) (k : Bq q → p := by (intro zq; refine xgh ?_; refine xes ?_; exact zq.v)) : p := k ⟨g⟩
theorem zqw (g : q) (k : Bq q → p := by (intro zq; refine zqv ?_; refine xlg ?_; exact zq.v)) : p := k ⟨g⟩
theorem zqx (g : q) (k : Bq q → p := by (intro zq; refine VG (VY 63 false Z Z ?_); refine xhv ?_; exact zq.v)) : p := k ⟨g⟩
theorem zqy (g : q) (k : Bq q → p := by (intro zq; refine xgh ?_; refine VG (VY 92 false Z Z ?_); exact zq.v)) : p := k ⟨g⟩
theorem zqz (k : p := by (refine xef ?_; exact xiz)) : p := k
theorem zra (g : q) (k : Bq q → p := by (intro zq; refine xlg ?_; refine VG (VY 54 true Z Z ?_); exact zq.v)) : p := k ⟨g⟩
theorem zrb (g : q) (k : Bq q → p := by (intro zq; refine xgh ?_; refine VG (VY 38 true Z Z ?_); exact zq.v)) : p := k ⟨g⟩
theorem zrc (g : q) (k : Bq q → p := by (intro zq; refine CS (VC.block (CG ?_)); refine xlg ?_; exact zq.v)) : p := k ⟨g⟩
theorem zrd (g : q) (k : Bq q → p := by (intro zq; refine xhb ?_; refine VA.go (VA.ldA 0 (fmc f) Z Z Z Z Z ?_); exact zq.v)) : p := k ⟨g⟩
theorem zre (k : p := by (refine xlg ?_; exact st hr Z Z Z Z Z (pkZ [1, 0, 0, 0]).ent)) : p := k
theorem zrf (g : q) (k : Bq q → p := by (intro zq; refine xef ?_; refine xfc ?_; exact zq.v)) : p := k ⟨g⟩
theorem zrg (g : q) (k : Bq q → p := by (intro zq; refine xen ?_; refine xef ?_; exact zq.v)) : p := k ⟨g⟩
theorem zrh (g : q) (k : Bq q → p := by (intro zq; refine xht ?_; refine zqr ?_; exact zq.v)) : p := k ⟨g⟩
theorem zri (g : q) (k : Bq q → p := by (intro zq; refine xir ?_; refine xis ?_; exact zq.v)) : p := k ⟨g⟩
theorem zrj (g : q) (k : Bq q → p := by (intro zq; refine zpq ?_; refine zql ?_; exact zq.v)) : p := k ⟨g⟩
theorem zrk (g : q) (k : Bq q → p := by (intro zq; refine xlb ?_; refine xlc ?_; exact zq.v)) : p := k ⟨g⟩
theorem zrl (g : q) (k : Bq q → p := by (intro zq; refine xer ?_; refine xes ?_; exact zq.v)) : p := k ⟨g⟩
theorem zrm (g : q) (k : Bq q → p := by (intro zq; refine xen ?_; refine xlv ?_; exact zq.v)) : p := k ⟨g⟩
theorem zrn (g : q) (k : Bq q → p := by (intro zq; refine zrm ?_; refine xlw ?_; exact zq.v)) : p := k ⟨g⟩
theorem zro (g : q) (k : Bq q → p := by (intro zq; refine zqg ?_; refine xef ?_; exact zq.v)) : p := k ⟨g⟩
theorem zrp (g : q) (k : Bq q → p := by (intro zq; refine xeo ?_; refine xer ?_; exact zq.v)) : p := k ⟨g⟩
theorem zrq (g : q) (k : Bq q → p := by (intro zq; refine xge ?_; refine xlq ?_; exact zq.v)) : p := k ⟨g⟩
theorem zrr (g : q) (k : Bq q → p := by (intro zq; refine xip ?_; refine zpq ?_; exact zq.v)) : p := k ⟨g⟩
theorem zrs (g : q) (k : Bq q → p := by (intro zq; refine zrr ?_; refine zqn ?_; exact zq.v)) : p := k ⟨g⟩
theorem zrt (g : q) (k : Bq q → p := by (intro zq; refine xhq ?_; refine xer ?_; exact zq.v)) : p := k ⟨g⟩
theorem zru (g : q) (k : Bq q → p := by (intro zq; refine xmu ?_; refine xen ?_; exact zq.v)) : p := k ⟨g⟩
theorem zrv (g : q) (k : Bq q → p := by (intro zq; refine xip ?_; refine xfv ?_; exact zq.v)) : p := k ⟨g⟩
theorem zrw (g : q) (k : Bq q → p := by (intro zq; refine xlg ?_; refine xol ?_; exact zq.v)) : p := k ⟨g⟩
theorem zrx (g : q) (k : Bq q → p := by (intro zq; refine zrw ?_; refine xlg ?_; exact zq.v)) : p := k ⟨g⟩
theorem zry (g : q) (k : Bq q → p := by (intro zq; refine xgh ?_; refine xot ?_; exact zq.v)) : p := k ⟨g⟩
theorem zrz (g : q) (k : Bq q → p := by (intro zq; refine zry ?_; refine zqw ?_; exact zq.v)) : p := k ⟨g⟩
theorem zsa (g : q) (k : Bq q → p := by (intro zq; refine xgh ?_; refine xlg ?_; exact zq.v)) : p := k ⟨g⟩
theorem zsb (g : q) (k : Bq q → p := by (intro zq; refine xox ?_; refine xmr ?_; exact zq.v)) : p := k ⟨g⟩
theorem zsc (g : q) (k : Bq q → p := by (intro zq; refine zsb ?_; refine zqo ?_; exact zq.v)) : p := k ⟨g⟩
theorem zsd (g : q) (k : Bq q → p := by (intro zq; refine CK ?_; refine xef ?_; exact zq.v)) : p := k ⟨g⟩
theorem zse (g : q) (k : Bq q → p := by (intro zq; refine xef ?_; refine VG (VL 0 (rdC row) Z Z Z Z ?_); exact zq.v)) : p := k ⟨g⟩
theorem zsf (g : q) (k : Bq q → p := by (intro zq; refine xev ?_; refine VC.opn 0 Z (HOpn.rrds p R) ?_; exact zq.v)) : p := k ⟨g⟩
theorem zsg (g : q) (k : Bq q → p := by (intro zq; refine xef ?_; refine VG (VY 6 false Z (DF yd) ?_); exact zq.v)) : p := k ⟨g⟩
end Go.Proofs.YtbbnmgakmcppdaaGreat
