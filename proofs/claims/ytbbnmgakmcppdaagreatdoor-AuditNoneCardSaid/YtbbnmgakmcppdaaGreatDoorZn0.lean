/- Abbreviations of tactics. No condition. -/
import Derived.OrdersHeld
import Derived.Deep.MidRow
import Derived.Laws.AppendOwn
import Derived.Below
import Derived.WalkKit
import Derived.Scope
import Derived.MapKept
import Derived.Laws.StructEq
import Derived.Laws.BitsAllLaws
import Derived.Test.YtbbnmgakmcppdaaGreatDoorRows
import Derived.KernelRfl
import Derived.Shelf.Strconv.Itoa0
import Derived.Shelf.Strconv.Itoa1
import Derived.Shelf.LaysM
import Derived.Shelf.Strconv.Itoa2
import Derived.Shelf.Strconv.Itoa3
import Derived.Test.YtbbnmgakmcppdaaGreatDoorProg
import Derived.Shelf.SlGeneric
import Derived.Shelf.SlMaps.Clone
import Derived.Laws.LoneSync
import Derived.Lib.Builder
import Derived.Lib.ItoaMem
import Derived.Lib.LaidTab
import Derived.Lib.Join
import Derived.Lib.OthersKept
import Derived.Lib.ItoaLen
import Derived.ProofKit
import Derived.OpenShut
import Derived.SizedLaws
import Derived.Carry
import Derived.LaidMore
import Derived.MakeChecks
import Derived.Stop.Joined
import Derived.Deep.Strs
import Derived.Deep.Slices
import Derived.Test.YtbbnmgakmcppdaaGreatDoorCards
import Derived.Test.YtbbnmgakmcppdaaGreatDoorTie
import Derived.Lay
import Derived.SevenTiedAt
namespace Go.Proofs.YtbbnmgakmcppdaaGreatDoor
theorem Z {α : Sort _} {a : α} : a = a := rfl
structure Bq (q : Prop) : Prop where
 v : q
variable {p q : Prop}
theorem DF : type_of% @decide_eq_false := @decide_eq_false
theorem DT : type_of% @decide_eq_true := @decide_eq_true
theorem GE : type_of% @List.getElem?_eq_getElem := @List.getElem?_eq_getElem
theorem NR : type_of% @Nat.le_refl := @Nat.le_refl
theorem ME : type_of% @List.mem_of_getElem? := @List.mem_of_getElem?
theorem yy (k : p := by (try refine Pd.st ?_);(repeat (first|exact Pd.nil|exact Pd.fnil|refine Pd.inner ?_|refine Pd.skip (by decide +kernel) ?_|refine zf (zo 0 rfl rfl) ?_|refine zf (zo 1 rfl rfl) ?_|refine zf (zo 2 rfl rfl) ?_|refine zf (zo 3 rfl rfl) ?_|refine zf (zo 4 rfl rfl) ?_|refine zf (zo 5 rfl rfl) ?_|refine zf (zo 6 rfl rfl) ?_|refine zf (zo 7 rfl rfl) ?_|refine zf (zo 8 rfl rfl) ?_|refine zf (zm 0 rfl rfl) ?_|refine zf (zm 1 rfl rfl) ?_|refine zf (zm 2 rfl rfl) ?_|refine zf (zm 3 rfl rfl) ?_|refine zf (zm 4 rfl rfl) ?_|refine zf (zm 5 rfl rfl) ?_|refine zf (zm 6 rfl rfl) ?_|refine zf (zm 7 rfl rfl) ?_|refine zf (zm 8 rfl rfl) ?_|refine zc (zo 0 rfl rfl) ?_|refine zc (zo 1 rfl rfl) ?_|refine zc (zo 2 rfl rfl) ?_|refine zc (zo 3 rfl rfl) ?_|refine zc (zo 4 rfl rfl) ?_|refine zc (zo 5 rfl rfl) ?_|refine zc (zo 6 rfl rfl) ?_|refine zc (zo 7 rfl rfl) ?_|refine zc (zo 8 rfl rfl) ?_|refine zc (zm 0 rfl rfl) ?_|refine zc (zm 1 rfl rfl) ?_|refine zc (zm 2 rfl rfl) ?_|refine zc (zm 3 rfl rfl) ?_|refine zc (zm 4 rfl rfl) ?_|refine zc (zm 5 rfl rfl) ?_|refine zc (zm 6 rfl rfl) ?_|refine zc (zm 7 rfl rfl) ?_|refine zc (zm 8 rfl rfl) ?_|refine Pd.fconsM (MpL.one 0 rfl) ?_|refine Pd.fconsM (MpL.one 1 rfl) ?_|refine Pd.fconsM (MpL.one 2 rfl) ?_|refine Pd.fconsM (MpL.one 3 rfl) ?_|refine Pd.fconsM (MpL.one 4 rfl) ?_|refine Pd.fconsM (MpL.one 5 rfl) ?_|refine Pd.fconsM (MpL.one 6 rfl) ?_|refine Pd.fconsM (MpL.one 7 rfl) ?_|refine Pd.fconsM (MpL.one 8 rfl) ?_|refine Pd.consM (MpL.one 0 rfl) ?_|refine Pd.consM (MpL.one 1 rfl) ?_|refine Pd.consM (MpL.one 2 rfl) ?_|refine Pd.consM (MpL.one 3 rfl) ?_|refine Pd.consM (MpL.one 4 rfl) ?_|refine Pd.consM (MpL.one 5 rfl) ?_|refine Pd.consM (MpL.one 6 rfl) ?_|refine Pd.consM (MpL.one 7 rfl) ?_|refine Pd.consM (MpL.one 8 rfl) ?_))) : p := k
theorem yaa (k : p := by (try refine Pd.st ?_);(repeat (first|exact Pd.nil|exact Pd.fnil|refine Pd.inner ?_|refine Pd.skip (by decide +kernel) ?_|refine zf (zo 0 rfl rfl) ?_|refine zf (zo 1 rfl rfl) ?_|refine zf (zo 2 rfl rfl) ?_|refine zf (zo 3 rfl rfl) ?_|refine zf (zo 4 rfl rfl) ?_|refine zf (zo 5 rfl rfl) ?_|refine zf (zo 6 rfl rfl) ?_|refine zf (zo 7 rfl rfl) ?_|refine zf (zo 8 rfl rfl) ?_|refine zf (zm 0 rfl rfl) ?_|refine zf (zm 1 rfl rfl) ?_|refine zf (zm 2 rfl rfl) ?_|refine zf (zm 3 rfl rfl) ?_|refine zf (zm 4 rfl rfl) ?_|refine zf (zm 5 rfl rfl) ?_|refine zf (zm 6 rfl rfl) ?_|refine zf (zm 7 rfl rfl) ?_|refine zf (zm 8 rfl rfl) ?_|refine zc (zo 0 rfl rfl) ?_|refine zc (zo 1 rfl rfl) ?_|refine zc (zo 2 rfl rfl) ?_|refine zc (zo 3 rfl rfl) ?_|refine zc (zo 4 rfl rfl) ?_|refine zc (zo 5 rfl rfl) ?_|refine zc (zo 6 rfl rfl) ?_|refine zc (zo 7 rfl rfl) ?_|refine zc (zo 8 rfl rfl) ?_|refine zc (zm 0 rfl rfl) ?_|refine zc (zm 1 rfl rfl) ?_|refine zc (zm 2 rfl rfl) ?_|refine zc (zm 3 rfl rfl) ?_|refine zc (zm 4 rfl rfl) ?_|refine zc (zm 5 rfl rfl) ?_|refine zc (zm 6 rfl rfl) ?_|refine zc (zm 7 rfl rfl) ?_|refine zc (zm 8 rfl rfl) ?_))) : p := k
theorem yz (k : p := by (try refine Pd.st ?_);(repeat (first|exact Pd.nil|exact Pd.fnil|refine Pd.inner ?_|refine Pd.skip (by decide +kernel) ?_|refine zf (zo 0 Z Z) ?_|refine zf (zo 1 Z Z) ?_|refine zf (zo 2 Z Z) ?_|refine zf (zo 3 Z Z) ?_|refine zf (zo 4 Z Z) ?_|refine zf (zo 5 Z Z) ?_|refine zf (zo 6 Z Z) ?_|refine zf (zo 7 Z Z) ?_|refine zf (zo 8 Z Z) ?_|refine zf (zm 0 Z Z) ?_|refine zf (zm 1 Z Z) ?_|refine zf (zm 2 Z Z) ?_|refine zf (zm 3 Z Z) ?_|refine zf (zm 4 Z Z) ?_|refine zf (zm 5 Z Z) ?_|refine zf (zm 6 Z Z) ?_|refine zf (zm 7 Z Z) ?_|refine zf (zm 8 Z Z) ?_|refine zc (zo 0 Z Z) ?_|refine zc (zo 1 Z Z) ?_|refine zc (zo 2 Z Z) ?_|refine zc (zo 3 Z Z) ?_|refine zc (zo 4 Z Z) ?_|refine zc (zo 5 Z Z) ?_|refine zc (zo 6 Z Z) ?_|refine zc (zo 7 Z Z) ?_|refine zc (zo 8 Z Z) ?_|refine zc (zm 0 Z Z) ?_|refine zc (zm 1 Z Z) ?_|refine zc (zm 2 Z Z) ?_|refine zc (zm 3 Z Z) ?_|refine zc (zm 4 Z Z) ?_|refine zc (zm 5 Z Z) ?_|refine zc (zm 6 Z Z) ?_|refine zc (zm 7 Z Z) ?_|refine zc (zm 8 Z Z) ?_))) : p := k
theorem yr (k : p := by (try refine Pd.st ?_);(repeat (first|exact Pd.nil|exact Pd.fnil|refine Pd.inner ?_|refine Pd.skip (by decide +kernel) ?_|refine zf (zo 0 Z Z) ?_|refine zf (zo 1 Z Z) ?_|refine zf (zo 2 Z Z) ?_|refine zf (zo 3 Z Z) ?_|refine zf (zo 4 Z Z) ?_|refine zf (zm 0 Z Z) ?_|refine zf (zm 1 Z Z) ?_|refine zf (zm 2 Z Z) ?_|refine zf (zm 3 Z Z) ?_|refine zf (zm 4 Z Z) ?_|refine zf (RdL.blk PQ Z) ?_|refine zf (PQ) ?_|refine zc (zo 0 Z Z) ?_|refine zc (zo 1 Z Z) ?_|refine zc (zo 2 Z Z) ?_|refine zc (zo 3 Z Z) ?_|refine zc (zo 4 Z Z) ?_|refine zc (zm 0 Z Z) ?_|refine zc (zm 1 Z Z) ?_|refine zc (zm 2 Z Z) ?_|refine zc (zm 3 Z Z) ?_|refine zc (zm 4 Z Z) ?_|refine zc (RdL.blk PQ Z) ?_|refine zc (PQ) ?_))) : p := k
theorem ym (k : p := by (try refine Pd.st ?_);(repeat (first|exact Pd.nil|exact Pd.fnil|refine Pd.inner ?_|refine Pd.skip (by decide +kernel) ?_|refine zf (RdL.blk (RdL.blk hb Z) Z) ?_|refine zf (RdL.blk (RdL.blkA (ds := lastsC es) hb Z) Z) ?_|refine zf ((RdL.blk hb Z)) ?_|refine zf ((RdL.blkA (ds := lastsC es) hb Z)) ?_|refine zc (RdL.blk (RdL.blk hb Z) Z) ?_|refine zc (RdL.blk (RdL.blkA (ds := lastsC es) hb Z) Z) ?_|refine zc ((RdL.blk hb Z)) ?_|refine zc ((RdL.blkA (ds := lastsC es) hb Z)) ?_))) : p := k
theorem yab (k : p := by (try refine Pd.st ?_);(repeat (first|exact Pd.nil|exact Pd.fnil|refine Pd.inner ?_|refine Pd.skip (by decide +kernel) ?_|refine zf (zo 0 Z Z) ?_|refine zf (zm 0 Z Z) ?_|refine zf (RdL.blk (RdL.blk hW (words_at hn3)) Z) ?_|refine zf ((RdL.blk hW (words_at hn3))) ?_|refine zc (zo 0 Z Z) ?_|refine zc (zm 0 Z Z) ?_|refine zc (RdL.blk (RdL.blk hW (words_at hn3)) Z) ?_|refine zc ((RdL.blk hW (words_at hn3))) ?_))) : p := k
theorem yq (k : p := by (repeat refine Pd.filter ?_); exact hS _ (.tail _ (.tail _ (.head _)))) : p := k
theorem yp (k : p := by (repeat refine Pd.filter ?_); exact hS _ (.tail _ (.head _))) : p := k
theorem yx (k : p := by show some (Value.slice V.na V.rows.length V.nc) = _; rw [hv]) : p := k
theorem yu (k : p := by show (0 + c.ms.length) * 16 ≤ _; omega) : p := k
theorem yh (k : p := by simpa using (List.mem_filter.1 hp1).2) : p := k
theorem yo (k : p := by rw [intCs_len, mixQ_len]; exact hi2) : p := k
theorem yw (k : p := by rw [if_pos hyes]; exact ⟨p, Z, Z⟩) : p := k
theorem yad (k : p := by unfold i64B; decide) : p := k
theorem yn (k : p := by show 3 < 12; omega) : p := k
theorem yac (k : p := by show 0 < 1; decide) : p := k
theorem yv (k : p := by show 1 < 3; omega) : p := k
theorem yl (k : p := by decide +kernel) : p := k
theorem yd (k : p := by simpa using h) : p := k
theorem yg (k : p := by simp; omega) : p := k
theorem yj (k : p := by kernel_rfl) : p := k
theorem yi (k : p := by simp [h2]) : p := k
theorem ye (k : p := by simp [h]) : p := k
theorem yk (k : p := by decide) : p := k
theorem yf (k : p := by omega) : p := k
theorem yb (k : p := by simp) : p := k
theorem xae (k : p := by exact .inl ⟨_, E _ (fun w => r1 w), h⟩) : p := k
theorem xaf (k : p := by exact .inl ⟨_, E _ (fun w => r2 w), h⟩) : p := k
theorem xag (k : p := by exact .inl ⟨v, fun a ha _ _ _ _ _ w => by simp only [execOp, ha.ev hv]; rfl, h⟩) : p := k
theorem xah (k : p := by exact .inl ⟨_, fun a ha _ _ _ _ _ w => by simp only [execOp, ha.ev hv]; rfl, h⟩) : p := k
theorem xai (k : p := by exact .inl ⟨_, fun a ha _ _ _ _ _ w => by simp only [execOp, ha.ev hv, ha.ev hu]; rfl, h⟩) : p := k
theorem xaj (k : p := by exact List.nodup_append.2 ⟨hGn, hnl, fun x hx y hy he => (hGb x hx).1 (.inr (he ▸ hy))⟩) : p := k
theorem xak (g : q) (k : Bq q → p := by (intro zq; (repeat (first|refine zS ?_|refine zR ?_|refine zB ?_|refine zL ?_|refine zC ?_|refine zG (zN ?_)|refine zG (zD 0 rfl rfl rfl rfl ?_))); exact zq.v)) : p := k ⟨g⟩
theorem xal (g : q) (k : Bq q → p := by (intro zq; (repeat (first|refine zS ?_|refine zR ?_|refine zB ?_|refine zL ?_|refine zC ?_|refine zG (zN ?_)|refine zG (zE rfl rfl (RdL.blk h rfl) ?_))); exact zq.v)) : p := k ⟨g⟩
theorem xam (g : q) (k : Bq q → p := by (intro zq; refine VC.condF Z (CK ?_); exact zq.v)) : p := k ⟨g⟩
theorem xan (k : p := by exact CR (Ret.int 2 Z Z Z ER ⟨rfl, Z⟩)) : p := k
theorem xao (g : q) (k : Bq q → p := by (intro zq; (repeat (first|refine zS ?_|refine zR ?_|refine zB ?_|refine zL ?_|refine zC ?_|refine zG (zN ?_)|refine zG (zD 0 rfl rfl rfl rfl ?_)|refine zG (zU rfl rfl rfl ?_))); exact zq.v)) : p := k ⟨g⟩
theorem xap (g : q) (k : Bq q → p := by (intro zq; (repeat (first|refine zS ?_|refine zR ?_|refine zB ?_|refine zL ?_|refine zC ?_|refine zG (zN ?_)|refine zG (zD 0 rfl rfl rfl rfl ?_)|refine zG (zE rfl rfl (RdL.blk hp rfl) ?_))); exact zq.v)) : p := k ⟨g⟩
theorem xaq (k : p := by exact CR (Ret.tmp 2 Z Z ER ⟨rfl, Z⟩)) : p := k
theorem xar (k : p := by exact CR (Ret.bool 2 Z Z Z ER ⟨rfl, Z⟩)) : p := k
theorem xas (g : q) (k : Bq q → p := by (intro zq; refine VC.condT Z ?_; exact zq.v)) : p := k ⟨g⟩
theorem xat (g : q) (k : Bq q → p := by (intro zq; (repeat (first|refine yG (yN ?_)|refine yG (yD 0 rfl rfl rfl rfl rfl ?_))); exact zq.v)) : p := k ⟨g⟩
theorem xau (g : q) (k : Bq q → p := by (intro zq; (repeat (first|refine zS ?_|refine zR ?_|refine zB ?_|refine zL ?_|refine zC ?_|refine zG (zN ?_)|refine zG (zE rfl rfl (RdL.blk hb rfl) ?_))); exact zq.v)) : p := k ⟨g⟩
theorem xav (g : q) (k : Bq q → p := by (intro zq; refine VG (VI (light_idx i Z Z Z Z Z Z hi2) ?_); exact zq.v)) : p := k ⟨g⟩
theorem xaw (g : q) (k : Bq q → p := by (intro zq; refine VG (VP Z Z yf yf ?_); exact zq.v)) : p := k ⟨g⟩
theorem xax (k : p := by exact ⟨(), trivial, SC Z (Sub.bl Z (by simp [headOk]; omega) (SN _)), ER⟩) : p := k
theorem xay (g : q) (k : Bq q → p := by (intro zq; refine VG (VL 0 (c.cells a cap) Z Z Z Z ?_); exact zq.v)) : p := k ⟨g⟩
theorem xaz (g : q) (k : Bq q → p := by (intro zq; refine VG (VK (Lc := []) (fun Fr w hF hw _ => places_spec (c := c) (a := a) (cap := cap) Fr w) Z Z ?_); exact zq.v)) : p := k ⟨g⟩
theorem xba (g : q) (k : Bq q → p := by (intro zq; (repeat (first|refine zS ?_|refine zR ?_|refine zB ?_|refine zL ?_|refine zC ?_|refine zG (zN ?_)|refine zG (zD 0 rfl rfl rfl rfl ?_)|refine zG (zD 1 rfl rfl rfl rfl ?_))); exact zq.v)) : p := k ⟨g⟩
theorem xbb (g : q) (k : Bq q → p := by (intro zq; (repeat (first|refine zS ?_|refine zR ?_|refine zB ?_|refine zL ?_|refine zC ?_|refine zG (zN ?_)|refine zG (zD 0 rfl rfl rfl rfl ?_)|refine zG (zD 1 rfl rfl rfl rfl ?_)|refine zG (zD 2 rfl rfl rfl rfl ?_))); exact zq.v)) : p := k ⟨g⟩
theorem xbc (g : q) (k : Bq q → p := by (intro zq; (repeat (first|refine zS ?_|refine zR ?_|refine zB ?_|refine zL ?_|refine zC ?_|refine zG (zN ?_)|refine zG (zD 0 rfl rfl rfl rfl ?_)|refine zG (zD 1 rfl rfl rfl rfl ?_)|refine zG (zD 2 rfl rfl rfl rfl ?_)|refine zG (zU rfl rfl rfl ?_))); exact zq.v)) : p := k ⟨g⟩
theorem xbd (g : q) (k : Bq q → p := by (intro zq; refine VG (VY 40 false Z Z ?_); exact zq.v)) : p := k ⟨g⟩
theorem xbe (g : q) (k : Bq q → p := by (intro zq; (repeat (first|refine zS ?_|refine zR ?_|refine zB ?_|refine zL ?_|refine zC ?_|refine zG (zN ?_)|refine zG (zD 0 rfl rfl rfl rfl ?_)|refine zG (zD 1 rfl rfl rfl rfl ?_)|refine zG (zU rfl rfl rfl ?_))); exact zq.v)) : p := k ⟨g⟩
theorem xbf (g : q) (k : Bq q → p := by (intro zq; refine CS (CG (VG (VN ?_))); exact zq.v)) : p := k ⟨g⟩
theorem xbg (g : q) (k : Bq q → p := by (intro zq; refine CS (CG ?_); exact zq.v)) : p := k ⟨g⟩
theorem xbh (g : q) (k : Bq q → p := by (intro zq; refine VG (VN ?_); exact zq.v)) : p := k ⟨g⟩
theorem xbi (g : q) (k : Bq q → p := by (intro zq; refine VG (VO.ld 2 Z Z Z Z (VG (VO.ld 0 Z Z Z Z ?_))); exact zq.v)) : p := k ⟨g⟩
theorem xbj (g : q) (k : Bq q → p := by (intro zq; refine VG (VY 47 false Z Z ?_); exact zq.v)) : p := k ⟨g⟩
theorem xbk (g : q) (k : Bq q → p := by (intro zq; refine VG (VY 54 false Z Z ?_); exact zq.v)) : p := k ⟨g⟩
theorem xbl (g : q) (k : Bq q → p := by (intro zq; refine VG (VY 61 false Z Z ?_); exact zq.v)) : p := k ⟨g⟩
theorem xbm (g : q) (k : Bq q → p := by (intro zq; refine VG (VY 68 false Z Z ?_); exact zq.v)) : p := k ⟨g⟩
theorem xbn (g : q) (k : Bq q → p := by (intro zq; refine VG (VY 75 false Z Z ?_); exact zq.v)) : p := k ⟨g⟩
theorem xbo (g : q) (k : Bq q → p := by (intro zq; refine VG (VY 82 false Z Z ?_); exact zq.v)) : p := k ⟨g⟩
theorem xbp (g : q) (k : Bq q → p := by (intro zq; refine AG (AO (OpT.callP (φ := fun v => v = .int .i64 (near c.clients 1 6)) (fun Fr w _ _ _ => rnear_spec Fr w _ _ _) rfl) rfl (fun v L' h => by obtain ⟨_, rfl⟩ := h; exact yq) ?_); exact zq.v)) : p := k ⟨g⟩
theorem xbq (g : q) (k : Bq q → p := by (intro zq; refine AG (AO (OpT.callP (φ := fun v => v = .int .i64 (near c.queue 1 16)) (fun Fr w _ _ _ => rnear_spec Fr w _ _ _) rfl) rfl (fun v L' h => by obtain ⟨_, rfl⟩ := h; exact yq) ?_); exact zq.v)) : p := k ⟨g⟩
theorem xbr (g : q) (k : Bq q → p := by (intro zq; refine AG (AO (OpT.callP (φ := fun v => v = .int .i64 (near c.window 1 16)) (fun Fr w _ _ _ => rnear_spec Fr w _ _ _) rfl) rfl (fun v L' h => by obtain ⟨_, rfl⟩ := h; exact yq) ?_); exact zq.v)) : p := k ⟨g⟩
theorem xbs (g : q) (k : Bq q → p := by (intro zq; refine AG (AO (OpT.callP (φ := fun v => v = .int .i64 (near c.reads 1 16)) (fun Fr w _ _ _ => rnear_spec Fr w _ _ _) rfl) rfl (fun v L' h => by obtain ⟨_, rfl⟩ := h; exact yq) ?_); exact zq.v)) : p := k ⟨g⟩
theorem xbt (g : q) (k : Bq q → p := by (intro zq; refine AG (AO (OpT.callP (φ := fun v => v = .int .i64 (near c.link 4 64)) (fun Fr w _ _ _ => rnear_spec Fr w _ _ _) rfl) rfl (fun v L' h => by obtain ⟨_, rfl⟩ := h; exact yq) ?_); exact zq.v)) : p := k ⟨g⟩
theorem xbu (g : q) (k : Bq q → p := by (intro zq; refine AG (AO (OpT.callP (φ := fun v => v = .int .i64 (near c.patience 4 64)) (fun Fr w _ _ _ => rnear_spec Fr w _ _ _) rfl) rfl (fun v L' h => by obtain ⟨_, rfl⟩ := h; exact yq) ?_); exact zq.v)) : p := k ⟨g⟩
theorem xbv (g : q) (k : Bq q → p := by (intro zq; refine AG (AO (OpT.callP (φ := fun v => v = .int .i64 (near c.timeout 4 64)) (fun Fr w _ _ _ => rnear_spec Fr w _ _ _) rfl) rfl (fun v L' h => by obtain ⟨_, rfl⟩ := h; exact yq) ?_); exact zq.v)) : p := k ⟨g⟩
theorem xbw (g : q) (k : Bq q → p := by (intro zq; refine AG (AO (OpT.callP (φ := fun v => v = .int .i64 (near c.budget 0 16)) (fun Fr w _ _ _ => rnear_spec Fr w _ _ _) rfl) rfl (fun v L' h => by obtain ⟨_, rfl⟩ := h; exact yq) ?_); exact zq.v)) : p := k ⟨g⟩
theorem xbx (g : q) (k : Bq q → p := by (intro zq; refine AG (AO (OpT.callP (φ := fun v => v = .int .i64 (near c.refill 1 1099511627776)) (fun Fr w _ _ _ => rnear_spec Fr w _ _ _) rfl) rfl (fun v L' h => by obtain ⟨_, rfl⟩ := h; exact yq) ?_); exact zq.v)) : p := k ⟨g⟩
theorem xby (g : q) (k : Bq q → p := by (intro zq; refine AG (AI Z (light_conf Z Z) ?_); exact zq.v)) : p := k ⟨g⟩
theorem xbz (g : q) (k : Bq q → p := by (intro zq; refine AG (AT (vs := [.int .i64 (near c.nodes 1 6), .int .i64 (near c.chain 1 (near c.nodes 1 6)), .int .i64 (near c.clients 1 6), .slice none 0 0, .int .i64 (near c.queue 1 16), .int .i64 (near c.window 1 16), .int .i64 (near c.reads 1 16), .int .i64 (near c.link 4 64), .int .i64 (near c.patience 4 64), .int .i64 (near c.timeout 4 64), .int .i64 (near c.budget 0 16), .int .i64 (near c.refill 1 1099511627776)]) (cs' := [.int .i64 (near c.nodes 1 6), .int .i64 (near c.chain 1 (near c.nodes 1 6)), .int .i64 (near c.clients 1 6), .slice none 0 0, .int .i64 (near c.queue 1 16), .int .i64 (near c.window 1 16), .int .i64 (near c.reads 1 16), .int .i64 (near c.link 4 64), .int .i64 (near c.patience 4 64), .int .i64 (near c.timeout 4 64), .int .i64 (near c.budget 0 16), .int .i64 (near c.refill 1 1099511627776)]) 0 Z Z Z Z Z (NR _) Z Z Z yq (AG (AN ?_))); exact zq.v)) : p := k ⟨g⟩
theorem xca (k : p := by exact ⟨d, trivial, sbZ, ER⟩) : p := k
theorem xcb (g : q) (k : Bq q → p := by (intro zq; refine VO.ent (L' := [slH memT 2 none 0 0 [], pt d [.int .i64 0, .slice none 0 0, .int .i64 0] chT, pt b (c.cells a cap) chT]) (Imp.slNil (pkZ [0, 0])).ent ?_; exact zq.v)) : p := k ⟨g⟩
theorem xcc (k : p := by exact CR (Ret.cell 2 Z Z Z (RdL.many 1 Z Z) (IP 0 Z Imp.nil).ent ⟨a', c', Z, Z⟩)) : p := k
theorem xcd (g : q) (k : Bq q → p := by (intro zq; refine VG (VT (vs := chZ.cells none 0) (cs' := chZ.cells none 0) 0 Z Z Z Z (NR _) Z Z Z ?_); exact zq.v)) : p := k ⟨g⟩
theorem xce (g : q) (k : Bq q → p := by (intro zq; refine CR (Ret.tmp2 6 7 Z Z Z Imp.nil.ent ?_); exact zq.v)) : p := k ⟨g⟩
theorem xcf (g : q) (k : Bq q → p := by (intro zq; refine AG (AI Z (light_idx n Z Z Z Z Z yf yf) ?_); exact zq.v)) : p := k ⟨g⟩
theorem xcg (g : q) (k : Bq q → p := by (intro zq; (repeat (first|refine zS ?_|refine zR ?_|refine zB ?_|refine zL ?_|refine zC ?_|refine zG (zN ?_))); exact zq.v)) : p := k ⟨g⟩
theorem xch (g : q) (k : Bq q → p := by (intro zq; (repeat (first|refine yG (yN ?_)|refine yG (yU rfl rfl rfl rfl ?_))); exact zq.v)) : p := k ⟨g⟩
theorem xci (g : q) (k : Bq q → p := by (intro zq; refine VC.condF Z (CX ?_); exact zq.v)) : p := k ⟨g⟩
theorem xcj (g : q) (k : Bq q → p := by (intro zq; (repeat (first|refine zS ?_|refine zR ?_|refine zB ?_|refine zL ?_|refine zC ?_|refine zG (zN ?_)|refine zG (zD 0 rfl rfl rfl rfl ?_)|refine zG (zD 1 rfl rfl rfl rfl ?_)|refine zG (zD 2 rfl rfl rfl rfl ?_)|refine zG (zD 3 rfl rfl rfl rfl ?_)|refine zG (zU rfl rfl rfl ?_))); exact zq.v)) : p := k ⟨g⟩
theorem xck (g : q) (k : Bq q → p := by (intro zq; (repeat (first|refine zS ?_|refine zR ?_|refine zB ?_|refine zL ?_|refine zC ?_|refine zG (zN ?_)|refine zG (zU rfl rfl rfl ?_))); exact zq.v)) : p := k ⟨g⟩
theorem xcl (k : p := by exact ⟨(a2, c2), trivial, sbZ, (pkZ [0, 1, 1, 1]).ent⟩) : p := k
theorem xcm (k : p := by exact ⟨(sa, sc), trivial, sbZ, ER⟩) : p := k
theorem xcn (g : q) (k : Bq q → p := by (intro zq; (repeat (first|refine yG (yN ?_)|refine yG (yD 0 rfl rfl rfl rfl rfl ?_)|refine yG (yD 1 rfl rfl rfl rfl rfl ?_)|refine yG (yD 2 rfl rfl rfl rfl rfl ?_)|refine yG (yD 3 rfl rfl rfl rfl rfl ?_)|refine yG (yU rfl rfl rfl rfl ?_))); exact zq.v)) : p := k ⟨g⟩
theorem xco (g : q) (k : Bq q → p := by (intro zq; (repeat (first|refine yG (yN ?_)|refine yG (yD 0 rfl rfl rfl rfl rfl ?_)|refine yG (yD 1 rfl rfl rfl rfl rfl ?_)|refine yG (yD 2 rfl rfl rfl rfl rfl ?_))); exact zq.v)) : p := k ⟨g⟩
theorem xcp (g : q) (k : Bq q → p := by (intro zq; refine AG (AI Z (light_idx n yx Z Z Z Z Z hn2) ?_); exact zq.v)) : p := k ⟨g⟩
theorem xcq (g : q) (k : Bq q → p := by (intro zq; (repeat (first|refine yG (yN ?_)|refine yG (yD 0 rfl rfl rfl rfl rfl ?_)|refine yG (yD 1 rfl rfl rfl rfl rfl ?_)|refine yG (yD 2 rfl rfl rfl rfl rfl ?_)|refine yG (yU rfl rfl rfl rfl ?_))); exact zq.v)) : p := k ⟨g⟩
theorem xcr (g : q) (k : Bq q → p := by (intro zq; (repeat (first|refine yG (yN ?_)|refine yG (yD 0 rfl rfl rfl rfl rfl ?_)|refine yG (yD 1 rfl rfl rfl rfl rfl ?_)|refine yG (yU rfl rfl rfl rfl ?_))); exact zq.v)) : p := k ⟨g⟩
theorem xcs (g : q) (k : Bq q → p := by (intro zq; refine VG (VI (light_idx 0 Z Z Z Z Z Z yk) ?_); exact zq.v)) : p := k ⟨g⟩
theorem xct (g : q) (k : Bq q → p := by (intro zq; (repeat (first|refine zS ?_|refine zR ?_|refine zB ?_|refine zL ?_|refine zC ?_|refine zG (zN ?_)|refine zG (zE rfl rfl (RdL.blk h rfl) ?_)|refine zG (zU rfl rfl rfl ?_))); exact zq.v)) : p := k ⟨g⟩
theorem xcu (k : p := by exact CR (Ret.tmp 2 Z Z Imp.nil.ent ⟨rfl, Z⟩)) : p := k
theorem xcv (g : q) (k : Bq q → p := by (intro zq; refine VG (VV (fun Fr w hF hs _ => made_1 Fr w (h.of hF hs)) Z ?_); exact zq.v)) : p := k ⟨g⟩
theorem xcw (g : q) (k : Bq q → p := by (intro zq; (repeat (first|refine zS ?_|refine zR ?_|refine zB ?_|refine zL ?_|refine zC ?_|refine zG (zN ?_)|refine zG (zE rfl rfl (RdL.blk hb rfl) ?_)|refine zG (zU rfl rfl rfl ?_))); exact zq.v)) : p := k ⟨g⟩
theorem xcx (k : p := by exact CR (Ret.tmp 4 Z Z ER ⟨rfl, Z⟩)) : p := k
theorem xcy (g : q) (k : Bq q → p := by (intro zq; (repeat (first|refine zS ?_|refine zR ?_|refine zB ?_|refine zL ?_|refine zC ?_|refine zG (zN ?_)|refine zG (zE rfl rfl (RdL.blk hn rfl) ?_)|refine zG (zU rfl rfl rfl ?_))); exact zq.v)) : p := k ⟨g⟩
theorem xcz (g : q) (k : Bq q → p := by (intro zq; refine VG (VT (vs := vwC vwZ) (cs' := vwC vwZ) 0 Z Z Z Z (NR _) Z Z Z ?_); exact zq.v)) : p := k ⟨g⟩
theorem xda (g : q) (k : Bq q → p := by (intro zq; (repeat (first|refine yG (yN ?_)|refine yG (yD 0 rfl rfl rfl rfl rfl ?_)|refine yG (yU rfl rfl rfl rfl ?_))); exact zq.v)) : p := k ⟨g⟩
theorem xdb (g : q) (k : Bq q → p := by (intro zq; refine VG (VI (light_idx 0 Z Z Z Z Z Z yac) ?_); exact zq.v)) : p := k ⟨g⟩
theorem zdc (g : q) (k : Bq q → p := by (intro zq; refine xck ?_; refine xaw ?_; exact zq.v)) : p := k ⟨g⟩
theorem zdd (g : q) (k : Bq q → p := by (intro zq; refine zdc ?_; refine xck ?_; exact zq.v)) : p := k ⟨g⟩
theorem zde (g : q) (k : Bq q → p := by (intro zq; refine xao ?_; refine xam ?_; exact zq.v)) : p := k ⟨g⟩
theorem zdf (g : q) (k : Bq q → p := by (intro zq; refine xby ?_; refine xbz ?_; exact zq.v)) : p := k ⟨g⟩
theorem zdg (g : q) (k : Bq q → p := by (intro zq; refine xak ?_; refine xam ?_; exact zq.v)) : p := k ⟨g⟩
theorem zdh (g : q) (k : Bq q → p := by (intro zq; refine xbh ?_; refine xbg ?_; exact zq.v)) : p := k ⟨g⟩
theorem zdi (g : q) (k : Bq q → p := by (intro zq; refine xbn ?_; refine xbo ?_; exact zq.v)) : p := k ⟨g⟩
theorem zdj (k : p := by (refine zdf ?_; exact xca)) : p := k
theorem zdk (g : q) (k : Bq q → p := by (intro zq; refine xao ?_; refine xas ?_; exact zq.v)) : p := k ⟨g⟩
theorem zdl (g : q) (k : Bq q → p := by (intro zq; refine xbm ?_; refine zdi ?_; exact zq.v)) : p := k ⟨g⟩
theorem zdm (g : q) (k : Bq q → p := by (intro zq; refine xck ?_; refine xam ?_; exact zq.v)) : p := k ⟨g⟩
theorem zdn (g : q) (k : Bq q → p := by (intro zq; refine xak ?_; refine xaw ?_; exact zq.v)) : p := k ⟨g⟩
theorem zdo (g : q) (k : Bq q → p := by (intro zq; refine zdn ?_; refine xak ?_; exact zq.v)) : p := k ⟨g⟩
theorem zdp (g : q) (k : Bq q → p := by (intro zq; refine xbl ?_; refine zdl ?_; exact zq.v)) : p := k ⟨g⟩
theorem zdq (g : q) (k : Bq q → p := by (intro zq; refine TF 12 Tryz.func56 Z yj tabOk Z Z ?_; refine xao ?_; exact zq.v)) : p := k ⟨g⟩
theorem zdr (g : q) (k : Bq q → p := by (intro zq; refine TF 10 Tryz.func25 Z yj tabOk Z Z ?_; refine xao ?_; exact zq.v)) : p := k ⟨g⟩
theorem zds (g : q) (k : Bq q → p := by (intro zq; refine xbk ?_; refine zdp ?_; exact zq.v)) : p := k ⟨g⟩
theorem zdt (k : p := by (refine xak ?_; exact CR (Ret.tmp 2 Z Z ER ⟨q, Z, Z⟩))) : p := k
theorem zdu (g : q) (k : Bq q → p := by (intro zq; refine xak ?_; refine VG (VY 6 false Z (DF yf) ?_); exact zq.v)) : p := k ⟨g⟩
end Go.Proofs.YtbbnmgakmcppdaaGreatDoor
