/- Abbreviations of tactics. No condition. -/
import Derived.OrdersHeld
import Derived.Deep.MidRow
import Derived.Laws.AppendOwn
import Derived.Below
import Derived.WalkKit
import Derived.Scope
import Derived.MapKept
import Derived.Laws.StructEq
import Derived.Laws.BitsAllLaws
import Derived.Test.YtkpambabfalaiaaGreatDoorRows
import Derived.KernelRfl
import Derived.Shelf.Strconv.Itoa0
import Derived.Shelf.Strconv.Itoa1
import Derived.Shelf.LaysM
import Derived.Shelf.Strconv.Itoa2
import Derived.Shelf.Strconv.Itoa3
import Derived.Test.YtkpambabfalaiaaGreatDoorProg
import Derived.Shelf.SlGeneric
import Derived.Shelf.SlMaps.Clone
import Derived.Laws.LoneSync
import Derived.Lib.Builder
import Derived.Lib.ItoaMem
import Derived.Lib.LaidTab
import Derived.Lib.Join
import Derived.Lib.OthersKept
import Derived.Lib.ItoaLen
import Derived.ProofKit
import Derived.OpenShut
import Derived.SizedLaws
import Derived.Carry
import Derived.LaidMore
import Derived.MakeChecks
import Derived.Stop.Joined
import Derived.Deep.Strs
import Derived.Deep.Slices
import Derived.Test.YtkpambabfalaiaaGreatDoorCards
import Derived.Test.YtkpambabfalaiaaGreatDoorTie
import Derived.Lay
import Derived.SevenTiedAt
namespace Go.Proofs.YtkpambabfalaiaaGreatDoor
theorem Z {α : Sort _} {a : α} : a = a := rfl
structure Bq (q : Prop) : Prop where
 v : q
variable {p q : Prop}
theorem DF : type_of% @decide_eq_false := @decide_eq_false
theorem DT : type_of% @decide_eq_true := @decide_eq_true
theorem GE : type_of% @List.getElem?_eq_getElem := @List.getElem?_eq_getElem
theorem NR : type_of% @Nat.le_refl := @Nat.le_refl
theorem ME : type_of% @List.mem_of_getElem? := @List.mem_of_getElem?
theorem yas (k : p := by (try refine Pd.st ?_);(repeat (first|exact Pd.nil|exact Pd.fnil|refine Pd.inner ?_|refine Pd.skip (by decide +kernel) ?_|refine zf (zo 0 rfl rfl) ?_|refine zf (zo 1 rfl rfl) ?_|refine zf (zo 2 rfl rfl) ?_|refine zf (zo 3 rfl rfl) ?_|refine zf (zo 4 rfl rfl) ?_|refine zf (zo 5 rfl rfl) ?_|refine zf (zo 6 rfl rfl) ?_|refine zf (zo 7 rfl rfl) ?_|refine zf (zo 8 rfl rfl) ?_|refine zf (zm 0 rfl rfl) ?_|refine zf (zm 1 rfl rfl) ?_|refine zf (zm 2 rfl rfl) ?_|refine zf (zm 3 rfl rfl) ?_|refine zf (zm 4 rfl rfl) ?_|refine zf (zm 5 rfl rfl) ?_|refine zf (zm 6 rfl rfl) ?_|refine zf (zm 7 rfl rfl) ?_|refine zf (zm 8 rfl rfl) ?_|refine zc (zo 0 rfl rfl) ?_|refine zc (zo 1 rfl rfl) ?_|refine zc (zo 2 rfl rfl) ?_|refine zc (zo 3 rfl rfl) ?_|refine zc (zo 4 rfl rfl) ?_|refine zc (zo 5 rfl rfl) ?_|refine zc (zo 6 rfl rfl) ?_|refine zc (zo 7 rfl rfl) ?_|refine zc (zo 8 rfl rfl) ?_|refine zc (zm 0 rfl rfl) ?_|refine zc (zm 1 rfl rfl) ?_|refine zc (zm 2 rfl rfl) ?_|refine zc (zm 3 rfl rfl) ?_|refine zc (zm 4 rfl rfl) ?_|refine zc (zm 5 rfl rfl) ?_|refine zc (zm 6 rfl rfl) ?_|refine zc (zm 7 rfl rfl) ?_|refine zc (zm 8 rfl rfl) ?_|refine Pd.fconsM (MpL.one 0 rfl) ?_|refine Pd.fconsM (MpL.one 1 rfl) ?_|refine Pd.fconsM (MpL.one 2 rfl) ?_|refine Pd.fconsM (MpL.one 3 rfl) ?_|refine Pd.fconsM (MpL.one 4 rfl) ?_|refine Pd.fconsM (MpL.one 5 rfl) ?_|refine Pd.fconsM (MpL.one 6 rfl) ?_|refine Pd.fconsM (MpL.one 7 rfl) ?_|refine Pd.fconsM (MpL.one 8 rfl) ?_|refine Pd.consM (MpL.one 0 rfl) ?_|refine Pd.consM (MpL.one 1 rfl) ?_|refine Pd.consM (MpL.one 2 rfl) ?_|refine Pd.consM (MpL.one 3 rfl) ?_|refine Pd.consM (MpL.one 4 rfl) ?_|refine Pd.consM (MpL.one 5 rfl) ?_|refine Pd.consM (MpL.one 6 rfl) ?_|refine Pd.consM (MpL.one 7 rfl) ?_|refine Pd.consM (MpL.one 8 rfl) ?_))) : p := k
theorem yar (k : p := by (try refine Pd.st ?_);(repeat (first|exact Pd.nil|exact Pd.fnil|refine Pd.inner ?_|refine Pd.skip (by decide +kernel) ?_|refine zf (zo 0 rfl rfl) ?_|refine zf (zo 1 rfl rfl) ?_|refine zf (zo 2 rfl rfl) ?_|refine zf (zo 3 rfl rfl) ?_|refine zf (zo 4 rfl rfl) ?_|refine zf (zo 5 rfl rfl) ?_|refine zf (zo 6 rfl rfl) ?_|refine zf (zo 7 rfl rfl) ?_|refine zf (zo 8 rfl rfl) ?_|refine zf (zm 0 rfl rfl) ?_|refine zf (zm 1 rfl rfl) ?_|refine zf (zm 2 rfl rfl) ?_|refine zf (zm 3 rfl rfl) ?_|refine zf (zm 4 rfl rfl) ?_|refine zf (zm 5 rfl rfl) ?_|refine zf (zm 6 rfl rfl) ?_|refine zf (zm 7 rfl rfl) ?_|refine zf (zm 8 rfl rfl) ?_|refine zc (zo 0 rfl rfl) ?_|refine zc (zo 1 rfl rfl) ?_|refine zc (zo 2 rfl rfl) ?_|refine zc (zo 3 rfl rfl) ?_|refine zc (zo 4 rfl rfl) ?_|refine zc (zo 5 rfl rfl) ?_|refine zc (zo 6 rfl rfl) ?_|refine zc (zo 7 rfl rfl) ?_|refine zc (zo 8 rfl rfl) ?_|refine zc (zm 0 rfl rfl) ?_|refine zc (zm 1 rfl rfl) ?_|refine zc (zm 2 rfl rfl) ?_|refine zc (zm 3 rfl rfl) ?_|refine zc (zm 4 rfl rfl) ?_|refine zc (zm 5 rfl rfl) ?_|refine zc (zm 6 rfl rfl) ?_|refine zc (zm 7 rfl rfl) ?_|refine zc (zm 8 rfl rfl) ?_))) : p := k
theorem yaq (k : p := by (try refine Pd.st ?_);(repeat (first|exact Pd.nil|exact Pd.fnil|refine Pd.inner ?_|refine Pd.skip (by decide +kernel) ?_|refine zf (zo 0 Z Z) ?_|refine zf (zo 1 Z Z) ?_|refine zf (zo 2 Z Z) ?_|refine zf (zo 3 Z Z) ?_|refine zf (zo 4 Z Z) ?_|refine zf (zo 5 Z Z) ?_|refine zf (zo 6 Z Z) ?_|refine zf (zo 7 Z Z) ?_|refine zf (zo 8 Z Z) ?_|refine zf (zm 0 Z Z) ?_|refine zf (zm 1 Z Z) ?_|refine zf (zm 2 Z Z) ?_|refine zf (zm 3 Z Z) ?_|refine zf (zm 4 Z Z) ?_|refine zf (zm 5 Z Z) ?_|refine zf (zm 6 Z Z) ?_|refine zf (zm 7 Z Z) ?_|refine zf (zm 8 Z Z) ?_|refine zc (zo 0 Z Z) ?_|refine zc (zo 1 Z Z) ?_|refine zc (zo 2 Z Z) ?_|refine zc (zo 3 Z Z) ?_|refine zc (zo 4 Z Z) ?_|refine zc (zo 5 Z Z) ?_|refine zc (zo 6 Z Z) ?_|refine zc (zo 7 Z Z) ?_|refine zc (zo 8 Z Z) ?_|refine zc (zm 0 Z Z) ?_|refine zc (zm 1 Z Z) ?_|refine zc (zm 2 Z Z) ?_|refine zc (zm 3 Z Z) ?_|refine zc (zm 4 Z Z) ?_|refine zc (zm 5 Z Z) ?_|refine zc (zm 6 Z Z) ?_|refine zc (zm 7 Z Z) ?_|refine zc (zm 8 Z Z) ?_))) : p := k
theorem yan (k : p := by (try refine Pd.st ?_);(repeat (first|exact Pd.nil|exact Pd.fnil|refine Pd.inner ?_|refine Pd.skip (by decide +kernel) ?_|refine zf (zo 0 rfl rfl) ?_|refine zf (zo 1 rfl rfl) ?_|refine zf (zo 2 rfl rfl) ?_|refine zf (zo 3 rfl rfl) ?_|refine zf (zm 0 rfl rfl) ?_|refine zf (zm 1 rfl rfl) ?_|refine zf (zm 2 rfl rfl) ?_|refine zf (zm 3 rfl rfl) ?_|refine zf (RdL.blk (qrc _ _ 0 _ rfl rfl) rfl) ?_|refine zf (RdL.blk (qrc _ _ 1 _ rfl rfl) rfl) ?_|refine zf ((qrc _ _ 0 _ rfl rfl)) ?_|refine zf ((qrc _ _ 1 _ rfl rfl)) ?_|refine zc (zo 0 rfl rfl) ?_|refine zc (zo 1 rfl rfl) ?_|refine zc (zo 2 rfl rfl) ?_|refine zc (zo 3 rfl rfl) ?_|refine zc (zm 0 rfl rfl) ?_|refine zc (zm 1 rfl rfl) ?_|refine zc (zm 2 rfl rfl) ?_|refine zc (zm 3 rfl rfl) ?_|refine zc (RdL.blk (qrc _ _ 0 _ rfl rfl) rfl) ?_|refine zc (RdL.blk (qrc _ _ 1 _ rfl rfl) rfl) ?_|refine zc ((qrc _ _ 0 _ rfl rfl)) ?_|refine zc ((qrc _ _ 1 _ rfl rfl)) ?_))) : p := k
theorem yax (k : p := by (try refine Pd.st ?_);(repeat (first|exact Pd.nil|exact Pd.fnil|refine Pd.inner ?_|refine Pd.skip (by decide +kernel) ?_|refine zf (zo 0 rfl rfl) ?_|refine zf (zo 1 rfl rfl) ?_|refine zf (zo 2 rfl rfl) ?_|refine zf (zo 3 rfl rfl) ?_|refine zf (zo 4 rfl rfl) ?_|refine zf (zm 0 rfl rfl) ?_|refine zf (zm 1 rfl rfl) ?_|refine zf (zm 2 rfl rfl) ?_|refine zf (zm 3 rfl rfl) ?_|refine zf (zm 4 rfl rfl) ?_|refine zf (RdL.blk (qra _ _ rfl rfl) rfl) ?_|refine zf ((qra _ _ rfl rfl)) ?_|refine zc (zo 0 rfl rfl) ?_|refine zc (zo 1 rfl rfl) ?_|refine zc (zo 2 rfl rfl) ?_|refine zc (zo 3 rfl rfl) ?_|refine zc (zo 4 rfl rfl) ?_|refine zc (zm 0 rfl rfl) ?_|refine zc (zm 1 rfl rfl) ?_|refine zc (zm 2 rfl rfl) ?_|refine zc (zm 3 rfl rfl) ?_|refine zc (zm 4 rfl rfl) ?_|refine zc (RdL.blk (qra _ _ rfl rfl) rfl) ?_|refine zc ((qra _ _ rfl rfl)) ?_))) : p := k
theorem yam (k : p := by (try refine Pd.st ?_);(repeat (first|exact Pd.nil|exact Pd.fnil|refine Pd.inner ?_|refine Pd.skip (by decide +kernel) ?_|refine zf (zo 0 rfl rfl) ?_|refine zf (zo 1 rfl rfl) ?_|refine zf (zo 2 rfl rfl) ?_|refine zf (zo 3 rfl rfl) ?_|refine zf (zm 0 rfl rfl) ?_|refine zf (zm 1 rfl rfl) ?_|refine zf (zm 2 rfl rfl) ?_|refine zf (zm 3 rfl rfl) ?_|refine zf (RdL.blk (qra _ _ rfl rfl) rfl) ?_|refine zf ((qra _ _ rfl rfl)) ?_|refine zc (zo 0 rfl rfl) ?_|refine zc (zo 1 rfl rfl) ?_|refine zc (zo 2 rfl rfl) ?_|refine zc (zo 3 rfl rfl) ?_|refine zc (zm 0 rfl rfl) ?_|refine zc (zm 1 rfl rfl) ?_|refine zc (zm 2 rfl rfl) ?_|refine zc (zm 3 rfl rfl) ?_|refine zc (RdL.blk (qra _ _ rfl rfl) rfl) ?_|refine zc ((qra _ _ rfl rfl)) ?_))) : p := k
theorem yap (k : p := by (try refine Pd.st ?_);(repeat (first|exact Pd.nil|exact Pd.fnil|refine Pd.inner ?_|refine Pd.skip (by decide +kernel) ?_|refine zf (zo 0 rfl rfl) ?_|refine zf (zo 1 rfl rfl) ?_|refine zf (zo 2 rfl rfl) ?_|refine zf (zo 3 rfl rfl) ?_|refine zf (zm 0 rfl rfl) ?_|refine zf (zm 1 rfl rfl) ?_|refine zf (zm 2 rfl rfl) ?_|refine zf (zm 3 rfl rfl) ?_|refine zf (RdL.blk (pra _ _ rfl rfl) rfl) ?_|refine zf ((pra _ _ rfl rfl)) ?_|refine zc (zo 0 rfl rfl) ?_|refine zc (zo 1 rfl rfl) ?_|refine zc (zo 2 rfl rfl) ?_|refine zc (zo 3 rfl rfl) ?_|refine zc (zm 0 rfl rfl) ?_|refine zc (zm 1 rfl rfl) ?_|refine zc (zm 2 rfl rfl) ?_|refine zc (zm 3 rfl rfl) ?_|refine zc (RdL.blk (pra _ _ rfl rfl) rfl) ?_|refine zc ((pra _ _ rfl rfl)) ?_))) : p := k
theorem yw (k : p := by (try refine Pd.st ?_);(repeat (first|exact Pd.nil|exact Pd.fnil|refine Pd.inner ?_|refine Pd.skip (by decide +kernel) ?_|refine zf (zo 0 Z Z) ?_|refine zf (zo 1 Z Z) ?_|refine zf (zo 2 Z Z) ?_|refine zf (zo 3 Z Z) ?_|refine zf (zo 4 Z Z) ?_|refine zf (zm 0 Z Z) ?_|refine zf (zm 1 Z Z) ?_|refine zf (zm 2 Z Z) ?_|refine zf (zm 3 Z Z) ?_|refine zf (zm 4 Z Z) ?_|refine zf (RdL.blk PQ Z) ?_|refine zf (PQ) ?_|refine zc (zo 0 Z Z) ?_|refine zc (zo 1 Z Z) ?_|refine zc (zo 2 Z Z) ?_|refine zc (zo 3 Z Z) ?_|refine zc (zo 4 Z Z) ?_|refine zc (zm 0 Z Z) ?_|refine zc (zm 1 Z Z) ?_|refine zc (zm 2 Z Z) ?_|refine zc (zm 3 Z Z) ?_|refine zc (zm 4 Z Z) ?_|refine zc (RdL.blk PQ Z) ?_|refine zc (PQ) ?_))) : p := k
theorem yao (k : p := by (try refine Pd.st ?_);(repeat (first|exact Pd.nil|exact Pd.fnil|refine Pd.inner ?_|refine Pd.skip (by decide +kernel) ?_|refine zf (zo 0 Z Z) ?_|refine zf (zo 1 Z Z) ?_|refine zf (zo 2 Z Z) ?_|refine zf (zo 3 Z Z) ?_|refine zf (zm 0 Z Z) ?_|refine zf (zm 1 Z Z) ?_|refine zf (zm 2 Z Z) ?_|refine zf (zm 3 Z Z) ?_|refine zf (RdL.blk (pra _ _ Z Z) Z) ?_|refine zf ((pra _ _ Z Z)) ?_|refine zc (zo 0 Z Z) ?_|refine zc (zo 1 Z Z) ?_|refine zc (zo 2 Z Z) ?_|refine zc (zo 3 Z Z) ?_|refine zc (zm 0 Z Z) ?_|refine zc (zm 1 Z Z) ?_|refine zc (zm 2 Z Z) ?_|refine zc (zm 3 Z Z) ?_|refine zc (RdL.blk (pra _ _ Z Z) Z) ?_|refine zc ((pra _ _ Z Z)) ?_))) : p := k
theorem ym (k : p := by (try refine Pd.st ?_);(repeat (first|exact Pd.nil|exact Pd.fnil|refine Pd.inner ?_|refine Pd.skip (by decide +kernel) ?_|refine zf (RdL.blk (RdL.blk hb Z) Z) ?_|refine zf (RdL.blk (RdL.blkA (ds := lastsC es) hb Z) Z) ?_|refine zf ((RdL.blk hb Z)) ?_|refine zf ((RdL.blkA (ds := lastsC es) hb Z)) ?_|refine zc (RdL.blk (RdL.blk hb Z) Z) ?_|refine zc (RdL.blk (RdL.blkA (ds := lastsC es) hb Z) Z) ?_|refine zc ((RdL.blk hb Z)) ?_|refine zc ((RdL.blkA (ds := lastsC es) hb Z)) ?_))) : p := k
theorem yat (k : p := by (try refine Pd.st ?_);(repeat (first|exact Pd.nil|exact Pd.fnil|refine Pd.inner ?_|refine Pd.skip (by decide +kernel) ?_|refine zf (zo 0 Z Z) ?_|refine zf (zm 0 Z Z) ?_|refine zf (RdL.blk (RdL.blk hW (words_at hn3)) Z) ?_|refine zf ((RdL.blk hW (words_at hn3))) ?_|refine zc (zo 0 Z Z) ?_|refine zc (zm 0 Z Z) ?_|refine zc (RdL.blk (RdL.blk hW (words_at hn3)) Z) ?_|refine zc ((RdL.blk hW (words_at hn3))) ?_))) : p := k
theorem yag (k : p := by rw [show aloC c ch x.n ++ queM c x.n (0) = aloC c ch x.n from by unfold queM; simp]; exact ER) : p := k
theorem yaf (k : p := by rw [show aloC c ch x.n ++ queM c x.n (0) = aloC c ch x.n from by unfold queM; simp]; rfl) : p := k
theorem yai (k : p := by show w.cell? ⟨wb, wo + k * 1, none⟩ = _; rw [Nat.mul_one]; exact hwc k _ hwq) : p := k
theorem yv (k : p := by (repeat refine Pd.filter ?_); exact hS _ (.tail _ (.tail _ (.head _)))) : p := k
theorem yah (k : p := by show some (Value.slice x.wa x.n.waits.length x.wc) = _; rw [hwa]) : p := k
theorem yak (k : p := by show some (Value.slice V.na V.rows.length V.nc) = _; rw [hqa']) : p := k
theorem yal (k : p := by show some (Value.slice V.xa V.mail.length V.xc) = _; rw [hqa']) : p := k
theorem yaw (k : p := by show some (Value.slice V.na V.rows.length V.nc) = _; rw [hqa]) : p := k
theorem yu (k : p := by (repeat refine Pd.filter ?_); exact hS _ (.tail _ (.head _))) : p := k
theorem yaj (k : p := by show some (Value.slice V.na V.rows.length V.nc) = _; rw [hv]) : p := k
theorem yo (k : p := by rw [headOk, DF (show ¬ 1 ≤ c.ms.length by omega)]; simp) : p := k
theorem yay (k : p := by show some (Value.slice a l.length cap) = _; rw [hqa]) : p := k
theorem yad (k : p := by rcases h with h | h; exact absurd h g1; exact h.2) : p := k
theorem yae (k : p := by rcases h with h | h; exact absurd h g1; exact h) : p := k
theorem yac (k : p := by rintro (h | h); exact g1 h; exact g2 h.1) : p := k
theorem yx (k : p := by show (0 + c.ms.length) * 16 ≤ _; omega) : p := k
theorem yh (k : p := by simpa using (List.mem_filter.1 hp1).2) : p := k
theorem yr (k : p := by rw [intCs_len, mixQ_len]; exact hi2) : p := k
theorem yaa (k : p := by rw [beq_eq_false_iff_ne]; exact g2) : p := k
theorem yz (k : p := by rw [if_pos hyes]; exact ⟨p, Z, Z⟩) : p := k
theorem yn (k : p := by simp [headOk]; omega) : p := k
theorem yav (k : p := by unfold i64B; decide) : p := k
theorem yq (k : p := by show 3 < 12; omega) : p := k
theorem yau (k : p := by show 0 < 1; decide) : p := k
theorem yy (k : p := by show 1 < 3; omega) : p := k
theorem yl (k : p := by decide +kernel) : p := k
theorem yd (k : p := by simpa using h) : p := k
theorem yg (k : p := by simp; omega) : p := k
theorem yj (k : p := by kernel_rfl) : p := k
theorem yi (k : p := by simp [h2]) : p := k
theorem ye (k : p := by simp [h]) : p := k
theorem yab (k : p := by cases h) : p := k
theorem yk (k : p := by decide) : p := k
theorem yp (k : p := by rw [e]) : p := k
theorem yf (k : p := by omega) : p := k
theorem yb (k : p := by simp) : p := k
theorem xaz (k : p := by exact .inl ⟨_, E _ (fun w => r1 w), h⟩) : p := k
theorem xba (k : p := by exact .inl ⟨_, E _ (fun w => r2 w), h⟩) : p := k
theorem xbb (k : p := by exact .inl ⟨v, fun a ha _ _ _ _ _ w => by simp only [execOp, ha.ev hv]; rfl, h⟩) : p := k
theorem xbc (k : p := by exact .inl ⟨_, fun a ha _ _ _ _ _ w => by simp only [execOp, ha.ev hv]; rfl, h⟩) : p := k
theorem xbd (k : p := by exact .inl ⟨_, fun a ha _ _ _ _ _ w => by simp only [execOp, ha.ev hv, ha.ev hu]; rfl, h⟩) : p := k
theorem xbe (k : p := by exact List.nodup_append.2 ⟨hGn, hnl, fun x hx y hy he => (hGb x hx).1 (.inr (he ▸ hy))⟩) : p := k
theorem xbf (g : q) (k : Bq q → p := by (intro zq; (repeat (first|refine zS ?_|refine zR ?_|refine zB ?_|refine zL ?_|refine zC ?_|refine zG (zN ?_)|refine zG (zD 0 rfl rfl rfl rfl ?_))); exact zq.v)) : p := k ⟨g⟩
theorem xbg (g : q) (k : Bq q → p := by (intro zq; (repeat (first|refine zS ?_|refine zR ?_|refine zB ?_|refine zL ?_|refine zC ?_|refine zG (zN ?_)|refine zG (zE rfl rfl (RdL.blk h rfl) ?_))); exact zq.v)) : p := k ⟨g⟩
theorem xbh (g : q) (k : Bq q → p := by (intro zq; refine VC.condF Z (CK ?_); exact zq.v)) : p := k ⟨g⟩
theorem xbi (k : p := by exact CR (Ret.int 2 Z Z Z ER ⟨rfl, Z⟩)) : p := k
theorem xbj (g : q) (k : Bq q → p := by (intro zq; (repeat (first|refine zS ?_|refine zR ?_|refine zB ?_|refine zL ?_|refine zC ?_|refine zG (zN ?_)|refine zG (zD 0 rfl rfl rfl rfl ?_)|refine zG (zU rfl rfl rfl ?_))); exact zq.v)) : p := k ⟨g⟩
theorem xbk (g : q) (k : Bq q → p := by (intro zq; (repeat (first|refine zS ?_|refine zR ?_|refine zB ?_|refine zL ?_|refine zC ?_|refine zG (zN ?_)|refine zG (zD 0 rfl rfl rfl rfl ?_)|refine zG (zE rfl rfl (RdL.blk hp rfl) ?_))); exact zq.v)) : p := k ⟨g⟩
theorem xbl (k : p := by exact CR (Ret.bool 2 Z Z Z ER ⟨rfl, Z⟩)) : p := k
theorem xbm (g : q) (k : Bq q → p := by (intro zq; refine VC.condT Z ?_; exact zq.v)) : p := k ⟨g⟩
theorem xbn (g : q) (k : Bq q → p := by (intro zq; (repeat (first|refine yG (yN ?_)|refine yG (yD 0 rfl rfl rfl rfl rfl ?_))); exact zq.v)) : p := k ⟨g⟩
theorem xbo (g : q) (k : Bq q → p := by (intro zq; (repeat (first|refine zS ?_|refine zR ?_|refine zB ?_|refine zL ?_|refine zC ?_|refine zG (zN ?_)|refine zG (zE rfl rfl (RdL.blk hb rfl) ?_))); exact zq.v)) : p := k ⟨g⟩
theorem xbp (g : q) (k : Bq q → p := by (intro zq; refine VG (VI (light_idx i Z Z Z Z Z Z hi2) ?_); exact zq.v)) : p := k ⟨g⟩
theorem xbq (g : q) (k : Bq q → p := by (intro zq; refine VG (VP Z Z yf yf ?_); exact zq.v)) : p := k ⟨g⟩
theorem xbr (g : q) (k : Bq q → p := by (intro zq; refine VG (VY 20 true Z Z ?_); exact zq.v)) : p := k ⟨g⟩
theorem xbs (k : p := by exact ⟨(), trivial, SC Z (Sub.bl Z yn (SN _)), ER⟩) : p := k
theorem xbt (g : q) (k : Bq q → p := by (intro zq; refine VG (VL 0 (c.cells a cap) Z Z Z Z ?_); exact zq.v)) : p := k ⟨g⟩
theorem xbu (g : q) (k : Bq q → p := by (intro zq; refine VG (VK (Lc := []) (fun Fr w hF hw _ => places_spec (c := c) (a := a) (cap := cap) Fr w) Z Z ?_); exact zq.v)) : p := k ⟨g⟩
theorem xbv (g : q) (k : Bq q → p := by (intro zq; (repeat (first|refine zS ?_|refine zR ?_|refine zB ?_|refine zL ?_|refine zC ?_|refine zG (zN ?_)|refine zG (zD 0 rfl rfl rfl rfl ?_)|refine zG (zD 1 rfl rfl rfl rfl ?_))); exact zq.v)) : p := k ⟨g⟩
theorem xbw (g : q) (k : Bq q → p := by (intro zq; (repeat (first|refine zS ?_|refine zR ?_|refine zB ?_|refine zL ?_|refine zC ?_|refine zG (zN ?_)|refine zG (zD 0 rfl rfl rfl rfl ?_)|refine zG (zD 1 rfl rfl rfl rfl ?_)|refine zG (zD 2 rfl rfl rfl rfl ?_))); exact zq.v)) : p := k ⟨g⟩
theorem xbx (g : q) (k : Bq q → p := by (intro zq; (repeat (first|refine zS ?_|refine zR ?_|refine zB ?_|refine zL ?_|refine zC ?_|refine zG (zN ?_)|refine zG (zD 0 rfl rfl rfl rfl ?_)|refine zG (zD 1 rfl rfl rfl rfl ?_)|refine zG (zD 2 rfl rfl rfl rfl ?_)|refine zG (zU rfl rfl rfl ?_))); exact zq.v)) : p := k ⟨g⟩
theorem xby (g : q) (k : Bq q → p := by (intro zq; refine VG (VY 40 false Z Z ?_); exact zq.v)) : p := k ⟨g⟩
theorem xbz (g : q) (k : Bq q → p := by (intro zq; (repeat (first|refine zS ?_|refine zR ?_|refine zB ?_|refine zL ?_|refine zC ?_|refine zG (zN ?_)|refine zG (zD 0 rfl rfl rfl rfl ?_)|refine zG (zD 1 rfl rfl rfl rfl ?_)|refine zG (zU rfl rfl rfl ?_))); exact zq.v)) : p := k ⟨g⟩
theorem xca (g : q) (k : Bq q → p := by (intro zq; refine CS (VC.block ?_); exact zq.v)) : p := k ⟨g⟩
theorem xcb (g : q) (k : Bq q → p := by (intro zq; refine CS (CG (VG (VN ?_))); exact zq.v)) : p := k ⟨g⟩
theorem xcc (g : q) (k : Bq q → p := by (intro zq; refine CS (CG ?_); exact zq.v)) : p := k ⟨g⟩
theorem xcd (g : q) (k : Bq q → p := by (intro zq; refine VG (VN ?_); exact zq.v)) : p := k ⟨g⟩
theorem xce (g : q) (k : Bq q → p := by (intro zq; refine VG (VO.ld 2 Z Z Z Z (VG (VO.ld 0 Z Z Z Z ?_))); exact zq.v)) : p := k ⟨g⟩
theorem xcf (g : q) (k : Bq q → p := by (intro zq; refine VG (VY 47 false Z Z ?_); exact zq.v)) : p := k ⟨g⟩
theorem xcg (g : q) (k : Bq q → p := by (intro zq; refine VG (VY 54 false Z Z ?_); exact zq.v)) : p := k ⟨g⟩
theorem xch (g : q) (k : Bq q → p := by (intro zq; refine VG (VY 61 false Z Z ?_); exact zq.v)) : p := k ⟨g⟩
theorem xci (g : q) (k : Bq q → p := by (intro zq; refine VG (VY 68 false Z Z ?_); exact zq.v)) : p := k ⟨g⟩
theorem xcj (g : q) (k : Bq q → p := by (intro zq; refine VG (VY 75 false Z Z ?_); exact zq.v)) : p := k ⟨g⟩
theorem xck (g : q) (k : Bq q → p := by (intro zq; refine VG (VY 82 false Z Z ?_); exact zq.v)) : p := k ⟨g⟩
theorem xcl (g : q) (k : Bq q → p := by (intro zq; (repeat (first|refine yG (yN ?_)|refine yG (yD 0 rfl rfl rfl rfl rfl ?_)|refine yG (yD 1 rfl rfl rfl rfl rfl ?_))); exact zq.v)) : p := k ⟨g⟩
theorem xcm (g : q) (k : Bq q → p := by (intro zq; refine AG (AO (OpT.callP (φ := fun v => v = .int .i64 (near c.clients 1 6)) (fun Fr w _ _ _ => rnear_spec Fr w _ _ _) rfl) rfl (fun v L' h => by obtain ⟨_, rfl⟩ := h; exact yv) ?_); exact zq.v)) : p := k ⟨g⟩
theorem xcn (g : q) (k : Bq q → p := by (intro zq; refine AG (AO (OpT.callP (φ := fun v => v = .int .i64 (near c.queue 1 16)) (fun Fr w _ _ _ => rnear_spec Fr w _ _ _) rfl) rfl (fun v L' h => by obtain ⟨_, rfl⟩ := h; exact yv) ?_); exact zq.v)) : p := k ⟨g⟩
theorem xco (g : q) (k : Bq q → p := by (intro zq; refine AG (AO (OpT.callP (φ := fun v => v = .int .i64 (near c.window 1 16)) (fun Fr w _ _ _ => rnear_spec Fr w _ _ _) rfl) rfl (fun v L' h => by obtain ⟨_, rfl⟩ := h; exact yv) ?_); exact zq.v)) : p := k ⟨g⟩
theorem xcp (g : q) (k : Bq q → p := by (intro zq; refine AG (AO (OpT.callP (φ := fun v => v = .int .i64 (near c.reads 1 16)) (fun Fr w _ _ _ => rnear_spec Fr w _ _ _) rfl) rfl (fun v L' h => by obtain ⟨_, rfl⟩ := h; exact yv) ?_); exact zq.v)) : p := k ⟨g⟩
theorem xcq (g : q) (k : Bq q → p := by (intro zq; refine AG (AO (OpT.callP (φ := fun v => v = .int .i64 (near c.link 4 64)) (fun Fr w _ _ _ => rnear_spec Fr w _ _ _) rfl) rfl (fun v L' h => by obtain ⟨_, rfl⟩ := h; exact yv) ?_); exact zq.v)) : p := k ⟨g⟩
theorem xcr (g : q) (k : Bq q → p := by (intro zq; refine AG (AO (OpT.callP (φ := fun v => v = .int .i64 (near c.patience 4 64)) (fun Fr w _ _ _ => rnear_spec Fr w _ _ _) rfl) rfl (fun v L' h => by obtain ⟨_, rfl⟩ := h; exact yv) ?_); exact zq.v)) : p := k ⟨g⟩
theorem xcs (g : q) (k : Bq q → p := by (intro zq; refine AG (AO (OpT.callP (φ := fun v => v = .int .i64 (near c.timeout 4 64)) (fun Fr w _ _ _ => rnear_spec Fr w _ _ _) rfl) rfl (fun v L' h => by obtain ⟨_, rfl⟩ := h; exact yv) ?_); exact zq.v)) : p := k ⟨g⟩
theorem xct (g : q) (k : Bq q → p := by (intro zq; refine AG (AO (OpT.callP (φ := fun v => v = .int .i64 (near c.budget 0 16)) (fun Fr w _ _ _ => rnear_spec Fr w _ _ _) rfl) rfl (fun v L' h => by obtain ⟨_, rfl⟩ := h; exact yv) ?_); exact zq.v)) : p := k ⟨g⟩
theorem xcu (g : q) (k : Bq q → p := by (intro zq; refine AG (AO (OpT.callP (φ := fun v => v = .int .i64 (near c.refill 1 1099511627776)) (fun Fr w _ _ _ => rnear_spec Fr w _ _ _) rfl) rfl (fun v L' h => by obtain ⟨_, rfl⟩ := h; exact yv) ?_); exact zq.v)) : p := k ⟨g⟩
theorem xcv (g : q) (k : Bq q → p := by (intro zq; refine AG (AI Z (light_conf Z Z) ?_); exact zq.v)) : p := k ⟨g⟩
theorem xcw (g : q) (k : Bq q → p := by (intro zq; refine AG (AT (vs := [.int .i64 (near c.nodes 1 6), .int .i64 (near c.chain 1 (near c.nodes 1 6)), .int .i64 (near c.clients 1 6), .slice none 0 0, .int .i64 (near c.queue 1 16), .int .i64 (near c.window 1 16), .int .i64 (near c.reads 1 16), .int .i64 (near c.link 4 64), .int .i64 (near c.patience 4 64), .int .i64 (near c.timeout 4 64), .int .i64 (near c.budget 0 16), .int .i64 (near c.refill 1 1099511627776)]) (cs' := [.int .i64 (near c.nodes 1 6), .int .i64 (near c.chain 1 (near c.nodes 1 6)), .int .i64 (near c.clients 1 6), .slice none 0 0, .int .i64 (near c.queue 1 16), .int .i64 (near c.window 1 16), .int .i64 (near c.reads 1 16), .int .i64 (near c.link 4 64), .int .i64 (near c.patience 4 64), .int .i64 (near c.timeout 4 64), .int .i64 (near c.budget 0 16), .int .i64 (near c.refill 1 1099511627776)]) 0 Z Z Z Z Z (NR _) Z Z Z yv (AG (AN ?_))); exact zq.v)) : p := k ⟨g⟩
theorem xcx (k : p := by exact ⟨d, trivial, sbZ, ER⟩) : p := k
theorem xcy (g : q) (k : Bq q → p := by (intro zq; refine VO.ent (L' := [slH memT 2 none 0 0 [], pt d [.int .i64 0, .slice none 0 0, .int .i64 0] chT, pt b (c.cells a cap) chT]) (Imp.slNil (pkZ [0, 0])).ent ?_; exact zq.v)) : p := k ⟨g⟩
theorem xcz (k : p := by exact CR (Ret.cell 2 Z Z Z (RdL.many 1 Z Z) (IP 0 Z Imp.nil).ent ⟨a', c', Z, Z⟩)) : p := k
theorem xda (g : q) (k : Bq q → p := by (intro zq; refine VG (VT (vs := chZ.cells none 0) (cs' := chZ.cells none 0) 0 Z Z Z Z (NR _) Z Z Z ?_); exact zq.v)) : p := k ⟨g⟩
theorem xdb (g : q) (k : Bq q → p := by (intro zq; refine CR (Ret.tmp2 6 7 Z Z Z Imp.nil.ent ?_); exact zq.v)) : p := k ⟨g⟩
theorem xdc (g : q) (k : Bq q → p := by (intro zq; refine VG (VO.callV (fun Fr w => within_spec Fr w _ _ _) Z ?_); exact zq.v)) : p := k ⟨g⟩
theorem xdd (g : q) (k : Bq q → p := by (intro zq; refine VG (VY 73 false Z Z ?_); exact zq.v)) : p := k ⟨g⟩
theorem xde (g : q) (k : Bq q → p := by (intro zq; refine VG (VY 78 false Z Z ?_); exact zq.v)) : p := k ⟨g⟩
theorem xdf (g : q) (k : Bq q → p := by (intro zq; refine VG (VD Z Z (rc _ _ 0 _ Z Z) ?_); exact zq.v)) : p := k ⟨g⟩
theorem xdg (g : q) (k : Bq q → p := by (intro zq; refine VG (VT (vs := memC m) (cs' := memC m) 0 Z Z Z Z (NR _) Z Z Z (VG (VN ?_))); exact zq.v)) : p := k ⟨g⟩
theorem xdh (g : q) (k : Bq q → p := by (intro zq; refine CD (ts 0 9 .nil) yj yl ?_; exact zq.v)) : p := k ⟨g⟩
theorem xdi (g : q) (k : Bq q → p := by (intro zq; refine AG (VA.load Z Z Z (ra _ _ Z Z) ?_); exact zq.v)) : p := k ⟨g⟩
theorem xdj (g : q) (k : Bq q → p := by (intro zq; refine AG (VA.load Z Z Z (sa _ _ Z Z) ?_); exact zq.v)) : p := k ⟨g⟩
theorem xdk (g : q) (k : Bq q → p := by (intro zq; refine AG (AI Z (light_idx n Z Z Z Z Z yf yf) ?_); exact zq.v)) : p := k ⟨g⟩
theorem xdl (g : q) (k : Bq q → p := by (intro zq; (repeat (first|refine zS ?_|refine zR ?_|refine zB ?_|refine zL ?_|refine zC ?_|refine zG (zN ?_))); exact zq.v)) : p := k ⟨g⟩
theorem xdm (g : q) (k : Bq q → p := by (intro zq; (repeat (first|refine yG (yN ?_)|refine yG (yU rfl rfl rfl rfl ?_))); exact zq.v)) : p := k ⟨g⟩
theorem xdn (g : q) (k : Bq q → p := by (intro zq; refine VC.condF Z (CX ?_); exact zq.v)) : p := k ⟨g⟩
theorem xdo (g : q) (k : Bq q → p := by (intro zq; (repeat (first|refine zS ?_|refine zR ?_|refine zB ?_|refine zL ?_|refine zC ?_|refine zG (zN ?_)|refine zG (zU rfl rfl rfl ?_))); exact zq.v)) : p := k ⟨g⟩
theorem xdp (g : q) (k : Bq q → p := by (intro zq; (repeat (first|refine yG (yN ?_))); exact zq.v)) : p := k ⟨g⟩
theorem xdq (g : q) (k : Bq q → p := by (intro zq; (repeat (first|refine zS ?_|refine zR ?_|refine zB ?_|refine zL ?_|refine zC ?_|refine zG (zN ?_)|refine zG (zD 0 rfl rfl rfl rfl ?_)|refine zG (zD 1 rfl rfl rfl rfl ?_)|refine zG (zD 2 rfl rfl rfl rfl ?_)|refine zG (zD 3 rfl rfl rfl rfl ?_)|refine zG (zU rfl rfl rfl ?_))); exact zq.v)) : p := k ⟨g⟩
theorem xdr (k : p := by exact ⟨true, ⟨fun _ => .inl g1, fun _ => rfl⟩, sbZ, ER⟩) : p := k
theorem xds (k : p := by exact ⟨_, ⟨fun h => absurd h (by rw [DT g3]; simp), fun h => absurd g3 yad⟩, SC rfl (SC rfl (SC rfl (SC rfl (SC rfl (SN _))))), ER⟩) : p := k
theorem xdt (k : p := by exact ⟨_, ⟨fun _ => .inr ⟨g2, g3⟩, fun _ => by rw [DF g3]; rfl⟩, SC Z (SC Z (SC Z (SC Z (SC Z (SN _))))), ER⟩) : p := k
theorem xdu (g : q) (k : Bq q → p := by (intro zq; refine VG (VI (LB (pv := [(0, .int .i64 2), (1, .int .i64 x.n.id), (2, .int .i64 x.n.ch.epoch)]) (fdC (2, x.n.id, x.n.ch.epoch)) Z Z Z Z Z) ?_); exact zq.v)) : p := k ⟨g⟩
theorem xdv (k : p := by exact ⟨(a2, c2), trivial, sbZ, (pkZ [0, 1, 1, 1]).ent⟩) : p := k
theorem xdw (k : p := by exact ⟨(none, 0), trivial, sbZ, ER⟩) : p := k
theorem xdx (g : q) (k : Bq q → p := by (intro zq; refine VG (VI (LB (pv := [(0, .int .i64 3), (1, .int .i64 x.n.id), (2, .int .i64 (x.n.log.length : Int))]) (fdC (3, x.n.id, (x.n.log.length : Int))) Z Z Z Z Z) ?_); exact zq.v)) : p := k ⟨g⟩
theorem xdy (k : p := by exact ⟨(sa, sc), trivial, sbZ, ER⟩) : p := k
theorem xdz (k : p := by exact ⟨decide ((x.n.log.length : Int) < x.n.done), ⟨fun h => .inr (of_decide_eq_true h), fun h => DT yae⟩, sbZ, ER⟩) : p := k
theorem xea (g : q) (k : Bq q → p := by (intro zq; refine VG (VI (LB (pv := [(0, .int .i64 4), (1, .int .i64 x.n.id), (2, .int .i64 x.n.done)]) (fdC (4, x.n.id, x.n.done)) Z Z Z Z Z) ?_); exact zq.v)) : p := k ⟨g⟩
theorem xeb (g : q) (k : Bq q → p := by (intro zq; (repeat (first|refine yG (yN ?_)|refine yG (yD 0 rfl rfl rfl rfl rfl ?_)|refine yG (yD 1 rfl rfl rfl rfl rfl ?_)|refine yG (yD 2 rfl rfl rfl rfl rfl ?_)|refine yG (yD 3 rfl rfl rfl rfl rfl ?_)|refine yG (yU rfl rfl rfl rfl ?_))); exact zq.v)) : p := k ⟨g⟩
theorem xec (g : q) (k : Bq q → p := by (intro zq; refine VG (VI (LB (pv := [(0, .int .i64 7), (1, .int .i64 x.n.id), (2, .int .i64 (k : Int))]) (fdC (7, x.n.id, (k : Int))) Z Z Z Z Z) ?_); exact zq.v)) : p := k ⟨g⟩
theorem xed (g : q) (k : Bq q → p := by (intro zq; refine VG (VI (LB (pv := [(0, .int .i64 8), (1, .int .i64 x.n.id), (2, .int .i64 x.n.reading)]) (fdC (8, x.n.id, x.n.reading)) Z Z Z Z Z) ?_); exact zq.v)) : p := k ⟨g⟩
theorem xee (g : q) (k : Bq q → p := by (intro zq; (repeat (first|refine yG (yN ?_)|refine yG (yD 0 rfl rfl rfl rfl rfl ?_)|refine yG (yD 1 rfl rfl rfl rfl rfl ?_)|refine yG (yD 2 rfl rfl rfl rfl rfl ?_))); exact zq.v)) : p := k ⟨g⟩
theorem xef (g : q) (k : Bq q → p := by (intro zq; refine AG (AI Z (light_idx n yaj Z Z Z Z Z hn2) ?_); exact zq.v)) : p := k ⟨g⟩
theorem xeg (g : q) (k : Bq q → p := by (intro zq; refine VG (VD Z Z (qra _ _ Z Z) ?_); exact zq.v)) : p := k ⟨g⟩
theorem xeh (g : q) (k : Bq q → p := by (intro zq; (repeat (first|refine yG (yN ?_)|refine yG (yD 0 rfl rfl rfl rfl rfl ?_)|refine yG (yD 1 rfl rfl rfl rfl rfl ?_)|refine yG (yD 2 rfl rfl rfl rfl rfl ?_)|refine yG (yU rfl rfl rfl rfl ?_))); exact zq.v)) : p := k ⟨g⟩
theorem xei (g : q) (k : Bq q → p := by (intro zq; (repeat (first|refine yG (yN ?_)|refine yG (yD 0 rfl rfl rfl rfl rfl ?_)|refine yG (yD 1 rfl rfl rfl rfl rfl ?_)|refine yG (yU rfl rfl rfl rfl ?_))); exact zq.v)) : p := k ⟨g⟩
theorem xej (g : q) (k : Bq q → p := by (intro zq; refine VG (VL 1 (V.ch.cells V.ma V.mc) Z Z Z Z ?_); exact zq.v)) : p := k ⟨g⟩
theorem xek (k : p := by exact ⟨(a2, c2), trivial, sbZ, (pkZ [0, 1, 1]).ent⟩) : p := k
theorem xel (k : p := by exact ⟨(i + 1, sa, sc), hi2, by dsimp only; omega, sbZ, ER⟩) : p := k
theorem xem (g : q) (k : Bq q → p := by (intro zq; refine AG (AI Z (light_idx i yal Z Z Z Z Z hi2) ?_); exact zq.v)) : p := k ⟨g⟩
theorem xen (g : q) (k : Bq q → p := by (intro zq; refine AG (AO (OpT.alloc rfl) rfl (fun v L' h => by obtain ⟨b11, rfl, rfl⟩ := h; exact yap) ?_); exact zq.v)) : p := k ⟨g⟩
theorem xeo (g : q) (k : Bq q → p := by (intro zq; refine AG (AT (vs := audC x) (cs' := audC x) 0 Z Z Z Z Z (NR _) Z Z Z yao ?_); exact zq.v)) : p := k ⟨g⟩
theorem xep (k : p := by exact ⟨(audC x, (x.n.since == m.2), b11), .inr ⟨k, x, hxk, Z, hso⟩, sbZ, ER⟩) : p := k
theorem xeq (g : q) (k : Bq q → p := by (intro zq; refine VG (VI (light_idx 0 Z Z Z Z Z Z yk) ?_); exact zq.v)) : p := k ⟨g⟩
theorem xer (g : q) (k : Bq q → p := by (intro zq; (repeat (first|refine zS ?_|refine zR ?_|refine zB ?_|refine zL ?_|refine zC ?_|refine zG (zN ?_)|refine zG (zE rfl rfl (RdL.blk h rfl) ?_)|refine zG (zU rfl rfl rfl ?_))); exact zq.v)) : p := k ⟨g⟩
theorem xes (k : p := by exact CR (Ret.tmp 2 Z Z Imp.nil.ent ⟨rfl, Z⟩)) : p := k
theorem xet (g : q) (k : Bq q → p := by (intro zq; refine VG (VV (fun Fr w hF hs _ => made_1 Fr w (h.of hF hs)) Z ?_); exact zq.v)) : p := k ⟨g⟩
theorem xeu (g : q) (k : Bq q → p := by (intro zq; (repeat (first|refine zS ?_|refine zR ?_|refine zB ?_|refine zL ?_|refine zC ?_|refine zG (zN ?_)|refine zG (zE rfl rfl (RdL.blk hb rfl) ?_)|refine zG (zU rfl rfl rfl ?_))); exact zq.v)) : p := k ⟨g⟩
theorem xev (k : p := by exact CR (Ret.tmp 4 Z Z ER ⟨rfl, Z⟩)) : p := k
theorem xew (g : q) (k : Bq q → p := by (intro zq; (repeat (first|refine zS ?_|refine zR ?_|refine zB ?_|refine zL ?_|refine zC ?_|refine zG (zN ?_)|refine zG (zE rfl rfl (RdL.blk hn rfl) ?_)|refine zG (zU rfl rfl rfl ?_))); exact zq.v)) : p := k ⟨g⟩
theorem xex (g : q) (k : Bq q → p := by (intro zq; (repeat (first|refine yG (yN ?_)|refine yG (yD 0 rfl rfl rfl rfl rfl ?_)|refine yG (yU rfl rfl rfl rfl ?_))); exact zq.v)) : p := k ⟨g⟩
theorem xey (g : q) (k : Bq q → p := by (intro zq; refine VG (VI (light_idx 0 Z Z Z Z Z Z yau) ?_); exact zq.v)) : p := k ⟨g⟩
theorem xez (k : p := by exact one _ e (Option.some.inj h).symm) : p := k
theorem xfa (k : p := by exact ⟨none, 0, [], (List.cons.inj e).1, ⟨Nat.zero_le _, Nat.zero_le _⟩, fun x hx => by simp at hx, fun h => absurd Z h⟩) : p := k
theorem xfb (k : p := by exact ⟨true, fun h => yab, sbZ, ER⟩) : p := k
theorem xfc (k : p := by exact CR (Ret.bool 2 rfl rfl rfl Imp.nil.ent ⟨⟨true, rfl, fun h => yab⟩, rfl⟩)) : p := k
theorem xfd (g : q) (k : Bq q → p := by (intro zq; refine VG (VV (fun Fr w hF hs _ => quiet_spec Fr w (TabF.st Z hT hF hs) (WordsF.st hW hF hs)) Z ?_); exact zq.v)) : p := k ⟨g⟩
theorem zfe (g : q) (k : Bq q → p := by (intro zq; refine xdo ?_; refine xbq ?_; exact zq.v)) : p := k ⟨g⟩
theorem zff (g : q) (k : Bq q → p := by (intro zq; refine zfe ?_; refine xdo ?_; exact zq.v)) : p := k ⟨g⟩
theorem zfg (g : q) (k : Bq q → p := by (intro zq; refine xbf ?_; refine xbq ?_; exact zq.v)) : p := k ⟨g⟩
theorem zfh (g : q) (k : Bq q → p := by (intro zq; refine zfg ?_; refine xbf ?_; exact zq.v)) : p := k ⟨g⟩
theorem zfi (g : q) (k : Bq q → p := by (intro zq; refine xbf ?_; refine xdc ?_; exact zq.v)) : p := k ⟨g⟩
theorem zfj (g : q) (k : Bq q → p := by (intro zq; refine xbj ?_; refine xbh ?_; exact zq.v)) : p := k ⟨g⟩
theorem zfk (g : q) (k : Bq q → p := by (intro zq; refine xcv ?_; refine xcw ?_; exact zq.v)) : p := k ⟨g⟩
theorem zfl (g : q) (k : Bq q → p := by (intro zq; refine xbf ?_; refine xbh ?_; exact zq.v)) : p := k ⟨g⟩
theorem zfm (g : q) (k : Bq q → p := by (intro zq; refine xcd ?_; refine xcc ?_; exact zq.v)) : p := k ⟨g⟩
theorem zfn (g : q) (k : Bq q → p := by (intro zq; refine xcj ?_; refine xck ?_; exact zq.v)) : p := k ⟨g⟩
theorem zfo (k : p := by (refine zfk ?_; exact xcx)) : p := k
theorem zfp (g : q) (k : Bq q → p := by (intro zq; refine xbm ?_; refine xbf ?_; exact zq.v)) : p := k ⟨g⟩
theorem zfq (g : q) (k : Bq q → p := by (intro zq; refine xci ?_; refine zfn ?_; exact zq.v)) : p := k ⟨g⟩
theorem zfr (g : q) (k : Bq q → p := by (intro zq; refine xch ?_; refine zfq ?_; exact zq.v)) : p := k ⟨g⟩
theorem zfs (g : q) (k : Bq q → p := by (intro zq; refine VG (VY 63 false Z Z ?_); refine xci ?_; exact zq.v)) : p := k ⟨g⟩
theorem zft (g : q) (k : Bq q → p := by (intro zq; refine xbz ?_; refine xbh ?_; exact zq.v)) : p := k ⟨g⟩
theorem zfu (g : q) (k : Bq q → p := by (intro zq; refine xcg ?_; refine zfr ?_; exact zq.v)) : p := k ⟨g⟩
theorem zfv (g : q) (k : Bq q → p := by (intro zq; refine xdd ?_; refine xde ?_; exact zq.v)) : p := k ⟨g⟩
theorem zfw (k : p := by (refine xbf ?_; exact CR (Ret.tmp 2 Z Z ER ⟨q, Z, Z⟩))) : p := k
theorem zfx (g : q) (k : Bq q → p := by (intro zq; refine xbf ?_; refine VG (VY 6 false Z (DF yf) ?_); exact zq.v)) : p := k ⟨g⟩
end Go.Proofs.YtkpambabfalaiaaGreatDoor
