/- Logs: copied. No condition. -/
import Derived.Test.YtbbnmgakmcppdaaGreatLgA
import Derived.Test.YtbbnmgakmcppdaaGreatKvC
namespace Go.Proofs.YtbbnmgakmcppdaaGreat.Lg
open Go Go.Proofs.YtbbnmgakmcppdaaGreat.Vg Go.Proofs.YtbbnmgakmcppdaaGreat.T Go.Proofs.YtbbnmgakmcppdaaGreat.Api Go.Proofs.YtbbnmgakmcppdaaGreat.Kv
set_option linter.unusedSimpArgs false
set_option linter.unusedVariables false
attribute [local irreducible] VO VC VA

theorem cloneE_spec (Fr : Nat → Prop) (w : World) {a : Option Addr} {cap : Nat} {l : List EntryM} (h : RwIn entC 7 Fr w a l) (hl : l.length ≤ 1000000) :
    Tri Tryz.prog 154 [.slice a l.length cap] Fr w [] (fun v L => ∃ a' c', v = .slice a' l.length c' ∧ L = [slH entT 7 a' l.length c' (flat entC l)]) := by
  refine Tri.of 8 Tryz.func154 rfl (by kernel_rfl) tabOk rfl rfl ?_
  cases a with
  | none =>
    obtain rfl : l = [] := by
      cases l with
      | nil => rfl
      | cons x l => obtain ⟨b, o, h1, _⟩ := h.at_ (by simp); cases h1
    (repeat (first|refine zS ?_|refine zR ?_|refine zB ?_|refine zL ?_|refine zC ?_|refine zG (zN ?_)|refine zG (zD 0 rfl rfl rfl rfl ?_)))
    refine VC.condT rfl ?_
    (repeat (first|refine zS ?_|refine zR ?_|refine zB ?_|refine zL ?_|refine zC ?_|refine zG (zN ?_)|refine zG (zD 0 rfl rfl rfl rfl ?_)))
    exact VC.ret (Ret.tmp 2 rfl rfl (Imp.slNil Imp.nil).ent ⟨none, 0, rfl, rfl⟩)
  | some a =>
    (repeat (first|refine zS ?_|refine zR ?_|refine zB ?_|refine zL ?_|refine zC ?_|refine zG (zN ?_)|refine zG (zD 0 rfl rfl rfl rfl ?_)))
    refine VC.condF rfl (VC.skip ?_)
    refine VC.seq (VC.region (VO.go (VO.buildSlice (n := 0) (pv := []) [] rfl rfl rfl rfl (by decide) rfl fun b => ?_)))
    refine VO.ent (L' := [slH entT 7 (some ⟨b, 0, none⟩) 0 0 []]) (Imp.sl (M := []) (cs := []) (rest := []) rfl (Nat.le_refl _) rfl (Imp.refl (L := [pt b [] entT]))).ent ?_
    refine VO.go (VO.append (m := l.length) (news := flat entC l) 0 rfl rfl rfl rfl rfl rfl rfl (RwIn.row entC_len h) (flat_all entC_one l) (by show (0 + l.length) * 72 ≤ _; omega) (by omega) fun a' c' _ => ?_)
    rw [Nat.zero_add, List.nil_append]
    (repeat (first|refine zS ?_|refine zR ?_|refine zB ?_|refine zL ?_|refine zC ?_|refine zG (zN ?_)|refine zG (zD 0 rfl rfl rfl rfl ?_)))
    exact VC.ret (Ret.tmp 2 rfl rfl Ent.refl ⟨a', c', rfl, rfl⟩)
theorem cloneR_spec (Fr : Nat → Prop) (w : World) {a : Option Addr} {cap : Nat} {l : List ResM} (h : RwIn resC 4 Fr w a l) (hl : l.length ≤ 1000000) :
    Tri Tryz.prog 155 [.slice a l.length cap] Fr w [] (fun v L => ∃ a' c', v = .slice a' l.length c' ∧ L = [slH resT 4 a' l.length c' (flat resC l)]) := by
  refine Tri.of 8 Tryz.func155 rfl (by kernel_rfl) tabOk rfl rfl ?_
  cases a with
  | none =>
    obtain rfl : l = [] := by
      cases l with
      | nil => rfl
      | cons x l => obtain ⟨b, o, h1, _⟩ := h.at_ (by simp); cases h1
    (repeat (first|refine zS ?_|refine zR ?_|refine zB ?_|refine zL ?_|refine zC ?_|refine zG (zN ?_)|refine zG (zD 0 rfl rfl rfl rfl ?_)))
    refine VC.condT rfl ?_
    (repeat (first|refine zS ?_|refine zR ?_|refine zB ?_|refine zL ?_|refine zC ?_|refine zG (zN ?_)|refine zG (zD 0 rfl rfl rfl rfl ?_)))
    exact VC.ret (Ret.tmp 2 rfl rfl (Imp.slNil Imp.nil).ent ⟨none, 0, rfl, rfl⟩)
  | some a =>
    (repeat (first|refine zS ?_|refine zR ?_|refine zB ?_|refine zL ?_|refine zC ?_|refine zG (zN ?_)|refine zG (zD 0 rfl rfl rfl rfl ?_)))
    refine VC.condF rfl (VC.skip ?_)
    refine VC.seq (VC.region (VO.go (VO.buildSlice (n := 0) (pv := []) [] rfl rfl rfl rfl (by decide) rfl fun b => ?_)))
    refine VO.ent (L' := [slH resT 4 (some ⟨b, 0, none⟩) 0 0 []]) (Imp.sl (M := []) (cs := []) (rest := []) rfl (Nat.le_refl _) rfl (Imp.refl (L := [pt b [] resT]))).ent ?_
    refine VO.go (VO.append (m := l.length) (news := flat resC l) 0 rfl rfl rfl rfl rfl rfl rfl (RwIn.row resC_len h) (flat_all resC_one l) (by show (0 + l.length) * 40 ≤ _; omega) (by omega) fun a' c' _ => ?_)
    rw [Nat.zero_add, List.nil_append]
    (repeat (first|refine zS ?_|refine zR ?_|refine zB ?_|refine zL ?_|refine zC ?_|refine zG (zN ?_)|refine zG (zD 0 rfl rfl rfl rfl ?_)))
    exact VC.ret (Ret.tmp 2 rfl rfl Ent.refl ⟨a', c', rfl, rfl⟩)

set_option maxRecDepth 100000 in
theorem copy_spec (Fr : Nat → Prop) (w : World) {p : Nat} {es : List EntryM} (h : SatIn Fr [logH p es] w) (hl : es.length ≤ 1000000) : Tri Tryz.prog 71 [.pointer (some ⟨p, 0, none⟩)] Fr w [] (fun v L => ∃ q, v = .pointer (some ⟨q, 0, none⟩) ∧ L = [logH q es]) := by
  obtain ⟨x, hx⟩ := LogIn.of h
  have hb := hx.blk
  unfold logCs at hb
  have hrl := logRun_len es
  refine Tri.of 26 Tryz.func71 rfl (by kernel_rfl) tabOk rfl rfl ?_
  (repeat (first|refine zS ?_|refine zR ?_|refine zB ?_|refine zL ?_|refine zC ?_|refine zG (zN ?_)|refine zG (zD 0 rfl rfl rfl rfl ?_)))
  refine VO.go (VO.callV' (fun Fr w hF hs hS => none_spec Fr w (hb.of hF hs)) rfl ?_)
  (repeat (first|refine zS ?_|refine zR ?_|refine zB ?_|refine zL ?_|refine zC ?_|refine zG (zN ?_)|refine zG (zD 0 rfl rfl rfl rfl ?_)))
  refine VC.condF rfl (VC.skip ?_)
  refine VC.seq (VC.draw (ts 0 4 (ts 5 4 (ts 10 4 (ts 15 4 (.only 4 (.only 9 (.only 14 (.take 19 (.only 20 (.take 21 .nil)))))))))) (by kernel_rfl) (by decide +kernel) ?_)
  (repeat (first|refine yG (yN ?_)|refine yG (yE rfl rfl rfl (RdL.blk hb rfl) ?_)))
  refine VA.go (VA.load rfl rfl rfl (RdL.blkA (ds := lastsC es) hb rfl) ?_)
  refine VA.go (VA.opP (OpT.call (Lc := []) (R := fun v L => ∃ p', v = .pointer (some ⟨p', 0, none⟩) ∧ L = [kvH p' (logRun es).1]) rfl (.refl _) (fun Fr w hF hs hS => Kv.copy_spec Fr w (hx.kv.of hF hs))) rfl ?_ ?_)
  · rintro _ _ ⟨_, ⟨q, rfl, rfl⟩, rfl⟩
    exact (by (try refine Pd.st ?_);(repeat (first|exact Pd.nil|exact Pd.fnil|refine Pd.inner ?_|refine Pd.skip (by decide +kernel) ?_|refine zf (RdL.blk (RdL.blk hb rfl) rfl) ?_|refine zf (RdL.blk (RdL.blkA (ds := lastsC es) hb rfl) rfl) ?_|refine zf ((RdL.blk hb rfl)) ?_|refine zf ((RdL.blkA (ds := lastsC es) hb rfl)) ?_|refine zc (RdL.blk (RdL.blk hb rfl) rfl) ?_|refine zc (RdL.blk (RdL.blkA (ds := lastsC es) hb rfl) rfl) ?_|refine zc ((RdL.blk hb rfl)) ?_|refine zc ((RdL.blkA (ds := lastsC es) hb rfl)) ?_)))
  rintro _ _ ⟨_, ⟨q, rfl, rfl⟩, rfl⟩
  refine VA.go (VA.opP (OpT.call (Lc := []) (R := fun v L => ∃ a' c', v = .slice a' es.length c' ∧ L = [slH entT 7 a' es.length c' (flat entC es)]) rfl (.refl _) (fun Fr w hF hs hS => cloneE_spec Fr w (hx.ents.of hF hs) hl)) rfl ?_ ?_)
  · rintro _ _ ⟨_, ⟨a1, c1, rfl, rfl⟩, rfl⟩
    exact (by (try refine Pd.st ?_);(repeat (first|exact Pd.nil|exact Pd.fnil|refine Pd.inner ?_|refine Pd.skip (by decide +kernel) ?_|refine zf (RdL.blk (RdL.blk hb rfl) rfl) ?_|refine zf (RdL.blk (RdL.blkA (ds := lastsC es) hb rfl) rfl) ?_|refine zf ((RdL.blk hb rfl)) ?_|refine zf ((RdL.blkA (ds := lastsC es) hb rfl)) ?_|refine zc (RdL.blk (RdL.blk hb rfl) rfl) ?_|refine zc (RdL.blk (RdL.blkA (ds := lastsC es) hb rfl) rfl) ?_|refine zc ((RdL.blk hb rfl)) ?_|refine zc ((RdL.blkA (ds := lastsC es) hb rfl)) ?_)))
  rintro _ _ ⟨_, ⟨a1, c1, rfl, rfl⟩, rfl⟩
  refine VA.go (VA.opP (OpT.call (Lc := []) (R := fun v L => ∃ a' c', v = .slice a' (logRun es).2.length c' ∧ L = [slH resT 4 a' (logRun es).2.length c' (flat resC (logRun es).2)]) rfl (.refl _) (fun Fr w hF hs hS => cloneR_spec Fr w (hx.ress.of hF hs) (by omega))) rfl ?_ ?_)
  · rintro _ _ ⟨_, ⟨a2, c2, rfl, rfl⟩, rfl⟩
    exact (by (try refine Pd.st ?_);(repeat (first|exact Pd.nil|exact Pd.fnil|refine Pd.inner ?_|refine Pd.skip (by decide +kernel) ?_|refine zf (RdL.blk (RdL.blk hb rfl) rfl) ?_|refine zf (RdL.blk (RdL.blkA (ds := lastsC es) hb rfl) rfl) ?_|refine zf ((RdL.blk hb rfl)) ?_|refine zf ((RdL.blkA (ds := lastsC es) hb rfl)) ?_|refine zc (RdL.blk (RdL.blk hb rfl) rfl) ?_|refine zc (RdL.blk (RdL.blkA (ds := lastsC es) hb rfl) rfl) ?_|refine zc ((RdL.blk hb rfl)) ?_|refine zc ((RdL.blkA (ds := lastsC es) hb rfl)) ?_)))
  rintro _ _ ⟨_, ⟨a2, c2, rfl, rfl⟩, rfl⟩
  refine VA.go (VA.light rfl (light_build (pv := [(0, .pointer (some ⟨q, 0, none⟩)), (1, .slice a1 es.length c1), (2, .slice a2 (logRun es).2.length c2), (3, .agg (lastsC es).toArray)]) (logCs es ⟨q, a1, c1, a2, c2⟩) rfl rfl rfl (by kernel_rfl) rfl) ?_)
  refine VA.go (VA.opP (OpT.box (vs := logCs es ⟨q, a1, c1, a2, c2⟩) rfl rfl) rfl ?_ ?_)
  · rintro _ _ ⟨pb, rfl, rfl⟩
    exact (by (try refine Pd.st ?_);(repeat (first|exact Pd.nil|exact Pd.fnil|refine Pd.inner ?_|refine Pd.skip (by decide +kernel) ?_|refine zf (RdL.blk (RdL.blk hb rfl) rfl) ?_|refine zf (RdL.blk (RdL.blkA (ds := lastsC es) hb rfl) rfl) ?_|refine zf ((RdL.blk hb rfl)) ?_|refine zf ((RdL.blkA (ds := lastsC es) hb rfl)) ?_|refine zc (RdL.blk (RdL.blk hb rfl) rfl) ?_|refine zc (RdL.blk (RdL.blkA (ds := lastsC es) hb rfl) rfl) ?_|refine zc ((RdL.blk hb rfl)) ?_|refine zc ((RdL.blkA (ds := lastsC es) hb rfl)) ?_)))
  rintro _ _ ⟨pb, rfl, rfl⟩
  (repeat (first|refine yG (yN ?_)|refine yG (yD 0 rfl rfl rfl rfl rfl ?_)))
  exact VC.ret (Ret.tmp 2 rfl rfl (Imp.log ⟨q, a1, c1, a2, c2⟩ (Imp.pick 0 rfl (Imp.pick 2 rfl (Imp.pick 1 rfl (Imp.pick 0 rfl Imp.nil))))).ent ⟨pb, rfl, rfl⟩)
end Go.Proofs.YtbbnmgakmcppdaaGreat.Lg
