/- Layer 24: the chapter's example. No condition but what the listed variables hold. -/
import Derived.Test.YtceobomlmdmicaaDoorSc7
namespace Go.Proofs.YtceobomlmdmicaaDoor.Scr
open Go Go.Proofs.YtceobomlmdmicaaDoor.Vg Go.Proofs.YtceobomlmdmicaaDoor.T Go.Proofs.YtceobomlmdmicaaDoor.Api Go.Proofs.YtceobomlmdmicaaDoor.LibC
set_option linter.unusedSimpArgs false
set_option linter.unusedVariables false
attribute [local irreducible] VO VC VA

def w1 : DoM := ⟨1, 0, 1, 5, ⟨2, ⟨#[107]⟩, ⟨#[97]⟩, 0⟩⟩
def w2 : DoM := ⟨4, 0, 16, 0, opZ⟩
def w3 : DoM := ⟨3, 0, 0, 0, opZ⟩
def wS : ByteArray := ⟨#[99, 97, 108, 108, 32, 48, 32, 49, 32, 53, 32, 50, 32, 48, 32, 58, 54, 98, 32, 58, 54, 49, 10, 100, 101, 108, 105, 118, 101, 114, 32, 48, 32, 49, 54, 32, 48, 10, 116, 105, 99, 107, 10]⟩
def wA : ByteArray := ⟨#[116, 105, 99, 107, 10, 99, 97, 108, 108, 32, 48, 32, 49, 32, 53, 32, 50, 32, 48, 32, 58, 54, 66, 32, 58, 54, 49, 10]⟩
def wB : ByteArray := ⟨#[99, 97, 108, 108, 32, 48, 32, 49, 32, 53, 32, 50, 32, 48, 32, 58, 54, 98, 10]⟩
def wC : ByteArray := ⟨#[116, 105, 99, 107, 10, 116, 105, 99, 107]⟩
theorem get_wS : getM wS = ([w1, w2, w3], 0, 0) := by decide +kernel
theorem get_wA : getM wA = ([], 2, 10) := by decide +kernel
theorem get_wB : getM wB = ([], 1, 10) := by decide +kernel
theorem get_wC : getM wC = ([], 2, 10) := by decide +kernel
theorem put_w : toB (putL [w1, w2, w3]) = wS := by decide +kernel
theorem same_w1 : sameM w1 w1 = true := by decide +kernel
theorem same_w2 : sameM w2 w3 = false := by decide +kernel
theorem w_ok : ∀ d ∈ [w1, w2, w3], d.Ok := by
  intro d hd
  simp only [List.mem_cons, List.not_mem_nil, or_false] at hd
  rcases hd with rfl | rfl | rfl <;> exact ⟨⟨by decide, by decide⟩, ⟨by decide, by decide⟩, ⟨by decide, by decide⟩, ⟨by decide, by decide⟩, ⟨by decide, by decide⟩, ⟨by decide, by decide⟩, by decide, by decide⟩

theorem get_at (Fr : Nat → Prop) (w : World) {s : ByteArray} {l : List DoM} {n e : Int} (hg : getM s = (l, n, e)) (hs : s.size ≤ 1000000) (hG : GlobF Fr w) (hK : KindsF Fr w) :
    Tri Tryd.prog 11 [.string s] Fr w [] (fun v L => ∃ a c, v = .tuple #[.slice a l.length c, .int .i64 n, .int .i64 e] ∧ L = [slH 30 8 a l.length c (flat doC l)]) := by
  have := get_spec Fr w s hs hG hK
  rw [hg] at this
  exact this

set_option maxRecDepth 100000 in
set_option maxHeartbeats 2000000 in
theorem written_spec (Fr : Nat → Prop) (w : World) (hG : GlobF Fr w) (hK : KindsF Fr w) : Tri Tryd.prog 8 [] Fr w [] (fun v L => v = .bool true ∧ L = []) := by
  refine Tri.of 101 Tryd.func8 rfl (by kernel_rfl) tabOk rfl rfl ?_
  (repeat (first | refine VC.seq ?_ | refine VC.region ?_ | refine VC.block ?_ | refine VC.label ?_ | refine VC.scope ?_ | refine VO.go (VO.nil ?_) | refine VO.go (VO.ld 0 rfl rfl rfl rfl ?_)))
  refine VO.go (VO.light (light_build (pv := [(0, .int .i64 2), (1, .string ⟨#[107]⟩), (2, .string ⟨#[97]⟩)]) w1.op.cells rfl rfl rfl (by kernel_rfl) rfl) ?_)
  refine VO.go (VO.light (light_build (pv := [(0, .int .i64 1), (2, .int .i64 1), (3, .int .i64 5), (4, .agg w1.op.cells.toArray)]) (doC w1) rfl rfl rfl (by kernel_rfl) rfl) ?_)
  refine VO.go (VO.light (light_build (pv := [(0, .int .i64 4), (2, .int .i64 16)]) (doC w2) rfl rfl rfl (by kernel_rfl) rfl) ?_)
  refine VO.go (VO.light (light_build (pv := [(0, .int .i64 3)]) (doC w3) rfl rfl rfl (by kernel_rfl) rfl) ?_)
  refine VO.go (VO.buildSlice (pv := [(0, .agg (doC w1).toArray), (1, .agg (doC w2).toArray), (2, .agg (doC w3).toArray)]) (flat doC [w1, w2, w3]) rfl rfl rfl rfl (by decide) (by kernel_rfl) fun nb => ?_)
  (repeat (first | refine VC.seq ?_ | refine VC.region ?_ | refine VC.block ?_ | refine VC.label ?_ | refine VC.scope ?_ | refine VO.go (VO.nil ?_) | refine VO.go (VO.ld 0 rfl rfl rfl rfl ?_)))
  refine VO.go (VO.call (Lc := []) (fun Fr w hF hw _ => get_at Fr w get_wS (by decide) (GlobF.st (X := ⟨Tryd.prog, tab, tabOk, 101, _, _⟩) hG hF hw) (KindsF.st (X := ⟨Tryd.prog, tab, tabOk, 101, _, _⟩) hK hF hw)) rfl rfl ?_)
  rintro _ _ ⟨ma, mc, rfl, rfl⟩
  (repeat (first | refine VC.seq ?_ | refine VC.region ?_ | refine VC.block ?_ | refine VC.label ?_ | refine VC.scope ?_ | refine VO.go (VO.nil ?_) | refine VO.go (VO.ld 0 rfl rfl rfl rfl ?_)))
  refine VO.go (VO.call (Lc := []) (fun Fr w hF hw _ => get_at Fr w get_wA (by decide) (GlobF.st (X := ⟨Tryd.prog, tab, tabOk, 101, _, _⟩) hG hF hw) (KindsF.st (X := ⟨Tryd.prog, tab, tabOk, 101, _, _⟩) hK hF hw)) rfl rfl ?_)
  rintro _ _ ⟨xa, xc, rfl, rfl⟩
  (repeat (first | refine VC.seq ?_ | refine VC.region ?_ | refine VC.block ?_ | refine VC.label ?_ | refine VC.scope ?_ | refine VO.go (VO.nil ?_) | refine VO.go (VO.ld 0 rfl rfl rfl rfl ?_)))
  refine VO.go (VO.call (Lc := []) (fun Fr w hF hw _ => get_at Fr w get_wB (by decide) (GlobF.st (X := ⟨Tryd.prog, tab, tabOk, 101, _, _⟩) hG hF hw) (KindsF.st (X := ⟨Tryd.prog, tab, tabOk, 101, _, _⟩) hK hF hw)) rfl rfl ?_)
  rintro _ _ ⟨ya, yc, rfl, rfl⟩
  (repeat (first | refine VC.seq ?_ | refine VC.region ?_ | refine VC.block ?_ | refine VC.label ?_ | refine VC.scope ?_ | refine VO.go (VO.nil ?_) | refine VO.go (VO.ld 0 rfl rfl rfl rfl ?_)))
  refine VO.go (VO.call (Lc := []) (fun Fr w hF hw _ => get_at Fr w get_wC (by decide) (GlobF.st (X := ⟨Tryd.prog, tab, tabOk, 101, _, _⟩) hG hF hw) (KindsF.st (X := ⟨Tryd.prog, tab, tabOk, 101, _, _⟩) hK hF hw)) rfl rfl ?_)
  rintro _ _ ⟨za, zc, rfl, rfl⟩
  refine VO.opn 3 rfl (HOpn.sl _ _ _ _ _ _) ?_
  rintro (_ | ⟨mb, rest⟩) ⟨hx1, hx2, hx3⟩
  · obtain ⟨_, h0, _⟩ := hx3; cases h0
  obtain ⟨rfl, hx4⟩ := hx3
  dsimp only
  (repeat (first | refine VC.seq ?_ | refine VC.region ?_ | refine VC.block ?_ | refine VC.label ?_ | refine VC.scope ?_ | refine VO.go (VO.nil ?_) | refine VO.go (VO.ld 0 rfl rfl rfl rfl ?_)))
  refine VC.draw (.take 0 (.take 2 (.only 1 (ts 3 21 (.only 24 (ts 25 8 (.only 33 (ts 34 27 .nil)))))))) (by kernel_rfl) (by decide +kernel) ?_
  (repeat (first | refine VA.go (VA.nil ?_) | refine VA.go (VA.ld 0 rfl rfl rfl rfl rfl ?_)))
  refine VA.go (VA.callR (fun Fr w hF hs hS => put_spec (l := [w1, w2, w3]) Fr w (RwIn.blk (hS.blk 4 rfl) (fun i x hx => by
      have := flat_row doC_len hx []
      rw [List.append_nil] at this
      rw [Nat.zero_add]; exact this)) (by decide) w_ok (TabF.st rfl hG.tab hF hs) (KindsF.st (X := ⟨Tryd.prog, tab, tabOk, 101, _, _⟩) hK hF hs)) rfl rfl (by (try refine Pd.st ?_); (repeat (first | exact Pd.nil | exact Pd.fnil | refine Pd.inner ?_ | refine Pd.skip (by decide +kernel) ?_ | refine Pd.fcons (RdL.one 0 rfl rfl) ?_ | refine Pd.fcons (RdL.one 1 rfl rfl) ?_ | refine Pd.fcons (RdL.one 2 rfl rfl) ?_ | refine Pd.fcons (RdL.one 3 rfl rfl) ?_ | refine Pd.fcons (RdL.one 4 rfl rfl) ?_ | refine Pd.fcons (RdL.many 0 rfl rfl) ?_ | refine Pd.fcons (RdL.many 1 rfl rfl) ?_ | refine Pd.fcons (RdL.many 2 rfl rfl) ?_ | refine Pd.fcons (RdL.many 3 rfl rfl) ?_ | refine Pd.fcons (RdL.many 4 rfl rfl) ?_ | refine Pd.cons (RdL.one 0 rfl rfl) ?_ | refine Pd.cons (RdL.one 1 rfl rfl) ?_ | refine Pd.cons (RdL.one 2 rfl rfl) ?_ | refine Pd.cons (RdL.one 3 rfl rfl) ?_ | refine Pd.cons (RdL.one 4 rfl rfl) ?_ | refine Pd.cons (RdL.many 0 rfl rfl) ?_ | refine Pd.cons (RdL.many 1 rfl rfl) ?_ | refine Pd.cons (RdL.many 2 rfl rfl) ?_ | refine Pd.cons (RdL.many 3 rfl rfl) ?_ | refine Pd.cons (RdL.many 4 rfl rfl) ?_ | refine Pd.fconsM (MpL.one 0 rfl) ?_ | refine Pd.fconsM (MpL.one 1 rfl) ?_ | refine Pd.fconsM (MpL.one 2 rfl) ?_ | refine Pd.fconsM (MpL.one 3 rfl) ?_ | refine Pd.fconsM (MpL.one 4 rfl) ?_ | refine Pd.consM (MpL.one 0 rfl) ?_ | refine Pd.consM (MpL.one 1 rfl) ?_ | refine Pd.consM (MpL.one 2 rfl) ?_ | refine Pd.consM (MpL.one 3 rfl) ?_ | refine Pd.consM (MpL.one 4 rfl) ?_))) ?_)
  rw [put_w]
  (repeat (first | refine VA.go (VA.nil ?_) | refine VA.go (VA.ld 0 rfl rfl rfl rfl rfl ?_)))
  refine VA.go (VA.yes 45 true rfl (by decide +kernel) ?_)
  (repeat (first | refine VA.go (VA.nil ?_) | refine VA.go (VA.ld 0 rfl rfl rfl rfl rfl ?_) | refine VA.go (VA.offU rfl rfl rfl rfl ?_)))
  refine VA.go (VA.yes 49 true rfl rfl ?_)
  (repeat (first | refine VA.go (VA.nil ?_) | refine VA.go (VA.ld 0 rfl rfl rfl rfl rfl ?_) | refine VA.go (VA.offU rfl rfl rfl rfl ?_)))
  refine VA.go (VA.yes 53 true rfl rfl ?_)
  (repeat (first | refine VA.go (VA.nil ?_) | refine VA.go (VA.ld 0 rfl rfl rfl rfl rfl ?_) | refine VA.go (VA.offU rfl rfl rfl rfl ?_)))
  refine VA.go (VA.yes 58 true rfl rfl ?_)
  (repeat (first | refine VA.go (VA.nil ?_) | refine VA.go (VA.ld 0 rfl rfl rfl rfl rfl ?_) | refine VA.go (VA.offU rfl rfl rfl rfl ?_)))
  refine VA.go (VA.light rfl (light_idx 0 rfl rfl rfl rfl rfl rfl (by decide)) ?_)
  refine VA.go (VA.ldA 0 (doC w1) rfl rfl rfl rfl rfl ?_)
  (repeat (first | refine VA.go (VA.nil ?_) | refine VA.go (VA.ld 0 rfl rfl rfl rfl rfl ?_) | refine VA.go (VA.offU rfl rfl rfl rfl ?_)))
  refine VA.go (VA.light rfl (light_idx 0 rfl rfl rfl rfl rfl rfl (by decide)) ?_)
  refine VA.go (VA.ldA 4 (doC w1) rfl rfl rfl rfl rfl ?_)
  refine VA.go (VA.callR (fun Fr w hF hs hS => same_spec Fr w w1 w1 (KindsF.st (X := ⟨Tryd.prog, tab, tabOk, 101, _, _⟩) hK hF hs)) rfl rfl (by (try refine Pd.st ?_); (repeat (first | exact Pd.nil | exact Pd.fnil | refine Pd.inner ?_ | refine Pd.skip (by decide +kernel) ?_ | refine Pd.fcons (RdL.one 0 rfl rfl) ?_ | refine Pd.fcons (RdL.one 1 rfl rfl) ?_ | refine Pd.fcons (RdL.one 2 rfl rfl) ?_ | refine Pd.fcons (RdL.one 3 rfl rfl) ?_ | refine Pd.fcons (RdL.one 4 rfl rfl) ?_ | refine Pd.fcons (RdL.many 0 rfl rfl) ?_ | refine Pd.fcons (RdL.many 1 rfl rfl) ?_ | refine Pd.fcons (RdL.many 2 rfl rfl) ?_ | refine Pd.fcons (RdL.many 3 rfl rfl) ?_ | refine Pd.fcons (RdL.many 4 rfl rfl) ?_ | refine Pd.cons (RdL.one 0 rfl rfl) ?_ | refine Pd.cons (RdL.one 1 rfl rfl) ?_ | refine Pd.cons (RdL.one 2 rfl rfl) ?_ | refine Pd.cons (RdL.one 3 rfl rfl) ?_ | refine Pd.cons (RdL.one 4 rfl rfl) ?_ | refine Pd.cons (RdL.many 0 rfl rfl) ?_ | refine Pd.cons (RdL.many 1 rfl rfl) ?_ | refine Pd.cons (RdL.many 2 rfl rfl) ?_ | refine Pd.cons (RdL.many 3 rfl rfl) ?_ | refine Pd.cons (RdL.many 4 rfl rfl) ?_ | refine Pd.fconsM (MpL.one 0 rfl) ?_ | refine Pd.fconsM (MpL.one 1 rfl) ?_ | refine Pd.fconsM (MpL.one 2 rfl) ?_ | refine Pd.fconsM (MpL.one 3 rfl) ?_ | refine Pd.fconsM (MpL.one 4 rfl) ?_ | refine Pd.consM (MpL.one 0 rfl) ?_ | refine Pd.consM (MpL.one 1 rfl) ?_ | refine Pd.consM (MpL.one 2 rfl) ?_ | refine Pd.consM (MpL.one 3 rfl) ?_ | refine Pd.consM (MpL.one 4 rfl) ?_))) ?_)
  rw [same_w1]
  (repeat (first | refine VA.go (VA.nil ?_) | refine VA.go (VA.ld 0 rfl rfl rfl rfl rfl ?_) | refine VA.go (VA.offU rfl rfl rfl rfl ?_)))
  refine VA.go (VA.yes 67 true rfl rfl ?_)
  (repeat (first | refine VA.go (VA.nil ?_) | refine VA.go (VA.ld 0 rfl rfl rfl rfl rfl ?_) | refine VA.go (VA.offU rfl rfl rfl rfl ?_)))
  refine VA.go (VA.light rfl (light_idx 1 rfl rfl rfl rfl rfl rfl (by decide)) ?_)
  refine VA.go (VA.ldA 0 (doC w2) rfl rfl rfl rfl rfl ?_)
  (repeat (first | refine VA.go (VA.nil ?_) | refine VA.go (VA.ld 0 rfl rfl rfl rfl rfl ?_) | refine VA.go (VA.offU rfl rfl rfl rfl ?_)))
  refine VA.go (VA.light rfl (light_idx 2 rfl rfl rfl rfl rfl rfl (by decide)) ?_)
  refine VA.go (VA.ldA 0 (doC w3) rfl rfl rfl rfl rfl ?_)
  refine VA.go (VA.callR (fun Fr w hF hs hS => same_spec Fr w w2 w3 (KindsF.st (X := ⟨Tryd.prog, tab, tabOk, 101, _, _⟩) hK hF hs)) rfl rfl (by (try refine Pd.st ?_); (repeat (first | exact Pd.nil | exact Pd.fnil | refine Pd.inner ?_ | refine Pd.skip (by decide +kernel) ?_ | refine Pd.fcons (RdL.one 0 rfl rfl) ?_ | refine Pd.fcons (RdL.one 1 rfl rfl) ?_ | refine Pd.fcons (RdL.one 2 rfl rfl) ?_ | refine Pd.fcons (RdL.one 3 rfl rfl) ?_ | refine Pd.fcons (RdL.one 4 rfl rfl) ?_ | refine Pd.fcons (RdL.many 0 rfl rfl) ?_ | refine Pd.fcons (RdL.many 1 rfl rfl) ?_ | refine Pd.fcons (RdL.many 2 rfl rfl) ?_ | refine Pd.fcons (RdL.many 3 rfl rfl) ?_ | refine Pd.fcons (RdL.many 4 rfl rfl) ?_ | refine Pd.cons (RdL.one 0 rfl rfl) ?_ | refine Pd.cons (RdL.one 1 rfl rfl) ?_ | refine Pd.cons (RdL.one 2 rfl rfl) ?_ | refine Pd.cons (RdL.one 3 rfl rfl) ?_ | refine Pd.cons (RdL.one 4 rfl rfl) ?_ | refine Pd.cons (RdL.many 0 rfl rfl) ?_ | refine Pd.cons (RdL.many 1 rfl rfl) ?_ | refine Pd.cons (RdL.many 2 rfl rfl) ?_ | refine Pd.cons (RdL.many 3 rfl rfl) ?_ | refine Pd.cons (RdL.many 4 rfl rfl) ?_ | refine Pd.fconsM (MpL.one 0 rfl) ?_ | refine Pd.fconsM (MpL.one 1 rfl) ?_ | refine Pd.fconsM (MpL.one 2 rfl) ?_ | refine Pd.fconsM (MpL.one 3 rfl) ?_ | refine Pd.fconsM (MpL.one 4 rfl) ?_ | refine Pd.consM (MpL.one 0 rfl) ?_ | refine Pd.consM (MpL.one 1 rfl) ?_ | refine Pd.consM (MpL.one 2 rfl) ?_ | refine Pd.consM (MpL.one 3 rfl) ?_ | refine Pd.consM (MpL.one 4 rfl) ?_))) ?_)
  rw [same_w2]
  (repeat (first | refine VA.go (VA.nil ?_) | refine VA.go (VA.ld 0 rfl rfl rfl rfl rfl ?_) | refine VA.go (VA.offU rfl rfl rfl rfl ?_)))
  refine VA.go (VA.yes 77 true rfl rfl ?_)
  (repeat (first | refine VA.go (VA.nil ?_) | refine VA.go (VA.ld 0 rfl rfl rfl rfl rfl ?_) | refine VA.go (VA.offU rfl rfl rfl rfl ?_)))
  refine VA.go (VA.yes 81 true rfl rfl ?_)
  (repeat (first | refine VA.go (VA.nil ?_) | refine VA.go (VA.ld 0 rfl rfl rfl rfl rfl ?_) | refine VA.go (VA.offU rfl rfl rfl rfl ?_)))
  refine VA.go (VA.yes 85 true rfl rfl ?_)
  (repeat (first | refine VA.go (VA.nil ?_) | refine VA.go (VA.ld 0 rfl rfl rfl rfl rfl ?_) | refine VA.go (VA.offU rfl rfl rfl rfl ?_)))
  refine VA.go (VA.yes 89 true rfl rfl ?_)
  (repeat (first | refine VA.go (VA.nil ?_) | refine VA.go (VA.ld 0 rfl rfl rfl rfl rfl ?_) | refine VA.go (VA.offU rfl rfl rfl rfl ?_)))
  refine VA.go (VA.yes 93 true rfl rfl ?_)
  (repeat (first | refine VA.go (VA.nil ?_) | refine VA.go (VA.ld 0 rfl rfl rfl rfl rfl ?_) | refine VA.go (VA.offU rfl rfl rfl rfl ?_)))
  refine VA.go (VA.yes 97 true rfl rfl ?_)
  (repeat (first | refine VA.go (VA.nil ?_) | refine VA.go (VA.ld 0 rfl rfl rfl rfl rfl ?_) | refine VA.go (VA.offU rfl rfl rfl rfl ?_)))
  exact VC.ret (Ret.tmp 0 rfl rfl Imp.nil.ent ⟨rfl, rfl⟩)
end Go.Proofs.YtceobomlmdmicaaDoor.Scr
