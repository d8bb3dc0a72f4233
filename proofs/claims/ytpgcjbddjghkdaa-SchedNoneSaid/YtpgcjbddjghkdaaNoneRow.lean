/- Proved: SchedNone answers true, whatever it is called with, and leaves all as it was. No condition. -/
import Derived.Test.YtpgcjbddjghkdaaSNoneW
import Derived.Test.YtpgcjbddjghkdaaVgM
namespace Go.Proofs.Ytpgcjbddjghkdaa.Sched
open Go Go.Proofs.Ytpgcjbddjghkdaa.Vg Go.ChangeShapes Go.WideShapes Go.ChangeAt Go.RowKit Go.Proofs.Ytpgcjbddjghkdaa.SLaw

theorem own_none : ownKnob Try.prog.godebug = none := by kernel_rfl
theorem laidOut_none : laidOutB Try.prog = true := by kernel_rfl
set_option maxRecDepth 100000 in
theorem none_lifted (os : Os) (started : os.Started) (H : Type) (enc : TypeId × Value → H) :
    ReturnsInHanded {} Try.checked os 9 .any (Rows.schedNoneSpec.pre6 enc Try.prog Try.f9 Rows.schedNoneRow.domain false) (Rows.schedNoneSpec.post enc Try.prog Try.f9 false true false false) := by
  refine law_returns (C := Try.checked) own_none started (by kernel_rfl) Try.func9
    (ChangeSpec.witness6 (enc := enc) (C := Try.checked) false ⟨#[], #[.agg (ActM.cells ⟨0, Api.FrameM.zero, none, 0, 0, 0⟩).toArray], []⟩ 8 (by kernel_rfl) (by kernel_rfl) (by kernel_rfl) (by kernel_rfl))
    laidOut_none (by rw [Try.params9]; simp; exact ⟨by kernel_rfl, of_decide_eq_true (by kernel_rfl)⟩) rfl rfl Try.underlying4
    (fun ds h => by
      rw [Try.params9] at h
      match ds, h with
      | [d1], _ => rfl) ?_
  intro W base args ds ps hval hA _ _
  rw [Try.params9] at hA hval
  obtain ⟨v0, vs0, d0, ds0, p0, q0, hargs, rfl, rfl, h0, r0⟩ := trodAll_cons hA
  obtain ⟨rfl, rfl, rfl⟩ := trodAll_nil r0
  obtain rfl : args = #[v0] := by cases args; simp_all
  have hv : Value.okWide Try.prog W .any base 66 v0 := hval 0 66 v0 rfl rfl
  obtain ⟨fs, hfs⟩ := actUnd
  obtain ⟨cs, rfl, hs, ts, hts, _, h3⟩ := agg_struct hfs hv
  rw [actTypes] at hts
  obtain rfl := Option.some.inj hts
  have hsz : cs.size = 31 := hs.trans (by kernel_rfl)
  obtain ⟨x, hx⟩ := open_act (cs := cs.toList) (by simpa using hsz) (fun i v hi => by
    have hi' : i < 31 := by have := (List.getElem?_eq_some_iff.1 hi).1; simp only [Array.length_toList] at this; omega
    obtain ⟨u, hu, hc⟩ := h3 i v (by simpa using hi)
    refine ⟨u, ?_, hc⟩
    rw [← hu]
    congr 1
    exact (Nat.mod_eq_of_lt hi').symm)
  obtain rfl : cs = x.cells.toArray := by rw [← hx]
  have T := none_law (fun b => b < W.heap.size) W x
  exact ⟨T.callable, fun hl hs => Calls.mono (T.calls hl hs) fun e W' ⟨v, L', h1, h2, h3, h4⟩ => ⟨v, L', h1, h2.1, h3, h4⟩⟩

theorem none_holds : Rows.SchedNoneSaid :=
  OpenClaim.holds_of_wide 9 Try.f9 rfl rfl rfl rfl rfl rfl rfl ⟨rfl, rfl, rfl, rfl, rfl⟩ rfl rfl rfl rfl rfl (by kernel_rfl) Try.func9 (by kernel_rfl)
    (of_decide_eq_true (by kernel_rfl)) (by unfold Func.isWrapper; first | (rw [if_pos (by decide +kernel)]; kernel_rfl) | (rw [if_neg (by decide +kernel)]; exact ⟨rfl, rfl⟩))
    (fun os started H enc _ => none_lifted os started H enc)
#print axioms none_holds
end Go.Proofs.Ytpgcjbddjghkdaa.Sched
