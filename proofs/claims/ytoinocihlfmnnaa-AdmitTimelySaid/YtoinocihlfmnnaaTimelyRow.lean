/- Proved: AdmitTimely answers true, whatever it is called with, and leaves all as it was. No condition. -/
import Derived.Test.YtoinocihlfmnnaaAArg
import Derived.Test.YtoinocihlfmnnaaATimely
namespace Go.Proofs.Ytoinocihlfmnnaa.Adm
open Go Go.Proofs.Ytoinocihlfmnnaa.Vg Go.ChangeShapes Go.WideShapes Go.ChangeAt Go.RowKit Go.Proofs.Ytoinocihlfmnnaa.Sched Go.Proofs.Ytoinocihlfmnnaa.Conf

theorem own_timely : ownKnob Try.prog.godebug = none := by kernel_rfl
theorem laidOut_timely : laidOutB Try.prog = true := by kernel_rfl
set_option maxRecDepth 100000 in
theorem timely_lifted (os : Os) (started : os.Started) (H : Type) (enc : TypeId × Value → H) :
    ReturnsInHanded {} Try.checked os 4 .any (Rows.admitTimelySpec.pre6 enc Try.prog Try.f4 Rows.admitTimelyRow.domain false) (Rows.admitTimelySpec.post enc Try.prog Try.f4 false true false false) := by
  refine law_returns (C := Try.checked) own_timely started (by kernel_rfl) Try.func4
    (ChangeSpec.witness6 (enc := enc) (C := Try.checked) false ⟨#[], #[.agg #[.int .i64 0, .int .i64 0, .int .i64 0, .slice none 0 0, .int .i64 0, .int .i64 0, .int .i64 0, .int .i64 0, .int .i64 0, .int .i64 0, .int .i64 0, .int .i64 0], .slice none 0 0], []⟩ 8 (by kernel_rfl) (by kernel_rfl) (by kernel_rfl) (by kernel_rfl))
    laidOut_timely (by rw [Try.params4]; simp; exact ⟨⟨by kernel_rfl, of_decide_eq_true (by kernel_rfl)⟩, by kernel_rfl, of_decide_eq_true (by kernel_rfl)⟩) rfl rfl Try.underlying4
    (fun ds h => by
      rw [Try.params4] at h
      match ds, h with
      | [d1, d2], _ => rfl) ?_
  intro W base args ds ps hval hA _ _
  rw [Try.params4] at hA hval
  obtain ⟨v0, vs0, d0, ds0, p0, q0, hargs, rfl, rfl, h0, r0⟩ := trodAll_cons hA
  obtain ⟨v1, vs1, d1, ds1, p1, q1, rfl, rfl, rfl, h1, r1⟩ := trodAll_cons r0
  obtain ⟨rfl, rfl, rfl⟩ := trodAll_nil r1
  obtain rfl : args = #[v0, v1] := by cases args; simp_all
  obtain ⟨c, ca, cc, rfl, hcc, hq⟩ := open_conf (hval 0 24 v0 rfl rfl) h0
  obtain ⟨la, lc, l, rfl, hl⟩ := open_tries (hval 1 25 v1 rfl rfl) h1
  have T := timely_spec (fun b => b < W.heap.size) W c ca cc la lc l hq hl
  exact ⟨T.callable, fun hl hs => Calls.mono (T.calls hl hs) fun e W' ⟨v, L', h1, h2, h3, h4⟩ => ⟨v, L', h1, h2.1, h3, h4⟩⟩

theorem timely_holds : Rows.AdmitTimelySaid :=
  OpenClaim.holds_of_wide 4 Try.f4 rfl rfl rfl rfl rfl rfl rfl ⟨rfl, rfl, rfl, rfl, rfl⟩ rfl rfl rfl rfl rfl (by kernel_rfl) Try.func4 (by kernel_rfl)
    (of_decide_eq_true (by kernel_rfl)) (by unfold Func.isWrapper; first | (rw [if_pos (by decide +kernel)]; kernel_rfl) | (rw [if_neg (by decide +kernel)]; exact ⟨rfl, rfl⟩))
    (fun os started H enc _ => timely_lifted os started H enc)
#print axioms timely_holds
end Go.Proofs.Ytoinocihlfmnnaa.Adm
