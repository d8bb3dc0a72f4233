/- Proved: FairNone answers true, whatever it is called with, and leaves all as it was. No condition. -/
import Derived.Test.YtmghpgpfeabghaaGreatZd5
set_option maxRecDepth 100000
set_option maxHeartbeats 16000000
set_option linter.unusedVariables false
set_option linter.unusedSectionVars false
set_option linter.unusedSimpArgs false
namespace Go.Proofs.YtmghpgpfeabghaaGreat
variable (Fr : Nat → Prop) (w : World)
namespace Cl
open Go Vg Go.ChangeShapes Go.WideShapes Go.ChangeAt Go.RowKit Sched Conf Adm Api
theorem own_fnone : ownKnob Tryz.prog.godebug = none := by kernel_rfl
theorem laidOut_fnone : laidOutB Tryz.prog = true := by kernel_rfl
theorem fnone_lifted (os : Os) (started : os.Started) (H : Type) (enc : TypeId × Value → H) :
  ReturnsInHanded {} Tryz.checked os 4 .any (Rows.fairNoneSpec.pre6 enc Tryz.prog Tryz.f4 Rows.fairNoneRow.domain false) (Rows.fairNoneSpec.post enc Tryz.prog Tryz.f4 false true false false) := by
 refine law_returns (C := Tryz.checked) own_fnone started ym Tryz.func4
  (ChangeSpec.witness6 (enc := enc) (C := Tryz.checked) false ⟨#[], #[.int .i64 0], []⟩ 8 ym ym ym ym)
  laidOut_fnone (by rw [Tryz.params4]; simp; repeat' constructor; all_goals first | kernel_rfl | exact of_decide_eq_true ym) rfl rfl Tryz.underlying4
  (fun ds h => by
   rw [Tryz.params4] at h
   match ds, h with
   | [d1], _ => rfl) ?_
 intro W base args ds ps hval hA _ _
 rw [Tryz.params4] at hA hval
 obtain ⟨v0, vs0, d0, ds0, p0, q0, hargs, rfl, rfl, h0, r0⟩ := trodAll_cons hA
 obtain ⟨rfl, rfl, rfl⟩ := trodAll_nil r0
 obtain rfl : args = #[v0] := by cases args; simp_all
 obtain ⟨b0, rfl, rfl, rfl, hb0⟩ := open_int Tryz.underlying3 (hval 0 3 v0 rfl rfl) h0
 have T := fairnone_spec (fun b => b < W.heap.size) W b0
 exact ⟨T.callable, fun hl hs => Calls.mono (T.calls hl hs) fun e W' ⟨v, L', h1, h2, h3, h4⟩ => ⟨v, L', h1, h2.1, h3, h4⟩⟩
theorem fnone_holds : Rows.FairNoneSaid :=
 OpenClaim.holds_of_wide 4 Tryz.f4 rfl rfl rfl rfl rfl rfl rfl ⟨rfl, rfl, rfl, rfl, rfl⟩ rfl rfl rfl rfl rfl ycq Tryz.func4 ycq
  (of_decide_eq_true ycq) (by as_aux_lemma => unfold Func.isWrapper; first | (rw [if_pos yq]; kernel_rfl) | (rw [if_neg yq]; exact ⟨rfl, rfl⟩))
  (fun os started H enc _ => fnone_lifted os started H enc)

end Cl
end Go.Proofs.YtmghpgpfeabghaaGreat
#print axioms Go.Proofs.YtmghpgpfeabghaaGreat.Cl.fnone_holds
