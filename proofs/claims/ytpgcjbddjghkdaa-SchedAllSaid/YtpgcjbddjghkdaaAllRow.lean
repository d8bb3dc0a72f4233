/- Proved: SchedAll answers true, whatever it is called with, and leaves all as it was. No condition. -/
import Derived.Test.YtpgcjbddjghkdaaTurns
import Derived.Test.YtpgcjbddjghkdaaSAllW
import Derived.Test.YtpgcjbddjghkdaaVgM
namespace Go.Proofs.Ytpgcjbddjghkdaa.Sched
open Go Go.Proofs.Ytpgcjbddjghkdaa.Vg Go.ChangeShapes Go.WideShapes Go.ChangeAt Go.RowKit

theorem own_all : ownKnob Try.prog.godebug = none := by kernel_rfl
theorem laidOut_all : laidOutB Try.prog = true := by kernel_rfl
theorem wf_u16 {a : Int} (w : (Lit.int .u16 a).wf = true) : 0 ≤ a ∧ a ≤ 65535 := by
  simp [Lit.wf, IntKind.min, IntKind.max, IntKind.signed, IntKind.bits] at w; omega
set_option maxRecDepth 100000 in
theorem all_lifted (os : Os) (started : os.Started) (H : Type) (enc : TypeId × Value → H) :
    ReturnsInHanded {} Try.checked os 6 .any (Rows.schedAllSpec.pre6 enc Try.prog Try.f6 Rows.schedAllRow.domain false) (Rows.schedAllSpec.post enc Try.prog Try.f6 false true false false) := by
  refine law_returns (C := Try.checked) own_all started (by kernel_rfl) Try.func6
    (ChangeSpec.witness6 (enc := enc) (C := Try.checked) false ⟨#[], #[.agg #[.int .u16 0, .int .u16 0, .int .u16 0], .slice none 0 0], []⟩ 8 (by kernel_rfl) (by kernel_rfl) (by kernel_rfl) (by kernel_rfl))
    laidOut_all (by rw [Try.params6]; simp; exact ⟨⟨by kernel_rfl, of_decide_eq_true (by kernel_rfl)⟩, by kernel_rfl, of_decide_eq_true (by kernel_rfl)⟩) rfl rfl Try.underlying4
    (fun ds h => by
      rw [Try.params6] at h
      match ds, h with
      | [d1, d2], _ => rfl) ?_
  intro W base args ds ps hval hA _ _
  rw [Try.params6] at hA hval
  obtain ⟨v0, vs0, d0, ds0, p0, q0, hargs, rfl, rfl, h0, r0⟩ := trodAll_cons hA
  obtain ⟨v1, vs1, d1, ds1, p1, q1, rfl, rfl, rfl, h1, r1⟩ := trodAll_cons r0
  obtain ⟨rfl, rfl, rfl⟩ := trodAll_nil r1
  obtain rfl : args = #[v0, v1] := by cases args; simp_all
  obtain ⟨zs, rfl, hz, hwf⟩ := open_arr_ints (n := 3) Try.underlying27 Try.underlying25 (by kernel_rfl) (by kernel_rfl) (hval 0 27 v0 rfl rfl) h0
  obtain ⟨ta, tc, l, rfl, hl⟩ := SLaw.open_turns (hval 1 50 v1 rfl rfl) h1
  match zs, hz, hwf with
  | [x, y, z], _, hwf =>
    have T := SLaw.all_spec (fun b => b < W.heap.size) W x y z (wf_u16 (hwf x (by simp))) (wf_u16 (hwf y (by simp))) (wf_u16 (hwf z (by simp))) ta tc l hl
    exact ⟨T.callable, fun hl hs => Calls.mono (T.calls hl hs) fun e W' ⟨v, L', h1, h2, h3, h4⟩ => ⟨v, L', h1, h2.1, h3, h4⟩⟩

theorem all_holds : Rows.SchedAllSaid :=
  OpenClaim.holds_of_wide 6 Try.f6 rfl rfl rfl rfl rfl rfl rfl ⟨rfl, rfl, rfl, rfl, rfl⟩ rfl rfl rfl rfl rfl (by kernel_rfl) Try.func6 (by kernel_rfl)
    (of_decide_eq_true (by kernel_rfl)) (by unfold Func.isWrapper; first | (rw [if_pos (by decide +kernel)]; kernel_rfl) | (rw [if_neg (by decide +kernel)]; exact ⟨rfl, rfl⟩))
    (fun os started H enc _ => all_lifted os started H enc)
#print axioms all_holds
end Go.Proofs.Ytpgcjbddjghkdaa.Sched
