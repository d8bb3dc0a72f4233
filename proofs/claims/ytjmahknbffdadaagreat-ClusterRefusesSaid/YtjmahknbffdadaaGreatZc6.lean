/- Proved: ClusterRefuses answers true, whatever it is called with, and leaves all as it was. No condition. -/
import Derived.Test.YtjmahknbffdadaaGreatZc5
set_option maxRecDepth 100000
set_option maxHeartbeats 16000000
set_option linter.unusedVariables false
set_option linter.unusedSectionVars false
set_option linter.unusedSimpArgs false
namespace Go.Proofs.YtjmahknbffdadaaGreat
variable (Fr : Nat → Prop) (w : World)
namespace Cl
open Go Vg Go.ChangeShapes Go.WideShapes Go.ChangeAt Go.RowKit Sched Conf Adm Api
theorem own_crefuses : ownKnob Tryz.prog.godebug = none := by kernel_rfl
theorem laidOut_crefuses : laidOutB Tryz.prog = true := by kernel_rfl
theorem crefuses_lifted (os : Os) (started : os.Started) (H : Type) (enc : TypeId × Value → H) :
  ReturnsInHanded {} Tryz.checked os 4 .any (Rows.clusterRefusesSpec.pre6 enc Tryz.prog Tryz.f4 Rows.clusterRefusesRow.domain false) (Rows.clusterRefusesSpec.post enc Tryz.prog Tryz.f4 false true false false) := by
 refine law_returns (C := Tryz.checked) own_crefuses started yl Tryz.func4
  (ChangeSpec.witness6 (enc := enc) (C := Tryz.checked) false ⟨#[], #[.agg #[.int .i64 0, .int .i64 0, .int .i64 0, .slice none 0 0, .int .i64 0, .int .i64 0, .int .i64 0, .int .i64 0, .int .i64 0, .int .i64 0, .int .i64 0, .int .i64 0], .slice none 0 0], []⟩ 8 yl yl yl yl)
  laidOut_crefuses (by rw [Tryz.params4]; simp; repeat' constructor; all_goals first | kernel_rfl | exact of_decide_eq_true yl) rfl rfl Tryz.underlying4
  (fun ds h => by
   rw [Tryz.params4] at h
   match ds, h with
   | [d1, d2], _ => rfl) ?_
 intro W base args ds ps hval hA _ _
 rw [Tryz.params4] at hA hval
 obtain ⟨v0, vs0, d0, ds0, p0, q0, hargs, rfl, rfl, h0, r0⟩ := trodAll_cons hA
 obtain ⟨v1, vs1, d1, ds1, p1, q1, rfl, rfl, rfl, h1, r1⟩ := trodAll_cons r0
 obtain ⟨rfl, rfl, rfl⟩ := trodAll_nil r1
 obtain rfl : args = #[v0, v1] := by cases args; simp_all
 obtain ⟨c, ca, cc, rfl, hcc, hq⟩ := open_conf (hval 0 24 v0 rfl rfl) h0
 obtain ⟨a1, t1, l1, rfl, hl1, hr1⟩ := open_dos (hval 1 30 v1 rfl rfl) h1
 have T := crefuses_spec (fun b => b < W.heap.size) W c ca cc hq hcc (ap1 := t1) hr1 hl1
 exact ⟨T.callable, fun hl hs => Calls.mono (T.calls hl hs) fun e W' ⟨v, L', h1, h2, h3, h4⟩ => ⟨v, L', h1, h2.1, h3, h4⟩⟩
theorem crefuses_holds : Rows.ClusterRefusesSaid :=
 OpenClaim.holds_of_wide 4 Tryz.f4 rfl rfl rfl rfl rfl rfl rfl ⟨rfl, rfl, rfl, rfl, rfl⟩ rfl rfl rfl rfl rfl ycm Tryz.func4 ycm
  (of_decide_eq_true ycm) (by as_aux_lemma => unfold Func.isWrapper; first | (rw [if_pos yq]; kernel_rfl) | (rw [if_neg yq]; exact ⟨rfl, rfl⟩))
  (fun os started H enc _ => crefuses_lifted os started H enc)

end Cl
end Go.Proofs.YtjmahknbffdadaaGreat
#print axioms Go.Proofs.YtjmahknbffdadaaGreat.Cl.crefuses_holds
