/- Proved: ReplicaEpochs answers true, whatever it is called with, and leaves all as it was. No condition. -/
import Derived.Test.YtbbnmgakmcppdaaGreatZy5
set_option maxRecDepth 100000
set_option maxHeartbeats 16000000
set_option linter.unusedVariables false
set_option linter.unusedSectionVars false
set_option linter.unusedSimpArgs false
namespace Go.Proofs.YtbbnmgakmcppdaaGreat
variable (Fr : Nat → Prop) (w : World)
namespace Nd
open Go Vg Go.ChangeShapes Go.WideShapes Go.ChangeAt Go.RowKit Sched Conf Adm Api
theorem open_act1 {H : Type} {enc : TypeId × Value → H} {w : World} {base0 base : Nat} {spare : Nat → Bool} {held : Bool} {v : Value} {d : DataW H} {ps : List MemPlace}
  (hval : Value.okWide Tryz.prog w .any base0 67 v) (h : DataW.Trod enc Tryz.prog w base spare held 67 v d ps) : ∃ x : XAct, v = .agg (xaC x).toArray ∧ x.In (fun b => b < w.heap.size) w := by
 obtain ⟨cs, rfl⟩ := okWide_agg Tryz.underlying67 hval
 obtain ⟨fuel, hf⟩ := h
 obtain ⟨h1, h2⟩ := flatT_ok 5 _ _ xactsFlat fuel cs _ hf
 obtain ⟨x, rfl, hx⟩ := leaf_xacts h1 h2
 exact ⟨x, Z, hx⟩
theorem own_epochs : ownKnob Tryz.prog.godebug = none := by kernel_rfl
theorem laidOut_epochs : laidOutB Tryz.prog = true := by kernel_rfl
theorem epochs_lifted (os : Os) (started : os.Started) (H : Type) (enc : TypeId × Value → H) :
  ReturnsInHanded {} Tryz.checked os 10 .any (Rows.replicaEpochsSpec.pre6 enc Tryz.prog Tryz.f10 Rows.replicaEpochsRow.domain false) (Rows.replicaEpochsSpec.post enc Tryz.prog Tryz.f10 false true false false) := by
 refine law_returns (C := Tryz.checked) own_epochs started yn Tryz.func10
  (ChangeSpec.witness6 (enc := enc) (C := Tryz.checked) false ⟨#[], #[.agg #[.int .i64 0, .int .i64 0, .int .i64 0, .slice none 0 0, .int .i64 0, .int .i64 0, .int .i64 0, .int .i64 0, .int .i64 0, .int .i64 0, .int .i64 0, .int .i64 0], .slice none 0 0, .agg (xaC ⟨0, 0, 0, 0, ⟨0, ⟨#[]⟩, ⟨#[]⟩, 0⟩, 0, Api.FrameM.zero, none, 0, 0⟩).toArray], []⟩ 8 yn yn yn yn)
  laidOut_epochs (by rw [Tryz.params10]; simp; repeat' constructor; all_goals first | kernel_rfl | exact of_decide_eq_true yn) rfl rfl Tryz.underlying4
  (fun ds h => by
   rw [Tryz.params10] at h
   match ds, h with
   | [d1, d2, d3], _ => rfl) ?_
 intro W base args ds ps hval hA _ _
 rw [Tryz.params10] at hA hval
 obtain ⟨v0, vs0, d0, ds0, p0, q0, hargs, rfl, rfl, h0, r0⟩ := trodAll_cons hA
 obtain ⟨v1, vs1, d1, ds1, p1, q1, rfl, rfl, rfl, h1, r1⟩ := trodAll_cons r0
 obtain ⟨v2, vs2, d2, ds2, p2, q2, rfl, rfl, rfl, h2, r2⟩ := trodAll_cons r1
 obtain ⟨rfl, rfl, rfl⟩ := trodAll_nil r2
 obtain rfl : args = #[v0, v1, v2] := by cases args; simp_all
 obtain ⟨c, ca, cc, rfl, hcc, hq⟩ := open_conf (hval 0 24 v0 rfl rfl) h0
 obtain ⟨a1, t1, l1, rfl, hl1, hx1, hr1⟩ := open_acts (hval 1 60 v1 rfl rfl) h1
 obtain ⟨x2, rfl, hx2⟩ := open_act1 (hval 2 67 v2 rfl rfl) h2
 have T := epochs_spec (fun b => b < W.heap.size) W c ca cc hq hcc a1 t1 l1 hr1 hx1 hl1 x2 hx2
 exact ⟨T.callable, fun hl hs => Calls.mono (T.calls hl hs) fun e W' ⟨v, L', h1, h2, h3, h4⟩ => ⟨v, L', h1, h2.1, h3, h4⟩⟩
theorem epochs_holds : Rows.ReplicaEpochsSaid :=
 OpenClaim.holds_of_wide 10 Tryz.f10 rfl rfl rfl rfl rfl rfl rfl ⟨rfl, rfl, rfl, rfl, rfl⟩ rfl rfl rfl rfl rfl yn Tryz.func10 yn
  (of_decide_eq_true yn) (by unfold Func.isWrapper; first | (rw [if_pos yq]; kernel_rfl) | (rw [if_neg yq]; exact ⟨rfl, rfl⟩))
  (fun os started H enc _ => epochs_lifted os started H enc)

end Nd
end Go.Proofs.YtbbnmgakmcppdaaGreat
#print axioms Go.Proofs.YtbbnmgakmcppdaaGreat.Nd.epochs_holds
