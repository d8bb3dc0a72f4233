/- Proved: AuditNone answers true, whatever it is called with, and leaves all as it was, where the listed tables hold what the program's text lays. -/
import Derived.Test.YtbbnmgakmcppdaaGreatDoorZn2
set_option maxRecDepth 100000
set_option maxHeartbeats 16000000
set_option linter.unusedVariables false
set_option linter.unusedSectionVars false
set_option linter.unusedSimpArgs false
namespace Go.Proofs.YtbbnmgakmcppdaaGreatDoor
variable (Fr : Nat → Prop) (w : World)
namespace Au
open Go Vg Go.ChangeShapes Go.WideShapes Go.ChangeAt Go.RowKit Api LibC
theorem wf64 {a : Int} (w : (Lit.int .i64 a).wf = true) : -9223372036854775808 ≤ a ∧ a ≤ 9223372036854775807 := by
 simp [Lit.wf, IntKind.min, IntKind.max, IntKind.signed, IntKind.bits] at w; omega
theorem none_lifted (os : Os) (started : os.Started) (H : Type) (enc : TypeId × Value → H) :
  ReturnsInHanded {} Tryz.checked os 4 .any (fun w args => (Rows.auditNoneSpec.pre enc Tryz.prog Tryz.f4 Rows.auditNoneRow.domain false w args ∧ laidMetH Tryz.prog laidL w) ∧ sizedMet enc Tryz.prog Tryz.f4 (OpenSpec.ofChange Rows.auditNoneSpec) false w args) (Rows.auditNoneSpec.post enc Tryz.prog Tryz.f4 false true false false) := by
 refine law_returnsS (C := Tryz.checked) ownK started yj Tryz.func4
  (ChangeSpec.witness_shaped (enc := enc) (C := Tryz.checked) (os := os) (X := fun w _ => laidMetH Tryz.prog laidL w) false (World.laidAll Tryz.prog os laidL) #[.int .i64 0, .int .i64 0] 8 (World.laidAll_os _ _ _) (World.shaped_of_ZipB yj yj) yj yj yj (door_met os _))
  laidOutK (by rw [Tryz.params4]; simp; exact ⟨by kernel_rfl, of_decide_eq_true yj⟩) rfl rfl Tryz.underlying4
  (fun ds h => by
   rw [Tryz.params4] at h
   match ds, h with
   | [d1, d2], _ => rfl) ?_
 intro W base args ds ps hL hsh hval hA _ _
 obtain ⟨hT, hW⟩ := glob_of hL
 rw [Tryz.params4] at hA hval
 obtain ⟨v0, vs0, d0, ds0, p0, q0, hargs, rfl, rfl, h0, r0⟩ := trodAll_cons hA
 obtain ⟨v1, vs1, d1, ds1, p1, q1, rfl, rfl, rfl, h1, r1⟩ := trodAll_cons r0
 obtain ⟨rfl, rfl, rfl⟩ := trodAll_nil r1
 obtain rfl : args = #[v0, v1] := by cases args; simp_all
 obtain ⟨a0, rfl, rfl, rfl, w0⟩ := open_int Tryz.underlying3 (hval 0 3 v0 rfl rfl) h0
 obtain ⟨a1, rfl, rfl, rfl, w1⟩ := open_int Tryz.underlying3 (hval 1 3 v1 rfl rfl) h1
 have T := none_spec (fun b => b < W.heap.size) W (n := a0) (a := a1) (wf64 w0) (wf64 w1) hT hW
 exact ⟨T.callable, fun hl hs => Calls.mono (T.calls hl hs) fun e W' ⟨v, L', h1, h2, h3, h4⟩ => ⟨v, L', h1, h2.1, h3, h4⟩⟩
theorem none_holds : Rows.AuditNoneSaid :=
 OpenClaim.holds_of_wide 4 Tryz.f4 rfl rfl rfl rfl rfl rfl rfl ⟨rfl, rfl, rfl, rfl, rfl⟩ rfl rfl rfl rfl rfl yj Tryz.func4 yj
  (of_decide_eq_true yj) (by unfold Func.isWrapper; first | (rw [if_pos yl]; kernel_rfl) | (rw [if_neg yl]; exact ⟨rfl, rfl⟩))
  (fun os started H enc _ => none_lifted os started H enc)
theorem none_card : Rows.AuditNoneCardSaid :=
 Claim7.holds_tied_plain_at .later [] [.data, .data, .data, .data] true Rows.auditNoneCard.stood.harness true
  none_holds (fun _ h => by cases h) yj (fun _ h => by cases h) auditNone_row_tie rfl ⟨rfl, rfl⟩ yj rfl
  (fun f fn hf hfn => by
   obtain rfl : f = 4 := (Option.some.inj ((show Tryz.prog.funcNamed Rows.auditNoneRow.func = some 4 by kernel_rfl).symm.trans hf)).symm
   obtain rfl : fn = Tryz.f4 := (Option.some.inj (Tryz.func4.symm.trans hfn)).symm
   exact ⟨by kernel_rfl, fun j t ht => by
    rw [Tryz.params4] at ht
    have hm : t ∈ [3, 3] := by simpa using Array.mem_of_getElem? ht
    have hall : ([3, 3].all fun u => !Tryz.prog.wantsStandIn u) = true := by kernel_rfl
    exact (show Tryz.prog.wantsStandIn t = false by simpa using List.all_eq_true.1 hall t hm)⟩)
  yj

end Au
end Go.Proofs.YtbbnmgakmcppdaaGreatDoor
#print axioms Go.Proofs.YtbbnmgakmcppdaaGreatDoor.Au.none_card
