/- Proved: AuditTell answers true, whatever it is called with, and leaves all as it was, where the listed tables hold what the program's text lays. -/
import Derived.Test.YtkpambabfalaiaaGreatDoorZt3
set_option maxRecDepth 100000
set_option maxHeartbeats 16000000
set_option linter.unusedVariables false
set_option linter.unusedSectionVars false
set_option linter.unusedSimpArgs false
namespace Go.Proofs.YtkpambabfalaiaaGreatDoor
variable (Fr : Nat → Prop) (w : World)
namespace Au
open Go Vg Go.ChangeShapes Go.WideShapes Go.ChangeAt Go.RowKit Api LibC Conf Adm
theorem tell_lifted (os : Os) (started : os.Started) (H : Type) (enc : TypeId × Value → H) :
  ReturnsInHanded {} Tryz.checked os 3 .any (fun w args => (Rows.auditTellSpec.pre enc Tryz.prog Tryz.f3 Rows.auditTellRow.domain false w args ∧ laidMetH Tryz.prog laidL w) ∧ sizedMet enc Tryz.prog Tryz.f3 (OpenSpec.ofChange Rows.auditTellSpec) false w args) (Rows.auditTellSpec.post enc Tryz.prog Tryz.f3 false true false false) := by
 refine law_returnsS (C := Tryz.checked) ownK started yj Tryz.func3
  (ChangeSpec.witness_shaped (enc := enc) (C := Tryz.checked) (os := os) (X := fun w _ => laidMetH Tryz.prog laidL w) false (World.laidAll Tryz.prog os laidL) #[.agg #[.int .i64 0, .int .i64 0, .int .i64 0, .slice none 0 0, .int .i64 0, .int .i64 0, .int .i64 0, .int .i64 0, .int .i64 0, .int .i64 0, .int .i64 0, .int .i64 0], .agg #[.int .i64 0, .slice none 0 0, .int .i64 0, .slice none 0 0, .slice none 0 0, .slice none 0 0]] 8 (World.laidAll_os _ _ _) (World.shaped_of_ZipB yj yj) yj yj yj (door_met os _))
  laidOutK (by rw [Tryz.params3]; simp; repeat' constructor; all_goals first | kernel_rfl | exact of_decide_eq_true yj) rfl rfl Tryz.underlying4
  (fun ds h => by
   rw [Tryz.params3] at h
   match ds, h with
   | [d1, d2], _ => rfl) ?_
 intro W base args ds ps hL hsh hval hA _ _
 have hL' : laidMetH Tryz.prog laidL W := hL
 obtain ⟨hT, hW⟩ := glob_of hL'
 rw [Tryz.params3] at hA hval
 obtain ⟨v0, vs0, d0, ds0, p0, q0, hargs, rfl, rfl, h0, r0⟩ := trodAll_cons hA
 obtain ⟨v1, vs1, d1, ds1, p1, q1, rfl, rfl, rfl, h1, r1⟩ := trodAll_cons r0
 obtain ⟨rfl, rfl, rfl⟩ := trodAll_nil r1
 obtain rfl : args = #[v0, v1] := by cases args; simp_all
 obtain ⟨c, ca, cc, rfl, hcc, hq⟩ := open_conf (hval 0 24 v0 rfl rfl) h0
 obtain ⟨V, rfl, hV⟩ := open_view (hval 1 32 v1 rfl rfl) h1
 have T := tell_spec (fun b => b < W.heap.size) W hq hcc hV hT hW
 exact ⟨T.callable, fun hl hs => Calls.mono (T.calls hl hs) fun e W' ⟨v, L', h1, h2, h3, h4⟩ => ⟨v, L', h1, h2.1, h3, h4⟩⟩
theorem tell_holds : Rows.AuditTellSaid :=
 OpenClaim.holds_of_wide 3 Tryz.f3 rfl rfl rfl rfl rfl rfl rfl ⟨rfl, rfl, rfl, rfl, rfl⟩ rfl rfl rfl rfl rfl yj Tryz.func3 yj
  (of_decide_eq_true yj) (by unfold Func.isWrapper; first | (rw [if_pos yl]; kernel_rfl) | (rw [if_neg yl]; exact ⟨rfl, rfl⟩))
  (fun os started H enc _ => tell_lifted os started H enc)
theorem tell_card : Rows.AuditTellCardSaid :=
 Claim7.holds_tied_plain_at .later [] [.data, .data, .data, .data] true Rows.auditTellCard.stood.harness true
  tell_holds (fun _ h => by cases h) yj (fun _ h => by cases h) auditTell_row_tie rfl ⟨rfl, rfl⟩ yj rfl
  (fun f fn hf hfn => by
   obtain rfl : f = 3 := (Option.some.inj ((show Tryz.prog.funcNamed Rows.auditTellRow.func = some 3 by kernel_rfl).symm.trans hf)).symm
   obtain rfl : fn = Tryz.f3 := (Option.some.inj (Tryz.func3.symm.trans hfn)).symm
   exact ⟨by kernel_rfl, fun j t ht => by
    rw [Tryz.params3] at ht
    have hm : t ∈ [24, 32] := by simpa using Array.mem_of_getElem? ht
    have hall : ([24, 32].all fun u => !Tryz.prog.wantsStandIn u) = true := by kernel_rfl
    exact (show Tryz.prog.wantsStandIn t = false by simpa using List.all_eq_true.1 hall t hm)⟩)
  yj

end Au
end Go.Proofs.YtkpambabfalaiaaGreatDoor
#print axioms Go.Proofs.YtkpambabfalaiaaGreatDoor.Au.tell_card
