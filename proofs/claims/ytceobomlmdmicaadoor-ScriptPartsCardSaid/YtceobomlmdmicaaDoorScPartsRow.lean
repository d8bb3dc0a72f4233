/- Proved: ScriptParts answers true, whatever it is called with, and leaves all as it was, where the listed tables hold what the program's text lays. -/
import Derived.Test.YtceobomlmdmicaaDoorScArg
import Derived.Test.YtceobomlmdmicaaDoorScArg2
import Derived.Test.YtceobomlmdmicaaDoorScG
import Derived.SevenTiedAt
namespace Go.Proofs.YtceobomlmdmicaaDoor.Scr
open Go Go.Proofs.YtceobomlmdmicaaDoor.Vg Go.ChangeShapes Go.WideShapes Go.ChangeAt Go.RowKit Go.Proofs.YtceobomlmdmicaaDoor.Api Go.Proofs.YtceobomlmdmicaaDoor.LibC
set_option linter.unusedVariables false

set_option maxRecDepth 100000 in
theorem parts_lifted (os : Os) (started : os.Started) (H : Type) (enc : TypeId × Value → H) :
    ReturnsInHanded {} Tryd.checked os 6 .any (fun w args => (Rows.scriptPartsSpec.pre enc Tryd.prog Tryd.f6 Rows.scriptPartsRow.domain false w args ∧ laidMetH Tryd.prog laidL w) ∧ sizedMet enc Tryd.prog Tryd.f6 (OpenSpec.ofChange Rows.scriptPartsSpec) false w args) (Rows.scriptPartsSpec.post enc Tryd.prog Tryd.f6 false true false false) := by
  refine law_returnsS (C := Tryd.checked) ownK started (by kernel_rfl) Tryd.func6
    (ChangeSpec.witness_shaped (enc := enc) (C := Tryd.checked) (os := os) (X := fun w _ => laidMetH Tryd.prog laidL w) false (World.laidAll Tryd.prog os laidL) #[.slice none 0 0, .slice none 0 0] 8 (World.laidAll_os _ _ _) (World.shaped_of_ZipB (by kernel_rfl) (by kernel_rfl)) (by kernel_rfl) (by kernel_rfl) (by kernel_rfl) (door_met os _))
    laidOutK (by rw [Tryd.params6]; simp; exact ⟨by kernel_rfl, of_decide_eq_true (by kernel_rfl)⟩) rfl rfl Tryd.underlying4
    (fun ds h => by
      rw [Tryd.params6] at h
      match ds, h with
      | [d1, d2], _ => rfl) ?_
  intro W base args ds ps hL hsh hval hA _ _
  obtain ⟨hG, hK⟩ := glob_of hL hsh
  rw [Tryd.params6] at hA hval
  obtain ⟨v0, vs0, d0, ds0, p0, q0, hargs, rfl, rfl, h0, r0⟩ := trodAll_cons hA
  obtain ⟨v1, vs1, d1, ds1, p1, q1, rfl, rfl, rfl, h1, r1⟩ := trodAll_cons r0
  obtain ⟨rfl, rfl, rfl⟩ := trodAll_nil r1
  obtain rfl : args = #[v0, v1] := by cases args; simp_all
  obtain ⟨la, lc, l, rfl, hll, hI, hl⟩ := open_dos (hval 0 22 v0 rfl rfl) h0
  obtain ⟨ma, mc, m, rfl, hml, gI, hm⟩ := open_dos (hval 1 22 v1 rfl rfl) h1
  have T := parts_spec (ca := lc) (cb := mc) (fun b => b < W.heap.size) W hl hm hll hml hI gI hG hK
  exact ⟨T.callable, fun hl hs => Calls.mono (T.calls hl hs) fun e W' ⟨v, L', h1, h2, h3, h4⟩ => ⟨v, L', h1, h2.1, h3, h4⟩⟩

theorem parts_holds : Rows.ScriptPartsSaid :=
  OpenClaim.holds_of_wide 6 Tryd.f6 rfl rfl rfl rfl rfl rfl rfl ⟨rfl, rfl, rfl, rfl, rfl⟩ rfl rfl rfl rfl rfl (by kernel_rfl) Tryd.func6 (by kernel_rfl)
    (of_decide_eq_true (by kernel_rfl)) (by unfold Func.isWrapper; first | (rw [if_pos (by decide +kernel)]; kernel_rfl) | (rw [if_neg (by decide +kernel)]; exact ⟨rfl, rfl⟩))
    (fun os started H enc _ => parts_lifted os started H enc)
theorem parts_card : Rows.ScriptPartsCardSaid :=
  Claim7.holds_tied_plain_at .later [] [.data, .data, .data, .data, .sentinel, .sentinel, .data, .pinned] true Rows.scriptPartsCard.stood.harness true
    parts_holds (fun _ h => by cases h) (by kernel_rfl) (fun _ h => by cases h) scriptParts_row_tie rfl ⟨rfl, rfl⟩ (by kernel_rfl) rfl
    (fun f fn hf hfn => by
      obtain rfl : f = 6 := (Option.some.inj ((show Tryd.prog.funcNamed Rows.scriptPartsRow.func = some 6 by kernel_rfl).symm.trans hf)).symm
      obtain rfl : fn = Tryd.f6 := (Option.some.inj (Tryd.func6.symm.trans hfn)).symm
      exact ⟨by kernel_rfl, fun j t ht => by
        rw [Tryd.params6] at ht
        have hm : t ∈ [22, 22] := by simpa using Array.mem_of_getElem? ht
        have hall : ([22, 22].all fun u => !Tryd.prog.wantsStandIn u) = true := by kernel_rfl
        exact (show Tryd.prog.wantsStandIn t = false by simpa using List.all_eq_true.1 hall t hm)⟩)
    (by kernel_rfl)
#print axioms parts_card
end Go.Proofs.YtceobomlmdmicaaDoor.Scr
