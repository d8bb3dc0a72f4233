/- Layer 24, plain: a step with only what its kind uses. No program. No condition. -/
import Derived.Test.YtceobomlmdmicaaDoorScD
namespace Go.Proofs.YtceobomlmdmicaaDoor.Scr
open Go Go.Proofs.YtceobomlmdmicaaDoor.Vg Go.Proofs.YtceobomlmdmicaaDoor.T Go.Proofs.YtceobomlmdmicaaDoor.Api Go.Proofs.YtceobomlmdmicaaDoor.LibC
set_option linter.unusedSimpArgs false
set_option linter.unusedVariables false

theorem uses_four {k : Nat} (hk : k < 12) : usesK k = [97, 98, 99, 111] ∨ usesK k = [97, 98, 99] ∨ usesK k = [97] ∨ usesK k = [] := by
  have : ∀ k, k < 12 → (usesK k = [97, 98, 99, 111] ∨ usesK k = [97, 98, 99] ∨ usesK k = [97] ∨ usesK k = []) := by decide +kernel
  exact this k hk
theorem normD_line {d : DoM} (hk : isK d.kind = true) : lineL (normD d) = lineL d := by
  obtain ⟨k, hk0, hk1, hk2⟩ := isK_nat hk
  have hkn : d.kind.toNat = k := by rw [hk0]; rfl
  unfold lineL restL
  rw [normD_kind, hk, hkn]
  have e : (usesK k).flatMap (useT (normD d)) = (usesK k).flatMap (useT d) := by
    unfold normD
    rw [hkn]
    rcases uses_four (k := k) (by omega) with h | h | h | h <;> rw [h] <;> simp [setU, sA, sB, sCc, sOp, useT]
  rw [e]
theorem putL_read (l : List DoM) : putL (readM l) = putL l := by
  induction l with
  | nil => rfl
  | cons d l ih =>
    have e : putL (d :: l) = lineL d ++ putL l := rfl
    cases hk : isK d.kind with
    | false =>
      have e0 : lineL d = [] := by unfold lineL; rw [hk]; rfl
      have e1 : readM (d :: l) = readM l := by simp [readM, hk]
      rw [e, e0, e1, ih]; rfl
    | true =>
      have e1 : readM (d :: l) = normD d :: readM l := by simp [readM, hk]
      rw [e, e1, show putL (normD d :: readM l) = lineL (normD d) ++ putL (readM l) from rfl, ih, normD_line hk]
theorem opEq_self (o : OpM) : opEq o o = true := by simp [opEq]
theorem same_norm {d : DoM} (hk : isK d.kind = true) : sameM (normD d) d = true := by
  obtain ⟨k, hk0, hk1, hk2⟩ := isK_nat hk
  have hkn : d.kind.toNat = k := by rw [hk0]; rfl
  unfold sameM
  rw [normD_kind, hk, hkn]
  have e : ((usesK k).all fun c => !diffU (normD d) d c) = true := by
    unfold normD
    rw [hkn]
    rcases uses_four (k := k) (by omega) with h | h | h | h <;> rw [h] <;> simp [setU, sA, sB, sCc, sOp, diffU, opEq_self]
  rw [e]; simp
theorem same_none {d : DoM} (hk : isK d.kind = false) (e : DoM) : sameM d e = false := by unfold sameM; rw [hk]; rfl
theorem normD_ok {d : DoM} (h : d.Ok) (hk : isK d.kind = true) : (normD d).Ok := by
  obtain ⟨k, hk0, hk1, hk2⟩ := isK_nat hk
  have hkn : d.kind.toNat = k := by rw [hk0]; rfl
  have z : (0 : Nat) ≤ 1000 := by decide
  unfold normD
  rw [hkn]
  rcases uses_four (k := k) (by omega) with hu | hu | hu | hu <;> rw [hu]
  · exact ⟨h.kind, h.a, h.b, h.c, h.opk, h.opv, h.key, h.val⟩
  · exact ⟨h.kind, h.a, h.b, h.c, isI_zero, isI_zero, (show nilB.size ≤ 1000 by decide), (show nilB.size ≤ 1000 by decide)⟩
  · exact ⟨h.kind, h.a, isI_zero, isI_zero, isI_zero, isI_zero, (show nilB.size ≤ 1000 by decide), (show nilB.size ≤ 1000 by decide)⟩
  · exact ⟨h.kind, isI_zero, isI_zero, isI_zero, isI_zero, isI_zero, (show nilB.size ≤ 1000 by decide), (show nilB.size ≤ 1000 by decide)⟩
theorem putL_app (a b : List DoM) : putL (a ++ b) = putL a ++ putL b := by simp [putL]
theorem readM_app (a b : List DoM) : readM (a ++ b) = readM a ++ readM b := by simp [readM]
end Go.Proofs.YtceobomlmdmicaaDoor.Scr
