/- The scheduler: what Pop tells, as one value. No condition. -/
import Derived.Test.YtbbnmgakmcppdaaGreatSchedP
namespace Go.Proofs.YtbbnmgakmcppdaaGreat.Sched
open Go Go.Proofs.YtbbnmgakmcppdaaGreat.Vg Go.Proofs.YtbbnmgakmcppdaaGreat.T Go.Proofs.YtbbnmgakmcppdaaGreat.Api

def popV (S : SchM) : FrameM × Bool × SchM := match S.popM with
  | some r => (r.1, true, r.2)
  | none => (FrameM.zero, false, S)
theorem popV_s {p : Nat} {S : SchM} {v : Value} {L : List HP} (h : popR p S v L) : ∃ H, L = [H] ∧ (∃ m, v = .tuple #[.agg (fmc ((popV S).1, m)).toArray, .bool (popV S).2.1]) ∧ H = schH p (popV S).2.2 := by
  unfold popR at h; unfold popV
  cases hp : S.popM with
  | none => rw [hp] at h; exact ⟨_, h.2, ⟨(none, 0), h.1⟩, rfl⟩
  | some r => rw [hp] at h; exact ⟨_, h.2, h.1, rfl⟩
theorem popV_wf {S : SchM} (h : S.Wf) : (popV S).2.2.Wf := by
  unfold popV
  cases hp : S.popM with
  | none => exact h
  | some r => obtain ⟨f, S1⟩ := r; obtain ⟨_, _, _, _, _, hw⟩ := popM_some h hp; exact hw
theorem popV_len {S : SchM} (h : S.Wf) : (popV S).2.2.cls.length = S.cls.length := by
  unfold popV
  cases hp : S.popM with
  | none => rfl
  | some r =>
    obtain ⟨f, S1⟩ := r
    obtain ⟨_, _, _, h2, _, _⟩ := popM_some h hp
    have := congrArg List.length h2
    simpa [SchM.qs] using this
/-- What was told waited, as the first one of its class. -/
theorem popV_ok {S : SchM} (h : S.Wf) (ho : (popV S).2.1 = true) : ∃ k q, S.qs[k]? = some ((popV S).1 :: q) ∧ (popV S).2.2.qs = S.qs.set k q := by
  unfold popV at ho ⊢
  cases hp : S.popM with
  | none => rw [hp] at ho; cases ho
  | some r =>
    obtain ⟨f, S1⟩ := r
    obtain ⟨k, q, h1, h2, _, _⟩ := popM_some h hp
    exact ⟨k, q, h1, h2⟩
theorem popV_no {S : SchM} (h : S.Wf) (ho : (popV S).2.1 = false) : S.idle = true ∧ (popV S).2.2 = S := by
  unfold popV at ho ⊢
  cases hp : S.popM with
  | none => exact ⟨popM_none h hp, rfl⟩
  | some r => rw [hp] at ho; cases ho
end Go.Proofs.YtbbnmgakmcppdaaGreat.Sched
