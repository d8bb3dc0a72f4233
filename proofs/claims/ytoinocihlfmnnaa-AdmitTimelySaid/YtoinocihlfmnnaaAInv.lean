/- Admission, without memory: what is barred stays so; who waits. No condition. -/
import Derived.Test.YtoinocihlfmnnaaALaw
namespace Go.Proofs.Ytoinocihlfmnnaa.Adm
open Go Go.Proofs.Ytoinocihlfmnnaa.Vg Go.Proofs.Ytoinocihlfmnnaa.Api Go.Proofs.Ytoinocihlfmnnaa.Sched Go.Proofs.Ytoinocihlfmnnaa.Conf
set_option linter.unusedSimpArgs false
set_option linter.unusedVariables false

theorem aheadM_iff (t u : MkM) : aheadM t u = true ↔ t.1 < u.1 ∨ (t.1 = u.1 ∧ t.2 < u.2) := by simp [aheadM]
theorem aheadM_no (t u : MkM) : aheadM t u = false ↔ u.1 < t.1 ∨ (t.1 = u.1 ∧ u.2 ≤ t.2) := by
  rw [← Bool.not_eq_true, aheadM_iff]; omega
theorem has_iff (A : AdmM) (k : Int) : A.has k = true ↔ 0 ≤ k ∧ k < A.clients := by simp [AdmM.has]

/-! ### What is barred stays so -/
structure Le (A B : AdmM) : Prop where
  clients : B.clients = A.clients
  marks : ∀ k s t, A.barred k s t = true → B.barred k s t = true
theorem Le.refl (A : AdmM) : Le A A := ⟨rfl, fun _ _ _ h => h⟩
theorem Le.trans {A B C : AdmM} (h : Le A B) (k : Le B C) : Le A C := ⟨k.clients.trans h.clients, fun a b c x => k.marks a b c (h.marks a b c x)⟩
theorem Le.of_eq {A B : AdmM} (h1 : B.clients = A.clients) (h2 : B.marks = A.marks) : Le A B := ⟨h1, fun k s t h => by
  simpa only [AdmM.barred, AdmM.has, AdmM.mark, h1, h2] using h⟩
theorem mark_setMark {A : AdmM} (h : A.Wf) {k j : Int} (hk : 0 ≤ k ∧ k < 6) (hj : 0 ≤ j) (m : MkM) : (A.setMark k m).mark j = if j = k then m else A.mark j := by
  obtain ⟨n, rfl⟩ := Int.eq_ofNat_of_zero_le hk.1
  obtain ⟨i, rfl⟩ := Int.eq_ofNat_of_zero_le hj
  have hn : n < A.marks.length := by rw [h.marks]; omega
  simp only [AdmM.mark, AdmM.setMark, Int.toNat_natCast]
  by_cases e : i = n
  · subst e; simp [List.getElem?_set_self hn]
  · rw [if_neg (by omega), List.getElem?_set_ne (by omega)]
theorem wt_setWt {A : AdmM} (h : A.Wf) {k j : Int} (hk : 0 ≤ k ∧ k < 6) (hj : 0 ≤ j) (m : Int) : (A.setWt k m).wt j = if j = k then m else A.wt j := by
  obtain ⟨n, rfl⟩ := Int.eq_ofNat_of_zero_le hk.1
  obtain ⟨i, rfl⟩ := Int.eq_ofNat_of_zero_le hj
  have hn : n < A.waits.length := by rw [h.waits]; omega
  simp only [AdmM.wt, AdmM.setWt, Int.toNat_natCast]
  by_cases e : i = n
  · subst e; simp [List.getElem?_set_self hn]
  · rw [if_neg (by omega), List.getElem?_set_ne (by omega)]
theorem le_barF {A : AdmM} (h : A.Wf) {k : Int} (hk : A.has k = true) (s t : Int) : Le A (A.barF k s t) := by
  have hk2 := (has_iff A k).1 hk
  have hk6 : 0 ≤ k ∧ k < 6 := ⟨hk2.1, by have := h.c1; omega⟩
  unfold AdmM.barF
  split
  · rename_i ha
    refine ⟨rfl, fun j s' t' hj => ?_⟩
    simp only [AdmM.barred, Bool.and_eq_true, Bool.not_eq_true'] at hj ⊢
    have hjh := (has_iff A j).1 hj.1
    refine ⟨hj.1, ?_⟩
    rw [mark_setMark h hk6 hjh.1]
    split
    · rename_i e; subst e
      have h1 := hj.2
      rw [aheadM_no] at h1 ⊢
      rw [aheadM_iff] at ha
      dsimp only at h1 ha ⊢
      omega
    · exact hj.2
  · exact Le.refl A
theorem barF_bars {A : AdmM} (h : A.Wf) {k : Int} (hk : A.has k = true) (s t : Int) : (A.barF k s t).barred k s t = true := by
  have hk2 := (has_iff A k).1 hk
  have hk6 : 0 ≤ k ∧ k < 6 := ⟨hk2.1, by have := h.c1; omega⟩
  unfold AdmM.barF
  split
  · have hh : (A.setMark k (s, t)).has k = true := hk
    rw [AdmM.barred, hh, mark_setMark h hk6 hk6.1, if_pos rfl]
    have : aheadM (s, t) (s, t) = false := by rw [aheadM_no]; right; exact ⟨rfl, Int.le_refl _⟩
    rw [this]; rfl
  · rename_i ha
    rw [AdmM.barred, hk]
    simpa using ha
theorem le_barM {A : AdmM} (h : A.Wf) (k s t : Int) : Le A (A.barM k s t).2 := by
  unfold AdmM.barM
  split
  · rename_i hc
    simp only [Bool.and_eq_true] at hc
    exact le_barF h hc.1.1 s t
  · exact Le.refl A
theorem le_out {A : AdmM} (h : A.Wf) {f : FrameM} (hf : A.has f.client = true) : Le A (A.out f) := (Le.of_eq (A := A) (B := A.setWt f.client 0) rfl rfl).trans (le_barF (h.setWt _ _) hf _ _)
theorem le_expF : ∀ (l : List FrameM) {A : AdmM}, A.Wf → (∀ f ∈ l, A.has f.client = true) → Le A (A.expF l)
  | [], A, _, _ => Le.refl A
  | f :: l, A, h, hf => (le_out h (hf f (by simp))).trans (le_expF l (h.out f) fun g hg => by
    have := hf g (by simp [hg])
    rw [has_iff] at this ⊢
    rw [out_clients]; exact this)
theorem expF_bars : ∀ (l : List FrameM) {A : AdmM}, A.Wf → (∀ f ∈ l, A.has f.client = true) → ∀ f ∈ l, (A.expF l).barred f.client f.seq f.try_ = true
  | [], A, _, _, f, hf => by simp at hf
  | g :: l, A, h, hc, f, hf => by
    have hc2 : ∀ f ∈ l, (A.out g).has f.client = true := fun f hf => by
      have := hc f (by simp [hf])
      rw [has_iff] at this ⊢
      rw [out_clients]; exact this
    rcases List.mem_cons.1 hf with rfl | hf
    · exact (le_expF l (h.out f) hc2).marks _ _ _ (barF_bars (h.setWt _ _) (hc f (by simp)) _ _)
    · exact expF_bars l (h.out g) hc2 f hf
theorem gone_has {A : AdmM} (hC : A.Calls) (now : Int) (S : SchM) : ∀ f ∈ A.sch.goneM now, (A.withSch S).has f.client = true := fun f hf => (has_iff _ _).2 (gone_ok hC now f hf).1
theorem le_expire {A : AdmM} (h : A.Wf) (hC : A.Calls) (now : Int) : Le A (A.expireM now) :=
  (Le.of_eq (A := A) (B := A.withSch (A.sch.expM now)) rfl rfl).trans (le_expF _ (h.withSch (exp_wf h.sch now)) (gone_has hC now _))
theorem expire_bars {A : AdmM} (h : A.Wf) (hC : A.Calls) (now : Int) : ∀ f ∈ A.sch.goneM now, (A.expireM now).barred f.client f.seq f.try_ = true :=
  expF_bars _ (h.withSch (exp_wf h.sch now)) (gone_has hC now _)
theorem le_next' (A : AdmM) (now : Int) : Le (A.expireM now) (A.nextM now) := by
  unfold AdmM.nextM
  split <;> exact Le.of_eq rfl rfl
theorem le_next {A : AdmM} (h : A.Wf) (hC : A.Calls) (now : Int) : Le A (A.nextM now) := (le_expire h hC now).trans (le_next' A now)
theorem le_wait {A : AdmM} (f : FrameM) (now : Int) : Le A (A.waitM f now).2 := by
  unfold AdmM.waitM
  repeat' split
  all_goals exact Le.of_eq rfl rfl
theorem le_offer {A : AdmM} (h : A.Wf) (f : FrameM) (now : Int) : Le A (A.offerM f now).2 := by
  unfold AdmM.offerM
  repeat' split
  all_goals first | exact Le.refl A | exact (le_wait f now).trans (le_barM (h.waitM f now) _ _ _) | exact le_wait f now

/-- What is barred is refused, and changes nothing. -/
theorem offer_old {A : AdmM} {f : FrameM} (hm : A.may f = true) (hb : A.barred f.client f.seq f.try_ = true) (now : Int) : A.offerM f now = (7, A) := by
  obtain ⟨h1, h2, h3⟩ := may_client hm
  have hw : A.waitM f now = (7, A) := by unfold AdmM.waitM; rw [if_pos hb]
  have hbar : (A.barM f.client f.seq f.try_).2 = A := by
    unfold AdmM.barM
    split
    · unfold AdmM.barF
      rw [if_neg]
      simp only [AdmM.barred, Bool.and_eq_true, Bool.not_eq_true'] at hb
      rw [hb.2]; simp
    · rfl
  unfold AdmM.offerM
  rw [if_pos hm, hw]
  simp [hbar]
theorem offer_bars {A : AdmM} (h : A.Wf) {f : FrameM} (hm : A.may f = true) (now : Int) (h0 : (A.offerM f now).1 ≠ 0) (h6 : (A.offerM f now).1 ≠ 6) : (A.offerM f now).2.barred f.client f.seq f.try_ = true := by
  obtain ⟨h1, h2, h3⟩ := may_client hm
  unfold AdmM.offerM at h0 h6 ⊢
  rw [if_pos hm] at h0 h6 ⊢
  by_cases hc : (A.waitM f now).1 ≠ 0 ∧ (A.waitM f now).1 ≠ 6
  · rw [if_pos hc]
    have hcl := wait_clients A f now
    have hh : (A.waitM f now).2.has f.client = true := by rw [has_iff] at h1 ⊢; rw [hcl]; exact h1
    have : ((A.waitM f now).2.barM f.client f.seq f.try_) = (0, (A.waitM f now).2.barF f.client f.seq f.try_) := by simp [AdmM.barM, hh, h2, h3]
    dsimp only
    rw [this]
    exact barF_bars (h.waitM f now) hh _ _
  · rw [if_neg hc] at h0 h6
    exact absurd ⟨h0, h6⟩ hc
/-- What is offered waits, if it is told so: it was not barred, and nothing else of that client waited. -/
theorem offer_in {A : AdmM} {f : FrameM} {now : Int} (h0 : (A.offerM f now).1 = 0) : A.may f = true ∧ A.barred f.client f.seq f.try_ = false ∧ A.wt f.client = 0 ∧ ¬ f.deadline < now ∧ (A.sch.pushM f).1 = 0 ∧ (A.offerM f now).2 = (A.withSch (A.sch.pushM f).2).setWt f.client f.seq := by
  unfold AdmM.offerM at h0 ⊢
  by_cases hm : A.may f = true
  · rw [if_pos hm] at h0 ⊢
    by_cases hc : (A.waitM f now).1 ≠ 0 ∧ (A.waitM f now).1 ≠ 6
    · rw [if_pos hc] at h0; exact absurd h0 hc.1
    · rw [if_neg hc] at h0 ⊢
      unfold AdmM.waitM at h0 ⊢
      by_cases hb : A.barred f.client f.seq f.try_ = true
      · rw [if_pos hb] at h0; cases h0
      rw [if_neg hb] at h0 ⊢
      by_cases hs : A.wt f.client = f.seq
      · rw [if_pos hs] at h0; cases h0
      rw [if_neg hs] at h0 ⊢
      by_cases hz : A.wt f.client ≠ 0
      · rw [if_pos hz] at h0; cases h0
      rw [if_neg hz] at h0 ⊢
      by_cases hd : f.deadline < now
      · rw [if_pos hd] at h0; cases h0
      rw [if_neg hd] at h0 ⊢
      by_cases hp : (A.sch.pushM f).1 ≠ 0
      · rw [if_pos hp] at h0; cases h0
      rw [if_neg hp]
      exact ⟨hm, by simpa using hb, by simpa using hz, hd, by simpa using hp, rfl⟩
  · rw [if_neg hm] at h0; cases h0
theorem offer_10 {A : AdmM} {f : FrameM} (hm : A.may f = true) (now : Int) : (A.offerM f now).1 ≠ 10 := by
  unfold AdmM.offerM
  rw [if_pos hm]
  have : (A.waitM f now).1 ≠ 10 := by
    unfold AdmM.waitM
    repeat' split
    all_goals (dsimp only; omega)
  split <;> exact this
theorem push_same {S : SchM} {f : FrameM} (h : (S.pushM f).1 ≠ 0) : (S.pushM f).2 = S := by
  unfold SchM.pushM at h ⊢
  split
  · rfl
  · rename_i c hc
    rw [hc] at h
    dsimp only at h
    split
    · rfl
    · rename_i h1
      rw [if_neg h1] at h
      split
      · rename_i h2; rw [if_pos h2] at h; exact absurd rfl h
      · rfl
/-- What is not taken changes nothing of what waits. -/
theorem offer_not {A : AdmM} {f : FrameM} (now : Int) (h0 : (A.offerM f now).1 ≠ 0) : (A.offerM f now).2.sch = A.sch ∧ (A.offerM f now).2.waits = A.waits := by
  have key : (A.waitM f now).1 ≠ 0 → (A.waitM f now).2.sch = A.sch ∧ (A.waitM f now).2.waits = A.waits := by
    unfold AdmM.waitM
    intro h
    repeat' split
    all_goals first
      | exact ⟨rfl, rfl⟩
      | (rename_i hp; exact ⟨push_same hp, rfl⟩)
      | (simp_all)
  unfold AdmM.offerM at h0 ⊢
  by_cases hm : A.may f = true
  · rw [if_pos hm] at h0 ⊢
    by_cases hc : (A.waitM f now).1 ≠ 0 ∧ (A.waitM f now).1 ≠ 6
    · rw [if_pos hc]
      have := key hc.1
      refine ⟨(barM_sch _ _ _ _).trans this.1, ?_⟩
      rw [← this.2]
      show (AdmM.barM _ _ _ _).2.waits = _
      unfold AdmM.barM
      split
      · exact barF_waits _ _ _ _
      · rfl
    · rw [if_neg hc] at h0 ⊢
      exact key h0
  · rw [if_neg hm]; exact ⟨rfl, rfl⟩
end Go.Proofs.Ytoinocihlfmnnaa.Adm
