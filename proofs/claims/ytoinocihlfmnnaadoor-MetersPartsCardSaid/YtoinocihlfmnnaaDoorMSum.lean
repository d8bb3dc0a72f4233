/- Layer 30, plain: what a meter's counters are behind frames. No program; no condition. -/
import Derived.Test.YtoinocihlfmnnaaDoorMLaw
namespace Go.Proofs.YtoinocihlfmnnaaDoor.Met
open Go Go.Proofs.YtoinocihlfmnnaaDoor.Vg Go.Proofs.YtoinocihlfmnnaaDoor.Api Go.Proofs.YtoinocihlfmnnaaDoor.Cnt
set_option linter.unusedSimpArgs false
set_option linter.unusedVariables false

/-- By how much a frame raises a counter. -/
def inc (c : Nat) (f : FrameM) (i : Nat) : Int :=
  if f.kind = 1 then (if 0 ≤ f.cls ∧ f.cls < c then (if i = 2 * f.cls.toNat then 1 else if i = 2 * f.cls.toNat + 1 then opCost f.op else 0) else 0)
  else if f.kind = 2 then (if i = 2 * c then 1 else 0)
  else if f.kind = 3 then (if 1 ≤ f.reason ∧ f.reason ≤ 10 then (if i = 2 * c + f.reason.toNat then 1 else 0) else 0)
  else 0
theorem add_at' {M : MM} {i j : Nat} (y : Int) (h : j < M.l.length) : (M.add j y).at_ i = M.at_ i + if i = j then y else 0 := by
  by_cases e : i = j
  · subst e; rw [add_at y h, if_pos rfl]
  · rw [add_at_ne y (Ne.symm e), if_neg e, Int.add_zero]
theorem see_c (M : MM) (f : FrameM) : (M.see f).1.c = M.c := by
  unfold MM.see; split
  · split <;> rfl
  · split
    · rfl
    · split
      · split <;> rfl
      · rfl
theorem see_len (M : MM) (f : FrameM) : (M.see f).1.l.length = M.l.length := by
  unfold MM.see; split
  · split
    · rw [add_len, add_len]
    · rfl
  · split
    · rw [add_len]
    · split
      · split
        · rw [add_len]
        · rfl
      · rfl
theorem see_at {M : MM} (hl : M.l.length = 2 * M.c + 11) (f : FrameM) (i : Nat) : (M.see f).1.at_ i = M.at_ i + inc M.c f i := by
  unfold MM.see inc
  by_cases h1 : f.kind = 1
  · rw [if_pos h1, if_pos h1]
    by_cases h2 : 0 ≤ f.cls ∧ f.cls < M.c
    · rw [if_pos h2, if_pos h2]
      show ((M.add (2 * f.cls.toNat) 1).add (2 * f.cls.toNat + 1) (opCost f.op)).at_ i = _
      rw [add_at' _ (by rw [add_len]; omega), add_at' _ (by omega)]
      by_cases e : i = 2 * f.cls.toNat
      · rw [if_pos e, if_neg (by omega), if_pos e]; omega
      · rw [if_neg e, if_neg e]; omega
    · rw [if_neg h2, if_neg h2]; simp
  · rw [if_neg h1, if_neg h1]
    by_cases h2 : f.kind = 2
    · rw [if_pos h2, if_pos h2]
      show (M.add (2 * M.c) 1).at_ i = _
      rw [add_at' _ (by omega)]
    · rw [if_neg h2, if_neg h2]
      by_cases h3 : f.kind = 3
      · rw [if_pos h3, if_pos h3]
        by_cases h4 : 1 ≤ f.reason ∧ f.reason ≤ 10
        · rw [if_pos h4, if_pos h4]
          show (M.add (2 * M.c + f.reason.toNat) 1).at_ i = _
          rw [add_at' _ (by omega)]
        · rw [if_neg h4, if_neg h4]; simp
      · rw [if_neg h3, if_neg h3]; simp
theorem inc_le (c : Nat) (f : FrameM) (i : Nat) : 0 ≤ inc c f i ∧ inc c f i ≤ 96 := by
  have h := opCost_le f.op
  unfold inc
  repeat' split
  all_goals omega

structure OkB (M : MM) (b : Int) : Prop where
  c1 : 1 ≤ M.c
  c4 : M.c ≤ 4
  len : M.l.length = 2 * M.c + 11
  low : ∀ i, 0 ≤ M.at_ i ∧ M.at_ i ≤ b
theorem OkB.ok {M : MM} {b : Int} (h : OkB M b) (hb : b ≤ 1000000) : M.Ok := ⟨h.c1, h.c4, h.len, fun x hx => by
  obtain ⟨i, hi⟩ := List.getElem?_of_mem hx
  have := h.low i
  rw [MM.at_, List.getD_eq_getElem?_getD, hi] at this
  simp at this; omega⟩
theorem OkB.new {c : Nat} (h1 : 1 ≤ c) (h2 : c ≤ 4) : OkB (MM.new c) 0 := ⟨h1, h2, by simp [MM.new], fun i => by
  unfold MM.at_ MM.new
  rw [List.getD_eq_getElem?_getD, List.getElem?_replicate]; split <;> simp⟩
theorem OkB.see {M : MM} {b : Int} (h : OkB M b) (f : FrameM) : OkB (M.see f).1 (b + 96) := ⟨by rw [see_c]; exact h.c1, by rw [see_c]; exact h.c4, by rw [see_len, see_c]; exact h.len, fun i => by
  rw [see_at h.len]
  have := h.low i
  have := inc_le M.c f i
  omega⟩

def seeAll (M : MM) (l : List FrameM) : MM := l.foldl (fun M f => (M.see f).1) M
theorem seeAll_app (M : MM) (l m : List FrameM) : seeAll M (l ++ m) = seeAll (seeAll M l) m := by simp [seeAll]
theorem seeAll_one (M : MM) (l : List FrameM) (f : FrameM) : seeAll M (l ++ [f]) = ((seeAll M l).see f).1 := by simp [seeAll]
theorem seeAll_c (M : MM) : ∀ l : List FrameM, (seeAll M l).c = M.c := by
  intro l
  induction l generalizing M with
  | nil => rfl
  | cons x l ih => show (seeAll (M.see x).1 l).c = _; rw [ih, see_c]
theorem seeAll_len (M : MM) : ∀ l : List FrameM, (seeAll M l).l.length = M.l.length := by
  intro l
  induction l generalizing M with
  | nil => rfl
  | cons x l ih => show (seeAll (M.see x).1 l).l.length = _; rw [ih, see_len]
def incs (c : Nat) (l : List FrameM) (i : Nat) : Int := (l.map fun f => inc c f i).sum
theorem seeAll_at : ∀ (l : List FrameM) {M : MM} (hl : M.l.length = 2 * M.c + 11) (i : Nat), (seeAll M l).at_ i = M.at_ i + incs M.c l i
  | [], M, _, i => by simp [seeAll, incs]
  | x :: l, M, hl, i => by
    show (seeAll (M.see x).1 l).at_ i = _
    rw [seeAll_at l (by rw [see_len, see_c]; exact hl) i, see_at hl, see_c]
    simp only [incs, List.map_cons, List.sum_cons]; omega
theorem OkB.seeAll {M : MM} {b : Int} (h : OkB M b) : ∀ l : List FrameM, OkB (seeAll M l) (b + 96 * l.length) := by
  intro l
  induction l generalizing M b with
  | nil => simpa [Met.seeAll] using h
  | cons x l ih =>
    have := ih (h.see x)
    rw [show b + 96 * ((x :: l).length : Int) = b + 96 + 96 * l.length by simp only [List.length_cons]; omega]
    exact this
/-- Two meters of which all counters are the same are the same. -/
theorem mm_ext {M N : MM} (hc : M.c = N.c) (hl : M.l.length = N.l.length) (h : ∀ i, M.at_ i = N.at_ i) : M = N := by
  obtain ⟨c, l⟩ := M
  obtain ⟨d, m⟩ := N
  dsimp only at hc hl
  subst hc
  congr 1
  apply List.ext_getElem hl
  intro i h1 h2
  have := h i
  unfold MM.at_ at this
  simpa [List.getD_eq_getElem?_getD, h1, h2] using this
theorem sum_perm {l m : List Int} (h : l.Perm m) : l.sum = m.sum := by
  induction h with
  | nil => rfl
  | cons x _ ih => simp [ih]
  | swap x y l => simp only [List.sum_cons]; omega
  | trans _ _ h1 h2 => exact h1.trans h2
theorem incs_perm {c : Nat} {l m : List FrameM} (h : l.Perm m) (i : Nat) : incs c l i = incs c m i := sum_perm (h.map _)
theorem incs_app (c : Nat) (l m : List FrameM) (i : Nat) : incs c (l ++ m) i = incs c l i + incs c m i := by simp [incs]
theorem new_at (c i : Nat) : (MM.new c).at_ i = 0 := by
  unfold MM.at_ MM.new
  rw [List.getD_eq_getElem?_getD, List.getElem?_replicate]; split <;> simp
theorem seeAll_new (c : Nat) (l : List FrameM) (i : Nat) : (seeAll (MM.new c) l).at_ i = incs c l i := by
  rw [seeAll_at l (by simp [MM.new]) i, new_at, Int.zero_add]; rfl

/-! ### Counted anew -/
theorem hit_iff (k c r : Int) (x : FrameM) : hit k c r x = true ↔ x.kind = k ∧ (c < 0 ∨ x.cls = c) ∧ (r < 0 ∨ x.reason = r) := by
  simp [hit, and_assoc]
theorem inc_calls {c : Nat} (f : FrameM) {n : Int} (h0 : 0 ≤ n) (h1 : n < c) : inc c f (2 * n.toNat) = if hit 1 n (-1) f then 1 else 0 := by
  by_cases hh : hit 1 n (-1) f = true
  · obtain ⟨k1, k2, _⟩ := (hit_iff _ _ _ _).1 hh
    have k2 : f.cls = n := by omega
    rw [if_pos hh, inc, if_pos k1, if_pos (by omega), if_pos (by rw [k2])]
  · rw [if_neg hh]
    rw [hit_iff] at hh
    unfold inc
    repeat' split
    all_goals first | rfl | omega
theorem inc_bytes {c : Nat} (f : FrameM) {n : Int} (h0 : 0 ≤ n) (h1 : n < c) : inc c f (2 * n.toNat + 1) = if hit 1 n (-1) f then opCost f.op else 0 := by
  by_cases hh : hit 1 n (-1) f = true
  · obtain ⟨k1, k2, _⟩ := (hit_iff _ _ _ _).1 hh
    have k2 : f.cls = n := by omega
    rw [if_pos hh, inc, if_pos k1, if_pos (by omega), if_neg (by omega), if_pos (by rw [k2])]
  · rw [if_neg hh]
    rw [hit_iff] at hh
    unfold inc
    repeat' split
    all_goals first | rfl | omega
theorem inc_replies (c : Nat) (f : FrameM) : inc c f (2 * c) = if hit 2 (-1) (-1) f then 1 else 0 := by
  by_cases hh : hit 2 (-1) (-1) f = true
  · obtain ⟨k1, _, _⟩ := (hit_iff _ _ _ _).1 hh
    rw [if_pos hh, inc, if_neg (by omega), if_pos k1, if_pos rfl]
  · rw [if_neg hh]
    rw [hit_iff] at hh
    unfold inc
    repeat' split
    all_goals first | rfl | omega
theorem inc_refused (c : Nat) (f : FrameM) {r : Int} (h0 : 1 ≤ r) (h1 : r ≤ 10) : inc c f (2 * c + r.toNat) = if hit 3 (-1) r f then 1 else 0 := by
  by_cases hh : hit 3 (-1) r f = true
  · obtain ⟨k1, _, k2⟩ := (hit_iff _ _ _ _).1 hh
    have k2 : f.reason = r := by omega
    rw [if_pos hh, inc, if_neg (by omega), if_neg (by omega), if_pos k1, if_pos (by omega), if_pos (by rw [k2])]
  · rw [if_neg hh]
    rw [hit_iff] at hh
    unfold inc
    repeat' split
    all_goals first | rfl | omega
theorem see_bytes {M : MM} (hl : M.l.length = 2 * M.c + 11) (f : FrameM) (n : Int) : (M.see f).1.bytes n = M.bytes n + if 0 ≤ n ∧ n < M.c then inc M.c f (2 * n.toNat + 1) else 0 := by
  unfold MM.bytes
  rw [see_c]
  by_cases h : 0 ≤ n ∧ n < M.c
  · rw [if_pos h, if_pos h, if_pos h, see_at hl]
  · rw [if_neg h, if_neg h, if_neg h]; simp
theorem see_sum {M : MM} (hl : M.l.length = 2 * M.c + 11) (f : FrameM) : ∀ n : Nat, n ≤ M.c → (M.see f).1.sum n = M.sum n + if f.kind = 1 ∧ 0 ≤ f.cls ∧ f.cls < n then opCost f.op else 0
  | 0, _ => by
    rw [if_neg (by omega)]; simp [MM.sum]
  | n + 1, h => by
    simp only [MM.sum]
    have e1 : (if 0 ≤ (n : Int) ∧ (n : Int) < M.c then inc M.c f (2 * (n : Int).toNat + 1) else 0) = if hit 1 (n : Int) (-1) f then opCost f.op else 0 := by
      rw [if_pos (by omega), inc_bytes f (by omega) (by omega)]
    rw [see_sum hl f n (by omega), see_bytes hl, e1]
    by_cases hh : hit 1 (n : Int) (-1) f = true
    · obtain ⟨k1, k2, _⟩ := (hit_iff _ _ _ _).1 hh
      have h4 : ¬ (f.kind = 1 ∧ 0 ≤ f.cls ∧ f.cls < (n : Int)) := by omega
      have h5 : f.kind = 1 ∧ 0 ≤ f.cls ∧ f.cls < ((n + 1 : Nat) : Int) := by omega
      rw [if_pos hh, if_neg h4, if_pos h5]; omega
    · rw [if_neg hh]
      rw [hit_iff] at hh
      by_cases h3 : f.kind = 1 ∧ 0 ≤ f.cls ∧ f.cls < (n : Int)
      · have h5 : f.kind = 1 ∧ 0 ≤ f.cls ∧ f.cls < ((n + 1 : Nat) : Int) := by omega
        rw [if_pos h3, if_pos h5]; omega
      · have h5 : ¬ (f.kind = 1 ∧ 0 ≤ f.cls ∧ f.cls < ((n + 1 : Nat) : Int)) := by omega
        rw [if_neg h3, if_neg h5]; omega

def bad (c : Int) (f : FrameM) : Bool := (decide (f.kind = 1) && (decide (f.cls < 0) || decide (c ≤ f.cls))) || (decide (f.kind = 3) && (decide (f.reason < 1) || decide (10 < f.reason)))
theorem see_err (M : MM) (f : FrameM) : (M.see f).2 = if bad M.c f then 2 else 0 := by
  unfold MM.see bad
  by_cases h1 : f.kind = 1
  · rw [if_pos h1]
    by_cases h2 : 0 ≤ f.cls ∧ f.cls < M.c
    · rw [if_pos h2, if_neg (by simp [h1]; omega)]
    · rw [if_neg h2, if_pos (by simp [h1]; omega)]
  · rw [if_neg h1]
    by_cases h2 : f.kind = 2
    · rw [if_pos h2, if_neg (by simp [h2])]
    · rw [if_neg h2]
      by_cases h3 : f.kind = 3
      · rw [if_pos h3]
        by_cases h4 : 1 ≤ f.reason ∧ f.reason ≤ 10
        · rw [if_pos h4, if_neg (by simp [h3]; omega)]
        · rw [if_neg h4, if_pos (by simp [h3]; omega)]
      · rw [if_neg h3, if_neg (by simp [h1, h3])]
theorem see_bad {M : MM} {f : FrameM} (h : bad M.c f = true) : (M.see f).1 = M := by
  simp only [bad, Bool.or_eq_true, Bool.and_eq_true, decide_eq_true_eq] at h
  unfold MM.see
  rcases h with ⟨h1, h2⟩ | ⟨h1, h2⟩
  · rw [if_pos h1, if_neg (by omega)]
  · rw [if_neg (by omega), if_neg (by omega), if_pos h1, if_neg (by omega)]
theorem Cor.new {c : Nat} : Cor (MM.new c) [] := ⟨fun n h0 h1 => by simp only [MM.calls, new_at]; simp [cntN], fun n h0 h1 => by simp only [MM.bytes, new_at]; simp [cntB], by
  have : ∀ n, (MM.new c).sum n = 0 := fun n => by
    induction n with
    | zero => rfl
    | succ n ih => simp only [MM.sum, ih, MM.bytes, new_at]; simp
  rw [this]; rfl, by rw [MM.replies, new_at]; rfl, fun r h0 h1 => by simp only [MM.refused, new_at]; simp [cntN]⟩
theorem Cor.see {M : MM} {l : List FrameM} (h : Cor M l) (hl : M.l.length = 2 * M.c + 11) {f : FrameM} (hb : bad M.c f = false) : Cor (M.see f).1 (l ++ [f]) := by
  have hb' : ¬ ((f.kind = 1 ∧ (f.cls < 0 ∨ (M.c : Int) ≤ f.cls)) ∨ (f.kind = 3 ∧ (f.reason < 1 ∨ 10 < f.reason))) := by
    intro hx
    have : bad M.c f = true := by simp only [bad, Bool.or_eq_true, Bool.and_eq_true, decide_eq_true_eq]; exact hx
    rw [hb] at this; cases this
  refine ⟨fun n h0 h1 => ?_, fun n h0 h1 => ?_, ?_, ?_, fun r h0 h1 => ?_⟩
  · rw [see_c] at h1
    rw [cntN_app, h.calls n h0 h1, MM.calls, MM.calls, see_c, if_pos ⟨h0, h1⟩, if_pos ⟨h0, h1⟩, see_at hl, inc_calls f h0 h1]
    simp [cntN]
  · rw [see_c] at h1
    rw [cntB_app, h.bytes n h0 h1, see_bytes hl, if_pos ⟨h0, h1⟩, inc_bytes f h0 h1]
    simp [cntB]
  · rw [cntB_app, h.all, see_c, see_sum hl f M.c (Nat.le_refl _)]
    have : (hit 1 (-1) (-1) f = true) ↔ (f.kind = 1 ∧ 0 ≤ f.cls ∧ f.cls < (M.c : Int)) := by rw [hit_iff]; omega
    by_cases hx : hit 1 (-1) (-1) f = true
    · rw [if_pos (this.1 hx)]; simp [cntB, hx]
    · rw [if_neg (fun e => hx (this.2 e))]; simp [cntB, hx]
  · rw [cntN_app, h.replies, MM.replies, MM.replies, see_c, see_at hl, inc_replies]
    simp [cntN]
  · rw [cntN_app, h.refused r h0 h1, MM.refused, MM.refused, see_c, if_pos ⟨h0, h1⟩, if_pos ⟨h0, h1⟩, see_at hl, inc_refused M.c f h0 h1]
    simp [cntN]
end Go.Proofs.YtoinocihlfmnnaaDoor.Met
