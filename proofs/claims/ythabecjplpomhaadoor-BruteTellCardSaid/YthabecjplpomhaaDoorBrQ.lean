/- Layer 33, plain: ways through a search; more calls; calls one after the other. No program. No condition. -/
import Derived.Test.YthabecjplpomhaaDoorBrL
namespace Go.Proofs.YthabecjplpomhaaDoor.Br
open Go Go.Proofs.YthabecjplpomhaaDoor.Vg Go.Proofs.YthabecjplpomhaaDoor.Api Go.Proofs.YthabecjplpomhaaDoor.Kv Go.Proofs.YthabecjplpomhaaDoor.LibC
set_option linter.unusedSimpArgs false
set_option linter.unusedVariables false

/-- A way on from what stands. -/
def Path (l : List RecM) : List Nat → F → Int → List Nat → Prop
  | st, f, n, [] => allDone l st = true
  | st, f, n, i :: p => i < l.length ∧ may l st i = true ∧ tells (at_ l i) (stp f n (at_ l i)).2.2 = true ∧ Path l (st ++ [i]) (stp f n (at_ l i)).1 (stp f n (at_ l i)).2.1 p
theorem solve_path {l : List RecM} : ∀ {m : Nat} {st : List Nat} {f : F} {n : Int} {o : List Nat}, solve l m st f n = some o → ∃ p, Path l st f n p ∧ p.length ≤ m
  | 0, st, f, n, o, h => by
    rw [solve] at h
    split at h
    · exact ⟨[], by assumption, Nat.le_refl _⟩
    · cases h
  | m + 1, st, f, n, o, h => by
    rw [solve] at h
    split at h
    · exact ⟨[], by assumption, Nat.zero_le _⟩
    · obtain ⟨i, hi, hs⟩ := List.exists_of_findSome?_eq_some h
      split at hs
      · rename_i hm
        rw [Bool.and_eq_true] at hm
        obtain ⟨p, hp, hl⟩ := solve_path hs
        exact ⟨i :: p, ⟨List.mem_range.1 hi, hm.1, hm.2, hp⟩, by simp; omega⟩
      · cases hs
theorem path_solve {l : List RecM} : ∀ {p : List Nat} {m : Nat} {st : List Nat} {f : F} {n : Int}, Path l st f n p → p.length ≤ m → solve l m st f n ≠ none
  | [], m, st, f, n, h, _ => by rw [solve_done h]; simp
  | i :: p, 0, st, f, n, h, hl => by simp at hl
  | i :: p, m + 1, st, f, n, ⟨h1, h2, h3, h4⟩, hl => by
    rw [solve]
    split
    · simp
    · intro hc
      rw [List.findSome?_eq_none_iff] at hc
      have := hc i (List.mem_range.2 h1)
      rw [h2, h3] at this
      exact path_solve h4 (by simpa using hl) this

/-! ### More calls that are not done -/
theorem at_app {l m : List RecM} {i : Nat} (h : i < l.length) : at_ (l ++ m) i = at_ l i := by
  simp [at_, List.getD_eq_getElem?_getD, List.getElem?_append_left h]
theorem at_more {l m : List RecM} (hm : ∀ r ∈ m, r.done = false) {i : Nat} (h1 : l.length ≤ i) (h2 : i < (l ++ m).length) : (at_ (l ++ m) i).done = false := by
  have hi : i - l.length < m.length := by simp at h2; omega
  have : at_ (l ++ m) i = m[i - l.length] := by
    simp [at_, List.getD_eq_getElem?_getD, List.getElem?_append_right h1, hi]
  rw [this]; exact hm _ (List.getElem_mem _)
theorem allDone_more {l m : List RecM} (hm : ∀ r ∈ m, r.done = false) {st : List Nat} (h : allDone l st = true) : allDone (l ++ m) st = true := by
  refine List.all_eq_true.2 fun i hi => ?_
  rcases Nat.lt_or_ge i l.length with hl | hl
  · rw [at_app hl]; exact List.all_eq_true.1 h i (List.mem_range.2 hl)
  · rw [at_more hm hl (List.mem_range.1 hi)]; rfl
theorem may_more {l m : List RecM} (hm : ∀ r ∈ m, r.done = false) {st : List Nat} {i : Nat} (hi : i < l.length) (h : may l st i = true) : may (l ++ m) st i = true := by
  rw [may_eq, Bool.and_eq_true] at h ⊢
  rw [at_app hi]
  refine ⟨h.1, List.all_eq_true.2 fun j hj => ?_⟩
  unfold blocks
  rcases Nat.lt_or_ge j l.length with hl | hl
  · rw [at_app hl, at_app hi]; exact List.all_eq_true.1 h.2 j (List.mem_range.2 hl)
  · rw [at_more hm hl (List.mem_range.1 hj)]; rfl
theorem path_more {l m : List RecM} (hm : ∀ r ∈ m, r.done = false) : ∀ {p : List Nat} {st : List Nat} {f : F} {n : Int}, Path l st f n p → Path (l ++ m) st f n p
  | [], st, f, n, h => allDone_more hm h
  | i :: p, st, f, n, ⟨h1, h2, h3, h4⟩ => by
    refine ⟨by simp; omega, may_more hm h1 h2, ?_, ?_⟩
    · rw [at_app h1]; exact h3
    · rw [at_app h1]; exact path_more hm h4
theorem order_more {l m : List RecM} (hm : ∀ r ∈ m, r.done = false) {o : List Nat} (h : orderM l = some o) : (orderM (l ++ m)).isSome = true := by
  obtain ⟨p, hp, hl⟩ := solve_path h
  have := path_solve (path_more hm hp) (m := (l ++ m).length) (by simp; omega)
  unfold orderM
  cases hs : solve (l ++ m) (l ++ m).length [] (fun _ => none) 0 with
  | none => exact (this hs).elim
  | some _ => rfl
theorem lin_more {l m : List RecM} (hm : ∀ r ∈ m, r.done = false) (ho : ∀ r ∈ m, opCheck r.op = 0) (hl : l.length + m.length ≤ 8) {o : List Nat} (h : ordOut l = some o) : linOk (l ++ m) = true ∧ checkM (l ++ m) = 0 := by
  unfold ordOut at h
  split at h
  · rename_i hc
    have hops : opsOk l = true := by
      unfold checkM at hc
      split at hc
      · omega
      split at hc
      · assumption
      · omega
    have h1 : checkM (l ++ m) = 0 := by
      have : opsOk (l ++ m) = true := List.all_eq_true.2 fun r hr => by
        rcases List.mem_append.1 hr with hr | hr
        · exact decide_eq_true (opsOk_all hops r hr)
        · exact decide_eq_true (ho r hr)
      rw [checkM, if_neg (by simp; omega), this]; rfl
    exact ⟨by rw [linOk, h1, order_more hm h]; rfl, h1⟩
  · cases h

/-! ### Calls one after the other -/
/-- Each call is done, ended ahead of the next one's begin, and tells what comes of it. -/
def stAt (l : List RecM) : Nat → F × Int
  | 0 => (fun _ => none, 0)
  | i + 1 => ((stp (stAt l i).1 (stAt l i).2 (at_ l i)).1, (stp (stAt l i).1 (stAt l i).2 (at_ l i)).2.1)
structure Serial (l : List RecM) : Prop where
  done : ∀ i, i < l.length → (at_ l i).kind = 1
  frm : ∀ i, i < l.length → (at_ l i).frm = 2 * i
  to : ∀ i, i < l.length → (at_ l i).to = 2 * i + 1
theorem serial_may {l : List RecM} (h : Serial l) {i : Nat} (hi : i < l.length) : may l (List.range i) i = true := by
  have hd : ∀ k, k < l.length → (at_ l k).done = true := fun k hk => by rw [RecM.done, h.done k hk]; rfl
  rw [may_eq, Bool.and_eq_true]
  refine ⟨by simp [RecM.stand, hd i hi], List.all_eq_true.2 fun j hj => ?_⟩
  have hj2 := List.mem_range.1 hj
  unfold blocks
  rw [h.frm i hi, h.to j hj2]
  by_cases hji : j < i
  · simp [hji]
  · simp; intros; omega
theorem serial_next {l : List RecM} (h : Serial l) {i j : Nat} (hi : i < l.length) (hj : j < l.length) (hm : may l (List.range i) j = true) : j = i := by
  have hd : ∀ k, k < l.length → (at_ l k).done = true := fun k hk => by rw [RecM.done, h.done k hk]; rfl
  obtain ⟨h1, _⟩ := may_of hm
  have h1 : i ≤ j := by simpa using h1
  rw [may_eq, Bool.and_eq_true] at hm
  have := List.all_eq_true.1 hm.2 i (List.mem_range.2 hi)
  unfold blocks at this
  rw [hd i hi, h.frm j hj, h.to i hi] at this
  simp at this
  omega
theorem serial_all {l : List RecM} : allDone l (List.range l.length) = true := List.all_eq_true.2 fun i hi => by
  have := List.mem_range.1 hi
  simp [this]
theorem serial_path {l : List RecM} (h : Serial l) (ht : ∀ i, i < l.length → tells (at_ l i) (stp (stAt l i).1 (stAt l i).2 (at_ l i)).2.2 = true) : ∀ (k i : Nat), i + k = l.length → ∃ p, Path l (List.range i) (stAt l i).1 (stAt l i).2 p ∧ p.length = k
  | 0, i, hk => by
    obtain rfl : i = l.length := by omega
    exact ⟨[], serial_all, rfl⟩
  | k + 1, i, hk => by
    obtain ⟨p, hp, hl⟩ := serial_path h ht k (i + 1) (by omega)
    rw [List.range_succ] at hp
    exact ⟨i :: p, ⟨by omega, serial_may h (by omega), ht i (by omega), hp⟩, by simp [hl]⟩
theorem serial_yes {l : List RecM} (h : Serial l) (ht : ∀ i, i < l.length → tells (at_ l i) (stp (stAt l i).1 (stAt l i).2 (at_ l i)).2.2 = true) : (orderM l).isSome = true := by
  obtain ⟨p, hp, hl⟩ := serial_path h ht l.length 0 (by omega)
  have := path_solve hp (m := l.length) (by omega)
  unfold orderM
  cases hs : solve l l.length [] (fun _ => none) 0 with
  | none => exact (this hs).elim
  | some _ => rfl
theorem serial_stuck {l : List RecM} (h : Serial l) {k : Nat} (hk : k < l.length) (hno : tells (at_ l k) (stp (stAt l k).1 (stAt l k).2 (at_ l k)).2.2 = false) : ∀ (m i : Nat), i + m = k → ∀ p, ¬ Path l (List.range i) (stAt l i).1 (stAt l i).2 p
  | m, i, hm, [] => fun hp => by
    have : allDone l (List.range i) = true := hp
    have := List.all_eq_true.1 this k (List.mem_range.2 hk)
    rw [show (at_ l k).done = true from by rw [RecM.done, h.done k hk]; rfl] at this
    simp at this; omega
  | 0, i, hm, j :: p => fun ⟨h1, h2, h3, _⟩ => by
    obtain rfl : i = k := by omega
    obtain rfl := serial_next h hk h1 h2
    rw [hno] at h3; cases h3
  | m + 1, i, hm, j :: p => fun ⟨h1, h2, h3, h4⟩ => by
    obtain rfl := serial_next h (by omega) h1 h2
    refine serial_stuck h hk hno m (j + 1) (by omega) p ?_
    rw [List.range_succ]; exact h4
theorem serial_no {l : List RecM} (h : Serial l) {k : Nat} (hk : k < l.length) (hno : tells (at_ l k) (stp (stAt l k).1 (stAt l k).2 (at_ l k)).2.2 = false) : orderM l = none := by
  cases hs : orderM l with
  | none => rfl
  | some o =>
    obtain ⟨p, hp, _⟩ := solve_path hs
    exact (serial_stuck h hk hno k 0 (by omega) p hp).elim
end Go.Proofs.YthabecjplpomhaaDoor.Br
