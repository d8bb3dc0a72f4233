/- The engine, part P: lists of rows of cells, in slices whose heads are cut off and which are copied. No program is named; nothing is assumed. -/
import Derived.Test.YtbbnmgakmcppdaaGreatVgN
namespace Go.Proofs.YtbbnmgakmcppdaaGreat.Vg
open Go

/-- A list of rows, in a slice that this code holds. -/
structure RL (α : Type) where
  addr : Option Addr
  cap : Nat
  blk : Option Nat
  cells : List Value
  xs : List α
section
variable {α : Type} {c : α → List Value} {n t : Nat}
def RL.v (r : RL α) : Value := .slice r.addr r.xs.length r.cap
def RL.h (t : Nat) (r : RL α) : HP := match r.blk with
  | none => hpure True
  | some b => pt b r.cells t
structure RL.Ok (c : α → List Value) (n : Nat) (r : RL α) : Prop where
  room : r.xs.length ≤ r.cap
  at_ : r.xs ≠ [] → ∃ b off, r.blk = some b ∧ r.addr = some ⟨b, off, none⟩ ∧ ∀ i x, r.xs[i]? = some x → (r.cells.drop (off + i * n)).take n = c x
def RL.none : RL α := ⟨.none, 0, .none, [], []⟩
theorem RL.none_ok : (RL.none : RL α).Ok c n := ⟨Nat.le_refl _, fun h => absurd rfl h⟩
def RL.tail (n : Nat) (r : RL α) : RL α := ⟨match r.addr with | some a => some (if r.cap = 1 then a else ⟨a.block, a.off + n, Option.none⟩) | Option.none => Option.none, r.cap - 1, r.blk, r.cells, r.xs.tail⟩
theorem RL.Ok.tail {r : RL α} (h : r.Ok c n) (hne : r.xs ≠ []) : (r.tail n).Ok c n := by
  obtain ⟨b, off, h1, h2, h3⟩ := h.at_ hne
  have hr := h.room
  cases hx : r.xs with
  | nil => exact absurd hx hne
  | cons x xs =>
    refine ⟨by simp only [RL.tail, hx, List.tail_cons]; rw [hx] at hr; simp at hr; omega, fun hn => ?_⟩
    have hxs : xs ≠ [] := by simpa [RL.tail, hx] using hn
    have hc : ¬ r.cap = 1 := fun e => by
      rw [hx, e] at hr
      cases xs with
      | nil => exact hxs rfl
      | cons _ _ => simp at hr
    refine ⟨b, off + n, h1, by simp [RL.tail, h2, hc], fun i y hy => ?_⟩
    have := h3 (i + 1) y (by rw [hx]; simpa [RL.tail, hx] using hy)
    rw [← this]; simp only [RL.tail]
    rw [show off + n + i * n = off + (i + 1) * n from by rw [Nat.succ_mul]; omega]
def RL.new (c : α → List Value) (b cap : Nat) (xs : List α) (rest : List Value) : RL α := ⟨some ⟨b, 0, Option.none⟩, cap, some b, flat c xs ++ rest, xs⟩
theorem RL.new_ok (hc : ∀ x, (c x).length = n) {b cap : Nat} {xs : List α} {rest : List Value} (h : xs.length ≤ cap) : (RL.new c b cap xs rest).Ok c n := ⟨h, fun _ => ⟨b, 0, rfl, rfl, fun i x hx => by
  rw [Nat.zero_add]; exact flat_row hc hx rest⟩⟩
theorem flat_rows : ∀ {xs : List α} {cells : List Value} {off : Nat}, (∀ i x, xs[i]? = some x → (cells.drop (off + i * n)).take n = c x) → (cells.drop off).take (xs.length * n) = flat c xs
  | [], cells, off, _ => by simp [flat]
  | x :: xs, cells, off, h => by
    have h0 := h 0 x rfl
    rw [Nat.zero_mul, Nat.add_zero] at h0
    have ih := flat_rows (xs := xs) (cells := cells) (off := off + n) (fun i y hy => by
      rw [← h (i + 1) y (by simpa using hy)]
      rw [show off + n + i * n = off + (i + 1) * n from by rw [Nat.succ_mul]; omega])
    rw [List.length_cons, Nat.succ_mul, Nat.add_comm (xs.length * n) n, List.take_add, h0, flat_cons, List.drop_drop, ih]
/-- Read as a row. -/
theorem RL.rd {X : Cx} {L : List HP} {r : RL α} (hc : ∀ x, (c x).length = n) (h : r.Ok c n) (i : Nat) (hL : L[i]? = some (r.h t)) : RdRow X L r.v n r.xs.length (flat c r.xs) := by
  by_cases hx : r.xs = []
  · exact ⟨by simp [hx, flat], .inl ⟨r.addr, r.cap, rfl, by simp [hx]⟩⟩
  · obtain ⟨b, off, h1, h2, h3⟩ := h.at_ hx
    have hp : L[i]? = some (pt b r.cells t) := by rw [hL, RL.h, h1]
    rw [RL.v, h2]
    exact RdRow.pt i hp (flat_rows h3) (flat_len hc _)
/-- Its first one, and where it lies. -/
theorem RL.Ok.first {r : RL α} {x : α} {xs : List α} (h : r.Ok c n) (hx : r.xs = x :: xs) : ∃ b off, r.blk = some b ∧ r.addr = some ⟨b, off, Option.none⟩ ∧ (r.cells.drop off).take n = c x := by
  obtain ⟨b, off, h1, h2, h3⟩ := h.at_ (by rw [hx]; simp)
  exact ⟨b, off, h1, h2, by simpa using h3 0 x (by rw [hx]; rfl)⟩
theorem RL.Ok.nth {r : RL α} {x : α} {k : Nat} (h : r.Ok c n) (hx : r.xs[k]? = some x) : ∃ b off, r.blk = some b ∧ r.addr = some ⟨b, off, Option.none⟩ ∧ (r.cells.drop (off + k * n)).take n = c x := by
  obtain ⟨b, off, h1, h2, h3⟩ := h.at_ (fun e => by rw [e] at hx; cases hx)
  exact ⟨b, off, h1, h2, h3 k x hx⟩
theorem RL.h_pt {r : RL α} {b : Nat} (h : r.blk = some b) : r.h t = pt b r.cells t := by rw [RL.h, h]
/-- What it grew to, as a list of rows. -/
theorem HOpn.rl (el : Nat) (a : Option Addr) (cap : Nat) (xs : List α) (hc : ∀ x, (c x).length = n) : HOpn (ι := RL α) (slH el n a xs.length cap (flat c xs)) (fun r => r.Ok c n ∧ r.v = .slice a xs.length cap ∧ r.xs = xs) (fun r => [r.h el]) := by
  intro w ids h hn
  obtain ⟨x, hx, ids', h1, h2, h3⟩ := HOpn.sl el n a xs.length cap (flat c xs) w ids h hn
  cases x with
  | none =>
    obtain ⟨h5, h6, h7, h8, h9, h10⟩ := hx
    subst h7; subst h9
    obtain rfl : xs = [] := List.eq_nil_of_length_eq_zero h8
    cases h1
    exact ⟨RL.none, ⟨RL.none_ok, rfl, rfl⟩, [], ⟨[], [], rfl, ⟨rfl, trivial⟩, rfl⟩, .nil, fun _ h => by cases h⟩
  | some x =>
    obtain ⟨b, rest⟩ := x
    obtain ⟨h5, h6, h7, h8⟩ := hx
    subst h7
    exact ⟨RL.new c b cap xs rest, ⟨RL.new_ok hc h6, rfl, rfl⟩, ids', h1, h2, h3⟩
end
end Go.Proofs.YtbbnmgakmcppdaaGreat.Vg
