/- The engine, part Q: what an argument of a law is, by its cells: structs of structs, slices of these. No program is named; nothing is assumed. -/
import Derived.Test.YtbbnmgakmcppdaaGreatVgM
namespace Go.Proofs.YtbbnmgakmcppdaaGreat.Vg
open Go Go.ChangeShapes Go.WideShapes Go.ChangeAt Go.RowKit

section
variable {H : Type} (enc : TypeId × Value → H) (P : Program) (w : World) (base : Nat) (spare : Nat → Bool) (held : Bool)
/-- One cell of a plain type. -/
def Leaf (t : TypeId) (v : Value) : Prop := ∃ fuel x, DataW.trod enc P w base spare held fuel t [v] = some x
/-- The fields of a struct, one behind the other. -/
def flatFs (rec : TypeId → Option (List TypeId)) : List Field → Nat → Option (List TypeId)
  | [], _ => some []
  | f :: fs, off => if f.offset = off then match rec f.type with
      | some l => if P.cellsOf f.type = l.length then (flatFs rec fs (off + l.length)).map (l ++ ·) else none
      | none => none
    else none
/-- The types of a type's cells. -/
def flatT : Nat → TypeId → Option (List TypeId)
  | 0, _ => none
  | n + 1, t => match P.underlying t with
    | some (.struct fs) => match flatFs P (flatT n) fs.toList 0 with
      | some l => if P.cellsOf t = l.length then some l else none
      | none => none
    | some (.int _) => some [t]
    | some .bool => some [t]
    | some .string => some [t]
    | some (.slice _) => some [t]
    | some (.pointer _) => some [t]
    | _ => none
end

section
variable {H : Type} {enc : TypeId × Value → H} {P : Program} {w : World} {base : Nat} {spare : Nat → Bool} {held : Bool}

theorem Leaf.int {t : TypeId} {v : Value} {k : IntKind} (h : Leaf enc P w base spare held t v) (ht : P.underlying t = some (.int k)) : ∃ n, v = .int k n ∧ (Lit.int k n).wf = true := by
  obtain ⟨fuel, x, h⟩ := h
  obtain ⟨n, e, _, hw⟩ := DataW.trod_int ht h
  exact ⟨n, (List.cons.inj e).1, hw⟩
theorem Leaf.bool {t : TypeId} {v : Value} (h : Leaf enc P w base spare held t v) (ht : P.underlying t = some .bool) : ∃ b, v = .bool b := by
  obtain ⟨fuel, x, h⟩ := h
  obtain ⟨n, e, _⟩ := DataW.trod_bool ht h
  exact ⟨n, (List.cons.inj e).1⟩
theorem Leaf.str {t : TypeId} {v : Value} (h : Leaf enc P w base spare held t v) (ht : P.underlying t = some .string) : ∃ s, v = .string s ∧ s.size ≤ maxLen := by
  obtain ⟨fuel, x, h⟩ := h
  obtain ⟨n, e, _, hs⟩ := DataW.trod_string ht h
  exact ⟨n, (List.cons.inj e).1, hs⟩
theorem Leaf.slice {t e : TypeId} {v : Value} (h : Leaf enc P w base spare held t v) (ht : P.underlying t = some (.slice e)) : ∃ a n c, v = .slice a n c := by
  obtain ⟨fuel, x, h⟩ := h
  rcases DataW.trod_slice ht h with ⟨e, _⟩ | ⟨a, len, cap, _, _, _, _, e, _⟩
  · exact ⟨none, 0, 0, (List.cons.inj e).1⟩
  · exact ⟨some a, len, cap, (List.cons.inj e).1⟩

theorem flatFs_ok {rec : TypeId → Option (List TypeId)} {cs : List Value} {n : Nat}
    (hrec : ∀ (t : TypeId) (ls : List TypeId), rec t = some ls → ∀ (cs : List Value) x, DataW.trod enc P w base spare held n t cs = some x → cs.length = ls.length ∧ ∀ (i : Nat) (v : Value) (u : TypeId), cs[i]? = some v → ls[i]? = some u → Leaf enc P w base spare held u v) :
    ∀ (fs : List Field) (off : Nat) (ls : List TypeId), flatFs P rec fs off = some ls → (∀ f ∈ fs, ∃ y, DataW.trod enc P w base spare held n f.type ((cs.drop f.offset).take (P.cellsOf f.type)) = some y) →
      ∀ (i : Nat) (v : Value) (u : TypeId), cs[off + i]? = some v → ls[i]? = some u → Leaf enc P w base spare held u v
  | [], off, ls, h, _, i, v, u, _, hu => by
    obtain rfl : ls = [] := by simpa [flatFs] using h.symm
    simp at hu
  | f :: fs, off, ls, h, hf, i, v, u, hv, hu => by
    simp only [flatFs] at h
    split at h
    · rename_i hoff
      split at h
      · rename_i l hl
        split at h
        · rename_i hc
          cases hr : flatFs P rec fs (off + l.length) with
          | none => rw [hr] at h; cases h
          | some ls' =>
            rw [hr] at h
            obtain rfl : l ++ ls' = ls := by simpa using h
            obtain ⟨y, hy⟩ := hf f (by simp)
            obtain ⟨h1, h2⟩ := hrec f.type l hl _ y hy
            by_cases hi : i < l.length
            · refine h2 i v u ?_ (by rwa [List.getElem?_append_left hi] at hu)
              rw [List.getElem?_take, if_pos (by omega), List.getElem?_drop, hoff]; exact hv
            · rw [List.getElem?_append_right (by omega)] at hu
              refine flatFs_ok hrec fs (off + l.length) ls' hr (fun g hg => hf g (by simp [hg])) (i - l.length) v u ?_ hu
              rw [← hv]; congr 1; omega
        · cases h
      · cases h
    · cases h

theorem flatT_ok : ∀ (n : Nat) (t : TypeId) (ls : List TypeId), flatT P n t = some ls → ∀ (fuel : Nat) (cs : List Value) x, DataW.trod enc P w base spare held fuel t cs = some x →
    cs.length = ls.length ∧ ∀ (i : Nat) (v : Value) (u : TypeId), cs[i]? = some v → ls[i]? = some u → Leaf enc P w base spare held u v
  | 0, t, ls, h, _, _, _, _ => by simp [flatT] at h
  | n + 1, t, ls, h, fuel, cs, x, hx => by
    have one : ∀ v, cs = [v] → ls = [t] → cs.length = ls.length ∧ ∀ (i : Nat) (v : Value) (u : TypeId), cs[i]? = some v → ls[i]? = some u → Leaf enc P w base spare held u v := by
      intro v h1 h2
      subst h1; subst h2
      refine ⟨rfl, fun i v' u hv hu => ?_⟩
      match i, hv, hu with
      | 0, hv, hu =>
        obtain rfl := Option.some.inj hv
        obtain rfl := Option.some.inj hu
        exact ⟨fuel, x, hx⟩
      | i + 1, hv, _ => cases hv
    simp only [flatT] at h
    split at h
    · rename_i fs ht
      cases hr : flatFs P (flatT P n) fs.toList 0 with
      | none => rw [hr] at h; cases h
      | some l =>
        rw [hr] at h
        dsimp only at h
        split at h
        · rename_i hc
          obtain rfl := Option.some.inj h
          obtain ⟨xs, m, _, _, hl, hlen, hfs⟩ := DataW.trod_struct ht hx
          refine ⟨hl.trans hc, fun i v u hv hu => ?_⟩
          refine flatFs_ok (n := m) (cs := cs) (fun t ls h1 cs x h2 => flatT_ok n t ls h1 m cs x h2) fs.toList 0 l hr (fun f hf => ?_) i v u (by rwa [Nat.zero_add]) hu
          obtain ⟨j, hj⟩ := List.getElem?_of_mem hf
          have hj' : fs[j]? = some f := by simpa using hj
          have hjl : j < xs.length := by
            have := (Array.getElem?_eq_some_iff.1 hj').1
            omega
          exact ⟨xs[j], by rw [hfs j f hj', List.getElem?_eq_getElem hjl]⟩
        · cases h
    · rename_i k ht
      obtain ⟨a, e, _⟩ := DataW.trod_int ht hx
      exact one _ e (Option.some.inj h).symm
    · rename_i ht
      obtain ⟨a, e, _⟩ := DataW.trod_bool ht hx
      exact one _ e (Option.some.inj h).symm
    · rename_i ht
      obtain ⟨a, e, _⟩ := DataW.trod_string ht hx
      exact one _ e (Option.some.inj h).symm
    · rename_i e ht
      rcases DataW.trod_slice ht hx with ⟨e, _⟩ | ⟨_, _, _, _, _, _, _, e, _⟩
      · exact one _ e (Option.some.inj h).symm
      · exact one _ e (Option.some.inj h).symm
    · rename_i e ht
      rcases DataW.trod_pointer ht hx with ⟨e, _⟩ | ⟨_, _, _, _, _, e, _⟩
      · exact one _ e (Option.some.inj h).symm
      · exact one _ e (Option.some.inj h).symm
    · cases h

theorem cell_block {w : World} {a : Addr} {v : Value} (h : w.cell? a = some v) : a.block < w.heap.size := by
  unfold World.cell? at h
  cases hb : w.heap[a.block]? with
  | none => simp [hb] at h
  | some o => exact (Array.getElem?_eq_some_iff.1 hb).1

/-- A slice of rows, as an argument. -/
theorem open_rows {α : Type} (cells : α → List Value) (φ : α → Prop) {t e : TypeId} {n : Nat} {ls : List TypeId} (ht : P.underlying t = some (.slice e)) (hf : flatT P n e = some ls) (hce : P.cellsOf e = ls.length) (hpos : 0 < ls.length)
    (hrow : ∀ cs, cs.length = ls.length → (∀ (i : Nat) (v : Value) (u : TypeId), cs[i]? = some v → ls[i]? = some u → Leaf enc P w base spare held u v) → ∃ x, cs = cells x ∧ φ x)
    {fuel : Nat} {v : Value} {x : DataW H × List MemPlace} (h : DataW.trod enc P w base spare held fuel t [v] = some x) :
    ∃ (a : Option Addr) (tc : Nat) (l : List α), v = .slice a l.length tc ∧ (l.length ≤ tc ∧ l.length ≤ maxLen) ∧ (∀ x ∈ l, φ x) ∧ (l ≠ [] → ∃ b off, a = some ⟨b, off, none⟩ ∧ b < w.heap.size ∧ ∀ i x, l[i]? = some x → ∀ j v, (cells x)[j]? = some v → w.cell? ⟨b, off + i * ls.length + j, none⟩ = some v) := by
  rcases Go.Deep.open_slice ht h with ⟨e, _⟩ | ⟨a', len, cap, m, n', D, Pl, e, _, hle, hcm, hm, _, hx⟩
  · exact ⟨none, 0, [], (List.cons.inj e).1, ⟨Nat.zero_le _, Nat.zero_le _⟩, fun x hx => by simp at hx, fun h => absurd rfl h⟩
  · have hlm : len ≤ m := by rw [hm]; split <;> omega
    rw [hce] at hx
    have key : ∀ i, i < len → ∃ y : α, φ y ∧ (cells y).length = ls.length ∧ ∀ j v, (cells y)[j]? = some v → w.cell? ((a'.add (i * ls.length)).add j) = some v := by
      intro i hi
      obtain ⟨cs', h1, h2⟩ := hx i (by omega)
      obtain ⟨_, hl, hc⟩ := World.cells?_some h1
      obtain ⟨h3, h4⟩ := flatT_ok n _ ls hf _ _ _ h2
      obtain ⟨y, rfl, hy⟩ := hrow cs' h3 h4
      refine ⟨y, hy, h3, fun j v hv => ?_⟩
      have hj : j < ls.length := by have := (List.getElem?_eq_some_iff.1 hv).1; omega
      rw [hc j hj, hv]
    have build : ∀ k, k ≤ len → ∃ l : List α, l.length = k ∧ ∀ i x, l[i]? = some x → φ x ∧ (cells x).length = ls.length ∧ ∀ j v, (cells x)[j]? = some v → w.cell? ((a'.add (i * ls.length)).add j) = some v := by
      intro k
      induction k with
      | zero => intro _; exact ⟨[], rfl, fun i x hx => by simp at hx⟩
      | succ k ih =>
        intro hk
        obtain ⟨l, hl, hall⟩ := ih (by omega)
        obtain ⟨y, hy⟩ := key k (by omega)
        refine ⟨l ++ [y], by simp [hl], fun i x hx => ?_⟩
        by_cases hi : i < l.length
        · rw [List.getElem?_append_left hi] at hx; exact hall i x hx
        · rw [List.getElem?_append_right (by omega)] at hx
          have hi2 : i = k := by
            have := (List.getElem?_eq_some_iff.1 hx).1
            simp at this; omega
          subst hi2
          rw [hl, Nat.sub_self] at hx
          obtain rfl := Option.some.inj hx
          exact hy
    obtain ⟨l, hl, hall⟩ := build len (Nat.le_refl _)
    subst hl
    refine ⟨some a', cap, l, (List.cons.inj e).1, ⟨by omega, by omega⟩, fun x hx => ?_, fun hne => ?_⟩
    · obtain ⟨i, hi⟩ := List.getElem?_of_mem hx
      exact (hall i x hi).1
    obtain ⟨ab, ao, asp⟩ := a'
    cases l with
    | nil => exact absurd rfl hne
    | cons y l =>
      obtain ⟨_, h5, h6⟩ := hall 0 y rfl
      have h0 := h6 0 _ (List.getElem?_eq_getElem (by omega))
      have hsp : asp = none := by simpa [Addr.add] using World.cell?_spot h0
      subst hsp
      refine ⟨ab, ao, rfl, by simpa [Addr.add] using cell_block h0, fun i x hx j v hv => ?_⟩
      have := (hall i x hx).2.2 j v hv
      rwa [Addr.add_mid, Addr.add_mid] at this
end
end Go.Proofs.YtbbnmgakmcppdaaGreat.Vg
