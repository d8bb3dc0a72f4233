/- A list of turns as an argument. No condition. -/
import Derived.Test.YtpgcjbddjghkdaaSWorksW
import Derived.Test.YtpgcjbddjghkdaaVgM
namespace Go.Proofs.Ytpgcjbddjghkdaa.SLaw
open Go Go.Proofs.Ytpgcjbddjghkdaa.Vg Go.ChangeShapes Go.WideShapes Go.ChangeAt Go.RowKit
set_option linter.unusedVariables false

theorem cell_in {w : World} {a : Addr} {v : Value} (h : w.cell? a = some v) : a.block < w.heap.size := by
  unfold World.cell? at h
  cases hb : w.heap[a.block]? with
  | none => simp [hb] at h
  | some o => exact (Array.getElem?_eq_some_iff.1 hb).1

theorem wf_u8' {a : Int} (w : (Lit.int .u8 a).wf = true) : 0 ≤ a ∧ a ≤ 255 := by
  simp [Lit.wf, IntKind.min, IntKind.max, IntKind.signed, IntKind.bits] at w; omega

theorem open_turn {H : Type} {enc : TypeId × Value → H} {w : World} {base : Nat} {spare : Nat → Bool} {held : Bool} {fuel : Nat} {cs : List Value} {x : DataW H × List MemPlace}
    (h : DataW.trod enc Try.prog w base spare held fuel 53 cs = some x) : ∃ y : TurnM, cs = y.cells ∧ 0 ≤ y.cls ∧ y.cls ≤ 255 ∧ 0 ≤ y.bytes ∧ y.bytes ≤ 255 := by
  obtain ⟨y0, y1, y2, n, _, hl, h0, h1, h2⟩ := Go.Deep.trod_struct3 Try.underlying53 h
  have e3 : Try.prog.cellsOf 53 = 3 := by kernel_rfl
  have e1 : Try.prog.cellsOf 5 = 1 := by kernel_rfl
  have e2 : Try.prog.cellsOf 4 = 1 := by kernel_rfl
  rw [e3] at hl
  obtain ⟨a, h0, _, w0⟩ := DataW.trod_int Try.underlying5 h0
  obtain ⟨b, h1, _, w1⟩ := DataW.trod_int Try.underlying5 h1
  obtain ⟨c, h2, _⟩ := DataW.trod_bool Try.underlying4 h2
  rw [e1] at h0 h1
  rw [e2] at h2
  match cs, hl with
  | [c0, c1, c2], _ =>
    obtain rfl : c0 = .int .u8 a := (List.cons.inj h0).1
    obtain rfl : c1 = .int .u8 b := (List.cons.inj h1).1
    obtain rfl : c2 = .bool c := (List.cons.inj h2).1
    exact ⟨⟨a, b, c⟩, rfl, (wf_u8' w0).1, (wf_u8' w0).2, (wf_u8' w1).1, (wf_u8' w1).2⟩

theorem open_turns {H : Type} {enc : TypeId × Value → H} {w : World} {spare : Nat → Bool} {held : Bool} {v : Value} {d : DataW H} {ps : List MemPlace} {base : Nat}
    (hval : Value.okWide Try.prog w .any base 50 v) (h : DataW.Trod enc Try.prog w 0 spare held 50 v d ps) :
    ∃ a tc l, v = .slice a (l : List TurnM).length tc ∧ TurnsIn (fun b => b < w.heap.size) w a l := by
  obtain ⟨a, len, cap, rfl⟩ := okWide_slice Try.underlying50 hval
  obtain ⟨fuel, hf⟩ := h
  rcases Go.Deep.open_slice Try.underlying50 hf with ⟨e, _⟩ | ⟨a', len', cap', m, n, D, Pl, e, _, hle, _, hm, _, hx⟩
  · simp only [Value.cells, List.cons.injEq, Value.slice.injEq, and_true] at e
    obtain ⟨rfl, rfl, rfl⟩ := e
    exact ⟨none, 0, [], rfl, ⟨fun h => absurd rfl h⟩⟩
  · simp only [Value.cells, List.cons.injEq, Value.slice.injEq, and_true] at e
    obtain ⟨rfl, rfl, rfl⟩ := e
    have hlm : len ≤ m := by rw [hm]; split <;> omega
    have e3 : Try.prog.cellsOf 53 = 3 := by kernel_rfl
    rw [e3] at hx
    have key : ∀ i, i < len → ∃ y : TurnM, (0 ≤ y.cls ∧ y.cls ≤ 255 ∧ 0 ≤ y.bytes ∧ y.bytes ≤ 255) ∧ ∀ j v, y.cells[j]? = some v → w.cell? ((a'.add (i * 3)).add j) = some v := by
      intro i hi
      obtain ⟨cs', h1, h2⟩ := hx i (by omega)
      obtain ⟨_, hl, hc⟩ := World.cells?_some h1
      obtain ⟨y, rfl, hy⟩ := open_turn h2
      refine ⟨y, hy, fun j v hv => ?_⟩
      have hj : j < 3 := (List.getElem?_eq_some_iff.1 hv).1
      rw [hc j hj, hv]
    have build : ∀ k, k ≤ len → ∃ l : List TurnM, l.length = k ∧ ∀ i x, l[i]? = some x → (0 ≤ x.cls ∧ x.cls ≤ 255 ∧ 0 ≤ x.bytes ∧ x.bytes ≤ 255) ∧ ∀ j v, x.cells[j]? = some v → w.cell? ((a'.add (i * 3)).add j) = some v := by
      intro k
      induction k with
      | zero => intro _; exact ⟨[], rfl, fun i x hx => by simp at hx⟩
      | succ k ih =>
        intro hk
        obtain ⟨l, hl, hall⟩ := ih (by omega)
        obtain ⟨y, hy⟩ := key k (by omega)
        refine ⟨l ++ [y], by simp [hl], fun i x hx => ?_⟩
        by_cases hi : i < l.length
        · rw [List.getElem?_append_left hi] at hx; exact hall i x hx
        · rw [List.getElem?_append_right (by omega)] at hx
          have hi2 : i = k := by
            have := (List.getElem?_eq_some_iff.1 hx).1
            simp at this; omega
          subst hi2
          rw [hl, Nat.sub_self] at hx
          obtain rfl := Option.some.inj hx
          exact hy
    obtain ⟨l, hl, hall⟩ := build len (Nat.le_refl _)
    subst hl
    refine ⟨some a', cap, l, rfl, ⟨fun hne => ?_⟩⟩
    obtain ⟨ab, ao, asp⟩ := a'
    cases l with
    | nil => exact absurd rfl hne
    | cons y l =>
      have h0 := (hall 0 y rfl).2 0 _ rfl
      have hsp : asp = none := by simpa [Addr.add] using World.cell?_spot h0
      subst hsp
      refine ⟨ab, ao, rfl, by simpa [Addr.add] using cell_in h0, fun i x hx => ⟨(hall i x hx).1, fun j v hv => ?_⟩⟩
      have := (hall i x hx).2 j v hv
      rwa [Addr.add_mid, Addr.add_mid] at this
end Go.Proofs.Ytpgcjbddjghkdaa.SLaw
