/- The engine, part M: what an argument of a law is, by its type: arrays of integers, slices of structs. No program is named; nothing is assumed. -/
import Derived.Test.YtbbnmgakmcppdaaGreatVgL
import Derived.Deep.Strs
import Derived.Deep.Slices
namespace Go.Proofs.YtbbnmgakmcppdaaGreat.Vg
open Go Go.ChangeShapes Go.WideShapes Go.ChangeAt Go.RowKit

theorem list_ints {k : IntKind} : ∀ {n : Nat} (l : List Value), l.length = n → (∀ i, i < n → ∃ z, l[i]? = some (.int k z) ∧ (Lit.int k z).wf = true) → ∃ zs : List Int, l = zs.map (fun z => Value.int k z) ∧ zs.length = n ∧ ∀ z ∈ zs, (Lit.int k z).wf = true
  | 0, l, h, _ => ⟨[], List.eq_nil_of_length_eq_zero h, rfl, fun z hz => by cases hz⟩
  | n + 1, [], h, _ => by simp at h
  | n + 1, a :: l, h, hk => by
    obtain ⟨z, h1, h2⟩ := hk 0 (by omega)
    obtain rfl : a = .int k z := Option.some.inj h1
    obtain ⟨zs, e1, e2, e3⟩ := list_ints (n := n) l (by simpa using h) (fun i hi => by
      obtain ⟨z', h3, h4⟩ := hk (i + 1) (by omega)
      exact ⟨z', by simpa using h3, h4⟩)
    refine ⟨z :: zs, by rw [e1]; rfl, by simp [e2], fun y hy => ?_⟩
    rcases List.mem_cons.1 hy with rfl | hy
    · exact h2
    · exact e3 y hy

section
variable {H : Type} {enc : TypeId × Value → H} {P : Program} {w : World} {base : Nat} {spare : Nat → Bool} {held : Bool}

theorem open_arr_ints {r : Reach} {b0 n : Nat} {t e : TypeId} {k : IntKind} {v : Value} {d : DataW H} {ps : List MemPlace} (ht : P.underlying t = some (.array n e)) (he : P.underlying e = some (.int k)) (hc : P.cellsOf t = n) (hce : P.cellsOf e = 1)
    (hval : Value.okWide P w r b0 t v) (hd : DataW.Trod enc P w base spare held t v d ps) :
    ∃ zs : List Int, v = .agg (zs.map fun z => Value.int k z).toArray ∧ zs.length = n ∧ ∀ z ∈ zs, (Lit.int k z).wf = true := by
  have h1 : ∃ cs, v = .agg cs ∧ cs.size = P.cellsOf t := by
    unfold Value.okWide at hval
    rw [ht] at hval
    obtain ⟨cs, h1, h2, _⟩ := hval
    exact ⟨cs, h1, h2⟩
  obtain ⟨cs, rfl, hs⟩ := h1
  obtain ⟨fuel, hf⟩ := hd
  obtain ⟨xs, m, _, _, hlen, hxs, hall⟩ := DataW.trod_array ht hf
  rw [hce] at hall
  rw [hc] at hlen
  have hcs : (Value.cells (.agg cs)).toList = cs.toList := rfl
  rw [hcs] at hlen hall
  have key : ∀ i, i < n → ∃ z, cs.toList[i]? = some (.int k z) ∧ (Lit.int k z).wf = true := by
    intro i hi
    have h := hall i hi
    rw [List.getElem?_eq_getElem (show i < xs.length by omega)] at h
    obtain ⟨z, h2, _, h3⟩ := DataW.trod_int he h
    refine ⟨z, ?_, h3⟩
    have := congrArg (fun l : List Value => l[0]?) h2
    simpa [List.getElem?_take, List.getElem?_drop] using this
  obtain ⟨zs, h1, h2, h3⟩ := list_ints cs.toList hlen key
  exact ⟨zs, by rw [← h1], h2, h3⟩
end
end Go.Proofs.YtbbnmgakmcppdaaGreat.Vg
