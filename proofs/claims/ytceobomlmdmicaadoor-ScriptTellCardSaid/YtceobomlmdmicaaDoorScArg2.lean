/- Steps as an argument of layer 24's statements. No condition. -/
import Derived.Test.YtceobomlmdmicaaDoorScArg
import Derived.Test.YtceobomlmdmicaaDoorScF
namespace Go.Proofs.YtceobomlmdmicaaDoor.Scr
open Go Go.Proofs.YtceobomlmdmicaaDoor.Vg Go.ChangeShapes Go.WideShapes Go.ChangeAt Go.RowKit Go.Proofs.YtceobomlmdmicaaDoor.Api Go.Proofs.YtceobomlmdmicaaDoor.LibC
set_option linter.unusedVariables false

theorem wf_isI {a : Int} (w : (Lit.int .i64 a).wf = true) : isI a := by
  simp [Lit.wf, IntKind.min, IntKind.max, IntKind.signed, IntKind.bits] at w; exact ⟨by omega, by omega⟩
def doTs : List TypeId := [3, 3, 3, 3, 3, 9, 9, 3]
theorem doFlat : flatT Tryd.prog 5 30 = some doTs := by kernel_rfl
section
variable {H : Type} {enc : TypeId × Value → H} {w : World} {base : Nat} {spare : Nat → Bool} {held : Bool}
theorem leaf_do {cs : List Value} (hl : cs.length = 8)
    (h3 : ∀ (i : Nat) (v : Value) (u : TypeId), cs[i]? = some v → doTs[i]? = some u → Leaf enc Tryd.prog w base spare held u v) : ∃ x : DoM, cs = doC x ∧ x.I := by
  match cs, hl, h3 with
  | [c1, c2, c3, c4, c5, c6, c7, c8], _, h3 =>
  obtain ⟨n1, rfl, w1⟩ := (h3 0 c1 _ rfl rfl).int Tryd.underlying3
  obtain ⟨n2, rfl, w2⟩ := (h3 1 c2 _ rfl rfl).int Tryd.underlying3
  obtain ⟨n3, rfl, w3⟩ := (h3 2 c3 _ rfl rfl).int Tryd.underlying3
  obtain ⟨n4, rfl, w4⟩ := (h3 3 c4 _ rfl rfl).int Tryd.underlying3
  obtain ⟨n5, rfl, w5⟩ := (h3 4 c5 _ rfl rfl).int Tryd.underlying3
  obtain ⟨s6, rfl, _⟩ := (h3 5 c6 _ rfl rfl).str Tryd.underlying9
  obtain ⟨s7, rfl, _⟩ := (h3 6 c7 _ rfl rfl).str Tryd.underlying9
  obtain ⟨n8, rfl, w8⟩ := (h3 7 c8 _ rfl rfl).int Tryd.underlying3
  exact ⟨⟨n1, n2, n3, n4, ⟨n5, s6, s7, n8⟩⟩, rfl, ⟨wf_isI w1, wf_isI w2, wf_isI w3, wf_isI w4, wf_isI w5, wf_isI w8⟩⟩
set_option maxRecDepth 100000 in
theorem open_dos {base0 : Nat} {v : Value} {d : DataW H} {ps : List MemPlace} (hval : Value.okWide Tryd.prog w .any base0 22 v) (h : DataW.Trod enc Tryd.prog w base spare held 22 v d ps) :
    ∃ (a : Option Addr) (tc : Nat) (l : List DoM), v = .slice a l.length tc ∧ l.length ≤ 9223372036854775807 ∧ (∀ d ∈ l, d.I) ∧ RwIn doC 8 (fun b => b < w.heap.size) w a l := by
  obtain ⟨a0, n0, c0, rfl⟩ := okWide_slice Tryd.underlying22 hval
  obtain ⟨fuel, hf⟩ := h
  obtain ⟨a, tc, l, e, h1, h2, h3⟩ := open_rows (α := DoM) doC DoM.I Tryd.underlying22 doFlat (by kernel_rfl) (by decide) (fun cs hl hc => leaf_do hl hc) hf
  have hm : maxLen ≤ 9223372036854775807 := by decide
  exact ⟨a, tc, l, e, by omega, h2, ⟨h3⟩⟩
end
end Go.Proofs.YtceobomlmdmicaaDoor.Scr
