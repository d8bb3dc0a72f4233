/- The arguments of layer 33's statements: calls; and the listed tables. No condition. -/
import Derived.Test.YthabecjplpomhaaDoorBrM
import Derived.Test.YthabecjplpomhaaDoorVgQ
import Derived.Test.YthabecjplpomhaaDoorVgT
import Derived.Test.YthabecjplpomhaaDoorCards
import Derived.Test.YthabecjplpomhaaDoorTie
namespace Go.Proofs.YthabecjplpomhaaDoor.Br
open Go Go.Proofs.YthabecjplpomhaaDoor.Vg Go.ChangeShapes Go.WideShapes Go.ChangeAt Go.RowKit Go.Proofs.YthabecjplpomhaaDoor.Api Go.Proofs.YthabecjplpomhaaDoor.LibC
set_option linter.unusedVariables false

def recTs : List TypeId := [3, 3, 3, 9, 9, 3, 3, 3, 3, 3, 3, 9, 3, 3]
theorem recFlat : flatT Tryd.prog 5 34 = some recTs := by kernel_rfl
section
variable {H : Type} {enc : TypeId × Value → H} {w : World} {base : Nat} {spare : Nat → Bool} {held : Bool}
theorem leaf_rec {cs : List Value} (hl : cs.length = 14)
    (h3 : ∀ (i : Nat) (v : Value) (u : TypeId), cs[i]? = some v → recTs[i]? = some u → Leaf enc Tryd.prog w base spare held u v) : ∃ x : RecM, cs = recC x := by
  match cs, hl, h3 with
  | [c1, c2, c3, c4, c5, c6, c7, c8, c9, c10, c11, c12, c13, c14], _, h3 =>
  obtain ⟨n1, rfl, _⟩ := (h3 0 c1 _ rfl rfl).int Tryd.underlying3
  obtain ⟨n2, rfl, _⟩ := (h3 1 c2 _ rfl rfl).int Tryd.underlying3
  obtain ⟨n3, rfl, _⟩ := (h3 2 c3 _ rfl rfl).int Tryd.underlying3
  obtain ⟨s4, rfl, _⟩ := (h3 3 c4 _ rfl rfl).str Tryd.underlying9
  obtain ⟨s5, rfl, _⟩ := (h3 4 c5 _ rfl rfl).str Tryd.underlying9
  obtain ⟨n6, rfl, _⟩ := (h3 5 c6 _ rfl rfl).int Tryd.underlying3
  obtain ⟨n7, rfl, _⟩ := (h3 6 c7 _ rfl rfl).int Tryd.underlying3
  obtain ⟨n8, rfl, _⟩ := (h3 7 c8 _ rfl rfl).int Tryd.underlying3
  obtain ⟨n9, rfl, _⟩ := (h3 8 c9 _ rfl rfl).int Tryd.underlying3
  obtain ⟨n10, rfl, _⟩ := (h3 9 c10 _ rfl rfl).int Tryd.underlying3
  obtain ⟨n11, rfl, _⟩ := (h3 10 c11 _ rfl rfl).int Tryd.underlying3
  obtain ⟨s12, rfl, _⟩ := (h3 11 c12 _ rfl rfl).str Tryd.underlying9
  obtain ⟨n13, rfl, _⟩ := (h3 12 c13 _ rfl rfl).int Tryd.underlying3
  obtain ⟨n14, rfl, _⟩ := (h3 13 c14 _ rfl rfl).int Tryd.underlying3
  exact ⟨⟨n1, n2, ⟨n3, s4, s5, n6⟩, n7, n8, n9, n10, ⟨n11, s12, n13, n14⟩⟩, rfl⟩
set_option maxRecDepth 100000 in
theorem open_recs {base0 : Nat} {v : Value} {d : DataW H} {ps : List MemPlace} (hval : Value.okWide Tryd.prog w .any base0 22 v) (h : DataW.Trod enc Tryd.prog w base spare held 22 v d ps) :
    ∃ (a : Option Addr) (tc : Nat) (l : List RecM), v = .slice a l.length tc ∧ l.length ≤ 9223372036854775807 ∧ RecsIn (fun b => b < w.heap.size) w a l := by
  obtain ⟨a0, n0, c0, rfl⟩ := okWide_slice Tryd.underlying22 hval
  obtain ⟨fuel, hf⟩ := h
  obtain ⟨a, tc, l, e, h1, h2, h3⟩ := open_rows (α := RecM) recC (fun _ => True) Tryd.underlying22 recFlat (by kernel_rfl) (by decide) (fun cs hl hc => by
    obtain ⟨x, hx⟩ := leaf_rec hl hc
    exact ⟨x, hx, trivial⟩) hf
  have hm : maxLen ≤ 9223372036854775807 := by decide
  exact ⟨a, tc, l, e, by omega, ⟨h3⟩⟩
end

theorem ownK : ownKnob Tryd.prog.godebug = none := by kernel_rfl
theorem laidOutK : laidOutB Tryd.prog = true := by kernel_rfl
def laidL : List (String × DataW Unit) := Rows.bruteMoreRow.laid
theorem door_met (os : Os) (args : Array Value) : laidMetH Tryd.prog laidL ((World.doorLaid Tryd.prog 400 os).forCall (fun _ _ => 0) ⟨#[], args, []⟩).memory :=
  laidMetH_of_parts3 (fuel := 8) (laidMet_of_run' 8 (by kernel_rfl) (by kernel_rfl)) (by kernel_rfl) (by kernel_rfl)
theorem tab_of {W : World} (h : laidMetH Tryd.prog laidL W) : TabF (fun b => b < W.heap.size) W :=
  tabIn_of (g := 0) 2 (by kernel_rfl) (by kernel_rfl) (by kernel_rfl) (by kernel_rfl) Tryd.underlying136 Tryd.underlying118 (by kernel_rfl) (by kernel_rfl) h
end Go.Proofs.YthabecjplpomhaaDoor.Br
