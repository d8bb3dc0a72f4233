/- The arguments of layer 30's statements: frames; and the listed table. No condition. -/
import Derived.Test.YtoinocihlfmnnaaDoorMNone
import Derived.Test.YtoinocihlfmnnaaDoorVgQ
import Derived.Test.YtoinocihlfmnnaaDoorVgT
import Derived.Test.YtoinocihlfmnnaaDoorCards
import Derived.Test.YtoinocihlfmnnaaDoorTie
namespace Go.Proofs.YtoinocihlfmnnaaDoor.Met
open Go Go.Proofs.YtoinocihlfmnnaaDoor.Vg Go.ChangeShapes Go.WideShapes Go.ChangeAt Go.RowKit Go.Proofs.YtoinocihlfmnnaaDoor.Api Go.Proofs.YtoinocihlfmnnaaDoor.LibC
set_option linter.unusedVariables false

def frameTs : List TypeId := [3, 3, 3, 3, 3, 3, 3, 3, 9, 9, 3, 3, 9, 3, 3, 3, 3, 3, 3, 3, 9, 9, 3, 3, 35, 3, 3, 3, 3]
theorem frameFlat : flatT Tryd.prog 5 39 = some frameTs := by kernel_rfl
section
variable {H : Type} {enc : TypeId × Value → H} {w : World} {base : Nat} {spare : Nat → Bool} {held : Bool}
theorem leaf_frame {cs : List Value} (hl : cs.length = 29)
    (h3 : ∀ (i : Nat) (v : Value) (u : TypeId), cs[i]? = some v → frameTs[i]? = some u → Leaf enc Tryd.prog w base spare held u v) : ∃ x : FG, cs = fgc x := by
  match cs, hl, h3 with
  | [c1, c2, c3, c4, c5, c6, c7, c8, c9, c10, c11, c12, c13, c14, c15, c16, c17, c18, c19, c20, c21, c22, c23, c24, c25, c26, c27, c28, c29], _, h3 =>
  obtain ⟨n1, rfl, _⟩ := (h3 0 c1 _ rfl rfl).int Tryd.underlying3
  obtain ⟨n2, rfl, _⟩ := (h3 1 c2 _ rfl rfl).int Tryd.underlying3
  obtain ⟨n3, rfl, _⟩ := (h3 2 c3 _ rfl rfl).int Tryd.underlying3
  obtain ⟨n4, rfl, _⟩ := (h3 3 c4 _ rfl rfl).int Tryd.underlying3
  obtain ⟨n5, rfl, _⟩ := (h3 4 c5 _ rfl rfl).int Tryd.underlying3
  obtain ⟨n6, rfl, _⟩ := (h3 5 c6 _ rfl rfl).int Tryd.underlying3
  obtain ⟨n7, rfl, _⟩ := (h3 6 c7 _ rfl rfl).int Tryd.underlying3
  obtain ⟨n8, rfl, _⟩ := (h3 7 c8 _ rfl rfl).int Tryd.underlying3
  obtain ⟨s9, rfl, _⟩ := (h3 8 c9 _ rfl rfl).str Tryd.underlying9
  obtain ⟨s10, rfl, _⟩ := (h3 9 c10 _ rfl rfl).str Tryd.underlying9
  obtain ⟨n11, rfl, _⟩ := (h3 10 c11 _ rfl rfl).int Tryd.underlying3
  obtain ⟨n12, rfl, _⟩ := (h3 11 c12 _ rfl rfl).int Tryd.underlying3
  obtain ⟨s13, rfl, _⟩ := (h3 12 c13 _ rfl rfl).str Tryd.underlying9
  obtain ⟨n14, rfl, _⟩ := (h3 13 c14 _ rfl rfl).int Tryd.underlying3
  obtain ⟨n15, rfl, _⟩ := (h3 14 c15 _ rfl rfl).int Tryd.underlying3
  obtain ⟨n16, rfl, _⟩ := (h3 15 c16 _ rfl rfl).int Tryd.underlying3
  obtain ⟨n17, rfl, _⟩ := (h3 16 c17 _ rfl rfl).int Tryd.underlying3
  obtain ⟨n18, rfl, _⟩ := (h3 17 c18 _ rfl rfl).int Tryd.underlying3
  obtain ⟨n19, rfl, _⟩ := (h3 18 c19 _ rfl rfl).int Tryd.underlying3
  obtain ⟨n20, rfl, _⟩ := (h3 19 c20 _ rfl rfl).int Tryd.underlying3
  obtain ⟨s21, rfl, _⟩ := (h3 20 c21 _ rfl rfl).str Tryd.underlying9
  obtain ⟨s22, rfl, _⟩ := (h3 21 c22 _ rfl rfl).str Tryd.underlying9
  obtain ⟨n23, rfl, _⟩ := (h3 22 c23 _ rfl rfl).int Tryd.underlying3
  obtain ⟨n24, rfl, _⟩ := (h3 23 c24 _ rfl rfl).int Tryd.underlying3
  obtain ⟨a25, l25, k25, rfl⟩ := (h3 24 c25 _ rfl rfl).slice Tryd.underlying35
  obtain ⟨n26, rfl, _⟩ := (h3 25 c26 _ rfl rfl).int Tryd.underlying3
  obtain ⟨n27, rfl, _⟩ := (h3 26 c27 _ rfl rfl).int Tryd.underlying3
  obtain ⟨n28, rfl, _⟩ := (h3 27 c28 _ rfl rfl).int Tryd.underlying3
  obtain ⟨n29, rfl, _⟩ := (h3 28 c29 _ rfl rfl).int Tryd.underlying3
  exact ⟨(⟨n1, n2, n3, n4, n5, n6, n7, ⟨n8, s9, s10, n11⟩, ⟨n12, s13, n14, n15⟩, n16, ⟨n17, n18, n19, ⟨n20, s21, s22, n23⟩⟩, n24, n26, n27, n28, n29⟩, a25, l25, k25), rfl⟩
theorem okWide_agg {P : Program} {r : Reach} {b0 : Nat} {t : TypeId} {v : Value} {fs : Array Field} (ht : P.underlying t = some (.struct fs)) (h : Value.okWide P w r b0 t v) : ∃ cs : List Value, v = .agg cs.toArray := by
  unfold Value.okWide at h
  rw [ht] at h
  obtain ⟨cs, h, _⟩ := h
  exact ⟨cs.toList, by rw [h]⟩
set_option maxRecDepth 100000 in
theorem open_frame {base0 : Nat} {v : Value} {d : DataW H} {ps : List MemPlace} (hval : Value.okWide Tryd.prog w .any base0 39 v) (h : DataW.Trod enc Tryd.prog w base spare held 39 v d ps) : ∃ f : FG, v = .agg (fgc f).toArray := by
  obtain ⟨cs, rfl⟩ := okWide_agg Tryd.underlying39 hval
  obtain ⟨fuel, hf⟩ := h
  obtain ⟨h1, h2⟩ := flatT_ok 5 _ _ frameFlat fuel cs _ hf
  obtain ⟨f, rfl⟩ := leaf_frame h1 h2
  exact ⟨f, rfl⟩
set_option maxRecDepth 100000 in
theorem open_frames {base0 : Nat} {v : Value} {d : DataW H} {ps : List MemPlace} (hval : Value.okWide Tryd.prog w .any base0 22 v) (h : DataW.Trod enc Tryd.prog w base spare held 22 v d ps) :
    ∃ (a : Option Addr) (tc : Nat) (l : List FG), v = .slice a l.length tc ∧ l.length ≤ 9223372036854775807 ∧ FsIn (fun b => b < w.heap.size) w a l := by
  obtain ⟨a0, n0, c0, rfl⟩ := okWide_slice Tryd.underlying22 hval
  obtain ⟨fuel, hf⟩ := h
  obtain ⟨a, tc, l, e, h1, h2, h3⟩ := open_rows (α := FG) fgc (fun _ => True) Tryd.underlying22 frameFlat (by kernel_rfl) (by decide) (fun cs hl hc => by
    obtain ⟨x, hx⟩ := leaf_frame hl hc
    exact ⟨x, hx, trivial⟩) hf
  have hm : maxLen ≤ 9223372036854775807 := by decide
  exact ⟨a, tc, l, e, by omega, ⟨h3⟩⟩
end

theorem ownK : ownKnob Tryd.prog.godebug = none := by kernel_rfl
theorem laidOutK : laidOutB Tryd.prog = true := by kernel_rfl
def laidL : List (String × DataW Unit) := Rows.metersNoneRow.laid
theorem door_met (os : Os) (args : Array Value) : laidMetH Tryd.prog laidL ((World.doorLaid Tryd.prog 400 os).forCall (fun _ _ => 0) ⟨#[], args, []⟩).memory :=
  laidMetH_of_parts3 (fuel := 8) (laidMet_of_run' 8 (by kernel_rfl) (by kernel_rfl)) (by kernel_rfl) (by kernel_rfl)
theorem tab_of {W : World} (h : laidMetH Tryd.prog laidL W) : TabF (fun b => b < W.heap.size) W :=
  tabIn_of (g := 0) 2 (by kernel_rfl) (by kernel_rfl) (by kernel_rfl) (by kernel_rfl) Tryd.underlying169 Tryd.underlying160 (by kernel_rfl) (by kernel_rfl) h
end Go.Proofs.YtoinocihlfmnnaaDoor.Met
