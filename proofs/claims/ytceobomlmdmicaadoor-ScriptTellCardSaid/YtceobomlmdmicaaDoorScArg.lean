/- What layer 24's statements find in the listed variables. No condition. -/
import Derived.Test.YtceobomlmdmicaaDoorScA
import Derived.Test.YtceobomlmdmicaaDoorVgT2
import Derived.Test.YtceobomlmdmicaaDoorCards
import Derived.Test.YtceobomlmdmicaaDoorTie
import Derived.OpenShut
import Derived.Lay
import Derived.Test.YtceobomlmdmicaaDoorVgQ
namespace Go.Proofs.YtceobomlmdmicaaDoor.Scr
open Go Go.Proofs.YtceobomlmdmicaaDoor.Vg Go.ChangeShapes Go.WideShapes Go.ChangeAt Go.RowKit Go.Proofs.YtceobomlmdmicaaDoor.Api Go.Proofs.YtceobomlmdmicaaDoor.LibC
set_option linter.unusedVariables false
set_option linter.constructorNameAsVariable false
set_option maxRecDepth 100000

theorem ownK : ownKnob Tryd.prog.godebug = none := by kernel_rfl
theorem laidOutK : laidOutB Tryd.prog = true := by kernel_rfl
def laidL : List (String × DataW Unit) := Rows.scriptAgainRow.laid
theorem door_met (os : Os) (args : Array Value) : laidMetH Tryd.prog laidL ((World.laidAll Tryd.prog os laidL).forCall (fun _ _ => 0) ⟨#[], args, []⟩).memory := by
  rw [MakeChecks.laidMetH_plain _ _ _ (by kernel_rfl)]
  exact laidMet_laidAll args (by kernel_rfl) (by kernel_rfl)
theorem laid_at {P : Program} {W : World} : ∀ {l : List (String × DataW Unit)} {i : Nat} {nm : String} {d : DataW Unit}, laidMet P l W → l[i]? = some (nm, d) →
    ∃ g t cs fuel p, P.globalNamed nm = some g ∧ (P.globals[g]?).map (·.type) = some t ∧ W.var? P nm = some cs ∧ DataW.trod (fun _ => ()) P W 0 (fun _ => true) false fuel t cs.toList = some (d, p)
  | [], i, nm, d, _, h => by simp at h
  | x :: l, 0, nm, d, hm, h => by
    obtain rfl := Option.some.inj h
    obtain ⟨ps, ⟨g, t, cs, fuel, p, q, h1, h2, h3, h4, _, _⟩, _⟩ := hm
    exact ⟨g, t, cs, fuel, p, h1, h2, h3, h4⟩
  | x :: l, i + 1, nm, d, hm, h => laid_at (laidMet_tail hm) (by simpa using h)
theorem var_cells {P : Program} {W : World} {nm : String} {g : Nat} {cs : Array Value} (hg : P.globalNamed nm = some g) (h : W.var? P nm = some cs) : g < W.heap.size ∧ ∃ t fz, W.heap[g]? = some (.cells cs t fz) := by
  unfold World.var? at h
  rw [hg] at h
  simp only [Option.bind_some] at h
  cases hh : W.heap[g]? with
  | none => rw [hh] at h; cases h
  | some o =>
    rw [hh] at h
    refine ⟨(Array.getElem?_eq_some_iff.1 hh).1, ?_⟩
    cases o <;> simp at h
    subst h
    exact ⟨_, _, rfl⟩
theorem iface_cell {P : Program} {W : World} {t : TypeId} {ms : Array (String × TypeId)} {fuel base : Nat} {sp : Nat → Bool} {held : Bool} {cs : List Value} {x : DataW Unit × List MemPlace} (ht : P.underlying t = some (.interface ms)) (h : DataW.trod (fun _ => ()) P W base sp held fuel t cs = some x) :
    ∃ v, cs = [v] ∧ (v = .nilIface ∨ ∃ tp p, v = .iface tp p) := by
  cases fuel with
  | zero => simp [DataW.trod] at h
  | succ m =>
    unfold DataW.trod at h
    rw [ht] at h
    split at h <;> simp_all
theorem err_of {W : World} {nm : String} {i g : Nat} {d : DataW Unit} (hL : laidMet Tryd.prog laidL W) (hi : laidL[i]? = some (nm, d)) (hg : Tryd.prog.globalNamed nm = some g) (ht : (Tryd.prog.globals[g]?).map (·.type) = some 59) :
    g < W.heap.size ∧ ∃ ev, W.cell? ⟨g, 0, none⟩ = some ev ∧ (ev = .nilIface ∨ ∃ te pe, ev = .iface te pe) := by
  obtain ⟨g', t, cs, fuel, p, h1, h2, h3, h4⟩ := laid_at hL hi
  obtain rfl : g' = g := Option.some.inj (h1.symm.trans hg)
  obtain rfl : t = 59 := Option.some.inj (h2.symm.trans ht)
  obtain ⟨v, hv, hc⟩ := iface_cell Tryd.underlying59 h4
  obtain ⟨hlt, tt, fz, hh⟩ := var_cells h1 h3
  refine ⟨hlt, v, ?_, hc⟩
  have : cs[0]? = some v := by
    have := congrArg (fun l : List Value => l[0]?) hv
    simpa using this
  simp [World.cell?, hh, this]
theorem row_of {P : Program} {W : World} {t s : TypeId} {f g : Field} {fuel base : Nat} {sp : Nat → Bool} {held : Bool} {cs : List Value} {x : DataW Unit × List MemPlace} {a b : List UInt8} (ht : P.underlying t = some (.struct #[f, g])) (hs : P.underlying s = some .string) (hf : f.type = s) (hg : g.type = s) (hfo : f.offset = 0) (hgo : g.offset = 1) (hcs : P.cellsOf s = 1) (hct : P.cellsOf t = 2)
    (h : DataW.trod (fun _ => ()) P W base sp held fuel t cs = some x) (hx : x.1 = .agg [.lit (.string a), .lit (.string b)]) : cs = [.string (toB a), .string (toB b)] := by
  obtain ⟨ys, m, _, e, hl, hyl, hall⟩ := DataW.trod_struct ht h
  rw [hct] at hl
  have h0 := hall 0 f rfl
  have h1 := hall 1 g rfl
  rw [hf, hfo, hcs] at h0
  rw [hg, hgo, hcs] at h1
  match cs, hl, ys, hyl with
  | [c0, c1], _, [y0, y1], _ =>
    obtain ⟨s0, e0, k0, _⟩ := DataW.trod_string hs h0
    obtain ⟨s1, e1, k1, _⟩ := DataW.trod_string hs h1
    have q0 : c0 = .string s0 := (List.cons.inj (show [c0] = [Value.string s0] from e0)).1
    have q1 : c1 = .string s1 := (List.cons.inj (show [c1] = [Value.string s1] from e1)).1
    subst e; subst k0; subst k1; subst q0; subst q1
    have hx : (DataW.agg [DataW.lit (.string s0.data.toList), DataW.lit (.string s1.data.toList)] : DataW Unit) = .agg [.lit (.string a), .lit (.string b)] := hx
    injection hx with hx
    injection hx with g1 g2
    injection g1 with g1
    injection g1 with g1
    injection g2 with g2 _
    injection g2 with g2
    injection g2 with g2
    rw [← g1, ← g2, toB_data, toB_data]
theorem kinds_data : (Rows.laid_fairway_script_kinds : DataW Unit) = .agg (kT.map fun k => .agg [.lit (.string (wordK k)), .lit (.string (usesK k))]) := rfl
set_option maxRecDepth 100000 in
theorem kinds_of {W : World} (hL : laidMet Tryd.prog laidL W) : KindsF (fun b => b < W.heap.size) W := by
  obtain ⟨g', t, cs, fuel, p, h1, h2, h3, h4⟩ := laid_at hL (show laidL[6]? = some ("fairway/script.kinds", Rows.laid_fairway_script_kinds) from rfl)
  obtain rfl : g' = 0 := Option.some.inj (h1.symm.trans (by kernel_rfl))
  obtain rfl : t = 46 := Option.some.inj (h2.symm.trans (by kernel_rfl))
  obtain ⟨xs, m, _, e, hl, hxl, hall⟩ := DataW.trod_array Tryd.underlying46 h4
  have hce : Tryd.prog.cellsOf 45 = 2 := by kernel_rfl
  have hct : Tryd.prog.cellsOf 46 = 24 := by kernel_rfl
  have hcs : Tryd.prog.cellsOf 9 = 1 := by kernel_rfl
  rw [hct] at hl
  rw [hce] at hall
  have e1 : (Rows.laid_fairway_script_kinds : DataW Unit) = .agg (xs.map (·.1)) := (Prod.mk.inj e).1
  rw [kinds_data] at e1
  have e2 : (kT.map fun k => (DataW.agg [.lit (.string (wordK k)), .lit (.string (usesK k))] : DataW Unit)) = xs.map (·.1) := by injection e1
  obtain ⟨hlt, tt, fz, hh⟩ := var_cells h1 h3
  have hflat : cs.toList = kinds := by
    have := flat_rows (c := kiC) (n := 2) (xs := kT) (cells := cs.toList) (off := 0) (fun i k hk => by
      have hi : i < 12 := (List.getElem?_eq_some_iff.1 hk).1
      have e3 := congrArg (fun l => l[i]?) e2
      simp only [List.getElem?_map, hk, Option.map_some] at e3
      cases hx : xs[i]? with
      | none => rw [hx] at e3; cases e3
      | some x =>
        rw [hx] at e3
        have h5 := hall i hi
        rw [hx] at h5
        rw [Nat.zero_add]
        exact row_of Tryd.underlying45 Tryd.underlying9 rfl rfl rfl rfl hcs hce h5 (Option.some.inj e3).symm)
    rw [List.drop_zero, show kT.length * 2 = 24 from rfl, List.take_of_length_le (by omega)] at this
    exact this
  exact ⟨hlt, tt, fz, by rw [← hflat]; simpa using hh⟩
theorem glob_of {W : World} (h : laidMetH Tryd.prog laidL W) (hsh : W.ShapedOpen Tryd.prog) : GlobF (fun b => b < W.heap.size) W ∧ KindsF (fun b => b < W.heap.size) W := by
  have hp : laidMet Tryd.prog laidL W := Eq.mp (MakeChecks.laidMetH_plain Tryd.prog laidL W (by kernel_rfl)) h
  obtain ⟨m, hm⟩ := Tryd.laysM145.s1_3 W hsh
  have hb : ∀ {b : Nat} {v : Value}, W.cell? ⟨b, 0, none⟩ = some v → b < W.heap.size := fun {b v} hc => cell_block hc
  exact ⟨⟨tabIn_of (g := 2) 2 (by kernel_rfl) (by kernel_rfl) (by kernel_rfl) (by kernel_rfl) Tryd.underlying107 Tryd.underlying95 (by kernel_rfl) (by kernel_rfl) h,
    ⟨hb hm, m, hm⟩, err_of (i := 5) (nm := "strconv.ErrSyntax") (d := Rows.laid_strconv_ErrSyntax) hp rfl (by kernel_rfl) (by kernel_rfl), err_of (i := 4) (nm := "strconv.ErrRange") (d := Rows.laid_strconv_ErrRange) hp rfl (by kernel_rfl) (by kernel_rfl)⟩, kinds_of hp⟩
theorem open_text {H : Type} {enc : TypeId × Value → H} {w : World} {base base0 : Nat} {spare : Nat → Bool} {held : Bool} {v : Value} {d : DataW H} {ps : List MemPlace} (hval : Value.okWide Tryd.prog w .any base0 9 v) (h : DataW.Trod enc Tryd.prog w base spare held 9 v d ps) :
    ∃ s, v = .string s ∧ s.size ≤ 9223372036854775807 := by
  have hv : ∃ s, v = .string s := okWide_string Tryd.underlying9 hval
  obtain ⟨s, rfl⟩ := hv
  obtain ⟨fuel, hf⟩ := h
  obtain ⟨z, e, _, hs⟩ := DataW.trod_string Tryd.underlying9 hf
  have e2 : Value.string s = .string z := (List.cons.inj e).1
  cases e2
  have hm : maxLen ≤ 9223372036854775807 := by decide
  exact ⟨s, rfl, by omega⟩
end Go.Proofs.YtceobomlmdmicaaDoor.Scr
