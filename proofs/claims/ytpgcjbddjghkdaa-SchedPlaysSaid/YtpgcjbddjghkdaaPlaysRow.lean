/- Proved: SchedPlays answers true, whatever it is called with, and leaves all as it was. No condition. -/
import Derived.Test.YtpgcjbddjghkdaaSPlays
import Derived.Test.YtpgcjbddjghkdaaVgQ
namespace Go.Proofs.Ytpgcjbddjghkdaa.Sched
open Go Go.Proofs.Ytpgcjbddjghkdaa.Vg Go.ChangeShapes Go.WideShapes Go.ChangeAt Go.RowKit Go.Proofs.Ytpgcjbddjghkdaa.SLaw
set_option linter.unusedVariables false

theorem actFlat : flatT Try.prog 5 66 = some [5, 3, 3, 3, 3, 3, 3, 3, 3, 9, 9, 3, 3, 9, 3, 3, 3, 3, 3, 3, 3, 9, 9, 3, 3, 40, 3, 3, 3, 3, 3] := by kernel_rfl
theorem intFlat : flatT Try.prog 1 3 = some [3] := by kernel_rfl
theorem wf_u8_0 {a : Int} (w : (Lit.int .u8 a).wf = true) : 0 ≤ a := by
  simp [Lit.wf, IntKind.min, IntKind.max, IntKind.signed, IntKind.bits] at w; omega
/-- Cells of an act's kinds are an act. -/
theorem leaf_act {H : Type} {enc : TypeId × Value → H} {w : World} {base : Nat} {spare : Nat → Bool} {held : Bool} {cs : List Value} (hl : cs.length = 31)
    (h3 : ∀ (i : Nat) (v : Value) (u : TypeId), cs[i]? = some v → ([5, 3, 3, 3, 3, 3, 3, 3, 3, 9, 9, 3, 3, 9, 3, 3, 3, 3, 3, 3, 3, 9, 9, 3, 3, 40, 3, 3, 3, 3, 3] : List TypeId)[i]? = some u → Leaf enc Try.prog w base spare held u v) : ∃ x : ActM, cs = x.cells ∧ 0 ≤ x.kind := by
  match cs, hl, h3 with
  | [c0, c1, c2, c3, c4, c5, c6, c7, c8, c9, c10, c11, c12, c13, c14, c15, c16, c17, c18, c19, c20, c21, c22, c23, c24, c25, c26, c27, c28, c29, c30], _, h3 =>
  obtain ⟨n0, rfl, hw0⟩ := (h3 0 c0 _ rfl rfl).int Try.underlying5
  obtain ⟨n1, rfl, _⟩ := (h3 1 c1 _ rfl rfl).int Try.underlying3
  obtain ⟨n2, rfl, _⟩ := (h3 2 c2 _ rfl rfl).int Try.underlying3
  obtain ⟨n3, rfl, _⟩ := (h3 3 c3 _ rfl rfl).int Try.underlying3
  obtain ⟨n4, rfl, _⟩ := (h3 4 c4 _ rfl rfl).int Try.underlying3
  obtain ⟨n5, rfl, _⟩ := (h3 5 c5 _ rfl rfl).int Try.underlying3
  obtain ⟨n6, rfl, _⟩ := (h3 6 c6 _ rfl rfl).int Try.underlying3
  obtain ⟨n7, rfl, _⟩ := (h3 7 c7 _ rfl rfl).int Try.underlying3
  obtain ⟨n8, rfl, _⟩ := (h3 8 c8 _ rfl rfl).int Try.underlying3
  obtain ⟨s9, rfl, _⟩ := (h3 9 c9 _ rfl rfl).str Try.underlying9
  obtain ⟨s10, rfl, _⟩ := (h3 10 c10 _ rfl rfl).str Try.underlying9
  obtain ⟨n11, rfl, _⟩ := (h3 11 c11 _ rfl rfl).int Try.underlying3
  obtain ⟨n12, rfl, _⟩ := (h3 12 c12 _ rfl rfl).int Try.underlying3
  obtain ⟨s13, rfl, _⟩ := (h3 13 c13 _ rfl rfl).str Try.underlying9
  obtain ⟨n14, rfl, _⟩ := (h3 14 c14 _ rfl rfl).int Try.underlying3
  obtain ⟨n15, rfl, _⟩ := (h3 15 c15 _ rfl rfl).int Try.underlying3
  obtain ⟨n16, rfl, _⟩ := (h3 16 c16 _ rfl rfl).int Try.underlying3
  obtain ⟨n17, rfl, _⟩ := (h3 17 c17 _ rfl rfl).int Try.underlying3
  obtain ⟨n18, rfl, _⟩ := (h3 18 c18 _ rfl rfl).int Try.underlying3
  obtain ⟨n19, rfl, _⟩ := (h3 19 c19 _ rfl rfl).int Try.underlying3
  obtain ⟨n20, rfl, _⟩ := (h3 20 c20 _ rfl rfl).int Try.underlying3
  obtain ⟨s21, rfl, _⟩ := (h3 21 c21 _ rfl rfl).str Try.underlying9
  obtain ⟨s22, rfl, _⟩ := (h3 22 c22 _ rfl rfl).str Try.underlying9
  obtain ⟨n23, rfl, _⟩ := (h3 23 c23 _ rfl rfl).int Try.underlying3
  obtain ⟨n24, rfl, _⟩ := (h3 24 c24 _ rfl rfl).int Try.underlying3
  obtain ⟨a25, l25, k25, rfl⟩ := (h3 25 c25 _ rfl rfl).slice Try.underlying40
  obtain ⟨n26, rfl, _⟩ := (h3 26 c26 _ rfl rfl).int Try.underlying3
  obtain ⟨n27, rfl, _⟩ := (h3 27 c27 _ rfl rfl).int Try.underlying3
  obtain ⟨n28, rfl, _⟩ := (h3 28 c28 _ rfl rfl).int Try.underlying3
  obtain ⟨n29, rfl, _⟩ := (h3 29 c29 _ rfl rfl).int Try.underlying3
  obtain ⟨n30, rfl, _⟩ := (h3 30 c30 _ rfl rfl).int Try.underlying3
  exact ⟨⟨n0, ⟨n1, n2, n3, n4, n5, n6, n7, ⟨n8, s9, s10, n11⟩, ⟨n12, s13, n14, n15⟩, n16, ⟨n17, n18, n19, ⟨n20, s21, s22, n23⟩⟩, n24, n26, n27, n28, n29⟩, a25, l25, k25, n30⟩, rfl, wf_u8_0 hw0⟩

theorem open_acts {H : Type} {enc : TypeId × Value → H} {w : World} {base0 base : Nat} {spare : Nat → Bool} {held : Bool} {v : Value} {d : DataW H} {ps : List MemPlace}
    (hval : Value.okWide Try.prog w .any base0 60 v) (h : DataW.Trod enc Try.prog w base spare held 60 v d ps) :
    ∃ a tc l, v = .slice a (l : List ActM).length tc ∧ ActsIn (fun b => b < w.heap.size) w a l ∧ ∀ x ∈ l, 0 ≤ x.kind := by
  obtain ⟨a0, n0, c0, rfl⟩ := okWide_slice Try.underlying60 hval
  obtain ⟨fuel, hf⟩ := h
  obtain ⟨a, tc, l, e, h1, h2, h3⟩ := open_rows (α := ActM) ActM.cells (fun x => 0 ≤ x.kind) Try.underlying60 actFlat (by kernel_rfl) (by decide) (fun cs hl hc => leaf_act hl hc) hf
  exact ⟨a, tc, l, e, ⟨h3, h1⟩, h2⟩
theorem open_ints {H : Type} {enc : TypeId × Value → H} {w : World} {base0 base : Nat} {spare : Nat → Bool} {held : Bool} {v : Value} {d : DataW H} {ps : List MemPlace}
    (hval : Value.okWide Try.prog w .any base0 28 v) (h : DataW.Trod enc Try.prog w base spare held 28 v d ps) :
    ∃ a tc l, v = .slice a (l : List Int).length tc ∧ l.length ≤ maxLen ∧ IntsIn (fun b => b < w.heap.size) w a l := by
  obtain ⟨a0, n0, c0, rfl⟩ := okWide_slice Try.underlying28 hval
  obtain ⟨fuel, hf⟩ := h
  obtain ⟨a, tc, l, e, h1, h2, h3⟩ := open_rows (α := Int) (fun x => [.int .i64 x]) (fun _ => True) Try.underlying28 intFlat (by kernel_rfl) (by decide) (fun cs hl hc => by
    match cs, hl, hc with
    | [c], _, hc =>
      obtain ⟨n, rfl, _⟩ := (hc 0 c _ rfl rfl).int Try.underlying3
      exact ⟨n, rfl, trivial⟩) hf
  refine ⟨a, tc, l, e, h1, ⟨fun hne => ?_⟩⟩
  obtain ⟨b, off, h4, h5, h6⟩ := h3 hne
  refine ⟨b, off, h4, h5, fun i v hv => ?_⟩
  have := h6 i v hv 0 _ rfl
  simpa using this

theorem own_plays : ownKnob Try.prog.godebug = none := by kernel_rfl
theorem laidOut_plays : laidOutB Try.prog = true := by kernel_rfl
set_option maxRecDepth 100000 in
theorem plays_lifted (os : Os) (started : os.Started) (H : Type) (enc : TypeId × Value → H) :
    ReturnsInHanded {} Try.checked os 8 .any (Rows.schedPlaysSpec.pre6 enc Try.prog Try.f8 Rows.schedPlaysRow.domain false) (Rows.schedPlaysSpec.post enc Try.prog Try.f8 false true false false) := by
  refine law_returns (C := Try.checked) own_plays started (by kernel_rfl) Try.func8
    (ChangeSpec.witness6 (enc := enc) (C := Try.checked) false ⟨#[], #[.slice none 0 0, .int .i64 0, .slice none 0 0], []⟩ 8 (by kernel_rfl) (by kernel_rfl) (by kernel_rfl) (by kernel_rfl))
    laidOut_plays (by rw [Try.params8]; simp; exact ⟨⟨by kernel_rfl, of_decide_eq_true (by kernel_rfl)⟩, ⟨by kernel_rfl, of_decide_eq_true (by kernel_rfl)⟩, by kernel_rfl, of_decide_eq_true (by kernel_rfl)⟩) rfl rfl Try.underlying4
    (fun ds h => by
      rw [Try.params8] at h
      match ds, h with
      | [d1, d2, d3], _ => rfl) ?_
  intro W base args ds ps hval hA _ _
  rw [Try.params8] at hA hval
  obtain ⟨v0, vs0, d0, ds0, p0, q0, hargs, rfl, rfl, h0, r0⟩ := trodAll_cons hA
  obtain ⟨v1, vs1, d1, ds1, p1, q1, rfl, rfl, rfl, h1, r1⟩ := trodAll_cons r0
  obtain ⟨v2, vs2, d2, ds2, p2, q2, rfl, rfl, rfl, h2, r2⟩ := trodAll_cons r1
  obtain ⟨rfl, rfl, rfl⟩ := trodAll_nil r2
  obtain rfl : args = #[v0, v1, v2] := by cases args; simp_all
  obtain ⟨qa, qc, qs, rfl, hql, hq⟩ := open_ints (hval 0 28 v0 rfl rfl) h0
  obtain ⟨cap, rfl⟩ := okWide_int Try.underlying3 (hval 1 3 v1 rfl rfl)
  obtain ⟨la, lc, l, rfl, hl, hk⟩ := open_acts (hval 2 60 v2 rfl rfl) h2
  have T := SLaw.plays_spec (fun b => b < W.heap.size) W qa qc qs cap la lc l hq hl hk hql
  exact ⟨T.callable, fun hl hs => Calls.mono (T.calls hl hs) fun e W' ⟨v, L', h1, h2, h3, h4⟩ => ⟨v, L', h1, h2.1, h3, h4⟩⟩

theorem plays_holds : Rows.SchedPlaysSaid :=
  OpenClaim.holds_of_wide 8 Try.f8 rfl rfl rfl rfl rfl rfl rfl ⟨rfl, rfl, rfl, rfl, rfl⟩ rfl rfl rfl rfl rfl (by kernel_rfl) Try.func8 (by kernel_rfl)
    (of_decide_eq_true (by kernel_rfl)) (by unfold Func.isWrapper; first | (rw [if_pos (by decide +kernel)]; kernel_rfl) | (rw [if_neg (by decide +kernel)]; exact ⟨rfl, rfl⟩))
    (fun os started H enc _ => plays_lifted os started H enc)
#print axioms plays_holds
end Go.Proofs.Ytpgcjbddjghkdaa.Sched
