/- Proved: BruteSerial answers true, whatever it is called with, and leaves all as it was, where the listed tables hold what the program's text lays. -/
import Derived.Test.YthabecjplpomhaaDoorBrArg
import Derived.Test.YthabecjplpomhaaDoorBrU
import Derived.SevenTiedAt
namespace Go.Proofs.YthabecjplpomhaaDoor.Br
open Go Go.Proofs.YthabecjplpomhaaDoor.Vg Go.ChangeShapes Go.WideShapes Go.ChangeAt Go.RowKit Go.Proofs.YthabecjplpomhaaDoor.Api Go.Proofs.YthabecjplpomhaaDoor.LibC
set_option linter.unusedVariables false

theorem wf_byte {a : Int} (w : (Lit.int .u8 a).wf = true) : 0 ≤ a ∧ a ≤ 255 := by
  simp [Lit.wf, IntKind.min, IntKind.max, IntKind.signed, IntKind.bits] at w; omega
set_option maxRecDepth 100000 in
theorem open_u8 {H : Type} {enc : TypeId × Value → H} {w : World} {base base0 : Nat} {spare : Nat → Bool} {held : Bool} {v : Value} {d : DataW H} {ps : List MemPlace} (hval : Value.okWide Tryd.prog w .any base0 5 v) (h : DataW.Trod enc Tryd.prog w base spare held 5 v d ps) :
    ∃ n, v = .int .u8 n ∧ 0 ≤ n ∧ n ≤ 255 := by
  obtain ⟨n, rfl⟩ := okWide_int Tryd.underlying5 hval
  obtain ⟨fuel, hf⟩ := h
  obtain ⟨m, e, _, hw⟩ := DataW.trod_int Tryd.underlying5 hf
  have e2 : Value.int .u8 n = .int .u8 m := (List.cons.inj e).1
  cases e2
  exact ⟨n, rfl, wf_byte hw⟩
def smTs : List TypeId := [5, 5, 5, 5, 5, 5, 5, 5, 5]
theorem smFlat : flatT Tryd.prog 5 62 = some smTs := by kernel_rfl
section
variable {H : Type} {enc : TypeId × Value → H} {w : World} {base : Nat} {spare : Nat → Bool} {held : Bool}
theorem leaf_sm {cs : List Value} (hl : cs.length = 9)
    (h3 : ∀ (i : Nat) (v : Value) (u : TypeId), cs[i]? = some v → smTs[i]? = some u → Leaf enc Tryd.prog w base spare held u v) : ∃ x : SmM, cs = smC x ∧ x.Ok := by
  match cs, hl, h3 with
  | [c1, c2, c3, c4, c5, c6, c7, c8, c9], _, h3 =>
  obtain ⟨n1, rfl, w1⟩ := (h3 0 c1 _ rfl rfl).int Tryd.underlying5
  obtain ⟨n2, rfl, w2⟩ := (h3 1 c2 _ rfl rfl).int Tryd.underlying5
  obtain ⟨n3, rfl, w3⟩ := (h3 2 c3 _ rfl rfl).int Tryd.underlying5
  obtain ⟨n4, rfl, w4⟩ := (h3 3 c4 _ rfl rfl).int Tryd.underlying5
  obtain ⟨n5, rfl, w5⟩ := (h3 4 c5 _ rfl rfl).int Tryd.underlying5
  obtain ⟨n6, rfl, w6⟩ := (h3 5 c6 _ rfl rfl).int Tryd.underlying5
  obtain ⟨n7, rfl, w7⟩ := (h3 6 c7 _ rfl rfl).int Tryd.underlying5
  obtain ⟨n8, rfl, w8⟩ := (h3 7 c8 _ rfl rfl).int Tryd.underlying5
  obtain ⟨n9, rfl, w9⟩ := (h3 8 c9 _ rfl rfl).int Tryd.underlying5
  exact ⟨⟨n1, n2, n3, n4, n5, n6, n7, n8, n9⟩, rfl, ⟨wf_byte w1, wf_byte w2, wf_byte w3, wf_byte w4, wf_byte w5, wf_byte w6, wf_byte w7, wf_byte w8, wf_byte w9⟩⟩
set_option maxRecDepth 100000 in
theorem open_smalls {base0 : Nat} {v : Value} {d : DataW H} {ps : List MemPlace} (hval : Value.okWide Tryd.prog w .any base0 44 v) (h : DataW.Trod enc Tryd.prog w base spare held 44 v d ps) :
    ∃ (a : Option Addr) (tc : Nat) (l : List SmM), v = .slice a l.length tc ∧ l.length ≤ 9223372036854775807 ∧ (∀ s ∈ l, s.Ok) ∧ RwIn smC 9 (fun b => b < w.heap.size) w a l := by
  obtain ⟨a0, n0, c0, rfl⟩ := okWide_slice Tryd.underlying44 hval
  obtain ⟨fuel, hf⟩ := h
  obtain ⟨a, tc, l, e, h1, h2, h3⟩ := open_rows (α := SmM) smC SmM.Ok Tryd.underlying44 smFlat (by kernel_rfl) (by decide) (fun cs hl hc => leaf_sm hl hc) hf
  have hm : maxLen ≤ 9223372036854775807 := by decide
  exact ⟨a, tc, l, e, by omega, h2, ⟨h3⟩⟩
end

set_option maxRecDepth 100000 in
theorem bserial_lifted (os : Os) (started : os.Started) (H : Type) (enc : TypeId × Value → H) :
    ReturnsInHanded {} Tryd.checked os 5 .any (fun w args => (Rows.bruteSerialSpec.pre enc Tryd.prog Tryd.f5 Rows.bruteSerialRow.domain false w args ∧ laidMetH Tryd.prog laidL w) ∧ sizedMet enc Tryd.prog Tryd.f5 (OpenSpec.ofChange Rows.bruteSerialSpec) false w args) (Rows.bruteSerialSpec.post enc Tryd.prog Tryd.f5 false true false false) := by
  refine law_returnsL (C := Tryd.checked) ownK started (by kernel_rfl) Tryd.func5
    (ChangeSpec.witness_shaped (enc := enc) (C := Tryd.checked) (os := os) (X := fun w _ => laidMetH Tryd.prog laidL w) false (World.doorLaid Tryd.prog 400 os) #[.slice none 0 0, .int .u8 0] 8 rfl (World.shaped_of_RefB (by kernel_rfl) (by kernel_rfl)) (by kernel_rfl) (by kernel_rfl) (by kernel_rfl) (door_met os _))
    laidOutK (by rw [Tryd.params5]; simp; exact ⟨⟨by kernel_rfl, of_decide_eq_true (by kernel_rfl)⟩, by kernel_rfl, of_decide_eq_true (by kernel_rfl)⟩) rfl rfl Tryd.underlying4
    (fun ds h => by
      rw [Tryd.params5] at h
      match ds, h with
      | [d1, d2], _ => rfl) ?_
  intro W base args ds ps hL hval hA _ _
  rw [Tryd.params5] at hA hval
  obtain ⟨v0, vs0, d0, ds0, p0, q0, hargs, rfl, rfl, h0, r0⟩ := trodAll_cons hA
  obtain ⟨v1, vs1, d1, ds1, p1, q1, rfl, rfl, rfl, h1, r1⟩ := trodAll_cons r0
  obtain ⟨rfl, rfl, rfl⟩ := trodAll_nil r1
  obtain rfl : args = #[v0, v1] := by cases args; simp_all
  obtain ⟨la, lc, l, rfl, hll, hok, hl⟩ := open_smalls (hval 0 44 v0 rfl rfl) h0
  obtain ⟨u, rfl, hu⟩ := open_u8 (hval 1 5 v1 rfl rfl) h1
  have T := bserial_spec (cap := lc) (fun b => b < W.heap.size) W hl hll hok u hu (tab_of hL)
  exact ⟨T.callable, fun hl hs => Calls.mono (T.calls hl hs) fun e W' ⟨v, L', h1, h2, h3, h4⟩ => ⟨v, L', h1, h2.1, h3, h4⟩⟩

theorem bserial_holds : Rows.BruteSerialSaid :=
  OpenClaim.holds_of_wide 5 Tryd.f5 rfl rfl rfl rfl rfl rfl rfl ⟨rfl, rfl, rfl, rfl, rfl⟩ rfl rfl rfl rfl rfl (by kernel_rfl) Tryd.func5 (by kernel_rfl)
    (of_decide_eq_true (by kernel_rfl)) (by unfold Func.isWrapper; first | (rw [if_pos (by decide +kernel)]; kernel_rfl) | (rw [if_neg (by decide +kernel)]; exact ⟨rfl, rfl⟩))
    (fun os started H enc _ => bserial_lifted os started H enc)
theorem bserial_card : Rows.BruteSerialCardSaid :=
  Claim7.holds_tied_plain_at .later [] [.data, .data, .data] true Rows.bruteSerialCard.stood.harness true
    bserial_holds (fun _ h => by cases h) (by kernel_rfl) (fun _ h => by cases h) bruteSerial_row_tie rfl ⟨rfl, rfl⟩ (by kernel_rfl) rfl
    (fun f fn hf hfn => by
      obtain rfl : f = 5 := (Option.some.inj ((show Tryd.prog.funcNamed Rows.bruteSerialRow.func = some 5 by kernel_rfl).symm.trans hf)).symm
      obtain rfl : fn = Tryd.f5 := (Option.some.inj (Tryd.func5.symm.trans hfn)).symm
      exact ⟨by kernel_rfl, fun j t ht => by
        rw [Tryd.params5] at ht
        have hm : t ∈ [44, 5] := by simpa using Array.mem_of_getElem? ht
        have hall : ([44, 5].all fun u => !Tryd.prog.wantsStandIn u) = true := by kernel_rfl
        exact (show Tryd.prog.wantsStandIn t = false by simpa using List.all_eq_true.1 hall t hm)⟩)
    (by kernel_rfl)
#print axioms bserial_card
end Go.Proofs.YthabecjplpomhaaDoor.Br
