/- Acts of layer 17, and whether they are great. No condition. -/
import Derived.Test.YtoinocihlfmnnaaAArg
namespace Go.Proofs.Ytoinocihlfmnnaa.Adm
open Go Go.Proofs.Ytoinocihlfmnnaa.Vg Go.Proofs.Ytoinocihlfmnnaa.T Go.Proofs.Ytoinocihlfmnnaa.Api Go.Proofs.Ytoinocihlfmnnaa.Sched
set_option linter.unusedSimpArgs false
set_option linter.unusedVariables false
attribute [local irreducible] VO VC VA

structure ActM where
  kind : Int
  f : FrameM
  ma : Option Addr
  mn : Nat
  mc : Nat
  now : Int
def frameG (f : FrameM) (a : Option Addr) (n c : Nat) : List Value :=
  [.int .i64 f.kind, .int .i64 f.epoch, .int .i64 f.client, .int .i64 f.seq, .int .i64 f.try_, .int .i64 f.cls, .int .i64 f.deadline,
   .int .i64 f.op.kind, .string f.op.key, .string f.op.value, .int .i64 f.op.version,
   .int .i64 f.res.code, .string f.res.value, .int .i64 f.res.version, .int .i64 f.res.at_, .int .i64 f.reason,
   .int .i64 f.entry.index, .int .i64 f.entry.client, .int .i64 f.entry.seq, .int .i64 f.entry.op.kind, .string f.entry.op.key, .string f.entry.op.value, .int .i64 f.entry.op.version,
   .int .i64 f.cepoch, .slice a n c, .int .i64 f.drain, .int .i64 f.index, .int .i64 f.grant, .int .i64 f.have_]
def ActM.cells (x : ActM) : List Value := .int .u8 x.kind :: (frameG x.f x.ma x.mn x.mc ++ [.int .i64 x.now])
theorem ActM.cells_len (x : ActM) : x.cells.length = 31 := rfl
def ActM.bad (x : ActM) : Bool := decide (200 < x.f.op.key.size) || decide (200 < x.f.op.value.size) || decide (0 < x.mn)
def greatM (l : List ActM) (most : Int) : Bool := l.any ActM.bad || decide (most < l.length)
structure ActsIn (Fr : Nat → Prop) (w : World) (a : Option Addr) (l : List ActM) : Prop where
  at_ : l ≠ [] → ∃ b off, a = some ⟨b, off, none⟩ ∧ Fr b ∧ ∀ i x, l[i]? = some x → ∀ j v, x.cells[j]? = some v → w.cell? ⟨b, off + i * 31 + j, none⟩ = some v
  len : l.length ≤ 9223372036854775807
theorem ActsIn.blk1 {Fr : Nat → Prop} {w : World} {b : Nat} {x : ActM} (h : Blk Fr w b x.cells) : ActsIn Fr w (some ⟨b, 0, none⟩) [x] := ⟨fun _ => ⟨b, 0, rfl, h.fr, fun i y hy j v hv => by
  obtain ⟨t, fz, ht⟩ := h.at_
  match i, hy with
  | 0, hy =>
    obtain rfl : x = y := Option.some.inj hy
    rw [cell_of_row w b (0 + 0 * 31 + j) x.cells.toArray t fz ht]
    simpa using hv
  | n + 1, hy => cases hy⟩, by show 1 ≤ _; omega⟩

set_option maxRecDepth 100000 in
theorem great_spec (Fr : Nat → Prop) (w : World) (a : Option Addr) (c : Nat) (l : List ActM) (most : Int) (h : ActsIn Fr w a l) :
    Tri Try.prog 19 [.slice a l.length c, .int .i64 most] Fr w [] (fun v L => v = .bool (greatM l most) ∧ L = []) := by
  refine Tri.of 47 Try.func19 rfl (by kernel_rfl) tabOk rfl rfl ?_
  have hlen := h.len
  (repeat (first | refine VC.seq ?_ | refine VC.region ?_ | refine VC.block ?_ | refine VC.label ?_ | refine VC.scope ?_ | refine VO.go (VO.nil ?_) | refine VO.go (VO.ld 0 rfl rfl rfl rfl ?_)))
  refine VC.loop (fun i : Nat => [(0, .slice a l.length c), (1, .int .i64 most), (5, .int .i64 i)]) (fun _ => []) (fun i => i ≤ l.length ∧ (l.take i).any ActM.bad = false) (fun i => l.length - i) 0 ⟨Nat.zero_le _, rfl⟩ (Sub.cons rfl (Sub.cons rfl (Sub.cons rfl (Sub.nil _)))) Ent.refl ?_
  rintro i ⟨hi, hall⟩
  (repeat (first | refine VC.seq ?_ | refine VC.region ?_ | refine VC.block ?_ | refine VC.label ?_ | refine VC.scope ?_ | refine VO.go (VO.nil ?_) | refine VO.go (VO.ld 0 rfl rfl rfl rfl ?_)))
  refine VC.condP rfl (fun h1 => ?_) (fun h1 => ?_)
  · have hi2 : i < l.length := by omega
    obtain ⟨b, off, rfl, hF, hcell⟩ := h.at_ (fun e => by rw [e] at hi2; simp at hi2)
    have hx := List.getElem?_eq_getElem hi2
    have hmem : l[i] ∈ l := List.getElem_mem hi2
    have htake : l.take (i + 1) = l.take i ++ [l[i]] := by rw [List.take_add_one, hx]; rfl
    generalize l[i] = x at hx hmem htake
    have hk := hcell i x hx 9 _ rfl
    have hv := hcell i x hx 10 _ rfl
    have hm := hcell i x hx 25 _ rfl
    have great : x.bad = true → greatM l most = true := fun hb => by
      have : l.any ActM.bad = true := List.any_eq_true.2 ⟨x, hmem, hb⟩
      simp [greatM, this]
    refine VC.skip ?_
    (repeat (first | refine VC.seq ?_ | refine VC.region ?_ | refine VC.block ?_ | refine VC.label ?_ | refine VC.scope ?_ | refine VO.go (VO.nil ?_) | refine VO.go (VO.ld 0 rfl rfl rfl rfl ?_)))
    refine VO.go (VO.light (light_idx i rfl rfl rfl rfl rfl rfl hi2) ?_)
    refine VO.go (VO.load rfl rfl (RdL.rd (v := .string x.f.op.key) hF hk) (VO.go (VO.split 21 rfl rfl (fun h2 => ?_) (fun h2 => ?_))))
    · have h2 := of_decide_eq_true h2
      refine VO.go (VO.yes 32 true rfl rfl (VO.go (VO.nil (VC.condT rfl ?_))))
      (repeat (first | refine VC.seq ?_ | refine VC.region ?_ | refine VC.block ?_ | refine VC.label ?_ | refine VC.scope ?_ | refine VO.go (VO.nil ?_) | refine VO.go (VO.ld 0 rfl rfl rfl rfl ?_)))
      exact VC.ret (Ret.bool 4 rfl rfl (great (by simp only [ActM.bad, Bool.or_eq_true, decide_eq_true_eq]; omega)).symm Ent.refl ⟨rfl, rfl⟩)
    have h2 := of_decide_eq_false h2
    refine VO.go (VO.light (light_idx i rfl rfl rfl rfl rfl rfl hi2) ?_)
    refine VO.go (VO.load rfl rfl (RdL.rd (v := .string x.f.op.value) hF hv) (VO.go (VO.split 32 rfl rfl (fun h3 => ?_) (fun h3 => ?_))))
    · have h3 := of_decide_eq_true h3
      refine VO.go (VO.nil (VC.condT rfl ?_))
      (repeat (first | refine VC.seq ?_ | refine VC.region ?_ | refine VC.block ?_ | refine VC.label ?_ | refine VC.scope ?_ | refine VO.go (VO.nil ?_) | refine VO.go (VO.ld 0 rfl rfl rfl rfl ?_)))
      exact VC.ret (Ret.bool 4 rfl rfl (great (by simp only [ActM.bad, Bool.or_eq_true, decide_eq_true_eq]; omega)).symm Ent.refl ⟨rfl, rfl⟩)
    have h3 := of_decide_eq_false h3
    refine VO.go (VO.light (light_idx i rfl rfl rfl rfl rfl rfl hi2) ?_)
    refine VO.go (VO.load rfl rfl (RdL.rd (v := .slice x.ma x.mn x.mc) hF hm) (VO.go (VO.nil (VC.condP rfl (fun h4 => ?_) (fun h4 => VC.skip ?_)))))
    · (repeat (first | refine VC.seq ?_ | refine VC.region ?_ | refine VC.block ?_ | refine VC.label ?_ | refine VC.scope ?_ | refine VO.go (VO.nil ?_) | refine VO.go (VO.ld 0 rfl rfl rfl rfl ?_)))
      exact VC.ret (Ret.bool 4 rfl rfl (great (by simp only [ActM.bad, Bool.or_eq_true, decide_eq_true_eq]; omega)).symm Ent.refl ⟨rfl, rfl⟩)
    (repeat (first | refine VC.seq ?_ | refine VC.region ?_ | refine VC.block ?_ | refine VC.label ?_ | refine VC.scope ?_ | refine VO.go (VO.nil ?_) | refine VO.go (VO.ld 0 rfl rfl rfl rfl ?_)))
    refine VO.go (VO.add rfl rfl (by omega) (by omega) ?_)
    (repeat (first | refine VC.seq ?_ | refine VC.region ?_ | refine VC.block ?_ | refine VC.label ?_ | refine VC.scope ?_ | refine VO.go (VO.nil ?_) | refine VO.go (VO.ld 0 rfl rfl rfl rfl ?_)))
    refine ⟨i + 1, ⟨hi2, ?_⟩, by dsimp only; omega, Sub.cons rfl (Sub.cons rfl (Sub.cons rfl (Sub.nil _))), Ent.refl⟩
    rw [htake, List.any_append, hall]
    have : x.bad = false := by
      simp only [ActM.bad, Bool.or_eq_false_iff, decide_eq_false_iff_not]; omega
    simp [this]
  · have hi2 : i = l.length := by omega
    subst hi2
    rw [List.take_length] at hall
    refine VC.exit ?_
    (repeat (first | refine VC.seq ?_ | refine VC.region ?_ | refine VC.block ?_ | refine VC.label ?_ | refine VC.scope ?_ | refine VO.go (VO.nil ?_) | refine VO.go (VO.ld 0 rfl rfl rfl rfl ?_)))
    exact VC.ret (Ret.bool 4 rfl rfl (by simp [greatM, hall]) Ent.refl ⟨rfl, rfl⟩)
end Go.Proofs.Ytoinocihlfmnnaa.Adm
namespace Go.Proofs.Ytoinocihlfmnnaa.Adm
open Go Go.Proofs.Ytoinocihlfmnnaa.Vg Go.ChangeShapes Go.WideShapes Go.ChangeAt Go.RowKit
set_option linter.unusedVariables false
theorem actFlat : flatT Try.prog 5 64 = some [5, 3, 3, 3, 3, 3, 3, 3, 3, 9, 9, 3, 3, 9, 3, 3, 3, 3, 3, 3, 3, 9, 9, 3, 3, 46, 3, 3, 3, 3, 3] := by kernel_rfl
/-- Cells of an act's kinds are an act. -/
theorem leaf_act {H : Type} {enc : TypeId × Value → H} {w : World} {base : Nat} {spare : Nat → Bool} {held : Bool} {cs : List Value} (hl : cs.length = 31)
    (h3 : ∀ (i : Nat) (v : Value) (u : TypeId), cs[i]? = some v → ([5, 3, 3, 3, 3, 3, 3, 3, 3, 9, 9, 3, 3, 9, 3, 3, 3, 3, 3, 3, 3, 9, 9, 3, 3, 46, 3, 3, 3, 3, 3] : List TypeId)[i]? = some u → Leaf enc Try.prog w base spare held u v) : ∃ x : ActM, cs = x.cells ∧ 0 ≤ x.kind := by
  match cs, hl, h3 with
  | [c0, c1, c2, c3, c4, c5, c6, c7, c8, c9, c10, c11, c12, c13, c14, c15, c16, c17, c18, c19, c20, c21, c22, c23, c24, c25, c26, c27, c28, c29, c30], _, h3 =>
  obtain ⟨n0, rfl, hw0⟩ := (h3 0 c0 _ rfl rfl).int Try.underlying5
  obtain ⟨n1, rfl, _⟩ := (h3 1 c1 _ rfl rfl).int Try.underlying3
  obtain ⟨n2, rfl, _⟩ := (h3 2 c2 _ rfl rfl).int Try.underlying3
  obtain ⟨n3, rfl, _⟩ := (h3 3 c3 _ rfl rfl).int Try.underlying3
  obtain ⟨n4, rfl, _⟩ := (h3 4 c4 _ rfl rfl).int Try.underlying3
  obtain ⟨n5, rfl, _⟩ := (h3 5 c5 _ rfl rfl).int Try.underlying3
  obtain ⟨n6, rfl, _⟩ := (h3 6 c6 _ rfl rfl).int Try.underlying3
  obtain ⟨n7, rfl, _⟩ := (h3 7 c7 _ rfl rfl).int Try.underlying3
  obtain ⟨n8, rfl, _⟩ := (h3 8 c8 _ rfl rfl).int Try.underlying3
  obtain ⟨s9, rfl, _⟩ := (h3 9 c9 _ rfl rfl).str Try.underlying9
  obtain ⟨s10, rfl, _⟩ := (h3 10 c10 _ rfl rfl).str Try.underlying9
  obtain ⟨n11, rfl, _⟩ := (h3 11 c11 _ rfl rfl).int Try.underlying3
  obtain ⟨n12, rfl, _⟩ := (h3 12 c12 _ rfl rfl).int Try.underlying3
  obtain ⟨s13, rfl, _⟩ := (h3 13 c13 _ rfl rfl).str Try.underlying9
  obtain ⟨n14, rfl, _⟩ := (h3 14 c14 _ rfl rfl).int Try.underlying3
  obtain ⟨n15, rfl, _⟩ := (h3 15 c15 _ rfl rfl).int Try.underlying3
  obtain ⟨n16, rfl, _⟩ := (h3 16 c16 _ rfl rfl).int Try.underlying3
  obtain ⟨n17, rfl, _⟩ := (h3 17 c17 _ rfl rfl).int Try.underlying3
  obtain ⟨n18, rfl, _⟩ := (h3 18 c18 _ rfl rfl).int Try.underlying3
  obtain ⟨n19, rfl, _⟩ := (h3 19 c19 _ rfl rfl).int Try.underlying3
  obtain ⟨n20, rfl, _⟩ := (h3 20 c20 _ rfl rfl).int Try.underlying3
  obtain ⟨s21, rfl, _⟩ := (h3 21 c21 _ rfl rfl).str Try.underlying9
  obtain ⟨s22, rfl, _⟩ := (h3 22 c22 _ rfl rfl).str Try.underlying9
  obtain ⟨n23, rfl, _⟩ := (h3 23 c23 _ rfl rfl).int Try.underlying3
  obtain ⟨n24, rfl, _⟩ := (h3 24 c24 _ rfl rfl).int Try.underlying3
  obtain ⟨a25, l25, k25, rfl⟩ := (h3 25 c25 _ rfl rfl).slice Try.underlying46
  obtain ⟨n26, rfl, _⟩ := (h3 26 c26 _ rfl rfl).int Try.underlying3
  obtain ⟨n27, rfl, _⟩ := (h3 27 c27 _ rfl rfl).int Try.underlying3
  obtain ⟨n28, rfl, _⟩ := (h3 28 c28 _ rfl rfl).int Try.underlying3
  obtain ⟨n29, rfl, _⟩ := (h3 29 c29 _ rfl rfl).int Try.underlying3
  obtain ⟨n30, rfl, _⟩ := (h3 30 c30 _ rfl rfl).int Try.underlying3
  exact ⟨⟨n0, ⟨n1, n2, n3, n4, n5, n6, n7, ⟨n8, s9, s10, n11⟩, ⟨n12, s13, n14, n15⟩, n16, ⟨n17, n18, n19, ⟨n20, s21, s22, n23⟩⟩, n24, n26, n27, n28, n29⟩, a25, l25, k25, n30⟩, rfl, (wf_byte hw0).1⟩


set_option maxRecDepth 100000 in
theorem open_act {H : Type} {enc : TypeId × Value → H} {w : World} {base0 base : Nat} {spare : Nat → Bool} {held : Bool} {v : Value} {d : DataW H} {ps : List MemPlace}
    (hval : Value.okWide Try.prog w .any base0 64 v) (h : DataW.Trod enc Try.prog w base spare held 64 v d ps) : ∃ x : ActM, v = .agg x.cells.toArray := by
  obtain ⟨cs, rfl⟩ := okWide_agg Try.underlying64 hval
  obtain ⟨fuel, hf⟩ := h
  obtain ⟨h1, h2⟩ := flatT_ok 5 _ _ actFlat fuel cs _ hf
  obtain ⟨x, rfl, _⟩ := leaf_act h1 h2
  exact ⟨x, rfl⟩
end Go.Proofs.Ytoinocihlfmnnaa.Adm
