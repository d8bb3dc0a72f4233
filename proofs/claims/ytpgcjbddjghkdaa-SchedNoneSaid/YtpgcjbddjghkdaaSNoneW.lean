/- SchedNone, walked through; an act as an argument. No condition. -/
import Derived.Test.YtpgcjbddjghkdaaSNone
import Derived.Test.YtpgcjbddjghkdaaVgM
namespace Go.Proofs.Ytpgcjbddjghkdaa.SLaw
open Go Go.Proofs.Ytpgcjbddjghkdaa.Vg Go.Proofs.Ytpgcjbddjghkdaa.T Go.Proofs.Ytpgcjbddjghkdaa.Api Go.Proofs.Ytpgcjbddjghkdaa.Ring Go.Proofs.Ytpgcjbddjghkdaa.Sched
set_option linter.unusedSimpArgs false
set_option linter.unusedVariables false
attribute [local irreducible] VO VC VA

def pieceO : Option Nat → List HP
  | none => []
  | some p => [pt p zeroCs 73]
theorem noneAt_in {Fr : Nat → Prop} {w : World} (M : List HP) {H : HP} {y : Option Nat} (hs : SatIn Fr (M ++ H :: pieceO y) w) : NoneAt Fr w (.pointer (y.map fun p => ⟨p, 0, none⟩)) := by
  cases y with
  | none => exact .inl rfl
  | some p => exact .inr ⟨p, rfl, hs.blk (t := 73) (M.length + 1) (by simp [pieceO])⟩

set_option maxRecDepth 100000 in
theorem none_law (Fr : Nat → Prop) (w : World) (x : ActM) : Tri Try.prog 9 [.agg x.cells.toArray] Fr w [] (fun v L => v = .bool true ∧ L = []) := by
  refine Tri.of 66 Try.func9 rfl (by kernel_rfl) tabOk rfl rfl ?_
  refine VC.seq (VC.region (VO.go (VO.boxA (vs := x.cells) rfl fun b => VO.go (VO.nil ?_))))
  (repeat (first | refine VC.seq ?_ | refine VC.region ?_ | refine VC.block ?_ | refine VC.label ?_ | refine VC.scope ?_ | refine VO.go (VO.nil ?_) | refine VO.go (VO.ld 0 rfl rfl rfl rfl ?_)))
  refine VO.go (VO.ldA 0 x.cells rfl rfl rfl rfl ?_)
  refine VO.go (VO.buildSlice (n := 1) (pv := [(0, .agg x.cells.toArray)]) x.cells rfl rfl rfl rfl (by decide) (fill_one rfl rfl rfl) fun sb => ?_)
  refine VO.go (VO.callV' (fun Fr w hF _ hs => great_spec Fr w _ 1 [x] 1 (ActsIn.blk1 (hs.blk 0 rfl))) rfl (VO.go (VO.nil ?_)))
  refine VC.cond rfl (fun h1 => ?_) (fun h1 => VC.skip ?_)
  · (repeat (first | refine VC.seq ?_ | refine VC.region ?_ | refine VC.block ?_ | refine VC.label ?_ | refine VC.scope ?_ | refine VO.go (VO.nil ?_) | refine VO.go (VO.ld 0 rfl rfl rfl rfl ?_)))
    refine VO.go (VO.callV (fun Fr w => turned_spec Fr w) rfl (VO.go (VO.nil ?_)))
    exact VC.ret (Ret.bool 2 rfl rfl rfl Imp.nil.ent ⟨rfl, rfl⟩)
  have hmn : x.mn = 0 := by
    simp only [greatM, List.any_cons, List.any_nil, Bool.or_false, Bool.or_eq_false_iff, ActM.bad, decide_eq_false_iff_not] at h1
    omega
  obtain ⟨kind, f, ma, mn, mc, now⟩ := x
  dsimp only at hmn
  subst hmn
  (repeat (first | refine VC.seq ?_ | refine VC.region ?_ | refine VC.block ?_ | refine VC.label ?_ | refine VC.scope ?_ | refine VO.go (VO.nil ?_) | refine VO.go (VO.ld 0 rfl rfl rfl rfl ?_)))
  refine VC.loop (σ := Nat × Option Nat) (fun y => [(1, .pointer (some ⟨b, 0, none⟩)), (3, .pointer (y.2.map fun p => ⟨p, 0, none⟩)), (4, .int .i64 y.1)]) (fun y => pt b (ActM.cells ⟨kind, f, ma, 0, mc, now⟩) 66 :: pieceO y.2) (fun y => y.1 ≤ 2) (fun y => 2 - y.1) (0, none) (by show 0 ≤ 2; omega) (Sub.cons rfl (Sub.cons rfl (Sub.cons rfl (Sub.nil _)))) Imp.tl.ent ?_
  rintro ⟨t, y⟩ ht
  dsimp only at ht ⊢
  (repeat (first | refine VC.seq ?_ | refine VC.region ?_ | refine VC.block ?_ | refine VC.label ?_ | refine VC.scope ?_ | refine VO.go (VO.nil ?_) | refine VO.go (VO.ld 0 rfl rfl rfl rfl ?_)))
  refine VC.condP rfl (fun h2 => ?_) (fun h2 => ?_)
  · have ht2 : t < 2 := by omega
    refine VC.skip ?_
    (repeat (first | refine VC.seq ?_ | refine VC.region ?_ | refine VC.block ?_ | refine VC.label ?_ | refine VC.scope ?_ | refine VO.go (VO.nil ?_) | refine VO.go (VO.ld 0 rfl rfl rfl rfl ?_)))
    refine VO.go (VO.callV' (fun Fr w hF _ hs => pop_none Fr w (noneAt_in [] hs)) rfl ?_)
    refine VO.go (VO.alloc rfl fun z => VO.go (VO.stA (vs := fmc fmz) (cs' := fmc fmz) 0 rfl rfl rfl rfl (Nat.le_refl _) rfl rfl rfl (VO.go (VO.nil ?_))))
    (repeat (first | refine VC.seq ?_ | refine VC.region ?_ | refine VC.block ?_ | refine VC.label ?_ | refine VC.scope ?_ | refine VO.go (VO.nil ?_) | refine VO.go (VO.ld 0 rfl rfl rfl rfl ?_)))
    refine VO.go (VO.ldA 1 (fmc (f, (ma, mc))) rfl rfl rfl rfl ?_)
    refine VO.go (VO.callV' (fun Fr w hF _ hs => push_none Fr w (f, (ma, mc)) (noneAt_in [pt z (fmc fmz) 44] hs)) rfl ?_)
    refine VO.go (VO.yes 25 false rfl rfl (VO.go (VO.yes 28 false rfl rfl ?_)))
    refine VO.go (VO.ld 1 rfl rfl rfl rfl ?_)
    refine VO.go (VO.callV' (fun Fr w hF _ hs => expire_none Fr w now (noneAt_in [pt z (fmc fmz) 44] hs)) rfl (VO.go (VO.yes 36 false rfl rfl ?_)))
    refine VO.go (VO.ld 1 rfl rfl rfl rfl ?_)
    refine VO.go (VO.callV' (fun Fr w hF _ hs => len_none Fr w f.cls (noneAt_in [pt z (fmc fmz) 44] hs)) rfl (VO.go (VO.yes 44 false rfl rfl ?_)))
    refine VO.go (VO.ld 1 rfl rfl rfl rfl ?_)
    refine VO.go (VO.callV' (fun Fr w hF _ hs => served_none Fr w f.cls (noneAt_in [pt z (fmc fmz) 44] hs)) rfl (VO.go (VO.yes 52 false rfl rfl ?_)))
    refine VO.go (VO.callV' (fun Fr w hF _ hs => waiting_none Fr w (noneAt_in [pt z (fmc fmz) 44] hs)) rfl (VO.go (VO.yes 58 false rfl rfl ?_)))
    refine VO.go (VO.callV' (fun Fr w hF _ hs => copy_none Fr w (noneAt_in [pt z (fmc fmz) 44] hs)) rfl (VO.go (VO.nil ?_)))
    refine VC.condF rfl (VC.skip ?_)
    (repeat (first | refine VC.seq ?_ | refine VC.region ?_ | refine VC.block ?_ | refine VC.label ?_ | refine VC.scope ?_ | refine VO.go (VO.nil ?_) | refine VO.go (VO.ld 0 rfl rfl rfl rfl ?_)))
    refine VO.go (VO.light (light_build (pv := []) zeroCs rfl rfl rfl rfl rfl) (VO.go (VO.boxA (vs := zeroCs) rfl fun p => VO.go (VO.nil ?_))))
    (repeat (first | refine VC.seq ?_ | refine VC.region ?_ | refine VC.block ?_ | refine VC.label ?_ | refine VC.scope ?_ | refine VO.go (VO.nil ?_) | refine VO.go (VO.ld 0 rfl rfl rfl rfl ?_)))
    refine VO.go (VO.add rfl rfl (by omega) (by omega) ?_)
    (repeat (first | refine VC.seq ?_ | refine VC.region ?_ | refine VC.block ?_ | refine VC.label ?_ | refine VC.scope ?_ | refine VO.go (VO.nil ?_) | refine VO.go (VO.ld 0 rfl rfl rfl rfl ?_)))
    refine ⟨(t + 1, some p), ht2, by dsimp only; omega, Sub.cons rfl (Sub.cons rfl (Sub.cons rfl (Sub.nil _))), ?_⟩
    exact (Imp.pick 2 rfl (Imp.app (L := [_]) (M := [_]) Imp.refl Imp.nil)).ent
  · refine VC.exit ?_
    (repeat (first | refine VC.seq ?_ | refine VC.region ?_ | refine VC.block ?_ | refine VC.label ?_ | refine VC.scope ?_ | refine VO.go (VO.nil ?_) | refine VO.go (VO.ld 0 rfl rfl rfl rfl ?_)))
    refine VO.go (VO.callV (fun Fr w => turned_spec Fr w) rfl (VO.go (VO.nil ?_)))
    exact VC.ret (Ret.bool 2 rfl rfl rfl Imp.nil.ent ⟨rfl, rfl⟩)
end Go.Proofs.Ytpgcjbddjghkdaa.SLaw

namespace Go.Proofs.Ytpgcjbddjghkdaa.Sched
open Go Go.Proofs.Ytpgcjbddjghkdaa.Vg Go.ChangeShapes Go.WideShapes Go.ChangeAt Go.RowKit Go.Proofs.Ytpgcjbddjghkdaa.SLaw
set_option linter.unusedVariables false

theorem cellW {P : Program} {w : World} {r : Reach} {base : Nat} {t : TypeId} {v : Value} {d : TypeDesc} (ht : P.underlying t = some d) (hd : (match d with | .struct _ => False | .array _ _ => False | _ => True)) (h : Cell.okWide P w r base t v) : Value.okWide P w r base t v := by
  unfold Value.okWide
  rw [ht]
  cases d <;> first | exact h | exact hd.elim

theorem agg_struct {P : Program} {w : World} {r : Reach} {base : Nat} {t : TypeId} {v : Value} {fs : Array Field} (ht : P.underlying t = some (.struct fs)) (h : Value.okWide P w r base t v) : ∃ cs, v = .agg cs ∧ cs.size = P.cellsOf t ∧ Row.okWide P w r base t cs := by
  unfold Value.okWide at h
  rw [ht] at h
  exact h
theorem actTypes : Try.prog.cellTypes Try.prog.depth 66 = some [5, 3, 3, 3, 3, 3, 3, 3, 3, 9, 9, 3, 3, 9, 3, 3, 3, 3, 3, 3, 3, 9, 9, 3, 3, 40, 3, 3, 3, 3, 3] := by kernel_rfl
theorem actUnd : ∃ fs, Try.prog.underlying 66 = some (.struct fs) := ⟨_, Try.underlying66⟩

/-- Thirty-one cells of an act's kinds are an act. -/
theorem open_act {w : World} {r : Reach} {base : Nat} {cs : List Value} (hl : cs.length = 31)
    (h3 : ∀ (i : Nat) (v : Value), cs[i]? = some v → ∃ u, ([5, 3, 3, 3, 3, 3, 3, 3, 3, 9, 9, 3, 3, 9, 3, 3, 3, 3, 3, 3, 3, 9, 9, 3, 3, 40, 3, 3, 3, 3, 3] : List TypeId)[i]? = some u ∧ Cell.okWide Try.prog w r base u v) : ∃ x : ActM, cs = x.cells := by
  match cs, hl, h3 with
  | [c0, c1, c2, c3, c4, c5, c6, c7, c8, c9, c10, c11, c12, c13, c14, c15, c16, c17, c18, c19, c20, c21, c22, c23, c24, c25, c26, c27, c28, c29, c30], _, h3 =>
  obtain ⟨u0, hu0, hc0⟩ := h3 0 c0 rfl
  obtain rfl : 5 = u0 := Option.some.inj hu0
  obtain ⟨n0, rfl⟩ := okWide_int Try.underlying5 (cellW Try.underlying5 (by simp) hc0)
  obtain ⟨u1, hu1, hc1⟩ := h3 1 c1 rfl
  obtain rfl : 3 = u1 := Option.some.inj hu1
  obtain ⟨n1, rfl⟩ := okWide_int Try.underlying3 (cellW Try.underlying3 (by simp) hc1)
  obtain ⟨u2, hu2, hc2⟩ := h3 2 c2 rfl
  obtain rfl : 3 = u2 := Option.some.inj hu2
  obtain ⟨n2, rfl⟩ := okWide_int Try.underlying3 (cellW Try.underlying3 (by simp) hc2)
  obtain ⟨u3, hu3, hc3⟩ := h3 3 c3 rfl
  obtain rfl : 3 = u3 := Option.some.inj hu3
  obtain ⟨n3, rfl⟩ := okWide_int Try.underlying3 (cellW Try.underlying3 (by simp) hc3)
  obtain ⟨u4, hu4, hc4⟩ := h3 4 c4 rfl
  obtain rfl : 3 = u4 := Option.some.inj hu4
  obtain ⟨n4, rfl⟩ := okWide_int Try.underlying3 (cellW Try.underlying3 (by simp) hc4)
  obtain ⟨u5, hu5, hc5⟩ := h3 5 c5 rfl
  obtain rfl : 3 = u5 := Option.some.inj hu5
  obtain ⟨n5, rfl⟩ := okWide_int Try.underlying3 (cellW Try.underlying3 (by simp) hc5)
  obtain ⟨u6, hu6, hc6⟩ := h3 6 c6 rfl
  obtain rfl : 3 = u6 := Option.some.inj hu6
  obtain ⟨n6, rfl⟩ := okWide_int Try.underlying3 (cellW Try.underlying3 (by simp) hc6)
  obtain ⟨u7, hu7, hc7⟩ := h3 7 c7 rfl
  obtain rfl : 3 = u7 := Option.some.inj hu7
  obtain ⟨n7, rfl⟩ := okWide_int Try.underlying3 (cellW Try.underlying3 (by simp) hc7)
  obtain ⟨u8, hu8, hc8⟩ := h3 8 c8 rfl
  obtain rfl : 3 = u8 := Option.some.inj hu8
  obtain ⟨n8, rfl⟩ := okWide_int Try.underlying3 (cellW Try.underlying3 (by simp) hc8)
  obtain ⟨u9, hu9, hc9⟩ := h3 9 c9 rfl
  obtain rfl : 9 = u9 := Option.some.inj hu9
  obtain ⟨s9, rfl⟩ := okWide_string Try.underlying9 (cellW Try.underlying9 (by simp) hc9)
  obtain ⟨u10, hu10, hc10⟩ := h3 10 c10 rfl
  obtain rfl : 9 = u10 := Option.some.inj hu10
  obtain ⟨s10, rfl⟩ := okWide_string Try.underlying9 (cellW Try.underlying9 (by simp) hc10)
  obtain ⟨u11, hu11, hc11⟩ := h3 11 c11 rfl
  obtain rfl : 3 = u11 := Option.some.inj hu11
  obtain ⟨n11, rfl⟩ := okWide_int Try.underlying3 (cellW Try.underlying3 (by simp) hc11)
  obtain ⟨u12, hu12, hc12⟩ := h3 12 c12 rfl
  obtain rfl : 3 = u12 := Option.some.inj hu12
  obtain ⟨n12, rfl⟩ := okWide_int Try.underlying3 (cellW Try.underlying3 (by simp) hc12)
  obtain ⟨u13, hu13, hc13⟩ := h3 13 c13 rfl
  obtain rfl : 9 = u13 := Option.some.inj hu13
  obtain ⟨s13, rfl⟩ := okWide_string Try.underlying9 (cellW Try.underlying9 (by simp) hc13)
  obtain ⟨u14, hu14, hc14⟩ := h3 14 c14 rfl
  obtain rfl : 3 = u14 := Option.some.inj hu14
  obtain ⟨n14, rfl⟩ := okWide_int Try.underlying3 (cellW Try.underlying3 (by simp) hc14)
  obtain ⟨u15, hu15, hc15⟩ := h3 15 c15 rfl
  obtain rfl : 3 = u15 := Option.some.inj hu15
  obtain ⟨n15, rfl⟩ := okWide_int Try.underlying3 (cellW Try.underlying3 (by simp) hc15)
  obtain ⟨u16, hu16, hc16⟩ := h3 16 c16 rfl
  obtain rfl : 3 = u16 := Option.some.inj hu16
  obtain ⟨n16, rfl⟩ := okWide_int Try.underlying3 (cellW Try.underlying3 (by simp) hc16)
  obtain ⟨u17, hu17, hc17⟩ := h3 17 c17 rfl
  obtain rfl : 3 = u17 := Option.some.inj hu17
  obtain ⟨n17, rfl⟩ := okWide_int Try.underlying3 (cellW Try.underlying3 (by simp) hc17)
  obtain ⟨u18, hu18, hc18⟩ := h3 18 c18 rfl
  obtain rfl : 3 = u18 := Option.some.inj hu18
  obtain ⟨n18, rfl⟩ := okWide_int Try.underlying3 (cellW Try.underlying3 (by simp) hc18)
  obtain ⟨u19, hu19, hc19⟩ := h3 19 c19 rfl
  obtain rfl : 3 = u19 := Option.some.inj hu19
  obtain ⟨n19, rfl⟩ := okWide_int Try.underlying3 (cellW Try.underlying3 (by simp) hc19)
  obtain ⟨u20, hu20, hc20⟩ := h3 20 c20 rfl
  obtain rfl : 3 = u20 := Option.some.inj hu20
  obtain ⟨n20, rfl⟩ := okWide_int Try.underlying3 (cellW Try.underlying3 (by simp) hc20)
  obtain ⟨u21, hu21, hc21⟩ := h3 21 c21 rfl
  obtain rfl : 9 = u21 := Option.some.inj hu21
  obtain ⟨s21, rfl⟩ := okWide_string Try.underlying9 (cellW Try.underlying9 (by simp) hc21)
  obtain ⟨u22, hu22, hc22⟩ := h3 22 c22 rfl
  obtain rfl : 9 = u22 := Option.some.inj hu22
  obtain ⟨s22, rfl⟩ := okWide_string Try.underlying9 (cellW Try.underlying9 (by simp) hc22)
  obtain ⟨u23, hu23, hc23⟩ := h3 23 c23 rfl
  obtain rfl : 3 = u23 := Option.some.inj hu23
  obtain ⟨n23, rfl⟩ := okWide_int Try.underlying3 (cellW Try.underlying3 (by simp) hc23)
  obtain ⟨u24, hu24, hc24⟩ := h3 24 c24 rfl
  obtain rfl : 3 = u24 := Option.some.inj hu24
  obtain ⟨n24, rfl⟩ := okWide_int Try.underlying3 (cellW Try.underlying3 (by simp) hc24)
  obtain ⟨u25, hu25, hc25⟩ := h3 25 c25 rfl
  obtain rfl : 40 = u25 := Option.some.inj hu25
  obtain ⟨a25, l25, c25, rfl⟩ := okWide_slice Try.underlying40 (cellW Try.underlying40 (by simp) hc25)
  obtain ⟨u26, hu26, hc26⟩ := h3 26 c26 rfl
  obtain rfl : 3 = u26 := Option.some.inj hu26
  obtain ⟨n26, rfl⟩ := okWide_int Try.underlying3 (cellW Try.underlying3 (by simp) hc26)
  obtain ⟨u27, hu27, hc27⟩ := h3 27 c27 rfl
  obtain rfl : 3 = u27 := Option.some.inj hu27
  obtain ⟨n27, rfl⟩ := okWide_int Try.underlying3 (cellW Try.underlying3 (by simp) hc27)
  obtain ⟨u28, hu28, hc28⟩ := h3 28 c28 rfl
  obtain rfl : 3 = u28 := Option.some.inj hu28
  obtain ⟨n28, rfl⟩ := okWide_int Try.underlying3 (cellW Try.underlying3 (by simp) hc28)
  obtain ⟨u29, hu29, hc29⟩ := h3 29 c29 rfl
  obtain rfl : 3 = u29 := Option.some.inj hu29
  obtain ⟨n29, rfl⟩ := okWide_int Try.underlying3 (cellW Try.underlying3 (by simp) hc29)
  obtain ⟨u30, hu30, hc30⟩ := h3 30 c30 rfl
  obtain rfl : 3 = u30 := Option.some.inj hu30
  obtain ⟨n30, rfl⟩ := okWide_int Try.underlying3 (cellW Try.underlying3 (by simp) hc30)
  exact ⟨⟨n0, ⟨n1, n2, n3, n4, n5, n6, n7, ⟨n8, s9, s10, n11⟩, ⟨n12, s13, n14, n15⟩, n16, ⟨n17, n18, n19, ⟨n20, s21, s22, n23⟩⟩, n24, n26, n27, n28, n29⟩, a25, l25, c25, n30⟩, rfl⟩
end Go.Proofs.Ytpgcjbddjghkdaa.Sched
