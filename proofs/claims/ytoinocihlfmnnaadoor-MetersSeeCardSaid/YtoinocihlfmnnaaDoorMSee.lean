/- MetersSee: whatever frames are seen, each answer, all counters, shares, and the table, are the document's. No condition but the table of powers of ten. -/
import Derived.Test.YtoinocihlfmnnaaDoorMSum
import Derived.Test.YtoinocihlfmnnaaDoorMCount
namespace Go.Proofs.YtoinocihlfmnnaaDoor.Met
open Go Go.Proofs.YtoinocihlfmnnaaDoor.Vg Go.Proofs.YtoinocihlfmnnaaDoor.T Go.Proofs.YtoinocihlfmnnaaDoor.Api Go.Proofs.YtoinocihlfmnnaaDoor.Cnt Go.Proofs.YtoinocihlfmnnaaDoor.LibC
set_option linter.unusedSimpArgs false
set_option linter.unusedVariables false
attribute [local irreducible] VO VC VA

set_option maxRecDepth 100000 in
theorem rsee_spec (Fr : Nat → Prop) (w : World) (c : Int) {r : GL} (hok : r.Ok fgc 29) (hr : RlIn Fr w r) (hrl : r.xs.length ≤ 1000) (f : FG) :
    Tri Tryd.prog 20 [.int .i64 c, r.v, .agg (fgc f).toArray] Fr w []
      (fun v L => (bad c f.1 = true → v = .tuple #[r.v, .int .i64 2] ∧ L = []) ∧ (bad c f.1 = false → ∃ r' : GL, v = .tuple #[r'.v, .int .i64 0] ∧ L = [r'.h 39] ∧ r'.Ok fgc 29 ∧ r'.xs = r.xs ++ [f])) := by
  refine Tri.of 43 Tryd.func20 rfl (by kernel_rfl) tabOk rfl rfl ?_
  (repeat (first | refine VC.seq ?_ | refine VC.region ?_ | refine VC.block ?_ | refine VC.label ?_ | refine VC.scope ?_ | refine VO.go (VO.nil ?_) | refine VO.go (VO.ld 0 rfl rfl rfl rfl ?_)))
  refine VO.go (VO.boxA (vs := fgc f) rfl fun b => ?_)
  refine VO.go (VO.nil ?_)
  refine VC.seq ?_
  refine VC.meet (σ := Bool) (fun t => [(0, .int .i64 c), (1, r.v), (5, .pointer (some ⟨b, 0, none⟩)), (36, .bool t)]) (fun _ => [pt b (fgc f) 39]) (fun t => t = bad c f.1) ?_ ?_
  · refine VC.region ?_
    (repeat (first | refine VC.seq ?_ | refine VC.region ?_ | refine VC.block ?_ | refine VC.label ?_ | refine VC.scope ?_ | refine VO.go (VO.nil ?_) | refine VO.go (VO.ld 0 rfl rfl rfl rfl ?_)))
    refine VO.go (VO.split 11 rfl rfl (fun h1 => ?_) (fun h1 => ?_))
    · have h1 : f.1.kind = 1 := eq_of_beq h1
      (repeat (first | refine VC.seq ?_ | refine VC.region ?_ | refine VC.block ?_ | refine VC.label ?_ | refine VC.scope ?_ | refine VO.go (VO.nil ?_) | refine VO.go (VO.ld 0 rfl rfl rfl rfl ?_)))
      refine VO.go (VO.split 15 rfl rfl (fun h2 => ?_) (fun h2 => ?_))
      · have h2 := of_decide_eq_true h2
        (repeat (first | refine VC.seq ?_ | refine VC.region ?_ | refine VC.block ?_ | refine VC.label ?_ | refine VC.scope ?_ | refine VO.go (VO.nil ?_) | refine VO.go (VO.ld 0 rfl rfl rfl rfl ?_)))
        refine VO.go (VO.yes 22 true rfl rfl ?_)
        (repeat (first | refine VC.seq ?_ | refine VC.region ?_ | refine VC.block ?_ | refine VC.label ?_ | refine VC.scope ?_ | refine VO.go (VO.nil ?_) | refine VO.go (VO.ld 0 rfl rfl rfl rfl ?_)))
        iterate 8 refine VO.go (VO.offU rfl rfl rfl ?_)
        refine VO.go (VO.nil ⟨true, by simp [bad, h1, h2], Sub.cons rfl (Sub.cons rfl (Sub.cons rfl (Sub.cons rfl (Sub.nil _)))), Ent.refl⟩)
      · have h2 := of_decide_eq_false h2
        (repeat (first | refine VC.seq ?_ | refine VC.region ?_ | refine VC.block ?_ | refine VC.label ?_ | refine VC.scope ?_ | refine VO.go (VO.nil ?_) | refine VO.go (VO.ld 0 rfl rfl rfl rfl ?_)))
        refine VO.go (VO.split 22 rfl rfl (fun h3 => ?_) (fun h3 => ?_))
        · have h3 := of_decide_eq_true h3
          (repeat (first | refine VC.seq ?_ | refine VC.region ?_ | refine VC.block ?_ | refine VC.label ?_ | refine VC.scope ?_ | refine VO.go (VO.nil ?_) | refine VO.go (VO.ld 0 rfl rfl rfl rfl ?_)))
          iterate 8 refine VO.go (VO.offU rfl rfl rfl ?_)
          refine VO.go (VO.nil ⟨true, by simp [bad, h1, h3], Sub.cons rfl (Sub.cons rfl (Sub.cons rfl (Sub.cons rfl (Sub.nil _)))), Ent.refl⟩)
        · have h3 := of_decide_eq_false h3
          (repeat (first | refine VC.seq ?_ | refine VC.region ?_ | refine VC.block ?_ | refine VC.label ?_ | refine VC.scope ?_ | refine VO.go (VO.nil ?_) | refine VO.go (VO.ld 0 rfl rfl rfl rfl ?_)))
          refine VO.go (VO.yes 26 false rfl (by rw [h1]; rfl) ?_)
          (repeat (first | refine VC.seq ?_ | refine VC.region ?_ | refine VC.block ?_ | refine VC.label ?_ | refine VC.scope ?_ | refine VO.go (VO.nil ?_) | refine VO.go (VO.ld 0 rfl rfl rfl rfl ?_)))
          iterate 3 refine VO.go (VO.offU rfl rfl rfl ?_)
          refine VO.go (VO.nil ⟨false, by simp [bad, h1]; omega, Sub.cons rfl (Sub.cons rfl (Sub.cons rfl (Sub.cons rfl (Sub.nil _)))), Ent.refl⟩)
    · have h1 : f.1.kind ≠ 1 := ne_of_beq_false h1
      (repeat (first | refine VC.seq ?_ | refine VC.region ?_ | refine VC.block ?_ | refine VC.label ?_ | refine VC.scope ?_ | refine VO.go (VO.nil ?_) | refine VO.go (VO.ld 0 rfl rfl rfl rfl ?_)))
      iterate 4 refine VO.go (VO.offU rfl rfl rfl ?_)
      refine VO.go (VO.yes 22 false rfl rfl ?_)
      (repeat (first | refine VC.seq ?_ | refine VC.region ?_ | refine VC.block ?_ | refine VC.label ?_ | refine VC.scope ?_ | refine VO.go (VO.nil ?_) | refine VO.go (VO.ld 0 rfl rfl rfl rfl ?_)))
      refine VO.go (VO.split 26 rfl rfl (fun h2 => ?_) (fun h2 => ?_))
      · have h2 : f.1.kind = 3 := eq_of_beq h2
        (repeat (first | refine VC.seq ?_ | refine VC.region ?_ | refine VC.block ?_ | refine VC.label ?_ | refine VC.scope ?_ | refine VO.go (VO.nil ?_) | refine VO.go (VO.ld 0 rfl rfl rfl rfl ?_)))
        refine VO.go (VO.split 30 rfl rfl (fun h3 => ?_) (fun h3 => ?_))
        · have h3 := of_decide_eq_true h3
          (repeat (first | refine VC.seq ?_ | refine VC.region ?_ | refine VC.block ?_ | refine VC.label ?_ | refine VC.scope ?_ | refine VO.go (VO.nil ?_) | refine VO.go (VO.ld 0 rfl rfl rfl rfl ?_)))
          exact ⟨true, by simp [bad, h2, h3], Sub.cons rfl (Sub.cons rfl (Sub.cons rfl (Sub.cons rfl (Sub.nil _)))), Ent.refl⟩
        · have h3 := of_decide_eq_false h3
          (repeat (first | refine VC.seq ?_ | refine VC.region ?_ | refine VC.block ?_ | refine VC.label ?_ | refine VC.scope ?_ | refine VO.go (VO.nil ?_) | refine VO.go (VO.ld 0 rfl rfl rfl rfl ?_)))
          exact ⟨decide (10 < f.1.reason), by simp [bad, h2]; omega, Sub.cons rfl (Sub.cons rfl (Sub.cons rfl (Sub.cons rfl (Sub.nil _)))), Ent.refl⟩
      · have h2 : f.1.kind ≠ 3 := ne_of_beq_false h2
        (repeat (first | refine VC.seq ?_ | refine VC.region ?_ | refine VC.block ?_ | refine VC.label ?_ | refine VC.scope ?_ | refine VO.go (VO.nil ?_) | refine VO.go (VO.ld 0 rfl rfl rfl rfl ?_)))
        iterate 3 refine VO.go (VO.offU rfl rfl rfl ?_)
        refine VO.go (VO.nil ⟨false, by simp [bad, h1, h2], Sub.cons rfl (Sub.cons rfl (Sub.cons rfl (Sub.cons rfl (Sub.nil _)))), Ent.refl⟩)
  intro t ht
  refine VC.cond rfl (fun h1 => ?_) (fun h1 => VC.skip ?_)
  · rw [h1] at ht
    (repeat (first | refine VC.seq ?_ | refine VC.region ?_ | refine VC.block ?_ | refine VC.label ?_ | refine VC.scope ?_ | refine VO.go (VO.nil ?_) | refine VO.go (VO.ld 0 rfl rfl rfl rfl ?_)))
    exact VC.ret (Ret.tmp2 6 7 rfl rfl rfl Imp.nil.ent ⟨fun _ => ⟨rfl, rfl⟩, fun h => (by rw [← ht] at h; cases h)⟩)
  · rw [h1] at ht
    have hnf : ∀ {a2 : Option Addr} {c2 : Nat}, slH 39 29 a2 (0 + r.xs.length + 1) c2 ([] ++ flat fgc r.xs ++ fgc f) = slH 39 29 a2 (r.xs ++ [f]).length c2 (flat fgc (r.xs ++ [f])) := fun {a2 c2} => by simp [flat_append, flat_cons, flat_nil]
    have hvl : ∀ {a2 : Option Addr} {c2 : Nat}, Value.slice a2 (0 + r.xs.length + 1) c2 = Value.slice a2 (r.xs ++ [f]).length c2 := fun {a2 c2} => by simp
    refine VC.meet (σ := GL) (fun r' => [(6, r'.v), (7, .int .i64 0)]) (fun r' => [r'.h 39]) (fun r' => r'.Ok fgc 29 ∧ r'.xs = r.xs ++ [f]) ?_ ?_
    · refine VC.draw (ts 0 1 (.take 2 (.two 1 3 (.only 3 (.only 4 (.take 5 (.take 6 .nil)))) (.only 1 (.only 4 (.take 5 (.take 6 .nil))))))) (by kernel_rfl) (by decide +kernel) ?_
      (repeat (first | refine VA.go (VA.nil ?_) | refine VA.go (VA.ld 0 rfl rfl rfl rfl rfl ?_)))
      refine VA.go (VA.ldA 0 (fgc f) rfl rfl rfl rfl rfl ?_)
      refine VA.ent (L' := slH 39 29 none 0 0 [] :: pt b (fgc f) 39 :: []) (Imp.slNil Imp.refl).ent ?_
      refine VA.go (VA.two rfl rfl rfl rfl rfl (OpT.append (m := r.xs.length) (news := flat fgc r.xs) 0 rfl rfl rfl rfl rfl rfl rfl (RlIn.row hr hok) (flat_all fgc_one _) (by show (0 + r.xs.length) * 288 ≤ _; omega) (by omega))
        rfl rfl rfl (OpT.buildSlice (n := 1) (pv := [(0, .agg (fgc f).toArray)]) (cells := fgc f) rfl rfl rfl rfl (by decide) (fill_one rfl rfl rfl)) ?_ ?_ ?_ ?_)
      · rintro v L' ⟨a1, c1, rfl, hc1, rfl⟩
        exact (by (try refine Pd.st ?_); (repeat (first | exact Pd.nil | exact Pd.fnil | refine Pd.inner ?_ | refine Pd.skip (by decide +kernel) ?_ | refine Pd.fcons (RdL.one 0 rfl rfl) ?_ | refine Pd.fcons (RdL.one 1 rfl rfl) ?_ | refine Pd.fcons (RdL.one 2 rfl rfl) ?_ | refine Pd.fcons (RdL.many 0 rfl rfl) ?_ | refine Pd.fcons (RdL.many 1 rfl rfl) ?_ | refine Pd.fcons (RdL.many 2 rfl rfl) ?_ | refine Pd.cons (RdL.one 0 rfl rfl) ?_ | refine Pd.cons (RdL.one 1 rfl rfl) ?_ | refine Pd.cons (RdL.one 2 rfl rfl) ?_ | refine Pd.cons (RdL.many 0 rfl rfl) ?_ | refine Pd.cons (RdL.many 1 rfl rfl) ?_ | refine Pd.cons (RdL.many 2 rfl rfl) ?_)))
      · rintro v L' ⟨nb, rfl, rfl⟩
        exact (by (try refine Pd.st ?_); (repeat (first | exact Pd.nil | exact Pd.fnil | refine Pd.inner ?_ | refine Pd.skip (by decide +kernel) ?_ | refine Pd.fcons (RdL.one 0 rfl rfl) ?_ | refine Pd.fcons (RdL.one 1 rfl rfl) ?_ | refine Pd.fcons (RdL.one 2 rfl rfl) ?_ | refine Pd.fcons (RdL.one 3 rfl rfl) ?_ | refine Pd.fcons (RdL.many 0 rfl rfl) ?_ | refine Pd.fcons (RdL.many 1 rfl rfl) ?_ | refine Pd.fcons (RdL.many 2 rfl rfl) ?_ | refine Pd.fcons (RdL.many 3 rfl rfl) ?_ | refine Pd.cons (RdL.one 0 rfl rfl) ?_ | refine Pd.cons (RdL.one 1 rfl rfl) ?_ | refine Pd.cons (RdL.one 2 rfl rfl) ?_ | refine Pd.cons (RdL.one 3 rfl rfl) ?_ | refine Pd.cons (RdL.many 0 rfl rfl) ?_ | refine Pd.cons (RdL.many 1 rfl rfl) ?_ | refine Pd.cons (RdL.many 2 rfl rfl) ?_ | refine Pd.cons (RdL.many 3 rfl rfl) ?_)))
      · rintro v L' ⟨a1, c1, rfl, hc1, rfl⟩
        refine VA.go (VA.opP (OpT.buildSlice (n := 1) (pv := [(0, .agg (fgc f).toArray)]) (cells := fgc f) rfl rfl rfl rfl (by decide) (fill_one rfl rfl rfl)) rfl ?_ ?_)
        · rintro v L' ⟨nb, rfl, rfl⟩
          exact (by (try refine Pd.st ?_); (repeat (first | exact Pd.nil | exact Pd.fnil | refine Pd.inner ?_ | refine Pd.skip (by decide +kernel) ?_ | refine Pd.fcons (RdL.one 0 rfl rfl) ?_ | refine Pd.fcons (RdL.one 1 rfl rfl) ?_ | refine Pd.fcons (RdL.one 2 rfl rfl) ?_ | refine Pd.fcons (RdL.one 3 rfl rfl) ?_ | refine Pd.fcons (RdL.many 0 rfl rfl) ?_ | refine Pd.fcons (RdL.many 1 rfl rfl) ?_ | refine Pd.fcons (RdL.many 2 rfl rfl) ?_ | refine Pd.fcons (RdL.many 3 rfl rfl) ?_ | refine Pd.cons (RdL.one 0 rfl rfl) ?_ | refine Pd.cons (RdL.one 1 rfl rfl) ?_ | refine Pd.cons (RdL.one 2 rfl rfl) ?_ | refine Pd.cons (RdL.one 3 rfl rfl) ?_ | refine Pd.cons (RdL.many 0 rfl rfl) ?_ | refine Pd.cons (RdL.many 1 rfl rfl) ?_ | refine Pd.cons (RdL.many 2 rfl rfl) ?_ | refine Pd.cons (RdL.many 3 rfl rfl) ?_)))
        rintro v L' ⟨nb, rfl, rfl⟩
        refine VA.go (VA.opP (OpT.append (m := 1) (news := fgc f) 1 rfl rfl rfl rfl rfl rfl rfl (RdRow.pt 0 rfl rfl rfl) rfl (by show (0 + r.xs.length + 1) * 288 ≤ _; omega) (by omega)) rfl ?_ ?_)
        · rintro v L' ⟨a2, c2, rfl, hc2, rfl⟩
          exact (by (try refine Pd.st ?_); (repeat (first | exact Pd.nil | exact Pd.fnil | refine Pd.inner ?_ | refine Pd.skip (by decide +kernel) ?_ | refine Pd.fcons (RdL.one 0 rfl rfl) ?_ | refine Pd.fcons (RdL.one 1 rfl rfl) ?_ | refine Pd.fcons (RdL.one 2 rfl rfl) ?_ | refine Pd.fcons (RdL.one 3 rfl rfl) ?_ | refine Pd.fcons (RdL.many 0 rfl rfl) ?_ | refine Pd.fcons (RdL.many 1 rfl rfl) ?_ | refine Pd.fcons (RdL.many 2 rfl rfl) ?_ | refine Pd.fcons (RdL.many 3 rfl rfl) ?_ | refine Pd.cons (RdL.one 0 rfl rfl) ?_ | refine Pd.cons (RdL.one 1 rfl rfl) ?_ | refine Pd.cons (RdL.one 2 rfl rfl) ?_ | refine Pd.cons (RdL.one 3 rfl rfl) ?_ | refine Pd.cons (RdL.many 0 rfl rfl) ?_ | refine Pd.cons (RdL.many 1 rfl rfl) ?_ | refine Pd.cons (RdL.many 2 rfl rfl) ?_ | refine Pd.cons (RdL.many 3 rfl rfl) ?_)))
        rintro v L' ⟨a2, c2, rfl, hc2, rfl⟩
        refine VA.ent (L' := slH 39 29 a2 (r.xs ++ [f]).length c2 (flat fgc (r.xs ++ [f])) :: pt nb (fgc f) 39 :: pt b (fgc f) 39 :: []) (Imp.of_eq (by rw [← hnf]; rfl)).ent ?_
        refine VA.exs _ _ (HOpn.st 0 rfl (HOpn.rl _ a2 c2 (r.xs ++ [f]) fgc_len)) ?_
        rintro r' ⟨hok', hv', hx'⟩
        refine VA.go (VA.nil ?_)
        exact ⟨r', ⟨hok', hx'⟩, Sub.cons (by rw [hv']; show some (Value.slice a2 (0 + r.xs.length + 1) c2) = _; rw [hvl]) (Sub.cons rfl (Sub.nil _)), (Imp.pick 0 rfl Imp.nil).ent⟩
      · rintro v L' ⟨nb, rfl, rfl⟩
        refine VA.go (VA.opP (OpT.append (m := r.xs.length) (news := flat fgc r.xs) 1 rfl rfl rfl rfl rfl rfl rfl (RlIn.row hr hok) (flat_all fgc_one _) (by show (0 + r.xs.length) * 288 ≤ _; omega) (by omega)) rfl ?_ ?_)
        · rintro v L' ⟨a1, c1, rfl, hc1, rfl⟩
          exact (by (try refine Pd.st ?_); (repeat (first | exact Pd.nil | exact Pd.fnil | refine Pd.inner ?_ | refine Pd.skip (by decide +kernel) ?_ | refine Pd.fcons (RdL.one 0 rfl rfl) ?_ | refine Pd.fcons (RdL.one 1 rfl rfl) ?_ | refine Pd.fcons (RdL.one 2 rfl rfl) ?_ | refine Pd.fcons (RdL.one 3 rfl rfl) ?_ | refine Pd.fcons (RdL.many 0 rfl rfl) ?_ | refine Pd.fcons (RdL.many 1 rfl rfl) ?_ | refine Pd.fcons (RdL.many 2 rfl rfl) ?_ | refine Pd.fcons (RdL.many 3 rfl rfl) ?_ | refine Pd.cons (RdL.one 0 rfl rfl) ?_ | refine Pd.cons (RdL.one 1 rfl rfl) ?_ | refine Pd.cons (RdL.one 2 rfl rfl) ?_ | refine Pd.cons (RdL.one 3 rfl rfl) ?_ | refine Pd.cons (RdL.many 0 rfl rfl) ?_ | refine Pd.cons (RdL.many 1 rfl rfl) ?_ | refine Pd.cons (RdL.many 2 rfl rfl) ?_ | refine Pd.cons (RdL.many 3 rfl rfl) ?_)))
        rintro v L' ⟨a1, c1, rfl, hc1, rfl⟩
        refine VA.go (VA.opP (OpT.append (m := 1) (news := fgc f) 0 rfl rfl rfl rfl rfl rfl rfl (RdRow.pt 1 rfl rfl rfl) rfl (by show (0 + r.xs.length + 1) * 288 ≤ _; omega) (by omega)) rfl ?_ ?_)
        · rintro v L' ⟨a2, c2, rfl, hc2, rfl⟩
          exact (by (try refine Pd.st ?_); (repeat (first | exact Pd.nil | exact Pd.fnil | refine Pd.inner ?_ | refine Pd.skip (by decide +kernel) ?_ | refine Pd.fcons (RdL.one 0 rfl rfl) ?_ | refine Pd.fcons (RdL.one 1 rfl rfl) ?_ | refine Pd.fcons (RdL.one 2 rfl rfl) ?_ | refine Pd.fcons (RdL.one 3 rfl rfl) ?_ | refine Pd.fcons (RdL.many 0 rfl rfl) ?_ | refine Pd.fcons (RdL.many 1 rfl rfl) ?_ | refine Pd.fcons (RdL.many 2 rfl rfl) ?_ | refine Pd.fcons (RdL.many 3 rfl rfl) ?_ | refine Pd.cons (RdL.one 0 rfl rfl) ?_ | refine Pd.cons (RdL.one 1 rfl rfl) ?_ | refine Pd.cons (RdL.one 2 rfl rfl) ?_ | refine Pd.cons (RdL.one 3 rfl rfl) ?_ | refine Pd.cons (RdL.many 0 rfl rfl) ?_ | refine Pd.cons (RdL.many 1 rfl rfl) ?_ | refine Pd.cons (RdL.many 2 rfl rfl) ?_ | refine Pd.cons (RdL.many 3 rfl rfl) ?_)))
        rintro v L' ⟨a2, c2, rfl, hc2, rfl⟩
        refine VA.ent (L' := slH 39 29 a2 (r.xs ++ [f]).length c2 (flat fgc (r.xs ++ [f])) :: pt nb (fgc f) 39 :: pt b (fgc f) 39 :: []) (Imp.of_eq (by rw [← hnf]; rfl)).ent ?_
        refine VA.exs _ _ (HOpn.st 0 rfl (HOpn.rl _ a2 c2 (r.xs ++ [f]) fgc_len)) ?_
        rintro r' ⟨hok', hv', hx'⟩
        refine VA.go (VA.nil ?_)
        exact ⟨r', ⟨hok', hx'⟩, Sub.cons (by rw [hv']; show some (Value.slice a2 (0 + r.xs.length + 1) c2) = _; rw [hvl]) (Sub.cons rfl (Sub.nil _)), (Imp.pick 0 rfl Imp.nil).ent⟩
    rintro r' ⟨hok', hx'⟩
    (repeat (first | refine VC.seq ?_ | refine VC.region ?_ | refine VC.block ?_ | refine VC.label ?_ | refine VC.scope ?_ | refine VO.go (VO.nil ?_) | refine VO.go (VO.ld 0 rfl rfl rfl rfl ?_)))
    exact VC.ret (Ret.tmp2 6 7 rfl rfl rfl Ent.refl ⟨fun h => (by rw [← ht] at h; cases h), fun _ => ⟨r', rfl, rfl, hok', hx'⟩⟩)
end Go.Proofs.YtoinocihlfmnnaaDoor.Met
