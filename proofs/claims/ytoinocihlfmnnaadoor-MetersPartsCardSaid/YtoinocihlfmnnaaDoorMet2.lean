/- Meters: made, shown a frame, copied. No condition but that no counter is great. -/
import Derived.Test.YtoinocihlfmnnaaDoorMet
namespace Go.Proofs.YtoinocihlfmnnaaDoor.Met
open Go Go.Proofs.YtoinocihlfmnnaaDoor.Vg Go.Proofs.YtoinocihlfmnnaaDoor.T Go.Proofs.YtoinocihlfmnnaaDoor.Api Go.Proofs.YtoinocihlfmnnaaDoor.Cnt
set_option linter.unusedSimpArgs false
set_option linter.unusedVariables false
attribute [local irreducible] VO VC VA

/-- A frame, its members wherever they lie. -/
abbrev FG := FrameM × (Option Addr × Nat × Nat)
def fgc (p : FG) : List Value :=
  [.int .i64 p.1.kind, .int .i64 p.1.epoch, .int .i64 p.1.client, .int .i64 p.1.seq, .int .i64 p.1.try_, .int .i64 p.1.cls, .int .i64 p.1.deadline,
   .int .i64 p.1.op.kind, .string p.1.op.key, .string p.1.op.value, .int .i64 p.1.op.version,
   .int .i64 p.1.res.code, .string p.1.res.value, .int .i64 p.1.res.version, .int .i64 p.1.res.at_, .int .i64 p.1.reason,
   .int .i64 p.1.entry.index, .int .i64 p.1.entry.client, .int .i64 p.1.entry.seq, .int .i64 p.1.entry.op.kind, .string p.1.entry.op.key, .string p.1.entry.op.value, .int .i64 p.1.entry.op.version,
   .int .i64 p.1.cepoch, .slice p.2.1 p.2.2.1 p.2.2.2, .int .i64 p.1.drain, .int .i64 p.1.index, .int .i64 p.1.grant, .int .i64 p.1.have_]
theorem fgc_len (p : FG) : (fgc p).length = 29 := rfl
theorem fgc_one (p : FG) : (fgc p).all Value.oneCell' = true := rfl
def fgz : FG := (FrameM.zero, none, 0, 0)
theorem fgz_cells : T.t39.zs = fgc fgz := rfl

theorem new_ok {c : Nat} (h1 : 1 ≤ c) (h2 : c ≤ 4) : (MM.new c).Ok := ⟨h1, h2, by simp [MM.new], fun x hx => by simp [MM.new] at hx; omega⟩
theorem new_spec (Fr : Nat → Prop) (w : World) (c : Nat) (h1 : 1 ≤ c) (h2 : c ≤ 4) : Tri Tryd.prog 11 [.int .i64 c] Fr w [] (fun v L => ∃ p, v = .tuple #[.pointer (some ⟨p, 0, none⟩), .int .i64 0] ∧ L = [mtH p (MM.new c)]) := by
  refine Tri.of 27 Tryd.func11 rfl (by kernel_rfl) tabOk rfl rfl ?_
  (repeat (first | refine VC.seq ?_ | refine VC.region ?_ | refine VC.block ?_ | refine VC.label ?_ | refine VC.scope ?_ | refine VO.go (VO.nil ?_) | refine VO.go (VO.ld 0 rfl rfl rfl rfl ?_)))
  refine VO.go (VO.yes 8 false rfl (decide_eq_false (by omega)) ?_)
  (repeat (first | refine VC.seq ?_ | refine VC.region ?_ | refine VC.block ?_ | refine VC.label ?_ | refine VC.scope ?_ | refine VO.go (VO.nil ?_) | refine VO.go (VO.ld 0 rfl rfl rfl rfl ?_)))
  refine VC.condF (congrArg (fun b => some (Value.bool b)) (decide_eq_false (by omega))) (VC.skip ?_)
  (repeat (first | refine VC.seq ?_ | refine VC.region ?_ | refine VC.block ?_ | refine VC.label ?_ | refine VC.scope ?_ | refine VO.go (VO.nil ?_) | refine VO.go (VO.ld 0 rfl rfl rfl rfl ?_)))
  refine VO.go (VO.mul rfl rfl (by omega) (by omega) ?_)
  refine VO.go (VO.add rfl rfl (by omega) (by omega) ?_)
  refine VO.go (VO.arith ((2 * c + 11 : Nat) : Int) rfl rfl (by dsimp only; rw [i64_in _ (by omega) (by omega)]; omega) ?_)
  refine VO.go (VO.call0 rfl (fun Fr w => Cnt.new_spec Fr w (2 * c + 11) (by omega) (by omega)) ?_)
  rintro _ _ ⟨q, r, rfl, rfl⟩
  (repeat (first | refine VC.seq ?_ | refine VC.region ?_ | refine VC.block ?_ | refine VC.label ?_ | refine VC.scope ?_ | refine VO.go (VO.nil ?_) | refine VO.go (VO.ld 0 rfl rfl rfl rfl ?_)))
  refine VC.condF rfl (VC.skip ?_)
  (repeat (first | refine VC.seq ?_ | refine VC.region ?_ | refine VC.block ?_ | refine VC.label ?_ | refine VC.scope ?_ | refine VO.go (VO.nil ?_) | refine VO.go (VO.ld 0 rfl rfl rfl rfl ?_)))
  refine VO.go (VO.light (light_build (pv := [(0, .int .i64 c), (1, .pointer (some ⟨q, 0, none⟩))]) [.int .i64 c, .pointer (some ⟨q, 0, none⟩)] rfl rfl rfl rfl rfl) ?_)
  refine VO.go (VO.boxA (vs := [.int .i64 c, .pointer (some ⟨q, 0, none⟩)]) rfl fun p => ?_)
  (repeat (first | refine VC.seq ?_ | refine VC.region ?_ | refine VC.block ?_ | refine VC.label ?_ | refine VC.scope ?_ | refine VO.go (VO.nil ?_) | refine VO.go (VO.ld 0 rfl rfl rfl rfl ?_)))
  exact VC.ret (Ret.tmp2 2 3 rfl rfl rfl (Imp.mt (M := MM.new c) (by simp [MM.new]) Imp.nil).ent ⟨p, rfl, rfl⟩)
theorem new_bad (Fr : Nat → Prop) (w : World) (c : Int) (h : c < 1 ∨ 4 < c) : Tri Tryd.prog 11 [.int .i64 c] Fr w [] (fun v L => v = .tuple #[.pointer none, .int .i64 2] ∧ L = []) := by
  refine Tri.of 27 Tryd.func11 rfl (by kernel_rfl) tabOk rfl rfl ?_
  (repeat (first | refine VC.seq ?_ | refine VC.region ?_ | refine VC.block ?_ | refine VC.label ?_ | refine VC.scope ?_ | refine VO.go (VO.nil ?_) | refine VO.go (VO.ld 0 rfl rfl rfl rfl ?_)))
  refine VO.go (VO.split 8 rfl rfl (fun h1 => ?_) (fun h1 => ?_))
  · (repeat (first | refine VC.seq ?_ | refine VC.region ?_ | refine VC.block ?_ | refine VC.label ?_ | refine VC.scope ?_ | refine VO.go (VO.nil ?_) | refine VO.go (VO.ld 0 rfl rfl rfl rfl ?_)))
    refine VC.condT rfl ?_
    (repeat (first | refine VC.seq ?_ | refine VC.region ?_ | refine VC.block ?_ | refine VC.label ?_ | refine VC.scope ?_ | refine VO.go (VO.nil ?_) | refine VO.go (VO.ld 0 rfl rfl rfl rfl ?_)))
    exact VC.ret (Ret.tmp2 2 3 rfl rfl rfl Ent.refl ⟨rfl, rfl⟩)
  · have h1 := of_decide_eq_false h1
    (repeat (first | refine VC.seq ?_ | refine VC.region ?_ | refine VC.block ?_ | refine VC.label ?_ | refine VC.scope ?_ | refine VO.go (VO.nil ?_) | refine VO.go (VO.ld 0 rfl rfl rfl rfl ?_)))
    refine VC.condT (congrArg (fun b => some (Value.bool b)) (decide_eq_true (by omega))) ?_
    (repeat (first | refine VC.seq ?_ | refine VC.region ?_ | refine VC.block ?_ | refine VC.label ?_ | refine VC.scope ?_ | refine VO.go (VO.nil ?_) | refine VO.go (VO.ld 0 rfl rfl rfl rfl ?_)))
    exact VC.ret (Ret.tmp2 2 3 rfl rfl rfl Ent.refl ⟨rfl, rfl⟩)

theorem add_len (M : MM) (i : Nat) (y : Int) : (M.add i y).l.length = M.l.length := by simp [MM.add]
theorem add_at_ne {M : MM} {i j : Nat} (y : Int) (h : i ≠ j) : (M.add i y).at_ j = M.at_ j := by
  unfold MM.at_ MM.add
  rw [List.getD_eq_getElem?_getD, List.getD_eq_getElem?_getD, List.getElem?_set_ne h]
theorem add_at {M : MM} {i : Nat} (y : Int) (h : i < M.l.length) : (M.add i y).at_ i = M.at_ i + y := by
  unfold MM.add
  show (List.set _ _ _).getD i 0 = _
  rw [List.getD_eq_getElem?_getD, List.getElem?_set_self h]; rfl
theorem opCost_le (o : OpM) : 0 ≤ opCost o ∧ opCost o ≤ 96 := by
  unfold opCost
  split
  · rename_i h
    have hl : opLong o = false := by
      unfold opCheck at h
      cases hb : opBad o
      · rw [hb] at h
        simp only [Bool.false_eq_true, if_false] at h
        cases hl : opLong o
        · rfl
        · rw [hl] at h; simp at h
      · rw [hb] at h; simp at h
    simp [opLong] at hl
    omega
  · omega

set_option maxRecDepth 100000 in
theorem see_spec (Fr : Nat → Prop) (w : World) {p : Nat} {M : MM} (hM : M.Ok) (f : FG) : Tri Tryd.prog 12 [.pointer (some ⟨p, 0, none⟩), .agg (fgc f).toArray] Fr w [mtH p M]
    (fun v L => v = .int .i64 (M.see f.1).2 ∧ L = [mtH p (M.see f.1).1]) := by
  have hl := hM.len
  have hc1 := hM.c1
  have hc4 := hM.c4
  refine Tri.of 68 Tryd.func12 rfl (by kernel_rfl) tabOk rfl rfl ?_
  (repeat (first | refine VC.seq ?_ | refine VC.region ?_ | refine VC.block ?_ | refine VC.label ?_ | refine VC.scope ?_ | refine VO.go (VO.nil ?_) | refine VO.go (VO.ld 0 rfl rfl rfl rfl ?_)))
  refine VO.go (VO.boxA (vs := fgc f) rfl fun b => ?_)
  (repeat (first | refine VC.seq ?_ | refine VC.region ?_ | refine VC.block ?_ | refine VC.label ?_ | refine VC.scope ?_ | refine VO.go (VO.nil ?_) | refine VO.go (VO.ld 0 rfl rfl rfl rfl ?_)))
  refine VO.opn 1 rfl (HOpn.mt p M) ?_
  rintro ⟨q, r⟩ _
  refine VO.go (VO.callV' (fun Fr w hF hs hS => made_spec Fr w (hS.blk 0 rfl)) rfl ?_)
  (repeat (first | refine VC.seq ?_ | refine VC.region ?_ | refine VC.block ?_ | refine VC.label ?_ | refine VC.scope ?_ | refine VO.go (VO.nil ?_) | refine VO.go (VO.ld 0 rfl rfl rfl rfl ?_)))
  refine VC.condF rfl (VC.skip ?_)
  (repeat (first | refine VC.seq ?_ | refine VC.region ?_ | refine VC.block ?_ | refine VC.label ?_ | refine VC.scope ?_ | refine VO.go (VO.nil ?_) | refine VO.go (VO.ld 0 rfl rfl rfl rfl ?_) | refine VO.go (VO.ld 1 rfl rfl rfl rfl ?_) | refine VO.go (VO.ld 2 rfl rfl rfl rfl ?_) | refine VO.go (VO.ld 3 rfl rfl rfl rfl ?_)))
  refine VC.condE rfl (fun h1 => ?_) (fun h1 => ?_)
  · (repeat (first | refine VC.seq ?_ | refine VC.region ?_ | refine VC.block ?_ | refine VC.label ?_ | refine VC.scope ?_ | refine VO.go (VO.nil ?_) | refine VO.go (VO.ld 0 rfl rfl rfl rfl ?_) | refine VO.go (VO.ld 1 rfl rfl rfl rfl ?_) | refine VO.go (VO.ld 2 rfl rfl rfl rfl ?_) | refine VO.go (VO.ld 3 rfl rfl rfl rfl ?_)))
    refine VO.go (VO.callV' (fun Fr w hF hs hS => isClass_spec Fr w ⟨hS.blk 0 rfl, hS.blk 1 rfl, hS.blk 2 rfl⟩ f.1.cls) rfl ?_)
    (repeat (first | refine VC.seq ?_ | refine VC.region ?_ | refine VC.block ?_ | refine VC.label ?_ | refine VC.scope ?_ | refine VO.go (VO.nil ?_) | refine VO.go (VO.ld 0 rfl rfl rfl rfl ?_)))
    refine VC.condN rfl (fun h2 => ?_) (fun h2 => VC.skip ?_)
    · have h2 := of_decide_eq_false h2
      (repeat (first | refine VC.seq ?_ | refine VC.region ?_ | refine VC.block ?_ | refine VC.label ?_ | refine VC.scope ?_ | refine VO.go (VO.nil ?_) | refine VO.go (VO.ld 0 rfl rfl rfl rfl ?_)))
      exact VC.ret (Ret.int 4 rfl rfl (by simp only [MM.see, if_pos h1, if_neg h2]) (Imp.mt rfl Imp.nil).ent ⟨rfl, by simp only [MM.see, if_pos h1, if_neg h2]⟩)
    · have h2 := of_decide_eq_true h2
      obtain ⟨k, hk⟩ := Int.eq_ofNat_of_zero_le h2.1
      have hkt : f.1.cls.toNat = k := by omega
      have hx := MM.at_some (M := M) (i := 2 * k) (by omega)
      have hx0 := hM.at_ (2 * k)
      have hx1 := hM.at_ (2 * k + 1)
      have hy := MM.at_some (M := M.add (2 * k) 1) (i := 2 * k + 1) (by rw [add_len]; omega)
      rw [add_at_ne 1 (by omega)] at hy
      have hco := opCost_le f.1.op
      refine VC.seq (VC.draw (ts 0 7 (.only 7 .nil)) (by kernel_rfl) (by kernel_rfl) ?_)
      (repeat (first | refine VA.go (VA.nil ?_) | refine VA.go (VA.ld 0 rfl rfl rfl rfl rfl ?_) | refine VA.go (VA.ld 1 rfl rfl rfl rfl rfl ?_) | refine VA.go (VA.ld 2 rfl rfl rfl rfl rfl ?_) | refine VA.go (VA.ld 3 rfl rfl rfl rfl rfl ?_)))
      refine VA.go (VA.arith ((2 * k : Nat) : Int) rfl rfl rfl (by dsimp only; rw [i64_in _ (by omega) (by omega)]; omega) ?_)
      refine VA.go (VA.callAt 2 rfl (fun Fr w hF hs hS => add_spec Fr w (hS.blk 1 rfl) (2 * k) _ 1 hx (by omega) (by omega) (by omega) (by omega)) rfl rfl (ψ := fun v H => H = pt r (iv (M.add (2 * k) 1).l) 118) (fun v L h => ⟨_, h.2, rfl⟩) (fun v H' hH => by subst hH; exact (by (try refine Pd.st ?_); (repeat (first | exact Pd.nil | exact Pd.fnil | refine Pd.inner ?_ | refine Pd.skip (by decide +kernel) ?_ | refine Pd.fcons (RdL.one 0 rfl rfl) ?_ | refine Pd.fcons (RdL.one 1 rfl rfl) ?_ | refine Pd.fcons (RdL.one 2 rfl rfl) ?_ | refine Pd.fcons (RdL.one 3 rfl rfl) ?_ | refine Pd.fcons (RdL.many 0 rfl rfl) ?_ | refine Pd.fcons (RdL.many 1 rfl rfl) ?_ | refine Pd.fcons (RdL.many 2 rfl rfl) ?_ | refine Pd.fcons (RdL.many 3 rfl rfl) ?_ | refine Pd.cons (RdL.one 0 rfl rfl) ?_ | refine Pd.cons (RdL.one 1 rfl rfl) ?_ | refine Pd.cons (RdL.one 2 rfl rfl) ?_ | refine Pd.cons (RdL.one 3 rfl rfl) ?_ | refine Pd.cons (RdL.many 0 rfl rfl) ?_ | refine Pd.cons (RdL.many 1 rfl rfl) ?_ | refine Pd.cons (RdL.many 2 rfl rfl) ?_ | refine Pd.cons (RdL.many 3 rfl rfl) ?_)))) ?_)
      rintro v _ rfl
      (repeat (first | refine VA.go (VA.nil ?_) | refine VA.go (VA.ld 0 rfl rfl rfl rfl rfl ?_)))
      refine VC.draw (ts 0 10 (.only 10 (.only 11 .nil))) (by kernel_rfl) (by kernel_rfl) ?_
      (repeat (first | refine VA.go (VA.nil ?_) | refine VA.go (VA.ld 0 rfl rfl rfl rfl rfl ?_) | refine VA.go (VA.ld 1 rfl rfl rfl rfl rfl ?_) | refine VA.go (VA.ld 2 rfl rfl rfl rfl rfl ?_) | refine VA.go (VA.ld 3 rfl rfl rfl rfl rfl ?_)))
      refine VA.go (VA.arith ((2 * k : Nat) : Int) rfl rfl rfl (by dsimp only; rw [i64_in _ (by omega) (by omega)]; omega) ?_)
      refine VA.go (VA.arith ((2 * k + 1 : Nat) : Int) rfl rfl rfl (by dsimp only; rw [i64_in _ (by omega) (by omega)]; omega) ?_)
      refine VA.go (VA.ldA 3 f.1.op.cells rfl rfl rfl rfl rfl ?_)
      refine VA.go (VA.callR (fun Fr w _ _ _ => cost_spec Fr w f.1.op) rfl rfl (by (try refine Pd.st ?_); (repeat (first | exact Pd.nil | exact Pd.fnil | refine Pd.inner ?_ | refine Pd.skip (by decide +kernel) ?_ | refine Pd.fcons (RdL.one 0 rfl rfl) ?_ | refine Pd.fcons (RdL.one 1 rfl rfl) ?_ | refine Pd.fcons (RdL.one 2 rfl rfl) ?_ | refine Pd.fcons (RdL.one 3 rfl rfl) ?_ | refine Pd.fcons (RdL.many 0 rfl rfl) ?_ | refine Pd.fcons (RdL.many 1 rfl rfl) ?_ | refine Pd.fcons (RdL.many 2 rfl rfl) ?_ | refine Pd.fcons (RdL.many 3 rfl rfl) ?_ | refine Pd.cons (RdL.one 0 rfl rfl) ?_ | refine Pd.cons (RdL.one 1 rfl rfl) ?_ | refine Pd.cons (RdL.one 2 rfl rfl) ?_ | refine Pd.cons (RdL.one 3 rfl rfl) ?_ | refine Pd.cons (RdL.many 0 rfl rfl) ?_ | refine Pd.cons (RdL.many 1 rfl rfl) ?_ | refine Pd.cons (RdL.many 2 rfl rfl) ?_ | refine Pd.cons (RdL.many 3 rfl rfl) ?_))) ?_)
      refine VA.go (VA.callAt 2 rfl (fun Fr w hF hs hS => add_spec (l := (M.add (2 * k) 1).l) Fr w (by rw [add_len]; exact hS.blk 1 rfl) (2 * k + 1) _ (opCost f.1.op) hy (by omega) (by omega) (by omega) (by omega)) rfl rfl (ψ := fun v H => H = pt r (iv ((M.add (2 * k) 1).add (2 * k + 1) (opCost f.1.op)).l) 118) (fun v L h => ⟨_, h.2, by rw [show ((M.add (2 * k) 1).add (2 * k + 1) (opCost f.1.op)).l = (M.add (2 * k) 1).l.set (2 * k + 1) ((M.add (2 * k) 1).at_ (2 * k + 1) + opCost f.1.op) from rfl, add_at_ne 1 (by omega)]⟩) (fun v H' hH => by subst hH; exact (by (try refine Pd.st ?_); (repeat (first | exact Pd.nil | exact Pd.fnil | refine Pd.inner ?_ | refine Pd.skip (by decide +kernel) ?_ | refine Pd.fcons (RdL.one 0 rfl rfl) ?_ | refine Pd.fcons (RdL.one 1 rfl rfl) ?_ | refine Pd.fcons (RdL.one 2 rfl rfl) ?_ | refine Pd.fcons (RdL.one 3 rfl rfl) ?_ | refine Pd.fcons (RdL.many 0 rfl rfl) ?_ | refine Pd.fcons (RdL.many 1 rfl rfl) ?_ | refine Pd.fcons (RdL.many 2 rfl rfl) ?_ | refine Pd.fcons (RdL.many 3 rfl rfl) ?_ | refine Pd.cons (RdL.one 0 rfl rfl) ?_ | refine Pd.cons (RdL.one 1 rfl rfl) ?_ | refine Pd.cons (RdL.one 2 rfl rfl) ?_ | refine Pd.cons (RdL.one 3 rfl rfl) ?_ | refine Pd.cons (RdL.many 0 rfl rfl) ?_ | refine Pd.cons (RdL.many 1 rfl rfl) ?_ | refine Pd.cons (RdL.many 2 rfl rfl) ?_ | refine Pd.cons (RdL.many 3 rfl rfl) ?_)))) ?_)
      rintro v2 _ rfl
      (repeat (first | refine VA.go (VA.nil ?_) | refine VA.go (VA.ld 0 rfl rfl rfl rfl rfl ?_)))
      (repeat (first | refine VC.seq ?_ | refine VC.region ?_ | refine VC.block ?_ | refine VC.label ?_ | refine VC.scope ?_ | refine VO.go (VO.nil ?_) | refine VO.go (VO.ld 0 rfl rfl rfl rfl ?_)))
      exact VC.ret (Ret.int 4 rfl rfl (by simp only [MM.see, if_pos h1, if_pos h2]) (Imp.mt (M := (M.add (2 * k) 1).add (2 * k + 1) (opCost f.1.op)) (by rw [add_len, add_len]) Imp.nil).ent ⟨rfl, by simp only [MM.see, if_pos h1, if_pos h2, hkt]⟩)
  (repeat (first | refine VC.seq ?_ | refine VC.region ?_ | refine VC.block ?_ | refine VC.label ?_ | refine VC.scope ?_ | refine VO.go (VO.nil ?_) | refine VO.go (VO.ld 0 rfl rfl rfl rfl ?_)))
  refine VC.condE rfl (fun h2 => ?_) (fun h2 => ?_)
  · have hx := MM.at_some (M := M) (i := 2 * M.c) (by omega)
    have hx0 := hM.at_ (2 * M.c)
    refine VC.draw (ts 0 9 (.only 9 .nil)) (by kernel_rfl) (by kernel_rfl) ?_
    (repeat (first | refine VA.go (VA.nil ?_) | refine VA.go (VA.ld 0 rfl rfl rfl rfl rfl ?_) | refine VA.go (VA.ld 1 rfl rfl rfl rfl rfl ?_) | refine VA.go (VA.ld 2 rfl rfl rfl rfl rfl ?_) | refine VA.go (VA.ld 3 rfl rfl rfl rfl rfl ?_)))
    refine VA.go (VA.arith ((2 * M.c : Nat) : Int) rfl rfl rfl (by dsimp only; rw [i64_in _ (by omega) (by omega)]; omega) ?_)
    refine VA.go (VA.callAt 2 rfl (fun Fr w hF hs hS => add_spec Fr w (hS.blk 1 rfl) (2 * M.c) _ 1 hx (by omega) (by omega) (by omega) (by omega)) rfl rfl (ψ := fun v H => H = pt r (iv (M.add (2 * M.c) 1).l) 118) (fun v L h => ⟨_, h.2, rfl⟩) (fun v H' hH => by subst hH; exact (by (try refine Pd.st ?_); (repeat (first | exact Pd.nil | exact Pd.fnil | refine Pd.inner ?_ | refine Pd.skip (by decide +kernel) ?_ | refine Pd.fcons (RdL.one 0 rfl rfl) ?_ | refine Pd.fcons (RdL.one 1 rfl rfl) ?_ | refine Pd.fcons (RdL.one 2 rfl rfl) ?_ | refine Pd.fcons (RdL.one 3 rfl rfl) ?_ | refine Pd.fcons (RdL.many 0 rfl rfl) ?_ | refine Pd.fcons (RdL.many 1 rfl rfl) ?_ | refine Pd.fcons (RdL.many 2 rfl rfl) ?_ | refine Pd.fcons (RdL.many 3 rfl rfl) ?_ | refine Pd.cons (RdL.one 0 rfl rfl) ?_ | refine Pd.cons (RdL.one 1 rfl rfl) ?_ | refine Pd.cons (RdL.one 2 rfl rfl) ?_ | refine Pd.cons (RdL.one 3 rfl rfl) ?_ | refine Pd.cons (RdL.many 0 rfl rfl) ?_ | refine Pd.cons (RdL.many 1 rfl rfl) ?_ | refine Pd.cons (RdL.many 2 rfl rfl) ?_ | refine Pd.cons (RdL.many 3 rfl rfl) ?_)))) ?_)
    rintro v _ rfl
    (repeat (first | refine VA.go (VA.nil ?_) | refine VA.go (VA.ld 0 rfl rfl rfl rfl rfl ?_)))
    (repeat (first | refine VC.seq ?_ | refine VC.region ?_ | refine VC.block ?_ | refine VC.label ?_ | refine VC.scope ?_ | refine VO.go (VO.nil ?_) | refine VO.go (VO.ld 0 rfl rfl rfl rfl ?_)))
    exact VC.ret (Ret.int 4 rfl rfl (by simp only [MM.see, if_neg h1, if_pos h2]) (Imp.mt (M := M.add (2 * M.c) 1) (by rw [add_len]) Imp.nil).ent ⟨rfl, by simp only [MM.see, if_neg h1, if_pos h2]⟩)
  (repeat (first | refine VC.seq ?_ | refine VC.region ?_ | refine VC.block ?_ | refine VC.label ?_ | refine VC.scope ?_ | refine VO.go (VO.nil ?_) | refine VO.go (VO.ld 0 rfl rfl rfl rfl ?_)))
  refine VC.condE rfl (fun h3 => ?_) (fun h3 => VC.skip ?_)
  · (repeat (first | refine VC.seq ?_ | refine VC.region ?_ | refine VC.block ?_ | refine VC.label ?_ | refine VC.scope ?_ | refine VO.go (VO.nil ?_) | refine VO.go (VO.ld 0 rfl rfl rfl rfl ?_) | refine VO.go (VO.ld 1 rfl rfl rfl rfl ?_) | refine VO.go (VO.ld 2 rfl rfl rfl rfl ?_) | refine VO.go (VO.ld 3 rfl rfl rfl rfl ?_)))
    refine VO.go (VO.callV' (fun Fr w hF hs hS => isReason_spec Fr w f.1.reason) rfl ?_)
    (repeat (first | refine VC.seq ?_ | refine VC.region ?_ | refine VC.block ?_ | refine VC.label ?_ | refine VC.scope ?_ | refine VO.go (VO.nil ?_) | refine VO.go (VO.ld 0 rfl rfl rfl rfl ?_)))
    refine VC.condN rfl (fun h4 => ?_) (fun h4 => VC.skip ?_)
    · have h4 := of_decide_eq_false h4
      (repeat (first | refine VC.seq ?_ | refine VC.region ?_ | refine VC.block ?_ | refine VC.label ?_ | refine VC.scope ?_ | refine VO.go (VO.nil ?_) | refine VO.go (VO.ld 0 rfl rfl rfl rfl ?_)))
      exact VC.ret (Ret.int 4 rfl rfl (by simp only [MM.see, if_neg h1, if_neg h2, if_pos h3, if_neg h4]) (Imp.mt rfl Imp.nil).ent ⟨rfl, by simp only [MM.see, if_neg h1, if_neg h2, if_pos h3, if_neg h4]⟩)
    · have h4 := of_decide_eq_true h4
      obtain ⟨k, hk⟩ := Int.eq_ofNat_of_zero_le (show 0 ≤ f.1.reason by omega)
      have hkt : f.1.reason.toNat = k := by omega
      have hx := MM.at_some (M := M) (i := 2 * M.c + k) (by omega)
      have hx0 := hM.at_ (2 * M.c + k)
      refine VC.draw (ts 0 12 (.only 12 .nil)) (by kernel_rfl) (by kernel_rfl) ?_
      (repeat (first | refine VA.go (VA.nil ?_) | refine VA.go (VA.ld 0 rfl rfl rfl rfl rfl ?_) | refine VA.go (VA.ld 1 rfl rfl rfl rfl rfl ?_) | refine VA.go (VA.ld 2 rfl rfl rfl rfl rfl ?_) | refine VA.go (VA.ld 3 rfl rfl rfl rfl rfl ?_)))
      refine VA.go (VA.arith ((2 * M.c : Nat) : Int) rfl rfl rfl (by dsimp only; rw [i64_in _ (by omega) (by omega)]; omega) ?_)
      (repeat (first | refine VA.go (VA.nil ?_) | refine VA.go (VA.ld 0 rfl rfl rfl rfl rfl ?_) | refine VA.go (VA.ld 1 rfl rfl rfl rfl rfl ?_) | refine VA.go (VA.ld 2 rfl rfl rfl rfl rfl ?_) | refine VA.go (VA.ld 3 rfl rfl rfl rfl rfl ?_)))
      refine VA.go (VA.arith ((2 * M.c + k : Nat) : Int) rfl rfl rfl (by dsimp only; rw [i64_in _ (by omega) (by omega)]; omega) ?_)
      refine VA.go (VA.callAt 2 rfl (fun Fr w hF hs hS => add_spec Fr w (hS.blk 1 rfl) (2 * M.c + k) _ 1 hx (by omega) (by omega) (by omega) (by omega)) rfl rfl (ψ := fun v H => H = pt r (iv (M.add (2 * M.c + k) 1).l) 118) (fun v L h => ⟨_, h.2, rfl⟩) (fun v H' hH => by subst hH; exact (by (try refine Pd.st ?_); (repeat (first | exact Pd.nil | exact Pd.fnil | refine Pd.inner ?_ | refine Pd.skip (by decide +kernel) ?_ | refine Pd.fcons (RdL.one 0 rfl rfl) ?_ | refine Pd.fcons (RdL.one 1 rfl rfl) ?_ | refine Pd.fcons (RdL.one 2 rfl rfl) ?_ | refine Pd.fcons (RdL.one 3 rfl rfl) ?_ | refine Pd.fcons (RdL.many 0 rfl rfl) ?_ | refine Pd.fcons (RdL.many 1 rfl rfl) ?_ | refine Pd.fcons (RdL.many 2 rfl rfl) ?_ | refine Pd.fcons (RdL.many 3 rfl rfl) ?_ | refine Pd.cons (RdL.one 0 rfl rfl) ?_ | refine Pd.cons (RdL.one 1 rfl rfl) ?_ | refine Pd.cons (RdL.one 2 rfl rfl) ?_ | refine Pd.cons (RdL.one 3 rfl rfl) ?_ | refine Pd.cons (RdL.many 0 rfl rfl) ?_ | refine Pd.cons (RdL.many 1 rfl rfl) ?_ | refine Pd.cons (RdL.many 2 rfl rfl) ?_ | refine Pd.cons (RdL.many 3 rfl rfl) ?_)))) ?_)
      rintro v _ rfl
      (repeat (first | refine VA.go (VA.nil ?_) | refine VA.go (VA.ld 0 rfl rfl rfl rfl rfl ?_)))
      (repeat (first | refine VC.seq ?_ | refine VC.region ?_ | refine VC.block ?_ | refine VC.label ?_ | refine VC.scope ?_ | refine VO.go (VO.nil ?_) | refine VO.go (VO.ld 0 rfl rfl rfl rfl ?_)))
      exact VC.ret (Ret.int 4 rfl rfl (by simp only [MM.see, if_neg h1, if_neg h2, if_pos h3, if_pos h4]) (Imp.mt (M := M.add (2 * M.c + k) 1) (by rw [add_len]) Imp.nil).ent ⟨rfl, by simp only [MM.see, if_neg h1, if_neg h2, if_pos h3, if_pos h4, hkt]⟩)
  (repeat (first | refine VC.seq ?_ | refine VC.region ?_ | refine VC.block ?_ | refine VC.label ?_ | refine VC.scope ?_ | refine VO.go (VO.nil ?_) | refine VO.go (VO.ld 0 rfl rfl rfl rfl ?_)))
  exact VC.ret (Ret.int 4 rfl rfl (by simp only [MM.see, if_neg h1, if_neg h2, if_neg h3]) (Imp.mt rfl Imp.nil).ent ⟨rfl, by simp only [MM.see, if_neg h1, if_neg h2, if_neg h3]⟩)

set_option maxRecDepth 100000 in
theorem copy_spec (Fr : Nat → Prop) (w : World) {p : Nat} {M : MM} (hM : M.Ok) (hS : SatIn Fr [mtH p M] w) : Tri Tryd.prog 19 [.pointer (some ⟨p, 0, none⟩)] Fr w [] (fun v L => ∃ p', v = .pointer (some ⟨p', 0, none⟩) ∧ L = [mtH p' M]) := by
  obtain ⟨q, r, h⟩ := MIn.sat hS
  have hb := h.box
  have hl := hM.len
  have hc4 := hM.c4
  refine Tri.of 17 Tryd.func19 rfl (by kernel_rfl) tabOk rfl rfl ?_
  (repeat (first | refine VC.seq ?_ | refine VC.region ?_ | refine VC.block ?_ | refine VC.label ?_ | refine VC.scope ?_ | refine VO.go (VO.nil ?_) | refine VO.go (VO.ld 0 rfl rfl rfl rfl ?_)))
  refine VO.go (VO.callV' (fun Fr w hF hs hS => made_spec Fr w (hb.of hF hs)) rfl ?_)
  (repeat (first | refine VC.seq ?_ | refine VC.region ?_ | refine VC.block ?_ | refine VC.label ?_ | refine VC.scope ?_ | refine VO.go (VO.nil ?_) | refine VO.go (VO.ld 0 rfl rfl rfl rfl ?_)))
  refine VC.condF rfl (VC.skip ?_)
  refine VC.seq (VC.draw (ts 0 8 (.only 8 (.take 9 (.only 10 (.take 11 .nil))))) (by kernel_rfl) (by kernel_rfl) ?_)
  (repeat (first | refine VA.go (VA.nil ?_) | refine VA.go (VA.load rfl rfl rfl (RdL.blk hb rfl) ?_)))
  refine VA.go (VA.opP (OpT.call (Lc := []) (Lr := []) rfl (.refl _) (fun Fr w hF hs _ => Cnt.copy_spec Fr w (h.cnt.of hF hs) (by omega))) rfl (fun v L' _ => (by (try refine Pd.st ?_); (repeat (first | exact Pd.nil | exact Pd.fnil | refine Pd.inner ?_ | refine Pd.skip (by decide +kernel) ?_ | refine Pd.fcons (RdL.blk hb rfl) ?_ | refine Pd.fcons (hb) ?_ | refine Pd.cons (RdL.blk hb rfl) ?_ | refine Pd.cons (hb) ?_)))) ?_)
  rintro _ _ ⟨_, ⟨q', r', rfl, rfl⟩, rfl⟩
  refine VA.go (VA.light rfl (light_build (pv := [(0, .int .i64 M.c), (1, .pointer (some ⟨q', 0, none⟩))]) [.int .i64 M.c, .pointer (some ⟨q', 0, none⟩)] rfl rfl rfl rfl rfl) ?_)
  refine VA.go (VA.opP (OpT.box (vs := [.int .i64 M.c, .pointer (some ⟨q', 0, none⟩)]) rfl rfl) rfl (fun v L' _ => (by (try refine Pd.st ?_); (repeat (first | exact Pd.nil | exact Pd.fnil | refine Pd.inner ?_ | refine Pd.skip (by decide +kernel) ?_ | refine Pd.fcons (RdL.blk hb rfl) ?_ | refine Pd.fcons (hb) ?_ | refine Pd.cons (RdL.blk hb rfl) ?_ | refine Pd.cons (hb) ?_)))) ?_)
  rintro _ _ ⟨p', rfl, rfl⟩
  (repeat (first | refine VA.go (VA.nil ?_) | refine VA.go (VA.ld 0 rfl rfl rfl rfl rfl ?_)))
  (repeat (first | refine VC.seq ?_ | refine VC.region ?_ | refine VC.block ?_ | refine VC.label ?_ | refine VC.scope ?_ | refine VO.go (VO.nil ?_) | refine VO.go (VO.ld 0 rfl rfl rfl rfl ?_)))
  exact VC.ret (Ret.tmp 2 rfl rfl (Imp.mt (M := M) rfl Imp.nil).ent ⟨p', rfl, rfl⟩)
end Go.Proofs.YtoinocihlfmnnaaDoor.Met
