/- The document's Check of a configuration, and that it is the program's. Condition: not more quanta than any memory has. -/
import Derived.Test.YtoinocihlfmnnaaConf2
namespace Go.Proofs.Ytoinocihlfmnnaa.Conf
open Go Go.Proofs.Ytoinocihlfmnnaa.Vg Go.Proofs.Ytoinocihlfmnnaa.T Go.Proofs.Ytoinocihlfmnnaa.Sched
set_option linter.unusedSimpArgs false
set_option linter.unusedVariables false
attribute [local irreducible] VO VC VA

def win (x lo hi : Int) : Bool := decide (lo ≤ x) && decide (x ≤ hi)
theorem within_spec (Fr : Nat → Prop) (w : World) (x lo hi : Int) : Tri Try.prog 39 [.int .i64 x, .int .i64 lo, .int .i64 hi] Fr w [] (fun v L => v = .bool (win x lo hi) ∧ L = []) := by
  refine Tri.of 15 Try.func39 rfl (by kernel_rfl) tabOk rfl rfl ?_
  (repeat (first | refine VC.seq ?_ | refine VC.region ?_ | refine VC.block ?_ | refine VC.label ?_ | refine VC.scope ?_ | refine VO.go (VO.nil ?_) | refine VO.go (VO.ld 0 rfl rfl rfl rfl ?_)))
  refine VO.go (VO.split 10 rfl rfl (fun h1 => ?_) (fun h1 => ?_))
  · (repeat (first | refine VC.seq ?_ | refine VC.region ?_ | refine VC.block ?_ | refine VC.label ?_ | refine VC.scope ?_ | refine VO.go (VO.nil ?_) | refine VO.go (VO.ld 0 rfl rfl rfl rfl ?_)))
    exact VC.ret (Ret.bool 6 rfl rfl (by simp only [win, h1, Bool.true_and]) Ent.refl ⟨rfl, rfl⟩)
  · (repeat (first | refine VC.seq ?_ | refine VC.region ?_ | refine VC.block ?_ | refine VC.label ?_ | refine VC.scope ?_ | refine VO.go (VO.nil ?_) | refine VO.go (VO.ld 0 rfl rfl rfl rfl ?_)))
    exact VC.ret (Ret.bool 6 rfl rfl (by simp only [win, h1, Bool.false_and]) Ent.refl ⟨rfl, rfl⟩)
def pre1 (c : ConfM) : Bool := win c.nodes 1 6 && win c.chain 1 c.nodes && win c.clients 1 6 && win c.qs.length 1 4
def pre2 (c : ConfM) : Bool := pre1 c && c.qs.all fun q => win q 96 65536
def rokM (c : ConfM) : Bool := pre2 c && win c.queue 1 16 && win c.window 1 16 && win c.reads 1 16 && win c.link 4 64 && win c.patience 4 64 && win c.timeout 4 64 && win c.budget 0 16 && win c.refill 1 1099511627776

theorem near_iff {x lo hi : Int} (h : lo ≤ hi) : x = near x lo hi ↔ win x lo hi = true := by
  simp only [win, Bool.and_eq_true, decide_eq_true_eq]
  exact ⟨fun e => by have := near_in (x := x) h; omega, fun ⟨h1, h2⟩ => (near_same h1 h2).symm⟩
theorem qFit_iff {qs : List Int} : qs = qFit qs ↔ win qs.length 1 4 = true ∧ (qs.all fun q => win q 96 65536) = true := by
  constructor
  · intro e
    have hl := qFit_len qs
    rw [← e] at hl
    refine ⟨by simp [win]; omega, ?_⟩
    rw [List.all_eq_true]
    intro q hq
    rw [e] at hq
    obtain ⟨y, _, rfl⟩ := List.mem_map.1 hq
    have := near_in (x := y) (lo := 96) (hi := 65536) (by omega)
    simp [win, qNear, this]
  · rintro ⟨h1, h2⟩
    simp only [win, Bool.and_eq_true, decide_eq_true_eq] at h1
    have e : qs.take 4 = qs := List.take_of_length_le (by omega)
    have hne : qs ≠ [] := fun e => by rw [e] at h1; simp at h1
    unfold qFit qFirst
    rw [e, if_neg hne]
    rw [List.all_eq_true] at h2
    have : ∀ x ∈ qs, qNear x = x := fun x hx => ((near_iff (by omega)).2 (h2 x hx)).symm
    rw [List.map_congr_left this]; simp
theorem rok_iff (c : ConfM) : c = fitM c ↔ rokM c = true := by
  simp only [rokM, pre2, pre1, Bool.and_eq_true]
  rw [← near_iff (x := c.nodes) (by omega), ← near_iff (x := c.clients) (by omega), ← near_iff (x := c.queue) (by omega), ← near_iff (x := c.window) (by omega), ← near_iff (x := c.reads) (by omega), ← near_iff (x := c.link) (by omega), ← near_iff (x := c.patience) (by omega), ← near_iff (x := c.timeout) (by omega), ← near_iff (x := c.budget) (by omega), ← near_iff (x := c.refill) (by omega)]
  constructor
  · intro e
    have hn : c.nodes = near c.nodes 1 6 := congrArg ConfM.nodes e
    have hn1 := near_in (x := c.nodes) (lo := 1) (hi := 6) (by omega)
    have hch : c.chain = near c.chain 1 (near c.nodes 1 6) := congrArg ConfM.chain e
    rw [← hn] at hch hn1
    have hqs : c.qs = qFit c.qs := congrArg ConfM.qs e
    obtain ⟨hq1, hq2⟩ := qFit_iff.1 hqs
    exact ⟨⟨⟨⟨⟨⟨⟨⟨⟨⟨⟨⟨hn, (near_iff hn1.1).1 hch⟩, congrArg ConfM.clients e⟩, hq1⟩, hq2⟩, congrArg ConfM.queue e⟩, congrArg ConfM.window e⟩, congrArg ConfM.reads e⟩, congrArg ConfM.link e⟩, congrArg ConfM.patience e⟩, congrArg ConfM.timeout e⟩, congrArg ConfM.budget e⟩, congrArg ConfM.refill e⟩
  · rintro ⟨⟨⟨⟨⟨⟨⟨⟨⟨⟨⟨⟨hn, hch⟩, hcl⟩, hq1⟩, hq2⟩, h4⟩, h5⟩, h6⟩, h7⟩, h8⟩, h9⟩, h10⟩, h11⟩
    have hn1 := near_in (x := c.nodes) (lo := 1) (hi := 6) (by omega)
    have hch2 : c.chain = near c.chain 1 (near c.nodes 1 6) := by
      rw [← hn] at hn1 ⊢; exact (near_iff hn1.1).2 hch
    exact conf_ext hn hch2 hcl (qFit_iff.2 ⟨hq1, hq2⟩) h4 h5 h6 h7 h8 h9 h10 h11

set_option maxHeartbeats 1000000 in
set_option maxRecDepth 100000 in
theorem rcheck_spec (Fr : Nat → Prop) (w : World) (c : ConfM) (a : Option Addr) (cap : Nat) (hq : IntsIn Fr w a c.qs) (hl : c.qs.length ≤ 1000) : Tri Try.prog 23 [.agg (c.cells a cap).toArray] Fr w []
    (fun v L => v = .int .i64 (checkM c) ∧ L = []) := by
  refine Tri.of 85 Try.func23 rfl (by kernel_rfl) tabOk rfl rfl ?_
  refine VC.seq (VC.region (VO.go (VO.boxA (vs := c.cells a cap) rfl fun x => VO.go (VO.nil ?_))))
  refine VC.meet (σ := Bool) (fun b => [(1, .pointer (some ⟨x, 0, none⟩)), (3, .bool b)]) (fun _ => [pt x (c.cells a cap) 24]) (fun b => b = pre1 c) ?_ ?_
  · refine VC.region ?_
    (repeat (first | refine VC.seq ?_ | refine VC.region ?_ | refine VC.block ?_ | refine VC.label ?_ | refine VC.scope ?_ | refine VO.go (VO.nil ?_) | refine VO.go (VO.ld 0 rfl rfl rfl rfl ?_)))
    refine VO.go (VO.callV (fun Fr w => within_spec Fr w _ _ _) rfl ?_)
    refine VO.go (VO.split 8 rfl rfl (fun h0 => ?_) (fun h0 => ?_))
    rotate_left
    · refine VO.go (VO.yes 15 false rfl rfl ?_)
      refine VO.go (VO.yes 20 false rfl rfl ?_)
      refine VO.go (VO.nil ⟨false, ?_, Sub.cons rfl (Sub.cons rfl (Sub.nil _)), Ent.refl⟩)
      show false = pre1 c
      simp only [pre1, h0, Bool.and_false, Bool.false_and]
    (repeat (first | refine VC.seq ?_ | refine VC.region ?_ | refine VC.block ?_ | refine VC.label ?_ | refine VC.scope ?_ | refine VO.go (VO.nil ?_) | refine VO.go (VO.ld 0 rfl rfl rfl rfl ?_)))
    refine VO.go (VO.callV (fun Fr w => within_spec Fr w _ _ _) rfl ?_)
    refine VO.go (VO.split 15 rfl rfl (fun h1 => ?_) (fun h1 => ?_))
    rotate_left
    · refine VO.go (VO.yes 20 false rfl rfl ?_)
      refine VO.go (VO.nil ⟨false, ?_, Sub.cons rfl (Sub.cons rfl (Sub.nil _)), Ent.refl⟩)
      show false = pre1 c
      simp only [pre1, h1, Bool.and_false, Bool.false_and]
    (repeat (first | refine VC.seq ?_ | refine VC.region ?_ | refine VC.block ?_ | refine VC.label ?_ | refine VC.scope ?_ | refine VO.go (VO.nil ?_) | refine VO.go (VO.ld 0 rfl rfl rfl rfl ?_)))
    refine VO.go (VO.callV (fun Fr w => within_spec Fr w _ _ _) rfl ?_)
    refine VO.go (VO.split 20 rfl rfl (fun h2 => ?_) (fun h2 => ?_))
    rotate_left
    · refine VO.go (VO.nil ⟨false, ?_, Sub.cons rfl (Sub.cons rfl (Sub.nil _)), Ent.refl⟩)
      show false = pre1 c
      simp only [pre1, h2, Bool.and_false, Bool.false_and]
    (repeat (first | refine VC.seq ?_ | refine VC.region ?_ | refine VC.block ?_ | refine VC.label ?_ | refine VC.scope ?_ | refine VO.go (VO.nil ?_) | refine VO.go (VO.ld 0 rfl rfl rfl rfl ?_)))
    refine VO.go (VO.callV (fun Fr w => within_spec Fr w _ _ _) rfl ?_)
    refine VO.go (VO.nil ⟨win c.qs.length 1 4, ?_, Sub.cons rfl (Sub.cons rfl (Sub.nil _)), Ent.refl⟩)
    show _ = pre1 c
    simp only [pre1, h0, h1, h2, Bool.true_and]
  rintro b0 hb0
  refine VC.meet (σ := Bool) (fun b => [(1, .pointer (some ⟨x, 0, none⟩)), (3, .bool b)]) (fun _ => [pt x (c.cells a cap) 24]) (fun b => b = pre2 c) ?_ ?_
  · (repeat (first | refine VC.seq ?_ | refine VC.region ?_ | refine VC.block ?_ | refine VC.label ?_ | refine VC.scope ?_ | refine VO.go (VO.nil ?_) | refine VO.go (VO.ld 0 rfl rfl rfl rfl ?_)))
    refine VC.loop (σ := Nat × Bool) (fun y => [(1, .pointer (some ⟨x, 0, none⟩)), (3, .bool y.2), (4, .int .i64 y.1)]) (fun _ => [pt x (c.cells a cap) 24]) (fun y => y.1 ≤ c.qs.length ∧ y.2 = (pre1 c && (c.qs.take y.1).all fun q => win q 96 65536)) (fun y => c.qs.length - y.1) (0, b0) ⟨Nat.zero_le _, by simp [hb0]⟩ (Sub.cons rfl (Sub.cons rfl (Sub.cons rfl (Sub.nil _)))) Ent.refl ?_
    rintro ⟨i, b⟩ ⟨hi, hb⟩
    dsimp only at hi hb ⊢
    (repeat (first | refine VC.seq ?_ | refine VC.region ?_ | refine VC.block ?_ | refine VC.label ?_ | refine VC.scope ?_ | refine VO.go (VO.nil ?_) | refine VO.go (VO.ld 0 rfl rfl rfl rfl ?_)))
    refine VC.condP rfl (fun h1 => VC.skip ?_) (fun h1 => VC.exit ?_)
    · have hi2 : i < c.qs.length := by omega
      obtain ⟨qb, qo, hqa, hFq, hcq⟩ := hq.at_ (fun e => by rw [e] at hi2; simp at hi2)
      have hy := List.getElem?_eq_getElem hi2
      generalize c.qs[i] = y at hy
      have hsl : some (Value.slice a c.qs.length cap) = some (Value.slice (some ⟨qb, qo, none⟩) c.qs.length cap) := by rw [hqa]
      have hall : ((c.qs.take (i + 1)).all fun q => win q 96 65536) = (((c.qs.take i).all fun q => win q 96 65536) && win y 96 65536) := by rw [List.take_add_one, hy, List.all_append]; simp
      (repeat (first | refine VC.seq ?_ | refine VC.region ?_ | refine VC.block ?_ | refine VC.label ?_ | refine VC.scope ?_ | refine VO.go (VO.nil ?_) | refine VO.go (VO.ld 0 rfl rfl rfl rfl ?_)))
      refine VO.go (VO.split 34 rfl rfl (fun h2 => ?_) (fun h2 => VO.go (VO.nil ?_)))
      · subst h2
        (repeat (first | refine VC.seq ?_ | refine VC.region ?_ | refine VC.block ?_ | refine VC.label ?_ | refine VC.scope ?_ | refine VO.go (VO.nil ?_) | refine VO.go (VO.ld 0 rfl rfl rfl rfl ?_)))
        refine VO.go (VO.light (light_idx i hsl rfl rfl rfl rfl rfl hi2) ?_)
        refine VO.go (VO.load rfl rfl (RdL.rd (v := .int .i64 y) hFq (by show w.cell? ⟨qb, qo + i * 1, none⟩ = _; rw [Nat.mul_one]; exact hcq i y hy)) ?_)
        refine VO.go (VO.callV (fun Fr w => within_spec Fr w _ _ _) rfl (VO.go (VO.nil ?_)))
        (repeat (first | refine VC.seq ?_ | refine VC.region ?_ | refine VC.block ?_ | refine VC.label ?_ | refine VC.scope ?_ | refine VO.go (VO.nil ?_) | refine VO.go (VO.ld 0 rfl rfl rfl rfl ?_)))
        refine VO.go (VO.add rfl rfl (by omega) (by omega) ?_)
        (repeat (first | refine VC.seq ?_ | refine VC.region ?_ | refine VC.block ?_ | refine VC.label ?_ | refine VC.scope ?_ | refine VO.go (VO.nil ?_) | refine VO.go (VO.ld 0 rfl rfl rfl rfl ?_)))
        refine ⟨(i + 1, win y 96 65536), ⟨hi2, ?_⟩, by dsimp only; omega, Sub.cons rfl (Sub.cons rfl (Sub.cons rfl (Sub.nil _))), Ent.refl⟩
        dsimp only
        rw [hall, ← Bool.and_assoc, ← hb, Bool.true_and]
      · subst h2
        (repeat (first | refine VC.seq ?_ | refine VC.region ?_ | refine VC.block ?_ | refine VC.label ?_ | refine VC.scope ?_ | refine VO.go (VO.nil ?_) | refine VO.go (VO.ld 0 rfl rfl rfl rfl ?_)))
        refine VO.go (VO.add rfl rfl (by omega) (by omega) ?_)
        (repeat (first | refine VC.seq ?_ | refine VC.region ?_ | refine VC.block ?_ | refine VC.label ?_ | refine VC.scope ?_ | refine VO.go (VO.nil ?_) | refine VO.go (VO.ld 0 rfl rfl rfl rfl ?_)))
        refine ⟨(i + 1, false), ⟨hi2, ?_⟩, by dsimp only; omega, Sub.cons rfl (Sub.cons rfl (Sub.cons rfl (Sub.nil _))), Ent.refl⟩
        dsimp only
        rw [hall, ← Bool.and_assoc, ← hb, Bool.false_and]
    · have hi2 : i = c.qs.length := by omega
      subst hi2
      rw [List.take_length] at hb
      exact ⟨b, hb, Sub.cons rfl (Sub.cons rfl (Sub.nil _)), Ent.refl⟩
  rintro b1 hb1
  refine VC.meet (σ := Bool) (fun b => [(3, .bool b)]) (fun _ => []) (fun b => b = rokM c) ?_ ?_
  rotate_left
  · rintro b hb
    refine VC.seq (VC.seq (VC.region (VO.go (VO.nil ?_))))
    refine VC.condN rfl (fun h => ?_) (fun h => VC.skip ?_)
    · have hc : ¬ c = fitM c := fun e => by rw [(rok_iff c).1 e] at hb; rw [hb] at h; cases h
      (repeat (first | refine VC.seq ?_ | refine VC.region ?_ | refine VC.block ?_ | refine VC.label ?_ | refine VC.scope ?_ | refine VO.go (VO.nil ?_) | refine VO.go (VO.ld 0 rfl rfl rfl rfl ?_)))
      exact VC.ret (Ret.int 2 rfl rfl (by rw [checkM, if_neg hc]) Ent.refl ⟨rfl, rfl⟩)
    · have hc : c = fitM c := (rok_iff c).2 (by rw [← hb]; exact h)
      (repeat (first | refine VC.seq ?_ | refine VC.region ?_ | refine VC.block ?_ | refine VC.label ?_ | refine VC.scope ?_ | refine VO.go (VO.nil ?_) | refine VO.go (VO.ld 0 rfl rfl rfl rfl ?_)))
      exact VC.ret (Ret.int 2 rfl rfl (by rw [checkM, if_pos hc]) Ent.refl ⟨rfl, rfl⟩)
  refine VC.region ?_
  refine VO.go (VO.split 43 rfl rfl (fun h0 => ?_) (fun h0 => ?_))
  rotate_left
  · refine VO.go (VO.yes 48 false rfl rfl ?_)
    refine VO.go (VO.yes 53 false rfl rfl ?_)
    refine VO.go (VO.yes 58 false rfl rfl ?_)
    refine VO.go (VO.yes 63 false rfl rfl ?_)
    refine VO.go (VO.yes 68 false rfl rfl ?_)
    refine VO.go (VO.yes 73 false rfl rfl ?_)
    refine VO.go (VO.yes 78 false rfl rfl ?_)
    refine VO.go (VO.nil ⟨false, ?_, Sub.cons rfl (Sub.nil _), Imp.nil.ent⟩)
    show false = rokM c
    rw [rokM, ← hb1, h0]; simp only [Bool.false_and]
  (repeat (first | refine VC.seq ?_ | refine VC.region ?_ | refine VC.block ?_ | refine VC.label ?_ | refine VC.scope ?_ | refine VO.go (VO.nil ?_) | refine VO.go (VO.ld 0 rfl rfl rfl rfl ?_)))
  refine VO.go (VO.callV (fun Fr w => within_spec Fr w _ _ _) rfl ?_)
  refine VO.go (VO.split 48 rfl rfl (fun h1 => ?_) (fun h1 => ?_))
  rotate_left
  · refine VO.go (VO.yes 53 false rfl rfl ?_)
    refine VO.go (VO.yes 58 false rfl rfl ?_)
    refine VO.go (VO.yes 63 false rfl rfl ?_)
    refine VO.go (VO.yes 68 false rfl rfl ?_)
    refine VO.go (VO.yes 73 false rfl rfl ?_)
    refine VO.go (VO.yes 78 false rfl rfl ?_)
    refine VO.go (VO.nil ⟨false, ?_, Sub.cons rfl (Sub.nil _), Imp.nil.ent⟩)
    show false = rokM c
    simp only [rokM, h1, Bool.and_false, Bool.false_and]
  (repeat (first | refine VC.seq ?_ | refine VC.region ?_ | refine VC.block ?_ | refine VC.label ?_ | refine VC.scope ?_ | refine VO.go (VO.nil ?_) | refine VO.go (VO.ld 0 rfl rfl rfl rfl ?_)))
  refine VO.go (VO.callV (fun Fr w => within_spec Fr w _ _ _) rfl ?_)
  refine VO.go (VO.split 53 rfl rfl (fun h2 => ?_) (fun h2 => ?_))
  rotate_left
  · refine VO.go (VO.yes 58 false rfl rfl ?_)
    refine VO.go (VO.yes 63 false rfl rfl ?_)
    refine VO.go (VO.yes 68 false rfl rfl ?_)
    refine VO.go (VO.yes 73 false rfl rfl ?_)
    refine VO.go (VO.yes 78 false rfl rfl ?_)
    refine VO.go (VO.nil ⟨false, ?_, Sub.cons rfl (Sub.nil _), Imp.nil.ent⟩)
    show false = rokM c
    simp only [rokM, h2, Bool.and_false, Bool.false_and]
  (repeat (first | refine VC.seq ?_ | refine VC.region ?_ | refine VC.block ?_ | refine VC.label ?_ | refine VC.scope ?_ | refine VO.go (VO.nil ?_) | refine VO.go (VO.ld 0 rfl rfl rfl rfl ?_)))
  refine VO.go (VO.callV (fun Fr w => within_spec Fr w _ _ _) rfl ?_)
  refine VO.go (VO.split 58 rfl rfl (fun h3 => ?_) (fun h3 => ?_))
  rotate_left
  · refine VO.go (VO.yes 63 false rfl rfl ?_)
    refine VO.go (VO.yes 68 false rfl rfl ?_)
    refine VO.go (VO.yes 73 false rfl rfl ?_)
    refine VO.go (VO.yes 78 false rfl rfl ?_)
    refine VO.go (VO.nil ⟨false, ?_, Sub.cons rfl (Sub.nil _), Imp.nil.ent⟩)
    show false = rokM c
    simp only [rokM, h3, Bool.and_false, Bool.false_and]
  (repeat (first | refine VC.seq ?_ | refine VC.region ?_ | refine VC.block ?_ | refine VC.label ?_ | refine VC.scope ?_ | refine VO.go (VO.nil ?_) | refine VO.go (VO.ld 0 rfl rfl rfl rfl ?_)))
  refine VO.go (VO.callV (fun Fr w => within_spec Fr w _ _ _) rfl ?_)
  refine VO.go (VO.split 63 rfl rfl (fun h4 => ?_) (fun h4 => ?_))
  rotate_left
  · refine VO.go (VO.yes 68 false rfl rfl ?_)
    refine VO.go (VO.yes 73 false rfl rfl ?_)
    refine VO.go (VO.yes 78 false rfl rfl ?_)
    refine VO.go (VO.nil ⟨false, ?_, Sub.cons rfl (Sub.nil _), Imp.nil.ent⟩)
    show false = rokM c
    simp only [rokM, h4, Bool.and_false, Bool.false_and]
  (repeat (first | refine VC.seq ?_ | refine VC.region ?_ | refine VC.block ?_ | refine VC.label ?_ | refine VC.scope ?_ | refine VO.go (VO.nil ?_) | refine VO.go (VO.ld 0 rfl rfl rfl rfl ?_)))
  refine VO.go (VO.callV (fun Fr w => within_spec Fr w _ _ _) rfl ?_)
  refine VO.go (VO.split 68 rfl rfl (fun h5 => ?_) (fun h5 => ?_))
  rotate_left
  · refine VO.go (VO.yes 73 false rfl rfl ?_)
    refine VO.go (VO.yes 78 false rfl rfl ?_)
    refine VO.go (VO.nil ⟨false, ?_, Sub.cons rfl (Sub.nil _), Imp.nil.ent⟩)
    show false = rokM c
    simp only [rokM, h5, Bool.and_false, Bool.false_and]
  (repeat (first | refine VC.seq ?_ | refine VC.region ?_ | refine VC.block ?_ | refine VC.label ?_ | refine VC.scope ?_ | refine VO.go (VO.nil ?_) | refine VO.go (VO.ld 0 rfl rfl rfl rfl ?_)))
  refine VO.go (VO.callV (fun Fr w => within_spec Fr w _ _ _) rfl ?_)
  refine VO.go (VO.split 73 rfl rfl (fun h6 => ?_) (fun h6 => ?_))
  rotate_left
  · refine VO.go (VO.yes 78 false rfl rfl ?_)
    refine VO.go (VO.nil ⟨false, ?_, Sub.cons rfl (Sub.nil _), Imp.nil.ent⟩)
    show false = rokM c
    simp only [rokM, h6, Bool.and_false, Bool.false_and]
  (repeat (first | refine VC.seq ?_ | refine VC.region ?_ | refine VC.block ?_ | refine VC.label ?_ | refine VC.scope ?_ | refine VO.go (VO.nil ?_) | refine VO.go (VO.ld 0 rfl rfl rfl rfl ?_)))
  refine VO.go (VO.callV (fun Fr w => within_spec Fr w _ _ _) rfl ?_)
  refine VO.go (VO.split 78 rfl rfl (fun h7 => ?_) (fun h7 => ?_))
  rotate_left
  · refine VO.go (VO.nil ⟨false, ?_, Sub.cons rfl (Sub.nil _), Imp.nil.ent⟩)
    show false = rokM c
    simp only [rokM, h7, Bool.and_false, Bool.false_and]
  (repeat (first | refine VC.seq ?_ | refine VC.region ?_ | refine VC.block ?_ | refine VC.label ?_ | refine VC.scope ?_ | refine VO.go (VO.nil ?_) | refine VO.go (VO.ld 0 rfl rfl rfl rfl ?_)))
  refine VO.go (VO.callV (fun Fr w => within_spec Fr w _ _ _) rfl ?_)
  refine VO.go (VO.nil ⟨win c.refill 1 1099511627776, ?_, Sub.cons rfl (Sub.nil _), Imp.nil.ent⟩)
  show _ = rokM c
  rw [rokM, ← hb1, h0]
  simp only [h1, h2, h3, h4, h5, h6, h7, Bool.true_and]
end Go.Proofs.Ytoinocihlfmnnaa.Conf
