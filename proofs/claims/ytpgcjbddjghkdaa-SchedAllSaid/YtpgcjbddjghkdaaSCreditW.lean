/- SchedCredit, walked through. No condition but the kinds' bounds. -/
import Derived.Test.YtpgcjbddjghkdaaSCredit
namespace Go.Proofs.Ytpgcjbddjghkdaa.SLaw
open Go Go.Proofs.Ytpgcjbddjghkdaa.Vg Go.Proofs.Ytpgcjbddjghkdaa.T Go.Proofs.Ytpgcjbddjghkdaa.Api Go.Proofs.Ytpgcjbddjghkdaa.Ring Go.Proofs.Ytpgcjbddjghkdaa.Sched
set_option linter.unusedSimpArgs false
set_option linter.unusedVariables false
attribute [local irreducible] VO VC VA

theorem i64_small {a : Int} (h1 : 0 ≤ a) (h2 : a ≤ 65535) : IntKind.i64.wrap a = a := i64_in a (by omega) (by omega)

structure CrI (q1 : Int) (x : Nat × Int × SchM) : Prop where
  le : x.1 ≤ 32
  st : x.2.1 = -1 ∧ RaceM q1 x.2.2 ∨ 0 ≤ x.2.1 ∧ x.2.1 ≤ q1 ∧ x.2.2.Wf

theorem CrI.wf {q1 : Int} {x : Nat × Int × SchM} (h : CrI q1 x) : x.2.2.Wf := by
  rcases h.st with ⟨_, h⟩ | ⟨_, _, h⟩
  · exact h.wf
  · exact h

set_option maxRecDepth 100000 in
theorem credit_spec (Fr : Nat → Prop) (w : World) (a b c d : Int) (ha : 0 ≤ a ∧ a ≤ 65535) (hb : 0 ≤ b ∧ b ≤ 65535) (hd : 0 ≤ d ∧ d ≤ 255) :
    Tri Try.prog 5 [.agg ([.int .u16 a, .int .u16 b, .int .u16 c] : List Value).toArray, .int .u8 d] Fr w [] (fun v L => v = .bool true ∧ L = []) := by
  refine Tri.of 106 Try.func5 rfl (by kernel_rfl) tabOk rfl rfl ?_
  refine VC.seq (VC.region (VO.go (VO.boxA (vs := [.int .u16 a, .int .u16 b, .int .u16 c]) rfl fun ab => VO.go (VO.nil ?_))))
  refine VC.seq (VC.region (VO.go (VO.light (light_idxA 0 rfl rfl rfl rfl rfl rfl (by omega)) ?_)))
  refine VO.go (VO.ld 0 rfl rfl rfl rfl (VO.go (VO.conv a rfl rfl rfl rfl rfl (i64_small ha.1 ha.2) ?_)))
  refine VO.go (VO.light (light_rem rfl rfl ha.1 (by omega)) ?_)
  refine VO.go (VO.add rfl rfl (by omega) (by omega) ?_)
  refine VO.go (VO.light (light_idxA 1 rfl rfl rfl rfl rfl rfl (by omega)) ?_)
  refine VO.go (VO.ld 0 rfl rfl rfl rfl (VO.go (VO.conv b rfl rfl rfl rfl rfl (i64_small hb.1 hb.2) ?_)))
  refine VO.go (VO.light (light_rem rfl rfl hb.1 (by omega)) ?_)
  refine VO.go (VO.add rfl rfl (by omega) (by omega) ?_)
  generalize hq0 : 96 + a % 1000 = q0
  generalize hq1 : 96 + b % 500 = q1
  have hq0' : 96 ≤ q0 ∧ q0 ≤ 65536 := by omega
  have hq1' : 96 ≤ q1 ∧ q1 ≤ 1000 := by omega
  obtain ⟨hB, hok⟩ := Before.start q0 q1 hq0'.1 hq0'.2 hq1'.1 (by omega)
  refine VO.go (VO.buildSlice (n := 2) (pv := [(0, .int .i64 q0), (1, .int .i64 q1)]) [.int .i64 q0, .int .i64 q1] rfl rfl rfl rfl (by decide) rfl fun qb => VO.go (VO.nil ?_))
  (repeat (first | refine VC.seq ?_ | refine VC.region ?_ | refine VC.block ?_ | refine VC.label ?_ | refine VC.scope ?_ | refine VO.go (VO.nil ?_) | refine VO.go (VO.ld 0 rfl rfl rfl rfl ?_)))
  refine VO.go (VO.call (Lc := []) (Lr := [pt qb [.int .i64 q0, .int .i64 q1] 3, pt ab [.int .u16 a, .int .u16 b, .int .u16 c] 27]) (fun Fr w hF _ hs => sched_new_ok Fr w _ 2 [q0, q1] 16 (IntsIn.blk (hs.blk 0 rfl) rfl) hok) rfl rfl ?_)
  rintro _ _ ⟨p, rfl, rfl⟩
  (repeat (first | refine VC.seq ?_ | refine VC.region ?_ | refine VC.block ?_ | refine VC.label ?_ | refine VC.scope ?_ | refine VO.go (VO.nil ?_) | refine VO.go (VO.ld 0 rfl rfl rfl rfl ?_)))
  refine VC.condNE rfl (fun h => absurd rfl h) (fun _ => VC.skip ?_)
  (repeat (first | refine VC.seq ?_ | refine VC.region ?_ | refine VC.block ?_ | refine VC.label ?_ | refine VC.scope ?_ | refine VO.go (VO.nil ?_) | refine VO.go (VO.ld 0 rfl rfl rfl rfl ?_)))
  refine VC.loop (σ := Nat × SchM) (fun x => [(1, .int .u8 d), (5, .slice (some ⟨qb, 0, none⟩) 2 2), (6, .pointer (some ⟨p, 0, none⟩)), (8, .int .i64 x.1)]) (fun x => [schH p x.2, pt qb [.int .i64 q0, .int .i64 q1] 3]) (fun x => x.1 ≤ 40 ∧ Before q1 x.2) (fun x => 40 - x.1) (0, SchM.new [q0, q1] 16) ⟨by omega, hB⟩ (Sub.cons rfl (Sub.cons rfl (Sub.cons rfl (Sub.cons rfl (Sub.nil _))))) (Imp.app (L := [_, _]) (M := [_, _]) (L' := [_]) Imp.refl Imp.nil).ent ?_
  rintro ⟨i, S⟩ ⟨hi, hS⟩
  dsimp only at hi hS ⊢
  (repeat (first | refine VC.seq ?_ | refine VC.region ?_ | refine VC.block ?_ | refine VC.label ?_ | refine VC.scope ?_ | refine VO.go (VO.nil ?_) | refine VO.go (VO.ld 0 rfl rfl rfl rfl ?_)))
  refine VO.go (VO.conv d rfl rfl rfl rfl rfl (i64_small hd.1 (by omega)) (VO.go (VO.light (light_rem rfl rfl hd.1 (by omega)) (VO.go (VO.nil ?_)))))
  refine VC.condP rfl (fun h1 => ?_) (fun h1 => ?_)
  · have hi2 : i < 40 := by omega
    obtain ⟨f, S1, hpop, hS1⟩ := hS.turn i
    refine VC.skip ?_
    (repeat (first | refine VC.seq ?_ | refine VC.region ?_ | refine VC.block ?_ | refine VC.label ?_ | refine VC.scope ?_ | refine VO.go (VO.nil ?_) | refine VO.go (VO.ld 0 rfl rfl rfl rfl ?_)))
    refine VO.go (VO.callV (fun Fr w => whole_spec Fr w 0 i) rfl ?_)
    refine VO.go (VO.callAt 0 (ψ := fun v H => H = schH p (S.pushM (wholeM 0 i)).2) rfl (fun Fr w _ _ _ => Sched.push_spec Fr w p S (wholeM 0 i, (none, 0))) rfl (fun v L1 ⟨h1, h2⟩ => ⟨_, h2, rfl⟩) ?_)
    rintro _ _ rfl
    (repeat (first | refine VC.seq ?_ | refine VC.region ?_ | refine VC.block ?_ | refine VC.label ?_ | refine VC.scope ?_ | refine VO.go (VO.nil ?_) | refine VO.go (VO.ld 0 rfl rfl rfl rfl ?_)))
    refine VO.go (VO.callAt 0 (ψ := fun v H => H = schH p S1) rfl (fun Fr w _ _ _ => Sched.pop_any Fr w p _ (push_wf hS.wf _)) rfl (fun v L1 h => by unfold Sched.popR at h; rw [hpop] at h; exact ⟨_, h.2, rfl⟩) ?_)
    rintro _ _ rfl
    (repeat (first | refine VC.seq ?_ | refine VC.region ?_ | refine VC.block ?_ | refine VC.label ?_ | refine VC.scope ?_ | refine VO.go (VO.nil ?_) | refine VO.go (VO.ld 0 rfl rfl rfl rfl ?_)))
    refine VO.go (VO.add rfl rfl (by omega) (by omega) ?_)
    (repeat (first | refine VC.seq ?_ | refine VC.region ?_ | refine VC.block ?_ | refine VC.label ?_ | refine VC.scope ?_ | refine VO.go (VO.nil ?_) | refine VO.go (VO.ld 0 rfl rfl rfl rfl ?_)))
    exact ⟨(i + 1, S1), ⟨hi2, hS1⟩, by dsimp only; omega, Sub.cons rfl (Sub.cons rfl (Sub.cons rfl (Sub.cons rfl (Sub.nil _)))), Ent.refl⟩
  refine VC.exit ?_
  (repeat (first | refine VC.seq ?_ | refine VC.region ?_ | refine VC.block ?_ | refine VC.label ?_ | refine VC.scope ?_ | refine VO.go (VO.nil ?_) | refine VO.go (VO.ld 0 rfl rfl rfl rfl ?_)))
  refine VC.loop (σ := Nat × SchM) (fun x => [(5, .slice (some ⟨qb, 0, none⟩) 2 2), (6, .pointer (some ⟨p, 0, none⟩)), (9, .int .i64 x.1)]) (fun x => [schH p x.2, pt qb [.int .i64 q0, .int .i64 q1] 3]) (fun x => x.1 ≤ 16 ∧ Mid q1 x.2) (fun x => 16 - x.1) (0, S) ⟨by omega, hS.mid⟩ (Sub.cons rfl (Sub.cons rfl (Sub.cons rfl (Sub.nil _)))) Ent.refl ?_
  rintro ⟨j, S⟩ ⟨hj, hS⟩
  dsimp only at hj hS ⊢
  (repeat (first | refine VC.seq ?_ | refine VC.region ?_ | refine VC.block ?_ | refine VC.label ?_ | refine VC.scope ?_ | refine VO.go (VO.nil ?_) | refine VO.go (VO.ld 0 rfl rfl rfl rfl ?_)))
  refine VC.condP rfl (fun h2 => ?_) (fun h2 => ?_)
  · have hj2 : j < 16 := by omega
    refine VC.skip ?_
    (repeat (first | refine VC.seq ?_ | refine VC.region ?_ | refine VC.block ?_ | refine VC.label ?_ | refine VC.scope ?_ | refine VO.go (VO.nil ?_) | refine VO.go (VO.ld 0 rfl rfl rfl rfl ?_)))
    refine VO.go (VO.callV (fun Fr w => whole_spec Fr w 0 j) rfl ?_)
    refine VO.go (VO.callAt 0 (ψ := fun v H => H = schH p (S.pushM (wholeM (0 : Nat) j)).2) rfl (fun Fr w _ _ _ => Sched.push_spec Fr w p S (wholeM 0 j, (none, 0))) rfl (fun v L1 ⟨h1, h2⟩ => ⟨_, h2, rfl⟩) ?_)
    rintro _ _ rfl
    (repeat (first | refine VC.seq ?_ | refine VC.region ?_ | refine VC.block ?_ | refine VC.label ?_ | refine VC.scope ?_ | refine VO.go (VO.nil ?_) | refine VO.go (VO.ld 0 rfl rfl rfl rfl ?_)))
    refine VO.go (VO.callV (fun Fr w => whole_spec Fr w 1 j) rfl ?_)
    refine VO.go (VO.callAt 0 (ψ := fun v H => H = schH p ((S.pushM (wholeM (0 : Nat) j)).2.pushM (wholeM (1 : Nat) j)).2) rfl (fun Fr w _ _ _ => Sched.push_spec Fr w p _ (wholeM 1 j, (none, 0))) rfl (fun v L1 ⟨h1, h2⟩ => ⟨_, h2, rfl⟩) ?_)
    rintro _ _ rfl
    (repeat (first | refine VC.seq ?_ | refine VC.region ?_ | refine VC.block ?_ | refine VC.label ?_ | refine VC.scope ?_ | refine VO.go (VO.nil ?_) | refine VO.go (VO.ld 0 rfl rfl rfl rfl ?_)))
    refine VO.go (VO.add rfl rfl (by omega) (by omega) ?_)
    (repeat (first | refine VC.seq ?_ | refine VC.region ?_ | refine VC.block ?_ | refine VC.label ?_ | refine VC.scope ?_ | refine VO.go (VO.nil ?_) | refine VO.go (VO.ld 0 rfl rfl rfl rfl ?_)))
    exact ⟨(j + 1, _), ⟨hj2, (hS.push 0 j).push 1 j⟩, by dsimp only; omega, Sub.cons rfl (Sub.cons rfl (Sub.cons rfl (Sub.nil _))), Ent.refl⟩
  refine VC.exit ?_
  have hwas : S.servedM 1 = 0 := by
    obtain ⟨c0, c1, h3, _, _, h4⟩ := hS.cls
    unfold SchM.servedM SchM.at_; rw [h3]; exact h4
  (repeat (first | refine VC.seq ?_ | refine VC.region ?_ | refine VC.block ?_ | refine VC.label ?_ | refine VC.scope ?_ | refine VO.go (VO.nil ?_) | refine VO.go (VO.ld 0 rfl rfl rfl rfl ?_)))
  refine VO.go (VO.callV' (fun Fr w hF _ hs => Sched.served_spec Fr w 1 (hs.at_ 0 rfl)) rfl ?_)
  rw [hwas]
  (repeat (first | refine VC.seq ?_ | refine VC.region ?_ | refine VC.block ?_ | refine VC.label ?_ | refine VC.scope ?_ | refine VO.go (VO.nil ?_) | refine VO.go (VO.ld 0 rfl rfl rfl rfl ?_)))
  refine VC.loop (σ := Nat × Int × SchM) (fun x => [(5, .slice (some ⟨qb, 0, none⟩) 2 2), (6, .pointer (some ⟨p, 0, none⟩)), (10, .int .i64 0), (11, .int .i64 x.2.1), (12, .int .i64 x.1)]) (fun x => [schH p x.2.2, pt qb [.int .i64 q0, .int .i64 q1] 3]) (CrI q1) (fun x => 32 - x.1) (0, -1, S) ⟨by show 0 ≤ 32; omega, .inl ⟨rfl, hS.race⟩⟩ (Sub.cons rfl (Sub.cons rfl (Sub.cons rfl (Sub.cons rfl (Sub.cons rfl (Sub.nil _)))))) Ent.refl ?_
  rintro ⟨k, first, S⟩ hC
  have hle := hC.le; have hwf := hC.wf; have hst := hC.st
  dsimp only at hle hwf hst ⊢
  refine VC.seq ?_
  refine VC.meet (σ := Bool) (fun t => [(5, .slice (some ⟨qb, 0, none⟩) 2 2), (6, .pointer (some ⟨p, 0, none⟩)), (10, .int .i64 0), (11, .int .i64 first), (12, .int .i64 k), (71, .bool t)]) (fun _ => [schH p S, pt qb [.int .i64 q0, .int .i64 q1] 3]) (fun t => t = (decide (k < 32) && decide (0 < S.lenM 0) && decide (0 < S.lenM 1))) ?_ ?_
  · (repeat (first | refine VC.seq ?_ | refine VC.region ?_ | refine VC.block ?_ | refine VC.label ?_ | refine VC.scope ?_ | refine VO.go (VO.nil ?_) | refine VO.go (VO.ld 0 rfl rfl rfl rfl ?_)))
    refine VO.go (VO.split 62 rfl rfl (fun h3 => ?_) (fun h3 => ?_))
    · have h3 : k < 32 := by have := of_decide_eq_true h3; omega
      refine VO.go (VO.callV' (fun Fr w hF _ hs => Sched.len_spec Fr w 0 (hs.at_ 0 rfl)) rfl (VO.go (VO.split 67 rfl rfl (fun h4 => ?_) (fun h4 => ?_))))
      · have h4 := of_decide_eq_true h4
        refine VO.go (VO.callV' (fun Fr w hF _ hs => Sched.len_spec Fr w 1 (hs.at_ 0 rfl)) rfl (VO.go (VO.nil ?_)))
        exact ⟨decide (0 < S.lenM 1), by simp [h3, h4], Sub.cons rfl (Sub.cons rfl (Sub.cons rfl (Sub.cons rfl (Sub.cons rfl (Sub.cons rfl (Sub.nil _)))))), Ent.refl⟩
      · have h4 := of_decide_eq_false h4
        refine VO.go (VO.nil ?_)
        exact ⟨false, by simp [h4], Sub.cons rfl (Sub.cons rfl (Sub.cons rfl (Sub.cons rfl (Sub.cons rfl (Sub.cons rfl (Sub.nil _)))))), Ent.refl⟩
    · have h3 : ¬ k < 32 := by have := of_decide_eq_false h3; omega
      refine VO.go (VO.yes 67 false rfl rfl (VO.go (VO.nil ?_)))
      exact ⟨false, by simp [h3], Sub.cons rfl (Sub.cons rfl (Sub.cons rfl (Sub.cons rfl (Sub.cons rfl (Sub.cons rfl (Sub.nil _)))))), Ent.refl⟩
  intro t ht
  subst ht
  refine VC.cond rfl (fun h3 => VC.skip ?_) (fun h3 => VC.exit ?_)
  · simp only [Bool.and_eq_true, decide_eq_true_eq] at h3
    obtain ⟨⟨hk, hl0⟩, hl1⟩ := h3
    (repeat (first | refine VC.seq ?_ | refine VC.region ?_ | refine VC.block ?_ | refine VC.label ?_ | refine VC.scope ?_ | refine VO.go (VO.nil ?_) | refine VO.go (VO.ld 0 rfl rfl rfl rfl ?_)))
    have hpop : ∃ f S1, S.popM = some (f, S1) ∧ S1.Wf ∧ (first = -1 → f.cls = 1 ∧ RaceM q1 S1 ∨ f.cls = 0 ∧ (RaceM q1 S1 ∧ S1.servedM 1 = 0 ∨ 0 < S1.servedM 1 ∧ S1.servedM 1 ≤ q1)) := by
      rcases hst with ⟨_, hr⟩ | ⟨hf0, _, _⟩
      · obtain ⟨f, S1, h1, h2, h3⟩ := hr.pop hq1'.1 hq1'.2 hl0 hl1
        exact ⟨f, S1, h1, h2, fun _ => h3⟩
      · have hidle : S.idle = false := by
          cases hi : S.idle with
          | false => rfl
          | true =>
            rw [idle_qs, List.all_eq_true] at hi
            rw [show S.lenM 0 = S.lenM ((0 : Nat) : Int) from rfl, len_qs] at hl0
            cases hq : S.qs[0]? with
            | none => rw [hq] at hl0; exact absurd hl0 (by simp)
            | some x =>
              rw [hq] at hl0
              have := hi x (List.mem_of_getElem? hq)
              rw [List.isEmpty_iff.1 this] at hl0
              exact absurd hl0 (by simp)
        obtain ⟨f, S1, hp⟩ := popF_some hwf hidle
        have hpm : S.popM = some (f, S1) := by unfold SchM.popM; rw [hidle]; exact hp
        obtain ⟨_, _, _, _, _, h4⟩ := popM_some hwf hpm
        exact ⟨f, S1, hpm, h4, fun h => by omega⟩
    obtain ⟨f, S1, hpm, hw1, hcase⟩ := hpop
    refine VO.go (VO.callAt 0 (ψ := fun v H => (∃ m, v = .tuple #[.agg (fmc (f, m)).toArray, .bool true]) ∧ H = schH p S1) rfl (fun Fr w _ _ _ => Sched.pop_any Fr w p S hwf) rfl (fun v L1 h => by unfold Sched.popR at h; rw [hpm] at h; exact ⟨_, h.2, h.1, rfl⟩) ?_)
    rintro _ _ ⟨⟨m, rfl⟩, rfl⟩
    refine VO.go (VO.alloc rfl fun x => VO.go (VO.stA (vs := fmc (f, m)) (cs' := fmc (f, m)) 0 rfl rfl rfl rfl (Nat.le_refl _) rfl rfl rfl (VO.go (VO.nil ?_))))
    (repeat (first | refine VC.seq ?_ | refine VC.region ?_ | refine VC.block ?_ | refine VC.label ?_ | refine VC.scope ?_ | refine VO.go (VO.nil ?_) | refine VO.go (VO.ld 0 rfl rfl rfl rfl ?_)))
    refine VC.condF rfl (VC.skip ?_)
    (repeat (first | refine VC.seq ?_ | refine VC.region ?_ | refine VC.block ?_ | refine VC.label ?_ | refine VC.scope ?_ | refine VO.go (VO.nil ?_) | refine VO.go (VO.ld 0 rfl rfl rfl rfl ?_)))
    refine VO.go (VO.split 84 rfl rfl (fun h4 => ?_) (fun h4 => ?_))
    · have h4 : f.cls = 0 := eq_of_beq h4
      refine VO.go (VO.callV' (fun Fr w hF _ hs => Sched.served_spec Fr w 1 (hs.at_ 1 rfl)) rfl (VO.go (VO.split 90 rfl rfl (fun h5 => ?_) (fun h5 => ?_))))
      · have h5 : 0 < S1.servedM 1 := of_decide_eq_true h5
        refine VO.go (VO.nil (VC.condP rfl (fun h6 => ?_) (fun h6 => VC.skip ?_)))
        · have hf1 : first = -1 := by rcases hst with ⟨h, _⟩ | ⟨h, _⟩ <;> omega
          have hb : S1.servedM 1 ≤ q1 := by
            rcases hcase hf1 with ⟨h, _⟩ | ⟨_, ⟨_, h⟩ | ⟨_, h⟩⟩
            · omega
            · omega
            · exact h
          (repeat (first | refine VC.seq ?_ | refine VC.region ?_ | refine VC.block ?_ | refine VC.label ?_ | refine VC.scope ?_ | refine VO.go (VO.nil ?_) | refine VO.go (VO.ld 0 rfl rfl rfl rfl ?_)))
          refine VO.go (VO.callV' (fun Fr w hF _ hs => Sched.served_spec Fr w 1 (hs.at_ 1 rfl)) rfl ?_)
          refine VO.go (VO.sub' rfl rfl (by omega) (by omega) ?_)
          (repeat (first | refine VC.seq ?_ | refine VC.region ?_ | refine VC.block ?_ | refine VC.label ?_ | refine VC.scope ?_ | refine VO.go (VO.nil ?_) | refine VO.go (VO.ld 0 rfl rfl rfl rfl ?_)))
          refine VO.go (VO.add rfl rfl (by omega) (by omega) ?_)
          (repeat (first | refine VC.seq ?_ | refine VC.region ?_ | refine VC.block ?_ | refine VC.label ?_ | refine VC.scope ?_ | refine VO.go (VO.nil ?_) | refine VO.go (VO.ld 0 rfl rfl rfl rfl ?_)))
          exact ⟨(k + 1, S1.servedM 1 - 0, S1), ⟨by show k + 1 ≤ 32; omega, .inr ⟨by show 0 ≤ S1.servedM 1 - 0; omega, by show S1.servedM 1 - 0 ≤ q1; omega, hw1⟩⟩, by dsimp only; omega, Sub.cons rfl (Sub.cons rfl (Sub.cons rfl (Sub.cons rfl (Sub.cons rfl (Sub.nil _))))), Imp.tl.ent⟩
        · have hf1 : ¬ first < 0 := h6
          have hf2 : 0 ≤ first ∧ first ≤ q1 := by rcases hst with ⟨h, _⟩ | ⟨h1, h2, _⟩ <;> omega
          (repeat (first | refine VC.seq ?_ | refine VC.region ?_ | refine VC.block ?_ | refine VC.label ?_ | refine VC.scope ?_ | refine VO.go (VO.nil ?_) | refine VO.go (VO.ld 0 rfl rfl rfl rfl ?_)))
          refine VO.go (VO.add rfl rfl (by omega) (by omega) ?_)
          (repeat (first | refine VC.seq ?_ | refine VC.region ?_ | refine VC.block ?_ | refine VC.label ?_ | refine VC.scope ?_ | refine VO.go (VO.nil ?_) | refine VO.go (VO.ld 0 rfl rfl rfl rfl ?_)))
          exact ⟨(k + 1, first, S1), ⟨by show k + 1 ≤ 32; omega, .inr ⟨hf2.1, hf2.2, hw1⟩⟩, by dsimp only; omega, Sub.cons rfl (Sub.cons rfl (Sub.cons rfl (Sub.cons rfl (Sub.cons rfl (Sub.nil _))))), Imp.tl.ent⟩
      · have h5 : ¬ 0 < S1.servedM 1 := of_decide_eq_false h5
        have hnext : first = -1 ∧ RaceM q1 S1 ∨ 0 ≤ first ∧ first ≤ q1 ∧ S1.Wf := by
          rcases hst with ⟨h, _⟩ | ⟨h1, h2, _⟩
          · rcases hcase h with ⟨h7, _⟩ | ⟨_, ⟨h7, _⟩ | ⟨h7, _⟩⟩
            · omega
            · exact .inl ⟨h, h7⟩
            · exact absurd h7 h5
          · exact .inr ⟨h1, h2, hw1⟩
        refine VO.go (VO.nil (VC.condF rfl (VC.skip ?_)))
        (repeat (first | refine VC.seq ?_ | refine VC.region ?_ | refine VC.block ?_ | refine VC.label ?_ | refine VC.scope ?_ | refine VO.go (VO.nil ?_) | refine VO.go (VO.ld 0 rfl rfl rfl rfl ?_)))
        refine VO.go (VO.add rfl rfl (by omega) (by omega) ?_)
        (repeat (first | refine VC.seq ?_ | refine VC.region ?_ | refine VC.block ?_ | refine VC.label ?_ | refine VC.scope ?_ | refine VO.go (VO.nil ?_) | refine VO.go (VO.ld 0 rfl rfl rfl rfl ?_)))
        exact ⟨(k + 1, first, S1), ⟨by show k + 1 ≤ 32; omega, hnext⟩, by dsimp only; omega, Sub.cons rfl (Sub.cons rfl (Sub.cons rfl (Sub.cons rfl (Sub.cons rfl (Sub.nil _))))), Imp.tl.ent⟩
    · have h4 : f.cls ≠ 0 := ne_of_beq_false h4
      have hnext : first = -1 ∧ RaceM q1 S1 ∨ 0 ≤ first ∧ first ≤ q1 ∧ S1.Wf := by
        rcases hst with ⟨h, _⟩ | ⟨h1, h2, _⟩
        · rcases hcase h with ⟨_, h7⟩ | ⟨h7, _⟩
          · exact .inl ⟨h, h7⟩
          · exact absurd h7 h4
        · exact .inr ⟨h1, h2, hw1⟩
      refine VO.go (VO.yes 90 false rfl rfl (VO.go (VO.nil (VC.condF rfl (VC.skip ?_)))))
      (repeat (first | refine VC.seq ?_ | refine VC.region ?_ | refine VC.block ?_ | refine VC.label ?_ | refine VC.scope ?_ | refine VO.go (VO.nil ?_) | refine VO.go (VO.ld 0 rfl rfl rfl rfl ?_)))
      refine VO.go (VO.add rfl rfl (by omega) (by omega) ?_)
      (repeat (first | refine VC.seq ?_ | refine VC.region ?_ | refine VC.block ?_ | refine VC.label ?_ | refine VC.scope ?_ | refine VO.go (VO.nil ?_) | refine VO.go (VO.ld 0 rfl rfl rfl rfl ?_)))
      exact ⟨(k + 1, first, S1), ⟨by show k + 1 ≤ 32; omega, hnext⟩, by dsimp only; omega, Sub.cons rfl (Sub.cons rfl (Sub.cons rfl (Sub.cons rfl (Sub.cons rfl (Sub.nil _))))), Imp.tl.ent⟩
  · have hf2 : first ≤ q1 := by rcases hst with ⟨h, _⟩ | ⟨h1, h2, _⟩ <;> omega
    (repeat (first | refine VC.seq ?_ | refine VC.region ?_ | refine VC.block ?_ | refine VC.label ?_ | refine VC.scope ?_ | refine VO.go (VO.nil ?_) | refine VO.go (VO.ld 0 rfl rfl rfl rfl ?_)))
    refine VO.go (VO.light (light_idx 1 rfl rfl rfl rfl rfl rfl (by omega)) ?_)
    (repeat (first | refine VC.seq ?_ | refine VC.region ?_ | refine VC.block ?_ | refine VC.label ?_ | refine VC.scope ?_ | refine VO.go (VO.nil ?_) | refine VO.go (VO.ld 0 rfl rfl rfl rfl ?_) | refine VO.go (VO.ld 1 rfl rfl rfl rfl ?_)))
    refine VO.go (VO.yes 103 true rfl (decide_eq_true hf2) ?_)
    refine VO.go (VO.callV (fun Fr w => turned_spec Fr w) rfl (VO.go (VO.nil ?_)))
    exact VC.ret (Ret.bool 4 rfl rfl rfl Imp.nil.ent ⟨rfl, rfl⟩)
end Go.Proofs.Ytpgcjbddjghkdaa.SLaw
