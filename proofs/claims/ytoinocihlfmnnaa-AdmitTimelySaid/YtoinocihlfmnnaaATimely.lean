/- AdmitTimely, walked through. Conditions: the kinds' bounds. -/
import Derived.Test.YtoinocihlfmnnaaATInv
import Derived.Test.YtoinocihlfmnnaaASticks
namespace Go.Proofs.Ytoinocihlfmnnaa.Adm
open Go Go.Proofs.Ytoinocihlfmnnaa.Vg Go.Proofs.Ytoinocihlfmnnaa.T Go.Proofs.Ytoinocihlfmnnaa.Api Go.Proofs.Ytoinocihlfmnnaa.Sched Go.Proofs.Ytoinocihlfmnnaa.Conf
set_option linter.unusedSimpArgs false
set_option linter.unusedVariables false
attribute [local irreducible] VO VC VA

def timF (nc : Int) (m : Nat) (i : Nat) (now : Int) (x : TryM) : FrameM := { callM (x.client % nc) (1 + (i : Int)) 1 (now + x.deadline % 9) with cls := x.cls % m }

set_option maxHeartbeats 4000000 in
set_option maxRecDepth 100000 in
theorem timely_spec (Fr : Nat → Prop) (w : World) (c : ConfM) (ca : Option Addr) (cc : Nat) (la : Option Addr) (lc : Nat) (l : List TryM) (hq : IntsIn Fr w ca c.qs) (hl : TriesIn Fr w la l) :
    Tri Try.prog 4 [.agg (c.cells ca cc).toArray, .slice la l.length lc] Fr w [] (fun v L => v = .bool true ∧ L = []) := by
  refine Tri.of 215 Try.func4 rfl (by kernel_rfl) tabOk rfl rfl ?_
  refine VC.seq (VC.region (VO.go (VO.boxA (vs := c.cells ca cc) rfl fun cb => VO.go (VO.nil ?_))))
  (repeat (first | refine VC.seq ?_ | refine VC.region ?_ | refine VC.block ?_ | refine VC.label ?_ | refine VC.scope ?_ | refine VO.go (VO.nil ?_) | refine VO.go (VO.ld 0 rfl rfl rfl rfl ?_)))
  refine VO.go (VO.split 23 rfl rfl (fun h0 => VO.go (VO.nil (VC.condT rfl ?_))) (fun h0 => VO.go (VO.nil (VC.condP rfl (fun h1 => ?_) (fun h1 => VC.skip ?_)))))
  · (repeat (first | refine VC.seq ?_ | refine VC.region ?_ | refine VC.block ?_ | refine VC.label ?_ | refine VC.scope ?_ | refine VO.go (VO.nil ?_) | refine VO.go (VO.ld 0 rfl rfl rfl rfl ?_)))
    refine VO.go (VO.callV (fun Fr w => offered_spec Fr w) rfl (VO.go (VO.nil ?_)))
    exact VC.ret (Ret.bool 4 rfl rfl rfl Imp.nil.ent ⟨rfl, rfl⟩)
  · (repeat (first | refine VC.seq ?_ | refine VC.region ?_ | refine VC.block ?_ | refine VC.label ?_ | refine VC.scope ?_ | refine VO.go (VO.nil ?_) | refine VO.go (VO.ld 0 rfl rfl rfl rfl ?_)))
    refine VO.go (VO.callV (fun Fr w => offered_spec Fr w) rfl (VO.go (VO.nil ?_)))
    exact VC.ret (Ret.bool 4 rfl rfl rfl Imp.nil.ent ⟨rfl, rfl⟩)
  have hlen : l.length ≤ 60 := by omega
  (repeat (first | refine VC.seq ?_ | refine VC.region ?_ | refine VC.block ?_ | refine VC.label ?_ | refine VC.scope ?_ | refine VO.go (VO.nil ?_) | refine VO.go (VO.ld 0 rfl rfl rfl rfl ?_)))
  refine VO.go (VO.ldA 0 (c.cells ca cc) rfl rfl rfl rfl ?_)
  refine VO.go (VO.call (Lc := []) (fun Fr w hF hs _ => rfit_spec Fr w c ca cc (ints_of hq hF hs)) rfl rfl ?_)
  rintro _ _ ⟨a, cap, ha, hcap, rfl, rfl⟩
  refine VO.go (VO.stA (vs := (fitM c).cells a cap) (cs' := (fitM c).cells a cap) 1 rfl rfl rfl rfl (Nat.le_refl _) rfl rfl rfl (VO.go (VO.nil ?_)))
  (repeat (first | refine VC.seq ?_ | refine VC.region ?_ | refine VC.block ?_ | refine VC.label ?_ | refine VC.scope ?_ | refine VO.go (VO.nil ?_) | refine VO.go (VO.ld 0 rfl rfl rfl rfl ?_)))
  refine VO.go (VO.ldA 1 ((fitM c).cells a cap) rfl rfl rfl rfl ?_)
  refine VO.go (VO.call (Lc := []) (fun Fr w _ _ h2 => new_fit Fr w c a cap (ints_sl (h2.at_ 0 rfl)) ha hcap) rfl rfl ?_)
  rintro _ _ ⟨p, rfl, rfl⟩
  (repeat (first | refine VC.seq ?_ | refine VC.region ?_ | refine VC.block ?_ | refine VC.label ?_ | refine VC.scope ?_ | refine VO.go (VO.nil ?_) | refine VO.go (VO.ld 0 rfl rfl rfl rfl ?_)))
  refine VC.condNE rfl (fun h => absurd rfl h) (fun _ => VC.skip ?_)
  have hcl := (conf_new (fit_idem c)).2
  have hml := qFit_len c.qs
  refine VC.seq (VC.region (VO.go (VO.nil (VC.seq (VC.region (VO.go (VO.nil ?_)))))))
  refine VC.seq ?_
  (repeat (first | refine VC.seq ?_ | refine VC.region ?_ | refine VC.block ?_ | refine VC.label ?_ | refine VC.scope ?_ | refine VO.go (VO.nil ?_) | refine VO.go (VO.ld 0 rfl rfl rfl rfl ?_)))
  refine VC.loop (σ := Nat × AdmM × Int × RL T3) (fun y => [(1, .slice la l.length lc), (2, .pointer (some ⟨cb, 0, none⟩)), (5, .pointer (some ⟨p, 0, none⟩)), (7, .int .i64 y.2.2.1), (8, y.2.2.2.v), (9, .int .i64 y.1)]) (fun y => [admH p y.2.1, y.2.2.2.h 53, pt cb ((fitM c).cells a cap) 24]) (fun y => y.1 ≤ l.length ∧ TInv (fitM c).clients (fitM c).qs.length y.1 y.2.1 y.2.2.2.xs ∧ y.2.2.2.Ok tCs 3 ∧ 0 ≤ y.2.2.1 ∧ y.2.2.1 ≤ 3 * y.1) (fun y => l.length - y.1) (0, newA (fitM c), 0, RL.none) ⟨Nat.zero_le _, TInv.start c, RL.none_ok, Int.le_refl _, Int.le_refl _⟩ (Sub.cons rfl (Sub.cons rfl (Sub.cons rfl (Sub.cons rfl (Sub.cons rfl (Sub.cons rfl (Sub.nil _))))))) ?_ ?_
  · refine (Imp.pick 0 rfl ?_).ent
    exact Imp.pure trivial Imp.tl
  rintro ⟨i, A, now, r⟩ ⟨hi, hA, hrok, hn0, hn1⟩
  dsimp only at hi hA hrok hn0 hn1 ⊢
  (repeat (first | refine VC.seq ?_ | refine VC.region ?_ | refine VC.block ?_ | refine VC.label ?_ | refine VC.scope ?_ | refine VO.go (VO.nil ?_) | refine VO.go (VO.ld 0 rfl rfl rfl rfl ?_)))
  refine VC.condP rfl (fun h2 => VC.skip ?_) (fun h2 => VC.exit ?_)
  rotate_left
  · (repeat (first | refine VC.seq ?_ | refine VC.region ?_ | refine VC.block ?_ | refine VC.label ?_ | refine VC.scope ?_ | refine VO.go (VO.nil ?_) | refine VO.go (VO.ld 0 rfl rfl rfl rfl ?_)))
    refine VO.go (VO.callV (fun Fr w => offered_spec Fr w) rfl (VO.go (VO.nil ?_)))
    exact VC.ret (Ret.bool 4 rfl rfl rfl Imp.nil.ent ⟨rfl, rfl⟩)
  have hi2 : i < l.length := by omega
  obtain ⟨lb, lo, hla, hFl, hcell⟩ := hl.at_ (fun e => by rw [e] at hi2; simp at hi2)
  subst hla
  have hx := List.getElem?_eq_getElem hi2
  have hxb := hl.byte _ (List.getElem_mem hi2)
  generalize l[i] = x at hx hxb
  have hc := hcell i x hx
  refine VC.meet (σ := AdmM × Int × RL T3) (fun y => [(1, .slice (some ⟨lb, lo, none⟩) l.length lc), (2, .pointer (some ⟨cb, 0, none⟩)), (5, .pointer (some ⟨p, 0, none⟩)), (7, .int .i64 y.2.1), (8, y.2.2.v), (9, .int .i64 i)]) (fun y => [admH p y.1, y.2.2.h 53, pt cb ((fitM c).cells a cap) 24]) (fun y => TInv (fitM c).clients (fitM c).qs.length (i + 1) y.1 y.2.2.xs ∧ y.2.2.Ok tCs 3 ∧ 0 ≤ y.2.1 ∧ y.2.1 ≤ 3 * i + 3) ?_ ?_
  rotate_left
  · rintro ⟨D, now', r'⟩ ⟨hD, hr', h3, h4⟩
    (repeat (first | refine VC.seq ?_ | refine VC.region ?_ | refine VC.block ?_ | refine VC.label ?_ | refine VC.scope ?_ | refine VO.go (VO.nil ?_) | refine VO.go (VO.ld 0 rfl rfl rfl rfl ?_)))
    refine VO.go (VO.add rfl rfl (by omega) (by omega) ?_)
    (repeat (first | refine VC.seq ?_ | refine VC.region ?_ | refine VC.block ?_ | refine VC.label ?_ | refine VC.scope ?_ | refine VO.go (VO.nil ?_) | refine VO.go (VO.ld 0 rfl rfl rfl rfl ?_)))
    exact ⟨(i + 1, D, now', r'), ⟨hi2, hD, hr', h3, by dsimp only at h4 ⊢; push_cast; omega⟩, by dsimp only; omega, (Sub.cons rfl (Sub.cons rfl (Sub.cons rfl (Sub.cons rfl (Sub.cons rfl (Sub.cons rfl (Sub.nil _))))))), Ent.refl⟩
  refine VC.block ?_
  refine VC.seq (VC.region ?_)
  refine VO.go (VO.light (light_idx i rfl rfl rfl rfl rfl rfl hi2) ?_)
  refine VO.go (VO.load rfl rfl (RdL.rd (v := .agg x.cells.toArray) hFl ⟨x.cells, rfl, rfl, fun j v hv => hc j v hv⟩) ?_)
  refine VO.go (VO.alloc rfl fun xb => VO.go (VO.stA (vs := x.cells) (cs' := x.cells) 0 rfl rfl rfl rfl (Nat.le_refl _) rfl rfl rfl (VO.go (VO.nil ?_))))
  refine VC.seq (VC.region ?_)
  refine VO.go (VO.ld 0 rfl rfl rfl rfl ?_)
  refine VO.go (VO.light (light_conv x.now rfl rfl rfl rfl rfl (i64_small hxb.now.1 hxb.now.2)) ?_)
  refine VO.go (VO.light (light_rem rfl rfl hxb.now.1 (by omega)) ?_)
  refine VO.go (VO.add rfl rfl (by omega) (by omega) (VO.go (VO.nil ?_)))
  have hnow : 0 ≤ now + x.now % 3 ∧ now + x.now % 3 ≤ 3 * i + 2 := by omega
  generalize now + x.now % 3 = nw at hnow ⊢
  have hxd := hxb.deadline
  refine VC.meet (σ := Nat) (fun fb => [(1, .slice (some ⟨lb, lo, none⟩) l.length lc), (2, .pointer (some ⟨cb, 0, none⟩)), (5, .pointer (some ⟨p, 0, none⟩)), (7, .int .i64 nw), (9, .int .i64 i), (8, r.v), (10, .pointer (some ⟨xb, 0, none⟩)), (11, .pointer (some ⟨fb, 0, none⟩))]) (fun fb => [pt fb (fmc (callM (x.client % (fitM c).clients) (1 + (i : Int)) 1 (nw + x.deadline % 9), (none, 0))) 50, pt xb x.cells 35, admH p A, r.h 53, pt cb ((fitM c).cells a cap) 24]) (fun _ => True) ?_ ?_
  · refine VC.draw (ts 0 14 (.two 14 15 (.only 15 (.only 16 .nil)) (.only 14 (.only 16 .nil)))) (by kernel_rfl) (by decide +kernel) ?_
    refine VA.go (VA.ld 0 rfl rfl rfl rfl rfl ?_)
    refine VA.go (VA.light rfl (light_conv x.client rfl rfl rfl rfl rfl (i64_small hxb.client.1 hxb.client.2)) ?_)
    refine VA.go (VA.ld 3 rfl rfl rfl rfl rfl ?_)
    refine VA.go (VA.light rfl (light_rem rfl rfl hxb.client.1 (by omega)) ?_)
    refine VA.go (VA.add rfl rfl rfl (by omega) (by omega) ?_)
    refine VA.go (VA.ld 0 rfl rfl rfl rfl rfl ?_)
    refine VA.go (VA.light rfl (light_conv x.deadline rfl rfl rfl rfl rfl (i64_small hxb.deadline.1 hxb.deadline.2)) ?_)
    refine VA.go (VA.light rfl (light_rem rfl rfl hxb.deadline.1 (by omega)) ?_)
    refine VA.go (VA.add rfl rfl rfl (by omega) (by omega) ?_)
    refine VA.keepS (cond := fun L' => pt xb x.cells 35 ∈ L' ∧ pt cb ((fitM c).cells a cap) 24 ∈ L') (fun S hS => ?_) (fun L' hL' => ?_)
    rotate_left
    · obtain ⟨k1, hk1⟩ := List.getElem?_of_mem hL'.1
      obtain ⟨k2, hk2⟩ := List.getElem?_of_mem hL'.2
      exact (by (try refine Pd.st ?_); (repeat (first | exact Pd.nil | exact Pd.fnil | refine Pd.inner ?_ | refine Pd.skip (by decide +kernel) ?_ | refine Pd.fcons (RdL.blk (RdL.one k1 hk1 rfl) rfl) ?_ | refine Pd.fcons (RdL.blk (RdL.one k2 hk2 rfl) rfl) ?_ | refine Pd.fcons ((RdL.one k1 hk1 rfl)) ?_ | refine Pd.fcons ((RdL.one k2 hk2 rfl)) ?_ | refine Pd.cons (RdL.blk (RdL.one k1 hk1 rfl) rfl) ?_ | refine Pd.cons (RdL.blk (RdL.one k2 hk2 rfl) rfl) ?_ | refine Pd.cons ((RdL.one k1 hk1 rfl)) ?_ | refine Pd.cons ((RdL.one k2 hk2 rfl)) ?_)))
    have m1 : pt xb x.cells 35 ∈ [pt xb x.cells 35, admH p A, r.h 53, pt cb ((fitM c).cells a cap) 24] ∧ pt cb ((fitM c).cells a cap) 24 ∈ [pt xb x.cells 35, admH p A, r.h 53, pt cb ((fitM c).cells a cap) 24] := ⟨.head _, .tail _ (.tail _ (.tail _ (.head _)))⟩
    have m2 : ∀ {H : HP}, pt xb x.cells 35 ∈ H :: [pt xb x.cells 35, admH p A, r.h 53, pt cb ((fitM c).cells a cap) 24] ∧ pt cb ((fitM c).cells a cap) 24 ∈ H :: [pt xb x.cells 35, admH p A, r.h 53, pt cb ((fitM c).cells a cap) 24] := fun {H} => ⟨.tail _ m1.1, .tail _ m1.2⟩
    refine VA.go (VA.two rfl rfl rfl rfl rfl (OpT.callP (φ := fun v => v = .agg (fmc (callM (x.client % (fitM c).clients) (1 + (i : Int)) 1 (nw + x.deadline % 9), (none, 0))).toArray) (fun Fr w _ _ _ => call_spec Fr w _ _ _ _) rfl) rfl rfl rfl (OpT.alloc rfl) (fun v L' h => by obtain ⟨_, rfl⟩ := h; exact Pd.st (by (repeat refine Pd.filter ?_); exact hS _ m1)) (fun v L' h => by obtain ⟨d, _, rfl⟩ := h; exact Pd.st (by (repeat refine Pd.filter ?_); exact hS _ m2)) ?_ ?_)
    · rintro _ _ ⟨rfl, rfl⟩
      refine VA.go (VA.opP (OpT.alloc rfl) rfl (fun v L' h => by obtain ⟨d, _, rfl⟩ := h; exact (by (repeat refine Pd.filter ?_); exact hS _ m2)) ?_)
      rintro _ _ ⟨fb, rfl, rfl⟩
      refine VA.go (VA.stA (vs := fmc (callM (x.client % (fitM c).clients) (1 + (i : Int)) 1 (nw + x.deadline % 9), (none, 0))) (cs' := fmc (callM (x.client % (fitM c).clients) (1 + (i : Int)) 1 (nw + x.deadline % 9), (none, 0))) 0 rfl rfl rfl rfl rfl (Nat.le_refl _) rfl rfl rfl (by (repeat refine Pd.filter ?_); exact hS _ m2) (VA.go (VA.nil ?_)))
      exact ⟨fb, trivial, (Sub.cons rfl (Sub.cons rfl (Sub.cons rfl (Sub.cons rfl (Sub.cons rfl (Sub.cons rfl (Sub.cons rfl (Sub.cons rfl (Sub.nil _))))))))), Ent.refl⟩
    · rintro _ _ ⟨fb, rfl, rfl⟩
      refine VA.go (VA.opP (OpT.callP (φ := fun v => v = .agg (fmc (callM (x.client % (fitM c).clients) (1 + (i : Int)) 1 (nw + x.deadline % 9), (none, 0))).toArray) (fun Fr w _ _ _ => call_spec Fr w _ _ _ _) rfl) rfl (fun v L' h => by obtain ⟨_, rfl⟩ := h; exact (by (repeat refine Pd.filter ?_); exact hS _ m2)) ?_)
      rintro _ _ ⟨rfl, rfl⟩
      refine VA.go (VA.stA (vs := fmc (callM (x.client % (fitM c).clients) (1 + (i : Int)) 1 (nw + x.deadline % 9), (none, 0))) (cs' := fmc (callM (x.client % (fitM c).clients) (1 + (i : Int)) 1 (nw + x.deadline % 9), (none, 0))) 0 rfl rfl rfl rfl rfl (Nat.le_refl _) rfl rfl rfl (by (repeat refine Pd.filter ?_); exact hS _ m2) (VA.go (VA.nil ?_)))
      exact ⟨fb, trivial, (Sub.cons rfl (Sub.cons rfl (Sub.cons rfl (Sub.cons rfl (Sub.cons rfl (Sub.cons rfl (Sub.cons rfl (Sub.cons rfl (Sub.nil _))))))))), Ent.refl⟩
  intro fb _
  refine VC.seq (VC.region ?_)
  refine VO.go (VO.ld 1 rfl rfl rfl rfl ?_)
  refine VO.go (VO.light (light_conv x.cls rfl rfl rfl rfl rfl (i64_small hxb.cls.1 hxb.cls.2)) ?_)
  refine VO.go (VO.ld 4 rfl rfl rfl rfl ?_)
  refine VO.go (VO.light (light_rem rfl rfl hxb.cls.1 (by show (0 : Int) < ((qFit c.qs).length : Nat); omega)) ?_)
  refine VO.go (VO.st 0 rfl rfl rfl rfl (by show 5 < 29; omega) (cs' := fmc (timF (fitM c).clients (fitM c).qs.length i nw x, (none, 0))) rfl rfl (VO.go (VO.nil ?_)))
  have hfs : (timF (fitM c).clients (fitM c).qs.length i nw x).seq = 1 + (i : Int) := rfl
  generalize hf : timF (fitM c).clients (fitM c).qs.length i nw x = f at hfs ⊢
  have hrl : r.xs.length ≤ 60 := by have := hA.few; omega
  refine VC.meet (σ := RL T3) (fun r => [(1, .slice (some ⟨lb, lo, none⟩) l.length lc), (2, .pointer (some ⟨cb, 0, none⟩)), (5, .pointer (some ⟨p, 0, none⟩)), (7, .int .i64 nw), (9, .int .i64 i), (8, r.v), (10, .pointer (some ⟨xb, 0, none⟩))]) (fun r => [pt xb x.cells 35, admH p (A.offerM f nw).2, r.h 53, pt cb ((fitM c).cells a cap) 24]) (fun r => TInv (fitM c).clients (fitM c).qs.length (i + 1) (A.offerM f nw).2 r.xs ∧ r.Ok tCs 3) ?_ ?_
  · refine VC.seq (VC.region ?_)
    refine VO.go (VO.ldA 0 (fmc (f, (none, 0))) rfl rfl rfl rfl ?_)
    refine VO.go (VO.callAt 2 (ψ := fun v H => v = .int .i64 (A.offerM f nw).1 ∧ H = admH p (A.offerM f nw).2) rfl (fun Fr w _ _ _ => offer_spec Fr w p A (f, (none, 0)) nw) rfl (fun v L1 h => ⟨_, h.2, h.1, rfl⟩) ?_)
    rintro _ _ ⟨rfl, rfl⟩
    refine VO.go (VO.nil ?_)
    refine VC.condE rfl (fun h3 => ?_) (fun h3 => VC.skip ⟨r, ⟨hA.offer1 h3, hrok⟩, (Sub.cons rfl (Sub.cons rfl (Sub.cons rfl (Sub.cons rfl (Sub.cons rfl (Sub.cons rfl (Sub.cons rfl (Sub.nil _)))))))), Imp.tl.ent⟩)
    have hB := hA.offer0 hfs h3
    refine VC.draw (.take 0 (ts 2 7 (.two 1 9 (.only 9 (.only 10 (.take 11 .nil))) (.only 1 (.only 10 (.take 11 .nil)))))) (by kernel_rfl) (by decide +kernel) ?_
    refine VA.go (VA.ld 0 rfl rfl rfl rfl rfl ?_)
    refine VA.go (VA.ld 0 rfl rfl rfl rfl rfl ?_)
    refine VA.go (VA.ld 0 rfl rfl rfl rfl rfl ?_)
    refine VA.go (VA.light rfl (light_buildArr (pv := [(0, .int .i64 f.cls), (1, .int .i64 f.client), (2, .int .i64 f.seq)]) (tCs (key f)) rfl rfl rfl rfl rfl) ?_)
    refine VA.keepS (cond := fun L' => pt fb (fmc (f, (none, 0))) 50 ∈ L') (fun S hS => ?_) (fun L' hL' => ?_)
    rotate_left
    · obtain ⟨k1, hk1⟩ := List.getElem?_of_mem hL'
      exact (by (try refine Pd.st ?_); (repeat (first | exact Pd.nil | exact Pd.fnil | refine Pd.inner ?_ | refine Pd.skip (by decide +kernel) ?_ | refine Pd.fcons (RdL.blk (RdL.one k1 hk1 rfl) rfl) ?_ | refine Pd.fcons ((RdL.one k1 hk1 rfl)) ?_ | refine Pd.cons (RdL.blk (RdL.one k1 hk1 rfl) rfl) ?_ | refine Pd.cons ((RdL.one k1 hk1 rfl)) ?_)))
    refine VA.ent (L' := slH 53 3 none 0 0 [] :: [pt fb (fmc (f, (none, 0))) 50, pt xb x.cells 35, admH p (A.offerM f nw).2, r.h 53, pt cb ((fitM c).cells a cap) 24]) (Imp.slNil Imp.refl).ent ?_
    refine VA.go (VA.two rfl rfl rfl rfl rfl (OpT.append (m := r.xs.length) (news := flat tCs r.xs) 0 rfl rfl rfl rfl rfl rfl rfl (RL.rd (t := 53) tCs_len hrok 4 rfl) (flat_all tCs_one _) (by show (0 + r.xs.length) * 24 ≤ _; omega) (by omega))
      rfl rfl rfl (OpT.buildSlice (n := 1) (pv := [(0, .agg (tCs (key f)).toArray)]) (cells := tCs (key f)) rfl rfl rfl rfl (by decide) (fill_one rfl rfl rfl)) (fun v L' h => by obtain ⟨a1, c1, rfl, hc1, rfl⟩ := h; exact Pd.st (by (repeat refine Pd.filter ?_); exact hS _ (.tail _ (.head _)))) (fun v L' h => by obtain ⟨nb, rfl, rfl⟩ := h; exact Pd.st (by (repeat refine Pd.filter ?_); exact hS _ (.tail _ (.tail _ (.head _))))) ?_ ?_)
    · rintro v L' ⟨a1, c1, rfl, hc1, rfl⟩
      refine VA.go (VA.opP (OpT.buildSlice (n := 1) (pv := [(0, .agg (tCs (key f)).toArray)]) (cells := tCs (key f)) rfl rfl rfl rfl (by decide) (fill_one rfl rfl rfl)) rfl (fun v L' h => by obtain ⟨nb, rfl, rfl⟩ := h; exact (by (repeat refine Pd.filter ?_); exact hS _ (.tail _ (.tail _ (.head _))))) ?_)
      rintro v L' ⟨nb, rfl, rfl⟩
      refine VA.go (VA.opP (OpT.append (m := 1) (news := tCs (key f)) 1 rfl rfl rfl rfl rfl rfl rfl (RdRow.pt 0 rfl rfl rfl) rfl (by show (0 + r.xs.length + 1) * 24 ≤ _; omega) (by omega)) rfl (fun v L' h => by obtain ⟨a2, c2, rfl, hc2, rfl⟩ := h; exact (by (repeat refine Pd.filter ?_); exact hS _ (.tail _ (.tail _ (.head _))))) ?_)
      rintro v L' ⟨a2, c2, rfl, hc2, rfl⟩
      refine VA.ent (L' := slH 53 3 a2 (r.xs ++ [key f]).length c2 (flat tCs (r.xs ++ [key f])) :: pt nb (tCs (key f)) 53 :: [pt fb (fmc (f, (none, 0))) 50, pt xb x.cells 35, admH p (A.offerM f nw).2, r.h 53, pt cb ((fitM c).cells a cap) 24]) (Imp.of_eq (by
        have e : slH 53 3 a2 (0 + r.xs.length + 1) c2 ([] ++ flat tCs r.xs ++ tCs (key f)) = slH 53 3 a2 (r.xs ++ [key f]).length c2 (flat tCs (r.xs ++ [key f])) := by simp [flat_append, flat_cons, flat_nil]
        rw [← e]; rfl)).ent ?_
      refine VA.exs _ _ (HOpn.st 0 rfl (HOpn.rl _ a2 c2 (r.xs ++ [key f]) tCs_len)) ?_
      rintro r' ⟨hok', hv', hx'⟩
      (repeat (first | refine VA.go (VA.nil ?_) | refine VA.go (VA.ld 0 rfl rfl rfl rfl rfl ?_)))
      have ev : Value.slice a2 (0 + r.xs.length + 1) c2 = r'.v := by rw [hv']; simp
      rw [ev]
      refine ⟨r', ⟨by rw [hx']; exact hB, hok'⟩, (Sub.cons rfl (Sub.cons rfl (Sub.cons rfl (Sub.cons rfl (Sub.cons rfl (Sub.cons rfl (Sub.cons rfl (Sub.nil _)))))))), ?_⟩
      refine (Imp.pick 3 rfl ?_).ent
      refine Imp.pick 3 rfl ?_
      refine Imp.pick 0 rfl ?_
      exact Imp.trans Imp.tl (Imp.trans Imp.tl Imp.tl)
    · rintro v L' ⟨nb, rfl, rfl⟩
      refine VA.go (VA.opP (OpT.append (m := r.xs.length) (news := flat tCs r.xs) 1 rfl rfl rfl rfl rfl rfl rfl (RL.rd (t := 53) tCs_len hrok 5 rfl) (flat_all tCs_one _) (by show (0 + r.xs.length) * 24 ≤ _; omega) (by omega)) rfl (fun v L' h => by obtain ⟨a1, c1, rfl, hc1, rfl⟩ := h; exact (by (repeat refine Pd.filter ?_); exact hS _ (.tail _ (.tail _ (.head _))))) ?_)
      rintro v L' ⟨a1, c1, rfl, hc1, rfl⟩
      refine VA.go (VA.opP (OpT.append (m := 1) (news := tCs (key f)) 0 rfl rfl rfl rfl rfl rfl rfl (RdRow.pt 1 rfl rfl rfl) rfl (by show (0 + r.xs.length + 1) * 24 ≤ _; omega) (by omega)) rfl (fun v L' h => by obtain ⟨a2, c2, rfl, hc2, rfl⟩ := h; exact (by (repeat refine Pd.filter ?_); exact hS _ (.tail _ (.tail _ (.head _))))) ?_)
      rintro v L' ⟨a2, c2, rfl, hc2, rfl⟩
      refine VA.ent (L' := slH 53 3 a2 (r.xs ++ [key f]).length c2 (flat tCs (r.xs ++ [key f])) :: pt nb (tCs (key f)) 53 :: [pt fb (fmc (f, (none, 0))) 50, pt xb x.cells 35, admH p (A.offerM f nw).2, r.h 53, pt cb ((fitM c).cells a cap) 24]) (Imp.of_eq (by
        have e : slH 53 3 a2 (0 + r.xs.length + 1) c2 ([] ++ flat tCs r.xs ++ tCs (key f)) = slH 53 3 a2 (r.xs ++ [key f]).length c2 (flat tCs (r.xs ++ [key f])) := by simp [flat_append, flat_cons, flat_nil]
        rw [← e]; rfl)).ent ?_
      refine VA.exs _ _ (HOpn.st 0 rfl (HOpn.rl _ a2 c2 (r.xs ++ [key f]) tCs_len)) ?_
      rintro r' ⟨hok', hv', hx'⟩
      (repeat (first | refine VA.go (VA.nil ?_) | refine VA.go (VA.ld 0 rfl rfl rfl rfl rfl ?_)))
      have ev : Value.slice a2 (0 + r.xs.length + 1) c2 = r'.v := by rw [hv']; simp
      rw [ev]
      refine ⟨r', ⟨by rw [hx']; exact hB, hok'⟩, (Sub.cons rfl (Sub.cons rfl (Sub.cons rfl (Sub.cons rfl (Sub.cons rfl (Sub.cons rfl (Sub.cons rfl (Sub.nil _)))))))), ?_⟩
      refine (Imp.pick 3 rfl ?_).ent
      refine Imp.pick 3 rfl ?_
      refine Imp.pick 0 rfl ?_
      exact Imp.trans Imp.tl (Imp.trans Imp.tl Imp.tl)
  clear hrok hrl
  rintro r ⟨hB, hrok⟩
  have hle := le_offer hA.wf f nw
  generalize (A.offerM f nw).2 = B at hB hle ⊢
  clear hA
  (repeat (first | refine VC.seq ?_ | refine VC.region ?_ | refine VC.block ?_ | refine VC.label ?_ | refine VC.scope ?_ | refine VO.go (VO.nil ?_) | refine VO.go (VO.ld 0 rfl rfl rfl rfl ?_)))
  refine VC.condN rfl (fun h3 => ?_) (fun h3 => VC.skip ?_)
  · exact VC.exit ⟨(B, nw, r), ⟨hB, hrok, hnow.1, by dsimp only; omega⟩, (Sub.cons rfl (Sub.cons rfl (Sub.cons rfl (Sub.cons rfl (Sub.cons rfl (Sub.cons rfl (Sub.nil _))))))), Imp.tl.ent⟩
  refine VC.seq (VC.region ?_)
  refine VO.ent (L' := [admH p B, pt xb x.cells 35, r.h 53, pt cb ((fitM c).cells a cap) 24]) (Imp.perm (List.Perm.swap _ _ _)).ent ?_
  refine VO.go (VO.call (Lc := [admH p B]) (fun Fr w _ _ _ => next_spec Fr w p B nw hB.wf hB.calls) rfl rfl ?_)
  rintro _ _ ⟨rr, gm, hok, hgs, rfl, rfl⟩
  refine VO.go (VO.alloc rfl fun gb => VO.go (VO.stA (vs := fmc ((popV (B.expireM nw).sch).1, gm)) (cs' := fmc ((popV (B.expireM nw).sch).1, gm)) 0 rfl rfl rfl rfl (Nat.le_refl _) rfl rfl rfl (VO.go (VO.nil ?_))))
  have hE := hB.expire nw
  have hbars : ∀ g ∈ B.sch.goneM nw, (B.nextM nw).barred g.client g.seq g.try_ = true := fun g hg => (le_next' B nw).marks _ _ _ (expire_bars hB.wf hB.calls nw g hg)
  have hall := all_exp hB.wf nw
  have hD : B.nextM nw = if (popV (B.expireM nw).sch).2.1 then ((B.expireM nw).withSch (popV (B.expireM nw).sch).2.2).setWt (popV (B.expireM nw).sch).1.client 0 else (B.expireM nw).withSch (popV (B.expireM nw).sch).2.2 := rfl
  have hDw := next_wf hB.wf nw
  have hDc := next_calls hB.wf hB.calls nw
  have hDle := (le_next' B nw).clients
  generalize B.nextM nw = D at hbars hD hDw hDc hDle ⊢
  generalize B.expireM nw = B1 at hE hall hD hDle ⊢
  have hpop := hE.pop
  have hno : (popV B1.sch).2.1 = false → TInv (fitM c).clients (fitM c).qs.length (i + 1) D (dropAll r.xs (B.sch.goneM nw)) := fun h => by
    refine hE.same hDw hDc hDle ?_
    rw [hD, if_neg (by rw [h]; simp)]
    exact (popV_no hE.wf.sch h).2
  have hyes : (popV B1.sch).2.1 = true → TInv (fitM c).clients (fitM c).qs.length (i + 1) D (without (dropAll r.xs (B.sch.goneM nw)) (key (popV B1.sch).1)) := fun h => by
    rw [hD, if_pos h]
    exact (hpop h).2.2
  have hstay : (popV B1.sch).2.1 = true → ¬ (popV B1.sch).1.deadline < nw := fun h => by
    have := (hpop h).2.1
    rw [hall] at this
    have := (List.mem_filter.1 this).2
    simpa [stay, gone] using this
  have hfirst : (popV B1.sch).2.1 = true → ∃ i : Nat, (dropAll r.xs (B.sch.goneM nw))[i]? = some (key (popV B1.sch).1) ∧ ∀ j : Nat, j < i → ∀ y : T3, (dropAll r.xs (B.sch.goneM nw))[j]? = some y → (y.1 == (popV B1.sch).1.cls) = false := fun h => (hpop h).1
  have hgl : rr.xs.length ≤ 64 := by
    have := congrArg List.length hgs
    have hfew := hB.wf.sch.fewG B.sch.cls.length nw
    rw [List.take_length] at hfew
    rw [List.length_map] at this
    rw [this]; exact hfew
  clear hpop hD
  generalize (popV B1.sch).1 = g at hyes hstay hfirst ⊢
  generalize (popV B1.sch).2.1 = ok at hno hyes hstay hfirst ⊢
  refine VC.meet (σ := Unit) (fun _ => [(1, .slice (some ⟨lb, lo, none⟩) l.length lc), (2, .pointer (some ⟨cb, 0, none⟩)), (5, .pointer (some ⟨p, 0, none⟩)), (7, .int .i64 nw), (9, .int .i64 i), (8, r.v), (10, .pointer (some ⟨xb, 0, none⟩)), (12, .pointer (some ⟨gb, 0, none⟩)), (13, .bool ok), (14, rr.v)]) (fun _ => [pt gb (fmc (g, gm)) 50, rr.h 50, admH p D, r.h 53, pt cb ((fitM c).cells a cap) 24]) (fun _ => True) ?_ ?_
  · have drop : ∀ {X : Cx}, Ent X [pt gb (fmc (g, gm)) 50, rr.h 50, admH p D, pt xb x.cells 35, r.h 53, pt cb ((fitM c).cells a cap) 24] [pt gb (fmc (g, gm)) 50, rr.h 50, admH p D, r.h 53, pt cb ((fitM c).cells a cap) 24] := fun {X} => (Imp.cons (Imp.cons (Imp.cons Imp.tl))).ent
    (repeat (first | refine VC.seq ?_ | refine VC.region ?_ | refine VC.block ?_ | refine VC.label ?_ | refine VC.scope ?_ | refine VO.go (VO.nil ?_) | refine VO.go (VO.ld 0 rfl rfl rfl rfl ?_)))
    refine VO.go (VO.split 104 rfl rfl (fun h4 => ?_) (fun h4 => VO.go (VO.nil (VC.condF rfl (VC.skip ⟨(), trivial, (h4 ▸ (Sub.cons rfl (Sub.cons rfl (Sub.cons rfl (Sub.cons rfl (Sub.cons rfl (Sub.cons rfl (Sub.cons rfl (Sub.cons rfl (Sub.cons rfl (Sub.cons rfl (Sub.nil _)))))))))))), drop⟩)))))
    refine VO.go (VO.ld 0 rfl rfl rfl rfl (VO.go (VO.nil ?_)))
    exact VC.condP rfl (fun h => absurd h (hstay h4)) (fun _ => VC.skip ⟨(), trivial, (h4 ▸ (Sub.cons rfl (Sub.cons rfl (Sub.cons rfl (Sub.cons rfl (Sub.cons rfl (Sub.cons rfl (Sub.cons rfl (Sub.cons rfl (Sub.cons rfl (Sub.cons rfl (Sub.nil _)))))))))))), drop⟩)
  intro _ _
  refine VC.meet (σ := RL T3) (fun r => [(1, .slice (some ⟨lb, lo, none⟩) l.length lc), (2, .pointer (some ⟨cb, 0, none⟩)), (5, .pointer (some ⟨p, 0, none⟩)), (7, .int .i64 nw), (9, .int .i64 i), (8, r.v), (12, .pointer (some ⟨gb, 0, none⟩)), (13, .bool ok)]) (fun r => [pt gb (fmc (g, gm)) 50, admH p D, r.h 53, pt cb ((fitM c).cells a cap) 24]) (fun r' => r'.Ok tCs 3 ∧ r'.xs = dropAll r.xs (B.sch.goneM nw)) ?_ ?_
  · (repeat (first | refine VC.seq ?_ | refine VC.region ?_ | refine VC.block ?_ | refine VC.label ?_ | refine VC.scope ?_ | refine VO.go (VO.nil ?_) | refine VO.go (VO.ld 0 rfl rfl rfl rfl ?_)))
    refine VC.loop (σ := Nat × RL T3) (fun y => [(1, .slice (some ⟨lb, lo, none⟩) l.length lc), (2, .pointer (some ⟨cb, 0, none⟩)), (5, .pointer (some ⟨p, 0, none⟩)), (7, .int .i64 nw), (9, .int .i64 i), (8, y.2.v), (12, .pointer (some ⟨gb, 0, none⟩)), (13, .bool ok), (14, rr.v), (15, .int .i64 y.1)]) (fun y => [rr.h 50, y.2.h 53, pt gb (fmc (g, gm)) 50, admH p D, pt cb ((fitM c).cells a cap) 24]) (fun y => y.1 ≤ rr.xs.length ∧ y.2.Ok tCs 3 ∧ y.2.xs = dropAll r.xs ((B.sch.goneM nw).take y.1)) (fun y => rr.xs.length - y.1) (0, r) ⟨Nat.zero_le _, hrok, rfl⟩ (Sub.cons rfl (Sub.cons rfl (Sub.cons rfl (Sub.cons rfl (Sub.cons rfl (Sub.cons rfl (Sub.cons rfl (Sub.cons rfl (Sub.cons rfl (Sub.cons rfl (Sub.nil _))))))))))) ?_ ?_
    · refine (Imp.pick 1 rfl ?_).ent
      refine Imp.pick 2 rfl ?_
      exact Imp.refl
    rintro ⟨k, rk⟩ ⟨hk, hrk, hrx⟩
    dsimp only at hk hrk hrx ⊢
    (repeat (first | refine VC.seq ?_ | refine VC.region ?_ | refine VC.block ?_ | refine VC.label ?_ | refine VC.scope ?_ | refine VO.go (VO.nil ?_) | refine VO.go (VO.ld 0 rfl rfl rfl rfl ?_)))
    refine VC.condP rfl (fun h5 => VC.skip ?_) (fun h5 => VC.exit ?_)
    rotate_left
    · have h5 : ¬ (k : Int) < rr.xs.length := h5
      have hke : k = rr.xs.length := by omega
      have e : (B.sch.goneM nw).take k = B.sch.goneM nw := by rw [List.take_of_length_le]; rw [hke, ← hgs]; simp
      rw [e] at hrx
      refine ⟨rk, ⟨hrk, hrx⟩, (Sub.cons rfl (Sub.cons rfl (Sub.cons rfl (Sub.cons rfl (Sub.cons rfl (Sub.cons rfl (Sub.cons rfl (Sub.cons rfl (Sub.nil _))))))))), ?_⟩
      refine (Imp.pick 2 rfl ?_).ent
      refine Imp.pick 2 rfl ?_
      exact Imp.tl
    have hk2 : k < rr.xs.length := by have h5 : (k : Int) < rr.xs.length := h5; omega
    obtain ⟨⟨gg, ggm⟩, hgx⟩ : ∃ y, rr.xs[k]? = some y := ⟨_, List.getElem?_eq_getElem hk2⟩
    obtain ⟨bk, off, hbk, had, hrow⟩ := hok.nth hgx
    have hg : (B.sch.goneM nw)[k]? = some gg := by rw [← hgs, List.getElem?_map, hgx]; rfl
    have hgm := List.mem_of_getElem? hg
    have hgd : gg.deadline < nw := by
      rw [gone_all] at hgm
      have := (List.mem_filter.1 hgm).2
      simpa [gone] using this
    have hgb := hbars gg hgm
    have hone := hB.gone1 nw hg
    have htake : (B.sch.goneM nw).take (k + 1) = (B.sch.goneM nw).take k ++ [gg] := by rw [List.take_add_one, hg]; rfl
    have hv' : some rr.v = some (.slice (some ⟨bk, off, none⟩) rr.xs.length rr.cap) := by rw [RL.v, had]
    have hcl2 : ∀ {j : Nat} {v : Value}, j < 29 → (fmc (gg, ggm))[j]? = some v → rr.cells[off + k * 29 + j]? = some v := fun {j v} hj h => by
      rw [← hrow, List.getElem?_take, if_pos hj, List.getElem?_drop] at h
      exact h
    have hrkl : rk.xs.length ≤ 1000 := by
      have h1 : rk.xs.length ≤ r.xs.length := by rw [hrx, dropAll_eq]; exact List.length_filter_le _ _
      have := hB.few
      omega
    rw [RL.h_pt hbk]
    refine VC.seq (VC.block ?_)
    refine VC.seq (VC.seq (VC.draw (ts 0 24 (.only 24 (ts 25 2 .nil))) (by kernel_rfl) (by decide +kernel) ?_))
    refine VA.go (VA.light rfl (light_idx k hv' rfl rfl rfl rfl rfl hk2) ?_)
    refine VA.go (VA.ld 0 rfl rfl rfl rfl (hcl2 (j := 6) (by omega) rfl) ?_)
    refine VA.go (VA.yes 123 false rfl (decide_eq_false (by show ¬ nw ≤ gg.deadline; omega)) ?_)
    refine VA.go (VA.light rfl (light_idx k hv' rfl rfl rfl rfl rfl hk2) ?_)
    refine VA.go (VA.ld 0 rfl rfl rfl rfl (hcl2 (j := 2) (by omega) rfl) ?_)
    refine VA.go (VA.light rfl (light_idx k hv' rfl rfl rfl rfl rfl hk2) ?_)
    refine VA.go (VA.ld 0 rfl rfl rfl rfl (hcl2 (j := 3) (by omega) rfl) ?_)
    refine VA.go (VA.light rfl (light_idx k hv' rfl rfl rfl rfl rfl hk2) ?_)
    refine VA.go (VA.ld 0 rfl rfl rfl rfl (hcl2 (j := 4) (by omega) rfl) ?_)
    refine VA.go (VA.callP (φ := fun v => v = .bool true) (fun Fr w hF _ hs => by
      have := barred_spec Fr w gg.client gg.seq gg.try_ (hs.at_ 3 rfl)
      rw [hgb] at this
      exact this) rfl rfl (by (try refine Pd.st ?_); (repeat (first | exact Pd.nil | exact Pd.fnil | refine Pd.inner ?_ | refine Pd.skip (by decide +kernel) ?_ | refine Pd.fcons (RdL.one 0 rfl rfl) ?_ | refine Pd.fcons (RdL.one 1 rfl rfl) ?_ | refine Pd.fcons (RdL.one 2 rfl rfl) ?_ | refine Pd.fcons (RdL.many 0 rfl rfl) ?_ | refine Pd.fcons (RdL.many 1 rfl rfl) ?_ | refine Pd.fcons (RdL.many 2 rfl rfl) ?_ | refine Pd.fcons (RdL.blk (RdL.one 0 rfl (hcl2 (j := 6) (by omega) rfl)) rfl) ?_ | refine Pd.fcons (RdL.blk (RdL.one 0 rfl (hcl2 (j := 2) (by omega) rfl)) rfl) ?_ | refine Pd.fcons (RdL.blk (RdL.one 0 rfl (hcl2 (j := 3) (by omega) rfl)) rfl) ?_ | refine Pd.fcons (RdL.blk (RdL.one 0 rfl (hcl2 (j := 4) (by omega) rfl)) rfl) ?_ | refine Pd.fcons ((RdL.one 0 rfl (hcl2 (j := 6) (by omega) rfl))) ?_ | refine Pd.fcons ((RdL.one 0 rfl (hcl2 (j := 2) (by omega) rfl))) ?_ | refine Pd.fcons ((RdL.one 0 rfl (hcl2 (j := 3) (by omega) rfl))) ?_ | refine Pd.fcons ((RdL.one 0 rfl (hcl2 (j := 4) (by omega) rfl))) ?_ | refine Pd.cons (RdL.one 0 rfl rfl) ?_ | refine Pd.cons (RdL.one 1 rfl rfl) ?_ | refine Pd.cons (RdL.one 2 rfl rfl) ?_ | refine Pd.cons (RdL.many 0 rfl rfl) ?_ | refine Pd.cons (RdL.many 1 rfl rfl) ?_ | refine Pd.cons (RdL.many 2 rfl rfl) ?_ | refine Pd.cons (RdL.blk (RdL.one 0 rfl (hcl2 (j := 6) (by omega) rfl)) rfl) ?_ | refine Pd.cons (RdL.blk (RdL.one 0 rfl (hcl2 (j := 2) (by omega) rfl)) rfl) ?_ | refine Pd.cons (RdL.blk (RdL.one 0 rfl (hcl2 (j := 3) (by omega) rfl)) rfl) ?_ | refine Pd.cons (RdL.blk (RdL.one 0 rfl (hcl2 (j := 4) (by omega) rfl)) rfl) ?_ | refine Pd.cons ((RdL.one 0 rfl (hcl2 (j := 6) (by omega) rfl))) ?_ | refine Pd.cons ((RdL.one 0 rfl (hcl2 (j := 2) (by omega) rfl))) ?_ | refine Pd.cons ((RdL.one 0 rfl (hcl2 (j := 3) (by omega) rfl))) ?_ | refine Pd.cons ((RdL.one 0 rfl (hcl2 (j := 4) (by omega) rfl))) ?_))) ?_)
    rintro _ rfl
    (repeat (first | refine VA.go (VA.nil ?_) | refine VA.go (VA.ld 0 rfl rfl rfl rfl rfl ?_)))
    refine VC.condF rfl (VC.skip ?_)
    refine VC.seq (VC.draw (ts 0 16 (.only 16 (.take 17 .nil))) (by kernel_rfl) (by decide +kernel) ?_)
    refine VA.go (VA.light rfl (light_idx k hv' rfl rfl rfl rfl rfl hk2) ?_)
    refine VA.go (VA.ld 0 rfl rfl rfl rfl (hcl2 (j := 5) (by omega) rfl) ?_)
    refine VA.go (VA.light rfl (light_idx k hv' rfl rfl rfl rfl rfl hk2) ?_)
    refine VA.go (VA.ld 0 rfl rfl rfl rfl (hcl2 (j := 2) (by omega) rfl) ?_)
    refine VA.go (VA.light rfl (light_idx k hv' rfl rfl rfl rfl rfl hk2) ?_)
    refine VA.go (VA.ld 0 rfl rfl rfl rfl (hcl2 (j := 3) (by omega) rfl) ?_)
    refine VA.go (VA.opP (OpT.call rfl (Lc := []) (List.Perm.refl _) (fun Fr w _ _ h2 => left_spec Fr w rk.addr rk.cap rk.xs (key gg) (RowsIn.rl hrk (h2.at_ 1 rfl)) hrkl)) rfl ?_ ?_)
    · rintro v L' ⟨L1, ⟨r2, h7, h8, rfl, rfl⟩, rfl⟩
      exact (by (try refine Pd.st ?_); (repeat (first | exact Pd.nil | exact Pd.fnil | refine Pd.inner ?_ | refine Pd.skip (by decide +kernel) ?_ | refine Pd.fcons (RdL.one 0 rfl rfl) ?_ | refine Pd.fcons (RdL.one 1 rfl rfl) ?_ | refine Pd.fcons (RdL.one 2 rfl rfl) ?_ | refine Pd.fcons (RdL.many 0 rfl rfl) ?_ | refine Pd.fcons (RdL.many 1 rfl rfl) ?_ | refine Pd.fcons (RdL.many 2 rfl rfl) ?_ | refine Pd.fcons (RdL.blk (RdL.one 1 rfl (hcl2 (j := 5) (by omega) rfl)) rfl) ?_ | refine Pd.fcons (RdL.blk (RdL.one 1 rfl (hcl2 (j := 2) (by omega) rfl)) rfl) ?_ | refine Pd.fcons (RdL.blk (RdL.one 1 rfl (hcl2 (j := 3) (by omega) rfl)) rfl) ?_ | refine Pd.fcons ((RdL.one 1 rfl (hcl2 (j := 5) (by omega) rfl))) ?_ | refine Pd.fcons ((RdL.one 1 rfl (hcl2 (j := 2) (by omega) rfl))) ?_ | refine Pd.fcons ((RdL.one 1 rfl (hcl2 (j := 3) (by omega) rfl))) ?_ | refine Pd.cons (RdL.one 0 rfl rfl) ?_ | refine Pd.cons (RdL.one 1 rfl rfl) ?_ | refine Pd.cons (RdL.one 2 rfl rfl) ?_ | refine Pd.cons (RdL.many 0 rfl rfl) ?_ | refine Pd.cons (RdL.many 1 rfl rfl) ?_ | refine Pd.cons (RdL.many 2 rfl rfl) ?_ | refine Pd.cons (RdL.blk (RdL.one 1 rfl (hcl2 (j := 5) (by omega) rfl)) rfl) ?_ | refine Pd.cons (RdL.blk (RdL.one 1 rfl (hcl2 (j := 2) (by omega) rfl)) rfl) ?_ | refine Pd.cons (RdL.blk (RdL.one 1 rfl (hcl2 (j := 3) (by omega) rfl)) rfl) ?_ | refine Pd.cons ((RdL.one 1 rfl (hcl2 (j := 5) (by omega) rfl))) ?_ | refine Pd.cons ((RdL.one 1 rfl (hcl2 (j := 2) (by omega) rfl))) ?_ | refine Pd.cons ((RdL.one 1 rfl (hcl2 (j := 3) (by omega) rfl))) ?_)))
    rintro v L' ⟨L1, ⟨r2, h7, h8, rfl, rfl⟩, rfl⟩
    (repeat (first | refine VA.go (VA.nil ?_) | refine VA.go (VA.ld 0 rfl rfl rfl rfl rfl ?_)))
    (repeat (first | refine VC.seq ?_ | refine VC.region ?_ | refine VC.block ?_ | refine VC.label ?_ | refine VC.scope ?_ | refine VO.go (VO.nil ?_) | refine VO.go (VO.ld 0 rfl rfl rfl rfl ?_)))
    have hlen2 : r2.xs.length + 1 = rk.xs.length := by rw [h8, hrx]; exact hone
    refine VO.go (VO.sub' rfl rfl (by omega) (by omega) (VO.go (VO.nil ?_)))
    refine VC.condNE rfl (fun h => absurd (by show (r2.xs.length : Int) = rk.xs.length - 1; omega) h) (fun _ => VC.skip ?_)
    (repeat (first | refine VC.seq ?_ | refine VC.region ?_ | refine VC.block ?_ | refine VC.label ?_ | refine VC.scope ?_ | refine VO.go (VO.nil ?_) | refine VO.go (VO.ld 0 rfl rfl rfl rfl ?_)))
    refine VO.go (VO.add rfl rfl (by omega) (by omega) ?_)
    (repeat (first | refine VC.seq ?_ | refine VC.region ?_ | refine VC.block ?_ | refine VC.label ?_ | refine VC.scope ?_ | refine VO.go (VO.nil ?_) | refine VO.go (VO.ld 0 rfl rfl rfl rfl ?_)))
    refine ⟨(k + 1, r2), ⟨hk2, h7, ?_⟩, by dsimp only; omega, (Sub.cons rfl (Sub.cons rfl (Sub.cons rfl (Sub.cons rfl (Sub.cons rfl (Sub.cons rfl (Sub.cons rfl (Sub.cons rfl (Sub.cons rfl (Sub.cons rfl (Sub.nil _))))))))))), ?_⟩
    · dsimp only; rw [h8, hrx, htake, dropAll_snoc]
    · refine (Imp.pick 1 rfl ?_).ent
      refine Imp.pick 0 rfl ?_
      exact Imp.tl
  rintro r' ⟨hr', hrx'⟩
  rw [← hrx'] at hno hyes hfirst
  have hrl' : r'.xs.length ≤ 60 := by
    have h1 : r'.xs.length ≤ r.xs.length := by rw [hrx', dropAll_eq]; exact List.length_filter_le _ _
    have := hB.few
    omega
  (repeat (first | refine VC.seq ?_ | refine VC.region ?_ | refine VC.block ?_ | refine VC.label ?_ | refine VC.scope ?_ | refine VO.go (VO.nil ?_) | refine VO.go (VO.ld 0 rfl rfl rfl rfl ?_)))
  refine VC.cond rfl (fun h4 => ?_) (fun h4 => VC.skip ⟨(D, nw, r'), ⟨hno h4, hr', hnow.1, by dsimp only; omega⟩, (Sub.cons rfl (Sub.cons rfl (Sub.cons rfl (Sub.cons rfl (Sub.cons rfl (Sub.cons rfl (Sub.nil _))))))), ?_⟩)
  rotate_left
  · exact Imp.tl.ent
  obtain ⟨i0, hi0, hbefore⟩ := hfirst h4
  have hi0l := (List.getElem?_eq_some_iff.1 hi0).1
  obtain ⟨b0, off0, hb0, had0, _⟩ := hr'.nth hi0
  have hv0 : some r'.v = some (.slice (some ⟨b0, off0, none⟩) r'.xs.length r'.cap) := by rw [RL.v, had0]
  have hrowc : ∀ {k : Nat} {t : T3} {j : Nat} {v : Value}, r'.xs[k]? = some t → j < 3 → (tCs t)[j]? = some v → r'.cells[off0 + k * 3 + j * 1]? = some v := fun {k t j v} hk hj h => by
    obtain ⟨b1, off1, hb1, had1, hrow⟩ := hr'.nth hk
    have e : off1 = off0 := by rw [had0] at had1; cases had1; rfl
    subst e
    rw [← hrow, List.getElem?_take, if_pos hj, List.getElem?_drop] at h
    rw [Nat.mul_one]; exact h
  rw [RL.h_pt hb0]
  refine VC.seq (VC.region (VO.go (VO.nil ?_)))
  refine VC.meet (σ := Unit) (fun _ => [(1, .slice (some ⟨lb, lo, none⟩) l.length lc), (2, .pointer (some ⟨cb, 0, none⟩)), (5, .pointer (some ⟨p, 0, none⟩)), (7, .int .i64 nw), (9, .int .i64 i), (8, r'.v), (12, .pointer (some ⟨gb, 0, none⟩)), (17, .int .i64 i0)]) (fun _ => [pt gb (fmc (g, gm)) 50, admH p D, pt b0 r'.cells 53, pt cb ((fitM c).cells a cap) 24]) (fun _ => True) ?_ ?_
  · refine VC.seq (VC.region (VO.go (VO.sub' rfl rfl (by omega) (by omega) (VO.go (VO.nil ?_)))))
    (repeat (first | refine VC.seq ?_ | refine VC.region ?_ | refine VC.block ?_ | refine VC.label ?_ | refine VC.scope ?_ | refine VO.go (VO.nil ?_) | refine VO.go (VO.ld 0 rfl rfl rfl rfl ?_)))
    refine VC.loop (σ := Nat × Int) (fun y => [(1, .slice (some ⟨lb, lo, none⟩) l.length lc), (2, .pointer (some ⟨cb, 0, none⟩)), (5, .pointer (some ⟨p, 0, none⟩)), (7, .int .i64 nw), (9, .int .i64 i), (8, r'.v), (12, .pointer (some ⟨gb, 0, none⟩)), (17, .int .i64 y.2), (18, .int .i64 ((y.1 : Int) - 1))]) (fun _ => [pt gb (fmc (g, gm)) 50, admH p D, pt b0 r'.cells 53, pt cb ((fitM c).cells a cap) 24]) (fun y => y.1 ≤ r'.xs.length ∧ (y.1 ≤ i0 → y.2 = i0)) (fun y => y.1) (r'.xs.length, -1) ⟨Nat.le_refl _, fun h => by dsimp only at h; omega⟩ (Sub.cons rfl (Sub.cons rfl (Sub.cons rfl (Sub.cons rfl (Sub.cons rfl (Sub.cons rfl (Sub.cons rfl (Sub.cons rfl (Sub.cons rfl (Sub.nil _)))))))))) Ent.refl ?_
    rintro ⟨j, fi⟩ ⟨hj, hfi⟩
    dsimp only at hj hfi ⊢
    (repeat (first | refine VC.seq ?_ | refine VC.region ?_ | refine VC.block ?_ | refine VC.label ?_ | refine VC.scope ?_ | refine VO.go (VO.nil ?_) | refine VO.go (VO.ld 0 rfl rfl rfl rfl ?_)))
    refine VC.condP rfl (fun h5 => VC.skip ?_) (fun h5 => VC.exit ?_)
    rotate_left
    · have h5 : ¬ (0 : Int) ≤ (j : Int) - 1 := h5
      have := hfi (by omega)
      subst this
      exact ⟨(), trivial, (Sub.cons rfl (Sub.cons rfl (Sub.cons rfl (Sub.cons rfl (Sub.cons rfl (Sub.cons rfl (Sub.cons rfl (Sub.cons rfl (Sub.nil _))))))))), Ent.refl⟩
    have h5 : (0 : Int) ≤ (j : Int) - 1 := h5
    obtain ⟨k, rfl⟩ : ∃ k, j = k + 1 := ⟨j - 1, by omega⟩
    have hkl : k < r'.xs.length := by omega
    have hki : (((k + 1 : Nat) : Int) - 1) = (k : Int) := by omega
    obtain ⟨t, ht⟩ : ∃ t, r'.xs[k]? = some t := ⟨_, List.getElem?_eq_getElem hkl⟩
    refine VC.seq (VC.block ?_)
    refine VC.seq (VC.draw (ts 0 8 .nil) (by kernel_rfl) (by decide +kernel) ?_)
    refine VA.go (VA.light rfl (light_idx k hv0 rfl rfl rfl rfl hki hkl) ?_)
    refine VA.go (VA.light rfl (light_idxA 0 rfl rfl rfl rfl rfl rfl (by omega)) ?_)
    refine VA.go (VA.ld 2 rfl rfl rfl rfl (hrowc (j := 0) ht (by omega) rfl) ?_)
    refine VA.go (VA.ld 0 rfl rfl rfl rfl rfl ?_)
    (repeat (first | refine VA.go (VA.nil ?_) | refine VA.go (VA.ld 0 rfl rfl rfl rfl rfl ?_)))
    refine VC.condE rfl (fun h6 => ?_) (fun h6 => VC.skip ?_)
    · have hge : i0 ≤ k := by
        apply Decidable.byContradiction
        intro hn
        have := hbefore k (by omega) t ht
        rw [beq_eq_false_iff_ne] at this
        exact this h6
      (repeat (first | refine VC.seq ?_ | refine VC.region ?_ | refine VC.block ?_ | refine VC.label ?_ | refine VC.scope ?_ | refine VO.go (VO.nil ?_) | refine VO.go (VO.ld 0 rfl rfl rfl rfl ?_)))
      refine VO.go (VO.sub' rfl rfl (by omega) (by omega) ?_)
      (repeat (first | refine VC.seq ?_ | refine VC.region ?_ | refine VC.block ?_ | refine VC.label ?_ | refine VC.scope ?_ | refine VO.go (VO.nil ?_) | refine VO.go (VO.ld 0 rfl rfl rfl rfl ?_)))
      refine ⟨(k, (k : Int)), ⟨by omega, fun h => by dsimp only at h ⊢; omega⟩, by dsimp only; omega, (Sub.cons rfl (Sub.cons rfl (Sub.cons rfl (Sub.cons rfl (Sub.cons rfl (Sub.cons rfl (Sub.cons rfl (Sub.int rfl (by push_cast; omega) (Sub.int rfl (by push_cast; omega) (Sub.nil _)))))))))), Ent.refl⟩
    · (repeat (first | refine VC.seq ?_ | refine VC.region ?_ | refine VC.block ?_ | refine VC.label ?_ | refine VC.scope ?_ | refine VO.go (VO.nil ?_) | refine VO.go (VO.ld 0 rfl rfl rfl rfl ?_)))
      refine VO.go (VO.sub' rfl rfl (by omega) (by omega) ?_)
      (repeat (first | refine VC.seq ?_ | refine VC.region ?_ | refine VC.block ?_ | refine VC.label ?_ | refine VC.scope ?_ | refine VO.go (VO.nil ?_) | refine VO.go (VO.ld 0 rfl rfl rfl rfl ?_)))
      refine ⟨(k, fi), ⟨by omega, fun h => ?_⟩, by dsimp only; omega, (Sub.cons rfl (Sub.cons rfl (Sub.cons rfl (Sub.cons rfl (Sub.cons rfl (Sub.cons rfl (Sub.cons rfl (Sub.cons rfl (Sub.int rfl (by push_cast; omega) (Sub.nil _)))))))))), Ent.refl⟩
      dsimp only at h ⊢
      apply hfi
      by_cases he : k = i0
      · subst he
        rw [hi0] at ht
        cases ht
        exact absurd rfl h6
      · omega
  intro _ _
  refine VC.seq (VC.seq (VC.draw (ts 0 22 .nil) (by kernel_rfl) (by decide +kernel) ?_))
  refine VA.go (VA.yes 186 false rfl (decide_eq_false (by omega)) ?_)
  refine VA.go (VA.light rfl (light_idx i0 hv0 rfl rfl rfl rfl rfl hi0l) ?_)
  refine VA.go (VA.light rfl (light_idxA 1 rfl rfl rfl rfl rfl rfl (by omega)) ?_)
  refine VA.go (VA.ld 2 rfl rfl rfl rfl (hrowc (j := 1) hi0 (by omega) rfl) ?_)
  refine VA.go (VA.ld 0 rfl rfl rfl rfl rfl ?_)
  refine VA.go (VA.yes 196 false rfl (by show (g.client != g.client) = false; simp) ?_)
  refine VA.go (VA.light rfl (light_idx i0 hv0 rfl rfl rfl rfl rfl hi0l) ?_)
  refine VA.go (VA.light rfl (light_idxA 2 rfl rfl rfl rfl rfl rfl (by omega)) ?_)
  refine VA.go (VA.ld 2 rfl rfl rfl rfl (hrowc (j := 2) hi0 (by omega) rfl) ?_)
  refine VA.go (VA.ld 0 rfl rfl rfl rfl rfl ?_)
  (repeat (first | refine VA.go (VA.nil ?_) | refine VA.go (VA.ld 0 rfl rfl rfl rfl rfl ?_)))
  refine VC.condNE rfl (fun h => absurd rfl h) (fun _ => VC.skip ?_)
  refine VC.region ?_
  refine VO.go (VO.ld 0 rfl rfl rfl rfl (VO.go (VO.ld 0 rfl rfl rfl rfl (VO.go (VO.ld 0 rfl rfl rfl rfl ?_)))))
  refine VO.go (VO.call (Lc := []) (fun Fr w _ _ h2 => left_spec Fr w r'.addr r'.cap r'.xs (key g) (RowsIn.rl hr' (by rw [RL.h_pt hb0]; exact h2.at_ 2 rfl)) (by omega)) rfl rfl ?_)
  rintro _ _ ⟨r2, h7, h8, rfl, rfl⟩
  refine VO.go (VO.nil ?_)
  refine ⟨(D, nw, r2), ⟨by have := hyes h4; rw [← h8] at this; exact this, h7, hnow.1, by dsimp only; omega⟩, (Sub.cons rfl (Sub.cons rfl (Sub.cons rfl (Sub.cons rfl (Sub.cons rfl (Sub.cons rfl (Sub.nil _))))))), ?_⟩
  refine (Imp.pick 2 rfl ?_).ent
  refine Imp.pick 0 rfl ?_
  exact Imp.trans Imp.tl Imp.tl
end Go.Proofs.Ytoinocihlfmnnaa.Adm
