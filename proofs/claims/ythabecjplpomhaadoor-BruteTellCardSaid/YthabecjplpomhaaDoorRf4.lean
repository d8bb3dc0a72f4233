/- Layer 33's reference: an update carried out on the cells. No condition. -/
import Derived.Test.YthabecjplpomhaaDoorRf3
namespace Go.Proofs.YthabecjplpomhaaDoor.Br
open Go Go.Proofs.YthabecjplpomhaaDoor.Vg Go.Proofs.YthabecjplpomhaaDoor.T Go.Proofs.YthabecjplpomhaaDoor.Api Go.Proofs.YthabecjplpomhaaDoor.Kv Go.Proofs.YthabecjplpomhaaDoor.LibC
set_option linter.unusedSimpArgs false
set_option linter.unusedVariables false
attribute [local irreducible] VO VC VA

/-- What an update leaves: the same slice, or a new one. -/
def ApOut (C : KvM) (a : Option Addr) (cap : Nat) (n : Int) (o : OpM) (v : Value) (L : List HP) : Prop :=
  ∃ (C' : KvM) (a' : Option Addr) (c' : Nat), mGet C' = (applyF (mGet C) n o).1 ∧ C'.length ≤ C.length + 1 ∧ v = .tuple #[.slice a' C'.length c', .agg (resC (applyF (mGet C) n o).2).toArray] ∧
    ((a' = a ∧ c' = cap ∧ C' = C ∧ L = []) ∨ L = [slH 74 3 a' C'.length c' (flat cC C')])
theorem ApOut.same {C : KvM} {a : Option Addr} {cap : Nat} {n : Int} {o : OpM} {R : ResM} (h : applyF (mGet C) n o = (mGet C, R)) : ApOut C a cap n o (.tuple #[.slice a C.length cap, .agg (resC R).toArray]) [] :=
  ⟨C, a, cap, by rw [h], Nat.le_succ _, by rw [h], .inl ⟨rfl, rfl, rfl, rfl⟩⟩

set_option maxRecDepth 100000 in
set_option maxHeartbeats 1000000 in
theorem rapply_spec (Fr : Nat → Prop) (w : World) {a : Option Addr} {cap : Nat} {C : KvM} (h : ClIn Fr w a C) (hl : C.length ≤ 1000) (n : Int) (o : OpM) :
    Tri Tryd.prog 20 [.slice a C.length cap, .int .i64 n, .agg o.cells.toArray] Fr w [] (fun v L => ApOut C a cap n o v L) := by
  refine Tri.of 71 Tryd.func20 rfl (by kernel_rfl) tabOk rfl rfl ?_
  (repeat (first | refine VC.seq ?_ | refine VC.region ?_ | refine VC.block ?_ | refine VC.label ?_ | refine VC.scope ?_ | refine VO.go (VO.nil ?_) | refine VO.go (VO.ld 0 rfl rfl rfl rfl ?_)))
  refine VO.go (VO.boxA (vs := o.cells) rfl fun ob => ?_)
  (repeat (first | refine VC.seq ?_ | refine VC.region ?_ | refine VC.block ?_ | refine VC.label ?_ | refine VC.scope ?_ | refine VO.go (VO.nil ?_) | refine VO.go (VO.ld 0 rfl rfl rfl rfl ?_)))
  refine VO.go (VO.alloc rfl fun rb => ?_)
  refine VO.go (VO.nil (VC.seq (VC.seq ?_)))
  refine VC.meetS (σ := Bool) (fun t => [(0, .slice a C.length cap), (1, .int .i64 n), (5, .pointer (some ⟨ob, 0, none⟩)), (7, .pointer (some ⟨rb, 0, none⟩)), (19, .bool t)]) (fun _ => [pt rb (resC resZ) 29, pt ob o.cells 27]) (fun t => t = true ↔ (n < 1 ∨ 4096 < n ∨ opCheck o ≠ 0)) ?_ ?_
  · refine VC.region ?_
    (repeat (first | refine VC.seq ?_ | refine VC.region ?_ | refine VC.block ?_ | refine VC.label ?_ | refine VC.scope ?_ | refine VO.go (VO.nil ?_) | refine VO.go (VO.ld 0 rfl rfl rfl rfl ?_)))
    refine VO.go (VO.split 11 rfl rfl (fun h1 => ?_) (fun h1 => ?_))
    · have h1 := of_decide_eq_true h1
      (repeat (first | refine VC.seq ?_ | refine VC.region ?_ | refine VC.block ?_ | refine VC.label ?_ | refine VC.scope ?_ | refine VO.go (VO.nil ?_) | refine VO.go (VO.ld 0 rfl rfl rfl rfl ?_) | refine VO.go (VO.offU rfl rfl rfl ?_)))
      refine VO.go (VO.yes 15 true rfl rfl ?_)
      (repeat (first | refine VC.seq ?_ | refine VC.region ?_ | refine VC.block ?_ | refine VC.label ?_ | refine VC.scope ?_ | refine VO.go (VO.nil ?_) | refine VO.go (VO.ld 0 rfl rfl rfl rfl ?_) | refine VO.go (VO.offU rfl rfl rfl ?_)))
      exact ⟨true, by simp [h1], Sub.cons rfl (Sub.cons rfl (Sub.cons rfl (Sub.cons rfl (Sub.cons rfl (Sub.nil _))))), Ent.refl⟩
    have h1 := of_decide_eq_false h1
    (repeat (first | refine VC.seq ?_ | refine VC.region ?_ | refine VC.block ?_ | refine VC.label ?_ | refine VC.scope ?_ | refine VO.go (VO.nil ?_) | refine VO.go (VO.ld 0 rfl rfl rfl rfl ?_)))
    refine VO.go (VO.split 15 rfl rfl (fun h2 => ?_) (fun h2 => ?_))
    · have h2 := of_decide_eq_true h2
      (repeat (first | refine VC.seq ?_ | refine VC.region ?_ | refine VC.block ?_ | refine VC.label ?_ | refine VC.scope ?_ | refine VO.go (VO.nil ?_) | refine VO.go (VO.ld 0 rfl rfl rfl rfl ?_) | refine VO.go (VO.offU rfl rfl rfl ?_)))
      exact ⟨true, by simp [h2], Sub.cons rfl (Sub.cons rfl (Sub.cons rfl (Sub.cons rfl (Sub.cons rfl (Sub.nil _))))), Ent.refl⟩
    have h2 := of_decide_eq_false h2
    (repeat (first | refine VC.seq ?_ | refine VC.region ?_ | refine VC.block ?_ | refine VC.label ?_ | refine VC.scope ?_ | refine VO.go (VO.nil ?_) | refine VO.go (VO.ld 0 rfl rfl rfl rfl ?_)))
    refine VO.go (VO.ldA 1 o.cells rfl rfl rfl rfl ?_)
    refine VO.go (VO.callV (fun Fr w => rcheck_spec Fr w o) rfl ?_)
    (repeat (first | refine VC.seq ?_ | refine VC.region ?_ | refine VC.block ?_ | refine VC.label ?_ | refine VC.scope ?_ | refine VO.go (VO.nil ?_) | refine VO.go (VO.ld 0 rfl rfl rfl rfl ?_)))
    exact ⟨_, by simp [h1, h2], Sub.cons rfl (Sub.cons rfl (Sub.cons rfl (Sub.cons rfl (Sub.cons rfl (Sub.nil _))))), Ent.refl⟩
  intro t ht
  refine VC.cond rfl (fun h1 => ?_) (fun h1 => VC.skip ?_)
  · have hb := ht.1 h1
    have e1 : applyF (mGet C) n o = (mGet C, resZ) := by rw [applyF, if_pos hb]
    (repeat (first | refine VC.seq ?_ | refine VC.region ?_ | refine VC.block ?_ | refine VC.label ?_ | refine VC.scope ?_ | refine VO.go (VO.nil ?_) | refine VO.go (VO.ld 0 rfl rfl rfl rfl ?_)))
    refine VO.go (VO.light (light_build (pv := []) (resC resZ) rfl rfl rfl (by kernel_rfl) rfl) ?_)
    (repeat (first | refine VC.seq ?_ | refine VC.region ?_ | refine VC.block ?_ | refine VC.label ?_ | refine VC.scope ?_ | refine VO.go (VO.nil ?_) | refine VO.go (VO.ld 0 rfl rfl rfl rfl ?_)))
    refine VO.go (VO.stA (vs := resC resZ) 0 rfl rfl rfl rfl (Nat.le_refl _) rfl rfl rfl ?_)
    (repeat (first | refine VC.seq ?_ | refine VC.region ?_ | refine VC.block ?_ | refine VC.label ?_ | refine VC.scope ?_ | refine VO.go (VO.nil ?_) | refine VO.go (VO.ld 0 rfl rfl rfl rfl ?_)))
    exact VC.ret (Ret.tmpCell 6 7 rfl rfl rfl (RdL.many (ds := resC resZ) 0 rfl rfl) rfl Imp.nil.ent (ApOut.same e1))
  have hb : ¬ (n < 1 ∨ 4096 < n ∨ opCheck o ≠ 0) := fun h' => by rw [ht.2 h'] at h1; cases h1
  (repeat (first | refine VC.seq ?_ | refine VC.region ?_ | refine VC.block ?_ | refine VC.label ?_ | refine VC.scope ?_ | refine VO.go (VO.nil ?_) | refine VO.go (VO.ld 0 rfl rfl rfl rfl ?_) | refine VO.go (VO.ld 1 rfl rfl rfl rfl ?_)))
  refine VO.go (VO.callV' (fun Fr w hF hs _ => rlook_spec Fr w (h.of hF hs) hl o.key n) rfl ?_)
  refine VO.go (VO.alloc rfl fun qb => ?_)
  generalize hq : kvLook C o.key n = q
  refine VO.go (VO.stA (vs := resC q) 0 rfl rfl rfl rfl (Nat.le_refl _) rfl rfl rfl ?_)
  have q1 : q.value = ((mGet C o.key).getD (nilB, 0)).1 := by rw [← hq, kvLook]; cases mGet C o.key <;> rfl
  have q2 : q.version = ((mGet C o.key).getD (nilB, 0)).2 := by rw [← hq, kvLook]; cases mGet C o.key <;> rfl
  have q3 : q.code = 2 ↔ mGet C o.key = none := by rw [← hq, kvLook]; cases mGet C o.key <;> simp
  have q4 : mGet C o.key = none → q = ⟨2, nilB, 0, n⟩ := fun e => by rw [← hq, kvLook, e]
  refine VO.go (VO.nil (VC.seq (VC.seq ?_)))
  refine VC.meetS (σ := Unit) (fun _ => [(0, .slice a C.length cap), (1, .int .i64 n), (5, .pointer (some ⟨ob, 0, none⟩)), (7, .pointer (some ⟨rb, 0, none⟩)), (8, .pointer (some ⟨qb, 0, none⟩)), (28, .int .i64 o.kind)]) (fun _ => [pt qb (resC q) 29, pt rb (resC resZ) 29, pt ob o.cells 27]) (fun _ => True) ?_ ?_
  · (repeat (first | refine VC.seq ?_ | refine VC.region ?_ | refine VC.block ?_ | refine VC.label ?_ | refine VC.scope ?_ | refine VO.go (VO.nil ?_) | refine VO.go (VO.ld 0 rfl rfl rfl rfl ?_) | refine VO.go (VO.ld 1 rfl rfl rfl rfl ?_) | refine VO.go (VO.ld 2 rfl rfl rfl rfl ?_)))
    exact ⟨(), trivial, Sub.cons rfl (Sub.cons rfl (Sub.cons rfl (Sub.cons rfl (Sub.cons rfl (Sub.cons rfl (Sub.nil _)))))), Ent.refl⟩
  intro _ _
  refine VC.meetS (σ := Unit) (fun _ => [(0, .slice a C.length cap), (1, .int .i64 n), (5, .pointer (some ⟨ob, 0, none⟩)), (7, .pointer (some ⟨rb, 0, none⟩))]) (fun _ => [pt qb (resC q) 29, pt rb (resC resZ) 29, pt ob o.cells 27]) (fun _ => o.kind ≠ 1 ∧ o.kind ≠ 3 ∧ ¬ (o.kind = 4 ∧ ((mGet C o.key).getD (nilB, 0)).2 ≠ o.version)) (VC.block ?_) ?_
  · (repeat (first | refine VC.seq ?_ | refine VC.region ?_ | refine VC.block ?_ | refine VC.label ?_ | refine VC.scope ?_ | refine VO.go (VO.nil ?_) | refine VO.go (VO.ld 0 rfl rfl rfl rfl ?_) | refine VO.go (VO.ld 1 rfl rfl rfl rfl ?_) | refine VO.go (VO.ld 2 rfl rfl rfl rfl ?_)))
    refine VC.condE rfl (fun k1 => ?_) (fun k1 => ?_)
    · refine VC.seq (VC.draw (ts 0 3 (.only 3 .nil)) (by kernel_rfl) (by decide +kernel) ?_)
      (repeat (first | refine VA.go (VA.nil ?_) | refine VA.go (VA.ld 0 rfl rfl rfl rfl rfl ?_)))
      refine VA.go (VA.ldA 0 (resC q) rfl rfl rfl rfl rfl ?_)
      (repeat (first | refine VA.go (VA.nil ?_) | refine VA.go (VA.ld 0 rfl rfl rfl rfl rfl ?_)))
      refine VA.go (VA.stA (vs := resC q) 1 rfl rfl rfl rfl rfl (Nat.le_refl _) rfl rfl rfl (by (try refine Pd.st ?_); (repeat (first | exact Pd.nil | exact Pd.fnil | refine Pd.inner ?_ | refine Pd.skip (by decide +kernel) ?_ | refine Pd.fcons (RdL.one 0 rfl rfl) ?_ | refine Pd.fcons (RdL.one 1 rfl rfl) ?_ | refine Pd.fcons (RdL.one 2 rfl rfl) ?_ | refine Pd.fcons (RdL.many 0 rfl rfl) ?_ | refine Pd.fcons (RdL.many 1 rfl rfl) ?_ | refine Pd.fcons (RdL.many 2 rfl rfl) ?_ | refine Pd.cons (RdL.one 0 rfl rfl) ?_ | refine Pd.cons (RdL.one 1 rfl rfl) ?_ | refine Pd.cons (RdL.one 2 rfl rfl) ?_ | refine Pd.cons (RdL.many 0 rfl rfl) ?_ | refine Pd.cons (RdL.many 1 rfl rfl) ?_ | refine Pd.cons (RdL.many 2 rfl rfl) ?_ | refine Pd.fconsM (MpL.one 0 rfl) ?_ | refine Pd.fconsM (MpL.one 1 rfl) ?_ | refine Pd.fconsM (MpL.one 2 rfl) ?_ | refine Pd.consM (MpL.one 0 rfl) ?_ | refine Pd.consM (MpL.one 1 rfl) ?_ | refine Pd.consM (MpL.one 2 rfl) ?_))) ?_)
      (repeat (first | refine VA.go (VA.nil ?_) | refine VA.go (VA.ld 0 rfl rfl rfl rfl rfl ?_)))
      exact VC.ret (Ret.tmpCell 6 7 rfl rfl rfl (RdL.many (ds := resC q) 1 rfl rfl) rfl Imp.nil.ent (ApOut.same (by rw [applyF, if_neg hb, if_pos k1, ← hq]; rfl)))
    (repeat (first | refine VC.seq ?_ | refine VC.region ?_ | refine VC.block ?_ | refine VC.label ?_ | refine VC.scope ?_ | refine VO.go (VO.nil ?_) | refine VO.go (VO.ld 0 rfl rfl rfl rfl ?_) | refine VO.go (VO.ld 1 rfl rfl rfl rfl ?_) | refine VO.go (VO.ld 2 rfl rfl rfl rfl ?_)))
    refine VC.condE rfl (fun k3 => ?_) (fun k3 => ?_)
    · (repeat (first | refine VC.seq ?_ | refine VC.region ?_ | refine VC.block ?_ | refine VC.label ?_ | refine VC.scope ?_ | refine VO.go (VO.nil ?_) | refine VO.go (VO.ld 0 rfl rfl rfl rfl ?_) | refine VO.go (VO.ld 1 rfl rfl rfl rfl ?_) | refine VO.go (VO.ld 2 rfl rfl rfl rfl ?_)))
      refine VC.condE rfl (fun k4 => ?_) (fun k4 => VC.skip ?_)
      · have k4 := q3.1 k4
        refine VC.seq (VC.draw (ts 0 3 (.only 3 .nil)) (by kernel_rfl) (by decide +kernel) ?_)
        (repeat (first | refine VA.go (VA.nil ?_) | refine VA.go (VA.ld 0 rfl rfl rfl rfl rfl ?_)))
        refine VA.go (VA.ldA 0 (resC q) rfl rfl rfl rfl rfl ?_)
        (repeat (first | refine VA.go (VA.nil ?_) | refine VA.go (VA.ld 0 rfl rfl rfl rfl rfl ?_)))
        refine VA.go (VA.stA (vs := resC q) 1 rfl rfl rfl rfl rfl (Nat.le_refl _) rfl rfl rfl (by (try refine Pd.st ?_); (repeat (first | exact Pd.nil | exact Pd.fnil | refine Pd.inner ?_ | refine Pd.skip (by decide +kernel) ?_ | refine Pd.fcons (RdL.one 0 rfl rfl) ?_ | refine Pd.fcons (RdL.one 1 rfl rfl) ?_ | refine Pd.fcons (RdL.one 2 rfl rfl) ?_ | refine Pd.fcons (RdL.many 0 rfl rfl) ?_ | refine Pd.fcons (RdL.many 1 rfl rfl) ?_ | refine Pd.fcons (RdL.many 2 rfl rfl) ?_ | refine Pd.cons (RdL.one 0 rfl rfl) ?_ | refine Pd.cons (RdL.one 1 rfl rfl) ?_ | refine Pd.cons (RdL.one 2 rfl rfl) ?_ | refine Pd.cons (RdL.many 0 rfl rfl) ?_ | refine Pd.cons (RdL.many 1 rfl rfl) ?_ | refine Pd.cons (RdL.many 2 rfl rfl) ?_ | refine Pd.fconsM (MpL.one 0 rfl) ?_ | refine Pd.fconsM (MpL.one 1 rfl) ?_ | refine Pd.fconsM (MpL.one 2 rfl) ?_ | refine Pd.consM (MpL.one 0 rfl) ?_ | refine Pd.consM (MpL.one 1 rfl) ?_ | refine Pd.consM (MpL.one 2 rfl) ?_))) ?_)
        (repeat (first | refine VA.go (VA.nil ?_) | refine VA.go (VA.ld 0 rfl rfl rfl rfl rfl ?_)))
        exact VC.ret (Ret.tmpCell 6 7 rfl rfl rfl (RdL.many (ds := resC q) 1 rfl rfl) rfl Imp.nil.ent (ApOut.same (by rw [applyF, if_neg hb, if_neg k1, if_pos k3, k4, q4 k4])))
      · have k4 : mGet C o.key ≠ none := fun e => k4 (q3.2 e)
        have e1 : applyF (mGet C) n o = (putF (mGet C) o.key none, ⟨1, nilB, 0, n⟩) := by
          rw [applyF, if_neg hb, if_neg k1, if_pos k3]
          cases hg : mGet C o.key with
          | none => exact (k4 hg).elim
          | some x => rfl
        (repeat (first | refine VC.seq ?_ | refine VC.region ?_ | refine VC.block ?_ | refine VC.label ?_ | refine VC.scope ?_ | refine VO.go (VO.nil ?_) | refine VO.go (VO.ld 0 rfl rfl rfl rfl ?_) | refine VO.go (VO.ld 1 rfl rfl rfl rfl ?_) | refine VO.go (VO.ld 2 rfl rfl rfl rfl ?_)))
        refine VO.go (VO.call (Lc := []) (fun Fr w hF hs hS => without_spec Fr w (h.of hF hs) hl o.key) rfl rfl ?_)
        rintro _ _ ⟨a', c', rfl, rfl⟩
        (repeat (first | refine VC.seq ?_ | refine VC.region ?_ | refine VC.block ?_ | refine VC.label ?_ | refine VC.scope ?_ | refine VO.go (VO.nil ?_) | refine VO.go (VO.ld 0 rfl rfl rfl rfl ?_)))
        refine VO.go (VO.light (light_build (pv := [(0, .int .i64 1), (3, .int .i64 n)]) (resC ⟨1, nilB, 0, n⟩) rfl rfl rfl (by kernel_rfl) rfl) ?_)
        (repeat (first | refine VC.seq ?_ | refine VC.region ?_ | refine VC.block ?_ | refine VC.label ?_ | refine VC.scope ?_ | refine VO.go (VO.nil ?_) | refine VO.go (VO.ld 0 rfl rfl rfl rfl ?_)))
        refine VO.go (VO.stA (vs := resC ⟨1, nilB, 0, n⟩) 2 rfl rfl rfl rfl (Nat.le_refl _) rfl rfl rfl ?_)
        (repeat (first | refine VC.seq ?_ | refine VC.region ?_ | refine VC.block ?_ | refine VC.label ?_ | refine VC.scope ?_ | refine VO.go (VO.nil ?_) | refine VO.go (VO.ld 0 rfl rfl rfl rfl ?_)))
        exact VC.ret (Ret.tmpCell 6 7 rfl rfl rfl (RdL.many (ds := resC ⟨1, nilB, 0, n⟩) 2 rfl rfl) rfl (Imp.pick 0 rfl Imp.nil).ent ⟨wout C o.key, a', c', by rw [e1, wout_get], Nat.le_succ_of_le (wout_len C o.key), by rw [e1], .inr rfl⟩)
    (repeat (first | refine VC.seq ?_ | refine VC.region ?_ | refine VC.block ?_ | refine VC.label ?_ | refine VC.scope ?_ | refine VO.go (VO.nil ?_) | refine VO.go (VO.ld 0 rfl rfl rfl rfl ?_) | refine VO.go (VO.ld 1 rfl rfl rfl rfl ?_) | refine VO.go (VO.ld 2 rfl rfl rfl rfl ?_)))
    refine VC.condE rfl (fun k4 => ?_) (fun k4 => VC.skip ?_)
    · (repeat (first | refine VC.seq ?_ | refine VC.region ?_ | refine VC.block ?_ | refine VC.label ?_ | refine VC.scope ?_ | refine VO.go (VO.nil ?_) | refine VO.go (VO.ld 0 rfl rfl rfl rfl ?_) | refine VO.go (VO.ld 1 rfl rfl rfl rfl ?_) | refine VO.go (VO.ld 2 rfl rfl rfl rfl ?_)))
      refine VC.condNE rfl (fun k5 => ?_) (fun k5 => VC.skip ?_)
      · rw [q2] at k5
        refine VC.seq (VC.draw (ts 0 8 (.only 8 .nil)) (by kernel_rfl) (by decide +kernel) ?_)
        (repeat (first | refine VA.go (VA.nil ?_) | refine VA.go (VA.ld 0 rfl rfl rfl rfl rfl ?_) | refine VA.go (VA.ld 1 rfl rfl rfl rfl rfl ?_) | refine VA.go (VA.ld 2 rfl rfl rfl rfl rfl ?_)))
        refine VA.go (VA.light rfl (light_build (pv := [(0, .int .i64 3), (1, .string q.value), (2, .int .i64 q.version), (3, .int .i64 n)]) (resC ⟨3, q.value, q.version, n⟩) rfl rfl rfl (by kernel_rfl) rfl) ?_)
        (repeat (first | refine VA.go (VA.nil ?_) | refine VA.go (VA.ld 0 rfl rfl rfl rfl rfl ?_) | refine VA.go (VA.ld 1 rfl rfl rfl rfl rfl ?_) | refine VA.go (VA.ld 2 rfl rfl rfl rfl rfl ?_)))
        refine VA.go (VA.stA (vs := resC ⟨3, q.value, q.version, n⟩) 1 rfl rfl rfl rfl rfl (Nat.le_refl _) rfl rfl rfl (by (try refine Pd.st ?_); (repeat (first | exact Pd.nil | exact Pd.fnil | refine Pd.inner ?_ | refine Pd.skip (by decide +kernel) ?_ | refine Pd.fcons (RdL.one 0 rfl rfl) ?_ | refine Pd.fcons (RdL.one 1 rfl rfl) ?_ | refine Pd.fcons (RdL.one 2 rfl rfl) ?_ | refine Pd.fcons (RdL.many 0 rfl rfl) ?_ | refine Pd.fcons (RdL.many 1 rfl rfl) ?_ | refine Pd.fcons (RdL.many 2 rfl rfl) ?_ | refine Pd.cons (RdL.one 0 rfl rfl) ?_ | refine Pd.cons (RdL.one 1 rfl rfl) ?_ | refine Pd.cons (RdL.one 2 rfl rfl) ?_ | refine Pd.cons (RdL.many 0 rfl rfl) ?_ | refine Pd.cons (RdL.many 1 rfl rfl) ?_ | refine Pd.cons (RdL.many 2 rfl rfl) ?_ | refine Pd.fconsM (MpL.one 0 rfl) ?_ | refine Pd.fconsM (MpL.one 1 rfl) ?_ | refine Pd.fconsM (MpL.one 2 rfl) ?_ | refine Pd.consM (MpL.one 0 rfl) ?_ | refine Pd.consM (MpL.one 1 rfl) ?_ | refine Pd.consM (MpL.one 2 rfl) ?_))) ?_)
        (repeat (first | refine VA.go (VA.nil ?_) | refine VA.go (VA.ld 0 rfl rfl rfl rfl rfl ?_)))
        exact VC.ret (Ret.tmpCell 6 7 rfl rfl rfl (RdL.many (ds := resC ⟨3, q.value, q.version, n⟩) 1 rfl rfl) rfl Imp.nil.ent (ApOut.same (by rw [applyF, if_neg hb, if_neg k1, if_neg k3, if_pos ⟨k4, k5⟩, q1, q2])))
      · rw [q2] at k5
        exact ⟨(), ⟨k1, k3, fun hh => hh.2 k5⟩, Sub.cons rfl (Sub.cons rfl (Sub.cons rfl (Sub.cons rfl (Sub.nil _)))), Ent.refl⟩
    · exact ⟨(), ⟨k1, k3, fun hh => k4 hh.1⟩, Sub.cons rfl (Sub.cons rfl (Sub.cons rfl (Sub.cons rfl (Sub.nil _)))), Ent.refl⟩
  rintro _ ⟨k1, k3, k4⟩
  (repeat (first | refine VC.seq ?_ | refine VC.region ?_ | refine VC.block ?_ | refine VC.label ?_ | refine VC.scope ?_ | refine VO.go (VO.nil ?_) | refine VO.go (VO.ld 0 rfl rfl rfl rfl ?_) | refine VO.go (VO.ld 1 rfl rfl rfl rfl ?_) | refine VO.go (VO.ld 2 rfl rfl rfl rfl ?_)))
  refine VO.go (VO.light (light_build (pv := [(0, .string o.key), (1, .string o.value), (2, .int .i64 n)]) (cC (o.key, o.value, n)) rfl rfl rfl (by kernel_rfl) rfl) ?_)
  refine VO.go (VO.call (Lc := []) (fun Fr w hF hs hS => with_spec Fr w (h.of hF hs) hl (o.key, o.value, n)) rfl rfl ?_)
  rintro _ _ ⟨i, a', c', hi, rfl, rfl⟩
  have e1 : applyF (mGet C) n o = (putF (mGet C) o.key (some (o.value, n)), ⟨1, nilB, n, n⟩) := by rw [applyF, if_neg hb, if_neg k1, if_neg k3, if_neg k4]
  dsimp only at hi
  generalize hC' : ((wout C o.key).take i ++ (o.key, o.value, n) :: (wout C o.key).drop i) = C'
  have hg : mGet C' = (applyF (mGet C) n o).1 := by
    rw [← hC', ins_get (x := (o.key, o.value, n)) wout_ne, e1, wout_get]
    funext b
    simp only [putF]
    split <;> rfl
  have hlen : C'.length ≤ C.length + 1 := by
    have := wout_len C o.key
    rw [← hC']; simp only [List.length_append, List.length_cons, List.length_take, List.length_drop]; omega
  (repeat (first | refine VC.seq ?_ | refine VC.region ?_ | refine VC.block ?_ | refine VC.label ?_ | refine VC.scope ?_ | refine VO.go (VO.nil ?_) | refine VO.go (VO.ld 0 rfl rfl rfl rfl ?_)))
  refine VO.go (VO.light (light_build (pv := [(0, .int .i64 1), (2, .int .i64 n), (3, .int .i64 n)]) (resC ⟨1, nilB, n, n⟩) rfl rfl rfl (by kernel_rfl) rfl) ?_)
  (repeat (first | refine VC.seq ?_ | refine VC.region ?_ | refine VC.block ?_ | refine VC.label ?_ | refine VC.scope ?_ | refine VO.go (VO.nil ?_) | refine VO.go (VO.ld 0 rfl rfl rfl rfl ?_)))
  refine VO.go (VO.stA (vs := resC ⟨1, nilB, n, n⟩) 2 rfl rfl rfl rfl (Nat.le_refl _) rfl rfl rfl ?_)
  (repeat (first | refine VC.seq ?_ | refine VC.region ?_ | refine VC.block ?_ | refine VC.label ?_ | refine VC.scope ?_ | refine VO.go (VO.nil ?_) | refine VO.go (VO.ld 0 rfl rfl rfl rfl ?_)))
  exact VC.ret (Ret.tmpCell 6 7 rfl rfl rfl (RdL.many (ds := resC ⟨1, nilB, n, n⟩) 2 rfl rfl) rfl (Imp.pick 0 rfl Imp.nil).ent ⟨C', a', c', hg, hlen, by rw [e1], .inr rfl⟩)
end Go.Proofs.YthabecjplpomhaaDoor.Br
