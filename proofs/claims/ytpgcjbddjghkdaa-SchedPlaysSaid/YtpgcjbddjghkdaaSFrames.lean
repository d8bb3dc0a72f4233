/- Comparing frames. No condition. -/
import Derived.Test.YtpgcjbddjghkdaaSNone
import Derived.Laws.StructEq
namespace Go.Proofs.Ytpgcjbddjghkdaa.SLaw
open Go Go.Proofs.Ytpgcjbddjghkdaa.Vg Go.Proofs.Ytpgcjbddjghkdaa.T Go.Proofs.Ytpgcjbddjghkdaa.Api
set_option linter.unusedSimpArgs false
set_option linter.unusedVariables false
attribute [local irreducible] VO VC VA

theorem eqIn_int {P : Program} {t : Nat} {k : IntKind} (ht : P.underlying t = some (.int k)) (d : Nat) (a : Int) (w : World) : (Op.equalIn (d + 1) t (.int k a) (.int k a)).run P w = .ok true w := by
  rw [Op.equalIn, Sem.run_bind, run_underlying ht]
  simp
theorem eqIn_str {P : Program} {t : Nat} (ht : P.underlying t = some .string) (d : Nat) (s : ByteArray) (w : World) : (Op.equalIn (d + 1) t (.string s) (.string s)).run P w = .ok true w := by
  rw [Op.equalIn, Sem.run_bind, run_underlying ht]
  have : (s == s) = true := by show s.beq s = true; simp [ByteArray.beq]
  simp [this]

theorem stood : Try.prog.stoodInHeld 35 = false := by kernel_rfl
theorem op_equal (o : OpM) (w : World) : (Op.equal 35 (.agg o.cells.toArray) (.agg o.cells.toArray)).run Try.prog w = .ok true w := by
  unfold Op.equal
  show (Op.equalIn (9998 + 1 + 1) _ _ _).run _ w = _
  rw [Op.equalIn, Sem.run_bind, run_underlying Try.underlying35]
  simp [OpM.cells, stood, part]
  rw [show (9999 : Nat) = 9998 + 1 from rfl, eqIn_int Try.underlying3 9998]
  simp only [Result.andThen_ok]
  rw [eqIn_str Try.underlying9 9998]
  simp only [Result.andThen_ok]
  rw [eqIn_str Try.underlying9 9998]
  simp only [Result.andThen_ok]
  rw [eqIn_int Try.underlying3 9998]
  simp
theorem guardT : Try.prog.eqGuardType Try.prog.depth 35 = false := by kernel_rfl
theorem light_neq_op {X : Cx} (hP : X.P = Try.prog) {e : Env} {x y : Operand} {yt : Nat} (o : OpM) (hx : ev e x = some (.agg o.cells.toArray)) (hy : ev e y = some (.agg o.cells.toArray)) : Light X (.binOp .neq 35 x y yt) e (.bool false) := by
  intro a ha dst ty pos after guard w
  simp only [execOp, ha.ev hx, ha.ev hy]
  have h : (do eqGuard .neq 35 x y (.agg o.cells.toArray) (.agg o.cells.toArray); binOp .neq 35 (.agg o.cells.toArray) (.agg o.cells.toArray) : Sem Value).run X.P w = .ok (.bool false) w := by
    have hg : (eqGuard .neq 35 x y (.agg o.cells.toArray) (.agg o.cells.toArray)).run Try.prog w = .ok () w := run_eqGuard_agg (hm := guardT) ..
    rw [hP, Sem.run_bind, hg, Result.andThen_ok, run_neq_struct]
    have := op_equal o w
    unfold Op.equal at this
    rw [show (10000 : Nat) = Op.maxDepth from rfl, this]
    rfl
  rw [Sem.run_bind, h]
  rfl

/-- Frames that lie where they stay. -/
structure FramesIn (Fr : Nat → Prop) (w : World) (a : Option Addr) (gs : List FM) : Prop where
  at_ : gs ≠ [] → ∃ b off, a = some ⟨b, off, none⟩ ∧ Fr b ∧ ∀ i g, gs[i]? = some g → w.rangeAt b (off + i * 29) (fmc g)
  few : gs.length ≤ 1000000

set_option maxRecDepth 100000 in
theorem frames_same (Fr : Nat → Prop) (w : World) (a b : Option Addr) (ca cb : Nat) (gs hs : List FM) (hg : FramesIn Fr w a gs) (hh : FramesIn Fr w b hs) (he : gs.map Prod.fst = hs.map Prod.fst) :
    Tri Try.prog 28 [.slice a gs.length ca, .slice b hs.length cb] Fr w [] (fun v L => v = .bool true ∧ L = []) := by
  have hlen : gs.length = hs.length := by have := congrArg List.length he; simpa using this
  have hfew := hg.few
  refine Tri.of 81 Try.func28 rfl (by kernel_rfl) tabOk rfl rfl ?_
  (repeat (first | refine VC.seq ?_ | refine VC.region ?_ | refine VC.block ?_ | refine VC.label ?_ | refine VC.scope ?_ | refine VO.go (VO.nil ?_) | refine VO.go (VO.ld 0 rfl rfl rfl rfl ?_)))
  refine VC.condNE rfl (fun h => absurd (by omega) h) (fun _ => VC.skip ?_)
  (repeat (first | refine VC.seq ?_ | refine VC.region ?_ | refine VC.block ?_ | refine VC.label ?_ | refine VC.scope ?_ | refine VO.go (VO.nil ?_) | refine VO.go (VO.ld 0 rfl rfl rfl rfl ?_)))
  refine VC.loop (σ := Nat) (fun i => [(0, .slice a gs.length ca), (1, .slice b hs.length cb), (5, .int .i64 i)]) (fun _ => []) (fun i => i ≤ gs.length) (fun i => gs.length - i) 0 (Nat.zero_le _) (Sub.cons rfl (Sub.cons rfl (Sub.cons rfl (Sub.nil _)))) Ent.refl ?_
  intro i hi
  (repeat (first | refine VC.seq ?_ | refine VC.region ?_ | refine VC.block ?_ | refine VC.label ?_ | refine VC.scope ?_ | refine VO.go (VO.nil ?_) | refine VO.go (VO.ld 0 rfl rfl rfl rfl ?_)))
  refine VC.condP rfl (fun h1 => ?_) (fun h1 => ?_)
  · have hi2 : i < gs.length := by omega
    obtain ⟨ab, ao, rfl, hFa, hca⟩ := hg.at_ (fun e => by rw [e] at hi2; simp at hi2)
    obtain ⟨bb, bo, rfl, hFb, hcb⟩ := hh.at_ (fun e => by rw [e] at hlen; rw [hlen] at hi2; simp at hi2)
    have hx := List.getElem?_eq_getElem hi2
    have hy := List.getElem?_eq_getElem (show i < hs.length by omega)
    have hxy : (gs.map Prod.fst)[i]? = (hs.map Prod.fst)[i]? := by rw [he]
    rw [List.getElem?_map, List.getElem?_map, hx, hy] at hxy
    generalize gs[i] = x at hx hxy
    generalize hs[i] = y at hy hxy
    obtain ⟨f, m⟩ := x
    obtain ⟨f', m'⟩ := y
    obtain rfl : f = f' := Option.some.inj hxy
    have ra := hca i _ hx
    have rb := hcb i _ hy
    refine VC.skip ?_
    refine VC.seq (VC.block ?_)
    refine VC.meet (σ := Nat × Nat) (fun z => [(0, .slice (some ⟨ab, ao, none⟩) gs.length ca), (1, .slice (some ⟨bb, bo, none⟩) hs.length cb), (5, .int .i64 i), (6, .pointer (some ⟨z.1, 0, none⟩)), (7, .pointer (some ⟨z.2, 0, none⟩))]) (fun z => [pt z.1 (fmc (f, m)) 44, pt z.2 (fmc (f, m')) 44]) (fun _ => True) ?_ ?_
    rotate_left
    · rintro ⟨b8, b9⟩ _
      dsimp only
      (repeat (first | refine VC.seq ?_ | refine VC.region ?_ | refine VC.block ?_ | refine VC.label ?_ | refine VC.scope ?_ | refine VO.go (VO.nil ?_) | refine VO.go (VO.ld 0 rfl rfl rfl rfl ?_) | refine VO.go (VO.ld 1 rfl rfl rfl rfl ?_)))
      refine VO.go (VO.yes 32 false rfl (bne_self_eq_false _) ?_)
      (repeat (first | refine VC.seq ?_ | refine VC.region ?_ | refine VC.block ?_ | refine VC.label ?_ | refine VC.scope ?_ | refine VO.go (VO.nil ?_) | refine VO.go (VO.ld 0 rfl rfl rfl rfl ?_) | refine VO.go (VO.ld 1 rfl rfl rfl rfl ?_)))
      refine VO.go (VO.yes 39 false rfl (bne_self_eq_false _) ?_)
      (repeat (first | refine VC.seq ?_ | refine VC.region ?_ | refine VC.block ?_ | refine VC.label ?_ | refine VC.scope ?_ | refine VO.go (VO.nil ?_) | refine VO.go (VO.ld 0 rfl rfl rfl rfl ?_) | refine VO.go (VO.ld 1 rfl rfl rfl rfl ?_)))
      refine VO.go (VO.yes 46 false rfl (bne_self_eq_false _) ?_)
      (repeat (first | refine VC.seq ?_ | refine VC.region ?_ | refine VC.block ?_ | refine VC.label ?_ | refine VC.scope ?_ | refine VO.go (VO.nil ?_) | refine VO.go (VO.ld 0 rfl rfl rfl rfl ?_) | refine VO.go (VO.ld 1 rfl rfl rfl rfl ?_)))
      refine VO.go (VO.yes 53 false rfl (bne_self_eq_false _) ?_)
      (repeat (first | refine VC.seq ?_ | refine VC.region ?_ | refine VC.block ?_ | refine VC.label ?_ | refine VC.scope ?_ | refine VO.go (VO.nil ?_) | refine VO.go (VO.ld 0 rfl rfl rfl rfl ?_) | refine VO.go (VO.ld 1 rfl rfl rfl rfl ?_)))
      refine VO.go (VO.yes 60 false rfl (bne_self_eq_false _) ?_)
      (repeat (first | refine VC.seq ?_ | refine VC.region ?_ | refine VC.block ?_ | refine VC.label ?_ | refine VC.scope ?_ | refine VO.go (VO.nil ?_) | refine VO.go (VO.ld 0 rfl rfl rfl rfl ?_) | refine VO.go (VO.ld 1 rfl rfl rfl rfl ?_)))
      refine VO.go (VO.yes 67 false rfl (bne_self_eq_false _) ?_)
      (repeat (first | refine VC.seq ?_ | refine VC.region ?_ | refine VC.block ?_ | refine VC.label ?_ | refine VC.scope ?_ | refine VO.go (VO.nil ?_) | refine VO.go (VO.ld 0 rfl rfl rfl rfl ?_) | refine VO.go (VO.ld 1 rfl rfl rfl rfl ?_)))
      refine VO.go (VO.yes 74 false rfl (bne_self_eq_false _) ?_)
      refine VO.go (VO.ldA 0 f.op.cells rfl rfl rfl rfl (VO.go (VO.ldA 1 f.op.cells rfl rfl rfl rfl ?_)))
      refine VO.go (VO.light (light_neq_op rfl f.op rfl rfl) (VO.go (VO.nil ?_)))
      refine VC.condF rfl (VC.skip ?_)
      (repeat (first | refine VC.seq ?_ | refine VC.region ?_ | refine VC.block ?_ | refine VC.label ?_ | refine VC.scope ?_ | refine VO.go (VO.nil ?_) | refine VO.go (VO.ld 0 rfl rfl rfl rfl ?_)))
      refine VO.go (VO.add rfl rfl (by omega) (by omega) ?_)
      (repeat (first | refine VC.seq ?_ | refine VC.region ?_ | refine VC.block ?_ | refine VC.label ?_ | refine VC.scope ?_ | refine VO.go (VO.nil ?_) | refine VO.go (VO.ld 0 rfl rfl rfl rfl ?_)))
      exact ⟨i + 1, hi2, by dsimp only; omega, Sub.cons rfl (Sub.cons rfl (Sub.cons rfl (Sub.nil _))), Imp.nil.ent⟩
    refine VC.draw (ts 0 8 (.two 8 9 (.only 9 (.only 10 (.only 11 .nil))) (.only 8 (.only 10 (.only 11 .nil))))) (by kernel_rfl) (by decide +kernel) ?_
    refine VA.go (VA.light rfl (light_idx i rfl rfl rfl rfl rfl rfl hi2) ?_)
    refine VA.go (VA.load rfl rfl rfl (RdL.rd (v := .agg (fmc (f, m)).toArray) hFa ⟨fmc (f, m), rfl, rfl, ra⟩) ?_)
    refine VA.go (VA.light rfl (light_idx i rfl rfl rfl rfl rfl rfl (by omega)) ?_)
    refine VA.go (VA.load rfl rfl rfl (RdL.rd (v := .agg (fmc (f, m')).toArray) hFb ⟨fmc (f, m'), rfl, rfl, rb⟩) ?_)
    have PA : ∀ {L : List HP}, RdL (⟨Try.prog, tab, tabOk, 81, Fr, w⟩ : Cx) L T.t44 ab (ao + i * T.t44.size) (.agg (fmc (f, m)).toArray) := RdL.rd hFa ⟨fmc (f, m), rfl, rfl, ra⟩
    have PB : ∀ {L : List HP}, RdL (⟨Try.prog, tab, tabOk, 81, Fr, w⟩ : Cx) L T.t44 bb (bo + i * T.t44.size) (.agg (fmc (f, m')).toArray) := RdL.rd hFb ⟨fmc (f, m'), rfl, rfl, rb⟩
    refine VA.go (VA.two rfl rfl rfl rfl rfl (OpT.alloc rfl) rfl rfl rfl (OpT.alloc rfl) (fun v L' _ => (by (try refine Pd.st ?_); (repeat (first | exact Pd.nil | exact Pd.fnil | refine Pd.inner ?_ | refine Pd.skip (by decide +kernel) ?_ | refine Pd.fcons (RdL.blk PB rfl) ?_ | refine Pd.fcons (RdL.blk PA rfl) ?_ | refine Pd.fcons (PB) ?_ | refine Pd.fcons (PA) ?_ | refine Pd.cons (RdL.blk PB rfl) ?_ | refine Pd.cons (RdL.blk PA rfl) ?_ | refine Pd.cons (PB) ?_ | refine Pd.cons (PA) ?_)))) (fun v L' _ => (by (try refine Pd.st ?_); (repeat (first | exact Pd.nil | exact Pd.fnil | refine Pd.inner ?_ | refine Pd.skip (by decide +kernel) ?_ | refine Pd.fcons (RdL.blk PB rfl) ?_ | refine Pd.fcons (RdL.blk PA rfl) ?_ | refine Pd.fcons (PB) ?_ | refine Pd.fcons (PA) ?_ | refine Pd.cons (RdL.blk PB rfl) ?_ | refine Pd.cons (RdL.blk PA rfl) ?_ | refine Pd.cons (PB) ?_ | refine Pd.cons (PA) ?_)))) ?_ ?_)
    · rintro _ _ ⟨b8, rfl, rfl⟩
      refine VA.go (VA.opP (OpT.alloc rfl) rfl (fun v L' _ => (by (try refine Pd.st ?_); (repeat (first | exact Pd.nil | exact Pd.fnil | refine Pd.inner ?_ | refine Pd.skip (by decide +kernel) ?_ | refine Pd.fcons (RdL.blk PB rfl) ?_ | refine Pd.fcons (RdL.blk PA rfl) ?_ | refine Pd.fcons (PB) ?_ | refine Pd.fcons (PA) ?_ | refine Pd.cons (RdL.blk PB rfl) ?_ | refine Pd.cons (RdL.blk PA rfl) ?_ | refine Pd.cons (PB) ?_ | refine Pd.cons (PA) ?_)))) ?_)
      rintro _ _ ⟨b9, rfl, rfl⟩
      refine VA.go (VA.stA (vs := fmc (f, m)) (cs' := fmc (f, m)) 1 rfl rfl rfl rfl rfl (Nat.le_refl _) rfl rfl rfl (by (try refine Pd.st ?_); (repeat (first | exact Pd.nil | exact Pd.fnil | refine Pd.inner ?_ | refine Pd.skip (by decide +kernel) ?_ | refine Pd.fcons (RdL.blk PB rfl) ?_ | refine Pd.fcons (RdL.blk PA rfl) ?_ | refine Pd.fcons (PB) ?_ | refine Pd.fcons (PA) ?_ | refine Pd.cons (RdL.blk PB rfl) ?_ | refine Pd.cons (RdL.blk PA rfl) ?_ | refine Pd.cons (PB) ?_ | refine Pd.cons (PA) ?_))) ?_)
      refine VA.go (VA.stA (vs := fmc (f, m')) (cs' := fmc (f, m')) 0 rfl rfl rfl rfl rfl (Nat.le_refl _) rfl rfl rfl (by (try refine Pd.st ?_); (repeat (first | exact Pd.nil | exact Pd.fnil | refine Pd.inner ?_ | refine Pd.skip (by decide +kernel) ?_ | refine Pd.fcons (RdL.blk PB rfl) ?_ | refine Pd.fcons (RdL.blk PA rfl) ?_ | refine Pd.fcons (PB) ?_ | refine Pd.fcons (PA) ?_ | refine Pd.cons (RdL.blk PB rfl) ?_ | refine Pd.cons (RdL.blk PA rfl) ?_ | refine Pd.cons (PB) ?_ | refine Pd.cons (PA) ?_))) (VA.go (VA.nil ?_)))
      exact ⟨(b8, b9), trivial, Sub.cons rfl (Sub.cons rfl (Sub.cons rfl (Sub.cons rfl (Sub.cons rfl (Sub.nil _))))), (Imp.perm (List.Perm.swap _ _ _)).ent⟩
    · rintro _ _ ⟨b9, rfl, rfl⟩
      refine VA.go (VA.opP (OpT.alloc rfl) rfl (fun v L' _ => (by (try refine Pd.st ?_); (repeat (first | exact Pd.nil | exact Pd.fnil | refine Pd.inner ?_ | refine Pd.skip (by decide +kernel) ?_ | refine Pd.fcons (RdL.blk PB rfl) ?_ | refine Pd.fcons (RdL.blk PA rfl) ?_ | refine Pd.fcons (PB) ?_ | refine Pd.fcons (PA) ?_ | refine Pd.cons (RdL.blk PB rfl) ?_ | refine Pd.cons (RdL.blk PA rfl) ?_ | refine Pd.cons (PB) ?_ | refine Pd.cons (PA) ?_)))) ?_)
      rintro _ _ ⟨b8, rfl, rfl⟩
      refine VA.go (VA.stA (vs := fmc (f, m)) (cs' := fmc (f, m)) 0 rfl rfl rfl rfl rfl (Nat.le_refl _) rfl rfl rfl (by (try refine Pd.st ?_); (repeat (first | exact Pd.nil | exact Pd.fnil | refine Pd.inner ?_ | refine Pd.skip (by decide +kernel) ?_ | refine Pd.fcons (RdL.blk PB rfl) ?_ | refine Pd.fcons (RdL.blk PA rfl) ?_ | refine Pd.fcons (PB) ?_ | refine Pd.fcons (PA) ?_ | refine Pd.cons (RdL.blk PB rfl) ?_ | refine Pd.cons (RdL.blk PA rfl) ?_ | refine Pd.cons (PB) ?_ | refine Pd.cons (PA) ?_))) ?_)
      refine VA.go (VA.stA (vs := fmc (f, m')) (cs' := fmc (f, m')) 1 rfl rfl rfl rfl rfl (Nat.le_refl _) rfl rfl rfl (by (try refine Pd.st ?_); (repeat (first | exact Pd.nil | exact Pd.fnil | refine Pd.inner ?_ | refine Pd.skip (by decide +kernel) ?_ | refine Pd.fcons (RdL.blk PB rfl) ?_ | refine Pd.fcons (RdL.blk PA rfl) ?_ | refine Pd.fcons (PB) ?_ | refine Pd.fcons (PA) ?_ | refine Pd.cons (RdL.blk PB rfl) ?_ | refine Pd.cons (RdL.blk PA rfl) ?_ | refine Pd.cons (PB) ?_ | refine Pd.cons (PA) ?_))) (VA.go (VA.nil ?_)))
      exact ⟨(b8, b9), trivial, Sub.cons rfl (Sub.cons rfl (Sub.cons rfl (Sub.cons rfl (Sub.cons rfl (Sub.nil _))))), Ent.refl⟩
  · refine VC.exit ?_
    (repeat (first | refine VC.seq ?_ | refine VC.region ?_ | refine VC.block ?_ | refine VC.label ?_ | refine VC.scope ?_ | refine VO.go (VO.nil ?_) | refine VO.go (VO.ld 0 rfl rfl rfl rfl ?_)))
    exact VC.ret (Ret.bool 4 rfl rfl rfl Ent.refl ⟨rfl, rfl⟩)
end Go.Proofs.Ytpgcjbddjghkdaa.SLaw
