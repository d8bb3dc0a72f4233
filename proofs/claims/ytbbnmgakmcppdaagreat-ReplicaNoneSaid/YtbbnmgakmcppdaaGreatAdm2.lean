/- Admission: what may be, what waits, what is taken out. No condition but that counts stay within what they may be. -/
import Derived.Test.YtbbnmgakmcppdaaGreatAdm
import Derived.Test.YtbbnmgakmcppdaaGreatSchedC
namespace Go.Proofs.YtbbnmgakmcppdaaGreat.Adm
open Go Go.Proofs.YtbbnmgakmcppdaaGreat.Vg Go.Proofs.YtbbnmgakmcppdaaGreat.T Go.Proofs.YtbbnmgakmcppdaaGreat.Api Go.Proofs.YtbbnmgakmcppdaaGreat.Sched Go.Proofs.YtbbnmgakmcppdaaGreat.Conf
set_option linter.unusedSimpArgs false
set_option linter.unusedVariables false
attribute [local irreducible] VO VC VA

def readsM (o : OpM) : Bool := (o.kind == 1) && (opCheck o == 0)
theorem reads_spec (Fr : Nat → Prop) (w : World) (o : OpM) : Tri Tryz.prog 57 [.agg o.cells.toArray] Fr w [] (fun v L => v = .bool (readsM o) ∧ L = []) := by
  refine Tri.of 11 Tryz.func57 rfl (by kernel_rfl) tabOk rfl rfl ?_
  refine VC.seq (VC.region (VO.go (VO.boxA (vs := o.cells) rfl fun b => VO.go (VO.nil ?_))))
  (repeat (first|refine zS ?_|refine zR ?_|refine zB ?_|refine zL ?_|refine zC ?_|refine zG (zN ?_)|refine zG (zD 0 rfl rfl rfl rfl ?_)))
  refine VO.go (VO.split 6 rfl rfl (fun h1 => ?_) (fun h1 => ?_))
  · refine VO.go (VO.ldA 0 o.cells rfl rfl rfl rfl ?_)
    refine VO.go (VO.callV (fun Fr w => check_spec Fr w o) rfl ?_)
    (repeat (first|refine zS ?_|refine zR ?_|refine zB ?_|refine zL ?_|refine zC ?_|refine zG (zN ?_)|refine zG (zD 0 rfl rfl rfl rfl ?_)))
    exact VC.ret (Ret.bool 2 rfl rfl (by simp only [readsM, h1, Bool.true_and]) Imp.nil.ent ⟨rfl, rfl⟩)
  · (repeat (first|refine zS ?_|refine zR ?_|refine zB ?_|refine zL ?_|refine zC ?_|refine zG (zN ?_)|refine zG (zD 0 rfl rfl rfl rfl ?_)))
    exact VC.ret (Ret.bool 2 rfl rfl (by simp only [readsM, h1, Bool.false_and]) Imp.nil.ent ⟨rfl, rfl⟩)

def AdmM.may (A : AdmM) (f : FrameM) : Bool := A.has f.client && (f.kind == 1) && numM f.seq && numM f.try_ && decide (0 ≤ f.cls) && decide (f.cls < A.sch.cls.length) && decide (0 ≤ f.deadline) && decide (f.deadline ≤ 1099511627776) && (opCheck f.op == 0) && !readsM f.op

set_option maxHeartbeats 1000000 in
set_option maxRecDepth 100000 in
theorem may_spec (Fr : Nat → Prop) (w : World) {p : Nat} {A : AdmM} (f : FM) (h : SatIn Fr [admH p A] w) : Tri Tryz.prog 196 [.pointer (some ⟨p, 0, none⟩), .agg (fmc f).toArray] Fr w [] (fun v L => v = .bool (A.may f.1) ∧ L = []) := by
  obtain ⟨sp, h⟩ := AdmIn.of h
  have hb := h.at0
  refine Tri.of 60 Tryz.func196 rfl (by kernel_rfl) tabOk rfl rfl ?_
  refine VC.seq (VC.region (VO.go (VO.boxA (vs := fmc f) rfl fun b => VO.go (VO.nil ?_))))
  refine VC.meet (σ := Bool) (fun b => [(4, .bool b)]) (fun _ => []) (fun b => b = A.may f.1) ?_ ?_
  rotate_left
  · rintro b rfl
    exact VC.ret (Ret.bool 4 rfl rfl rfl Ent.refl ⟨rfl, rfl⟩)
  refine VC.draw (ts 0 3 (.only 3 (ts 4 8 (.only 12 (ts 13 4 (.only 17 (ts 18 28 (.only 46 (ts 47 5 (.only 52 (ts 53 3 .nil))))))))))) (by kernel_rfl) (by decide +kernel) ?_
  (repeat (first|refine yG (yN ?_)|refine yG (yD 0 rfl rfl rfl rfl rfl ?_)))
  refine VA.go (VA.callP (φ := fun v => v = .bool (A.has f.1.client)) (fun Fr w hF hs _ => has_spec Fr w f.1.client (hb.of hF hs)) rfl rfl (by (try refine Pd.st ?_);(repeat (first|exact Pd.nil|exact Pd.fnil|refine Pd.inner ?_|refine Pd.skip (by decide +kernel) ?_|refine zf (zo 0 rfl rfl) ?_|refine zf (zm 0 rfl rfl) ?_|refine zc (zo 0 rfl rfl) ?_|refine zc (zm 0 rfl rfl) ?_))) ?_)
  rintro _ rfl
  (repeat (first|refine yG (yN ?_)|refine yG (yD 0 rfl rfl rfl rfl rfl ?_)|refine yG (yE rfl rfl rfl (RdL.blk hb rfl) ?_)))
  refine VA.go (VA.split 9 rfl rfl (fun h0 => ?_) (fun h0 => ?_))
  rotate_left
  · refine VA.go (VA.yes 14 false rfl rfl ?_)
    refine VA.go (VA.offO rfl rfl ?_)
    refine VA.go (VA.yes 19 false rfl rfl ?_)
    refine VA.go (VA.offO rfl rfl ?_)
    refine VA.go (VA.yes 24 false rfl rfl ?_)
    refine VA.go (VA.yes 29 false rfl rfl ?_)
    refine VA.go (VA.yes 38 false rfl rfl ?_)
    refine VA.go (VA.yes 43 false rfl rfl ?_)
    refine VA.go (VA.yes 48 false rfl rfl ?_)
    refine VA.go (VA.offO rfl rfl ?_)
    refine VA.go (VA.yes 54 false rfl rfl ?_)
    refine VA.go (VA.offO rfl rfl ?_)
    (repeat (first|refine yG (yN ?_)|refine yG (yD 0 rfl rfl rfl rfl rfl ?_)))
    exact ⟨false, (by show false = AdmM.may A f.1; rw [AdmM.may]; simp only [show (A.has f.1.client) = false from h0, Bool.and_false, Bool.false_and]), Sub.cons rfl (Sub.nil _), Imp.nil.ent⟩
  (repeat (first|refine yG (yN ?_)|refine yG (yD 0 rfl rfl rfl rfl rfl ?_)|refine yG (yE rfl rfl rfl (RdL.blk hb rfl) ?_)))
  refine VA.go (VA.split 14 rfl rfl (fun h1 => ?_) (fun h1 => ?_))
  rotate_left
  · refine VA.go (VA.offO rfl rfl ?_)
    refine VA.go (VA.yes 19 false rfl rfl ?_)
    refine VA.go (VA.offO rfl rfl ?_)
    refine VA.go (VA.yes 24 false rfl rfl ?_)
    refine VA.go (VA.yes 29 false rfl rfl ?_)
    refine VA.go (VA.yes 38 false rfl rfl ?_)
    refine VA.go (VA.yes 43 false rfl rfl ?_)
    refine VA.go (VA.yes 48 false rfl rfl ?_)
    refine VA.go (VA.offO rfl rfl ?_)
    refine VA.go (VA.yes 54 false rfl rfl ?_)
    refine VA.go (VA.offO rfl rfl ?_)
    (repeat (first|refine yG (yN ?_)|refine yG (yD 0 rfl rfl rfl rfl rfl ?_)))
    exact ⟨false, (by show false = AdmM.may A f.1; rw [AdmM.may]; simp only [show (f.1.kind == 1) = false from h1, Bool.and_false, Bool.false_and]), Sub.cons rfl (Sub.nil _), Imp.nil.ent⟩
  (repeat (first|refine yG (yN ?_)|refine yG (yD 0 rfl rfl rfl rfl rfl ?_)|refine yG (yE rfl rfl rfl (RdL.blk hb rfl) ?_)))
  refine VA.go (VA.callP (φ := fun v => v = .bool (numM f.1.seq)) (fun Fr w _ _ _ => number_spec Fr w _) rfl rfl (by (try refine Pd.st ?_);(repeat (first|exact Pd.nil|exact Pd.fnil|refine Pd.inner ?_|refine Pd.skip (by decide +kernel) ?_|refine zf (zo 0 rfl rfl) ?_|refine zf (zm 0 rfl rfl) ?_|refine zf (RdL.blk hb rfl) ?_|refine zf (hb) ?_|refine zc (zo 0 rfl rfl) ?_|refine zc (zm 0 rfl rfl) ?_|refine zc (RdL.blk hb rfl) ?_|refine zc (hb) ?_))) ?_)
  rintro _ rfl
  (repeat (first|refine yG (yN ?_)|refine yG (yD 0 rfl rfl rfl rfl rfl ?_)|refine yG (yE rfl rfl rfl (RdL.blk hb rfl) ?_)))
  refine VA.go (VA.split 19 rfl rfl (fun h2 => ?_) (fun h2 => ?_))
  rotate_left
  · refine VA.go (VA.offO rfl rfl ?_)
    refine VA.go (VA.yes 24 false rfl rfl ?_)
    refine VA.go (VA.yes 29 false rfl rfl ?_)
    refine VA.go (VA.yes 38 false rfl rfl ?_)
    refine VA.go (VA.yes 43 false rfl rfl ?_)
    refine VA.go (VA.yes 48 false rfl rfl ?_)
    refine VA.go (VA.offO rfl rfl ?_)
    refine VA.go (VA.yes 54 false rfl rfl ?_)
    refine VA.go (VA.offO rfl rfl ?_)
    (repeat (first|refine yG (yN ?_)|refine yG (yD 0 rfl rfl rfl rfl rfl ?_)))
    exact ⟨false, (by show false = AdmM.may A f.1; rw [AdmM.may]; simp only [show (numM f.1.seq) = false from h2, Bool.and_false, Bool.false_and]), Sub.cons rfl (Sub.nil _), Imp.nil.ent⟩
  (repeat (first|refine yG (yN ?_)|refine yG (yD 0 rfl rfl rfl rfl rfl ?_)|refine yG (yE rfl rfl rfl (RdL.blk hb rfl) ?_)))
  refine VA.go (VA.callP (φ := fun v => v = .bool (numM f.1.try_)) (fun Fr w _ _ _ => number_spec Fr w _) rfl rfl (by (try refine Pd.st ?_);(repeat (first|exact Pd.nil|exact Pd.fnil|refine Pd.inner ?_|refine Pd.skip (by decide +kernel) ?_|refine zf (zo 0 rfl rfl) ?_|refine zf (zm 0 rfl rfl) ?_|refine zf (RdL.blk hb rfl) ?_|refine zf (hb) ?_|refine zc (zo 0 rfl rfl) ?_|refine zc (zm 0 rfl rfl) ?_|refine zc (RdL.blk hb rfl) ?_|refine zc (hb) ?_))) ?_)
  rintro _ rfl
  (repeat (first|refine yG (yN ?_)|refine yG (yD 0 rfl rfl rfl rfl rfl ?_)|refine yG (yE rfl rfl rfl (RdL.blk hb rfl) ?_)))
  refine VA.go (VA.split 24 rfl rfl (fun h3 => ?_) (fun h3 => ?_))
  rotate_left
  · refine VA.go (VA.yes 29 false rfl rfl ?_)
    refine VA.go (VA.yes 38 false rfl rfl ?_)
    refine VA.go (VA.yes 43 false rfl rfl ?_)
    refine VA.go (VA.yes 48 false rfl rfl ?_)
    refine VA.go (VA.offO rfl rfl ?_)
    refine VA.go (VA.yes 54 false rfl rfl ?_)
    refine VA.go (VA.offO rfl rfl ?_)
    (repeat (first|refine yG (yN ?_)|refine yG (yD 0 rfl rfl rfl rfl rfl ?_)))
    exact ⟨false, (by show false = AdmM.may A f.1; rw [AdmM.may]; simp only [show (numM f.1.try_) = false from h3, Bool.and_false, Bool.false_and]), Sub.cons rfl (Sub.nil _), Imp.nil.ent⟩
  (repeat (first|refine yG (yN ?_)|refine yG (yD 0 rfl rfl rfl rfl rfl ?_)|refine yG (yE rfl rfl rfl (RdL.blk hb rfl) ?_)))
  refine VA.go (VA.split 29 rfl rfl (fun h4 => ?_) (fun h4 => ?_))
  rotate_left
  · refine VA.go (VA.yes 38 false rfl rfl ?_)
    refine VA.go (VA.yes 43 false rfl rfl ?_)
    refine VA.go (VA.yes 48 false rfl rfl ?_)
    refine VA.go (VA.offO rfl rfl ?_)
    refine VA.go (VA.yes 54 false rfl rfl ?_)
    refine VA.go (VA.offO rfl rfl ?_)
    (repeat (first|refine yG (yN ?_)|refine yG (yD 0 rfl rfl rfl rfl rfl ?_)))
    exact ⟨false, (by show false = AdmM.may A f.1; rw [AdmM.may]; simp only [show (decide (0 ≤ f.1.cls)) = false from h4, Bool.and_false, Bool.false_and]), Sub.cons rfl (Sub.nil _), Imp.nil.ent⟩
  (repeat (first|refine yG (yN ?_)|refine yG (yD 0 rfl rfl rfl rfl rfl ?_)|refine yG (yE rfl rfl rfl (RdL.blk hb rfl) ?_)))
  refine VA.go (VA.split 38 rfl rfl (fun h5 => ?_) (fun h5 => ?_))
  rotate_left
  · refine VA.go (VA.yes 43 false rfl rfl ?_)
    refine VA.go (VA.yes 48 false rfl rfl ?_)
    refine VA.go (VA.offO rfl rfl ?_)
    refine VA.go (VA.yes 54 false rfl rfl ?_)
    refine VA.go (VA.offO rfl rfl ?_)
    (repeat (first|refine yG (yN ?_)|refine yG (yD 0 rfl rfl rfl rfl rfl ?_)))
    exact ⟨false, (by show false = AdmM.may A f.1; rw [AdmM.may]; simp only [show (decide (f.1.cls < A.sch.cls.length)) = false from h5, Bool.and_false, Bool.false_and]), Sub.cons rfl (Sub.nil _), Imp.nil.ent⟩
  (repeat (first|refine yG (yN ?_)|refine yG (yD 0 rfl rfl rfl rfl rfl ?_)|refine yG (yE rfl rfl rfl (RdL.blk hb rfl) ?_)))
  refine VA.go (VA.split 43 rfl rfl (fun h6 => ?_) (fun h6 => ?_))
  rotate_left
  · refine VA.go (VA.yes 48 false rfl rfl ?_)
    refine VA.go (VA.offO rfl rfl ?_)
    refine VA.go (VA.yes 54 false rfl rfl ?_)
    refine VA.go (VA.offO rfl rfl ?_)
    (repeat (first|refine yG (yN ?_)|refine yG (yD 0 rfl rfl rfl rfl rfl ?_)))
    exact ⟨false, (by show false = AdmM.may A f.1; rw [AdmM.may]; simp only [show (decide (0 ≤ f.1.deadline)) = false from h6, Bool.and_false, Bool.false_and]), Sub.cons rfl (Sub.nil _), Imp.nil.ent⟩
  (repeat (first|refine yG (yN ?_)|refine yG (yD 0 rfl rfl rfl rfl rfl ?_)|refine yG (yE rfl rfl rfl (RdL.blk hb rfl) ?_)))
  refine VA.go (VA.split 48 rfl rfl (fun h7 => ?_) (fun h7 => ?_))
  rotate_left
  · refine VA.go (VA.offO rfl rfl ?_)
    refine VA.go (VA.yes 54 false rfl rfl ?_)
    refine VA.go (VA.offO rfl rfl ?_)
    (repeat (first|refine yG (yN ?_)|refine yG (yD 0 rfl rfl rfl rfl rfl ?_)))
    exact ⟨false, (by show false = AdmM.may A f.1; rw [AdmM.may]; simp only [show (decide (f.1.deadline ≤ 1099511627776)) = false from h7, Bool.and_false, Bool.false_and]), Sub.cons rfl (Sub.nil _), Imp.nil.ent⟩
  (repeat (first|refine yG (yN ?_)|refine yG (yD 0 rfl rfl rfl rfl rfl ?_)|refine yG (yE rfl rfl rfl (RdL.blk hb rfl) ?_)))
  refine VA.go (VA.ldA 0 f.1.op.cells rfl rfl rfl rfl rfl ?_)
  refine VA.go (VA.callP (φ := fun v => v = .int .i64 (opCheck f.1.op)) (fun Fr w _ _ _ => check_spec Fr w _) rfl rfl (by (try refine Pd.st ?_);(repeat (first|exact Pd.nil|exact Pd.fnil|refine Pd.inner ?_|refine Pd.skip (by decide +kernel) ?_|refine zf (zo 0 rfl rfl) ?_|refine zf (zm 0 rfl rfl) ?_|refine zf (RdL.blk hb rfl) ?_|refine zf (hb) ?_|refine zc (zo 0 rfl rfl) ?_|refine zc (zm 0 rfl rfl) ?_|refine zc (RdL.blk hb rfl) ?_|refine zc (hb) ?_))) ?_)
  rintro _ rfl
  (repeat (first|refine yG (yN ?_)|refine yG (yD 0 rfl rfl rfl rfl rfl ?_)|refine yG (yE rfl rfl rfl (RdL.blk hb rfl) ?_)))
  refine VA.go (VA.split 54 rfl rfl (fun h8 => ?_) (fun h8 => ?_))
  rotate_left
  · refine VA.go (VA.offO rfl rfl ?_)
    (repeat (first|refine yG (yN ?_)|refine yG (yD 0 rfl rfl rfl rfl rfl ?_)))
    exact ⟨false, (by show false = AdmM.may A f.1; rw [AdmM.may]; simp only [show (opCheck f.1.op == 0) = false from h8, Bool.and_false, Bool.false_and]), Sub.cons rfl (Sub.nil _), Imp.nil.ent⟩
  (repeat (first|refine yG (yN ?_)|refine yG (yD 0 rfl rfl rfl rfl rfl ?_)|refine yG (yE rfl rfl rfl (RdL.blk hb rfl) ?_)))
  refine VA.go (VA.ldA 0 f.1.op.cells rfl rfl rfl rfl rfl ?_)
  refine VA.go (VA.callP (φ := fun v => v = .bool (readsM f.1.op)) (fun Fr w _ _ _ => reads_spec Fr w _) rfl rfl (by (try refine Pd.st ?_);(repeat (first|exact Pd.nil|exact Pd.fnil|refine Pd.inner ?_|refine Pd.skip (by decide +kernel) ?_|refine zf (zo 0 rfl rfl) ?_|refine zf (zm 0 rfl rfl) ?_|refine zf (RdL.blk hb rfl) ?_|refine zf (hb) ?_|refine zc (zo 0 rfl rfl) ?_|refine zc (zm 0 rfl rfl) ?_|refine zc (RdL.blk hb rfl) ?_|refine zc (hb) ?_))) ?_)
  rintro _ rfl
  (repeat (first|refine yG (yN ?_)|refine yG (yD 0 rfl rfl rfl rfl rfl ?_)))
  refine ⟨!readsM f.1.op, ?_, Sub.cons rfl (Sub.nil _), Imp.nil.ent⟩
  show (!readsM f.1.op) = AdmM.may A f.1
  rw [AdmM.may]
  simp only [show (A.has f.1.client) = true from h0, show (f.1.kind == 1) = true from h1, show (numM f.1.seq) = true from h2, show (numM f.1.try_) = true from h3, show (decide (0 ≤ f.1.cls)) = true from h4, show (decide (f.1.cls < A.sch.cls.length)) = true from h5, show (decide (0 ≤ f.1.deadline)) = true from h6, show (decide (f.1.deadline ≤ 1099511627776)) = true from h7, show (opCheck f.1.op == 0) = true from h8, Bool.true_and, Bool.and_true]
end Go.Proofs.YtbbnmgakmcppdaaGreat.Adm
