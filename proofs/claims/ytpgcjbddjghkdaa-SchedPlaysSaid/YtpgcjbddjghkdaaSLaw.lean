/- The scheduler's laws: their requests, and the chapter's example. No condition. -/
import Derived.Test.YtpgcjbddjghkdaaSchedN
namespace Go.Proofs.Ytpgcjbddjghkdaa.SLaw
open Go Go.Proofs.Ytpgcjbddjghkdaa.Vg Go.Proofs.Ytpgcjbddjghkdaa.T Go.Proofs.Ytpgcjbddjghkdaa.Api Go.Proofs.Ytpgcjbddjghkdaa.Ring Go.Proofs.Ytpgcjbddjghkdaa.Sched
set_option linter.unusedSimpArgs false
set_option linter.unusedVariables false
attribute [local irreducible] VO VC VA

def zeros (n : Nat) : ByteArray := ⟨(List.replicate n (0 : UInt8)).toArray⟩
def putM (cls bytes seq : Int) : FrameM := { FrameM.zero with kind := 1, cls := cls, seq := seq, deadline := 9, op := ⟨2, ⟨#[107]⟩, zeros (bytes - 17).toNat, 0⟩ }

set_option maxRecDepth 100000 in
theorem put_spec (Fr : Nat → Prop) (w : World) (cls bytes seq : Int) (h1 : -1000 ≤ bytes) (h2 : bytes ≤ 1000) : Tri Try.prog 22 [.int .i64 cls, .int .i64 bytes, .int .i64 seq] Fr w [] (fun v L => v = .agg (fmc (putM cls bytes seq, (none, 0))).toArray ∧ L = []) := by
  refine Tri.of 16 Try.func22 rfl (by kernel_rfl) tabOk rfl rfl ?_
  refine VC.seq (VC.region (VO.go (VO.alloc rfl fun b => VO.go (VO.nil ?_))))
  (repeat (first | refine VC.seq ?_ | refine VC.region ?_ | refine VC.block ?_ | refine VC.label ?_ | refine VC.scope ?_ | refine VO.go (VO.nil ?_) | refine VO.go (VO.ld 0 rfl rfl rfl rfl ?_)))
  refine VO.go (VO.sub' rfl rfl (by omega) (by omega) ?_)
  refine VO.go (VO.makeSlice (bytes - 17).toNat rfl rfl rfl rfl rfl (by split <;> omega) (by split <;> omega) (by omega) (by show 1 * _ ≤ _; omega) fun sb => ?_)
  refine VO.go (VO.op rfl rfl rfl (OpT.str (bs := List.replicate (bytes - 17).toNat 0) 0 rfl rfl rfl rfl rfl rfl rfl rfl (by simp) ?_) ?_)
  · have e : ((List.replicate (bytes - 17).toNat [Value.int .u8 0]).flatten) = List.replicate (bytes - 17).toNat (Value.int .u8 0) := by
      generalize (bytes - 17).toNat = n
      induction n with
      | zero => rfl
      | succ n ih => rw [List.replicate_succ, List.flatten_cons, ih]; rfl
    show List.take _ ((List.replicate (bytes - 17).toNat [Value.int .u8 0]).flatten) = _
    rw [e]; simp
  rintro _ _ ⟨rfl, rfl⟩
  refine VO.go (VO.light (light_build (pv := [(0, .int .i64 2), (1, .string ⟨#[107]⟩), (2, .string (zeros (bytes - 17).toNat))]) [.int .i64 2, .string ⟨#[107]⟩, .string (zeros (bytes - 17).toNat), .int .i64 0] rfl rfl rfl rfl rfl) ?_)
  refine VO.go (VO.light (light_build (pv := [(0, .int .i64 1), (5, .int .i64 cls), (3, .int .i64 seq), (6, .int .i64 9), (7, .agg (putM cls bytes seq).op.cells.toArray)]) (fmc (putM cls bytes seq, (none, 0))) rfl rfl rfl rfl rfl) ?_)
  refine VO.go (VO.stA (vs := fmc (putM cls bytes seq, (none, 0))) (cs' := fmc (putM cls bytes seq, (none, 0))) 1 rfl rfl rfl rfl (Nat.le_refl _) rfl rfl rfl (VO.go (VO.nil ?_)))
  exact VC.ret (Ret.cell 6 rfl rfl rfl (RdL.many 1 rfl rfl) Imp.nil.ent ⟨rfl, rfl⟩)

def key16 : ByteArray := ⟨#[48, 49, 50, 51, 52, 53, 54, 55, 56, 57, 97, 98, 99, 100, 101, 102]⟩
def wholeM (cls seq : Int) : FrameM := { putM cls 81 seq with op := ⟨2, key16, zeros 64, 0⟩ }

set_option maxRecDepth 100000 in
theorem whole_spec (Fr : Nat → Prop) (w : World) (cls seq : Int) : Tri Try.prog 17 [.int .i64 cls, .int .i64 seq] Fr w [] (fun v L => v = .agg (fmc (wholeM cls seq, (none, 0))).toArray ∧ L = []) := by
  refine Tri.of 12 Try.func17 rfl (by kernel_rfl) tabOk rfl rfl ?_
  refine VC.seq (VC.region (VO.go (VO.alloc rfl fun b => VO.go (VO.nil ?_))))
  (repeat (first | refine VC.seq ?_ | refine VC.region ?_ | refine VC.block ?_ | refine VC.label ?_ | refine VC.scope ?_ | refine VO.go (VO.nil ?_) | refine VO.go (VO.ld 0 rfl rfl rfl rfl ?_)))
  refine VO.go (VO.callV (fun Fr w => put_spec Fr w cls 81 seq (by omega) (by omega)) rfl ?_)
  refine VO.go (VO.alloc rfl fun c => VO.go (VO.stA (vs := fmc (putM cls 81 seq, (none, 0))) (cs' := fmc (putM cls 81 seq, (none, 0))) 0 rfl rfl rfl rfl (Nat.le_refl _) rfl rfl rfl (VO.go (VO.nil ?_))))
  (repeat (first | refine VC.seq ?_ | refine VC.region ?_ | refine VC.block ?_ | refine VC.label ?_ | refine VC.scope ?_ | refine VO.go (VO.nil ?_) | refine VO.go (VO.ld 0 rfl rfl rfl rfl ?_)))
  refine VO.go (VO.st 0 (cs' := fmc (wholeM cls seq, (none, 0))) rfl rfl rfl rfl (by show 8 < 29; omega) rfl rfl (VO.go (VO.nil ?_)))
  (repeat (first | refine VC.seq ?_ | refine VC.region ?_ | refine VC.block ?_ | refine VC.label ?_ | refine VC.scope ?_ | refine VO.go (VO.nil ?_) | refine VO.go (VO.ld 0 rfl rfl rfl rfl ?_)))
  refine VO.go (VO.ldA 0 (fmc (wholeM cls seq, (none, 0))) rfl rfl rfl rfl (VO.go (VO.stA (vs := fmc (wholeM cls seq, (none, 0))) (cs' := fmc (wholeM cls seq, (none, 0))) 1 rfl rfl rfl rfl (Nat.le_refl _) rfl rfl rfl (VO.go (VO.nil ?_)))))
  exact VC.ret (Ret.cell 4 rfl rfl rfl (RdL.many 1 rfl rfl) Imp.nil.ent ⟨rfl, rfl⟩)

/-! ### The chapter's example -/
def tPush : Nat → SchM
  | 0 => SchM.new [96, 192] 16
  | n + 1 => (((tPush n).pushM (wholeM 0 n)).2.pushM (wholeM 1 n)).2
def tPop : Nat → SchM
  | 0 => tPush 6
  | n + 1 => match (tPop n).popF 9 with
    | some r => r.2
    | none => tPop n
def want : List Int := [0, 1, 1, 0, 1, 1, 0, 1, 1]
theorem tPush_ok : ∀ i, i < 6 → ((tPush i).pushM (wholeM 0 i)).1 = 0 ∧ (((tPush i).pushM (wholeM 0 i)).2.pushM (wholeM 1 i)).1 = 0 := by decide +kernel
theorem tPop_ok : ∀ i, i < 9 → (tPop i).idle = false ∧ ((tPop i).popF 9).map (fun r => r.1.cls) = want[i]? := by decide +kernel
theorem tPop_some {i : Nat} (h : i < 9) : ∃ f, (tPop i).popF 9 = some (f, tPop (i + 1)) ∧ want[i]? = some f.cls := by
  obtain ⟨h1, h2⟩ := tPop_ok i h
  have hw : i < want.length := h
  cases hp : (tPop i).popF 9 with
  | none => rw [hp, List.getElem?_eq_getElem hw] at h2; cases h2
  | some r =>
    refine ⟨r.1, ?_, by rw [← h2, hp]; rfl⟩
    simp only [tPop, hp]
theorem tEnd : (tPop 9).servedM 0 = 288 ∧ (tPop 9).servedM 1 = 576 ∧ ((tPop 9).pushM (putM 2 20 1)).1 = 2 := by decide +kernel

theorem sched_new_ok (Fr : Nat → Prop) (w : World) (a : Option Addr) (qc : Nat) (qs : List Int) (cap : Int) (hq : IntsIn Fr w a qs) (hok : newOk qs cap = true) :
    Tri Try.prog 15 [.slice a qs.length qc, .int .i64 cap] Fr w [] (fun v L => ∃ p, v = .tuple #[.pointer (some ⟨p, 0, none⟩), .int .i64 0] ∧ L = [schH p (SchM.new qs cap)]) := by
  have h := Sched.new_spec Fr w a qc qs cap hq
  unfold newR at h
  simpa only [hok, if_true] using h

set_option maxRecDepth 100000 in
theorem turned_spec (Fr : Nat → Prop) (w : World) : Tri Try.prog 21 [] Fr w [] (fun v L => v = .bool true ∧ L = []) := by
  refine Tri.of 73 Try.func21 rfl (by kernel_rfl) tabOk rfl rfl ?_
  (repeat (first | refine VC.seq ?_ | refine VC.region ?_ | refine VC.block ?_ | refine VC.label ?_ | refine VC.scope ?_ | refine VO.go (VO.nil ?_) | refine VO.go (VO.ld 0 rfl rfl rfl rfl ?_)))
  refine VO.go (VO.buildSlice (n := 2) (pv := [(0, .int .i64 96), (1, .int .i64 192)]) [.int .i64 96, .int .i64 192] rfl rfl rfl rfl (by decide) rfl fun qb => ?_)
  refine VO.go (VO.call (Lc := []) (Lr := [pt qb [.int .i64 96, .int .i64 192] 3]) (fun Fr w hF _ hs => sched_new_ok Fr w _ 2 [96, 192] 16 (IntsIn.blk (hs.blk 0 rfl) rfl) (by decide)) rfl rfl ?_)
  rintro _ _ ⟨p, rfl, rfl⟩
  (repeat (first | refine VC.seq ?_ | refine VC.region ?_ | refine VC.block ?_ | refine VC.label ?_ | refine VC.scope ?_ | refine VO.go (VO.nil ?_) | refine VO.go (VO.ld 0 rfl rfl rfl rfl ?_)))
  refine VC.condNE rfl (fun h => absurd rfl h) (fun _ => VC.skip ?_)
  (repeat (first | refine VC.seq ?_ | refine VC.region ?_ | refine VC.block ?_ | refine VC.label ?_ | refine VC.scope ?_ | refine VO.go (VO.nil ?_) | refine VO.go (VO.ld 0 rfl rfl rfl rfl ?_)))
  refine VC.loop (σ := Nat) (fun i => [(1, .pointer (some ⟨p, 0, none⟩)), (3, .int .i64 i)]) (fun i => [schH p (tPush i)]) (fun i => i ≤ 6) (fun i => 6 - i) 0 (by omega) (Sub.cons rfl (Sub.cons rfl (Sub.nil _))) (Imp.app (L := [_]) (M := [_]) (L' := [_]) Imp.refl Imp.nil).ent ?_
  intro i hi
  (repeat (first | refine VC.seq ?_ | refine VC.region ?_ | refine VC.block ?_ | refine VC.label ?_ | refine VC.scope ?_ | refine VO.go (VO.nil ?_) | refine VO.go (VO.ld 0 rfl rfl rfl rfl ?_)))
  refine VC.condP rfl (fun h1 => ?_) (fun h1 => ?_)
  · have h1 : i < 6 := by omega
    obtain ⟨hA, hB⟩ := tPush_ok i h1
    refine VC.skip ?_
    (repeat (first | refine VC.seq ?_ | refine VC.region ?_ | refine VC.block ?_ | refine VC.label ?_ | refine VC.scope ?_ | refine VO.go (VO.nil ?_) | refine VO.go (VO.ld 0 rfl rfl rfl rfl ?_)))
    refine VO.go (VO.callV (fun Fr w => put_spec Fr w 0 81 i (by omega) (by omega)) rfl ?_)
    refine VO.go (VO.callV (fun Fr w => put_spec Fr w 1 81 i (by omega) (by omega)) rfl ?_)
    refine VO.go (VO.alloc rfl fun x => VO.go (VO.alloc rfl fun y => ?_))
    refine VO.go (VO.stA (vs := fmc (putM 0 81 i, (none, 0))) (cs' := fmc (putM 0 81 i, (none, 0))) 1 rfl rfl rfl rfl (Nat.le_refl _) rfl rfl rfl ?_)
    refine VO.go (VO.stA (vs := fmc (putM 1 81 i, (none, 0))) (cs' := fmc (putM 1 81 i, (none, 0))) 0 rfl rfl rfl rfl (Nat.le_refl _) rfl rfl rfl (VO.go (VO.nil ?_)))
    (repeat (first | refine VC.seq ?_ | refine VC.region ?_ | refine VC.block ?_ | refine VC.label ?_ | refine VC.scope ?_ | refine VO.go (VO.nil ?_) | refine VO.go (VO.ld 0 rfl rfl rfl rfl ?_)))
    refine VO.go (VO.st 1 (cs' := fmc (wholeM 0 i, (none, 0))) rfl rfl rfl rfl (by show 8 < 29; omega) rfl rfl ?_)
    refine VO.go (VO.st 0 (cs' := fmc (wholeM 1 i, (none, 0))) rfl rfl rfl rfl (by show 8 < 29; omega) rfl rfl (VO.go (VO.nil ?_)))
    (repeat (first | refine VC.seq ?_ | refine VC.region ?_ | refine VC.block ?_ | refine VC.label ?_ | refine VC.scope ?_ | refine VO.go (VO.nil ?_) | refine VO.go (VO.ld 0 rfl rfl rfl rfl ?_)))
    refine VO.go (VO.ldA 1 (fmc (wholeM 0 i, (none, 0))) rfl rfl rfl rfl ?_)
    refine VO.go (VO.callAt 2 (ψ := fun v H => v = .int .i64 0 ∧ H = schH p ((tPush i).pushM (wholeM 0 i)).2) rfl (fun Fr w _ _ _ => Sched.push_spec Fr w p (tPush i) (wholeM 0 i, (none, 0))) rfl (fun v L1 ⟨h1, h2⟩ => ⟨_, h2, by rw [h1, hA], rfl⟩) ?_)
    rintro _ _ ⟨rfl, rfl⟩
    refine VO.go (VO.yes 33 false rfl rfl (VO.go (VO.ldA 0 (fmc (wholeM 1 i, (none, 0))) rfl rfl rfl rfl ?_)))
    refine VO.go (VO.callAt 2 (ψ := fun v H => v = .int .i64 0 ∧ H = schH p (tPush (i + 1))) rfl (fun Fr w _ _ _ => Sched.push_spec Fr w p ((tPush i).pushM (wholeM 0 i)).2 (wholeM 1 i, (none, 0))) rfl (fun v L1 ⟨h1, h2⟩ => ⟨_, h2, by rw [h1, hB], rfl⟩) ?_)
    rintro _ _ ⟨rfl, rfl⟩
    (repeat (first | refine VC.seq ?_ | refine VC.region ?_ | refine VC.block ?_ | refine VC.label ?_ | refine VC.scope ?_ | refine VO.go (VO.nil ?_) | refine VO.go (VO.ld 0 rfl rfl rfl rfl ?_)))
    refine VC.condNE rfl (fun h => absurd rfl h) (fun _ => VC.skip ?_)
    (repeat (first | refine VC.seq ?_ | refine VC.region ?_ | refine VC.block ?_ | refine VC.label ?_ | refine VC.scope ?_ | refine VO.go (VO.nil ?_) | refine VO.go (VO.ld 0 rfl rfl rfl rfl ?_)))
    refine VO.go (VO.add rfl rfl (by omega) (by omega) ?_)
    (repeat (first | refine VC.seq ?_ | refine VC.region ?_ | refine VC.block ?_ | refine VC.label ?_ | refine VC.scope ?_ | refine VO.go (VO.nil ?_) | refine VO.go (VO.ld 0 rfl rfl rfl rfl ?_)))
    exact ⟨i + 1, h1, by dsimp only; omega, Sub.cons rfl (Sub.cons rfl (Sub.nil _)), (Imp.trans Imp.tl Imp.tl).ent⟩
  · have h1 : i = 6 := by omega
    subst h1
    refine VC.exit ?_
    refine VC.seq (VC.region (VO.go (VO.light (light_buildArr (pv := [(0, .int .i64 0), (1, .int .i64 1), (2, .int .i64 1), (3, .int .i64 0), (4, .int .i64 1), (5, .int .i64 1), (6, .int .i64 0), (7, .int .i64 1), (8, .int .i64 1)]) (want.map fun q => .int .i64 q) rfl rfl rfl rfl rfl) ?_)))
    refine VO.go (VO.alloc rfl fun wb => VO.go (VO.stA (vs := want.map fun q => .int .i64 q) (cs' := want.map fun q => .int .i64 q) 0 rfl rfl rfl rfl (Nat.le_refl _) rfl rfl rfl (VO.go (VO.nil ?_))))
    (repeat (first | refine VC.seq ?_ | refine VC.region ?_ | refine VC.block ?_ | refine VC.label ?_ | refine VC.scope ?_ | refine VO.go (VO.nil ?_) | refine VO.go (VO.ld 0 rfl rfl rfl rfl ?_)))
    refine VC.loop (σ := Nat) (fun i => [(1, .pointer (some ⟨p, 0, none⟩)), (6, .pointer (some ⟨wb, 0, none⟩)), (7, .int .i64 i)]) (fun i => [pt wb (want.map fun q => .int .i64 q) 86, schH p (tPop i)]) (fun i => i ≤ 9) (fun i => 9 - i) 0 (by omega) (Sub.cons rfl (Sub.cons rfl (Sub.cons rfl (Sub.nil _)))) Ent.refl ?_
    intro i hi
    (repeat (first | refine VC.seq ?_ | refine VC.region ?_ | refine VC.block ?_ | refine VC.label ?_ | refine VC.scope ?_ | refine VO.go (VO.nil ?_) | refine VO.go (VO.ld 0 rfl rfl rfl rfl ?_)))
    refine VC.condP rfl (fun h1 => ?_) (fun h1 => ?_)
    · have h1 : i < 9 := by omega
      obtain ⟨f, hp, hw⟩ := tPop_some h1
      refine VC.skip ?_
      (repeat (first | refine VC.seq ?_ | refine VC.region ?_ | refine VC.block ?_ | refine VC.label ?_ | refine VC.scope ?_ | refine VO.go (VO.nil ?_) | refine VO.go (VO.ld 0 rfl rfl rfl rfl ?_)))
      refine VO.go (VO.callAt 1 (ψ := fun v H => (∃ m, v = .tuple #[.agg (fmc (f, m)).toArray, .bool true]) ∧ H = schH p (tPop (i + 1))) rfl (fun Fr w _ _ _ => Sched.pop_spec Fr w p (tPop i) 9 f (tPop (i + 1)) hp (tPop_ok i h1).1) rfl (fun v L1 ⟨h1, h2⟩ => ⟨_, h2, h1, rfl⟩) ?_)
      rintro _ _ ⟨⟨m, rfl⟩, rfl⟩
      refine VO.go (VO.alloc rfl fun x => VO.go (VO.stA (vs := fmc (f, m)) (cs' := fmc (f, m)) 0 rfl rfl rfl rfl (Nat.le_refl _) rfl rfl rfl (VO.go (VO.nil ?_))))
      (repeat (first | refine VC.seq ?_ | refine VC.region ?_ | refine VC.block ?_ | refine VC.label ?_ | refine VC.scope ?_ | refine VO.go (VO.nil ?_) | refine VO.go (VO.ld 0 rfl rfl rfl rfl ?_)))
      refine VC.draw (ts 0 10 .nil) (by kernel_rfl) (by kernel_rfl) ?_
      refine VA.go (VA.yes 51 false rfl rfl ?_)
      (repeat (first | refine VA.go (VA.nil ?_) | refine VA.go (VA.ld 0 rfl rfl rfl rfl rfl ?_)))
      refine VA.go (VA.light rfl (light_idxA i rfl rfl rfl rfl rfl rfl h1) ?_)
      have hcell : (want.map fun q => Value.int .i64 q)[0 + i * 1]? = some (.int .i64 f.cls) := by rw [Nat.zero_add, Nat.mul_one, List.getElem?_map, hw]; rfl
      refine VA.go (VA.ld 1 rfl rfl rfl rfl hcell ?_)
      (repeat (first | refine VA.go (VA.nil ?_) | refine VA.go (VA.ld 0 rfl rfl rfl rfl rfl ?_)))
      refine VC.condNE rfl (fun h => absurd rfl h) (fun _ => VC.skip ?_)
      (repeat (first | refine VC.seq ?_ | refine VC.region ?_ | refine VC.block ?_ | refine VC.label ?_ | refine VC.scope ?_ | refine VO.go (VO.nil ?_) | refine VO.go (VO.ld 0 rfl rfl rfl rfl ?_)))
      refine VO.go (VO.add rfl rfl (by omega) (by omega) ?_)
      (repeat (first | refine VC.seq ?_ | refine VC.region ?_ | refine VC.block ?_ | refine VC.label ?_ | refine VC.scope ?_ | refine VO.go (VO.nil ?_) | refine VO.go (VO.ld 0 rfl rfl rfl rfl ?_)))
      exact ⟨i + 1, h1, by dsimp only; omega, Sub.cons rfl (Sub.cons rfl (Sub.cons rfl (Sub.nil _))), Imp.tl.ent⟩
    · have h1 : i = 9 := by omega
      subst h1
      refine VC.exit ?_
      (repeat (first | refine VC.seq ?_ | refine VC.region ?_ | refine VC.block ?_ | refine VC.label ?_ | refine VC.scope ?_ | refine VO.go (VO.nil ?_) | refine VO.go (VO.ld 0 rfl rfl rfl rfl ?_)))
      refine VO.go (VO.callV' (fun Fr w hF _ hs => Sched.served_spec Fr w 0 (hs.at_ 1 rfl)) rfl ?_)
      refine VO.go (VO.yes 62 true rfl (by rw [tEnd.1]; rfl) ?_)
      refine VO.go (VO.callV' (fun Fr w hF _ hs => Sched.served_spec Fr w 1 (hs.at_ 1 rfl)) rfl ?_)
      refine VO.go (VO.yes 67 true rfl (by rw [tEnd.2.1]; rfl) ?_)
      refine VO.go (VO.callV (fun Fr w => put_spec Fr w 2 20 1 (by omega) (by omega)) rfl ?_)
      refine VO.go (VO.callAt 1 (ψ := fun v H => v = .int .i64 2) rfl (fun Fr w _ _ _ => Sched.push_spec Fr w p (tPop 9) (putM 2 20 1, (none, 0))) rfl (fun v L1 ⟨h1, h2⟩ => ⟨_, h2, by rw [h1, tEnd.2.2]⟩) ?_)
      rintro _ _ rfl
      (repeat (first | refine VC.seq ?_ | refine VC.region ?_ | refine VC.block ?_ | refine VC.label ?_ | refine VC.scope ?_ | refine VO.go (VO.nil ?_) | refine VO.go (VO.ld 0 rfl rfl rfl rfl ?_)))
      exact VC.ret (Ret.bool 0 rfl rfl rfl Imp.nil.ent ⟨rfl, rfl⟩)
end Go.Proofs.Ytpgcjbddjghkdaa.SLaw
