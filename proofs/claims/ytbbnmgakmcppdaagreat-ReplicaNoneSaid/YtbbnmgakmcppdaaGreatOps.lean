/- Operations: what is wrong with one, and what it counts for, by the program and by the reference alike. No condition. -/
import Derived.Test.YtbbnmgakmcppdaaGreatVgI
import Derived.Test.YtbbnmgakmcppdaaGreatTab
namespace Go.Proofs.YtbbnmgakmcppdaaGreat.Api
open Go Go.Proofs.YtbbnmgakmcppdaaGreat.Vg Go.Proofs.YtbbnmgakmcppdaaGreat.T
set_option linter.unusedSimpArgs false
set_option linter.unusedVariables false
attribute [local irreducible] VO VC VA

structure OpM where
  kind : Int
  key : ByteArray
  value : ByteArray
  version : Int
def OpM.cells (o : OpM) : List Value := [.int .i64 o.kind, .string o.key, .string o.value, .int .i64 o.version]

def opBad (o : OpM) : Bool :=
  decide (o.kind < 1) || decide (4 < o.kind) || decide (o.key.size = 0) || decide (o.version < 0) || decide (4096 < o.version) || (decide (o.version ≠ 0) && decide (o.kind ≠ 4)) ||
    (decide (o.value.size ≠ 0) && !(decide (o.kind = 2) || decide (o.kind = 4)))
def opLong (o : OpM) : Bool := decide (16 < o.key.size) || decide (64 < o.value.size)
def opCheck (o : OpM) : Int := if opBad o then 2 else if opLong o then 3 else 0
def opCost (o : OpM) : Int := if opCheck o = 0 then 16 + o.key.size + o.value.size else 0

theorem toList_size (s : ByteArray) : s.toList.length = s.size := by rw [ByteArray.toList_eq]; simp
theorem str_empty (s : ByteArray) (t : ByteArray) (ht : t.size = 0) : (s.toList == t.toList) = decide (s.size = 0) := by
  have h2 : t.toList = [] := List.eq_nil_of_length_eq_zero (by rw [toList_size]; exact ht)
  rw [h2]
  by_cases h : s.size = 0
  · have h1 : s.toList = [] := List.eq_nil_of_length_eq_zero (by rw [toList_size]; exact h)
    rw [h1]; simp [h]
  · have h1 : s.toList ≠ [] := fun e => h (by rw [← toList_size, e]; rfl)
    simp [h]
    exact h1

theorem valued_spec (Fr : Nat → Prop) (w : World) (k : Int) : Tri Tryz.prog 192 [.int .i64 k] Fr w [] (fun v L => v = .bool (decide (k = 2) || decide (k = 4)) ∧ L = []) := by
  refine Tri.of 9 Tryz.func192 rfl (by kernel_rfl) tabOk rfl rfl ?_
  refine VC.seq (VC.region (VO.go (VO.nil (VC.seq (VC.region (VO.go (VO.split 5 rfl rfl (fun h => VO.go (VO.nil (VC.ret ?_))) (fun h => VO.go (VO.nil (VC.ret ?_))))))))))
  · exact Ret.bool 2 rfl rfl (by have := eq_of_beq h; simp [this]) Ent.refl ⟨rfl, rfl⟩
  · exact Ret.bool 2 rfl rfl (by have h := ne_of_beq_false h; by_cases h4 : k = 4 <;> simp [h, h4]) Ent.refl ⟨rfl, rfl⟩

set_option maxRecDepth 100000 in
theorem check_spec (Fr : Nat → Prop) (w : World) (o : OpM) : Tri Tryz.prog 133 [.agg o.cells.toArray] Fr w [] (fun v L => v = .int .i64 (opCheck o) ∧ L = []) := by
  refine Tri.of 49 Tryz.func133 rfl (by kernel_rfl) tabOk rfl rfl ?_
  refine VC.seq (VC.region (VO.go (VO.boxA (vs := o.cells) rfl (fun b => VO.go (VO.nil ?_)))))
  refine VC.seq (VC.block ?_)
  refine VC.meet (σ := Bool) (fun s => [(1, .pointer (some ⟨b, 0, none⟩)), (3, .bool s)]) (fun _ => [pt b o.cells 40]) (fun s => s = opBad o) ?_ ?_
  · have K := str_empty o.key (ByteArray.mk #[]) rfl
    have V := str_empty o.value (ByteArray.mk #[]) rfl
    refine VC.seq (VC.region (VO.go (VO.ld 0 rfl rfl rfl rfl (VO.go (VO.split 7 rfl rfl (fun h1 => VO.go (VO.nil ?_)) (fun h1 => VO.go (VO.ld 0 rfl rfl rfl rfl (VO.go (VO.nil ?_)))))))))
    · refine VC.condT rfl (VC.skip ⟨true, ?_, Sub.cons rfl (Sub.cons rfl (Sub.nil _)), Ent.refl⟩)
      simp [opBad, h1]
    have h1 := of_decide_eq_false h1
    refine VC.condP rfl (fun h2 => VC.skip ⟨_, ?_, Sub.cons rfl (Sub.cons rfl (Sub.nil _)), Ent.refl⟩) (fun h2 => ?_)
    · simp [opBad, h2]
    refine VC.seq (VC.region (VO.go (VO.ld 0 rfl rfl rfl rfl (VO.go (VO.nil ?_)))))
    refine VC.cond (t := decide (o.key.size = 0)) (congrArg (fun x => some (Value.bool x)) K) (fun h3 => VC.skip ⟨_, ?_, Sub.cons rfl (Sub.cons rfl (Sub.nil _)), Ent.refl⟩) (fun h3 => ?_)
    · rw [K]; have h3 := of_decide_eq_true h3; simp [opBad, h3]
    have h3 := of_decide_eq_false h3
    refine VC.seq (VC.region (VO.go (VO.ld 0 rfl rfl rfl rfl (VO.go (VO.split 18 rfl rfl (fun h4 => VO.go (VO.nil ?_)) (fun h4 => VO.go (VO.ld 0 rfl rfl rfl rfl (VO.go (VO.nil ?_)))))))))
    · refine VC.condT rfl (VC.skip ⟨true, ?_, Sub.cons rfl (Sub.cons rfl (Sub.nil _)), Ent.refl⟩)
      simp [opBad, h4]
    have h4 := of_decide_eq_false h4
    refine VC.condP rfl (fun h5 => VC.skip ⟨_, ?_, Sub.cons rfl (Sub.cons rfl (Sub.nil _)), Ent.refl⟩) (fun h5 => ?_)
    · simp [opBad, h5]
    refine VC.seq (VC.region (VO.go (VO.ld 0 rfl rfl rfl rfl (VO.go (VO.split 26 rfl rfl (fun h6 => VO.go (VO.ld 0 rfl rfl rfl rfl (VO.go (VO.nil ?_)))) (fun h6 => VO.go (VO.nil ?_)))))))
    · have h6 : o.version ≠ 0 := by simpa using h6
      refine VC.condNE rfl (fun h7 => VC.skip ⟨_, ?_, Sub.cons rfl (Sub.cons rfl (Sub.nil _)), Ent.refl⟩) (fun h7 => ?_)
      · simp [opBad, h6, h7]
      have V2 : (!(o.value.toList == (ByteArray.mk #[]).toList)) = decide (o.value.size ≠ 0) := by rw [V]; simp
      (repeat (first|refine zS ?_|refine zR ?_|refine zB ?_|refine zL ?_|refine zC ?_|refine zG (zN ?_)|refine zG (zD 0 rfl rfl rfl rfl ?_)))
      refine VO.go (VO.split 34 (b := decide (o.value.size ≠ 0)) (congrArg (fun x => some (Value.bool x)) V2) rfl (fun h8 => ?_) (fun h8 => ?_))
      · have h8 := of_decide_eq_true h8
        (repeat (first|refine zS ?_|refine zR ?_|refine zB ?_|refine zL ?_|refine zC ?_|refine zG (zN ?_)|refine zG (zD 0 rfl rfl rfl rfl ?_)))
        refine VO.go (VO.callV (fun Fr w => valued_spec Fr w o.kind) rfl (VO.go (VO.nil ⟨_, ?_, Sub.cons rfl (Sub.cons rfl (Sub.nil _)), Ent.refl⟩)))
        simp [opBad, h1, h2, h3, h4, h5, h6, h7, h8]
      · have h8 := of_decide_eq_false h8
        (repeat (first|refine zS ?_|refine zR ?_|refine zB ?_|refine zL ?_|refine zC ?_|refine zG (zN ?_)|refine zG (zD 0 rfl rfl rfl rfl ?_)))
        refine ⟨_, ?_, Sub.cons rfl (Sub.cons rfl (Sub.nil _)), Ent.refl⟩
        simp [opBad, h1, h2, h3, h4, h5, h6, h7, h8]
    · have h6 : o.version = 0 := by simpa using h6
      have h7 : True := trivial
      have V2 : (!(o.value.toList == (ByteArray.mk #[]).toList)) = decide (o.value.size ≠ 0) := by rw [V]; simp
      refine VC.condF rfl ?_
      (repeat (first|refine zS ?_|refine zR ?_|refine zB ?_|refine zL ?_|refine zC ?_|refine zG (zN ?_)|refine zG (zD 0 rfl rfl rfl rfl ?_)))
      refine VO.go (VO.split 34 (b := decide (o.value.size ≠ 0)) (congrArg (fun x => some (Value.bool x)) V2) rfl (fun h8 => ?_) (fun h8 => ?_))
      · have h8 := of_decide_eq_true h8
        (repeat (first|refine zS ?_|refine zR ?_|refine zB ?_|refine zL ?_|refine zC ?_|refine zG (zN ?_)|refine zG (zD 0 rfl rfl rfl rfl ?_)))
        refine VO.go (VO.callV (fun Fr w => valued_spec Fr w o.kind) rfl (VO.go (VO.nil ⟨_, ?_, Sub.cons rfl (Sub.cons rfl (Sub.nil _)), Ent.refl⟩)))
        simp [opBad, h1, h2, h3, h4, h5, h6, h7, h8]
      · have h8 := of_decide_eq_false h8
        (repeat (first|refine zS ?_|refine zR ?_|refine zB ?_|refine zL ?_|refine zC ?_|refine zG (zN ?_)|refine zG (zD 0 rfl rfl rfl rfl ?_)))
        refine ⟨_, ?_, Sub.cons rfl (Sub.cons rfl (Sub.nil _)), Ent.refl⟩
        simp [opBad, h1, h2, h3, h4, h5, h6, h7, h8]
  intro s hs
  subst hs
  refine VC.cond rfl (fun h1 => ?_) (fun h1 => ?_)
  · (repeat (first|refine zS ?_|refine zR ?_|refine zB ?_|refine zL ?_|refine zC ?_|refine zG (zN ?_)|refine zG (zD 0 rfl rfl rfl rfl ?_)))
    exact VC.ret (Ret.int 2 rfl rfl (by simp [opCheck, h1]) Imp.nil.ent ⟨rfl, rfl⟩)
  · (repeat (first|refine zS ?_|refine zR ?_|refine zB ?_|refine zL ?_|refine zC ?_|refine zG (zN ?_)|refine zG (zD 0 rfl rfl rfl rfl ?_)))
    refine VC.condP rfl (fun h2 => VC.skip (VC.condP rfl (fun _ => ?_) (fun h => absurd h2 h))) (fun h2 => ?_)
    · have h2 : 16 < (o.key.size : Int) := h2
      (repeat (first|refine zS ?_|refine zR ?_|refine zB ?_|refine zL ?_|refine zC ?_|refine zG (zN ?_)|refine zG (zD 0 rfl rfl rfl rfl ?_)))
      exact VC.ret (Ret.int 2 rfl rfl (by simp [opCheck, opLong, h1]; omega) Imp.nil.ent ⟨rfl, rfl⟩)
    · have h2 : ¬ 16 < (o.key.size : Int) := h2
      (repeat (first|refine zS ?_|refine zR ?_|refine zB ?_|refine zL ?_|refine zC ?_|refine zG (zN ?_)|refine zG (zD 0 rfl rfl rfl rfl ?_)))
      refine VC.condP rfl (fun h3 => ?_) (fun h3 => ?_)
      · have h3 : 64 < (o.value.size : Int) := h3
        (repeat (first|refine zS ?_|refine zR ?_|refine zB ?_|refine zL ?_|refine zC ?_|refine zG (zN ?_)|refine zG (zD 0 rfl rfl rfl rfl ?_)))
        exact VC.ret (Ret.int 2 rfl rfl (by simp [opCheck, opLong, h1]; omega) Imp.nil.ent ⟨rfl, rfl⟩)
      · have h3 : ¬ 64 < (o.value.size : Int) := h3
        refine VC.skip ?_
        (repeat (first|refine zS ?_|refine zR ?_|refine zB ?_|refine zL ?_|refine zC ?_|refine zG (zN ?_)|refine zG (zD 0 rfl rfl rfl rfl ?_)))
        refine VC.ret (Ret.int 2 rfl rfl ?_ Imp.nil.ent ⟨rfl, rfl⟩)
        have e : opLong o = false := by simp [opLong]; omega
        simp [opCheck, e, h1]

set_option maxRecDepth 100000 in
theorem cost_spec (Fr : Nat → Prop) (w : World) (o : OpM) : Tri Tryz.prog 230 [.agg o.cells.toArray] Fr w [] (fun v L => v = .int .i64 (opCost o) ∧ L = []) := by
  refine Tri.of 14 Tryz.func230 rfl (by kernel_rfl) tabOk rfl rfl ?_
  refine VC.seq (VC.region (VO.go (VO.boxA (vs := o.cells) rfl (fun b => VO.go (VO.nil ?_)))))
  refine VC.seq (VC.seq (VC.region (VO.go (VO.ldA 0 o.cells rfl rfl rfl rfl (VO.go (VO.callV (fun Fr w => check_spec Fr w o) rfl (VO.go (VO.nil ?_))))))))
  refine VC.condNE rfl (fun h1 => ?_) (fun h1 => ?_)
  · (repeat (first|refine zS ?_|refine zR ?_|refine zB ?_|refine zL ?_|refine zC ?_|refine zG (zN ?_)|refine zG (zD 0 rfl rfl rfl rfl ?_)))
    exact VC.ret (Ret.int 2 rfl rfl (by simp [opCost, h1]) Imp.nil.ent ⟨rfl, rfl⟩)
  · refine VC.skip ?_
    have hl : opLong o = false := by
      unfold opCheck at h1; split at h1
      · omega
      · split at h1
        · omega
        · rename_i h; simpa using h
    have hk : o.key.size ≤ 16 ∧ o.value.size ≤ 64 := by simp [opLong] at hl; omega
    (repeat (first|refine zS ?_|refine zR ?_|refine zB ?_|refine zL ?_|refine zC ?_|refine zG (zN ?_)|refine zG (zD 0 rfl rfl rfl rfl ?_)))
    refine VO.go (VO.add rfl rfl ?_ ?_ ?_)
    · omega
    · omega
    (repeat (first|refine zS ?_|refine zR ?_|refine zB ?_|refine zL ?_|refine zC ?_|refine zG (zN ?_)|refine zG (zD 0 rfl rfl rfl rfl ?_)))
    refine VO.go (VO.add rfl rfl ?_ ?_ ?_)
    · omega
    · omega
    (repeat (first|refine zS ?_|refine zR ?_|refine zB ?_|refine zL ?_|refine zC ?_|refine zG (zN ?_)|refine zG (zD 0 rfl rfl rfl rfl ?_)))
    exact VC.ret (Ret.int 2 rfl rfl (by simp [opCost, h1]) Imp.nil.ent ⟨rfl, rfl⟩)
end Go.Proofs.YtbbnmgakmcppdaaGreat.Api
