/- Operations, by the reference: the same answers. No condition. -/
import Derived.Test.YthabecjplpomhaaDoorApi
import Derived.Test.YthabecjplpomhaaDoorVgO
namespace Go.Proofs.YthabecjplpomhaaDoor.Api
open Go Go.Proofs.YthabecjplpomhaaDoor.Vg Go.Proofs.YthabecjplpomhaaDoor.T
set_option linter.unusedSimpArgs false
set_option linter.unusedVariables false
attribute [local irreducible] VO VC VA

theorem op_bad2 {o : OpM} (h : opBad o = true) : opCheck o = 2 := by simp [opCheck, h]

set_option maxRecDepth 100000 in
theorem rcheck_spec (Fr : Nat → Prop) (w : World) (o : OpM) : Tri Tryd.prog 13 [.agg o.cells.toArray] Fr w [] (fun v L => v = .int .i64 (opCheck o) ∧ L = []) := by
  refine Tri.of 61 Tryd.func13 rfl (by kernel_rfl) tabOk rfl rfl ?_
  refine VC.seq (VC.region (VO.go (VO.boxA (vs := o.cells) rfl (fun b => VO.go (VO.nil ?_)))))
  (repeat (first | refine VC.seq ?_ | refine VC.region ?_ | refine VC.block ?_ | refine VC.label ?_ | refine VC.scope ?_ | refine VO.go (VO.nil ?_) | refine VO.go (VO.ld 0 rfl rfl rfl rfl ?_)))
  refine VO.go (VO.split 6 rfl rfl (fun h1 => ?_) (fun h1 => ?_))
  · have h1 := of_decide_eq_true h1
    (repeat (first | refine VC.seq ?_ | refine VC.region ?_ | refine VC.block ?_ | refine VC.label ?_ | refine VC.scope ?_ | refine VO.go (VO.nil ?_) | refine VO.go (VO.ld 0 rfl rfl rfl rfl ?_)))
    refine VO.go (VO.yes 11 true rfl rfl (VO.go (VO.yes 17 true rfl rfl (VO.go (VO.yes 22 true rfl rfl (VO.go (VO.nil (VC.condT rfl ?_))))))))
    (repeat (first | refine VC.seq ?_ | refine VC.region ?_ | refine VC.block ?_ | refine VC.label ?_ | refine VC.scope ?_ | refine VO.go (VO.nil ?_) | refine VO.go (VO.ld 0 rfl rfl rfl rfl ?_)))
    exact VC.ret (Ret.int 2 rfl rfl (op_bad2 (by simp [opBad, h1])).symm Imp.nil.ent ⟨rfl, rfl⟩)
  have h1 := of_decide_eq_false h1
  refine VO.go (VO.ld 0 rfl rfl rfl rfl (VO.go (VO.split 11 rfl rfl (fun h2 => ?_) (fun h2 => ?_))))
  · have h2 := of_decide_eq_true h2
    refine VO.go (VO.yes 17 true rfl rfl (VO.go (VO.yes 22 true rfl rfl (VO.go (VO.nil (VC.condT rfl ?_))))))
    (repeat (first | refine VC.seq ?_ | refine VC.region ?_ | refine VC.block ?_ | refine VC.label ?_ | refine VC.scope ?_ | refine VO.go (VO.nil ?_) | refine VO.go (VO.ld 0 rfl rfl rfl rfl ?_)))
    exact VC.ret (Ret.int 2 rfl rfl (op_bad2 (by simp [opBad, h2])).symm Imp.nil.ent ⟨rfl, rfl⟩)
  have h2 := of_decide_eq_false h2
  refine VO.go (VO.ld 0 rfl rfl rfl rfl (VO.go (VO.split 17 rfl rfl (fun h3 => ?_) (fun h3 => ?_))))
  · have h3 : o.key.size = 0 := by have := eq_of_beq h3; omega
    refine VO.go (VO.yes 22 true rfl rfl (VO.go (VO.nil (VC.condT rfl ?_))))
    (repeat (first | refine VC.seq ?_ | refine VC.region ?_ | refine VC.block ?_ | refine VC.label ?_ | refine VC.scope ?_ | refine VO.go (VO.nil ?_) | refine VO.go (VO.ld 0 rfl rfl rfl rfl ?_)))
    exact VC.ret (Ret.int 2 rfl rfl (op_bad2 (by simp [opBad, h3])).symm Imp.nil.ent ⟨rfl, rfl⟩)
  have h3 : o.key.size ≠ 0 := by have := ne_of_beq_false h3; omega
  refine VO.go (VO.ld 0 rfl rfl rfl rfl (VO.go (VO.split 22 rfl rfl (fun h4 => ?_) (fun h4 => ?_))))
  · have h4 := of_decide_eq_true h4
    refine VO.go (VO.nil (VC.condT rfl ?_))
    (repeat (first | refine VC.seq ?_ | refine VC.region ?_ | refine VC.block ?_ | refine VC.label ?_ | refine VC.scope ?_ | refine VO.go (VO.nil ?_) | refine VO.go (VO.ld 0 rfl rfl rfl rfl ?_)))
    exact VC.ret (Ret.int 2 rfl rfl (op_bad2 (by simp [opBad, h4])).symm Imp.nil.ent ⟨rfl, rfl⟩)
  have h4 := of_decide_eq_false h4
  refine VO.go (VO.ld 0 rfl rfl rfl rfl (VO.go (VO.nil (VC.condP rfl (fun h5 => ?_) (fun h5 => VC.skip ?_)))))
  · (repeat (first | refine VC.seq ?_ | refine VC.region ?_ | refine VC.block ?_ | refine VC.label ?_ | refine VC.scope ?_ | refine VO.go (VO.nil ?_) | refine VO.go (VO.ld 0 rfl rfl rfl rfl ?_)))
    exact VC.ret (Ret.int 2 rfl rfl (op_bad2 (by simp [opBad, h5])).symm Imp.nil.ent ⟨rfl, rfl⟩)
  refine VC.seq (VC.meet (σ := Bool) (fun s => [(1, .pointer (some ⟨b, 0, none⟩)), (50, .bool s)]) (fun _ => [pt b o.cells 27]) (fun s => s = opBad o) ?_ ?_)
  · refine VC.region (VO.go (VO.ld 0 rfl rfl rfl rfl (VO.go (VO.split 30 rfl rfl (fun h6 => ?_) (fun h6 => ?_)))))
    · have h6 := of_decide_eq_true h6
      refine VO.go (VO.ld 0 rfl rfl rfl rfl (VO.go (VO.split 35 rfl rfl (fun h7 => ?_) (fun h7 => ?_))))
      · have h7 : o.kind ≠ 4 := by simpa using h7
        refine VO.go (VO.offU rfl rfl rfl ?_)
        iterate 7 refine VO.go (VO.offU rfl rfl rfl ?_)
        refine VO.go (VO.nil ⟨true, ?_, Sub.cons rfl (Sub.cons rfl (Sub.nil _)), Ent.refl⟩)
        have : o.version ≠ 0 := by omega
        simp [opBad, h7, this]
      · have h7 : o.kind = 4 := by simpa using h7
        refine VO.go (VO.ld 0 rfl rfl rfl rfl (VO.go (VO.split 40 rfl rfl (fun h8 => ?_) (fun h8 => ?_))))
        · refine VO.go (VO.ld 0 rfl rfl rfl rfl (VO.go (VO.yes 44 false rfl (by rw [h7]; rfl) (VO.go (VO.ld 0 rfl rfl rfl rfl (VO.go (VO.nil ⟨false, ?_, Sub.cons rfl (Sub.cons (by rw [h7]; rfl) (Sub.nil _)), Ent.refl⟩)))))))
          simp [opBad, h1, h2, h3, h4, h5, h7]
        · iterate 3 refine VO.go (VO.offU rfl rfl rfl ?_)
          refine VO.go (VO.nil ⟨false, ?_, Sub.cons rfl (Sub.cons rfl (Sub.nil _)), Ent.refl⟩)
          simp [opBad, h1, h2, h3, h4, h5, h7]
    · have h6 := of_decide_eq_false h6
      have hv : o.version = 0 := by omega
      refine VO.go (VO.yes 35 false rfl rfl (VO.go (VO.ld 0 rfl rfl rfl rfl (VO.go (VO.split 40 rfl rfl (fun h8 => ?_) (fun h8 => ?_))))))
      · have h8 : o.value.size ≠ 0 := by have := of_decide_eq_true h8; omega
        refine VO.go (VO.ld 0 rfl rfl rfl rfl (VO.go (VO.split 44 rfl rfl (fun h9 => ?_) (fun h9 => ?_))))
        · have h9 : o.kind = 1 := by simpa using h9
          refine VO.go (VO.nil ⟨true, ?_, Sub.cons rfl (Sub.cons rfl (Sub.nil _)), Ent.refl⟩)
          simp [opBad, h8, h9]
        · have h9 : o.kind ≠ 1 := by simpa using h9
          refine VO.go (VO.ld 0 rfl rfl rfl rfl (VO.go (VO.nil ⟨(o.kind == 3), ?_, Sub.cons rfl (Sub.cons rfl (Sub.nil _)), Ent.refl⟩)))
          have hk : o.kind = 2 ∨ o.kind = 3 ∨ o.kind = 4 := by omega
          rcases hk with hk | hk | hk <;> simp [opBad, hk, hv, h3, h8]
      · have h8 : o.value.size = 0 := by have := of_decide_eq_false h8; omega
        iterate 3 refine VO.go (VO.offU rfl rfl rfl ?_)
        refine VO.go (VO.nil ⟨false, ?_, Sub.cons rfl (Sub.cons rfl (Sub.nil _)), Ent.refl⟩)
        have h1' : ¬ o.kind < 1 := h1
        simp [opBad, h1, h2, h3, h4, h5, hv, h8]
  intro s hs
  subst hs
  refine VC.cond rfl (fun hb => ?_) (fun hb => VC.skip ?_)
  · (repeat (first | refine VC.seq ?_ | refine VC.region ?_ | refine VC.block ?_ | refine VC.label ?_ | refine VC.scope ?_ | refine VO.go (VO.nil ?_) | refine VO.go (VO.ld 0 rfl rfl rfl rfl ?_)))
    exact VC.ret (Ret.int 2 rfl rfl (op_bad2 hb).symm Imp.nil.ent ⟨rfl, rfl⟩)
  (repeat (first | refine VC.seq ?_ | refine VC.region ?_ | refine VC.block ?_ | refine VC.label ?_ | refine VC.scope ?_ | refine VO.go (VO.nil ?_) | refine VO.go (VO.ld 0 rfl rfl rfl rfl ?_)))
  refine VO.go (VO.split 55 rfl rfl (fun h6 => ?_) (fun h6 => ?_))
  · have h6 := of_decide_eq_true h6
    refine VO.go (VO.nil (VC.condT rfl ?_))
    (repeat (first | refine VC.seq ?_ | refine VC.region ?_ | refine VC.block ?_ | refine VC.label ?_ | refine VC.scope ?_ | refine VO.go (VO.nil ?_) | refine VO.go (VO.ld 0 rfl rfl rfl rfl ?_)))
    exact VC.ret (Ret.int 2 rfl rfl (by simp [opCheck, hb, opLong]; omega) Imp.nil.ent ⟨rfl, rfl⟩)
  have h6 := of_decide_eq_false h6
  refine VO.go (VO.ld 0 rfl rfl rfl rfl (VO.go (VO.nil (VC.condP rfl (fun h7 => ?_) (fun h7 => VC.skip ?_)))))
  · (repeat (first | refine VC.seq ?_ | refine VC.region ?_ | refine VC.block ?_ | refine VC.label ?_ | refine VC.scope ?_ | refine VO.go (VO.nil ?_) | refine VO.go (VO.ld 0 rfl rfl rfl rfl ?_)))
    exact VC.ret (Ret.int 2 rfl rfl (by simp [opCheck, hb, opLong]; omega) Imp.nil.ent ⟨rfl, rfl⟩)
  (repeat (first | refine VC.seq ?_ | refine VC.region ?_ | refine VC.block ?_ | refine VC.label ?_ | refine VC.scope ?_ | refine VO.go (VO.nil ?_) | refine VO.go (VO.ld 0 rfl rfl rfl rfl ?_)))
  refine VC.ret (Ret.int 2 rfl rfl ?_ Imp.nil.ent ⟨rfl, rfl⟩)
  have e : opLong o = false := by simp [opLong]; omega
  simp [opCheck, e, hb]

theorem cat_size (s t : ByteArray) : (s ++ t).size = s.size + t.size := by simp

end Go.Proofs.YthabecjplpomhaaDoor.Api
