/- Layer 24: are these steps too great? No condition. -/
import Derived.Test.YtceobomlmdmicaaDoorScC
namespace Go.Proofs.YtceobomlmdmicaaDoor.Scr
open Go Go.Proofs.YtceobomlmdmicaaDoor.Vg Go.Proofs.YtceobomlmdmicaaDoor.T Go.Proofs.YtceobomlmdmicaaDoor.Api Go.Proofs.YtceobomlmdmicaaDoor.LibC
set_option linter.unusedSimpArgs false
set_option linter.unusedVariables false
attribute [local irreducible] VO VC VA

def bigD (d : DoM) : Bool := decide (300 < (d.op.key.size : Int)) || decide (300 < (d.op.value.size : Int))
def greatD (l : List DoM) (most : Int) : Bool := l.any bigD || decide (most < l.length)
theorem greatD_no {l : List DoM} {n : Int} (h : greatD l n = false) : (l.length : Int) ≤ n ∧ ∀ d ∈ l, d.op.key.size ≤ 300 ∧ d.op.value.size ≤ 300 := by
  unfold greatD at h
  rw [Bool.or_eq_false_iff] at h
  refine ⟨by have := of_decide_eq_false h.2; omega, fun d hd => ?_⟩
  have hb : bigD d = false := by
    rw [Bool.eq_false_iff]; intro hc
    have : l.any bigD = true := List.any_eq_true.2 ⟨d, hd, hc⟩
    rw [h.1] at this; cases this
  unfold bigD at hb
  rw [Bool.or_eq_false_iff] at hb
  have h1 := of_decide_eq_false hb.1
  have h2 := of_decide_eq_false hb.2
  omega

set_option maxRecDepth 100000 in
theorem sgreat_spec (Fr : Nat → Prop) (w : World) {a : Option Addr} {cap : Nat} {l : List DoM} (h : RwIn doC 8 Fr w a l) (hl : l.length ≤ 9223372036854775807) (most : Int) :
    Tri Tryd.prog 7 [.slice a l.length cap, .int .i64 most] Fr w [] (fun v L => v = .bool (greatD l most) ∧ L = []) := by
  refine Tri.of 34 Tryd.func7 rfl (by kernel_rfl) tabOk rfl rfl ?_
  (repeat (first | refine VC.seq ?_ | refine VC.region ?_ | refine VC.block ?_ | refine VC.label ?_ | refine VC.scope ?_ | refine VO.go (VO.nil ?_) | refine VO.go (VO.ld 0 rfl rfl rfl rfl ?_)))
  refine VC.loop (σ := Nat) (fun j => [(0, .slice a l.length cap), (1, .int .i64 most), (5, .int .i64 j)]) (fun _ => []) (fun j => j ≤ l.length ∧ ∀ d ∈ l.take j, bigD d = false) (fun j => l.length - j) 0
    ⟨Nat.zero_le _, by simp⟩ (Sub.cons rfl (Sub.cons rfl (Sub.cons rfl (Sub.nil _)))) Ent.refl ?_
  rintro j ⟨hj, hall⟩
  (repeat (first | refine VC.seq ?_ | refine VC.region ?_ | refine VC.block ?_ | refine VC.label ?_ | refine VC.scope ?_ | refine VO.go (VO.nil ?_) | refine VO.go (VO.ld 0 rfl rfl rfl rfl ?_)))
  refine VC.condP rfl (fun h2 => VC.skip ?_) (fun h2 => VC.exit ?_)
  · have hj2 : j < l.length := by omega
    obtain ⟨d, hd⟩ : ∃ d, l[j]? = some d := ⟨_, List.getElem?_eq_getElem hj2⟩
    have hdm := List.mem_of_getElem? hd
    obtain ⟨fb, fo, rfl, ra, rc⟩ := RwIn.rd (X := ⟨Tryd.prog, tab, tabOk, 34, Fr, w⟩) h hd
    refine VC.seq (VC.block (VC.seq ?_))
    refine VC.meetS (σ := Bool) (fun t => [(0, .slice (some ⟨fb, fo, none⟩) l.length cap), (1, .int .i64 most), (5, .int .i64 j), (29, .bool t)]) (fun _ => []) (fun t => t = bigD d) ?_ ?_
    · refine VC.region ?_
      (repeat (first | refine VC.seq ?_ | refine VC.region ?_ | refine VC.block ?_ | refine VC.label ?_ | refine VC.scope ?_ | refine VO.go (VO.nil ?_) | refine VO.go (VO.ld 0 rfl rfl rfl rfl ?_)))
      refine VO.go (VO.light (light_idx j rfl rfl rfl rfl rfl rfl hj2) ?_)
      (repeat (first | refine VC.seq ?_ | refine VC.region ?_ | refine VC.block ?_ | refine VC.label ?_ | refine VC.scope ?_ | refine VO.go (VO.nil ?_) | refine VO.go (VO.ld 0 rfl rfl rfl rfl ?_)))
      refine VO.go (VO.load rfl rfl (rc _ _ 5 _ rfl rfl) ?_)
      (repeat (first | refine VC.seq ?_ | refine VC.region ?_ | refine VC.block ?_ | refine VC.label ?_ | refine VC.scope ?_ | refine VO.go (VO.nil ?_) | refine VO.go (VO.ld 0 rfl rfl rfl rfl ?_)))
      refine VO.go (VO.split 20 rfl rfl (fun h3 => ?_) (fun h3 => ?_))
      · (repeat (first | refine VC.seq ?_ | refine VC.region ?_ | refine VC.block ?_ | refine VC.label ?_ | refine VC.scope ?_ | refine VO.go (VO.nil ?_) | refine VO.go (VO.ld 0 rfl rfl rfl rfl ?_) | refine VO.go (VO.offU rfl rfl rfl ?_)))
        exact ⟨_, by rw [bigD, show decide (300 < (d.op.key.size : Int)) = true from h3]; rfl, Sub.cons rfl (Sub.cons rfl (Sub.cons rfl (Sub.cons rfl (Sub.nil _)))), Ent.refl⟩
      · (repeat (first | refine VC.seq ?_ | refine VC.region ?_ | refine VC.block ?_ | refine VC.label ?_ | refine VC.scope ?_ | refine VO.go (VO.nil ?_) | refine VO.go (VO.ld 0 rfl rfl rfl rfl ?_) | refine VO.go (VO.offU rfl rfl rfl ?_)))
        refine VO.go (VO.light (light_idx j rfl rfl rfl rfl rfl rfl hj2) ?_)
        (repeat (first | refine VC.seq ?_ | refine VC.region ?_ | refine VC.block ?_ | refine VC.label ?_ | refine VC.scope ?_ | refine VO.go (VO.nil ?_) | refine VO.go (VO.ld 0 rfl rfl rfl rfl ?_) | refine VO.go (VO.offU rfl rfl rfl ?_)))
        refine VO.go (VO.load rfl rfl (rc _ _ 6 _ rfl rfl) ?_)
        (repeat (first | refine VC.seq ?_ | refine VC.region ?_ | refine VC.block ?_ | refine VC.label ?_ | refine VC.scope ?_ | refine VO.go (VO.nil ?_) | refine VO.go (VO.ld 0 rfl rfl rfl rfl ?_) | refine VO.go (VO.offU rfl rfl rfl ?_)))
        exact ⟨_, by rw [bigD, show decide (300 < (d.op.key.size : Int)) = false from h3]; rfl, Sub.cons rfl (Sub.cons rfl (Sub.cons rfl (Sub.cons rfl (Sub.nil _)))), Ent.refl⟩
    intro t ht
    refine VC.cond rfl (fun h3 => ?_) (fun h3 => VC.skip ?_)
    · rw [h3] at ht
      (repeat (first | refine VC.seq ?_ | refine VC.region ?_ | refine VC.block ?_ | refine VC.label ?_ | refine VC.scope ?_ | refine VO.go (VO.nil ?_) | refine VO.go (VO.ld 0 rfl rfl rfl rfl ?_)))
      exact VC.ret (Ret.bool 4 rfl rfl (by rw [greatD, List.any_eq_true.2 ⟨d, hdm, ht.symm⟩]; rfl) Ent.refl ⟨rfl, rfl⟩)
    · rw [h3] at ht
      (repeat (first | refine VC.seq ?_ | refine VC.region ?_ | refine VC.block ?_ | refine VC.label ?_ | refine VC.scope ?_ | refine VO.go (VO.nil ?_) | refine VO.go (VO.ld 0 rfl rfl rfl rfl ?_)))
      refine VO.go (VO.add rfl rfl (by omega) (by omega) ?_)
      (repeat (first | refine VC.seq ?_ | refine VC.region ?_ | refine VC.block ?_ | refine VC.label ?_ | refine VC.scope ?_ | refine VO.go (VO.nil ?_) | refine VO.go (VO.ld 0 rfl rfl rfl rfl ?_)))
      refine ⟨j + 1, ⟨hj2, fun x hx => ?_⟩, by dsimp only; omega, Sub.cons rfl (Sub.cons rfl (Sub.cons rfl (Sub.nil _))), Ent.refl⟩
      rw [List.take_add_one, hd] at hx
      rcases List.mem_append.1 hx with hx | hx
      · exact hall x hx
      · simp at hx; rw [hx]; exact ht.symm
  · obtain rfl : j = l.length := by omega
    rw [List.take_length] at hall
    have hno : l.any bigD = false := by
      rw [Bool.eq_false_iff]; intro hc
      obtain ⟨d, hd, hb⟩ := List.any_eq_true.1 hc
      rw [hall d hd] at hb; cases hb
    (repeat (first | refine VC.seq ?_ | refine VC.region ?_ | refine VC.block ?_ | refine VC.label ?_ | refine VC.scope ?_ | refine VO.go (VO.nil ?_) | refine VO.go (VO.ld 0 rfl rfl rfl rfl ?_)))
    exact VC.ret (Ret.bool 4 rfl rfl (by rw [greatD, hno]; rfl) Ent.refl ⟨rfl, rfl⟩)
end Go.Proofs.YtceobomlmdmicaaDoor.Scr
