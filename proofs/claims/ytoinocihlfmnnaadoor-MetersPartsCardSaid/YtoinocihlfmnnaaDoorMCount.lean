/- Layer 30: the chapter's meter counts as it says. No condition but the table of powers of ten. -/
import Derived.Test.YtoinocihlfmnnaaDoorMLaw
namespace Go.Proofs.YtoinocihlfmnnaaDoor.Met
open Go Go.Proofs.YtoinocihlfmnnaaDoor.Vg Go.Proofs.YtoinocihlfmnnaaDoor.T Go.Proofs.YtoinocihlfmnnaaDoor.Api Go.Proofs.YtoinocihlfmnnaaDoor.Cnt Go.Proofs.YtoinocihlfmnnaaDoor.LibC
set_option linter.unusedSimpArgs false
set_option linter.unusedVariables false
attribute [local irreducible] VO VC VA

def xOp : OpM := ⟨2, ⟨#[107]⟩, ⟨#[118]⟩, 0⟩
def xCall : FG := ({ FrameM.zero with kind := 1, cls := 1, op := xOp }, none, 0, 0)
def xRef : FG := ({ FrameM.zero with kind := 3, reason := 1 }, none, 0, 0)
def xRep : FG := ({ FrameM.zero with kind := 2 }, none, 0, 0)
def m0 : MM := MM.new 2
def m1 : MM := (m0.see xCall.1).1
def m2 : MM := (m1.see xCall.1).1
def m3 : MM := (m2.see xRef.1).1
def m4 : MM := (m3.see xRep.1).1
theorem m1_eq : m1 = ⟨2, [0, 0, 1, 18, 0, 0, 0, 0, 0, 0, 0, 0, 0, 0, 0]⟩ := by kernel_rfl
theorem m2_eq : m2 = ⟨2, [0, 0, 2, 36, 0, 0, 0, 0, 0, 0, 0, 0, 0, 0, 0]⟩ := by kernel_rfl
theorem m3_eq : m3 = ⟨2, [0, 0, 2, 36, 0, 1, 0, 0, 0, 0, 0, 0, 0, 0, 0]⟩ := by kernel_rfl
theorem m4_eq : m4 = ⟨2, [0, 0, 2, 36, 1, 1, 0, 0, 0, 0, 0, 0, 0, 0, 0]⟩ := by kernel_rfl
theorem ok_of {c : Nat} {l : List Int} (h1 : 1 ≤ c) (h2 : c ≤ 4) (h3 : l.length = 2 * c + 11) (h4 : l.all (fun x => decide (0 ≤ x ∧ x ≤ 1000000)) = true) : MM.Ok ⟨c, l⟩ := ⟨h1, h2, h3, fun x hx => of_decide_eq_true (List.all_eq_true.1 h4 x hx)⟩
theorem m0_ok : m0.Ok := new_ok (by decide) (by decide)
theorem m1_ok : m1.Ok := by rw [m1_eq]; exact ok_of (by decide) (by decide) rfl (by decide)
theorem m2_ok : m2.Ok := by rw [m2_eq]; exact ok_of (by decide) (by decide) rfl (by decide)
theorem m3_ok : m3.Ok := by rw [m3_eq]; exact ok_of (by decide) (by decide) rfl (by decide)
theorem m4_ok : m4.Ok := by rw [m4_eq]; exact ok_of (by decide) (by decide) rfl (by decide)
theorem see1 : (m0.see xCall.1).2 = 0 := by decide +kernel
theorem see2 : (m1.see xCall.1).2 = 0 := by decide +kernel
theorem see3 : (m2.see xRef.1).2 = 0 := by decide +kernel
theorem see4 : (m3.see xRep.1).2 = 0 := by decide +kernel
theorem c41 : m4.calls 1 = 2 := by decide +kernel
theorem b41 : m4.bytes 1 = 36 := by decide +kernel
theorem s41 : m4.share 1 = 100 := by decide +kernel
theorem r41 : m4.refused 1 = 1 := by decide +kernel

theorem num0 : numT 0 = ⟨#[48]⟩ := by rw [show (0 : Int) = ((0 : Nat) : Int) from rfl, numT_nat, natT_small (by decide)]; rfl
theorem num1 : numT 1 = ⟨#[49]⟩ := by rw [show (1 : Int) = ((1 : Nat) : Int) from rfl, numT_nat, natT_small (by decide)]; rfl
theorem num2 : numT 2 = ⟨#[50]⟩ := by rw [show (2 : Int) = ((2 : Nat) : Int) from rfl, numT_nat, natT_small (by decide)]; rfl
theorem num36 : numT 36 = ⟨#[51, 54]⟩ := by rw [show (36 : Int) = ((36 : Nat) : Int) from rfl, numT_nat, natT_step (by decide), natT_small (by decide)]; decide +kernel
theorem num100 : numT 100 = ⟨#[49, 48, 48]⟩ := by rw [show (100 : Int) = ((100 : Nat) : Int) from rfl, numT_nat, natT_step (by decide), natT_step (by decide), natT_small (by decide)]; decide +kernel
def xText : ByteArray := lineT [wClass, ⟨#[48]⟩, wCalls, ⟨#[48]⟩, wBytes, ⟨#[48]⟩, wShare, ⟨#[48]⟩] ++ lineT [wClass, ⟨#[49]⟩, wCalls, ⟨#[50]⟩, wBytes, ⟨#[51, 54]⟩, wShare, ⟨#[49, 48, 48]⟩] ++ lineT [wReplies, ⟨#[49]⟩] ++ lineT [wRefused, ⟨#[49]⟩, ⟨#[49]⟩]
theorem table4 : tableT m4 = xText := by
  have e1 : txt1 m4 2 = ⟨#[]⟩ ++ clsL m4 0 ++ clsL m4 1 := rfl
  have e2 : clsL m4 0 = lineT [wClass, ⟨#[48]⟩, wCalls, ⟨#[48]⟩, wBytes, ⟨#[48]⟩, wShare, ⟨#[48]⟩] := by
    unfold clsL
    rw [show ((0 : Nat) : Int) = 0 from rfl, show m4.calls 0 = 0 by decide +kernel, show m4.bytes 0 = 0 by decide +kernel, show m4.share 0 = 0 by decide +kernel, num0]
  have e3 : clsL m4 1 = lineT [wClass, ⟨#[49]⟩, wCalls, ⟨#[50]⟩, wBytes, ⟨#[51, 54]⟩, wShare, ⟨#[49, 48, 48]⟩] := by
    unfold clsL
    rw [show ((1 : Nat) : Int) = 1 from rfl, c41, b41, s41, num1, num2, num36, num100]
  have e4 : repL m4 = lineT [wReplies, ⟨#[49]⟩] := by
    unfold repL
    rw [show m4.replies = 1 by decide +kernel, num1]
  have e5 : txt2 m4 0 = txt1 m4 2 ++ repL m4 := by
    show txt1 m4 m4.c ++ repL m4 = _
    rw [show m4.c = 2 by rw [m4_eq]]
  have e6 : txt2 m4 1 = txt2 m4 0 ++ refL m4 1 := by
    show (if 0 < m4.refused ((0 + 1 : Nat) : Int) then txt2 m4 0 ++ refL m4 ((0 + 1 : Nat) : Int) else txt2 m4 0) = _
    rw [if_pos (by decide +kernel)]; rfl
  have e7 : refL m4 1 = lineT [wRefused, ⟨#[49]⟩, ⟨#[49]⟩] := by
    unfold refL
    rw [r41, num1]
  have no : ∀ n, 1 ≤ n → n ≤ 9 → txt2 m4 (n + 1) = txt2 m4 n := fun n h1 h2 => by
    have hr : ¬ 0 < m4.refused ((n + 1 : Nat) : Int) := by
      have hn : n = 1 ∨ n = 2 ∨ n = 3 ∨ n = 4 ∨ n = 5 ∨ n = 6 ∨ n = 7 ∨ n = 8 ∨ n = 9 := by omega
      rcases hn with rfl | rfl | rfl | rfl | rfl | rfl | rfl | rfl | rfl <;> decide +kernel
    show (if 0 < m4.refused ((n + 1 : Nat) : Int) then txt2 m4 n ++ refL m4 ((n + 1 : Nat) : Int) else txt2 m4 n) = _
    rw [if_neg hr]
  unfold tableT
  rw [no 9 (by decide) (by decide), no 8 (by decide) (by decide), no 7 (by decide) (by decide), no 6 (by decide) (by decide), no 5 (by decide) (by decide), no 4 (by decide) (by decide), no 3 (by decide) (by decide), no 2 (by decide) (by decide), no 1 (by decide) (by decide), e6, e5, e1, e2, e3, e4, e7]
  have e8 : ∀ s : ByteArray, (⟨#[]⟩ : ByteArray) ++ s = s := fun s => by apply tl_ext; rw [tl_cat]; rfl
  rw [e8]
  rfl

set_option maxRecDepth 100000 in
theorem counted_spec (Fr : Nat → Prop) (w : World) (hT : TabF Fr w) : Tri Tryd.prog 10 [] Fr w [] (fun v L => v = .bool true ∧ L = []) := by
  refine Tri.of 67 Tryd.func10 rfl (by kernel_rfl) tabOk rfl rfl ?_
  (repeat (first | refine VC.seq ?_ | refine VC.region ?_ | refine VC.block ?_ | refine VC.label ?_ | refine VC.scope ?_ | refine VO.go (VO.nil ?_) | refine VO.go (VO.ld 0 rfl rfl rfl rfl ?_)))
  refine VO.go (VO.call0 rfl (fun Fr w => new_spec Fr w 2 (by decide) (by decide)) ?_)
  rintro _ _ ⟨p, rfl, rfl⟩
  (repeat (first | refine VC.seq ?_ | refine VC.region ?_ | refine VC.block ?_ | refine VC.label ?_ | refine VC.scope ?_ | refine VO.go (VO.nil ?_) | refine VO.go (VO.ld 0 rfl rfl rfl rfl ?_)))
  refine VC.condF rfl (VC.skip ?_)
  (repeat (first | refine VC.seq ?_ | refine VC.region ?_ | refine VC.block ?_ | refine VC.label ?_ | refine VC.scope ?_ | refine VO.go (VO.nil ?_) | refine VO.go (VO.ld 0 rfl rfl rfl rfl ?_)))
  refine VO.go (VO.light (light_build (pv := [(0, .int .i64 2), (1, .string ⟨#[107]⟩), (2, .string ⟨#[118]⟩)]) xOp.cells rfl rfl rfl rfl rfl) ?_)
  refine VO.go (VO.light (light_build (pv := [(0, .int .i64 1), (5, .int .i64 1), (7, .agg xOp.cells.toArray)]) (fgc xCall) rfl rfl rfl (by kernel_rfl) rfl) ?_)
  refine VO.go (VO.alloc rfl fun fb => ?_)
  refine VO.go (VO.stA (vs := fgc xCall) (cs' := fgc xCall) 0 rfl rfl rfl rfl (Nat.le_refl _) rfl rfl rfl ?_)
  refine VO.go (VO.nil ?_)
  refine VC.seq (VC.draw (ts 0 2 (ts 3 2 (ts 6 2 (ts 9 2 (.only 2 (.only 5 (.only 8 (.only 11 (ts 12 4 .nil))))))))) (by kernel_rfl) (by kernel_rfl) ?_)
  (repeat (first | refine VA.go (VA.nil ?_) | refine VA.go (VA.ld 0 rfl rfl rfl rfl rfl ?_)))
  refine VA.go (VA.ldA 0 (fgc xCall) rfl rfl rfl rfl rfl ?_)
  (repeat (first | refine VA.go (VA.nil ?_) | refine VA.go (VA.ld 0 rfl rfl rfl rfl rfl ?_)))
  refine VA.go (VA.ldA 0 (fgc xCall) rfl rfl rfl rfl rfl ?_)
  refine VA.go (VA.light rfl (light_build (pv := [(0, .int .i64 3), (9, .int .i64 1)]) (fgc xRef) rfl rfl rfl (by kernel_rfl) rfl) ?_)
  refine VA.go (VA.light rfl (light_build (pv := [(0, .int .i64 2)]) (fgc xRep) rfl rfl rfl (by kernel_rfl) rfl) ?_)
  refine VA.go (VA.callAt 1 rfl (fun Fr w hF hs hS => see_spec Fr w m0_ok xCall) rfl rfl (ψ := fun v H => v = .int .i64 0 ∧ H = mtH p m1) (fun v L h => ⟨_, h.2, by rw [h.1, see1], rfl⟩) (fun v H' hH => by rw [hH.2]; exact (by (try refine Pd.st ?_); (repeat (first | exact Pd.nil | exact Pd.fnil | refine Pd.inner ?_ | refine Pd.skip (by decide +kernel) ?_ | refine Pd.fcons (RdL.one 0 rfl rfl) ?_ | refine Pd.fcons (RdL.one 1 rfl rfl) ?_ | refine Pd.fcons (RdL.many 0 rfl rfl) ?_ | refine Pd.fcons (RdL.many 1 rfl rfl) ?_ | refine Pd.cons (RdL.one 0 rfl rfl) ?_ | refine Pd.cons (RdL.one 1 rfl rfl) ?_ | refine Pd.cons (RdL.many 0 rfl rfl) ?_ | refine Pd.cons (RdL.many 1 rfl rfl) ?_)))) ?_)
  rintro _ _ ⟨rfl, rfl⟩
  refine VA.go (VA.callAt 1 rfl (fun Fr w hF hs hS => see_spec Fr w m1_ok xCall) rfl rfl (ψ := fun v H => v = .int .i64 0 ∧ H = mtH p m2) (fun v L h => ⟨_, h.2, by rw [h.1, see2], rfl⟩) (fun v H' hH => by rw [hH.2]; exact (by (try refine Pd.st ?_); (repeat (first | exact Pd.nil | exact Pd.fnil | refine Pd.inner ?_ | refine Pd.skip (by decide +kernel) ?_ | refine Pd.fcons (RdL.one 0 rfl rfl) ?_ | refine Pd.fcons (RdL.one 1 rfl rfl) ?_ | refine Pd.fcons (RdL.many 0 rfl rfl) ?_ | refine Pd.fcons (RdL.many 1 rfl rfl) ?_ | refine Pd.cons (RdL.one 0 rfl rfl) ?_ | refine Pd.cons (RdL.one 1 rfl rfl) ?_ | refine Pd.cons (RdL.many 0 rfl rfl) ?_ | refine Pd.cons (RdL.many 1 rfl rfl) ?_)))) ?_)
  rintro _ _ ⟨rfl, rfl⟩
  refine VA.go (VA.callAt 1 rfl (fun Fr w hF hs hS => see_spec Fr w m2_ok xRef) rfl rfl (ψ := fun v H => v = .int .i64 0 ∧ H = mtH p m3) (fun v L h => ⟨_, h.2, by rw [h.1, see3], rfl⟩) (fun v H' hH => by rw [hH.2]; exact (by (try refine Pd.st ?_); (repeat (first | exact Pd.nil | exact Pd.fnil | refine Pd.inner ?_ | refine Pd.skip (by decide +kernel) ?_ | refine Pd.fcons (RdL.one 0 rfl rfl) ?_ | refine Pd.fcons (RdL.one 1 rfl rfl) ?_ | refine Pd.fcons (RdL.many 0 rfl rfl) ?_ | refine Pd.fcons (RdL.many 1 rfl rfl) ?_ | refine Pd.cons (RdL.one 0 rfl rfl) ?_ | refine Pd.cons (RdL.one 1 rfl rfl) ?_ | refine Pd.cons (RdL.many 0 rfl rfl) ?_ | refine Pd.cons (RdL.many 1 rfl rfl) ?_)))) ?_)
  rintro _ _ ⟨rfl, rfl⟩
  refine VA.go (VA.callAt 1 rfl (fun Fr w hF hs hS => see_spec Fr w m3_ok xRep) rfl rfl (ψ := fun v H => v = .int .i64 0 ∧ H = mtH p m4) (fun v L h => ⟨_, h.2, by rw [h.1, see4], rfl⟩) (fun v H' hH => by rw [hH.2]; exact (by (try refine Pd.st ?_); (repeat (first | exact Pd.nil | exact Pd.fnil | refine Pd.inner ?_ | refine Pd.skip (by decide +kernel) ?_ | refine Pd.fcons (RdL.one 0 rfl rfl) ?_ | refine Pd.fcons (RdL.one 1 rfl rfl) ?_ | refine Pd.fcons (RdL.many 0 rfl rfl) ?_ | refine Pd.fcons (RdL.many 1 rfl rfl) ?_ | refine Pd.cons (RdL.one 0 rfl rfl) ?_ | refine Pd.cons (RdL.one 1 rfl rfl) ?_ | refine Pd.cons (RdL.many 0 rfl rfl) ?_ | refine Pd.cons (RdL.many 1 rfl rfl) ?_)))) ?_)
  rintro _ _ ⟨rfl, rfl⟩
  (repeat (first | refine VA.go (VA.nil ?_) | refine VA.go (VA.ld 0 rfl rfl rfl rfl rfl ?_)))
  (repeat (first | refine VC.seq ?_ | refine VC.region ?_ | refine VC.block ?_ | refine VC.label ?_ | refine VC.scope ?_ | refine VO.go (VO.nil ?_) | refine VO.go (VO.ld 0 rfl rfl rfl rfl ?_)))
  refine VO.go (VO.yes 30 true rfl rfl ?_)
  (repeat (first | refine VC.seq ?_ | refine VC.region ?_ | refine VC.block ?_ | refine VC.label ?_ | refine VC.scope ?_ | refine VO.go (VO.nil ?_) | refine VO.go (VO.ld 0 rfl rfl rfl rfl ?_)))
  refine VO.go (VO.yes 34 true rfl rfl ?_)
  (repeat (first | refine VC.seq ?_ | refine VC.region ?_ | refine VC.block ?_ | refine VC.label ?_ | refine VC.scope ?_ | refine VO.go (VO.nil ?_) | refine VO.go (VO.ld 0 rfl rfl rfl rfl ?_)))
  refine VO.go (VO.yes 38 true rfl rfl ?_)
  (repeat (first | refine VC.seq ?_ | refine VC.region ?_ | refine VC.block ?_ | refine VC.label ?_ | refine VC.scope ?_ | refine VO.go (VO.nil ?_) | refine VO.go (VO.ld 0 rfl rfl rfl rfl ?_)))
  refine VO.go (VO.yes 42 true rfl rfl ?_)
  refine VO.go (VO.callV' (fun Fr w hF hs hS => calls_spec Fr w m4_ok (hS.at_ 1 rfl) 1) rfl ?_)
  rw [c41]
  (repeat (first | refine VC.seq ?_ | refine VC.region ?_ | refine VC.block ?_ | refine VC.label ?_ | refine VC.scope ?_ | refine VO.go (VO.nil ?_) | refine VO.go (VO.ld 0 rfl rfl rfl rfl ?_)))
  refine VO.go (VO.yes 47 true rfl rfl ?_)
  refine VO.go (VO.callV' (fun Fr w hF hs hS => bytes_spec Fr w m4_ok (hS.at_ 1 rfl) 1) rfl ?_)
  rw [b41]
  (repeat (first | refine VC.seq ?_ | refine VC.region ?_ | refine VC.block ?_ | refine VC.label ?_ | refine VC.scope ?_ | refine VO.go (VO.nil ?_) | refine VO.go (VO.ld 0 rfl rfl rfl rfl ?_)))
  refine VO.go (VO.yes 52 true rfl rfl ?_)
  refine VO.go (VO.callV' (fun Fr w hF hs hS => share_spec Fr w m4_ok (hS.at_ 1 rfl) 1) rfl ?_)
  rw [s41]
  (repeat (first | refine VC.seq ?_ | refine VC.region ?_ | refine VC.block ?_ | refine VC.label ?_ | refine VC.scope ?_ | refine VO.go (VO.nil ?_) | refine VO.go (VO.ld 0 rfl rfl rfl rfl ?_)))
  refine VO.go (VO.yes 57 true rfl rfl ?_)
  refine VO.go (VO.callV' (fun Fr w hF hs hS => refused_spec Fr w m4_ok (hS.at_ 1 rfl) 1) rfl ?_)
  rw [r41]
  (repeat (first | refine VC.seq ?_ | refine VC.region ?_ | refine VC.block ?_ | refine VC.label ?_ | refine VC.scope ?_ | refine VO.go (VO.nil ?_) | refine VO.go (VO.ld 0 rfl rfl rfl rfl ?_)))
  refine VO.go (VO.yes 62 true rfl rfl ?_)
  refine VO.go (VO.callV' (fun Fr w hF hs hS => table_spec Fr w m4_ok (hS.at_ 1 rfl) (TabF.st rfl hT hF hs)) rfl ?_)
  rw [table4]
  (repeat (first | refine VC.seq ?_ | refine VC.region ?_ | refine VC.block ?_ | refine VC.label ?_ | refine VC.scope ?_ | refine VO.go (VO.nil ?_) | refine VO.go (VO.ld 0 rfl rfl rfl rfl ?_)))
  refine VC.ret (Ret.bool 0 rfl rfl ?_ Imp.nil.ent ⟨rfl, rfl⟩)
  rw [beq_iff_eq]
  decide +kernel
end Go.Proofs.YtoinocihlfmnnaaDoor.Met
