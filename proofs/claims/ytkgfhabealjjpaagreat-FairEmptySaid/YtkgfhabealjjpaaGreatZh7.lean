/- Proved: FairEmpty answers true, whatever it is called with, and leaves all as it was. No condition. -/
import Derived.Test.YtkgfhabealjjpaaGreatZh6
set_option maxRecDepth 100000
set_option maxHeartbeats 16000000
set_option linter.unusedVariables false
set_option linter.unusedSectionVars false
set_option linter.unusedSimpArgs false
namespace Go.Proofs.YtkgfhabealjjpaaGreat
variable (Fr : Nat → Prop) (w : World)
namespace Cl
open Go Vg Go.ChangeShapes Go.WideShapes Go.ChangeAt Go.RowKit Sched Conf Adm Api
theorem Wg:ownKnob Tryz.prog.godebug=none:=by kernel_rfl
theorem T9:laidOutB Tryz.prog=true:=by kernel_rfl
theorem SR(os:Os)(started:os.Started)(H:Type)(enc:TypeId×Value→H):
  ReturnsInHanded {} Tryz.checked os 3 .any (Rows.fairEmptySpec.pre6 enc Tryz.prog Tryz.f3 Rows.fairEmptyRow.domain false) (Rows.fairEmptySpec.post enc Tryz.prog Tryz.f3 false true false false):=by
 refine Ui (C:=Tryz.checked) Wg started ym Tryz.func3
  (ChangeSpec.witness6 (enc:=enc) (C:=Tryz.checked) false ⟨#[],#[.agg #[.int .i64 0,.int .i64 0,.int .i64 0,.slice none 0 0,.int .i64 0,.int .i64 0,.int .i64 0,.int .i64 0,.int .i64 0,.int .i64 0,.int .i64 0,.int .i64 0],.slice none 0 0],[]⟩ 8 ym ym ym ym)
  T9 (by rw[Tryz.params3];simp;repeat' constructor;all_goals first | kernel_rfl | exact of_decide_eq_true ym) rfl rfl Tryz.underlying4
  (fun ds h=>by
   rw[Tryz.params3] at h
   match ds,h with
   | [d1,d2],_=>rfl) ?_
 intro W base args ds ps hval hA _ _
 rw[Tryz.params3] at hA hval
 obtain⟨v0,vs0,d0,ds0,p0,q0,hargs,rfl,rfl,h0,r0⟩:=trodAll_cons hA
 obtain⟨v1,vs1,d1,ds1,p1,q1,rfl,rfl,rfl,h1,r1⟩:=trodAll_cons r0
 obtain⟨rfl,rfl,rfl⟩:=trodAll_nil r1
 obtain rfl:args=#[v0,v1]:=by cases args;simp_all
 obtain⟨c,ca,cc,rfl,hcc,hq⟩:=V' (hval 0 24 v0 rfl rfl) h0
 obtain⟨a1,t1,l1,rfl,hl1,hr1⟩:=Wa (hval 1 25 v1 rfl rfl) h1
 have T:=SP (fun b=>b<W.heap.size) W c ca cc hq hcc (ap1:=t1) hr1 hl1
 exact⟨T.BT,fun hl hs=>Calls.mono (T.calls hl hs) fun e W' ⟨v,L',h1,h2,h3,h4⟩=>⟨v,L',h1,h2.1,h3,h4⟩⟩
theorem fempty_holds:Rows.FairEmptySaid:=
 OpenClaim.holds_of_wide 3 Tryz.f3 rfl rfl rfl rfl rfl rfl rfl ⟨rfl,rfl,rfl,rfl,rfl⟩ rfl rfl rfl rfl rfl IJ Tryz.func3 IJ
  (of_decide_eq_true IJ) (by as_aux_lemma=>unfold Func.isWrapper;first | (rw[if_pos yr];kernel_rfl) | (rw[if_neg yr];exact⟨rfl,rfl⟩))
  (fun os started H enc _=>SR os started H enc)

end Cl
end Go.Proofs.YtkgfhabealjjpaaGreat
#print axioms Go.Proofs.YtkgfhabealjjpaaGreat.Cl.fempty_holds
