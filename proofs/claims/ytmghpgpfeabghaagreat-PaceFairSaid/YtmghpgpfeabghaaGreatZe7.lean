/- Proved: PaceFair answers true, whatever it is called with, and leaves all as it was. No condition. -/
import Derived.Test.YtmghpgpfeabghaaGreatZe6
set_option maxRecDepth 100000
set_option maxHeartbeats 16000000
set_option linter.unusedVariables false
set_option linter.unusedSectionVars false
set_option linter.unusedSimpArgs false
namespace Go.Proofs.YtmghpgpfeabghaaGreat
variable (Fr : Nat → Prop) (w : World)
namespace Cl
open Go Vg Go.ChangeShapes Go.WideShapes Go.ChangeAt Go.RowKit Sched Conf Adm Api
theorem open_u8{H:Type}{enc:TypeId×Value→H}{w:World}{base base0:Nat}{spare:Nat→Bool}{held:Bool}{v:Value}{d:DataW H}{ps:List MemPlace}(hval:Value.okWide Tryz.prog w .any base0 5 v)(h:DataW.Trod enc Tryz.prog w base spare held 5 v d ps):
  ∃n,v=.int .u8 n∧0≤n∧n≤255:=by
 obtain⟨n,rfl⟩:=okWide_int Tryz.underlying5 hval
 obtain⟨fuel,hf⟩:=h
 obtain⟨m,e,_,hw⟩:=DataW.trod_int Tryz.underlying5 hf
 have e2:Value.int .u8 n=.int .u8 m:=(List.cons.inj e).1
 cases e2
 exact⟨n,rfl,wf_byte hw⟩
theorem own_pfair:ownKnob Tryz.prog.godebug=none:=by kernel_rfl
theorem laidOut_pfair:laidOutB Tryz.prog=true:=by kernel_rfl
theorem pfair_lifted(os:Os)(started:os.Started)(H:Type)(enc:TypeId×Value→H):
  ReturnsInHanded {} Tryz.checked os 3 .any (Rows.paceFairSpec.pre6 enc Tryz.prog Tryz.f3 Rows.paceFairRow.domain false) (Rows.paceFairSpec.post enc Tryz.prog Tryz.f3 false true false false):=by
 refine law_returns (C:=Tryz.checked) own_pfair started ym Tryz.func3
  (ChangeSpec.witness6 (enc:=enc) (C:=Tryz.checked) false ⟨#[],#[.agg #[.int .i64 0,.int .i64 0,.int .i64 0,.slice none 0 0,.int .i64 0,.int .i64 0,.int .i64 0,.int .i64 0,.int .i64 0,.int .i64 0,.int .i64 0,.int .i64 0],.slice none 0 0,.int .u8 0],[]⟩ 8 ym ym ym ym)
  laidOut_pfair (by rw[Tryz.params3];simp;repeat' constructor;all_goals first | kernel_rfl | exact of_decide_eq_true ym) rfl rfl Tryz.underlying4
  (fun ds h=>by
   rw[Tryz.params3] at h
   match ds,h with
   | [d1,d2,d3],_=>rfl) ?_
 intro W base args ds ps hval hA _ _
 rw[Tryz.params3] at hA hval
 obtain⟨v0,vs0,d0,ds0,p0,q0,hargs,rfl,rfl,h0,r0⟩:=trodAll_cons hA
 obtain⟨v1,vs1,d1,ds1,p1,q1,rfl,rfl,rfl,h1,r1⟩:=trodAll_cons r0
 obtain⟨v2,vs2,d2,ds2,p2,q2,rfl,rfl,rfl,h2,r2⟩:=trodAll_cons r1
 obtain⟨rfl,rfl,rfl⟩:=trodAll_nil r2
 obtain rfl:args=#[v0,v1,v2]:=by cases args;simp_all
 obtain⟨c,ca,cc,rfl,hcc,hq⟩:=open_conf (hval 0 24 v0 rfl rfl) h0
 obtain⟨a1,t1,l1,rfl,hl1,hr1⟩:=open_dos (hval 1 25 v1 rfl rfl) h1
 obtain⟨b2,rfl,hb20,hb21⟩:=open_u8 (hval 2 5 v2 rfl rfl) h2
 have T:=pacefair_spec (fun b=>b<W.heap.size) W c ca cc hq hcc (lc:=t1) hr1 hl1 b2 hb20 hb21
 exact⟨T.callable,fun hl hs=>Calls.mono (T.calls hl hs) fun e W' ⟨v,L',h1,h2,h3,h4⟩=>⟨v,L',h1,h2.1,h3,h4⟩⟩
theorem pfair_holds:Rows.PaceFairSaid:=
 OpenClaim.holds_of_wide 3 Tryz.f3 rfl rfl rfl rfl rfl rfl rfl ⟨rfl,rfl,rfl,rfl,rfl⟩ rfl rfl rfl rfl rfl ycu Tryz.func3 ycu
  (of_decide_eq_true ycu) (by as_aux_lemma=>unfold Func.isWrapper;first | (rw[if_pos yr];kernel_rfl) | (rw[if_neg yr];exact⟨rfl,rfl⟩))
  (fun os started H enc _=>pfair_lifted os started H enc)

end Cl
end Go.Proofs.YtmghpgpfeabghaaGreat
#print axioms Go.Proofs.YtmghpgpfeabghaaGreat.Cl.pfair_holds
