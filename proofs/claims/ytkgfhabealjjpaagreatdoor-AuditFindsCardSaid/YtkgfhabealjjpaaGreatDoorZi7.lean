/- Proved: AuditFinds answers true, whatever it is called with, and leaves all as it was, where the listed tables hold what the program's text lays. -/
import Derived.Test.YtkgfhabealjjpaaGreatDoorZi6
set_option maxRecDepth 100000
set_option maxHeartbeats 16000000
set_option linter.unusedVariables false
set_option linter.unusedSectionVars false
set_option linter.unusedSimpArgs false
namespace Go.Proofs.YtkgfhabealjjpaaGreatDoor
variable (Fr : Nat → Prop) (w : World)
namespace Cl
open Go Vg Go.ChangeShapes Go.WideShapes Go.ChangeAt Go.RowKit Sched Conf Api LibC
theorem Vi{H:Type}{enc:TypeId×Value→H}{w:World}{base base0:Nat}{spare:Nat→Bool}{held:Bool}{v:Value}{d:DataW H}{ps:List MemPlace}(hval:Value.okWide Tryz.prog w .any base0 26 v)(h:DataW.Trod enc Tryz.prog w base spare held 26 v d ps):
  ∃x y,v=.agg #[.int .u8 x,.int .u8 y]∧0≤x∧x≤255∧0≤y∧y≤255:=by
 obtain⟨zs,rfl,hl,hw⟩:=Ve Tryz.underlying26 Tryz.underlying5 yp yp hval h
 match zs,hl with
 | [a,b],_=>exact⟨a,b,rfl,(Adm.DM (hw a yi)).1,(Adm.DM (hw a yi)).2,(Adm.DM (hw b yi)).1,(Adm.DM (hw b yi)).2⟩
theorem Qg(os:Os)(started:os.Started)(H:Type)(enc:TypeId×Value→H):
  ReturnsInHanded {} Tryz.checked os 3 .any (fun w args=>(Rows.auditFindsSpec.pre enc Tryz.prog Tryz.f3 Rows.auditFindsRow.domain false w args∧laidMetH Tryz.prog Au.rH w)∧sizedMet enc Tryz.prog Tryz.f3 (OpenSpec.ofChange Rows.auditFindsSpec) false w args) (Rows.auditFindsSpec.post enc Tryz.prog Tryz.f3 false true false false):=by
 refine Tu (C:=Tryz.checked) Au.Vn started yp Tryz.func3
  (ChangeSpec.witness_shaped (enc:=enc) (C:=Tryz.checked) (os:=os) (X:=fun w _=>laidMetH Tryz.prog Au.rH w) false (World.laidAll Tryz.prog os Au.rH) #[.agg #[.int .i64 0,.int .i64 0,.int .i64 0,.slice none 0 0,.int .i64 0,.int .i64 0,.int .i64 0,.int .i64 0,.int .i64 0,.int .i64 0,.int .i64 0,.int .i64 0],.slice none 0 0,.agg #[.int .u8 0,.int .u8 0]] 8 (World.laidAll_os _ _ _) (World.shaped_of_ZipB yp yp) yp yp yp (Au.Rv os _))
  Au.Tl (by rw[Tryz.params3];simp;repeat' constructor;all_goals first | kernel_rfl | exact of_decide_eq_true yp) rfl rfl Tryz.underlying4
  (fun ds h=>by
   rw[Tryz.params3] at h
   match ds,h with
   | [d1,d2,d3],_=>rfl) ?_
 intro W base args ds ps hL hsh hval hA _ _
 obtain⟨hT,hW⟩:=Au.SB hL
 rw[Tryz.params3] at hA hval
 obtain⟨v0,vs0,d0,ds0,p0,q0,hargs,rfl,rfl,h0,r0⟩:=trodAll_cons hA
 obtain⟨v1,vs1,d1,ds1,p1,q1,rfl,rfl,rfl,h1,r1⟩:=trodAll_cons r0
 obtain⟨v2,vs2,d2,ds2,p2,q2,rfl,rfl,rfl,h2,r2⟩:=trodAll_cons r1
 obtain⟨rfl,rfl,rfl⟩:=trodAll_nil r2
 obtain rfl:args=#[v0,v1,v2]:=by cases args;simp_all
 obtain⟨c,ca,cc,rfl,hcc,hq⟩:=Adm.Vf (hval 0 24 v0 rfl rfl) h0
 obtain⟨la,lc,l,rfl,hll,hl⟩:=Vh (hval 1 25 v1 rfl rfl) h1
 obtain⟨x2,y2,rfl,hx0,hx1,hy0,hy1⟩:=Vi (hval 2 26 v2 rfl rfl) h2
 have T:=Qn (fun b=>b<W.heap.size) W c ca cc hq hcc (ap1:=lc) hl hll x2 y2 hx0 hx1 hy0 hy1 hT hW
 exact⟨T.BV,fun hl hs=>Calls.mono (T.calls hl hs) fun e W' ⟨v,L',h1,h2,h3,h4⟩=>⟨v,L',h1,h2.1,h3,h4⟩⟩
theorem ttA{a b:Bool}(h:a=true)(g:b=true):(a&&b)=true:=by rw[h,g];rfl
theorem Qe:joinedFacts Tryz.prog 3 Tryz.f3 Rows.auditFindsSpec Rows.auditFindsRow=true:=by
 unfold joinedFacts
 repeat' (with_reducible refine ttA ?_ ?_)
 all_goals (as_aux_lemma=>kernel_rfl)
theorem Qf:Rows.AuditFindsSaid:=
 OpenClaim.holds_of_wide 3 Tryz.f3 rfl rfl rfl rfl rfl rfl rfl ⟨rfl,rfl,rfl,rfl,rfl⟩ rfl rfl rfl rfl rfl (by as_aux_lemma=>kernel_rfl) Tryz.func3 Qe
  (of_decide_eq_true (by as_aux_lemma=>kernel_rfl)) (by as_aux_lemma=>unfold Func.isWrapper;first | (rw[if_pos yr];kernel_rfl) | (rw[if_neg yr];exact⟨rfl,rfl⟩))
  (fun os started H enc _=>Qg os started H enc)
theorem afinds_card:Rows.AuditFindsCardSaid:=
 Claim7.holds_tied_plain_at .later [] [.data,.data,.data,.data] true Rows.auditFindsCard.stood.harness true
  Qf (fun _ h=>by cases h) yp (fun _ h=>by cases h) auditFinds_row_tie rfl ⟨rfl,rfl⟩ yp rfl
  (fun f fn hf hfn=>by
   obtain rfl:f=3:=(ij ((show Tryz.prog.funcNamed Rows.auditFindsRow.func=some 3 by kernel_rfl).symm.trans hf)).symm
   obtain rfl:fn=Tryz.f3:=(ij (Tryz.func3.symm.trans hfn)).symm
   exact⟨by kernel_rfl,fun j t ht=>by
    rw[Tryz.params3] at ht
    have hm:t∈[24,25,26]:=by simpa using Array.mem_of_getElem? ht
    have hall:([24,25,26].all fun u=>!Tryz.prog.wantsStandIn u)=true:=by kernel_rfl
    exact(show Tryz.prog.wantsStandIn t=false by simpa using nK.1 hall t hm)⟩)
  yp

end Cl
end Go.Proofs.YtkgfhabealjjpaaGreatDoor
#print axioms Go.Proofs.YtkgfhabealjjpaaGreatDoor.Cl.afinds_card
