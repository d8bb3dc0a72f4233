/- Proved: ReplaysSame answers true, whatever it is called with, and leaves all as it was, where the listed tables hold what the program's text lays. -/
import Derived.Test.YthnlpdacbcjgpaaGreatDoorZf6
set_option maxRecDepth 100000
set_option maxHeartbeats 16000000
set_option linter.unusedVariables false
set_option linter.unusedSectionVars false
set_option linter.unusedSimpArgs false
namespace Go.Proofs.YthnlpdacbcjgpaaGreatDoor
variable (Fr : Nat → Prop) (w : World)
namespace Cl
open Go Vg Go.ChangeShapes Go.WideShapes Go.ChangeAt Go.RowKit Sched Conf Api LibC
theorem Ol{H:Type}{enc:TypeId×Value→H}{w:World}{base base0:Nat}{spare:Nat→Bool}{held:Bool}{v:Value}{d:DataW H}{ps:List MemPlace}(hval:Value.okWide Tryz.prog w .any base0 5 v)(h:DataW.Trod enc Tryz.prog w base spare held 5 v d ps):
  ∃n,v=.int .u8 n∧0≤n∧n≤255:=by
 obtain⟨n,rfl⟩:=okWide_int Tryz.underlying5 hval
 obtain⟨fuel,hf⟩:=h
 obtain⟨m,e,_,hw⟩:=DataW.trod_int Tryz.underlying5 hf
 have e2:Value.int .u8 n=.int .u8 m:=(List.cons.inj e).1
 cases e2
 exact⟨n,Z,Adm.Oh hw⟩
theorem AK(os:Os)(started:os.Started)(H:Type)(enc:TypeId×Value→H):
  ReturnsInHanded {} Tryz.checked os 3 .any (fun w args=>(Rows.replaysSameSpec.pre enc Tryz.prog Tryz.f3 Rows.replaysSameRow.domain false w args∧laidMetH Tryz.prog Scr.nW w)∧sizedMet enc Tryz.prog Tryz.f3 (OpenSpec.ofChange Rows.replaysSameSpec) false w args) (Rows.replaysSameSpec.post enc Tryz.prog Tryz.f3 false true false false):=by
 refine AH (C:=Tryz.checked) Scr.WE started yn Tryz.func3
  (ChangeSpec.witness_shaped (enc:=enc) (C:=Tryz.checked) (os:=os) (X:=fun w _=>laidMetH Tryz.prog Scr.nW w) false (World.laidAll Tryz.prog os Scr.nW) #[.agg #[.int .i64 0,.int .i64 0,.int .i64 0,.slice none 0 0,.int .i64 0,.int .i64 0,.int .i64 0,.int .i64 0,.int .i64 0,.int .i64 0,.int .i64 0,.int .i64 0],.slice none 0 0,.int .u8 0] 8 (World.laidAll_os _ _ _) (World.shaped_of_ZipB yn yn) yn yn yn (Scr.JS os _))
  Scr.JR (by rw[Tryz.params3];simp;repeat' constructor;all_goals first | kernel_rfl | exact of_decide_eq_true yn) rfl rfl Tryz.underlying4
  (fun ds h=>by
   rw[Tryz.params3] at h
   match ds,h with
   | [d1,d2,d3],_=>rfl) ?_
 intro W base args ds ps hL hsh hval hA _ _
 obtain⟨hG,hK⟩:=Scr.Oi hL hsh
 rw[Tryz.params3] at hA hval
 obtain⟨v0,vs0,d0,ds0,p0,q0,hargs,rfl,rfl,h0,r0⟩:=trodAll_cons hA
 obtain⟨v1,vs1,d1,ds1,p1,q1,rfl,rfl,rfl,h1,r1⟩:=trodAll_cons r0
 obtain⟨v2,vs2,d2,ds2,p2,q2,rfl,rfl,rfl,h2,r2⟩:=trodAll_cons r1
 obtain⟨rfl,rfl,rfl⟩:=trodAll_nil r2
 obtain rfl:args=#[v0,v1,v2]:=by cases args;simp_all
 obtain⟨c,ca,cc,rfl,hcc,hq⟩:=Adm.Hv (hval 0 24 v0 rfl rfl) h0
 obtain⟨la,lc,l,rfl,hll,hI,hl⟩:=Scr.JV (hval 1 25 v1 rfl rfl) h1
 obtain⟨b2,rfl,hb0,hb1⟩:=Ol (hval 2 5 v2 rfl rfl) h2
 have T:=ES (fun b=>b<W.heap.size) W c ca cc hq hcc (lc:=lc) hl hll hI b2 hb0 hb1 hG hK
 exact⟨T.oh,fun hl hs=>Calls.mono (T.calls hl hs) fun e W' ⟨v,L',h1,h2,h3,h4⟩=>⟨v,L',h1,h2.1,h3,h4⟩⟩
theorem Zg{a b:Bool}(h:a=true)(g:b=true):(a&&b)=true:=by rw[h,g];rfl
theorem AL:joinedFacts Tryz.prog 3 Tryz.f3 Rows.replaysSameSpec Rows.replaysSameRow=true:=by
 unfold joinedFacts
 repeat' (with_reducible refine Zg ?_ ?_)
 all_goals (as_aux_lemma=>kernel_rfl)
theorem Da:Rows.ReplaysSameSaid:=
 OpenClaim.holds_of_wide 3 Tryz.f3 rfl rfl rfl rfl rfl rfl rfl ⟨rfl,rfl,rfl,rfl,rfl⟩ rfl rfl rfl rfl rfl (by as_aux_lemma=>kernel_rfl) Tryz.func3 AL
  (of_decide_eq_true (by as_aux_lemma=>kernel_rfl)) (by as_aux_lemma=>unfold Func.isWrapper;first | (rw[if_pos yr];kernel_rfl) | (rw[if_neg yr];exact⟨rfl,rfl⟩))
  (fun os started H enc _=>AK os started H enc)
theorem rsame_card:Rows.ReplaysSameCardSaid:=
 Claim7.holds_tied_plain_at .later [] [.data,.data,.data,.data,.sentinel,.sentinel,.data,.pinned] true Rows.replaysSameCard.stood.harness true
  Da (fun _ h=>by cases h) yn (fun _ h=>by cases h) replaysSame_row_tie rfl ⟨rfl,rfl⟩ yn rfl
  (fun f fn hf hfn=>by
   obtain rfl:f=3:=(Zy ((show Tryz.prog.funcNamed Rows.replaysSameRow.func=some 3 by kernel_rfl).symm.trans hf)).symm
   obtain rfl:fn=Tryz.f3:=(Zy (Tryz.func3.symm.trans hfn)).symm
   exact⟨by kernel_rfl,fun j t ht=>by
    rw[Tryz.params3] at ht
    have hm:t∈[24,25,5]:=by simpa using Array.mem_of_getElem? ht
    have hall:([24,25,5].all fun u=>!Tryz.prog.wantsStandIn u)=true:=by kernel_rfl
    exact(show Tryz.prog.wantsStandIn t=false by simpa using ZR.1 hall t hm)⟩)
  yn

end Cl
end Go.Proofs.YthnlpdacbcjgpaaGreatDoor
#print axioms Go.Proofs.YthnlpdacbcjgpaaGreatDoor.Cl.rsame_card
