/- Proved: ReplaysFinds answers true, whatever it is called with, and leaves all as it was, where the listed tables hold what the program's text lays. -/
import Derived.Test.YthnlpdacbcjgpaaGreatDoorZg6
set_option maxRecDepth 100000
set_option maxHeartbeats 16000000
set_option linter.unusedVariables false
set_option linter.unusedSectionVars false
set_option linter.unusedSimpArgs false
namespace Go.Proofs.YthnlpdacbcjgpaaGreatDoor
variable (Fr : Nat → Prop) (w : World)
namespace Cl
open Go Vg Go.ChangeShapes Go.WideShapes Go.ChangeAt Go.RowKit Sched Conf Api LibC
theorem HU{H:Type}{enc:TypeId×Value→H}{w:World}{base base0:Nat}{spare:Nat→Bool}{held:Bool}{v:Value}{d:DataW H}{ps:List MemPlace}(hval:Value.okWide Tryz.prog w .any base0 43 v)(h:DataW.Trod enc Tryz.prog w base spare held 43 v d ps):
  ∃x y,v=.agg #[.int .u8 x,.int .u8 y]∧0≤x∧x≤255∧0≤y∧y≤255:=by
 obtain⟨zs,rfl,hl,hw⟩:=xp Tryz.underlying43 Tryz.underlying5 yn yn hval h
 match zs,hl with
 | [a,b],_=>exact⟨a,b,rfl,(Adm.uw (hw a yf)).1,(Adm.uw (hw a yf)).2,(Adm.uw (hw b yf)).1,(Adm.uw (hw b yf)).2⟩
theorem xq(os:Os)(started:os.Started)(H:Type)(enc:TypeId×Value→H):
  ReturnsInHanded {} Tryz.checked os 4 .any (fun w args=>(Rows.replaysFindsSpec.pre enc Tryz.prog Tryz.f4 Rows.replaysFindsRow.domain false w args∧laidMetH Tryz.prog Scr.nX w)∧sizedMet enc Tryz.prog Tryz.f4 (OpenSpec.ofChange Rows.replaysFindsSpec) false w args) (Rows.replaysFindsSpec.post enc Tryz.prog Tryz.f4 false true false false):=by
 refine Ba (C:=Tryz.checked) Scr.W7 started yn Tryz.func4
  (ChangeSpec.witness_shaped (enc:=enc) (C:=Tryz.checked) (os:=os) (X:=fun w _=>laidMetH Tryz.prog Scr.nX w) false (World.laidAll Tryz.prog os Scr.nX) #[.agg #[.int .i64 0,.int .i64 0,.int .i64 0,.slice none 0 0,.int .i64 0,.int .i64 0,.int .i64 0,.int .i64 0,.int .i64 0,.int .i64 0,.int .i64 0,.int .i64 0],.slice none 0 0,.agg #[.int .u8 0,.int .u8 0]] 8 (World.laidAll_os _ _ _) (World.shaped_of_ZipB yn yn) yn yn yn (Scr.Kh os _))
  Scr.Kg (by rw[Tryz.params4];simp;repeat' constructor;all_goals first | kernel_rfl | exact of_decide_eq_true yn) rfl rfl Tryz.underlying4
  (fun ds h=>by
   rw[Tryz.params4] at h
   match ds,h with
   | [d1,d2,d3],_=>rfl) ?_
 intro W base args ds ps hL hsh hval hA _ _
 obtain⟨hG,hK⟩:=Scr.OO hL hsh
 rw[Tryz.params4] at hA hval
 obtain⟨v0,vs0,d0,ds0,p0,q0,hargs,rfl,rfl,h0,r0⟩:=trodAll_cons hA
 obtain⟨v1,vs1,d1,ds1,p1,q1,rfl,rfl,rfl,h1,r1⟩:=trodAll_cons r0
 obtain⟨v2,vs2,d2,ds2,p2,q2,rfl,rfl,rfl,h2,r2⟩:=trodAll_cons r1
 obtain⟨rfl,rfl,rfl⟩:=trodAll_nil r2
 obtain rfl:args=#[v0,v1,v2]:=by cases args;simp_all
 obtain⟨c,ca,cc,rfl,hcc,hq⟩:=Adm.HT (hval 0 24 v0 rfl rfl) h0
 obtain⟨la,lc,l,rfl,hll,hI,hl⟩:=Scr.Kk (hval 1 25 v1 rfl rfl) h1
 obtain⟨x2,y2,rfl,hx0,hx1,hy0,hy1⟩:=HU (hval 2 43 v2 rfl rfl) h2
 have T:=Ds (fun b=>b<W.heap.size) W c ca cc hq hcc (lc:=lc) hl hll hI x2 y2 hx0 hx1 hy0 hy1 hG hK
 exact⟨T.om,fun hl hs=>Calls.mono (T.calls hl hs) fun e W' ⟨v,L',h1,h2,h3,h4⟩=>⟨v,L',h1,h2.1,h3,h4⟩⟩
theorem ZL{a b:Bool}(h:a=true)(g:b=true):(a&&b)=true:=by rw[h,g];rfl
theorem xr:joinedFacts Tryz.prog 4 Tryz.f4 Rows.replaysFindsSpec Rows.replaysFindsRow=true:=by
 unfold joinedFacts
 repeat' (with_reducible refine ZL ?_ ?_)
 all_goals (as_aux_lemma=>kernel_rfl)
theorem Bc:Rows.ReplaysFindsSaid:=
 OpenClaim.holds_of_wide 4 Tryz.f4 rfl rfl rfl rfl rfl rfl rfl ⟨rfl,rfl,rfl,rfl,rfl⟩ rfl rfl rfl rfl rfl (by as_aux_lemma=>kernel_rfl) Tryz.func4 xr
  (of_decide_eq_true (by as_aux_lemma=>kernel_rfl)) (by as_aux_lemma=>unfold Func.isWrapper;first | (rw[if_pos yr];kernel_rfl) | (rw[if_neg yr];exact⟨rfl,rfl⟩))
  (fun os started H enc _=>xq os started H enc)
theorem rfinds_card:Rows.ReplaysFindsCardSaid:=
 Claim7.holds_tied_plain_at .later [] [.data,.data,.data,.data,.sentinel,.sentinel,.data,.pinned] true Rows.replaysFindsCard.stood.harness true
  Bc (fun _ h=>by cases h) yn (fun _ h=>by cases h) replaysFinds_row_tie rfl ⟨rfl,rfl⟩ yn rfl
  (fun f fn hf hfn=>by
   obtain rfl:f=4:=(Z3 ((show Tryz.prog.funcNamed Rows.replaysFindsRow.func=some 4 by kernel_rfl).symm.trans hf)).symm
   obtain rfl:fn=Tryz.f4:=(Z3 (Tryz.func4.symm.trans hfn)).symm
   exact⟨by kernel_rfl,fun j t ht=>by
    rw[Tryz.params4] at ht
    have hm:t∈[24,25,43]:=by simpa using Array.mem_of_getElem? ht
    have hall:([24,25,43].all fun u=>!Tryz.prog.wantsStandIn u)=true:=by kernel_rfl
    exact(show Tryz.prog.wantsStandIn t=false by simpa using List.all_eq_true.1 hall t hm)⟩)
  yn

end Cl
end Go.Proofs.YthnlpdacbcjgpaaGreatDoor
#print axioms Go.Proofs.YthnlpdacbcjgpaaGreatDoor.Cl.rfinds_card
