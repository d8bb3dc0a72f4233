/- Texts of the proof, put together and shortened. No condition. -/
import Derived.Test.YtmghpgpfeabghaaGreatZe4
set_option maxRecDepth 100000
set_option maxHeartbeats 16000000
set_option linter.unusedVariables false
set_option linter.unusedSectionVars false
set_option linter.unusedSimpArgs false
namespace Go.Proofs.YtmghpgpfeabghaaGreat
variable (Fr : Nat → Prop) (w : World)
namespace Cl
open Go Vg T Api Ch Rep Conf Lg Rd
attribute [local irreducible] VO VC VA
abbrev doT:TypeId:=37
def StpM.cells(s:StpM):List Value:=[.int .i64 s.kind,.int .i64 s.a,.int .i64 s.b,.int .i64 s.c]++s.op.cells
theorem dead_if(C:CluM)(c:Int):C.dead c=if 1099511627776<C.now+(if 1099511627776<(if c<0 then 0 else c) then 1099511627776 else (if c<0 then 0 else c)) then 1099511627776 else C.now+(if 1099511627776<(if c<0 then 0 else c) then 1099511627776 else (if c<0 then 0 else c)):=by
 unfold CluM.dead
 repeat' split
 all_goals omega
section
variable {p:Nat} {C:CluM} {b e:Nat}
theorem ucall_spec(ok:C.Ok b e)(hb:b<100000)(he:e<1000000)(s:StpM):Tri Tryz.prog 78 [.pointer (some ⟨p,0,none⟩),.agg s.cells.toArray] Fr w [cluH p C]
  (fun v L=>v=.int .i64 (C.call s).2∧L=[cluH p (C.call s).1]):=by
 obtain⟨kd,sa,sx,sc,op⟩:=s
 have hcl:=ok.clis
 have hev:=ok.ev
 have hn0:=ok.n0
 have hn1:=ok.n1
 refine TF 74 Tryz.func78 rfl ym tabOk rfl rfl ?_
 refine CS (CG (VG (VB (vs:=(⟨kd,sa,sx,sc,op⟩:StpM).cells) rfl fun sb=>VO.opn 1 rfl (HOpn.clu p C) ?_)))
 rintro y fit
 have hln:=cli_len fit
 refine VO.ent (L':=pt sb (⟨kd,sa,sx,sc,op⟩:StpM).cells doT::cluL p C y) (IP 10 rfl Imp.refl).ent ?_
 refine xjp ?_
 refine CD (ts 0 13 .nil) ym yr ?_
 refine xgc ?_
 by_cases h0:sa<0
 ·have hc:C.cli sa=none:=by unfold CluM.cli;rw[if_pos h0]
  have hr:C.call ⟨kd,sa,sx,sc,op⟩=(C,4):=by unfold CluM.call;dsimp only;rw[hc]
  refine AG (AY 12 true rfl (DT h0) ?_)
  refine xlc ?_
  refine xdz ?_
  refine xjp ?_
  exact xng
 obtain⟨k,rfl⟩:∃k:Nat,sa=k:=⟨sa.toNat,by omega⟩
 refine AG (AY 12 false rfl (DF h0) ?_)
 refine xgc ?_
 refine CP (p:=(y.cr.length:Int)≤k) rfl (fun h1=>?_) (fun h1=>CK ?_)
 ·have hc:C.cli (k:Int)=none:=by
   unfold CluM.cli
   rw[if_neg h0,Int.toNat_natCast,List.getElem?_eq_none yd]
  have hr:C.call ⟨kd,k,sx,sc,op⟩=(C,4):=by unfold CluM.call;dsimp only;rw[hc]
  refine xjp ?_
  exact xng
 have hk:k<y.cr.length:=by omega
 have hx2:y.cr[k]?=some y.cr[k]:=GE hk
 generalize y.cr[k]=z at hx2
 obtain⟨q,x⟩:=z
 obtain⟨hcx,hcs⟩:=cli_at fit hx2
 have hm:x∈C.clis:=ME hcs
 have hsq:=ok.seq x hm
 have okx:=ok.cok x hm
 have okc:=okx.call op sx (C.dead sc) C.now
 have hrc:=ok.rc
 have fw:FewS (x.call op sx (C.dead sc) C.now).2:=CliM.call_few x op sx (C.dead sc) C.now
 have hr0:x.callE op sx (C.dead sc)≠0→C.call ⟨kd,k,sx,sc,op⟩=(C,x.callE op sx (C.dead sc)):=fun h=>by
  unfold CluM.call;dsimp only;rw[hcx];dsimp only;rw[if_pos h]
 have hr1:x.callE op sx (C.dead sc)=0→C.call ⟨kd,k,sx,sc,op⟩=(({ C.setCli k (x.call op sx (C.dead sc) C.now).1 with his:=C.his.call k (x.call op sx (C.dead sc) C.now).1.seq op,lnk:=postL (32+k) C.lnk (x.call op sx (C.dead sc) C.now).2 }:CluM),0):=fun h=>by
  unfold CluM.call;dsimp only;rw[hcx];dsimp only;rw[if_neg ybw];rfl
 refine CS (CD (ts 0 9 .nil) ym yr ?_)
 refine xgc ?_
 refine AG (AI rfl (light_idx k rfl rfl rfl rfl rfl rfl hk) ?_)
 refine AG (yE rfl rfl rfl (RdL.one 5 rfl (cli_cell hx2)) ?_)
 refine xgc ?_
 refine CS (CD (ts 0 11 .nil) ym yr ?_)
 refine xgc ?_
 refine xeo ?_
 refine xgc ?_
 refine CN (L':=pt sb (⟨kd,k,sx,sc,op⟩:StpM).cells doT::cliH q x::ccL p C y k C.lnk C.his) (Imp.cons (cli_out hx2)).ent ?_
 refine xjp ?_
 refine CD (ts 0 10 (.only 10 (ts 11 5 .nil))) ym yr ?_
 refine xgd ?_
 refine AG (VA.ldA 0 op.cells rfl rfl rfl rfl rfl ?_)
 refine xgd ?_
 refine AG (AQ 1 rfl (fun Fr w hF hs hS=>vccall_spec Fr w okx yd op sx (C.dead sc) C.now) rfl (by rw[dead_if];rfl) ych ?_ ?_)
 ·rintro _ _ ⟨X,a,c,hX,rfl,rfl⟩
  exact yci
 rintro _ _ ⟨X,a,c,hX,rfl,rfl⟩
 refine xgd ?_
 refine xjp ?_
 refine VC.condNE rfl (fun k1=>?_) (fun k1=>CK ?_)
 ·refine xjp ?_
  refine CR (Ret.tmp 4 rfl rfl (Imp.tail.trans (cli_shut (R:=[]) fit hx2)).ent ⟨by rw[hr0 k1],?_⟩)
  rw[hr0 k1,(call_bad rfl k1).1]
  have:C.setCli (k:Int) x=C:=by unfold CluM.setCli;rw[Int.toNat_natCast,set_same hcs]
  rw[this]
 have hr:=hr1 ycf
 have hss:=ccall_seq x op sx (C.dead sc) C.now
 generalize x.call op sx (C.dead sc) C.now=X2 at hX okc fw hr hss
 obtain⟨x',S'⟩:=X2
 dsimp only at hX okc fw hr hss ⊢
 refine CS (CD (ts 0 7 (ts 8 2 (.only 7 (.only 10 .nil)))) ym yr ?_)
 refine xgd ?_
 refine AG (VA.ldA 0 op.cells rfl rfl rfl rfl rfl ?_)
 refine AG (AR (fun Fr w hF hw hS=>vseq_spec Fr w okc (((hS.at_ 1 rfl).sep).at_ 0 rfl)) rfl rfl yci ?_)
 refine AG (AQ 8 rfl (fun Fr w hF hs hS=>hcall_spec Fr w ok.his yd k x'.seq op) rfl rfl (ψ:=fun v H=>v=.int .i64 (C.his.callE k x'.seq op)∧H=hisH y.hp (C.his.call k x'.seq op)) yy ?_ ?_)
 ·rintro _ _ ⟨rfl,rfl⟩
  exact yci
 rintro _ _ ⟨rfl,rfl⟩
 refine xgd ?_
 refine xdt ?_
 refine VG (VP rfl rfl ybb ybb ?_)
 refine xdt ?_
 refine VG (VQ 7 rfl (fun Fr w hF hs hS=>usend_spec Fr w (hS.blk 2 rfl) ok.lnk (32+k) (SdIn.at_ 1 hS rfl hX fw)) rfl (ψ:=fun v H=>v=.tuple #[]∧H=lnkH y.lp (postL (32+k) C.lnk (X.map Prod.fst))) yy ?_)
 rintro _ _ ⟨rfl,rfl⟩
 refine xdt ?_
 rw[hX]
 exact CR (Ret.tmp 4 rfl rfl ((Imp.tail (H:=pt sb _ doT)).trans (cli_shut (p:=p) (R:=[]) (s':=x') (hi:=C.his.call k x'.seq op) (l:=postL (32+k) C.lnk S') (a:=a) (c:=c) (X:=X) fit hx2)).ent ⟨by rw[hr],by rw[hr]⟩)
end
end Cl
namespace Cl
open Go Vg T Api Ch Rep Conf Lg Rd
attribute [local irreducible] VO VC VA
section
variable {p:Nat} {C:CluM} {b e:Nat}
theorem fold_succ{α:Type}(f:α→Nat→α)(x:α)(k:Nat):(List.range (k+1)).foldl f x=f ((List.range k).foldl f x) k:=by
 rw[List.range_succ,List.foldl_append];rfl
theorem tickN_len(C:CluM)(n:Nat):(C.tickN n).nodes.length=C.nodes.length∧(C.tickN n).clis=C.clis∧(C.tickN n).now=C.now∧(C.tickN n).conf=C.conf∧(C.tickN n).done=C.done:=by
 unfold CluM.tickN
 split
 ·exact xjj
 ·exact⟨List.length_set,rfl,rfl,rfl,rfl⟩
theorem utick_spec(ok:C.Ok b e):Tri Tryz.prog 81 [.pointer (some ⟨p,0,none⟩)] Fr w [cluH p C]
  (fun v L=>v=.tuple #[]∧L=[cluH p C.tick]):=by
 have hcl:=ok.clis
 have hnd:=ok.nods
 have hn0:=ok.n0
 have hn1:=ok.n1
 refine TF 58 Tryz.func81 rfl ym tabOk rfl rfl ?_
 refine xnh ?_
 rintro y fit
 refine xni ?_
 have hln:=cli_len fit
 have hnn:=node_len fit
 have hmin:min (C.now+1) 1099511627776=if 1099511627776<C.now+1 then 1099511627776 else C.now+1:=by split<;>omega
 generalize hC1:({ C with now:=min (C.now+1) 1099511627776 }:CluM)=C1
 have ok1:C1.Ok b e:=hC1▸ok.at_
 have fit1:CluFit C1 y:=hC1▸⟨fit.nr,fit.cr,fit.qc⟩
 have hnn1:C1.nodes.length=C.nodes.length:=by rw[←hC1]
 have hcc1:C1.clis.length=C.clis.length:=by rw[←hC1]
 refine zor ?_
 refine VG (VO.st 0 (cs':=cluC C1 y) rfl rfl rfl rfl (by show 12<19;omega) (by rw[←hC1,hmin];rfl) rfl ?_)
 refine VO.ent (L':=cluL p C1 y) (Imp.of_eq (by rw[←hC1];rfl)).ent ?_
 refine xdf ?_
 have hT:C.tick=(List.range C1.clis.length).foldl CluM.tickC ((List.range C1.nodes.length).foldl CluM.tickN C1):=by
  unfold CluM.tick
  dsimp only
  rw[hC1,←hnn1]
  have:∀(k:Nat),((List.range k).foldl CluM.tickN C1).clis.length=C1.clis.length:=by
   intro k
   induction k with
   | zero=>rfl
   | succ k ih=>rw[fold_succ,(tickN_len _ _).2.1,ih]
  rw[this]
 refine VC.loop (σ:=Nat×List NdG) (fun s=>[(0,pV p),(18,.slice (some ⟨y.nb,0,none⟩) y.nr.length y.nc),(19,.int .i64 y.nr.length),(20,.int .i64 (s.1:Int))])
  (fun s=>cluL p ((List.range s.1).foldl CluM.tickN C1) { y with nr:=s.2 })
  (fun s=>s.1≤y.nr.length∧s.2.length=y.nr.length∧CluFit ((List.range s.1).foldl CluM.tickN C1) { y with nr:=s.2 }) (fun s=>y.nr.length-s.1) (0,y.nr)
  ⟨Nat.zero_le _,rfl,fit1⟩ sbZ ER ?_
 rintro⟨k,nr⟩ ⟨hk0,hnl,fk⟩
 dsimp only at hk0 hnl fk
 have okk:=ok1.tickNs (List.range k)
 have hsu:=fold_succ CluM.tickN C1 k
 generalize hD:(List.range k).foldl CluM.tickN C1=D at okk hsu fk
 refine xjp ?_
 refine CP (p:=(k:Int)<y.nr.length) rfl (fun h1=>CK ?_) (fun h1=>CX ?_)
 ·have hkl:k<nr.length:=by omega
  have hx2:nr[k]?=some nr[k]:=GE hkl
  generalize nr[k]=z at hx2
  obtain⟨hnx,hns⟩:=node_at fk (k:=k) (x:=z) hx2
  refine zov ?_
  refine VG (VO.load rfl rfl (RdL.one 3 rfl (nod_cell hx2)) ?_)
  cases z with
  | none=>
   have e1:D.tickN k=D:=by unfold CluM.tickN;rw[hns];rfl
   refine zot ?_
   refine zom ?_
   exact⟨(k+1,nr),⟨by dsimp only;omega,hnl,by rw[hsu,e1];exact fk⟩,by dsimp only;omega,SC rfl (SC rfl (SC rfl (Sub.int rfl yd (SN _)))),by dsimp only;rw[hsu,e1];exact ER⟩
  | some z=>
   obtain⟨q,r⟩:=z
   have hm:some r∈D.nodes:=ME hns
   have e1:D.tickN k=({ D.setNode k (some (tickR r).1) with lnk:=postL k D.lnk (ofS (tickR r).2) }:CluM):=by unfold CluM.tickN;rw[hns];rfl
   have fw:FewS (ofS (tickR r).2):=FewS.of (by have:=tick_few r;omega)
   show VO _ _ _ _ (putE (some 24) (.pointer (some ⟨q,0,none⟩)) _) _ _
   refine zow ?_
   refine CN (L':=repH q r::cnL p D { y with nr:=nr } k D.lnk) (node_out hx2).ent ?_
   refine xds ?_
   refine VG (VQ 0 rfl (fun Fr w hF hs hS=>vtick_spec Fr w (okk.fit r hm).ok D.now) rfl ych ?_)
   rintro _ _ ⟨X,a,c,hX,rfl,rfl⟩
   refine xds ?_
   refine VG (VQ 6 rfl (fun Fr w hF hs hS=>usend_spec Fr w (hS.blk 1 rfl) okk.lnk k (SdIn.at_ 0 hS rfl hX fw)) rfl (ψ:=fun v H=>v=.tuple #[]∧H=lnkH y.lp (postL k D.lnk (X.map Prod.fst))) yy ?_)
   rintro _ _ ⟨rfl,rfl⟩
   rw[hX]
   refine zom ?_
   refine⟨(k+1,nr.set k (some (q,(tickR r).1))),⟨by dsimp only;omega,by dsimp only;rw[List.length_set];exact hnl,by dsimp only;rw[hsu,e1];exact node_fit fk k (some (q,(tickR r).1)) _⟩,by dsimp only;omega,SC rfl (SC rfl (SC rfl (Sub.int rfl yd (SN _)))),?_⟩
   dsimp only
   rw[hsu,e1]
   exact(Imp.trans sentH_open (node_in (y:={ y with nr:=nr }) (r':=(tickR r).1) (l:=postL k D.lnk (ofS (tickR r).2)) hx2)).ent
 have hkn:k=C1.nodes.length:=by omega
 rw[hkn] at hD
 rw[hD] at hT
 clear hsu
 subst hkn
 have hDc:D.clis.length=C1.clis.length:=by have h:=cli_len fk;dsimp only at h;omega
 refine xdf ?_
 refine VC.loop (σ:=Nat×List CiG) (fun s=>[(0,pV p),(40,.slice (some ⟨y.cb,0,none⟩) y.cr.length y.cc),(41,.int .i64 y.cr.length),(42,.int .i64 (s.1:Int))])
  (fun s=>cluL p ((List.range s.1).foldl CluM.tickC D) { y with nr:=nr,cr:=s.2 })
  (fun s=>s.1≤y.cr.length∧s.2.length=y.cr.length∧CluFit ((List.range s.1).foldl CluM.tickC D) { y with nr:=nr,cr:=s.2 }) (fun s=>y.cr.length-s.1) (0,y.cr)
  ⟨Nat.zero_le _,rfl,fk⟩ sbZ ER ?_
 rintro⟨k,cr⟩ ⟨hk0,hcr,fk⟩
 dsimp only at hk0 hcr fk
 have okk:=okk.tickCs (List.range k)
 have hsu:=fold_succ CluM.tickC D k
 generalize hE:(List.range k).foldl CluM.tickC D=E at okk hsu fk
 refine xjp ?_
 refine CP (p:=(k:Int)<y.cr.length) rfl (fun h1=>CK ?_) (fun h1=>CX ?_)
 rotate_left
 ·have hkn:k=C1.clis.length:=by omega
  have:C.tick=E:=by rw[hT,←hE,hkn]
  exact Ret.void rfl (clu_shut (R:=[]) fk).ent ⟨rfl,by rw[this]⟩
 have hkl:k<cr.length:=by omega
 have hx2:cr[k]?=some cr[k]:=GE hkl
 generalize cr[k]=z at hx2
 obtain⟨q,s⟩:=z
 obtain⟨hnx,hns⟩:=cli_at fk (k:=k) (x:=(q,s)) hx2
 have hm:s∈E.clis:=ME hns
 have e1:E.tickC k=({ E.setCli k (s.tick E.now).1 with lnk:=postL (32+k) E.lnk (s.tick E.now).2,his:=E.his }:CluM):=by unfold CluM.tickC;rw[hns];rfl
 have fw:FewS (s.tick E.now).2:=CliM.tick_few s E.now
 refine zov ?_
 refine VG (VO.load rfl rfl (RdL.one 4 rfl (cli_cell hx2)) ?_)
 refine xjp ?_
 refine xdl ?_
 refine VO.ent (L':=cliH q s::ccL p E { y with nr:=nr,cr:=cr } k E.lnk E.his) (cli_out hx2).ent ?_
 refine xds ?_
 refine VG (VQ 0 rfl (fun Fr w hF hs hS=>vctick_spec Fr w (okk.cok s hm) E.now) rfl ych ?_)
 rintro _ _ ⟨X,a,c,hX,rfl,rfl⟩
 refine xds ?_
 refine VG (VQ 6 rfl (fun Fr w hF hs hS=>usend_spec Fr w (hS.blk 1 rfl) okk.lnk (32+k) (SdIn.at_ 0 hS rfl hX fw)) rfl (ψ:=fun v H=>v=.tuple #[]∧H=lnkH y.lp (postL (32+k) E.lnk (X.map Prod.fst))) yy ?_)
 rintro _ _ ⟨rfl,rfl⟩
 rw[hX]
 refine zom ?_
 refine⟨(k+1,cr.set k (q,(s.tick E.now).1)),⟨by dsimp only;omega,by dsimp only;rw[List.length_set];exact hcr,by dsimp only;rw[hsu,e1];exact cli_fit fk k (q,(s.tick E.now).1) _ _⟩,by dsimp only;omega,SC rfl (SC rfl (SC rfl (Sub.int rfl yd (SN _)))),?_⟩
 dsimp only
 rw[hsu,e1]
 exact(Imp.trans sentH_open (cli_in (y:={ y with nr:=nr,cr:=cr }) (s':=(s.tick E.now).1) (l:=postL (32+k) E.lnk (s.tick E.now).2) (hi:=E.his) hx2)).ent
end
end Cl
namespace Cl
open Go Vg T Api Ch Rep Conf Lg Rd
attribute [local irreducible] VO VC VA
theorem setF_ent(f:FrameM)(o:Nat)(n:Int):(setF f o n).entry=f.entry:=by unfold setF;split<;>rfl
theorem setFs_ent:∀(os:List Nat) (ns:List Int) (f:FrameM),(setFs f os ns).entry=f.entry
 | o::os,n::ns,f=>by
  show(setFs (setF f o n) os ns).entry=_
  rw[setFs_ent os ns,setF_ent]
 | [],_,_=>rfl
 | _::_,[],_=>rfl
theorem readF_ent{f:FrameM}{s:Bs}{y:FrameM×List MemM}(h:readF f s=some y):y.1.kind=f.kind∧(f.kind≠4→y.1.entry=f.entry):=by
 unfold readF at h
 repeat' split at h
 all_goals first | (cases h;done) | (cases h;exact⟨rfl,fun _=>rfl⟩) | (cases h;exact⟨rfl,fun k=>absurd (by assumption) k⟩)
theorem getM_r{s:Bs}{f:FrameM}{ms:List MemM}(h:getM s=some (f,ms)):ms.length≤6∧0≤f.entry.index∧f.entry.index≤1099511627776:=by
 unfold getM at h
 split at h
 ·cases h
 split at h
 ·cases h
 split at h
 ·cases h
 split at h
 ·cases h
 ·rename_i k r hk _ l r2 hl _ f' ms' hr
  split at h
  ·rename_i hm
   cases h
   refine⟨readF_ms hr,?_⟩
   have he:=readF_ent hr
   by_cases h4:f.kind=4
   ·unfold mayM mayB at hm
    simp only[h4,Bool.and_eq_true] at hm
    have hm:=hm.2.2
    simp[inN] at hm
    exact hm.1.1
   ·have:=he.2 (by rw[←he.1];exact h4)
    rw[this,setFs_ent]
    exact⟨by show(0:Int)≤0;decide,by show(0:Int)≤1099511627776;decide⟩
  ·cases h
section
variable {p:Nat} {C:CluM} {y:CluS} {b e:Nat}
def tkV(y:CluS)(to:Int):Value:=
 if to=16 then fnV 184 [.pointer (some ⟨y.mp,0,none⟩)] []
 else match (if to<0 then none else (y.nr[to.toNat]?).getD none) with
  | some z=>fnV 133 [.pointer (some ⟨z.1,0,none⟩)] []
  | none=>match (if to<32 then none else y.cr[(to-32).toNat]?) with
   | some z=>fnV 185 [.agg #[.pointer (some ⟨z.1,0,none⟩)]] []
   | none=>.nilFunc
theorem utaker_spec(fit:CluFit C y)(h:Blk Fr w p (cluC C y))(hr:Blk Fr w y.nb (flat nodC y.nr++y.nx))(hc:Blk Fr w y.cb (flat cliV y.cr++y.cx)){to:Int}(h0:0≤to)(h1:to<38):Tri Tryz.prog 129 [.pointer (some ⟨p,0,none⟩),.int .i64 to] Fr w [] (fun v L=>v=tkV y to∧L=[]):=by
 have hln:=cli_len fit
 have hnn:=node_len fit
 obtain⟨k,rfl⟩:∃k:Nat,to=k:=⟨to.toNat,by omega⟩
 refine TF 50 Tryz.func129 rfl ym tabOk rfl rfl ?_
 refine xjq ?_
 refine xed ?_
 refine xjq ?_
 refine CP (p:=(k:Int)=16) rfl (fun e1=>?_) (fun e1=>?_)
 ·refine xjr ?_
  refine zqf ?_
  exact CR (Ret.tmp 4 rfl rfl ER ⟨by rw[tkV,if_pos e1],rfl⟩)
 refine xjq ?_
 refine VG (VV (fun Fr w hF hw hS=>up_spec Fr w fit (h.of hF hw) (hr.of hF hw) k) rfl ?_)
 have hu:∀z:NdG,(y.nr[k]?).getD none=z→C.upE (k:Int)=if y.nr.length≤k then 4 else if z.isNone then 61 else 0:=fun z hz=>by
  unfold CluM.upE
  by_cases hk:k<y.nr.length
  ·have hx:=GE hk
   rw[hx] at hz
   rw[if_neg (show ¬((k:Int)<0∨(C.nodes.length:Int)≤k) by omega),if_neg (show ¬y.nr.length≤k by omega),(node_at fit hx).1,←hz]
   cases y.nr[k]<;>rfl
  ·rw[if_pos (.inr yd),if_pos yd]
 by_cases hx:∃q r,y.nr[k]?=some (some (q,r))
 ·obtain⟨q,r,hx⟩:=hx
  have hk:=(List.getElem?_eq_some_iff.1 hx).1
  have hu2:=hu (some (q,r)) (by rw[hx];rfl)
  rw[if_neg yd] at hu2
  rw[hu2]
  refine zol ?_
  refine xjr ?_
  refine xea ?_
  refine VG (VO.load rfl rfl (RdL.blk hr (nod_cell hx)) ?_)
  refine xjq ?_
  refine zqf ?_
  exact CR (Ret.tmp 4 rfl rfl ER ⟨by rw[tkV,if_neg e1,if_neg yd,Int.toNat_natCast,hx];rfl,rfl⟩)
 have hno:(y.nr[k]?).getD none=none:=by
  cases hz:y.nr[k]? with
  | none=>rfl
  | some z=>
   cases z with
   | none=>rfl
   | some z=>exact absurd ⟨z.1,z.2,hz⟩ hx
 have hu3:C.upE (k:Int)≠0:=by rw[hu none hno];split<;>decide
 have et:tkV y k=match (if (k:Int)<32 then none else y.cr[((k:Int)-32).toNat]?) with
   | some z=>fnV 185 [.agg #[.pointer (some ⟨z.1,0,none⟩)]] []
   | none=>.nilFunc:=by rw[tkV,if_neg e1,if_neg yd,Int.toNat_natCast,hno]
 rw[et]
 refine xjq ?_
 refine CE rfl (fun k0=>absurd k0 hu3) (fun _=>?_)
 refine xjq ?_
 by_cases h32:(k:Int)<32
 ·refine VG (VY 32 false rfl (DF yd) ?_)
  refine xjr ?_
  refine xdy ?_
  refine xjq ?_
  exact CR (Ret.tmp 4 rfl rfl ER ⟨by rw[if_pos h32],rfl⟩)
 obtain⟨j,rfl⟩:∃j:Nat,k=32+j:=⟨k-32,by omega⟩
 refine VG (VY 32 true rfl (DT yd) ?_)
 refine xjr ?_
 refine CP (p:=(((32+j:Nat):Int)-32)<(y.cr.length:Int)) rfl (fun h2=>?_) (fun h2=>CK ?_)
 ·have hj:j<y.cr.length:=by omega
  have hx2:y.cr[j]?=some y.cr[j]:=GE hj
  generalize y.cr[j]=z at hx2
  have ej:((32+j:Nat):Int)-32=(j:Int):=by omega
  rw[ej]
  refine xjr ?_
  refine VG (VI (light_idx j rfl rfl rfl rfl rfl rfl hj) ?_)
  refine VG (VO.load rfl rfl (RdL.blk hc (cli_cell hx2)) ?_)
  refine xjq ?_
  refine VG (VI (LB (pv:=[(0,.pointer (some ⟨z.1,0,none⟩))]) [.pointer (some ⟨z.1,0,none⟩)] rfl rfl rfl ym rfl) ?_)
  refine zqf ?_
  exact CR (Ret.tmp 4 rfl rfl ER ⟨by rw[if_neg h32,Int.toNat_natCast,hx2],rfl⟩)
 ·refine xjq ?_
  exact CR (Ret.tmp 4 rfl rfl ER ⟨by rw[if_neg h32,List.getElem?_eq_none yd],rfl⟩)
theorem useat_spec{q:Nat}{S:CliM}(ok:S.Ok)(from_:Int)(f:FrameM){ma:Option Addr}{mc:Nat}{ms:List MemM}(hm:RwIn memC 2 Fr w ma ms)(hml:ms.length≤1000000)(now:Int):Tri Tryz.prog 185 [.agg #[.pointer (some ⟨q,0,none⟩)],.int .i64 from_,.agg (f.cells (ma,ms.length,mc)).toArray,.int .i64 now] Fr w [cliH q S] (fun v L=>SentV (S.take f ms now).2 (cliH q (S.take f ms now).1) v L):=by
 refine TF 14 Tryz.func185 rfl ym tabOk rfl rfl ?_
 refine CS (CG (VG (VB (vs:=[.pointer (some ⟨q,0,none⟩)]) rfl fun s1=>VG (VB (vs:=f.cells (ma,ms.length,mc)) rfl fun fb=>?_))))
 refine xds ?_
 refine xmp ?_
 refine xds ?_
 refine VG (VQ 2 rfl (fun Fr w hF hw hS=>vctake_spec Fr w ok f (hm.of hF hw) hml now) rfl ych ?_)
 rintro _ _ ⟨X,a,c,hX,rfl,rfl⟩
 refine xds ?_
 exact CR (Ret.tmp 8 rfl rfl (Imp.tail.trans Imp.tail).ent ⟨_,rfl,X,a,c,hX,rfl,rfl⟩)
end
end Cl
namespace Cl
open Go Vg T Api Ch Rep Conf Lg Rd
attribute [local irreducible] VO VC VA
theorem run_eq_fn{P:Program}{ty:Nat}{ps rs:Array TypeId}{vd:Bool}(hund:P.underlying ty=some (.func ps rs vd)){v:Value}{r:Bool}(hv:(v=.nilFunc∧r=true)∨∃f a c,v=.func f a c∧r=false)(w:World):(Op.equal ty v .nilFunc).run P w=.ok r w:=by
 unfold Op.equal
 show(Op.equalIn (9999+1) ty v .nilFunc).run P w=_
 rw[Op.equalIn,Sem.run_bind,run_underlying hund]
 rcases hv with ⟨rfl,rfl⟩ | ⟨f,a,c,rfl,rfl⟩<;>rfl
theorem light_neFn{X:Cx}{e:Env}{T yt:TypeId}{x:Operand}{v:Value}{ps rs:Array TypeId}{vd:Bool}(r:Bool)(hT:X.P.underlying T=some (.func ps rs vd))(hx:ev e x=some v)(hv:(v=.nilFunc∧r=false)∨∃f a c,v=.func f a c∧r=true):
  Light X (.binOp .neq T x (.const .nilFunc) yt) e (.bool r):=by
 intro a' ha dst ty pos after guard w
 have hq:=run_eq_fn hT (v:=v) (r:=!r) (by rcases hv with ⟨h1,h2⟩ | ⟨f,a,c,h1,h2⟩<;>simp[h1,h2]) w
 simp only[execOp,ha.ev hx]
 have h:(do eqGuard .neq T x (.const .nilFunc) v .nilFunc;binOp .neq T v .nilFunc:Sem Value).run X.P w=.ok (.bool r) w:=by
  have hg:(eqGuard .neq T x (.const .nilFunc) v .nilFunc).run X.P w=.ok () w:=by
   rcases hv with ⟨rfl,_⟩ | ⟨f,a,c,rfl,_⟩<;>rfl
  rw[Sem.run_bind,hg,Result.andThen_ok]
  have hb:binOp .neq T v .nilFunc=(do pure (.bool (!(←Op.equal T v .nilFunc))):Sem Value):=by
   rcases hv with ⟨rfl,_⟩ | ⟨f,a,c,rfl,_⟩<;>rfl
  rw[hb,Sem.run_bind,hq]
  cases r<;>rfl
 rw[Sem.run_bind]
 show((do eqGuard .neq T x (.const .nilFunc) v .nilFunc;binOp .neq T v .nilFunc:Sem Value).run X.P w).andThen _=_
 rw[h];rfl
section
variable {p:Nat} {C:CluM} {b e:Nat}
theorem tk_mas{y:CluS}:tkV y 16=fnV 184 [.pointer (some ⟨y.mp,0,none⟩)] []:=rfl
theorem tk_node{y:CluS}{k q:Nat}{r:RepM}(h1:(k:Int)≠16)(h:y.nr[k]?=some (some (q,r))):tkV y k=fnV 133 [.pointer (some ⟨q,0,none⟩)] []:=by
 rw[tkV,if_neg h1,if_neg yd,Int.toNat_natCast,h];rfl
theorem tk_rest{y:CluS}{k:Nat}(h1:(k:Int)≠16)(h:∀q r,y.nr[k]?≠some (some (q,r))):tkV y k=match (if (k:Int)<32 then none else y.cr[((k:Int)-32).toNat]?) with
   | some z=>fnV 185 [.agg #[.pointer (some ⟨z.1,0,none⟩)]] []
   | none=>.nilFunc:=by
 have hno:(y.nr[k]?).getD none=none:=by
  cases hz:y.nr[k]? with
  | none=>rfl
  | some z=>
   cases z with
   | none=>rfl
   | some z=>exact absurd hz (h z.1 z.2)
 rw[tkV,if_neg h1,if_neg yd,Int.toNat_natCast,hno]<;>rfl
theorem node_none{y:CluS}(fit:CluFit C y){k:Nat}(h:∀q r,y.nr[k]?≠some (some (q,r))):C.node (k:Int)=none:=by
 unfold CluM.node
 rw[if_neg yd,Int.toNat_natCast,←fit.nr,List.getElem?_map]
 cases hz:y.nr[k]? with
 | none=>rfl
 | some z=>
  cases z with
  | none=>rfl
  | some z=>exact absurd hz (h z.1 z.2)
theorem udeliver_spec(ok:C.Ok b e)(hb:b<100000000)(x to i:Int):Tri Tryz.prog 83 [.pointer (some ⟨p,0,none⟩),.int .i64 x,.int .i64 to,.int .i64 i] Fr w [cluH p C]
  (fun v L=>v=.int .i64 (C.deliver (x,to) i).2∧L=[cluH p (C.deliver (x,to) i).1]):=by
 have hcl:=ok.clis
 have hnd:=ok.nods
 refine TF 57 Tryz.func83 rfl ym tabOk rfl rfl ?_
 refine xnh ?_
 rintro y fit
 refine xni ?_
 have hln:=cli_len fit
 have hnn:=node_len fit
 refine xdf ?_
 refine VG (VQ 5 rfl (fun Fr w hF hw hS=>ldeliver_spec Fr w ok.lnk x to i) rfl (ψ:=fun v H=>v=fdV C.lnk (x,to) i∧H=lnkH y.lp (C.lnk.drop (x,to) i).1) yy ?_)
 rintro _ _ ⟨rfl,rfl⟩
 cases hf:C.lnk.find (x,to) i with
 | none=>
  have hr:C.deliver (x,to) i=(C,4):=by unfold CluM.deliver;rw[hf]
  rw[fdV_none hf,drop_none hf]
  refine xjp ?_
  refine VG (VO.alloc rfl fun mb=>?_)
  refine xmx ?_
  refine zqj ?_
  exact CR (Ret.tmp 8 rfl rfl (Imp.trans (Imp.tail (H:=pt mb _ mailT)) (clu_shut (C:=C) (p:=p) (R:=[]) fit)).ent ⟨by rw[hr],by rw[hr]⟩)
 | some t=>
 obtain⟨ha1,ha2⟩:=ok.adr.found hf
 obtain⟨hx0,hx1⟩:=adr_r ha1
 obtain⟨ht0,ht1⟩:=adr_r ha2
 obtain⟨k,rfl⟩:∃k:Nat,to=k:=⟨to.toNat,by dsimp only at ht0;omega⟩
 dsimp only at ht0 ht1 hx0 hx1
 rw[fdV_some hf,drop_some hf]
 generalize hD:({ C with lnk:=C.lnk.without (x,k) i }:CluM)=D
 have okd:D.Ok b e:=hD▸ok.links (by rw[CluM.Ok.find_without hf];exact ok.lnk.drop _ _) (ok.adr.without hf)
 have fitd:CluFit D y:=hD▸⟨fit.nr,fit.cr,fit.qc⟩
 obtain⟨s,rfl⟩:∃s,t=bT s:=⟨sB t,(bT_of t).symm⟩
 have hr:C.deliver (x,k) i=(D.got x k (bT s),0):=by unfold CluM.deliver;rw[hf];dsimp only;rw[hD]
 have hgot:D.got x k (bT s)=match getM s with
   | some (f,ms)=>D.takes x k f ms
   | none=>D:=by unfold CluM.got;rw[sB_of]<;>rfl
 refine VO.ent (L':=cluL p D y) (Imp.of_eq (by rw[←hD];rfl)).ent ?_
 refine xjp ?_
 refine VG (VO.alloc rfl fun mb=>?_)
 refine VG (VT (vs:=mailC x k (bT s)) (cs':=mailC x k (bT s)) 0 rfl rfl rfl rfl (NR _) rfl rfl rfl ?_)
 refine zot ?_
 refine xdf ?_
 refine VG (VK (Lc:=[]) (fun Fr w hF hw hS=>fget_spec Fr w (s:=s)) rfl rfl ?_)
 intro v L1 hv
 cases hg:getM s with
 | none=>
  rw[hg] at hv hgot
  obtain⟨rfl,rfl⟩:=hv
  dsimp only at hgot
  refine xjp ?_
  refine VG (VO.alloc rfl fun fb=>?_)
  refine xmm ?_
  refine xjp ?_
  refine xds ?_
  refine xnj ?_
  refine xjp ?_
  refine xdw ?_
  refine zqk ?_
  exact CR (Ret.tmp 8 rfl rfl (Imp.trans (Imp.tail (H:=pt fb _ frT)) (Imp.trans (Imp.tail (H:=pt mb _ mailT)) (clu_shut (C:=D) (p:=p) (R:=[]) fitd))).ent ⟨by rw[hr],by rw[hr,hgot]⟩)
 | some fm=>
 obtain⟨f,ms⟩:=fm
 rw[hg] at hv hgot
 obtain⟨ma,mc,rfl,rfl⟩:=hv
 dsimp only at hgot
 rw[hgot] at hr
 obtain⟨hm6,hi0,hi1⟩:=getM_r hg
 refine xjp ?_
 refine VG (VO.alloc rfl fun fb=>?_)
 refine VG (VT (vs:=f.cells (ma,ms.length,mc)) (cs':=f.cells (ma,ms.length,mc)) 0 rfl rfl rfl rfl (NR _) rfl rfl rfl ?_)
 refine VO.ent (L':=pt fb (f.cells (ma,ms.length,mc)) frT::pt mb (mailC x k (bT s)) mailT::(cluL p D y ++ [slH memT 2 ma ms.length mc (flat memC ms)])) (by refine Imp.ent ?_;refine IP 0 rfl ?_;refine IP 1 rfl ?_;exact Imp.last (L:=cluL p D y)) ?_
 refine xjp ?_
 refine xds ?_
 refine xnj ?_
 by_cases h16:(k:Int)=16
 ·have hk16:k=16:=by omega
  subst hk16
  have ht:D.takes x (16:Nat) f ms=({ D with mas:=(D.mas.take x f D.now).1,lnk:=postL (16:Nat) D.lnk (D.mas.take x f D.now).2 }:CluM):=by
   unfold CluM.takes
   rw[if_pos yo];rfl
  rw[ht] at hr
  have fw:=okd.mas.take_few x f D.now
  rw[show tkV y (16:Nat)=_ from tk_mas]
  refine xjp ?_
  refine xdu ?_
  refine xjp ?_
  refine xnk ?_
  refine zow ?_
  refine CN (L':=pt fb (f.cells (ma,ms.length,mc)) frT::pt mb (mailC x (16:Nat) (bT s)) mailT::masH y.mp D.mas::(cmL p D y D.lnk ++ [slH memT 2 ma ms.length mc (flat memC ms)])) (Imp.cons (Imp.cons (Imp.app (M:=masH y.mp D.mas::cmL p D y D.lnk) mas_out Imp.refl))).ent ?_
  refine xnl ?_
  refine xfe ?_
  refine xnm ?_
  refine xfe ?_
  refine AG (VA.callFAt 2 rfl rfl (fun Fr w hF hs hS=>vmtake_spec Fr w okd.mas x f (ma,ms.length,mc) D.now) rfl rfl ych ?_ ?_)
  ·rintro _ _ ⟨X,a,c,hX,rfl,rfl⟩
   exact ycj
  rintro _ _ ⟨X,a,c,hX,rfl,rfl⟩
  refine AG (AQ 7 rfl (fun Fr w hF hs hS=>usend_spec Fr w (hS.blk 3 rfl) okd.lnk (16:Nat) (SdIn.at_ 2 hS rfl hX fw)) rfl rfl (ψ:=fun v H=>v=.tuple #[]∧H=lnkH y.lp (postL (16:Nat) D.lnk (X.map Prod.fst))) yy ?_ ?_)
  ·rintro _ _ ⟨rfl,rfl⟩
   exact ycj
  rintro _ _ ⟨rfl,rfl⟩
  refine zou ?_
  rw[hX]
  exact CR (Ret.tmp 8 rfl rfl (Imp.trans (Imp.tail (H:=pt fb _ frT)) (Imp.trans (Imp.tail (H:=pt mb _ mailT)) (mas_shut (p:=p) (m:=(D.mas.take x f D.now).1) (l:=postL (16:Nat) D.lnk (D.mas.take x f D.now).2) (a:=a) (c:=c) (X:=X) (R:=[slH memT 2 ma ms.length mc (flat memC ms)]) fitd))).ent ⟨by rw[hr],by rw[hr]⟩)
 by_cases hx:∃q r,y.nr[k]?=some (some (q,r))
 ·obtain⟨q,r,hx⟩:=hx
  obtain⟨hn1,hn2⟩:=node_at fitd hx
  have hmr:some r∈D.nodes:=ME hn2
  have hfit:=okd.fit r hmr
  have hlr:=okd.last r hmr
  have ht:D.takes x k f ms=({ D.setNode k (some (takeR r x f ms D.now).1) with lnk:=postL k D.lnk (ofS (takeR r x f ms D.now).2) }:CluM):=by
   unfold CluM.takes
   rw[if_neg h16,hn1];rfl
  rw[ht] at hr
  have fw:FewS (ofS (takeR r x f ms D.now).2):=FewS.of (by have:=take_few hfit x f ms D.now;omega)
  rw[tk_node h16 hx]
  refine xjp ?_
  refine xdu ?_
  refine xjp ?_
  refine xnk ?_
  refine zow ?_
  refine CN (L':=pt fb (f.cells (ma,ms.length,mc)) frT::pt mb (mailC x k (bT s)) mailT::repH q r::(cnL p D y k D.lnk ++ [slH memT 2 ma ms.length mc (flat memC ms)])) (Imp.cons (Imp.cons (Imp.app (M:=repH q r::cnL p D y k D.lnk) (node_out hx) Imp.refl))).ent ?_
  refine xnl ?_
  refine xfe ?_
  refine xnm ?_
  refine xfe ?_
  refine AG (VA.callFAt 2 rfl rfl (fun Fr w hF hs hS=>vtake_spec Fr w hfit yd x f (RwIn.slH memC_len (hS.at_ 12 rfl)) yd D.now yd yd) rfl rfl ych ?_ ?_)
  ·rintro _ _ ⟨X,a,c,hX,rfl,rfl⟩
   exact ycj
  rintro _ _ ⟨X,a,c,hX,rfl,rfl⟩
  refine AG (AQ 8 rfl (fun Fr w hF hs hS=>usend_spec Fr w (hS.blk 3 rfl) okd.lnk k (SdIn.at_ 2 hS rfl hX fw)) rfl rfl (ψ:=fun v H=>v=.tuple #[]∧H=lnkH y.lp (postL k D.lnk (X.map Prod.fst))) yy ?_ ?_)
  ·rintro _ _ ⟨rfl,rfl⟩
   exact ycj
  rintro _ _ ⟨rfl,rfl⟩
  refine zou ?_
  rw[hX]
  exact CR (Ret.tmp 8 rfl rfl (Imp.trans (Imp.tail (H:=pt fb _ frT)) (Imp.trans (Imp.tail (H:=pt mb _ mailT)) (node_shut (p:=p) (r':=(takeR r x f ms D.now).1) (l:=postL k D.lnk (ofS (takeR r x f ms D.now).2)) (a:=a) (c:=c) (X:=X) (R:=[slH memT 2 ma ms.length mc (flat memC ms)]) fitd hx))).ent ⟨by rw[hr],by rw[hr]⟩)
 have hx:∀q r,y.nr[k]?≠some (some (q,r)):=fun q r h=>hx ⟨q,r,h⟩
 have hnone:=node_none fitd hx
 rw[tk_rest h16 hx]
 by_cases hc:∃j q z,k=32+j∧y.cr[j]?=some (q,z)
 ·obtain⟨j,q,z,rfl,hz⟩:=hc
  obtain⟨hn1,hn2⟩:=cli_at fitd hz
  have ej:((32+j:Nat):Int)-32=(j:Int):=by omega
  have hmz:z∈D.clis:=ME hn2
  have okz:=okd.cok z hmz
  have ht:D.takes x (32+j:Nat) f ms=({ D.setCli j (z.take f ms D.now).1 with lnk:=postL (32+j:Nat) D.lnk (z.take f ms D.now).2,his:=D.his }:CluM):=by
   unfold CluM.takes
   rw[if_neg h16,hnone,ej,hn1];rfl
  rw[ht] at hr
  have fw:FewS (z.take f ms D.now).2:=CliM.take_few z f ms D.now
  rw[if_neg yd,ej,Int.toNat_natCast,hz]
  refine xjp ?_
  refine xdu ?_
  refine xjp ?_
  refine xnk ?_
  refine zow ?_
  refine CN (L':=pt fb (f.cells (ma,ms.length,mc)) frT::pt mb (mailC x (32+j:Nat) (bT s)) mailT::cliH q z::(ccL p D y j D.lnk D.his ++ [slH memT 2 ma ms.length mc (flat memC ms)])) (Imp.cons (Imp.cons (Imp.app (M:=cliH q z::ccL p D y j D.lnk D.his) (cli_out hz) Imp.refl))).ent ?_
  refine xnl ?_
  refine xfe ?_
  refine xnm ?_
  refine xfe ?_
  refine AG (VA.callFAt 2 rfl rfl (fun Fr w hF hs hS=>useat_spec Fr w okz x f (RwIn.slH memC_len (hS.at_ 12 rfl)) yd D.now) rfl rfl ych ?_ ?_)
  ·rintro _ _ ⟨X,a,c,hX,rfl,rfl⟩
   exact ycj
  rintro _ _ ⟨X,a,c,hX,rfl,rfl⟩
  refine AG (AQ 8 rfl (fun Fr w hF hs hS=>usend_spec Fr w (hS.blk 3 rfl) okd.lnk (32+j:Nat) (SdIn.at_ 2 hS rfl hX fw)) rfl rfl (ψ:=fun v H=>v=.tuple #[]∧H=lnkH y.lp (postL (32+j:Nat) D.lnk (X.map Prod.fst))) yy ?_ ?_)
  ·rintro _ _ ⟨rfl,rfl⟩
   exact ycj
  rintro _ _ ⟨rfl,rfl⟩
  refine zou ?_
  rw[hX]
  exact CR (Ret.tmp 8 rfl rfl (Imp.trans (Imp.tail (H:=pt fb _ frT)) (Imp.trans (Imp.tail (H:=pt mb _ mailT)) (cli_shut (p:=p) (s':=(z.take f ms D.now).1) (hi:=D.his) (l:=postL (32+j:Nat) D.lnk (z.take f ms D.now).2) (a:=a) (c:=c) (X:=X) (R:=[slH memT 2 ma ms.length mc (flat memC ms)]) fitd hz))).ent ⟨by rw[hr],by rw[hr]⟩)
 have hcn:D.cli ((k:Int)-32)=none∧(if (k:Int)<32 then none else y.cr[((k:Int)-32).toNat]?)=none:=by
  by_cases h32:(k:Int)<32
  ·exact⟨by unfold CluM.cli;rw[if_pos yd],if_pos h32⟩
  obtain⟨j,rfl⟩:∃j:Nat,k=32+j:=⟨k-32,by omega⟩
  have ej:((32+j:Nat):Int)-32=(j:Int):=by omega
  have hz:y.cr[j]?=none:=by
   cases hz:y.cr[j]? with
   | none=>rfl
   | some z=>exact absurd ⟨j,z.1,z.2,rfl,hz⟩ hc
  rw[ej,if_neg h32,Int.toNat_natCast,hz]
  refine⟨?_,rfl⟩
  unfold CluM.cli
  rw[if_neg yd,Int.toNat_natCast,←fitd.cr,List.getElem?_map,hz];rfl
 have ht:D.takes x k f ms=D:=by
  unfold CluM.takes
  rw[if_neg h16,hnone,hcn.1]
 rw[ht] at hr
 rw[hcn.2]
 refine xjp ?_
 refine xdu ?_
 refine xjp ?_
 refine VG (VI (light_neFn false Tryz.underlying221 rfl (.inl ⟨rfl,rfl⟩)) ?_)
 refine zox ?_
 exact CR (Ret.tmp 8 rfl rfl (Imp.trans (Imp.tail (H:=pt fb _ frT)) (Imp.trans (Imp.tail (H:=pt mb _ mailT)) (clu_shut (C:=D) (p:=p) (R:=[slH memT 2 ma ms.length mc (flat memC ms)]) fitd))).ent ⟨by rw[hr],by rw[hr]⟩)
end
end Cl
namespace Cl
open Go Vg T Api Ch Rep Conf Lg Rd
attribute [local irreducible] VO VC VA
theorem mas_in_{Fr:Nat→Prop}{w:World}{q:Nat}{M:MasM}(h:SatIn Fr [masH q M] w):∃a c,Blk Fr w q (masCs M a c)∧RwIn memC 2 Fr w a M.ch.ms:=by
 obtain⟨y,hy⟩:=h.ex
 have hs:=hy.sep
 exact⟨y.1,y.2,hs.blk 0 rfl,RwIn.slH memC_len (hs.at_ 1 rfl)⟩
theorem vchain_spec{q:Nat}{M:MasM}(ok:M.Ok)(h:SatIn Fr [masH q M] w):Tri Tryz.prog 27 [.pointer (some ⟨q,0,none⟩)] Fr w []
  (fun v L=>∃a' c',v=.agg (M.ch.cells a' c').toArray∧L=[slH memT 2 a' M.ch.ms.length c' (flat memC M.ch.ms)]):=by
 obtain⟨a,c,h1,h2⟩:=mas_in_ h
 exact mchain_spec Fr w ok h1 h2
theorem join_bad{M:MasM}{n now:Int}(h:(M.join n now).2.2≠0):(M.join n now).1=M:=by
 unfold MasM.join at h ⊢
 split
 ·rfl
 ·rename_i h1
  rw[if_neg h1] at h
  split
  ·rfl
  ·rename_i h2;rw[if_neg h2] at h;exact absurd rfl h
section
variable {p:Nat} {C:CluM} {y:CluS} {b e:Nat}
theorem nod_put{l:List NdG}{k q:Nat}{r r':RepM}(hk:k<l.length):flat nodC (l.set k (some (q,r)))=flat nodC (l.set k (some (q,r'))):=by
 have h:(l.set k (some (q,r)))[k]?=some (some (q,r)):=List.getElem?_set_self hk
 have:=nod_same (r':=r') h
 rw[List.set_set] at this
 exact this.symm
theorem nod_store{l:List NdG}{k:Nat}(x:NdG)(hk:k<l.length)(rest:List Value):(flat nodC l++rest).set (0+k*1) (nodV x)=flat nodC (l.set k x)++rest:=by
 rw[Nat.zero_add]
 have hz:l[k]?=some l[k]:=GE hk
 exact flat_setCell (j:=0) nodC_len hz (Nat.zero_lt_one) (by cases l[k]<;>rfl) rest
theorem join_shut(fit:CluFit C y){k q:Nat}(hk:k<y.nr.length){r r':RepM}{m:MasM}{l:LnkM}{a a':Option Addr}{c c':Nat}{X X':List SdG}:Imp (sentH (repH q r') a c X::sentH (masH y.mp m) a' c' X' :: [pt p (cluC C y) cluT,intH y.qa y.qc C.conf.qs,pt y.nb (flat nodC (y.nr.set k (some (q,r)))++y.nx) rpT,pt y.cb (flat cliV y.cr++y.cx) cpT,lnkH y.lp l,hisH y.hp C.his,slH entT 7 y.da C.done.length y.dc (flat entC C.done),hsep (y.nr.map nodP),hsep (y.cr.map cliP)])
  [cluH p ({ ({ C with mas:=m }:CluM).setNode k (some r') with lnk:=l }:CluM)]:=by
 rw[nod_put (r':=r') hk]
 have e1:=node_cells (C:=C) (y:=y) (k:=k) (x:=some (q,r')) ({ ({ C with mas:=m }:CluM).setNode k (some r') with lnk:=l }:CluM) rfl rfl rfl
 have hz:y.nr[k]?=some y.nr[k]:=GE hk
 refine Imp.trans sentH_open ?_
 refine Imp.trans (Imp.cons sentH_open) ?_
 refine Imp.trans (IP 9 rfl Imp.refl) ?_
 refine Imp.trans (many_take (f:=nodP) hz) ?_
 refine Imp.trans Imp.tail ?_
 refine Imp.trans (M:=repH q r'::hsep ((y.nr.eraseIdx k).map nodP)::_) (IP 1 rfl (IP 0 rfl Imp.refl)) ?_
 refine Imp.trans (many_put (f:=nodP) hk (some (q,r'))) ?_
 have fit':CluFit ({ ({ C with mas:=m }:CluM).setNode k (some r') with lnk:=l }:CluM) (y.node k (some (q,r'))):=node_fit (C:={ C with mas:=m }) ⟨fit.nr,fit.cr,fit.qc⟩ k (some (q,r')) l
 refine Imp.clu (K:=[]) _ fit' ?_
 unfold cluL
 rw[e1]
 exact(pkZ [2,2,1,1,1,1,1,1,0,0])
theorem ujoin_spec(ok:C.Ok b e)(hb:b<100000000)(n:Int):Tri Tryz.prog 87 [.pointer (some ⟨p,0,none⟩),.int .i64 n] Fr w [cluH p C]
  (fun v L=>v=.int .i64 (C.join n).2∧L=[cluH p (C.join n).1]):=by
 refine TF 65 Tryz.func87 rfl ym tabOk rfl rfl ?_
 refine xnh ?_
 rintro y fit
 refine CN (L':=masH y.mp C.mas::cmL p C y C.lnk) ((Imp.of_eq (List.append_nil _)).trans mas_out).ent ?_
 have hnn:=node_len fit
 have hjb:=join_bad (M:=C.mas) (n:=n) (now:=C.now)
 have hjf:=ok.mas.join_few n C.now
 have hr0:(C.mas.join n C.now).2.2≠0→C.join n=(C,(C.mas.join n C.now).2.2):=fun h=>by unfold CluM.join;dsimp only;rw[if_pos h]
 have hr1:(C.mas.join n C.now).2.2=0→C.join n=((({ C with mas:=(C.mas.join n C.now).1 }:CluM).back n).post 16 (C.mas.join n C.now).2.1,0):=fun h=>by unfold CluM.join;dsimp only;rw[if_neg ybw]
 refine xjp ?_
 refine CD (ts 0 9 (.only 9 (ts 10 5 .nil))) ym yr ?_
 refine xgc ?_
 refine AG (AQ 0 rfl (fun Fr w hF hs hS=>vjoin_spec Fr w ok.mas n C.now) rfl rfl ych ?_ ?_)
 ·rintro _ _ ⟨X,a,c,hX,rfl,rfl⟩
  exact yu
 rintro _ _ ⟨X,a,c,hX,rfl,rfl⟩
 generalize C.mas.join n C.now=J at hjb hjf hr0 hr1 hX
 obtain⟨m,S,er⟩:=J
 dsimp only at hjb hjf hr0 hr1 hX ⊢
 obtain⟨fw,okm⟩:=hjf
 refine xgc ?_
 refine xjp ?_
 refine VC.condNE rfl (fun k1=>?_) (fun k1=>CK ?_)
 ·refine xjp ?_
  exact CR (Ret.tmp 4 rfl rfl (mas_shut (p:=p) (C:=C) (m:=m) (l:=C.lnk) (a:=a) (c:=c) (X:=X) (R:=[]) fit).ent ⟨by rw[hr0 k1],by rw[hr0 k1,hjb k1]⟩)
 have hr:=hr1 ycf
 refine CS (CS (CG ?_))
 refine xjp ?_
 refine VG (VV (fun Fr w hF hw hS=>up_spec Fr w fit (hS.blk 1 rfl) (hS.blk 3 rfl) n) rfl ?_)
 refine xjp ?_
 have hbk:({ C with mas:=m }:CluM).back n=if C.upE n=61 then (({ C with mas:=m }:CluM).setNode n (some (takeR (newR C.conf n true) 16 (cfgF m.ch) m.ch.ms C.now).1)).post n (ofS (takeR (newR C.conf n true) 16 (cfgF m.ch) m.ch.ms C.now).2) else ({ C with mas:=m }:CluM):=rfl
 refine CE rfl (fun h61=>?_) (fun h61=>CK ?_)
 rotate_left
 ·rw[hbk,if_neg h61] at hr
  refine CS (CG ?_)
  refine xjp ?_
  refine VG (VQ 5 rfl (fun Fr w hF hs hS=>usend_spec Fr w (hS.blk 1 rfl) ok.lnk 16 (SdIn.at_ 0 hS rfl hX fw)) rfl (ψ:=fun v H=>v=.tuple #[]∧H=lnkH y.lp (postL 16 C.lnk (X.map Prod.fst))) yy ?_)
  rintro _ _ ⟨rfl,rfl⟩
  rw[hX]
  refine xjp ?_
  exact CR (Ret.tmp 4 rfl rfl (mas_shut (p:=p) (C:=C) (m:=m) (l:=postL 16 C.lnk S) (a:=a) (c:=c) (X:=X) (R:=[]) fit).ent ⟨by rw[hr],by rw[hr];rfl⟩)
 rw[hbk,if_pos h61] at hr
 obtain⟨k,rfl,hk,hkn⟩:∃k:Nat,n=k∧k<y.nr.length∧y.nr[k]?=some none:=by
  have hu:=h61
  unfold CluM.upE at hu
  split at hu
  ·cases hu
  ·rename_i h1
   split at hu
   ·rename_i h2
    have hk:n.toNat<y.nr.length:=by omega
    have en:n=(n.toNat:Int):=by omega
    have hz:y.nr[n.toNat]?=some y.nr[n.toNat]:=GE hk
    refine⟨n.toNat,en,hk,?_⟩
    have:=(node_at fit hz).1
    rw[←en] at this
    rw[this] at h2
    rw[hz]
    cases hq:y.nr[n.toNat] with
    | none=>rfl
    | some v=>rw[hq] at h2;cases h2
   ·cases hu
 have hnl:=ok.nl
 have hnb:=conf_bounds ok.cf
 have hok:newOkB C.conf (k:Int):=⟨ok.cf,by omega,by omega⟩
 have hfit:=newR_fit ok.cf (k:Int) true
 have hlast:(newR C.conf (k:Int) true).rds.last=0:=by
  unfold newR;split
  ·rfl
  split<;>rfl
 have hml:=okm.ml
 have hei:(cfgF m.ch).entry.index=0:=rfl
 refine xds ?_
 refine VG (VL 1 (C.conf.cells y.qa y.qc) rfl rfl rfl rfl ?_)
 refine xds ?_
 refine VG (VK (Lc:=[]) (fun Fr w hF hw hS=>Rep.new_spec Fr w C.conf y.qa y.qc (ints_sl (hS.at_ 2 rfl)) trivial fit.qc k true) rfl rfl ?_)
 intro v L hv
 rw[if_pos hok] at hv
 obtain⟨q,rfl,rfl⟩:=hv
 generalize newR C.conf (k:Int) true=r0 at hfit hlast hr
 have fw2:FewS (ofS (takeR r0 16 (cfgF m.ch) m.ch.ms C.now).2):=FewS.of (by have:=take_few hfit 16 (cfgF m.ch) m.ch.ms C.now;omega)
 have okl2:=LnkM.Ok.postL (k:Int) (ofS (takeR r0 16 (cfgF m.ch) m.ch.ms C.now).2) ok.lnk
 refine xjp ?_
 refine xdt ?_
 refine xea ?_
 refine VG (VO.st 4 (cs':=flat nodC (y.nr.set k (some (q,r0)))++y.nx) rfl rfl rfl rfl yck (nod_store (some (q,r0)) hk y.nx) rfl ?_)
 refine xjp ?_
 refine xdt ?_
 refine VG (VK (Lc:=[]) (fun Fr w hF hw hS=>vchain_spec Fr w okm (((hS.at_ 1 rfl).sep).at_ 0 rfl)) rfl rfl ?_)
 rintro _ _ ⟨ma,mc,rfl,rfl⟩
 refine xjp ?_
 refine VG (VI (LB (pv:=[(0,.int .i64 8),(11,.agg (m.ch.cells ma mc).toArray)]) ((cfgF m.ch).cells (ma,m.ch.ms.length,mc)) rfl rfl rfl ym rfl) ?_)
 refine VG (VO.alloc rfl fun fb=>?_)
 refine VG (VT (vs:=(cfgF m.ch).cells (ma,m.ch.ms.length,mc)) (cs':=(cfgF m.ch).cells (ma,m.ch.ms.length,mc)) 0 rfl rfl rfl rfl (NR _) rfl rfl rfl ?_)
 refine xjp ?_
 refine CD (ts 0 8 (.only 8 (.only 9 .nil))) ym yr ?_
 refine xfg ?_
 refine AG (VA.ldA 0 ((cfgF m.ch).cells (ma,m.ch.ms.length,mc)) rfl rfl rfl rfl rfl ?_)
 refine xfg ?_
 refine AG (AQ 2 rfl (fun Fr w hF hs hS=>vtake_spec Fr w hfit yd 16 (cfgF m.ch) (RwIn.slH memC_len (hS.at_ 1 rfl)) yd C.now yd yd) rfl rfl ych ?_ ?_)
 ·rintro _ _ ⟨X2,a2,c2,hX2,rfl,rfl⟩
  exact ycl
 rintro _ _ ⟨X2,a2,c2,hX2,rfl,rfl⟩
 generalize takeR r0 16 (cfgF m.ch) m.ch.ms C.now=T at hr fw2 okl2 hX2
 refine AG (AQ 8 rfl (fun Fr w hF hs hS=>usend_spec Fr w (hS.blk 4 rfl) ok.lnk k (SdIn.at_ 2 hS rfl hX2 fw2)) rfl rfl (ψ:=fun v H=>v=.tuple #[]∧H=lnkH y.lp (postL k C.lnk (X2.map Prod.fst))) yy ?_ ?_)
 ·rintro _ _ ⟨rfl,rfl⟩
  exact ycl
 rintro _ _ ⟨rfl,rfl⟩
 rw[hX2]
 refine zou ?_
 refine VG (VQ 8 rfl (fun Fr w hF hs hS=>usend_spec Fr w (hS.blk 4 rfl) okl2 16 (SdIn.at_ 3 hS rfl hX fw)) rfl (ψ:=fun v H=>v=.tuple #[]∧H=lnkH y.lp (postL 16 (postL k C.lnk (ofS T.2)) (X.map Prod.fst))) yy ?_)
 rintro _ _ ⟨rfl,rfl⟩
 rw[hX]
 refine xjp ?_
 exact CR (Ret.tmp 4 rfl rfl (Imp.trans (Imp.tail (H:=pt fb _ frT)) (Imp.trans (Imp.tail (H:=slH memT 2 ma _ mc _)) (join_shut (p:=p) (C:=C) (r:=r0) (r':=T.1) (m:=m) (l:=postL 16 (postL k C.lnk (ofS T.2)) S) (a:=a2) (c:=c2) (X:=X2) (a':=a) (c':=c) (X':=X) fit hk))).ent ⟨by rw[hr],by rw[hr];rfl⟩)
end
end Cl
namespace Cl
open Go Vg T Api Ch Rep Conf Lg Rd
attribute [local irreducible] VO VC VA
theorem zip_succ{α β:Type}(f:β→α×Nat→β)(x:β){l:List α}{k:Nat}{a:α}(h:l[k]?=some a):(l.zipIdx.take (k+1)).foldl f x=f ((l.zipIdx.take k).foldl f x) (a,k):=by
 have:l.zipIdx[k]?=some (a,k):=by rw[List.getElem?_zipIdx,h];simp
 rw[List.take_add_one,this,List.foldl_append]
 rfl
theorem zip_all{α β:Type}(f:β→α×Nat→β)(x:β)(l:List α):(l.zipIdx.take l.length).foldl f x=l.zipIdx.foldl f x:=by
 rw[List.take_of_length_le (by rw[List.length_zipIdx];exact NR _)]
section
variable {p:Nat} {C:CluM} {b e:Nat}
theorem ubehind_spec(ok:C.Ok b e)(he:e<1000000):Tri Tryz.prog 50 [.pointer (some ⟨p,0,none⟩)] Fr w [cluH p C]
  (fun v L=>v=.tuple #[]∧L=[cluH p C.behind]):=by
 have hcl:=ok.clis
 have hnd:=ok.nods
 have hev:=ok.ev
 have hdn:=ok.dn
 refine TF 115 Tryz.func50 rfl ym tabOk rfl rfl ?_
 refine xnh ?_
 rintro y fit
 refine xni ?_
 have hln:=cli_len fit
 have hnn:=node_len fit
 refine xdf ?_
 refine VC.loop (σ:=Nat) (fun k=>[(0,pV p),(17,.slice (some ⟨y.cb,0,none⟩) y.cr.length y.cc),(18,.int .i64 y.cr.length),(19,.int .i64 (k:Int))])
  (fun k=>cluL p ({ C with his:=(C.clis.zipIdx.take k).foldl endH C.his }:CluM) y) (fun k=>k≤y.cr.length) (fun k=>y.cr.length-k) 0
  (Nat.zero_le _) sbZ ER ?_
 rintro k hk0
 have hH:=CluM.Ok.endHs ok.his (C.clis.zipIdx.take k) (by rw[List.length_take,List.length_zipIdx];omega)
 rw[List.length_take,List.length_zipIdx] at hH
 obtain⟨okh,-,hhe⟩:=hH
 refine xjp ?_
 refine CP (p:=(k:Int)<y.cr.length) rfl (fun h1=>CK ?_) (fun h1=>CX ?_)
 ·have hkl:k<y.cr.length:=by omega
  have hx2:y.cr[k]?=some y.cr[k]:=GE hkl
  generalize y.cr[k]=z at hx2
  obtain⟨q,s⟩:=z
  obtain⟨hnx,hns⟩:=cli_at fit (k:=k) (x:=(q,s)) hx2
  have hm:s∈C.clis:=ME hns
  have hsu:=zip_succ endH C.his hns
  generalize (C.clis.zipIdx.take k).foldl endH C.his=H at okh hhe hsu
  have hcp:(y.cr.map cliP)[k]?=some (cliH q s):=by rw[List.getElem?_map,hx2];rfl
  refine zov ?_
  refine VG (VO.load rfl rfl (RdL.one 4 rfl (cli_cell hx2)) ?_)
  refine xjp ?_
  refine VG (VV (fun Fr w hF hw hS=>voutcome_spec Fr w (ok.cok s hm) (((hS.at_ 9 rfl).sep).at_ k hcp)) rfl ?_)
  unfold outV
  generalize ho:s.outcome=o
  refine xjp ?_
  refine VG (VO.alloc rfl fun ob=>?_)
  refine VG (VT (vs:=outC (o.getD outZ')) (cs':=outC (o.getD outZ')) 0 rfl rfl rfl rfl (NR _) rfl rfl rfl ?_)
  refine xjp ?_
  cases o with
  | none=>
   have e1:endH H (s,k)=H:=by unfold endH;dsimp only;rw[ho]
   refine xdy ?_
   refine zom ?_
   exact xnn
  | some o=>
   have e1:endH H (s,k)=H.end_ k s.seq o:=by unfold endH;dsimp only;rw[ho]
   refine xdz ?_
   refine CD (ts 0 6 (ts 7 1 (.only 6 (.only 8 .nil)))) ym yr ?_
   refine xgc ?_
   refine AG (VA.ldA 0 (outC o) rfl rfl rfl rfl rfl ?_)
   refine AG (AR (fun Fr w hF hw hS=>vseq_spec Fr w (ok.cok s hm) (((hS.at_ 10 rfl).sep).at_ k hcp)) rfl rfl ycm ?_)
   refine AG (AQ 7 rfl (fun Fr w hF hs hS=>hend_spec Fr w okh yd k s.seq o) rfl rfl (ψ:=fun v K=>v=.int .i64 (H.endE k s.seq o)∧K=hisH y.hp (H.end_ k s.seq o)) yy ?_ ?_)
   ·rintro _ _ ⟨rfl,rfl⟩
    exact ycm
   rintro _ _ ⟨rfl,rfl⟩
   refine xjs ?_
   refine zom ?_
   exact xnn
 have hkn:k=C.clis.length:=by omega
 subst hkn
 rw[zip_all]
 generalize hH2:C.clis.zipIdx.foldl endH C.his=H
 clear okh hhe
 refine xdf ?_
 refine VC.loop (σ:=Nat×Option Addr×Nat) (fun s=>[(0,pV p),(43,.slice (some ⟨y.nb,0,none⟩) y.nr.length y.nc),(44,.int .i64 y.nr.length),(45,.int .i64 (s.1:Int))])
  (fun s=>cluL p ({ C with his:=H,done:=(C.nodes.zipIdx.take s.1).foldl doneN C.done }:CluM) { y with da:=s.2.1,dc:=s.2.2 }) (fun s=>s.1≤y.nr.length) (fun s=>y.nr.length-s.1) (0,y.da,y.dc)
  (Nat.zero_le _) sbZ ER ?_
 rintro⟨k,da,dc⟩ hk0
 dsimp only at hk0
 have hdk:((C.nodes.zipIdx.take k).foldl doneN C.done).length≤4096:=CluM.Ok.doneNs hdn fun x hx r hr=>ok.fit r (by
  have:=List.mem_zipIdx' (x:=x.1) (i:=x.2) (List.mem_of_mem_take hx)
  rw[←hr]
  exact ME (by rw[GE this.1,←this.2]))
 refine xjp ?_
 refine CP (p:=(k:Int)<y.nr.length) rfl (fun h1=>CK ?_) (fun h1=>CX ?_)
 rotate_left
 ·have hkn:k=C.nodes.length:=by omega
  subst hkn
  have hfin:C.behind=({ C with his:=H,done:=(C.nodes.zipIdx.take C.nodes.length).foldl doneN C.done }:CluM):=by rw[zip_all,←hH2];rfl
  exact Ret.void rfl (clu_shut (p:=p) (C:=({ C with his:=H,done:=(C.nodes.zipIdx.take C.nodes.length).foldl doneN C.done }:CluM)) (y:={ y with da:=da,dc:=dc }) (R:=[]) ⟨fit.nr,fit.cr,fit.qc⟩).ent ⟨rfl,by rw[hfin]⟩
 have hkl:k<y.nr.length:=by omega
 have hx2:y.nr[k]?=some y.nr[k]:=GE hkl
 generalize y.nr[k]=z at hx2
 obtain⟨hnx,hns⟩:=node_at fit (k:=k) (x:=z) hx2
 have hsu:=zip_succ doneN C.done hns
 generalize (C.nodes.zipIdx.take k).foldl doneN C.done=d at hdk hsu
 refine CS (VC.meetS (σ:=Option Addr×Nat) (fun _=>[(0,pV p),(43,.slice (some ⟨y.nb,0,none⟩) y.nr.length y.nc),(44,.int .i64 y.nr.length),(45,.int .i64 (k:Int))])
  (fun s=>cluL p ({ C with his:=H,done:=(C.nodes.zipIdx.take (k+1)).foldl doneN C.done }:CluM) { y with da:=s.1,dc:=s.2 }) (fun _=>True) ?_ ?_)
 rotate_left
 ·rintro⟨da',dc'⟩ -
  refine zom ?_
  exact⟨(k+1,da',dc'),by dsimp only;omega,by dsimp only;omega,SC rfl (SC rfl (SC rfl (Sub.int rfl yd (SN _)))),ER⟩
 have stay:doneN d (z.map Prod.snd,k)=d→cluL p ({ C with his:=H,done:=(C.nodes.zipIdx.take (k+1)).foldl doneN C.done }:CluM) { y with da:=da,dc:=dc }=cluL p ({ C with his:=H,done:=d }:CluM) { y with da:=da,dc:=dc }:=fun h=>by rw[hsu,h]
 refine zov ?_
 refine VG (VO.load rfl rfl (RdL.one 3 rfl (nod_cell hx2)) ?_)
 cases z with
 | none=>
  refine xjp ?_
  refine VG (VY 52 true rfl rfl ?_)
  refine zol ?_
  refine CX ?_
  exact⟨(da,dc),trivial,sbZ,by dsimp only;rw[stay rfl];exact ER⟩
 | some z=>
 obtain⟨q,r⟩:=z
 have hm:some r∈C.nodes:=ME hns
 have okr:=(ok.fit r hm).ok
 have hcp:(y.nr.map nodP)[k]?=some (repH q r):=by rw[List.getElem?_map,hx2];rfl
 have hdN:doneN d (some r,k)=if r.since=0∨r.ch.ms.length=0∨lastMem r.ch.ms≠k∨r.win.done≤d.length then d else d++(r.log.take r.win.done.toNat).drop d.length:=rfl
 show VO _ _ _ _ (putE (some 49) (.pointer (some ⟨q,0,none⟩)) _) _ _
 refine xjp ?_
 refine VG (VY 52 false rfl rfl ?_)
 refine xjq ?_
 refine VG (VV (fun Fr w hF hw hS=>rsince_spec Fr w (((hS.at_ 8 rfl).sep).at_ k hcp)) rfl ?_)
 refine xjp ?_
 refine CP (p:=r.since=0) rfl (fun k1=>?_) (fun k1=>CK ?_)
 ·refine CX ?_
  exact⟨(da,dc),trivial,sbZ,by dsimp only;rw[stay (by show doneN d (some r,k)=d;rw[hdN,if_pos (.inl k1)])];exact ER⟩
 refine xjp ?_
 refine VG (VK (Lc:=[]) (fun Fr w hF hw hS=>Rep.chain_spec Fr w okr (((hS.at_ 8 rfl).sep).at_ k hcp)) rfl rfl ?_)
 rintro _ _ ⟨ma,mc,rfl,rfl⟩
 refine VO.opn 0 rfl (HOpn.rl memT ma mc r.ch.ms memC_len) ?_
 rintro⟨ra,rc,rb,rcs,rxs⟩ ⟨rok,rv,rx⟩
 dsimp only at rx
 subst rx
 injection rv with e1 _ e3
 subst e1 e3
 refine xjp ?_
 refine VG (VI (light_fld (v:=.slice ra r.ch.ms.length rc) Tryz.underlying74 rfl rfl (fun w=>part1 (TabOk.look tabOk (t:=72) (ti:=T.t72) rfl) rfl rfl w)) ?_)
 refine xjp ?_
 by_cases k2:r.ch.ms.length=0
 ·refine VG (VY 63 true rfl (DT yd) ?_)
  refine zol ?_
  refine CX ?_
  exact⟨(da,dc),trivial,sbZ,by dsimp only;rw[stay (by show doneN d (some r,k)=d;rw[hdN,if_pos (.inr (.inl k2))])];exact Imp.tail.ent⟩
 have hml:=okr.ch.len
 have hlm:r.ch.ms[r.ch.ms.length-1]?=some r.ch.ms[r.ch.ms.length-1]:=GE yd
 generalize r.ch.ms[r.ch.ms.length-1]=lm at hlm
 have hlq:lastMem r.ch.ms=lm.1:=by unfold lastMem;rw[List.getLast?_eq_getElem?,hlm]
 obtain⟨tb,tof,htb,hta,hrd⟩:=RL.Ok.ld (t:=memT) (k:=r.ch.ms.length-1) (x:=lm) rok hlm (memC_len lm)
 dsimp only at hta
 subst hta
 refine VG (VY 63 false rfl (DF yd) ?_)
 refine xjq ?_
 refine xed ?_
 rw[show((r.ch.ms.length:Int)-1)=((r.ch.ms.length-1:Nat):Int) by omega]
 refine VG (VI (light_idx (r.ch.ms.length-1) rfl rfl rfl rfl rfl rfl yd) ?_)
 refine xjp ?_
 refine VG (VO.load rfl rfl ((hrd 0 rfl).2 _ 0 (.int .i64 lm.1) rfl rfl) ?_)
 refine xjp ?_
 refine VC.condNE rfl (fun k3=>?_) (fun k3=>CK ?_)
 ·refine CX ?_
  exact⟨(da,dc),trivial,sbZ,by dsimp only;rw[stay (by show doneN d (some r,k)=d;rw[hdN,if_pos (.inr (.inr (.inl (by rw[hlq];exact k3))))])];exact Imp.tail.ent⟩
 refine xjp ?_
 refine VG (VK (Lc:=[]) (fun Fr w hF hw hS=>window_spec Fr w okr (((hS.at_ 9 rfl).sep).at_ k hcp)) rfl rfl ?_)
 rintro _ _ ⟨wq,rfl,rfl⟩
 refine VG (VV (fun Fr w hF hw hS=>Win.done_spec Fr w (hS.blk 0 rfl) okr.win.cap0) rfl ?_)
 refine xjp ?_
 refine xdt ?_
 refine CP (p:=r.win.done≤(d.length:Int)) rfl (fun k4=>?_) (fun k4=>CK ?_)
 ·refine CX ?_
  exact⟨(da,dc),trivial,sbZ,by dsimp only;rw[stay (by show doneN d (some r,k)=d;rw[hdN,if_pos (.inr (.inr (.inr k4)))])];exact(Imp.trans Imp.tail Imp.tail).ent⟩
 have hd1:=okr.win.done1
 have hd2:=okr.last
 have hd3:=okr.win.last1
 have hdE:doneN d (some r,k)=d++(r.log.drop d.length).take (r.win.done.toNat-d.length):=by
  rw[hdN,if_neg (by rw[hlq];omega),List.drop_take]
 refine xjp ?_
 refine VG (VK (Lc:=[]) (fun Fr w hF hw hS=>log_spec Fr w okr (((hS.at_ 10 rfl).sep).at_ k hcp)) rfl rfl ?_)
 rintro _ _ ⟨lq,rfl,rfl⟩
 refine xjp ?_
 refine xmf ?_
 refine VG (VP rfl rfl ybb ybb ?_)
 refine xjp ?_
 refine VC.loop (σ:=Nat×Option Addr×Nat) (fun s=>[(0,pV p),(9,.int .i64 r.win.done),(10,pV lq),(11,.int .i64 ((d.length:Int)+1+(s.1:Int))),(43,.slice (some ⟨y.nb,0,none⟩) y.nr.length y.nc),(44,.int .i64 y.nr.length),(45,.int .i64 (k:Int))])
  (fun s=>logH lq r.log::cluL p ({ C with his:=H,done:=d++(r.log.drop d.length).take s.1 }:CluM) { y with da:=s.2.1,dc:=s.2.2 }) (fun s=>(d.length:Int)+s.1≤r.win.done) (fun s=>(r.win.done-d.length).toNat-s.1) (0,da,dc)
  ybb (SC rfl (SC rfl (SC rfl (Sub.int rfl ybb sbZ)))) (by dsimp only;rw[List.take_zero,List.append_nil];exact(Imp.cons (Imp.trans Imp.tail Imp.tail)).ent) ?_
 rintro⟨j,da',dc'⟩ hj
 dsimp only at hj ⊢
 refine xjp ?_
 refine CP (p:=(d.length:Int)+1+j≤r.win.done) rfl (fun k5=>CK ?_) (fun k5=>CX ?_)
 rotate_left
 ·have hjj:j=r.win.done.toNat-d.length:=by omega
  subst hjj
  exact⟨(da',dc'),trivial,sbZ,by dsimp only;rw[hsu];show Ent _ _ (cluL p ({ C with his:=H,done:=doneN d (some r,k) }:CluM) _);rw[hdE];exact Imp.tail.ent⟩
 have hle:r.log[d.length+j]?=some r.log[d.length+j]:=GE yd
 generalize r.log[d.length+j]=e0 at hle
 have hat:atI r.log ((d.length:Int)+1+j)=some e0:=by
  unfold atI
  rw[if_pos yd,←hle]
  congr 1
  omega
 have htk:d++(r.log.drop d.length).take (j+1)=(d++(r.log.drop d.length).take j) ++ [e0]:=by
  rw[List.take_add_one,List.getElem?_drop,hle,List.append_assoc]
  rfl
 have hDl:(d++(r.log.drop d.length).take j).length≤10000:=by
  rw[List.length_append,List.length_take,List.length_drop];omega
 generalize hDD:d++(r.log.drop d.length).take j=D at htk hDl
 refine xjp ?_
 refine VG (VV (fun Fr w hF hw hS=>Lg.at_spec Fr w (hS.at_ 0 rfl) ((d.length:Int)+1+j) yd yd) rfl ?_)
 rw[hat]
 refine xjp ?_
 refine VG (VO.alloc rfl fun eb=>?_)
 refine VG (VT (vs:=entC e0) (cs':=entC e0) 0 rfl rfl rfl rfl (NR _) rfl rfl rfl ?_)
 refine zow ?_
 refine CD (ts 0 6 (.only 6 (.only 7 (ts 8 2 (.only 10 .nil))))) ym yr ?_
 refine xgd ?_
 refine AG (VA.ldA 0 (entC e0) rfl rfl rfl rfl rfl ?_)
 refine AG (AO (OpT.buildSlice (n:=1) (pv:=[(0,.agg (entC e0).toArray)]) (cells:=entC e0) rfl rfl rfl rfl yo (fill_one rfl rfl rfl)) rfl (fun v L' g=>by obtain⟨nb,rfl,rfl⟩:=g;exact(by(try refine Pd.st ?_);(repeat(first|exact Pd.nil|exact Pd.fnil|refine Pd.inner ?_|refine Pd.skip yr ?_|refine zf (zo 0 rfl rfl) ?_|refine zf (zo 1 rfl rfl) ?_|refine zf (zo 2 rfl rfl) ?_|refine zf (zo 3 rfl rfl) ?_|refine zf (zm 0 rfl rfl) ?_|refine zf (zm 1 rfl rfl) ?_|refine zf (zm 2 rfl rfl) ?_|refine zf (zm 3 rfl rfl) ?_|refine zf (RdL.blk (RdL.many 1 rfl rfl) rfl) ?_|refine zf ((RdL.many 1 rfl rfl)) ?_|refine zc (zo 0 rfl rfl) ?_|refine zc (zo 1 rfl rfl) ?_|refine zc (zo 2 rfl rfl) ?_|refine zc (zo 3 rfl rfl) ?_|refine zc (zm 0 rfl rfl) ?_|refine zc (zm 1 rfl rfl) ?_|refine zc (zm 2 rfl rfl) ?_|refine zc (zm 3 rfl rfl) ?_|refine zc (RdL.blk (RdL.many 1 rfl rfl) rfl) ?_|refine zc ((RdL.many 1 rfl rfl)) ?_)))) ?_)
 rintro _ _ ⟨nb,rfl,rfl⟩
 refine AG (AO (OpT.append (m:=1) (news:=entC e0) 10 rfl rfl rfl rfl rfl rfl rfl (RdRow.pt 0 rfl rfl rfl) rfl (few_bytes (k:=20000) ybb yo) ybb) rfl (fun v L' g=>by obtain⟨a2,c2,rfl,hc2,rfl⟩:=g;exact ycn) ?_)
 rintro _ _ ⟨a2,c2,rfl,hc2,rfl⟩
 refine xfg ?_
 refine AG (VA.st 4 (cs':=cluC ({ C with his:=H,done:=D ++ [e0] }:CluM) { y with da:=a2,dc:=c2 }) rfl rfl rfl rfl rfl (by show 18<19;omega) (by unfold cluC;dsimp only;rw[List.length_append];rfl) rfl ycn ?_)
 refine xjs ?_
 refine zom ?_
 refine⟨(j+1,a2,c2),by dsimp only;omega,by dsimp only;omega,SC rfl (SC rfl (SC rfl (Sub.int rfl yd sbZ))),?_⟩
 dsimp only
 rw[htk]
 refine Imp.ent ?_
 refine IP 3 rfl (IP 3 rfl (IP 3 rfl (IP 3 rfl (IP 3 rfl (IP 3 rfl (IP 3 rfl (IP 3 rfl ?_)))))))
 rw[flat_append,List.length_append]
 exact(pkZ [0,2,2])
end
end Cl
namespace Cl
open Go Vg T Api Ch Rep Conf Lg Rd
attribute [local irreducible] VO VC VA
theorem st_1(C:CluM){s:StpM}(h:s.kind=1):C.step s=C.call s:=by
 unfold CluM.step
 rw[if_pos h]
theorem st_2(C:CluM){s:StpM}(h:s.kind=2):C.step s=match C.node s.a with
  | none=>(C,C.upE s.a)
  | some r=>((C.setNode s.a (some (stepR r C.now).1)).post s.a (ofS (stepR r C.now).2),0):=by
 unfold CluM.step
 rw[if_neg ybw,if_pos h]<;>rfl
theorem st_3(C:CluM){s:StpM}(h:s.kind=3):C.step s=(C.tick,0):=by
 unfold CluM.step
 rw[if_neg ybw,if_neg ybw,if_pos h]
theorem st_4(C:CluM){s:StpM}(h:s.kind=4):C.step s=C.deliver (s.a,s.b) s.c:=by
 unfold CluM.step
 rw[if_neg ybw,if_neg ybw,if_neg ybw,if_pos h]
theorem st_5(C:CluM){s:StpM}(h:s.kind=5):C.step s=({ C with lnk:=(C.lnk.drop (s.a,s.b) s.c).1 },(C.lnk.drop (s.a,s.b) s.c).2):=by
 unfold CluM.step
 rw[if_neg ybw,if_neg ybw,if_neg ybw,if_neg ybw,if_pos h]
theorem st_6(C:CluM){s:StpM}(h:s.kind=6):C.step s=({ C with lnk:=(C.lnk.double (s.a,s.b) s.c).1 },(C.lnk.double (s.a,s.b) s.c).2):=by
 unfold CluM.step
 rw[if_neg ybw,if_neg ybw,if_neg ybw,if_neg ybw,if_neg ybw,if_pos h]
theorem st_7(C:CluM){s:StpM}(h:s.kind=7):C.step s=if C.upE s.a≠0 then (C,C.upE s.a) else (C.setNode s.a none,0):=by
 unfold CluM.step
 rw[if_neg ybw,if_neg ybw,if_neg ybw,if_neg ybw,if_neg ybw,if_neg ybw,if_pos h]
theorem st_8(C:CluM){s:StpM}(h:s.kind=8):C.step s=(({ C with mas:=(C.mas.suspect s.a).1 }:CluM).post 16 (C.mas.suspect s.a).2.1,(C.mas.suspect s.a).2.2):=by
 unfold CluM.step
 rw[if_neg ybw,if_neg ybw,if_neg ybw,if_neg ybw,if_neg ybw,if_neg ybw,if_neg ybw,if_pos h]
theorem st_9(C:CluM){s:StpM}(h:s.kind=9):C.step s=C.join s.a:=by
 unfold CluM.step
 rw[if_neg ybw,if_neg ybw,if_neg ybw,if_neg ybw,if_neg ybw,if_neg ybw,if_neg ybw,if_neg ybw,if_pos h]
theorem st_10(C:CluM){s:StpM}(h:s.kind=10):C.step s=(({ C with mas:=(C.mas.drain s.a).1 }:CluM).post 16 (C.mas.drain s.a).2.1,(C.mas.drain s.a).2.2):=by
 unfold CluM.step
 rw[if_neg ybw,if_neg ybw,if_neg ybw,if_neg ybw,if_neg ybw,if_neg ybw,if_neg ybw,if_neg ybw,if_neg ybw,if_pos h]
theorem st_11(C:CluM){s:StpM}(h:s.kind=11):C.step s=(({ C with mas:=(C.mas.tick C.now).1 }:CluM).post 16 (C.mas.tick C.now).2,0):=by
 unfold CluM.step
 rw[if_neg ybw,if_neg ybw,if_neg ybw,if_neg ybw,if_neg ybw,if_neg ybw,if_neg ybw,if_neg ybw,if_neg ybw,if_neg ybw,if_pos h]
theorem st_no(C:CluM){s:StpM}(h:∀k:Nat,1≤k→k≤11→s.kind≠k):C.step s=(C,2):=by
 unfold CluM.step
 rw[if_neg (show ¬s.kind=1 from h 1 yo yo),if_neg (show ¬s.kind=2 from h 2 yo yo),if_neg (show ¬s.kind=3 from h 3 yo yo),if_neg (show ¬s.kind=4 from h 4 yo yo),if_neg (show ¬s.kind=5 from h 5 yo yo),if_neg (show ¬s.kind=6 from h 6 yo yo),if_neg (show ¬s.kind=7 from h 7 yo yo),if_neg (show ¬s.kind=8 from h 8 yo yo),if_neg (show ¬s.kind=9 from h 9 yo yo),if_neg (show ¬s.kind=10 from h 10 yo yo),if_neg (show ¬s.kind=11 from h 11 yo yo)]
theorem up_0{C:CluM}{n:Int}(h:C.upE n=0):∃(k:Nat) (r:RepM),n=k∧C.nodes[k]?=some (some r)∧C.node n=some r:=by
 unfold CluM.upE at h
 split at h
 ·cases h
 ·rename_i h1
  split at h
  ·cases h
  ·rename_i h2
   cases hn:C.node n with
   | none=>rw[hn] at h2;exact absurd rfl h2
   | some r=>
    refine⟨n.toNat,r,by omega,?_,rfl⟩
    unfold CluM.node at hn
    rw[if_neg yd] at hn
    cases hx:C.nodes[n.toNat]? with
    | none=>rw[hx] at hn;cases hn
    | some x=>rw[hx] at hn;obtain rfl:x=some r:=hn;rfl
theorem up_ne{C:CluM}{n:Int}(h:C.upE n≠0):C.node n=none:=by
 unfold CluM.upE at h
 split at h
 ·rename_i h1
  unfold CluM.node
  split
  ·rfl
  ·rw[List.getElem?_eq_none yd];rfl
 ·split at h
  ·rename_i h2
   cases hn:C.node n with
   | none=>rfl
   | some r=>rw[hn] at h2;cases h2
  ·exact absurd rfl h
section
variable {p:Nat} {C:CluM} {y:CluS} {b e:Nat}
theorem node_of(fit:CluFit C y){k:Nat}{r:RepM}(h:C.nodes[k]?=some (some r)):∃q,y.nr[k]?=some (some (q,r)):=by
 rw[←fit.nr,List.getElem?_map] at h
 cases hz:y.nr[k]? with
 | none=>rw[hz] at h;cases h
 | some z=>
  rw[hz] at h
  cases z with
  | none=>cases h
  | some z=>cases h;exact⟨z.1,rfl⟩
theorem crash_shut(fit:CluFit C y){k:Nat}(hk:k<y.nr.length){R:List HP}:Imp ([pt p (cluC C y) cluT,intH y.qa y.qc C.conf.qs,masH y.mp C.mas,pt y.nb (flat nodC (y.nr.set k none)++y.nx) rpT,pt y.cb (flat cliV y.cr++y.cx) cpT,lnkH y.lp C.lnk,hisH y.hp C.his,slH entT 7 y.da C.done.length y.dc (flat entC C.done),hsep (y.nr.map nodP),hsep (y.cr.map cliP)]++R) [cluH p (C.setNode k none)]:=by
 have hz:y.nr[k]?=some y.nr[k]:=GE hk
 have e1:=node_cells (C:=C) (y:=y) (k:=k) (x:=none) (C.setNode k none) rfl rfl rfl
 refine Imp.trans (Imp.app (M:=_) (M':=[]) (IP 8 rfl Imp.refl) Imp.nil) ?_
 refine Imp.trans (Imp.of_eq (List.append_nil _)) ?_
 refine Imp.trans (many_take (f:=nodP) hz) ?_
 refine Imp.trans Imp.tail ?_
 refine Imp.trans (M:=nodP none::hsep ((y.nr.eraseIdx k).map nodP)::_) (Imp.pure trivial Imp.refl) ?_
 refine Imp.trans (many_put (f:=nodP) hk none) ?_
 refine Imp.clu (K:=[]) (y.node k none) ⟨by show(y.nr.set k none).map _=C.nodes.set k none;rw[List.map_set,fit.nr];rfl,fit.cr,fit.qc⟩ ?_
 unfold cluL
 rw[e1]
 exact(pkZ [1,1,1,1,1,1,1,1,0,0])
theorem ustep_spec(ok:C.Ok b e)(hb:b<100000)(he:e<1000000)(s:StpM):Tri Tryz.prog 49 [.pointer (some ⟨p,0,none⟩),.agg s.cells.toArray] Fr w [cluH p C]
  (fun v L=>v=.int .i64 (C.step s).2∧L=[cluH p (C.step s).1]):=by
 refine TF 151 Tryz.func49 rfl ym tabOk rfl rfl ?_
 refine CS (CG (VG (VB (vs:=s.cells) rfl fun sb=>?_)))
 have opn:∀{c:Code} {e:Env} {Q:Exit→Env→List HP→Prop},(∀y,CluFit C y→VC ⟨Tryz.prog,tab,tabOk,151,Fr,w⟩ c e (pt sb s.cells doT::cluL p C y) Q)→VC ⟨Tryz.prog,tab,tabOk,151,Fr,w⟩ c e [pt sb s.cells doT,cluH p C] Q:=fun h=>by
  refine VC.opn 1 rfl (HOpn.clu p C) ?_
  rintro y fit
  exact CN (IP 10 rfl Imp.refl).ent (h y fit)
 refine xdf ?_
 refine CP (p:=s.kind=1) rfl (fun h=>?_) (fun h1=>?_)
 ·have hr:=st_1 C h
  refine xjp ?_
  refine xno ?_
  refine VG (VQ 1 rfl (fun Fr w hF hs hS=>ucall_spec Fr w ok hb he s) rfl (ψ:=fun v H=>v=.int .i64 (C.call s).2∧H=cluH p (C.call s).1) yy ?_)
  rintro _ _ ⟨rfl,rfl⟩
  refine xjp ?_
  exact CR (Ret.tmp 4 rfl rfl (Imp.tail (H:=pt sb _ doT) (L:=[cluH p (C.call s).1])).ent ⟨by rw[hr],by rw[hr]⟩)
 refine xjp ?_
 refine CP (p:=s.kind=2) rfl (fun h=>?_) (fun h2=>?_)
 ·have hr:=st_2 C h
  refine opn fun y fit=>?_
  refine xdf ?_
  refine xnp ?_
  refine xjp ?_
  refine VC.condNE rfl (fun k1=>?_) (fun k1=>CK ?_)
  ·rw[up_ne k1] at hr
   refine xjp ?_
   exact xnq
  obtain⟨k,r,hk,hkr,hnr⟩:=up_0 (C:=C) (n:=s.a) ycf
  obtain⟨q,hx⟩:=node_of fit hkr
  have hkl:=(List.getElem?_eq_some_iff.1 hx).1
  have hm:some r∈C.nodes:=ME hkr
  have okr:=(ok.fit r hm).ok
  have fw:FewS (ofS (stepR r C.now).2):=FewS.of (step_few okr C.now)
  rw[hnr] at hr
  dsimp only at hr
  obtain⟨kd,sa,sx,sc,op⟩:=s
  dsimp only at hk hr k1
  subst hk
  refine CN (L':=pt sb (⟨kd,k,sx,sc,op⟩:StpM).cells doT::repH q r::cnL p C y k C.lnk) (Imp.cons (node_out hx)).ent ?_
  refine CD (ts 0 15 (.only 15 (.only 16 .nil))) ym yr ?_
  refine xgd ?_
  refine AG (AI rfl (light_idx k rfl rfl rfl rfl rfl rfl hkl) ?_)
  refine AG (yE rfl rfl rfl (RdL.one 5 rfl (nod_cell hx)) ?_)
  refine xgd ?_
  refine AG (AQ 1 rfl (fun Fr w hF hs hS=>vstep_spec Fr w okr C.now) rfl rfl ych ?_ ?_)
  ·rintro _ _ ⟨X,a,c,hX,rfl,rfl⟩
   exact yco
  rintro _ _ ⟨X,a,c,hX,rfl,rfl⟩
  refine AG (AQ 7 rfl (fun Fr w hF hs hS=>usend_spec Fr w (hS.blk 2 rfl) ok.lnk k (SdIn.at_ 1 hS rfl hX fw)) rfl rfl (ψ:=fun v H=>v=.tuple #[]∧H=lnkH y.lp (postL k C.lnk (X.map Prod.fst))) yy ?_ ?_)
  ·rintro _ _ ⟨rfl,rfl⟩
   exact yco
  rintro _ _ ⟨rfl,rfl⟩
  rw[hX]
  refine zou ?_
  exact CR (Ret.tmp 4 rfl rfl (Imp.trans (Imp.tail (H:=pt sb _ doT)) (node_shut (p:=p) (r':=(stepR r C.now).1) (l:=postL k C.lnk (ofS (stepR r C.now).2)) (a:=a) (c:=c) (X:=X) (R:=[]) fit hx)).ent ⟨by rw[hr],by rw[hr];rfl⟩)
 refine xjp ?_
 refine CP (p:=s.kind=3) rfl (fun h=>?_) (fun h3=>?_)
 ·have hr:=st_3 C h
  refine xjp ?_
  refine VG (VQ 1 rfl (fun Fr w hF hs hS=>utick_spec Fr w ok) rfl (ψ:=fun v H=>v=.tuple #[]∧H=cluH p C.tick) yy ?_)
  rintro _ _ ⟨rfl,rfl⟩
  refine xjp ?_
  exact CR (Ret.tmp 4 rfl rfl (Imp.tail (H:=pt sb _ doT) (L:=[cluH p C.tick])).ent ⟨by rw[hr],by rw[hr]⟩)
 refine xjp ?_
 refine CP (p:=s.kind=11) rfl (fun h=>?_) (fun h11=>?_)
 ·have hr:=st_11 C h
  refine opn fun y fit=>?_
  refine xnr ?_
  have fw:=ok.mas.tick_few C.now
  refine CD (ts 0 9 (.only 9 (.only 10 .nil))) ym yr ?_
  refine xgd ?_
  refine AG (AQ 1 rfl (fun Fr w hF hs hS=>vmtick_spec Fr w ok.mas C.now) rfl rfl ych ?_ ?_)
  ·rintro _ _ ⟨X,a,c,hX,rfl,rfl⟩
   exact yu
  rintro _ _ ⟨X,a,c,hX,rfl,rfl⟩
  refine AG (AQ 6 rfl (fun Fr w hF hs hS=>usend_spec Fr w (hS.blk 2 rfl) ok.lnk 16 (SdIn.at_ 1 hS rfl hX fw)) rfl rfl (ψ:=fun v H=>v=.tuple #[]∧H=lnkH y.lp (postL 16 C.lnk (X.map Prod.fst))) yy ?_ ?_)
  ·rintro _ _ ⟨rfl,rfl⟩
   exact yu
  rintro _ _ ⟨rfl,rfl⟩
  rw[hX]
  refine zou ?_
  exact CR (Ret.tmp 4 rfl rfl (Imp.trans (Imp.tail (H:=pt sb _ doT)) (mas_shut (p:=p) (C:=C) (m:=(C.mas.tick C.now).1) (l:=postL 16 C.lnk (C.mas.tick C.now).2) (a:=a) (c:=c) (X:=X) (R:=[]) fit)).ent ⟨by rw[hr],by rw[hr];rfl⟩)
 refine xjp ?_
 refine CP (p:=s.kind=4) rfl (fun h=>?_) (fun h4=>?_)
 ·have hr:=st_4 C h
  refine xdf ?_
  refine VG (VQ 1 rfl (fun Fr w hF hs hS=>udeliver_spec Fr w ok yd s.a s.b s.c) rfl (ψ:=fun v H=>v=.int .i64 (C.deliver (s.a,s.b) s.c).2∧H=cluH p (C.deliver (s.a,s.b) s.c).1) yy ?_)
  rintro _ _ ⟨rfl,rfl⟩
  refine xjp ?_
  exact CR (Ret.tmp 4 rfl rfl (Imp.tail (H:=pt sb _ doT) (L:=[cluH p (C.deliver (s.a,s.b) s.c).1])).ent ⟨by rw[hr],by rw[hr]⟩)
 refine xjp ?_
 refine CP (p:=s.kind=5) rfl (fun h=>?_) (fun h5=>?_)
 ·have hr:=st_5 C h
  refine opn fun y fit=>?_
  refine xjp ?_
  refine CD (ts 0 10 (.only 10 (ts 11 1 .nil))) ym yr ?_
  refine xgc ?_
  refine AG (AQ 6 rfl (fun Fr w hF hs hS=>ldrop_spec Fr w ok.lnk s.a s.b s.c) rfl rfl (ψ:=fun v H=>v=.int .i64 (C.lnk.drop (s.a,s.b) s.c).2∧H=lnkH y.lp (C.lnk.drop (s.a,s.b) s.c).1) yy ?_ ?_)
  ·rintro _ _ ⟨rfl,rfl⟩
   exact yu
  rintro _ _ ⟨rfl,rfl⟩
  refine xgc ?_
  refine xjp ?_
  exact CR (Ret.tmp 4 rfl rfl (Imp.trans (Imp.tail (H:=pt sb _ doT)) (clu_shut (p:=p) (C:=({ C with lnk:=(C.lnk.drop (s.a,s.b) s.c).1 }:CluM)) (y:=y) (R:=[]) ⟨fit.nr,fit.cr,fit.qc⟩)).ent ⟨by rw[hr],by rw[hr]⟩)
 refine xjp ?_
 refine CP (p:=s.kind=6) rfl (fun h=>?_) (fun h6=>?_)
 ·have hr:=st_6 C h
  refine opn fun y fit=>?_
  refine xjp ?_
  refine CD (ts 0 10 (.only 10 (ts 11 1 .nil))) ym yr ?_
  refine xgc ?_
  refine AG (AQ 6 rfl (fun Fr w hF hs hS=>ldouble_spec Fr w ok.lnk s.a s.b s.c) rfl rfl (ψ:=fun v H=>v=.int .i64 (C.lnk.double (s.a,s.b) s.c).2∧H=lnkH y.lp (C.lnk.double (s.a,s.b) s.c).1) yy ?_ ?_)
  ·rintro _ _ ⟨rfl,rfl⟩
   exact yu
  rintro _ _ ⟨rfl,rfl⟩
  refine xgc ?_
  refine xjp ?_
  exact CR (Ret.tmp 4 rfl rfl (Imp.trans (Imp.tail (H:=pt sb _ doT)) (clu_shut (p:=p) (C:=({ C with lnk:=(C.lnk.double (s.a,s.b) s.c).1 }:CluM)) (y:=y) (R:=[]) ⟨fit.nr,fit.cr,fit.qc⟩)).ent ⟨by rw[hr],by rw[hr]⟩)
 refine xjp ?_
 refine CP (p:=s.kind=7) rfl (fun h=>?_) (fun h7=>?_)
 ·have hr:=st_7 C h
  refine opn fun y fit=>?_
  refine xdf ?_
  refine xnp ?_
  refine xjp ?_
  refine VC.condNE rfl (fun k1=>?_) (fun k1=>CK ?_)
  ·rw[if_pos k1] at hr
   refine xjp ?_
   exact xnq
  rw[if_neg (fun g=>g ycf)] at hr
  obtain⟨k,r,hk,hkr,hnr⟩:=up_0 (C:=C) (n:=s.a) ycf
  obtain⟨q,hx⟩:=node_of fit hkr
  have hkl:=(List.getElem?_eq_some_iff.1 hx).1
  obtain⟨kd,sa,sx,sc,op⟩:=s
  dsimp only at hk hr k1
  subst hk
  refine CD (ts 0 7 (.only 7 .nil)) ym yr ?_
  refine xgc ?_
  refine AG (AI rfl (light_idx k rfl rfl rfl rfl rfl rfl hkl) ?_)
  refine AG (VA.st 4 (cs':=flat nodC (y.nr.set k none)++y.nx) rfl rfl rfl rfl rfl yck (nod_store none hkl y.nx) rfl yu ?_)
  refine zou ?_
  exact CR (Ret.tmp 4 rfl rfl (Imp.trans (Imp.tail (H:=pt sb _ doT)) (crash_shut (p:=p) (C:=C) (R:=[]) fit hkl)).ent ⟨by rw[hr],by rw[hr]⟩)
 refine xjp ?_
 refine CP (p:=s.kind=8) rfl (fun h=>?_) (fun h8=>?_)
 ·have hr:=st_8 C h
  refine opn fun y fit=>?_
  refine xnr ?_
  have fw:=(ok.mas.suspect_few s.a).1
  refine xjp ?_
  refine CD (ts 0 6 (.only 6 (ts 7 5 .nil))) ym yr ?_
  refine xgd ?_
  refine AG (AQ 1 rfl (fun Fr w hF hs hS=>vsuspect_spec Fr w ok.mas s.a) rfl rfl ych ?_ ?_)
  ·rintro _ _ ⟨X,a,c,hX,rfl,rfl⟩
   exact yu
  rintro _ _ ⟨X,a,c,hX,rfl,rfl⟩
  refine xgd ?_
  refine xjp ?_
  refine xns ?_
  rintro _ _ ⟨rfl,rfl⟩
  rw[hX]
  refine xjp ?_
  exact CR (Ret.tmp 4 rfl rfl (Imp.trans (Imp.tail (H:=pt sb _ doT)) (mas_shut (p:=p) (C:=C) (m:=(C.mas.suspect s.a).1) (l:=postL 16 C.lnk (C.mas.suspect s.a).2.1) (a:=a) (c:=c) (X:=X) (R:=[]) fit)).ent ⟨by rw[hr],by rw[hr];rfl⟩)
 refine xjp ?_
 refine CP (p:=s.kind=9) rfl (fun h=>?_) (fun h9=>?_)
 ·have hr:=st_9 C h
  refine xdf ?_
  refine VG (VQ 1 rfl (fun Fr w hF hs hS=>ujoin_spec Fr w ok yd s.a) rfl (ψ:=fun v H=>v=.int .i64 (C.join s.a).2∧H=cluH p (C.join s.a).1) yy ?_)
  rintro _ _ ⟨rfl,rfl⟩
  refine xjp ?_
  exact CR (Ret.tmp 4 rfl rfl (Imp.tail (H:=pt sb _ doT) (L:=[cluH p (C.join s.a).1])).ent ⟨by rw[hr],by rw[hr]⟩)
 refine xjp ?_
 refine CP (p:=s.kind=10) rfl (fun h=>?_) (fun h10=>?_)
 ·have hr:=st_10 C h
  refine opn fun y fit=>?_
  refine xnr ?_
  have fw:=(ok.mas.drain_few s.a).1
  refine xjp ?_
  refine CD (ts 0 6 (.only 6 (ts 7 5 .nil))) ym yr ?_
  refine xgd ?_
  refine AG (AQ 1 rfl (fun Fr w hF hs hS=>vdrain_spec Fr w ok.mas s.a) rfl rfl ych ?_ ?_)
  ·rintro _ _ ⟨X,a,c,hX,rfl,rfl⟩
   exact yu
  rintro _ _ ⟨X,a,c,hX,rfl,rfl⟩
  refine xgd ?_
  refine xjp ?_
  refine xns ?_
  rintro _ _ ⟨rfl,rfl⟩
  rw[hX]
  refine xjp ?_
  exact CR (Ret.tmp 4 rfl rfl (Imp.trans (Imp.tail (H:=pt sb _ doT)) (mas_shut (p:=p) (C:=C) (m:=(C.mas.drain s.a).1) (l:=postL 16 C.lnk (C.mas.drain s.a).2.1) (a:=a) (c:=c) (X:=X) (R:=[]) fit)).ent ⟨by rw[hr],by rw[hr];rfl⟩)
 refine xjp ?_
 have hr:=st_no C (s:=s) (fun k k1 k2=>by
  rcases(by omega:k=1∨k=2∨k=3∨k=4∨k=5∨k=6∨k=7∨k=8∨k=9∨k=10∨k=11) with rfl | rfl | rfl | rfl | rfl | rfl | rfl | rfl | rfl | rfl | rfl<;>assumption)
 exact CR (Ret.tmp 4 rfl rfl Imp.tail.ent ⟨by rw[hr],by rw[hr]⟩)
end
end Cl
namespace Cl
open Go Vg T Api Ch Rep Conf Lg Rd Adm Sched
theorem setFs_kind:∀(os:List Nat) (ns:List Int) (f:FrameM),(setFs f os ns).kind=f.kind
 | [],_,_=>rfl
 | _::_,[],_=>rfl
 | o::os,n::ns,f=>by
  rw[setFs,setFs_kind os ns]
  unfold setF
  split<;>rfl
theorem readF_kind{f g:FrameM}{s:Bs}{ms:List MemM}(h:readF f s=some (g,ms)):g.kind=f.kind:=by
 unfold readF at h
 by_cases h1:f.kind=1
 ·rw[if_pos h1] at h
  split at h<;>cases h
  rfl
 rw[if_neg h1] at h
 by_cases h2:f.kind=2
 ·rw[if_pos h2] at h
  split at h
  ·cases h
  split at h
  ·cases h
  split at h
  ·cases h
  split at h
  ·cases h
  split at h<;>cases h
  rfl
 rw[if_neg h2] at h
 by_cases h4:f.kind=4
 ·rw[if_pos h4] at h
  split at h
  ·cases h
  split at h
  ·cases h
  split at h
  ·cases h
  split at h<;>cases h
  rfl
 rw[if_neg h4] at h
 by_cases h8:f.kind=8
 ·rw[if_pos h8] at h
  split at h<;>cases h
  rfl
 rw[if_neg h8] at h
 split at h<;>cases h
 rfl
def memL(ms:List MemM):List Int:=ms.flatMap fun m=>[m.1,m.2]
theorem memL_of:∀ms:List MemM,memsOf (memL ms)=ms
 | []=>rfl
 | m::ms=>by
  show(m.1,m.2)::memsOf (memL ms)=_
  rw[memL_of ms]
theorem memL_len:∀ms:List MemM,(memL ms).length=2*ms.length
 | []=>rfl
 | m::ms=>by
  show(memL ms).length+2=_
  rw[memL_len ms,List.length_cons];omega
theorem memL_put:∀ms:List MemM,(ms.flatMap fun m=>intB m.1++intB m.2)=(memL ms).flatMap intB
 | []=>rfl
 | m::ms=>by
  show(intB m.1++intB m.2)++(ms.flatMap fun m=>intB m.1++intB m.2)=intB m.1++(intB m.2++(memL ms).flatMap intB)
  rw[memL_put ms,List.append_assoc]
theorem getCh_put{c:ChM}(h:chE c=0):getCh (chB c)=some c:=by
 have h1:chOk c=true:=by
  unfold chE at h
  by_cases hx:chOk c=true
  ·exact hx
  ·rw[if_neg hx] at h;cases h
 have hh:=h1
 simp only[chOk,headOk,drainOk,Bool.and_eq_true,Bool.or_eq_true,decide_eq_true_eq,List.all_eq_true,List.mem_range] at hh
 obtain⟨⟨a1,a2,a3,a4⟩,b,c1⟩:=hh
 have hm:∀n∈memL c.ms,inN n=true:=fun n hn=>by
  obtain⟨m,hm,hn⟩:=List.mem_flatMap.1 hn
  obtain⟨i,hi⟩:=List.getElem?_of_mem hm
  have:=b i (List.getElem?_eq_some_iff.1 hi).1
  unfold memOk nodeB at this
  rw[hi] at this
  simp only[Bool.and_eq_true,decide_eq_true_eq] at this
  unfold inN
  simp only[List.mem_cons,List.not_mem_nil,or_false] at hn
  rcases hn with rfl | rfl<;>simp only[decide_eq_true_eq]<;>omega
 have hd:-1≤c.drain∧c.drain≤1099511627776:=by
  rcases c1 with c1 | c1
  ·omega
  ·rcases place_range c.ms c.drain with e | ⟨i,m,e1,e2,e3,e4⟩
   ·omega
   ·have:=b i e2
    unfold memOk nodeB at this
    rw[e3] at this
    simp only[Bool.and_eq_true,decide_eq_true_eq] at this
    omega
 unfold getCh chB
 rw[List.append_assoc,List.append_assoc,unintB_int yd a2]
 dsimp only
 rw[unintB_int yd yd]
 dsimp only
 rw[if_neg yd,memL_put,Int.toNat_natCast,←memL_len,intsB_put _ _ hm]
 dsimp only
 have:=unintB_int (n:=c.drain) hd.1 hd.2 []
 rw[List.append_nil] at this
 rw[this,memL_of]
 dsimp only
 rw[if_pos ⟨rfl,h⟩]
theorem txt_back{f g:FrameM}{ms ms':List MemM}{t:Bs}(h:putM f ms=some t)(hg:getM t=some (g,ms')):g.kind=f.kind∧(f.kind=8→ms'=ms)∧(f.kind=4→g.entry.client=f.entry.client):=by
 unfold putM at h
 split at h
 ·rename_i hm
  split at h
  ·cases h
  ·rename_i hlen
   cases h
   have hm2:=hm
   unfold mayM at hm
   simp only[Bool.and_eq_true,decide_eq_true_eq,List.all_eq_true] at hm
   obtain⟨hk,hn,ho⟩:=hm
   unfold getM at hg
   have e1:putB f ms=intB f.kind++(((offs f.kind).map (numF f)).flatMap intB++behB f ms):=by
    unfold putB
    rw[List.append_assoc,List.flatMap_map]
   rw[if_neg hlen,e1,unintB_int yd yd] at hg
   dsimp only at hg
   have e2:=intsB_put ((offs f.kind).map (numF f)) (behB f ms) (fun n hx=>by
    obtain⟨o,h1,rfl⟩:=List.mem_map.1 hx
    exact hn o h1)
   rw[List.length_map] at e2
   rw[e2] at hg
   dsimp only at hg
   have hF:(setFs { FrameM.zero with kind:=f.kind } (offs f.kind) ((offs f.kind).map (numF f))).kind=f.kind:=setFs_kind _ _ _
   generalize setFs { FrameM.zero with kind:=f.kind } (offs f.kind) ((offs f.kind).map (numF f))=F at hg hF
   cases hr:readF F (behB f ms) with
   | none=>rw[hr] at hg;cases hg
   | some x=>
    obtain⟨y,l⟩:=x
    rw[hr] at hg
    dsimp only at hg
    split at hg
    ·cases hg
     refine⟨(readF_kind hr).trans hF,fun h8=>?_,fun h4=>?_⟩
     ·unfold readF at hr
      rw[if_neg yd,if_neg yd,if_neg yd,if_pos yd] at hr
      unfold behB at hr
      rw[if_neg yd,if_neg yd,if_neg yd,if_pos h8] at hr
      unfold mayB at ho
      rw[if_neg yd,if_neg yd,if_neg yd,if_pos h8] at ho
      rw[getCh_put (by simpa using ho)] at hr
      cases hr;rfl
     ·unfold readF at hr
      rw[if_neg yd,if_neg yd,if_pos yd] at hr
      unfold behB at hr
      rw[if_neg yd,if_neg yd,if_pos h4] at hr
      unfold mayB at ho
      rw[if_neg yd,if_neg yd,if_pos h4] at ho
      simp only[Bool.and_eq_true] at ho
      have i1:=in_n ho.1.1
      have i2:=in_n ho.1.2.1
      rw[List.append_assoc,List.append_assoc,unintB_int yd i1.2] at hr
      dsimp only at hr
      rw[unintB_int yd i2.2] at hr
      dsimp only at hr
      split at hr
      ·cases hr
      split at hr<;>cases hr
      rfl
    ·cases hg
 ·cases h
def MemsIn(N:Int)(ms:List MemM):Prop:=∀m∈ms,0≤m.1∧m.1<N
def AdrK(F:ConfM)(a:Int):Prop:=(0≤a∧a<F.nodes)∨a=16∨(32≤a∧a<32+F.clients)
def CliB(F:ConfM)(c:Int):Prop:=0≤c∧c<F.clients
theorem CliB.adr{F:ConfM}{c:Int}(h:CliB F c):AdrK F (32+c):=by
 unfold CliB at h
 exact .inr (.inr yd)
def ToK(F:ConfM)(a:Int):Prop:=a<0∨AdrK F a
theorem memAt_k{F:ConfM}{c:ChM}(h:MemsIn F.nodes c.ms)(i:Int):memAt c i<0∨(0≤memAt c i∧memAt c i<F.nodes):=by
 unfold memAt
 split
 ·rename_i hi
  have hx:c.ms[i.toNat]?=some c.ms[i.toNat]:=GE yd
  rw[hx]
  exact .inr (h _ (ME hx))
 ·exact .inl yo
theorem ToK.at_{F:ConfM}{a:Int}(h:a<0∨(0≤a∧a<F.nodes)):ToK F a:=h.elim .inl fun h=>.inr (.inl h)
def SndN(F:ConfM)(S:List SndM):Prop:=∀s∈S,ToK F s.1∧s.2.kind≠8∧(s.2.kind=4→CliB F s.2.entry.client)
theorem SndN.nil{F:ConfM}:SndN F []:=fun s hs=>by cases hs
theorem SndN.app{F:ConfM}{S T:List SndM}(h:SndN F S)(k:SndN F T):SndN F (S++T):=fun s hs=>(List.mem_append.1 hs).elim (h s) (k s)
theorem SndN.one{F:ConfM}{a:Int}{f:FrameM}(h:ToK F a)(h8:f.kind≠8)(h4:f.kind≠4):SndN F [(a,f)]:=fun s hs=>by
 rw[List.mem_singleton.1 hs]
 exact⟨h,h8,fun e=>absurd e h4⟩
structure NodK(F:ConfM)(R:RepM):Prop where
 cl:R.clients=F.clients
 acl:R.adm.clients=F.clients
 ch:MemsIn F.nodes R.ch.ms
 log:∀e∈R.log,CliB F e.client
 rds:∀y∈R.rds.l,CliB F y.f.client
section
variable {F:ConfM} {R:RepM}
theorem NodK.prev(k:NodK F R):ToK F R.prevM:=ToK.at_ (memAt_k k.ch _)
theorem NodK.next(k:NodK F R):ToK F R.nextM:=by
 unfold RepM.nextM nextOf
 split
 ·exact .inl yo
 ·exact ToK.at_ (memAt_k k.ch _)
theorem NodK.same(k:NodK F R){Q:RepM}(h1:Q.clients=R.clients)(h2:Q.adm.clients=R.adm.clients)(h3:Q.ch=R.ch)(h4:Q.log=R.log)(h5:∀y∈Q.rds.l,y∈R.rds.l):NodK F Q:=⟨h1.trans k.cl,h2.trans k.acl,by rw[h3];exact k.ch,by rw[h4];exact k.log,fun y hy=>k.rds y (h5 y hy)⟩
theorem NodK.greet(k:NodK F R):SndN F R.greetM:=by
 unfold RepM.greetM
 split
 ·exact SndN.nil
 ·exact SndN.one k.prev (by show(5:Int)≠8;decide) (by show(5:Int)≠4;decide)
theorem NodK.baseS(k:NodK F R):SndN F R.baseM:=by
 unfold RepM.baseM
 split
 ·exact SndN.one k.next (by show(6:Int)≠8;decide) (by show(6:Int)≠4;decide)
 ·exact SndN.nil
theorem mas_to{F:ConfM}:ToK F 16:=.inr (.inr (.inl rfl))
theorem NodK.mas(k:NodK F R):SndN F R.masterM:=SndN.one mas_to (by show(11:Int)≠8;decide) (by show(11:Int)≠4;decide)
theorem reply_k{c s t:Int}{r:ResM}(h:CliB F c):SndN F [(32+c,replyF c s t r)]:=SndN.one (.inr h.adr) (by show(2:Int)≠8;decide) (by show(2:Int)≠4;decide)
theorem refuse_k{e x:Int}{f:FrameM}(h:CliB F f.client):SndN F [(32+f.client,refuseF e f x)]:=SndN.one (.inr h.adr) (by show(3:Int)≠8;decide) (by show(3:Int)≠4;decide)
theorem refs_k{e x:Int}{gs:List FrameM}(h:∀f∈gs,CliB F f.client):SndN F (refs e gs x):=fun s hs=>by
 obtain⟨f,hf,rfl⟩:=List.mem_map.1 hs
 exact refuse_k (e:=e) (x:=x) (h f hf) _ (List.mem_singleton.2 rfl)
theorem log_k(h1:1≤F.clients)(k:NodK F R)(i:Int):CliB F ((atI R.log i).getD entZ).client:=by
 cases h:atI R.log i with
 | none=>exact⟨Int.le_refl _,by show(0:Int)<_;omega⟩
 | some e=>
  unfold atI at h
  split at h
  ·exact k.log e (ME h)
  ·cases h
theorem NodK.finS(h1:1≤F.clients)(k:NodK F R):SndN F R.finishM:=by
 unfold RepM.finishM
 split
 ·intro s hs
  obtain⟨j,_,rfl⟩:=List.mem_map.1 hs
  exact reply_k (log_k h1 k _) _ (List.mem_singleton.2 rfl)
 ·exact SndN.nil
theorem NodK.finish(k:NodK F R):NodK F R.finishR:=by unfold RepM.finishR;split<;>exact k.same rfl rfl rfl rfl fun _ h=>h
theorem NodK.become(k:NodK F R):NodK F R.becomeR:=by unfold RepM.becomeR;split<;>exact k.same rfl rfl rfl rfl fun _ h=>h
theorem NodK.becS(k:NodK F R):SndN F R.becomeM:=by
 unfold RepM.becomeM
 split
 ·exact k.become.baseS
 ·exact SndN.nil
theorem NodK.pushE(k:NodK F R){e:EntryM}(h:CliB F e.client):NodK F (pushE R e):=⟨k.cl,k.acl,k.ch,fun x hx=>by
 rcases List.mem_append.1 hx with hx | hx
 ·exact k.log x hx
 ·rw[List.mem_singleton.1 hx];exact h,k.rds⟩
theorem calls_k(k:NodK F R)(ok:R.Ok)(now:Int):∀f∈R.adm.sch.goneM now,CliB F f.client:=fun f hf=>by
 have:=(gone_ok ok.calls now f hf).1
 rw[k.acl] at this
 exact this
theorem barM_cl(A:AdmM)(k s t:Int):(A.barM k s t).2.clients=A.clients:=by
 unfold AdmM.barM
 split
 ·exact barF_clients _ _ _ _
 ·rfl
theorem NodK.adm'(k:NodK F R){A:AdmM}(h:A.clients=R.adm.clients):NodK F { R with adm:=A }:=k.same rfl h rfl rfl fun _ h=>h
theorem NodK.update(k:NodK F R){f:FrameM}(hf:CliB F f.client)(now:Int):NodK F (updateR R f now).1∧SndN F (updateR R f now).2:=by
 have hj:(judgeM R f now).2.2.clients=R.adm.clients:=by
  rcases judge_adm R f now with e | e
  ·rw[e]
  ·rw[e];exact offer_clients _ _ _
 unfold updateR
 split
 ·exact⟨k.adm' hj,reply_k hf⟩
 split
 ·exact⟨k.adm' hj,SndN.nil⟩
 split
 ·exact⟨k.adm' ((barM_cl _ _ _ _).trans hj),refuse_k hf⟩
 ·exact⟨k.adm' hj,refuse_k hf⟩
theorem NodK.read(k:NodK F R){f:FrameM}(hf:CliB F f.client)(now:Int):NodK F (readR R f now).1∧SndN F (readR R f now).2:=by
 unfold readR
 split
 ·exact⟨k,refuse_k hf⟩
 ·refine⟨⟨k.cl,k.acl,k.ch,k.log,fun y hy=>?_⟩,SndN.one mas_to (by show(9:Int)≠8;decide) (by show(9:Int)≠4;decide)⟩
  have hy:y∈(R.rds.put f _).l:=hy
  unfold RdsM.put at hy
  split at hy
  ·rcases List.mem_append.1 hy with hy | hy
   ·exact k.rds y hy
   ·rw[List.mem_singleton.1 hy];exact hf
  ·exact k.rds y hy
theorem NodK.enter(h1:1≤F.clients)(k:NodK F R)(ok:R.Ok){c:ChM}(hc:MemsIn F.nodes c.ms):NodK F (enterR R c).1∧SndN F (enterR R c).2:=by
 have h5:NodK F (ent5 R c):=by
  have h4:NodK F (ent4 R c):=⟨k.cl,((expire_wf ok.wf maxI).2.1).trans k.acl,hc,fun e he=>by
   have he:e∈(if nlB R c then [] else R.log):=he
   split at he
   ·cases he
   ·exact k.log e he,fun y hy=>by cases hy⟩
  unfold Rep.ent5
  split
  ·exact h4.same rfl rfl rfl rfl fun _ h=>h
  ·exact h4
 have hg:SndN F (entG R c):=(refs_k (calls_k k ok maxI)).app (refs_k fun f hf=>by
  obtain⟨y,hy,rfl⟩:=List.mem_map.1 hf
  exact k.rds y hy)
 exact⟨h5.finish,(((hg.app (h5.finS h1)).app h5.finish.greet).app h5.finish.baseS).app h5.finish.mas⟩
def FrK(F:ConfM)(f:FrameM)(ms:List MemM):Prop:=(f.kind=8→MemsIn F.nodes ms)∧(f.kind=4→CliB F f.entry.client)
theorem NodK.take(h1:1≤F.clients)(k:NodK F R)(ok:R.Ok)(from_:Int){f:FrameM}{ms:List MemM}(hf:FrK F f ms)(now:Int):NodK F (takeR R from_ f ms now).1∧SndN F (takeR R from_ f ms now).2:=by
 have no:NodK F R∧SndN F []:=⟨k,SndN.nil⟩
 unfold takeR
 split
 ·split
  ·exact no
  split
  ·exact no
  have hc:CliB F f.client:=⟨by omega,by rw[←k.cl];omega⟩
  split
  ·exact k.read hc now
  ·exact k.update hc now
 split
 ·rename_i h8
  split
  ·exact k.enter h1 ok (hf.1 h8)
  ·exact no
 split
 ·rename_i h4
  split
  ·unfold forwardR
   split
   ·have k1:=k.pushE (hf.2 h4)
    exact⟨k1.finish.become,((k1.finS h1).app k1.finish.becS).app k1.finish.become.greet⟩
   ·exact⟨k,k.greet⟩
  ·exact no
 split
 ·split
  ·have h2:NodK F (ack2 R f):=by
    unfold Rep.ack2 Rep.ack1
    dsimp only
    split<;>exact k.same rfl rfl rfl rfl fun _ h=>h
   have h3:NodK F { ack2 R f with win:=(ack2 R f).win.ack f.index }:=h2.same rfl rfl rfl rfl fun _ h=>h
   refine⟨h3,?_⟩
   show SndN F (if _ then _ else _)
   split
   ·exact h3.greet
   ·exact SndN.nil
  ·exact no
 split
 ·split
  ·have h2:NodK F (baseR R f.index):=k.same rfl rfl rfl rfl fun _ h=>h
   exact⟨h2.become,h2.becS⟩
  ·exact no
 split
 ·split
  ·refine⟨k.same rfl rfl rfl rfl fun y hy=>(List.mem_filter.1 hy).1,fun s hs=>?_⟩
   obtain⟨y,hy,rfl⟩:=List.mem_map.1 hs
   exact reply_k (k.rds y (List.mem_filter.1 hy).1) _ (List.mem_singleton.2 rfl)
  ·exact no
 ·exact no
theorem next_cl(k:NodK F R)(ok:R.Ok)(now:Int):(R.adm.nextM now).clients=R.adm.clients:=by
 unfold AdmM.nextM
 split<;>exact(expire_wf ok.wf now).2.1
theorem NodK.serve(h1:1≤F.clients)(k:NodK F R)(ok:R.Ok)(now:Int):NodK F (serveR R now).1∧SndN F (serveR R now).2.1:=by
 have hn:=next_cl k ok now
 have i1:NodK F (nextA R now):=k.adm' hn
 have hr:SndN F (refs R.ch.epoch (R.adm.sch.goneM now) 2):=refs_k (calls_k k ok now)
 unfold serveR
 by_cases h0:nextOk R now=false
 ·rw[if_pos h0];exact⟨i1,hr⟩
 rw[if_neg h0]
 have hc:CliB F (nextF R now).client:=by
  obtain⟨e1,e2,e3⟩:=expire_wf ok.wf now
  have ho:nextOk R now=true:=by simpa using h0
  obtain⟨j,q,g1,g2⟩:=popV_ok e1.sch ho
  have hc:=(exp_calls ok.wf ok.calls now _ (ME g1) (nextF R now) (by simp[nextF])).1
  rw[e2,k.acl] at hc
  exact hc
 split
 ·exact⟨k.adm' ((barM_cl _ _ _ _).trans hn),hr.app (refuse_k hc)⟩
 ·have k1:=i1.pushE (e:=nextE R now) hc
  exact⟨k1.finish,hr.app (k1.finS h1)⟩
theorem NodK.loop(h1:1≤F.clients)(now:Int):∀(n:Nat) {R:RepM},NodK F R→R.Ok→NodK F (serveLoop now n R).1∧SndN F (serveLoop now n R).2
 | 0,R,k,_=>⟨k,SndN.nil⟩
 | n+1,R,k,ok=>by
  unfold serveLoop
  split
  ·rename_i hr
   have ks:=k.serve h1 ok now
   split
   ·have kl:=NodK.loop h1 now n ks.1 (serveR_ok ok hr now)
    exact⟨kl.1,ks.2.app kl.2⟩
   ·exact ks
  ·exact⟨k,SndN.nil⟩
theorem passN_k(h1:1≤F.clients)(k:NodK F R):∀n:Nat,SndN F (passN R n).2
 | 0=>SndN.nil
 | n+1=>(passN_k h1 k n).app fun s hs=>by
  rw[List.mem_singleton.1 hs]
  exact⟨k.next,by show(4:Int)≠8;decide,fun _=>log_k h1 k _⟩
theorem NodK.step(h1:1≤F.clients)(k:NodK F R)(ok:R.Ok)(now:Int):NodK F (stepR R now).1∧SndN F (stepR R now).2:=by
 have k1:NodK F (expR R now):=k.same rfl rfl rfl rfl fun y hy=>(List.mem_filter.1 hy).1
 have s1:SndN F (expS R now):=refs_k fun f hf=>by
  obtain⟨y,hy,rfl⟩:=List.mem_map.1 hf
  exact k.rds y (List.mem_filter.1 hy).1
 have k2:NodK F (step2 R now).1∧SndN F (step2 R now).2:=by
  unfold Rep.step2
  split
  ·exact NodK.loop h1 now 65 k1 (expR_ok ok now)
  ·exact⟨k1,SndN.nil⟩
 have k3:NodK F (step3 R now).1∧SndN F (step3 R now).2:=by
  unfold step3
  split
  ·exact⟨k2.1.same rfl rfl rfl rfl fun _ h=>h,passN_k h1 k2.1 _⟩
  ·exact⟨k2.1,SndN.nil⟩
 exact⟨k3.1,(s1.app k2.2).app k3.2⟩
theorem NodK.tick(k:NodK F R):NodK F (tickR R).1∧SndN F (tickR R).2:=by
 refine⟨?_,(((k.mas.app k.greet).app k.baseS).app ?_).app ?_⟩
 ·show NodK F (tick1 R)
  unfold tick1
  split
  ·exact k.same rfl rfl rfl rfl fun _ h=>h
  ·exact k
 ·split
  ·exact SndN.one mas_to (by show(9:Int)≠8;decide) (by show(9:Int)≠4;decide)
  ·exact SndN.nil
 ·split
  ·exact SndN.one mas_to (by show(12:Int)≠8;decide) (by show(12:Int)≠4;decide)
  ·exact SndN.nil
theorem first_k(h:F=fitM F):MemsIn F.nodes (firstC F).ms:=fun m hm=>by
 have hb:=conf_bounds h
 have hm:m∈firstMs F.chain.toNat:=hm
 unfold firstMs at hm
 obtain⟨i,hi,rfl⟩:=List.mem_map.1 hm
 rw[List.mem_range] at hi
 exact⟨by show(0:Int)≤(i:Nat);omega,by show((i:Nat):Int)<_;omega⟩
theorem NodK.new(h:F=fitM F)(id:Int)(blank:Bool):NodK F (Rep.newR F id blank):=by
 have key:∀(ch:ChM) (s t:Int) (wh:Bool),MemsIn F.nodes ch.ms→NodK F { Rep.newR0 F id with ch:=ch,since:=s,whole:=wh,start:=t }:=fun ch s t wh h=>⟨rfl,rfl,h,fun e he=>(by cases he),fun y hy=>(by cases hy)⟩
 have hf:=first_k h
 unfold Rep.newR
 split
 ·exact key chZ _ _ _ fun m hm=>by cases hm
 split
 ·exact key (firstC F) _ _ _ hf
 ·exact key (firstC F) _ _ _ hf
end
end Cl
namespace Pc
section
variable {κ:Type} [DecidableEq κ]
def upto(L:List (κ×Int))(t:Int):List (κ×Int):=L.filter fun x=>decide (x.2≤t)
structure Nxt(n:Int)(L M:List (κ×Int))(k:Option κ):Prop where
 nd:(M.map Prod.fst).Nodup
 of:∀x∈M,x.2=n+1∨(x∈L∧some x.1≠k)
theorem nodup_sub{α:Type}[DecidableEq α]:∀{l m:List α},l.Nodup→(∀x∈l,x∈m)→l.length≤m.length
 | [],m,_,_=>Nat.zero_le _
 | a::l,m,h,hs=>by
  rw[List.nodup_cons] at h
  have ha:=hs a (List.mem_cons_self ..)
  have:=nodup_sub (l:=l) (m:=m.erase a) h.2 fun x hx=>(List.mem_erase_of_ne (fun e=>h.1 (by rw[←e];exact hx))).2 (hs x (List.mem_cons_of_mem _ hx))
  rw[List.length_erase_of_mem ha] at this
  have h0:0<m.length:=List.length_pos_of_mem ha
  rw[List.length_cons]
  omega
theorem upto_nodup{L:List (κ×Int)}(h:(L.map Prod.fst).Nodup)(t:Int):(upto L t).Nodup:=by
 have h1:L.Nodup:=by
  unfold List.Nodup at h ⊢
  rw[List.pairwise_map] at h
  exact h.imp fun g e=>g yaj
 exact h1.filter _
theorem upto_mem{L:List (κ×Int)}{t:Int}{x:κ×Int}:x∈upto L t↔x∈L∧x.2≤t:=by
 unfold upto
 rw[List.mem_filter,decide_eq_true_eq]
theorem Nxt.less1{n:Int}{L M:List (κ×Int)}{y:κ×Int}(h:Nxt n L M (some y.1))(hy:y∈L){t:Int}(h0:y.2≤t)(ht:t≤n):(upto M t).length+1≤(upto L t).length:=by
 have hm:y∈upto L t:=upto_mem.2 ⟨hy,h0⟩
 have h1:=nodup_sub (m:=(upto L t).erase y) (upto_nodup h.nd t) fun x hx=>by
  rw[upto_mem] at hx
  rcases h.of x hx.1 with h1 | ⟨h1,h2⟩
  ·omega
  ·exact(List.mem_erase_of_ne (fun e=>h2 yaj)).2 (upto_mem.2 ⟨h1,hx.2⟩)
 rw[List.length_erase_of_mem hm] at h1
 have:=List.length_pos_of_mem hm
 omega
structure Due(K:Nat)(W n:Int)(L:List (κ×Int)):Prop where
 nd:(L.map Prod.fst).Nodup
 few:L.length≤K
 now:∀x∈L,x.2≤n
 inv:∀x∈L,n-x.2+(upto L x.2).length≤W-1
theorem Due.age{K:Nat}{W n:Int}{L:List (κ×Int)}(d:Due K W n L){x:κ×Int}(hx:x∈L):n-x.2≤W:=by
 have:=d.inv x hx
 omega
theorem upto_len(L:List (κ×Int))(t:Int):(upto L t).length≤L.length:=List.length_filter_le ..
theorem Due.take{K:Nat}{W n:Int}{L M:List (κ×Int)}(d:Due K W n L)(hW:2*(K:Int)+2≤W)(h:∀x∈L,n-x.2<W-(K+1)){k:Option κ}(g:Nxt n L M k)(hf:M.length≤K):Due K W (n+1) M:=by
 refine⟨g.nd,hf,fun x hx=>?_,fun x hx=>?_⟩
 ·rcases g.of x hx with h1 | ⟨h1,-⟩
  ·omega
  ·have:=d.now x h1;omega
 ·have hu:=upto_len M x.2
  rcases g.of x hx with h1 | ⟨h1,-⟩
  ·omega
  ·have:=h x h1
   omega
theorem Due.serve{K:Nat}{W n:Int}{L M:List (κ×Int)}(d:Due K W n L)(hW:2*(K:Int)+2≤W){y:κ×Int}(hy:y∈L)(hm:∀x∈L,y.2≤x.2)(g:Nxt n L M (some y.1))(hf:M.length≤K):Due K W (n+1) M:=by
 refine⟨g.nd,hf,fun x hx=>?_,fun x hx=>?_⟩
 ·rcases g.of x hx with h1 | ⟨h1,-⟩
  ·omega
  ·have:=d.now x h1;omega
 ·have hu:=upto_len M x.2
  rcases g.of x hx with h1 | ⟨h1,-⟩
  ·omega
  ·have h2:=g.less1 hy (hm x h1) (d.now x h1)
   have:=d.inv x h1
   omega
structure Turn(K:Nat)(T n:Int)(L:List (κ×Int)):Prop where
 t0:T≤n
 few:n-T+(upto L (T-1)).length≤K
theorem Turn.serve{K:Nat}{W T n:Int}{L M:List (κ×Int)}(u:Turn K T n L)(hW:2*(K:Int)+2≤W){y:κ×Int}(hy:y∈L)(ho:¬n-y.2<W-(K+1))(g:Nxt n L M (some y.1)):Turn K T (n+1) M∧(upto M (T-1)).length+1≤(upto L (T-1)).length:=by
 have h1:=u.few
 have h2:=u.t0
 have h3:=g.less1 hy (t:=T-1) yd yd
 exact⟨⟨by omega,by omega⟩,h3⟩
theorem Turn.take{K:Nat}{n:Int}{L:List (κ×Int)}(hf:L.length≤K):Turn K n n L:=⟨Int.le_refl _,by
 have:=upto_len L (n-1)
 omega⟩
end
end Pc
namespace Cl
open Go Vg T Api Ch Rep Conf Lg Rd Adm Sched
def SndA(F:ConfM)(from_:Int)(S:List SdM):Prop:=∀s∈S,ToK F s.1∧(32≤from_→s.1<32)∧FrK F s.2.1 s.2.2
theorem SndA.nil{F:ConfM}{n:Int}:SndA F n []:=fun s hs=>by cases hs
theorem SndN.all{F:ConfM}{S:List SndM}(h:SndN F S){n:Int}(hn:n<32):SndA F n (ofS S):=fun s hs=>by
 obtain⟨x,hx,rfl⟩:=List.mem_map.1 hs
 obtain⟨h1,h2,h3⟩:=h x hx
 exact⟨h1,fun h=>by omega,fun h=>absurd h h2,h3⟩
section
variable {F:ConfM}
def CliK(F:ConfM)(n:Int)(Q:CliM×List SdM):Prop:=MemsIn F.nodes Q.1.ch.ms∧SndA F n Q.2
theorem ask_k(n:Int):SndA F n askS:=fun s hs=>by
 rw[List.mem_singleton.1 hs]
 exact⟨mas_to,fun _=>by show(16:Int)<32;decide,fun h=>absurd h (by show ¬(7:Int)=8;decide),fun h=>absurd h (by show ¬(7:Int)=4;decide)⟩
section
variable {s:CliM} (n:Int)
theorem giveUp_k(h:MemsIn F.nodes s.ch.ms)(r:Int):CliK F n (s.giveUp r):=⟨h,ask_k n⟩
theorem goOn_k(h:MemsIn F.nodes s.ch.ms)(r now:Int):CliK F n (s.goOn r now):=by
 unfold CliM.goOn
 split
 ·exact giveUp_k n h r
 split
 ·exact xnt
 ·exact giveUp_k (s:=s.took now) n h r
theorem try_k(h6:F.nodes≤6)(h:MemsIn F.nodes s.ch.ms)(now:Int):CliK F n (s.try_ now):=⟨h,fun x hx=>by
 rw[List.mem_singleton.1 hx]
 have hto:(s.tried now).to<0∨(0≤(s.tried now).to∧(s.tried now).to<F.nodes):=by
  unfold CliM.to
  split
  ·exact memAt_k h _
  ·exact memAt_k h _
 exact⟨ToK.at_ hto,fun _=>by show(s.tried now).to<32;omega,fun h=>absurd h (by show ¬(1:Int)=8;decide),fun h=>absurd h (by show ¬(1:Int)=4;decide)⟩⟩
theorem ccall_k(h6:F.nodes≤6)(h:MemsIn F.nodes s.ch.ms)(o:OpM)(cl d now:Int):CliK F n (s.call o cl d now):=by
 unfold CliM.call
 split
 ·exact xnt
 split
 ·exact try_k (s:=s.begun o cl d) n h6 h _
 ·exact⟨h,ask_k n⟩
theorem refused_k(h:MemsIn F.nodes s.ch.ms)(r now:Int):CliK F n (s.refused r now):=by
 unfold CliM.refused
 split
 ·exact goOn_k (s:={ s with unsure:=true }) n h r now
 split
 ·exact giveUp_k n h r
 ·exact goOn_k n h r now
theorem ctake_k(h6:F.nodes≤6)(h:MemsIn F.nodes s.ch.ms){f:FrameM}{ms:List MemM}(hf:FrK F f ms)(now:Int):CliK F n (s.take f ms now):=by
 have z:CliK F n (s,[]):=⟨h,SndA.nil⟩
 unfold CliM.take
 split
 ·rename_i h8
  split
  ·exact z
  split
  ·exact try_k (s:={ s with ch:=⟨f.cepoch,ms,f.drain⟩ }) n h6 (hf.1 h8) _
  ·exact⟨hf.1 h8,SndA.nil⟩
 split
 ·split
  ·exact xnt
  ·exact z
 split
 ·split
  ·exact refused_k n h _ _
  ·exact z
 ·exact z
theorem ctick_k(h:MemsIn F.nodes s.ch.ms)(now:Int):CliK F n (s.tick now):=by
 have z:CliK F n (s,[]):=⟨h,SndA.nil⟩
 unfold CliM.tick
 split
 ·split
  ·exact goOn_k (s:={ s with unsure:=true }) n h _ _
  ·exact z
 split
 ·split
  ·exact z
  split
  ·exact giveUp_k n h _
  ·exact⟨h,ask_k n⟩
 split
 ·split
  ·exact⟨h,ask_k n⟩
  ·exact z
 ·exact z
end
structure MasK(F:ConfM)(M:MasM):Prop where
 n:M.nodes=F.nodes
 ch:MemsIn F.nodes M.ch.ms
theorem cfg_k{M:MasM}(h:MasK F M){a:Int}(ha:ToK F a):SndA F 16 [cfgS M.ch a]:=fun s hs=>by
 rw[List.mem_singleton.1 hs]
 exact⟨ha,fun h=>absurd h yo,fun _=>h.ch,fun h=>absurd h (by show ¬(8:Int)=4;decide)⟩
theorem all_k{M:MasM}(h:MasK F M):SndA F 16 M.all:=fun s hs=>by
 obtain⟨i,hi,rfl⟩:=List.mem_map.1 hs
 rw[List.mem_range,h.n] at hi
 exact cfg_k h (a:=(i:Nat)) (.inr (.inl yd)) _ (List.mem_singleton.2 rfl)
theorem MasK.gone{M:MasM}(h:MasK F M){n:Int}(ho:M.outE n=0):MasK F (M.gone n):=⟨h.n,fun m hm=>by
 have hm:m∈(withoutC M.ch n).1.ms:=hm
 rw[(wo_ok ho).2.2] at hm
 exact h.ch m (List.mem_of_mem_eraseIdx hm)⟩
theorem watch_k(now:Int):∀(l:List MemM) (x:MasM×Bool),MasK F x.1→MasK F (MasM.watch now l x).1
 | [],_,h=>h
 | y::l,x,h=>by
  rw[MasM.watch]
  refine watch_k now l _ ?_
  split
  ·rename_i hl
   unfold MasM.late at hl
   simp only[Bool.and_eq_true,decide_eq_true_eq] at hl
   exact h.gone hl.2.2
  ·exact h
theorem mtake_k{M:MasM}(h:MasK F M){from_:Int}(hfr:AdrK F from_)(f:FrameM)(now:Int):MasK F (M.take from_ f now).1∧SndA F 16 (M.take from_ f now).2:=by
 have h1:MasK F (M.heardAt from_ now):=⟨h.n,h.ch⟩
 unfold MasM.take
 split
 ·exact⟨h,cfg_k h (.inr hfr)⟩
 split
 ·exact xnt
 split
 ·split
  ·exact⟨h1,cfg_k h (.inr hfr)⟩
  split
  ·exact⟨⟨h.n,h.ch⟩,SndA.nil⟩
  ·exact⟨h1,SndA.nil⟩
 split
 ·split
  ·exact⟨h,cfg_k h (.inr hfr)⟩
  split
  ·refine⟨h,fun s hs=>?_⟩
   rw[List.mem_singleton.1 hs]
   exact⟨.inr hfr,fun h=>absurd h yo,fun h=>absurd h (by show ¬(10:Int)=8;decide),fun h=>absurd h (by show ¬(10:Int)=4;decide)⟩
  ·exact xnt
 split
 ·split
  ·rename_i hc
   have:=h.gone hc.2.2
   exact⟨this,all_k this⟩
  ·exact xnt
 ·exact xnt
theorem mtick_k{M:MasM}(h:MasK F M)(now:Int):MasK F (M.tick now).1∧SndA F 16 (M.tick now).2:=by
 have hw:=watch_k (tickN now) M.ch.ms (M,false) h
 refine⟨hw,?_⟩
 show SndA F 16 (if _ then _ else _)
 split
 ·exact all_k hw
 ·exact SndA.nil
theorem msuspect_k{M:MasM}(h:MasK F M)(n:Int):MasK F (M.suspect n).1∧SndA F 16 (M.suspect n).2.1:=by
 unfold MasM.suspect
 split
 ·exact xnt
 split
 ·exact xnt
 ·rename_i hh
  have:=h.gone (n:=n) ycg
  exact⟨this,all_k this⟩
theorem mdrain_k{M:MasM}(h:MasK F M)(n:Int):MasK F (M.drain n).1∧SndA F 16 (M.drain n).2.1:=by
 unfold MasM.drain
 split
 ·exact xnt
 split
 ·exact xnt
 ·rename_i hh
  have:MasK F (M.drained n):=⟨h.n,fun m hm=>by
   have hm:m∈(drainC M.ch n).1.ms:=hm
   rw[(dr_ok (c:=M.ch) (n:=n) ycg).2.2.2] at hm
   exact h.ch m hm⟩
  exact⟨this,all_k this⟩
theorem mjoin_k{M:MasM}(h:MasK F M)(n now:Int):MasK F (M.join n now).1∧SndA F 16 (M.join n now).2.1:=by
 unfold MasM.join
 split
 ·exact xnt
 split
 ·exact xnt
 ·rename_i hi hh
  have hi:0≤n∧n<F.nodes:=by
   unfold MasM.isNode at hi
   rw[h.n] at hi
   simpa using hi
  have:MasK F (M.joined n now):=⟨h.n,fun m hm=>by
   have hm:m∈(withC M.ch n).1.ms:=hm
   rw[(wi_ok (c:=M.ch) (n:=n) ycg).2.2.2] at hm
   rcases List.mem_append.1 hm with hm | hm
   ·exact h.ch m hm
   ·rw[List.mem_singleton.1 hm];exact hi⟩
  exact⟨this,all_k this⟩
def TxtK(F:ConfM)(t:ByteArray):Prop:=∀g ms,getM (sB t)=some (g,ms)→FrK F g ms
theorem TxtK.of{f:FrameM}{ms:List MemM}{t:Bs}(h:putM f ms=some t)(hf:FrK F f ms):TxtK F (bT t):=fun g ms' hg=>by
 rw[sB_of] at hg
 obtain⟨a,b,c⟩:=txt_back h hg
 exact⟨fun h8=>by rw[b yd];exact hf.1 yd,fun h4=>by rw[c yd];exact hf.2 yd⟩
def PrK(F:ConfM)(p:PrM):Prop:=AdrK F p.1∧AdrK F p.2∧p.1≠p.2∧(32≤p.1→p.2<32)
def MailK(F:ConfM)(S:LnkM):Prop:=∀x∈S.mail,PrK F x.1∧∀t∈x.2,TxtK F t
namespace MailK
variable {S:LnkM}
theorem list(h:MailK F S){p:PrM}:∀t∈S.list p,PrK F p∧TxtK F t:=fun t ht=>by
 unfold LnkM.list at ht
 cases hg:mGet S.mail p with
 | none=>rw[hg] at ht;cases ht
 | some l=>rw[hg] at ht;have:=h _ (mGet_mem hg);exact⟨this.1,this.2 t ht⟩
theorem put(h:MailK F S){p:PrM}{l:List ByteArray}(hp:PrK F p)(hl:∀t∈l,TxtK F t):MailK F { S with mail:=mPut S.mail p l }:=fun x hx=>by
 rcases mPut_mem hx with h3 | h3
 ·exact h x h3
 ·rw[h3];exact⟨hp,hl⟩
theorem send(h:MailK F S){p:PrM}{t:ByteArray}(h1:AdrK F p.1)(h2:ToK F p.2)(h3:32≤p.1→p.2<32)(ht:TxtK F t):MailK F (S.send p t):=by
 unfold LnkM.send
 split
 ·exact h
 ·rename_i h0
  have h0:S.sendE p t=0:=by simpa using h0
  have hb:¬(adrB p.1=false∨adrB p.2=false∨p.1=p.2):=fun g=>by unfold LnkM.sendE at h0;rw[if_pos g] at h0;cases h0
  have hp2:AdrK F p.2:=by
   rcases h2 with h2 | h2
   ·exact absurd (.inr (.inl (by unfold adrB;simp;omega))) hb
   ·exact h2
  refine h.put ⟨h1,hp2,fun e=>hb (.inr (.inr e)),h3⟩ fun u hu=>?_
  rcases List.mem_append.1 hu with hu | hu
  ·exact(h.list u hu).2
  ·rw[List.mem_singleton.1 hu];exact ht
theorem found(h:MailK F S){p:PrM}{i:Int}{t:ByteArray}(hf:S.find p i=some t):PrK F p∧TxtK F t:=by
 unfold LnkM.find at hf
 split at hf
 ·cases hf
 ·exact h.list t (ME hf)
theorem without(h:MailK F S){p:PrM}{i:Int}{t:ByteArray}(hf:S.find p i=some t):MailK F (S.without p i):=by
 have h':MailK F { S with mail:=mPut S.mail p ((S.list p).eraseIdx i.toNat) }:=h.put (h.found hf).1 fun u hu=>(h.list u (List.mem_of_mem_eraseIdx hu)).2
 unfold LnkM.without
 split
 ·exact fun x hx=>h' x (mDel_mem hx)
 ·exact h'
theorem drop(h:MailK F S)(p:PrM)(i:Int):MailK F (S.drop p i).1:=by
 unfold LnkM.drop
 split
 ·exact h
 ·rename_i hf
  cases hg:S.find p i with
  | none=>exact absurd hg hf
  | some t=>exact h.without hg
theorem double(h:MailK F S)(p:PrM)(i:Int):MailK F (S.double p i).1:=by
 unfold LnkM.double
 cases hf:S.find p i with
 | none=>exact h
 | some t=>
  obtain⟨⟨h1,h2,-,h4⟩,ht⟩:=h.found hf
  exact h.send h1 (.inr h2) h4 ht
theorem postL(h:MailK F S){n:Int}(hn:AdrK F n){l:List SdM}(hl:SndA F n l):MailK F (Cl.postL n S l):=by
 unfold Cl.postL
 induction l generalizing S with
 | nil=>exact h
 | cons s l ih=>
  refine ih ?_ fun x hx=>hl x (List.mem_cons_of_mem _ hx)
  unfold post1
  split
  ·exact h
  ·rename_i t ht
   obtain⟨h1,h2,h3⟩:=hl s (List.mem_cons_self ..)
   exact h.send hn h1 h2 (TxtK.of ht h3)
end MailK
structure PacI(F:ConfM)(C:CluM):Prop where
 cf:C.conf=F
 nl:(C.nodes.length:Int)≤F.nodes
 cl:(C.clis.length:Int)≤F.clients
 mas:MasK F C.mas
 nod:∀r,some r∈C.nodes→NodK F r∧r.Ok
 cli:∀s∈C.clis,MemsIn F.nodes s.ch.ms
 mail:MailK F C.lnk
structure Near(F:ConfM):Prop where
 n1:1≤F.nodes
 n6:F.nodes≤6
 c1:1≤F.clients
namespace PacI
variable {C:CluM}
theorem links(h:PacI F C){l:LnkM}(hl:MailK F l):PacI F { C with lnk:=l }:=⟨h.cf,h.nl,h.cl,h.mas,h.nod,h.cli,hl⟩
theorem master(h:PacI F C){m:MasM}(hm:MasK F m):PacI F { C with mas:=m }:=⟨h.cf,h.nl,h.cl,hm,h.nod,h.cli,h.mail⟩
theorem post(h:PacI F C){n:Int}(hn:AdrK F n){S:List SdM}(hS:SndA F n S):PacI F (C.post n S):=h.links (h.mail.postL hn hS)
theorem post16(h:PacI F C){S:List SdM}(hS:SndA F 16 S):PacI F (C.post 16 S):=h.post (.inr (.inl rfl)) hS
theorem setNode(h:PacI F C)(n:Int){x:Option RepM}(hx:∀r,x=some r→NodK F r∧r.Ok):PacI F (C.setNode n x):=⟨h.cf,by show((C.nodes.set _ _).length:Int)≤_;rw[List.length_set];exact h.nl,h.cl,h.mas,fun r hr=>by
 rcases List.mem_or_eq_of_mem_set hr with h1 | h1
 ·exact h.nod r h1
 ·exact hx r h1.symm,h.cli,h.mail⟩
theorem node1(h:PacI F C)(n:Int){r:RepM}(hr:NodK F r)(ok:r.Ok):PacI F (C.setNode n (some r)):=h.setNode n fun _ e=>by cases e;exact⟨hr,ok⟩
theorem setCli(h:PacI F C)(n:Int){s:CliM}(hs:MemsIn F.nodes s.ch.ms):PacI F (C.setCli n s):=⟨h.cf,h.nl,by show((C.clis.set _ _).length:Int)≤_;rw[List.length_set];exact h.cl,h.mas,h.nod,fun x hx=>by
 rcases List.mem_or_eq_of_mem_set hx with g | g
 ·exact h.cli x g
 ·rw[g];exact hs,h.mail⟩
theorem node_at(h:PacI F C){n:Int}{r:RepM}(hn:C.node n=some r):some r∈C.nodes∧AdrK F n∧n<F.nodes:=by
 unfold CluM.node at hn
 split at hn
 ·cases hn
 ·cases hx:C.nodes[n.toNat]? with
  | none=>rw[hx] at hn;cases hn
  | some x=>
   rw[hx] at hn
   obtain rfl:x=some r:=hn
   have:=(List.getElem?_eq_some_iff.1 hx).1
   have:=h.nl
   exact⟨ME hx,.inl yd,by omega⟩
theorem cli_at(h:PacI F C){n:Int}{s:CliM}(hn:C.cli n=some s):s∈C.clis∧AdrK F (32+n):=by
 unfold CluM.cli at hn
 split at hn
 ·cases hn
 ·have:=(List.getElem?_eq_some_iff.1 hn).1
  have:=h.cl
  exact⟨ME hn,.inr (.inr yd)⟩
theorem tickN(nr:Near F)(h:PacI F C)(n:Nat):PacI F (C.tickN n):=by
 have n6:=nr.n6
 unfold CluM.tickN
 split
 ·exact h
 ·rename_i r hr
  have hn:C.node (n:Int)=some r:=by unfold CluM.node;rw[if_neg yd,Int.toNat_natCast];exact hr
  obtain⟨hm,ha,hlt⟩:=h.node_at hn
  obtain⟨k1,k2⟩:=(h.nod r hm).1.tick
  exact(h.node1 n k1 (tick1_ok (h.nod r hm).2)).post ha (k2.all yd)
theorem tickC(h:PacI F C)(n:Nat):PacI F (C.tickC n):=by
 unfold CluM.tickC
 split
 ·exact h
 ·rename_i s hs
  have hc:C.cli (n:Int)=some s:=by unfold CluM.cli;rw[if_neg yd,Int.toNat_natCast];exact hs
  obtain⟨hm,ha⟩:=h.cli_at hc
  have hk:=ctick_k (32+(n:Int)) (h.cli s hm) C.now
  exact(h.setCli n hk.1).post ha hk.2
theorem tickNs(nr:Near F)(h:PacI F C)(l:List Nat):PacI F (l.foldl CluM.tickN C):=by
 induction l generalizing C with
 | nil=>exact h
 | cons x l ih=>exact ih (h.tickN nr x)
theorem tickCs(h:PacI F C)(l:List Nat):PacI F (l.foldl CluM.tickC C):=by
 induction l generalizing C with
 | nil=>exact h
 | cons x l ih=>exact ih (h.tickC x)
theorem tick(nr:Near F)(h:PacI F C):PacI F C.tick:=by
 have h':PacI F ({ C with now:=min (C.now+1) 1099511627776 }:CluM):=⟨h.cf,h.nl,h.cl,h.mas,h.nod,h.cli,h.mail⟩
 exact(h'.tickNs nr _).tickCs _
theorem takes(nr:Near F)(h:PacI F C)(hl:∀r,some r∈C.nodes→r.Fit∧r.rds.last<100000000){from_ to:Int}(hfr:AdrK F from_){f:FrameM}{ms:List MemM}(hf:FrK F f ms):PacI F (C.takes from_ to f ms):=by
 have n6:=nr.n6
 unfold CluM.takes
 split
 ·rename_i e
  obtain⟨k1,k2⟩:=mtake_k h.mas hfr f C.now
  rw[e]
  exact(h.master k1).post16 k2
 split
 ·rename_i r hr
  obtain⟨hm,ha,hlt⟩:=h.node_at hr
  obtain⟨k1,k2⟩:=(h.nod r hm).1.take nr.c1 (h.nod r hm).2 from_ hf C.now
  exact(h.node1 _ k1 (takeR_fit (hl r hm).1 (hl r hm).2 _ _ _ _).ok).post ha (k2.all yd)
 split
 ·rename_i s hs
  obtain⟨hm,ha⟩:=h.cli_at hs
  rw[show 32+(to-32)=to by omega] at ha
  have hk:=ctake_k to nr.n6 (h.cli s hm) hf C.now
  exact(h.setCli _ hk.1).post ha hk.2
 ·exact h
theorem deliver(nr:Near F)(h:PacI F C)(hl:∀r,some r∈C.nodes→r.Fit∧r.rds.last<100000000)(p:PrM)(i:Int):PacI F (C.deliver p i).1:=by
 unfold CluM.deliver
 split
 ·exact h
 ·rename_i t hf
  obtain⟨hp,ht⟩:=h.mail.found hf
  show PacI F (CluM.got _ _ _ _)
  unfold CluM.got
  split
  ·rename_i g ms hg
   exact(h.links (h.mail.without hf)).takes nr hl hp.1 (ht g ms hg)
  ·exact h.links (h.mail.without hf)
theorem back(hF:F=fitM F)(nr:Near F)(h:PacI F C)(n:Int):PacI F (C.back n):=by
 have n6:=nr.n6
 unfold CluM.back
 split
 ·rename_i hu
  have hf:(Rep.newR C.conf n true).Fit:=Rep.newR_fit (by rw[h.cf];exact hF) n true
  have hl:(Rep.newR C.conf n true).rds.last=0:=by
   unfold Rep.newR;split
   ·rfl
   split<;>rfl
  have hk:NodK F (Rep.newR C.conf n true):=by rw[h.cf];exact NodK.new hF n true
  have ha:0≤n∧n<F.nodes:=by
   have:=h.nl
   unfold CluM.upE at hu
   split at hu
   ·cases hu
   ·omega
  obtain⟨k1,k2⟩:=hk.take nr.c1 hf.ok 16 (f:=cfgF C.mas.ch) (ms:=C.mas.ch.ms) ⟨fun _=>h.mas.ch,fun h=>absurd h (by show ¬(8:Int)=4;decide)⟩ C.now
  exact PacI.post (n:=n) (h.node1 _ k1 (takeR_fit hf yd _ _ _ _).ok) (.inl ha) (k2.all yd)
 ·exact h
theorem join(hF:F=fitM F)(nr:Near F)(h:PacI F C)(n:Int):PacI F (C.join n).1:=by
 obtain⟨k1,k2⟩:=mjoin_k h.mas n C.now
 unfold CluM.join
 dsimp only
 split
 ·exact h
 ·exact((h.master k1).back hF nr n).post16 k2
theorem call(nr:Near F)(h:PacI F C)(s:StpM):PacI F (C.call s).1:=by
 unfold CluM.call
 split
 ·exact h
 ·rename_i x hx
  split
  ·exact h
  ·obtain⟨hm,ha⟩:=h.cli_at hx
   have hk:=ccall_k (32+s.a) nr.n6 (h.cli x hm) s.op s.b (C.dead s.c) C.now
   have h':=h.setCli s.a hk.1
   have h2:PacI F ({ C.setCli s.a (x.call s.op s.b (C.dead s.c) C.now).1 with his:=C.his.call s.a (x.call s.op s.b (C.dead s.c) C.now).1.seq s.op }:CluM):=⟨h'.cf,h'.nl,h'.cl,h'.mas,h'.nod,h'.cli,h'.mail⟩
   exact h2.post ha hk.2
theorem step(hF:F=fitM F)(nr:Near F)(h:PacI F C)(hl:∀r,some r∈C.nodes→r.Fit∧r.rds.last<100000000)(s:StpM):PacI F (C.step s).1:=by
 have n6:=nr.n6
 by_cases k1:s.kind=1
 ·rw[st_1 C k1];exact h.call nr s
 by_cases k2:s.kind=2
 ·rw[st_2 C k2]
  cases hr:C.node s.a with
  | none=>exact h
  | some r=>
   obtain⟨hm,ha,hlt⟩:=h.node_at hr
   obtain⟨q1,q2⟩:=(h.nod r hm).1.step nr.c1 (h.nod r hm).2 C.now
   exact(h.node1 _ q1 (stepR_fit (hl r hm).1 C.now).ok).post ha (q2.all yd)
 by_cases k3:s.kind=3
 ·rw[st_3 C k3];exact h.tick nr
 by_cases k4:s.kind=4
 ·rw[st_4 C k4];exact h.deliver nr hl _ _
 by_cases k5:s.kind=5
 ·rw[st_5 C k5];exact h.links (h.mail.drop _ _)
 by_cases k6:s.kind=6
 ·rw[st_6 C k6];exact h.links (h.mail.double _ _)
 by_cases k7:s.kind=7
 ·rw[st_7 C k7]
  split
  ·exact h
  ·exact h.setNode _ fun r e=>by cases e
 by_cases k8:s.kind=8
 ·rw[st_8 C k8]
  obtain⟨q1,q2⟩:=msuspect_k h.mas s.a
  exact(h.master q1).post16 q2
 by_cases k9:s.kind=9
 ·rw[st_9 C k9];exact h.join hF nr s.a
 by_cases k10:s.kind=10
 ·rw[st_10 C k10]
  obtain⟨q1,q2⟩:=mdrain_k h.mas s.a
  exact(h.master q1).post16 q2
 by_cases k11:s.kind=11
 ·rw[st_11 C k11]
  obtain⟨q1,q2⟩:=mtick_k h.mas C.now
  exact(h.master q1).post16 q2
 ·rw[st_no C fun j h1 h2=>by
   rcases(by omega:j=1∨j=2∨j=3∨j=4∨j=5∨j=6∨j=7∨j=8∨j=9∨j=10∨j=11) with rfl | rfl | rfl | rfl | rfl | rfl | rfl | rfl | rfl | rfl | rfl<;>assumption]
  exact h
theorem do_(hF:F=fitM F)(nr:Near F)(h:PacI F C){b e:Nat}(ok:C.Ok b e)(hb:b<100000)(s:StpM):PacI F (C.do_ s).1:=by
 have h':=h.step hF nr (fun r hr=>⟨ok.fit r hr,by have:=ok.last r hr;omega⟩) s
 exact⟨h'.cf,h'.nl,h'.cl,h'.mas,h'.nod,h'.cli,h'.mail⟩
theorem new(hF:F=fitM F):PacI F (newC F):=by
 have hb:=conf_bounds hF
 exact⟨rfl,by show((((List.range F.nodes.toNat).map _).length:Nat):Int)≤_;rw[List.length_map,List.length_range];omega,by show((((List.range F.clients.toNat).map _).length:Nat):Int)≤_;rw[List.length_map,List.length_range];omega,⟨rfl,first_k hF⟩,fun r hr=>by
  obtain⟨n,_,e⟩:=List.mem_map.1 hr
  cases e;exact⟨NodK.new hF _ _,(Rep.newR_fit hF _ _).ok⟩,fun s hs=>by
  obtain⟨n,_,rfl⟩:=List.mem_map.1 hs
  exact fun m hm=>(by cases hm),fun x hx=>absurd hx List.not_mem_nil⟩
end PacI
def pairsA(N C:Nat):List PrM:=
 ((List.range N).flatMap fun(a:Nat)=>((List.range N).filter fun(b:Nat)=>b≠a).map fun(b:Nat)=>((a:Int),(b:Int)))++(((List.range N).map fun(a:Nat)=>((a:Int),(16:Int)))++(((List.range N).map fun(a:Nat)=>((16:Int),(a:Int))) ++
 (((List.range N).flatMap fun(a:Nat)=>(List.range C).map fun(c:Nat)=>((a:Int),32+(c:Int)))++(((List.range C).flatMap fun(c:Nat)=>(List.range N).map fun(a:Nat)=>(32+(c:Int),(a:Int)))++(((List.range C).map fun(c:Nat)=>((16:Int),32+(c:Int)))++((List.range C).map fun(c:Nat)=>(32+(c:Int),(16:Int))))))))
theorem pairsA_len{N C:Nat}(hN:N≤6)(hC:C≤6):(pairsA N C).length=N*(N-1)+2*N+2*N*C+2*C:=by
 have h:((List.range 7).all fun N=>(List.range 7).all fun C=>decide ((pairsA N C).length=N*(N-1)+2*N+2*N*C+2*C))=true:=by decide +kernel
 have h1:=List.all_eq_true.1 h N (List.mem_range.2 yd)
 have h2:=List.all_eq_true.1 h1 C (List.mem_range.2 yd)
 simpa using h2
theorem pairsA_mem{F:ConfM}{p:PrM}(h:PrK F p):p∈pairsA F.nodes.toNat F.clients.toNat:=by
 obtain⟨h1,h2,h3,h4⟩:=h
 obtain⟨a,b⟩:=p
 dsimp only at h1 h2 h3 h4
 unfold pairsA
 simp only[List.mem_append,List.mem_flatMap,List.mem_map,List.mem_filter,List.mem_range,Prod.mk.injEq,decide_eq_true_eq]
 rcases h1 with h1 | h1 | h1<;>rcases h2 with h2 | h2 | h2
 ·exact .inl ⟨a.toNat,by omega,b.toNat,⟨by omega,by omega⟩,by omega,by omega⟩
 ·exact .inr (.inl ⟨a.toNat,by omega,by omega,by omega⟩)
 ·exact .inr (.inr (.inr (.inl ⟨a.toNat,by omega,(b-32).toNat,by omega,by omega,by omega⟩)))
 ·exact .inr (.inr (.inl ⟨b.toNat,by omega,by omega,by omega⟩))
 ·omega
 ·exact .inr (.inr (.inr (.inr (.inr (.inl ⟨(b-32).toNat,by omega,by omega,by omega⟩)))))
 ·exact .inr (.inr (.inr (.inr (.inl ⟨(a-32).toNat,by omega,b.toNat,by omega,by omega,by omega⟩))))
 ·exact .inr (.inr (.inr (.inr (.inr (.inr ⟨(a-32).toNat,by omega,by omega,by omega⟩)))))
 ·omega
theorem pairs_few{S:LnkM}(h:MailK F S)(ok:S.Ok)(hb:1≤F.nodes∧F.nodes≤6)(hc:0≤F.clients∧F.clients≤6):S.mail.length≤F.nodes.toNat*(F.nodes.toNat-1)+2*F.nodes.toNat+2*F.nodes.toNat*F.clients.toNat+2*F.clients.toNat:=by
 have h1:=Pc.nodup_sub ok.nd (m:=pairsA F.nodes.toNat F.clients.toNat) fun p hp=>by
  obtain⟨x,hx,rfl⟩:=List.mem_map.1 hp
  exact pairsA_mem (h x hx).1
 rw[pairsA_len yd yd,List.length_map] at h1
 exact h1
end
end Cl
namespace Cl
open Go Vg T Api Ch Rep Conf Lg Rd
structure ChV(c:ChM):Prop where
 e1:1≤c.epoch
 e2:c.epoch≤1099511627776
 l1:1≤c.ms.length
 l2:c.ms.length≤6
 nd:(c.ms.map Prod.fst).Nodup
 mr:∀m∈c.ms,(0≤m.1∧m.1<6)∧1≤m.2∧m.2≤c.epoch
 dr:c.drain=-1∨c.drain∈c.ms.map Prod.fst
theorem place_is{ms:List MemM}(hn:(ms.map Prod.fst).Nodup){i:Nat}{m:MemM}(hm:ms[i]?=some m):placeOf ms m.1=i:=by
 refine place_hit hm rfl fun j m' hj hm' he=>?_
 have h1:(ms.map Prod.fst)[j]?=some m.1:=by rw[List.getElem?_map,hm',←he];rfl
 have h2:(ms.map Prod.fst)[i]?=some m.1:=by rw[List.getElem?_map,hm];rfl
 have hi:=(List.getElem?_eq_some_iff.1 h2).1
 have:=(List.getElem?_inj (by rw[List.length_map] at hi ⊢;omega:j<(ms.map Prod.fst).length) hn).1 (h1.trans h2.symm)
 omega
theorem place_neg{ms:List MemM}{n:Int}:placeOf ms n<0↔n∉ms.map Prod.fst:=by
 rcases place_range ms n with h | ⟨i,m,h1,h2,h3,h4⟩
 ·rw[h]
  refine⟨fun _ hm=>?_,fun _=>by decide⟩
  obtain⟨m,hm2,rfl⟩:=List.mem_map.1 hm
  unfold placeOf at h
  cases hf:ms.findIdx? (fun x=>decide (x.1=m.1)) with
  | none=>
   have:=List.findIdx?_eq_none_iff.1 hf m hm2
   simp at this
  | some i=>rw[hf] at h;exact absurd h (by show ¬((i:Int)=-1);omega)
 ·rw[h1]
  refine⟨fun h=>by omega,fun h=>absurd (List.mem_map.2 ⟨m,ME h3,h4⟩) h⟩
theorem chv_e{c:ChM}:chE c=0↔ChV c:=by
 have e0:chE c=0↔chOk c=true:=by unfold chE;split<;>simp_all
 rw[e0]
 unfold chOk headOk drainOk
 simp only[Bool.and_eq_true,Bool.or_eq_true,decide_eq_true_eq,List.all_eq_true,List.mem_range]
 constructor
 ·rintro⟨⟨a,b,c1,d⟩,h,hd⟩
  have hm:∀(i:Nat) (m:MemM),c.ms[i]?=some m→(0≤m.1∧m.1<6)∧placeOf c.ms m.1=i∧1≤m.2∧m.2≤c.epoch:=fun i m hi=>by
   have:=h i (List.getElem?_eq_some_iff.1 hi).1
   unfold memOk nodeB at this
   rw[hi] at this
   simpa using this
  refine⟨a,b,c1,d,?_,fun m hm'=>?_,?_⟩
  ·unfold List.Nodup
   rw[List.pairwise_iff_getElem]
   intro i j hi hj hij he
   rw[List.length_map] at hi hj
   rw[List.getElem_map,List.getElem_map] at he
   have h1:=(hm i _ (GE hi)).2.1
   have h2:=(hm j _ (GE hj)).2.1
   rw[he] at h1
   omega
  ·obtain⟨i,hi⟩:=List.getElem?_of_mem hm'
   have:=hm i m hi
   exact⟨this.1,this.2.2⟩
  ·rcases hd with hd | hd
   ·exact .inl hd
   ·refine .inr ?_
    by_cases hx:c.drain∈c.ms.map Prod.fst
    ·exact hx
    ·have:=place_neg.2 hx;omega
 ·intro h
  refine⟨⟨h.e1,h.e2,h.l1,h.l2⟩,fun i hi=>?_,?_⟩
  ·have hi':c.ms[i]?=some c.ms[i]:=GE hi
   unfold memOk nodeB
   rw[hi']
   have:=h.mr _ (ME hi')
   simp only[Bool.and_eq_true,decide_eq_true_eq]
   exact⟨this.1,place_is h.nd hi',this.2⟩
  ·rcases h.dr with hd | hd
   ·exact .inl hd
   ·refine .inr ?_
    by_cases hx:placeOf c.ms c.drain<0
    ·exact absurd hd (place_neg.1 hx)
    ·omega
theorem few_nodes{l:List Int}(hn:l.Nodup)(hr:∀x∈l,0≤x∧x<6):l.length≤6:=by
 have h1:(l.map Int.toNat).Nodup:=by
  unfold List.Nodup at hn ⊢
  rw[List.pairwise_map]
  refine hn.imp_of_mem fun {a b} ha hb h e=>h ?_
  have:=hr a ha
  have:=hr b hb
  omega
 have:=nat_sub_len (m:=List.range 6) h1 fun x hx=>by
  obtain⟨a,ha,rfl⟩:=List.mem_map.1 hx
  have:=hr a ha
  rw[List.mem_range]
  omega
 rw[List.length_map,List.length_range] at this
 exact this
theorem further_0{c:ChM}(h:furtherE c=0):ChV c∧c.epoch<1099511627776:=by
 unfold furtherE at h
 split at h
 ·cases h
 ·rename_i h1
  have h2:chE c=0:=by
   by_cases hx:chE c=0
   ·exact hx
   ·exact absurd (.inl hx) h1
  have hv:=chv_e.1 h2
  have:=hv.e2
  refine⟨hv,?_⟩
  by_cases hx:c.epoch=1099511627776
  ·exact absurd (.inr hx) h1
  ·omega
theorem ChV.with_{c:ChM}{n:Int}(h:(withC c n).2=0):ChV (withC c n).1:=by
 obtain⟨h1,h2,h3,h4⟩:=wi_ok h
 obtain⟨v,hlt⟩:=further_0 h1
 have hn:0≤n∧n<6:=by unfold nodeB at h2;simpa using h2
 have hno:=place_neg.1 h3
 rw[h4]
 have hnd:((c.ms ++ [(n,c.epoch+1)]).map Prod.fst).Nodup:=by
  rw[List.map_append,List.nodup_append]
  refine⟨v.nd,by simp,fun a ha b hb=>?_⟩
  simp at hb
  rw[hb]
  intro e;rw[e] at ha;exact hno ha
 have:=v.e1
 have hmr:∀m∈c.ms ++ [(n,c.epoch+1)],(0≤m.1∧m.1<6)∧1≤m.2∧m.2≤c.epoch+1:=fun m hm=>by
  rcases List.mem_append.1 hm with hm | hm
  ·have:=v.mr m hm;exact⟨this.1,this.2.1,by omega⟩
  ·rw[List.mem_singleton.1 hm];exact⟨hn,by show 1≤c.epoch+1;omega,Int.le_refl _⟩
 refine⟨by show 1≤c.epoch+1;omega,by show c.epoch+1≤_;omega,by show 1≤(c.ms ++ [_]).length;simp,?_,hnd,hmr,?_⟩
 ·show(c.ms ++ [(n,c.epoch+1)]).length≤6
  have:=few_nodes hnd fun x hx=>by
   obtain⟨m,hm,rfl⟩:=List.mem_map.1 hx
   exact(hmr m hm).1
  rwa[List.length_map] at this
 ·rcases v.dr with hd | hd
  ·exact .inl hd
  ·exact .inr (by show c.drain∈(c.ms ++ [_]).map Prod.fst;rw[List.map_append];exact List.mem_append.2 (.inl hd))
theorem ChV.without{c:ChM}{n:Int}(h:(withoutC c n).2=0):ChV (withoutC c n).1:=by
 obtain⟨h1,h2,h4⟩:=wo_ok h
 obtain⟨v,hlt⟩:=further_0 h1
 obtain⟨hp,hl⟩:=lv_0 h2
 obtain⟨i,m,h5,h6,h7,h8⟩:=place_mem hp
 rw[h4,h5]
 have:=v.e1
 have:=v.l1
 have:=v.l2
 have hs:(c.ms.eraseIdx i).Sublist c.ms:=List.eraseIdx_sublist ..
 have hlen:(c.ms.eraseIdx i).length=c.ms.length-1:=List.length_eraseIdx_of_lt h6
 show ChV ⟨c.epoch+1,c.ms.eraseIdx i,if c.drain=n then -1 else c.drain⟩
 refine⟨by show 1≤c.epoch+1;omega,by show c.epoch+1≤_;omega,by show 1≤(c.ms.eraseIdx i).length;omega,by show(c.ms.eraseIdx i).length≤6;omega,(hs.map _).nodup v.nd,fun m hm=>by
  have:=v.mr m (hs.subset hm)
  exact⟨this.1,this.2.1,by show m.2≤c.epoch+1;omega⟩,?_⟩
 show(if c.drain=n then -1 else c.drain)=-1∨(if c.drain=n then -1 else c.drain)∈(c.ms.eraseIdx i).map Prod.fst
 split
 ·exact .inl rfl
 ·rename_i hd
  rcases v.dr with h | h
  ·exact .inl h
  ·refine .inr ?_
   obtain⟨m',hm',he⟩:=List.mem_map.1 h
   obtain⟨j,hj⟩:=List.getElem?_of_mem hm'
   rw[←he]
   refine List.mem_map.2 ⟨m',?_,rfl⟩
   rw[List.mem_eraseIdx_iff_getElem?]
   refine⟨j,fun e=>hd ?_,hj⟩
   rw[e,h7] at hj
   cases hj
   rw[←he,h8]
theorem ChV.drain_{c:ChM}{n:Int}(h:(drainC c n).2=0):ChV (drainC c n).1:=by
 obtain⟨h1,h2,h3,h4⟩:=dr_ok h
 obtain⟨v,hlt⟩:=further_0 h1
 obtain⟨hp,hl⟩:=lv_0 h2
 rw[h4]
 have:=v.e1
 refine⟨by show 1≤c.epoch+1;omega,by show c.epoch+1≤_;omega,v.l1,v.l2,v.nd,fun m hm=>by
  have:=v.mr m hm
  exact⟨this.1,this.2.1,by show m.2≤c.epoch+1;omega⟩,.inr ?_⟩
 show n∈c.ms.map Prod.fst
 by_cases hx:n∈c.ms.map Prod.fst
 ·exact hx
 ·have:=place_neg.2 hx;omega
theorem ChV.gone{M:MasM}{n:Int}(h:M.outE n=0):ChV (M.gone n).ch:=ChV.without h
theorem watch_v{now:Int}:∀(l:List MemM) (x:MasM×Bool),ChV x.1.ch→ChV (MasM.watch now l x).1.ch
 | [],_,h=>h
 | y::l,x,h=>by
  rw[MasM.watch]
  refine watch_v l _ ?_
  split
  ·rename_i hl
   unfold MasM.late at hl
   simp only[Bool.and_eq_true,decide_eq_true_eq] at hl
   exact ChV.gone hl.2.2
  ·exact h
theorem mtake_v{M:MasM}(h:ChV M.ch)(from_:Int)(f:FrameM)(now:Int):ChV (M.take from_ f now).1.ch:=by
 unfold MasM.take
 split
 ·exact h
 split
 ·exact h
 split
 ·split
  ·exact h
  split<;>exact h
 split
 ·split
  ·exact h
  split<;>exact h
 split
 ·split
  ·rename_i hh;exact ChV.gone hh.2.2
  ·exact h
 ·exact h
theorem msuspect_v{M:MasM}(h:ChV M.ch)(n:Int):ChV (M.suspect n).1.ch:=by
 unfold MasM.suspect
 split
 ·exact h
 split
 ·exact h
 ·rename_i hh;exact ChV.gone ycg
theorem mdrain_v{M:MasM}(h:ChV M.ch)(n:Int):ChV (M.drain n).1.ch:=by
 unfold MasM.drain
 split
 ·exact h
 split
 ·exact h
 ·rename_i hh;exact ChV.drain_ ycg
theorem mjoin_v{M:MasM}(h:ChV M.ch)(n now:Int):ChV (M.join n now).1.ch:=by
 unfold MasM.join
 split
 ·exact h
 split
 ·exact h
 ·rename_i hh;exact ChV.with_ ycg
theorem first_v{c:ConfM}(h:c=fitM c):ChV (firstC c):=by
 have hb:=conf_bounds h
 have hm:(firstC c).ms=firstMs c.chain.toNat:=rfl
 refine⟨Int.le_refl _,by show(1:Int)≤_;decide,by rw[hm,firstMs_len];omega,by rw[hm,firstMs_len];omega,?_,fun m hx=>?_,.inl rfl⟩
 ·rw[hm]
  unfold firstMs List.Nodup
  rw[List.map_map,List.pairwise_map]
  refine List.nodup_range.imp fun {a b} h e=>h ?_
  have e:((a:Nat):Int)=(b:Nat):=e
  omega
 ·rw[hm] at hx
  unfold firstMs at hx
  obtain⟨i,hi,rfl⟩:=List.mem_map.1 hx
  have:=List.mem_range.1 hi
  exact⟨⟨by show(0:Int)≤i;omega,by show(i:Int)<6;omega⟩,Int.le_refl _,Int.le_refl _⟩
end Cl
namespace Cl
open Go Vg T Api Ch Rep Conf Lg Rd
section
variable {C:CluM} {b e:Nat} {k:Int}
theorem tick_mas:C.tick.mas=C.mas:=by
 have h1:∀(l:List Nat) {D:CluM},(l.foldl CluM.tickN D).mas=D.mas:=by
  intro l
  induction l with
  | nil=>exact rfl
  | cons x l ih=>
   intro D
   rw[List.foldl_cons,ih]
   unfold CluM.tickN
   split<;>rfl
 have h2:∀(l:List Nat) {D:CluM},(l.foldl CluM.tickC D).mas=D.mas:=by
  intro l
  induction l with
  | nil=>exact rfl
  | cons x l ih=>
   intro D
   rw[List.foldl_cons,ih]
   unfold CluM.tickC
   split<;>rfl
 exact(h2 _).trans (h1 _)
theorem takes_chv(hv:ChV C.mas.ch)(from_ to:Int)(f:FrameM)(ms:List MemM):ChV (C.takes from_ to f ms).mas.ch:=by
 unfold CluM.takes
 split
 ·exact mtake_v hv _ _ _
 split
 ·exact hv
 split
 ·exact hv
 ·exact hv
theorem deliver_chv(hv:ChV C.mas.ch)(p:PrM)(i:Int):ChV (C.deliver p i).1.mas.ch:=by
 unfold CluM.deliver
 split
 ·exact hv
 ·show ChV (CluM.got _ _ _ _).mas.ch
  unfold CluM.got
  split
  ·exact takes_chv (C:=({ C with lnk:=C.lnk.without p i }:CluM)) hv _ _ _ _
  ·exact hv
end
end Cl
namespace Cl
open Go Vg T Api Ch Rep Conf Lg Rd
section
variable {C:CluM} {b e:Nat} {k:Int}
theorem tick_conf:C.tick.conf=C.conf:=by
 have h1:∀(l:List Nat) {D:CluM},(l.foldl CluM.tickN D).conf=D.conf:=by
  intro l
  induction l with
  | nil=>exact rfl
  | cons x l ih=>
   intro D
   rw[List.foldl_cons,ih]
   unfold CluM.tickN
   split<;>rfl
 have h2:∀(l:List Nat) {D:CluM},(l.foldl CluM.tickC D).conf=D.conf:=by
  intro l
  induction l with
  | nil=>exact rfl
  | cons x l ih=>
   intro D
   rw[List.foldl_cons,ih]
   unfold CluM.tickC
   split<;>rfl
 exact(h2 _).trans (h1 _)
theorem takes_conf(from_ to:Int)(f:FrameM)(ms:List MemM):(C.takes from_ to f ms).conf=C.conf:=by
 unfold CluM.takes
 split
 ·rfl
 split
 ·rfl
 split<;>rfl
theorem back_conf(n:Int):(C.back n).conf=C.conf∧(C.back n).mas=C.mas:=by
 unfold CluM.back
 split<;>exact⟨rfl,rfl⟩
theorem step_keep(s:StpM):(C.step s).1.conf=C.conf∧(ChV C.mas.ch→ChV (C.step s).1.mas.ch):=by
 by_cases k1:s.kind=1
 ·rw[st_1 C k1]
  unfold CluM.call
  split
  ·exact⟨rfl,fun h=>h⟩
  split<;>exact⟨rfl,fun h=>h⟩
 by_cases k2:s.kind=2
 ·rw[st_2 C k2]
  cases C.node s.a<;>exact⟨rfl,fun h=>h⟩
 by_cases k3:s.kind=3
 ·rw[st_3 C k3]
  exact⟨tick_conf,fun h=>by show ChV C.tick.mas.ch;rw[tick_mas];exact h⟩
 by_cases k4:s.kind=4
 ·rw[st_4 C k4]
  refine⟨?_,fun h=>deliver_chv h _ _⟩
  unfold CluM.deliver
  split
  ·rfl
  ·show(CluM.got _ _ _ _).conf=_
   unfold CluM.got
   split
   ·exact takes_conf _ _ _ _
   ·rfl
 by_cases k5:s.kind=5
 ·rw[st_5 C k5];exact⟨rfl,fun h=>h⟩
 by_cases k6:s.kind=6
 ·rw[st_6 C k6];exact⟨rfl,fun h=>h⟩
 by_cases k7:s.kind=7
 ·rw[st_7 C k7]
  split<;>exact⟨rfl,fun h=>h⟩
 by_cases k8:s.kind=8
 ·rw[st_8 C k8];exact⟨rfl,fun h=>msuspect_v h _⟩
 by_cases k9:s.kind=9
 ·rw[st_9 C k9]
  unfold CluM.join
  dsimp only
  split
  ·exact⟨rfl,fun h=>h⟩
  ·refine⟨(back_conf (C:=({ C with mas:=(C.mas.join s.a C.now).1 }:CluM)) s.a).1,fun h=>?_⟩
   show ChV (({ C with mas:=(C.mas.join s.a C.now).1 }:CluM).back s.a).mas.ch
   rw[(back_conf (C:=({ C with mas:=(C.mas.join s.a C.now).1 }:CluM)) s.a).2]
   exact mjoin_v h _ _
 by_cases k10:s.kind=10
 ·rw[st_10 C k10];exact⟨rfl,fun h=>mdrain_v h _⟩
 by_cases k11:s.kind=11
 ·rw[st_11 C k11];exact⟨rfl,fun h=>watch_v _ _ h⟩
 ·rw[st_no C fun j h1 h2=>by
   rcases(by omega:j=1∨j=2∨j=3∨j=4∨j=5∨j=6∨j=7∨j=8∨j=9∨j=10∨j=11) with rfl | rfl | rfl | rfl | rfl | rfl | rfl | rfl | rfl | rfl | rfl<;>assumption]
  exact⟨rfl,fun h=>h⟩
theorem do_keep(s:StpM):(C.do_ s).1.conf=C.conf∧(ChV C.mas.ch→ChV (C.do_ s).1.mas.ch):=step_keep s
structure RunOk(F:ConfM)(C:CluM)(i:Nat):Prop where
 ok:C.Ok i (7*i)
 cf:C.conf=F
 chv:ChV C.mas.ch
theorem RunOk.do_{F:ConfM}{C:CluM}{i:Nat}(h:RunOk F C i)(hi:i<100000)(s:StpM):RunOk F (C.do_ s).1 (i+1):=
 ⟨(h.ok.do_ yd yd s).mono (NR _) yd,(do_keep s).1.trans h.cf,(do_keep s).2 h.chv⟩
theorem RunOk.new{F:ConfM}(h:F=fitM F):RunOk F (newC F) 0:=⟨newC_ok h,rfl,first_v h⟩
theorem RunOk.nodes{F:ConfM}{C:CluM}{i:Nat}(h:RunOk F C i):C.nodes.length=F.nodes.toNat:=by rw[h.ok.nl,h.cf]
theorem few_mail{S:LnkM}(ok:S.Ok)(ha:S.Adr):S.mail.length≤1444:=by
 have h1:((S.mail.map Prod.fst).map fun p:PrM=>p.1.toNat*38+p.2.toNat).Nodup:=by
  have hn:=ok.nd
  unfold List.Nodup at hn ⊢
  rw[List.pairwise_map]
  refine hn.imp_of_mem fun {a b} hma hmb h e=>h ?_
  obtain⟨x,hx,rfl⟩:=List.mem_map.1 hma
  obtain⟨z,hz,rfl⟩:=List.mem_map.1 hmb
  have x1:=adr_r (ha x hx).1
  have x2:=adr_r (ha x hx).2
  have z1:=adr_r (ha z hz).1
  have z2:=adr_r (ha z hz).2
  have:x.1.1=z.1.1∧x.1.2=z.1.2:=by omega
  exact Prod.ext this.1 this.2
 have:=nat_sub_len (m:=List.range 1444) h1 fun n hn=>by
  obtain⟨q,hq,rfl⟩:=List.mem_map.1 hn
  obtain⟨x,hx,rfl⟩:=List.mem_map.1 hq
  have x1:=adr_r (ha x hx).1
  have x2:=adr_r (ha x hx).2
  rw[List.mem_range]
  omega
 rw[List.length_map,List.length_map,List.length_range] at this
 exact this
end
end Cl
namespace Cl
open Go Vg T Api Ch Rep Conf Lg Rd
inductive KeyD where
 | stp (n:Nat)
 | tick
 | watch
 | pr (p:PrM)
 deriving DecidableEq
def KeyD.step:KeyD→StpM
 | .stp n=>stS 2 n 0
 | .tick=>stS 3 0 0
 | .watch=>stS 11 0 0
 | .pr p=>stS 4 p.1 p.2
structure PacM where
 clu:CluM
 done:Nat
 up:List Bool
 steps:List Int
 tick:Int
 watch:Int
 mail:List (PrM×Int)
def upB(C:CluM)(n:Nat):Bool:=(C.node (n:Nat)).isSome
def PacM.look(R:PacM)(took:Bool)(gone:PrM):PacM where
 clu:=R.clu
 done:=R.done
 up:=(List.range 6).map fun n=>upB R.clu n
 steps:=(List.range 6).map fun n=>if upB R.clu n && !((R.up[n]?).getD false) then (R.done:Int) else (R.steps[n]?).getD 0
 tick:=R.tick
 watch:=R.watch
 mail:=R.clu.lnk.mail.map fun x=>(x.1,match mGet R.mail x.1 with
  | none=>(R.done:Int)
  | some t=>if took=true∧x.1=gone then (R.done:Int) else t)
def PacM.did(R:PacM)(s:StpM):PacM where
 clu:=(R.clu.do_ s).1
 done:=R.done+1
 up:=R.up
 steps:=if s.kind=2∧0≤s.a∧s.a<6 then R.steps.set s.a.toNat (R.done+1:Nat) else R.steps
 tick:=if s.kind=3 then ((R.done+1:Nat):Int) else R.tick
 watch:=if s.kind=11 then ((R.done+1:Nat):Int) else R.watch
 mail:=R.mail
def tookB(s:StpM):Bool:=(decide (s.kind=4)||decide (s.kind=5))&&decide (s.c=0)
def PacM.do_(R:PacM)(s:StpM):PacM:=(R.did s).look (tookB s) (s.a,s.b)
def PacM.new(c:ConfM):PacM:=PacM.look ⟨newC c,0,List.replicate 6 false,List.replicate 6 0,0,0,[]⟩ false (0,0)
def dueN(R:PacM):List (KeyD×Int):=((List.range 6).filter fun n=>(R.up[n]?).getD false).map fun n=>(.stp n,(R.steps[n]?).getD 0)
def PacM.due(R:PacM):List (KeyD×Int):=dueN R++((.tick,R.tick)::(.watch,R.watch)::R.mail.map fun x=>(.pr x.1,x.2))
def PacM.run(c:ConfM)(l:List StpM):PacM:=l.foldl PacM.do_ (PacM.new c)
theorem pac_snoc(c:ConfM)(l:List StpM)(s:StpM):PacM.run c (l ++ [s])=(PacM.run c l).do_ s:=by
 unfold PacM.run
 rw[List.foldl_append];rfl
structure PacOk(F:ConfM)(R:PacM)(i:Nat):Prop where
 run:RunOk F R.clu i
 inv:PacI F R.clu
 done:R.done=i
 ul:R.up.length=6
 sl:R.steps.length=6
 up:∀n,(R.up[n]?).getD false=true→n<F.nodes.toNat
 keys:R.mail.map Prod.fst=R.clu.lnk.mail.map Prod.fst
 s0:∀x∈R.due,0≤x.2∧x.2≤R.done
def dueMost(F:ConfM):Nat:=F.nodes.toNat+2+(F.nodes.toNat*(F.nodes.toNat-1)+2*F.nodes.toNat+2*F.nodes.toNat*F.clients.toNat+2*F.clients.toNat)
theorem look_up(R:PacM)(took:Bool)(gone:PrM)(n:Nat):((R.look took gone).up[n]?).getD false=if n<6 then upB R.clu n else false:=by
 show(((List.range 6).map fun n=>upB R.clu n)[n]?).getD false=_
 rw[List.getElem?_map]
 by_cases h:n<6
 ·rw[List.getElem?_range h,if_pos h];rfl
 ·rw[List.getElem?_eq_none (by rw[List.length_range];omega),if_neg h];rfl
theorem look_steps(R:PacM)(took:Bool)(gone:PrM){n:Nat}(h:n<6):((R.look took gone).steps[n]?).getD 0=if upB R.clu n && !((R.up[n]?).getD false) then (R.done:Int) else (R.steps[n]?).getD 0:=by
 show(((List.range 6).map fun n=>if upB R.clu n && !((R.up[n]?).getD false) then (R.done:Int) else (R.steps[n]?).getD 0)[n]?).getD 0=_
 rw[List.getElem?_map,List.getElem?_range h];rfl
theorem look_keys(R:PacM)(took:Bool)(gone:PrM):(R.look took gone).mail.map Prod.fst=R.clu.lnk.mail.map Prod.fst:=by
 show(R.clu.lnk.mail.map _).map Prod.fst=_
 rw[List.map_map];rfl
theorem due_keys{F:ConfM}{R:PacM}{i:Nat}(h:PacOk F R i):(R.due.map Prod.fst).Nodup:=by
 unfold PacM.due dueN
 rw[List.map_append,List.map_map,List.map_cons,List.map_cons,List.map_map,List.nodup_append]
 have hm:(R.mail.map ((Prod.fst:KeyD×Int→KeyD)∘fun x=>(.pr x.1,x.2))).Nodup:=by
  have h1:(R.mail.map Prod.fst).Nodup:=by rw[h.keys];exact h.run.ok.lnk.nd
  have h2:=h1
  unfold List.Nodup at h1 ⊢
  rw[List.pairwise_map] at h1 ⊢
  exact h1.imp fun g e=>g (by injection e)
 refine⟨?_,?_,?_⟩
 ·have h1:((List.range 6).filter fun n=>(R.up[n]?).getD false).Nodup:=List.nodup_range.filter _
  unfold List.Nodup at h1 ⊢
  rw[List.pairwise_map]
  exact h1.imp fun g e=>g (by injection e)
 ·rw[List.nodup_cons,List.nodup_cons]
  refine⟨fun hx=>?_,fun hx=>?_,hm⟩
  ·rcases List.mem_cons.1 hx with hx | hx
   ·cases hx
   ·obtain⟨y,_,e⟩:=List.mem_map.1 hx;cases e
  ·obtain⟨y,_,e⟩:=List.mem_map.1 hx;cases e
 ·intro a ha b hb e
  obtain⟨n,_,rfl⟩:=List.mem_map.1 ha
  rw[←e] at hb
  rcases List.mem_cons.1 hb with hb | hb
  ·cases hb
  rcases List.mem_cons.1 hb with hb | hb
  ·cases hb
  ·obtain⟨y,_,e⟩:=List.mem_map.1 hb;cases e
theorem due_few{F:ConfM}{R:PacM}{i:Nat}(hF:F=fitM F)(h:PacOk F R i):R.due.length≤dueMost F:=by
 have hb:=conf_bounds hF
 have h1:=pairs_few h.inv.mail h.run.ok.lnk yd yd
 have h2:((List.range 6).filter fun n=>(R.up[n]?).getD false).length≤F.nodes.toNat:=by
  have:=Pc.nodup_sub (l:=(List.range 6).filter fun n=>(R.up[n]?).getD false) (m:=List.range F.nodes.toNat) (List.nodup_range.filter _) fun n hn=>by
   rw[List.mem_range]
   exact h.up n (List.mem_filter.1 hn).2
  rw[List.length_range] at this
  exact this
 have h3:R.mail.length=R.clu.lnk.mail.length:=by
  have:=congrArg List.length h.keys
  rw[List.length_map,List.length_map] at this
  exact this
 unfold PacM.due dueN dueMost
 rw[List.length_append,List.length_map,List.length_cons,List.length_cons,List.length_map]
 omega
theorem due_next{R:PacM}(sl:R.steps.length=6)(s:StpM){k:Option KeyD}(hk:∀q,k=some q→s=q.step):∀x∈(R.do_ s).due,x.2=R.done+1∨(x∈R.due∧some x.1≠k):=fun x hx=>by
 have hd:((R.did s).done:Int)=R.done+1:=by show((R.done+1:Nat):Int)=_;push_cast;rfl
 unfold PacM.due at hx
 rcases List.mem_append.1 hx with hx | hx
 ·obtain⟨n,hn,rfl⟩:=List.mem_map.1 hx
  obtain⟨hn6,hup⟩:=List.mem_filter.1 hn
  rw[List.mem_range] at hn6
  dsimp only
  have hsn:((R.do_ s).steps[n]?).getD 0=if upB (R.did s).clu n && !((R.up[n]?).getD false) then ((R.did s).done:Int) else ((R.did s).steps[n]?).getD 0:=look_steps (R.did s) (tookB s) (s.a,s.b) hn6
  rw[hsn]
  split
  ·exact .inl hd
  ·rename_i hno
   have hup:(((R.did s).look (tookB s) (s.a,s.b)).up[n]?).getD false=true:=hup
   rw[look_up,if_pos hn6] at hup
   have hold:(R.up[n]?).getD false=true:=by
    rw[hup] at hno
    simpa using hno
   have hin:∀t,t=(R.steps[n]?).getD 0→((KeyD.stp n,t):KeyD×Int)∈R.due:=fun t e=>by
    unfold PacM.due dueN
    exact List.mem_append.2 (.inl (List.mem_map.2 ⟨n,List.mem_filter.2 ⟨List.mem_range.2 hn6,hold⟩,by rw[e]⟩))
   by_cases hs:s.kind=2∧0≤s.a∧s.a<6
   ·have e:(R.did s).steps=R.steps.set s.a.toNat (R.done+1:Nat):=if_pos hs
    rw[e,List.getElem?_set]
    by_cases ha:s.a.toNat=n
    ·rw[if_pos ha,if_pos yd]
     exact .inl hd
    ·rw[if_neg ha]
     refine .inr ⟨hin _ rfl,fun e=>?_⟩
     have:=hk _ e.symm
     rw[this] at ha
     exact ha (by show((n:Nat):Int).toNat=n;omega)
   ·have e:(R.did s).steps=R.steps:=if_neg hs
    rw[e]
    refine .inr ⟨hin _ rfl,fun e=>?_⟩
    have:=hk _ e.symm
    rw[this] at hs
    exact hs ⟨rfl,by show(0:Int)≤(n:Nat);omega,by show((n:Nat):Int)<6;omega⟩
 rcases List.mem_cons.1 hx with rfl | hx
 ·show(if s.kind=3 then _ else _)=_∨_
  by_cases h3:s.kind=3
  ·rw[if_pos h3];exact .inl hd
  ·rw[if_neg h3]
   refine .inr ⟨?_,fun e=>h3 (by rw[hk _ e.symm];rfl)⟩
   have e:(R.do_ s).tick=R.tick:=if_neg h3
   rw[e]
   exact List.mem_append.2 (.inr (List.mem_cons_self ..))
 rcases List.mem_cons.1 hx with rfl | hx
 ·show(if s.kind=11 then _ else _)=_∨_
  by_cases h3:s.kind=11
  ·rw[if_pos h3];exact .inl hd
  ·rw[if_neg h3]
   refine .inr ⟨?_,fun e=>h3 (by rw[hk _ e.symm];rfl)⟩
   have e:(R.do_ s).watch=R.watch:=if_neg h3
   rw[e]
   exact List.mem_append.2 (.inr (List.mem_cons_of_mem _ (List.mem_cons_self ..)))
 ·obtain⟨z,hz,rfl⟩:=List.mem_map.1 hx
  obtain⟨q,hq,rfl⟩:=List.mem_map.1 (show z∈(R.did s).clu.lnk.mail.map _ from hz)
  dsimp only
  have hm:(R.did s).mail=R.mail:=rfl
  rw[hm]
  cases hg:mGet R.mail q.1 with
  | none=>exact .inl hd
  | some t=>
   dsimp only
   by_cases ht:tookB s=true∧q.1=(s.a,s.b)
   ·rw[if_pos ht];exact .inl hd
   ·rw[if_neg ht]
    refine .inr ⟨?_,fun e=>ht ?_⟩
    ·exact List.mem_append.2 (.inr (List.mem_cons_of_mem _ (List.mem_cons_of_mem _ (List.mem_map.2 ⟨_,mGet_mem hg,rfl⟩))))
    ·rw[hk _ e.symm];exact⟨rfl,rfl⟩
theorem up_less{F:ConfM}{C:CluM}{i:Nat}(h:RunOk F C i){n:Nat}(hu:upB C n=true):n<F.nodes.toNat:=by
 unfold upB at hu
 cases hn:C.node (n:Nat) with
 | none=>rw[hn] at hu;cases hu
 | some r=>
  have:=h.nodes
  unfold CluM.node at hn
  rw[if_neg yd,Int.toNat_natCast] at hn
  cases hx:C.nodes[n]? with
  | none=>rw[hx] at hn;cases hn
  | some x=>
   have:=(List.getElem?_eq_some_iff.1 hx).1
   omega
theorem conf_near{F:ConfM}(hF:F=fitM F):Near F:=by
 have hb:=conf_bounds hF
 exact⟨by omega,by omega,by omega⟩
theorem PacOk.do_{F:ConfM}{R:PacM}{i:Nat}(hF:F=fitM F)(h:PacOk F R i)(hi:i<100000)(s:StpM):PacOk F (R.do_ s) (i+1):=by
 have hr:=h.run.do_ hi s
 refine⟨hr,h.inv.do_ hF (conf_near hF) h.run.ok hi s,by show R.done+1=_;rw[h.done],?_,?_,fun n hn=>?_,look_keys _ _ _,fun x hx=>?_⟩
 ·show((List.range 6).map _).length=6
  rw[List.length_map,List.length_range]
 ·show((List.range 6).map _).length=6
  rw[List.length_map,List.length_range]
 ·have hn:(((R.did s).look (tookB s) (s.a,s.b)).up[n]?).getD false=true:=hn
  rw[look_up] at hn
  split at hn
  ·exact up_less hr hn
  ·cases hn
 ·have hd:((R.do_ s).done:Int)=R.done+1:=by show((R.done+1:Nat):Int)=_;push_cast;rfl
  rw[hd]
  rcases due_next h.sl s (k:=none) (fun q e=>by cases e) x hx with h1 | ⟨h1,-⟩
  ·omega
  ·have:=h.s0 x h1;omega
theorem PacOk.new{F:ConfM}(hF:F=fitM F):PacOk F (PacM.new F) 0:=by
 have hr:=RunOk.new hF
 refine⟨hr,PacI.new hF,rfl,?_,?_,fun n hn=>?_,look_keys _ _ _,fun x hx=>?_⟩
 ·show((List.range 6).map _).length=6
  rw[List.length_map,List.length_range]
 ·show((List.range 6).map _).length=6
  rw[List.length_map,List.length_range]
 ·have hn:((PacM.look ⟨newC F,0,List.replicate 6 false,List.replicate 6 0,0,0,[]⟩ false (0,0)).up[n]?).getD false=true:=hn
  rw[look_up] at hn
  split at hn
  ·exact up_less hr hn
  ·cases hn
 ·show 0≤x.2∧x.2≤((0:Nat):Int)
  unfold PacM.due at hx
  rcases List.mem_append.1 hx with hx | hx
  ·obtain⟨n,hn,rfl⟩:=List.mem_map.1 hx
   have hn6:=List.mem_range.1 (List.mem_filter.1 hn).1
   dsimp only
   have e:((PacM.new F).steps[n]?).getD 0=0:=by
    refine(look_steps _ false (0,0) hn6).trans ?_
    dsimp only
    split
    ·rfl
    ·rw[List.getElem?_replicate,if_pos hn6];rfl
   rw[e]
   exact⟨Int.le_refl _,Int.le_refl _⟩
  rcases List.mem_cons.1 hx with rfl | hx
  ·exact⟨Int.le_refl _,Int.le_refl _⟩
  rcases List.mem_cons.1 hx with rfl | hx
  ·exact⟨Int.le_refl _,Int.le_refl _⟩
  ·obtain⟨z,hz,rfl⟩:=List.mem_map.1 hx
   have hz:z∈([]:List (PrM×Int)):=hz
   cases hz
theorem due_nxt{F:ConfM}{R:PacM}{i:Nat}(hF:F=fitM F)(h:PacOk F R i)(hi:i<100000)(s:StpM){k:Option KeyD}(hk:∀q,k=some q→s=q.step):Pc.Nxt i R.due (R.do_ s).due k:=
 ⟨due_keys (h.do_ hF hi s),fun x hx=>by
  have:=due_next h.sl s hk x hx
  rw[h.done] at this
  exact this⟩
structure Made(F:ConfM)(W:Int)(l m:List StpM)(i:Nat)(T:Int):Prop where
 ok:PacOk F (PacM.run F m) m.length
 all:∀j≤m.length,Pc.Due (dueMost F) W j (PacM.run F (m.take j)).due
 turn:Pc.Turn (dueMost F) T m.length (PacM.run F m).due
 t0:T≤i*(dueMost F+1)
 sub:(l.take i).Sublist m
 il:i≤l.length
section
variable {F:ConfM} {W T:Int} {l m:List StpM} {i:Nat}
theorem Made.due(h:Made F W l m i T):Pc.Due (dueMost F) W m.length (PacM.run F m).due:=by
 have:=h.all m.length (NR _)
 rwa[List.take_length] at this
theorem Made.len(h:Made F W l m i T):(m.length:Int)≤i*(dueMost F+1)+dueMost F:=by
 have:=h.turn.few
 have:=h.t0
 omega
theorem Made.new(hF:F=fitM F)(l:List StpM)(hW:2*(dueMost F:Int)+2≤W):Made F W l [] 0 0:=by
 have ok:PacOk F (PacM.run F []) 0:=PacOk.new hF
 have hf:=due_few hF ok
 have hz:∀x∈(PacM.run F []).due,x.2=0:=fun x hx=>by
  have h1:=ok.s0 x hx
  have h2:=ok.done
  rw[h2] at h1
  omega
 refine⟨ok,fun j hj=>?_,Pc.Turn.take hf,by omega,by simp,Nat.zero_le _⟩
 obtain rfl:j=0:=by simpa using hj
 refine⟨due_keys ok,hf,fun x hx=>by have:=hz x hx;show x.2≤((0:Nat):Int);omega,fun x hx=>?_⟩
 have h1:=hz x hx
 have h2:=Pc.upto_len (PacM.run F []).due x.2
 show((0:Nat):Int)-x.2+(((Pc.upto (PacM.run F []).due x.2).length:Nat):Int)≤W-1
 omega
theorem Made.all'(h:Made F W l m i T){s:StpM}(d:Pc.Due (dueMost F) W (m.length+1:Nat) (PacM.run F (m ++ [s])).due):∀j≤(m ++ [s]).length,Pc.Due (dueMost F) W j (PacM.run F ((m ++ [s]).take j)).due:=fun j hj=>by
 rw[List.length_append] at hj
 have hj:j≤m.length+1:=hj
 by_cases hjm:j≤m.length
 ·rw[List.take_append_of_le_length hjm]
  exact h.all j hjm
 ·obtain rfl:j=m.length+1:=by omega
  rw[List.take_of_length_le (by rw[List.length_append];exact NR _)]
  exact d
theorem Made.take(hF:F=fitM F)(h:Made F W l m i T)(hW:2*(dueMost F:Int)+2≤W)(hm:m.length<100000)(ha:∀x∈(PacM.run F m).due,(m.length:Int)-x.2<W-(dueMost F+1)){s:StpM}(hs:l[i]?=some s):Made F W l (m ++ [s]) (i+1) (m.length+1):=by
 have ok2:=h.ok.do_ hF hm s
 have hn:=due_nxt hF h.ok hm s (k:=none) fun q e=>by cases e
 have hf:=due_few hF ok2
 have d:=h.due.take hW ha hn hf
 have hl:=(List.getElem?_eq_some_iff.1 hs).1
 refine⟨?_,h.all' ?_,?_,?_,?_,hl⟩
 ·rw[pac_snoc,List.length_append];exact ok2
 ·rw[pac_snoc]
  have:(((m.length+1:Nat):Nat):Int)=(m.length:Int)+1:=by push_cast;rfl
  rw[this];exact d
 ·rw[pac_snoc,List.length_append]
  have:=Pc.Turn.take (n:=(m.length:Int)+1) hf
  show Pc.Turn _ _ ((m.length+1:Nat):Int) _
  push_cast
  exact this
 ·have:=h.len
  push_cast
  rw[Int.add_mul]
  omega
 ·rw[List.take_add_one,hs]
  exact h.sub.append (List.Sublist.refl _)
theorem Made.serve(hF:F=fitM F)(h:Made F W l m i T)(hW:2*(dueMost F:Int)+2≤W)(hm:m.length<100000){y:KeyD×Int}(hy:y∈(PacM.run F m).due)(hmin:∀x∈(PacM.run F m).due,y.2≤x.2)(ho:¬(m.length:Int)-y.2<W-(dueMost F+1)):
  Made F W l (m ++ [y.1.step]) i T∧(Pc.upto (PacM.run F (m ++ [y.1.step])).due (T-1)).length+1≤(Pc.upto (PacM.run F m).due (T-1)).length:=by
 have ok2:=h.ok.do_ hF hm y.1.step
 have hn:=due_nxt hF h.ok hm y.1.step (k:=some y.1) fun q e=>by cases e;rfl
 have hf:=due_few hF ok2
 have d:=h.due.serve hW hy hmin hn hf
 obtain⟨t1,t2⟩:=h.turn.serve hW hy ho hn
 have hc:(((m.length+1:Nat):Nat):Int)=(m.length:Int)+1:=by push_cast;rfl
 refine⟨⟨?_,h.all' ?_,?_,h.t0,h.sub.trans (List.sublist_append_left ..),h.il⟩,by rw[pac_snoc];exact t2⟩
 ·rw[pac_snoc,List.length_append];exact ok2
 ·rw[pac_snoc,hc];exact d
 ·rw[pac_snoc,List.length_append]
  show Pc.Turn _ _ ((m.length+1:Nat):Int) _
  rw[hc];exact t1
instance stpDec:DecidableEq StpM:=fun x y=>decidable_of_iff (x.kind=y.kind∧x.a=y.a∧x.b=y.b∧x.c=y.c∧x.op.kind=y.op.kind∧x.op.key=y.op.key∧x.op.value=y.op.value∧x.op.version=y.op.version)
 ⟨fun⟨h1,h2,h3,h4,h5,h6,h7,h8⟩=>by
  obtain⟨_,_,_,_,⟨_,_,_,_⟩⟩:=x
  obtain⟨_,_,_,_,⟨_,_,_,_⟩⟩:=y
  dsimp only at h1 h2 h3 h4 h5 h6 h7 h8
  rw[h1,h2,h3,h4,h5,h6,h7,h8],fun h=>by rw[h];exact⟨rfl,rfl,rfl,rfl,rfl,rfl,rfl,rfl⟩⟩
def found(l:List StpM)(k:Nat)(s:StpM):Nat:=if l[k]?=some s then k+1 else k
theorem found_all(l:List StpM):∀(m:List StpM) (k:Nat),k≤l.length→(l.drop k).Sublist m→m.foldl (found l) k=l.length
 | [],k,hk,h=>by
  have:=List.sublist_nil.1 h
  have h2:=congrArg List.length this
  rw[List.length_drop] at h2
  show k=l.length
  have h2:l.length-k=0:=h2
  omega
 | s::m,k,hk,h=>by
  rw[List.foldl_cons]
  unfold found
  by_cases hs:l[k]?=some s
  ·have hlt:=(List.getElem?_eq_some_iff.1 hs).1
   rw[if_pos hs]
   refine found_all l m (k+1) hlt ?_
   have e:l.drop k=s::l.drop (k+1):=by
    rw[List.drop_eq_getElem_cons hlt]
    have:=(List.getElem?_eq_some_iff.1 hs).2
    rw[this]
   rw[e] at h
   exact List.cons_sublist_cons.1 h
  ·rw[if_neg hs]
   refine found_all l m k hk ?_
   by_cases hlt:k<l.length
   ·rw[List.drop_eq_getElem_cons hlt] at h ⊢
    have hne:l[k]≠s:=fun e=>hs (by rw[GE hlt,e])
    cases h with
    | cons _ h=>exact h
    | cons_cons _ h=>exact absurd rfl hne
   ·rw[List.drop_eq_nil_of_le yd]
    exact List.nil_sublist _
end
end Cl
namespace Cl
open Go Vg T Api Ch Rep Conf Lg Rd
attribute [local irreducible] VO VC VA
section
variable {p:Nat} {C:CluM} {y:CluS} {b e:Nat}
theorem made_in(h:SatIn Fr [cluH p C] w):Tri Tryz.prog 41 [.pointer (some ⟨p,0,none⟩)] Fr w [] (fun v L=>v=.bool true∧L=[]):=by
 obtain⟨y,fit,hy⟩:=clu_in h
 exact umade_spec Fr w (hy.blk 0 rfl)
theorem udo_spec(ok:C.Ok b e)(hb:b<100000)(he:e<900000)(s:StpM):Tri Tryz.prog 25 [.pointer (some ⟨p,0,none⟩),.agg s.cells.toArray] Fr w [cluH p C]
  (fun v L=>v=.int .i64 (C.do_ s).2∧L=[cluH p (C.do_ s).1]):=by
 have ok2:=ok.step hb yd s
 refine TF 15 Tryz.func25 rfl ym tabOk rfl rfl ?_
 refine CS (CG (VG (VB (vs:=s.cells) rfl fun sb=>?_)))
 refine xjp ?_
 refine VG (VV (fun Fr w hF hw hS=>made_in Fr w (hS.at_ 1 rfl)) rfl ?_)
 refine zox ?_
 refine xno ?_
 refine VG (VQ 1 rfl (fun Fr w hF hs hS=>ustep_spec Fr w ok hb yd s) rfl (ψ:=fun v H=>v=.int .i64 (C.step s).2∧H=cluH p (C.step s).1) yy ?_)
 rintro _ _ ⟨rfl,rfl⟩
 refine xjp ?_
 refine VG (VQ 1 rfl (fun Fr w hF hs hS=>ubehind_spec Fr w ok2 yd) rfl (ψ:=fun v H=>v=.tuple #[]∧H=cluH p (C.step s).1.behind) yy ?_)
 rintro _ _ ⟨rfl,rfl⟩
 refine xjp ?_
 exact CR (Ret.tmp 4 rfl rfl (Imp.tail (H:=pt sb _ doT) (L:=[cluH p (C.do_ s).1])).ent ⟨rfl,rfl⟩)
theorem lnkH_in{Fr:Nat→Prop}{w:World}{q:Nat}{S:LnkM}(h:SatIn Fr [lnkH q S] w):∃b X,erX X=S.mail∧SatIn Fr (lnkL q S b X) w:=by
 obtain⟨⟨b,X⟩,hx⟩:=h.ex
 have hs:=hx.sep
 exact⟨b,X,hs.pure 0 rfl,hs.tail⟩
theorem ulinks_spec(ok:C.lnk.Ok)(hb:Blk Fr w p (cluC C y))(hl:SatIn Fr [lnkH y.lp C.lnk] w):Tri Tryz.prog 75 [.pointer (some ⟨p,0,none⟩)] Fr w [] (fun v L=>∃q m,m.Perm C.lnk.mail∧v=.pointer (some ⟨q,0,none⟩)∧L=[lnkH q ⟨C.lnk.cap,m⟩]):=by
 obtain⟨lb,X,hX,hs⟩:=lnkH_in hl
 have h1:=hs.blk 0 rfl
 have h2:=hs.mapBlk 1 rfl
 have h3:=lk_rows (A:=[_,_]) hs
 refine TF 11 Tryz.func75 rfl ym tabOk rfl rfl ?_
 refine xjq ?_
 refine VG (VV (fun Fr w hF hs _=>umade_spec Fr w (hb.of hF hs)) rfl ?_)
 refine zop ?_
 refine xib ?_
 refine VG (VK (Lc:=[]) (fun Fr w hF hw _=>lcopy_spec Fr w ok (h1.of hF hw) ⟨hF _ h2.fr,h2.at_.loc (hw.keep.block _ h2.fr)⟩ (fun z hz=>(h3 z hz).of hF hw) hX) rfl rfl ?_)
 rintro _ _ ⟨q,m,hm,rfl,rfl⟩
 refine xjq ?_
 exact CR (Ret.tmp 2 rfl rfl ER ⟨q,m,hm,rfl,rfl⟩)
theorem unode_spec(fit:CluFit C y)(hb:Blk Fr w p (cluC C y))(hr:Blk Fr w y.nb (flat nodC y.nr++y.nx)){n:Int}:Tri Tryz.prog 30 [.pointer (some ⟨p,0,none⟩),.int .i64 n] Fr w []
  (fun v L=>(match C.node n with
   | none=>v=.pointer none
   | some r=>∃k q,n=(k:Nat)∧y.nr[k]?=some (some (q,r))∧v=.pointer (some ⟨q,0,none⟩))∧L=[]):=by
 refine TF 21 Tryz.func30 rfl ym tabOk rfl rfl ?_
 refine xjq ?_
 refine VG (VV (fun Fr w hF hs _=>umade_spec Fr w (hb.of hF hs)) rfl ?_)
 refine xjq ?_
 refine VG (VY 8 false rfl rfl ?_)
 refine xjq ?_
 refine VG (VV (fun Fr w hF hs _=>up_spec Fr w fit (hb.of hF hs) (hr.of hF hs) n) rfl ?_)
 refine xjq ?_
 refine VC.condNE rfl (fun k1=>?_) (fun k1=>CK ?_)
 ·refine xjq ?_
  exact CR (Ret.tmp 4 rfl rfl ER ⟨by rw[up_ne k1],rfl⟩)
 obtain⟨k,r,rfl,hkr,hnr⟩:=up_0 (C:=C) (n:=n) ycf
 obtain⟨q,hx⟩:=node_of fit hkr
 have hkl:=(List.getElem?_eq_some_iff.1 hx).1
 refine xib ?_
 refine xnd ?_
 refine VG (VO.load rfl rfl (RdL.blk hr (nod_cell hx)) ?_)
 refine xjq ?_
 exact CR (Ret.tmp 4 rfl rfl ER ⟨by rw[hnr];exact⟨k,q,rfl,hx,rfl⟩,rfl⟩)
end
section
variable {u:Value}
end
end Cl
namespace Cl
open Go Vg T Api Ch Rep Conf Lg Rd Sched
attribute [local irreducible] VO VC VA
theorem ints_row{X:Cx}{L:List HP}{a:Option Addr}{cap:Nat}{qs:List Int}(hq:IntsIn X.Fr X.w0 a qs)(hne:qs≠[]):RdRow X L (.slice a qs.length cap) 1 qs.length (intCs qs):=by
 obtain⟨b,off,rfl,h2,h3⟩:=hq.at_ hne
 refine⟨by simp[intCs],.inr ⟨b,off,cap,rfl,fun w' hw' j v hv=>?_⟩⟩
 rw[intCs,List.getElem?_map] at hv
 cases hj:qs[j]? with
 | none=>rw[hj] at hv;cases hv
 | some x=>
  rw[hj] at hv
  obtain rfl:=Option.some.inj hv
  exact cell_of_keep (hw'.keep.block b h2) (h3 j x hj)
theorem many_snoc{α:Type}{f:α→HP}{l:List α}{x:α}{A:List HP}:Imp (f x::hsep (l.map f)::A) (hsep ((l ++ [x]).map f)::A):=by
 refine Imp.sep (Imp.trans (M:=hsep (l.map f)::f x::A) (Imp.perm (.swap _ _ _)) (Imp.unsep (Imp.of_eq ?_)))
 simp
abbrev conT:TypeId:=24
def cluK(c:ConfM)(qa:Option Addr)(qc m:Nat)(nv cv lv:Value)(h:Nat):List Value:=c.cells qa qc ++ [.int .i64 0,.pointer (some ⟨m,0,none⟩),nv,cv,lv,.pointer (some ⟨h,0,none⟩),.slice none 0 0]
theorem unew_spec(c:ConfM){qa:Option Addr}{qc:Nat}(hq:IntsIn Fr w qa c.qs)(hqc:c.qs.length≤qc):
  Tri Tryz.prog 15 [.agg (c.cells qa qc).toArray] Fr w [] (fun v L=>if c=fitM c then ∃p,v=.tuple #[.pointer (some ⟨p,0,none⟩),.int .i64 0]∧L=[cluH p (newC c)] else v=.tuple #[.pointer none,.int .i64 2]∧L=[]):=by
 refine TF 83 Tryz.func15 rfl ym tabOk rfl rfl ?_
 refine CS (CG (VG (VB (vs:=c.cells qa qc) rfl fun b1=>VG (VN ?_))))
 refine xjp ?_
 refine xlg ?_
 refine VG (VK (Lc:=[]) (fun Fr w hF hs _=>mnew_spec Fr w c (ints_of hq hF hs) trivial hqc) rfl rfl ?_)
 intro v L1 hv
 by_cases hf:c=fitM c
 rotate_left
 ·rw[if_neg hf] at hv
  obtain⟨rfl,rfl⟩:=hv
  refine zqj ?_
  exact CR (Ret.tmp2 2 3 rfl rfl rfl Imp.nil.ent ybt)
 rw[if_pos hf] at hv
 obtain⟨m,rfl,rfl⟩:=hv
 have hb:=conf_bounds hf
 have hb2:=conf_bounds2 hf
 refine zot ?_
 refine xds ?_
 refine VO.ent (L':=slH 3 1 none 0 0 [] :: [masH m (newM c),pt b1 (c.cells qa qc) conT]) (Imp.slNil Imp.refl).ent ?_
 refine VG (VO.append (m:=c.qs.length) (news:=intCs c.qs) 0 rfl rfl rfl rfl rfl rfl rfl (ints_row hq (by intro h0;rw[h0] at hb2;exact absurd hb2.2.2.2.2.2.1 yo)) (by unfold intCs;rw[List.all_map];exact List.all_eq_true.2 fun _ _=>rfl) (few_bytes (k:=100) yd yo) yd fun qa2 qc2 hqc2=>?_)
 rw[Nat.zero_add,List.nil_append] at *
 refine xjp ?_
 refine VG (VO.st 2 (cs':=c.cells qa2 qc2) rfl rfl rfl rfl yal rfl rfl ?_)
 refine xeg ?_
 show VC _ _ _ [intH qa2 qc2 c.qs,masH m (newM c),pt b1 (c.cells qa2 qc2) conT] _
 refine CS ?_
 refine CD (ts 0 2 (.only 2 (.take 3 (.only 4 (.take 5 .nil))))) ym yr ?_
 refine AG (VA.ldA 2 (c.cells qa2 qc2) rfl rfl rfl rfl rfl ?_)
 refine xld ?_
 refine AG (AO (OC (Lc:=[]) rfl (.refl _) (fun Fr w _ _ _=>hnew_spec Fr w)) rfl (fun v L' g=>by obtain⟨_,⟨h,rfl,rfl⟩,rfl⟩:=g;exact(by(try refine Pd.st ?_);(repeat(first|exact Pd.nil|exact Pd.fnil|refine Pd.inner ?_|refine Pd.skip yr ?_|refine zf (zo 0 rfl rfl) ?_|refine zf (zo 1 rfl rfl) ?_|refine zf (zo 2 rfl rfl) ?_|refine zf (zo 3 rfl rfl) ?_|refine zf (zm 0 rfl rfl) ?_|refine zf (zm 1 rfl rfl) ?_|refine zf (zm 2 rfl rfl) ?_|refine zf (zm 3 rfl rfl) ?_|refine zf (RdL.blk (RdL.many 3 rfl rfl) rfl) ?_|refine zf ((RdL.many 3 rfl rfl)) ?_|refine zc (zo 0 rfl rfl) ?_|refine zc (zo 1 rfl rfl) ?_|refine zc (zo 2 rfl rfl) ?_|refine zc (zo 3 rfl rfl) ?_|refine zc (zm 0 rfl rfl) ?_|refine zc (zm 1 rfl rfl) ?_|refine zc (zm 2 rfl rfl) ?_|refine zc (zm 3 rfl rfl) ?_|refine zc (RdL.blk (RdL.many 3 rfl rfl) rfl) ?_|refine zc ((RdL.many 3 rfl rfl)) ?_)))) ?_)
 rintro v L' ⟨_,⟨h,rfl,rfl⟩,rfl⟩
 refine AG (AI rfl (LB (pv:=[(0,.agg (c.cells qa2 qc2).toArray),(2,pV m),(6,pV h)]) (cluK c qa2 qc2 m (.slice none 0 0) (.slice none 0 0) (.pointer none) h) rfl rfl rfl ym rfl) ?_)
 refine AG (AO (OpT.box (vs:=cluK c qa2 qc2 m (.slice none 0 0) (.slice none 0 0) (.pointer none) h) rfl rfl) rfl (fun v L' g=>by obtain⟨p,rfl,rfl⟩:=g;exact(by(try refine Pd.st ?_);(repeat(first|exact Pd.nil|exact Pd.fnil|refine Pd.inner ?_|refine Pd.skip yr ?_|refine zf (zo 0 rfl rfl) ?_|refine zf (zo 1 rfl rfl) ?_|refine zf (zo 2 rfl rfl) ?_|refine zf (zo 3 rfl rfl) ?_|refine zf (zo 4 rfl rfl) ?_|refine zf (zm 0 rfl rfl) ?_|refine zf (zm 1 rfl rfl) ?_|refine zf (zm 2 rfl rfl) ?_|refine zf (zm 3 rfl rfl) ?_|refine zf (zm 4 rfl rfl) ?_|refine zf (RdL.blk (RdL.many 4 rfl rfl) rfl) ?_|refine zf ((RdL.many 4 rfl rfl)) ?_|refine zc (zo 0 rfl rfl) ?_|refine zc (zo 1 rfl rfl) ?_|refine zc (zo 2 rfl rfl) ?_|refine zc (zo 3 rfl rfl) ?_|refine zc (zo 4 rfl rfl) ?_|refine zc (zm 0 rfl rfl) ?_|refine zc (zm 1 rfl rfl) ?_|refine zc (zm 2 rfl rfl) ?_|refine zc (zm 3 rfl rfl) ?_|refine zc (zm 4 rfl rfl) ?_|refine zc (RdL.blk (RdL.many 4 rfl rfl) rfl) ?_|refine zc ((RdL.many 4 rfl rfl)) ?_)))) ?_)
 rintro v L' ⟨p,rfl,rfl⟩
 refine xld ?_
 refine xfh ?_
 refine VG (VK (Lc:=[]) (fun Fr w _ _ _=>lnew_spec Fr w (n:=c.link) yd yd) rfl rfl ?_)
 rintro _ _ ⟨l,rfl,rfl⟩
 refine xjp ?_
 refine VG (VO.st 1 (cs':=cluK c qa2 qc2 m (.slice none 0 0) (.slice none 0 0) (.pointer (some ⟨l,0,none⟩)) h) rfl rfl rfl rfl (by show 16<19;omega) rfl rfl ?_)
 refine xeg ?_
 refine CN (L':=[pt p (cluK c qa2 qc2 m (.slice none 0 0) (.slice none 0 0) (.pointer (some ⟨l,0,none⟩)) h) cluT,pt b1 (c.cells qa2 qc2) conT,intH qa2 qc2 c.qs,lnkH l ⟨c.link,[]⟩,hisH h newH,masH m (newM c)]) (pkZ [1,4,2,0,0,0]).ent ?_
 refine xjp ?_
 refine VC.loop (σ:=List NdG×Option Addr×Nat) (fun s=>[(1,pV b1),(6,pV p),(7,.int .i64 s.1.length)])
  (fun s=>[pt p (cluK c qa2 qc2 m (.slice s.2.1 s.1.length s.2.2) (.slice none 0 0) (.pointer (some ⟨l,0,none⟩)) h) cluT,pt b1 (c.cells qa2 qc2) conT,intH qa2 qc2 c.qs,lnkH l ⟨c.link,[]⟩,hisH h newH,masH m (newM c),slH rpT 1 s.2.1 s.1.length s.2.2 (flat nodC s.1),hsep (s.1.map nodP)])
  (fun s=>s.1.length≤c.nodes.toNat∧s.1.map (Option.map Prod.snd)=(List.range s.1.length).map fun(n:Nat)=>some (newR c n false)) (fun s=>c.nodes.toNat-s.1.length) ([],none,0)
  ⟨Nat.zero_le _,rfl⟩ sbZ (IP 0 rfl (IP 0 rfl (IP 0 rfl (IP 0 rfl (IP 0 rfl (IP 0 rfl (Imp.slNil (Imp.sep Imp.nil)))))))).ent ?_
 rintro⟨nr,na,nc⟩ ⟨hn1,hn2⟩
 dsimp only at hn1 hn2 ⊢
 refine xds ?_
 refine CP (p:=(nr.length:Int)<c.nodes) rfl (fun h1=>CK ?_) (fun h1=>CX ?_)
 ·refine CS (VC.block (CS (CG ?_)))
  refine VG (VL 1 (c.cells qa2 qc2) rfl rfl rfl rfl ?_)
  refine xjp ?_
  refine VG (VK (Lc:=[]) (fun Fr w hF hs hS=>Rep.new_spec Fr w c qa2 qc2 (ints_sl (hS.at_ 2 rfl)) trivial hqc2 nr.length false) rfl rfl ?_)
  rintro v L1 g
  rw[if_pos (show newOkB c (nr.length:Int) from⟨hf,by omega,h1⟩)] at g
  obtain⟨r,rfl,rfl⟩:=g
  refine xjp ?_
  refine xdt ?_
  refine VG (VO.buildSlice (n:=1) (pv:=[(0,pV r)]) [.pointer (some ⟨r,0,none⟩)] rfl rfl rfl rfl yo (fill_one rfl rfl rfl) fun nb=>?_)
  refine VG (VO.append (m:=1) (news:=[.pointer (some ⟨r,0,none⟩)]) 8 rfl rfl rfl rfl rfl rfl rfl (RdRow.pt 0 rfl rfl rfl) rfl (few_bytes (k:=100) yd yo) yd fun na2 nc2 hnc=>?_)
  refine xjp ?_
  refine VG (VO.st 3 (cs':=cluK c qa2 qc2 m (.slice na2 (nr.length+1) nc2) (.slice none 0 0) (.pointer (some ⟨l,0,none⟩)) h) rfl rfl rfl rfl (by show 14<19;omega) rfl rfl ?_)
  refine zom ?_
  have hlen:(nr ++ [some (r,newR c nr.length false)]).length=nr.length+1:=by simp
  refine⟨(nr ++ [some (r,newR c nr.length false)],na2,nc2),⟨by dsimp only;omega,?_⟩,by dsimp only;omega,SC rfl (SC rfl (Sub.int rfl ybb (SN _))),?_⟩
  ·dsimp only
   rw[hlen,List.range_succ,List.map_append,List.map_append,hn2];rfl
  ·dsimp only
   rw[hlen,flat_append]
   refine Imp.ent ?_
   refine IP 3 rfl (IP 3 rfl (IP 3 rfl (IP 3 rfl (IP 3 rfl (IP 3 rfl (IP 0 rfl ?_))))))
   exact Imp.trans Imp.tail (many_snoc (f:=nodP) (x:=some (r,newR c nr.length false)))
 have hnl:nr.length=c.nodes.toNat:=by omega
 refine xjp ?_
 refine VC.loop (σ:=List CiG×Option Addr×Nat) (fun s=>[(1,pV b1),(6,pV p),(10,.int .i64 s.1.length)])
  (fun s=>[pt p (cluK c qa2 qc2 m (.slice na nr.length nc) (.slice s.2.1 s.1.length s.2.2) (.pointer (some ⟨l,0,none⟩)) h) cluT,pt b1 (c.cells qa2 qc2) conT,intH qa2 qc2 c.qs,lnkH l ⟨c.link,[]⟩,hisH h newH,masH m (newM c),slH rpT 1 na nr.length nc (flat nodC nr),hsep (nr.map nodP),slH cpT 1 s.2.1 s.1.length s.2.2 (flat cliV s.1),hsep (s.1.map cliP)])
  (fun s=>s.1.length≤c.clients.toNat∧s.1.map Prod.snd=(List.range s.1.length).map fun(n:Nat)=>newCl c n) (fun s=>c.clients.toNat-s.1.length) ([],none,0)
  ⟨Nat.zero_le _,rfl⟩ sbZ (IP 0 rfl (IP 0 rfl (IP 0 rfl (IP 0 rfl (IP 0 rfl (IP 0 rfl (IP 0 rfl (IP 0 rfl (Imp.slNil (Imp.sep Imp.nil)))))))))).ent ?_
 rintro⟨cr,ca,cc⟩ ⟨hm1,hm2⟩
 dsimp only at hm1 hm2 ⊢
 refine xds ?_
 refine CP (p:=(cr.length:Int)<c.clients) rfl (fun h1=>CK ?_) (fun h1=>CX ?_)
 ·refine CS (VC.block (CS (CG ?_)))
  refine VG (VL 1 (c.cells qa2 qc2) rfl rfl rfl rfl ?_)
  refine xjp ?_
  refine VG (VK (Lc:=[]) (fun Fr w hF hs hS=>cnew_spec Fr w c (ints_sl (hS.at_ 2 rfl)) trivial hqc2 cr.length) rfl rfl ?_)
  rintro v L1 g
  rw[if_pos (show newClE c (cr.length:Int)=0 from by unfold newClE;rw[if_pos ⟨hf,by omega,h1⟩])] at g
  obtain⟨r,rfl,rfl⟩:=g
  refine xjp ?_
  refine xdt ?_
  refine VG (VO.buildSlice (n:=1) (pv:=[(0,pV r)]) [.pointer (some ⟨r,0,none⟩)] rfl rfl rfl rfl yo (fill_one rfl rfl rfl) fun nb=>?_)
  refine VG (VO.append (m:=1) (news:=[.pointer (some ⟨r,0,none⟩)]) 10 rfl rfl rfl rfl rfl rfl rfl (RdRow.pt 0 rfl rfl rfl) rfl (few_bytes (k:=100) yd yo) yd fun ca2 cc2 hcc=>?_)
  refine xjp ?_
  refine VG (VO.st 3 (cs':=cluK c qa2 qc2 m (.slice na nr.length nc) (.slice ca2 (cr.length+1) cc2) (.pointer (some ⟨l,0,none⟩)) h) rfl rfl rfl rfl (by show 15<19;omega) rfl rfl ?_)
  refine zom ?_
  have hlen:(cr ++ [(r,newCl c cr.length)]).length=cr.length+1:=by simp
  refine⟨(cr ++ [(r,newCl c cr.length)],ca2,cc2),⟨by dsimp only;omega,?_⟩,by dsimp only;omega,SC rfl (SC rfl (Sub.int rfl ybb (SN _))),?_⟩
  ·dsimp only
   rw[hlen,List.range_succ,List.map_append,List.map_append,hm2];rfl
  ·dsimp only
   rw[hlen,flat_append]
   refine Imp.ent ?_
   refine IP 3 rfl (IP 3 rfl (IP 3 rfl (IP 3 rfl (IP 3 rfl (IP 3 rfl (IP 3 rfl (IP 3 rfl (IP 0 rfl ?_))))))))
   exact Imp.trans Imp.tail (many_snoc (f:=cliP) (x:=(r,newCl c cr.length)))
 have hml:cr.length=c.clients.toNat:=by omega
 refine VC.opn 6 rfl (HOpn.sl rpT 1 na nr.length nc (flat nodC nr)) ?_
 rintro(_ | ⟨nb,nx⟩) ⟨-,-,hn⟩
 ·exact absurd hn.2.1 yd
 obtain⟨rfl,hnx⟩:=hn
 refine VC.opn 8 rfl (HOpn.sl cpT 1 ca cr.length cc (flat cliV cr)) ?_
 rintro(_ | ⟨cb,cx⟩) ⟨-,-,hc⟩
 ·exact absurd hc.2.1 yd
 obtain⟨rfl,hcx⟩:=hc
 refine xjp ?_
 refine CR (Ret.tmp2 2 3 rfl rfl rfl (L':=[cluH p (newC c)]) (Imp.clu (K:=[]) ⟨qa2,qc2,m,nb,nc,nx,nr,cb,cc,cx,cr,l,h,none,0⟩ ⟨by rw[hn2,hnl];rfl,by rw[hm2,hml];rfl,hqc2⟩ ?_).ent (by rw[if_pos hf];exact⟨p,rfl,rfl⟩))
 exact IP 2 rfl (IP 3 rfl (IP 5 rfl (IP 1 rfl (IP 0 rfl (IP 1 rfl (IP 1 rfl (Imp.slNil (pkZ [1,1]))))))))
end Cl
namespace Cl
open Go Vg T Api Ch Rep Conf Lg Rd Sched
attribute [local irreducible] VO VC VA
def mn(a b:Int):Int:=if b<a then b else a
def smallM(F:ConfM):ConfM:=⟨mn F.nodes 4,mn F.chain (mn F.nodes 4),mn F.clients 3,F.qs,F.queue,F.window,F.reads,F.link,mn F.patience 8,mn F.timeout 8,mn F.budget 2,mn F.refill 8⟩
theorem small_fit{F:ConfM}(h:F=fitM F):smallM F=fitM (smallM F):=by
 obtain⟨⟨b1,b2⟩,⟨b3,b4⟩,⟨b5,b6⟩,⟨b7,b8⟩,⟨b9,b10⟩⟩:=conf_bounds h
 obtain⟨⟨p1,p2⟩,⟨p3,p4⟩,⟨p5,p6⟩,⟨p7,p8⟩,⟨p9,p10⟩,-⟩:=conf_bounds2 h
 have e1:F.qs=qFit F.qs:=congrArg ConfM.qs h
 have e2:F.queue=near F.queue 1 16:=congrArg ConfM.queue h
 have e3:F.window=near F.window 1 16:=congrArg ConfM.window h
 have e4:F.reads=near F.reads 1 16:=congrArg ConfM.reads h
 have e5:F.link=near F.link 4 64:=congrArg ConfM.link h
 have en:near (mn F.nodes 4) 1 6=mn F.nodes 4:=by
  apply near_same<;>unfold mn<;>split<;>omega
 apply conf_ext
 ·exact en.symm
 ·show mn F.chain (mn F.nodes 4)=near (mn F.chain (mn F.nodes 4)) 1 (near (mn F.nodes 4) 1 6)
  rw[en]
  symm
  apply near_same<;>unfold mn<;>repeat' split
  all_goals omega
 ·symm;apply near_same<;>show _≤_<;>unfold smallM mn<;>dsimp only<;>split<;>omega
 ·exact e1
 ·exact e2
 ·exact e3
 ·exact e4
 ·exact e5
 ·symm;apply near_same<;>show _≤_<;>unfold smallM mn<;>dsimp only<;>split<;>omega
 ·symm;apply near_same<;>show _≤_<;>unfold smallM mn<;>dsimp only<;>split<;>omega
 ·symm;apply near_same<;>show _≤_<;>unfold smallM mn<;>dsimp only<;>split<;>omega
 ·symm;apply near_same<;>show _≤_<;>unfold smallM mn<;>dsimp only<;>split<;>omega
def leastM(F:ConfM):Int:=2+2*(F.nodes+2+(F.nodes*(F.nodes-1)+2*F.nodes+2*F.nodes*F.clients+2*F.clients))
theorem least_due{F:ConfM}(h:F=fitM F):leastM F=2+2*(dueMost F:Int)∧dueMost F≤200:=by
 obtain⟨⟨b1,b2⟩,⟨b3,b4⟩,⟨b5,b6⟩,⟨b7,b8⟩,⟨b9,b10⟩⟩:=conf_bounds h
 obtain⟨n,hn⟩:∃n:Nat,F.nodes=n+1:=⟨(F.nodes-1).toNat,by omega⟩
 obtain⟨c,hc⟩:∃c:Nat,F.clients=c:=⟨F.clients.toNat,by omega⟩
 have e:dueMost F=(n+1)+2+((n+1)*n+2*(n+1)+2*(n+1)*c+2*c):=by
  unfold dueMost
  rw[hn,hc,show((n:Int)+1).toNat=n+1 by omega,Int.toNat_natCast,Nat.add_sub_cancel]
 refine⟨?_,?_⟩
 ·rw[e]
  unfold leastM
  rw[hn,hc,Int.add_sub_cancel]
  push_cast
  rfl
 ·rw[e]
  have h1:(n+1)*n≤6*5:=Nat.mul_le_mul yd yd
  have h2:(n+1)*c≤6*6:=Nat.mul_le_mul yd yd
  have h3:2*(n+1)*c=2*((n+1)*c):=Nat.mul_assoc ..
  omega
theorem least_spec{F:ConfM}(hF:F=fitM F){a:Option Addr}{c:Nat}(ha:AdOk a)(hc:F.qs.length≤c)(hq:IntsIn Fr w a F.qs):
  Tri Tryz.prog 8 [.agg (F.cells a c).toArray] Fr w [] (fun v L=>v=.int .i64 (leastM F)∧L=[]):=by
 obtain⟨⟨b1,b2⟩,⟨b3,b4⟩,⟨b5,b6⟩,⟨b7,b8⟩,⟨b9,b10⟩⟩:=conf_bounds hF
 have k1:0≤F.nodes*(F.nodes-1)∧F.nodes*(F.nodes-1)≤6*5:=⟨Int.mul_nonneg yd yd,Int.mul_le_mul b2 yd yd yo⟩
 have k2:0≤2*F.nodes*F.clients∧2*F.nodes*F.clients≤12*6:=⟨Int.mul_nonneg yd yd,Int.mul_le_mul yd b10 yd yo⟩
 refine TF 35 Tryz.func8 rfl ym tabOk rfl rfl ?_
 refine CS (CG (VG (VB (vs:=F.cells a c) rfl fun b2=>?_)))
 refine xjp ?_
 refine xnu ?_
 refine VG (VV (fun Fr w hF' hw hS=>check_spec Fr w F a c (ints_of hq hF' hw) ha hc) rfl ?_)
 rw[show checkM F=0 from if_pos hF]
 refine zot ?_
 refine xdf ?_
 refine xed ?_
 refine xnv ?_
 refine xdf ?_
 refine xnv ?_
 refine xdl ?_
 refine xdf ?_
 refine xnv ?_
 refine xdf ?_
 refine xnv ?_
 refine xdl ?_
 refine xdf ?_
 refine xnv ?_
 refine xdl ?_
 refine xdf ?_
 refine zok ?_
 refine xdl ?_
 refine xnv ?_
 refine zok ?_
 exact CR (Ret.int 2 rfl rfl rfl Imp.nil.ent ⟨rfl,rfl⟩)
theorem small_spec(c:ConfM)(a:Option Addr)(cap:Nat)(hq:IntsIn Fr w a c.qs):Tri Tryz.prog 7 [.agg (c.cells a cap).toArray] Fr w []
  (fun v L=>∃a' cap',AdOk a'∧(smallM (fitM c)).qs.length≤cap'∧v=.agg ((smallM (fitM c)).cells a' cap').toArray∧L=[intH a' cap' (smallM (fitM c)).qs]):=by
 refine TF 36 Tryz.func7 rfl ym tabOk rfl rfl ?_
 refine CS (CG (VG (VB (vs:=c.cells a cap) rfl fun b1=>VG (VO.alloc rfl fun b2=>?_))))
 refine xjp ?_
 refine xef ?_
 refine VG (VK (Lc:=[]) (fun Fr w hF hw hS=>rfit_spec Fr w c a cap (ints_of hq hF hw)) rfl rfl ?_)
 rintro _ _ ⟨fa,fc,hfa,hfc,rfl,rfl⟩
 generalize fitM c=F at hfc
 refine VG (VT (vs:=F.cells fa fc) (cs':=F.cells fa fc) 2 rfl rfl rfl rfl (NR _) rfl rfl rfl ?_)
 refine xdt ?_
 refine VG (VO.st 2 rfl rfl rfl rfl (by show 0<12;decide) rfl rfl ?_)
 refine xdt ?_
 refine VG (VO.st 2 rfl rfl rfl rfl (by show 2<12;decide) rfl rfl ?_)
 refine xdt ?_
 refine VG (VO.st 2 rfl rfl rfl rfl (by show 1<12;decide) rfl rfl ?_)
 refine xdt ?_
 refine VG (VO.st 2 rfl rfl rfl rfl (by show 8<12;decide) rfl rfl ?_)
 refine xdt ?_
 refine VG (VO.st 2 rfl rfl rfl rfl (by show 9<12;decide) rfl rfl ?_)
 refine xdt ?_
 refine VG (VO.st 2 rfl rfl rfl rfl (by show 11<12;decide) rfl rfl ?_)
 refine xdt ?_
 refine VG (VO.st 2 rfl rfl rfl rfl (by show 10<12;decide) rfl rfl ?_)
 refine xjp ?_
 refine VG (VL 2 ((smallM F).cells fa fc) rfl rfl rfl rfl ?_)
 refine VG (VT (vs:=(smallM F).cells fa fc) (cs':=(smallM F).cells fa fc) 1 rfl rfl rfl rfl (NR _) rfl rfl rfl ?_)
 refine xjp ?_
 exact CR (Ret.cell 2 rfl rfl rfl (RdL.many 1 rfl rfl) (IP 0 rfl Imp.nil).ent ⟨fa,fc,hfa,hfc,rfl,rfl⟩)
end Cl
namespace Cl
open Go Vg T Api Ch Rep Conf Lg Rd
attribute [local irreducible] VO VC VA
instance chDec:DecidableEq ChM:=fun a b=>decidable_of_iff (a.epoch=b.epoch∧a.ms=b.ms∧a.drain=b.drain) ⟨fun⟨h1,h2,h3⟩=>by cases a;cases b;simp_all,fun h=>by subst h;exact⟨rfl,rfl,rfl⟩⟩
end Cl
namespace Cl
open Go Vg T Api
attribute [local irreducible] VO VC VA
def cmpI(x y:Int):Int:=if x<y then -1 else if y<x then 1 else 0
def prCmp(p q:PrM):Int:=if cmpI p.1 q.1≠0 then cmpI p.1 q.1 else cmpI p.2 q.2
def prC(p:PrM):List Value:=[.int .i64 p.1,.int .i64 p.2]
theorem prC_len(p:PrM):(prC p).length=2:=rfl
theorem prC_one(p:PrM):(prC p).all Value.oneCell'=true:=rfl
theorem nan_spec(x:Int):Tri Tryz.prog 148 [.int .i64 x] Fr w [] (fun v L=>v=.bool false∧L=[]):=by
 refine TF 6 Tryz.func148 rfl ym tabOk rfl rfl ?_
 refine xjq ?_
 exact CR (Ret.bool 2 rfl rfl yf ER ⟨rfl,rfl⟩)
theorem compare_spec(x y:Int):Tri Tryz.prog 107 [.int .i64 x,.int .i64 y] Fr w [] (fun v L=>v=.int .i64 (cmpI x y)∧L=[]):=by
 refine TF 20 Tryz.func107 rfl ym tabOk rfl rfl ?_
 refine xjq ?_
 refine VG (VV (fun Fr w _ _ _=>nan_spec Fr w x) rfl ?_)
 refine xjq ?_
 refine VG (VV (fun Fr w _ _ _=>nan_spec Fr w y) rfl ?_)
 refine zop ?_
 refine zop ?_
 refine xjq ?_
 refine CP (p:=x<y) rfl (fun h=>?_) (fun h=>CK ?_)
 ·refine xjq ?_
  exact CR (Ret.tmp 4 rfl rfl ER ⟨by rw[cmpI,if_pos h],rfl⟩)
 refine xjq ?_
 refine CP (p:=y<x) rfl (fun h2=>?_) (fun h2=>CK ?_)
 ·refine xjq ?_
  exact CR (Ret.tmp 4 rfl rfl ER ⟨by rw[cmpI,if_neg h,if_pos h2],rfl⟩)
 refine xjq ?_
 exact CR (Ret.tmp 4 rfl rfl ER ⟨by rw[cmpI,if_neg h,if_neg h2],rfl⟩)
theorem or_spec{sb:Nat}(a b:Int)(h:Blk Fr w sb [.int .i64 a,.int .i64 b]):Tri Tryz.prog 106 [.slice (some ⟨sb,0,none⟩) 2 2] Fr w [] (fun v L=>v=.int .i64 (if a≠0 then a else b)∧L=[]):=by
 refine TF 18 Tryz.func106 rfl ym tabOk rfl rfl ?_
 refine xjq ?_
 refine VC.loop (σ:=Nat) (fun k=>[(3,.int .i64 0),(6,.slice (some ⟨sb,0,none⟩) 2 2),(7,.int .i64 2),(8,.int .i64 (k:Int))]) (fun _=>[]) (fun k=>k≤2∧(0<k→a=0)∧(1<k→b=0)) (fun k=>2-k) 0
  ⟨by omega,by omega,by omega⟩ sbZ ER ?_
 rintro k ⟨hk,ha,hb⟩
 refine xjq ?_
 refine CP (p:=(k:Int)<2) rfl (fun h1=>CK ?_) (fun h1=>CX ?_)
 rotate_left
 ·have h2:k=2:=by omega
  have ha:=ha yd
  have hb:=hb yd
  refine xjq ?_
  exact CR (Ret.tmp 2 rfl rfl ER ⟨by rw[if_neg yd,hb],rfl⟩)
 have hv:∃z:Int,([.int .i64 a,.int .i64 b]:List Value)[0+k*1]?=some (.int .i64 z)∧(k=0→z=a)∧(k=1→z=b):=by
  rcases(by omega:k=0∨k=1) with rfl | rfl
  ·exact⟨a,rfl,fun _=>rfl,fun h=>by omega⟩
  ·exact⟨b,rfl,fun h=>by omega,fun _=>rfl⟩
 obtain⟨z,hz,z0,z1⟩:=hv
 refine xjq ?_
 refine xgf ?_
 refine VG (VO.load rfl rfl (RdL.blk h hz) ?_)
 refine xjq ?_
 refine VC.condNE rfl (fun k1=>?_) (fun k1=>CK ?_)
 ·refine xjq ?_
  refine CR (Ret.tmp 2 rfl rfl ER ⟨?_,rfl⟩)
  rcases(by omega:k=0∨k=1) with h0 | h0
  ·rw[←z0 h0,if_pos k1]
  ·rw[if_neg (by have:=ha yd;omega),z1 h0]
 refine xjq ?_
 refine xdl ?_
 refine xjq ?_
 have k2:z=0:=by simpa using k1
 exact⟨k+1,⟨by omega,fun _=>by
  by_cases h0:k=0
  ·rw[←z0 h0];exact k2
  ·exact ha yd,fun _=>by rw[←z1 yd];exact k2⟩,by dsimp only;omega,SC rfl (SC rfl (SC rfl (Sub.int rfl yd (SN _)))),ER⟩
theorem pair1_spec(p q:PrM):Tri Tryz.prog 105 [.agg (prC p).toArray,.agg (prC q).toArray] Fr w [] (fun v L=>v=.int .i64 (prCmp p q)∧L=[]):=by
 refine TF 17 Tryz.func105 rfl ym tabOk rfl rfl ?_
 refine CS (CG (VG (VB (vs:=prC p) rfl fun b2=>VG (VB (vs:=prC q) rfl fun b3=>?_))))
 refine xjp ?_
 refine CD (ts 0 4 (ts 5 4 (.only 4 (.only 9 (.only 10 (.only 11 (ts 12 1 .nil))))))) ym yr ?_
 refine xnw ?_
 refine xgc ?_
 refine xnw ?_
 refine xgc ?_
 refine xnx ?_
 refine xgc ?_
 refine xnx ?_
 refine xgc ?_
 refine AG (AR (fun Fr w hF hw hS=>compare_spec Fr w p.1 q.1) rfl rfl yu ?_)
 refine AG (AR (fun Fr w hF hw hS=>compare_spec Fr w p.2 q.2) rfl rfl yu ?_)
 refine AG (AO (OpT.buildSlice (n:=2) (pv:=[(0,.int .i64 (cmpI p.1 q.1)),(1,.int .i64 (cmpI p.2 q.2))]) (cells:=[.int .i64 (cmpI p.1 q.1),.int .i64 (cmpI p.2 q.2)]) rfl rfl rfl rfl yo rfl) rfl (fun v L' g=>by obtain⟨nb,rfl,rfl⟩:=g;exact yu) ?_)
 rintro _ _ ⟨nb,rfl,rfl⟩
 refine AG (AR (fun Fr w hF hw hS=>or_spec Fr w (cmpI p.1 q.1) (cmpI p.2 q.2) (hS.blk 0 rfl)) rfl rfl yu ?_)
 refine zou ?_
 exact CR (Ret.tmp 4 rfl rfl Imp.nil.ent ⟨rfl,rfl⟩)
theorem keep_grow{w w':World}(h:Keep (fun b=>b<w.heap.size) w w'):∃q os,w'=Sort.grow (w.drewN q) os:=by
 refine⟨w'.drawn-w.drawn,w'.heap.extract w.heap.size w'.heap.size,?_⟩
 have hs:=h.size
 have hh:w'.heap=w.heap++w'.heap.extract w.heap.size w'.heap.size:=by
  apply Array.ext_getElem?
  intro i
  rw[Array.getElem?_append]
  split
  ·rename_i hi;exact h.block i hi
  ·rename_i hi
   rw[Array.getElem?_extract]
   split
   ·congr 1;omega
   ·rw[Array.getElem?_eq_none yd]
 have hd:w'.drawn=w.drawn+(w'.drawn-w.drawn):=by have:=h.drawn;omega
 have e1:=h.os
 have e2:=h.tape
 have e3:=h.output
 generalize w'.drawn-w.drawn=q at hd
 generalize w'.heap.extract w.heap.size w'.heap.size=os at hh
 obtain⟨a,b,c,d,e⟩:=w'
 dsimp only at hh hd e1 e2 e3
 subst hh hd e1 e2 e3
 rfl
theorem pair1_grow(p q:PrM)(W:World):Calls Tryz.prog 105 #[.agg (prC p).toArray,.agg (prC q).toArray] W fun e w'=>e=.returned (.int .i64 (prCmp p q))∧∃n os,w'=Sort.grow (W.drewN n) os:=
 Calls.mono ((pair1_spec (fun b=>b<W.heap.size) W p q).calls (fun _ h=>h) Sat.nil) fun e w' ⟨v,L',h1,h2,_,h4⟩=>⟨by rw[h1,h2.1],keep_grow h4⟩
end Cl
end Go.Proofs.YtmghpgpfeabghaaGreat
namespace Go.Proofs
open Go.Shelf
def Tryz.sortP_ren : Go.Shelf.Ren := ⟨fun | 6 => 104 | 15 => 147 | 14 => 146 | 28 => 217 | 29 => 218 | 20 => 209 | 21 => 210 | 22 => 211 | 23 => 212 | 24 => 213 | 25 => 214 | 26 => 215 | 27 => 216 | 46 => 262 | 47 => 263 | 48 => 264 | 49 => 265 | 50 => 266 | 57 => 287 | n => n, fun | 22 => 63 | 24 => 99 | 25 => 194 | 3 => 3 | 39 => 244 | 0 => 0 | 53 => 285 | 55 => 309 | 4 => 4 | 46 => 302 | 45 => 301 | 50 => 137 | 5 => 5 | 9 => 9 | 66 => 346 | 70 => 141 | 76 => 367 | 77 => 363 | n => n, fun | n => n⟩
theorem Tryz.sortP : Go.Proofs.SlLaysF0.n6 Tryz.prog Tryz.sortP_ren := {
  mixed := by kernel_rfl
  f6 := ⟨Tryz.f104.name, by decide, Tryz.func104.trans (congrArg some (by kernel_rfl))⟩
  f14 := ⟨Tryz.f146.name, by decide, Tryz.func146.trans (congrArg some (by kernel_rfl))⟩
  f15 := Tryz.func147.trans (congrArg some (by kernel_rfl))
  f20 := ⟨Tryz.f209.name, by decide, Tryz.func209.trans (congrArg some (by kernel_rfl))⟩
  f21 := ⟨Tryz.f210.name, by decide, Tryz.func210.trans (congrArg some (by kernel_rfl))⟩
  f22 := ⟨Tryz.f211.name, by decide, Tryz.func211.trans (congrArg some (by kernel_rfl))⟩
  f23 := ⟨Tryz.f212.name, by decide, Tryz.func212.trans (congrArg some (by kernel_rfl))⟩
  f24 := ⟨Tryz.f213.name, by decide, Tryz.func213.trans (congrArg some (by kernel_rfl))⟩
  f25 := ⟨Tryz.f214.name, by decide, Tryz.func214.trans (congrArg some (by kernel_rfl))⟩
  f26 := ⟨Tryz.f215.name, by decide, Tryz.func215.trans (congrArg some (by kernel_rfl))⟩
  f27 := ⟨Tryz.f216.name, by decide, Tryz.func216.trans (congrArg some (by kernel_rfl))⟩
  f28 := Tryz.func217.trans (congrArg some (by kernel_rfl))
  f29 := Tryz.func218.trans (congrArg some (by kernel_rfl))
  f46 := ⟨Tryz.f262.name, by decide, Tryz.func262.trans (congrArg some (by kernel_rfl))⟩
  f47 := Tryz.func263.trans (congrArg some (by kernel_rfl))
  f48 := Tryz.func264.trans (congrArg some (by kernel_rfl))
  f49 := ⟨Tryz.f265.name, by decide, Tryz.func265.trans (congrArg some (by kernel_rfl))⟩
  f50 := ⟨Tryz.f266.name, by decide, Tryz.func266.trans (congrArg some (by kernel_rfl))⟩
  f57 := ⟨Tryz.f287.name, by decide, Tryz.func287.trans (congrArg some (by kernel_rfl))⟩
  t0 := Tryz.underlying0
  a0 := Tryz.isAgg0
  z0 := Tryz.sizeOf0
  v0 := Tryz.zeroValue0
  t3 := Tryz.underlying3
  a3 := Tryz.isAgg3
  z3 := Tryz.sizeOf3
  v3 := Tryz.zeroValue3
  t4 := Tryz.underlying4
  a4 := Tryz.isAgg4
  z4 := Tryz.sizeOf4
  v4 := Tryz.zeroValue4
  t5 := Tryz.underlying5
  a5 := Tryz.isAgg5
  z5 := Tryz.sizeOf5
  v5 := Tryz.zeroValue5
  t9 := Tryz.underlying9
  a9 := Tryz.isAgg9
  z9 := Tryz.sizeOf9
  v9 := Tryz.zeroValue9
  t22 := Tryz.underlying63
  a22 := Tryz.isAgg63
  z22 := Tryz.sizeOf63
  v22 := Tryz.zeroValue63
  t25 := Tryz.underlying194
  a25 := Tryz.isAgg194
  z25 := Tryz.sizeOf194
  v25 := Tryz.zeroValue194
  t39 := Tryz.underlying244
  a39 := Tryz.isAgg244
  z39 := Tryz.sizeOf244
  v39 := Tryz.zeroValue244
  t45 := Tryz.underlying301
  a45 := Tryz.isAgg301
  z45 := Tryz.sizeOf301
  v45 := Tryz.zeroValue301
  t46 := Tryz.underlying302
  a46 := Tryz.isAgg302
  z46 := Tryz.sizeOf302
  v46 := Tryz.zeroValue302
  t50 := Tryz.underlying137
  a50 := Tryz.isAgg137
  z50 := Tryz.sizeOf137
  v50 := Tryz.zeroValue137
  t53 := Tryz.underlying285
  a53 := Tryz.isAgg285
  z53 := Tryz.sizeOf285
  v53 := Tryz.zeroValue285
  t55 := Tryz.underlying309
  a55 := Tryz.isAgg309
  z55 := Tryz.sizeOf309
  v55 := Tryz.zeroValue309
  t66 := Tryz.underlying346
  a66 := Tryz.isAgg346
  z66 := Tryz.sizeOf346
  v66 := Tryz.zeroValue346
  t70 := Tryz.underlying141
  a70 := Tryz.isAgg141
  z70 := Tryz.sizeOf141
  v70 := Tryz.zeroValue141
  t76 := Tryz.underlying367
  a76 := Tryz.isAgg367
  z76 := Tryz.sizeOf367
  v76 := Tryz.zeroValue367
  t77 := Tryz.underlying363
  a77 := Tryz.isAgg363
  z77 := Tryz.sizeOf363
  v77 := Tryz.zeroValue363 }
end Go.Proofs
namespace Go.Proofs.YtmghpgpfeabghaaGreat
variable (Fr : Nat → Prop) (w : World)
namespace Cl
open Go Vg T Api Go.Shelf Go.Sort
attribute [local irreducible] VO VC VA
theorem call_sortP:Callable Tryz.prog 104:=⟨_,Tryz.func104,by kernel_rfl,by kernel_rfl⟩
theorem pr_lt(x y:PrM):ltOf prCmp x y=decide (x.1<y.1∨x.1=y.1∧x.2<y.2):=by
 unfold ltOf prCmp cmpI
 by_cases h1:x.1<y.1
 ·simp[h1]
 ·by_cases h2:y.1<x.1
  ·have:x.1≠y.1:=by omega
   simp[h1,h2,this]
  ·have:x.1=y.1:=by omega
   by_cases h3:x.2<y.2
   ·simp[this,h3]
   ·by_cases h4:y.2<x.2<;>simp[this,h3,h4]
theorem pr_swo:SWO (ltOf prCmp) where
 irrefl x:=by rw[pr_lt];simp
 trans x y z h1 h2:=by rw[pr_lt] at *;simp at *;omega
 ntrans x y z h1 h2:=by rw[pr_lt] at *;simp at *;omega
abbrev prT2:TypeId:=99
theorem pr_lays(blk off size:Nat)(w:World):CmpLays Tryz.prog 105 #[] prC 2 prCmp blk off size w:=fun m os dk _ x y=>pair1_grow x y _
theorem pr_enter:∀args w,(callFunc 105 args).run Tryz.prog w=.ok (.enter 105 args) w:=enters_of Tryz.func105 ym rfl
theorem heap_sort(w:World)(b n:Nat)(d:Array PrM)(os:Array Obj)(x:Nat)(hx:x<w.heap.size)(hne:x≠b):(sortWorldK prC 2 w b 0 n d os).heap[x]?=w.heap[x]?:=by
 show(((w.heap.modify b _)++os:Array Obj))[x]?=_
 rw[Array.getElem?_append,if_pos ycp,Array.getElem?_modify,if_neg (fun e=>hne e.symm)]
theorem heap_sort_b{w:World}{b n:Nat}{d:Array PrM}{os:Array Obj}{cs:Array Value}{el:TypeId}(hb:w.heap[b]?=some (.cells cs el (0,0))):(sortWorldK prC 2 w b 0 n d os).heap[b]?=some (.cells (putCells id 0 (flatK prC 2 d) cs) el (0,0)):=by
 have hx:=(Array.getElem?_eq_some_iff.1 hb).1
 show(((w.heap.modify b _)++os:Array Obj))[b]?=_
 rw[Array.getElem?_append,if_pos ycp,Array.getElem?_modify,if_pos rfl,hb]
 rfl
theorem flat_two(l:List PrM)(rest:List Value)(j:Nat)(hj:j<l.length*2):(flat prC l++rest)[j]?=some ((prC (l.toArray)[j / 2]!)[j % 2]!):=by
 have hi:j / 2<l.length:=by omega
 have hx:l[j / 2]?=some l[j / 2]:=GE hi
 have hc:(prC l[j / 2])[j % 2]?=some ((prC l[j / 2])[j % 2]!):=by
  rcases(by omega:j % 2=0∨j % 2=1) with h | h<;>rw[h]<;>rfl
 have:=flat_cell prC_len hx hc rest
 rw[show j / 2*2+j % 2=j by omega] at this
 rw[this]
 have e:(l.toArray)[j / 2]! = l[j / 2]:=by simp[hi]
 rw[e]
theorem sortP_spec{a:Option Addr}{cap:Nat}{l:List PrM}(hl:l.length≤1000000):Tri Tryz.prog 104 [.slice a l.length cap,.func (.func 105) #[] #[]] Fr w [slH prT2 2 a l.length cap (flat prC l)]
  (fun v L=>v=.tuple #[]∧∃m:List PrM,m.Perm l∧L=[slH prT2 2 a l.length cap (flat prC m)]):=
 ⟨call_sortP,fun hlow hs=>by
  obtain⟨F,⟨ids,G,rfl,⟨hc,hh⟩,hG⟩,hn,hbd⟩:=hs
  obtain rfl:G=[]:=hG
  rcases hh with ⟨rfl,h0,rfl,rfl⟩ | ⟨b,rest,rfl,rfl,hcap,hr,hb⟩
  ·have hc0:=AnyF.slices_SortFunc_none Tryz.sortP none 0 (.func (.func 105) #[] #[]) w
   obtain rfl:l=[]:=List.eq_nil_of_length_eq_zero h0
   refine Calls.mono hc0 fun e w' ⟨h1,h2⟩=>?_
   subst h2
   exact⟨_,[slH prT2 2 none 0 0 (flat prC [])],h1,⟨rfl,[],.nil,rfl⟩,⟨[],⟨[],[],rfl,⟨rfl,.inl ⟨rfl,rfl,rfl,rfl⟩⟩,rfl⟩,.nil,fun _ h=>by cases h⟩,Keep.refl _ _⟩
  ·have hbl:b<w.heap.size:=(hbd b yf).2
   have hnF:¬Fr b:=(hbd b yf).1
   have hH:HoldsK prC 2 w b 0 l.toArray:=fun j hj=>by
    rw[size_flatK] at hj
    have hj2:j<l.length*2:=by simpa using hj
    refine⟨?_,?_⟩
    ·rw[Nat.zero_add,get_flatK prC 2 _ j hj]
     show w.cell? ⟨b,j,none⟩=some ((prC (l.toArray)[j / 2]!)[j % 2]!)
     rw[cell_of_row w b j (flat prC l++rest).toArray prT2 (0,0) hb]
     simpa using flat_two l rest j hj2
    ·exact frozen_of_row w b (0+j) (flat prC l++rest).toArray prT2 hb
   have hc0:=AnyQ.slices_SortFunc Tryz.sortP 2 Tryz.isAgg99 Tryz.sizeOf99 prC prC_len (fun x=>by intro v hv;exact List.all_eq_true.1 (prC_one x) v hv) prCmp pr_swo 105 #[] b 0 cap l.toArray w pr_enter (pr_lays b 0 _ w) hH hbl ye
   refine Calls.mono hc0 fun e w' ⟨h1,d,n,os,hp,_,h2⟩=>?_
   subst h2
   have hds:d.size=l.length:=by have:=hp.1;simpa using this
   have hpm:d.toList.Perm l:=by
    have h3:=hp.2.2
    have e1:l.toArray.size=d.size:=by rw[hds];simp
    rw[Array.extract_eq_self_of_le yd,Array.extract_eq_self_of_le (NR _)] at h3
    exact h3
   have hm2:[slH prT2 2 (some ⟨b,0,none⟩) l.length cap (flat prC d.toList)]=[slH prT2 2 (some ⟨b,0,none⟩) l.length cap (flat prC d.toList)]:=rfl
   refine⟨_,_,h1,⟨rfl,d.toList,hpm,rfl⟩,⟨[b],⟨[b],[],rfl,⟨by rw[flat_len prC_len];simp[hds],.inr ⟨b,(putCells id 0 (flatK prC 2 d) (flat prC l++rest).toArray).toList.drop (l.length*2),rfl,rfl,hcap,?_,?_⟩⟩,rfl⟩,hn,fun x hx=>⟨(hbd x hx).1,?_⟩⟩,?_⟩
   ·rw[List.length_append,flat_len prC_len,List.length_drop]
    simp only[Array.length_toList]
    have e1:(putCells id 0 (flatK prC 2 d) (flat prC l++rest).toArray).size=cap*2:=by
     unfold putCells
     rw[Array.size_mapIdx,List.size_toArray,hr]
    rw[e1]
    have:l.length*2≤cap*2:=Nat.mul_le_mul_right 2 hcap
    simp[hds];omega
   ·rw[heap_sort_b hb]
    congr 2
    apply Array.ext_getElem?
    intro j
    conv=>rhs;rw[List.getElem?_toArray]
    have hsz:(flatK prC 2 d).size=l.length*2:=by rw[size_flatK,hds]
    by_cases hj:j<l.length*2
    ·have e1:=flat_two d.toList ((putCells id 0 (flatK prC 2 d) (flat prC l++rest).toArray).toList.drop (l.length*2)) j (by simpa[hds] using hj)
     rw[e1]
     have e2:=flat_two l rest j hj
     unfold putCells
     rw[Array.getElem?_mapIdx,List.getElem?_toArray,e2]
     simp only[Option.map_some]
     rw[if_pos ⟨Nat.zero_le _,by omega⟩,Nat.sub_zero,get_flatK prC 2 _ j (by rw[hds];exact hj)]
     simp
    ·have hlf:(flat prC d.toList).length=l.length*2:=by rw[flat_len prC_len];simp[hds]
     rw[List.getElem?_append_right yd,hlf,List.getElem?_drop,Array.getElem?_toList]
     congr 1
     omega
   ·show x<(((w.heap.modify b _)++os:Array Obj)).size
    rw[Array.size_append,Array.size_modify]
    have:=(hbd x hx).2
    omega
   ·refine⟨rfl,rfl,rfl,?_,fun x hx=>heap_sort w b n d os x (hlow x hx) (fun e=>hnF (e▸hx)),Nat.le_add_right _ _⟩
    show w.heap.size≤(((w.heap.modify b _)++os:Array Obj)).size
    rw[Array.size_append,Array.size_modify]
    omega⟩
end Cl
namespace Cl
open Go Vg T Api Ch Rep Conf Lg Rd
attribute [local irreducible] VO VC VA
section
variable {p:Nat} {S:LnkM} {b:Nat} {X:List LnG}
theorem pairs_spec(hml:S.mail.length≤100000)(h:Blk Fr w p (lnkC S b))(hm:MapBlk Fr w iiV txV b X)(hX:erX X=S.mail):Tri Tryz.prog 76 [.pointer (some ⟨p,0,none⟩)] Fr w [] (fun v L=>∃(l:List PrM) (a:Option Addr) (c:Nat),l.Perm (S.mail.map Prod.fst)∧v=.slice a l.length c∧L=[slH prT2 2 a l.length c (flat prC l)]):=by
 obtain⟨es,clock,g1,g2,g3⟩:=hm.at_
 have hz:ZAt iiV txV X es clock:=⟨g2,g3⟩
 have hXl:X.length=S.mail.length:=by rw[←hX];exact(List.length_map ..).symm
 refine TF 27 Tryz.func76 rfl ym tabOk rfl rfl ?_
 refine xjq ?_
 refine xmv ?_
 refine zop ?_
 refine xjr ?_
 refine xmz ?_
 rintro _ _ ⟨q,rfl,rfl⟩
 refine xeg ?_
 refine VC.block ?_
 refine VC.loop (σ:=Zed PrM LnV×List PrM×Option Addr×Nat) (fun s=>[(11,pV q),(3,.slice s.2.2.1 s.2.1.length s.2.2.2)]) (fun s=>[itmH q b clock s.1,slH prT2 2 s.2.2.1 s.2.1.length s.2.2.2 (flat prC s.2.1)]) (fun s=>ZOk iiV txV X es s.1∧s.2.1=s.1.map fun z=>z.2.1) (fun s=>X.length-s.1.length) ([],[],none,0)
  ⟨ZOk.nil,rfl⟩ sbZ (IP 0 rfl (Imp.slNil Imp.nil)).ent ?_
 rintro⟨J,l,a,c⟩ ⟨hJ,hlJ⟩
 dsimp only at hJ hlJ ⊢
 have b2:=ZOk.len hz hJ
 have hlL:l.length=J.length:=by rw[hlJ,List.length_map]
 refine xjp ?_
 refine xna ?_
 rintro v L' (⟨rfl,rfl,hp⟩ | ⟨z,rfl,z1,z2,hok,rfl⟩)
 ·refine xjp ?_
  refine VC.condF rfl (CX ?_)
  refine xjp ?_
  refine VG (VQ 1 rfl (fun Fr w hF hs hS=>sortP_spec Fr w (a:=a) (cap:=c) (l:=l) yd) rfl (ψ:=fun v H=>∃m:List PrM,m.Perm l∧v=.tuple #[]∧H=slH prT2 2 a l.length c (flat prC m)) (fun v L h=>by obtain⟨h1,m,h2,h3⟩:=h;exact⟨_,h3,m,h2,h1,rfl⟩) ?_)
  rintro _ _ ⟨m,hm2,rfl,rfl⟩
  refine xjp ?_
  have hk:l.Perm (S.mail.map Prod.fst):=by
   have h1:=hp.map fun x:LnG=>x.1
   rw[List.map_map] at h1
   rw[hlJ,←hX]
   unfold erX
   rw[List.map_map]
   exact h1
  exact CR (Ret.tmp 2 rfl rfl (IP 1 rfl Imp.nil).ent ⟨m,a,c,hm2.trans hk,by rw[hm2.length_eq],by rw[hm2.length_eq]⟩)
 ·refine xjp ?_
  refine VC.condT rfl (CK ?_)
  refine xjp ?_
  refine xnb ?_
  have b3:=ZOk.len hz hok
  rw[List.length_append] at b3
  simp at b3
  refine xjp ?_
  refine VG (VO.alloc rfl fun kb=>?_)
  refine xnc ?_
  refine xdf ?_
  refine VG (VI (light_buildArr (pv:=[(0,.int .i64 z.2.1.1),(1,.int .i64 z.2.1.2)]) (prC z.2.1) rfl rfl rfl rfl rfl) ?_)
  refine VG (VO.buildSlice (n:=1) (pv:=[(0,.agg (prC z.2.1).toArray)]) (prC z.2.1) rfl rfl rfl rfl yo (fill_one rfl rfl rfl) fun nb=>?_)
  refine VG (VO.append (m:=1) (news:=prC z.2.1) 3 rfl rfl rfl rfl rfl rfl rfl (RdRow.pt 0 rfl rfl rfl) rfl (few_bytes (k:=1000000) yd yo) yd fun a2 c2 _=>?_)
  refine xjp ?_
  have hlen:(l ++ [z.2.1]).length=l.length+1:=by simp
  refine⟨(J ++ [z],l ++ [z.2.1],a2,c2),⟨hok,by dsimp only;rw[List.map_append,hlJ];rfl⟩,by show X.length-(J ++ [z]).length<X.length-J.length;rw[List.length_append];simp;omega,SC rfl (SC ybq (SN _)),?_⟩
  dsimp only
  rw[hlen,flat_append]
  exact(pkZ [3,0]).ent
end
end Cl
namespace Cl
open Go Vg T Api Ch Rep Conf Lg Rd
attribute [local irreducible] VO VC VA
section
variable {p:Nat} {C:CluM} {y:CluS} {b e:Nat}
theorem look_node(h:SatIn Fr [cluH p C] w)(n:Int):Tri Tryz.prog 30 [.pointer (some ⟨p,0,none⟩),.int .i64 n] Fr w []
  (fun v L=>(if (C.node n).isSome=true then ∃q,v=.pointer (some ⟨q,0,none⟩) else v=.pointer none)∧L=[]):=by
 obtain⟨y,fit,hy⟩:=clu_in h
 refine Ring.Tri.drop (unode_spec Fr w fit (hy.blk 0 rfl) (hy.blk 3 rfl)) fun v L h=>⟨L,⟨?_,h.2⟩,Imp.refl⟩
 have h:=h.1
 cases hn:C.node n with
 | none=>rw[hn] at h;exact h
 | some r=>
  rw[hn] at h
  obtain⟨k,q,_,_,hv⟩:=h
  exact⟨q,hv⟩
theorem look_links(ok:C.lnk.Ok)(h:SatIn Fr [cluH p C] w):Tri Tryz.prog 75 [.pointer (some ⟨p,0,none⟩)] Fr w [] (fun v L=>∃q m,m.Perm C.lnk.mail∧v=.pointer (some ⟨q,0,none⟩)∧L=[lnkH q ⟨C.lnk.cap,m⟩]):=by
 obtain⟨y,fit,hy⟩:=clu_in h
 exact ulinks_spec Fr w ok (hy.blk 0 rfl) (hy.at_ 5 rfl)
theorem look_pairs{q:Nat}{S:LnkM}(hml:S.mail.length≤100000)(h:SatIn Fr [lnkH q S] w):Tri Tryz.prog 76 [.pointer (some ⟨q,0,none⟩)] Fr w [] (fun v L=>∃(l:List PrM) (a:Option Addr) (c:Nat),l.Perm (S.mail.map Prod.fst)∧v=.slice a l.length c∧L=[slH prT2 2 a l.length c (flat prC l)]):=by
 obtain⟨lb,X,hX,hs⟩:=lnkH_in h
 exact pairs_spec Fr w hml (hs.blk 0 rfl) (hs.mapBlk 1 rfl) hX
end
end Cl
namespace Vg
open Go Go.MapKept
section
variable {P:Program} {t ti:TypeId} {Ti:TI}
theorem EqT.arr2(ht:P.underlying t=some (.array 2 ti))(hi:P.underlying ti=some (.int .i64))(hTi:TIok P ti Ti)(ha:Ti.und.agg=false)(hs:Ti.size=1)(a b:Int×Int):EqT P t 1 (iiV a) (iiV b) (decide (a=b)):=fun d hd w=>by
 obtain⟨k,rfl⟩:∃k,d=k+1:=⟨d-1,by omega⟩
 obtain⟨i,hi',hs',_,_⟩:=hTi.info'
 have hx:∀(a:Int×Int) (w:World),(part ti ([.int .i64 a.1,.int .i64 a.2]:List Value).toArray 0).run P w=.ok (.int .i64 a.1) w∧(part ti ([.int .i64 a.1,.int .i64 a.2]:List Value).toArray 1).run P w=.ok (.int .i64 a.2) w:=fun a w=>⟨part1 hTi ha rfl w,part1 hTi ha rfl w⟩
 have he:∀(x y:Int) (w:World),(Op.equalIn (k+1) ti (.int .i64 x) (.int .i64 y)).run P w=.ok (decide (x=y)) w:=fun x y w=>EqT.int hi x y k (Nat.zero_le _) w
 rw[Op.equalIn,Sem.run_bind,run_underlying ht]
 simp only[Result.andThen_ok,iiV]
 rw[Sem.run_bind,run_size hi',hs',hs]
 obtain⟨a1,a2⟩:=a;obtain⟨b1,b2⟩:=b
 have h1:=fun w=>(hx (a1,a2) w).1
 have h2:=fun w=>(hx (a1,a2) w).2
 have g1:=fun w=>(hx (b1,b2) w).1
 have g2:=fun w=>(hx (b1,b2) w).2
 dsimp only at h1 h2 g1 g2
 simp only[Result.andThen_ok]
 have e2:∀{β:Type} (f:Nat→β→Sem (ForInStep β)) (x),(forIn [0:2] x f)=(do
   match ←f 0 x with
   | .done y=>pure y
   | .yield y=>match ←f 1 y with
    | .done z=>pure z
    | .yield z=>pure z):=fun f x=>by
  simp only[Std.Legacy.Range.forIn_eq_forIn_range',List.range']
  simp
  rfl
 rw[e2]
 simp only[Sem.run_bind,Nat.zero_mul,Nat.one_mul,h1,h2,g1,g2,he,Result.andThen_ok]
 have he1:=he a1 b1
 have he2:=he a2 b2
 have k1:decide ((a1,a2)=(b1,b2))=(decide (a1=b1)&&decide (a2=b2)):=by by_cases q:a1=b1<;>by_cases q2:a2=b2<;>simp[q,q2]
 rw[k1]
 generalize decide (a1=b1)=x at he1 ⊢
 generalize decide (a2=b2)=y at he2 ⊢
 cases x<;>cases y<;>simp[Sem.run_bind,h1,h2,g1,g2,he1,he2,Result.andThen]
theorem KeyOk.arr2(ht:P.underlying t=some (.array 2 ti))(hi:P.underlying ti=some (.int .i64))(hTi:TIok P ti Ti)(ha:Ti.und.agg=false)(hs:Ti.size=1):KeyOk P t iiV where
 inj:=fun a b h=>by
  obtain⟨a1,a2⟩:=a;obtain⟨b1,b2⟩:=b
  simp[iiV] at h
  rw[h.1,h.2]
 check:=fun e a w=>by
  obtain⟨i,hi',hs',_,_⟩:=hTi.info'
  obtain⟨a1,a2⟩:=a
  have h1:∀w,(part ti ([.int .i64 a1,.int .i64 a2]:List Value).toArray 0).run P w=.ok (.int .i64 a1) w:=fun w=>part1 hTi ha rfl w
  have h2:∀w,(part ti ([.int .i64 a1,.int .i64 a2]:List Value).toArray 1).run P w=.ok (.int .i64 a2) w:=fun w=>part1 hTi ha rfl w
  have c1:∀w,(Instr.checkKey e (9998+1) ti (.int .i64 a1)).run P w=.ok () w:=fun w=>run_checkKey (k:=.int .i64 _) (w:=w) hi (by rfl) e 9998
  have c2:∀w,(Instr.checkKey e (9998+1) ti (.int .i64 a2)).run P w=.ok () w:=fun w=>run_checkKey (k:=.int .i64 _) (w:=w) hi (by rfl) e 9998
  show(Instr.checkKey e (9999+1) t (iiV (a1,a2))).run P w=_
  unfold Instr.checkKey
  rw[Sem.run_bind,run_underlying ht]
  simp only[Result.andThen_ok,iiV]
  rw[show(9999:Nat)=9998+1 from rfl]
  simp[Std.Legacy.Range.forIn_eq_forIn_range',List.range',Sem.run_bind,run_size hi',hs',hs,h1,h2,c1,c2,Result.andThen]
 find:=fun {α} d a xs es hes w=>by
  unfold Instr.findKey
  rw[Sem.run_bind,run_underlying ht]
  simp only[Result.andThen_ok]
  have heq:∀(a b:Int×Int) (w:World),(Op.equal t (iiV a) (iiV b)).run P w=.ok (decide (a=b)) w:=fun a b w=>(EqT.arr2 ht hi hTi ha hs a b).run yo w
  cases es with
  | nil=>
   cases xs with
   | nil=>rfl
   | cons _ _=>cases hes
  | cons e r=>
   rw[show Instr.findNow (.array 2 ti) (iiV a) (e::r) 0=none from rfl]
   exact findAsking_of heq d a xs (e::r) 0 hes w
 bits:=fun a=>by simp[iiV,Instr.sameBits]
end
end Vg
namespace Vg
open Go
def yieldV(l:Nat):Value:=.func (.yield l) #[] #[]
def lpH(l:Nat)(r:Loop):HP:=⟨fun ids w=>ids=[l]∧w.heap[l]?=some (.loop r),fun _ _ _ h hs=>⟨hs.1,(h l yb).trans hs.2⟩⟩
def dfH(D:Nat):HP:=⟨fun ids w=>ids=[D]∧w.heap[D]?=some (.deferred (some [])),fun _ _ _ h hs=>⟨hs.1,(h D yb).trans hs.2⟩⟩
theorem Sat.putObj{Fr:Nat→Prop}{H H':HP}{L:List HP}{w:World}{b:Nat}{o:Obj}(hH:∀ids,H.sat ids w→ids=[b])(hH':b<w.heap.size→H'.sat [b] (w.putObj b o))(h:Sat Fr (H::L) w):
  Sat Fr (H'::L) (w.putObj b o)∧Keep Fr w (w.putObj b o):=by
 obtain⟨F,⟨i,G,rfl,hi,hG⟩,hn,hb⟩:=h
 obtain rfl:=hH i hi
 have hd:=(List.nodup_append.1 hn).2.2
 have hne:∀x∈G,x≠b:=fun x hx e=>hd b yf x hx e.symm
 refine⟨⟨[b]++G,⟨[b],G,rfl,hH' (hb b yf).2,hG.loc fun x hx=>World.putObj_heap_other (hne x hx)⟩,hn,fun x hx=>⟨(hb x hx).1,by rw[World.putObj_size];exact(hb x hx).2⟩⟩,?_⟩
 exact⟨rfl,rfl,rfl,by rw[World.putObj_size];exact NR _,fun x hx=>World.putObj_heap_other (fun e=>(hb b yf).1 (e▸hx)),NR _⟩
theorem Sat.lp{Fr:Nat→Prop}{L:List HP}{w:World}{l:Nat}{r:Loop}(h:Sat Fr (lpH l r::L) w):w.heap[l]?=some (.loop r):=by
 obtain⟨F,⟨i,G,rfl,hi,hG⟩,hn,hb⟩:=h
 exact hi.2
theorem Sat.lp_put{Fr:Nat→Prop}{L:List HP}{w:World}{l:Nat}{r:Loop}(q:Loop)(h:Sat Fr (lpH l r::L) w):Sat Fr (lpH l q::L) (w.putObj l (.loop q))∧Keep Fr w (w.putObj l (.loop q)):=
 Sat.putObj (H:=lpH l r) (H':=lpH l q) (fun _ h=>h.1) (fun hl=>⟨rfl,World.putObj_heap_same hl⟩) h
def Yld(P:Program)(l:Nat)(r:Loop)(vals:List Value)(Fr:Nat→Prop)(w:World)(L:List HP)(R:Value→List HP→Prop):Prop:=
 (∀b,Fr b→b<w.heap.size)→Sat Fr (lpH l r::L) w →
  RoundIn Fence.wide 0 P l r.fn ((r.params.zip vals.toArray).foldl (fun tmps (t,a)=>tmps.setIfInBounds t a) r.tmps) r.assign r.body w fun en w'=>∃v L',en=.returned v∧R v L'∧Sat Fr (lpH l r::L') w'∧Keep Fr w w'
theorem Yld.of{P:Program}{tab:Tab}{ok:TabOk P tab}{n l:Nat}{r:Loop}{vals:List Value}{Fr:Nat→Prop}{w:World}{L:List HP}{R:Value→List HP→Prop}{e0:Env}(hst:r.state=.ready)(hpe:r.pending=none)
  (ha:Agr n { tmps:=(r.params.zip vals.toArray).foldl (fun tmps (t,a)=>tmps.setIfInBounds t a) r.tmps,defers:=[] } e0)
  (h:∀w,VC ⟨P,tab,ok,n,Fr,w⟩ r.assign e0 (lpH l r::L) fun x e1 L1=>x=.normal∧∃L2,L1=lpH l r::L2 ∧
   ∀w,VC ⟨P,tab,ok,n,Fr,w⟩ r.body e1 (lpH l { r with state:=.busy } :: L2) fun x e2 L3=>x=.normal∧∃L4,L3=lpH l { r with state:=.busy } :: L4∧R (.bool true) L4):
  Yld P l r vals Fr w L R:=fun hlow hs=>by
 refine roundIn_of_wpIn (F:=Fence.wide) trivial ?_
 have h1:=h w (some l) _ w ha ⟨hs,Keep.refl _ _,hlow⟩
 refine wpIn_mono (F:=wR (some l)) h1 ?_
 rintro x a1 w1 ⟨e1,L1,g1,g2,rfl,L2,rfl,hb⟩
 have hl1:=g2.sat.lp
 obtain⟨s2,k2⟩:=g2.sat.lp_put { r with state:=.busy }
 refine⟨_,run_beginRound hl1 hst,?_⟩
 have hlow2:∀b,Fr b→b<(w1.putObj l (.loop { r with state:=.busy })).heap.size:=fun b hb=>by rw[World.putObj_size];exact g2.lowW b hb
 refine wpIn_mono (F:=wR (some l)) (hb (w1.putObj l (.loop { r with state:=.busy })) (some l) a1 _ g1 ⟨s2,Keep.refl _ _,hlow2⟩) ?_
 rintro x a2 w2 ⟨e2,L3,g3,g4,rfl,L4,rfl,hR⟩
 obtain⟨s5,k5⟩:=g4.sat.lp_put r
 have he:({ ({ r with state:=LoopState.busy }:Loop) with state:=if (none:Option Code).isNone then .ready else .done,pending:=none }:Loop)=r:=by
  obtain⟨_,_,_,_,_,_,_,_⟩:=r
  dsimp only at hst hpe
  subst hst hpe
  rfl
 refine⟨_,_,run_endRound none g4.sat.lp,?_⟩
 rw[he]
 exact⟨_,L4,rfl,hR,s5,((g2.keep.trans k2).trans g4.keep).trans k5⟩
def OpY(X:Cx)(op:Op)(e:Env)(L:List HP)(M:Value→List HP→Prop):Prop:=
 (∀c,op≠.defer c)∧∀a w,Agr X.n a e→St X L w→∀dst ty pos after guard,∃l f tmps assign body,(execOp a.eval ⟨dst,op,ty,pos,after,guard⟩).run X.P w=.ok (.round l f tmps assign body) w ∧
  RoundIn Fence.wide 0 X.P l f tmps assign body w fun en w'=>∃v L',en=.returned v∧M v L'∧St X L' w'
theorem OpY.wp{X:Cx}{o:Oper}{e:Env}{L:List HP}{M:Value→List HP→Prop}(h:OpY X o.op e L M){a:Act}{w:World}(ha:Agr X.n a e)(hw:St X L w){ro:Option Nat}
  {next:Act→World→Prop} {Q:Exit→Act→World→Prop} (hn:∀v L' w',M v L'→St X L' w'→next (a.put o.dst v) w'):o.wpIn (wR ro) 0 X.P a w next Q:=by
 refine⟨fun _ _=>trivial,?_⟩
 rw[semAt_of ro _ _ h.1]
 obtain⟨l,f,tmps,assign,body,hr,hc⟩:=h.2 a w ha hw o.dst o.type o.pos o.after o.guard
 rw[hr]
 refine⟨(fun h=>by cases h),RoundIn.mono (F:=wR ro) hc fun en w' ⟨v,L',he,hm,hs⟩=>?_⟩
 subst he
 exact hn v L' w' hm hs
theorem VO.opY{X:Cx}{ops:Array Oper}{G:GS}{o:Oper}{l:List Oper}{e:Env}{L:List HP}{K:Env→List HP→Prop}{M:Value→List HP→Prop}(h:OpY X o.op e L M)
  (hk:∀v L',M v L'→VO X ops G l (putE o.dst v e) L' K) (hg:gOn ops G o.guard=some true:=by rfl) (hd:dstOk X.n o.dst=true:=by rfl) (hf:gFree G o.dst=true:=by rfl):VO X ops G (o::l) e L K:=by
 intro Q' hQ ro a w ha hG hw
 unfold wpListIn
 rw[if_pos (gOn_wanted hG hg)]
 exact h.wp ha hw fun v L' w' hm hs=>hk v L' hm Q' hQ _ _ _ (ha.putE hd v) (hG.put hf v) hs
theorem VA.opY{X:Cx}{ops:Array Oper}{G:GS}{pl:Plan}{S:Pend}{e:Env}{L:List HP}{K:Env→List HP→Prop}{i:Nat}{o:Oper}{M:Value→List HP→Prop}(h:OpY X o.op e L M)(hi:ops.toList[i]?=some o)
  (hst:∀v L',M v L'→∀w,St X L' w→∀p∈S,waits ops i p.1=false→p.2 w)
  (hk:∀v L',M v L'→VA X ops G pl (S.filter fun p=>!waits ops i p.1) (putE o.dst v e) L' K)
  (hg:gOn ops G o.guard=some true:=by rfl) (hd:dstOk X.n o.dst=true:=by rfl) (hf:gFree G o.dst=true:=by rfl):VA X ops G (.only i pl) S e L K:=by
 intro Q' hp0 hQ hsel ro listed a w hp ha hG hw hall
 simp only[planB,Bool.and_eq_true,beq_iff_eq] at hp
 have hi':ops[i]?=some o:=by simpa using hi
 have hpr:=hp.1
 refine⟨fun h0=>yh,fun j hj=>?_⟩
 rw[hpr,List.mem_singleton] at hj
 subst hj
 unfold wpOpIn
 rw[hi']
 simp only[gOn_wanted hG hg,if_true]
 refine h.wp ha hw (fun v L' w' hm hs=>⟨fun p hp1 hp2=>hst v L' hm w' hs p hp1 hp2,?_⟩)
 exact xde
theorem OpY.yield{X:Cx}{x:Operand}{l:Nat}{r:Loop}{args:Array Operand}{tys:Array TypeId}{e:Env}{L Lc Lr:List HP}{vals:List Value}{R:Value→List HP→Prop}
  (hx:ev e x=some (yieldV l)) (hargs:evs e args.toList=some vals) (hn:vals.length=r.params.size) (hp:L.Perm (lpH l r::(Lc++Lr)))
  (ht:∀Fr' w,(∀b,X.Fr b→Fr' b)→St X L w→SatIn Fr' Lr w→Yld X.P l r vals Fr' w Lc R):
  OpY X (.call ⟨.value x,args,tys⟩) e L (fun v L'=>∃L1,R v L1∧L'=lpH l r::(L1++Lr)):=by
 refine⟨fun c=>Op.noConfusion,fun a w ha hw dst ty pos after guard=>?_⟩
 obtain⟨F,hs,hnd,hb⟩:=hw.sat.perm hp
 obtain⟨i,G,rfl,hi,hG⟩:=hs
 obtain⟨rfl,hl⟩:=hi
 obtain⟨Fc,Fl,rfl,hsc,hsl⟩:=Sats.append.1 hG
 have T:=ht (fun b=>X.Fr b∨b∈Fl) w (fun b h=>.inl h) hw ⟨Fl,hsl,fun b h=>.inr h⟩
 have hev:args.map a.eval=vals.toArray:=by
  have:=ha.evs hargs
  apply Array.toList_inj.1
  simpa using this
 refine⟨l,r.fn,(r.params.zip vals.toArray).foldl (fun tmps (t,a)=>tmps.setIfInBounds t a) r.tmps,r.assign,r.body,?_,?_⟩
 rotate_left
 ·have hnd2:=List.nodup_append.1 hnd
  have hnd3:=List.nodup_append.1 hnd2.2.1
  refine RoundIn.mono (T (fun b h=>?_) ⟨[l]++Fc,⟨[l],Fc,rfl,⟨rfl,hl⟩,hsc⟩,?_,fun b h=>⟨fun h'=>?_,?_⟩⟩) fun en w' ⟨v,L',h1,h2,h3,h4⟩=>?_
  ·rcases h with h | h
   ·exact hw.lowW b h
   ·exact(hb b ya).2
  ·rw[←List.append_assoc] at hnd
   exact(List.nodup_append.1 hnd).1
  ·rcases h' with h' | h'
   ·refine(hb b ?_).1 h'
    rcases List.mem_append.1 h with h | h
    ·simp at h;simp[h]
    ·simp[h]
   ·rcases List.mem_append.1 h with h | h
    ·exact hnd2.2.2 b h b (by simp[h']) rfl
    ·exact hnd3.2.2 b h b h' rfl
  ·rcases List.mem_append.1 h with h | h
   ·exact(hb b (by simp at h;simp[h])).2
   ·exact(hb b ya).2
  ·refine⟨v,lpH l r::(L'++Lr),h1,⟨L',h2,rfl⟩,⟨?_,hw.keep.trans (h4.mono fun b h=>.inl h),hw.low⟩⟩
   obtain⟨K,hK,hKn,hKb⟩:=h3
   refine⟨K++Fl,Sats.append (L:=lpH l r::L').2 ⟨K,Fl,rfl,hK,hsl.loc fun b h=>h4.block b (.inr h)⟩,?_,?_⟩
   ·exact List.nodup_append.2 ⟨hKn,hnd3.2.1,fun x hx y hy he=>(hKb x hx).1 (.inr (he▸hy))⟩
   ·intro b h
    rcases List.mem_append.1 h with h | h
    ·exact⟨fun h'=>(hKb b h).1 (.inl h'),(hKb b h).2⟩
    ·exact xdc
 ·have hy:=run_yield (P:=X.P) (args:=vals.toArray) hl (by simpa using hn)
  simp only[execOp,resolve,ha.ev hx,yieldV,Deferred.ofValue,invoke]
  rw[hev]
  simpa[Sem.run_bind,Result.andThen] using hy
def markD(D:Nat):Deferred:={ target:=.collected D,args:=#[] }
structure AgrD(D n:Nat)(a:Act)(e:Env):Prop where
 agr:Agr n { a with defers:=[] } e
 mark:a.defers=[markD D]
def VD(X:Cx)(D:Nat)(c:Code)(e:Env)(L:List HP)(Q:Exit→Env→List HP→Prop):Prop:=
 ∀a w,AgrD D X.n a e→St X L w→c.wpIn (wR none) 0 X.P (fun x a' w'=>∃e' L',AgrD D X.n a' e'∧St X L' w'∧Q x e' L') a w
def VM(X:Cx)(c:Code)(e:Env)(L:List HP)(Q:Exit→Env→List HP→Prop)(QD:Nat→Exit→Env→List HP→Prop):Prop:=
 ∀a w,Agr X.n a e→St X L w→c.wpIn (wR none) 0 X.P (fun x a' w'=>(∃e' L',Agr X.n a' e'∧St X L' w'∧Q x e' L')∨∃D e' L',AgrD D X.n a' e'∧St X L' w'∧QD D x e' L') a w
def seqD(X:Cx)(D:Nat)(c:Code)(Q:Exit→Env→List HP→Prop):Exit→Env→List HP→Prop
 | .normal,e,L=>VD X D c e L Q
 | x,e,L=>Q x e L
def seqM(X:Cx)(c:Code)(Q:Exit→Env→List HP→Prop)(QD:Nat→Exit→Env→List HP→Prop):Exit→Env→List HP→Prop
 | .normal,e,L=>VM X c e L Q QD
 | x,e,L=>Q x e L
section
variable {X:Cx} {D:Nat} {b c:Code} {e:Env} {L:List HP} {Q:Exit→Env→List HP→Prop} {QD:Nat→Exit→Env→List HP→Prop}
theorem VD.ret(h:Q .ret e L):VD X D .ret e L Q:=fun _ _ ha hw=>wpIn_ret ⟨e,L,ha,hw,h⟩
theorem VD.seq(h:VD X D b e L (seqD X D c Q)):VD X D (.seq b c) e L Q:=by
 intro a w ha hw
 refine wpIn_seq (wpIn_mono (h a w ha hw) fun x a' w' ⟨e',L',h1,h2,h3⟩=>?_)
 cases x with
 | normal=>exact h3 a' w' h1 h2
 | exit id=>exact⟨e',L',h1,h2,h3⟩
 | goto l=>exact⟨e',L',h1,h2,h3⟩
 | ret=>exact⟨e',L',h1,h2,h3⟩
 | panic ch=>exact⟨e',L',h1,h2,h3⟩
 | outgrown=>exact⟨e',L',h1,h2,h3⟩
theorem VM.seqV(h:VC X b e L (seqM X c Q QD)):VM X (.seq b c) e L Q QD:=by
 intro a w ha hw
 refine wpIn_seq (wpIn_mono (h none a w ha hw) fun x a' w' ⟨e',L',h1,h2,h3⟩=>?_)
 cases x with
 | normal=>exact h3 a' w' h1 h2
 | exit id=>exact .inl ⟨e',L',h1,h2,h3⟩
 | goto l=>exact .inl ⟨e',L',h1,h2,h3⟩
 | ret=>exact .inl ⟨e',L',h1,h2,h3⟩
 | panic ch=>exact .inl ⟨e',L',h1,h2,h3⟩
 | outgrown=>exact .inl ⟨e',L',h1,h2,h3⟩
theorem VM.seqD(h:VM X b e L (fun _ _ _=>False) (fun D=>seqD X D c (QD D))):VM X (.seq b c) e L Q QD:=by
 intro a w ha hw
 refine wpIn_seq (wpIn_mono (h a w ha hw) fun x a' w' hh=>?_)
 rcases hh with ⟨_,_,_,_,h3⟩ | ⟨D,e',L',h1,h2,h3⟩
 ·exact h3.elim
 cases x with
 | normal=>exact wpIn_mono (h3 a' w' h1 h2) fun x a2 w2 ⟨e2,L2,k1,k2,k3⟩=>.inr ⟨D,e2,L2,k1,k2,k3⟩
 | exit id=>exact .inr ⟨D,e',L',h1,h2,h3⟩
 | goto l=>exact .inr ⟨D,e',L',h1,h2,h3⟩
 | ret=>exact .inr ⟨D,e',L',h1,h2,h3⟩
 | panic ch=>exact .inr ⟨D,e',L',h1,h2,h3⟩
 | outgrown=>exact .inr ⟨D,e',L',h1,h2,h3⟩
theorem VM.block{id:Nat}(h:VM X c e L (fun _ _ _=>False) (fun D x e L=>x=.normal∧QD D .normal e L)):VM X (.block id c) e L (fun _ _ _=>False) QD:=by
 intro a w ha hw
 refine wpIn_block (wpIn_mono (h a w ha hw) fun x a' w' hh=>?_)
 rcases hh with ⟨_,_,_,_,h3⟩ | ⟨D,e',L',h1,h2,rfl,h3⟩
 ·exact h3.elim
 ·exact .inr ⟨D,e',L',h1,h2,h3⟩
theorem VM.rangeF{g:Operand}{ps:Array Tmp}{assign body:Code}{f:FuncId}{capt:List Value}{M:List HP→Prop}(hg:ev e g=some (fnV f [] capt))(hc:Callable X.P f)
  (ht:∀(l:Nat) (r:Loop) (Fr':Nat→Prop) (w:World),(∀b,X.Fr b→Fr' b)→Keep X.Fr X.w0 w→(∃a:Act,Agr X.n a e∧r.tmps=a.tmps)→r.state=.ready→r.pending=none→r.params=ps→r.assign=assign→r.body=body →
   Tri X.P f (yieldV l::capt) Fr' w (lpH l r::L) fun _ L'=>∃L2,L'=lpH l r::L2∧M L2)
  (hk:∀D L2,M L2→QD D .normal e (dfH D::L2)):VM X (.rangeFunc g ps assign body) e L Q QD:=by
 intro a w ha hw
 refine wpIn_rangeFunc (F:=Fence.wide) fun fn _=>?_
 obtain⟨r,hr⟩:∃r:Loop,r={ state:=.ready,pending:=none,fn,tmps:=a.tmps,params:=ps,assign,body,defers:=w.heap.size }:=⟨_,rfl⟩
 obtain⟨W,hW⟩:∃W,W=(w.alloc (.deferred (some []))).alloc (.loop r):=⟨_,rfl⟩
 have s1:Sat X.Fr (dfH w.heap.size::L) (w.alloc (.deferred (some []))):=hw.sat.alloc hw.lowW _ _ ⟨rfl,heap_alloc_new w _⟩
 have k1:Keep X.Fr w (w.alloc (.deferred (some []))):=Keep.alloc hw.lowW _
 have low1:∀b,X.Fr b→b<(w.alloc (.deferred (some []))).heap.size:=fun b hb=>Nat.lt_of_lt_of_le (hw.lowW b hb) k1.size
 have hsz:(w.alloc (.deferred (some []))).heap.size=w.heap.size+1:=by simp
 have s2:Sat X.Fr (lpH (w.heap.size+1) r::dfH w.heap.size::L) W:=by
  rw[hW,←hsz]
  exact s1.alloc low1 _ _ ⟨rfl,heap_alloc_new _ _⟩
 have k2:Keep X.Fr w W:=by rw[hW];exact k1.trans (Keep.alloc low1 _)
 have hev:a.eval g=.func (.func f) #[] capt.toArray:=ha.ev hg
 refine⟨w.heap.size+1,[markD w.heap.size],W,{ target:=.fn (.func f) capt.toArray,args:=#[yieldV (w.heap.size+1)] },W,f,#[yieldV (w.heap.size+1)]++capt.toArray,W,?_,?_,fun _ _=>trivial,?_,(fun h=>by cases h),?_⟩
 ·rw[hW,hr];exact run_enterLoop_outer _ _ _ _ _
 ·simp only[resolve,hev]
  simp[Deferred.ofValue,yieldV,Act.eval]
 ·simp only[invoke]
  exact run_callFunc hc _ _
 obtain⟨F,hs,hnd,hb⟩:=s2
 obtain⟨i,G,rfl,hi,hG⟩:=hs
 obtain⟨rfl,hl⟩:=hi
 obtain⟨j,K,rfl,hj,hK⟩:=hG
 obtain⟨rfl,hD⟩:=hj
 have hn2:=List.nodup_append.1 hnd
 have hn3:=List.nodup_append.1 hn2.2.1
 have T:=ht (w.heap.size+1) r (fun b=>X.Fr b∨b=w.heap.size) W (fun b h=>.inl h) (hw.keep.trans k2) ⟨a,ha,by rw[hr]⟩ (by rw[hr]) (by rw[hr]) (by rw[hr]) (by rw[hr]) (by rw[hr])
 have hc1:=T.calls (fun b h=>by
  rcases h with h | rfl
  ·exact(Nat.lt_of_lt_of_le (hw.lowW b h) k2.size)
  ·exact(hb _ yf).2) ⟨[w.heap.size+1]++K,⟨[w.heap.size+1],K,rfl,⟨rfl,hl⟩,hK⟩,by
   refine List.nodup_append.2 ⟨by simp,hn3.2.1,fun x hx y hy he=>hn2.2.2 x hx y (by simp[hy]) he⟩,fun b hbm=>⟨fun h=>?_,?_⟩⟩
 rotate_left
 ·rcases h with h | rfl
  ·rcases List.mem_append.1 hbm with h2 | h2
   ·exact(hb b (by simp at h2;simp[h2])).1 h
   ·exact(hb b yj).1 h
  ·rcases List.mem_append.1 hbm with h2 | h2
   ·simp at h2
   ·exact hn3.2.2 _ yf _ h2 rfl
 ·rcases List.mem_append.1 hbm with h2 | h2
  ·exact(hb b (by simp at h2;simp[h2])).2
  ·exact(hb b yj).2
 have e1:(#[yieldV (w.heap.size+1)]++capt.toArray:Array Value)=(yieldV (w.heap.size+1)::capt).toArray:=by simp
 rw[e1]
 refine(callsIn_wide (n:=0-1)).2 (Calls.mono hc1 ?_)
 rintro en w' ⟨v,L',rfl,⟨L2,rfl,hM⟩,h3,h4⟩
 have hl':=h3.lp
 obtain⟨s5,k5⟩:=h3.lp_put { r with state:=.exhausted }
 refine⟨none,w'.putObj (w.heap.size+1) (.loop { r with state:=.exhausted }),?_,?_⟩
 ·have:=run_endLoop (P:=X.P) hl' (by rw[hr];exact fun h=>by cases h)
  rw[this,show r.pending=none by rw[hr]]
 ·have hD':(w'.putObj (w.heap.size+1) (.loop { r with state:=.exhausted })).heap[w.heap.size]?=some (.deferred (some [])):=(k5.block _ (.inr rfl)).trans ((h4.block _ (.inr rfl)).trans hD)
  refine .inr ⟨w.heap.size,e,dfH w.heap.size::L2,⟨?_,?_⟩,⟨?_,(hw.keep.trans k2).trans ((h4.trans k5).mono fun b h=>.inl h),hw.low⟩,hk _ _ hM⟩
  ·have hd0:=ha.defers
   obtain⟨t,d⟩:=a
   dsimp only at hd0
   subst hd0
   exact ha
  ·show [markD w.heap.size]++a.defers=_
   rw[ha.defers];rfl
  ·obtain⟨F5,hs5,hn5,hb5⟩:=s5.tail
   refine⟨[w.heap.size]++F5,⟨_,F5,rfl,⟨rfl,hD'⟩,hs5⟩,List.nodup_append.2 ⟨by simp,hn5,fun x hx y hy he=>?_⟩,fun b hbm=>?_⟩
   ·simp at hx
    exact(hb5 y hy).1 (.inr (by rw[←he,hx]))
   ·rcases List.mem_append.1 hbm with h2 | h2
    ·simp at h2
     rw[h2]
     exact⟨fun h=>Nat.lt_irrefl _ (hw.lowW _ h),(Array.getElem?_eq_some_iff.1 hD').1⟩
    ·exact⟨fun h=>(hb5 b h2).1 (.inl h),(hb5 b h2).2⟩
end
def retD(X:Cx)(fn:Func)(R:Value→List HP→Prop)(D:Nat):Exit→Env→List HP→Prop
 | .normal,e,L=>∃L2,L=dfH D::L2∧Ret X fn R e L2
 | .ret,e,L=>∃L2,L=dfH D::L2∧Ret X fn R e L2
 | _,_,_=>False
theorem Tri.ofM{P:Program}{f:FuncId}{fn:Func}{c:Code}{args:List Value}{Fr:Nat→Prop}{w:World}{L:List HP}{R:Value→List HP→Prop}{tab:Tab}(n:Nat)
  (hf:P.funcs[f]?=some fn) (hb:fn.body=some c) (hnm:(fn.name == "runtime.NumGoroutine")=false) (ok:TabOk P tab) (hnt:fn.ntmps=n) (hn:Nat.ble args.length n=true)
  (h:VM ⟨P,tab,ok,n,Fr,w⟩ c (enumE 0 args) L (retQ ⟨P,tab,ok,n,Fr,w⟩ fn R) (retD ⟨P,tab,ok,n,Fr,w⟩ fn R)):Tri P f args Fr w L R:=by
 subst hnt
 replace hn:=Nat.le_of_ble_eq_true hn
 refine⟨⟨fn,hf,by simp[hb],hnm⟩,fun hlow hs=>?_⟩
 refine(callsIn_wide (n:=0)).1 (callsIn_of_wp_marks (F:=Fence.wide) hf hb trivial (wpIn_mono (F:=wR none) (h _ w (agr_enter hn) ⟨hs,Keep.refl _ _,hlow⟩) fun x a' w' hh=>?_))
 rcases hh with ⟨e',L',h1,h2,h3⟩ | ⟨D,e',L',h1,h2,h3⟩
 ·have key:Ret ⟨P,tab,ok,fn.ntmps,Fr,w⟩ fn R e' L'→LeavesInM Fence.wide 0 P fn a'.tmps (fun e w'=>∃v L',e=.returned v∧R v L'∧Sat Fr L' w'∧Keep Fr w w') a'.defers .returning w':=by
   rintro⟨v,L1,hr,he,hR⟩
   rw[h1.defers]
   exact⟨v,hr.run a' w' h1 h2,v,L1,rfl,hR,(he w' h2).sat,h2.keep⟩
  cases x with
  | normal=>exact key h3
  | ret=>exact key h3
  | exit id=>exact h3.elim
  | goto l=>exact h3.elim
  | panic ch=>exact h3.elim
  | outgrown=>exact h3.elim
 ·have key:(∃L2,L'=dfH D::L2∧Ret ⟨P,tab,ok,fn.ntmps,Fr,w⟩ fn R e' L2)→LeavesInM Fence.wide 0 P fn a'.tmps (fun e w'=>∃v L',e=.returned v∧R v L'∧Sat Fr L' w'∧Keep Fr w w') a'.defers .returning w':=by
   rintro⟨L2,rfl,v,L1,hr,he,hR⟩
   rw[h1.mark]
   obtain⟨s2,k2⟩:=Sat.putObj (H:=dfH D) (b:=D) (o:=.deferred none) (H':=⟨fun ids w=>ids=[D],fun _ _ _ _ h=>h⟩) (fun _ h=>h.1) (fun _=>rfl) h2.sat
   have hD:w'.heap[D]?=some (.deferred (some [])):=by
    obtain⟨F,⟨i,G,rfl,hi,hG⟩,hn,hb⟩:=h2.sat
    exact hi.2
   have st:St ⟨P,tab,ok,fn.ntmps,Fr,w⟩ L2 (w'.putObj D (.deferred none)):=⟨s2.tail,h2.keep.trans k2,h2.low⟩
   exact⟨(fun h=>by cases h),.inl ⟨D,_,rfl,run_takeDeferred hD,v,hr.run { a' with defers:=[] } _ h1.agr st,v,L1,rfl,hR,(he _ st).sat,st.keep⟩⟩
  cases x with
  | normal=>exact key h3
  | ret=>exact key h3
  | exit id=>exact h3.elim
  | goto l=>exact h3.elim
  | panic ch=>exact h3.elim
  | outgrown=>exact h3.elim
end Vg
namespace Vg
open Go
theorem oper_defers{F:Fence}{n:Nat}{P:Program}{Q:Exit→Act→World→Prop}{K:Act→World→Prop}(ds:List Deferred){o:Oper}{a:Act}{w:World}(h:o.wpIn F n P a w K Q):
  o.wpIn F n P { a with defers:=a.defers++ds } w (fun a' w'=>∃a0,K a0 w'∧a'={ a0 with defers:=a0.defers++ds }) (fun x a' w'=>∃a0,Q x a0 w'∧a'={ a0 with defers:=a0.defers++ds }):=by
 have hput:∀(a:Act) v,({ a with defers:=a.defers++ds }:Act).put o.dst v={ a.put o.dst v with defers:=(a.put o.dst v).defers++ds }:=fun a v=>by
  cases hd:o.dst<;>rfl
 unfold Oper.wpIn at h ⊢
 refine⟨h.1,?_⟩
 have h:=h.2
 have he:({ a with defers:=a.defers++ds }:Act).eval=a.eval:=rfl
 rw[he]
 generalize (o.semAt F.round a.eval).run P w=r at h ⊢
 cases r with
 | ok x w'=>
  cases x<;>simp only[Oper.uponIn] at h ⊢
  case value u=>exact⟨_,h,hput _ _⟩
  case skip=>exact⟨_,h,hput _ _⟩
  case defer d=>
   refine⟨_,h,?_⟩
   exact hput { a with defers:=d::a.defers } _
  case enter f args=>
   refine⟨h.1,CallsIn.mono h.2 fun e w'' he=>?_⟩
   cases e with
   | returned u=>exact⟨_,he,hput _ _⟩
   | panicked c=>exact⟨a,he,rfl⟩
   | outgrown=>obtain⟨a0,w0,hq⟩:=he;exact⟨_,w0,a0,hq,rfl⟩
  case row row args=>exact⟨h.1,RowsIn.mono h.2 fun u w'' he=>⟨_,he,hput _ _⟩⟩
  case round l f tmps assign body=>
   refine⟨h.1,RoundIn.mono h.2 fun e w'' he=>?_⟩
   cases e with
   | returned u=>exact⟨_,he,hput _ _⟩
   | panicked c=>exact⟨a,he,rfl⟩
   | outgrown=>obtain⟨a0,w0,hq⟩:=he;exact⟨_,w0,a0,hq,rfl⟩
 | halt x w'=>
  cases x<;>simp only[Oper.uponIn] at h ⊢
  case panic u=>exact⟨a,h,rfl⟩
theorem wpAnyIn_defers{F:Fence}{n:Nat}{P:Program}{ops:Array Oper}{Q:Exit→Act→World→Prop}(ds:List Deferred):∀(fuel:Nat) (listed:Array Bool) (a:Act) (w:World),wpAnyIn F n P .any ops Q fuel listed a w →
  wpAnyIn F n P .any ops (fun x a' w'=>∃a0,Q x a0 w'∧a'={ a0 with defers:=a0.defers++ds }) fuel listed { a with defers:=a.defers++ds } w
 | 0,listed,a,w,h=>⟨h.1,a,h.2,rfl⟩
 | fuel+1,listed,a,w,h=>⟨fun hr=>⟨a,h.1 hr,rfl⟩,fun i hi=>by
  have h2:=h.2 i hi
  unfold wpOpIn at h2 ⊢
  cases hx:ops[i]? with
  | none=>rw[hx] at h2;exact wpAnyIn_defers ds fuel _ a w h2
  | some o=>
   rw[hx] at h2
   dsimp only at h2 ⊢
   have hput:∀(a:Act) v,({ a with defers:=a.defers++ds }:Act).put o.dst v={ a.put o.dst v with defers:=(a.put o.dst v).defers++ds }:=fun a v=>by
    cases hd:o.dst<;>rfl
   split
   ·rename_i hw
    rw[if_pos hw] at h2
    exact Oper.wpIn_mono (fun a' w' ⟨a0,h3,h4⟩=>by subst h4;exact wpAnyIn_defers ds fuel _ a0 w' h3) (oper_defers ds h2)
   ·rename_i hw
    rw[if_neg hw] at h2
    refine⟨h2.1,?_⟩
    rw[hput]
    exact wpAnyIn_defers ds fuel _ _ w h2.2⟩
theorem VD.draw{X:Cx}{D:Nat}{id:Nat}{l:List Oper}{e:Env}{L:List HP}{Q:Exit→Env→List HP→Prop}(pl:Plan)(hmix:X.P.follows .mixedOrders=true)
  (hp:(Region.noSelect l.toArray&&Nat.beq pl.len l.length&&planB l.toArray (Array.replicate l.length false) pl)=true)
  (h:VA X l.toArray [] pl [] e L (Q .normal)):VD X D (.region id l.toArray true) e L Q:=by
 intro a w ha hw
 simp only[Bool.and_eq_true] at hp
 have hlen:pl.len=l.length:=Nat.eq_of_beq_eq_true hp.1.2
 have h0:=h (fun x a' w'=>match x with | .normal=>∃e' L',Agr X.n a' e'∧St X L' w'∧Q .normal e' L' | _=>False) (fun _ _ _ h=>h) (fun e' L' _ _ h1 h2 h3=>⟨e',L',h1,h2,h3⟩) hp.1.1 none
  (Array.replicate l.length false) { a with defers:=[] } { w with drawn:=w.drawn+1 } hp.2 ha.agr (GOk.nil _) hw.drew (fun _ h=>by cases h)
 rw[hlen] at h0
 have h2:=wpAnyIn_defers [markD D] _ _ _ _ (wpAny_of_P _ _ _ _ _ h0)
 have e1:({ ({ a with defers:=[] }:Act) with defers:=({ a with defers:=[] }:Act).defers ++ [markD D] }:Act)=a:=by
  have:=ha.mark
  obtain⟨t,d⟩:=a
  dsimp only at this
  subst this;rfl
 rw[e1] at h2
 refine Code.wpIn_mono (fun x a' w' hx=>?_) (wpIn_region_any hmix (by simpa using h2))
 obtain⟨a0,h3,rfl⟩:=hx
 cases x with
 | normal=>
  obtain⟨e',h4,L',h5,h6⟩:∃e',Agr X.n a0 e'∧∃L',St X L' w'∧Q .normal e' L':=h3
  have hd0:=h4.defers
  refine⟨e',L',⟨?_,?_⟩,h5,h6⟩
  ·obtain⟨t,d⟩:=a0
   dsimp only at hd0
   subst hd0
   exact h4
  ·show a0.defers ++ [markD D]=_
   rw[hd0];rfl
 | exit id=>exact h3.elim
 | goto l=>exact h3.elim
 | ret=>exact h3.elim
 | panic ch=>exact h3.elim
 | outgrown=>exact h3.elim
theorem par2{n:Nat}{a:Act}{e:Env}(h:Agr n a e){t u:Nat}(ht:Nat.blt t n=true)(hu:Nat.blt u n=true)(v x:Value):Agr n { tmps:=((#[t,u]:Array Tmp).zip #[v,x]).foldl (fun tmps (t,a)=>tmps.setIfInBounds t a) a.tmps,defers:=[] } ((u,x)::(t,v)::e):=by
 have:=(h.put ht v).put hu x
 have hd:=h.defers
 obtain⟨y,d⟩:=a
 dsimp only at hd
 subst hd
 have e1:((#[t,u]:Array Tmp).zip #[v,x]).foldl (fun tmps (t,a)=>tmps.setIfInBounds t a) y=(y.setIfInBounds t v).setIfInBounds u x:=by simp
 dsimp only
 rw[e1]
 exact this
end Vg
namespace Cl
open Go Vg T Api Ch Rep Conf Lg Rd
attribute [local irreducible] VO VC VA
abbrev runT:TypeId:=66
def tV(n:Int):Value:=.int .i64 n
def runC(q:Nat)(d:Int)(f:Nat→Bool)(g:Nat→Int)(tk wt:Int)(a:Option Addr)(n c mb:Nat):List Value:=
 [.pointer (some ⟨q,0,none⟩),.int .i64 d,.bool (f 0),.bool (f 1),.bool (f 2),.bool (f 3),.bool (f 4),.bool (f 5),.int .i64 (g 0),.int .i64 (g 1),.int .i64 (g 2),.int .i64 (g 3),.int .i64 (g 4),.int .i64 (g 5),.int .i64 tk,.int .i64 wt,.slice a n c,.map (some mb)]
section
variable {q:Nat} {d:Int} {f:Nat→Bool} {g:Nat→Int} {tk wt:Int} {a:Option Addr} {n c mb:Nat}
theorem run_up{i:Nat}(h:i<6):(runC q d f g tk wt a n c mb)[2+i]?=some (.bool (f i)):=by
 have:i=0∨i=1∨i=2∨i=3∨i=4∨i=5:=by omega
 rcases this with rfl | rfl | rfl | rfl | rfl | rfl<;>rfl
theorem run_upS{i:Nat}(h:i<6)(b:Bool):(runC q d f g tk wt a n c mb).set (2+i) (.bool b)=runC q d (fun k=>if k=i then b else f k) g tk wt a n c mb:=by
 have:i=0∨i=1∨i=2∨i=3∨i=4∨i=5:=by omega
 rcases this with rfl | rfl | rfl | rfl | rfl | rfl<;>rfl
theorem run_stS{i:Nat}(h:i<6)(b:Int):(runC q d f g tk wt a n c mb).set (8+i) (.int .i64 b)=runC q d f (fun k=>if k=i then b else g k) tk wt a n c mb:=by
 have:i=0∨i=1∨i=2∨i=3∨i=4∨i=5:=by omega
 rcases this with rfl | rfl | rfl | rfl | rfl | rfl<;>rfl
theorem run_eq{f':Nat→Bool}{g':Nat→Int}(hf:∀i<6,f i=f' i)(hg:∀i<6,g i=g' i):runC q d f g tk wt a n c mb=runC q d f' g' tk wt a n c mb:=by
 unfold runC
 rw[hf 0 yo,hf 1 yo,hf 2 yo,hf 3 yo,hf 4 yo,hf 5 yo,hg 0 yo,hg 1 yo,hg 2 yo,hg 3 yo,hg 4 yo,hg 5 yo]
end
structure RunS where
 q:Nat
 mb:Nat
 ps:List PrM
 a:Option Addr
 c:Nat
 X:List (PrM×Int)
def upF(R:PacM)(k:Nat):Bool:=(R.up[k]?).getD false
def stF(R:PacM)(k:Nat):Int:=(R.steps[k]?).getD 0
def pacL(p:Nat)(R:PacM)(z:RunS):List HP:=[pt p (runC z.q R.done (upF R) (stF R) R.tick R.watch z.a z.ps.length z.c z.mb) runT,cluH z.q R.clu,slH prT2 2 z.a z.ps.length z.c (flat prC z.ps),mapH iiV tV z.mb z.X]
structure RunFit(R:PacM)(z:RunS):Prop where
 ps:z.ps.Perm (R.mail.map Prod.fst)
 X:z.X.Perm R.mail
def pacH(p:Nat)(R:PacM):HP:=hex fun z:RunS=>hsep (hpure (RunFit R z)::pacL p R z)
theorem HOpn.pac(p:Nat)(R:PacM):HOpn (ι:=RunS) (pacH p R) (fun z=>RunFit R z) (fun z=>pacL p R z):=fun w ids ⟨x,h⟩ hn=>by
 obtain⟨i1,i2,rfl,⟨rfl,h1⟩,h2⟩:=h
 exact⟨x,h1,i2,h2,hn,fun _ h=>h⟩
theorem Imp.pac{p:Nat}{R:PacM}{L K:List HP}(z:RunS)(hz:RunFit R z)(h:Imp L (pacL p R z++K)):Imp L (pacH p R::K):=Imp.ex (f:=fun z:RunS=>hsep (hpure (RunFit R z)::pacL p R z)) z (Imp.sep (Imp.pure hz h))
theorem pac_in{Fr:Nat→Prop}{w:World}{p:Nat}{R:PacM}(h:SatIn Fr [pacH p R] w):∃z,RunFit R z∧SatIn Fr (pacL p R z) w:=by
 obtain⟨z,hz⟩:=h.ex
 have h1:=hz.sep
 obtain⟨F,⟨i,G,rfl,⟨rfl,hp⟩,hG⟩,hF⟩:=h1
 exact⟨z,hp,G,hG,hF⟩
theorem arI:KeyOk Tryz.prog prT2 iiV:=KeyOk.arr2 Tryz.underlying99 Tryz.underlying3 (tabOk.look (t:=3) rfl) rfl rfl
theorem guardAr:Tryz.prog.eqGuardType Tryz.prog.depth prT2=false:=by kernel_rfl
theorem ar_eq(a b:PrM)(w:World):(Op.equal prT2 (.agg (prC a).toArray) (.agg (prC b).toArray)).run Tryz.prog w=.ok (decide (a=b)) w:=(EqT.arr2 Tryz.underlying99 Tryz.underlying3 (tabOk.look (t:=3) rfl) rfl rfl a b).run yo w
theorem mGet_perm{κ α:Type}[DecidableEq κ]{l m:List (κ×α)}(h:l.Perm m)(hn:(m.map Prod.fst).Nodup)(k:κ):mGet l k=mGet m k:=by
 cases hm:mGet m k with
 | some v=>exact mGet_of_mem (((h.map Prod.fst).nodup_iff).2 hn) (h.mem_iff.2 (mGet_mem hm))
 | none=>
  rw[mGet_none_iff] at hm ⊢
  exact fun x hx=>hm x (h.mem_iff.1 hx)
def sinF(R:PacM)(took:Bool)(gone p:PrM):Int:=match mGet R.mail p with
 | none=>(R.done:Int)
 | some t=>if took=true∧p=gone then (R.done:Int) else t
theorem look_mail(R:PacM)(took:Bool)(gone:PrM):(R.look took gone).mail=(R.clu.lnk.mail.map Prod.fst).map fun p=>(p,sinF R took gone p):=by
 rw[List.map_map];rfl
theorem HOpn.rls{α:Type}{c:α→List Value}{n:Nat}(el:Nat)(a:Option Addr)(cap:Nat)(xs:List α)(hc:∀x,(c x).length=n):HOpn (ι:=RL α) (slH el n a xs.length cap (flat c xs)) (fun r=>(r.Ok c n∧r.v=.slice a xs.length cap∧r.xs=xs)∧Imp [r.h el] [slH el n a xs.length cap (flat c xs)]) (fun r=>[r.h el]):=by
 intro w ids h hn
 obtain⟨x,hx,ids',h1,h2,h3⟩:=HOpn.sl el n a xs.length cap (flat c xs) w ids h hn
 cases x with
 | none=>
  obtain⟨h5,h6,h7,h8,h9,h10⟩:=hx
  subst h7;subst h9
  obtain rfl:xs=[]:=List.eq_nil_of_length_eq_zero h8
  cases h1
  exact⟨RL.none,⟨⟨RL.none_ok,rfl,rfl⟩,Imp.slNil Imp.nil⟩,[],⟨[],[],rfl,⟨rfl,trivial⟩,rfl⟩,.nil,fun _ h=>by cases h⟩
 | some x=>
  obtain⟨b,rest⟩:=x
  obtain⟨h5,h6,h7,h8⟩:=hx
  subst h7
  exact⟨RL.new c b cap xs rest,⟨⟨RL.new_ok hc h6,rfl,rfl⟩,Imp.sl h5 h6 h8 Imp.refl⟩,ids',h1,h2,h3⟩
def upA(R:PacM)(i k:Nat):Bool:=if k<i then upB R.clu k else upF R k
def stA(R:PacM)(i k:Nat):Int:=if k<i then (if upB R.clu k && !(upF R k) then (R.done:Int) else stF R k) else stF R k
theorem step_if{α:Type}{i:Nat}{x:α}{F G:Nat→α}(hx:x=F i)(k:Nat):(if k=i then x else if k<i then F k else G k)=if k<i+1 then F k else G k:=by
 by_cases h:k=i
 ·subst h;rw[if_pos rfl,if_pos yd,hx]
 ·by_cases h':k<i
  ·rw[if_neg h,if_pos h',if_pos yd]
  ·rw[if_neg h,if_neg h',if_neg yd]
theorem step_no{α:Type}{i:Nat}{F G:Nat→α}(h:F i=G i)(k:Nat):(if k<i then F k else G k)=if k<i+1 then F k else G k:=by
 by_cases h':k<i
 ·rw[if_pos h',if_pos yd]
 ·rw[if_neg h']
  by_cases e:k=i
  ·subst e;rw[if_pos yd,h]
  ·rw[if_neg yd]
section
variable {R:PacM} {i q:Nat} {d:Int} {f:Nat→Bool} {g:Nat→Int} {tk wt:Int} {a:Option Addr} {n c mb:Nat}
theorem up_set(h:i<6){b:Bool}(hb:b=upB R.clu i):(runC q d (upA R i) g tk wt a n c mb).set (0+2+i*1) (.bool b)=runC q d (upA R (i+1)) g tk wt a n c mb:=by
 rw[show 0+2+i*1=2+i by omega,run_upS h]
 exact run_eq (fun k _=>step_if (F:=upB R.clu) (G:=upF R) hb k) fun _ _=>rfl
theorem st_same(h:(upB R.clu i && !(upF R i))=false):runC q d f (stA R i) tk wt a n c mb=runC q d f (stA R (i+1)) tk wt a n c mb:=
 run_eq (fun _ _=>rfl) fun k _=>step_no (F:=fun k=>if upB R.clu k && !(upF R k) then (R.done:Int) else stF R k) (G:=stF R) (by rw[h];rfl) k
theorem st_set(h:i<6)(h1:(upB R.clu i && !(upF R i))=true):(runC q d f (stA R i) tk wt a n c mb).set (0+8+i*1) (.int .i64 (R.done:Int))=runC q d f (stA R (i+1)) tk wt a n c mb:=by
 rw[show 0+8+i*1=8+i by omega,run_stS h]
 exact run_eq (fun _ _=>rfl) fun k _=>step_if (F:=fun k=>if upB R.clu k && !(upF R k) then (R.done:Int) else stF R k) (G:=stF R) yay k
theorem up_at(h:i<6):(runC q d (upA R i) g tk wt a n c mb)[0+2+i*1]?=some (.bool (upF R i)):=by
 rw[show 0+2+i*1=2+i by omega,run_up h]
 unfold upA
 rw[if_neg yd]
end
theorem look_spec{p:Nat}{R:PacM}{b e:Nat}(ok:R.clu.Ok b e)(hnd:(R.mail.map Prod.fst).Nodup)(took:Bool)(gone:PrM):Tri Tryz.prog 45 [.pointer (some ⟨p,0,none⟩),.bool took,.agg (prC gone).toArray] Fr w [pacH p R]
  (fun v L=>v=.tuple #[]∧L=[pacH p (R.look took gone)]):=by
 have hcl:=few_mail ok.lnk ok.adr
 refine TF 99 Tryz.func45 rfl ym tabOk rfl rfl ?_
 refine CS (CG (VG (VB (vs:=prC gone) rfl fun gb=>?_)))
 refine VG (VO.opn 1 rfl (HOpn.pac p R) ?_)
 rintro⟨q,mb,ps,a,c,X⟩ fit
 obtain⟨hps,hX⟩:=fit
 dsimp only at hps hX
 refine xjp ?_
 refine VC.loop (σ:=Nat) (fun i=>[(0,pV p),(1,.bool took),(5,pV gb),(13,.int .i64 (i:Int))])
  (fun i=>[pt p (runC q R.done (upA R i) (stA R i) R.tick R.watch a ps.length c mb) runT,cluH q R.clu,mapH iiV tV mb X,pt gb (prC gone) prT2]) (fun i=>i≤6) (fun i=>6-i) 0
  (Nat.zero_le _) sbZ (pkZ [0,0,1,1]).ent ?_
 rintro i hi
 refine xjp ?_
 refine CP (p:=(i:Int)<6) rfl (fun h2=>CK ?_) (fun h2=>CX ?_)
 ·have hi6:i<6:=by omega
  refine xdf ?_
  refine VG (VO.callP (fun Fr w hF hw hS=>look_node Fr w (hS.at_ 1 rfl) (i:Int)) rfl ?_)
  intro v hv
  have hb:(R.clu.node (i:Int)).isSome=upB R.clu i:=rfl
  rw[hb] at hv
  have hve:∃o:Option Nat,v=.pointer (o.map fun q=>⟨q,0,none⟩)∧o.isSome=upB R.clu i:=by
   by_cases h:upB R.clu i=true
   ·rw[if_pos h] at hv
    obtain⟨q,rfl⟩:=hv
    exact⟨some q,rfl,h.symm⟩
   ·rw[if_neg h] at hv
    exact⟨none,hv,by simpa using h⟩
  obtain⟨o,rfl,ho⟩:=hve
  cases o with
  | none=>
   have ho:upB R.clu i=false:=ho.symm
   refine xjp ?_
   refine VG (VY 24 false rfl rfl ?_)
   refine zqk ?_
   refine xny ?_
   refine xnz ?_
   refine zom ?_
   refine⟨i+1,by omega,by dsimp only;omega,SC rfl (SC rfl (SC rfl (Sub.int rfl yd (SN _)))),?_⟩
   dsimp only
   rw[←st_same (by rw[ho];rfl)]
   exact ER
  | some o=>
   have ho:upB R.clu i=true:=ho.symm
   refine xjp ?_
   refine VG (VY 24 true rfl rfl ?_)
   refine xjq ?_
   refine xny ?_
   refine VG (VO.ld 0 rfl rfl rfl (up_at hi6) ?_)
   refine xjq ?_
   refine CC rfl (fun hu=>?_) (fun hu=>CK ?_)
   ·have hu1:(upB R.clu i && !(upF R i))=true:=by rw[ho];exact hu
    refine CD (ts 0 9 (.only 9 .nil)) ym yr ?_
    refine xeu ?_
    refine AG (AI rfl (light_idxA i rfl rfl rfl rfl rfl rfl hi6) ?_)
    refine AG (VA.st 0 rfl rfl rfl rfl rfl (by show 0+8+i*1<18;omega) (st_set hi6 hu1) rfl yv ?_)
    refine xld ?_
    refine xjp ?_
    refine xny ?_
    refine xnz ?_
    refine zom ?_
    exact⟨i+1,by omega,by dsimp only;omega,SC rfl (SC rfl (SC rfl (Sub.int rfl yd (SN _)))),ER⟩
   ·have hu1:(upB R.clu i && !(upF R i))=false:=by rw[ho];exact hu
    refine xjp ?_
    refine xny ?_
    refine xnz ?_
    refine zom ?_
    refine⟨i+1,by omega,by dsimp only;omega,SC rfl (SC rfl (SC rfl (Sub.int rfl yd (SN _)))),?_⟩
    dsimp only
    rw[←st_same hu1]
    exact ER
 obtain rfl:i=6:=by omega
 refine xjp ?_
 refine VG (VO.opx (OpT.makeMap iiV tV) ?_)
 rintro _ _ ⟨nb,rfl,rfl⟩
 refine xds ?_
 refine VG (VK (Lc:=[]) (fun Fr w hF hw hS=>look_links Fr w ok.lnk (hS.at_ 2 rfl)) rfl rfl ?_)
 rintro _ _ ⟨lq,ml,hml,rfl,rfl⟩
 refine VG (VK (Lc:=[]) (fun Fr w hF hw hS=>look_pairs Fr w (S:=⟨R.clu.lnk.cap,ml⟩) (by have:=hml.length_eq;dsimp only;omega) (hS.at_ 0 rfl)) rfl rfl ?_)
 rintro _ _ ⟨prs,pa,pc,hprs,rfl,rfl⟩
 have hpm:prs.Perm (R.clu.lnk.mail.map Prod.fst):=hprs.trans (hml.map _)
 refine xjp ?_
 refine VG (VO.st 3 (cs':=runC q R.done (upA R 6) (stA R 6) R.tick R.watch pa prs.length pc mb) rfl rfl rfl rfl (by show 0+16<18;decide) rfl rfl ?_)
 refine VO.ent (L':=[slH prT2 2 pa prs.length pc (flat prC prs),mapH iiV tV nb [],pt p (runC q R.done (upA R 6) (stA R 6) R.tick R.watch pa prs.length pc mb) runT,cluH q R.clu,mapH iiV tV mb X,pt gb (prC gone) prT2]) (Imp.cons Imp.tail).ent ?_
 refine VO.opn 0 rfl (HOpn.rls prT2 pa pc prs prC_len) ?_
 rintro⟨xa,xc,xb,xcs,xs⟩ ⟨⟨rok,rv,rx⟩,hsh⟩
 dsimp only at rx
 subst rx
 injection rv with e1 _ e3
 subst e1 e3
 have hxn:xs.Nodup:=(hpm.nodup_iff).2 ok.lnk.nd
 have hxl:xs.length≤1444:=by have:=hpm.length_eq;rw[List.length_map] at this;omega
 have hmg:∀pr,mGet X pr=mGet R.mail pr:=fun pr=>mGet_perm hX hnd pr
 refine xdt ?_
 refine VC.loop (σ:=Nat) (fun i=>[(0,pV p),(1,.bool took),(5,pV gb),(8,.map (some nb)),(62,.slice xa xs.length xc),(63,.int .i64 xs.length),(64,.int .i64 (i:Int))])
  (fun i=>[RL.h prT2 ⟨xa,xc,xb,xcs,xs⟩,mapH iiV tV nb ((xs.take i).map fun pr=>(pr,sinF R took gone pr)),pt p (runC q R.done (upA R 6) (stA R 6) R.tick R.watch xa xs.length xc mb) runT,cluH q R.clu,mapH iiV tV mb X,pt gb (prC gone) prT2]) (fun i=>i≤xs.length) (fun i=>xs.length-i) 0
  (Nat.zero_le _) sbZ ER ?_
 rintro i hi
 refine xjp ?_
 refine CP (p:=(i:Int)<xs.length) rfl (fun h2=>CK ?_) (fun h2=>CX ?_)
 rotate_left
 ·obtain rfl:i=xs.length:=by omega
  refine xjp ?_
  refine VG (VO.st 2 (cs':=runC q R.done (upA R 6) (stA R 6) R.tick R.watch xa xs.length xc nb) rfl rfl rfl rfl (by show 0+17<18;decide) rfl rfl ?_)
  refine xjp ?_
  rw[List.take_length]
  refine Ret.void rfl (Imp.pac (R:=R.look took gone) ⟨q,nb,xs,xa,xc,xs.map fun pr=>(pr,sinF R took gone pr)⟩ ⟨?_,?_⟩ ?_).ent ⟨rfl,rfl⟩
  ·rw[look_keys];exact hpm
  ·rw[look_mail];exact hpm.map _
  ·show Imp _ [pt p (runC q R.done (upF (R.look took gone)) (stF (R.look took gone)) R.tick R.watch xa xs.length xc nb) runT,cluH q R.clu,slH prT2 2 xa xs.length xc (flat prC xs),mapH iiV tV nb _]
   rw[show runC q R.done (upF (R.look took gone)) (stF (R.look took gone)) R.tick R.watch xa xs.length xc nb=runC q R.done (upA R 6) (stA R 6) R.tick R.watch xa xs.length xc nb from rfl]
   exact Imp.trans (Imp.app (L:=[RL.h prT2 ⟨xa,xc,xb,xcs,xs⟩]) hsh Imp.refl) (pkZ [2,2,0,0])
 have hil:i<xs.length:=by omega
 have hxk:xs[i]?=some xs[i]:=GE hil
 have htk:xs.take (i+1)=xs.take i ++ [xs[i]]:=by rw[List.take_add_one,hxk];rfl
 have hnew:xs[i]∉((xs.take i).map fun pr=>(pr,sinF R took gone pr)).map Prod.fst:=fun hz=>by
  rw[List.map_map] at hz
  obtain⟨y,hy,e⟩:=List.mem_map.1 hz
  have e:y=xs[i]:=e
  have:(xs.take (i+1)).Nodup:=hxn.sublist (List.take_sublist _ _)
  rw[htk,List.nodup_append] at this
  exact this.2.2 _ hy _ (List.mem_singleton.2 rfl) e
 generalize xs[i]=pr at hxk htk hnew
 obtain⟨tb,tof,htb,hta,hrd⟩:=RL.Ok.ld (t:=prT2) (k:=i) (x:=pr) rok hxk (prC_len pr)
 dsimp only at hta
 subst hta
 refine xjp ?_
 refine VG (VI (light_idx i rfl rfl rfl rfl rfl rfl hil) ?_)
 refine xiz ?_
 refine VG (VO.alloc rfl fun kb=>?_)
 refine xoa ?_
 refine xjp ?_
 refine CD (ts 0 11 .nil) ym yr ?_
 (repeat(first|refine yG (yN ?_)|refine yG (yD 0 rfl rfl rfl rfl rfl ?_)|refine yG (yD 1 rfl rfl rfl rfl rfl ?_)|refine yG (yD 2 rfl rfl rfl rfl rfl ?_)|refine yG (yD 3 rfl rfl rfl rfl rfl ?_)|refine yG (yU rfl rfl rfl rfl ?_)))
 refine AG (VA.ldA 0 (prC pr) rfl rfl rfl rfl rfl ?_)
 refine AG (VA.lookup (a:=pr) arI Tryz.underlying64 rfl rfl rfl rfl (MpL.one 5 rfl) ?_)
 rw[hmg pr]
 have hsin:sinF R took gone pr=match mGet R.mail pr with
  | none=>(R.done:Int)
  | some t=>if took=true∧pr=gone then (R.done:Int) else t:=rfl
 have fin:∀u:Int,u=sinF R took gone pr→mPut ((xs.take i).map fun pr=>(pr,sinF R took gone pr)) pr u=(xs.take (i+1)).map fun pr=>(pr,sinF R took gone pr):=fun u hu=>by
  rw[mPut_new u hnew,htk,List.map_append,hu];rfl
 refine xld ?_
 refine VC.meet (σ:=Unit) (fun _=>[(0,pV p),(1,.bool took),(5,pV gb),(8,.map (some nb)),(10,pV kb),(11,.int .i64 (sinF R took gone pr)),(62,.slice (some ⟨tb,tof,none⟩) xs.length xc),(63,.int .i64 xs.length),(64,.int .i64 (i:Int))])
  (fun _=>[pt kb (prC pr) prT2,RL.h prT2 ⟨some ⟨tb,tof,none⟩,xc,xb,xcs,xs⟩,mapH iiV tV nb ((xs.take i).map fun pr=>(pr,sinF R took gone pr)),pt p (runC q R.done (upA R 6) (stA R 6) R.tick R.watch (some ⟨tb,tof,none⟩) xs.length xc mb) runT,cluH q R.clu,mapH iiV tV mb X,pt gb (prC gone) prT2]) (fun _=>True) ?_ ?_
 rotate_left
 ·rintro⟨⟩ -
  refine xjp ?_
  refine VG (VL 0 (prC pr) rfl rfl rfl rfl ?_)
  refine xjp ?_
  refine VG (VO.op1 (OpT.mapUpdate 2 (c:=iiV) (d:=tV) (a:=pr) (u:=sinF R took gone pr) arI Tryz.underlying64 rfl rfl rfl rfl) ?_)
  rw[fin _ rfl]
  refine zom ?_
  exact⟨i+1,by omega,by dsimp only;omega,SC rfl (SC rfl (SC rfl (SC rfl (SC rfl (SC rfl (Sub.int rfl yd (SN _))))))),Imp.tail.ent⟩
 cases hg:mGet R.mail pr with
 | none=>
  rw[hg] at hsin
  refine xjp ?_
  refine VG (VY 79 true rfl rfl ?_)
  refine zol ?_
  refine xmf ?_
  exact⟨(),trivial,SC rfl (SC rfl (SC rfl (SC rfl (SC rfl (Sub.int rfl hsin.symm sbZ))))),ER⟩
 | some t=>
  rw[hg] at hsin
  refine xjp ?_
  refine VG (VY 79 false rfl rfl ?_)
  refine xjq ?_
  cases took with
  | false=>
   refine VG (VY 81 false rfl rfl ?_)
   refine zop ?_
   exact⟨(),trivial,SC rfl (SC rfl (SC rfl (SC rfl (SC rfl (Sub.int rfl (by rw[hsin];exact(if_neg fun g=>by cases g.1).symm) sbZ))))),ER⟩
  | true=>
   refine VG (VY 81 true rfl rfl ?_)
   refine xjq ?_
   refine VG (VL 0 (prC pr) rfl rfl rfl rfl ?_)
   refine VG (VL 6 (prC gone) rfl rfl rfl rfl ?_)
   refine VG (VI (light_eqS guardAr rfl rfl (ar_eq pr gone)) ?_)
   refine xjq ?_
   refine CP (p:=pr=gone) rfl (fun hpg=>?_) (fun hpg=>CK ?_)
   ·refine xmf ?_
    exact⟨(),trivial,SC rfl (SC rfl (SC rfl (SC rfl (SC rfl (Sub.int rfl (by rw[hsin];exact(if_pos ⟨rfl,hpg⟩).symm) sbZ))))),ER⟩
   ·exact⟨(),trivial,SC rfl (SC rfl (SC rfl (SC rfl (SC rfl (Sub.int rfl (by rw[hsin];exact(if_neg fun g=>hpg g.2).symm) sbZ))))),ER⟩
end Cl
namespace Cl
open Go Vg T Api Ch Rep Conf Lg Rd Sched
attribute [local irreducible] VO VC VA
theorem did_shut{p:Nat}{R:PacM}{z:RunS}(fit:RunFit R z)(s:StpM){g:Nat→Int}{tk wt:Int}{T:List HP}(hg:∀k<6,g k=stF (R.did s) k)(ht:tk=(R.did s).tick)(hw:wt=(R.did s).watch):
  Imp (pt p (runC z.q ((R.done+1:Nat):Int) (upF R) g tk wt z.a z.ps.length z.c z.mb) runT::cluH z.q (R.clu.do_ s).1::slH prT2 2 z.a z.ps.length z.c (flat prC z.ps)::mapH iiV tV z.mb z.X::T) (pacH p (R.did s)::T):=by
 refine Imp.pac z ⟨fit.ps,fit.X⟩ ?_
 subst ht hw
 rw[run_eq (fun _ _=>rfl) hg]
 exact Imp.refl
theorem pdo_spec{p:Nat}{R:PacM}{b e:Nat}(ok:R.clu.Ok b e)(hb:b<100000)(he:e<900000)(hnd:(R.mail.map Prod.fst).Nodup)(hsl:R.steps.length=6)(hdn:R.done≤1000000)(s:StpM):
  Tri Tryz.prog 22 [.pointer (some ⟨p,0,none⟩),.agg s.cells.toArray] Fr w [pacH p R] (fun v L=>v=.tuple #[]∧L=[pacH p (R.do_ s)]):=by
 have hst:¬(s.kind=2∧0≤s.a∧s.a<6)→∀k<6,stF R k=stF (R.did s) k:=fun h k _=>by
  show _=((if _ then _ else R.steps)[k]?).getD 0
  rw[if_neg h];rfl
 have htk:s.kind≠3→R.tick=(R.did s).tick:=fun h=>(if_neg h).symm
 have hwt:s.kind≠11→R.watch=(R.did s).watch:=fun h=>(if_neg h).symm
 have htb:s.kind≠4→s.kind≠5→false=tookB s:=fun h1 h2=>by
  unfold tookB;rw[DF h1,DF h2];rfl
 refine TF 72 Tryz.func22 rfl ym tabOk rfl rfl ?_
 refine CS (CG (VG (VB (vs:=s.cells) rfl fun sb=>?_)))
 refine VG (VO.opn 1 rfl (HOpn.pac p R) ?_)
 rintro z fit
 refine xjp ?_
 refine CD (ts 0 5 (.only 5 .nil)) ym yr ?_
 refine xeu ?_
 refine AG (VA.ldA 4 s.cells rfl rfl rfl rfl rfl ?_)
 refine AG (AQ 1 rfl (fun Fr w hF hs hS=>udo_spec Fr w ok hb he s) rfl rfl (ψ:=fun v H=>v=.int .i64 (R.clu.do_ s).2∧H=cluH z.q (R.clu.do_ s).1) yy ?_ ?_)
 ·rintro _ _ ⟨rfl,rfl⟩
  exact yv
 rintro _ _ ⟨rfl,rfl⟩
 refine xld ?_
 refine zoo ?_
 rw[show(R.done:Int)+1=((R.done+1:Nat):Int) by push_cast;rfl]
 refine xjp ?_
 refine VG (VO.st 0 (cs':=runC z.q ((R.done+1:Nat):Int) (upF R) (stF R) R.tick R.watch z.a z.ps.length z.c z.mb) rfl rfl rfl rfl (by show 0+1<18;decide) rfl rfl ?_)
 refine xeg ?_
 refine CS (CG (VG ?_))
 refine xeg ?_
 refine VC.meet (σ:=Unit) (fun _=>[(0,pV p),(3,pV sb),(4,.bool (tookB s))]) (fun _=>[pacH p (R.did s),pt sb s.cells doT]) (fun _=>True) ?_ ?_
 rotate_left
 ·rintro⟨⟩ -
  refine xds ?_
  refine VG (VI (light_buildArr (pv:=[(0,.int .i64 s.a),(1,.int .i64 s.b)]) (prC (s.a,s.b)) rfl rfl rfl rfl rfl) ?_)
  have ok2:(R.did s).clu.Ok (b+1) (e+7):=ok.do_ hb he s
  refine VG (VQ 0 rfl (fun Fr w hF hs hS=>look_spec Fr w ok2 hnd (tookB s) (s.a,s.b)) rfl (ψ:=fun v H=>v=.tuple #[]∧H=pacH p (R.do_ s)) yy ?_)
  rintro _ _ ⟨rfl,rfl⟩
  refine xjp ?_
  exact Ret.void rfl (IP 0 rfl Imp.nil).ent ⟨rfl,rfl⟩
 refine xfh ?_
 refine CP (p:=s.kind=2) rfl (fun k2=>?_) (fun k2=>?_)
 ·have htb:=htb yd yd
  have htk:=htk yd
  have hwt:=hwt yd
  refine xfh ?_
  by_cases h0:0≤s.a
  rotate_left
  ·refine VG (VY 25 false rfl (DF h0) ?_)
   refine zop ?_
   exact⟨(),trivial,SC rfl (SC rfl (SC ycr (SN _))),(did_shut fit s (hst fun h=>h0 h.2.1) htk hwt).ent⟩
  refine VG (VY 25 true rfl (DT h0) ?_)
  (repeat(first|refine zS ?_|refine zR ?_|refine zB ?_|refine zL ?_|refine zC ?_|refine zG (zN ?_)|refine zG (zD 0 rfl rfl rfl rfl ?_)|refine zG (zD 1 rfl rfl rfl rfl ?_)|refine zG (zD 2 rfl rfl rfl rfl ?_)|refine zG (zD 3 rfl rfl rfl rfl ?_)|refine zG (zD 4 rfl rfl rfl rfl ?_)|refine zG (zU rfl rfl rfl ?_)))
  refine CP (p:=s.a<6) rfl (fun h6=>?_) (fun h6=>CK ?_)
  rotate_left
  ·exact⟨(),trivial,SC rfl (SC rfl (SC ycr (SN _))),(did_shut fit s (hst fun h=>h6 h.2.2) htk hwt).ent⟩
  obtain⟨i,hi⟩:∃i:Nat,s.a=i:=⟨s.a.toNat,by omega⟩
  have hi6:i<6:=by omega
  have hg:∀k<6,(if k=i then ((R.done+1:Nat):Int) else stF R k)=stF (R.did s) k:=fun k hk=>by
   show _=((if s.kind=2∧0≤s.a∧s.a<6 then R.steps.set s.a.toNat ((R.done+1:Nat):Int) else R.steps)[k]?).getD 0
   have e1:(if s.kind=2∧0≤s.a∧s.a<6 then R.steps.set s.a.toNat ((R.done+1:Nat):Int) else R.steps)=R.steps.set i ((R.done+1:Nat):Int):=by rw[if_pos ⟨k2,h0,h6⟩,show s.a.toNat=i by omega]
   rw[e1,List.getElem?_set]
   by_cases e:k=i
   ·rw[if_pos e,if_pos e.symm,if_pos yd];rfl
   ·rw[if_neg e,if_neg fun h=>e h.symm];rfl
  refine CD (ts 0 10 (.only 10 .nil)) ym yr ?_
  (repeat(first|refine yG (yN ?_)|refine yG (yD 0 rfl rfl rfl rfl rfl ?_)|refine yG (yD 1 rfl rfl rfl rfl rfl ?_)|refine yG (yD 2 rfl rfl rfl rfl rfl ?_)|refine yG (yD 3 rfl rfl rfl rfl rfl ?_)|refine yG (yD 4 rfl rfl rfl rfl rfl ?_)|refine yG (yU rfl rfl rfl rfl ?_)))
  refine AG (AI rfl (light_idxA i rfl rfl rfl rfl rfl hi hi6) ?_)
  refine AG (VA.st 0 (cs':=runC z.q ((R.done+1:Nat):Int) (upF R) (fun k=>if k=i then ((R.done+1:Nat):Int) else stF R k) R.tick R.watch z.a z.ps.length z.c z.mb) rfl rfl rfl rfl rfl (by show 0+8+i*1<18;omega) (by show List.set _ (0+8+i*1) _=_;rw[show 0+8+i*1=8+i by omega];exact run_stS hi6 _) rfl yv ?_)
  refine xld ?_
  exact⟨(),trivial,SC rfl (SC rfl (SC ycr (SN _))),(did_shut fit s hg htk hwt).ent⟩
 have hst:=hst fun h=>k2 h.1
 refine xfh ?_
 refine CP (p:=s.kind=3) rfl (fun k3=>?_) (fun k3=>?_)
 ·refine xdf ?_
  refine VG (VO.st 0 (cs':=runC z.q ((R.done+1:Nat):Int) (upF R) (stF R) ((R.done+1:Nat):Int) R.watch z.a z.ps.length z.c z.mb) rfl rfl rfl rfl (by show 0+14<18;decide) rfl rfl ?_)
  refine xjp ?_
  exact⟨(),trivial,SC rfl (SC rfl (SC ycs (SN _))),(did_shut fit s hst (if_pos k3).symm (hwt yd)).ent⟩
 refine xfh ?_
 refine CP (p:=s.kind=11) rfl (fun k11=>?_) (fun k11=>?_)
 ·refine xdf ?_
  refine VG (VO.st 0 (cs':=runC z.q ((R.done+1:Nat):Int) (upF R) (stF R) R.tick ((R.done+1:Nat):Int) z.a z.ps.length z.c z.mb) rfl rfl rfl rfl (by show 0+15<18;decide) rfl rfl ?_)
  refine xjp ?_
  exact⟨(),trivial,SC rfl (SC rfl (SC ycs (SN _))),(did_shut fit s hst (htk k3) (if_pos k11).symm).ent⟩
 have hsh:=did_shut (p:=p) fit s (T:=[pt sb s.cells doT]) hst (htk k3) (hwt k11)
 refine xfh ?_
 refine CP (p:=s.kind=4) rfl (fun k4=>CK ?_) (fun k4=>?_)
 ·have:(s.c == 0)=tookB s:=by
   unfold tookB;rw[DT k4];rfl
  refine CP (p:=s.kind=4) rfl (fun _=>?_) (fun h=>absurd k4 h)
  refine xfh ?_
  exact xob
 refine xfh ?_
 refine CP (p:=s.kind=5) rfl (fun k5=>?_) (fun k5=>CK ?_)
 ·have:(s.c == 0)=tookB s:=by
   unfold tookB;rw[DT k5,Bool.or_true];rfl
  refine xfh ?_
  exact xob
 exact⟨(),trivial,SC rfl (SC rfl (SC (by rw[←htb k4 k5];rfl) (SN _))),hsh.ent⟩
theorem pstart_spec{F:ConfM}(hF:F=fitM F){a:Option Addr}{c:Nat}(hc:F.qs.length≤c)(hq:IntsIn Fr w a F.qs):
  Tri Tryz.prog 20 [.agg (F.cells a c).toArray] Fr w [] (fun v L=>∃p,v=.tuple #[.pointer (some ⟨p,0,none⟩),.bool true]∧L=[pacH p (PacM.new F)]):=by
 have hR:=RunOk.new hF
 refine TF 22 Tryz.func20 rfl ym tabOk rfl rfl ?_
 refine CS (CG (VG (VB (vs:=F.cells a c) rfl fun b1=>?_)))
 refine xjp ?_
 refine xnu ?_
 refine VG (VK (Lc:=[]) (fun Fr w hF' hw hS=>unew_spec Fr w F (ints_of hq hF' hw) hc) rfl rfl ?_)
 intro v L1 g
 rw[if_pos hF] at g
 obtain⟨q,rfl,rfl⟩:=g
 refine zox ?_
 refine VG (VO.opx (OpT.makeMap iiV tV) ?_)
 rintro _ _ ⟨mb,rfl,rfl⟩
 refine VG (VI (LB (pv:=[(0,pV q),(7,.map (some mb))]) (runC q 0 (fun _=>false) (fun _=>0) 0 0 none 0 0 mb) rfl rfl rfl ym rfl) ?_)
 refine VG (VB (vs:=runC q 0 (fun _=>false) (fun _=>0) 0 0 none 0 0 mb) rfl fun p=>?_)
 refine xjp ?_
 refine VG (VI (light_buildArr (pv:=[]) (prC (0,0)) rfl rfl rfl rfl rfl) ?_)
 refine VO.ent (L':=[pacH p ⟨newC F,0,List.replicate 6 false,List.replicate 6 0,0,0,[]⟩]) (Imp.pac ⟨q,mb,[],none,0,[]⟩ ⟨List.Perm.refl _,List.Perm.refl _⟩ (IP 0 rfl (IP 1 rfl (Imp.slNil (IP 0 rfl Imp.nil))))).ent ?_
 refine VG (VQ 0 rfl (fun Fr w hF hs hS=>look_spec Fr w (R:=⟨newC F,0,List.replicate 6 false,List.replicate 6 0,0,0,[]⟩) hR.ok List.nodup_nil false (0,0)) rfl (ψ:=fun v H=>v=.tuple #[]∧H=pacH p (PacM.new F)) yy ?_)
 rintro _ _ ⟨rfl,rfl⟩
 refine xjp ?_
 exact CR (Ret.tmp2 2 3 rfl rfl rfl ER ⟨p,rfl,rfl⟩)
end Cl
namespace Cl
open Go Vg T Api Ch Rep Conf Lg Rd
attribute [local irreducible] VO VC VA VM VD
theorem light_arrAt{X:Cx}{e:Env}{T:TypeId}{x y:Operand}{cs:List Value}{k:IntKind}{j:Int}{tt te:TI}{el len:Nat}{v:Value}(i:Nat)(hx:ev e x=some (.agg cs.toArray))(hy:ev e y=some (.int k j))(hT:tyLook X.tab T=some tt)(hu:tt.und=.array len el)
  (hE:tyLook X.tab el=some te) (hag:te.und.agg=false) (hs:te.size=1) (hj:j=i) (hlt:i<len) (hv:cs[i]?=some v):Light X (.index T x y) e v:=by
 intro a ha dst ty pos after guard w
 have hund:=und_array (X.ok.look hT) hu
 obtain⟨i2,hi2,hs2,_,_⟩:=(X.ok.look hE).info'
 subst hj
 have hp:∀w,(part el cs.toArray i).run X.P w=.ok v w:=fun w=>part1 (X.ok.look hE) hag hv w
 have hl:((i:Int)<(len:Int)):=by omega
 simp[execOp,ha.ev hx,ha.ev hy,Instr.index,asIntOf,run_underlying hund,Sem.run_bind,hl,hlt,run_size hi2,hs2,hs,hp,Result.andThen]
theorem Ret.cells2{X:Cx}{fn:Func}{R:Value→List HP→Prop}{e:Env}{L:List HP}{T U:TypeId}{ti ui:TI}{b d:Nat}{v u:Value}(p q:Nat)(h:fn.results=#[.cell p T,.cell q U])(hp:Vg.look e p=some (.pointer (some ⟨b,0,none⟩)))(hT:tyLook X.tab T=some ti)
  (hr:RdL X L ti b 0 v) (hq:Vg.look e q=some (.pointer (some ⟨d,0,none⟩))) (hU:tyLook X.tab U=some ui) (hr2:RdL X L ui d 0 u) {L':List HP} (he:Ent X L L') (hR:R (.tuple #[v,u]) L'):Ret X fn R e L:=
 ⟨_,L',⟨fun a w ha hw=>by
  have h1:=run_loadVar (X.ok.look hT) (hr w hw)
  have h2:=run_loadVar (X.ok.look hU) (hr2 w hw)
  have hp':=ha.at_ p _ hp
  have hq':=ha.at_ q _ hq
  simp only[Array.getD_eq_getD_getElem?] at hp' hq'
  simp[results,h,hp',hq',asAddr,h1,h2]⟩,he,hR⟩
theorem sat_kept{Fr Fr':Nat→Prop}{L:List HP}{w w':World}(h:SatIn Fr L w)(hF:∀b,Fr b→Fr' b)(hk:Keep Fr w w'):SatIn Fr' L w':=by
 obtain⟨F,h1,h2⟩:=h
 exact⟨F,h1.loc fun b hb=>hk.block b (h2 b hb),fun b hb=>hF b (h2 b hb)⟩
def stepF(q:StpM×Int)(x:KeyD×Int):StpM×Int:=if x.2<q.2 then (x.1.step,x.2) else q
theorem fold_min:∀(l:List (KeyD×Int)) (q:StpM×Int),(∀x∈l,(l.foldl stepF q).2≤x.2)∧(l.foldl stepF q).2≤q.2∧(l.foldl stepF q=q∨∃y∈l,l.foldl stepF q=(y.1.step,y.2))
 | [],q=>⟨fun x hx=>(by cases hx),Int.le_refl _,.inl rfl⟩
 | a::l,q=>by
  obtain⟨h1,h2,h3⟩:=fold_min l (stepF q a)
  have hs:(stepF q a).2≤q.2∧(stepF q a).2≤a.2∧(stepF q a=q∨stepF q a=(a.1.step,a.2)):=by
   unfold stepF
   split
   ·exact⟨by dsimp only;omega,Int.le_refl _,.inr rfl⟩
   ·exact⟨Int.le_refl _,by omega,.inl rfl⟩
  rw[List.foldl_cons]
  refine⟨fun x hx=>?_,by omega,?_⟩
  ·rcases List.mem_cons.1 hx with rfl | hx
   ·omega
   ·exact h1 x hx
  ·rcases h3 with h3 | ⟨y,hy,h3⟩
   ·rw[h3]
    rcases hs.2.2 with h4 | h4
    ·exact .inl h4
    ·exact .inr ⟨a,List.mem_cons_self,h4⟩
   ·exact .inr ⟨y,List.mem_cons_of_mem _ hy,h3⟩
def dueU(R:PacM)(i:Nat):List (KeyD×Int):=((List.range i).filter (upF R)).map fun n=>(.stp n,stF R n)
theorem dueU_up{R:PacM}{i:Nat}(h:upF R i=true):dueU R (i+1)=dueU R i ++ [(.stp i,stF R i)]:=by
 unfold dueU
 rw[List.range_succ,List.filter_append,List.map_append]
 simp[List.filter_cons,h]
theorem dueU_no{R:PacM}{i:Nat}(h:upF R i=false):dueU R (i+1)=dueU R i:=by
 unfold dueU
 rw[List.range_succ,List.filter_append,List.map_append]
 simp[List.filter_cons,h]
def dueT(R:PacM):List (KeyD×Int):=dueU R 6 ++ [(.tick,R.tick)]
def dueW(R:PacM):List (KeyD×Int):=dueT R ++ [(.watch,R.watch)]
def tmP(R:PacM)(pr:PrM):Int:=(mGet R.mail pr).getD 0
def dueQ(R:PacM)(ps:List PrM)(j:Nat):List (KeyD×Int):=dueW R++(ps.take j).map fun pr=>(.pr pr,tmP R pr)
def dueS(R:PacM)(ps:List PrM):List (KeyD×Int):=dueU R 6++((.tick,R.tick)::(.watch,R.watch)::ps.map fun pr=>(.pr pr,tmP R pr))
theorem dueS_perm{R:PacM}{ps:List PrM}(h:ps.Perm (R.mail.map Prod.fst))(hn:(R.mail.map Prod.fst).Nodup):(dueS R ps).Perm R.due:=by
 unfold dueS PacM.due
 refine List.Perm.append (List.Perm.refl _) ((List.Perm.cons _ (List.Perm.cons _ ?_)))
 have h1:=h.map fun pr=>((.pr pr,tmP R pr):KeyD×Int)
 rw[List.map_map] at h1
 have e:R.mail.map ((fun pr=>((.pr pr,tmP R pr):KeyD×Int))∘Prod.fst)=R.mail.map fun x=>(.pr x.1,x.2):=List.map_congr_left fun x hx=>by
  show((.pr x.1,tmP R x.1):KeyD×Int)=_
  unfold tmP
  rw[mGet_of_mem hn hx];rfl
 rw[e] at h1
 exact h1
abbrev pi64:TypeId:=3
abbrev pruT:TypeId:=56
def fsL(sb nb:Nat)(q:StpM×Int):List HP:=[pt nb [.int .i64 q.2] pi64,pt sb q.1.cells doT]
def FsY(r:Loop)(l sb nb:Nat):Prop:=∀(q:StpM×Int) (x:StpM) (t:Int) (Fr:Nat→Prop) (w:World),
 Yld Tryz.prog l r [.agg x.cells.toArray,.int .i64 t] Fr w (fsL sb nb q) fun v L=>v=.bool true∧L=fsL sb nb (if t<q.2 then (x,t) else q)
theorem due1_spec{r:Loop}{l sb nb p bx:Nat}(hy:FsY r l sb nb)(hps:r.params.size=2){R:PacM}(hnd:(R.mail.map Prod.fst).Nodup)(hml:R.mail.length≤100000)(h:SatIn Fr [pacH p R] w)(q0:StpM×Int):
  Tri Tryz.prog 77 [yieldV l,.pointer (some ⟨bx,0,none⟩)] Fr w (lpH l r::pt bx [.pointer (some ⟨p,0,none⟩)] pruT::fsL sb nb q0) (fun v L=>∃ps,(dueS R ps).Perm R.due∧v=.tuple #[]∧L=lpH l r::pt bx [.pointer (some ⟨p,0,none⟩)] pruT::fsL sb nb ((dueS R ps).foldl stepF q0)):=by
 obtain⟨⟨q,mb,ps,a,c,X⟩,⟨hfp,hfX⟩,hz⟩:=pac_in h
 dsimp only at hfp hfX
 have hb:Blk Fr w p (runC q R.done (upF R) (stF R) R.tick R.watch a ps.length c mb):=hz.blk 0 rfl
 have hmb:MapBlk Fr w iiV tV mb X:=hz.mapBlk 3 rfl
 have hrw:RwIn prC 2 Fr w a ps:=RwIn.slH prC_len (hz.at_ 2 rfl)
 have hpsl:ps.length≤100000:=by have:=hfp.length_eq;rw[List.length_map] at this;omega
 refine TF 72 Tryz.func77 rfl ym tabOk rfl rfl ?_
 refine CN (L':=lpH l r::(fsL sb nb q0 ++ [pt bx [.pointer (some ⟨p,0,none⟩)] pruT])) (Imp.perm (List.Perm.cons _ (List.perm_append_comm (l₁:=[_]) (l₂:=fsL sb nb q0)))).ent ?_
 refine xmf ?_
 refine VG (VO.load rfl rfl (RdL.blkA hb (ds:=[.int .i64 (stF R 0),.int .i64 (stF R 1),.int .i64 (stF R 2),.int .i64 (stF R 3),.int .i64 (stF R 4),.int .i64 (stF R 5)]) rfl) ?_)
 refine xjp ?_
 refine VC.loop (σ:=Nat) (fun i=>[(0,yieldV l),(1,pV bx),(10,.agg ([.int .i64 (stF R 0),.int .i64 (stF R 1),.int .i64 (stF R 2),.int .i64 (stF R 3),.int .i64 (stF R 4),.int .i64 (stF R 5)]:List Value).toArray),(11,.int .i64 (i:Int))])
  (fun i=>lpH l r::(fsL sb nb ((dueU R i).foldl stepF q0) ++ [pt bx [.pointer (some ⟨p,0,none⟩)] pruT])) (fun i=>i≤6) (fun i=>6-i) 0
  (Nat.zero_le _) sbZ ER ?_
 rintro i hi
 refine xjp ?_
 refine CP (p:=(i:Int)<6) rfl (fun h2=>CK ?_) (fun h2=>CX ?_)
 ·have hi6:i<6:=by omega
  have hst:([.int .i64 (stF R 0),.int .i64 (stF R 1),.int .i64 (stF R 2),.int .i64 (stF R 3),.int .i64 (stF R 4),.int .i64 (stF R 5)]:List Value)[i]?=some (.int .i64 (stF R i)):=by
   have:i=0∨i=1∨i=2∨i=3∨i=4∨i=5:=by omega
   rcases this with rfl | rfl | rfl | rfl | rfl | rfl<;>rfl
  refine xjp ?_
  refine VG (VI (light_arrAt i rfl rfl rfl rfl rfl rfl rfl rfl hi6 hst) ?_)
  refine xmf ?_
  refine xny ?_
  refine VG (VO.load rfl rfl (RdL.blk hb (by show _=_;rw[show 0+2+i*_=2+i from by show 0+2+i*1=_;omega];exact run_up hi6)) ?_)
  refine xjp ?_
  cases hup:upF R i with
  | false=>
   refine VG (VY 21 false rfl rfl ?_)
   refine zop ?_
   refine zom ?_
   exact⟨i+1,by omega,by dsimp only;omega,SC rfl (SC rfl (SC rfl (Sub.int rfl yd (SN _)))),by dsimp only;rw[dueU_no hup];exact ER⟩
  | true=>
   refine VG (VY 21 true rfl rfl ?_)
   refine xjq ?_
   refine VG (VI (LB (pv:=[(0,.int .i64 2),(1,.int .i64 (i:Int))]) ((stS 2 i 0).cells) rfl rfl rfl ym rfl) ?_)
   refine xjq ?_
   refine VG (VO.opY (OpY.yield (r:=r) (vals:=[.agg (stS 2 i 0).cells.toArray,.int .i64 (stF R i)]) (Lc:=fsL sb nb ((dueU R i).foldl stepF q0)) (Lr:=[pt bx [.pointer (some ⟨p,0,none⟩)] pruT]) rfl rfl hps.symm (List.Perm.refl _) (fun Fr' w hF hw hS=>hy _ (stS 2 i 0) (stF R i) Fr' w)) ?_)
   rintro _ _ ⟨_,⟨rfl,rfl⟩,rfl⟩
   refine zop ?_
   refine zom ?_
   exact⟨i+1,by omega,by dsimp only;omega,SC rfl (SC rfl (SC rfl (Sub.int rfl yd (SN _)))),by dsimp only;rw[dueU_up hup,List.foldl_append];exact ER⟩
 obtain rfl:i=6:=by omega
 refine xjp ?_
 refine xoc ?_
 refine xod ?_
 refine VG (VO.opY (OpY.yield (r:=r) (vals:=[.agg (stS 3 0 0).cells.toArray,.int .i64 R.tick]) (Lc:=fsL sb nb ((dueU R 6).foldl stepF q0)) (Lr:=[pt bx [.pointer (some ⟨p,0,none⟩)] pruT]) rfl rfl hps.symm (List.Perm.refl _) (fun Fr' w hF hw hS=>hy _ (stS 3 0 0) R.tick Fr' w)) ?_)
 rintro _ _ ⟨_,⟨rfl,rfl⟩,rfl⟩
 refine xjq ?_
 refine VG (VY 38 false rfl rfl ?_)
 refine xjq ?_
 refine VG (VI (LB (pv:=[(0,.int .i64 11)]) ((stS 11 0 0).cells) rfl rfl rfl ym rfl) ?_)
 refine xod ?_
 have e1:(if R.tick<((dueU R 6).foldl stepF q0).2 then (stS 3 0 0,R.tick) else (dueU R 6).foldl stepF q0)=(dueT R).foldl stepF q0:=by unfold dueT;rw[List.foldl_append];rfl
 rw[e1]
 refine VG (VO.opY (OpY.yield (r:=r) (vals:=[.agg (stS 11 0 0).cells.toArray,.int .i64 R.watch]) (Lc:=fsL sb nb ((dueT R).foldl stepF q0)) (Lr:=[pt bx [.pointer (some ⟨p,0,none⟩)] pruT]) rfl rfl hps.symm (List.Perm.refl _) (fun Fr' w hF hw hS=>hy _ (stS 11 0 0) R.watch Fr' w)) ?_)
 rintro _ _ ⟨_,⟨rfl,rfl⟩,rfl⟩
 have e2:(if R.watch<((dueT R).foldl stepF q0).2 then (stS 11 0 0,R.watch) else (dueT R).foldl stepF q0)=(dueW R).foldl stepF q0:=by unfold dueW;rw[List.foldl_append];rfl
 rw[e2]
 refine zop ?_
 refine xod ?_
 refine VC.loop (σ:=Nat) (fun j=>[(0,yieldV l),(1,pV bx),(51,.slice a ps.length c),(52,.int .i64 ps.length),(53,.int .i64 (j:Int))])
  (fun j=>lpH l r::(fsL sb nb ((dueQ R ps j).foldl stepF q0) ++ [pt bx [.pointer (some ⟨p,0,none⟩)] pruT])) (fun j=>j≤ps.length) (fun j=>ps.length-j) 0
  (Nat.zero_le _) sbZ (by rw[show dueQ R ps 0=dueW R from by unfold dueQ;rw[List.take_zero,List.map_nil,List.append_nil]];exact ER) ?_
 rintro j hj
 refine xjp ?_
 refine CP (p:=(j:Int)<ps.length) rfl (fun h2=>CK ?_) (fun h2=>CX ?_)
 rotate_left
 ·obtain rfl:j=ps.length:=by omega
  have e3:dueQ R ps ps.length=dueS R ps:=by
   unfold dueQ dueW dueT dueS
   rw[List.take_length,List.append_assoc,List.append_assoc];rfl
  rw[e3]
  exact Ret.void rfl (Imp.perm (List.Perm.cons _ (List.perm_append_comm (l₁:=fsL sb nb ((dueS R ps).foldl stepF q0)) (l₂:=[_])))).ent ⟨ps,dueS_perm hfp hnd,rfl,rfl⟩
 have hjl:j<ps.length:=by omega
 have hxk:ps[j]?=some ps[j]:=GE hjl
 have htk:ps.take (j+1)=ps.take j ++ [ps[j]]:=by rw[List.take_add_one,hxk];rfl
 generalize ps[j]=pr at hxk htk
 obtain⟨pb,po,rfl,ra,rc⟩:=RwIn.rd (X:=⟨Tryz.prog,tab,tabOk,72,Fr,w⟩) hrw hxk
 refine xjp ?_
 refine VG (VI (light_idx j rfl rfl rfl rfl rfl rfl hjl) ?_)
 refine xdk ?_
 refine VG (VO.alloc rfl fun kb=>?_)
 refine xoa ?_
 refine xjp ?_
 refine CD (ts 0 12 (.only 12 (ts 13 1 .nil))) ym yr ?_
 refine xld ?_
 refine xnw ?_
 refine xeu ?_
 refine xnx ?_
 refine xeu ?_
 refine AG (AI rfl (LB (pv:=[(0,.int .i64 4),(1,.int .i64 pr.1),(2,.int .i64 pr.2)]) ((stS 4 pr.1 pr.2).cells) rfl rfl rfl ym rfl) ?_)
 (repeat(first|refine yG (yN ?_)|refine yG (yD 0 rfl rfl rfl rfl rfl ?_)|refine yG (yD 1 rfl rfl rfl rfl rfl ?_)|refine yG (yD 2 rfl rfl rfl rfl rfl ?_)|refine yG (yD 3 rfl rfl rfl rfl rfl ?_)|refine yG (yD 4 rfl rfl rfl rfl rfl ?_)|refine yG (yE rfl rfl rfl (RdL.blk hb rfl) ?_)|refine yG (yU rfl rfl rfl rfl ?_)))
 refine AG (VA.ldA 0 (prC pr) rfl rfl rfl rfl rfl ?_)
 refine AG (VA.lookup (a:=pr) arI Tryz.underlying64 rfl rfl rfl rfl (MpL.blk hmb) ?_)
 have hlk:((mGet X pr).map tV).getD t3.zero=.int .i64 (tmP R pr):=by
  unfold tmP
  rw[mGet_perm hfX hnd pr]
  cases mGet R.mail pr<;>rfl
 rw[cond_false,hlk]
 refine AG (VA.opY (OpY.yield (r:=r) (vals:=[.agg (stS 4 pr.1 pr.2).cells.toArray,.int .i64 (tmP R pr)]) (Lc:=fsL sb nb ((dueQ R ps j).foldl stepF q0)) (Lr:=[pt bx [.pointer (some ⟨p,0,none⟩)] pruT,pt kb (prC pr) prT2]) rfl rfl hps.symm (List.perm_append_comm (l₁:=[_]) (l₂:=lpH l r::(fsL sb nb ((dueQ R ps j).foldl stepF q0) ++ [pt bx [.pointer (some ⟨p,0,none⟩)] pruT]))) (fun Fr' w hF hw hS=>hy _ (stS 4 pr.1 pr.2) (tmP R pr) Fr' w)) rfl ?_ ?_)
 ·rintro _ _ ⟨_,⟨rfl,rfl⟩,rfl⟩
  exact(by(try refine Pd.st ?_);(repeat(first|exact Pd.nil|exact Pd.fnil|refine Pd.inner ?_|refine Pd.skip yr ?_|refine zf (zo 0 rfl rfl) ?_|refine zf (zo 1 rfl rfl) ?_|refine zf (zo 2 rfl rfl) ?_|refine zf (zo 3 rfl rfl) ?_|refine zf (zo 4 rfl rfl) ?_|refine zf (zm 0 rfl rfl) ?_|refine zf (zm 1 rfl rfl) ?_|refine zf (zm 2 rfl rfl) ?_|refine zf (zm 3 rfl rfl) ?_|refine zf (zm 4 rfl rfl) ?_|refine zf (RdL.blk hb rfl) ?_|refine zf (RdL.blk MpL.blk hmb rfl) ?_|refine zf (hb) ?_|refine zf (MpL.blk hmb) ?_|refine zc (zo 0 rfl rfl) ?_|refine zc (zo 1 rfl rfl) ?_|refine zc (zo 2 rfl rfl) ?_|refine zc (zo 3 rfl rfl) ?_|refine zc (zo 4 rfl rfl) ?_|refine zc (zm 0 rfl rfl) ?_|refine zc (zm 1 rfl rfl) ?_|refine zc (zm 2 rfl rfl) ?_|refine zc (zm 3 rfl rfl) ?_|refine zc (zm 4 rfl rfl) ?_|refine zc (RdL.blk hb rfl) ?_|refine zc (RdL.blk MpL.blk hmb rfl) ?_|refine zc (hb) ?_|refine zc (MpL.blk hmb) ?_|refine Pd.fconsM (MpL.one 0 rfl) ?_|refine Pd.fconsM (MpL.one 1 rfl) ?_|refine Pd.fconsM (MpL.one 2 rfl) ?_|refine Pd.fconsM (MpL.one 3 rfl) ?_|refine Pd.fconsM (MpL.one 4 rfl) ?_|refine Pd.fconsM (hb) ?_|refine Pd.fconsM (MpL.blk hmb) ?_|refine Pd.consM (MpL.one 0 rfl) ?_|refine Pd.consM (MpL.one 1 rfl) ?_|refine Pd.consM (MpL.one 2 rfl) ?_|refine Pd.consM (MpL.one 3 rfl) ?_|refine Pd.consM (MpL.one 4 rfl) ?_|refine Pd.consM (hb) ?_|refine Pd.consM (MpL.blk hmb) ?_)))
 rintro _ _ ⟨_,⟨rfl,rfl⟩,rfl⟩
 refine zqe ?_
 refine zom ?_
 have e4:(if tmP R pr<((dueQ R ps j).foldl stepF q0).2 then (stS 4 pr.1 pr.2,tmP R pr) else (dueQ R ps j).foldl stepF q0)=(dueQ R ps (j+1)).foldl stepF q0:=by
  unfold dueQ
  rw[htk,List.map_append,←List.append_assoc,List.foldl_append (l:=dueW R++_)];rfl
 rw[e4]
 exact⟨j+1,by omega,by dsimp only;omega,SC rfl (SC rfl (SC rfl (SC rfl (Sub.int rfl yd (SN _))))),(pkZ [0,0,0,0]).ent⟩
theorem due_spec(p:Nat):Tri Tryz.prog 46 [.pointer (some ⟨p,0,none⟩)] Fr w [] (fun v L=>∃bx,v=fnV 77 [] [.pointer (some ⟨bx,0,none⟩)]∧L=[pt bx [.pointer (some ⟨p,0,none⟩)] pruT]):=by
 refine TF 4 Tryz.func46 rfl ym tabOk rfl rfl ?_
 refine CS (CG (VG (VO.box1 rfl fun bx=>?_)))
 refine xjp ?_
 refine VG (VI (light_makeFunc (u:=[]) (v:=[.pointer (some ⟨bx,0,none⟩)]) rfl rfl) ?_)
 refine xjp ?_
 exact CR (Ret.tmp 2 rfl rfl ER ⟨bx,rfl,rfl⟩)
theorem call77:Callable Tryz.prog 77:=⟨_,Tryz.func77,by kernel_rfl,by kernel_rfl⟩
def zeS:StpM:=⟨0,0,0,0,opZe⟩
theorem first_spec{p:Nat}{R:PacM}(hnd:(R.mail.map Prod.fst).Nodup)(hml:R.mail.length≤100000)(hd:R.done≤1000000)(hle:∀x∈R.due,x.2≤R.done)(h:SatIn Fr [pacH p R] w):
  Tri Tryz.prog 21 [.pointer (some ⟨p,0,none⟩)] Fr w [] (fun v L=>∃y∈R.due,(∀x∈R.due,y.2≤x.2)∧v=.tuple #[.agg y.1.step.cells.toArray,.int .i64 y.2]∧L=[]):=by
 obtain⟨z,fit,hz⟩:=pac_in h
 have hb:=hz.blk 0 rfl
 refine Tri.ofM 22 Tryz.func21 rfl ym tabOk rfl rfl ?_
 refine VM.seqV ?_
 refine CG (VG (VO.alloc rfl fun sb=>?_))
 refine VG (VO.alloc rfl fun nb=>?_)
 refine xeg ?_
 refine VM.seqV ?_
 refine xdi ?_
 refine xdl ?_
 refine VG (VO.st 0 rfl rfl rfl rfl Nat.zero_lt_one rfl rfl ?_)
 refine xjp ?_
 refine VM.seqD ?_
 refine VM.seqV ?_
 refine xjp ?_
 refine VG (VK (Lc:=[]) (fun Fr w hF hw hS=>due_spec Fr w p) rfl rfl ?_)
 rintro _ _ ⟨bx,rfl,rfl⟩
 refine xjp ?_
 refine VM.block ?_
 refine VM.rangeF (M:=fun L2=>∃ps,(dueS R ps).Perm R.due∧L2=pt bx [.pointer (some ⟨p,0,none⟩)] pruT::fsL sb nb ((dueS R ps).foldl stepF (zeS,(R.done:Int)+1))) rfl call77 (fun l r Fr' w hF hK ha hst hpe hps has hbo=>?_) (fun D L2 hM=>?_)
 rotate_left
 ·obtain⟨ps,hpp,rfl⟩:=hM
  obtain⟨m1,m2,m3⟩:=fold_min (dueS R ps) (zeS,(R.done:Int)+1)
  have htk:((.tick,R.tick):KeyD×Int)∈R.due:=List.mem_append.2 (.inr List.mem_cons_self)
  have hne:∃y∈R.due,(∀x∈R.due,y.2≤x.2)∧(dueS R ps).foldl stepF (zeS,(R.done:Int)+1)=(y.1.step,y.2):=by
   rcases m3 with m3 | ⟨y,hy,m3⟩
   ·have h1:=m1 _ (hpp.mem_iff.2 htk)
    have h2:=hle _ htk
    rw[m3] at h1
    dsimp only at h1 h2
    omega
   ·rw[m3] at m1
    exact⟨y,hpp.mem_iff.1 hy,fun x hx=>m1 x (hpp.mem_iff.2 hx),m3⟩
  obtain⟨y,hy,hmin,hq⟩:=hne
  rw[hq]
  refine⟨rfl,?_⟩
  refine VD.seq (VD.draw (ts 0 2 (.only 2 (.only 3 .nil))) ym yr ?_)
  refine AG (VA.ldA 3 y.1.step.cells rfl rfl rfl rfl rfl ?_)
  (repeat(first|refine yG (yN ?_)|refine yG (yD 0 rfl rfl rfl rfl rfl ?_)|refine yG (yD 1 rfl rfl rfl rfl rfl ?_)|refine yG (yD 2 rfl rfl rfl rfl rfl ?_)|refine yG (yU rfl rfl rfl rfl ?_)))
  refine AG (AT 3 (vs:=y.1.step.cells) (cs':=y.1.step.cells) rfl rfl rfl rfl rfl (NR _) rfl rfl rfl yv ?_)
  refine AG (VA.st 2 rfl rfl rfl rfl rfl Nat.zero_lt_one rfl rfl yv ?_)
  refine AG (AN (VD.ret ⟨_,rfl,?_⟩))
  exact Ret.cells2 2 3 rfl rfl rfl (RdL.many 2 rfl rfl) rfl rfl (RdL.one 1 rfl rfl) Imp.nil.ent ⟨y,hy,hmin,rfl,rfl⟩
 obtain⟨a,ha1,ha2⟩:=ha
 have hy:FsY r l sb nb:=by
  intro q x t Fr w
  have key:=par2 ha1 (t:=13) (u:=14) rfl rfl (.agg x.cells.toArray) (.int .i64 t)
  rw[←ha2,←hps] at key
  refine Yld.of (vals:=[.agg x.cells.toArray,.int .i64 t]) (tab:=tab) (ok:=tabOk) (n:=22) hst hpe key ?_
  intro w
  generalize ({ r with state:=LoopState.busy }:Loop)=rb
  rw[has]
  refine CS (CG (VG (VO.alloc rfl fun ab=>?_)))
  refine VG (VT (vs:=x.cells) (cs':=x.cells) 0 rfl rfl rfl rfl (NR _) rfl rfl rfl ?_)
  refine VG (VO.ent (L':=lpH l r::pt ab x.cells doT::fsL sb nb q) (Imp.perm (List.Perm.swap ..)).ent ?_)
  refine xjp ?_
  refine⟨rfl,_,rfl,fun w=>?_⟩
  rw[hbo]
  have hdr:∀q:StpM×Int,Imp (lpH l rb::pt ab x.cells doT::fsL sb nb q) (lpH l rb::fsL sb nb q):=fun q=>Imp.cons Imp.tail
  refine xdt ?_
  refine CP (p:=t<q.2) rfl (fun hlt=>?_) (fun hlt=>CN (hdr q).ent (CK ⟨rfl,_,rfl,rfl,by rw[if_neg hlt]⟩))
  rw[if_pos hlt]
  refine CG ?_
  refine VG (VL 1 x.cells rfl rfl rfl rfl ?_)
  refine VG (VT (vs:=x.cells) (cs':=x.cells) 3 rfl rfl rfl rfl (NR _) rfl rfl rfl ?_)
  refine VG (VO.st 2 rfl rfl rfl rfl Nat.zero_lt_one rfl rfl ?_)
  refine VG (VO.ent (L':=lpH l rb::fsL sb nb (x,t)) (hdr (x,t)).ent ?_)
  exact VG (VN ⟨rfl,_,rfl,rfl,rfl⟩)
 exact Ring.Tri.drop (due1_spec Fr' w hy (by rw[hps];rfl) hnd hml (sat_kept h hF hK) (zeS,(R.done:Int)+1)) fun v L ⟨ps,hp,_,e⟩=>⟨L,⟨_,e,ps,hp,rfl⟩,Imp.refl⟩
end Cl
namespace Cl
open Go Vg T Api Ch Rep Conf Lg Rd Sched
attribute [local irreducible] VO VC VA
theorem pac_take{F:ConfM}(hF:F=fitM F)(l:List StpM):∀i:Nat,i≤l.length→i≤50000→PacOk F (PacM.run F (l.take i)) i
 | 0,_,_=>PacOk.new hF
 | i+1,h,h2=>by
  have hx:l[i]?=some l[i]:=GE yd
  rw[List.take_add_one,hx]
  show PacOk F (PacM.run F (l.take i ++ [l[i]])) (i+1)
  rw[pac_snoc]
  exact(pac_take hF l i yd yd).do_ hF yd _
section
variable {F:ConfM} {R:PacM} {i:Nat}
theorem PacOk.nd(h:PacOk F R i):(R.mail.map Prod.fst).Nodup:=by rw[h.keys];exact h.run.ok.lnk.nd
theorem PacOk.ml(h:PacOk F R i):R.mail.length≤1444:=by
 have h1:=congrArg List.length h.keys
 rw[List.length_map,List.length_map] at h1
 have:=few_mail h.run.ok.lnk h.run.ok.adr
 omega
def FstV(R:PacM)(v:Value):Prop:=∃y∈R.due,(∀x∈R.due,y.2≤x.2)∧v=.tuple #[.agg y.1.step.cells.toArray,.int .i64 y.2]
theorem pfirst_spec{p:Nat}(h:PacOk F R i)(hi:i≤50000)(hs:SatIn Fr [pacH p R] w):Tri Tryz.prog 21 [.pointer (some ⟨p,0,none⟩)] Fr w [] (fun v L=>FstV R v∧L=[]):=
 Go.Proofs.YtmghpgpfeabghaaGreat.Ring.Tri.drop (first_spec Fr w h.nd (by have:=h.ml;omega) (by rw[h.done];omega) (fun x hx=>(h.s0 x hx).2) hs) fun v L ⟨y,h1,h2,h3,h4⟩=>⟨L,⟨⟨y,h1,h2,h3⟩,h4⟩,Imp.refl⟩
theorem pstep_spec{p:Nat}(h:PacOk F R i)(hi:i≤50000)(s:StpM):Tri Tryz.prog 22 [.pointer (some ⟨p,0,none⟩),.agg s.cells.toArray] Fr w [pacH p R] (fun v L=>v=.tuple #[]∧L=[pacH p (R.do_ s)]):=
 pdo_spec Fr w h.run.ok yd yd h.nd h.sl (by rw[h.done];omega) s
end
theorem pcheck_spec{F:ConfM}(hF:F=fitM F){a:Option Addr}{c:Nat}(hc:F.qs.length≤c)(hq:IntsIn Fr w a F.qs){la:Option Addr}{lc:Nat}{l:List StpM}(hr:RwIn StpM.cells 8 Fr w la l)(hll:l.length≤50000){W:Int}(hW:1≤W){n0:Nat}(hn0:n0≤l.length)
  (hgood:∀i<n0,∀y∈(PacM.run F (l.take (i+1))).due,((i+1:Nat):Int)-y.2≤W) (hbad:n0<l.length→∃y∈(PacM.run F (l.take (n0+1))).due,W<((n0+1:Nat):Int)-y.2):
  Tri Tryz.prog 10 [.agg (F.cells a c).toArray,.slice la l.length lc,.int .i64 W] Fr w [] (fun v L=>v=.int .i64 (if n0<l.length then n0 else -1)∧L=[]):=by
 refine TF 49 Tryz.func10 rfl ym tabOk rfl rfl ?_
 refine CS (CG (VG (VB (vs:=F.cells a c) rfl fun b3=>?_)))
 refine xjp ?_
 refine xnu ?_
 refine xoe ?_
 rintro _ _ ⟨p,rfl,rfl⟩
 refine xjp ?_
 refine VG (VY 20 false rfl rfl ?_)
 refine xjq ?_
 refine CP (p:=W<1) rfl (fun h=>absurd hW yd) (fun _=>CK ?_)
 refine xjp ?_
 refine VC.loop (σ:=Nat) (fun i=>[(2,.int .i64 W),(7,pV p),(24,.slice la l.length lc),(25,.int .i64 l.length),(26,.int .i64 (i:Int))]) (fun i=>[pacH p (PacM.run F (l.take i))]) (fun i=>i≤l.length∧i≤n0) (fun i=>l.length-i) 0
  ⟨Nat.zero_le _,Nat.zero_le _⟩ sbZ (IP 0 rfl Imp.nil).ent ?_
 rintro i ⟨hi,hin⟩
 have ok:=pac_take hF l i hi yd
 refine xjp ?_
 refine CP (p:=(i:Int)<l.length) rfl (fun h2=>CK ?_) (fun h2=>CX ?_)
 rotate_left
 ·refine xjp ?_
  exact CR (Ret.int 6 rfl rfl (by rw[if_neg yd]) Imp.nil.ent ⟨rfl,rfl⟩)
 have hil:i<l.length:=by omega
 have hx:l[i]?=some l[i]:=GE hil
 generalize l[i]=s at hx
 have htk:l.take (i+1)=l.take i ++ [s]:=by rw[List.take_add_one,hx];rfl
 have ok2:=pac_take hF l (i+1) hil yd
 have hrun:PacM.run F (l.take (i+1))=(PacM.run F (l.take i)).do_ s:=by rw[htk,pac_snoc]
 have hg0:=hgood i
 have hb0:i=n0→∃y∈(PacM.run F (l.take (i+1))).due,W<((i+1:Nat):Int)-y.2:=fun e=>by subst e;exact hbad hil
 rw[hrun] at ok2 hg0 hb0
 obtain⟨sb,so,rfl,ra,rc⟩:=RwIn.rd (X:=⟨Tryz.prog,tab,tabOk,49,Fr,w⟩) hr hx
 refine xjp ?_
 refine VG (VI (light_idx i rfl rfl rfl rfl rfl rfl hil) ?_)
 refine xdk ?_
 refine VG (VO.alloc rfl fun kb=>?_)
 refine xjp ?_
 refine VG (VT (vs:=s.cells) (cs':=s.cells) 0 rfl rfl rfl rfl (NR _) rfl rfl rfl ?_)
 refine xjp ?_
 refine xno ?_
 refine VG (VQ 1 rfl (fun Fr w hF' hs hS=>pstep_spec Fr w ok yd s) rfl (ψ:=fun v H=>v=.tuple #[]∧H=pacH p ((PacM.run F (l.take i)).do_ s)) yy ?_)
 rintro _ _ ⟨rfl,rfl⟩
 have hnx:∀Q:PacM,PacM.run F (l.take (i+1))=Q→pacH p (PacM.run F (l.take (i+1)))=pacH p Q:=fun Q e=>by rw[e]
 have hnx:=hnx _ hrun
 generalize (PacM.run F (l.take i)).do_ s=R at ok2 hg0 hb0 hnx hrun
 refine xjp ?_
 refine VG (VO.callP (fun Fr w hF' hw hS=>pfirst_spec Fr w ok2 yd (hS.at_ 1 rfl)) rfl ?_)
 rintro _ ⟨y,hy,hmin,rfl⟩
 have hs0:=ok2.s0 y hy
 have hdn:=ok2.done
 refine xjp ?_
 refine VG (VO.alloc rfl fun fb=>?_)
 refine xof ?_
 refine xjp ?_
 refine VG (VO.opn 2 rfl (HOpn.pac p R) ?_)
 rintro z fit
 refine xdf ?_
 refine zqb ?_
 refine CP (p:=W<(R.done:Int)-y.2) rfl (fun hw2=>?_) (fun hw2=>CK ?_)
 ·refine xjp ?_
  have e:i=n0:=by
   by_cases e:i<n0
   ·have:=hg0 e y hy
    rw[hdn] at hw2
    omega
   ·omega
  exact CR (Ret.int 6 rfl rfl (by rw[if_pos yd,e]) Imp.nil.ent ⟨rfl,rfl⟩)
 have e:i<n0:=by
  by_cases e:i=n0
  ·obtain⟨x,hx2,hw3⟩:=hb0 e
   have:=hmin x hx2
   rw[hdn] at hw2
   omega
  ·omega
 refine zom ?_
 exact⟨i+1,⟨hil,e⟩,by dsimp only;omega,SC rfl (SC rfl (SC rfl (SC rfl (Sub.int rfl yd (SN _))))),by dsimp only;rw[hnx];exact(Imp.pac z fit (pkZ [0,0,0,0])).ent⟩
end Cl
namespace Cl
open Go Vg T Api Ch Rep Conf Lg Rd Sched
attribute [local irreducible] VO VC VA
def leftM(F:ConfM)(l:List StpM)(m:List StpM)(i:Nat)(T:Int):Nat:=(l.length-i)*(dueMost F+1)+(Pc.upto (PacM.run F m).due (T-1)).length
theorem upto_few{F:ConfM}(hF:F=fitM F){R:PacM}{i:Nat}(h:PacOk F R i)(t:Int):(Pc.upto R.due t).length≤dueMost F:=Nat.le_trans (Pc.upto_len _ _) (due_few hF h)
structure MadS where
 i:Nat
 m:List StpM
 T:Int
 a:Option Addr
 c:Nat
theorem pmake_spec{F:ConfM}(hF:F=fitM F){a:Option Addr}{c:Nat}(ha:AdOk a)(hc:F.qs.length≤c)(hq:IntsIn Fr w a F.qs){la:Option Addr}{lc:Nat}{l:List StpM}(hr:RwIn StpM.cells 8 Fr w la l)(hll:l.length≤30){W:Int}(hW:leastM F≤W)(hW2:W≤10000):
  Tri Tryz.prog 9 [.agg (F.cells a c).toArray,.slice la l.length lc,.int .i64 W] Fr w [] (fun v L=>∃m T a' c',Made F W l m l.length T∧v=.tuple #[.slice a' m.length c',.int .i64 0]∧L=[slH doT 8 a' m.length c' (flat StpM.cells m)]):=by
 obtain⟨hK,hK2⟩:=least_due hF
 rw[hK] at hW
 have hW':2*(dueMost F:Int)+2≤W:=by omega
 refine TF 68 Tryz.func9 rfl ym tabOk rfl rfl ?_
 refine CS (CG (VG (VB (vs:=F.cells a c) rfl fun b3=>?_)))
 refine xjp ?_
 refine xnu ?_
 refine VG (VV (fun Fr w hF' hw hS=>least_spec Fr w hF ha hc (ints_of hq hF' hw)) rfl ?_)
 rw[hK]
 refine xjp ?_
 refine VG (VY 19 false rfl (beq_eq_false_iff_ne.2 yd) ?_)
 refine xjq ?_
 refine CP (p:=W<2+2*(dueMost F:Int)) rfl (fun h=>absurd hW yd) (fun _=>CK ?_)
 refine xjp ?_
 refine CP (p:=(1000:Int)<l.length) rfl (fun h=>absurd hll yd) (fun _=>CK ?_)
 refine xjp ?_
 refine xnu ?_
 refine xoe ?_
 rintro _ _ ⟨p,rfl,rfl⟩
 refine zox ?_
 refine VC.loop (σ:=MadS) (fun s=>[(1,.slice la l.length lc),(2,.int .i64 W),(8,.int .i64 (2+2*(dueMost F:Int))),(9,pV p),(11,.slice s.a s.m.length s.c),(12,.int .i64 (s.i:Int))])
  (fun s=>[slH doT 8 s.a s.m.length s.c (flat StpM.cells s.m),pacH p (PacM.run F s.m)]) (fun s=>Made F W l s.m s.i s.T) (fun s=>leftM F l s.m s.i s.T) ⟨0,[],0,none,0⟩
  (Made.new hF l hW') sbZ (Imp.slNil (IP 0 rfl Imp.nil)).ent ?_
 rintro⟨i,m,T,ma,mc⟩ hM
 dsimp only at hM ⊢
 have hil:=hM.il
 have hml:m.length≤7000:=by
  have h1:=hM.len
  have h2:i*(dueMost F+1)≤30*201:=Nat.mul_le_mul yd yd
  have h3:((i*(dueMost F+1):Nat):Int)=(i:Int)*((dueMost F:Int)+1):=by push_cast;rfl
  omega
 refine xjp ?_
 refine CP (p:=(i:Int)<l.length) rfl (fun h2=>CK ?_) (fun h2=>CX ?_)
 rotate_left
 ·obtain rfl:i=l.length:=by omega
  refine xjp ?_
  exact CR (Ret.tmp2 6 7 rfl rfl rfl (IP 0 rfl Imp.nil).ent ⟨m,T,ma,mc,hM,rfl,rfl⟩)
 have hi2:i<l.length:=by omega
 have ok:=hM.ok
 have hdn:=ok.done
 refine xjp ?_
 refine VG (VO.callP (fun Fr w hF' hw hS=>pfirst_spec Fr w ok yd (hS.at_ 1 rfl)) rfl ?_)
 rintro _ ⟨y,hy,hmin,rfl⟩
 have hs0:=ok.s0 y hy
 refine xjp ?_
 refine VG (VO.alloc rfl fun kb=>?_)
 refine xof ?_
 refine xeg ?_
 refine VC.meet (σ:=StpM×Nat×Int) (fun s=>[(1,.slice la l.length lc),(2,.int .i64 W),(8,.int .i64 (2+2*(dueMost F:Int))),(9,pV p),(11,.slice ma m.length mc),(12,.int .i64 (s.2.1:Int)),(13,pV kb)])
  (fun s=>[pt kb s.1.cells doT,pacH p (PacM.run F m),slH doT 8 ma m.length mc (flat StpM.cells m)]) (fun s=>Made F W l (m ++ [s.1]) s.2.1 s.2.2∧leftM F l (m ++ [s.1]) s.2.1 s.2.2<leftM F l m i T) ?_ ?_
 rotate_left
 ·rintro⟨s,i',T'⟩ ⟨hM',hlt⟩
  dsimp only at hM' hlt ⊢
  refine xjp ?_
  refine xno ?_
  refine VG (VQ 1 rfl (fun Fr w hF' hs hS=>pstep_spec Fr w ok yd s) rfl (ψ:=fun v H=>v=.tuple #[]∧H=pacH p ((PacM.run F m).do_ s)) yy ?_)
  rintro _ _ ⟨rfl,rfl⟩
  refine xjp ?_
  refine xno ?_
  refine VG (VO.buildSlice (n:=1) (pv:=[(0,.agg s.cells.toArray)]) s.cells rfl rfl rfl rfl yo (fill_one rfl rfl rfl) fun nb=>?_)
  refine VG (VO.append (m:=1) (news:=s.cells) 3 rfl rfl rfl rfl rfl rfl rfl (RdRow.pt 0 rfl rfl rfl) rfl (few_bytes (k:=100000) yd yo) yd fun a2 c2 _=>?_)
  refine xjp ?_
  have hlen:(m ++ [s]).length=m.length+1:=by simp
  refine⟨⟨i',m ++ [s],T',a2,c2⟩,hM',hlt,SC rfl (SC rfl (SC rfl (SC rfl (SC ybq sbZ)))),?_⟩
  dsimp only
  rw[hlen,flat_append,pac_snoc]
  exact(pkZ [0,2]).ent
 refine VC.opn 2 rfl (HOpn.pac p (PacM.run F m)) ?_
 rintro z fit
 have hsh:∀s:StpM,Imp (pacL p (PacM.run F m) z ++ [pt kb s.cells doT,slH doT 8 ma m.length mc (flat StpM.cells m)]) [pt kb s.cells doT,pacH p (PacM.run F m),slH doT 8 ma m.length mc (flat StpM.cells m)]:=fun s=>IP 4 rfl (Imp.pac z fit Imp.refl)
 refine xdf ?_
 refine zqb ?_
 refine VG (VI (light_quo ((dueMost F:Int)+1) rfl rfl yd yo yct) ?_)
 refine zqb ?_
 refine CP (p:=((PacM.run F m).done:Int)-y.2<W-((dueMost F:Int)+1)) rfl (fun ho=>?_) (fun ho=>CK ?_)
 ·have hx:l[i]?=some l[i]:=GE hi2
  generalize l[i]=s at hx
  obtain⟨sb,so,rfl,ra,rc⟩:=RwIn.rd (X:=⟨Tryz.prog,tab,tabOk,68,Fr,w⟩) hr hx
  have hM2:=hM.take hF hW' yd (fun x hx=>by have:=hmin x hx;rw[hdn] at ho;omega) hx
  have hlt:leftM F l (m ++ [s]) (i+1) ((m.length:Int)+1)<leftM F l m i T:=by
   have h1:=upto_few hF hM2.ok ((m.length:Int)+1-1)
   have h2:(l.length-i)*(dueMost F+1)=(l.length-(i+1))*(dueMost F+1)+(dueMost F+1):=by
    rw[show l.length-i=(l.length-(i+1))+1 by omega,Nat.succ_mul]
   unfold leftM
   omega
  refine xjp ?_
  refine xdj ?_
  refine xdk ?_
  refine VG (VT (vs:=s.cells) (cs':=s.cells) 4 rfl rfl rfl rfl (NR _) rfl rfl rfl ?_)
  refine zom ?_
  exact⟨(s,i+1,(m.length:Int)+1),⟨hM2,hlt⟩,SC rfl (SC rfl (SC rfl (SC rfl (SC rfl (Sub.int rfl ybb sbZ))))),(hsh s).ent⟩
 rw[hdn] at ho
 obtain⟨hM2,hl2⟩:=hM.serve hF hW' yd hy hmin ho
 have hlt:leftM F l (m ++ [y.1.step]) i T<leftM F l m i T:=by
  unfold leftM
  omega
 exact⟨(y.1.step,i,T),⟨hM2,hlt⟩,sbZ,(hsh y.1.step).ent⟩
end Cl
namespace Cl
open Go Vg T Api Ch Rep Conf Lg Rd Sched
def zC:ConfM:=⟨0,0,0,[],0,0,0,0,0,0,0,0⟩
theorem done_fit:fitM zC=fitM (fitM zC):=by decide +kernel
def greatB(l:List StpM)(most:Int):Bool:=l.any (fun s=>decide (200<s.op.key.size)||decide (200<s.op.value.size))||decide (most<l.length)
theorem StpM.clen(s:StpM):s.cells.length=8:=rfl
attribute [local irreducible] VO VC VA
theorem great_spec{a:Option Addr}{cap:Nat}{l:List StpM}(h:RwIn StpM.cells 8 Fr w a l)(hl:l.length≤9223372036854775807)(most:Int):Tri Tryz.prog 5 [.slice a l.length cap,.int .i64 most] Fr w [] (fun v L=>v=.bool (greatB l most)∧L=[]):=by
 refine TF 34 Tryz.func5 rfl ym tabOk rfl rfl ?_
 refine xjp ?_
 refine VC.loop (σ:=Nat) (fun k=>[(0,.slice a l.length cap),(1,.int .i64 most),(5,.int .i64 (k:Int))]) (fun _=>[]) (fun k=>k≤l.length∧(l.take k).any (fun s=>decide (200<s.op.key.size)||decide (200<s.op.value.size))=false) (fun k=>l.length-k) 0
  ⟨Nat.zero_le _,rfl⟩ sbZ ER ?_
 rintro k ⟨hk,hno⟩
 refine xjp ?_
 refine CP (p:=(k:Int)<l.length) rfl (fun h1=>CK ?_) (fun h1=>CX ?_)
 rotate_left
 ·obtain rfl:k=l.length:=by omega
  rw[List.take_length] at hno
  refine xjp ?_
  exact CR (Ret.bool 4 rfl rfl (by unfold greatB;rw[hno,Bool.false_or]) ER ⟨rfl,rfl⟩)
 have hkl:k<l.length:=by omega
 have hx:l[k]?=some l[k]:=GE hkl
 generalize l[k]=s at hx
 obtain⟨xb,xo,rfl,ra,rc⟩:=RwIn.rd (X:=⟨Tryz.prog,tab,tabOk,34,Fr,w⟩) h hx
 have hnx:(l.take (k+1)).any (fun s=>decide (200<s.op.key.size)||decide (200<s.op.value.size))=(decide (200<s.op.key.size)||decide (200<s.op.value.size)):=by
  rw[List.take_add_one,hx,List.any_append,hno];simp
 have hall:(decide (200<s.op.key.size)||decide (200<s.op.value.size))=true→greatB l most=true:=fun g=>by
  unfold greatB
  rw[List.any_eq_true.2 ⟨s,ME hx,g⟩];rfl
 refine xjp ?_
 refine xnd ?_
 refine xjp ?_
 refine VG (VO.load rfl rfl (rc _ _ 5 (.string s.op.key) rfl rfl) ?_)
 refine xjp ?_
 by_cases k1:200<s.op.key.size
 ·refine VG (VY 20 true rfl (DT yd) ?_)
  refine zoy ?_
  exact CR (Ret.tmp 4 rfl rfl ER ⟨by rw[hall (by simp[k1])],rfl⟩)
 refine VG (VY 20 false rfl (DF yd) ?_)
 refine xjp ?_
 refine xnd ?_
 refine xjp ?_
 refine VG (VO.load rfl rfl (rc _ _ 6 (.string s.op.value) rfl rfl) ?_)
 refine xjp ?_
 refine CP (p:=(200:Int)<s.op.value.size) rfl (fun k2=>?_) (fun k2=>CK ?_)
 ·refine xjp ?_
  exact CR (Ret.tmp 4 rfl rfl ER ⟨by rw[hall ye],rfl⟩)
 refine zom ?_
 exact⟨k+1,⟨by omega,by rw[hnx];simp;omega⟩,by dsimp only;omega,SC rfl (SC rfl (Sub.int rfl yd (SN _))),ER⟩
end Cl
namespace Cl
open Go Vg T Api Ch Rep Conf Lg Rd Sched
attribute [local irreducible] VO VC VA
theorem stoodO:Tryz.prog.stoodInHeld 35=false:=by kernel_rfl
theorem stoodD:Tryz.prog.stoodInHeld doT=false:=by kernel_rfl
theorem guardD:Tryz.prog.eqGuardType Tryz.prog.depth doT=false:=by kernel_rfl
theorem stp_eq(d e:StpM)(w:World):(Op.equal doT (.agg d.cells.toArray) (.agg e.cells.toArray)).run Tryz.prog w=.ok (decide (d=e)) w:=by
 have hi:∀(cs:List Value) (j:Nat) (n:Int),cs[j]?=some (.int .i64 n)→∀w:World,(part 3 cs.toArray j).run Tryz.prog w=.ok (.int .i64 n) w:=fun cs j n h w=>part1 (TabOk.look tabOk (t:=3) (ti:=T.t3) rfl) rfl h w
 have hs:∀(cs:List Value) (j:Nat) (s:ByteArray),cs[j]?=some (.string s)→∀w:World,(part 9 cs.toArray j).run Tryz.prog w=.ok (.string s) w:=fun cs j n h w=>part1 (TabOk.look tabOk (t:=9) (ti:=T.t9) rfl) rfl h w
 have ho:∀(x:StpM) (w:World),(part 35 x.cells.toArray 4).run Tryz.prog w=.ok (.agg x.op.cells.toArray) w:=fun x w=>partA (TabOk.look tabOk (t:=35) (ti:=T.t35) rfl) rfl rfl w
 have hop:=EqT.st Tryz.underlying35 stoodO (EqFs.cons yo (hi d.op.cells _ _ rfl) (hi e.op.cells _ _ rfl) (EqT.int Tryz.underlying3 d.op.kind e.op.kind) (EqFs.cons yo (hs _ _ _ rfl) (hs _ _ _ rfl) (EqT.str Tryz.underlying9 d.op.key e.op.key) (EqFs.cons yo (hs _ _ _ rfl) (hs _ _ _ rfl) (EqT.str Tryz.underlying9 d.op.value e.op.value) (EqFs.cons yo (hi _ _ _ rfl) (hi _ _ _ rfl) (EqT.int Tryz.underlying3 d.op.version e.op.version) EqFs.nil))))
 refine EqT.run (EqT.eq (EqT.st Tryz.underlying37 stoodD (EqFs.cons yo (hi d.cells _ _ rfl) (hi e.cells _ _ rfl) (EqT.int Tryz.underlying3 d.kind e.kind) (EqFs.cons yo (hi _ _ _ rfl) (hi _ _ _ rfl) (EqT.int Tryz.underlying3 d.a e.a) (EqFs.cons yo (hi _ _ _ rfl) (hi _ _ _ rfl) (EqT.int Tryz.underlying3 d.b e.b) (EqFs.cons yo (hi _ _ _ rfl) (hi _ _ _ rfl) (EqT.int Tryz.underlying3 d.c e.c)
  (EqFs.cons yo (ho d) (ho e) hop EqFs.nil)))))) ?_) yo w
 by_cases h:d=e
 ·subst h;simp
 ·rw[DF h]
  apply Bool.eq_false_iff.2
  intro g
  simp only[Bool.and_eq_true,decide_eq_true_eq,and_true] at g
  obtain⟨g1,g2,g3,g4,g5,g6,g7,g8⟩:=g
  obtain⟨_,_,_,_,⟨_,_,_,_⟩⟩:=d
  obtain⟨_,_,_,_,⟨_,_,_,_⟩⟩:=e
  dsimp only at g1 g2 g3 g4 g5 g6 g7 g8
  exact h (by rw[g1,g2,g3,g4,g5,g6,g7,g8])
def tk4:List StpM:=[stS 3 0 0,stS 3 0 0,stS 3 0 0,stS 3 0 0]
theorem tk4_bad:((.stp 0,0):KeyD×Int)∈(PacM.run (fitM zC) tk4).due:=by decide +kernel
theorem tk4_low{l:List StpM}(hl:l.length≤50000){i:Nat}(hi:i+1≤l.length){y:KeyD×Int}(hy:y∈(PacM.run (fitM zC) (l.take (i+1))).due):0≤y.2:=((pac_take done_fit l (i+1) hi yd).s0 y hy).1
theorem least_z:leastM (fitM zC)=20:=by decide +kernel
theorem paced_spec:Tri Tryz.prog 6 [] Fr w [] (fun v L=>v=.bool true∧L=[]):=by
 refine TF 30 Tryz.func6 rfl ym tabOk rfl rfl ?_
 refine xjp ?_
 refine VG (VI (LB (pv:=[]) (zC.cells none 0) rfl rfl rfl rfl rfl) ?_)
 refine VG (VK (Lc:=[]) (fun Fr w _ _ _=>rfit_spec Fr w zC none 0 ⟨fun h=>absurd rfl h⟩) rfl rfl ?_)
 rintro _ _ ⟨a,cap,ha,hcap,rfl,rfl⟩
 refine VG (VO.alloc rfl fun b1=>?_)
 refine VG (VT (vs:=(fitM zC).cells a cap) (cs':=(fitM zC).cells a cap) 0 rfl rfl rfl rfl (NR _) rfl rfl rfl ?_)
 refine xjp ?_
 refine xoc ?_
 refine xoc ?_
 refine xoc ?_
 refine xoc ?_
 refine VG (VO.buildSlice (n:=4) (pv:=[(0,.agg (stS 3 0 0).cells.toArray),(1,.agg (stS 3 0 0).cells.toArray),(2,.agg (stS 3 0 0).cells.toArray),(3,.agg (stS 3 0 0).cells.toArray)]) (flat StpM.cells tk4) rfl rfl rfl rfl yo ym fun sb=>?_)
 refine xjp ?_
 have hrw:∀{Fr:Nat→Prop} {w:World},Blk Fr w sb (flat StpM.cells tk4)→RwIn StpM.cells 8 Fr w (some ⟨sb,0,none⟩) tk4:=fun h=>RwIn.blk h fun i x hx=>by
  have:=flat_row StpM.clen hx []
  rw[List.append_nil] at this
  rw[Nat.zero_add];exact this
 refine xog ?_
 refine xjp ?_
 refine VG (VV (fun Fr w hF hw hS=>by
  have:=pcheck_spec Fr w done_fit hcap (ints_sl (hS.at_ 2 rfl)) (lc:=4) (hrw (hS.blk 0 rfl)) yo (W:=3) yo (n0:=3) yo (fun i hi y hy=>by have:=tk4_low (l:=tk4) yo (by show i+1≤4;omega) hy;omega) (fun _=>⟨_,tk4_bad,by decide⟩)
  rw[if_pos yo] at this
  exact this) rfl ?_)
 refine xjp ?_
 refine xdo ?_
 refine xjq ?_
 refine xog ?_
 refine xjq ?_
 refine VG (VV (fun Fr w hF hw hS=>by
  have:=pcheck_spec Fr w done_fit hcap (ints_sl (hS.at_ 2 rfl)) (lc:=4) (hrw (hS.blk 0 rfl)) yo (W:=4) yo (n0:=4) (NR 4) (fun i hi y hy=>by have:=tk4_low (l:=tk4) yo (by show i+1≤4;omega) hy;omega) (fun h=>absurd h yo)
  rw[if_neg yo] at this
  exact this) rfl ?_)
 refine xjq ?_
 refine VG (VY 20 true rfl rfl ?_)
 refine xjq ?_
 refine xog ?_
 refine VG (VV (fun Fr w hF hw hS=>by
  have:=pcheck_spec Fr w done_fit hcap (ints_sl (hS.at_ 2 rfl)) (la:=none) (lc:=0) (l:=[]) RwIn.nil yo (W:=1) yo (n0:=0) (NR 0) (fun i hi=>absurd hi (Nat.not_lt_zero i)) (fun h=>absurd h yo)
  rw[if_neg yo] at this
  exact this) rfl ?_)
 refine xjq ?_
 refine VG (VY 25 true rfl rfl ?_)
 refine xjq ?_
 refine xog ?_
 refine VG (VV (fun Fr w hF hw hS=>by
  have:=least_spec Fr w done_fit ha hcap (ints_sl (hS.at_ 2 rfl))
  rw[least_z] at this
  exact this) rfl ?_)
 refine xjq ?_
 exact CR (Ret.tmp 0 rfl rfl Imp.nil.ent ⟨rfl,rfl⟩)
end Cl
namespace Cl
open Go Vg T Api Ch Rep Conf Lg Rd Sched
attribute [local irreducible] VO VC VA
theorem found_le{l:List StpM}:∀(m:List StpM) {k:Nat},k≤l.length→m.foldl (found l) k≤l.length
 | [],_,h=>h
 | s::m,k,h=>by
  rw[List.foldl_cons]
  refine found_le m ?_
  unfold found
  split
  ·rename_i h1
   exact(List.getElem?_eq_some_iff.1 h1).1
  ·exact h
theorem pacefair_spec(c:ConfM)(ca:Option Addr)(cc:Nat)(hq:IntsIn Fr w ca c.qs)(hcc:c.qs.length≤cc){la:Option Addr}{lc:Nat}{l:List StpM}(hr:RwIn StpM.cells 8 Fr w la l)(hll:l.length≤9223372036854775807)(n:Int)(hn0:0≤n)(hn1:n≤255):
  Tri Tryz.prog 3 [.agg (c.cells ca cc).toArray,.slice la l.length lc,.int .u8 n] Fr w [] (fun v L=>v=.bool true∧L=[]):=by
 have fin:∀{L:List HP},Ent ⟨Tryz.prog,tab,tabOk,98,Fr,w⟩ L []:=Imp.nil.ent
 refine TF 98 Tryz.func3 rfl ym tabOk rfl rfl ?_
 refine CS (CG (VG (VB (vs:=c.cells ca cc) rfl fun b3=>?_)))
 refine xdf ?_
 by_cases h20:(20:Int)<c.qs.length
 ·refine VG (VY 16 true rfl (DT h20) ?_)
  refine zoy ?_
  refine xoh ?_
  refine xjp ?_
  exact xoi
 refine VG (VY 16 false rfl (DF h20) ?_)
 refine xjp ?_
 refine VG (VV (fun Fr w hF hw hS=>great_spec Fr w (hr.of hF hw) hll 30) rfl ?_)
 refine xjp ?_
 refine CC rfl (fun hg=>?_) (fun hg=>CK ?_)
 ·refine xjp ?_
  refine xoh ?_
  refine xjp ?_
  exact xoi
 have hl30:l.length≤30:=by
  unfold greatB at hg
  simp only[Bool.or_eq_false_iff,decide_eq_false_iff_not] at hg
  omega
 refine xjp ?_
 refine VG (VL 0 (c.cells ca cc) rfl rfl rfl rfl ?_)
 refine VG (VK (Lc:=[]) (fun Fr w hF hw hS=>small_spec Fr w c ca cc (ints_of hq hF hw)) rfl rfl ?_)
 rintro _ _ ⟨fa,fc,hfa,hfc,rfl,rfl⟩
 have hF:=small_fit (Adm.fit_idem c)
 generalize smallM (fitM c)=F at hF hfc
 obtain⟨hK,hK2⟩:=least_due hF
 refine VG (VT (vs:=F.cells fa fc) (cs':=F.cells fa fc) 1 rfl rfl rfl rfl (NR _) rfl rfl rfl ?_)
 refine xjp ?_
 refine VG (VL 1 (F.cells fa fc) rfl rfl rfl rfl ?_)
 refine VG (VV (fun Fr w hF' hw hS=>least_spec Fr w hF hfa hfc (ints_sl (hS.at_ 0 rfl))) rfl ?_)
 rw[hK]
 refine xjp ?_
 refine VG (VL 1 (F.cells fa fc) rfl rfl rfl rfl ?_)
 refine xjp ?_
 obtain⟨W,hW⟩:∃W,W=2+2*(dueMost F:Int)+n % 40:=⟨_,rfl⟩
 have hr0:=Int.emod_nonneg n (show(40:Int)≠0 by decide)
 have hr1:=Int.emod_lt_of_pos n (show(0:Int)<40 by decide)
 refine VG (VI (light_conv n rfl rfl rfl rfl rfl (i64_in _ yd yd)) ?_)
 refine VG (VI (light_rem rfl rfl hn0 yo) ?_)
 refine xdl ?_
 rw[←hW]
 refine VG (VK (Lc:=[]) (fun Fr w hF' hw hS=>pmake_spec Fr w hF hfa hfc (ints_sl (hS.at_ 0 rfl)) (hr.of hF' hw) hl30 (W:=W) (by rw[hK];omega) yd) rfl rfl ?_)
 rintro _ _ ⟨m,T,ma,mc,hM,rfl,rfl⟩
 have hMl:(m.length:Int)≤(l.length:Int)*((dueMost F:Int)+1)+dueMost F:=hM.len
 have hlm:l.length≤m.length:=by
  have:=hM.sub.length_le
  rwa[List.take_length] at this
 have hml:m.length≤7000:=by
  have h2:l.length*(dueMost F+1)≤30*201:=Nat.mul_le_mul hl30 yd
  have h3:((l.length*(dueMost F+1):Nat):Int)=(l.length:Int)*((dueMost F:Int)+1):=by push_cast;rfl
  omega
 refine xjp ?_
 refine VG (VY 38 false rfl rfl ?_)
 refine xjq ?_
 refine VG (VL 2 (F.cells fa fc) rfl rfl rfl rfl ?_)
 refine xjq ?_
 refine VG (VI (light_conv n rfl rfl rfl rfl rfl (i64_in _ yd yd)) ?_)
 refine VG (VI (light_rem rfl rfl hn0 yo) ?_)
 refine xdl ?_
 rw[←hW]
 refine VG (VV (fun Fr w hF' hw hS=>by
  have:=pcheck_spec Fr w hF hfc (ints_sl (hS.at_ 1 rfl)) (lc:=mc) (RwIn.slH StpM.clen (hS.at_ 0 rfl)) yd (W:=W) yd (n0:=m.length) (NR _) (fun i hi y hy=>(hM.all (i+1) hi).age hy) (fun h=>absurd h (Nat.lt_irrefl _))
  rw[if_neg (Nat.lt_irrefl _)] at this
  exact this) rfl ?_)
 refine xjq ?_
 refine VG (VY 49 false rfl rfl ?_)
 refine xjq ?_
 refine VG (VY 56 false rfl (DF yd) ?_)
 have hmu:((l.length:Int)+1)*((dueMost F:Int)+1+1)=(l.length:Int)*((dueMost F:Int)+1)+l.length+((dueMost F:Int)+1+1):=by
  rw[Int.add_mul,Int.one_mul,Int.mul_add _ _ 1,Int.mul_one]
 have hm2:(l.length:Int)*((dueMost F:Int)+1)≤30*201:=by
  have h2:l.length*(dueMost F+1)≤30*201:=Nat.mul_le_mul hl30 yd
  have h3:((l.length*(dueMost F+1):Nat):Int)=(l.length:Int)*((dueMost F:Int)+1):=by push_cast;rfl
  omega
 refine xjq ?_
 refine xdl ?_
 refine xjq ?_
 refine VG (VI (light_quo ((dueMost F:Int)+1) rfl rfl yd yo yct) ?_)
 refine xdl ?_
 refine xnv ?_
 refine xjq ?_
 refine CP (p:=((l.length:Int)+1)*((dueMost F:Int)+1+1)<m.length) rfl (fun h=>absurd h yd) (fun _=>CK ?_)
 refine CN (L':=[slH doT 8 ma m.length mc (flat StpM.cells m)]) (IP 0 rfl Imp.nil).ent ?_
 refine VC.opn 0 rfl (HOpn.rl doT ma mc m StpM.clen) ?_
 rintro⟨xa,xc,xb,xcs,xs⟩ ⟨rok,rv,rx⟩
 dsimp only at rx
 have hxs:m=xs:=rx.symm
 injection rv with e1 e2 e3
 subst e1 e3
 subst hxs
 refine xjp ?_
 refine VC.loop (σ:=Nat) (fun i=>[(1,.slice la l.length lc),(8,.slice xa m.length xc),(10,.int .i64 (((m.take i).foldl (found l) 0:Nat):Int)),(11,.int .i64 (i:Int))]) (fun i=>[RL.h doT ⟨xa,xc,xb,xcs,m⟩]) (fun i=>i≤m.length) (fun i=>m.length-i) 0
  (Nat.zero_le _) sbZ ER ?_
 rintro i hi
 refine xjp ?_
 refine CP (p:=(i:Int)<m.length) rfl (fun h2=>CK ?_) (fun h2=>CX ?_)
 rotate_left
 ·obtain rfl:i=m.length:=by omega
  have hall:(m.take m.length).foldl (found l) 0=l.length:=by
   rw[List.take_length]
   refine found_all l m 0 (Nat.zero_le _) ?_
   have:=hM.sub
   rw[List.take_length] at this
   exact this
  rw[hall]
  refine xjp ?_
  refine VG (VY 95 true rfl yf ?_)
  refine xjq ?_
  refine xoh ?_
  refine xjq ?_
  exact xoi
 have hil:i<m.length:=by omega
 have hxk:m[i]?=some m[i]:=GE hil
 generalize m[i]=s at hxk
 have hat:(m.take i).foldl (found l) 0≤l.length:=found_le _ (Nat.zero_le _)
 have hnx:(m.take (i+1)).foldl (found l) 0=found l ((m.take i).foldl (found l) 0) s:=by
  rw[List.take_add_one,hxk]
  show(m.take i ++ [s]).foldl (found l) 0=_
  rw[List.foldl_append];rfl
 generalize (m.take i).foldl (found l) 0=k at hat hnx
 obtain⟨tb,tof,htb,hta,hrd⟩:=RL.Ok.ld (t:=doT) (k:=i) (x:=s) rok hxk (StpM.clen s)
 dsimp only at hta
 subst hta
 refine xjp ?_
 refine CD (ts 0 15 .nil) ym yr ?_
 refine xld ?_
 by_cases hk:k<l.length
 rotate_left
 ·refine AG (AY 78 false rfl (DF yd) ?_)
  refine zqe ?_
  refine zom ?_
  refine⟨i+1,hil,by dsimp only;omega,SC rfl (SC rfl (Sub.int rfl (by rw[hnx];unfold found;rw[List.getElem?_eq_none yd,if_neg (by intro h;cases h)]) (Sub.int rfl yd (SN _)))),ER⟩
 have hlk:l[k]?=some l[k]:=GE hk
 generalize l[k]=x at hlk
 have hfo:found l k s=if x=s then k+1 else k:=by
  unfold found
  rw[hlk]
  by_cases h:x=s
  ·rw[if_pos h,if_pos (by rw[h])]
  ·rw[if_neg h,if_neg (fun g=>h (Option.some.inj g))]
 obtain⟨lb,lo,rfl,ra,rc⟩:=RwIn.rd (X:=⟨Tryz.prog,tab,tabOk,98,Fr,w⟩) hr hlk
 refine AG (AY 78 true rfl (DT yd) ?_)
 refine xld ?_
 refine AG (AI rfl (light_idx i rfl rfl rfl rfl rfl rfl hil) ?_)
 refine AG (yE rfl rfl rfl ((hrd 0 rfl).1 _ rfl rfl) ?_)
 refine xld ?_
 refine AG (AI rfl (light_idx k rfl rfl rfl rfl rfl rfl hk) ?_)
 refine AG (yE rfl rfl rfl (ra _ _ rfl rfl) ?_)
 refine AG (AI rfl (light_eqS guardD rfl rfl (stp_eq s x)) ?_)
 refine xld ?_
 refine CP (p:=s=x) rfl (fun he=>?_) (fun he=>CK ?_)
 ·refine zom ?_
  refine zok ?_
  exact⟨i+1,hil,by dsimp only;omega,SC rfl (SC rfl (Sub.int rfl (by rw[hnx,hfo,if_pos he.symm];omega) (Sub.int rfl yd (SN _)))),ER⟩
 refine zom ?_
 exact⟨i+1,hil,by dsimp only;omega,SC rfl (SC rfl (Sub.int rfl (by rw[hnx,hfo,if_neg fun g=>he g.symm]) (Sub.int rfl yd (SN _)))),ER⟩
end Cl
namespace Vg
open Go Go.ChangeShapes Go.WideShapes Go.ChangeAt Go.RowKit
theorem trodAll_below{H:Type}{enc:TypeId×Value→H}{P:Program}(hl:laidOutB P=true){W W':World}(hb:Below W.heap.size W W'):
  ∀{ts:List TypeId} {vs:List Value} {ds:List (DataW H)} {ps:List MemPlace},(∀t∈ts,P.readableRec t=true∧t<P.types.size) →
   DataW.TrodAll enc P W 0 (fun _=>true) true ts vs ds ps→DataW.TrodAll enc P W' 0 (fun b=>decide (b<W.heap.size)) true ts vs ds ps
 | [],vs,ds,ps,_,h=>by
  obtain⟨rfl,rfl,rfl⟩:=trodAll_nil h
  exact trodAll_mk0
 | t::ts,vs,ds,ps,ht,h=>by
  obtain⟨v,vs',d,ds',p,q,rfl,rfl,rfl,h0,r0⟩:=trodAll_cons h
  have lt0:∀x∈p,x.block<W.heap.size:=by obtain⟨m,hm⟩:=h0;exact DataW.trod_lt m _ _ _ hm
  have h1:=ht t yf
  exact trodAll_cons_mk (Below.trod hl h1.1 h1.2 h0 hb lt0) (trodAll_below hl hb (fun t h=>ht t ya) r0)
theorem trodAll_length{H:Type}{enc:TypeId×Value→H}{P:Program}{W:World}{b:Nat}{sp:Nat→Bool}{hd:Bool}:
  ∀{ts:List TypeId} {vs:List Value} {ds:List (DataW H)} {ps:List MemPlace},DataW.TrodAll enc P W b sp hd ts vs ds ps→ds.length=ts.length
 | [],vs,ds,ps,h=>by
  obtain⟨rfl,rfl,rfl⟩:=trodAll_nil h
  rfl
 | t::ts,vs,ds,ps,h=>by
  obtain⟨v,vs',d,ds',p,q,rfl,rfl,rfl,h0,r0⟩:=trodAll_cons h
  simp[trodAll_length r0]
theorem law_post{H:Type}{enc:TypeId×Value→H}{P:Program}{f:Func}{s:ChangeSpec}(hl:laidOutB P=true)(hts:∀t∈f.params.toList,P.readableRec t=true∧t<P.types.size)
  (hv:s.vars=[]) {tb:TypeId} (hres:f.resultTypes=#[tb]) (hbool:P.underlying tb=some .bool)
  (hfn:∀ds:List (DataW H),ds.length=f.params.toList.length→s.fn H (ds ++ [])={ results:=[.lit (.bool true)],args:=ds })
  {W W':World} {args:Array Value} {ds gs:List (DataW H)} {before:List MemPlace} (hW:DataW.Whole enc P f.params.toList s.vars false W args.toList ds gs before) (bel:Below W.heap.size W W'):
  s.post enc P f false true false false W args (.bool true) W':=by
 have hW':=hW
 obtain⟨p,q,hA,hV,rfl,_,_⟩:=hW
 rw[hv] at hV
 obtain⟨rfl,rfl⟩:=trodVars_none hV
 have e:=hfn ds (trodAll_length hA)
 refine⟨ds,[],p ++ [],[],p,[],hW',?_,?_,?_,bel.frame _,fun h=>by cases h⟩
 ·rw[e,hres];exact trodAll_mk1 (shut_bool hbool _)
 ·rw[e];exact trodAll_below hl bel hts hA
 ·rw[e,hv];rfl
theorem law_returns{H:Type}{enc:TypeId×Value→H}{C:Checked}{os:Os}{f:FuncId}{fn:Func}{s:ChangeSpec}{conds:List PathCond}
  (own:ownKnob C.prog.godebug=none) (started:os.Started) (noInit:C.prog.inits.idxOf? f=none) (hfn:C.prog.funcs[f]?=some fn)
  (witness:∃(w:World) (tape:Tape) (i:Input),w.os=os∧(w.forCall tape i).Shaped C.prog∧i.vars=[]∧Input.okWide C.prog (w.forCall tape i) .any w.heap.size f i ∧
   s.pre6 enc C.prog fn conds false (w.forCall tape i).memory i.args∧({}:Assume).holds C.prog (lone (Frame.enter C.prog f i.args .normal) [] (w.forCall tape i)))
  (hl:laidOutB C.prog=true) (hts:∀t∈fn.params.toList,C.prog.readableRec t=true∧t<C.prog.types.size)
  (hv:s.vars=[]) {tb:TypeId} (hres:fn.resultTypes=#[tb]) (hbool:C.prog.underlying tb=some .bool)
  (hs:∀ds:List (DataW H),ds.length=fn.params.toList.length→s.fn H (ds ++ [])={ results:=[.lit (.bool true)],args:=ds })
  (walk:∀(W:World) (base:Nat) (args:Array Value) (ds:List (DataW H)) (ps:List MemPlace),
   (∀(j:Nat) t v,fn.params[j]?=some t→args[j]?=some v→Value.okWide C.prog W .any base t v) →
   DataW.TrodAll enc C.prog W 0 (fun _=>true) true fn.params.toList args.toList ds ps→W.noneFrozen ps →
   (DataW.weightsEach C.prog fn.params.toList ds).all (·≤reachBytes)=true →
   Tri C.prog f args.toList (fun b=>b<W.heap.size) W [] (fun v _=>v=.bool true)):
  ReturnsInHanded {} C os f .any (s.pre6 enc C.prog fn conds false) (s.post enc C.prog fn false true false false):=by
 refine returnsInHanded_of_change_sized own started noInit hfn witness fun W base args ds gs before hval hW _ hwt _=>?_
 have hW2:=hW
 obtain⟨p,q,hA,hV,rfl,hfz,_⟩:=hW2
 rw[hv] at hV
 obtain⟨rfl,rfl⟩:=trodVars_none hV
 have hvt:s.plain.varTypes C.prog=[]:=by simp[ChangeSpec.plain,hv,DataSpec.varTypes]
 rw[hvt] at hwt
 simp only[List.append_nil] at hwt hfz
 have T:=walk W base args ds p hval hA hfz hwt
 have:=T.calls (fun _ h=>h) Sat.nil
 simp only[Array.toArray_toList] at this
 exact Calls.mono this fun e W' ⟨v,L',he,h1,_,hk⟩=>⟨v,he,by subst h1;exact law_post hl hts hv hres hbool hs hW hk.below⟩
end Vg
namespace Vg
open Go Go.ChangeShapes Go.WideShapes Go.ChangeAt Go.RowKit
section
variable {H:Type} (enc:TypeId×Value→H) (P:Program) (w:World) (base:Nat) (spare:Nat→Bool) (held:Bool)
def Leaf(t:TypeId)(v:Value):Prop:=∃fuel x,DataW.trod enc P w base spare held fuel t [v]=some x
def flatFs(rec:TypeId→Option (List TypeId)):List Field→Nat→Option (List TypeId)
 | [],_=>some []
 | f::fs,off=>if f.offset=off then match rec f.type with
   | some l=>if P.cellsOf f.type=l.length then (flatFs rec fs (off+l.length)).map (l ++ ·) else none
   | none=>none
  else none
def flatT:Nat→TypeId→Option (List TypeId)
 | 0,_=>none
 | n+1,t=>match P.underlying t with
  | some (.struct fs)=>match flatFs P (flatT n) fs.toList 0 with
   | some l=>if P.cellsOf t=l.length then some l else none
   | none=>none
  | some (.int _)=>some [t]
  | some .bool=>some [t]
  | some .string=>some [t]
  | some (.slice _)=>some [t]
  | some (.pointer _)=>some [t]
  | _=>none
end
section
variable {H:Type} {enc:TypeId×Value→H} {P:Program} {w:World} {base:Nat} {spare:Nat→Bool} {held:Bool}
theorem Leaf.int{t:TypeId}{v:Value}{k:IntKind}(h:Leaf enc P w base spare held t v)(ht:P.underlying t=some (.int k)):∃n,v=.int k n∧(Lit.int k n).wf=true:=by
 obtain⟨fuel,x,h⟩:=h
 obtain⟨n,e,_,hw⟩:=DataW.trod_int ht h
 exact⟨n,(List.cons.inj e).1,hw⟩
theorem Leaf.str{t:TypeId}{v:Value}(h:Leaf enc P w base spare held t v)(ht:P.underlying t=some .string):∃s,v=.string s∧s.size≤maxLen:=by
 obtain⟨fuel,x,h⟩:=h
 obtain⟨n,e,_,hs⟩:=DataW.trod_string ht h
 exact⟨n,(List.cons.inj e).1,hs⟩
theorem flatFs_ok{rec:TypeId→Option (List TypeId)}{cs:List Value}{n:Nat}
  (hrec:∀(t:TypeId) (ls:List TypeId),rec t=some ls→∀(cs:List Value) x,DataW.trod enc P w base spare held n t cs=some x→cs.length=ls.length∧∀(i:Nat) (v:Value) (u:TypeId),cs[i]?=some v→ls[i]?=some u→Leaf enc P w base spare held u v):
  ∀(fs:List Field) (off:Nat) (ls:List TypeId),flatFs P rec fs off=some ls→(∀f∈fs,∃y,DataW.trod enc P w base spare held n f.type ((cs.drop f.offset).take (P.cellsOf f.type))=some y) →
   ∀(i:Nat) (v:Value) (u:TypeId),cs[off+i]?=some v→ls[i]?=some u→Leaf enc P w base spare held u v
 | [],off,ls,h,_,i,v,u,_,hu=>by
  obtain rfl:ls=[]:=by simpa[flatFs] using h.symm
  simp at hu
 | f::fs,off,ls,h,hf,i,v,u,hv,hu=>by
  simp only[flatFs] at h
  split at h
  ·rename_i hoff
   split at h
   ·rename_i l hl
    split at h
    ·rename_i hc
     cases hr:flatFs P rec fs (off+l.length) with
     | none=>rw[hr] at h;cases h
     | some ls'=>
      rw[hr] at h
      obtain rfl:l++ls'=ls:=by simpa using h
      obtain⟨y,hy⟩:=hf f yf
      obtain⟨h1,h2⟩:=hrec f.type l hl _ y hy
      by_cases hi:i<l.length
      ·refine h2 i v u ?_ (by rwa[List.getElem?_append_left hi] at hu)
       rw[List.getElem?_take,if_pos yd,List.getElem?_drop,hoff];exact hv
      ·rw[List.getElem?_append_right yd] at hu
       refine flatFs_ok hrec fs (off+l.length) ls' hr (fun g hg=>hf g (by simp[hg])) (i-l.length) v u ?_ hu
       rw[←hv];congr 1;omega
    ·cases h
   ·cases h
  ·cases h
theorem flatT_ok:∀(n:Nat) (t:TypeId) (ls:List TypeId),flatT P n t=some ls→∀(fuel:Nat) (cs:List Value) x,DataW.trod enc P w base spare held fuel t cs=some x →
  cs.length=ls.length∧∀(i:Nat) (v:Value) (u:TypeId),cs[i]?=some v→ls[i]?=some u→Leaf enc P w base spare held u v
 | 0,t,ls,h,_,_,_,_=>by simp[flatT] at h
 | n+1,t,ls,h,fuel,cs,x,hx=>by
  have one:∀v,cs=[v]→ls=[t]→cs.length=ls.length∧∀(i:Nat) (v:Value) (u:TypeId),cs[i]?=some v→ls[i]?=some u→Leaf enc P w base spare held u v:=by
   intro v h1 h2
   subst h1;subst h2
   refine⟨rfl,fun i v' u hv hu=>?_⟩
   match i,hv,hu with
   | 0,hv,hu=>
    obtain rfl:=Option.some.inj hv
    obtain rfl:=Option.some.inj hu
    exact⟨fuel,x,hx⟩
   | i+1,hv,_=>cases hv
  simp only[flatT] at h
  split at h
  ·rename_i fs ht
   cases hr:flatFs P (flatT P n) fs.toList 0 with
   | none=>rw[hr] at h;cases h
   | some l=>
    rw[hr] at h
    dsimp only at h
    split at h
    ·rename_i hc
     obtain rfl:=Option.some.inj h
     obtain⟨xs,m,_,_,hl,hlen,hfs⟩:=DataW.trod_struct ht hx
     refine⟨hl.trans hc,fun i v u hv hu=>?_⟩
     refine flatFs_ok (n:=m) (cs:=cs) (fun t ls h1 cs x h2=>flatT_ok n t ls h1 m cs x h2) fs.toList 0 l hr (fun f hf=>?_) i v u (by rwa[Nat.zero_add]) hu
     obtain⟨j,hj⟩:=List.getElem?_of_mem hf
     have hj':fs[j]?=some f:=by simpa using hj
     have hjl:j<xs.length:=by
      have:=(Array.getElem?_eq_some_iff.1 hj').1
      omega
     exact⟨xs[j],by rw[hfs j f hj',GE hjl]⟩
    ·cases h
  ·rename_i k ht
   obtain⟨a,e,_⟩:=DataW.trod_int ht hx
   exact xoj
  ·rename_i ht
   obtain⟨a,e,_⟩:=DataW.trod_bool ht hx
   exact xoj
  ·rename_i ht
   obtain⟨a,e,_⟩:=DataW.trod_string ht hx
   exact xoj
  ·rename_i e ht
   rcases DataW.trod_slice ht hx with ⟨e,_⟩ | ⟨_,_,_,_,_,_,_,e,_⟩
   ·exact xoj
   ·exact xoj
  ·rename_i e ht
   rcases DataW.trod_pointer ht hx with ⟨e,_⟩ | ⟨_,_,_,_,_,e,_⟩
   ·exact xoj
   ·exact xoj
  ·cases h
theorem cell_block{w:World}{a:Addr}{v:Value}(h:w.cell? a=some v):a.block<w.heap.size:=by
 unfold World.cell? at h
 cases hb:w.heap[a.block]? with
 | none=>simp[hb] at h
 | some o=>exact(Array.getElem?_eq_some_iff.1 hb).1
theorem open_rows{α:Type}(cells:α→List Value)(φ:α→Prop){t e:TypeId}{n:Nat}{ls:List TypeId}(ht:P.underlying t=some (.slice e))(hf:flatT P n e=some ls)(hce:P.cellsOf e=ls.length)(hpos:0<ls.length)
  (hrow:∀cs,cs.length=ls.length→(∀(i:Nat) (v:Value) (u:TypeId),cs[i]?=some v→ls[i]?=some u→Leaf enc P w base spare held u v)→∃x,cs=cells x∧φ x)
  {fuel:Nat} {v:Value} {x:DataW H×List MemPlace} (h:DataW.trod enc P w base spare held fuel t [v]=some x):
  ∃(a:Option Addr) (tc:Nat) (l:List α),v=.slice a l.length tc∧(l.length≤tc∧l.length≤maxLen)∧(∀x∈l,φ x)∧(l≠[]→∃b off,a=some ⟨b,off,none⟩∧b<w.heap.size∧∀i x,l[i]?=some x→∀j v,(cells x)[j]?=some v→w.cell? ⟨b,off+i*ls.length+j,none⟩=some v):=by
 rcases Go.Deep.open_slice ht h with ⟨e,_⟩ | ⟨a',len,cap,m,n',D,Pl,e,_,hle,hcm,hm,_,hx⟩
 ·exact⟨none,0,[],(List.cons.inj e).1,⟨Nat.zero_le _,Nat.zero_le _⟩,fun x hx=>by simp at hx,fun h=>absurd rfl h⟩
 ·have hlm:len≤m:=by rw[hm];split<;>omega
  rw[hce] at hx
  have key:∀i,i<len→∃y:α,φ y∧(cells y).length=ls.length∧∀j v,(cells y)[j]?=some v→w.cell? ((a'.add (i*ls.length)).add j)=some v:=by
   intro i hi
   obtain⟨cs',h1,h2⟩:=hx i yd
   obtain⟨_,hl,hc⟩:=World.cells?_some h1
   obtain⟨h3,h4⟩:=flatT_ok n _ ls hf _ _ _ h2
   obtain⟨y,rfl,hy⟩:=hrow cs' h3 h4
   refine⟨y,hy,h3,fun j v hv=>?_⟩
   have hj:j<ls.length:=by have:=(List.getElem?_eq_some_iff.1 hv).1;omega
   rw[hc j hj,hv]
  have build:∀k,k≤len→∃l:List α,l.length=k∧∀i x,l[i]?=some x→φ x∧(cells x).length=ls.length∧∀j v,(cells x)[j]?=some v→w.cell? ((a'.add (i*ls.length)).add j)=some v:=by
   intro k
   induction k with
   | zero=>intro _;exact⟨[],rfl,fun i x hx=>by simp at hx⟩
   | succ k ih=>
    intro hk
    obtain⟨l,hl,hall⟩:=ih yd
    obtain⟨y,hy⟩:=key k yd
    refine⟨l ++ [y],by simp[hl],fun i x hx=>?_⟩
    by_cases hi:i<l.length
    ·rw[List.getElem?_append_left hi] at hx;exact hall i x hx
    ·rw[List.getElem?_append_right yd] at hx
     have hi2:i=k:=by
      have:=(List.getElem?_eq_some_iff.1 hx).1
      simp at this;omega
     subst hi2
     rw[hl,Nat.sub_self] at hx
     obtain rfl:=Option.some.inj hx
     exact hy
  obtain⟨l,hl,hall⟩:=build len (NR _)
  subst hl
  refine⟨some a',cap,l,(List.cons.inj e).1,⟨by omega,by omega⟩,fun x hx=>?_,fun hne=>?_⟩
  ·obtain⟨i,hi⟩:=List.getElem?_of_mem hx
   exact(hall i x hi).1
  obtain⟨ab,ao,asp⟩:=a'
  cases l with
  | nil=>exact absurd rfl hne
  | cons y l=>
   obtain⟨_,h5,h6⟩:=hall 0 y rfl
   have h0:=h6 0 _ (GE yd)
   have hsp:asp=none:=by simpa[Addr.add] using World.cell?_spot h0
   subst hsp
   refine⟨ab,ao,rfl,by simpa[Addr.add] using cell_block h0,fun i x hx j v hv=>?_⟩
   have:=(hall i x hx).2.2 j v hv
   rwa[Addr.add_mid,Addr.add_mid] at this
end
end Vg
end Go.Proofs.YtmghpgpfeabghaaGreat
