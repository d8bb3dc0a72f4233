/- Texts of the proof, put together and shortened. No condition. -/
import Derived.Test.YthnlpdacbcjgpaaGreatDoorZf2
set_option maxRecDepth 100000
set_option maxHeartbeats 16000000
set_option linter.unusedVariables false
set_option linter.unusedSectionVars false
set_option linter.unusedSimpArgs false
namespace Go.Proofs.YthnlpdacbcjgpaaGreatDoor
variable (Fr : Nat → Prop) (w : World)
namespace Adm
open Go Vg T Api Sched Conf
attribute [local irreducible] VO VC VA
def Iq(n:Int)(f:aa):Prop:=(0≤f.aj∧f.aj<n)∧mY f.seq=true∧mY f.cn=true
def aD.Calls(A:aD):Prop:=∀q∈A.bN.qs,∀f∈q,Iq A.aB f
def aD.out(A:aD)(f:aa):aD:=(A.fH f.aj 0).lG f.aj f.seq f.cn
def aD.uL(A:aD)(l:List aa):aD:=l.foldl aD.out A
def aD.ct(A:aD)(now:Int):aD:=(A.bE (A.bN.mf now)).uL (A.bN.cy now)
theorem aD.Wf.out{A:aD}(h:A.Wf)(f:aa):(A.out f).Wf:=(h.fH _ _).lG _ _ _
theorem mZ(A:aD)(k s t:Int):(A.lG k s t).aB=A.aB:=by unfold aD.lG;split<;>rfl
theorem Bx(A:aD)(k s t:Int):(A.lG k s t).bN=A.bN:=by unfold aD.lG;split<;>rfl
theorem By(A:aD)(f:aa):(A.out f).aB=A.aB:=by rw[aD.out,mZ];rfl
theorem Ng(A:aD)(f:aa):(A.out f).bN=A.bN:=by rw[aD.out,Bx];rfl
theorem qw:∀(l:List aa) {A:aD},A.Wf→(A.uL l).Wf∧(A.uL l).aB=A.aB∧(A.uL l).bN=A.bN
 | [],A,h=>⟨h,rfl,rfl⟩
 | f::l,A,h=>by
  have:=qw l (h.out f)
  rw[By,Ng] at this
  exact this
theorem Gi(A:aD)(l:List aa)(f:aa):A.uL (l ++ [f])=(A.uL l).out f:=by simp[aD.uL]
theorem Nh(S:aA)(now:Int):(S.mf now).cls.length=S.cls.length:=by simp[aA.mf]
theorem ik{A:aD}(h:A.Wf)(now:Int):(A.ct now).Wf∧(A.ct now).aB=A.aB∧(A.ct now).bN=A.bN.mf now:=
 qw _ (h.bE (Ig h.bN now))
theorem zH{A:aD}(hc:A.Calls)(now:Int):∀f∈A.bN.cy now,Iq A.aB f:=fun f hf=>by
 rw[M_] at hf
 obtain⟨q,hq,hf⟩:=List.mem_flatMap.1 hf
 exact hc q hq f (ZA.1 hf).1
theorem Qb{A:aD}{f:aa}(h:Iq A.aB f):(A.fh f.aj f.seq f.cn)=(0,A.lG f.aj f.seq f.cn):=by
 have h1:A.has f.aj=true:=by simp[aD.has,h.1]
 simp[aD.fh,h1,h.2.1,h.2.2]
theorem Gj{A:aD}(now:Int)(sp:Nat):eu A sp=eu (A.bE (A.bN.mf now)) sp:=by
 simp only[eu,aD.bE,Nh]
def Ir(p:Nat)(A:aD)(gs:List aa)(v:Value)(L:List HP):Prop:=∃r:RL FM,r.Ok cF 29∧r.xs.map Prod.fst=gs∧v=r.v∧L=[r.h 204,bu p A]
theorem ig(p:Nat)(A:aD)(now:Int)(hC:A.Calls):aH Tryz.prog 231 [.pointer (some ⟨p,0,none⟩),.int .i64 now] Fr w [bu p A] (Ir p (A.ct now) (A.bN.cy now)):=by
 refine TF 36 Tryz.func231 Z yn ah Z Z ?_
 refine VC.e7 0 Z (aV.bH p A) fun sp h=>?_
 refine CN (L':=uG p A sp) (ae.of_eq (Zi _)).ar ?_
 have hwf:=h.bE (Ig h.bN now)
 refine Dc ?_
 refine VC.meet (σ:=RL FM) (fun r=>[(0,pV p),(5,r.v)]) (fun r=>[r.h 204,bu p (A.bE (A.bN.mf now))]) (fun r=>r.Ok cF 29∧r.xs.map Prod.fst=A.bN.cy now) ?_ ?_
 ·refine an ?_
  refine VO.ar (L':=[iu sp A.bN,pt p (eu A sp) 186]) (ae.perm (List.Perm.swap _ _ _)).ar ?_
  refine VG (VK (Lc:=[iu sp A.bN]) (fun Fr w _ _ _=>Sched.ig Fr w sp A.bN now) Z Z ?_)
  rintro _ _ ⟨a,c,gs,hgs,rfl,rfl⟩
  refine VO.e7 1 Z (aV.rl _ a c gs mT) fun r ⟨hok,hv,hx⟩=>?_
  refine VG (VN ⟨r,⟨hok,by rw[hx,hgs]⟩,SC Z (SC (by rw[hv];rfl) (SN _)),?_⟩)
  refine(ae.cons (gr sp hwf ?_)).ar
  show ae [iu sp (A.bN.mf now),pt p (eu A sp) 186] _
  rw[Gj now sp]
  exact ae.perm (List.Perm.swap _ _ _)
 rintro r ⟨hok,hgs⟩
 have hgok:=zH hC now
 have hfew:=h.bN.P9 A.bN.cls.length now
 rw[ZF] at hfew
 have hl:r.xs.length≤64:=by
  have:=congrArg List.length hgs
  rw[Zm] at this
  rw[this];exact hfew
 refine an ?_
 refine VC.loop (σ:=Nat) (fun i=>[(0,pV p),(5,r.v),(14,r.v),(15,.int .i64 r.xs.length),(16,.int .i64 i)]) (fun i=>[r.h 204,bu p ((A.bE (A.bN.mf now)).uL ((A.bN.cy now).take i))]) (fun i=>i≤r.xs.length) (fun i=>r.xs.length-i) 0 (Zj _) bd ER ?_
 intro i hi
 refine an ?_
 refine CP Z (fun h1=>CK ?_) (fun h1=>CX ?_)
 ·have hi2:i<r.xs.length:=by omega
  obtain⟨⟨f,m⟩,hx⟩:∃x,r.xs[i]?=some x:=⟨_,GE hi2⟩
  obtain⟨bk,off,hbk,had,hrow⟩:=hok.nth hx
  have hg:(A.bN.cy now)[i]?=some f:=by rw[←hgs,Zn,hx];rfl
  have hf:=hgok f (ME hg)
  have htake:(A.bN.cy now).take (i+1)=(A.bN.cy now).take i ++ [f]:=by rw[Zu,hg];rfl
  obtain⟨hAwf,hAc,hAs⟩:=qw ((A.bN.cy now).take i) hwf
  have hnext:(A.bE (A.bN.mf now)).uL ((A.bN.cy now).take (i+1))=((A.bE (A.bN.mf now)).uL ((A.bN.cy now).take i)).out f:=by rw[htake,Gi]
  generalize hB:(A.bE (A.bN.mf now)).uL ((A.bN.cy now).take i)=B at hAwf hAc hAs ⊢
  have hBc:B.aB=A.aB:=hAc
  obtain⟨n,hcl⟩:=Int.eq_ofNat_of_zero_le hf.1.1
  have hn:n<6:=by have:=hf.1.2;have:=h.c1;omega
  have hv:r.v=.slice (some ⟨bk,off,none⟩) r.xs.length r.cap:=by rw[RL.v,had]
  have hv':some r.v=some (.slice (some ⟨bk,off,none⟩) r.xs.length r.cap):=by rw[hv]
  refine VC.e7 1 Z (aV.bH p B) fun sp2 h2=>?_
  refine CN (L':=pt p (eu B sp2) 186::iu sp2 B.bN::r.h 204 :: []) ER ?_
  rw[RL.Pm hbk]
  refine CS (VC.block ?_)
  refine CS (CG ?_)
  refine VG (VI (a_ i hv' Z Z Z Z Z hi2) ?_)
  refine VG (VO.load Z Z (v:=.agg (cF (f,m)).toArray) (aE.many 2 Z hrow) ?_)
  refine VG (VO.alloc Z fun b7=>VG (VT (vs:=cF (f,m)) (cs':=cF (f,m)) 0 Z Z Z Z (NR _) Z Z Z (VG (VN ?_))))
  refine Ts ?_
  refine eT ?_
  refine TC ?_
  refine AG (VA.st 1 Z Z Z Z Z (by rw[sF h2];show 0+15+n*1<21;omega) (cs':=eu (B.fH n 0) sp2) (DJ h2 hn 0) Z yu (AG (AN ?_)))
  refine CG ?_
  refine VO.ar (L':=[pt b7 (cF (f,m)) 204,bu p (B.fH n 0),pt bk r.cells 204]) (ae.cons (ae.trans (ae.perm (ZM (l₁:=[_,_]) (l₂:=[_]))) (ae.trans (ae.cons (gr sp2 (h2.fH n 0) ae.refl)) (ae.perm (List.Perm.swap _ _ _))))).ar ?_
  refine VG (VO.ld 0 Z Z Z Z (VG (VO.ld 0 Z Z Z Z (VG (VO.ld 0 Z Z Z Z ?_)))))
  refine VG (VQ 1 (ψ:=fun v H=>H=bu p (B.out f)) Z (fun Fr w _ _ _=>ry Fr w p (B.fH n 0) _ _ _) Z (fun v L1 h=>⟨_,h.2,?_⟩) ?_)
  ·have e:B.fH n 0=B.fH f.aj 0:=by rw[hcl]
   have:=Qb (A:=B.fH f.aj 0) (f:=f) (by show Iq B.aB f;rw[hBc];exact hf)
   rw[e]
   show bu p ((B.fH f.aj 0).fh f.aj f.seq f.cn).2=_
   rw[this];rfl
  rintro _ _ rfl
  refine AM ?_
  refine sd ?_
  refine⟨i+1,hi2,by dsimp only;omega,bd,?_⟩
  dsimp only
  rw[hnext,hB]
  exact(ae.trans ae.tl (ae.perm (List.Perm.swap _ _ _))).ar
 ·have hi2:i=r.xs.length:=by omega
  subst hi2
  have e:(A.bN.cy now).take r.xs.length=A.bN.cy now:=by rw[Z3];rw[←hgs];simp
  rw[e]
  refine an ?_
  exact CR (ay.tmp 4 Z Z ER ⟨r,hok,hgs,Z,Z⟩)
def aD.dz(A:aD)(now:Int):aD:=
 if (eM (A.ct now).bN).2.1 then ((A.ct now).bE (eM (A.ct now).bN).2.2).fH (eM (A.ct now).bN).1.aj 0 else (A.ct now).bE (eM (A.ct now).bN).2.2
theorem pw{A:aD}(h:A.Wf)(hC:A.Calls)(now:Int):(A.ct now).Calls:=by
 obtain⟨_,h2,h3⟩:=ik h now
 intro q hq f hf
 rw[h3,Ie] at hq
 obtain⟨q0,hq0,rfl⟩:=Zv.1 hq
 rw[h2]
 exact hC q0 hq0 f (ZA.1 hf).1
theorem wF{A:aD}{S:aA}(hl:S.cls.length=A.bN.cls.length)(sp:Nat):eu A sp=eu (A.bE S) sp:=by
 simp only[eu,aD.bE,hl]
theorem Ni{A:aD}(h:A.Wf)(now:Int):(A.dz now).Wf:=by
 obtain⟨h1,_,_⟩:=ik h now
 unfold aD.dz
 split
 ·exact(h1.bE (zA h1.bN)).fH _ _
 ·exact h1.bE (zA h1.bN)
def ON(p:Nat)(A:aD)(now:Int)(v:Value)(L:List HP):Prop:=∃(r:RL FM) (m:HU),r.Ok cF 29∧r.xs.map Prod.fst=A.bN.cy now∧v=.tuple #[.agg (cF ((eM (A.ct now).bN).1,m)).toArray,.bool (eM (A.ct now).bN).2.1,r.v]∧L=[r.h 204,bu p (A.dz now)]
theorem gz(p:Nat)(A:aD)(now:Int)(hw:A.Wf)(hC:A.Calls):aH Tryz.prog 165 [.pointer (some ⟨p,0,none⟩),.int .i64 now] Fr w [bu p A] (ON p A now):=by
 refine TF 31 Tryz.func165 Z yn ah Z Z ?_
 refine CS (CG (VG (VO.alloc Z fun b=>VG (VN ?_))))
 refine an ?_
 refine VG (VV (u:=.bool false) (fun Fr w hF _ hs=>by
  obtain⟨sp,h⟩:=xr.of (hs.at_ 1 rfl)
  exact bj Fr w h.Ub) Z (VG (VN (VC.jm Z (CK ?_)))))
 refine an ?_
 refine VO.ar (L':=[bu p A,pt b (cF od) 204]) (ae.perm (List.Perm.swap _ _ _)).ar ?_
 refine VG (VK (Lc:=[bu p A]) (fun Fr w _ _ _=>ig Fr w p A now hC) Z Z ?_)
 rintro _ _ ⟨r,hok,hgs,rfl,rfl⟩
 obtain⟨hE,hEc,hEs⟩:=ik hw now
 have hEC:=pw hw hC now
 have hnext:A.dz now=if (eM (A.ct now).bN).2.1 then ((A.ct now).bE (eM (A.ct now).bN).2.2).fH (eM (A.ct now).bN).1.aj 0 else (A.ct now).bE (eM (A.ct now).bN).2.2:=rfl
 have hR:∀(m:HU),ON p A now (.tuple #[.agg (cF ((eM (A.ct now).bN).1,m)).toArray,.bool (eM (A.ct now).bN).2.1,r.v]) [r.h 204,bu p (A.dz now)]:=fun m=>⟨r,m,hok,hgs,rfl,rfl⟩
 rw[hnext] at hR
 clear hnext
 generalize A.ct now=B at hE hEc hEs hEC hR ⊢
 refine AM ?_
 refine VC.e7 1 Z (aV.bH p B) fun sp h=>?_
 refine CN (L':=[pt p (eu B sp) 186,iu sp B.bN,r.h 204,pt b (cF od) 204]) ER ?_
 refine an ?_
 refine VG (VQ 1 (ψ:=fun v H=>(∃m,v=.tuple #[.agg (cF ((eM B.bN).1,m)).toArray,.bool (eM B.bN).2.1])∧H=iu sp (eM B.bN).2.2) Z (fun Fr w _ _ _=>Sched.M7 Fr w sp B.bN h.bN) Z (fun v L1 h=>Qa h) ?_)
 rintro _ _ ⟨⟨m,rfl⟩,rfl⟩
 refine VG (VT (vs:=cF ((eM B.bN).1,m)) (cs':=cF ((eM B.bN).1,m)) 3 Z Z Z Z (NR _) Z Z Z (VG (VN ?_)))
 have hS1:=zA h.bN
 have hwf:=h.bE hS1
 have hcs:=wF (Ip h.bN) sp
 refine an ?_
 refine CC Z (fun h1=>?_) (fun h1=>CK ?_)
 ·obtain⟨k,q,hk,_⟩:=tV h.bN h1
  have hf:Iq B.aB (eM B.bN).1:=hEC _ (ME hk) _ yf
  obtain⟨n,hcl⟩:=Int.eq_ofNat_of_zero_le hf.1.1
  have hn:n<6:=by have:=hf.1.2;have:=h.c1;omega
  rw[if_pos h1,hcl] at hR
  refine TB ?_
  refine tM ?_
  refine TC ?_
  refine AG (VA.st 0 Z Z Z Z Z WT (cs':=eu ((B.bE (eM B.bN).2.2).fH n 0) sp) (by rw[hcs];exact DJ hwf hn 0) Z yu (AG (AN ?_)))
  refine CS (CG ?_)
  refine VG (VL 3 (cF ((eM B.bN).1,m)) Z Z Z Z (VG (VT (vs:=cF ((eM B.bN).1,m)) (cs':=cF ((eM B.bN).1,m)) 3 Z Z Z Z (NR _) Z Z Z (VG (VN ?_)))))
  refine CR (ay.um 4 5 6 Z Z Z (aE.many 3 Z Z) Z Z (L':=[r.h 204,bu p ((B.bE (eM B.bN).2.2).fH n 0)]) ?_ (hR m))
  exact(IP 2 Z (gr sp (hwf.fH n 0) (ae.app (L:=[_,_]) (M:=[_,_]) ae.refl ae.nil))).ar
 ·rw[if_neg Kd] at hR
  refine CS (CG ?_)
  refine VG (VL 3 (cF ((eM B.bN).1,m)) Z Z Z Z (VG (VT (vs:=cF ((eM B.bN).1,m)) (cs':=cF ((eM B.bN).1,m)) 3 Z Z Z Z (NR _) Z Z Z (VG (VN ?_)))))
  refine CR (ay.um 4 5 6 Z Z Z (aE.many 3 Z Z) Z Z (L':=[r.h 204,bu p (B.bE (eM B.bN).2.2)]) ?_ (hR m))
  rw[hcs]
  exact(IP 2 Z (gr sp hwf (ae.app (L:=[_,_]) (M:=[_,_]) ae.refl ae.nil))).ar
theorem qn(p:Nat)(A:aD)(hC:A.Calls):aH Tryz.prog 254 [.pointer (some ⟨p,0,none⟩)] Fr w [bu p A] (Ir p (A.ct 9223372036854775807) (A.bN.cy 9223372036854775807)):=by
 refine TF 7 Tryz.func254 Z yn ah Z Z ?_
 refine an ?_
 refine VG (VV (u:=.bool false) (fun Fr w hF _ hs=>by
  obtain⟨sp,h⟩:=xr.of (hs.at_ 0 rfl)
  exact bj Fr w h.Ub) Z (VG (VN (VC.jm Z (CK ?_)))))
 refine an ?_
 refine VG (VK (Lc:=[bu p A]) (fun Fr w _ _ _=>ig Fr w p A _ hC) Z Z ?_)
 rintro _ _ ⟨r,hok,hgs,rfl,rfl⟩
 refine AM ?_
 exact CR (ay.tmp 2 Z Z ER ⟨r,hok,hgs,Z,Z⟩)
end Adm
namespace Adm
open Go Vg T Api Sched Conf
attribute [local irreducible] VO VC VA
theorem Is{A:aD}(h:A.Wf)(f:aa)(now:Int):(A.eW f now).2.Wf:=by
 unfold aD.eW
 repeat' split
 all_goals first | exact h | exact(h.cM f now).fh _ _ _ | exact h.cM f now
theorem zI(A:aD)(k s t:Int):(A.fh k s t).2.aB=A.aB:=by unfold aD.fh;split;exact mZ _ _ _ _;rfl
theorem It(A:aD)(k s t:Int):(A.fh k s t).2.bN=A.bN:=by unfold aD.fh;split;exact Bx _ _ _ _;rfl
theorem rz(A:aD)(f:aa)(now:Int):(A.cM f now).2.aB=A.aB:=by
 unfold aD.cM
 repeat' split
 all_goals rfl
theorem wG(A:aD)(f:aa)(now:Int):(A.eW f now).2.aB=A.aB:=by
 unfold aD.eW
 repeat' split
 all_goals first | rfl | (rw[zI];exact rz A f now) | exact rz A f now
theorem Iu(A:aD)(f:aa)(now:Int):(A.cM f now).2.bN=A.bN∨(A.cM f now).2.bN=(A.bN.ek f).2:=by
 unfold aD.cM
 repeat' split
 all_goals first | exact .inl rfl | exact .inr rfl
theorem Nj{A:aD}{f:aa}(h:A.may f=true):(∃k:Nat,f.cls=k∧k<A.bN.cls.length)∧aZ f.op=0:=by
 simp only[aD.may,Zx,decide_eq_true_eq,beq_iff_eq] at h
 obtain⟨n,hn⟩:=Int.eq_ofNat_of_zero_le h.1.1.1.1.1.2
 exact⟨⟨n,hn,by have:=h.1.1.1.1.2;omega⟩,h.1.2⟩
theorem DK{n:Int}{S:aA}{f:aa}(hC:∀q∈S.qs,∀g∈q,Iq n g)(hf:Iq n f){k:Nat}(hk:f.cls=k)(hlt:k<S.cls.length)(ho:aZ f.op=0):∀q∈(S.ek f).2.qs,∀g∈q,Iq n g:=by
 have hc:S.qs[k]?=some (S.cls[k].q):=by simp[aA.qs,GE hlt]
 obtain⟨_,h2,_⟩:=M9 hk hc ho
 rw[h2]
 split
 ·intro q hq g hg
  rcases ZT hq with hq | rfl
  ·exact hC q hq g hg
  ·rcases Zq.1 hg with hg | hg
   ·exact hC _ (ME hc) g hg
   ·obtain rfl:=ZC.1 hg;exact hf
 ·exact hC
theorem Bz{A:aD}(hC:A.Calls)(f:aa)(now:Int):(A.eW f now).2.Calls:=by
 intro q hq g hg
 rw[wG]
 have key:A.may f=true→∀q∈(A.cM f now).2.bN.qs,∀g∈q,Iq A.aB g:=fun hm=>by
  obtain⟨⟨k,hk,hlt⟩,ho⟩:=Nj hm
  obtain⟨h1,h2,h3⟩:=uJ hm
  rcases Iu A f now with e | e
  ·rw[e];exact hC
  ·rw[e];exact DK hC ⟨of_decide_eq_true h1,h2,h3⟩ hk hlt ho
 unfold aD.eW at hq
 split at hq
 ·rename_i hm
  split at hq
  ·rw[It] at hq;exact key hm q hq g hg
  ·exact key hm q hq g hg
 ·exact hC q hq g hg
theorem Gk{n:Int}{S:aA}(h:S.Wf)(hC:∀q∈S.qs,∀g∈q,Iq n g):∀q∈(eM S).2.2.qs,∀g∈q,Iq n g:=by
 cases ho:(eM S).2.1 with
 | true=>
  obtain⟨k,q,h1,h2⟩:=tV h ho
  rw[h2]
  intro q' hq' g hg
  rcases ZT hq' with hq' | rfl
  ·exact hC q' hq' g hg
  ·exact hC _ (ME h1) g (ZK _ hg)
 | false=>rw[(Nf h ho).2];exact hC
theorem DL{A:aD}(h:A.Wf)(hC:A.Calls)(now:Int):(A.dz now).Calls:=by
 obtain⟨h1,h2,h3⟩:=ik h now
 have:=Gk h1.bN (pw h hC now)
 unfold aD.dz
 split<;>exact this
theorem DM(c:aX):(uI c).Calls:=by
 intro q hq g hg
 simp only[uI,aA.qs,aA.new,List.map_map,Zv] at hq
 obtain⟨x,_,rfl⟩:=hq
 simp[jE] at hg
theorem e9{x lo hi:Int}(h:lo≤hi):aw (aw x lo hi) lo hi=aw x lo hi:=Gg (fA h).1 (fA h).2
theorem Gl(qs:List Int):gj (gj qs)=gj qs:=by
 have h:=oF qs
 have h1:bP (gj qs)=gj qs:=by
  have e:(gj qs).take 4=gj qs:=Z3 h.2
  unfold bP
  rw[e,if_neg]
  intro e2;rw[e2] at h;simp at h
 have h2:(gj qs).map ij=gj qs:=by
  have:∀x∈gj qs,ij x=x:=fun x hx=>by
   obtain⟨y,_,rfl⟩:=Zv.1 hx
   exact e9 yd
  rw[List.map_congr_left this];simp
 show(bP (gj qs)).map ij=gj qs
 rw[h1,h2]
theorem Iv(c:aX):dy c=dy (dy c):=by
 have hn:=fA (x:=c.nodes) (lo:=1) (hi:=6) yd
 have e1:=e9 (x:=c.nodes) (lo:=1) (hi:=6) yd
 have e2:aw (aw c.chain 1 (aw c.nodes 1 6)) 1 (aw (aw c.nodes 1 6) 1 6)=aw c.chain 1 (aw c.nodes 1 6):=by rw[e1];exact e9 hn.1
 simp only[dy,aX.mk.injEq]
 exact⟨e1.symm,e2.symm,(e9 yd).symm,(Gl _).symm,(e9 yd).symm,(e9 yd).symm,(e9 yd).symm,(e9 yd).symm,(e9 yd).symm,(e9 yd).symm,(e9 yd).symm,(e9 yd).symm⟩
end Adm
namespace Rep
open Go Vg T Api Kv Ch Lg Rd Win Adm
attribute [local irreducible] VO VC VA
abbrev dd:=Int×aa
def m_:kL:=(none,0,0)
def wH(s:dd):List Value:=.int .i64 s.1::iz s.2 m_
abbrev iv:TypeId:=206
abbrev Nk:TypeId:=212
abbrev dM:TypeId:=125
def Gm(b:Nat)(S:List dd)(x:Option Addr×Nat):List HP:=[pt b [.slice x.1 S.length x.2] Nk,aJ iv 30 x.1 S.length x.2 (flat wH S)]
def aQ(b:Nat)(S:List dd):HP:=hex fun x=>cT (Gm b S x)
theorem aV.out(b:Nat)(S:List dd):aV (ι:=Option Addr×Nat) (aQ b S) (fun _=>True) (fun x=>Gm b S x):=fun w ids ⟨x,h⟩ hn=>⟨x,trivial,ids,h,hn,fun _ h=>h⟩
theorem ae.out{b:Nat}{S:List dd}{L M:List HP}(x:Option Addr×Nat)(h:ae L (Gm b S x++M)):ae L (aQ b S::M):=
 ae.ex (f:=fun x=>cT (Gm b S x)) x (ae.sep (Ls:=Gm b S x) h)
def cI(b:Nat):Value:=pS 95 [.pointer (some ⟨b,0,none⟩)] []
theorem iH(b:Nat)(S:List dd)(hS:S.length≤1000000)(to_:Int)(f:aa):aH Tryz.prog 95 [.pointer (some ⟨b,0,none⟩),.int .i64 to_,.agg (iz f m_).toArray] Fr w [aQ b S] (fun v L=>v=.tuple #[]∧L=[aQ b (S ++ [(to_,f)])]):=by
 refine TF 18 Tryz.func95 Z yn ah Z Z ?_
 refine CS (CG (VG (VB (vs:=iz f m_) Z fun fb=>VG (VN ?_))))
 refine VC.e7 1 Z (aV.out b S) ?_
 rintro⟨a,c⟩ -
 show VC _ _ _ [pt b [.slice a S.length c] Nk,aJ iv 30 a S.length c (flat wH S),pt fb (iz f m_) g_] _
 refine CD (ts 0 8 (.only 8 (.only 9 (ts 10 2 (.only 12 .nil))))) yn yr ?_
 refine eT ?_
 refine AG (VA.kn 2 (iz f m_) Z Z Z Z Z ?_)
 refine AG (AI Z (LB (pv:=[(0,.int .i64 to_),(1,.agg (iz f m_).toArray)]) (wH (to_,f)) Z Z Z yn Z) ?_)
 refine AG (AO (a8.buildSlice (n:=1) (pv:=[(0,.agg (wH (to_,f)).toArray)]) (cells:=wH (to_,f)) Z Z Z Z yp (bM Z Z Z)) Z ?_ ?_)
 ·rintro _ _ ⟨nb,rfl,rfl⟩
  exact yu
 rintro _ _ ⟨nb,rfl,rfl⟩
 refine AG (AO (a8.append (m:=1) (news:=wH (to_,f)) 2 Z Z Z Z Z Z Z (dq.pt 0 Z Z Z) Z (jn (k:=1000001) yd yp) yd) Z ?_ ?_)
 ·rintro _ _ ⟨a1,c1,rfl,hc1,rfl⟩
  exact yu
 rintro _ _ ⟨a1,c1,rfl,hc1,rfl⟩
 refine tM ?_
 refine AG (VA.st 2 (cs':=[.slice a1 (S.length+1) c1]) Z Z Z Z Z (Zo Z) Z Z yu ?_)
 refine tM ?_
 refine ay.void Z (ae.out (S:=S ++ [(to_,f)]) (a1,c1) ?_).ar ⟨rfl,Z⟩
 unfold Gm
 rw[Zh,bf,bL,e_,Zi]
 exact(dG [2,0])
structure au where
 id:Int
 aB:Int
 cap:Int
 iI:Int
 ch:dL
 since:Int
 whole:Bool
 log:List aY
 win:cD
 bH:aD
 bC:gq
 start:Int
 base:Int
 linked:Bool
 cK:Int
structure qx where
 a:Option Addr
 c:Nat
 lp:Nat
 wp:Nat
 ap:Nat
 rp:Nat
def aS(R:au)(x:qx):List Value:=[.int .i64 R.id,.int .i64 R.aB,.int .i64 R.cap,.int .i64 R.iI,.int .i64 R.ch.al,.slice x.a R.ch.ms.length x.c,.int .i64 R.ch.drain,.int .i64 R.since,.bool R.whole,
 .pointer (some ⟨x.lp,0,none⟩),.pointer (some ⟨x.wp,0,none⟩),.pointer (some ⟨x.ap,0,none⟩),.pointer (some ⟨x.rp,0,none⟩),.int .i64 R.start,.int .i64 R.base,.bool R.linked,.int .i64 R.cK]
def DN(p:Nat)(R:au)(x:qx):List HP:=[pt p (aS R x) dM,aJ aG 2 x.a R.ch.ms.length x.c (flat ax R.ch.ms),b9 x.lp R.log,bO x.wp R.win,bu x.ap R.bH,bV x.rp R.bC]
def bz(p:Nat)(R:au):HP:=hex fun x=>cT (DN p R x)
theorem aV.rep(p:Nat)(R:au):aV (ι:=qx) (bz p R) (fun _=>True) (fun x=>DN p R x):=fun w ids ⟨x,h⟩ hn=>⟨x,trivial,ids,h,hn,fun _ h=>h⟩
theorem ae.rep{p:Nat}{R:au}{L M:List HP}(x:qx)(h:ae L (DN p R x++M)):ae L (bz p R::M):=
 ae.ex (f:=fun x=>cT (DN p R x)) x (ae.sep (Ls:=DN p R x) h)
structure fR(Fr:Nat→Prop)(w:World)(p:Nat)(R:au)(x:qx):Prop where
 aP:eQ Fr w p (aS R x)
 mem:aI ax 2 Fr w x.a R.ch.ms
 log:aL Fr [b9 x.lp R.log] w
 win:eQ Fr w x.wp R.win.cells
 bH:aL Fr [bu x.ap R.bH] w
 bC:aL Fr [bV x.rp R.bC] w
theorem fR.Gn{Fr:Nat→Prop}{w:World}{L:List HP}{p:Nat}{R:au}{x:qx}(h:aL Fr L w)(i:Nat)(h0:L[i]?=some (pt p (aS R x) dM))(h1:L[i+1]?=some (aJ aG 2 x.a R.ch.ms.length x.c (flat ax R.ch.ms)))
  (h2:L[i+2]?=some (b9 x.lp R.log)) (h3:L[i+3]?=some (bO x.wp R.win)) (h4:L[i+4]?=some (bu x.ap R.bH)) (h5:L[i+5]?=some (bV x.rp R.bC)):fR Fr w p R x:=
 ⟨h.aP i h0,aI.aJ aF (h.at_ _ h1),h.at_ _ h2,h.aP _ h3,h.at_ _ h4,h.at_ _ h5⟩
theorem fR.Uc{Fr:Nat→Prop}{w:World}{p:Nat}{R:au}(h:aL Fr [bz p R] w):∃x,fR Fr w p R x:=by
 obtain⟨x,h⟩:=h.ex
 exact⟨x,fR.Gn h.sep 0 Z Z Z Z Z Z⟩
theorem fR.of{X:Cx}{p:Nat}{R:au}{x:qx}(h:fR X.Fr X.w0 p R x){Fr':Nat→Prop}{w:World}{L:List HP}(hF:∀b,X.Fr b→Fr' b)(hs:St X L w):fR Fr' w p R x:=
 ⟨h.aP.of hF hs,aI.of h.mem hF hs,h.log.of hF hs,h.win.of hF hs,h.bH.of hF hs,h.bC.of hF hs⟩
structure BA(c:dL):Prop where
 len:c.ms.length≤1000
section
variable {p:Nat} {R:au} {x:qx} {b:Nat} {S:List dd}
theorem mj(h:eQ Fr w p (aS R x)):aH Tryz.prog 94 [.pointer (some ⟨p,0,none⟩)] Fr w [] (fun v L=>v=.bool true∧L=[]):=by
 refine TF 12 Tryz.func94 Z yn ah Z Z ?_
 refine an ?_
 refine VG (VO.split 5 rfl rfl (fun _=>?_) (fun h=>by cases h))
 refine EW ?_
 exact QY
def au.Nl(R:au):Bool:=decide (0<R.since)
theorem E8(h:eQ Fr w p (aS R x)):aH Tryz.prog 161 [.pointer (some ⟨p,0,none⟩)] Fr w [] (fun v L=>v=.bool R.Nl∧L=[]):=by
 refine TF 8 Tryz.func161 Z yn ah Z Z ?_
 refine EW ?_
 exact QY
def au.fi(R:au)(f:aa):Bool:=f.al == R.ch.al
theorem uM(h:eQ Fr w p (aS R x))(f:aa)(m:kL):aH Tryz.prog 193 [.pointer (some ⟨p,0,none⟩),.agg (iz f m).toArray] Fr w [] (fun v L=>v=.bool (R.fi f)∧L=[]):=by
 refine TF 13 Tryz.func193 Z yn ah Z Z ?_
 refine CS (CG (VG (VB (vs:=iz f m) Z fun fb=>VG (VN ?_))))
 refine CS (CD (ts 0 9 .nil) yn yr ?_)
 refine TE ?_
 exact CR (ay.bool 4 Z Z Z ae.nil.ar ⟨rfl,Z⟩)
def jP(from_ nb:Int):Bool:=decide (0≤nb)&&(from_ == nb)
theorem oH(f n:Int):aH Tryz.prog 194 [.int .i64 f,.int .i64 n] Fr w [] (fun v L=>v=.bool (jP f n)∧L=[]):=by
 refine TF 12 Tryz.func194 Z yn ah Z Z ?_
 refine an ?_
 by_cases h1:0≤n
 ·refine VG (VY 7 true Z (DT h1) ?_)
  refine eP ?_
  exact CR (ay.bool 4 Z Z (by rw[jP,DT h1];rfl) ER ⟨rfl,Z⟩)
 ·refine VG (VY 7 false Z (DF h1) ?_)
  refine eP ?_
  exact CR (ay.bool 4 Z Z (by rw[jP,DF h1];rfl) ER ⟨rfl,Z⟩)
def au.nQ(R:au):Int:=HX R.ch R.id
def au.dz(R:au):Int:=ze R.ch R.id
theorem pn(h:eQ Fr w p (aS R x))(hm:aI ax 2 Fr w x.a R.ch.ms)(hc:BA R.ch):aH Tryz.prog 195 [.pointer (some ⟨p,0,none⟩)] Fr w [] (fun v L=>v=.int .i64 R.nQ∧L=[]):=by
 have hcl:=hc.len
 refine TF 12 Tryz.func195 Z yn ah Z Z ?_
 refine Dc ?_
 refine CS (CD (ts 0 8 (.only 8 (.take 9 .nil))) yn yr ?_)
 refine JZ ?_
 refine TG ?_
 refine JZ ?_
 refine AG (AR (fun Fr w hF hs hS=>Ch.pn Fr w (hm.of hF hs) yd R.id) Z Z S7 ?_)
 refine eT ?_
 exact EX
theorem gz(h:eQ Fr w p (aS R x))(hm:aI ax 2 Fr w x.a R.ch.ms)(hc:BA R.ch):aH Tryz.prog 170 [.pointer (some ⟨p,0,none⟩)] Fr w [] (fun v L=>v=.int .i64 R.dz∧L=[]):=by
 have hcl:=hc.len
 refine TF 12 Tryz.func170 Z yn ah Z Z ?_
 refine Dc ?_
 refine CS (CD (ts 0 8 (.only 8 (.take 9 .nil))) yn yr ?_)
 refine JZ ?_
 refine TG ?_
 refine JZ ?_
 refine AG (AR (fun Fr w hF hs hS=>Ch.gz Fr w (hm.of hF hs) yd R.id) Z Z S7 ?_)
 refine eT ?_
 exact EX
def au.uN(R:au):Bool:=R.Nl&&(sn R.ch == R.id)
def au.uO(R:au):Bool:=R.Nl&&(qk R.ch == R.id)
def au.dD(R:au):Bool:=R.Nl&&(R.ch.drain == R.id)
theorem lW(h:eQ Fr w p (aS R x))(hm:aI ax 2 Fr w x.a R.ch.ms)(hc:BA R.ch):aH Tryz.prog 98 [.pointer (some ⟨p,0,none⟩)] Fr w [] (fun v L=>v=.bool R.uN∧L=[]):=by
 have hcl:=hc.len
 refine TF 17 Tryz.func98 Z yn ah Z Z ?_
 refine Dc ?_
 refine Xt ?_
 refine UN ?_
 refine eT ?_
 cases hi:R.Nl with
 | true=>
  refine AG (AY 5 true Z Z ?_)
  refine Ot ?_
  refine TG ?_
  refine Ot ?_
  refine AG (AR (fun Fr w hF hs hS=>Ch.lW Fr w (hm.of hF hs) yd) Z Z S7 ?_)
  refine lS ?_
  exact CR (ay.bool 2 Z Z (by rw[au.uN,hi];rfl) ER ⟨rfl,Z⟩)
 | false=>
  refine AG (AY 5 false Z Z ?_)
  refine Ot ?_
  refine TZ ?_
  exact CR (ay.bool 2 Z Z (by rw[au.uN,hi];rfl) ER ⟨rfl,Z⟩)
theorem lX(h:eQ Fr w p (aS R x))(hm:aI ax 2 Fr w x.a R.ch.ms)(hc:BA R.ch):aH Tryz.prog 237 [.pointer (some ⟨p,0,none⟩)] Fr w [] (fun v L=>v=.bool R.uO∧L=[]):=by
 have hcl:=hc.len
 refine TF 17 Tryz.func237 Z yn ah Z Z ?_
 refine Dc ?_
 refine Xt ?_
 refine UN ?_
 refine eT ?_
 cases hi:R.Nl with
 | true=>
  refine AG (AY 5 true Z Z ?_)
  refine Ot ?_
  refine TG ?_
  refine Ot ?_
  refine AG (AR (fun Fr w hF hs hS=>Ch.lX Fr w (hm.of hF hs) yd) Z Z S7 ?_)
  refine lS ?_
  exact CR (ay.bool 2 Z Z (by rw[au.uO,hi];rfl) ER ⟨rfl,Z⟩)
 | false=>
  refine AG (AY 5 false Z Z ?_)
  refine Ot ?_
  refine TZ ?_
  exact CR (ay.bool 2 Z Z (by rw[au.uO,hi];rfl) ER ⟨rfl,Z⟩)
theorem lf(h:eQ Fr w p (aS R x)):aH Tryz.prog 99 [.pointer (some ⟨p,0,none⟩)] Fr w [] (fun v L=>v=.bool R.dD∧L=[]):=by
 refine TF 17 Tryz.func99 Z yn ah Z Z ?_
 refine Dc ?_
 refine CS (CD (.take 0 (.only 1 (ts 2 13 .nil))) yn yr ?_)
 refine UN ?_
 refine eT ?_
 cases hi:R.Nl with
 | true=>
  refine AG (AY 5 true Z Z ?_)
  refine Ot ?_
  exact CR (ay.bool 2 Z Z (by rw[au.dD,hi];rfl) ER ⟨rfl,Z⟩)
 | false=>
  refine AG (AY 5 false Z Z ?_)
  refine Ot ?_
  exact CR (ay.bool 2 Z Z (by rw[au.dD,hi];rfl) ER ⟨rfl,Z⟩)
end
end Rep
namespace Rep
open Go Vg T Api Kv Ch Lg Rd Win Adm
attribute [local irreducible] VO VC VA
def je(aj seq cn:Int)(r:jC):aa:={ aa.zero with kind:=2,aj:=aj,seq:=seq,cn:=cn,res:=r }
def dt(al:Int)(f:aa)(reason:Int):aa:={ aa.zero with kind:=3,al:=al,aj:=f.aj,seq:=f.seq,cn:=f.cn,reason:=reason }
def Nn(al i g h:Int):aa:={ aa.zero with kind:=5,al:=al,index:=i,s8:=g,cK:=h }
def E9(al i:Int):aa:={ aa.zero with kind:=6,al:=al,index:=i }
def qy(al i:Int):aa:={ aa.zero with kind:=11,al:=al,index:=i }
section
variable {p:Nat} {R:au} {x:qx} {b:Nat} {S:List dd}
theorem qz(hS:S.length≤1000000)(aj seq cn:Int)(hc0:0≤aj)(hc1:aj≤1000000)(r:jC):aH Tryz.prog 200 [.int .i64 aj,.int .i64 seq,.int .i64 cn,.agg (bn r).toArray,cI b] Fr w [aQ b S]
  (fun v L=>v=.tuple #[]∧L=[aQ b (S ++ [(32+aj,je aj seq cn r)])]):=by
 refine TF 19 Tryz.func200 Z yn ah Z Z ?_
 refine CS (CG (VG (VB (vs:=bn r) Z fun rb=>?_)))
 refine Ov ?_
 refine VG (VL 0 (bn r) Z Z Z Z ?_)
 refine VG (VI (LB (pv:=[(0,.int .i64 2),(2,.int .i64 aj),(3,.int .i64 seq),(4,.int .i64 cn),(8,.agg (bn r).toArray)]) (iz (je aj seq cn r) m_) Z Z Z yn Z) ?_)
 refine VG (VO.fx 1 Z Z (fun Fr w hF hs _=>iH Fr w b S hS (32+aj) (je aj seq cn r)) Z (ψ:=fun v H=>v=.tuple #[]∧H=aQ b (S ++ [(32+aj,je aj seq cn r)])) yy ?_)
 rintro _ _ ⟨rfl,rfl⟩
 refine an ?_
 exact UO
theorem gu(h:eQ Fr w p (aS R x))(hS:S.length≤1000000)(f:aa)(m:kL)(hc0:0≤f.aj)(hc1:f.aj≤1000000)(reason:Int):aH Tryz.prog 97 [.pointer (some ⟨p,0,none⟩),.agg (iz f m).toArray,.int .i64 reason,cI b] Fr w [aQ b S]
  (fun v L=>v=.tuple #[]∧L=[aQ b (S ++ [(32+f.aj,dt R.ch.al f reason)])]):=by
 refine TF 26 Tryz.func97 Z yn ah Z Z ?_
 refine CS (CG (VG (VB (vs:=iz f m) Z fun fb=>VG (VN ?_))))
 refine CD (ts 0 17 (.only 17 .nil)) yn yr ?_
 refine TE ?_
 refine HI ?_
 refine TE ?_
 refine AG (AI Z (LB (pv:=[(0,.int .i64 3),(1,.int .i64 R.ch.al),(2,.int .i64 f.aj),(3,.int .i64 f.seq),(4,.int .i64 f.cn),(9,.int .i64 reason)]) (iz (dt R.ch.al f reason) m_) Z Z Z yn Z) ?_)
 refine AG (VA.fx 1 Z Z (fun Fr w hF hs _=>iH Fr w b S hS (32+f.aj) (dt R.ch.al f reason)) Z Z (ψ:=fun v H=>v=.tuple #[]∧H=aQ b (S ++ [(32+f.aj,dt R.ch.al f reason)])) yy ?_ ?_)
 ·rintro _ _ ⟨rfl,rfl⟩
  exact(by(try refine Pd.st ?_);(repeat(first|exact Pd.nil|exact Pd.fnil|refine Pd.inner ?_|refine Pd.skip yr ?_|refine zf (zo 0 Z Z) ?_|refine zf (zm 0 Z Z) ?_|refine zf (aE.aP (aE.aP h Z) Z) ?_|refine zf ((aE.aP h Z)) ?_|refine zc (zo 0 Z Z) ?_|refine zc (zm 0 Z Z) ?_|refine zc (aE.aP (aE.aP h Z) Z) ?_|refine zc ((aE.aP h Z)) ?_)))
 rintro _ _ ⟨rfl,rfl⟩
 refine eT ?_
 exact UO
def au.dU(R:au):List dd:=if R.nQ<0 then [] else [(R.nQ,Nn R.ch.al R.win.done (if R.dD then R.win.last else R.win.done+R.win.cap) R.win.last)]
theorem ng(h:fR Fr w p R x)(hc:BA R.ch)(hw:R.win.Ok)(hS:S.length≤1000000):aH Tryz.prog 173 [.pointer (some ⟨p,0,none⟩),cI b] Fr w [aQ b S] (fun v L=>v=.tuple #[]∧L=[aQ b (S++R.dU)]):=by
 have hb:=h.aP
 have w0:=hw.eS
 refine TF 42 Tryz.func173 Z yn ah Z Z ?_
 refine an ?_
 refine VG (VV (fun Fr w hF hs _=>Rep.pn Fr w (h.of hF hs).aP (h.of hF hs).mem hc) Z ?_)
 refine an ?_
 refine CP Z (fun h1=>?_) (fun h1=>CK ?_)
 ·exact CR (ay.void Z ER ⟨rfl,by rw[au.dU,if_pos h1,Zi]⟩)
 refine Db ?_
 refine VG (VV (fun Fr w hF hs _=>Win.mU Fr w (h.of hF hs).win hw) Z ?_)
 refine VG (VN (CS ?_))
 refine VC.cq (σ:=Unit) (fun _=>[(0,pV p),(1,cI b),(4,.int .i64 R.nQ),(5,.int .i64 (if R.dD then R.win.last else R.win.done+R.win.cap))]) (fun _=>[aQ b S]) (fun _=>True) ?_ ?_
 ·refine an ?_
  refine VG (VV (fun Fr w hF hs _=>lf Fr w (h.of hF hs).aP) Z ?_)
  refine an ?_
  refine CC Z (fun hd=>?_) (fun hd=>CK ?_)
  ·refine Db ?_
   refine VG (VV (fun Fr w hF hs _=>Win.fF Fr w (h.of hF hs).win w0) Z ?_)
   refine an ?_
   exact Xu
  ·exact Xu
 rintro _ -
 refine CD (ts 0 11 (ts 12 5 (.only 11 (.only 17 (.take 18 (.only 19 .nil)))))) yn yr ?_
 refine Rt ?_
 refine AG (AR (fun Fr w hF hs hS=>Win.pq Fr w (h.of hF hs).win w0) Z Z yx ?_)
 refine AG (AR (fun Fr w hF hs hS=>Win.fF Fr w (h.of hF hs).win w0) Z Z yx ?_)
 refine AG (AI Z (LB (pv:=[(0,.int .i64 5),(1,.int .i64 R.ch.al),(12,.int .i64 R.win.done),(13,.int .i64 (if R.dD then R.win.last else R.win.done+R.win.cap)),(14,.int .i64 R.win.last)]) (iz (Nn R.ch.al R.win.done (if R.dD then R.win.last else R.win.done+R.win.cap) R.win.last) m_) Z Z Z yn Z) ?_)
 refine AG (VA.fx 0 Z Z (fun Fr w hF hs _=>iH Fr w b S hS R.nQ (Nn R.ch.al R.win.done (if R.dD then R.win.last else R.win.done+R.win.cap) R.win.last)) Z Z (ψ:=fun v H=>v=.tuple #[]∧H=aQ b (S ++ [(R.nQ,Nn R.ch.al R.win.done (if R.dD then R.win.last else R.win.done+R.win.cap) R.win.last)])) yy ?_ ?_)
 ·rintro _ _ ⟨rfl,rfl⟩
  exact yx
 rintro _ _ ⟨rfl,rfl⟩
 refine eT ?_
 exact ay.void Z ER ⟨rfl,by rw[au.dU,if_neg h1];rfl⟩
def au.iJ(R:au):List dd:=if R.whole=true∧0≤R.dz then [(R.dz,E9 R.ch.al R.start)] else []
theorem lH(h:fR Fr w p R x)(hc:BA R.ch)(hS:S.length≤1000000):aH Tryz.prog 174 [.pointer (some ⟨p,0,none⟩),cI b] Fr w [aQ b S] (fun v L=>v=.tuple #[]∧L=[aQ b (S++R.iJ)]):=by
 have hb:=h.aP
 refine TF 28 Tryz.func174 Z yn ah Z Z ?_
 refine an ?_
 refine VG (VV (fun Fr w hF hs _=>Rep.gz Fr w (h.of hF hs).aP (h.of hF hs).mem hc) Z ?_)
 refine Db ?_
 cases hwh:R.whole with
 | false=>
  refine VG (VY 11 false Z Z ?_)
  refine Xv ?_
  refine r_ ?_
  exact ay.void Z ER ⟨rfl,by rw[au.iJ,if_neg (by rw[hwh];simp),Zi]⟩
 | true=>
  refine VG (VY 11 true Z Z ?_)
  refine Xv ?_
  refine CP Z (fun h1=>?_) (fun h1=>CK ?_)
  ·refine CD (ts 0 12 (.only 12 .nil)) yn yr ?_
   refine Rt ?_
   refine AG (AI Z (LB (pv:=[(0,.int .i64 6),(1,.int .i64 R.ch.al),(12,.int .i64 R.start)]) (iz (E9 R.ch.al R.start) m_) Z Z Z yn Z) ?_)
   refine AG (VA.fx 0 Z Z (fun Fr w hF hs _=>iH Fr w b S hS R.dz (E9 R.ch.al R.start)) Z Z (ψ:=fun v H=>v=.tuple #[]∧H=aQ b (S ++ [(R.dz,E9 R.ch.al R.start)])) yy ?_ ?_)
   ·rintro _ _ ⟨rfl,rfl⟩
    exact yx
   rintro _ _ ⟨rfl,rfl⟩
   refine eT ?_
   exact ay.void Z ER ⟨rfl,by rw[au.iJ,if_pos ⟨hwh,h1⟩];rfl⟩
  ·exact ay.void Z ER ⟨rfl,by rw[au.iJ,if_neg (fun h=>h1 h.2),Zi]⟩
def au.gX(R:au):List dd:=[(16,qy R.ch.al (if R.whole then 1 else 0))]
theorem nR(hb:eQ Fr w p (aS R x))(hS:S.length≤1000000):aH Tryz.prog 172 [.pointer (some ⟨p,0,none⟩),cI b] Fr w [aQ b S] (fun v L=>v=.tuple #[]∧L=[aQ b (S++R.gX)]):=by
 refine TF 19 Tryz.func172 Z yn ah Z Z ?_
 refine Db ?_
 refine VG (VI (LB (pv:=[(0,.int .i64 11),(1,.int .i64 R.ch.al)]) (iz (qy R.ch.al 0) m_) Z Z Z yn Z) ?_)
 refine VG (VO.alloc Z fun fb=>?_)
 refine VG (VT (vs:=iz (qy R.ch.al 0) m_) 0 Z Z Z Z (NR _) Z Z Z ?_)
 refine VG (VN (CS ?_))
 refine VC.cq (σ:=Unit) (fun _=>[(1,cI b),(4,pV fb)]) (fun _=>[pt fb (iz (qy R.ch.al (if R.whole then 1 else 0)) m_) g_,aQ b S]) (fun _=>True) ?_ ?_
 ·refine Db ?_
  refine CC Z (fun hd=>?_) (fun hd=>CK ?_)
  ·refine an ?_
   refine VG (VO.st 0 (cs':=iz (qy R.ch.al 1) m_) Z Z Z Z (Zo Z) Z Z ?_)
   refine an ?_
   exact⟨(),trivial,bd,by rw[hd];exact ER⟩
  ·exact⟨(),trivial,bd,by rw[hd];exact ER⟩
 rintro _ -
 refine an ?_
 refine VG (VL 0 (iz (qy R.ch.al (if R.whole then 1 else 0)) m_) Z Z Z Z ?_)
 refine VG (VO.fx 1 Z Z (fun Fr w hF hs _=>iH Fr w b S hS 16 (qy R.ch.al (if R.whole then 1 else 0))) Z (ψ:=fun v H=>v=.tuple #[]∧H=aQ b (S++R.gX)) yy ?_)
 rintro _ _ ⟨rfl,rfl⟩
 refine an ?_
 exact UO
end
end Rep
namespace Rep
open Go Vg T Api Kv Ch Lg Rd Win Adm
attribute [local irreducible] VO VC VA
structure au.Ok(R:au):Prop where
 ch:BA R.ch
 win:R.win.Ok
 last:R.win.last=R.log.length
 nh:∀e∈R.log,0≤e.aj∧e.aj<6
 ni:∀e∈R.log,1≤e.index∧e.index≤R.log.length
 tj:1≤R.bC.cap
 sG:R.bC.cap≤16
 rl:(R.bC.l.length:Int)≤R.bC.cap
 zJ:0≤R.bC.last
 AU:R.bC.last≤100000000
 xu:∀y∈R.bC.l,0≤y.f.aj∧y.f.aj≤1000
 calls:R.bH.Calls
 wf:R.bH.Wf
theorem DO(es:List aY)(c:Int):cZ es c=(0,0)∨∃e∈es,cZ es c=(e.seq,e.index)∧e.aj=c:=by
 have:∀(es:List aY) (p:Int×Int),es.foldl (l0 c) p=p∨∃e∈es,es.foldl (l0 c) p=(e.seq,e.index)∧e.aj=c:=by
  intro es
  induction es with
  | nil=>intro p;exact .inl rfl
  | cons e es ih=>
   intro p
   rw[List.foldl_cons]
   rcases ih (l0 c p e) with h | ⟨d,hd,h,h2⟩
   ·rw[h]
    unfold l0
    split
    ·exact .inr ⟨e,by simp,Z,by assumption⟩
    ·exact .inl rfl
   ·exact .inr ⟨d,by simp[hd],h,h2⟩
 exact this es (0,0)
theorem au.Ok.Sk{R:au}(h:R.Ok)(c:Int):0≤(fG R.log c).2∧(fG R.log c).2≤R.log.length:=by
 unfold fG
 split
 ·rcases DO R.log c with h1 | ⟨e,he,h1,_⟩
  ·rw[h1];exact⟨Zz _,by simp⟩
  ·rw[h1];have:=h.ni e he;exact⟨by show 0≤e.index;omega,this.2⟩
 ·exact⟨Zz _,by simp⟩
def iw(p:Nat)(R:au)(x:qx)(b:Nat)(S:List dd):List HP:=[pt p (aS R x) dM,aJ aG 2 x.a R.ch.ms.length x.c (flat ax R.ch.ms),b9 x.lp R.log,bO x.wp R.win,bu x.ap R.bH,bV x.rp R.bC,aQ b S]
theorem dN{p:Nat}{R:au}{x:qx}{b:Nat}{S:List dd}:ae (iw p R x b S) [bz p R,aQ b S]:=ae.rep x (dG [0,0,0,0,0,0,0])
def zK(R:au)(i:Int):dd:=(32+((pL R.log i).getD lE).aj,je ((pL R.log i).getD lE).aj ((pL R.log i).getD lE).seq 0 ((pL (aO R.log).2 i).getD cY))
def iK(R:au)(k:Nat):List dd:=(List.range k).map fun j=>zK R (R.win.done+1+(j:Nat))
def au.fV(R:au):List dd:=if R.uO then iK R (R.win.last-R.win.done).toNat else []
def au.bg(R:au):au:=if R.uO then { R with win:=R.win.Df R.win.last } else R
section
variable {p:Nat} {R:au} {b:Nat} {S:List dd}
theorem oI(ok:R.Ok)(hS:S.length≤900000):aH Tryz.prog 169 [.pointer (some ⟨p,0,none⟩),cI b] Fr w [bz p R,aQ b S] (fun v L=>v=.tuple #[]∧L=[bz p R.bg,aQ b (S++R.fV)]):=by
 have w0:=ok.win.eS
 have d0:=ok.win.jL;have d1:=ok.win.jM;have d2:=ok.win.gS
 refine TF 62 Tryz.func169 Z yn ah Z Z ?_
 refine Q1 ?_
 rintro x -
 show VC _ _ _ (iw p R x b S) _
 unfold iw
 refine an ?_
 refine Xw ?_
 refine an ?_
 refine VC.dT Z (fun ht=>?_) (fun ht=>CK ?_)
 ·exact CR (ay.void Z dN.ar ⟨rfl,by rw[au.bg,au.fV,ht];simp⟩)
 refine an ?_
 refine Xx ?_
 refine an ?_
 refine Xy ?_
 refine an ?_
 refine VG (VQ 3 Z (fun Fr w hF hs hS=>Win.qZ Fr w ok.win R.win.last) Z (ψ:=fun v H=>v=.bool (R.win.tO R.win.last)∧H=bO x.wp (R.win.Df R.win.last)) yy ?_)
 rintro _ _ ⟨rfl,rfl⟩
 refine sd ?_
 refine VC.loop (σ:=Nat) (fun k=>[(0,pV p),(1,cI b),(5,.int .i64 R.win.last),(6,.int .i64 (R.win.done+1+(k:Nat)))])
  (fun k=>[pt p (aS R x) dM,aJ aG 2 x.a R.ch.ms.length x.c (flat ax R.ch.ms),b9 x.lp R.log,bO x.wp (R.win.Df R.win.last),bu x.ap R.bH,bV x.rp R.bC,aQ b (S++iK R k)])
  (fun k=>k≤(R.win.last-R.win.done).toNat) (fun k=>(R.win.last-R.win.done).toNat-k) 0
  (Zj _) (SC rfl (SC rfl (SC rfl (Sub.int rfl yf (SN _))))) (by rw[show iK R 0=[] from rfl,Zi];exact ER) ?_
 intro k hk
 have hrl:(iK R k).length=k:=by simp[iK]
 refine an ?_
 refine CP Z (fun h1=>CK ?_) (fun h1=>CX ?_)
 ·obtain⟨j,e,hj1,hj2,hj3,hj4⟩:=re (l:=R.log) (i:=R.win.done+1+(k:Nat)) yd (by have:=ok.last;omega)
  have hcl:=ok.nh e (ME hj3)
  refine an ?_
  refine VG (VV (fun Fr w hF hs hS=>Lg.rf Fr w (hS.at_ 2 Z) (R.win.done+1+(k:Nat)) yd yd) Z ?_)
  refine an ?_
  refine VG (VO.alloc Z fun eb=>?_)
  refine VG (VT (vs:=cL ((pL R.log (R.win.done+1+(k:Nat))).getD lE)) 0 Z Z Z Z (NR _) Z Z Z ?_)
  refine jA ?_
  refine VG (VV (fun Fr w hF hs hS=>Lg.tf Fr w (hS.at_ 3 Z) (R.win.done+1+(k:Nat)) yd yd) Z ?_)
  refine jA ?_
  refine VG (VO.alloc Z fun rb=>?_)
  refine VG (VT (vs:=bn ((pL (aO R.log).2 (R.win.done+1+(k:Nat))).getD cY)) 0 Z Z Z Z (NR _) Z Z Z ?_)
  refine jA ?_
  refine VG (VL 0 (bn ((pL (aO R.log).2 (R.win.done+1+(k:Nat))).getD cY)) Z Z Z Z ?_)
  refine VG (VQ 8 Z (fun Fr w hF hs hS=>qz Fr w (by rw[Zh,hrl];omega) ((pL R.log (R.win.done+1+(k:Nat))).getD lE).aj ((pL R.log (R.win.done+1+(k:Nat))).getD lE).seq 0 (by rw[hj4];exact hcl.1) (by rw[hj4];have:=hcl.2;show e.aj≤_;omega) ((pL (aO R.log).2 (R.win.done+1+(k:Nat))).getD cY)) Z (ψ:=fun v H=>v=.tuple #[]∧H=aQ b (S++iK R k ++ [zK R (R.win.done+1+(k:Nat))])) yy ?_)
  rintro _ _ ⟨rfl,rfl⟩
  refine sd ?_
  refine⟨k+1,by omega,by dsimp only;omega,SC Z (SC Z (SC Z (Sub.int Z (by push_cast;omega) (SN _)))),?_⟩
  dsimp only
  rw[show iK R (k+1)=iK R k ++ [zK R (R.win.done+1+(k:Nat))] by simp[iK,List.range_succ],←Zr]
  exact(dG [2,2,2,2,2,2,2]).ar
 ·obtain rfl:k=(R.win.last-R.win.done).toNat:=by omega
  exact ay.void Z (ae.rep (R:={ R with win:=R.win.Df R.win.last }) x (IP 0 Z (IP 0 Z (IP 0 Z (IP 0 Z (IP 0 Z (IP 0 Z (IP 0 Z ae.nil)))))))).ar ⟨rfl,by rw[au.bg,au.fV,ht];simp⟩
def au.jQ(R:au):Bool:=R.Nl&&(!R.whole&&(decide (R.base≠-1)&&decide (R.base≤R.win.last)))
def au.eF(R:au):au:=if R.jQ then { R with whole:=true,start:=R.win.last } else R
def au.iL(R:au):List dd:=if R.jQ then R.eF.iJ else []
theorem tk(ok:R.Ok)(hS:S.length≤900000):aH Tryz.prog 198 [.pointer (some ⟨p,0,none⟩),cI b] Fr w [bz p R,aQ b S] (fun v L=>v=.tuple #[]∧L=[bz p R.eF,aQ b (S++R.iL)]):=by
 have w0:=ok.win.eS
 refine TF 46 Tryz.func198 Z yn ah Z Z ?_
 refine Q1 ?_
 rintro x -
 show VC _ _ _ (iw p R x b S) _
 refine CS (CS ?_)
 have S3:∀{E:Env} {t:Bool},Vg.look E 31=some (.bool t)→t=(!R.jQ)→Vg.look E 0=some (.pointer (some ⟨p,0,none⟩))→Vg.look E 1=some (cI b)→Sub [(0,pV p),(1,cI b),(31,.bool (!R.jQ))] E:=fun h0 h1 h2 h3=>SC h2 (SC h3 (Sub.bl h0 h1 (SN _)))
 refine VC.cq (σ:=Unit) (fun _=>[(0,pV p),(1,cI b),(31,.bool (!R.jQ))]) (fun _=>iw p R x b S) (fun _=>True) ?_ ?_
 ·refine CD (.take 0 (.only 1 (ts 2 19 (ts 22 4 (.only 21 (ts 26 2 .nil)))))) yn yr ?_
  refine AG (AR (fun Fr w hF hs hS=>E8 Fr w (fR.Gn hS 0 Z Z Z Z Z Z).aP) Z Z yu ?_)
  refine eT ?_
  cases h1:R.Nl with
  | false=>
   refine AG (AY 7 true Z Z ?_)
   refine lS ?_
   refine AG (AY 13 true Z Z ?_)
   refine lS ?_
   refine AG (AY 20 true Z Z ?_)
   refine Pc ?_
   exact⟨(),trivial,S3 Z (by rw[au.jQ,h1];rfl) Z Z,ER⟩
  | true=>
  refine AG (AY 7 false Z Z ?_)
  refine lS ?_
  cases h2:R.whole with
  | true=>
   refine AG (AY 13 true Z Z ?_)
   refine lS ?_
   refine AG (AY 20 true Z Z ?_)
   refine Pc ?_
   exact⟨(),trivial,S3 Z (by rw[au.jQ,h1,h2];rfl) Z Z,ER⟩
  | false=>
  have q8:(aS R x)[0+8]?=some (.bool false):=by show some (Value.bool R.whole)=_;rw[h2]
  refine AG (AY 13 false Z Z ?_)
  refine lS ?_
  by_cases h3:R.base=-1
  ·refine AG (AY 20 true Z (by simp[h3]) ?_)
   refine Pc ?_
   exact⟨(),trivial,S3 Z (by rw[au.jQ,h1,h2,h3];rfl) Z Z,ER⟩
  refine AG (AY 20 false Z (by simp[h3]) ?_)
  refine lS ?_
  refine AG (AR (fun Fr w hF hs hS=>Win.fF Fr w (fR.Gn hS 0 Z Z Z Z Z Z).win w0) Z Z (by(try refine Pd.st ?_);(repeat(first|exact Pd.nil|exact Pd.fnil|refine Pd.inner ?_|refine Pd.skip yr ?_|refine zf (zo 0 Z Z) ?_|refine zf (zm 0 Z Z) ?_|refine zf (aE.aP (aE.one 0 Z q8) Z) ?_|refine zf ((aE.one 0 Z q8)) ?_|refine zc (zo 0 Z Z) ?_|refine zc (zm 0 Z Z) ?_|refine zc (aE.aP (aE.one 0 Z q8) Z) ?_|refine zc ((aE.one 0 Z q8)) ?_))) ?_)
  refine lS ?_
  exact⟨(),trivial,S3 Z (by
   rw[au.jQ,h1,h2,DT (show R.base≠-1 from h3)]
   by_cases h4:R.win.last<R.base
   ·rw[DT h4,DF (show ¬R.base≤R.win.last by omega)];rfl
   ·rw[DF h4,DT (show R.base≤R.win.last by omega)];rfl) rfl rfl,ER⟩
 rintro _ -
 refine VC.dT Z (fun hb=>?_) (fun hb=>CK ?_)
 ·exact CR (ay.void Z dN.ar ⟨rfl,by rw[au.eF,au.iL,hb];simp⟩)
 have hbR:R.eF={ R with whole:=true,start:=R.win.last }:=by rw[au.eF,hb];rfl
 have hbM:R.iL=R.eF.iJ:=by rw[au.iL,hb];rfl
 unfold iw
 refine an ?_
 refine VG (VO.st 0 (cs':=aS { R with whole:=true } x) Z Z Z Z (Zo Z) Z Z ?_)
 refine an ?_
 refine Xy ?_
 refine VG (VO.st 0 (cs':=aS { R with whole:=true,start:=R.win.last } x) Z Z Z Z (Zo Z) Z Z ?_)
 refine an ?_
 refine VG (VQ 6 Z (fun Fr w hF hs hS=>lH (R:={ R with whole:=true,start:=R.win.last }) Fr w (fR.Gn hS 0 Z Z Z Z Z Z) ok.ch yd) Z (ψ:=fun v H=>v=.tuple #[]∧H=aQ b (S++au.iJ { R with whole:=true,start:=R.win.last })) yy ?_)
 rintro _ _ ⟨rfl,rfl⟩
 refine an ?_
 exact ay.void Z (dN (R:={ R with whole:=true,start:=R.win.last }) (x:=x)).ar ⟨rfl,by rw[hbM,hbR]⟩
end
end Rep
namespace Rep
open Go Vg T Api Kv Ch Lg Rd Win Adm
attribute [local irreducible] VO VC VA
def b_(R:au)(f:aa)(now:Int):Int×jC×aD:=
 if R.bH.may f=false then (10,cY,R.bH)
 else if R.bH.sE f.aj f.seq f.cn=true then (7,cY,R.bH)
 else if R.fi f=false then (5,cY,R.bH)
 else if R.uN=false then (4,cY,R.bH)
 else if R.whole=false then (8,cY,R.bH)
 else if R.dD=true then (3,cY,R.bH)
 else if f.seq=(fG R.log f.aj).1∧R.win.done<(fG R.log f.aj).2 then (6,cY,R.bH)
 else if f.seq=(fG R.log f.aj).1 then (0,(pL (aO R.log).2 (fG R.log f.aj).2).getD cY,R.bH)
 else if f.seq<(fG R.log f.aj).1 then (7,cY,R.bH)
 else if 4096≤R.log.length then (1,cY,R.bH)
 else ((R.bH.eW f now).1,cY,(R.bH.eW f now).2)
section
variable {p:Nat} {R:au}
theorem DP(ok:R.Ok)(f:aa)(m:kL)(hmm:De Fr w m)(now:Int):aH Tryz.prog 253 [.pointer (some ⟨p,0,none⟩),.agg (cF (f,m)).toArray,.int .i64 now] Fr w [bz p R]
  (fun v L=>v=.tuple #[.int .i64 (b_ R f now).1,.agg (bn (b_ R f now).2.1).toArray]∧L=[bz p { R with bH:=(b_ R f now).2.2 }]):=by
 have w0:=ok.win.eS
 refine TF 116 Tryz.func253 Z yn ah Z Z ?_
 refine CS (CG (VG (VB (vs:=cF (f,m)) Z fun fb=>?_)))
 refine VG (VO.alloc Z fun rb=>VG (VN ?_))
 refine VC.e7 2 Z (aV.rep p R) ?_
 rintro x -
 have fin:∀{X:Cx} {fn:Func} {E:Env} (z:Int) (rr:jC) (A':aD),fn.results=#[.tmp 6,.cell 7 jd]→aM X.tab jd=some T.t153→Vg.look E 6=some (.int .i64 z)→Vg.look E 7=some (.pointer (some ⟨rb,0,none⟩))→b_ R f now=(z,rr,A') →
   ay X fn (fun v L=>v=.tuple #[.int .i64 (b_ R f now).1,.agg (bn (b_ R f now).2.1).toArray]∧L=[bz p { R with bH:=(b_ R f now).2.2 }]) E [pt p (aS R x) dM,aJ aG 2 x.a R.ch.ms.length x.c (flat ax R.ch.ms),b9 x.lp R.log,bO x.wp R.win,bu x.ap A',bV x.rp R.bC,pt rb (bn rr) jd,pt fb (cF (f,m)) g_]:=fun z rr A' hr hT h4 h5 hj=>
  ay.Ks 6 7 hr h4 h5 hT (aE.many (ds:=bn rr) 6 rfl rfl) (ae.rep (R:={ R with bH:=A' }) x (IP 0 rfl (IP 0 rfl (IP 0 rfl (IP 0 rfl (IP 0 rfl (IP 0 rfl ae.nil))))))).ar ⟨by rw[hj],by rw[hj]⟩
 show VC _ _ _ [pt p (aS R x) dM,aJ aG 2 x.a R.ch.ms.length x.c (flat ax R.ch.ms),b9 x.lp R.log,bO x.wp R.win,bu x.ap R.bH,bV x.rp R.bC,pt rb (bn cY) jd,pt fb (cF (f,m)) g_] _
 refine CS (VC.block ?_)
 refine CS (CD (ts 0 5 (.only 5 (ts 6 2 .nil))) yn yr ?_)
 refine Ou ?_
 refine AG (VA.kn 7 (cF (f,m)) Z Z Z Z Z ?_)
 refine AG (AR (fun Fr w hF hs hS=>oG Fr w (f,m) (hS.at_ 4 Z)) Z Z yu ?_)
 refine eT ?_
 refine VC.dT Z (fun h1=>?_) (fun h1=>?_)
 ·refine Km ?_
  exact CR (fin 10 cY R.bH Z Z Z Z (by rw[b_,if_pos h1]))
 have k1:¬R.bH.may f=false:=by rw[h1];simp
 refine CS (CD (ts 0 10 (.only 10 (.take 11 .nil))) yn yr ?_)
 refine Ou ?_
 refine AG (AR (fun Fr w hF hs hS=>th Fr w f.aj f.seq f.cn (hS.at_ 4 Z)) Z Z yu ?_)
 refine eT ?_
 refine CC Z (fun h2=>?_) (fun h2=>?_)
 ·refine Km ?_
  exact CR (fin 7 cY R.bH Z Z Z Z (by rw[b_,if_neg k1,if_pos h2]))
 have k2:¬R.bH.sE f.aj f.seq f.cn=true:=by rw[h2];simp
 refine O8 ?_
 refine VG (VL 7 (cF (f,m)) Z Z Z Z ?_)
 refine VG (VV (fun Fr w hF hs hS=>uM Fr w (hS.aP 0 Z) f m) Z ?_)
 refine an ?_
 refine VC.dT Z (fun h3=>?_) (fun h3=>?_)
 ·refine Km ?_
  exact CR (fin 5 cY R.bH Z Z Z Z (by rw[b_,if_neg k1,if_neg k2,if_pos h3]))
 have k3:¬R.fi f=false:=by rw[h3];simp
 refine an ?_
 refine VG (VV (fun Fr w hF hs hS=>lW Fr w (hS.aP 0 Z) (aI.aJ aF (hS.at_ 1 Z)) ok.ch) Z ?_)
 refine an ?_
 refine VC.dT Z (fun h4=>?_) (fun h4=>?_)
 ·refine Km ?_
  exact CR (fin 4 cY R.bH Z Z Z Z (by rw[b_,if_neg k1,if_neg k2,if_neg k3,if_pos h4]))
 have k4:¬R.uN=false:=by rw[h4];simp
 refine an ?_
 refine VC.dT Z (fun h5=>?_) (fun h5=>?_)
 ·refine Km ?_
  exact CR (fin 8 cY R.bH Z Z Z Z (by rw[b_,if_neg k1,if_neg k2,if_neg k3,if_neg k4,if_pos h5]))
 have k5:¬R.whole=false:=by rw[h5];simp
 refine an ?_
 refine VG (VV (fun Fr w hF hs hS=>lf Fr w (hS.aP 0 Z)) Z ?_)
 refine an ?_
 refine CC Z (fun h6=>?_) (fun h6=>CK ?_)
 ·refine Km ?_
  exact CR (fin 3 cY R.bH Z Z Z Z (by rw[b_,if_neg k1,if_neg k2,if_neg k3,if_neg k4,if_neg k5,if_pos h6]))
 have k6:¬R.dD=true:=by rw[h6];simp
 refine CS (CD (ts 0 6 (.only 6 (ts 7 5 .nil))) yn yr ?_)
 refine Ou ?_
 refine AG (AR (fun Fr w hF hs hS=>Lg.fF Fr w (hS.at_ 2 Z) f.aj) Z Z yu ?_)
 refine eT ?_
 refine CS (VC.block ?_)
 have hi2:=ok.Sk f.aj
 have hl1:=ok.last;have hl2:=ok.win.gS
 refine CS ?_
 refine VC.cq (σ:=Unit) (fun _=>[(0,pV p),(2,.int .i64 now),(4,pV fb),(6,.int .i64 0),(7,pV rb),(8,.int .i64 (fG R.log f.aj).1),(9,.int .i64 (fG R.log f.aj).2),(64,.bool ((f.seq == (fG R.log f.aj).1)&&decide (R.win.done<(fG R.log f.aj).2)))])
  (fun _=>[pt p (aS R x) dM,aJ aG 2 x.a R.ch.ms.length x.c (flat ax R.ch.ms),b9 x.lp R.log,bO x.wp R.win,bu x.ap R.bH,bV x.rp R.bC,pt rb (bn cY) jd,pt fb (cF (f,m)) g_]) (fun _=>True) ?_ ?_
 ·refine O8 ?_
  cases h7:(f.seq == (fG R.log f.aj).1) with
  | false=>
   refine VG (VY 69 false Z h7 ?_)
   refine eP ?_
   exact XB
  | true=>
   refine VG (VY 69 true Z h7 ?_)
   refine eP ?_
   refine Xx ?_
   refine eP ?_
   exact XB
 rintro _ -
 refine CC Z (fun h7=>?_) (fun h7=>?_)
 ·have k7:f.seq=(fG R.log f.aj).1∧R.win.done<(fG R.log f.aj).2:=by simpa using h7
  refine Km ?_
  exact CR (fin 6 cY R.bH Z Z Z Z (by rw[b_,if_neg k1,if_neg k2,if_neg k3,if_neg k4,if_neg k5,if_neg k6,if_pos k7]))
 have k7:¬(f.seq=(fG R.log f.aj).1∧R.win.done<(fG R.log f.aj).2):=fun h=>by rw[DT h.2,h.1] at h7;simp at h7
 refine O8 ?_
 refine CE Z (fun h8=>?_) (fun h8=>?_)
 ·refine an ?_
  refine VG (VV (fun Fr w hF hs hS=>Lg.tf Fr w (hS.at_ 2 Z) (fG R.log f.aj).2 yd yd) Z ?_)
  refine an ?_
  refine VG (VT (vs:=bn ((pL (aO R.log).2 (fG R.log f.aj).2).getD cY)) 6 Z Z Z Z (NR _) Z Z Z (VG (VN ?_)))
  refine Xz ?_
  refine AG (VA.kn 6 (bn ((pL (aO R.log).2 (fG R.log f.aj).2).getD cY)) Z Z Z Z Z ?_)
  refine eT ?_
  refine AG (AT (vs:=bn ((pL (aO R.log).2 (fG R.log f.aj).2).getD cY)) 6 Z Z Z Z Z (NR _) Z Z Z yu ?_)
  refine eT ?_
  exact CR (fin 0 ((pL (aO R.log).2 (fG R.log f.aj).2).getD cY) R.bH Z Z Z Z (by rw[b_,if_neg k1,if_neg k2,if_neg k3,if_neg k4,if_neg k5,if_neg k6,if_neg k7,if_pos h8]))
 refine O8 ?_
 refine CP Z (fun h9=>?_) (fun h9=>?_)
 ·refine Km ?_
  exact CR (fin 7 cY R.bH Z Z Z Z (by rw[b_,if_neg k1,if_neg k2,if_neg k3,if_neg k4,if_neg k5,if_neg k6,if_neg k7,if_neg h8,if_pos h9]))
 refine an ?_
 refine VG (VV (fun Fr w hF hs hS=>Lg.fe Fr w (hS.at_ 2 Z)) Z ?_)
 refine an ?_
 refine CP Z (fun h10=>?_) (fun h10=>CK ?_)
 ·refine Km ?_
  exact CR (fin 1 cY R.bH Z Z Z Z (by rw[b_,if_neg k1,if_neg k2,if_neg k3,if_neg k4,if_neg k5,if_neg k6,if_neg k7,if_neg h8,if_neg h9,if_pos yd]))
 refine CS (CD (ts 0 6 (.take 7 (.only 6 (.take 8 (.only 9 .nil))))) yn yr ?_)
 refine Ou ?_
 refine AG (VA.kn 7 (cF (f,m)) Z Z Z Z Z ?_)
 refine eT ?_
 refine XA ?_
 refine AG (AQ 4 Z (fun Fr w hF hs hS=>mU Fr w x.ap R.bH (f,m) (hmm.of hF hs) now) Z Z (ψ:=fun v H=>v=.int .i64 (R.bH.eW f now).1∧H=bu x.ap (R.bH.eW f now).2) yy ?_ ?_)
 ·rintro _ _ ⟨rfl,rfl⟩
  exact yu
 rintro _ _ ⟨rfl,rfl⟩
 refine Yx ?_
 exact CR (fin (R.bH.eW f now).1 cY (R.bH.eW f now).2 Z Z Z Z (by rw[b_,if_neg k1,if_neg k2,if_neg k3,if_neg k4,if_neg k5,if_neg k6,if_neg k7,if_neg h8,if_neg h9,if_neg yd]))
end
end Rep
namespace Rep
open Go Vg T Api Kv Ch Lg Rd Win Adm
attribute [local irreducible] VO VC VA
def iM(R:au)(f:aa)(now:Int):au×List dd:=
 if (b_ R f now).2.1.code≠0 then ({ R with bH:=(b_ R f now).2.2 },[(32+f.aj,je f.aj f.seq f.cn (b_ R f now).2.1)])
 else if (b_ R f now).1=0 then ({ R with bH:=(b_ R f now).2.2 },[])
 else if (b_ R f now).1≠6∧(b_ R f now).1≠10 then ({ R with bH:=((b_ R f now).2.2.fh f.aj f.seq f.cn).2 },[(32+f.aj,dt R.ch.al f (b_ R f now).1)])
 else ({ R with bH:=(b_ R f now).2.2 },[(32+f.aj,dt R.ch.al f (b_ R f now).1)])
section
variable {p:Nat} {R:au} {b:Nat} {S:List dd}
theorem BB(ok:R.Ok)(hS:S.length≤900000)(f:aa)(m:kL)(hmm:De Fr w m)(now:Int)(hc0:0≤f.aj)(hc1:f.aj≤1000):aH Tryz.prog 191 [.pointer (some ⟨p,0,none⟩),.agg (cF (f,m)).toArray,.int .i64 now,cI b] Fr w [bz p R,aQ b S]
  (fun v L=>v=.tuple #[]∧L=[bz p (iM R f now).1,aQ b (S++(iM R f now).2)]):=by
 refine TF 53 Tryz.func191 Z yn ah Z Z ?_
 refine CS (CG (VG (VB (vs:=cF (f,m)) Z fun fb=>?_)))
 refine an ?_
 refine VG (VL 0 (cF (f,m)) Z Z Z Z ?_)
 refine VG (VQ 1 Z (fun Fr w hF hs hS=>DP Fr w ok f m (hmm.of hF hs) now) Z (ψ:=fun v H=>v=.tuple #[.int .i64 (b_ R f now).1,.agg (bn (b_ R f now).2.1).toArray]∧H=bz p { R with bH:=(b_ R f now).2.2 }) yy ?_)
 rintro _ _ ⟨rfl,rfl⟩
 refine VO.e7 1 Z (aV.rep p _) ?_
 rintro x -
 obtain⟨⟨z,rr,A⟩,hj⟩:∃j,b_ R f now=j:=⟨_,rfl⟩
 rw[hj]
 have hu:iM R f now=(if rr.code≠0 then ({ R with bH:=A },[(32+f.aj,je f.aj f.seq f.cn rr)])
   else if z=0 then ({ R with bH:=A },[])
   else if z≠6∧z≠10 then ({ R with bH:=(A.fh f.aj f.seq f.cn).2 },[(32+f.aj,dt R.ch.al f z)])
   else ({ R with bH:=A },[(32+f.aj,dt R.ch.al f z)])):=by rw[iM,hj]
 show VO _ _ _ _ _ [pt p (aS R x) dM,aJ aG 2 x.a R.ch.ms.length x.c (flat ax R.ch.ms),b9 x.lp R.log,bO x.wp R.win,bu x.ap A,bV x.rp R.bC,pt fb (cF (f,m)) g_,aQ b S] _
 refine an ?_
 refine VG (VO.alloc Z fun rb=>?_)
 refine an ?_
 refine VG (VT (vs:=bn rr) 0 Z Z Z Z (NR _) Z Z Z ?_)
 refine an ?_
 refine VC.bp Z (fun h1=>?_) (fun h1=>CK ?_)
 ·refine O8 ?_
  refine VG (VL 0 (bn rr) Z Z Z Z ?_)
  refine VG (VQ 8 Z (fun Fr w hF hs _=>qz Fr w yd f.aj f.seq f.cn hc0 yd rr) Z (ψ:=fun v H=>v=.tuple #[]∧H=aQ b (S ++ [(32+f.aj,je f.aj f.seq f.cn rr)])) yy ?_)
  rintro _ _ ⟨rfl,rfl⟩
  refine an ?_
  exact CR (ay.void Z (ae.rep (R:={ R with bH:=A }) x (IP 1 Z (IP 1 Z (IP 1 Z (IP 1 Z (IP 1 Z (IP 1 Z (IP 2 Z ae.nil)))))))).ar ⟨rfl,by rw[hu,if_pos h1]⟩)
 refine an ?_
 refine CE Z (fun h2=>?_) (fun h2=>CK ?_)
 ·exact CR (ay.void Z (ae.rep (R:={ R with bH:=A }) x (IP 1 Z (IP 1 Z (IP 1 Z (IP 1 Z (IP 1 Z (IP 1 Z (IP 2 Z ae.nil)))))))).ar ⟨rfl,by rw[hu,if_neg (fun h=>h h1),if_pos h2,Zi]⟩)
 refine CS ?_
 refine VC.cq (σ:=aD) (fun _=>[(0,pV p),(3,cI b),(5,pV fb),(8,.int .i64 z)])
  (fun A'=>[pt p (aS R x) dM,aJ aG 2 x.a R.ch.ms.length x.c (flat ax R.ch.ms),b9 x.lp R.log,bO x.wp R.win,bu x.ap A',bV x.rp R.bC,pt fb (cF (f,m)) g_,aQ b S]) (fun A'=>A'=if z≠6∧z≠10 then (A.fh f.aj f.seq f.cn).2 else A) ?_ ?_
 ·refine an ?_
  by_cases h3:z=6
  ·refine VG (VY 33 false Z (by simp[h3]) ?_)
   refine J4 ?_
   exact⟨A,by rw[if_neg (fun h=>h.1 h3)],bd,(dG [1,1,1,1,1,1,1,1]).ar⟩
  ·refine VG (VY 33 true Z (by simp[h3]) ?_)
   refine eP ?_
   refine VC.bp Z (fun h4=>?_) (fun h4=>CK ?_)
   ·refine CD (ts 0 10 (.only 10 .nil)) yn yr ?_
    refine Ou ?_
    refine AG (AQ 5 Z (fun Fr w hF hs hS=>ry Fr w x.ap A f.aj f.seq f.cn) Z Z (ψ:=fun v H=>v=.int .i64 (A.fh f.aj f.seq f.cn).1∧H=bu x.ap (A.fh f.aj f.seq f.cn).2) yy ?_ ?_)
    ·rintro _ _ ⟨rfl,rfl⟩
     exact yu
    rintro _ _ ⟨rfl,rfl⟩
    refine eT ?_
    exact⟨(A.fh f.aj f.seq f.cn).2,by rw[if_pos ⟨h3,h4⟩],bd,(dG [1,1,1,1,1,1,1,1]).ar⟩
   ·exact⟨A,by rw[if_neg (fun h=>h.2 h4)],bd,(dG [1,1,1,1,1,1,1,1]).ar⟩
 rintro A' hA'
 refine an ?_
 refine VG (VL 6 (cF (f,m)) Z Z Z Z ?_)
 refine an ?_
 refine VG (VQ 7 Z (fun Fr w hF hs hS=>gu Fr w (hS.aP 0 Z) yd f m hc0 yd z) Z (ψ:=fun v H=>v=.tuple #[]∧H=aQ b (S ++ [(32+f.aj,dt R.ch.al f z)])) yy ?_)
 rintro _ _ ⟨rfl,rfl⟩
 refine an ?_
 exact ay.void Z (ae.rep (R:={ R with bH:=A' }) x (IP 0 Z (IP 0 Z (IP 0 Z (IP 0 Z (IP 0 Z (IP 0 Z (IP 1 Z ae.nil)))))))).ar ⟨rfl,by
  rw[hu,if_neg (fun h=>h h1),if_neg h2,hA']
  split<;>rfl⟩
def du(R:au)(f:aa)(now:Int):Int:=
 if R.fi f=false then 5 else if R.uO=false then 4 else if R.whole=false then 8 else if f.deadline<now then 2 else if R.iI≤R.bC.l.length then 1 else 0
def fZ(al id:Int):aa:={ aa.zero with kind:=9,al:=al,index:=id }
def eJ(R:au)(f:aa)(now:Int):au×List dd:=
 if du R f now≠0 then (R,[(32+f.aj,dt R.ch.al f (du R f now))])
 else ({ R with bC:=R.bC.put f (iD (aO R.log).1 f.op.key R.log.length) },[(16,fZ R.ch.al (R.bC.last+1))])
theorem jf(ok:R.Ok)(hmost:R.iI=R.bC.cap)(hS:S.length≤900000)(f:aa){ma:Option Addr}{mc:Nat}{ms:List bG}(hm:aI ax 2 Fr w ma ms)(hml:ms.length≤1000000)(now:Int)(hc0:0≤f.aj)(hc1:f.aj≤1000):aH Tryz.prog 190 [.pointer (some ⟨p,0,none⟩),.agg (iz f (ma,ms.length,mc)).toArray,.int .i64 now,cI b] Fr w [bz p R,aQ b S]
  (fun v L=>v=.tuple #[]∧L=[bz p (eJ R f now).1,aQ b (S++(eJ R f now).2)]):=by
 refine TF 75 Tryz.func190 Z yn ah Z Z ?_
 refine CS (CG (VG (VB (vs:=iz f (ma,ms.length,mc)) Z fun fb=>VG (VN ?_))))
 refine TH ?_
 rintro x -
 show VC _ _ _ [pt p (aS R x) dM,aJ aG 2 x.a R.ch.ms.length x.c (flat ax R.ch.ms),b9 x.lp R.log,bO x.wp R.win,bu x.ap R.bH,bV x.rp R.bC,pt fb (iz f (ma,ms.length,mc)) g_,aQ b S] _
 have hlen:R.bC.l.length≤16:=by have:=ok.rl;have:=ok.sG;omega
 refine CS (CG (VG (VN (CS ?_))))
 have S4:∀{E:Env} {z:Int},Vg.look E 8=some (.int .i64 z)→z=du R f now→Vg.look E 0=some (.pointer (some ⟨p,0,none⟩))→Vg.look E 3=some (cI b)→Vg.look E 5=some (.pointer (some ⟨fb,0,none⟩))→Sub [(0,pV p),(3,cI b),(5,pV fb),(8,.int .i64 (du R f now))] E:=fun h0 h1 h2 h3 h4=>SC h2 (SC h3 (SC h4 (Sub.int h0 h1 (SN _))))
 refine VC.cq (σ:=Unit) (fun _=>[(0,pV p),(3,cI b),(5,pV fb),(8,.int .i64 (du R f now))])
  (fun _=>[pt p (aS R x) dM,aJ aG 2 x.a R.ch.ms.length x.c (flat ax R.ch.ms),b9 x.lp R.log,bO x.wp R.win,bu x.ap R.bH,bV x.rp R.bC,pt fb (iz f (ma,ms.length,mc)) g_,aQ b S]) (fun _=>True) ?_ ?_
 ·refine VC.block ?_
  refine an ?_
  refine VG (VL 6 (iz f (ma,ms.length,mc)) Z Z Z Z ?_)
  refine Rw ?_
  refine an ?_
  refine VC.dT Z (fun h1=>?_) (fun h1=>?_)
  ·refine an ?_
   exact⟨(),trivial,S4 Z (by rw[du,if_pos h1]) Z Z Z,ER⟩
  have k1:¬R.fi f=false:=by rw[h1];simp
  refine an ?_
  refine Xw ?_
  refine an ?_
  refine VC.dT Z (fun h2=>?_) (fun h2=>?_)
  ·refine an ?_
   exact⟨(),trivial,S4 Z (by rw[du,if_neg k1,if_pos h2]) Z Z Z,ER⟩
  have k2:¬R.uO=false:=by rw[h2];simp
  refine an ?_
  refine VC.dT Z (fun h3=>?_) (fun h3=>?_)
  ·refine an ?_
   exact⟨(),trivial,S4 Z (by rw[du,if_neg k1,if_neg k2,if_pos h3]) Z Z Z,ER⟩
  have k3:¬R.whole=false:=by rw[h3];simp
  refine XC ?_
  refine CP Z (fun h4=>?_) (fun h4=>?_)
  ·refine an ?_
   exact⟨(),trivial,S4 Z (by rw[du,if_neg k1,if_neg k2,if_neg k3,if_pos h4]) Z Z Z,ER⟩
  refine CS (CD (ts 0 4 (ts 5 4 (.only 4 (ts 9 2 .nil)))) yn yr ?_)
  refine HJ ?_
  refine AG (AR (fun Fr w hF hs hS=>Rd.fe Fr w (hS.at_ 5 Z) ok.tj) Z Z yu ?_)
  refine eT ?_
  refine CP Z (fun h5=>?_) (fun h5=>CK ?_)
  ·refine an ?_
   exact⟨(),trivial,S4 Z (by rw[du,if_neg k1,if_neg k2,if_neg k3,if_neg h4,if_pos h5]) Z Z Z,ER⟩
  ·exact⟨(),trivial,S4 Z (by rw[du,if_neg k1,if_neg k2,if_neg k3,if_neg h4,if_neg h5]) Z Z Z,ER⟩
 rintro _ -
 refine an ?_
 refine VC.bp Z (fun hr=>?_) (fun hr=>CK ?_)
 ·refine an ?_
  refine VG (VL 6 (iz f (ma,ms.length,mc)) Z Z Z Z ?_)
  refine an ?_
  refine VG (VQ 7 Z (fun Fr w hF hs hS=>gu Fr w (hS.aP 0 Z) yd f (ma,ms.length,mc) hc0 yd (du R f now)) Z (ψ:=fun v H=>v=.tuple #[]∧H=aQ b (S ++ [(32+f.aj,dt R.ch.al f (du R f now))])) yy ?_)
  rintro _ _ ⟨rfl,rfl⟩
  refine an ?_
  exact CR (ay.void Z (ae.rep x (IP 0 Z (IP 0 Z (IP 0 Z (IP 0 Z (IP 0 Z (IP 0 Z (IP 1 Z ae.nil)))))))).ar ⟨rfl,by rw[eJ,if_pos hr]⟩)
 have hnf:(R.bC.l.length:Int)<R.bC.cap:=by
  rw[←hmost]
  unfold du at hr
  split at hr
  ·cases hr
  split at hr
  ·cases hr
  split at hr
  ·cases hr
  split at hr
  ·cases hr
  split at hr
  ·cases hr
  ·omega
 refine CS (CD (ts 0 12 (.only 12 (.only 13 (ts 14 5 .nil)))) yn yr ?_)
 refine HJ ?_
 refine AG (VA.kn 6 (iz f (ma,ms.length,mc)) Z Z Z Z Z ?_)
 refine HJ ?_
 refine AG (AR (fun Fr w hF hs hS=>Lg.pr Fr w (hS.at_ 2 Z) f.op.key) Z Z yu ?_)
 refine AG (AQ 5 Z (fun Fr w hF hs hS=>Rd.uz Fr w x.rp R.bC ok.tj ok.sG ok.zJ (by have:=ok.AU;omega) f (hm.of hF hs) hml (iD (aO R.log).1 f.op.key R.log.length)) Z Z (ψ:=fun v H=>v=.tuple #[.int .i64 (R.bC.last+1),.int .i64 0]∧H=bV x.rp (R.bC.put f (iD (aO R.log).1 f.op.key R.log.length))) (fun v L h=>⟨_,h.2,by rw[h.1,if_pos hnf],Z⟩) ?_ ?_)
 ·rintro _ _ ⟨rfl,rfl⟩
  exact yu
 rintro _ _ ⟨rfl,rfl⟩
 refine Oy ?_
 refine VG (VI (LB (pv:=[(0,.int .i64 9),(1,.int .i64 R.ch.al),(12,.int .i64 (R.bC.last+1))]) (iz (fZ R.ch.al (R.bC.last+1)) m_) Z Z Z yn Z) ?_)
 refine VG (VO.fx 7 Z Z (fun Fr w hF hs _=>iH Fr w b S yd 16 (fZ R.ch.al (R.bC.last+1))) Z (ψ:=fun v H=>v=.tuple #[]∧H=aQ b (S ++ [(16,fZ R.ch.al (R.bC.last+1))])) yy ?_)
 rintro _ _ ⟨rfl,rfl⟩
 refine an ?_
 exact ay.void Z (ae.rep (R:={ R with bC:=R.bC.put f (iD (aO R.log).1 f.op.key R.log.length) }) x (IP 0 Z (IP 0 Z (IP 0 Z (IP 0 Z (IP 0 Z (IP 0 Z (IP 1 Z ae.nil)))))))).ar ⟨rfl,by rw[eJ,if_neg (fun h=>h hr)]⟩
end
end Rep
namespace Rep
open Go Vg T Api Kv Ch Lg Rd Win Adm
attribute [local irreducible] VO VC VA
theorem Iw{W:cD}(h:W.Ok)(i:Int):(W.Df i).Ok:=by
 unfold cD.Df
 split
 ·rename_i hb
  simp only[cD.tO,Zx,decide_eq_true_eq] at hb
  have:=h.jL
  exact⟨h.eS,h.gR,by show 0≤i;omega,hb.2,h.gS,h.fY,h.Bc,h.Dx,h.Dy⟩
 ·exact h
theorem BC(W:cD)(i:Int):(W.Df i).last=W.last:=by unfold cD.Df;split<;>rfl
theorem jg{R:au}(h:R.Ok):R.bg.Ok:=by
 unfold au.bg
 split
 ·exact⟨h.ch,Iw h.win _,by rw[BC];exact h.last,h.nh,h.ni,h.tj,h.sG,h.rl,h.zJ,h.AU,h.xu,h.calls,h.wf⟩
 ·exact h
theorem qA{R:au}(h:R.Ok):R.eF.Ok:=by
 unfold au.eF
 split
 ·exact XD
 ·exact h
def fq(R:au)(e:aY):au:={ R with log:=R.log ++ [e],win:={ R.win with last:=R.win.last+1 } }
theorem Gp{es:List aY}{e:aY}(h:dY es e=0):rh e=false∧es.length<4096∧e.index=es.length+1∧(cZ es e.aj).1<e.seq:=by
 unfold dY at h
 split at h
 ·cases h
 rename_i h1
 split at h
 ·cases h
 rename_i h2
 split at h
 ·cases h
 rename_i h3
 split at h
 ·cases h
 rename_i h4
 exact⟨by simpa using h1,by omega,by omega,by omega⟩
theorem DQ{e:aY}(h:rh e=false):0≤e.aj∧e.aj<6∧1≤e.seq:=by
 simp only[rh,Bool.or_eq_false_iff,decide_eq_false_iff_not] at h
 omega
theorem mm{R:au}(h:R.Ok){e:aY}(he:dY R.log e=0)(hr:R.win.room=true):(fq R e).Ok:=by
 obtain⟨b1,b2,b3,b4⟩:=Gp he
 have hc:=DQ b1
 simp only[cD.room,Zx,decide_eq_true_eq] at hr
 have hw:=h.win
 have hl:=h.last
 refine⟨h.ch,⟨hw.eS,hw.gR,hw.jL,?_,?_,hw.fY,?_,hw.Dx,hw.Dy⟩,?_,?_,?_,h.tj,h.sG,h.rl,h.zJ,h.AU,h.xu,h.calls,h.wf⟩
 ·have:=hw.jM;show R.win.done≤R.win.last+1;omega
 ·show R.win.last+1≤4096;omega
 ·have:=hw.Bc;show R.win.dp≤R.win.last+1;omega
 ·show R.win.last+1=(R.log ++ [e]).length;rw[Zh,hl];simp
 ·intro y hy
  rcases Zq.1 hy with hy | hy
  ·exact h.nh y hy
  ·obtain rfl:=ZC.1 hy;exact⟨hc.1,hc.2.1⟩
 ·intro y hy
  show _∧y.index≤(R.log ++ [e]).length
  rw[Zh]
  rcases Zq.1 hy with hy | hy
  ·have:=h.ni y hy;exact⟨this.1,by simp;omega⟩
  ·obtain rfl:=ZC.1 hy;exact⟨by omega,by simp;omega⟩
theorem Ix(R:au)(k:Nat):(iK R k).length=k:=by simp[iK]
theorem jq{R:au}(h:R.Ok):R.fV.length≤4096:=by
 unfold au.fV
 split
 ·rw[Ix];have:=h.win.gS;have:=h.win.jL;omega
 ·simp
theorem sH(R:au):R.iJ.length≤1:=by unfold au.iJ;split<;>simp
theorem oJ(R:au):R.iL.length≤1:=by
 unfold au.iL
 split
 ·exact sH _
 ·simp
theorem ky(R:au):R.dU.length≤1:=by unfold au.dU;split<;>simp
def BD(R:au)(e:aY):Bool:=(e.index == R.win.last+1)&&decide (0<max (min (R.win.done+R.win.cap) 4096-R.win.last) 0)
theorem uP{R:au}{e:aY}(h:BD R e=true):R.win.room=true:=by
 simp only[BD,Zx,decide_eq_true_eq] at h
 simp only[cD.room,Zx,decide_eq_true_eq]
 omega
def fI(R:au)(e:aY):au×List dd:=
 if BD R e=true∧dY R.log e=0 then ((fq R e).bg.eF,(fq R e).fV++(fq R e).bg.iL++(fq R e).bg.eF.dU)
 else (R,R.dU)
section
variable {p:Nat} {R:au} {b:Nat} {S:List dd}
theorem zM(ok:R.Ok)(hS:S.length≤800000)(e:aY)(hi1:-9223372036854775808≤e.index)(hi2:e.index≤9223372036854775807):aH Tryz.prog 196 [.pointer (some ⟨p,0,none⟩),.agg (cL e).toArray,cI b] Fr w [bz p R,aQ b S]
  (fun v L=>v=.tuple #[]∧L=[bz p (fI R e).1,aQ b (S++(fI R e).2)]):=by
 have w0:=ok.win.eS
 have w1:=ok.win.gS;have w2:=ok.win.jL;have w3:=ok.win.jM
 refine TF 50 Tryz.func196 Z yn ah Z Z ?_
 refine CS (CG (VG (VB (vs:=cL e) Z fun eb=>VG (VN ?_))))
 refine CS ?_
 refine VC.cq (σ:=au×List dd) (fun _=>[(0,pV p),(2,cI b)]) (fun y=>[bz p y.1,aQ b (S++y.2)]) (fun y=>y.1.Ok∧y.2.length≤10000∧fI R e=(y.1,y.2++y.1.dU)) ?_ ?_
 ·refine TH ?_
  rintro x -
  show VC _ _ _ [pt p (aS R x) dM,aJ aG 2 x.a R.ch.ms.length x.c (flat ax R.ch.ms),b9 x.lp R.log,bO x.wp R.win,bu x.ap R.bH,bV x.rp R.bC,pt eb (cL e) iE,aQ b S] _
  have shut:∀{X:Cx} {T:List dd},jj X [pt p (aS R x) dM,aJ aG 2 x.a R.ch.ms.length x.c (flat ax R.ch.ms),b9 x.lp R.log,bO x.wp R.win,bu x.ap R.bH,bV x.rp R.bC,pt eb (cL e) iE,aQ b T] [bz p R,aQ b T]:=
   (ae.rep x (dG [0,0,0,0,0,0,1])).ar
  have none_:¬(BD R e=true∧dY R.log e=0)→R.Ok∧([]:List dd).length≤10000∧fI R e=(R,[]++R.dU):=fun h=>⟨ok,by simp,by rw[fI,if_neg h];rfl⟩
  refine CS (CD (ts 0 6 (.only 6 (ts 7 7 (.only 14 (ts 15 2 .nil))))) yn yr ?_)
  refine HJ ?_
  refine AG (AR (fun Fr w hF hs hS=>Win.fF Fr w (hS.aP 3 Z) w0) Z Z yu ?_)
  refine HI ?_
  refine eT ?_
  cases h1:(e.index == R.win.last+1) with
  | false=>
   refine AG (AY 17 false Z h1 ?_)
   refine Pc ?_
   refine r_ ?_
   exact⟨(R,[]),none_ (fun h=>by rw[BD,h1] at h;exact absurd h.1 yf),bd,by dsimp only;rw[Zi];exact shut⟩
  | true=>
  refine AG (AY 17 true Z h1 ?_)
  (repeat(first|refine yG (yN ?_)|refine yG (yD 0 rfl rfl rfl rfl rfl ?_)|refine yG (yD 1 rfl rfl rfl rfl rfl ?_)|refine yG (yD 2 rfl rfl rfl rfl rfl ?_)|refine yG (yD 3 rfl rfl rfl rfl rfl ?_)|refine yG (yD 4 rfl rfl rfl rfl rfl ?_)|refine yG (yD 5 rfl rfl rfl rfl rfl ?_)|refine yG (yD 6 rfl rfl rfl rfl rfl ?_)|refine yG (yU rfl rfl rfl rfl ?_)))
  refine AG (AR (fun Fr w hF hs hS=>Win.free_spec Fr w (hS.aP 3 Z) ok.win) Z Z yu ?_)
  refine lS ?_
  refine CP Z (fun h2=>?_) (fun h2=>CK ?_)
  rotate_left
  ·exact⟨(R,[]),none_ (fun h=>by rw[BD,h1,DF h2] at h;exact absurd h.1 yf),bd,by dsimp only;rw[Zi];exact shut⟩
  have hfb:BD R e=true:=by rw[BD,h1,DT h2];rfl
  refine CS ?_
  refine VC.cq (σ:=Nat) (fun rb=>[(0,pV p),(2,cI b),(7,.int .i64 (dY R.log e))]) (fun rb=>[pt rb (bn (iF R.log e)) jd,pt p (aS R x) dM,aJ aG 2 x.a R.ch.ms.length x.c (flat ax R.ch.ms),b9 x.lp (fS R.log e),bO x.wp R.win,bu x.ap R.bH,bV x.rp R.bC,pt eb (cL e) iE,aQ b S]) (fun _=>True) ?_ ?_
  ·refine XE ?_
   refine HJ ?_
   refine AG (VA.kn 6 (cL e) Z Z Z Z Z ?_)
   refine AG (VA.two Z Z Z Z Z (a8.ja (ψ:=fun v H=>v=.tuple #[.agg (bn (iF R.log e)).toArray,.int .i64 (dY R.log e)]∧H=b9 x.lp (fS R.log e)) 2 Z (fun Fr w hF hs hS=>Lg.kZ Fr w x.lp R.log e) Z yy) Z Z Z (a8.alloc Z) ?_ ?_ ?_ ?_)
   ·rintro _ _ ⟨_,⟨rfl,rfl⟩,rfl⟩
    exact yu
   ·rintro _ _ ⟨rb,rfl,rfl⟩
    exact yu
   ·rintro _ _ ⟨_,⟨rfl,rfl⟩,rfl⟩
    refine eT ?_
    refine AG (AO (a8.alloc Z) Z ?_ ?_)
    ·rintro _ _ ⟨rb,rfl,rfl⟩
     exact yu
    rintro _ _ ⟨rb,rfl,rfl⟩
    refine AG (AT (vs:=bn (iF R.log e)) 0 Z Z Z Z Z (NR _) Z Z Z yu ?_)
    exact T0
   ·rintro _ _ ⟨rb,rfl,rfl⟩
    refine AG (AO (a8.ja (ψ:=fun v H=>v=.tuple #[.agg (bn (iF R.log e)).toArray,.int .i64 (dY R.log e)]∧H=b9 x.lp (fS R.log e)) 3 Z (fun Fr w hF hs hS=>Lg.kZ Fr w x.lp R.log e) Z yy) Z ?_ ?_)
    ·rintro _ _ ⟨_,⟨rfl,rfl⟩,rfl⟩
     exact yu
    rintro _ _ ⟨_,⟨rfl,rfl⟩,rfl⟩
    refine eT ?_
    refine AG (AT (vs:=bn (iF R.log e)) 0 Z Z Z Z Z (NR _) Z Z Z yu ?_)
    exact T0
  rintro rb -
  refine an ?_
  refine CE Z (fun h3=>?_) (fun h3=>CK ?_)
  rotate_left
  ·have hla:fS R.log e=R.log:=by rw[fS,if_neg h3]
   rw[hla]
   exact⟨(R,[]),none_ (fun h=>h3 h.2),bd,by
    dsimp only;rw[Zi]
    exact(ae.rep x (dG [1,1,1,1,1,1,2])).ar⟩
  have hla:fS R.log e=R.log ++ [e]:=by rw[fS,if_pos h3]
  have hroom:=uP hfb
  have okp:=mm ok h3 hroom
  rw[hla]
  refine jA ?_
  refine VG (VQ 4 Z (fun Fr w hF hs hS=>Win.jc Fr w ok.win hroom) Z (ψ:=fun v H=>v=.bool true∧H=bO x.wp { R.win with last:=R.win.last+1 }) yy ?_)
  rintro _ _ ⟨rfl,rfl⟩
  refine VO.ar (L':=[bz p (fq R e),aQ b S]) (ae.rep (R:=fq R e) x (dG [1,1,1,1,1,1,2])).ar ?_
  refine an ?_
  refine VG (VK (Lc:=[bz p (fq R e),aQ b S]) (Lr:=[]) (fun Fr w hF hs hS=>oI Fr w okp yd) Z Z ?_)
  rintro _ _ ⟨rfl,rfl⟩
  have fl:=jq okp
  refine an ?_
  refine VG (VK (Lc:=[bz p (fq R e).bg,aQ b (S++(fq R e).fV)]) (Lr:=[]) (fun Fr w hF hs hS=>tk Fr w (jg okp) JX) Z Z ?_)
  rintro _ _ ⟨rfl,rfl⟩
  have bl:=oJ (fq R e).bg
  refine an ?_
  refine⟨((fq R e).bg.eF,(fq R e).fV++(fq R e).bg.iL),⟨qA (jg okp),by dsimp only;rw[Zh];omega,by rw[fI,if_pos ⟨hfb,h3⟩]⟩,bd,?_⟩
  dsimp only
  rw[Zr]
  exact ER
 rintro⟨R',T⟩ ⟨ok',hT,hf⟩
 dsimp only at ok' hT hf ⊢
 refine VC.e7 0 Z (aV.rep p R') ?_
 rintro x -
 show VC _ _ _ (iw p R' x b (S++T)) _
 unfold iw
 refine an ?_
 refine VG (VQ 6 Z (fun Fr w hF hs hS=>ng Fr w (fR.Gn hS 0 Z Z Z Z Z Z) ok'.ch ok'.win JX) Z (ψ:=fun v H=>v=.tuple #[]∧H=aQ b (S++T++R'.dU)) yy ?_)
 rintro _ _ ⟨rfl,rfl⟩
 refine an ?_
 exact ay.void Z (dN (R:=R') (x:=x)).ar ⟨rfl,by rw[hf,Zr]⟩
end
end Rep
namespace Rep
open Go Vg T Api Kv Ch Lg Rd Win Adm
attribute [local irreducible] VO VC VA
def jh(R:au)(f:aa):au:=if R.linked then { R with cK:=max R.cK f.cK } else { R with linked:=true,cK:=f.cK,win:={ R.win with dp:=min (max f.cK 0) R.win.last } }
def oK(R:au)(f:aa):au:={ jh R f with win:={ (jh R f).win with gJ:=max (jh R f).win.gJ (min f.s8 4112) } }
def oL(R:au)(f:aa):au×List dd:=
 ({ oK R f with win:=(oK R f).win.Df f.index },if (oK R f).win.tO f.index then au.dU { oK R f with win:=(oK R f).win.Df f.index } else [])
theorem E_{R:au}(h:R.Ok)(f:aa):(jh R f).Ok:=by
 unfold jh
 split
 ·exact XD
 ·have hw:=h.win
  refine⟨h.ch,⟨hw.eS,hw.gR,hw.jL,hw.jM,hw.gS,?_,?_,hw.Dx,hw.Dy⟩,h.last,h.nh,h.ni,h.tj,h.sG,h.rl,h.zJ,h.AU,h.xu,h.calls,h.wf⟩
  ·show 0≤min (max f.cK 0) R.win.last
   have:=hw.jL;have:=hw.jM;omega
  ·show min (max f.cK 0) R.win.last≤R.win.last;omega
theorem E'{R:au}(h:R.Ok)(f:aa):(oK R f).Ok:=by
 have h1:=E_ h f
 have hw:=h1.win
 unfold oK
 refine⟨h1.ch,⟨hw.eS,hw.gR,hw.jL,hw.jM,hw.gS,hw.fY,hw.Bc,?_,?_⟩,h1.last,h1.nh,h1.ni,h1.tj,h1.sG,h1.rl,h1.zJ,h1.AU,h1.xu,h1.calls,h1.wf⟩
 ·show 0≤max (jh R f).win.gJ (min f.s8 4112);have:=hw.Dx;omega
 ·show max (jh R f).win.gJ (min f.s8 4112)≤4112;have:=hw.Dy;omega
theorem Fa{R:au}(h:R.Ok)(f:aa):(oL R f).1.Ok:=by
 have h2:=E' h f
 exact⟨h2.ch,Iw h2.win _,by show((oK R f).win.Df f.index).last=_;rw[BC];exact h2.last,h2.nh,h2.ni,h2.tj,h2.sG,h2.rl,h2.zJ,h2.AU,h2.xu,h2.calls,h2.wf⟩
section
variable {p:Nat} {R:au} {b:Nat} {S:List dd}
theorem qZ(ok:R.Ok)(hS:S.length≤800000)(f:aa)(m:kL):aH Tryz.prog 197 [.pointer (some ⟨p,0,none⟩),.agg (iz f m).toArray,cI b] Fr w [bz p R,aQ b S]
  (fun v L=>v=.tuple #[]∧L=[bz p (oL R f).1,aQ b (S++(oL R f).2)]):=by
 have ok1:=E_ ok f
 have ok2:=E' ok f
 refine TF 52 Tryz.func197 Z yn ah Z Z ?_
 refine CS (CG (VG (VB (vs:=iz f m) Z fun fb=>VG (VN ?_))))
 refine TH ?_
 rintro x -
 show VC _ _ _ [pt p (aS R x) dM,aJ aG 2 x.a R.ch.ms.length x.c (flat ax R.ch.ms),b9 x.lp R.log,bO x.wp R.win,bu x.ap R.bH,bV x.rp R.bC,pt fb (iz f m) g_,aQ b S] _
 refine CS ?_
 refine VC.cq (σ:=Unit) (fun _=>[(0,pV p),(2,cI b),(4,pV fb)]) (fun _=>[pt p (aS (jh R f) x) dM,aJ aG 2 x.a R.ch.ms.length x.c (flat ax R.ch.ms),b9 x.lp R.log,bO x.wp (jh R f).win,bu x.ap R.bH,bV x.rp R.bC,pt fb (iz f m) g_,aQ b S]) (fun _=>True) ?_ ?_
 ·refine an ?_
  cases hl:R.linked with
  | true=>
   have e:jh R f={ R with cK:=max R.cK f.cK }:=by rw[jh,hl];rfl
   refine wm ?_
   refine CD (ts 0 10 (.only 10 .nil)) yn yr ?_
   refine HJ ?_
   refine AG (VA.st 0 (cs':=aS { R with cK:=if R.cK<f.cK then f.cK else R.cK } x) Z Z Z Z Z (Zo Z) Z Z yu ?_)
   refine eT ?_
   exact⟨(),trivial,bd,by rw[e,show max R.cK f.cK=(if R.cK<f.cK then f.cK else R.cK) by split<;>omega];exact ER⟩
  | false=>
   have e:jh R f={ R with linked:=true,cK:=f.cK,win:={ R.win with dp:=min (max f.cK 0) R.win.last } }:=by rw[jh,hl];rfl
   refine HF ?_
   refine CS (CD (ts 0 6 (.only 6 (ts 7 2 (.only 9 .nil)))) yn yr ?_)
   refine HJ ?_
   refine AG (VA.st 0 (cs':=aS { R with linked:=true } x) Z Z Z Z Z (Zo Z) Z Z yu ?_)
   refine HJ ?_
   refine AG (VA.st 0 (cs':=aS { R with linked:=true,cK:=f.cK } x) Z Z Z Z Z (Zo Z) Z Z yu ?_)
   refine eT ?_
   refine TB ?_
   refine HJ ?_
   refine AG (AQ 3 Z (fun Fr w hF hs hS=>Win.xj Fr w ok.win f.cK) Z Z (ψ:=fun v H=>v=.tuple #[]∧H=bO x.wp { R.win with dp:=min (max f.cK 0) R.win.last }) yy ?_ ?_)
   ·rintro _ _ ⟨rfl,rfl⟩
    exact yu
   rintro _ _ ⟨rfl,rfl⟩
   refine eT ?_
   exact⟨(),trivial,bd,by rw[e];exact ER⟩
 rintro _ -
 have e1:(jh R f).ch=R.ch∧(jh R f).log=R.log∧(jh R f).bH=R.bH∧(jh R f).bC=R.bC:=by unfold jh;split<;>exact⟨rfl,rfl,rfl,rfl⟩
 refine Ts ?_
 refine HJ ?_
 refine AG (AQ 3 Z (fun Fr w hF hs hS=>Win.Dz Fr w ok1.win f.s8) Z Z (ψ:=fun v H=>v=.tuple #[]∧H=bO x.wp (oK R f).win) yy ?_ ?_)
 ·rintro _ _ ⟨rfl,rfl⟩
  exact yu
 rintro _ _ ⟨rfl,rfl⟩
 refine eT ?_
 refine Ts ?_
 refine HJ ?_
 refine AG (AQ 3 Z (fun Fr w hF hs hS=>Win.qZ Fr w ok2.win f.index) Z Z (ψ:=fun v H=>v=.bool ((oK R f).win.tO f.index)∧H=bO x.wp ((oK R f).win.Df f.index)) yy ?_ ?_)
 ·rintro _ _ ⟨rfl,rfl⟩
  exact yu
 rintro _ _ ⟨rfl,rfl⟩
 refine eT ?_
 have oka:=Fa ok f
 have hrep:DN p (oL R f).1 x=[pt p (aS (jh R f) x) dM,aJ aG 2 x.a R.ch.ms.length x.c (flat ax R.ch.ms),b9 x.lp R.log,bO x.wp ((oK R f).win.Df f.index),bu x.ap R.bH,bV x.rp R.bC]:=by
  show [pt p (aS (jh R f) x) dM,aJ aG 2 x.a (jh R f).ch.ms.length x.c (flat ax (jh R f).ch.ms),b9 x.lp (jh R f).log,_,bu x.ap (jh R f).bH,bV x.rp (jh R f).bC]=_
  rw[e1.1,e1.2.1,e1.2.2.1,e1.2.2.2];rfl
 refine CN (L':=DN p (oL R f).1 x ++ [aQ b S]) (by rw[hrep];exact(dG [0,0,0,0,0,0,1]).ar) ?_
 refine CC Z (fun hb=>?_) (fun hb=>CK ?_)
 ·refine an ?_
  refine VG (VQ 6 Z (fun Fr w hF hs hS=>ng (R:=(oL R f).1) Fr w (fR.Gn hS 0 Z Z Z Z Z Z) oka.ch oka.win yd) Z (ψ:=fun v H=>v=.tuple #[]∧H=aQ b (S++(oL R f).1.dU)) yy ?_)
  rintro _ _ ⟨rfl,rfl⟩
  refine an ?_
  exact ay.void Z (dN (R:=(oL R f).1) (x:=x)).ar ⟨rfl,by rw[show(oL R f).2=(oL R f).1.dU by rw[oL,hb];rfl]⟩
 ·exact ay.void Z (dN (R:=(oL R f).1) (x:=x)).ar ⟨rfl,by rw[show(oL R f).2=[] by rw[oL,hb];rfl,Zi]⟩
def oM(al:Int)(e:aY):aa:={ aa.zero with kind:=4,al:=al,entry:=e }
def cX(R:au):Nat→cD×List dd
 | 0=>(R.win,[])
 | k+1=>((cX R k).1.next,(cX R k).2 ++ [(R.dz,oM R.ch.al ((pL R.log ((cX R k).1.dp+1)).getD lE))])
def il(R:au):Nat:=(min R.win.last R.win.gJ-R.win.dp).toNat
def uQ(R:au):au×List dd:=({ R with win:=(cX R (il R)).1 },(cX R (il R)).2)
theorem px(R:au):∀k,k≤il R→(cX R k).1={ R.win with dp:=R.win.dp+k }
 | 0,_=>by simp[cX]
 | k+1,h=>by
  unfold il at h
  rw[cX,px R k (by unfold il;omega)]
  have hb:({ R.win with dp:=R.win.dp+k }:cD).ei=true:=by simp only[cD.ei,Zx,decide_eq_true_eq];omega
  rw[cD.next,if_pos hb]
  have:R.win.dp+(k:Int)+1=R.win.dp+((k+1:Nat):Int):=by push_cast;omega
  show cD.mk _ _ _ (R.win.dp+(k:Int)+1) _=cD.mk _ _ _ (R.win.dp+((k+1:Nat):Int)) _
  rw[this]
theorem sI(R:au):∀k,(cX R k).2.length=k
 | 0=>rfl
 | k+1=>by rw[cX,Zh,sI R k];rfl
theorem Fb{W:cD}(h:W.Ok):W.next.Ok:=by
 unfold cD.next
 split
 ·rename_i hb
  simp only[cD.ei,Zx,decide_eq_true_eq] at hb
  have:=h.fY
  exact⟨h.eS,h.gR,h.jL,h.jM,h.gS,by show 0≤W.dp+1;omega,by show W.dp+1≤W.last;omega,h.Dx,h.Dy⟩
 ·exact h
theorem uR{R:au}(h:R.Ok):∀k,(cX R k).1.Ok
 | 0=>h.win
 | k+1=>Fb (uR h k)
end
section
variable {p:Nat} {R:au} {b:Nat} {S:List dd}
theorem sr(ok:R.Ok)(hS:S.length≤800000):aH Tryz.prog 103 [.pointer (some ⟨p,0,none⟩),cI b] Fr w [bz p R,aQ b S]
  (fun v L=>v=.tuple #[]∧L=[bz p (uQ R).1,aQ b (S++(uQ R).2)]):=by
 have w1:=ok.win.gS;have w2:=ok.win.fY;have w3:=ok.win.Bc;have w4:=ok.win.Dy;have w5:=ok.win.Dx
 have hlast:=ok.last
 have hK:il R≤4096:=by unfold il;omega
 refine TF 47 Tryz.func103 Z yn ah Z Z ?_
 refine Q1 ?_
 rintro x -
 show VC _ _ _ (iw p R x b S) _
 unfold iw
 refine an ?_
 refine XF ?_
 refine an ?_
 have hnx:∀k,k≤il R→((cX R k).1.ei=decide (k<il R)):=fun k hk=>by
  rw[px R k hk]
  unfold il at hk ⊢
  simp only[cD.ei]
  by_cases h:(R.win.dp+(k:Int)<R.win.last)∧(R.win.dp+(k:Int)<R.win.gJ)
  ·rw[DT h.1,DT h.2,DT yd];rfl
  ·rw[DF (show ¬k<(min R.win.last R.win.gJ-R.win.dp).toNat by omega)]
   by_cases h1:R.win.dp+(k:Int)<R.win.last
   ·rw[DT h1,DF (fun h2=>h ⟨h1,h2⟩)];rfl
   ·rw[DF h1];rfl
 refine VG (VQ 3 Z (fun Fr w hF hs hS=>Win.gz Fr w ok.win) Z (ψ:=fun v H=>v=.tuple #[.int .i64 (if R.win.ei then R.win.dp+1 else 0),.bool R.win.ei]∧H=bO x.wp R.win.next) yy ?_)
 rintro _ _ ⟨rfl,rfl⟩
 refine an ?_
 refine VC.loop (σ:=Nat) (fun k=>[(0,pV p),(1,cI b),(4,.int .i64 R.dz),(5,.int .i64 (if (cX R k).1.ei then (cX R k).1.dp+1 else 0)),(6,.bool (cX R k).1.ei)])
  (fun k=>[pt p (aS R x) dM,aJ aG 2 x.a R.ch.ms.length x.c (flat ax R.ch.ms),b9 x.lp R.log,bO x.wp (cX R k).1.next,bu x.ap R.bH,bV x.rp R.bC,aQ b (S++(cX R k).2)])
  (fun k=>k≤il R) (fun k=>il R-k) 0
  (Zj _) bd (by rw[show(cX R 0).2=[] from rfl,Zi];exact ER) ?_
 intro k hk
 have hnk:=hnx k hk
 have hwk:=px R k hk
 have hpl:=sI R k
 have hok:=uR ok k
 refine an ?_
 refine CC Z (fun h1=>CK ?_) (fun h1=>CX ?_)
 ·have hk2:k<il R:=by rw[h1] at hnk;exact of_decide_eq_true hnk.symm
  have hs1:(cX R k).1.dp=R.win.dp+k:=by rw[hwk]
  have hbd:R.win.dp+(k:Int)<R.win.last:=by unfold il at hk2;omega
  have hwk2:(cX R (k+1)).1=(cX R k).1.next:=rfl
  rw[h1]
  obtain⟨j,e,hj1,hj2,hj3,hj4⟩:=re (l:=R.log) (i:=(cX R k).1.dp+1) yd yd
  refine CS (VC.block ?_)
  refine an ?_
  refine VG (VV (fun Fr w hF hs hS=>Lg.rf Fr w (hS.at_ 2 Z) ((cX R k).1.dp+1) yd yd) Z ?_)
  refine an ?_
  refine VG (VO.alloc Z fun eb=>?_)
  refine VG (VT (vs:=cL ((pL R.log ((cX R k).1.dp+1)).getD lE)) 0 Z Z Z Z (NR _) Z Z Z (VG (VN ?_)))
  refine CD (ts 0 9 (.only 9 .nil)) yn yr ?_
  refine qe ?_
  refine AG (VA.kn 0 (cL ((pL R.log ((cX R k).1.dp+1)).getD lE)) Z Z Z Z Z ?_)
  refine AG (AI Z (LB (pv:=[(0,.int .i64 4),(1,.int .i64 R.ch.al),(10,.agg (cL ((pL R.log ((cX R k).1.dp+1)).getD lE)).toArray)]) (iz (oM R.ch.al ((pL R.log ((cX R k).1.dp+1)).getD lE)) m_) Z Z Z yn Z) ?_)
  refine AG (VA.fx 7 Z Z (fun Fr w hF hs _=>iH Fr w b (S++(cX R k).2) JX R.dz (oM R.ch.al ((pL R.log ((cX R k).1.dp+1)).getD lE))) Z Z (ψ:=fun v H=>v=.tuple #[]∧H=aQ b (S++(cX R k).2 ++ [(R.dz,oM R.ch.al ((pL R.log ((cX R k).1.dp+1)).getD lE))])) yy ?_ ?_)
  ·rintro _ _ ⟨rfl,rfl⟩
   exact yu
  rintro _ _ ⟨rfl,rfl⟩
  refine eT ?_
  refine jA ?_
  refine VG (VQ 4 Z (fun Fr w hF hs hS=>Win.gz Fr w (Fb hok)) Z (ψ:=fun v H=>v=.tuple #[.int .i64 (if (cX R (k+1)).1.ei then (cX R (k+1)).1.dp+1 else 0),.bool (cX R (k+1)).1.ei]∧H=bO x.wp (cX R (k+1)).1.next) yy ?_)
  rintro _ _ ⟨rfl,rfl⟩
  refine an ?_
  refine⟨k+1,hk2,by dsimp only;omega,bd,?_⟩
  dsimp only
  rw[show(cX R (k+1)).2=(cX R k).2 ++ [(R.dz,oM R.ch.al ((pL R.log ((cX R k).1.dp+1)).getD lE))] from rfl,←Zr]
  exact(dG [1,1,1,1,1,1,1]).ar
 ·have hk2:k=il R:=by
   rw[h1] at hnk
   have:¬k<il R:=of_decide_eq_false hnk.symm
   omega
  have hwn:(cX R k).1.next=(cX R k).1:=by rw[cD.next,h1];rfl
  rw[hwn,hk2]
  exact ay.void Z (ae.rep (R:=(uQ R).1) x (IP 0 Z (IP 0 Z (IP 0 Z (IP 0 Z (IP 0 Z (IP 0 Z (IP 0 Z ae.nil)))))))).ar ⟨rfl,Z⟩
end
end Rep
namespace Rep
open Go Vg T Api Kv Ch Lg Rd Win Adm Sched
attribute [local irreducible] VO VC VA
def refs(al:Int)(gs:List aa)(reason:Int):List dd:=gs.map fun f=>(32+f.aj,dt al f reason)
def dA(R:au)(now:Int):aa:=(eM (R.bH.ct now).bN).1
def uS(R:au)(now:Int):Bool:=(eM (R.bH.ct now).bN).2.1
def ey(R:au)(now:Int):aY:=⟨R.log.length+1,(dA R now).aj,(dA R now).seq,(dA R now).op⟩
def nS(R:au)(now:Int):au:={ R with bH:=R.bH.dz now }
def dv(R:au)(now:Int):au×List dd×Bool:=
 if uS R now=false then (nS R now,refs R.ch.al (R.bH.bN.cy now) 2,false)
 else if dY R.log (ey R now)≠0 then ({ R with bH:=((R.bH.dz now).fh (dA R now).aj (dA R now).seq (dA R now).cn).2 },refs R.ch.al (R.bH.bN.cy now) 2 ++ [(32+(dA R now).aj,dt R.ch.al (dA R now) 7)],true)
 else ((fq (nS R now) (ey R now)).bg,refs R.ch.al (R.bH.bN.cy now) 2++(fq (nS R now) (ey R now)).fV,true)
theorem uT{R:au}(h:R.Ok)(now:Int):(nS R now).Ok:=⟨h.ch,h.win,h.last,h.nh,h.ni,h.tj,h.sG,h.rl,h.zJ,h.AU,h.xu,DL h.wf h.calls now,Ni h.wf now⟩
theorem uU{A:aD}(h:A.Calls)(k s t:Int):(A.fh k s t).2.Calls:=by
 have e:(A.fh k s t).2.bN=A.bN∧(A.fh k s t).2.aB=A.aB:=by
  unfold aD.fh
  split
  ·exact⟨by show(A.lG k s t).bN=_;unfold aD.lG;split<;>rfl,mZ A k s t⟩
  ·exact⟨rfl,Z⟩
 unfold aD.Calls
 rw[e.1,e.2];exact h
theorem uV{R:au}(h:R.Ok){A:aD}(hC:A.Calls)(hW:A.Wf):({ R with bH:=A }:au).Ok:=⟨h.ch,h.win,h.last,h.nh,h.ni,h.tj,h.sG,h.rl,h.zJ,h.AU,h.xu,hC,hW⟩
theorem py{R:au}(h:R.Ok)(hr:R.win.room=true)(now:Int):(dv R now).1.Ok:=by
 have hn:=uT h now
 unfold dv
 split
 ·exact hn
 split
 ·exact uV h (uU hn.calls _ _ _) (hn.wf.fh _ _ _)
 ·rename_i h2
  exact jg (mm hn (by show dY R.log _=0;omega) hr)
theorem rA{R:au}(h:R.Ok)(now:Int):(R.bH.bN.cy now).length≤64:=by
 have:=aA.Wf.P9 h.wf.bN R.bH.bN.cls.length now
 rw[ZF] at this;exact this
theorem BE{R:au}(h:R.Ok)(now:Int)(ho:uS R now=true):0≤(dA R now).aj∧(dA R now).aj<6:=by
 obtain⟨h1,h2,h3⟩:=ik h.wf now
 obtain⟨k,q,e1,e2⟩:=tV h1.bN ho
 have hc:=pw h.wf h.calls now _ (ME e1) (dA R now) (by simp[dA])
 have:=h.wf.c1
 exact⟨hc.1.1,by have:=hc.1.2;rw[h2] at this;omega⟩
section
variable {p:Nat} {R:au} {b:Nat} {S:List dd}
theorem DR(ok:R.Ok)(hr:R.win.room=true)(hS:S.length≤800000)(now:Int):aH Tryz.prog 102 [.pointer (some ⟨p,0,none⟩),.int .i64 now,cI b] Fr w [bz p R,aQ b S]
  (fun v L=>v=.bool (dv R now).2.2∧L=[bz p (dv R now).1,aQ b (S++(dv R now).2.1)]):=by
 have hg64:=rA ok now
 have hn:=uT ok now
 have hgc:=zH ok.calls now
 have hc6:=ok.wf.c1
 refine TF 85 Tryz.func102 Z yn ah Z Z ?_
 refine Q1 ?_
 rintro x -
 show VC _ _ _ (iw p R x b S) _
 unfold iw
 refine an ?_
 refine VO.ar (L':=[bu x.ap R.bH,pt p (aS R x) dM,aJ aG 2 x.a R.ch.ms.length x.c (flat ax R.ch.ms),b9 x.lp R.log,bO x.wp R.win,bV x.rp R.bC,aQ b S]) (dG [4,0,0,0,0,0,0]).ar ?_
 refine VG (VK (Lc:=[bu x.ap R.bH]) (fun Fr w hF hs hS=>Adm.gz Fr w x.ap R.bH now ok.wf ok.calls) Z Z ?_)
 rintro _ _ ⟨r,m,rok,hrx,rfl,rfl⟩
 show VO _ _ _ _ _ [r.h 204,bu x.ap (R.bH.dz now),pt p (aS R x) dM,aJ aG 2 x.a R.ch.ms.length x.c (flat ax R.ch.ms),b9 x.lp R.log,bO x.wp R.win,bV x.rp R.bC,aQ b S] _
 refine an ?_
 refine VG (VO.alloc Z fun fb=>?_)
 refine VG (VT (vs:=cF (dA R now,m)) 0 Z Z Z Z (NR _) Z Z Z ?_)
 have hrv:r.v=.slice r.addr r.xs.length r.cap:=rfl
 rw[hrv]
 refine an ?_
 refine VC.loop (σ:=Nat) (fun i=>[(0,pV p),(2,cI b),(7,pV fb),(8,.bool (uS R now)),(25,.slice r.addr r.xs.length r.cap),(26,.int .i64 r.xs.length),(27,.int .i64 i)])
  (fun i=>[pt fb (cF (dA R now,m)) g_,r.h g_,bu x.ap (R.bH.dz now),pt p (aS R x) dM,aJ aG 2 x.a R.ch.ms.length x.c (flat ax R.ch.ms),b9 x.lp R.log,bO x.wp R.win,bV x.rp R.bC,aQ b (S++refs R.ch.al ((R.bH.bN.cy now).take i) 2)])
  (fun i=>i≤r.xs.length) (fun i=>r.xs.length-i) 0
  (Zj _) bd (by rw[Z0,show refs R.ch.al [] 2=[] from rfl,Zi];exact ER) ?_
 intro i hi
 have hxl:r.xs.length=(R.bH.bN.cy now).length:=by rw[←hrx];simp
 refine an ?_
 refine CP Z (fun h1=>CK ?_) (fun h1=>CX ?_)
 ·have hi2:i<r.xs.length:=by omega
  obtain⟨g,hg⟩:∃g,r.xs[i]?=some g:=⟨_,GE hi2⟩
  have hgg:(R.bH.bN.cy now)[i]?=some g.1:=by rw[←hrx,Zn,hg];rfl
  have hcl:=hgc g.1 (ME hgg)
  obtain⟨gb,go,r1,r2,hrd⟩:=rok.ld (t:=g_) hg rfl
  rw[r2]
  refine Kl ?_
  refine VG (VO.load Z Z ((hrd 1 Z).1 _ Z Z) ?_)
  refine VG (VO.alloc Z fun tb=>?_)
  refine VG (VT (vs:=cF g) 0 Z Z Z Z (NR _) Z Z Z ?_)
  refine an ?_
  refine VG (VL 0 (cF g) Z Z Z Z ?_)
  refine VG (VQ 9 Z (fun Fr w hF hs hS=>gu Fr w (hS.aP 4 Z) WN g.1 g.2 hcl.1.1 (by have:=hcl.1.2;omega) 2) Z (ψ:=fun v H=>v=.tuple #[]∧H=aQ b (S++refs R.ch.al ((R.bH.bN.cy now).take i) 2 ++ [(32+g.1.aj,dt R.ch.al g.1 2)])) yy ?_)
  rintro _ _ ⟨rfl,rfl⟩
  refine sd ?_
  refine⟨i+1,hi2,by dsimp only;omega,bd,?_⟩
  dsimp only
  rw[show refs R.ch.al ((R.bH.bN.cy now).take (i+1)) 2=refs R.ch.al ((R.bH.bN.cy now).take i) 2 ++ [(32+g.1.aj,dt R.ch.al g.1 2)] by rw[Zu,hgg];simp[refs],←Zr]
  exact(dG [1,1,1,1,1,1,1,1,1]).ar
 ·obtain rfl:i=r.xs.length:=by omega
  rw[hxl,ZF]
  have hrl:(refs R.ch.al (R.bH.bN.cy now) 2).length≤64:=by rw[refs,Zm];exact hg64
  refine an ?_
  refine VC.dT Z (fun ho=>?_) (fun ho=>CK ?_)
  ·refine an ?_
   exact CR (ay.tmp 6 Z Z (ae.rep (R:=nS R now) x (IP 3 Z (IP 3 Z (IP 3 Z (IP 3 Z (IP 2 Z (IP 2 Z (IP 2 Z ae.nil)))))))).ar ⟨by rw[dv,if_pos ho],by rw[dv,if_pos ho]⟩)
  have hno:¬uS R now=false:=by rw[ho];simp
  have hcf:=BE ok now ho
  have w1:=ok.win.gS;have hla:=ok.last
  refine CS ?_
  refine VC.cq (σ:=Nat) (fun eb=>[(0,pV p),(2,cI b),(7,pV fb),(12,pV eb)]) (fun eb=>[pt eb (cL (ey R now)) iE,pt fb (cF (dA R now,m)) g_,r.h g_,bu x.ap (R.bH.dz now),pt p (aS R x) dM,aJ aG 2 x.a R.ch.ms.length x.c (flat ax R.ch.ms),b9 x.lp R.log,bO x.wp R.win,bV x.rp R.bC,aQ b (S++refs R.ch.al (R.bH.bN.cy now) 2)]) (fun _=>True) ?_ ?_
  ·refine CD (ts 0 4 (ts 6 6 (.two 4 13 (.take 5 (.take 12 (.only 13 (.only 14 .nil)))) (.only 4 (.take 5 (.take 12 (.only 14 .nil))))))) yn yr ?_
   refine tM ?_
   refine AG (VA.kn 0 (dA R now).op.cells Z Z Z Z Z ?_)
   refine AG (VA.two Z Z Z Z Z (a8.c_ (φ:=fun v=>v=.int .i64 R.log.length) (fun Fr w hF hs hS=>Lg.fe Fr w (hS.at_ 5 Z)) Z) Z Z Z (a8.alloc Z) ?_ ?_ ?_ ?_)
   ·rintro _ _ ⟨rfl,rfl⟩
    exact yu
   ·rintro _ _ ⟨eb,rfl,rfl⟩
    exact yu
   ·rintro _ _ ⟨rfl,rfl⟩
    refine HI ?_
    refine XG ?_
    refine AG (AO (a8.alloc Z) Z ?_ ?_)
    ·rintro _ _ ⟨eb,rfl,rfl⟩
     exact yu
    rintro _ _ ⟨eb,rfl,rfl⟩
    refine AG (AT (vs:=cL (ey R now)) 0 Z Z Z Z Z (NR _) Z Z Z yu ?_)
    refine eT ?_
    exact⟨eb,trivial,bd,ER⟩
   ·rintro _ _ ⟨eb,rfl,rfl⟩
    refine AG (AO (a8.c_ (φ:=fun v=>v=.int .i64 R.log.length) (fun Fr w hF hs hS=>Lg.fe Fr w (hS.at_ 6 Z)) Z) Z ?_ ?_)
    ·rintro _ _ ⟨rfl,rfl⟩
     exact yu
    rintro _ _ ⟨rfl,rfl⟩
    refine HI ?_
    refine XG ?_
    refine AG (AT (vs:=cL (ey R now)) 0 Z Z Z Z Z (NR _) Z Z Z yu ?_)
    refine eT ?_
    exact⟨eb,trivial,bd,ER⟩
  rintro eb -
  refine CS (CS ?_)
  refine VC.cq (σ:=Nat) (fun rb=>[(0,pV p),(2,cI b),(7,pV fb),(14,.int .i64 (dY R.log (ey R now)))]) (fun rb=>[pt rb (bn (iF R.log (ey R now))) jd,pt eb (cL (ey R now)) iE,pt fb (cF (dA R now,m)) g_,r.h g_,bu x.ap (R.bH.dz now),pt p (aS R x) dM,aJ aG 2 x.a R.ch.ms.length x.c (flat ax R.ch.ms),b9 x.lp (fS R.log (ey R now)),bO x.wp R.win,bV x.rp R.bC,aQ b (S++refs R.ch.al (R.bH.bN.cy now) 2)]) (fun _=>True) ?_ ?_
  ·refine XE ?_
   refine J0 ?_
   refine AG (VA.kn 0 (cL (ey R now)) Z Z Z Z Z ?_)
   refine AG (VA.two Z Z Z Z Z (a8.ja (ψ:=fun v H=>v=.tuple #[.agg (bn (iF R.log (ey R now))).toArray,.int .i64 (dY R.log (ey R now))]∧H=b9 x.lp (fS R.log (ey R now))) 6 Z (fun Fr w hF hs hS=>Lg.kZ Fr w x.lp R.log (ey R now)) Z yy) Z Z Z (a8.alloc Z) ?_ ?_ ?_ ?_)
   ·rintro _ _ ⟨_,⟨rfl,rfl⟩,rfl⟩
    exact yu
   ·rintro _ _ ⟨rb,rfl,rfl⟩
    exact yu
   ·rintro _ _ ⟨_,⟨rfl,rfl⟩,rfl⟩
    refine eT ?_
    refine AG (AO (a8.alloc Z) Z ?_ ?_)
    ·rintro _ _ ⟨rb,rfl,rfl⟩
     exact yu
    rintro _ _ ⟨rb,rfl,rfl⟩
    refine XH ?_
    exact T0
   ·rintro _ _ ⟨rb,rfl,rfl⟩
    refine AG (AO (a8.ja (ψ:=fun v H=>v=.tuple #[.agg (bn (iF R.log (ey R now))).toArray,.int .i64 (dY R.log (ey R now))]∧H=b9 x.lp (fS R.log (ey R now))) 7 Z (fun Fr w hF hs hS=>Lg.kZ Fr w x.lp R.log (ey R now)) Z yy) Z ?_ ?_)
    ·rintro _ _ ⟨_,⟨rfl,rfl⟩,rfl⟩
     exact yu
    rintro _ _ ⟨_,⟨rfl,rfl⟩,rfl⟩
    refine eT ?_
    refine XH ?_
    exact T0
  rintro rb -
  refine an ?_
  refine VC.bp Z (fun he=>?_) (fun he=>CK ?_)
  ·have hap:fS R.log (ey R now)=R.log:=by rw[fS,if_neg he]
   rw[hap]
   refine UD ?_
   refine AW ?_
   refine AG (AQ 4 Z (fun Fr w hF hs hS=>ry Fr w x.ap (R.bH.dz now) (dA R now).aj (dA R now).seq (dA R now).cn) Z Z (ψ:=fun v H=>H=bu x.ap ((R.bH.dz now).fh (dA R now).aj (dA R now).seq (dA R now).cn).2) (fun v L h=>⟨_,h.2,Z⟩) ?_ ?_)
   ·rintro _ _ rfl
    exact yu
   rintro _ _ rfl
   refine Oy ?_
   refine VG (VL 2 (cF (dA R now,m)) Z Z Z Z ?_)
   refine VG (VQ 10 Z (fun Fr w hF hs hS=>gu Fr w (hS.aP 5 Z) JX (dA R now) m hcf.1 yd 7) Z (ψ:=fun v H=>v=.tuple #[]∧H=aQ b (S++refs R.ch.al (R.bH.bN.cy now) 2 ++ [(32+(dA R now).aj,dt R.ch.al (dA R now) 7)])) yy ?_)
   rintro _ _ ⟨rfl,rfl⟩
   refine an ?_
   exact CR (ay.tmp 6 Z Z (ae.rep (R:={ R with bH:=((R.bH.dz now).fh (dA R now).aj (dA R now).seq (dA R now).cn).2 }) x (IP 5 Z (IP 5 Z (IP 5 Z (IP 5 Z (IP 4 Z (IP 4 Z (IP 4 Z ae.nil)))))))).ar ⟨by rw[dv,if_neg hno,if_pos he],by rw[dv,if_neg hno,if_pos he,←Zr]⟩)
  have hap:fS R.log (ey R now)=R.log ++ [ey R now]:=by rw[fS,if_pos he]
  rw[hap]
  have okp:=mm hn (e:=ey R now) he hr
  refine Tt ?_
  refine VG (VQ 8 Z (fun Fr w hF hs hS=>Win.jc Fr w ok.win hr) Z (ψ:=fun v H=>v=.bool true∧H=bO x.wp { R.win with last:=R.win.last+1 }) yy ?_)
  rintro _ _ ⟨rfl,rfl⟩
  refine VO.ar (L':=[bz p (fq (nS R now) (ey R now)),aQ b (S++refs R.ch.al (R.bH.bN.cy now) 2)]) (ae.rep (R:=fq (nS R now) (ey R now)) x (dG [5,5,5,5,4,4,4])).ar ?_
  refine an ?_
  refine VG (VK (Lc:=[bz p (fq (nS R now) (ey R now)),aQ b (S++refs R.ch.al (R.bH.bN.cy now) 2)]) (Lr:=[]) (fun Fr w hF hs hS=>oI Fr w okp JX) Z Z ?_)
  rintro _ _ ⟨rfl,rfl⟩
  refine an ?_
  exact CR (ay.tmp 6 Z Z ER ⟨by rw[dv,if_neg hno,if_neg (fun h=>h he)],by rw[dv,if_neg hno,if_neg (fun h=>h he),←Zr];rfl⟩)
end
end Rep
namespace Rep
open Go Vg T Api Kv Ch Lg Rd Win Adm Sched
attribute [local irreducible] VO VC VA
def BF(qs:List (List aa)):Nat:=(qs.map List.length).sum
def J9(A:aD):Nat:=BF A.bN.qs
theorem BG:∀{qs:List (List aa)} {k:Nat} {f:aa} {q:List aa},qs[k]?=some (f::q)→BF (qs.set k q)+1=BF qs
 | [],k,f,q,h=>by simp at h
 | x::qs,0,f,q,h=>by
  simp only[List.getElem?_cons_zero,Option.some.injEq] at h
  subst h
  simp[BF];omega
 | x::qs,k+1,f,q,h=>by
  have ih:=BG (qs:=qs) (k:=k) (f:=f) (q:=q) yc
  simp only[BF,List.set_cons_succ,ZX,List.sum_cons] at ih ⊢
  omega
theorem tm(p:aa→Bool):∀qs:List (List aa),BF (qs.map fun q=>q.filter p)≤BF qs
 | []=>NR _
 | x::qs=>by
  have ih:=tm p qs
  have:=Z1 p x
  simp only[BF,ZX,List.sum_cons] at ih ⊢
  omega
theorem Iy{R:au}(h:R.Ok)(now:Int)(ho:uS R now=true):J9 (R.bH.dz now)<J9 R.bH:=by
 obtain⟨h1,h2,h3⟩:=ik h.wf now
 obtain⟨k,q,e1,e2⟩:=tV h1.bN ho
 have e3:(R.bH.dz now).bN=(eM (R.bH.ct now).bN).2.2:=by
  unfold aD.dz
  split<;>rfl
 have h4:=BG e1
 have h5:=tm (stay now) R.bH.bN.qs
 rw[←Ie,←h3] at h5
 unfold J9
 rw[e3,e2]
 omega
theorem Qc{R:au}(h:R.Ok):J9 R.bH≤64:=by
 have:=aA.Wf.Y' h.wf.bN R.bH.bN.cls.length
 rw[ZF,List.length_flatMap] at this
 show((R.bH.bN.cls.map dI.q).map List.length).sum≤64
 rw[List.map_map];exact this
theorem Gq{R:au}(h:R.Ok)(now:Int)(ho:(dv R now).2.2=true):J9 (dv R now).1.bH<J9 R.bH:=by
 unfold dv at ho ⊢
 split at ho
 ·cases ho
 ·rename_i h1
  have hn:=Iy h now (by simpa using h1)
  rw[if_neg h1]
  split
  ·have e:((R.bH.dz now).fh (dA R now).aj (dA R now).seq (dA R now).cn).2.bN=(R.bH.dz now).bN:=by
    unfold aD.fh
    split
    ·show((R.bH.dz now).lG _ _ _).bN=_;unfold aD.lG;split<;>rfl
    ·rfl
   show J9 ((R.bH.dz now).fh _ _ _).2<_
   unfold J9 at hn ⊢
   rw[e];exact hn
  ·have e:(fq (nS R now) (ey R now)).bg.bH=R.bH.dz now:=by unfold au.bg;split<;>rfl
   show J9 (fq (nS R now) (ey R now)).bg.bH<_
   rw[e];exact hn
theorem tq{R:au}(h:R.Ok)(hr:R.win.room=true)(now:Int):(dv R now).2.1.length≤4200:=by
 have hg:(refs R.ch.al (R.bH.bN.cy now) 2).length≤64:=by rw[refs,Zm];exact rA h now
 unfold dv
 split
 ·show(refs _ _ _).length≤4200;omega
 split
 ·show(refs R.ch.al (R.bH.bN.cy now) 2 ++ [(32+(dA R now).aj,dt R.ch.al (dA R now) 7)]).length≤4200;rw[Zh];simp;omega
 ·rename_i h2
  have:=jq (mm (uT h now) (e:=ey R now) (by show dY R.log _=0;omega) hr)
  show(refs R.ch.al (R.bH.bN.cy now) 2++(fq (nS R now) (ey R now)).fV).length≤4200
  rw[Zh];omega
def cP(now:Int):Nat→au→au×List dd
 | 0,R=>(R,[])
 | k+1,R=>if R.win.room=true then
   if (dv R now).2.2=true then ((cP now k (dv R now).1).1,(dv R now).2.1++(cP now k (dv R now).1).2)
   else ((dv R now).1,(dv R now).2.1)
  else (R,[])
def lI(R:au)(now:Int):au:={ R with bC:={ R.bC with l:=R.bC.l.filter (pW now) } }
def lJ(R:au)(now:Int):List dd:=refs R.ch.al ((R.bC.l.filter (fun y=>!pW now y)).map P7.f) 2
def nj(R:au):Bool:=R.uN&&(R.whole && !R.dD)
def step2(R:au)(now:Int):au×List dd:=if nj (lI R now) then cP now 65 (lI R now) else (lI R now,[])
def iV(R:au)(now:Int):au×List dd:=if (step2 R now).1.linked then uQ (step2 R now).1 else ((step2 R now).1,[])
def gK(R:au)(now:Int):au×List dd:=((iV R now).1,lJ R now++(step2 R now).2++(iV R now).2)
theorem tW{R:au}(h:R.Ok)(now:Int):(lI R now).Ok:=⟨h.ch,h.win,h.last,h.nh,h.ni,h.tj,h.sG,by
 have:=h.rl;have h2:=Z1 (pW now) R.bC.l
 show((R.bC.l.filter (pW now)).length:Int)≤R.bC.cap;omega,h.zJ,h.AU,fun y hy=>h.xu y (ZA.1 hy).1,h.calls,h.wf⟩
theorem rB(now:Int):∀(k:Nat) {R:au},R.Ok→(cP now k R).1.Ok
 | 0,R,h=>h
 | k+1,R,h=>by
  rw[cP]
  split
  ·rename_i hr
   split
   ·exact rB now k (py h hr now)
   ·exact py h hr now
  ·exact h
theorem lK(now:Int):∀(k:Nat) {R:au},R.Ok→(cP now k R).2.length≤k*4200
 | 0,R,h=>NR _
 | k+1,R,h=>by
  rw[cP]
  split
  ·rename_i hr
   have h1:=tq h hr now
   split
   ·have:=lK now k (py h hr now)
    rw[Zh];omega
   ·show(dv R now).2.1.length≤_;omega
  ·simp
theorem Iz{R:au}(h:R.Ok):(uQ R).1.Ok:=by
 have hw:=uR h (il R)
 have e:=px R (il R) (NR _)
 exact⟨h.ch,hw,by show(cX R (il R)).1.last=_;rw[e];exact h.last,h.nh,h.ni,h.tj,h.sG,h.rl,h.zJ,h.AU,h.xu,h.calls,h.wf⟩
theorem rC{R:au}(h:R.Ok)(now:Int):(step2 R now).1.Ok:=by
 unfold step2
 split
 ·exact rB now 65 (tW h now)
 ·exact tW h now
theorem IA{R:au}(h:R.Ok)(now:Int):(gK R now).1.Ok:=by
 show(iV R now).1.Ok
 unfold iV
 split
 ·exact Iz (rC h now)
 ·exact rC h now
section
variable {p:Nat} {R:au}
def dp(S:List dd)(v:Value)(L:List HP)(H:List HP):Prop:=∃a c,v=.slice a S.length c∧L=H ++ [aJ iv 30 a S.length c (flat wH S)]
theorem Gr(ok:R.Ok)(now:Int):aH Tryz.prog 60 [.pointer (some ⟨p,0,none⟩),.int .i64 now] Fr w [bz p R]
  (fun v L=>dp (gK R now).2 v L [bz p (gK R now).1]):=by
 have hrl:R.bC.l.length≤16:=by have:=ok.rl;have:=ok.sG;omega
 have ok1:=tW ok now
 have ok2:=rC ok now
 refine TF 72 Tryz.func60 Z yn ah Z Z ?_
 refine Q1 ?_
 rintro x -
 show VC _ _ _ [pt p (aS R x) dM,aJ aG 2 x.a R.ch.ms.length x.c (flat ax R.ch.ms),b9 x.lp R.log,bO x.wp R.win,bu x.ap R.bH,bV x.rp R.bC] _
 refine an ?_
 refine UP ?_
 refine J3 ?_
 refine VG (VO.alloc Z fun ob=>?_)
 refine an ?_
 refine UQ ?_
 refine jA ?_
 refine VO.ar (L':=[bV x.rp R.bC,pt p (aS R x) dM,aJ aG 2 x.a R.ch.ms.length x.c (flat ax R.ch.ms),b9 x.lp R.log,bO x.wp R.win,bu x.ap R.bH,aQ ob []]) (IP 6 Z (IP 1 Z (IP 1 Z (IP 1 Z (IP 1 Z (IP 1 Z (ae.out (none,0) (IP 0 Z (ae.bY ae.nil))))))))).ar ?_
 refine VG (VK (Lc:=[bV x.rp R.bC]) (fun Fr w hF hs hS=>Rd.ig Fr w ok.tj yd now) Z Z ?_)
 rintro _ _ ⟨ga,gc,rows,hrows,rfl,rfl⟩
 have hrowl:rows.length≤16:=by
  have:=congrArg List.length hrows
  rw[Zm] at this
  have h2:=Z1 (fun y=>!pW now y) R.bC.l
  omega
 show VO _ _ _ _ _ [bV x.rp (lI R now).bC,aJ mN 34 ga rows.length gc (flat jB rows),pt p (aS R x) dM,aJ aG 2 x.a R.ch.ms.length x.c (flat ax R.ch.ms),b9 x.lp R.log,bO x.wp R.win,bu x.ap R.bH,aQ ob []] _
 refine VO.e7 1 Z (aV.rl mN ga gc rows ri) ?_
 rintro r ⟨rok,hrv,hrx⟩
 show VO _ _ _ _ _ [r.h mN,bV x.rp (lI R now).bC,pt p (aS R x) dM,aJ aG 2 x.a R.ch.ms.length x.c (flat ax R.ch.ms),b9 x.lp R.log,bO x.wp R.win,bu x.ap R.bH,aQ ob []] _
 refine an ?_
 have hexp:∀i,i≤rows.length→((rows.take i).map fun y=>y.1.f).length=i:=fun i hi=>by simp;omega
 refine VC.loop (σ:=Nat) (fun i=>[(0,pV p),(1,.int .i64 now),(5,pV ob),(6,cI ob),(18,.slice ga rows.length gc),(19,.int .i64 rows.length),(20,.int .i64 i)])
  (fun i=>[r.h mN,bV x.rp (lI R now).bC,pt p (aS R x) dM,aJ aG 2 x.a R.ch.ms.length x.c (flat ax R.ch.ms),b9 x.lp R.log,bO x.wp R.win,bu x.ap R.bH,aQ ob (refs R.ch.al ((rows.take i).map fun y=>y.1.f) 2)])
  (fun i=>i≤rows.length) (fun i=>rows.length-i) 0
  (Zj _) bd ER ?_
 intro i hi
 refine an ?_
 refine CP Z (fun h1=>CK ?_) (fun h1=>CX ?_)
 ·have hi2:i<rows.length:=by omega
  obtain⟨g,hg⟩:∃g,rows[i]?=some g:=⟨_,GE hi2⟩
  have hgm:g.1∈R.bC.l:=by
   have h2:g.1∈rows.map Prod.fst:=Zv.2 ⟨g,ME hg,rfl⟩
   rw[hrows] at h2
   exact(ZA.1 h2).1
  have hcl:=ok.xu g.1 hgm
  obtain⟨gb,go,r1,r2,hrd⟩:=rok.ld (t:=mN) (hrx▸hg) rfl
  obtain rfl:ga=some ⟨gb,go,none⟩:=by rw[RL.v,r2,hrx] at hrv;injection hrv with e1;exact e1.symm
  refine Kl ?_
  refine UR ?_
  refine VG (VO.alloc Z fun tb=>?_)
  refine US ?_
  refine an ?_
  refine VG (VL 0 (iz g.1.f g.2) Z Z Z Z ?_)
  refine VG (VQ 8 Z (fun Fr w hF hs hS=>gu Fr w (hS.aP 3 Z) (by rw[refs,Zm,hexp i yd];omega) g.1.f g.2 hcl.1 yd 2) Z (ψ:=fun v H=>v=.tuple #[]∧H=aQ ob (refs R.ch.al ((rows.take i).map fun y=>y.1.f) 2 ++ [(32+g.1.f.aj,dt R.ch.al g.1.f 2)])) yy ?_)
  rintro _ _ ⟨rfl,rfl⟩
  refine sd ?_
  refine⟨i+1,hi2,by dsimp only;omega,bd,?_⟩
  dsimp only
  rw[show refs R.ch.al ((rows.take (i+1)).map fun y=>y.1.f) 2=refs R.ch.al ((rows.take i).map fun y=>y.1.f) 2 ++ [(32+g.1.f.aj,dt R.ch.al g.1.f 2)] by rw[Zu,hg];simp[refs]]
  exact(dG [1,1,1,1,1,1,1,1]).ar
 obtain rfl:i=rows.length:=by omega
 rw[ZF]
 have hes:refs R.ch.al (rows.map fun y=>y.1.f) 2=lJ R now:=by
  unfold lJ
  rw[←hrows,List.map_map];rfl
 have hel:(lJ R now).length≤16:=by rw[←hes,refs,Zm,Zm];exact hrowl
 rw[hes]
 refine CN (L':=[bz p (lI R now),aQ ob (lJ R now)]) (ae.rep (R:=lI R now) x (dG [2,2,2,2,2,1,1])).ar ?_
 have hl2:(step2 R now).2.length≤273000:=by
  unfold step2
  split
  ·have:=lK now 65 ok1;omega
  ·simp
 refine CS ?_
 refine VC.cq (σ:=Unit) (fun _=>[(0,pV p),(5,pV ob),(6,cI ob)]) (fun _=>[bz p (step2 R now).1,aQ ob (lJ R now++(step2 R now).2)]) (fun _=>True) ?_ ?_
 ·have no:nj (lI R now)=false→∀{X:Cx} {y:qx},jj X (iw p (lI R now) y ob (lJ R now)) [bz p (step2 R now).1,aQ ob (lJ R now++(step2 R now).2)]:=fun h {X} {y}=>by
   have e:step2 R now=(lI R now,[]):=by rw[step2,h];rfl
   rw[e,Zi];exact dN.ar
  refine VC.e7 0 Z (aV.rep p (lI R now)) ?_
  rintro x2 -
  show VC _ _ _ (iw p (lI R now) x2 ob (lJ R now)) _
  refine an ?_
  refine VG (VV (fun Fr w hF hs hS=>lW Fr w (fR.Gn hS 0 Z Z Z Z Z Z).aP (fR.Gn hS 0 Z Z Z Z Z Z).mem ok1.ch) Z ?_)
  refine an ?_
  cases h1:(lI R now).uN with
  | false=>
   refine VG (VY 32 false Z Z ?_)
   refine eP ?_
   refine VG (VY 38 false Z Z ?_)
   refine J4 ?_
   exact⟨(),trivial,bd,no (by rw[nj,h1];rfl)⟩
  | true=>
  refine VG (VY 32 true Z Z ?_)
  refine eP ?_
  cases h2:R.whole with
  | false=>
   refine VG (VY 38 false Z h2 ?_)
   refine J4 ?_
   exact⟨(),trivial,bd,no (by rw[nj,h1];show(true&&(R.whole&&_))=false;rw[h2];rfl)⟩
  | true=>
  refine VG (VY 38 true Z h2 ?_)
  refine eP ?_
  refine VG (VV (fun Fr w hF hs hS=>lf Fr w (fR.Gn hS 0 Z Z Z Z Z Z).aP) Z ?_)
  refine eP ?_
  refine VC.dT Z (fun h3=>?_) (fun h3=>CK ?_)
  rotate_left
  ·exact⟨(),trivial,bd,no (by rw[nj,h1,h3];show(true&&(R.whole&&_))=false;rw[h2];rfl)⟩
  have hsb:nj (lI R now)=true:=by rw[nj,h1,h3];show(true&&(R.whole&&_))=true;rw[h2];rfl
  have he2:step2 R now=cP now 65 (lI R now):=by rw[step2,hsb];rfl
  have ht:=Qc ok1
  refine CN (L':=[bz p (lI R now),aQ ob (lJ R now)]) dN.ar ?_
  refine an ?_
  refine VC.loop (σ:=Nat×au×List dd) (fun _=>[(0,pV p),(1,.int .i64 now),(5,pV ob),(6,cI ob)]) (fun y=>[bz p y.2.1,aQ ob (lJ R now++y.2.2)])
   (fun y=>y.2.1.Ok∧J9 y.2.1.bH<y.1∧y.2.2.length+y.1*4200≤273000∧cP now 65 (lI R now)=((cP now y.1 y.2.1).1,y.2.2++(cP now y.1 y.2.1).2)) (fun y=>y.1) (65,lI R now,[])
   ⟨ok1,by dsimp only;omega,by simp,rfl⟩ bd (by dsimp only;rw[Zi];exact ER) ?_
  rintro⟨k,Q,T⟩ ⟨okQ,htQ,hlT,hlp⟩
  dsimp only at okQ htQ hlT hlp ⊢
  obtain⟨k,rfl⟩:∃j,k=j+1:=⟨k-1,by omega⟩
  have q1:=okQ.win.gS;have q2:=okQ.last
  refine VC.e7 0 Z (aV.rep p Q) ?_
  rintro x3 -
  show VC _ _ _ (iw p Q x3 ob (lJ R now++T)) _
  unfold iw
  refine an ?_
  refine VG (VV (fun Fr w hF hs hS=>Win.free_spec Fr w (hS.aP 3 Z) okQ.win) Z ?_)
  refine an ?_
  by_cases hroom:Q.win.room=true
  ·have hr2:Q.win.last<Q.win.done+Q.win.cap∧Q.win.last<4096:=by simpa[cD.room] using hroom
   refine VG (VY 49 true Z (DT yd) ?_)
   refine eP ?_
   refine VG (VV (fun Fr w hF hs hS=>Lg.fe Fr w (hS.at_ 2 Z)) Z ?_)
   refine eP ?_
   refine VG (VY 57 true Z (DT yd) ?_)
   refine eP ?_
   refine VO.ar (L':=[bz p Q,aQ ob (lJ R now++T)]) (dN (x:=x3)).ar ?_
   refine VG (VK (Lc:=[bz p Q,aQ ob (lJ R now++T)]) (Lr:=[]) (fun Fr w hF hs hS=>DR Fr w okQ hroom JX now) Z Z ?_)
   rintro _ _ ⟨rfl,rfl⟩
   have hss:=tq okQ hroom now
   refine eP ?_
   refine CC Z (fun hs=>CK ?_) (fun hs=>CX ?_)
   ·have hst:=Gq okQ now hs
    refine an ?_
    refine CK ?_
    refine⟨(k,(dv Q now).1,T++(dv Q now).2.1),⟨py okQ hroom now,by dsimp only;omega,by dsimp only;rw[Zh];omega,?_⟩,by dsimp only;omega,bd,?_⟩
    ·dsimp only
     rw[hlp,cP,if_pos hroom,if_pos hs,Zr]
    ·dsimp only;rw[←Zr];exact ER
   ·refine⟨(),trivial,bd,?_⟩
    rw[he2,hlp,cP,if_pos hroom,if_neg (by rw[hs];simp),←Zr]
    exact ER
  ·have hr2:¬(0<max (min (Q.win.done+Q.win.cap) 4096-Q.win.last) 0):=fun h=>hroom (by simp only[cD.room,Zx,decide_eq_true_eq];omega)
   refine VG (VY 49 false Z (DF hr2) ?_)
   refine eP ?_
   refine Rx ?_
   refine eP ?_
   refine VC.jm Z (CX ?_)
   refine⟨(),trivial,bd,?_⟩
   rw[he2,hlp,cP,if_neg hroom,Zi]
   exact(dN (x:=x3)).ar
 rintro _ -
 refine CS ?_
 refine VC.cq (σ:=Unit) (fun _=>[(5,pV ob)]) (fun _=>[bz p (gK R now).1,aQ ob (gK R now).2]) (fun _=>True) ?_ ?_
 ·refine VC.e7 0 Z (aV.rep p (step2 R now).1) ?_
  rintro x2 -
  show VC _ _ _ (iw p (step2 R now).1 x2 ob (lJ R now++(step2 R now).2)) _
  unfold iw
  refine an ?_
  refine CC Z (fun hk=>?_) (fun hk=>CK ?_)
  ·have e3:iV R now=uQ (step2 R now).1:=by rw[iV,hk];rfl
   refine CN (L':=[bz p (step2 R now).1,aQ ob (lJ R now++(step2 R now).2)]) (dN (x:=x2)).ar ?_
   refine an ?_
   refine VG (VK (Lc:=[bz p (step2 R now).1,aQ ob (lJ R now++(step2 R now).2)]) (Lr:=[]) (fun Fr w hF hs hS=>sr Fr w ok2 JX) Z Z ?_)
   rintro _ _ ⟨rfl,rfl⟩
   refine an ?_
   exact⟨(),trivial,bd,by show jj _ _ [bz p (iV R now).1,aQ ob (lJ R now++(step2 R now).2++(iV R now).2)];rw[e3];exact ER⟩
  ·have e3:iV R now=((step2 R now).1,[]):=by rw[iV,hk];rfl
   exact⟨(),trivial,bd,by show jj _ _ [bz p (iV R now).1,aQ ob (lJ R now++(step2 R now).2++(iV R now).2)];rw[e3,Zi];exact(dN (x:=x2)).ar⟩
 rintro _ -
 refine VC.e7 1 Z (aV.out ob _) ?_
 rintro⟨a,c⟩ -
 show VC _ _ _ [pt ob [.slice a (gK R now).2.length c] Nk,aJ iv 30 a (gK R now).2.length c (flat wH (gK R now).2),bz p (gK R now).1] _
 refine an ?_
 exact CR (ay.tmp 4 Z Z (IP 2 Z (IP 1 Z ae.nil)).ar ⟨a,c,Z,Z⟩)
end
end Rep
namespace Rep
open Go Vg T Api Kv Ch Lg Rd Win Adm Sched
attribute [local irreducible] VO VC VA
theorem BH{c:dL}{a:Option Addr}{cap:Nat}(h:aI ax 2 Fr w a c.ms)(hl:c.ms.length≤1000000):aH Tryz.prog 125 [.agg (c.cells a cap).toArray] Fr w []
  (fun v L=>∃a' c',v=.agg (c.cells a' c').toArray∧L=[aJ aG 2 a' c.ms.length c' (flat ax c.ms)]):=by
 refine TF 8 Tryz.func125 Z yn ah Z Z ?_
 refine CS (CG (VG (VB (vs:=c.cells a cap) Z (fun b=>VG (VO.alloc Z fun d=>VG (VN ?_))))))
 refine jA ?_
 refine XI ?_
 refine VG (VO.append (m:=c.ms.length) (news:=flat ax c.ms) 0 Z Z Z Z Z Z Z (aI.row aF h) (gQ kr _) WY yd fun a' c' _=>?_)
 rw[Zl,ZI]
 refine an ?_
 refine VG (VO.st 2 (cs':=c.cells a' c') Z Z Z Z Om Z Z (VG (VN ?_)))
 refine CS (CG (VG (VL 2 (c.cells a' c') Z Z Z Z (VG (VT (vs:=c.cells a' c') (cs':=c.cells a' c') 1 Z Z Z Z (NR _) Z Z Z (VG (VN ?_)))))))
 exact UT
def nk:Int:=9223372036854775807
def np(R:au)(c:dL):au:={ R with bH:=R.bH.ct nk,bC:={ R.bC with l:=[] },ch:=c }
def BI(R:au)(c:dL):Bool:=(a6 c R.id).2&&decide ((a6 c R.id).1≠R.since)
def Rf(R:au)(c:dL):Bool:=!(a6 c R.id).2||decide ((a6 c R.id).1≠R.since)
def kz(R:au)(c:dL):au:={ np R c with log:=if BI R c then [] else R.log,win:=if BI R c then cD.new R.cap else R.win }
def uW(R:au)(c:dL):au:={ kz R c with whole:=if Rf R c then false else R.whole }
def oN(R:au)(c:dL):au:={ uW R c with since:=(a6 c R.id).1,linked:=false,cK:=0,base:=-1,win:={ (kz R c).win with dp:=(kz R c).win.last,gJ:=0 } }
def f_(R:au)(c:dL):au:=if (oN R c).whole then { oN R c with start:=(oN R c).win.last } else oN R c
def BJ(R:au)(c:dL):List dd:=refs c.al (R.bH.bN.cy nk) 9++refs c.al (R.bC.l.map P7.f) 9
def oO(R:au)(c:dL):au×List dd:=((f_ R c).bg,BJ R c++(f_ R c).fV++(f_ R c).bg.dU++(f_ R c).bg.iJ++(f_ R c).bg.gX)
theorem No{R:au}(h:R.Ok){c:dL}(hc:BA c):(np R c).Ok:=⟨hc,h.win,h.last,h.nh,h.ni,h.tj,h.sG,by show(0:Int)≤_;have:=h.tj;exact Int.le_trans yp this,h.zJ,h.AU,fun y hy=>absurd hy (ZO),(by
  obtain⟨h1,h2,h3⟩:=ik h.wf nk
  intro q hq g hg
  have:=pw h.wf h.calls nk q hq g hg
  exact this),(ik h.wf nk).1⟩
theorem Fe{R:au}(h:R.Ok){c:dL}(hc:BA c)(h0:1≤R.cap)(h1:R.cap≤16):(kz R c).Ok:=by
 have k:=No h hc
 refine⟨hc,?_,?_,?_,?_,k.tj,k.sG,k.rl,k.zJ,k.AU,k.xu,k.calls,k.wf⟩
 ·show(if BI R c then cD.new R.cap else R.win).Ok;split;exact cD.uo h0 h1;exact h.win
 ·show(if BI R c then cD.new R.cap else R.win).last=((if BI R c then [] else R.log).length:Int);split;rfl;exact h.last
 ·show ∀e∈(if BI R c then [] else R.log),_;split;exact fun e he=>absurd he ZO;exact h.nh
 ·show ∀e∈(if BI R c then [] else R.log),1≤e.index∧e.index≤((if BI R c then [] else R.log).length:Int);split;exact fun e he=>absurd he ZO;exact h.ni
theorem Ff{R:au}(h:R.Ok){c:dL}(hc:BA c)(h0:1≤R.cap)(h1:R.cap≤16):(oN R c).Ok:=by
 have k:=Fe h hc h0 h1
 have w:=k.win
 exact⟨hc,⟨w.eS,w.gR,w.jL,w.jM,w.gS,by have:=w.jL;have:=w.jM;show 0≤(kz R c).win.last;omega,Zz _,Zz _,(by decide:(0:Int)≤4112)⟩,k.last,k.nh,k.ni,k.tj,k.sG,k.rl,k.zJ,k.AU,k.xu,k.calls,k.wf⟩
theorem zO{R:au}(h:R.Ok){c:dL}(hc:BA c)(h0:1≤R.cap)(h1:R.cap≤16):(f_ R c).Ok:=by
 have k:=Ff h hc h0 h1
 unfold f_
 split
 ·exact⟨k.ch,k.win,k.last,k.nh,k.ni,k.tj,k.sG,k.rl,k.zJ,k.AU,k.xu,k.calls,k.wf⟩
 ·exact k
theorem Gs{R:au}(h:R.Ok){c:dL}(hc:BA c)(h0:1≤R.cap)(h1:R.cap≤16):(oO R c).1.Ok:=jg (zO h hc h0 h1)
section
variable {p:Nat} {R:au} {b:Nat} {S:List dd} {c:dL} {a:Option Addr} {cap:Nat}
theorem DS(ok:R.Ok)(hc0:1≤R.cap)(hc1:R.cap≤16)(hS:S.length≤800000)(hm:aI ax 2 Fr w a c.ms)(hc:BA c):aH Tryz.prog 192 [.pointer (some ⟨p,0,none⟩),.agg (c.cells a cap).toArray,cI b] Fr w [bz p R,aQ b S]
  (fun v L=>v=.tuple #[]∧L=[bz p (oO R c).1,aQ b (S++(oO R c).2)]):=by
 have hg64:=rA ok nk
 have hgc:=zH ok.calls nk
 have hrl:=ok.rl;have hrc:=ok.sG
 have hcl:=hc.len
 have ok2:=Fe ok hc hc0 hc1
 have ok4:=Ff ok hc hc0 hc1
 have ok5:=zO ok hc hc0 hc1
 refine TF 143 Tryz.func192 Z yn ah Z Z ?_
 refine CS (CG (VG (VB (vs:=c.cells a cap) Z fun cb=>VG (VN ?_))))
 refine TH ?_
 rintro x -
 refine CN (L':=[bu x.ap R.bH,pt p (aS R x) dM,aJ aG 2 x.a R.ch.ms.length x.c (flat ax R.ch.ms),b9 x.lp R.log,bO x.wp R.win,bV x.rp R.bC,pt cb (c.cells a cap) kK,aQ b S]) (dG [4,0,0,0,0,0,0,0]).ar ?_
 refine CS ?_
 refine CD (ts 0 4 (ts 5 4 (.only 4 (.only 9 (ts 10 2 .nil))))) yn yr ?_
 refine qe ?_
 refine AG (AO (OC (Lc:=[bu x.ap R.bH]) (R:=Ir x.ap (R.bH.ct nk) (R.bH.bN.cy nk)) Z (.refl _) (fun Fr w hF hs hS=>Adm.qn Fr w x.ap R.bH ok.calls)) Z ?_ ?_)
 ·rintro _ _ ⟨_,⟨r,rok,hrx,rfl,rfl⟩,rfl⟩
  exact yu
 rintro _ _ ⟨_,⟨r,rok,hrx,rfl,rfl⟩,rfl⟩
 refine sg ?_
 refine VA.ar (L':=[bV x.rp R.bC,r.h g_,bu x.ap (R.bH.ct nk),pt p (aS R x) dM,aJ aG 2 x.a R.ch.ms.length x.c (flat ax R.ch.ms),b9 x.lp R.log,bO x.wp R.win,pt cb (c.cells a cap) kK,aQ b S]) (dG [6,0,0,0,0,0,0,0,0]).ar ?_
 refine AG (AO (OC (Lc:=[bV x.rp R.bC]) (R:=fun v L=>∃a c rows,rows.map Prod.fst=R.bC.l∧v=.slice a rows.length c∧L=[bV x.rp { R.bC with l:=[] },aJ mN 34 a rows.length c (flat jB rows)]) Z (.refl _) (fun Fr w hF hs hS=>Rd.qn Fr w ok.tj yd)) Z ?_ ?_)
 ·rintro _ _ ⟨_,⟨ga,gc,rows,hrows,rfl,rfl⟩,rfl⟩
  exact yu
 rintro _ _ ⟨_,⟨ga,gc,rows,hrows,rfl,rfl⟩,rfl⟩
 have hrowl:rows.length≤16:=by
  have:=congrArg List.length hrows
  rw[Zm] at this
  omega
 have hrv:r.v=.slice r.addr r.xs.length r.cap:=rfl
 rw[hrv]
 refine J0 ?_
 show VC _ _ _ [bV x.rp (np R c).bC,aJ mN 34 ga rows.length gc (flat jB rows),r.h g_,bu x.ap (np R c).bH,pt p (aS R x) dM,aJ aG 2 x.a R.ch.ms.length x.c (flat ax R.ch.ms),b9 x.lp R.log,bO x.wp R.win,pt cb (c.cells a cap) kK,aQ b S] _
 refine CS (CG ?_)
 refine an ?_
 refine VG (VL 8 (c.cells a cap) Z Z Z Z ?_)
 refine XJ ?_
 rintro _ _ ⟨a',c',rfl,rfl⟩
 refine VG (VT (vs:=c.cells a' c') (cs':=aS (np R c) { x with a:=a',c:=c' }) 5 Z Z Z Z (by show 4+3≤17;omega) Z Z Z ?_)
 refine AM ?_
 refine CN (L':=[pt p (aS (np R c) { x with a:=a',c:=c' }) dM,aJ aG 2 a' c.ms.length c' (flat ax c.ms),b9 x.lp R.log,bO x.wp R.win,bu x.ap (np R c).bH,bV x.rp (np R c).bC,aJ mN 34 ga rows.length gc (flat jB rows),r.h g_,aQ b S]) (dG [5,0,5,5,3,0,0,0,2]).ar ?_
 refine CS (CD (ts 0 8 (.only 8 (ts 9 5 .nil))) yn yr ?_)
 refine eT ?_
 refine AG (VA.kn 0 (c.cells a' c') Z Z Z Z Z ?_)
 refine eT ?_
 refine AG (AR (fun Fr w hF hs hS=>Ch.ql Fr w (aI.aJ aF (hS.at_ 1 Z)) yd R.id) Z Z yu ?_)
 refine eT ?_
 have hE:∀{E:Env} {s:qx},True:=fun {_} {_}=>trivial
 refine CS ?_
 refine VC.cq (σ:=qx) (fun _=>[(0,pV p),(2,cI b),(6,.slice r.addr r.xs.length r.cap),(7,.slice ga rows.length gc),(8,.int .i64 (a6 c R.id).1),(9,.bool (a6 c R.id).2)])
  (fun y=>[pt p (aS (kz R c) y) dM,aJ aG 2 y.a c.ms.length y.c (flat ax c.ms),b9 y.lp (kz R c).log,bO y.wp (kz R c).win,bu y.ap (np R c).bH,bV y.rp (np R c).bC,aJ mN 34 ga rows.length gc (flat jB rows),r.h g_,aQ b S]) (fun _=>True) ?_ ?_
 ·have S6:∀{E:Env},Vg.look E 0=some (.pointer (some ⟨p,0,none⟩))→Vg.look E 2=some (cI b)→Vg.look E 6=some (.slice r.addr r.xs.length r.cap)→Vg.look E 7=some (.slice ga rows.length gc)→Vg.look E 8=some (.int .i64 (a6 c R.id).1)→Vg.look E 9=some (.bool (a6 c R.id).2) →
    Sub [(0,pV p),(2,cI b),(6,.slice r.addr r.xs.length r.cap),(7,.slice ga rows.length gc),(8,.int .i64 (a6 c R.id).1),(9,.bool (a6 c R.id).2)] E:=fun h0 h1 h2 h3 h4 h5=>SC h0 (SC h1 (SC h2 (SC h3 (SC h4 (SC h5 (SN _))))))
  have no:BI R c=false→∀{X:Cx},jj X [pt p (aS (np R c) { x with a:=a',c:=c' }) dM,aJ aG 2 a' c.ms.length c' (flat ax c.ms),b9 x.lp R.log,bO x.wp R.win,bu x.ap (np R c).bH,bV x.rp (np R c).bC,aJ mN 34 ga rows.length gc (flat jB rows),r.h g_,aQ b S]
    [pt p (aS (kz R c) { x with a:=a',c:=c' }) dM,aJ aG 2 a' c.ms.length c' (flat ax c.ms),b9 x.lp (kz R c).log,bO x.wp (kz R c).win,bu x.ap (np R c).bH,bV x.rp (np R c).bC,aJ mN 34 ga rows.length gc (flat jB rows),r.h g_,aQ b S]:=fun h {X}=>by
   rw[show(kz R c).log=R.log by show(if BI R c then [] else R.log)=_;rw[h];rfl,show(kz R c).win=R.win by show(if BI R c then cD.new R.cap else R.win)=_;rw[h];rfl]
   exact ER
  refine an ?_
  by_cases h1:(a6 c R.id).2=true
  rotate_left
  ·have h1:(a6 c R.id).2=false:=by simpa using h1
   refine VG (VY 42 false Z h1 ?_)
   refine J4 ?_
   exact⟨{ x with a:=a',c:=c' },trivial,S6 Z Z Z Z Z Z,no (by rw[BI,h1];rfl)⟩
  refine VG (VY 42 true Z h1 ?_)
  refine eP ?_
  refine VC.bp (i:=(a6 c R.id).1) (j:=R.since) Z (fun h2=>?_) (fun h2=>CK ?_)
  rotate_left
  ·exact⟨{ x with a:=a',c:=c' },trivial,S6 Z Z Z Z Z Z,no (by rw[BI,h1,h2];simp)⟩
  refine an ?_
  refine VG (VK (Lc:=[]) (fun Fr w _ _ _=>Lg.dH Fr w) Z Z ?_)
  rintro _ _ ⟨lp,rfl,rfl⟩
  refine VG (VO.st 1 (cs':=aS (np R c) { x with a:=a',c:=c',lp:=lp }) Z Z Z Z (by show 9<17;omega) Z Z ?_)
  refine jA ?_
  refine VG (VK (Lc:=[]) (fun Fr w _ _ _=>Win.dH Fr w hc0 hc1) Z Z ?_)
  rintro _ _ ⟨wp,rfl,rfl⟩
  refine an ?_
  refine VG (VO.st 2 (cs':=aS (np R c) { x with a:=a',c:=c',lp:=lp,wp:=wp }) Z Z Z Z (by show 10<17;omega) Z Z ?_)
  refine an ?_
  have hn:BI R c=true:=by rw[BI,h1,DT h2];rfl
  refine⟨{ x with a:=a',c:=c',lp:=lp,wp:=wp },trivial,S6 Z Z Z Z Z Z,?_⟩
  rw[show(kz R c).log=[] by show(if BI R c then [] else R.log)=_;rw[hn];rfl,show(kz R c).win=cD.new R.cap by show(if BI R c then cD.new R.cap else R.win)=_;rw[hn];rfl]
  exact(dG [2,2,1,0,2,2,2,2,2]).ar
 rintro y -
 have ewhole:(kz R c).whole=R.whole:=rfl
 refine CS ?_
 refine VC.cq (σ:=Unit) (fun _=>[(0,pV p),(2,cI b),(6,.slice r.addr r.xs.length r.cap),(7,.slice ga rows.length gc),(8,.int .i64 (a6 c R.id).1)])
  (fun _=>[pt p (aS (uW R c) y) dM,aJ aG 2 y.a c.ms.length y.c (flat ax c.ms),b9 y.lp (kz R c).log,bO y.wp (kz R c).win,bu y.ap (np R c).bH,bV y.rp (np R c).bC,aJ mN 34 ga rows.length gc (flat jB rows),r.h g_,aQ b S]) (fun _=>True) ?_ ?_
 ·have S5:∀{E:Env},Vg.look E 0=some (.pointer (some ⟨p,0,none⟩))→Vg.look E 2=some (cI b)→Vg.look E 6=some (.slice r.addr r.xs.length r.cap)→Vg.look E 7=some (.slice ga rows.length gc)→Vg.look E 8=some (.int .i64 (a6 c R.id).1) →
    Sub [(0,pV p),(2,cI b),(6,.slice r.addr r.xs.length r.cap),(7,.slice ga rows.length gc),(8,.int .i64 (a6 c R.id).1)] E:=fun h0 h1 h2 h3 h4=>SC h0 (SC h1 (SC h2 (SC h3 (SC h4 (SN _)))))
  have yes:Rf R c=true→aS (uW R c) y=aS { kz R c with whole:=false } y:=fun h=>by
   rw[show uW R c={ kz R c with whole:=false } by unfold uW;rw[h];rfl]
  have no:Rf R c=false→aS (uW R c) y=aS (kz R c) y:=fun h=>by
   rw[show uW R c=kz R c by unfold uW;rw[h];rfl]
  refine an ?_
  by_cases h1:(a6 c R.id).2=true
  rotate_left
  ·have h1:(a6 c R.id).2=false:=by simpa using h1
   refine VG (VY 67 true Z (by rw[h1];rfl) ?_)
   refine Dh ?_
   refine XK ?_
   refine an ?_
   refine⟨(),trivial,S5 Z Z Z Z Z,?_⟩
   dsimp only
   rw[yes (by rw[Rf,h1];rfl)]
   exact ER
  refine VG (VY 67 false Z (by rw[h1];rfl) ?_)
  refine eP ?_
  refine VC.bp (i:=(a6 c R.id).1) (j:=R.since) Z (fun h2=>?_) (fun h2=>CK ?_)
  ·refine an ?_
   refine XK ?_
   refine an ?_
   refine⟨(),trivial,S5 Z Z Z Z Z,?_⟩
   dsimp only
   rw[yes (by rw[Rf,h1,DT h2];rfl)]
   exact ER
  ·refine⟨(),trivial,S5 Z Z Z Z Z,?_⟩
   dsimp only
   rw[no (by rw[Rf,h1,h2];simp)]
   exact ER
 rintro _ -
 refine an ?_
 refine VG (VO.st 0 (cs':=aS { uW R c with since:=(a6 c R.id).1 } y) Z Z Z Z (by show 7<17;omega) Z Z ?_)
 refine AM ?_
 refine an ?_
 refine VG (VO.st 0 (cs':=aS { uW R c with since:=(a6 c R.id).1,linked:=false } y) Z Z Z Z (by show 15<17;omega) Z Z ?_)
 refine an ?_
 refine VG (VO.st 0 (cs':=aS { uW R c with since:=(a6 c R.id).1,linked:=false,cK:=0 } y) Z Z Z Z (by show 16<17;omega) Z Z ?_)
 refine an ?_
 refine VG (VO.st 0 (cs':=aS (oN R c) y) Z Z Z Z (by show 14<17;omega) Z Z ?_)
 refine an ?_
 refine VG (VQ 3 Z (fun Fr w hF hs hS=>Win.DA Fr w ok2.win) Z (ψ:=fun v H=>v=.tuple #[]∧H=bO y.wp (oN R c).win) yy ?_)
 rintro _ _ ⟨rfl,rfl⟩
 refine AM ?_
 show VC _ _ _ [pt p (aS (oN R c) y) dM,aJ aG 2 y.a c.ms.length y.c (flat ax c.ms),b9 y.lp (oN R c).log,bO y.wp (oN R c).win,bu y.ap (oN R c).bH,bV y.rp (oN R c).bC,aJ mN 34 ga rows.length gc (flat jB rows),r.h g_,aQ b S] _
 have q0:=ok4.win.eS
 refine CS ?_
 refine VC.cq (σ:=Unit) (fun _=>[(0,pV p),(2,cI b),(6,.slice r.addr r.xs.length r.cap),(7,.slice ga rows.length gc)])
  (fun _=>[pt p (aS (f_ R c) y) dM,aJ aG 2 y.a c.ms.length y.c (flat ax c.ms),b9 y.lp (f_ R c).log,bO y.wp (f_ R c).win,bu y.ap (f_ R c).bH,bV y.rp (f_ R c).bC,aJ mN 34 ga rows.length gc (flat jB rows),r.h g_,aQ b S]) (fun _=>True) ?_ ?_
 ·refine an ?_
  refine CC Z (fun h1=>?_) (fun h1=>CK ?_)
  ·have e5:f_ R c={ oN R c with start:=(oN R c).win.last }:=by rw[f_,if_pos h1]
   refine an ?_
   refine VG (VV (fun Fr w hF hs hS=>Win.fF Fr w (hS.aP 3 Z) q0) Z ?_)
   refine an ?_
   refine VG (VO.st 0 (cs':=aS { oN R c with start:=(oN R c).win.last } y) Z Z Z Z (by show 13<17;omega) Z Z ?_)
   refine an ?_
   refine⟨(),trivial,bd,?_⟩
   dsimp only
   rw[e5];exact ER
  ·have e5:f_ R c=oN R c:=by rw[f_,if_neg Kd]
   refine⟨(),trivial,bd,?_⟩
   dsimp only
   rw[e5];exact ER
 rintro _ -
 have hch:(f_ R c).ch=c:=by unfold f_;split<;>rfl
 have hhp:∀S':List dd,[pt p (aS (f_ R c) y) dM,aJ aG 2 y.a c.ms.length y.c (flat ax c.ms),b9 y.lp (f_ R c).log,bO y.wp (f_ R c).win,bu y.ap (f_ R c).bH,bV y.rp (f_ R c).bC,aJ mN 34 ga rows.length gc (flat jB rows),r.h g_,aQ b S']
  = [pt p (aS (f_ R c) y) dM,aJ aG 2 y.a (f_ R c).ch.ms.length y.c (flat ax (f_ R c).ch.ms),b9 y.lp (f_ R c).log,bO y.wp (f_ R c).win,bu y.ap (f_ R c).bH,bV y.rp (f_ R c).bC,aJ mN 34 ga rows.length gc (flat jB rows),r.h g_,aQ b S']:=fun S'=>by rw[hch]
 rw[hhp]
 generalize hR5:f_ R c=R5 at *
 refine an ?_
 refine VC.loop (σ:=Nat) (fun i=>[(0,pV p),(2,cI b),(7,.slice ga rows.length gc),(108,.slice r.addr r.xs.length r.cap),(109,.int .i64 r.xs.length),(110,.int .i64 i)])
  (fun i=>[pt p (aS R5 y) dM,aJ aG 2 y.a R5.ch.ms.length y.c (flat ax R5.ch.ms),b9 y.lp R5.log,bO y.wp R5.win,bu y.ap R5.bH,bV y.rp R5.bC,aJ mN 34 ga rows.length gc (flat jB rows),r.h g_,aQ b (S++refs c.al ((R.bH.bN.cy nk).take i) 9)])
  (fun i=>i≤r.xs.length) (fun i=>r.xs.length-i) 0
  (Zj _) bd (by rw[Z0,show refs c.al [] 9=[] from rfl,Zi];exact ER) ?_
 intro i hi
 have hxl:r.xs.length=(R.bH.bN.cy nk).length:=by rw[←hrx];simp
 refine an ?_
 refine CP Z (fun h1=>CK ?_) (fun h1=>CX ?_)
 ·have hi2:i<r.xs.length:=by omega
  obtain⟨g,hg⟩:∃g,r.xs[i]?=some g:=⟨_,GE hi2⟩
  have hgg:(R.bH.bN.cy nk)[i]?=some g.1:=by rw[←hrx,Zn,hg];rfl
  have hcg:=hgc g.1 (ME hgg)
  have hc6:=ok.wf.c1
  obtain⟨gb,go,r1,r2,hrd⟩:=rok.ld (t:=g_) hg rfl
  rw[r2]
  refine Kl ?_
  refine VG (VO.load Z Z ((hrd 7 Z).1 _ Z Z) ?_)
  refine VG (VO.alloc Z fun tb=>?_)
  refine VG (VT (vs:=cF g) 0 Z Z Z Z (NR _) Z Z Z ?_)
  refine an ?_
  refine VG (VL 0 (cF g) Z Z Z Z ?_)
  refine VG (VQ 9 Z (fun Fr w hF hs hS=>gu Fr w (hS.aP 1 Z) WN g.1 g.2 hcg.1.1 (by have:=hcg.1.2;omega) 9) Z (ψ:=fun v H=>v=.tuple #[]∧H=aQ b (S++refs c.al ((R.bH.bN.cy nk).take i) 9 ++ [(32+g.1.aj,dt c.al g.1 9)])) WS ?_)
  rintro _ _ ⟨rfl,rfl⟩
  refine sd ?_
  refine⟨i+1,hi2,by dsimp only;omega,bd,?_⟩
  dsimp only
  rw[show refs c.al ((R.bH.bN.cy nk).take (i+1)) 9=refs c.al ((R.bH.bN.cy nk).take i) 9 ++ [(32+g.1.aj,dt c.al g.1 9)] by rw[Zu,hgg];simp[refs],←Zr]
  exact(dG [1,1,1,1,1,1,1,1,1]).ar
 obtain rfl:i=r.xs.length:=by omega
 rw[hxl,ZF]
 have hrl1:(refs c.al (R.bH.bN.cy nk) 9).length≤64:=by rw[refs,Zm];exact hg64
 generalize hS1:S++refs c.al (R.bH.bN.cy nk) 9=S1
 have hS1l:S1.length≤800064:=by rw[←hS1,Zh];omega
 refine VC.e7 6 Z (aV.rl mN ga gc rows ri) ?_
 rintro q ⟨qok,hqv,hqx⟩
 show VC _ _ _ [q.h mN,pt p (aS R5 y) dM,aJ aG 2 y.a R5.ch.ms.length y.c (flat ax R5.ch.ms),b9 y.lp R5.log,bO y.wp R5.win,bu y.ap R5.bH,bV y.rp R5.bC,r.h g_,aQ b S1] _
 refine an ?_
 have hexp:∀i,i≤rows.length→((rows.take i).map fun y=>y.1.f).length=i:=fun i hi=>by simp;omega
 refine VC.loop (σ:=Nat) (fun i=>[(0,pV p),(2,cI b),(119,.slice ga rows.length gc),(120,.int .i64 rows.length),(121,.int .i64 i)])
  (fun i=>[q.h mN,pt p (aS R5 y) dM,aJ aG 2 y.a R5.ch.ms.length y.c (flat ax R5.ch.ms),b9 y.lp R5.log,bO y.wp R5.win,bu y.ap R5.bH,bV y.rp R5.bC,aQ b (S1++refs c.al ((rows.take i).map fun y=>y.1.f) 9)])
  (fun i=>i≤rows.length) (fun i=>rows.length-i) 0
  (Zj _) bd (by
   rw[Z0,show refs c.al (List.map (fun y=>y.1.f) ([]:List J8)) 9=[] from rfl,Zi]
   exact(dG [0,0,0,0,0,0,0,1]).ar) ?_
 intro i hi
 refine an ?_
 refine CP Z (fun h1=>CK ?_) (fun h1=>CX ?_)
 ·have hi2:i<rows.length:=by omega
  obtain⟨g,hg⟩:∃g,rows[i]?=some g:=⟨_,GE hi2⟩
  have hgm:g.1∈R.bC.l:=by
   rw[←hrows]
   exact Zv.2 ⟨g,ME hg,Z⟩
  have hcg:=ok.xu g.1 hgm
  obtain⟨gb,go,r1,r2,hrd⟩:=qok.ld (t:=mN) (hqx▸hg) rfl
  obtain rfl:ga=some ⟨gb,go,none⟩:=by rw[RL.v,r2,hqx] at hqv;injection hqv with e1;exact e1.symm
  refine Kl ?_
  refine UR ?_
  refine VG (VO.alloc Z fun tb=>?_)
  refine US ?_
  refine an ?_
  refine VG (VL 0 (iz g.1.f g.2) Z Z Z Z ?_)
  refine VG (VQ 8 Z (fun Fr w hF hs hS=>gu Fr w (hS.aP 2 Z) (by rw[Zh,refs,Zm,hexp i yd];omega) g.1.f g.2 hcg.1 yd 9) Z (ψ:=fun v H=>v=.tuple #[]∧H=aQ b (S1++refs c.al ((rows.take i).map fun y=>y.1.f) 9 ++ [(32+g.1.f.aj,dt c.al g.1.f 9)])) WS ?_)
  rintro _ _ ⟨rfl,rfl⟩
  refine sd ?_
  refine⟨i+1,hi2,by dsimp only;omega,bd,?_⟩
  dsimp only
  rw[show refs c.al ((rows.take (i+1)).map fun y=>y.1.f) 9=refs c.al ((rows.take i).map fun y=>y.1.f) 9 ++ [(32+g.1.f.aj,dt c.al g.1.f 9)] by rw[Zu,hg];simp[refs],←Zr]
  exact(dG [1,1,1,1,1,1,1,1]).ar
 obtain rfl:i=rows.length:=by omega
 rw[ZF]
 have hes:S1++refs c.al (rows.map fun y=>y.1.f) 9=S++BJ R c:=by
  rw[←hS1,BJ,←hrows,List.map_map,Zr];rfl
 have hel:(S++BJ R c).length≤800080:=by rw[←hes,Zh,refs,Zm,Zm];omega
 rw[hes]
 refine CN (L':=[bz p R5,aQ b (S++BJ R c)]) (ae.rep (R:=R5) y (dG [1,1,1,1,1,1,1])).ar ?_
 generalize hS2:S++BJ R c=S2 at *
 refine an ?_
 refine VG (VK (Lc:=[bz p R5,aQ b S2]) (Lr:=[]) (fun Fr w hF hs hS=>oI Fr w ok5 yd) Z Z ?_)
 rintro _ _ ⟨rfl,rfl⟩
 have fl:=jq ok5
 have okf:=jg ok5
 refine an ?_
 refine VO.e7 0 Z (aV.rep p R5.bg) ?_
 rintro y2 -
 show VO _ _ _ _ _ (iw p R5.bg y2 b (S2++R5.fV)) _
 unfold iw
 refine an ?_
 refine VG (VQ 6 Z (fun Fr w hF hs hS=>ng Fr w (fR.Gn hS 0 Z Z Z Z Z Z) okf.ch okf.win JX) Z (ψ:=fun v H=>v=.tuple #[]∧H=aQ b (S2++R5.fV++R5.bg.dU)) yy ?_)
 rintro _ _ ⟨rfl,rfl⟩
 have gl:R5.bg.dU.length≤1:=by unfold au.dU;split<;>simp
 refine an ?_
 refine VG (VQ 6 Z (fun Fr w hF hs hS=>lH Fr w (fR.Gn hS 0 Z Z Z Z Z Z) okf.ch (by rw[Zh,Zh];omega)) Z (ψ:=fun v H=>v=.tuple #[]∧H=aQ b (S2++R5.fV++R5.bg.dU++R5.bg.iJ)) yy ?_)
 rintro _ _ ⟨rfl,rfl⟩
 have bl:R5.bg.iJ.length≤1:=by unfold au.iJ;split<;>simp
 refine an ?_
 refine VG (VQ 6 Z (fun Fr w hF hs hS=>nR Fr w (hS.aP 0 Z) (by rw[Zh,Zh,Zh];omega)) Z (ψ:=fun v H=>v=.tuple #[]∧H=aQ b (S2++R5.fV++R5.bg.dU++R5.bg.iJ++R5.bg.gX)) yy ?_)
 rintro _ _ ⟨rfl,rfl⟩
 refine an ?_
 refine ay.void Z (dN (R:=R5.bg) (x:=y2)).ar ⟨rfl,?_⟩
 simp only[oO,hR5,←hS2,Zr]
end
end Rep
namespace Rep
open Go Vg T Api Kv Ch Lg Rd Win Adm Sched Conf
attribute [local irreducible] VO VC VA
def gC(n:Nat):List bG:=(List.range n).map fun(i:Nat)=>((i:Int),(1:Int))
theorem jr(n:Nat):(gC n).length=n:=by simp[gC]
theorem zP(n:Nat):gC (n+1)=gC n ++ [((n:Int),(1:Int))]:=by simp[gC,List.range_succ]
def bq(c:aX):dL:=⟨1,gC c.chain.toNat,-1⟩
def Sl:dL:=⟨0,[],0⟩
theorem cN{c:aX}(h:c=dy c):(1≤c.nodes∧c.nodes≤6)∧(1≤c.chain∧c.chain≤c.nodes)∧(1≤c.eV∧c.eV≤16)∧(1≤c.reads∧c.reads≤16)∧(1≤c.aB∧c.aB≤6):=by
 have e1:c.nodes=aw c.nodes 1 6:=congrArg aX.nodes h
 have e2:c.chain=aw c.chain 1 (aw c.nodes 1 6):=congrArg aX.chain h
 have e3:c.eV=aw c.eV 1 16:=congrArg aX.eV h
 have e4:c.reads=aw c.reads 1 16:=congrArg aX.reads h
 have e5:c.aB=aw c.aB 1 6:=congrArg aX.aB h
 have n1:=fA (x:=c.nodes) (lo:=1) (hi:=6) yp
 have n2:=fA (x:=c.chain) (lo:=1) (hi:=aw c.nodes 1 6) n1.1
 have n3:=fA (x:=c.eV) (lo:=1) (hi:=16) yp
 have n4:=fA (x:=c.reads) (lo:=1) (hi:=16) yp
 have n5:=fA (x:=c.aB) (lo:=1) (hi:=6) yp
 omega
theorem uX(c:aX)(a:Option Addr)(cap:Nat)(hq:dZ Fr w a c.qs)(ha:sD a)(hcap:c.qs.length≤cap):aH Tryz.prog 47 [.agg (c.cells a cap).toArray] Fr w []
  (fun v L=>if c=dy c then ∃a' c',v=.tuple #[.agg ((bq c).cells a' c').toArray,.int .i64 0]∧L=[aJ aG 2 a' (bq c).ms.length c' (flat ax (bq c).ms)] else v=.tuple #[.agg (Sl.cells none 0).toArray,.int .i64 2]∧L=[]):=by
 refine TF 27 Tryz.func47 Z yn ah Z Z ?_
 refine CS (CG (VG (VB (vs:=c.cells a cap) Z fun x=>VG (VO.alloc Z fun d=>?_))))
 refine jA ?_
 refine O5 ?_
 refine VG (VV (fun Fr w hF hs _=>Conf.bm Fr w c a cap (fT hq hF hs) ha hcap) Z ?_)
 refine an ?_
 refine VC.bp Z (fun h1=>?_) (fun h1=>CK ?_)
 ·have hc:¬c=dy c:=fun e=>h1 (by rw[hY,if_pos e])
  have hc2:hY c=2:=by rw[hY,if_neg hc]
  refine an ?_
  refine VG (VI (LB (pv:=[]) (Sl.cells none 0) Z Z Z yn Z) ?_)
  refine an ?_
  refine UU ?_
  refine an ?_
  refine CR (ay.aT 2 3 Z Z Z (aE.many 0 Z Z) Z ae.nil.ar ?_)
  rw[if_neg hc,hc2];exact⟨rfl,rfl⟩
 have hc:c=dy c:=by
  apply Decidable.byContradiction
  intro hc
  rw[hY,if_neg hc] at h1
  cases h1
 have hb:=cN hc
 refine an ?_
 refine VG (VI (LB (pv:=[(0,.int .i64 1),(2,.int .i64 (-1))]) [.int .i64 1,.slice none 0 0,.int .i64 (-1)] Z Z Z yn Z) ?_)
 refine an ?_
 refine VG (VT (vs:=[.int .i64 1,.slice none 0 0,.int .i64 (-1)]) (cs':=[.int .i64 1,.slice none 0 0,.int .i64 (-1)]) 0 Z Z Z Z (NR _) Z Z Z ?_)
 refine jA ?_
 refine VC.loop (σ:=Nat×Option Addr×Nat) (fun y=>[(2,pV d),(14,.int .i64 c.chain),(15,.int .i64 y.1)])
  (fun y=>[aJ aG 2 y.2.1 y.1 y.2.2 (flat ax (gC y.1)),pt d [.int .i64 1,.slice y.2.1 y.1 y.2.2,.int .i64 (-1)] kK])
  (fun y=>(y.1:Int)≤c.chain) (fun y=>c.chain.toNat-y.1) (0,none,0)
  tL bd (ae.bY (IP 0 rfl ae.nil)).ar ?_
 rintro⟨i,a',c'⟩ hi
 dsimp only at hi ⊢
 refine an ?_
 refine CP Z (fun h1=>CK ?_) (fun h1=>CX ?_)
 ·refine jA ?_
  refine VG (VI (LB (pv:=[(0,.int .i64 i),(1,.int .i64 1)]) (ax ((i:Int),1)) Z Z Z yn Z) ?_)
  refine VG (VO.buildSlice (n:=1) (pv:=[(0,.agg (ax ((i:Int),1)).toArray)]) (ax ((i:Int),1)) Z Z Z Z yp (bM Z Z Z) fun nb=>?_)
  refine VG (VO.append (m:=1) (news:=ax ((i:Int),1)) 1 Z Z Z Z Z Z Z (dq.pt 0 Z Z Z) Z (jn (k:=101) yd yp) yd fun a2 c2 hc2=>?_)
  refine an ?_
  refine VG (VO.st 2 (cs':=[.int .i64 1,.slice a2 (i+1) c2,.int .i64 (-1)]) Z Z Z Z Om Z Z ?_)
  refine sd ?_
  refine⟨(i+1,a2,c2),by dsimp only;omega,by dsimp only;omega,bd,?_⟩
  dsimp only
  rw[zP,bf,bL,e_,Zi]
  exact(dG [0,1]).ar
 ·obtain rfl:i=c.chain.toNat:=by omega
  have e0:(bq c).ms.length=c.chain.toNat:=jr _
  have e1:(bq c).cells a' c'=[.int .i64 1,.slice a' c.chain.toNat c',.int .i64 (-1)]:=by rw[dL.cells,e0];rfl
  refine an ?_
  refine VG (VL 1 [.int .i64 1,.slice a' c.chain.toNat c',.int .i64 (-1)] Z Z Z Z ?_)
  refine VG (VT (vs:=[.int .i64 1,.slice a' c.chain.toNat c',.int .i64 (-1)]) (cs':=[.int .i64 1,.slice a' c.chain.toNat c',.int .i64 (-1)]) 1 Z Z Z Z (NR _) Z Z Z ?_)
  refine an ?_
  refine CR (ay.aT 2 3 Z Z Z (aE.many 1 Z Z) Z (IP 0 Z ae.nil).ar ?_)
  rw[if_pos hc,e0];exact⟨a',c',by rw[e1];rfl,rfl⟩
def gT(c:aX)(id:Int):au:={ id:=id,aB:=c.aB,cap:=c.eV,iI:=c.reads,ch:=Sl,since:=0,whole:=false,log:=[],win:=cD.new c.eV,bH:=uI c,bC:=gq.new c.reads,start:=-1,base:=-1,linked:=false,cK:=0 }
def fu(c:aX)(id:Int)(blank:Bool):au:=
 if blank then gT c id else if (a6 (bq c) id).2 then { gT c id with ch:=bq c,since:=(a6 (bq c) id).1,whole:=true,start:=0 } else { gT c id with ch:=bq c }
def nq(c:aX)(id:Int):Prop:=c=dy c∧0≤id∧id<c.nodes
instance (c:aX) (id:Int):Decidable (nq c id):=by unfold nq;infer_instance
theorem uY{c:aX}(h:c=dy c)(id:Int){C:dL}(hC:BA C)(s t:Int)(wh:Bool):({ gT c id with ch:=C,since:=s,whole:=wh,start:=t }:au).Ok:=by
 have hb:=cN h
 refine⟨hC,cD.uo hb.2.2.1.1 hb.2.2.1.2,Z,fun e he=>absurd he ZO,fun e he=>absurd he ZO,hb.2.2.2.1.1,hb.2.2.2.1.2,?_,Zz _,(by decide:(0:Int)≤100000000),fun e he=>absurd he ZO,DM c,E7 h⟩
 show(0:Int)≤c.reads;omega
theorem BK{c:aX}(h:c=dy c):BA (bq c):=⟨by have hb:=cN h;show(gC _).length≤1000;rw[jr];omega⟩
theorem Np{c:aX}(h:c=dy c)(id:Int)(blank:Bool):(fu c id blank).Ok:=by
 unfold fu
 split
 ·exact uY h id ⟨by decide⟩ 0 (-1) false
 split
 ·exact uY h id (BK h) _ 0 true
 ·exact uY h id (BK h) 0 (-1) false
def IB(R:au)(a:Option Addr)(c:Nat)(l w d r:Value):List Value:=[.int .i64 R.id,.int .i64 R.aB,.int .i64 R.cap,.int .i64 R.iI,.int .i64 R.ch.al,.slice a R.ch.ms.length c,.int .i64 R.ch.drain,.int .i64 R.since,.bool R.whole,
 l,w,d,r,.int .i64 R.start,.int .i64 R.base,.bool R.linked,.int .i64 R.cK]
abbrev Qd(b:Nat):Value:=.pointer (some ⟨b,0,none⟩)
theorem dH(c:aX)(a:Option Addr)(cap:Nat)(hq:dZ Fr w a c.qs)(ha:sD a)(hcap:c.qs.length≤cap)(id:Int)(blank:Bool):aH Tryz.prog 32 [.agg (c.cells a cap).toArray,.int .i64 id,.bool blank] Fr w []
  (fun v L=>if nq c id then ∃p,v=.tuple #[.pointer (some ⟨p,0,none⟩),.int .i64 0]∧L=[bz p (fu c id blank)] else v=.tuple #[.pointer none,.int .i64 2]∧L=[]):=by
 refine TF 93 Tryz.func32 Z yn ah Z Z ?_
 refine CS (CG (VG (VB (vs:=c.cells a cap) Z fun x=>?_)))
 refine Ox ?_
 refine VG (VK (Lc:=[]) (fun Fr w hF hs _=>uX Fr w c a cap (fT hq hF hs) ha hcap) Z Z ?_)
 intro v L hv
 by_cases hc:c=dy c
 rotate_left
 ·rw[if_neg hc] at hv
  obtain⟨rfl,rfl⟩:=hv
  have hno:¬nq c id:=fun h=>hc h.1
  refine an ?_
  refine VG (VO.alloc Z fun d=>?_)
  refine UU ?_
  refine an ?_
  refine VG (VY 20 true Z Z ?_)
  refine eP ?_
  refine VG (VY 24 true Z Z ?_)
  refine Dh ?_
  refine UW ?_
  rw[if_neg hno];exact⟨rfl,rfl⟩
 rw[if_pos hc] at hv
 obtain⟨a1,c1,rfl,rfl⟩:=hv
 have hb:=cN hc
 have hfl:(bq c).ms.length≤6:=by show(gC _).length≤6;rw[jr];omega
 refine an ?_
 refine VG (VO.alloc Z fun d=>?_)
 refine VG (VT (vs:=(bq c).cells a1 c1) (cs':=(bq c).cells a1 c1) 0 Z Z Z Z (NR _) Z Z Z ?_)
 refine an ?_
 refine VG (VY 20 false Z Z ?_)
 refine eP ?_
 by_cases h0:id<0
 ·have hno:¬nq c id:=fun h=>by have:=h.2.1;omega
  refine VG (VY 24 true Z (DT h0) ?_)
  refine Dh ?_
  refine UW ?_
  rw[if_neg hno];exact⟨rfl,rfl⟩
 refine VG (VY 24 false Z (DF h0) ?_)
 refine pP ?_
 refine CP Z (fun h1=>?_) (fun h1=>CK ?_)
 ·have hno:¬nq c id:=fun h=>by have:=h.2.2;omega
  refine an ?_
  refine UW ?_
  rw[if_neg hno];exact⟨rfl,rfl⟩
 have hyes:nq c id:=⟨hc,by omega,by omega⟩
 show VC _ _ _ [pt d ((bq c).cells a1 c1) kK,aJ aG 2 a1 (bq c).ms.length c1 (flat ax (bq c).ms),pt x (c.cells a cap) _] _
 refine sf ?_
 refine VG (VI (LB (pv:=[(0,.int .i64 id),(1,.int .i64 c.aB),(2,.int .i64 c.eV),(3,.int .i64 c.reads),(11,.int .i64 (-1)),(12,.int .i64 (-1))]) (IB (gT c id) none 0 (.pointer none) (.pointer none) (.pointer none) (.pointer none)) Z Z Z yn Z) ?_)
 refine VG (VB (vs:=IB (gT c id) none 0 (.pointer none) (.pointer none) (.pointer none) (.pointer none)) Z fun p=>?_)
 refine an ?_
 refine VG (VK (Lc:=[]) (fun Fr w _ _ _=>Lg.dH Fr w) Z Z ?_)
 rintro _ _ ⟨lp,rfl,rfl⟩
 refine an ?_
 refine VG (VO.st 1 (cs':=IB (gT c id) none 0 (Qd lp) (.pointer none) (.pointer none) (.pointer none)) Z Z Z Z (by show 9<17;omega) Z Z ?_)
 refine Dd ?_
 refine VG (VK (Lc:=[]) (fun Fr w _ _ _=>Win.dH Fr w hb.2.2.1.1 hb.2.2.1.2) Z Z ?_)
 rintro _ _ ⟨wp,rfl,rfl⟩
 refine an ?_
 refine VG (VO.st 2 (cs':=IB (gT c id) none 0 (Qd lp) (Qd wp) (.pointer none) (.pointer none)) Z Z Z Z (by show 10<17;omega) Z Z ?_)
 refine an ?_
 refine VG (VL 5 (c.cells a cap) Z Z Z Z ?_)
 refine VG (VK (Lc:=[]) (fun Fr w hF hs _=>Adm.dH Fr w c a cap (fT hq hF hs) ha hcap) Z Z ?_)
 intro v L hv
 rw[if_pos hc] at hv
 obtain⟨ap,rfl,rfl⟩:=hv
 refine an ?_
 refine VG (VO.st 3 (cs':=IB (gT c id) none 0 (Qd lp) (Qd wp) (Qd ap) (.pointer none)) Z Z Z Z (by show 11<17;omega) Z Z ?_)
 refine XC ?_
 refine VG (VK (Lc:=[]) (fun Fr w _ _ _=>Rd.dH Fr w hb.2.2.2.1.1 hb.2.2.2.1.2) Z Z ?_)
 rintro _ _ ⟨rp,rfl,rfl⟩
 refine an ?_
 refine VG (VO.st 4 (cs':=aS (gT c id) ⟨none,0,lp,wp,ap,rp⟩) Z Z Z Z (by show 12<17;omega) Z Z ?_)
 refine an ?_
 refine CN (L':=[pt p (aS (gT c id) ⟨none,0,lp,wp,ap,rp⟩) dM,b9 lp [],bO wp (cD.new c.eV),bu ap (uI c),bV rp (gq.new c.reads),pt d ((bq c).cells a1 c1) kK,aJ aG 2 a1 (bq c).ms.length c1 (flat ax (bq c).ms)]) (dG [4,3,2,1,0,0,0]).ar ?_
 refine CC Z (fun hbl=>?_) (fun hbl=>CK ?_)
 ·refine an ?_
  refine CR (ay.cU 6 7 Z Z Z (L':=[bz p (fu c id blank)]) ?_ W2)
  rw[show fu c id blank=gT c id by rw[fu,if_pos hbl]]
  exact(ae.rep (R:=gT c id) ⟨none,0,lp,wp,ap,rp⟩ (IP 0 Z (ae.bY (dG [0,0,0,0])))).ar
 refine an ?_
 refine VG (VL 5 ((bq c).cells a1 c1) Z Z Z Z ?_)
 refine an ?_
 refine VG (VT (vs:=(bq c).cells a1 c1) (cs':=aS { gT c id with ch:=bq c } ⟨a1,c1,lp,wp,ap,rp⟩) 0 Z Z Z Z (by show 4+3≤17;omega) Z Z Z ?_)
 refine an ?_
 refine VG (VL 5 ((bq c).cells a1 c1) Z Z Z Z ?_)
 refine an ?_
 refine VG (VV (fun Fr w hF hs hS=>Ch.ql Fr w (aI.aJ aF (hS.at_ 6 Z)) yd id) Z ?_)
 refine an ?_
 refine VC.cq (σ:=Unit) (fun _=>[(10,Qd p)]) (fun _=>[bz p (fu c id blank)]) (fun _=>True) ?_ ?_
 ·refine CC Z (fun hs=>?_) (fun hs=>CK ?_)
  ·refine an ?_
   refine VG (VO.st 0 (cs':=aS { gT c id with ch:=bq c,since:=(a6 (bq c) id).1 } ⟨a1,c1,lp,wp,ap,rp⟩) Z Z Z Z (by show 7<17;omega) Z Z ?_)
   refine an ?_
   refine VG (VO.st 0 (cs':=aS { gT c id with ch:=bq c,since:=(a6 (bq c) id).1,whole:=true } ⟨a1,c1,lp,wp,ap,rp⟩) Z Z Z Z W7 Z Z ?_)
   refine an ?_
   refine VG (VO.st 0 (cs':=aS { gT c id with ch:=bq c,since:=(a6 (bq c) id).1,whole:=true,start:=0 } ⟨a1,c1,lp,wp,ap,rp⟩) Z Z Z Z (by show 13<17;omega) Z Z ?_)
   refine an ?_
   refine⟨(),trivial,bd,?_⟩
   dsimp only
   rw[show fu c id blank={ gT c id with ch:=bq c,since:=(a6 (bq c) id).1,whole:=true,start:=0 } by rw[fu,if_neg (by rw[hbl];simp),if_pos hs]]
   exact(ae.rep (R:={ gT c id with ch:=bq c,since:=(a6 (bq c) id).1,whole:=true,start:=0 }) ⟨a1,c1,lp,wp,ap,rp⟩ (dG [0,5,0,0,0,0])).ar
  ·refine⟨(),trivial,bd,?_⟩
   dsimp only
   rw[show fu c id blank={ gT c id with ch:=bq c } by rw[fu,if_neg (by rw[hbl];simp),if_neg (by rw[hs];simp)]]
   exact(ae.rep (R:={ gT c id with ch:=bq c }) ⟨a1,c1,lp,wp,ap,rp⟩ (dG [0,5,0,0,0,0])).ar
 rintro _ -
 refine an ?_
 exact CR (ay.cU 6 7 Z Z Z ER W2)
end Rep
namespace Rep
open Go Vg T Api Kv Ch Lg Rd Win Adm Sched Conf
attribute [local irreducible] VO VC VA
structure au.Fit(R:au):Prop where
 ok:R.Ok
 iI:R.iI=R.bC.cap
 eS:1≤R.cap
 gR:R.cap≤16
 cl:R.aB≤6
theorem uZ{c:aX}(h:c=dy c)(id:Int)(blank:Bool):(fu c id blank).Fit:=by
 have hb:=cN h
 have ho:=Np h id blank
 unfold fu at ho ⊢
 split
 ·rename_i h1;rw[if_pos h1] at ho;exact⟨ho,rfl,hb.2.2.1.1,hb.2.2.1.2,hb.2.2.2.2.2⟩
 ·rename_i h1;rw[if_neg h1] at ho
  split
  ·rename_i h2;rw[if_pos h2] at ho;exact⟨ho,rfl,hb.2.2.1.1,hb.2.2.1.2,hb.2.2.2.2.2⟩
  ·rename_i h2;rw[if_neg h2] at ho;exact⟨ho,rfl,hb.2.2.1.1,hb.2.2.1.2,hb.2.2.2.2.2⟩
def mV(o:e8):Bool:=decide (o.kind=1)&&decide (aZ o=0)
def u0(f:aa)(ms:List bG):dL:=⟨f.bU,ms,f.drain⟩
def u3(R:au)(i:Int):au:={ R with bC:={ R.bC with l:=R.bC.l.filter (jD i) } }
def xv(R:au)(i:Int):List dd:=(R.bC.l.filter fun y=>!jD i y).map fun y=>(32+y.f.aj,je y.f.aj y.f.seq y.f.cn y.r)
def oP(R:au)(i:Int):au:={ R with base:=max i (-1) }
def cz(R:au)(from_:Int)(f:aa)(ms:List bG)(now:Int):au×List dd:=
 if f.kind=1 then (if f.aj<0 then (R,[]) else if R.aB≤f.aj then (R,[]) else if mV f.op=true then eJ R f now else iM R f now)
 else if f.kind=8 then (if (from_=16∧se (u0 f ms)=0)∧R.ch.al<f.bU then oO R (u0 f ms) else (R,[]))
 else if f.kind=4 then (if R.fi f=true∧jP from_ R.nQ=true then fI R f.entry else (R,[]))
 else if f.kind=5 then (if R.fi f=true∧jP from_ R.dz=true then oL R f else (R,[]))
 else if f.kind=6 then (if R.fi f=true∧jP from_ R.nQ=true then ((oP R f.index).eF,(oP R f.index).iL) else (R,[]))
 else if f.kind=10 then (if R.fi f=true∧from_=16 then (u3 R f.index,xv R f.index) else (R,[]))
 else (R,[])
theorem Gt(R:au)(f:aa)(now:Int):(b_ R f now).2.2=R.bH∨(b_ R f now).2.2=(R.bH.eW f now).2:=by
 unfold b_
 repeat' split
 all_goals first | exact .inl rfl | exact .inr rfl
theorem DU{R:au}(h:R.Ok)(f:aa)(now:Int):(iM R f now).1.Ok:=by
 have hj:(b_ R f now).2.2.Calls∧(b_ R f now).2.2.Wf:=by
  rcases Gt R f now with e | e
  ·rw[e];exact⟨h.calls,h.wf⟩
  ·rw[e];exact⟨Bz h.calls f now,Is h.wf f now⟩
 unfold iM
 split
 ·exact uV h hj.1 hj.2
 split
 ·exact uV h hj.1 hj.2
 split
 ·exact uV h (uU hj.1 _ _ _) (hj.2.fh _ _ _)
 ·exact uV h hj.1 hj.2
theorem IC{R:au}(h:R.Ok)(hr:R.bC.last<100000000)(f:aa)(now:Int)(h0:0≤f.aj)(h1:f.aj≤1000):(eJ R f now).1.Ok:=by
 unfold eJ
 split
 ·exact h
 ·have e:({ R with bC:=R.bC.put f (iD (aO R.log).1 f.op.key R.log.length) }:au).Ok:=by
   have a0:=h.tj;have a1:=h.zJ;have a2:=h.rl
   unfold gq.put
   split
   ·rename_i hl
    exact⟨h.ch,h.win,h.last,h.nh,h.ni,h.tj,h.sG,by show((R.bC.l ++ [_]).length:Int)≤R.bC.cap;rw[Zh];simp;omega,by show 0≤R.bC.last+1;omega,by show R.bC.last+1≤_;omega,fun y hy=>by
     rcases Zq.1 hy with h2 | h2
     ·exact h.xu y h2
     ·rw[ZC.1 h2];exact⟨h0,h1⟩,h.calls,h.wf⟩
   ·exact h
  exact e
theorem ID{R:au}(h:R.Ok)(i:Int):(u3 R i).Ok:=⟨h.ch,h.win,h.last,h.nh,h.ni,h.tj,h.sG,by
 have:=h.rl;have h2:=Z1 (jD i) R.bC.l
 show((R.bC.l.filter (jD i)).length:Int)≤R.bC.cap;omega,h.zJ,h.AU,fun y hy=>h.xu y (ZA.1 hy).1,h.calls,h.wf⟩
theorem BL{R:au}(h:R.Ok)(i:Int):(oP R i).Ok:=⟨h.ch,h.win,h.last,h.nh,h.ni,h.tj,h.sG,h.rl,h.zJ,h.AU,h.xu,h.calls,h.wf⟩
theorem zQ{R:au}(h:R.Ok)(e:aY):(fI R e).1.Ok:=by
 unfold fI
 split
 ·rename_i h1;exact qA (jg (mm h h1.2 (uP h1.1)))
 ·exact h
theorem zT{c:dL}(h:se c=0):c.ms.length≤6:=by
 have:qj c=true:=by
  unfold se at h
  by_cases hc:qj c=true
  ·exact hc
  ·rw[if_neg hc] at h;cases h
 simp only[qj,qi,Zx,decide_eq_true_eq] at this
 omega
theorem IE{R:au}(h:R.Fit)(hr:R.bC.last<100000000)(from_:Int)(f:aa)(ms:List bG)(now:Int):(cz R from_ f ms now).1.Ok:=by
 have hcl:=h.cl
 unfold cz
 split
 ·split
  ·exact h.ok
  split
  ·exact h.ok
  rename_i h1 h2
  split
  ·exact IC h.ok hr f now yd yd
  ·exact DU h.ok f now
 split
 ·split
  ·rename_i h1;exact Gs h.ok ⟨by have:=zT h1.1.2;omega⟩ h.eS h.gR
  ·exact h.ok
 split
 ·split
  ·exact zQ h.ok _
  ·exact h.ok
 split
 ·split
  ·exact Fa h.ok f
  ·exact h.ok
 split
 ·split
  ·exact qA (BL h.ok _)
  ·exact h.ok
 split
 ·split
  ·exact ID h.ok _
  ·exact h.ok
 ·exact h.ok
structure ft(R Q:au):Prop where
 id:Q.id=R.id
 aB:Q.aB=R.aB
 cap:Q.cap=R.cap
 iI:Q.iI=R.iI
 Qe:Q.bC.cap=R.bC.cap
theorem ft.refl(R:au):ft R R:=⟨rfl,rfl,rfl,rfl,rfl⟩
theorem ft.trans{R Q P:au}(h:ft R Q)(k:ft Q P):ft R P:=⟨k.id.trans h.id,k.aB.trans h.aB,k.cap.trans h.cap,k.iI.trans h.iI,k.Qe.trans h.Qe⟩
theorem au.Fit.stays{R Q:au}(h:R.Fit)(k:ft R Q)(ok:Q.Ok):Q.Fit:=⟨ok,by rw[k.iI,k.Qe];exact h.iI,by rw[k.cap];exact h.eS,by rw[k.cap];exact h.gR,by rw[k.aB];exact h.cl⟩
theorem nt(R:au):ft R R.bg:=by unfold au.bg;split<;>exact⟨rfl,rfl,rfl,rfl,rfl⟩
theorem rD(R:au):ft R R.eF:=by unfold au.eF;split<;>exact⟨rfl,rfl,rfl,rfl,rfl⟩
theorem BM(R:au)(c:dL):ft R (oO R c).1:=by
 refine ft.trans (Q:=f_ R c) ?_ (nt _)
 unfold f_;split<;>exact⟨rfl,rfl,rfl,rfl,rfl⟩
theorem Nq(r:gq)(f:aa)(x:jC):(r.put f x).cap=r.cap:=by unfold gq.put;split<;>rfl
theorem DV(R:au)(from_:Int)(f:aa)(ms:List bG)(now:Int):ft R (cz R from_ f ms now).1:=by
 have r:=ft.refl R
 unfold cz
 split
 ·split
  ·exact r
  split
  ·exact r
  split
  ·unfold eJ;split
   ·exact r
   ·exact⟨rfl,Z,Z,Z,Nq _ _ _⟩
  ·unfold iM;repeat' split
   all_goals exact⟨rfl,rfl,rfl,rfl,rfl⟩
 split
 ·split
  ·exact BM _ _
  ·exact r
 split
 ·split
  ·unfold fI;split
   ·exact ft.trans (Q:=(fq R f.entry).bg) (ft.trans (Q:=fq R f.entry) ⟨rfl,Z,Z,Z,Z⟩ (nt _)) (rD _)
   ·exact r
  ·exact r
 split
 ·split
  ·unfold oL oK jh;dsimp only;split<;>exact⟨rfl,rfl,rfl,rfl,rfl⟩
  ·exact r
 split
 ·split
  ·exact ft.trans (Q:=oP R f.index) ⟨rfl,Z,Z,Z,Z⟩ (rD _)
  ·exact r
 split
 ·split
  ·exact⟨rfl,Z,Z,Z,Z⟩
  ·exact r
 ·exact r
theorem DW(R:au):ft R (uQ R).1:=⟨rfl,rfl,rfl,rfl,rfl⟩
theorem tr(R:au)(now:Int):ft R (dv R now).1:=by
 unfold dv
 split
 ·exact⟨rfl,Z,Z,Z,Z⟩
 split
 ·exact⟨rfl,Z,Z,Z,Z⟩
 ·exact ft.trans (Q:=fq (nS R now) (ey R now)) ⟨rfl,Z,Z,Z,Z⟩ (nt _)
theorem u4(now:Int):∀(k:Nat) (R:au),ft R (cP now k R).1
 | 0,R=>ft.refl R
 | k+1,R=>by
  rw[cP]
  split
  ·split
   ·exact(tr R now).trans (u4 now k _)
   ·exact tr R now
  ·exact ft.refl R
theorem DX(R:au)(now:Int):ft R (gK R now).1:=by
 have h2:ft R (step2 R now).1:=by
  unfold step2;split
  ·exact ft.trans (Q:=lI R now) ⟨rfl,Z,Z,Z,Z⟩ (u4 now 65 _)
  ·exact⟨rfl,Z,Z,Z,Z⟩
 show ft R (iV R now).1
 unfold iV;split
 ·exact h2.trans (DW _)
 ·exact h2
theorem xw{R:au}(h:R.Fit)(hr:R.bC.last<100000000)(from_:Int)(f:aa)(ms:List bG)(now:Int):(cz R from_ f ms now).1.Fit:=h.stays (DV R from_ f ms now) (IE h hr from_ f ms now)
theorem Gu{R:au}(h:R.Fit)(now:Int):(gK R now).1.Fit:=h.stays (DX R now) (IA h.ok now)
end Rep
namespace Rep
open Go Vg T Api Kv Ch Lg Rd Win Adm Sched Conf
attribute [local irreducible] VO VC VA
section
variable {p:Nat} {R:au}
theorem l8(fit:R.Fit)(hlast:R.bC.last<100000000)(from_:Int)(f:aa){ma:Option Addr}{mc:Nat}{ms:List bG}(hm:aI ax 2 Fr w ma ms)(hml:ms.length≤1000000)(now:Int)
  (hi1:-9223372036854775808≤f.entry.index) (hi2:f.entry.index≤9223372036854775807):aH Tryz.prog 119 [.pointer (some ⟨p,0,none⟩),.int .i64 from_,.agg (iz f (ma,ms.length,mc)).toArray,.int .i64 now] Fr w [bz p R]
  (fun v L=>dp (cz R from_ f ms now).2 v L [bz p (cz R from_ f ms now).1]):=by
 have ok:=fit.ok
 have hcl6:=fit.cl
 have hrl:R.bC.l.length≤16:=by have:=ok.rl;have:=ok.sG;omega
 refine TF 160 Tryz.func119 Z yn ah Z Z ?_
 refine CS (CG (VG (VB (vs:=iz f (ma,ms.length,mc)) Z fun fb=>?_)))
 refine an ?_
 refine VO.e7 1 Z (aV.rep p R) ?_
 rintro x -
 show VO _ _ _ _ _ [pt p (aS R x) dM,aJ aG 2 x.a R.ch.ms.length x.c (flat ax R.ch.ms),b9 x.lp R.log,bO x.wp R.win,bu x.ap R.bH,bV x.rp R.bC,pt fb (iz f (ma,ms.length,mc)) g_] _
 refine UP ?_
 refine J3 ?_
 refine VG (VO.alloc Z fun ob=>?_)
 refine an ?_
 refine UQ ?_
 refine AM ?_
 refine CN (L':=[pt p (aS R x) dM,aJ aG 2 x.a R.ch.ms.length x.c (flat ax R.ch.ms),b9 x.lp R.log,bO x.wp R.win,bu x.ap R.bH,bV x.rp R.bC,aQ ob [],pt fb (iz f (ma,ms.length,mc)) g_]) (IP 1 Z (IP 1 Z (IP 1 Z (IP 1 Z (IP 1 Z (IP 1 Z (ae.out (none,0) (IP 0 Z (ae.bY (IP 0 Z ae.nil)))))))))).ar ?_
 refine CS ?_
 refine VC.cq (σ:=Unit) (fun _=>[(9,pV ob)]) (fun _=>[bz p (cz R from_ f ms now).1,aQ ob (cz R from_ f ms now).2]) (fun _=>True) ?_ ?_
 rotate_left
 ·rintro _ -
  refine VC.e7 1 Z (aV.out ob _) ?_
  rintro⟨a,c⟩ -
  show VC _ _ _ [pt ob [.slice a (cz R from_ f ms now).2.length c] Nk,aJ iv 30 a (cz R from_ f ms now).2.length c (flat wH (cz R from_ f ms now).2),bz p (cz R from_ f ms now).1] _
  refine an ?_
  exact CR (ay.tmp 8 Z Z (IP 2 Z (IP 1 Z ae.nil)).ar ⟨a,c,Z,Z⟩)
 have shut:∀{X:Cx},jj X [pt p (aS R x) dM,aJ aG 2 x.a R.ch.ms.length x.c (flat ax R.ch.ms),b9 x.lp R.log,bO x.wp R.win,bu x.ap R.bH,bV x.rp R.bC,aQ ob [],pt fb (iz f (ma,ms.length,mc)) g_] [bz p R,aQ ob []]:=fun {X}=>
  (ae.rep x (dG [0,0,0,0,0,0,0])).ar
 have none_:cz R from_ f ms now=(R,[])→∀{X:Cx},jj X [pt p (aS R x) dM,aJ aG 2 x.a R.ch.ms.length x.c (flat ax R.ch.ms),b9 x.lp R.log,bO x.wp R.win,bu x.ap R.bH,bV x.rp R.bC,aQ ob [],pt fb (iz f (ma,ms.length,mc)) g_] [bz p (cz R from_ f ms now).1,aQ ob (cz R from_ f ms now).2]:=fun h {X}=>by
  rw[h];exact shut
 refine O8 ?_
 refine CE (i:=f.kind) (j:=1) Z (fun k1=>?_) (fun k1=>?_)
 ·have hT:cz R from_ f ms now=(if f.aj<0 then (R,[]) else if R.aB≤f.aj then (R,[]) else if mV f.op=true then eJ R f now else iM R f now):=by rw[cz,if_pos k1]
  refine CS ?_
  refine CS ?_
  refine CD (ts 0 12 .nil) yn yr ?_
  refine Ou ?_
  by_cases h1:f.aj<0
  ·refine AG (AY 24 true Z (DT h1) ?_)
   refine Kh ?_
   refine VC.kk Z (CX ?_)
   exact⟨(),trivial,bd,none_ (by rw[hT,if_pos h1])⟩
  refine AG (AY 24 false Z (DF h1) ?_)
  refine Kh ?_
  refine CP (p:=R.aB≤f.aj) Z (fun h2=>CX ?_) (fun h2=>CK ?_)
  ·exact⟨(),trivial,bd,none_ (by rw[hT,if_neg h1,if_pos h2])⟩
  rw[if_neg h1,if_neg h2] at hT
  refine an ?_
  refine VG (VL 7 f.op.cells Z Z Z Z ?_)
  refine VG (VV (fun Fr w hF hs hS=>Kv.ku Fr w f.op) Z ?_)
  refine an ?_
  refine CC Z (fun h3=>?_) (fun h3=>?_)
  ·have h3:mV f.op=true:=h3
   rw[if_pos h3] at hT
   refine Pe ?_
   refine Ry ?_
   refine VG (VK (Lc:=[bz p R,aQ ob []]) (Lr:=[]) (fun Fr w hF hs hS=>jf Fr w ok fit.iI Un f (hm.of hF hs) hml now yd yd) Z Z ?_)
   rintro _ _ ⟨rfl,rfl⟩
   refine an ?_
   refine⟨(),trivial,bd,?_⟩
   rw[hT];exact ER
  ·have h3:¬mV f.op=true:=fun h=>by rw[show mV f.op=false from h3] at h;cases h
   rw[if_neg h3] at hT
   refine Pe ?_
   refine Ry ?_
   refine VG (VK (Lc:=[bz p R,aQ ob []]) (Lr:=[]) (fun Fr w hF hs hS=>BB Fr w ok Un f (ma,ms.length,mc) ⟨ms,Z,hml,aI.of hm hF hs⟩ now yd yd) Z Z ?_)
   rintro _ _ ⟨rfl,rfl⟩
   refine an ?_
   refine⟨(),trivial,bd,?_⟩
   rw[hT];exact ER
 refine CS ?_
 refine an ?_
 refine CE (i:=f.kind) (j:=8) Z (fun k2=>?_) (fun k2=>?_)
 ·have hT:cz R from_ f ms now=(if (from_=16∧se (u0 f ms)=0)∧R.ch.al<f.bU then oO R (u0 f ms) else (R,[])):=by rw[cz,if_neg k1,if_pos k2]
  refine CS ?_
  refine CD (ts 0 5 (.only 5 (ts 6 13 .nil))) yn yr ?_
  refine Ou ?_
  by_cases h1:from_=16
  rotate_left
  ·rw[if_neg (fun h=>h1 h.1.1)] at hT
   refine AG (AY 50 false Z yg ?_)
   refine Kh ?_
   refine Hy ?_
   refine Kh ?_
   refine AG (AY 56 false Z Z ?_)
   refine Kh ?_
   refine r_ ?_
   exact HK
  refine AG (AY 50 true Z yg ?_)
  refine Kh ?_
  refine AG (VA.kn 7 ((u0 f ms).cells ma mc) Z Z Z Z Z ?_)
  refine AG (AR (fun Fr w hF hs hS=>Ch.bm Fr w (c:=u0 f ms) (hm.of hF hs) Um) Z Z yu ?_)
  refine Kh ?_
  by_cases h2:se (u0 f ms)=0
  rotate_left
  ·rw[if_neg (fun h=>h2 h.1.2)] at hT
   refine AG (AY 56 false Z yj ?_)
   refine Kh ?_
   refine r_ ?_
   exact HK
  refine AG (AY 56 true Z yj ?_)
  refine Kh ?_
  refine CP (p:=R.ch.al<f.bU) Z (fun h3=>?_) (fun h3=>CK ?_)
  ·rw[if_pos ⟨⟨h1,h2⟩,h3⟩] at hT
   have hcs:BA (u0 f ms):=⟨by have:=zT h2;omega⟩
   refine an ?_
   refine VG (VL 7 ((u0 f ms).cells ma mc) Z Z Z Z ?_)
   refine Ry ?_
   refine an ?_
   refine VG (VK (Lc:=[bz p R,aQ ob []]) (Lr:=[]) (fun Fr w hF hs hS=>DS Fr w ok fit.eS fit.gR Uo (c:=u0 f ms) (hm.of hF hs) hcs) Z Z ?_)
   rintro _ _ ⟨rfl,rfl⟩
   refine an ?_
   refine⟨(),trivial,bd,?_⟩
   rw[hT];exact ER
  ·rw[if_neg (fun h=>h3 h.2)] at hT
   exact HK
 refine CS ?_
 refine an ?_
 refine CE (i:=f.kind) (j:=4) Z (fun k3=>?_) (fun k3=>?_)
 ·have hT:cz R from_ f ms now=(if R.fi f=true∧jP from_ R.nQ=true then fI R f.entry else (R,[])):=by rw[cz,if_neg k1,if_neg k2,if_pos k3]
  refine Pe ?_
  refine Rw ?_
  refine an ?_
  by_cases h1:R.fi f=true
  rotate_left
  ·rw[if_neg (fun h=>h1 h.1)] at hT
   have h1:R.fi f=false:=by simpa using h1
   refine VG (VY 77 false Z h1 ?_)
   refine J4 ?_
   exact HK
  refine VG (VY 77 true Z h1 ?_)
  refine eP ?_
  refine XL ?_
  refine eP ?_
  refine VG (VO.ic (fun Fr w=>oH Fr w from_ R.nQ) Z ?_)
  refine eP ?_
  refine CC Z (fun h2=>?_) (fun h2=>CK ?_)
  ·rw[if_pos ⟨h1,h2⟩] at hT
   refine an ?_
   refine VG (VL 7 (cL f.entry) Z Z Z Z ?_)
   refine Ry ?_
   refine an ?_
   refine VG (VK (Lc:=[bz p R,aQ ob []]) (Lr:=[]) (fun Fr w hF hs hS=>zM Fr w ok Uo f.entry hi1 hi2) Z Z ?_)
   rintro _ _ ⟨rfl,rfl⟩
   refine an ?_
   refine⟨(),trivial,bd,?_⟩
   rw[hT];exact ER
  ·rw[if_neg (fun h=>by have:=h.2;rw[h2] at this;cases this)] at hT
   exact HK
 refine CS ?_
 refine an ?_
 refine CE (i:=f.kind) (j:=5) Z (fun k4=>?_) (fun k4=>?_)
 ·have hT:cz R from_ f ms now=(if R.fi f=true∧jP from_ R.dz=true then oL R f else (R,[])):=by rw[cz,if_neg k1,if_neg k2,if_neg k3,if_pos k4]
  refine Pe ?_
  refine Rw ?_
  refine an ?_
  by_cases h1:R.fi f=true
  rotate_left
  ·rw[if_neg (fun h=>h1 h.1)] at hT
   have h1:R.fi f=false:=by simpa using h1
   refine VG (VY 93 false Z h1 ?_)
   refine J4 ?_
   exact HK
  refine VG (VY 93 true Z h1 ?_)
  refine eP ?_
  refine XF ?_
  refine eP ?_
  refine VG (VO.ic (fun Fr w=>oH Fr w from_ R.dz) Z ?_)
  refine eP ?_
  refine CC Z (fun h2=>?_) (fun h2=>CK ?_)
  ·rw[if_pos ⟨h1,h2⟩] at hT
   refine Pe ?_
   refine Ry ?_
   refine an ?_
   refine VG (VK (Lc:=[bz p R,aQ ob []]) (Lr:=[]) (fun Fr w hF hs hS=>qZ Fr w ok Uo f _) Z Z ?_)
   rintro _ _ ⟨rfl,rfl⟩
   refine an ?_
   refine⟨(),trivial,bd,?_⟩
   rw[hT];exact ER
  ·rw[if_neg (fun h=>by have:=h.2;rw[h2] at this;cases this)] at hT
   exact HK
 refine CS ?_
 refine an ?_
 refine CE (i:=f.kind) (j:=6) Z (fun k5=>?_) (fun k5=>?_)
 ·have hT:cz R from_ f ms now=(if R.fi f=true∧jP from_ R.nQ=true then ((oP R f.index).eF,(oP R f.index).iL) else (R,[])):=by rw[cz,if_neg k1,if_neg k2,if_neg k3,if_neg k4,if_pos k5]
  refine Pe ?_
  refine Rw ?_
  refine an ?_
  by_cases h1:R.fi f=true
  rotate_left
  ·rw[if_neg (fun h=>h1 h.1)] at hT
   have h1:R.fi f=false:=by simpa using h1
   refine VG (VY 108 false Z h1 ?_)
   refine J4 ?_
   exact HK
  refine VG (VY 108 true Z h1 ?_)
  refine eP ?_
  refine XL ?_
  refine eP ?_
  refine VG (VO.ic (fun Fr w=>oH Fr w from_ R.nQ) Z ?_)
  refine eP ?_
  refine CC Z (fun h2=>?_) (fun h2=>CK ?_)
  ·rw[if_pos ⟨h1,h2⟩] at hT
   have okb:=BL ok f.index
   refine O8 ?_
   refine VG (VO.st 0 (cs':=aS (oP R f.index) x) Z Z Z Z (by show 14<17;omega) (by
    rw[show(if f.index < -1 then (-1:Int) else f.index)=max f.index (-1) by split<;>omega]
    rfl) rfl ?_)
   refine an ?_
   refine VO.ar (L':=[bz p (oP R f.index),aQ ob []]) (ae.rep (R:=oP R f.index) x (dG [0,0,0,0,0,0,0])).ar ?_
   refine VG (VK (Lc:=[bz p (oP R f.index),aQ ob []]) (Lr:=[]) (fun Fr w hF hs hS=>tk Fr w okb Un) Z Z ?_)
   rintro _ _ ⟨rfl,rfl⟩
   refine an ?_
   refine⟨(),trivial,bd,?_⟩
   rw[hT];exact ER
  ·rw[if_neg (fun h=>by have:=h.2;rw[h2] at this;cases this)] at hT
   exact HK
 refine CS ?_
 refine an ?_
 refine CE (i:=f.kind) (j:=10) Z (fun k6=>?_) (fun k6=>CK ?_)
 rotate_left
 ·exact⟨(),trivial,bd,none_ (by rw[cz,if_neg k1,if_neg k2,if_neg k3,if_neg k4,if_neg k5,if_neg k6])⟩
 have hT:cz R from_ f ms now=(if R.fi f=true∧from_=16 then (u3 R f.index,xv R f.index) else (R,[])):=by rw[cz,if_neg k1,if_neg k2,if_neg k3,if_neg k4,if_neg k5,if_pos k6]
 refine Pe ?_
 refine Rw ?_
 refine an ?_
 by_cases h1:R.fi f=true
 rotate_left
 ·rw[if_neg (fun h=>h1 h.1)] at hT
  have h1:R.fi f=false:=by simpa using h1
  refine VG (VY 128 false Z h1 ?_)
  refine J4 ?_
  exact HK
 refine VG (VY 128 true Z h1 ?_)
 refine eP ?_
 refine CE (i:=from_) (j:=16) Z (fun h2=>?_) (fun h2=>CK ?_)
 rotate_left
 ·rw[if_neg (fun h=>h2 h.2)] at hT
  exact HK
 rw[if_pos ⟨h1,h2⟩] at hT
 refine CN (L':=[bV x.rp R.bC,pt p (aS R x) dM,aJ aG 2 x.a R.ch.ms.length x.c (flat ax R.ch.ms),b9 x.lp R.log,bO x.wp R.win,bu x.ap R.bH,aQ ob [],pt fb (iz f (ma,ms.length,mc)) g_]) (dG [5,0,0,0,0,0,0,0]).ar ?_
 refine CS ?_
 refine CD (ts 0 6 (.take 8 (.only 6 (.take 7 .nil)))) yn yr ?_
 refine Ou ?_
 refine AG (AO (OC (Lc:=[bV x.rp R.bC]) (R:=fun v L=>∃a c rows,rows.map Prod.fst=R.bC.l.filter (fun x=>!jD f.index x)∧v=.slice a rows.length c∧L=[bV x.rp { R.bC with l:=R.bC.l.filter (jD f.index) },aJ mN 34 a rows.length c (flat jB rows)]) Z (.refl _) (fun Fr w hF hs hS=>Rd.Gb Fr w ok.tj yd f.index)) Z ?_ ?_)
 ·rintro _ _ ⟨_,⟨ga,gc,rows,hrows,rfl,rfl⟩,rfl⟩
  exact yu
 rintro _ _ ⟨_,⟨ga,gc,rows,hrows,rfl,rfl⟩,rfl⟩
 (repeat(first|refine yG (yN ?_)|refine yG (yD 0 rfl rfl rfl rfl rfl ?_)|refine yG (yD 1 rfl rfl rfl rfl rfl ?_)|refine yG (yD 2 rfl rfl rfl rfl rfl ?_)|refine yG (yD 3 rfl rfl rfl rfl rfl ?_)|refine yG (yD 4 rfl rfl rfl rfl rfl ?_)|refine yG (yD 5 rfl rfl rfl rfl rfl ?_)|refine yG (yD 6 rfl rfl rfl rfl rfl ?_)|refine yG (yD 7 rfl rfl rfl rfl rfl ?_)|refine yG (yD 8 rfl rfl rfl rfl rfl ?_)))
 have hrowl:rows.length≤16:=by
  have:=congrArg List.length hrows
  rw[Zm] at this
  have h2:=Z1 (fun y=>!jD f.index y) R.bC.l
  omega
 show VC _ _ _ [bV x.rp (u3 R f.index).bC,aJ mN 34 ga rows.length gc (flat jB rows),pt p (aS R x) dM,aJ aG 2 x.a R.ch.ms.length x.c (flat ax R.ch.ms),b9 x.lp R.log,bO x.wp R.win,bu x.ap R.bH,aQ ob [],pt fb (iz f (ma,ms.length,mc)) g_] _
 refine VC.e7 1 Z (aV.rl mN ga gc rows ri) ?_
 rintro r ⟨rok,hrv,hrx⟩
 show VC _ _ _ [r.h mN,bV x.rp (u3 R f.index).bC,pt p (aS R x) dM,aJ aG 2 x.a R.ch.ms.length x.c (flat ax R.ch.ms),b9 x.lp R.log,bO x.wp R.win,bu x.ap R.bH,aQ ob [],pt fb (iz f (ma,ms.length,mc)) g_] _
 have hexp:∀i,i≤rows.length→(rows.take i).length=i:=fun i hi=>by simp;omega
 refine VC.block ?_
 refine VC.loop (σ:=Nat) (fun i=>[(0,pV p),(9,pV ob),(10,cI ob),(138,.slice ga rows.length gc),(139,.int .i64 rows.length),(140,.int .i64 i)])
  (fun i=>[r.h mN,bV x.rp (u3 R f.index).bC,pt p (aS R x) dM,aJ aG 2 x.a R.ch.ms.length x.c (flat ax R.ch.ms),b9 x.lp R.log,bO x.wp R.win,bu x.ap R.bH,aQ ob ((rows.take i).map fun y=>(32+y.1.f.aj,je y.1.f.aj y.1.f.seq y.1.f.cn y.1.r))])
  (fun i=>i≤rows.length) (fun i=>rows.length-i) 0
  (Zj _) bd (dG [0,0,0,0,0,0,0,0]).ar ?_
 intro i hi
 refine an ?_
 refine CP Z (fun h1=>CK ?_) (fun h1=>CX ?_)
 ·have hi2:i<rows.length:=by omega
  obtain⟨g,hg⟩:∃g,rows[i]?=some g:=⟨_,GE hi2⟩
  have hgm:g.1∈R.bC.l:=by
   have h2:g.1∈rows.map Prod.fst:=Zv.2 ⟨g,ME hg,rfl⟩
   rw[hrows] at h2
   exact(ZA.1 h2).1
  have hcg:=ok.xu g.1 hgm
  obtain⟨gb,go,r1,r2,hrd⟩:=rok.ld (t:=mN) (hrx▸hg) rfl
  obtain rfl:ga=some ⟨gb,go,none⟩:=by rw[RL.v,r2,hrx] at hrv;injection hrv with e1;exact e1.symm
  refine Kl ?_
  refine UR ?_
  refine VG (VO.alloc Z fun tb=>?_)
  refine US ?_
  refine an ?_
  refine VG (VL 0 (bn g.1.r) Z Z Z Z ?_)
  refine an ?_
  refine VG (VQ 8 Z (fun Fr w hF hs hS=>qz Fr w (by rw[Zm,hexp i yd];omega) g.1.f.aj g.1.f.seq g.1.f.cn hcg.1 yd g.1.r) Z (ψ:=fun v H=>v=.tuple #[]∧H=aQ ob ((rows.take i).map (fun y=>(32+y.1.f.aj,je y.1.f.aj y.1.f.seq y.1.f.cn y.1.r)) ++ [(32+g.1.f.aj,je g.1.f.aj g.1.f.seq g.1.f.cn g.1.r)])) yy ?_)
  rintro _ _ ⟨rfl,rfl⟩
  refine sd ?_
  refine⟨i+1,hi2,by dsimp only;omega,bd,?_⟩
  dsimp only
  rw[Zu,hg,Option.toList_some,ZL,List.map_singleton]
  exact(dG [1,1,1,1,1,1,1,1]).ar
 obtain rfl:i=rows.length:=by omega
 rw[ZF]
 have hes:(rows.map fun y=>((32+y.1.f.aj,je y.1.f.aj y.1.f.seq y.1.f.cn y.1.r):dd))=xv R f.index:=by
  unfold xv
  rw[←hrows,List.map_map];rfl
 rw[hes]
 refine⟨(),trivial,bd,?_⟩
 rw[hT]
 exact(ae.rep (R:=u3 R f.index) x (dG [2,2,2,2,2,1,1])).ar
end
end Rep
namespace Rep
open Go Vg T Api Kv Ch Lg Rd Win Adm Sched Conf
attribute [local irreducible] VO VC VA
section
variable {p:Nat} {R:au}
theorem BN(h:aL Fr [bz p R] w):aH Tryz.prog 72 [.pointer (some ⟨p,0,none⟩)] Fr w [] (fun v L=>v=.int .i64 R.since∧L=[]):=by
 obtain⟨x,hx⟩:=fR.Uc h
 have hb:=hx.aP
 refine TF 10 Tryz.func72 Z yn ah Z Z ?_
 refine an ?_
 refine VG (VV (fun Fr w hF hs _=>mj Fr w (hb.of hF hs)) Z (VG (VN (VC.jm Z (CK ?_)))))
 refine Db ?_
 exact QX
theorem IF(ok:R.Ok)(h:aL Fr [bz p R] w):aH Tryz.prog 76 [.pointer (some ⟨p,0,none⟩)] Fr w [] (fun v L=>∃q,v=.pointer (some ⟨q,0,none⟩)∧L=[b9 q R.log]):=by
 obtain⟨x,hx⟩:=fR.Uc h
 have hb:=hx.aP
 have hl:=hx.log
 have h1:=ok.last;have h2:=ok.win.gS
 refine TF 11 Tryz.func76 Z yn ah Z Z ?_
 refine an ?_
 refine VG (VV (fun Fr w hF hs _=>mj Fr w (hb.of hF hs)) Z (VG (VN (VC.jm Z (CK ?_)))))
 refine Db ?_
 refine VG (VK (Lc:=[]) (fun Fr w hF hs _=>Lg.lZ Fr w (hl.of hF hs) yd) Z Z ?_)
 rintro _ _ ⟨q,rfl,rfl⟩
 exact VH
theorem BO(ok:R.Ok)(h:aL Fr [bz p R] w):aH Tryz.prog 74 [.pointer (some ⟨p,0,none⟩)] Fr w [] (fun v L=>∃q,v=.pointer (some ⟨q,0,none⟩)∧L=[bO q R.win]):=by
 obtain⟨x,hx⟩:=fR.Uc h
 have hb:=hx.aP
 have hl:=hx.win
 refine TF 11 Tryz.func74 Z yn ah Z Z ?_
 refine an ?_
 refine VG (VV (fun Fr w hF hs _=>mj Fr w (hb.of hF hs)) Z (VG (VN (VC.jm Z (CK ?_)))))
 refine Db ?_
 refine VG (VK (Lc:=[]) (fun Fr w hF hs _=>Win.lZ Fr w (hl.of hF hs) ok.win.eS) Z Z ?_)
 rintro _ _ ⟨q,rfl,rfl⟩
 exact VH
theorem DY(ok:R.Ok)(h:aL Fr [bz p R] w):aH Tryz.prog 73 [.pointer (some ⟨p,0,none⟩)] Fr w [] (fun v L=>∃a c,v=.agg (R.ch.cells a c).toArray∧L=[aJ aG 2 a R.ch.ms.length c (flat ax R.ch.ms)]):=by
 obtain⟨x,hx⟩:=fR.Uc h
 have hb:=hx.aP
 have hm:=hx.mem
 have hl:=ok.ch.len
 refine TF 12 Tryz.func73 Z yn ah Z Z ?_
 refine CS (CG (VG (VO.alloc Z fun d=>?_)))
 refine an ?_
 refine VG (VV (fun Fr w hF hs _=>mj Fr w (hb.of hF hs)) Z (VG (VN (VC.jm Z (CK ?_)))))
 refine an ?_
 refine VG (VO.load Z Z (aE.lB (ds:=R.ch.cells x.a x.c) hb Z) ?_)
 refine XJ ?_
 rintro _ _ ⟨a',c',rfl,rfl⟩
 refine VG (VT (vs:=R.ch.cells a' c') (cs':=R.ch.cells a' c') 1 Z Z Z Z (NR _) Z Z Z ?_)
 refine an ?_
 exact UT
def js(al:Int):aa:={ aa.zero with kind:=12,al:=al }
def dO(R:au):au:=if R.linked then { R with win:={ R.win with dp:=min (max R.cK 0) R.win.last } } else R
def iW(R:au):au×List dd:=(dO R,R.gX++R.dU++R.iJ++(if (!R.bC.l.isEmpty)=true then [(16,fZ R.ch.al R.bC.nP)] else [])++(if R.dD=true∧R.win.done=R.win.last then [(16,js R.ch.al)] else []))
theorem BP{R:au}(h:R.Ok):(dO R).Ok:=by
 unfold dO
 split
 ·have hw:=h.win
  refine⟨h.ch,⟨hw.eS,hw.gR,hw.jL,hw.jM,hw.gS,?_,?_,hw.Dx,hw.Dy⟩,h.last,h.nh,h.ni,h.tj,h.sG,h.rl,h.zJ,h.AU,h.xu,h.calls,h.wf⟩
  ·show 0≤min (max R.cK 0) R.win.last
   have:=hw.jL;have:=hw.jM;omega
  ·show min (max R.cK 0) R.win.last≤R.win.last;omega
 ·exact h
theorem DZ(R:au):ft R (iW R).1:=by
 show ft R (dO R)
 unfold dO;split<;>exact⟨rfl,rfl,rfl,rfl,rfl⟩
theorem Gv{R:au}(h:R.Fit):(iW R).1.Fit:=h.stays (DZ R) (BP h.ok)
theorem Gw(ok:R.Ok)(now:Int):aH Tryz.prog 104 [.pointer (some ⟨p,0,none⟩),.int .i64 now] Fr w [bz p R]
  (fun v L=>dp (iW R).2 v L [bz p (iW R).1]):=by
 have hrl:R.bC.l.length≤16:=by have:=ok.rl;have:=ok.sG;omega
 have gl:R.dU.length≤1:=by unfold au.dU;split<;>simp
 have bl:R.iJ.length≤1:=by unfold au.iJ;split<;>simp
 have ml:R.gX.length=1:=rfl
 refine TF 78 Tryz.func104 Z yn ah Z Z ?_
 refine Q1 ?_
 rintro x -
 show VC _ _ _ [pt p (aS R x) dM,aJ aG 2 x.a R.ch.ms.length x.c (flat ax R.ch.ms),b9 x.lp R.log,bO x.wp R.win,bu x.ap R.bH,bV x.rp R.bC] _
 refine an ?_
 refine UP ?_
 refine J3 ?_
 refine VG (VO.alloc Z fun ob=>?_)
 refine an ?_
 refine UQ ?_
 refine an ?_
 refine VO.ar (L':=iw p R x ob []) (IP 1 Z (IP 1 Z (IP 1 Z (IP 1 Z (IP 1 Z (IP 1 Z (ae.out (none,0) (IP 0 Z (ae.bY ae.nil))))))))).ar ?_
 unfold iw
 refine VG (VQ 6 Z (fun Fr w hF hs hS=>nR Fr w (hS.aP 0 Z) (by show 0≤1000000;omega)) Z (ψ:=fun v H=>v=.tuple #[]∧H=aQ ob ([]++R.gX)) yy ?_)
 rintro _ _ ⟨rfl,rfl⟩
 refine an ?_
 refine VG (VQ 6 Z (fun Fr w hF hs hS=>ng Fr w (fR.Gn hS 0 Z Z Z Z Z Z) ok.ch ok.win (by rw[ZI];omega)) Z (ψ:=fun v H=>v=.tuple #[]∧H=aQ ob (R.gX++R.dU)) yy ?_)
 rintro _ _ ⟨rfl,rfl⟩
 refine an ?_
 refine VG (VQ 6 Z (fun Fr w hF hs hS=>lH Fr w (fR.Gn hS 0 Z Z Z Z Z Z) ok.ch JX) Z (ψ:=fun v H=>v=.tuple #[]∧H=aQ ob (R.gX++R.dU++R.iJ)) yy ?_)
 rintro _ _ ⟨rfl,rfl⟩
 generalize hS1:R.gX++R.dU++R.iJ=S1
 have hS1l:S1.length≤3:=by rw[←hS1,Zh,Zh];omega
 refine AM ?_
 show VC _ _ _ (iw p R x ob S1) _
 have R2e:∀(y:qx) (S:List dd),iw p (dO R) y ob S=[pt p (aS (dO R) y) dM,aJ aG 2 y.a (dO R).ch.ms.length y.c (flat ax (dO R).ch.ms),b9 y.lp (dO R).log,bO y.wp (dO R).win,bu y.ap (dO R).bH,bV y.rp (dO R).bC,aQ ob S]:=fun _ _=>rfl
 refine CS ?_
 refine VC.cq (σ:=Unit) (fun _=>[(0,pV p),(5,pV ob),(6,cI ob)]) (fun _=>iw p (dO R) x ob S1) (fun _=>True) ?_ ?_
 ·unfold iw
  refine an ?_
  refine CC Z (fun h1=>?_) (fun h1=>CK ?_)
  ·have e:dO R={ R with win:={ R.win with dp:=min (max R.cK 0) R.win.last } }:=by rw[dO,if_pos h1]
   refine CD (ts 0 8 (.only 8 .nil)) yn yr ?_
   refine eT ?_
   refine AG (AQ 3 Z (fun Fr w hF hs hS=>Win.xj Fr w ok.win R.cK) Z Z (ψ:=fun v H=>v=.tuple #[]∧H=bO x.wp { R.win with dp:=min (max R.cK 0) R.win.last }) yy ?_ ?_)
   ·rintro _ _ ⟨rfl,rfl⟩
    exact yu
   rintro _ _ ⟨rfl,rfl⟩
   refine eT ?_
   refine⟨(),trivial,bd,?_⟩
   rw[e];exact ER
  ·have e:dO R=R:=by rw[dO,if_neg Kd]
   refine⟨(),trivial,bd,?_⟩
   rw[e];exact ER
 rintro _ -
 have et:(dO R).bC=R.bC∧(dO R).ch=R.ch∧(dO R).dD=R.dD∧(dO R).win.done=R.win.done∧(dO R).win.last=R.win.last:=by unfold dO;split<;>exact⟨rfl,rfl,rfl,rfl,rfl⟩
 have okt:=BP ok
 have htk:iW R=(dO R,S1++(if (!(dO R).bC.l.isEmpty)=true then [(16,fZ (dO R).ch.al (dO R).bC.nP)] else [])++(if (dO R).dD=true∧(dO R).win.done=(dO R).win.last then [(16,js (dO R).ch.al)] else [])):=by
  rw[et.1,et.2.1,et.2.2.1,et.2.2.2.1,et.2.2.2.2,←hS1];rfl
 rw[htk]
 have hrt:(dO R).bC.l.length≤16:=by rw[et.1];exact hrl
 generalize dO R=Q at *
 refine CS ?_
 refine VC.cq (σ:=Unit) (fun _=>[(0,pV p),(5,pV ob),(6,cI ob)]) (fun _=>iw p Q x ob (S1++(if (!Q.bC.l.isEmpty)=true then [(16,fZ Q.ch.al Q.bC.nP)] else []))) (fun _=>True) ?_ ?_
 ·unfold iw
  refine an ?_
  refine VG (VV (fun Fr w hF hs hS=>Rd.fF Fr w (hS.at_ 5 Z) okt.tj yd) Z ?_)
  refine an ?_
  refine CC Z (fun h1=>?_) (fun h1=>CK ?_)
  ·refine an ?_
   refine VG (VI (LB (pv:=[(0,.int .i64 9),(1,.int .i64 Q.ch.al),(12,.int .i64 Q.bC.nP)]) (iz (fZ Q.ch.al Q.bC.nP) m_) Z Z Z yn Z) ?_)
   refine VG (VO.fx 6 Z Z (fun Fr w hF hs _=>iH Fr w ob S1 yd 16 (fZ Q.ch.al Q.bC.nP)) Z (ψ:=fun v H=>v=.tuple #[]∧H=aQ ob (S1 ++ [(16,fZ Q.ch.al Q.bC.nP)])) yy ?_)
   rintro _ _ ⟨rfl,rfl⟩
   refine an ?_
   refine⟨(),trivial,bd,?_⟩
   rw[if_pos h1];exact ER
  ·refine⟨(),trivial,bd,?_⟩
   rw[if_neg Kd,Zi];exact ER
 rintro _ -
 generalize hS2:S1++(if (!Q.bC.l.isEmpty)=true then [(16,fZ Q.ch.al Q.bC.nP)] else [])=S2
 have hS2l:S2.length≤4:=by rw[←hS2,Zh];split<;>simp<;>omega
 refine CS ?_
 refine VC.cq (σ:=Unit) (fun _=>[(5,pV ob)]) (fun _=>[bz p Q,aQ ob (S2++(if Q.dD=true∧Q.win.done=Q.win.last then [(16,js Q.ch.al)] else []))]) (fun _=>True) ?_ ?_
 ·unfold iw
  have no:¬(Q.dD=true∧Q.win.done=Q.win.last)→∀{X:Cx},jj X (iw p Q x ob S2) [bz p Q,aQ ob (S2++(if Q.dD=true∧Q.win.done=Q.win.last then [(16,js Q.ch.al)] else []))]:=fun h {X}=>by
   rw[if_neg h,Zi];exact dN.ar
  refine CS ?_
  refine CD (ts 0 1 (.only 1 (ts 2 5 (ts 8 4 (.only 7 (.only 12 (ts 13 2 .nil))))))) yn yr ?_
  refine eT ?_
  refine AG (AR (fun Fr w hF hs hS=>lf Fr w (hS.aP 0 Z)) Z Z yu ?_)
  refine eT ?_
  by_cases h1:Q.dD=true
  rotate_left
  ·have h1':Q.dD=false:=by simpa using h1
   refine AG (AY 55 false Z h1' ?_)
   refine Pc ?_
   refine TZ ?_
   refine r_ ?_
   exact⟨(),trivial,bd,no (fun h=>h1 h.1)⟩
  refine AG (AY 55 true Z h1 ?_)
  refine lS ?_
  refine AG (AR (fun Fr w hF hs hS=>Win.pq Fr w (hS.aP 3 Z) okt.win.eS) Z Z yu ?_)
  refine lS ?_
  refine AG (AR (fun Fr w hF hs hS=>Win.fF Fr w (hS.aP 3 Z) okt.win.eS) Z Z yu ?_)
  refine lS ?_
  refine CE (i:=Q.win.done) (j:=Q.win.last) Z (fun h2=>?_) (fun h2=>CK ?_)
  ·refine an ?_
   refine VG (VI (LB (pv:=[(0,.int .i64 12),(1,.int .i64 Q.ch.al)]) (iz (js Q.ch.al) m_) Z Z Z yn Z) ?_)
   refine VG (VO.fx 6 Z Z (fun Fr w hF hs _=>iH Fr w ob S2 yd 16 (js Q.ch.al)) Z (ψ:=fun v H=>v=.tuple #[]∧H=aQ ob (S2 ++ [(16,js Q.ch.al)])) yy ?_)
   rintro _ _ ⟨rfl,rfl⟩
   refine an ?_
   refine⟨(),trivial,bd,?_⟩
   rw[if_pos ⟨h1,h2⟩];exact(dN (x:=x)).ar
  ·exact⟨(),trivial,bd,no (fun h=>h2 h.2)⟩
 rintro _ -
 refine VC.e7 1 Z (aV.out ob _) ?_
 rintro⟨a,c⟩ -
 refine an ?_
 exact CR (ay.tmp 4 Z Z (IP 2 Z (IP 1 Z ae.nil)).ar ⟨a,c,Z,Z⟩)
end
end Rep
namespace Rep
open Go Vg T Api Kv Ch Lg Rd Win Adm Sched Conf
attribute [local irreducible] VO VC VA
def Ba(aj seq cn al:Int):aa:={ aa.zero with kind:=1,al:=al,aj:=aj,seq:=seq,cn:=cn,deadline:=9,op:=⟨2,⟨#[107]⟩,⟨#[118]⟩,0⟩ }
def cH(S:List dd)(whom kind:Int):Bool:=match S with
 | [x]=>x.1 == whom&&x.2.kind == kind
 | _=>false
theorem aV.one{α:Type}{c:α→List Value}{n:Nat}(el:Nat)(a:Option Addr)(cap:Nat)(x:α):aV (ι:=Nat×List Value) (aJ el n a [x].length cap (flat c [x])) (fun y=>a=some ⟨y.1,0,none⟩) (fun y=>[pt y.1 (c x++y.2) el]):=by
 intro w ids h hn
 obtain⟨y,hy,ids',h1,h2,h3⟩:=aV.sl el n a 1 cap (flat c [x]) w ids h hn
 cases y with
 | none=>obtain⟨_,_,_,h,_⟩:=hy;cases h
 | some y=>
  obtain⟨b,rest⟩:=y
  obtain⟨_,_,h7,_⟩:=hy
  refine⟨(b,rest),h7,ids',?_,h2,h3⟩
  simp only[bL,e_,Zi] at h1
  exact h1
end Rep
namespace Cl
open Go Vg T Api Ch Conf Rep
abbrev nY:=Int×aa×List bG
def sJ(S:List dd):List nY:=S.map fun x=>(x.1,x.2,[])
def V5:e8:=⟨0,⟨#[]⟩,⟨#[]⟩,0⟩
def cu(n:Int):Int:=min (max n 0) 1099511627776
def oQ(c:dL):aa:={ aa.zero with kind:=8,bU:=c.al,drain:=c.drain }
def jR(c:dL)(toQ:Int):nY:=(toQ,oQ c,c.ms)
def cd(c:dL):Int:=if se c≠0∨c.al=1099511627776 then 2 else 0
def de(c:dL)(n:Int):Int:=if placeOf c.ms n<0 then 4 else if c.ms.length=1 then 72 else 0
def ez:dL:=⟨0,[],0⟩
def fJ(c:dL)(n:Int):dL×Int:=
 if cd c≠0 then (ez,2) else if pU n=false then (ez,2) else if 0≤placeOf c.ms n then (ez,62)
 else (⟨c.al+1,c.ms ++ [(n,c.al+1)],c.drain⟩,0)
def dJ(c:dL)(n:Int):dL×Int:=
 if cd c≠0 then (ez,2) else if de c n≠0 then (ez,de c n)
 else (⟨c.al+1,c.ms.eraseIdx (placeOf c.ms n).toNat,if c.drain=n then -1 else c.drain⟩,0)
def fj(c:dL)(n:Int):dL×Int:=
 if cd c≠0 then (ez,2) else if de c n≠0 then (ez,de c n) else if c.drain≠-1 then (ez,62)
 else (⟨c.al+1,c.ms,n⟩,0)
structure fK where
 cap:Int
 cG:Int
 tokens:Int
 tick:Int
 since:Int
def jF:Nat→fK→fK
 | 0,b=>b
 | k+1,b=>if b.tokens<b.cap∧b.since+b.cG≤b.tick then jF k { b with tokens:=b.tokens+1,since:=b.since+b.cG } else b
def fK.at(b:fK)(now:Int):fK:={ b with tick:=min (max now b.tick) 1099511627776 }
def fK.full(b:fK):fK:=if b.tokens=b.cap then { b with since:=b.tick } else b
def fK.jt(b:fK)(now:Int):fK:=(jF 17 (b.at now)).full
def fK.take(b:fK)(now:Int):fK×Bool:=
 if (b.jt now).tokens=0 then (b.jt now,false) else ({ b.jt now with tokens:=(b.jt now).tokens-1 },true)
def Gx(tries iI:Int):Int:=
 if tries<1 then 0 else if 7<tries then min (max iI 0) 64 else min ((2 ^ (tries-1).toNat:Nat):Int) (min (max iI 0) 64)
structure gk where
 kind:Int
 reason:Int
 res:jC
def cY:jC:=⟨0,⟨#[]⟩,0,0⟩
structure aN where
 id:Int
 cls:Int
 timeout:Int
 dB:Int
 tok:fK
 ch:dL
 out:Option (Option gk)
 fL:Int
 since:Int
 zV:Int
 unsure:Bool
 seq:Int
 tries:Int
 cl:Int
 deadline:Int
 op:e8
def oR(c:aX)(id:Int):aN:=⟨id,c.qs.length,c.timeout,c.dB,⟨c.dB,c.cG,c.dB,0,0⟩,ez,none,0,0,0,false,0,0,0,0,V5⟩
def Qf:List nY:=[(16,{ aa.zero with kind:=7 },[])]
def u5(o:e8):Bool:=decide (o.kind=1)&&decide (aZ o=0)
def aN.ask(s:aN)(now:Int):aN×List nY:=({ s with fL:=1,since:=now },Qf)
def jK(s:aN):aa:={ aa.zero with kind:=1,al:=s.ch.al,aj:=s.id,seq:=s.seq,cn:=s.tries,cls:=s.cl,deadline:=s.deadline,op:=s.op }
def aN.toQ(s:aN):Int:=if u5 s.op then qk s.ch else sn s.ch
def aN.nT(s:aN)(now:Int):aN:={ s with tries:=s.tries+1,fL:=2,since:=now }
def aN.cn(s:aN)(now:Int):aN×List nY:=(s.nT now,[((s.nT now).toQ,jK (s.nT now),[])])
def Sm(o:Option (Option gk))(x:gk):Option (Option gk):=match o with
 | some none=>some (some x)
 | o=>o
def aN.end_(s:aN)(o:gk):aN:={ s with out:=Sm s.out o,fL:=0 }
def aN.giveUp(s:aN)(reason:Int):aN×List nY:=(s.end_ (if s.unsure then ⟨3,0,cY⟩ else ⟨2,reason,cY⟩),Qf)
def aN.Fg(s:aN)(now:Int):aN:={ s with fL:=3,zV:=now+Gx s.tries 64 }
def aN.wI(s:aN)(now:Int):aN:={ s with tok:=(s.tok.take now).1 }
def aN.nu(s:aN)(reason now:Int):aN×List nY:=
 if s.dB<s.tries∨s.deadline<now then s.giveUp reason
 else if (s.tok.take now).2 then ((s.wI now).Fg now,[]) else (s.wI now).giveUp reason
def aN.begun(s:aN)(o:e8)(cl deadline:Int):aN:={ s with out:=some none,seq:=s.seq+1,tries:=0,unsure:=false,op:=o,cl:=cl,deadline:=deadline }
def aN.eU(s:aN)(o:e8)(cl deadline:Int):Int:=
 if s.fL≠0 then 63 else if aZ o≠0∨cl<0∨s.cls≤cl∨deadline<0∨1099511627776<deadline then 2 else 0
def aN.call(s:aN)(o:e8)(cl deadline now:Int):aN×List nY:=
 if s.eU o cl deadline≠0 then (s,[]) else if 0<s.ch.al then (s.begun o cl deadline).cn (cu now) else (s.begun o cl deadline).ask (cu now)
def aN.refused(s:aN)(reason now:Int):aN×List nY:=
 if reason=6∨reason=5∨reason=7 then ({ s with unsure:=true }:aN).nu reason now
 else if reason=2∨reason=10 then s.giveUp reason else s.nu reason now
def aN.take(s:aN)(f:aa)(ms:List bG)(now:Int):aN×List nY:=
 if f.kind=8 then
  if se ⟨f.bU,ms,f.drain⟩≠0∨f.bU<s.ch.al then (s,[])
  else if s.fL=1 then ({ s with ch:=⟨f.bU,ms,f.drain⟩ }:aN).cn (cu now) else ({ s with ch:=⟨f.bU,ms,f.drain⟩ },[])
 else if f.kind=2 then if s.fL≠0∧f.aj=s.id∧f.seq=s.seq then (s.end_ ⟨1,0,f.res⟩,[]) else (s,[])
 else if f.kind=3 then if s.fL=2∧f.aj=s.id∧f.seq=s.seq∧f.cn=s.tries then s.refused f.reason (cu now) else (s,[])
 else (s,[])
def aN.tick(s:aN)(now:Int):aN×List nY:=
 if s.fL=2 then if s.timeout≤cu now-s.since then ({ s with unsure:=true }:aN).nu 0 (cu now) else (s,[])
 else if s.fL=1 then if cu now-s.since<s.timeout then (s,[]) else if s.deadline<cu now then s.giveUp 2 else s.ask (cu now)
 else if s.fL=3 then if s.zV≤cu now then s.ask (cu now) else (s,[])
 else (s,[])
def aN.outcome(s:aN):Option gk:=s.out.getD none
structure aC where
 nodes:Int
 bt:Int
 ch:dL
 heard:List Int
 whole:List Bool
def u6(c:aX):aC:=⟨c.nodes,c.bt,bq c,List.replicate 6 0,(List.range 6).map fun(i:Nat)=>decide ((i:Int)<c.chain)⟩
def aC.qB(m:aC)(n:Int):Bool:=(m.whole[n.toNat]?).getD false
def aC.lL(m:aC)(n:Int):Int:=(m.heard[n.toNat]?).getD 0
def aC.lg(m:aC)(n:Int):Bool:=m.ch.ms.any fun x=>!decide (x.1=n)&&m.qB x.1
def aC.isNode(m:aC)(n:Int):Bool:=decide (0≤n)&&decide (n<m.nodes)
def aC.all(m:aC):List nY:=(List.range m.nodes.toNat).map fun(n:Nat)=>jR m.ch (n:Int)
def aC.tQ(m:aC)(n:Int):Int:=(dJ m.ch n).2
def aC.gone(m:aC)(n:Int):aC:={ m with ch:=(dJ m.ch n).1,whole:=m.whole.set n.toNat false }
def aC.out(m:aC)(n:Int):aC:=if m.tQ n≠0 then m else m.gone n
def nU(al index:Int):aa:={ aa.zero with kind:=10,al:=al,index:=index }
def aC.cV(m:aC)(from_ now:Int):aC:={ m with heard:=m.heard.set from_.toNat (cu now) }
def aC.wholeAt(m:aC)(from_:Int):aC:={ m with whole:=m.whole.set from_.toNat true }
def aC.take(m:aC)(from_:Int)(f:aa)(now:Int):aC×List nY:=
 if f.kind=7 then (m,[jR m.ch from_])
 else if m.isNode from_=false then (m,[])
 else if f.kind=11 then
  if f.al≠m.ch.al then (m.cV from_ now,[jR m.ch from_])
  else if f.index=1∧(a6 m.ch from_).2=true then ((m.cV from_ now).wholeAt from_,[]) else (m.cV from_ now,[])
 else if f.kind=9 then
  if f.al≠m.ch.al then (m,[jR m.ch from_]) else if qk m.ch=from_ then (m,[(from_,nU f.al f.index,[])]) else (m,[])
 else if f.kind=12 then
  if (f.al=m.ch.al∧m.ch.drain=from_)∧m.lg from_=true∧m.tQ from_=0 then (m.gone from_,(m.gone from_).all) else (m,[])
 else (m,[])
def aC.late(m:aC)(now n:Int):Bool:=decide (m.bt<now-m.lL n)&&(m.lg n&&decide (m.tQ n=0))
def aC.watch(now:Int):List bG→aC×Bool→aC×Bool
 | [],x=>x
 | y::l,x=>aC.watch now l (if x.1.late now y.1 then (x.1.gone y.1,true) else x)
def aC.tick(m:aC)(now:Int):aC×List nY:=
 ((aC.watch (cu now) m.ch.ms (m,false)).1,if (aC.watch (cu now) m.ch.ms (m,false)).2 then (aC.watch (cu now) m.ch.ms (m,false)).1.all else [])
def aC.u7(m:aC)(n:Int):Int:=if (a6 m.ch n).2=false then 4 else if m.lg n=false then 72 else 0
def aC.cW(m:aC)(n:Int):aC×List nY×Int:=
 if m.u7 n≠0 then (m,[],m.u7 n) else if m.tQ n≠0 then (m,[],m.tQ n) else (m.gone n,(m.gone n).all,0)
def aC.gN(m:aC)(n now:Int):aC:={ m with ch:=(fJ m.ch n).1,whole:=m.whole.set n.toNat false,heard:=m.heard.set n.toNat (cu now) }
def aC.join(m:aC)(n now:Int):aC×List nY×Int:=
 if m.isNode n=false then (m,[],2) else if (fJ m.ch n).2≠0 then (m,[],(fJ m.ch n).2) else (m.gN n now,(m.gN n now).all,0)
def aC.fW(m:aC)(n:Int):aC:={ m with ch:=(fj m.ch n).1 }
def aC.drain(m:aC)(n:Int):aC×List nY×Int:=
 if m.u7 n≠0 then (m,[],m.u7 n) else if (fj m.ch n).2≠0 then (m,[],(fj m.ch n).2) else (m.fW n,(m.fW n).all,0)
structure RecM where
 aj:Int
 seq:Int
 op:e8
 from_:Int
 toQ:Int
 out:gk
def Sn:gk:=⟨0,0,cY⟩
structure bK where
 bw:List RecM
 events:Int
 last:List Int
def BQ:bK:=⟨[],0,List.replicate 6 0⟩
def bK.cZ(h:bK)(c:Int):Option (Nat×RecM):=
 if c<0∨6≤c∨(h.last[c.toNat]?).getD 0=0 then none
 else (h.bw[((h.last[c.toNat]?).getD 0).toNat-1]?).map fun r=>(((h.last[c.toNat]?).getD 0).toNat-1,r)
def bK.eU(h:bK)(c seq:Int)(o:e8):Int:=
 if c<0∨6≤c∨seq<1∨aZ o≠0 then 2
 else match h.cZ c with
  | none=>0
  | some (_,r)=>if r.toQ<0 then 63 else if seq≤r.seq then 70 else 0
def bK.call(h:bK)(c seq:Int)(o:e8):bK:=
 if h.eU c seq o≠0 then h
 else ⟨h.bw ++ [⟨c,seq,o,h.events,-1,Sn⟩],h.events+1,h.last.set c.toNat ((h.bw.length:Int)+1)⟩
def bK.end_(h:bK)(c seq:Int)(o:gk):bK:=
 if o.kind≠1∧o.kind≠2∧o.kind≠3 then h
 else match h.cZ c with
  | none=>h
  | some (i,r)=>if r.seq≠seq∨0≤r.toQ then h else { h with bw:=h.bw.set i { r with toQ:=h.events,out:=o },events:=h.events+1 }
abbrev oe:=Int×Int
structure ba where
 cap:Int
 fX:List (oe×List ByteArray)
def ba.list(l:ba)(p:oe):List ByteArray:=(dP l.fX p).getD []
def jS(a:Int):Bool:=(decide (0≤a)&&decide (a<6))||(decide (a=16)||(decide (32≤a)&&decide (a<38)))
def ba.ju(l:ba)(p:oe)(t:ByteArray):Int:=
 if jS p.1=false∨jS p.2=false∨p.1=p.2 then 2 else if 512<t.size then 3 else if l.cap≤(l.list p).length then 60 else 0
def ba.send(l:ba)(p:oe)(t:ByteArray):ba:=if l.ju p t≠0 then l else { l with fX:=eE l.fX p (l.list p ++ [t]) }
def ba.find(l:ba)(p:oe)(i:Int):Option ByteArray:=if i<0 then none else (l.list p)[i.toNat]?
def ba.eR(l:ba)(p:oe)(i:Int):ba:=
 if ((l.list p).eraseIdx i.toNat).length=0 then { l with fX:=iA (eE l.fX p ((l.list p).eraseIdx i.toNat)) p } else { l with fX:=eE l.fX p ((l.list p).eraseIdx i.toNat) }
def ba.drop(l:ba)(p:oe)(i:Int):ba×Int:=if l.find p i=none then (l,4) else (l.eR p i,0)
def ba.double(l:ba)(p:oe)(i:Int):ba×Int:=match l.find p i with
 | none=>(l,4)
 | some t=>(l.send p t,l.ju p t)
end Cl
namespace Cl
open Go Vg T Api Ch Conf Rep
structure gi where
 kind:Int
 a:Int
 b:Int
 c:Int
 op:e8
structure av where
 iS:aX
 now:Int
 dk:aC
 nodes:List (Option au)
 ff:List aN
 cB:ba
 gx:bK
 done:List aY
def gd(c:aX):av:=⟨c,0,u6 c,(List.range c.nodes.toNat).map fun(n:Nat)=>some (fu c n false),(List.range c.aB.toNat).map fun(n:Nat)=>oR c n,⟨c.link,[]⟩,BQ,[]⟩
def pY(from_:Int)(l:ba)(s:nY):ba:=match Ba s.2.1 s.2.2 with
 | none=>l
 | some t=>l.send (from_,s.1) (bT t)
def bW(from_:Int)(l:ba)(S:List nY):ba:=S.foldl (pY from_) l
def av.post(C:av)(from_:Int)(S:List nY):av:={ C with cB:=bW from_ C.cB S }
def av.node(C:av)(n:Int):Option au:=if n<0 then none else (C.nodes[n.toNat]?).getD none
def av.u9(C:av)(n:Int):Int:=if n<0∨(C.nodes.length:Int)≤n then 4 else if (C.node n).isNone then 61 else 0
def av.setNode(C:av)(n:Int)(r:Option au):av:={ C with nodes:=C.nodes.set n.toNat r }
def av.pz(C:av)(n:Int):Option aN:=if n<0 then none else C.ff[n.toNat]?
def av.gv(C:av)(n:Int)(s:aN):av:={ C with ff:=C.ff.set n.toNat s }
def av.dead(C:av)(c:Int):Int:=min (C.now+min (max c 0) 1099511627776) 1099511627776
def av.call(C:av)(s:gi):av×Int:=match C.pz s.a with
 | none=>(C,4)
 | some x=>
  if x.eU s.op s.b (C.dead s.c)≠0 then (C,x.eU s.op s.b (C.dead s.c))
  else
   let y:=x.call s.op s.b (C.dead s.c) C.now
   (({ C.gv s.a y.1 with gx:=C.gx.call s.a y.1.seq s.op }:av).post (32+s.a) y.2,0)
def av.cu(C:av)(n:Nat):av:=match (C.nodes[n]?).getD none with
 | none=>C
 | some r=>(C.setNode n (some (iW r).1)).post n (sJ (iW r).2)
def av.mn(C:av)(n:Nat):av:=match C.ff[n]? with
 | none=>C
 | some s=>(C.gv n (s.tick C.now).1).post (32+n) (s.tick C.now).2
def av.tick(C:av):av:=
 let C:={ C with now:=min (C.now+1) 1099511627776 }
 let C:=(List.range C.nodes.length).foldl av.cu C
 (List.range C.ff.length).foldl av.mn C
def av.lh(C:av)(from_ toQ:Int)(f:aa)(ms:List bG):av:=
 if toQ=16 then ({ C with dk:=(C.dk.take from_ f C.now).1 }).post toQ (C.dk.take from_ f C.now).2
 else match C.node toQ with
  | some r=>(C.setNode toQ (some (cz r from_ f ms C.now).1)).post toQ (sJ (cz r from_ f ms C.now).2)
  | none=>match C.pz (toQ-32) with
   | some s=>(C.gv (toQ-32) (s.take f ms C.now).1).post toQ (s.take f ms C.now).2
   | none=>C
def av.OO(C:av)(from_ toQ:Int)(t:ByteArray):av:=match getM (sB t) with
 | some (f,ms)=>C.lh from_ toQ f ms
 | none=>C
def av.fB(C:av)(p:oe)(i:Int):av×Int:=match C.cB.find p i with
 | none=>(C,4)
 | some t=>(({ C with cB:=C.cB.eR p i }:av).OO p.1 p.2 t,0)
def av.back(C:av)(n:Int):av:=
 if C.u9 n=61 then
  let r:=cz (fu C.iS n true) 16 (oQ C.dk.ch) C.dk.ch.ms C.now
  (C.setNode n (some r.1)).post n (sJ r.2)
 else C
def av.join(C:av)(n:Int):av×Int:=
 let j:=C.dk.join n C.now
 if j.2.2≠0 then (C,j.2.2) else ((({ C with dk:=j.1 }:av).back n).post 16 j.2.1,0)
def av.step(C:av)(s:gi):av×Int:=
 if s.kind=1 then C.call s
 else if s.kind=2 then match C.node s.a with
  | none=>(C,C.u9 s.a)
  | some r=>((C.setNode s.a (some (gK r C.now).1)).post s.a (sJ (gK r C.now).2),0)
 else if s.kind=3 then (C.tick,0)
 else if s.kind=4 then C.fB (s.a,s.b) s.c
 else if s.kind=5 then ({ C with cB:=(C.cB.drop (s.a,s.b) s.c).1 },(C.cB.drop (s.a,s.b) s.c).2)
 else if s.kind=6 then ({ C with cB:=(C.cB.double (s.a,s.b) s.c).1 },(C.cB.double (s.a,s.b) s.c).2)
 else if s.kind=7 then if C.u9 s.a≠0 then (C,C.u9 s.a) else (C.setNode s.a none,0)
 else if s.kind=8 then (({ C with dk:=(C.dk.cW s.a).1 }:av).post 16 (C.dk.cW s.a).2.1,(C.dk.cW s.a).2.2)
 else if s.kind=9 then C.join s.a
 else if s.kind=10 then (({ C with dk:=(C.dk.drain s.a).1 }:av).post 16 (C.dk.drain s.a).2.1,(C.dk.drain s.a).2.2)
 else if s.kind=11 then (({ C with dk:=(C.dk.tick C.now).1 }:av).post 16 (C.dk.tick C.now).2,0)
 else (C,2)
def rE(h:bK)(x:aN×Nat):bK:=match x.1.outcome with
 | none=>h
 | some o=>h.end_ (x.2:Int) x.1.seq o
def tX(ms:List bG):Int:=match ms.getLast? with
 | none=>-1
 | some m=>m.1
def im(d:List aY)(x:Option au×Nat):List aY:=match x.1 with
 | none=>d
 | some r=>if r.since=0∨r.ch.ms.length=0∨tX r.ch.ms≠x.2∨r.win.done≤d.length then d else d++(r.log.take r.win.done.toNat).drop d.length
def av.behind(C:av):av:={ C with gx:=C.ff.zipIdx.foldl rE C.gx,done:=C.nodes.zipIdx.foldl im C.done }
def av.lP(C:av)(s:gi):av×Int:=((C.step s).1.behind,(C.step s).2)
end Cl
namespace Cl
open Go Vg T Api Ch Conf Rep
structure BR(s t:gi):Prop where
 kind:s.kind=t.kind
 a:s.kind≠3→s.kind≠11→s.a=t.a
 bc:s.kind=1∨s.kind=4∨s.kind=5∨s.kind=6→s.b=t.b∧s.c=t.c
 op:s.kind=1→s.op=t.op
theorem BR.step{s t:gi}(h:BR s t)(C:av):C.step s=C.step t:=by
 obtain⟨h1,h2,h3,h4⟩:=h
 unfold av.step
 rw[←h1]
 by_cases k1:s.kind=1
 ·rw[if_pos k1,if_pos k1]
  unfold av.call
  rw[h2 yd yd,(h3 (.inl k1)).1,(h3 (.inl k1)).2,h4 k1]
 rw[if_neg k1,if_neg k1]
 by_cases k2:s.kind=2
 ·rw[if_pos k2,if_pos k2,h2 yd yd]
 rw[if_neg k2,if_neg k2]
 by_cases k3:s.kind=3
 ·rw[if_pos k3,if_pos k3]
 rw[if_neg k3,if_neg k3]
 by_cases k4:s.kind=4
 ·rw[if_pos k4,if_pos k4,h2 yd yd,(h3 yd).1,(h3 yd).2]
 rw[if_neg k4,if_neg k4]
 by_cases k5:s.kind=5
 ·rw[if_pos k5,if_pos k5,h2 yd yd,(h3 yd).1,(h3 yd).2]
 rw[if_neg k5,if_neg k5]
 by_cases k6:s.kind=6
 ·rw[if_pos k6,if_pos k6,h2 yd yd,(h3 yd).1,(h3 yd).2]
 rw[if_neg k6,if_neg k6]
 by_cases k11:s.kind=11
 ·rw[if_neg yd,if_neg yd,if_neg yd,if_neg yd,if_pos k11,if_neg yd,if_neg yd,if_neg yd,if_neg yd]
 rw[h2 k3 k11]
theorem BR.lP{s t:gi}(h:BR s t)(C:av):C.lP s=C.lP t:=by
 unfold av.lP
 rw[h.step]
def lQ(n:Int):Prop:=0≤n∧n≤99
theorem Fh(C:av)(n:Int):lQ (C.u9 n):=by
 unfold av.u9
 by_cases h:n<0∨(C.nodes.length:Int)≤n
 ·rw[if_pos h];unfold lQ;decide
 rw[if_neg h]
 by_cases h:(C.node n).isNone=true
 ·rw[if_pos h];unfold lQ;decide
 ·rw[if_neg h];unfold lQ;decide
theorem IG(C:av)(s:gi):lQ (C.step s).2:=by
 have z:lQ 0:=by unfold lQ;decide
 have f4:lQ 4:=by unfold lQ;decide
 have t2:lQ 2:=by unfold lQ;decide
 have t3:lQ 3:=by unfold lQ;decide
 have t60:lQ 60:=by unfold lQ;decide
 have t62:lQ 62:=by unfold lQ;decide
 have t63:lQ 63:=by unfold lQ;decide
 have t72:lQ 72:=by unfold lQ;decide
 have ite:∀{p:Prop} [Decidable p] {x y:av×Int},lQ x.2→lQ y.2→lQ (if p then x else y).2:=fun {p} _ {x y} h1 h2=>by
  by_cases h:p
  ·rw[if_pos h];exact h1
  ·rw[if_neg h];exact h2
 have iti:∀{p:Prop} [Decidable p] {x y:Int},lQ x→lQ y→lQ (if p then x else y):=fun {p} _ {x y} h1 h2=>by
  by_cases h:p
  ·rw[if_pos h];exact h1
  ·rw[if_neg h];exact h2
 have it3:∀{α β:Type} {p:Prop} [Decidable p] {x y:α×β×Int},lQ x.2.2→lQ y.2.2→lQ (if p then x else y).2.2:=fun {α β p} _ {x y} h1 h2=>by
  by_cases h:p
  ·rw[if_pos h];exact h1
  ·rw[if_neg h];exact h2
 have itc:∀{p:Prop} [Decidable p] {x y:dL×Int},lQ x.2→lQ y.2→lQ (if p then x else y).2:=fun {p} _ {x y} h1 h2=>by
  by_cases h:p
  ·rw[if_pos h];exact h1
  ·rw[if_neg h];exact h2
 have hl:∀c n,lQ (de c n):=fun c n=>by
  unfold de
  repeat' apply iti
  all_goals first | exact z | exact f4 | exact t2 | exact t62 | exact t72 | (unfold lQ;decide)
 have hm:∀n,lQ (C.dk.u7 n):=fun n=>iti f4 (iti t72 z)
 unfold av.step
 refine ite ?_ (ite ?_ (ite z (ite ?_ (ite ?_ (ite ?_ (ite (ite (Fh C _) z) (ite ?_ (ite ?_ (ite ?_ (ite z t2))))))))))
 ·unfold av.call
  split
  ·exact f4
  ·refine ite ?_ z
   exact iti t63 (iti t2 z)
 ·split
  ·exact Fh C _
  ·exact z
 ·unfold av.fB
  split
  ·exact f4
  ·exact z
 ·show lQ (C.cB.drop (s.a,s.b) s.c).2
  unfold ba.drop
  by_cases h:C.cB.find (s.a,s.b) s.c=none
  ·rw[if_pos h];exact f4
  ·rw[if_neg h];exact z
 ·show lQ (C.cB.double (s.a,s.b) s.c).2
  unfold ba.double
  split
  ·exact f4
  ·exact iti t2 (iti t3 (iti t60 z))
 ·exact it3 (hm _) (it3 (itc t2 (itc (hl _ _) z)) z)
 ·show lQ (C.join s.a).2
  unfold av.join
  have hj:lQ (C.dk.join s.a C.now).2.2:=it3 t2 (it3 (itc t2 (itc t2 (itc t62 z))) z)
  exact ite hj z
 ·exact it3 (hm _) (it3 (itc t2 (itc (hl _ _) (itc t62 z))) z)
theorem IH(C:av)(s:gi):lQ (C.lP s).2:=IG C s
end Cl
namespace Vg
open Go
section
variable {α:Type} {c:α→List Value} {n:Nat}
def pZ(a:Option Addr)(cap lo sz:Nat):Option Addr:=a.map fun q=>if cap=lo then q else q.add (lo*sz)
theorem u_{X:Cx}{e:Env}{T:TypeId}{x y:Operand}{tt te:TI}{el len cap:Nat}{a:Option Addr}{k:IntKind}{j:Int}(lo:Nat)(hx:ev e x=some (.slice a len cap))(hy:ev e y=some (.int k j))
  (hT:aM X.tab T=some tt) (hu:tt.aU=.slice el) (hE:aM X.tab el=some te) (hlo:j=lo) (h1:lo≤len) (h2:len≤cap):
  dm X (.slice T x (some y) none none) e (.slice (pZ a cap lo te.size) (len-lo) (cap-lo)):=by
 intro ac hac dst ty pos after guard w
 have hd:=eZ (X.ok.look hT) hu
 obtain⟨i2,hi2,hs2,_,_⟩:=(X.ok.look hE).kR
 subst hlo
 cases a with
 | none=>simp[execOp,hac.ev hx,hac.ev hy,Instr.sliceAt,Instr.slice,Instr.sliceBounds,Instr.sliceBound,asIntOf,run_underlying hd,h1,h2,dF hi2,pZ]
 | some a=>
  by_cases h:cap=lo
  ·subst h
   simp[execOp,hac.ev hx,hac.ev hy,Instr.sliceAt,Instr.slice,Instr.sliceBounds,Instr.sliceBound,asIntOf,run_underlying hd,h1,h2,dF hi2,pZ]
  ·simp[execOp,hac.ev hx,hac.ev hy,Instr.sliceAt,Instr.slice,Instr.sliceBounds,Instr.sliceBound,asIntOf,run_underlying hd,h1,h2,dF hi2,pZ,hs2,h]
end
theorem mq(a b:ByteArray):(a.toList == b.toList)=decide (a=b):=by
 by_cases h:a=b
 ·subst h;simp
 ·have:a.toList≠b.toList:=fun e=>h (by
   rw[ByteArray.toList_eq,ByteArray.toList_eq] at e
   exact ByteArray.ext (ZP.1 e))
  rw[DF h];simpa using this
end Vg
namespace Vg
open Go
def zW(b:Nat)(s:ByteArray)(pos:Nat):HP:=
 ⟨fun ids w=>ids=[b]∧w.heap[b]?=some (.stringIter s pos),fun _ _ _ h hs=>⟨hs.1,(h b yb).trans hs.2⟩⟩
section
variable {X:Cx} {e:Env} {L:List HP}
theorem St.Qg{w:World}(h:St X L w)(s:ByteArray):St X (zW w.heap.size s 0::L) (w.alloc (.stringIter s 0)):=
 ⟨h.sat.alloc h.nX _ _ ⟨rfl,heap_alloc_new w _⟩,h.cJ.trans (dE.alloc h.nX _),h.low⟩
theorem St.So{w:World}{b pos:Nat}{s:ByteArray}(h:St X L w){i:Nat}(hL:L[i]?=some (zW b s pos)):w.heap[b]?=some (.stringIter s pos)∧¬X.Fr b:=by
 obtain⟨F,hs,_,hb⟩:=h.sat
 obtain⟨ids,h1,h2⟩:=hs.get hL
 obtain⟨rfl,h1⟩:=h1
 exact⟨h1,(hb b (h2 b yf)).1⟩
theorem a8.range{T:TypeId}{x:Operand}{s:ByteArray}(hT:X.P.underlying T=some .string)(hx:ev e x=some (.string s)):
  a8 X (.range T x) e L (fun v L'=>∃b,v=.pointer (some ⟨b,0,none⟩)∧L'=zW b s 0::L):=fun ac w ha hw dst ty pos after guard=>by
 refine .inl ⟨_,w.alloc (.stringIter s 0),_,?_,⟨w.heap.size,Z,Z⟩,hw.Qg s⟩
 simp[execOp,ha.ev hx,Instr.range,run_underlying hT,newObj,Sem.run]
theorem a8.ei{it:Operand}{b p:Nat}{s:ByteArray}{c:Nat}(i:Nat)(hx:ev e it=some (.pointer (some ⟨b,0,none⟩)))(hL:L[i]?=some (zW b s p))(hp:p<s.size)(hd:Utf8.decode s p=(c,1)):
  a8 X (.next it true) e L (fun v L'=>v=.tuple #[.bool true,.int .i64 (p:Int),.int .i32 (c:Int)]∧L'=L.set i (zW b s (p+1))):=fun ac w ha hw dst ty pos after guard=>by
 obtain⟨h1,hf⟩:=hw.So hL
 have hids:∀ids w,(zW b s p).sat ids w→ids=[b]:=fun _ _ h=>h.1
 refine .inl ⟨_,bB w b (.stringIter s (p+1)),_,?_,⟨rfl,Z⟩,hw.uq hL hids h1 hf ⟨rfl,eH h1⟩⟩
 simp[execOp,ha.ev hx,Instr.next,getObj,setObj,Sem.run,h1,hp,hd,bB,goInt,Result.andThen]
theorem a8.II{it:Operand}{b:Nat}{s:ByteArray}(i:Nat)(hx:ev e it=some (.pointer (some ⟨b,0,none⟩)))(hL:L[i]?=some (zW b s s.size)):
  a8 X (.next it true) e L (fun v L'=>v=.tuple #[.bool false]∧L'=L):=fun ac w ha hw dst ty pos after guard=>by
 obtain⟨h1,hf⟩:=hw.So hL
 refine .inl ⟨_,w,_,?_,⟨rfl,Z⟩,hw⟩
 simp[execOp,ha.ev hx,Instr.next,getObj,Sem.run,h1]
theorem dV{T:TypeId}{x y:Operand}{s:ByteArray}{b:UInt8}{k:IntKind}{j:Int}{tt:TI}(i:Nat)(hx:ev e x=some (.string s))(hy:ev e y=some (.int k j))(hT:aM X.tab T=some tt)(hu:tt.aU=.string)
  (hj:j=i) (hb:s.data.toList[i]?=some b):dm X (.index T x y) e (.int .u8 (b.toNat:Int)):=by
 intro a ha dst ty pos after guard w
 have hund:=i_ (X.ok.look hT) hu
 subst hj
 have hb2:s[i]?=some b:=by
  have:s.data[i]?=some b:=by simpa using hb
  obtain⟨h1,h2⟩:=ZZ.1 this
  rw[getElem?_pos s i h1]
  exact congrArg some h2
 simp[execOp,ha.ev hx,ha.ev hy,Instr.index,asIntOf,run_underlying hund,hb2]
theorem D0{xt yt:TypeId}{x y:Operand}{a n:Nat}{k:IntKind}(hx:ev e x=some (.int .u8 (a:Int)))(hy:ev e y=some (.int k (n:Int)))(hn:n≤8):dm X (.binOp .shr xt x y yt) e (.int .u8 ((a / 2 ^ n:Nat):Int)):=by
 intro a' ha dst ty pos after guard w
 have h8:min ((n:Int).toNat) IntKind.u8.bits=n:=Nat.min_eq_left hn
 have h2:((2:Int) ^ n)=((2 ^ n:Nat):Int):=by simp
 have hd:(a:Int).fdiv (2 ^ n)=((a / 2 ^ n:Nat):Int):=by
  rw[h2,Int.fdiv_eq_ediv_of_nonneg _ (Int.natCast_nonneg _)];rfl
 have h:Op.shift .shr .u8 (a:Int) k (n:Int)=pure (.int .u8 ((a / 2 ^ n:Nat):Int)):=by
  unfold Op.shift
  rw[if_neg yd,h8]
  simp only[hd]
 simp only[execOp,ha.ev hx,ha.ev hy]
 show((do eqGuard .shr xt x y (.int .u8 a) (.int k n);Op.shift .shr .u8 a k n:Sem Value) >>= fun v=>pure (Next.value v)).run X.P w=_
 rw[h];rfl
theorem D1{xt yt:TypeId}{x y:Operand}{a n:Nat}{k:IntKind}(hx:ev e x=some (.int .i64 (a:Int)))(hy:ev e y=some (.int k (n:Int)))(hn:n≤64)(hz:a*2 ^ n<9223372036854775808):dm X (.binOp .shl xt x y yt) e (.int .i64 ((a*2 ^ n:Nat):Int)):=by
 intro a' ha dst ty pos after guard w
 have h8:min ((n:Int).toNat) IntKind.i64.bits=n:=Nat.min_eq_left hn
 have h2:(a:Int)*2 ^ n=((a*2 ^ n:Nat):Int):=by simp
 have h:Op.shift .shl .i64 (a:Int) k (n:Int)=pure (.int .i64 ((a*2 ^ n:Nat):Int)):=by
  unfold Op.shift
  rw[if_neg yd,h8]
  simp only[h2]
  rw[A9 hz]
 simp only[execOp,ha.ev hx,ha.ev hy]
 show((do eqGuard .shl xt x y (.int .i64 a) (.int k n);Op.shift .shl .i64 a k n:Sem Value) >>= fun v=>pure (Next.value v)).run X.P w=_
 rw[h];rfl
theorem D2{xt yt:TypeId}{x y:Operand}{a b:Nat}(hx:ev e x=some (.int .u8 (a:Int)))(hy:ev e y=some (.int .u8 (b:Int)))(ha:a<256)(hb:b<256):dm X (.binOp .and xt x y yt) e (.int .u8 ((a &&& b:Nat):Int)):=by
 intro a' hag dst ty pos after guard w
 have hlt:a &&& b<256:=Nat.lt_of_le_of_lt Nat.and_le_left ha
 have h:Op.intBits .and .u8 (a:Int) (b:Int)=pure (.int .u8 ((a &&& b:Nat):Int)):=by
  have f1:(BitVec.ofInt 8 (a:Int)).toNat=a:=by simp;omega
  have f2:(BitVec.ofInt 8 (b:Int)).toNat=b:=by simp;omega
  have e1:(BitVec.ofInt 8 (a:Int) &&& BitVec.ofInt 8 (b:Int)).toNat=a &&& b:=by rw[BitVec.toNat_and,f1,f2]
  show(pure (.int .u8 (IntKind.u8.wrap ((BitVec.ofInt 8 (a:Int) &&& BitVec.ofInt 8 (b:Int)).toNat:Int))):Sem Value)=_
  rw[e1,IntKind.wrap_u8',Int.emod_eq_of_lt yd yd]
 simp only[execOp,hag.ev hx,hag.ev hy]
 show((do eqGuard .and xt x y (.int .u8 a) (.int .u8 b);Op.intBits .and .u8 a b:Sem Value) >>= fun v=>pure (Next.value v)).run X.P w=_
 rw[h];rfl
theorem Gy{P:Program}{ty:Nat}{ms:Array (String×TypeId)}(hund:P.underlying ty=some (.interface ms)){v:Value}{r:Bool}(hv:(v=.nilIface∧r=true)∨∃tp p,v=.iface tp p∧r=false)(w:World):(Op.equal ty v .nilIface).run P w=.ok r w:=by
 unfold Op.equal
 show(Op.equalIn (9999+1) ty v .nilIface).run P w=_
 rw[Op.equalIn,Sem.run_bind,run_underlying hund]
 rcases hv with ⟨rfl,rfl⟩ | ⟨tp,p,rfl,rfl⟩<;>rfl
theorem tu{T yt:TypeId}{x:Operand}{v:Value}{ms:Array (String×TypeId)}{r:Bool}(hT:X.P.underlying T=some (.interface ms))(hx:ev e x=some v)(hv:(v=.nilIface∧r=false)∨∃tp p,v=.iface tp p∧r=true):
  dm X (.binOp .neq T x (.const .nilIface) yt) e (.bool r):=by
 intro a' ha dst ty pos after guard w
 have hq:=Gy hT (v:=v) (r:=!r) (by rcases hv with ⟨h1,h2⟩ | ⟨tp,p,h1,h2⟩<;>simp[h1,h2]) w
 simp only[execOp,ha.ev hx]
 have h:(do eqGuard .neq T x (.const .nilIface) v .nilIface;binOp .neq T v .nilIface:Sem Value).run X.P w=.ok (.bool r) w:=by
  have hg:(eqGuard .neq T x (.const .nilIface) v .nilIface).run X.P w=.ok () w:=by
   rcases hv with ⟨rfl,_⟩ | ⟨tp,p,rfl,_⟩
   ·cases x<;>rfl
   ·rfl
  rw[Sem.run_bind,hg,Result.andThen_ok]
  have hb:binOp .neq T v .nilIface=(do pure (.bool (!(←Op.equal T v .nilIface))):Sem Value):=by
   rcases hv with ⟨rfl,_⟩ | ⟨tp,p,rfl,_⟩<;>rfl
  rw[hb,Sem.run_bind,hq]
  cases r<;>rfl
 rw[Sem.run_bind]
 show((do eqGuard .neq T x (.const .nilIface) v .nilIface;binOp .neq T v .nilIface:Sem Value).run X.P w).andThen _=_
 rw[h];rfl
end
end Vg
end Go.Proofs.YthnlpdacbcjgpaaGreatDoor
namespace Go.Proofs
open Go.Shelf
def Tryz.va : Go.Shelf.Ren := ⟨fun | 166 => 18 | 240 => 34 | 276 => 54 | n => n, fun | 0 => 0 | 3 => 3 | 4 => 4 | 9 => 9 | 20 => 20 | 37 => 56 | 70 => 55 | 72 => 58 | 75 => 60 | 164 => 141 | 5 => 5 | 80 => 65 | n => n, fun n => n⟩
theorem Tryz.Qh : Go.Proofs.Lays.n166 Tryz.prog Tryz.va := {
  mixed := by kernel_rfl
  f166 := Tryz.func18.trans (congrArg some (by kernel_rfl))
  f240 := Tryz.func34.trans (congrArg some (by kernel_rfl))
  f276 := Tryz.func54.trans (congrArg some (by kernel_rfl))
  t0 := Tryz.underlying0
  a0 := Tryz.isAgg0
  z0 := Tryz.sizeOf0
  v0 := Tryz.zeroValue0
  t3 := Tryz.underlying3
  a3 := Tryz.isAgg3
  z3 := Tryz.sizeOf3
  v3 := Tryz.zeroValue3
  t4 := Tryz.underlying4
  a4 := Tryz.isAgg4
  z4 := Tryz.sizeOf4
  v4 := Tryz.zeroValue4
  t9 := Tryz.underlying9
  a9 := Tryz.isAgg9
  z9 := Tryz.sizeOf9
  v9 := Tryz.zeroValue9
  t20 := Tryz.underlying20
  a20 := Tryz.isAgg20
  z20 := Tryz.sizeOf20
  v20 := Tryz.zeroValue20
  t37 := Tryz.underlying56
  a37 := Tryz.isAgg56
  z37 := Tryz.sizeOf56
  v37 := Tryz.zeroValue56
  t70 := Tryz.underlying55
  a70 := Tryz.isAgg55
  z70 := Tryz.sizeOf55
  v70 := Tryz.zeroValue55
  t72 := Tryz.underlying58
  a72 := Tryz.isAgg58
  z72 := Tryz.sizeOf58
  v72 := Tryz.zeroValue58
  t75 := Tryz.underlying60
  a75 := Tryz.isAgg60
  z75 := Tryz.sizeOf60
  v75 := Tryz.zeroValue60
  t164 := Tryz.underlying141
  a164 := Tryz.isAgg141
  z164 := Tryz.sizeOf141
  v164 := Tryz.zeroValue141 }
def Tryz.vb : Go.Shelf.Ren := ⟨fun | 167 => 26 | 240 => 34 | 276 => 54 | n => n, fun | 0 => 0 | 4 => 4 | 5 => 5 | 9 => 9 | 20 => 20 | 37 => 56 | 70 => 55 | 72 => 58 | 75 => 60 | 164 => 141 | 80 => 65 | n => n, fun n => n⟩
theorem Tryz.Qi : Go.Proofs.Lays.n167 Tryz.prog Tryz.vb := {
  mixed := by kernel_rfl
  f167 := Tryz.func26.trans (congrArg some (by kernel_rfl))
  f240 := Tryz.func34.trans (congrArg some (by kernel_rfl))
  f276 := Tryz.func54.trans (congrArg some (by kernel_rfl))
  t0 := Tryz.underlying0
  a0 := Tryz.isAgg0
  z0 := Tryz.sizeOf0
  v0 := Tryz.zeroValue0
  t4 := Tryz.underlying4
  a4 := Tryz.isAgg4
  z4 := Tryz.sizeOf4
  v4 := Tryz.zeroValue4
  t5 := Tryz.underlying5
  a5 := Tryz.isAgg5
  z5 := Tryz.sizeOf5
  v5 := Tryz.zeroValue5
  t9 := Tryz.underlying9
  a9 := Tryz.isAgg9
  z9 := Tryz.sizeOf9
  v9 := Tryz.zeroValue9
  t20 := Tryz.underlying20
  a20 := Tryz.isAgg20
  z20 := Tryz.sizeOf20
  v20 := Tryz.zeroValue20
  t37 := Tryz.underlying56
  a37 := Tryz.isAgg56
  z37 := Tryz.sizeOf56
  v37 := Tryz.zeroValue56
  t70 := Tryz.underlying55
  a70 := Tryz.isAgg55
  z70 := Tryz.sizeOf55
  v70 := Tryz.zeroValue55
  t72 := Tryz.underlying58
  a72 := Tryz.isAgg58
  z72 := Tryz.sizeOf58
  v72 := Tryz.zeroValue58
  t75 := Tryz.underlying60
  a75 := Tryz.isAgg60
  z75 := Tryz.sizeOf60
  v75 := Tryz.zeroValue60
  t164 := Tryz.underlying141
  a164 := Tryz.isAgg141
  z164 := Tryz.sizeOf141
  v164 := Tryz.zeroValue141 }
def Tryz.vc : Go.Shelf.Ren := ⟨fun | 169 => 22 | n => n, fun | 0 => 0 | 3 => 3 | 9 => 9 | 37 => 56 | 70 => 55 | 72 => 58 | 127 => 93 | 5 => 5 | n => n, fun n => n⟩
theorem Tryz.Qj : Go.Proofs.Lays.n169 Tryz.prog Tryz.vc := {
  mixed := by kernel_rfl
  f169 := Tryz.func22.trans (congrArg some (by kernel_rfl))
  t0 := Tryz.underlying0
  a0 := Tryz.isAgg0
  z0 := Tryz.sizeOf0
  v0 := Tryz.zeroValue0
  t3 := Tryz.underlying3
  a3 := Tryz.isAgg3
  z3 := Tryz.sizeOf3
  v3 := Tryz.zeroValue3
  t9 := Tryz.underlying9
  a9 := Tryz.isAgg9
  z9 := Tryz.sizeOf9
  v9 := Tryz.zeroValue9
  t37 := Tryz.underlying56
  a37 := Tryz.isAgg56
  z37 := Tryz.sizeOf56
  v37 := Tryz.zeroValue56
  t70 := Tryz.underlying55
  a70 := Tryz.isAgg55
  z70 := Tryz.sizeOf55
  v70 := Tryz.zeroValue55
  t72 := Tryz.underlying58
  a72 := Tryz.isAgg58
  z72 := Tryz.sizeOf58
  v72 := Tryz.zeroValue58
  t127 := Tryz.underlying93
  a127 := Tryz.isAgg93
  z127 := Tryz.sizeOf93
  v127 := Tryz.zeroValue93 }
theorem Tryz.Nr : Builder.Extra Tryz.prog Tryz.va := {
  sizeBuilder := by kernel_rfl
  liesBuilder := by kernel_rfl
  t5 := Tryz.underlying5
  a5 := Tryz.isAgg5
  z5 := Tryz.sizeOf5
  v5 := Tryz.zeroValue5
  infoByte := by kernel_rfl
  cellsByte := by kernel_rfl
  sizeByte := by kernel_rfl
  neB5 := by decide }
theorem Tryz.Ns : Builder.Extra Tryz.prog Tryz.vb := {
  sizeBuilder := by kernel_rfl
  liesBuilder := by kernel_rfl
  t5 := Tryz.underlying5
  a5 := Tryz.isAgg5
  z5 := Tryz.sizeOf5
  v5 := Tryz.zeroValue5
  infoByte := by kernel_rfl
  cellsByte := by kernel_rfl
  sizeByte := by kernel_rfl
  neB5 := by decide }
theorem Tryz.Nt : Builder.Extra Tryz.prog Tryz.vc := {
  sizeBuilder := by kernel_rfl
  liesBuilder := by kernel_rfl
  t5 := Tryz.underlying5
  a5 := Tryz.isAgg5
  z5 := Tryz.sizeOf5
  v5 := Tryz.zeroValue5
  infoByte := by kernel_rfl
  cellsByte := by kernel_rfl
  sizeByte := by kernel_rfl
  neB5 := by decide }
end Go.Proofs
namespace Go.Proofs.YthnlpdacbcjgpaaGreatDoor
variable (Fr : Nat → Prop) (w : World)
namespace LibC
open Go Vg T Go.Shelf
def sK(Fr:Nat→Prop)(w:World):Prop:=uB Tryz.prog Fr w "internal/strconv.uint64pow10" .u64 Lib.pow10Tab
theorem sK.st{X:Cx}{L:List HP}(hP:X.P=Tryz.prog)(h:sK X.Fr X.w0){Fr':Nat→Prop}{w:World}(hF:∀b,X.Fr b→Fr' b)(hw:St X L w):sK Fr' w:=uB.cJ h hF hw.cJ
theorem Gz:dS Tryz.prog 20:=⟨_,Tryz.func20,by kernel_rfl,by kernel_rfl⟩
theorem D3:dS Tryz.prog 18:=⟨_,Tryz.func18,by kernel_rfl,by kernel_rfl⟩
theorem BS:dS Tryz.prog 26:=⟨_,Tryz.func26,by kernel_rfl,by kernel_rfl⟩
theorem BT:dS Tryz.prog 22:=⟨_,Tryz.func22,by kernel_rfl,by kernel_rfl⟩
def gD(n:Int):ByteArray:=⟨(Lib.itoa n).toArray⟩
theorem iq(n:Int)(h0:-9223372036854775808≤n)(h1:n≤9223372036854775807)(ht:sK Fr w):
  aH Tryz.prog 20 [.int .i64 n] Fr w [] (fun v L=>v=.string (gD n)∧L=[]):=
 aH.MY Gz (Any.strconv_Itoa Tryz.H3 n h0 h1 w ht.is)
def jv(B b:Nat)(s:ByteArray):HP:=DD 58 5 B b (Lib.strCells s)
theorem rF(s t:ByteArray):Lib.strCells s++Lib.strCells t=Lib.strCells (s++t):=by simp[Lib.strCells]
theorem rG(s:ByteArray):(Lib.strCells s).length=s.size:=by simp[Lib.strCells]
theorem ve(B b:Nat)(s t:ByteArray)(hF:∀x,Fr x→x<B∨Br 5 w x)(hlen:s.size+t.size≤140737488355328):
  aH Tryz.prog 18 [.pointer (some ⟨b,0,none⟩),.string t] Fr w [jv B b s] (fun v L=>v=.tuple #[.int .i64 t.size,.nilIface]∧L=[jv B b (s++t)]):=
 ⟨D3,fun hl hs=>by
  obtain⟨h1,h2,h0⟩:=zr hs
  exact Calls.mono (Any.Builder_WriteString_k Tryz.Qh Tryz.Nr B b _ t w h1 (by rw[rG];exact hlen) h2) fun e w' ⟨h3,h4,h5,h6⟩=>
   ⟨_,_,h3,⟨rfl,rfl⟩,by rw[rF] at h4;exact E6 hF h6 h0 h4,oB hF h0 h5 h6 wx.any⟩⟩
theorem BU(B b:Nat)(s:ByteArray)(c:UInt8)(hF:∀x,Fr x→x<B∨Br 5 w x)(hlen:s.size+1≤140737488355328):
  aH Tryz.prog 26 [.pointer (some ⟨b,0,none⟩),.int .u8 (c.toNat:Int)] Fr w [jv B b s] (fun v L=>v=.nilIface∧L=[jv B b (s++⟨#[c]⟩)]):=
 ⟨BS,fun hl hs=>by
  obtain⟨h1,h2,h0⟩:=zr hs
  exact Calls.mono (Any.Builder_WriteByte_k Tryz.Qi Tryz.Ns B b _ (c.toNat:Int) w h1 (by rw[rG];exact hlen) h2) fun e w' ⟨h3,h4,h5,h6⟩=>
   ⟨_,_,h3,⟨rfl,rfl⟩,by
    have e1:Lib.strCells s ++ [Value.int .u8 (c.toNat:Int)]=Lib.strCells (s++⟨#[c]⟩):=by rw[←rF];rfl
    rw[e1] at h4;exact E6 hF h6 h0 h4,oB hF h0 h5 h6 wx.any⟩⟩
theorem BV(B b:Nat)(s:ByteArray)(hF:∀x,Fr x→x<B∨Br 5 w x):
  aH Tryz.prog 22 [.pointer (some ⟨b,0,none⟩)] Fr w [jv B b s] (fun v L=>v=.string s∧L=[]):=
 ⟨BT,fun hl hs=>by
  obtain⟨h1,h2,h0⟩:=zr hs
  exact Calls.mono (Any.Builder_String_any_k Tryz.Qj Tryz.Nt B b s.data.toList w h1 h2) fun e w' ⟨h3,_,h4,h5⟩=>
   ⟨_,_,h3,⟨by simp,rfl⟩,Sat.nil,oB hF h0 h4 h5 wx.any⟩⟩
section
variable {X:Cx} {ops:Array Oper} {G:GS} {l:List Oper} {e:Env} {L:List HP} {K:Env→List HP→Prop}
  {dst:Option Tmp} {ty:TypeId} {pos:String} {after:Array Edge} {guard:Option (Nat×Bool)}
theorem zX{L':List HP}(hnb:∀H∈L',NB 5 H){Fl:List Nat}{w:World}(hw:St X L w)(hs:dK L' Fl w):∀x,(X.Fr x∨x∈Fl)→x<X.w0.heap.size∨Br 5 w x:=fun x hx=>
 hx.elim (fun h=>.inl (hw.low x h)) fun h=>.inr (dK.nb hnb hs x h)
theorem VO.write{args:Array Operand}{tys:Array TypeId}{b:Nat}{s t:ByteArray}(hP:X.P=Tryz.prog)(i:Nat)(hL:L[i]?=some (jv X.w0.heap.size b s))(hnb:∀H∈L.eraseIdx i,NB 5 H)(hlen:s.size+t.size≤140737488355328)
  (hargs:lz e args.toList=some [.pointer (some ⟨b,0,none⟩),.string t])
  (hk:VO X ops G l (cC dst (.tuple #[.int .i64 t.size,.nilIface]) e) (L.set i (jv X.w0.heap.size b (s++t))) K)
  (hg:gP ops G guard=some true:=by rfl) (hd:bA X.n dst=true:=by rfl) (hf:br G dst=true:=by rfl):
  VO X ops G (⟨dst,.call ⟨.value (.func 18),args,tys⟩,ty,pos,after,guard⟩::l) e L K:=
 VO.OI (a8.zn (ψ:=fun v H'=>v=.tuple #[.int .i64 t.size,.nilIface]∧H'=jv X.w0.heap.size b (s++t)) i hL (fun Fl w hw hs=>hP▸ve _ w _ b s t (zX hnb hw hs) hlen) hargs (fun v L1 h=>⟨_,h.2,h.1,rfl⟩))
  (fun v L' ⟨H',⟨h1,h2⟩,h3⟩=>by subst h1;subst h2;subst h3;exact hk) hg hd hf
theorem VO.vf{args:Array Operand}{tys:Array TypeId}{b:Nat}{s:ByteArray}{c:UInt8}(hP:X.P=Tryz.prog)(i:Nat)(hL:L[i]?=some (jv X.w0.heap.size b s))(hnb:∀H∈L.eraseIdx i,NB 5 H)(hlen:s.size+1≤140737488355328)
  (hargs:lz e args.toList=some [.pointer (some ⟨b,0,none⟩),.int .u8 (c.toNat:Int)])
  (hk:VO X ops G l (cC dst .nilIface e) (L.set i (jv X.w0.heap.size b (s++⟨#[c]⟩))) K)
  (hg:gP ops G guard=some true:=by rfl) (hd:bA X.n dst=true:=by rfl) (hf:br G dst=true:=by rfl):
  VO X ops G (⟨dst,.call ⟨.value (.func 26),args,tys⟩,ty,pos,after,guard⟩::l) e L K:=
 VO.OI (a8.zn (ψ:=fun v H'=>v=.nilIface∧H'=jv X.w0.heap.size b (s++⟨#[c]⟩)) i hL (fun Fl w hw hs=>hP▸BU _ w _ b s c (zX hnb hw hs) hlen) hargs (fun v L1 h=>⟨_,h.2,h.1,rfl⟩))
  (fun v L' ⟨H',⟨h1,h2⟩,h3⟩=>by subst h1;subst h2;subst h3;exact hk) hg hd hf
theorem VO.text{args:Array Operand}{tys:Array TypeId}{b:Nat}{s:ByteArray}(hP:X.P=Tryz.prog)(i:Nat)(hL:L[i]?=some (jv X.w0.heap.size b s))(hnb:∀H∈L.eraseIdx i,NB 5 H)
  (hargs:lz e args.toList=some [.pointer (some ⟨b,0,none⟩)])
  (hk:VO X ops G l (cC dst (.string s) e) (L.eraseIdx i) K)
  (hg:gP ops G guard=some true:=by rfl) (hd:bA X.n dst=true:=by rfl) (hf:br G dst=true:=by rfl):
  VO X ops G (⟨dst,.call ⟨.value (.func 22),args,tys⟩,ty,pos,after,guard⟩::l) e L K:=
 VO.OI (a8.OL hargs (bJ hL) (Lc:=[jv X.w0.heap.size b s]) (R:=fun v L=>v=.string s∧L=[]) (fun Fl w hw hs=>hP▸BV _ w _ b s (zX hnb hw hs)))
  (fun v L' ⟨L1,⟨h1,h2⟩,h3⟩=>by subst h1;subst h2;subst h3;exact hk) hg hd hf
end
theorem vg:dS Tryz.prog 271:=⟨_,Tryz.func271,by kernel_rfl,by kernel_rfl⟩
theorem IJ:dS Tryz.prog 41:=⟨_,Tryz.func41,by kernel_rfl,by kernel_rfl⟩
theorem D4:dS Tryz.prog 135:=⟨_,Tryz.func135,by kernel_rfl,by kernel_rfl⟩
theorem GA:dS Tryz.prog 42:=⟨_,Tryz.func42,by kernel_rfl,by kernel_rfl⟩
theorem oS(s:ByteArray)(c:Int):
  aH Tryz.prog 271 [.string s,.int .u8 c] Fr w [] (fun v L=>v=.int .i64 (Lib.indexByte s.data.toList c.toNat.toUInt8)∧L=[]):=
 aH.uA vg (Calls.mono (Any.strings_IndexByte Tryz.MV s c w) fun e w' ⟨h1,h2⟩=>⟨h1,by subst h2;exact RowKit.Below.refl _ _,wx.any⟩)
structure bX(Fr:Nat→Prop)(w:World):Prop where
 tab:sK Fr w
 max:Fr (Tryz.oy.g 1)∧∃m,w.cell? ⟨Tryz.oy.g 1,0,none⟩=some (.int .i64 m)
 Sp:Fr (Tryz.iG.g 15)∧∃ev,w.cell? ⟨Tryz.iG.g 15,0,none⟩=some ev∧(ev=.nilIface∨∃te pe,ev=.iface te pe)
 Sq:Fr (Tryz.iG.g 16)∧∃ev,w.cell? ⟨Tryz.iG.g 16,0,none⟩=some ev∧(ev=.nilIface∨∃te pe,ev=.iface te pe)
theorem sL{Fr:Nat→Prop}{w w':World}(hk:dE Fr w w'){b:Nat}(hb:Fr b):w'.cell? ⟨b,0,none⟩=w.cell? ⟨b,0,none⟩:=by
 unfold World.cell?;rw[hk.block b hb]
theorem bX.cJ{Fr Fr':Nat→Prop}{w w':World}(h:bX Fr w)(hF:∀b,Fr b→Fr' b)(hk:dE Fr w w'):bX Fr' w' where
 tab:=uB.cJ h.tab hF hk
 max:=⟨hF _ h.max.1,by rw[sL hk h.max.1];exact h.max.2⟩
 Sp:=⟨hF _ h.Sp.1,by rw[sL hk h.Sp.1];exact h.Sp.2⟩
 Sq:=⟨hF _ h.Sq.1,by rw[sL hk h.Sq.1];exact h.Sq.2⟩
theorem bX.st{X:Cx}{L:List HP}(h:bX X.Fr X.w0){Fr':Nat→Prop}{w:World}(hF:∀b,X.Fr b→Fr' b)(hw:St X L w):bX Fr' w:=h.cJ hF hw.cJ
theorem oT(s sep:ByteArray)(hs:s.size<4294967281)(h:bX Fr w):
  aH Tryz.prog 41 [.string s,.string sep] Fr w [] (fun v L=>v=.tuple #[.string ⟨(Lib.cut s.data.toList sep.data.toList).1.toArray⟩,.string ⟨(Lib.cut s.data.toList sep.data.toList).2.1.toArray⟩,.bool (Lib.cut s.data.toList sep.data.toList).2.2]∧L=[]):=by
 obtain⟨_,m,hm⟩:=h.max
 exact aH.uA IJ (Calls.mono (Any.strings_Cut Tryz.MW s sep m w hs hm) fun e w' ⟨h1,n,h2⟩=>⟨h1,by subst h2;exact⟨rfl,Z,Z,NR _,fun _ _=>rfl⟩,wx.any⟩)
theorem D5(s sep:ByteArray)(hs:s.size<4294967281)(h1:1≤sep.size)(h:bX Fr w):
  aH Tryz.prog 135 [.string s,.string sep] Fr w [] (fun v L=>∃b,v=.slice (some ⟨b,0,none⟩) (Lib.countB s sep+1) (Lib.countB s sep+1)∧L=[pt b ((Lib.splitB sep 0 (Lib.countB s sep) s).map Value.string) 9]):=by
 obtain⟨_,m,hm⟩:=h.max
 refine⟨D4,fun hl hsat=>Calls.mono (Any.strings_Split Tryz.MX yn s sep m w hs hm h1) fun e w' ⟨h2,h3⟩=>?_⟩
 subst h3
 exact⟨_,_,h2,⟨_,Z,Z⟩,Sat.alloc hl _ _ ⟨rfl,heap_alloc_new w _⟩ hsat,dE.alloc hl _⟩
def numOf(s:ByteArray):Option Int:=match Lib.atoiAll s.data.toList with
 | .ok v=>some v
 | _=>none
theorem xx(s:ByteArray)(hs:s.size≤281474976710656)(h:bX Fr w):
  aH Tryz.prog 42 [.string s] Fr w [] (fun v L=>L=[]∧((∃n,numOf s=some n∧v=.tuple #[.int .i64 n,.nilIface])∨(∃n tp p,numOf s=none∧v=.tuple #[.int .i64 n,.iface tp p]))):=by
 refine⟨GA,fun hl hsat=>?_⟩
 have hk:∀{w'},RowKit.Below w.heap.size w w'→Sat Fr [] w'∧dE Fr w w':=fun hb=>⟨Sat.nil,kx hl hb wx.any⟩
 unfold numOf
 cases ha:Lib.atoiAll s.data.toList with
 | ok v=>
  refine Calls.mono (Any.strconv_Atoi_ok Tryz.uy s yd v ha w) fun e w' ⟨h1,h2⟩=>⟨_,_,h1,⟨rfl,.inl ⟨v,Z,Z⟩⟩,Sat.nil,kx hl ?_ wx.any⟩
  rcases h2 with rfl | ⟨t,rfl⟩
  ·exact RowKit.Below.refl _ _
  ·exact Go.Lib.below_freeze (show RowKit.Below w.heap.size w (w.drew.alloc _) from⟨rfl,Z,Z,by show w.heap.size≤(w.heap.push _).size;simp,fun j hj=>heap_alloc_old w.drew _ hj⟩) (NR _) _
 | range=>
  obtain⟨_,ev,hc,hev⟩:=h.Sq
  exact Calls.mono (Any.strconv_Atoi_range Tryz.uy s hs ha _ w hc hev) fun e w' ⟨N,h1,_,_,h2⟩=>⟨_,_,h1,⟨rfl,.inr ⟨_,_,_,Z,Z⟩⟩,Sat.nil,kx hl h2 wx.any⟩
 | _=>
  obtain⟨_,ev,hc,hev⟩:=h.Sp
  exact Calls.mono (Any.strconv_Atoi_syntax Tryz.uy s hs ha _ w hc hev) fun e w' ⟨N,h1,_,_,h2⟩=>⟨_,_,h1,⟨rfl,.inr ⟨_,_,_,Z,Z⟩⟩,Sat.nil,kx hl h2 wx.any⟩
end LibC
namespace Scr
open Go Vg T Api LibC
attribute [local irreducible] VO VC VA
def cH(l:List UInt8):ByteArray:=⟨l.toArray⟩
theorem a7(a:List UInt8):(cH a).size=a.length:=by show(a.toArray).size=_;simp
theorem fM(s:ByteArray):s.data.toList.length=s.size:=by show s.data.toList.length=s.data.size;simp
theorem kA(a:List UInt8)(c:UInt8):cH a++⟨#[c]⟩=cH (a ++ [c]):=ByteArray.ext Tj
theorem gF(a b:List UInt8):cH a++cH b=cH (a++b):=ByteArray.ext Tj
theorem mu(s:ByteArray):cH s.data.toList=s:=ByteArray.ext Tj
def wJ:ByteArray:=⟨#[48,49,50,51,52,53,54,55,56,57,97,98,99,100,101,102]⟩
def zY(n:Nat):UInt8:=wJ.data.toList.getD n 0
theorem IK{n:Nat}(h:n<16):wJ.data.toList[n]?=some (zY n):=by
 have:n<wJ.data.toList.length:=h
 unfold zY;rw[List.getD_eq_getElem?_getD,GE this];rfl
def mv(l:List UInt8):List UInt8:=l.flatMap fun b=>[zY (b.toNat / 16),zY (b.toNat % 16)]
def pN(s:ByteArray):ByteArray:=cH (58::mv s.data.toList)
theorem kB(l:List UInt8):(mv l).length=2*l.length:=by
 induction l with
 | nil=>rfl
 | cons x l ih=>simp only[mv,List.flatMap_cons,Zh,Zs,List.length_nil] at ih ⊢;omega
theorem GB(l:List UInt8)(b:UInt8):mv (l ++ [b])=mv l ++ [zY (b.toNat / 16),zY (b.toNat % 16)]:=by simp[mv]
theorem xy(s:ByteArray):(pN s).size=2*s.size+1:=by rw[pN,a7,Zs,kB,fM]
theorem byte_at{s:ByteArray}{i:Nat}(h:i<s.size):∃c,s.data.toList[i]?=some c:=⟨_,GE (by rw[fM];exact h)⟩
theorem rH(s:ByteArray)(hs:s.size≤1000000):aH Tryz.prog 25 [.string s] Fr w [] (fun v L=>v=.string (pN s)∧L=[]):=by
 refine TF 25 Tryz.func25 Z yn ah Z Z ?_
 refine an ?_
 refine VG (VO.zl Z fun b hB=>?_)
 refine UX ?_
 refine an ?_
 refine VG (VO.vf (c:=58) Z 0 Z hO yp Z ?_)
 rw[kA]
 refine an ?_
 refine VC.loop (σ:=Nat) (fun i=>[(0,.string s),(3,pV b),(4,.int .i64 i)]) (fun i=>[jv w.heap.size b (cH (58::mv (s.data.toList.take i)))]) (fun i=>i≤s.size) (fun i=>s.size-i) 0
  (Zj _) bd ER ?_
 intro i hi
 refine an ?_
 refine CP Z (fun h1=>CK ?_) (fun h1=>CX ?_)
 ·have hi2:i<s.size:=by omega
  obtain⟨c,hc⟩:=byte_at hi2
  have hc256:c.toNat<256:=c.toNat_lt
  have hsz:(cH (58::mv (s.data.toList.take i))).size=2*i+1:=by
   rw[a7,Zs,kB,Zw,fM];omega
  have hand:c.toNat &&& 15=c.toNat % 16:=Nat.and_two_pow_sub_one_eq_mod c.toNat 4
  refine an ?_
  refine VG (VI (dV i Z Z Z Z Z hc) ?_)
  refine VG (VI (D0 (n:=4) Z Z yp) ?_)
  refine VG (VI (dV (s:=wJ) (b:=zY (c.toNat / 16)) (c.toNat / 2 ^ 4) Z Z Z Z Z (IK yd)) ?_)
  refine VG (VO.vf (c:=zY (c.toNat / 16)) Z 0 Z hO Tf Z ?_)
  rw[kA]
  refine an ?_
  refine VG (VI (dV i Z Z Z Z Z hc) ?_)
  refine VG (VI (D2 (b:=15) Z Z hc256 yp) ?_)
  refine VG (VI (dV (s:=wJ) (b:=zY (c.toNat % 16)) (c.toNat &&& 15) Z Z Z Z Z (by rw[hand];exact IK yd)) ?_)
  refine VG (VO.vf (c:=zY (c.toNat % 16)) Z 0 Z hO (by rw[a7,Zh,Zs,kB,Zw,fM];simp;omega) Z ?_)
  rw[kA]
  refine sd ?_
  refine⟨i+1,hi2,by dsimp only;omega,bd,?_⟩
  have e:58::mv (s.data.toList.take i) ++ [zY (c.toNat / 16)] ++ [zY (c.toNat % 16)]=58::mv (s.data.toList.take (i+1)):=by
   rw[Zu,hc,show(some c).toList=[c] from rfl,GB];simp
  dsimp only
  rw[e]
  exact ER
 ·obtain rfl:i=s.size:=by omega
  rw[Z3 (by rw[fM];omega)]
  refine VS ?_
  refine an ?_
  exact EX
def val(c:UInt8):Int:=Lib.indexByte wJ.data.toList c
def tR:List UInt8→Option (List UInt8)
 | []=>some []
 | [_]=>none
 | h::l::r=>if val h<0∨val l<0 then none else (tR r).map ((UInt8.ofNat (16*(val h).toNat+(val l).toNat)) :: ·)
def oU(s:ByteArray):Option ByteArray:=match s.data.toList with
 | 58::r=>(tR r).map cH
 | _=>none
theorem xz(c:UInt8):val c=-1∨0≤val c∧val c<16:=by
 have h:∀n:Fin 256,val (UInt8.ofNat n.val)=-1∨0≤val (UInt8.ofNat n.val)∧val (UInt8.ofNat n.val)<16:=by decide +kernel
 have:=h ⟨c.toNat,c.toNat_lt⟩
 simpa using this
theorem BW:∀{r:List UInt8},r.length % 2=1→tR r=none
 | [],h=>by simp at h
 | [_],_=>rfl
 | h::l::r,hr=>by
  rw[tR,BW (r:=r) (by simp at hr;omega)];split<;>rfl
theorem zZ(s:ByteArray)(hs:s.size≤1000000):aH Tryz.prog 217 [.string s] Fr w []
  (fun v L=>L=[]∧((∃t,oU s=some t∧v=.tuple #[.string t,.bool true])∨(oU s=none∧v=.tuple #[.string ⟨#[]⟩,.bool false]))):=by
 refine TF 45 Tryz.func217 Z yn ah Z Z ?_
 refine an ?_
 refine VG (VI (pj Z Z yd yp) ?_)
 by_cases hodd:¬(s.size:Int) % 2=1
 ·have hn:oU s=none:=by
   unfold oU
   split
   ·rename_i r hr
    have hl:s.data.toList.length=r.length+1:=by rw[hr];rfl
    rw[fM] at hl
    rw[BW yd];rfl
   ·rfl
  refine an ?_
  refine VG (VY 12 true Z (by simpa[bne] using hodd) ?_)
  refine Dh ?_
  exact CR (ay.cU 2 3 Z Z Z ER ⟨rfl,.inr ⟨hn,Z⟩⟩)
 have hodd:(s.size:Int) % 2=1:=Decidable.not_not.1 hodd
 obtain⟨c0,hc0⟩:=byte_at (s:=s) (i:=0) yd
 refine an ?_
 refine VG (VY 12 false Z (by simpa[bne] using hodd) ?_)
 refine eP ?_
 refine VG (VI (dV 0 Z Z Z Z Z hc0) ?_)
 refine eP ?_
 have hr:∃r,s.data.toList=c0::r:=by
  cases hl:s.data.toList with
  | nil=>rw[hl] at hc0;cases hc0
  | cons x r=>rw[hl] at hc0;exact⟨r,by rw[show x=c0 from by simpa using hc0]⟩
 obtain⟨r,hr⟩:=hr
 have hrl:r.length+1=s.size:=by rw[←fM,hr];rfl
 refine VC.bp Z (fun h1=>?_) (fun h1=>CK ?_)
 ·have hn:oU s=none:=by
   unfold oU;rw[hr]
   split
   ·rename_i r' he
    cases he
    exact(h1 Z).elim
   ·rfl
  refine an ?_
  exact CR (ay.cU 2 3 Z Z Z ER ⟨rfl,.inr ⟨hn,Z⟩⟩)
 obtain rfl:c0=58:=UInt8.toNat_inj.1 (show c0.toNat=58 by omega)
 have hdec:oU s=(tR r).map cH:=by unfold oU;rw[hr];rfl
 refine an ?_
 refine VG (VO.zl Z fun b hB=>?_)
 refine UX ?_
 refine an ?_
 refine VC.loop (σ:=Nat×List UInt8) (fun x=>[(0,.string s),(4,pV b),(5,.int .i64 ((2*x.1+1:Nat):Int))]) (fun x=>[jv w.heap.size b (cH x.2)]) (fun x=>2*x.1+1≤s.size∧x.2.length=x.1∧tR r=(tR (r.drop (2*x.1))).map (x.2 ++ ·)) (fun x=>s.size-x.1) (0,[])
  ⟨by dsimp only;omega,rfl,by simp⟩ bd ER ?_
 rintro⟨k,acc⟩ ⟨hk,hacc,hJ⟩
 dsimp only at hk hacc hJ ⊢
 refine an ?_
 refine CP Z (fun h2=>CK ?_) (fun h2=>CX ?_)
 ·have hk2:2*k+2<s.size:=by omega
  obtain⟨c1,hc1⟩:=byte_at (s:=s) (i:=2*k+1) yd
  obtain⟨c2,hc2⟩:=byte_at (s:=s) (i:=2*k+2) yd
  have hd:r.drop (2*k)=c1::c2::r.drop (2*(k+1)):=by
   have g1:r[2*k]?=some c1:=by rw[hr] at hc1;simpa using hc1
   have g2:r[2*k+1]?=some c2:=by rw[hr] at hc2;simpa using hc2
   obtain⟨l1,e1⟩:=Zk.1 g1
   obtain⟨l2,e2⟩:=Zk.1 g2
   rw[List.drop_eq_getElem_cons l1,e1,List.drop_eq_getElem_cons l2,e2]
   rfl
  rw[hd,tR] at hJ
  have hv1:=xz c1
  have hv2:=xz c2
  refine CS (VC.block (CS (CD (ts 0 3 (ts 4 4 (.only 3 (.only 8 (ts 9 2 .nil))))) yn yr ?_)))
  refine lS ?_
  refine AG (AI Z (dV (2*k+1) Z Z Z Z Z hc1) ?_)
  refine lS ?_
  refine HI ?_
  refine lS ?_
  refine AG (AI Z (dV (2*k+2) Z Z Z Z yd hc2) ?_)
  refine AG (AR (fun Fr w hF hs _=>oS Fr w wJ c1.toNat) Z Z yu ?_)
  refine AG (AR (fun Fr w hF hs _=>oS Fr w wJ c2.toNat) Z Z yu ?_)
  rw[show Lib.indexByte wJ.data.toList (c1.toNat:Int).toNat.toUInt8=val c1 by simp[val],show Lib.indexByte wJ.data.toList (c2.toNat:Int).toNat.toUInt8=val c2 by simp[val]]
  refine lS ?_
  refine CS (CS ?_)
  refine VC.cq (σ:=Bool) (fun t=>[(0,.string s),(4,pV b),(5,.int .i64 ((2*k+1:Nat):Int)),(6,.int .i64 (val c1)),(7,.int .i64 (val c2)),(37,.bool t)]) (fun _=>[jv w.heap.size b (cH acc)]) (fun t=>t=decide (val c1<0∨val c2<0)) ?_ ?_
  ·refine CG ?_
   refine an ?_
   refine VG (VO.split 34 Z Z (fun h3=>?_) (fun h3=>?_))
   ·have h3:=of_decide_eq_true h3
    refine eP ?_
    exact⟨true,by simp[h3],bd,ER⟩
   ·have h3:=of_decide_eq_false h3
    refine eP ?_
    exact⟨_,by simp[h3],SC Z (SC Z (SC Z (SC Z (SC Z (SC Z (SN _)))))),ER⟩
  intro t ht
  refine CC Z (fun h3=>?_) (fun h3=>CK ?_)
  ·have h4:val c1<0∨val c2<0:=by rw[ht] at h3;exact of_decide_eq_true h3
   rw[if_pos h4] at hJ
   refine an ?_
   exact CR (ay.cU 2 3 Z Z Z ae.nil.ar ⟨rfl,.inr ⟨by rw[hdec,hJ];rfl,Z⟩⟩)
  have h4:¬(val c1<0∨val c2<0):=by rw[ht] at h3;exact of_decide_eq_false h3
  rw[if_neg h4] at hJ
  obtain⟨n1,hn1⟩:∃n:Nat,val c1=n:=⟨(val c1).toNat,by omega⟩
  obtain⟨n2,hn2⟩:∃n:Nat,val c2=n:=⟨(val c2).toNat,by omega⟩
  rw[hn1,hn2] at hJ ⊢
  have hor:n1*2 ^ 4 ||| n2=16*n1+n2:=by
   have:=Nat.two_pow_add_eq_or_of_lt (i:=4) (b:=n2) yd n1
   rw[Nat.mul_comm n1,←this]
  refine an ?_
  refine VG (VI (D1 (a:=n1) (n:=4) Z Z yp yd) ?_)
  refine an ?_
  refine VG (VI (HS (a:=n1*2 ^ 4) (b:=n2) Z Z yd yd) ?_)
  refine VG (VI (dX (((UInt8.ofNat (16*n1+n2)).toNat:Nat):Int) Z Z Z Z Z (by rw[hor,IntKind.wrap_u8'];simp)) ?_)
  refine VG (VO.vf (c:=UInt8.ofNat (16*n1+n2)) Z 0 Z hO Rk Z ?_)
  rw[kA]
  refine sd ?_
  refine⟨(k+1,acc ++ [UInt8.ofNat (16*n1+n2)]),⟨by dsimp only;omega,by simp[hacc],?_⟩,by dsimp only;omega,SC Z (SC Z (Sub.int Z tL (SN _))),ER⟩
  dsimp only
  rw[hJ]
  cases tR (r.drop (2*(k+1))) with
  | none=>rfl
  | some z=>simp
 ·have hk2:2*k=r.length:=by omega
  rw[hk2,List.drop_length] at hJ
  refine VS ?_
  refine an ?_
  exact CR (ay.cU 2 3 Z Z Z ER ⟨rfl,.inl ⟨cH acc,by rw[hdec,hJ];simp[tR],Z⟩⟩)
end Scr
namespace Scr
open Go Vg T Api LibC
attribute [local irreducible] VO VC VA
def cO:ByteArray:=⟨#[]⟩
theorem tv{s:ByteArray}{n:Int}(h:numOf s=some n):-9223372036854775808≤n∧n≤9223372036854775807:=by
 unfold numOf at h
 cases ha:Lib.atoiAll s.data.toList with
 | range=>rw[ha] at h;cases h
 | ok v=>
  rw[ha] at h
  obtain rfl:v=n:=Zy h
  unfold Lib.atoiAll at ha
  split at ha
  ·cases ha
  ·simp only at ha
   split at ha
   ·cases ha
   ·cases ha
   ·split at ha
    ·cases ha
    ·split at ha
     ·cases ha
     ·injection ha with ha
      rename_i h1 h2
      subst ha
      split
      ·rename_i hn
       have:¬9223372036854775808<_:=fun h=>h2 ⟨hn,h⟩
       omega
      ·rename_i hn
       have:¬9223372036854775808≤_:=fun h=>h1 ⟨hn,h⟩
       omega
 | _=>rw[ha] at h;cases h
def jT(s:ByteArray):Option Int:=match numOf s with
 | some n=>if gD n=s then some n else none
 | none=>none
theorem IL:jT cO=none:=by decide +kernel
theorem vh(s:ByteArray)(hs:s.size≤1000000)(h:bX Fr w):aH Tryz.prog 216 [.string s] Fr w []
  (fun v L=>L=[]∧((∃n,jT s=some n∧v=.tuple #[.int .i64 n,.bool true])∨(jT s=none∧v=.tuple #[.int .i64 0,.bool false]))):=by
 refine TF 20 Tryz.func216 Z yn ah Z Z ?_
 refine an ?_
 refine VG (VK (Lc:=[]) (fun Fr w hF hw _=>xx Fr w s yd (bX.st (X:=⟨Tryz.prog,tab,ah,20,_,_⟩) h hF hw)) Z Z ?_)
 rintro _ _ ⟨rfl,⟨n,hn,rfl⟩ | ⟨n,tp,p,hn,rfl⟩⟩
 ·have hr:=tv hn
  refine an ?_
  refine XM ?_
  refine an ?_
  refine VG (VY 13 false Z Z ?_)
  refine eP ?_
  refine VG (VV (fun Fr w hF hw _=>iq Fr w n hr.1 hr.2 (sK.st Z h.tab hF hw)) Z ?_)
  refine eP ?_
  refine CC Z (fun h1=>?_) (fun h1=>CK ?_)
  ·rw[mq] at h1
   have h1:gD n≠s:=by simpa using h1
   refine an ?_
   exact CR (ay.cU 2 3 Z Z Z ER ⟨rfl,.inr ⟨by unfold jT;rw[hn];exact if_neg h1,Z⟩⟩)
  ·rw[mq] at h1
   have h1:gD n=s:=by simpa using h1
   refine an ?_
   exact CR (ay.cU 2 3 Z Z Z ER ⟨rfl,.inl ⟨n,by unfold jT;rw[hn];exact if_pos h1,Z⟩⟩)
 ·refine an ?_
  refine XN ?_
  refine an ?_
  refine VG (VY 13 true Z Z ?_)
  refine Dh ?_
  exact CR (ay.cU 2 3 Z Z Z ER ⟨rfl,.inr ⟨by unfold jT;rw[hn],Z⟩⟩)
def sC(s:ByteArray):List Value:=[.string s]
def tw(p:Nat)(bad:Bool)(r:RL ByteArray):List HP:=[pt p [r.v,.bool bad] 246,r.h 9]
def xA(p:Nat)(ws:List ByteArray)(bad:Bool):HP:=hex fun r:RL ByteArray=>cT (gm (r.Ok sC 1∧r.xs=ws)::tw p bad r)
theorem aV.rd(p:Nat)(ws:List ByteArray)(bad:Bool):aV (ι:=RL ByteArray) (xA p ws bad) (fun r=>r.Ok sC 1∧r.xs=ws) (tw p bad):=fun w ids ⟨x,i,G,hG,⟨hi,hφ⟩,h⟩ hn=>by
 subst hi
 simp only[ZI] at hG
 subst hG
 exact⟨x,hφ,ids,h,hn,fun _ h=>h⟩
theorem ae.rd{L M:List HP}{p:Nat}{ws:List ByteArray}{bad:Bool}(r:RL ByteArray)(hok:r.Ok sC 1)(hx:r.xs=ws)(h:ae L (tw p bad r++M)):ae L (xA p ws bad::M):=
 ae.ex (f:=fun r:RL ByteArray=>cT (gm (r.Ok sC 1∧r.xs=ws)::tw p bad r)) r (ae.sep (Ls:=gm (r.Ok sC 1∧r.xs=ws)::tw p bad r) (ae.pure ⟨hok,hx⟩ h))
theorem xB(p:Nat)(ws:List ByteArray)(bad:Bool):
  aH Tryz.prog 136 [.pointer (some ⟨p,0,none⟩)] Fr w [xA p ws bad] (fun v L=>v=.string (ws.headD cO)∧L=[xA p ws.tail (bad||ws.isEmpty)]):=by
 refine TF 28 Tryz.func136 Z yn ah Z Z ?_
 refine VC.e7 0 Z (aV.rd p ws bad) ?_
 rintro r ⟨hok,rfl⟩
 cases hx:r.xs with
 | nil=>
  have hrv:r.v=.slice r.addr 0 r.cap:=by rw[RL.v,hx];rfl
  unfold tw
  rw[hrv]
  refine J5 ?_
  refine VG (VO.st 0 (cs':=[.slice r.addr 0 r.cap,.bool true]) Z Z Z Z (Zo Z) Z Z ?_)
  refine an ?_
  refine CR (ay.tmp 2 Z Z (ae.rd (p:=p) (bad:=true) (M:=[]) r hok hx ?_).ar ⟨rfl,by simp⟩)
  unfold tw;rw[hrv]
  exact(dG [0,0])
 | cons x xs=>
  obtain⟨b,off,e1,e2,hrd⟩:=hok.ld (k:=0) (x:=x) (by rw[hx];rfl) rfl
  have hroom:=hok.room
  rw[hx] at hroom
  have hrv:r.v=.slice (some ⟨b,off,none⟩) (xs.length+1) r.cap:=by rw[RL.v,hx,e2];rfl
  have hok2:=hok.tail (by rw[hx];simp)
  have hx2:(r.tail 1).xs=xs:=by show r.xs.tail=xs;rw[hx];rfl
  have hrv2:(r.tail 1).v=.slice (some (if r.cap=1 then ⟨b,off,none⟩ else ⟨b,off+1,none⟩)) xs.length (r.cap-1):=by
   rw[RL.v,hx2];simp only[RL.tail,e2]
  unfold tw
  rw[hrv]
  refine an ?_
  refine VC.jm (by simp[Vg.ev,Vg.look];omega) (CK ?_)
  refine an ?_
  refine VG (VI (a_ 0 Z Z Z Z Z Z yd) ?_)
  refine VG (VO.load Z Z ((hrd 1 Z).2 _ 0 _ Z Z) ?_)
  refine an ?_
  refine VG (VI (Dq Z Z Z Z Z hroom) ?_)
  refine an ?_
  refine VG (VO.st 0 (cs':=[(r.tail 1).v,.bool bad]) Z Z Z Z (Zo Z) (by rw[hrv2];rfl) Z ?_)
  refine an ?_
  refine CR (ay.tmp 2 Z Z (ae.rd (p:=p) (bad:=bad) (M:=[]) (r.tail 1) hok2 hx2 ?_).ar ⟨rfl,by simp⟩)
  unfold tw
  exact(dG [0,0])
theorem eI(p:Nat)(ws:List ByteArray)(bad:Bool)(hs:∀s∈ws,s.size≤1000000)(h:bX Fr w):
  aH Tryz.prog 137 [.pointer (some ⟨p,0,none⟩)] Fr w [xA p ws bad] (fun v L=>v=.int .i64 ((jT (ws.headD cO)).getD 0)∧L=[xA p ws.tail (bad||(jT (ws.headD cO)).isNone)]):=by
 have hs0:(ws.headD cO).size≤1000000:=by
  cases ws with
  | nil=>decide
  | cons x xs=>exact hs x yf
 refine TF 23 Tryz.func137 Z yn ah Z Z ?_
 refine an ?_
 refine XO ?_
 rintro _ _ ⟨rfl,rfl⟩
 refine VG (VK (Lc:=[]) (fun Fr w hF hw _=>vh Fr w (ws.headD cO) hs0 (bX.st (X:=⟨Tryz.prog,tab,ah,23,_,_⟩) h hF hw)) Z Z ?_)
 have hb:∀b:Bool,(ws.isEmpty=true→b=true)→(bad||ws.isEmpty||b)=(bad||b):=fun b hh=>by
  cases hw:ws.isEmpty with
  | false=>simp
  | true=>rw[hh hw];simp
 rintro _ _ ⟨rfl,⟨n,hn,rfl⟩ | ⟨hn,rfl⟩⟩
 ·have he:ws.isEmpty=false:=by
   cases ws with
   | nil=>rw[show([]:List ByteArray).headD cO=cO from rfl,IL] at hn;cases hn
   | cons x xs=>rfl
  rw[hn,he,Bool.or_false]
  refine VO.e7 0 Z (aV.rd p ws.tail bad) ?_
  rintro r ⟨hok,hx⟩
  unfold tw
  refine an ?_
  cases bad with
  | true=>
   refine T8 ?_
   refine Q_ ?_
   exact XP
  | false=>
   refine T6 ?_
   refine XQ ?_
   refine an ?_
   exact XR
 ·rw[hn]
  generalize (bad||ws.isEmpty)=bad2
  refine VO.e7 0 Z (aV.rd p ws.tail bad2) ?_
  rintro r ⟨hok,hx⟩
  unfold tw
  refine an ?_
  cases bad2 with
  | true=>
   refine T8 ?_
   refine Q_ ?_
   exact TJ
  | false=>
   refine T6 ?_
   refine Q_ ?_
   exact TJ
theorem IM:oU cO=none:=by decide +kernel
theorem ke(p:Nat)(ws:List ByteArray)(bad:Bool)(hs:∀s∈ws,s.size≤1000000):
  aH Tryz.prog 138 [.pointer (some ⟨p,0,none⟩)] Fr w [xA p ws bad] (fun v L=>v=.string ((oU (ws.headD cO)).getD cO)∧L=[xA p ws.tail (bad||(oU (ws.headD cO)).isNone)]):=by
 have hs0:(ws.headD cO).size≤1000000:=by
  cases ws with
  | nil=>decide
  | cons x xs=>exact hs x yf
 refine TF 23 Tryz.func138 Z yn ah Z Z ?_
 refine an ?_
 refine XO ?_
 rintro _ _ ⟨rfl,rfl⟩
 refine VG (VK (Lc:=[]) (fun Fr w hF hw _=>zZ Fr w (ws.headD cO) hs0) Z Z ?_)
 have hb:∀b:Bool,(ws.isEmpty=true→b=true)→(bad||ws.isEmpty||b)=(bad||b):=fun b hh=>by
  cases hw:ws.isEmpty with
  | false=>simp
  | true=>rw[hh hw];simp
 rintro _ _ ⟨rfl,⟨n,hn,rfl⟩ | ⟨hn,rfl⟩⟩
 ·have he:ws.isEmpty=false:=by
   cases ws with
   | nil=>rw[show([]:List ByteArray).headD cO=cO from rfl,IM] at hn;cases hn
   | cons x xs=>rfl
  rw[hn,he,Bool.or_false]
  refine VO.e7 0 Z (aV.rd p ws.tail bad) ?_
  rintro r ⟨hok,hx⟩
  unfold tw
  refine an ?_
  cases bad with
  | true=>
   refine T8 ?_
   refine Q_ ?_
   exact XP
  | false=>
   refine T6 ?_
   refine XQ ?_
   refine an ?_
   exact XR
 ·rw[hn]
  generalize (bad||ws.isEmpty)=bad2
  refine VO.e7 0 Z (aV.rd p ws.tail bad2) ?_
  rintro r ⟨hok,hx⟩
  unfold tw
  refine an ?_
  cases bad2 with
  | true=>
   refine T8 ?_
   refine Q_ ?_
   exact TJ
  | false=>
   refine T6 ?_
   refine Q_ ?_
   exact TJ
end Scr
namespace Scr
open Go Vg T Api LibC
attribute [local irreducible] VO VC VA
structure cE where
 kind:Int
 a:Int
 b:Int
 c:Int
 op:e8
def dR(d:cE):List Value:=[.int .i64 d.kind,.int .i64 d.a,.int .i64 d.b,.int .i64 d.c,.int .i64 d.op.kind,.string d.op.key,.string d.op.value,.int .i64 d.op.version]
theorem nw(d:cE):(dR d).length=8:=rfl
def F4:e8:=⟨0,cO,cO,0⟩
def oV:cE:=⟨0,0,0,0,F4⟩
def pA(n:Int):Prop:=-9223372036854775808≤n∧n≤9223372036854775807
structure cE.Ok(d:cE):Prop where
 kind:pA d.kind
 a:pA d.a
 b:pA d.b
 c:pA d.c
 J_:pA d.op.kind
 OP:pA d.op.version
 key:d.op.key.size≤1000
 val:d.op.value.size≤1000
def Qk:List (List UInt8):=[[],[99,97,108,108],[115,116,101,112],[116,105,99,107],[100,101,108,105,118,101,114],[100,114,111,112],[100,111,117,98,108,101],[99,114,97,115,104],[115,117,115,112,101,99,116],[106,111,105,110],[100,114,97,105,110],[119,97,116,99,104]]
def Sr:List (List UInt8):=[[],[97,98,99,111],[97],[],[97,98,99],[97,98,99],[97,98,99],[97],[97],[97],[97],[]]
def eA(k:Nat):List UInt8:=Qk.getD k []
def aR(k:Nat):List UInt8:=Sr.getD k []
def kT:List Nat:=List.range 12
def Ud(k:Nat):List Value:=[.string (cH (eA k)),.string (cH (aR k))]
theorem Nu(k:Nat):(Ud k).length=2:=rfl
def kinds:List Value:=flat Ud kT
def lM(k:Int):Bool:=decide (1≤k)&&decide (k≤11)
theorem jU{k:Int}(h:lM k=true):∃n:Nat,k=n∧1≤n∧n≤11:=by
 simp[lM] at h
 exact⟨k.toNat,by omega,by omega,by omega⟩
theorem vi{k j:Nat}{v:Value}(hk:k<12)(hj:(Ud k)[j]?=some v):kinds[0+k*2+j]?=some v:=by
 have:=fD Nu (l:=kT) (i:=k) (a:=k) (by simp[kT,hk]) hj []
 rw[Zi] at this
 rw[Zl];exact this
theorem z_:∀k,k<12→∀c∈aR k,c=97∨c=98∨c=99∨c=111:=by decide +kernel
theorem vj:∀k,k<12→(eA k).length≤7∧(aR k).length≤4:=by decide +kernel
def cj(Fr:Nat→Prop)(w:World):Prop:=eQ Fr w 0 kinds
theorem cj.st{X:Cx}{L:List HP}(h:cj X.Fr X.w0){Fr':Nat→Prop}{w:World}(hF:∀b,X.Fr b→Fr' b)(hw:St X L w):cj Fr' w:=eQ.of h hF hw
theorem decode_ascii{s:ByteArray}{i:Nat}{c:UInt8}(h:s.data.toList[i]?=some c)(hc:c.toNat<128):Utf8.decode s i=(c.toNat,1):=by
 have h2:s.data[i]?=some c:=by simpa using h
 obtain⟨h3,h4⟩:=ZZ.1 h2
 have hg:(s.get! i).toNat=c.toNat:=by
  show(s.data[i]!).toNat=_
  rw[getElem!_pos s.data i h3,h4]
 have hc':c.toNat<0x80:=hc
 simp only[Utf8.decode,Nat.add_zero,hg,hc',if_true]
theorem oW(k:Int):aH Tryz.prog 15 [.int .i64 k] Fr w [] (fun v L=>v=.bool (lM k)∧L=[]):=by
 refine TF 9 Tryz.func15 Z yn ah Z Z ?_
 refine an ?_
 refine VG (VO.split 5 Z Z (fun h1=>?_) (fun h1=>?_))
 ·refine an ?_
  exact CR (ay.bool 2 Z Z (by rw[lM];have:=of_decide_eq_true h1;simp[this]) ER ⟨rfl,Z⟩)
 ·refine an ?_
  exact CR (ay.bool 2 Z Z (by rw[lM];have:=of_decide_eq_false h1;simp[this]) ER ⟨rfl,Z⟩)
def jV(n:Int):List UInt8:=32::Lib.itoa n
def jG(d:cE)(c:UInt8):List UInt8:=
 if c=97 then jV d.a else if c=98 then jV d.b else if c=99 then jV d.c
 else jV d.op.kind++jV d.op.version++(32::58::mv d.op.key.data.toList)++(32::58::mv d.op.value.data.toList)
def oX(d:cE):List UInt8:=(aR d.kind.toNat).flatMap (jG d)
def iX(d:cE):List UInt8:=if lM d.kind then eA d.kind.toNat++oX d ++ [10] else []
def jH(l:List cE):List UInt8:=l.flatMap iX
theorem fg{n:Int}(h:pA n):(jV n).length≤22:=by
 have:=Lib.itoa_length_le n h.1 h.2
 simp only[jV,Zs];omega
theorem vk{d:cE}(h:d.Ok)(c:UInt8):(jG d c).length≤4100:=by
 have h1:=fg h.a
 have h2:=fg h.b
 have h3:=fg h.c
 have h4:=fg h.J_
 have h5:=fg h.OP
 have h6:=h.key
 have h7:=h.val
 unfold jG
 split
 ·omega
 split
 ·omega
 split
 ·omega
 ·simp only[Zh,Zs,kB,fM];omega
theorem jx{α:Type}{f:α→List UInt8}{n:Nat}:∀{l:List α},(∀x∈l,(f x).length≤n)→(l.flatMap f).length≤n*l.length
 | [],_=>by simp
 | x::l,h=>by
  rw[List.flatMap_cons,Zh,Zs,Nat.mul_succ]
  have h1:=h x yf
  have h2:=jx (l:=l) (f:=f) (n:=n) fun y hy=>h y (by simp[hy])
  omega
theorem xC{d:cE}(h:d.Ok):(iX d).length≤16500:=by
 unfold iX
 split
 ·rename_i hk
  obtain⟨n,hn,h1,h2⟩:=jU hk
  have hw:=vj n yd
  have hr:(oX d).length≤4100*(aR d.kind.toNat).length:=jx fun c _=>vk h c
  rw[hn] at hr ⊢
  simp only[Zp,Zh,Zs,List.length_nil] at hr ⊢
  omega
 ·simp
theorem NB.it{tB:TypeId}{b pos:Nat}{s:ByteArray}:NB tB (zW b s pos):=fun ids w ⟨h1,h2⟩ x hx=>by
 subst h1
 obtain rfl:x=b:=by simpa using hx
 exact⟨_,h2,fun c fz he=>by cases he⟩
theorem oY(n:Int):gD n=cH (Lib.itoa n):=rfl
end Scr
namespace Scr
open Go Vg T Api LibC
attribute [local irreducible] VO VC VA
theorem a8.write{X:Cx}{e:Env}{L:List HP}{args:Array Operand}{tys:Array TypeId}{b:Nat}{s t:ByteArray}(hP:X.P=Tryz.prog)(i:Nat)(hL:L[i]?=some (jv X.w0.heap.size b s))(hnb:∀H∈L.eraseIdx i,NB 5 H)(hlen:s.size+t.size≤140737488355328)
  (hargs:lz e args.toList=some [.pointer (some ⟨b,0,none⟩),.string t]):
  a8 X (.call ⟨.value (.func 18),args,tys⟩) e L (fun v L'=>v=.tuple #[.int .i64 t.size,.nilIface]∧L'=L.set i (jv X.w0.heap.size b (s++t))):=
 a8.mono (a8.zn (ψ:=fun v H'=>v=.tuple #[.int .i64 t.size,.nilIface]∧H'=jv X.w0.heap.size b (s++t)) i hL (fun Fl w hw hs=>hP▸ve _ w _ b s t (zX hnb hw hs) hlen) hargs (fun v L1 h=>⟨_,h.2,h.1,rfl⟩))
  fun v L' ⟨H',⟨h1,h2⟩,h3⟩=>⟨h1,by rw[h3,h2]⟩
theorem Fi(n:Int):(⟨#[32]⟩:ByteArray)++gD n=cH (jV n):=ByteArray.ext (by simp[cH,jV,gD])
theorem Ql(s:ByteArray):(⟨#[32]⟩:ByteArray)++pN s=cH (32::58::mv s.data.toList):=ByteArray.ext (by simp[cH,pN])
theorem oZ{n:Int}(h:pA n):(gD n).size≤21:=by
 have:=Lib.itoa_length_le n h.1 h.2
 rw[oY,a7];omega
theorem uz{a:Option Addr}{cap:Nat}{l:List cE}(h:aI dR 8 Fr w a l)(hl:l.length≤3000)(hok:∀d∈l,d.Ok)(hT:sK Fr w)(hK:cj Fr w):
  aH Tryz.prog 12 [.slice a l.length cap] Fr w [] (fun v L=>v=.string (cH (jH l))∧L=[]):=by
 refine TF 84 Tryz.func12 Z yn ah Z Z ?_
 refine an ?_
 refine VG (VO.zl Z fun b hB=>?_)
 refine UX ?_
 refine an ?_
 refine VC.loop (σ:=Nat) (fun i=>[(3,pV b),(8,.slice a l.length cap),(9,.int .i64 l.length),(10,.int .i64 i)]) (fun i=>[jv w.heap.size b (cH (jH (l.take i)))]) (fun i=>i≤l.length) (fun i=>l.length-i) 0
  (Zj _) bd ER ?_
 intro i hi
 refine an ?_
 refine CP Z (fun h1=>CK ?_) (fun h1=>CX ?_)
 ·have hi2:i<l.length:=by omega
  obtain⟨d,hd⟩:∃d,l[i]?=some d:=⟨_,GE hi2⟩
  have hdo:=hok d (ME hd)
  have htk:jH (l.take (i+1))=jH (l.take i)++iX d:=by rw[Zu,hd];simp[jH]
  have hpl:(jH (l.take i)).length≤16500*(l.take i).length:=jx fun x hx=>xC (hok x (List.mem_of_mem_take hx))
  have hpl2:(l.take i).length≤3000:=by rw[Zw];omega
  obtain⟨fb,fo,rfl,ra,rc⟩:=aI.rd (X:=⟨Tryz.prog,tab,ah,84,Fr,w⟩) h hd
  refine Kl ?_
  refine HG ?_
  refine VG (VO.alloc Z fun db=>?_)
  refine VG (VT (vs:=dR d) 0 Z Z Z Z (NR _) Z Z Z ?_)
  refine an ?_
  refine VG (VO.ic (fun Fr w=>oW Fr w d.kind) Z ?_)
  refine an ?_
  refine VC.dT Z (fun h2=>CX ?_) (fun h2=>CK ?_)
  ·have e:iX d=[]:=by unfold iX;rw[h2];rfl
   refine sd ?_
   refine⟨i+1,hi2,by dsimp only;omega,bd,?_⟩
   dsimp only
   rw[htk,e,Zi]
   exact(IP 1 Z ae.nil).ar
  obtain⟨k,hk,hk1,hk2⟩:=jU h2
  have hwl:=vj k yd
  have hline:iX d=eA k++(aR k).flatMap (jG d) ++ [10]:=by unfold iX oX;rw[h2,hk];rfl
  refine an ?_
  refine UY ?_
  refine an ?_
  refine VG (VO.load Z Z (aE.aP hK (vi (k:=k) (j:=0) yd Z)) ?_)
  refine VG (VO.write Z 1 Z (dW (NB.pt yp) hO) S_ Z ?_)
  rw[gF]
  refine an ?_
  refine UY ?_
  refine an ?_
  refine UZ ?_
  refine U0 ?_
  rintro _ _ ⟨ib,rfl,rfl⟩
  refine an ?_
  refine VC.loop (σ:=Nat) (fun m=>[(3,pV b),(5,pV db),(8,.slice (some ⟨fb,fo,none⟩) l.length cap),(9,.int .i64 l.length),(10,.int .i64 i),(29,pV ib)])
   (fun m=>[zW ib (cH (aR k)) m,jv w.heap.size b (cH (jH (l.take i)++eA k++((aR k).take m).flatMap (jG d))),pt db (dR d) 33]) (fun m=>m≤(aR k).length) (fun m=>(aR k).length-m) 0
   (Zj _) bd ?_ ?_
  ·rw[Z0,List.flatMap_nil,Zi]
   exact(dG [0,1,0]).ar
  intro m hm
  by_cases hm2:m<(aR k).length
  ·obtain⟨c,hc⟩:∃c,(aR k)[m]?=some c:=⟨_,GE hm2⟩
   have hc2:(cH (aR k)).data.toList[m]?=some c:=by show(aR k).toArray.toList[m]?=_;simpa using hc
   have htake:((aR k).take (m+1)).flatMap (jG d)=((aR k).take m).flatMap (jG d)++jG d c:=by rw[Zu,hc];simp
   have hfl:(((aR k).take m).flatMap (jG d)).length≤4100*((aR k).take m).length:=jx fun c _=>vk hdo c
   have hfl2:((aR k).take m).length≤4:=by rw[Zw];omega
   have hbase:(jH (l.take i)++eA k++((aR k).take m).flatMap (jG d)).length≤60000000:=by simp only[Zh];omega
   have hnext:∀t:List UInt8,jH (l.take i)++eA k++((aR k).take m).flatMap (jG d)++t=jH (l.take i)++eA k++(((aR k).take m).flatMap (jG d)++t):=fun t=>by rw[Zr]
   generalize jH (l.take i)++eA k++((aR k).take m).flatMap (jG d)=base at hbase hnext ⊢
   rcases z_ k yd c (ME hc) with rfl | rfl | rfl | rfl
   ·refine an ?_
    refine VG (VO.wo (a8.ei (c:=97) 0 Z Z Hw (decode_ascii hc2 yp)) ?_)
    refine Pb ?_
    refine wm ?_
    refine sf ?_
    refine VG (VV (fun Fr w hF hs _=>iq Fr w d.a hdo.a.1 hdo.a.2 (sK.st Z hT hF hs)) Z ?_)
    refine VG (VI (cm Z Z (by have:=oZ hdo.a;show 1+_≤_;omega)) ?_)
    rw[Fi]
    refine VG (VO.write Z 1 Z (dW NB.it (dW (NB.pt yp) hO)) (by have:=fg hdo.a;rw[a7,a7];omega) Z ?_)
    rw[gF,hnext,show jV d.a=jG d 97 from rfl,←htake]
    refine an ?_
    exact TK
   ·refine an ?_
    refine VG (VO.wo (a8.ei (c:=98) 0 Z Z Hw (decode_ascii hc2 yp)) ?_)
    refine Ra ?_
    refine wm ?_
    refine sf ?_
    refine VG (VV (fun Fr w hF hs _=>iq Fr w d.b hdo.b.1 hdo.b.2 (sK.st Z hT hF hs)) Z ?_)
    refine VG (VI (cm Z Z (by have:=oZ hdo.b;show 1+_≤_;omega)) ?_)
    rw[Fi]
    refine VG (VO.write Z 1 Z (dW NB.it (dW (NB.pt yp) hO)) (by have:=fg hdo.b;rw[a7,a7];omega) Z ?_)
    rw[gF,hnext,show jV d.b=jG d 98 from rfl,←htake]
    refine an ?_
    exact TK
   ·refine an ?_
    refine VG (VO.wo (a8.ei (c:=99) 0 Z Z Hw (decode_ascii hc2 yp)) ?_)
    refine Ra ?_
    refine Kj ?_
    refine wm ?_
    refine sf ?_
    refine VG (VV (fun Fr w hF hs _=>iq Fr w d.c hdo.c.1 hdo.c.2 (sK.st Z hT hF hs)) Z ?_)
    refine VG (VI (cm Z Z (by have:=oZ hdo.c;show 1+_≤_;omega)) ?_)
    rw[Fi]
    refine VG (VO.write Z 1 Z (dW NB.it (dW (NB.pt yp) hO)) (by have:=fg hdo.c;rw[a7,a7];omega) Z ?_)
    rw[gF,hnext,show jV d.c=jG d 99 from rfl,←htake]
    refine an ?_
    exact TK
   ·refine an ?_
    refine VG (VO.wo (a8.ei (c:=111) 0 Z Z Hw (decode_ascii hc2 yp)) ?_)
    refine Ra ?_
    refine Kj ?_
    refine Kj ?_
    refine wm ?_
    have z1:=oZ hdo.J_
    have z2:=oZ hdo.OP
    have z3:=hdo.key
    have z4:=hdo.val
    have z5:=xy d.op.key
    have z6:=xy d.op.value
    refine CS (CD (ts 0 3 (ts 6 3 (.only 3 (.take 4 (.take 5 (.only 9 (.take 10 (.only 11 .nil)))))))) yn yr ?_)
    refine sg ?_
    refine AG (AR (fun Fr w hF hs _=>iq Fr w d.op.kind hdo.J_.1 hdo.J_.2 (sK.st Z hT hF hs)) Z Z yu ?_)
    refine AG (AI Z (cm Z Z (by show 1+_≤_;omega)) ?_)
    rw[Fi]
    refine AG (AI Z (cm (t:=cH [32]) Z Z (by have:=fg hdo.J_;rw[a7];show _+1≤_;omega)) ?_)
    rw[gF]
    refine sg ?_
    refine AG (AR (fun Fr w hF hs _=>iq Fr w d.op.version hdo.OP.1 hdo.OP.2 (sK.st Z hT hF hs)) Z Z yu ?_)
    refine AG (AI Z (cm Z Z (by have:=fg hdo.J_;rw[a7,Zh];show _+1+_≤_;omega)) ?_)
    rw[oY,gF]
    refine AG (AO (a8.write (L:=[zW ib (cH (aR k)) (m+1),jv w.heap.size b (cH base),pt db (dR d) 33]) Z 1 Z (dW NB.it (dW (NB.pt yp) hO)) (by have:=fg hdo.J_;have:=fg hdo.OP;rw[oY,a7] at z2;rw[a7,a7,Zh,Zh];show _+(_+1+_)≤_;omega) Z) Z ?_ ?_)
    ·rintro _ _ ⟨rfl,rfl⟩
     exact yu
    rintro _ _ ⟨rfl,rfl⟩
    rw[gF,show jV d.op.kind ++ [32]++Lib.itoa d.op.version=jV d.op.kind++jV d.op.version by simp[jV]]
    refine sg ?_
    refine CD (ts 0 3 (ts 6 3 (.only 3 (.take 4 (.take 5 (.only 9 (.take 10 (.only 11 .nil)))))))) yn yr ?_
    refine sg ?_
    refine AG (AR (fun Fr w hF hs _=>rH Fr w d.op.key yd) Z Z yu ?_)
    refine AG (AI Z (cm Z Z (by show 1+_≤_;omega)) ?_)
    rw[Ql]
    refine AG (AI Z (cm (t:=cH [32]) Z Z (by rw[a7,Zs,Zs,kB,fM];show _+1≤_;omega)) ?_)
    rw[gF]
    refine sg ?_
    refine AG (AR (fun Fr w hF hs _=>rH Fr w d.op.value yd) Z Z yu ?_)
    refine AG (AI Z (cm Z Z (by rw[a7,Zh,Zs,Zs,kB,fM];show _+1+_≤_;omega)) ?_)
    rw[show pN d.op.value=cH (58::mv d.op.value.data.toList) from rfl,gF]
    refine AG (AO (a8.write (L:=[zW ib (cH (aR k)) (m+1),jv w.heap.size b (cH (base++(jV d.op.kind++jV d.op.version))),pt db (dR d) 33]) Z 1 Z (dW NB.it (dW (NB.pt yp) hO)) (by have:=fg hdo.J_;have:=fg hdo.OP;rw[a7,a7];simp only[Zh,Zs,kB,fM,List.length_nil];omega) Z) Z ?_ ?_)
    ·rintro _ _ ⟨rfl,rfl⟩
     exact yu
    rintro _ _ ⟨rfl,rfl⟩
    rw[gF,Zr base,show jV d.op.kind++jV d.op.version++(32::58::mv d.op.key.data.toList ++ [32]++58::mv d.op.value.data.toList)=jG d 111 by simp[jG],hnext (jG d 111),←htake]
    refine sg ?_
    exact TK
  ·obtain rfl:m=(aR k).length:=by omega
   rw[ZF,show zW ib (cH (aR k)) (aR k).length=zW ib (cH (aR k)) (cH (aR k)).size by rw[a7]]
   have hfl:((aR k).flatMap (jG d)).length≤4100*(aR k).length:=jx fun c _=>vk hdo c
   refine an ?_
   refine VG (VO.wo (a8.II 0 Z Z) ?_)
   refine an ?_
   refine VC.jm Z (CX ?_)
   refine an ?_
   refine VG (VO.vf (c:=10) Z 1 Z (dW NB.it (dW (NB.pt yp) hO)) (by rw[a7];simp only[Zh];omega) Z ?_)
   rw[kA,show jH (l.take i)++eA k++(aR k).flatMap (jG d) ++ [10]=jH (l.take (i+1)) by rw[htk,hline];simp]
   refine sd ?_
   exact⟨i+1,hi2,by dsimp only;omega,bd,(IP 1 Z ae.nil).ar⟩
 ·obtain rfl:i=l.length:=by omega
  rw[ZF]
  refine VS ?_
  refine an ?_
  exact EX
end Scr
namespace Scr
open Go Vg T Api LibC
attribute [local irreducible] VO VC VA
def IN:ByteArray:=⟨#[32]⟩
def ny(s:ByteArray):List ByteArray:=Lib.splitB IN 0 (Lib.countB s IN) s
theorem D6(s:ByteArray):(ny s).length=Lib.countB s IN+1:=Lib.splitB_all IN yp 0 _ s rfl
theorem tz(sep:ByteArray):∀(k:Nat) (s:ByteArray),∀w∈Lib.splitB sep 0 k s,w.size≤s.size
 | 0,s,w,h=>by
  rw[Lib.splitB_zero] at h
  obtain rfl:w=s:=by simpa using h
  exact NR _
 | k+1,s,w,h=>by
  unfold Lib.splitB at h
  split at h
  ·obtain rfl:w=s:=by simpa using h
   exact NR _
  ·rcases Zt.1 h with rfl | h
   ·rw[ByteArray.size_extract];omega
   ·have:=tz sep k _ w h
    rw[ByteArray.size_extract] at this;omega
theorem BX{s w:ByteArray}(h:w∈ny s):w.size≤s.size:=tz IN _ s w h
def eN(w:ByteArray):Nat→Nat
 | 0=>0
 | k+1=>if cH (eA (k+1))=w then k+1 else eN w k
theorem xD(w:ByteArray):∀k,eN w k≤k
 | 0=>NR _
 | k+1=>by
  rw[eN];split
  ·exact NR _
  ·exact Nat.le_succ_of_le (xD w k)
abbrev IQ:Type:=cE×List ByteArray×Bool
def takeN(f:cE→Int→cE)(x:IQ):IQ:=(f x.1 ((jT (x.2.1.headD cO)).getD 0),x.2.1.tail,x.2.2||(jT (x.2.1.headD cO)).isNone)
def lj(f:cE→ByteArray→cE)(x:IQ):IQ:=(f x.1 ((oU (x.2.1.headD cO)).getD cO),x.2.1.tail,x.2.2||(oU (x.2.1.headD cO)).isNone)
def sA(d:cE)(n:Int):cE:={ d with a:=n }
def sB(d:cE)(n:Int):cE:={ d with b:=n }
def Qm(d:cE)(n:Int):cE:={ d with c:=n }
def Rg(d:cE)(n:Int):cE:={ d with op:={ d.op with kind:=n } }
def Rh(d:cE)(n:Int):cE:={ d with op:={ d.op with version:=n } }
def GC(d:cE)(s:ByteArray):cE:={ d with op:={ d.op with key:=s } }
def GD(d:cE)(s:ByteArray):cE:={ d with op:={ d.op with value:=s } }
def kC(x:IQ)(c:UInt8):IQ:=
 if c=97 then takeN sA x else if c=98 then takeN sB x else if c=99 then takeN Qm x
 else lj GD (lj GC (takeN Rh (takeN Rg x)))
def vl(s:ByteArray):Option cE:=
 let k:=eN ((ny s).headD cO) 11
 if k=0 then none
 else
  let x:=(aR k).foldl kC ({ oV with kind:=k },(ny s).tail,false)
  if x.2.2 || !x.2.1.isEmpty then none else some x.1
theorem IS(x:IQ)(c:UInt8):∀w∈(kC x c).2.1,w∈x.2.1:=fun w h=>by
 unfold kC at h
 split at h
 ·exact Z9 h
 split at h
 ·exact Z9 h
 split at h
 ·exact Z9 h
 ·exact Z9 (Z9 (Z9 (Z9 h)))
theorem Aa(s:ByteArray)(hs:s.size≤1000000)(hG:bX Fr w)(hK:cj Fr w):
  aH Tryz.prog 81 [.string s] Fr w [] (fun v L=>L=[]∧((∃d,vl s=some d∧v=.tuple #[.agg (dR d).toArray,.bool true])∨(vl s=none∧v=.tuple #[.agg (dR oV).toArray,.bool false]))):=by
 have hwsz:∀x∈ny s,x.size≤1000000:=fun x hx=>ZQ (BX hx) hs
 have hwl:=D6 s
 generalize hws:ny s=ws at hwsz hwl
 have hflat:ws.map Value.string=flat sC ws ++ []:=by
  rw[Zi];clear hwl hwsz hws;induction ws with
  | nil=>rfl
  | cons x ws ih=>rw[bL,←ih];rfl
 refine TF 89 Tryz.func81 Z yn ah Z Z ?_
 refine CS (CG (VG (VO.alloc Z fun rb=>?_)))
 refine an ?_
 refine VG (VK (Lc:=[]) (fun Fr w hF hw _=>D5 Fr w s IN yd yp (bX.st (X:=⟨Tryz.prog,tab,ah,89,_,_⟩) hG hF hw)) Z Z ?_)
 rintro _ _ ⟨wb,rfl,rfl⟩
 rw[show Lib.splitB IN 0 (Lib.countB s IN) s=ws from hws,←hwl,hflat]
 refine VG (VI (LB (pv:=[(0,.slice (some ⟨wb,0,none⟩) ws.length ws.length)]) [.slice (some ⟨wb,0,none⟩) ws.length ws.length,.bool false] Z Z Z yn Z) ?_)
 refine VG (VB (vs:=[.slice (some ⟨wb,0,none⟩) ws.length ws.length,.bool false]) Z fun p=>?_)
 refine VO.ar (L':=[xA p ws false,pt rb (dR oV) 33]) (ae.rd (RL.new sC wb ws.length ws []) (RL.uo (c:=sC) (n:=1) (fun _=>rfl) (NR _)) Z (dG [0,0,0])).ar ?_
 refine an ?_
 refine VG (VQ 0 Z (fun Fr w hF hw _=>xB Fr w p ws false) Z (ψ:=fun v H=>v=.string (ws.headD cO)∧H=xA p ws.tail (false||ws.isEmpty)) yy ?_)
 rintro _ _ ⟨rfl,rfl⟩
 have hne:ws.isEmpty=false:=by
  cases ws with
  | nil=>simp at hwl
  | cons x ws=>rfl
 rw[hne,Bool.false_or]
 have hlr:vl s=(if eN (ws.headD cO) 11=0 then none else if ((aR (eN (ws.headD cO) 11)).foldl kC ({ oV with kind:=eN (ws.headD cO) 11 },ws.tail,false)).2.2 || !((aR (eN (ws.headD cO) 11)).foldl kC ({ oV with kind:=eN (ws.headD cO) 11 },ws.tail,false)).2.1.isEmpty then none else some ((aR (eN (ws.headD cO) 11)).foldl kC ({ oV with kind:=eN (ws.headD cO) 11 },ws.tail,false)).1):=by
  unfold vl;rw[hws]
 have htsz:∀x∈ws.tail,x.size≤1000000:=fun x hx=>hwsz x (Z9 hx)
 generalize ws.headD cO=w0 at hlr ⊢
 generalize ws.tail=wt at hlr htsz ⊢
 refine an ?_
 refine VC.loop (σ:=Nat) (fun j=>[(4,pV p),(5,.string w0),(2,pV rb),(6,.int .i64 ((j+1:Nat):Int))]) (fun j=>[xA p wt false,pt rb (dR { oV with kind:=eN w0 j }) 33]) (fun j=>j≤11) (fun j=>11-j) 0
  (Zj _) bd ER ?_
 intro j hj
 refine an ?_
 refine CP Z (fun h1=>CK ?_) (fun h1=>CX ?_)
 ·have hj2:j+1≤11:=by omega
  refine an ?_
  refine VG (VI (bS (j+1) Z Z Z Z Z Z yd) ?_)
  refine an ?_
  refine VG (VO.load Z Z (aE.aP hK (vi (k:=j+1) (j:=0) yd Z)) ?_)
  refine an ?_
  refine CC Z (fun h2=>?_) (fun h2=>CK ?_)
  ·have h2:cH (eA (j+1))=w0:=by rw[mq] at h2;exact of_decide_eq_true h2
   refine an ?_
   refine VG (VO.st 1 (cs':=dR { oV with kind:=((j+1:Nat):Int) }) Z Z Z Z (Zo Z) Z Z ?_)
   refine sd ?_
   refine⟨j+1,hj2,by dsimp only;omega,bd,?_⟩
   dsimp only
   rw[eN,if_pos h2]
   exact ER
  ·have h2:cH (eA (j+1))≠w0:=by rw[mq] at h2;exact of_decide_eq_false h2
   refine sd ?_
   refine⟨j+1,hj2,by dsimp only;omega,bd,?_⟩
   dsimp only
   rw[eN,if_neg h2]
   exact ER
 obtain rfl:j=11:=by omega
 have hk11:=xD w0 11
 generalize eN w0 11=k at hlr hk11 ⊢
 refine jA ?_
 refine VG (VO.ic (fun Fr w=>oW Fr w (k:Int)) Z ?_)
 refine an ?_
 refine VC.dT Z (fun h2=>?_) (fun h2=>CK ?_)
 ·have hk0:k=0:=by simp[lM] at h2;omega
  rw[if_pos hk0] at hlr
  refine an ?_
  refine U1 ?_
  refine VG (VT (vs:=dR oV) 1 Z Z Z Z (NR _) Z Z Z ?_)
  refine an ?_
  exact CR (ay.aT 2 3 Z Z Z (aE.many (ds:=dR oV) 1 Z Z) Z ae.nil.ar ⟨rfl,.inr ⟨hlr,Z⟩⟩)
 have hk1:1≤k:=by simp[lM] at h2;omega
 rw[if_neg yd] at hlr
 have hul:=vj k yd
 refine jA ?_
 refine VG (VI (bS k Z Z Z Z Z Z yd) ?_)
 refine an ?_
 refine UZ ?_
 refine U0 ?_
 rintro _ _ ⟨ib,rfl,rfl⟩
 refine an ?_
 generalize hX0:(({ oV with kind:=(k:Int) },wt,false):IQ)=X0 at hlr
 refine VC.loop (σ:=Nat) (fun m=>[(4,pV p),(2,pV rb),(37,pV ib)])
  (fun m=>[xA p (((aR k).take m).foldl kC X0).2.1 (((aR k).take m).foldl kC X0).2.2,pt rb (dR (((aR k).take m).foldl kC X0).1) 33,zW ib (cH (aR k)) m]) (fun m=>m≤(aR k).length∧∀x∈(((aR k).take m).foldl kC X0).2.1,x.size≤1000000) (fun m=>(aR k).length-m) 0
  ⟨Zj _,by rw[←hX0];exact htsz⟩ bd ?_ ?_
 ·rw[←hX0]
  exact(dG [1,1,0]).ar
 rintro m ⟨hm,hxs⟩
 by_cases hm2:m<(aR k).length
 ·obtain⟨c,hc⟩:∃c,(aR k)[m]?=some c:=⟨_,GE hm2⟩
  have hc2:(cH (aR k)).data.toList[m]?=some c:=by show(aR k).toArray.toList[m]?=_;simpa using hc
  have htake:((aR k).take (m+1)).foldl kC X0=kC (((aR k).take m).foldl kC X0) c:=by rw[Zu,hc];simp
  have hxs2:∀x∈(((aR k).take (m+1)).foldl kC X0).2.1,x.size≤1000000:=fun x hx=>hxs x (by rw[htake] at hx;exact IS _ _ x hx)
  generalize ((aR k).take m).foldl kC X0=x at htake hxs ⊢
  have hx0:∀w∈x.2.1,w.size≤1000000:=hxs
  rcases z_ k yd c (ME hc) with rfl | rfl | rfl | rfl
  ·refine an ?_
   refine VG (VO.wo (a8.ei (c:=97) 2 Z Z Hw (decode_ascii hc2 yp)) ?_)
   refine Pb ?_
   refine Ow ?_
   refine VG (VQ 0 Z (fun Fr w hF hw _=>eI Fr w p x.2.1 x.2.2 hx0 (bX.st (X:=⟨Tryz.prog,tab,ah,89,_,_⟩) hG hF hw)) Z (ψ:=fun v H=>v=.int .i64 ((jT (x.2.1.headD cO)).getD 0)∧H=xA p (takeN sA x).2.1 (takeN sA x).2.2) yy ?_)
   rintro _ _ ⟨rfl,rfl⟩
   refine an ?_
   refine VG (VO.st 1 (cs':=dR (takeN sA x).1) Z Z Z Z (Zo Z) Z Z ?_)
   refine an ?_
   refine⟨m+1,⟨hm2,hxs2⟩,by dsimp only;omega,bd,?_⟩
   dsimp only
   rw[htake]
   exact ER
  ·refine an ?_
   refine VG (VO.wo (a8.ei (c:=98) 2 Z Z Hw (decode_ascii hc2 yp)) ?_)
   refine Ra ?_
   refine Ow ?_
   refine VG (VQ 0 Z (fun Fr w hF hw _=>eI Fr w p x.2.1 x.2.2 hx0 (bX.st (X:=⟨Tryz.prog,tab,ah,89,_,_⟩) hG hF hw)) Z (ψ:=fun v H=>v=.int .i64 ((jT (x.2.1.headD cO)).getD 0)∧H=xA p (takeN sB x).2.1 (takeN sB x).2.2) yy ?_)
   rintro _ _ ⟨rfl,rfl⟩
   refine an ?_
   refine VG (VO.st 1 (cs':=dR (takeN sB x).1) Z Z Z Z (Zo Z) Z Z ?_)
   refine an ?_
   refine⟨m+1,⟨hm2,hxs2⟩,by dsimp only;omega,bd,?_⟩
   dsimp only
   rw[htake]
   exact ER
  ·refine an ?_
   refine VG (VO.wo (a8.ei (c:=99) 2 Z Z Hw (decode_ascii hc2 yp)) ?_)
   refine Ra ?_
   refine Kj ?_
   refine Ow ?_
   refine VG (VQ 0 Z (fun Fr w hF hw _=>eI Fr w p x.2.1 x.2.2 hx0 (bX.st (X:=⟨Tryz.prog,tab,ah,89,_,_⟩) hG hF hw)) Z (ψ:=fun v H=>v=.int .i64 ((jT (x.2.1.headD cO)).getD 0)∧H=xA p (takeN Qm x).2.1 (takeN Qm x).2.2) yy ?_)
   rintro _ _ ⟨rfl,rfl⟩
   refine an ?_
   refine VG (VO.st 1 (cs':=dR (takeN Qm x).1) Z Z Z Z (Zo Z) Z Z ?_)
   refine an ?_
   refine⟨m+1,⟨hm2,hxs2⟩,by dsimp only;omega,bd,?_⟩
   dsimp only
   rw[htake]
   exact ER
  ·refine an ?_
   refine VG (VO.wo (a8.ei (c:=111) 2 Z Z Hw (decode_ascii hc2 yp)) ?_)
   refine Ra ?_
   refine Kj ?_
   refine Kj ?_
   refine Ow ?_
   refine VG (VQ 0 Z (fun Fr w hF hw _=>eI Fr w p x.2.1 x.2.2 hx0 (bX.st (X:=⟨Tryz.prog,tab,ah,89,_,_⟩) hG hF hw)) Z (ψ:=fun v H=>v=.int .i64 ((jT (x.2.1.headD cO)).getD 0)∧H=xA p (takeN Rg x).2.1 (takeN Rg x).2.2) yy ?_)
   rintro _ _ ⟨rfl,rfl⟩
   refine an ?_
   refine VG (VO.st 1 (cs':=dR (takeN Rg x).1) Z Z Z Z (Zo Z) Z Z ?_)
   refine an ?_
   generalize hgx1:takeN Rg x=x1
   have hx1:∀w∈x1.2.1,w.size≤1000000:=fun w hw=>hx0 w (by rw[←hgx1] at hw;exact Z9 hw)
   refine VG (VQ 0 Z (fun Fr w hF hw _=>eI Fr w p x1.2.1 x1.2.2 hx1 (bX.st (X:=⟨Tryz.prog,tab,ah,89,_,_⟩) hG hF hw)) Z (ψ:=fun v H=>v=.int .i64 ((jT (x1.2.1.headD cO)).getD 0)∧H=xA p (takeN Rh x1).2.1 (takeN Rh x1).2.2) yy ?_)
   rintro _ _ ⟨rfl,rfl⟩
   refine an ?_
   refine VG (VO.st 1 (cs':=dR (takeN Rh x1).1) Z Z Z Z (Zo Z) Z Z ?_)
   refine an ?_
   generalize hgx2:takeN Rh x1=x2
   have hx2:∀w∈x2.2.1,w.size≤1000000:=fun w hw=>hx1 w (by rw[←hgx2] at hw;exact Z9 hw)
   refine VG (VQ 0 Z (fun Fr w hF hw _=>ke Fr w p x2.2.1 x2.2.2 hx2) Z (ψ:=fun v H=>v=.string ((oU (x2.2.1.headD cO)).getD cO)∧H=xA p (lj GC x2).2.1 (lj GC x2).2.2) yy ?_)
   rintro _ _ ⟨rfl,rfl⟩
   refine an ?_
   refine VG (VO.st 1 (cs':=dR (lj GC x2).1) Z Z Z Z (Zo Z) Z Z ?_)
   refine an ?_
   generalize hgx3:lj GC x2=x3
   have hx3:∀w∈x3.2.1,w.size≤1000000:=fun w hw=>hx2 w (by rw[←hgx3] at hw;exact Z9 hw)
   refine VG (VQ 0 Z (fun Fr w hF hw _=>ke Fr w p x3.2.1 x3.2.2 hx3) Z (ψ:=fun v H=>v=.string ((oU (x3.2.1.headD cO)).getD cO)∧H=xA p (lj GD x3).2.1 (lj GD x3).2.2) yy ?_)
   rintro _ _ ⟨rfl,rfl⟩
   refine an ?_
   refine VG (VO.st 1 (cs':=dR (lj GD x3).1) Z Z Z Z (Zo Z) Z Z ?_)
   refine an ?_
   refine⟨m+1,⟨hm2,hxs2⟩,by dsimp only;omega,bd,?_⟩
   dsimp only
   rw[htake,show kC x 111=lj GD x3 by rw[←hgx3,←hgx2,←hgx1];rfl]
   exact ER
 ·obtain rfl:m=(aR k).length:=by omega
  rw[ZF,show zW ib (cH (aR k)) (aR k).length=zW ib (cH (aR k)) (cH (aR k)).size by rw[a7]]
  generalize (aR k).foldl kC X0=x at hlr ⊢
  refine an ?_
  refine VG (VO.wo (a8.II 2 Z Z) ?_)
  refine an ?_
  refine VC.jm Z (CX ?_)
  refine VC.e7 0 Z (aV.rd p x.2.1 x.2.2) ?_
  rintro r ⟨hok,hx⟩
  unfold tw
  refine an ?_
  cases hbad:x.2.2 with
  | true=>
   rw[hbad] at hlr
   refine VG (VY 79 true Z Z ?_)
   refine Dh ?_
   refine U1 ?_
   refine VG (VT (vs:=dR oV) 2 Z Z Z Z (NR _) Z Z Z ?_)
   refine an ?_
   exact XS
  | false=>
   rw[hbad] at hlr
   refine VG (VY 79 false Z Z ?_)
   refine eP ?_
   refine CP (p:=(0:Int)<(r.xs.length:Int)) Z (fun h3=>?_) (fun h3=>CK ?_)
   ·have hne2:x.2.1.isEmpty=false:=by rw[←hx];cases hr:r.xs with
     | nil=>rw[hr] at h3;simp at h3
     | cons y ys=>rfl
    rw[hne2] at hlr
    refine an ?_
    refine U1 ?_
    refine VG (VT (vs:=dR oV) 2 Z Z Z Z (NR _) Z Z Z ?_)
    refine an ?_
    exact XS
   ·have hne2:x.2.1.isEmpty=true:=by rw[←hx];cases hr:r.xs with
     | nil=>rfl
     | cons y ys=>rw[hr] at h3;simp at h3
    rw[hne2] at hlr
    refine an ?_
    refine VG (VL 2 (dR x.1) Z Z Z Z ?_)
    refine VG (VT (vs:=dR x.1) 2 Z Z Z Z (NR _) Z Z Z ?_)
    refine an ?_
    exact CR (ay.aT 2 3 Z Z Z (aE.many (ds:=dR x.1) 2 Z Z) Z ae.nil.ar ⟨rfl,.inl ⟨x.1,by rw[hlr];rfl,Z⟩⟩)
end Scr
namespace Scr
open Go Vg T Api LibC
attribute [local irreducible] VO VC VA
def BY:Nat→List UInt8→List cE→List cE×Int×Int
 | 0,_,acc=>(acc,0,0)
 | f+1,s,acc=>if s=[] then (acc,0,0) else if (Lib.cut s [10]).2.2 then match vl (cH (Lib.cut s [10]).1) with
   | some d=>BY f (Lib.cut s [10]).2.1 (acc ++ [d])
   | none=>([],(acc.length:Int)+1,10)
  else ([],(acc.length:Int)+1,10)
def getM(s:ByteArray):List cE×Int×Int:=BY (s.size+1) s.data.toList []
theorem ay.Ss{X:Cx}{fn:Func}{R:Value→List HP→Prop}{e:Env}{L:List HP}(t u r:Nat)(h:fn.results=#[.tmp t,.tmp u,.tmp r]){v x y:Value}(hv:Vg.look e t=some v)(hx:Vg.look e u=some x)(hy:Vg.look e r=some y){L':List HP}(he:jj X L L')(hR:R (.tuple #[v,x,y]) L'):ay X fn R e L:=
 ⟨_,L',⟨fun a w ha hw=>by
  have h1:=ha.at_ t _ hv
  have h2:=ha.at_ u _ hx
  have h3:=ha.at_ r _ hy
  simp only[Array.getD_eq_getD_getElem?] at h1 h2 h3
  simp[results,h,h1,h2,h3]⟩,he,hR⟩
theorem Fj{s:List UInt8}(h:(Lib.cut s [10]).2.2=true)(hs:s≠[]):(Lib.cut s [10]).2.1.length<s.length∧(Lib.cut s [10]).1.length≤s.length:=by
 unfold Lib.cut at h ⊢
 have:0<s.length:=List.length_pos_iff.2 hs
 split
 ·simp only[Z7,Zw,Zs,List.length_nil];omega
 ·rename_i h1;rw[if_neg h1] at h;cases h
theorem IT{s:List UInt8}:(Lib.cut s [10]).1.length≤s.length:=by
 unfold Lib.cut
 split
 ·simp only[Zw];omega
 ·exact NR _
theorem gU(l:List UInt8):(cH l).data.toList=l:=by simp[cH]
theorem IU(s:ByteArray)(hs:s.size≤1000000)(hG:bX Fr w)(hK:cj Fr w):
  aH Tryz.prog 43 [.string s] Fr w [] (fun v L=>∃a c,v=.tuple #[.slice a (getM s).1.length c,.int .i64 (getM s).2.1,.int .i64 (getM s).2.2]∧L=[aJ 33 8 a (getM s).1.length c (flat dR (getM s).1)]):=by
 refine TF 39 Tryz.func43 Z yn ah Z Z ?_
 refine an ?_
 refine VC.loop (σ:=List cE×List UInt8×Nat×Option Addr×Nat) (fun x=>[(0,.string (cH x.2.1)),(2,.slice x.2.2.2.1 x.1.length x.2.2.2.2),(3,.int .i64 0),(4,.int .i64 0),(5,.int .i64 ((x.1.length+1:Nat):Int))]) (fun x=>[aJ 33 8 x.2.2.2.1 x.1.length x.2.2.2.2 (flat dR x.1)])
  (fun x=>x.1.length+x.2.1.length≤s.size∧x.2.1.length<x.2.2.1∧getM s=BY x.2.2.1 x.2.1 x.1) (fun x=>x.2.1.length) ([],s.data.toList,s.size+1,none,0)
  ⟨by dsimp only;rw[fM];simp,by dsimp only;rw[fM];omega,rfl⟩ (SC (by rw[mu];rfl) bd) (ae.bY ae.nil).ar ?_
 rintro⟨acc,t,f,a1,c1⟩ ⟨hlen,hf,hJ⟩
 dsimp only at hlen hf hJ ⊢
 obtain⟨f,rfl⟩:∃k,f=k+1:=⟨f-1,by omega⟩
 refine an ?_
 refine CC Z (fun h1=>CK ?_) (fun h1=>CX ?_)
 ·have hne:t≠[]:=fun e=>by subst e;rw[mq] at h1;simp[cH] at h1
  rw[BY,if_neg hne] at hJ
  have htl:(cH t).size=t.length:=a7 t
  have hcl:=IT (s:=t)
  refine an ?_
  refine VG (VV (fun Fr w hF hw _=>oT Fr w (cH t) ⟨#[10]⟩ (by rw[htl];omega) (bX.st (X:=⟨Tryz.prog,tab,ah,39,_,_⟩) hG hF hw)) Z ?_)
  rw[gU,show(⟨#[10]⟩:ByteArray).data.toList=[10] from rfl]
  refine an ?_
  refine VG (VK (Lc:=[]) (fun Fr w hF hw _=>Aa Fr w (cH (Lib.cut t [10]).1) Rk (bX.st (X:=⟨Tryz.prog,tab,ah,39,_,_⟩) hG hF hw) (cj.st (X:=⟨Tryz.prog,tab,ah,39,_,_⟩) hK hF hw)) Z Z ?_)
  rintro _ _ ⟨rfl,hcase⟩
  cases hend:(Lib.cut t [10]).2.2 with
  | false=>
   rw[hend,if_neg yf] at hJ
   rcases hcase with ⟨d,hd,rfl⟩ | ⟨hd,rfl⟩<;>
   ·refine an ?_
    refine VG (VO.alloc Z fun db=>?_)
    first | refine VG (VT (vs:=dR oV) 0 rfl rfl rfl rfl (NR _) rfl rfl rfl ?_) | refine VG (VT (vs:=dR _) 0 rfl rfl rfl rfl (NR _) rfl rfl rfl ?_)
    refine an ?_
    refine VG (VY 28 true Z Z ?_)
    refine Dh ?_
    exact XT
  | true=>
   rw[hend,if_pos rfl] at hJ
   have hct:=Fj hend hne
   rcases hcase with ⟨d,hd,rfl⟩ | ⟨hd,rfl⟩
   ·rw[hd] at hJ
    refine an ?_
    refine VG (VO.alloc Z fun db=>?_)
    refine VG (VT (vs:=dR d) 0 Z Z Z Z (NR _) Z Z Z ?_)
    refine an ?_
    refine VG (VY 28 false Z Z ?_)
    refine J4 ?_
    refine an ?_
    refine Rz ?_
    refine VG (VO.buildSlice (n:=1) (pv:=[(0,.agg (dR d).toArray)]) (dR d) Z Z Z Z yp (bM Z Z Z) fun nb=>?_)
    refine VG (VO.append (m:=1) (news:=dR d) 2 Z Z Z Z Z Z Z (dq.pt 0 Z Z Z) Z (by show(acc.length+1)*80≤_;omega) yd fun a2 c2 hc2=>?_)
    refine sd ?_
    have hL:(acc ++ [d]).length=acc.length+1:=by simp
    have hF:flat dR (acc ++ [d])=flat dR acc++dR d:=by simp[bf,bL,e_]
    refine⟨(acc ++ [d],(Lib.cut t [10]).2.1,f,a2,c2),⟨by dsimp only;omega,by dsimp only;omega,hJ⟩,by dsimp only;omega,SC Z (SC Rn (SC Z (SC Z (SC Rn (SN _))))),?_⟩
    dsimp only
    rw[hL,hF]
    exact(IP 0 Z ae.nil).ar
   ·rw[hd] at hJ
    refine an ?_
    refine VG (VO.alloc Z fun db=>?_)
    refine VG (VT (vs:=dR oV) 0 Z Z Z Z (NR _) Z Z Z ?_)
    refine an ?_
    refine VG (VY 28 false Z Z ?_)
    refine Dh ?_
    exact XT
 ·have he:t=[]:=by
   cases t with
   | nil=>rfl
   | cons x t=>exfalso;revert h1;rw[mq];simp[cH]
  subst he
  rw[BY,if_pos rfl] at hJ
  rw[hJ]
  refine an ?_
  exact CR (ay.Ss 2 3 4 Z Z Z Z ER ⟨a1,c1,Z,Z⟩)
end Scr
namespace Scr
open Go Vg T Api LibC
attribute [local irreducible] VO VC VA
deriving instance DecidableEq for e8
deriving instance DecidableEq for cE
def D7(o p:e8):Bool:=decide (o.kind=p.kind)&&(decide (o.key=p.key)&&(decide (o.value=p.value)&&(decide (o.version=p.version)&&true)))
theorem stood:Tryz.prog.stoodInHeld 31=false:=by kernel_rfl
theorem Qn:Tryz.prog.eqGuardType Tryz.prog.depth 31=false:=by kernel_rfl
theorem Su(o p:e8)(w:World):(Op.equal 31 (.agg o.cells.toArray) (.agg p.cells.toArray)).run Tryz.prog w=.ok (D7 o p) w:=by
 have hi:∀(cs:List Value) (j:Nat) (n:Int),cs[j]?=some (.int .i64 n)→∀w:World,(part 3 cs.toArray j).run Tryz.prog w=.ok (.int .i64 n) w:=fun cs j n h w=>pT (nK.look ah (t:=3) (ti:=T.t3) rfl) rfl h w
 have hs:∀(cs:List Value) (j:Nat) (s:ByteArray),cs[j]?=some (.string s)→∀w:World,(part 9 cs.toArray j).run Tryz.prog w=.ok (.string s) w:=fun cs j n h w=>pT (nK.look ah (t:=9) (ti:=T.t9) rfl) rfl h w
 refine uv.run (uv.st Tryz.underlying31 stood (qT.cons yp (hi _ _ _ Z) (hi _ _ _ Z) (uv.int Tryz.underlying3 o.kind p.kind) (qT.cons yp (hs _ _ _ Z) (hs _ _ _ Z) (uv.str Tryz.underlying9 o.key p.key) (qT.cons yp (hs _ _ _ Z) (hs _ _ _ Z) (uv.str Tryz.underlying9 o.value p.value) (qT.cons yp (hi _ _ _ Z) (hi _ _ _ Z) (uv.int Tryz.underlying3 o.version p.version) qT.nil))))) yp w
def rI(d e:cE)(c:UInt8):Bool:=
 if c=97 then d.a != e.a else if c=98 then d.b != e.b else if c=99 then d.c != e.c else !D7 d.op e.op
def rJ(d e:cE):Bool:=lM d.kind&&d.kind == e.kind&&(aR d.kind.toNat).all fun c=>!rI d e c
theorem xE(d e:cE)(hK:cj Fr w):
  aH Tryz.prog 8 [.agg (dR d).toArray,.agg (dR e).toArray] Fr w [] (fun v L=>v=.bool (rJ d e)∧L=[]):=by
 refine TF 64 Tryz.func8 Z yn ah Z Z ?_
 refine CS (CG (VG (VB (vs:=dR d) Z fun db=>VG (VB (vs:=dR e) Z fun eb=>?_))))
 refine VG (VN (CS (CS ?_)))
 refine VC.cq (σ:=Bool) (fun t=>[(2,pV db),(3,pV eb),(17,.bool t)]) (fun _=>[pt eb (dR e) 33,pt db (dR d) 33]) (fun t=>t=!(lM d.kind&&d.kind == e.kind)) ?_ ?_
 ·refine CG ?_
  refine jA ?_
  refine VG (VO.ic (fun Fr w=>oW Fr w d.kind) Z ?_)
  refine an ?_
  cases hk:lM d.kind with
  | false=>
   refine VG (VY 11 true Z Z ?_)
   refine eP ?_
   exact⟨_,Z,SC Z (SC Z (SC Z (SN _))),ER⟩
  | true=>
   refine VG (VY 11 false Z Z ?_)
   refine wu ?_
   exact⟨_,by simp[bne],SC Z (SC Z (SC Z (SN _))),ER⟩
 intro t ht
 refine CC Z (fun h1=>?_) (fun h1=>CK ?_)
 ·have h2:(lM d.kind&&d.kind == e.kind)=false:=by rw[h1] at ht;cases hh:(lM d.kind&&d.kind == e.kind) with
   | false=>rfl
   | true=>rw[hh] at ht;cases ht
  refine an ?_
  exact CR (ay.bool 4 Z Z (by rw[rJ,h2];rfl) ae.nil.ar ⟨rfl,Z⟩)
 have h2:(lM d.kind&&d.kind == e.kind)=true:=by rw[h1] at ht;cases hh:(lM d.kind&&d.kind == e.kind) with
  | true=>rfl
  | false=>rw[hh] at ht;cases ht
 obtain⟨k,hk,hk1,hk2⟩:=jU (Bool.and_eq_true_iff.1 h2).1
 have hsm:rJ d e=(aR k).all fun c=>!rI d e c:=by rw[rJ,h2,hk];rfl
 refine jA ?_
 refine UY ?_
 refine an ?_
 refine UZ ?_
 refine U0 ?_
 rintro _ _ ⟨ib,rfl,rfl⟩
 refine an ?_
 refine VC.loop (σ:=Nat) (fun m=>[(2,pV db),(3,pV eb),(23,pV ib)])
  (fun m=>[zW ib (cH (aR k)) m,pt eb (dR e) 33,pt db (dR d) 33]) (fun m=>m≤(aR k).length∧∀c∈(aR k).take m,rI d e c=false) (fun m=>(aR k).length-m) 0
  ⟨Zj _,by simp⟩ bd ER ?_
 rintro m ⟨hm,hall⟩
 by_cases hm2:m<(aR k).length
 ·obtain⟨c,hc⟩:∃c,(aR k)[m]?=some c:=⟨_,GE hm2⟩
  have hc2:(cH (aR k)).data.toList[m]?=some c:=by show(aR k).toArray.toList[m]?=_;simpa using hc
  have hcm:=ME hc
  have hno:rI d e c=true→rJ d e=false:=fun hd=>by
   rw[hsm,Bool.eq_false_iff]
   intro ha
   have:=ZR.1 ha c hcm
   rw[hd] at this;cases this
  have hstep:rI d e c=false→∀x∈(aR k).take (m+1),rI d e x=false:=fun hd x hx=>by
   rw[Zu,hc] at hx
   rcases Zq.1 hx with hx | hx
   ·exact hall x hx
   ·simp at hx;rw[hx];exact hd
  rcases z_ k yd c hcm with rfl | rfl | rfl | rfl
  ·refine an ?_
   refine VG (VO.wo (a8.ei (c:=97) 0 Z Z Hw (decode_ascii hc2 yp)) ?_)
   refine Pb ?_
   refine VG (VY 30 true Z Z ?_)
   refine pP ?_
   refine CC (t:=d.a != e.a) Z (fun hd=>CK ?_) (fun hd=>?_)
   ·refine VC.kk Ur ?_
    refine an ?_
    exact CR (ay.bool 4 Z Z (hno (show(d.a != e.a)=true from hd)).symm ae.nil.ar ⟨rfl,Z⟩)
   ·refine an ?_
    refine VG (VY 39 false Z Z ?_)
    refine Kn ?_
    refine VG (VY 48 false Z Z ?_)
    refine Kn ?_
    refine Rx ?_
    refine pP ?_
    refine r_ ?_
    exact⟨m+1,⟨hm2,hstep (show(d.a != e.a)=false from hd)⟩,by dsimp only;omega,bd,ER⟩
  ·refine an ?_
   refine VG (VO.wo (a8.ei (c:=98) 0 Z Z Hw (decode_ascii hc2 yp)) ?_)
   refine Pb ?_
   refine VG (VY 30 false Z Z ?_)
   refine Kn ?_
   refine VG (VY 39 true Z Z ?_)
   refine pP ?_
   refine CC (t:=d.b != e.b) Z (fun hd=>CK ?_) (fun hd=>?_)
   ·refine VC.kk Ur ?_
    refine an ?_
    exact CR (ay.bool 4 Z Z (hno (show(d.b != e.b)=true from hd)).symm ae.nil.ar ⟨rfl,Z⟩)
   ·refine an ?_
    refine VG (VY 48 false Z Z ?_)
    refine Kn ?_
    refine Rx ?_
    refine pP ?_
    refine r_ ?_
    exact⟨m+1,⟨hm2,hstep (show(d.b != e.b)=false from hd)⟩,by dsimp only;omega,bd,ER⟩
  ·refine an ?_
   refine VG (VO.wo (a8.ei (c:=99) 0 Z Z Hw (decode_ascii hc2 yp)) ?_)
   refine Pb ?_
   refine VG (VY 30 false Z Z ?_)
   refine Kn ?_
   refine VG (VY 39 false Z Z ?_)
   refine Kn ?_
   refine VG (VY 48 true Z Z ?_)
   refine pP ?_
   refine CC (t:=d.c != e.c) Z (fun hd=>CK ?_) (fun hd=>?_)
   ·refine VC.kk Ur ?_
    refine an ?_
    exact CR (ay.bool 4 Z Z (hno (show(d.c != e.c)=true from hd)).symm ae.nil.ar ⟨rfl,Z⟩)
   ·refine an ?_
    refine Rx ?_
    refine pP ?_
    refine r_ ?_
    exact⟨m+1,⟨hm2,hstep (show(d.c != e.c)=false from hd)⟩,by dsimp only;omega,bd,ER⟩
  ·refine an ?_
   refine VG (VO.wo (a8.ei (c:=111) 0 Z Z Hw (decode_ascii hc2 yp)) ?_)
   refine Pb ?_
   refine VG (VY 30 false Z Z ?_)
   refine Kn ?_
   refine VG (VY 39 false Z Z ?_)
   refine Kn ?_
   refine VG (VY 48 false Z Z ?_)
   refine Kn ?_
   refine VG (VY 57 true Z Z ?_)
   refine pP ?_
   refine VG (VL 2 d.op.cells Z Z Z Z ?_)
   refine pP ?_
   refine VG (VL 1 e.op.cells Z Z Z Z ?_)
   refine VG (VI (F1 Qn Z Z (Su d.op e.op)) ?_)
   refine pP ?_
   refine CC (t:=!D7 d.op e.op) Z (fun hd=>?_) (fun hd=>CK ?_)
   ·refine an ?_
    exact CR (ay.bool 4 Z Z (hno (show(!D7 d.op e.op)=true from hd)).symm ae.nil.ar ⟨rfl,Z⟩)
   ·exact⟨m+1,⟨hm2,hstep (show(!D7 d.op e.op)=false from hd)⟩,by dsimp only;omega,bd,ER⟩
 ·obtain rfl:m=(aR k).length:=by omega
  rw[ZF] at hall
  rw[show zW ib (cH (aR k)) (aR k).length=zW ib (cH (aR k)) (cH (aR k)).size by rw[a7]]
  refine an ?_
  refine VG (VO.wo (a8.II 0 Z Z) ?_)
  refine an ?_
  refine VC.jm Z (CX ?_)
  refine an ?_
  exact CR (ay.bool 4 Z Z (by rw[hsm];exact(ZR.2 fun c hc=>by rw[hall c hc];rfl).symm) ae.nil.ar ⟨rfl,Z⟩)
end Scr
namespace Scr
open Go Vg T Api LibC
theorem rK(t:ByteArray):(pN t).data.toList=58::mv t.data.toList:=by rw[pN,gU]
end Scr
end Go.Proofs.YthnlpdacbcjgpaaGreatDoor
