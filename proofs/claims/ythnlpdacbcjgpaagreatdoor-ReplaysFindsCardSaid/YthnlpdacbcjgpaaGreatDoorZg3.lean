/- Texts of the proof, put together and shortened. No condition. -/
import Derived.Test.YthnlpdacbcjgpaaGreatDoorZg2
set_option maxRecDepth 100000
set_option maxHeartbeats 16000000
set_option linter.unusedVariables false
set_option linter.unusedSectionVars false
set_option linter.unusedSimpArgs false
namespace Go.Proofs.YthnlpdacbcjgpaaGreatDoor
variable (Fr : Nat → Prop) (w : World)
namespace Adm
open Go Vg T Api Sched Conf
attribute [local irreducible] VO VC VA
def IQ(n:Int)(f:aa):Prop:=(0≤f.aj∧f.aj<n)∧ng f.seq=true∧ng f.ct=true
def aD.Calls(A:aD):Prop:=∀q∈A.bP.qs,∀f∈q,IQ A.aB f
def aD.out(A:aD)(f:aa):aD:=(A.fL f.aj 0).lM f.aj f.seq f.ct
def aD.uY(A:aD)(l:List aa):aD:=l.foldl aD.out A
def aD.cu(A:aD)(now:Int):aD:=(A.bF (A.bP.mm now)).uY (A.bP.cB now)
theorem aD.Wf.out{A:aD}(h:A.Wf)(f:aa):(A.out f).Wf:=(h.fL _ _).lM _ _ _
theorem nh(A:aD)(k s t:Int):(A.lM k s t).aB=A.aB:=by unfold aD.lM;split<;>rfl
theorem BR(A:aD)(k s t:Int):(A.lM k s t).bP=A.bP:=by unfold aD.lM;split<;>rfl
theorem BS(A:aD)(f:aa):(A.out f).aB=A.aB:=by rw[aD.out,nh];rfl
theorem NM(A:aD)(f:aa):(A.out f).bP=A.bP:=by rw[aD.out,BR];rfl
theorem qz:∀(l:List aa) {A:aD},A.Wf→(A.uY l).Wf∧(A.uY l).aB=A.aB∧(A.uY l).bP=A.bP
 | [],A,h=>⟨h,rfl,rfl⟩
 | f::l,A,h=>by
  have:=qz l (h.out f)
  rw[BS,NM] at this
  exact this
theorem GG(A:aD)(l:List aa)(f:aa):A.uY (l ++ [f])=(A.uY l).out f:=by simp[aD.uY]
theorem NN(S:aA)(now:Int):(S.mm now).cls.length=S.cls.length:=by simp[aA.mm]
theorem ir{A:aD}(h:A.Wf)(now:Int):(A.cu now).Wf∧(A.cu now).aB=A.aB∧(A.cu now).bP=A.bP.mm now:=
 qz _ (h.bF (IF h.bP now))
theorem Ad{A:aD}(hc:A.Calls)(now:Int):∀f∈A.bP.cB now,IQ A.aB f:=fun f hf=>by
 rw[NF] at hf
 obtain⟨q,hq,hf⟩:=List.mem_flatMap.1 hf
 exact hc q hq f (Z6.1 hf).1
theorem QC{A:aD}{f:aa}(h:IQ A.aB f):(A.fp f.aj f.seq f.ct)=(0,A.lM f.aj f.seq f.ct):=by
 have h1:A.has f.aj=true:=by simp[aD.has,h.1]
 simp[aD.fp,h1,h.2.1,h.2.2]
theorem GH{A:aD}(now:Int)(sp:Nat):eD A sp=eD (A.bF (A.bP.mm now)) sp:=by
 simp only[eD,aD.bF,NN]
def IS(p:Nat)(A:aD)(gs:List aa)(v:Value)(L:List HP):Prop:=∃r:RL FM,r.Ok cG 29∧r.xs.map Prod.fst=gs∧v=r.v∧L=[r.h 204,bw p A]
theorem im(p:Nat)(A:aD)(now:Int)(hC:A.Calls):aH Tryz.prog 231 [.pointer (some ⟨p,0,none⟩),.int .i64 now] Fr w [bw p A] (IS p (A.cu now) (A.bP.cB now)):=by
 refine TF 36 Tryz.func231 Z yn ah Z Z ?_
 refine VC.e_ 0 Z (aW.bK p A) fun sp h=>?_
 refine CN (L':=uT p A sp) (ae.of_eq (ZN _)).ar ?_
 have hwf:=h.bF (IF h.bP now)
 refine Du ?_
 refine VC.meet (σ:=RL FM) (fun r=>[(0,pV p),(5,r.v)]) (fun r=>[r.h 204,bw p (A.bF (A.bP.mm now))]) (fun r=>r.Ok cG 29∧r.xs.map Prod.fst=A.bP.cB now) ?_ ?_
 ·refine an ?_
  refine VO.ar (L':=[iz sp A.bP,pt p (eD A sp) 186]) (ae.perm (List.Perm.swap _ _ _)).ar ?_
  refine VG (VK (Lc:=[iz sp A.bP]) (fun Fr w _ _ _=>Sched.im Fr w sp A.bP now) Z Z ?_)
  rintro _ _ ⟨a,c,gs,hgs,rfl,rfl⟩
  refine VO.e_ 1 Z (aW.rl _ a c gs mW) fun r ⟨hok,hv,hx⟩=>?_
  refine VG (VN ⟨r,⟨hok,by rw[hx,hgs]⟩,SC Z (SC (by rw[hv];rfl) (SN _)),?_⟩)
  refine(ae.cons (gy sp hwf ?_)).ar
  show ae [iz sp (A.bP.mm now),pt p (eD A sp) 186] _
  rw[GH now sp]
  exact ae.perm (List.Perm.swap _ _ _)
 rintro r ⟨hok,hgs⟩
 have hgok:=Ad hC now
 have hfew:=h.bP.Qy A.bP.cls.length now
 rw[Z'] at hfew
 have hl:r.xs.length≤64:=by
  have:=congrArg List.length hgs
  rw[ZR] at this
  rw[this];exact hfew
 refine an ?_
 refine VC.loop (σ:=Nat) (fun i=>[(0,pV p),(5,r.v),(14,r.v),(15,.int .i64 r.xs.length),(16,.int .i64 i)]) (fun i=>[r.h 204,bw p ((A.bF (A.bP.mm now)).uY ((A.bP.cB now).take i))]) (fun i=>i≤r.xs.length) (fun i=>r.xs.length-i) 0 (ZO _) ba ER ?_
 intro i hi
 refine an ?_
 refine CP Z (fun h1=>CK ?_) (fun h1=>CX ?_)
 ·have hi2:i<r.xs.length:=by omega
  obtain⟨⟨f,m⟩,hx⟩:∃x,r.xs[i]?=some x:=⟨_,GE hi2⟩
  obtain⟨bk,off,hbk,had,hrow⟩:=hok.nth hx
  have hg:(A.bP.cB now)[i]?=some f:=by rw[←hgs,ZS,hx];rfl
  have hf:=hgok f (ME hg)
  have htake:(A.bP.cB now).take (i+1)=(A.bP.cB now).take i ++ [f]:=by rw[ZZ,hg];rfl
  obtain⟨hAwf,hAc,hAs⟩:=qz ((A.bP.cB now).take i) hwf
  have hnext:(A.bF (A.bP.mm now)).uY ((A.bP.cB now).take (i+1))=((A.bF (A.bP.mm now)).uY ((A.bP.cB now).take i)).out f:=by rw[htake,GG]
  generalize hB:(A.bF (A.bP.mm now)).uY ((A.bP.cB now).take i)=B at hAwf hAc hAs ⊢
  have hBc:B.aB=A.aB:=hAc
  obtain⟨n,hcl⟩:=Int.eq_ofNat_of_zero_le hf.1.1
  have hn:n<6:=by have:=hf.1.2;have:=h.c1;omega
  have hv:r.v=.slice (some ⟨bk,off,none⟩) r.xs.length r.cap:=by rw[RL.v,had]
  have hv':some r.v=some (.slice (some ⟨bk,off,none⟩) r.xs.length r.cap):=by rw[hv]
  refine VC.e_ 1 Z (aW.bK p B) fun sp2 h2=>?_
  refine CN (L':=pt p (eD B sp2) 186::iz sp2 B.bP::r.h 204 :: []) ER ?_
  rw[RL.PN hbk]
  refine CS (VC.block ?_)
  refine CS (CG ?_)
  refine VG (VI (a_ i hv' Z Z Z Z Z hi2) ?_)
  refine VG (VO.load Z Z (v:=.agg (cG (f,m)).toArray) (aE.many 2 Z hrow) ?_)
  refine VG (VO.alloc Z fun b7=>VG (VT (vs:=cG (f,m)) (cs':=cG (f,m)) 0 Z Z Z Z (NR _) Z Z Z (VG (VN ?_))))
  refine TU ?_
  refine eW ?_
  refine T8 ?_
  refine AG (VA.st 1 Z Z Z Z Z (by rw[sK h2];show 0+15+n*1<21;omega) (cs':=eD (B.fL n 0) sp2) (D2 h2 hn 0) Z yu (AG (AN ?_)))
  refine CG ?_
  refine VO.ar (L':=[pt b7 (cG (f,m)) 204,bw p (B.fL n 0),pt bk r.cells 204]) (ae.cons (ae.trans (ae.perm (List.perm_append_comm (l₁:=[_,_]) (l₂:=[_]))) (ae.trans (ae.cons (gy sp2 (h2.fL n 0) ae.refl)) (ae.perm (List.Perm.swap _ _ _))))).ar ?_
  refine VG (VO.ld 0 Z Z Z Z (VG (VO.ld 0 Z Z Z Z (VG (VO.ld 0 Z Z Z Z ?_)))))
  refine VG (VQ 1 (ψ:=fun v H=>H=bw p (B.out f)) Z (fun Fr w _ _ _=>rE Fr w p (B.fL n 0) _ _ _) Z (fun v L1 h=>⟨_,h.2,?_⟩) ?_)
  ·have e:B.fL n 0=B.fL f.aj 0:=by rw[hcl]
   have:=QC (A:=B.fL f.aj 0) (f:=f) (by show IQ B.aB f;rw[hBc];exact hf)
   rw[e]
   show bw p ((B.fL f.aj 0).fp f.aj f.seq f.ct).2=_
   rw[this];rfl
  rintro _ _ rfl
  refine Bd ?_
  refine sh ?_
  refine⟨i+1,hi2,by dsimp only;omega,ba,?_⟩
  dsimp only
  rw[hnext,hB]
  exact(ae.trans ae.tl (ae.perm (List.Perm.swap _ _ _))).ar
 ·have hi2:i=r.xs.length:=by omega
  subst hi2
  have e:(A.bP.cB now).take r.xs.length=A.bP.cB now:=by rw[List.take_of_length_le];rw[←hgs];simp
  rw[e]
  refine an ?_
  exact CR (ay.tmp 4 Z Z ER ⟨r,hok,hgs,Z,Z⟩)
def aD.dA(A:aD)(now:Int):aD:=
 if (eP (A.cu now).bP).2.1 then ((A.cu now).bF (eP (A.cu now).bP).2.2).fL (eP (A.cu now).bP).1.aj 0 else (A.cu now).bF (eP (A.cu now).bP).2.2
theorem pw{A:aD}(h:A.Wf)(hC:A.Calls)(now:Int):(A.cu now).Calls:=by
 obtain⟨_,h2,h3⟩:=ir h now
 intro q hq f hf
 rw[h3,IE] at hq
 obtain⟨q0,hq0,rfl⟩:=Z0.1 hq
 rw[h2]
 exact hC q0 hq0 f (Z6.1 hf).1
theorem wS{A:aD}{S:aA}(hl:S.cls.length=A.bP.cls.length)(sp:Nat):eD A sp=eD (A.bF S) sp:=by
 simp only[eD,aD.bF,hl]
theorem NO{A:aD}(h:A.Wf)(now:Int):(A.dA now).Wf:=by
 obtain⟨h1,_,_⟩:=ir h now
 unfold aD.dA
 split
 ·exact(h1.bF (Ac h1.bP)).fL _ _
 ·exact h1.bF (Ac h1.bP)
def Pb(p:Nat)(A:aD)(now:Int)(v:Value)(L:List HP):Prop:=∃(r:RL FM) (m:Ik),r.Ok cG 29∧r.xs.map Prod.fst=A.bP.cB now∧v=.tuple #[.agg (cG ((eP (A.cu now).bP).1,m)).toArray,.bool (eP (A.cu now).bP).2.1,r.v]∧L=[r.h 204,bw p (A.dA now)]
theorem gG(p:Nat)(A:aD)(now:Int)(hw:A.Wf)(hC:A.Calls):aH Tryz.prog 165 [.pointer (some ⟨p,0,none⟩),.int .i64 now] Fr w [bw p A] (Pb p A now):=by
 refine TF 31 Tryz.func165 Z yn ah Z Z ?_
 refine CS (CG (VG (VO.alloc Z fun b=>VG (VN ?_))))
 refine an ?_
 refine VG (VV (u:=.bool false) (fun Fr w hF _ hs=>by
  obtain⟨sp,h⟩:=xL.of (hs.at_ 1 rfl)
  exact bj Fr w h.UB) Z (VG (VN (VC.jt Z (CK ?_)))))
 refine an ?_
 refine VO.ar (L':=[bw p A,pt b (cG oe) 204]) (ae.perm (List.Perm.swap _ _ _)).ar ?_
 refine VG (VK (Lc:=[bw p A]) (fun Fr w _ _ _=>im Fr w p A now hC) Z Z ?_)
 rintro _ _ ⟨r,hok,hgs,rfl,rfl⟩
 obtain⟨hE,hEc,hEs⟩:=ir hw now
 have hEC:=pw hw hC now
 have hnext:A.dA now=if (eP (A.cu now).bP).2.1 then ((A.cu now).bF (eP (A.cu now).bP).2.2).fL (eP (A.cu now).bP).1.aj 0 else (A.cu now).bF (eP (A.cu now).bP).2.2:=rfl
 have hR:∀(m:Ik),Pb p A now (.tuple #[.agg (cG ((eP (A.cu now).bP).1,m)).toArray,.bool (eP (A.cu now).bP).2.1,r.v]) [r.h 204,bw p (A.dA now)]:=fun m=>⟨r,m,hok,hgs,rfl,rfl⟩
 rw[hnext] at hR
 clear hnext
 generalize A.cu now=B at hE hEc hEs hEC hR ⊢
 refine Bd ?_
 refine VC.e_ 1 Z (aW.bK p B) fun sp h=>?_
 refine CN (L':=[pt p (eD B sp) 186,iz sp B.bP,r.h 204,pt b (cG oe) 204]) ER ?_
 refine an ?_
 refine VG (VQ 1 (ψ:=fun v H=>(∃m,v=.tuple #[.agg (cG ((eP B.bP).1,m)).toArray,.bool (eP B.bP).2.1])∧H=iz sp (eP B.bP).2.2) Z (fun Fr w _ _ _=>Sched.NA Fr w sp B.bP h.bP) Z (fun v L1 h=>QB h) ?_)
 rintro _ _ ⟨⟨m,rfl⟩,rfl⟩
 refine VG (VT (vs:=cG ((eP B.bP).1,m)) (cs':=cG ((eP B.bP).1,m)) 3 Z Z Z Z (NR _) Z Z Z (VG (VN ?_)))
 have hS1:=Ac h.bP
 have hwf:=h.bF hS1
 have hcs:=wS (IN h.bP) sp
 refine an ?_
 refine CC Z (fun h1=>?_) (fun h1=>CK ?_)
 ·obtain⟨k,q,hk,_⟩:=uj h.bP h1
  have hf:IQ B.aB (eP B.bP).1:=hEC _ (ME hk) _ yf
  obtain⟨n,hcl⟩:=Int.eq_ofNat_of_zero_le hf.1.1
  have hn:n<6:=by have:=hf.1.2;have:=h.c1;omega
  rw[if_pos h1,hcl] at hR
  refine T7 ?_
  refine t_ ?_
  refine T8 ?_
  refine AG (VA.st 0 Z Z Z Z Z Xj (cs':=eD ((B.bF (eP B.bP).2.2).fL n 0) sp) (by rw[hcs];exact D2 hwf hn 0) Z yu (AG (AN ?_)))
  refine CS (CG ?_)
  refine VG (VL 3 (cG ((eP B.bP).1,m)) Z Z Z Z (VG (VT (vs:=cG ((eP B.bP).1,m)) (cs':=cG ((eP B.bP).1,m)) 3 Z Z Z Z (NR _) Z Z Z (VG (VN ?_)))))
  refine CR (ay.uD 4 5 6 Z Z Z (aE.many 3 Z Z) Z Z (L':=[r.h 204,bw p ((B.bF (eP B.bP).2.2).fL n 0)]) ?_ (hR m))
  exact(IP 2 Z (gy sp (hwf.fL n 0) (ae.app (L:=[_,_]) (M:=[_,_]) ae.refl ae.nil))).ar
 ·rw[if_neg KF] at hR
  refine CS (CG ?_)
  refine VG (VL 3 (cG ((eP B.bP).1,m)) Z Z Z Z (VG (VT (vs:=cG ((eP B.bP).1,m)) (cs':=cG ((eP B.bP).1,m)) 3 Z Z Z Z (NR _) Z Z Z (VG (VN ?_)))))
  refine CR (ay.uD 4 5 6 Z Z Z (aE.many 3 Z Z) Z Z (L':=[r.h 204,bw p (B.bF (eP B.bP).2.2)]) ?_ (hR m))
  rw[hcs]
  exact(IP 2 Z (gy sp hwf (ae.app (L:=[_,_]) (M:=[_,_]) ae.refl ae.nil))).ar
theorem qt(p:Nat)(A:aD)(hC:A.Calls):aH Tryz.prog 254 [.pointer (some ⟨p,0,none⟩)] Fr w [bw p A] (IS p (A.cu 9223372036854775807) (A.bP.cB 9223372036854775807)):=by
 refine TF 7 Tryz.func254 Z yn ah Z Z ?_
 refine an ?_
 refine VG (VV (u:=.bool false) (fun Fr w hF _ hs=>by
  obtain⟨sp,h⟩:=xL.of (hs.at_ 0 rfl)
  exact bj Fr w h.UB) Z (VG (VN (VC.jt Z (CK ?_)))))
 refine an ?_
 refine VG (VK (Lc:=[bw p A]) (fun Fr w _ _ _=>im Fr w p A _ hC) Z Z ?_)
 rintro _ _ ⟨r,hok,hgs,rfl,rfl⟩
 refine Bd ?_
 exact CR (ay.tmp 2 Z Z ER ⟨r,hok,hgs,Z,Z⟩)
end Adm
namespace Adm
open Go Vg T Api Sched Conf
attribute [local irreducible] VO VC VA
theorem IT{A:aD}(h:A.Wf)(f:aa)(now:Int):(A.e7 f now).2.Wf:=by
 unfold aD.e7
 repeat' split
 all_goals first | exact h | exact(h.cO f now).fp _ _ _ | exact h.cO f now
theorem Ae(A:aD)(k s t:Int):(A.fp k s t).2.aB=A.aB:=by unfold aD.fp;split;exact nh _ _ _ _;rfl
theorem IU(A:aD)(k s t:Int):(A.fp k s t).2.bP=A.bP:=by unfold aD.fp;split;exact BR _ _ _ _;rfl
theorem rF(A:aD)(f:aa)(now:Int):(A.cO f now).2.aB=A.aB:=by
 unfold aD.cO
 repeat' split
 all_goals rfl
theorem wT(A:aD)(f:aa)(now:Int):(A.e7 f now).2.aB=A.aB:=by
 unfold aD.e7
 repeat' split
 all_goals first | rfl | (rw[Ae];exact rF A f now) | exact rF A f now
theorem IV(A:aD)(f:aa)(now:Int):(A.cO f now).2.bP=A.bP∨(A.cO f now).2.bP=(A.bP.eA f).2:=by
 unfold aD.cO
 repeat' split
 all_goals first | exact .inl rfl | exact .inr rfl
theorem NP{A:aD}{f:aa}(h:A.may f=true):(∃k:Nat,f.cls=k∧k<A.bP.cls.length)∧a6 f.op=0:=by
 simp only[aD.may,Z2,decide_eq_true_eq,beq_iff_eq] at h
 obtain⟨n,hn⟩:=Int.eq_ofNat_of_zero_le h.1.1.1.1.1.2
 exact⟨⟨n,hn,by have:=h.1.1.1.1.2;omega⟩,h.1.2⟩
theorem D3{n:Int}{S:aA}{f:aa}(hC:∀q∈S.qs,∀g∈q,IQ n g)(hf:IQ n f){k:Nat}(hk:f.cls=k)(hlt:k<S.cls.length)(ho:a6 f.op=0):∀q∈(S.eA f).2.qs,∀g∈q,IQ n g:=by
 have hc:S.qs[k]?=some (S.cls[k].q):=by simp[aA.qs,GE hlt]
 obtain⟨_,h2,_⟩:=ND hk hc ho
 rw[h2]
 split
 ·intro q hq g hg
  rcases List.mem_or_eq_of_mem_set hq with hq | rfl
  ·exact hC q hq g hg
  ·rcases ZY.1 hg with hg | hg
   ·exact hC _ (ME hc) g hg
   ·obtain rfl:=Z7.1 hg;exact hf
 ·exact hC
theorem BT{A:aD}(hC:A.Calls)(f:aa)(now:Int):(A.e7 f now).2.Calls:=by
 intro q hq g hg
 rw[wT]
 have key:A.may f=true→∀q∈(A.cO f now).2.bP.qs,∀g∈q,IQ A.aB g:=fun hm=>by
  obtain⟨⟨k,hk,hlt⟩,ho⟩:=NP hm
  obtain⟨h1,h2,h3⟩:=uW hm
  rcases IV A f now with e | e
  ·rw[e];exact hC
  ·rw[e];exact D3 hC ⟨of_decide_eq_true h1,h2,h3⟩ hk hlt ho
 unfold aD.e7 at hq
 split at hq
 ·rename_i hm
  split at hq
  ·rw[IU] at hq;exact key hm q hq g hg
  ·exact key hm q hq g hg
 ·exact hC q hq g hg
theorem GJ{n:Int}{S:aA}(h:S.Wf)(hC:∀q∈S.qs,∀g∈q,IQ n g):∀q∈(eP S).2.2.qs,∀g∈q,IQ n g:=by
 cases ho:(eP S).2.1 with
 | true=>
  obtain⟨k,q,h1,h2⟩:=uj h ho
  rw[h2]
  intro q' hq' g hg
  rcases List.mem_or_eq_of_mem_set hq' with hq' | rfl
  ·exact hC q' hq' g hg
  ·exact hC _ (ME h1) g (List.mem_cons_of_mem _ hg)
 | false=>rw[(NL h ho).2];exact hC
theorem D4{A:aD}(h:A.Wf)(hC:A.Calls)(now:Int):(A.dA now).Calls:=by
 obtain⟨h1,h2,h3⟩:=ir h now
 have:=GJ h1.bP (pw h hC now)
 unfold aD.dA
 split<;>exact this
theorem D5(c:aV):(uV c).Calls:=by
 intro q hq g hg
 simp only[uV,aA.qs,aA.new,List.map_map,Z0] at hq
 obtain⟨x,_,rfl⟩:=hq
 simp[jK] at hg
theorem ff{x lo hi:Int}(h:lo≤hi):aw (aw x lo hi) lo hi=aw x lo hi:=GD (fE h).1 (fE h).2
theorem GK(qs:List Int):gq (gq qs)=gq qs:=by
 have h:=oG qs
 have h1:bR (gq qs)=gq qs:=by
  have e:(gq qs).take 4=gq qs:=List.take_of_length_le h.2
  unfold bR
  rw[e,if_neg]
  intro e2;rw[e2] at h;simp at h
 have h2:(gq qs).map iq=gq qs:=by
  have:∀x∈gq qs,iq x=x:=fun x hx=>by
   obtain⟨y,_,rfl⟩:=Z0.1 hx
   exact ff yd
  rw[List.map_congr_left this];simp
 show(bR (gq qs)).map iq=gq qs
 rw[h1,h2]
theorem IW(c:aV):dz c=dz (dz c):=by
 have hn:=fE (x:=c.nodes) (lo:=1) (hi:=6) yd
 have e1:=ff (x:=c.nodes) (lo:=1) (hi:=6) yd
 have e2:aw (aw c.chain 1 (aw c.nodes 1 6)) 1 (aw (aw c.nodes 1 6) 1 6)=aw c.chain 1 (aw c.nodes 1 6):=by rw[e1];exact ff hn.1
 simp only[dz,aV.mk.injEq]
 exact⟨e1.symm,e2.symm,(ff yd).symm,(GK _).symm,(ff yd).symm,(ff yd).symm,(ff yd).symm,(ff yd).symm,(ff yd).symm,(ff yd).symm,(ff yd).symm,(ff yd).symm⟩
end Adm
namespace Rep
open Go Vg T Api Kv Ch Lg Rd Win Adm
attribute [local irreducible] VO VC VA
abbrev df:=Int×aa
def ni:kQ:=(none,0,0)
def wU(s:df):List Value:=.int .i64 s.1::iD s.2 ni
abbrev iA:TypeId:=206
abbrev NQ:TypeId:=212
abbrev dP:TypeId:=125
def GL(b:Nat)(S:List df)(x:Option Addr×Nat):List HP:=[pt b [.slice x.1 S.length x.2] NQ,aI iA 30 x.1 S.length x.2 (flat wU S)]
def aR(b:Nat)(S:List df):HP:=hex fun x=>cU (GL b S x)
theorem aW.out(b:Nat)(S:List df):aW (ι:=Option Addr×Nat) (aR b S) (fun _=>True) (fun x=>GL b S x):=fun w ids ⟨x,h⟩ hn=>⟨x,trivial,ids,h,hn,fun _ h=>h⟩
theorem ae.out{b:Nat}{S:List df}{L M:List HP}(x:Option Addr×Nat)(h:ae L (GL b S x++M)):ae L (aR b S::M):=
 ae.ex (f:=fun x=>cU (GL b S x)) x (ae.sep (Ls:=GL b S x) h)
def cI(b:Nat):Value:=pT 95 [.pointer (some ⟨b,0,none⟩)] []
theorem iM(b:Nat)(S:List df)(hS:S.length≤1000000)(to_:Int)(f:aa):aH Tryz.prog 95 [.pointer (some ⟨b,0,none⟩),.int .i64 to_,.agg (iD f ni).toArray] Fr w [aR b S] (fun v L=>v=.tuple #[]∧L=[aR b (S ++ [(to_,f)])]):=by
 refine TF 18 Tryz.func95 Z yn ah Z Z ?_
 refine CS (CG (VG (VB (vs:=iD f ni) Z fun fb=>VG (VN ?_))))
 refine VC.e_ 1 Z (aW.out b S) ?_
 rintro⟨a,c⟩ -
 show VC _ _ _ [pt b [.slice a S.length c] NQ,aI iA 30 a S.length c (flat wU S),pt fb (iD f ni) hZ] _
 refine CD (ts 0 8 (.only 8 (.only 9 (ts 10 2 (.only 12 .nil))))) yn yr ?_
 refine eW ?_
 refine AG (VA.ky 2 (iD f ni) Z Z Z Z Z ?_)
 refine AG (AI Z (LB (pv:=[(0,.int .i64 to_),(1,.agg (iD f ni).toArray)]) (wU (to_,f)) Z Z Z yn Z) ?_)
 refine AG (AO (a8.buildSlice (n:=1) (pv:=[(0,.agg (wU (to_,f)).toArray)]) (cells:=wU (to_,f)) Z Z Z Z yp (bJ Z Z Z)) Z ?_ ?_)
 ·rintro _ _ ⟨nb,rfl,rfl⟩
  exact yu
 rintro _ _ ⟨nb,rfl,rfl⟩
 refine AG (AO (a8.append (m:=1) (news:=wU (to_,f)) 2 Z Z Z Z Z Z Z (dt.pt 0 Z Z Z) Z (ju (k:=1000001) yd yp) yd) Z ?_ ?_)
 ·rintro _ _ ⟨a1,c1,rfl,hc1,rfl⟩
  exact yu
 rintro _ _ ⟨a1,c1,rfl,hc1,rfl⟩
 refine t_ ?_
 refine AG (VA.st 2 (cs':=[.slice a1 (S.length+1) c1]) Z Z Z Z Z (ZT Z) Z Z yu ?_)
 refine t_ ?_
 refine ay.void Z (ae.out (S:=S ++ [(to_,f)]) (a1,c1) ?_).ar ⟨rfl,Z⟩
 unfold GL
 rw[ZM,bf,bO,fg,ZN]
 exact(dF [2,0])
structure au where
 id:Int
 aB:Int
 cap:Int
 iN:Int
 ch:dO
 since:Int
 whole:Bool
 log:List aY
 win:cF
 bK:aD
 bD:gx
 start:Int
 base:Int
 linked:Bool
 cL:Int
structure qA where
 a:Option Addr
 c:Nat
 lp:Nat
 wp:Nat
 ap:Nat
 rp:Nat
def aS(R:au)(x:qA):List Value:=[.int .i64 R.id,.int .i64 R.aB,.int .i64 R.cap,.int .i64 R.iN,.int .i64 R.ch.al,.slice x.a R.ch.ms.length x.c,.int .i64 R.ch.drain,.int .i64 R.since,.bool R.whole,
 .pointer (some ⟨x.lp,0,none⟩),.pointer (some ⟨x.wp,0,none⟩),.pointer (some ⟨x.ap,0,none⟩),.pointer (some ⟨x.rp,0,none⟩),.int .i64 R.start,.int .i64 R.base,.bool R.linked,.int .i64 R.cL]
def D6(p:Nat)(R:au)(x:qA):List HP:=[pt p (aS R x) dP,aI aG 2 x.a R.ch.ms.length x.c (flat ax R.ch.ms),cd x.lp R.log,bQ x.wp R.win,bw x.ap R.bK,bW x.rp R.bD]
def bA(p:Nat)(R:au):HP:=hex fun x=>cU (D6 p R x)
theorem aW.rep(p:Nat)(R:au):aW (ι:=qA) (bA p R) (fun _=>True) (fun x=>D6 p R x):=fun w ids ⟨x,h⟩ hn=>⟨x,trivial,ids,h,hn,fun _ h=>h⟩
theorem ae.rep{p:Nat}{R:au}{L M:List HP}(x:qA)(h:ae L (D6 p R x++M)):ae L (bA p R::M):=
 ae.ex (f:=fun x=>cU (D6 p R x)) x (ae.sep (Ls:=D6 p R x) h)
structure fW(Fr:Nat→Prop)(w:World)(p:Nat)(R:au)(x:qA):Prop where
 aP:eS Fr w p (aS R x)
 mem:aK ax 2 Fr w x.a R.ch.ms
 log:aM Fr [cd x.lp R.log] w
 win:eS Fr w x.wp R.win.cells
 bK:aM Fr [bw x.ap R.bK] w
 bD:aM Fr [bW x.rp R.bD] w
theorem fW.GM{Fr:Nat→Prop}{w:World}{L:List HP}{p:Nat}{R:au}{x:qA}(h:aM Fr L w)(i:Nat)(h0:L[i]?=some (pt p (aS R x) dP))(h1:L[i+1]?=some (aI aG 2 x.a R.ch.ms.length x.c (flat ax R.ch.ms)))
  (h2:L[i+2]?=some (cd x.lp R.log)) (h3:L[i+3]?=some (bQ x.wp R.win)) (h4:L[i+4]?=some (bw x.ap R.bK)) (h5:L[i+5]?=some (bW x.rp R.bD)):fW Fr w p R x:=
 ⟨h.aP i h0,aK.aI aF (h.at_ _ h1),h.at_ _ h2,h.aP _ h3,h.at_ _ h4,h.at_ _ h5⟩
theorem fW.UC{Fr:Nat→Prop}{w:World}{p:Nat}{R:au}(h:aM Fr [bA p R] w):∃x,fW Fr w p R x:=by
 obtain⟨x,h⟩:=h.ex
 exact⟨x,fW.GM h.sep 0 Z Z Z Z Z Z⟩
theorem fW.of{X:Cx}{p:Nat}{R:au}{x:qA}(h:fW X.Fr X.w0 p R x){Fr':Nat→Prop}{w:World}{L:List HP}(hF:∀b,X.Fr b→Fr' b)(hs:St X L w):fW Fr' w p R x:=
 ⟨h.aP.of hF hs,aK.of h.mem hF hs,h.log.of hF hs,h.win.of hF hs,h.bK.of hF hs,h.bD.of hF hs⟩
structure BU(c:dO):Prop where
 len:c.ms.length≤1000
section
variable {p:Nat} {R:au} {x:qA} {b:Nat} {S:List df}
theorem mu(h:eS Fr w p (aS R x)):aH Tryz.prog 94 [.pointer (some ⟨p,0,none⟩)] Fr w [] (fun v L=>v=.bool true∧L=[]):=by
 refine TF 12 Tryz.func94 Z yn ah Z Z ?_
 refine an ?_
 refine VG (VO.split 5 rfl rfl (fun _=>?_) (fun h=>by cases h))
 refine Fe ?_
 exact Ro
def au.NS(R:au):Bool:=decide (0<R.since)
theorem Fs(h:eS Fr w p (aS R x)):aH Tryz.prog 161 [.pointer (some ⟨p,0,none⟩)] Fr w [] (fun v L=>v=.bool R.NS∧L=[]):=by
 refine TF 8 Tryz.func161 Z yn ah Z Z ?_
 refine Fe ?_
 exact Ro
def au.fq(R:au)(f:aa):Bool:=f.al == R.ch.al
theorem uZ(h:eS Fr w p (aS R x))(f:aa)(m:kQ):aH Tryz.prog 193 [.pointer (some ⟨p,0,none⟩),.agg (iD f m).toArray] Fr w [] (fun v L=>v=.bool (R.fq f)∧L=[]):=by
 refine TF 13 Tryz.func193 Z yn ah Z Z ?_
 refine CS (CG (VG (VB (vs:=iD f m) Z fun fb=>VG (VN ?_))))
 refine CS (CD (ts 0 9 .nil) yn yr ?_)
 refine T_ ?_
 exact CR (ay.bool 4 Z Z Z ae.nil.ar ⟨rfl,Z⟩)
def jW(from_ nb:Int):Bool:=decide (0≤nb)&&(from_ == nb)
theorem oI(f n:Int):aH Tryz.prog 194 [.int .i64 f,.int .i64 n] Fr w [] (fun v L=>v=.bool (jW f n)∧L=[]):=by
 refine TF 12 Tryz.func194 Z yn ah Z Z ?_
 refine an ?_
 by_cases h1:0≤n
 ·refine VG (VY 7 true Z (DT h1) ?_)
  refine eR ?_
  exact CR (ay.bool 4 Z Z (by rw[jW,DT h1];rfl) ER ⟨rfl,Z⟩)
 ·refine VG (VY 7 false Z (DF h1) ?_)
  refine eR ?_
  exact CR (ay.bool 4 Z Z (by rw[jW,DF h1];rfl) ER ⟨rfl,Z⟩)
def au.nS(R:au):Int:=Io R.ch R.id
def au.dA(R:au):Int:=zJ R.ch R.id
theorem pn(h:eS Fr w p (aS R x))(hm:aK ax 2 Fr w x.a R.ch.ms)(hc:BU R.ch):aH Tryz.prog 195 [.pointer (some ⟨p,0,none⟩)] Fr w [] (fun v L=>v=.int .i64 R.nS∧L=[]):=by
 have hcl:=hc.len
 refine TF 12 Tryz.func195 Z yn ah Z Z ?_
 refine Du ?_
 refine CS (CD (ts 0 8 (.only 8 (.take 9 .nil))) yn yr ?_)
 refine Kn ?_
 refine T' ?_
 refine Kn ?_
 refine AG (AR (fun Fr w hF hs hS=>Ch.pn Fr w (hm.of hF hs) yd R.id) Z Z Tz ?_)
 refine eW ?_
 exact Dz
theorem gG(h:eS Fr w p (aS R x))(hm:aK ax 2 Fr w x.a R.ch.ms)(hc:BU R.ch):aH Tryz.prog 170 [.pointer (some ⟨p,0,none⟩)] Fr w [] (fun v L=>v=.int .i64 R.dA∧L=[]):=by
 have hcl:=hc.len
 refine TF 12 Tryz.func170 Z yn ah Z Z ?_
 refine Du ?_
 refine CS (CD (ts 0 8 (.only 8 (.take 9 .nil))) yn yr ?_)
 refine Kn ?_
 refine T' ?_
 refine Kn ?_
 refine AG (AR (fun Fr w hF hs hS=>Ch.gG Fr w (hm.of hF hs) yd R.id) Z Z Tz ?_)
 refine eW ?_
 exact Dz
def au.u0(R:au):Bool:=R.NS&&(sv R.ch == R.id)
def au.u3(R:au):Bool:=R.NS&&(qn R.ch == R.id)
def au.dG(R:au):Bool:=R.NS&&(R.ch.drain == R.id)
theorem l8(h:eS Fr w p (aS R x))(hm:aK ax 2 Fr w x.a R.ch.ms)(hc:BU R.ch):aH Tryz.prog 98 [.pointer (some ⟨p,0,none⟩)] Fr w [] (fun v L=>v=.bool R.u0∧L=[]):=by
 have hcl:=hc.len
 refine TF 17 Tryz.func98 Z yn ah Z Z ?_
 refine Du ?_
 refine XW ?_
 refine Vd ?_
 refine eW ?_
 cases hi:R.NS with
 | true=>
  refine AG (AY 5 true Z Z ?_)
  refine OU ?_
  refine T' ?_
  refine OU ?_
  refine AG (AR (fun Fr w hF hs hS=>Ch.l8 Fr w (hm.of hF hs) yd) Z Z Tz ?_)
  refine lW ?_
  exact CR (ay.bool 2 Z Z (by rw[au.u0,hi];rfl) ER ⟨rfl,Z⟩)
 | false=>
  refine AG (AY 5 false Z Z ?_)
  refine OU ?_
  refine Ur ?_
  exact CR (ay.bool 2 Z Z (by rw[au.u0,hi];rfl) ER ⟨rfl,Z⟩)
theorem l9(h:eS Fr w p (aS R x))(hm:aK ax 2 Fr w x.a R.ch.ms)(hc:BU R.ch):aH Tryz.prog 237 [.pointer (some ⟨p,0,none⟩)] Fr w [] (fun v L=>v=.bool R.u3∧L=[]):=by
 have hcl:=hc.len
 refine TF 17 Tryz.func237 Z yn ah Z Z ?_
 refine Du ?_
 refine XW ?_
 refine Vd ?_
 refine eW ?_
 cases hi:R.NS with
 | true=>
  refine AG (AY 5 true Z Z ?_)
  refine OU ?_
  refine T' ?_
  refine OU ?_
  refine AG (AR (fun Fr w hF hs hS=>Ch.l9 Fr w (hm.of hF hs) yd) Z Z Tz ?_)
  refine lW ?_
  exact CR (ay.bool 2 Z Z (by rw[au.u3,hi];rfl) ER ⟨rfl,Z⟩)
 | false=>
  refine AG (AY 5 false Z Z ?_)
  refine OU ?_
  refine Ur ?_
  exact CR (ay.bool 2 Z Z (by rw[au.u3,hi];rfl) ER ⟨rfl,Z⟩)
theorem ly(h:eS Fr w p (aS R x)):aH Tryz.prog 99 [.pointer (some ⟨p,0,none⟩)] Fr w [] (fun v L=>v=.bool R.dG∧L=[]):=by
 refine TF 17 Tryz.func99 Z yn ah Z Z ?_
 refine Du ?_
 refine CS (CD (.take 0 (.only 1 (ts 2 13 .nil))) yn yr ?_)
 refine Vd ?_
 refine eW ?_
 cases hi:R.NS with
 | true=>
  refine AG (AY 5 true Z Z ?_)
  refine OU ?_
  exact CR (ay.bool 2 Z Z (by rw[au.dG,hi];rfl) ER ⟨rfl,Z⟩)
 | false=>
  refine AG (AY 5 false Z Z ?_)
  refine OU ?_
  exact CR (ay.bool 2 Z Z (by rw[au.dG,hi];rfl) ER ⟨rfl,Z⟩)
end
end Rep
namespace Rep
open Go Vg T Api Kv Ch Lg Rd Win Adm
attribute [local irreducible] VO VC VA
def jj(aj seq ct:Int)(r:jI):aa:={ aa.zero with kind:=2,aj:=aj,seq:=seq,ct:=ct,res:=r }
def du(al:Int)(f:aa)(reason:Int):aa:={ aa.zero with kind:=3,al:=al,aj:=f.aj,seq:=f.seq,ct:=f.ct,reason:=reason }
def NT(al i g h:Int):aa:={ aa.zero with kind:=5,al:=al,index:=i,tr:=g,cL:=h }
def Ft(al i:Int):aa:={ aa.zero with kind:=6,al:=al,index:=i }
def qB(al i:Int):aa:={ aa.zero with kind:=11,al:=al,index:=i }
section
variable {p:Nat} {R:au} {x:qA} {b:Nat} {S:List df}
theorem qC(hS:S.length≤1000000)(aj seq ct:Int)(hc0:0≤aj)(hc1:aj≤1000000)(r:jI):aH Tryz.prog 200 [.int .i64 aj,.int .i64 seq,.int .i64 ct,.agg (bn r).toArray,cI b] Fr w [aR b S]
  (fun v L=>v=.tuple #[]∧L=[aR b (S ++ [(32+aj,jj aj seq ct r)])]):=by
 refine TF 19 Tryz.func200 Z yn ah Z Z ?_
 refine CS (CG (VG (VB (vs:=bn r) Z fun rb=>?_)))
 refine OW ?_
 refine VG (VL 0 (bn r) Z Z Z Z ?_)
 refine VG (VI (LB (pv:=[(0,.int .i64 2),(2,.int .i64 aj),(3,.int .i64 seq),(4,.int .i64 ct),(8,.agg (bn r).toArray)]) (iD (jj aj seq ct r) ni) Z Z Z yn Z) ?_)
 refine VG (VO.fC 1 Z Z (fun Fr w hF hs _=>iM Fr w b S hS (32+aj) (jj aj seq ct r)) Z (ψ:=fun v H=>v=.tuple #[]∧H=aR b (S ++ [(32+aj,jj aj seq ct r)])) yy ?_)
 rintro _ _ ⟨rfl,rfl⟩
 refine an ?_
 exact Ve
theorem gz(h:eS Fr w p (aS R x))(hS:S.length≤1000000)(f:aa)(m:kQ)(hc0:0≤f.aj)(hc1:f.aj≤1000000)(reason:Int):aH Tryz.prog 97 [.pointer (some ⟨p,0,none⟩),.agg (iD f m).toArray,.int .i64 reason,cI b] Fr w [aR b S]
  (fun v L=>v=.tuple #[]∧L=[aR b (S ++ [(32+f.aj,du R.ch.al f reason)])]):=by
 refine TF 26 Tryz.func97 Z yn ah Z Z ?_
 refine CS (CG (VG (VB (vs:=iD f m) Z fun fb=>VG (VN ?_))))
 refine CD (ts 0 17 (.only 17 .nil)) yn yr ?_
 refine T_ ?_
 refine H8 ?_
 refine T_ ?_
 refine AG (AI Z (LB (pv:=[(0,.int .i64 3),(1,.int .i64 R.ch.al),(2,.int .i64 f.aj),(3,.int .i64 f.seq),(4,.int .i64 f.ct),(9,.int .i64 reason)]) (iD (du R.ch.al f reason) ni) Z Z Z yn Z) ?_)
 refine AG (VA.fC 1 Z Z (fun Fr w hF hs _=>iM Fr w b S hS (32+f.aj) (du R.ch.al f reason)) Z Z (ψ:=fun v H=>v=.tuple #[]∧H=aR b (S ++ [(32+f.aj,du R.ch.al f reason)])) yy ?_ ?_)
 ·rintro _ _ ⟨rfl,rfl⟩
  exact(by(try refine Pd.st ?_);(repeat(first|exact Pd.nil|exact Pd.fnil|refine Pd.inner ?_|refine Pd.skip yr ?_|refine zf (zo 0 Z Z) ?_|refine zf (zm 0 Z Z) ?_|refine zf (aE.aP (aE.aP h Z) Z) ?_|refine zf ((aE.aP h Z)) ?_|refine zc (zo 0 Z Z) ?_|refine zc (zm 0 Z Z) ?_|refine zc (aE.aP (aE.aP h Z) Z) ?_|refine zc ((aE.aP h Z)) ?_)))
 rintro _ _ ⟨rfl,rfl⟩
 refine eW ?_
 exact Ve
def au.dY(R:au):List df:=if R.nS<0 then [] else [(R.nS,NT R.ch.al R.win.done (if R.dG then R.win.last else R.win.done+R.win.cap) R.win.last)]
theorem nj(h:fW Fr w p R x)(hc:BU R.ch)(hw:R.win.Ok)(hS:S.length≤1000000):aH Tryz.prog 173 [.pointer (some ⟨p,0,none⟩),cI b] Fr w [aR b S] (fun v L=>v=.tuple #[]∧L=[aR b (S++R.dY)]):=by
 have hb:=h.aP
 have w0:=hw.eV
 refine TF 42 Tryz.func173 Z yn ah Z Z ?_
 refine an ?_
 refine VG (VV (fun Fr w hF hs _=>Rep.pn Fr w (h.of hF hs).aP (h.of hF hs).mem hc) Z ?_)
 refine an ?_
 refine CP Z (fun h1=>?_) (fun h1=>CK ?_)
 ·exact CR (ay.void Z ER ⟨rfl,by rw[au.dY,if_pos h1,ZN]⟩)
 refine Dt ?_
 refine VG (VV (fun Fr w hF hs _=>Win.mX Fr w (h.of hF hs).win hw) Z ?_)
 refine VG (VN (CS ?_))
 refine VC.cq (σ:=Unit) (fun _=>[(0,pV p),(1,cI b),(4,.int .i64 R.nS),(5,.int .i64 (if R.dG then R.win.last else R.win.done+R.win.cap))]) (fun _=>[aR b S]) (fun _=>True) ?_ ?_
 ·refine an ?_
  refine VG (VV (fun Fr w hF hs _=>ly Fr w (h.of hF hs).aP) Z ?_)
  refine an ?_
  refine CC Z (fun hd=>?_) (fun hd=>CK ?_)
  ·refine Dt ?_
   refine VG (VV (fun Fr w hF hs _=>Win.fJ Fr w (h.of hF hs).win w0) Z ?_)
   refine an ?_
   exact XX
  ·exact XX
 rintro _ -
 refine CD (ts 0 11 (ts 12 5 (.only 11 (.only 17 (.take 18 (.only 19 .nil)))))) yn yr ?_
 refine RX ?_
 refine AG (AR (fun Fr w hF hs hS=>Win.pq Fr w (h.of hF hs).win w0) Z Z yx ?_)
 refine AG (AR (fun Fr w hF hs hS=>Win.fJ Fr w (h.of hF hs).win w0) Z Z yx ?_)
 refine AG (AI Z (LB (pv:=[(0,.int .i64 5),(1,.int .i64 R.ch.al),(12,.int .i64 R.win.done),(13,.int .i64 (if R.dG then R.win.last else R.win.done+R.win.cap)),(14,.int .i64 R.win.last)]) (iD (NT R.ch.al R.win.done (if R.dG then R.win.last else R.win.done+R.win.cap) R.win.last) ni) Z Z Z yn Z) ?_)
 refine AG (VA.fC 0 Z Z (fun Fr w hF hs _=>iM Fr w b S hS R.nS (NT R.ch.al R.win.done (if R.dG then R.win.last else R.win.done+R.win.cap) R.win.last)) Z Z (ψ:=fun v H=>v=.tuple #[]∧H=aR b (S ++ [(R.nS,NT R.ch.al R.win.done (if R.dG then R.win.last else R.win.done+R.win.cap) R.win.last)])) yy ?_ ?_)
 ·rintro _ _ ⟨rfl,rfl⟩
  exact yx
 rintro _ _ ⟨rfl,rfl⟩
 refine eW ?_
 exact ay.void Z ER ⟨rfl,by rw[au.dY,if_neg h1];rfl⟩
def au.iO(R:au):List df:=if R.whole=true∧0≤R.dA then [(R.dA,Ft R.ch.al R.start)] else []
theorem lN(h:fW Fr w p R x)(hc:BU R.ch)(hS:S.length≤1000000):aH Tryz.prog 174 [.pointer (some ⟨p,0,none⟩),cI b] Fr w [aR b S] (fun v L=>v=.tuple #[]∧L=[aR b (S++R.iO)]):=by
 have hb:=h.aP
 refine TF 28 Tryz.func174 Z yn ah Z Z ?_
 refine an ?_
 refine VG (VV (fun Fr w hF hs _=>Rep.gG Fr w (h.of hF hs).aP (h.of hF hs).mem hc) Z ?_)
 refine Dt ?_
 cases hwh:R.whole with
 | false=>
  refine VG (VY 11 false Z Z ?_)
  refine XY ?_
  refine sk ?_
  exact ay.void Z ER ⟨rfl,by rw[au.iO,if_neg (by rw[hwh];simp),ZN]⟩
 | true=>
  refine VG (VY 11 true Z Z ?_)
  refine XY ?_
  refine CP Z (fun h1=>?_) (fun h1=>CK ?_)
  ·refine CD (ts 0 12 (.only 12 .nil)) yn yr ?_
   refine RX ?_
   refine AG (AI Z (LB (pv:=[(0,.int .i64 6),(1,.int .i64 R.ch.al),(12,.int .i64 R.start)]) (iD (Ft R.ch.al R.start) ni) Z Z Z yn Z) ?_)
   refine AG (VA.fC 0 Z Z (fun Fr w hF hs _=>iM Fr w b S hS R.dA (Ft R.ch.al R.start)) Z Z (ψ:=fun v H=>v=.tuple #[]∧H=aR b (S ++ [(R.dA,Ft R.ch.al R.start)])) yy ?_ ?_)
   ·rintro _ _ ⟨rfl,rfl⟩
    exact yx
   rintro _ _ ⟨rfl,rfl⟩
   refine eW ?_
   exact ay.void Z ER ⟨rfl,by rw[au.iO,if_pos ⟨hwh,h1⟩];rfl⟩
  ·exact ay.void Z ER ⟨rfl,by rw[au.iO,if_neg (fun h=>h1 h.2),ZN]⟩
def au.g_(R:au):List df:=[(16,qB R.ch.al (if R.whole then 1 else 0))]
theorem nT(hb:eS Fr w p (aS R x))(hS:S.length≤1000000):aH Tryz.prog 172 [.pointer (some ⟨p,0,none⟩),cI b] Fr w [aR b S] (fun v L=>v=.tuple #[]∧L=[aR b (S++R.g_)]):=by
 refine TF 19 Tryz.func172 Z yn ah Z Z ?_
 refine Dt ?_
 refine VG (VI (LB (pv:=[(0,.int .i64 11),(1,.int .i64 R.ch.al)]) (iD (qB R.ch.al 0) ni) Z Z Z yn Z) ?_)
 refine VG (VO.alloc Z fun fb=>?_)
 refine VG (VT (vs:=iD (qB R.ch.al 0) ni) 0 Z Z Z Z (NR _) Z Z Z ?_)
 refine VG (VN (CS ?_))
 refine VC.cq (σ:=Unit) (fun _=>[(1,cI b),(4,pV fb)]) (fun _=>[pt fb (iD (qB R.ch.al (if R.whole then 1 else 0)) ni) hZ,aR b S]) (fun _=>True) ?_ ?_
 ·refine Dt ?_
  refine CC Z (fun hd=>?_) (fun hd=>CK ?_)
  ·refine an ?_
   refine VG (VO.st 0 (cs':=iD (qB R.ch.al 1) ni) Z Z Z Z (ZT Z) Z Z ?_)
   refine an ?_
   exact⟨(),trivial,ba,by rw[hd];exact ER⟩
  ·exact⟨(),trivial,ba,by rw[hd];exact ER⟩
 rintro _ -
 refine an ?_
 refine VG (VL 0 (iD (qB R.ch.al (if R.whole then 1 else 0)) ni) Z Z Z Z ?_)
 refine VG (VO.fC 1 Z Z (fun Fr w hF hs _=>iM Fr w b S hS 16 (qB R.ch.al (if R.whole then 1 else 0))) Z (ψ:=fun v H=>v=.tuple #[]∧H=aR b (S++R.g_)) yy ?_)
 rintro _ _ ⟨rfl,rfl⟩
 refine an ?_
 exact Ve
end
end Rep
namespace Rep
open Go Vg T Api Kv Ch Lg Rd Win Adm
attribute [local irreducible] VO VC VA
structure au.Ok(R:au):Prop where
 ch:BU R.ch
 win:R.win.Ok
 last:R.win.last=R.log.length
 nk:∀e∈R.log,0≤e.aj∧e.aj<6
 np:∀e∈R.log,1≤e.index∧e.index≤R.log.length
 tD:1≤R.bD.cap
 sL:R.bD.cap≤16
 rl:(R.bD.l.length:Int)≤R.bD.cap
 Af:0≤R.bD.last
 Bf:R.bD.last≤100000000
 xM:∀y∈R.bD.l,0≤y.f.aj∧y.f.aj≤1000
 calls:R.bK.Calls
 wf:R.bK.Wf
theorem D7(es:List aY)(c:Int):dd es c=(0,0)∨∃e∈es,dd es c=(e.seq,e.index)∧e.aj=c:=by
 have:∀(es:List aY) (p:Int×Int),es.foldl (mf c) p=p∨∃e∈es,es.foldl (mf c) p=(e.seq,e.index)∧e.aj=c:=by
  intro es
  induction es with
  | nil=>intro p;exact .inl rfl
  | cons e es ih=>
   intro p
   rw[List.foldl_cons]
   rcases ih (mf c p e) with h | ⟨d,hd,h,h2⟩
   ·rw[h]
    unfold mf
    split
    ·exact .inr ⟨e,by simp,Z,by assumption⟩
    ·exact .inl rfl
   ·exact .inr ⟨d,by simp[hd],h,h2⟩
 exact this es (0,0)
theorem au.Ok.SM{R:au}(h:R.Ok)(c:Int):0≤(fK R.log c).2∧(fK R.log c).2≤R.log.length:=by
 unfold fK
 split
 ·rcases D7 R.log c with h1 | ⟨e,he,h1,_⟩
  ·rw[h1];exact⟨Z5 _,by simp⟩
  ·rw[h1];have:=h.np e he;exact⟨by show 0≤e.index;omega,this.2⟩
 ·exact⟨Z5 _,by simp⟩
def iB(p:Nat)(R:au)(x:qA)(b:Nat)(S:List df):List HP:=[pt p (aS R x) dP,aI aG 2 x.a R.ch.ms.length x.c (flat ax R.ch.ms),cd x.lp R.log,bQ x.wp R.win,bw x.ap R.bK,bW x.rp R.bD,aR b S]
theorem dQ{p:Nat}{R:au}{x:qA}{b:Nat}{S:List df}:ae (iB p R x b S) [bA p R,aR b S]:=ae.rep x (dF [0,0,0,0,0,0,0])
def Ag(R:au)(i:Int):df:=(32+((pM R.log i).getD lJ).aj,jj ((pM R.log i).getD lJ).aj ((pM R.log i).getD lJ).seq 0 ((pM (aO R.log).2 i).getD c_))
def iP(R:au)(k:Nat):List df:=(List.range k).map fun j=>Ag R (R.win.done+1+(j:Nat))
def au.f_(R:au):List df:=if R.u3 then iP R (R.win.last-R.win.done).toNat else []
def au.bg(R:au):au:=if R.u3 then { R with win:=R.win.Dx R.win.last } else R
section
variable {p:Nat} {R:au} {b:Nat} {S:List df}
theorem oJ(ok:R.Ok)(hS:S.length≤900000):aH Tryz.prog 169 [.pointer (some ⟨p,0,none⟩),cI b] Fr w [bA p R,aR b S] (fun v L=>v=.tuple #[]∧L=[bA p R.bg,aR b (S++R.f_)]):=by
 have w0:=ok.win.eV
 have d0:=ok.win.jS;have d1:=ok.win.jT;have d2:=ok.win.gW
 refine TF 62 Tryz.func169 Z yn ah Z Z ?_
 refine Rr ?_
 rintro x -
 show VC _ _ _ (iB p R x b S) _
 unfold iB
 refine an ?_
 refine XZ ?_
 refine an ?_
 refine VC.dX Z (fun ht=>?_) (fun ht=>CK ?_)
 ·exact CR (ay.void Z dQ.ar ⟨rfl,by rw[au.bg,au.f_,ht];simp⟩)
 refine an ?_
 refine X1 ?_
 refine an ?_
 refine X3 ?_
 refine an ?_
 refine VG (VQ 3 Z (fun Fr w hF hs hS=>Win.ri Fr w ok.win R.win.last) Z (ψ:=fun v H=>v=.bool (R.win.uc R.win.last)∧H=bQ x.wp (R.win.Dx R.win.last)) yy ?_)
 rintro _ _ ⟨rfl,rfl⟩
 refine sh ?_
 refine VC.loop (σ:=Nat) (fun k=>[(0,pV p),(1,cI b),(5,.int .i64 R.win.last),(6,.int .i64 (R.win.done+1+(k:Nat)))])
  (fun k=>[pt p (aS R x) dP,aI aG 2 x.a R.ch.ms.length x.c (flat ax R.ch.ms),cd x.lp R.log,bQ x.wp (R.win.Dx R.win.last),bw x.ap R.bK,bW x.rp R.bD,aR b (S++iP R k)])
  (fun k=>k≤(R.win.last-R.win.done).toNat) (fun k=>(R.win.last-R.win.done).toNat-k) 0
  (ZO _) (SC rfl (SC rfl (SC rfl (Sub.int rfl yf (SN _))))) (by rw[show iP R 0=[] from rfl,ZN];exact ER) ?_
 intro k hk
 have hrl:(iP R k).length=k:=by simp[iP]
 refine an ?_
 refine CP Z (fun h1=>CK ?_) (fun h1=>CX ?_)
 ·obtain⟨j,e,hj1,hj2,hj3,hj4⟩:=rm (l:=R.log) (i:=R.win.done+1+(k:Nat)) yd (by have:=ok.last;omega)
  have hcl:=ok.nk e (ME hj3)
  refine an ?_
  refine VG (VV (fun Fr w hF hs hS=>Lg.rn Fr w (hS.at_ 2 Z) (R.win.done+1+(k:Nat)) yd yd) Z ?_)
  refine an ?_
  refine VG (VO.alloc Z fun eb=>?_)
  refine VG (VT (vs:=cM ((pM R.log (R.win.done+1+(k:Nat))).getD lJ)) 0 Z Z Z Z (NR _) Z Z Z ?_)
  refine jd ?_
  refine VG (VV (fun Fr w hF hs hS=>Lg.tz Fr w (hS.at_ 3 Z) (R.win.done+1+(k:Nat)) yd yd) Z ?_)
  refine jd ?_
  refine VG (VO.alloc Z fun rb=>?_)
  refine VG (VT (vs:=bn ((pM (aO R.log).2 (R.win.done+1+(k:Nat))).getD c_)) 0 Z Z Z Z (NR _) Z Z Z ?_)
  refine jd ?_
  refine VG (VL 0 (bn ((pM (aO R.log).2 (R.win.done+1+(k:Nat))).getD c_)) Z Z Z Z ?_)
  refine VG (VQ 8 Z (fun Fr w hF hs hS=>qC Fr w (by rw[ZM,hrl];omega) ((pM R.log (R.win.done+1+(k:Nat))).getD lJ).aj ((pM R.log (R.win.done+1+(k:Nat))).getD lJ).seq 0 (by rw[hj4];exact hcl.1) (by rw[hj4];have:=hcl.2;show e.aj≤_;omega) ((pM (aO R.log).2 (R.win.done+1+(k:Nat))).getD c_)) Z (ψ:=fun v H=>v=.tuple #[]∧H=aR b (S++iP R k ++ [Ag R (R.win.done+1+(k:Nat))])) yy ?_)
  rintro _ _ ⟨rfl,rfl⟩
  refine sh ?_
  refine⟨k+1,by omega,by dsimp only;omega,SC Z (SC Z (SC Z (Sub.int Z (by push_cast;omega) (SN _)))),?_⟩
  dsimp only
  rw[show iP R (k+1)=iP R k ++ [Ag R (R.win.done+1+(k:Nat))] by simp[iP,List.range_succ],←ZX]
  exact(dF [2,2,2,2,2,2,2]).ar
 ·obtain rfl:k=(R.win.last-R.win.done).toNat:=by omega
  exact ay.void Z (ae.rep (R:={ R with win:=R.win.Dx R.win.last }) x (IP 0 Z (IP 0 Z (IP 0 Z (IP 0 Z (IP 0 Z (IP 0 Z (IP 0 Z ae.nil)))))))).ar ⟨rfl,by rw[au.bg,au.f_,ht];simp⟩
def au.jX(R:au):Bool:=R.NS&&(!R.whole&&(decide (R.base≠-1)&&decide (R.base≤R.win.last)))
def au.eJ(R:au):au:=if R.jX then { R with whole:=true,start:=R.win.last } else R
def au.iQ(R:au):List df:=if R.jX then R.eJ.iO else []
theorem tE(ok:R.Ok)(hS:S.length≤900000):aH Tryz.prog 198 [.pointer (some ⟨p,0,none⟩),cI b] Fr w [bA p R,aR b S] (fun v L=>v=.tuple #[]∧L=[bA p R.eJ,aR b (S++R.iQ)]):=by
 have w0:=ok.win.eV
 refine TF 46 Tryz.func198 Z yn ah Z Z ?_
 refine Rr ?_
 rintro x -
 show VC _ _ _ (iB p R x b S) _
 refine CS (CS ?_)
 have S3:∀{E:Env} {t:Bool},Vg.look E 31=some (.bool t)→t=(!R.jX)→Vg.look E 0=some (.pointer (some ⟨p,0,none⟩))→Vg.look E 1=some (cI b)→Sub [(0,pV p),(1,cI b),(31,.bool (!R.jX))] E:=fun h0 h1 h2 h3=>SC h2 (SC h3 (Sub.bl h0 h1 (SN _)))
 refine VC.cq (σ:=Unit) (fun _=>[(0,pV p),(1,cI b),(31,.bool (!R.jX))]) (fun _=>iB p R x b S) (fun _=>True) ?_ ?_
 ·refine CD (.take 0 (.only 1 (ts 2 19 (ts 22 4 (.only 21 (ts 26 2 .nil)))))) yn yr ?_
  refine AG (AR (fun Fr w hF hs hS=>Fs Fr w (fW.GM hS 0 Z Z Z Z Z Z).aP) Z Z yu ?_)
  refine eW ?_
  cases h1:R.NS with
  | false=>
   refine AG (AY 7 true Z Z ?_)
   refine lW ?_
   refine AG (AY 13 true Z Z ?_)
   refine lW ?_
   refine AG (AY 20 true Z Z ?_)
   refine PG ?_
   exact⟨(),trivial,S3 Z (by rw[au.jX,h1];rfl) Z Z,ER⟩
  | true=>
  refine AG (AY 7 false Z Z ?_)
  refine lW ?_
  cases h2:R.whole with
  | true=>
   refine AG (AY 13 true Z Z ?_)
   refine lW ?_
   refine AG (AY 20 true Z Z ?_)
   refine PG ?_
   exact⟨(),trivial,S3 Z (by rw[au.jX,h1,h2];rfl) Z Z,ER⟩
  | false=>
  have q8:(aS R x)[0+8]?=some (.bool false):=by show some (Value.bool R.whole)=_;rw[h2]
  refine AG (AY 13 false Z Z ?_)
  refine lW ?_
  by_cases h3:R.base=-1
  ·refine AG (AY 20 true Z (by simp[h3]) ?_)
   refine PG ?_
   exact⟨(),trivial,S3 Z (by rw[au.jX,h1,h2,h3];rfl) Z Z,ER⟩
  refine AG (AY 20 false Z (by simp[h3]) ?_)
  refine lW ?_
  refine AG (AR (fun Fr w hF hs hS=>Win.fJ Fr w (fW.GM hS 0 Z Z Z Z Z Z).win w0) Z Z (by(try refine Pd.st ?_);(repeat(first|exact Pd.nil|exact Pd.fnil|refine Pd.inner ?_|refine Pd.skip yr ?_|refine zf (zo 0 Z Z) ?_|refine zf (zm 0 Z Z) ?_|refine zf (aE.aP (aE.one 0 Z q8) Z) ?_|refine zf ((aE.one 0 Z q8)) ?_|refine zc (zo 0 Z Z) ?_|refine zc (zm 0 Z Z) ?_|refine zc (aE.aP (aE.one 0 Z q8) Z) ?_|refine zc ((aE.one 0 Z q8)) ?_))) ?_)
  refine lW ?_
  exact⟨(),trivial,S3 Z (by
   rw[au.jX,h1,h2,DT (show R.base≠-1 from h3)]
   by_cases h4:R.win.last<R.base
   ·rw[DT h4,DF (show ¬R.base≤R.win.last by omega)];rfl
   ·rw[DF h4,DT (show R.base≤R.win.last by omega)];rfl) rfl rfl,ER⟩
 rintro _ -
 refine VC.dX Z (fun hb=>?_) (fun hb=>CK ?_)
 ·exact CR (ay.void Z dQ.ar ⟨rfl,by rw[au.eJ,au.iQ,hb];simp⟩)
 have hbR:R.eJ={ R with whole:=true,start:=R.win.last }:=by rw[au.eJ,hb];rfl
 have hbM:R.iQ=R.eJ.iO:=by rw[au.iQ,hb];rfl
 unfold iB
 refine an ?_
 refine VG (VO.st 0 (cs':=aS { R with whole:=true } x) Z Z Z Z (ZT Z) Z Z ?_)
 refine an ?_
 refine X3 ?_
 refine VG (VO.st 0 (cs':=aS { R with whole:=true,start:=R.win.last } x) Z Z Z Z (ZT Z) Z Z ?_)
 refine an ?_
 refine VG (VQ 6 Z (fun Fr w hF hs hS=>lN (R:={ R with whole:=true,start:=R.win.last }) Fr w (fW.GM hS 0 Z Z Z Z Z Z) ok.ch yd) Z (ψ:=fun v H=>v=.tuple #[]∧H=aR b (S++au.iO { R with whole:=true,start:=R.win.last })) yy ?_)
 rintro _ _ ⟨rfl,rfl⟩
 refine an ?_
 exact ay.void Z (dQ (R:={ R with whole:=true,start:=R.win.last }) (x:=x)).ar ⟨rfl,by rw[hbM,hbR]⟩
end
end Rep
namespace Rep
open Go Vg T Api Kv Ch Lg Rd Win Adm
attribute [local irreducible] VO VC VA
def cj(R:au)(f:aa)(now:Int):Int×jI×aD:=
 if R.bK.may f=false then (10,c_,R.bK)
 else if R.bK.sJ f.aj f.seq f.ct=true then (7,c_,R.bK)
 else if R.fq f=false then (5,c_,R.bK)
 else if R.u0=false then (4,c_,R.bK)
 else if R.whole=false then (8,c_,R.bK)
 else if R.dG=true then (3,c_,R.bK)
 else if f.seq=(fK R.log f.aj).1∧R.win.done<(fK R.log f.aj).2 then (6,c_,R.bK)
 else if f.seq=(fK R.log f.aj).1 then (0,(pM (aO R.log).2 (fK R.log f.aj).2).getD c_,R.bK)
 else if f.seq<(fK R.log f.aj).1 then (7,c_,R.bK)
 else if 4096≤R.log.length then (1,c_,R.bK)
 else ((R.bK.e7 f now).1,c_,(R.bK.e7 f now).2)
section
variable {p:Nat} {R:au}
theorem D8(ok:R.Ok)(f:aa)(m:kQ)(hmm:Dw Fr w m)(now:Int):aH Tryz.prog 253 [.pointer (some ⟨p,0,none⟩),.agg (cG (f,m)).toArray,.int .i64 now] Fr w [bA p R]
  (fun v L=>v=.tuple #[.int .i64 (cj R f now).1,.agg (bn (cj R f now).2.1).toArray]∧L=[bA p { R with bK:=(cj R f now).2.2 }]):=by
 have w0:=ok.win.eV
 refine TF 116 Tryz.func253 Z yn ah Z Z ?_
 refine CS (CG (VG (VB (vs:=cG (f,m)) Z fun fb=>?_)))
 refine VG (VO.alloc Z fun rb=>VG (VN ?_))
 refine VC.e_ 2 Z (aW.rep p R) ?_
 rintro x -
 have fin:∀{X:Cx} {fn:Func} {E:Env} (z:Int) (rr:jI) (A':aD),fn.results=#[.tmp 6,.cell 7 ji]→aL X.tab ji=some T.t153→Vg.look E 6=some (.int .i64 z)→Vg.look E 7=some (.pointer (some ⟨rb,0,none⟩))→cj R f now=(z,rr,A') →
   ay X fn (fun v L=>v=.tuple #[.int .i64 (cj R f now).1,.agg (bn (cj R f now).2.1).toArray]∧L=[bA p { R with bK:=(cj R f now).2.2 }]) E [pt p (aS R x) dP,aI aG 2 x.a R.ch.ms.length x.c (flat ax R.ch.ms),cd x.lp R.log,bQ x.wp R.win,bw x.ap A',bW x.rp R.bD,pt rb (bn rr) ji,pt fb (cG (f,m)) hZ]:=fun z rr A' hr hT h4 h5 hj=>
  ay.KW 6 7 hr h4 h5 hT (aE.many (ds:=bn rr) 6 rfl rfl) (ae.rep (R:={ R with bK:=A' }) x (IP 0 rfl (IP 0 rfl (IP 0 rfl (IP 0 rfl (IP 0 rfl (IP 0 rfl ae.nil))))))).ar ⟨by rw[hj],by rw[hj]⟩
 show VC _ _ _ [pt p (aS R x) dP,aI aG 2 x.a R.ch.ms.length x.c (flat ax R.ch.ms),cd x.lp R.log,bQ x.wp R.win,bw x.ap R.bK,bW x.rp R.bD,pt rb (bn c_) ji,pt fb (cG (f,m)) hZ] _
 refine CS (VC.block ?_)
 refine CS (CD (ts 0 5 (.only 5 (ts 6 2 .nil))) yn yr ?_)
 refine OV ?_
 refine AG (VA.ky 7 (cG (f,m)) Z Z Z Z Z ?_)
 refine AG (AR (fun Fr w hF hs hS=>oH Fr w (f,m) (hS.at_ 4 Z)) Z Z yu ?_)
 refine eW ?_
 refine VC.dX Z (fun h1=>?_) (fun h1=>?_)
 ·refine KP ?_
  exact CR (fin 10 c_ R.bK Z Z Z Z (by rw[cj,if_pos h1]))
 have k1:¬R.bK.may f=false:=by rw[h1];simp
 refine CS (CD (ts 0 10 (.only 10 (.take 11 .nil))) yn yr ?_)
 refine OV ?_
 refine AG (AR (fun Fr w hF hs hS=>tC Fr w f.aj f.seq f.ct (hS.at_ 4 Z)) Z Z yu ?_)
 refine eW ?_
 refine CC Z (fun h2=>?_) (fun h2=>?_)
 ·refine KP ?_
  exact CR (fin 7 c_ R.bK Z Z Z Z (by rw[cj,if_neg k1,if_pos h2]))
 have k2:¬R.bK.sJ f.aj f.seq f.ct=true:=by rw[h2];simp
 refine PA ?_
 refine VG (VL 7 (cG (f,m)) Z Z Z Z ?_)
 refine VG (VV (fun Fr w hF hs hS=>uZ Fr w (hS.aP 0 Z) f m) Z ?_)
 refine an ?_
 refine VC.dX Z (fun h3=>?_) (fun h3=>?_)
 ·refine KP ?_
  exact CR (fin 5 c_ R.bK Z Z Z Z (by rw[cj,if_neg k1,if_neg k2,if_pos h3]))
 have k3:¬R.fq f=false:=by rw[h3];simp
 refine an ?_
 refine VG (VV (fun Fr w hF hs hS=>l8 Fr w (hS.aP 0 Z) (aK.aI aF (hS.at_ 1 Z)) ok.ch) Z ?_)
 refine an ?_
 refine VC.dX Z (fun h4=>?_) (fun h4=>?_)
 ·refine KP ?_
  exact CR (fin 4 c_ R.bK Z Z Z Z (by rw[cj,if_neg k1,if_neg k2,if_neg k3,if_pos h4]))
 have k4:¬R.u0=false:=by rw[h4];simp
 refine an ?_
 refine VC.dX Z (fun h5=>?_) (fun h5=>?_)
 ·refine KP ?_
  exact CR (fin 8 c_ R.bK Z Z Z Z (by rw[cj,if_neg k1,if_neg k2,if_neg k3,if_neg k4,if_pos h5]))
 have k5:¬R.whole=false:=by rw[h5];simp
 refine an ?_
 refine VG (VV (fun Fr w hF hs hS=>ly Fr w (hS.aP 0 Z)) Z ?_)
 refine an ?_
 refine CC Z (fun h6=>?_) (fun h6=>CK ?_)
 ·refine KP ?_
  exact CR (fin 3 c_ R.bK Z Z Z Z (by rw[cj,if_neg k1,if_neg k2,if_neg k3,if_neg k4,if_neg k5,if_pos h6]))
 have k6:¬R.dG=true:=by rw[h6];simp
 refine CS (CD (ts 0 6 (.only 6 (ts 7 5 .nil))) yn yr ?_)
 refine OV ?_
 refine AG (AR (fun Fr w hF hs hS=>Lg.fJ Fr w (hS.at_ 2 Z) f.aj) Z Z yu ?_)
 refine eW ?_
 refine CS (VC.block ?_)
 have hi2:=ok.SM f.aj
 have hl1:=ok.last;have hl2:=ok.win.gW
 refine CS ?_
 refine VC.cq (σ:=Unit) (fun _=>[(0,pV p),(2,.int .i64 now),(4,pV fb),(6,.int .i64 0),(7,pV rb),(8,.int .i64 (fK R.log f.aj).1),(9,.int .i64 (fK R.log f.aj).2),(64,.bool ((f.seq == (fK R.log f.aj).1)&&decide (R.win.done<(fK R.log f.aj).2)))])
  (fun _=>[pt p (aS R x) dP,aI aG 2 x.a R.ch.ms.length x.c (flat ax R.ch.ms),cd x.lp R.log,bQ x.wp R.win,bw x.ap R.bK,bW x.rp R.bD,pt rb (bn c_) ji,pt fb (cG (f,m)) hZ]) (fun _=>True) ?_ ?_
 ·refine PA ?_
  cases h7:(f.seq == (fK R.log f.aj).1) with
  | false=>
   refine VG (VY 69 false Z h7 ?_)
   refine eR ?_
   exact X6
  | true=>
   refine VG (VY 69 true Z h7 ?_)
   refine eR ?_
   refine X1 ?_
   refine eR ?_
   exact X6
 rintro _ -
 refine CC Z (fun h7=>?_) (fun h7=>?_)
 ·have k7:f.seq=(fK R.log f.aj).1∧R.win.done<(fK R.log f.aj).2:=by simpa using h7
  refine KP ?_
  exact CR (fin 6 c_ R.bK Z Z Z Z (by rw[cj,if_neg k1,if_neg k2,if_neg k3,if_neg k4,if_neg k5,if_neg k6,if_pos k7]))
 have k7:¬(f.seq=(fK R.log f.aj).1∧R.win.done<(fK R.log f.aj).2):=fun h=>by rw[DT h.2,h.1] at h7;simp at h7
 refine PA ?_
 refine CE Z (fun h8=>?_) (fun h8=>?_)
 ·refine an ?_
  refine VG (VV (fun Fr w hF hs hS=>Lg.tz Fr w (hS.at_ 2 Z) (fK R.log f.aj).2 yd yd) Z ?_)
  refine an ?_
  refine VG (VT (vs:=bn ((pM (aO R.log).2 (fK R.log f.aj).2).getD c_)) 6 Z Z Z Z (NR _) Z Z Z (VG (VN ?_)))
  refine X4 ?_
  refine AG (VA.ky 6 (bn ((pM (aO R.log).2 (fK R.log f.aj).2).getD c_)) Z Z Z Z Z ?_)
  refine eW ?_
  refine AG (AT (vs:=bn ((pM (aO R.log).2 (fK R.log f.aj).2).getD c_)) 6 Z Z Z Z Z (NR _) Z Z Z yu ?_)
  refine eW ?_
  exact CR (fin 0 ((pM (aO R.log).2 (fK R.log f.aj).2).getD c_) R.bK Z Z Z Z (by rw[cj,if_neg k1,if_neg k2,if_neg k3,if_neg k4,if_neg k5,if_neg k6,if_neg k7,if_pos h8]))
 refine PA ?_
 refine CP Z (fun h9=>?_) (fun h9=>?_)
 ·refine KP ?_
  exact CR (fin 7 c_ R.bK Z Z Z Z (by rw[cj,if_neg k1,if_neg k2,if_neg k3,if_neg k4,if_neg k5,if_neg k6,if_neg k7,if_neg h8,if_pos h9]))
 refine an ?_
 refine VG (VV (fun Fr w hF hs hS=>Lg.fh Fr w (hS.at_ 2 Z)) Z ?_)
 refine an ?_
 refine CP Z (fun h10=>?_) (fun h10=>CK ?_)
 ·refine KP ?_
  exact CR (fin 1 c_ R.bK Z Z Z Z (by rw[cj,if_neg k1,if_neg k2,if_neg k3,if_neg k4,if_neg k5,if_neg k6,if_neg k7,if_neg h8,if_neg h9,if_pos yd]))
 refine CS (CD (ts 0 6 (.take 7 (.only 6 (.take 8 (.only 9 .nil))))) yn yr ?_)
 refine OV ?_
 refine AG (VA.ky 7 (cG (f,m)) Z Z Z Z Z ?_)
 refine eW ?_
 refine X5 ?_
 refine AG (AQ 4 Z (fun Fr w hF hs hS=>mX Fr w x.ap R.bK (f,m) (hmm.of hF hs) now) Z Z (ψ:=fun v H=>v=.int .i64 (R.bK.e7 f now).1∧H=bw x.ap (R.bK.e7 f now).2) yy ?_ ?_)
 ·rintro _ _ ⟨rfl,rfl⟩
  exact yu
 rintro _ _ ⟨rfl,rfl⟩
 refine Y1 ?_
 exact CR (fin (R.bK.e7 f now).1 c_ (R.bK.e7 f now).2 Z Z Z Z (by rw[cj,if_neg k1,if_neg k2,if_neg k3,if_neg k4,if_neg k5,if_neg k6,if_neg k7,if_neg h8,if_neg h9,if_neg yd]))
end
end Rep
namespace Rep
open Go Vg T Api Kv Ch Lg Rd Win Adm
attribute [local irreducible] VO VC VA
def iR(R:au)(f:aa)(now:Int):au×List df:=
 if (cj R f now).2.1.code≠0 then ({ R with bK:=(cj R f now).2.2 },[(32+f.aj,jj f.aj f.seq f.ct (cj R f now).2.1)])
 else if (cj R f now).1=0 then ({ R with bK:=(cj R f now).2.2 },[])
 else if (cj R f now).1≠6∧(cj R f now).1≠10 then ({ R with bK:=((cj R f now).2.2.fp f.aj f.seq f.ct).2 },[(32+f.aj,du R.ch.al f (cj R f now).1)])
 else ({ R with bK:=(cj R f now).2.2 },[(32+f.aj,du R.ch.al f (cj R f now).1)])
section
variable {p:Nat} {R:au} {b:Nat} {S:List df}
theorem BV(ok:R.Ok)(hS:S.length≤900000)(f:aa)(m:kQ)(hmm:Dw Fr w m)(now:Int)(hc0:0≤f.aj)(hc1:f.aj≤1000):aH Tryz.prog 191 [.pointer (some ⟨p,0,none⟩),.agg (cG (f,m)).toArray,.int .i64 now,cI b] Fr w [bA p R,aR b S]
  (fun v L=>v=.tuple #[]∧L=[bA p (iR R f now).1,aR b (S++(iR R f now).2)]):=by
 refine TF 53 Tryz.func191 Z yn ah Z Z ?_
 refine CS (CG (VG (VB (vs:=cG (f,m)) Z fun fb=>?_)))
 refine an ?_
 refine VG (VL 0 (cG (f,m)) Z Z Z Z ?_)
 refine VG (VQ 1 Z (fun Fr w hF hs hS=>D8 Fr w ok f m (hmm.of hF hs) now) Z (ψ:=fun v H=>v=.tuple #[.int .i64 (cj R f now).1,.agg (bn (cj R f now).2.1).toArray]∧H=bA p { R with bK:=(cj R f now).2.2 }) yy ?_)
 rintro _ _ ⟨rfl,rfl⟩
 refine VO.e_ 1 Z (aW.rep p _) ?_
 rintro x -
 obtain⟨⟨z,rr,A⟩,hj⟩:∃j,cj R f now=j:=⟨_,rfl⟩
 rw[hj]
 have hu:iR R f now=(if rr.code≠0 then ({ R with bK:=A },[(32+f.aj,jj f.aj f.seq f.ct rr)])
   else if z=0 then ({ R with bK:=A },[])
   else if z≠6∧z≠10 then ({ R with bK:=(A.fp f.aj f.seq f.ct).2 },[(32+f.aj,du R.ch.al f z)])
   else ({ R with bK:=A },[(32+f.aj,du R.ch.al f z)])):=by rw[iR,hj]
 show VO _ _ _ _ _ [pt p (aS R x) dP,aI aG 2 x.a R.ch.ms.length x.c (flat ax R.ch.ms),cd x.lp R.log,bQ x.wp R.win,bw x.ap A,bW x.rp R.bD,pt fb (cG (f,m)) hZ,aR b S] _
 refine an ?_
 refine VG (VO.alloc Z fun rb=>?_)
 refine an ?_
 refine VG (VT (vs:=bn rr) 0 Z Z Z Z (NR _) Z Z Z ?_)
 refine an ?_
 refine VC.bo Z (fun h1=>?_) (fun h1=>CK ?_)
 ·refine PA ?_
  refine VG (VL 0 (bn rr) Z Z Z Z ?_)
  refine VG (VQ 8 Z (fun Fr w hF hs _=>qC Fr w yd f.aj f.seq f.ct hc0 yd rr) Z (ψ:=fun v H=>v=.tuple #[]∧H=aR b (S ++ [(32+f.aj,jj f.aj f.seq f.ct rr)])) yy ?_)
  rintro _ _ ⟨rfl,rfl⟩
  refine an ?_
  exact CR (ay.void Z (ae.rep (R:={ R with bK:=A }) x (IP 1 Z (IP 1 Z (IP 1 Z (IP 1 Z (IP 1 Z (IP 1 Z (IP 2 Z ae.nil)))))))).ar ⟨rfl,by rw[hu,if_pos h1]⟩)
 refine an ?_
 refine CE Z (fun h2=>?_) (fun h2=>CK ?_)
 ·exact CR (ay.void Z (ae.rep (R:={ R with bK:=A }) x (IP 1 Z (IP 1 Z (IP 1 Z (IP 1 Z (IP 1 Z (IP 1 Z (IP 2 Z ae.nil)))))))).ar ⟨rfl,by rw[hu,if_neg (fun h=>h h1),if_pos h2,ZN]⟩)
 refine CS ?_
 refine VC.cq (σ:=aD) (fun _=>[(0,pV p),(3,cI b),(5,pV fb),(8,.int .i64 z)])
  (fun A'=>[pt p (aS R x) dP,aI aG 2 x.a R.ch.ms.length x.c (flat ax R.ch.ms),cd x.lp R.log,bQ x.wp R.win,bw x.ap A',bW x.rp R.bD,pt fb (cG (f,m)) hZ,aR b S]) (fun A'=>A'=if z≠6∧z≠10 then (A.fp f.aj f.seq f.ct).2 else A) ?_ ?_
 ·refine an ?_
  by_cases h3:z=6
  ·refine VG (VY 33 false Z (by simp[h3]) ?_)
   refine Ks ?_
   exact⟨A,by rw[if_neg (fun h=>h.1 h3)],ba,(dF [1,1,1,1,1,1,1,1]).ar⟩
  ·refine VG (VY 33 true Z (by simp[h3]) ?_)
   refine eR ?_
   refine VC.bo Z (fun h4=>?_) (fun h4=>CK ?_)
   ·refine CD (ts 0 10 (.only 10 .nil)) yn yr ?_
    refine OV ?_
    refine AG (AQ 5 Z (fun Fr w hF hs hS=>rE Fr w x.ap A f.aj f.seq f.ct) Z Z (ψ:=fun v H=>v=.int .i64 (A.fp f.aj f.seq f.ct).1∧H=bw x.ap (A.fp f.aj f.seq f.ct).2) yy ?_ ?_)
    ·rintro _ _ ⟨rfl,rfl⟩
     exact yu
    rintro _ _ ⟨rfl,rfl⟩
    refine eW ?_
    exact⟨(A.fp f.aj f.seq f.ct).2,by rw[if_pos ⟨h3,h4⟩],ba,(dF [1,1,1,1,1,1,1,1]).ar⟩
   ·exact⟨A,by rw[if_neg (fun h=>h.2 h4)],ba,(dF [1,1,1,1,1,1,1,1]).ar⟩
 rintro A' hA'
 refine an ?_
 refine VG (VL 6 (cG (f,m)) Z Z Z Z ?_)
 refine an ?_
 refine VG (VQ 7 Z (fun Fr w hF hs hS=>gz Fr w (hS.aP 0 Z) yd f m hc0 yd z) Z (ψ:=fun v H=>v=.tuple #[]∧H=aR b (S ++ [(32+f.aj,du R.ch.al f z)])) yy ?_)
 rintro _ _ ⟨rfl,rfl⟩
 refine an ?_
 exact ay.void Z (ae.rep (R:={ R with bK:=A' }) x (IP 0 Z (IP 0 Z (IP 0 Z (IP 0 Z (IP 0 Z (IP 0 Z (IP 1 Z ae.nil)))))))).ar ⟨rfl,by
  rw[hu,if_neg (fun h=>h h1),if_neg h2,hA']
  split<;>rfl⟩
def dv(R:au)(f:aa)(now:Int):Int:=
 if R.fq f=false then 5 else if R.u3=false then 4 else if R.whole=false then 8 else if f.deadline<now then 2 else if R.iN≤R.bD.l.length then 1 else 0
def gh(al id:Int):aa:={ aa.zero with kind:=9,al:=al,index:=id }
def dR(R:au)(f:aa)(now:Int):au×List df:=
 if dv R f now≠0 then (R,[(32+f.aj,du R.ch.al f (dv R f now))])
 else ({ R with bD:=R.bD.put f (iH (aO R.log).1 f.op.key R.log.length) },[(16,gh R.ch.al (R.bD.last+1))])
theorem jk(ok:R.Ok)(hmost:R.iN=R.bD.cap)(hS:S.length≤900000)(f:aa){ma:Option Addr}{mc:Nat}{ms:List bI}(hm:aK ax 2 Fr w ma ms)(hml:ms.length≤1000000)(now:Int)(hc0:0≤f.aj)(hc1:f.aj≤1000):aH Tryz.prog 190 [.pointer (some ⟨p,0,none⟩),.agg (iD f (ma,ms.length,mc)).toArray,.int .i64 now,cI b] Fr w [bA p R,aR b S]
  (fun v L=>v=.tuple #[]∧L=[bA p (dR R f now).1,aR b (S++(dR R f now).2)]):=by
 refine TF 75 Tryz.func190 Z yn ah Z Z ?_
 refine CS (CG (VG (VB (vs:=iD f (ma,ms.length,mc)) Z fun fb=>VG (VN ?_))))
 refine Ua ?_
 rintro x -
 show VC _ _ _ [pt p (aS R x) dP,aI aG 2 x.a R.ch.ms.length x.c (flat ax R.ch.ms),cd x.lp R.log,bQ x.wp R.win,bw x.ap R.bK,bW x.rp R.bD,pt fb (iD f (ma,ms.length,mc)) hZ,aR b S] _
 have hlen:R.bD.l.length≤16:=by have:=ok.rl;have:=ok.sL;omega
 refine CS (CG (VG (VN (CS ?_))))
 have S4:∀{E:Env} {z:Int},Vg.look E 8=some (.int .i64 z)→z=dv R f now→Vg.look E 0=some (.pointer (some ⟨p,0,none⟩))→Vg.look E 3=some (cI b)→Vg.look E 5=some (.pointer (some ⟨fb,0,none⟩))→Sub [(0,pV p),(3,cI b),(5,pV fb),(8,.int .i64 (dv R f now))] E:=fun h0 h1 h2 h3 h4=>SC h2 (SC h3 (SC h4 (Sub.int h0 h1 (SN _))))
 refine VC.cq (σ:=Unit) (fun _=>[(0,pV p),(3,cI b),(5,pV fb),(8,.int .i64 (dv R f now))])
  (fun _=>[pt p (aS R x) dP,aI aG 2 x.a R.ch.ms.length x.c (flat ax R.ch.ms),cd x.lp R.log,bQ x.wp R.win,bw x.ap R.bK,bW x.rp R.bD,pt fb (iD f (ma,ms.length,mc)) hZ,aR b S]) (fun _=>True) ?_ ?_
 ·refine VC.block ?_
  refine an ?_
  refine VG (VL 6 (iD f (ma,ms.length,mc)) Z Z Z Z ?_)
  refine R0 ?_
  refine an ?_
  refine VC.dX Z (fun h1=>?_) (fun h1=>?_)
  ·refine an ?_
   exact⟨(),trivial,S4 Z (by rw[dv,if_pos h1]) Z Z Z,ER⟩
  have k1:¬R.fq f=false:=by rw[h1];simp
  refine an ?_
  refine XZ ?_
  refine an ?_
  refine VC.dX Z (fun h2=>?_) (fun h2=>?_)
  ·refine an ?_
   exact⟨(),trivial,S4 Z (by rw[dv,if_neg k1,if_pos h2]) Z Z Z,ER⟩
  have k2:¬R.u3=false:=by rw[h2];simp
  refine an ?_
  refine VC.dX Z (fun h3=>?_) (fun h3=>?_)
  ·refine an ?_
   exact⟨(),trivial,S4 Z (by rw[dv,if_neg k1,if_neg k2,if_pos h3]) Z Z Z,ER⟩
  have k3:¬R.whole=false:=by rw[h3];simp
  refine X7 ?_
  refine CP Z (fun h4=>?_) (fun h4=>?_)
  ·refine an ?_
   exact⟨(),trivial,S4 Z (by rw[dv,if_neg k1,if_neg k2,if_neg k3,if_pos h4]) Z Z Z,ER⟩
  refine CS (CD (ts 0 4 (ts 5 4 (.only 4 (ts 9 2 .nil)))) yn yr ?_)
  refine H9 ?_
  refine AG (AR (fun Fr w hF hs hS=>Rd.fh Fr w (hS.at_ 5 Z) ok.tD) Z Z yu ?_)
  refine eW ?_
  refine CP Z (fun h5=>?_) (fun h5=>CK ?_)
  ·refine an ?_
   exact⟨(),trivial,S4 Z (by rw[dv,if_neg k1,if_neg k2,if_neg k3,if_neg h4,if_pos h5]) Z Z Z,ER⟩
  ·exact⟨(),trivial,S4 Z (by rw[dv,if_neg k1,if_neg k2,if_neg k3,if_neg h4,if_neg h5]) Z Z Z,ER⟩
 rintro _ -
 refine an ?_
 refine VC.bo Z (fun hr=>?_) (fun hr=>CK ?_)
 ·refine an ?_
  refine VG (VL 6 (iD f (ma,ms.length,mc)) Z Z Z Z ?_)
  refine an ?_
  refine VG (VQ 7 Z (fun Fr w hF hs hS=>gz Fr w (hS.aP 0 Z) yd f (ma,ms.length,mc) hc0 yd (dv R f now)) Z (ψ:=fun v H=>v=.tuple #[]∧H=aR b (S ++ [(32+f.aj,du R.ch.al f (dv R f now))])) yy ?_)
  rintro _ _ ⟨rfl,rfl⟩
  refine an ?_
  exact CR (ay.void Z (ae.rep x (IP 0 Z (IP 0 Z (IP 0 Z (IP 0 Z (IP 0 Z (IP 0 Z (IP 1 Z ae.nil)))))))).ar ⟨rfl,by rw[dR,if_pos hr]⟩)
 have hnf:(R.bD.l.length:Int)<R.bD.cap:=by
  rw[←hmost]
  unfold dv at hr
  split at hr
  ·cases hr
  split at hr
  ·cases hr
  split at hr
  ·cases hr
  split at hr
  ·cases hr
  split at hr
  ·cases hr
  ·omega
 refine CS (CD (ts 0 12 (.only 12 (.only 13 (ts 14 5 .nil)))) yn yr ?_)
 refine H9 ?_
 refine AG (VA.ky 6 (iD f (ma,ms.length,mc)) Z Z Z Z Z ?_)
 refine H9 ?_
 refine AG (AR (fun Fr w hF hs hS=>Lg.pr Fr w (hS.at_ 2 Z) f.op.key) Z Z yu ?_)
 refine AG (AQ 5 Z (fun Fr w hF hs hS=>Rd.uM Fr w x.rp R.bD ok.tD ok.sL ok.Af (by have:=ok.Bf;omega) f (hm.of hF hs) hml (iH (aO R.log).1 f.op.key R.log.length)) Z Z (ψ:=fun v H=>v=.tuple #[.int .i64 (R.bD.last+1),.int .i64 0]∧H=bW x.rp (R.bD.put f (iH (aO R.log).1 f.op.key R.log.length))) (fun v L h=>⟨_,h.2,by rw[h.1,if_pos hnf],Z⟩) ?_ ?_)
 ·rintro _ _ ⟨rfl,rfl⟩
  exact yu
 rintro _ _ ⟨rfl,rfl⟩
 refine OZ ?_
 refine VG (VI (LB (pv:=[(0,.int .i64 9),(1,.int .i64 R.ch.al),(12,.int .i64 (R.bD.last+1))]) (iD (gh R.ch.al (R.bD.last+1)) ni) Z Z Z yn Z) ?_)
 refine VG (VO.fC 7 Z Z (fun Fr w hF hs _=>iM Fr w b S yd 16 (gh R.ch.al (R.bD.last+1))) Z (ψ:=fun v H=>v=.tuple #[]∧H=aR b (S ++ [(16,gh R.ch.al (R.bD.last+1))])) yy ?_)
 rintro _ _ ⟨rfl,rfl⟩
 refine an ?_
 exact ay.void Z (ae.rep (R:={ R with bD:=R.bD.put f (iH (aO R.log).1 f.op.key R.log.length) }) x (IP 0 Z (IP 0 Z (IP 0 Z (IP 0 Z (IP 0 Z (IP 0 Z (IP 1 Z ae.nil)))))))).ar ⟨rfl,by rw[dR,if_neg (fun h=>h hr)]⟩
end
end Rep
namespace Rep
open Go Vg T Api Kv Ch Lg Rd Win Adm
attribute [local irreducible] VO VC VA
theorem IX{W:cF}(h:W.Ok)(i:Int):(W.Dx i).Ok:=by
 unfold cF.Dx
 split
 ·rename_i hb
  simp only[cF.uc,Z2,decide_eq_true_eq] at hb
  have:=h.jS
  exact⟨h.eV,h.gV,by show 0≤i;omega,hb.2,h.gW,h.gg,h.By,h.DQ,h.DR⟩
 ·exact h
theorem BW(W:cF)(i:Int):(W.Dx i).last=W.last:=by unfold cF.Dx;split<;>rfl
theorem jl{R:au}(h:R.Ok):R.bg.Ok:=by
 unfold au.bg
 split
 ·exact⟨h.ch,IX h.win _,by rw[BW];exact h.last,h.nk,h.np,h.tD,h.sL,h.rl,h.Af,h.Bf,h.xM,h.calls,h.wf⟩
 ·exact h
theorem qD{R:au}(h:R.Ok):R.eJ.Ok:=by
 unfold au.eJ
 split
 ·exact X8
 ·exact h
def fv(R:au)(e:aY):au:={ R with log:=R.log ++ [e],win:={ R.win with last:=R.win.last+1 } }
theorem GN{es:List aY}{e:aY}(h:ed es e=0):rq e=false∧es.length<4096∧e.index=es.length+1∧(dd es e.aj).1<e.seq:=by
 unfold ed at h
 split at h
 ·cases h
 rename_i h1
 split at h
 ·cases h
 rename_i h2
 split at h
 ·cases h
 rename_i h3
 split at h
 ·cases h
 rename_i h4
 exact⟨by simpa using h1,by omega,by omega,by omega⟩
theorem D9{e:aY}(h:rq e=false):0≤e.aj∧e.aj<6∧1≤e.seq:=by
 simp only[rq,Bool.or_eq_false_iff,decide_eq_false_iff_not] at h
 omega
theorem mv{R:au}(h:R.Ok){e:aY}(he:ed R.log e=0)(hr:R.win.room=true):(fv R e).Ok:=by
 obtain⟨b1,b2,b3,b4⟩:=GN he
 have hc:=D9 b1
 simp only[cF.room,Z2,decide_eq_true_eq] at hr
 have hw:=h.win
 have hl:=h.last
 refine⟨h.ch,⟨hw.eV,hw.gV,hw.jS,?_,?_,hw.gg,?_,hw.DQ,hw.DR⟩,?_,?_,?_,h.tD,h.sL,h.rl,h.Af,h.Bf,h.xM,h.calls,h.wf⟩
 ·have:=hw.jT;show R.win.done≤R.win.last+1;omega
 ·show R.win.last+1≤4096;omega
 ·have:=hw.By;show R.win.dq≤R.win.last+1;omega
 ·show R.win.last+1=(R.log ++ [e]).length;rw[ZM,hl];simp
 ·intro y hy
  rcases ZY.1 hy with hy | hy
  ·exact h.nk y hy
  ·obtain rfl:=Z7.1 hy;exact⟨hc.1,hc.2.1⟩
 ·intro y hy
  show _∧y.index≤(R.log ++ [e]).length
  rw[ZM]
  rcases ZY.1 hy with hy | hy
  ·have:=h.np y hy;exact⟨this.1,by simp;omega⟩
  ·obtain rfl:=Z7.1 hy;exact⟨by omega,by simp;omega⟩
theorem IY(R:au)(k:Nat):(iP R k).length=k:=by simp[iP]
theorem jx{R:au}(h:R.Ok):R.f_.length≤4096:=by
 unfold au.f_
 split
 ·rw[IY];have:=h.win.gW;have:=h.win.jS;omega
 ·simp
theorem sM(R:au):R.iO.length≤1:=by unfold au.iO;split<;>simp
theorem oK(R:au):R.iQ.length≤1:=by
 unfold au.iQ
 split
 ·exact sM _
 ·simp
theorem kE(R:au):R.dY.length≤1:=by unfold au.dY;split<;>simp
def BX(R:au)(e:aY):Bool:=(e.index == R.win.last+1)&&decide (0<max (min (R.win.done+R.win.cap) 4096-R.win.last) 0)
theorem u4{R:au}{e:aY}(h:BX R e=true):R.win.room=true:=by
 simp only[BX,Z2,decide_eq_true_eq] at h
 simp only[cF.room,Z2,decide_eq_true_eq]
 omega
def fM(R:au)(e:aY):au×List df:=
 if BX R e=true∧ed R.log e=0 then ((fv R e).bg.eJ,(fv R e).f_++(fv R e).bg.iQ++(fv R e).bg.eJ.dY)
 else (R,R.dY)
section
variable {p:Nat} {R:au} {b:Nat} {S:List df}
theorem Ah(ok:R.Ok)(hS:S.length≤800000)(e:aY)(hi1:-9223372036854775808≤e.index)(hi2:e.index≤9223372036854775807):aH Tryz.prog 196 [.pointer (some ⟨p,0,none⟩),.agg (cM e).toArray,cI b] Fr w [bA p R,aR b S]
  (fun v L=>v=.tuple #[]∧L=[bA p (fM R e).1,aR b (S++(fM R e).2)]):=by
 have w0:=ok.win.eV
 have w1:=ok.win.gW;have w2:=ok.win.jS;have w3:=ok.win.jT
 refine TF 50 Tryz.func196 Z yn ah Z Z ?_
 refine CS (CG (VG (VB (vs:=cM e) Z fun eb=>VG (VN ?_))))
 refine CS ?_
 refine VC.cq (σ:=au×List df) (fun _=>[(0,pV p),(2,cI b)]) (fun y=>[bA p y.1,aR b (S++y.2)]) (fun y=>y.1.Ok∧y.2.length≤10000∧fM R e=(y.1,y.2++y.1.dY)) ?_ ?_
 ·refine Ua ?_
  rintro x -
  show VC _ _ _ [pt p (aS R x) dP,aI aG 2 x.a R.ch.ms.length x.c (flat ax R.ch.ms),cd x.lp R.log,bQ x.wp R.win,bw x.ap R.bK,bW x.rp R.bD,pt eb (cM e) iI,aR b S] _
  have shut:∀{X:Cx} {T:List df},jq X [pt p (aS R x) dP,aI aG 2 x.a R.ch.ms.length x.c (flat ax R.ch.ms),cd x.lp R.log,bQ x.wp R.win,bw x.ap R.bK,bW x.rp R.bD,pt eb (cM e) iI,aR b T] [bA p R,aR b T]:=
   (ae.rep x (dF [0,0,0,0,0,0,1])).ar
  have none_:¬(BX R e=true∧ed R.log e=0)→R.Ok∧([]:List df).length≤10000∧fM R e=(R,[]++R.dY):=fun h=>⟨ok,by simp,by rw[fM,if_neg h];rfl⟩
  refine CS (CD (ts 0 6 (.only 6 (ts 7 7 (.only 14 (ts 15 2 .nil))))) yn yr ?_)
  refine H9 ?_
  refine AG (AR (fun Fr w hF hs hS=>Win.fJ Fr w (hS.aP 3 Z) w0) Z Z yu ?_)
  refine H8 ?_
  refine eW ?_
  cases h1:(e.index == R.win.last+1) with
  | false=>
   refine AG (AY 17 false Z h1 ?_)
   refine PG ?_
   refine sk ?_
   exact⟨(R,[]),none_ (fun h=>by rw[BX,h1] at h;exact absurd h.1 yf),ba,by dsimp only;rw[ZN];exact shut⟩
  | true=>
  refine AG (AY 17 true Z h1 ?_)
  (repeat(first|refine yG (yN ?_)|refine yG (yD 0 rfl rfl rfl rfl rfl ?_)|refine yG (yD 1 rfl rfl rfl rfl rfl ?_)|refine yG (yD 2 rfl rfl rfl rfl rfl ?_)|refine yG (yD 3 rfl rfl rfl rfl rfl ?_)|refine yG (yD 4 rfl rfl rfl rfl rfl ?_)|refine yG (yD 5 rfl rfl rfl rfl rfl ?_)|refine yG (yD 6 rfl rfl rfl rfl rfl ?_)|refine yG (yU rfl rfl rfl rfl ?_)))
  refine AG (AR (fun Fr w hF hs hS=>Win.free_spec Fr w (hS.aP 3 Z) ok.win) Z Z yu ?_)
  refine lW ?_
  refine CP Z (fun h2=>?_) (fun h2=>CK ?_)
  rotate_left
  ·exact⟨(R,[]),none_ (fun h=>by rw[BX,h1,DF h2] at h;exact absurd h.1 yf),ba,by dsimp only;rw[ZN];exact shut⟩
  have hfb:BX R e=true:=by rw[BX,h1,DT h2];rfl
  refine CS ?_
  refine VC.cq (σ:=Nat) (fun rb=>[(0,pV p),(2,cI b),(7,.int .i64 (ed R.log e))]) (fun rb=>[pt rb (bn (iJ R.log e)) ji,pt p (aS R x) dP,aI aG 2 x.a R.ch.ms.length x.c (flat ax R.ch.ms),cd x.lp (fX R.log e),bQ x.wp R.win,bw x.ap R.bK,bW x.rp R.bD,pt eb (cM e) iI,aR b S]) (fun _=>True) ?_ ?_
  ·refine X9 ?_
   refine H9 ?_
   refine AG (VA.ky 6 (cM e) Z Z Z Z Z ?_)
   refine AG (VA.two Z Z Z Z Z (a8.jf (ψ:=fun v H=>v=.tuple #[.agg (bn (iJ R.log e)).toArray,.int .i64 (ed R.log e)]∧H=cd x.lp (fX R.log e)) 2 Z (fun Fr w hF hs hS=>Lg.lu Fr w x.lp R.log e) Z yy) Z Z Z (a8.alloc Z) ?_ ?_ ?_ ?_)
   ·rintro _ _ ⟨_,⟨rfl,rfl⟩,rfl⟩
    exact yu
   ·rintro _ _ ⟨rb,rfl,rfl⟩
    exact yu
   ·rintro _ _ ⟨_,⟨rfl,rfl⟩,rfl⟩
    refine eW ?_
    refine AG (AO (a8.alloc Z) Z ?_ ?_)
    ·rintro _ _ ⟨rb,rfl,rfl⟩
     exact yu
    rintro _ _ ⟨rb,rfl,rfl⟩
    refine AG (AT (vs:=bn (iJ R.log e)) 0 Z Z Z Z Z (NR _) Z Z Z yu ?_)
    exact Us
   ·rintro _ _ ⟨rb,rfl,rfl⟩
    refine AG (AO (a8.jf (ψ:=fun v H=>v=.tuple #[.agg (bn (iJ R.log e)).toArray,.int .i64 (ed R.log e)]∧H=cd x.lp (fX R.log e)) 3 Z (fun Fr w hF hs hS=>Lg.lu Fr w x.lp R.log e) Z yy) Z ?_ ?_)
    ·rintro _ _ ⟨_,⟨rfl,rfl⟩,rfl⟩
     exact yu
    rintro _ _ ⟨_,⟨rfl,rfl⟩,rfl⟩
    refine eW ?_
    refine AG (AT (vs:=bn (iJ R.log e)) 0 Z Z Z Z Z (NR _) Z Z Z yu ?_)
    exact Us
  rintro rb -
  refine an ?_
  refine CE Z (fun h3=>?_) (fun h3=>CK ?_)
  rotate_left
  ·have hla:fX R.log e=R.log:=by rw[fX,if_neg h3]
   rw[hla]
   exact⟨(R,[]),none_ (fun h=>h3 h.2),ba,by
    dsimp only;rw[ZN]
    exact(ae.rep x (dF [1,1,1,1,1,1,2])).ar⟩
  have hla:fX R.log e=R.log ++ [e]:=by rw[fX,if_pos h3]
  have hroom:=u4 hfb
  have okp:=mv ok h3 hroom
  rw[hla]
  refine jd ?_
  refine VG (VQ 4 Z (fun Fr w hF hs hS=>Win.jh Fr w ok.win hroom) Z (ψ:=fun v H=>v=.bool true∧H=bQ x.wp { R.win with last:=R.win.last+1 }) yy ?_)
  rintro _ _ ⟨rfl,rfl⟩
  refine VO.ar (L':=[bA p (fv R e),aR b S]) (ae.rep (R:=fv R e) x (dF [1,1,1,1,1,1,2])).ar ?_
  refine an ?_
  refine VG (VK (Lc:=[bA p (fv R e),aR b S]) (Lr:=[]) (fun Fr w hF hs hS=>oJ Fr w okp yd) Z Z ?_)
  rintro _ _ ⟨rfl,rfl⟩
  have fl:=jx okp
  refine an ?_
  refine VG (VK (Lc:=[bA p (fv R e).bg,aR b (S++(fv R e).f_)]) (Lr:=[]) (fun Fr w hF hs hS=>tE Fr w (jl okp) Km) Z Z ?_)
  rintro _ _ ⟨rfl,rfl⟩
  have bl:=oK (fv R e).bg
  refine an ?_
  refine⟨((fv R e).bg.eJ,(fv R e).f_++(fv R e).bg.iQ),⟨qD (jl okp),by dsimp only;rw[ZM];omega,by rw[fM,if_pos ⟨hfb,h3⟩]⟩,ba,?_⟩
  dsimp only
  rw[ZX]
  exact ER
 rintro⟨R',T⟩ ⟨ok',hT,hf⟩
 dsimp only at ok' hT hf ⊢
 refine VC.e_ 0 Z (aW.rep p R') ?_
 rintro x -
 show VC _ _ _ (iB p R' x b (S++T)) _
 unfold iB
 refine an ?_
 refine VG (VQ 6 Z (fun Fr w hF hs hS=>nj Fr w (fW.GM hS 0 Z Z Z Z Z Z) ok'.ch ok'.win Km) Z (ψ:=fun v H=>v=.tuple #[]∧H=aR b (S++T++R'.dY)) yy ?_)
 rintro _ _ ⟨rfl,rfl⟩
 refine an ?_
 exact ay.void Z (dQ (R:=R') (x:=x)).ar ⟨rfl,by rw[hf,ZX]⟩
end
end Rep
namespace Rep
open Go Vg T Api Kv Ch Lg Rd Win Adm
attribute [local irreducible] VO VC VA
def jm(R:au)(f:aa):au:=if R.linked then { R with cL:=max R.cL f.cL } else { R with linked:=true,cL:=f.cL,win:={ R.win with dq:=min (max f.cL 0) R.win.last } }
def oL(R:au)(f:aa):au:={ jm R f with win:={ (jm R f).win with gM:=max (jm R f).win.gM (min f.tr 4112) } }
def oM(R:au)(f:aa):au×List df:=
 ({ oL R f with win:=(oL R f).win.Dx f.index },if (oL R f).win.uc f.index then au.dY { oL R f with win:=(oL R f).win.Dx f.index } else [])
theorem Fu{R:au}(h:R.Ok)(f:aa):(jm R f).Ok:=by
 unfold jm
 split
 ·exact X8
 ·have hw:=h.win
  refine⟨h.ch,⟨hw.eV,hw.gV,hw.jS,hw.jT,hw.gW,?_,?_,hw.DQ,hw.DR⟩,h.last,h.nk,h.np,h.tD,h.sL,h.rl,h.Af,h.Bf,h.xM,h.calls,h.wf⟩
  ·show 0≤min (max f.cL 0) R.win.last
   have:=hw.jS;have:=hw.jT;omega
  ·show min (max f.cL 0) R.win.last≤R.win.last;omega
theorem Fv{R:au}(h:R.Ok)(f:aa):(oL R f).Ok:=by
 have h1:=Fu h f
 have hw:=h1.win
 unfold oL
 refine⟨h1.ch,⟨hw.eV,hw.gV,hw.jS,hw.jT,hw.gW,hw.gg,hw.By,?_,?_⟩,h1.last,h1.nk,h1.np,h1.tD,h1.sL,h1.rl,h1.Af,h1.Bf,h1.xM,h1.calls,h1.wf⟩
 ·show 0≤max (jm R f).win.gM (min f.tr 4112);have:=hw.DQ;omega
 ·show max (jm R f).win.gM (min f.tr 4112)≤4112;have:=hw.DR;omega
theorem Fw{R:au}(h:R.Ok)(f:aa):(oM R f).1.Ok:=by
 have h2:=Fv h f
 exact⟨h2.ch,IX h2.win _,by show((oL R f).win.Dx f.index).last=_;rw[BW];exact h2.last,h2.nk,h2.np,h2.tD,h2.sL,h2.rl,h2.Af,h2.Bf,h2.xM,h2.calls,h2.wf⟩
section
variable {p:Nat} {R:au} {b:Nat} {S:List df}
theorem ri(ok:R.Ok)(hS:S.length≤800000)(f:aa)(m:kQ):aH Tryz.prog 197 [.pointer (some ⟨p,0,none⟩),.agg (iD f m).toArray,cI b] Fr w [bA p R,aR b S]
  (fun v L=>v=.tuple #[]∧L=[bA p (oM R f).1,aR b (S++(oM R f).2)]):=by
 have ok1:=Fu ok f
 have ok2:=Fv ok f
 refine TF 52 Tryz.func197 Z yn ah Z Z ?_
 refine CS (CG (VG (VB (vs:=iD f m) Z fun fb=>VG (VN ?_))))
 refine Ua ?_
 rintro x -
 show VC _ _ _ [pt p (aS R x) dP,aI aG 2 x.a R.ch.ms.length x.c (flat ax R.ch.ms),cd x.lp R.log,bQ x.wp R.win,bw x.ap R.bK,bW x.rp R.bD,pt fb (iD f m) hZ,aR b S] _
 refine CS ?_
 refine VC.cq (σ:=Unit) (fun _=>[(0,pV p),(2,cI b),(4,pV fb)]) (fun _=>[pt p (aS (jm R f) x) dP,aI aG 2 x.a R.ch.ms.length x.c (flat ax R.ch.ms),cd x.lp R.log,bQ x.wp (jm R f).win,bw x.ap R.bK,bW x.rp R.bD,pt fb (iD f m) hZ,aR b S]) (fun _=>True) ?_ ?_
 ·refine an ?_
  cases hl:R.linked with
  | true=>
   have e:jm R f={ R with cL:=max R.cL f.cL }:=by rw[jm,hl];rfl
   refine wF ?_
   refine CD (ts 0 10 (.only 10 .nil)) yn yr ?_
   refine H9 ?_
   refine AG (VA.st 0 (cs':=aS { R with cL:=if R.cL<f.cL then f.cL else R.cL } x) Z Z Z Z Z (ZT Z) Z Z yu ?_)
   refine eW ?_
   exact⟨(),trivial,ba,by rw[e,show max R.cL f.cL=(if R.cL<f.cL then f.cL else R.cL) by split<;>omega];exact ER⟩
  | false=>
   have e:jm R f={ R with linked:=true,cL:=f.cL,win:={ R.win with dq:=min (max f.cL 0) R.win.last } }:=by rw[jm,hl];rfl
   refine H5 ?_
   refine CS (CD (ts 0 6 (.only 6 (ts 7 2 (.only 9 .nil)))) yn yr ?_)
   refine H9 ?_
   refine AG (VA.st 0 (cs':=aS { R with linked:=true } x) Z Z Z Z Z (ZT Z) Z Z yu ?_)
   refine H9 ?_
   refine AG (VA.st 0 (cs':=aS { R with linked:=true,cL:=f.cL } x) Z Z Z Z Z (ZT Z) Z Z yu ?_)
   refine eW ?_
   refine T7 ?_
   refine H9 ?_
   refine AG (AQ 3 Z (fun Fr w hF hs hS=>Win.xE Fr w ok.win f.cL) Z Z (ψ:=fun v H=>v=.tuple #[]∧H=bQ x.wp { R.win with dq:=min (max f.cL 0) R.win.last }) yy ?_ ?_)
   ·rintro _ _ ⟨rfl,rfl⟩
    exact yu
   rintro _ _ ⟨rfl,rfl⟩
   refine eW ?_
   exact⟨(),trivial,ba,by rw[e];exact ER⟩
 rintro _ -
 have e1:(jm R f).ch=R.ch∧(jm R f).log=R.log∧(jm R f).bK=R.bK∧(jm R f).bD=R.bD:=by unfold jm;split<;>exact⟨rfl,rfl,rfl,rfl⟩
 refine TU ?_
 refine H9 ?_
 refine AG (AQ 3 Z (fun Fr w hF hs hS=>Win.DS Fr w ok1.win f.tr) Z Z (ψ:=fun v H=>v=.tuple #[]∧H=bQ x.wp (oL R f).win) yy ?_ ?_)
 ·rintro _ _ ⟨rfl,rfl⟩
  exact yu
 rintro _ _ ⟨rfl,rfl⟩
 refine eW ?_
 refine TU ?_
 refine H9 ?_
 refine AG (AQ 3 Z (fun Fr w hF hs hS=>Win.ri Fr w ok2.win f.index) Z Z (ψ:=fun v H=>v=.bool ((oL R f).win.uc f.index)∧H=bQ x.wp ((oL R f).win.Dx f.index)) yy ?_ ?_)
 ·rintro _ _ ⟨rfl,rfl⟩
  exact yu
 rintro _ _ ⟨rfl,rfl⟩
 refine eW ?_
 have oka:=Fw ok f
 have hrep:D6 p (oM R f).1 x=[pt p (aS (jm R f) x) dP,aI aG 2 x.a R.ch.ms.length x.c (flat ax R.ch.ms),cd x.lp R.log,bQ x.wp ((oL R f).win.Dx f.index),bw x.ap R.bK,bW x.rp R.bD]:=by
  show [pt p (aS (jm R f) x) dP,aI aG 2 x.a (jm R f).ch.ms.length x.c (flat ax (jm R f).ch.ms),cd x.lp (jm R f).log,_,bw x.ap (jm R f).bK,bW x.rp (jm R f).bD]=_
  rw[e1.1,e1.2.1,e1.2.2.1,e1.2.2.2];rfl
 refine CN (L':=D6 p (oM R f).1 x ++ [aR b S]) (by rw[hrep];exact(dF [0,0,0,0,0,0,1]).ar) ?_
 refine CC Z (fun hb=>?_) (fun hb=>CK ?_)
 ·refine an ?_
  refine VG (VQ 6 Z (fun Fr w hF hs hS=>nj (R:=(oM R f).1) Fr w (fW.GM hS 0 Z Z Z Z Z Z) oka.ch oka.win yd) Z (ψ:=fun v H=>v=.tuple #[]∧H=aR b (S++(oM R f).1.dY)) yy ?_)
  rintro _ _ ⟨rfl,rfl⟩
  refine an ?_
  exact ay.void Z (dQ (R:=(oM R f).1) (x:=x)).ar ⟨rfl,by rw[show(oM R f).2=(oM R f).1.dY by rw[oM,hb];rfl]⟩
 ·exact ay.void Z (dQ (R:=(oM R f).1) (x:=x)).ar ⟨rfl,by rw[show(oM R f).2=[] by rw[oM,hb];rfl,ZN]⟩
def oN(al:Int)(e:aY):aa:={ aa.zero with kind:=4,al:=al,entry:=e }
def cZ(R:au):Nat→cF×List df
 | 0=>(R.win,[])
 | k+1=>((cZ R k).1.next,(cZ R k).2 ++ [(R.dA,oN R.ch.al ((pM R.log ((cZ R k).1.dq+1)).getD lJ))])
def iu(R:au):Nat:=(min R.win.last R.win.gM-R.win.dq).toNat
def u5(R:au):au×List df:=({ R with win:=(cZ R (iu R)).1 },(cZ R (iu R)).2)
theorem px(R:au):∀k,k≤iu R→(cZ R k).1={ R.win with dq:=R.win.dq+k }
 | 0,_=>by simp[cZ]
 | k+1,h=>by
  unfold iu at h
  rw[cZ,px R k (by unfold iu;omega)]
  have hb:({ R.win with dq:=R.win.dq+k }:cF).ez=true:=by simp only[cF.ez,Z2,decide_eq_true_eq];omega
  rw[cF.next,if_pos hb]
  have:R.win.dq+(k:Int)+1=R.win.dq+((k+1:Nat):Int):=by push_cast;omega
  show cF.mk _ _ _ (R.win.dq+(k:Int)+1) _=cF.mk _ _ _ (R.win.dq+((k+1:Nat):Int)) _
  rw[this]
theorem sN(R:au):∀k,(cZ R k).2.length=k
 | 0=>rfl
 | k+1=>by rw[cZ,ZM,sN R k];rfl
theorem Fx{W:cF}(h:W.Ok):W.next.Ok:=by
 unfold cF.next
 split
 ·rename_i hb
  simp only[cF.ez,Z2,decide_eq_true_eq] at hb
  have:=h.gg
  exact⟨h.eV,h.gV,h.jS,h.jT,h.gW,by show 0≤W.dq+1;omega,by show W.dq+1≤W.last;omega,h.DQ,h.DR⟩
 ·exact h
theorem u6{R:au}(h:R.Ok):∀k,(cZ R k).1.Ok
 | 0=>h.win
 | k+1=>Fx (u6 h k)
end
section
variable {p:Nat} {R:au} {b:Nat} {S:List df}
theorem sy(ok:R.Ok)(hS:S.length≤800000):aH Tryz.prog 103 [.pointer (some ⟨p,0,none⟩),cI b] Fr w [bA p R,aR b S]
  (fun v L=>v=.tuple #[]∧L=[bA p (u5 R).1,aR b (S++(u5 R).2)]):=by
 have w1:=ok.win.gW;have w2:=ok.win.gg;have w3:=ok.win.By;have w4:=ok.win.DR;have w5:=ok.win.DQ
 have hlast:=ok.last
 have hK:iu R≤4096:=by unfold iu;omega
 refine TF 47 Tryz.func103 Z yn ah Z Z ?_
 refine Rr ?_
 rintro x -
 show VC _ _ _ (iB p R x b S) _
 unfold iB
 refine an ?_
 refine X_ ?_
 refine an ?_
 have hnx:∀k,k≤iu R→((cZ R k).1.ez=decide (k<iu R)):=fun k hk=>by
  rw[px R k hk]
  unfold iu at hk ⊢
  simp only[cF.ez]
  by_cases h:(R.win.dq+(k:Int)<R.win.last)∧(R.win.dq+(k:Int)<R.win.gM)
  ·rw[DT h.1,DT h.2,DT yd];rfl
  ·rw[DF (show ¬k<(min R.win.last R.win.gM-R.win.dq).toNat by omega)]
   by_cases h1:R.win.dq+(k:Int)<R.win.last
   ·rw[DT h1,DF (fun h2=>h ⟨h1,h2⟩)];rfl
   ·rw[DF h1];rfl
 refine VG (VQ 3 Z (fun Fr w hF hs hS=>Win.gG Fr w ok.win) Z (ψ:=fun v H=>v=.tuple #[.int .i64 (if R.win.ez then R.win.dq+1 else 0),.bool R.win.ez]∧H=bQ x.wp R.win.next) yy ?_)
 rintro _ _ ⟨rfl,rfl⟩
 refine an ?_
 refine VC.loop (σ:=Nat) (fun k=>[(0,pV p),(1,cI b),(4,.int .i64 R.dA),(5,.int .i64 (if (cZ R k).1.ez then (cZ R k).1.dq+1 else 0)),(6,.bool (cZ R k).1.ez)])
  (fun k=>[pt p (aS R x) dP,aI aG 2 x.a R.ch.ms.length x.c (flat ax R.ch.ms),cd x.lp R.log,bQ x.wp (cZ R k).1.next,bw x.ap R.bK,bW x.rp R.bD,aR b (S++(cZ R k).2)])
  (fun k=>k≤iu R) (fun k=>iu R-k) 0
  (ZO _) ba (by rw[show(cZ R 0).2=[] from rfl,ZN];exact ER) ?_
 intro k hk
 have hnk:=hnx k hk
 have hwk:=px R k hk
 have hpl:=sN R k
 have hok:=u6 ok k
 refine an ?_
 refine CC Z (fun h1=>CK ?_) (fun h1=>CX ?_)
 ·have hk2:k<iu R:=by rw[h1] at hnk;exact of_decide_eq_true hnk.symm
  have hs1:(cZ R k).1.dq=R.win.dq+k:=by rw[hwk]
  have hbd:R.win.dq+(k:Int)<R.win.last:=by unfold iu at hk2;omega
  have hwk2:(cZ R (k+1)).1=(cZ R k).1.next:=rfl
  rw[h1]
  obtain⟨j,e,hj1,hj2,hj3,hj4⟩:=rm (l:=R.log) (i:=(cZ R k).1.dq+1) yd yd
  refine CS (VC.block ?_)
  refine an ?_
  refine VG (VV (fun Fr w hF hs hS=>Lg.rn Fr w (hS.at_ 2 Z) ((cZ R k).1.dq+1) yd yd) Z ?_)
  refine an ?_
  refine VG (VO.alloc Z fun eb=>?_)
  refine VG (VT (vs:=cM ((pM R.log ((cZ R k).1.dq+1)).getD lJ)) 0 Z Z Z Z (NR _) Z Z Z (VG (VN ?_)))
  refine CD (ts 0 9 (.only 9 .nil)) yn yr ?_
  refine qg ?_
  refine AG (VA.ky 0 (cM ((pM R.log ((cZ R k).1.dq+1)).getD lJ)) Z Z Z Z Z ?_)
  refine AG (AI Z (LB (pv:=[(0,.int .i64 4),(1,.int .i64 R.ch.al),(10,.agg (cM ((pM R.log ((cZ R k).1.dq+1)).getD lJ)).toArray)]) (iD (oN R.ch.al ((pM R.log ((cZ R k).1.dq+1)).getD lJ)) ni) Z Z Z yn Z) ?_)
  refine AG (VA.fC 7 Z Z (fun Fr w hF hs _=>iM Fr w b (S++(cZ R k).2) Km R.dA (oN R.ch.al ((pM R.log ((cZ R k).1.dq+1)).getD lJ))) Z Z (ψ:=fun v H=>v=.tuple #[]∧H=aR b (S++(cZ R k).2 ++ [(R.dA,oN R.ch.al ((pM R.log ((cZ R k).1.dq+1)).getD lJ))])) yy ?_ ?_)
  ·rintro _ _ ⟨rfl,rfl⟩
   exact yu
  rintro _ _ ⟨rfl,rfl⟩
  refine eW ?_
  refine jd ?_
  refine VG (VQ 4 Z (fun Fr w hF hs hS=>Win.gG Fr w (Fx hok)) Z (ψ:=fun v H=>v=.tuple #[.int .i64 (if (cZ R (k+1)).1.ez then (cZ R (k+1)).1.dq+1 else 0),.bool (cZ R (k+1)).1.ez]∧H=bQ x.wp (cZ R (k+1)).1.next) yy ?_)
  rintro _ _ ⟨rfl,rfl⟩
  refine an ?_
  refine⟨k+1,hk2,by dsimp only;omega,ba,?_⟩
  dsimp only
  rw[show(cZ R (k+1)).2=(cZ R k).2 ++ [(R.dA,oN R.ch.al ((pM R.log ((cZ R k).1.dq+1)).getD lJ))] from rfl,←ZX]
  exact(dF [1,1,1,1,1,1,1]).ar
 ·have hk2:k=iu R:=by
   rw[h1] at hnk
   have:¬k<iu R:=of_decide_eq_false hnk.symm
   omega
  have hwn:(cZ R k).1.next=(cZ R k).1:=by rw[cF.next,h1];rfl
  rw[hwn,hk2]
  exact ay.void Z (ae.rep (R:=(u5 R).1) x (IP 0 Z (IP 0 Z (IP 0 Z (IP 0 Z (IP 0 Z (IP 0 Z (IP 0 Z ae.nil)))))))).ar ⟨rfl,Z⟩
end
end Rep
namespace Rep
open Go Vg T Api Kv Ch Lg Rd Win Adm Sched
attribute [local irreducible] VO VC VA
def refs(al:Int)(gs:List aa)(reason:Int):List df:=gs.map fun f=>(32+f.aj,du al f reason)
def dB(R:au)(now:Int):aa:=(eP (R.bK.cu now).bP).1
def u7(R:au)(now:Int):Bool:=(eP (R.bK.cu now).bP).2.1
def eE(R:au)(now:Int):aY:=⟨R.log.length+1,(dB R now).aj,(dB R now).seq,(dB R now).op⟩
def nU(R:au)(now:Int):au:={ R with bK:=R.bK.dA now }
def dw(R:au)(now:Int):au×List df×Bool:=
 if u7 R now=false then (nU R now,refs R.ch.al (R.bK.bP.cB now) 2,false)
 else if ed R.log (eE R now)≠0 then ({ R with bK:=((R.bK.dA now).fp (dB R now).aj (dB R now).seq (dB R now).ct).2 },refs R.ch.al (R.bK.bP.cB now) 2 ++ [(32+(dB R now).aj,du R.ch.al (dB R now) 7)],true)
 else ((fv (nU R now) (eE R now)).bg,refs R.ch.al (R.bK.bP.cB now) 2++(fv (nU R now) (eE R now)).f_,true)
theorem u9{R:au}(h:R.Ok)(now:Int):(nU R now).Ok:=⟨h.ch,h.win,h.last,h.nk,h.np,h.tD,h.sL,h.rl,h.Af,h.Bf,h.xM,D4 h.wf h.calls now,NO h.wf now⟩
theorem u_{A:aD}(h:A.Calls)(k s t:Int):(A.fp k s t).2.Calls:=by
 have e:(A.fp k s t).2.bP=A.bP∧(A.fp k s t).2.aB=A.aB:=by
  unfold aD.fp
  split
  ·exact⟨by show(A.lM k s t).bP=_;unfold aD.lM;split<;>rfl,nh A k s t⟩
  ·exact⟨rfl,Z⟩
 unfold aD.Calls
 rw[e.1,e.2];exact h
theorem va{R:au}(h:R.Ok){A:aD}(hC:A.Calls)(hW:A.Wf):({ R with bK:=A }:au).Ok:=⟨h.ch,h.win,h.last,h.nk,h.np,h.tD,h.sL,h.rl,h.Af,h.Bf,h.xM,hC,hW⟩
theorem py{R:au}(h:R.Ok)(hr:R.win.room=true)(now:Int):(dw R now).1.Ok:=by
 have hn:=u9 h now
 unfold dw
 split
 ·exact hn
 split
 ·exact va h (u_ hn.calls _ _ _) (hn.wf.fp _ _ _)
 ·rename_i h2
  exact jl (mv hn (by show ed R.log _=0;omega) hr)
theorem rG{R:au}(h:R.Ok)(now:Int):(R.bK.bP.cB now).length≤64:=by
 have:=aA.Wf.Qy h.wf.bP R.bK.bP.cls.length now
 rw[Z'] at this;exact this
theorem BY{R:au}(h:R.Ok)(now:Int)(ho:u7 R now=true):0≤(dB R now).aj∧(dB R now).aj<6:=by
 obtain⟨h1,h2,h3⟩:=ir h.wf now
 obtain⟨k,q,e1,e2⟩:=uj h1.bP ho
 have hc:=pw h.wf h.calls now _ (ME e1) (dB R now) (by simp[dB])
 have:=h.wf.c1
 exact⟨hc.1.1,by have:=hc.1.2;rw[h2] at this;omega⟩
section
variable {p:Nat} {R:au} {b:Nat} {S:List df}
theorem D_(ok:R.Ok)(hr:R.win.room=true)(hS:S.length≤800000)(now:Int):aH Tryz.prog 102 [.pointer (some ⟨p,0,none⟩),.int .i64 now,cI b] Fr w [bA p R,aR b S]
  (fun v L=>v=.bool (dw R now).2.2∧L=[bA p (dw R now).1,aR b (S++(dw R now).2.1)]):=by
 have hg64:=rG ok now
 have hn:=u9 ok now
 have hgc:=Ad ok.calls now
 have hc6:=ok.wf.c1
 refine TF 85 Tryz.func102 Z yn ah Z Z ?_
 refine Rr ?_
 rintro x -
 show VC _ _ _ (iB p R x b S) _
 unfold iB
 refine an ?_
 refine VO.ar (L':=[bw x.ap R.bK,pt p (aS R x) dP,aI aG 2 x.a R.ch.ms.length x.c (flat ax R.ch.ms),cd x.lp R.log,bQ x.wp R.win,bW x.rp R.bD,aR b S]) (dF [4,0,0,0,0,0,0]).ar ?_
 refine VG (VK (Lc:=[bw x.ap R.bK]) (fun Fr w hF hs hS=>Adm.gG Fr w x.ap R.bK now ok.wf ok.calls) Z Z ?_)
 rintro _ _ ⟨r,m,rok,hrx,rfl,rfl⟩
 show VO _ _ _ _ _ [r.h 204,bw x.ap (R.bK.dA now),pt p (aS R x) dP,aI aG 2 x.a R.ch.ms.length x.c (flat ax R.ch.ms),cd x.lp R.log,bQ x.wp R.win,bW x.rp R.bD,aR b S] _
 refine an ?_
 refine VG (VO.alloc Z fun fb=>?_)
 refine VG (VT (vs:=cG (dB R now,m)) 0 Z Z Z Z (NR _) Z Z Z ?_)
 have hrv:r.v=.slice r.addr r.xs.length r.cap:=rfl
 rw[hrv]
 refine an ?_
 refine VC.loop (σ:=Nat) (fun i=>[(0,pV p),(2,cI b),(7,pV fb),(8,.bool (u7 R now)),(25,.slice r.addr r.xs.length r.cap),(26,.int .i64 r.xs.length),(27,.int .i64 i)])
  (fun i=>[pt fb (cG (dB R now,m)) hZ,r.h hZ,bw x.ap (R.bK.dA now),pt p (aS R x) dP,aI aG 2 x.a R.ch.ms.length x.c (flat ax R.ch.ms),cd x.lp R.log,bQ x.wp R.win,bW x.rp R.bD,aR b (S++refs R.ch.al ((R.bK.bP.cB now).take i) 2)])
  (fun i=>i≤r.xs.length) (fun i=>r.xs.length-i) 0
  (ZO _) ba (by rw[List.take_zero,show refs R.ch.al [] 2=[] from rfl,ZN];exact ER) ?_
 intro i hi
 have hxl:r.xs.length=(R.bK.bP.cB now).length:=by rw[←hrx];simp
 refine an ?_
 refine CP Z (fun h1=>CK ?_) (fun h1=>CX ?_)
 ·have hi2:i<r.xs.length:=by omega
  obtain⟨g,hg⟩:∃g,r.xs[i]?=some g:=⟨_,GE hi2⟩
  have hgg:(R.bK.bP.cB now)[i]?=some g.1:=by rw[←hrx,ZS,hg];rfl
  have hcl:=hgc g.1 (ME hgg)
  obtain⟨gb,go,r1,r2,hrd⟩:=rok.ld (t:=hZ) hg rfl
  rw[r2]
  refine KN ?_
  refine VG (VO.load Z Z ((hrd 1 Z).1 _ Z Z) ?_)
  refine VG (VO.alloc Z fun tb=>?_)
  refine VG (VT (vs:=cG g) 0 Z Z Z Z (NR _) Z Z Z ?_)
  refine an ?_
  refine VG (VL 0 (cG g) Z Z Z Z ?_)
  refine VG (VQ 9 Z (fun Fr w hF hs hS=>gz Fr w (hS.aP 4 Z) Xe g.1 g.2 hcl.1.1 (by have:=hcl.1.2;omega) 2) Z (ψ:=fun v H=>v=.tuple #[]∧H=aR b (S++refs R.ch.al ((R.bK.bP.cB now).take i) 2 ++ [(32+g.1.aj,du R.ch.al g.1 2)])) yy ?_)
  rintro _ _ ⟨rfl,rfl⟩
  refine sh ?_
  refine⟨i+1,hi2,by dsimp only;omega,ba,?_⟩
  dsimp only
  rw[show refs R.ch.al ((R.bK.bP.cB now).take (i+1)) 2=refs R.ch.al ((R.bK.bP.cB now).take i) 2 ++ [(32+g.1.aj,du R.ch.al g.1 2)] by rw[ZZ,hgg];simp[refs],←ZX]
  exact(dF [1,1,1,1,1,1,1,1,1]).ar
 ·obtain rfl:i=r.xs.length:=by omega
  rw[hxl,Z']
  have hrl:(refs R.ch.al (R.bK.bP.cB now) 2).length≤64:=by rw[refs,ZR];exact hg64
  refine an ?_
  refine VC.dX Z (fun ho=>?_) (fun ho=>CK ?_)
  ·refine an ?_
   exact CR (ay.tmp 6 Z Z (ae.rep (R:=nU R now) x (IP 3 Z (IP 3 Z (IP 3 Z (IP 3 Z (IP 2 Z (IP 2 Z (IP 2 Z ae.nil)))))))).ar ⟨by rw[dw,if_pos ho],by rw[dw,if_pos ho]⟩)
  have hno:¬u7 R now=false:=by rw[ho];simp
  have hcf:=BY ok now ho
  have w1:=ok.win.gW;have hla:=ok.last
  refine CS ?_
  refine VC.cq (σ:=Nat) (fun eb=>[(0,pV p),(2,cI b),(7,pV fb),(12,pV eb)]) (fun eb=>[pt eb (cM (eE R now)) iI,pt fb (cG (dB R now,m)) hZ,r.h hZ,bw x.ap (R.bK.dA now),pt p (aS R x) dP,aI aG 2 x.a R.ch.ms.length x.c (flat ax R.ch.ms),cd x.lp R.log,bQ x.wp R.win,bW x.rp R.bD,aR b (S++refs R.ch.al (R.bK.bP.cB now) 2)]) (fun _=>True) ?_ ?_
  ·refine CD (ts 0 4 (ts 6 6 (.two 4 13 (.take 5 (.take 12 (.only 13 (.only 14 .nil)))) (.only 4 (.take 5 (.take 12 (.only 14 .nil))))))) yn yr ?_
   refine t_ ?_
   refine AG (VA.ky 0 (dB R now).op.cells Z Z Z Z Z ?_)
   refine AG (VA.two Z Z Z Z Z (a8.de (φ:=fun v=>v=.int .i64 R.log.length) (fun Fr w hF hs hS=>Lg.fh Fr w (hS.at_ 5 Z)) Z) Z Z Z (a8.alloc Z) ?_ ?_ ?_ ?_)
   ·rintro _ _ ⟨rfl,rfl⟩
    exact yu
   ·rintro _ _ ⟨eb,rfl,rfl⟩
    exact yu
   ·rintro _ _ ⟨rfl,rfl⟩
    refine H8 ?_
    refine Ya ?_
    refine AG (AO (a8.alloc Z) Z ?_ ?_)
    ·rintro _ _ ⟨eb,rfl,rfl⟩
     exact yu
    rintro _ _ ⟨eb,rfl,rfl⟩
    refine AG (AT (vs:=cM (eE R now)) 0 Z Z Z Z Z (NR _) Z Z Z yu ?_)
    refine eW ?_
    exact⟨eb,trivial,ba,ER⟩
   ·rintro _ _ ⟨eb,rfl,rfl⟩
    refine AG (AO (a8.de (φ:=fun v=>v=.int .i64 R.log.length) (fun Fr w hF hs hS=>Lg.fh Fr w (hS.at_ 6 Z)) Z) Z ?_ ?_)
    ·rintro _ _ ⟨rfl,rfl⟩
     exact yu
    rintro _ _ ⟨rfl,rfl⟩
    refine H8 ?_
    refine Ya ?_
    refine AG (AT (vs:=cM (eE R now)) 0 Z Z Z Z Z (NR _) Z Z Z yu ?_)
    refine eW ?_
    exact⟨eb,trivial,ba,ER⟩
  rintro eb -
  refine CS (CS ?_)
  refine VC.cq (σ:=Nat) (fun rb=>[(0,pV p),(2,cI b),(7,pV fb),(14,.int .i64 (ed R.log (eE R now)))]) (fun rb=>[pt rb (bn (iJ R.log (eE R now))) ji,pt eb (cM (eE R now)) iI,pt fb (cG (dB R now,m)) hZ,r.h hZ,bw x.ap (R.bK.dA now),pt p (aS R x) dP,aI aG 2 x.a R.ch.ms.length x.c (flat ax R.ch.ms),cd x.lp (fX R.log (eE R now)),bQ x.wp R.win,bW x.rp R.bD,aR b (S++refs R.ch.al (R.bK.bP.cB now) 2)]) (fun _=>True) ?_ ?_
  ·refine X9 ?_
   refine Ko ?_
   refine AG (VA.ky 0 (cM (eE R now)) Z Z Z Z Z ?_)
   refine AG (VA.two Z Z Z Z Z (a8.jf (ψ:=fun v H=>v=.tuple #[.agg (bn (iJ R.log (eE R now))).toArray,.int .i64 (ed R.log (eE R now))]∧H=cd x.lp (fX R.log (eE R now))) 6 Z (fun Fr w hF hs hS=>Lg.lu Fr w x.lp R.log (eE R now)) Z yy) Z Z Z (a8.alloc Z) ?_ ?_ ?_ ?_)
   ·rintro _ _ ⟨_,⟨rfl,rfl⟩,rfl⟩
    exact yu
   ·rintro _ _ ⟨rb,rfl,rfl⟩
    exact yu
   ·rintro _ _ ⟨_,⟨rfl,rfl⟩,rfl⟩
    refine eW ?_
    refine AG (AO (a8.alloc Z) Z ?_ ?_)
    ·rintro _ _ ⟨rb,rfl,rfl⟩
     exact yu
    rintro _ _ ⟨rb,rfl,rfl⟩
    refine Yb ?_
    exact Us
   ·rintro _ _ ⟨rb,rfl,rfl⟩
    refine AG (AO (a8.jf (ψ:=fun v H=>v=.tuple #[.agg (bn (iJ R.log (eE R now))).toArray,.int .i64 (ed R.log (eE R now))]∧H=cd x.lp (fX R.log (eE R now))) 7 Z (fun Fr w hF hs hS=>Lg.lu Fr w x.lp R.log (eE R now)) Z yy) Z ?_ ?_)
    ·rintro _ _ ⟨_,⟨rfl,rfl⟩,rfl⟩
     exact yu
    rintro _ _ ⟨_,⟨rfl,rfl⟩,rfl⟩
    refine eW ?_
    refine Yb ?_
    exact Us
  rintro rb -
  refine an ?_
  refine VC.bo Z (fun he=>?_) (fun he=>CK ?_)
  ·have hap:fX R.log (eE R now)=R.log:=by rw[fX,if_neg he]
   rw[hap]
   refine U5 ?_
   refine Bh ?_
   refine AG (AQ 4 Z (fun Fr w hF hs hS=>rE Fr w x.ap (R.bK.dA now) (dB R now).aj (dB R now).seq (dB R now).ct) Z Z (ψ:=fun v H=>H=bw x.ap ((R.bK.dA now).fp (dB R now).aj (dB R now).seq (dB R now).ct).2) (fun v L h=>⟨_,h.2,Z⟩) ?_ ?_)
   ·rintro _ _ rfl
    exact yu
   rintro _ _ rfl
   refine OZ ?_
   refine VG (VL 2 (cG (dB R now,m)) Z Z Z Z ?_)
   refine VG (VQ 10 Z (fun Fr w hF hs hS=>gz Fr w (hS.aP 5 Z) Km (dB R now) m hcf.1 yd 7) Z (ψ:=fun v H=>v=.tuple #[]∧H=aR b (S++refs R.ch.al (R.bK.bP.cB now) 2 ++ [(32+(dB R now).aj,du R.ch.al (dB R now) 7)])) yy ?_)
   rintro _ _ ⟨rfl,rfl⟩
   refine an ?_
   exact CR (ay.tmp 6 Z Z (ae.rep (R:={ R with bK:=((R.bK.dA now).fp (dB R now).aj (dB R now).seq (dB R now).ct).2 }) x (IP 5 Z (IP 5 Z (IP 5 Z (IP 5 Z (IP 4 Z (IP 4 Z (IP 4 Z ae.nil)))))))).ar ⟨by rw[dw,if_neg hno,if_pos he],by rw[dw,if_neg hno,if_pos he,←ZX]⟩)
  have hap:fX R.log (eE R now)=R.log ++ [eE R now]:=by rw[fX,if_pos he]
  rw[hap]
  have okp:=mv hn (e:=eE R now) he hr
  refine TV ?_
  refine VG (VQ 8 Z (fun Fr w hF hs hS=>Win.jh Fr w ok.win hr) Z (ψ:=fun v H=>v=.bool true∧H=bQ x.wp { R.win with last:=R.win.last+1 }) yy ?_)
  rintro _ _ ⟨rfl,rfl⟩
  refine VO.ar (L':=[bA p (fv (nU R now) (eE R now)),aR b (S++refs R.ch.al (R.bK.bP.cB now) 2)]) (ae.rep (R:=fv (nU R now) (eE R now)) x (dF [5,5,5,5,4,4,4])).ar ?_
  refine an ?_
  refine VG (VK (Lc:=[bA p (fv (nU R now) (eE R now)),aR b (S++refs R.ch.al (R.bK.bP.cB now) 2)]) (Lr:=[]) (fun Fr w hF hs hS=>oJ Fr w okp Km) Z Z ?_)
  rintro _ _ ⟨rfl,rfl⟩
  refine an ?_
  exact CR (ay.tmp 6 Z Z ER ⟨by rw[dw,if_neg hno,if_neg (fun h=>h he)],by rw[dw,if_neg hno,if_neg (fun h=>h he),←ZX];rfl⟩)
end
end Rep
namespace Rep
open Go Vg T Api Kv Ch Lg Rd Win Adm Sched
attribute [local irreducible] VO VC VA
def BZ(qs:List (List aa)):Nat:=(qs.map List.length).sum
def Kx(A:aD):Nat:=BZ A.bP.qs
theorem B0:∀{qs:List (List aa)} {k:Nat} {f:aa} {q:List aa},qs[k]?=some (f::q)→BZ (qs.set k q)+1=BZ qs
 | [],k,f,q,h=>by simp at h
 | x::qs,0,f,q,h=>by
  simp only[List.getElem?_cons_zero,Option.some.injEq] at h
  subst h
  simp[BZ];omega
 | x::qs,k+1,f,q,h=>by
  have ih:=B0 (qs:=qs) (k:=k) (f:=f) (q:=q) yc
  simp only[BZ,List.set_cons_succ,List.map_cons,List.sum_cons] at ih ⊢
  omega
theorem tF(p:aa→Bool):∀qs:List (List aa),BZ (qs.map fun q=>q.filter p)≤BZ qs
 | []=>NR _
 | x::qs=>by
  have ih:=tF p qs
  have:=List.length_filter_le p x
  simp only[BZ,List.map_cons,List.sum_cons] at ih ⊢
  omega
theorem IZ{R:au}(h:R.Ok)(now:Int)(ho:u7 R now=true):Kx (R.bK.dA now)<Kx R.bK:=by
 obtain⟨h1,h2,h3⟩:=ir h.wf now
 obtain⟨k,q,e1,e2⟩:=uj h1.bP ho
 have e3:(R.bK.dA now).bP=(eP (R.bK.cu now).bP).2.2:=by
  unfold aD.dA
  split<;>rfl
 have h4:=B0 e1
 have h5:=tF (stay now) R.bK.bP.qs
 rw[←IE,←h3] at h5
 unfold Kx
 rw[e3,e2]
 omega
theorem QE{R:au}(h:R.Ok):Kx R.bK≤64:=by
 have:=aA.Wf.ZD h.wf.bP R.bK.bP.cls.length
 rw[Z',List.length_flatMap] at this
 show((R.bK.bP.cls.map dK.q).map List.length).sum≤64
 rw[List.map_map];exact this
theorem GO{R:au}(h:R.Ok)(now:Int)(ho:(dw R now).2.2=true):Kx (dw R now).1.bK<Kx R.bK:=by
 unfold dw at ho ⊢
 split at ho
 ·cases ho
 ·rename_i h1
  have hn:=IZ h now (by simpa using h1)
  rw[if_neg h1]
  split
  ·have e:((R.bK.dA now).fp (dB R now).aj (dB R now).seq (dB R now).ct).2.bP=(R.bK.dA now).bP:=by
    unfold aD.fp
    split
    ·show((R.bK.dA now).lM _ _ _).bP=_;unfold aD.lM;split<;>rfl
    ·rfl
   show Kx ((R.bK.dA now).fp _ _ _).2<_
   unfold Kx at hn ⊢
   rw[e];exact hn
  ·have e:(fv (nU R now) (eE R now)).bg.bK=R.bK.dA now:=by unfold au.bg;split<;>rfl
   show Kx (fv (nU R now) (eE R now)).bg.bK<_
   rw[e];exact hn
theorem tG{R:au}(h:R.Ok)(hr:R.win.room=true)(now:Int):(dw R now).2.1.length≤4200:=by
 have hg:(refs R.ch.al (R.bK.bP.cB now) 2).length≤64:=by rw[refs,ZR];exact rG h now
 unfold dw
 split
 ·show(refs _ _ _).length≤4200;omega
 split
 ·show(refs R.ch.al (R.bK.bP.cB now) 2 ++ [(32+(dB R now).aj,du R.ch.al (dB R now) 7)]).length≤4200;rw[ZM];simp;omega
 ·rename_i h2
  have:=jx (mv (u9 h now) (e:=eE R now) (by show ed R.log _=0;omega) hr)
  show(refs R.ch.al (R.bK.bP.cB now) 2++(fv (nU R now) (eE R now)).f_).length≤4200
  rw[ZM];omega
def cQ(now:Int):Nat→au→au×List df
 | 0,R=>(R,[])
 | k+1,R=>if R.win.room=true then
   if (dw R now).2.2=true then ((cQ now k (dw R now).1).1,(dw R now).2.1++(cQ now k (dw R now).1).2)
   else ((dw R now).1,(dw R now).2.1)
  else (R,[])
def lO(R:au)(now:Int):au:={ R with bD:={ R.bD with l:=R.bD.l.filter (pX now) } }
def lP(R:au)(now:Int):List df:=refs R.ch.al ((R.bD.l.filter (fun y=>!pX now y)).map Qw.f) 2
def nq(R:au):Bool:=R.u0&&(R.whole && !R.dG)
def step2(R:au)(now:Int):au×List df:=if nq (lO R now) then cQ now 65 (lO R now) else (lO R now,[])
def ja(R:au)(now:Int):au×List df:=if (step2 R now).1.linked then u5 (step2 R now).1 else ((step2 R now).1,[])
def gN(R:au)(now:Int):au×List df:=((ja R now).1,lP R now++(step2 R now).2++(ja R now).2)
theorem uk{R:au}(h:R.Ok)(now:Int):(lO R now).Ok:=⟨h.ch,h.win,h.last,h.nk,h.np,h.tD,h.sL,by
 have:=h.rl;have h2:=List.length_filter_le (pX now) R.bD.l
 show((R.bD.l.filter (pX now)).length:Int)≤R.bD.cap;omega,h.Af,h.Bf,fun y hy=>h.xM y (Z6.1 hy).1,h.calls,h.wf⟩
theorem rH(now:Int):∀(k:Nat) {R:au},R.Ok→(cQ now k R).1.Ok
 | 0,R,h=>h
 | k+1,R,h=>by
  rw[cQ]
  split
  ·rename_i hr
   split
   ·exact rH now k (py h hr now)
   ·exact py h hr now
  ·exact h
theorem lQ(now:Int):∀(k:Nat) {R:au},R.Ok→(cQ now k R).2.length≤k*4200
 | 0,R,h=>NR _
 | k+1,R,h=>by
  rw[cQ]
  split
  ·rename_i hr
   have h1:=tG h hr now
   split
   ·have:=lQ now k (py h hr now)
    rw[ZM];omega
   ·show(dw R now).2.1.length≤_;omega
  ·simp
theorem I1{R:au}(h:R.Ok):(u5 R).1.Ok:=by
 have hw:=u6 h (iu R)
 have e:=px R (iu R) (NR _)
 exact⟨h.ch,hw,by show(cZ R (iu R)).1.last=_;rw[e];exact h.last,h.nk,h.np,h.tD,h.sL,h.rl,h.Af,h.Bf,h.xM,h.calls,h.wf⟩
theorem rI{R:au}(h:R.Ok)(now:Int):(step2 R now).1.Ok:=by
 unfold step2
 split
 ·exact rH now 65 (uk h now)
 ·exact uk h now
theorem I2{R:au}(h:R.Ok)(now:Int):(gN R now).1.Ok:=by
 show(ja R now).1.Ok
 unfold ja
 split
 ·exact I1 (rI h now)
 ·exact rI h now
section
variable {p:Nat} {R:au}
def dq(S:List df)(v:Value)(L:List HP)(H:List HP):Prop:=∃a c,v=.slice a S.length c∧L=H ++ [aI iA 30 a S.length c (flat wU S)]
theorem GP(ok:R.Ok)(now:Int):aH Tryz.prog 60 [.pointer (some ⟨p,0,none⟩),.int .i64 now] Fr w [bA p R]
  (fun v L=>dq (gN R now).2 v L [bA p (gN R now).1]):=by
 have hrl:R.bD.l.length≤16:=by have:=ok.rl;have:=ok.sL;omega
 have ok1:=uk ok now
 have ok2:=rI ok now
 refine TF 72 Tryz.func60 Z yn ah Z Z ?_
 refine Rr ?_
 rintro x -
 show VC _ _ _ [pt p (aS R x) dP,aI aG 2 x.a R.ch.ms.length x.c (flat ax R.ch.ms),cd x.lp R.log,bQ x.wp R.win,bw x.ap R.bK,bW x.rp R.bD] _
 refine an ?_
 refine Vf ?_
 refine Kr ?_
 refine VG (VO.alloc Z fun ob=>?_)
 refine an ?_
 refine Vh ?_
 refine jd ?_
 refine VO.ar (L':=[bW x.rp R.bD,pt p (aS R x) dP,aI aG 2 x.a R.ch.ms.length x.c (flat ax R.ch.ms),cd x.lp R.log,bQ x.wp R.win,bw x.ap R.bK,aR ob []]) (IP 6 Z (IP 1 Z (IP 1 Z (IP 1 Z (IP 1 Z (IP 1 Z (ae.out (none,0) (IP 0 Z (ae.bZ ae.nil))))))))).ar ?_
 refine VG (VK (Lc:=[bW x.rp R.bD]) (fun Fr w hF hs hS=>Rd.im Fr w ok.tD yd now) Z Z ?_)
 rintro _ _ ⟨ga,gc,rows,hrows,rfl,rfl⟩
 have hrowl:rows.length≤16:=by
  have:=congrArg List.length hrows
  rw[ZR] at this
  have h2:=List.length_filter_le (fun y=>!pX now y) R.bD.l
  omega
 show VO _ _ _ _ _ [bW x.rp (lO R now).bD,aI mR 34 ga rows.length gc (flat jH rows),pt p (aS R x) dP,aI aG 2 x.a R.ch.ms.length x.c (flat ax R.ch.ms),cd x.lp R.log,bQ x.wp R.win,bw x.ap R.bK,aR ob []] _
 refine VO.e_ 1 Z (aW.rl mR ga gc rows ru) ?_
 rintro r ⟨rok,hrv,hrx⟩
 show VO _ _ _ _ _ [r.h mR,bW x.rp (lO R now).bD,pt p (aS R x) dP,aI aG 2 x.a R.ch.ms.length x.c (flat ax R.ch.ms),cd x.lp R.log,bQ x.wp R.win,bw x.ap R.bK,aR ob []] _
 refine an ?_
 have hexp:∀i,i≤rows.length→((rows.take i).map fun y=>y.1.f).length=i:=fun i hi=>by simp;omega
 refine VC.loop (σ:=Nat) (fun i=>[(0,pV p),(1,.int .i64 now),(5,pV ob),(6,cI ob),(18,.slice ga rows.length gc),(19,.int .i64 rows.length),(20,.int .i64 i)])
  (fun i=>[r.h mR,bW x.rp (lO R now).bD,pt p (aS R x) dP,aI aG 2 x.a R.ch.ms.length x.c (flat ax R.ch.ms),cd x.lp R.log,bQ x.wp R.win,bw x.ap R.bK,aR ob (refs R.ch.al ((rows.take i).map fun y=>y.1.f) 2)])
  (fun i=>i≤rows.length) (fun i=>rows.length-i) 0
  (ZO _) ba ER ?_
 intro i hi
 refine an ?_
 refine CP Z (fun h1=>CK ?_) (fun h1=>CX ?_)
 ·have hi2:i<rows.length:=by omega
  obtain⟨g,hg⟩:∃g,rows[i]?=some g:=⟨_,GE hi2⟩
  have hgm:g.1∈R.bD.l:=by
   have h2:g.1∈rows.map Prod.fst:=Z0.2 ⟨g,ME hg,rfl⟩
   rw[hrows] at h2
   exact(Z6.1 h2).1
  have hcl:=ok.xM g.1 hgm
  obtain⟨gb,go,r1,r2,hrd⟩:=rok.ld (t:=mR) (hrx▸hg) rfl
  obtain rfl:ga=some ⟨gb,go,none⟩:=by rw[RL.v,r2,hrx] at hrv;injection hrv with e1;exact e1.symm
  refine KN ?_
  refine Vi ?_
  refine VG (VO.alloc Z fun tb=>?_)
  refine Vj ?_
  refine an ?_
  refine VG (VL 0 (iD g.1.f g.2) Z Z Z Z ?_)
  refine VG (VQ 8 Z (fun Fr w hF hs hS=>gz Fr w (hS.aP 3 Z) (by rw[refs,ZR,hexp i yd];omega) g.1.f g.2 hcl.1 yd 2) Z (ψ:=fun v H=>v=.tuple #[]∧H=aR ob (refs R.ch.al ((rows.take i).map fun y=>y.1.f) 2 ++ [(32+g.1.f.aj,du R.ch.al g.1.f 2)])) yy ?_)
  rintro _ _ ⟨rfl,rfl⟩
  refine sh ?_
  refine⟨i+1,hi2,by dsimp only;omega,ba,?_⟩
  dsimp only
  rw[show refs R.ch.al ((rows.take (i+1)).map fun y=>y.1.f) 2=refs R.ch.al ((rows.take i).map fun y=>y.1.f) 2 ++ [(32+g.1.f.aj,du R.ch.al g.1.f 2)] by rw[ZZ,hg];simp[refs]]
  exact(dF [1,1,1,1,1,1,1,1]).ar
 obtain rfl:i=rows.length:=by omega
 rw[Z']
 have hes:refs R.ch.al (rows.map fun y=>y.1.f) 2=lP R now:=by
  unfold lP
  rw[←hrows,List.map_map];rfl
 have hel:(lP R now).length≤16:=by rw[←hes,refs,ZR,ZR];exact hrowl
 rw[hes]
 refine CN (L':=[bA p (lO R now),aR ob (lP R now)]) (ae.rep (R:=lO R now) x (dF [2,2,2,2,2,1,1])).ar ?_
 have hl2:(step2 R now).2.length≤273000:=by
  unfold step2
  split
  ·have:=lQ now 65 ok1;omega
  ·simp
 refine CS ?_
 refine VC.cq (σ:=Unit) (fun _=>[(0,pV p),(5,pV ob),(6,cI ob)]) (fun _=>[bA p (step2 R now).1,aR ob (lP R now++(step2 R now).2)]) (fun _=>True) ?_ ?_
 ·have no:nq (lO R now)=false→∀{X:Cx} {y:qA},jq X (iB p (lO R now) y ob (lP R now)) [bA p (step2 R now).1,aR ob (lP R now++(step2 R now).2)]:=fun h {X} {y}=>by
   have e:step2 R now=(lO R now,[]):=by rw[step2,h];rfl
   rw[e,ZN];exact dQ.ar
  refine VC.e_ 0 Z (aW.rep p (lO R now)) ?_
  rintro x2 -
  show VC _ _ _ (iB p (lO R now) x2 ob (lP R now)) _
  refine an ?_
  refine VG (VV (fun Fr w hF hs hS=>l8 Fr w (fW.GM hS 0 Z Z Z Z Z Z).aP (fW.GM hS 0 Z Z Z Z Z Z).mem ok1.ch) Z ?_)
  refine an ?_
  cases h1:(lO R now).u0 with
  | false=>
   refine VG (VY 32 false Z Z ?_)
   refine eR ?_
   refine VG (VY 38 false Z Z ?_)
   refine Ks ?_
   exact⟨(),trivial,ba,no (by rw[nq,h1];rfl)⟩
  | true=>
  refine VG (VY 32 true Z Z ?_)
  refine eR ?_
  cases h2:R.whole with
  | false=>
   refine VG (VY 38 false Z h2 ?_)
   refine Ks ?_
   exact⟨(),trivial,ba,no (by rw[nq,h1];show(true&&(R.whole&&_))=false;rw[h2];rfl)⟩
  | true=>
  refine VG (VY 38 true Z h2 ?_)
  refine eR ?_
  refine VG (VV (fun Fr w hF hs hS=>ly Fr w (fW.GM hS 0 Z Z Z Z Z Z).aP) Z ?_)
  refine eR ?_
  refine VC.dX Z (fun h3=>?_) (fun h3=>CK ?_)
  rotate_left
  ·exact⟨(),trivial,ba,no (by rw[nq,h1,h3];show(true&&(R.whole&&_))=false;rw[h2];rfl)⟩
  have hsb:nq (lO R now)=true:=by rw[nq,h1,h3];show(true&&(R.whole&&_))=true;rw[h2];rfl
  have he2:step2 R now=cQ now 65 (lO R now):=by rw[step2,hsb];rfl
  have ht:=QE ok1
  refine CN (L':=[bA p (lO R now),aR ob (lP R now)]) dQ.ar ?_
  refine an ?_
  refine VC.loop (σ:=Nat×au×List df) (fun _=>[(0,pV p),(1,.int .i64 now),(5,pV ob),(6,cI ob)]) (fun y=>[bA p y.2.1,aR ob (lP R now++y.2.2)])
   (fun y=>y.2.1.Ok∧Kx y.2.1.bK<y.1∧y.2.2.length+y.1*4200≤273000∧cQ now 65 (lO R now)=((cQ now y.1 y.2.1).1,y.2.2++(cQ now y.1 y.2.1).2)) (fun y=>y.1) (65,lO R now,[])
   ⟨ok1,by dsimp only;omega,by simp,rfl⟩ ba (by dsimp only;rw[ZN];exact ER) ?_
  rintro⟨k,Q,T⟩ ⟨okQ,htQ,hlT,hlp⟩
  dsimp only at okQ htQ hlT hlp ⊢
  obtain⟨k,rfl⟩:∃j,k=j+1:=⟨k-1,by omega⟩
  have q1:=okQ.win.gW;have q2:=okQ.last
  refine VC.e_ 0 Z (aW.rep p Q) ?_
  rintro x3 -
  show VC _ _ _ (iB p Q x3 ob (lP R now++T)) _
  unfold iB
  refine an ?_
  refine VG (VV (fun Fr w hF hs hS=>Win.free_spec Fr w (hS.aP 3 Z) okQ.win) Z ?_)
  refine an ?_
  by_cases hroom:Q.win.room=true
  ·have hr2:Q.win.last<Q.win.done+Q.win.cap∧Q.win.last<4096:=by simpa[cF.room] using hroom
   refine VG (VY 49 true Z (DT yd) ?_)
   refine eR ?_
   refine VG (VV (fun Fr w hF hs hS=>Lg.fh Fr w (hS.at_ 2 Z)) Z ?_)
   refine eR ?_
   refine VG (VY 57 true Z (DT yd) ?_)
   refine eR ?_
   refine VO.ar (L':=[bA p Q,aR ob (lP R now++T)]) (dQ (x:=x3)).ar ?_
   refine VG (VK (Lc:=[bA p Q,aR ob (lP R now++T)]) (Lr:=[]) (fun Fr w hF hs hS=>D_ Fr w okQ hroom Km now) Z Z ?_)
   rintro _ _ ⟨rfl,rfl⟩
   have hss:=tG okQ hroom now
   refine eR ?_
   refine CC Z (fun hs=>CK ?_) (fun hs=>CX ?_)
   ·have hst:=GO okQ now hs
    refine an ?_
    refine CK ?_
    refine⟨(k,(dw Q now).1,T++(dw Q now).2.1),⟨py okQ hroom now,by dsimp only;omega,by dsimp only;rw[ZM];omega,?_⟩,by dsimp only;omega,ba,?_⟩
    ·dsimp only
     rw[hlp,cQ,if_pos hroom,if_pos hs,ZX]
    ·dsimp only;rw[←ZX];exact ER
   ·refine⟨(),trivial,ba,?_⟩
    rw[he2,hlp,cQ,if_pos hroom,if_neg (by rw[hs];simp),←ZX]
    exact ER
  ·have hr2:¬(0<max (min (Q.win.done+Q.win.cap) 4096-Q.win.last) 0):=fun h=>hroom (by simp only[cF.room,Z2,decide_eq_true_eq];omega)
   refine VG (VY 49 false Z (DF hr2) ?_)
   refine eR ?_
   refine R1 ?_
   refine eR ?_
   refine VC.jt Z (CX ?_)
   refine⟨(),trivial,ba,?_⟩
   rw[he2,hlp,cQ,if_neg hroom,ZN]
   exact(dQ (x:=x3)).ar
 rintro _ -
 refine CS ?_
 refine VC.cq (σ:=Unit) (fun _=>[(5,pV ob)]) (fun _=>[bA p (gN R now).1,aR ob (gN R now).2]) (fun _=>True) ?_ ?_
 ·refine VC.e_ 0 Z (aW.rep p (step2 R now).1) ?_
  rintro x2 -
  show VC _ _ _ (iB p (step2 R now).1 x2 ob (lP R now++(step2 R now).2)) _
  unfold iB
  refine an ?_
  refine CC Z (fun hk=>?_) (fun hk=>CK ?_)
  ·have e3:ja R now=u5 (step2 R now).1:=by rw[ja,hk];rfl
   refine CN (L':=[bA p (step2 R now).1,aR ob (lP R now++(step2 R now).2)]) (dQ (x:=x2)).ar ?_
   refine an ?_
   refine VG (VK (Lc:=[bA p (step2 R now).1,aR ob (lP R now++(step2 R now).2)]) (Lr:=[]) (fun Fr w hF hs hS=>sy Fr w ok2 Km) Z Z ?_)
   rintro _ _ ⟨rfl,rfl⟩
   refine an ?_
   exact⟨(),trivial,ba,by show jq _ _ [bA p (ja R now).1,aR ob (lP R now++(step2 R now).2++(ja R now).2)];rw[e3];exact ER⟩
  ·have e3:ja R now=((step2 R now).1,[]):=by rw[ja,hk];rfl
   exact⟨(),trivial,ba,by show jq _ _ [bA p (ja R now).1,aR ob (lP R now++(step2 R now).2++(ja R now).2)];rw[e3,ZN];exact(dQ (x:=x2)).ar⟩
 rintro _ -
 refine VC.e_ 1 Z (aW.out ob _) ?_
 rintro⟨a,c⟩ -
 show VC _ _ _ [pt ob [.slice a (gN R now).2.length c] NQ,aI iA 30 a (gN R now).2.length c (flat wU (gN R now).2),bA p (gN R now).1] _
 refine an ?_
 exact CR (ay.tmp 4 Z Z (IP 2 Z (IP 1 Z ae.nil)).ar ⟨a,c,Z,Z⟩)
end
end Rep
namespace Rep
open Go Vg T Api Kv Ch Lg Rd Win Adm Sched
attribute [local irreducible] VO VC VA
theorem B1{c:dO}{a:Option Addr}{cap:Nat}(h:aK ax 2 Fr w a c.ms)(hl:c.ms.length≤1000000):aH Tryz.prog 125 [.agg (c.cells a cap).toArray] Fr w []
  (fun v L=>∃a' c',v=.agg (c.cells a' c').toArray∧L=[aI aG 2 a' c.ms.length c' (flat ax c.ms)]):=by
 refine TF 8 Tryz.func125 Z yn ah Z Z ?_
 refine CS (CG (VG (VB (vs:=c.cells a cap) Z (fun b=>VG (VO.alloc Z fun d=>VG (VN ?_))))))
 refine jd ?_
 refine Yc ?_
 refine VG (VO.append (m:=c.ms.length) (news:=flat ax c.ms) 0 Z Z Z Z Z Z Z (aK.row aF h) (gU kB _) Xp yd fun a' c' _=>?_)
 rw[ZQ,List.nil_append]
 refine an ?_
 refine VG (VO.st 2 (cs':=c.cells a' c') Z Z Z Z OQ Z Z (VG (VN ?_)))
 refine CS (CG (VG (VL 2 (c.cells a' c') Z Z Z Z (VG (VT (vs:=c.cells a' c') (cs':=c.cells a' c') 1 Z Z Z Z (NR _) Z Z Z (VG (VN ?_)))))))
 exact Vk
def nt:Int:=9223372036854775807
def nu(R:au)(c:dO):au:={ R with bK:=R.bK.cu nt,bD:={ R.bD with l:=[] },ch:=c }
def B2(R:au)(c:dO):Bool:=(a7 c R.id).2&&decide ((a7 c R.id).1≠R.since)
def RI(R:au)(c:dO):Bool:=!(a7 c R.id).2||decide ((a7 c R.id).1≠R.since)
def kF(R:au)(c:dO):au:={ nu R c with log:=if B2 R c then [] else R.log,win:=if B2 R c then cF.new R.cap else R.win }
def vb(R:au)(c:dO):au:={ kF R c with whole:=if RI R c then false else R.whole }
def oO(R:au)(c:dO):au:={ vb R c with since:=(a7 c R.id).1,linked:=false,cL:=0,base:=-1,win:={ (kF R c).win with dq:=(kF R c).win.last,gM:=0 } }
def gi(R:au)(c:dO):au:=if (oO R c).whole then { oO R c with start:=(oO R c).win.last } else oO R c
def B3(R:au)(c:dO):List df:=refs c.al (R.bK.bP.cB nt) 9++refs c.al (R.bD.l.map Qw.f) 9
def oP(R:au)(c:dO):au×List df:=((gi R c).bg,B3 R c++(gi R c).f_++(gi R c).bg.dY++(gi R c).bg.iO++(gi R c).bg.g_)
theorem NU{R:au}(h:R.Ok){c:dO}(hc:BU c):(nu R c).Ok:=⟨hc,h.win,h.last,h.nk,h.np,h.tD,h.sL,by show(0:Int)≤_;have:=h.tD;exact Int.le_trans yp this,h.Af,h.Bf,fun y hy=>absurd hy (List.not_mem_nil),(by
  obtain⟨h1,h2,h3⟩:=ir h.wf nt
  intro q hq g hg
  have:=pw h.wf h.calls nt q hq g hg
  exact this),(ir h.wf nt).1⟩
theorem Fy{R:au}(h:R.Ok){c:dO}(hc:BU c)(h0:1≤R.cap)(h1:R.cap≤16):(kF R c).Ok:=by
 have k:=NU h hc
 refine⟨hc,?_,?_,?_,?_,k.tD,k.sL,k.rl,k.Af,k.Bf,k.xM,k.calls,k.wf⟩
 ·show(if B2 R c then cF.new R.cap else R.win).Ok;split;exact cF.uE h0 h1;exact h.win
 ·show(if B2 R c then cF.new R.cap else R.win).last=((if B2 R c then [] else R.log).length:Int);split;rfl;exact h.last
 ·show ∀e∈(if B2 R c then [] else R.log),_;split;exact fun e he=>absurd he List.not_mem_nil;exact h.nk
 ·show ∀e∈(if B2 R c then [] else R.log),1≤e.index∧e.index≤((if B2 R c then [] else R.log).length:Int);split;exact fun e he=>absurd he List.not_mem_nil;exact h.np
theorem Fz{R:au}(h:R.Ok){c:dO}(hc:BU c)(h0:1≤R.cap)(h1:R.cap≤16):(oO R c).Ok:=by
 have k:=Fy h hc h0 h1
 have w:=k.win
 exact⟨hc,⟨w.eV,w.gV,w.jS,w.jT,w.gW,by have:=w.jS;have:=w.jT;show 0≤(kF R c).win.last;omega,Z5 _,Z5 _,(by decide:(0:Int)≤4112)⟩,k.last,k.nk,k.np,k.tD,k.sL,k.rl,k.Af,k.Bf,k.xM,k.calls,k.wf⟩
theorem Ai{R:au}(h:R.Ok){c:dO}(hc:BU c)(h0:1≤R.cap)(h1:R.cap≤16):(gi R c).Ok:=by
 have k:=Fz h hc h0 h1
 unfold gi
 split
 ·exact⟨k.ch,k.win,k.last,k.nk,k.np,k.tD,k.sL,k.rl,k.Af,k.Bf,k.xM,k.calls,k.wf⟩
 ·exact k
theorem GQ{R:au}(h:R.Ok){c:dO}(hc:BU c)(h0:1≤R.cap)(h1:R.cap≤16):(oP R c).1.Ok:=jl (Ai h hc h0 h1)
section
variable {p:Nat} {R:au} {b:Nat} {S:List df} {c:dO} {a:Option Addr} {cap:Nat}
theorem D'(ok:R.Ok)(hc0:1≤R.cap)(hc1:R.cap≤16)(hS:S.length≤800000)(hm:aK ax 2 Fr w a c.ms)(hc:BU c):aH Tryz.prog 192 [.pointer (some ⟨p,0,none⟩),.agg (c.cells a cap).toArray,cI b] Fr w [bA p R,aR b S]
  (fun v L=>v=.tuple #[]∧L=[bA p (oP R c).1,aR b (S++(oP R c).2)]):=by
 have hg64:=rG ok nt
 have hgc:=Ad ok.calls nt
 have hrl:=ok.rl;have hrc:=ok.sL
 have hcl:=hc.len
 have ok2:=Fy ok hc hc0 hc1
 have ok4:=Fz ok hc hc0 hc1
 have ok5:=Ai ok hc hc0 hc1
 refine TF 143 Tryz.func192 Z yn ah Z Z ?_
 refine CS (CG (VG (VB (vs:=c.cells a cap) Z fun cb=>VG (VN ?_))))
 refine Ua ?_
 rintro x -
 refine CN (L':=[bw x.ap R.bK,pt p (aS R x) dP,aI aG 2 x.a R.ch.ms.length x.c (flat ax R.ch.ms),cd x.lp R.log,bQ x.wp R.win,bW x.rp R.bD,pt cb (c.cells a cap) kP,aR b S]) (dF [4,0,0,0,0,0,0,0]).ar ?_
 refine CS ?_
 refine CD (ts 0 4 (ts 5 4 (.only 4 (.only 9 (ts 10 2 .nil))))) yn yr ?_
 refine qg ?_
 refine AG (AO (OC (Lc:=[bw x.ap R.bK]) (R:=IS x.ap (R.bK.cu nt) (R.bK.bP.cB nt)) Z (.refl _) (fun Fr w hF hs hS=>Adm.qt Fr w x.ap R.bK ok.calls)) Z ?_ ?_)
 ·rintro _ _ ⟨_,⟨r,rok,hrx,rfl,rfl⟩,rfl⟩
  exact yu
 rintro _ _ ⟨_,⟨r,rok,hrx,rfl,rfl⟩,rfl⟩
 refine sn ?_
 refine VA.ar (L':=[bW x.rp R.bD,r.h hZ,bw x.ap (R.bK.cu nt),pt p (aS R x) dP,aI aG 2 x.a R.ch.ms.length x.c (flat ax R.ch.ms),cd x.lp R.log,bQ x.wp R.win,pt cb (c.cells a cap) kP,aR b S]) (dF [6,0,0,0,0,0,0,0,0]).ar ?_
 refine AG (AO (OC (Lc:=[bW x.rp R.bD]) (R:=fun v L=>∃a c rows,rows.map Prod.fst=R.bD.l∧v=.slice a rows.length c∧L=[bW x.rp { R.bD with l:=[] },aI mR 34 a rows.length c (flat jH rows)]) Z (.refl _) (fun Fr w hF hs hS=>Rd.qt Fr w ok.tD yd)) Z ?_ ?_)
 ·rintro _ _ ⟨_,⟨ga,gc,rows,hrows,rfl,rfl⟩,rfl⟩
  exact yu
 rintro _ _ ⟨_,⟨ga,gc,rows,hrows,rfl,rfl⟩,rfl⟩
 have hrowl:rows.length≤16:=by
  have:=congrArg List.length hrows
  rw[ZR] at this
  omega
 have hrv:r.v=.slice r.addr r.xs.length r.cap:=rfl
 rw[hrv]
 refine Ko ?_
 show VC _ _ _ [bW x.rp (nu R c).bD,aI mR 34 ga rows.length gc (flat jH rows),r.h hZ,bw x.ap (nu R c).bK,pt p (aS R x) dP,aI aG 2 x.a R.ch.ms.length x.c (flat ax R.ch.ms),cd x.lp R.log,bQ x.wp R.win,pt cb (c.cells a cap) kP,aR b S] _
 refine CS (CG ?_)
 refine an ?_
 refine VG (VL 8 (c.cells a cap) Z Z Z Z ?_)
 refine Yd ?_
 rintro _ _ ⟨a',c',rfl,rfl⟩
 refine VG (VT (vs:=c.cells a' c') (cs':=aS (nu R c) { x with a:=a',c:=c' }) 5 Z Z Z Z (by show 4+3≤17;omega) Z Z Z ?_)
 refine Bd ?_
 refine CN (L':=[pt p (aS (nu R c) { x with a:=a',c:=c' }) dP,aI aG 2 a' c.ms.length c' (flat ax c.ms),cd x.lp R.log,bQ x.wp R.win,bw x.ap (nu R c).bK,bW x.rp (nu R c).bD,aI mR 34 ga rows.length gc (flat jH rows),r.h hZ,aR b S]) (dF [5,0,5,5,3,0,0,0,2]).ar ?_
 refine CS (CD (ts 0 8 (.only 8 (ts 9 5 .nil))) yn yr ?_)
 refine eW ?_
 refine AG (VA.ky 0 (c.cells a' c') Z Z Z Z Z ?_)
 refine eW ?_
 refine AG (AR (fun Fr w hF hs hS=>Ch.qp Fr w (aK.aI aF (hS.at_ 1 Z)) yd R.id) Z Z yu ?_)
 refine eW ?_
 have hE:∀{E:Env} {s:qA},True:=fun {_} {_}=>trivial
 refine CS ?_
 refine VC.cq (σ:=qA) (fun _=>[(0,pV p),(2,cI b),(6,.slice r.addr r.xs.length r.cap),(7,.slice ga rows.length gc),(8,.int .i64 (a7 c R.id).1),(9,.bool (a7 c R.id).2)])
  (fun y=>[pt p (aS (kF R c) y) dP,aI aG 2 y.a c.ms.length y.c (flat ax c.ms),cd y.lp (kF R c).log,bQ y.wp (kF R c).win,bw y.ap (nu R c).bK,bW y.rp (nu R c).bD,aI mR 34 ga rows.length gc (flat jH rows),r.h hZ,aR b S]) (fun _=>True) ?_ ?_
 ·have S6:∀{E:Env},Vg.look E 0=some (.pointer (some ⟨p,0,none⟩))→Vg.look E 2=some (cI b)→Vg.look E 6=some (.slice r.addr r.xs.length r.cap)→Vg.look E 7=some (.slice ga rows.length gc)→Vg.look E 8=some (.int .i64 (a7 c R.id).1)→Vg.look E 9=some (.bool (a7 c R.id).2) →
    Sub [(0,pV p),(2,cI b),(6,.slice r.addr r.xs.length r.cap),(7,.slice ga rows.length gc),(8,.int .i64 (a7 c R.id).1),(9,.bool (a7 c R.id).2)] E:=fun h0 h1 h2 h3 h4 h5=>SC h0 (SC h1 (SC h2 (SC h3 (SC h4 (SC h5 (SN _))))))
  have no:B2 R c=false→∀{X:Cx},jq X [pt p (aS (nu R c) { x with a:=a',c:=c' }) dP,aI aG 2 a' c.ms.length c' (flat ax c.ms),cd x.lp R.log,bQ x.wp R.win,bw x.ap (nu R c).bK,bW x.rp (nu R c).bD,aI mR 34 ga rows.length gc (flat jH rows),r.h hZ,aR b S]
    [pt p (aS (kF R c) { x with a:=a',c:=c' }) dP,aI aG 2 a' c.ms.length c' (flat ax c.ms),cd x.lp (kF R c).log,bQ x.wp (kF R c).win,bw x.ap (nu R c).bK,bW x.rp (nu R c).bD,aI mR 34 ga rows.length gc (flat jH rows),r.h hZ,aR b S]:=fun h {X}=>by
   rw[show(kF R c).log=R.log by show(if B2 R c then [] else R.log)=_;rw[h];rfl,show(kF R c).win=R.win by show(if B2 R c then cF.new R.cap else R.win)=_;rw[h];rfl]
   exact ER
  refine an ?_
  by_cases h1:(a7 c R.id).2=true
  rotate_left
  ·have h1:(a7 c R.id).2=false:=by simpa using h1
   refine VG (VY 42 false Z h1 ?_)
   refine Ks ?_
   exact⟨{ x with a:=a',c:=c' },trivial,S6 Z Z Z Z Z Z,no (by rw[B2,h1];rfl)⟩
  refine VG (VY 42 true Z h1 ?_)
  refine eR ?_
  refine VC.bo (i:=(a7 c R.id).1) (j:=R.since) Z (fun h2=>?_) (fun h2=>CK ?_)
  rotate_left
  ·exact⟨{ x with a:=a',c:=c' },trivial,S6 Z Z Z Z Z Z,no (by rw[B2,h1,h2];simp)⟩
  refine an ?_
  refine VG (VK (Lc:=[]) (fun Fr w _ _ _=>Lg.dJ Fr w) Z Z ?_)
  rintro _ _ ⟨lp,rfl,rfl⟩
  refine VG (VO.st 1 (cs':=aS (nu R c) { x with a:=a',c:=c',lp:=lp }) Z Z Z Z (by show 9<17;omega) Z Z ?_)
  refine jd ?_
  refine VG (VK (Lc:=[]) (fun Fr w _ _ _=>Win.dJ Fr w hc0 hc1) Z Z ?_)
  rintro _ _ ⟨wp,rfl,rfl⟩
  refine an ?_
  refine VG (VO.st 2 (cs':=aS (nu R c) { x with a:=a',c:=c',lp:=lp,wp:=wp }) Z Z Z Z (by show 10<17;omega) Z Z ?_)
  refine an ?_
  have hn:B2 R c=true:=by rw[B2,h1,DT h2];rfl
  refine⟨{ x with a:=a',c:=c',lp:=lp,wp:=wp },trivial,S6 Z Z Z Z Z Z,?_⟩
  rw[show(kF R c).log=[] by show(if B2 R c then [] else R.log)=_;rw[hn];rfl,show(kF R c).win=cF.new R.cap by show(if B2 R c then cF.new R.cap else R.win)=_;rw[hn];rfl]
  exact(dF [2,2,1,0,2,2,2,2,2]).ar
 rintro y -
 have ewhole:(kF R c).whole=R.whole:=rfl
 refine CS ?_
 refine VC.cq (σ:=Unit) (fun _=>[(0,pV p),(2,cI b),(6,.slice r.addr r.xs.length r.cap),(7,.slice ga rows.length gc),(8,.int .i64 (a7 c R.id).1)])
  (fun _=>[pt p (aS (vb R c) y) dP,aI aG 2 y.a c.ms.length y.c (flat ax c.ms),cd y.lp (kF R c).log,bQ y.wp (kF R c).win,bw y.ap (nu R c).bK,bW y.rp (nu R c).bD,aI mR 34 ga rows.length gc (flat jH rows),r.h hZ,aR b S]) (fun _=>True) ?_ ?_
 ·have S5:∀{E:Env},Vg.look E 0=some (.pointer (some ⟨p,0,none⟩))→Vg.look E 2=some (cI b)→Vg.look E 6=some (.slice r.addr r.xs.length r.cap)→Vg.look E 7=some (.slice ga rows.length gc)→Vg.look E 8=some (.int .i64 (a7 c R.id).1) →
    Sub [(0,pV p),(2,cI b),(6,.slice r.addr r.xs.length r.cap),(7,.slice ga rows.length gc),(8,.int .i64 (a7 c R.id).1)] E:=fun h0 h1 h2 h3 h4=>SC h0 (SC h1 (SC h2 (SC h3 (SC h4 (SN _)))))
  have yes:RI R c=true→aS (vb R c) y=aS { kF R c with whole:=false } y:=fun h=>by
   rw[show vb R c={ kF R c with whole:=false } by unfold vb;rw[h];rfl]
  have no:RI R c=false→aS (vb R c) y=aS (kF R c) y:=fun h=>by
   rw[show vb R c=kF R c by unfold vb;rw[h];rfl]
  refine an ?_
  by_cases h1:(a7 c R.id).2=true
  rotate_left
  ·have h1:(a7 c R.id).2=false:=by simpa using h1
   refine VG (VY 67 true Z (by rw[h1];rfl) ?_)
   refine DA ?_
   refine Ye ?_
   refine an ?_
   refine⟨(),trivial,S5 Z Z Z Z Z,?_⟩
   dsimp only
   rw[yes (by rw[RI,h1];rfl)]
   exact ER
  refine VG (VY 67 false Z (by rw[h1];rfl) ?_)
  refine eR ?_
  refine VC.bo (i:=(a7 c R.id).1) (j:=R.since) Z (fun h2=>?_) (fun h2=>CK ?_)
  ·refine an ?_
   refine Ye ?_
   refine an ?_
   refine⟨(),trivial,S5 Z Z Z Z Z,?_⟩
   dsimp only
   rw[yes (by rw[RI,h1,DT h2];rfl)]
   exact ER
  ·refine⟨(),trivial,S5 Z Z Z Z Z,?_⟩
   dsimp only
   rw[no (by rw[RI,h1,h2];simp)]
   exact ER
 rintro _ -
 refine an ?_
 refine VG (VO.st 0 (cs':=aS { vb R c with since:=(a7 c R.id).1 } y) Z Z Z Z (by show 7<17;omega) Z Z ?_)
 refine Bd ?_
 refine an ?_
 refine VG (VO.st 0 (cs':=aS { vb R c with since:=(a7 c R.id).1,linked:=false } y) Z Z Z Z (by show 15<17;omega) Z Z ?_)
 refine an ?_
 refine VG (VO.st 0 (cs':=aS { vb R c with since:=(a7 c R.id).1,linked:=false,cL:=0 } y) Z Z Z Z (by show 16<17;omega) Z Z ?_)
 refine an ?_
 refine VG (VO.st 0 (cs':=aS (oO R c) y) Z Z Z Z (by show 14<17;omega) Z Z ?_)
 refine an ?_
 refine VG (VQ 3 Z (fun Fr w hF hs hS=>Win.DU Fr w ok2.win) Z (ψ:=fun v H=>v=.tuple #[]∧H=bQ y.wp (oO R c).win) yy ?_)
 rintro _ _ ⟨rfl,rfl⟩
 refine Bd ?_
 show VC _ _ _ [pt p (aS (oO R c) y) dP,aI aG 2 y.a c.ms.length y.c (flat ax c.ms),cd y.lp (oO R c).log,bQ y.wp (oO R c).win,bw y.ap (oO R c).bK,bW y.rp (oO R c).bD,aI mR 34 ga rows.length gc (flat jH rows),r.h hZ,aR b S] _
 have q0:=ok4.win.eV
 refine CS ?_
 refine VC.cq (σ:=Unit) (fun _=>[(0,pV p),(2,cI b),(6,.slice r.addr r.xs.length r.cap),(7,.slice ga rows.length gc)])
  (fun _=>[pt p (aS (gi R c) y) dP,aI aG 2 y.a c.ms.length y.c (flat ax c.ms),cd y.lp (gi R c).log,bQ y.wp (gi R c).win,bw y.ap (gi R c).bK,bW y.rp (gi R c).bD,aI mR 34 ga rows.length gc (flat jH rows),r.h hZ,aR b S]) (fun _=>True) ?_ ?_
 ·refine an ?_
  refine CC Z (fun h1=>?_) (fun h1=>CK ?_)
  ·have e5:gi R c={ oO R c with start:=(oO R c).win.last }:=by rw[gi,if_pos h1]
   refine an ?_
   refine VG (VV (fun Fr w hF hs hS=>Win.fJ Fr w (hS.aP 3 Z) q0) Z ?_)
   refine an ?_
   refine VG (VO.st 0 (cs':=aS { oO R c with start:=(oO R c).win.last } y) Z Z Z Z (by show 13<17;omega) Z Z ?_)
   refine an ?_
   refine⟨(),trivial,ba,?_⟩
   dsimp only
   rw[e5];exact ER
  ·have e5:gi R c=oO R c:=by rw[gi,if_neg KF]
   refine⟨(),trivial,ba,?_⟩
   dsimp only
   rw[e5];exact ER
 rintro _ -
 have hch:(gi R c).ch=c:=by unfold gi;split<;>rfl
 have hhp:∀S':List df,[pt p (aS (gi R c) y) dP,aI aG 2 y.a c.ms.length y.c (flat ax c.ms),cd y.lp (gi R c).log,bQ y.wp (gi R c).win,bw y.ap (gi R c).bK,bW y.rp (gi R c).bD,aI mR 34 ga rows.length gc (flat jH rows),r.h hZ,aR b S']
  = [pt p (aS (gi R c) y) dP,aI aG 2 y.a (gi R c).ch.ms.length y.c (flat ax (gi R c).ch.ms),cd y.lp (gi R c).log,bQ y.wp (gi R c).win,bw y.ap (gi R c).bK,bW y.rp (gi R c).bD,aI mR 34 ga rows.length gc (flat jH rows),r.h hZ,aR b S']:=fun S'=>by rw[hch]
 rw[hhp]
 generalize hR5:gi R c=R5 at *
 refine an ?_
 refine VC.loop (σ:=Nat) (fun i=>[(0,pV p),(2,cI b),(7,.slice ga rows.length gc),(108,.slice r.addr r.xs.length r.cap),(109,.int .i64 r.xs.length),(110,.int .i64 i)])
  (fun i=>[pt p (aS R5 y) dP,aI aG 2 y.a R5.ch.ms.length y.c (flat ax R5.ch.ms),cd y.lp R5.log,bQ y.wp R5.win,bw y.ap R5.bK,bW y.rp R5.bD,aI mR 34 ga rows.length gc (flat jH rows),r.h hZ,aR b (S++refs c.al ((R.bK.bP.cB nt).take i) 9)])
  (fun i=>i≤r.xs.length) (fun i=>r.xs.length-i) 0
  (ZO _) ba (by rw[List.take_zero,show refs c.al [] 9=[] from rfl,ZN];exact ER) ?_
 intro i hi
 have hxl:r.xs.length=(R.bK.bP.cB nt).length:=by rw[←hrx];simp
 refine an ?_
 refine CP Z (fun h1=>CK ?_) (fun h1=>CX ?_)
 ·have hi2:i<r.xs.length:=by omega
  obtain⟨g,hg⟩:∃g,r.xs[i]?=some g:=⟨_,GE hi2⟩
  have hgg:(R.bK.bP.cB nt)[i]?=some g.1:=by rw[←hrx,ZS,hg];rfl
  have hcg:=hgc g.1 (ME hgg)
  have hc6:=ok.wf.c1
  obtain⟨gb,go,r1,r2,hrd⟩:=rok.ld (t:=hZ) hg rfl
  rw[r2]
  refine KN ?_
  refine VG (VO.load Z Z ((hrd 7 Z).1 _ Z Z) ?_)
  refine VG (VO.alloc Z fun tb=>?_)
  refine VG (VT (vs:=cG g) 0 Z Z Z Z (NR _) Z Z Z ?_)
  refine an ?_
  refine VG (VL 0 (cG g) Z Z Z Z ?_)
  refine VG (VQ 9 Z (fun Fr w hF hs hS=>gz Fr w (hS.aP 1 Z) Xe g.1 g.2 hcg.1.1 (by have:=hcg.1.2;omega) 9) Z (ψ:=fun v H=>v=.tuple #[]∧H=aR b (S++refs c.al ((R.bK.bP.cB nt).take i) 9 ++ [(32+g.1.aj,du c.al g.1 9)])) Xi ?_)
  rintro _ _ ⟨rfl,rfl⟩
  refine sh ?_
  refine⟨i+1,hi2,by dsimp only;omega,ba,?_⟩
  dsimp only
  rw[show refs c.al ((R.bK.bP.cB nt).take (i+1)) 9=refs c.al ((R.bK.bP.cB nt).take i) 9 ++ [(32+g.1.aj,du c.al g.1 9)] by rw[ZZ,hgg];simp[refs],←ZX]
  exact(dF [1,1,1,1,1,1,1,1,1]).ar
 obtain rfl:i=r.xs.length:=by omega
 rw[hxl,Z']
 have hrl1:(refs c.al (R.bK.bP.cB nt) 9).length≤64:=by rw[refs,ZR];exact hg64
 generalize hS1:S++refs c.al (R.bK.bP.cB nt) 9=S1
 have hS1l:S1.length≤800064:=by rw[←hS1,ZM];omega
 refine VC.e_ 6 Z (aW.rl mR ga gc rows ru) ?_
 rintro q ⟨qok,hqv,hqx⟩
 show VC _ _ _ [q.h mR,pt p (aS R5 y) dP,aI aG 2 y.a R5.ch.ms.length y.c (flat ax R5.ch.ms),cd y.lp R5.log,bQ y.wp R5.win,bw y.ap R5.bK,bW y.rp R5.bD,r.h hZ,aR b S1] _
 refine an ?_
 have hexp:∀i,i≤rows.length→((rows.take i).map fun y=>y.1.f).length=i:=fun i hi=>by simp;omega
 refine VC.loop (σ:=Nat) (fun i=>[(0,pV p),(2,cI b),(119,.slice ga rows.length gc),(120,.int .i64 rows.length),(121,.int .i64 i)])
  (fun i=>[q.h mR,pt p (aS R5 y) dP,aI aG 2 y.a R5.ch.ms.length y.c (flat ax R5.ch.ms),cd y.lp R5.log,bQ y.wp R5.win,bw y.ap R5.bK,bW y.rp R5.bD,aR b (S1++refs c.al ((rows.take i).map fun y=>y.1.f) 9)])
  (fun i=>i≤rows.length) (fun i=>rows.length-i) 0
  (ZO _) ba (by
   rw[List.take_zero,show refs c.al (List.map (fun y=>y.1.f) ([]:List Kw)) 9=[] from rfl,ZN]
   exact(dF [0,0,0,0,0,0,0,1]).ar) ?_
 intro i hi
 refine an ?_
 refine CP Z (fun h1=>CK ?_) (fun h1=>CX ?_)
 ·have hi2:i<rows.length:=by omega
  obtain⟨g,hg⟩:∃g,rows[i]?=some g:=⟨_,GE hi2⟩
  have hgm:g.1∈R.bD.l:=by
   rw[←hrows]
   exact Z0.2 ⟨g,ME hg,Z⟩
  have hcg:=ok.xM g.1 hgm
  obtain⟨gb,go,r1,r2,hrd⟩:=qok.ld (t:=mR) (hqx▸hg) rfl
  obtain rfl:ga=some ⟨gb,go,none⟩:=by rw[RL.v,r2,hqx] at hqv;injection hqv with e1;exact e1.symm
  refine KN ?_
  refine Vi ?_
  refine VG (VO.alloc Z fun tb=>?_)
  refine Vj ?_
  refine an ?_
  refine VG (VL 0 (iD g.1.f g.2) Z Z Z Z ?_)
  refine VG (VQ 8 Z (fun Fr w hF hs hS=>gz Fr w (hS.aP 2 Z) (by rw[ZM,refs,ZR,hexp i yd];omega) g.1.f g.2 hcg.1 yd 9) Z (ψ:=fun v H=>v=.tuple #[]∧H=aR b (S1++refs c.al ((rows.take i).map fun y=>y.1.f) 9 ++ [(32+g.1.f.aj,du c.al g.1.f 9)])) Xi ?_)
  rintro _ _ ⟨rfl,rfl⟩
  refine sh ?_
  refine⟨i+1,hi2,by dsimp only;omega,ba,?_⟩
  dsimp only
  rw[show refs c.al ((rows.take (i+1)).map fun y=>y.1.f) 9=refs c.al ((rows.take i).map fun y=>y.1.f) 9 ++ [(32+g.1.f.aj,du c.al g.1.f 9)] by rw[ZZ,hg];simp[refs],←ZX]
  exact(dF [1,1,1,1,1,1,1,1]).ar
 obtain rfl:i=rows.length:=by omega
 rw[Z']
 have hes:S1++refs c.al (rows.map fun y=>y.1.f) 9=S++B3 R c:=by
  rw[←hS1,B3,←hrows,List.map_map,ZX];rfl
 have hel:(S++B3 R c).length≤800080:=by rw[←hes,ZM,refs,ZR,ZR];omega
 rw[hes]
 refine CN (L':=[bA p R5,aR b (S++B3 R c)]) (ae.rep (R:=R5) y (dF [1,1,1,1,1,1,1])).ar ?_
 generalize hS2:S++B3 R c=S2 at *
 refine an ?_
 refine VG (VK (Lc:=[bA p R5,aR b S2]) (Lr:=[]) (fun Fr w hF hs hS=>oJ Fr w ok5 yd) Z Z ?_)
 rintro _ _ ⟨rfl,rfl⟩
 have fl:=jx ok5
 have okf:=jl ok5
 refine an ?_
 refine VO.e_ 0 Z (aW.rep p R5.bg) ?_
 rintro y2 -
 show VO _ _ _ _ _ (iB p R5.bg y2 b (S2++R5.f_)) _
 unfold iB
 refine an ?_
 refine VG (VQ 6 Z (fun Fr w hF hs hS=>nj Fr w (fW.GM hS 0 Z Z Z Z Z Z) okf.ch okf.win Km) Z (ψ:=fun v H=>v=.tuple #[]∧H=aR b (S2++R5.f_++R5.bg.dY)) yy ?_)
 rintro _ _ ⟨rfl,rfl⟩
 have gl:R5.bg.dY.length≤1:=by unfold au.dY;split<;>simp
 refine an ?_
 refine VG (VQ 6 Z (fun Fr w hF hs hS=>lN Fr w (fW.GM hS 0 Z Z Z Z Z Z) okf.ch (by rw[ZM,ZM];omega)) Z (ψ:=fun v H=>v=.tuple #[]∧H=aR b (S2++R5.f_++R5.bg.dY++R5.bg.iO)) yy ?_)
 rintro _ _ ⟨rfl,rfl⟩
 have bl:R5.bg.iO.length≤1:=by unfold au.iO;split<;>simp
 refine an ?_
 refine VG (VQ 6 Z (fun Fr w hF hs hS=>nT Fr w (hS.aP 0 Z) (by rw[ZM,ZM,ZM];omega)) Z (ψ:=fun v H=>v=.tuple #[]∧H=aR b (S2++R5.f_++R5.bg.dY++R5.bg.iO++R5.bg.g_)) yy ?_)
 rintro _ _ ⟨rfl,rfl⟩
 refine an ?_
 refine ay.void Z (dQ (R:=R5.bg) (x:=y2)).ar ⟨rfl,?_⟩
 simp only[oP,hR5,←hS2,ZX]
end
end Rep
namespace Rep
open Go Vg T Api Kv Ch Lg Rd Win Adm Sched Conf
attribute [local irreducible] VO VC VA
def gI(n:Nat):List bI:=(List.range n).map fun(i:Nat)=>((i:Int),(1:Int))
theorem jy(n:Nat):(gI n).length=n:=by simp[gI]
theorem Aj(n:Nat):gI (n+1)=gI n ++ [((n:Int),(1:Int))]:=by simp[gI,List.range_succ]
def br(c:aV):dO:=⟨1,gI c.chain.toNat,-1⟩
def SO:dO:=⟨0,[],0⟩
theorem cP{c:aV}(h:c=dz c):(1≤c.nodes∧c.nodes≤6)∧(1≤c.chain∧c.chain≤c.nodes)∧(1≤c.eZ∧c.eZ≤16)∧(1≤c.reads∧c.reads≤16)∧(1≤c.aB∧c.aB≤6):=by
 have e1:c.nodes=aw c.nodes 1 6:=congrArg aV.nodes h
 have e2:c.chain=aw c.chain 1 (aw c.nodes 1 6):=congrArg aV.chain h
 have e3:c.eZ=aw c.eZ 1 16:=congrArg aV.eZ h
 have e4:c.reads=aw c.reads 1 16:=congrArg aV.reads h
 have e5:c.aB=aw c.aB 1 6:=congrArg aV.aB h
 have n1:=fE (x:=c.nodes) (lo:=1) (hi:=6) yp
 have n2:=fE (x:=c.chain) (lo:=1) (hi:=aw c.nodes 1 6) n1.1
 have n3:=fE (x:=c.eZ) (lo:=1) (hi:=16) yp
 have n4:=fE (x:=c.reads) (lo:=1) (hi:=16) yp
 have n5:=fE (x:=c.aB) (lo:=1) (hi:=6) yp
 omega
theorem vc(c:aV)(a:Option Addr)(cap:Nat)(hq:ee Fr w a c.qs)(ha:sI a)(hcap:c.qs.length≤cap):aH Tryz.prog 47 [.agg (c.cells a cap).toArray] Fr w []
  (fun v L=>if c=dz c then ∃a' c',v=.tuple #[.agg ((br c).cells a' c').toArray,.int .i64 0]∧L=[aI aG 2 a' (br c).ms.length c' (flat ax (br c).ms)] else v=.tuple #[.agg (SO.cells none 0).toArray,.int .i64 2]∧L=[]):=by
 refine TF 27 Tryz.func47 Z yn ah Z Z ?_
 refine CS (CG (VG (VB (vs:=c.cells a cap) Z fun x=>VG (VO.alloc Z fun d=>?_))))
 refine jd ?_
 refine Px ?_
 refine VG (VV (fun Fr w hF hs _=>Conf.bm Fr w c a cap (fY hq hF hs) ha hcap) Z ?_)
 refine an ?_
 refine VC.bo Z (fun h1=>?_) (fun h1=>CK ?_)
 ·have hc:¬c=dz c:=fun e=>h1 (by rw[ic,if_pos e])
  have hc2:ic c=2:=by rw[ic,if_neg hc]
  refine an ?_
  refine VG (VI (LB (pv:=[]) (SO.cells none 0) Z Z Z yn Z) ?_)
  refine an ?_
  refine Vl ?_
  refine an ?_
  refine CR (ay.aT 2 3 Z Z Z (aE.many 0 Z Z) Z ae.nil.ar ?_)
  rw[if_neg hc,hc2];exact⟨rfl,rfl⟩
 have hc:c=dz c:=by
  apply Decidable.byContradiction
  intro hc
  rw[ic,if_neg hc] at h1
  cases h1
 have hb:=cP hc
 refine an ?_
 refine VG (VI (LB (pv:=[(0,.int .i64 1),(2,.int .i64 (-1))]) [.int .i64 1,.slice none 0 0,.int .i64 (-1)] Z Z Z yn Z) ?_)
 refine an ?_
 refine VG (VT (vs:=[.int .i64 1,.slice none 0 0,.int .i64 (-1)]) (cs':=[.int .i64 1,.slice none 0 0,.int .i64 (-1)]) 0 Z Z Z Z (NR _) Z Z Z ?_)
 refine jd ?_
 refine VC.loop (σ:=Nat×Option Addr×Nat) (fun y=>[(2,pV d),(14,.int .i64 c.chain),(15,.int .i64 y.1)])
  (fun y=>[aI aG 2 y.2.1 y.1 y.2.2 (flat ax (gI y.1)),pt d [.int .i64 1,.slice y.2.1 y.1 y.2.2,.int .i64 (-1)] kP])
  (fun y=>(y.1:Int)≤c.chain) (fun y=>c.chain.toNat-y.1) (0,none,0)
  tZ ba (ae.bZ (IP 0 rfl ae.nil)).ar ?_
 rintro⟨i,a',c'⟩ hi
 dsimp only at hi ⊢
 refine an ?_
 refine CP Z (fun h1=>CK ?_) (fun h1=>CX ?_)
 ·refine jd ?_
  refine VG (VI (LB (pv:=[(0,.int .i64 i),(1,.int .i64 1)]) (ax ((i:Int),1)) Z Z Z yn Z) ?_)
  refine VG (VO.buildSlice (n:=1) (pv:=[(0,.agg (ax ((i:Int),1)).toArray)]) (ax ((i:Int),1)) Z Z Z Z yp (bJ Z Z Z) fun nb=>?_)
  refine VG (VO.append (m:=1) (news:=ax ((i:Int),1)) 1 Z Z Z Z Z Z Z (dt.pt 0 Z Z Z) Z (ju (k:=101) yd yp) yd fun a2 c2 hc2=>?_)
  refine an ?_
  refine VG (VO.st 2 (cs':=[.int .i64 1,.slice a2 (i+1) c2,.int .i64 (-1)]) Z Z Z Z OQ Z Z ?_)
  refine sh ?_
  refine⟨(i+1,a2,c2),by dsimp only;omega,by dsimp only;omega,ba,?_⟩
  dsimp only
  rw[Aj,bf,bO,fg,ZN]
  exact(dF [0,1]).ar
 ·obtain rfl:i=c.chain.toNat:=by omega
  have e0:(br c).ms.length=c.chain.toNat:=jy _
  have e1:(br c).cells a' c'=[.int .i64 1,.slice a' c.chain.toNat c',.int .i64 (-1)]:=by rw[dO.cells,e0];rfl
  refine an ?_
  refine VG (VL 1 [.int .i64 1,.slice a' c.chain.toNat c',.int .i64 (-1)] Z Z Z Z ?_)
  refine VG (VT (vs:=[.int .i64 1,.slice a' c.chain.toNat c',.int .i64 (-1)]) (cs':=[.int .i64 1,.slice a' c.chain.toNat c',.int .i64 (-1)]) 1 Z Z Z Z (NR _) Z Z Z ?_)
  refine an ?_
  refine CR (ay.aT 2 3 Z Z Z (aE.many 1 Z Z) Z (IP 0 Z ae.nil).ar ?_)
  rw[if_pos hc,e0];exact⟨a',c',by rw[e1];rfl,rfl⟩
def gX(c:aV)(id:Int):au:={ id:=id,aB:=c.aB,cap:=c.eZ,iN:=c.reads,ch:=SO,since:=0,whole:=false,log:=[],win:=cF.new c.eZ,bK:=uV c,bD:=gx.new c.reads,start:=-1,base:=-1,linked:=false,cL:=0 }
def fy(c:aV)(id:Int)(blank:Bool):au:=
 if blank then gX c id else if (a7 (br c) id).2 then { gX c id with ch:=br c,since:=(a7 (br c) id).1,whole:=true,start:=0 } else { gX c id with ch:=br c }
def nw(c:aV)(id:Int):Prop:=c=dz c∧0≤id∧id<c.nodes
instance (c:aV) (id:Int):Decidable (nw c id):=by unfold nw;infer_instance
theorem ve{c:aV}(h:c=dz c)(id:Int){C:dO}(hC:BU C)(s t:Int)(wh:Bool):({ gX c id with ch:=C,since:=s,whole:=wh,start:=t }:au).Ok:=by
 have hb:=cP h
 refine⟨hC,cF.uE hb.2.2.1.1 hb.2.2.1.2,Z,fun e he=>absurd he List.not_mem_nil,fun e he=>absurd he List.not_mem_nil,hb.2.2.2.1.1,hb.2.2.2.1.2,?_,Z5 _,(by decide:(0:Int)≤100000000),fun e he=>absurd he List.not_mem_nil,D5 c,Fq h⟩
 show(0:Int)≤c.reads;omega
theorem B4{c:aV}(h:c=dz c):BU (br c):=⟨by have hb:=cP h;show(gI _).length≤1000;rw[jy];omega⟩
theorem NV{c:aV}(h:c=dz c)(id:Int)(blank:Bool):(fy c id blank).Ok:=by
 unfold fy
 split
 ·exact ve h id ⟨by decide⟩ 0 (-1) false
 split
 ·exact ve h id (B4 h) _ 0 true
 ·exact ve h id (B4 h) 0 (-1) false
def I3(R:au)(a:Option Addr)(c:Nat)(l w d r:Value):List Value:=[.int .i64 R.id,.int .i64 R.aB,.int .i64 R.cap,.int .i64 R.iN,.int .i64 R.ch.al,.slice a R.ch.ms.length c,.int .i64 R.ch.drain,.int .i64 R.since,.bool R.whole,
 l,w,d,r,.int .i64 R.start,.int .i64 R.base,.bool R.linked,.int .i64 R.cL]
abbrev QF(b:Nat):Value:=.pointer (some ⟨b,0,none⟩)
theorem dJ(c:aV)(a:Option Addr)(cap:Nat)(hq:ee Fr w a c.qs)(ha:sI a)(hcap:c.qs.length≤cap)(id:Int)(blank:Bool):aH Tryz.prog 32 [.agg (c.cells a cap).toArray,.int .i64 id,.bool blank] Fr w []
  (fun v L=>if nw c id then ∃p,v=.tuple #[.pointer (some ⟨p,0,none⟩),.int .i64 0]∧L=[bA p (fy c id blank)] else v=.tuple #[.pointer none,.int .i64 2]∧L=[]):=by
 refine TF 93 Tryz.func32 Z yn ah Z Z ?_
 refine CS (CG (VG (VB (vs:=c.cells a cap) Z fun x=>?_)))
 refine OY ?_
 refine VG (VK (Lc:=[]) (fun Fr w hF hs _=>vc Fr w c a cap (fY hq hF hs) ha hcap) Z Z ?_)
 intro v L hv
 by_cases hc:c=dz c
 rotate_left
 ·rw[if_neg hc] at hv
  obtain⟨rfl,rfl⟩:=hv
  have hno:¬nw c id:=fun h=>hc h.1
  refine an ?_
  refine VG (VO.alloc Z fun d=>?_)
  refine Vl ?_
  refine an ?_
  refine VG (VY 20 true Z Z ?_)
  refine eR ?_
  refine VG (VY 24 true Z Z ?_)
  refine DA ?_
  refine Vm ?_
  rw[if_neg hno];exact⟨rfl,rfl⟩
 rw[if_pos hc] at hv
 obtain⟨a1,c1,rfl,rfl⟩:=hv
 have hb:=cP hc
 have hfl:(br c).ms.length≤6:=by show(gI _).length≤6;rw[jy];omega
 refine an ?_
 refine VG (VO.alloc Z fun d=>?_)
 refine VG (VT (vs:=(br c).cells a1 c1) (cs':=(br c).cells a1 c1) 0 Z Z Z Z (NR _) Z Z Z ?_)
 refine an ?_
 refine VG (VY 20 false Z Z ?_)
 refine eR ?_
 by_cases h0:id<0
 ·have hno:¬nw c id:=fun h=>by have:=h.2.1;omega
  refine VG (VY 24 true Z (DT h0) ?_)
  refine DA ?_
  refine Vm ?_
  rw[if_neg hno];exact⟨rfl,rfl⟩
 refine VG (VY 24 false Z (DF h0) ?_)
 refine pQ ?_
 refine CP Z (fun h1=>?_) (fun h1=>CK ?_)
 ·have hno:¬nw c id:=fun h=>by have:=h.2.2;omega
  refine an ?_
  refine Vm ?_
  rw[if_neg hno];exact⟨rfl,rfl⟩
 have hyes:nw c id:=⟨hc,by omega,by omega⟩
 show VC _ _ _ [pt d ((br c).cells a1 c1) kP,aI aG 2 a1 (br c).ms.length c1 (flat ax (br c).ms),pt x (c.cells a cap) _] _
 refine sj ?_
 refine VG (VI (LB (pv:=[(0,.int .i64 id),(1,.int .i64 c.aB),(2,.int .i64 c.eZ),(3,.int .i64 c.reads),(11,.int .i64 (-1)),(12,.int .i64 (-1))]) (I3 (gX c id) none 0 (.pointer none) (.pointer none) (.pointer none) (.pointer none)) Z Z Z yn Z) ?_)
 refine VG (VB (vs:=I3 (gX c id) none 0 (.pointer none) (.pointer none) (.pointer none) (.pointer none)) Z fun p=>?_)
 refine an ?_
 refine VG (VK (Lc:=[]) (fun Fr w _ _ _=>Lg.dJ Fr w) Z Z ?_)
 rintro _ _ ⟨lp,rfl,rfl⟩
 refine an ?_
 refine VG (VO.st 1 (cs':=I3 (gX c id) none 0 (QF lp) (.pointer none) (.pointer none) (.pointer none)) Z Z Z Z (by show 9<17;omega) Z Z ?_)
 refine Dv ?_
 refine VG (VK (Lc:=[]) (fun Fr w _ _ _=>Win.dJ Fr w hb.2.2.1.1 hb.2.2.1.2) Z Z ?_)
 rintro _ _ ⟨wp,rfl,rfl⟩
 refine an ?_
 refine VG (VO.st 2 (cs':=I3 (gX c id) none 0 (QF lp) (QF wp) (.pointer none) (.pointer none)) Z Z Z Z (by show 10<17;omega) Z Z ?_)
 refine an ?_
 refine VG (VL 5 (c.cells a cap) Z Z Z Z ?_)
 refine VG (VK (Lc:=[]) (fun Fr w hF hs _=>Adm.dJ Fr w c a cap (fY hq hF hs) ha hcap) Z Z ?_)
 intro v L hv
 rw[if_pos hc] at hv
 obtain⟨ap,rfl,rfl⟩:=hv
 refine an ?_
 refine VG (VO.st 3 (cs':=I3 (gX c id) none 0 (QF lp) (QF wp) (QF ap) (.pointer none)) Z Z Z Z (by show 11<17;omega) Z Z ?_)
 refine X7 ?_
 refine VG (VK (Lc:=[]) (fun Fr w _ _ _=>Rd.dJ Fr w hb.2.2.2.1.1 hb.2.2.2.1.2) Z Z ?_)
 rintro _ _ ⟨rp,rfl,rfl⟩
 refine an ?_
 refine VG (VO.st 4 (cs':=aS (gX c id) ⟨none,0,lp,wp,ap,rp⟩) Z Z Z Z (by show 12<17;omega) Z Z ?_)
 refine an ?_
 refine CN (L':=[pt p (aS (gX c id) ⟨none,0,lp,wp,ap,rp⟩) dP,cd lp [],bQ wp (cF.new c.eZ),bw ap (uV c),bW rp (gx.new c.reads),pt d ((br c).cells a1 c1) kP,aI aG 2 a1 (br c).ms.length c1 (flat ax (br c).ms)]) (dF [4,3,2,1,0,0,0]).ar ?_
 refine CC Z (fun hbl=>?_) (fun hbl=>CK ?_)
 ·refine an ?_
  refine CR (ay.cV 6 7 Z Z Z (L':=[bA p (fy c id blank)]) ?_ Xu)
  rw[show fy c id blank=gX c id by rw[fy,if_pos hbl]]
  exact(ae.rep (R:=gX c id) ⟨none,0,lp,wp,ap,rp⟩ (IP 0 Z (ae.bZ (dF [0,0,0,0])))).ar
 refine an ?_
 refine VG (VL 5 ((br c).cells a1 c1) Z Z Z Z ?_)
 refine an ?_
 refine VG (VT (vs:=(br c).cells a1 c1) (cs':=aS { gX c id with ch:=br c } ⟨a1,c1,lp,wp,ap,rp⟩) 0 Z Z Z Z (by show 4+3≤17;omega) Z Z Z ?_)
 refine an ?_
 refine VG (VL 5 ((br c).cells a1 c1) Z Z Z Z ?_)
 refine an ?_
 refine VG (VV (fun Fr w hF hs hS=>Ch.qp Fr w (aK.aI aF (hS.at_ 6 Z)) yd id) Z ?_)
 refine an ?_
 refine VC.cq (σ:=Unit) (fun _=>[(10,QF p)]) (fun _=>[bA p (fy c id blank)]) (fun _=>True) ?_ ?_
 ·refine CC Z (fun hs=>?_) (fun hs=>CK ?_)
  ·refine an ?_
   refine VG (VO.st 0 (cs':=aS { gX c id with ch:=br c,since:=(a7 (br c) id).1 } ⟨a1,c1,lp,wp,ap,rp⟩) Z Z Z Z (by show 7<17;omega) Z Z ?_)
   refine an ?_
   refine VG (VO.st 0 (cs':=aS { gX c id with ch:=br c,since:=(a7 (br c) id).1,whole:=true } ⟨a1,c1,lp,wp,ap,rp⟩) Z Z Z Z Xz Z Z ?_)
   refine an ?_
   refine VG (VO.st 0 (cs':=aS { gX c id with ch:=br c,since:=(a7 (br c) id).1,whole:=true,start:=0 } ⟨a1,c1,lp,wp,ap,rp⟩) Z Z Z Z (by show 13<17;omega) Z Z ?_)
   refine an ?_
   refine⟨(),trivial,ba,?_⟩
   dsimp only
   rw[show fy c id blank={ gX c id with ch:=br c,since:=(a7 (br c) id).1,whole:=true,start:=0 } by rw[fy,if_neg (by rw[hbl];simp),if_pos hs]]
   exact(ae.rep (R:={ gX c id with ch:=br c,since:=(a7 (br c) id).1,whole:=true,start:=0 }) ⟨a1,c1,lp,wp,ap,rp⟩ (dF [0,5,0,0,0,0])).ar
  ·refine⟨(),trivial,ba,?_⟩
   dsimp only
   rw[show fy c id blank={ gX c id with ch:=br c } by rw[fy,if_neg (by rw[hbl];simp),if_neg (by rw[hs];simp)]]
   exact(ae.rep (R:={ gX c id with ch:=br c }) ⟨a1,c1,lp,wp,ap,rp⟩ (dF [0,5,0,0,0,0])).ar
 rintro _ -
 refine an ?_
 exact CR (ay.cV 6 7 Z Z Z ER Xu)
end Rep
namespace Rep
open Go Vg T Api Kv Ch Lg Rd Win Adm Sched Conf
attribute [local irreducible] VO VC VA
structure au.Fit(R:au):Prop where
 ok:R.Ok
 iN:R.iN=R.bD.cap
 eV:1≤R.cap
 gV:R.cap≤16
 cl:R.aB≤6
theorem vf{c:aV}(h:c=dz c)(id:Int)(blank:Bool):(fy c id blank).Fit:=by
 have hb:=cP h
 have ho:=NV h id blank
 unfold fy at ho ⊢
 split
 ·rename_i h1;rw[if_pos h1] at ho;exact⟨ho,rfl,hb.2.2.1.1,hb.2.2.1.2,hb.2.2.2.2.2⟩
 ·rename_i h1;rw[if_neg h1] at ho
  split
  ·rename_i h2;rw[if_pos h2] at ho;exact⟨ho,rfl,hb.2.2.1.1,hb.2.2.1.2,hb.2.2.2.2.2⟩
  ·rename_i h2;rw[if_neg h2] at ho;exact⟨ho,rfl,hb.2.2.1.1,hb.2.2.1.2,hb.2.2.2.2.2⟩
def mY(o:fe):Bool:=decide (o.kind=1)&&decide (a6 o=0)
def vg(f:aa)(ms:List bI):dO:=⟨f.bV,ms,f.drain⟩
def vh(R:au)(i:Int):au:={ R with bD:={ R.bD with l:=R.bD.l.filter (jJ i) } }
def xN(R:au)(i:Int):List df:=(R.bD.l.filter fun y=>!jJ i y).map fun y=>(32+y.f.aj,jj y.f.aj y.f.seq y.f.ct y.r)
def oQ(R:au)(i:Int):au:={ R with base:=max i (-1) }
def cC(R:au)(from_:Int)(f:aa)(ms:List bI)(now:Int):au×List df:=
 if f.kind=1 then (if f.aj<0 then (R,[]) else if R.aB≤f.aj then (R,[]) else if mY f.op=true then dR R f now else iR R f now)
 else if f.kind=8 then (if (from_=16∧si (vg f ms)=0)∧R.ch.al<f.bV then oP R (vg f ms) else (R,[]))
 else if f.kind=4 then (if R.fq f=true∧jW from_ R.nS=true then fM R f.entry else (R,[]))
 else if f.kind=5 then (if R.fq f=true∧jW from_ R.dA=true then oM R f else (R,[]))
 else if f.kind=6 then (if R.fq f=true∧jW from_ R.nS=true then ((oQ R f.index).eJ,(oQ R f.index).iQ) else (R,[]))
 else if f.kind=10 then (if R.fq f=true∧from_=16 then (vh R f.index,xN R f.index) else (R,[]))
 else (R,[])
theorem GR(R:au)(f:aa)(now:Int):(cj R f now).2.2=R.bK∨(cj R f now).2.2=(R.bK.e7 f now).2:=by
 unfold cj
 repeat' split
 all_goals first | exact .inl rfl | exact .inr rfl
theorem Ea{R:au}(h:R.Ok)(f:aa)(now:Int):(iR R f now).1.Ok:=by
 have hj:(cj R f now).2.2.Calls∧(cj R f now).2.2.Wf:=by
  rcases GR R f now with e | e
  ·rw[e];exact⟨h.calls,h.wf⟩
  ·rw[e];exact⟨BT h.calls f now,IT h.wf f now⟩
 unfold iR
 split
 ·exact va h hj.1 hj.2
 split
 ·exact va h hj.1 hj.2
 split
 ·exact va h (u_ hj.1 _ _ _) (hj.2.fp _ _ _)
 ·exact va h hj.1 hj.2
theorem I4{R:au}(h:R.Ok)(hr:R.bD.last<100000000)(f:aa)(now:Int)(h0:0≤f.aj)(h1:f.aj≤1000):(dR R f now).1.Ok:=by
 unfold dR
 split
 ·exact h
 ·have e:({ R with bD:=R.bD.put f (iH (aO R.log).1 f.op.key R.log.length) }:au).Ok:=by
   have a0:=h.tD;have a1:=h.Af;have a2:=h.rl
   unfold gx.put
   split
   ·rename_i hl
    exact⟨h.ch,h.win,h.last,h.nk,h.np,h.tD,h.sL,by show((R.bD.l ++ [_]).length:Int)≤R.bD.cap;rw[ZM];simp;omega,by show 0≤R.bD.last+1;omega,by show R.bD.last+1≤_;omega,fun y hy=>by
     rcases ZY.1 hy with h2 | h2
     ·exact h.xM y h2
     ·rw[Z7.1 h2];exact⟨h0,h1⟩,h.calls,h.wf⟩
   ·exact h
  exact e
theorem I5{R:au}(h:R.Ok)(i:Int):(vh R i).Ok:=⟨h.ch,h.win,h.last,h.nk,h.np,h.tD,h.sL,by
 have:=h.rl;have h2:=List.length_filter_le (jJ i) R.bD.l
 show((R.bD.l.filter (jJ i)).length:Int)≤R.bD.cap;omega,h.Af,h.Bf,fun y hy=>h.xM y (Z6.1 hy).1,h.calls,h.wf⟩
theorem B5{R:au}(h:R.Ok)(i:Int):(oQ R i).Ok:=⟨h.ch,h.win,h.last,h.nk,h.np,h.tD,h.sL,h.rl,h.Af,h.Bf,h.xM,h.calls,h.wf⟩
theorem Ak{R:au}(h:R.Ok)(e:aY):(fM R e).1.Ok:=by
 unfold fM
 split
 ·rename_i h1;exact qD (jl (mv h h1.2 (u4 h1.1)))
 ·exact h
theorem Al{c:dO}(h:si c=0):c.ms.length≤6:=by
 have:qm c=true:=by
  unfold si at h
  by_cases hc:qm c=true
  ·exact hc
  ·rw[if_neg hc] at h;cases h
 simp only[qm,ql,Z2,decide_eq_true_eq] at this
 omega
theorem I6{R:au}(h:R.Fit)(hr:R.bD.last<100000000)(from_:Int)(f:aa)(ms:List bI)(now:Int):(cC R from_ f ms now).1.Ok:=by
 have hcl:=h.cl
 unfold cC
 split
 ·split
  ·exact h.ok
  split
  ·exact h.ok
  rename_i h1 h2
  split
  ·exact I4 h.ok hr f now yd yd
  ·exact Ea h.ok f now
 split
 ·split
  ·rename_i h1;exact GQ h.ok ⟨by have:=Al h1.1.2;omega⟩ h.eV h.gV
  ·exact h.ok
 split
 ·split
  ·exact Ak h.ok _
  ·exact h.ok
 split
 ·split
  ·exact Fw h.ok f
  ·exact h.ok
 split
 ·split
  ·exact qD (B5 h.ok _)
  ·exact h.ok
 split
 ·split
  ·exact I5 h.ok _
  ·exact h.ok
 ·exact h.ok
structure fx(R Q:au):Prop where
 id:Q.id=R.id
 aB:Q.aB=R.aB
 cap:Q.cap=R.cap
 iN:Q.iN=R.iN
 QG:Q.bD.cap=R.bD.cap
theorem fx.refl(R:au):fx R R:=⟨rfl,rfl,rfl,rfl,rfl⟩
theorem fx.trans{R Q P:au}(h:fx R Q)(k:fx Q P):fx R P:=⟨k.id.trans h.id,k.aB.trans h.aB,k.cap.trans h.cap,k.iN.trans h.iN,k.QG.trans h.QG⟩
theorem au.Fit.stays{R Q:au}(h:R.Fit)(k:fx R Q)(ok:Q.Ok):Q.Fit:=⟨ok,by rw[k.iN,k.QG];exact h.iN,by rw[k.cap];exact h.eV,by rw[k.cap];exact h.gV,by rw[k.aB];exact h.cl⟩
theorem ny(R:au):fx R R.bg:=by unfold au.bg;split<;>exact⟨rfl,rfl,rfl,rfl,rfl⟩
theorem rJ(R:au):fx R R.eJ:=by unfold au.eJ;split<;>exact⟨rfl,rfl,rfl,rfl,rfl⟩
theorem B6(R:au)(c:dO):fx R (oP R c).1:=by
 refine fx.trans (Q:=gi R c) ?_ (ny _)
 unfold gi;split<;>exact⟨rfl,rfl,rfl,rfl,rfl⟩
theorem NW(r:gx)(f:aa)(x:jI):(r.put f x).cap=r.cap:=by unfold gx.put;split<;>rfl
theorem Eb(R:au)(from_:Int)(f:aa)(ms:List bI)(now:Int):fx R (cC R from_ f ms now).1:=by
 have r:=fx.refl R
 unfold cC
 split
 ·split
  ·exact r
  split
  ·exact r
  split
  ·unfold dR;split
   ·exact r
   ·exact⟨rfl,Z,Z,Z,NW _ _ _⟩
  ·unfold iR;repeat' split
   all_goals exact⟨rfl,rfl,rfl,rfl,rfl⟩
 split
 ·split
  ·exact B6 _ _
  ·exact r
 split
 ·split
  ·unfold fM;split
   ·exact fx.trans (Q:=(fv R f.entry).bg) (fx.trans (Q:=fv R f.entry) ⟨rfl,Z,Z,Z,Z⟩ (ny _)) (rJ _)
   ·exact r
  ·exact r
 split
 ·split
  ·unfold oM oL jm;dsimp only;split<;>exact⟨rfl,rfl,rfl,rfl,rfl⟩
  ·exact r
 split
 ·split
  ·exact fx.trans (Q:=oQ R f.index) ⟨rfl,Z,Z,Z,Z⟩ (rJ _)
  ·exact r
 split
 ·split
  ·exact⟨rfl,Z,Z,Z,Z⟩
  ·exact r
 ·exact r
theorem Ec(R:au):fx R (u5 R).1:=⟨rfl,rfl,rfl,rfl,rfl⟩
theorem tH(R:au)(now:Int):fx R (dw R now).1:=by
 unfold dw
 split
 ·exact⟨rfl,Z,Z,Z,Z⟩
 split
 ·exact⟨rfl,Z,Z,Z,Z⟩
 ·exact fx.trans (Q:=fv (nU R now) (eE R now)) ⟨rfl,Z,Z,Z,Z⟩ (ny _)
theorem vi(now:Int):∀(k:Nat) (R:au),fx R (cQ now k R).1
 | 0,R=>fx.refl R
 | k+1,R=>by
  rw[cQ]
  split
  ·split
   ·exact(tH R now).trans (vi now k _)
   ·exact tH R now
  ·exact fx.refl R
theorem Ed(R:au)(now:Int):fx R (gN R now).1:=by
 have h2:fx R (step2 R now).1:=by
  unfold step2;split
  ·exact fx.trans (Q:=lO R now) ⟨rfl,Z,Z,Z,Z⟩ (vi now 65 _)
  ·exact⟨rfl,Z,Z,Z,Z⟩
 show fx R (ja R now).1
 unfold ja;split
 ·exact h2.trans (Ec _)
 ·exact h2
theorem xO{R:au}(h:R.Fit)(hr:R.bD.last<100000000)(from_:Int)(f:aa)(ms:List bI)(now:Int):(cC R from_ f ms now).1.Fit:=h.stays (Eb R from_ f ms now) (I6 h hr from_ f ms now)
theorem GU{R:au}(h:R.Fit)(now:Int):(gN R now).1.Fit:=h.stays (Ed R now) (I2 h.ok now)
end Rep
namespace Rep
open Go Vg T Api Kv Ch Lg Rd Win Adm Sched Conf
attribute [local irreducible] VO VC VA
section
variable {p:Nat} {R:au}
theorem mg(fit:R.Fit)(hlast:R.bD.last<100000000)(from_:Int)(f:aa){ma:Option Addr}{mc:Nat}{ms:List bI}(hm:aK ax 2 Fr w ma ms)(hml:ms.length≤1000000)(now:Int)
  (hi1:-9223372036854775808≤f.entry.index) (hi2:f.entry.index≤9223372036854775807):aH Tryz.prog 119 [.pointer (some ⟨p,0,none⟩),.int .i64 from_,.agg (iD f (ma,ms.length,mc)).toArray,.int .i64 now] Fr w [bA p R]
  (fun v L=>dq (cC R from_ f ms now).2 v L [bA p (cC R from_ f ms now).1]):=by
 have ok:=fit.ok
 have hcl6:=fit.cl
 have hrl:R.bD.l.length≤16:=by have:=ok.rl;have:=ok.sL;omega
 refine TF 160 Tryz.func119 Z yn ah Z Z ?_
 refine CS (CG (VG (VB (vs:=iD f (ma,ms.length,mc)) Z fun fb=>?_)))
 refine an ?_
 refine VO.e_ 1 Z (aW.rep p R) ?_
 rintro x -
 show VO _ _ _ _ _ [pt p (aS R x) dP,aI aG 2 x.a R.ch.ms.length x.c (flat ax R.ch.ms),cd x.lp R.log,bQ x.wp R.win,bw x.ap R.bK,bW x.rp R.bD,pt fb (iD f (ma,ms.length,mc)) hZ] _
 refine Vf ?_
 refine Kr ?_
 refine VG (VO.alloc Z fun ob=>?_)
 refine an ?_
 refine Vh ?_
 refine Bd ?_
 refine CN (L':=[pt p (aS R x) dP,aI aG 2 x.a R.ch.ms.length x.c (flat ax R.ch.ms),cd x.lp R.log,bQ x.wp R.win,bw x.ap R.bK,bW x.rp R.bD,aR ob [],pt fb (iD f (ma,ms.length,mc)) hZ]) (IP 1 Z (IP 1 Z (IP 1 Z (IP 1 Z (IP 1 Z (IP 1 Z (ae.out (none,0) (IP 0 Z (ae.bZ (IP 0 Z ae.nil)))))))))).ar ?_
 refine CS ?_
 refine VC.cq (σ:=Unit) (fun _=>[(9,pV ob)]) (fun _=>[bA p (cC R from_ f ms now).1,aR ob (cC R from_ f ms now).2]) (fun _=>True) ?_ ?_
 rotate_left
 ·rintro _ -
  refine VC.e_ 1 Z (aW.out ob _) ?_
  rintro⟨a,c⟩ -
  show VC _ _ _ [pt ob [.slice a (cC R from_ f ms now).2.length c] NQ,aI iA 30 a (cC R from_ f ms now).2.length c (flat wU (cC R from_ f ms now).2),bA p (cC R from_ f ms now).1] _
  refine an ?_
  exact CR (ay.tmp 8 Z Z (IP 2 Z (IP 1 Z ae.nil)).ar ⟨a,c,Z,Z⟩)
 have shut:∀{X:Cx},jq X [pt p (aS R x) dP,aI aG 2 x.a R.ch.ms.length x.c (flat ax R.ch.ms),cd x.lp R.log,bQ x.wp R.win,bw x.ap R.bK,bW x.rp R.bD,aR ob [],pt fb (iD f (ma,ms.length,mc)) hZ] [bA p R,aR ob []]:=fun {X}=>
  (ae.rep x (dF [0,0,0,0,0,0,0])).ar
 have none_:cC R from_ f ms now=(R,[])→∀{X:Cx},jq X [pt p (aS R x) dP,aI aG 2 x.a R.ch.ms.length x.c (flat ax R.ch.ms),cd x.lp R.log,bQ x.wp R.win,bw x.ap R.bK,bW x.rp R.bD,aR ob [],pt fb (iD f (ma,ms.length,mc)) hZ] [bA p (cC R from_ f ms now).1,aR ob (cC R from_ f ms now).2]:=fun h {X}=>by
  rw[h];exact shut
 refine PA ?_
 refine CE (i:=f.kind) (j:=1) Z (fun k1=>?_) (fun k1=>?_)
 ·have hT:cC R from_ f ms now=(if f.aj<0 then (R,[]) else if R.aB≤f.aj then (R,[]) else if mY f.op=true then dR R f now else iR R f now):=by rw[cC,if_pos k1]
  refine CS ?_
  refine CS ?_
  refine CD (ts 0 12 .nil) yn yr ?_
  refine OV ?_
  by_cases h1:f.aj<0
  ·refine AG (AY 24 true Z (DT h1) ?_)
   refine KJ ?_
   refine VC.kr Z (CX ?_)
   exact⟨(),trivial,ba,none_ (by rw[hT,if_pos h1])⟩
  refine AG (AY 24 false Z (DF h1) ?_)
  refine KJ ?_
  refine CP (p:=R.aB≤f.aj) Z (fun h2=>CX ?_) (fun h2=>CK ?_)
  ·exact⟨(),trivial,ba,none_ (by rw[hT,if_neg h1,if_pos h2])⟩
  rw[if_neg h1,if_neg h2] at hT
  refine an ?_
  refine VG (VL 7 f.op.cells Z Z Z Z ?_)
  refine VG (VV (fun Fr w hF hs hS=>Kv.kC Fr w f.op) Z ?_)
  refine an ?_
  refine CC Z (fun h3=>?_) (fun h3=>?_)
  ·have h3:mY f.op=true:=h3
   rw[if_pos h3] at hT
   refine PH ?_
   refine R2 ?_
   refine VG (VK (Lc:=[bA p R,aR ob []]) (Lr:=[]) (fun Fr w hF hs hS=>jk Fr w ok fit.iN UP f (hm.of hF hs) hml now yd yd) Z Z ?_)
   rintro _ _ ⟨rfl,rfl⟩
   refine an ?_
   refine⟨(),trivial,ba,?_⟩
   rw[hT];exact ER
  ·have h3:¬mY f.op=true:=fun h=>by rw[show mY f.op=false from h3] at h;cases h
   rw[if_neg h3] at hT
   refine PH ?_
   refine R2 ?_
   refine VG (VK (Lc:=[bA p R,aR ob []]) (Lr:=[]) (fun Fr w hF hs hS=>BV Fr w ok UP f (ma,ms.length,mc) ⟨ms,Z,hml,aK.of hm hF hs⟩ now yd yd) Z Z ?_)
   rintro _ _ ⟨rfl,rfl⟩
   refine an ?_
   refine⟨(),trivial,ba,?_⟩
   rw[hT];exact ER
 refine CS ?_
 refine an ?_
 refine CE (i:=f.kind) (j:=8) Z (fun k2=>?_) (fun k2=>?_)
 ·have hT:cC R from_ f ms now=(if (from_=16∧si (vg f ms)=0)∧R.ch.al<f.bV then oP R (vg f ms) else (R,[])):=by rw[cC,if_neg k1,if_pos k2]
  refine CS ?_
  refine CD (ts 0 5 (.only 5 (ts 6 13 .nil))) yn yr ?_
  refine OV ?_
  by_cases h1:from_=16
  rotate_left
  ·rw[if_neg (fun h=>h1 h.1.1)] at hT
   refine AG (AY 50 false Z yg ?_)
   refine KJ ?_
   refine HX ?_
   refine KJ ?_
   refine AG (AY 56 false Z Z ?_)
   refine KJ ?_
   refine sk ?_
   exact H_
  refine AG (AY 50 true Z yg ?_)
  refine KJ ?_
  refine AG (VA.ky 7 ((vg f ms).cells ma mc) Z Z Z Z Z ?_)
  refine AG (AR (fun Fr w hF hs hS=>Ch.bm Fr w (c:=vg f ms) (hm.of hF hs) UO) Z Z yu ?_)
  refine KJ ?_
  by_cases h2:si (vg f ms)=0
  rotate_left
  ·rw[if_neg (fun h=>h2 h.1.2)] at hT
   refine AG (AY 56 false Z yj ?_)
   refine KJ ?_
   refine sk ?_
   exact H_
  refine AG (AY 56 true Z yj ?_)
  refine KJ ?_
  refine CP (p:=R.ch.al<f.bV) Z (fun h3=>?_) (fun h3=>CK ?_)
  ·rw[if_pos ⟨⟨h1,h2⟩,h3⟩] at hT
   have hcs:BU (vg f ms):=⟨by have:=Al h2;omega⟩
   refine an ?_
   refine VG (VL 7 ((vg f ms).cells ma mc) Z Z Z Z ?_)
   refine R2 ?_
   refine an ?_
   refine VG (VK (Lc:=[bA p R,aR ob []]) (Lr:=[]) (fun Fr w hF hs hS=>D' Fr w ok fit.eV fit.gV UQ (c:=vg f ms) (hm.of hF hs) hcs) Z Z ?_)
   rintro _ _ ⟨rfl,rfl⟩
   refine an ?_
   refine⟨(),trivial,ba,?_⟩
   rw[hT];exact ER
  ·rw[if_neg (fun h=>h3 h.2)] at hT
   exact H_
 refine CS ?_
 refine an ?_
 refine CE (i:=f.kind) (j:=4) Z (fun k3=>?_) (fun k3=>?_)
 ·have hT:cC R from_ f ms now=(if R.fq f=true∧jW from_ R.nS=true then fM R f.entry else (R,[])):=by rw[cC,if_neg k1,if_neg k2,if_pos k3]
  refine PH ?_
  refine R0 ?_
  refine an ?_
  by_cases h1:R.fq f=true
  rotate_left
  ·rw[if_neg (fun h=>h1 h.1)] at hT
   have h1:R.fq f=false:=by simpa using h1
   refine VG (VY 77 false Z h1 ?_)
   refine Ks ?_
   exact H_
  refine VG (VY 77 true Z h1 ?_)
  refine eR ?_
  refine Yf ?_
  refine eR ?_
  refine VG (VO.ik (fun Fr w=>oI Fr w from_ R.nS) Z ?_)
  refine eR ?_
  refine CC Z (fun h2=>?_) (fun h2=>CK ?_)
  ·rw[if_pos ⟨h1,h2⟩] at hT
   refine an ?_
   refine VG (VL 7 (cM f.entry) Z Z Z Z ?_)
   refine R2 ?_
   refine an ?_
   refine VG (VK (Lc:=[bA p R,aR ob []]) (Lr:=[]) (fun Fr w hF hs hS=>Ah Fr w ok UQ f.entry hi1 hi2) Z Z ?_)
   rintro _ _ ⟨rfl,rfl⟩
   refine an ?_
   refine⟨(),trivial,ba,?_⟩
   rw[hT];exact ER
  ·rw[if_neg (fun h=>by have:=h.2;rw[h2] at this;cases this)] at hT
   exact H_
 refine CS ?_
 refine an ?_
 refine CE (i:=f.kind) (j:=5) Z (fun k4=>?_) (fun k4=>?_)
 ·have hT:cC R from_ f ms now=(if R.fq f=true∧jW from_ R.dA=true then oM R f else (R,[])):=by rw[cC,if_neg k1,if_neg k2,if_neg k3,if_pos k4]
  refine PH ?_
  refine R0 ?_
  refine an ?_
  by_cases h1:R.fq f=true
  rotate_left
  ·rw[if_neg (fun h=>h1 h.1)] at hT
   have h1:R.fq f=false:=by simpa using h1
   refine VG (VY 93 false Z h1 ?_)
   refine Ks ?_
   exact H_
  refine VG (VY 93 true Z h1 ?_)
  refine eR ?_
  refine X_ ?_
  refine eR ?_
  refine VG (VO.ik (fun Fr w=>oI Fr w from_ R.dA) Z ?_)
  refine eR ?_
  refine CC Z (fun h2=>?_) (fun h2=>CK ?_)
  ·rw[if_pos ⟨h1,h2⟩] at hT
   refine PH ?_
   refine R2 ?_
   refine an ?_
   refine VG (VK (Lc:=[bA p R,aR ob []]) (Lr:=[]) (fun Fr w hF hs hS=>ri Fr w ok UQ f _) Z Z ?_)
   rintro _ _ ⟨rfl,rfl⟩
   refine an ?_
   refine⟨(),trivial,ba,?_⟩
   rw[hT];exact ER
  ·rw[if_neg (fun h=>by have:=h.2;rw[h2] at this;cases this)] at hT
   exact H_
 refine CS ?_
 refine an ?_
 refine CE (i:=f.kind) (j:=6) Z (fun k5=>?_) (fun k5=>?_)
 ·have hT:cC R from_ f ms now=(if R.fq f=true∧jW from_ R.nS=true then ((oQ R f.index).eJ,(oQ R f.index).iQ) else (R,[])):=by rw[cC,if_neg k1,if_neg k2,if_neg k3,if_neg k4,if_pos k5]
  refine PH ?_
  refine R0 ?_
  refine an ?_
  by_cases h1:R.fq f=true
  rotate_left
  ·rw[if_neg (fun h=>h1 h.1)] at hT
   have h1:R.fq f=false:=by simpa using h1
   refine VG (VY 108 false Z h1 ?_)
   refine Ks ?_
   exact H_
  refine VG (VY 108 true Z h1 ?_)
  refine eR ?_
  refine Yf ?_
  refine eR ?_
  refine VG (VO.ik (fun Fr w=>oI Fr w from_ R.nS) Z ?_)
  refine eR ?_
  refine CC Z (fun h2=>?_) (fun h2=>CK ?_)
  ·rw[if_pos ⟨h1,h2⟩] at hT
   have okb:=B5 ok f.index
   refine PA ?_
   refine VG (VO.st 0 (cs':=aS (oQ R f.index) x) Z Z Z Z (by show 14<17;omega) (by
    rw[show(if f.index < -1 then (-1:Int) else f.index)=max f.index (-1) by split<;>omega]
    rfl) rfl ?_)
   refine an ?_
   refine VO.ar (L':=[bA p (oQ R f.index),aR ob []]) (ae.rep (R:=oQ R f.index) x (dF [0,0,0,0,0,0,0])).ar ?_
   refine VG (VK (Lc:=[bA p (oQ R f.index),aR ob []]) (Lr:=[]) (fun Fr w hF hs hS=>tE Fr w okb UP) Z Z ?_)
   rintro _ _ ⟨rfl,rfl⟩
   refine an ?_
   refine⟨(),trivial,ba,?_⟩
   rw[hT];exact ER
  ·rw[if_neg (fun h=>by have:=h.2;rw[h2] at this;cases this)] at hT
   exact H_
 refine CS ?_
 refine an ?_
 refine CE (i:=f.kind) (j:=10) Z (fun k6=>?_) (fun k6=>CK ?_)
 rotate_left
 ·exact⟨(),trivial,ba,none_ (by rw[cC,if_neg k1,if_neg k2,if_neg k3,if_neg k4,if_neg k5,if_neg k6])⟩
 have hT:cC R from_ f ms now=(if R.fq f=true∧from_=16 then (vh R f.index,xN R f.index) else (R,[])):=by rw[cC,if_neg k1,if_neg k2,if_neg k3,if_neg k4,if_neg k5,if_pos k6]
 refine PH ?_
 refine R0 ?_
 refine an ?_
 by_cases h1:R.fq f=true
 rotate_left
 ·rw[if_neg (fun h=>h1 h.1)] at hT
  have h1:R.fq f=false:=by simpa using h1
  refine VG (VY 128 false Z h1 ?_)
  refine Ks ?_
  exact H_
 refine VG (VY 128 true Z h1 ?_)
 refine eR ?_
 refine CE (i:=from_) (j:=16) Z (fun h2=>?_) (fun h2=>CK ?_)
 rotate_left
 ·rw[if_neg (fun h=>h2 h.2)] at hT
  exact H_
 rw[if_pos ⟨h1,h2⟩] at hT
 refine CN (L':=[bW x.rp R.bD,pt p (aS R x) dP,aI aG 2 x.a R.ch.ms.length x.c (flat ax R.ch.ms),cd x.lp R.log,bQ x.wp R.win,bw x.ap R.bK,aR ob [],pt fb (iD f (ma,ms.length,mc)) hZ]) (dF [5,0,0,0,0,0,0,0]).ar ?_
 refine CS ?_
 refine CD (ts 0 6 (.take 8 (.only 6 (.take 7 .nil)))) yn yr ?_
 refine OV ?_
 refine AG (AO (OC (Lc:=[bW x.rp R.bD]) (R:=fun v L=>∃a c rows,rows.map Prod.fst=R.bD.l.filter (fun x=>!jJ f.index x)∧v=.slice a rows.length c∧L=[bW x.rp { R.bD with l:=R.bD.l.filter (jJ f.index) },aI mR 34 a rows.length c (flat jH rows)]) Z (.refl _) (fun Fr w hF hs hS=>Rd.Gy Fr w ok.tD yd f.index)) Z ?_ ?_)
 ·rintro _ _ ⟨_,⟨ga,gc,rows,hrows,rfl,rfl⟩,rfl⟩
  exact yu
 rintro _ _ ⟨_,⟨ga,gc,rows,hrows,rfl,rfl⟩,rfl⟩
 (repeat(first|refine yG (yN ?_)|refine yG (yD 0 rfl rfl rfl rfl rfl ?_)|refine yG (yD 1 rfl rfl rfl rfl rfl ?_)|refine yG (yD 2 rfl rfl rfl rfl rfl ?_)|refine yG (yD 3 rfl rfl rfl rfl rfl ?_)|refine yG (yD 4 rfl rfl rfl rfl rfl ?_)|refine yG (yD 5 rfl rfl rfl rfl rfl ?_)|refine yG (yD 6 rfl rfl rfl rfl rfl ?_)|refine yG (yD 7 rfl rfl rfl rfl rfl ?_)|refine yG (yD 8 rfl rfl rfl rfl rfl ?_)))
 have hrowl:rows.length≤16:=by
  have:=congrArg List.length hrows
  rw[ZR] at this
  have h2:=List.length_filter_le (fun y=>!jJ f.index y) R.bD.l
  omega
 show VC _ _ _ [bW x.rp (vh R f.index).bD,aI mR 34 ga rows.length gc (flat jH rows),pt p (aS R x) dP,aI aG 2 x.a R.ch.ms.length x.c (flat ax R.ch.ms),cd x.lp R.log,bQ x.wp R.win,bw x.ap R.bK,aR ob [],pt fb (iD f (ma,ms.length,mc)) hZ] _
 refine VC.e_ 1 Z (aW.rl mR ga gc rows ru) ?_
 rintro r ⟨rok,hrv,hrx⟩
 show VC _ _ _ [r.h mR,bW x.rp (vh R f.index).bD,pt p (aS R x) dP,aI aG 2 x.a R.ch.ms.length x.c (flat ax R.ch.ms),cd x.lp R.log,bQ x.wp R.win,bw x.ap R.bK,aR ob [],pt fb (iD f (ma,ms.length,mc)) hZ] _
 have hexp:∀i,i≤rows.length→(rows.take i).length=i:=fun i hi=>by simp;omega
 refine VC.block ?_
 refine VC.loop (σ:=Nat) (fun i=>[(0,pV p),(9,pV ob),(10,cI ob),(138,.slice ga rows.length gc),(139,.int .i64 rows.length),(140,.int .i64 i)])
  (fun i=>[r.h mR,bW x.rp (vh R f.index).bD,pt p (aS R x) dP,aI aG 2 x.a R.ch.ms.length x.c (flat ax R.ch.ms),cd x.lp R.log,bQ x.wp R.win,bw x.ap R.bK,aR ob ((rows.take i).map fun y=>(32+y.1.f.aj,jj y.1.f.aj y.1.f.seq y.1.f.ct y.1.r))])
  (fun i=>i≤rows.length) (fun i=>rows.length-i) 0
  (ZO _) ba (dF [0,0,0,0,0,0,0,0]).ar ?_
 intro i hi
 refine an ?_
 refine CP Z (fun h1=>CK ?_) (fun h1=>CX ?_)
 ·have hi2:i<rows.length:=by omega
  obtain⟨g,hg⟩:∃g,rows[i]?=some g:=⟨_,GE hi2⟩
  have hgm:g.1∈R.bD.l:=by
   have h2:g.1∈rows.map Prod.fst:=Z0.2 ⟨g,ME hg,rfl⟩
   rw[hrows] at h2
   exact(Z6.1 h2).1
  have hcg:=ok.xM g.1 hgm
  obtain⟨gb,go,r1,r2,hrd⟩:=rok.ld (t:=mR) (hrx▸hg) rfl
  obtain rfl:ga=some ⟨gb,go,none⟩:=by rw[RL.v,r2,hrx] at hrv;injection hrv with e1;exact e1.symm
  refine KN ?_
  refine Vi ?_
  refine VG (VO.alloc Z fun tb=>?_)
  refine Vj ?_
  refine an ?_
  refine VG (VL 0 (bn g.1.r) Z Z Z Z ?_)
  refine an ?_
  refine VG (VQ 8 Z (fun Fr w hF hs hS=>qC Fr w (by rw[ZR,hexp i yd];omega) g.1.f.aj g.1.f.seq g.1.f.ct hcg.1 yd g.1.r) Z (ψ:=fun v H=>v=.tuple #[]∧H=aR ob ((rows.take i).map (fun y=>(32+y.1.f.aj,jj y.1.f.aj y.1.f.seq y.1.f.ct y.1.r)) ++ [(32+g.1.f.aj,jj g.1.f.aj g.1.f.seq g.1.f.ct g.1.r)])) yy ?_)
  rintro _ _ ⟨rfl,rfl⟩
  refine sh ?_
  refine⟨i+1,hi2,by dsimp only;omega,ba,?_⟩
  dsimp only
  rw[ZZ,hg,Option.toList_some,List.map_append,List.map_singleton]
  exact(dF [1,1,1,1,1,1,1,1]).ar
 obtain rfl:i=rows.length:=by omega
 rw[Z']
 have hes:(rows.map fun y=>((32+y.1.f.aj,jj y.1.f.aj y.1.f.seq y.1.f.ct y.1.r):df))=xN R f.index:=by
  unfold xN
  rw[←hrows,List.map_map];rfl
 rw[hes]
 refine⟨(),trivial,ba,?_⟩
 rw[hT]
 exact(ae.rep (R:=vh R f.index) x (dF [2,2,2,2,2,1,1])).ar
end
end Rep
namespace Rep
open Go Vg T Api Kv Ch Lg Rd Win Adm Sched Conf
attribute [local irreducible] VO VC VA
section
variable {p:Nat} {R:au}
theorem B7(h:aM Fr [bA p R] w):aH Tryz.prog 72 [.pointer (some ⟨p,0,none⟩)] Fr w [] (fun v L=>v=.int .i64 R.since∧L=[]):=by
 obtain⟨x,hx⟩:=fW.UC h
 have hb:=hx.aP
 refine TF 10 Tryz.func72 Z yn ah Z Z ?_
 refine an ?_
 refine VG (VV (fun Fr w hF hs _=>mu Fr w (hb.of hF hs)) Z (VG (VN (VC.jt Z (CK ?_)))))
 refine Dt ?_
 exact Rn
theorem I7(ok:R.Ok)(h:aM Fr [bA p R] w):aH Tryz.prog 76 [.pointer (some ⟨p,0,none⟩)] Fr w [] (fun v L=>∃q,v=.pointer (some ⟨q,0,none⟩)∧L=[cd q R.log]):=by
 obtain⟨x,hx⟩:=fW.UC h
 have hb:=hx.aP
 have hl:=hx.log
 have h1:=ok.last;have h2:=ok.win.gW
 refine TF 11 Tryz.func76 Z yn ah Z Z ?_
 refine an ?_
 refine VG (VV (fun Fr w hF hs _=>mu Fr w (hb.of hF hs)) Z (VG (VN (VC.jt Z (CK ?_)))))
 refine Dt ?_
 refine VG (VK (Lc:=[]) (fun Fr w hF hs _=>Lg.me Fr w (hl.of hF hs) yd) Z Z ?_)
 rintro _ _ ⟨q,rfl,rfl⟩
 exact Wk
theorem B8(ok:R.Ok)(h:aM Fr [bA p R] w):aH Tryz.prog 74 [.pointer (some ⟨p,0,none⟩)] Fr w [] (fun v L=>∃q,v=.pointer (some ⟨q,0,none⟩)∧L=[bQ q R.win]):=by
 obtain⟨x,hx⟩:=fW.UC h
 have hb:=hx.aP
 have hl:=hx.win
 refine TF 11 Tryz.func74 Z yn ah Z Z ?_
 refine an ?_
 refine VG (VV (fun Fr w hF hs _=>mu Fr w (hb.of hF hs)) Z (VG (VN (VC.jt Z (CK ?_)))))
 refine Dt ?_
 refine VG (VK (Lc:=[]) (fun Fr w hF hs _=>Win.me Fr w (hl.of hF hs) ok.win.eV) Z Z ?_)
 rintro _ _ ⟨q,rfl,rfl⟩
 exact Wk
theorem Ee(ok:R.Ok)(h:aM Fr [bA p R] w):aH Tryz.prog 73 [.pointer (some ⟨p,0,none⟩)] Fr w [] (fun v L=>∃a c,v=.agg (R.ch.cells a c).toArray∧L=[aI aG 2 a R.ch.ms.length c (flat ax R.ch.ms)]):=by
 obtain⟨x,hx⟩:=fW.UC h
 have hb:=hx.aP
 have hm:=hx.mem
 have hl:=ok.ch.len
 refine TF 12 Tryz.func73 Z yn ah Z Z ?_
 refine CS (CG (VG (VO.alloc Z fun d=>?_)))
 refine an ?_
 refine VG (VV (fun Fr w hF hs _=>mu Fr w (hb.of hF hs)) Z (VG (VN (VC.jt Z (CK ?_)))))
 refine an ?_
 refine VG (VO.load Z Z (aE.lG (ds:=R.ch.cells x.a x.c) hb Z) ?_)
 refine Yd ?_
 rintro _ _ ⟨a',c',rfl,rfl⟩
 refine VG (VT (vs:=R.ch.cells a' c') (cs':=R.ch.cells a' c') 1 Z Z Z Z (NR _) Z Z Z ?_)
 refine an ?_
 exact Vk
def jz(al:Int):aa:={ aa.zero with kind:=12,al:=al }
def dS(R:au):au:=if R.linked then { R with win:={ R.win with dq:=min (max R.cL 0) R.win.last } } else R
def jb(R:au):au×List df:=(dS R,R.g_++R.dY++R.iO++(if (!R.bD.l.isEmpty)=true then [(16,gh R.ch.al R.bD.nR)] else [])++(if R.dG=true∧R.win.done=R.win.last then [(16,jz R.ch.al)] else []))
theorem B9{R:au}(h:R.Ok):(dS R).Ok:=by
 unfold dS
 split
 ·have hw:=h.win
  refine⟨h.ch,⟨hw.eV,hw.gV,hw.jS,hw.jT,hw.gW,?_,?_,hw.DQ,hw.DR⟩,h.last,h.nk,h.np,h.tD,h.sL,h.rl,h.Af,h.Bf,h.xM,h.calls,h.wf⟩
  ·show 0≤min (max R.cL 0) R.win.last
   have:=hw.jS;have:=hw.jT;omega
  ·show min (max R.cL 0) R.win.last≤R.win.last;omega
 ·exact h
theorem Ef(R:au):fx R (jb R).1:=by
 show fx R (dS R)
 unfold dS;split<;>exact⟨rfl,rfl,rfl,rfl,rfl⟩
theorem GV{R:au}(h:R.Fit):(jb R).1.Fit:=h.stays (Ef R) (B9 h.ok)
theorem GW(ok:R.Ok)(now:Int):aH Tryz.prog 104 [.pointer (some ⟨p,0,none⟩),.int .i64 now] Fr w [bA p R]
  (fun v L=>dq (jb R).2 v L [bA p (jb R).1]):=by
 have hrl:R.bD.l.length≤16:=by have:=ok.rl;have:=ok.sL;omega
 have gl:R.dY.length≤1:=by unfold au.dY;split<;>simp
 have bl:R.iO.length≤1:=by unfold au.iO;split<;>simp
 have ml:R.g_.length=1:=rfl
 refine TF 78 Tryz.func104 Z yn ah Z Z ?_
 refine Rr ?_
 rintro x -
 show VC _ _ _ [pt p (aS R x) dP,aI aG 2 x.a R.ch.ms.length x.c (flat ax R.ch.ms),cd x.lp R.log,bQ x.wp R.win,bw x.ap R.bK,bW x.rp R.bD] _
 refine an ?_
 refine Vf ?_
 refine Kr ?_
 refine VG (VO.alloc Z fun ob=>?_)
 refine an ?_
 refine Vh ?_
 refine an ?_
 refine VO.ar (L':=iB p R x ob []) (IP 1 Z (IP 1 Z (IP 1 Z (IP 1 Z (IP 1 Z (IP 1 Z (ae.out (none,0) (IP 0 Z (ae.bZ ae.nil))))))))).ar ?_
 unfold iB
 refine VG (VQ 6 Z (fun Fr w hF hs hS=>nT Fr w (hS.aP 0 Z) (by show 0≤1000000;omega)) Z (ψ:=fun v H=>v=.tuple #[]∧H=aR ob ([]++R.g_)) yy ?_)
 rintro _ _ ⟨rfl,rfl⟩
 refine an ?_
 refine VG (VQ 6 Z (fun Fr w hF hs hS=>nj Fr w (fW.GM hS 0 Z Z Z Z Z Z) ok.ch ok.win (by rw[List.nil_append];omega)) Z (ψ:=fun v H=>v=.tuple #[]∧H=aR ob (R.g_++R.dY)) yy ?_)
 rintro _ _ ⟨rfl,rfl⟩
 refine an ?_
 refine VG (VQ 6 Z (fun Fr w hF hs hS=>lN Fr w (fW.GM hS 0 Z Z Z Z Z Z) ok.ch Km) Z (ψ:=fun v H=>v=.tuple #[]∧H=aR ob (R.g_++R.dY++R.iO)) yy ?_)
 rintro _ _ ⟨rfl,rfl⟩
 generalize hS1:R.g_++R.dY++R.iO=S1
 have hS1l:S1.length≤3:=by rw[←hS1,ZM,ZM];omega
 refine Bd ?_
 show VC _ _ _ (iB p R x ob S1) _
 have R2e:∀(y:qA) (S:List df),iB p (dS R) y ob S=[pt p (aS (dS R) y) dP,aI aG 2 y.a (dS R).ch.ms.length y.c (flat ax (dS R).ch.ms),cd y.lp (dS R).log,bQ y.wp (dS R).win,bw y.ap (dS R).bK,bW y.rp (dS R).bD,aR ob S]:=fun _ _=>rfl
 refine CS ?_
 refine VC.cq (σ:=Unit) (fun _=>[(0,pV p),(5,pV ob),(6,cI ob)]) (fun _=>iB p (dS R) x ob S1) (fun _=>True) ?_ ?_
 ·unfold iB
  refine an ?_
  refine CC Z (fun h1=>?_) (fun h1=>CK ?_)
  ·have e:dS R={ R with win:={ R.win with dq:=min (max R.cL 0) R.win.last } }:=by rw[dS,if_pos h1]
   refine CD (ts 0 8 (.only 8 .nil)) yn yr ?_
   refine eW ?_
   refine AG (AQ 3 Z (fun Fr w hF hs hS=>Win.xE Fr w ok.win R.cL) Z Z (ψ:=fun v H=>v=.tuple #[]∧H=bQ x.wp { R.win with dq:=min (max R.cL 0) R.win.last }) yy ?_ ?_)
   ·rintro _ _ ⟨rfl,rfl⟩
    exact yu
   rintro _ _ ⟨rfl,rfl⟩
   refine eW ?_
   refine⟨(),trivial,ba,?_⟩
   rw[e];exact ER
  ·have e:dS R=R:=by rw[dS,if_neg KF]
   refine⟨(),trivial,ba,?_⟩
   rw[e];exact ER
 rintro _ -
 have et:(dS R).bD=R.bD∧(dS R).ch=R.ch∧(dS R).dG=R.dG∧(dS R).win.done=R.win.done∧(dS R).win.last=R.win.last:=by unfold dS;split<;>exact⟨rfl,rfl,rfl,rfl,rfl⟩
 have okt:=B9 ok
 have htk:jb R=(dS R,S1++(if (!(dS R).bD.l.isEmpty)=true then [(16,gh (dS R).ch.al (dS R).bD.nR)] else [])++(if (dS R).dG=true∧(dS R).win.done=(dS R).win.last then [(16,jz (dS R).ch.al)] else [])):=by
  rw[et.1,et.2.1,et.2.2.1,et.2.2.2.1,et.2.2.2.2,←hS1];rfl
 rw[htk]
 have hrt:(dS R).bD.l.length≤16:=by rw[et.1];exact hrl
 generalize dS R=Q at *
 refine CS ?_
 refine VC.cq (σ:=Unit) (fun _=>[(0,pV p),(5,pV ob),(6,cI ob)]) (fun _=>iB p Q x ob (S1++(if (!Q.bD.l.isEmpty)=true then [(16,gh Q.ch.al Q.bD.nR)] else []))) (fun _=>True) ?_ ?_
 ·unfold iB
  refine an ?_
  refine VG (VV (fun Fr w hF hs hS=>Rd.fJ Fr w (hS.at_ 5 Z) okt.tD yd) Z ?_)
  refine an ?_
  refine CC Z (fun h1=>?_) (fun h1=>CK ?_)
  ·refine an ?_
   refine VG (VI (LB (pv:=[(0,.int .i64 9),(1,.int .i64 Q.ch.al),(12,.int .i64 Q.bD.nR)]) (iD (gh Q.ch.al Q.bD.nR) ni) Z Z Z yn Z) ?_)
   refine VG (VO.fC 6 Z Z (fun Fr w hF hs _=>iM Fr w ob S1 yd 16 (gh Q.ch.al Q.bD.nR)) Z (ψ:=fun v H=>v=.tuple #[]∧H=aR ob (S1 ++ [(16,gh Q.ch.al Q.bD.nR)])) yy ?_)
   rintro _ _ ⟨rfl,rfl⟩
   refine an ?_
   refine⟨(),trivial,ba,?_⟩
   rw[if_pos h1];exact ER
  ·refine⟨(),trivial,ba,?_⟩
   rw[if_neg KF,ZN];exact ER
 rintro _ -
 generalize hS2:S1++(if (!Q.bD.l.isEmpty)=true then [(16,gh Q.ch.al Q.bD.nR)] else [])=S2
 have hS2l:S2.length≤4:=by rw[←hS2,ZM];split<;>simp<;>omega
 refine CS ?_
 refine VC.cq (σ:=Unit) (fun _=>[(5,pV ob)]) (fun _=>[bA p Q,aR ob (S2++(if Q.dG=true∧Q.win.done=Q.win.last then [(16,jz Q.ch.al)] else []))]) (fun _=>True) ?_ ?_
 ·unfold iB
  have no:¬(Q.dG=true∧Q.win.done=Q.win.last)→∀{X:Cx},jq X (iB p Q x ob S2) [bA p Q,aR ob (S2++(if Q.dG=true∧Q.win.done=Q.win.last then [(16,jz Q.ch.al)] else []))]:=fun h {X}=>by
   rw[if_neg h,ZN];exact dQ.ar
  refine CS ?_
  refine CD (ts 0 1 (.only 1 (ts 2 5 (ts 8 4 (.only 7 (.only 12 (ts 13 2 .nil))))))) yn yr ?_
  refine eW ?_
  refine AG (AR (fun Fr w hF hs hS=>ly Fr w (hS.aP 0 Z)) Z Z yu ?_)
  refine eW ?_
  by_cases h1:Q.dG=true
  rotate_left
  ·have h1':Q.dG=false:=by simpa using h1
   refine AG (AY 55 false Z h1' ?_)
   refine PG ?_
   refine Ur ?_
   refine sk ?_
   exact⟨(),trivial,ba,no (fun h=>h1 h.1)⟩
  refine AG (AY 55 true Z h1 ?_)
  refine lW ?_
  refine AG (AR (fun Fr w hF hs hS=>Win.pq Fr w (hS.aP 3 Z) okt.win.eV) Z Z yu ?_)
  refine lW ?_
  refine AG (AR (fun Fr w hF hs hS=>Win.fJ Fr w (hS.aP 3 Z) okt.win.eV) Z Z yu ?_)
  refine lW ?_
  refine CE (i:=Q.win.done) (j:=Q.win.last) Z (fun h2=>?_) (fun h2=>CK ?_)
  ·refine an ?_
   refine VG (VI (LB (pv:=[(0,.int .i64 12),(1,.int .i64 Q.ch.al)]) (iD (jz Q.ch.al) ni) Z Z Z yn Z) ?_)
   refine VG (VO.fC 6 Z Z (fun Fr w hF hs _=>iM Fr w ob S2 yd 16 (jz Q.ch.al)) Z (ψ:=fun v H=>v=.tuple #[]∧H=aR ob (S2 ++ [(16,jz Q.ch.al)])) yy ?_)
   rintro _ _ ⟨rfl,rfl⟩
   refine an ?_
   refine⟨(),trivial,ba,?_⟩
   rw[if_pos ⟨h1,h2⟩];exact(dQ (x:=x)).ar
  ·exact⟨(),trivial,ba,no (fun h=>h2 h.2)⟩
 rintro _ -
 refine VC.e_ 1 Z (aW.out ob _) ?_
 rintro⟨a,c⟩ -
 refine an ?_
 exact CR (ay.tmp 4 Z Z (IP 2 Z (IP 1 Z ae.nil)).ar ⟨a,c,Z,Z⟩)
end
end Rep
namespace Rep
open Go Vg T Api Kv Ch Lg Rd Win Adm Sched Conf
attribute [local irreducible] VO VC VA
def Bw(aj seq ct al:Int):aa:={ aa.zero with kind:=1,al:=al,aj:=aj,seq:=seq,ct:=ct,deadline:=9,op:=⟨2,⟨#[107]⟩,⟨#[118]⟩,0⟩ }
def bY(S:List df)(whom kind:Int):Bool:=match S with
 | [x]=>x.1 == whom&&x.2.kind == kind
 | _=>false
theorem aW.one{α:Type}{c:α→List Value}{n:Nat}(el:Nat)(a:Option Addr)(cap:Nat)(x:α):aW (ι:=Nat×List Value) (aI el n a [x].length cap (flat c [x])) (fun y=>a=some ⟨y.1,0,none⟩) (fun y=>[pt y.1 (c x++y.2) el]):=by
 intro w ids h hn
 obtain⟨y,hy,ids',h1,h2,h3⟩:=aW.sl el n a 1 cap (flat c [x]) w ids h hn
 cases y with
 | none=>obtain⟨_,_,_,h,_⟩:=hy;cases h
 | some y=>
  obtain⟨b,rest⟩:=y
  obtain⟨_,_,h7,_⟩:=hy
  refine⟨(b,rest),h7,ids',?_,h2,h3⟩
  simp only[bO,fg,ZN] at h1
  exact h1
end Rep
namespace Cl
open Go Vg T Api Ch Conf Rep
abbrev n_:=Int×aa×List bI
def sO(S:List df):List n_:=S.map fun x=>(x.1,x.2,[])
def Ww:fe:=⟨0,⟨#[]⟩,⟨#[]⟩,0⟩
def cw(n:Int):Int:=min (max n 0) 1099511627776
def oR(c:dO):aa:={ aa.zero with kind:=8,bV:=c.al,drain:=c.drain }
def jY(c:dO)(toQ:Int):n_:=(toQ,oR c,c.ms)
def cm(c:dO):Int:=if si c≠0∨c.al=1099511627776 then 2 else 0
def dh(c:dO)(n:Int):Int:=if placeOf c.ms n<0 then 4 else if c.ms.length=1 then 72 else 0
def eF:dO:=⟨0,[],0⟩
def fN(c:dO)(n:Int):dO×Int:=
 if cm c≠0 then (eF,2) else if pW n=false then (eF,2) else if 0≤placeOf c.ms n then (eF,62)
 else (⟨c.al+1,c.ms ++ [(n,c.al+1)],c.drain⟩,0)
def dL(c:dO)(n:Int):dO×Int:=
 if cm c≠0 then (eF,2) else if dh c n≠0 then (eF,dh c n)
 else (⟨c.al+1,c.ms.eraseIdx (placeOf c.ms n).toNat,if c.drain=n then -1 else c.drain⟩,0)
def ft(c:dO)(n:Int):dO×Int:=
 if cm c≠0 then (eF,2) else if dh c n≠0 then (eF,dh c n) else if c.drain≠-1 then (eF,62)
 else (⟨c.al+1,c.ms,n⟩,0)
structure fO where
 cap:Int
 cH:Int
 tokens:Int
 tick:Int
 since:Int
def jL:Nat→fO→fO
 | 0,b=>b
 | k+1,b=>if b.tokens<b.cap∧b.since+b.cH≤b.tick then jL k { b with tokens:=b.tokens+1,since:=b.since+b.cH } else b
def fO.at(b:fO)(now:Int):fO:={ b with tick:=min (max now b.tick) 1099511627776 }
def fO.full(b:fO):fO:=if b.tokens=b.cap then { b with since:=b.tick } else b
def fO.jA(b:fO)(now:Int):fO:=(jL 17 (b.at now)).full
def fO.take(b:fO)(now:Int):fO×Bool:=
 if (b.jA now).tokens=0 then (b.jA now,false) else ({ b.jA now with tokens:=(b.jA now).tokens-1 },true)
def GX(tries iN:Int):Int:=
 if tries<1 then 0 else if 7<tries then min (max iN 0) 64 else min ((2 ^ (tries-1).toNat:Nat):Int) (min (max iN 0) 64)
structure gr where
 kind:Int
 reason:Int
 res:jI
def c_:jI:=⟨0,⟨#[]⟩,0,0⟩
structure aN where
 id:Int
 cls:Int
 timeout:Int
 dE:Int
 tok:fO
 ch:dO
 out:Option (Option gr)
 fP:Int
 since:Int
 Am:Int
 unsure:Bool
 seq:Int
 tries:Int
 cl:Int
 deadline:Int
 op:fe
def oS(c:aV)(id:Int):aN:=⟨id,c.qs.length,c.timeout,c.dE,⟨c.dE,c.cH,c.dE,0,0⟩,eF,none,0,0,0,false,0,0,0,0,Ww⟩
def QH:List n_:=[(16,{ aa.zero with kind:=7 },[])]
def vj(o:fe):Bool:=decide (o.kind=1)&&decide (a6 o=0)
def aN.ask(s:aN)(now:Int):aN×List n_:=({ s with fP:=1,since:=now },QH)
def jR(s:aN):aa:={ aa.zero with kind:=1,al:=s.ch.al,aj:=s.id,seq:=s.seq,ct:=s.tries,cls:=s.cl,deadline:=s.deadline,op:=s.op }
def aN.toQ(s:aN):Int:=if vj s.op then qn s.ch else sv s.ch
def aN.nV(s:aN)(now:Int):aN:={ s with tries:=s.tries+1,fP:=2,since:=now }
def aN.ct(s:aN)(now:Int):aN×List n_:=(s.nV now,[((s.nV now).toQ,jR (s.nV now),[])])
def SP(o:Option (Option gr))(x:gr):Option (Option gr):=match o with
 | some none=>some (some x)
 | o=>o
def aN.end_(s:aN)(o:gr):aN:={ s with out:=SP s.out o,fP:=0 }
def aN.giveUp(s:aN)(reason:Int):aN×List n_:=(s.end_ (if s.unsure then ⟨3,0,c_⟩ else ⟨2,reason,c_⟩),QH)
def aN.FA(s:aN)(now:Int):aN:={ s with fP:=3,Am:=now+GX s.tries 64 }
def aN.wV(s:aN)(now:Int):aN:={ s with tok:=(s.tok.take now).1 }
def aN.nz(s:aN)(reason now:Int):aN×List n_:=
 if s.dE<s.tries∨s.deadline<now then s.giveUp reason
 else if (s.tok.take now).2 then ((s.wV now).FA now,[]) else (s.wV now).giveUp reason
def aN.begun(s:aN)(o:fe)(cl deadline:Int):aN:={ s with out:=some none,seq:=s.seq+1,tries:=0,unsure:=false,op:=o,cl:=cl,deadline:=deadline }
def aN.eY(s:aN)(o:fe)(cl deadline:Int):Int:=
 if s.fP≠0 then 63 else if a6 o≠0∨cl<0∨s.cls≤cl∨deadline<0∨1099511627776<deadline then 2 else 0
def aN.call(s:aN)(o:fe)(cl deadline now:Int):aN×List n_:=
 if s.eY o cl deadline≠0 then (s,[]) else if 0<s.ch.al then (s.begun o cl deadline).ct (cw now) else (s.begun o cl deadline).ask (cw now)
def aN.refused(s:aN)(reason now:Int):aN×List n_:=
 if reason=6∨reason=5∨reason=7 then ({ s with unsure:=true }:aN).nz reason now
 else if reason=2∨reason=10 then s.giveUp reason else s.nz reason now
def aN.take(s:aN)(f:aa)(ms:List bI)(now:Int):aN×List n_:=
 if f.kind=8 then
  if si ⟨f.bV,ms,f.drain⟩≠0∨f.bV<s.ch.al then (s,[])
  else if s.fP=1 then ({ s with ch:=⟨f.bV,ms,f.drain⟩ }:aN).ct (cw now) else ({ s with ch:=⟨f.bV,ms,f.drain⟩ },[])
 else if f.kind=2 then if s.fP≠0∧f.aj=s.id∧f.seq=s.seq then (s.end_ ⟨1,0,f.res⟩,[]) else (s,[])
 else if f.kind=3 then if s.fP=2∧f.aj=s.id∧f.seq=s.seq∧f.ct=s.tries then s.refused f.reason (cw now) else (s,[])
 else (s,[])
def aN.tick(s:aN)(now:Int):aN×List n_:=
 if s.fP=2 then if s.timeout≤cw now-s.since then ({ s with unsure:=true }:aN).nz 0 (cw now) else (s,[])
 else if s.fP=1 then if cw now-s.since<s.timeout then (s,[]) else if s.deadline<cw now then s.giveUp 2 else s.ask (cw now)
 else if s.fP=3 then if s.Am≤cw now then s.ask (cw now) else (s,[])
 else (s,[])
def aN.outcome(s:aN):Option gr:=s.out.getD none
structure aC where
 nodes:Int
 bu:Int
 ch:dO
 heard:List Int
 whole:List Bool
def vk(c:aV):aC:=⟨c.nodes,c.bu,br c,List.replicate 6 0,(List.range 6).map fun(i:Nat)=>decide ((i:Int)<c.chain)⟩
def aC.qE(m:aC)(n:Int):Bool:=(m.whole[n.toNat]?).getD false
def aC.lR(m:aC)(n:Int):Int:=(m.heard[n.toNat]?).getD 0
def aC.lz(m:aC)(n:Int):Bool:=m.ch.ms.any fun x=>!decide (x.1=n)&&m.qE x.1
def aC.isNode(m:aC)(n:Int):Bool:=decide (0≤n)&&decide (n<m.nodes)
def aC.all(m:aC):List n_:=(List.range m.nodes.toNat).map fun(n:Nat)=>jY m.ch (n:Int)
def aC.ue(m:aC)(n:Int):Int:=(dL m.ch n).2
def aC.gone(m:aC)(n:Int):aC:={ m with ch:=(dL m.ch n).1,whole:=m.whole.set n.toNat false }
def aC.out(m:aC)(n:Int):aC:=if m.ue n≠0 then m else m.gone n
def nW(al index:Int):aa:={ aa.zero with kind:=10,al:=al,index:=index }
def aC.cW(m:aC)(from_ now:Int):aC:={ m with heard:=m.heard.set from_.toNat (cw now) }
def aC.wholeAt(m:aC)(from_:Int):aC:={ m with whole:=m.whole.set from_.toNat true }
def aC.take(m:aC)(from_:Int)(f:aa)(now:Int):aC×List n_:=
 if f.kind=7 then (m,[jY m.ch from_])
 else if m.isNode from_=false then (m,[])
 else if f.kind=11 then
  if f.al≠m.ch.al then (m.cW from_ now,[jY m.ch from_])
  else if f.index=1∧(a7 m.ch from_).2=true then ((m.cW from_ now).wholeAt from_,[]) else (m.cW from_ now,[])
 else if f.kind=9 then
  if f.al≠m.ch.al then (m,[jY m.ch from_]) else if qn m.ch=from_ then (m,[(from_,nW f.al f.index,[])]) else (m,[])
 else if f.kind=12 then
  if (f.al=m.ch.al∧m.ch.drain=from_)∧m.lz from_=true∧m.ue from_=0 then (m.gone from_,(m.gone from_).all) else (m,[])
 else (m,[])
def aC.late(m:aC)(now n:Int):Bool:=decide (m.bu<now-m.lR n)&&(m.lz n&&decide (m.ue n=0))
def aC.watch(now:Int):List bI→aC×Bool→aC×Bool
 | [],x=>x
 | y::l,x=>aC.watch now l (if x.1.late now y.1 then (x.1.gone y.1,true) else x)
def aC.tick(m:aC)(now:Int):aC×List n_:=
 ((aC.watch (cw now) m.ch.ms (m,false)).1,if (aC.watch (cw now) m.ch.ms (m,false)).2 then (aC.watch (cw now) m.ch.ms (m,false)).1.all else [])
def aC.vl(m:aC)(n:Int):Int:=if (a7 m.ch n).2=false then 4 else if m.lz n=false then 72 else 0
def aC.cX(m:aC)(n:Int):aC×List n_×Int:=
 if m.vl n≠0 then (m,[],m.vl n) else if m.ue n≠0 then (m,[],m.ue n) else (m.gone n,(m.gone n).all,0)
def aC.gQ(m:aC)(n now:Int):aC:={ m with ch:=(fN m.ch n).1,whole:=m.whole.set n.toNat false,heard:=m.heard.set n.toNat (cw now) }
def aC.join(m:aC)(n now:Int):aC×List n_×Int:=
 if m.isNode n=false then (m,[],2) else if (fN m.ch n).2≠0 then (m,[],(fN m.ch n).2) else (m.gQ n now,(m.gQ n now).all,0)
def aC.gd(m:aC)(n:Int):aC:={ m with ch:=(ft m.ch n).1 }
def aC.drain(m:aC)(n:Int):aC×List n_×Int:=
 if m.vl n≠0 then (m,[],m.vl n) else if (ft m.ch n).2≠0 then (m,[],(ft m.ch n).2) else (m.gd n,(m.gd n).all,0)
structure RecM where
 aj:Int
 seq:Int
 op:fe
 from_:Int
 toQ:Int
 out:gr
def SQ:gr:=⟨0,0,c_⟩
structure bN where
 bz:List RecM
 events:Int
 last:List Int
def B_:bN:=⟨[],0,List.replicate 6 0⟩
def bN.dd(h:bN)(c:Int):Option (Nat×RecM):=
 if c<0∨6≤c∨(h.last[c.toNat]?).getD 0=0 then none
 else (h.bz[((h.last[c.toNat]?).getD 0).toNat-1]?).map fun r=>(((h.last[c.toNat]?).getD 0).toNat-1,r)
def bN.eY(h:bN)(c seq:Int)(o:fe):Int:=
 if c<0∨6≤c∨seq<1∨a6 o≠0 then 2
 else match h.dd c with
  | none=>0
  | some (_,r)=>if r.toQ<0 then 63 else if seq≤r.seq then 70 else 0
def bN.call(h:bN)(c seq:Int)(o:fe):bN:=
 if h.eY c seq o≠0 then h
 else ⟨h.bz ++ [⟨c,seq,o,h.events,-1,SQ⟩],h.events+1,h.last.set c.toNat ((h.bz.length:Int)+1)⟩
def bN.end_(h:bN)(c seq:Int)(o:gr):bN:=
 if o.kind≠1∧o.kind≠2∧o.kind≠3 then h
 else match h.dd c with
  | none=>h
  | some (i,r)=>if r.seq≠seq∨0≤r.toQ then h else { h with bz:=h.bz.set i { r with toQ:=h.events,out:=o },events:=h.events+1 }
abbrev og:=Int×Int
structure bd where
 cap:Int
 gf:List (og×List ByteArray)
def bd.list(l:bd)(p:og):List ByteArray:=(dT l.gf p).getD []
def jZ(a:Int):Bool:=(decide (0≤a)&&decide (a<6))||(decide (a=16)||(decide (32≤a)&&decide (a<38)))
def bd.jB(l:bd)(p:og)(t:ByteArray):Int:=
 if jZ p.1=false∨jZ p.2=false∨p.1=p.2 then 2 else if 512<t.size then 3 else if l.cap≤(l.list p).length then 60 else 0
def bd.send(l:bd)(p:og)(t:ByteArray):bd:=if l.jB p t≠0 then l else { l with gf:=eI l.gf p (l.list p ++ [t]) }
def bd.find(l:bd)(p:og)(i:Int):Option ByteArray:=if i<0 then none else (l.list p)[i.toNat]?
def bd.eT(l:bd)(p:og)(i:Int):bd:=
 if ((l.list p).eraseIdx i.toNat).length=0 then { l with gf:=iE (eI l.gf p ((l.list p).eraseIdx i.toNat)) p } else { l with gf:=eI l.gf p ((l.list p).eraseIdx i.toNat) }
def bd.drop(l:bd)(p:og)(i:Int):bd×Int:=if l.find p i=none then (l,4) else (l.eT p i,0)
def bd.double(l:bd)(p:og)(i:Int):bd×Int:=match l.find p i with
 | none=>(l,4)
 | some t=>(l.send p t,l.jB p t)
end Cl
namespace Cl
open Go Vg T Api Ch Conf Rep
structure gn where
 kind:Int
 a:Int
 b:Int
 c:Int
 op:fe
structure av where
 iY:aV
 now:Int
 dm:aC
 nodes:List (Option au)
 fi:List aN
 cD:bd
 gD:bN
 done:List aY
def ei(c:aV):av:=⟨c,0,vk c,(List.range c.nodes.toNat).map fun(n:Nat)=>some (fy c n false),(List.range c.aB.toNat).map fun(n:Nat)=>oS c n,⟨c.link,[]⟩,B_,[]⟩
def pZ(from_:Int)(l:bd)(s:n_):bd:=match Bw s.2.1 s.2.2 with
 | none=>l
 | some t=>l.send (from_,s.1) (bT t)
def bX(from_:Int)(l:bd)(S:List n_):bd:=S.foldl (pZ from_) l
def av.post(C:av)(from_:Int)(S:List n_):av:={ C with cD:=bX from_ C.cD S }
def av.node(C:av)(n:Int):Option au:=if n<0 then none else (C.nodes[n.toNat]?).getD none
def av.vm(C:av)(n:Int):Int:=if n<0∨(C.nodes.length:Int)≤n then 4 else if (C.node n).isNone then 61 else 0
def av.setNode(C:av)(n:Int)(r:Option au):av:={ C with nodes:=C.nodes.set n.toNat r }
def av.pz(C:av)(n:Int):Option aN:=if n<0 then none else C.fi[n.toNat]?
def av.gA(C:av)(n:Int)(s:aN):av:={ C with fi:=C.fi.set n.toNat s }
def av.dead(C:av)(c:Int):Int:=min (C.now+min (max c 0) 1099511627776) 1099511627776
def av.call(C:av)(s:gn):av×Int:=match C.pz s.a with
 | none=>(C,4)
 | some x=>
  if x.eY s.op s.b (C.dead s.c)≠0 then (C,x.eY s.op s.b (C.dead s.c))
  else
   let y:=x.call s.op s.b (C.dead s.c) C.now
   (({ C.gA s.a y.1 with gD:=C.gD.call s.a y.1.seq s.op }:av).post (32+s.a) y.2,0)
def av.cw(C:av)(n:Nat):av:=match (C.nodes[n]?).getD none with
 | none=>C
 | some r=>(C.setNode n (some (jb r).1)).post n (sO (jb r).2)
def av.mw(C:av)(n:Nat):av:=match C.fi[n]? with
 | none=>C
 | some s=>(C.gA n (s.tick C.now).1).post (32+n) (s.tick C.now).2
def av.tick(C:av):av:=
 let C:={ C with now:=min (C.now+1) 1099511627776 }
 let C:=(List.range C.nodes.length).foldl av.cw C
 (List.range C.fi.length).foldl av.mw C
def av.lA(C:av)(from_ toQ:Int)(f:aa)(ms:List bI):av:=
 if toQ=16 then ({ C with dm:=(C.dm.take from_ f C.now).1 }).post toQ (C.dm.take from_ f C.now).2
 else match C.node toQ with
  | some r=>(C.setNode toQ (some (cC r from_ f ms C.now).1)).post toQ (sO (cC r from_ f ms C.now).2)
  | none=>match C.pz (toQ-32) with
   | some s=>(C.gA (toQ-32) (s.take f ms C.now).1).post toQ (s.take f ms C.now).2
   | none=>C
def av.Pc(C:av)(from_ toQ:Int)(t:ByteArray):av:=match getM (sB t) with
 | some (f,ms)=>C.lA from_ toQ f ms
 | none=>C
def av.fF(C:av)(p:og)(i:Int):av×Int:=match C.cD.find p i with
 | none=>(C,4)
 | some t=>(({ C with cD:=C.cD.eT p i }:av).Pc p.1 p.2 t,0)
def av.back(C:av)(n:Int):av:=
 if C.vm n=61 then
  let r:=cC (fy C.iY n true) 16 (oR C.dm.ch) C.dm.ch.ms C.now
  (C.setNode n (some r.1)).post n (sO r.2)
 else C
def av.join(C:av)(n:Int):av×Int:=
 let j:=C.dm.join n C.now
 if j.2.2≠0 then (C,j.2.2) else ((({ C with dm:=j.1 }:av).back n).post 16 j.2.1,0)
def av.step(C:av)(s:gn):av×Int:=
 if s.kind=1 then C.call s
 else if s.kind=2 then match C.node s.a with
  | none=>(C,C.vm s.a)
  | some r=>((C.setNode s.a (some (gN r C.now).1)).post s.a (sO (gN r C.now).2),0)
 else if s.kind=3 then (C.tick,0)
 else if s.kind=4 then C.fF (s.a,s.b) s.c
 else if s.kind=5 then ({ C with cD:=(C.cD.drop (s.a,s.b) s.c).1 },(C.cD.drop (s.a,s.b) s.c).2)
 else if s.kind=6 then ({ C with cD:=(C.cD.double (s.a,s.b) s.c).1 },(C.cD.double (s.a,s.b) s.c).2)
 else if s.kind=7 then if C.vm s.a≠0 then (C,C.vm s.a) else (C.setNode s.a none,0)
 else if s.kind=8 then (({ C with dm:=(C.dm.cX s.a).1 }:av).post 16 (C.dm.cX s.a).2.1,(C.dm.cX s.a).2.2)
 else if s.kind=9 then C.join s.a
 else if s.kind=10 then (({ C with dm:=(C.dm.drain s.a).1 }:av).post 16 (C.dm.drain s.a).2.1,(C.dm.drain s.a).2.2)
 else if s.kind=11 then (({ C with dm:=(C.dm.tick C.now).1 }:av).post 16 (C.dm.tick C.now).2,0)
 else (C,2)
def rK(h:bN)(x:aN×Nat):bN:=match x.1.outcome with
 | none=>h
 | some o=>h.end_ (x.2:Int) x.1.seq o
def um(ms:List bI):Int:=match ms.getLast? with
 | none=>-1
 | some m=>m.1
def iv(d:List aY)(x:Option au×Nat):List aY:=match x.1 with
 | none=>d
 | some r=>if r.since=0∨r.ch.ms.length=0∨um r.ch.ms≠x.2∨r.win.done≤d.length then d else d++(r.log.take r.win.done.toNat).drop d.length
def av.behind(C:av):av:={ C with gD:=C.fi.zipIdx.foldl rK C.gD,done:=C.nodes.zipIdx.foldl iv C.done }
def av.jM(C:av)(s:gn):av×Int:=((C.step s).1.behind,(C.step s).2)
end Cl
namespace Cl
open Go Vg T Api Ch Conf Rep
structure B'(s t:gn):Prop where
 kind:s.kind=t.kind
 a:s.kind≠3→s.kind≠11→s.a=t.a
 bc:s.kind=1∨s.kind=4∨s.kind=5∨s.kind=6→s.b=t.b∧s.c=t.c
 op:s.kind=1→s.op=t.op
theorem B'.step{s t:gn}(h:B' s t)(C:av):C.step s=C.step t:=by
 obtain⟨h1,h2,h3,h4⟩:=h
 unfold av.step
 rw[←h1]
 by_cases k1:s.kind=1
 ·rw[if_pos k1,if_pos k1]
  unfold av.call
  rw[h2 yd yd,(h3 (.inl k1)).1,(h3 (.inl k1)).2,h4 k1]
 rw[if_neg k1,if_neg k1]
 by_cases k2:s.kind=2
 ·rw[if_pos k2,if_pos k2,h2 yd yd]
 rw[if_neg k2,if_neg k2]
 by_cases k3:s.kind=3
 ·rw[if_pos k3,if_pos k3]
 rw[if_neg k3,if_neg k3]
 by_cases k4:s.kind=4
 ·rw[if_pos k4,if_pos k4,h2 yd yd,(h3 yd).1,(h3 yd).2]
 rw[if_neg k4,if_neg k4]
 by_cases k5:s.kind=5
 ·rw[if_pos k5,if_pos k5,h2 yd yd,(h3 yd).1,(h3 yd).2]
 rw[if_neg k5,if_neg k5]
 by_cases k6:s.kind=6
 ·rw[if_pos k6,if_pos k6,h2 yd yd,(h3 yd).1,(h3 yd).2]
 rw[if_neg k6,if_neg k6]
 by_cases k11:s.kind=11
 ·rw[if_neg yd,if_neg yd,if_neg yd,if_neg yd,if_pos k11,if_neg yd,if_neg yd,if_neg yd,if_neg yd]
 rw[h2 k3 k11]
theorem B'.jM{s t:gn}(h:B' s t)(C:av):C.jM s=C.jM t:=by
 unfold av.jM
 rw[h.step]
def lV(n:Int):Prop:=0≤n∧n≤99
theorem FB(C:av)(n:Int):lV (C.vm n):=by
 unfold av.vm
 by_cases h:n<0∨(C.nodes.length:Int)≤n
 ·rw[if_pos h];unfold lV;decide
 rw[if_neg h]
 by_cases h:(C.node n).isNone=true
 ·rw[if_pos h];unfold lV;decide
 ·rw[if_neg h];unfold lV;decide
theorem I8(C:av)(s:gn):lV (C.step s).2:=by
 have z:lV 0:=by unfold lV;decide
 have f4:lV 4:=by unfold lV;decide
 have t2:lV 2:=by unfold lV;decide
 have t3:lV 3:=by unfold lV;decide
 have t60:lV 60:=by unfold lV;decide
 have t62:lV 62:=by unfold lV;decide
 have t63:lV 63:=by unfold lV;decide
 have t72:lV 72:=by unfold lV;decide
 have ite:∀{p:Prop} [Decidable p] {x y:av×Int},lV x.2→lV y.2→lV (if p then x else y).2:=fun {p} _ {x y} h1 h2=>by
  by_cases h:p
  ·rw[if_pos h];exact h1
  ·rw[if_neg h];exact h2
 have iti:∀{p:Prop} [Decidable p] {x y:Int},lV x→lV y→lV (if p then x else y):=fun {p} _ {x y} h1 h2=>by
  by_cases h:p
  ·rw[if_pos h];exact h1
  ·rw[if_neg h];exact h2
 have it3:∀{α β:Type} {p:Prop} [Decidable p] {x y:α×β×Int},lV x.2.2→lV y.2.2→lV (if p then x else y).2.2:=fun {α β p} _ {x y} h1 h2=>by
  by_cases h:p
  ·rw[if_pos h];exact h1
  ·rw[if_neg h];exact h2
 have itc:∀{p:Prop} [Decidable p] {x y:dO×Int},lV x.2→lV y.2→lV (if p then x else y).2:=fun {p} _ {x y} h1 h2=>by
  by_cases h:p
  ·rw[if_pos h];exact h1
  ·rw[if_neg h];exact h2
 have hl:∀c n,lV (dh c n):=fun c n=>by
  unfold dh
  repeat' apply iti
  all_goals first | exact z | exact f4 | exact t2 | exact t62 | exact t72 | (unfold lV;decide)
 have hm:∀n,lV (C.dm.vl n):=fun n=>iti f4 (iti t72 z)
 unfold av.step
 refine ite ?_ (ite ?_ (ite z (ite ?_ (ite ?_ (ite ?_ (ite (ite (FB C _) z) (ite ?_ (ite ?_ (ite ?_ (ite z t2))))))))))
 ·unfold av.call
  split
  ·exact f4
  ·refine ite ?_ z
   exact iti t63 (iti t2 z)
 ·split
  ·exact FB C _
  ·exact z
 ·unfold av.fF
  split
  ·exact f4
  ·exact z
 ·show lV (C.cD.drop (s.a,s.b) s.c).2
  unfold bd.drop
  by_cases h:C.cD.find (s.a,s.b) s.c=none
  ·rw[if_pos h];exact f4
  ·rw[if_neg h];exact z
 ·show lV (C.cD.double (s.a,s.b) s.c).2
  unfold bd.double
  split
  ·exact f4
  ·exact iti t2 (iti t3 (iti t60 z))
 ·exact it3 (hm _) (it3 (itc t2 (itc (hl _ _) z)) z)
 ·show lV (C.join s.a).2
  unfold av.join
  have hj:lV (C.dm.join s.a C.now).2.2:=it3 t2 (it3 (itc t2 (itc t2 (itc t62 z))) z)
  exact ite hj z
 ·exact it3 (hm _) (it3 (itc t2 (itc (hl _ _) (itc t62 z))) z)
theorem I9(C:av)(s:gn):lV (C.jM s).2:=I8 C s
end Cl
namespace Vg
open Go
section
variable {α:Type} {c:α→List Value} {n:Nat}
def p5(a:Option Addr)(cap lo sz:Nat):Option Addr:=a.map fun q=>if cap=lo then q else q.add (lo*sz)
theorem vn{X:Cx}{e:Env}{T:TypeId}{x y:Operand}{tt te:TI}{el len cap:Nat}{a:Option Addr}{k:IntKind}{j:Int}(lo:Nat)(hx:ev e x=some (.slice a len cap))(hy:ev e y=some (.int k j))
  (hT:aL X.tab T=some tt) (hu:tt.aU=.slice el) (hE:aL X.tab el=some te) (hlo:j=lo) (h1:lo≤len) (h2:len≤cap):
  cY X (.slice T x (some y) none none) e (.slice (p5 a cap lo te.size) (len-lo) (cap-lo)):=by
 intro ac hac dst ty pos after guard w
 have hd:=e9 (X.ok.look hT) hu
 obtain⟨i2,hi2,hs2,_,_⟩:=(X.ok.look hE).kY
 subst hlo
 cases a with
 | none=>simp[execOp,hac.ev hx,hac.ev hy,Instr.sliceAt,Instr.slice,Instr.sliceBounds,Instr.sliceBound,asIntOf,run_underlying hd,h1,h2,dI hi2,p5]
 | some a=>
  by_cases h:cap=lo
  ·subst h
   simp[execOp,hac.ev hx,hac.ev hy,Instr.sliceAt,Instr.slice,Instr.sliceBounds,Instr.sliceBound,asIntOf,run_underlying hd,h1,h2,dI hi2,p5]
  ·simp[execOp,hac.ev hx,hac.ev hy,Instr.sliceAt,Instr.slice,Instr.sliceBounds,Instr.sliceBound,asIntOf,run_underlying hd,h1,h2,dI hi2,p5,hs2,h]
end
theorem my(a b:ByteArray):(a.toList == b.toList)=decide (a=b):=by
 by_cases h:a=b
 ·subst h;simp
 ·have:a.toList≠b.toList:=fun e=>h (by
   rw[ByteArray.toList_eq,ByteArray.toList_eq] at e
   exact ByteArray.ext (Array.toList_inj.1 e))
  rw[DF h];simpa using this
end Vg
namespace Vg
open Go
def An(b:Nat)(s:ByteArray)(pos:Nat):HP:=
 ⟨fun ids w=>ids=[b]∧w.heap[b]?=some (.stringIter s pos),fun _ _ _ h hs=>⟨hs.1,(h b yb).trans hs.2⟩⟩
section
variable {X:Cx} {e:Env} {L:List HP}
theorem St.QI{w:World}(h:St X L w)(s:ByteArray):St X (An w.heap.size s 0::L) (w.alloc (.stringIter s 0)):=
 ⟨h.sat.alloc h.nZ _ _ ⟨rfl,heap_alloc_new w _⟩,h.cK.trans (dH.alloc h.nZ _),h.low⟩
theorem St.SR{w:World}{b pos:Nat}{s:ByteArray}(h:St X L w){i:Nat}(hL:L[i]?=some (An b s pos)):w.heap[b]?=some (.stringIter s pos)∧¬X.Fr b:=by
 obtain⟨F,hs,_,hb⟩:=h.sat
 obtain⟨ids,h1,h2⟩:=hs.get hL
 obtain⟨rfl,h1⟩:=h1
 exact⟨h1,(hb b (h2 b yf)).1⟩
theorem a8.range{T:TypeId}{x:Operand}{s:ByteArray}(hT:X.P.underlying T=some .string)(hx:ev e x=some (.string s)):
  a8 X (.range T x) e L (fun v L'=>∃b,v=.pointer (some ⟨b,0,none⟩)∧L'=An b s 0::L):=fun ac w ha hw dst ty pos after guard=>by
 refine .inl ⟨_,w.alloc (.stringIter s 0),_,?_,⟨w.heap.size,Z,Z⟩,hw.QI s⟩
 simp[execOp,ha.ev hx,Instr.range,run_underlying hT,newObj,Sem.run]
theorem a8.ez{it:Operand}{b p:Nat}{s:ByteArray}{c:Nat}(i:Nat)(hx:ev e it=some (.pointer (some ⟨b,0,none⟩)))(hL:L[i]?=some (An b s p))(hp:p<s.size)(hd:Utf8.decode s p=(c,1)):
  a8 X (.next it true) e L (fun v L'=>v=.tuple #[.bool true,.int .i64 (p:Int),.int .i32 (c:Int)]∧L'=L.set i (An b s (p+1))):=fun ac w ha hw dst ty pos after guard=>by
 obtain⟨h1,hf⟩:=hw.SR hL
 have hids:∀ids w,(An b s p).sat ids w→ids=[b]:=fun _ _ h=>h.1
 refine .inl ⟨_,bC w b (.stringIter s (p+1)),_,?_,⟨rfl,Z⟩,hw.uF hL hids h1 hf ⟨rfl,eL h1⟩⟩
 simp[execOp,ha.ev hx,Instr.next,getObj,setObj,Sem.run,h1,hp,hd,bC,goInt,Result.andThen]
theorem a8.I_{it:Operand}{b:Nat}{s:ByteArray}(i:Nat)(hx:ev e it=some (.pointer (some ⟨b,0,none⟩)))(hL:L[i]?=some (An b s s.size)):
  a8 X (.next it true) e L (fun v L'=>v=.tuple #[.bool false]∧L'=L):=fun ac w ha hw dst ty pos after guard=>by
 obtain⟨h1,hf⟩:=hw.SR hL
 refine .inl ⟨_,w,_,?_,⟨rfl,Z⟩,hw⟩
 simp[execOp,ha.ev hx,Instr.next,getObj,Sem.run,h1]
theorem dZ{T:TypeId}{x y:Operand}{s:ByteArray}{b:UInt8}{k:IntKind}{j:Int}{tt:TI}(i:Nat)(hx:ev e x=some (.string s))(hy:ev e y=some (.int k j))(hT:aL X.tab T=some tt)(hu:tt.aU=.string)
  (hj:j=i) (hb:s.data.toList[i]?=some b):cY X (.index T x y) e (.int .u8 (b.toNat:Int)):=by
 intro a ha dst ty pos after guard w
 have hund:=hU (X.ok.look hT) hu
 subst hj
 have hb2:s[i]?=some b:=by
  have:s.data[i]?=some b:=by simpa using hb
  obtain⟨h1,h2⟩:=Array.getElem?_eq_some_iff.1 this
  rw[getElem?_pos s i h1]
  exact congrArg some h2
 simp[execOp,ha.ev hx,ha.ev hy,Instr.index,asIntOf,run_underlying hund,hb2]
theorem Eg{xt yt:TypeId}{x y:Operand}{a n:Nat}{k:IntKind}(hx:ev e x=some (.int .u8 (a:Int)))(hy:ev e y=some (.int k (n:Int)))(hn:n≤8):cY X (.binOp .shr xt x y yt) e (.int .u8 ((a / 2 ^ n:Nat):Int)):=by
 intro a' ha dst ty pos after guard w
 have h8:min ((n:Int).toNat) IntKind.u8.bits=n:=Nat.min_eq_left hn
 have h2:((2:Int) ^ n)=((2 ^ n:Nat):Int):=by simp
 have hd:(a:Int).fdiv (2 ^ n)=((a / 2 ^ n:Nat):Int):=by
  rw[h2,Int.fdiv_eq_ediv_of_nonneg _ (Int.natCast_nonneg _)];rfl
 have h:Op.shift .shr .u8 (a:Int) k (n:Int)=pure (.int .u8 ((a / 2 ^ n:Nat):Int)):=by
  unfold Op.shift
  rw[if_neg yd,h8]
  simp only[hd]
 simp only[execOp,ha.ev hx,ha.ev hy]
 show((do eqGuard .shr xt x y (.int .u8 a) (.int k n);Op.shift .shr .u8 a k n:Sem Value) >>= fun v=>pure (Next.value v)).run X.P w=_
 rw[h];rfl
theorem Eh{xt yt:TypeId}{x y:Operand}{a n:Nat}{k:IntKind}(hx:ev e x=some (.int .i64 (a:Int)))(hy:ev e y=some (.int k (n:Int)))(hn:n≤64)(hz:a*2 ^ n<9223372036854775808):cY X (.binOp .shl xt x y yt) e (.int .i64 ((a*2 ^ n:Nat):Int)):=by
 intro a' ha dst ty pos after guard w
 have h8:min ((n:Int).toNat) IntKind.i64.bits=n:=Nat.min_eq_left hn
 have h2:(a:Int)*2 ^ n=((a*2 ^ n:Nat):Int):=by simp
 have h:Op.shift .shl .i64 (a:Int) k (n:Int)=pure (.int .i64 ((a*2 ^ n:Nat):Int)):=by
  unfold Op.shift
  rw[if_neg yd,h8]
  simp only[h2]
  rw[Bu hz]
 simp only[execOp,ha.ev hx,ha.ev hy]
 show((do eqGuard .shl xt x y (.int .i64 a) (.int k n);Op.shift .shl .i64 a k n:Sem Value) >>= fun v=>pure (Next.value v)).run X.P w=_
 rw[h];rfl
theorem Ei{xt yt:TypeId}{x y:Operand}{a b:Nat}(hx:ev e x=some (.int .u8 (a:Int)))(hy:ev e y=some (.int .u8 (b:Int)))(ha:a<256)(hb:b<256):cY X (.binOp .and xt x y yt) e (.int .u8 ((a &&& b:Nat):Int)):=by
 intro a' hag dst ty pos after guard w
 have hlt:a &&& b<256:=Nat.lt_of_le_of_lt Nat.and_le_left ha
 have h:Op.intBits .and .u8 (a:Int) (b:Int)=pure (.int .u8 ((a &&& b:Nat):Int)):=by
  have f1:(BitVec.ofInt 8 (a:Int)).toNat=a:=by simp;omega
  have f2:(BitVec.ofInt 8 (b:Int)).toNat=b:=by simp;omega
  have e1:(BitVec.ofInt 8 (a:Int) &&& BitVec.ofInt 8 (b:Int)).toNat=a &&& b:=by rw[BitVec.toNat_and,f1,f2]
  show(pure (.int .u8 (IntKind.u8.wrap ((BitVec.ofInt 8 (a:Int) &&& BitVec.ofInt 8 (b:Int)).toNat:Int))):Sem Value)=_
  rw[e1,IntKind.wrap_u8',Int.emod_eq_of_lt yd yd]
 simp only[execOp,hag.ev hx,hag.ev hy]
 show((do eqGuard .and xt x y (.int .u8 a) (.int .u8 b);Op.intBits .and .u8 a b:Sem Value) >>= fun v=>pure (Next.value v)).run X.P w=_
 rw[h];rfl
theorem GY{P:Program}{ty:Nat}{ms:Array (String×TypeId)}(hund:P.underlying ty=some (.interface ms)){v:Value}{r:Bool}(hv:(v=.nilIface∧r=true)∨∃tp p,v=.iface tp p∧r=false)(w:World):(Op.equal ty v .nilIface).run P w=.ok r w:=by
 unfold Op.equal
 show(Op.equalIn (9999+1) ty v .nilIface).run P w=_
 rw[Op.equalIn,Sem.run_bind,run_underlying hund]
 rcases hv with ⟨rfl,rfl⟩ | ⟨tp,p,rfl,rfl⟩<;>rfl
theorem tI{T yt:TypeId}{x:Operand}{v:Value}{ms:Array (String×TypeId)}{r:Bool}(hT:X.P.underlying T=some (.interface ms))(hx:ev e x=some v)(hv:(v=.nilIface∧r=false)∨∃tp p,v=.iface tp p∧r=true):
  cY X (.binOp .neq T x (.const .nilIface) yt) e (.bool r):=by
 intro a' ha dst ty pos after guard w
 have hq:=GY hT (v:=v) (r:=!r) (by rcases hv with ⟨h1,h2⟩ | ⟨tp,p,h1,h2⟩<;>simp[h1,h2]) w
 simp only[execOp,ha.ev hx]
 have h:(do eqGuard .neq T x (.const .nilIface) v .nilIface;binOp .neq T v .nilIface:Sem Value).run X.P w=.ok (.bool r) w:=by
  have hg:(eqGuard .neq T x (.const .nilIface) v .nilIface).run X.P w=.ok () w:=by
   rcases hv with ⟨rfl,_⟩ | ⟨tp,p,rfl,_⟩
   ·cases x<;>rfl
   ·rfl
  rw[Sem.run_bind,hg,Result.andThen_ok]
  have hb:binOp .neq T v .nilIface=(do pure (.bool (!(←Op.equal T v .nilIface))):Sem Value):=by
   rcases hv with ⟨rfl,_⟩ | ⟨tp,p,rfl,_⟩<;>rfl
  rw[hb,Sem.run_bind,hq]
  cases r<;>rfl
 rw[Sem.run_bind]
 show((do eqGuard .neq T x (.const .nilIface) v .nilIface;binOp .neq T v .nilIface:Sem Value).run X.P w).andThen _=_
 rw[h];rfl
end
end Vg
end Go.Proofs.YthnlpdacbcjgpaaGreatDoor
namespace Go.Proofs
open Go.Shelf
def Tryz.vo : Go.Shelf.Ren := ⟨fun | 166 => 18 | 240 => 34 | 276 => 54 | n => n, fun | 0 => 0 | 3 => 3 | 4 => 4 | 9 => 9 | 20 => 20 | 37 => 56 | 70 => 55 | 72 => 58 | 75 => 60 | 164 => 141 | 5 => 5 | 80 => 65 | n => n, fun n => n⟩
theorem Tryz.QJ : Go.Proofs.Lays.n166 Tryz.prog Tryz.vo := {
  mixed := by kernel_rfl
  f166 := Tryz.func18.trans (congrArg some (by kernel_rfl))
  f240 := Tryz.func34.trans (congrArg some (by kernel_rfl))
  f276 := Tryz.func54.trans (congrArg some (by kernel_rfl))
  t0 := Tryz.underlying0
  a0 := Tryz.isAgg0
  z0 := Tryz.sizeOf0
  v0 := Tryz.zeroValue0
  t3 := Tryz.underlying3
  a3 := Tryz.isAgg3
  z3 := Tryz.sizeOf3
  v3 := Tryz.zeroValue3
  t4 := Tryz.underlying4
  a4 := Tryz.isAgg4
  z4 := Tryz.sizeOf4
  v4 := Tryz.zeroValue4
  t9 := Tryz.underlying9
  a9 := Tryz.isAgg9
  z9 := Tryz.sizeOf9
  v9 := Tryz.zeroValue9
  t20 := Tryz.underlying20
  a20 := Tryz.isAgg20
  z20 := Tryz.sizeOf20
  v20 := Tryz.zeroValue20
  t37 := Tryz.underlying56
  a37 := Tryz.isAgg56
  z37 := Tryz.sizeOf56
  v37 := Tryz.zeroValue56
  t70 := Tryz.underlying55
  a70 := Tryz.isAgg55
  z70 := Tryz.sizeOf55
  v70 := Tryz.zeroValue55
  t72 := Tryz.underlying58
  a72 := Tryz.isAgg58
  z72 := Tryz.sizeOf58
  v72 := Tryz.zeroValue58
  t75 := Tryz.underlying60
  a75 := Tryz.isAgg60
  z75 := Tryz.sizeOf60
  v75 := Tryz.zeroValue60
  t164 := Tryz.underlying141
  a164 := Tryz.isAgg141
  z164 := Tryz.sizeOf141
  v164 := Tryz.zeroValue141 }
def Tryz.vp : Go.Shelf.Ren := ⟨fun | 167 => 26 | 240 => 34 | 276 => 54 | n => n, fun | 0 => 0 | 4 => 4 | 5 => 5 | 9 => 9 | 20 => 20 | 37 => 56 | 70 => 55 | 72 => 58 | 75 => 60 | 164 => 141 | 80 => 65 | n => n, fun n => n⟩
theorem Tryz.QK : Go.Proofs.Lays.n167 Tryz.prog Tryz.vp := {
  mixed := by kernel_rfl
  f167 := Tryz.func26.trans (congrArg some (by kernel_rfl))
  f240 := Tryz.func34.trans (congrArg some (by kernel_rfl))
  f276 := Tryz.func54.trans (congrArg some (by kernel_rfl))
  t0 := Tryz.underlying0
  a0 := Tryz.isAgg0
  z0 := Tryz.sizeOf0
  v0 := Tryz.zeroValue0
  t4 := Tryz.underlying4
  a4 := Tryz.isAgg4
  z4 := Tryz.sizeOf4
  v4 := Tryz.zeroValue4
  t5 := Tryz.underlying5
  a5 := Tryz.isAgg5
  z5 := Tryz.sizeOf5
  v5 := Tryz.zeroValue5
  t9 := Tryz.underlying9
  a9 := Tryz.isAgg9
  z9 := Tryz.sizeOf9
  v9 := Tryz.zeroValue9
  t20 := Tryz.underlying20
  a20 := Tryz.isAgg20
  z20 := Tryz.sizeOf20
  v20 := Tryz.zeroValue20
  t37 := Tryz.underlying56
  a37 := Tryz.isAgg56
  z37 := Tryz.sizeOf56
  v37 := Tryz.zeroValue56
  t70 := Tryz.underlying55
  a70 := Tryz.isAgg55
  z70 := Tryz.sizeOf55
  v70 := Tryz.zeroValue55
  t72 := Tryz.underlying58
  a72 := Tryz.isAgg58
  z72 := Tryz.sizeOf58
  v72 := Tryz.zeroValue58
  t75 := Tryz.underlying60
  a75 := Tryz.isAgg60
  z75 := Tryz.sizeOf60
  v75 := Tryz.zeroValue60
  t164 := Tryz.underlying141
  a164 := Tryz.isAgg141
  z164 := Tryz.sizeOf141
  v164 := Tryz.zeroValue141 }
def Tryz.vq : Go.Shelf.Ren := ⟨fun | 169 => 22 | n => n, fun | 0 => 0 | 3 => 3 | 9 => 9 | 37 => 56 | 70 => 55 | 72 => 58 | 127 => 93 | 5 => 5 | n => n, fun n => n⟩
theorem Tryz.QL : Go.Proofs.Lays.n169 Tryz.prog Tryz.vq := {
  mixed := by kernel_rfl
  f169 := Tryz.func22.trans (congrArg some (by kernel_rfl))
  t0 := Tryz.underlying0
  a0 := Tryz.isAgg0
  z0 := Tryz.sizeOf0
  v0 := Tryz.zeroValue0
  t3 := Tryz.underlying3
  a3 := Tryz.isAgg3
  z3 := Tryz.sizeOf3
  v3 := Tryz.zeroValue3
  t9 := Tryz.underlying9
  a9 := Tryz.isAgg9
  z9 := Tryz.sizeOf9
  v9 := Tryz.zeroValue9
  t37 := Tryz.underlying56
  a37 := Tryz.isAgg56
  z37 := Tryz.sizeOf56
  v37 := Tryz.zeroValue56
  t70 := Tryz.underlying55
  a70 := Tryz.isAgg55
  z70 := Tryz.sizeOf55
  v70 := Tryz.zeroValue55
  t72 := Tryz.underlying58
  a72 := Tryz.isAgg58
  z72 := Tryz.sizeOf58
  v72 := Tryz.zeroValue58
  t127 := Tryz.underlying93
  a127 := Tryz.isAgg93
  z127 := Tryz.sizeOf93
  v127 := Tryz.zeroValue93 }
theorem Tryz.NX : Builder.Extra Tryz.prog Tryz.vo := {
  sizeBuilder := by kernel_rfl
  liesBuilder := by kernel_rfl
  t5 := Tryz.underlying5
  a5 := Tryz.isAgg5
  z5 := Tryz.sizeOf5
  v5 := Tryz.zeroValue5
  infoByte := by kernel_rfl
  cellsByte := by kernel_rfl
  sizeByte := by kernel_rfl
  neB5 := by decide }
theorem Tryz.NY : Builder.Extra Tryz.prog Tryz.vp := {
  sizeBuilder := by kernel_rfl
  liesBuilder := by kernel_rfl
  t5 := Tryz.underlying5
  a5 := Tryz.isAgg5
  z5 := Tryz.sizeOf5
  v5 := Tryz.zeroValue5
  infoByte := by kernel_rfl
  cellsByte := by kernel_rfl
  sizeByte := by kernel_rfl
  neB5 := by decide }
theorem Tryz.NZ : Builder.Extra Tryz.prog Tryz.vq := {
  sizeBuilder := by kernel_rfl
  liesBuilder := by kernel_rfl
  t5 := Tryz.underlying5
  a5 := Tryz.isAgg5
  z5 := Tryz.sizeOf5
  v5 := Tryz.zeroValue5
  infoByte := by kernel_rfl
  cellsByte := by kernel_rfl
  sizeByte := by kernel_rfl
  neB5 := by decide }
end Go.Proofs
namespace Go.Proofs.YthnlpdacbcjgpaaGreatDoor
variable (Fr : Nat → Prop) (w : World)
namespace LibC
open Go Vg T Go.Shelf
def sP(Fr:Nat→Prop)(w:World):Prop:=uO Tryz.prog Fr w "internal/strconv.uint64pow10" .u64 Lib.pow10Tab
theorem sP.st{X:Cx}{L:List HP}(hP:X.P=Tryz.prog)(h:sP X.Fr X.w0){Fr':Nat→Prop}{w:World}(hF:∀b,X.Fr b→Fr' b)(hw:St X L w):sP Fr' w:=uO.cK h hF hw.cK
theorem GZ:dW Tryz.prog 20:=⟨_,Tryz.func20,by kernel_rfl,by kernel_rfl⟩
theorem Ej:dW Tryz.prog 18:=⟨_,Tryz.func18,by kernel_rfl,by kernel_rfl⟩
theorem Ca:dW Tryz.prog 26:=⟨_,Tryz.func26,by kernel_rfl,by kernel_rfl⟩
theorem Cb:dW Tryz.prog 22:=⟨_,Tryz.func22,by kernel_rfl,by kernel_rfl⟩
def gJ(n:Int):ByteArray:=⟨(Lib.itoa n).toArray⟩
theorem iw(n:Int)(h0:-9223372036854775808≤n)(h1:n≤9223372036854775807)(ht:sP Fr w):
  aH Tryz.prog 20 [.int .i64 n] Fr w [] (fun v L=>v=.string (gJ n)∧L=[]):=
 aH.Nt GZ (Any.strconv_Itoa Tryz.It n h0 h1 w ht.is)
def jC(B b:Nat)(s:ByteArray):HP:=DX 58 5 B b (Lib.strCells s)
theorem rL(s t:ByteArray):Lib.strCells s++Lib.strCells t=Lib.strCells (s++t):=by simp[Lib.strCells]
theorem rM(s:ByteArray):(Lib.strCells s).length=s.size:=by simp[Lib.strCells]
theorem vr(B b:Nat)(s t:ByteArray)(hF:∀x,Fr x→x<B∨BM 5 w x)(hlen:s.size+t.size≤140737488355328):
  aH Tryz.prog 18 [.pointer (some ⟨b,0,none⟩),.string t] Fr w [jC B b s] (fun v L=>v=.tuple #[.int .i64 t.size,.nilIface]∧L=[jC B b (s++t)]):=
 ⟨Ej,fun hl hs=>by
  obtain⟨h1,h2,h0⟩:=zX hs
  exact Calls.mono (Any.Builder_WriteString_k Tryz.QJ Tryz.NX B b _ t w h1 (by rw[rM];exact hlen) h2) fun e w' ⟨h3,h4,h5,h6⟩=>
   ⟨_,_,h3,⟨rfl,rfl⟩,by rw[rL] at h4;exact Fp hF h6 h0 h4,oC hF h0 h5 h6 wJ.any⟩⟩
theorem Cc(B b:Nat)(s:ByteArray)(c:UInt8)(hF:∀x,Fr x→x<B∨BM 5 w x)(hlen:s.size+1≤140737488355328):
  aH Tryz.prog 26 [.pointer (some ⟨b,0,none⟩),.int .u8 (c.toNat:Int)] Fr w [jC B b s] (fun v L=>v=.nilIface∧L=[jC B b (s++⟨#[c]⟩)]):=
 ⟨Ca,fun hl hs=>by
  obtain⟨h1,h2,h0⟩:=zX hs
  exact Calls.mono (Any.Builder_WriteByte_k Tryz.QK Tryz.NY B b _ (c.toNat:Int) w h1 (by rw[rM];exact hlen) h2) fun e w' ⟨h3,h4,h5,h6⟩=>
   ⟨_,_,h3,⟨rfl,rfl⟩,by
    have e1:Lib.strCells s ++ [Value.int .u8 (c.toNat:Int)]=Lib.strCells (s++⟨#[c]⟩):=by rw[←rL];rfl
    rw[e1] at h4;exact Fp hF h6 h0 h4,oC hF h0 h5 h6 wJ.any⟩⟩
theorem Cd(B b:Nat)(s:ByteArray)(hF:∀x,Fr x→x<B∨BM 5 w x):
  aH Tryz.prog 22 [.pointer (some ⟨b,0,none⟩)] Fr w [jC B b s] (fun v L=>v=.string s∧L=[]):=
 ⟨Cb,fun hl hs=>by
  obtain⟨h1,h2,h0⟩:=zX hs
  exact Calls.mono (Any.Builder_String_any_k Tryz.QL Tryz.NZ B b s.data.toList w h1 h2) fun e w' ⟨h3,_,h4,h5⟩=>
   ⟨_,_,h3,⟨by simp,rfl⟩,Sat.nil,oC hF h0 h4 h5 wJ.any⟩⟩
section
variable {X:Cx} {ops:Array Oper} {G:GS} {l:List Oper} {e:Env} {L:List HP} {K:Env→List HP→Prop}
  {dst:Option Tmp} {ty:TypeId} {pos:String} {after:Array Edge} {guard:Option (Nat×Bool)}
theorem Ao{L':List HP}(hnb:∀H∈L',NB 5 H){Fl:List Nat}{w:World}(hw:St X L w)(hs:dM L' Fl w):∀x,(X.Fr x∨x∈Fl)→x<X.w0.heap.size∨BM 5 w x:=fun x hx=>
 hx.elim (fun h=>.inl (hw.low x h)) fun h=>.inr (dM.nb hnb hs x h)
theorem VO.write{args:Array Operand}{tys:Array TypeId}{b:Nat}{s t:ByteArray}(hP:X.P=Tryz.prog)(i:Nat)(hL:L[i]?=some (jC X.w0.heap.size b s))(hnb:∀H∈L.eraseIdx i,NB 5 H)(hlen:s.size+t.size≤140737488355328)
  (hargs:lE e args.toList=some [.pointer (some ⟨b,0,none⟩),.string t])
  (hk:VO X ops G l (cE dst (.tuple #[.int .i64 t.size,.nilIface]) e) (L.set i (jC X.w0.heap.size b (s++t))) K)
  (hg:gT ops G guard=some true:=by rfl) (hd:bB X.n dst=true:=by rfl) (hf:bt G dst=true:=by rfl):
  VO X ops G (⟨dst,.call ⟨.value (.func 18),args,tys⟩,ty,pos,after,guard⟩::l) e L K:=
 VO.O8 (a8.zV (ψ:=fun v H'=>v=.tuple #[.int .i64 t.size,.nilIface]∧H'=jC X.w0.heap.size b (s++t)) i hL (fun Fl w hw hs=>hP▸vr _ w _ b s t (Ao hnb hw hs) hlen) hargs (fun v L1 h=>⟨_,h.2,h.1,rfl⟩))
  (fun v L' ⟨H',⟨h1,h2⟩,h3⟩=>by subst h1;subst h2;subst h3;exact hk) hg hd hf
theorem VO.vt{args:Array Operand}{tys:Array TypeId}{b:Nat}{s:ByteArray}{c:UInt8}(hP:X.P=Tryz.prog)(i:Nat)(hL:L[i]?=some (jC X.w0.heap.size b s))(hnb:∀H∈L.eraseIdx i,NB 5 H)(hlen:s.size+1≤140737488355328)
  (hargs:lE e args.toList=some [.pointer (some ⟨b,0,none⟩),.int .u8 (c.toNat:Int)])
  (hk:VO X ops G l (cE dst .nilIface e) (L.set i (jC X.w0.heap.size b (s++⟨#[c]⟩))) K)
  (hg:gT ops G guard=some true:=by rfl) (hd:bB X.n dst=true:=by rfl) (hf:bt G dst=true:=by rfl):
  VO X ops G (⟨dst,.call ⟨.value (.func 26),args,tys⟩,ty,pos,after,guard⟩::l) e L K:=
 VO.O8 (a8.zV (ψ:=fun v H'=>v=.nilIface∧H'=jC X.w0.heap.size b (s++⟨#[c]⟩)) i hL (fun Fl w hw hs=>hP▸Cc _ w _ b s c (Ao hnb hw hs) hlen) hargs (fun v L1 h=>⟨_,h.2,h.1,rfl⟩))
  (fun v L' ⟨H',⟨h1,h2⟩,h3⟩=>by subst h1;subst h2;subst h3;exact hk) hg hd hf
theorem VO.text{args:Array Operand}{tys:Array TypeId}{b:Nat}{s:ByteArray}(hP:X.P=Tryz.prog)(i:Nat)(hL:L[i]?=some (jC X.w0.heap.size b s))(hnb:∀H∈L.eraseIdx i,NB 5 H)
  (hargs:lE e args.toList=some [.pointer (some ⟨b,0,none⟩)])
  (hk:VO X ops G l (cE dst (.string s) e) (L.eraseIdx i) K)
  (hg:gT ops G guard=some true:=by rfl) (hd:bB X.n dst=true:=by rfl) (hf:bt G dst=true:=by rfl):
  VO X ops G (⟨dst,.call ⟨.value (.func 22),args,tys⟩,ty,pos,after,guard⟩::l) e L K:=
 VO.O8 (a8.O' hargs (bM hL) (Lc:=[jC X.w0.heap.size b s]) (R:=fun v L=>v=.string s∧L=[]) (fun Fl w hw hs=>hP▸Cd _ w _ b s (Ao hnb hw hs)))
  (fun v L' ⟨L1,⟨h1,h2⟩,h3⟩=>by subst h1;subst h2;subst h3;exact hk) hg hd hf
end
theorem vu:dW Tryz.prog 271:=⟨_,Tryz.func271,by kernel_rfl,by kernel_rfl⟩
theorem I':dW Tryz.prog 41:=⟨_,Tryz.func41,by kernel_rfl,by kernel_rfl⟩
theorem Ek:dW Tryz.prog 135:=⟨_,Tryz.func135,by kernel_rfl,by kernel_rfl⟩
theorem G0:dW Tryz.prog 42:=⟨_,Tryz.func42,by kernel_rfl,by kernel_rfl⟩
theorem oT(s:ByteArray)(c:Int):
  aH Tryz.prog 271 [.string s,.int .u8 c] Fr w [] (fun v L=>v=.int .i64 (Lib.indexByte s.data.toList c.toNat.toUInt8)∧L=[]):=
 aH.uN vu (Calls.mono (Any.strings_IndexByte Tryz.Nq s c w) fun e w' ⟨h1,h2⟩=>⟨h1,by subst h2;exact RowKit.Below.refl _ _,wJ.any⟩)
structure b9(Fr:Nat→Prop)(w:World):Prop where
 tab:sP Fr w
 max:Fr (Tryz.oz.g 1)∧∃m,w.cell? ⟨Tryz.oz.g 1,0,none⟩=some (.int .i64 m)
 SS:Fr (Tryz.iK.g 15)∧∃ev,w.cell? ⟨Tryz.iK.g 15,0,none⟩=some ev∧(ev=.nilIface∨∃te pe,ev=.iface te pe)
 SU:Fr (Tryz.iK.g 16)∧∃ev,w.cell? ⟨Tryz.iK.g 16,0,none⟩=some ev∧(ev=.nilIface∨∃te pe,ev=.iface te pe)
theorem sQ{Fr:Nat→Prop}{w w':World}(hk:dH Fr w w'){b:Nat}(hb:Fr b):w'.cell? ⟨b,0,none⟩=w.cell? ⟨b,0,none⟩:=by
 unfold World.cell?;rw[hk.block b hb]
theorem b9.cK{Fr Fr':Nat→Prop}{w w':World}(h:b9 Fr w)(hF:∀b,Fr b→Fr' b)(hk:dH Fr w w'):b9 Fr' w' where
 tab:=uO.cK h.tab hF hk
 max:=⟨hF _ h.max.1,by rw[sQ hk h.max.1];exact h.max.2⟩
 SS:=⟨hF _ h.SS.1,by rw[sQ hk h.SS.1];exact h.SS.2⟩
 SU:=⟨hF _ h.SU.1,by rw[sQ hk h.SU.1];exact h.SU.2⟩
theorem b9.st{X:Cx}{L:List HP}(h:b9 X.Fr X.w0){Fr':Nat→Prop}{w:World}(hF:∀b,X.Fr b→Fr' b)(hw:St X L w):b9 Fr' w:=h.cK hF hw.cK
theorem oU(s sep:ByteArray)(hs:s.size<4294967281)(h:b9 Fr w):
  aH Tryz.prog 41 [.string s,.string sep] Fr w [] (fun v L=>v=.tuple #[.string ⟨(Lib.cut s.data.toList sep.data.toList).1.toArray⟩,.string ⟨(Lib.cut s.data.toList sep.data.toList).2.1.toArray⟩,.bool (Lib.cut s.data.toList sep.data.toList).2.2]∧L=[]):=by
 obtain⟨_,m,hm⟩:=h.max
 exact aH.uN I' (Calls.mono (Any.strings_Cut Tryz.Nr s sep m w hs hm) fun e w' ⟨h1,n,h2⟩=>⟨h1,by subst h2;exact⟨rfl,Z,Z,NR _,fun _ _=>rfl⟩,wJ.any⟩)
theorem El(s sep:ByteArray)(hs:s.size<4294967281)(h1:1≤sep.size)(h:b9 Fr w):
  aH Tryz.prog 135 [.string s,.string sep] Fr w [] (fun v L=>∃b,v=.slice (some ⟨b,0,none⟩) (Lib.countB s sep+1) (Lib.countB s sep+1)∧L=[pt b ((Lib.splitB sep 0 (Lib.countB s sep) s).map Value.string) 9]):=by
 obtain⟨_,m,hm⟩:=h.max
 refine⟨Ek,fun hl hsat=>Calls.mono (Any.strings_Split Tryz.Ns yn s sep m w hs hm h1) fun e w' ⟨h2,h3⟩=>?_⟩
 subst h3
 exact⟨_,_,h2,⟨_,Z,Z⟩,Sat.alloc hl _ _ ⟨rfl,heap_alloc_new w _⟩ hsat,dH.alloc hl _⟩
def numOf(s:ByteArray):Option Int:=match Lib.atoiAll s.data.toList with
 | .ok v=>some v
 | _=>none
theorem xP(s:ByteArray)(hs:s.size≤281474976710656)(h:b9 Fr w):
  aH Tryz.prog 42 [.string s] Fr w [] (fun v L=>L=[]∧((∃n,numOf s=some n∧v=.tuple #[.int .i64 n,.nilIface])∨(∃n tp p,numOf s=none∧v=.tuple #[.int .i64 n,.iface tp p]))):=by
 refine⟨G0,fun hl hsat=>?_⟩
 have hk:∀{w'},RowKit.Below w.heap.size w w'→Sat Fr [] w'∧dH Fr w w':=fun hb=>⟨Sat.nil,kD hl hb wJ.any⟩
 unfold numOf
 cases ha:Lib.atoiAll s.data.toList with
 | ok v=>
  refine Calls.mono (Any.strconv_Atoi_ok Tryz.uL s yd v ha w) fun e w' ⟨h1,h2⟩=>⟨_,_,h1,⟨rfl,.inl ⟨v,Z,Z⟩⟩,Sat.nil,kD hl ?_ wJ.any⟩
  rcases h2 with rfl | ⟨t,rfl⟩
  ·exact RowKit.Below.refl _ _
  ·exact Go.Lib.below_freeze (show RowKit.Below w.heap.size w (w.drew.alloc _) from⟨rfl,Z,Z,by show w.heap.size≤(w.heap.push _).size;simp,fun j hj=>heap_alloc_old w.drew _ hj⟩) (NR _) _
 | range=>
  obtain⟨_,ev,hc,hev⟩:=h.SU
  exact Calls.mono (Any.strconv_Atoi_range Tryz.uL s hs ha _ w hc hev) fun e w' ⟨N,h1,_,_,h2⟩=>⟨_,_,h1,⟨rfl,.inr ⟨_,_,_,Z,Z⟩⟩,Sat.nil,kD hl h2 wJ.any⟩
 | _=>
  obtain⟨_,ev,hc,hev⟩:=h.SS
  exact Calls.mono (Any.strconv_Atoi_syntax Tryz.uL s hs ha _ w hc hev) fun e w' ⟨N,h1,_,_,h2⟩=>⟨_,_,h1,⟨rfl,.inr ⟨_,_,_,Z,Z⟩⟩,Sat.nil,kD hl h2 wJ.any⟩
end LibC
namespace Scr
open Go Vg T Api LibC
attribute [local irreducible] VO VC VA
def bY(l:List UInt8):ByteArray:=⟨l.toArray⟩
theorem aQ(a:List UInt8):(bY a).size=a.length:=by show(a.toArray).size=_;simp
theorem fQ(s:ByteArray):s.data.toList.length=s.size:=by show s.data.toList.length=s.data.size;simp
theorem jD(a:List UInt8)(c:UInt8):bY a++⟨#[c]⟩=bY (a ++ [c]):=ByteArray.ext TL
theorem eU(a b:List UInt8):bY a++bY b=bY (a++b):=ByteArray.ext TL
theorem mz(s:ByteArray):bY s.data.toList=s:=ByteArray.ext TL
def wW:ByteArray:=⟨#[48,49,50,51,52,53,54,55,56,57,97,98,99,100,101,102]⟩
def Ap(n:Nat):UInt8:=wW.data.toList.getD n 0
theorem Ja{n:Nat}(h:n<16):wW.data.toList[n]?=some (Ap n):=by
 have:n<wW.data.toList.length:=h
 unfold Ap;rw[List.getD_eq_getElem?_getD,GE this];rfl
def mA(l:List UInt8):List UInt8:=l.flatMap fun b=>[Ap (b.toNat / 16),Ap (b.toNat % 16)]
def pO(s:ByteArray):ByteArray:=bY (58::mA s.data.toList)
theorem kG(l:List UInt8):(mA l).length=2*l.length:=by
 induction l with
 | nil=>rfl
 | cons x l ih=>simp only[mA,List.flatMap_cons,ZM,ZW,List.length_nil] at ih ⊢;omega
theorem G2(l:List UInt8)(b:UInt8):mA (l ++ [b])=mA l ++ [Ap (b.toNat / 16),Ap (b.toNat % 16)]:=by simp[mA]
theorem xQ(s:ByteArray):(pO s).size=2*s.size+1:=by rw[pO,aQ,ZW,kG,fQ]
theorem byte_at{s:ByteArray}{i:Nat}(h:i<s.size):∃c,s.data.toList[i]?=some c:=⟨_,GE (by rw[fQ];exact h)⟩
theorem rN(s:ByteArray)(hs:s.size≤1000000):aH Tryz.prog 25 [.string s] Fr w [] (fun v L=>v=.string (pO s)∧L=[]):=by
 refine TF 25 Tryz.func25 Z yn ah Z Z ?_
 refine an ?_
 refine VG (VO.zT Z fun b hB=>?_)
 refine Vn ?_
 refine an ?_
 refine VG (VO.vt (c:=58) Z 0 Z h_ yp Z ?_)
 rw[jD]
 refine an ?_
 refine VC.loop (σ:=Nat) (fun i=>[(0,.string s),(3,pV b),(4,.int .i64 i)]) (fun i=>[jC w.heap.size b (bY (58::mA (s.data.toList.take i)))]) (fun i=>i≤s.size) (fun i=>s.size-i) 0
  (ZO _) ba ER ?_
 intro i hi
 refine an ?_
 refine CP Z (fun h1=>CK ?_) (fun h1=>CX ?_)
 ·have hi2:i<s.size:=by omega
  obtain⟨c,hc⟩:=byte_at hi2
  have hc256:c.toNat<256:=c.toNat_lt
  have hsz:(bY (58::mA (s.data.toList.take i))).size=2*i+1:=by
   rw[aQ,ZW,kG,Z1,fQ];omega
  have hand:c.toNat &&& 15=c.toNat % 16:=Nat.and_two_pow_sub_one_eq_mod c.toNat 4
  refine an ?_
  refine VG (VI (dZ i Z Z Z Z Z hc) ?_)
  refine VG (VI (Eg (n:=4) Z Z yp) ?_)
  refine VG (VI (dZ (s:=wW) (b:=Ap (c.toNat / 16)) (c.toNat / 2 ^ 4) Z Z Z Z Z (Ja yd)) ?_)
  refine VG (VO.vt (c:=Ap (c.toNat / 16)) Z 0 Z h_ KE Z ?_)
  rw[jD]
  refine an ?_
  refine VG (VI (dZ i Z Z Z Z Z hc) ?_)
  refine VG (VI (Ei (b:=15) Z Z hc256 yp) ?_)
  refine VG (VI (dZ (s:=wW) (b:=Ap (c.toNat % 16)) (c.toNat &&& 15) Z Z Z Z Z (by rw[hand];exact Ja yd)) ?_)
  refine VG (VO.vt (c:=Ap (c.toNat % 16)) Z 0 Z h_ (by rw[aQ,ZM,ZW,kG,Z1,fQ];simp;omega) Z ?_)
  rw[jD]
  refine sh ?_
  refine⟨i+1,hi2,by dsimp only;omega,ba,?_⟩
  have e:58::mA (s.data.toList.take i) ++ [Ap (c.toNat / 16)] ++ [Ap (c.toNat % 16)]=58::mA (s.data.toList.take (i+1)):=by
   rw[ZZ,hc,show(some c).toList=[c] from rfl,G2];simp
  dsimp only
  rw[e]
  exact ER
 ·obtain rfl:i=s.size:=by omega
  rw[List.take_of_length_le (by rw[fQ];omega)]
  refine Wn ?_
  refine an ?_
  exact Dz
def val(c:UInt8):Int:=Lib.indexByte wW.data.toList c
def uf:List UInt8→Option (List UInt8)
 | []=>some []
 | [_]=>none
 | h::l::r=>if val h<0∨val l<0 then none else (uf r).map ((UInt8.ofNat (16*(val h).toNat+(val l).toNat)) :: ·)
def oV(s:ByteArray):Option ByteArray:=match s.data.toList with
 | 58::r=>(uf r).map bY
 | _=>none
theorem xR(c:UInt8):val c=-1∨0≤val c∧val c<16:=by
 have h:∀n:Fin 256,val (UInt8.ofNat n.val)=-1∨0≤val (UInt8.ofNat n.val)∧val (UInt8.ofNat n.val)<16:=by decide +kernel
 have:=h ⟨c.toNat,c.toNat_lt⟩
 simpa using this
theorem Ce:∀{r:List UInt8},r.length % 2=1→uf r=none
 | [],h=>by simp at h
 | [_],_=>rfl
 | h::l::r,hr=>by
  rw[uf,Ce (r:=r) (by simp at hr;omega)];split<;>rfl
theorem Aq(s:ByteArray)(hs:s.size≤1000000):aH Tryz.prog 217 [.string s] Fr w []
  (fun v L=>L=[]∧((∃t,oV s=some t∧v=.tuple #[.string t,.bool true])∨(oV s=none∧v=.tuple #[.string ⟨#[]⟩,.bool false]))):=by
 refine TF 45 Tryz.func217 Z yn ah Z Z ?_
 refine an ?_
 refine Rs ?_
 by_cases hodd:¬(s.size:Int) % 2=1
 ·have hn:oV s=none:=by
   unfold oV
   split
   ·rename_i r hr
    have hl:s.data.toList.length=r.length+1:=by rw[hr];rfl
    rw[fQ] at hl
    rw[Ce yd];rfl
   ·rfl
  refine an ?_
  refine VG (VY 12 true Z (by simpa[bne] using hodd) ?_)
  refine DA ?_
  exact CR (ay.cV 2 3 Z Z Z ER ⟨rfl,.inr ⟨hn,Z⟩⟩)
 have hodd:(s.size:Int) % 2=1:=Decidable.not_not.1 hodd
 obtain⟨c0,hc0⟩:=byte_at (s:=s) (i:=0) yd
 refine an ?_
 refine VG (VY 12 false Z (by simpa[bne] using hodd) ?_)
 refine eR ?_
 refine VG (VI (dZ 0 Z Z Z Z Z hc0) ?_)
 refine eR ?_
 have hr:∃r,s.data.toList=c0::r:=by
  cases hl:s.data.toList with
  | nil=>rw[hl] at hc0;cases hc0
  | cons x r=>rw[hl] at hc0;exact⟨r,by rw[show x=c0 from by simpa using hc0]⟩
 obtain⟨r,hr⟩:=hr
 have hrl:r.length+1=s.size:=by rw[←fQ,hr];rfl
 refine VC.bo Z (fun h1=>?_) (fun h1=>CK ?_)
 ·have hn:oV s=none:=by
   unfold oV;rw[hr]
   split
   ·rename_i r' he
    cases he
    exact(h1 Z).elim
   ·rfl
  refine an ?_
  exact CR (ay.cV 2 3 Z Z Z ER ⟨rfl,.inr ⟨hn,Z⟩⟩)
 obtain rfl:c0=58:=UInt8.toNat_inj.1 (show c0.toNat=58 by omega)
 have hdec:oV s=(uf r).map bY:=by unfold oV;rw[hr];rfl
 refine an ?_
 refine VG (VO.zT Z fun b hB=>?_)
 refine Vn ?_
 refine an ?_
 refine VC.loop (σ:=Nat×List UInt8) (fun x=>[(0,.string s),(4,pV b),(5,.int .i64 ((2*x.1+1:Nat):Int))]) (fun x=>[jC w.heap.size b (bY x.2)]) (fun x=>2*x.1+1≤s.size∧x.2.length=x.1∧uf r=(uf (r.drop (2*x.1))).map (x.2 ++ ·)) (fun x=>s.size-x.1) (0,[])
  ⟨by dsimp only;omega,rfl,by simp⟩ ba ER ?_
 rintro⟨k,acc⟩ ⟨hk,hacc,hJ⟩
 dsimp only at hk hacc hJ ⊢
 refine an ?_
 refine CP Z (fun h2=>CK ?_) (fun h2=>CX ?_)
 ·have hk2:2*k+2<s.size:=by omega
  obtain⟨c1,hc1⟩:=byte_at (s:=s) (i:=2*k+1) yd
  obtain⟨c2,hc2⟩:=byte_at (s:=s) (i:=2*k+2) yd
  have hd:r.drop (2*k)=c1::c2::r.drop (2*(k+1)):=by
   have g1:r[2*k]?=some c1:=by rw[hr] at hc1;simpa using hc1
   have g2:r[2*k+1]?=some c2:=by rw[hr] at hc2;simpa using hc2
   obtain⟨l1,e1⟩:=ZP.1 g1
   obtain⟨l2,e2⟩:=ZP.1 g2
   rw[List.drop_eq_getElem_cons l1,e1,List.drop_eq_getElem_cons l2,e2]
   rfl
  rw[hd,uf] at hJ
  have hv1:=xR c1
  have hv2:=xR c2
  refine CS (VC.block (CS (CD (ts 0 3 (ts 4 4 (.only 3 (.only 8 (ts 9 2 .nil))))) yn yr ?_)))
  refine lW ?_
  refine AG (AI Z (dZ (2*k+1) Z Z Z Z Z hc1) ?_)
  refine lW ?_
  refine H8 ?_
  refine lW ?_
  refine AG (AI Z (dZ (2*k+2) Z Z Z Z yd hc2) ?_)
  refine AG (AR (fun Fr w hF hs _=>oT Fr w wW c1.toNat) Z Z yu ?_)
  refine AG (AR (fun Fr w hF hs _=>oT Fr w wW c2.toNat) Z Z yu ?_)
  rw[show Lib.indexByte wW.data.toList (c1.toNat:Int).toNat.toUInt8=val c1 by simp[val],show Lib.indexByte wW.data.toList (c2.toNat:Int).toNat.toUInt8=val c2 by simp[val]]
  refine lW ?_
  refine CS (CS ?_)
  refine VC.cq (σ:=Bool) (fun t=>[(0,.string s),(4,pV b),(5,.int .i64 ((2*k+1:Nat):Int)),(6,.int .i64 (val c1)),(7,.int .i64 (val c2)),(37,.bool t)]) (fun _=>[jC w.heap.size b (bY acc)]) (fun t=>t=decide (val c1<0∨val c2<0)) ?_ ?_
  ·refine CG ?_
   refine an ?_
   refine VG (VO.split 34 Z Z (fun h3=>?_) (fun h3=>?_))
   ·have h3:=of_decide_eq_true h3
    refine eR ?_
    exact⟨true,by simp[h3],ba,ER⟩
   ·have h3:=of_decide_eq_false h3
    refine eR ?_
    exact⟨_,by simp[h3],SC Z (SC Z (SC Z (SC Z (SC Z (SC Z (SN _)))))),ER⟩
  intro t ht
  refine CC Z (fun h3=>?_) (fun h3=>CK ?_)
  ·have h4:val c1<0∨val c2<0:=by rw[ht] at h3;exact of_decide_eq_true h3
   rw[if_pos h4] at hJ
   refine an ?_
   exact CR (ay.cV 2 3 Z Z Z ae.nil.ar ⟨rfl,.inr ⟨by rw[hdec,hJ];rfl,Z⟩⟩)
  have h4:¬(val c1<0∨val c2<0):=by rw[ht] at h3;exact of_decide_eq_false h3
  rw[if_neg h4] at hJ
  obtain⟨n1,hn1⟩:∃n:Nat,val c1=n:=⟨(val c1).toNat,by omega⟩
  obtain⟨n2,hn2⟩:∃n:Nat,val c2=n:=⟨(val c2).toNat,by omega⟩
  rw[hn1,hn2] at hJ ⊢
  have hor:n1*2 ^ 4 ||| n2=16*n1+n2:=by
   have:=Nat.two_pow_add_eq_or_of_lt (i:=4) (b:=n2) yd n1
   rw[Nat.mul_comm n1,←this]
  refine an ?_
  refine VG (VI (Eh (a:=n1) (n:=4) Z Z yp yd) ?_)
  refine an ?_
  refine VG (VI (Ii (a:=n1*2 ^ 4) (b:=n2) Z Z yd yd) ?_)
  refine VG (VI (dN (((UInt8.ofNat (16*n1+n2)).toNat:Nat):Int) Z Z Z Z Z (by rw[hor,IntKind.wrap_u8'];simp)) ?_)
  refine VG (VO.vt (c:=UInt8.ofNat (16*n1+n2)) Z 0 Z h_ Pw Z ?_)
  rw[jD]
  refine sh ?_
  refine⟨(k+1,acc ++ [UInt8.ofNat (16*n1+n2)]),⟨by dsimp only;omega,by simp[hacc],?_⟩,by dsimp only;omega,SC Z (SC Z (Sub.int Z tZ (SN _))),ER⟩
  dsimp only
  rw[hJ]
  cases uf (r.drop (2*(k+1))) with
  | none=>rfl
  | some z=>simp
 ·have hk2:2*k=r.length:=by omega
  rw[hk2,List.drop_length] at hJ
  refine Wn ?_
  refine an ?_
  exact CR (ay.cV 2 3 Z Z Z ER ⟨rfl,.inl ⟨bY acc,by rw[hdec,hJ];simp[uf],Z⟩⟩)
end Scr
namespace Scr
open Go Vg T Api LibC
attribute [local irreducible] VO VC VA
def cJ:ByteArray:=⟨#[]⟩
theorem tJ{s:ByteArray}{n:Int}(h:numOf s=some n):-9223372036854775808≤n∧n≤9223372036854775807:=by
 unfold numOf at h
 cases ha:Lib.atoiAll s.data.toList with
 | range=>rw[ha] at h;cases h
 | ok v=>
  rw[ha] at h
  obtain rfl:v=n:=Z3 h
  unfold Lib.atoiAll at ha
  split at ha
  ·cases ha
  ·simp only at ha
   split at ha
   ·cases ha
   ·cases ha
   ·split at ha
    ·cases ha
    ·split at ha
     ·cases ha
     ·injection ha with ha
      rename_i h1 h2
      subst ha
      split
      ·rename_i hn
       have:¬9223372036854775808<_:=fun h=>h2 ⟨hn,h⟩
       omega
      ·rename_i hn
       have:¬9223372036854775808≤_:=fun h=>h1 ⟨hn,h⟩
       omega
 | _=>rw[ha] at h;cases h
def jN(s:ByteArray):Option Int:=match numOf s with
 | some n=>if gJ n=s then some n else none
 | none=>none
theorem Jb:jN cJ=none:=by decide +kernel
theorem vv(s:ByteArray)(hs:s.size≤1000000)(h:b9 Fr w):aH Tryz.prog 216 [.string s] Fr w []
  (fun v L=>L=[]∧((∃n,jN s=some n∧v=.tuple #[.int .i64 n,.bool true])∨(jN s=none∧v=.tuple #[.int .i64 0,.bool false]))):=by
 refine TF 20 Tryz.func216 Z yn ah Z Z ?_
 refine an ?_
 refine VG (VK (Lc:=[]) (fun Fr w hF hw _=>xP Fr w s yd (b9.st (X:=⟨Tryz.prog,tab,ah,20,_,_⟩) h hF hw)) Z Z ?_)
 rintro _ _ ⟨rfl,⟨n,hn,rfl⟩ | ⟨n,tp,p,hn,rfl⟩⟩
 ·have hr:=tJ hn
  refine an ?_
  refine Yg ?_
  refine an ?_
  refine VG (VY 13 false Z Z ?_)
  refine eR ?_
  refine VG (VV (fun Fr w hF hw _=>iw Fr w n hr.1 hr.2 (sP.st Z h.tab hF hw)) Z ?_)
  refine eR ?_
  refine CC Z (fun h1=>?_) (fun h1=>CK ?_)
  ·rw[my] at h1
   have h1:gJ n≠s:=by simpa using h1
   refine an ?_
   exact CR (ay.cV 2 3 Z Z Z ER ⟨rfl,.inr ⟨by unfold jN;rw[hn];exact if_neg h1,Z⟩⟩)
  ·rw[my] at h1
   have h1:gJ n=s:=by simpa using h1
   refine an ?_
   exact CR (ay.cV 2 3 Z Z Z ER ⟨rfl,.inl ⟨n,by unfold jN;rw[hn];exact if_pos h1,Z⟩⟩)
 ·refine an ?_
  refine Yh ?_
  refine an ?_
  refine VG (VY 13 true Z Z ?_)
  refine DA ?_
  exact CR (ay.cV 2 3 Z Z Z ER ⟨rfl,.inr ⟨by unfold jN;rw[hn],Z⟩⟩)
def sC(s:ByteArray):List Value:=[.string s]
def tK(p:Nat)(bad:Bool)(r:RL ByteArray):List HP:=[pt p [r.v,.bool bad] 246,r.h 9]
def xS(p:Nat)(ws:List ByteArray)(bad:Bool):HP:=hex fun r:RL ByteArray=>cU (gu (r.Ok sC 1∧r.xs=ws)::tK p bad r)
theorem aW.rd(p:Nat)(ws:List ByteArray)(bad:Bool):aW (ι:=RL ByteArray) (xS p ws bad) (fun r=>r.Ok sC 1∧r.xs=ws) (tK p bad):=fun w ids ⟨x,i,G,hG,⟨hi,hφ⟩,h⟩ hn=>by
 subst hi
 simp only[List.nil_append] at hG
 subst hG
 exact⟨x,hφ,ids,h,hn,fun _ h=>h⟩
theorem ae.rd{L M:List HP}{p:Nat}{ws:List ByteArray}{bad:Bool}(r:RL ByteArray)(hok:r.Ok sC 1)(hx:r.xs=ws)(h:ae L (tK p bad r++M)):ae L (xS p ws bad::M):=
 ae.ex (f:=fun r:RL ByteArray=>cU (gu (r.Ok sC 1∧r.xs=ws)::tK p bad r)) r (ae.sep (Ls:=gu (r.Ok sC 1∧r.xs=ws)::tK p bad r) (ae.pure ⟨hok,hx⟩ h))
theorem xT(p:Nat)(ws:List ByteArray)(bad:Bool):
  aH Tryz.prog 136 [.pointer (some ⟨p,0,none⟩)] Fr w [xS p ws bad] (fun v L=>v=.string (ws.headD cJ)∧L=[xS p ws.tail (bad||ws.isEmpty)]):=by
 refine TF 28 Tryz.func136 Z yn ah Z Z ?_
 refine VC.e_ 0 Z (aW.rd p ws bad) ?_
 rintro r ⟨hok,rfl⟩
 cases hx:r.xs with
 | nil=>
  have hrv:r.v=.slice r.addr 0 r.cap:=by rw[RL.v,hx];rfl
  unfold tK
  rw[hrv]
  refine Kt ?_
  refine VG (VO.st 0 (cs':=[.slice r.addr 0 r.cap,.bool true]) Z Z Z Z (ZT Z) Z Z ?_)
  refine an ?_
  refine CR (ay.tmp 2 Z Z (ae.rd (p:=p) (bad:=true) (M:=[]) r hok hx ?_).ar ⟨rfl,by simp⟩)
  unfold tK;rw[hrv]
  exact(dF [0,0])
 | cons x xs=>
  obtain⟨b,off,e1,e2,hrd⟩:=hok.ld (k:=0) (x:=x) (by rw[hx];rfl) rfl
  have hroom:=hok.room
  rw[hx] at hroom
  have hrv:r.v=.slice (some ⟨b,off,none⟩) (xs.length+1) r.cap:=by rw[RL.v,hx,e2];rfl
  have hok2:=hok.tail (by rw[hx];simp)
  have hx2:(r.tail 1).xs=xs:=by show r.xs.tail=xs;rw[hx];rfl
  have hrv2:(r.tail 1).v=.slice (some (if r.cap=1 then ⟨b,off,none⟩ else ⟨b,off+1,none⟩)) xs.length (r.cap-1):=by
   rw[RL.v,hx2];simp only[RL.tail,e2]
  unfold tK
  rw[hrv]
  refine an ?_
  refine VC.jt (by simp[Vg.ev,Vg.look];omega) (CK ?_)
  refine an ?_
  refine VG (VI (a_ 0 Z Z Z Z Z Z yd) ?_)
  refine VG (VO.load Z Z ((hrd 1 Z).2 _ 0 _ Z Z) ?_)
  refine an ?_
  refine VG (VI (DJ Z Z Z Z Z hroom) ?_)
  refine an ?_
  refine VG (VO.st 0 (cs':=[(r.tail 1).v,.bool bad]) Z Z Z Z (ZT Z) (by rw[hrv2];rfl) Z ?_)
  refine an ?_
  refine CR (ay.tmp 2 Z Z (ae.rd (p:=p) (bad:=bad) (M:=[]) (r.tail 1) hok2 hx2 ?_).ar ⟨rfl,by simp⟩)
  unfold tK
  exact(dF [0,0])
theorem eM(p:Nat)(ws:List ByteArray)(bad:Bool)(hs:∀s∈ws,s.size≤1000000)(h:b9 Fr w):
  aH Tryz.prog 137 [.pointer (some ⟨p,0,none⟩)] Fr w [xS p ws bad] (fun v L=>v=.int .i64 ((jN (ws.headD cJ)).getD 0)∧L=[xS p ws.tail (bad||(jN (ws.headD cJ)).isNone)]):=by
 have hs0:(ws.headD cJ).size≤1000000:=by
  cases ws with
  | nil=>decide
  | cons x xs=>exact hs x yf
 refine TF 23 Tryz.func137 Z yn ah Z Z ?_
 refine an ?_
 refine Yi ?_
 rintro _ _ ⟨rfl,rfl⟩
 refine VG (VK (Lc:=[]) (fun Fr w hF hw _=>vv Fr w (ws.headD cJ) hs0 (b9.st (X:=⟨Tryz.prog,tab,ah,23,_,_⟩) h hF hw)) Z Z ?_)
 have hb:∀b:Bool,(ws.isEmpty=true→b=true)→(bad||ws.isEmpty||b)=(bad||b):=fun b hh=>by
  cases hw:ws.isEmpty with
  | false=>simp
  | true=>rw[hh hw];simp
 rintro _ _ ⟨rfl,⟨n,hn,rfl⟩ | ⟨hn,rfl⟩⟩
 ·have he:ws.isEmpty=false:=by
   cases ws with
   | nil=>rw[show([]:List ByteArray).headD cJ=cJ from rfl,Jb] at hn;cases hn
   | cons x xs=>rfl
  rw[hn,he,Bool.or_false]
  refine VO.e_ 0 Z (aW.rd p ws.tail bad) ?_
  rintro r ⟨hok,hx⟩
  unfold tK
  refine an ?_
  cases bad with
  | true=>
   refine Uw ?_
   refine RD ?_
   exact Yj
  | false=>
   refine Uu ?_
   refine Yk ?_
   refine an ?_
   exact Yl
 ·rw[hn]
  generalize (bad||ws.isEmpty)=bad2
  refine VO.e_ 0 Z (aW.rd p ws.tail bad2) ?_
  rintro r ⟨hok,hx⟩
  unfold tK
  refine an ?_
  cases bad2 with
  | true=>
   refine Uw ?_
   refine RD ?_
   exact Ub
  | false=>
   refine Uu ?_
   refine RD ?_
   exact Ub
theorem Jc:oV cJ=none:=by decide +kernel
theorem kl(p:Nat)(ws:List ByteArray)(bad:Bool)(hs:∀s∈ws,s.size≤1000000):
  aH Tryz.prog 138 [.pointer (some ⟨p,0,none⟩)] Fr w [xS p ws bad] (fun v L=>v=.string ((oV (ws.headD cJ)).getD cJ)∧L=[xS p ws.tail (bad||(oV (ws.headD cJ)).isNone)]):=by
 have hs0:(ws.headD cJ).size≤1000000:=by
  cases ws with
  | nil=>decide
  | cons x xs=>exact hs x yf
 refine TF 23 Tryz.func138 Z yn ah Z Z ?_
 refine an ?_
 refine Yi ?_
 rintro _ _ ⟨rfl,rfl⟩
 refine VG (VK (Lc:=[]) (fun Fr w hF hw _=>Aq Fr w (ws.headD cJ) hs0) Z Z ?_)
 have hb:∀b:Bool,(ws.isEmpty=true→b=true)→(bad||ws.isEmpty||b)=(bad||b):=fun b hh=>by
  cases hw:ws.isEmpty with
  | false=>simp
  | true=>rw[hh hw];simp
 rintro _ _ ⟨rfl,⟨n,hn,rfl⟩ | ⟨hn,rfl⟩⟩
 ·have he:ws.isEmpty=false:=by
   cases ws with
   | nil=>rw[show([]:List ByteArray).headD cJ=cJ from rfl,Jc] at hn;cases hn
   | cons x xs=>rfl
  rw[hn,he,Bool.or_false]
  refine VO.e_ 0 Z (aW.rd p ws.tail bad) ?_
  rintro r ⟨hok,hx⟩
  unfold tK
  refine an ?_
  cases bad with
  | true=>
   refine Uw ?_
   refine RD ?_
   exact Yj
  | false=>
   refine Uu ?_
   refine Yk ?_
   refine an ?_
   exact Yl
 ·rw[hn]
  generalize (bad||ws.isEmpty)=bad2
  refine VO.e_ 0 Z (aW.rd p ws.tail bad2) ?_
  rintro r ⟨hok,hx⟩
  unfold tK
  refine an ?_
  cases bad2 with
  | true=>
   refine Uw ?_
   refine RD ?_
   exact Ub
  | false=>
   refine Uu ?_
   refine RD ?_
   exact Ub
end Scr
namespace Scr
open Go Vg T Api LibC
attribute [local irreducible] VO VC VA
structure cn where
 kind:Int
 a:Int
 b:Int
 c:Int
 op:fe
def dV(d:cn):List Value:=[.int .i64 d.kind,.int .i64 d.a,.int .i64 d.b,.int .i64 d.c,.int .i64 d.op.kind,.string d.op.key,.string d.op.value,.int .i64 d.op.version]
theorem rO(d:cn):(dV d).length=8:=rfl
def Gr:fe:=⟨0,cJ,cJ,0⟩
def oW:cn:=⟨0,0,0,0,Gr⟩
def pA(n:Int):Prop:=-9223372036854775808≤n∧n≤9223372036854775807
structure cn.Ok(d:cn):Prop where
 kind:pA d.kind
 a:pA d.a
 b:pA d.b
 c:pA d.c
 Ky:pA d.op.kind
 Pe:pA d.op.version
 key:d.op.key.size≤1000
 val:d.op.value.size≤1000
def QM:List (List UInt8):=[[],[99,97,108,108],[115,116,101,112],[116,105,99,107],[100,101,108,105,118,101,114],[100,114,111,112],[100,111,117,98,108,101],[99,114,97,115,104],[115,117,115,112,101,99,116],[106,111,105,110],[100,114,97,105,110],[119,97,116,99,104]]
def SV:List (List UInt8):=[[],[97,98,99,111],[97],[],[97,98,99],[97,98,99],[97,98,99],[97],[97],[97],[97],[]]
def dD(k:Nat):List UInt8:=QM.getD k []
def aZ(k:Nat):List UInt8:=SV.getD k []
def kT:List Nat:=List.range 12
def UD(k:Nat):List Value:=[.string (bY (dD k)),.string (bY (aZ k))]
theorem N0(k:Nat):(UD k).length=2:=rfl
def kinds:List Value:=flat UD kT
def lS(k:Int):Bool:=decide (1≤k)&&decide (k≤11)
theorem nA{k:Int}(h:lS k=true):∃n:Nat,k=n∧1≤n∧n≤11:=by
 simp[lS] at h
 exact⟨k.toNat,by omega,by omega,by omega⟩
theorem vw{k j:Nat}{v:Value}(hk:k<12)(hj:(UD k)[j]?=some v):kinds[0+k*2+j]?=some v:=by
 have:=fH N0 (l:=kT) (i:=k) (a:=k) (by simp[kT,hk]) hj []
 rw[ZN] at this
 rw[ZQ];exact this
theorem Ar:∀k,k<12→∀c∈aZ k,c=97∨c=98∨c=99∨c=111:=by decide +kernel
theorem vx:∀k,k<12→(dD k).length≤7∧(aZ k).length≤4:=by decide +kernel
def cy(Fr:Nat→Prop)(w:World):Prop:=eS Fr w 0 kinds
theorem cy.st{X:Cx}{L:List HP}(h:cy X.Fr X.w0){Fr':Nat→Prop}{w:World}(hF:∀b,X.Fr b→Fr' b)(hw:St X L w):cy Fr' w:=eS.of h hF hw
theorem decode_ascii{s:ByteArray}{i:Nat}{c:UInt8}(h:s.data.toList[i]?=some c)(hc:c.toNat<128):Utf8.decode s i=(c.toNat,1):=by
 have h2:s.data[i]?=some c:=by simpa using h
 obtain⟨h3,h4⟩:=Array.getElem?_eq_some_iff.1 h2
 have hg:(s.get! i).toNat=c.toNat:=by
  show(s.data[i]!).toNat=_
  rw[getElem!_pos s.data i h3,h4]
 have hc':c.toNat<0x80:=hc
 simp only[Utf8.decode,Nat.add_zero,hg,hc',if_true]
theorem oX(k:Int):aH Tryz.prog 15 [.int .i64 k] Fr w [] (fun v L=>v=.bool (lS k)∧L=[]):=by
 refine TF 9 Tryz.func15 Z yn ah Z Z ?_
 refine an ?_
 refine VG (VO.split 5 Z Z (fun h1=>?_) (fun h1=>?_))
 ·refine an ?_
  exact CR (ay.bool 2 Z Z (by rw[lS];have:=of_decide_eq_true h1;simp[this]) ER ⟨rfl,Z⟩)
 ·refine an ?_
  exact CR (ay.bool 2 Z Z (by rw[lS];have:=of_decide_eq_false h1;simp[this]) ER ⟨rfl,Z⟩)
def j_(n:Int):List UInt8:=32::Lib.itoa n
def kS(d:cn)(c:UInt8):List UInt8:=
 if c=97 then j_ d.a else if c=98 then j_ d.b else if c=99 then j_ d.c
 else j_ d.op.kind++j_ d.op.version++(32::58::mA d.op.key.data.toList)++(32::58::mA d.op.value.data.toList)
def p6(d:cn):List UInt8:=(aZ d.kind.toNat).flatMap (kS d)
def kH(d:cn):List UInt8:=if lS d.kind then dD d.kind.toNat++p6 d ++ [10] else []
def jO(l:List cn):List UInt8:=l.flatMap kH
theorem fj{n:Int}(h:pA n):(j_ n).length≤22:=by
 have:=Lib.itoa_length_le n h.1 h.2
 simp only[j_,ZW];omega
theorem vy{d:cn}(h:d.Ok)(c:UInt8):(kS d c).length≤4100:=by
 have h1:=fj h.a
 have h2:=fj h.b
 have h3:=fj h.c
 have h4:=fj h.Ky
 have h5:=fj h.Pe
 have h6:=h.key
 have h7:=h.val
 unfold kS
 split
 ·omega
 split
 ·omega
 split
 ·omega
 ·simp only[ZM,ZW,kG,fQ];omega
theorem jE{α:Type}{f:α→List UInt8}{n:Nat}:∀{l:List α},(∀x∈l,(f x).length≤n)→(l.flatMap f).length≤n*l.length
 | [],_=>by simp
 | x::l,h=>by
  rw[List.flatMap_cons,ZM,ZW,Nat.mul_succ]
  have h1:=h x yf
  have h2:=jE (l:=l) (f:=f) (n:=n) fun y hy=>h y (by simp[hy])
  omega
theorem xU{d:cn}(h:d.Ok):(kH d).length≤16500:=by
 unfold kH
 split
 ·rename_i hk
  obtain⟨n,hn,h1,h2⟩:=nA hk
  have hw:=vx n yd
  have hr:(p6 d).length≤4100*(aZ d.kind.toNat).length:=jE fun c _=>vy h c
  rw[hn] at hr ⊢
  simp only[ZU,ZM,ZW,List.length_nil] at hr ⊢
  omega
 ·simp
theorem NB.it{tB:TypeId}{b pos:Nat}{s:ByteArray}:NB tB (An b s pos):=fun ids w ⟨h1,h2⟩ x hx=>by
 subst h1
 obtain rfl:x=b:=by simpa using hx
 exact⟨_,h2,fun c fz he=>by cases he⟩
theorem oY(n:Int):gJ n=bY (Lib.itoa n):=rfl
end Scr
namespace Scr
open Go Vg T Api LibC
attribute [local irreducible] VO VC VA
theorem a8.write{X:Cx}{e:Env}{L:List HP}{args:Array Operand}{tys:Array TypeId}{b:Nat}{s t:ByteArray}(hP:X.P=Tryz.prog)(i:Nat)(hL:L[i]?=some (jC X.w0.heap.size b s))(hnb:∀H∈L.eraseIdx i,NB 5 H)(hlen:s.size+t.size≤140737488355328)
  (hargs:lE e args.toList=some [.pointer (some ⟨b,0,none⟩),.string t]):
  a8 X (.call ⟨.value (.func 18),args,tys⟩) e L (fun v L'=>v=.tuple #[.int .i64 t.size,.nilIface]∧L'=L.set i (jC X.w0.heap.size b (s++t))):=
 a8.mono (a8.zV (ψ:=fun v H'=>v=.tuple #[.int .i64 t.size,.nilIface]∧H'=jC X.w0.heap.size b (s++t)) i hL (fun Fl w hw hs=>hP▸vr _ w _ b s t (Ao hnb hw hs) hlen) hargs (fun v L1 h=>⟨_,h.2,h.1,rfl⟩))
  fun v L' ⟨H',⟨h1,h2⟩,h3⟩=>⟨h1,by rw[h3,h2]⟩
theorem FC(n:Int):(⟨#[32]⟩:ByteArray)++gJ n=bY (j_ n):=ByteArray.ext (by simp[bY,j_,gJ])
theorem QN(s:ByteArray):(⟨#[32]⟩:ByteArray)++pO s=bY (32::58::mA s.data.toList):=ByteArray.ext (by simp[bY,pO])
theorem oZ{n:Int}(h:pA n):(gJ n).size≤21:=by
 have:=Lib.itoa_length_le n h.1 h.2
 rw[oY,aQ];omega
theorem uM{a:Option Addr}{cap:Nat}{l:List cn}(h:aK dV 8 Fr w a l)(hl:l.length≤3000)(hok:∀d∈l,d.Ok)(hT:sP Fr w)(hK:cy Fr w):
  aH Tryz.prog 12 [.slice a l.length cap] Fr w [] (fun v L=>v=.string (bY (jO l))∧L=[]):=by
 refine TF 84 Tryz.func12 Z yn ah Z Z ?_
 refine an ?_
 refine VG (VO.zT Z fun b hB=>?_)
 refine Vn ?_
 refine an ?_
 refine VC.loop (σ:=Nat) (fun i=>[(3,pV b),(8,.slice a l.length cap),(9,.int .i64 l.length),(10,.int .i64 i)]) (fun i=>[jC w.heap.size b (bY (jO (l.take i)))]) (fun i=>i≤l.length) (fun i=>l.length-i) 0
  (ZO _) ba ER ?_
 intro i hi
 refine an ?_
 refine CP Z (fun h1=>CK ?_) (fun h1=>CX ?_)
 ·have hi2:i<l.length:=by omega
  obtain⟨d,hd⟩:∃d,l[i]?=some d:=⟨_,GE hi2⟩
  have hdo:=hok d (ME hd)
  have htk:jO (l.take (i+1))=jO (l.take i)++kH d:=by rw[ZZ,hd];simp[jO]
  have hpl:(jO (l.take i)).length≤16500*(l.take i).length:=jE fun x hx=>xU (hok x (List.mem_of_mem_take hx))
  have hpl2:(l.take i).length≤3000:=by rw[Z1];omega
  obtain⟨fb,fo,rfl,ra,rc⟩:=aK.rd (X:=⟨Tryz.prog,tab,ah,84,Fr,w⟩) h hd
  refine KN ?_
  refine H6 ?_
  refine VG (VO.alloc Z fun db=>?_)
  refine VG (VT (vs:=dV d) 0 Z Z Z Z (NR _) Z Z Z ?_)
  refine an ?_
  refine VG (VO.ik (fun Fr w=>oX Fr w d.kind) Z ?_)
  refine an ?_
  refine VC.dX Z (fun h2=>CX ?_) (fun h2=>CK ?_)
  ·have e:kH d=[]:=by unfold kH;rw[h2];rfl
   refine sh ?_
   refine⟨i+1,hi2,by dsimp only;omega,ba,?_⟩
   dsimp only
   rw[htk,e,ZN]
   exact(IP 1 Z ae.nil).ar
  obtain⟨k,hk,hk1,hk2⟩:=nA h2
  have hwl:=vx k yd
  have hline:kH d=dD k++(aZ k).flatMap (kS d) ++ [10]:=by unfold kH p6;rw[h2,hk];rfl
  refine an ?_
  refine Vo ?_
  refine an ?_
  refine VG (VO.load Z Z (aE.aP hK (vw (k:=k) (j:=0) yd Z)) ?_)
  refine VG (VO.write Z 1 Z (d_ (NB.pt yp) h_) UN Z ?_)
  rw[eU]
  refine an ?_
  refine Vo ?_
  refine an ?_
  refine Vp ?_
  refine Vq ?_
  rintro _ _ ⟨ib,rfl,rfl⟩
  refine an ?_
  refine VC.loop (σ:=Nat) (fun m=>[(3,pV b),(5,pV db),(8,.slice (some ⟨fb,fo,none⟩) l.length cap),(9,.int .i64 l.length),(10,.int .i64 i),(29,pV ib)])
   (fun m=>[An ib (bY (aZ k)) m,jC w.heap.size b (bY (jO (l.take i)++dD k++((aZ k).take m).flatMap (kS d))),pt db (dV d) 33]) (fun m=>m≤(aZ k).length) (fun m=>(aZ k).length-m) 0
   (ZO _) ba ?_ ?_
  ·rw[List.take_zero,List.flatMap_nil,ZN]
   exact(dF [0,1,0]).ar
  intro m hm
  by_cases hm2:m<(aZ k).length
  ·obtain⟨c,hc⟩:∃c,(aZ k)[m]?=some c:=⟨_,GE hm2⟩
   have hc2:(bY (aZ k)).data.toList[m]?=some c:=by show(aZ k).toArray.toList[m]?=_;simpa using hc
   have htake:((aZ k).take (m+1)).flatMap (kS d)=((aZ k).take m).flatMap (kS d)++kS d c:=by rw[ZZ,hc];simp
   have hfl:(((aZ k).take m).flatMap (kS d)).length≤4100*((aZ k).take m).length:=jE fun c _=>vy hdo c
   have hfl2:((aZ k).take m).length≤4:=by rw[Z1];omega
   have hbase:(jO (l.take i)++dD k++((aZ k).take m).flatMap (kS d)).length≤60000000:=by simp only[ZM];omega
   have hnext:∀t:List UInt8,jO (l.take i)++dD k++((aZ k).take m).flatMap (kS d)++t=jO (l.take i)++dD k++(((aZ k).take m).flatMap (kS d)++t):=fun t=>by rw[ZX]
   generalize jO (l.take i)++dD k++((aZ k).take m).flatMap (kS d)=base at hbase hnext ⊢
   rcases Ar k yd c (ME hc) with rfl | rfl | rfl | rfl
   ·refine an ?_
    refine VG (VO.wG (a8.ez (c:=97) 0 Z Z HV (decode_ascii hc2 yp)) ?_)
    refine PF ?_
    refine wF ?_
    refine sj ?_
    refine VG (VV (fun Fr w hF hs _=>iw Fr w d.a hdo.a.1 hdo.a.2 (sP.st Z hT hF hs)) Z ?_)
    refine VG (VI (bq Z Z (by have:=oZ hdo.a;show 1+_≤_;omega)) ?_)
    rw[FC]
    refine VG (VO.write Z 1 Z (d_ NB.it (d_ (NB.pt yp) h_)) (by have:=fj hdo.a;rw[aQ,aQ];omega) Z ?_)
    rw[eU,hnext,show j_ d.a=kS d 97 from rfl,←htake]
    refine an ?_
    exact Uc
   ·refine an ?_
    refine VG (VO.wG (a8.ez (c:=98) 0 Z Z HV (decode_ascii hc2 yp)) ?_)
    refine RE ?_
    refine wF ?_
    refine sj ?_
    refine VG (VV (fun Fr w hF hs _=>iw Fr w d.b hdo.b.1 hdo.b.2 (sP.st Z hT hF hs)) Z ?_)
    refine VG (VI (bq Z Z (by have:=oZ hdo.b;show 1+_≤_;omega)) ?_)
    rw[FC]
    refine VG (VO.write Z 1 Z (d_ NB.it (d_ (NB.pt yp) h_)) (by have:=fj hdo.b;rw[aQ,aQ];omega) Z ?_)
    rw[eU,hnext,show j_ d.b=kS d 98 from rfl,←htake]
    refine an ?_
    exact Uc
   ·refine an ?_
    refine VG (VO.wG (a8.ez (c:=99) 0 Z Z HV (decode_ascii hc2 yp)) ?_)
    refine RE ?_
    refine KL ?_
    refine wF ?_
    refine sj ?_
    refine VG (VV (fun Fr w hF hs _=>iw Fr w d.c hdo.c.1 hdo.c.2 (sP.st Z hT hF hs)) Z ?_)
    refine VG (VI (bq Z Z (by have:=oZ hdo.c;show 1+_≤_;omega)) ?_)
    rw[FC]
    refine VG (VO.write Z 1 Z (d_ NB.it (d_ (NB.pt yp) h_)) (by have:=fj hdo.c;rw[aQ,aQ];omega) Z ?_)
    rw[eU,hnext,show j_ d.c=kS d 99 from rfl,←htake]
    refine an ?_
    exact Uc
   ·refine an ?_
    refine VG (VO.wG (a8.ez (c:=111) 0 Z Z HV (decode_ascii hc2 yp)) ?_)
    refine RE ?_
    refine KL ?_
    refine KL ?_
    refine wF ?_
    have z1:=oZ hdo.Ky
    have z2:=oZ hdo.Pe
    have z3:=hdo.key
    have z4:=hdo.val
    have z5:=xQ d.op.key
    have z6:=xQ d.op.value
    refine CS (CD (ts 0 3 (ts 6 3 (.only 3 (.take 4 (.take 5 (.only 9 (.take 10 (.only 11 .nil)))))))) yn yr ?_)
    refine sn ?_
    refine AG (AR (fun Fr w hF hs _=>iw Fr w d.op.kind hdo.Ky.1 hdo.Ky.2 (sP.st Z hT hF hs)) Z Z yu ?_)
    refine AG (AI Z (bq Z Z (by show 1+_≤_;omega)) ?_)
    rw[FC]
    refine AG (AI Z (bq (t:=bY [32]) Z Z (by have:=fj hdo.Ky;rw[aQ];show _+1≤_;omega)) ?_)
    rw[eU]
    refine sn ?_
    refine AG (AR (fun Fr w hF hs _=>iw Fr w d.op.version hdo.Pe.1 hdo.Pe.2 (sP.st Z hT hF hs)) Z Z yu ?_)
    refine AG (AI Z (bq Z Z (by have:=fj hdo.Ky;rw[aQ,ZM];show _+1+_≤_;omega)) ?_)
    rw[oY,eU]
    refine AG (AO (a8.write (L:=[An ib (bY (aZ k)) (m+1),jC w.heap.size b (bY base),pt db (dV d) 33]) Z 1 Z (d_ NB.it (d_ (NB.pt yp) h_)) (by have:=fj hdo.Ky;have:=fj hdo.Pe;rw[oY,aQ] at z2;rw[aQ,aQ,ZM,ZM];show _+(_+1+_)≤_;omega) Z) Z ?_ ?_)
    ·rintro _ _ ⟨rfl,rfl⟩
     exact yu
    rintro _ _ ⟨rfl,rfl⟩
    rw[eU,show j_ d.op.kind ++ [32]++Lib.itoa d.op.version=j_ d.op.kind++j_ d.op.version by simp[j_]]
    refine sn ?_
    refine CD (ts 0 3 (ts 6 3 (.only 3 (.take 4 (.take 5 (.only 9 (.take 10 (.only 11 .nil)))))))) yn yr ?_
    refine sn ?_
    refine AG (AR (fun Fr w hF hs _=>rN Fr w d.op.key yd) Z Z yu ?_)
    refine AG (AI Z (bq Z Z (by show 1+_≤_;omega)) ?_)
    rw[QN]
    refine AG (AI Z (bq (t:=bY [32]) Z Z (by rw[aQ,ZW,ZW,kG,fQ];show _+1≤_;omega)) ?_)
    rw[eU]
    refine sn ?_
    refine AG (AR (fun Fr w hF hs _=>rN Fr w d.op.value yd) Z Z yu ?_)
    refine AG (AI Z (bq Z Z (by rw[aQ,ZM,ZW,ZW,kG,fQ];show _+1+_≤_;omega)) ?_)
    rw[show pO d.op.value=bY (58::mA d.op.value.data.toList) from rfl,eU]
    refine AG (AO (a8.write (L:=[An ib (bY (aZ k)) (m+1),jC w.heap.size b (bY (base++(j_ d.op.kind++j_ d.op.version))),pt db (dV d) 33]) Z 1 Z (d_ NB.it (d_ (NB.pt yp) h_)) (by have:=fj hdo.Ky;have:=fj hdo.Pe;rw[aQ,aQ];simp only[ZM,ZW,kG,fQ,List.length_nil];omega) Z) Z ?_ ?_)
    ·rintro _ _ ⟨rfl,rfl⟩
     exact yu
    rintro _ _ ⟨rfl,rfl⟩
    rw[eU,ZX base,show j_ d.op.kind++j_ d.op.version++(32::58::mA d.op.key.data.toList ++ [32]++58::mA d.op.value.data.toList)=kS d 111 by simp[kS],hnext (kS d 111),←htake]
    refine sn ?_
    exact Uc
  ·obtain rfl:m=(aZ k).length:=by omega
   rw[Z',show An ib (bY (aZ k)) (aZ k).length=An ib (bY (aZ k)) (bY (aZ k)).size by rw[aQ]]
   have hfl:((aZ k).flatMap (kS d)).length≤4100*(aZ k).length:=jE fun c _=>vy hdo c
   refine an ?_
   refine VG (VO.wG (a8.I_ 0 Z Z) ?_)
   refine an ?_
   refine VC.jt Z (CX ?_)
   refine an ?_
   refine VG (VO.vt (c:=10) Z 1 Z (d_ NB.it (d_ (NB.pt yp) h_)) (by rw[aQ];simp only[ZM];omega) Z ?_)
   rw[jD,show jO (l.take i)++dD k++(aZ k).flatMap (kS d) ++ [10]=jO (l.take (i+1)) by rw[htk,hline];simp]
   refine sh ?_
   exact⟨i+1,hi2,by dsimp only;omega,ba,(IP 1 Z ae.nil).ar⟩
 ·obtain rfl:i=l.length:=by omega
  rw[Z']
  refine Wn ?_
  refine an ?_
  exact Dz
end Scr
namespace Scr
open Go Vg T Api LibC
attribute [local irreducible] VO VC VA
def As:ByteArray:=⟨#[32]⟩
def gR(s:ByteArray):List ByteArray:=Lib.splitB As 0 (Lib.countB s As) s
theorem Em(s:ByteArray):(gR s).length=Lib.countB s As+1:=Lib.splitB_all As yp 0 _ s rfl
theorem tL(sep:ByteArray):∀(k:Nat) (s:ByteArray),∀w∈Lib.splitB sep 0 k s,w.size≤s.size
 | 0,s,w,h=>by
  rw[Lib.splitB_zero] at h
  obtain rfl:w=s:=by simpa using h
  exact NR _
 | k+1,s,w,h=>by
  unfold Lib.splitB at h
  split at h
  ·obtain rfl:w=s:=by simpa using h
   exact NR _
  ·rcases ZV.1 h with rfl | h
   ·rw[ByteArray.size_extract];omega
   ·have:=tL sep k _ w h
    rw[ByteArray.size_extract] at this;omega
theorem Cf{s w:ByteArray}(h:w∈gR s):w.size≤s.size:=tL As _ s w h
def cN(w:ByteArray):Nat→Nat
 | 0=>0
 | k+1=>if bY (dD (k+1))=w then k+1 else cN w k
theorem sR(w:ByteArray):∀k,cN w k≤k
 | 0=>NR _
 | k+1=>by
  rw[cN];split
  ·exact NR _
  ·exact Nat.le_succ_of_le (sR w k)
abbrev Jd:Type:=cn×List ByteArray×Bool
def takeN(f:cn→Int→cn)(x:Jd):Jd:=(f x.1 ((jN (x.2.1.headD cJ)).getD 0),x.2.1.tail,x.2.2||(jN (x.2.1.headD cJ)).isNone)
def lB(f:cn→ByteArray→cn)(x:Jd):Jd:=(f x.1 ((oV (x.2.1.headD cJ)).getD cJ),x.2.1.tail,x.2.2||(oV (x.2.1.headD cJ)).isNone)
def sA(d:cn)(n:Int):cn:={ d with a:=n }
def sB(d:cn)(n:Int):cn:={ d with b:=n }
def SW(d:cn)(n:Int):cn:={ d with c:=n }
def RJ(d:cn)(n:Int):cn:={ d with op:={ d.op with kind:=n } }
def RM(d:cn)(n:Int):cn:={ d with op:={ d.op with version:=n } }
def G3(d:cn)(s:ByteArray):cn:={ d with op:={ d.op with key:=s } }
def G4(d:cn)(s:ByteArray):cn:={ d with op:={ d.op with value:=s } }
def kI(x:Jd)(c:UInt8):Jd:=
 if c=97 then takeN sA x else if c=98 then takeN sB x else if c=99 then takeN SW x
 else lB G4 (lB G3 (takeN RM (takeN RJ x)))
def rP(s:ByteArray):Option cn:=
 let k:=cN ((gR s).headD cJ) 11
 if k=0 then none
 else
  let x:=(aZ k).foldl kI ({ oW with kind:=k },(gR s).tail,false)
  if x.2.2 || !x.2.1.isEmpty then none else some x.1
theorem Je(x:Jd)(c:UInt8):∀w∈(kI x c).2.1,w∈x.2.1:=fun w h=>by
 unfold kI at h
 split at h
 ·exact List.mem_of_mem_tail h
 split at h
 ·exact List.mem_of_mem_tail h
 split at h
 ·exact List.mem_of_mem_tail h
 ·exact List.mem_of_mem_tail (List.mem_of_mem_tail (List.mem_of_mem_tail (List.mem_of_mem_tail h)))
theorem At(s:ByteArray)(hs:s.size≤1000000)(hG:b9 Fr w)(hK:cy Fr w):
  aH Tryz.prog 81 [.string s] Fr w [] (fun v L=>L=[]∧((∃d,rP s=some d∧v=.tuple #[.agg (dV d).toArray,.bool true])∨(rP s=none∧v=.tuple #[.agg (dV oW).toArray,.bool false]))):=by
 have hwsz:∀x∈gR s,x.size≤1000000:=fun x hx=>Nat.le_trans (Cf hx) hs
 have hwl:=Em s
 generalize hws:gR s=ws at hwsz hwl
 have hflat:ws.map Value.string=flat sC ws ++ []:=by
  rw[ZN];clear hwl hwsz hws;induction ws with
  | nil=>rfl
  | cons x ws ih=>rw[bO,←ih];rfl
 refine TF 89 Tryz.func81 Z yn ah Z Z ?_
 refine CS (CG (VG (VO.alloc Z fun rb=>?_)))
 refine an ?_
 refine VG (VK (Lc:=[]) (fun Fr w hF hw _=>El Fr w s As yd yp (b9.st (X:=⟨Tryz.prog,tab,ah,89,_,_⟩) hG hF hw)) Z Z ?_)
 rintro _ _ ⟨wb,rfl,rfl⟩
 rw[show Lib.splitB As 0 (Lib.countB s As) s=ws from hws,←hwl,hflat]
 refine VG (VI (LB (pv:=[(0,.slice (some ⟨wb,0,none⟩) ws.length ws.length)]) [.slice (some ⟨wb,0,none⟩) ws.length ws.length,.bool false] Z Z Z yn Z) ?_)
 refine VG (VB (vs:=[.slice (some ⟨wb,0,none⟩) ws.length ws.length,.bool false]) Z fun p=>?_)
 refine VO.ar (L':=[xS p ws false,pt rb (dV oW) 33]) (ae.rd (RL.new sC wb ws.length ws []) (RL.uE (c:=sC) (n:=1) (fun _=>rfl) (NR _)) Z (dF [0,0,0])).ar ?_
 refine an ?_
 refine VG (VQ 0 Z (fun Fr w hF hw _=>xT Fr w p ws false) Z (ψ:=fun v H=>v=.string (ws.headD cJ)∧H=xS p ws.tail (false||ws.isEmpty)) yy ?_)
 rintro _ _ ⟨rfl,rfl⟩
 have hne:ws.isEmpty=false:=by
  cases ws with
  | nil=>simp at hwl
  | cons x ws=>rfl
 rw[hne,Bool.false_or]
 have hlr:rP s=(if cN (ws.headD cJ) 11=0 then none else if ((aZ (cN (ws.headD cJ) 11)).foldl kI ({ oW with kind:=cN (ws.headD cJ) 11 },ws.tail,false)).2.2 || !((aZ (cN (ws.headD cJ) 11)).foldl kI ({ oW with kind:=cN (ws.headD cJ) 11 },ws.tail,false)).2.1.isEmpty then none else some ((aZ (cN (ws.headD cJ) 11)).foldl kI ({ oW with kind:=cN (ws.headD cJ) 11 },ws.tail,false)).1):=by
  unfold rP;rw[hws]
 have htsz:∀x∈ws.tail,x.size≤1000000:=fun x hx=>hwsz x (List.mem_of_mem_tail hx)
 generalize ws.headD cJ=w0 at hlr ⊢
 generalize ws.tail=wt at hlr htsz ⊢
 refine an ?_
 refine VC.loop (σ:=Nat) (fun j=>[(4,pV p),(5,.string w0),(2,pV rb),(6,.int .i64 ((j+1:Nat):Int))]) (fun j=>[xS p wt false,pt rb (dV { oW with kind:=cN w0 j }) 33]) (fun j=>j≤11) (fun j=>11-j) 0
  (ZO _) ba ER ?_
 intro j hj
 refine an ?_
 refine CP Z (fun h1=>CK ?_) (fun h1=>CX ?_)
 ·have hj2:j+1≤11:=by omega
  refine an ?_
  refine VG (VI (bG (j+1) Z Z Z Z Z Z yd) ?_)
  refine an ?_
  refine VG (VO.load Z Z (aE.aP hK (vw (k:=j+1) (j:=0) yd Z)) ?_)
  refine an ?_
  refine CC Z (fun h2=>?_) (fun h2=>CK ?_)
  ·have h2:bY (dD (j+1))=w0:=by rw[my] at h2;exact of_decide_eq_true h2
   refine an ?_
   refine VG (VO.st 1 (cs':=dV { oW with kind:=((j+1:Nat):Int) }) Z Z Z Z (ZT Z) Z Z ?_)
   refine sh ?_
   refine⟨j+1,hj2,by dsimp only;omega,ba,?_⟩
   dsimp only
   rw[cN,if_pos h2]
   exact ER
  ·have h2:bY (dD (j+1))≠w0:=by rw[my] at h2;exact of_decide_eq_false h2
   refine sh ?_
   refine⟨j+1,hj2,by dsimp only;omega,ba,?_⟩
   dsimp only
   rw[cN,if_neg h2]
   exact ER
 obtain rfl:j=11:=by omega
 have hk11:=sR w0 11
 generalize cN w0 11=k at hlr hk11 ⊢
 refine jd ?_
 refine VG (VO.ik (fun Fr w=>oX Fr w (k:Int)) Z ?_)
 refine an ?_
 refine VC.dX Z (fun h2=>?_) (fun h2=>CK ?_)
 ·have hk0:k=0:=by simp[lS] at h2;omega
  rw[if_pos hk0] at hlr
  refine an ?_
  refine Vr ?_
  refine VG (VT (vs:=dV oW) 1 Z Z Z Z (NR _) Z Z Z ?_)
  refine an ?_
  exact CR (ay.aT 2 3 Z Z Z (aE.many (ds:=dV oW) 1 Z Z) Z ae.nil.ar ⟨rfl,.inr ⟨hlr,Z⟩⟩)
 have hk1:1≤k:=by simp[lS] at h2;omega
 rw[if_neg yd] at hlr
 have hul:=vx k yd
 refine jd ?_
 refine VG (VI (bG k Z Z Z Z Z Z yd) ?_)
 refine an ?_
 refine Vp ?_
 refine Vq ?_
 rintro _ _ ⟨ib,rfl,rfl⟩
 refine an ?_
 generalize hX0:(({ oW with kind:=(k:Int) },wt,false):Jd)=X0 at hlr
 refine VC.loop (σ:=Nat) (fun m=>[(4,pV p),(2,pV rb),(37,pV ib)])
  (fun m=>[xS p (((aZ k).take m).foldl kI X0).2.1 (((aZ k).take m).foldl kI X0).2.2,pt rb (dV (((aZ k).take m).foldl kI X0).1) 33,An ib (bY (aZ k)) m]) (fun m=>m≤(aZ k).length∧∀x∈(((aZ k).take m).foldl kI X0).2.1,x.size≤1000000) (fun m=>(aZ k).length-m) 0
  ⟨ZO _,by rw[←hX0];exact htsz⟩ ba ?_ ?_
 ·rw[←hX0]
  exact(dF [1,1,0]).ar
 rintro m ⟨hm,hxs⟩
 by_cases hm2:m<(aZ k).length
 ·obtain⟨c,hc⟩:∃c,(aZ k)[m]?=some c:=⟨_,GE hm2⟩
  have hc2:(bY (aZ k)).data.toList[m]?=some c:=by show(aZ k).toArray.toList[m]?=_;simpa using hc
  have htake:((aZ k).take (m+1)).foldl kI X0=kI (((aZ k).take m).foldl kI X0) c:=by rw[ZZ,hc];simp
  have hxs2:∀x∈(((aZ k).take (m+1)).foldl kI X0).2.1,x.size≤1000000:=fun x hx=>hxs x (by rw[htake] at hx;exact Je _ _ x hx)
  generalize ((aZ k).take m).foldl kI X0=x at htake hxs ⊢
  have hx0:∀w∈x.2.1,w.size≤1000000:=hxs
  rcases Ar k yd c (ME hc) with rfl | rfl | rfl | rfl
  ·refine an ?_
   refine VG (VO.wG (a8.ez (c:=97) 2 Z Z HV (decode_ascii hc2 yp)) ?_)
   refine PF ?_
   refine OX ?_
   refine VG (VQ 0 Z (fun Fr w hF hw _=>eM Fr w p x.2.1 x.2.2 hx0 (b9.st (X:=⟨Tryz.prog,tab,ah,89,_,_⟩) hG hF hw)) Z (ψ:=fun v H=>v=.int .i64 ((jN (x.2.1.headD cJ)).getD 0)∧H=xS p (takeN sA x).2.1 (takeN sA x).2.2) yy ?_)
   rintro _ _ ⟨rfl,rfl⟩
   refine an ?_
   refine VG (VO.st 1 (cs':=dV (takeN sA x).1) Z Z Z Z (ZT Z) Z Z ?_)
   refine an ?_
   refine⟨m+1,⟨hm2,hxs2⟩,by dsimp only;omega,ba,?_⟩
   dsimp only
   rw[htake]
   exact ER
  ·refine an ?_
   refine VG (VO.wG (a8.ez (c:=98) 2 Z Z HV (decode_ascii hc2 yp)) ?_)
   refine RE ?_
   refine OX ?_
   refine VG (VQ 0 Z (fun Fr w hF hw _=>eM Fr w p x.2.1 x.2.2 hx0 (b9.st (X:=⟨Tryz.prog,tab,ah,89,_,_⟩) hG hF hw)) Z (ψ:=fun v H=>v=.int .i64 ((jN (x.2.1.headD cJ)).getD 0)∧H=xS p (takeN sB x).2.1 (takeN sB x).2.2) yy ?_)
   rintro _ _ ⟨rfl,rfl⟩
   refine an ?_
   refine VG (VO.st 1 (cs':=dV (takeN sB x).1) Z Z Z Z (ZT Z) Z Z ?_)
   refine an ?_
   refine⟨m+1,⟨hm2,hxs2⟩,by dsimp only;omega,ba,?_⟩
   dsimp only
   rw[htake]
   exact ER
  ·refine an ?_
   refine VG (VO.wG (a8.ez (c:=99) 2 Z Z HV (decode_ascii hc2 yp)) ?_)
   refine RE ?_
   refine KL ?_
   refine OX ?_
   refine VG (VQ 0 Z (fun Fr w hF hw _=>eM Fr w p x.2.1 x.2.2 hx0 (b9.st (X:=⟨Tryz.prog,tab,ah,89,_,_⟩) hG hF hw)) Z (ψ:=fun v H=>v=.int .i64 ((jN (x.2.1.headD cJ)).getD 0)∧H=xS p (takeN SW x).2.1 (takeN SW x).2.2) yy ?_)
   rintro _ _ ⟨rfl,rfl⟩
   refine an ?_
   refine VG (VO.st 1 (cs':=dV (takeN SW x).1) Z Z Z Z (ZT Z) Z Z ?_)
   refine an ?_
   refine⟨m+1,⟨hm2,hxs2⟩,by dsimp only;omega,ba,?_⟩
   dsimp only
   rw[htake]
   exact ER
  ·refine an ?_
   refine VG (VO.wG (a8.ez (c:=111) 2 Z Z HV (decode_ascii hc2 yp)) ?_)
   refine RE ?_
   refine KL ?_
   refine KL ?_
   refine OX ?_
   refine VG (VQ 0 Z (fun Fr w hF hw _=>eM Fr w p x.2.1 x.2.2 hx0 (b9.st (X:=⟨Tryz.prog,tab,ah,89,_,_⟩) hG hF hw)) Z (ψ:=fun v H=>v=.int .i64 ((jN (x.2.1.headD cJ)).getD 0)∧H=xS p (takeN RJ x).2.1 (takeN RJ x).2.2) yy ?_)
   rintro _ _ ⟨rfl,rfl⟩
   refine an ?_
   refine VG (VO.st 1 (cs':=dV (takeN RJ x).1) Z Z Z Z (ZT Z) Z Z ?_)
   refine an ?_
   generalize hgx1:takeN RJ x=x1
   have hx1:∀w∈x1.2.1,w.size≤1000000:=fun w hw=>hx0 w (by rw[←hgx1] at hw;exact List.mem_of_mem_tail hw)
   refine VG (VQ 0 Z (fun Fr w hF hw _=>eM Fr w p x1.2.1 x1.2.2 hx1 (b9.st (X:=⟨Tryz.prog,tab,ah,89,_,_⟩) hG hF hw)) Z (ψ:=fun v H=>v=.int .i64 ((jN (x1.2.1.headD cJ)).getD 0)∧H=xS p (takeN RM x1).2.1 (takeN RM x1).2.2) yy ?_)
   rintro _ _ ⟨rfl,rfl⟩
   refine an ?_
   refine VG (VO.st 1 (cs':=dV (takeN RM x1).1) Z Z Z Z (ZT Z) Z Z ?_)
   refine an ?_
   generalize hgx2:takeN RM x1=x2
   have hx2:∀w∈x2.2.1,w.size≤1000000:=fun w hw=>hx1 w (by rw[←hgx2] at hw;exact List.mem_of_mem_tail hw)
   refine VG (VQ 0 Z (fun Fr w hF hw _=>kl Fr w p x2.2.1 x2.2.2 hx2) Z (ψ:=fun v H=>v=.string ((oV (x2.2.1.headD cJ)).getD cJ)∧H=xS p (lB G3 x2).2.1 (lB G3 x2).2.2) yy ?_)
   rintro _ _ ⟨rfl,rfl⟩
   refine an ?_
   refine VG (VO.st 1 (cs':=dV (lB G3 x2).1) Z Z Z Z (ZT Z) Z Z ?_)
   refine an ?_
   generalize hgx3:lB G3 x2=x3
   have hx3:∀w∈x3.2.1,w.size≤1000000:=fun w hw=>hx2 w (by rw[←hgx3] at hw;exact List.mem_of_mem_tail hw)
   refine VG (VQ 0 Z (fun Fr w hF hw _=>kl Fr w p x3.2.1 x3.2.2 hx3) Z (ψ:=fun v H=>v=.string ((oV (x3.2.1.headD cJ)).getD cJ)∧H=xS p (lB G4 x3).2.1 (lB G4 x3).2.2) yy ?_)
   rintro _ _ ⟨rfl,rfl⟩
   refine an ?_
   refine VG (VO.st 1 (cs':=dV (lB G4 x3).1) Z Z Z Z (ZT Z) Z Z ?_)
   refine an ?_
   refine⟨m+1,⟨hm2,hxs2⟩,by dsimp only;omega,ba,?_⟩
   dsimp only
   rw[htake,show kI x 111=lB G4 x3 by rw[←hgx3,←hgx2,←hgx1];rfl]
   exact ER
 ·obtain rfl:m=(aZ k).length:=by omega
  rw[Z',show An ib (bY (aZ k)) (aZ k).length=An ib (bY (aZ k)) (bY (aZ k)).size by rw[aQ]]
  generalize (aZ k).foldl kI X0=x at hlr ⊢
  refine an ?_
  refine VG (VO.wG (a8.I_ 2 Z Z) ?_)
  refine an ?_
  refine VC.jt Z (CX ?_)
  refine VC.e_ 0 Z (aW.rd p x.2.1 x.2.2) ?_
  rintro r ⟨hok,hx⟩
  unfold tK
  refine an ?_
  cases hbad:x.2.2 with
  | true=>
   rw[hbad] at hlr
   refine VG (VY 79 true Z Z ?_)
   refine DA ?_
   refine Vr ?_
   refine VG (VT (vs:=dV oW) 2 Z Z Z Z (NR _) Z Z Z ?_)
   refine an ?_
   exact Ym
  | false=>
   rw[hbad] at hlr
   refine VG (VY 79 false Z Z ?_)
   refine eR ?_
   refine CP (p:=(0:Int)<(r.xs.length:Int)) Z (fun h3=>?_) (fun h3=>CK ?_)
   ·have hne2:x.2.1.isEmpty=false:=by rw[←hx];cases hr:r.xs with
     | nil=>rw[hr] at h3;simp at h3
     | cons y ys=>rfl
    rw[hne2] at hlr
    refine an ?_
    refine Vr ?_
    refine VG (VT (vs:=dV oW) 2 Z Z Z Z (NR _) Z Z Z ?_)
    refine an ?_
    exact Ym
   ·have hne2:x.2.1.isEmpty=true:=by rw[←hx];cases hr:r.xs with
     | nil=>rfl
     | cons y ys=>rw[hr] at h3;simp at h3
    rw[hne2] at hlr
    refine an ?_
    refine VG (VL 2 (dV x.1) Z Z Z Z ?_)
    refine VG (VT (vs:=dV x.1) 2 Z Z Z Z (NR _) Z Z Z ?_)
    refine an ?_
    exact CR (ay.aT 2 3 Z Z Z (aE.many (ds:=dV x.1) 2 Z Z) Z ae.nil.ar ⟨rfl,.inl ⟨x.1,by rw[hlr];rfl,Z⟩⟩)
end Scr
namespace Scr
open Go Vg T Api LibC
attribute [local irreducible] VO VC VA
def Au:Nat→List UInt8→List cn→List cn×Int×Int
 | 0,_,acc=>(acc,0,0)
 | f+1,s,acc=>if s=[] then (acc,0,0) else if (Lib.cut s [10]).2.2 then match rP (bY (Lib.cut s [10]).1) with
   | some d=>Au f (Lib.cut s [10]).2.1 (acc ++ [d])
   | none=>([],(acc.length:Int)+1,10)
  else ([],(acc.length:Int)+1,10)
def getM(s:ByteArray):List cn×Int×Int:=Au (s.size+1) s.data.toList []
theorem ay.SX{X:Cx}{fn:Func}{R:Value→List HP→Prop}{e:Env}{L:List HP}(t u r:Nat)(h:fn.results=#[.tmp t,.tmp u,.tmp r]){v x y:Value}(hv:Vg.look e t=some v)(hx:Vg.look e u=some x)(hy:Vg.look e r=some y){L':List HP}(he:jq X L L')(hR:R (.tuple #[v,x,y]) L'):ay X fn R e L:=
 ⟨_,L',⟨fun a w ha hw=>by
  have h1:=ha.at_ t _ hv
  have h2:=ha.at_ u _ hx
  have h3:=ha.at_ r _ hy
  simp only[Array.getD_eq_getD_getElem?] at h1 h2 h3
  simp[results,h,h1,h2,h3]⟩,he,hR⟩
theorem FD{s:List UInt8}(h:(Lib.cut s [10]).2.2=true)(hs:s≠[]):(Lib.cut s [10]).2.1.length<s.length∧(Lib.cut s [10]).1.length≤s.length:=by
 unfold Lib.cut at h ⊢
 have:0<s.length:=List.length_pos_iff.2 hs
 split
 ·simp only[List.length_drop,Z1,ZW,List.length_nil];omega
 ·rename_i h1;rw[if_neg h1] at h;cases h
theorem Jf{s:List UInt8}:(Lib.cut s [10]).1.length≤s.length:=by
 unfold Lib.cut
 split
 ·simp only[Z1];omega
 ·exact NR _
theorem fR(l:List UInt8):(bY l).data.toList=l:=by simp[bY]
theorem Jg(s:ByteArray)(hs:s.size≤1000000)(hG:b9 Fr w)(hK:cy Fr w):
  aH Tryz.prog 43 [.string s] Fr w [] (fun v L=>∃a c,v=.tuple #[.slice a (getM s).1.length c,.int .i64 (getM s).2.1,.int .i64 (getM s).2.2]∧L=[aI 33 8 a (getM s).1.length c (flat dV (getM s).1)]):=by
 refine TF 39 Tryz.func43 Z yn ah Z Z ?_
 refine an ?_
 refine VC.loop (σ:=List cn×List UInt8×Nat×Option Addr×Nat) (fun x=>[(0,.string (bY x.2.1)),(2,.slice x.2.2.2.1 x.1.length x.2.2.2.2),(3,.int .i64 0),(4,.int .i64 0),(5,.int .i64 ((x.1.length+1:Nat):Int))]) (fun x=>[aI 33 8 x.2.2.2.1 x.1.length x.2.2.2.2 (flat dV x.1)])
  (fun x=>x.1.length+x.2.1.length≤s.size∧x.2.1.length<x.2.2.1∧getM s=Au x.2.2.1 x.2.1 x.1) (fun x=>x.2.1.length) ([],s.data.toList,s.size+1,none,0)
  ⟨by dsimp only;rw[fQ];simp,by dsimp only;rw[fQ];omega,rfl⟩ (SC (by rw[mz];rfl) ba) (ae.bZ ae.nil).ar ?_
 rintro⟨acc,t,f,a1,c1⟩ ⟨hlen,hf,hJ⟩
 dsimp only at hlen hf hJ ⊢
 obtain⟨f,rfl⟩:∃k,f=k+1:=⟨f-1,by omega⟩
 refine an ?_
 refine CC Z (fun h1=>CK ?_) (fun h1=>CX ?_)
 ·have hne:t≠[]:=fun e=>by subst e;rw[my] at h1;simp[bY] at h1
  rw[Au,if_neg hne] at hJ
  have htl:(bY t).size=t.length:=aQ t
  have hcl:=Jf (s:=t)
  refine an ?_
  refine VG (VV (fun Fr w hF hw _=>oU Fr w (bY t) ⟨#[10]⟩ (by rw[htl];omega) (b9.st (X:=⟨Tryz.prog,tab,ah,39,_,_⟩) hG hF hw)) Z ?_)
  rw[fR,show(⟨#[10]⟩:ByteArray).data.toList=[10] from rfl]
  refine an ?_
  refine VG (VK (Lc:=[]) (fun Fr w hF hw _=>At Fr w (bY (Lib.cut t [10]).1) Pw (b9.st (X:=⟨Tryz.prog,tab,ah,39,_,_⟩) hG hF hw) (cy.st (X:=⟨Tryz.prog,tab,ah,39,_,_⟩) hK hF hw)) Z Z ?_)
  rintro _ _ ⟨rfl,hcase⟩
  cases hend:(Lib.cut t [10]).2.2 with
  | false=>
   rw[hend,if_neg yf] at hJ
   rcases hcase with ⟨d,hd,rfl⟩ | ⟨hd,rfl⟩<;>
   ·refine an ?_
    refine VG (VO.alloc Z fun db=>?_)
    first | refine VG (VT (vs:=dV oW) 0 rfl rfl rfl rfl (NR _) rfl rfl rfl ?_) | refine VG (VT (vs:=dV _) 0 rfl rfl rfl rfl (NR _) rfl rfl rfl ?_)
    refine an ?_
    refine VG (VY 28 true Z Z ?_)
    refine DA ?_
    exact Yn
  | true=>
   rw[hend,if_pos rfl] at hJ
   have hct:=FD hend hne
   rcases hcase with ⟨d,hd,rfl⟩ | ⟨hd,rfl⟩
   ·rw[hd] at hJ
    refine an ?_
    refine VG (VO.alloc Z fun db=>?_)
    refine VG (VT (vs:=dV d) 0 Z Z Z Z (NR _) Z Z Z ?_)
    refine an ?_
    refine VG (VY 28 false Z Z ?_)
    refine Ks ?_
    refine an ?_
    refine R3 ?_
    refine VG (VO.buildSlice (n:=1) (pv:=[(0,.agg (dV d).toArray)]) (dV d) Z Z Z Z yp (bJ Z Z Z) fun nb=>?_)
    refine VG (VO.append (m:=1) (news:=dV d) 2 Z Z Z Z Z Z Z (dt.pt 0 Z Z Z) Z (by show(acc.length+1)*80≤_;omega) yd fun a2 c2 hc2=>?_)
    refine sh ?_
    have hL:(acc ++ [d]).length=acc.length+1:=by simp
    have hF:flat dV (acc ++ [d])=flat dV acc++dV d:=by simp[bf,bO,fg]
    refine⟨(acc ++ [d],(Lib.cut t [10]).2.1,f,a2,c2),⟨by dsimp only;omega,by dsimp only;omega,hJ⟩,by dsimp only;omega,SC Z (SC RR (SC Z (SC Z (SC RR (SN _))))),?_⟩
    dsimp only
    rw[hL,hF]
    exact(IP 0 Z ae.nil).ar
   ·rw[hd] at hJ
    refine an ?_
    refine VG (VO.alloc Z fun db=>?_)
    refine VG (VT (vs:=dV oW) 0 Z Z Z Z (NR _) Z Z Z ?_)
    refine an ?_
    refine VG (VY 28 false Z Z ?_)
    refine DA ?_
    exact Yn
 ·have he:t=[]:=by
   cases t with
   | nil=>rfl
   | cons x t=>exfalso;revert h1;rw[my];simp[bY]
  subst he
  rw[Au,if_pos rfl] at hJ
  rw[hJ]
  refine an ?_
  exact CR (ay.SX 2 3 4 Z Z Z Z ER ⟨a1,c1,Z,Z⟩)
end Scr
namespace Scr
open Go Vg T Api LibC
attribute [local irreducible] VO VC VA
deriving instance DecidableEq for fe
deriving instance DecidableEq for cn
def En(o p:fe):Bool:=decide (o.kind=p.kind)&&(decide (o.key=p.key)&&(decide (o.value=p.value)&&(decide (o.version=p.version)&&true)))
theorem stood:Tryz.prog.stoodInHeld 31=false:=by kernel_rfl
theorem QO:Tryz.prog.eqGuardType Tryz.prog.depth 31=false:=by kernel_rfl
theorem SY(o p:fe)(w:World):(Op.equal 31 (.agg o.cells.toArray) (.agg p.cells.toArray)).run Tryz.prog w=.ok (En o p) w:=by
 have hi:∀(cs:List Value) (j:Nat) (n:Int),cs[j]?=some (.int .i64 n)→∀w:World,(part 3 cs.toArray j).run Tryz.prog w=.ok (.int .i64 n) w:=fun cs j n h w=>pU (nM.look ah (t:=3) (ti:=T.t3) rfl) rfl h w
 have hs:∀(cs:List Value) (j:Nat) (s:ByteArray),cs[j]?=some (.string s)→∀w:World,(part 9 cs.toArray j).run Tryz.prog w=.ok (.string s) w:=fun cs j n h w=>pU (nM.look ah (t:=9) (ti:=T.t9) rfl) rfl h w
 refine uI.run (uI.st Tryz.underlying31 stood (qZ.cons yp (hi _ _ _ Z) (hi _ _ _ Z) (uI.int Tryz.underlying3 o.kind p.kind) (qZ.cons yp (hs _ _ _ Z) (hs _ _ _ Z) (uI.str Tryz.underlying9 o.key p.key) (qZ.cons yp (hs _ _ _ Z) (hs _ _ _ Z) (uI.str Tryz.underlying9 o.value p.value) (qZ.cons yp (hi _ _ _ Z) (hi _ _ _ Z) (uI.int Tryz.underlying3 o.version p.version) qZ.nil))))) yp w
def vz(d e:cn)(c:UInt8):Bool:=
 if c=97 then d.a != e.a else if c=98 then d.b != e.b else if c=99 then d.c != e.c else !En d.op e.op
def vA(d e:cn):Bool:=lS d.kind&&d.kind == e.kind&&(aZ d.kind.toNat).all fun c=>!vz d e c
theorem G5(d e:cn)(hK:cy Fr w):
  aH Tryz.prog 8 [.agg (dV d).toArray,.agg (dV e).toArray] Fr w [] (fun v L=>v=.bool (vA d e)∧L=[]):=by
 refine TF 64 Tryz.func8 Z yn ah Z Z ?_
 refine CS (CG (VG (VB (vs:=dV d) Z fun db=>VG (VB (vs:=dV e) Z fun eb=>?_))))
 refine VG (VN (CS (CS ?_)))
 refine VC.cq (σ:=Bool) (fun t=>[(2,pV db),(3,pV eb),(17,.bool t)]) (fun _=>[pt eb (dV e) 33,pt db (dV d) 33]) (fun t=>t=!(lS d.kind&&d.kind == e.kind)) ?_ ?_
 ·refine CG ?_
  refine jd ?_
  refine VG (VO.ik (fun Fr w=>oX Fr w d.kind) Z ?_)
  refine an ?_
  cases hk:lS d.kind with
  | false=>
   refine VG (VY 11 true Z Z ?_)
   refine eR ?_
   exact⟨_,Z,SC Z (SC Z (SC Z (SN _))),ER⟩
  | true=>
   refine VG (VY 11 false Z Z ?_)
   refine wH ?_
   exact⟨_,by simp[bne],SC Z (SC Z (SC Z (SN _))),ER⟩
 intro t ht
 refine CC Z (fun h1=>?_) (fun h1=>CK ?_)
 ·have h2:(lS d.kind&&d.kind == e.kind)=false:=by rw[h1] at ht;cases hh:(lS d.kind&&d.kind == e.kind) with
   | false=>rfl
   | true=>rw[hh] at ht;cases ht
  refine an ?_
  exact CR (ay.bool 4 Z Z (by rw[vA,h2];rfl) ae.nil.ar ⟨rfl,Z⟩)
 have h2:(lS d.kind&&d.kind == e.kind)=true:=by rw[h1] at ht;cases hh:(lS d.kind&&d.kind == e.kind) with
  | true=>rfl
  | false=>rw[hh] at ht;cases ht
 obtain⟨k,hk,hk1,hk2⟩:=nA (Bool.and_eq_true_iff.1 h2).1
 have hsm:vA d e=(aZ k).all fun c=>!vz d e c:=by rw[vA,h2,hk];rfl
 refine jd ?_
 refine Vo ?_
 refine an ?_
 refine Vp ?_
 refine Vq ?_
 rintro _ _ ⟨ib,rfl,rfl⟩
 refine an ?_
 refine VC.loop (σ:=Nat) (fun m=>[(2,pV db),(3,pV eb),(23,pV ib)])
  (fun m=>[An ib (bY (aZ k)) m,pt eb (dV e) 33,pt db (dV d) 33]) (fun m=>m≤(aZ k).length∧∀c∈(aZ k).take m,vz d e c=false) (fun m=>(aZ k).length-m) 0
  ⟨ZO _,by simp⟩ ba ER ?_
 rintro m ⟨hm,hall⟩
 by_cases hm2:m<(aZ k).length
 ·obtain⟨c,hc⟩:∃c,(aZ k)[m]?=some c:=⟨_,GE hm2⟩
  have hc2:(bY (aZ k)).data.toList[m]?=some c:=by show(aZ k).toArray.toList[m]?=_;simpa using hc
  have hcm:=ME hc
  have hno:vz d e c=true→vA d e=false:=fun hd=>by
   rw[hsm,Bool.eq_false_iff]
   intro ha
   have:=List.all_eq_true.1 ha c hcm
   rw[hd] at this;cases this
  have hstep:vz d e c=false→∀x∈(aZ k).take (m+1),vz d e x=false:=fun hd x hx=>by
   rw[ZZ,hc] at hx
   rcases ZY.1 hx with hx | hx
   ·exact hall x hx
   ·simp at hx;rw[hx];exact hd
  rcases Ar k yd c hcm with rfl | rfl | rfl | rfl
  ·refine an ?_
   refine VG (VO.wG (a8.ez (c:=97) 0 Z Z HV (decode_ascii hc2 yp)) ?_)
   refine PF ?_
   refine VG (VY 30 true Z Z ?_)
   refine pQ ?_
   refine CC (t:=d.a != e.a) Z (fun hd=>CK ?_) (fun hd=>?_)
   ·refine VC.kr US ?_
    refine an ?_
    exact CR (ay.bool 4 Z Z (hno (show(d.a != e.a)=true from hd)).symm ae.nil.ar ⟨rfl,Z⟩)
   ·refine an ?_
    refine VG (VY 39 false Z Z ?_)
    refine KQ ?_
    refine VG (VY 48 false Z Z ?_)
    refine KQ ?_
    refine R1 ?_
    refine pQ ?_
    refine sk ?_
    exact⟨m+1,⟨hm2,hstep (show(d.a != e.a)=false from hd)⟩,by dsimp only;omega,ba,ER⟩
  ·refine an ?_
   refine VG (VO.wG (a8.ez (c:=98) 0 Z Z HV (decode_ascii hc2 yp)) ?_)
   refine PF ?_
   refine VG (VY 30 false Z Z ?_)
   refine KQ ?_
   refine VG (VY 39 true Z Z ?_)
   refine pQ ?_
   refine CC (t:=d.b != e.b) Z (fun hd=>CK ?_) (fun hd=>?_)
   ·refine VC.kr US ?_
    refine an ?_
    exact CR (ay.bool 4 Z Z (hno (show(d.b != e.b)=true from hd)).symm ae.nil.ar ⟨rfl,Z⟩)
   ·refine an ?_
    refine VG (VY 48 false Z Z ?_)
    refine KQ ?_
    refine R1 ?_
    refine pQ ?_
    refine sk ?_
    exact⟨m+1,⟨hm2,hstep (show(d.b != e.b)=false from hd)⟩,by dsimp only;omega,ba,ER⟩
  ·refine an ?_
   refine VG (VO.wG (a8.ez (c:=99) 0 Z Z HV (decode_ascii hc2 yp)) ?_)
   refine PF ?_
   refine VG (VY 30 false Z Z ?_)
   refine KQ ?_
   refine VG (VY 39 false Z Z ?_)
   refine KQ ?_
   refine VG (VY 48 true Z Z ?_)
   refine pQ ?_
   refine CC (t:=d.c != e.c) Z (fun hd=>CK ?_) (fun hd=>?_)
   ·refine VC.kr US ?_
    refine an ?_
    exact CR (ay.bool 4 Z Z (hno (show(d.c != e.c)=true from hd)).symm ae.nil.ar ⟨rfl,Z⟩)
   ·refine an ?_
    refine R1 ?_
    refine pQ ?_
    refine sk ?_
    exact⟨m+1,⟨hm2,hstep (show(d.c != e.c)=false from hd)⟩,by dsimp only;omega,ba,ER⟩
  ·refine an ?_
   refine VG (VO.wG (a8.ez (c:=111) 0 Z Z HV (decode_ascii hc2 yp)) ?_)
   refine PF ?_
   refine VG (VY 30 false Z Z ?_)
   refine KQ ?_
   refine VG (VY 39 false Z Z ?_)
   refine KQ ?_
   refine VG (VY 48 false Z Z ?_)
   refine KQ ?_
   refine VG (VY 57 true Z Z ?_)
   refine pQ ?_
   refine VG (VL 2 d.op.cells Z Z Z Z ?_)
   refine pQ ?_
   refine VG (VL 1 e.op.cells Z Z Z Z ?_)
   refine VG (VI (Gn QO Z Z (SY d.op e.op)) ?_)
   refine pQ ?_
   refine CC (t:=!En d.op e.op) Z (fun hd=>?_) (fun hd=>CK ?_)
   ·refine an ?_
    exact CR (ay.bool 4 Z Z (hno (show(!En d.op e.op)=true from hd)).symm ae.nil.ar ⟨rfl,Z⟩)
   ·exact⟨m+1,⟨hm2,hstep (show(!En d.op e.op)=false from hd)⟩,by dsimp only;omega,ba,ER⟩
 ·obtain rfl:m=(aZ k).length:=by omega
  rw[Z'] at hall
  rw[show An ib (bY (aZ k)) (aZ k).length=An ib (bY (aZ k)) (bY (aZ k)).size by rw[aQ]]
  refine an ?_
  refine VG (VO.wG (a8.I_ 0 Z Z) ?_)
  refine an ?_
  refine VC.jt Z (CX ?_)
  refine an ?_
  exact CR (ay.bool 4 Z Z (by rw[hsm];exact(List.all_eq_true.2 fun c hc=>by rw[hall c hc];rfl).symm) ae.nil.ar ⟨rfl,Z⟩)
end Scr
namespace Scr
open Go Vg T Api LibC
theorem Eo{s:List UInt8}{c:UInt8}{i:Nat}(h:s[i]?=some c):s=s.take i++c::s.drop (i+1):=by
 obtain⟨h1,h2⟩:=ZP.1 h
 rw[←h2,←List.drop_eq_getElem_cons h1,List.take_append_drop]
theorem Jh{s:List UInt8}{c:UInt8}(h:Lib.index s [c]≠-1):∃i:Nat,Lib.index s [c]=i∧s[i]?=some c:=by
 rcases Lib.index_spec s [c] with ⟨h1,_⟩ | ⟨i,h1,h2,h3,_⟩
 ·exact(h h1).elim
 ·refine⟨i,h1,?_⟩
  unfold Lib.occAt at h3
  cases hd:s.drop i with
  | nil=>rw[hd] at h3;cases h3
  | cons y ys=>
   rw[hd] at h3
   have hy:c=y:=by simpa[List.isPrefixOf] using h3
   have:(s.drop i)[0]?=some y:=by rw[hd];rfl
   rw[List.getElem?_drop] at this
   rw[hy];simpa using this
theorem vB(c:UInt8):∀(k:Nat) (s:List UInt8),∃w0 ws,Lib.splitK [c] 0 k s=w0::ws∧s=w0++ws.flatMap (c :: ·)
 | 0,s=>⟨s,[],rfl,by simp⟩
 | k+1,s=>by
  unfold Lib.splitK
  split
  ·exact⟨s,[],Z,by simp⟩
  ·rename_i h
   obtain⟨i,h1,h2⟩:=Jh (s:=s) (c:=c) yc
   obtain⟨w0,ws,h3,h4⟩:=vB c k (s.drop (i+1))
   rw[h1]
   refine⟨s.take i,w0::ws,?_,?_⟩
   ·simp only[ZU,ZW,List.length_nil,Nat.add_zero]
    rw[←h3]
   ·rw[List.flatMap_cons,List.cons_append,←h4]
    exact Eo h2
theorem Cg(s:ByteArray):∃w0 ws,gR s=w0::ws∧s.data.toList=w0.data.toList++ws.flatMap (fun w=>32::w.data.toList):=by
 have h:=Lib.splitB_data As 0 (Lib.countB s As) s
 obtain⟨w0,ws,h1,h2⟩:=vB 32 (Lib.countB s As) s.data.toList
 rw[show As.data.toList=[32] from rfl,h1] at h
 cases hs:gR s with
 | nil=>rw[show Lib.splitB As 0 (Lib.countB s As) s=gR s from rfl,hs] at h;cases h
 | cons x xs=>
  rw[show Lib.splitB As 0 (Lib.countB s As) s=gR s from rfl,hs,List.map_cons] at h
  injection h with e1 e2
  refine⟨x,xs,Z,?_⟩
  rw[h2,←e1,←e2,List.flatMap_map]
theorem xV{w:ByteArray}:∀{k:Nat},cN w k≠0→bY (dD (cN w k))=w
 | 0,h=>(h rfl).elim
 | k+1,h=>by
  rw[cN] at h ⊢
  split
  ·assumption
  ·rename_i h1;rw[if_neg h1] at h;exact xV h
theorem rQ(t:ByteArray):(pO t).data.toList=58::mA t.data.toList:=by rw[pO,fR]
end Scr
end Go.Proofs.YthnlpdacbcjgpaaGreatDoor
