/- Texts of the proof, put together and shortened. No condition. -/
import Derived.Test.YtbmakdofbejlnaaGreatDoorZj2
set_option maxRecDepth 100000
set_option maxHeartbeats 16000000
set_option linter.unusedVariables false
set_option linter.unusedSectionVars false
set_option linter.unusedSimpArgs false
namespace Go.Proofs.YtbmakdofbejlnaaGreatDoor
variable (Fr : Nat → Prop) (w : World)
namespace Adm
open Go Vg T Api Sched Conf
attribute [local irreducible] VO VC VA
theorem MV{Fr:Nat→Prop}{w:World}{p sp:Nat}{A:aK}(h:A.Wf)(hs:aV Fr (nU p A sp) w):aV Fr [bb p A] w:=aV.shut (φ:=fun _=>A.Wf) (Ls:=fun sp=>nU p A sp) sp h hs
theorem R3(S:aH)(f:aA):(S.eK f).2.cls.length=S.cls.length:=by
 unfold aH.eK
 split
 ·rfl
 ·split
  ·rfl
  ·split
   ·simp[aH.iP]
   ·rfl
def oh(c:bn):aK:=⟨aH.new c.qs c.queue,c.bt,List.replicate 6 (0,0),List.replicate 6 0⟩
theorem G4{c:bn}(h:c=ct c):lW c.qs c.queue=true∧1≤c.bt∧c.bt≤6:=by
 have h1:c.qs=fF c.qs:=congrArg bn.qs h
 have h2:c.queue=aD c.queue 1 16:=congrArg bn.queue h
 have h3:c.bt=aD c.bt 1 6:=congrArg bn.bt h
 have h4:=wM c.qs
 have h5:=kn (x:=c.queue) (lo:=1) (hi:=16) yd
 have h6:=kn (x:=c.bt) (lo:=1) (hi:=6) yd
 rw[←h1] at h4
 rw[←h2] at h5
 rw[←h3] at h6
 refine⟨?_,h6⟩
 have h7:c.qs.all pz=true:=by
  rw[kU]
  intro q hq
  rw[h1] at hq
  obtain⟨x,_,rfl⟩:=eC.1 hq
  have:=kn (x:=x) (lo:=96) (hi:=65536) yd
  simp[pz,jk,this]
 simp[lW,h4,h5,h7]
theorem IK{c:bn}(h:c=ct c):(oh c).Wf:=by
 obtain⟨h1,h2,h3⟩:=G4 h
 exact⟨aH.IQ h1,h2,h3,Z,Z⟩
theorem jH(c:bn)(a:Option Addr)(cap:Nat)(hq:fT Fr w a c.qs)(ha:nR a)(hcap:c.qs.length≤cap):aq Tryz.prog 88 [.agg (c.cells a cap).toArray] Fr w []
  (fun v L=>if c=ct c then ∃p,v=.tuple #[.pointer (some ⟨p,0,none⟩),.int .i64 0]∧L=[bb p (oh c)] else v=.tuple #[.pointer none,.int .i64 2]∧L=[]):=by
 refine TF 30 Tryz.func88 Z ym aw Z Z ?_
 refine CS (CG (VG (VB (vs:=c.cells a cap) Z fun x=>VG (VN ?_))))
 refine sg ?_
 refine VG (VV (fun Fr w hF hs _=>gq Fr w c a cap (lS hq hF hs) ha hcap) Z (VG (VN ?_)))
 refine aj ?_
 refine VC.dd Z (fun h1=>?_) (fun h1=>CK ?_)
 ·have hc:¬c=ct c:=fun e=>h1 (by rw[jz,if_pos e])
  have hc2:jz c=2:=by rw[jz,if_neg hc]
  refine aj ?_
  refine CR (al.cz 2 3 Z Z Z aa.nil.ah ?_)
  rw[if_neg hc,hc2];exact⟨rfl,rfl⟩
 have hc:c=ct c:=by
  apply Decidable.byContradiction
  intro hc
  rw[jz,if_neg hc] at h1
  cases h1
 obtain⟨hok,hc0,hc1⟩:=G4 hc
 refine aj ?_
 refine VG (VK (Lc:=[]) (fun Fr w hF hs _=>Sched.jH Fr w a cap c.qs c.queue (lS hq hF hs)) Z Z ?_)
 intro v L hv
 unfold dz at hv
 rw[if_pos hok] at hv
 obtain⟨sp,rfl,rfl⟩:=hv
 refine aj ?_
 refine VC.dd Z (fun h=>absurd Z h) (fun _=>CK ?_)
 refine cF ?_
 refine VG (VI (LB (pv:=[(0,pV sp),(1,.int .i64 c.bt),(2,.int .i64 c.qs.length)]) (eE (oh c) sp) Z Z Z (by
  have e:(oh c).aO.cls.length=c.qs.length:=by simp[oh,aH.new]
  simp only[eE,e]
  rfl) rfl) ?_)
 refine VG (VB (vs:=eE (oh c) sp) Z fun p=>VG (VN ?_))
 refine CR (al.cz 2 3 Z Z Z (L':=[bb p (oh c)]) (nV sp (IK hc) (aa.app (L:=[_,_]) (M:=[_,_]) aa.refl aa.nil)).ah ?_)
 rw[if_pos hc];exact⟨p,rfl,rfl⟩
def aK.ea(A:aK)(S:aH):aK:={ A with aO:=S }
def aK.dv(A:aK)(f:aA)(now:Int):Int×aK:=
 if A.tR f.aI f.seq f.bz then (7,A) else if A.wt f.aI=f.seq then (6,A) else if A.wt f.aI≠0 then (1,A) else if f.deadline<now then (2,A)
 else if (A.aO.eK f).1≠0 then (1,A.ea (A.aO.eK f).2) else (0,(A.ea (A.aO.eK f).2).fI f.aI f.seq)
def aK.gV(A:aK)(f:aA)(now:Int):Int×aK:=
 if A.may f then if (A.dv f now).1≠0∧(A.dv f now).1≠6 then ((A.dv f now).1,((A.dv f now).2.dw f.aI f.seq f.bz).2) else A.dv f now else (10,A)
theorem aK.Wf.ea{A:aK}(h:A.Wf){S:aH}(hS:S.Wf):(A.ea S).Wf:=⟨hS,h.c0,h.c1,h.marks,h.waits⟩
theorem aK.Wf.dv{A:aK}(h:A.Wf)(f:aA)(now:Int):(A.dv f now).2.Wf:=by
 unfold aK.dv
 repeat' split
 all_goals first | exact h | exact h.ea (DW h.aO f) | exact(h.ea (DW h.aO f)).fI _ _
theorem Iy{A:aK}{f:aA}(h:A.may f=true):A.has f.aI=true∧ji f.seq=true∧ji f.bz=true:=by
 simp only[aK.may,dG] at h
 exact⟨h.1.1.1.1.1.1.1.1.1,h.1.1.1.1.1.1.1.2,h.1.1.1.1.1.1.2⟩
theorem Pm{A:aK}(h:A.Wf){k:Int}(hk:A.has k=true):∃n:Nat,k=n∧n<6:=by
 have hk:=of_decide_eq_true hk
 obtain⟨n,rfl⟩:=sj hk.1
 have:=h.c1
 exact⟨n,Z,by omega⟩
theorem F6{A:aK}(f:aA)(sp:Nat):eE A sp=eE (A.ea (A.aO.eK f).2) sp:=by
 simp only[eE,aK.ea,R3]
theorem Yc(p:Nat)(A:aK)(f:FM)(hmm:kz Fr w f.2)(now:Int)(hm:A.may f.1=true):aq Tryz.prog 386 [.pointer (some ⟨p,0,none⟩),.agg (aS f).toArray,.int .i64 now] Fr w [bb p A] (fun v L=>v=.int .i64 (A.dv f.1 now).1∧L=[bb p (A.dv f.1 now).2]):=by
 refine TF 53 Tryz.func386 Z ym aw Z Z ?_
 refine CS (CG (VG (VB (vs:=aS f) Z fun b=>VG (VN ?_))))
 refine VC.bu 1 Z (aY.aM p A) fun sp h=>?_
 refine CN (L':=pt b (aS f) 353::nU p A sp) (aa.perm hU).ah ?_
 obtain⟨hhas,hnum,hnum2⟩:=Iy hm
 obtain⟨n,hcl,hn⟩:=Pm h hhas
 have hwt:A.wt f.1.aI=A.wt n:=by rw[hcl]
 have out:∀{X:Cx},cI X (pt b (aS f) 353::nU p A sp) [bb p A]:=fun {X}=>(aa.trans aa.tl (nV sp h aa.refl)).ah
 refine CS (CD (ts 0 8 .nil) ym yo ?_)
 refine eu ?_
 refine A1 ?_
 refine AG (VA.ld 1 Z Z Z Z (Yp h hn) ?_)
 refine bg ?_
 refine cF ?_
 refine VG (VV (fun Fr w hF _ hs=>Gn Fr w f.1.aI f.1.seq f.1.bz (MV h hs.tail)) Z (VG (VN ?_)))
 refine CC Z (fun h1=>?_) (fun h1=>?_)
 ·have e:A.dv f.1 now=(7,A):=by unfold aK.dv;rw[if_pos h1]
  refine aj ?_
  exact A2
 refine cF ?_
 refine CE Z (fun h2=>?_) (fun h2=>?_)
 ·have e:A.dv f.1 now=(6,A):=by unfold aK.dv;rw[if_neg qS,if_pos (hwt.trans h2)]
  refine aj ?_
  exact A2
 refine cF ?_
 refine VC.dd Z (fun h3=>?_) (fun h3=>?_)
 ·have e:A.dv f.1 now=(1,A):=by unfold aK.dv;rw[if_neg qS,if_neg FI,if_pos (by rw[hwt];exact h3)]
  refine aj ?_
  exact A2
 refine cF ?_
 refine CP Z (fun h4=>?_) (fun h4=>?_)
 ·have e:A.dv f.1 now=(2,A):=by unfold aK.dv;rw[if_neg qS,if_neg FI,if_neg (by rw[hwt];exact fun x=>x h3),if_pos h4]
  refine aj ?_
  exact A2
 have e0:A.dv f.1 now=if (A.aO.eK f.1).1≠0 then (1,A.ea (A.aO.eK f.1).2) else (0,(A.ea (A.aO.eK f.1).2).fI f.1.aI f.1.seq):=by
  unfold aK.dv;rw[if_neg qS,if_neg FI,if_neg (by rw[hwt];exact fun x=>x h3),if_neg h4]
 have hwf:=h.ea (DW h.aO f.1)
 refine CS (CD (ts 0 5 (.only 5 (ts 6 2 .nil))) ym yo ?_)
 refine eu ?_
 refine AG (VA.cK 0 (aS f) Z Z Z Z Z ?_)
 refine AG (AQ 2 (ψ:=fun v H=>v=.int .i64 (A.aO.eK f.1).1∧H=fh sp (A.aO.eK f.1).2) Z (fun Fr w hF hs _=>Sched.s6 Fr w sp A.aO f (hmm.of hF hs)) Z Z (fun v L1 h=>⟨_,h.2,h.1,Z⟩) ?_ ?_)
 ·rintro _ _ ⟨rfl,rfl⟩
  exact yv
 rintro _ _ ⟨rfl,rfl⟩
 refine bg ?_
 refine VC.dd Z (fun h5=>?_) (fun h5=>CK ?_)
 ·have e:A.dv f.1 now=(1,A.ea (A.aO.eK f.1).2):=by rw[e0,if_pos h5]
  refine aj ?_
  refine CR (al.int 6 Z Z oJ (aa.trans aa.tl (nV sp hwf (aa.of_eq ?_))).ah ⟨rfl,by rw[e]⟩)
  rw[nU,F6 f.1 sp];rfl
 have e:A.dv f.1 now=(0,(A.ea (A.aO.eK f.1).2).fI n f.1.seq):=by rw[e0,if_neg (fun x=>x h5),hcl]
 refine CS (CD (ts 0 8 (.only 8 .nil)) ym yo ?_)
 refine eu ?_
 refine A1 ?_
 refine AG (VA.st 1 Z Z Z Z Z L8 (cs':=eE ((A.ea (A.aO.eK f.1).2).fI n f.1.seq) sp) (by rw[F6 f.1 sp];exact EC hwf hn f.1.seq) Z yv ?_)
 refine sh ?_
 exact CR (al.int 6 Z Z oJ (aa.trans aa.tl (nV sp (hwf.fI n f.1.seq) (aa.of_eq Z))).ah ⟨rfl,by rw[e]⟩)
theorem zO(p:Nat)(A:aK)(f:FM)(hmm:kz Fr w f.2)(now:Int):aq Tryz.prog 376 [.pointer (some ⟨p,0,none⟩),.agg (aS f).toArray,.int .i64 now] Fr w [bb p A] (fun v L=>v=.int .i64 (A.gV f.1 now).1∧L=[bb p (A.gV f.1 now).2]):=by
 refine TF 31 Tryz.func376 Z ym aw Z Z ?_
 refine CS (CG (VG (VB (vs:=aS f) Z fun b=>VG (VN ?_))))
 refine aj ?_
 refine VG (VL 0 (aS f) Z Z Z Z ?_)
 refine VG (VV (fun Fr w hF _ hs=>wD Fr w f (hs.at_ 1 Z)) Z (VG (VN ?_)))
 refine VC.ey Z (fun h1=>?_) (fun h1=>CK ?_)
 ·have e:A.gV f.1 now=(10,A):=by unfold aK.gV;rw[if_neg qS]
  refine aj ?_
  exact CR (al.int 6 Z Z oJ (L':=[bb p A]) aa.tl.ah ⟨rfl,by rw[e]⟩)
 refine aj ?_
 refine VG (VL 0 (aS f) Z Z Z Z ?_)
 refine VG (VQ 1 (ψ:=fun v H=>v=.int .i64 (A.dv f.1 now).1∧H=bb p (A.dv f.1 now).2) Z (fun Fr w hF hs _=>Yc Fr w p A f (hmm.of hF hs) now h1) Z (fun v L1 h=>⟨_,h.2,h.1,Z⟩) ?_)
 rintro _ _ ⟨rfl,rfl⟩
 have e0:A.gV f.1 now=if (A.dv f.1 now).1≠0∧(A.dv f.1 now).1≠6 then ((A.dv f.1 now).1,((A.dv f.1 now).2.dw f.1.aI f.1.seq f.1.bz).2) else A.dv f.1 now:=by unfold aK.gV;rw[if_pos h1]
 refine aj ?_
 refine VG (VO.split 18 Z Z (fun h2=>?_) (fun h2=>?_))
 ·have h2:(A.dv f.1 now).1≠0:=by simpa using h2
  refine VG (VN (VC.dd Z (fun h3=>?_) (fun h3=>CK ?_)))
  ·have e:A.gV f.1 now=((A.dv f.1 now).1,((A.dv f.1 now).2.dw f.1.aI f.1.seq f.1.bz).2):=by rw[e0,if_pos ⟨h2,h3⟩]
   refine aj ?_
   refine VG (VQ 1 (ψ:=fun v H=>H=bb p ((A.dv f.1 now).2.dw f.1.aI f.1.seq f.1.bz).2) Z (fun Fr w _ _ _=>yH Fr w p _ _ _ _) Z (fun v L1 h=>⟨_,h.2,Z⟩) ?_)
   rintro _ _ rfl
   refine aj ?_
   exact EY
  ·have e:A.gV f.1 now=A.dv f.1 now:=by rw[e0,if_neg (fun x=>x.2 h3)]
   refine aj ?_
   exact EY
 ·have h2:(A.dv f.1 now).1=0:=by simpa using h2
  have e:A.gV f.1 now=A.dv f.1 now:=by rw[e0,if_neg (fun x=>x.1 h2)]
  refine pT ?_
  exact EY
end Adm
namespace Sched
open Go Vg T Api
def de(S:aH):aA×Bool×aH:=match S.mI with
 | some r=>(r.1,true,r.2)
 | none=>(aA.zero,false,S)
theorem RS{p:Nat}{S:aH}{v:Value}{L:List HP}(h:rX p S v L):∃H,L=[H]∧(∃m,v=.tuple #[.agg (aS ((de S).1,m)).toArray,.bool (de S).2.1])∧H=fh p (de S).2.2:=by
 unfold rX at h;unfold de
 cases hp:S.mI with
 | none=>rw[hp] at h;exact⟨_,h.2,⟨(none,0,0),h.1⟩,rfl⟩
 | some r=>rw[hp] at h;exact⟨_,h.2,h.1,rfl⟩
theorem DU{S:aH}(h:S.Wf):(de S).2.2.Wf:=by
 unfold de
 cases hp:S.mI with
 | none=>exact h
 | some r=>obtain⟨f,S1⟩:=r;obtain⟨_,_,_,_,_,hw⟩:=DS h hp;exact hw
theorem RQ{S:aH}(h:S.Wf):(de S).2.2.cls.length=S.cls.length:=by
 unfold de
 cases hp:S.mI with
 | none=>rfl
 | some r=>
  obtain⟨f,S1⟩:=r
  obtain⟨_,_,_,h2,_,_⟩:=DS h hp
  have:=congrArg List.length h2
  simpa[aH.qs] using this
theorem zZ{S:aH}(h:S.Wf)(ho:(de S).2.1=true):∃k q,S.qs[k]?=some ((de S).1::q)∧(de S).2.2.qs=S.qs.set k q:=by
 unfold de at ho ⊢
 cases hp:S.mI with
 | none=>rw[hp] at ho;cases ho
 | some r=>
  obtain⟨f,S1⟩:=r
  obtain⟨k,q,h1,h2,_,_⟩:=DS h hp
  exact⟨k,q,h1,h2⟩
theorem RR{S:aH}(h:S.Wf)(ho:(de S).2.1=false):S.idle=true∧(de S).2.2=S:=by
 unfold de at ho ⊢
 cases hp:S.mI with
 | none=>exact⟨RP h hp,rfl⟩
 | some r=>rw[hp] at ho;cases ho
end Sched
namespace Adm
open Go Vg T Api Sched Conf
attribute [local irreducible] VO VC VA
def kQ(n:Int)(f:aA):Prop:=(0≤f.aI∧f.aI<n)∧ji f.seq=true∧ji f.bz=true
def aK.Calls(A:aK):Prop:=∀q∈A.aO.qs,∀f∈q,kQ A.bt f
def aK.out(A:aK)(f:aA):aK:=(A.fI f.aI 0).hZ f.aI f.seq f.bz
def aK.n_(A:aK)(l:List aA):aK:=l.foldl aK.out A
def aK.fa(A:aK)(now:Int):aK:=(A.ea (A.aO.iI now)).n_ (A.aO.cY now)
theorem aK.Wf.out{A:aK}(h:A.Wf)(f:aA):(A.out f).Wf:=(h.fI _ _).hZ _ _ _
theorem BU(A:aK)(k s t:Int):(A.hZ k s t).bt=A.bt:=by unfold aK.hZ;split<;>rfl
theorem Gl(A:aK)(k s t:Int):(A.hZ k s t).aO=A.aO:=by unfold aK.hZ;split<;>rfl
theorem Rz(A:aK)(f:aA):(A.out f).bt=A.bt:=by rw[aK.out,BU];rfl
theorem RB(A:aK)(f:aA):(A.out f).aO=A.aO:=by rw[aK.out,Gl];rfl
theorem Cu:∀(l:List aA) {A:aK},A.Wf→(A.n_ l).Wf∧(A.n_ l).bt=A.bt∧(A.n_ l).aO=A.aO
 | [],A,h=>⟨h,rfl,rfl⟩
 | f::l,A,h=>by
  have:=Cu l (h.out f)
  rw[Rz,RB] at this
  exact this
theorem OK(A:aK)(l:List aA)(f:aA):A.n_ (l ++ [f])=(A.n_ l).out f:=by simp[aK.n_]
theorem OL(S:aH)(now:Int):(S.iI now).cls.length=S.cls.length:=by simp[aH.iI]
theorem rE{A:aK}(h:A.Wf)(now:Int):(A.fa now).Wf∧(A.fa now).bt=A.bt∧(A.fa now).aO=A.aO.iI now:=
 Cu _ (h.ea (Hr h.aO now))
theorem CU{A:aK}(hc:A.Calls)(now:Int):∀f∈A.aO.cY now,kQ A.bt f:=fun f hf=>by
 rw[Pj] at hf
 obtain⟨q,hq,hf⟩:=List.mem_flatMap.1 hf
 exact hc q hq f (gL.1 hf).1
theorem Nb{A:aK}{f:aA}(h:kQ A.bt f):(A.dw f.aI f.seq f.bz)=(0,A.hZ f.aI f.seq f.bz):=by
 have h1:A.has f.aI=true:=by simp[aK.has,h.1]
 simp[aK.dw,h1,h.2.1,h.2.2]
theorem MT{A:aK}(now:Int)(sp:Nat):eE A sp=eE (A.ea (A.aO.iI now)) sp:=by
 simp only[eE,aK.ea,OL]
def CT(p:Nat)(A:aK)(gs:List aA)(v:Value)(L:List HP):Prop:=∃r:RL FM,r.Ok aS 29∧r.xs.map Prod.fst=gs∧v=r.v∧L=[r.h 353,bb p A]
theorem ub(p:Nat)(A:aK)(now:Int)(hC:A.Calls):aq Tryz.prog 332 [.pointer (some ⟨p,0,none⟩),.int .i64 now] Fr w [bb p A] (CT p (A.fa now) (A.aO.cY now)):=by
 refine TF 36 Tryz.func332 Z ym aw Z Z ?_
 refine VC.bu 0 Z (aY.aM p A) fun sp h=>?_
 refine CN (L':=nU p A sp) (aa.of_eq (bA _)).ah ?_
 have hwf:=h.ea (Hr h.aO now)
 refine ku ?_
 refine VC.meet (σ:=RL FM) (fun r=>[(0,pV p),(5,r.v)]) (fun r=>[r.h 353,bb p (A.ea (A.aO.iI now))]) (fun r=>r.Ok aS 29∧r.xs.map Prod.fst=A.aO.cY now) ?_ ?_
 ·refine aj ?_
  refine VO.ah (L':=[fh sp A.aO,pt p (eE A sp) 225]) (aa.perm (List.Perm.swap _ _ _)).ah ?_
  refine VG (VK (Lc:=[fh sp A.aO]) (fun Fr w _ _ _=>Sched.ub Fr w sp A.aO now) Z Z ?_)
  rintro _ _ ⟨a,c,gs,hgs,rfl,rfl⟩
  refine VO.bu 1 Z (aY.rl _ a c gs sI) fun r ⟨hok,hv,hx⟩=>?_
  refine VG (VN ⟨r,⟨hok,by rw[hx,hgs]⟩,SC Z (SC (by rw[hv];rfl) (SN _)),?_⟩)
  refine(aa.cons (nV sp hwf ?_)).ah
  show aa [fh sp (A.aO.iI now),pt p (eE A sp) 225] _
  rw[MT now sp]
  exact aa.perm (List.Perm.swap _ _ _)
 rintro r ⟨hok,hgs⟩
 have hgok:=CU hC now
 have hfew:=h.aO.Cw A.aO.cls.length now
 rw[jR] at hfew
 have hl:r.xs.length≤64:=by
  have:=congrArg List.length hgs
  rw[dW] at this
  rw[this];exact hfew
 refine aj ?_
 refine VC.loop (σ:=Nat) (fun i=>[(0,pV p),(5,r.v),(14,r.v),(15,.int .i64 r.xs.length),(16,.int .i64 i)]) (fun i=>[r.h 353,bb p ((A.ea (A.aO.iI now)).n_ ((A.aO.cY now).take i))]) (fun i=>i≤r.xs.length) (fun i=>r.xs.length-i) 0 (bK _) aF ER ?_
 intro i hi
 refine aj ?_
 refine CP Z (fun h1=>CK ?_) (fun h1=>CX ?_)
 ·have hi2:i<r.xs.length:=by omega
  obtain⟨⟨f,m⟩,hx⟩:∃x,r.xs[i]?=some x:=⟨_,GE hi2⟩
  obtain⟨bk,off,hbk,had,hrow⟩:=hok.nth hx
  have hg:(A.aO.cY now)[i]?=some f:=by rw[←hgs,dH,hx];rfl
  have hf:=hgok f (ME hg)
  have htake:(A.aO.cY now).take (i+1)=(A.aO.cY now).take i ++ [f]:=by rw[fS,hg];rfl
  obtain⟨hAwf,hAc,hAs⟩:=Cu ((A.aO.cY now).take i) hwf
  have hnext:(A.ea (A.aO.iI now)).n_ ((A.aO.cY now).take (i+1))=((A.ea (A.aO.iI now)).n_ ((A.aO.cY now).take i)).out f:=by rw[htake,OK]
  generalize hB:(A.ea (A.aO.iI now)).n_ ((A.aO.cY now).take i)=B at hAwf hAc hAs ⊢
  have hBc:B.bt=A.bt:=hAc
  obtain⟨n,hcl⟩:=sj hf.1.1
  have hn:n<6:=by have:=hf.1.2;have:=h.c1;omega
  have hv:r.v=.slice (some ⟨bk,off,none⟩) r.xs.length r.cap:=by rw[RL.v,had]
  have hv':some r.v=some (.slice (some ⟨bk,off,none⟩) r.xs.length r.cap):=by rw[hv]
  refine VC.bu 1 Z (aY.aM p B) fun sp2 h2=>?_
  refine CN (L':=pt p (eE B sp2) 225::fh sp2 B.aO::r.h 353 :: []) ER ?_
  rw[RL.HG hbk]
  refine CS (VC.block ?_)
  refine CS (CG ?_)
  refine VG (VI (dU i hv' Z Z Z Z Z hi2) ?_)
  refine VG (VO.load Z Z (v:=.agg (aS (f,m)).toArray) (an.many 2 Z hrow) ?_)
  refine VG (VO.alloc Z fun b7=>VG (VT (vs:=aS (f,m)) (cs':=aS (f,m)) 0 Z Z Z Z (NR _) Z Z Z (VG (VN ?_))))
  refine AS ?_
  refine bg ?_
  refine A1 ?_
  refine AG (VA.st 1 Z Z Z Z Z (by rw[BP h2];show 0+15+n*1<21;omega) (cs':=eE (B.fI n 0) sp2) (EC h2 hn 0) Z yv (AG (AN ?_)))
  refine CG ?_
  refine VO.ah (L':=[pt b7 (aS (f,m)) 353,bb p (B.fI n 0),pt bk r.cells 353]) (aa.cons (aa.trans (aa.perm (hU (l₁:=[_,_]) (l₂:=[_]))) (aa.trans (aa.cons (nV sp2 (h2.fI n 0) aa.refl)) (aa.perm (List.Perm.swap _ _ _))))).ah ?_
  refine VG (VO.ld 0 Z Z Z Z (VG (VO.ld 0 Z Z Z Z (VG (VO.ld 0 Z Z Z Z ?_)))))
  refine VG (VQ 1 (ψ:=fun v H=>H=bb p (B.out f)) Z (fun Fr w _ _ _=>yH Fr w p (B.fI n 0) _ _ _) Z (fun v L1 h=>⟨_,h.2,?_⟩) ?_)
  ·have e:B.fI n 0=B.fI f.aI 0:=by rw[hcl]
   have:=Nb (A:=B.fI f.aI 0) (f:=f) (by show kQ B.bt f;rw[hBc];exact hf)
   rw[e]
   show bb p ((B.fI f.aI 0).dw f.aI f.seq f.bz).2=_
   rw[this];rfl
  rintro _ _ rfl
  refine jr ?_
  refine gG ?_
  refine⟨i+1,hi2,by dsimp only;omega,aF,?_⟩
  dsimp only
  rw[hnext,hB]
  exact(aa.trans aa.tl (aa.perm (List.Perm.swap _ _ _))).ah
 ·have hi2:i=r.xs.length:=by omega
  subst hi2
  have e:(A.aO.cY now).take r.xs.length=A.aO.cY now:=by rw[p4];rw[←hgs];simp
  rw[e]
  refine aj ?_
  exact CR (al.tmp 4 Z Z ER ⟨r,hok,hgs,Z,Z⟩)
def aK.dK(A:aK)(now:Int):aK:=
 if (de (A.fa now).aO).2.1 then ((A.fa now).ea (de (A.fa now).aO).2.2).fI (de (A.fa now).aO).1.aI 0 else (A.fa now).ea (de (A.fa now).aO).2.2
theorem yY{A:aK}(h:A.Wf)(hC:A.Calls)(now:Int):(A.fa now).Calls:=by
 obtain⟨_,h2,h3⟩:=rE h now
 intro q hq f hf
 rw[h3,Hq] at hq
 obtain⟨q0,hq0,rfl⟩:=eC.1 hq
 rw[h2]
 exact hC q0 hq0 f (gL.1 hf).1
theorem MU{A:aK}{S:aH}(hl:S.cls.length=A.aO.cls.length)(sp:Nat):eE A sp=eE (A.ea S) sp:=by
 simp only[eE,aK.ea,hl]
theorem Re{A:aK}(h:A.Wf)(now:Int):(A.dK now).Wf:=by
 obtain⟨h1,_,_⟩:=rE h now
 unfold aK.dK
 split
 ·exact(h1.ea (DU h1.aO)).fI _ _
 ·exact h1.ea (DU h1.aO)
def IS(p:Nat)(A:aK)(now:Int)(v:Value)(L:List HP):Prop:=∃(r:RL FM) (m:vy),r.Ok aS 29∧r.xs.map Prod.fst=A.aO.cY now∧v=.tuple #[.agg (aS ((de (A.fa now).aO).1,m)).toArray,.bool (de (A.fa now).aO).2.1,r.v]∧L=[r.h 353,bb p (A.dK now)]
theorem qx(p:Nat)(A:aK)(now:Int)(hw:A.Wf)(hC:A.Calls):aq Tryz.prog 282 [.pointer (some ⟨p,0,none⟩),.int .i64 now] Fr w [bb p A] (IS p A now):=by
 refine TF 31 Tryz.func282 Z ym aw Z Z ?_
 refine CS (CG (VG (VO.alloc Z fun b=>VG (VN ?_))))
 refine aj ?_
 refine VG (VV (u:=.bool false) (fun Fr w hF _ hs=>by
  obtain⟨sp,h⟩:=tN.of (hs.at_ 1 rfl)
  exact eZ Fr w h.x_) Z (VG (VN (VC.kG Z (CK ?_)))))
 refine aj ?_
 refine VO.ah (L':=[bb p A,pt b (aS d_) 353]) (aa.perm (List.Perm.swap _ _ _)).ah ?_
 refine VG (VK (Lc:=[bb p A]) (fun Fr w _ _ _=>ub Fr w p A now hC) Z Z ?_)
 rintro _ _ ⟨r,hok,hgs,rfl,rfl⟩
 obtain⟨hE,hEc,hEs⟩:=rE hw now
 have hEC:=yY hw hC now
 have hnext:A.dK now=if (de (A.fa now).aO).2.1 then ((A.fa now).ea (de (A.fa now).aO).2.2).fI (de (A.fa now).aO).1.aI 0 else (A.fa now).ea (de (A.fa now).aO).2.2:=rfl
 have hR:∀(m:vy),IS p A now (.tuple #[.agg (aS ((de (A.fa now).aO).1,m)).toArray,.bool (de (A.fa now).aO).2.1,r.v]) [r.h 353,bb p (A.dK now)]:=fun m=>⟨r,m,hok,hgs,rfl,rfl⟩
 rw[hnext] at hR
 clear hnext
 generalize A.fa now=B at hE hEc hEs hEC hR ⊢
 refine jr ?_
 refine VC.bu 1 Z (aY.aM p B) fun sp h=>?_
 refine CN (L':=[pt p (eE B sp) 225,fh sp B.aO,r.h 353,pt b (aS d_) 353]) ER ?_
 refine aj ?_
 refine VG (VQ 1 (ψ:=fun v H=>(∃m,v=.tuple #[.agg (aS ((de B.aO).1,m)).toArray,.bool (de B.aO).2.1])∧H=fh sp (de B.aO).2.2) Z (fun Fr w _ _ _=>Sched.RU Fr w sp B.aO h.aO) Z (fun v L1 h=>RS h) ?_)
 rintro _ _ ⟨⟨m,rfl⟩,rfl⟩
 refine VG (VT (vs:=aS ((de B.aO).1,m)) (cs':=aS ((de B.aO).1,m)) 3 Z Z Z Z (NR _) Z Z Z (VG (VN ?_)))
 have hS1:=DU h.aO
 have hwf:=h.ea hS1
 have hcs:=MU (RQ h.aO) sp
 refine aj ?_
 refine CC Z (fun h1=>?_) (fun h1=>CK ?_)
 ·obtain⟨k,q,hk,_⟩:=zZ h.aO h1
  have hf:kQ B.bt (de B.aO).1:=hEC _ (ME hk) _ yf
  obtain⟨n,hcl⟩:=sj hf.1.1
  have hn:n<6:=by have:=hf.1.2;have:=h.c1;omega
  rw[if_pos h1,hcl] at hR
  refine A0 ?_
  refine gi ?_
  refine A1 ?_
  refine AG (VA.st 0 Z Z Z Z Z L8 (cs':=eE ((B.ea (de B.aO).2.2).fI n 0) sp) (by rw[hcs];exact EC hwf hn 0) Z yv (AG (AN ?_)))
  refine CS (CG ?_)
  refine VG (VL 3 (aS ((de B.aO).1,m)) Z Z Z Z (VG (VT (vs:=aS ((de B.aO).1,m)) (cs':=aS ((de B.aO).1,m)) 3 Z Z Z Z (NR _) Z Z Z (VG (VN ?_)))))
  refine CR (al.GK 4 5 6 Z Z Z (an.many 3 Z Z) Z Z (L':=[r.h 353,bb p ((B.ea (de B.aO).2.2).fI n 0)]) ?_ (hR m))
  exact(IP 2 Z (nV sp (hwf.fI n 0) (aa.app (L:=[_,_]) (M:=[_,_]) aa.refl aa.nil))).ah
 ·rw[if_neg qS] at hR
  refine CS (CG ?_)
  refine VG (VL 3 (aS ((de B.aO).1,m)) Z Z Z Z (VG (VT (vs:=aS ((de B.aO).1,m)) (cs':=aS ((de B.aO).1,m)) 3 Z Z Z Z (NR _) Z Z Z (VG (VN ?_)))))
  refine CR (al.GK 4 5 6 Z Z Z (an.many 3 Z Z) Z Z (L':=[r.h 353,bb p (B.ea (de B.aO).2.2)]) ?_ (hR m))
  rw[hcs]
  exact(IP 2 Z (nV sp hwf (aa.app (L:=[_,_]) (M:=[_,_]) aa.refl aa.nil))).ah
theorem CJ(p:Nat)(A:aK)(hC:A.Calls):aq Tryz.prog 353 [.pointer (some ⟨p,0,none⟩)] Fr w [bb p A] (CT p (A.fa 9223372036854775807) (A.aO.cY 9223372036854775807)):=by
 refine TF 7 Tryz.func353 Z ym aw Z Z ?_
 refine aj ?_
 refine VG (VV (u:=.bool false) (fun Fr w hF _ hs=>by
  obtain⟨sp,h⟩:=tN.of (hs.at_ 0 rfl)
  exact eZ Fr w h.x_) Z (VG (VN (VC.kG Z (CK ?_)))))
 refine aj ?_
 refine VG (VK (Lc:=[bb p A]) (fun Fr w _ _ _=>ub Fr w p A _ hC) Z Z ?_)
 rintro _ _ ⟨r,hok,hgs,rfl,rfl⟩
 refine jr ?_
 exact CR (al.tmp 2 Z Z ER ⟨r,hok,hgs,Z,Z⟩)
end Adm
namespace Adm
open Go Vg T Api Sched Conf
attribute [local irreducible] VO VC VA
theorem Rr{A:aK}(h:A.Wf)(f:aA)(now:Int):(A.gV f now).2.Wf:=by
 unfold aK.gV
 repeat' split
 all_goals first | exact h | exact(h.dv f now).dw _ _ _ | exact h.dv f now
theorem M_(A:aK)(k s t:Int):(A.dw k s t).2.bt=A.bt:=by unfold aK.dw;split;exact BU _ _ _ _;rfl
theorem Na(A:aK)(k s t:Int):(A.dw k s t).2.aO=A.aO:=by unfold aK.dw;split;exact Gl _ _ _ _;rfl
theorem Kj(A:aK)(f:aA)(now:Int):(A.dv f now).2.bt=A.bt:=by
 unfold aK.dv
 repeat' split
 all_goals rfl
theorem Rq(A:aK)(f:aA)(now:Int):(A.gV f now).2.bt=A.bt:=by
 unfold aK.gV
 repeat' split
 all_goals first | rfl | (rw[M_];exact Kj A f now) | exact Kj A f now
theorem Yb(A:aK)(f:aA)(now:Int):(A.dv f now).2.aO=A.aO∨(A.dv f now).2.aO=(A.aO.eK f).2:=by
 unfold aK.dv
 repeat' split
 all_goals first | exact .inl rfl | exact .inr rfl
theorem QJ{A:aK}{f:aA}(h:A.may f=true):(∃k:Nat,f.cls=k∧k<A.aO.cls.length)∧c_ f.op=0:=by
 simp only[aK.may,dG,decide_eq_true_eq,beq_iff_eq] at h
 obtain⟨n,hn⟩:=sj h.1.1.1.1.1.2
 exact⟨⟨n,hn,by have:=h.1.1.1.1.2;omega⟩,h.1.2⟩
theorem R2{n:Int}{S:aH}{f:aA}(hC:∀q∈S.qs,∀g∈q,kQ n g)(hf:kQ n f){k:Nat}(hk:f.cls=k)(hlt:k<S.cls.length)(ho:c_ f.op=0):∀q∈(S.eK f).2.qs,∀g∈q,kQ n g:=by
 have hc:S.qs[k]?=some (S.cls[k].q):=by simp[aH.qs,GE hlt]
 obtain⟨_,h2,_⟩:=R4 hk hc ho
 rw[h2]
 split
 ·intro q hq g hg
  rcases lI hq with hq | rfl
  ·exact hC q hq g hg
  ·rcases fL.1 hg with hg | hg
   ·exact hC _ (ME hc) g hg
   ·obtain rfl:=mi.1 hg;exact hf
 ·exact hC
theorem Rp{A:aK}(hC:A.Calls)(f:aA)(now:Int):(A.gV f now).2.Calls:=by
 intro q hq g hg
 rw[Rq]
 have key:A.may f=true→∀q∈(A.dv f now).2.aO.qs,∀g∈q,kQ A.bt g:=fun hm=>by
  obtain⟨⟨k,hk,hlt⟩,ho⟩:=QJ hm
  obtain⟨h1,h2,h3⟩:=Iy hm
  rcases Yb A f now with e | e
  ·rw[e];exact hC
  ·rw[e];exact R2 hC ⟨of_decide_eq_true h1,h2,h3⟩ hk hlt ho
 unfold aK.gV at hq
 split at hq
 ·rename_i hm
  split at hq
  ·rw[Na] at hq;exact key hm q hq g hg
  ·exact key hm q hq g hg
 ·exact hC q hq g hg
theorem RV{n:Int}{S:aH}(h:S.Wf)(hC:∀q∈S.qs,∀g∈q,kQ n g):∀q∈(de S).2.2.qs,∀g∈q,kQ n g:=by
 cases ho:(de S).2.1 with
 | true=>
  obtain⟨k,q,h1,h2⟩:=zZ h ho
  rw[h2]
  intro q' hq' g hg
  rcases lI hq' with hq' | rfl
  ·exact hC q' hq' g hg
  ·exact hC _ (ME h1) g (lH _ hg)
 | false=>rw[(RR h ho).2];exact hC
theorem Rb{A:aK}(h:A.Wf)(hC:A.Calls)(now:Int):(A.dK now).Calls:=by
 obtain⟨h1,h2,h3⟩:=rE h now
 have:=RV h1.aO (yY h hC now)
 unfold aK.dK
 split<;>exact this
theorem Q8(c:bn):(oh c).Calls:=by
 intro q hq g hg
 simp only[oh,aH.qs,aH.new,lG,eC] at hq
 obtain⟨x,_,rfl⟩:=hq
 simp[mX] at hg
end Adm
namespace Rep
open Go Vg T Api Kv Ch Lg Rd Win Adm
attribute [local irreducible] VO VC VA
abbrev bU:=Int×aA
def jh:gM:=(none,0,0)
def pE(s:bU):List Value:=.int .i64 s.1::bW s.2 jh
abbrev e8:TypeId:=355
abbrev zQ:TypeId:=362
abbrev cy:TypeId:=147
def uA(b:Nat)(S:List bU)(x:Option Addr×Nat):List HP:=[pt b [.slice x.1 S.length x.2] zQ,av e8 30 x.1 S.length x.2 (flat pE S)]
def aT(b:Nat)(S:List bU):HP:=hex fun x=>b_ (uA b S x)
theorem aY.out(b:Nat)(S:List bU):aY (ι:=Option Addr×Nat) (aT b S) (fun _=>True) (fun x=>uA b S x):=fun w ids ⟨x,h⟩ hn=>⟨x,trivial,ids,h,hn,fun _ h=>h⟩
theorem aa.out{b:Nat}{S:List bU}{L M:List HP}(x:Option Addr×Nat)(h:aa L (uA b S x++M)):aa L (aT b S::M):=
 aa.ex (f:=fun x=>b_ (uA b S x)) x (aa.sep (Ls:=uA b S x) h)
def dk(b:Nat):Value:=ba 232 [.pointer (some ⟨b,0,none⟩)] []
theorem qe(b:Nat)(S:List bU)(hS:S.length≤1000000)(to_:Int)(f:aA):aq Tryz.prog 232 [.pointer (some ⟨b,0,none⟩),.int .i64 to_,.agg (bW f jh).toArray] Fr w [aT b S] (fun v L=>v=.tuple #[]∧L=[aT b (S ++ [(to_,f)])]):=by
 refine TF 18 Tryz.func232 Z ym aw Z Z ?_
 refine CS (CG (VG (VB (vs:=bW f jh) Z fun fb=>VG (VN ?_))))
 refine VC.bu 1 Z (aY.out b S) ?_
 rintro⟨a,c⟩ -
 show VC _ _ _ [pt b [.slice a S.length c] zQ,av e8 30 a S.length c (flat pE S),pt fb (bW f jh) bM] _
 refine CD (ts 0 8 (.only 8 (.only 9 (ts 10 2 (.only 12 .nil))))) ym yo ?_
 refine bg ?_
 refine AG (VA.cK 2 (bW f jh) Z Z Z Z Z ?_)
 refine AG (AI Z (LB (pv:=[(0,.int .i64 to_),(1,.agg (bW f jh).toArray)]) (pE (to_,f)) Z Z Z ym Z) ?_)
 refine AG (AO (aG.buildSlice (n:=1) (pv:=[(0,.agg (pE (to_,f)).toArray)]) (cells:=pE (to_,f)) Z Z Z Z yn (fN Z Z Z)) Z ?_ ?_)
 ·rintro _ _ ⟨nb,rfl,rfl⟩
  exact yv
 rintro _ _ ⟨nb,rfl,rfl⟩
 refine AG (AO (aG.append (m:=1) (news:=pE (to_,f)) 2 Z Z Z Z Z Z Z (dN.pt 0 Z Z Z) Z (wZ (k:=1000001) yd yn) yd) Z ?_ ?_)
 ·rintro _ _ ⟨a1,c1,rfl,hc1,rfl⟩
  exact yv
 rintro _ _ ⟨a1,c1,rfl,hc1,rfl⟩
 refine gi ?_
 refine AG (VA.st 2 (cs':=[.slice a1 (S.length+1) c1]) Z Z Z Z Z (fB Z) Z Z yv ?_)
 refine gi ?_
 refine al.void Z (aa.out (S:=S ++ [(to_,f)]) (a1,c1) ?_).ah ⟨rfl,Z⟩
 unfold uA
 rw[a_,ik,ki,qk,bA]
 exact(aZ [2,0])
structure az where
 id:Int
 bt:Int
 cap:Int
 jG:Int
 ch:aW
 since:Int
 whole:Bool
 log:List bS
 win:bE
 aM:aK
 aL:ee
 start:Int
 base:Int
 linked:Bool
 dp:Int
structure kY where
 a:Option Addr
 c:Nat
 lp:Nat
 wp:Nat
 ap:Nat
 rp:Nat
def bh(R:az)(x:kY):List Value:=[.int .i64 R.id,.int .i64 R.bt,.int .i64 R.cap,.int .i64 R.jG,.int .i64 R.ch.aB,.slice x.a R.ch.ms.length x.c,.int .i64 R.ch.drain,.int .i64 R.since,.bool R.whole,
 .pointer (some ⟨x.lp,0,none⟩),.pointer (some ⟨x.wp,0,none⟩),.pointer (some ⟨x.ap,0,none⟩),.pointer (some ⟨x.rp,0,none⟩),.int .i64 R.start,.int .i64 R.base,.bool R.linked,.int .i64 R.dp]
def s9(p:Nat)(R:az)(x:kY):List HP:=[pt p (bh R x) cy,av aN 2 x.a R.ch.ms.length x.c (flat aC R.ch.ms),bw x.lp R.log,bq x.wp R.win,bb x.ap R.aM,br x.rp R.aL]
def bd(p:Nat)(R:az):HP:=hex fun x=>b_ (s9 p R x)
theorem aY.rep(p:Nat)(R:az):aY (ι:=kY) (bd p R) (fun _=>True) (fun x=>s9 p R x):=fun w ids ⟨x,h⟩ hn=>⟨x,trivial,ids,h,hn,fun _ h=>h⟩
theorem aa.rep{p:Nat}{R:az}{L M:List HP}(x:kY)(h:aa L (s9 p R x++M)):aa L (bd p R::M):=
 aa.ex (f:=fun x=>b_ (s9 p R x)) x (aa.sep (Ls:=s9 p R x) h)
structure fM(Fr:Nat→Prop)(w:World)(p:Nat)(R:az)(x:kY):Prop where
 ar:a7 Fr w p (bh R x)
 mem:aP aC 2 Fr w x.a R.ch.ms
 log:aV Fr [bw x.lp R.log] w
 win:a7 Fr w x.wp R.win.cells
 aM:aV Fr [bb x.ap R.aM] w
 aL:aV Fr [br x.rp R.aL] w
theorem fM.mG{Fr:Nat→Prop}{w:World}{L:List HP}{p:Nat}{R:az}{x:kY}(h:aV Fr L w)(i:Nat)(h0:L[i]?=some (pt p (bh R x) cy))(h1:L[i+1]?=some (av aN 2 x.a R.ch.ms.length x.c (flat aC R.ch.ms)))
  (h2:L[i+2]?=some (bw x.lp R.log)) (h3:L[i+3]?=some (bq x.wp R.win)) (h4:L[i+4]?=some (bb x.ap R.aM)) (h5:L[i+5]?=some (br x.rp R.aL)):fM Fr w p R x:=
 ⟨h.ar i h0,aP.av cj (h.at_ _ h1),h.at_ _ h2,h.ar _ h3,h.at_ _ h4,h.at_ _ h5⟩
theorem fM.zM{Fr:Nat→Prop}{w:World}{p:Nat}{R:az}(h:aV Fr [bd p R] w):∃x,fM Fr w p R x:=by
 obtain⟨x,h⟩:=h.ex
 exact⟨x,fM.mG h.sep 0 Z Z Z Z Z Z⟩
theorem fM.of{X:Cx}{p:Nat}{R:az}{x:kY}(h:fM X.Fr X.w0 p R x){Fr':Nat→Prop}{w:World}{L:List HP}(hF:∀b,X.Fr b→Fr' b)(hs:St X L w):fM Fr' w p R x:=
 ⟨h.ar.of hF hs,aP.of h.mem hF hs,h.log.of hF hs,h.win.of hF hs,h.aM.of hF hs,h.aL.of hF hs⟩
structure jU(c:aW):Prop where
 len:c.ms.length≤1000
section
variable {p:Nat} {R:az} {x:kY} {b:Nat} {S:List bU}
theorem wz(h:a7 Fr w p (bh R x)):aq Tryz.prog 105 [.pointer (some ⟨p,0,none⟩)] Fr w [] (fun v L=>v=.bool true∧L=[]):=by
 refine TF 12 Tryz.func105 Z ym aw Z Z ?_
 refine aj ?_
 refine VG (VO.split 5 rfl rfl (fun _=>?_) (fun h=>by cases h))
 refine me ?_
 exact uW
def az.ql(R:az):Bool:=decide (0<R.since)
theorem HL(h:a7 Fr w p (bh R x)):aq Tryz.prog 279 [.pointer (some ⟨p,0,none⟩)] Fr w [] (fun v L=>v=.bool R.ql∧L=[]):=by
 refine TF 8 Tryz.func279 Z ym aw Z Z ?_
 refine me ?_
 exact uW
def az.im(R:az)(f:aA):Bool:=f.aB == R.ch.aB
theorem HS(h:a7 Fr w p (bh R x))(f:aA)(m:gM):aq Tryz.prog 308 [.pointer (some ⟨p,0,none⟩),.agg (bW f m).toArray] Fr w [] (fun v L=>v=.bool (R.im f)∧L=[]):=by
 refine TF 13 Tryz.func308 Z ym aw Z Z ?_
 refine CS (CG (VG (VB (vs:=bW f m) Z fun fb=>VG (VN ?_))))
 refine CS (CD (ts 0 9 .nil) ym yo ?_)
 refine A3 ?_
 exact CR (al.bool 4 Z Z Z aa.nil.ah ⟨rfl,Z⟩)
def qn(from_ nb:Int):Bool:=decide (0≤nb)&&(from_ == nb)
theorem C3(f n:Int):aq Tryz.prog 309 [.int .i64 f,.int .i64 n] Fr w [] (fun v L=>v=.bool (qn f n)∧L=[]):=by
 refine TF 12 Tryz.func309 Z ym aw Z Z ?_
 refine aj ?_
 by_cases h1:0≤n
 ·refine VG (VY 7 true Z (DT h1) ?_)
  refine bF ?_
  exact CR (al.bool 4 Z Z (by rw[qn,DT h1];rfl) ER ⟨rfl,Z⟩)
 ·refine VG (VY 7 false Z (DF h1) ?_)
  refine bF ?_
  exact CR (al.bool 4 Z Z (by rw[qn,DF h1];rfl) ER ⟨rfl,Z⟩)
def az.ny(R:az):Int:=Ja R.ch R.id
def az.dK(R:az):Int:=zI R.ch R.id
theorem Aa(h:a7 Fr w p (bh R x))(hm:aP aC 2 Fr w x.a R.ch.ms)(hc:jU R.ch):aq Tryz.prog 310 [.pointer (some ⟨p,0,none⟩)] Fr w [] (fun v L=>v=.int .i64 R.ny∧L=[]):=by
 have hcl:=hc.len
 refine TF 12 Tryz.func310 Z ym aw Z Z ?_
 refine ku ?_
 refine CS (CD (ts 0 8 (.only 8 (.take 9 .nil))) ym yo ?_)
 refine pJ ?_
 refine A4 ?_
 refine pJ ?_
 refine AG (AR (fun Fr w hF hs hS=>Ch.Aa Fr w (hm.of hF hs) yd R.id) Z Z Bw ?_)
 refine bg ?_
 exact jQ
theorem qx(h:a7 Fr w p (bh R x))(hm:aP aC 2 Fr w x.a R.ch.ms)(hc:jU R.ch):aq Tryz.prog 287 [.pointer (some ⟨p,0,none⟩)] Fr w [] (fun v L=>v=.int .i64 R.dK∧L=[]):=by
 have hcl:=hc.len
 refine TF 12 Tryz.func287 Z ym aw Z Z ?_
 refine ku ?_
 refine CS (CD (ts 0 8 (.only 8 (.take 9 .nil))) ym yo ?_)
 refine pJ ?_
 refine A4 ?_
 refine pJ ?_
 refine AG (AR (fun Fr w hF hs hS=>Ch.qx Fr w (hm.of hF hs) yd R.id) Z Z Bw ?_)
 refine bg ?_
 exact jQ
def az.sJ(R:az):Bool:=R.ql&&(ug R.ch == R.id)
def az.tk(R:az):Bool:=R.ql&&(tm R.ch == R.id)
def az.gP(R:az):Bool:=R.ql&&(R.ch.drain == R.id)
theorem v7(h:a7 Fr w p (bh R x))(hm:aP aC 2 Fr w x.a R.ch.ms)(hc:jU R.ch):aq Tryz.prog 235 [.pointer (some ⟨p,0,none⟩)] Fr w [] (fun v L=>v=.bool R.sJ∧L=[]):=by
 have hcl:=hc.len
 refine TF 17 Tryz.func235 Z ym aw Z Z ?_
 refine ku ?_
 refine KV ?_
 refine EZ ?_
 refine bg ?_
 cases hi:R.ql with
 | true=>
  refine AG (AY 5 true Z Z ?_)
  refine r8 ?_
  refine A4 ?_
  refine r8 ?_
  refine AG (AR (fun Fr w hF hs hS=>Ch.v7 Fr w (hm.of hF hs) yd) Z Z Bw ?_)
  refine dF ?_
  exact CR (al.bool 2 Z Z (by rw[az.sJ,hi];rfl) ER ⟨rfl,Z⟩)
 | false=>
  refine AG (AY 5 false Z Z ?_)
  refine r8 ?_
  refine BB ?_
  exact CR (al.bool 2 Z Z (by rw[az.sJ,hi];rfl) ER ⟨rfl,Z⟩)
theorem w7(h:a7 Fr w p (bh R x))(hm:aP aC 2 Fr w x.a R.ch.ms)(hc:jU R.ch):aq Tryz.prog 337 [.pointer (some ⟨p,0,none⟩)] Fr w [] (fun v L=>v=.bool R.tk∧L=[]):=by
 have hcl:=hc.len
 refine TF 17 Tryz.func337 Z ym aw Z Z ?_
 refine ku ?_
 refine KV ?_
 refine EZ ?_
 refine bg ?_
 cases hi:R.ql with
 | true=>
  refine AG (AY 5 true Z Z ?_)
  refine r8 ?_
  refine A4 ?_
  refine r8 ?_
  refine AG (AR (fun Fr w hF hs hS=>Ch.w7 Fr w (hm.of hF hs) yd) Z Z Bw ?_)
  refine dF ?_
  exact CR (al.bool 2 Z Z (by rw[az.tk,hi];rfl) ER ⟨rfl,Z⟩)
 | false=>
  refine AG (AY 5 false Z Z ?_)
  refine r8 ?_
  refine BB ?_
  exact CR (al.bool 2 Z Z (by rw[az.tk,hi];rfl) ER ⟨rfl,Z⟩)
theorem yR(h:a7 Fr w p (bh R x)):aq Tryz.prog 236 [.pointer (some ⟨p,0,none⟩)] Fr w [] (fun v L=>v=.bool R.gP∧L=[]):=by
 refine TF 17 Tryz.func236 Z ym aw Z Z ?_
 refine ku ?_
 refine CS (CD (.take 0 (.only 1 (ts 2 13 .nil))) ym yo ?_)
 refine EZ ?_
 refine bg ?_
 cases hi:R.ql with
 | true=>
  refine AG (AY 5 true Z Z ?_)
  refine r8 ?_
  exact CR (al.bool 2 Z Z (by rw[az.gP,hi];rfl) ER ⟨rfl,Z⟩)
 | false=>
  refine AG (AY 5 false Z Z ?_)
  refine r8 ?_
  exact CR (al.bool 2 Z Z (by rw[az.gP,hi];rfl) ER ⟨rfl,Z⟩)
end
end Rep
namespace Rep
open Go Vg T Api Kv Ch Lg Rd Win Adm
attribute [local irreducible] VO VC VA
def mJ(aI seq bz:Int)(r:fV):aA:={ aA.zero with kind:=2,aI:=aI,seq:=seq,bz:=bz,res:=r }
def gA(aB:Int)(f:aA)(reason:Int):aA:={ aA.zero with kind:=3,aB:=aB,aI:=f.aI,seq:=f.seq,bz:=f.bz,reason:=reason }
def xU(aB i g h:Int):aA:={ aA.zero with kind:=5,aB:=aB,index:=i,rL:=g,dp:=h }
def yI(aB i:Int):aA:={ aA.zero with kind:=6,aB:=aB,index:=i }
def sy(aB i:Int):aA:={ aA.zero with kind:=11,aB:=aB,index:=i }
section
variable {p:Nat} {R:az} {x:kY} {b:Nat} {S:List bU}
theorem D8(hS:S.length≤1000000)(aI seq bz:Int)(hc0:0≤aI)(hc1:aI≤1000000)(r:fV):aq Tryz.prog 315 [.int .i64 aI,.int .i64 seq,.int .i64 bz,.agg (a8 r).toArray,dk b] Fr w [aT b S]
  (fun v L=>v=.tuple #[]∧L=[aT b (S ++ [(32+aI,mJ aI seq bz r)])]):=by
 refine TF 19 Tryz.func315 Z ym aw Z Z ?_
 refine CS (CG (VG (VB (vs:=a8 r) Z fun rb=>?_)))
 refine vb ?_
 refine VG (VL 0 (a8 r) Z Z Z Z ?_)
 refine VG (VI (LB (pv:=[(0,.int .i64 2),(2,.int .i64 aI),(3,.int .i64 seq),(4,.int .i64 bz),(8,.agg (a8 r).toArray)]) (bW (mJ aI seq bz r) jh) Z Z Z ym Z) ?_)
 refine VG (VO.kF 1 Z Z (fun Fr w hF hs _=>qe Fr w b S hS (32+aI) (mJ aI seq bz r)) Z (ψ:=fun v H=>v=.tuple #[]∧H=aT b (S ++ [(32+aI,mJ aI seq bz r)])) yz ?_)
 rintro _ _ ⟨rfl,rfl⟩
 refine aj ?_
 exact E0
theorem s8(h:a7 Fr w p (bh R x))(hS:S.length≤1000000)(f:aA)(m:gM)(hc0:0≤f.aI)(hc1:f.aI≤1000000)(reason:Int):aq Tryz.prog 234 [.pointer (some ⟨p,0,none⟩),.agg (bW f m).toArray,.int .i64 reason,dk b] Fr w [aT b S]
  (fun v L=>v=.tuple #[]∧L=[aT b (S ++ [(32+f.aI,gA R.ch.aB f reason)])]):=by
 refine TF 26 Tryz.func234 Z ym aw Z Z ?_
 refine CS (CG (VG (VB (vs:=bW f m) Z fun fb=>VG (VN ?_))))
 refine CD (ts 0 17 (.only 17 .nil)) ym yo ?_
 refine A3 ?_
 refine pK ?_
 refine A3 ?_
 refine AG (AI Z (LB (pv:=[(0,.int .i64 3),(1,.int .i64 R.ch.aB),(2,.int .i64 f.aI),(3,.int .i64 f.seq),(4,.int .i64 f.bz),(9,.int .i64 reason)]) (bW (gA R.ch.aB f reason) jh) Z Z Z ym Z) ?_)
 refine AG (VA.kF 1 Z Z (fun Fr w hF hs _=>qe Fr w b S hS (32+f.aI) (gA R.ch.aB f reason)) Z Z (ψ:=fun v H=>v=.tuple #[]∧H=aT b (S ++ [(32+f.aI,gA R.ch.aB f reason)])) yz ?_ ?_)
 ·rintro _ _ ⟨rfl,rfl⟩
  exact(by(try refine Pd.st ?_);(repeat(first|exact Pd.nil|exact Pd.fnil|refine Pd.inner ?_|refine Pd.skip yo ?_|refine zf (zo 0 Z Z) ?_|refine zf (zm 0 Z Z) ?_|refine zf (an.ar (an.ar h Z) Z) ?_|refine zf ((an.ar h Z)) ?_|refine zc (zo 0 Z Z) ?_|refine zc (zm 0 Z Z) ?_|refine zc (an.ar (an.ar h Z) Z) ?_|refine zc ((an.ar h Z)) ?_)))
 rintro _ _ ⟨rfl,rfl⟩
 refine bg ?_
 exact E0
def az.fO(R:az):List bU:=if R.ny<0 then [] else [(R.ny,xU R.ch.aB R.win.done (if R.gP then R.win.last else R.win.done+R.win.cap) R.win.last)]
theorem zj(h:fM Fr w p R x)(hc:jU R.ch)(hw:R.win.Ok)(hS:S.length≤1000000):aq Tryz.prog 290 [.pointer (some ⟨p,0,none⟩),dk b] Fr w [aT b S] (fun v L=>v=.tuple #[]∧L=[aT b (S++R.fO)]):=by
 have hb:=h.ar
 have w0:=hw.dh
 refine TF 42 Tryz.func290 Z ym aw Z Z ?_
 refine aj ?_
 refine VG (VV (fun Fr w hF hs _=>Rep.Aa Fr w (h.of hF hs).ar (h.of hF hs).mem hc) Z ?_)
 refine aj ?_
 refine CP Z (fun h1=>?_) (fun h1=>CK ?_)
 ·exact CR (al.void Z ER ⟨rfl,by rw[az.fO,if_pos h1,bA]⟩)
 refine kS ?_
 refine VG (VV (fun Fr w hF hs _=>Win.zO Fr w (h.of hF hs).win hw) Z ?_)
 refine VG (VN (CS ?_))
 refine VC.cZ (σ:=Unit) (fun _=>[(0,pV p),(1,dk b),(4,.int .i64 R.ny),(5,.int .i64 (if R.gP then R.win.last else R.win.done+R.win.cap))]) (fun _=>[aT b S]) (fun _=>True) ?_ ?_
 ·refine aj ?_
  refine VG (VV (fun Fr w hF hs _=>yR Fr w (h.of hF hs).ar) Z ?_)
  refine aj ?_
  refine CC Z (fun hd=>?_) (fun hd=>CK ?_)
  ·refine kS ?_
   refine VG (VV (fun Fr w hF hs _=>Win.oe Fr w (h.of hF hs).win w0) Z ?_)
   refine aj ?_
   exact KW
  ·exact KW
 rintro _ -
 refine CD (ts 0 11 (ts 12 5 (.only 11 (.only 17 (.take 18 (.only 19 .nil)))))) ym yo ?_
 refine xi ?_
 refine AG (AR (fun Fr w hF hs hS=>Win.yQ Fr w (h.of hF hs).win w0) Z Z yy ?_)
 refine AG (AR (fun Fr w hF hs hS=>Win.oe Fr w (h.of hF hs).win w0) Z Z yy ?_)
 refine AG (AI Z (LB (pv:=[(0,.int .i64 5),(1,.int .i64 R.ch.aB),(12,.int .i64 R.win.done),(13,.int .i64 (if R.gP then R.win.last else R.win.done+R.win.cap)),(14,.int .i64 R.win.last)]) (bW (xU R.ch.aB R.win.done (if R.gP then R.win.last else R.win.done+R.win.cap) R.win.last) jh) Z Z Z ym Z) ?_)
 refine AG (VA.kF 0 Z Z (fun Fr w hF hs _=>qe Fr w b S hS R.ny (xU R.ch.aB R.win.done (if R.gP then R.win.last else R.win.done+R.win.cap) R.win.last)) Z Z (ψ:=fun v H=>v=.tuple #[]∧H=aT b (S ++ [(R.ny,xU R.ch.aB R.win.done (if R.gP then R.win.last else R.win.done+R.win.cap) R.win.last)])) yz ?_ ?_)
 ·rintro _ _ ⟨rfl,rfl⟩
  exact yy
 rintro _ _ ⟨rfl,rfl⟩
 refine bg ?_
 exact al.void Z ER ⟨rfl,by rw[az.fO,if_neg h1];rfl⟩
def az.iW(R:az):List bU:=if R.whole=true∧0≤R.dK then [(R.dK,yI R.ch.aB R.start)] else []
theorem Eo(h:fM Fr w p R x)(hc:jU R.ch)(hS:S.length≤1000000):aq Tryz.prog 291 [.pointer (some ⟨p,0,none⟩),dk b] Fr w [aT b S] (fun v L=>v=.tuple #[]∧L=[aT b (S++R.iW)]):=by
 have hb:=h.ar
 refine TF 28 Tryz.func291 Z ym aw Z Z ?_
 refine aj ?_
 refine VG (VV (fun Fr w hF hs _=>Rep.qx Fr w (h.of hF hs).ar (h.of hF hs).mem hc) Z ?_)
 refine kS ?_
 cases hwh:R.whole with
 | false=>
  refine VG (VY 11 false Z Z ?_)
  refine uZ ?_
  refine iQ ?_
  exact al.void Z ER ⟨rfl,by rw[az.iW,if_neg (by rw[hwh];simp),bA]⟩
 | true=>
  refine VG (VY 11 true Z Z ?_)
  refine uZ ?_
  refine CP Z (fun h1=>?_) (fun h1=>CK ?_)
  ·refine CD (ts 0 12 (.only 12 .nil)) ym yo ?_
   refine xi ?_
   refine AG (AI Z (LB (pv:=[(0,.int .i64 6),(1,.int .i64 R.ch.aB),(12,.int .i64 R.start)]) (bW (yI R.ch.aB R.start) jh) Z Z Z ym Z) ?_)
   refine AG (VA.kF 0 Z Z (fun Fr w hF hs _=>qe Fr w b S hS R.dK (yI R.ch.aB R.start)) Z Z (ψ:=fun v H=>v=.tuple #[]∧H=aT b (S ++ [(R.dK,yI R.ch.aB R.start)])) yz ?_ ?_)
   ·rintro _ _ ⟨rfl,rfl⟩
    exact yy
   rintro _ _ ⟨rfl,rfl⟩
   refine bg ?_
   exact al.void Z ER ⟨rfl,by rw[az.iW,if_pos ⟨hwh,h1⟩];rfl⟩
  ·exact al.void Z ER ⟨rfl,by rw[az.iW,if_neg (fun h=>h1 h.2),bA]⟩
def az.np(R:az):List bU:=[(16,sy R.ch.aB (if R.whole then 1 else 0))]
theorem JW(hb:a7 Fr w p (bh R x))(hS:S.length≤1000000):aq Tryz.prog 289 [.pointer (some ⟨p,0,none⟩),dk b] Fr w [aT b S] (fun v L=>v=.tuple #[]∧L=[aT b (S++R.np)]):=by
 refine TF 19 Tryz.func289 Z ym aw Z Z ?_
 refine kS ?_
 refine VG (VI (LB (pv:=[(0,.int .i64 11),(1,.int .i64 R.ch.aB)]) (bW (sy R.ch.aB 0) jh) Z Z Z ym Z) ?_)
 refine VG (VO.alloc Z fun fb=>?_)
 refine VG (VT (vs:=bW (sy R.ch.aB 0) jh) 0 Z Z Z Z (NR _) Z Z Z ?_)
 refine VG (VN (CS ?_))
 refine VC.cZ (σ:=Unit) (fun _=>[(1,dk b),(4,pV fb)]) (fun _=>[pt fb (bW (sy R.ch.aB (if R.whole then 1 else 0)) jh) bM,aT b S]) (fun _=>True) ?_ ?_
 ·refine kS ?_
  refine CC Z (fun hd=>?_) (fun hd=>CK ?_)
  ·refine aj ?_
   refine VG (VO.st 0 (cs':=bW (sy R.ch.aB 1) jh) Z Z Z Z (fB Z) Z Z ?_)
   refine aj ?_
   exact⟨(),trivial,aF,by rw[hd];exact ER⟩
  ·exact⟨(),trivial,aF,by rw[hd];exact ER⟩
 rintro _ -
 refine aj ?_
 refine VG (VL 0 (bW (sy R.ch.aB (if R.whole then 1 else 0)) jh) Z Z Z Z ?_)
 refine VG (VO.kF 1 Z Z (fun Fr w hF hs _=>qe Fr w b S hS 16 (sy R.ch.aB (if R.whole then 1 else 0))) Z (ψ:=fun v H=>v=.tuple #[]∧H=aT b (S++R.np)) yz ?_)
 rintro _ _ ⟨rfl,rfl⟩
 refine aj ?_
 exact E0
end
end Rep
namespace Rep
open Go Vg T Api Kv Ch Lg Rd Win Adm
attribute [local irreducible] VO VC VA
structure az.Ok(R:az):Prop where
 ch:jU R.ch
 win:R.win.Ok
 last:R.win.last=R.log.length
 jd:∀e∈R.log,0≤e.aI∧e.aI<6
 je:∀e∈R.log,1≤e.index∧e.index≤R.log.length
 fR:1≤R.aL.cap
 fG:R.aL.cap≤16
 rl:(R.aL.l.length:Int)≤R.aL.cap
 jl:0≤R.aL.last
 jK:R.aL.last≤100000000
 iO:∀y∈R.aL.l,0≤y.f.aI∧y.f.aI≤1000
 calls:R.aM.Calls
 wf:R.aM.Wf
theorem PR(es:List bS)(c:Int):eU es c=(0,0)∨∃e∈es,eU es c=(e.seq,e.index)∧e.aI=c:=by
 have:∀(es:List bS) (p:Int×Int),es.foldl (uj c) p=p∨∃e∈es,es.foldl (uj c) p=(e.seq,e.index)∧e.aI=c:=by
  intro es
  induction es with
  | nil=>intro p;exact .inl rfl
  | cons e es ih=>
   intro p
   rw[xH]
   rcases ih (uj c p e) with h | ⟨d,hd,h,h2⟩
   ·rw[h]
    unfold uj
    split
    ·exact .inr ⟨e,by simp,Z,by assumption⟩
    ·exact .inl rfl
   ·exact .inr ⟨d,by simp[hd],h,h2⟩
 exact this es (0,0)
theorem az.Ok.PW{R:az}(h:R.Ok)(c:Int):0≤(fD R.log c).2∧(fD R.log c).2≤R.log.length:=by
 unfold fD
 split
 ·rcases PR R.log c with h1 | ⟨e,he,h1,_⟩
  ·rw[h1];exact⟨fj _,by simp⟩
  ·rw[h1];have:=h.je e he;exact⟨by show 0≤e.index;omega,this.2⟩
 ·exact⟨fj _,by simp⟩
def e7(p:Nat)(R:az)(x:kY)(b:Nat)(S:List bU):List HP:=[pt p (bh R x) cy,av aN 2 x.a R.ch.ms.length x.c (flat aC R.ch.ms),bw x.lp R.log,bq x.wp R.win,bb x.ap R.aM,br x.rp R.aL,aT b S]
theorem lC{p:Nat}{R:az}{x:kY}{b:Nat}{S:List bU}:aa (e7 p R x b S) [bd p R,aT b S]:=aa.rep x (aZ [0,0,0,0,0,0,0])
def D7(R:az)(i:Int):bU:=(32+((eF R.log i).getD ie).aI,mJ ((eF R.log i).getD ie).aI ((eF R.log i).getD ie).seq 0 ((eF (bC R.log).2 i).getD bO))
def ox(R:az)(k:Nat):List bU:=(List.range k).map fun j=>D7 R (R.win.done+1+(j:Nat))
def az.lj(R:az):List bU:=if R.tk then ox R (R.win.last-R.win.done).toNat else []
def az.dt(R:az):az:=if R.tk then { R with win:=R.win.kD R.win.last } else R
section
variable {p:Nat} {R:az} {b:Nat} {S:List bU}
theorem Cy(ok:R.Ok)(hS:S.length≤900000):aq Tryz.prog 286 [.pointer (some ⟨p,0,none⟩),dk b] Fr w [bd p R,aT b S] (fun v L=>v=.tuple #[]∧L=[bd p R.dt,aT b (S++R.lj)]):=by
 have w0:=ok.win.dh
 have d0:=ok.win.kH;have d1:=ok.win.kI;have d2:=ok.win.ir
 refine TF 62 Tryz.func286 Z ym aw Z Z ?_
 refine u0 ?_
 rintro x -
 show VC _ _ _ (e7 p R x b S) _
 unfold e7
 refine aj ?_
 refine KX ?_
 refine aj ?_
 refine VC.ey Z (fun ht=>?_) (fun ht=>CK ?_)
 ·exact CR (al.void Z lC.ah ⟨rfl,by rw[az.dt,az.lj,ht];simp⟩)
 refine aj ?_
 refine KY ?_
 refine aj ?_
 refine KZ ?_
 refine aj ?_
 refine VG (VQ 3 Z (fun Fr w hF hs hS=>Win.xV Fr w ok.win R.win.last) Z (ψ:=fun v H=>v=.bool (R.win.mT R.win.last)∧H=bq x.wp (R.win.kD R.win.last)) yz ?_)
 rintro _ _ ⟨rfl,rfl⟩
 refine gG ?_
 refine VC.loop (σ:=Nat) (fun k=>[(0,pV p),(1,dk b),(5,.int .i64 R.win.last),(6,.int .i64 (R.win.done+1+(k:Nat)))])
  (fun k=>[pt p (bh R x) cy,av aN 2 x.a R.ch.ms.length x.c (flat aC R.ch.ms),bw x.lp R.log,bq x.wp (R.win.kD R.win.last),bb x.ap R.aM,br x.rp R.aL,aT b (S++ox R k)])
  (fun k=>k≤(R.win.last-R.win.done).toNat) (fun k=>(R.win.last-R.win.done).toNat-k) 0
  (bK _) (SC rfl (SC rfl (SC rfl (Sub.int rfl yf (SN _))))) (by rw[show ox R 0=[] from rfl,bA];exact ER) ?_
 intro k hk
 have hrl:(ox R k).length=k:=by simp[ox]
 refine aj ?_
 refine CP Z (fun h1=>CK ?_) (fun h1=>CX ?_)
 ·obtain⟨j,e,hj1,hj2,hj3,hj4⟩:=yB (l:=R.log) (i:=R.win.done+1+(k:Nat)) yd (by have:=ok.last;omega)
  have hcl:=ok.jd e (ME hj3)
  refine aj ?_
  refine VG (VV (fun Fr w hF hs hS=>Lg.vF Fr w (hS.at_ 2 Z) (R.win.done+1+(k:Nat)) yd yd) Z ?_)
  refine aj ?_
  refine VG (VO.alloc Z fun eb=>?_)
  refine VG (VT (vs:=bJ ((eF R.log (R.win.done+1+(k:Nat))).getD ie)) 0 Z Z Z Z (NR _) Z Z Z ?_)
  refine cF ?_
  refine VG (VV (fun Fr w hF hs hS=>Lg.Jo Fr w (hS.at_ 3 Z) (R.win.done+1+(k:Nat)) yd yd) Z ?_)
  refine cF ?_
  refine VG (VO.alloc Z fun rb=>?_)
  refine VG (VT (vs:=a8 ((eF (bC R.log).2 (R.win.done+1+(k:Nat))).getD bO)) 0 Z Z Z Z (NR _) Z Z Z ?_)
  refine cF ?_
  refine VG (VL 0 (a8 ((eF (bC R.log).2 (R.win.done+1+(k:Nat))).getD bO)) Z Z Z Z ?_)
  refine VG (VQ 8 Z (fun Fr w hF hs hS=>D8 Fr w (by rw[a_,hrl];omega) ((eF R.log (R.win.done+1+(k:Nat))).getD ie).aI ((eF R.log (R.win.done+1+(k:Nat))).getD ie).seq 0 (by rw[hj4];exact hcl.1) (by rw[hj4];have:=hcl.2;show e.aI≤_;omega) ((eF (bC R.log).2 (R.win.done+1+(k:Nat))).getD bO)) Z (ψ:=fun v H=>v=.tuple #[]∧H=aT b (S++ox R k ++ [D7 R (R.win.done+1+(k:Nat))])) yz ?_)
  rintro _ _ ⟨rfl,rfl⟩
  refine gG ?_
  refine⟨k+1,by omega,by dsimp only;omega,SC Z (SC Z (SC Z (Sub.int Z (by push_cast;omega) (SN _)))),?_⟩
  dsimp only
  rw[show ox R (k+1)=ox R k ++ [D7 R (R.win.done+1+(k:Nat))] by simp[ox,tK],←eV]
  exact(aZ [2,2,2,2,2,2,2]).ah
 ·obtain rfl:k=(R.win.last-R.win.done).toNat:=by omega
  exact al.void Z (aa.rep (R:={ R with win:=R.win.kD R.win.last }) x (IP 0 Z (IP 0 Z (IP 0 Z (IP 0 Z (IP 0 Z (IP 0 Z (IP 0 Z aa.nil)))))))).ah ⟨rfl,by rw[az.dt,az.lj,ht];simp⟩
def az.qg(R:az):Bool:=R.ql&&(!R.whole&&(decide (R.base≠-1)&&decide (R.base≤R.win.last)))
def az.iX(R:az):az:=if R.qg then { R with whole:=true,start:=R.win.last } else R
def az.nX(R:az):List bU:=if R.qg then R.iX.iW else []
theorem Gs(ok:R.Ok)(hS:S.length≤900000):aq Tryz.prog 313 [.pointer (some ⟨p,0,none⟩),dk b] Fr w [bd p R,aT b S] (fun v L=>v=.tuple #[]∧L=[bd p R.iX,aT b (S++R.nX)]):=by
 have w0:=ok.win.dh
 refine TF 46 Tryz.func313 Z ym aw Z Z ?_
 refine u0 ?_
 rintro x -
 show VC _ _ _ (e7 p R x b S) _
 refine CS (CS ?_)
 have S3:∀{E:Env} {t:Bool},Vg.look E 31=some (.bool t)→t=(!R.qg)→Vg.look E 0=some (.pointer (some ⟨p,0,none⟩))→Vg.look E 1=some (dk b)→Sub [(0,pV p),(1,dk b),(31,.bool (!R.qg))] E:=fun h0 h1 h2 h3=>SC h2 (SC h3 (Sub.bl h0 h1 (SN _)))
 refine VC.cZ (σ:=Unit) (fun _=>[(0,pV p),(1,dk b),(31,.bool (!R.qg))]) (fun _=>e7 p R x b S) (fun _=>True) ?_ ?_
 ·refine CD (.take 0 (.only 1 (ts 2 19 (ts 22 4 (.only 21 (ts 26 2 .nil)))))) ym yo ?_
  refine AG (AR (fun Fr w hF hs hS=>HL Fr w (fM.mG hS 0 Z Z Z Z Z Z).ar) Z Z yv ?_)
  refine bg ?_
  cases h1:R.ql with
  | false=>
   refine AG (AY 7 true Z Z ?_)
   refine dF ?_
   refine AG (AY 13 true Z Z ?_)
   refine dF ?_
   refine AG (AY 20 true Z Z ?_)
   refine tD ?_
   exact⟨(),trivial,S3 Z (by rw[az.qg,h1];rfl) Z Z,ER⟩
  | true=>
  refine AG (AY 7 false Z Z ?_)
  refine dF ?_
  cases h2:R.whole with
  | true=>
   refine AG (AY 13 true Z Z ?_)
   refine dF ?_
   refine AG (AY 20 true Z Z ?_)
   refine tD ?_
   exact⟨(),trivial,S3 Z (by rw[az.qg,h1,h2];rfl) Z Z,ER⟩
  | false=>
  have q8:(bh R x)[0+8]?=some (.bool false):=by show some (Value.bool R.whole)=_;rw[h2]
  refine AG (AY 13 false Z Z ?_)
  refine dF ?_
  by_cases h3:R.base=-1
  ·refine AG (AY 20 true Z (by simp[h3]) ?_)
   refine tD ?_
   exact⟨(),trivial,S3 Z (by rw[az.qg,h1,h2,h3];rfl) Z Z,ER⟩
  refine AG (AY 20 false Z (by simp[h3]) ?_)
  refine dF ?_
  refine AG (AR (fun Fr w hF hs hS=>Win.oe Fr w (fM.mG hS 0 Z Z Z Z Z Z).win w0) Z Z (by(try refine Pd.st ?_);(repeat(first|exact Pd.nil|exact Pd.fnil|refine Pd.inner ?_|refine Pd.skip yo ?_|refine zf (zo 0 Z Z) ?_|refine zf (zm 0 Z Z) ?_|refine zf (an.ar (an.one 0 Z q8) Z) ?_|refine zf ((an.one 0 Z q8)) ?_|refine zc (zo 0 Z Z) ?_|refine zc (zm 0 Z Z) ?_|refine zc (an.ar (an.one 0 Z q8) Z) ?_|refine zc ((an.one 0 Z q8)) ?_))) ?_)
  refine dF ?_
  exact⟨(),trivial,S3 Z (by
   rw[az.qg,h1,h2,DT (show R.base≠-1 from h3)]
   by_cases h4:R.win.last<R.base
   ·rw[DT h4,DF (show ¬R.base≤R.win.last by omega)];rfl
   ·rw[DF h4,DT (show R.base≤R.win.last by omega)];rfl) rfl rfl,ER⟩
 rintro _ -
 refine VC.ey Z (fun hb=>?_) (fun hb=>CK ?_)
 ·exact CR (al.void Z lC.ah ⟨rfl,by rw[az.iX,az.nX,hb];simp⟩)
 have hbR:R.iX={ R with whole:=true,start:=R.win.last }:=by rw[az.iX,hb];rfl
 have hbM:R.nX=R.iX.iW:=by rw[az.nX,hb];rfl
 unfold e7
 refine aj ?_
 refine VG (VO.st 0 (cs':=bh { R with whole:=true } x) Z Z Z Z (fB Z) Z Z ?_)
 refine aj ?_
 refine KZ ?_
 refine VG (VO.st 0 (cs':=bh { R with whole:=true,start:=R.win.last } x) Z Z Z Z (fB Z) Z Z ?_)
 refine aj ?_
 refine VG (VQ 6 Z (fun Fr w hF hs hS=>Eo (R:={ R with whole:=true,start:=R.win.last }) Fr w (fM.mG hS 0 Z Z Z Z Z Z) ok.ch yd) Z (ψ:=fun v H=>v=.tuple #[]∧H=aT b (S++az.iW { R with whole:=true,start:=R.win.last })) yz ?_)
 rintro _ _ ⟨rfl,rfl⟩
 refine aj ?_
 exact al.void Z (lC (R:={ R with whole:=true,start:=R.win.last }) (x:=x)).ah ⟨rfl,by rw[hbM,hbR]⟩
end
end Rep
namespace Rep
open Go Vg T Api Kv Ch Lg Rd Win Adm
attribute [local irreducible] VO VC VA
def dT(R:az)(f:aA)(now:Int):Int×fV×aK:=
 if R.aM.may f=false then (10,bO,R.aM)
 else if R.aM.tR f.aI f.seq f.bz=true then (7,bO,R.aM)
 else if R.im f=false then (5,bO,R.aM)
 else if R.sJ=false then (4,bO,R.aM)
 else if R.whole=false then (8,bO,R.aM)
 else if R.gP=true then (3,bO,R.aM)
 else if f.seq=(fD R.log f.aI).1∧R.win.done<(fD R.log f.aI).2 then (6,bO,R.aM)
 else if f.seq=(fD R.log f.aI).1 then (0,(eF (bC R.log).2 (fD R.log f.aI).2).getD bO,R.aM)
 else if f.seq<(fD R.log f.aI).1 then (7,bO,R.aM)
 else if 4096≤R.log.length then (1,bO,R.aM)
 else ((R.aM.gV f now).1,bO,(R.aM.gV f now).2)
section
variable {p:Nat} {R:az}
theorem PK(ok:R.Ok)(f:aA)(m:gM)(hmm:kz Fr w m)(now:Int):aq Tryz.prog 352 [.pointer (some ⟨p,0,none⟩),.agg (aS (f,m)).toArray,.int .i64 now] Fr w [bd p R]
  (fun v L=>v=.tuple #[.int .i64 (dT R f now).1,.agg (a8 (dT R f now).2.1).toArray]∧L=[bd p { R with aM:=(dT R f now).2.2 }]):=by
 have w0:=ok.win.dh
 refine TF 116 Tryz.func352 Z ym aw Z Z ?_
 refine CS (CG (VG (VB (vs:=aS (f,m)) Z fun fb=>?_)))
 refine VG (VO.alloc Z fun rb=>VG (VN ?_))
 refine VC.bu 2 Z (aY.rep p R) ?_
 rintro x -
 have fin:∀{X:Cx} {fn:Func} {E:Env} (z:Int) (rr:fV) (A':aK),fn.results=#[.tmp 6,.cell 7 fH]→bD X.tab fH=some T.t105→Vg.look E 6=some (.int .i64 z)→Vg.look E 7=some (.pointer (some ⟨rb,0,none⟩))→dT R f now=(z,rr,A') →
   al X fn (fun v L=>v=.tuple #[.int .i64 (dT R f now).1,.agg (a8 (dT R f now).2.1).toArray]∧L=[bd p { R with aM:=(dT R f now).2.2 }]) E [pt p (bh R x) cy,av aN 2 x.a R.ch.ms.length x.c (flat aC R.ch.ms),bw x.lp R.log,bq x.wp R.win,bb x.ap A',br x.rp R.aL,pt rb (a8 rr) fH,pt fb (aS (f,m)) bM]:=fun z rr A' hr hT h4 h5 hj=>
  al.XD 6 7 hr h4 h5 hT (an.many (ds:=a8 rr) 6 rfl rfl) (aa.rep (R:={ R with aM:=A' }) x (IP 0 rfl (IP 0 rfl (IP 0 rfl (IP 0 rfl (IP 0 rfl (IP 0 rfl aa.nil))))))).ah ⟨by rw[hj],by rw[hj]⟩
 show VC _ _ _ [pt p (bh R x) cy,av aN 2 x.a R.ch.ms.length x.c (flat aC R.ch.ms),bw x.lp R.log,bq x.wp R.win,bb x.ap R.aM,br x.rp R.aL,pt rb (a8 bO) fH,pt fb (aS (f,m)) bM] _
 refine CS (VC.block ?_)
 refine CS (CD (ts 0 5 (.only 5 (ts 6 2 .nil))) ym yo ?_)
 refine r9 ?_
 refine AG (VA.cK 7 (aS (f,m)) Z Z Z Z Z ?_)
 refine AG (AR (fun Fr w hF hs hS=>wD Fr w (f,m) (hS.at_ 4 Z)) Z Z yv ?_)
 refine bg ?_
 refine VC.ey Z (fun h1=>?_) (fun h1=>?_)
 ·refine qW ?_
  exact CR (fin 10 bO R.aM Z Z Z Z (by rw[dT,if_pos h1]))
 have k1:¬R.aM.may f=false:=by rw[h1];simp
 refine CS (CD (ts 0 10 (.only 10 (.take 11 .nil))) ym yo ?_)
 refine r9 ?_
 refine AG (AR (fun Fr w hF hs hS=>Gn Fr w f.aI f.seq f.bz (hS.at_ 4 Z)) Z Z yv ?_)
 refine bg ?_
 refine CC Z (fun h2=>?_) (fun h2=>?_)
 ·refine qW ?_
  exact CR (fin 7 bO R.aM Z Z Z Z (by rw[dT,if_neg k1,if_pos h2]))
 have k2:¬R.aM.tR f.aI f.seq f.bz=true:=by rw[h2];simp
 refine tw ?_
 refine VG (VL 7 (aS (f,m)) Z Z Z Z ?_)
 refine VG (VV (fun Fr w hF hs hS=>HS Fr w (hS.ar 0 Z) f m) Z ?_)
 refine aj ?_
 refine VC.ey Z (fun h3=>?_) (fun h3=>?_)
 ·refine qW ?_
  exact CR (fin 5 bO R.aM Z Z Z Z (by rw[dT,if_neg k1,if_neg k2,if_pos h3]))
 have k3:¬R.im f=false:=by rw[h3];simp
 refine aj ?_
 refine VG (VV (fun Fr w hF hs hS=>v7 Fr w (hS.ar 0 Z) (aP.av cj (hS.at_ 1 Z)) ok.ch) Z ?_)
 refine aj ?_
 refine VC.ey Z (fun h4=>?_) (fun h4=>?_)
 ·refine qW ?_
  exact CR (fin 4 bO R.aM Z Z Z Z (by rw[dT,if_neg k1,if_neg k2,if_neg k3,if_pos h4]))
 have k4:¬R.sJ=false:=by rw[h4];simp
 refine aj ?_
 refine VC.ey Z (fun h5=>?_) (fun h5=>?_)
 ·refine qW ?_
  exact CR (fin 8 bO R.aM Z Z Z Z (by rw[dT,if_neg k1,if_neg k2,if_neg k3,if_neg k4,if_pos h5]))
 have k5:¬R.whole=false:=by rw[h5];simp
 refine aj ?_
 refine VG (VV (fun Fr w hF hs hS=>yR Fr w (hS.ar 0 Z)) Z ?_)
 refine aj ?_
 refine CC Z (fun h6=>?_) (fun h6=>CK ?_)
 ·refine qW ?_
  exact CR (fin 3 bO R.aM Z Z Z Z (by rw[dT,if_neg k1,if_neg k2,if_neg k3,if_neg k4,if_neg k5,if_pos h6]))
 have k6:¬R.gP=true:=by rw[h6];simp
 refine CS (CD (ts 0 6 (.only 6 (ts 7 5 .nil))) ym yo ?_)
 refine r9 ?_
 refine AG (AR (fun Fr w hF hs hS=>Lg.oe Fr w (hS.at_ 2 Z) f.aI) Z Z yv ?_)
 refine bg ?_
 refine CS (VC.block ?_)
 have hi2:=ok.PW f.aI
 have hl1:=ok.last;have hl2:=ok.win.ir
 refine CS ?_
 refine VC.cZ (σ:=Unit) (fun _=>[(0,pV p),(2,.int .i64 now),(4,pV fb),(6,.int .i64 0),(7,pV rb),(8,.int .i64 (fD R.log f.aI).1),(9,.int .i64 (fD R.log f.aI).2),(64,.bool ((f.seq == (fD R.log f.aI).1)&&decide (R.win.done<(fD R.log f.aI).2)))])
  (fun _=>[pt p (bh R x) cy,av aN 2 x.a R.ch.ms.length x.c (flat aC R.ch.ms),bw x.lp R.log,bq x.wp R.win,bb x.ap R.aM,br x.rp R.aL,pt rb (a8 bO) fH,pt fb (aS (f,m)) bM]) (fun _=>True) ?_ ?_
 ·refine tw ?_
  cases h7:(f.seq == (fD R.log f.aI).1) with
  | false=>
   refine VG (VY 69 false Z h7 ?_)
   refine bF ?_
   exact K2
  | true=>
   refine VG (VY 69 true Z h7 ?_)
   refine bF ?_
   refine KY ?_
   refine bF ?_
   exact K2
 rintro _ -
 refine CC Z (fun h7=>?_) (fun h7=>?_)
 ·have k7:f.seq=(fD R.log f.aI).1∧R.win.done<(fD R.log f.aI).2:=by simpa using h7
  refine qW ?_
  exact CR (fin 6 bO R.aM Z Z Z Z (by rw[dT,if_neg k1,if_neg k2,if_neg k3,if_neg k4,if_neg k5,if_neg k6,if_pos k7]))
 have k7:¬(f.seq=(fD R.log f.aI).1∧R.win.done<(fD R.log f.aI).2):=fun h=>by rw[DT h.2,h.1] at h7;simp at h7
 refine tw ?_
 refine CE Z (fun h8=>?_) (fun h8=>?_)
 ·refine aj ?_
  refine VG (VV (fun Fr w hF hs hS=>Lg.Jo Fr w (hS.at_ 2 Z) (fD R.log f.aI).2 yd yd) Z ?_)
  refine aj ?_
  refine VG (VT (vs:=a8 ((eF (bC R.log).2 (fD R.log f.aI).2).getD bO)) 6 Z Z Z Z (NR _) Z Z Z (VG (VN ?_)))
  refine K0 ?_
  refine AG (VA.cK 6 (a8 ((eF (bC R.log).2 (fD R.log f.aI).2).getD bO)) Z Z Z Z Z ?_)
  refine bg ?_
  refine AG (AT (vs:=a8 ((eF (bC R.log).2 (fD R.log f.aI).2).getD bO)) 6 Z Z Z Z Z (NR _) Z Z Z yv ?_)
  refine bg ?_
  exact CR (fin 0 ((eF (bC R.log).2 (fD R.log f.aI).2).getD bO) R.aM Z Z Z Z (by rw[dT,if_neg k1,if_neg k2,if_neg k3,if_neg k4,if_neg k5,if_neg k6,if_neg k7,if_pos h8]))
 refine tw ?_
 refine CP Z (fun h9=>?_) (fun h9=>?_)
 ·refine qW ?_
  exact CR (fin 7 bO R.aM Z Z Z Z (by rw[dT,if_neg k1,if_neg k2,if_neg k3,if_neg k4,if_neg k5,if_neg k6,if_neg k7,if_neg h8,if_pos h9]))
 refine aj ?_
 refine VG (VV (fun Fr w hF hs hS=>Lg.kO Fr w (hS.at_ 2 Z)) Z ?_)
 refine aj ?_
 refine CP Z (fun h10=>?_) (fun h10=>CK ?_)
 ·refine qW ?_
  exact CR (fin 1 bO R.aM Z Z Z Z (by rw[dT,if_neg k1,if_neg k2,if_neg k3,if_neg k4,if_neg k5,if_neg k6,if_neg k7,if_neg h8,if_neg h9,if_pos yd]))
 refine CS (CD (ts 0 6 (.take 7 (.only 6 (.take 8 (.only 9 .nil))))) ym yo ?_)
 refine r9 ?_
 refine AG (VA.cK 7 (aS (f,m)) Z Z Z Z Z ?_)
 refine bg ?_
 refine K1 ?_
 refine AG (AQ 4 Z (fun Fr w hF hs hS=>zO Fr w x.ap R.aM (f,m) (hmm.of hF hs) now) Z Z (ψ:=fun v H=>v=.int .i64 (R.aM.gV f now).1∧H=bb x.ap (R.aM.gV f now).2) yz ?_ ?_)
 ·rintro _ _ ⟨rfl,rfl⟩
  exact yv
 rintro _ _ ⟨rfl,rfl⟩
 refine MC ?_
 exact CR (fin (R.aM.gV f now).1 bO (R.aM.gV f now).2 Z Z Z Z (by rw[dT,if_neg k1,if_neg k2,if_neg k3,if_neg k4,if_neg k5,if_neg k6,if_neg k7,if_neg h8,if_neg h9,if_neg yd]))
end
end Rep
namespace Rep
open Go Vg T Api Kv Ch Lg Rd Win Adm
attribute [local irreducible] VO VC VA
def oE(R:az)(f:aA)(now:Int):az×List bU:=
 if (dT R f now).2.1.code≠0 then ({ R with aM:=(dT R f now).2.2 },[(32+f.aI,mJ f.aI f.seq f.bz (dT R f now).2.1)])
 else if (dT R f now).1=0 then ({ R with aM:=(dT R f now).2.2 },[])
 else if (dT R f now).1≠6∧(dT R f now).1≠10 then ({ R with aM:=((dT R f now).2.2.dw f.aI f.seq f.bz).2 },[(32+f.aI,gA R.ch.aB f (dT R f now).1)])
 else ({ R with aM:=(dT R f now).2.2 },[(32+f.aI,gA R.ch.aB f (dT R f now).1)])
section
variable {p:Nat} {R:az} {b:Nat} {S:List bU}
theorem XV(ok:R.Ok)(hS:S.length≤900000)(f:aA)(m:gM)(hmm:kz Fr w m)(now:Int)(hc0:0≤f.aI)(hc1:f.aI≤1000):aq Tryz.prog 306 [.pointer (some ⟨p,0,none⟩),.agg (aS (f,m)).toArray,.int .i64 now,dk b] Fr w [bd p R,aT b S]
  (fun v L=>v=.tuple #[]∧L=[bd p (oE R f now).1,aT b (S++(oE R f now).2)]):=by
 refine TF 53 Tryz.func306 Z ym aw Z Z ?_
 refine CS (CG (VG (VB (vs:=aS (f,m)) Z fun fb=>?_)))
 refine aj ?_
 refine VG (VL 0 (aS (f,m)) Z Z Z Z ?_)
 refine VG (VQ 1 Z (fun Fr w hF hs hS=>PK Fr w ok f m (hmm.of hF hs) now) Z (ψ:=fun v H=>v=.tuple #[.int .i64 (dT R f now).1,.agg (a8 (dT R f now).2.1).toArray]∧H=bd p { R with aM:=(dT R f now).2.2 }) yz ?_)
 rintro _ _ ⟨rfl,rfl⟩
 refine VO.bu 1 Z (aY.rep p _) ?_
 rintro x -
 obtain⟨⟨z,rr,A⟩,hj⟩:∃j,dT R f now=j:=⟨_,rfl⟩
 rw[hj]
 have hu:oE R f now=(if rr.code≠0 then ({ R with aM:=A },[(32+f.aI,mJ f.aI f.seq f.bz rr)])
   else if z=0 then ({ R with aM:=A },[])
   else if z≠6∧z≠10 then ({ R with aM:=(A.dw f.aI f.seq f.bz).2 },[(32+f.aI,gA R.ch.aB f z)])
   else ({ R with aM:=A },[(32+f.aI,gA R.ch.aB f z)])):=by rw[oE,hj]
 show VO _ _ _ _ _ [pt p (bh R x) cy,av aN 2 x.a R.ch.ms.length x.c (flat aC R.ch.ms),bw x.lp R.log,bq x.wp R.win,bb x.ap A,br x.rp R.aL,pt fb (aS (f,m)) bM,aT b S] _
 refine aj ?_
 refine VG (VO.alloc Z fun rb=>?_)
 refine aj ?_
 refine VG (VT (vs:=a8 rr) 0 Z Z Z Z (NR _) Z Z Z ?_)
 refine aj ?_
 refine VC.dd Z (fun h1=>?_) (fun h1=>CK ?_)
 ·refine tw ?_
  refine VG (VL 0 (a8 rr) Z Z Z Z ?_)
  refine VG (VQ 8 Z (fun Fr w hF hs _=>D8 Fr w yd f.aI f.seq f.bz hc0 yd rr) Z (ψ:=fun v H=>v=.tuple #[]∧H=aT b (S ++ [(32+f.aI,mJ f.aI f.seq f.bz rr)])) yz ?_)
  rintro _ _ ⟨rfl,rfl⟩
  refine aj ?_
  exact CR (al.void Z (aa.rep (R:={ R with aM:=A }) x (IP 1 Z (IP 1 Z (IP 1 Z (IP 1 Z (IP 1 Z (IP 1 Z (IP 2 Z aa.nil)))))))).ah ⟨rfl,by rw[hu,if_pos h1]⟩)
 refine aj ?_
 refine CE Z (fun h2=>?_) (fun h2=>CK ?_)
 ·exact CR (al.void Z (aa.rep (R:={ R with aM:=A }) x (IP 1 Z (IP 1 Z (IP 1 Z (IP 1 Z (IP 1 Z (IP 1 Z (IP 2 Z aa.nil)))))))).ah ⟨rfl,by rw[hu,if_neg (fun h=>h h1),if_pos h2,bA]⟩)
 refine CS ?_
 refine VC.cZ (σ:=aK) (fun _=>[(0,pV p),(3,dk b),(5,pV fb),(8,.int .i64 z)])
  (fun A'=>[pt p (bh R x) cy,av aN 2 x.a R.ch.ms.length x.c (flat aC R.ch.ms),bw x.lp R.log,bq x.wp R.win,bb x.ap A',br x.rp R.aL,pt fb (aS (f,m)) bM,aT b S]) (fun A'=>A'=if z≠6∧z≠10 then (A.dw f.aI f.seq f.bz).2 else A) ?_ ?_
 ·refine aj ?_
  by_cases h3:z=6
  ·refine VG (VY 33 false Z (by simp[h3]) ?_)
   refine qV ?_
   exact⟨A,by rw[if_neg (fun h=>h.1 h3)],aF,(aZ [1,1,1,1,1,1,1,1]).ah⟩
  ·refine VG (VY 33 true Z (by simp[h3]) ?_)
   refine bF ?_
   refine VC.dd Z (fun h4=>?_) (fun h4=>CK ?_)
   ·refine CD (ts 0 10 (.only 10 .nil)) ym yo ?_
    refine r9 ?_
    refine AG (AQ 5 Z (fun Fr w hF hs hS=>yH Fr w x.ap A f.aI f.seq f.bz) Z Z (ψ:=fun v H=>v=.int .i64 (A.dw f.aI f.seq f.bz).1∧H=bb x.ap (A.dw f.aI f.seq f.bz).2) yz ?_ ?_)
    ·rintro _ _ ⟨rfl,rfl⟩
     exact yv
    rintro _ _ ⟨rfl,rfl⟩
    refine bg ?_
    exact⟨(A.dw f.aI f.seq f.bz).2,by rw[if_pos ⟨h3,h4⟩],aF,(aZ [1,1,1,1,1,1,1,1]).ah⟩
   ·exact⟨A,by rw[if_neg (fun h=>h.2 h4)],aF,(aZ [1,1,1,1,1,1,1,1]).ah⟩
 rintro A' hA'
 refine aj ?_
 refine VG (VL 6 (aS (f,m)) Z Z Z Z ?_)
 refine aj ?_
 refine VG (VQ 7 Z (fun Fr w hF hs hS=>s8 Fr w (hS.ar 0 Z) yd f m hc0 yd z) Z (ψ:=fun v H=>v=.tuple #[]∧H=aT b (S ++ [(32+f.aI,gA R.ch.aB f z)])) yz ?_)
 rintro _ _ ⟨rfl,rfl⟩
 refine aj ?_
 exact al.void Z (aa.rep (R:={ R with aM:=A' }) x (IP 0 Z (IP 0 Z (IP 0 Z (IP 0 Z (IP 0 Z (IP 0 Z (IP 1 Z aa.nil)))))))).ah ⟨rfl,by
  rw[hu,if_neg (fun h=>h h1),if_neg h2,hA']
  split<;>rfl⟩
def lZ(R:az)(f:aA)(now:Int):Int:=
 if R.im f=false then 5 else if R.tk=false then 4 else if R.whole=false then 8 else if f.deadline<now then 2 else if R.jG≤R.aL.l.length then 1 else 0
def mZ(aB id:Int):aA:={ aA.zero with kind:=9,aB:=aB,index:=id }
def ow(R:az)(f:aA)(now:Int):az×List bU:=
 if lZ R f now≠0 then (R,[(32+f.aI,gA R.ch.aB f (lZ R f now))])
 else ({ R with aL:=R.aL.put f (lT (bC R.log).1 f.op.key R.log.length) },[(16,mZ R.ch.aB (R.aL.last+1))])
theorem Af(ok:R.Ok)(hmost:R.jG=R.aL.cap)(hS:S.length≤900000)(f:aA){ma:Option Addr}{mc:Nat}{ms:List bj}(hm:aP aC 2 Fr w ma ms)(hml:ms.length≤1000000)(now:Int)(hc0:0≤f.aI)(hc1:f.aI≤1000):aq Tryz.prog 305 [.pointer (some ⟨p,0,none⟩),.agg (bW f (ma,ms.length,mc)).toArray,.int .i64 now,dk b] Fr w [bd p R,aT b S]
  (fun v L=>v=.tuple #[]∧L=[bd p (ow R f now).1,aT b (S++(ow R f now).2)]):=by
 refine TF 75 Tryz.func305 Z ym aw Z Z ?_
 refine CS (CG (VG (VB (vs:=bW f (ma,ms.length,mc)) Z fun fb=>VG (VN ?_))))
 refine A5 ?_
 rintro x -
 show VC _ _ _ [pt p (bh R x) cy,av aN 2 x.a R.ch.ms.length x.c (flat aC R.ch.ms),bw x.lp R.log,bq x.wp R.win,bb x.ap R.aM,br x.rp R.aL,pt fb (bW f (ma,ms.length,mc)) bM,aT b S] _
 have hlen:R.aL.l.length≤16:=by have:=ok.rl;have:=ok.fG;omega
 refine CS (CG (VG (VN (CS ?_))))
 have S4:∀{E:Env} {z:Int},Vg.look E 8=some (.int .i64 z)→z=lZ R f now→Vg.look E 0=some (.pointer (some ⟨p,0,none⟩))→Vg.look E 3=some (dk b)→Vg.look E 5=some (.pointer (some ⟨fb,0,none⟩))→Sub [(0,pV p),(3,dk b),(5,pV fb),(8,.int .i64 (lZ R f now))] E:=fun h0 h1 h2 h3 h4=>SC h2 (SC h3 (SC h4 (Sub.int h0 h1 (SN _))))
 refine VC.cZ (σ:=Unit) (fun _=>[(0,pV p),(3,dk b),(5,pV fb),(8,.int .i64 (lZ R f now))])
  (fun _=>[pt p (bh R x) cy,av aN 2 x.a R.ch.ms.length x.c (flat aC R.ch.ms),bw x.lp R.log,bq x.wp R.win,bb x.ap R.aM,br x.rp R.aL,pt fb (bW f (ma,ms.length,mc)) bM,aT b S]) (fun _=>True) ?_ ?_
 ·refine VC.block ?_
  refine aj ?_
  refine VG (VL 6 (bW f (ma,ms.length,mc)) Z Z Z Z ?_)
  refine xp ?_
  refine aj ?_
  refine VC.ey Z (fun h1=>?_) (fun h1=>?_)
  ·refine aj ?_
   exact⟨(),trivial,S4 Z (by rw[lZ,if_pos h1]) Z Z Z,ER⟩
  have k1:¬R.im f=false:=by rw[h1];simp
  refine aj ?_
  refine KX ?_
  refine aj ?_
  refine VC.ey Z (fun h2=>?_) (fun h2=>?_)
  ·refine aj ?_
   exact⟨(),trivial,S4 Z (by rw[lZ,if_neg k1,if_pos h2]) Z Z Z,ER⟩
  have k2:¬R.tk=false:=by rw[h2];simp
  refine aj ?_
  refine VC.ey Z (fun h3=>?_) (fun h3=>?_)
  ·refine aj ?_
   exact⟨(),trivial,S4 Z (by rw[lZ,if_neg k1,if_neg k2,if_pos h3]) Z Z Z,ER⟩
  have k3:¬R.whole=false:=by rw[h3];simp
  refine K3 ?_
  refine CP Z (fun h4=>?_) (fun h4=>?_)
  ·refine aj ?_
   exact⟨(),trivial,S4 Z (by rw[lZ,if_neg k1,if_neg k2,if_neg k3,if_pos h4]) Z Z Z,ER⟩
  refine CS (CD (ts 0 4 (ts 5 4 (.only 4 (ts 9 2 .nil)))) ym yo ?_)
  refine oH ?_
  refine AG (AR (fun Fr w hF hs hS=>Rd.kO Fr w (hS.at_ 5 Z) ok.fR) Z Z yv ?_)
  refine bg ?_
  refine CP Z (fun h5=>?_) (fun h5=>CK ?_)
  ·refine aj ?_
   exact⟨(),trivial,S4 Z (by rw[lZ,if_neg k1,if_neg k2,if_neg k3,if_neg h4,if_pos h5]) Z Z Z,ER⟩
  ·exact⟨(),trivial,S4 Z (by rw[lZ,if_neg k1,if_neg k2,if_neg k3,if_neg h4,if_neg h5]) Z Z Z,ER⟩
 rintro _ -
 refine aj ?_
 refine VC.dd Z (fun hr=>?_) (fun hr=>CK ?_)
 ·refine aj ?_
  refine VG (VL 6 (bW f (ma,ms.length,mc)) Z Z Z Z ?_)
  refine aj ?_
  refine VG (VQ 7 Z (fun Fr w hF hs hS=>s8 Fr w (hS.ar 0 Z) yd f (ma,ms.length,mc) hc0 yd (lZ R f now)) Z (ψ:=fun v H=>v=.tuple #[]∧H=aT b (S ++ [(32+f.aI,gA R.ch.aB f (lZ R f now))])) yz ?_)
  rintro _ _ ⟨rfl,rfl⟩
  refine aj ?_
  exact CR (al.void Z (aa.rep x (IP 0 Z (IP 0 Z (IP 0 Z (IP 0 Z (IP 0 Z (IP 0 Z (IP 1 Z aa.nil)))))))).ah ⟨rfl,by rw[ow,if_pos hr]⟩)
 have hnf:(R.aL.l.length:Int)<R.aL.cap:=by
  rw[←hmost]
  unfold lZ at hr
  split at hr
  ·cases hr
  split at hr
  ·cases hr
  split at hr
  ·cases hr
  split at hr
  ·cases hr
  split at hr
  ·cases hr
  ·omega
 refine CS (CD (ts 0 12 (.only 12 (.only 13 (ts 14 5 .nil)))) ym yo ?_)
 refine oH ?_
 refine AG (VA.cK 6 (bW f (ma,ms.length,mc)) Z Z Z Z Z ?_)
 refine oH ?_
 refine AG (AR (fun Fr w hF hs hS=>Lg.zu Fr w (hS.at_ 2 Z) f.op.key) Z Z yv ?_)
 refine AG (AQ 5 Z (fun Fr w hF hs hS=>Rd.R8 Fr w x.rp R.aL ok.fR ok.fG ok.jl (by have:=ok.jK;omega) f (hm.of hF hs) hml (lT (bC R.log).1 f.op.key R.log.length)) Z Z (ψ:=fun v H=>v=.tuple #[.int .i64 (R.aL.last+1),.int .i64 0]∧H=br x.rp (R.aL.put f (lT (bC R.log).1 f.op.key R.log.length))) (fun v L h=>⟨_,h.2,by rw[h.1,if_pos hnf],Z⟩) ?_ ?_)
 ·rintro _ _ ⟨rfl,rfl⟩
  exact yv
 rintro _ _ ⟨rfl,rfl⟩
 refine sh ?_
 refine VG (VI (LB (pv:=[(0,.int .i64 9),(1,.int .i64 R.ch.aB),(12,.int .i64 (R.aL.last+1))]) (bW (mZ R.ch.aB (R.aL.last+1)) jh) Z Z Z ym Z) ?_)
 refine VG (VO.kF 7 Z Z (fun Fr w hF hs _=>qe Fr w b S yd 16 (mZ R.ch.aB (R.aL.last+1))) Z (ψ:=fun v H=>v=.tuple #[]∧H=aT b (S ++ [(16,mZ R.ch.aB (R.aL.last+1))])) yz ?_)
 rintro _ _ ⟨rfl,rfl⟩
 refine aj ?_
 exact al.void Z (aa.rep (R:={ R with aL:=R.aL.put f (lT (bC R.log).1 f.op.key R.log.length) }) x (IP 0 Z (IP 0 Z (IP 0 Z (IP 0 Z (IP 0 Z (IP 0 Z (IP 1 Z aa.nil)))))))).ah ⟨rfl,by rw[ow,if_neg (fun h=>h hr)]⟩
end
end Rep
namespace Rep
open Go Vg T Api Kv Ch Lg Rd Win Adm
attribute [local irreducible] VO VC VA
theorem F3{W:bE}(h:W.Ok)(i:Int):(W.kD i).Ok:=by
 unfold bE.kD
 split
 ·rename_i hb
  simp only[bE.mT,dG,decide_eq_true_eq] at hb
  have:=h.kH
  exact⟨h.dh,h.eN,by show 0≤i;omega,hb.2,h.ir,h.gd,h.wX,h.sP,h.sQ⟩
 ·exact h
theorem F2(W:bE)(i:Int):(W.kD i).last=W.last:=by unfold bE.kD;split<;>rfl
theorem ud{R:az}(h:R.Ok):R.dt.Ok:=by
 unfold az.dt
 split
 ·exact⟨h.ch,F3 h.win _,by rw[F2];exact h.last,h.jd,h.je,h.fR,h.fG,h.rl,h.jl,h.jK,h.iO,h.calls,h.wf⟩
 ·exact h
theorem BX{R:az}(h:R.Ok):R.iX.Ok:=by
 unfold az.iX
 split
 ·exact K4
 ·exact h
def fv(R:az)(e:bS):az:={ R with log:=R.log ++ [e],win:={ R.win with last:=R.win.last+1 } }
theorem Qq{es:List bS}{e:bS}(h:fZ es e=0):lN e=false∧es.length<4096∧e.index=es.length+1∧(eU es e.aI).1<e.seq:=by
 unfold fZ at h
 split at h
 ·cases h
 rename_i h1
 split at h
 ·cases h
 rename_i h2
 split at h
 ·cases h
 rename_i h3
 split at h
 ·cases h
 rename_i h4
 exact⟨by simpa using h1,by omega,by omega,by omega⟩
theorem M9{e:bS}(h:lN e=false):0≤e.aI∧e.aI<6∧1≤e.seq:=by
 simp only[lN,Bool.or_eq_false_iff,decide_eq_false_iff_not] at h
 omega
theorem uE{R:az}(h:R.Ok){e:bS}(he:fZ R.log e=0)(hr:R.win.room=true):(fv R e).Ok:=by
 obtain⟨b1,b2,b3,b4⟩:=Qq he
 have hc:=M9 b1
 simp only[bE.room,dG,decide_eq_true_eq] at hr
 have hw:=h.win
 have hl:=h.last
 refine⟨h.ch,⟨hw.dh,hw.eN,hw.kH,?_,?_,hw.gd,?_,hw.sP,hw.sQ⟩,?_,?_,?_,h.fR,h.fG,h.rl,h.jl,h.jK,h.iO,h.calls,h.wf⟩
 ·have:=hw.kI;show R.win.done≤R.win.last+1;omega
 ·show R.win.last+1≤4096;omega
 ·have:=hw.wX;show R.win.bX≤R.win.last+1;omega
 ·show R.win.last+1=(R.log ++ [e]).length;rw[a_,hl];simp
 ·intro y hy
  rcases fL.1 hy with hy | hy
  ·exact h.jd y hy
  ·obtain rfl:=mi.1 hy;exact⟨hc.1,hc.2.1⟩
 ·intro y hy
  show _∧y.index≤(R.log ++ [e]).length
  rw[a_]
  rcases fL.1 hy with hy | hy
  ·have:=h.je y hy;exact⟨this.1,by simp;omega⟩
  ·obtain rfl:=mi.1 hy;exact⟨by omega,by simp;omega⟩
theorem Sg(R:az)(k:Nat):(ox R k).length=k:=by simp[ox]
theorem vS{R:az}(h:R.Ok):R.lj.length≤4096:=by
 unfold az.lj
 split
 ·rw[Sg];have:=h.win.ir;have:=h.win.kH;omega
 ·simp
theorem BV(R:az):R.iW.length≤1:=by unfold az.iW;split<;>simp
theorem BW(R:az):R.nX.length≤1:=by
 unfold az.nX
 split
 ·exact BV _
 ·simp
theorem vY(R:az):R.fO.length≤1:=by unfold az.fO;split<;>simp
def rI(R:az)(e:bS):Bool:=(e.index == R.win.last+1)&&decide (0<max (min (R.win.done+R.win.cap) 4096-R.win.last) 0)
theorem CM{R:az}{e:bS}(h:rI R e=true):R.win.room=true:=by
 simp only[rI,dG,decide_eq_true_eq] at h
 simp only[bE.room,dG,decide_eq_true_eq]
 omega
def mA(R:az)(e:bS):az×List bU:=
 if rI R e=true∧fZ R.log e=0 then ((fv R e).dt.iX,(fv R e).lj++(fv R e).dt.nX++(fv R e).dt.iX.fO)
 else (R,R.fO)
section
variable {p:Nat} {R:az} {b:Nat} {S:List bU}
theorem O3(ok:R.Ok)(hS:S.length≤800000)(e:bS)(hi1:-9223372036854775808≤e.index)(hi2:e.index≤9223372036854775807):aq Tryz.prog 311 [.pointer (some ⟨p,0,none⟩),.agg (bJ e).toArray,dk b] Fr w [bd p R,aT b S]
  (fun v L=>v=.tuple #[]∧L=[bd p (mA R e).1,aT b (S++(mA R e).2)]):=by
 have w0:=ok.win.dh
 have w1:=ok.win.ir;have w2:=ok.win.kH;have w3:=ok.win.kI
 refine TF 50 Tryz.func311 Z ym aw Z Z ?_
 refine CS (CG (VG (VB (vs:=bJ e) Z fun eb=>VG (VN ?_))))
 refine CS ?_
 refine VC.cZ (σ:=az×List bU) (fun _=>[(0,pV p),(2,dk b)]) (fun y=>[bd p y.1,aT b (S++y.2)]) (fun y=>y.1.Ok∧y.2.length≤10000∧mA R e=(y.1,y.2++y.1.fO)) ?_ ?_
 ·refine A5 ?_
  rintro x -
  show VC _ _ _ [pt p (bh R x) cy,av aN 2 x.a R.ch.ms.length x.c (flat aC R.ch.ms),bw x.lp R.log,bq x.wp R.win,bb x.ap R.aM,br x.rp R.aL,pt eb (bJ e) e_,aT b S] _
  have shut:∀{X:Cx} {T:List bU},cI X [pt p (bh R x) cy,av aN 2 x.a R.ch.ms.length x.c (flat aC R.ch.ms),bw x.lp R.log,bq x.wp R.win,bb x.ap R.aM,br x.rp R.aL,pt eb (bJ e) e_,aT b T] [bd p R,aT b T]:=
   (aa.rep x (aZ [0,0,0,0,0,0,1])).ah
  have none_:¬(rI R e=true∧fZ R.log e=0)→R.Ok∧([]:List bU).length≤10000∧mA R e=(R,[]++R.fO):=fun h=>⟨ok,by simp,by rw[mA,if_neg h];rfl⟩
  refine CS (CD (ts 0 6 (.only 6 (ts 7 7 (.only 14 (ts 15 2 .nil))))) ym yo ?_)
  refine oH ?_
  refine AG (AR (fun Fr w hF hs hS=>Win.oe Fr w (hS.ar 3 Z) w0) Z Z yv ?_)
  refine pK ?_
  refine bg ?_
  cases h1:(e.index == R.win.last+1) with
  | false=>
   refine AG (AY 17 false Z h1 ?_)
   refine tD ?_
   refine iQ ?_
   exact⟨(R,[]),none_ (fun h=>by rw[rI,h1] at h;exact absurd h.1 yf),aF,by dsimp only;rw[bA];exact shut⟩
  | true=>
  refine AG (AY 17 true Z h1 ?_)
  (repeat(first|refine yG (yN ?_)|refine yG (yD 0 rfl rfl rfl rfl rfl ?_)|refine yG (yD 1 rfl rfl rfl rfl rfl ?_)|refine yG (yD 2 rfl rfl rfl rfl rfl ?_)|refine yG (yD 3 rfl rfl rfl rfl rfl ?_)|refine yG (yD 4 rfl rfl rfl rfl rfl ?_)|refine yG (yD 5 rfl rfl rfl rfl rfl ?_)|refine yG (yD 6 rfl rfl rfl rfl rfl ?_)|refine yG (yU rfl rfl rfl rfl ?_)))
  refine AG (AR (fun Fr w hF hs hS=>Win.free_spec Fr w (hS.ar 3 Z) ok.win) Z Z yv ?_)
  refine dF ?_
  refine CP Z (fun h2=>?_) (fun h2=>CK ?_)
  rotate_left
  ·exact⟨(R,[]),none_ (fun h=>by rw[rI,h1,DF h2] at h;exact absurd h.1 yf),aF,by dsimp only;rw[bA];exact shut⟩
  have hfb:rI R e=true:=by rw[rI,h1,DT h2];rfl
  refine CS ?_
  refine VC.cZ (σ:=Nat) (fun rb=>[(0,pV p),(2,dk b),(7,.int .i64 (fZ R.log e))]) (fun rb=>[pt rb (a8 (lU R.log e)) fH,pt p (bh R x) cy,av aN 2 x.a R.ch.ms.length x.c (flat aC R.ch.ms),bw x.lp (jc R.log e),bq x.wp R.win,bb x.ap R.aM,br x.rp R.aL,pt eb (bJ e) e_,aT b S]) (fun _=>True) ?_ ?_
  ·refine K5 ?_
   refine oH ?_
   refine AG (VA.cK 6 (bJ e) Z Z Z Z Z ?_)
   refine AG (VA.two Z Z Z Z Z (aG.mq (ψ:=fun v H=>v=.tuple #[.agg (a8 (lU R.log e)).toArray,.int .i64 (fZ R.log e)]∧H=bw x.lp (jc R.log e)) 2 Z (fun Fr w hF hs hS=>Lg.xY Fr w x.lp R.log e) Z yz) Z Z Z (aG.alloc Z) ?_ ?_ ?_ ?_)
   ·rintro _ _ ⟨_,⟨rfl,rfl⟩,rfl⟩
    exact yv
   ·rintro _ _ ⟨rb,rfl,rfl⟩
    exact yv
   ·rintro _ _ ⟨_,⟨rfl,rfl⟩,rfl⟩
    refine bg ?_
    refine AG (AO (aG.alloc Z) Z ?_ ?_)
    ·rintro _ _ ⟨rb,rfl,rfl⟩
     exact yv
    rintro _ _ ⟨rb,rfl,rfl⟩
    refine AG (AT (vs:=a8 (lU R.log e)) 0 Z Z Z Z Z (NR _) Z Z Z yv ?_)
    exact BC
   ·rintro _ _ ⟨rb,rfl,rfl⟩
    refine AG (AO (aG.mq (ψ:=fun v H=>v=.tuple #[.agg (a8 (lU R.log e)).toArray,.int .i64 (fZ R.log e)]∧H=bw x.lp (jc R.log e)) 3 Z (fun Fr w hF hs hS=>Lg.xY Fr w x.lp R.log e) Z yz) Z ?_ ?_)
    ·rintro _ _ ⟨_,⟨rfl,rfl⟩,rfl⟩
     exact yv
    rintro _ _ ⟨_,⟨rfl,rfl⟩,rfl⟩
    refine bg ?_
    refine AG (AT (vs:=a8 (lU R.log e)) 0 Z Z Z Z Z (NR _) Z Z Z yv ?_)
    exact BC
  rintro rb -
  refine aj ?_
  refine CE Z (fun h3=>?_) (fun h3=>CK ?_)
  rotate_left
  ·have hla:jc R.log e=R.log:=by rw[jc,if_neg h3]
   rw[hla]
   exact⟨(R,[]),none_ (fun h=>h3 h.2),aF,by
    dsimp only;rw[bA]
    exact(aa.rep x (aZ [1,1,1,1,1,1,2])).ah⟩
  have hla:jc R.log e=R.log ++ [e]:=by rw[jc,if_pos h3]
  have hroom:=CM hfb
  have okp:=uE ok h3 hroom
  rw[hla]
  refine cF ?_
  refine VG (VQ 4 Z (fun Fr w hF hs hS=>Win.s6 Fr w ok.win hroom) Z (ψ:=fun v H=>v=.bool true∧H=bq x.wp { R.win with last:=R.win.last+1 }) yz ?_)
  rintro _ _ ⟨rfl,rfl⟩
  refine VO.ah (L':=[bd p (fv R e),aT b S]) (aa.rep (R:=fv R e) x (aZ [1,1,1,1,1,1,2])).ah ?_
  refine aj ?_
  refine VG (VK (Lc:=[bd p (fv R e),aT b S]) (Lr:=[]) (fun Fr w hF hs hS=>Cy Fr w okp yd) Z Z ?_)
  rintro _ _ ⟨rfl,rfl⟩
  have fl:=vS okp
  refine aj ?_
  refine VG (VK (Lc:=[bd p (fv R e).dt,aT b (S++(fv R e).lj)]) (Lr:=[]) (fun Fr w hF hs hS=>Gs Fr w (ud okp) pP) Z Z ?_)
  rintro _ _ ⟨rfl,rfl⟩
  have bl:=BW (fv R e).dt
  refine aj ?_
  refine⟨((fv R e).dt.iX,(fv R e).lj++(fv R e).dt.nX),⟨BX (ud okp),by dsimp only;rw[a_];omega,by rw[mA,if_pos ⟨hfb,h3⟩]⟩,aF,?_⟩
  dsimp only
  rw[eV]
  exact ER
 rintro⟨R',T⟩ ⟨ok',hT,hf⟩
 dsimp only at ok' hT hf ⊢
 refine VC.bu 0 Z (aY.rep p R') ?_
 rintro x -
 show VC _ _ _ (e7 p R' x b (S++T)) _
 unfold e7
 refine aj ?_
 refine VG (VQ 6 Z (fun Fr w hF hs hS=>zj Fr w (fM.mG hS 0 Z Z Z Z Z Z) ok'.ch ok'.win pP) Z (ψ:=fun v H=>v=.tuple #[]∧H=aT b (S++T++R'.fO)) yz ?_)
 rintro _ _ ⟨rfl,rfl⟩
 refine aj ?_
 exact al.void Z (lC (R:=R') (x:=x)).ah ⟨rfl,by rw[hf,eV]⟩
end
end Rep
namespace Rep
open Go Vg T Api Kv Ch Lg Rd Win Adm
attribute [local irreducible] VO VC VA
def fC(R:az)(f:aA):az:=if R.linked then { R with dp:=max R.dp f.dp } else { R with linked:=true,dp:=f.dp,win:={ R.win with bX:=min (max f.dp 0) R.win.last } }
def jY(R:az)(f:aA):az:={ fC R f with win:={ (fC R f).win with gS:=max (fC R f).win.gS (min f.rL 4112) } }
def jZ(R:az)(f:aA):az×List bU:=
 ({ jY R f with win:=(jY R f).win.kD f.index },if (jY R f).win.mT f.index then az.fO { jY R f with win:=(jY R f).win.kD f.index } else [])
theorem FZ{R:az}(h:R.Ok)(f:aA):(fC R f).Ok:=by
 unfold fC
 split
 ·exact K4
 ·have hw:=h.win
  refine⟨h.ch,⟨hw.dh,hw.eN,hw.kH,hw.kI,hw.ir,?_,?_,hw.sP,hw.sQ⟩,h.last,h.jd,h.je,h.fR,h.fG,h.rl,h.jl,h.jK,h.iO,h.calls,h.wf⟩
  ·show 0≤min (max f.dp 0) R.win.last
   have:=hw.kH;have:=hw.kI;omega
  ·show min (max f.dp 0) R.win.last≤R.win.last;omega
theorem F0{R:az}(h:R.Ok)(f:aA):(jY R f).Ok:=by
 have h1:=FZ h f
 have hw:=h1.win
 unfold jY
 refine⟨h1.ch,⟨hw.dh,hw.eN,hw.kH,hw.kI,hw.ir,hw.gd,hw.wX,?_,?_⟩,h1.last,h1.jd,h1.je,h1.fR,h1.fG,h1.rl,h1.jl,h1.jK,h1.iO,h1.calls,h1.wf⟩
 ·show 0≤max (fC R f).win.gS (min f.rL 4112);have:=hw.sP;omega
 ·show max (fC R f).win.gS (min f.rL 4112)≤4112;have:=hw.sQ;omega
theorem F1{R:az}(h:R.Ok)(f:aA):(jZ R f).1.Ok:=by
 have h2:=F0 h f
 exact⟨h2.ch,F3 h2.win _,by show((jY R f).win.kD f.index).last=_;rw[F2];exact h2.last,h2.jd,h2.je,h2.fR,h2.fG,h2.rl,h2.jl,h2.jK,h2.iO,h2.calls,h2.wf⟩
section
variable {p:Nat} {R:az} {b:Nat} {S:List bU}
theorem xV(ok:R.Ok)(hS:S.length≤800000)(f:aA)(m:gM):aq Tryz.prog 312 [.pointer (some ⟨p,0,none⟩),.agg (bW f m).toArray,dk b] Fr w [bd p R,aT b S]
  (fun v L=>v=.tuple #[]∧L=[bd p (jZ R f).1,aT b (S++(jZ R f).2)]):=by
 have ok1:=FZ ok f
 have ok2:=F0 ok f
 refine TF 52 Tryz.func312 Z ym aw Z Z ?_
 refine CS (CG (VG (VB (vs:=bW f m) Z fun fb=>VG (VN ?_))))
 refine A5 ?_
 rintro x -
 show VC _ _ _ [pt p (bh R x) cy,av aN 2 x.a R.ch.ms.length x.c (flat aC R.ch.ms),bw x.lp R.log,bq x.wp R.win,bb x.ap R.aM,br x.rp R.aL,pt fb (bW f m) bM,aT b S] _
 refine CS ?_
 refine VC.cZ (σ:=Unit) (fun _=>[(0,pV p),(2,dk b),(4,pV fb)]) (fun _=>[pt p (bh (fC R f) x) cy,av aN 2 x.a R.ch.ms.length x.c (flat aC R.ch.ms),bw x.lp R.log,bq x.wp (fC R f).win,bb x.ap R.aM,br x.rp R.aL,pt fb (bW f m) bM,aT b S]) (fun _=>True) ?_ ?_
 ·refine aj ?_
  cases hl:R.linked with
  | true=>
   have e:fC R f={ R with dp:=max R.dp f.dp }:=by rw[fC,hl];rfl
   refine l_ ?_
   refine CD (ts 0 10 (.only 10 .nil)) ym yo ?_
   refine oH ?_
   refine AG (VA.st 0 (cs':=bh { R with dp:=if R.dp<f.dp then f.dp else R.dp } x) Z Z Z Z Z (fB Z) Z Z yv ?_)
   refine bg ?_
   exact⟨(),trivial,aF,by rw[e,show max R.dp f.dp=(if R.dp<f.dp then f.dp else R.dp) by split<;>omega];exact ER⟩
  | false=>
   have e:fC R f={ R with linked:=true,dp:=f.dp,win:={ R.win with bX:=min (max f.dp 0) R.win.last } }:=by rw[fC,hl];rfl
   refine oG ?_
   refine CS (CD (ts 0 6 (.only 6 (ts 7 2 (.only 9 .nil)))) ym yo ?_)
   refine oH ?_
   refine AG (VA.st 0 (cs':=bh { R with linked:=true } x) Z Z Z Z Z (fB Z) Z Z yv ?_)
   refine oH ?_
   refine AG (VA.st 0 (cs':=bh { R with linked:=true,dp:=f.dp } x) Z Z Z Z Z (fB Z) Z Z yv ?_)
   refine bg ?_
   refine A0 ?_
   refine oH ?_
   refine AG (AQ 3 Z (fun Fr w hF hs hS=>Win.Gk Fr w ok.win f.dp) Z Z (ψ:=fun v H=>v=.tuple #[]∧H=bq x.wp { R.win with bX:=min (max f.dp 0) R.win.last }) yz ?_ ?_)
   ·rintro _ _ ⟨rfl,rfl⟩
    exact yv
   rintro _ _ ⟨rfl,rfl⟩
   refine bg ?_
   exact⟨(),trivial,aF,by rw[e];exact ER⟩
 rintro _ -
 have e1:(fC R f).ch=R.ch∧(fC R f).log=R.log∧(fC R f).aM=R.aM∧(fC R f).aL=R.aL:=by unfold fC;split<;>exact⟨rfl,rfl,rfl,rfl⟩
 refine AS ?_
 refine oH ?_
 refine AG (AQ 3 Z (fun Fr w hF hs hS=>Win.Pk Fr w ok1.win f.rL) Z Z (ψ:=fun v H=>v=.tuple #[]∧H=bq x.wp (jY R f).win) yz ?_ ?_)
 ·rintro _ _ ⟨rfl,rfl⟩
  exact yv
 rintro _ _ ⟨rfl,rfl⟩
 refine bg ?_
 refine AS ?_
 refine oH ?_
 refine AG (AQ 3 Z (fun Fr w hF hs hS=>Win.xV Fr w ok2.win f.index) Z Z (ψ:=fun v H=>v=.bool ((jY R f).win.mT f.index)∧H=bq x.wp ((jY R f).win.kD f.index)) yz ?_ ?_)
 ·rintro _ _ ⟨rfl,rfl⟩
  exact yv
 rintro _ _ ⟨rfl,rfl⟩
 refine bg ?_
 have oka:=F1 ok f
 have hrep:s9 p (jZ R f).1 x=[pt p (bh (fC R f) x) cy,av aN 2 x.a R.ch.ms.length x.c (flat aC R.ch.ms),bw x.lp R.log,bq x.wp ((jY R f).win.kD f.index),bb x.ap R.aM,br x.rp R.aL]:=by
  show [pt p (bh (fC R f) x) cy,av aN 2 x.a (fC R f).ch.ms.length x.c (flat aC (fC R f).ch.ms),bw x.lp (fC R f).log,_,bb x.ap (fC R f).aM,br x.rp (fC R f).aL]=_
  rw[e1.1,e1.2.1,e1.2.2.1,e1.2.2.2];rfl
 refine CN (L':=s9 p (jZ R f).1 x ++ [aT b S]) (by rw[hrep];exact(aZ [0,0,0,0,0,0,1]).ah) ?_
 refine CC Z (fun hb=>?_) (fun hb=>CK ?_)
 ·refine aj ?_
  refine VG (VQ 6 Z (fun Fr w hF hs hS=>zj (R:=(jZ R f).1) Fr w (fM.mG hS 0 Z Z Z Z Z Z) oka.ch oka.win yd) Z (ψ:=fun v H=>v=.tuple #[]∧H=aT b (S++(jZ R f).1.fO)) yz ?_)
  rintro _ _ ⟨rfl,rfl⟩
  refine aj ?_
  exact al.void Z (lC (R:=(jZ R f).1) (x:=x)).ah ⟨rfl,by rw[show(jZ R f).2=(jZ R f).1.fO by rw[jZ,hb];rfl]⟩
 ·exact al.void Z (lC (R:=(jZ R f).1) (x:=x)).ah ⟨rfl,by rw[show(jZ R f).2=[] by rw[jZ,hb];rfl,bA]⟩
def vV(aB:Int)(e:bS):aA:={ aA.zero with kind:=4,aB:=aB,entry:=e }
def dA(R:az):Nat→bE×List bU
 | 0=>(R.win,[])
 | k+1=>((dA R k).1.next,(dA R k).2 ++ [(R.dK,vV R.ch.aB ((eF R.log ((dA R k).1.bX+1)).getD ie))])
def iN(R:az):Nat:=(min R.win.last R.win.gS-R.win.bX).toNat
def sY(R:az):az×List bU:=({ R with win:=(dA R (iN R)).1 },(dA R (iN R)).2)
theorem zW(R:az):∀k,k≤iN R→(dA R k).1={ R.win with bX:=R.win.bX+k }
 | 0,_=>by simp[dA]
 | k+1,h=>by
  unfold iN at h
  rw[dA,zW R k (by unfold iN;omega)]
  have hb:({ R.win with bX:=R.win.bX+k }:bE).iL=true:=by simp only[bE.iL,dG,decide_eq_true_eq];omega
  rw[bE.next,if_pos hb]
  have:R.win.bX+(k:Int)+1=R.win.bX+((k+1:Nat):Int):=by push_cast;omega
  show bE.mk _ _ _ (R.win.bX+(k:Int)+1) _=bE.mk _ _ _ (R.win.bX+((k+1:Nat):Int)) _
  rw[this]
theorem DK(R:az):∀k,(dA R k).2.length=k
 | 0=>rfl
 | k+1=>by rw[dA,a_,DK R k];rfl
theorem IT{W:bE}(h:W.Ok):W.next.Ok:=by
 unfold bE.next
 split
 ·rename_i hb
  simp only[bE.iL,dG,decide_eq_true_eq] at hb
  have:=h.gd
  exact⟨h.dh,h.eN,h.kH,h.kI,h.ir,by show 0≤W.bX+1;omega,by show W.bX+1≤W.last;omega,h.sP,h.sQ⟩
 ·exact h
theorem DL{R:az}(h:R.Ok):∀k,(dA R k).1.Ok
 | 0=>h.win
 | k+1=>IT (DL h k)
end
section
variable {p:Nat} {R:az} {b:Nat} {S:List bU}
theorem DM(ok:R.Ok)(hS:S.length≤800000):aq Tryz.prog 240 [.pointer (some ⟨p,0,none⟩),dk b] Fr w [bd p R,aT b S]
  (fun v L=>v=.tuple #[]∧L=[bd p (sY R).1,aT b (S++(sY R).2)]):=by
 have w1:=ok.win.ir;have w2:=ok.win.gd;have w3:=ok.win.wX;have w4:=ok.win.sQ;have w5:=ok.win.sP
 have hlast:=ok.last
 have hK:iN R≤4096:=by unfold iN;omega
 refine TF 47 Tryz.func240 Z ym aw Z Z ?_
 refine u0 ?_
 rintro x -
 show VC _ _ _ (e7 p R x b S) _
 unfold e7
 refine aj ?_
 refine K6 ?_
 refine aj ?_
 have hnx:∀k,k≤iN R→((dA R k).1.iL=decide (k<iN R)):=fun k hk=>by
  rw[zW R k hk]
  unfold iN at hk ⊢
  simp only[bE.iL]
  by_cases h:(R.win.bX+(k:Int)<R.win.last)∧(R.win.bX+(k:Int)<R.win.gS)
  ·rw[DT h.1,DT h.2,DT yd];rfl
  ·rw[DF (show ¬k<(min R.win.last R.win.gS-R.win.bX).toNat by omega)]
   by_cases h1:R.win.bX+(k:Int)<R.win.last
   ·rw[DT h1,DF (fun h2=>h ⟨h1,h2⟩)];rfl
   ·rw[DF h1];rfl
 refine VG (VQ 3 Z (fun Fr w hF hs hS=>Win.qx Fr w ok.win) Z (ψ:=fun v H=>v=.tuple #[.int .i64 (if R.win.iL then R.win.bX+1 else 0),.bool R.win.iL]∧H=bq x.wp R.win.next) yz ?_)
 rintro _ _ ⟨rfl,rfl⟩
 refine aj ?_
 refine VC.loop (σ:=Nat) (fun k=>[(0,pV p),(1,dk b),(4,.int .i64 R.dK),(5,.int .i64 (if (dA R k).1.iL then (dA R k).1.bX+1 else 0)),(6,.bool (dA R k).1.iL)])
  (fun k=>[pt p (bh R x) cy,av aN 2 x.a R.ch.ms.length x.c (flat aC R.ch.ms),bw x.lp R.log,bq x.wp (dA R k).1.next,bb x.ap R.aM,br x.rp R.aL,aT b (S++(dA R k).2)])
  (fun k=>k≤iN R) (fun k=>iN R-k) 0
  (bK _) aF (by rw[show(dA R 0).2=[] from rfl,bA];exact ER) ?_
 intro k hk
 have hnk:=hnx k hk
 have hwk:=zW R k hk
 have hpl:=DK R k
 have hok:=DL ok k
 refine aj ?_
 refine CC Z (fun h1=>CK ?_) (fun h1=>CX ?_)
 ·have hk2:k<iN R:=by rw[h1] at hnk;exact of_decide_eq_true hnk.symm
  have hs1:(dA R k).1.bX=R.win.bX+k:=by rw[hwk]
  have hbd:R.win.bX+(k:Int)<R.win.last:=by unfold iN at hk2;omega
  have hwk2:(dA R (k+1)).1=(dA R k).1.next:=rfl
  rw[h1]
  obtain⟨j,e,hj1,hj2,hj3,hj4⟩:=yB (l:=R.log) (i:=(dA R k).1.bX+1) yd yd
  refine CS (VC.block ?_)
  refine aj ?_
  refine VG (VV (fun Fr w hF hs hS=>Lg.vF Fr w (hS.at_ 2 Z) ((dA R k).1.bX+1) yd yd) Z ?_)
  refine aj ?_
  refine VG (VO.alloc Z fun eb=>?_)
  refine VG (VT (vs:=bJ ((eF R.log ((dA R k).1.bX+1)).getD ie)) 0 Z Z Z Z (NR _) Z Z Z (VG (VN ?_)))
  refine CD (ts 0 9 (.only 9 .nil)) ym yo ?_
  refine eu ?_
  refine AG (VA.cK 0 (bJ ((eF R.log ((dA R k).1.bX+1)).getD ie)) Z Z Z Z Z ?_)
  refine AG (AI Z (LB (pv:=[(0,.int .i64 4),(1,.int .i64 R.ch.aB),(10,.agg (bJ ((eF R.log ((dA R k).1.bX+1)).getD ie)).toArray)]) (bW (vV R.ch.aB ((eF R.log ((dA R k).1.bX+1)).getD ie)) jh) Z Z Z ym Z) ?_)
  refine AG (VA.kF 7 Z Z (fun Fr w hF hs _=>qe Fr w b (S++(dA R k).2) pP R.dK (vV R.ch.aB ((eF R.log ((dA R k).1.bX+1)).getD ie))) Z Z (ψ:=fun v H=>v=.tuple #[]∧H=aT b (S++(dA R k).2 ++ [(R.dK,vV R.ch.aB ((eF R.log ((dA R k).1.bX+1)).getD ie))])) yz ?_ ?_)
  ·rintro _ _ ⟨rfl,rfl⟩
   exact yv
  rintro _ _ ⟨rfl,rfl⟩
  refine bg ?_
  refine cF ?_
  refine VG (VQ 4 Z (fun Fr w hF hs hS=>Win.qx Fr w (IT hok)) Z (ψ:=fun v H=>v=.tuple #[.int .i64 (if (dA R (k+1)).1.iL then (dA R (k+1)).1.bX+1 else 0),.bool (dA R (k+1)).1.iL]∧H=bq x.wp (dA R (k+1)).1.next) yz ?_)
  rintro _ _ ⟨rfl,rfl⟩
  refine aj ?_
  refine⟨k+1,hk2,by dsimp only;omega,aF,?_⟩
  dsimp only
  rw[show(dA R (k+1)).2=(dA R k).2 ++ [(R.dK,vV R.ch.aB ((eF R.log ((dA R k).1.bX+1)).getD ie))] from rfl,←eV]
  exact(aZ [1,1,1,1,1,1,1]).ah
 ·have hk2:k=iN R:=by
   rw[h1] at hnk
   have:¬k<iN R:=of_decide_eq_false hnk.symm
   omega
  have hwn:(dA R k).1.next=(dA R k).1:=by rw[bE.next,h1];rfl
  rw[hwn,hk2]
  exact al.void Z (aa.rep (R:=(sY R).1) x (IP 0 Z (IP 0 Z (IP 0 Z (IP 0 Z (IP 0 Z (IP 0 Z (IP 0 Z aa.nil)))))))).ah ⟨rfl,Z⟩
end
end Rep
namespace Rep
open Go Vg T Api Kv Ch Lg Rd Win Adm Sched
attribute [local irreducible] VO VC VA
def refs(aB:Int)(gs:List aA)(reason:Int):List bU:=gs.map fun f=>(32+f.aI,gA aB f reason)
def dV(R:az)(now:Int):aA:=(de (R.aM.fa now).aO).1
def wE(R:az)(now:Int):Bool:=(de (R.aM.fa now).aO).2.1
def eJ(R:az)(now:Int):bS:=⟨R.log.length+1,(dV R now).aI,(dV R now).seq,(dV R now).op⟩
def nq(R:az)(now:Int):az:={ R with aM:=R.aM.dK now }
def fi(R:az)(now:Int):az×List bU×Bool:=
 if wE R now=false then (nq R now,refs R.ch.aB (R.aM.aO.cY now) 2,false)
 else if fZ R.log (eJ R now)≠0 then ({ R with aM:=((R.aM.dK now).dw (dV R now).aI (dV R now).seq (dV R now).bz).2 },refs R.ch.aB (R.aM.aO.cY now) 2 ++ [(32+(dV R now).aI,gA R.ch.aB (dV R now) 7)],true)
 else ((fv (nq R now) (eJ R now)).dt,refs R.ch.aB (R.aM.aO.cY now) 2++(fv (nq R now) (eJ R now)).lj,true)
theorem Dt{R:az}(h:R.Ok)(now:Int):(nq R now).Ok:=⟨h.ch,h.win,h.last,h.jd,h.je,h.fR,h.fG,h.rl,h.jl,h.jK,h.iO,Rb h.wf h.calls now,Re h.wf now⟩
theorem Gm{A:aK}(h:A.Calls)(k s t:Int):(A.dw k s t).2.Calls:=by
 have e:(A.dw k s t).2.aO=A.aO∧(A.dw k s t).2.bt=A.bt:=by
  unfold aK.dw
  split
  ·exact⟨by show(A.hZ k s t).aO=_;unfold aK.hZ;split<;>rfl,BU A k s t⟩
  ·exact⟨rfl,Z⟩
 unfold aK.Calls
 rw[e.1,e.2];exact h
theorem vB{R:az}(h:R.Ok){A:aK}(hC:A.Calls)(hW:A.Wf):({ R with aM:=A }:az).Ok:=⟨h.ch,h.win,h.last,h.jd,h.je,h.fR,h.fG,h.rl,h.jl,h.jK,h.iO,hC,hW⟩
theorem Ap{R:az}(h:R.Ok)(hr:R.win.room=true)(now:Int):(fi R now).1.Ok:=by
 have hn:=Dt h now
 unfold fi
 split
 ·exact hn
 split
 ·exact vB h (Gm hn.calls _ _ _) (hn.wf.dw _ _ _)
 ·rename_i h2
  exact ud (uE hn (by show fZ R.log _=0;omega) hr)
theorem zi{R:az}(h:R.Ok)(now:Int):(R.aM.aO.cY now).length≤64:=by
 have:=aH.Wf.Cw h.wf.aO R.aM.aO.cls.length now
 rw[jR] at this;exact this
theorem Rc{R:az}(h:R.Ok)(now:Int)(ho:wE R now=true):0≤(dV R now).aI∧(dV R now).aI<6:=by
 obtain⟨h1,h2,h3⟩:=rE h.wf now
 obtain⟨k,q,e1,e2⟩:=zZ h1.aO ho
 have hc:=yY h.wf h.calls now _ (ME e1) (dV R now) (by simp[dV])
 have:=h.wf.c1
 exact⟨hc.1.1,by have:=hc.1.2;rw[h2] at this;omega⟩
section
variable {p:Nat} {R:az} {b:Nat} {S:List bU}
theorem SJ(ok:R.Ok)(hr:R.win.room=true)(hS:S.length≤800000)(now:Int):aq Tryz.prog 239 [.pointer (some ⟨p,0,none⟩),.int .i64 now,dk b] Fr w [bd p R,aT b S]
  (fun v L=>v=.bool (fi R now).2.2∧L=[bd p (fi R now).1,aT b (S++(fi R now).2.1)]):=by
 have hg64:=zi ok now
 have hn:=Dt ok now
 have hgc:=CU ok.calls now
 have hc6:=ok.wf.c1
 refine TF 85 Tryz.func239 Z ym aw Z Z ?_
 refine u0 ?_
 rintro x -
 show VC _ _ _ (e7 p R x b S) _
 unfold e7
 refine aj ?_
 refine VO.ah (L':=[bb x.ap R.aM,pt p (bh R x) cy,av aN 2 x.a R.ch.ms.length x.c (flat aC R.ch.ms),bw x.lp R.log,bq x.wp R.win,br x.rp R.aL,aT b S]) (aZ [4,0,0,0,0,0,0]).ah ?_
 refine VG (VK (Lc:=[bb x.ap R.aM]) (fun Fr w hF hs hS=>Adm.qx Fr w x.ap R.aM now ok.wf ok.calls) Z Z ?_)
 rintro _ _ ⟨r,m,rok,hrx,rfl,rfl⟩
 show VO _ _ _ _ _ [r.h 353,bb x.ap (R.aM.dK now),pt p (bh R x) cy,av aN 2 x.a R.ch.ms.length x.c (flat aC R.ch.ms),bw x.lp R.log,bq x.wp R.win,br x.rp R.aL,aT b S] _
 refine aj ?_
 refine VG (VO.alloc Z fun fb=>?_)
 refine VG (VT (vs:=aS (dV R now,m)) 0 Z Z Z Z (NR _) Z Z Z ?_)
 have hrv:r.v=.slice r.addr r.xs.length r.cap:=rfl
 rw[hrv]
 refine aj ?_
 refine VC.loop (σ:=Nat) (fun i=>[(0,pV p),(2,dk b),(7,pV fb),(8,.bool (wE R now)),(25,.slice r.addr r.xs.length r.cap),(26,.int .i64 r.xs.length),(27,.int .i64 i)])
  (fun i=>[pt fb (aS (dV R now,m)) bM,r.h bM,bb x.ap (R.aM.dK now),pt p (bh R x) cy,av aN 2 x.a R.ch.ms.length x.c (flat aC R.ch.ms),bw x.lp R.log,bq x.wp R.win,br x.rp R.aL,aT b (S++refs R.ch.aB ((R.aM.aO.cY now).take i) 2)])
  (fun i=>i≤r.xs.length) (fun i=>r.xs.length-i) 0
  (bK _) aF (by rw[p5,show refs R.ch.aB [] 2=[] from rfl,bA];exact ER) ?_
 intro i hi
 have hxl:r.xs.length=(R.aM.aO.cY now).length:=by rw[←hrx];simp
 refine aj ?_
 refine CP Z (fun h1=>CK ?_) (fun h1=>CX ?_)
 ·have hi2:i<r.xs.length:=by omega
  obtain⟨g,hg⟩:∃g,r.xs[i]?=some g:=⟨_,GE hi2⟩
  have hgg:(R.aM.aO.cY now)[i]?=some g.1:=by rw[←hrx,dH,hg];rfl
  have hcl:=hgc g.1 (ME hgg)
  obtain⟨gb,go,r1,r2,hrd⟩:=rok.ld (t:=bM) hg rfl
  rw[r2]
  refine sf ?_
  refine VG (VO.load Z Z ((hrd 1 Z).1 _ Z Z) ?_)
  refine VG (VO.alloc Z fun tb=>?_)
  refine VG (VT (vs:=aS g) 0 Z Z Z Z (NR _) Z Z Z ?_)
  refine aj ?_
  refine VG (VL 0 (aS g) Z Z Z Z ?_)
  refine VG (VQ 9 Z (fun Fr w hF hs hS=>s8 Fr w (hS.ar 4 Z) L9 g.1 g.2 hcl.1.1 (by have:=hcl.1.2;omega) 2) Z (ψ:=fun v H=>v=.tuple #[]∧H=aT b (S++refs R.ch.aB ((R.aM.aO.cY now).take i) 2 ++ [(32+g.1.aI,gA R.ch.aB g.1 2)])) yz ?_)
  rintro _ _ ⟨rfl,rfl⟩
  refine gG ?_
  refine⟨i+1,hi2,by dsimp only;omega,aF,?_⟩
  dsimp only
  rw[show refs R.ch.aB ((R.aM.aO.cY now).take (i+1)) 2=refs R.ch.aB ((R.aM.aO.cY now).take i) 2 ++ [(32+g.1.aI,gA R.ch.aB g.1 2)] by rw[fS,hgg];simp[refs],←eV]
  exact(aZ [1,1,1,1,1,1,1,1,1]).ah
 ·obtain rfl:i=r.xs.length:=by omega
  rw[hxl,jR]
  have hrl:(refs R.ch.aB (R.aM.aO.cY now) 2).length≤64:=by rw[refs,dW];exact hg64
  refine aj ?_
  refine VC.ey Z (fun ho=>?_) (fun ho=>CK ?_)
  ·refine aj ?_
   exact CR (al.tmp 6 Z Z (aa.rep (R:=nq R now) x (IP 3 Z (IP 3 Z (IP 3 Z (IP 3 Z (IP 2 Z (IP 2 Z (IP 2 Z aa.nil)))))))).ah ⟨by rw[fi,if_pos ho],by rw[fi,if_pos ho]⟩)
  have hno:¬wE R now=false:=by rw[ho];simp
  have hcf:=Rc ok now ho
  have w1:=ok.win.ir;have hla:=ok.last
  refine CS ?_
  refine VC.cZ (σ:=Nat) (fun eb=>[(0,pV p),(2,dk b),(7,pV fb),(12,pV eb)]) (fun eb=>[pt eb (bJ (eJ R now)) e_,pt fb (aS (dV R now,m)) bM,r.h bM,bb x.ap (R.aM.dK now),pt p (bh R x) cy,av aN 2 x.a R.ch.ms.length x.c (flat aC R.ch.ms),bw x.lp R.log,bq x.wp R.win,br x.rp R.aL,aT b (S++refs R.ch.aB (R.aM.aO.cY now) 2)]) (fun _=>True) ?_ ?_
  ·refine CD (ts 0 4 (ts 6 6 (.two 4 13 (.take 5 (.take 12 (.only 13 (.only 14 .nil)))) (.only 4 (.take 5 (.take 12 (.only 14 .nil))))))) ym yo ?_
   refine gi ?_
   refine AG (VA.cK 0 (dV R now).op.cells Z Z Z Z Z ?_)
   refine AG (VA.two Z Z Z Z Z (aG.dI (φ:=fun v=>v=.int .i64 R.log.length) (fun Fr w hF hs hS=>Lg.kO Fr w (hS.at_ 5 Z)) Z) Z Z Z (aG.alloc Z) ?_ ?_ ?_ ?_)
   ·rintro _ _ ⟨rfl,rfl⟩
    exact yv
   ·rintro _ _ ⟨eb,rfl,rfl⟩
    exact yv
   ·rintro _ _ ⟨rfl,rfl⟩
    refine pK ?_
    refine K7 ?_
    refine AG (AO (aG.alloc Z) Z ?_ ?_)
    ·rintro _ _ ⟨eb,rfl,rfl⟩
     exact yv
    rintro _ _ ⟨eb,rfl,rfl⟩
    refine AG (AT (vs:=bJ (eJ R now)) 0 Z Z Z Z Z (NR _) Z Z Z yv ?_)
    refine bg ?_
    exact⟨eb,trivial,aF,ER⟩
   ·rintro _ _ ⟨eb,rfl,rfl⟩
    refine AG (AO (aG.dI (φ:=fun v=>v=.int .i64 R.log.length) (fun Fr w hF hs hS=>Lg.kO Fr w (hS.at_ 6 Z)) Z) Z ?_ ?_)
    ·rintro _ _ ⟨rfl,rfl⟩
     exact yv
    rintro _ _ ⟨rfl,rfl⟩
    refine pK ?_
    refine K7 ?_
    refine AG (AT (vs:=bJ (eJ R now)) 0 Z Z Z Z Z (NR _) Z Z Z yv ?_)
    refine bg ?_
    exact⟨eb,trivial,aF,ER⟩
  rintro eb -
  refine CS (CS ?_)
  refine VC.cZ (σ:=Nat) (fun rb=>[(0,pV p),(2,dk b),(7,pV fb),(14,.int .i64 (fZ R.log (eJ R now)))]) (fun rb=>[pt rb (a8 (lU R.log (eJ R now))) fH,pt eb (bJ (eJ R now)) e_,pt fb (aS (dV R now,m)) bM,r.h bM,bb x.ap (R.aM.dK now),pt p (bh R x) cy,av aN 2 x.a R.ch.ms.length x.c (flat aC R.ch.ms),bw x.lp (jc R.log (eJ R now)),bq x.wp R.win,br x.rp R.aL,aT b (S++refs R.ch.aB (R.aM.aO.cY now) 2)]) (fun _=>True) ?_ ?_
  ·refine K5 ?_
   refine pL ?_
   refine AG (VA.cK 0 (bJ (eJ R now)) Z Z Z Z Z ?_)
   refine AG (VA.two Z Z Z Z Z (aG.mq (ψ:=fun v H=>v=.tuple #[.agg (a8 (lU R.log (eJ R now))).toArray,.int .i64 (fZ R.log (eJ R now))]∧H=bw x.lp (jc R.log (eJ R now))) 6 Z (fun Fr w hF hs hS=>Lg.xY Fr w x.lp R.log (eJ R now)) Z yz) Z Z Z (aG.alloc Z) ?_ ?_ ?_ ?_)
   ·rintro _ _ ⟨_,⟨rfl,rfl⟩,rfl⟩
    exact yv
   ·rintro _ _ ⟨rb,rfl,rfl⟩
    exact yv
   ·rintro _ _ ⟨_,⟨rfl,rfl⟩,rfl⟩
    refine bg ?_
    refine AG (AO (aG.alloc Z) Z ?_ ?_)
    ·rintro _ _ ⟨rb,rfl,rfl⟩
     exact yv
    rintro _ _ ⟨rb,rfl,rfl⟩
    refine K8 ?_
    exact BC
   ·rintro _ _ ⟨rb,rfl,rfl⟩
    refine AG (AO (aG.mq (ψ:=fun v H=>v=.tuple #[.agg (a8 (lU R.log (eJ R now))).toArray,.int .i64 (fZ R.log (eJ R now))]∧H=bw x.lp (jc R.log (eJ R now))) 7 Z (fun Fr w hF hs hS=>Lg.xY Fr w x.lp R.log (eJ R now)) Z yz) Z ?_ ?_)
    ·rintro _ _ ⟨_,⟨rfl,rfl⟩,rfl⟩
     exact yv
    rintro _ _ ⟨_,⟨rfl,rfl⟩,rfl⟩
    refine bg ?_
    refine K8 ?_
    exact BC
  rintro rb -
  refine aj ?_
  refine VC.dd Z (fun he=>?_) (fun he=>CK ?_)
  ·have hap:jc R.log (eJ R now)=R.log:=by rw[jc,if_neg he]
   rw[hap]
   refine EN ?_
   refine kx ?_
   refine AG (AQ 4 Z (fun Fr w hF hs hS=>yH Fr w x.ap (R.aM.dK now) (dV R now).aI (dV R now).seq (dV R now).bz) Z Z (ψ:=fun v H=>H=bb x.ap ((R.aM.dK now).dw (dV R now).aI (dV R now).seq (dV R now).bz).2) (fun v L h=>⟨_,h.2,Z⟩) ?_ ?_)
   ·rintro _ _ rfl
    exact yv
   rintro _ _ rfl
   refine sh ?_
   refine VG (VL 2 (aS (dV R now,m)) Z Z Z Z ?_)
   refine VG (VQ 10 Z (fun Fr w hF hs hS=>s8 Fr w (hS.ar 5 Z) pP (dV R now) m hcf.1 yd 7) Z (ψ:=fun v H=>v=.tuple #[]∧H=aT b (S++refs R.ch.aB (R.aM.aO.cY now) 2 ++ [(32+(dV R now).aI,gA R.ch.aB (dV R now) 7)])) yz ?_)
   rintro _ _ ⟨rfl,rfl⟩
   refine aj ?_
   exact CR (al.tmp 6 Z Z (aa.rep (R:={ R with aM:=((R.aM.dK now).dw (dV R now).aI (dV R now).seq (dV R now).bz).2 }) x (IP 5 Z (IP 5 Z (IP 5 Z (IP 5 Z (IP 4 Z (IP 4 Z (IP 4 Z aa.nil)))))))).ah ⟨by rw[fi,if_neg hno,if_pos he],by rw[fi,if_neg hno,if_pos he,←eV]⟩)
  have hap:jc R.log (eJ R now)=R.log ++ [eJ R now]:=by rw[jc,if_pos he]
  rw[hap]
  have okp:=uE hn (e:=eJ R now) he hr
  refine AU ?_
  refine VG (VQ 8 Z (fun Fr w hF hs hS=>Win.s6 Fr w ok.win hr) Z (ψ:=fun v H=>v=.bool true∧H=bq x.wp { R.win with last:=R.win.last+1 }) yz ?_)
  rintro _ _ ⟨rfl,rfl⟩
  refine VO.ah (L':=[bd p (fv (nq R now) (eJ R now)),aT b (S++refs R.ch.aB (R.aM.aO.cY now) 2)]) (aa.rep (R:=fv (nq R now) (eJ R now)) x (aZ [5,5,5,5,4,4,4])).ah ?_
  refine aj ?_
  refine VG (VK (Lc:=[bd p (fv (nq R now) (eJ R now)),aT b (S++refs R.ch.aB (R.aM.aO.cY now) 2)]) (Lr:=[]) (fun Fr w hF hs hS=>Cy Fr w okp pP) Z Z ?_)
  rintro _ _ ⟨rfl,rfl⟩
  refine aj ?_
  exact CR (al.tmp 6 Z Z ER ⟨by rw[fi,if_neg hno,if_neg (fun h=>h he)],by rw[fi,if_neg hno,if_neg (fun h=>h he),←eV];rfl⟩)
end
end Rep
namespace Rep
open Go Vg T Api Kv Ch Lg Rd Win Adm Sched
attribute [local irreducible] VO VC VA
def r4(qs:List (List aA)):Nat:=(qs.map List.length).sum
def pG(A:aK):Nat:=r4 A.aO.qs
theorem J6:∀{qs:List (List aA)} {k:Nat} {f:aA} {q:List aA},qs[k]?=some (f::q)→r4 (qs.set k q)+1=r4 qs
 | [],k,f,q,h=>by simp at h
 | x::qs,0,f,q,h=>by
  simp only[sn,Option.some.injEq] at h
  subst h
  simp[r4];omega
 | x::qs,k+1,f,q,h=>by
  have ih:=J6 (qs:=qs) (k:=k) (f:=f) (q:=q) yc
  simp only[r4,vt,kV,List.sum_cons] at ih ⊢
  omega
theorem J5(p:aA→Bool):∀qs:List (List aA),r4 (qs.map fun q=>q.filter p)≤r4 qs
 | []=>NR _
 | x::qs=>by
  have ih:=J5 p qs
  have:=nP p x
  simp only[r4,kV,List.sum_cons] at ih ⊢
  omega
theorem XH{R:az}(h:R.Ok)(now:Int)(ho:wE R now=true):pG (R.aM.dK now)<pG R.aM:=by
 obtain⟨h1,h2,h3⟩:=rE h.wf now
 obtain⟨k,q,e1,e2⟩:=zZ h1.aO ho
 have e3:(R.aM.dK now).aO=(de (R.aM.fa now).aO).2.2:=by
  unfold aK.dK
  split<;>rfl
 have h4:=J6 e1
 have h5:=J5 (stay now) R.aM.aO.qs
 rw[←Hq,←h3] at h5
 unfold pG
 rw[e3,e2]
 omega
theorem XG{R:az}(h:R.Ok):pG R.aM≤64:=by
 have:=aH.Wf.my h.wf.aO R.aM.aO.cls.length
 rw[jR,List.length_flatMap] at this
 show((R.aM.aO.cls.map cm.q).map List.length).sum≤64
 rw[lG];exact this
theorem SK{R:az}(h:R.Ok)(now:Int)(ho:(fi R now).2.2=true):pG (fi R now).1.aM<pG R.aM:=by
 unfold fi at ho ⊢
 split at ho
 ·cases ho
 ·rename_i h1
  have hn:=XH h now (by simpa using h1)
  rw[if_neg h1]
  split
  ·have e:((R.aM.dK now).dw (dV R now).aI (dV R now).seq (dV R now).bz).2.aO=(R.aM.dK now).aO:=by
    unfold aK.dw
    split
    ·show((R.aM.dK now).hZ _ _ _).aO=_;unfold aK.hZ;split<;>rfl
    ·rfl
   show pG ((R.aM.dK now).dw _ _ _).2<_
   unfold pG at hn ⊢
   rw[e];exact hn
  ·have e:(fv (nq R now) (eJ R now)).dt.aM=R.aM.dK now:=by unfold az.dt;split<;>rfl
   show pG (fv (nq R now) (eJ R now)).dt.aM<_
   rw[e];exact hn
theorem JI{R:az}(h:R.Ok)(hr:R.win.room=true)(now:Int):(fi R now).2.1.length≤4200:=by
 have hg:(refs R.ch.aB (R.aM.aO.cY now) 2).length≤64:=by rw[refs,dW];exact zi h now
 unfold fi
 split
 ·show(refs _ _ _).length≤4200;omega
 split
 ·show(refs R.ch.aB (R.aM.aO.cY now) 2 ++ [(32+(dV R now).aI,gA R.ch.aB (dV R now) 7)]).length≤4200;rw[a_];simp;omega
 ·rename_i h2
  have:=vS (uE (Dt h now) (e:=eJ R now) (by show fZ R.log _=0;omega) hr)
  show(refs R.ch.aB (R.aM.aO.cY now) 2++(fv (nq R now) (eJ R now)).lj).length≤4200
  rw[a_];omega
def jL(now:Int):Nat→az→az×List bU
 | 0,R=>(R,[])
 | k+1,R=>if R.win.room=true then
   if (fi R now).2.2=true then ((jL now k (fi R now).1).1,(fi R now).2.1++(jL now k (fi R now).1).2)
   else ((fi R now).1,(fi R now).2.1)
  else (R,[])
def ig(R:az)(now:Int):az:={ R with aL:={ R.aL with l:=R.aL.l.filter (ph now) } }
def ij(R:az)(now:Int):List bU:=refs R.ch.aB ((R.aL.l.filter (fun y=>!ph now y)).map ss.f) 2
def tg(R:az):Bool:=R.sJ&&(R.whole && !R.gP)
def step2(R:az)(now:Int):az×List bU:=if tg (ig R now) then jL now 65 (ig R now) else (ig R now,[])
def jM(R:az)(now:Int):az×List bU:=if (step2 R now).1.linked then sY (step2 R now).1 else ((step2 R now).1,[])
def gY(R:az)(now:Int):az×List bU:=((jM R now).1,ij R now++(step2 R now).2++(jM R now).2)
theorem yX{R:az}(h:R.Ok)(now:Int):(ig R now).Ok:=⟨h.ch,h.win,h.last,h.jd,h.je,h.fR,h.fG,by
 have:=h.rl;have h2:=nP (ph now) R.aL.l
 show((R.aL.l.filter (ph now)).length:Int)≤R.aL.cap;omega,h.jl,h.jK,fun y hy=>h.iO y (gL.1 hy).1,h.calls,h.wf⟩
theorem JH(now:Int):∀(k:Nat) {R:az},R.Ok→(jL now k R).1.Ok
 | 0,R,h=>h
 | k+1,R,h=>by
  rw[jL]
  split
  ·rename_i hr
   split
   ·exact JH now k (Ap h hr now)
   ·exact Ap h hr now
  ·exact h
theorem Ei(now:Int):∀(k:Nat) {R:az},R.Ok→(jL now k R).2.length≤k*4200
 | 0,R,h=>NR _
 | k+1,R,h=>by
  rw[jL]
  split
  ·rename_i hr
   have h1:=JI h hr now
   split
   ·have:=Ei now k (Ap h hr now)
    rw[a_];omega
   ·show(fi R now).2.1.length≤_;omega
  ·simp
theorem RH{R:az}(h:R.Ok):(sY R).1.Ok:=by
 have hw:=DL h (iN R)
 have e:=zW R (iN R) (NR _)
 exact⟨h.ch,hw,by show(dA R (iN R)).1.last=_;rw[e];exact h.last,h.jd,h.je,h.fR,h.fG,h.rl,h.jl,h.jK,h.iO,h.calls,h.wf⟩
theorem At{R:az}(h:R.Ok)(now:Int):(step2 R now).1.Ok:=by
 unfold step2
 split
 ·exact JH now 65 (yX h now)
 ·exact yX h now
theorem Tn{R:az}(h:R.Ok)(now:Int):(gY R now).1.Ok:=by
 show(jM R now).1.Ok
 unfold jM
 split
 ·exact RH (At h now)
 ·exact At h now
section
variable {p:Nat} {R:az}
def bX(S:List bU)(v:Value)(L:List HP)(H:List HP):Prop:=∃a c,v=.slice a S.length c∧L=H ++ [av e8 30 a S.length c (flat pE S)]
theorem Tq(ok:R.Ok)(now:Int):aq Tryz.prog 189 [.pointer (some ⟨p,0,none⟩),.int .i64 now] Fr w [bd p R]
  (fun v L=>bX (gY R now).2 v L [bd p (gY R now).1]):=by
 have hrl:R.aL.l.length≤16:=by have:=ok.rl;have:=ok.fG;omega
 have ok1:=yX ok now
 have ok2:=At ok now
 refine TF 72 Tryz.func189 Z ym aw Z Z ?_
 refine u0 ?_
 rintro x -
 show VC _ _ _ [pt p (bh R x) cy,av aN 2 x.a R.ch.ms.length x.c (flat aC R.ch.ms),bw x.lp R.log,bq x.wp R.win,bb x.ap R.aM,br x.rp R.aL] _
 refine aj ?_
 refine E1 ?_
 refine pT ?_
 refine VG (VO.alloc Z fun ob=>?_)
 refine aj ?_
 refine E2 ?_
 refine cF ?_
 refine VO.ah (L':=[br x.rp R.aL,pt p (bh R x) cy,av aN 2 x.a R.ch.ms.length x.c (flat aC R.ch.ms),bw x.lp R.log,bq x.wp R.win,bb x.ap R.aM,aT ob []]) (IP 6 Z (IP 1 Z (IP 1 Z (IP 1 Z (IP 1 Z (IP 1 Z (aa.out (none,0) (IP 0 Z (aa.cN aa.nil))))))))).ah ?_
 refine VG (VK (Lc:=[br x.rp R.aL]) (fun Fr w hF hs hS=>Rd.ub Fr w ok.fR yd now) Z Z ?_)
 rintro _ _ ⟨ga,gc,rows,hrows,rfl,rfl⟩
 have hrowl:rows.length≤16:=by
  have:=congrArg List.length hrows
  rw[dW] at this
  have h2:=nP (fun y=>!ph now y) R.aL.l
  omega
 show VO _ _ _ _ _ [br x.rp (ig R now).aL,av dM 34 ga rows.length gc (flat cM rows),pt p (bh R x) cy,av aN 2 x.a R.ch.ms.length x.c (flat aC R.ch.ms),bw x.lp R.log,bq x.wp R.win,bb x.ap R.aM,aT ob []] _
 refine VO.bu 1 Z (aY.rl dM ga gc rows wN) ?_
 rintro r ⟨rok,hrv,hrx⟩
 show VO _ _ _ _ _ [r.h dM,br x.rp (ig R now).aL,pt p (bh R x) cy,av aN 2 x.a R.ch.ms.length x.c (flat aC R.ch.ms),bw x.lp R.log,bq x.wp R.win,bb x.ap R.aM,aT ob []] _
 refine aj ?_
 have hexp:∀i,i≤rows.length→((rows.take i).map fun y=>y.1.f).length=i:=fun i hi=>by simp;omega
 refine VC.loop (σ:=Nat) (fun i=>[(0,pV p),(1,.int .i64 now),(5,pV ob),(6,dk ob),(18,.slice ga rows.length gc),(19,.int .i64 rows.length),(20,.int .i64 i)])
  (fun i=>[r.h dM,br x.rp (ig R now).aL,pt p (bh R x) cy,av aN 2 x.a R.ch.ms.length x.c (flat aC R.ch.ms),bw x.lp R.log,bq x.wp R.win,bb x.ap R.aM,aT ob (refs R.ch.aB ((rows.take i).map fun y=>y.1.f) 2)])
  (fun i=>i≤rows.length) (fun i=>rows.length-i) 0
  (bK _) aF ER ?_
 intro i hi
 refine aj ?_
 refine CP Z (fun h1=>CK ?_) (fun h1=>CX ?_)
 ·have hi2:i<rows.length:=by omega
  obtain⟨g,hg⟩:∃g,rows[i]?=some g:=⟨_,GE hi2⟩
  have hgm:g.1∈R.aL.l:=by
   have h2:g.1∈rows.map Prod.fst:=eC.2 ⟨g,ME hg,rfl⟩
   rw[hrows] at h2
   exact(gL.1 h2).1
  have hcl:=ok.iO g.1 hgm
  obtain⟨gb,go,r1,r2,hrd⟩:=rok.ld (t:=dM) (hrx▸hg) rfl
  obtain rfl:ga=some ⟨gb,go,none⟩:=by rw[RL.v,r2,hrx] at hrv;injection hrv with e1;exact e1.symm
  refine sf ?_
  refine E3 ?_
  refine VG (VO.alloc Z fun tb=>?_)
  refine E4 ?_
  refine aj ?_
  refine VG (VL 0 (bW g.1.f g.2) Z Z Z Z ?_)
  refine VG (VQ 8 Z (fun Fr w hF hs hS=>s8 Fr w (hS.ar 3 Z) (by rw[refs,dW,hexp i yd];omega) g.1.f g.2 hcl.1 yd 2) Z (ψ:=fun v H=>v=.tuple #[]∧H=aT ob (refs R.ch.aB ((rows.take i).map fun y=>y.1.f) 2 ++ [(32+g.1.f.aI,gA R.ch.aB g.1.f 2)])) yz ?_)
  rintro _ _ ⟨rfl,rfl⟩
  refine gG ?_
  refine⟨i+1,hi2,by dsimp only;omega,aF,?_⟩
  dsimp only
  rw[show refs R.ch.aB ((rows.take (i+1)).map fun y=>y.1.f) 2=refs R.ch.aB ((rows.take i).map fun y=>y.1.f) 2 ++ [(32+g.1.f.aI,gA R.ch.aB g.1.f 2)] by rw[fS,hg];simp[refs]]
  exact(aZ [1,1,1,1,1,1,1,1]).ah
 obtain rfl:i=rows.length:=by omega
 rw[jR]
 have hes:refs R.ch.aB (rows.map fun y=>y.1.f) 2=ij R now:=by
  unfold ij
  rw[←hrows,lG];rfl
 have hel:(ij R now).length≤16:=by rw[←hes,refs,dW,dW];exact hrowl
 rw[hes]
 refine CN (L':=[bd p (ig R now),aT ob (ij R now)]) (aa.rep (R:=ig R now) x (aZ [2,2,2,2,2,1,1])).ah ?_
 have hl2:(step2 R now).2.length≤273000:=by
  unfold step2
  split
  ·have:=Ei now 65 ok1;omega
  ·simp
 refine CS ?_
 refine VC.cZ (σ:=Unit) (fun _=>[(0,pV p),(5,pV ob),(6,dk ob)]) (fun _=>[bd p (step2 R now).1,aT ob (ij R now++(step2 R now).2)]) (fun _=>True) ?_ ?_
 ·have no:tg (ig R now)=false→∀{X:Cx} {y:kY},cI X (e7 p (ig R now) y ob (ij R now)) [bd p (step2 R now).1,aT ob (ij R now++(step2 R now).2)]:=fun h {X} {y}=>by
   have e:step2 R now=(ig R now,[]):=by rw[step2,h];rfl
   rw[e,bA];exact lC.ah
  refine VC.bu 0 Z (aY.rep p (ig R now)) ?_
  rintro x2 -
  show VC _ _ _ (e7 p (ig R now) x2 ob (ij R now)) _
  refine aj ?_
  refine VG (VV (fun Fr w hF hs hS=>v7 Fr w (fM.mG hS 0 Z Z Z Z Z Z).ar (fM.mG hS 0 Z Z Z Z Z Z).mem ok1.ch) Z ?_)
  refine aj ?_
  cases h1:(ig R now).sJ with
  | false=>
   refine VG (VY 32 false Z Z ?_)
   refine bF ?_
   refine VG (VY 38 false Z Z ?_)
   refine qV ?_
   exact⟨(),trivial,aF,no (by rw[tg,h1];rfl)⟩
  | true=>
  refine VG (VY 32 true Z Z ?_)
  refine bF ?_
  cases h2:R.whole with
  | false=>
   refine VG (VY 38 false Z h2 ?_)
   refine qV ?_
   exact⟨(),trivial,aF,no (by rw[tg,h1];show(true&&(R.whole&&_))=false;rw[h2];rfl)⟩
  | true=>
  refine VG (VY 38 true Z h2 ?_)
  refine bF ?_
  refine VG (VV (fun Fr w hF hs hS=>yR Fr w (fM.mG hS 0 Z Z Z Z Z Z).ar) Z ?_)
  refine bF ?_
  refine VC.ey Z (fun h3=>?_) (fun h3=>CK ?_)
  rotate_left
  ·exact⟨(),trivial,aF,no (by rw[tg,h1,h3];show(true&&(R.whole&&_))=false;rw[h2];rfl)⟩
  have hsb:tg (ig R now)=true:=by rw[tg,h1,h3];show(true&&(R.whole&&_))=true;rw[h2];rfl
  have he2:step2 R now=jL now 65 (ig R now):=by rw[step2,hsb];rfl
  have ht:=XG ok1
  refine CN (L':=[bd p (ig R now),aT ob (ij R now)]) lC.ah ?_
  refine aj ?_
  refine VC.loop (σ:=Nat×az×List bU) (fun _=>[(0,pV p),(1,.int .i64 now),(5,pV ob),(6,dk ob)]) (fun y=>[bd p y.2.1,aT ob (ij R now++y.2.2)])
   (fun y=>y.2.1.Ok∧pG y.2.1.aM<y.1∧y.2.2.length+y.1*4200≤273000∧jL now 65 (ig R now)=((jL now y.1 y.2.1).1,y.2.2++(jL now y.1 y.2.1).2)) (fun y=>y.1) (65,ig R now,[])
   ⟨ok1,by dsimp only;omega,by simp,rfl⟩ aF (by dsimp only;rw[bA];exact ER) ?_
  rintro⟨k,Q,T⟩ ⟨okQ,htQ,hlT,hlp⟩
  dsimp only at okQ htQ hlT hlp ⊢
  obtain⟨k,rfl⟩:∃j,k=j+1:=⟨k-1,by omega⟩
  have q1:=okQ.win.ir;have q2:=okQ.last
  refine VC.bu 0 Z (aY.rep p Q) ?_
  rintro x3 -
  show VC _ _ _ (e7 p Q x3 ob (ij R now++T)) _
  unfold e7
  refine aj ?_
  refine VG (VV (fun Fr w hF hs hS=>Win.free_spec Fr w (hS.ar 3 Z) okQ.win) Z ?_)
  refine aj ?_
  by_cases hroom:Q.win.room=true
  ·have hr2:Q.win.last<Q.win.done+Q.win.cap∧Q.win.last<4096:=by simpa[bE.room] using hroom
   refine VG (VY 49 true Z (DT yd) ?_)
   refine bF ?_
   refine VG (VV (fun Fr w hF hs hS=>Lg.kO Fr w (hS.at_ 2 Z)) Z ?_)
   refine bF ?_
   refine VG (VY 57 true Z (DT yd) ?_)
   refine bF ?_
   refine VO.ah (L':=[bd p Q,aT ob (ij R now++T)]) (lC (x:=x3)).ah ?_
   refine VG (VK (Lc:=[bd p Q,aT ob (ij R now++T)]) (Lr:=[]) (fun Fr w hF hs hS=>SJ Fr w okQ hroom pP now) Z Z ?_)
   rintro _ _ ⟨rfl,rfl⟩
   have hss:=JI okQ hroom now
   refine bF ?_
   refine CC Z (fun hs=>CK ?_) (fun hs=>CX ?_)
   ·have hst:=SK okQ now hs
    refine aj ?_
    refine CK ?_
    refine⟨(k,(fi Q now).1,T++(fi Q now).2.1),⟨Ap okQ hroom now,by dsimp only;omega,by dsimp only;rw[a_];omega,?_⟩,by dsimp only;omega,aF,?_⟩
    ·dsimp only
     rw[hlp,jL,if_pos hroom,if_pos hs,eV]
    ·dsimp only;rw[←eV];exact ER
   ·refine⟨(),trivial,aF,?_⟩
    rw[he2,hlp,jL,if_pos hroom,if_neg (by rw[hs];simp),←eV]
    exact ER
  ·have hr2:¬(0<max (min (Q.win.done+Q.win.cap) 4096-Q.win.last) 0):=fun h=>hroom (by simp only[bE.room,dG,decide_eq_true_eq];omega)
   refine VG (VY 49 false Z (DF hr2) ?_)
   refine bF ?_
   refine VG (VY 57 false Z Z ?_)
   refine bF ?_
   refine r_ ?_
   refine⟨(),trivial,aF,?_⟩
   rw[he2,hlp,jL,if_neg hroom,bA]
   exact(lC (x:=x3)).ah
 rintro _ -
 refine CS ?_
 refine VC.cZ (σ:=Unit) (fun _=>[(5,pV ob)]) (fun _=>[bd p (gY R now).1,aT ob (gY R now).2]) (fun _=>True) ?_ ?_
 ·refine VC.bu 0 Z (aY.rep p (step2 R now).1) ?_
  rintro x2 -
  show VC _ _ _ (e7 p (step2 R now).1 x2 ob (ij R now++(step2 R now).2)) _
  unfold e7
  refine aj ?_
  refine CC Z (fun hk=>?_) (fun hk=>CK ?_)
  ·have e3:jM R now=sY (step2 R now).1:=by rw[jM,hk];rfl
   refine CN (L':=[bd p (step2 R now).1,aT ob (ij R now++(step2 R now).2)]) (lC (x:=x2)).ah ?_
   refine aj ?_
   refine VG (VK (Lc:=[bd p (step2 R now).1,aT ob (ij R now++(step2 R now).2)]) (Lr:=[]) (fun Fr w hF hs hS=>DM Fr w ok2 pP) Z Z ?_)
   rintro _ _ ⟨rfl,rfl⟩
   refine aj ?_
   exact⟨(),trivial,aF,by show cI _ _ [bd p (jM R now).1,aT ob (ij R now++(step2 R now).2++(jM R now).2)];rw[e3];exact ER⟩
  ·have e3:jM R now=((step2 R now).1,[]):=by rw[jM,hk];rfl
   exact⟨(),trivial,aF,by show cI _ _ [bd p (jM R now).1,aT ob (ij R now++(step2 R now).2++(jM R now).2)];rw[e3,bA];exact(lC (x:=x2)).ah⟩
 rintro _ -
 refine VC.bu 1 Z (aY.out ob _) ?_
 rintro⟨a,c⟩ -
 show VC _ _ _ [pt ob [.slice a (gY R now).2.length c] zQ,av e8 30 a (gY R now).2.length c (flat pE (gY R now).2),bd p (gY R now).1] _
 refine aj ?_
 exact CR (al.tmp 4 Z Z (IP 2 Z (IP 1 Z aa.nil)).ah ⟨a,c,Z,Z⟩)
end
end Rep
namespace Rep
open Go Vg T Api Kv Ch Lg Rd Win Adm Sched
attribute [local irreducible] VO VC VA
theorem NZ{c:aW}{a:Option Addr}{cap:Nat}(h:aP aC 2 Fr w a c.ms)(hl:c.ms.length≤1000000):aq Tryz.prog 107 [.agg (c.cells a cap).toArray] Fr w []
  (fun v L=>∃a' c',v=.agg (c.cells a' c').toArray∧L=[av aN 2 a' c.ms.length c' (flat aC c.ms)]):=by
 refine TF 8 Tryz.func107 Z ym aw Z Z ?_
 refine CS (CG (VG (VB (vs:=c.cells a cap) Z (fun b=>VG (VO.alloc Z fun d=>VG (VN ?_))))))
 refine cF ?_
 refine K9 ?_
 refine VG (VO.append (m:=c.ms.length) (news:=flat aC c.ms) 0 Z Z Z Z Z Z Z (aP.row cj h) (oa sV _) L_ yd fun a' c' _=>?_)
 rw[bZ,kW]
 refine aj ?_
 refine VG (VO.st 2 (cs':=c.cells a' c') Z Z Z Z sd Z Z (VG (VN ?_)))
 refine CS (CG (VG (VL 2 (c.cells a' c') Z Z Z Z (VG (VT (vs:=c.cells a' c') (cs':=c.cells a' c') 1 Z Z Z Z (NR _) Z Z Z (VG (VN ?_)))))))
 exact E5
def jg:Int:=9223372036854775807
def iZ(R:az)(c:aW):az:={ R with aM:=R.aM.fa jg,aL:={ R.aL with l:=[] },ch:=c }
def ko(R:az)(c:aW):Bool:=(dm c R.id).2&&decide ((dm c R.id).1≠R.since)
def uy(R:az)(c:aW):Bool:=!(dm c R.id).2||decide ((dm c R.id).1≠R.since)
def gz(R:az)(c:aW):az:={ iZ R c with log:=if ko R c then [] else R.log,win:=if ko R c then bE.new R.cap else R.win }
def nZ(R:az)(c:aW):az:={ gz R c with whole:=if uy R c then false else R.whole }
def kg(R:az)(c:aW):az:={ nZ R c with since:=(dm c R.id).1,linked:=false,dp:=0,base:=-1,win:={ (gz R c).win with bX:=(gz R c).win.last,gS:=0 } }
def dR(R:az)(c:aW):az:=if (kg R c).whole then { kg R c with start:=(kg R c).win.last } else kg R c
def rC(R:az)(c:aW):List bU:=refs c.aB (R.aM.aO.cY jg) 9++refs c.aB (R.aL.l.map ss.f) 9
def rD(R:az)(c:aW):az×List bU:=((dR R c).dt,rC R c++(dR R c).lj++(dR R c).dt.fO++(dR R c).dt.iW++(dR R c).dt.np)
theorem OB{R:az}(h:R.Ok){c:aW}(hc:jU c):(iZ R c).Ok:=⟨hc,h.win,h.last,h.jd,h.je,h.fR,h.fG,by show(0:Int)≤_;have:=h.fR;exact Int.le_trans yn this,h.jl,h.jK,fun y hy=>absurd hy (oM),(by
  obtain⟨h1,h2,h3⟩:=rE h.wf jg
  intro q hq g hg
  have:=yY h.wf h.calls jg q hq g hg
  exact this),(rE h.wf jg).1⟩
theorem Hl{R:az}(h:R.Ok){c:aW}(hc:jU c)(h0:1≤R.cap)(h1:R.cap≤16):(gz R c).Ok:=by
 have k:=OB h hc
 refine⟨hc,?_,?_,?_,?_,k.fR,k.fG,k.rl,k.jl,k.jK,k.iO,k.calls,k.wf⟩
 ·show(if ko R c then bE.new R.cap else R.win).Ok;split;exact bE.zH h0 h1;exact h.win
 ·show(if ko R c then bE.new R.cap else R.win).last=((if ko R c then [] else R.log).length:Int);split;rfl;exact h.last
 ·show ∀e∈(if ko R c then [] else R.log),_;split;exact fun e he=>absurd he oM;exact h.jd
 ·show ∀e∈(if ko R c then [] else R.log),1≤e.index∧e.index≤((if ko R c then [] else R.log).length:Int);split;exact fun e he=>absurd he oM;exact h.je
theorem Hm{R:az}(h:R.Ok){c:aW}(hc:jU c)(h0:1≤R.cap)(h1:R.cap≤16):(kg R c).Ok:=by
 have k:=Hl h hc h0 h1
 have w:=k.win
 exact⟨hc,⟨w.dh,w.eN,w.kH,w.kI,w.ir,by have:=w.kH;have:=w.kI;show 0≤(gz R c).win.last;omega,fj _,fj _,(by decide:(0:Int)≤4112)⟩,k.last,k.jd,k.je,k.fR,k.fG,k.rl,k.jl,k.jK,k.iO,k.calls,k.wf⟩
theorem Cs{R:az}(h:R.Ok){c:aW}(hc:jU c)(h0:1≤R.cap)(h1:R.cap≤16):(dR R c).Ok:=by
 have k:=Hm h hc h0 h1
 unfold dR
 split
 ·exact⟨k.ch,k.win,k.last,k.jd,k.je,k.fR,k.fG,k.rl,k.jl,k.jK,k.iO,k.calls,k.wf⟩
 ·exact k
theorem OE{R:az}(h:R.Ok){c:aW}(hc:jU c)(h0:1≤R.cap)(h1:R.cap≤16):(rD R c).1.Ok:=ud (Cs h hc h0 h1)
section
variable {p:Nat} {R:az} {b:Nat} {S:List bU} {c:aW} {a:Option Addr} {cap:Nat}
theorem OG(ok:R.Ok)(hc0:1≤R.cap)(hc1:R.cap≤16)(hS:S.length≤800000)(hm:aP aC 2 Fr w a c.ms)(hc:jU c):aq Tryz.prog 307 [.pointer (some ⟨p,0,none⟩),.agg (c.cells a cap).toArray,dk b] Fr w [bd p R,aT b S]
  (fun v L=>v=.tuple #[]∧L=[bd p (rD R c).1,aT b (S++(rD R c).2)]):=by
 have hg64:=zi ok jg
 have hgc:=CU ok.calls jg
 have hrl:=ok.rl;have hrc:=ok.fG
 have hcl:=hc.len
 have ok2:=Hl ok hc hc0 hc1
 have ok4:=Hm ok hc hc0 hc1
 have ok5:=Cs ok hc hc0 hc1
 refine TF 143 Tryz.func307 Z ym aw Z Z ?_
 refine CS (CG (VG (VB (vs:=c.cells a cap) Z fun cb=>VG (VN ?_))))
 refine A5 ?_
 rintro x -
 refine CN (L':=[bb x.ap R.aM,pt p (bh R x) cy,av aN 2 x.a R.ch.ms.length x.c (flat aC R.ch.ms),bw x.lp R.log,bq x.wp R.win,br x.rp R.aL,pt cb (c.cells a cap) cX,aT b S]) (aZ [4,0,0,0,0,0,0,0]).ah ?_
 refine CS ?_
 refine CD (ts 0 4 (ts 5 4 (.only 4 (.only 9 (ts 10 2 .nil))))) ym yo ?_
 refine eu ?_
 refine AG (AO (OC (Lc:=[bb x.ap R.aM]) (R:=CT x.ap (R.aM.fa jg) (R.aM.aO.cY jg)) Z (.refl _) (fun Fr w hF hs hS=>Adm.CJ Fr w x.ap R.aM ok.calls)) Z ?_ ?_)
 ·rintro _ _ ⟨_,⟨r,rok,hrx,rfl,rfl⟩,rfl⟩
  exact yv
 rintro _ _ ⟨_,⟨r,rok,hrx,rfl,rfl⟩,rfl⟩
 refine gF ?_
 refine VA.ah (L':=[br x.rp R.aL,r.h bM,bb x.ap (R.aM.fa jg),pt p (bh R x) cy,av aN 2 x.a R.ch.ms.length x.c (flat aC R.ch.ms),bw x.lp R.log,bq x.wp R.win,pt cb (c.cells a cap) cX,aT b S]) (aZ [6,0,0,0,0,0,0,0,0]).ah ?_
 refine AG (AO (OC (Lc:=[br x.rp R.aL]) (R:=fun v L=>∃a c rows,rows.map Prod.fst=R.aL.l∧v=.slice a rows.length c∧L=[br x.rp { R.aL with l:=[] },av dM 34 a rows.length c (flat cM rows)]) Z (.refl _) (fun Fr w hF hs hS=>Rd.CJ Fr w ok.fR yd)) Z ?_ ?_)
 ·rintro _ _ ⟨_,⟨ga,gc,rows,hrows,rfl,rfl⟩,rfl⟩
  exact yv
 rintro _ _ ⟨_,⟨ga,gc,rows,hrows,rfl,rfl⟩,rfl⟩
 have hrowl:rows.length≤16:=by
  have:=congrArg List.length hrows
  rw[dW] at this
  omega
 have hrv:r.v=.slice r.addr r.xs.length r.cap:=rfl
 rw[hrv]
 refine pL ?_
 show VC _ _ _ [br x.rp (iZ R c).aL,av dM 34 ga rows.length gc (flat cM rows),r.h bM,bb x.ap (iZ R c).aM,pt p (bh R x) cy,av aN 2 x.a R.ch.ms.length x.c (flat aC R.ch.ms),bw x.lp R.log,bq x.wp R.win,pt cb (c.cells a cap) cX,aT b S] _
 refine CS (CG ?_)
 refine aj ?_
 refine VG (VL 8 (c.cells a cap) Z Z Z Z ?_)
 refine K_ ?_
 rintro _ _ ⟨a',c',rfl,rfl⟩
 refine VG (VT (vs:=c.cells a' c') (cs':=bh (iZ R c) { x with a:=a',c:=c' }) 5 Z Z Z Z (by show 4+3≤17;omega) Z Z Z ?_)
 refine jr ?_
 refine CN (L':=[pt p (bh (iZ R c) { x with a:=a',c:=c' }) cy,av aN 2 a' c.ms.length c' (flat aC c.ms),bw x.lp R.log,bq x.wp R.win,bb x.ap (iZ R c).aM,br x.rp (iZ R c).aL,av dM 34 ga rows.length gc (flat cM rows),r.h bM,aT b S]) (aZ [5,0,5,5,3,0,0,0,2]).ah ?_
 refine CS (CD (ts 0 8 (.only 8 (ts 9 5 .nil))) ym yo ?_)
 refine bg ?_
 refine AG (VA.cK 0 (c.cells a' c') Z Z Z Z Z ?_)
 refine bg ?_
 refine AG (AR (fun Fr w hF hs hS=>Ch.Ek Fr w (aP.av cj (hS.at_ 1 Z)) yd R.id) Z Z yv ?_)
 refine bg ?_
 have hE:∀{E:Env} {s:kY},True:=fun {_} {_}=>trivial
 refine CS ?_
 refine VC.cZ (σ:=kY) (fun _=>[(0,pV p),(2,dk b),(6,.slice r.addr r.xs.length r.cap),(7,.slice ga rows.length gc),(8,.int .i64 (dm c R.id).1),(9,.bool (dm c R.id).2)])
  (fun y=>[pt p (bh (gz R c) y) cy,av aN 2 y.a c.ms.length y.c (flat aC c.ms),bw y.lp (gz R c).log,bq y.wp (gz R c).win,bb y.ap (iZ R c).aM,br y.rp (iZ R c).aL,av dM 34 ga rows.length gc (flat cM rows),r.h bM,aT b S]) (fun _=>True) ?_ ?_
 ·have S6:∀{E:Env},Vg.look E 0=some (.pointer (some ⟨p,0,none⟩))→Vg.look E 2=some (dk b)→Vg.look E 6=some (.slice r.addr r.xs.length r.cap)→Vg.look E 7=some (.slice ga rows.length gc)→Vg.look E 8=some (.int .i64 (dm c R.id).1)→Vg.look E 9=some (.bool (dm c R.id).2) →
    Sub [(0,pV p),(2,dk b),(6,.slice r.addr r.xs.length r.cap),(7,.slice ga rows.length gc),(8,.int .i64 (dm c R.id).1),(9,.bool (dm c R.id).2)] E:=fun h0 h1 h2 h3 h4 h5=>SC h0 (SC h1 (SC h2 (SC h3 (SC h4 (SC h5 (SN _))))))
  have no:ko R c=false→∀{X:Cx},cI X [pt p (bh (iZ R c) { x with a:=a',c:=c' }) cy,av aN 2 a' c.ms.length c' (flat aC c.ms),bw x.lp R.log,bq x.wp R.win,bb x.ap (iZ R c).aM,br x.rp (iZ R c).aL,av dM 34 ga rows.length gc (flat cM rows),r.h bM,aT b S]
    [pt p (bh (gz R c) { x with a:=a',c:=c' }) cy,av aN 2 a' c.ms.length c' (flat aC c.ms),bw x.lp (gz R c).log,bq x.wp (gz R c).win,bb x.ap (iZ R c).aM,br x.rp (iZ R c).aL,av dM 34 ga rows.length gc (flat cM rows),r.h bM,aT b S]:=fun h {X}=>by
   rw[show(gz R c).log=R.log by show(if ko R c then [] else R.log)=_;rw[h];rfl,show(gz R c).win=R.win by show(if ko R c then bE.new R.cap else R.win)=_;rw[h];rfl]
   exact ER
  refine aj ?_
  by_cases h1:(dm c R.id).2=true
  rotate_left
  ·have h1:(dm c R.id).2=false:=by simpa using h1
   refine VG (VY 42 false Z h1 ?_)
   refine qV ?_
   exact⟨{ x with a:=a',c:=c' },trivial,S6 Z Z Z Z Z Z,no (by rw[ko,h1];rfl)⟩
  refine VG (VY 42 true Z h1 ?_)
  refine bF ?_
  refine VC.dd (i:=(dm c R.id).1) (j:=R.since) Z (fun h2=>?_) (fun h2=>CK ?_)
  rotate_left
  ·exact⟨{ x with a:=a',c:=c' },trivial,S6 Z Z Z Z Z Z,no (by rw[ko,h1,h2];simp)⟩
  refine aj ?_
  refine VG (VK (Lc:=[]) (fun Fr w _ _ _=>Lg.jH Fr w) Z Z ?_)
  rintro _ _ ⟨lp,rfl,rfl⟩
  refine VG (VO.st 1 (cs':=bh (iZ R c) { x with a:=a',c:=c',lp:=lp }) Z Z Z Z (by show 9<17;omega) Z Z ?_)
  refine cF ?_
  refine VG (VK (Lc:=[]) (fun Fr w _ _ _=>Win.jH Fr w hc0 hc1) Z Z ?_)
  rintro _ _ ⟨wp,rfl,rfl⟩
  refine aj ?_
  refine VG (VO.st 2 (cs':=bh (iZ R c) { x with a:=a',c:=c',lp:=lp,wp:=wp }) Z Z Z Z (by show 10<17;omega) Z Z ?_)
  refine aj ?_
  have hn:ko R c=true:=by rw[ko,h1,DT h2];rfl
  refine⟨{ x with a:=a',c:=c',lp:=lp,wp:=wp },trivial,S6 Z Z Z Z Z Z,?_⟩
  rw[show(gz R c).log=[] by show(if ko R c then [] else R.log)=_;rw[hn];rfl,show(gz R c).win=bE.new R.cap by show(if ko R c then bE.new R.cap else R.win)=_;rw[hn];rfl]
  exact(aZ [2,2,1,0,2,2,2,2,2]).ah
 rintro y -
 have ewhole:(gz R c).whole=R.whole:=rfl
 refine CS ?_
 refine VC.cZ (σ:=Unit) (fun _=>[(0,pV p),(2,dk b),(6,.slice r.addr r.xs.length r.cap),(7,.slice ga rows.length gc),(8,.int .i64 (dm c R.id).1)])
  (fun _=>[pt p (bh (nZ R c) y) cy,av aN 2 y.a c.ms.length y.c (flat aC c.ms),bw y.lp (gz R c).log,bq y.wp (gz R c).win,bb y.ap (iZ R c).aM,br y.rp (iZ R c).aL,av dM 34 ga rows.length gc (flat cM rows),r.h bM,aT b S]) (fun _=>True) ?_ ?_
 ·have S5:∀{E:Env},Vg.look E 0=some (.pointer (some ⟨p,0,none⟩))→Vg.look E 2=some (dk b)→Vg.look E 6=some (.slice r.addr r.xs.length r.cap)→Vg.look E 7=some (.slice ga rows.length gc)→Vg.look E 8=some (.int .i64 (dm c R.id).1) →
    Sub [(0,pV p),(2,dk b),(6,.slice r.addr r.xs.length r.cap),(7,.slice ga rows.length gc),(8,.int .i64 (dm c R.id).1)] E:=fun h0 h1 h2 h3 h4=>SC h0 (SC h1 (SC h2 (SC h3 (SC h4 (SN _)))))
  have yes:uy R c=true→bh (nZ R c) y=bh { gz R c with whole:=false } y:=fun h=>by
   rw[show nZ R c={ gz R c with whole:=false } by unfold nZ;rw[h];rfl]
  have no:uy R c=false→bh (nZ R c) y=bh (gz R c) y:=fun h=>by
   rw[show nZ R c=gz R c by unfold nZ;rw[h];rfl]
  refine aj ?_
  by_cases h1:(dm c R.id).2=true
  rotate_left
  ·have h1:(dm c R.id).2=false:=by simpa using h1
   refine VG (VY 67 true Z (by rw[h1];rfl) ?_)
   refine pS ?_
   refine La ?_
   refine aj ?_
   refine⟨(),trivial,S5 Z Z Z Z Z,?_⟩
   dsimp only
   rw[yes (by rw[uy,h1];rfl)]
   exact ER
  refine VG (VY 67 false Z (by rw[h1];rfl) ?_)
  refine bF ?_
  refine VC.dd (i:=(dm c R.id).1) (j:=R.since) Z (fun h2=>?_) (fun h2=>CK ?_)
  ·refine aj ?_
   refine La ?_
   refine aj ?_
   refine⟨(),trivial,S5 Z Z Z Z Z,?_⟩
   dsimp only
   rw[yes (by rw[uy,h1,DT h2];rfl)]
   exact ER
  ·refine⟨(),trivial,S5 Z Z Z Z Z,?_⟩
   dsimp only
   rw[no (by rw[uy,h1,h2];simp)]
   exact ER
 rintro _ -
 refine aj ?_
 refine VG (VO.st 0 (cs':=bh { nZ R c with since:=(dm c R.id).1 } y) Z Z Z Z (by show 7<17;omega) Z Z ?_)
 refine jr ?_
 refine aj ?_
 refine VG (VO.st 0 (cs':=bh { nZ R c with since:=(dm c R.id).1,linked:=false } y) Z Z Z Z (by show 15<17;omega) Z Z ?_)
 refine aj ?_
 refine VG (VO.st 0 (cs':=bh { nZ R c with since:=(dm c R.id).1,linked:=false,dp:=0 } y) Z Z Z Z (by show 16<17;omega) Z Z ?_)
 refine aj ?_
 refine VG (VO.st 0 (cs':=bh (kg R c) y) Z Z Z Z (by show 14<17;omega) Z Z ?_)
 refine aj ?_
 refine VG (VQ 3 Z (fun Fr w hF hs hS=>Win.Sf Fr w ok2.win) Z (ψ:=fun v H=>v=.tuple #[]∧H=bq y.wp (kg R c).win) yz ?_)
 rintro _ _ ⟨rfl,rfl⟩
 refine jr ?_
 show VC _ _ _ [pt p (bh (kg R c) y) cy,av aN 2 y.a c.ms.length y.c (flat aC c.ms),bw y.lp (kg R c).log,bq y.wp (kg R c).win,bb y.ap (kg R c).aM,br y.rp (kg R c).aL,av dM 34 ga rows.length gc (flat cM rows),r.h bM,aT b S] _
 have q0:=ok4.win.dh
 refine CS ?_
 refine VC.cZ (σ:=Unit) (fun _=>[(0,pV p),(2,dk b),(6,.slice r.addr r.xs.length r.cap),(7,.slice ga rows.length gc)])
  (fun _=>[pt p (bh (dR R c) y) cy,av aN 2 y.a c.ms.length y.c (flat aC c.ms),bw y.lp (dR R c).log,bq y.wp (dR R c).win,bb y.ap (dR R c).aM,br y.rp (dR R c).aL,av dM 34 ga rows.length gc (flat cM rows),r.h bM,aT b S]) (fun _=>True) ?_ ?_
 ·refine aj ?_
  refine CC Z (fun h1=>?_) (fun h1=>CK ?_)
  ·have e5:dR R c={ kg R c with start:=(kg R c).win.last }:=by rw[dR,if_pos h1]
   refine aj ?_
   refine VG (VV (fun Fr w hF hs hS=>Win.oe Fr w (hS.ar 3 Z) q0) Z ?_)
   refine aj ?_
   refine VG (VO.st 0 (cs':=bh { kg R c with start:=(kg R c).win.last } y) Z Z Z Z (by show 13<17;omega) Z Z ?_)
   refine aj ?_
   refine⟨(),trivial,aF,?_⟩
   dsimp only
   rw[e5];exact ER
  ·have e5:dR R c=kg R c:=by rw[dR,if_neg qS]
   refine⟨(),trivial,aF,?_⟩
   dsimp only
   rw[e5];exact ER
 rintro _ -
 have hch:(dR R c).ch=c:=by unfold dR;split<;>rfl
 have hhp:∀S':List bU,[pt p (bh (dR R c) y) cy,av aN 2 y.a c.ms.length y.c (flat aC c.ms),bw y.lp (dR R c).log,bq y.wp (dR R c).win,bb y.ap (dR R c).aM,br y.rp (dR R c).aL,av dM 34 ga rows.length gc (flat cM rows),r.h bM,aT b S']
  = [pt p (bh (dR R c) y) cy,av aN 2 y.a (dR R c).ch.ms.length y.c (flat aC (dR R c).ch.ms),bw y.lp (dR R c).log,bq y.wp (dR R c).win,bb y.ap (dR R c).aM,br y.rp (dR R c).aL,av dM 34 ga rows.length gc (flat cM rows),r.h bM,aT b S']:=fun S'=>by rw[hch]
 rw[hhp]
 generalize hR5:dR R c=R5 at *
 refine aj ?_
 refine VC.loop (σ:=Nat) (fun i=>[(0,pV p),(2,dk b),(7,.slice ga rows.length gc),(108,.slice r.addr r.xs.length r.cap),(109,.int .i64 r.xs.length),(110,.int .i64 i)])
  (fun i=>[pt p (bh R5 y) cy,av aN 2 y.a R5.ch.ms.length y.c (flat aC R5.ch.ms),bw y.lp R5.log,bq y.wp R5.win,bb y.ap R5.aM,br y.rp R5.aL,av dM 34 ga rows.length gc (flat cM rows),r.h bM,aT b (S++refs c.aB ((R.aM.aO.cY jg).take i) 9)])
  (fun i=>i≤r.xs.length) (fun i=>r.xs.length-i) 0
  (bK _) aF (by rw[p5,show refs c.aB [] 9=[] from rfl,bA];exact ER) ?_
 intro i hi
 have hxl:r.xs.length=(R.aM.aO.cY jg).length:=by rw[←hrx];simp
 refine aj ?_
 refine CP Z (fun h1=>CK ?_) (fun h1=>CX ?_)
 ·have hi2:i<r.xs.length:=by omega
  obtain⟨g,hg⟩:∃g,r.xs[i]?=some g:=⟨_,GE hi2⟩
  have hgg:(R.aM.aO.cY jg)[i]?=some g.1:=by rw[←hrx,dH,hg];rfl
  have hcg:=hgc g.1 (ME hgg)
  have hc6:=ok.wf.c1
  obtain⟨gb,go,r1,r2,hrd⟩:=rok.ld (t:=bM) hg rfl
  rw[r2]
  refine sf ?_
  refine VG (VO.load Z Z ((hrd 7 Z).1 _ Z Z) ?_)
  refine VG (VO.alloc Z fun tb=>?_)
  refine VG (VT (vs:=aS g) 0 Z Z Z Z (NR _) Z Z Z ?_)
  refine aj ?_
  refine VG (VL 0 (aS g) Z Z Z Z ?_)
  refine VG (VQ 9 Z (fun Fr w hF hs hS=>s8 Fr w (hS.ar 1 Z) L9 g.1 g.2 hcg.1.1 (by have:=hcg.1.2;omega) 9) Z (ψ:=fun v H=>v=.tuple #[]∧H=aT b (S++refs c.aB ((R.aM.aO.cY jg).take i) 9 ++ [(32+g.1.aI,gA c.aB g.1 9)])) Mb ?_)
  rintro _ _ ⟨rfl,rfl⟩
  refine gG ?_
  refine⟨i+1,hi2,by dsimp only;omega,aF,?_⟩
  dsimp only
  rw[show refs c.aB ((R.aM.aO.cY jg).take (i+1)) 9=refs c.aB ((R.aM.aO.cY jg).take i) 9 ++ [(32+g.1.aI,gA c.aB g.1 9)] by rw[fS,hgg];simp[refs],←eV]
  exact(aZ [1,1,1,1,1,1,1,1,1]).ah
 obtain rfl:i=r.xs.length:=by omega
 rw[hxl,jR]
 have hrl1:(refs c.aB (R.aM.aO.cY jg) 9).length≤64:=by rw[refs,dW];exact hg64
 generalize hS1:S++refs c.aB (R.aM.aO.cY jg) 9=S1
 have hS1l:S1.length≤800064:=by rw[←hS1,a_];omega
 refine VC.bu 6 Z (aY.rl dM ga gc rows wN) ?_
 rintro q ⟨qok,hqv,hqx⟩
 show VC _ _ _ [q.h dM,pt p (bh R5 y) cy,av aN 2 y.a R5.ch.ms.length y.c (flat aC R5.ch.ms),bw y.lp R5.log,bq y.wp R5.win,bb y.ap R5.aM,br y.rp R5.aL,r.h bM,aT b S1] _
 refine aj ?_
 have hexp:∀i,i≤rows.length→((rows.take i).map fun y=>y.1.f).length=i:=fun i hi=>by simp;omega
 refine VC.loop (σ:=Nat) (fun i=>[(0,pV p),(2,dk b),(119,.slice ga rows.length gc),(120,.int .i64 rows.length),(121,.int .i64 i)])
  (fun i=>[q.h dM,pt p (bh R5 y) cy,av aN 2 y.a R5.ch.ms.length y.c (flat aC R5.ch.ms),bw y.lp R5.log,bq y.wp R5.win,bb y.ap R5.aM,br y.rp R5.aL,aT b (S1++refs c.aB ((rows.take i).map fun y=>y.1.f) 9)])
  (fun i=>i≤rows.length) (fun i=>rows.length-i) 0
  (bK _) aF (by
   rw[p5,show refs c.aB (List.map (fun y=>y.1.f) ([]:List oS)) 9=[] from rfl,bA]
   exact(aZ [0,0,0,0,0,0,0,1]).ah) ?_
 intro i hi
 refine aj ?_
 refine CP Z (fun h1=>CK ?_) (fun h1=>CX ?_)
 ·have hi2:i<rows.length:=by omega
  obtain⟨g,hg⟩:∃g,rows[i]?=some g:=⟨_,GE hi2⟩
  have hgm:g.1∈R.aL.l:=by
   rw[←hrows]
   exact eC.2 ⟨g,ME hg,Z⟩
  have hcg:=ok.iO g.1 hgm
  obtain⟨gb,go,r1,r2,hrd⟩:=qok.ld (t:=dM) (hqx▸hg) rfl
  obtain rfl:ga=some ⟨gb,go,none⟩:=by rw[RL.v,r2,hqx] at hqv;injection hqv with e1;exact e1.symm
  refine sf ?_
  refine E3 ?_
  refine VG (VO.alloc Z fun tb=>?_)
  refine E4 ?_
  refine aj ?_
  refine VG (VL 0 (bW g.1.f g.2) Z Z Z Z ?_)
  refine VG (VQ 8 Z (fun Fr w hF hs hS=>s8 Fr w (hS.ar 2 Z) (by rw[a_,refs,dW,hexp i yd];omega) g.1.f g.2 hcg.1 yd 9) Z (ψ:=fun v H=>v=.tuple #[]∧H=aT b (S1++refs c.aB ((rows.take i).map fun y=>y.1.f) 9 ++ [(32+g.1.f.aI,gA c.aB g.1.f 9)])) Mb ?_)
  rintro _ _ ⟨rfl,rfl⟩
  refine gG ?_
  refine⟨i+1,hi2,by dsimp only;omega,aF,?_⟩
  dsimp only
  rw[show refs c.aB ((rows.take (i+1)).map fun y=>y.1.f) 9=refs c.aB ((rows.take i).map fun y=>y.1.f) 9 ++ [(32+g.1.f.aI,gA c.aB g.1.f 9)] by rw[fS,hg];simp[refs],←eV]
  exact(aZ [1,1,1,1,1,1,1,1]).ah
 obtain rfl:i=rows.length:=by omega
 rw[jR]
 have hes:S1++refs c.aB (rows.map fun y=>y.1.f) 9=S++rC R c:=by
  rw[←hS1,rC,←hrows,lG,eV];rfl
 have hel:(S++rC R c).length≤800080:=by rw[←hes,a_,refs,dW,dW];omega
 rw[hes]
 refine CN (L':=[bd p R5,aT b (S++rC R c)]) (aa.rep (R:=R5) y (aZ [1,1,1,1,1,1,1])).ah ?_
 generalize hS2:S++rC R c=S2 at *
 refine aj ?_
 refine VG (VK (Lc:=[bd p R5,aT b S2]) (Lr:=[]) (fun Fr w hF hs hS=>Cy Fr w ok5 yd) Z Z ?_)
 rintro _ _ ⟨rfl,rfl⟩
 have fl:=vS ok5
 have okf:=ud ok5
 refine aj ?_
 refine VO.bu 0 Z (aY.rep p R5.dt) ?_
 rintro y2 -
 show VO _ _ _ _ _ (e7 p R5.dt y2 b (S2++R5.lj)) _
 unfold e7
 refine aj ?_
 refine VG (VQ 6 Z (fun Fr w hF hs hS=>zj Fr w (fM.mG hS 0 Z Z Z Z Z Z) okf.ch okf.win pP) Z (ψ:=fun v H=>v=.tuple #[]∧H=aT b (S2++R5.lj++R5.dt.fO)) yz ?_)
 rintro _ _ ⟨rfl,rfl⟩
 have gl:R5.dt.fO.length≤1:=by unfold az.fO;split<;>simp
 refine aj ?_
 refine VG (VQ 6 Z (fun Fr w hF hs hS=>Eo Fr w (fM.mG hS 0 Z Z Z Z Z Z) okf.ch (by rw[a_,a_];omega)) Z (ψ:=fun v H=>v=.tuple #[]∧H=aT b (S2++R5.lj++R5.dt.fO++R5.dt.iW)) yz ?_)
 rintro _ _ ⟨rfl,rfl⟩
 have bl:R5.dt.iW.length≤1:=by unfold az.iW;split<;>simp
 refine aj ?_
 refine VG (VQ 6 Z (fun Fr w hF hs hS=>JW Fr w (hS.ar 0 Z) (by rw[a_,a_,a_];omega)) Z (ψ:=fun v H=>v=.tuple #[]∧H=aT b (S2++R5.lj++R5.dt.fO++R5.dt.iW++R5.dt.np)) yz ?_)
 rintro _ _ ⟨rfl,rfl⟩
 refine aj ?_
 refine al.void Z (lC (R:=R5.dt) (x:=y2)).ah ⟨rfl,?_⟩
 simp only[rD,hR5,←hS2,eV]
end
end Rep
namespace Rep
open Go Vg T Api Kv Ch Lg Rd Win Adm Sched Conf
attribute [local irreducible] VO VC VA
def mz(n:Nat):List bj:=(List.range n).map fun(i:Nat)=>((i:Int),(1:Int))
theorem vT(n:Nat):(mz n).length=n:=by simp[mz]
theorem OW(n:Nat):mz (n+1)=mz n ++ [((n:Int),(1:Int))]:=by simp[mz,tK]
def cU(c:bn):aW:=⟨1,mz c.chain.toNat,-1⟩
def vJ:aW:=⟨0,[],0⟩
theorem mw{c:bn}(h:c=ct c):(1≤c.nodes∧c.nodes≤6)∧(1≤c.chain∧c.chain≤c.nodes)∧(1≤c.gg∧c.gg≤16)∧(1≤c.reads∧c.reads≤16)∧(1≤c.bt∧c.bt≤6):=by
 have e1:c.nodes=aD c.nodes 1 6:=congrArg bn.nodes h
 have e2:c.chain=aD c.chain 1 (aD c.nodes 1 6):=congrArg bn.chain h
 have e3:c.gg=aD c.gg 1 16:=congrArg bn.gg h
 have e4:c.reads=aD c.reads 1 16:=congrArg bn.reads h
 have e5:c.bt=aD c.bt 1 6:=congrArg bn.bt h
 have n1:=kn (x:=c.nodes) (lo:=1) (hi:=6) yn
 have n2:=kn (x:=c.chain) (lo:=1) (hi:=aD c.nodes 1 6) n1.1
 have n3:=kn (x:=c.gg) (lo:=1) (hi:=16) yn
 have n4:=kn (x:=c.reads) (lo:=1) (hi:=16) yn
 have n5:=kn (x:=c.bt) (lo:=1) (hi:=6) yn
 omega
theorem Hx(c:bn)(a:Option Addr)(cap:Nat)(hq:fT Fr w a c.qs)(ha:nR a)(hcap:c.qs.length≤cap):aq Tryz.prog 85 [.agg (c.cells a cap).toArray] Fr w []
  (fun v L=>if c=ct c then ∃a' c',v=.tuple #[.agg ((cU c).cells a' c').toArray,.int .i64 0]∧L=[av aN 2 a' (cU c).ms.length c' (flat aC (cU c).ms)] else v=.tuple #[.agg (vJ.cells none 0).toArray,.int .i64 2]∧L=[]):=by
 refine TF 27 Tryz.func85 Z ym aw Z Z ?_
 refine CS (CG (VG (VB (vs:=c.cells a cap) Z fun x=>VG (VO.alloc Z fun d=>?_))))
 refine cF ?_
 refine tr ?_
 refine VG (VV (fun Fr w hF hs _=>Conf.gq Fr w c a cap (lS hq hF hs) ha hcap) Z ?_)
 refine aj ?_
 refine VC.dd Z (fun h1=>?_) (fun h1=>CK ?_)
 ·have hc:¬c=ct c:=fun e=>h1 (by rw[jz,if_pos e])
  have hc2:jz c=2:=by rw[jz,if_neg hc]
  refine aj ?_
  refine VG (VI (LB (pv:=[]) (vJ.cells none 0) Z Z Z ym Z) ?_)
  refine aj ?_
  refine E6 ?_
  refine aj ?_
  refine CR (al.cJ 2 3 Z Z Z (an.many 0 Z Z) Z aa.nil.ah ?_)
  rw[if_neg hc,hc2];exact⟨rfl,rfl⟩
 have hc:c=ct c:=by
  apply Decidable.byContradiction
  intro hc
  rw[jz,if_neg hc] at h1
  cases h1
 have hb:=mw hc
 refine aj ?_
 refine VG (VI (LB (pv:=[(0,.int .i64 1),(2,.int .i64 (-1))]) [.int .i64 1,.slice none 0 0,.int .i64 (-1)] Z Z Z ym Z) ?_)
 refine aj ?_
 refine VG (VT (vs:=[.int .i64 1,.slice none 0 0,.int .i64 (-1)]) (cs':=[.int .i64 1,.slice none 0 0,.int .i64 (-1)]) 0 Z Z Z Z (NR _) Z Z Z ?_)
 refine cF ?_
 refine VC.loop (σ:=Nat×Option Addr×Nat) (fun y=>[(2,pV d),(14,.int .i64 c.chain),(15,.int .i64 y.1)])
  (fun y=>[av aN 2 y.2.1 y.1 y.2.2 (flat aC (mz y.1)),pt d [.int .i64 1,.slice y.2.1 y.1 y.2.2,.int .i64 (-1)] cX])
  (fun y=>(y.1:Int)≤c.chain) (fun y=>c.chain.toNat-y.1) (0,none,0)
  yp aF (aa.cN (IP 0 rfl aa.nil)).ah ?_
 rintro⟨i,a',c'⟩ hi
 dsimp only at hi ⊢
 refine aj ?_
 refine CP Z (fun h1=>CK ?_) (fun h1=>CX ?_)
 ·refine cF ?_
  refine VG (VI (LB (pv:=[(0,.int .i64 i),(1,.int .i64 1)]) (aC ((i:Int),1)) Z Z Z ym Z) ?_)
  refine VG (VO.buildSlice (n:=1) (pv:=[(0,.agg (aC ((i:Int),1)).toArray)]) (aC ((i:Int),1)) Z Z Z Z yn (fN Z Z Z) fun nb=>?_)
  refine VG (VO.append (m:=1) (news:=aC ((i:Int),1)) 1 Z Z Z Z Z Z Z (dN.pt 0 Z Z Z) Z (wZ (k:=101) yd yn) yd fun a2 c2 hc2=>?_)
  refine aj ?_
  refine VG (VO.st 2 (cs':=[.int .i64 1,.slice a2 (i+1) c2,.int .i64 (-1)]) Z Z Z Z sd Z Z ?_)
  refine gG ?_
  refine⟨(i+1,a2,c2),by dsimp only;omega,by dsimp only;omega,aF,?_⟩
  dsimp only
  rw[OW,ik,ki,qk,bA]
  exact(aZ [0,1]).ah
 ·obtain rfl:i=c.chain.toNat:=by omega
  have e0:(cU c).ms.length=c.chain.toNat:=vT _
  have e1:(cU c).cells a' c'=[.int .i64 1,.slice a' c.chain.toNat c',.int .i64 (-1)]:=by rw[aW.cells,e0];rfl
  refine aj ?_
  refine VG (VL 1 [.int .i64 1,.slice a' c.chain.toNat c',.int .i64 (-1)] Z Z Z Z ?_)
  refine VG (VT (vs:=[.int .i64 1,.slice a' c.chain.toNat c',.int .i64 (-1)]) (cs':=[.int .i64 1,.slice a' c.chain.toNat c',.int .i64 (-1)]) 1 Z Z Z Z (NR _) Z Z Z ?_)
  refine aj ?_
  refine CR (al.cJ 2 3 Z Z Z (an.many 1 Z Z) Z (IP 0 Z aa.nil).ah ?_)
  rw[if_pos hc,e0];exact⟨a',c',by rw[e1];rfl,rfl⟩
def iw(c:bn)(id:Int):az:={ id:=id,bt:=c.bt,cap:=c.gg,jG:=c.reads,ch:=vJ,since:=0,whole:=false,log:=[],win:=bE.new c.gg,aM:=oh c,aL:=ee.new c.reads,start:=-1,base:=-1,linked:=false,dp:=0 }
def dz(c:bn)(id:Int)(blank:Bool):az:=
 if blank then iw c id else if (dm (cU c) id).2 then { iw c id with ch:=cU c,since:=(dm (cU c) id).1,whole:=true,start:=0 } else { iw c id with ch:=cU c }
def qw(c:bn)(id:Int):Prop:=c=ct c∧0≤id∧id<c.nodes
instance (c:bn) (id:Int):Decidable (qw c id):=by unfold qw;infer_instance
theorem Dr{c:bn}(h:c=ct c)(id:Int){C:aW}(hC:jU C)(s t:Int)(wh:Bool):({ iw c id with ch:=C,since:=s,whole:=wh,start:=t }:az).Ok:=by
 have hb:=mw h
 refine⟨hC,bE.zH hb.2.2.1.1 hb.2.2.1.2,Z,fun e he=>absurd he oM,fun e he=>absurd he oM,hb.2.2.2.1.1,hb.2.2.2.1.2,?_,fj _,(by decide:(0:Int)≤100000000),fun e he=>absurd he oM,Q8 c,IK h⟩
 show(0:Int)≤c.reads;omega
theorem Hw{c:bn}(h:c=ct c):jU (cU c):=⟨by have hb:=mw h;show(mz _).length≤1000;rw[vT];omega⟩
theorem Ra{c:bn}(h:c=ct c)(id:Int)(blank:Bool):(dz c id blank).Ok:=by
 unfold dz
 split
 ·exact Dr h id ⟨by decide⟩ 0 (-1) false
 split
 ·exact Dr h id (Hw h) _ 0 true
 ·exact Dr h id (Hw h) 0 (-1) false
def wT(R:az)(a:Option Addr)(c:Nat)(l w d r:Value):List Value:=[.int .i64 R.id,.int .i64 R.bt,.int .i64 R.cap,.int .i64 R.jG,.int .i64 R.ch.aB,.slice a R.ch.ms.length c,.int .i64 R.ch.drain,.int .i64 R.since,.bool R.whole,
 l,w,d,r,.int .i64 R.start,.int .i64 R.base,.bool R.linked,.int .i64 R.dp]
abbrev s4(b:Nat):Value:=.pointer (some ⟨b,0,none⟩)
theorem jH(c:bn)(a:Option Addr)(cap:Nat)(hq:fT Fr w a c.qs)(ha:nR a)(hcap:c.qs.length≤cap)(id:Int)(blank:Bool):aq Tryz.prog 45 [.agg (c.cells a cap).toArray,.int .i64 id,.bool blank] Fr w []
  (fun v L=>if qw c id then ∃p,v=.tuple #[.pointer (some ⟨p,0,none⟩),.int .i64 0]∧L=[bd p (dz c id blank)] else v=.tuple #[.pointer none,.int .i64 2]∧L=[]):=by
 refine TF 93 Tryz.func45 Z ym aw Z Z ?_
 refine CS (CG (VG (VB (vs:=c.cells a cap) Z fun x=>?_)))
 refine sg ?_
 refine VG (VK (Lc:=[]) (fun Fr w hF hs _=>Hx Fr w c a cap (lS hq hF hs) ha hcap) Z Z ?_)
 intro v L hv
 by_cases hc:c=ct c
 rotate_left
 ·rw[if_neg hc] at hv
  obtain⟨rfl,rfl⟩:=hv
  have hno:¬qw c id:=fun h=>hc h.1
  refine aj ?_
  refine VG (VO.alloc Z fun d=>?_)
  refine E6 ?_
  refine aj ?_
  refine VG (VY 20 true Z Z ?_)
  refine bF ?_
  refine VG (VY 24 true Z Z ?_)
  refine pS ?_
  refine E7 ?_
  rw[if_neg hno];exact⟨rfl,rfl⟩
 rw[if_pos hc] at hv
 obtain⟨a1,c1,rfl,rfl⟩:=hv
 have hb:=mw hc
 have hfl:(cU c).ms.length≤6:=by show(mz _).length≤6;rw[vT];omega
 refine aj ?_
 refine VG (VO.alloc Z fun d=>?_)
 refine VG (VT (vs:=(cU c).cells a1 c1) (cs':=(cU c).cells a1 c1) 0 Z Z Z Z (NR _) Z Z Z ?_)
 refine aj ?_
 refine VG (VY 20 false Z Z ?_)
 refine bF ?_
 by_cases h0:id<0
 ·have hno:¬qw c id:=fun h=>by have:=h.2.1;omega
  refine VG (VY 24 true Z (DT h0) ?_)
  refine pS ?_
  refine E7 ?_
  rw[if_neg hno];exact⟨rfl,rfl⟩
 refine VG (VY 24 false Z (DF h0) ?_)
 refine gZ ?_
 refine CP Z (fun h1=>?_) (fun h1=>CK ?_)
 ·have hno:¬qw c id:=fun h=>by have:=h.2.2;omega
  refine aj ?_
  refine E7 ?_
  rw[if_neg hno];exact⟨rfl,rfl⟩
 have hyes:qw c id:=⟨hc,by omega,by omega⟩
 show VC _ _ _ [pt d ((cU c).cells a1 c1) cX,av aN 2 a1 (cU c).ms.length c1 (flat aC (cU c).ms),pt x (c.cells a cap) _] _
 refine gh ?_
 refine VG (VI (LB (pv:=[(0,.int .i64 id),(1,.int .i64 c.bt),(2,.int .i64 c.gg),(3,.int .i64 c.reads),(11,.int .i64 (-1)),(12,.int .i64 (-1))]) (wT (iw c id) none 0 (.pointer none) (.pointer none) (.pointer none) (.pointer none)) Z Z Z ym Z) ?_)
 refine VG (VB (vs:=wT (iw c id) none 0 (.pointer none) (.pointer none) (.pointer none) (.pointer none)) Z fun p=>?_)
 refine aj ?_
 refine VG (VK (Lc:=[]) (fun Fr w _ _ _=>Lg.jH Fr w) Z Z ?_)
 rintro _ _ ⟨lp,rfl,rfl⟩
 refine aj ?_
 refine VG (VO.st 1 (cs':=wT (iw c id) none 0 (s4 lp) (.pointer none) (.pointer none) (.pointer none)) Z Z Z Z (by show 9<17;omega) Z Z ?_)
 refine lF ?_
 refine VG (VK (Lc:=[]) (fun Fr w _ _ _=>Win.jH Fr w hb.2.2.1.1 hb.2.2.1.2) Z Z ?_)
 rintro _ _ ⟨wp,rfl,rfl⟩
 refine aj ?_
 refine VG (VO.st 2 (cs':=wT (iw c id) none 0 (s4 lp) (s4 wp) (.pointer none) (.pointer none)) Z Z Z Z (by show 10<17;omega) Z Z ?_)
 refine aj ?_
 refine VG (VL 5 (c.cells a cap) Z Z Z Z ?_)
 refine VG (VK (Lc:=[]) (fun Fr w hF hs _=>Adm.jH Fr w c a cap (lS hq hF hs) ha hcap) Z Z ?_)
 intro v L hv
 rw[if_pos hc] at hv
 obtain⟨ap,rfl,rfl⟩:=hv
 refine aj ?_
 refine VG (VO.st 3 (cs':=wT (iw c id) none 0 (s4 lp) (s4 wp) (s4 ap) (.pointer none)) Z Z Z Z (by show 11<17;omega) Z Z ?_)
 refine K3 ?_
 refine VG (VK (Lc:=[]) (fun Fr w _ _ _=>Rd.jH Fr w hb.2.2.2.1.1 hb.2.2.2.1.2) Z Z ?_)
 rintro _ _ ⟨rp,rfl,rfl⟩
 refine aj ?_
 refine VG (VO.st 4 (cs':=bh (iw c id) ⟨none,0,lp,wp,ap,rp⟩) Z Z Z Z (by show 12<17;omega) Z Z ?_)
 refine aj ?_
 refine CN (L':=[pt p (bh (iw c id) ⟨none,0,lp,wp,ap,rp⟩) cy,bw lp [],bq wp (bE.new c.gg),bb ap (oh c),br rp (ee.new c.reads),pt d ((cU c).cells a1 c1) cX,av aN 2 a1 (cU c).ms.length c1 (flat aC (cU c).ms)]) (aZ [4,3,2,1,0,0,0]).ah ?_
 refine CC Z (fun hbl=>?_) (fun hbl=>CK ?_)
 ·refine aj ?_
  refine CR (al.cz 6 7 Z Z Z (L':=[bd p (dz c id blank)]) ?_ Mc)
  rw[show dz c id blank=iw c id by rw[dz,if_pos hbl]]
  exact(aa.rep (R:=iw c id) ⟨none,0,lp,wp,ap,rp⟩ (IP 0 Z (aa.cN (aZ [0,0,0,0])))).ah
 refine aj ?_
 refine VG (VL 5 ((cU c).cells a1 c1) Z Z Z Z ?_)
 refine aj ?_
 refine VG (VT (vs:=(cU c).cells a1 c1) (cs':=bh { iw c id with ch:=cU c } ⟨a1,c1,lp,wp,ap,rp⟩) 0 Z Z Z Z (by show 4+3≤17;omega) Z Z Z ?_)
 refine aj ?_
 refine VG (VL 5 ((cU c).cells a1 c1) Z Z Z Z ?_)
 refine aj ?_
 refine VG (VV (fun Fr w hF hs hS=>Ch.Ek Fr w (aP.av cj (hS.at_ 6 Z)) yd id) Z ?_)
 refine aj ?_
 refine VC.cZ (σ:=Unit) (fun _=>[(10,s4 p)]) (fun _=>[bd p (dz c id blank)]) (fun _=>True) ?_ ?_
 ·refine CC Z (fun hs=>?_) (fun hs=>CK ?_)
  ·refine aj ?_
   refine VG (VO.st 0 (cs':=bh { iw c id with ch:=cU c,since:=(dm (cU c) id).1 } ⟨a1,c1,lp,wp,ap,rp⟩) Z Z Z Z (by show 7<17;omega) Z Z ?_)
   refine aj ?_
   refine VG (VO.st 0 (cs':=bh { iw c id with ch:=cU c,since:=(dm (cU c) id).1,whole:=true } ⟨a1,c1,lp,wp,ap,rp⟩) Z Z Z Z Ma Z Z ?_)
   refine aj ?_
   refine VG (VO.st 0 (cs':=bh { iw c id with ch:=cU c,since:=(dm (cU c) id).1,whole:=true,start:=0 } ⟨a1,c1,lp,wp,ap,rp⟩) Z Z Z Z (by show 13<17;omega) Z Z ?_)
   refine aj ?_
   refine⟨(),trivial,aF,?_⟩
   dsimp only
   rw[show dz c id blank={ iw c id with ch:=cU c,since:=(dm (cU c) id).1,whole:=true,start:=0 } by rw[dz,if_neg (by rw[hbl];simp),if_pos hs]]
   exact(aa.rep (R:={ iw c id with ch:=cU c,since:=(dm (cU c) id).1,whole:=true,start:=0 }) ⟨a1,c1,lp,wp,ap,rp⟩ (aZ [0,5,0,0,0,0])).ah
  ·refine⟨(),trivial,aF,?_⟩
   dsimp only
   rw[show dz c id blank={ iw c id with ch:=cU c } by rw[dz,if_neg (by rw[hbl];simp),if_neg (by rw[hs];simp)]]
   exact(aa.rep (R:={ iw c id with ch:=cU c }) ⟨a1,c1,lp,wp,ap,rp⟩ (aZ [0,5,0,0,0,0])).ah
 rintro _ -
 refine aj ?_
 exact CR (al.cz 6 7 Z Z Z ER Mc)
end Rep
namespace Rep
open Go Vg T Api Kv Ch Lg Rd Win Adm Sched Conf
attribute [local irreducible] VO VC VA
structure az.Fit(R:az):Prop where
 ok:R.Ok
 jG:R.jG=R.aL.cap
 dh:1≤R.cap
 eN:R.cap≤16
 cl:R.bt≤6
theorem Ds{c:bn}(h:c=ct c)(id:Int)(blank:Bool):(dz c id blank).Fit:=by
 have hb:=mw h
 have ho:=Ra h id blank
 unfold dz at ho ⊢
 split
 ·rename_i h1;rw[if_pos h1] at ho;exact⟨ho,rfl,hb.2.2.1.1,hb.2.2.1.2,hb.2.2.2.2.2⟩
 ·rename_i h1;rw[if_neg h1] at ho
  split
  ·rename_i h2;rw[if_pos h2] at ho;exact⟨ho,rfl,hb.2.2.1.1,hb.2.2.1.2,hb.2.2.2.2.2⟩
  ·rename_i h2;rw[if_neg h2] at ho;exact⟨ho,rfl,hb.2.2.1.1,hb.2.2.1.2,hb.2.2.2.2.2⟩
def qD(o:bp):Bool:=decide (o.kind=1)&&decide (c_ o=0)
def oc(f:aA)(ms:List bj):aW:=⟨f.dE,ms,f.drain⟩
def tj(R:az)(i:Int):az:={ R with aL:={ R.aL with l:=R.aL.l.filter (nB i) } }
def uO(R:az)(i:Int):List bU:=(R.aL.l.filter fun y=>!nB i y).map fun y=>(32+y.f.aI,mJ y.f.aI y.f.seq y.f.bz y.r)
def nW(R:az)(i:Int):az:={ R with base:=max i (-1) }
def db(R:az)(from_:Int)(f:aA)(ms:List bj)(now:Int):az×List bU:=
 if f.kind=1 then (if f.aI<0 then (R,[]) else if R.bt≤f.aI then (R,[]) else if qD f.op=true then ow R f now else oE R f now)
 else if f.kind=8 then (if (from_=16∧fp (oc f ms)=0)∧R.ch.aB<f.dE then rD R (oc f ms) else (R,[]))
 else if f.kind=4 then (if R.im f=true∧qn from_ R.ny=true then mA R f.entry else (R,[]))
 else if f.kind=5 then (if R.im f=true∧qn from_ R.dK=true then jZ R f else (R,[]))
 else if f.kind=6 then (if R.im f=true∧qn from_ R.ny=true then ((nW R f.index).iX,(nW R f.index).nX) else (R,[]))
 else if f.kind=10 then (if R.im f=true∧from_=16 then (tj R f.index,uO R f.index) else (R,[]))
 else (R,[])
theorem PJ(R:az)(f:aA)(now:Int):(dT R f now).2.2=R.aM∨(dT R f now).2.2=(R.aM.gV f now).2:=by
 unfold dT
 repeat' split
 all_goals first | exact .inl rfl | exact .inr rfl
theorem XU{R:az}(h:R.Ok)(f:aA)(now:Int):(oE R f now).1.Ok:=by
 have hj:(dT R f now).2.2.Calls∧(dT R f now).2.2.Wf:=by
  rcases PJ R f now with e | e
  ·rw[e];exact⟨h.calls,h.wf⟩
  ·rw[e];exact⟨Rp h.calls f now,Rr h.wf f now⟩
 unfold oE
 split
 ·exact vB h hj.1 hj.2
 split
 ·exact vB h hj.1 hj.2
 split
 ·exact vB h (Gm hj.1 _ _ _) (hj.2.dw _ _ _)
 ·exact vB h hj.1 hj.2
theorem Se{R:az}(h:R.Ok)(hr:R.aL.last<100000000)(f:aA)(now:Int)(h0:0≤f.aI)(h1:f.aI≤1000):(ow R f now).1.Ok:=by
 unfold ow
 split
 ·exact h
 ·have e:({ R with aL:=R.aL.put f (lT (bC R.log).1 f.op.key R.log.length) }:az).Ok:=by
   have a0:=h.fR;have a1:=h.jl;have a2:=h.rl
   unfold ee.put
   split
   ·rename_i hl
    exact⟨h.ch,h.win,h.last,h.jd,h.je,h.fR,h.fG,by show((R.aL.l ++ [_]).length:Int)≤R.aL.cap;rw[a_];simp;omega,by show 0≤R.aL.last+1;omega,by show R.aL.last+1≤_;omega,fun y hy=>by
     rcases fL.1 hy with h2 | h2
     ·exact h.iO y h2
     ·rw[mi.1 h2];exact⟨h0,h1⟩,h.calls,h.wf⟩
   ·exact h
  exact e
theorem Tz{R:az}(h:R.Ok)(i:Int):(tj R i).Ok:=⟨h.ch,h.win,h.last,h.jd,h.je,h.fR,h.fG,by
 have:=h.rl;have h2:=nP (nB i) R.aL.l
 show((R.aL.l.filter (nB i)).length:Int)≤R.aL.cap;omega,h.jl,h.jK,fun y hy=>h.iO y (gL.1 hy).1,h.calls,h.wf⟩
theorem Gp{R:az}(h:R.Ok)(i:Int):(nW R i).Ok:=⟨h.ch,h.win,h.last,h.jd,h.je,h.fR,h.fG,h.rl,h.jl,h.jK,h.iO,h.calls,h.wf⟩
theorem O2{R:az}(h:R.Ok)(e:bS):(mA R e).1.Ok:=by
 unfold mA
 split
 ·rename_i h1;exact BX (ud (uE h h1.2 (CM h1.1)))
 ·exact h
theorem B7{c:aW}(h:fp c=0):c.ms.length≤6:=by
 have:k_ c=true:=by
  unfold fp at h
  by_cases hc:k_ c=true
  ·exact hc
  ·rw[if_neg hc] at h;cases h
 simp only[k_,sK,dG,decide_eq_true_eq] at this
 omega
theorem Xs{R:az}(h:R.Fit)(hr:R.aL.last<100000000)(from_:Int)(f:aA)(ms:List bj)(now:Int):(db R from_ f ms now).1.Ok:=by
 have hcl:=h.cl
 unfold db
 split
 ·split
  ·exact h.ok
  split
  ·exact h.ok
  rename_i h1 h2
  split
  ·exact Se h.ok hr f now yd yd
  ·exact XU h.ok f now
 split
 ·split
  ·rename_i h1;exact OE h.ok ⟨by have:=B7 h1.1.2;omega⟩ h.dh h.eN
  ·exact h.ok
 split
 ·split
  ·exact O2 h.ok _
  ·exact h.ok
 split
 ·split
  ·exact F1 h.ok f
  ·exact h.ok
 split
 ·split
  ·exact BX (Gp h.ok _)
  ·exact h.ok
 split
 ·split
  ·exact Tz h.ok _
  ·exact h.ok
 ·exact h.ok
structure fo(R Q:az):Prop where
 id:Q.id=R.id
 bt:Q.bt=R.bt
 cap:Q.cap=R.cap
 jG:Q.jG=R.jG
 D0:Q.aL.cap=R.aL.cap
theorem fo.refl(R:az):fo R R:=⟨rfl,rfl,rfl,rfl,rfl⟩
theorem fo.trans{R Q P:az}(h:fo R Q)(k:fo Q P):fo R P:=⟨k.id.trans h.id,k.bt.trans h.bt,k.cap.trans h.cap,k.jG.trans h.jG,k.D0.trans h.D0⟩
theorem az.Fit.stays{R Q:az}(h:R.Fit)(k:fo R Q)(ok:Q.Ok):Q.Fit:=⟨ok,by rw[k.jG,k.D0];exact h.jG,by rw[k.cap];exact h.dh,by rw[k.cap];exact h.eN,by rw[k.bt];exact h.cl⟩
theorem Cz(R:az):fo R R.dt:=by unfold az.dt;split<;>exact⟨rfl,rfl,rfl,rfl,rfl⟩
theorem Gt(R:az):fo R R.iX:=by unfold az.iX;split<;>exact⟨rfl,rfl,rfl,rfl,rfl⟩
theorem OH(R:az)(c:aW):fo R (rD R c).1:=by
 refine fo.trans (Q:=dR R c) ?_ (Cz _)
 unfold dR;split<;>exact⟨rfl,rfl,rfl,rfl,rfl⟩
theorem R6(r:ee)(f:aA)(x:fV):(r.put f x).cap=r.cap:=by unfold ee.put;split<;>rfl
theorem Xt(R:az)(from_:Int)(f:aA)(ms:List bj)(now:Int):fo R (db R from_ f ms now).1:=by
 have r:=fo.refl R
 unfold db
 split
 ·split
  ·exact r
  split
  ·exact r
  split
  ·unfold ow;split
   ·exact r
   ·exact⟨rfl,Z,Z,Z,R6 _ _ _⟩
  ·unfold oE;repeat' split
   all_goals exact⟨rfl,rfl,rfl,rfl,rfl⟩
 split
 ·split
  ·exact OH _ _
  ·exact r
 split
 ·split
  ·unfold mA;split
   ·exact fo.trans (Q:=(fv R f.entry).dt) (fo.trans (Q:=fv R f.entry) ⟨rfl,Z,Z,Z,Z⟩ (Cz _)) (Gt _)
   ·exact r
  ·exact r
 split
 ·split
  ·unfold jZ jY fC;dsimp only;split<;>exact⟨rfl,rfl,rfl,rfl,rfl⟩
  ·exact r
 split
 ·split
  ·exact fo.trans (Q:=nW R f.index) ⟨rfl,Z,Z,Z,Z⟩ (Gt _)
  ·exact r
 split
 ·split
  ·exact⟨rfl,Z,Z,Z,Z⟩
  ·exact r
 ·exact r
theorem RI(R:az):fo R (sY R).1:=⟨rfl,rfl,rfl,rfl,rfl⟩
theorem JJ(R:az)(now:Int):fo R (fi R now).1:=by
 unfold fi
 split
 ·exact⟨rfl,Z,Z,Z,Z⟩
 split
 ·exact⟨rfl,Z,Z,Z,Z⟩
 ·exact fo.trans (Q:=fv (nq R now) (eJ R now)) ⟨rfl,Z,Z,Z,Z⟩ (Cz _)
theorem Ii(now:Int):∀(k:Nat) (R:az),fo R (jL now k R).1
 | 0,R=>fo.refl R
 | k+1,R=>by
  rw[jL]
  split
  ·split
   ·exact(JJ R now).trans (Ii now k _)
   ·exact JJ R now
  ·exact fo.refl R
theorem Tr(R:az)(now:Int):fo R (gY R now).1:=by
 have h2:fo R (step2 R now).1:=by
  unfold step2;split
  ·exact fo.trans (Q:=ig R now) ⟨rfl,Z,Z,Z,Z⟩ (Ii now 65 _)
  ·exact⟨rfl,Z,Z,Z,Z⟩
 show fo R (jM R now).1
 unfold jM;split
 ·exact h2.trans (RI _)
 ·exact h2
theorem JV{R:az}(h:R.Fit)(hr:R.aL.last<100000000)(from_:Int)(f:aA)(ms:List bj)(now:Int):(db R from_ f ms now).1.Fit:=h.stays (Xt R from_ f ms now) (Xs h hr from_ f ms now)
theorem Tl{R:az}(h:R.Fit)(now:Int):(gY R now).1.Fit:=h.stays (Tr R now) (Tn h.ok now)
end Rep
namespace Rep
open Go Vg T Api Kv Ch Lg Rd Win Adm Sched Conf
attribute [local irreducible] VO VC VA
section
variable {p:Nat} {R:az}
theorem w8(fit:R.Fit)(hlast:R.aL.last<100000000)(from_:Int)(f:aA){ma:Option Addr}{mc:Nat}{ms:List bj}(hm:aP aC 2 Fr w ma ms)(hml:ms.length≤1000000)(now:Int)
  (hi1:-9223372036854775808≤f.entry.index) (hi2:f.entry.index≤9223372036854775807):aq Tryz.prog 253 [.pointer (some ⟨p,0,none⟩),.int .i64 from_,.agg (bW f (ma,ms.length,mc)).toArray,.int .i64 now] Fr w [bd p R]
  (fun v L=>bX (db R from_ f ms now).2 v L [bd p (db R from_ f ms now).1]):=by
 have ok:=fit.ok
 have hcl6:=fit.cl
 have hrl:R.aL.l.length≤16:=by have:=ok.rl;have:=ok.fG;omega
 refine TF 160 Tryz.func253 Z ym aw Z Z ?_
 refine CS (CG (VG (VB (vs:=bW f (ma,ms.length,mc)) Z fun fb=>?_)))
 refine aj ?_
 refine VO.bu 1 Z (aY.rep p R) ?_
 rintro x -
 show VO _ _ _ _ _ [pt p (bh R x) cy,av aN 2 x.a R.ch.ms.length x.c (flat aC R.ch.ms),bw x.lp R.log,bq x.wp R.win,bb x.ap R.aM,br x.rp R.aL,pt fb (bW f (ma,ms.length,mc)) bM] _
 refine E1 ?_
 refine pT ?_
 refine VG (VO.alloc Z fun ob=>?_)
 refine aj ?_
 refine E2 ?_
 refine jr ?_
 refine CN (L':=[pt p (bh R x) cy,av aN 2 x.a R.ch.ms.length x.c (flat aC R.ch.ms),bw x.lp R.log,bq x.wp R.win,bb x.ap R.aM,br x.rp R.aL,aT ob [],pt fb (bW f (ma,ms.length,mc)) bM]) (IP 1 Z (IP 1 Z (IP 1 Z (IP 1 Z (IP 1 Z (IP 1 Z (aa.out (none,0) (IP 0 Z (aa.cN (IP 0 Z aa.nil)))))))))).ah ?_
 refine CS ?_
 refine VC.cZ (σ:=Unit) (fun _=>[(9,pV ob)]) (fun _=>[bd p (db R from_ f ms now).1,aT ob (db R from_ f ms now).2]) (fun _=>True) ?_ ?_
 rotate_left
 ·rintro _ -
  refine VC.bu 1 Z (aY.out ob _) ?_
  rintro⟨a,c⟩ -
  show VC _ _ _ [pt ob [.slice a (db R from_ f ms now).2.length c] zQ,av e8 30 a (db R from_ f ms now).2.length c (flat pE (db R from_ f ms now).2),bd p (db R from_ f ms now).1] _
  refine aj ?_
  exact CR (al.tmp 8 Z Z (IP 2 Z (IP 1 Z aa.nil)).ah ⟨a,c,Z,Z⟩)
 have shut:∀{X:Cx},cI X [pt p (bh R x) cy,av aN 2 x.a R.ch.ms.length x.c (flat aC R.ch.ms),bw x.lp R.log,bq x.wp R.win,bb x.ap R.aM,br x.rp R.aL,aT ob [],pt fb (bW f (ma,ms.length,mc)) bM] [bd p R,aT ob []]:=fun {X}=>
  (aa.rep x (aZ [0,0,0,0,0,0,0])).ah
 have none_:db R from_ f ms now=(R,[])→∀{X:Cx},cI X [pt p (bh R x) cy,av aN 2 x.a R.ch.ms.length x.c (flat aC R.ch.ms),bw x.lp R.log,bq x.wp R.win,bb x.ap R.aM,br x.rp R.aL,aT ob [],pt fb (bW f (ma,ms.length,mc)) bM] [bd p (db R from_ f ms now).1,aT ob (db R from_ f ms now).2]:=fun h {X}=>by
  rw[h];exact shut
 refine tw ?_
 refine CE (i:=f.kind) (j:=1) Z (fun k1=>?_) (fun k1=>?_)
 ·have hT:db R from_ f ms now=(if f.aI<0 then (R,[]) else if R.bt≤f.aI then (R,[]) else if qD f.op=true then ow R f now else oE R f now):=by rw[db,if_pos k1]
  refine CS ?_
  refine CS ?_
  refine CD (ts 0 12 .nil) ym yo ?_
  refine r9 ?_
  by_cases h1:f.aI<0
  ·refine AG (AY 24 true Z (DT h1) ?_)
   refine qR ?_
   refine VC.lf Z (CX ?_)
   exact⟨(),trivial,aF,none_ (by rw[hT,if_pos h1])⟩
  refine AG (AY 24 false Z (DF h1) ?_)
  refine qR ?_
  refine CP (p:=R.bt≤f.aI) Z (fun h2=>CX ?_) (fun h2=>CK ?_)
  ·exact⟨(),trivial,aF,none_ (by rw[hT,if_neg h1,if_pos h2])⟩
  rw[if_neg h1,if_neg h2] at hT
  refine aj ?_
  refine VG (VL 7 f.op.cells Z Z Z Z ?_)
  refine VG (VV (fun Fr w hF hs hS=>Kv.wS Fr w f.op) Z ?_)
  refine aj ?_
  refine CC Z (fun h3=>?_) (fun h3=>?_)
  ·have h3:qD f.op=true:=h3
   rw[if_pos h3] at hT
   refine tE ?_
   refine xq ?_
   refine VG (VK (Lc:=[bd p R,aT ob []]) (Lr:=[]) (fun Fr w hF hs hS=>Af Fr w ok fit.jG FJ f (hm.of hF hs) hml now yd yd) Z Z ?_)
   rintro _ _ ⟨rfl,rfl⟩
   refine aj ?_
   refine⟨(),trivial,aF,?_⟩
   rw[hT];exact ER
  ·have h3:¬qD f.op=true:=fun h=>by rw[show qD f.op=false from h3] at h;cases h
   rw[if_neg h3] at hT
   refine tE ?_
   refine xq ?_
   refine VG (VK (Lc:=[bd p R,aT ob []]) (Lr:=[]) (fun Fr w hF hs hS=>XV Fr w ok FJ f (ma,ms.length,mc) ⟨ms,Z,hml,aP.of hm hF hs⟩ now yd yd) Z Z ?_)
   rintro _ _ ⟨rfl,rfl⟩
   refine aj ?_
   refine⟨(),trivial,aF,?_⟩
   rw[hT];exact ER
 refine CS ?_
 refine aj ?_
 refine CE (i:=f.kind) (j:=8) Z (fun k2=>?_) (fun k2=>?_)
 ·have hT:db R from_ f ms now=(if (from_=16∧fp (oc f ms)=0)∧R.ch.aB<f.dE then rD R (oc f ms) else (R,[])):=by rw[db,if_neg k1,if_pos k2]
  refine CS ?_
  refine CD (ts 0 5 (.only 5 (ts 6 13 .nil))) ym yo ?_
  refine r9 ?_
  by_cases h1:from_=16
  rotate_left
  ·rw[if_neg (fun h=>h1 h.1.1)] at hT
   refine AG (AY 50 false Z yg ?_)
   refine qR ?_
   refine nJ ?_
   refine qR ?_
   refine AG (AY 56 false Z Z ?_)
   refine qR ?_
   refine iQ ?_
   exact oI
  refine AG (AY 50 true Z yg ?_)
  refine qR ?_
  refine AG (VA.cK 7 ((oc f ms).cells ma mc) Z Z Z Z Z ?_)
  refine AG (AR (fun Fr w hF hs hS=>Ch.gq Fr w (c:=oc f ms) (hm.of hF hs) FK) Z Z yv ?_)
  refine qR ?_
  by_cases h2:fp (oc f ms)=0
  rotate_left
  ·rw[if_neg (fun h=>h2 h.1.2)] at hT
   refine AG (AY 56 false Z yj ?_)
   refine qR ?_
   refine iQ ?_
   exact oI
  refine AG (AY 56 true Z yj ?_)
  refine qR ?_
  refine CP (p:=R.ch.aB<f.dE) Z (fun h3=>?_) (fun h3=>CK ?_)
  ·rw[if_pos ⟨⟨h1,h2⟩,h3⟩] at hT
   have hcs:jU (oc f ms):=⟨by have:=B7 h2;omega⟩
   refine aj ?_
   refine VG (VL 7 ((oc f ms).cells ma mc) Z Z Z Z ?_)
   refine xq ?_
   refine aj ?_
   refine VG (VK (Lc:=[bd p R,aT ob []]) (Lr:=[]) (fun Fr w hF hs hS=>OG Fr w ok fit.dh fit.eN FL (c:=oc f ms) (hm.of hF hs) hcs) Z Z ?_)
   rintro _ _ ⟨rfl,rfl⟩
   refine aj ?_
   refine⟨(),trivial,aF,?_⟩
   rw[hT];exact ER
  ·rw[if_neg (fun h=>h3 h.2)] at hT
   exact oI
 refine CS ?_
 refine aj ?_
 refine CE (i:=f.kind) (j:=4) Z (fun k3=>?_) (fun k3=>?_)
 ·have hT:db R from_ f ms now=(if R.im f=true∧qn from_ R.ny=true then mA R f.entry else (R,[])):=by rw[db,if_neg k1,if_neg k2,if_pos k3]
  refine tE ?_
  refine xp ?_
  refine aj ?_
  by_cases h1:R.im f=true
  rotate_left
  ·rw[if_neg (fun h=>h1 h.1)] at hT
   have h1:R.im f=false:=by simpa using h1
   refine VG (VY 77 false Z h1 ?_)
   refine qV ?_
   exact oI
  refine VG (VY 77 true Z h1 ?_)
  refine bF ?_
  refine Lb ?_
  refine bF ?_
  refine VG (VO.iY (fun Fr w=>C3 Fr w from_ R.ny) Z ?_)
  refine bF ?_
  refine CC Z (fun h2=>?_) (fun h2=>CK ?_)
  ·rw[if_pos ⟨h1,h2⟩] at hT
   refine aj ?_
   refine VG (VL 7 (bJ f.entry) Z Z Z Z ?_)
   refine xq ?_
   refine aj ?_
   refine VG (VK (Lc:=[bd p R,aT ob []]) (Lr:=[]) (fun Fr w hF hs hS=>O3 Fr w ok FL f.entry hi1 hi2) Z Z ?_)
   rintro _ _ ⟨rfl,rfl⟩
   refine aj ?_
   refine⟨(),trivial,aF,?_⟩
   rw[hT];exact ER
  ·rw[if_neg (fun h=>by have:=h.2;rw[h2] at this;cases this)] at hT
   exact oI
 refine CS ?_
 refine aj ?_
 refine CE (i:=f.kind) (j:=5) Z (fun k4=>?_) (fun k4=>?_)
 ·have hT:db R from_ f ms now=(if R.im f=true∧qn from_ R.dK=true then jZ R f else (R,[])):=by rw[db,if_neg k1,if_neg k2,if_neg k3,if_pos k4]
  refine tE ?_
  refine xp ?_
  refine aj ?_
  by_cases h1:R.im f=true
  rotate_left
  ·rw[if_neg (fun h=>h1 h.1)] at hT
   have h1:R.im f=false:=by simpa using h1
   refine VG (VY 93 false Z h1 ?_)
   refine qV ?_
   exact oI
  refine VG (VY 93 true Z h1 ?_)
  refine bF ?_
  refine K6 ?_
  refine bF ?_
  refine VG (VO.iY (fun Fr w=>C3 Fr w from_ R.dK) Z ?_)
  refine bF ?_
  refine CC Z (fun h2=>?_) (fun h2=>CK ?_)
  ·rw[if_pos ⟨h1,h2⟩] at hT
   refine tE ?_
   refine xq ?_
   refine aj ?_
   refine VG (VK (Lc:=[bd p R,aT ob []]) (Lr:=[]) (fun Fr w hF hs hS=>xV Fr w ok FL f _) Z Z ?_)
   rintro _ _ ⟨rfl,rfl⟩
   refine aj ?_
   refine⟨(),trivial,aF,?_⟩
   rw[hT];exact ER
  ·rw[if_neg (fun h=>by have:=h.2;rw[h2] at this;cases this)] at hT
   exact oI
 refine CS ?_
 refine aj ?_
 refine CE (i:=f.kind) (j:=6) Z (fun k5=>?_) (fun k5=>?_)
 ·have hT:db R from_ f ms now=(if R.im f=true∧qn from_ R.ny=true then ((nW R f.index).iX,(nW R f.index).nX) else (R,[])):=by rw[db,if_neg k1,if_neg k2,if_neg k3,if_neg k4,if_pos k5]
  refine tE ?_
  refine xp ?_
  refine aj ?_
  by_cases h1:R.im f=true
  rotate_left
  ·rw[if_neg (fun h=>h1 h.1)] at hT
   have h1:R.im f=false:=by simpa using h1
   refine VG (VY 108 false Z h1 ?_)
   refine qV ?_
   exact oI
  refine VG (VY 108 true Z h1 ?_)
  refine bF ?_
  refine Lb ?_
  refine bF ?_
  refine VG (VO.iY (fun Fr w=>C3 Fr w from_ R.ny) Z ?_)
  refine bF ?_
  refine CC Z (fun h2=>?_) (fun h2=>CK ?_)
  ·rw[if_pos ⟨h1,h2⟩] at hT
   have okb:=Gp ok f.index
   refine tw ?_
   refine VG (VO.st 0 (cs':=bh (nW R f.index) x) Z Z Z Z (by show 14<17;omega) (by
    rw[show(if f.index < -1 then (-1:Int) else f.index)=max f.index (-1) by split<;>omega]
    rfl) rfl ?_)
   refine aj ?_
   refine VO.ah (L':=[bd p (nW R f.index),aT ob []]) (aa.rep (R:=nW R f.index) x (aZ [0,0,0,0,0,0,0])).ah ?_
   refine VG (VK (Lc:=[bd p (nW R f.index),aT ob []]) (Lr:=[]) (fun Fr w hF hs hS=>Gs Fr w okb FJ) Z Z ?_)
   rintro _ _ ⟨rfl,rfl⟩
   refine aj ?_
   refine⟨(),trivial,aF,?_⟩
   rw[hT];exact ER
  ·rw[if_neg (fun h=>by have:=h.2;rw[h2] at this;cases this)] at hT
   exact oI
 refine CS ?_
 refine aj ?_
 refine CE (i:=f.kind) (j:=10) Z (fun k6=>?_) (fun k6=>CK ?_)
 rotate_left
 ·exact⟨(),trivial,aF,none_ (by rw[db,if_neg k1,if_neg k2,if_neg k3,if_neg k4,if_neg k5,if_neg k6])⟩
 have hT:db R from_ f ms now=(if R.im f=true∧from_=16 then (tj R f.index,uO R f.index) else (R,[])):=by rw[db,if_neg k1,if_neg k2,if_neg k3,if_neg k4,if_neg k5,if_pos k6]
 refine tE ?_
 refine xp ?_
 refine aj ?_
 by_cases h1:R.im f=true
 rotate_left
 ·rw[if_neg (fun h=>h1 h.1)] at hT
  have h1:R.im f=false:=by simpa using h1
  refine VG (VY 128 false Z h1 ?_)
  refine qV ?_
  exact oI
 refine VG (VY 128 true Z h1 ?_)
 refine bF ?_
 refine CE (i:=from_) (j:=16) Z (fun h2=>?_) (fun h2=>CK ?_)
 rotate_left
 ·rw[if_neg (fun h=>h2 h.2)] at hT
  exact oI
 rw[if_pos ⟨h1,h2⟩] at hT
 refine CN (L':=[br x.rp R.aL,pt p (bh R x) cy,av aN 2 x.a R.ch.ms.length x.c (flat aC R.ch.ms),bw x.lp R.log,bq x.wp R.win,bb x.ap R.aM,aT ob [],pt fb (bW f (ma,ms.length,mc)) bM]) (aZ [5,0,0,0,0,0,0,0]).ah ?_
 refine CS ?_
 refine CD (ts 0 6 (.take 8 (.only 6 (.take 7 .nil)))) ym yo ?_
 refine r9 ?_
 refine AG (AO (OC (Lc:=[br x.rp R.aL]) (R:=fun v L=>∃a c rows,rows.map Prod.fst=R.aL.l.filter (fun x=>!nB f.index x)∧v=.slice a rows.length c∧L=[br x.rp { R.aL with l:=R.aL.l.filter (nB f.index) },av dM 34 a rows.length c (flat cM rows)]) Z (.refl _) (fun Fr w hF hs hS=>Rd.TA Fr w ok.fR yd f.index)) Z ?_ ?_)
 ·rintro _ _ ⟨_,⟨ga,gc,rows,hrows,rfl,rfl⟩,rfl⟩
  exact yv
 rintro _ _ ⟨_,⟨ga,gc,rows,hrows,rfl,rfl⟩,rfl⟩
 (repeat(first|refine yG (yN ?_)|refine yG (yD 0 rfl rfl rfl rfl rfl ?_)|refine yG (yD 1 rfl rfl rfl rfl rfl ?_)|refine yG (yD 2 rfl rfl rfl rfl rfl ?_)|refine yG (yD 3 rfl rfl rfl rfl rfl ?_)|refine yG (yD 4 rfl rfl rfl rfl rfl ?_)|refine yG (yD 5 rfl rfl rfl rfl rfl ?_)|refine yG (yD 6 rfl rfl rfl rfl rfl ?_)|refine yG (yD 7 rfl rfl rfl rfl rfl ?_)|refine yG (yD 8 rfl rfl rfl rfl rfl ?_)))
 have hrowl:rows.length≤16:=by
  have:=congrArg List.length hrows
  rw[dW] at this
  have h2:=nP (fun y=>!nB f.index y) R.aL.l
  omega
 show VC _ _ _ [br x.rp (tj R f.index).aL,av dM 34 ga rows.length gc (flat cM rows),pt p (bh R x) cy,av aN 2 x.a R.ch.ms.length x.c (flat aC R.ch.ms),bw x.lp R.log,bq x.wp R.win,bb x.ap R.aM,aT ob [],pt fb (bW f (ma,ms.length,mc)) bM] _
 refine VC.bu 1 Z (aY.rl dM ga gc rows wN) ?_
 rintro r ⟨rok,hrv,hrx⟩
 show VC _ _ _ [r.h dM,br x.rp (tj R f.index).aL,pt p (bh R x) cy,av aN 2 x.a R.ch.ms.length x.c (flat aC R.ch.ms),bw x.lp R.log,bq x.wp R.win,bb x.ap R.aM,aT ob [],pt fb (bW f (ma,ms.length,mc)) bM] _
 have hexp:∀i,i≤rows.length→(rows.take i).length=i:=fun i hi=>by simp;omega
 refine VC.block ?_
 refine VC.loop (σ:=Nat) (fun i=>[(0,pV p),(9,pV ob),(10,dk ob),(138,.slice ga rows.length gc),(139,.int .i64 rows.length),(140,.int .i64 i)])
  (fun i=>[r.h dM,br x.rp (tj R f.index).aL,pt p (bh R x) cy,av aN 2 x.a R.ch.ms.length x.c (flat aC R.ch.ms),bw x.lp R.log,bq x.wp R.win,bb x.ap R.aM,aT ob ((rows.take i).map fun y=>(32+y.1.f.aI,mJ y.1.f.aI y.1.f.seq y.1.f.bz y.1.r))])
  (fun i=>i≤rows.length) (fun i=>rows.length-i) 0
  (bK _) aF (aZ [0,0,0,0,0,0,0,0]).ah ?_
 intro i hi
 refine aj ?_
 refine CP Z (fun h1=>CK ?_) (fun h1=>CX ?_)
 ·have hi2:i<rows.length:=by omega
  obtain⟨g,hg⟩:∃g,rows[i]?=some g:=⟨_,GE hi2⟩
  have hgm:g.1∈R.aL.l:=by
   have h2:g.1∈rows.map Prod.fst:=eC.2 ⟨g,ME hg,rfl⟩
   rw[hrows] at h2
   exact(gL.1 h2).1
  have hcg:=ok.iO g.1 hgm
  obtain⟨gb,go,r1,r2,hrd⟩:=rok.ld (t:=dM) (hrx▸hg) rfl
  obtain rfl:ga=some ⟨gb,go,none⟩:=by rw[RL.v,r2,hrx] at hrv;injection hrv with e1;exact e1.symm
  refine sf ?_
  refine E3 ?_
  refine VG (VO.alloc Z fun tb=>?_)
  refine E4 ?_
  refine aj ?_
  refine VG (VL 0 (a8 g.1.r) Z Z Z Z ?_)
  refine aj ?_
  refine VG (VQ 8 Z (fun Fr w hF hs hS=>D8 Fr w (by rw[dW,hexp i yd];omega) g.1.f.aI g.1.f.seq g.1.f.bz hcg.1 yd g.1.r) Z (ψ:=fun v H=>v=.tuple #[]∧H=aT ob ((rows.take i).map (fun y=>(32+y.1.f.aI,mJ y.1.f.aI y.1.f.seq y.1.f.bz y.1.r)) ++ [(32+g.1.f.aI,mJ g.1.f.aI g.1.f.seq g.1.f.bz g.1.r)])) yz ?_)
  rintro _ _ ⟨rfl,rfl⟩
  refine gG ?_
  refine⟨i+1,hi2,by dsimp only;omega,aF,?_⟩
  dsimp only
  rw[fS,hg,Option.toList_some,fA,List.map_singleton]
  exact(aZ [1,1,1,1,1,1,1,1]).ah
 obtain rfl:i=rows.length:=by omega
 rw[jR]
 have hes:(rows.map fun y=>((32+y.1.f.aI,mJ y.1.f.aI y.1.f.seq y.1.f.bz y.1.r):bU))=uO R f.index:=by
  unfold uO
  rw[←hrows,lG];rfl
 rw[hes]
 refine⟨(),trivial,aF,?_⟩
 rw[hT]
 exact(aa.rep (R:=tj R f.index) x (aZ [2,2,2,2,2,1,1])).ah
end
end Rep
namespace Rep
open Go Vg T Api Kv Ch Lg Rd Win Adm Sched Conf
attribute [local irreducible] VO VC VA
section
variable {p:Nat} {R:az}
theorem Sp(h:aV Fr [bd p R] w):aq Tryz.prog 61 [.pointer (some ⟨p,0,none⟩)] Fr w [] (fun v L=>v=.int .i64 R.since∧L=[]):=by
 obtain⟨x,hx⟩:=fM.zM h
 have hb:=hx.ar
 refine TF 10 Tryz.func61 Z ym aw Z Z ?_
 refine aj ?_
 refine VG (VV (fun Fr w hF hs _=>wz Fr w (hb.of hF hs)) Z (VG (VN (VC.kG Z (CK ?_)))))
 refine kS ?_
 exact uV
theorem Qr(ok:R.Ok)(h:aV Fr [bd p R] w):aq Tryz.prog 126 [.pointer (some ⟨p,0,none⟩)] Fr w [] (fun v L=>∃q,v=.pointer (some ⟨q,0,none⟩)∧L=[bw q R.log]):=by
 obtain⟨x,hx⟩:=fM.zM h
 have hb:=hx.ar
 have hl:=hx.log
 have h1:=ok.last;have h2:=ok.win.ir
 refine TF 11 Tryz.func126 Z ym aw Z Z ?_
 refine aj ?_
 refine VG (VV (fun Fr w hF hs _=>wz Fr w (hb.of hF hs)) Z (VG (VN (VC.kG Z (CK ?_)))))
 refine kS ?_
 refine VG (VK (Lc:=[]) (fun Fr w hF hs _=>Lg.vN Fr w (hl.of hF hs) yd) Z Z ?_)
 rintro _ _ ⟨q,rfl,rfl⟩
 exact FT
theorem Yi(ok:R.Ok)(h:aV Fr [bd p R] w):aq Tryz.prog 59 [.pointer (some ⟨p,0,none⟩)] Fr w [] (fun v L=>∃q,v=.pointer (some ⟨q,0,none⟩)∧L=[bq q R.win]):=by
 obtain⟨x,hx⟩:=fM.zM h
 have hb:=hx.ar
 have hl:=hx.win
 refine TF 11 Tryz.func59 Z ym aw Z Z ?_
 refine aj ?_
 refine VG (VV (fun Fr w hF hs _=>wz Fr w (hb.of hF hs)) Z (VG (VN (VC.kG Z (CK ?_)))))
 refine kS ?_
 refine VG (VK (Lc:=[]) (fun Fr w hF hs _=>Win.vN Fr w (hl.of hF hs) ok.win.dh) Z Z ?_)
 rintro _ _ ⟨q,rfl,rfl⟩
 exact FT
theorem NL(ok:R.Ok)(h:aV Fr [bd p R] w):aq Tryz.prog 60 [.pointer (some ⟨p,0,none⟩)] Fr w [] (fun v L=>∃a c,v=.agg (R.ch.cells a c).toArray∧L=[av aN 2 a R.ch.ms.length c (flat aC R.ch.ms)]):=by
 obtain⟨x,hx⟩:=fM.zM h
 have hb:=hx.ar
 have hm:=hx.mem
 have hl:=ok.ch.len
 refine TF 12 Tryz.func60 Z ym aw Z Z ?_
 refine CS (CG (VG (VO.alloc Z fun d=>?_)))
 refine aj ?_
 refine VG (VV (fun Fr w hF hs _=>wz Fr w (hb.of hF hs)) Z (VG (VN (VC.kG Z (CK ?_)))))
 refine aj ?_
 refine VG (VO.load Z Z (an.h_ (ds:=R.ch.cells x.a x.c) hb Z) ?_)
 refine K_ ?_
 rintro _ _ ⟨a',c',rfl,rfl⟩
 refine VG (VT (vs:=R.ch.cells a' c') (cs':=R.ch.cells a' c') 1 Z Z Z Z (NR _) Z Z Z ?_)
 refine aj ?_
 exact E5
def rA(aB:Int):aA:={ aA.zero with kind:=12,aB:=aB }
def d'(R:az):az:=if R.linked then { R with win:={ R.win with bX:=min (max R.dp 0) R.win.last } } else R
def jN(R:az):az×List bU:=(d' R,R.np++R.fO++R.iW++(if (!R.aL.l.isEmpty)=true then [(16,mZ R.ch.aB R.aL.ni)] else [])++(if R.gP=true∧R.win.done=R.win.last then [(16,rA R.ch.aB)] else []))
theorem JX{R:az}(h:R.Ok):(d' R).Ok:=by
 unfold d'
 split
 ·have hw:=h.win
  refine⟨h.ch,⟨hw.dh,hw.eN,hw.kH,hw.kI,hw.ir,?_,?_,hw.sP,hw.sQ⟩,h.last,h.jd,h.je,h.fR,h.fG,h.rl,h.jl,h.jK,h.iO,h.calls,h.wf⟩
  ·show 0≤min (max R.dp 0) R.win.last
   have:=hw.kH;have:=hw.kI;omega
  ·show min (max R.dp 0) R.win.last≤R.win.last;omega
 ·exact h
theorem Xz(R:az):fo R (jN R).1:=by
 show fo R (d' R)
 unfold d';split<;>exact⟨rfl,rfl,rfl,rfl,rfl⟩
theorem Xx{R:az}(h:R.Fit):(jN R).1.Fit:=h.stays (Xz R) (JX h.ok)
theorem Xy(ok:R.Ok)(now:Int):aq Tryz.prog 241 [.pointer (some ⟨p,0,none⟩),.int .i64 now] Fr w [bd p R]
  (fun v L=>bX (jN R).2 v L [bd p (jN R).1]):=by
 have hrl:R.aL.l.length≤16:=by have:=ok.rl;have:=ok.fG;omega
 have gl:R.fO.length≤1:=by unfold az.fO;split<;>simp
 have bl:R.iW.length≤1:=by unfold az.iW;split<;>simp
 have ml:R.np.length=1:=rfl
 refine TF 78 Tryz.func241 Z ym aw Z Z ?_
 refine u0 ?_
 rintro x -
 show VC _ _ _ [pt p (bh R x) cy,av aN 2 x.a R.ch.ms.length x.c (flat aC R.ch.ms),bw x.lp R.log,bq x.wp R.win,bb x.ap R.aM,br x.rp R.aL] _
 refine aj ?_
 refine E1 ?_
 refine pT ?_
 refine VG (VO.alloc Z fun ob=>?_)
 refine aj ?_
 refine E2 ?_
 refine aj ?_
 refine VO.ah (L':=e7 p R x ob []) (IP 1 Z (IP 1 Z (IP 1 Z (IP 1 Z (IP 1 Z (IP 1 Z (aa.out (none,0) (IP 0 Z (aa.cN aa.nil))))))))).ah ?_
 unfold e7
 refine VG (VQ 6 Z (fun Fr w hF hs hS=>JW Fr w (hS.ar 0 Z) (by show 0≤1000000;omega)) Z (ψ:=fun v H=>v=.tuple #[]∧H=aT ob ([]++R.np)) yz ?_)
 rintro _ _ ⟨rfl,rfl⟩
 refine aj ?_
 refine VG (VQ 6 Z (fun Fr w hF hs hS=>zj Fr w (fM.mG hS 0 Z Z Z Z Z Z) ok.ch ok.win (by rw[kW];omega)) Z (ψ:=fun v H=>v=.tuple #[]∧H=aT ob (R.np++R.fO)) yz ?_)
 rintro _ _ ⟨rfl,rfl⟩
 refine aj ?_
 refine VG (VQ 6 Z (fun Fr w hF hs hS=>Eo Fr w (fM.mG hS 0 Z Z Z Z Z Z) ok.ch pP) Z (ψ:=fun v H=>v=.tuple #[]∧H=aT ob (R.np++R.fO++R.iW)) yz ?_)
 rintro _ _ ⟨rfl,rfl⟩
 generalize hS1:R.np++R.fO++R.iW=S1
 have hS1l:S1.length≤3:=by rw[←hS1,a_,a_];omega
 refine jr ?_
 show VC _ _ _ (e7 p R x ob S1) _
 have R2e:∀(y:kY) (S:List bU),e7 p (d' R) y ob S=[pt p (bh (d' R) y) cy,av aN 2 y.a (d' R).ch.ms.length y.c (flat aC (d' R).ch.ms),bw y.lp (d' R).log,bq y.wp (d' R).win,bb y.ap (d' R).aM,br y.rp (d' R).aL,aT ob S]:=fun _ _=>rfl
 refine CS ?_
 refine VC.cZ (σ:=Unit) (fun _=>[(0,pV p),(5,pV ob),(6,dk ob)]) (fun _=>e7 p (d' R) x ob S1) (fun _=>True) ?_ ?_
 ·unfold e7
  refine aj ?_
  refine CC Z (fun h1=>?_) (fun h1=>CK ?_)
  ·have e:d' R={ R with win:={ R.win with bX:=min (max R.dp 0) R.win.last } }:=by rw[d',if_pos h1]
   refine CD (ts 0 8 (.only 8 .nil)) ym yo ?_
   refine bg ?_
   refine AG (AQ 3 Z (fun Fr w hF hs hS=>Win.Gk Fr w ok.win R.dp) Z Z (ψ:=fun v H=>v=.tuple #[]∧H=bq x.wp { R.win with bX:=min (max R.dp 0) R.win.last }) yz ?_ ?_)
   ·rintro _ _ ⟨rfl,rfl⟩
    exact yv
   rintro _ _ ⟨rfl,rfl⟩
   refine bg ?_
   refine⟨(),trivial,aF,?_⟩
   rw[e];exact ER
  ·have e:d' R=R:=by rw[d',if_neg qS]
   refine⟨(),trivial,aF,?_⟩
   rw[e];exact ER
 rintro _ -
 have et:(d' R).aL=R.aL∧(d' R).ch=R.ch∧(d' R).gP=R.gP∧(d' R).win.done=R.win.done∧(d' R).win.last=R.win.last:=by unfold d';split<;>exact⟨rfl,rfl,rfl,rfl,rfl⟩
 have okt:=JX ok
 have htk:jN R=(d' R,S1++(if (!(d' R).aL.l.isEmpty)=true then [(16,mZ (d' R).ch.aB (d' R).aL.ni)] else [])++(if (d' R).gP=true∧(d' R).win.done=(d' R).win.last then [(16,rA (d' R).ch.aB)] else [])):=by
  rw[et.1,et.2.1,et.2.2.1,et.2.2.2.1,et.2.2.2.2,←hS1];rfl
 rw[htk]
 have hrt:(d' R).aL.l.length≤16:=by rw[et.1];exact hrl
 generalize d' R=Q at *
 refine CS ?_
 refine VC.cZ (σ:=Unit) (fun _=>[(0,pV p),(5,pV ob),(6,dk ob)]) (fun _=>e7 p Q x ob (S1++(if (!Q.aL.l.isEmpty)=true then [(16,mZ Q.ch.aB Q.aL.ni)] else []))) (fun _=>True) ?_ ?_
 ·unfold e7
  refine aj ?_
  refine VG (VV (fun Fr w hF hs hS=>Rd.oe Fr w (hS.at_ 5 Z) okt.fR yd) Z ?_)
  refine aj ?_
  refine CC Z (fun h1=>?_) (fun h1=>CK ?_)
  ·refine aj ?_
   refine VG (VI (LB (pv:=[(0,.int .i64 9),(1,.int .i64 Q.ch.aB),(12,.int .i64 Q.aL.ni)]) (bW (mZ Q.ch.aB Q.aL.ni) jh) Z Z Z ym Z) ?_)
   refine VG (VO.kF 6 Z Z (fun Fr w hF hs _=>qe Fr w ob S1 yd 16 (mZ Q.ch.aB Q.aL.ni)) Z (ψ:=fun v H=>v=.tuple #[]∧H=aT ob (S1 ++ [(16,mZ Q.ch.aB Q.aL.ni)])) yz ?_)
   rintro _ _ ⟨rfl,rfl⟩
   refine aj ?_
   refine⟨(),trivial,aF,?_⟩
   rw[if_pos h1];exact ER
  ·refine⟨(),trivial,aF,?_⟩
   rw[if_neg qS,bA];exact ER
 rintro _ -
 generalize hS2:S1++(if (!Q.aL.l.isEmpty)=true then [(16,mZ Q.ch.aB Q.aL.ni)] else [])=S2
 have hS2l:S2.length≤4:=by rw[←hS2,a_];split<;>simp<;>omega
 refine CS ?_
 refine VC.cZ (σ:=Unit) (fun _=>[(5,pV ob)]) (fun _=>[bd p Q,aT ob (S2++(if Q.gP=true∧Q.win.done=Q.win.last then [(16,rA Q.ch.aB)] else []))]) (fun _=>True) ?_ ?_
 ·unfold e7
  have no:¬(Q.gP=true∧Q.win.done=Q.win.last)→∀{X:Cx},cI X (e7 p Q x ob S2) [bd p Q,aT ob (S2++(if Q.gP=true∧Q.win.done=Q.win.last then [(16,rA Q.ch.aB)] else []))]:=fun h {X}=>by
   rw[if_neg h,bA];exact lC.ah
  refine CS ?_
  refine CD (ts 0 1 (.only 1 (ts 2 5 (ts 8 4 (.only 7 (.only 12 (ts 13 2 .nil))))))) ym yo ?_
  refine bg ?_
  refine AG (AR (fun Fr w hF hs hS=>yR Fr w (hS.ar 0 Z)) Z Z yv ?_)
  refine bg ?_
  by_cases h1:Q.gP=true
  rotate_left
  ·have h1':Q.gP=false:=by simpa using h1
   refine AG (AY 55 false Z h1' ?_)
   refine tD ?_
   refine BB ?_
   refine iQ ?_
   exact⟨(),trivial,aF,no (fun h=>h1 h.1)⟩
  refine AG (AY 55 true Z h1 ?_)
  refine dF ?_
  refine AG (AR (fun Fr w hF hs hS=>Win.yQ Fr w (hS.ar 3 Z) okt.win.dh) Z Z yv ?_)
  refine dF ?_
  refine AG (AR (fun Fr w hF hs hS=>Win.oe Fr w (hS.ar 3 Z) okt.win.dh) Z Z yv ?_)
  refine dF ?_
  refine CE (i:=Q.win.done) (j:=Q.win.last) Z (fun h2=>?_) (fun h2=>CK ?_)
  ·refine aj ?_
   refine VG (VI (LB (pv:=[(0,.int .i64 12),(1,.int .i64 Q.ch.aB)]) (bW (rA Q.ch.aB) jh) Z Z Z ym Z) ?_)
   refine VG (VO.kF 6 Z Z (fun Fr w hF hs _=>qe Fr w ob S2 yd 16 (rA Q.ch.aB)) Z (ψ:=fun v H=>v=.tuple #[]∧H=aT ob (S2 ++ [(16,rA Q.ch.aB)])) yz ?_)
   rintro _ _ ⟨rfl,rfl⟩
   refine aj ?_
   refine⟨(),trivial,aF,?_⟩
   rw[if_pos ⟨h1,h2⟩];exact(lC (x:=x)).ah
  ·exact⟨(),trivial,aF,no (fun h=>h2 h.2)⟩
 rintro _ -
 refine VC.bu 1 Z (aY.out ob _) ?_
 rintro⟨a,c⟩ -
 refine aj ?_
 exact CR (al.tmp 4 Z Z (IP 2 Z (IP 1 Z aa.nil)).ah ⟨a,c,Z,Z⟩)
end
end Rep
namespace Rep
open Go Vg T Api Kv Ch Lg Rd Win Adm Sched Conf
attribute [local irreducible] VO VC VA
def rY(aI seq bz aB:Int):aA:={ aA.zero with kind:=1,aB:=aB,aI:=aI,seq:=seq,bz:=bz,deadline:=9,op:=⟨2,⟨#[107]⟩,⟨#[118]⟩,0⟩ }
end Rep
namespace Cl
open Go Vg T Api Ch Conf Rep
abbrev dX:=Int×aA×List bj
def fE(S:List bU):List dX:=S.map fun x=>(x.1,x.2,[])
def DJ:bp:=⟨0,⟨#[]⟩,⟨#[]⟩,0⟩
def cV(n:Int):Int:=min (max n 0) 1099511627776
def ke(c:aW):aA:={ aA.zero with kind:=8,dE:=c.aB,drain:=c.drain }
def gp(c:aW)(toQ:Int):dX:=(toQ,ke c,c.ms)
def fX(c:aW):Int:=if fp c≠0∨c.aB=1099511627776 then 2 else 0
def jD(c:aW)(n:Int):Int:=if placeOf c.ms n<0 then 4 else if c.ms.length=1 then 72 else 0
def eG:aW:=⟨0,[],0⟩
def fJ(c:aW)(n:Int):aW×Int:=
 if fX c≠0 then (eG,2) else if pq n=false then (eG,2) else if 0≤placeOf c.ms n then (eG,62)
 else (⟨c.aB+1,c.ms ++ [(n,c.aB+1)],c.drain⟩,0)
def jP(c:aW)(n:Int):aW×Int:=
 if fX c≠0 then (eG,2) else if jD c n≠0 then (eG,jD c n)
 else (⟨c.aB+1,c.ms.eraseIdx (placeOf c.ms n).toNat,if c.drain=n then -1 else c.drain⟩,0)
def ic(c:aW)(n:Int):aW×Int:=
 if fX c≠0 then (eG,2) else if jD c n≠0 then (eG,jD c n) else if c.drain≠-1 then (eG,62)
 else (⟨c.aB+1,c.ms,n⟩,0)
structure dD where
 cap:Int
 dQ:Int
 tokens:Int
 tick:Int
 since:Int
def mU:Nat→dD→dD
 | 0,b=>b
 | k+1,b=>if b.tokens<b.cap∧b.since+b.dQ≤b.tick then mU k { b with tokens:=b.tokens+1,since:=b.since+b.dQ } else b
def dD.at(b:dD)(now:Int):dD:={ b with tick:=min (max now b.tick) 1099511627776 }
def dD.full(b:dD):dD:=if b.tokens=b.cap then { b with since:=b.tick } else b
def dD.ka(b:dD)(now:Int):dD:=(mU 17 (b.at now)).full
def dD.take(b:dD)(now:Int):dD×Bool:=
 if (b.ka now).tokens=0 then (b.ka now,false) else ({ b.ka now with tokens:=(b.ka now).tokens-1 },true)
def uf(tries jG:Int):Int:=
 if tries<1 then 0 else if 7<tries then min (max jG 0) 64 else min ((2 ^ (tries-1).toNat:Nat):Int) (min (max jG 0) 64)
structure dY where
 kind:Int
 reason:Int
 res:fV
def bO:fV:=⟨0,⟨#[]⟩,0,0⟩
structure aR where
 id:Int
 cls:Int
 timeout:Int
 eR:Int
 tok:dD
 ch:aW
 out:Option (Option dY)
 eP:Int
 since:Int
 AB:Int
 unsure:Bool
 seq:Int
 tries:Int
 cl:Int
 deadline:Int
 op:bp
def om(c:bn)(id:Int):aR:=⟨id,c.qs.length,c.timeout,c.eR,⟨c.eR,c.dQ,c.eR,0,0⟩,eG,none,0,0,0,false,0,0,0,0,DJ⟩
def BR:List dX:=[(16,{ aA.zero with kind:=7 },[])]
def wQ(o:bp):Bool:=decide (o.kind=1)&&decide (c_ o=0)
def aR.ask(s:aR)(now:Int):aR×List dX:=({ s with eP:=1,since:=now },BR)
def kc(s:aR):aA:={ aA.zero with kind:=1,aB:=s.ch.aB,aI:=s.id,seq:=s.seq,bz:=s.tries,cls:=s.cl,deadline:=s.deadline,op:=s.op }
def aR.toQ(s:aR):Int:=if wQ s.op then tm s.ch else ug s.ch
def aR.nD(s:aR)(now:Int):aR:={ s with tries:=s.tries+1,eP:=2,since:=now }
def aR.bz(s:aR)(now:Int):aR×List dX:=(s.nD now,[((s.nD now).toQ,kc (s.nD now),[])])
def JO(o:Option (Option dY))(x:dY):Option (Option dY):=match o with
 | some none=>some (some x)
 | o=>o
def aR.end_(s:aR)(o:dY):aR:={ s with out:=JO s.out o,eP:=0 }
def aR.giveUp(s:aR)(reason:Int):aR×List dX:=(s.end_ (if s.unsure then ⟨3,0,bO⟩ else ⟨2,reason,bO⟩),BR)
def aR.zX(s:aR)(now:Int):aR:={ s with eP:=3,AB:=now+uf s.tries 64 }
def aR.pF(s:aR)(now:Int):aR:={ s with tok:=(s.tok.take now).1 }
def aR.ja(s:aR)(reason now:Int):aR×List dX:=
 if s.eR<s.tries∨s.deadline<now then s.giveUp reason
 else if (s.tok.take now).2 then ((s.pF now).zX now,[]) else (s.pF now).giveUp reason
def aR.begun(s:aR)(o:bp)(cl deadline:Int):aR:={ s with out:=some none,seq:=s.seq+1,tries:=0,unsure:=false,op:=o,cl:=cl,deadline:=deadline }
def aR.eY(s:aR)(o:bp)(cl deadline:Int):Int:=
 if s.eP≠0 then 63 else if c_ o≠0∨cl<0∨s.cls≤cl∨deadline<0∨1099511627776<deadline then 2 else 0
def aR.call(s:aR)(o:bp)(cl deadline now:Int):aR×List dX:=
 if s.eY o cl deadline≠0 then (s,[]) else if 0<s.ch.aB then (s.begun o cl deadline).bz (cV now) else (s.begun o cl deadline).ask (cV now)
def aR.refused(s:aR)(reason now:Int):aR×List dX:=
 if reason=6∨reason=5∨reason=7 then ({ s with unsure:=true }:aR).ja reason now
 else if reason=2∨reason=10 then s.giveUp reason else s.ja reason now
def aR.take(s:aR)(f:aA)(ms:List bj)(now:Int):aR×List dX:=
 if f.kind=8 then
  if fp ⟨f.dE,ms,f.drain⟩≠0∨f.dE<s.ch.aB then (s,[])
  else if s.eP=1 then ({ s with ch:=⟨f.dE,ms,f.drain⟩ }:aR).bz (cV now) else ({ s with ch:=⟨f.dE,ms,f.drain⟩ },[])
 else if f.kind=2 then if s.eP≠0∧f.aI=s.id∧f.seq=s.seq then (s.end_ ⟨1,0,f.res⟩,[]) else (s,[])
 else if f.kind=3 then if s.eP=2∧f.aI=s.id∧f.seq=s.seq∧f.bz=s.tries then s.refused f.reason (cV now) else (s,[])
 else (s,[])
def aR.tick(s:aR)(now:Int):aR×List dX:=
 if s.eP=2 then if s.timeout≤cV now-s.since then ({ s with unsure:=true }:aR).ja 0 (cV now) else (s,[])
 else if s.eP=1 then if cV now-s.since<s.timeout then (s,[]) else if s.deadline<cV now then s.giveUp 2 else s.ask (cV now)
 else if s.eP=3 then if s.AB≤cV now then s.ask (cV now) else (s,[])
 else (s,[])
def aR.outcome(s:aR):Option dY:=s.out.getD none
structure aJ where
 nodes:Int
 ei:Int
 ch:aW
 heard:List Int
 whole:List Bool
def oq(c:bn):aJ:=⟨c.nodes,c.ei,cU c,List.replicate 6 0,(List.range 6).map fun(i:Nat)=>decide ((i:Int)<c.chain)⟩
def aJ.tp(m:aJ)(n:Int):Bool:=(m.whole[n.toNat]?).getD false
def aJ.pe(m:aJ)(n:Int):Int:=(m.heard[n.toNat]?).getD 0
def aJ.lV(m:aJ)(n:Int):Bool:=m.ch.ms.any fun x=>!decide (x.1=n)&&m.tp x.1
def aJ.isNode(m:aJ)(n:Int):Bool:=decide (0≤n)&&decide (n<m.nodes)
def aJ.all(m:aJ):List dX:=(List.range m.nodes.toNat).map fun(n:Nat)=>gp m.ch (n:Int)
def aJ.nu(m:aJ)(n:Int):Int:=(jP m.ch n).2
def aJ.gone(m:aJ)(n:Int):aJ:={ m with ch:=(jP m.ch n).1,whole:=m.whole.set n.toNat false }
def aJ.out(m:aJ)(n:Int):aJ:=if m.nu n≠0 then m else m.gone n
def nA(aB index:Int):aA:={ aA.zero with kind:=10,aB:=aB,index:=index }
def aJ.fY(m:aJ)(from_ now:Int):aJ:={ m with heard:=m.heard.set from_.toNat (cV now) }
def aJ.wholeAt(m:aJ)(from_:Int):aJ:={ m with whole:=m.whole.set from_.toNat true }
def aJ.take(m:aJ)(from_:Int)(f:aA)(now:Int):aJ×List dX:=
 if f.kind=7 then (m,[gp m.ch from_])
 else if m.isNode from_=false then (m,[])
 else if f.kind=11 then
  if f.aB≠m.ch.aB then (m.fY from_ now,[gp m.ch from_])
  else if f.index=1∧(dm m.ch from_).2=true then ((m.fY from_ now).wholeAt from_,[]) else (m.fY from_ now,[])
 else if f.kind=9 then
  if f.aB≠m.ch.aB then (m,[gp m.ch from_]) else if tm m.ch=from_ then (m,[(from_,nA f.aB f.index,[])]) else (m,[])
 else if f.kind=12 then
  if (f.aB=m.ch.aB∧m.ch.drain=from_)∧m.lV from_=true∧m.nu from_=0 then (m.gone from_,(m.gone from_).all) else (m,[])
 else (m,[])
def aJ.late(m:aJ)(now n:Int):Bool:=decide (m.ei<now-m.pe n)&&(m.lV n&&decide (m.nu n=0))
def aJ.watch(now:Int):List bj→aJ×Bool→aJ×Bool
 | [],x=>x
 | y::l,x=>aJ.watch now l (if x.1.late now y.1 then (x.1.gone y.1,true) else x)
def aJ.tick(m:aJ)(now:Int):aJ×List dX:=
 ((aJ.watch (cV now) m.ch.ms (m,false)).1,if (aJ.watch (cV now) m.ch.ms (m,false)).2 then (aJ.watch (cV now) m.ch.ms (m,false)).1.all else [])
def aJ.pj(m:aJ)(n:Int):Int:=if (dm m.ch n).2=false then 4 else if m.lV n=false then 72 else 0
def aJ.gf(m:aJ)(n:Int):aJ×List dX×Int:=
 if m.pj n≠0 then (m,[],m.pj n) else if m.nu n≠0 then (m,[],m.nu n) else (m.gone n,(m.gone n).all,0)
def aJ.kM(m:aJ)(n now:Int):aJ:={ m with ch:=(fJ m.ch n).1,whole:=m.whole.set n.toNat false,heard:=m.heard.set n.toNat (cV now) }
def aJ.join(m:aJ)(n now:Int):aJ×List dX×Int:=
 if m.isNode n=false then (m,[],2) else if (fJ m.ch n).2≠0 then (m,[],(fJ m.ch n).2) else (m.kM n now,(m.kM n now).all,0)
def aJ.lh(m:aJ)(n:Int):aJ:={ m with ch:=(ic m.ch n).1 }
def aJ.drain(m:aJ)(n:Int):aJ×List dX×Int:=
 if m.pj n≠0 then (m,[],m.pj n) else if (ic m.ch n).2≠0 then (m,[],(ic m.ch n).2) else (m.lh n,(m.lh n).all,0)
structure RecM where
 aI:Int
 seq:Int
 op:bp
 from_:Int
 toQ:Int
 out:dY
def I7:dY:=⟨0,0,bO⟩
structure bo where
 bc:List RecM
 events:Int
 last:List Int
def rT:bo:=⟨[],0,List.replicate 6 0⟩
def bo.eU(h:bo)(c:Int):Option (Nat×RecM):=
 if c<0∨6≤c∨(h.last[c.toNat]?).getD 0=0 then none
 else (h.bc[((h.last[c.toNat]?).getD 0).toNat-1]?).map fun r=>(((h.last[c.toNat]?).getD 0).toNat-1,r)
def bo.eY(h:bo)(c seq:Int)(o:bp):Int:=
 if c<0∨6≤c∨seq<1∨c_ o≠0 then 2
 else match h.eU c with
  | none=>0
  | some (_,r)=>if r.toQ<0 then 63 else if seq≤r.seq then 70 else 0
def bo.call(h:bo)(c seq:Int)(o:bp):bo:=
 if h.eY c seq o≠0 then h
 else ⟨h.bc ++ [⟨c,seq,o,h.events,-1,I7⟩],h.events+1,h.last.set c.toNat ((h.bc.length:Int)+1)⟩
def bo.end_(h:bo)(c seq:Int)(o:dY):bo:=
 if o.kind≠1∧o.kind≠2∧o.kind≠3 then h
 else match h.eU c with
  | none=>h
  | some (i,r)=>if r.seq≠seq∨0≤r.toQ then h else { h with bc:=h.bc.set i { r with toQ:=h.events,out:=o },events:=h.events+1 }
abbrev bm:=Int×Int
structure aX where
 cap:Int
 cE:List (bm×List ByteArray)
def aX.list(l:aX)(p:bm):List ByteArray:=(cD l.cE p).getD []
def gm(a:Int):Bool:=(decide (0≤a)&&decide (a<6))||(decide (a=16)||(decide (32≤a)&&decide (a<38)))
def aX.kq(l:aX)(p:bm)(t:ByteArray):Int:=
 if gm p.1=false∨gm p.2=false∨p.1=p.2 then 2 else if 512<t.size then 3 else if l.cap≤(l.list p).length then 60 else 0
def aX.send(l:aX)(p:bm)(t:ByteArray):aX:=if l.kq p t≠0 then l else { l with cE:=cQ l.cE p (l.list p ++ [t]) }
def aX.find(l:aX)(p:bm)(i:Int):Option ByteArray:=if i<0 then none else (l.list p)[i.toNat]?
def aX.jO(l:aX)(p:bm)(i:Int):aX:=
 if ((l.list p).eraseIdx i.toNat).length=0 then { l with cE:=ff (cQ l.cE p ((l.list p).eraseIdx i.toNat)) p } else { l with cE:=cQ l.cE p ((l.list p).eraseIdx i.toNat) }
def aX.drop(l:aX)(p:bm)(i:Int):aX×Int:=if l.find p i=none then (l,4) else (l.jO p i,0)
def aX.double(l:aX)(p:bm)(i:Int):aX×Int:=match l.find p i with
 | none=>(l,4)
 | some t=>(l.send p t,l.kq p t)
end Cl
namespace Cl
open Go Vg T Api
attribute [local irreducible] VO VC VA
abbrev lE:TypeId:=251
abbrev qz:TypeId:=107
def cL(o:dY):List Value:=[.int .i64 o.kind,.int .i64 o.reason,.int .i64 o.res.code,.string o.res.value,.int .i64 o.res.version,.int .i64 o.res.at_]
def kp:dY:=⟨0,0,⟨0,⟨#[]⟩,0,0⟩⟩
def oA(d k s:Int)(o:dY):List Value:=[.bool true,.int .u32 d,.int .i32 k,.int .u32 0,.int .u32 s]++cL o
def mL:Option dY→List Value
 | none=>oA 0 0 0 kp
 | some o=>oA 1 0 1 o
theorem SX:aq Tryz.prog 269 [] Fr w [] (fun v L=>∃p,v=.pointer (some ⟨p,0,none⟩)∧L=[pt p (mL none) lE]):=by
 refine TF 3 Tryz.func269 Z ym aw Z Z ?_
 refine ae ?_
 refine VG (VI (LB (pv:=[(0,.bool true)]) (mL none) Z Z Z ym Z) ?_)
 refine VG (VB (vs:=mL none) Z fun q=>?_)
 refine ae ?_
 exact CR (al.tmp 0 Z Z ER ⟨q,Z,Z⟩)
theorem En{p:Nat}{d k s:Int}{o:dY}(h:a7 Fr w p (oA d k s o)):aq Tryz.prog 155 [.pointer (some ⟨p,0,none⟩)] Fr w [] (fun v L=>v=.bool false∧L=[]):=by
 refine TF 12 Tryz.func155 Z ym aw Z Z ?_
 refine au ?_
 refine xh ?_
 refine g_ ?_
 exact jQ
section
variable {X:Cx} {e:Env} {L:List HP}
theorem aG.MR{k:IntKind}{f:FuncId}{fn:Func}{x:Operand}{tys:Array TypeId}{b off:Nat}{n:Int}(h:Ext X.P f fn (Extern.Atomic.loadT (.int k)))(hx:ev e x=some (.pointer (some ⟨b,off,none⟩)))
  (hr:∀w,St X L w→w.cell? ⟨b,off,none⟩=some (.int k n)):aG X (.call ⟨.value (.func f),#[x],tys⟩) e L (fun v L'=>v=.int k n∧L'=L):=fun a w ha hw dst ty pos after guard=>by
 refine .inl ⟨_,w,L,?_,⟨rfl,Z⟩,hw⟩
 rw[Hp]
 have:(#[x]:Array Operand).map a.eval=#[.pointer (some ⟨b,off,none⟩)]:=by simp[ha.ev hx]
 rw[this]
 exact run_call_load h.at_ h.nm h.nb h.nn k h.ex (hr w hw)
theorem aG.MS{k:IntKind}{f:FuncId}{fn:Func}{x y:Operand}{tys:Array TypeId}{b off t:Nat}{m:Int}{u:Value}{cs:List Value}(i:Nat)(h:Ext X.P f fn Extern.Atomic.storeT)(hx:ev e x=some (.pointer (some ⟨b,off,none⟩)))
  (hy:ev e y=some (.int k m)) (hL:L[i]?=some (pt b cs t)) (hc:cs[off]?=some u):
  aG X (.call ⟨.value (.func f),#[x,y],tys⟩) e L (fun v L'=>v=.tuple #[]∧L'=L.set i (pt b (cs.set off (.int k m)) t)):=fun a w ha hw dst ty pos after guard=>by
 obtain⟨h0,_⟩:=hw.qf hL
 refine .inl ⟨_,_,_,?_,⟨rfl,Z⟩,hw.set hL⟩
 rw[Hp]
 have:(#[x,y]:Array Operand).map a.eval=#[.pointer (some ⟨b,off,none⟩),.int k m]:=by simp[ha.ev hx,ha.ev hy]
 rw[this,←Ej h0]
 exact run_call_store h.at_ h.nm h.nb h.nn h.ex (by rw[cell_of_row w b off cs.toArray t (0,0) h0];simpa using hc) (frozen_of_row w b off cs.toArray t h0)
end
theorem ON:Ext Tryz.prog 206 Tryz.f206 (Extern.Atomic.loadT (.int .u32)):=⟨Tryz.func206,by kernel_rfl,by kernel_rfl,by kernel_rfl,by kernel_rfl⟩
theorem OO:Ext Tryz.prog 389 Tryz.f389 Extern.Atomic.storeT:=⟨Tryz.func389,by kernel_rfl,by kernel_rfl,by kernel_rfl,by kernel_rfl⟩
theorem BQ{p off:Nat}{cs:List Value}{n:Int}(h:a7 Fr w p cs)(hn:cs[off]?=some (.int .u32 n)):aq Tryz.prog 156 [.pointer (some ⟨p,off,none⟩)] Fr w [] (fun v L=>v=.bool (n != 0)∧L=[]):=by
 obtain⟨hf,t,fz,ht⟩:=h
 refine TF 8 Tryz.func156 Z ym aw Z Z ?_
 refine ae ?_
 refine VG (VO.rU (v:=.int .u32 n) (aG.MR (X:=⟨Tryz.prog,tab,aw,8,Fr,w⟩) ON Z (fun w' hw=>?_)) ?_)
 ·have hb:w'.heap[p]?=some (.cells cs.toArray t fz):=(hw.bL.block p hf).trans ht
  have:=cell_of_row w' p off cs.toArray t fz hb
  rw[this];simpa using hn
 refine ae ?_
 exact jQ
theorem M7(b:Bool):aq Tryz.prog 390 [.bool b] Fr w [] (fun v L=>v=.int .u32 (if b then 1 else 0)∧L=[]):=by
 refine TF 4 Tryz.func390 Z ym aw Z Z ?_
 refine ae ?_
 refine CC Z (fun h=>?_) (fun h=>CK ?_)
 ·subst h
  refine ae ?_
  exact jQ
 ·subst h
  refine ae ?_
  exact jQ
theorem M4{p off:Nat}{T:TypeId}{cs:List Value}{u:Value}(b:Bool)(hu:cs[off]?=some u):aq Tryz.prog 385 [.pointer (some ⟨p,off,none⟩),.bool b] Fr w [pt p cs T] (fun v L=>v=.tuple #[]∧L=[pt p (cs.set off (.int .u32 (if b then 1 else 0))) T]):=by
 refine TF 10 Tryz.func385 Z ym aw Z Z ?_
 refine CD (ts 0 4 (.only 4 (.only 5 .nil))) ym yo ?_
 refine cG ?_
 refine AG (AR (fun Fr w hF hs hS=>M7 Fr w b) Z Z yv ?_)
 refine AG (AO (aG.MS (k:=.u32) 0 OO rfl rfl rfl hu) rfl (fun v L' g=>by obtain⟨rfl,rfl⟩:=g;exact gx) ?_)
 rintro _ _ ⟨rfl,rfl⟩
 refine cG ?_
 exact tu
theorem SV{p:Nat}(o:Option dY)(h:a7 Fr w p (mL o)):aq Tryz.prog 111 [.pointer (some ⟨p,0,none⟩)] Fr w [] (fun v L=>v=.tuple #[.agg (cL (o.getD kp)).toArray,.bool o.isSome]∧L=[]):=by
 refine TF 18 Tryz.func111 Z ym aw Z Z ?_
 refine CS (CG (VG (VO.alloc Z fun b2=>?_)))
 refine au ?_
 cases o with
 | none=>
  refine VG (VV (fun Fr w hF hw _=>En Fr w (d:=0) (k:=0) (s:=0) (o:=kp) (h.of hF hw)) Z ?_)
  refine au ?_
  refine VG (VY 6 false Z Z ?_)
  refine au ?_
  refine VG (VV (fun Fr w hF hw _=>BQ Fr w (h.of hF hw) Z) Z ?_)
  refine iS ?_
  refine VG (VI (LB (pv:=[]) (cL kp) Z Z Z ym Z) ?_)
  refine Ld ?_
  refine au ?_
  exact Le
 | some o=>
  refine VG (VV (fun Fr w hF hw _=>En Fr w (d:=1) (k:=0) (s:=1) (o:=o) (h.of hF hw)) Z ?_)
  refine au ?_
  refine VG (VY 6 false Z Z ?_)
  refine au ?_
  refine VG (VV (fun Fr w hF hw _=>BQ Fr w (h.of hF hw) Z) Z ?_)
  refine mf ?_
  refine au ?_
  refine VG (VO.load Z Z (an.h_ (ds:=cL o) h Z) ?_)
  refine VG (VT (vs:=cL o) (cs':=cL o) 0 Z Z Z Z (NR _) Z Z Z ?_)
  refine au ?_
  exact CR (al.cJ 2 3 Z Z Z (an.many (ds:=cL o) 0 Z Z) Z aa.nil.ah ⟨rfl,Z⟩)
theorem SL{p b2 b3 b5:Nat}{o o0:dY}{d k:Int}:aq Tryz.prog 384 [.pointer (some ⟨b3,0,none⟩),.pointer (some ⟨b2,0,none⟩),.pointer (some ⟨b5,0,none⟩)] Fr w
  [pt p (oA d k 0 o0) lE,pt b2 [.pointer (some ⟨p,0,none⟩)] 158,pt b3 (cL o) qz,pt b5 [.bool false] 4]
  (fun v L=>v=.tuple #[]∧L=[pt p (oA d k 1 o) lE,pt b2 [.pointer (some ⟨p,0,none⟩)] 158,pt b3 (cL o) qz,pt b5 [.bool true] 4]):=by
 refine TF 11 Tryz.func384 Z ym aw Z Z ?_
 refine CS (CG (VG (VO.ld 1 Z Z Z Z ?_)))
 refine VG (VL 2 (cL o) Z Z Z Z ?_)
 refine VG (VT (vs:=cL o) (cs':=oA d k 0 o) 0 Z Z Z Z (NR _) Z Z Z ?_)
 refine ae ?_
 refine uX ?_
 refine ae ?_
 refine VG (VK (Lc:=[pt p (oA d k 0 o) lE]) (fun Fr w hF hw _=>M4 Fr w (off:=4) true Z) Z Z ?_)
 rintro _ _ ⟨rfl,rfl⟩
 refine ae ?_
 refine VG (VO.st 3 (cs':=[.bool true]) Z Z Z Z nQ Z Z ?_)
 refine ae ?_
 exact tu
end Cl
namespace Cl
open Go Vg T Api
theorem Jg(w:World):(callFunc 396 #[]).run Tryz.prog w=.ok (.value (.tuple #[])) w:=run_call_mark0 Tryz.func396 ym ym ym .disable ym w
theorem Jh(w:World):(callFunc 398 #[]).run Tryz.prog w=.ok (.value (.tuple #[])) w:=run_call_mark0 Tryz.func398 ym ym ym .enable ym w
theorem R9(a:Addr)(w:World):(callFunc 399 #[.pointer (some a)]).run Tryz.prog w=.ok (.value (.tuple #[])) w:=run_call_marked Tryz.func399 ym ym ym .acquire ym a w
theorem R_(a:Addr)(w:World):(callFunc 401 #[.pointer (some a)]).run Tryz.prog w=.ok (.value (.tuple #[])) w:=run_call_marked Tryz.func401 ym ym ym .releaseMerge ym a w
theorem Tv(a:Addr)(x:Value)(u:FrameMode)(w:World)(hc:w.cell? a=some x)(hz:w.frozen? a=false):
  CallsD Tryz.prog 385 #[.pointer (some a),.bool true] u w fun e u' w'=>u'=u∧(e=.returned (.tuple #[])∧w'=w.drew.setCell a (.int .u32 1)):=by
 have hc':w.drew.cell? a=some x:=by go_simp
 have hz':w.drew.frozen? a=false:=by go_simp
 have hst:=run_call_store (P:=Tryz.prog) Tryz.func389 ym ym ym ym (k:=.u32) (y:=1) hc' hz'
 go_enter_d Tryz.func385,Tryz.ntmps385
 go_wp2
 go_region_calls
 all_goals (go_end0;exact⟨rfl,rfl⟩)
theorem XS(a:Addr)(u:FrameMode)(w:World)(hc:w.cell? a=some (.int .i32 1))(hz:w.frozen? a=false):
  CallsD Tryz.prog 393 #[.pointer (some a)] u w fun e u' w'=>u'=u∧(e=.returned (.tuple #[])∧w'=w.setCell a (.int .i32 0)):=by
 have hd:=Jg
 have he:=Jh
 have hr:=R_
 have hadd:=run_call_add (P:=Tryz.prog) Tryz.func402 ym ym ym .i32 ym (y:=-1) (s:=0) hc hz (by simp[go_sem];rfl)
 have hcv:=run_convert_to_unsafe (P:=Tryz.prog) (src:=475) (dst:=336) Tryz.underlying475 Tryz.underlying336 ym hc
 go_enter_d Tryz.func393,Tryz.ntmps393
 go_wp2
 go_end0
 go_wp2
 go_end0
 exact⟨rfl,Z⟩
theorem Qp(a:Addr)(w:World)(hc:w.cell? a=some (.int .i32 0))(hz:w.frozen? a=false):
  Calls Tryz.prog 392 #[.pointer (some a)] w fun e w'=>e=.returned (.tuple #[])∧w'=w.setCell a (.int .i32 1):=by
 have hd:=Jg
 have he:=Jh
 have ha:=R9
 have hcas:=run_call_cas_hit (P:=Tryz.prog) Tryz.func397 ym ym ym .i32 ym (y:=1) hc hz
 have hc':(w.setCell a (.int .i32 1)).cell? a=some (.int .i32 1):=World.cell?_setCell_same w a _ hc
 have hcv:=run_convert_to_unsafe (P:=Tryz.prog) (src:=475) (dst:=336) Tryz.underlying475 Tryz.underlying336 ym hc'
 go_enter Tryz.func392,Tryz.ntmps392
 go_wp2
 first | go_end0 | (simp only[Exit.inBlock,Exit.then];refine bodyPost_ret (results_none rfl _ _ _) rfl ?_) | refine bodyPost_ret (results_none rfl _ _ _) rfl ?_
 go_wp2
 go_end0
 exact⟨rfl,Z⟩
end Cl
namespace Cl
open Go Vg T Api
abbrev Ar:TypeId:=158
def qI(p b2 b3 b5:Nat)(d k s:Int)(o0 o:dY)(f:Bool):List HP:=[pt p (oA d k s o0) lE,pt b2 [.pointer (some ⟨p,0,none⟩)] Ar,pt b3 (cL o) qz,pt b5 [.bool f] 4]
theorem wV{Fr:Nat→Prop}{L:List HP}{w:World}{b t:Nat}{cs:List Value}(h:Sat Fr (pt b cs t::L) w):w.heap[b]?=some (.cells cs.toArray t (0,0))∧¬Fr b:=by
 obtain⟨F,⟨i,G,rfl,⟨rfl,hi⟩,hG⟩,hn,hb⟩:=h
 exact⟨hi,(hb b yf).1⟩
theorem Ec{Fr:Nat→Prop}{L:List HP}{w:World}{b t off:Nat}{cs:List Value}{v:Value}(hlow:∀x,Fr x→x<w.heap.size)(h:Sat Fr (pt b cs t::L) w):
  Sat Fr (pt b (cs.set off v) t::L) (w.setCell ⟨b,off,none⟩ v)∧cB Fr w (w.setCell ⟨b,off,none⟩ v):=by
 obtain⟨h0,hf⟩:=wV h
 have hst:St (X:=⟨Tryz.prog,tab,aw,0,Fr,w⟩) (pt b cs t::L) w:=⟨h,cB.refl _ _,hlow⟩
 have:=hst.set (i:=0) (cs':=cs.set off v) rfl
 rw[←Ej h0] at this
 exact⟨this.sat,this.bL⟩
theorem wj{Fr:Nat→Prop}{w w':World}(hlow:∀x,Fr x→x<w.heap.size)(h:cB Fr w w'):∀x,Fr x→x<w'.heap.size:=fun x hx=>vv (hlow x hx) h.size
theorem yL{w:World}{b t off:Nat}{cs:List Value}{v:Value}(h:w.heap[b]?=some (.cells cs.toArray t (0,0)))(hv:cs[off]?=some v):w.cell? ⟨b,off,none⟩=some v:=by
 rw[cell_of_row w b off cs.toArray t (0,0) h];simpa using hv
theorem CL{w:World}{b t off:Nat}{cs:List Value}(h:w.heap[b]?=some (.cells cs.toArray t (0,0))):w.frozen? ⟨b,off,none⟩=false:=frozen_of_row w b off cs.toArray t h
theorem Ot{p b2 b3 b5:Nat}{o0 o:dY}:aq Tryz.prog 388 [.pointer (some ⟨p,1,none⟩),ba 384 [] [.pointer (some ⟨b3,0,none⟩),.pointer (some ⟨b2,0,none⟩),.pointer (some ⟨b5,0,none⟩)]] Fr w
  (qI p b2 b3 b5 0 0 0 o0 o false) (fun v L=>v=.tuple #[]∧L=qI p b2 b3 b5 1 0 1 o o true):=by
 refine⟨⟨_,Tryz.func388,by kernel_rfl,by kernel_rfl⟩,fun hlow hsat=>?_⟩
 show Calls _ _ #[.pointer (some ⟨p,1,none⟩),.func (.func 384) #[] #[.pointer (some ⟨b3,0,none⟩),.pointer (some ⟨b2,0,none⟩),.pointer (some ⟨b5,0,none⟩)]] w _
 obtain⟨h0,hf⟩:=wV hsat
 obtain⟨hs1,hk1⟩:=Ec (off:=2) (v:=.int .i32 1) hlow hsat
 have hlow1:=wj hlow hk1
 have hs1':Sat Fr (qI p b2 b3 b5 0 1 0 o0 o false) (w.setCell ⟨p,2,none⟩ (.int .i32 1)):=hs1
 have hset:=(SL Fr (w.setCell ⟨p,2,none⟩ (.int .i32 1)) (p:=p) (b2:=b2) (b3:=b3) (b5:=b5) (o:=o) (o0:=o0) (d:=0) (k:=1)).calls hlow1 hs1'
 have h01:=(wV hs1).1
 have hl:=run_call_load (P:=Tryz.prog) Tryz.func206 ym ym ym .u32 ym (w:=w.setCell ⟨p,2,none⟩ (.int .i32 1)) (a:=⟨p,1,none⟩) (x:=0) (yL h01 rfl)
 have hnot:∀(x:Bool) (w:World),(Op.unary .not (.bool x)).run Tryz.prog w=.ok (.bool (!x)) w:=fun _ _=>rfl
 go_enter_defers Tryz.func388,Tryz.ntmps388
 go_wp2_with (go_at_call 392;refine(Qp ⟨p,2,none⟩ _ (yL h0 rfl) (CL h0)).mono ?_;rintro e w' ⟨rfl,rfl⟩)
 go_wp2_with (first | (go_at_call 384;refine hset.mono ?_;rintro e w' ⟨v,L',rfl,⟨rfl,rfl⟩,hs2,hk2⟩) | (go_at_call 156;go_in))
 have hs2':Sat Fr (pt p (oA 0 1 1 o) lE :: [pt b2 [.pointer (some ⟨p,0,none⟩)] Ar,pt b3 (cL o) qz,pt b5 [.bool true] 4]) w':=hs2
 have hlow2:=wj hlow1 hk2
 have h02:=(wV hs2').1
 have hs3:Sat Fr (pt p (oA 0 1 1 o) lE :: [pt b2 [.pointer (some ⟨p,0,none⟩)] Ar,pt b3 (cL o) qz,pt b5 [.bool true] 4]) w'.drew:=hs2'.heap rfl
 have hk3:cB Fr w' w'.drew:=cB.drew _ _
 obtain⟨hs4,hk4⟩:=Ec (off:=1) (v:=.int .u32 1) (wj hlow2 hk3) hs3
 have h04:=(wV hs4).1
 obtain⟨hs5,hk5⟩:=Ec (off:=2) (v:=.int .i32 0) (wj (wj hlow2 hk3) hk4) hs4
 refine leaves_cons (f:=385) (args:=#[.pointer (some ⟨p,1,none⟩),.bool true]) yf (by simp[go_sem]) ?_
 refine(Tv ⟨p,1,none⟩ (.int .u32 0) .returning _ (yL h02 Z) (CL h02)).mono ?_
 rintro e u' w'' ⟨rfl,rfl,rfl⟩
 refine leaves_cons (f:=393) (args:=#[.pointer (some ⟨p,2,none⟩)]) (by simp[settle]) (by simp[go_sem]) ?_
 refine(XS ⟨p,2,none⟩ _ _ (yL h04 Z) (CL h04)).mono ?_
 rintro e u' w'' ⟨rfl,rfl,rfl⟩
 have hres:∃v L',Ending.returned (.tuple #[])=Ending.returned v∧(v=.tuple #[]∧L'=qI p b2 b3 b5 1 0 1 o o true)∧Sat Fr L' ((w'.drew.setCell ⟨p,1,none⟩ (.int .u32 1)).setCell ⟨p,2,none⟩ (.int .i32 0))∧cB Fr w ((w'.drew.setCell ⟨p,1,none⟩ (.int .u32 1)).setCell ⟨p,2,none⟩ (.int .i32 0)):=
  ⟨_,_,rfl,⟨rfl,rfl⟩,hs5,(((hk1.trans hk2).trans hk3).trans hk4).trans hk5⟩
 simpa[Leaves,settle,results,Tryz.results388] using hres
end Cl
namespace Vg
open Go
section
variable {α:Type} {c:α→List Value} {n:Nat}
def o_(a:Option Addr)(cap lo sz:Nat):Option Addr:=a.map fun q=>if cap=lo then q else q.add (lo*sz)
theorem H5{X:Cx}{e:Env}{T:TypeId}{x y:Operand}{tt te:TI}{el len cap:Nat}{a:Option Addr}{k:IntKind}{j:Int}(lo:Nat)(hx:ev e x=some (.slice a len cap))(hy:ev e y=some (.int k j))
  (hT:bD X.tab T=some tt) (hu:tt.ax=.slice el) (hE:bD X.tab el=some te) (hlo:j=lo) (h1:lo≤len) (h2:len≤cap):
  eD X (.slice T x (some y) none none) e (.slice (o_ a cap lo te.size) (len-lo) (cap-lo)):=by
 intro ac hac dst ty pos after guard w
 have hd:=nE (X.ok.look hT) hu
 obtain⟨i2,hi2,hs2,_,_⟩:=(X.ok.look hE).ln
 subst hlo
 cases a with
 | none=>simp[execOp,hac.ev hx,hac.ev hy,Instr.sliceAt,Instr.slice,Instr.sliceBounds,Instr.sliceBound,asIntOf,run_underlying hd,h1,h2,jm hi2,o_]
 | some a=>
  by_cases h:cap=lo
  ·subst h
   simp[execOp,hac.ev hx,hac.ev hy,Instr.sliceAt,Instr.slice,Instr.sliceBounds,Instr.sliceBound,asIntOf,run_underlying hd,h1,h2,jm hi2,o_]
  ·simp[execOp,hac.ev hx,hac.ev hy,Instr.sliceAt,Instr.slice,Instr.sliceBounds,Instr.sliceBound,asIntOf,run_underlying hd,h1,h2,jm hi2,o_,hs2,h]
end
end Vg
namespace Vg
open Go
section
variable {X:Cx} {e:Env}
theorem Da{T:TypeId}{x y:Operand}{tt:TI}{s:ByteArray}{k:IntKind}{j:Int}(lo:Nat)(hx:ev e x=some (.string s))(hy:ev e y=some (.int k j))
  (hT:bD X.tab T=some tt) (hu:tt.ax=.string) (hj:j=lo) (hl:lo≤s.size):eD X (.slice T x (some y) none none) e (.string (s.extract lo s.size)):=by
 intro a ha dst ty pos after guard w
 have hd:=Ay (X.ok.look hT) hu
 subst hj
 simp[execOp,ha.ev hx,ha.ev hy,Instr.sliceAt,Instr.slice,Instr.sliceBounds,Instr.sliceBound,asIntOf,run_underlying hd,hl]
theorem H9{T:TypeId}{x y:Operand}{tt:TI}{s:ByteArray}{k:IntKind}{j:Int}(hi:Nat)(hx:ev e x=some (.string s))(hy:ev e y=some (.int k j))
  (hT:bD X.tab T=some tt) (hu:tt.ax=.string) (hj:j=hi) (hl:hi≤s.size):eD X (.slice T x none (some y) none) e (.string (s.extract 0 hi)):=by
 intro a ha dst ty pos after guard w
 have hd:=Ay (X.ok.look hT) hu
 subst hj
 simp[execOp,ha.ev hx,ha.ev hy,Instr.sliceAt,Instr.slice,Instr.sliceBounds,Instr.sliceBound,asIntOf,run_underlying hd,hl]
theorem H_{xt yt:TypeId}{x y:Operand}{a n:Nat}{k j:IntKind}(z:Int)(hx:ev e x=some (.int j (a:Int)))(hy:ev e y=some (.int k (n:Int)))(hn:n≤j.bits)(hz:j.wrap (((a*2 ^ n:Nat)):Int)=z):eD X (.binOp .shl xt x y yt) e (.int j z):=by
 intro a' ha dst ty pos after guard w
 have h8:min ((n:Int).toNat) j.bits=n:=xN hn
 have h2:(a:Int)*2 ^ n=((a*2 ^ n:Nat):Int):=by simp
 have h:Op.shift .shl j (a:Int) k (n:Int)=pure (.int j z):=by
  unfold Op.shift
  rw[if_neg yd,h8]
  simp only[h2]
  rw[hz]
 simp only[execOp,ha.ev hx,ha.ev hy]
 show((do eqGuard .shl xt x y (.int j a) (.int k n);Op.shift .shl j a k n:Sem Value) >>= fun v=>pure (Next.value v)).run X.P w=_
 rw[h];rfl
theorem Qi{xt yt:TypeId}{x y:Operand}{a n:Nat}{k j:IntKind}(hx:ev e x=some (.int j (a:Int)))(hy:ev e y=some (.int k (n:Int)))(hn:n≤j.bits):eD X (.binOp .shr xt x y yt) e (.int j ((a / 2 ^ n:Nat):Int)):=by
 intro a' ha dst ty pos after guard w
 have h8:min ((n:Int).toNat) j.bits=n:=xN hn
 have h2:((2:Int) ^ n)=((2 ^ n:Nat):Int):=by simp
 have hd:(a:Int).fdiv (2 ^ n)=((a / 2 ^ n:Nat):Int):=by
  rw[h2,Int.fdiv_eq_ediv_of_nonneg _ (Int.natCast_nonneg _)];rfl
 have h:Op.shift .shr j (a:Int) k (n:Int)=pure (.int j ((a / 2 ^ n:Nat):Int)):=by
  unfold Op.shift
  rw[if_neg yd,h8]
  simp only[hd]
 simp only[execOp,ha.ev hx,ha.ev hy]
 show((do eqGuard .shr xt x y (.int j a) (.int k n);Op.shift .shr j a k n:Sem Value) >>= fun v=>pure (Next.value v)).run X.P w=_
 rw[h];rfl
theorem wrap_u64{n:Int}(h0:0≤n)(h1:n<18446744073709551616):IntKind.u64.wrap n=n:=by
 simp[IntKind.wrap,IntKind.bits,IntKind.signed];omega
theorem Qh{xt yt:TypeId}{x y:Operand}{a b:Nat}(hx:ev e x=some (.int .u64 (a:Int)))(hy:ev e y=some (.int .u64 (b:Int)))(ha:a<18446744073709551616)(hb:b<18446744073709551616):eD X (.binOp .or xt x y yt) e (.int .u64 ((a ||| b:Nat):Int)):=by
 intro a' hag dst ty pos after guard w
 have hlt:a ||| b<18446744073709551616:=by
  have:a ||| b<2 ^ 64:=Nat.or_lt_two_pow (by simpa using ha) (by simpa using hb)
  simpa using this
 have f1:∀c:Nat,c<18446744073709551616→(BitVec.ofInt 64 (c:Int)).toNat=c:=fun c hc=>by simp;omega
 have h:Op.intBits .or .u64 (a:Int) (b:Int)=pure (.int .u64 ((a ||| b:Nat):Int)):=by
  have e1:(BitVec.ofInt 64 (a:Int) ||| BitVec.ofInt 64 (b:Int)).toNat=a ||| b:=by rw[BitVec.toNat_or,f1 a ha,f1 b hb]
  have e2:IntKind.u64.wrap ((BitVec.ofInt 64 (a:Int) ||| BitVec.ofInt 64 (b:Int)).toNat:Int)=((a ||| b:Nat):Int):=by rw[e1];exact wrap_u64 yd yd
  show(pure (.int .u64 (IntKind.u64.wrap ((BitVec.ofInt 64 (a:Int) ||| BitVec.ofInt 64 (b:Int)).toNat:Int))):Sem Value)=_
  rw[e2]
 simp only[execOp,hag.ev hx,hag.ev hy]
 show((do eqGuard .or xt x y (.int .u64 a) (.int .u64 b);Op.intBits .or .u64 a b:Sem Value) >>= fun v=>pure (Next.value v)).run X.P w=_
 rw[h];rfl
end
theorem Qj{X:Cx}{e:Env}{T:TypeId}{x y z u:Operand}{tt te:TI}{el len cap:Nat}{a:Option Addr}{k k' k'':IntKind}{i j m:Int}(lo hi mx:Nat)(hx:ev e x=some (.slice a len cap))(hy:ev e y=some (.int k i))(hz:ev e z=some (.int k' j))(hw:ev e u=some (.int k'' m))
  (hT:bD X.tab T=some tt) (hu:tt.ax=.slice el) (hE:bD X.tab el=some te) (hlo:i=lo) (hhi:j=hi) (hmx:m=mx) (h1:lo≤hi) (h2:hi≤mx) (h3:mx≤cap):
  eD X (.slice T x (some y) (some z) (some u)) e (.slice (if mx=lo then a else a.map (·.add (lo*te.size))) (hi-lo) (mx-lo)):=by
 intro ac ha dst ty pos after guard w
 have hd:=nE (X.ok.look hT) hu
 obtain⟨i2,hi2,hs2,_,_⟩:=(X.ok.look hE).ln
 subst hlo;subst hhi;subst hmx
 simp[execOp,ha.ev hx,ha.ev hy,ha.ev hz,ha.ev hw,Instr.sliceAt,Instr.slice,Instr.sliceBounds,Instr.sliceBound,asIntOf,run_underlying hd,h1,h2,h3,jm hi2,hs2]
theorem aG.Ge{X:Cx}{e:Env}{L:List HP}{t el esz n cap m g:Nat}{tt te:TI}{x y:Operand}{cs news:List Value}{v:Value}(i:Nat)
  (hx:ev e x=some (.slice (some ⟨g,0,none⟩) n cap)) (hy:ev e y=some v) (hL:L[i]?=some (pt g cs el)) (hT:bD X.tab t=some tt) (hu:tt.ax=.slice el) (hE:bD X.tab el=some te) (hesz:te.size=esz)
  (hr:dN X L v esz m news) (h1:news.all Value.oneCell'=true) (hroom:n+m≤cap) (hfit:n*esz+news.length≤cs.length):
  aG X (.call ⟨.builtin .append,#[x,y],#[t,t]⟩) e L (fun u L'=>u=.slice (some ⟨g,0,none⟩) (n+m) cap∧L'=L.set i (pt g (cT cs (n*esz) news) el)):=by
 intro ac w ha hw dst ty pos after guard
 have hund:=nE (X.ok.look hT) hu
 have hok:=X.ok.look hE
 obtain⟨ti,hi,hsz,hbt,hz⟩:=hok.ln
 have hexec:∀u w',(Builtin.append_ #[t,t] ty #[.slice (some ⟨g,0,none⟩) n cap,v]).run X.P w=.ok u w' →
   (execOp ac.eval ⟨dst,.call ⟨.builtin .append,#[x,y],#[t,t]⟩,ty,pos,after,guard⟩).run X.P w=.ok (.value u) w':=fun u w' h=>by
  simp[execOp,resolve,invoke,builtin,ha.ev hx,ha.ev hy,h]
 obtain⟨h0,hf⟩:=hw.qf hL
 obtain⟨hnl,hrd⟩:=hr
 rcases hrd with ⟨d,c,rfl,rfl⟩ | ⟨b,off,c,rfl,hrg⟩
 ·have hn0:news=[]:=gI (by simpa using hnl)
  subst hn0
  refine .inl ⟨_,w,_,hexec _ _ (Jv hund hi (some ⟨g,0,none⟩) d n cap c yd ty),⟨rfl,Z⟩,?_⟩
  rw[EA]
  have hset:L.set i (pt g cs el)=L:=by
   refine oL fun j=>?_
   by_cases e:i=j
   ·subst e;rw[hO (cH.1 hL).1,hL]
   ·rw[ky e]
  rw[hset];exact hw
 ·have hnews:∀j u,news[j]?=some u→w.cell? ((⟨b,off,none⟩:Addr).add j)=some u:=fun j u hj=>by rw[Addr.add_mid];exact hrg w hw j u hj
  have h1':∀u∈news,u.oneCell'=true:=kU.1 h1
  have hrun:=run_append_room (P:=X.P) w t ty el ti hund hi g n cap _ h0 ⟨b,off,none⟩ m c news (by rw[hsz,hesz];exact hnl) hnews h1' hroom (by rw[hsz,hesz];simpa using hfit)
  have e2:cs.toArray.toList.take (n*ti.size)++news++cs.toArray.toList.drop (n*ti.size+news.length)=cT cs (n*esz) news:=by rw[hsz,hesz];rfl
  rw[e2] at hrun
  have e3:w.setRow g (cT cs (n*esz) news).toArray=dq w g (.cells (cT cs (n*esz) news).toArray el (0,0)):=by
   unfold World.setRow dq
   have hlt:=(pY.1 h0).1
   refine congrArg (fun h=>({ w with heap:=h }:World)) (xC fun j=>?_)
   rw[xD,Array.getElem?_setIfInBounds]
   by_cases e:g=j
   ·subst e;rw[if_pos rfl,if_pos rfl,if_pos hlt,h0];rfl
   ·rw[if_neg e,if_neg e]
  rw[e3] at hrun
  exact .inl ⟨_,_,_,hexec _ _ hrun,⟨rfl,Z⟩,hw.set hL⟩
section
variable {α:Type} {c:α→List Value} {n:Nat}
theorem erase_eq(l:List α)(i:Nat):l.eraseIdx i=l.take i++l.drop (i+1):=List.eraseIdx_eq_take_drop_succ l i
theorem G8(h:∀a,(c a).length=n){l:List α}{i:Nat}(hi:i<l.length)(rest:List Value):∃z,z.length=n∧cT (flat c l++rest) (i*n) (flat c (l.drop (i+1)))=flat c (l.eraseIdx i)++(z++rest):=by
 obtain⟨x,hx⟩:∃x,l[i]?=some x:=⟨_,GE hi⟩
 have hd:l.drop i=x::l.drop (i+1):=by
  obtain⟨h1,h2⟩:=cH.1 hx
  rw[xG h1,h2]
 have hl:flat c l=flat c (l.take i)++(c x++flat c (l.drop (i+1))):=by rw[←ki,←hd,←ik,List.take_append_drop]
 have ha:(flat c (l.take i)).length=i*n:=by rw[dS h,iT];congr 1;omega
 refine⟨(c x++flat c (l.drop (i+1))).drop (flat c (l.drop (i+1))).length,by rw[q3,a_,h];omega,?_⟩
 rw[erase_eq,ik,hl]
 generalize flat c (l.take i)=A at ha
 generalize flat c (l.drop (i+1))=D
 unfold cT
 have e1:(A++(c x++D)++rest).take (i*n)=A:=by rw[eV];exact xL ha
 have e2:(A++(c x++D)++rest).drop (i*n+D.length)=(c x++D).drop D.length++rest:=by
  rw[←ha,←List.drop_drop,eV,List.drop_left' rfl,List.drop_append_of_le_length pP]
 rw[e1,e2,eV]
theorem Ks{A z zs rest:List Value}{k:Nat}(hA:A.length=k)(hz:zs.length=z.length):cT (A++(z++rest)) k zs=A++(zs++rest):=by
 unfold cT
 subst hA
 rw[xL rfl,List.drop_append,hz]
 simp
end
theorem aa.Aq{L M:List HP}{el esz b n:Nat}{cs:List Value}(hc:cs.length=n*esz)(h:aa L (pt b cs el::M)):aa L (av el esz (some ⟨b,0,none⟩) n n cs::M):=by
 have:=aa.sl (L:=L) (M:=M) (el:=el) (b:=b) (rest:=[]) (cap:=n) hc (NR _) (by rw[bA];exact hc) (by rw[bA];exact h)
 exact this
theorem Rx{n b:Nat}(hb:b<256):(n*256) ||| b=n*256+b:=by
 have h:n*256=n <<< 8:=by rw[Nat.shiftLeft_eq]
 rw[h,Nat.shiftLeft_add_eq_or_of_lt (by simpa using hb)]
end Vg
namespace Cl
open Go Vg T Api
attribute [local irreducible] VO VC VA
theorem Rt{p b2 b3 b5:Nat}{o0 o:dY}:aq Tryz.prog 383 [.pointer (some ⟨p,1,none⟩),ba 384 [] [.pointer (some ⟨b3,0,none⟩),.pointer (some ⟨b2,0,none⟩),.pointer (some ⟨b5,0,none⟩)]] Fr w
  (qI p b2 b3 b5 0 0 0 o0 o false) (fun v L=>v=.tuple #[]∧L=qI p b2 b3 b5 1 0 1 o o true):=by
 refine TF 12 Tryz.func383 Z ym aw Z Z ?_
 refine ae ?_
 refine VG (VV (fun Fr w hF hw hS=>BQ Fr w (n:=0) (hS.ar 0 Z) Z) Z ?_)
 refine oK ?_
 refine VG (VK (Lc:=qI p b2 b3 b5 0 0 0 o0 o false) (Lr:=[]) (fun Fr w hF hw _=>Ot Fr w) Z (bA _).symm ?_)
 rintro _ _ ⟨rfl,rfl⟩
 refine ae ?_
 exact al.void Z ER ⟨rfl,bA _⟩
theorem S8{p:Nat}{o:dY}(h1:1≤o.kind)(h2:o.kind≤3):aq Tryz.prog 368 [.pointer (some ⟨p,0,none⟩),.agg (cL o).toArray] Fr w [pt p (mL none) lE] (fun v L=>v=.bool true∧L=[pt p (mL (some o)) lE]):=by
 refine TF 24 Tryz.func368 Z ym aw Z Z ?_
 refine CS (CG (VG (VO.BZ Z fun b2=>VG (VB (vs:=cL o) Z fun b3=>VG (VN ?_)))))
 refine iC ?_
 refine VG (VV (fun Fr w hF hw hS=>En Fr w (p:=p) (d:=0) (k:=0) (s:=0) (o:=kp) (hS.ar 2 Z)) Z ?_)
 refine au ?_
 refine VG (VY 8 false Z Z ?_)
 refine bF ?_
 refine VG (VY 13 false Z (DF yd) ?_)
 refine bF ?_
 refine CP (p:=3<o.kind) Z (fun h=>absurd h yd) (fun h=>CK ?_)
 refine au ?_
 refine VG (VO.alloc Z fun b5=>?_)
 refine VG (VO.st 0 (cs':=[.bool false]) Z Z Z Z nQ Z Z ?_)
 refine gZ ?_
 refine VG (VI (uk (u:=[]) (v:=[.pointer (some ⟨b3,0,none⟩),.pointer (some ⟨b2,0,none⟩),.pointer (some ⟨b5,0,none⟩)]) Z Z) ?_)
 refine VO.ah (L':=qI p b2 b3 b5 0 0 0 kp o false) (aZ [3,2,1,0]).ah ?_
 refine VG (VK (Lc:=qI p b2 b3 b5 0 0 0 kp o false) (Lr:=[]) (fun Fr w hF hw _=>Rt Fr w) Z (bA _).symm ?_)
 rintro _ _ ⟨rfl,rfl⟩
 show VO _ _ _ _ _ [pt p (oA 1 0 1 o) lE,pt b2 [.pointer (some ⟨p,0,none⟩)] Ar,pt b3 (cL o) qz,pt b5 [.bool true] 4] _
 refine au ?_
 refine VG (VO.ld 3 Z Z Z Z ?_)
 refine au ?_
 exact CR (al.tmp 4 Z Z (IP 0 Z aa.nil).ah ⟨rfl,Z⟩)
abbrev eM:TypeId:=232
def dy(b:dD):List Value:=[.int .i64 b.cap,.int .i64 b.dQ,.int .i64 b.tokens,.int .i64 b.tick,.int .i64 b.since]
structure dD.Ok(b:dD):Prop where
 c0:0≤b.cap
 c1:b.cap≤16
 r0:1≤b.dQ
 r1:b.dQ≤1099511627776
 t0:0≤b.tokens
 t1:b.tokens≤b.cap
 k0:0≤b.tick
 k1:b.tick≤1099511627776
 s0:0≤b.since
 s1:b.since≤b.tick
theorem dD.Ok.at(b:dD)(h:b.Ok)(now:Int):(b.at now).Ok:=by
 have:=h.k0
 have:=h.k1
 have:=h.s1
 exact⟨h.c0,h.c1,h.r0,h.r1,h.t0,h.t1,by show 0≤min (max now b.tick) _;omega,by show min (max now b.tick) _≤_;omega,h.s0,by show b.since≤min (max now b.tick) _;omega⟩
theorem Gz:∀(k:Nat) {b:dD},b.Ok→(mU k b).Ok
 | 0,_,h=>h
 | k+1,b,h=>by
  rw[mU]
  split
  ·rename_i hc
   have:=h.t0
   have:=h.s0
   have:=h.r0
   exact Gz k ⟨h.c0,h.c1,h.r0,h.r1,by show 0≤b.tokens+1;omega,by show b.tokens+1≤b.cap;omega,h.k0,h.k1,by show 0≤b.since+b.dQ;omega,hc.2⟩
  ·exact h
theorem dD.Ok.full{b:dD}(h:b.Ok):b.full.Ok:=by
 unfold dD.full
 split
 ·exact⟨h.c0,h.c1,h.r0,h.r1,h.t0,h.t1,h.k0,h.k1,h.k0,fj _⟩
 ·exact h
theorem dD.Ok.ka{b:dD}(h:b.Ok)(now:Int):(b.ka now).Ok:=(Gz 17 (dD.Ok.at b h now)).full
theorem dD.Ok.take{b:dD}(h:b.Ok)(now:Int):(b.take now).1.Ok:=by
 have k:=h.ka now
 unfold dD.take
 split
 ·exact k
 ·rename_i hn
  have:=k.t0
  have:=k.t1
  exact⟨k.c0,k.c1,k.r0,k.r1,by show 0≤(b.ka now).tokens-1;omega,by show(b.ka now).tokens-1≤(b.ka now).cap;omega,k.k0,k.k1,k.s0,k.s1⟩
theorem Nn{k:Nat}{b:dD}(h:¬(b.tokens<b.cap∧b.since+b.dQ≤b.tick)):mU k b=b:=by
 cases k with
 | zero=>rfl
 | succ k=>rw[mU,if_neg h]
section
variable {p:Nat}
theorem Nc{b:dD}(ok:b.Ok)(now:Int):aq Tryz.prog 382 [.pointer (some ⟨p,0,none⟩),.int .i64 now] Fr w [pt p (dy b) eM] (fun v L=>v=.tuple #[]∧L=[pt p (dy (b.ka now)) eM]):=by
 have ok0:=dD.Ok.at b ok now
 refine TF 73 Tryz.func382 Z ym aw Z Z ?_
 refine CS (CG (VG (VO.ld 0 Z Z Z Z ?_)))
 refine VG (VO.st 0 (cs':=dy (b.at now)) Z Z Z Z (by show 3<5;omega) (by show [_,_,_,_,_]=dy _;unfold dy dD.at;congr 4;show Value.int _ _=Value.int _ _;congr 1;dsimp only;repeat' split;all_goals omega) Z (VG (VN ?_)))
 unfold dD.ka
 generalize hb0:b.at now=b0 at ok0
 refine CS (VC.cZ (σ:=dD) (fun _=>[(0,pV p)]) (fun x=>[pt p (dy x) eM]) (fun x=>x.Ok∧x=mU 17 b0) ?_ ?_)
 ·refine VC.block ?_
  refine VC.loop (σ:=Nat×dD) (fun x=>[(0,pV p)]) (fun x=>[pt p (dy x.2) eM]) (fun x=>x.2.Ok∧mU x.1 x.2=mU 17 b0∧(x.2.cap-x.2.tokens).toNat≤x.1) (fun x=>x.1) (17,b0)
   ⟨ok0,rfl,by have:=ok0.c1;have:=ok0.t0;dsimp only;omega⟩ aF ER ?_
  rintro⟨k,x⟩ ⟨okx,hk,hn⟩
  dsimp only at okx hk hn ⊢
  have:=okx.c0
  have:=okx.c1
  have:=okx.r0
  have:=okx.r1
  have:=okx.t0
  have:=okx.t1
  have:=okx.k0
  have:=okx.k1
  have:=okx.s0
  have:=okx.s1
  have fin:¬(x.tokens<x.cap∧x.since+x.dQ≤x.tick)→x=mU 17 b0:=fun h=>by rw[←hk,Nn h]
  refine ae ?_
  refine CD (ts 0 25 .nil) ym yo ?_
  refine dF ?_
  by_cases h1:x.tokens<x.cap
  rotate_left
  ·refine AG (AY 23 false Z (DF h1) ?_)
   refine dF ?_
   refine r_ ?_
   exact⟨x,⟨okx,fin fun h=>h1 h.1⟩,aF,ER⟩
  refine AG (AY 23 true Z (DT h1) ?_)
  refine dF ?_
  refine pK ?_
  refine dF ?_
  refine CP (p:=x.since+x.dQ≤x.tick) Z (fun h2=>CK ?_) (fun h2=>CX ?_)
  rotate_left
  ·exact⟨x,⟨okx,fin fun h=>h2 h.2⟩,aF,ER⟩
  obtain⟨j,rfl⟩:∃j,k=j+1:=⟨k-1,by omega⟩
  rw[mU,if_pos ⟨h1,h2⟩] at hk
  refine aj ?_
  refine pQ ?_
  refine VG (VO.st 0 (cs':=dy { x with tokens:=x.tokens+1 }) Z Z Z Z (by show 2<5;omega) Z Z ?_)
  refine ae ?_
  refine CD (ts 0 11 (.only 11 .nil)) ym yo ?_
  refine bg ?_
  refine AG (AP Z Z Z yp yp ?_)
  refine bg ?_
  refine AG (VA.st 0 (cs':=dy { x with tokens:=x.tokens+1,since:=x.since+x.dQ }) Z Z Z Z Z (by show 4<5;omega) Z Z yv ?_)
  refine cG ?_
  exact⟨(j,{ x with tokens:=x.tokens+1,since:=x.since+x.dQ }),⟨⟨okx.c0,okx.c1,okx.r0,okx.r1,by dsimp only;omega,by dsimp only;omega,okx.k0,okx.k1,by dsimp only;omega,h2⟩,hk,by dsimp only;omega⟩,by dsimp only;omega,aF,ER⟩
 rintro x ⟨okx,rfl⟩
 generalize mU 17 b0=x at okx
 unfold dD.full
 refine ae ?_
 refine CD (ts 0 9 .nil) ym yo ?_
 refine bg ?_
 refine CE Z (fun h3=>?_) (fun h3=>CK ?_)
 ·rw[if_pos h3]
  refine aj ?_
  refine VG (VO.st 0 (cs':=dy { x with since:=x.tick }) Z Z Z Z (by show 4<5;omega) Z Z ?_)
  refine ae ?_
  exact tu
 ·rw[if_neg h3]
  exact tu
theorem Nk{b:dD}(ok:b.Ok)(h:a7 Fr w p (dy b)):aq Tryz.prog 381 [.pointer (some ⟨p,0,none⟩)] Fr w [] (fun v L=>v=.bool false∧L=[]):=by
 have:=ok.r0
 refine TF 12 Tryz.func381 Z ym aw Z Z ?_
 refine au ?_
 refine xh ?_
 refine g_ ?_
 exact CR (al.bool (b:=false) 2 Z Z (beq_eq_false_iff_ne.2 yd) ER ⟨rfl,Z⟩)
theorem No{b:dD}(ok:b.Ok)(now:Int):aq Tryz.prog 341 [.pointer (some ⟨p,0,none⟩),.int .i64 now] Fr w [pt p (dy b) eM] (fun v L=>v=.bool (b.take now).2∧L=[pt p (dy (b.take now).1) eM]):=by
 have ok1:=ok.ka now
 have:=ok1.t0
 have:=ok1.t1
 have:=ok1.c1
 have left:∀(Fr:Nat→Prop) (w:World),aq Tryz.prog 367 [.pointer (some ⟨p,0,none⟩),.int .i64 now] Fr w [pt p (dy b) eM] (fun v L=>v=.int .i64 (b.ka now).tokens∧L=[pt p (dy (b.ka now)) eM]):=by
  intro Fr w
  refine TF 14 Tryz.func367 Z ym aw Z Z ?_
  refine ae ?_
  refine VG (VV (fun Fr w hF hw hS=>Nk Fr w ok (hS.ar 0 Z)) Z ?_)
  refine iR ?_
  refine VG (VK (Lc:=[pt p (dy b) eM]) (fun Fr w hF hw _=>Nc Fr w ok now) Z Z ?_)
  rintro _ _ ⟨rfl,rfl⟩
  refine BE ?_
  refine ae ?_
  exact tx
 unfold dD.take
 refine TF 16 Tryz.func341 Z ym aw Z Z ?_
 refine ae ?_
 refine VG (VK (Lc:=[pt p (dy b) eM]) (fun Fr w hF hw _=>left Fr w) Z Z ?_)
 rintro _ _ ⟨rfl,rfl⟩
 refine ae ?_
 refine CE Z (fun h1=>?_) (fun h1=>CK ?_)
 ·rw[if_pos h1]
  refine ae ?_
  exact tx
 rw[if_neg h1]
 refine BE ?_
 refine mN ?_
 refine ae ?_
 refine VG (VO.st 0 (cs':=dy { b.ka now with tokens:=(b.ka now).tokens-1 }) Z Z Z Z (by show 2<5;omega) Z Z ?_)
 refine ae ?_
 exact tx
theorem O_(t m:Int):0≤uf t m∧uf t m≤64:=by
 unfold uf
 split
 ·omega
 split
 ·omega
 ·have:(0:Int)≤((2 ^ (t-1).toNat:Nat):Int):=Int.natCast_nonneg _
  omega
theorem O'(t m:Int):aq Tryz.prog 342 [.int .i64 t,.int .i64 m] Fr w [] (fun v L=>v=.int .i64 (uf t m)∧L=[]):=by
 unfold uf
 refine TF 18 Tryz.func342 Z ym aw Z Z ?_
 refine ae ?_
 refine CP (p:=t<1) Z (fun h1=>?_) (fun h1=>CK ?_)
 ·rw[if_pos h1]
  refine ae ?_
  exact tx
 rw[if_neg h1]
 refine ae ?_
 refine CP (p:=7<t) Z (fun h2=>?_) (fun h2=>CK ?_)
 ·rw[if_pos h2]
  refine ae ?_
  exact CR (al.int 4 Z Z (by repeat' split;all_goals omega) ER ⟨rfl,Z⟩)
 rw[if_neg h2]
 refine ae ?_
 refine mN ?_
 obtain⟨n,hn⟩:∃n:Nat,t-1=n:=⟨(t-1).toNat,by omega⟩
 have hp:2 ^ n≤64:=by
  have:2 ^ n≤2 ^ 6:=xO yn yd
  exact this
 rw[hn,fy]
 refine VG (VI (H_ (a:=1) (n:=n) ((2 ^ n:Nat):Int) Z Z (by show n≤64;omega) (by rw[Nat.one_mul];generalize 2 ^ n=m at hp;exact i64_in _ yd yd)) ?_)
 generalize 2 ^ n=m at hp
 refine ae ?_
 exact CR (al.int 4 Z Z (by repeat' split;all_goals omega) ER ⟨rfl,Z⟩)
end
end Cl
namespace Cl
open Go Vg T Api Ch
attribute [local irreducible] VO VC VA
def eB(s:ByteArray):List Value:=[.string s]
theorem pH(s:ByteArray):(eB s).length=1:=rfl
theorem J_(s:ByteArray):(eB s).all Value.oneCell'=true:=rfl
theorem QL{a:Option Addr}{cap:Nat}{l:List bj}(h:aP aC 2 Fr w a l)(hl:l.length≤1000000):aq Tryz.prog 359 [.slice a l.length cap] Fr w [] (fun v L=>∃a' cap',v=.slice a' l.length cap'∧L=[av aN 2 a' l.length cap' (flat aC l)]):=by
 refine TF 8 Tryz.func359 Z ym aw Z Z ?_
 cases a with
 | none=>
  obtain rfl:l=[]:=by
   cases l with
   | nil=>rfl
   | cons x l=>obtain⟨b,o,h1,_⟩:=h.at_ yf;cases h1
  refine pU ?_
  exact xj
 | some a=>
  refine iD ?_
  refine CS (CG (VG (VO.buildSlice (n:=0) (pv:=[]) [] Z Z Z Z yn Z fun b=>?_)))
  refine EP ?_
  refine VG (VO.append (m:=l.length) (news:=flat aC l) 0 Z Z Z Z Z Z Z (aP.row cj h) (oa sV _) Bo yd fun a' c' _=>?_)
  rw[bZ,kW]
  refine aj ?_
  exact xk
theorem QM{a:Option Addr}{cap:Nat}{l:List bj}{i:Nat}(hi:i<l.length)(hl:l.length≤1000000):aq Tryz.prog 344 [.slice a l.length cap,.int .i64 (i:Int),.int .i64 ((i:Int)+1)] Fr w [av aN 2 a l.length cap (flat aC l)]
  (fun v L=>∃a' cap',v=.slice a' (l.eraseIdx i).length cap'∧L=[av aN 2 a' (l.eraseIdx i).length cap' (flat aC (l.eraseIdx i))]):=by
 have hel:(l.eraseIdx i).length=l.length-1:=by rw[List.length_eraseIdx,if_pos hi]
 refine TF 33 Tryz.func344 Z ym aw Z Z ?_
 refine ku ?_
 refine VC.bu 0 Z (aY.sl _ _ _ _ _ _) ?_
 rintro(_ | ⟨sb,rest⟩) ⟨hx1,hx2,hx3⟩
 ·obtain⟨_,h0,_⟩:=hx3
  omega
 obtain⟨rfl,hx4⟩:=hx3
 have hcl:(flat aC l++rest).length=cap*2:=by simpa using hx4
 have hfl:=dS cj l
 have hcap:l.length≤cap:=by
  rw[a_,hfl] at hcl
  exact Nat.le_of_mul_le_mul_right yd (by decide:0<2)
 obtain⟨z,hz,hwr⟩:=G8 cj hi rest
 have hdl:(l.drop (i+1)).length=l.length-(i+1):=q3
 have hdf:(flat aC (l.drop (i+1))).length=(l.length-(i+1))*2:=by rw[dS cj,hdl]
 dsimp only
 refine ae ?_
 refine Lf ?_
 refine ae ?_
 refine CE Z (fun h=>absurd h yd) (fun h=>CK ?_)
 refine ae ?_
 refine E8 ?_
 refine cG ?_
 refine AG (AI Z (C_ i Z Z Z Z Z Z yd) ?_)
 refine cG ?_
 refine AG (AI Z (H5 (i+1) Z Z Z Z Z Z yd yd) ?_)
 refine AG (AO (aG.Ge (n:=i) (m:=l.length-(i+1)) (news:=flat aC (l.drop (i+1))) 0 rfl rfl rfl rfl rfl rfl rfl ?_ (oa sV _) yd ?_) rfl (fun v L' g=>by obtain⟨rfl,rfl⟩:=g;exact gx) ?_)
 ·by_cases hm:l.length=i+1
  ·have e:l.drop (i+1)=[]:=gI yd
   rw[e,show l.length-(i+1)=0 from by omega]
   exact dN.nil
  ·have hne:¬cap=i+1:=by omega
   have hfa:o_ (some ⟨sb,0,none⟩) cap (i+1) 2=some ⟨sb,0+(i+1)*2,none⟩:=by unfold o_;simp[hne,Addr.add_mid]
   show dN _ _ (.slice (o_ (some ⟨sb,0,none⟩) cap (i+1) 2) _ _) _ _ _
   rw[hfa]
   refine dN.pt 0 Z ?_ hdf
   show((flat aC l++rest).drop (0+(i+1)*2)).take ((l.length-(i+1))*2)=_
   rw[bZ,za cj _ _ _ yd,xL hdf]
 ·show i*2+(flat aC (l.drop (i+1))).length≤(flat aC l++rest).length
  rw[hdf,a_,hfl,←oN]
  exact p6 (so _ yd) (Nat.le_add_right _ _)
 rintro _ _ ⟨rfl,rfl⟩
 rw[show i+(l.length-(i+1))=l.length-1 from by omega]
 show VA _ _ _ _ _ _ [pt sb (cT (flat aC l++rest) (i*2) (flat aC (l.drop (i+1)))) aN] _
 rw[hwr]
 refine mg ?_
 refine Lh ?_
 rw[show l.length-(l.length-1)=1 from by omega]
 have hzz:(aC (0,0)).length=z.length:=by rw[hz];rfl
 refine VG (VO.rU (L':=[pt sb (flat aC (l.eraseIdx i)++((aC (0,0))++rest)) aN]) ((aG.clear 0 Z Z Z Z Z yn ?_ Z).mono fun v L' g=>⟨g.1,by
  rw[g.2]
  show [pt sb (cT (flat aC (l.eraseIdx i)++(z++rest)) (0+(l.length-1)*2) (aC (0,0))) aN]=_
  rw[Ks (by rw[dS cj,hel];omega) hzz]⟩) ?_)
 ·show 0+(l.length-1)*2+1*2≤(flat aC (l.eraseIdx i)++(z++rest)).length
  rw[a_,a_,dS cj,hel,hz];omega
 refine ae ?_
 refine CR (al.tmp 6 Z Z (L':=[av aN 2 (some ⟨sb,0,none⟩) (l.length-1) cap (flat aC (l.eraseIdx i))]) (aa.sl (by rw[dS cj,hel]) yd ?_ aa.refl).ah Md)
 rw[a_,a_,dS cj,hel,hzz,hz]
 rw[a_,hfl] at hcl
 have:(l.length-1)*2+2=l.length*2:=by rw[←Nat.succ_mul];congr 1;omega
 omega
theorem Xu{a:Option Addr}{cap:Nat}{l:List ByteArray}(h:aP eB 1 Fr w a l)(hl:l.length≤1000000):aq Tryz.prog 157 [.slice a l.length cap] Fr w [] (fun v L=>∃a' cap',v=.slice a' l.length cap'∧L=[av 9 1 a' l.length cap' (flat eB l)]):=by
 refine TF 8 Tryz.func157 Z ym aw Z Z ?_
 cases a with
 | none=>
  obtain rfl:l=[]:=by
   cases l with
   | nil=>rfl
   | cons x l=>obtain⟨b,o,h1,_⟩:=h.at_ yf;cases h1
  refine pU ?_
  exact xj
 | some a=>
  refine iD ?_
  refine CS (CG (VG (VO.buildSlice (n:=0) (pv:=[]) [] Z Z Z Z yn Z fun b=>?_)))
  refine VO.ah (L':=[av 9 1 (some ⟨b,0,none⟩) 0 0 []]) (aa.sl (M:=[]) (cs:=[]) (rest:=[]) Z (NR _) Z (aa.refl (L:=[pt b [] 9]))).ah ?_
  refine VG (VO.append (m:=l.length) (news:=flat eB l) 0 Z Z Z Z Z Z Z (aP.row pH h) (oa J_ _) Bo yd fun a' c' _=>?_)
  rw[bZ,kW]
  refine aj ?_
  exact xk
theorem Xv{a:Option Addr}{cap:Nat}{l:List ByteArray}{i:Nat}(hi:i<l.length)(hl:l.length≤1000000):aq Tryz.prog 298 [.slice a l.length cap,.int .i64 (i:Int),.int .i64 ((i:Int)+1)] Fr w [av 9 1 a l.length cap (flat eB l)]
  (fun v L=>∃a' cap',v=.slice a' (l.eraseIdx i).length cap'∧L=[av 9 1 a' (l.eraseIdx i).length cap' (flat eB (l.eraseIdx i))]):=by
 have hel:(l.eraseIdx i).length=l.length-1:=by rw[List.length_eraseIdx,if_pos hi]
 refine TF 33 Tryz.func298 Z ym aw Z Z ?_
 refine ku ?_
 refine VC.bu 0 Z (aY.sl _ _ _ _ _ _) ?_
 rintro(_ | ⟨sb,rest⟩) ⟨hx1,hx2,hx3⟩
 ·obtain⟨_,h0,_⟩:=hx3
  omega
 obtain⟨rfl,hx4⟩:=hx3
 have hcl:(flat eB l++rest).length=cap*1:=by simpa using hx4
 have hfl:=dS pH l
 have hcap:l.length≤cap:=by
  rw[a_,hfl] at hcl
  exact Nat.le_of_mul_le_mul_right yd (by decide:0<1)
 obtain⟨z,hz,hwr⟩:=G8 pH hi rest
 have hdl:(l.drop (i+1)).length=l.length-(i+1):=q3
 have hdf:(flat eB (l.drop (i+1))).length=(l.length-(i+1))*1:=by rw[dS pH,hdl]
 dsimp only
 refine ae ?_
 refine Lf ?_
 refine ae ?_
 refine CE Z (fun h=>absurd h yd) (fun h=>CK ?_)
 refine ae ?_
 refine E8 ?_
 refine cG ?_
 refine AG (AI Z (C_ i Z Z Z Z Z Z yd) ?_)
 refine cG ?_
 refine AG (AI Z (H5 (i+1) Z Z Z Z Z Z yd yd) ?_)
 refine AG (AO (aG.Ge (n:=i) (m:=l.length-(i+1)) (news:=flat eB (l.drop (i+1))) 0 rfl rfl rfl rfl rfl rfl rfl ?_ (oa J_ _) yd ?_) rfl (fun v L' g=>by obtain⟨rfl,rfl⟩:=g;exact gx) ?_)
 ·by_cases hm:l.length=i+1
  ·have e:l.drop (i+1)=[]:=gI yd
   rw[e,show l.length-(i+1)=0 from by omega]
   exact dN.nil
  ·have hne:¬cap=i+1:=by omega
   have hfa:o_ (some ⟨sb,0,none⟩) cap (i+1) 1=some ⟨sb,0+(i+1)*1,none⟩:=by unfold o_;simp[hne,Addr.add_mid]
   show dN _ _ (.slice (o_ (some ⟨sb,0,none⟩) cap (i+1) 1) _ _) _ _ _
   rw[hfa]
   refine dN.pt 0 Z ?_ hdf
   show((flat eB l++rest).drop (0+(i+1)*1)).take ((l.length-(i+1))*1)=_
   rw[bZ,za pH _ _ _ yd,xL hdf]
 ·show i*1+(flat eB (l.drop (i+1))).length≤(flat eB l++rest).length
  rw[hdf,a_,hfl,←oN]
  exact p6 (so _ yd) (Nat.le_add_right _ _)
 rintro _ _ ⟨rfl,rfl⟩
 rw[show i+(l.length-(i+1))=l.length-1 from by omega]
 show VA _ _ _ _ _ _ [pt sb (cT (flat eB l++rest) (i*1) (flat eB (l.drop (i+1)))) 9] _
 rw[hwr]
 refine mg ?_
 refine Lh ?_
 rw[show l.length-(l.length-1)=1 from by omega]
 have hzz:(eB ⟨#[]⟩).length=z.length:=by rw[hz];rfl
 refine VG (VO.rU (L':=[pt sb (flat eB (l.eraseIdx i)++((eB ⟨#[]⟩)++rest)) 9]) ((aG.clear 0 Z Z Z Z Z yn ?_ Z).mono fun v L' g=>⟨g.1,by
  rw[g.2]
  show [pt sb (cT (flat eB (l.eraseIdx i)++(z++rest)) (0+(l.length-1)*1) (eB ⟨#[]⟩)) 9]=_
  rw[Ks (by rw[dS pH,hel];omega) hzz]⟩) ?_)
 ·show 0+(l.length-1)*1+1*1≤(flat eB (l.eraseIdx i)++(z++rest)).length
  rw[a_,a_,dS pH,hel,hz];omega
 refine ae ?_
 refine CR (al.tmp 6 Z Z (L':=[av 9 1 (some ⟨sb,0,none⟩) (l.length-1) cap (flat eB (l.eraseIdx i))]) (aa.sl (by rw[dS pH,hel]) yd ?_ aa.refl).ah Md)
 rw[a_,a_,dS pH,hel,hzz,hz]
 rw[a_,hfl] at hcl
 have:(l.length-1)*1+1=l.length*1:=by rw[←Nat.succ_mul];congr 1;omega
 omega
end Cl
namespace Cl
open Go Vg T Api
attribute [local irreducible] VO VC VA
abbrev vH:TypeId:=5
def ia(b:UInt8):List Value:=[.int .u8 (b.toNat:Int)]
theorem B0(b:UInt8):(ia b).length=1:=rfl
theorem OY(l:Bs):flat ia l=l.map fun c=>Value.int .u8 (c.toNat:Int):=by
 induction l with
 | nil=>rfl
 | cons b l ih=>rw[ki,ih];rfl
theorem CB(l:Bs):(flat ia l).length=l.length:=by rw[dS B0];omega
theorem wrap_u8(n:Nat):IntKind.u8.wrap (n:Int)=((UInt8.ofNat n).toNat:Int):=by
 simp[IntKind.wrap,IntKind.bits,IntKind.signed,UInt8.toNat_ofNat']
theorem xd{n:Nat}(h:n<18446744073709551616):IntKind.u64.wrap (n:Int)=(n:Int):=wrap_u64 yd yd
theorem GA{l:Bs}{rest:List Value}{i:Nat}{v:UInt8}(h:l[i]?=some v):(flat ia l++rest)[0+i*1]?=some (.int .u8 (v.toNat:Int)):=by
 have:=o9 B0 (j:=0) h rfl rest
 rw[bZ];exact this
theorem GB{l:Bs}{rest:List Value}{i:Nat}{v:UInt8}(h:i<l.length):(flat ia l++rest).set (0+i*1) (.int .u8 (v.toNat:Int))=flat ia (l.set i v)++rest:=by
 obtain⟨u,hu⟩:∃u,l[i]?=some u:=⟨_,GE h⟩
 have:=ue B0 (a':=v) (j:=0) hu yn rfl rest
 rw[bZ];exact this
structure tQ(cs ds:Bs)(i:Nat):Prop where
 len:ds.length=cs.length
 at_:∀k,k<cs.length→ds[k]?=if k<i∨cs.length-i≤k then cs[cs.length-1-k]? else cs[k]?
theorem tQ.done{cs ds:Bs}{i:Nat}(h:tQ cs ds i)(hi:cs.length≤2*i+1):ds=cs.reverse:=by
 refine oL fun k=>?_
 by_cases hk:k<cs.length
 ·rw[h.at_ k hk,List.getElem?_reverse hk]
  split
  ·rfl
  ·congr 1;omega
 ·rw[mQ (by rw[h.len];omega),mQ (by rw[List.length_reverse];omega)]
theorem tQ.next{cs ds:Bs}{i:Nat}{x y:UInt8}(h:tQ cs ds i)(hi:2*i+1<cs.length)(hx:ds[i]?=some x)(hy:ds[cs.length-1-i]?=some y):tQ cs ((ds.set i y).set (cs.length-1-i) x) (i+1):=by
 have hl:=h.len
 refine⟨by simp[hl],fun k hk=>?_⟩
 have e1:cs[i]?=some x:=by rw[←hx,h.at_ i yd,if_neg yd]
 have e2:cs[cs.length-1-i]?=some y:=by rw[←hy,h.at_ _ yd,if_neg yd]
 by_cases h1:k=cs.length-1-i
 ·subst h1
  rw[hO ye,if_pos yd,show cs.length-1-(cs.length-1-i)=i from by omega,e1]
 rw[ky yd]
 by_cases h2:k=i
 ·subst h2
  rw[hO yd,if_pos yd,e2]
 rw[ky yd,h.at_ k hk]
 by_cases h3:k<i∨cs.length-i≤k
 ·rw[if_pos h3,if_pos yd]
 ·rw[if_neg h3,if_neg yd]
theorem Sk(b n cap:Nat)(cs:Bs)(rest:List Value)(hn:cs.length=n)(h0:1≤n)(h1:n≤1000):
  aq Tryz.prog 360 [.slice (some ⟨b,0,none⟩) n cap] Fr w [pt b (flat ia cs++rest) vH] (fun v L=>v=.tuple #[]∧L=[pt b (flat ia cs.reverse++rest) vH]):=by
 refine TF 28 Tryz.func360 Z ym aw Z Z ?_
 refine ae ?_
 refine mN ?_
 refine ae ?_
 refine VC.loop (σ:=Nat×Bs) (fun s=>[(0,.slice (some ⟨b,0,none⟩) n cap),(2,.int .i64 (s.1:Int)),(3,.int .i64 ((n:Int)-1-s.1))]) (fun s=>[pt b (flat ia s.2++rest) vH]) (fun s=>tQ cs s.2 s.1∧s.1≤n) (fun s=>n-s.1) (0,cs)
  (by refine⟨⟨rfl,fun k hk=>?_⟩,bK _⟩;rw[if_neg yd]) (SC rfl (SC rfl (Sub.int rfl yp (SN _)))) ER ?_
 rintro⟨i,ds⟩ ⟨hR,hi⟩
 have hl:ds.length=n:=by rw[hR.len,hn]
 dsimp only
 refine ae ?_
 refine CP (p:=(i:Int)<(n:Int)-1-i) Z (fun h2=>CK ?_) (fun h2=>CX ?_)
 rotate_left
 ·have hd:=hR.done yd
  subst hd
  refine ae ?_
  exact tu
 obtain⟨x,hx⟩:∃x,ds[i]?=some x:=⟨_,GE yd⟩
 obtain⟨y,hy⟩:∃y,ds[n-1-i]?=some y:=⟨_,GE yd⟩
 have hj:(n:Int)-1-i=((n-1-i:Nat):Int):=by omega
 have hcap:n≤n:=NR _
 rw[hj]
 refine ae ?_
 refine CD (ts 0 13 (.only 13 (.take 14 (.only 15 .nil)))) ym yo ?_
 refine cG ?_
 refine AG (AI Z (dU (n-1-i) Z Z Z Z Z Z yd) ?_)
 refine AG (VA.ld 0 Z Z Z Z (GA (i:=n-1-i) hy) ?_)
 refine cG ?_
 refine AG (AI Z (dU i Z Z Z Z Z Z yd) ?_)
 refine AG (VA.ld 0 Z Z Z Z (GA (i:=i) hx) ?_)
 refine cG ?_
 refine AG (AI Z (dU i Z Z Z Z Z Z yd) ?_)
 refine AG (VA.st 0 (cs':=flat ia (ds.set i y)++rest) Z Z Z Z Z (by show 0+i*1<_;rw[a_,CB];omega) (GB (i:=i) yd) Z yv ?_)
 refine cG ?_
 refine AG (AI Z (dU (n-1-i) Z Z Z Z Z Z yd) ?_)
 refine AG (VA.st 0 (cs':=flat ia ((ds.set i y).set (n-1-i) x)++rest) Z Z Z Z Z (by show 0+(n-1-i)*1<_;rw[a_,CB,gk];omega) (GB (i:=n-1-i) FN) Z yv ?_)
 refine mg ?_
 refine nH ?_
 refine mN ?_
 refine ae ?_
 refine⟨(i+1,(ds.set i y).set (n-1-i) x),⟨?_,by omega⟩,by dsimp only;omega,SC Z (SC Z (Sub.int Z yp (SN _))),ER⟩
 subst hn
 exact hR.next yd hx hy
end Cl
namespace Cl
open Go Vg T Api
attribute [local irreducible] VO VC VA
theorem ofNat_mod(n:Nat):UInt8.ofNat (n % 256)=UInt8.ofNat n:=by apply UInt8.toNat_inj.1;simp[UInt8.toNat_ofNat']
theorem Qa:∀k,nj k 0=[]
 | 0=>rfl
 | k+1=>by rw[nj,if_pos rfl]
theorem BS(l:Bs)(k:Nat):(bT l).extract k (bT l).size=bT (l.drop k):=by
 rw[gn];exact ByteArray.ext (by simp[bT,p4])
theorem Gj(l:Bs)(k:Nat):(bT l).extract 0 k=bT (l.take k):=ByteArray.ext (by simp[bT])
theorem Np(a b:ByteArray):(a.toList == b.toList)=decide (a=b):=by
 by_cases h:a=b
 ·subst h;simp
 ·have:a.toList≠b.toList:=fun e=>h (by
   rw[ByteArray.toList_eq,ByteArray.toList_eq] at e
   exact ByteArray.ext (kT.1 e))
  rw[DF h];simpa using this
theorem oV(a b:Bs):((bT a).toList == (bT b).toList)=decide (a=b):=by
 rw[Np]
 by_cases h:a=b
 ·rw[DT h,DT (congrArg bT h)]
 ·rw[DF h,DF fun k=>h (M8 k)]
theorem Nf{r:Bs}{j:Nat}{b:UInt8}(h:r[j]?=some b):jx (r.take (j+1))=jx (r.take j)*256+b.toNat:=by
 rw[fS,h,←Nd];rfl
theorem Gr{r:Bs}{j:Nat}(h:j≤8):jx (r.take j)<256 ^ j:=by
 have:=Gq (r.take j)
 exact vv this (xO yn FG)
theorem RZ{j:Nat}(h:j≤7):256 ^ j≤72057594037927936:=by
 have:256 ^ j≤256 ^ 7:=xO yn h
 exact this
theorem R0{j:Nat}(h:j≤8):256 ^ j≤18446744073709551616:=by
 have:256 ^ j≤256 ^ 8:=xO yn h
 exact this
theorem DA(n:Nat)(hn:n<18446744073709551616):aq Tryz.prog 327 [.int .u64 n] Fr w [] (fun v L=>v=.string (bT (mE n))∧L=[]):=by
 refine TF 30 Tryz.func327 Z ym aw Z Z ?_
 refine ae ?_
 refine CP (p:=(n:Int)≤247) Z (fun h=>?_) (fun h=>CK ?_)
 ·refine ae ?_
  refine VG (VI (mC ((UInt8.ofNat n).toNat:Int) Z Z Z Z Z (wrap_u8 n)) ?_)
  refine VG (VO.buildSlice (pv:=[(0,.int .u8 ((UInt8.ofNat n).toNat:Int))]) (ia (UInt8.ofNat n)) Z Z Z Z yn Z fun b=>?_)
  refine VG (VO.rU (aG.str (bs:=[UInt8.ofNat n]) 0 Z Z Z Z Z Z Z Z Z Z) ?_)
  refine ae ?_
  exact CR (al.tmp 2 Z Z aa.nil.ah ⟨by rw[mE,if_pos yd];rfl,Z⟩)
 refine ae ?_
 refine VC.loop (σ:=Bs×Nat×Option Addr×Nat) (fun s=>[(0,.int .u64 (s.2.1:Int)),(3,.slice s.2.2.1 s.1.length s.2.2.2)]) (fun s=>[av vH 1 s.2.2.1 s.1.length s.2.2.2 (flat ia s.1)]) (fun s=>nj 8 n=s.1++nj (8-s.1.length) s.2.1∧s.1.length≤8∧s.2.1<256 ^ (8-s.1.length)) (fun s=>8-s.1.length) ([],n,none,0)
  ⟨rfl,bK _,hn⟩ aF (aa.cN aa.nil).ah ?_
 rintro⟨done,cur,a,c⟩ ⟨hJ,hl,hc⟩
 dsimp only at hJ hl hc ⊢
 refine ae ?_
 refine CP (p:=0<(cur:Int)) Z (fun h2=>CK ?_) (fun h2=>CX ?_)
 ·obtain⟨k,hk⟩:∃k,8-done.length=k+1:=⟨8-done.length-1,by
   by_cases h8:done.length=8
   ·rw[h8] at hc;simp at hc;omega
   ·omega⟩
  have hu:nj (k+1) cur=UInt8.ofNat cur::nj k (cur / 256):=by rw[nj,if_neg yd,ofNat_mod]
  rw[hk] at hc
  rw[hk,hu] at hJ
  refine ae ?_
  refine VG (VI (mC ((UInt8.ofNat cur).toNat:Int) Z Z Z Z Z (wrap_u8 cur)) ?_)
  refine VG (VO.buildSlice (pv:=[(0,.int .u8 ((UInt8.ofNat cur).toNat:Int))]) (ia (UInt8.ofNat cur)) Z Z Z Z yn Z fun b=>?_)
  refine VG (VO.append (m:=1) (news:=ia (UInt8.ofNat cur)) 1 Z Z Z Z Z Z Z (dN.pt 0 Z Z Z) Z Me yd fun a2 c2 hc2=>?_)
  refine ae ?_
  refine VG (VI (Qi (n:=8) Z Z yn) ?_)
  refine ae ?_
  have hL:(done ++ [UInt8.ofNat cur]).length=done.length+1:=by simp
  refine⟨(done ++ [UInt8.ofNat cur],cur / 2 ^ 8,a2,c2),⟨?_,by dsimp only;omega,?_⟩,by dsimp only;omega,SC Z (SC (by dsimp only;rw[hL];rfl) (SN _)),?_⟩
  ·dsimp only
   rw[hJ,hL,show 8-(done.length+1)=k from by omega,eV];rfl
  ·dsimp only
   rw[hL,show 8-(done.length+1)=k from by omega]
   rw[Nat.pow_succ] at hc
   exact Nat.div_lt_of_lt_mul (by rw[Nat.mul_comm];exact hc)
  ·dsimp only
   rw[hL,ik]
   exact(IP 0 Z aa.nil).ah
 obtain rfl:cur=0:=by omega
 rw[Qa,bA] at hJ
 refine ae ?_
 refine nH ?_
 refine VG (VI (mC ((UInt8.ofNat (247+done.length)).toNat:Int) Z Z Z Z Z (wrap_u8 (247+done.length))) ?_)
 generalize hz:UInt8.ofNat (247+done.length)=z
 refine VG (VO.buildSlice (pv:=[(0,.int .u8 (z.toNat:Int))]) (ia z) Z Z Z Z yn Z fun b=>?_)
 refine VG (VO.append (m:=1) (news:=ia z) 1 Z Z Z Z Z Z Z (dN.pt 0 Z Z Z) Z Me yd fun a2 c2 hc2=>?_)
 refine ae ?_
 rw[show flat ia done++ia z=flat ia (done ++ [z]) from by rw[ik];rfl]
 refine VO.bu 0 Z (aY.sl _ _ _ _ _ _) ?_
 rintro(_ | ⟨sb,rest⟩) ⟨hx1,hx2,hx3⟩
 ·obtain⟨_,h0,_⟩:=hx3
  omega
 obtain⟨rfl,hx4⟩:=hx3
 dsimp only
 refine ae ?_
 refine VG (VQ 0 Z (fun Fr w hF hw _=>Sk Fr w sb (done.length+1) c2 (done ++ [z]) rest yf yd yd) Z (ψ:=fun v H=>v=.tuple #[]∧H=pt sb (flat ia (done ++ [z]).reverse++rest) vH) yz ?_)
 rintro _ _ ⟨rfl,rfl⟩
 refine ae ?_
 refine VG (VO.rU (aG.str (bs:=(done ++ [z]).reverse) 0 Z Z Z Z Z Z Z Z yf (by rw[←OY,xL (by rw[CB];simp)])) ?_)
 refine ae ?_
 exact CR (al.tmp 2 Z Z aa.nil.ah ⟨by rw[mE,if_neg yd,hJ,hz,List.reverse_append];rfl,Z⟩)
theorem lu(n:Int):aq Tryz.prog 273 [.int .i64 n] Fr w [] (fun v L=>v=.string (bT (dJ n))∧L=[]):=by
 refine TF 13 Tryz.func273 Z ym aw Z Z ?_
 refine ae ?_
 by_cases h1:n < -1
 ·refine VG (VY 5 true Z (DT h1) ?_)
  refine pW ?_
  exact CR (al.tmp 2 Z Z ER ⟨by rw[dJ,if_pos (.inl h1)];rfl,Z⟩)
 refine VG (VY 5 false Z (DF h1) ?_)
 refine au ?_
 refine CP (p:=1099511627776<n) Z (fun h2=>?_) (fun h2=>CK ?_)
 ·refine ae ?_
  exact CR (al.tmp 2 Z Z ER ⟨by rw[dJ,if_pos (.inr h2)];rfl,Z⟩)
 refine ae ?_
 refine nH ?_
 refine VG (VI (mC (((n+1).toNat:Nat):Int) Z Z Z Z Z (by rw[wrap_u64 yd yd];omega)) ?_)
 refine VG (VV (fun Fr w hF hw _=>DA Fr w (n+1).toNat yd) Z ?_)
 refine ae ?_
 exact CR (al.tmp 2 Z Z ER ⟨by rw[dJ,if_neg yd],Z⟩)
theorem Er(s:ByteArray)(hs:s.size≤1000000):aq Tryz.prog 329 [.string s] Fr w [] (fun v L=>v=.string (bT (oC (sB s)))∧L=[]):=by
 have hl:(mE s.size).length≤9:=by
  unfold mE
  split
  ·simp
  ·have:=C8 8 s.size;simp;omega
 refine TF 9 Tryz.func329 Z ym aw Z Z ?_
 refine ae ?_
 refine VG (VI (mC (s.size:Int) Z Z Z Z Z (xd yd)) ?_)
 refine VG (VV (fun Fr w hF hw _=>DA Fr w s.size yd) Z ?_)
 refine ae ?_
 refine VG (VI (nk Z Z (by rw[gn];omega)) ?_)
 refine ae ?_
 exact CR (al.tmp 2 Z Z ER ⟨by rw[oC,kE,Gi,wU],Z⟩)
end Cl
namespace Cl
open Go Vg T Api
attribute [local irreducible] VO VC VA
theorem al.t3{X:Cx}{fn:Func}{R:Value→List HP→Prop}{e:Env}{L:List HP}(t u r:Nat)(h:fn.results=#[.tmp t,.tmp u,.tmp r]){v x y:Value}(hv:Vg.look e t=some v)(hx:Vg.look e u=some x)(hy:Vg.look e r=some y){L':List HP}(he:cI X L L')(hR:R (.tuple #[v,x,y]) L'):al X fn R e L:=
 ⟨_,L',⟨fun a w ha hw=>by
  have h1:=ha.at_ t _ hv
  have h2:=ha.at_ u _ hx
  have h3:=ha.at_ r _ hy
  simp only[vm] at h1 h2 h3
  simp[results,h,h1,h2,h3]⟩,he,hR⟩
def D2:Option (Nat×Bs)→Value
 | some (n,r)=>.tuple #[.int .u64 n,.string (bT r),.bool true]
 | none=>.tuple #[.int .u64 0,.string (bT []),.bool false]
def Kb:Option (Int×Bs)→Value
 | some (n,r)=>.tuple #[.int .i64 n,.string (bT r),.bool true]
 | none=>.tuple #[.int .i64 0,.string (bT []),.bool false]
def G5:Option (Bs×Bs)→Value
 | some (n,r)=>.tuple #[.string (bT n),.string (bT r),.bool true]
 | none=>.tuple #[.string (bT []),.string (bT []),.bool false]
theorem Af(s:Bs)(hs:s.length≤1000000):aq Tryz.prog 369 [.string (bT s)] Fr w [] (fun v L=>v=D2 (lY s)∧L=[]):=by
 refine TF 48 Tryz.func369 Z ym aw Z Z ?_
 refine ae ?_
 refine CC Z (fun h=>?_) (fun h=>CK ?_)
 ·have h:s=[]:=by rw[show(ByteArray.mk #[])=bT [] from rfl,oV] at h;exact of_decide_eq_true h
  subst h
  refine ae ?_
  exact CR (al.t3 2 3 4 Z Z Z Z ER ⟨rfl,Z⟩)
 have h:s≠[]:=by rw[show(ByteArray.mk #[])=bT [] from rfl,oV] at h;exact of_decide_eq_false h
 obtain⟨c,r,rfl⟩:∃c r,s=c::r:=by cases s with
  | nil=>exact absurd rfl h
  | cons c r=>exact⟨c,r,rfl⟩
 have hc:c.toNat<256:=c.toNat_lt
 rw[mh] at hs
 have hsz:(bT (c::r)).size=r.length+1:=by rw[gn];rfl
 refine ae ?_
 refine VG (VI (sO (b:=c) 0 Z Z Z Z Z Z) ?_)
 refine ae ?_
 refine CP (p:=(c.toNat:Int)≤247) Z (fun h2=>?_) (fun h2=>CK ?_)
 ·refine ae ?_
  refine CD (ts 0 8 .nil) ym yo ?_
  refine cG ?_
  refine AG (AI Z (sO (b:=c) 0 Z Z Z Z Z Z) ?_)
  refine AG (AI Z (mC (c.toNat:Int) Z Z Z Z Z (xd yd)) ?_)
  refine cG ?_
  refine AG (AI Z (Da 1 Z Z Z Z Z (by rw[hsz];omega)) ?_)
  refine cG ?_
  exact CR (al.t3 2 3 4 Z Z Z Z ER ⟨by rw[lY,if_pos yd,BS];rfl,Z⟩)
 obtain⟨k,hk⟩:∃k,c.toNat-247=k:=⟨_,rfl⟩
 have hk1:1≤k:=by omega
 have hk8:k≤8:=by omega
 refine ae ?_
 refine VG (VI (sO (b:=c) 0 Z Z Z Z Z Z) ?_)
 refine VG (VI (mC (c.toNat:Int) Z Z Z Z Z (i64_in _ yd yd)) ?_)
 refine nH ?_
 refine mN ?_
 rw[show(1:Int)+c.toNat-247=((k+1:Nat):Int) from by omega]
 refine ae ?_
 have hr:lY (c::r)=if r.length<k then none else if mE (jx (r.take k))=c::r.take k then some (jx (r.take k),r.drop k) else none:=by
  rw[lY,if_neg yd,hk]
 refine CP (p:=((bT (c::r)).size:Int)<((k+1:Nat):Int)) Z (fun h3=>?_) (fun h3=>CK ?_)
 ·rw[hsz] at h3
  refine ae ?_
  exact CR (al.t3 2 3 4 Z Z Z Z ER ⟨by rw[hr,if_pos yd];rfl,Z⟩)
 rw[hsz] at h3
 rw[if_neg yd] at hr
 refine ae ?_
 refine VC.loop (σ:=Nat) (fun j=>[(0,.string (bT (c::r))),(5,.int .i64 ((k+1:Nat):Int)),(6,.int .i64 ((j+1:Nat):Int)),(2,.int .u64 ((jx (r.take j):Nat):Int))]) (fun _=>[]) (fun j=>j≤k) (fun j=>k-j) 0
  (bK _) (SC rfl (SC rfl (SC rfl (Sub.int rfl (by rw[p5];rfl) (SN _))))) ER ?_
 intro j hj
 refine ae ?_
 refine CP (p:=((j+1:Nat):Int)<((k+1:Nat):Int)) Z (fun h4=>CK ?_) (fun h4=>CX ?_)
 ·obtain⟨b,hb⟩:∃b,r[j]?=some b:=⟨_,GE yd⟩
  have h256:b.toNat<256:=b.toNat_lt
  have hlt:=Gr (r:=r) (j:=j) yd
  have hp:=RZ (j:=j) yd
  have hsh:jx (r.take j)*2 ^ 8<18446744073709551616:=by omega
  refine ae ?_
  refine VG (VI (H_ (n:=8) ((jx (r.take j)*2 ^ 8:Nat):Int) Z Z yn (xd hsh)) ?_)
  refine ae ?_
  refine VG (VI (sO (b:=b) (j+1) Z Z Z Z Z hb) ?_)
  refine VG (VI (mC (b.toNat:Int) Z Z Z Z Z (xd yd)) ?_)
  refine VG (VI (Qh Z Z hsh yd) ?_)
  refine fx ?_
  refine⟨j+1,by omega,by dsimp only;omega,SC Z (SC Z (Sub.int Z yd (Sub.int Z (by rw[Nf hb,show(2:Nat) ^ 8=256 from Z,Rx h256]) (SN _)))),ER⟩
 obtain rfl:j=k:=by omega
 have hlt:=Gr (r:=r) (j:=j) hk8
 have hp:=R0 (j:=j) hk8
 refine ae ?_
 refine CD (ts 0 1 (ts 2 3 (.only 1 (.take 5 .nil)))) ym yo ?_
 refine cG ?_
 refine AG (AI Z (H9 (j+1) Z Z Z Z Z (by rw[hsz];omega)) ?_)
 refine AG (AR (fun Fr w hF hs hS=>DA Fr w (jx (r.take j)) yd) Z Z yv ?_)
 refine cG ?_
 rw[Gj]
 refine VC.ey Z (fun h5=>?_) (fun h5=>CK ?_)
 ·have h5:¬mE (jx (r.take j))=c::r.take j:=by rw[oV] at h5;exact of_decide_eq_false h5
  refine ae ?_
  exact CR (al.t3 2 3 4 Z Z Z Z ER ⟨by rw[hr,if_neg h5];rfl,Z⟩)
 have h5:mE (jx (r.take j))=c::r.take j:=by rw[oV] at h5;exact of_decide_eq_true h5
 refine ae ?_
 refine CD (ts 0 7 .nil) ym yo ?_
 refine cG ?_
 refine AG (AI Z (Da (j+1) Z Z Z Z Z (by rw[hsz];omega)) ?_)
 refine cG ?_
 exact CR (al.t3 2 3 4 Z Z Z Z ER ⟨by rw[hr,if_pos h5,BS];rfl,Z⟩)
theorem Az(s:Bs)(hs:s.length≤1000000):aq Tryz.prog 345 [.string (bT s)] Fr w [] (fun v L=>v=Kb (bR s)∧L=[]):=by
 refine TF 22 Tryz.func345 Z ym aw Z Z ?_
 refine ae ?_
 cases hr:lY s with
 | none=>
  refine Li ?_
  refine au ?_
  refine VG (VY 14 true Z Z ?_)
  refine pW ?_
  exact CR (al.t3 2 3 4 Z Z Z Z ER ⟨by rw[bR,hr];rfl,Z⟩)
 | some x=>
  obtain⟨u,r⟩:=x
  have hu:=Jk hr
  refine Lj ?_
  refine au ?_
  refine VG (VY 14 false Z Z ?_)
  refine au ?_
  refine CP (p:=(1099511627777:Int)<(u:Int)) Z (fun h2=>?_) (fun h2=>CK ?_)
  ·refine ae ?_
   exact CR (al.t3 2 3 4 Z Z Z Z ER ⟨by rw[bR,hr];dsimp only;rw[if_pos yd];rfl,Z⟩)
  refine ae ?_
  refine VG (VI (mC (u:Int) Z Z Z Z Z (i64_in _ yd yd)) ?_)
  refine mN ?_
  refine ae ?_
  exact CR (al.t3 2 3 4 Z Z Z Z ER ⟨by rw[bR,hr];dsimp only;rw[if_neg yd];rfl,Z⟩)
theorem Oa(s:Bs)(hs:s.length≤1000000):aq Tryz.prog 347 [.string (bT s)] Fr w [] (fun v L=>v=G5 (iG s)∧L=[]):=by
 refine TF 27 Tryz.func347 Z ym aw Z Z ?_
 refine ae ?_
 cases hr:lY s with
 | none=>
  refine Li ?_
  refine au ?_
  refine VG (VY 14 true Z Z ?_)
  refine pW ?_
  exact CR (al.t3 2 3 4 Z Z Z Z ER ⟨by rw[iG,hr];rfl,Z⟩)
 | some x=>
  obtain⟨u,r⟩:=x
  have hu:=Jk hr
  have hrl:=D5 hr
  have hsz:(bT r).size=r.length:=gn r
  refine Lj ?_
  refine au ?_
  refine VG (VY 14 false Z Z ?_)
  refine au ?_
  refine VG (VI (mC ((bT r).size:Int) Z Z Z Z Z (xd yd)) ?_)
  refine au ?_
  refine CP (p:=((bT r).size:Int)<(u:Int)) Z (fun h2=>?_) (fun h2=>CK ?_)
  ·refine ae ?_
   exact CR (al.t3 2 3 4 Z Z Z Z ER ⟨by rw[iG,hr];dsimp only;rw[if_pos yd];rfl,Z⟩)
  refine ae ?_
  refine CD (ts 0 9 .nil) ym yo ?_
  refine cG ?_
  refine AG (AI Z (H9 u Z Z Z Z Z yd) ?_)
  refine cG ?_
  refine AG (AI Z (Da u Z Z Z Z Z yd) ?_)
  refine cG ?_
  exact CR (al.t3 2 3 4 Z Z Z Z ER ⟨by rw[iG,hr];dsimp only;rw[if_neg yd,BS,Gj];rfl,Z⟩)
end Cl
namespace Cl
open Go Vg T Api
attribute [local irreducible] VO VC VA
theorem I3(n:Nat):(mE n).length≤9:=by
 unfold mE
 split
 ·simp
 ·have:=C8 8 n;simp;omega
theorem fe(n:Int):(dJ n).length≤9:=by
 unfold dJ
 split
 ·exact bK _
 ·exact I3 _
theorem uQ(s:Bs):(oC s).length≤9+s.length:=by
 have:=I3 s.length
 rw[oC,a_];omega
theorem I5{o:bp}(h:c_ o=0):o.key.size≤16∧o.value.size≤64:=by
 unfold c_ at h
 split at h
 ·exact absurd h yn
 split at h
 ·exact absurd h yn
 rename_i h2
 simp[px] at h2
 omega
theorem DH{o:bp}(h:c_ o=0):(rV o).length≤116:=by
 obtain⟨h1,h2⟩:=I5 h
 have a:=fe o.kind
 have b:=uQ (sB o.key)
 have c:=uQ (sB o.value)
 have d:=fe o.version
 rw[wU] at b c
 unfold rV
 simp only[a_]
 have e:(if pI o.kind=true then oC (sB o.value) else []).length≤73:=by split<;>first | omega | simp
 have f:(if o.kind=4 then dJ o.version else []).length≤9:=by split<;>first | omega | simp
 omega
theorem I6(o:bp):aq Tryz.prog 328 [.agg o.cells.toArray] Fr w [] (fun v L=>v=.tuple #[.string (bT (if c_ o=0 then rV o else [])),.int .i64 (c_ o)]∧L=[]):=by
 refine TF 35 Tryz.func328 Z ym aw Z Z ?_
 refine CS (CG (VG (VB (vs:=o.cells) Z fun b=>VG (VN ?_))))
 refine ae ?_
 refine VG (VL 0 o.cells Z Z Z Z ?_)
 refine VG (VV (fun Fr w hF hw _=>Api.gq Fr w o) Z ?_)
 refine ae ?_
 refine VC.dd Z (fun h=>?_) (fun h=>CK ?_)
 ·refine ae ?_
  exact CR (al.cz 2 3 Z Z Z aa.nil.ah ⟨by rw[if_neg h];rfl,Z⟩)
 rw[if_pos h,h]
 obtain⟨hk,hv⟩:=I5 h
 have l1:=fe o.kind
 have l2:=uQ (sB o.key)
 have l3:=uQ (sB o.value)
 have l4:=fe o.version
 rw[wU] at l2 l3
 refine ae ?_
 refine CD (ts 0 2 (ts 3 2 (.only 2 (.only 5 (ts 6 2 .nil))))) ym yo ?_
 refine bg ?_
 refine AG (AR (fun Fr w hF hs hS=>lu Fr w o.kind) Z Z yv ?_)
 refine AG (AR (fun Fr w hF hs hS=>Er Fr w o.key yd) Z Z yv ?_)
 refine xr ?_
 rw[←kE]
 refine sh ?_
 refine VG (VV (fun Fr w hF hw _=>AD Fr w o.kind) Z ?_)
 refine aj ?_
 refine VC.cZ (σ:=Bs) (fun s=>[(1,pV b),(5,.string (bT s))]) (fun _=>[pt b o.cells 85]) (fun s=>s=dJ o.kind++oC (sB o.key)++(if pI o.kind=true then oC (sB o.value) else [])) ?_ ?_
 ·refine CC Z (fun h2=>?_) (fun h2=>CK ?_)
  ·refine aj ?_
   refine VG (VV (fun Fr w hF hw _=>Er Fr w o.value yd) Z ?_)
   refine VG (VI (nk Z Z (by rw[gn,gn,a_];omega)) ?_)
   rw[←kE]
   refine aj ?_
   exact⟨_,by rw[show pI o.kind=true from h2,if_pos rfl],SC Z (SC Z (SN _)),ER⟩
  ·exact⟨_,by rw[show pI o.kind=false from h2,if_neg yn,bA],SC Z (SC Z (SN _)),ER⟩
 rintro s rfl
 have e:(if pI o.kind=true then oC (sB o.value) else []).length≤73:=by split<;>first | omega | simp
 refine aj ?_
 refine VC.cZ (σ:=Bs) (fun s=>[(1,pV b),(5,.string (bT s))]) (fun _=>[pt b o.cells 85]) (fun s=>s=rV o) ?_ ?_
 ·refine CE Z (fun h2=>?_) (fun h2=>CK ?_)
  ·refine aj ?_
   refine VG (VV (fun Fr w hF hw _=>lu Fr w o.version) Z ?_)
   refine A6 ?_
   rw[←kE]
   refine aj ?_
   exact⟨_,by rw[rV,if_pos h2],SC Z (SC Z (SN _)),ER⟩
  ·exact⟨_,by rw[rV,if_neg h2,bA],SC Z (SC Z (SN _)),ER⟩
 rintro s rfl
 refine aj ?_
 exact CR (al.cz 2 3 Z Z Z aa.nil.ah ⟨rfl,Z⟩)
end Cl
namespace Cl
open Go Vg T Api
attribute [local irreducible] VO VC VA
theorem N'{s a r:Bs}(h:iG s=some (a,r)):a.length≤s.length∧r.length≤s.length:=by
 unfold iG at h
 cases hr:lY s with
 | none=>rw[hr] at h;cases h
 | some x=>
  obtain⟨n,q⟩:=x
  have:=D5 hr
  rw[hr] at h
  dsimp only at h
  split at h
  ·cases h
  ·simp only[Option.some.injEq,Prod.mk.injEq] at h
   obtain⟨rfl,rfl⟩:=h
   rw[iT,q3];omega
def g1(s:Bs):Option (bp×Bs):=(bR s).map fun x=>(⟨x.1,bT [],bT [],0⟩,x.2)
def g2(s:Bs):Option (bp×Bs):=(g1 s).bind fun x=>(iG x.2).map fun y=>({ x.1 with key:=bT y.1 },y.2)
def g3(s:Bs):Option (bp×Bs):=(g2 s).bind fun x=>if pI x.1.kind=true then (iG x.2).map fun y=>({ x.1 with value:=bT y.1 },y.2) else some x
def g4(s:Bs):Option (bp×Bs):=(g3 s).bind fun x=>if x.1.kind=4 then (bR x.2).map fun y=>({ x.1 with version:=y.1 },y.2) else some x
theorem zh(s:Bs):rJ s=(g4 s).bind fun x=>if x.2=[]∧c_ x.1=0 then some x.1 else none:=by
 unfold rJ g4 g3 g2 g1
 cases h1:bR s with
 | none=>rfl
 | some x=>
  obtain⟨k,r⟩:=x
  simp only[mj,js]
  cases h2:iG r with
  | none=>rfl
  | some y=>
   obtain⟨key,r2⟩:=y
   simp only[mj,js]
   by_cases hv:pI k=true
   ·simp only[hv,if_true]
    cases h3:iG r2 with
    | none=>rfl
    | some z=>
     obtain⟨val,r3⟩:=z
     simp only[mj,js]
     by_cases h4:k=4
     ·simp only[h4,if_true]
      cases h5:bR r3 with
      | none=>rfl
      | some u=>simp only[mj,js]
     ·simp only[h4,if_false,js]
   ·simp only[hv,if_false,Bool.false_eq_true,js]
    by_cases h4:k=4
    ·exact absurd (by subst h4;rfl) hv
    ·simp only[h4,if_false,js]
structure GI(o:Option (bp×Bs))(n:Nat)(x:bp×Bs×Bool):Prop where
 len:x.2.1.length≤n
 HO:if x.2.2=true then o=some (x.1,x.2.1) else o=none
theorem GI.yes{o:Option (bp×Bs)}{n:Nat}{p:bp}{r:Bs}(h:o=some (p,r))(hl:r.length≤n):GI o n (p,r,true):=⟨hl,h⟩
theorem GI.no{o:Option (bp×Bs)}{n:Nat}{p:bp}{r:Bs}(h:o=none)(hl:r.length≤n):GI o n (p,r,false):=⟨hl,h⟩
theorem GI.t{o:Option (bp×Bs)}{n:Nat}{p:bp}{r:Bs}(h:GI o n (p,r,true)):o=some (p,r):=h.HO
theorem GI.f{o:Option (bp×Bs)}{n:Nat}{p:bp}{r:Bs}(h:GI o n (p,r,false)):o=none:=h.HO
abbrev wJ:TypeId:=85
def vX:Option bp→Value
 | some o=>.tuple #[.agg o.cells.toArray,.int .i64 0]
 | none=>.tuple #[.agg (bp.cells ⟨0,bT [],bT [],0⟩).toArray,.int .i64 10]
theorem Ax(s:Bs):∃k r ok,Kb (bR s)=.tuple #[.int .i64 k,.string (bT r),.bool ok]∧r.length≤s.length∧(ok=true→bR s=some (k,r))∧(ok=false→bR s=none):=by
 cases h:bR s with
 | none=>exact⟨0,[],false,rfl,bK _,fun h=>(nO h).elim,fun _=>rfl⟩
 | some x=>exact⟨x.1,x.2,true,rfl,by have:=(XR (n:=x.1) (r:=x.2) h).2.2;omega,fun _=>rfl,fun h=>(nO h.symm).elim⟩
theorem Cc(s:Bs):∃a r ok,G5 (iG s)=.tuple #[.string (bT a),.string (bT r),.bool ok]∧r.length≤s.length∧(ok=true→iG s=some (a,r))∧(ok=false→iG s=none):=by
 cases h:iG s with
 | none=>exact⟨[],[],false,rfl,bK _,fun h=>(nO h).elim,fun _=>rfl⟩
 | some x=>exact⟨x.1,x.2,true,rfl,(N' (a:=x.1) (r:=x.2) h).2,fun _=>rfl,fun h=>(nO h.symm).elim⟩
abbrev gE(b2 b4:Nat)(x:bp×Bs×Bool):Env:=[(2,pV b2),(4,pV b4),(6,.string (bT x.2.1)),(7,.bool x.2.2)]
abbrev gH(b2 b4:Nat)(x:bp×Bs×Bool):List HP:=[pt b4 x.1.cells wJ,pt b2 (bp.cells ⟨0,bT [],bT [],0⟩) wJ]
theorem GI.mk'{o:Option (bp×Bs)}{n:Nat}{p:bp}{r:Bs}{ok:Bool}(hl:r.length≤n)(h1:ok=true→o=some (p,r))(h2:ok=false→o=none):GI o n (p,r,ok):=by
 cases ok with
 | true=>exact GI.yes (h1 rfl) hl
 | false=>exact GI.no (h2 rfl) hl
theorem zP(s:Bs)(hs:s.length≤1000000):aq Tryz.prog 346 [.string (bT s)] Fr w [] (fun v L=>v=vX (rJ s)∧L=[]):=by
 refine TF 63 Tryz.func346 Z ym aw Z Z ?_
 refine CS (CG (VG (VO.alloc Z fun b2=>?_)))
 refine ae ?_
 refine VG (VO.alloc Z fun b4=>?_)
 refine ae ?_
 obtain⟨k,r,ok,hv,hrl,hk1,hk2⟩:=Ax s
 refine VG (VV (fun Fr w hF hw _=>hv▸Az Fr w s hs) Z ?_)
 refine au ?_
 refine VG (VO.st 0 (cs':=bp.cells ⟨k,bT [],bT [],0⟩) Z Z Z Z (by show 0<4;omega) Z Z ?_)
 refine au ?_
 have hI:GI (g1 s) s.length (⟨k,bT [],bT [],0⟩,r,ok):=GI.mk' hrl (fun h=>by rw[g1,hk1 h];rfl) (fun h=>by rw[g1,hk2 h];rfl)
 clear hk1 hk2 hv
 refine VC.cZ (gE b2 b4) (gH b2 b4) (GI (g2 s) s.length) ?_ ?_
 ·refine CC Z (fun h=>?_) (fun h=>CK ?_)
  ·subst h
   obtain⟨a,q,ok,hv,hql,hk1,hk2⟩:=Cc r
   refine au ?_
   refine E9 ?_
   refine au ?_
   refine VG (VO.st 0 (cs':=bp.cells ⟨k,bT a,bT [],0⟩) Z Z Z Z (by show 1<4;omega) Z Z ?_)
   refine au ?_
   refine⟨(⟨k,bT a,bT [],0⟩,q,ok),GI.mk' yd (fun h=>by rw[g2,hI.t];show(iG r).map _=_;rw[hk1 h];rfl) (fun h=>by rw[g2,hI.t];show(iG r).map _=_;rw[hk2 h];rfl),aF,ER⟩
  ·subst h
   exact⟨(⟨k,bT [],bT [],0⟩,r,false),GI.no (by rw[g2,hI.f];rfl) hrl,aF,ER⟩
 clear hI hrl
 rintro⟨p,r,ok⟩ hI
 refine CS (VC.cZ (gE b2 b4) (gH b2 b4) (GI (g3 s) s.length) ?_ ?_)
 ·cases ok with
  | false=>
   refine au ?_
   refine VG (VY 25 false Z Z ?_)
   refine mf ?_
   exact⟨(p,r,false),GI.no (by rw[g3,hI.f];rfl) hI.len,aF,ER⟩
  | true=>
   have hrl:r.length≤s.length:=hI.len
   refine au ?_
   refine VG (VY 25 true Z Z ?_)
   refine bF ?_
   refine VG (VV (fun Fr w hF hw _=>AD Fr w p.kind) Z ?_)
   refine au ?_
   refine CC Z (fun h=>?_) (fun h=>CK ?_)
   ·obtain⟨a,q,ok,hv,hql,hk1,hk2⟩:=Cc r
    have e:g3 s=(iG r).map fun y=>({ p with value:=bT y.1 },y.2):=by rw[g3,hI.t];exact if_pos h
    refine au ?_
    refine E9 ?_
    refine au ?_
    refine VG (VO.st 0 (cs':=bp.cells { p with value:=bT a }) Z Z Z Z (by show 2<4;omega) Z Z ?_)
    refine au ?_
    exact⟨({ p with value:=bT a },q,ok),GI.mk' yd (fun h=>by rw[e,hk1 h];rfl) (fun h=>by rw[e,hk2 h];rfl),aF,ER⟩
   ·exact⟨(p,r,true),GI.yes (by rw[g3,hI.t];exact if_neg (by rw[show pI p.kind=false from h];decide)) hrl,aF,ER⟩
 clear hI
 clear p r ok
 rintro⟨p,r,ok⟩ hI
 refine CS (VC.cZ (gE b2 b4) (gH b2 b4) (GI (g4 s) s.length) ?_ ?_)
 ·cases ok with
  | false=>
   refine au ?_
   refine VG (VY 38 false Z Z ?_)
   refine mf ?_
   exact⟨(p,r,false),GI.no (by rw[g4,hI.f];rfl) hI.len,aF,ER⟩
  | true=>
   have hrl:r.length≤s.length:=hI.len
   refine au ?_
   refine VG (VY 38 true Z Z ?_)
   refine bF ?_
   refine CE Z (fun h=>?_) (fun h=>CK ?_)
   ·obtain⟨k,q,ok,hv,hql,hk1,hk2⟩:=Ax r
    have e:g4 s=(bR r).map fun y=>({ p with version:=y.1 },y.2):=by rw[g4,hI.t];exact if_pos h
    refine au ?_
    refine VG (VV (fun Fr w hF hw _=>hv▸Az Fr w r yd) Z ?_)
    refine au ?_
    refine VG (VO.st 0 (cs':=bp.cells { p with version:=k }) Z Z Z Z (by show 3<4;omega) Z Z ?_)
    refine au ?_
    exact⟨({ p with version:=k },q,ok),GI.mk' yd (fun h=>by rw[e,hk1 h];rfl) (fun h=>by rw[e,hk2 h];rfl),aF,ER⟩
   ·exact⟨(p,r,true),GI.yes (by rw[g4,hI.t];exact if_neg h) hrl,aF,ER⟩
 clear hI
 clear p r ok
 rintro⟨p,r,ok⟩ hI
 refine au ?_
 cases ok with
 | false=>
  refine VG (VY 52 true Z Z ?_)
  refine au ?_
  refine VG (VY 56 true Z Z ?_)
  refine iS ?_
  refine E_ ?_
  refine E' ?_
  refine au ?_
  exact CR (al.cJ 2 3 Z Z Z (an.many (ds:=bp.cells ⟨0,bT [],bT [],0⟩) 1 Z Z) Z aa.nil.ah ⟨by rw[zh,hI.f];rfl,Z⟩)
 | true=>
 refine VG (VY 52 false Z Z ?_)
 refine au ?_
 by_cases hr:r=[]
 rotate_left
 ·refine VG (VY 56 true Z (by rw[show(ByteArray.mk #[])=bT [] from Z,oV,DF hr];rfl) ?_)
  refine iS ?_
  refine E_ ?_
  refine E' ?_
  refine au ?_
  exact CR (al.cJ 2 3 Z Z Z (an.many (ds:=bp.cells ⟨0,bT [],bT [],0⟩) 1 Z Z) Z aa.nil.ah ⟨by rw[zh,hI.t,js,if_neg (fun h=>hr h.1)];rfl,Z⟩)
 refine VG (VY 56 false Z (by rw[show(ByteArray.mk #[])=bT [] from Z,oV,DT hr];rfl) ?_)
 refine bF ?_
 refine VG (VL 0 p.cells Z Z Z Z ?_)
 refine VG (VV (fun Fr w hF hw _=>Api.gq Fr w p) Z ?_)
 refine au ?_
 refine VC.dd Z (fun hc=>?_) (fun hc=>CK ?_)
 ·refine au ?_
  refine E_ ?_
  refine E' ?_
  refine au ?_
  exact CR (al.cJ 2 3 Z Z Z (an.many (ds:=bp.cells ⟨0,bT [],bT [],0⟩) 1 Z Z) Z aa.nil.ah ⟨by rw[zh,hI.t,js,if_neg (fun h=>hc h.2)];rfl,Z⟩)
 refine bF ?_
 refine VG (VL 0 p.cells Z Z Z Z ?_)
 refine VG (VT (vs:=p.cells) (cs':=p.cells) 1 Z Z Z Z (NR _) Z Z Z ?_)
 refine au ?_
 exact CR (al.cJ 2 3 Z Z Z (an.many (ds:=p.cells) 1 Z Z) Z aa.nil.ah ⟨by rw[zh,hI.t,js,if_pos ⟨hr,hc⟩];rfl,Z⟩)
end Cl
namespace Cl
open Go Vg T Api Ch
attribute [local irreducible] VO VC VA
theorem NJ{c:aW}(h:fp c=0):k_ c=true:=by
 unfold fp at h
 by_cases hc:k_ c=true
 ·exact hc
 ·rw[if_neg hc] at h;exact absurd h yn
theorem oX{c:aW}(h:fp c=0):1≤c.ms.length∧c.ms.length≤6∧1≤c.aB∧c.aB≤1099511627776:=by
 have:=NJ h
 simp[k_,sK] at this
 omega
def rR(m:bj):Bs:=dJ m.1++dJ m.2
theorem QO(m:bj):(rR m).length≤18:=by
 have:=fe m.1
 have:=fe m.2
 rw[rR,a_];omega
theorem zA:∀ms:List bj,(ms.flatMap rR).length≤18*ms.length
 | []=>NR _
 | m::ms=>by
  have:=QO m
  have:=zA ms
  rw[List.flatMap_cons,a_,mh];omega
theorem NG{c:aW}(h:fp c=0):(B6 c).length≤135:=by
 obtain⟨h1,h2,_⟩:=oX h
 have a:=fe c.aB
 have b:=fe (c.ms.length:Int)
 have d:=fe c.drain
 have m:=zA c.ms
 show(dJ c.aB++dJ c.ms.length++c.ms.flatMap rR++dJ c.drain).length≤_
 simp only[a_];omega
theorem N2{c:aW}{a:Option Addr}{cap:Nat}(h:aP aC 2 Fr w a c.ms)(hl:c.ms.length≤1000000):aq Tryz.prog 330 [.agg (c.cells a cap).toArray] Fr w [] (fun v L=>v=.tuple #[.string (bT (if fp c=0 then B6 c else [])),.int .i64 (fp c)]∧L=[]):=by
 refine TF 43 Tryz.func330 Z ym aw Z Z ?_
 refine CS (CG (VG (VB (vs:=c.cells a cap) Z fun b=>VG (VN ?_))))
 refine ae ?_
 refine EG ?_
 refine VG (VV (fun Fr w hF hw _=>Ch.gq Fr w (h.of hF hw) yd) Z ?_)
 refine ae ?_
 refine VC.dd Z (fun h2=>?_) (fun h2=>CK ?_)
 ·refine ae ?_
  exact CR (al.cz 2 3 Z Z Z aa.nil.ah ⟨by rw[if_neg h2];rfl,Z⟩)
 rw[if_pos h2,h2]
 obtain⟨h3,h4,_⟩:=oX h2
 have l1:=fe c.aB
 have l2:=fe (c.ms.length:Int)
 have l3:=fe c.drain
 have l4:=zA c.ms
 refine ae ?_
 refine CD (ts 0 2 (ts 3 3 (.only 2 (.only 6 (ts 7 2 .nil))))) ym yo ?_
 refine bg ?_
 refine AG (AR (fun Fr w hF hs hS=>lu Fr w c.aB) Z Z yv ?_)
 refine AG (AR (fun Fr w hF hs hS=>lu Fr w c.ms.length) Z Z yv ?_)
 refine xr ?_
 rw[←kE]
 refine sh ?_
 refine VC.loop (σ:=Nat) (fun k=>[(1,pV b),(22,.slice a c.ms.length cap),(23,.int .i64 c.ms.length),(24,.int .i64 (k:Int)),(5,.string (bT (dJ c.aB++dJ c.ms.length++(c.ms.take k).flatMap rR)))]) (fun _=>[pt b (c.cells a cap) cX]) (fun k=>k≤c.ms.length) (fun k=>c.ms.length-k) 0
  (bK _) (SC rfl (SC rfl (SC rfl (SC rfl (SC Mf (SN _)))))) ER ?_
 rintro k hk
 refine ae ?_
 refine CP (p:=(k:Int)<c.ms.length) Z (fun h5=>CK ?_) (fun h5=>CX ?_)
 ·obtain⟨m,hm⟩:∃m,c.ms[k]?=some m:=⟨_,GE yd⟩
  obtain⟨mb,mo,hma,ra,rc⟩:=aP.rd (X:=⟨Tryz.prog,tab,aw,43,Fr,w⟩) h hm
  subst hma
  have e:(c.ms.take (k+1)).flatMap rR=(c.ms.take k).flatMap rR++(dJ m.1++dJ m.2):=by rw[fS,hm,List.flatMap_append];simp[rR]
  have l5:=zA (c.ms.take k)
  rw[iT] at l5
  have l6:=fe m.1
  have l7:=fe m.2
  refine nM ?_
  refine tq ?_
  refine VG (VO.alloc Z fun b7=>?_)
  refine VG (VT (vs:=aC m) (cs':=aC m) 0 Z Z Z Z (NR _) Z Z Z ?_)
  refine ae ?_
  refine CD (ts 0 3 (ts 4 2 (.only 3 (.only 6 (ts 7 3 .nil))))) ym yo ?_
  refine bg ?_
  refine AG (AR (fun Fr w hF hs hS=>lu Fr w m.1) Z Z yv ?_)
  refine AG (AR (fun Fr w hF hs hS=>lu Fr w m.2) Z Z yv ?_)
  refine xr ?_
  refine AG (AI Z (nk Z Z (by rw[ByteArray.size_append,gn,gn,gn];simp only[a_];omega)) ?_)
  rw[←kE,←kE]
  refine bg ?_
  refine fx ?_
  refine⟨k+1,by omega,by dsimp only;omega,SC Z (SC Z (SC Z (Sub.int Z yd (SC Mg (SN _))))),(IP 1 Z aa.nil).ah⟩
 obtain rfl:k=c.ms.length:=by omega
 rw[jR]
 refine aj ?_
 refine VG (VV (fun Fr w hF hw _=>lu Fr w c.drain) Z ?_)
 refine A6 ?_
 rw[←kE]
 refine aj ?_
 exact CR (al.cz 2 3 Z Z Z aa.nil.ah ⟨rfl,Z⟩)
end Cl
namespace Cl
open Go Vg T Api Ch
attribute [local irreducible] VO VC VA
def kL(c:aW):aW×Int:=if fX c≠0 then (eG,2) else (⟨c.aB+1,c.ms,c.drain⟩,0)
def vI(r:aW×Int)(v:Value)(L:List HP):Prop:=∃a c,v=.tuple #[.agg (r.1.cells a c).toArray,.int .i64 r.2]∧L=[av aN 2 a r.1.ms.length c (flat aC r.1.ms)]
theorem zg{c:aW}(h:fX c=0):fp c=0∧c.aB≠1099511627776:=by
 unfold fX at h
 split at h
 ·exact absurd h yn
 ·rename_i k
  exact⟨Classical.byContradiction fun e=>k (.inl e),fun e=>k (.inr e)⟩
section
variable {c:aW} {a:Option Addr} {cap:Nat}
theorem O9(h:aP aC 2 Fr w a c.ms)(hl:c.ms.length≤1000000):aq Tryz.prog 316 [.agg (c.cells a cap).toArray] Fr w [] (vI (kL c)):=by
 refine TF 22 Tryz.func316 Z ym aw Z Z ?_
 refine CS (CG (VG (VB (vs:=c.cells a cap) Z fun b=>VG (VO.alloc Z fun b2=>?_))))
 refine ae ?_
 refine tr ?_
 refine VG (VV (fun Fr w hF hw _=>Ch.gq Fr w (h.of hF hw) yd) Z ?_)
 refine au ?_
 have bad:∀{X:Cx} {E:Env} {fn:Func} {ti:TI} {L:List HP},fn.results=#[.cell 2 cX,.tmp 3]→Vg.look E 2=some (.pointer (some ⟨b2,0,none⟩))→Vg.look E 3=some (.int .i64 2)→bD X.tab cX=some ti→ti.ax.agg=true→ti.size=3→fX c≠0→al X fn (vI (kL c)) E (pt b2 (eG.cells none 0) cX::L):=fun h1 h2 h3 h4 h5 h6 h7=>
  al.cJ 2 3 h1 h2 h4 (an.many (ds:=eG.cells none 0) 0 rfl (by rw[h6];rfl) (by rw[h6];rfl) h5) h3 (aa.cN aa.nil).ah (by rw[kL,if_pos h7];exact⟨none,0,rfl,rfl⟩)
 by_cases h1:fp c=0
 rotate_left
 ·have hf:fX c≠0:=by rw[fX,if_pos (.inl h1)];decide
  refine VG (VY 7 true Z (by rw[bne_iff_ne];exact h1) ?_)
  refine iS ?_
  refine Lk ?_
  refine Ll ?_
  refine au ?_
  exact CR (bad Z Z Z Z Z Z hf)
 obtain⟨g1,g2,g3,g4⟩:=oX h1
 refine VG (VY 7 false Z (by rw[bne_eq_false_iff_eq];exact h1) ?_)
 refine iC ?_
 refine CE Z (fun h2=>?_) (fun h2=>CK ?_)
 ·have hf:fX c≠0:=by rw[fX,if_pos (.inr h2)];decide
  refine qX ?_
  refine Ll ?_
  refine au ?_
  exact CR (bad Z Z Z Z Z Z hf)
 have hf:fX c=0:=by rw[fX,if_neg (by simp[h1,h2])]
 refine au ?_
 refine CD (ts 0 5 (ts 6 2 (.only 5 (.take 8 (.only 9 (.take 10 .nil)))))) ym yo ?_
 refine eu ?_
 refine pK ?_
 refine eu ?_
 refine AG (AO (OC (Lc:=[]) (Lr:=[pt b2 (eG.cells none 0) cX,pt b (c.cells a cap) cX]) rfl (.refl _) (fun Fr w hF hs hS=>QL Fr w (h.of hF hs) hl)) rfl (fun v L' g=>by obtain⟨_,⟨_,_,rfl,rfl⟩,rfl⟩:=g;exact gx) ?_)
 rintro _ _ ⟨_,⟨ma,mc,rfl,rfl⟩,rfl⟩
 refine AG (AI Z (LB (pv:=[(0,.int .i64 (c.aB+1)),(1,.slice ma c.ms.length mc),(2,.int .i64 c.drain)]) ((aW.mk (c.aB+1) c.ms c.drain).cells ma mc) Z Z Z ym Z) ?_)
 refine AG (AT (vs:=(aW.mk (c.aB+1) c.ms c.drain).cells ma mc) (cs':=(aW.mk (c.aB+1) c.ms c.drain).cells ma mc) 1 Z Z Z Z Z (NR _) Z Z Z yv ?_)
 refine cG ?_
 exact CR (al.cJ 2 3 Z Z Z (an.many (ds:=(aW.mk (c.aB+1) c.ms c.drain).cells ma mc) 1 Z Z) Z (L':=[av aN 2 ma c.ms.length mc (flat aC c.ms)]) (IP 0 Z aa.nil).ah (by rw[kL,if_neg Bx];exact⟨ma,mc,Z,Z⟩))
theorem Qe(h:aP aC 2 Fr w a c.ms)(hl:c.ms.length≤1000000)(n:Int):aq Tryz.prog 317 [.agg (c.cells a cap).toArray,.int .i64 n] Fr w []
  (fun v L=>v=.tuple #[.int .i64 (if jD c n≠0 then 0 else placeOf c.ms n),.int .i64 (jD c n)]∧L=[]):=by
 refine TF 19 Tryz.func317 Z ym aw Z Z ?_
 refine CS (CG (VG (VB (vs:=c.cells a cap) Z fun b=>?_)))
 refine ae ?_
 refine EG ?_
 refine xe ?_
 rintro _ _ ⟨pb,rfl,rfl⟩
 refine ae ?_
 refine AK ?_
 refine ae ?_
 refine CP Z (fun h1=>?_) (fun h1=>?_)
 ·refine ae ?_
  exact CR (al.cz 4 5 Z Z Z aa.nil.ah ⟨by rw[jD,if_pos h1];rfl,Z⟩)
 refine ae ?_
 refine uX ?_
 refine ae ?_
 refine CE Z (fun h2=>?_) (fun h2=>CK ?_)
 ·have h2:c.ms.length=1:=by omega
  refine ae ?_
  exact CR (al.cz 4 5 Z Z Z aa.nil.ah ⟨by rw[jD,if_neg h1,if_pos h2];rfl,Z⟩)
 have h2:¬c.ms.length=1:=by omega
 refine ae ?_
 exact CR (al.cz 4 5 Z Z Z aa.nil.ah ⟨by rw[jD,if_neg h1,if_neg h2];rfl,Z⟩)
end
end Cl
end Go.Proofs.YtbmakdofbejlnaaGreatDoor
