/- Texts of the proof, put together and shortened. No condition. -/
import Derived.Test.YtkgfhabealjjpaaGreatZh3
set_option maxRecDepth 100000
set_option maxHeartbeats 16000000
set_option linter.unusedVariables false
set_option linter.unusedSectionVars false
set_option linter.unusedSimpArgs false
namespace Go.Proofs.YtkgfhabealjjpaaGreat
variable (Fr : Nat → Prop) (w : World)
namespace Cl
open Go Vg T Api Ch Rep Rd
attribute [local irreducible] VO VC VA
section
variable {p:Nat} {M:aE}
theorem aE.KI{n:Int}(ok:M.Ok)(h:M.isNode n=true):0≤n∧n<6:=by
 have:=ok.n1
 unfold aE.isNode at h
 simp only[dN,decide_eq_true_eq] at h
 omega
theorem Vm(ok:M.Ok)(from_:Int)(f:ay)(g:jv)(now:Int):az Tryz.prog 179 [.pointer (some ⟨p,0,none⟩),.int .i64 from_,.agg (f.cells g).toArray,.int .i64 now] Fr w [cJ p M]
  (fun v L=>nG (M.take from_ f now).2 v L [cJ p (M.take from_ f now).1]):=by
 have hl:=ok.ml
 unfold aE.take
 refine TF 112 Tryz.func179 Z ym aD Z Z ?_
 refine CS (CG (VG (VB (vs:=f.cells g) Z fun fb=>VG (VN ?_))))
 refine VC.bJ 1 Z (ba.au p M) ?_
 rintro⟨a,c⟩ -
 show VC _ _ _ [pt p (c_ M a c) kx,aA aU 2 a M.ch.ms.length c (flat aH M.ch.ms),pt fb (f.cells g) cC] _
 refine ae ?_
 refine A_ ?_
 refine qG ?_
 refine gK ?_
 refine CE Z (fun k7=>?_) (fun k7=>CK ?_)
 ·rw[if_pos k7]
  refine ae ?_
  refine Po ?_
  rintro _ _ ⟨y,rfl,rfl⟩
  refine VG (VO.buildSlice (pv:=[(0,.agg (dF (gu M.ch from_,y)).toArray)]) (dF (gu M.ch from_,y)) Z Z Z Z yo (ji Z Z Z) fun sb=>?_)
  refine ae ?_
  exact Pp
 rw[if_neg k7]
 refine ae ?_
 refine VG (VV (fun Fr w hF hw hS=>LH Fr w (hS.aC 0 Z) from_) Z ?_)
 refine ae ?_
 refine VC.fQ Z (fun hn=>?_) (fun hn=>CK ?_)
 ·rw[if_pos hn]
  refine ae ?_
  exact xU
 rw[if_neg (by rw[hn];decide)]
 obtain⟨j,hj,hj6,hwj⟩:=ok.Dx (aE.KI ok hn)
 refine ae ?_
 refine CD (ts 0 9 .nil) ym yr ?_
 refine jt ?_
 refine gK ?_
 refine CE Z (fun iS=>?_) (fun iS=>?_)
 ·rw[if_pos iS]
  refine ae ?_
  refine CD (ts 0 3 (ts 4 2 (.only 3 (.take 6 (.only 7 .nil))))) ym yr ?_
  refine dp ?_
  refine AG (AR (fun Fr w hF hs hS=>F1 Fr w now) Z Z yu ?_)
  refine H6 ?_
  refine AG (VA.st 0 (cs':=c_ (M.iv from_ now) a c) Z Z Z Z Z (by show 0+5+j*1<_;rw[u_ ok];omega) (by rw[aE.iv,show from_.toNat=j from by omega,←Lp ok hj6];show(c_ M a c).set (0+5+j*1) _=_;rw[show 0+5+j*1=5+j from by omega]) Z yu ?_)
  have ok1:=ok.iv from_ now
  refine dp ?_
  show VC _ _ _ [pt p (c_ (M.iv from_ now) a c) kx,aA aU 2 a (M.iv from_ now).ch.ms.length c (flat aH (M.iv from_ now).ch.ms),pt fb (f.cells g) cC] _
  refine ae ?_
  by_cases he:f.ar=M.ch.ar
  rotate_left
  ·rw[if_pos he]
   refine VC.fQ (t:=false) Qi (fun _=>?_) (fun e=>Bool.noConfusion e)
   refine ae ?_
   refine VG (VK (Lc:=[]) (fun Fr w hF hw hS=>FW (M:=M.iv from_ now) Fr w ok1 (hS.aC 0 Z) (aV.aA cn (hS.at_ 1 Z)) from_) Z Z ?_)
   rintro _ _ ⟨y,rfl,rfl⟩
   refine VG (VO.buildSlice (pv:=[(0,.agg (dF (gu (M.iv from_ now).ch from_,y)).toArray)]) (dF (gu (M.iv from_ now).ch from_,y)) Z Z Z Z yo (ji Z Z Z) fun sb=>?_)
   refine ae ?_
   exact CR (aq.tmp 8 Z Z (Gi (M:=M.iv from_ now) (a:=a) (c:=c) (R:=[_])).ah (Df (x:=(gu M.ch from_,y)) Z Z))
  rw[if_neg (fun h=>h he)]
  refine VC.fQ (t:=true) (by rw[←beq_iff_eq.2 he];rfl) (fun e=>Bool.noConfusion e) (fun _=>CK ?_)
  have hsn:cm (M.iv from_ now).ch from_=cm M.ch from_:=rfl
  refine gK ?_
  by_cases hi:f.index=1
  rotate_left
  ·rw[if_neg (fun h=>hi h.1)]
   refine VG (VY 53 false Z (beq_eq_false_iff_ne.2 hi) ?_)
   refine yF ?_
   exact Pq
  refine VG (VY 53 true Z (beq_iff_eq.2 hi) ?_)
  refine aw ?_
  refine VG (VV (fun Fr w hF hw hS=>LL (M:=M.iv from_ now) Fr w ok1 (hS.aC 0 Z) (aV.aA cn (hS.at_ 1 Z)) from_) Z ?_)
  refine aw ?_
  refine CC Z (fun hm=>?_) (fun hm=>CK ?_)
  ·rw[if_pos ⟨hi,hm⟩]
   refine ae ?_
   refine VG (VI (kq j Z Z Z Z Z hj hj6) ?_)
   refine VG (VO.st 0 (cs':=c_ ((M.iv from_ now).vK from_) a c) Z Z Z Z (by show 0+11+j*1<_;rw[u_ ok1];omega) (by rw[aE.vK,show from_.toNat=j from by omega,←Cr ok1 hj6];show(c_ (M.iv from_ now) a c).set (0+11+j*1) _=_;rw[show 0+11+j*1=11+j from by omega]) Z ?_)
   refine ae ?_
   exact CR (aq.tmp 8 Z Z (ry (M:=(M.iv from_ now).vK from_) (a:=a) (c:=c) (R:=[_])).ah (xv Z Z))
  ·rw[if_neg (fun h=>by rw[hsn] at hm;rw[hm] at h;cases h.2)]
   refine ae ?_
   exact Pq
 rw[if_neg iS]
 refine ae ?_
 refine CE Z (fun k9=>?_) (fun k9=>?_)
 ·rw[if_pos k9]
  refine ae ?_
  by_cases he:f.ar=M.ch.ar
  rotate_left
  ·rw[if_pos he]
   refine VC.fQ (t:=false) Qi (fun _=>?_) (fun e=>Bool.noConfusion e)
   refine ae ?_
   refine Po ?_
   rintro _ _ ⟨y,rfl,rfl⟩
   refine VG (VO.buildSlice (pv:=[(0,.agg (dF (gu M.ch from_,y)).toArray)]) (dF (gu M.ch from_,y)) Z Z Z Z yo (ji Z Z Z) fun sb=>?_)
   refine ae ?_
   exact Pp
  rw[if_neg (fun h=>h he)]
  refine VC.fQ (t:=true) (by rw[←beq_iff_eq.2 he];rfl) (fun e=>Bool.noConfusion e) (fun _=>CK ?_)
  refine ae ?_
  refine A9 ?_
  refine VG (VV (fun Fr w hF hw hS=>AJ Fr w (c:=M.ch) (aV.aA cn (hS.at_ 1 Z)) yd) Z ?_)
  refine ae ?_
  refine CE Z (fun ht=>?_) (fun ht=>CK ?_)
  ·rw[if_pos ht]
   refine gK ?_
   refine VG (VI (LB (pv:=[(0,.int .i64 10),(1,.int .i64 f.ar),(12,.int .i64 f.index)]) ((pB f.ar f.index).cells (none,0,0)) Z Z Z ym Z) ?_)
   refine VG (VO.alloc Z fun b10=>?_)
   refine VG (VT (vs:=(pB f.ar f.index).cells (none,0,0)) (cs':=(pB f.ar f.index).cells (none,0,0)) 0 Z Z Z Z (NR _) Z Z Z ?_)
   refine ae ?_
   refine VG (VL 0 ((pB f.ar f.index).cells (none,0,0)) Z Z Z Z ?_)
   refine VG (VI (LB (pv:=[(0,.int .i64 from_),(1,.agg ((pB f.ar f.index).cells (none,0,0)).toArray)]) (dF ((from_,pB f.ar f.index,[]),(none,0))) Z Z Z ym Z) ?_)
   refine VG (VO.buildSlice (pv:=[(0,.agg (dF ((from_,pB f.ar f.index,[]),(none,0))).toArray)]) (dF ((from_,pB f.ar f.index,[]),(none,0))) Z Z Z Z yo (ji Z Z Z) fun sb=>?_)
   refine ae ?_
   refine CR (aq.tmp 8 Z Z ?_ (Df (x:=((from_,pB f.ar f.index,[]),(none,0))) (sb:=sb) Z Z))
   refine aa.ah (aa.trans (M:=pt sb (dF ((from_,pB f.ar f.index,[]),(none,0))) gJ::iV ((from_,pB f.ar f.index,[]),(none,0))::(nw p M a c ++ [])) ?_ Gi)
   exact IP 0 Z (aa.dM (bm [1,1]))
  ·rw[if_neg ht]
   refine ae ?_
   exact xU
 rw[if_neg k9]
 refine ae ?_
 refine CE Z (fun k12=>?_) (fun k12=>CK ?_)
 rotate_left
 ·rw[if_neg k12]
  refine ae ?_
  exact xU
 rw[if_pos k12]
 refine ae ?_
 by_cases he:f.ar=M.ch.ar
 rotate_left
 ·rw[if_neg (fun h=>he h.1.1)]
  refine VG (VY 90 false Z (beq_eq_false_iff_ne.2 he) ?_)
  refine aw ?_
  refine VG (VY 99 false Z Z ?_)
  refine aw ?_
  refine VG (VY 104 false Z Z ?_)
  refine yF ?_
  exact xU
 refine VG (VY 90 true Z (beq_iff_eq.2 he) ?_)
 refine jG ?_
 by_cases hd:M.ch.drain=from_
 rotate_left
 ·rw[if_neg (fun h=>hd h.1.2)]
  refine VG (VY 99 false Z (beq_eq_false_iff_ne.2 hd) ?_)
  refine aw ?_
  refine VG (VY 104 false Z Z ?_)
  refine yF ?_
  exact xU
 refine VG (VY 99 true Z (beq_iff_eq.2 hd) ?_)
 refine aw ?_
 refine VG (VV (fun Fr w hF hw hS=>FY Fr w ok (hS.aC 0 Z) (aV.aA cn (hS.at_ 1 Z)) from_) Z ?_)
 refine aw ?_
 cases hg:M.mf from_ with
 | false=>
  rw[if_neg (fun h=>Bool.noConfusion h.2.1)]
  refine VG (VY 104 false Z Z ?_)
  refine yF ?_
  exact xU
 | true=>
 refine VG (VY 104 true Z Z ?_)
 refine aw ?_
 refine VO.ah (L':=[cJ p M] ++ [pt fb (f.cells g) cC]) (aa.au (a,c) (bm [0,0,0])).ah ?_
 refine VG (VK (Lc:=[cJ p M]) (fun Fr w hF hw hS=>FZ Fr w ok from_) Z Z ?_)
 rintro _ _ ⟨rfl,rfl⟩
 refine aw ?_
 refine CE Z (fun ho=>?_) (fun ho=>CK ?_)
 ·rw[if_pos ⟨⟨he,hd⟩,rfl,ho⟩]
  have hout:M.out from_=M.gone from_:=by rw[aE.out,if_neg (by rw[ho];decide)]
  rw[hout]
  have ok1:=ok.gone ho
  refine VC.bJ 0 Z (ba.au p (M.gone from_)) ?_
  rintro⟨a1,c1⟩ -
  show VC _ _ _ [pt p (c_ (M.gone from_) a1 c1) kx,aA aU 2 a1 (M.gone from_).ch.ms.length c1 (flat aH (M.gone from_).ch.ms),pt fb (f.cells g) cC] _
  refine ae ?_
  refine VG (VK (Lc:=[]) (fun Fr w hF hw hS=>z_ (M:=M.gone from_) Fr w ok1 (hS.aC 0 Z) (aV.aA cn (hS.at_ 1 Z))) Z Z ?_)
  rintro _ _ ⟨X,sa,sc,hX,rfl,rfl⟩
  refine ae ?_
  exact CR (aq.tmp 8 Z Z (uP (p:=p) (M:=M.gone from_) (a:=a1) (c:=c1) (R:=[_])).ah ⟨X,sa,sc,hX,Z,Z⟩)
 ·rw[if_neg (fun h=>ho h.2.2)]
  have hout:M.out from_=M:=by rw[aE.out,if_pos ho]
  rw[hout]
  refine ae ?_
  exact CR (aq.tmp 8 Z Z ((aa.dM (aa.refl (L:=[cJ p M,pt fb (f.cells g) cC]))).trans (IP 1 Z (IP 0 Z aa.nil))).ah (xv Z Z))
end
end Cl
namespace Cl
open Go Vg T Api Ch Rep Rd
attribute [local irreducible] VO VC VA
def xu(S:List cz)(e:Int)(v:Value)(L:List HP)(H:List HP):Prop:=∃(X:List gM) (a:Option Addr) (c:Nat),X.map Prod.fst=S∧v=.tuple #[.slice a X.length c,.int .i64 e]∧L=H++(aA gJ 30 a X.length c (flat dF X)::X.map iV)
theorem sP{v:Value}{e:Int}{L H:List HP}(hv:v=.tuple #[.slice none 0 0,.int .i64 e])(hL:L=H++(aA gJ 30 none 0 0 (flat dF [])::([]:List gM).map iV)):xu [] e v L H:=⟨[],none,0,rfl,hv,hL⟩
theorem KW{X:Cx}{e:Env}{T:TypeId}{x:Operand}{xs:Array Value}{fs:Array Field}{g:Field}{f:Nat}{v:Value}(hT:X.P.underlying T=some (.struct fs))(hx:ev e x=some (.agg xs))(hf:fs[f]?=some g)
  (hp:∀w:World,(part g.type xs g.offset).run X.P w=.ok v w):fN X (.field T x f) e v:=by
 intro a ha dst ty pos after guard w
 have h:(Instr.field T (.agg xs) f).run X.P w=.ok v w:=by
  simp[Instr.field,run_underlying hT,hf,asAgg,hp w]
 simp[execOp,ha.ev hx,h]
section
variable {p:Nat} {M:aE}
theorem ax.au{X:Cx}{L:List HP}{ti:TI}{M:aE}{off:Nat}{v:Value}(i:Nat)(hL:L[i]?=some (cJ p M))(hv:∀a c,(c_ M a c)[off]?=some v)(ha:ti.aJ.agg=false:=by rfl):ax X L ti p off v:=fun w hw=>by
 obtain⟨F,hs,_,_⟩:=hw.sat
 obtain⟨ids,hid,_⟩:=ei.get hs hL
 obtain⟨x,i1,G,_,h1,_⟩:=hid
 rw[ha];exact GJ h1.2 (hv _ _)
theorem We(M:aE)(n:Int):(M.out n).fI=M.fI:=by unfold aE.out;split<;>rfl
theorem Oe{now:Int}:∀(l:List aR) (x:aE×Bool),x.1.Ok→(aE.watch now l x).1.Ok
 | [],x,h=>h
 | y::l,x,h=>by
  rw[aE.watch]
  refine Oe l _ ?_
  split
  ·rename_i hl
   simp only[aE.late,dN,decide_eq_true_eq] at hl
   exact h.gone hl.2.2
  ·exact h
theorem aE.Ok.tick(ok:M.Ok)(now:Int):(M.tick now).1.Ok:=Oe _ _ ok
theorem Vo(ok:M.Ok)(now:Int):az Tryz.prog 58 [.pointer (some ⟨p,0,none⟩),.int .i64 now] Fr w [cJ p M]
  (fun v L=>nG (M.tick now).2 v L [cJ p (M.tick now).1]):=by
 have hl:=ok.ml
 have htk:=sS now
 unfold aE.tick
 generalize htn:bA now=tn at htk
 refine TF 56 Tryz.func58 Z ym aD Z Z ?_
 refine A8 ?_
 rintro⟨a,c⟩ -
 show VC _ _ _ [pt p (c_ M a c) kx,aA aU 2 a M.ch.ms.length c (flat aH M.ch.ms)] _
 refine ae ?_
 refine A_ ?_
 refine pK ?_
 refine VG (VV (fun Fr w hF hw hS=>F1 Fr w now) Z ?_)
 rw[htn]
 refine ae ?_
 refine A9 ?_
 refine VG (VK (Lc:=[]) (fun Fr w hF hw hS=>Ly Fr w (c:=M.ch) (aV.aA cn (hS.at_ 1 Z)) yd) Z Z ?_)
 rintro _ _ ⟨ca,cc,rfl,rfl⟩
 refine ae ?_
 refine VG (VI (KW (v:=.slice ca M.ch.ms.length cc) Tryz.underlying40 Z Z (fun w=>rz (pR.look aD (t:=38) (ti:=T.t38) Z) Z Z w)) ?_)
 refine ae ?_
 have hml:=ok.ml
 have hmr:=ok.mr
 generalize hms:M.ch.ms=ms at hml hmr
 refine VC.bJ 0 Z (ba.rl aU ca cc ms cn) ?_
 rintro⟨ra,rc,rb,rcs,rxs⟩ ⟨rok,rv,rx⟩
 dsimp only at rx
 subst rx
 injection rv with e1 _ e3
 subst e1 e3
 refine VC.loop (σ:=Nat×aE×Bool) (fun x=>[(0,pV p),(1,.int .i64 tn),(18,.slice ra rxs.length rc),(19,.int .i64 rxs.length),(20,.int .i64 (x.1:Int)),(5,.bool x.2.2)]) (fun x=>[RL.h aU ⟨ra,rc,rb,rcs,rxs⟩,cJ p x.2.1])
  (fun x=>x.1≤rxs.length∧x.2.1.Ok∧aE.watch tn (rxs.drop x.1) x.2=aE.watch tn rxs (M,false)) (fun x=>rxs.length-x.1) (0,M,false)
  ⟨bU _,ok,rfl⟩ aP ?_ ?_
 ·refine(IP 0 Z (aa.au (a,c) ?_)).ah
  unfold nw
  rw[hms]
  exact aa.refl
 rintro⟨k,M1,b⟩ ⟨hk,ok1,hW⟩
 dsimp only at hk ok1 hW ⊢
 refine ae ?_
 refine CP (p:=(k:Int)<rxs.length) Z (fun h1=>CK ?_) (fun h1=>CX ?_)
 rotate_left
 ·rw[List.drop_of_length_le yd] at hW
  rw[←hW]
  show VC _ _ _ _ _
  dsimp only[aE.watch]
  refine ae ?_
  cases b with
  | false=>
   refine uD ?_
   exact CR (aq.tmp 4 Z Z ((aa.dM (aa.refl (L:=[RL.h aU ⟨ra,rc,rb,rcs,rxs⟩,cJ p M1]))).trans (IP 2 Z (IP 0 Z aa.nil))).ah (xv Z Z))
  | true=>
   refine js ?_
   refine VC.bJ 1 Z (ba.au p M1) ?_
   rintro⟨a1,c1⟩ -
   show VC _ _ _ [pt p (c_ M1 a1 c1) kx,aA aU 2 a1 M1.ch.ms.length c1 (flat aH M1.ch.ms),RL.h aU ⟨ra,rc,rb,rcs,rxs⟩] _
   refine ae ?_
   refine VG (VK (Lc:=[]) (fun Fr w hF hw hS=>z_ (M:=M1) Fr w ok1 (hS.aC 0 Z) (aV.aA cn (hS.at_ 1 Z))) Z Z ?_)
   rintro _ _ ⟨X,sa,sc,hX,rfl,rfl⟩
   refine ae ?_
   exact CR (aq.tmp 4 Z Z (uP (p:=p) (M:=M1) (a:=a1) (c:=c1) (R:=[_])).ah ⟨X,sa,sc,hX,Z,Z⟩)
 obtain⟨x,hx⟩:∃x,rxs[k]?=some x:=⟨_,GE yd⟩
 have hdr:rxs.drop k=x::rxs.drop (k+1):=by
  obtain⟨g1,g2⟩:=bY.1 hx
  rw[Bo g1,g2]
 rw[hdr,aE.watch] at hW
 obtain⟨j,hj,hj6,hh,hh0,hh1⟩:=ok1.TP (hmr x (ME hx))
 have hp0:=ok1.p0
 have hp1:=ok1.p1
 obtain⟨tb,tof,htb,hta,hrd⟩:=RL.Ok.ld (t:=aU) (k:=k) (x:=x) rok hx (cn x)
 dsimp only at hta
 subst hta
 refine VC.bJ 1 Z (ba.au p M1) ?_
 rintro⟨a1,c1⟩ -
 show VC _ _ _ [pt p (c_ M1 a1 c1) kx,aA aU 2 a1 M1.ch.ms.length c1 (flat aH M1.ch.ms),RL.h aU ⟨some ⟨tb,tof,none⟩,rc,rb,rcs,rxs⟩] _
 refine CS (VC.dX (σ:=aE×Bool) (fun x=>[(0,pV p),(1,.int .i64 tn),(18,.slice (some ⟨tb,tof,none⟩) rxs.length rc),(19,.int .i64 rxs.length),(20,.int .i64 (k:Int)),(5,.bool x.2)]) (fun x=>[RL.h aU ⟨some ⟨tb,tof,none⟩,rc,rb,rcs,rxs⟩,cJ p x.1]) (fun y=>y.1.Ok∧y=if M1.late tn x.1 then (M1.gone x.1,true) else (M1,b)) ?_ ?_)
 rotate_left
 ·rintro⟨M2,b2⟩ ⟨ok2,hy⟩
  refine fL ?_
  exact⟨(k+1,M2,b2),⟨by omega,ok2,by dsimp only;rw[hy];exact hW⟩,by dsimp only;omega,SC Z (SC Z (SC Z (SC Z (Sub.int Z f_ aP)))),ER⟩
 refine pL ?_
 refine VG (VO.load Z Z ((hrd 2 Z).1 _ Z Z) ?_)
 refine VG (VO.alloc Z fun b7=>?_)
 refine DR ?_
 refine ae ?_
 refine CD (ts 0 18 (.only 18 (ts 19 5 (.only 24 (ts 25 2 .nil))))) ym yr ?_
 refine ju ?_
 refine H6 ?_
 have hcell:(c_ M1 a1 c1)[0+5+j*1]?=some (.int .i64 (M1.rj x.1)):=by rw[show 0+5+j*1=5+j from by omega];exact Lo ok1 hh
 refine AG (VA.ld 1 Z Z Z Z hcell ?_)
 refine xM ?_
 refine ju ?_
 by_cases g1:M1.fI<tn-M1.rj x.1
 rotate_left
 ·refine AG (AY 38 false Z (DF g1) ?_)
  refine ju ?_
  refine pH ?_
  refine ju ?_
  refine AG (AY 44 false Z Z ?_)
  refine ju ?_
  refine pH ?_
  refine ju ?_
  refine js ?_
  exact⟨(M1,b),⟨ok1,by rw[if_neg];rw[aE.late,DF g1,kF];exact pM⟩,aP,(IP 3 Z (aa.au (a1,c1) (bm [1,1]))).ah⟩
 refine AG (AY 38 true Z (DT g1) ?_)
 refine ju ?_
 refine AG (AR (fun Fr w hF hw hS=>FY Fr w ok1 (hS.aC 1 Z) (aV.aA cn (hS.at_ 2 Z)) x.1) Z Z (by(try refine Pd.st ?_);(repeat(first|exact Pd.nil|exact Pd.fnil|refine Pd.inner ?_|refine Pd.skip yr ?_|refine zf (zo 0 Z Z) ?_|refine zf (zo 1 Z Z) ?_|refine zf (zm 0 Z Z) ?_|refine zf (zm 1 Z Z) ?_|refine zf (ax.aC (ax.one 1 Z hcell) Z) ?_|refine zf ((ax.one 1 Z hcell)) ?_|refine zc (zo 0 Z Z) ?_|refine zc (zo 1 Z Z) ?_|refine zc (zm 0 Z Z) ?_|refine zc (zm 1 Z Z) ?_|refine zc (ax.aC (ax.one 1 Z hcell) Z) ?_|refine zc ((ax.one 1 Z hcell)) ?_))) ?_)
 refine ju ?_
 cases g2:M1.mf x.1 with
 | false=>
  refine AG (AY 44 false Z Z ?_)
  refine ju ?_
  refine pH ?_
  refine ju ?_
  refine js ?_
  exact⟨(M1,b),⟨ok1,by rw[if_neg];rw[aE.late,g2,kF,ki];exact pM⟩,aP,(IP 3 Z (aa.au (a1,c1) (bm [1,1]))).ah⟩
 | true=>
 refine AG (AY 44 true Z Z ?_)
 refine ju ?_
 refine VA.ah (L':=[cJ p M1] ++ [RL.h aU ⟨some ⟨tb,tof,none⟩,rc,rb,rcs,rxs⟩,pt b7 (aH x) aU]) (aa.au (a1,c1) (bm [1,1,1,0])).ah ?_
 have ok2:=ok1.out x.1
 have hh2:(M1.out x.1).heard[j]?=some (M1.rj x.1):=by unfold aE.out;split<;>exact hh
 have q7:∀a c,(c_ (M1.out x.1) a c)[0+5+j*1]?=some (.int .i64 (M1.rj x.1)):=fun a c=>by rw[show 0+5+j*1=5+j from by omega];exact Lo ok2 hh2
 have q12:∀a c,(c_ (M1.out x.1) a c)[1]?=some (.int .i64 M1.fI):=fun a c=>by rw[←We M1 x.1];rfl
 refine AG (AO (OC (Lc:=[cJ p M1]) (Lr:=[RL.h aU ⟨some ⟨tb,tof,none⟩,rc,rb,rcs,rxs⟩,pt b7 (aH x) aU]) rfl (.refl _) (fun Fr w hF hw hS=>FZ Fr w ok1 x.1)) rfl (fun v L' g=>by obtain⟨_,⟨rfl,rfl⟩,rfl⟩:=g;exact(by(try refine Pd.st ?_);(repeat(first|exact Pd.nil|exact Pd.fnil|refine Pd.inner ?_|refine Pd.skip yr ?_|refine zf (zo 0 rfl rfl) ?_|refine zf (zo 1 rfl rfl) ?_|refine zf (zo 2 rfl rfl) ?_|refine zf (zm 0 rfl rfl) ?_|refine zf (zm 1 rfl rfl) ?_|refine zf (zm 2 rfl rfl) ?_|refine zf (ax.aC (ax.au 0 rfl q7) rfl) ?_|refine zf (ax.aC (ax.au 0 rfl q12) rfl) ?_|refine zf ((ax.au 0 rfl q7)) ?_|refine zf ((ax.au 0 rfl q12)) ?_|refine zc (zo 0 rfl rfl) ?_|refine zc (zo 1 rfl rfl) ?_|refine zc (zo 2 rfl rfl) ?_|refine zc (zm 0 rfl rfl) ?_|refine zc (zm 1 rfl rfl) ?_|refine zc (zm 2 rfl rfl) ?_|refine zc (ax.aC (ax.au 0 rfl q7) rfl) ?_|refine zc (ax.aC (ax.au 0 rfl q12) rfl) ?_|refine zc ((ax.au 0 rfl q7)) ?_|refine zc ((ax.au 0 rfl q12)) ?_)))) ?_)
 rintro _ _ ⟨_,⟨rfl,rfl⟩,rfl⟩
 refine fi ?_
 refine CE Z (fun ho=>?_) (fun ho=>CK ?_)
 ·have hout:M1.out x.1=M1.gone x.1:=by rw[aE.out,if_neg (by rw[ho];decide)]
  rw[hout]
  refine ae ?_
  exact⟨(M1.gone x.1,true),⟨ok1.gone ho,by rw[if_pos];rw[aE.late,DT g1,g2,DT ho];rfl⟩,aP,(bm [1,0]).ah⟩
 ·have hout:M1.out x.1=M1:=by rw[aE.out,if_pos ho]
  rw[hout]
  exact⟨(M1,b),⟨ok1,by rw[if_neg];rw[aE.late,DF ho,ki,ki];exact pM⟩,aP,(bm [1,0]).ah⟩
end
end Cl
namespace Cl
open Go Vg T Api Ch Rep Rd Conf
attribute [local irreducible] VO VC VA
section
variable {p:Nat} {M:aE}
theorem aE.Ok.fC(ok:M.Ok){n:Int}(h:(e8 M.ch n).2=0)(now:Int):(M.fC n now).Ok:=by
 obtain⟨h1,h2,h3,e⟩:=xJ h
 obtain⟨g1,g2,_⟩:=qV (B6 h1).1
 have e1:(M.fC n now).ch=⟨M.ch.ar+1,M.ch.ms ++ [(n,M.ch.ar+1)],M.ch.drain⟩:=by show(e8 M.ch n).1=_;rw[e]
 refine⟨ok.n0,ok.n1,ok.p0,ok.p1,?_,?_,by show(M.heard.set _ _).length=6;rw[iB,ok.hl],by show(M.whole.set _ _).length=6;rw[iB,ok.wl],fun x hx=>?_⟩
 ·rw[e1];simp;omega
 ·rw[e1]
  intro x hx
  rcases ez.1 hx with hx | hx
  ·exact ok.mr x hx
  ·obtain rfl:=eA.1 hx
   simp[ow] at h2
   exact h2
 ·rcases lP hx with h | h
  ·exact ok.hr x h
  ·rw[h];exact sS now
theorem aE.Ok.iH(ok:M.Ok){n:Int}(h:(gh M.ch n).2=0):(M.iH n).Ok:=by
 obtain⟨h1,h2,h3,e⟩:=zr h
 have e1:(M.iH n).ch=⟨M.ch.ar+1,M.ch.ms,n⟩:=by show(gh M.ch n).1=_;rw[e]
 exact⟨ok.n0,ok.n1,ok.p0,ok.p1,by rw[e1];exact ok.ml,by rw[e1];exact ok.mr,ok.hl,ok.wl,ok.hr⟩
theorem NB{n:Int}(hm:(cm M.ch n).2=false):M.eQ n=(M,[],4)∧M.drain n=(M,[],4):=by unfold aE.eQ aE.drain aE.qj;simp[hm]
theorem NC{n:Int}(hm:(cm M.ch n).2=true)(hg:M.mf n=false):M.eQ n=(M,[],72)∧M.drain n=(M,[],72):=by unfold aE.eQ aE.drain aE.qj;simp[hm,hg]
theorem Yj{n:Int}(hm:(cm M.ch n).2=true)(hg:M.mf n=true)(ho:M.kB n≠0):M.eQ n=(M,[],M.kB n):=by unfold aE.eQ aE.qj;simp[hm,hg,ho]
theorem Yi{n:Int}(hm:(cm M.ch n).2=true)(hg:M.mf n=true)(ho:M.kB n=0):M.eQ n=(M.gone n,(M.gone n).all,0):=by unfold aE.eQ aE.qj;simp[hm,hg,ho]
theorem Sm{n:Int}(hm:(cm M.ch n).2=true)(hg:M.mf n=true)(ho:(gh M.ch n).2≠0):M.drain n=(M,[],(gh M.ch n).2):=by unfold aE.drain aE.qj;simp[hm,hg,ho]
theorem Sl{n:Int}(hm:(cm M.ch n).2=true)(hg:M.mf n=true)(ho:(gh M.ch n).2=0):M.drain n=(M.iH n,(M.iH n).all,0):=by unfold aE.drain aE.qj;simp[hm,hg,ho]
theorem Vj(ok:M.Ok)(n:Int):az Tryz.prog 62 [.pointer (some ⟨p,0,none⟩),.int .i64 n] Fr w [cJ p M]
  (fun v L=>xu (M.eQ n).2.1 (M.eQ n).2.2 v L [cJ p (M.eQ n).1]):=by
 have hl:=ok.ml
 refine TF 29 Tryz.func62 Z ym aD Z Z ?_
 refine A8 ?_
 rintro⟨a,c⟩ -
 show VC _ _ _ [pt p (c_ M a c) kx,aA aU 2 a M.ch.ms.length c (flat aH M.ch.ms)] _
 refine ae ?_
 refine A_ ?_
 refine ae ?_
 refine qC ?_
 refine ae ?_
 refine Pr ?_
 refine ae ?_
 refine VC.fQ Z (fun hm=>?_) (fun hm=>?_)
 ·refine ae ?_
  exact CR (aq.dh 4 5 Z Z Z (ry (a:=a) (c:=c) (R:=[])).ah (by rw[(NB hm).1];exact sP Z Z))
 refine ae ?_
 refine Ps ?_
 refine ae ?_
 refine VC.fQ Z (fun hg=>?_) (fun hg=>CK ?_)
 ·refine ae ?_
  exact CR (aq.dh 4 5 Z Z Z (ry (a:=a) (c:=c) (R:=[])).ah (by rw[(NC hm hg).1];exact sP Z Z))
 refine CN (L':=[cJ p M]) (aa.au (a,c) (aa.refl)).ah ?_
 refine ae ?_
 refine VG (VK (Lc:=[cJ p M]) (fun Fr w hF hw hS=>FZ Fr w ok n) Z Z ?_)
 rintro _ _ ⟨rfl,rfl⟩
 refine ae ?_
 refine VC.dH Z (fun ho=>?_) (fun ho=>CK ?_)
 ·have hout:M.out n=M:=by rw[aE.out,if_pos ho]
  rw[hout]
  refine ae ?_
  exact CR (aq.dh 4 5 Z Z Z ((aa.dM (aa.refl (L:=[cJ p M]))).trans (IP 1 Z aa.refl)).ah (by rw[Yj hm hg ho];exact sP Z Z))
 have hout:M.out n=M.gone n:=by rw[aE.out,if_neg (by rw[ho];decide)]
 rw[hout]
 have ok1:=ok.gone ho
 refine VC.bJ 0 Z (ba.au p (M.gone n)) ?_
 rintro⟨a1,c1⟩ -
 show VC _ _ _ [pt p (c_ (M.gone n) a1 c1) kx,aA aU 2 a1 (M.gone n).ch.ms.length c1 (flat aH (M.gone n).ch.ms)] _
 refine ae ?_
 refine VG (VK (Lc:=[]) (fun Fr w hF hw hS=>z_ (M:=M.gone n) Fr w ok1 (hS.aC 0 Z) (aV.aA cn (hS.at_ 1 Z))) Z Z ?_)
 rintro _ _ ⟨X,sa,sc,hX,rfl,rfl⟩
 refine ae ?_
 exact CR (aq.dh 4 5 Z Z Z (uP (p:=p) (M:=M.gone n) (a:=a1) (c:=c1) (R:=[])).ah (by rw[Yi hm hg ho];exact⟨X,sa,sc,hX,Z,Z⟩))
theorem UZ(ok:M.Ok)(n:Int):az Tryz.prog 64 [.pointer (some ⟨p,0,none⟩),.int .i64 n] Fr w [cJ p M]
  (fun v L=>xu (M.drain n).2.1 (M.drain n).2.2 v L [cJ p (M.drain n).1]):=by
 have hl:=ok.ml
 refine TF 40 Tryz.func64 Z ym aD Z Z ?_
 refine A8 ?_
 rintro⟨a,c⟩ -
 show VC _ _ _ [pt p (c_ M a c) kx,aA aU 2 a M.ch.ms.length c (flat aH M.ch.ms)] _
 refine ae ?_
 refine A_ ?_
 refine ae ?_
 refine qC ?_
 refine ae ?_
 refine Pr ?_
 refine ae ?_
 refine VC.fQ Z (fun hm=>?_) (fun hm=>?_)
 ·refine ae ?_
  exact CR (aq.dh 4 5 Z Z Z (ry (a:=a) (c:=c) (R:=[])).ah (by rw[(NB hm).2];exact sP Z Z))
 refine ae ?_
 refine Ps ?_
 refine ae ?_
 refine VC.fQ Z (fun hg=>?_) (fun hg=>CK ?_)
 ·refine ae ?_
  exact CR (aq.dh 4 5 Z Z Z (ry (a:=a) (c:=c) (R:=[])).ah (by rw[(NC hm hg).2];exact sP Z Z))
 refine aj ?_
 refine A9 ?_
 refine ae ?_
 refine VG (VK (Lc:=[]) (fun Fr w hF hw hS=>Sp Fr w (c:=M.ch) (aV.aA cn (hS.at_ 1 Z)) yd n) Z Z ?_)
 rintro _ _ ⟨wa,wc,rfl,rfl⟩
 refine aw ?_
 refine VG (VO.alloc Z fun b6=>?_)
 refine VG (VT (vs:=(gh M.ch n).1.cells wa wc) (cs':=(gh M.ch n).1.cells wa wc) 0 Z Z Z Z (NR _) Z Z Z ?_)
 refine aw ?_
 refine VC.dH Z (fun ho=>?_) (fun ho=>CK ?_)
 ·refine aw ?_
  refine CR (aq.dh 4 5 Z Z Z ?_ (by rw[Sm hm hg ho];exact sP Z Z))
  exact(aa.trans (M:=nw p M a c ++ []) (bm [2,2]) ry).ah
 have ok1:=ok.iH ho
 refine aw ?_
 refine VG (VL 0 ((gh M.ch n).1.cells wa wc) Z Z Z Z ?_)
 refine aw ?_
 refine VG (VT (vs:=(gh M.ch n).1.cells wa wc) (cs':=c_ (M.iH n) wa wc) 2 Z Z Z Z IE Z Z Z ?_)
 refine VO.ah (L':=[pt p (c_ (M.iH n) wa wc) kx,aA aU 2 wa (M.iH n).ch.ms.length wc (flat aH (M.iH n).ch.ms)]) (bm [2,1]).ah ?_
 refine aw ?_
 refine VG (VK (Lc:=[]) (fun Fr w hF hw hS=>z_ (M:=M.iH n) Fr w ok1 (hS.aC 0 Z) (aV.aA cn (hS.at_ 1 Z))) Z Z ?_)
 rintro _ _ ⟨X,sa,sc,hX,rfl,rfl⟩
 refine ae ?_
 exact CR (aq.dh 4 5 Z Z Z (uP (p:=p) (M:=M.iH n) (a:=wa) (c:=wc) (R:=[])).ah (by rw[Sl hm hg ho];exact⟨X,sa,sc,hX,Z,Z⟩))
theorem TX{n now:Int}(h:M.isNode n=false):M.join n now=(M,[],2):=by unfold aE.join;simp[h]
theorem TY{n now:Int}(h:M.isNode n=true)(ho:(e8 M.ch n).2≠0):M.join n now=(M,[],(e8 M.ch n).2):=by unfold aE.join;simp[h,ho]
theorem TW{n now:Int}(h:M.isNode n=true)(ho:(e8 M.ch n).2=0):M.join n now=(M.fC n now,(M.fC n now).all,0):=by unfold aE.join;simp[h,ho]
theorem Vc(ok:M.Ok)(n now:Int):az Tryz.prog 117 [.pointer (some ⟨p,0,none⟩),.int .i64 n,.int .i64 now] Fr w [cJ p M]
  (fun v L=>xu (M.join n now).2.1 (M.join n now).2.2 v L [cJ p (M.join n now).1]):=by
 have hl:=ok.ml
 refine TF 49 Tryz.func117 Z ym aD Z Z ?_
 refine A8 ?_
 rintro⟨a,c⟩ -
 show VC _ _ _ [pt p (c_ M a c) kx,aA aU 2 a M.ch.ms.length c (flat aH M.ch.ms)] _
 refine ae ?_
 refine A_ ?_
 refine ae ?_
 refine qC ?_
 refine ae ?_
 refine VG (VV (fun Fr w hF hw hS=>LH Fr w (hS.aC 0 Z) n) Z ?_)
 refine ae ?_
 refine VC.fQ Z (fun hn=>?_) (fun hn=>CK ?_)
 ·refine ae ?_
  exact CR (aq.dh 6 7 Z Z Z (ry (a:=a) (c:=c) (R:=[])).ah (by rw[TX hn];exact sP Z Z))
 obtain⟨j,hj,hj6,_⟩:=ok.Dx (aE.KI ok hn)
 refine aj ?_
 refine A9 ?_
 refine ae ?_
 refine VG (VK (Lc:=[]) (fun Fr w hF hw hS=>acg Fr w (c:=M.ch) (aV.aA cn (hS.at_ 1 Z)) yd n) Z Z ?_)
 rintro _ _ ⟨wa,wc,rfl,rfl⟩
 refine aw ?_
 refine VG (VO.alloc Z fun b6=>?_)
 refine VG (VT (vs:=(e8 M.ch n).1.cells wa wc) (cs':=(e8 M.ch n).1.cells wa wc) 0 Z Z Z Z (NR _) Z Z Z ?_)
 refine aw ?_
 refine VC.dH Z (fun ho=>?_) (fun ho=>CK ?_)
 ·refine aw ?_
  refine CR (aq.dh 6 7 Z Z Z ?_ (by rw[TY hn ho];exact sP Z Z))
  exact(aa.trans (M:=nw p M a c ++ []) (bm [2,2]) ry).ah
 have ok1:=ok.fC ho now
 have ok2:({ M with ch:=(e8 M.ch n).1 }:aE).Ok:=⟨ok1.n0,ok1.n1,ok1.p0,ok1.p1,ok1.ml,ok1.mr,ok.hl,ok.wl,ok.hr⟩
 have ok3:({ M with ch:=(e8 M.ch n).1,whole:=M.whole.set j false }:aE).Ok:=⟨ok1.n0,ok1.n1,ok1.p0,ok1.p1,ok1.ml,ok1.mr,ok.hl,by show(M.whole.set _ _).length=6;rw[iB,ok.wl],ok.hr⟩
 refine aw ?_
 refine VG (VL 0 ((e8 M.ch n).1.cells wa wc) Z Z Z Z ?_)
 refine aw ?_
 refine VG (VT (vs:=(e8 M.ch n).1.cells wa wc) (cs':=c_ { M with ch:=(e8 M.ch n).1 } wa wc) 2 Z Z Z Z IE Z Z Z ?_)
 refine aw ?_
 refine VG (VI (kq j Z Z Z Z Z hj hj6) ?_)
 refine VG (VO.st 2 (cs':=c_ { M with ch:=(e8 M.ch n).1,whole:=M.whole.set j false } wa wc) Z Z Z Z (by show 0+11+j*1<_;rw[u_ ok2];omega) (by show(c_ ({ M with ch:=(e8 M.ch n).1 }:aE) wa wc).set (0+11+j*1) _=_;rw[show 0+11+j*1=11+j from by omega,Cr ok2 hj6]) Z ?_)
 refine aw ?_
 refine CD (ts 0 3 (ts 4 2 (.only 3 (.take 6 (.only 7 .nil))))) ym yr ?_
 refine dp ?_
 refine AG (AR (fun Fr w hF hs hS=>F1 Fr w now) Z Z yu ?_)
 refine H6 ?_
 refine AG (VA.st 2 (cs':=c_ (M.fC n now) wa wc) Z Z Z Z Z (by show 0+5+j*1<_;rw[u_ ok3];omega) (by show(c_ ({ M with ch:=(e8 M.ch n).1,whole:=M.whole.set j false }:aE) wa wc).set (0+5+j*1) _=_;rw[show 0+5+j*1=5+j from by omega,Lp ok3 hj6,aE.fC,show n.toNat=j from by omega]) Z yu ?_)
 refine dp ?_
 refine CN (L':=[pt p (c_ (M.fC n now) wa wc) kx,aA aU 2 wa (M.fC n now).ch.ms.length wc (flat aH (M.fC n now).ch.ms)]) (bm [2,1]).ah ?_
 refine aw ?_
 refine VG (VK (Lc:=[]) (fun Fr w hF hw hS=>z_ (M:=M.fC n now) Fr w ok1 (hS.aC 0 Z) (aV.aA cn (hS.at_ 1 Z))) Z Z ?_)
 rintro _ _ ⟨X,sa,sc,hX,rfl,rfl⟩
 refine ae ?_
 exact CR (aq.dh 6 7 Z Z Z (uP (p:=p) (M:=M.fC n now) (a:=wa) (c:=wc) (R:=[])).ah (by rw[TW hn ho];exact⟨X,sa,sc,hX,Z,Z⟩))
theorem UW(ok:M.Ok){a:Option Addr}{c:Nat}(h:bu Fr w p (c_ M a c))(hm:aV aH 2 Fr w a M.ch.ms):az Tryz.prog 10 [.pointer (some ⟨p,0,none⟩)] Fr w []
  (fun v L=>∃a' c',v=.agg (M.ch.cells a' c').toArray∧L=[aA aU 2 a' M.ch.ms.length c' (flat aH M.ch.ms)]):=by
 have hl:=ok.ml
 refine TF 12 Tryz.func10 Z ym aD Z Z ?_
 refine CS (CG (VG (VO.alloc Z fun d=>?_)))
 refine ae ?_
 refine VG (VV (fun Fr w hF hw hS=>LK Fr w ok (h.of hF hw)) Z ?_)
 refine pK ?_
 refine H5 ?_
 refine Pn ?_
 rintro _ _ ⟨ma,mc,rfl,rfl⟩
 refine VG (VT (vs:=M.ch.cells ma mc) (cs':=M.ch.cells ma mc) 1 Z Z Z Z (NR _) Z Z Z ?_)
 refine ae ?_
 exact CR (aq.cell 2 Z Z Z (ax.many 1 Z Z) (IP 0 Z aa.nil).ah ⟨ma,mc,Z,Z⟩)
end
end Cl
namespace Cl
open Go Vg T Api Ch Rep Rd Conf Sched
attribute [local irreducible] VO VC VA
def AU(k:Nat):List Bool:=(List.range 6).map fun(i:Nat)=>decide (i<k)
def sF(c:bh)(k:Nat):aE:=⟨c.nodes,c.fI,b_ c,List.replicate 6 0,AU k⟩
theorem acb{k:Nat}(h:k<6):(AU k).set k true=AU (k+1):=by
 rcases(by omega:k=0∨k=1∨k=2∨k=3∨k=4∨k=5) with rfl | rfl | rfl | rfl | rfl | rfl<;>rfl
theorem wH{c:bh}(h:c=bI c):(4≤c.fI∧c.fI≤64)∧(4≤c.timeout∧c.timeout≤64)∧(0≤c.gr∧c.gr≤16)∧(1≤c.fE∧c.fE≤1099511627776)∧(4≤c.link∧c.link≤64)∧(1≤c.qs.length∧c.qs.length≤4):=by
 have e1:c.fI=aG c.fI 4 64:=congrArg bh.fI h
 have e2:c.timeout=aG c.timeout 4 64:=congrArg bh.timeout h
 have e3:c.gr=aG c.gr 0 16:=congrArg bh.gr h
 have e4:c.fE=aG c.fE 1 1099511627776:=congrArg bh.fE h
 have e5:c.link=aG c.link 4 64:=congrArg bh.link h
 have e6:c.qs=ft c.qs:=congrArg bh.qs h
 have n1:=mN (x:=c.fI) (lo:=4) (hi:=64) yo
 have n2:=mN (x:=c.timeout) (lo:=4) (hi:=64) yo
 have n3:=mN (x:=c.gr) (lo:=0) (hi:=16) yo
 have n4:=mN (x:=c.fE) (lo:=1) (hi:=1099511627776) yo
 have n5:=mN (x:=c.link) (lo:=4) (hi:=64) yo
 have n6:=Ao c.qs
 rw[←e6] at n6
 omega
theorem LZ{c:bh}(h:c=bI c)(k:Nat):(sF c k).Ok:=by
 obtain⟨b1,b2,_⟩:=lX h
 obtain⟨b3,_⟩:=wH h
 refine⟨b1.1,b1.2,by show 0≤c.fI;omega,by show c.fI≤_;omega,?_,?_,Z,Z,fun x hx=>?_⟩
 ·show(jj c.chain.toNat).length≤7;rw[uU];omega
 ·intro x hx
  obtain⟨i,hi,rfl⟩:=bP.1 (show x∈(List.range c.chain.toNat).map _ from hx)
  have:=o6.1 hi
  dsimp only;omega
 ·obtain rfl:=List.eq_of_mem_replicate hx
  decide
theorem LY(c:bh)(h:c=bI c):sF c c.chain.toNat=qm c:=by
 obtain⟨b1,b2,_⟩:=lX h
 unfold sF qm AU
 congr 1
 refine List.map_congr_left fun i hi=>?_
 by_cases e:(i:Int)<c.chain
 ·rw[DT e,DT yd]
 ·rw[DF e,DF yd]
theorem S8{n k:Nat}(h:k<n):(jj n)[k]?=some ((k:Int),(1:Int)):=by
 unfold jj
 rw[eh,List.getElem?_range h];rfl
theorem Vf(c:bh){qa:Option Addr}{qc:Nat}(hq:iD Fr w qa c.qs)(hqa:oG qa)(hqc:c.qs.length≤qc):
  az Tryz.prog 19 [.agg (c.cells qa qc).toArray] Fr w [] (fun v L=>if c=bI c then ∃p,v=.tuple #[.pointer (some ⟨p,0,none⟩),.int .i64 0]∧L=[cJ p (qm c)] else v=.tuple #[.pointer none,.int .i64 2]∧L=[]):=by
 refine TF 38 Tryz.func19 Z ym aD Z Z ?_
 refine CS (CG (VG (VB (vs:=c.cells qa qc) Z fun b1=>VG (VN ?_))))
 refine IL ?_
 refine VG (VK (Lc:=[]) (fun Fr w hF hs _=>Kq Fr w c qa qc (oh hq hF hs) hqa hqc) Z Z ?_)
 rintro v L1 h
 by_cases hf:c=bI c
 rotate_left
 ·rw[if_neg hf] at h
  obtain⟨rfl,rfl⟩:=h
  refine aw ?_
  refine VG (VO.alloc Z fun b4=>?_)
  refine HV ?_
  refine kE ?_
  exact CR (aq.dh 2 3 Z Z Z aa.nil.ah Qj)
 rw[if_pos hf] at h
 obtain⟨a,n,rfl,rfl⟩:=h
 obtain⟨b1',b2',_⟩:=lX hf
 have hlen:(b_ c).ms.length=c.chain.toNat:=uU _
 refine aw ?_
 refine VG (VO.alloc Z fun b4=>?_)
 refine VG (VT (vs:=(b_ c).cells a n) (cs':=(b_ c).cells a n) 0 Z Z Z Z (NR _) Z Z Z ?_)
 refine kh ?_
 refine jG ?_
 refine VG (VL 0 ((b_ c).cells a n) Z Z Z Z ?_)
 refine VG (VI (LB (pv:=[(0,.int .i64 c.nodes),(1,.int .i64 c.fI),(2,.agg ((b_ c).cells a n).toArray)]) (c_ (sF c 0) a n) Z Z Z ym Z) ?_)
 refine VG (VB (vs:=c_ (sF c 0) a n) Z fun q=>?_)
 refine g_ ?_
 have hq2:∀(i:Nat) (x:aR),(b_ c).ms[i]?=some x→x=((i:Int),(1:Int)):=fun i x hx=>by
  have hi:=(bY.1 hx).1
  rw[hlen] at hi
  have:=S8 hi
  rw[show(b_ c).ms=jj c.chain.toNat from rfl,this] at hx
  exact(oF hx).symm
 refine CN (L':=[aA aU 2 a (b_ c).ms.length n (flat aH (b_ c).ms),pt q (c_ (sF c 0) a n) kx]) (bm [2,0]).ah ?_
 generalize hms:(b_ c).ms=ms at hlen hq2
 refine VC.bJ 0 Z (ba.sl _ _ _ _ _ _) ?_
 rintro(_ | ⟨mb,rest⟩) ⟨hx1,hx2,hx3⟩
 ·obtain⟨_,h0,_⟩:=hx3
  omega
 obtain⟨rfl,hx4⟩:=hx3
 dsimp only
 refine VC.loop (σ:=Nat) (fun k=>[(6,pV q),(24,.slice (some ⟨mb,0,none⟩) ms.length n),(25,.int .i64 ms.length),(26,.int .i64 (k:Int))]) (fun k=>[pt mb (flat aH ms++rest) aU,pt q (c_ (sF c k) (some ⟨mb,0,none⟩) n) kx]) (fun k=>k≤ms.length) (fun k=>ms.length-k) 0
  (bU _) aP ER ?_
 rintro k hk
 refine ae ?_
 refine CP (p:=(k:Int)<ms.length) Z (fun h1=>CK ?_) (fun h1=>CX ?_)
 rotate_left
 ·obtain rfl:k=ms.length:=by omega
  refine ae ?_
  refine CR (aq.dh 2 3 Z Z Z (L':=[cJ q (qm c)]) ?_ (by rw[if_pos hf];exact⟨q,Z,Z⟩))
  rw[←LY c hf,←hlen]
  refine(aa.au (some ⟨mb,0,none⟩,n) (IP 1 Z ?_)).ah
  show aa [pt mb (flat aH ms++rest) aU] [aA aU 2 (some ⟨mb,0,none⟩) (b_ c).ms.length n (flat aH (b_ c).ms)]
  rw[hms]
  exact aa.sl hx1 hx2 (by simpa using hx4) aa.refl
 obtain⟨x,hx⟩:∃x,ms[k]?=some x:=⟨_,GE yd⟩
 obtain rfl:=hq2 k x hx
 have hk6:k<6:=by omega
 have ok:=LZ hf k
 refine pL ?_
 refine VG (VL 0 (aH ((k:Int),1)) Z Z Z (by show((flat aH ms++rest).drop (0+k*2)).take 2=_;rw[di];exact ph cn hx rest) ?_)
 refine VG (VO.alloc Z fun b8=>?_)
 refine VG (VT (vs:=aH ((k:Int),1)) (cs':=aH ((k:Int),1)) 0 Z Z Z Z (NR _) Z Z Z ?_)
 refine ae ?_
 refine DK ?_
 refine bt ?_
 refine AG (AI Z (kq k Z Z Z Z Z Z hk6) ?_)
 refine AG (VA.st 2 (cs':=c_ (sF c (k+1)) (some ⟨mb,0,none⟩) n) Z Z Z Z Z (by show 0+11+k*1<_;rw[u_ ok];omega) (by show(c_ (sF c k) _ n).set (0+11+k*1) _=_;rw[show 0+11+k*1=11+k from by omega,Cr ok hk6];show c_ ⟨_,_,_,_,(AU k).set k true⟩ _ _=_;rw[acb hk6];rfl) Z yu ?_)
 refine dp ?_
 refine fL ?_
 exact⟨k+1,by omega,by dsimp only;omega,SC Z (SC Z (SC Z (Sub.int Z yd (SN _)))),(bm [1,1]).ah⟩
end Cl
namespace Cl
open Go Vg T Api Ch Rep
attribute [local irreducible] VO VC VA
abbrev jT:TypeId:=120
structure qL where
 q:Nat
 b:Nat
 a:Option Addr
 c:Nat
def Hb(o:Option (Option fu))(b:Nat):Value:=match o with
 | some _=>.pointer (some ⟨b,0,none⟩)
 | none=>.pointer none
def kY(o:Option (Option fu))(b:Nat):HP:=match o with
 | some x=>pt b (oW x) nH
 | none=>kO True
def dv(S:aN)(y:qL):List Value:=[.int .i64 S.id,.int .i64 S.cls,.int .i64 S.timeout,.int .i64 S.gr,.pointer (some ⟨y.q,0,none⟩),.int .i64 S.ch.ar,.slice y.a S.ch.ms.length y.c,.int .i64 S.ch.drain,Hb S.out y.b,.int .i64 S.eR,.int .i64 S.since,.int .i64 S.Dp,.bool S.unsure,.int .i64 S.seq,.int .i64 S.tries,.int .i64 S.cl,.int .i64 S.deadline,.int .i64 S.op.kind,.string S.op.key,.string S.op.value,.int .i64 S.op.version]
def qW(p:Nat)(S:aN)(y:qL):List HP:=[pt p (dv S y) jT,pt y.q (eI S.tok) gg,aA aU 2 y.a S.ch.ms.length y.c (flat aH S.ch.ms),kY S.out y.b]
def bR(p:Nat)(S:aN):HP:=hex fun y:qL=>cR (qW p S y)
theorem ba.du(p:Nat)(S:aN):ba (ι:=qL) (bR p S) (fun _=>True) (fun y=>qW p S y):=fun w ids ⟨x,h⟩ hn=>⟨x,trivial,ids,h,hn,fun _ h=>h⟩
theorem aa.du{p:Nat}{S:aN}{L K:List HP}(y:qL)(h:aa L (qW p S y++K)):aa L (bR p S::K):=aa.ex (f:=fun y:qL=>cR (qW p S y)) y (aa.sep h)
structure aN.Ok(S:aN):Prop where
 c0:1≤S.cls
 c1:S.cls≤4
 t0:0≤S.timeout
 t1:S.timeout≤1000
 b0:0≤S.gr
 b1:S.gr≤16
 tok:S.tok.Ok
 ml:S.ch.ms.length≤6
 out:S.eR≠0→S.out=some none
 s0:0≤S.since
 s1:S.since≤1099511627776
 q0:0≤S.seq
 r0:0≤S.tries
 r1:S.tries≤17
 rb:S.eR=1∨S.eR=3→S.tries≤16
def ik(to:Int)(f:ay):gM:=((to,f,[]),(none,0))
theorem JN{p:Nat}{S:aN}{y:qL}{A R:List HP}:aa (A++(qW p S y++R)) (bR p S::A):=
 (aa.perm jL).trans (aa.du y ((aa.of_eq (eL _ _ _)).trans (aa.app aa.refl aa.E1)))
theorem JM{p:Nat}{S:aN}{y:qL}{to:Int}{f:ay}{sb:Nat}{R:List HP}:aa (pt sb (dF (ik to f)) gJ::(qW p S y++R)) (bR p S::aA gJ 30 (some ⟨sb,0,none⟩) 1 1 (flat dF [ik to f]) :: [ik to f].map iV):=by
 rw[zx]
 refine aa.trans (M:=[aA gJ 30 (some ⟨sb,0,none⟩) 1 1 (dF (ik to f)),iV (ik to f)]++(qW p S y++R)) ?_ JN
 exact aa.Dh (n:=1) (by rw[Db]) (aa.cons (aa.dM aa.refl))
theorem wD{p:Nat}{S:aN}{y:qL}{R:List HP}:aa (qW p S y++R) (bR p S::aA gJ 30 none 0 0 (flat dF [])::([]:List gM).map iV):=
 (aa.dM (aa.refl (L:=qW p S y++R))).trans (JN (A:=[aA gJ 30 none 0 0 []]))
theorem G2{v:Value}{L H:List HP}{to:Int}{f:ay}{sb:Nat}(hv:v=.slice (some ⟨sb,0,none⟩) 1 1)(hL:L=H++(aA gJ 30 (some ⟨sb,0,none⟩) 1 1 (flat dF [ik to f]) :: [ik to f].map iV)):nG [(to,f,[])] v L H:=Df (x:=ik to f) hv hL
section
variable {p:Nat} {S:aN} {y:qL}
theorem R_(n:Int):az Tryz.prog 145 [.int .i64 n] Fr w [] (fun v L=>v=.int .i64 (bA n)∧L=[]):=by
 refine TF 6 Tryz.func145 Z ym aD Z Z ?_
 refine ae ?_
 exact CR (aq.int 2 Z Z Qh ER ⟨rfl,Z⟩)
theorem JP(ok:S.Ok)(h:bu Fr w p (dv S y)):az Tryz.prog 86 [.pointer (some ⟨p,0,none⟩)] Fr w [] (fun v L=>v=.bool true∧L=[]):=by
 have:=ok.c0
 refine TF 12 Tryz.func86 Z ym aD Z Z ?_
 refine Ef ?_
 refine jH ?_
 exact CR (aq.bool (b:=true) 2 Z Z (DT yd) ER ⟨rfl,Z⟩)
theorem EI(ok:S.Ok)(h:bu Fr w p (dv S y)):az Tryz.prog 43 [.pointer (some ⟨p,0,none⟩)] Fr w [] (fun v L=>v=.bool (S.eR != 0)∧L=[]):=by
 refine TF 12 Tryz.func43 Z ym aD Z Z ?_
 refine aw ?_
 refine H7 ?_
 refine Ef ?_
 refine jH ?_
 exact mB
theorem R2(ok:S.Ok)(h:bu Fr w p (dv S y)):az Tryz.prog 67 [.pointer (some ⟨p,0,none⟩)] Fr w [] (fun v L=>v=.int .i64 S.seq∧L=[]):=by
 refine TF 10 Tryz.func67 Z ym aD Z Z ?_
 refine aw ?_
 refine H7 ?_
 refine kh ?_
 refine jH ?_
 exact mB
def Gm(o:Option fu):Value:=.tuple #[.agg (dR (o.getD mj)).toArray,.bool o.isSome]
theorem RW(ok:S.Ok)(h:bu Fr w p (dv S y))(hs:∀x,S.out=some x→bu Fr w y.b (oW x)):az Tryz.prog 65 [.pointer (some ⟨p,0,none⟩)] Fr w [] (fun v L=>v=Gm S.outcome∧L=[]):=by
 have hv:∀o,S.out=o→(dv S y)[8]?=some (Hb o y.b):=fun o e=>by rw[←e];rfl
 refine TF 22 Tryz.func65 Z ym aD Z Z ?_
 refine CS (CG (VG (VO.alloc Z fun b2=>?_)))
 refine aw ?_
 refine H7 ?_
 refine aw ?_
 refine VG (VY 7 false Z Z ?_)
 refine aw ?_
 unfold aN.outcome
 cases ho:S.out with
 | none=>
  refine VG (VO.load (v:=.pointer none) Z Z (ax.aC h (hv _ ho)) ?_)
  refine kE ?_
  refine VG (VL 0 (dR mj) Z Z Z Z ?_)
  refine Pb ?_
  refine aw ?_
  exact Pc
 | some x=>
  refine Pt ?_
  refine kh ?_
  refine aw ?_
  refine Pt ?_
  refine VG (VV (fun Fr w hF hw _=>XQ Fr w x ((hs x ho).of hF hw)) Z ?_)
  refine aw ?_
  refine VG (VT (vs:=dR (x.getD mj)) (cs':=dR (x.getD mj)) 0 Z Z Z Z (NR _) Z Z Z ?_)
  refine aw ?_
  exact CR (aq.dB 2 3 Z Z Z (ax.many (ds:=dR (x.getD mj)) 0 Z Z) Z aa.nil.ah ⟨rfl,Z⟩)
theorem MG:az Tryz.prog 212 [] Fr w [] (fun v L=>∃sb,v=.slice (some ⟨sb,0,none⟩) 1 1∧L=[pt sb (dF (ik 16 { ay.zero with kind:=7 })) gJ]):=by
 refine TF 4 Tryz.func212 Z ym aD Z Z ?_
 refine ae ?_
 refine VG (VI (LB (pv:=[(0,.int .i64 7)]) (({ ay.zero with kind:=7 }:ay).cells (none,0,0)) Z Z Z ym Z) ?_)
 refine VG (VI (LB (pv:=[(0,.int .i64 16),(1,.agg (({ ay.zero with kind:=7 }:ay).cells (none,0,0)).toArray)]) (dF (ik 16 { ay.zero with kind:=7 })) Z Z Z ym Z) ?_)
 refine VG (VO.buildSlice (pv:=[(0,.agg (dF (ik 16 { ay.zero with kind:=7 })).toArray)]) (dF (ik 16 { ay.zero with kind:=7 })) Z Z Z Z yo (ji Z Z Z) fun sb=>?_)
 refine ae ?_
 exact CR (aq.tmp 0 Z Z ER ⟨sb,Z,Z⟩)
theorem JC(ok:S.Ok)(now:Int):az Tryz.prog 148 [.pointer (some ⟨p,0,none⟩),.int .i64 now] Fr w [bR p S] (fun v L=>nG (S.ask now).2 v L [bR p (S.ask now).1]):=by
 refine TF 13 Tryz.func148 Z ym aD Z Z ?_
 refine vQ ?_
 rintro y -
 show VC _ _ _ [pt p (dv S y) jT,pt y.q (eI S.tok) gg,aA aU 2 y.a S.ch.ms.length y.c (flat aH S.ch.ms),kY S.out y.b] _
 refine ae ?_
 refine VG (VO.st 0 (cs':=dv { S with eR:=1 } y) Z Z Z Z D9 Z Z ?_)
 refine VG (VO.st 0 (cs':=dv { S with eR:=1,since:=now } y) Z Z Z Z (by show 10<21;omega) Z Z ?_)
 refine ae ?_
 refine VG (VK (Lc:=[]) (fun Fr w hF hw _=>MG Fr w) Z Z ?_)
 rintro _ _ ⟨sb,rfl,rfl⟩
 refine ae ?_
 exact CR (aq.tmp 4 Z Z (JM (S:={ S with eR:=1,since:=now }) (y:=y) (R:=[])).ah (G2 Z Z))
end
end Cl
namespace Cl
open Go Vg T Api Ch Rep
attribute [local irreducible] VO VC VA
section
variable {p:Nat} {S:aN}
theorem JZ(ok:S.Ok)(now:Int):az Tryz.prog 147 [.pointer (some ⟨p,0,none⟩),.int .i64 now] Fr w [bR p S] (fun v L=>nG (S.br now).2 v L [bR p (S.br now).1]):=by
 have hr0:=ok.r0
 have hr1:=ok.r1
 have hml:=ok.ml
 refine TF 68 Tryz.func147 Z ym aD Z Z ?_
 refine vQ ?_
 rintro y -
 show VC _ _ _ [pt p (dv S y) jT,pt y.q (eI S.tok) gg,aA aU 2 y.a S.ch.ms.length y.c (flat aH S.ch.ms),kY S.out y.b] _
 refine aj ?_
 refine Bk ?_
 refine VG (VO.st 0 (cs':=dv { S with tries:=S.tries+1 } y) Z Z Z Z (by show 14<21;omega) Z Z ?_)
 refine ae ?_
 refine VG (VO.st 0 (cs':=dv { S with tries:=S.tries+1,eR:=2 } y) Z Z Z Z D9 Z Z ?_)
 refine VG (VO.st 0 (cs':=dv (S.mR now) y) Z Z Z Z (by show 10<21;omega) Z Z ?_)
 refine ae ?_
 refine VG (VL 0 (S.ch.cells y.a y.c) Z Z Z Z ?_)
 refine VG (VV (fun Fr w hF hw hS=>zK Fr w (c:=S.ch) (aV.aA cn (hS.at_ 2 Z)) yd) Z (VG (VN ?_)))
 refine CS (VC.dX (σ:=Int) (fun to=>[(0,pV p),(5,.int .i64 to)]) (fun _=>[pt p (dv (S.mR now) y) jT,pt y.q (eI S.tok) gg,aA aU 2 y.a S.ch.ms.length y.c (flat aH S.ch.ms),kY S.out y.b]) (fun to=>to=(S.mR now).to) ?_ ?_)
 ·refine ae ?_
  refine VG (VL 0 S.op.cells Z Z Z Z ?_)
  refine VG (VV (fun Fr w hF hw hS=>Kv.Aw Fr w S.op) Z ?_)
  refine ae ?_
  refine CC Z (fun h=>?_) (fun h=>CK ?_)
  ·refine ae ?_
   refine VG (VL 0 (S.ch.cells y.a y.c) Z Z Z Z ?_)
   refine VG (VV (fun Fr w hF hw hS=>AJ Fr w (c:=S.ch) (aV.aA cn (hS.at_ 2 Z)) yd) Z ?_)
   refine ae ?_
   exact⟨_,by show vI S.ch=if Av S.op=true then vI S.ch else tS S.ch;rw[show Av S.op=true from h];rfl,SC Z (SC Z (SN _)),ER⟩
  ·exact⟨_,by show tS S.ch=if Av S.op=true then vI S.ch else tS S.ch;rw[show Av S.op=false from h];rfl,SC Z (SC Z (SN _)),ER⟩
 rintro to hto
 unfold aN.br
 rw[←hto]
 refine CS (CD (ts 0 32 (.only 32 (.take 33 .nil))) ym yr ?_)
 refine bt ?_
 refine AG (VA.dQ 0 S.op.cells Z Z Z Z Z ?_)
 refine AG (AI Z (LB (pv:=[(0,.int .i64 1),(1,.int .i64 S.ch.ar),(2,.int .i64 S.id),(3,.int .i64 S.seq),(4,.int .i64 (S.tries+1)),(5,.int .i64 S.cl),(6,.int .i64 S.deadline),(7,.agg S.op.cells.toArray)]) ((lA (S.mR now)).cells (none,0,0)) Z Z Z ym Z) ?_)
 refine AG (AI Z (LB (pv:=[(0,.int .i64 to),(1,.agg ((lA (S.mR now)).cells (none,0,0)).toArray)]) (dF (ik to (lA (S.mR now)))) Z Z Z ym Z) ?_)
 refine AG (AO (aQ.buildSlice (n:=1) (pv:=[(0,.agg (dF (ik to (lA (S.mR now)))).toArray)]) (cells:=dF (ik to (lA (S.mR now)))) rfl rfl rfl rfl yo (ji rfl rfl rfl)) rfl (fun v L' g=>by obtain⟨b,rfl,rfl⟩:=g;exact mU) ?_)
 rintro _ _ ⟨sb,rfl,rfl⟩
 refine dp ?_
 exact CR (aq.tmp 4 Z Z (JM (S:=S.mR now) (y:=y) (R:=[])).ah (G2 Z Z))
theorem EL(ho:S.out=some none){o:fu}(h1:1≤o.kind)(h2:o.kind≤3):az Tryz.prog 231 [.pointer (some ⟨p,0,none⟩),.agg (dR o).toArray] Fr w [bR p S] (fun v L=>v=.tuple #[]∧L=[bR p (S.end_ o)]):=by
 refine TF 13 Tryz.func231 Z ym aD Z Z ?_
 refine CS (CG (VG (VB (vs:=dR o) Z fun b3=>VG (VN ?_))))
 refine VC.bJ 1 Z (ba.du p S) ?_
 rintro y -
 have hv:(dv S y)[8]?=some (.pointer (some ⟨y.b,0,none⟩)):=by show some (Hb S.out y.b)=_;rw[ho];rfl
 have hp:kY S.out y.b=pt y.b (oW none) nH:=by rw[ho];rfl
 have he:S.end_ o={ S with out:=some (some o),eR:=0 }:=by unfold aN.end_ Nr;rw[ho]
 rw[he]
 show VC _ _ _ [pt p (dv S y) jT,pt y.q (eI S.tok) gg,aA aU 2 y.a S.ch.ms.length y.c (flat aH S.ch.ms),kY S.out y.b,pt b3 (dR o) sJ] _
 rw[hp]
 refine CN (L':=[pt y.b (oW none) nH,pt b3 (dR o) sJ,pt p (dv S y) jT,pt y.q (eI S.tok) gg,aA aU 2 y.a S.ch.ms.length y.c (flat aH S.ch.ms)]) (bm [3,3,0,0,0]).ah ?_
 refine CS (CD (ts 0 5 (.only 5 .nil)) ym yr ?_)
 refine dp ?_
 refine AG (VA.ld 2 Z Z Z Z hv ?_)
 refine AG (VA.dQ 1 (dR o) Z Z Z Z Z ?_)
 refine AG (AO (OC (Lc:=[pt y.b (oW none) nH]) (Lr:=[pt b3 (dR o) sJ,pt p (dv S y) jT,pt y.q (eI S.tok) gg,aA aU 2 y.a S.ch.ms.length y.c (flat aH S.ch.ms)]) rfl (.refl _) (fun Fr w hF hw hS=>X0 Fr w h1 h2)) rfl (fun v L' g=>by obtain⟨_,⟨rfl,rfl⟩,rfl⟩:=g;exact(by(try refine Pd.st ?_);(repeat(first|exact Pd.nil|exact Pd.fnil|refine Pd.inner ?_|refine Pd.skip yr ?_|refine zf (zo 0 rfl rfl) ?_|refine zf (zo 1 rfl rfl) ?_|refine zf (zo 2 rfl rfl) ?_|refine zf (zm 0 rfl rfl) ?_|refine zf (zm 1 rfl rfl) ?_|refine zf (zm 2 rfl rfl) ?_|refine zf (ax.aC (ax.one 2 rfl hv) rfl) ?_|refine zf ((ax.one 2 rfl hv)) ?_|refine zc (zo 0 rfl rfl) ?_|refine zc (zo 1 rfl rfl) ?_|refine zc (zo 2 rfl rfl) ?_|refine zc (zm 0 rfl rfl) ?_|refine zc (zm 1 rfl rfl) ?_|refine zc (zm 2 rfl rfl) ?_|refine zc (ax.aC (ax.one 2 rfl hv) rfl) ?_|refine zc ((ax.one 2 rfl hv)) ?_)))) ?_)
 rintro _ _ ⟨_,⟨rfl,rfl⟩,rfl⟩
 refine oC ?_
 have hc:dv S y=dv { S with out:=some (some o) } y:=by unfold dv;rw[ho];rfl
 rw[hc]
 refine VG (VO.st 2 (cs':=dv { S with out:=some (some o),eR:=0 } y) Z Z Z Z D9 Z Z ?_)
 refine ae ?_
 exact aq.void Z (aa.du (S:={ S with out:=some (some o),eR:=0 }) y (IP 2 Z (IP 2 Z (IP 2 Z (IP 0 Z aa.nil))))).ah ⟨rfl,Z⟩
theorem EM(ho:S.out=some none)(reason:Int):az Tryz.prog 173 [.pointer (some ⟨p,0,none⟩),.int .i64 reason] Fr w [bR p S] (fun v L=>nG (S.giveUp reason).2 v L [bR p (S.giveUp reason).1]):=by
 unfold aN.giveUp
 refine TF 17 Tryz.func173 Z ym aD Z Z ?_
 refine vQ ?_
 rintro y -
 show VC _ _ _ [pt p (dv S y) jT,pt y.q (eI S.tok) gg,aA aU 2 y.a S.ch.ms.length y.c (flat aH S.ch.ms),kY S.out y.b] _
 refine mA ?_
 refine CS (VC.dX (σ:=fu) (fun _=>[(0,pV p)]) (fun o=>[bR p (S.end_ o)]) (fun o=>o=if S.unsure then ⟨3,0,cF⟩ else ⟨2,reason,cF⟩) ?_ ?_)
 ·refine aj ?_
  refine CC Z (fun h=>?_) (fun h=>?_)
  ·refine DS ?_
   refine ae ?_
   refine VG (VI (LB (pv:=[(0,.int .i64 3)]) (dR ⟨3,0,cF⟩) Z Z Z ym Z) ?_)
   refine VG (VK (Lc:=[bR p S]) (fun Fr w hF hw _=>EL Fr w ho (o:=⟨3,0,cF⟩) yo yo) Z Z ?_)
   rintro _ _ ⟨rfl,rfl⟩
   refine ae ?_
   exact⟨_,by rw[h];rfl,SC Z (SN _),ER⟩
  ·refine DS ?_
   refine ae ?_
   refine VG (VI (LB (pv:=[(0,.int .i64 2),(1,.int .i64 reason)]) (dR ⟨2,reason,cF⟩) Z Z Z ym Z) ?_)
   refine VG (VK (Lc:=[bR p S]) (fun Fr w hF hw _=>EL Fr w ho (o:=⟨2,reason,cF⟩) (by show(1:Int)≤2;decide) (by show(2:Int)≤3;decide)) Z Z ?_)
   rintro _ _ ⟨rfl,rfl⟩
   refine ae ?_
   exact⟨_,by rw[h];rfl,SC Z (SN _),ER⟩
 rintro o rfl
 generalize (if S.unsure=true then (⟨3,0,cF⟩:fu) else ⟨2,reason,cF⟩)=o
 refine ae ?_
 refine VG (VK (Lc:=[]) (fun Fr w hF hw _=>MG Fr w) Z Z ?_)
 rintro _ _ ⟨sb,rfl,rfl⟩
 refine ae ?_
 refine CR (aq.tmp 4 Z Z ?_ (G2 (to:=16) (f:={ ay.zero with kind:=7 }) (sb:=sb) Z Z))
 rw[zx]
 refine aa.ah (aa.trans (M:=[aA gJ 30 (some ⟨sb,0,none⟩) 1 1 (dF (ik 16 { ay.zero with kind:=7 })),iV (ik 16 { ay.zero with kind:=7 }),bR p (S.end_ o)]) ?_ (bm [2,0,0]))
 exact aa.Dh (n:=1) (by rw[Db]) (aa.cons (aa.dM aa.refl))
end
end Cl
namespace Cl
open Go Vg T Api Ch Rep
attribute [local irreducible] VO VC VA
section
variable {p:Nat} {S:aN}
theorem AB{v:Value}{L H:List HP}(hv:v=.slice none 0 0)(hL:L=H++(aA gJ 30 none 0 0 (flat dF [])::([]:List gM).map iV)):nG [] v L H:=xv hv hL
theorem JF(ok:S.Ok)(ho:S.out=some none)(reason now:Int)(h0:0≤now)(h1:now≤1099511627776):az Tryz.prog 172 [.pointer (some ⟨p,0,none⟩),.int .i64 reason,.int .i64 now] Fr w [bR p S] (fun v L=>nG (S.fR reason now).2 v L [bR p (S.fR reason now).1]):=by
 unfold aN.fR
 refine TF 49 Tryz.func172 Z ym aD Z Z ?_
 refine vQ ?_
 rintro y -
 show VC _ _ _ [pt p (dv S y) jT,pt y.q (eI S.tok) gg,aA aU 2 y.a S.ch.ms.length y.c (flat aH S.ch.ms),kY S.out y.b] _
 refine ae ?_
 refine CD (ts 0 23 (.only 23 (ts 24 2 .nil))) ym yr ?_
 refine ee ?_
 by_cases g1:S.gr<S.tries
 ·rw[if_pos (.inl g1)]
  refine AG (AY 16 true Z (DT g1) ?_)
  refine ee ?_
  refine AG (AY 24 true Z Z ?_)
  refine vS ?_
  refine mz ?_
  refine DS ?_
  refine ae ?_
  refine H8 ?_
  rintro _ _ ⟨X,sa,sc,hX,rfl,rfl⟩
  refine ae ?_
  exact xV
 refine AG (AY 16 false Z (DF g1) ?_)
 refine ee ?_
 by_cases g2:S.deadline<now
 ·rw[if_pos (.inr g2)]
  refine AG (AY 24 true Z (DT g2) ?_)
  refine vS ?_
  refine mz ?_
  refine DS ?_
  refine ae ?_
  refine H8 ?_
  rintro _ _ ⟨X,sa,sc,hX,rfl,rfl⟩
  refine ae ?_
  exact xV
 rw[if_neg (fun h=>h.elim g1 g2)]
 refine AG (AY 24 false Z (DF g2) ?_)
 refine ee ?_
 refine AG (AO (OC (Lc:=[pt y.q (eI S.tok) gg]) (Lr:=[pt p (dv S y) jT,aA aU 2 y.a S.ch.ms.length y.c (flat aH S.ch.ms),kY S.out y.b]) rfl (.swap _ _ _) (fun Fr w hF hw hS=>Rj Fr w ok.tok now)) rfl (fun v L' g=>by obtain⟨_,⟨rfl,rfl⟩,rfl⟩:=g;exact mU) ?_)
 rintro _ _ ⟨_,⟨rfl,rfl⟩,rfl⟩
 refine fi ?_
 refine VC.fQ Z (fun hb=>?_) (fun hb=>CK ?_)
 ·rw[if_neg (by rw[hb];decide)]
  refine CN (L':=[bR p (S.rH now)]) (aa.du (S:=S.rH now) y (bm [1,0,0,0])).ah ?_
  refine ae ?_
  refine VG (VK (Lc:=[bR p (S.rH now)]) (Lr:=[]) (fun Fr w hF hw _=>EM (S:=S.rH now) Fr w ho reason) Z Z ?_)
  rintro _ _ ⟨X,sa,sc,hX,rfl,rfl⟩
  refine ae ?_
  exact xV
 rw[if_pos hb]
 have hg:=Tq S.tries 64
 refine ae ?_
 refine VG (VO.st 1 (cs':=dv { S with eR:=3 } y) Z Z Z Z D9 Z Z ?_)
 refine dz ?_
 refine VG (VV (fun Fr w hF hw _=>Tr Fr w S.tries 64) Z ?_)
 refine Bk ?_
 refine VG (VO.st 1 (cs':=dv ((S.rH now).CQ now) y) Z Z Z Z (by show 11<21;omega) Z Z ?_)
 refine ae ?_
 refine CR (aq.tmp 6 Z Z ?_ (AB Z Z))
 exact(aa.trans (M:=qW p ((S.rH now).CQ now) y ++ []) (bm [1,0,0,0]) wD).ah
theorem R1(ok:S.Ok)(ho:S.out=some none)(reason now:Int)(h0:0≤now)(h1:now≤1099511627776):az Tryz.prog 267 [.pointer (some ⟨p,0,none⟩),.int .i64 reason,.int .i64 now] Fr w [bR p S] (fun v L=>nG (S.refused reason now).2 v L [bR p (S.refused reason now).1]):=by
 have ok2:({ S with unsure:=true }:aN).Ok:=⟨ok.c0,ok.c1,ok.t0,ok.t1,ok.b0,ok.b1,ok.tok,ok.ml,ok.out,ok.s0,ok.s1,ok.q0,ok.r0,ok.r1,ok.rb⟩
 unfold aN.refused
 refine TF 25 Tryz.func267 Z ym aD Z Z ?_
 refine mA ?_
 refine CS (CS (CG (VG (VN ?_))))
 refine VC.dX (σ:=aN) (fun _=>[(0,pV p),(1,.int .i64 reason),(2,.int .i64 now)]) (fun S'=>[bR p S']) (fun S'=>(S'={ S with unsure:=true }∧(reason=6∨reason=5∨reason=7))∨(S'=S∧¬(reason=6∨reason=5∨reason=7)∧¬(reason=2∨reason=10))) ?_ ?_
 rotate_left
 ·rintro S' hS
  have key:S'.Ok∧S'.out=some none∧(if reason=6∨reason=5∨reason=7 then ({ S with unsure:=true }:aN).fR reason now else if reason=2∨reason=10 then S.giveUp reason else S.fR reason now)=S'.fR reason now:=by
   rcases hS with ⟨rfl,h⟩ | ⟨rfl,h,h'⟩
   ·exact⟨ok2,ho,if_pos h⟩
   ·exact⟨ok,ho,by rw[if_neg h,if_neg h']⟩
  rw[key.2.2]
  refine ae ?_
  refine VG (VK (Lc:=[bR p S']) (Lr:=[]) (fun Fr w hF hw _=>JF Fr w key.1 key.2.1 reason now h0 h1) Z Z ?_)
  rintro _ _ ⟨X,sa,sc,hX,rfl,rfl⟩
  refine ae ?_
  exact xV
 refine VC.block ?_
 refine CS (VC.dX (σ:=Bool) (fun b=>[(0,pV p),(1,.int .i64 reason),(2,.int .i64 now),(7,.int .i64 reason),(8,.bool b)]) (fun _=>[bR p S]) (fun b=>b=true↔(reason=6∨reason=5∨reason=7)) ?_ ?_)
 ·refine ae ?_
  refine CE Z (fun k=>CK ?_) (fun k=>?_)
  ·exact⟨true,by simp[k],SC Z (SC Z (SC Z (SC Z (Sub.bl Z (beq_iff_eq.2 k) (SN _))))),ER⟩
  refine ae ?_
  refine CE Z (fun k5=>CK ?_) (fun k5=>?_)
  ·exact⟨true,by simp[k5],SC Z (SC Z (SC Z (SC Z (Sub.bl Z (beq_iff_eq.2 k5) (SN _))))),ER⟩
  refine ae ?_
  exact⟨decide (reason=7),by simp[k,k5],SC Z (SC Z (SC Z (SC Z (Sub.bl Z Z (SN _))))),ER⟩
 rintro b hb
 refine ae ?_
 refine CC Z (fun k=>?_) (fun k=>?_)
 ·have k:=hb.1 k
  refine vQ ?_
  rintro y -
  show VC _ _ _ [pt p (dv S y) jT,pt y.q (eI S.tok) gg,aA aU 2 y.a S.ch.ms.length y.c (flat aH S.ch.ms),kY S.out y.b] _
  refine ae ?_
  refine Pu ?_
  refine ae ?_
  exact⟨{ S with unsure:=true },.inl ⟨rfl,k⟩,aP,(aa.du (S:={ S with unsure:=true }) y aa.refl).ah⟩
 have k:¬(reason=6∨reason=5∨reason=7):=fun h=>by rw[hb.2 h] at k;cases k
 refine CS (VC.dX (σ:=Bool) (fun b=>[(0,pV p),(1,.int .i64 reason),(2,.int .i64 now),(15,.bool b)]) (fun _=>[bR p S]) (fun b=>b=true↔(reason=2∨reason=10)) ?_ ?_)
 ·refine ae ?_
  refine CE Z (fun k=>CK ?_) (fun k=>?_)
  ·exact⟨true,by simp[k],SC Z (SC Z (SC Z (Sub.bl Z (beq_iff_eq.2 k) (SN _)))),ER⟩
  refine ae ?_
  exact⟨decide (reason=10),by simp[k],SC Z (SC Z (SC Z (Sub.bl Z Z (SN _)))),ER⟩
 rintro b2 hb2
 refine ae ?_
 refine CC Z (fun k2=>?_) (fun k2=>CK ?_)
 ·rw[if_neg k,if_pos (hb2.1 k2)]
  refine ae ?_
  refine H8 ?_
  rintro _ _ ⟨X,sa,sc,hX,rfl,rfl⟩
  refine ae ?_
  exact xV
 ·exact⟨S,.inr ⟨rfl,k,fun h=>by rw[hb2.2 h] at k2;cases k2⟩,aP,ER⟩
end
end Cl
namespace Cl
open Go Vg T Api Ch Rep Rd
attribute [local irreducible] VO VC VA
section
variable {p:Nat} {S:aN}
theorem R4(ok:S.Ok)(f:ay){ma:Option Addr}{mc:Nat}{ms:List aR}(hm:aV aH 2 Fr w ma ms)(hml:ms.length≤1000000)(now:Int):az Tryz.prog 237 [.pointer (some ⟨p,0,none⟩),.agg (f.cells (ma,ms.length,mc)).toArray,.int .i64 now] Fr w [bR p S] (fun v L=>nG (S.take f ms now).2 v L [bR p (S.take f ms now).1]):=by
 have htk:=sS now
 unfold aN.take
 generalize htn:bA now=tn at htk
 generalize hfc:f.cells (ma,ms.length,mc)=fc
 have hkd:fc[0]?=some (.int .i64 f.kind):=by rw[←hfc];rfl
 have hch:(fc.drop 23).take 3=aW.cells ⟨f.dV,ms,f.drain⟩ ma mc:=by rw[←hfc];rfl
 have hep:fc[23]?=some (.int .i64 f.dV):=by rw[←hfc];rfl
 have hmm:fc[24]?=some (.slice ma ms.length mc):=by rw[←hfc];rfl
 have hcl:fc[2]?=some (.int .i64 f.aF):=by rw[←hfc];rfl
 have hsq:fc[3]?=some (.int .i64 f.seq):=by rw[←hfc];rfl
 have hty:fc[4]?=some (.int .i64 f.br):=by rw[←hfc];rfl
 have hrs:fc[15]?=some (.int .i64 f.reason):=by rw[←hfc];rfl
 have hre:(fc.drop 11).take 4=[.int .i64 f.res.code,.string f.res.value,.int .i64 f.res.version,.int .i64 f.res.at_]:=by rw[←hfc];rfl
 refine TF 118 Tryz.func237 Z ym aD Z Z ?_
 refine CS (CG (VG (VB (vs:=fc) Z fun fb=>VG (VN ?_))))
 refine VC.bJ 1 Z (ba.du p S) ?_
 rintro y -
 show VC _ _ _ [pt p (dv S y) jT,pt y.q (eI S.tok) gg,aA aU 2 y.a S.ch.ms.length y.c (flat aH S.ch.ms),kY S.out y.b,pt fb fc cC] _
 have rn:dq ⟨Tryz.prog,tab,aD,118,Fr,w⟩ [pt p (dv S y) jT,pt y.q (eI S.tok) gg,aA aU 2 y.a S.ch.ms.length y.c (flat aH S.ch.ms),kY S.out y.b,pt fb fc cC] ([bR p S] ++ [pt fb fc cC]):=(aa.du (K:=[pt fb fc cC]) y aa.refl).ah
 refine ae ?_
 refine H9 ?_
 refine pK ?_
 refine H_ ?_
 rw[htn]
 refine ae ?_
 refine VG (VO.ld 4 Z Z Z hkd ?_)
 refine ae ?_
 refine CE Z (fun k8=>?_) (fun k8=>?_)
 ·rw[if_pos k8]
  refine ae ?_
  refine CD (ts 0 2 (.only 2 (ts 3 12 .nil))) ym yr ?_
  refine fi ?_
  refine AG (VA.dQ 4 (aW.cells ⟨f.dV,ms,f.drain⟩ ma mc) Z Z Z Z hch ?_)
  refine AG (AR (fun Fr w hF hw hS=>Ch.iG Fr w (c:=⟨f.dV,ms,f.drain⟩) (hm.of hF hw) IC) Z Z (by(try refine Pd.st ?_);(repeat(first|exact Pd.nil|exact Pd.fnil|refine Pd.inner ?_|refine Pd.skip yr ?_|refine zf (zo 0 Z Z) ?_|refine zf (zo 1 Z Z) ?_|refine zf (zo 2 Z Z) ?_|refine zf (zo 3 Z Z) ?_|refine zf (zm 0 Z Z) ?_|refine zf (zm 1 Z Z) ?_|refine zf (zm 2 Z Z) ?_|refine zf (zm 3 Z Z) ?_|refine zf (ax.aC (ax.many 4 Z hch) Z) ?_|refine zf ((ax.many 4 Z hch)) ?_|refine zc (zo 0 Z Z) ?_|refine zc (zo 1 Z Z) ?_|refine zc (zo 2 Z Z) ?_|refine zc (zo 3 Z Z) ?_|refine zc (zm 0 Z Z) ?_|refine zc (zm 1 Z Z) ?_|refine zc (zm 2 Z Z) ?_|refine zc (zm 3 Z Z) ?_|refine zc (ax.aC (ax.many 4 Z hch) Z) ?_|refine zc ((ax.many 4 Z hch)) ?_))) ?_)
  refine fi ?_
  by_cases hc:e_ ⟨f.dV,ms,f.drain⟩=0
  rotate_left
  ·rw[if_pos (.inl hc)]
   refine AG (AY 20 true Z (by rw[bne_iff_ne];exact hc) ?_)
   refine fi ?_
   refine VC.nj Z (CX ?_)
   exact rV
  have hc6:=(qV hc).2.1
  dsimp only at hc6
  refine AG (AY 20 false Z (by rw[bne_eq_false_iff_eq];exact hc) ?_)
  refine fi ?_
  refine AG (VA.ld 4 Z Z Z Z hep ?_)
  refine ee ?_
  refine CP (p:=f.dV<S.ch.ar) Z (fun he=>CX ?_) (fun he=>CK ?_)
  ·rw[if_pos (.inr he)]
   exact rV
  rw[if_neg (fun h=>h.elim (fun k=>k hc) he)]
  refine ae ?_
  refine VG (VL 4 (aW.cells ⟨f.dV,ms,f.drain⟩ ma mc) Z Z Z hch ?_)
  refine VG (VT (vs:=aW.cells ⟨f.dV,ms,f.drain⟩ ma mc) (cs':=dv { S with ch:=⟨f.dV,ms,f.drain⟩ } { y with a:=ma,c:=mc }) 0 Z Z Z Z (by show 5+3≤21;omega) Z Z Z ?_)
  refine ae ?_
  refine VG (VO.ld 4 Z Z Z hmm ?_)
  refine VO.ah (L':=[aA aU 2 none 0 0 [],pt p (dv { S with ch:=⟨f.dV,ms,f.drain⟩ } { y with a:=ma,c:=mc }) jT,pt y.q (eI S.tok) gg,kY S.out y.b,pt fb fc cC]) (aa.dM (bm [0,0,1,1])).ah ?_
  refine VG (VO.append (m:=ms.length) (news:=flat aH ms) 0 Z Z Z Z Z Z Z (aV.row cn hm) (qd vc _) (by show(0+ms.length)*16≤_;omega) yd fun a' c' _=>?_)
  rw[di,nN]
  refine ae ?_
  refine VG (VO.st 1 (cs':=dv { S with ch:=⟨f.dV,ms,f.drain⟩ } { y with a:=a',c:=c' }) Z Z Z Z (by show 6<21;omega) Z Z ?_)
  have ok2:({ S with ch:=⟨f.dV,ms,f.drain⟩ }:aN).Ok:=⟨ok.c0,ok.c1,ok.t0,ok.t1,ok.b0,ok.b1,ok.tok,hc6,ok.out,ok.s0,ok.s1,ok.q0,ok.r0,ok.r1,ok.rb⟩
  refine VO.ah (L':=[pt p (dv { S with ch:=⟨f.dV,ms,f.drain⟩ } { y with a:=a',c:=c' }) jT,pt y.q (eI S.tok) gg,aA aU 2 a' ms.length c' (flat aH ms),kY S.out y.b]) (bm [1,1,0,0]).ah ?_
  refine aj ?_
  refine CE Z (fun h1=>?_) (fun h1=>CK ?_)
  ·rw[if_pos h1]
   refine CN (L':=[bR p { S with ch:=⟨f.dV,ms,f.drain⟩ }]) (aa.du (S:={ S with ch:=⟨f.dV,ms,f.drain⟩ }) { y with a:=a',c:=c' } aa.refl).ah ?_
   refine ae ?_
   refine VG (VK (Lc:=[bR p { S with ch:=⟨f.dV,ms,f.drain⟩ }]) (Lr:=[]) (fun Fr w hF hw _=>JZ Fr w ok2 tn) Z Z ?_)
   rintro _ _ ⟨X,sa,sc,hX,rfl,rfl⟩
   refine ae ?_
   exact xV
  ·rw[if_neg h1]
   refine ae ?_
   exact CR (aq.tmp 6 Z Z (wD (S:={ S with ch:=⟨f.dV,ms,f.drain⟩ }) (y:={ y with a:=a',c:=c' }) (R:=[])).ah (AB Z Z))
 rw[if_neg k8]
 refine ae ?_
 refine CE Z (fun k2=>?_) (fun k2=>?_)
 ·rw[if_pos k2]
  refine ae ?_
  refine CD (ts 0 1 (.only 1 (ts 2 18 .nil))) ym yr ?_
  refine fi ?_
  refine AG (AR (fun Fr w hF hw hS=>EI Fr w ok (hS.aC 0 Z)) Z Z yu ?_)
  refine fi ?_
  by_cases hb:S.eR=0
  ·rw[if_neg (fun h=>h.1 hb)]
   refine AG (AY 56 false Z (by rw[bne_eq_false_iff_eq];exact hb) ?_)
   refine fi ?_
   refine AG (AY 65 false Z Z ?_)
   refine yH ?_
   exact rV
  refine AG (AY 56 true Z (by rw[bne_iff_ne];exact hb) ?_)
  refine fi ?_
  refine AG (VA.ld 4 Z Z Z Z hcl ?_)
  refine ee ?_
  by_cases hi:f.aF=S.id
  rotate_left
  ·rw[if_neg (fun h=>hi h.2.1)]
   refine AG (AY 65 false Z (beq_eq_false_iff_ne.2 hi) ?_)
   refine yH ?_
   exact rV
  refine AG (AY 65 true Z (beq_iff_eq.2 hi) ?_)
  refine fi ?_
  refine AG (VA.ld 4 Z Z Z Z hsq ?_)
  refine ee ?_
  refine CE Z (fun hs=>?_) (fun hs=>CK ?_)
  ·rw[if_pos ⟨hb,hi,hs⟩]
   refine ae ?_
   refine VG (VL 4 [.int .i64 f.res.code,.string f.res.value,.int .i64 f.res.version,.int .i64 f.res.at_] Z Z Z hre ?_)
   refine VG (VI (LB (pv:=[(0,.int .i64 1),(2,.agg ([.int .i64 f.res.code,.string f.res.value,.int .i64 f.res.version,.int .i64 f.res.at_]:List Value).toArray)]) (dR ⟨1,0,f.res⟩) Z Z Z ym Z) ?_)
   refine VO.ah rn ?_
   refine VG (VK (Lc:=[bR p S]) (Lr:=[pt fb fc cC]) (fun Fr w hF hw _=>EL Fr w (ok.out hb) (o:=⟨1,0,f.res⟩) (by show(1:Int)≤1;decide) (by show(1:Int)≤3;decide)) Z Z ?_)
   rintro _ _ ⟨rfl,rfl⟩
   refine ae ?_
   exact CR (aq.tmp 6 Z Z ((aa.dM (aa.refl (L:=[bR p (S.end_ ⟨1,0,f.res⟩),pt fb fc cC]))).trans (IP 1 Z (IP 0 Z aa.nil))).ah (AB Z Z))
  ·rw[if_neg (fun h=>hs h.2.2)]
   exact rV
 rw[if_neg k2]
 refine ae ?_
 refine CE Z (fun k3=>?_) (fun k3=>CK ?_)
 rotate_left
 ·rw[if_neg k3]
  exact rV
 rw[if_pos k3]
 refine ae ?_
 refine CD (ts 0 32 .nil) ym yr ?_
 refine ee ?_
 by_cases hd:S.eR=2
 rotate_left
 ·rw[if_neg (fun h=>hd h.1)]
  refine AG (AY 86 false Z (beq_eq_false_iff_ne.2 hd) ?_)
  refine fi ?_
  refine AG (AY 95 false Z Z ?_)
  refine fi ?_
  refine AG (AY 104 false Z Z ?_)
  refine yH ?_
  exact rV
 refine AG (AY 86 true Z (beq_iff_eq.2 hd) ?_)
 refine fi ?_
 refine AG (VA.ld 4 Z Z Z Z hcl ?_)
 refine ee ?_
 by_cases hi:f.aF=S.id
 rotate_left
 ·rw[if_neg (fun h=>hi h.2.1)]
  refine AG (AY 95 false Z (beq_eq_false_iff_ne.2 hi) ?_)
  refine fi ?_
  refine AG (AY 104 false Z Z ?_)
  refine yH ?_
  exact rV
 refine AG (AY 95 true Z (beq_iff_eq.2 hi) ?_)
 refine fi ?_
 refine AG (VA.ld 4 Z Z Z Z hsq ?_)
 refine ee ?_
 by_cases hs:f.seq=S.seq
 rotate_left
 ·rw[if_neg (fun h=>hs h.2.2.1)]
  refine AG (AY 104 false Z (beq_eq_false_iff_ne.2 hs) ?_)
  refine yH ?_
  exact rV
 refine AG (AY 104 true Z (beq_iff_eq.2 hs) ?_)
 refine fi ?_
 refine AG (VA.ld 4 Z Z Z Z hty ?_)
 refine ee ?_
 refine CE Z (fun ht=>?_) (fun ht=>CK ?_)
 ·rw[if_pos ⟨hd,hi,hs,ht⟩]
  refine ae ?_
  refine VG (VO.ld 4 Z Z Z hrs ?_)
  refine ae ?_
  refine VO.ah rn ?_
  refine VG (VK (Lc:=[bR p S]) (Lr:=[pt fb fc cC]) (fun Fr w hF hw _=>R1 Fr w ok (ok.out (by rw[hd];decide)) f.reason tn htk.1 htk.2) Z Z ?_)
  rintro _ _ ⟨X,sa,sc,hX,rfl,rfl⟩
  refine ae ?_
  refine CR (aq.tmp 6 Z Z (L':=[bR p (S.refused f.reason tn).1]++(aA gJ 30 sa X.length sc (flat dF X)::X.map iV)) ?_ ⟨X,sa,sc,hX,Z,Z⟩)
  exact((aa.perm jL).trans aa.E1).ah
 ·rw[if_neg (fun h=>ht h.2.2.2)]
  exact rV
end
end Cl
namespace Cl
open Go Vg T Api Ch Rep Rd Conf Sched
attribute [local irreducible] VO VC VA
section
variable {S:aN}
theorem aN.Ok.ask(ok:S.Ok)(h:S.tries≤16)(ho:S.out=some none){now:Int}(h0:0≤now)(h1:now≤1099511627776):(S.ask now).1.Ok:=
 ⟨ok.c0,ok.c1,ok.t0,ok.t1,ok.b0,ok.b1,ok.tok,ok.ml,fun _=>ho,h0,h1,ok.q0,ok.r0,ok.r1,fun _=>h⟩
theorem aN.Ok.br(ok:S.Ok)(h:S.tries≤16)(ho:S.out=some none){now:Int}(h0:0≤now)(h1:now≤1099511627776):(S.br now).1.Ok:=by
 have:=ok.r0
 exact⟨ok.c0,ok.c1,ok.t0,ok.t1,ok.b0,ok.b1,ok.tok,ok.ml,fun _=>ho,h0,h1,ok.q0,by show 0≤S.tries+1;omega,by show S.tries+1≤17;omega,fun e=>by rcases e with e | e<;>exact absurd (show(2:Int)=_ from e) yo⟩
theorem aN.Ok.end_(ok:S.Ok)(o:fu):(S.end_ o).Ok:=
 ⟨ok.c0,ok.c1,ok.t0,ok.t1,ok.b0,ok.b1,ok.tok,ok.ml,fun e=>absurd rfl e,ok.s0,ok.s1,ok.q0,ok.r0,ok.r1,fun e=>by rcases e with e | e<;>exact absurd (show(0:Int)=_ from e) yo⟩
theorem aN.Ok.giveUp(ok:S.Ok)(r:Int):(S.giveUp r).1.Ok:=ok.end_ _
theorem aN.Ok.fR(ok:S.Ok)(ho:S.out=some none)(r now:Int):(S.fR r now).1.Ok:=by
 unfold aN.fR
 split
 ·exact ok.giveUp r
 rename_i h
 have:=ok.b1
 have ok2:(S.rH now).Ok:=⟨ok.c0,ok.c1,ok.t0,ok.t1,ok.b0,ok.b1,ok.tok.take now,ok.ml,ok.out,ok.s0,ok.s1,ok.q0,ok.r0,ok.r1,ok.rb⟩
 split
 ·exact⟨ok.c0,ok.c1,ok.t0,ok.t1,ok.b0,ok.b1,ok.tok.take now,ok.ml,fun _=>ho,ok.s0,ok.s1,ok.q0,ok.r0,ok.r1,fun _=>by show S.tries≤16;omega⟩
 ·exact ok2.giveUp r
theorem aN.Ok.unsure(ok:S.Ok):({ S with unsure:=true }:aN).Ok:=⟨ok.c0,ok.c1,ok.t0,ok.t1,ok.b0,ok.b1,ok.tok,ok.ml,ok.out,ok.s0,ok.s1,ok.q0,ok.r0,ok.r1,ok.rb⟩
theorem aN.Ok.refused(ok:S.Ok)(ho:S.out=some none)(r now:Int):(S.refused r now).1.Ok:=by
 unfold aN.refused
 split
 ·exact ok.unsure.fR ho r now
 split
 ·exact ok.giveUp r
 ·exact ok.fR ho r now
theorem aN.Ok.take(ok:S.Ok)(f:ay)(ms:List aR)(now:Int):(S.take f ms now).1.Ok:=by
 have ht:=sS now
 unfold aN.take
 split
 ·split
  ·exact ok
  rename_i hc
  have hc0:e_ ⟨f.dV,ms,f.drain⟩=0:=Classical.byContradiction fun e=>hc (.inl e)
  have ok2:({ S with ch:=⟨f.dV,ms,f.drain⟩ }:aN).Ok:=⟨ok.c0,ok.c1,ok.t0,ok.t1,ok.b0,ok.b1,ok.tok,(qV hc0).2.1,ok.out,ok.s0,ok.s1,ok.q0,ok.r0,ok.r1,ok.rb⟩
  split
  ·rename_i h1
   exact ok2.br (ok.rb (.inl h1)) (ok.out (by rw[h1];decide)) ht.1 ht.2
  ·exact ok2
 split
 ·split
  ·exact ok.end_ _
  ·exact ok
 split
 ·split
  ·rename_i h
   exact ok.refused (ok.out (by rw[h.1];decide)) _ _
  ·exact ok
 ·exact ok
theorem aN.Ok.tick(ok:S.Ok)(now:Int):(S.tick now).1.Ok:=by
 have ht:=sS now
 unfold aN.tick
 split
 ·rename_i h
  split
  ·exact ok.unsure.fR (ok.out cN) _ _
  ·exact ok
 split
 ·rename_i h
  split
  ·exact ok
  split
  ·exact ok.giveUp _
  ·exact ok.ask (ok.rb (.inl h)) (ok.out cN) ht.1 ht.2
 split
 ·rename_i h
  split
  ·exact ok.ask (ok.rb (.inr h)) (ok.out cN) ht.1 ht.2
  ·exact ok
 ·exact ok
theorem aN.Ok.begun(ok:S.Ok)(o:bB)(cl d:Int):(S.begun o cl d).Ok:=by
 have:=ok.q0
 exact⟨ok.c0,ok.c1,ok.t0,ok.t1,ok.b0,ok.b1,ok.tok,ok.ml,fun _=>rfl,ok.s0,ok.s1,by show 0≤S.seq+1;omega,cd _,by show(0:Int)≤17;decide,fun _=>by show(0:Int)≤16;decide⟩
theorem aN.Ok.call(ok:S.Ok)(o:bB)(cl d now:Int):(S.call o cl d now).1.Ok:=by
 have ht:=sS now
 unfold aN.call
 split
 ·exact ok
 split
 ·exact(ok.begun o cl d).br (by show(0:Int)≤16;decide) Z ht.1 ht.2
 ·exact(ok.begun o cl d).ask (by show(0:Int)≤16;decide) Z ht.1 ht.2
end
section
variable {p:Nat} {S:aN}
theorem R7(ok:S.Ok)(now:Int):az Tryz.prog 107 [.pointer (some ⟨p,0,none⟩),.int .i64 now] Fr w [bR p S] (fun v L=>nG (S.tick now).2 v L [bR p (S.tick now).1]):=by
 have htk:=sS now
 have s0:=ok.s0
 have s1:=ok.s1
 unfold aN.tick
 generalize htn:bA now=tn at htk
 refine TF 68 Tryz.func107 Z ym aD Z Z ?_
 refine vQ ?_
 rintro y -
 show VC _ _ _ [pt p (dv S y) jT,pt y.q (eI S.tok) gg,aA aU 2 y.a S.ch.ms.length y.c (flat aH S.ch.ms),kY S.out y.b] _
 have rn:dq ⟨Tryz.prog,tab,aD,68,Fr,w⟩ [pt p (dv S y) jT,pt y.q (eI S.tok) gg,aA aU 2 y.a S.ch.ms.length y.c (flat aH S.ch.ms),kY S.out y.b] [bR p S]:=(aa.du (K:=[]) y aa.refl).ah
 refine ae ?_
 refine H9 ?_
 refine pK ?_
 refine H_ ?_
 rw[htn]
 refine aj ?_
 refine CE Z (fun k2=>?_) (fun k2=>?_)
 ·rw[if_pos k2]
  have ho:=ok.out (by rw[k2];decide)
  refine ae ?_
  refine CD (ts 0 11 .nil) ym yr ?_
  refine bt ?_
  refine xM ?_
  refine bt ?_
  refine CP (p:=S.timeout≤tn-S.since) Z (fun h=>?_) (fun h=>CK ?_)
  ·rw[if_pos h]
   refine ae ?_
   refine Pu ?_
   refine VO.ah (L':=[bR p { S with unsure:=true }]) (aa.du (S:={ S with unsure:=true }) (K:=[]) y aa.refl).ah ?_
   refine ae ?_
   refine VG (VK (Lc:=[bR p { S with unsure:=true }]) (Lr:=[]) (fun Fr w hF hw _=>JF Fr w ok.unsure ho 0 tn htk.1 htk.2) Z Z ?_)
   rintro _ _ ⟨X,sa,sc,hX,rfl,rfl⟩
   refine ae ?_
   exact DU
  ·rw[if_neg h]
   refine ae ?_
   exact DV
 rw[if_neg k2]
 refine ae ?_
 refine CE Z (fun k1=>?_) (fun k1=>?_)
 ·rw[if_pos k1]
  have ho:=ok.out (by rw[k1];decide)
  refine ae ?_
  refine CD (ts 0 11 .nil) ym yr ?_
  refine bt ?_
  refine xM ?_
  refine bt ?_
  refine CP (p:=tn-S.since<S.timeout) Z (fun h=>CX ?_) (fun h=>CK ?_)
  ·rw[if_pos h]
   refine ae ?_
   exact DV
  rw[if_neg h]
  refine aj ?_
  refine CP (p:=S.deadline<tn) Z (fun h2=>?_) (fun h2=>CK ?_)
  ·rw[if_pos h2]
   refine CN rn ?_
   refine ae ?_
   refine VG (VK (Lc:=[bR p S]) (Lr:=[]) (fun Fr w hF hw _=>EM Fr w ho 2) Z Z ?_)
   rintro _ _ ⟨X,sa,sc,hX,rfl,rfl⟩
   refine ae ?_
   exact DU
  ·rw[if_neg h2]
   refine CN rn ?_
   refine ae ?_
   refine Pv ?_
   rintro _ _ ⟨X,sa,sc,hX,rfl,rfl⟩
   refine ae ?_
   exact DU
 rw[if_neg k1]
 refine ae ?_
 refine CE Z (fun k3=>?_) (fun k3=>CK ?_)
 ·rw[if_pos k3]
  refine aj ?_
  refine CP (p:=S.Dp≤tn) Z (fun h=>?_) (fun h=>CK ?_)
  ·rw[if_pos h]
   refine CN rn ?_
   refine ae ?_
   refine Pv ?_
   rintro _ _ ⟨X,sa,sc,hX,rfl,rfl⟩
   refine ae ?_
   exact DU
  ·rw[if_neg h]
   refine ae ?_
   exact DV
 ·rw[if_neg k3]
  refine ae ?_
  exact DV
end
end Cl
namespace Cl
open Go Vg T Api Ch Rep Conf Sched
attribute [local irreducible] VO VC VA
section
variable {p:Nat} {S:aN}
def JJ(S:aN):List Value:=(dv S ⟨0,0,none,0⟩).set 4 (.pointer none)
theorem wA{o:bB}{cl d now e:Int}(h:S.gD o cl d=e)(he:e≠0):(S.call o cl d now).1=S∧(S.call o cl d now).2=[]:=by
 unfold aN.call;rw[if_pos (by rw[h];exact he)];exact⟨rfl,rfl⟩
theorem Rx(ok:S.Ok)(hq:S.seq≤1000000000)(o:bB)(cl d now:Int):az Tryz.prog 93 [.pointer (some ⟨p,0,none⟩),.agg o.cells.toArray,.int .i64 cl,.int .i64 d,.int .i64 now] Fr w [bR p S]
  (fun v L=>xu (S.call o cl d now).2 (S.gD o cl d) v L [bR p (S.call o cl d now).1]):=by
 have htk:=sS now
 have q0:=ok.q0
 refine TF 78 Tryz.func93 Z ym aD Z Z ?_
 refine vQ ?_
 rintro y -
 show VC _ _ _ [pt p (dv S y) jT,pt y.q (eI S.tok) gg,aA aU 2 y.a S.ch.ms.length y.c (flat aH S.ch.ms),kY S.out y.b] _
 refine CS (CG (VG (VB (vs:=o.cells) Z fun ob=>VO.ah (L':=[pt p (dv S y) jT,pt y.q (eI S.tok) gg,aA aU 2 y.a S.ch.ms.length y.c (flat aH S.ch.ms),kY S.out y.b,pt ob o.cells 35]) (bm [1,1,1,1,0]).ah ?_)))
 refine ae ?_
 refine H9 ?_
 refine ae ?_
 refine qC ?_
 refine ae ?_
 refine VG (VV (fun Fr w hF hw hS=>EI Fr w ok (hS.aC 0 Z)) Z ?_)
 refine ae ?_
 refine CC Z (fun hb=>?_) (fun hb=>?_)
 ·have he:S.gD o cl d=63:=by unfold aN.gD;rw[if_pos (by simpa using hb)]
  refine ae ?_
  exact CR (aq.dh 10 11 Z Z Z (wD (y:=y) (R:=[_])).ah Ql)
 have hd0:S.eR=0:=by simpa using hb
 have hcE:S.gD o cl d=if dD o≠0∨cl<0∨S.cls≤cl∨d<0∨1099511627776<d then 2 else 0:=by unfold aN.gD;rw[if_neg (fun h=>h hd0)]
 refine CS (VC.dX (σ:=Bool) (fun b=>[(0,pV p),(2,.int .i64 cl),(3,.int .i64 d),(4,.int .i64 now),(6,pV ob),(19,.bool b)]) (fun _=>[pt p (dv S y) jT,pt y.q (eI S.tok) gg,aA aU 2 y.a S.ch.ms.length y.c (flat aH S.ch.ms),kY S.out y.b,pt ob o.cells 35]) (fun b=>b=true↔(dD o≠0∨cl<0∨S.cls≤cl∨d<0∨1099511627776<d)) ?_ ?_)
 ·refine ae ?_
  refine VG (VL 4 o.cells Z Z Z Z ?_)
  refine VG (VV (fun Fr w hF hw hS=>Api.iG Fr w o) Z ?_)
  refine ae ?_
  refine VC.dH Z (fun k1=>CK ?_) (fun k1=>?_)
  ·exact⟨true,by simp[k1],SC Z (SC Z (SC Z (SC Z (SC Z (Sub.bl Z (by rw[bne_iff_ne];exact k1) (SN _)))))),ER⟩
  refine ae ?_
  refine CP (p:=cl<0) Z (fun k2=>CK ?_) (fun k2=>?_)
  ·exact⟨true,by simp[k2],SC Z (SC Z (SC Z (SC Z (SC Z (Sub.bl Z (DT k2) (SN _)))))),ER⟩
  refine aj ?_
  refine CP (p:=S.cls≤cl) Z (fun k3=>CK ?_) (fun k3=>?_)
  ·exact⟨true,by simp[k3],SC Z (SC Z (SC Z (SC Z (SC Z (Sub.bl Z (DT k3) (SN _)))))),ER⟩
  refine ae ?_
  refine CP (p:=d<0) Z (fun k4=>CK ?_) (fun k4=>?_)
  ·exact⟨true,by simp[k4],SC Z (SC Z (SC Z (SC Z (SC Z (Sub.bl Z (DT k4) (SN _)))))),ER⟩
  refine ae ?_
  exact⟨decide (1099511627776<d),by simp[k1,k2,k3,k4],SC Z (SC Z (SC Z (SC Z (SC Z (Sub.bl Z Z (SN _)))))),ER⟩
 rintro b hb2
 refine ae ?_
 refine CC Z (fun k=>?_) (fun k=>CK ?_)
 ·have he:S.gD o cl d=2:=by rw[hcE,if_pos (hb2.1 k)]
  refine ae ?_
  exact CR (aq.dh 10 11 Z Z Z (wD (y:=y) (R:=[_])).ah Ql)
 have he:S.gD o cl d=0:=by rw[hcE,if_neg (fun h=>by rw[hb2.2 h] at k;cases k)]
 rw[he]
 refine ae ?_
 refine H_ ?_
 refine ae ?_
 generalize htn:bA now=tn at htk
 refine VG (VK (Lc:=[]) (fun Fr w hF hw _=>XV Fr w) Z Z ?_)
 rintro _ _ ⟨sb,rfl,rfl⟩
 refine VO.ah (L':=[pt p (dv S y) jT,pt y.q (eI S.tok) gg,aA aU 2 y.a S.ch.ms.length y.c (flat aH S.ch.ms),pt sb (oW none) nH,pt ob o.cells 35]) (bm [1,1,1,0,1]).ah ?_
 refine ae ?_
 refine VG (VO.st 0 (cs':=dv { S with out:=some none } { y with b:=sb }) Z Z Z Z (by show 8<21;omega) Z Z ?_)
 refine aj ?_
 refine VG (VP Z Z f_ f_ ?_)
 refine ae ?_
 refine VG (VO.st 0 (cs':=dv { S with out:=some none,seq:=S.seq+1 } { y with b:=sb }) Z Z Z Z (by show 13<21;omega) Z Z ?_)
 refine ae ?_
 refine VG (VO.st 0 (cs':=dv { S with out:=some none,seq:=S.seq+1,tries:=0 } { y with b:=sb }) Z Z Z Z (by show 14<21;omega) Z Z ?_)
 refine VG (VO.st 0 (cs':=dv { S with out:=some none,seq:=S.seq+1,tries:=0,unsure:=false } { y with b:=sb }) Z Z Z Z Qk Z Z ?_)
 refine ae ?_
 refine VG (VL 4 o.cells Z Z Z Z ?_)
 refine ae ?_
 refine VG (VT (vs:=o.cells) (cs':=dv { S with out:=some none,seq:=S.seq+1,tries:=0,unsure:=false,op:=o } { y with b:=sb }) 0 Z Z Z Z (by show 17+4≤21;omega) Z Z Z ?_)
 refine VG (VO.st 0 (cs':=dv { S with out:=some none,seq:=S.seq+1,tries:=0,unsure:=false,op:=o,cl:=cl } { y with b:=sb }) Z Z Z Z (by show 15<21;omega) Z Z ?_)
 refine VG (VO.st 0 (cs':=dv (S.begun o cl d) { y with b:=sb }) Z Z Z Z (by show 16<21;omega) Z Z ?_)
 refine aj ?_
 have okb:=ok.begun o cl d
 refine CP (p:=0<S.ch.ar) Z (fun hp=>?_) (fun hp=>CK ?_)
 ·have ec:S.call o cl d now=(S.begun o cl d).br tn:=by unfold aN.call;rw[if_neg (by rw[he];decide),if_pos hp,htn]
  rw[ec]
  refine Pw ?_
  refine ae ?_
  refine VG (VK (Lc:=[bR p (S.begun o cl d)]) (Lr:=[]) (fun Fr w hF hw _=>JZ Fr w okb tn) Z Z ?_)
  rintro _ _ ⟨X,sa,sc,hX,rfl,rfl⟩
  refine ae ?_
  exact CR (aq.dh 10 11 Z Z Z ER ⟨X,sa,sc,hX,Z,bK _⟩)
 ·have ec:S.call o cl d now=(S.begun o cl d).ask tn:=by unfold aN.call;rw[if_neg (by rw[he];decide),if_neg hp,htn]
  rw[ec]
  refine Pw ?_
  refine ae ?_
  refine VG (VK (Lc:=[bR p (S.begun o cl d)]) (Lr:=[]) (fun Fr w hF hw _=>JC Fr w okb tn) Z Z ?_)
  rintro _ _ ⟨X,sa,sc,hX,rfl,rfl⟩
  refine ae ?_
  exact CR (aq.dh 10 11 Z Z Z ER ⟨X,sa,sc,hX,Z,bK _⟩)
end
theorem Rf{c r:Int}(h0:0≤c)(h1:c≤16)(h2:1≤r)(h3:r≤1099511627776):az Tryz.prog 52 [.int .i64 c,.int .i64 r] Fr w [] (fun v L=>∃p,v=.tuple #[.pointer (some ⟨p,0,none⟩),.int .i64 0]∧L=[pt p (eI ⟨c,r,c,0,0⟩) gg]):=by
 refine TF 25 Tryz.func52 Z ym aD Z Z ?_
 refine ae ?_
 refine VG (VY 8 false Z (DF yd) ?_)
 refine aw ?_
 refine VG (VY 12 false Z (DF yd) ?_)
 refine aw ?_
 refine VG (VY 16 false Z (DF yd) ?_)
 refine aw ?_
 refine CP (p:=1099511627776<r) Z (fun h=>absurd h yd) (fun h=>CK ?_)
 refine aw ?_
 refine VG (VI (LB (pv:=[(0,.int .i64 c),(1,.int .i64 r),(2,.int .i64 c)]) (eI ⟨c,r,c,0,0⟩) Z Z Z ym Z) ?_)
 refine VG (VB (vs:=eI ⟨c,r,c,0,0⟩) Z fun q=>?_)
 refine ae ?_
 exact CR (aq.dh 4 5 Z Z Z ER ⟨q,Z,Z⟩)
def ql(c:bh)(id:Int):Int:=if c=bI c∧0≤id∧id<c.bC then 0 else 2
theorem Vt{c:bh}(h:c=bI c)(id:Int):(mh c id).Ok:=by
 obtain⟨_,b2,b3,b4,_,b6⟩:=wH h
 exact⟨by show(1:Int)≤c.qs.length;omega,by show(c.qs.length:Int)≤4;omega,by show 0≤c.timeout;omega,by show c.timeout≤1000;omega,b3.1,b3.2,⟨b3.1,b3.2,b4.1,b4.2,b3.1,cd _,cd _,by show(0:Int)≤_;decide,by show(0:Int)≤0;decide,by show(0:Int)≤0;decide⟩,by show 0≤6;decide,fun k=>absurd Z k,by show(0:Int)≤0;decide,by show(0:Int)≤_;decide,by show(0:Int)≤0;decide,by show(0:Int)≤0;decide,by show(0:Int)≤17;decide,fun _=>by show(0:Int)≤16;decide⟩
theorem RR(c:bh){qa:Option Addr}{qc:Nat}(hq:iD Fr w qa c.qs)(hqa:oG qa)(hqc:c.qs.length≤qc)(id:Int):
  az Tryz.prog 23 [.agg (c.cells qa qc).toArray,.int .i64 id] Fr w [] (fun v L=>if ql c id=0 then ∃p,v=.tuple #[.pointer (some ⟨p,0,none⟩),.int .i64 0]∧L=[bR p (mh c id)] else v=.tuple #[.pointer none,.int .i64 2]∧L=[]):=by
 refine TF 42 Tryz.func23 Z ym aD Z Z ?_
 refine CS (CG (VG (VB (vs:=c.cells qa qc) Z fun b2=>VG (VN ?_))))
 refine IL ?_
 refine VG (VV (fun Fr w hF hs _=>Conf.iG Fr w c qa qc (oh hq hF hs) hqa hqc) Z ?_)
 refine aw ?_
 by_cases hf:c=bI c
 rotate_left
 ·have hE:ql c id≠0:=by unfold ql;rw[if_neg (fun h=>hf h.1)];decide
  refine VG (VY 10 true Z (by unfold nY;rw[if_neg hf];rfl) ?_)
  refine aw ?_
  refine VG (VY 14 true Z Z ?_)
  refine kE ?_
  exact Ia
 refine VG (VY 10 false Z (by unfold nY;rw[if_pos hf];rfl) ?_)
 refine aw ?_
 by_cases h0:id<0
 ·have hE:ql c id≠0:=by unfold ql;rw[if_neg (fun h=>by omega)];decide
  refine VG (VY 14 true Z (DT h0) ?_)
  refine kE ?_
  exact Ia
 refine VG (VY 14 false Z (DF h0) ?_)
 refine bW ?_
 refine CP (p:=c.bC≤id) Z (fun h1=>?_) (fun h1=>CK ?_)
 ·have hE:ql c id≠0:=by unfold ql;rw[if_neg (fun h=>by omega)];decide
  refine aw ?_
  exact Ia
 have hE:ql c id=0:=by unfold ql;rw[if_pos ⟨hf,by omega,by omega⟩]
 obtain⟨_,b2,b3,b4,_,b6⟩:=wH hf
 refine bW ?_
 refine VG (VI (LB (pv:=[(0,.int .i64 id),(1,.int .i64 c.qs.length),(2,.int .i64 c.timeout),(3,.int .i64 c.gr)]) (JJ (mh c id)) Z Z Z ym Z) ?_)
 refine VG (VB (vs:=JJ (mh c id)) Z fun p=>?_)
 refine g_ ?_
 refine VG (VK (Lc:=[]) (fun Fr w hF hs _=>Rf Fr w b3.1 b3.2 b4.1 b4.2) Z Z ?_)
 rintro _ _ ⟨q,rfl,rfl⟩
 refine g_ ?_
 refine VG (VO.st 1 (cs':=dv (mh c id) ⟨q,0,none,0⟩) Z Z Z Z (by show 4<21;omega) Z Z ?_)
 refine g_ ?_
 exact CR (aq.dh 4 5 Z Z Z (aa.du (S:=mh c id) (K:=[]) ⟨q,0,none,0⟩ (IP 1 Z (IP 0 Z (aa.dM (aa.pure trivial aa.nil))))).ah (by rw[if_pos hE];exact⟨p,Z,Z⟩))
end Cl
namespace Cl
open Go Vg T Api Ch Rep
attribute [local irreducible] VO VC VA
abbrev lF:TypeId:=101
abbrev lL:TypeId:=211
def recC(r:RecM):List Value:=[.int .i64 r.aF,.int .i64 r.seq]++r.op.cells ++ [.int .i64 r.from_,.int .i64 r.to]++dR r.out
theorem sN(r:RecM):(recC r).length=14:=rfl
def gw(h:bE)(a:Option Addr)(c:Nat):List Value:=[.bool true,.slice a h.bq.length c,.int .i64 h.events]++h.last.map (Value.int .i64)
def Cc(p:Nat)(h:bE)(a:Option Addr)(c:Nat):List HP:=[pt p (gw h a c) lF,aA lL 14 a h.bq.length c (flat recC h.bq)]
def jz(p:Nat)(h:bE):HP:=hex fun y:Option Addr×Nat=>cR (Cc p h y.1 y.2)
theorem ba.his(p:Nat)(h:bE):ba (ι:=Option Addr×Nat) (jz p h) (fun _=>True) (fun y=>Cc p h y.1 y.2):=fun w ids ⟨x,h⟩ hn=>⟨x,trivial,ids,h,hn,fun _ h=>h⟩
theorem aa.his{p:Nat}{S:bE}{L K:List HP}(y:Option Addr×Nat)(h:aa L (Cc p S y.1 y.2++K)):aa L (jz p S::K):=aa.ex (f:=fun y:Option Addr×Nat=>cR (Cc p S y.1 y.2)) y (aa.sep h)
structure bE.Ok(h:bE):Prop where
 rl:h.bq.length≤1000000
 e0:0≤h.events
 e1:h.events≤10000000
 ll:h.last.length=6
 lr:∀x∈h.last,0≤x∧x≤h.bq.length
def bE.mM(h:bE)(c:Int):Int:=(h.last[c.toNat]?).getD 0
section
variable {p:Nat} {S:bE} {a:Option Addr} {cap:Nat}
theorem KE(ok:S.Ok):(gw S a cap).length=9:=by show(_::_::_::S.last.map _).length=9;simp[ok.ll]
theorem TM{k:Nat}{x:Int}(h:S.last[k]?=some x):(gw S a cap)[3+k]?=some (.int .i64 x):=by
 show(_::_::_::S.last.map (Value.int .i64))[3+k]?=_
 rw[show 3+k=k+1+1+1 from by omega]
 simp only[rY]
 rw[eh,h];rfl
theorem TN{k:Nat}(x:Int):(gw S a cap).set (3+k) (.int .i64 x)=gw { S with last:=S.last.set k x } a cap:=by
 show(_::_::_::S.last.map (Value.int .i64)).set (3+k) _=_::_::_::(S.last.set k x).map (Value.int .i64)
 rw[show 3+k=k+1+1+1 from by omega]
 simp only[tu]
 rw[iZ]
theorem bE.Ok.at(ok:S.Ok){c:Int}(h:0≤c∧c<6):∃k:Nat,c=k∧k<6∧S.last[k]?=some (S.mM c)∧0≤S.mM c∧S.mM c≤S.bq.length:=by
 obtain⟨k,rfl⟩:∃k:Nat,c=k:=⟨c.toNat,by omega⟩
 have hk:k<S.last.length:=by rw[ok.ll];omega
 have e:S.last[k]?=some (S.mM (k:Int)):=by
  unfold bE.mM
  rw[dZ,GE hk];rfl
 exact⟨k,Z,by omega,e,ok.lr _ (ME e)⟩
theorem Cg{c:Int}(h:c<0∨6≤c∨S.mM c=0):S.fo c=none:=by unfold bE.fo;exact if_pos h
theorem KP(ok:S.Ok){c:Int}(h0:0≤c)(h1:c<6)(h2:S.mM c≠0):∃i r,S.fo c=some (i,r)∧S.bq[i]?=some r∧S.mM c=(i:Int)+1∧i<S.bq.length:=by
 obtain⟨k,_,_,_,g1,g2⟩:=ok.at ⟨h0,h1⟩
 have hi:(S.mM c).toNat-1<S.bq.length:=by omega
 refine⟨(S.mM c).toNat-1,S.bq[(S.mM c).toNat-1],?_,GE hi,by omega,hi⟩
 unfold bE.fo
 rw[if_neg (fun h=>by
  rcases h with h | h | h
  ·omega
  ·omega
  ·exact h2 h)]
 show(S.bq[(S.mM c).toNat-1]?).map _=_
 rw[GE hi];rfl
theorem KN(ok:S.Ok)(c:Int):(S.fo c=none∧(c<0∨6≤c∨S.mM c=0))∨∃i r,S.fo c=some (i,r)∧S.bq[i]?=some r∧S.mM c=(i:Int)+1∧i<S.bq.length:=by
 by_cases h:c<0∨6≤c∨S.mM c=0
 ·exact .inl ⟨Cg h,h⟩
 ·exact .inr (KP ok yd yd yd)
def oP(S:bE)(a:Option Addr)(c:Int):Value:=match S.fo c with
 | none=>.pointer none
 | some (i,_)=>.pointer (a.map fun x=>⟨x.block,x.off+i*14,none⟩)
theorem TO:az Tryz.prog 20 [] Fr w [] (fun v L=>∃p,v=.pointer (some ⟨p,0,none⟩)∧L=[jz p ud]):=by
 refine TF 3 Tryz.func20 Z ym aD Z Z ?_
 refine ae ?_
 refine VG (VI (LB (pv:=[(0,.bool true)]) (gw ud none 0) Z Z Z ym Z) ?_)
 refine VG (VB (vs:=gw ud none 0) Z fun q=>?_)
 refine ae ?_
 exact CR (aq.tmp 0 Z Z (aa.his (S:=ud) (K:=[]) (none,0) (IP 0 Z (aa.dM aa.nil))).ah ⟨q,Z,Z⟩)
theorem KG(h:bu Fr w p (gw S a cap)):az Tryz.prog 121 [.pointer (some ⟨p,0,none⟩)] Fr w [] (fun v L=>v=.bool false∧L=[]):=by
 refine TF 12 Tryz.func121 Z ym aD Z Z ?_
 refine yC ?_
 refine jH ?_
 exact mB
theorem Uc(ok:S.Ok)(h:bu Fr w p (gw S a cap))(hr:aV recC 14 Fr w a S.bq)(c:Int):az Tryz.prog 122 [.pointer (some ⟨p,0,none⟩),.int .i64 c] Fr w [] (fun v L=>v=oP S a c∧L=[]):=by
 have hrl:=ok.rl
 refine TF 32 Tryz.func122 Z ym aD Z Z ?_
 refine aw ?_
 by_cases h0:c<0
 ·refine VG (VY 7 true Z (DT h0) ?_)
  refine aw ?_
  refine VG (VY 11 true Z Z ?_)
  refine kE ?_
  exact CR (aq.tmp 4 Z Z ER ⟨by rw[oP,Cg (.inl h0)],Z⟩)
 refine VG (VY 7 false Z (DF h0) ?_)
 refine aw ?_
 by_cases h6:6≤c
 ·refine VG (VY 11 true Z (DT h6) ?_)
  refine kE ?_
  exact CR (aq.tmp 4 Z Z ER ⟨by rw[oP,Cg (.inr (.inl h6))],Z⟩)
 refine VG (VY 11 false Z (DF h6) ?_)
 obtain⟨k,rfl,hk,hx,g1,g2⟩:=ok.at (c:=c) ⟨by omega,by omega⟩
 have hx':(gw S a cap)[0+3+k*1]?=some (.int .i64 (S.mM k)):=by rw[show 0+3+k*1=3+k from by omega];exact TM hx
 refine aw ?_
 refine VG (VI (kq k Z Z Z Z Z Z hk) ?_)
 refine VG (VO.load Z Z (ax.aC h hx') ?_)
 refine aw ?_
 refine CE Z (fun hz=>?_) (fun hz=>CK ?_)
 ·refine aw ?_
  exact CR (aq.tmp 4 Z Z ER ⟨by rw[oP,Cg (.inr (.inr hz))],Z⟩)
 obtain⟨i,r,e1,e2,e3,e4⟩:=KP ok yd yd hz
 obtain⟨rb,ro,rfl,_,_⟩:=hr.at_ (fun e=>by rw[e] at e4;exact absurd e4 yf)
 refine ae ?_
 refine CD (ts 0 13 .nil) ym yr ?_
 refine rL ?_
 refine AG (AI Z (kq k Z Z Z Z Z Z hk) ?_)
 refine AG (VA.load Z Z Z (ax.aC h hx') ?_)
 refine xM ?_
 refine AG (AI Z (fp i Z Z Z Z Z yd e4) ?_)
 refine dp ?_
 exact CR (aq.tmp 4 Z Z ER ⟨by rw[oP,e1];rfl,Z⟩)
end
end Cl
namespace Cl
open Go Vg T Api Ch Rep
attribute [local irreducible] VO VC VA
section
variable {p:Nat} {S:bE}
def sk(S:bE)(c seq:Int)(o:bB):RecM:=⟨c,seq,o,S.events,-1,Mo⟩
theorem bE.BS{c seq:Int}{o:bB}(h:c<0∨6≤c∨seq<1∨dD o≠0):S.gD c seq o=2:=by unfold bE.gD;exact if_pos h
theorem bE.Ro{c seq:Int}{o:bB}(h:¬(c<0∨6≤c∨seq<1∨dD o≠0))(h2:S.fo c=none):S.gD c seq o=0:=by unfold bE.gD;rw[if_neg h,h2]
theorem bE.Rp{c seq:Int}{o:bB}{i:Nat}{r:RecM}(h:¬(c<0∨6≤c∨seq<1∨dD o≠0))(h2:S.fo c=some (i,r)):S.gD c seq o=if r.to<0 then 63 else if seq≤r.seq then 70 else 0:=by unfold bE.gD;rw[if_neg h,h2]
theorem bE.wA{c seq e:Int}{o:bB}(h:S.gD c seq o=e)(he:e≠0):S.call c seq o=S:=by unfold bE.call;rw[h,if_pos he]
theorem bE.Rt{c seq:Int}{o:bB}(h:S.gD c seq o=0):S.call c seq o=⟨S.bq ++ [sk S c seq o],S.events+1,S.last.set c.toNat ((S.bq.length:Int)+1)⟩:=by unfold bE.call;rw[h,if_neg yo];rfl
theorem bE.Ok.call(ok:S.Ok)(h1:S.bq.length<1000000)(h2:S.events<10000000)(c seq:Int)(o:bB):(S.call c seq o).Ok:=by
 unfold bE.call
 split
 ·exact ok
 have:=ok.e0
 refine⟨by show(S.bq ++ [_]).length≤_;rw[a_];simp;omega,by show 0≤S.events+1;omega,by show S.events+1≤_;omega,by show(S.last.set _ _).length=6;rw[iB,ok.ll],fun x hx=>?_⟩
 show 0≤x∧x≤((S.bq ++ [_]).length:Int)
 rw[a_]
 rcases lP hx with h | h
 ·have:=ok.lr x h;simp;omega
 ·rw[h];simp;omega
theorem TG(ok:S.Ok)(h2:S.events<10000000)(c seq:Int)(o:bB):az Tryz.prog 94 [.pointer (some ⟨p,0,none⟩),.int .i64 c,.int .i64 seq,.agg o.cells.toArray] Fr w [jz p S]
  (fun v L=>v=.int .i64 (S.gD c seq o)∧L=[jz p (S.call c seq o)]):=by
 have hrl:=ok.rl
 have he0:=ok.e0
 refine TF 77 Tryz.func94 Z ym aD Z Z ?_
 refine VC.bJ 0 Z (ba.his p S) ?_
 rintro⟨a,cap⟩ -
 show VC _ _ _ [pt p (gw S a cap) lF,aA lL 14 a S.bq.length cap (flat recC S.bq)] _
 refine CS (CG (VG (VB (vs:=o.cells) Z fun ob=>VO.ah (L':=[pt p (gw S a cap) lF,aA lL 14 a S.bq.length cap (flat recC S.bq),pt ob o.cells 35]) (bm [1,1,0]).ah ?_)))
 have fin:∀a cap,dq ⟨Tryz.prog,tab,aD,77,Fr,w⟩ [pt p (gw S a cap) lF,aA lL 14 a S.bq.length cap (flat recC S.bq),pt ob o.cells 35] [jz p S]:=fun a cap=>(aa.his (K:=[]) (a,cap) (bm [0,0])).ah
 refine ae ?_
 refine VG (VV (fun Fr w hF hw hS=>KG Fr w (hS.aC 0 Z)) Z ?_)
 refine qG ?_
 refine aw ?_
 by_cases k0:c<0
 ·have hE:=bE.BS (S:=S) (c:=c) (seq:=seq) (o:=o) (.inl k0)
  refine VG (VY 14 true Z (DT k0) ?_)
  refine aw ?_
  refine VG (VY 18 true Z Z ?_)
  refine aw ?_
  refine VG (VY 22 true Z Z ?_)
  refine kE ?_
  exact DW
 refine VG (VY 14 false Z (DF k0) ?_)
 refine aw ?_
 by_cases k1:6≤c
 ·have hE:=bE.BS (S:=S) (c:=c) (seq:=seq) (o:=o) (.inr (.inl k1))
  refine VG (VY 18 true Z (DT k1) ?_)
  refine aw ?_
  refine VG (VY 22 true Z Z ?_)
  refine kE ?_
  exact DW
 refine VG (VY 18 false Z (DF k1) ?_)
 refine aw ?_
 by_cases k2:seq<1
 ·have hE:=bE.BS (S:=S) (c:=c) (seq:=seq) (o:=o) (.inr (.inr (.inl k2)))
  refine VG (VY 22 true Z (DT k2) ?_)
  refine kE ?_
  exact DW
 refine VG (VY 22 false Z (DF k2) ?_)
 refine aw ?_
 refine VG (VL 2 o.cells Z Z Z Z ?_)
 refine VG (VV (fun Fr w hF hw hS=>Api.iG Fr w o) Z ?_)
 refine aw ?_
 refine VC.dH Z (fun k3=>?_) (fun k3=>CK ?_)
 ·have hE:=bE.BS (S:=S) (c:=c) (seq:=seq) (o:=o) (.inr (.inr (.inr k3)))
  refine aw ?_
  exact DW
 have hn:¬(c<0∨6≤c∨seq<1∨dD o≠0):=by
  rintro(h | h | h | h)
  ·exact k0 h
  ·exact k1 h
  ·exact k2 h
  ·exact h k3
 refine CS (VC.dX (σ:=Option Addr×Nat) (fun _=>[(0,pV p),(1,.int .i64 c),(2,.int .i64 seq),(7,pV ob)]) (fun y=>[pt p (gw S y.1 y.2) lF,aA lL 14 y.1 S.bq.length y.2 (flat recC S.bq),pt ob o.cells 35]) (fun _=>S.gD c seq o=0) ?_ ?_)
 ·refine ae ?_
  refine Px ?_
  rcases KN ok c with ⟨e1,_⟩ | ⟨i,r,e1,e2,e3,e4⟩
  ·rw[show oP S a c=.pointer none by rw[oP,e1]]
   refine qG ?_
   exact⟨(a,cap),bE.Ro hn e1,aP,ER⟩
  have hE:=bE.Rp hn e1
  refine VO.bJ 1 Z (ba.sl _ _ _ _ _ _) ?_
  rintro(_ | ⟨mb,rest⟩) ⟨x1,x2,x3⟩
  ·obtain⟨_,h0,_⟩:=x3
   omega
  obtain⟨rfl,x4⟩:=x3
  rw[show oP S (some ⟨mb,0,none⟩) c=.pointer (some ⟨mb,0+i*14,none⟩) by rw[oP,e1];rfl]
  show VO _ _ _ _ _ [pt mb (flat recC S.bq++rest) lL,pt p (gw S (some ⟨mb,0,none⟩) cap) lF,pt ob o.cells 35] _
  have back:dq ⟨Tryz.prog,tab,aD,77,Fr,w⟩ [pt mb (flat recC S.bq++rest) lL,pt p (gw S (some ⟨mb,0,none⟩) cap) lF,pt ob o.cells 35] [pt p (gw S (some ⟨mb,0,none⟩) cap) lF,aA lL 14 (some ⟨mb,0,none⟩) S.bq.length cap (flat recC S.bq),pt ob o.cells 35]:=(IP 1 rfl (aa.sl x1 x2 x4 aa.refl)).ah
  have c7:(flat recC S.bq++rest)[0+i*14+7]?=some (.int .i64 r.to):=by rw[di];exact qe sN e2 rfl rest
  have c1:(flat recC S.bq++rest)[0+i*14+1]?=some (.int .i64 r.seq):=by rw[di];exact qe sN e2 rfl rest
  refine vU ?_
  refine VG (VO.load Z Z (ax.one 0 Z c7) ?_)
  refine ae ?_
  refine CP (p:=r.to<0) Z (fun j=>?_) (fun j=>CK ?_)
  ·have hE2:S.gD c seq o=63:=by rw[hE,if_pos j]
   refine CN back ?_
   refine ae ?_
   exact Py
  refine ae ?_
  refine VG (VO.load Z Z (ax.one 0 Z c1) ?_)
  refine ae ?_
  refine CP (p:=seq≤r.seq) Z (fun j2=>?_) (fun j2=>CK ?_)
  ·have hE2:S.gD c seq o=70:=by rw[hE,if_neg j,if_pos j2]
   refine CN back ?_
   refine ae ?_
   exact Py
  exact⟨(some ⟨mb,0,none⟩,cap),by rw[hE,if_neg j,if_neg j2],aP,back⟩
 rintro⟨a,cap⟩ hE
 dsimp only
 have hc:=bE.Rt hE
 obtain⟨k,rfl,hk,hx,g1,g2⟩:=ok.at (c:=c) ⟨by omega,by omega⟩
 refine CS (CD (ts 0 13 (.only 13 (.only 14 (ts 15 2 (.only 17 .nil))))) ym yr ?_)
 refine fK ?_
 refine AG (VA.dQ 2 o.cells Z Z Z Z Z ?_)
 refine fK ?_
 refine AG (AI Z (LB (pv:=[(0,.int .i64 k),(1,.int .i64 seq),(2,.agg o.cells.toArray),(3,.int .i64 S.events),(4,.int .i64 (-1))]) (recC (sk S k seq o)) Z Z Z ym Z) ?_)
 refine AG (AO (aQ.buildSlice (n:=1) (pv:=[(0,.agg (recC (sk S k seq o)).toArray)]) (cells:=recC (sk S k seq o)) Z Z Z Z yo (ji Z Z Z)) Z ?_ ?_)
 ·rintro _ _ ⟨nb,rfl,rfl⟩
  exact yu
 rintro _ _ ⟨nb,rfl,rfl⟩
 refine AG (AO (aQ.append (m:=1) (news:=recC (sk S k seq o)) 2 Z Z Z Z Z Z Z (fv.pt 0 Z Z Z) Z (by show(S.bq.length+1)*136≤_;omega) yd) Z ?_ ?_)
 ·rintro _ _ ⟨a1,c1,rfl,hc1,rfl⟩
  exact yu
 rintro _ _ ⟨a1,c1,rfl,hc1,rfl⟩
 refine iL ?_
 have e1:S.bq.length+1=(S.bq ++ [sk S k seq o]).length:=by rw[a_];rfl
 refine AG (VA.st 2 (cs':=gw { S with bq:=S.bq ++ [sk S k seq o] } a1 c1) Z Z Z Z Z (by rw[KE ok];decide) (by rw[e1];rfl) Z yu ?_)
 refine dp ?_
 generalize hS1:({ S with bq:=S.bq ++ [sk S k seq o] }:bE)=S1
 have l1:S1.bq=S.bq ++ [sk S k seq o]:=by rw[←hS1]
 have l2:S1.last=S.last:=by rw[←hS1]
 have l3:S1.events=S.events:=by rw[←hS1]
 refine CN (L':=[pt p (gw S1 a1 c1) lF,aA lL 14 a1 S1.bq.length c1 (flat recC S1.bq),pt ob o.cells 35]) ?_ ?_
 ·rw[l1,jU,zx,←e1]
  exact(bm [2,0,1]).ah
 refine HD ?_
 refine fK ?_
 refine AG (AI Z (kq k Z Z Z Z Z Z hk) ?_)
 refine AG (VA.st 0 (cs':=gw { S1 with last:=S1.last.set k S1.bq.length } a1 c1) Z Z Z Z Z (by show 0+3+k*1<(_::_::_::S1.last.map _).length;rw[l2];simp[ok.ll];omega) (by show(gw S1 a1 c1).set (0+3+k*1) _=_;rw[show 0+3+k*1=3+k from by omega];exact TN _) Z yu ?_)
 refine dp ?_
 refine CN (L':=[pt p (gw { S1 with last:=S1.last.set k S1.bq.length } a1 c1) lF,aA lL 14 a1 S1.bq.length c1 (flat recC S1.bq)]) (bm [0,0]).ah ?_
 refine aj ?_
 refine VG (VP Z Z f_ f_ ?_)
 refine ae ?_
 refine VG (VO.st 0 (cs':=gw { S1 with last:=S1.last.set k S1.bq.length,events:=S1.events+1 } a1 c1) Z Z Z Z (by show 2<(_::_::_::(S1.last.set k _).map _).length;simp) Z Z ?_)
 refine ae ?_
 refine CR (aq.tmp 8 Z Z (L':=[jz p { S1 with last:=S1.last.set k S1.bq.length,events:=S1.events+1 }]) (aa.his (S:={ S1 with last:=S1.last.set k S1.bq.length,events:=S1.events+1 }) (K:=[]) (a1,c1) aa.refl).ah ⟨by rw[hE],?_⟩)
 rw[hc,l1,l2,l3,←e1,dZ]
 rfl
end
end Cl
namespace Cl
open Go Vg T Api Ch Rep
attribute [local irreducible] VO VC VA
theorem acn{B R vs:List Value}{o j n:Nat}(hR:(B.drop o).take n=R)(hn:R.length=n)(hj:j+vs.length≤n)(ho:o≤B.length):dT B (o+j) vs=dT B o (dT R j vs):=by
 have hB:B.drop o=R++B.drop (o+n):=by rw[←hR,←List.drop_drop,List.take_append_drop]
 have h1:(dT R j vs).length=n:=by unfold dT;simp;omega
 have h2:B.take (o+j)=B.take o++R.take j:=by
  rw[List.take_add,hB,List.take_append_of_le_length yd]
 have h3:B.drop (o+j+vs.length)=R.drop (j+vs.length)++B.drop (o+n):=by
  rw[Nat.add_assoc,←List.drop_drop,hB,List.drop_append_of_le_length yd]
 unfold dT at h1 ⊢
 rw[h1,h2,h3]
 simp
theorem Tc{α:Type}{c:α→List Value}{n:Nat}(h:∀a,(c a).length=n){i j:Nat}{l:List α}{a a':α}{vs:List Value}(ha:l[i]?=some a)(hj:j+vs.length≤n)(hc:dT (c a) j vs=c a')(rest:List Value):dT (flat c l++rest) (i*n+j) vs=flat c (l.set i a')++rest:=by
 have hi:i<l.length:=(bY.1 ha).1
 have hle:i*n≤l.length*n:=r7 n (Nat.le_of_lt hi)
 rw[←wU h a' rest hi,←hc]
 exact acn (ph h ha rest) (h a) hj (by rw[a_,fA h];omega)
section
variable {p:Nat} {S:bE}
def bE.qY(h:bE)(c seq:Int)(o:fu):Int:=
 if o.kind≠1∧o.kind≠2∧o.kind≠3 then 2
 else match h.fo c with
  | none=>4
  | some (i,r)=>if r.seq≠seq∨0≤r.to then 4 else 0
def tO(S:bE)(r:RecM)(o:fu):RecM:={ r with to:=S.events,out:=o }
theorem bE.Sr{c seq:Int}{o:fu}(h:o.kind≠1∧o.kind≠2∧o.kind≠3):S.end_ c seq o=S∧S.qY c seq o=2:=by unfold bE.end_ bE.qY;rw[if_pos h,if_pos h];exact⟨rfl,rfl⟩
theorem bE.Ss{c seq:Int}{o:fu}(h:¬(o.kind≠1∧o.kind≠2∧o.kind≠3))(h2:S.fo c=none):S.end_ c seq o=S∧S.qY c seq o=4:=by unfold bE.end_ bE.qY;rw[if_neg h,if_neg h,h2];exact⟨rfl,rfl⟩
theorem bE.J'{c seq:Int}{o:fu}{i:Nat}{r:RecM}(h:¬(o.kind≠1∧o.kind≠2∧o.kind≠3))(h2:S.fo c=some (i,r))(h3:r.seq≠seq∨0≤r.to):S.end_ c seq o=S∧S.qY c seq o=4:=by
 unfold bE.end_ bE.qY;rw[if_neg h,if_neg h,h2];dsimp only;rw[if_pos h3,if_pos h3];exact⟨rfl,rfl⟩
theorem bE.Su{c seq:Int}{o:fu}{i:Nat}{r:RecM}(h:¬(o.kind≠1∧o.kind≠2∧o.kind≠3))(h2:S.fo c=some (i,r))(h3:¬(r.seq≠seq∨0≤r.to)):S.end_ c seq o={ S with bq:=S.bq.set i (tO S r o),events:=S.events+1 }∧S.qY c seq o=0:=by
 unfold bE.end_ bE.qY;rw[if_neg h,if_neg h,h2];dsimp only;rw[if_neg h3,if_neg h3];exact⟨rfl,rfl⟩
theorem bE.Ok.end_(ok:S.Ok)(h2:S.events<10000000)(c seq:Int)(o:fu):(S.end_ c seq o).Ok:=by
 have:=ok.e0
 unfold bE.end_
 split
 ·exact ok
 split
 ·exact ok
 split
 ·exact ok
 refine⟨by show(S.bq.set _ _).length≤_;rw[iB];exact ok.rl,by show 0≤S.events+1;omega,by show S.events+1≤_;omega,ok.ll,fun x hx=>?_⟩
 show 0≤x∧x≤((S.bq.set _ _).length:Int)
 rw[iB]
 exact ok.lr x hx
theorem TL(ok:S.Ok)(h2:S.events<10000000)(c seq:Int)(o:fu):az Tryz.prog 66 [.pointer (some ⟨p,0,none⟩),.int .i64 c,.int .i64 seq,.agg (dR o).toArray] Fr w [jz p S]
  (fun v L=>v=.int .i64 (S.qY c seq o)∧L=[jz p (S.end_ c seq o)]):=by
 have hrl:=ok.rl
 have he0:=ok.e0
 refine TF 63 Tryz.func66 Z ym aD Z Z ?_
 refine VC.bJ 0 Z (ba.his p S) ?_
 rintro⟨a,cap⟩ -
 show VC _ _ _ [pt p (gw S a cap) lF,aA lL 14 a S.bq.length cap (flat recC S.bq)] _
 refine CS (CG (VG (VB (vs:=dR o) Z fun ob=>VO.ah (L':=[pt p (gw S a cap) lF,aA lL 14 a S.bq.length cap (flat recC S.bq),pt ob (dR o) 133]) (bm [1,1,0]).ah ?_)))
 have fin:dq ⟨Tryz.prog,tab,aD,63,Fr,w⟩ [pt p (gw S a cap) lF,aA lL 14 a S.bq.length cap (flat recC S.bq),pt ob (dR o) 133] [jz p S]:=(aa.his (K:=[]) (a,cap) (bm [0,0])).ah
 refine ae ?_
 refine VG (VV (fun Fr w hF hw hS=>KG Fr w (hS.aC 0 Z)) Z ?_)
 refine qG ?_
 refine CS (VC.dX (σ:=Unit) (fun _=>[(0,pV p),(1,.int .i64 c),(2,.int .i64 seq),(7,pV ob)]) (fun _=>[pt p (gw S a cap) lF,aA lL 14 a S.bq.length cap (flat recC S.bq),pt ob (dR o) 133]) (fun _=>¬(o.kind≠1∧o.kind≠2∧o.kind≠3)) ?_ ?_)
 ·refine jG ?_
  by_cases k1:o.kind=1
  ·refine VG (VY 15 false Z (by simp[k1]) ?_)
   refine jG ?_
   refine VG (VY 20 false Z Z ?_)
   refine jG ?_
   refine js ?_
   exact⟨(),fun h=>h.1 k1,aP,ER⟩
  refine VG (VY 15 true Z (by simp[k1]) ?_)
  refine jG ?_
  by_cases k2:o.kind=2
  ·refine VG (VY 20 false Z (by simp[k2]) ?_)
   refine jG ?_
   refine js ?_
   exact⟨(),fun h=>h.2.1 k2,aP,ER⟩
  refine VG (VY 20 true Z (by simp[k2]) ?_)
  refine jG ?_
  refine VC.dH Z (fun k3=>?_) (fun k3=>CK ?_)
  ·obtain⟨g1,g2⟩:=bE.Sr (S:=S) (c:=c) (seq:=seq) (o:=o) ⟨k1,k2,k3⟩
   refine aw ?_
   exact DX
  exact⟨(),fun h=>h.2.2 k3,aP,ER⟩
 rintro-hk
 refine ae ?_
 refine Px ?_
 rcases KN ok c with ⟨e1,_⟩ | ⟨i,r,e1,e2,e3,e4⟩
 ·obtain⟨g1,g2⟩:=bE.Ss (seq:=seq) hk e1
  rw[show oP S a c=.pointer none by rw[oP,e1]]
  refine aw ?_
  refine VG (VY 30 true Z Z ?_)
  refine aw ?_
  refine VG (VY 38 true Z Z ?_)
  refine kE ?_
  exact DX
 refine VO.bJ 1 Z (ba.sl _ _ _ _ _ _) ?_
 rintro(_ | ⟨mb,rest⟩) ⟨x1,x2,x3⟩
 ·obtain⟨_,h0,_⟩:=x3
  omega
 obtain⟨rfl,x4⟩:=x3
 rw[show oP S (some ⟨mb,0,none⟩) c=.pointer (some ⟨mb,0+i*14,none⟩) by rw[oP,e1];rfl]
 show VO _ _ _ _ _ [pt mb (flat recC S.bq++rest) lL,pt p (gw S (some ⟨mb,0,none⟩) cap) lF,pt ob (dR o) 133] _
 have back:dq ⟨Tryz.prog,tab,aD,63,Fr,w⟩ [pt mb (flat recC S.bq++rest) lL,pt p (gw S (some ⟨mb,0,none⟩) cap) lF,pt ob (dR o) 133] [pt p (gw S (some ⟨mb,0,none⟩) cap) lF,aA lL 14 (some ⟨mb,0,none⟩) S.bq.length cap (flat recC S.bq),pt ob (dR o) 133]:=(IP 1 rfl (aa.sl x1 x2 x4 aa.refl)).ah
 have c7:(flat recC S.bq++rest)[0+i*14+7]?=some (.int .i64 r.to):=by rw[di];exact qe sN e2 rfl rest
 have c1:(flat recC S.bq++rest)[0+i*14+1]?=some (.int .i64 r.seq):=by rw[di];exact qe sN e2 rfl rest
 refine aw ?_
 refine VG (VY 30 false Z Z ?_)
 refine aw ?_
 refine VG (VO.load Z Z (ax.one 0 Z c1) ?_)
 refine aw ?_
 by_cases j1:r.seq=seq
 rotate_left
 ·obtain⟨g1,g2⟩:=bE.J' hk e1 (.inl j1)
  refine VG (VY 38 true Z (by simp[j1]) ?_)
  refine xZ ?_
  refine CN back ?_
  refine aw ?_
  exact DX
 refine VG (VY 38 false Z (by simp[j1]) ?_)
 refine aw ?_
 refine VG (VO.load Z Z (ax.one 0 Z c7) ?_)
 refine aw ?_
 refine CP (p:=0≤r.to) Z (fun j2=>?_) (fun j2=>CK ?_)
 ·obtain⟨g1,g2⟩:=bE.J' hk e1 (seq:=seq) (.inr j2)
  refine CN back ?_
  refine aw ?_
  exact DX
 obtain⟨g1,g2⟩:=bE.Su hk e1 (o:=o) (seq:=seq) (by rintro(h | h);exact h j1;exact j2 h)
 refine CS (CD (ts 0 9 (.only 9 (ts 10 2 (.only 12 .nil)))) ym yr ?_)
 refine fK ?_
 refine AG (VA.dQ 2 (dR o) Z Z Z Z Z ?_)
 refine fK ?_
 have hfl:∀x:RecM,((flat recC (S.bq.set i x)).length:Nat)=S.bq.length*14:=fun x=>by rw[fA sN,iB]
 have hfl0:=fA sN S.bq
 have hi14:(i+1)*14≤S.bq.length*14:=r7 14 e4
 refine AG (VA.st 0 (cs':=flat recC (S.bq.set i { r with to:=S.events })++rest) Z Z Z Z Z (by rw[a_,hfl0];omega) (by rw[di];exact wV sN e2 yo Z rest) Z yu ?_)
 refine dp ?_
 refine AG (AT (vs:=dR o) (cs':=flat recC (S.bq.set i (tO S r o))++rest) 0 Z Z Z Z Z (by rw[a_,hfl];show 0+i*14+8+6≤_;omega) (by rw[di,Tc (a:={ r with to:=S.events }) (a':=tO S r o) sN (iM e4) (by show 8+6≤14;decide) Z rest,v_]) Z Z yu ?_)
 refine dp ?_
 refine dz ?_
 refine Bk ?_
 refine VG (VO.st 1 (cs':=gw { S with events:=S.events+1 } (some ⟨mb,0,none⟩) cap) Z Z Z Z (by rw[KE ok];decide) Z Z ?_)
 refine ae ?_
 refine CR (aq.tmp 8 Z Z (L':=[jz p { S with bq:=S.bq.set i (tO S r o),events:=S.events+1 }]) ?_ ⟨by rw[g2],by rw[g1]⟩)
 refine(aa.his (S:={ S with bq:=S.bq.set i (tO S r o),events:=S.events+1 }) (K:=[]) (some ⟨mb,0,none⟩,cap) ?_).ah
 show aa _ [pt p ([.bool true,.slice (some ⟨mb,0,none⟩) (S.bq.set i (tO S r o)).length cap,.int .i64 (S.events+1)]++S.last.map (Value.int .i64)) lF,aA lL 14 (some ⟨mb,0,none⟩) (S.bq.set i (tO S r o)).length cap (flat recC (S.bq.set i (tO S r o)))]
 rw[iB]
 exact IP 1 Z (aa.sl (hfl _) x2 (by rw[a_,hfl];rw[a_,hfl0] at x4;exact x4) (IP 0 Z aa.nil))
end
end Cl
namespace Vg
open Go Go.MapKept
def gx(k:Int×Int):Value:=.agg ([.int .i64 k.1,.int .i64 k.2]:List Value).toArray
theorem kJ.ii{P:Program}{t ti:TypeId}{f g:Field}{Ti:TI}(ht:P.underlying t=some (.struct #[f,g]))(hp:P.stoodInHeld t=false)(hf:f.name ≠ "_")(hg:g.name ≠ "_")(hf2:f.type=ti)(hg2:g.type=ti)(hfo:f.offset=0)(hgo:g.offset=1)
  (hi:P.underlying ti=some (.int .i64)) (hTi:aS P ti Ti) (ha:Ti.aJ.agg=false):kJ P t gx where
 inj:=fun a b h=>by
  obtain⟨a1,a2⟩:=a;obtain⟨b1,b2⟩:=b
  simp[gx] at h
  rw[h.1,h.2]
 check:=fun e a w=>by
  have h1:(part ti ([.int .i64 a.1,.int .i64 a.2]:List Value).toArray 0).run P w=.ok (.int .i64 a.1) w:=rz hTi ha rfl w
  have h2:(part ti ([.int .i64 a.1,.int .i64 a.2]:List Value).toArray 1).run P w=.ok (.int .i64 a.2) w:=rz hTi ha rfl w
  have c1:(Instr.checkKey e (9998+1) ti (.int .i64 a.1)).run P w=.ok () w:=run_checkKey hi (by rfl) e 9998
  have c2:(Instr.checkKey e (9998+1) ti (.int .i64 a.2)).run P w=.ok () w:=run_checkKey hi (by rfl) e 9998
  show(Instr.checkKey e (9999+1) t (gx a)).run P w=_
  unfold Instr.checkKey
  rw[Sem.run_bind,run_underlying ht]
  simp only[Result.andThen_ok,gx]
  rw[←Array.forIn_toList]
  simp[hf,hg,hf2,hg2,hfo,hgo,h1,h2,Sem.run_bind,Result.andThen]
  rw[show(9999:Nat)=9998+1 from rfl,c1]
  simp[Result.andThen,h2,c2]
 find:=fun {α} d a xs es hes w=>by
  unfold Instr.findKey
  rw[Sem.run_bind,run_underlying ht]
  simp only[Result.andThen_ok]
  have hnow:∀(l:List MapEntry) (ys:List ((Int×Int)×α)) (i:Nat),l.map (fun e=>(e.key,e.val))=ys.map (fun x=>(gx x.1,d x.2))→(l≠[]→Instr.findNow (.struct #[f,g]) (gx a) l i=none):=by
   intro l ys i hl hne
   cases l with
   | nil=>exact absurd rfl hne
   | cons e r=>rfl
  have heq:∀(a b:Int×Int) (w:World),(Op.equal t (gx a) (gx b)).run P w=.ok (decide (a=b)) w:=fun a b w=>by
   have hx1:∀w:World,(part f.type ([.int .i64 a.1,.int .i64 a.2]:List Value).toArray f.offset).run P w=.ok (.int .i64 a.1) w:=fun w=>by rw[hf2,hfo];exact rz hTi ha rfl w
   have hx2:∀w:World,(part g.type ([.int .i64 a.1,.int .i64 a.2]:List Value).toArray g.offset).run P w=.ok (.int .i64 a.2) w:=fun w=>by rw[hg2,hgo];exact rz hTi ha rfl w
   have hy1:∀w:World,(part f.type ([.int .i64 b.1,.int .i64 b.2]:List Value).toArray f.offset).run P w=.ok (.int .i64 b.1) w:=fun w=>by rw[hf2,hfo];exact rz hTi ha rfl w
   have hy2:∀w:World,(part g.type ([.int .i64 b.1,.int .i64 b.2]:List Value).toArray g.offset).run P w=.ok (.int .i64 b.2) w:=fun w=>by rw[hg2,hgo];exact rz hTi ha rfl w
   refine kI.run (kI.eq (kI.st ht hp (o8.cons hf hx1 hy1 (hf2▸kI.int hi a.1 b.1) (o8.cons hg hx2 hy2 (hg2▸kI.int hi a.2 b.2) o8.nil))) ?_) yo w
   obtain⟨a1,a2⟩:=a;obtain⟨b1,b2⟩:=b
   by_cases h1:a1=b1<;>by_cases h2:a2=b2<;>simp[h1,h2]
  cases es with
  | nil=>
   cases xs with
   | nil=>rfl
   | cons _ _=>cases hes
  | cons e r=>
   rw[hnow (e::r) xs 0 hes yf]
   exact Km heq d a xs (e::r) 0 hes w
 bits:=fun a=>by simp[gx,Instr.sameBits]
theorem Rh{l:List MapEntry}(hn:(l.map (·.born)).Nodup):∀{j:Nat} {m:MapEntry},l[j]?=some m→l.findIdx? (fun e=>(e.born:Int) == (m.born:Int))=some j:=by
 induction l with
 | nil=>intro j m h;cases h
 | cons a r ih=>
  intro j m h
  simp only[gA,Bu] at hn
  rw[List.findIdx?_cons]
  cases j with
  | zero=>
   simp only[qJ,Option.some.injEq] at h
   subst h
   simp
  | succ j=>
   simp only[rY] at h
   have hne:((a.born:Int) == (m.born:Int))=false:=by
    rw[beq_eq_false_iff_ne]
    intro e
    exact hn.1 (bP.2 ⟨m,ME h,(Int.ofNat.inj e).symm⟩)
   rw[hne,ih hn.2 h];rfl
theorem Jt{es:Array MapEntry}(hn:(es.toList.map (·.born)).Nodup){j:Nat}{m:MapEntry}(h:es[j]?=some m):es.findIdx? (fun e=>(e.born:Int) == (m.born:Int))=some j:=by
 have:=Rh hn (j:=j) (m:=m) yc
 cases es
 simpa using this
theorem Vh(es:Array MapEntry)(m:MapEntry)(f:MapEntry→MapEntry):(es.push m).modify es.size f=es.push (f m):=by
 apply vW
 intro i
 rw[vX,Array.getElem?_push,Array.getElem?_push]
 by_cases h:es.size=i
 ·subst h;simp
 ·rw[if_neg h,if_neg (fun k=>h k.symm),if_neg (fun k=>h k.symm)]
theorem Vi(es:Array MapEntry)(j:Nat)(k v:Value):(es.modify j fun e=>{ e with key:=k }).modify j (fun e=>{ e with val:=v })=es.modify j fun e=>{ e with key:=k,val:=v }:=by
 apply vW
 intro i
 simp only[vX]
 by_cases h:j=i
 ·subst h;simp;rfl
 ·simp[h]
def Cv{κ α:Type}[DecidableEq κ](c:κ→Value)(d:α→Value)(b:Nat)(xs:List (κ×α))(a:κ)(st:Nat):HP:=
 ⟨fun ids w=>ids=[b]∧∃(es:Array MapEntry) (clock j:Nat),w.heap[b]?=some (.map es clock)∧es.findIdx? (fun e=>(e.born:Int) == (st:Int))=some j ∧
   ∀u,(es.modify j fun e=>{ e with val:=d u }).toList.map (fun e=>(e.key,e.val))=(bV xs a u).map (fun x=>(c x.1,d x.2))∧Stamped (es.modify j fun e=>{ e with val:=d u }) clock,
  fun _ _ _ h hs=>⟨hs.1,by
   obtain⟨es,k,j,h1,h2⟩:=hs.2
   exact⟨es,k,j,(h b yb).trans h1,h2⟩⟩⟩
section
variable {X:Cx} {κ α:Type} [DecidableEq κ] {c:κ→Value} {d:α→Value} {b:Nat} {xs:List (κ×α)} {e:Env} {L:List HP} {T kt et:TypeId} {te:TI} {x y z:Operand}
theorem aQ.mapEntry(i:Nat)(K:kJ X.P kt c)(hT:X.P.underlying T=some (.map kt et))(hE:bS X.tab et=some te){a:κ}(hx:ev e x=some (.map (some b)))(hk:ev e y=some (c a))(hL:L[i]?=some (fZ c d b xs)):
  aQ X (.mapEntry T x y) e L (fun v L'=>∃st:Nat,v=.tuple #[((bF xs a).map d).getD te.zero,.int .i64 st]∧L'=L.set i (Cv c d b xs a st)):=fun ac w ha hw dst ty pos after guard=>by
 obtain⟨⟨es,clock,h1,h2,h3⟩,hf⟩:=hw.BN hL
 have hfi:=K.find d a xs es.toList h2 w
 have hids:∀ids w,(fZ c d b xs).sat ids w→ids=[b]:=fun _ _ h=>h.1
 have P:=fun u=>Ln K a u h2 h3
 cases hl:lI xs a 0 with
 | none=>
  obtain⟨hg,_⟩:=u6 hl
  rw[hl] at hfi
  have hz:=vu (X.ok.look hE) (w:=w)
  refine .inl ⟨_,eu w b (.map (es.push { key:=c a,val:=te.zero,born:=clock }) (clock+1)),_,?_,⟨clock,Z,Z⟩,hw.qv hL hids h1 hf ⟨rfl,_,_,es.size,ri h1,?_,fun u=>?_⟩⟩
  ·have:(Instr.mapEntry T (.map (some b)) (c a)).run X.P w=.ok (.tuple #[te.zero,.int .i64 clock]) (eu w b (.map (es.push { key:=c a,val:=te.zero,born:=clock }) (clock+1))):=by
    simp[Instr.mapEntry,run_underlying hT,MapKept.run_getObj_map h1,K.check,hfi,hz,MapKept.run_setObj_map _ h1,Result.andThen,eu,goInt]
   simp only[execOp,ha.ev hx,ha.ev hk,hg]
   rw[Sem.run_bind,this];rfl
  ·have hk:∀x∈es.toList,x.key≠c a:=fun m hm he=>by
    have:(m.key,m.val)∈es.toList.map (fun e=>(e.key,e.val)):=bP.2 ⟨m,hm,rfl⟩
    rw[h2] at this
    obtain⟨x,hx,hx2⟩:=bP.1 this
    have e2:c x.1=m.key:=congrArg Prod.fst hx2
    exact(u6 hl).2.1 x hx (K.inj _ _ (e2.trans he))
   exact Jt (m:={ key:=c a,val:=te.zero,born:=clock }) (stamped_push h3 (val:=te.zero) hk).2.1 yf
  ·rw[Vh]
   exact(P u).2 hl
 | some p=>
  obtain⟨j,v⟩:=p
  obtain⟨_,hj,hg,_⟩:=wZ hl
  rw[Nat.sub_zero] at hj
  obtain⟨m,hm',hmk,_⟩:=E5 h2 hj
  have hm:es[j]?=some m:=by simpa using hm'
  rw[hl] at hfi
  have hst:=stamped_modify h3 j (fun e=>{ e with key:=c a }) (fun _ _=>rfl) (fun e _ he=>by rw[hm] at he;cases he;exact hmk.symm)
  have hat:(es.modify j fun e=>{ e with key:=c a })[j]?=some { m with key:=c a }:=by rw[vX,if_pos rfl,hm];rfl
  refine .inl ⟨_,eu w b (.map (es.modify j fun e=>{ e with key:=c a }) clock),_,?_,⟨m.born,Z,Z⟩,hw.qv hL hids h1 hf ⟨rfl,_,_,j,ri h1,Jt (m:={ m with key:=c a }) hst.2.1 hat,fun u=>?_⟩⟩
  ·have:(Instr.mapEntry T (.map (some b)) (c a)).run X.P w=.ok (.tuple #[d v,.int .i64 m.born]) (eu w b (.map (es.modify j fun e=>{ e with key:=c a }) clock)):=by
    simp[Instr.mapEntry,run_underlying hT,MapKept.run_getObj_map h1,K.check,hfi,hm,hmk,M6 K,MapKept.run_setObj_map _ h1,Result.andThen,eu,goInt]
   simp only[execOp,ha.ev hx,ha.ev hk,hg]
   rw[Sem.run_bind,this];rfl
  ·rw[Vi]
   obtain⟨_,_,_,q1,q2⟩:=(P u).1 hl
   exact⟨q1,q2⟩
theorem aQ.UN(i:Nat)(K:kJ X.P kt c)(hT:X.P.underlying T=some (.map kt et))(hE:bS X.tab et=some te)(v0:Value){a:κ}(hx:ev e x=some (.map (some b)))(hk:ev e y=some (c a))(hL:L[i]?=some (fZ c d b xs))(hv:((bF xs a).map d).getD te.zero=v0):
  aQ X (.mapEntry T x y) e L (fun v L'=>∃st:Nat,v=.tuple #[v0,.int .i64 st]∧L'=L.set i (Cv c d b xs a st)):=hv▸aQ.mapEntry i K hT hE hx hk hL
theorem aQ.entryStore(i:Nat){a:κ}{u:α}{st:Nat}(hx:ev e x=some (.map (some b)))(hs:ev e y=some (.int .i64 st))(hv:ev e z=some (d u))(hL:L[i]?=some (Cv c d b xs a st)):
  aQ X (.entryStore T x y z) e L (fun v L'=>v=undef∧L'=L.set i (fZ c d b (bV xs a u))):=fun ac w ha hw dst ty pos after guard=>by
 obtain⟨F,hs1,_,hb⟩:=hw.sat
 obtain⟨ids,hp,hm⟩:=hs1.get hL
 obtain⟨rfl,es,clock,j,h1,h2,h3⟩:=hp
 have hf:=(hb b (hm b yf)).1
 have hids:∀ids w,(Cv c d b xs a st).sat ids w→ids=[b]:=fun _ _ h=>h.1
 obtain⟨q1,q2⟩:=h3 u
 refine .inr (.inl ⟨eu w b (.map (es.modify j fun e=>{ e with val:=d u }) clock),_,?_,⟨rfl,Z⟩,hw.qv hL hids h1 hf ⟨rfl,_,_,ri h1,q1,q2⟩⟩)
 have:(Instr.entryStore T (.map (some b)) (.int .i64 st) (d u)).run X.P w=.ok () (eu w b (.map (es.modify j fun e=>{ e with val:=d u }) clock)):=by
  simp[Instr.entryStore,MapKept.run_getObj_map h1,asInt,asIntOf,h2,MapKept.run_setObj_map _ h1,Result.andThen,eu]
 simp only[execOp,ha.ev hx,ha.ev hs,ha.ev hv]
 rw[Sem.run_bind,this];rfl
end
end Vg
namespace Vg
open Go Go.MapKept
theorem FD{α β:Type}{f:α→β}:∀{l:List α} {a b:α},(l.map f).Nodup→a∈l→b∈l→f a=f b→a=b
 | x::l,a,b,hn,ha,hb,e=>by
  simp only[gA,Bu] at hn
  rcases jK.1 ha with h1 | h1<;>rcases jK.1 hb with h2 | h2
  ·rw[h1,h2]
  ·exact absurd (bP.2 ⟨b,h2,by rw[←e,h1]⟩) hn.1
  ·exact absurd (bP.2 ⟨a,h1,by rw[e,h2]⟩) hn.1
  ·exact FD hn.2 h1 h2 e
section
variable {κ α:Type} {c:κ→Value} {d:α→Value}
structure nW(c:κ→Value)(d:α→Value)(xs:List (κ×α))(es:Array MapEntry)(clock:Nat):Prop where
 row:es.toList.map (fun e=>(e.key,e.val))=xs.map (fun x=>(c x.1,d x.2))
 st:Stamped es clock
abbrev pT(κ α:Type):=List (MapEntry×(κ×α))
structure lz(c:κ→Value)(d:α→Value)(xs:List (κ×α))(es:Array MapEntry)(J:pT κ α):Prop where
 sub:∀z∈J,z∈es.toList.zip xs
 nd:(J.map fun z=>z.1.born).Nodup
theorem lz.nil{xs:List (κ×α)}{es:Array MapEntry}:lz c d xs es []:=⟨(fun _ h=>by cases h),List.Pairwise.nil⟩
def oy(J:pT κ α):Array Nat:=(J.map fun z=>z.1.born).toArray
theorem Nd(J:pT κ α)(z:MapEntry×(κ×α)):(oy J).push z.1.born=oy (J ++ [z]):=by unfold oy;simp
theorem nW.len{xs:List (κ×α)}{es:Array MapEntry}{k:Nat}(h:nW c d xs es k):es.toList.length=xs.length:=by have:=congrArg List.length h.row;simpa using this
theorem nW.zip{xs:List (κ×α)}{es:Array MapEntry}{k:Nat}(h:nW c d xs es k){m:MapEntry}(hm:m∈es.toList):∃x,(m,x)∈es.toList.zip xs:=by
 obtain⟨i,hi,rfl⟩:=List.getElem_of_mem hm
 have hx:i<xs.length:=by rw[←h.len];exact hi
 exact⟨xs[i],List.mem_iff_getElem.2 ⟨i,by rw[List.length_zip];omega,by rw[List.getElem_zip]⟩⟩
theorem nW.kv{xs:List (κ×α)}{es:Array MapEntry}{k:Nat}(h:nW c d xs es k){z:MapEntry×(κ×α)}(hz:z∈es.toList.zip xs):z.1∈es.toList∧z.2∈xs∧z.1.key=c z.2.1∧z.1.val=d z.2.2:=by
 obtain⟨i,hi,rfl⟩:=List.mem_iff_getElem.1 hz
 rw[List.length_zip] at hi
 have h1:i<es.toList.length:=by omega
 have h2:i<xs.length:=by omega
 have e:=congrArg (fun l=>l[i]?) h.row
 simp only[eh,GE h1,GE h2,nO,Option.some.injEq,Prod.mk.injEq] at e
 rw[List.getElem_zip]
 exact⟨yL h1,yL h2,e.1,e.2⟩
theorem nW.all{xs:List (κ×α)}{es:Array MapEntry}{k:Nat}(h:nW c d xs es k){J:pT κ α}(ok:lz c d xs es J)(h0:(leftOf es (oy J)).size=0):(J.map Prod.snd).Perm xs:=by
 have e1:(es.toList.zip xs).map Prod.fst=es.toList:=List.map_fst_zip (by rw[h.len];exact NR _)
 have e2:(es.toList.zip xs).map Prod.snd=xs:=List.map_snd_zip (by rw[h.len];exact NR _)
 have n1:J.Nodup:=(uM.1 ok.nd).imp fun hne e=>hne mT
 have n2:(es.toList.zip xs).Nodup:=by
  have:((es.toList.zip xs).map fun z=>z.1.born).Nodup:=by
   rw[show(fun z:MapEntry×(κ×α)=>z.1.born)=(fun m:MapEntry=>m.born)∘Prod.fst from rfl,←mV,e1];exact h.st.2.1
  exact(uM.1 this).imp fun hne e=>hne mT
 have hall:∀m∈es.toList,m.born∈J.map fun z=>z.1.born:=fun m hm=>by
  have hf:leftOf es (oy J)=#[]:=Array.eq_empty_of_size_eq_zero h0
  unfold leftOf at hf
  rw[Array.filter_eq_empty_iff] at hf
  have:=hf m (by simpa using hm)
  simpa[oy] using this
 rw[←e2]
 refine List.Perm.map _ ((List.perm_ext_iff_of_nodup n1 n2).2 fun z=>⟨ok.sub z,fun hz=>?_⟩)
 obtain⟨y,hy,hb⟩:=bP.1 (hall z.1 (h.kv hz).1)
 have hy2:=ok.sub y hy
 have:y=z:=by
  have n3:((es.toList.zip xs).map fun z=>z.1.born).Nodup:=by
   rw[show(fun z:MapEntry×(κ×α)=>z.1.born)=(fun m:MapEntry=>m.born)∘Prod.fst from rfl,←mV,e1];exact h.st.2.1
  exact FD n3 hy2 hz hb
 rw[←this];exact hy
def tU(q b since:Nat)(J:pT κ α):HP:=
 ⟨fun ids w=>ids=[q]∧w.heap[q]?=some (.mapIter (some b) since (oy J) since),fun _ _ _ h hs=>⟨hs.1,(h q yb).trans hs.2⟩⟩
end
section
variable {X:Cx} {κ α:Type} {c:κ→Value} {d:α→Value} {b q clock:Nat} {xs:List (κ×α)} {es:Array MapEntry} {e:Env} {L:List HP} {J:pT κ α}
theorem aQ.W6(c:κ→Value)(d:α→Value){T kt et:TypeId}{x:Operand}(hT:X.P.underlying T=some (.map kt et))(hx:ev e x=some (.map (some b)))(hM:∀w,St X L w→w.heap[b]?=some (.map es clock)):
  aQ X (.range T x) e L (fun v L'=>∃q,v=.pointer (some ⟨q,0,none⟩)∧L'=tU q b clock ([]:pT κ α)::L):=fun ac w ha hw dst ty pos after guard=>by
 have h1:=hM w hw
 refine .inl ⟨_,w.alloc (.mapIter (some b) clock #[] clock),_,?_,⟨w.heap.size,Z,Z⟩,?_⟩
 ·simp[execOp,ha.ev hx,Instr.range,run_underlying hT,newObj,Sem.run,MapKept.run_getObj_map h1]
 ·exact⟨hw.sat.alloc hw.me _ _ ⟨rfl,heap_alloc_new w _⟩,hw.cS.trans (dG.alloc hw.me _),hw.low⟩
theorem St.Ja{w:World}(h:St X L w){i:Nat}(hL:L[i]?=some (tU q b clock J)):w.heap[q]?=some (.mapIter (some b) clock (oy J) clock)∧¬X.Fr q:=by
 obtain⟨F,hs,_,hb⟩:=h.sat
 obtain⟨ids,h1,h2⟩:=hs.get hL
 obtain⟨rfl,h1⟩:=h1
 exact⟨h1,(hb q (h2 q yf)).1⟩
theorem aQ.cq{it:Operand}(i:Nat)(hx:ev e it=some (.pointer (some ⟨q,0,none⟩)))(hL:L[i]?=some (tU q b clock J))(hM:∀w,St X L w→w.heap[b]?=some (.map es clock))(hz:nW c d xs es clock)(ok:lz c d xs es J):
  aQ X (.next it false) e L (fun v L'=>(v=.tuple #[.bool false]∧L'=L∧(J.map Prod.snd).Perm xs)∨∃z,v=.tuple #[.bool true,c z.2.1,d z.2.2]∧z.2∈xs∧z∈es.toList.zip xs∧lz c d xs es (J ++ [z])∧L'=L.set i (tU q b clock (J ++ [z]))):=fun ac w ha hw dst ty pos after guard=>by
 have h1:=hM w hw
 obtain⟨h3,hf⟩:=hw.Ja hL
 have hids:∀ids w,(tU q b clock J).sat ids w→ids=[q]:=fun _ _ h=>h.1
 rcases run_next_at (P:=X.P) w ty q b clock clock (oy J) es clock h3 h1 hz.st.1 (NR _) with ⟨h4,h5⟩ | ⟨m,hm,w1,hw1,h5⟩
 ·refine .inl ⟨_,w,L,?_,.inl ⟨rfl,Z,hz.all ok h4⟩,hw⟩
  simp only[execOp,ha.ev hx]
  rw[Sem.run_bind,h5];rfl
 ·have hm2:m∈es.toList∧m.born∉J.map fun z=>z.1.born:=by
   unfold leftOf at hm
   simpa[oy] using hm
  obtain⟨x,hzx⟩:=hz.zip hm2.1
  obtain⟨k1,k2,k3,k4⟩:=hz.kv hzx
  have ok2:lz c d xs es (J ++ [(m,x)]):=⟨fun z hz'=>by
    rcases ez.1 hz' with h | h
    ·exact ok.sub z h
    ·obtain rfl:=eA.1 h;exact hzx,by
    rw[hU]
    exact ja.2 ⟨ok.nd,by simp,fun a ha b hb e=>by simp at hb;subst hb;subst e;exact hm2.2 ha⟩⟩
  have hst1:St X L w1:=by rcases hw1 with rfl | rfl;exact hw;exact hw.drew
  have h31:w1.heap[q]?=some (.mapIter (some b) clock (oy J) clock):=by rcases hw1 with rfl | rfl<;>exact h3
  refine .inl ⟨_,eu w1 q (.mapIter (some b) clock ((oy J).push m.born) clock),_,?_,.inr ⟨(m,x),Z,k2,hzx,ok2,Z⟩,hst1.qv hL hids h31 hf ⟨rfl,?_⟩⟩
  ·simp only[execOp,ha.ev hx]
   rw[Sem.run_bind,h5]
   dsimp only at k3 k4
   rw[k3,k4];rfl
  ·rw[←Nd J (m,x)];exact ri h31
theorem aQ.SF{it:Operand}(i:Nat){z:MapEntry×(κ×α)}(hx:ev e it=some (.pointer (some ⟨q,0,none⟩)))(hL:L[i]?=some (tU q b clock (J ++ [z])))(hM:∀w,St X L w→w.heap[b]?=some (.map es clock))(hz:nW c d xs es clock)(hzz:z∈es.toList.zip xs):
  aQ X (.entry it) e L (fun v L'=>v=.tuple #[c z.2.1,d z.2.2]∧L'=L):=fun ac w ha hw dst ty pos after guard=>by
 have h1:=hM w hw
 obtain⟨h3,hf⟩:=hw.Ja hL
 obtain⟨k1,k2,k3,k4⟩:=hz.kv hzz
 refine .inl ⟨_,w,_,?_,⟨rfl,Z⟩,hw⟩
 have h4:w.heap[q]?=some (.mapIter (some b) clock ((oy J).push z.1.born) clock):=by rw[Nd];exact h3
 simp only[execOp,ha.ev hx]
 rw[Sem.run_bind,run_entry_at w q b clock (oy J) es clock z.1 h4 h1 k1 hz.st.2.1,k3,k4];rfl
end
end Vg
namespace Cl
open Go Vg T Api Ch
attribute [local irreducible] VO VC VA
theorem rk:∀(k:Nat) (s:Bs),gX (k+1) s=(gX k s).bind fun p=>(cw p.2).map fun u=>(p.1 ++ [u.1],u.2)
 | 0,s=>by
  rw[gX,gX]
  cases h:cw s with
  | none=>simp[h]
  | some x=>simp[h,gX]
 | k+1,s=>by
  rw[gX,gX]
  cases h:cw s with
  | none=>rfl
  | some x=>
   dsimp only
   rw[rk k x.2]
   cases h2:gX k x.2 with
   | none=>rfl
   | some y=>
    simp only[mD]
    cases h3:cw y.2 with
    | none=>rfl
    | some z=>rfl
theorem FE{s:Bs}{k:Nat}(h:gX k s=none):∀j,gX (k+j) s=none
 | 0=>h
 | j+1=>by rw[←Nat.add_assoc,rk,FE h j];rfl
theorem LF{a b:Int}:∀(k:Nat) (l:List Int),l.length=2*k→pw (l ++ [a,b])=pw l ++ [(a,b)]
 | 0,l,h=>by
  obtain rfl:l=[]:=iz h
  rfl
 | k+1,l,h=>by
  match l,h with
  | x::y::l,h=>
   rw[rX,rX,pw,pw,LF k l (by simp at h;omega),rX]
  | [x],h=>simp at h;omega
  | [],h=>simp at h
theorem U4{ms:List aR}{k:Nat}{m:aR}(h:ms[k]?=some m):(flat aH ms)[0+k*2]?=some (.int .i64 m.1):=by
 have:=qe cn (j:=0) h rfl []
 rw[bK] at this
 rw[di];exact this
theorem U5{ms:List aR}{k:Nat}{m:aR}(h:ms[k]?=some m):(flat aH ms)[0+k*2+1]?=some (.int .i64 m.2):=by
 have:=qe cn (j:=1) h rfl []
 rw[bK] at this
 rw[di];exact this
theorem U6{ms:List aR}{k:Nat}{m:aR}(x:Int)(h:ms[k]?=some m):(flat aH ms).set (0+k*2) (.int .i64 x)=flat aH (ms.set k (x,m.2)):=by
 have:=wV cn (j:=0) (a':=(x,m.2)) h yo rfl []
 rw[bK,bK] at this
 rw[di];exact this
theorem U7{ms:List aR}{k:Nat}{m:aR}(x:Int)(h:ms[k]?=some m):(flat aH ms).set (0+k*2+1) (.int .i64 x)=flat aH (ms.set k (m.1,x)):=by
 have:=wV cn (j:=1) (a':=(m.1,x)) h yo rfl []
 rw[bK,bK] at this
 rw[di];exact this
structure Eo(ok:Bool)(r:Bs)(ok':Bool)(k:Int)(q:Bs):Prop where
 len:q.length≤r.length
 t:ok'=true→ok=true∧cw r=some (k,q)
 f:ok'=false→ok=false∨cw r=none
abbrev zd:TypeId:=4
abbrev qx:TypeId:=9
def qt(pb okb rb:Nat)(T:TypeId)(cs:List Value)(ok:Bool)(r:Bs):List HP:=[pt pb cs T,pt okb [.bool ok] zd,pt rb [.string (bT r)] qx]
theorem As{pb off okb rb:Nat}{T:TypeId}{cs:List Value}{ok:Bool}{r:Bs}{k0:Int}(h0:cs[off]?=some (.int .i64 k0))(hr:r.length≤1000000):
  az Tryz.prog 266 [.pointer (some ⟨pb,off,none⟩),.pointer (some ⟨okb,0,none⟩),.pointer (some ⟨rb,0,none⟩)] Fr w (qt pb okb rb T cs ok r)
   (fun v L=>v=.tuple #[]∧∃k q ok',Eo ok r ok' k q∧L=qt pb okb rb T (cs.set off (.int .i64 k)) ok' q):=by
 have hlt:off<cs.length:=(bY.1 h0).1
 have hself:cs.set off (.int .i64 k0)=cs:=by
  refine pN fun j=>?_
  by_cases h:off=j
  ·subst h;rw[iM hlt,h0]
  ·rw[kG h]
 unfold qt
 refine TF 13 Tryz.func266 Z ym aD Z Z ?_
 refine CS (CG (VG (VO.ld 1 Z Z Z Z ?_)))
 refine ae ?_
 refine CC Z (fun h=>?_) (fun h=>CK ?_)
 rotate_left
 ·exact aq.void rfl ER ⟨rfl,k0,r,ok,⟨NR _,fun h2=>(by rw[h] at h2;cases h2),fun _=>.inl h⟩,by rw[hself]⟩
 subst h
 obtain⟨k,q,ok',hv,hql,hk1,hk2⟩:=Dk r
 refine ae ?_
 refine VG (VO.ld 2 Z Z Z Z ?_)
 refine VG (VV (fun Fr w hF hw _=>hv▸Dm Fr w r hr) Z ?_)
 refine ae ?_
 refine VG (VO.st 0 (cs':=cs.set off (.int .i64 k)) Z Z Z Z hlt Z Z ?_)
 refine VG (VO.st 2 (cs':=[.string (bT q)]) Z Z Z Z r8 Z Z ?_)
 refine VG (VO.st 1 (cs':=[.bool ok']) Z Z Z Z r8 Z Z ?_)
 refine ae ?_
 exact aq.void Z ER ⟨rfl,k,q,ok',⟨hql,fun h=>⟨rfl,hk1 h⟩,fun h=>.inr (hk2 h)⟩,Z⟩
structure LI(n:Nat)(r0:Bs)(N:Nat)(x:Nat×List aR×Bs×Bool):Prop where
 k:x.1≤n
 ms:x.2.1.length=n
 len:x.2.2.1.length≤N
 t:x.2.2.2=true→∃l,gX (2*x.1) r0=some (l,x.2.2.1)∧x.2.1.take x.1=pw l∧l.length=2*x.1
 f:x.2.2.2=false→gX (2*n) r0=none
theorem LI.next{n N k:Nat}{r0 r q p:Bs}{ms:List aR}{ok ok1 ok2:Bool}{a b:Int}{m:aR}(h:LI n r0 N (k,ms,r,ok))(hk:k<n)(h1:Eo ok r ok1 a q)(h2:Eo ok1 q ok2 b p):LI n r0 N (k+1,ms.set k (a,b),p,ok2):=by
 have hl:=h.ms
 have hlen:=h.len
 have l1:=h1.len
 have l2:=h2.len
 dsimp only at hl hlen
 have step:∀l,gX (2*k) r0=some (l,r)→gX (2*k+1) r0=(cw r).map fun u=>(l ++ [u.1],u.2):=fun l hl=>by rw[rk,hl];rfl
 refine⟨hk,by simp[hl],by dsimp only;omega,fun e=>?_,fun e=>?_⟩
 ·obtain⟨e1,u2⟩:=h2.t e
  obtain⟨e0,u1⟩:=h1.t e1
  obtain⟨l,hi,ht,hll⟩:=h.t e0
  dsimp only at hi ht hll ⊢
  refine⟨l ++ [a,b],?_,?_,by simp[hll];omega⟩
  ·rw[show 2*(k+1)=2*k+1+1 from by omega,rk,step l hi,u1]
   simp[u2]
  ·rw[LF k l hll,←ht,jb,iM yd,List.take_set_of_le (NR _)];rfl
 ·show gX (2*n) r0=none
  have two:∀j,2*k+j≤2*n→gX (2*k+j) r0=none→gX (2*n) r0=none:=fun j hj hn=>by
   have:=FE hn (2*n-(2*k+j))
   rwa[show 2*k+j+(2*n-(2*k+j))=2*n from by omega] at this
  by_cases e0:ok=true
  rotate_left
  ·exact h.f (by simpa using e0)
  obtain⟨l,hi,_,_⟩:=h.t e0
  by_cases e1:ok1=true
  rotate_left
  ·rcases h1.f (by simpa using e1) with g | g
   ·rw[g] at e0;cases e0
   ·exact two 1 yd (by rw[step l hi,g];rfl)
  ·obtain⟨_,u1⟩:=h1.t e1
   rcases h2.f e with g | g
   ·rw[g] at e1;cases e1
   ·exact two 2 yd (by rw[rk,step l hi,u1];simp[g])
end Cl
namespace Cl
open Go Vg T Api Ch
attribute [local irreducible] VO VC VA
def lB:List Value:=[.int .i64 0,.slice none 0 0,.int .i64 0]
def RA(o:Option aW)(v:Value)(L:List HP):Prop:=match o with
 | some c=>∃a cap,v=.tuple #[.agg (c.cells a cap).toArray,.int .i64 0]∧L=[aA aU 2 a c.ms.length cap (flat aH c.ms)]
 | none=>v=.tuple #[.agg lB.toArray,.int .i64 10]∧L=[]
theorem Ts{s:Bs}(h:cw s=none):jV s=none:=by unfold jV;rw[h]
theorem Tt{s r:Bs}{k:Int}(h:cw s=some (k,r))(h2:cw r=none):jV s=none:=by unfold jV;rw[h];dsimp only;rw[h2]
theorem Kz{s r q:Bs}{k z:Int}(h:cw s=some (k,r))(h2:cw r=some (z,q))(h3:z<1∨6<z):jV s=none:=by unfold jV;rw[h];dsimp only;rw[h2];dsimp only;rw[if_pos h3]
theorem Tw{s r q:Bs}{k:Int}{n:Nat}(h:cw s=some (k,r))(h2:cw r=some ((n:Int),q))(h3:1≤n∧n≤6):jV s=match gX (2*n) q with
   | none=>none
   | some (l,r)=>match cw r with
    | none=>none
    | some (dr,r)=>if r=[]∧e_ ⟨k,pw l,dr⟩=0 then some ⟨k,pw l,dr⟩ else none:=by
 unfold jV;rw[h];dsimp only;rw[h2];dsimp only;rw[if_neg yd];rfl
abbrev zO:TypeId:=3
def dC(ep:Int)(a:Value)(dr:Int):List Value:=[.int .i64 ep,a,.int .i64 dr]
theorem RB(s:Bs)(hs:s.length≤1000000):az Tryz.prog 236 [.string (bT s)] Fr w [] (RA (jV s)):=by
 refine TF 68 Tryz.func236 Z ym aD Z Z ?_
 refine CS (CG (VG (VO.alloc Z fun b2=>?_)))
 refine ae ?_
 refine VG (VO.alloc Z fun b4=>?_)
 refine ae ?_
 refine VG (VO.alloc Z fun b5=>?_)
 refine VG (VO.alloc Z fun b6=>?_)
 refine VG (VO.alloc Z fun b7=>?_)
 refine VG (VO.st 2 (cs':=[.string (bT s)]) Z Z Z Z r8 Z Z ?_)
 refine VG (VO.st 1 (cs':=[.bool true]) Z Z Z Z r8 Z Z ?_)
 refine VG (VO.st 0 (cs':=[.int .i64 0]) Z Z Z Z r8 Z Z ?_)
 refine ae ?_
 refine VG (VI (wX (u:=[]) (v:=[.pointer (some ⟨b6,0,none⟩),.pointer (some ⟨b5,0,none⟩)]) Z Z) ?_)
 refine ae ?_
 refine VO.ah (L':=qt b4 b6 b5 dP (dC 0 (.slice none 0 0) 0) true s ++ [pt b7 [.int .i64 0] zO,pt b2 lB dP]) (bm [3,1,1,0,0]).ah ?_
 refine VG (VO.lA (Lc:=qt b4 b6 b5 dP (dC 0 (.slice none 0 0) 0) true s) (Lr:=[pt b7 [.int .i64 0] zO,pt b2 lB dP]) Z (fun Fr w hF hw _=>As Fr w (k0:=0) Z hs) Z Z ?_)
 rintro _ _ ⟨rfl,k1,r1,ok1,i1,rfl⟩
 have n1:=i1.len
 refine ae ?_
 refine VO.ah (L':=qt b7 b6 b5 zO [.int .i64 0] ok1 r1 ++ [pt b4 (dC k1 (.slice none 0 0) 0) dP,pt b2 lB dP]) (bm [3,1,1,0,0]).ah ?_
 refine VG (VO.lA (Lc:=qt b7 b6 b5 zO [.int .i64 0] ok1 r1) (Lr:=[pt b4 (dC k1 (.slice none 0 0) 0) dP,pt b2 lB dP]) Z (fun Fr w hF hw _=>As Fr w (k0:=0) Z yd) Z Z ?_)
 rintro _ _ ⟨rfl,z,r2,ok2,i2,rfl⟩
 have n2:=i2.len
 show VO _ _ _ _ _ [pt b7 [.int .i64 z] zO,pt b6 [.bool ok2] zd,pt b5 [.string (bT r2)] qx,pt b4 (dC k1 (.slice none 0 0) 0) dP,pt b2 lB dP] _
 refine ae ?_
 refine xP ?_
 cases ok2 with
 | false=>
  have hn:jV s=none:=by
   by_cases e1:ok1=true
   ·obtain⟨_,u1⟩:=i1.t e1
    rcases i2.f rfl with g | g
    ·rw[g] at e1;cases e1
    ·exact Tt u1 g
   ·rcases i1.f (by simpa using e1) with g | g
    ·cases g
    ·exact Ts g
  refine aw ?_
  refine VG (VY 19 true Z Z ?_)
  refine aw ?_
  refine VG (VY 23 true Z Z ?_)
  refine qH ?_
  refine yI ?_
  exact xW
 | true=>
 obtain⟨e1,u2⟩:=i2.t rfl
 obtain⟨_,u1⟩:=i1.t e1
 clear i1 i2
 refine aw ?_
 refine VG (VY 19 false Z Z ?_)
 refine bW ?_
 by_cases h1:z<1
 ·have hn:jV s=none:=Kz u1 u2 (.inl h1)
  refine VG (VY 23 true Z (DT h1) ?_)
  refine qH ?_
  refine yI ?_
  exact xW
 refine VG (VY 23 false Z (DF h1) ?_)
 refine bW ?_
 refine CP (p:=6<z) Z (fun h2=>?_) (fun h2=>CK ?_)
 ·have hn:jV s=none:=Kz u1 u2 (.inr h2)
  refine ae ?_
  refine yI ?_
  exact xW
 obtain⟨n,rfl⟩:∃n:Nat,z=n:=⟨z.toNat,by omega⟩
 have hG:=Tw u1 u2 yd
 clear u1 u2 e1
 refine aj ?_
 refine VG (VO.makeSlice n Z Z Z Z Z Z Z yd (by show 16*n≤_;omega) fun mb=>?_)
 rw[show(List.replicate n T.t89.zs).flatten=flat aH (List.replicate n (0,0)) from Kt (c:=aH) n (0,0)]
 refine ae ?_
 refine VG (VO.st 4 (cs':=dC k1 (.slice (some ⟨mb,0,none⟩) n n) 0) Z Z Z Z uC Z Z ?_)
 refine oB ?_
 refine VC.loop (σ:=Nat×List aR×Bs×Bool) (fun x=>[(2,pV b2),(4,pV b4),(5,pV b5),(6,pV b6),(8,gk 266 [] [.pointer (some ⟨b6,0,none⟩),.pointer (some ⟨b5,0,none⟩)]),(33,.int .i64 n),(34,.int .i64 (x.1:Int))])
  (fun x=>[pt mb (flat aH x.2.1) aU,pt b6 [.bool x.2.2.2] zd,pt b5 [.string (bT x.2.2.1)] qx,pt b4 (dC k1 (.slice (some ⟨mb,0,none⟩) n n) 0) dP,pt b2 lB dP]) (LI n r2 s.length) (fun x=>n-x.1) (0,List.replicate n (0,0),r2,true)
  ⟨bU _,by simp,by dsimp only;omega,fun _=>⟨[],rfl,rfl,rfl⟩,fun h=>(pM h.symm).elim⟩ aP (bm [0,1,1,1,1]).ah ?_
 rintro⟨k,ms,r,ok⟩ hI
 have hk:=hI.k
 have hml:=hI.ms
 have hrl:=hI.len
 dsimp only at hk hml hrl ⊢
 refine ae ?_
 refine CP (p:=(k:Int)<n) Z (fun h3=>CK ?_) (fun h3=>CX ?_)
 ·obtain⟨m,hm⟩:∃m,ms[k]?=some m:=⟨_,GE yd⟩
  refine DY ?_
  refine xO ?_
  refine ae ?_
  refine VG (VO.lA (Lc:=qt mb b6 b5 aU (flat aH ms) ok r) (Lr:=[pt b4 (dC k1 (.slice (some ⟨mb,0,none⟩) n n) 0) dP,pt b2 lB dP]) Z (fun Fr w hF hw _=>As Fr w (U4 hm) yd) Z Z ?_)
  rintro _ _ ⟨rfl,x,q,ok1,i1,rfl⟩
  have n1:=i1.len
  rw[U6 x hm]
  have hm2:(ms.set k (x,m.2))[k]?=some (x,m.2):=iM yd
  show VO _ _ _ _ _ [pt mb (flat aH (ms.set k (x,m.2))) aU,pt b6 [.bool ok1] zd,pt b5 [.string (bT q)] qx,pt b4 (dC k1 (.slice (some ⟨mb,0,none⟩) n n) 0) dP,pt b2 lB dP] _
  refine DY ?_
  refine xO ?_
  refine ae ?_
  refine VG (VO.lA (Lc:=qt mb b6 b5 aU (flat aH (ms.set k (x,m.2))) ok1 q) (Lr:=[pt b4 (dC k1 (.slice (some ⟨mb,0,none⟩) n n) 0) dP,pt b2 lB dP]) Z (fun Fr w hF hw _=>As Fr w (U5 hm2) yd) Z Z ?_)
  rintro _ _ ⟨rfl,y,p,ok2,i2,rfl⟩
  rw[U7 y hm2,v_]
  refine fL ?_
  exact⟨(k+1,ms.set k (x,y),p,ok2),hI.next (m:=m) yd i1 i2,by dsimp only;omega,SC Z (SC Z (SC Z (SC Z (SC Z (SC Z (Sub.int Z f_ (SN _))))))),ER⟩
 obtain rfl:k=n:=by omega
 refine ae ?_
 refine VO.ah (L':=qt b4 b6 b5 dP (dC k1 (.slice (some ⟨mb,0,none⟩) k k) 0) ok r ++ [pt mb (flat aH ms) aU,pt b2 lB dP]) (bm [3,1,1,0,0]).ah ?_
 refine VG (VO.lA (Lc:=qt b4 b6 b5 dP (dC k1 (.slice (some ⟨mb,0,none⟩) k k) 0) ok r) (Lr:=[pt mb (flat aH ms) aU,pt b2 lB dP]) Z (fun Fr w hF hw _=>As Fr w (off:=2) (k0:=0) Z yd) Z Z ?_)
 rintro _ _ ⟨rfl,dr,q,ok3,i3,rfl⟩
 have n3:=i3.len
 show VO _ _ _ _ _ [pt b4 (dC k1 (.slice (some ⟨mb,0,none⟩) k k) dr) dP,pt b6 [.bool ok3] zd,pt b5 [.string (bT q)] qx,pt mb (flat aH ms) aU,pt b2 lB dP] _
 refine ae ?_
 refine xP ?_
 cases ok3 with
 | false=>
  have hn:jV s=none:=by
   rw[hG]
   by_cases e1:ok=true
   ·obtain⟨l,hl,_,_⟩:=hI.t e1
    dsimp only at hl
    rw[hl]
    rcases i3.f rfl with g | g
    ·rw[g] at e1;cases e1
    ·dsimp only;rw[g]
   ·rw[hI.f (by simpa using e1)]
  refine aw ?_
  refine VG (VY 57 true Z Z ?_)
  refine aw ?_
  refine VG (VY 61 true Z Z ?_)
  refine qH ?_
  refine yI ?_
  exact xW
 | true=>
 obtain⟨e1,u1⟩:=i3.t rfl
 obtain⟨l,hl,ht,hll⟩:=hI.t e1
 dsimp only at hl ht hll
 rw[hl] at hG
 dsimp only at hG
 rw[u1] at hG
 dsimp only at hG
 rw[r5 yd] at ht
 rw[←ht] at hG
 refine aw ?_
 refine VG (VY 57 false Z Z ?_)
 refine jG ?_
 by_cases hq:q=[]
 rotate_left
 ·have hn:jV s=none:=by rw[hG,if_neg (fun h=>hq h.1)]
  refine VG (VY 61 true Z (by rw[show(ByteArray.mk #[])=bT [] from Z,qR,DF hq];rfl) ?_)
  refine qH ?_
  refine yI ?_
  exact xW
 refine VG (VY 61 false Z (by rw[show(ByteArray.mk #[])=bT [] from Z,qR,DT hq];rfl) ?_)
 refine aw ?_
 have hdc:dC k1 (.slice (some ⟨mb,0,none⟩) k k) dr=(aW.mk k1 ms dr).cells (some ⟨mb,0,none⟩) k:=by unfold dC aW.cells;rw[hml]
 rw[hdc]
 refine Pz ?_
 refine VG (VV (fun Fr w hF hw hS=>Ch.iG Fr w (aV.aC (off:=0) (hS.aC 3 Z) (fun i x hx=>by have:=ph cn hx [];rw[bK] at this;rw[di];exact this)) (by rw[hml];omega)) Z ?_)
 refine aw ?_
 refine VC.dH Z (fun hc=>?_) (fun hc=>CK ?_)
 ·have hn:jV s=none:=by rw[hG,if_neg (fun h=>hc h.2)]
  refine ae ?_
  refine yI ?_
  exact xW
 rw[if_pos ⟨hq,hc⟩] at hG
 refine aw ?_
 refine Pz ?_
 refine VG (VT (vs:=(aW.mk k1 ms dr).cells (some ⟨mb,0,none⟩) k) (cs':=(aW.mk k1 ms dr).cells (some ⟨mb,0,none⟩) k) 4 Z Z Z Z (NR _) Z Z Z ?_)
 refine aw ?_
 refine CR (aq.dB 2 3 Z Z Z (ax.many (ds:=(aW.mk k1 ms dr).cells (some ⟨mb,0,none⟩) k) 4 Z Z) Z (L':=[aA aU 2 (some ⟨mb,0,none⟩) ms.length k (flat aH ms)]) ?_ (by rw[hG];exact⟨_,_,Z,Z⟩))
 have hsl:aa [pt mb (flat aH ms ++ []) aU] [aA aU 2 (some ⟨mb,0,none⟩) ms.length k (flat aH ms)]:=aa.sl (fA cn ms) yd (by rw[bK,fA cn];omega) aa.refl
 rw[bK] at hsl
 exact((IP 3 Z aa.nil).trans hsl).ah
end Cl
namespace Cl
open Go Vg T Api Ch
attribute [local irreducible] VO VC VA
abbrev gW:TypeId:=181
abbrev jW:TypeId:=223
def gQ(fb:Nat)(o:Nat):List Value:=[.pointer (some ⟨fb,o,none⟩)]
theorem vk(fb o:Nat):(gQ fb o).length=1:=rfl
abbrev uX(n:Int):List Value:=[.int .i64 n]
theorem Ho{a:Option Addr}{c:Nat}{ns:List Int}(h:aV uX 1 Fr w a ns)(hl:ns.length≤1000):az Tryz.prog 213 [.slice a ns.length c] Fr w [] (fun v L=>v=.bool (ns.all gF)∧L=[]):=by
 refine TF 18 Tryz.func213 Z ym aD Z Z ?_
 refine ae ?_
 refine VC.loop (σ:=Nat) (fun k=>[(5,.slice a ns.length c),(6,.int .i64 ns.length),(7,.int .i64 (k:Int))]) (fun _=>[]) (fun k=>k≤ns.length∧(ns.take k).all gF=true) (fun k=>ns.length-k) 0
  ⟨bU _,by rw[r6];rfl⟩ aP ER ?_
 rintro k ⟨hk,hall⟩
 refine ae ?_
 refine CP (p:=(k:Int)<ns.length) Z (fun h1=>CK ?_) (fun h1=>CX ?_)
 rotate_left
 ·rw[r5 yd] at hall
  refine ae ?_
  exact CR (aq.tmp 2 Z Z ER ⟨by rw[hall],Z⟩)
 obtain⟨x,hx⟩:∃x,ns[k]?=some x:=⟨_,GE yd⟩
 obtain⟨xb,xo,hxa,ra,rc⟩:=aV.rd (X:=⟨Tryz.prog,tab,aD,18,Fr,w⟩) h hx
 subst hxa
 have bad:gF x=false→ns.all gF=false:=fun hb=>by
  rw[tm]
  exact⟨x,ME hx,by rw[hb];decide⟩
 refine pL ?_
 refine VG (VO.load Z Z (rc _ _ 0 _ Z Z) ?_)
 refine ae ?_
 by_cases h2:x<0
 ·refine VG (VY 13 true Z (DT h2) ?_)
  refine qH ?_
  exact CR (aq.tmp 2 Z Z ER ⟨by rw[bad (DF yd)],Z⟩)
 refine VG (VY 13 false Z (DF h2) ?_)
 refine aw ?_
 refine CP (p:=1099511627776<x) Z (fun h3=>?_) (fun h3=>CK ?_)
 ·refine ae ?_
  exact CR (aq.tmp 2 Z Z ER ⟨by rw[bad (DF yd)],Z⟩)
 refine fL ?_
 refine⟨k+1,⟨by omega,?_⟩,by dsimp only;omega,SC Z (SC Z (Sub.int Z yd (SN _))),ER⟩
 rw[jb,hx,List.all_append,hall]
 have:gF x=true:=DT yd
 simp[this]
def Ma(fb:Nat)(os:List Nat)(v:Value)(L:List HP):Prop:=∃a c,v=.slice a os.length c∧L=[aA jW 1 a os.length c (flat (gQ fb) os)]
theorem Gd{fb:Nat}{f:ay}{g:jv}(h:bu Fr w fb (f.cells g)):az Tryz.prog 151 [.pointer (some ⟨fb,0,none⟩)] Fr w [] (Ma fb (fT f.kind)):=by
 have fin:∀{X:Cx} {E:Env} {fn:Func} {b:Nat} (os:List Nat),fn.results=#[.tmp 2]→Vg.look E 2=some (.slice (some ⟨b,0,none⟩) os.length os.length)→fT f.kind=os→aq X fn (Ma fb (fT f.kind)) E [pt b (flat (gQ fb) os) jW]:=fun os h1 h2 h3=>
  aq.tmp 2 h1 h2 (aa.Dh (by rw[fA (vk fb)]) aa.refl).ah (by rw[h3];exact⟨_,_,rfl,rfl⟩)
 refine TF 92 Tryz.func151 Z ym aD Z Z ?_
 refine ae ?_
 refine VG (VO.load Z Z (ax.aC h Z) ?_)
 refine ae ?_
 refine CE Z (fun h1=>?_) (fun h1=>?_)
 ·refine ae ?_
  refine CD (ts 0 18 (.only 18 (.take 19 .nil))) ym yr ?_
  refine dp ?_
  refine AG (AO (aQ.buildSlice (n:=6) (pv:=[(0,.pointer (some ⟨fb,1,none⟩)),(1,.pointer (some ⟨fb,2,none⟩)),(2,.pointer (some ⟨fb,3,none⟩)),(3,.pointer (some ⟨fb,4,none⟩)),(4,.pointer (some ⟨fb,5,none⟩)),(5,.pointer (some ⟨fb,6,none⟩))]) (cells:=flat (gQ fb) [1,2,3,4,5,6]) rfl rfl rfl rfl yo rfl) rfl (fun v L' g=>by obtain⟨b,rfl,rfl⟩:=g;exact mU) ?_)
  rintro _ _ ⟨b,rfl,rfl⟩
  refine dp ?_
  exact CR (fin [1,2,3,4,5,6] Z Z (by rw[h1];rfl))
 refine ae ?_
 refine CE Z (fun h2=>?_) (fun h2=>?_)
 ·refine ae ?_
  refine CD (ts 0 9 (.only 9 (.take 10 .nil))) ym yr ?_
  refine dp ?_
  refine AG (AO (aQ.buildSlice (n:=3) (pv:=[(0,.pointer (some ⟨fb,2,none⟩)),(1,.pointer (some ⟨fb,3,none⟩)),(2,.pointer (some ⟨fb,4,none⟩))]) (cells:=flat (gQ fb) [2,3,4]) rfl rfl rfl rfl yo rfl) rfl (fun v L' g=>by obtain⟨b,rfl,rfl⟩:=g;exact mU) ?_)
  rintro _ _ ⟨b,rfl,rfl⟩
  refine dp ?_
  exact CR (fin [2,3,4] Z Z (by rw[h2];rfl))
 refine ae ?_
 refine CE Z (fun h3=>?_) (fun h3=>?_)
 ·refine ae ?_
  refine CD (ts 0 15 (.only 15 (.take 16 .nil))) ym yr ?_
  refine dp ?_
  refine AG (AO (aQ.buildSlice (n:=5) (pv:=[(0,.pointer (some ⟨fb,1,none⟩)),(1,.pointer (some ⟨fb,2,none⟩)),(2,.pointer (some ⟨fb,3,none⟩)),(3,.pointer (some ⟨fb,4,none⟩)),(4,.pointer (some ⟨fb,15,none⟩))]) (cells:=flat (gQ fb) [1,2,3,4,15]) rfl rfl rfl rfl yo rfl) rfl (fun v L' g=>by obtain⟨b,rfl,rfl⟩:=g;exact mU) ?_)
  rintro _ _ ⟨b,rfl,rfl⟩
  refine dp ?_
  exact CR (fin [1,2,3,4,15] Z Z (by rw[h3];rfl))
 refine CS (VC.dX (σ:=Bool) (fun x=>[(0,pV fb),(6,.int .i64 f.kind),(58,.bool x)]) (fun _=>[]) (fun x=>x=(decide (f.kind=4)||decide (f.kind=12))) ?_ ?_)
 ·refine ae ?_
  refine CE Z (fun h4=>CK ?_) (fun h4=>?_)
  ·exact⟨true,by rw[DT h4];rfl,SC Z (SC Z (Sub.bl Z (by rw[h4];rfl) (SN _))),ER⟩
  ·refine ae ?_
   exact⟨decide (f.kind=12),by rw[DF h4];rfl,SC Z (SC Z (Sub.bl Z Z (SN _))),ER⟩
 rintro x hx
 refine ae ?_
 refine CC Z (fun h4=>?_) (fun h4=>?_)
 ·have hk:f.kind=4∨f.kind=12:=by rw[hx] at h4;simpa using h4
  refine ae ?_
  refine VG (VO.buildSlice (n:=1) (pv:=[(0,.pointer (some ⟨fb,1,none⟩))]) (flat (gQ fb) [1]) Z Z Z Z yo Z fun b=>?_)
  refine ae ?_
  exact CR (fin [1] rfl rfl (by rcases hk with e | e<;>rw[e]<;>rfl))
 have hk:f.kind≠4∧f.kind≠12:=by rw[hx] at h4;simpa using h4
 refine ae ?_
 refine CE Z (fun h5=>?_) (fun h5=>?_)
 ·refine ae ?_
  refine CD (ts 0 12 (.only 12 (.take 13 .nil))) ym yr ?_
  refine dp ?_
  refine AG (AO (aQ.buildSlice (n:=4) (pv:=[(0,.pointer (some ⟨fb,1,none⟩)),(1,.pointer (some ⟨fb,26,none⟩)),(2,.pointer (some ⟨fb,27,none⟩)),(3,.pointer (some ⟨fb,28,none⟩))]) (cells:=flat (gQ fb) [1,26,27,28]) rfl rfl rfl rfl yo rfl) rfl (fun v L' g=>by obtain⟨b,rfl,rfl⟩:=g;exact mU) ?_)
  rintro _ _ ⟨b,rfl,rfl⟩
  refine dp ?_
  exact CR (fin [1,26,27,28] Z Z (by rw[h5];rfl))
 refine CS (VC.dX (σ:=Bool) (fun x=>[(0,pV fb),(6,.int .i64 f.kind),(80,.bool x)]) (fun _=>[]) (fun x=>x=true↔(f.kind=6∨f.kind=9∨f.kind=10∨f.kind=11)) ?_ ?_)
 ·refine ae ?_
  refine CE Z (fun h6=>CK ?_) (fun h6=>?_)
  ·exact⟨true,by simp[h6],SC Z (SC Z (Sub.bl Z (by rw[h6];rfl) (SN _))),ER⟩
  refine ae ?_
  refine CE Z (fun h7=>CK ?_) (fun h7=>?_)
  ·exact⟨true,by simp[h7],SC Z (SC Z (Sub.bl Z (by rw[h7];rfl) (SN _))),ER⟩
  refine ae ?_
  refine CE Z (fun h8=>CK ?_) (fun h8=>?_)
  ·exact⟨true,by simp[h8],SC Z (SC Z (Sub.bl Z (by rw[h8];rfl) (SN _))),ER⟩
  refine ae ?_
  exact⟨decide (f.kind=11),by simp[h6,h7,h8],SC Z (SC Z (Sub.bl Z Z (SN _))),ER⟩
 rintro y hy
 refine ae ?_
 refine CC Z (fun h6=>?_) (fun h6=>CK ?_)
 ·have hk2:=hy.1 h6
  refine ae ?_
  refine HX ?_
  refine dp ?_
  refine AG (AO (aQ.buildSlice (n:=2) (pv:=[(0,.pointer (some ⟨fb,1,none⟩)),(1,.pointer (some ⟨fb,26,none⟩))]) (cells:=flat (gQ fb) [1,26]) rfl rfl rfl rfl yo rfl) rfl (fun v L' g=>by obtain⟨b,rfl,rfl⟩:=g;exact mU) ?_)
  rintro _ _ ⟨b,rfl,rfl⟩
  refine dp ?_
  exact CR (fin [1,26] rfl rfl (by rcases hk2 with e | e | e | e<;>rw[e]<;>rfl))
 have hk2:¬(f.kind=6∨f.kind=9∨f.kind=10∨f.kind=11):=fun k=>by rw[hy.2 k] at h6;cases h6
 have ho:fT f.kind=[]:=by
  unfold fT
  rw[if_neg h1,if_neg h2,if_neg h3,if_neg yd,if_neg h5,if_neg hk2]
 refine ae ?_
 exact CR (aq.tmp 2 Z Z (aa.dM aa.nil).ah (by rw[ho];exact⟨_,_,Z,Z⟩))
end Cl
namespace Cl
open Go Vg T Api Ch
attribute [local irreducible] VO VC VA
theorem EJ(f:ay)(g:jv){o:Nat}(h:sC o=true):(f.cells g)[o]?=some (.int .i64 (iw f o)):=by
 have hm:o∈[1,2,3,4,5,6,15,26,27,28]:=by unfold sC at h;exact of_decide_eq_true h
 simp only[jK,oE,or_false] at hm
 rcases hm with rfl | rfl | rfl | rfl | rfl | rfl | rfl | rfl | rfl | rfl<;>rfl
theorem GU{Fr:Nat→Prop}{w:World}{b:Nat}{ns:List Int}(h:bu Fr w b (flat uX ns)):aV uX 1 Fr w (some ⟨b,0,none⟩) ns:=
 aV.aC (off:=0) h fun i x hx=>by
  have:=ph (c:=uX) (n:=1) (fun _=>rfl) hx []
  rw[bK] at this
  rw[di];exact this
def C7(r:iq):List Value:=[.int .i64 r.code,.string r.value,.int .i64 r.version,.int .i64 r.at_]
def BZ(e:bd):List Value:=[.int .i64 e.index,.int .i64 e.aF,.int .i64 e.seq,.int .i64 e.op.kind,.string e.op.key,.string e.op.value,.int .i64 e.op.version]
theorem Ab{f:ay}{a:Option Addr}{cap:Nat}{ms:List aR}(h:aV aH 2 Fr w a ms)(hl:ms.length≤1000000):az Tryz.prog 149 [.agg (f.cells (a,ms.length,cap)).toArray] Fr w [] (fun v L=>v=.bool (mg f ms)∧L=[]):=by
 generalize hfc:f.cells (a,ms.length,cap)=fc
 have hch:(fc.drop 23).take 3=aW.cells ⟨f.dV,ms,f.drain⟩ a cap:=by rw[←hfc];rfl
 have hop:(fc.drop 7).take 4=f.op.cells:=by rw[←hfc];rfl
 have hkd:fc[0]?=some (.int .i64 f.kind):=by rw[←hfc];rfl
 refine TF 86 Tryz.func149 Z ym aD Z Z ?_
 refine CS (CG (VG (VB (vs:=fc) Z fun b=>VG (VN ?_))))
 refine ae ?_
 refine VG (VO.ld 0 Z Z Z hkd ?_)
 refine ae ?_
 by_cases h1:f.kind<1
 ·refine VG (VY 10 true Z (DT h1) ?_)
  refine qH ?_
  exact CR (aq.tmp 2 Z Z aa.nil.ah ⟨by rw[mg,DF yd];rfl,Z⟩)
 refine VG (VY 10 false Z (DF h1) ?_)
 refine aw ?_
 refine VG (VO.ld 0 Z Z Z hkd ?_)
 refine aw ?_
 refine CP (p:=12<f.kind) Z (fun h2=>?_) (fun h2=>CK ?_)
 ·refine ae ?_
  exact CR (aq.tmp 2 Z Z aa.nil.ah ⟨by rw[mg,DF yd];rfl,Z⟩)
 have hM:mg f ms=((fT f.kind).all (fun o=>gF (iw f o))&&pn f ms):=by rw[mg,DT yd];rfl
 refine ae ?_
 refine VG (VK (Lc:=[]) (fun Fr w hF hw hS=>Gd Fr w (fb:=b) (f:=f) (g:=(a,ms.length,cap)) (by rw[hfc];exact hS.aC 0 Z)) Z Z ?_)
 rintro _ _ ⟨na,nc,rfl,rfl⟩
 refine ae ?_
 generalize hos:fT f.kind=os at hM
 have hof:∀o∈os,sC o=true:=fun o ho=>Gf f.kind o (by rw[hos];exact ho)
 have hol:os.length≤6:=by rw[←hos];exact Gg _
 refine VC.bJ 0 Z (ba.rl jW na nc os (vk b)) ?_
 rintro⟨ra,rc,rb,rcs,rxs⟩ ⟨rok,rv,rx⟩
 dsimp only at rx
 subst rx
 injection rv with e1 _ e3
 subst e1 e3
 refine VC.loop (σ:=Nat) (fun k=>[(1,pV b),(15,.slice ra rxs.length rc),(16,.int .i64 rxs.length),(17,.int .i64 (k:Int))]) (fun _=>[RL.h jW ⟨ra,rc,rb,rcs,rxs⟩,pt b fc gW]) (fun k=>k≤rxs.length∧(rxs.take k).all (fun o=>gF (iw f o))=true) (fun k=>rxs.length-k) 0
  ⟨bU _,by rw[r6];rfl⟩ aP ER ?_
 rintro k ⟨hk,hall⟩
 refine ae ?_
 refine CP (p:=(k:Int)<rxs.length) Z (fun h3=>CK ?_) (fun h3=>CX ?_)
 ·obtain⟨o,ho⟩:∃o,rxs[k]?=some o:=⟨_,GE yd⟩
  have hoo:=hof o (ME ho)
  have hcell:fc[o]?=some (.int .i64 (iw f o)):=by rw[←hfc];exact EJ f _ hoo
  obtain⟨tb,tof,htb,hta,hrd⟩:=RL.Ok.ld (t:=jW) (k:=k) (x:=o) rok ho (vk b o)
  dsimp only at hta
  subst hta
  refine pL ?_
  refine VG (VO.load Z Z ((hrd 0 Z).2 _ 0 _ Z Z) ?_)
  refine ae ?_
  refine VG (VO.ld 1 Z Z Z hcell ?_)
  refine VG (VO.buildSlice (n:=1) (pv:=[(0,.int .i64 (iw f o))]) (flat uX [iw f o]) Z Z Z Z yo Z fun sb=>?_)
  refine VG (VV (fun Fr w hF hw hS=>Ho Fr w (ns:=[iw f o]) (GU (hS.aC 0 Z)) (hZ Z)) Z ?_)
  refine ae ?_
  have e:[iw f o].all gF=gF (iw f o):=by simp
  refine VC.fQ Z (fun h4=>?_) (fun h4=>CK ?_)
  ·rw[e] at h4
   refine ae ?_
   exact CR (aq.tmp 2 Z Z aa.nil.ah ⟨by rw[hM,tm.2 ⟨o,ME ho,by rw[h4];decide⟩];rfl,Z⟩)
  rw[e] at h4
  refine fL ?_
  refine⟨k+1,⟨by omega,?_⟩,by dsimp only;omega,SC Z (SC Z (SC Z (Sub.int Z yd (SN _)))),(bm [1,1]).ah⟩
  rw[jb,ho,List.all_append,hall]
  simp[h4]
 rw[r5 yd] at hall
 rw[hall,uH] at hM
 clear rok hall hk h3 hol hof hos
 rw[hM]
 unfold pn
 refine ae ?_
 refine VG (VO.ld 1 Z Z Z hkd ?_)
 refine ae ?_
 refine CE Z (fun k1=>?_) (fun k1=>?_)
 ·rw[if_pos k1]
  refine ae ?_
  refine VG (VL 1 f.op.cells Z Z Z hop ?_)
  refine VG (VV (fun Fr w hF hw hS=>Api.iG Fr w f.op) Z ?_)
  refine ae ?_
  exact sW
 rw[if_neg k1]
 refine ae ?_
 refine CE Z (fun k2=>?_) (fun k2=>?_)
 ·rw[if_pos k2]
  refine ae ?_
  refine VG (VL 1 (C7 f.res) Z Z Z D_ ?_)
  refine VG (VO.alloc Z fun rb2=>?_)
  refine PA ?_
  refine aj ?_
  by_cases g1:1≤f.res.code
  rotate_left
  ·refine VG (VY 43 false Z (DF g1) ?_)
   refine aw ?_
   refine VG (VY 48 false Z Z ?_)
   refine aw ?_
   refine HI ?_
   refine aw ?_
   exact CR (aq.tmp 2 Z Z aa.nil.ah ⟨by rw[DF g1];rfl,Z⟩)
  refine VG (VY 43 true Z (DT g1) ?_)
  refine bW ?_
  by_cases g2:f.res.code≤3
  rotate_left
  ·refine VG (VY 48 false Z (DF g2) ?_)
   refine aw ?_
   refine HI ?_
   refine aw ?_
   exact CR (aq.tmp 2 Z Z aa.nil.ah ⟨by rw[DF g2,ki];rfl,Z⟩)
  refine VG (VY 48 true Z (DT g2) ?_)
  refine bW ?_
  by_cases g3:f.res.value.size≤64
  rotate_left
  ·refine VG (VY 54 false Z (DF yd) ?_)
   refine aw ?_
   exact CR (aq.tmp 2 Z Z aa.nil.ah ⟨by rw[DF g3,ki];rfl,Z⟩)
  refine VG (VY 54 true Z (DT yd) ?_)
  refine bW ?_
  refine VG (VO.buildSlice (n:=2) (pv:=[(0,.int .i64 f.res.version),(1,.int .i64 f.res.at_)]) (flat uX [f.res.version,f.res.at_]) Z Z Z Z yo Z fun sb=>?_)
  refine VG (VV (fun Fr w hF hw hS=>Ho Fr w (ns:=[f.res.version,f.res.at_]) (GU (hS.aC 0 Z)) (hZ Z)) Z ?_)
  refine aw ?_
  exact CR (aq.tmp 2 Z Z aa.nil.ah ⟨by rw[DT g1,DT g2,DT g3];simp,Z⟩)
 rw[if_neg k2]
 refine ae ?_
 refine CE Z (fun k4=>?_) (fun k4=>?_)
 ·rw[if_pos k4]
  refine ae ?_
  refine VG (VL 1 (BZ f.entry) Z Z Z D_ ?_)
  refine VG (VO.alloc Z fun eb=>?_)
  refine PB ?_
  refine aj ?_
  refine VG (VO.buildSlice (n:=3) (pv:=[(0,.int .i64 f.entry.index),(1,.int .i64 f.entry.aF),(2,.int .i64 f.entry.seq)]) (flat uX [f.entry.index,f.entry.aF,f.entry.seq]) Z Z Z Z yo Z fun sb=>?_)
  refine VG (VV (fun Fr w hF hw hS=>Ho Fr w (ns:=[f.entry.index,f.entry.aF,f.entry.seq]) (GU (hS.aC 0 Z)) (hZ Z)) Z ?_)
  have e3:[f.entry.index,f.entry.aF,f.entry.seq].all gF=(gF f.entry.index&&(gF f.entry.aF&&gF f.entry.seq)):=by simp
  rw[e3]
  generalize (gF f.entry.index&&(gF f.entry.aF&&gF f.entry.seq))=x
  refine aw ?_
  cases x with
  | false=>
   refine VG (VY 74 false Z Z ?_)
   refine aw ?_
   exact sW
  | true=>
  refine VG (VY 74 true Z Z ?_)
  refine aw ?_
  refine VG (VL 1 f.entry.op.cells Z Z Z Z ?_)
  refine VG (VV (fun Fr w hF hw hS=>Api.iG Fr w f.entry.op) Z ?_)
  refine aw ?_
  exact sW
 rw[if_neg k4]
 refine ae ?_
 refine CE Z (fun k8=>?_) (fun k8=>CK ?_)
 ·rw[if_pos k8]
  refine ae ?_
  refine VG (VL 1 (aW.cells ⟨f.dV,ms,f.drain⟩ a cap) Z Z Z hch ?_)
  refine VG (VV (fun Fr w hF hw hS=>Ch.iG Fr w (c:=⟨f.dV,ms,f.drain⟩) (h.of hF hw) IC) Z ?_)
  refine ae ?_
  exact sW
 rw[if_neg k8]
 refine ae ?_
 exact sW
end Cl
namespace Cl
open Go Vg T Api Ch
attribute [local irreducible] VO VC VA
theorem Cs{f:ay}{ms:List aR}(h:mg f ms=true):pn f ms=true:=by
 unfold mg at h
 simp only[dN] at h
 exact h.2.2
theorem Lt{f:ay}{ms:List aR}(h:mg f ms=true)(k:f.kind=1):dD f.op=0:=by
 have:=Cs h
 rw[pn,if_pos k] at this
 exact of_decide_eq_true this
theorem Lu{f:ay}{ms:List aR}(h:mg f ms=true)(k:f.kind=2):f.res.value.size≤64:=by
 have:=Cs h
 rw[pn,if_neg yd,if_pos k] at this
 simp only[dN,decide_eq_true_eq] at this
 omega
theorem Lv{f:ay}{ms:List aR}(h:mg f ms=true)(k:f.kind=4):dD f.entry.op=0∧gF f.entry.index=true∧gF f.entry.aF=true∧gF f.entry.seq=true:=by
 have:=Cs h
 rw[pn,if_neg yd,if_neg yd,if_pos k] at this
 simp only[dN,decide_eq_true_eq] at this
 exact⟨this.2,this.1.1,this.1.2.1,this.1.2.2⟩
theorem Lw{f:ay}{ms:List aR}(h:mg f ms=true)(k:f.kind=8):e_ ⟨f.dV,ms,f.drain⟩=0:=by
 have:=Cs h
 rw[pn,if_neg yd,if_neg yd,if_neg yd,if_pos k] at this
 exact of_decide_eq_true this
theorem Rb{f:ay}{ms:List aR}(h:mg f ms=true):(lU f ms).length≤200:=by
 unfold lU
 split
 ·rename_i k
  have:=Gj (Lt h k);omega
 split
 ·rename_i k
  have:=Lu h k
  have a:=gO f.res.code
  have b:=xB (sB f.res.value)
  have c:=gO f.res.version
  have d:=gO f.res.at_
  rw[um] at b
  simp only[a_];omega
 split
 ·rename_i k
  have:=Gj (Lv h k).1
  have a:=gO f.entry.index
  have b:=gO f.entry.aF
  have c:=gO f.entry.seq
  simp only[a_];omega
 split
 ·rename_i k
  have:=RC (Lw h k);omega
 ·exact bU _
theorem Rc{f:ay}{a:Option Addr}{cap:Nat}{ms:List aR}(h:aV aH 2 Fr w a ms)(hl:ms.length≤1000000)(hm:mg f ms=true):az Tryz.prog 152 [.agg (f.cells (a,ms.length,cap)).toArray] Fr w [] (fun v L=>v=.string (bT (lU f ms))∧L=[]):=by
 generalize hfc:f.cells (a,ms.length,cap)=fc
 have hch:(fc.drop 23).take 3=aW.cells ⟨f.dV,ms,f.drain⟩ a cap:=by rw[←hfc];rfl
 have hop:(fc.drop 7).take 4=f.op.cells:=by rw[←hfc];rfl
 have hkd:fc[0]?=some (.int .i64 f.kind):=by rw[←hfc];rfl
 refine TF 66 Tryz.func152 Z ym aD Z Z ?_
 refine CS (CG (VG (VB (vs:=fc) Z fun b=>VG (VN ?_))))
 refine CS (CS (CG (VG (VO.ld 0 Z Z Z hkd (VG (VN ?_))))))
 refine VC.dX (σ:=Unit) (fun _=>[(2,.string (bT (lU f ms)))]) (fun _=>[]) (fun _=>True) ?_ ?_
 rotate_left
 ·rintro⟨⟩ _
  refine ae ?_
  exact sW
 unfold lU
 refine ae ?_
 refine CE Z (fun k1=>?_) (fun k1=>?_)
 ·have ho:=Lt hm k1
  rw[if_pos k1]
  refine ae ?_
  refine VG (VL 0 f.op.cells Z Z Z hop ?_)
  refine VG (VV (fun Fr w hF hw hS=>Mn Fr w f.op) Z ?_)
  rw[if_pos ho]
  refine ae ?_
  exact Ba
 rw[if_neg k1]
 refine ae ?_
 refine CE Z (fun k2=>?_) (fun k2=>?_)
 ·have hv:=Lu hm k2
  have l1:=gO f.res.code
  have l2:=xB (sB f.res.value)
  have l3:=gO f.res.version
  have l4:=gO f.res.at_
  rw[um] at l2
  rw[if_pos k2]
  refine ae ?_
  refine VG (VL 0 (C7 f.res) Z Z Z D_ ?_)
  refine VG (VO.alloc Z fun rb=>?_)
  refine PA ?_
  refine ae ?_
  refine CD (ts 0 2 (ts 3 2 (ts 7 2 (ts 11 2 (.only 2 (.only 5 (.take 6 (.only 9 (.take 10 (.only 13 (ts 14 2 .nil))))))))))) ym yr ?_
  refine bt ?_
  refine AG (AR (fun Fr w hF hs hS=>np Fr w f.res.code) Z Z yu ?_)
  refine AG (AR (fun Fr w hF hs hS=>He Fr w f.res.value yd) Z Z yu ?_)
  refine A7 ?_
  refine AG (AR (fun Fr w hF hs hS=>np Fr w f.res.version) Z Z yu ?_)
  refine AG (AI Z (sE Z Z Qm) ?_)
  refine AG (AR (fun Fr w hF hs hS=>np Fr w f.res.at_) Z Z yu ?_)
  refine AG (AI Z (sE Z Z Qn) ?_)
  rw[←mI,←mI,←mI]
  refine bt ?_
  exact Ba
 rw[if_neg k2]
 refine ae ?_
 refine CE Z (fun k4=>?_) (fun k4=>?_)
 ·have ho:=(Lv hm k4).1
  have l1:=gO f.entry.index
  have l2:=gO f.entry.aF
  have l3:=gO f.entry.seq
  have l4:=Gj ho
  rw[if_pos k4]
  refine ae ?_
  refine VG (VL 0 (BZ f.entry) Z Z Z D_ ?_)
  refine VG (VO.alloc Z fun eb=>?_)
  refine PB ?_
  refine ae ?_
  refine VG (VL 0 f.entry.op.cells Z Z Z Z ?_)
  refine VG (VV (fun Fr w hF hw hS=>Mn Fr w f.entry.op) Z ?_)
  rw[if_pos ho]
  refine ae ?_
  refine CD (ts 0 2 (ts 3 2 (ts 7 2 (.take 11 (.only 2 (.only 5 (.take 6 (.only 9 (.take 10 (ts 12 2 .nil)))))))))) ym yr ?_
  refine bt ?_
  refine AG (AR (fun Fr w hF hs hS=>np Fr w f.entry.index) Z Z yu ?_)
  refine AG (AR (fun Fr w hF hs hS=>np Fr w f.entry.aF) Z Z yu ?_)
  refine A7 ?_
  refine AG (AR (fun Fr w hF hs hS=>np Fr w f.entry.seq) Z Z yu ?_)
  refine AG (AI Z (sE Z Z Qm) ?_)
  refine AG (AI Z (sE Z Z Qn) ?_)
  rw[←mI,←mI,←mI]
  refine bt ?_
  exact Ba
 rw[if_neg k4]
 refine ae ?_
 refine CE Z (fun k8=>?_) (fun k8=>CK ?_)
 ·have hc:=Lw hm k8
  rw[if_pos k8]
  refine ae ?_
  refine VG (VL 0 (aW.cells ⟨f.dV,ms,f.drain⟩ a cap) Z Z Z hch ?_)
  refine VG (VV (fun Fr w hF hw hS=>RY Fr w (c:=⟨f.dV,ms,f.drain⟩) (h.of hF hw) hl) Z ?_)
  rw[if_pos hc]
  refine ae ?_
  exact Ba
 rw[if_neg k8]
 exact Ba
end Cl
namespace Cl
open Go Vg T Api Ch
attribute [local irreducible] VO VC VA
def Kx(o:Option Bs)(v:Value):Prop:=match o with
 | some t=>v=.tuple #[.string (bT t),.int .i64 0]
 | none=>∃e,e≠0∧v=.tuple #[.string (bT []),.int .i64 e]
theorem Ge(f:ay):∀os:List Nat,(os.flatMap (fun o=>cZ (iw f o))).length≤9*os.length
 | []=>NR _
 | o::os=>by
  have:=gO (iw f o)
  have:=Ge f os
  rw[uL,a_,iA];omega
theorem Tk{f:ay}{a:Option Addr}{cap:Nat}{ms:List aR}(h:aV aH 2 Fr w a ms)(hl:ms.length≤1000000):az Tryz.prog 95 [.agg (f.cells (a,ms.length,cap)).toArray] Fr w [] (fun v L=>Kx (qq f ms) v∧L=[]):=by
 refine TF 34 Tryz.func95 Z ym aD Z Z ?_
 refine CS (CG (VG (VB (vs:=f.cells (a,ms.length,cap)) Z fun b=>VG (VN ?_))))
 refine ae ?_
 refine VG (VL 0 (f.cells (a,ms.length,cap)) Z Z Z Z ?_)
 refine VG (VV (fun Fr w hF hw hS=>Ab Fr w (h.of hF hw) hl) Z ?_)
 refine ae ?_
 refine VC.fQ Z (fun hm=>?_) (fun hm=>CK ?_)
 ·refine ae ?_
  exact CR (aq.dh 2 3 Z Z Z aa.nil.ah ⟨by rw[qq,if_neg (by rw[hm];decide)];exact⟨2,by decide,Z⟩,Z⟩)
 have hP:qq f ms=if 512<(uj f ms).length then none else some (uj f ms):=by rw[qq,if_pos hm]
 have lb:=Rb hm
 have lk:=gO f.kind
 refine aj ?_
 refine VG (VV (fun Fr w hF hw hS=>np Fr w f.kind) Z ?_)
 refine ae ?_
 refine VG (VK (Lc:=[]) (fun Fr w hF hw hS=>Gd Fr w (fb:=b) (f:=f) (g:=(a,ms.length,cap)) (hS.aC 0 Z)) Z Z ?_)
 rintro _ _ ⟨na,nc,rfl,rfl⟩
 refine ae ?_
 have hpb:uj f ms=(cZ f.kind++(fT f.kind).flatMap (fun o=>cZ (iw f o)))++lU f ms:=rfl
 generalize hos:fT f.kind=os at hpb
 have hof:∀o∈os,sC o=true:=fun o ho=>Gf f.kind o (by rw[hos];exact ho)
 have hol:os.length≤6:=by rw[←hos];exact Gg _
 refine VC.bJ 0 Z (ba.rl jW na nc os (vk b)) ?_
 rintro⟨ra,rc,rb,rcs,rxs⟩ ⟨rok,rv,rx⟩
 dsimp only at rx
 subst rx
 injection rv with e1 _ e3
 subst e1 e3
 refine VC.loop (σ:=Nat) (fun k=>[(1,pV b),(13,.slice ra rxs.length rc),(14,.int .i64 rxs.length),(15,.int .i64 (k:Int)),(4,.string (bT (cZ f.kind++(rxs.take k).flatMap (fun o=>cZ (iw f o)))))]) (fun _=>[RL.h jW ⟨ra,rc,rb,rcs,rxs⟩,pt b (f.cells (a,ms.length,cap)) gW]) (fun k=>k≤rxs.length) (fun k=>rxs.length-k) 0
  (bU _) (SC rfl (SC rfl (SC rfl (SC rfl (SC Qe (SN _)))))) ER ?_
 rintro k hk
 refine ae ?_
 refine CP (p:=(k:Int)<rxs.length) Z (fun h3=>CK ?_) (fun h3=>CX ?_)
 ·obtain⟨o,ho⟩:∃o,rxs[k]?=some o:=⟨_,GE yd⟩
  have hoo:=hof o (ME ho)
  have lo:=gO (iw f o)
  have lt:=Ge f (rxs.take k)
  rw[kH] at lt
  have e:(rxs.take (k+1)).flatMap (fun o=>cZ (iw f o))=(rxs.take k).flatMap (fun o=>cZ (iw f o))++cZ (iw f o):=by rw[jb,ho,List.flatMap_append];simp
  obtain⟨tb,tof,htb,hta,hrd⟩:=RL.Ok.ld (t:=jW) (k:=k) (x:=o) rok ho (vk b o)
  dsimp only at hta
  subst hta
  refine pL ?_
  refine VG (VO.load Z Z ((hrd 0 Z).2 _ 0 _ Z Z) ?_)
  refine ae ?_
  refine VG (VO.ld 1 Z Z Z (EJ f _ hoo) ?_)
  refine VG (VV (fun Fr w hF hw hS=>np Fr w (iw f o)) Z ?_)
  refine DQ ?_
  rw[←mI]
  refine fL ?_
  exact⟨k+1,by omega,by dsimp only;omega,SC Z (SC Z (SC Z (Sub.int Z yd (SC Qf (SN _))))),ER⟩
 obtain rfl:k=rxs.length:=by omega
 have lt:=Ge f rxs
 rw[lj]
 refine ae ?_
 refine VG (VL 1 (f.cells (a,ms.length,cap)) Z Z Z Z ?_)
 refine VG (VV (fun Fr w hF hw hS=>Rc Fr w (h.of hF hw) hl hm) Z ?_)
 refine DQ ?_
 rw[←mI,←hpb]
 refine ae ?_
 refine CP (p:=(512:Int)<(bT (uj f ms)).size) Z (fun h4=>?_) (fun h4=>CK ?_)
 ·rw[iO] at h4
  refine ae ?_
  exact CR (aq.dh 2 3 Z Z Z aa.nil.ah ⟨by rw[hP,if_pos yd];exact⟨3,by decide,Z⟩,Z⟩)
 rw[iO] at h4
 refine ae ?_
 exact CR (aq.dh 2 3 Z Z Z aa.nil.ah ⟨by rw[hP,if_neg yd];exact Z,Z⟩)
def pA:List Value→List Nat→List Int→List Value
 | cs,o::os,k::ks=>pA (cs.set o (.int .i64 k)) os ks
 | cs,_,_=>cs
theorem Nn{o:Nat}{x:Int}:∀{os:List Nat} {ks:List Int} {cs:List Value},os.length=ks.length→pA cs (os ++ [o]) (ks ++ [x])=(pA cs os ks).set o (.int .i64 x)
 | [],[],cs,_=>rfl
 | a::os,b::ks,cs,h=>Nn (os:=os) (ks:=ks) yc
 | [],_::_,_,h=>by simp at h
 | _::_,[],_,h=>by simp at h
def sA(v:Option Value):Prop:=∃n,v=some (.int .i64 n)
theorem Nl{o:Nat}:∀{os:List Nat} {ks:List Int} {cs:List Value},sA cs[o]?→sA (pA cs os ks)[o]?
 | a::os,b::ks,cs,h=>Nl (os:=os) (ks:=ks) (by
   by_cases e:a=o
   ·subst e
    obtain⟨n,hn⟩:=h
    exact⟨b,by rw[iM (bY.1 hn).1]⟩
   ·rw[kG e];exact h)
 | [],_,_,h=>h
 | _::_,[],_,h=>h
theorem XO{cs:List Value}{o:Nat}{v:Value}(h:cs[o]?=some v):cs.set o v=cs:=by
 refine pN fun j=>?_
 by_cases e:o=j
 ·subst e;rw[iM (bY.1 h).1,h]
 ·rw[kG e]
structure NI(os:List Nat)(s:Bs)(k:Nat)(x:List Int×Bs×Bool):Prop where
 le:k≤os.length
 ks:x.1.length=k
 len:x.2.1.length≤s.length
 t:x.2.2=true→gX k s=some (x.1,x.2.1)
 f:x.2.2=false→gX os.length s=none
def Vz(fb:Nat)(T:TypeId)(cs:List Value)(os:List Nat)(s:Bs)(v:Value)(L:List HP):Prop:=
 ∃x:List Int×Bs×Bool,NI os s os.length x∧v=.tuple #[.string (bT x.2.1),.bool x.2.2]∧L=[pt fb (pA cs os x.1) T]
theorem zP{s:Bs}(hs:s.length≤1000000){fb:Nat}{T:TypeId}{cs:List Value}{os:List Nat}(hol:os.length≤1000)(ho:∀o∈os,sA cs[o]?){a:Option Addr}{c:Nat}(h:aV (gQ fb) 1 Fr w a os):
  az Tryz.prog 177 [.string (bT s),.slice a os.length c] Fr w [pt fb cs T] (Vz fb T cs os s):=by
 refine TF 27 Tryz.func177 Z ym aD Z Z ?_
 refine ae ?_
 refine VC.loop (σ:=Nat×List Int×Bs×Bool) (fun x=>[(9,.slice a os.length c),(10,.int .i64 os.length),(11,.int .i64 (x.1:Int)),(4,.string (bT x.2.2.1)),(5,.bool x.2.2.2)]) (fun x=>[pt fb (pA cs (os.take x.1) x.2.1) T]) (fun x=>NI os s x.1 x.2) (fun x=>os.length-x.1) (0,[],s,true)
  ⟨bU _,rfl,NR _,fun _=>rfl,fun h=>(pM h.symm).elim⟩ aP (by rw[r6];exact ER) ?_
 rintro⟨k,ks,r,ok⟩ hI
 have hk:=hI.le
 have hkl:=hI.ks
 have hrl:=hI.len
 dsimp only at hk hkl hrl ⊢
 refine ae ?_
 refine CP (p:=(k:Int)<os.length) Z (fun h3=>CK ?_) (fun h3=>CX ?_)
 rotate_left
 ·obtain rfl:k=os.length:=by omega
  rw[lj]
  refine ae ?_
  exact CR (aq.dh 4 5 Z Z Z ER ⟨(ks,r,ok),hI,Z,Z⟩)
 obtain⟨o,hoo⟩:∃o,os[k]?=some o:=⟨_,GE yd⟩
 obtain⟨xb,xo,hxa,ra,rc⟩:=aV.rd (X:=⟨Tryz.prog,tab,aD,27,Fr,w⟩) h hoo
 subst hxa
 obtain⟨n0,hn0⟩:=Nl (os:=os.take k) (ks:=ks) (ho o (ME hoo))
 have hlt:=(bY.1 hn0).1
 have htk:os.take (k+1)=os.take k ++ [o]:=by rw[jb,hoo];rfl
 have hsn:∀x:Int,pA cs (os.take (k+1)) (ks ++ [x])=(pA cs (os.take k) ks).set o (.int .i64 x):=fun x=>by rw[htk,Nn Ix]
 refine CS (VC.dX (σ:=List Int×Bs×Bool) (fun x=>[(9,.slice (some ⟨xb,xo,none⟩) os.length c),(10,.int .i64 os.length),(11,.int .i64 (k:Int)),(4,.string (bT x.2.1)),(5,.bool x.2.2)]) (fun x=>[pt fb (pA cs (os.take (k+1)) x.1) T]) (fun x=>NI os s (k+1) x) ?_ ?_)
 ·refine pL ?_
  refine VG (VO.load Z Z (rc _ _ 0 _ Z Z) ?_)
  refine ae ?_
  refine CC Z (fun h=>?_) (fun h=>CK ?_)
  ·subst h
   have ht:=hI.t rfl
   dsimp only at ht
   obtain⟨x,q,ok,hv,hql,hk1,hk2⟩:=Dk r
   refine ae ?_
   refine VG (VV (fun Fr w hF hw _=>hv▸Dm Fr w r yd) Z ?_)
   refine ae ?_
   refine VG (VO.st 0 (cs':=(pA cs (os.take k) ks).set o (.int .i64 x)) Z Z Z Z hlt Z Z ?_)
   refine ae ?_
   refine⟨(ks ++ [x],q,ok),⟨by omega,by simp[hkl],by dsimp only;omega,fun h=>?_,fun h=>?_⟩,aP,by dsimp only;rw[hsn];exact ER⟩
   ·rw[rk,ht];simp[hk1 h]
   ·have:gX (k+1) s=none:=by rw[rk,ht];simp[hk2 h]
    have:=FE this (os.length-(k+1))
    rwa[show k+1+(os.length-(k+1))=os.length from by omega] at this
  ·subst h
   exact⟨(ks ++ [n0],r,false),⟨by omega,by simp[hkl],hrl,fun h=>(pM h).elim,fun _=>hI.f Z⟩,aP,by dsimp only;rw[hsn,XO hn0];exact ER⟩
 rintro⟨ks2,r2,ok2⟩ hI2
 refine fL ?_
 exact⟨(k+1,ks2,r2,ok2),hI2,by dsimp only;omega,SC Z (SC Z (Sub.int Z f_ aP)),ER⟩
end Cl
namespace Cl
open Go Vg T Api Ch
attribute [local irreducible] VO VC VA
def B4(fb:Nat)(f:ay)(ms:List aR)(L:List HP):Prop:=∃a cap,L=[pt fb (f.cells (a,ms.length,cap)) gW,aA aU 2 a ms.length cap (flat aH ms)]
def Tm(fb:Nat)(o:Option (ay×List aR))(v:Value)(L:List HP):Prop:=match o with
 | some x=>v=.bool true∧B4 fb x.1 x.2 L
 | none=>v=.bool false∧L=[]
abbrev IW:=Int×Bs×Bool×List HP
structure ly(fb:Nat)(o:Option (ay×List aR))(x:IW):Prop where
 yes:x.2.2.1=true→x.1=0→x.2.1=[]→∃y,o=some y∧B4 fb y.1 y.2 x.2.2.2
 no:¬(x.2.2.1=true∧x.1=0∧x.2.1=[])→o=none
theorem ly.ok{fb:Nat}{o:Option (ay×List aR)}{f:ay}{ms:List aR}{L:List HP}(h:o=some (f,ms))(hL:B4 fb f ms L):ly fb o (0,[],true,L):=⟨fun _ _ _=>⟨_,h,hL⟩,fun k=>absurd ⟨rfl,rfl,rfl⟩ k⟩
theorem ly.bad{fb:Nat}{o:Option (ay×List aR)}{e:Int}{r:Bs}{ok:Bool}{L:List HP}(h:o=none)(hb:¬(ok=true∧e=0∧r=[])):ly fb o (e,r,ok,L):=⟨fun h1 h2 h3=>absurd ⟨h1,h2,h3⟩ hb,fun _=>h⟩
def eE:jv:=(none,0,0)
theorem B5{fb:Nat}{f:ay}:B4 fb f [] [pt fb (f.cells eE) gW,aA aU 2 none 0 0 (flat aH [])]:=⟨none,0,rfl⟩
theorem BX{X:Cx}{fb:Nat}{f:ay}{L:List HP}(h:aa L [pt fb (f.cells eE) gW]):dq X L [pt fb (f.cells eE) gW,aA aU 2 none 0 0 (flat aH [])]:=
 ((h.trans (aa.dM aa.refl)).trans (IP 1 rfl aa.refl)).ah
theorem QX{cs:List Value}:∀o∈([]:List Nat),sA cs[o]?:=fun o ho=>by cases ho
theorem BJ{cs:List Value}{a:Nat}{l:List Nat}(h:sA cs[a]?)(hl:∀o∈l,sA cs[o]?):∀o∈a::l,sA cs[o]?:=fun o ho=>by
 rcases jK.1 ho with rfl | ho
 ·exact h
 ·exact hl o ho
theorem BI{cs:List Value}{a:Nat}(h:sA cs[a]?):∀o∈[a],sA cs[o]?:=BJ h QX
theorem Ce{s:Bs}:gX 1 s=(cw s).map fun x=>([x.1],x.2):=by
 rw[gX]
 cases cw s with
 | none=>rfl
 | some x=>rfl
theorem C_{Fr:Nat→Prop}{w:World}{b fb:Nat}{os:List Nat}(h:bu Fr w b (flat (gQ fb) os)):aV (gQ fb) 1 Fr w (some ⟨b,0,none⟩) os:=
 aV.aC (off:=0) h fun i x hx=>by
  have:=ph (vk fb) hx []
  rw[bK] at this
  rw[di];exact this
theorem Tn{s:Bs}(hs:s.length≤1000000){fb:Nat}{f:ay}:az Tryz.prog 178 [.pointer (some ⟨fb,0,none⟩),.string (bT s)] Fr w [pt fb (f.cells eE) gW] (Tm fb (nC f s)):=by
 refine TF 110 Tryz.func178 Z ym aD Z Z ?_
 refine mA ?_
 refine mA ?_
 refine mA ?_
 refine CS (CS (CG (VG (VO.ld 0 Z Z Z Z (VG (VN ?_))))))
 refine VC.dX (σ:=IW) (fun x=>[(5,.int .i64 x.1),(6,.string (bT x.2.1)),(7,.bool x.2.2.1)]) (fun x=>x.2.2.2) (ly fb (nC f s)) ?_ ?_
 rotate_left
 ·rintro⟨e,r,ok,L⟩ hE
  refine ae ?_
  cases ok with
  | false=>
   refine VG (VY 102 false Z Z ?_)
   refine aw ?_
   refine VG (VY 106 false Z Z ?_)
   refine aw ?_
   exact CR (aq.tmp 4 Z Z aa.nil.ah (by rw[hE.no (fun h=>pM h.1)];exact⟨rfl,Z⟩))
  | true=>
  refine VG (VY 102 true Z Z ?_)
  refine aw ?_
  by_cases he:e=0
  rotate_left
  ·refine VG (VY 106 false Z (beq_eq_false_iff_ne.2 he) ?_)
   refine aw ?_
   exact CR (aq.tmp 4 Z Z aa.nil.ah (by rw[hE.no (fun h=>he h.2.1)];exact⟨rfl,Z⟩))
  refine VG (VY 106 true Z (beq_iff_eq.2 he) ?_)
  refine aw ?_
  by_cases hr:r=[]
  rotate_left
  ·exact CR (aq.bool (b:=false) 4 Z Z (by rw[show(ByteArray.mk #[])=bT [] from Z,qR];exact DF hr) aa.nil.ah (by rw[hE.no (fun h=>hr h.2.2)];exact⟨rfl,Z⟩))
  obtain⟨y,hy,hL⟩:=hE.yes rfl he hr
  exact CR (aq.bool (b:=true) 4 Z Z (by rw[show(ByteArray.mk #[])=bT [] from Z,qR];exact DT hr) ER (by rw[hy];exact⟨rfl,hL⟩))
 have nf:∀{e:Int} {r:Bs},¬(false=true∧e=0∧r=[]):=fun h=>pM h.1
 have n10:∀{r:Bs},¬(true=true∧(10:Int)=0∧r=[]):=fun h=>absurd h.2.1 yo
 unfold nC
 refine ae ?_
 refine CE Z (fun k1=>?_) (fun k1=>?_)
 ·rw[if_pos k1]
  refine ae ?_
  cases hg:rf s with
  | none=>
   refine VG (VV (u:=zA none) (fun Fr w hF hw _=>hg▸CL Fr w s hs) Z ?_)
   refine aw ?_
   refine VG (VT (vs:=bB.cells ⟨0,bT [],bT [],0⟩) (cs':=({ f with op:=⟨0,bT [],bT [],0⟩ }:ay).cells eE) 0 Z Z Z Z (by show 7+4≤29;omega) Z Z Z ?_)
   refine aw ?_
   exact Ib
  | some o=>
   refine VG (VV (u:=zA (some o)) (fun Fr w hF hw _=>hg▸CL Fr w s hs) Z ?_)
   refine aw ?_
   refine VG (VT (vs:=o.cells) (cs':=({ f with op:=o }:ay).cells eE) 0 Z Z Z Z (by show 7+4≤29;omega) Z Z Z ?_)
   refine aw ?_
   exact⟨(0,[],true,_),ly.ok Z B5,aP,BX aa.refl⟩
 rw[if_neg k1]
 refine ae ?_
 refine CE Z (fun k2=>?_) (fun k2=>?_)
 ·rw[if_pos k2]
  refine ae ?_
  refine VG (VO.buildSlice (n:=1) (pv:=[(0,.pointer (some ⟨fb,11,none⟩))]) (flat (gQ fb) [11]) Z Z Z Z yo Z fun sb=>?_)
  refine VO.ah (L':=[pt fb (f.cells eE) gW] ++ [pt sb (flat (gQ fb) [11]) jW]) (bm [1,0]).ah ?_
  refine VG (VK (Lc:=[pt fb (f.cells eE) gW]) (fun Fr w hF hw hS=>zP Fr w (os:=[11]) hs yo (BI ⟨_,Z⟩) (C_ (hS.aC 0 Z))) Z Z ?_)
  rintro _ _ ⟨⟨ks,r,ok⟩,hI,rfl,rfl⟩
  have hl:=hI.len
  have h1:=hI.ks
  have ht:=hI.t
  have hf:=hI.f
  dsimp only at hl h1 ht hf
  obtain⟨code,rfl⟩:∃x,ks=[x]:=by
   match ks,h1 with
   | [x],_=>exact⟨x,rfl⟩
  show VO _ _ _ _ _ [pt fb (({ f with res:={ f.res with code:=code } }:ay).cells eE) gW,pt sb (flat (gQ fb) [11]) jW] _
  rw[show([11]:List Nat).length=1 from rfl,Ce] at ht hf
  refine aw ?_
  cases ok with
  | false=>
   have hu:cw s=none:=by simpa using hf rfl
   refine js ?_
   refine qG ?_
   exact⟨(0,r,false,[]),ly.bad (by rw[hu]) nf,aP,aa.nil.ah⟩
  | true=>
  have hu:cw s=some (code,r):=by
   have:=ht rfl
   cases hx:cw s with
   | none=>rw[hx] at this;cases this
   | some x=>rw[hx] at this;simp at this;rw[←this.1,←this.2]
  refine mz ?_
  obtain⟨val,q,ok2,hv,hql,hc1,hc2⟩:=EX r
  refine aw ?_
  refine HY ?_
  refine aw ?_
  refine VG (VO.st 0 (cs':=({ f with res:={ f.res with code:=code,value:=bT val } }:ay).cells eE) Z Z Z Z (by show 12<29;omega) Z Z ?_)
  refine aw ?_
  rw[hu]
  dsimp only
  cases ok2 with
  | false=>
   refine js ?_
   exact⟨(0,q,false,[]),ly.bad (by rw[hc2 rfl]) nf,aP,aa.nil.ah⟩
  | true=>
  rw[hc1 rfl]
  dsimp only
  refine uD ?_
  refine CD (ts 0 9 (.only 9 (.only 10 (ts 11 5 .nil)))) ym yr ?_
  refine dp ?_
  refine AG (AO (aQ.buildSlice (n:=2) (pv:=[(0,.pointer (some ⟨fb,13,none⟩)),(1,.pointer (some ⟨fb,14,none⟩))]) (cells:=flat (gQ fb) [13,14]) rfl rfl rfl rfl yo rfl) rfl (fun v L' g=>by obtain⟨b,rfl,rfl⟩:=g;exact mU) ?_)
  rintro _ _ ⟨sc,rfl,rfl⟩
  refine AG (AO (OC (Lc:=[pt fb (({ f with res:={ f.res with code:=code,value:=bT val } }:ay).cells eE) gW]) (Lr:=[pt sc (flat (gQ fb) [13,14]) jW,pt sb (flat (gQ fb) [11]) jW]) rfl (.swap _ _ _) (fun Fr w hF hw hS=>zP Fr w (s:=q) (os:=[13,14]) yd (hZ rfl) (BJ ⟨_,rfl⟩ (BI ⟨_,rfl⟩)) (C_ (hS.aC 0 rfl)))) rfl (fun v L' g=>by obtain⟨_,⟨x,_,rfl,rfl⟩,rfl⟩:=g;exact mU) ?_)
  rintro _ _ ⟨_,⟨⟨ks,r3,ok3⟩,hI3,rfl,rfl⟩,rfl⟩
  have h3l:=hI3.len
  have h31:=hI3.ks
  have h3t:=hI3.t
  have h3f:=hI3.f
  dsimp only at h3l h31 h3t h3f
  obtain⟨ver,at_,rfl⟩:∃x y,ks=[x,y]:=by
   match ks,h31 with
   | [x,y],_=>exact⟨x,y,rfl⟩
  rw[show([13,14]:List Nat).length=1+1 from rfl,rk,Ce] at h3t h3f
  refine dp ?_
  cases h5:cw q with
  | none=>
   have hko:ok3=false:=by
    cases ok3 with
    | false=>rfl
    | true=>have:=h3t rfl;rw[h5] at this;cases this
   subst hko
   exact⟨(0,r3,false,[]),ly.bad Z nf,aP,aa.nil.ah⟩
  | some x5=>
  obtain⟨v5,q5⟩:=x5
  dsimp only
  rw[h5] at h3t h3f
  simp only[nO,mD] at h3t h3f
  cases h6:cw q5 with
  | none=>
   have hko:ok3=false:=by
    cases ok3 with
    | false=>rfl
    | true=>have:=h3t rfl;rw[h6] at this;cases this
   subst hko
   exact⟨(0,r3,false,[]),ly.bad Z nf,aP,aa.nil.ah⟩
  | some x6=>
  obtain⟨v6,q6⟩:=x6
  dsimp only
  rw[h6] at h3t h3f
  simp only[nO] at h3t h3f
  have hko:ok3=true:=by
   cases ok3 with
   | true=>rfl
   | false=>have:=h3f rfl;cases this
  subst hko
  have h7:=h3t rfl
  simp only[Option.some.injEq,Prod.mk.injEq,rX,nN,List.cons.injEq,and_true] at h7
  obtain⟨⟨rfl,rfl⟩,rfl⟩:=h7
  by_cases hq:q6=[]
  ·subst hq
   exact⟨(0,[],true,_),ly.ok (if_pos Z) B5,aP,BX (IP 0 Z aa.nil)⟩
  ·exact⟨(0,q6,true,[]),ly.bad (if_neg hq) (fun h=>hq h.2.2),aP,aa.nil.ah⟩
 rw[if_neg k2]
 refine ae ?_
 refine CE Z (fun k4=>?_) (fun k4=>?_)
 ·rw[if_pos k4]
  refine ae ?_
  refine CD (ts 0 13 (.only 13 (.only 14 (ts 15 5 .nil)))) ym yr ?_
  refine dp ?_
  refine AG (AO (aQ.buildSlice (n:=3) (pv:=[(0,.pointer (some ⟨fb,16,none⟩)),(1,.pointer (some ⟨fb,17,none⟩)),(2,.pointer (some ⟨fb,18,none⟩))]) (cells:=flat (gQ fb) [16,17,18]) rfl rfl rfl rfl yo rfl) rfl (fun v L' g=>by obtain⟨b,rfl,rfl⟩:=g;exact mU) ?_)
  rintro _ _ ⟨sc,rfl,rfl⟩
  refine AG (AO (OC (Lc:=[pt fb (f.cells eE) gW]) (Lr:=[pt sc (flat (gQ fb) [16,17,18]) jW]) rfl (.swap _ _ _) (fun Fr w hF hw hS=>zP Fr w (s:=s) (os:=[16,17,18]) hs (hZ rfl) (BJ ⟨_,rfl⟩ (BJ ⟨_,rfl⟩ (BI ⟨_,rfl⟩))) (C_ (hS.aC 0 rfl)))) rfl (fun v L' g=>by obtain⟨_,⟨x,_,rfl,rfl⟩,rfl⟩:=g;exact mU) ?_)
  rintro _ _ ⟨_,⟨⟨ks,r3,ok3⟩,hI3,rfl,rfl⟩,rfl⟩
  have h3l:=hI3.len
  have h31:=hI3.ks
  have h3t:=hI3.t
  have h3f:=hI3.f
  dsimp only at h3l h31 h3t h3f
  obtain⟨ix,cl,sq,rfl⟩:∃x y z,ks=[x,y,z]:=by
   match ks,h31 with
   | [x,y,z],_=>exact⟨x,y,z,rfl⟩
  rw[show([16,17,18]:List Nat).length=1+1+1 from rfl,rk,rk,Ce] at h3t h3f
  show VA _ _ _ _ _ _ [pt fb (({ f with entry:={ f.entry with index:=ix,aF:=cl,seq:=sq } }:ay).cells eE) gW,pt sc (flat (gQ fb) [16,17,18]) jW] _
  refine oC ?_
  cases ok3 with
  | false=>
   have hn:(match cw s with
    | none=>none
    | some (i,r)=>match cw r with
     | none=>none
     | some (c,r)=>match cw r with
      | none=>none
      | some (q,r)=>match rf r with
       | none=>none
       | some o=>some (({ f with entry:=⟨i,c,q,o⟩ }:ay),([]:List aR)))=none:=by
    have:=h3f rfl
    cases a1:cw s with
    | none=>rfl
    | some x=>
     rw[a1] at this
     simp only[nO,mD] at this
     dsimp only
     cases a2:cw x.2 with
     | none=>rfl
     | some y=>
      rw[a2] at this
      simp only[nO,mD] at this
      dsimp only
      cases a3:cw y.2 with
      | none=>rfl
      | some z=>rw[a3] at this;cases this
   refine js ?_
   exact⟨(0,r3,false,[]),ly.bad hn nf,aP,aa.nil.ah⟩
  | true=>
  have h7:=h3t rfl
  cases a1:cw s with
  | none=>rw[a1] at h7;cases h7
  | some x=>
  rw[a1] at h7
  simp only[nO,mD] at h7
  obtain⟨x1,x2⟩:=x
  dsimp only at h7 ⊢
  cases a2:cw x2 with
  | none=>rw[a2] at h7;cases h7
  | some y=>
  rw[a2] at h7
  simp only[nO,mD] at h7
  obtain⟨y1,y2⟩:=y
  dsimp only at h7 ⊢
  cases a3:cw y2 with
  | none=>rw[a3] at h7;cases h7
  | some z=>
  obtain⟨z1,z2⟩:=z
  rw[a3] at h7
  simp only[nO,Option.some.injEq,Prod.mk.injEq,rX,nN,List.cons.injEq,and_true] at h7
  obtain⟨⟨rfl,rfl,rfl⟩,rfl⟩:=h7
  dsimp only
  refine uD ?_
  cases hg:rf z2 with
  | none=>
   refine VG (VV (u:=zA none) (fun Fr w hF hw _=>hg▸CL Fr w z2 yd) Z ?_)
   refine aw ?_
   refine VG (VT (vs:=bB.cells ⟨0,bT [],bT [],0⟩) (cs':=({ f with entry:=⟨x1,y1,z1,⟨0,bT [],bT [],0⟩⟩ }:ay).cells eE) 0 Z Z Z Z (by show 19+4≤29;omega) Z Z Z ?_)
   refine aw ?_
   exact Ib
  | some o=>
   refine VG (VV (u:=zA (some o)) (fun Fr w hF hw _=>hg▸CL Fr w z2 yd) Z ?_)
   refine aw ?_
   refine VG (VT (vs:=o.cells) (cs':=({ f with entry:=⟨x1,y1,z1,o⟩ }:ay).cells eE) 0 Z Z Z Z (by show 19+4≤29;omega) Z Z Z ?_)
   refine aw ?_
   exact⟨(0,[],true,_),ly.ok Z B5,aP,BX (IP 0 Z aa.nil)⟩
 rw[if_neg k4]
 refine ae ?_
 refine CE Z (fun k8=>?_) (fun k8=>CK ?_)
 ·rw[if_pos k8]
  refine ae ?_
  refine VG (VK (Lc:=[]) (fun Fr w hF hw hS=>RB Fr w s hs) Z Z ?_)
  cases hg:jV s with
  | none=>
   rintro _ _ ⟨rfl,rfl⟩
   refine aw ?_
   refine VG (VT (vs:=lB) (cs':=({ f with dV:=0,drain:=0 }:ay).cells eE) 0 Z Z Z Z (by show 23+3≤29;omega) Z Z Z ?_)
   refine aw ?_
   exact Ib
  | some c=>
   rintro _ _ ⟨ma,mc,rfl,rfl⟩
   refine aw ?_
   refine VG (VT (vs:=c.cells ma mc) (cs':=({ f with dV:=c.ar,drain:=c.drain }:ay).cells (ma,c.ms.length,mc)) 1 Z Z Z Z (by show 23+3≤29;omega) Z Z Z ?_)
   refine aw ?_
   exact⟨(0,[],true,_),ly.ok Z ⟨ma,mc,Z⟩,aP,(bm [1,0]).ah⟩
 rw[if_neg k8]
 by_cases hq:s=[]
 ·subst hq
  exact⟨(0,[],true,_),ly.ok (if_pos Z) B5,aP,BX aa.refl⟩
 ·exact⟨(0,s,true,[]),ly.bad (if_neg hq) (fun h=>hq h.2.2),aP,aa.nil.ah⟩
end Cl
namespace Cl
open Go Vg T Api Ch
attribute [local irreducible] VO VC VA
theorem XK(f:ay)(g:jv){o:Nat}(n:Int)(h:sC o=true):(f.cells g).set o (.int .i64 n)=(uq f o n).cells g:=by
 have hm:o∈[1,2,3,4,5,6,15,26,27,28]:=by unfold sC at h;exact of_decide_eq_true h
 simp only[jK,oE,or_false] at hm
 rcases hm with rfl | rfl | rfl | rfl | rfl | rfl | rfl | rfl | rfl | rfl<;>rfl
theorem No(g:jv):∀(os:List Nat) (ks:List Int) (f:ay),(∀o∈os,sC o=true)→pA (f.cells g) os ks=(oV f os ks).cells g
 | o::os,k::ks,f,h=>by
  show pA ((f.cells g).set o (.int .i64 k)) os ks=(oV (uq f o k) os ks).cells g
  rw[XK f g k (h o (mW ..)),No g os ks _ fun o ho=>h o (i_ _ ho)]
 | [],_,_,_=>rfl
 | _::_,[],_,_=>rfl
theorem Tu{s:Bs}{c:aW}(h:jV s=some c):e_ c=0:=by
 unfold jV at h
 repeat' split at h
 all_goals first | cases h;done | skip
 all_goals simp only[Option.some.injEq] at h
 all_goals subst h
 all_goals rename_i hh
 all_goals exact hh.2
theorem MQ{f:ay}{s:Bs}{y:ay×List aR}(h:nC f s=some y):y.2.length≤6:=by
 unfold nC at h
 by_cases k1:f.kind=1
 ·rw[if_pos k1] at h
  split at h
  ·cases h
  ·cases h;exact bU _
 rw[if_neg k1] at h
 by_cases k2:f.kind=2
 ·rw[if_pos k2] at h
  repeat' split at h
  all_goals first | (cases h;done) | (cases h;exact bU _)
 rw[if_neg k2] at h
 by_cases k4:f.kind=4
 ·rw[if_pos k4] at h
  repeat' split at h
  all_goals first | (cases h;done) | (cases h;exact bU _)
 rw[if_neg k4] at h
 by_cases k8:f.kind=8
 ·rw[if_pos k8] at h
  split at h
  ·cases h
  ·rename_i c hc
   cases h
   have:=qV (Tu hc)
   exact this.2.1
 rw[if_neg k8] at h
 split at h
 ·cases h;exact bU _
 ·cases h
def SU(o:Option (ay×List aR))(v:Value)(L:List HP):Prop:=match o with
 | some x=>∃a cap,v=.tuple #[.agg (x.1.cells (a,x.2.length,cap)).toArray,.int .i64 0]∧L=[aA aU 2 a x.2.length cap (flat aH x.2)]
 | none=>v=.tuple #[.agg (ay.zero.cells eE).toArray,.int .i64 10]∧L=[]
theorem SV{s:Bs}:az Tryz.prog 113 [.string (bT s)] Fr w [] (SU (getM s)):=by
 refine TF 39 Tryz.func113 Z ym aD Z Z ?_
 refine CS (CG (VG (VO.alloc Z fun b2=>?_)))
 refine ae ?_
 refine CP (p:=(512:Int)<(bT s).size) Z (fun h1=>?_) (fun h1=>CK ?_)
 ·rw[iO] at h1
  refine ae ?_
  refine Bb ?_
  refine Ic ?_
  refine aw ?_
  exact CR (aq.dB 2 3 Z Z Z (ax.many (ds:=ay.zero.cells eE) 0 Z Z) Z aa.nil.ah (by rw[show getM s=none from(by rw[getM,if_pos yd])];exact⟨rfl,Z⟩))
 rw[iO] at h1
 have hs:s.length≤1000000:=by omega
 have hG:getM s=_:=if_neg yd
 refine ae ?_
 refine VG (VO.alloc Z fun b4=>?_)
 refine ae ?_
 refine VG (VO.buildSlice (n:=1) (pv:=[(0,pV b4)]) (flat (gQ b4) [0]) Z Z Z Z yo Z fun sb=>?_)
 refine VO.ah (L':=[pt b4 (ay.zero.cells eE) gW] ++ [pt b2 (ay.zero.cells eE) gW,pt sb (flat (gQ b4) [0]) jW]) (bm [1,1,0]).ah ?_
 refine VG (VK (Lc:=[pt b4 (ay.zero.cells eE) gW]) (fun Fr w hF hw hS=>zP Fr w (os:=[0]) hs (hZ Z) (BI ⟨_,Z⟩) (C_ (hS.aC 1 Z))) Z Z ?_)
 rintro _ _ ⟨⟨ks,r,ok⟩,hI,rfl,rfl⟩
 have hl:=hI.len
 have hk1:=hI.ks
 have ht:=hI.t
 have hf:=hI.f
 dsimp only at hl hk1 ht hf
 obtain⟨k,rfl⟩:∃x,ks=[x]:=by
  match ks,hk1 with
  | [x],_=>exact⟨x,rfl⟩
 rw[show([0]:List Nat).length=1 from rfl,Ce] at ht hf
 show VO _ _ _ _ _ [pt b4 (({ ay.zero with kind:=k }:ay).cells eE) gW,pt b2 (ay.zero.cells eE) gW,pt sb (flat (gQ b4) [0]) jW] _
 refine aw ?_
 cases ok with
 | false=>
  have hu:cw s=none:=by simpa using hf rfl
  rw[hu] at hG
  refine js ?_
  refine ae ?_
  refine VG (VY 27 true Z Z ?_)
  refine aw ?_
  refine VG (VY 32 true Z Z ?_)
  refine kE ?_
  refine Bb ?_
  refine PC ?_
  refine aw ?_
  exact PD
 | true=>
 have hu:cw s=some (k,r):=by
  have:=ht rfl
  cases hx:cw s with
  | none=>rw[hx] at this;cases this
  | some x=>rw[hx] at this;simp at this;rw[←this.1,←this.2]
 rw[hu] at hG
 dsimp only at hG
 clear ht hf hI hk1
 have hof:∀o∈fT k,sC o=true:=fun o ho=>Gf k o ho
 have hol:=Gg k
 refine uD ?_
 refine VG (VK (Lc:=[]) (fun Fr w hF hw hS=>Gd Fr w (fb:=b4) (f:={ ay.zero with kind:=k }) (g:=eE) (hS.aC 0 Z)) Z Z ?_)
 rintro _ _ ⟨na,nc,rfl,rfl⟩
 show VO _ _ _ _ _ [aA jW 1 na (fT k).length nc (flat (gQ b4) (fT k)),pt b4 (({ ay.zero with kind:=k }:ay).cells eE) gW,pt b2 (ay.zero.cells eE) gW,pt sb (flat (gQ b4) [0]) jW] _
 refine VO.ah (L':=[pt b4 (({ ay.zero with kind:=k }:ay).cells eE) gW] ++ [pt b2 (ay.zero.cells eE) gW,aA jW 1 na (fT k).length nc (flat (gQ b4) (fT k))]) (bm [1,1,0]).ah ?_
 refine VG (VK (Lc:=[pt b4 (({ ay.zero with kind:=k }:ay).cells eE) gW]) (fun Fr w hF hw hS=>zP Fr w (s:=r) (os:=fT k) yd yd (fun o ho=>⟨_,EJ _ _ (hof o ho)⟩) (aV.aA (vk b4) (hS.at_ 1 Z))) Z Z ?_)
 rintro _ _ ⟨⟨ks,r2,ok2⟩,hI,rfl,rfl⟩
 have hl2:=hI.len
 have ht:=hI.t
 have hf:=hI.f
 dsimp only at hl2 ht hf
 rw[No _ _ _ _ hof]
 generalize hF2:oV ({ ay.zero with kind:=k }:ay) (fT k) ks=F
 show VO _ _ _ _ _ [pt b4 (F.cells eE) gW,pt b2 (ay.zero.cells eE) gW,aA jW 1 na (fT k).length nc (flat (gQ b4) (fT k))] _
 refine aw ?_
 cases ok2 with
 | false=>
  rw[hf rfl] at hG
  refine VG (VY 27 true Z Z ?_)
  refine aw ?_
  refine VG (VY 32 true Z Z ?_)
  refine kE ?_
  refine Bb ?_
  refine PC ?_
  refine aw ?_
  exact PD
 | true=>
 rw[ht rfl] at hG
 dsimp only at hG
 rw[hF2] at hG
 refine VG (VY 27 false Z Z ?_)
 refine aw ?_
 refine VG (VK (Lc:=[pt b4 (F.cells eE) gW]) (fun Fr w hF hw hS=>Tn Fr w (s:=r2) (f:=F) yd) Z Z ?_)
 cases hR:nC F r2 with
 | none=>
  rw[hR] at hG
  rintro _ _ ⟨rfl,rfl⟩
  refine aw ?_
  refine VG (VY 32 true Z Z ?_)
  refine kE ?_
  refine Bb ?_
  refine Ic ?_
  refine aw ?_
  exact CR (aq.dB 2 3 Z Z Z (ax.many (ds:=ay.zero.cells eE) 0 Z Z) Z aa.nil.ah IF)
 | some y=>
 have hms:=MQ hR
 obtain⟨f,ms⟩:=y
 rw[hR] at hG
 dsimp only at hG hms
 rintro _ _ ⟨rfl,ma,mc,rfl⟩
 show VO _ _ _ _ _ [pt b4 (f.cells (ma,ms.length,mc)) gW,aA aU 2 ma ms.length mc (flat aH ms),pt b2 (ay.zero.cells eE) gW,aA jW 1 na (fT k).length nc (flat (gQ b4) (fT k))] _
 refine aw ?_
 refine VG (VY 32 false Z Z ?_)
 refine aw ?_
 refine Ie ?_
 refine VG (VV (fun Fr w hF hw hS=>Ab Fr w (f:=f) (ms:=ms) (aV.aA cn (hS.at_ 1 Z)) yd) Z ?_)
 refine aw ?_
 refine VC.fQ Z (fun h5=>?_) (fun h5=>CK ?_)
 ·rw[if_neg (by rw[h5];decide)] at hG
  refine aw ?_
  refine Bb ?_
  refine VG (VT (vs:=ay.zero.cells eE) (cs':=ay.zero.cells eE) 2 Z Z Z Z (NR _) Z Z Z ?_)
  refine aw ?_
  exact CR (aq.dB 2 3 Z Z Z (ax.many (ds:=ay.zero.cells eE) 2 Z Z) Z aa.nil.ah IF)
 rw[if_pos h5] at hG
 refine aw ?_
 refine Ie ?_
 refine VG (VT (vs:=f.cells (ma,ms.length,mc)) (cs':=f.cells (ma,ms.length,mc)) 2 Z Z Z Z (NR _) Z Z Z ?_)
 refine aw ?_
 exact CR (aq.dB 2 3 Z Z Z (ax.many (ds:=f.cells (ma,ms.length,mc)) 2 Z Z) Z (L':=[aA aU 2 ma ms.length mc (flat aH ms)]) (IP 1 Z aa.nil).ah (by rw[hG];exact⟨_,_,Z,Z⟩))
end Cl
namespace Cl
open Go Vg T Api Ch Rep
attribute [local irreducible] VO VC VA
abbrev u5:TypeId:=81
abbrev lJ:TypeId:=188
abbrev Am:TypeId:=83
abbrev yQ:=List ByteArray×(Option Addr×Nat)
abbrev lR:=bj×yQ
theorem tV:kJ Tryz.prog Am gx:=kJ.ii Tryz.underlying83 ym yo yo rfl rfl rfl rfl Tryz.underlying3 (aD.look (t:=3) rfl) rfl
def jq(v:yQ):Value:=.slice v.2.1 v.1.length v.2.2
def jo(x:lR):HP:=aA qx 1 x.2.2.1 x.2.1.length x.2.2.2 (flat fU x.2.1)
def nu(S:aT)(b:Nat):List Value:=[.int .i64 S.cap,.map (some b)]
def zW(p:Nat)(S:aT)(b:Nat)(X:List lR):List HP:=pt p (nu S b) u5::fZ gx jq b X::X.map jo
def iR(X:List lR):List (bj×List ByteArray):=X.map fun x=>(x.1,x.2.1)
def de(p:Nat)(S:aT):HP:=hex fun y:Nat×List lR=>cR (kO (iR y.2=S.aX)::zW p S y.1 y.2)
theorem ba.aB(p:Nat)(S:aT):ba (ι:=Nat×List lR) (de p S) (fun y=>iR y.2=S.aX) (fun y=>zW p S y.1 y.2):=fun w ids ⟨x,h⟩ hn=>by
 obtain⟨i1,i2,rfl,⟨rfl,h1⟩,h2⟩:=h
 exact⟨x,h1,i2,h2,hn,fun _ h=>h⟩
theorem aa.aB{p:Nat}{S:aT}{L K:List HP}(b:Nat)(X:List lR)(hX:iR X=S.aX)(h:aa L (zW p S b X++K)):aa L (de p S::K):=aa.ex (f:=fun y:Nat×List lR=>cR (kO (iR y.2=S.aX)::zW p S y.1 y.2)) (b,X) (aa.sep (aa.pure hX h))
structure aT.Ok(S:aT):Prop where
 c0:1≤S.cap
 c1:S.cap≤64
 each:∀x∈S.aX,x.2.length≤64
 nd:(S.aX.map Prod.fst).Nodup
theorem FT{κ α β:Type}[DecidableEq κ](f:α→β)(a:κ):∀l:List (κ×α),bF (l.map fun x=>(x.1,f x.2)) a=(bF l a).map f
 | []=>rfl
 | (k,v)::r=>by
  simp only[gA,bF]
  split
  ·rfl
  ·exact FT f a r
theorem FU{κ α β:Type}[DecidableEq κ](f:α→β)(a:κ)(u:α):∀l:List (κ×α),(bV l a u).map (fun x=>(x.1,f x.2))=bV (l.map fun x=>(x.1,f x.2)) a (f u)
 | []=>rfl
 | (k,v)::r=>by
  simp only[gA,bV]
  split
  ·rfl
  ·simp only[gA,FU f a u r]
theorem Lh{κ α β:Type}[DecidableEq κ](f:α→β)(a:κ):∀l:List (κ×α),(eO l a).map (fun x=>(x.1,f x.2))=eO (l.map fun x=>(x.1,f x.2)) a
 | []=>rfl
 | (k,v)::r=>by
  simp only[gA,eO]
  split
  ·rfl
  ·simp only[gA,Lh f a r]
theorem K5(X:List lR)(p:bj):∃(old:List ByteArray) (a:Option Addr) (c:Nat) (R:List HP),old=(bF (iR X) p).getD []∧((bF X p).map jq).getD (.slice none 0 0)=.slice a old.length c ∧
  aa (X.map jo) (aA qx 1 a old.length c (flat fU old)::R)∧(∀v:yQ,aa (aA qx 1 v.2.1 v.1.length v.2.2 (flat fU v.1)::R) ((bV X p v).map jo))∧aa R ((eO X p).map jo):=by
 have eg:bF (iR X) p=(bF X p).map Prod.fst:=FT Prod.fst p X
 cases hl:lI X p 0 with
 | none=>
  obtain⟨h1,h2,h3,h4⟩:=u6 hl
  refine⟨[],none,0,X.map jo,by rw[eg,h1];rfl,by rw[h1];rfl,aa.dM aa.refl,fun v=>?_,by rw[h4];exact aa.refl⟩
  rw[h3 v,hU]
  exact aa.perm (jL (l₁:=[jo (p,v)]))
 | some q=>
  obtain⟨j,v0⟩:=q
  obtain⟨_,h2,h3,h4,h5⟩:=wZ hl
  rw[Nat.sub_zero] at h2 h4 h5
  have e1:(X.map jo)[j]?=some (jo (p,v0)):=by rw[eh,h2];rfl
  have e2:(X.map jo).eraseIdx j=(X.eraseIdx j).map jo:=(map_eraseIdx jo X j).symm
  have hj:j<X.length:=(bY.1 h2).1
  refine⟨v0.1,v0.2.1,v0.2.2,(X.map jo).eraseIdx j,by rw[eg,h3];rfl,by rw[h3];rfl,aa.perm (oT e1),fun v=>?_,by rw[h5,e2];exact aa.refl⟩
  rw[h4 v]
  have e3:((X.set j (p,v)).map jo)[j]?=some (jo (p,v)):=by rw[eh,iM hj];rfl
  have e4:((X.set j (p,v)).map jo).eraseIdx j=(X.map jo).eraseIdx j:=by rw[iZ,List.eraseIdx_set_eq]
  refine aa.perm ?_
  have:=(oT e3).symm
  rw[e4] at this
  exact this
section
variable {p:Nat} {S:aT} {b:Nat} {X:List lR}
theorem K7(h:bu Fr w p (nu S b)):az Tryz.prog 32 [.pointer (some ⟨p,0,none⟩)] Fr w [] (fun v L=>v=.bool false∧L=[]):=by
 refine TF 12 Tryz.func32 Z ym aD Z Z ?_
 refine yC ?_
 refine jH ?_
 refine VG (VI (KY Tryz.underlying79 Z Z) ?_)
 refine aw ?_
 exact mB
theorem UA{n:Int}(h0:1≤n)(h1:n≤64):az Tryz.prog 21 [.int .i64 n] Fr w [] (fun v L=>∃p,v=.tuple #[.pointer (some ⟨p,0,none⟩),.int .i64 0]∧L=[de p ⟨n,[]⟩]):=by
 refine TF 14 Tryz.func21 Z ym aD Z Z ?_
 refine ae ?_
 refine VG (VY 6 false Z (DF yd) ?_)
 refine aw ?_
 refine CP (p:=64<n) Z (fun h=>absurd h yd) (fun h=>CK ?_)
 refine aw ?_
 refine VG (VO.vi (aQ.makeMap gx jq) ?_)
 rintro _ _ ⟨m,rfl,rfl⟩
 refine VG (VI (LB (pv:=[(0,.int .i64 n),(1,.map (some m))]) (nu ⟨n,[]⟩ m) Z Z Z ym Z) ?_)
 refine VG (VB (vs:=nu ⟨n,[]⟩ m) Z fun q=>?_)
 refine aw ?_
 exact CR (aq.dh 2 3 Z Z Z (aa.aB (S:=⟨n,[]⟩) (K:=[]) m [] Z aa.refl).ah ⟨q,Z,Z⟩)
theorem I3(n:Int):az Tryz.prog 153 [.int .i64 n] Fr w [] (fun v L=>v=.bool (iN n)∧L=[]):=by
 unfold iN
 refine TF 21 Tryz.func153 Z ym aD Z Z ?_
 refine aw ?_
 by_cases h0:0≤n
 ·refine VG (VY 5 true Z (DT h0) ?_)
  refine aw ?_
  by_cases h6:n<6
  ·refine VG (VY 9 true Z (DT h6) ?_)
   refine aw ?_
   refine VG (VY 13 true Z Z ?_)
   refine aw ?_
   exact CR (aq.bool 2 Z Z (by simp[h0,h6]) ER ⟨rfl,Z⟩)
  refine VG (VY 9 false Z (DF h6) ?_)
  refine aw ?_
  by_cases h16:n=16
  ·refine VG (VY 13 true Z (beq_iff_eq.2 h16) ?_)
   refine aw ?_
   exact CR (aq.bool 2 Z Z (by simp[h16]) ER ⟨rfl,Z⟩)
  refine VG (VY 13 false Z (beq_eq_false_iff_ne.2 h16) ?_)
  refine aw ?_
  by_cases h32:32≤n
  ·refine VG (VY 16 true Z (DT h32) ?_)
   refine aw ?_
   exact CR (aq.bool 2 Z Z (by simp[h0,h6,h16,h32]) ER ⟨rfl,Z⟩)
  refine VG (VY 16 false Z (DF h32) ?_)
  refine aw ?_
  exact CR (aq.bool 2 Z Z (by simp[h0,h6,h16,h32]) ER ⟨rfl,Z⟩)
 refine VG (VY 5 false Z (DF h0) ?_)
 refine aw ?_
 refine VG (VY 9 false Z Z ?_)
 refine aw ?_
 refine VG (VY 13 false Z (beq_eq_false_iff_ne.2 yd) ?_)
 refine aw ?_
 refine VG (VY 16 false Z (DF yd) ?_)
 refine aw ?_
 exact CR (aq.bool 2 Z Z ye ER ⟨rfl,Z⟩)
theorem aQ.zY{Zx0:Cx}{κ α:Type}[DecidableEq κ]{c:κ→Value}{d:α→Value}{b:Nat}{xs:List (κ×α)}{e:Env}{L:List HP}{T kt et:TypeId}{te:TI}{x y:Operand}(K:kJ Zx0.P kt c)(hT:Zx0.P.underlying T=some (.map kt et))(hE:bS Zx0.tab et=some te){a:κ}(v:Value)(hx:ev e x=some (.map (some b)))(hk:ev e y=some (c a))(hM:dA Zx0 L c d b xs)(hv:((bF xs a).map d).getD te.zero=v):
  aQ Zx0 (.lookup T x y false) e L (fun u L'=>u=v∧L'=L):=hv▸aQ.lookup (ok:=false) K hT hE hx hk hM
theorem VA.zY{Zx0:Cx}{κ α:Type}[DecidableEq κ]{c:κ→Value}{d:α→Value}{b:Nat}{xs:List (κ×α)}{ops:Array Oper}{G:GS}{pl:iE}{S:kk}{e:Env}{L:List HP}{Q:Env→List HP→Prop}{dst:Option Tmp}{ty:TypeId}{pos:String}{after:Array Edge}{guard:Option (Nat×Bool)}
  {i:Nat} {T kt et:TypeId} {te:TI} {x y:Operand} {a:κ} (KO:kJ Zx0.P kt c) (hT:Zx0.P.underlying T=some (.map kt et)) (hE:bS Zx0.tab et=some te) (v:Value)
  (hi:ops.toList[i]?=some ⟨dst,.lookup T x y false,ty,pos,after,guard⟩) (hx:ev e x=some (.map (some b))) (hk:ev e y=some (c a)) (hM:dA Zx0 L c d b xs) (hv:((bF xs a).map d).getD te.zero=v)
  (hn:VA Zx0 ops G pl ((i,o_ c d b xs)::S) (bX dst v e) L Q)
  (hg:cy ops G guard=some true:=by rfl) (hd:cL Zx0.n dst=true:=by rfl) (hf:cD G dst=true:=by rfl):VA Zx0 ops G (.take i pl) S e L Q:=
 VA.lookup (ok:=false) KO hT hE hi hx hk hM (by subst hv;exact hn) hg hd hf
end
end Cl
namespace Cl
open Go Vg T Api Ch Rep
attribute [local irreducible] VO VC VA
def e7(x y:Int)(t:ByteArray):List Value:=[.int .i64 x,.int .i64 y,.string t]
theorem zV{S:aT}(ok:S.Ok)(p:bj):(S.list p).length≤64:=by
 unfold aT.list
 cases h:bF S.aX p with
 | none=>exact bU _
 | some v=>exact ok.each _ (u7 h)
theorem w7{κ α:Type}[DecidableEq κ]{a:κ}{u:α}:∀{l:List (κ×α)} {x:κ×α},x∈bV l a u→x∈l∨x=(a,u)
 | [],x,h=>.inr (by simpa[bV] using h)
 | (k,v)::r,x,h=>by
  unfold bV at h
  split at h
  ·rename_i hk
   rcases jK.1 h with h | h
   ·right;rw[h,hk]
   ·left;exact i_ _ h
  ·rcases jK.1 h with h | h
   ·left;rw[h];exact mW
   ·rcases w7 h with h | h
    ·left;exact i_ _ h
    ·right;exact h
theorem aT.Ok.put{S:aT}(ok:S.Ok)(p:bj){l:List ByteArray}(h:l.length≤64):({ S with aX:=bV S.aX p l }:aT).Ok:=
 ⟨ok.c0,ok.c1,fun x hx=>(w7 hx).elim (ok.each x) (fun e=>by rw[e];exact h),Ll ok.nd _ _⟩
theorem aT.Ok.del{S:aT}(ok:S.Ok)(p:bj):({ S with aX:=eO S.aX p }:aT).Ok:=
 ⟨ok.c0,ok.c1,fun x hx=>ok.each x ((Lj _ _).mem hx),UH ok.nd _⟩
theorem aT.Ok.send{S:aT}(ok:S.Ok)(p:bj)(t:ByteArray):(S.send p t).Ok:=by
 unfold aT.send
 split
 ·exact ok
 rename_i h
 refine ok.put p ?_
 have:=zV ok p
 have:=ok.c1
 rw[a_]
 have h0:S.kX p t=0:=by simpa using h
 unfold aT.kX at h0
 split at h0
 ·cases h0
 split at h0
 ·cases h0
 split at h0
 ·cases h0
 ·simp;omega
section
variable {p:Nat} {S:aT} {b:Nat} {X:List lR}
theorem GY{x y:Int}{t:ByteArray}(h:iN x=false∨iN y=false∨x=y):S.kX (x,y) t=2:=by unfold aT.kX;exact if_pos h
theorem Xy{x y:Int}{t:ByteArray}(h:¬(iN x=false∨iN y=false∨x=y)):S.kX (x,y) t=if 512<t.size then 3 else if S.cap≤(S.list (x,y)).length then 60 else 0:=by unfold aT.kX;exact if_neg h
theorem Xz{q:bj}{t:ByteArray}{e:Int}(h:S.kX q t=e)(he:e≠0):S.send q t=S:=by unfold aT.send;rw[h,if_pos he]
theorem Lf(ok:S.Ok)(x y:Int)(t:ByteArray):az Tryz.prog 96 [.pointer (some ⟨p,0,none⟩),.agg (e7 x y t).toArray] Fr w [de p S]
  (fun v L=>v=.int .i64 (S.kX (x,y) t)∧L=[de p (S.send (x,y) t)]):=by
 have hll:=zV ok (x,y)
 have hc1:=ok.c1
 refine TF 62 Tryz.func96 Z ym aD Z Z ?_
 refine VC.bJ 0 Z (ba.aB p S) ?_
 rintro⟨b,X⟩ hX
 dsimp only at hX
 refine Ig ?_
 obtain⟨old,a,c,R,e1,e2,e3,e4,e5⟩:=K5 X (x,y)
 have eo:old=S.list (x,y):=by rw[e1,hX];rfl
 refine CS (CG (VG (VB (vs:=e7 x y t) Z fun mb=>?_)))
 refine Ee ?_
 refine Ee ?_
 refine ae ?_
 refine Ih ?_
 refine VG (VO.alloc Z fun kb=>?_)
 refine PE ?_
 show VO _ _ _ _ _ (pt kb [.int .i64 x,.int .i64 y] Am::pt mb (e7 x y t) lJ::pt p (nu S b) u5::fZ gx jq b X::X.map jo) _
 have fin:dq ⟨Tryz.prog,tab,aD,62,Fr,w⟩ (pt kb [.int .i64 x,.int .i64 y] Am::pt mb (e7 x y t) lJ::pt p (nu S b) u5::fZ gx jq b X::X.map jo) [de p S]:=
  (aa.aB (K:=[]) b X hX (by rw[bK];exact IP 2 rfl (IP 2 rfl (aa.app (L:=[_,_]) (M:=[]) aa.nil aa.refl)))).ah
 refine ae ?_
 refine VG (VV (fun Fr w hF hw hS=>K7 Fr w (hS.aC 2 Z)) Z ?_)
 refine ae ?_
 refine qC ?_
 refine g_ ?_
 refine VG (VV (fun Fr w hF hw hS=>I3 Fr w x) Z ?_)
 refine g_ ?_
 by_cases k1:iN x=true
 rotate_left
 ·have hE:=GY (S:=S) (x:=x) (y:=y) (t:=t) (.inl s_)
  refine VG (VY 19 true Z s_ ?_)
  refine g_ ?_
  refine VG (VY 25 true Z Z ?_)
  refine g_ ?_
  refine mz ?_
  refine aw ?_
  exact Bc
 refine VG (VY 19 false Z s_ ?_)
 refine g_ ?_
 refine VG (VV (fun Fr w hF hw hS=>I3 Fr w y) Z ?_)
 refine g_ ?_
 by_cases k2:iN y=true
 rotate_left
 ·have hE:=GY (S:=S) (x:=x) (y:=y) (t:=t) (.inr (.inl (by simpa using k2)))
  refine VG (VY 25 true Z (by simpa using k2) ?_)
  refine g_ ?_
  refine mz ?_
  refine aw ?_
  exact Bc
 refine VG (VY 25 false Z (by simpa using k2) ?_)
 refine g_ ?_
 refine CE Z (fun k3=>?_) (fun k3=>?_)
 ·have hE:=GY (S:=S) (x:=x) (y:=y) (t:=t) (.inr (.inr k3))
  refine aw ?_
  exact Bc
 have hN:=Xy (S:=S) (t:=t) (by rintro(h | h | h);rw[k1] at h;cases h;rw[k2] at h;cases h;exact k3 h:¬(iN x=false∨iN y=false∨x=y))
 refine g_ ?_
 refine CP (p:=512<(t.size:Int)) Z (fun k4=>?_) (fun k4=>?_)
 ·have hE:S.kX (x,y) t=3:=by rw[hN,if_pos yd]
  refine aw ?_
  exact Bc
 refine aw ?_
 refine CD (ts 0 13 .nil) ym yr ?_
 refine jt ?_
 refine AG (VA.dQ 0 [.int .i64 x,.int .i64 y] Z Z Z Z Z ?_)
 refine AG (VA.zY (a:=(x,y)) tV Tryz.underlying79 Z (.slice a old.length c) Z Z Z (dA.one 3 Z) e2 ?_)
 refine jt ?_
 refine CP (p:=S.cap≤(old.length:Int)) Z (fun k5=>?_) (fun k5=>CK ?_)
 ·have hE:S.kX (x,y) t=60:=by rw[hN,if_neg yd,←eo,if_pos k5]
  refine aw ?_
  exact Bc
 have hE:S.kX (x,y) t=0:=by rw[hN,if_neg yd,←eo,if_neg k5]
 have en:(old ++ [t]).length=old.length+1:=by rw[a_];rfl
 refine CN (L':=aA qx 1 a old.length c (flat fU old)::pt kb [.int .i64 x,.int .i64 y] Am::pt mb (e7 x y t) lJ::pt p (nu S b) u5::fZ gx jq b X::R) ?_ ?_
 ·refine((aa.app (L:=[_,_,_,_]) (M:=[_,_,_,_]) aa.refl e3).trans (IP 4 Z aa.refl)).ah
 refine ae ?_
 refine CD (ts 0 7 (.only 7 (.only 8 (ts 9 1 (ts 11 1 (.only 10 (.only 12 .nil))))))) ym yr ?_
 refine iL ?_
 refine Bd ?_
 refine iL ?_
 refine AG (AO (aQ.buildSlice (n:=1) (pv:=[(0,.string t)]) (cells:=fU t) Z Z Z Z yo (ji Z Z Z)) Z ?_ ?_)
 ·rintro _ _ ⟨nb,rfl,rfl⟩
  exact yv
 rintro _ _ ⟨nb,rfl,rfl⟩
 refine AG (AO (aQ.UN 5 tV Tryz.underlying79 Z (.slice a old.length c) (a:=(x,y)) Z Z Z e2) Z ?_ ?_)
 ·rintro _ _ ⟨st,rfl,rfl⟩
  exact yv
 rintro _ _ ⟨st,rfl,rfl⟩
 refine iL ?_
 refine AG (AO (aQ.append (m:=1) (news:=fU t) 1 Z Z Z Z Z Z Z (fv.pt 0 Z Z Z) Z (by show(old.length+1)*16≤_;omega) yd) Z ?_ ?_)
 ·rintro _ _ ⟨a1,c1,rfl,hc1,rfl⟩
  exact yv
 rintro _ _ ⟨a1,c1,rfl,hc1,rfl⟩
 refine iL ?_
 refine AG (AO (aQ.entryStore 5 (c:=gx) (d:=jq) (xs:=X) (a:=(x,y)) (u:=(old ++ [t],(a1,c1))) Z Z (by show some (Value.slice a1 (old.length+1) c1)=some (.slice a1 (old ++ [t]).length c1);rw[en]) Z) Z ?_ ?_)
 ·rintro _ _ ⟨rfl,rfl⟩
  exact yv
 rintro _ _ ⟨rfl,rfl⟩
 refine oC ?_
 refine CR (aq.tmp 4 Z Z (L':=[de p (S.send (x,y) t)]) ?_ ⟨by rw[hE],Z⟩)
 have es:S.send (x,y) t={ S with aX:=bV S.aX (x,y) (old ++ [t]) }:=by unfold aT.send;rw[hE,if_neg yo,eo]
 rw[es]
 refine(aa.aB (S:={ S with aX:=bV S.aX (x,y) (old ++ [t]) }) (K:=[]) b (bV X (x,y) (old ++ [t],(a1,c1))) (by show iR _=bV S.aX (x,y) (old ++ [t]);rw[←hX];exact FU Prod.fst _ _ _) ?_).ah
 rw[bK]
 refine IP 4 Z (IP 4 Z ?_)
 have e4':=e4 (old ++ [t],(a1,c1))
 dsimp only at e4'
 rw[jU,zx,en] at e4'
 exact(aa.app (L:=[_]) (L':=_) (M:=[_]) aa.refl (aa.app (L:=[_,_,_]) (M:=[]) aa.nil aa.refl)).trans e4'
end
end Cl
namespace Cl
open Go Vg T Api Ch Rep
attribute [local irreducible] VO VC VA
def tP(S:aT)(p:bj)(i:Int):Value:=match S.find p i with
 | none=>.tuple #[.agg (e7 0 0 ⟨#[]⟩).toArray,.int .i64 4]
 | some t=>.tuple #[.agg (e7 p.1 p.2 t).toArray,.int .i64 0]
theorem wO{S:aT}{p:bj}{i:Int}(h:S.find p i=none):tP S p i=.tuple #[.agg (e7 0 0 ⟨#[]⟩).toArray,.int .i64 4]:=by unfold tP;rw[h]
theorem zv{S:aT}{p:bj}{i:Int}{t:ByteArray}(h:S.find p i=some t):tP S p i=.tuple #[.agg (e7 p.1 p.2 t).toArray,.int .i64 0]:=by unfold tP;rw[h]
theorem Li{κ α:Type}[DecidableEq κ](a:κ)(u:α):∀l:List (κ×α),eO (bV l a u) a=eO l a
 | []=>by simp[bV,eO]
 | (k,v)::r=>by
  unfold bV
  by_cases h:k=a
  ·rw[if_pos h];simp[eO,h]
  ·rw[if_neg h];simp[eO,h,Li a u r]
theorem FO{Fr:Nat→Prop}{w:World}{A:List HP}{X:List lR}(h:a8 Fr (A++X.map jo) w):∀z∈X,aV fU 1 Fr w z.2.2.1 z.2.1:=fun z hz=>by
 obtain⟨i,hi,rfl⟩:=List.getElem_of_mem hz
 exact aV.aA rI (h.at_ (A.length+i) (by rw[qI yd,Nat.add_sub_cancel_left,eh,GE hi];rfl))
section
variable {p:Nat} {S:aT} {b:Nat} {X:List lR}
theorem KT(ok:S.Ok)(h:bu Fr w p (nu S b))(hm:qM Fr w gx jq b X)(hr:∀z∈X,aV fU 1 Fr w z.2.2.1 z.2.1)(hX:iR X=S.aX)(x y i:Int):az Tryz.prog 115 [.pointer (some ⟨p,0,none⟩),.int .i64 x,.int .i64 y,.int .i64 i] Fr w [] (fun v L=>v=tP S (x,y) i∧L=[]):=by
 have hll:=zV ok (x,y)
 have eg:bF S.aX (x,y)=(bF X (x,y)).map Prod.fst:=by rw[←hX];exact FT Prod.fst _ X
 obtain⟨l,a,c,e1,e2,e3⟩:∃(l:List ByteArray) (a:Option Addr) (c:Nat),S.list (x,y)=l∧((bF X (x,y)).map jq).getD (.slice none 0 0)=.slice a l.length c∧aV fU 1 Fr w a l:=by
  unfold aT.list
  rw[eg]
  cases hg:bF X (x,y) with
  | none=>exact⟨[],none,0,rfl,rfl,aV.nil⟩
  | some v=>exact⟨v.1,v.2.1,v.2.2,rfl,rfl,hr _ (u7 hg)⟩
 have hf:S.find (x,y) i=if i<0 then none else l[i.toNat]?:=by unfold aT.find;rw[e1]
 rw[e1] at hll
 refine TF 38 Tryz.func115 Z ym aD Z Z ?_
 refine CS (CG (VG (VO.alloc Z fun rb=>?_)))
 refine aw ?_
 refine Ii ?_
 refine kh ?_
 refine jH ?_
 refine Ih ?_
 refine VG (VO.ue (aQ.zY tV Tryz.underlying79 Z (a:=(x,y)) (.slice a l.length c) Z Z (dA.aC hm) e2) ?_)
 refine aw ?_
 by_cases h0:i<0
 ·refine VG (VY 24 true Z (DT h0) ?_)
  refine kE ?_
  refine Ij ?_
  refine xX ?_
  refine aw ?_
  exact CR (aq.dB 8 9 Z Z Z (ax.many (ds:=e7 0 0 ⟨#[]⟩) 0 Z Z) Z aa.nil.ah ⟨(wO (by rw[hf,if_pos h0])).symm,Z⟩)
 obtain⟨k,rfl⟩:∃k:Nat,i=k:=⟨i.toNat,by omega⟩
 rw[if_neg h0,dZ] at hf
 refine VG (VY 24 false Z (DF h0) ?_)
 refine aw ?_
 refine CP (p:=(l.length:Int)≤k) Z (fun h1=>?_) (fun h1=>CK ?_)
 ·refine aw ?_
  refine Ij ?_
  refine xX ?_
  refine aw ?_
  exact CR (aq.dB 8 9 Z Z Z (ax.many (ds:=e7 0 0 ⟨#[]⟩) 0 Z Z) Z aa.nil.ah ⟨(wO (by rw[hf,lO yd])).symm,Z⟩)
 have hk:k<l.length:=by omega
 have hk2:l[k]?=some l[k]:=GE hk
 generalize l[k]=t at hk2
 obtain⟨tb,to,rfl,_,hrd⟩:=aV.rd (X:=⟨Tryz.prog,tab,aD,38,Fr,w⟩) e3 hk2
 refine aw ?_
 refine AZ ?_
 refine VG (VO.load Z Z (hrd _ _ 0 _ Z Z) ?_)
 refine aw ?_
 refine VG (VI (LB (pv:=[(0,.int .i64 x),(1,.int .i64 y),(2,.string t)]) (e7 x y t) Z Z Z ym Z) ?_)
 refine Ik ?_
 refine aw ?_
 exact CR (aq.dB 8 9 Z Z Z (ax.many (ds:=e7 x y t) 0 Z Z) Z aa.nil.ah ⟨(zv (by rw[hf,hk2])).symm,Z⟩)
end
end Cl
namespace Cl
open Go Vg T Api Ch Rep
attribute [local irreducible] VO VC VA
theorem SY{S:aT}{q:bj}{i:Int}{t:ByteArray}(h:S.find q i=some t):∃k:Nat,i=k∧k<(S.list q).length∧(S.list q)[k]?=some t:=by
 unfold aT.find at h
 split at h
 ·cases h
 ·exact⟨i.toNat,by omega,(bY.1 h).1,h⟩
theorem E2{S:aT}{q:bj}{i:Int}(h:S.find q i=none):S.drop q i=(S,4):=by unfold aT.drop;rw[if_pos h]
theorem E3{S:aT}{q:bj}{i:Int}{t:ByteArray}(h:S.find q i=some t):S.drop q i=(S.dy q i,0):=by unfold aT.drop;rw[if_neg (by rw[h];intro e;cases e)]
theorem aT.Ok.drop{S:aT}(ok:S.Ok)(q:bj)(i:Int):(S.drop q i).1.Ok:=by
 unfold aT.drop
 split
 ·exact ok
 show(S.dy q i).Ok
 have hl:=zV ok q
 have hl2:((S.list q).eraseIdx i.toNat).length≤64:=pQ (List.length_eraseIdx_le _ _) hl
 unfold aT.dy
 split
 ·exact aT.Ok.del (ok.put q hl2) q
 ·exact ok.put q hl2
section
variable {p:Nat} {S:aT} {b:Nat} {X:List lR}
theorem KS(ok:S.Ok)(x y i:Int):az Tryz.prog 112 [.pointer (some ⟨p,0,none⟩),.int .i64 x,.int .i64 y,.int .i64 i] Fr w [de p S]
  (fun v L=>v=tP S (x,y) i∧L=[de p (S.drop (x,y) i).1]):=by
 have hll:=zV ok (x,y)
 refine TF 55 Tryz.func112 Z ym aD Z Z ?_
 refine VC.bJ 0 Z (ba.aB p S) ?_
 rintro⟨b,X⟩ hX
 dsimp only at hX
 refine Ig ?_
 obtain⟨old,a,c,R,e1,e2,e3,e4,e5⟩:=K5 X (x,y)
 have eo:old=S.list (x,y):=by rw[e1,hX];rfl
 refine CS (CG (VG (VO.alloc Z fun rb=>?_)))
 refine ae ?_
 refine VG (VV (fun Fr w hF hw hS=>KT Fr w ok (hS.aC 1 Z) (hS.Aa 2 Z) (FO (A:=[_,_,_]) hS) hX x y i) Z ?_)
 cases hf:S.find (x,y) i with
 | none=>
  rw[wO hf]
  refine ae ?_
  refine xX ?_
  refine vU ?_
  refine Ij ?_
  refine xX ?_
  refine ae ?_
  refine CR (aq.dB 8 9 Z Z Z (ax.many (ds:=e7 0 0 ⟨#[]⟩) 0 Z Z) Z (L':=[de p S]) ?_ ⟨rfl,by rw[E2 hf]⟩)
  exact(aa.aB (K:=[]) b X hX (by rw[bK];exact IP 1 Z (IP 1 Z (aa.app (L:=[_]) (M:=[]) aa.nil aa.refl)))).ah
 | some t=>
  obtain⟨k,rfl,hk,hkt⟩:=SY hf
  rw[←eo] at hk hkt
  rw[zv hf]
  refine ae ?_
  refine Ik ?_
  refine pK ?_
  refine Ih ?_
  refine VG (VO.alloc Z fun kb=>?_)
  refine PE ?_
  refine VO.ah (L':=aA qx 1 a old.length c (flat fU old)::pt kb [.int .i64 x,.int .i64 y] Am::pt rb (e7 x y t) lJ::pt p (nu S b) u5::fZ gx jq b X::R) ?_ ?_
  ·exact((aa.app (L:=[_,_,_,_]) (M:=[_,_,_,_]) aa.refl e3).trans (IP 4 Z aa.refl)).ah
  have hlo:old.length≤64:=by rw[eo];exact hll
  refine ae ?_
  refine CD (ts 0 14 (.only 14 (.only 15 .nil))) ym yr ?_
  refine iL ?_
  refine Bd ?_
  refine iL ?_
  refine Bd ?_
  refine AG (VA.zY (a:=(x,y)) tV Tryz.underlying79 Z (.slice a old.length c) Z Z Z (dA.one 4 Z) e2 ?_)
  refine iL ?_
  refine rM ?_
  refine AG (AQ 0 rfl (fun Fr w hF hs hS=>abc (a:=a) (cap:=c) Fr w hk yd) rfl rfl (ψ:=fun v H=>∃a' cap',v=.slice a' (old.eraseIdx k).length cap'∧H=aA qx 1 a' (old.eraseIdx k).length cap' (flat fU (old.eraseIdx k))) (fun v L h=>by obtain⟨a',c',h1,h2⟩:=h;exact⟨_,h2,a',c',h1,rfl⟩) ?_ ?_)
  ·rintro _ _ ⟨a1,c1,rfl,rfl⟩
   exact yv
  rintro _ _ ⟨a1,c1,rfl,rfl⟩
  refine AG (AO (aQ.mapUpdate 4 (c:=gx) (d:=jq) (xs:=X) (a:=(x,y)) (u:=(old.eraseIdx k,(a1,c1))) tV Tryz.underlying79 Z Z Z Z) Z ?_ ?_)
  ·rintro _ _ ⟨rfl,rfl⟩
   exact yv
  rintro _ _ ⟨rfl,rfl⟩
  refine dp ?_
  have ew:S.dy (x,y) k=if (old.eraseIdx k).length=0 then { S with aX:=eO (bV S.aX (x,y) (old.eraseIdx k)) (x,y) } else { S with aX:=bV S.aX (x,y) (old.eraseIdx k) }:=by unfold aT.dy;rw[←eo,dZ]
  have eX:iR (bV X (x,y) (old.eraseIdx k,(a1,c1)))=bV S.aX (x,y) (old.eraseIdx k):=by rw[←hX];exact FU Prod.fst _ _ _
  refine CS (VC.dX (σ:=Unit) (fun _=>[(8,pV rb)]) (fun _=>[de p (S.dy (x,y) k),pt rb (e7 x y t) lJ]) (fun _=>True) ?_ ?_)
  ·refine CS (CD (ts 0 8 .nil) ym yr ?_)
   refine iL ?_
   refine Bd ?_
   refine AG (VA.zY (a:=(x,y)) tV Tryz.underlying79 Z (.slice a1 (old.eraseIdx k).length c1) Z Z Z (dA.one 4 Z) (by rw[w6,if_pos rfl];rfl) ?_)
   refine iL ?_
   refine CE (i:=((old.eraseIdx k).length:Int)) (j:=0) Z (fun k0=>?_) (fun k0=>CK ?_)
   ·refine CD (ts 0 5 (.only 5 .nil)) ym yr ?_
    refine iL ?_
    refine Bd ?_
    refine AG (AO (aQ.delete 4 (c:=gx) (d:=jq) (xs:=bV X (x,y) (old.eraseIdx k,(a1,c1))) (a:=(x,y)) tV Tryz.underlying79 Z Z Z) Z ?_ ?_)
    ·rintro _ _ ⟨rfl,rfl⟩
     exact yv
    rintro _ _ ⟨rfl,rfl⟩
    refine dp ?_
    refine⟨(),trivial,aP,?_⟩
    rw[ew,if_pos yd]
    refine(aa.aB (S:={ S with aX:=eO (bV S.aX (x,y) (old.eraseIdx k)) (x,y) }) b (eO (bV X (x,y) (old.eraseIdx k,(a1,c1))) (x,y)) (by show iR _=eO (bV S.aX (x,y) (old.eraseIdx k)) (x,y);rw[←eX];exact Lh Prod.fst _ _) ?_).ah
    refine IP 3 Z (IP 3 Z ?_)
    refine(aa.perm (jL (l₁:=[_,_,_]) (l₂:=R))).trans (aa.app ?_ (IP 2 Z aa.nil))
    rw[Li]
    exact e5
   ·refine⟨(),trivial,aP,?_⟩
    rw[ew,if_neg yd]
    refine(aa.aB (S:={ S with aX:=bV S.aX (x,y) (old.eraseIdx k) }) b (bV X (x,y) (old.eraseIdx k,(a1,c1))) eX ?_).ah
    refine IP 3 Z (IP 3 Z ?_)
    refine aa.trans (M:=[pt rb (e7 x y t) lJ]++(bV X (x,y) (old.eraseIdx k,(a1,c1))).map jo) (IP 2 Z ?_) (aa.perm jL)
    exact(aa.app (L:=[_]) (L':=_) (M:=[_]) aa.refl (aa.app (L:=[_]) (M:=[]) aa.nil aa.refl)).trans (e4 (old.eraseIdx k,(a1,c1)))
  rintro - -
  refine ae ?_
  refine VG (VL 1 (e7 x y t) Z Z Z Z ?_)
  refine VG (VT (vs:=e7 x y t) (cs':=e7 x y t) 1 Z Z Z Z (NR _) Z Z Z ?_)
  refine ae ?_
  exact CR (aq.dB 8 9 Z Z Z (ax.many (ds:=e7 x y t) 1 Z Z) Z (L':=[de p (S.dy (x,y) k)]) (IP 0 Z aa.nil).ah ⟨rfl,by rw[E3 hf]⟩)
end
end Cl
namespace Cl
open Go Vg T Api Ch Rep
attribute [local irreducible] VO VC VA
theorem Cy:∀{l m:List Nat},l.Nodup→(∀x∈l,x∈m)→l.length≤m.length
 | [],m,_,_=>bU _
 | x::l,m,hn,hs=>by
  have hx:=hs x mW
  have h1:=Bu.1 hn
  have:=Cy (l:=l) (m:=m.erase x) h1.2 (fun y hy=>(List.mem_erase_of_ne (fun e=>h1.1 (by rw[←e];exact hy))).2 (hs y (i_ _ hy)))
  have h2:=List.length_erase_of_mem hx
  have h3:0<m.length:=List.length_pos_of_mem hx
  rw[iA];omega
theorem lz.len{κ α:Type}{c:κ→Value}{d:α→Value}{xs:List (κ×α)}{es:Array MapEntry}{k:Nat}{J:pT κ α}(h:nW c d xs es k)(ok:lz c d xs es J):J.length≤xs.length:=by
 have h1:=Cy (m:=es.toList.map (·.born)) ok.nd (fun x hx=>by
  obtain⟨z,hz,rfl⟩:=bP.1 hx
  exact bP.2 ⟨z.1,(h.kv (ok.sub z hz)).1,Z⟩)
 rw[cW,cW,h.len] at h1
 exact h1
theorem lz.keys{κ α:Type}{c:κ→Value}{d:α→Value}{xs:List (κ×α)}{es:Array MapEntry}{k:Nat}{J:pT κ α}(h:nW c d xs es k)(ok:lz c d xs es J):((J.map Prod.snd).map Prod.fst).Nodup:=by
 rw[mV]
 refine uM.2 ((uM.1 ok.nd).imp_of_mem fun {z1 z2} h1 h2 hne e=>hne ?_)
 obtain⟨a1,_,a2,_⟩:=h.kv (ok.sub z1 h1)
 obtain⟨b1,_,b2,_⟩:=h.kv (ok.sub z2 h2)
 rw[FD h.st.2.2 a1 b1 (by rw[a2,b2];exact congrArg c e)]
theorem Lk{κ α:Type}[DecidableEq κ]{a:κ}(u:α):∀{l:List (κ×α)},a∉l.map Prod.fst→bV l a u=l ++ [(a,u)]
 | [],_=>rfl
 | (k,v)::r,h=>by
  simp only[gA,jK,not_or] at h
  unfold bV
  rw[if_neg (fun e=>h.1 e.symm),Lk u h.2];rfl
theorem SQ(S:aT)(q:bj)(i:Int):∃x y t,tP S q i=.tuple #[.agg (e7 x y t).toArray,.int .i64 (S.drop q i).2]:=by
 cases hf:S.find q i with
 | none=>exact⟨_,_,_,by rw[wO hf,E2 hf]⟩
 | some t=>exact⟨_,_,_,by rw[zv hf,E3 hf]⟩
section
variable {p:Nat} {S:aT} {b:Nat} {X:List lR}
theorem Ul(ok:S.Ok)(x y i:Int):az Tryz.prog 60 [.pointer (some ⟨p,0,none⟩),.int .i64 x,.int .i64 y,.int .i64 i] Fr w [de p S]
  (fun v L=>v=.int .i64 (S.drop (x,y) i).2∧L=[de p (S.drop (x,y) i).1]):=by
 refine TF 20 Tryz.func60 Z ym aD Z Z ?_
 refine ae ?_
 refine VG (VK (Lc:=[de p S]) (Lr:=[]) (fun Fr w hF hw _=>KS Fr w ok x y i) Z Z ?_)
 rintro _ _ ⟨rfl,rfl⟩
 obtain⟨x',y',t',e⟩:=SQ S (x,y) i
 rw[e]
 refine ae ?_
 refine VG (VO.alloc Z fun rb=>?_)
 refine VG (VT (vs:=e7 x' y' t') (cs':=e7 x' y' t') 0 Z Z Z Z (NR _) Z Z Z ?_)
 refine ae ?_
 exact CR (aq.tmp 8 Z Z (IP 1 Z aa.nil).ah ⟨rfl,Z⟩)
theorem J7{q:bj}{i:Int}(h:S.find q i=none):S.double q i=(S,4):=by unfold aT.double;rw[h]
theorem J8{q:bj}{i:Int}{t:ByteArray}(h:S.find q i=some t):S.double q i=(S.send q t,S.kX q t):=by unfold aT.double;rw[h]
theorem aT.Ok.double(ok:S.Ok)(q:bj)(i:Int):(S.double q i).1.Ok:=by
 unfold aT.double
 split
 ·exact ok
 ·exact ok.send _ _
theorem Uk(ok:S.Ok)(x y i:Int):az Tryz.prog 61 [.pointer (some ⟨p,0,none⟩),.int .i64 x,.int .i64 y,.int .i64 i] Fr w [de p S]
  (fun v L=>v=.int .i64 (S.double (x,y) i).2∧L=[de p (S.double (x,y) i).1]):=by
 refine TF 25 Tryz.func61 Z ym aD Z Z ?_
 refine VC.bJ 0 Z (ba.aB p S) ?_
 rintro⟨b,X⟩ hX
 dsimp only at hX
 refine Ig ?_
 refine ae ?_
 refine VG (VV (fun Fr w hF hw hS=>KT Fr w ok (hS.aC 0 Z) (hS.Aa 1 Z) (FO (A:=[_,_]) hS) hX x y i) Z ?_)
 refine VO.ah (L':=[de p S]) (aa.aB (K:=[]) b X hX (by rw[bK];exact aa.refl)).ah ?_
 cases hf:S.find (x,y) i with
 | none=>
  rw[wO hf]
  refine ae ?_
  refine VG (VO.alloc Z fun rb=>?_)
  refine xX ?_
  refine vU ?_
  exact CR (aq.tmp 8 Z Z (IP 1 Z aa.nil).ah ⟨by rw[J7 hf],by rw[J7 hf]⟩)
 | some t=>
  rw[zv hf]
  refine ae ?_
  refine VG (VO.alloc Z fun rb=>?_)
  refine Ik ?_
  refine pK ?_
  refine VG (VL 0 (e7 x y t) Z Z Z Z ?_)
  refine VO.ah (L':=[de p S,pt rb (e7 x y t) lJ]) (IP 1 Z aa.refl).ah ?_
  refine VG (VK (Lc:=[de p S]) (Lr:=[pt rb (e7 x y t) lJ]) (fun Fr w hF hw _=>Lf Fr w ok x y t) Z Z ?_)
  rintro _ _ ⟨rfl,rfl⟩
  refine ae ?_
  exact CR (aq.tmp 8 Z Z (IP 0 Z aa.nil).ah ⟨by rw[J8 hf],by rw[J8 hf]⟩)
theorem Uj(ok:S.Ok)(h:bu Fr w p (nu S b))(hm:qM Fr w gx jq b X)(hr:∀z∈X,aV fU 1 Fr w z.2.2.1 z.2.1)(hX:iR X=S.aX):az Tryz.prog 31 [.pointer (some ⟨p,0,none⟩)] Fr w [] (fun v L=>∃q m,m.Perm S.aX∧v=.pointer (some ⟨q,0,none⟩)∧L=[de q ⟨S.cap,m⟩]):=by
 obtain⟨es,clock,g1,g2,g3⟩:=hm.at_
 have hz:nW gx jq X es clock:=⟨g2,g3⟩
 have hXe:∀z∈X,z.2.1.length≤64:=fun z hz=>by
  have:=ok.each (z.1,z.2.1) (by rw[←hX];exact bP.2 ⟨z,hz,rfl⟩)
  exact this
 refine TF 33 Tryz.func31 Z ym aD Z Z ?_
 refine aw ?_
 refine Ii ?_
 refine kh ?_
 refine jH ?_
 refine VG (VO.vi (aQ.makeMap gx jq) ?_)
 rintro _ _ ⟨m,rfl,rfl⟩
 refine VG (VI (LB (pv:=[(0,.int .i64 S.cap),(1,.map (some m))]) (nu S m) Z Z Z ym Z) ?_)
 refine VG (VB (vs:=nu S m) Z fun q=>?_)
 refine jH ?_
 refine PF ?_
 rintro _ _ ⟨it,rfl,rfl⟩
 refine lg ?_
 refine VC.block ?_
 refine VC.loop (σ:=pT bj yQ×List lR) (fun s=>[(3,pV q),(19,pV it)]) (fun s=>tU it b clock s.1::pt q (nu S m) u5::fZ gx jq m s.2::s.2.map jo) (fun s=>lz gx jq X es s.1∧iR s.2=iR (s.1.map Prod.snd)) (fun s=>X.length-s.1.length) ([],[])
  ⟨lz.nil,rfl⟩ aP ER ?_
 rintro⟨J,Y⟩ ⟨hJ,hY⟩
 dsimp only at hJ hY ⊢
 refine ae ?_
 refine PG ?_
 rintro v L' (⟨rfl,rfl,hp⟩ | ⟨z,rfl,z1,z2,hok,rfl⟩)
 ·refine ae ?_
  refine VC.kM Z (CX ?_)
  refine ae ?_
  refine CR (aq.tmp 2 Z Z (L':=[de q ⟨S.cap,iR Y⟩]) ?_ ⟨q,iR Y,?_,Z,Z⟩)
  ·exact(aa.aB (S:=⟨S.cap,iR Y⟩) (K:=[]) m Y Z (by rw[bK];exact aa.app (L:=[_]) (M:=[]) aa.nil aa.refl)).ah
  ·rw[hY,←hX];exact hp.map _
 ·refine ae ?_
  refine VC.nj Z (CK ?_)
  refine ae ?_
  refine PH ?_
  refine ae ?_
  refine VG (VO.alloc Z fun kb=>?_)
  refine PI ?_
  refine ae ?_
  refine CD (ts 0 6 (.only 6 (.only 7 .nil))) ym yr ?_
  refine jt ?_
  refine AG (VA.dQ 0 [.int .i64 z.2.1.1,.int .i64 z.2.1.2] Z Z Z Z Z ?_)
  refine jt ?_
  have hzl:=hXe _ z1
  refine AG (AO (OC (Lc:=[]) rfl (.refl _) (fun Fr w hF hs _=>abb (a:=z.2.2.2.1) (cap:=z.2.2.2.2) Fr w ((hr _ z1).of hF hs) yd)) rfl (fun v L' g=>by obtain⟨_,⟨a1,c1,rfl,rfl⟩,rfl⟩:=g;exact(by(try refine Pd.st ?_);(repeat(first|exact Pd.nil|exact Pd.fnil|refine Pd.inner ?_|refine Pd.skip yr ?_|refine zf (zo 0 rfl rfl) ?_|refine zf (zo 1 rfl rfl) ?_|refine zf (zo 2 rfl rfl) ?_|refine zf (zo 3 rfl rfl) ?_|refine zf (zo 4 rfl rfl) ?_|refine zf (zo 5 rfl rfl) ?_|refine zf (zo 6 rfl rfl) ?_|refine zf (zo 7 rfl rfl) ?_|refine zf (zo 8 rfl rfl) ?_|refine zf (zm 0 rfl rfl) ?_|refine zf (zm 1 rfl rfl) ?_|refine zf (zm 2 rfl rfl) ?_|refine zf (zm 3 rfl rfl) ?_|refine zf (zm 4 rfl rfl) ?_|refine zf (zm 5 rfl rfl) ?_|refine zf (zm 6 rfl rfl) ?_|refine zf (zm 7 rfl rfl) ?_|refine zf (zm 8 rfl rfl) ?_|refine zc (zo 0 rfl rfl) ?_|refine zc (zo 1 rfl rfl) ?_|refine zc (zo 2 rfl rfl) ?_|refine zc (zo 3 rfl rfl) ?_|refine zc (zo 4 rfl rfl) ?_|refine zc (zo 5 rfl rfl) ?_|refine zc (zo 6 rfl rfl) ?_|refine zc (zo 7 rfl rfl) ?_|refine zc (zo 8 rfl rfl) ?_|refine zc (zm 0 rfl rfl) ?_|refine zc (zm 1 rfl rfl) ?_|refine zc (zm 2 rfl rfl) ?_|refine zc (zm 3 rfl rfl) ?_|refine zc (zm 4 rfl rfl) ?_|refine zc (zm 5 rfl rfl) ?_|refine zc (zm 6 rfl rfl) ?_|refine zc (zm 7 rfl rfl) ?_|refine zc (zm 8 rfl rfl) ?_|refine Pd.lE (dA.one 0 rfl) ?_|refine Pd.lE (dA.one 1 rfl) ?_|refine Pd.lE (dA.one 2 rfl) ?_|refine Pd.lE (dA.one 3 rfl) ?_|refine Pd.lE (dA.one 4 rfl) ?_|refine Pd.lE (dA.one 5 rfl) ?_|refine Pd.lE (dA.one 6 rfl) ?_|refine Pd.lE (dA.one 7 rfl) ?_|refine Pd.lE (dA.one 8 rfl) ?_|refine Pd.consM (dA.one 0 rfl) ?_|refine Pd.consM (dA.one 1 rfl) ?_|refine Pd.consM (dA.one 2 rfl) ?_|refine Pd.consM (dA.one 3 rfl) ?_|refine Pd.consM (dA.one 4 rfl) ?_|refine Pd.consM (dA.one 5 rfl) ?_|refine Pd.consM (dA.one 6 rfl) ?_|refine Pd.consM (dA.one 7 rfl) ?_|refine Pd.consM (dA.one 8 rfl) ?_)))) ?_)
  rintro _ _ ⟨_,⟨a1,c1,rfl,rfl⟩,rfl⟩
  refine AG (AO (aQ.mapUpdate 4 (c:=gx) (d:=jq) (xs:=Y) (a:=z.2.1) (u:=(z.2.2.1,(a1,c1))) tV Tryz.underlying79 Z Z Z Z) Z ?_ ?_)
  ·rintro _ _ ⟨rfl,rfl⟩
   exact yv
  rintro _ _ ⟨rfl,rfl⟩
  refine dp ?_
  have hnk:z.2.1∉Y.map Prod.fst:=fun hh=>by
   have e1:Y.map Prod.fst=(J.map Prod.snd).map Prod.fst:=by
    have:=congrArg (List.map Prod.fst) hY
    unfold iR at this
    rw[mV,mV] at this
    exact this
   rw[e1] at hh
   have:=lz.keys hz hok
   rw[hU,hU] at this
   exact(ja.1 this).2.2 _ hh _ (eA.2 Z) rfl
  have b2:=lz.len hz hok
  rw[a_] at b2
  refine⟨(J ++ [z],Y ++ [(z.2.1,(z.2.2.1,(a1,c1)))]),⟨hok,by show iR (Y++_)=iR ((J ++ [z]).map Prod.snd);rw[iR,hU,hU,iR,hU];exact congrArg (· ++ _) hY⟩,by show X.length-(J ++ [z]).length<X.length-J.length;rw[a_];simp at b2 ⊢;omega,aP,?_⟩
  dsimp only
  rw[Lk _ hnk,hU]
  refine aa.ah ?_
  refine IP 2 Z (IP 2 Z (IP 2 Z ?_))
  exact(aa.perm (jL (l₁:=[_,_]) (l₂:=Y.map jo))).trans (aa.app aa.refl (IP 0 Z aa.nil))
end
end Cl
namespace Cl
open Go Vg T Api Ch Conf Rep
structure cB where
 kind:Int
 a:Int
 b:Int
 c:Int
 op:bB
structure al where
 cP:bh
 now:Int
 au:aE
 nodes:List (Option av)
 bg:List aN
 aB:aT
 his:bE
 done:List bd
def mO(c:bh):al:=⟨c,0,qm c,(List.range c.nodes.toNat).map fun(n:Nat)=>some (cj c n false),(List.range c.bC.toNat).map fun(n:Nat)=>mh c n,⟨c.link,[]⟩,ud,[]⟩
def ic(from_:Int)(l:aT)(s:cz):aT:=match qq s.2.1 s.2.2 with
 | none=>l
 | some t=>l.send (from_,s.1) (bT t)
def bD(from_:Int)(l:aT)(S:List cz):aT:=S.foldl (ic from_) l
def al.post(C:al)(from_:Int)(S:List cz):al:={ C with aB:=bD from_ C.aB S }
def al.node(C:al)(n:Int):Option av:=if n<0 then none else (C.nodes[n.toNat]?).getD none
def al.jr(C:al)(n:Int):Int:=if n<0∨(C.nodes.length:Int)≤n then 4 else if (C.node n).isNone then 61 else 0
def al.setNode(C:al)(n:Int)(r:Option av):al:={ C with nodes:=C.nodes.set n.toNat r }
def al.du(C:al)(n:Int):Option aN:=if n<0 then none else C.bg[n.toNat]?
def al.gR(C:al)(n:Int)(s:aN):al:={ C with bg:=C.bg.set n.toNat s }
def al.dead(C:al)(c:Int):Int:=min (C.now+min (max c 0) 1099511627776) 1099511627776
def al.call(C:al)(s:cB):al×Int:=match C.du s.a with
 | none=>(C,4)
 | some x=>
  if x.gD s.op s.b (C.dead s.c)≠0 then (C,x.gD s.op s.b (C.dead s.c))
  else
   let y:=x.call s.op s.b (C.dead s.c) C.now
   (({ C.gR s.a y.1 with his:=C.his.call s.a y.1.seq s.op }:al).post (32+s.a) y.2,0)
def al.bA(C:al)(n:Nat):al:=match (C.nodes[n]?).getD none with
 | none=>C
 | some r=>(C.setNode n (some (gY r).1)).post n (ek (gY r).2)
def al.eV(C:al)(n:Nat):al:=match C.bg[n]? with
 | none=>C
 | some s=>(C.gR n (s.tick C.now).1).post (32+n) (s.tick C.now).2
def al.tick(C:al):al:=
 let C:={ C with now:=min (C.now+1) 1099511627776 }
 let C:=(List.range C.nodes.length).foldl al.bA C
 (List.range C.bg.length).foldl al.eV C
def al.fJ(C:al)(from_ to:Int)(f:ay)(ms:List aR):al:=
 if to=16 then ({ C with au:=(C.au.take from_ f C.now).1 }).post to (C.au.take from_ f C.now).2
 else match C.node to with
  | some r=>(C.setNode to (some (ct r from_ f ms C.now).1)).post to (ek (ct r from_ f ms C.now).2)
  | none=>match C.du (to-32) with
   | some s=>(C.gR (to-32) (s.take f ms C.now).1).post to (s.take f ms C.now).2
   | none=>C
def al.iu(C:al)(from_ to:Int)(t:ByteArray):al:=match getM (sB t) with
 | some (f,ms)=>C.fJ from_ to f ms
 | none=>C
def al.fj(C:al)(p:bj)(i:Int):al×Int:=match C.aB.find p i with
 | none=>(C,4)
 | some t=>(({ C with aB:=C.aB.dy p i }:al).iu p.1 p.2 t,0)
def al.back(C:al)(n:Int):al:=
 if C.jr n=61 then
  let r:=ct (cj C.cP n true) 16 (iF C.au.ch) C.au.ch.ms C.now
  (C.setNode n (some r.1)).post n (ek r.2)
 else C
def al.join(C:al)(n:Int):al×Int:=
 let j:=C.au.join n C.now
 if j.2.2≠0 then (C,j.2.2) else ((({ C with au:=j.1 }:al).back n).post 16 j.2.1,0)
def al.step(C:al)(s:cB):al×Int:=
 if s.kind=1 then C.call s
 else if s.kind=2 then match C.node s.a with
  | none=>(C,C.jr s.a)
  | some r=>((C.setNode s.a (some (dx r C.now).1)).post s.a (ek (dx r C.now).2),0)
 else if s.kind=3 then (C.tick,0)
 else if s.kind=4 then C.fj (s.a,s.b) s.c
 else if s.kind=5 then ({ C with aB:=(C.aB.drop (s.a,s.b) s.c).1 },(C.aB.drop (s.a,s.b) s.c).2)
 else if s.kind=6 then ({ C with aB:=(C.aB.double (s.a,s.b) s.c).1 },(C.aB.double (s.a,s.b) s.c).2)
 else if s.kind=7 then if C.jr s.a≠0 then (C,C.jr s.a) else (C.setNode s.a none,0)
 else if s.kind=8 then (({ C with au:=(C.au.eQ s.a).1 }:al).post 16 (C.au.eQ s.a).2.1,(C.au.eQ s.a).2.2)
 else if s.kind=9 then C.join s.a
 else if s.kind=10 then (({ C with au:=(C.au.drain s.a).1 }:al).post 16 (C.au.drain s.a).2.1,(C.au.drain s.a).2.2)
 else if s.kind=11 then (({ C with au:=(C.au.tick C.now).1 }:al).post 16 (C.au.tick C.now).2,0)
 else (C,2)
def oc(h:bE)(x:aN×Nat):bE:=match x.1.outcome with
 | none=>h
 | some o=>h.end_ (x.2:Int) x.1.seq o
def u0(ms:List aR):Int:=match ms.getLast? with
 | none=>-1
 | some m=>m.1
def jh(d:List bd)(x:Option av×Nat):List bd:=match x.1 with
 | none=>d
 | some r=>if r.since=0∨r.ch.ms.length=0∨u0 r.ch.ms≠x.2∨r.an.done≤d.length then d else d++(r.log.take r.an.done.toNat).drop d.length
def al.behind(C:al):al:={ C with his:=C.bg.zipIdx.foldl oc C.his,done:=C.nodes.zipIdx.foldl jh C.done }
def al.bf(C:al)(s:cB):al×Int:=((C.step s).1.behind,(C.step s).2)
def fh(k a b:Int):cB:=⟨k,a,b,0,Gl⟩
end Cl
namespace Cl
open Go Vg T Api Ch Rep Conf Lg
attribute [local irreducible] VO VC VA
abbrev sr:TypeId:=62
abbrev rE:TypeId:=65
abbrev ss:TypeId:=68
abbrev lx:=Option (Nat×av)
abbrev nQ:=Nat×aN
def F6:lx→Value
 | none=>.pointer none
 | some x=>.pointer (some ⟨x.1,0,none⟩)
def jm(x:lx):List Value:=[F6 x]
theorem F4(x:lx):(jm x).length=1:=rfl
def ka:lx→HP
 | none=>kO True
 | some x=>bp x.1 x.2
def nh(x:nQ):List Value:=[.pointer (some ⟨x.1,0,none⟩)]
theorem RH(x:nQ):(nh x).length=1:=rfl
def oK(x:nQ):HP:=bR x.1 x.2
structure fV where
 qa:Option Addr
 qc:Nat
 mp:Nat
 nb:Nat
 nc:Nat
 nx:List Value
 nr:List lx
 cb:Nat
 cc:Nat
 cx:List Value
 cr:List nQ
 lp:Nat
 hp:Nat
 da:Option Addr
 dc:Nat
def je(C:al)(y:fV):List Value:=C.cP.cells y.qa y.qc ++ [.int .i64 C.now,.pointer (some ⟨y.mp,0,none⟩),.slice (some ⟨y.nb,0,none⟩) y.nr.length y.nc,.slice (some ⟨y.cb,0,none⟩) y.cr.length y.cc,.pointer (some ⟨y.lp,0,none⟩),.pointer (some ⟨y.hp,0,none⟩),.slice y.da C.done.length y.dc]
def eY(p:Nat)(C:al)(y:fV):List HP:=[pt p (je C y) sr,lG y.qa y.qc C.cP.qs,cJ y.mp C.au,pt y.nb (flat jm y.nr++y.nx) rE,pt y.cb (flat nh y.cr++y.cx) ss,de y.lp C.aB,jz y.hp C.his,aA gN 7 y.da C.done.length y.dc (flat bZ C.done),cR (y.nr.map ka),cR (y.cr.map oK)]
structure fM(C:al)(y:fV):Prop where
 nr:y.nr.map (Option.map Prod.snd)=C.nodes
 cr:y.cr.map Prod.snd=C.bg
 qc:C.cP.qs.length≤y.qc
def cV(p:Nat)(C:al):HP:=hex fun y:fV=>cR (kO (fM C y)::eY p C y)
theorem ba.sn(p:Nat)(C:al):ba (ι:=fV) (cV p C) (fun y=>fM C y) (fun y=>eY p C y):=fun w ids ⟨x,h⟩ hn=>by
 obtain⟨i1,i2,rfl,⟨rfl,h1⟩,h2⟩:=h
 exact⟨x,h1,i2,h2,hn,fun _ h=>h⟩
theorem aa.sn{p:Nat}{C:al}{L K:List HP}(y:fV)(hy:fM C y)(h:aa L (eY p C y++K)):aa L (cV p C::K):=aa.ex (f:=fun y:fV=>cR (kO (fM C y)::eY p C y)) y (aa.sep (aa.pure hy h))
theorem wG{Fr:Nat→Prop}{w:World}{p:Nat}{C:al}(h:a8 Fr [cV p C] w):∃y,fM C y∧a8 Fr (eY p C y) w:=by
 obtain⟨y,hy⟩:=h.ex
 have hs:=hy.sep
 exact⟨y,hs.pure 0 Z,a8.tail hs⟩
def aT.ln(S:aT):Prop:=∀x∈S.aX,iN x.1.1=true∧iN x.1.2=true
structure al.Ok(C:al)(b e:Nat):Prop where
 cf:C.cP=bI C.cP
 n0:0≤C.now
 n1:C.now≤1099511627776
 au:C.au.Ok
 nl:C.nodes.length=C.cP.nodes.toNat
 cl:C.bg.length=C.cP.bC.toNat
 aB:C.aB.Ok
 his:C.his.Ok
 fit:∀r,some r∈C.nodes→r.Fit
 last:∀r,some r∈C.nodes→r.aK.last≤b
 lC:∀s∈C.bg,s.Ok
 seq:∀s∈C.bg,s.seq≤b
 rc:C.his.bq.length≤b
 ev:C.his.events≤e
 dn:C.done.length≤4096
 mH:C.aB.ln
section
variable {p:Nat} {C:al} {y:fV}
theorem NZ(h:bu Fr w p (je C y)):az Tryz.prog 24 [.pointer (some ⟨p,0,none⟩)] Fr w [] (fun v L=>v=.bool true∧L=[]):=by
 refine TF 12 Tryz.func24 Z ym aD Z Z ?_
 refine Ef ?_
 refine jH ?_
 exact mB
theorem xg(fit:fM C y):y.nr.length=C.nodes.length:=by rw[←fit.nr,cW]
theorem uS(fit:fM C y):y.cr.length=C.bg.length:=by rw[←fit.cr,cW]
theorem xf(fit:fM C y){k:Nat}{x:lx}(h:y.nr[k]?=some x):C.node (k:Int)=x.map Prod.snd∧C.nodes[k]?=some (x.map Prod.snd):=by
 have:C.nodes[k]?=some (x.map Prod.snd):=by rw[←fit.nr,eh,h];rfl
 refine⟨?_,this⟩
 unfold al.node
 rw[if_neg yd,dZ,this];rfl
theorem zj(fit:fM C y){k:Nat}{x:nQ}(h:y.cr[k]?=some x):C.du (k:Int)=some x.2∧C.bg[k]?=some x.2:=by
 have:C.bg[k]?=some x.2:=by rw[←fit.cr,eh,h];rfl
 refine⟨?_,this⟩
 unfold al.du
 rw[if_neg yd,dZ,this]
theorem ru{l:List lx}{k:Nat}{x:lx}{r:List Value}(h:l[k]?=some x):(flat jm l++r)[0+k*1]?=some (F6 x):=by rw[di];exact qe (j:=0) F4 h rfl r
theorem zk{l:List nQ}{k:Nat}{x:nQ}{r:List Value}(h:l[k]?=some x):(flat nh l++r)[0+k*1]?=some (.pointer (some ⟨x.1,0,none⟩)):=by rw[di];exact qe (j:=0) RH h rfl r
theorem Dr(fit:fM C y)(h:bu Fr w p (je C y))(hr:bu Fr w y.nb (flat jm y.nr++y.nx))(n:Int):az Tryz.prog 54 [.pointer (some ⟨p,0,none⟩),.int .i64 n] Fr w [] (fun v L=>v=.int .i64 (C.jr n)∧L=[]):=by
 have hl:=xg fit
 refine TF 26 Tryz.func54 Z ym aD Z Z ?_
 refine aw ?_
 by_cases h0:n<0
 ·refine VG (VY 8 true Z (DT h0) ?_)
  refine jH ?_
  refine mz ?_
  refine aw ?_
  exact CR (aq.tmp 4 Z Z ER ⟨by rw[al.jr,if_pos (.inl h0)],Z⟩)
 obtain⟨k,rfl⟩:∃k:Nat,n=k:=⟨n.toNat,by omega⟩
 refine VG (VY 8 false Z (DF h0) ?_)
 refine jH ?_
 refine CP (p:=(y.nr.length:Int)≤k) Z (fun h1=>?_) (fun h1=>?_)
 ·refine aw ?_
  exact CR (aq.tmp 4 Z Z ER ⟨by rw[al.jr,if_pos (.inr yd)],Z⟩)
 have hk:k<y.nr.length:=by omega
 have hk2:y.nr[k]?=some y.nr[k]:=GE hk
 generalize y.nr[k]=x at hk2
 obtain⟨e1,e2⟩:=xf fit hk2
 have hu:C.jr (k:Int)=if x.isNone then 61 else 0:=by
  unfold al.jr
  rw[if_neg yd,e1]
  cases x<;>rfl
 refine jH ?_
 refine AZ ?_
 refine VG (VO.load Z Z (ax.aC hr (ru hk2)) ?_)
 cases x with
 | none=>
  refine kE ?_
  exact CR (aq.tmp 4 Z Z ER ⟨by rw[hu];rfl,Z⟩)
 | some z=>
  show VO _ _ _ _ (bX (some 24) (.pointer (some ⟨z.1,0,none⟩)) _) _ _
  refine kh ?_
  refine aw ?_
  exact CR (aq.tmp 4 Z Z ER ⟨by rw[hu];rfl,Z⟩)
end
end Cl
namespace Cl
open Go Vg T Api Ch Rep Conf Lg
attribute [local irreducible] VO VC VA
structure mG(Fr:Nat→Prop)(w:World)(a:Option Addr)(X:List gM):Prop where
 rows:aV dF 30 Fr w a X
 U8:∀x∈X,aV aH 2 Fr w x.2.1 x.1.2.2
 len:X.length≤1000000
 ml:∀x∈X,x.1.2.2.length≤1000000
theorem Xw{Fr:Nat→Prop}{w:World}{A:List HP}{a:Option Addr}{c:Nat}{X:List gM}(h:a8 Fr (aA gJ 30 a X.length c (flat dF X)::(X.map iV++A)) w)(hl:X.length≤1000000)(hm:∀x∈X.map Prod.fst,x.2.2.length≤1000000):mG Fr w a X:=
 ⟨aV.aA Db (h.at_ 0 rfl),fun x hx=>by
  obtain⟨i,hi,rfl⟩:=List.getElem_of_mem hx
  exact aV.aA cn (h.at_ (1+i) (by rw[show 1+i=i+1 from by omega,rY,nL (by rw[cW];exact hi),eh,GE hi];rfl)),hl,fun x hx=>hm x.1 (bP.2 ⟨x,hx,Z⟩)⟩
theorem WB(from_:Int)(l:aT)(S:List cz)(s:cz):bD from_ l (S ++ [s])=ic from_ (bD from_ l S) s:=by unfold bD;rw[Bp];rfl
theorem aT.Ok.ic{S:aT}(ok:S.Ok)(from_:Int)(s:cz):(Cl.ic from_ S s).Ok:=by
 unfold Cl.ic
 split
 ·exact ok
 ·exact ok.send _ _
theorem aT.Ok.bD(from_:Int):∀(l:List cz) {S:aT},S.Ok→(Cl.bD from_ S l).Ok
 | [],_,ok=>ok
 | s::l,S,ok=>aT.Ok.bD from_ l (ok.ic from_ s)
theorem Xv(x:gM):((dF x).drop 1).take 29=x.1.2.1.cells (x.2.1,x.1.2.2.length,x.2.2):=rfl
theorem pD{p:Nat}{C:al}{y:fV}{S:aT}(h:bu Fr w p (je C y))(ok:S.Ok)(from_:Int){a:Option Addr}{c:Nat}{X:List gM}(hX:mG Fr w a X):az Tryz.prog 55 [.pointer (some ⟨p,0,none⟩),.int .i64 from_,.slice a X.length c] Fr w [de y.lp S]
  (fun v L=>v=.tuple #[]∧L=[de y.lp (bD from_ S (X.map Prod.fst))]):=by
 have hlen:=hX.len
 refine TF 35 Tryz.func55 Z ym aD Z Z ?_
 refine aw ?_
 refine VC.loop (σ:=Nat) (fun k=>[(0,pV p),(1,.int .i64 from_),(10,.slice a X.length c),(11,.int .i64 X.length),(12,.int .i64 (k:Int))]) (fun k=>[de y.lp (bD from_ S ((X.take k).map Prod.fst))]) (fun k=>k≤X.length) (fun k=>X.length-k) 0
  (bU _) aP ER ?_
 rintro k hk
 refine aw ?_
 refine CP (p:=(k:Int)<X.length) Z (fun h1=>CK ?_) (fun h1=>CX ?_)
 rotate_left
 ·obtain rfl:k=X.length:=by omega
  exact aq.void Z ER ⟨rfl,by rw[lj]⟩
 have hkl:k<X.length:=by omega
 have hx:X[k]?=some X[k]:=GE hkl
 have hxm:X[k]∈X:=yL hkl
 generalize X[k]=x at hx hxm
 obtain⟨xb,xo,rfl,ra,rc⟩:=aV.rd (X:=⟨Tryz.prog,tab,aD,35,Fr,w⟩) hX.rows hx
 have okk:(bD from_ S ((X.take k).map Prod.fst)).Ok:=aT.Ok.bD from_ _ ok
 have htk:(X.take (k+1)).map Prod.fst=(X.take k).map Prod.fst ++ [x.1]:=by
  rw[jb,hx,hU];rfl
 have hxml:=hX.ml x hxm
 refine aw ?_
 refine DZ ?_
 refine uw ?_
 refine VG (VO.alloc Z fun sb=>?_)
 refine VG (VT (vs:=dF x) (cs':=dF x) 0 Z Z Z Z (NR _) Z Z Z ?_)
 refine aw ?_
 refine VG (VL 0 (x.1.2.1.cells (x.2.1,x.1.2.2.length,x.2.2)) Z Z Z (Xv x) ?_)
 refine VG (VO.dK (φ:=Kx (qq x.1.2.1 x.1.2.2)) (fun Fr w hF hw _=>Tk Fr w ((hX.U8 x hxm).of hF hw) hxml) Z ?_)
 intro v hv
 have fin:∀S',S'=ic from_ (bD from_ S ((X.take k).map Prod.fst)) x.1→S'=bD from_ S ((X.take (k+1)).map Prod.fst):=fun S' h=>by rw[htk,WB,h]
 cases hp:qq x.1.2.1 x.1.2.2 with
 | none=>
  rw[hp] at hv
  obtain⟨e,he,rfl⟩:=hv
  have h1:=fin (bD from_ S ((X.take k).map Prod.fst)) (by unfold ic;rw[hp])
  refine aw ?_
  refine CE Z (fun k0=>absurd k0 he) (fun _=>CK ?_)
  refine aw ?_
  refine pF ?_
  refine aw ?_
  exact PJ
 | some t=>
  rw[hp] at hv
  obtain rfl:=hv
  have h1:=fin ((bD from_ S ((X.take k).map Prod.fst)).send (from_,x.1.1) (bT t)) (by unfold ic;rw[hp])
  refine kE ?_
  refine CD (ts 0 9 (.only 9 .nil)) ym yr ?_
  refine DN ?_
  refine AG (AI Z (LB (pv:=[(0,.int .i64 from_),(1,.int .i64 x.1.1),(2,.string (bT t))]) (e7 from_ x.1.1 (bT t)) Z Z Z ym Z) ?_)
  refine AG (AQ 1 Z (fun Fr w hF hs hS=>Lf Fr w okk from_ x.1.1 (bT t)) Z Z (ψ:=fun v H=>v=.int .i64 ((bD from_ S ((X.take k).map Prod.fst)).kX (from_,x.1.1) (bT t))∧H=de y.lp ((bD from_ S ((X.take k).map Prod.fst)).send (from_,x.1.1) (bT t))) yy ?_ ?_)
  ·rintro _ _ ⟨rfl,rfl⟩
   exact(by(try refine Pd.st ?_);(repeat(first|exact Pd.nil|exact Pd.fnil|refine Pd.inner ?_|refine Pd.skip yr ?_|refine zf (zo 0 Z Z) ?_|refine zf (zo 1 Z Z) ?_|refine zf (zm 0 Z Z) ?_|refine zf (zm 1 Z Z) ?_|refine zf (ax.aC h Z) ?_|refine zf (h) ?_|refine zc (zo 0 Z Z) ?_|refine zc (zo 1 Z Z) ?_|refine zc (zm 0 Z Z) ?_|refine zc (zm 1 Z Z) ?_|refine zc (ax.aC h Z) ?_|refine zc (h) ?_)))
  rintro _ _ ⟨rfl,rfl⟩
  refine dp ?_
  refine aw ?_
  refine pF ?_
  refine aw ?_
  exact PJ
end Cl
namespace Cl
open Go Vg T Api Ch Rep Conf Lg Rd
attribute [local irreducible] VO VC VA
theorem GL(e:Int)(l:List ay)(r:Int):(refs e l r).length=l.length:=by rw[refs,cW]
theorem X8{R:av}(h:R.Ok)(now:Int):(dx R now).2.length≤300000:=by
 have h1:(gj R now).length≤16:=by
  unfold gj
  rw[GL,cW]
  have:=pO (fun y=>!nt now y) R.aK.l
  have:=h.rl
  have:=h.ig
  omega
 have h2:(step2 R now).2.length≤65*4200:=by
  unfold step2
  split
  ·exact G4 now 65 (zt h now)
  ·simp
 have h3:(dS R now).2.length≤4200:=by
  unfold dS
  split
  ·show(cE _ _).2.length≤_
   have ok2:=(xw h now).an
   have:=ok2.jY
   have:=ok2.ik
   rw[xj]
   unfold fg
   omega
  ·simp
 show List.length (_++_++_)≤_
 rw[a_,a_]
 omega
theorem AL(R:av):(gY R).2.length≤5:=by
 have gl:=zI R
 have bl:=EA R
 have ml:R.ky.length=1:=rfl
 have x1:(if (!R.aK.l.isEmpty)=true then [((16:Int),nk R.ch.ar R.aK.om)] else []).length≤1:=by split<;>simp
 have x2:(if R.iP=true∧R.an.done=R.an.last then [((16:Int),qX R.ch.ar)] else []).length≤1:=by split<;>simp
 show List.length (_++_++_++_++_)≤_
 rw[a_,a_,a_,a_]
 omega
theorem SB{R:av}(h:R.Fit){c:aW}(hc:kj c):(iI R c).2.length≤5000:=by
 have h1:(oL R c).length≤80:=by
  unfold oL
  rw[a_,GL,GL,cW]
  have:=B' h.ok iU
  have:=h.ok.rl
  have:=h.ok.ig
  omega
 have h2:=zw (BY h.ok hc h.dL h.fO)
 have h3:=zI (cH R c).bL
 have h4:=EA (cH R c).bL
 have h5:(cH R c).bL.ky.length=1:=rfl
 show List.length (_++_++_++_++_)≤_
 rw[a_,a_,a_,a_]
 omega
theorem xA{R:av}(h:R.Fit)(from_:Int)(f:ay)(ms:List aR)(now:Int):(ct R from_ f ms now).2.length≤5000:=by
 unfold ct
 split
 ·split
  ·simp
  split
  ·simp
  split
  ·unfold kV;split<;>simp
  ·unfold lf;split<;>(try split)<;>(try split)<;>simp
 split
 ·split
  ·rename_i h1;exact SB h ⟨by have:=zg h1.1.2;omega⟩
  ·simp
 split
 ·split
  ·unfold jk
   have g1:=zI R
   have g2:=zI (dY R f.entry).bL.fx
   have g3:=ED (dY R f.entry).bL
   split
   ·rename_i h1
    have g4:=zw (ui h.ok (e:=f.entry) h1.2 (B7 h1.1))
    show List.length (_++_++_)≤_
    rw[a_,a_]
    omega
   ·show R.eZ.length≤_;omega
  ·simp
 split
 ·split
  ·show(if _ then _ else _:List bQ).length≤_
   split
   ·have:=zI { eN R f with an:=(eN R f).an.gp f.index };omega
   ·simp
  ·simp
 split
 ·split
  ·have:=ED (jP R f.index);show(av.jQ _).length≤_;omega
  ·simp
 split
 ·split
  ·show(qz R f.index).length≤_
   unfold qz
   rw[cW]
   have:=pO (fun y=>!k_ f.index y) R.aK.l
   have:=h.ok.rl
   have:=h.ok.ig
   omega
  ·simp
 ·simp
theorem VZ(S:List bQ):(ek S).length=S.length:=cW ..
theorem V0(S:List bQ):∀x∈ek S,x.2.2.length≤7:=fun x hx=>by
 obtain⟨y,_,rfl⟩:=bP.1 hx
 exact bU _
structure fH(S:List cz):Prop where
 n:S.length≤300000
 m:∀x∈S,x.2.2.length≤7
theorem fH.of{S:List bQ}(h:S.length≤300000):fH (ek S):=⟨by rw[VZ];exact h,V0 S⟩
theorem fH.nil:fH []:=⟨by decide,fun _ h=>absurd h oE⟩
theorem fH.one{to:Int}{f:ay}{ms:List aR}(h:ms.length≤7):fH [(to,f,ms)]:=⟨by show 1≤300000;omega,fun x hx=>by rw[eA.1 hx];exact h⟩
theorem aE.Ok.yY{M:aE}(ok:M.Ok):fH M.all:=⟨by have:=ok.n1;unfold aE.all;rw[cW,tr];omega,fun x hx=>by
 obtain⟨n,_,rfl⟩:=bP.1 hx
 exact ok.ml⟩
theorem aE.Ok.xA{M:aE}(ok:M.Ok)(from_:Int)(f:ay)(now:Int):fH (M.take from_ f now).2:=by
 have c1:∀n,fH [gu M.ch n]:=fun n=>fH.one ok.ml
 have c2:∀n,(M.iv n now).ch=M.ch:=fun _=>rfl
 unfold aE.take
 split
 ·exact c1 _
 split
 ·exact .nil
 split
 ·split
  ·exact c1 _
  split<;>exact .nil
 split
 ·split
  ·exact c1 _
  split
  ·exact fH.one (bU _)
  ·exact .nil
 split
 ·split
  ·rename_i h;exact(ok.gone h.2.2).yY
  ·exact .nil
 ·exact .nil
theorem aE.Ok.AL{M:aE}(ok:M.Ok)(now:Int):fH (M.tick now).2:=by
 have:=(ok.tick now).yY
 unfold aE.tick at this ⊢
 dsimp only at this ⊢
 split
 ·exact this
 ·exact .nil
theorem aE.Ok.NF{M:aE}(ok:M.Ok)(n:Int):fH (M.eQ n).2.1∧(M.eQ n).1.Ok:=by
 unfold aE.eQ
 split
 ·exact⟨.nil,ok⟩
 split
 ·exact⟨.nil,ok⟩
 ·rename_i h
  have:=ok.gone (n:=n) yc
  exact⟨this.yY,this⟩
theorem aE.Ok.J_{M:aE}(ok:M.Ok)(n:Int):fH (M.drain n).2.1∧(M.drain n).1.Ok:=by
 unfold aE.drain
 split
 ·exact⟨.nil,ok⟩
 split
 ·exact⟨.nil,ok⟩
 ·rename_i h
  have:=ok.iH (n:=n) yc
  exact⟨this.yY,this⟩
theorem aE.Ok.KK{M:aE}(ok:M.Ok)(n now:Int):fH (M.join n now).2.1∧(M.join n now).1.Ok:=by
 unfold aE.join
 split
 ·exact⟨.nil,ok⟩
 split
 ·exact⟨.nil,ok⟩
 ·rename_i h
  have:=ok.fC (n:=n) yc now
  exact⟨this.yY,this⟩
theorem uQ:fH qQ:=fH.one (bU _)
theorem NV(s:aN)(now:Int):fH (s.br now).2:=fH.one (bU _)
theorem Fv(s:aN)(r now:Int):fH (s.fR r now).2:=by
 unfold aN.fR aN.giveUp
 split
 ·exact uQ
 split
 ·exact .nil
 ·exact uQ
theorem aN.Rs(s:aN)(o:bB)(cl d now:Int):fH (s.call o cl d now).2:=by
 unfold aN.call
 split
 ·exact .nil
 split
 ·exact NV _ _
 ·exact uQ
theorem aN.AL(s:aN)(now:Int):fH (s.tick now).2:=by
 unfold aN.tick
 split
 ·split
  ·exact Fv _ _ _
  ·exact .nil
 split
 ·split
  ·exact .nil
  split
  ·exact uQ
  ·exact uQ
 split
 ·split
  ·exact uQ
  ·exact .nil
 ·exact .nil
theorem aN.xA(s:aN)(f:ay)(ms:List aR)(now:Int):fH (s.take f ms now).2:=by
 unfold aN.take
 split
 ·split
  ·exact .nil
  split
  ·exact NV _ _
  ·exact .nil
 split
 ·split<;>exact .nil
 split
 ·split
  ·unfold aN.refused
   split
   ·exact Fv _ _ _
   split
   ·exact uQ
   ·exact Fv _ _ _
  ·exact .nil
 ·exact .nil
def XA(a:Option Addr)(c:Nat)(X:List gM):HP:=cR (aA gJ 30 a X.length c (flat dF X)::X.map iV)
def qu(H:HP)(a:Option Addr)(c:Nat)(X:List gM):HP:=cR [H,XA a c X]
def QL(S:List cz)(H:HP)(v:Value)(K:HP):Prop:=∃(X:List gM) (a:Option Addr) (c:Nat),X.map Prod.fst=S∧v=.slice a X.length c∧K=qu H a c X
def QM(S:List cz)(e:Int)(H:HP)(v:Value)(K:HP):Prop:=∃(X:List gM) (a:Option Addr) (c:Nat),X.map Prod.fst=S∧v=.tuple #[.slice a X.length c,.int .i64 e]∧K=qu H a c X
def qP(S:List cz)(H:HP)(v:Value)(L:List HP):Prop:=∃K,L=[K]∧QL S H v K
def yT(S:List cz)(e:Int)(H:HP)(v:Value)(L:List HP):Prop:=∃K,L=[K]∧QM S e H v K
theorem mG.at_{Fr:Nat→Prop}{w:World}{L:List HP}{a:Option Addr}{c:Nat}{X:List gM}{S:List cz}(i:Nat){H:HP}(h:a8 Fr L w)(hL:L[i]?=some (qu H a c X))(hX:X.map Prod.fst=S)(hS:fH S):mG Fr w a X:=by
 subst hX
 have hh:=(((h.at_ i hL).sep).at_ 1 rfl).sep
 have hn:=hS.n
 rw[cW] at hn
 exact Xw (A:=[]) (c:=c) D' yd (fun x hx=>by have:=hS.m x hx;omega)
def pC(S:List bQ):List gM:=S.map fun x=>((x.1,x.2,[]),(none,0))
theorem aby(S:List bQ):(pC S).map Prod.fst=ek S:=by unfold pC ek;rw[mV];rfl
theorem NN(S:List bQ):(pC S).length=S.length:=cW ..
theorem abx(S:List bQ):flat dF (pC S)=flat rG S:=by
 unfold flat pC
 rw[mV]
 rfl
theorem NO{L:List HP}:∀(S:List bQ),aa L ((pC S).map iV)
 | []=>aa.nil
 | s::S=>by
  show aa L (aA aU 2 none 0 0 []::(pC S).map iV)
  exact aa.dM (NO S)
theorem G0{S:List bQ}{v:Value}{L:List HP}{H:HP}(h:bO S v L [H]):∃L2,qP (ek S) H v L2∧aa L L2:=by
 obtain⟨a,c,rfl,rfl⟩:=h
 refine⟨[qu H a c (pC S)],⟨_,Z,pC S,a,c,aby S,by rw[NN],Z⟩,aa.sep (aa.cons (aa.sep ?_))⟩
 show aa [_] ((aA gJ 30 a (pC S).length c (flat dF (pC S))::List.map iV (pC S)) ++ [])
 rw[bK,NN,abx]
 exact aa.cons (NO S)
theorem Dd{S:List cz}{v:Value}{L:List HP}{H:HP}(h:nG S v L [H]):∃L2,qP S H v L2∧aa L L2:=by
 obtain⟨X,a,c,e,rfl,rfl⟩:=h
 exact PK
theorem aa.tail{H:HP}{L:List HP}:aa (H::L) L:=aa.app (L:=[H]) (M:=[]) aa.nil aa.refl
theorem vv{H:HP}{a:Option Addr}{c:Nat}{X:List gM}{L:List HP}:aa (qu H a c X::L) (H::L):=aa.Dn (aa.cons aa.tail)
theorem De{S:List cz}{e:Int}{v:Value}{L:List HP}{H:HP}(h:xu S e v L [H]):∃L2,yT S e H v L2∧aa L L2:=by
 obtain⟨X,a,c,e,rfl,rfl⟩:=h
 exact PK
section
variable {α:Type} {f:α→HP} {l:List α} {k:Nat} {x:α}
theorem Cp{A:List HP}(h:l[k]?=some x):aa (cR (l.map f)::A) (f x::cR ((l.eraseIdx k).map f)::A):=by
 have e1:(l.map f)[k]?=some (f x):=by rw[eh,h];rfl
 have e2:(l.map f).eraseIdx k=(l.eraseIdx k).map f:=(map_eraseIdx f l k).symm
 refine aa.Dn (aa.trans (aa.app (M:=f x::(l.eraseIdx k).map f) (aa.perm ?_) aa.refl) ?_)
 ·have:=oT e1
  rwa[e2] at this
 ·exact aa.cons (aa.sep aa.refl)
theorem Co{A:List HP}(h:k<l.length)(y:α):aa (f y::cR ((l.eraseIdx k).map f)::A) (cR ((l.set k y).map f)::A):=by
 have e3:((l.set k y).map f)[k]?=some (f y):=by rw[eh,iM h];rfl
 have e4:((l.set k y).map f).eraseIdx k=(l.eraseIdx k).map f:=by rw[iZ,List.eraseIdx_set_eq,map_eraseIdx]
 have hp:=(oT e3).symm
 rw[e4] at hp
 refine aa.sep ?_
 refine aa.trans (M:=(f y::(l.eraseIdx k).map f)++A) (aa.cons (aa.Dn aa.refl)) ?_
 exact aa.app (aa.perm hp) aa.refl
end
end Cl
namespace Cl
open Go Vg T Api Ch Rep Conf Lg Rd
attribute [local irreducible] VO VC VA
theorem KQ(R:av)(from_:Int)(f:ay)(ms:List aR)(now:Int):(ct R from_ f ms now).1.aK.last≤R.aK.last+1:=by
 have h:∀Q:av,Q.aK.last=R.aK.last→Q.aK.last≤R.aK.last+1:=fun Q h=>by omega
 unfold ct
 split
 ·split
  ·exact h _ rfl
  split
  ·exact h _ rfl
  split
  ·unfold kV
   split
   ·exact h _ rfl
   ·show(R.aK.put _ _).last≤_
    unfold e9.put;split
    ·exact cd _
    ·omega
  ·refine h _ ?_
   unfold lf
   split
   ·rfl
   split
   ·rfl
   split<;>rfl
 split
 ·split
  ·refine h _ ?_
   show(Rep.cH R (l8 f ms)).bL.aK.last=_
   unfold av.bL
   split<;>(unfold Rep.cH;split<;>rfl)
  ·exact h _ rfl
 split
 ·split
  ·refine h _ ?_
   unfold jk
   split
   ·show(Rep.dY R f.entry).bL.fx.aK.last=_
    unfold av.fx
    split<;>(unfold av.bL;split<;>rfl)
   ·rfl
  ·exact h _ rfl
 split
 ·split
  ·refine h _ ?_
   show(Rep.eN R f).aK.last=_
   unfold Rep.eN Rep.gq;dsimp only;split<;>rfl
  ·exact h _ rfl
 split
 ·split
  ·refine h _ ?_;unfold av.fx;split<;>rfl
  ·exact h _ rfl
 split
 ·split<;>exact h _ rfl
 ·exact h _ rfl
theorem Ud(R:av)(now:Int):(dx R now).1.aK.last=R.aK.last:=by
 have hs:∀R:av,(ey R now).1.aK=R.aK:=fun R=>by
  unfold ey
  split
  ·rfl
  split
  ·rfl
  ·unfold av.bL;split<;>rfl
 have hl:∀(k:Nat) (R:av),(gz now k R).1.aK=R.aK:=by
  intro k
  induction k with
  | zero=>intro R;rfl
  | succ k ih=>
   intro R
   unfold gz
   split
   ·split
    ·rw[ih,hs]
    ·exact hs R
   ·rfl
 have h2:(step2 R now).1.aK.last=R.aK.last:=by
  unfold Rep.step2
  split
  ·rw[hl];rfl
  ·rfl
 show(dS R now).1.aK.last=_
 unfold dS
 split
 ·exact h2
 ·exact h2
theorem Ue(R:av):(gY R).1.aK.last=R.aK.last:=by
 show(eK R).aK.last=_
 unfold eK;split<;>rfl
theorem Fw(s:aN)(r now:Int):(s.fR r now).1.seq=s.seq:=by
 unfold aN.fR aN.giveUp aN.CQ aN.rH
 split
 ·rfl
 split<;>rfl
theorem R6(s:aN)(now:Int):(s.tick now).1.seq=s.seq:=by
 unfold aN.tick
 split
 ·split
  ·exact Fw _ _ _
  ·rfl
 split
 ·split
  ·rfl
  split<;>rfl
 split
 ·split<;>rfl
 ·rfl
theorem R3(s:aN)(f:ay)(ms:List aR)(now:Int):(s.take f ms now).1.seq=s.seq:=by
 unfold aN.take
 split
 ·split
  ·rfl
  split<;>rfl
 split
 ·split<;>rfl
 split
 ·split
  ·unfold aN.refused
   split
   ·exact Fw _ _ _
   split
   ·rfl
   ·exact Fw _ _ _
  ·rfl
 ·rfl
theorem JD(s:aN)(o:bB)(cl d now:Int):(s.call o cl d now).1.seq≤s.seq+1:=by
 unfold aN.call
 split
 ·show s.seq≤_;omega
 split<;>exact cd _
theorem TE(S:bE)(c seq:Int)(o:bB):(S.call c seq o).bq.length≤S.bq.length+1∧(S.call c seq o).events≤S.events+1:=by
 unfold bE.call
 split
 ·exact⟨by omega,by omega⟩
 ·exact⟨by simp,cd _⟩
theorem KD(S:bE)(c seq:Int)(o:fu):(S.end_ c seq o).bq.length=S.bq.length∧(S.end_ c seq o).events≤S.events+1:=by
 unfold bE.end_
 split
 ·exact⟨rfl,by omega⟩
 split
 ·exact⟨rfl,by omega⟩
 split
 ·exact⟨rfl,by omega⟩
 ·exact⟨iB,cd _⟩
theorem u7{κ α:Type}[DecidableEq κ]{a:κ}{v:α}:∀{l:List (κ×α)},bF l a=some v→(a,v)∈l
 | [],h=>by cases h
 | (k,u)::r,h=>by
  simp only[bF] at h
  split at h
  ·rename_i e;cases h;rw[e];exact mW ..
  ·exact i_ _ (u7 h)
theorem Cn{κ α:Type}[DecidableEq κ]{a:κ}:∀{l:List (κ×α)} {x:κ×α},x∈eO l a→x∈l
 | [],x,h=>by cases h
 | (k,u)::r,x,h=>by
  simp only[eO] at h
  split at h
  ·exact i_ _ h
  ·rcases jK.1 h with h | h
   ·rw[h];exact mW ..
   ·exact i_ _ (Cn h)
namespace aT.ln
variable {S:aT}
theorem put(h:S.ln){p:bj}(h1:iN p.1=true)(h2:iN p.2=true)(l:List ByteArray):({ S with aX:=bV S.aX p l }:aT).ln:=fun x hx=>by
 rcases w7 hx with h3 | h3
 ·exact h x h3
 ·rw[h3];exact⟨h1,h2⟩
theorem send(h:S.ln)(p:bj)(t:ByteArray):(S.send p t).ln:=by
 unfold aT.send
 split
 ·exact h
 ·rename_i h0
  have h0:S.kX p t=0:=by simpa using h0
  have:¬(iN p.1=false∨iN p.2=false∨p.1=p.2):=fun g=>by unfold aT.kX at h0;rw[if_pos g] at h0;cases h0
  exact h.put (by cases hh:iN p.1<;>simp_all) (by cases hh:iN p.2<;>simp_all) _
theorem found(h:S.ln){p:bj}{i:Int}{t:ByteArray}(hf:S.find p i=some t):iN p.1=true∧iN p.2=true:=by
 unfold aT.find aT.list at hf
 split at hf
 ·cases hf
 ·cases hg:bF S.aX p with
  | none=>rw[hg] at hf;cases hf
  | some l=>exact h _ (u7 hg)
theorem dy(h:S.ln){p:bj}{i:Int}{t:ByteArray}(hf:S.find p i=some t):(S.dy p i).ln:=by
 have:=h.found hf
 unfold aT.dy
 split
 ·exact fun x hx=>(h.put this.1 this.2 _) x (Cn hx)
 ·exact h.put this.1 this.2 _
theorem drop(h:S.ln)(p:bj)(i:Int):(S.drop p i).1.ln:=by
 unfold aT.drop
 split
 ·exact h
 ·rename_i hf
  cases hg:S.find p i with
  | none=>exact absurd hg hf
  | some t=>exact h.dy hg
theorem double(h:S.ln)(p:bj)(i:Int):(S.double p i).1.ln:=by
 unfold aT.double
 split
 ·exact h
 ·exact h.send _ _
theorem bD(h:S.ln)(from_:Int)(l:List cz):(Cl.bD from_ S l).ln:=by
 unfold Cl.bD
 induction l generalizing S with
 | nil=>exact h
 | cons s l ih=>
  refine ih ?_
  unfold ic
  split
  ·exact h
  ·exact h.send _ _
end aT.ln
theorem tG{a:Int}(h:iN a=true):0≤a∧a<38:=by
 unfold iN at h
 simp only[Bool.or_eq_true,dN,decide_eq_true_eq] at h
 omega
namespace al.Ok
variable {C:al} {b e:Nat}
theorem mono(h:C.Ok b e){b' e':Nat}(hb:b≤b')(he:e≤e'):C.Ok b' e' where
 cf:=h.cf
 n0:=h.n0
 n1:=h.n1
 au:=h.au
 nl:=h.nl
 cl:=h.cl
 aB:=h.aB
 his:=h.his
 fit:=h.fit
 last r hr:=by have:=h.last r hr;omega
 lC:=h.lC
 seq s hs:=by have:=h.seq s hs;omega
 rc:=pQ h.rc hb
 ev:=by have:=h.ev;omega
 dn:=h.dn
 mH:=h.mH
theorem nq(h:C.Ok b e){l:aT}(hl:l.Ok)(ha:l.ln):({ C with aB:=l }:al).Ok b e:=⟨h.cf,h.n0,h.n1,h.au,h.nl,h.cl,hl,h.his,h.fit,h.last,h.lC,h.seq,h.rc,h.ev,h.dn,ha⟩
theorem qi(h:C.Ok b e){m:aE}(hm:m.Ok):({ C with au:=m }:al).Ok b e:=⟨h.cf,h.n0,h.n1,hm,h.nl,h.cl,h.aB,h.his,h.fit,h.last,h.lC,h.seq,h.rc,h.ev,h.dn,h.mH⟩
theorem at_(h:C.Ok b e):({ C with now:=min (C.now+1) 1099511627776 }:al).Ok b e:=⟨h.cf,by show 0≤min (C.now+1) 1099511627776;have:=h.n0;omega,by show min (C.now+1) 1099511627776≤1099511627776;omega,h.au,h.nl,h.cl,h.aB,h.his,h.fit,h.last,h.lC,h.seq,h.rc,h.ev,h.dn,h.mH⟩
theorem post(h:C.Ok b e)(from_:Int)(S:List cz):(C.post from_ S).Ok b e:=h.nq (h.aB.bD from_ S) (h.mH.bD from_ S)
theorem setNode(h:C.Ok b e)(n:Int){x:Option av}(hx:∀r,x=some r→r.Fit∧r.aK.last≤b):(C.setNode n x).Ok b e:=⟨h.cf,h.n0,h.n1,h.au,by show(C.nodes.set _ _).length=_;rw[iB];exact h.nl,h.cl,h.aB,h.his,fun r hr=>by
 rcases lP hr with h1 | h1
 ·exact h.fit r h1
 ·exact(hx r h1.symm).1,fun r hr=>by
 rcases lP hr with h1 | h1
 ·exact h.last r h1
 ·exact(hx r h1.symm).2,h.lC,h.seq,h.rc,h.ev,h.dn,h.mH⟩
theorem node1(h:C.Ok b e)(n:Int){r:av}(h1:r.Fit)(h2:r.aK.last≤b):(C.setNode n (some r)).Ok b e:=h.setNode n fun r' e=>by cases e;exact⟨h1,h2⟩
theorem VF(h:C.Ok b e)(n:Int):(C.setNode n none).Ok b e:=h.setNode n fun r' e=>by cases e
theorem gR(h:C.Ok b e)(n:Int){s:aN}(h1:s.Ok)(h2:s.seq≤b):(C.gR n s).Ok b e:=⟨h.cf,h.n0,h.n1,h.au,h.nl,by show(C.bg.set _ _).length=_;rw[iB];exact h.cl,h.aB,h.his,h.fit,h.last,fun x hx=>by
 rcases lP hx with g | g
 ·exact h.lC x g
 ·rw[g];exact h1,fun x hx=>by
 rcases lP hx with g | g
 ·exact h.seq x g
 ·rw[g];exact h2,h.rc,h.ev,h.dn,h.mH⟩
theorem KF(h:C.Ok b e){H:bE}(h1:H.Ok)(h2:H.bq.length≤b)(h3:H.events≤e):({ C with his:=H }:al).Ok b e:=⟨h.cf,h.n0,h.n1,h.au,h.nl,h.cl,h.aB,h1,h.fit,h.last,h.lC,h.seq,h2,h3,h.dn,h.mH⟩
theorem up(h:C.Ok b e){n:Int}{r:av}(hn:C.node n=some r):some r∈C.nodes:=by
 unfold al.node at hn
 split at hn
 ·cases hn
 ·cases hx:C.nodes[n.toNat]? with
  | none=>rw[hx] at hn;cases hn
  | some x=>rw[hx] at hn;obtain rfl:x=some r:=hn;exact ME hx
theorem N4(h:C.Ok b e){n:Int}{s:aN}(hn:C.du n=some s):s∈C.bg:=by
 unfold al.du at hn
 split at hn
 ·cases hn
 ·exact ME hn
theorem bA(h:C.Ok b e)(n:Nat):(C.bA n).Ok b e:=by
 unfold al.bA
 split
 ·exact h
 ·rename_i r hr
  have hm:some r∈C.nodes:=by
   cases hx:C.nodes[n]? with
   | none=>rw[hx] at hr;cases hr
   | some x=>rw[hx] at hr;obtain rfl:x=some r:=hr;exact ME hx
  exact(h.node1 n (abk (h.fit r hm)) (by rw[Ue];exact h.last r hm)).post _ _
theorem eV(h:C.Ok b e)(n:Nat):(C.eV n).Ok b e:=by
 unfold al.eV
 split
 ·exact h
 ·rename_i s hs
  have hm:s∈C.bg:=ME hs
  exact(h.gR n ((h.lC s hm).tick C.now) (by rw[R6];exact h.seq s hm)).post _ _
theorem xD(h:C.Ok b e)(l:List Nat):(l.foldl al.bA C).Ok b e:=by
 induction l generalizing C with
 | nil=>exact h
 | cons x l ih=>exact ih (h.bA x)
theorem xC(h:C.Ok b e)(l:List Nat):(l.foldl al.eV C).Ok b e:=by
 induction l generalizing C with
 | nil=>exact h
 | cons x l ih=>exact ih (h.eV x)
theorem tick(h:C.Ok b e):C.tick.Ok b e:=(h.at_.xD _).xC _
theorem fJ(h:C.Ok b e)(hb:b<100000000)(from_ to:Int)(f:ay)(ms:List aR):(C.fJ from_ to f ms).Ok (b+1) e:=by
 have h':=h.mono (b':=b+1) yd (NR e)
 unfold al.fJ
 split
 ·exact(h'.qi (h.au.take _ _ _)).post _ _
 split
 ·rename_i r hr
  have hm:=h.up hr
  have hl:=h.last r hm
  exact(h'.node1 _ (NG (h.fit r hm) yd _ _ _ _) (by have:=KQ r from_ f ms C.now;omega)).post _ _
 split
 ·rename_i s hs
  have hm:=h.N4 hs
  exact(h'.gR _ ((h.lC s hm).take f ms C.now) (by rw[R3];exact h'.seq s hm)).post _ _
 ·exact h'
theorem iu(h:C.Ok b e)(hb:b<100000000)(from_ to:Int)(t:ByteArray):(C.iu from_ to t).Ok (b+1) e:=by
 unfold al.iu
 split
 ·exact h.fJ hb _ _ _ _
 ·exact h.mono yd (NR e)
theorem Ko{l:aT}{p:bj}{i:Int}{t:ByteArray}(h:l.find p i=some t):l.dy p i=(l.drop p i).1:=by
 unfold aT.drop
 rw[if_neg (by rw[h];intro g;cases g)]
theorem fj(h:C.Ok b e)(hb:b<100000000)(p:bj)(i:Int):(C.fj p i).1.Ok (b+1) e:=by
 unfold al.fj
 split
 ·exact h.mono yd (NR e)
 ·rename_i t ht
  have:(C.aB.dy p i).Ok:=by rw[Ko ht];exact h.aB.drop p i
  exact(h.nq this (h.mH.dy ht)).iu hb _ _ _
theorem back(h:C.Ok b e)(hb:b<100000000)(n:Int):(C.back n).Ok (b+1) e:=by
 have h':=h.mono (b':=b+1) yd (NR e)
 unfold al.back
 split
 ·have hf:=CA h.cf n true
  have hl:(cj C.cP n true).aK.last=0:=by
   unfold cj;split
   ·rfl
   split<;>rfl
  exact(h'.node1 _ (NG hf yd _ _ _ _) (by have:=KQ (cj C.cP n true) 16 (iF C.au.ch) C.au.ch.ms C.now;omega)).post _ _
 ·exact h'
theorem join(h:C.Ok b e)(hb:b<100000000)(n:Int):(C.join n).1.Ok (b+1) e:=by
 unfold al.join
 dsimp only
 split
 ·exact h.mono yd (NR e)
 ·exact((h.qi (h.au.KK n C.now).2).back hb n).post _ _
theorem call(h:C.Ok b e)(hb:b<100000)(he:e<1000000)(s:cB):(C.call s).1.Ok (b+1) (e+1):=by
 have h':=h.mono (b':=b+1) (e':=e+1) yd yd
 unfold al.call
 split
 ·exact h'
 ·rename_i x hx
  have hm:=h.N4 hx
  split
  ·exact h'
  ·have h1:=h.rc
   have h2:=h.ev
   have h3:=h.seq x hm
   have h4:=JD x s.op s.b (C.dead s.c) C.now
   have h5:=TE C.his s.a (x.call s.op s.b (C.dead s.c) C.now).1.seq s.op
   exact((h'.gR s.a ((h.lC x hm).call _ _ _ _) yd).KF (h.his.call yd yd s.a (x.call s.op s.b (C.dead s.c) C.now).1.seq s.op) yd yd).post _ _
theorem step(h:C.Ok b e)(hb:b<100000)(he:e<1000000)(s:cB):(C.step s).1.Ok (b+1) (e+1):=by
 have h':=h.mono (b':=b+1) (e':=e+1) yd yd
 have up1:∀{D:al},D.Ok (b+1) e→D.Ok (b+1) (e+1):=fun g=>g.mono (NR _) yd
 unfold al.step
 by_cases k1:s.kind=1
 ·rw[if_pos k1]
  exact h.call hb he s
 rw[if_neg k1]
 by_cases k2:s.kind=2
 ·rw[if_pos k2]
  split
  ·exact h'
  ·rename_i r hr
   have hm:=h.up hr
   exact(h'.node1 _ (X1 (h.fit r hm) C.now) (by rw[Ud];exact h'.last r hm)).post _ _
 rw[if_neg k2]
 by_cases k3:s.kind=3
 ·rw[if_pos k3]
  exact h'.tick
 rw[if_neg k3]
 by_cases k4:s.kind=4
 ·rw[if_pos k4]
  exact up1 (h.fj yd _ _)
 rw[if_neg k4]
 by_cases k5:s.kind=5
 ·rw[if_pos k5]
  exact h'.nq (h.aB.drop _ _) (h.mH.drop _ _)
 rw[if_neg k5]
 by_cases k6:s.kind=6
 ·rw[if_pos k6]
  exact h'.nq (h.aB.double _ _) (h.mH.double _ _)
 rw[if_neg k6]
 by_cases k7:s.kind=7
 ·rw[if_pos k7]
  split
  ·exact h'
  ·exact h'.VF _
 rw[if_neg k7]
 by_cases k8:s.kind=8
 ·rw[if_pos k8]
  exact(h'.qi (h.au.NF s.a).2).post _ _
 rw[if_neg k8]
 by_cases k9:s.kind=9
 ·rw[if_pos k9]
  exact up1 (h.join yd s.a)
 rw[if_neg k9]
 by_cases k10:s.kind=10
 ·rw[if_pos k10]
  exact(h'.qi (h.au.J_ s.a).2).post _ _
 rw[if_neg k10]
 by_cases iS:s.kind=11
 ·rw[if_pos iS]
  exact(h'.qi (h.au.tick C.now)).post _ _
 rw[if_neg iS]
 exact h'
theorem E4{H:bE}(h:H.Ok):∀(l:List (aN×Nat)),H.events+l.length<10000000→(l.foldl oc H).Ok∧(l.foldl oc H).bq.length=H.bq.length∧(l.foldl oc H).events≤H.events+l.length
 | [],_=>⟨h,rfl,by simp⟩
 | x::l,hl=>by
  rw[iA] at hl
  rw[oZ,iA]
  have key:∃K,oc H x=K∧K.Ok∧K.bq.length=H.bq.length∧K.events≤H.events+1:=by
   unfold oc
   split
   ·exact⟨_,Z,h,Z,by omega⟩
   ·rename_i o ho
    exact⟨_,Z,h.end_ yd _ _ o,(KD H _ _ o).1,(KD H _ _ o).2⟩
  obtain⟨K,e1,e2,e3,e4⟩:=key
  rw[e1]
  have:=E4 e2 l yd
  exact⟨this.1,by rw[this.2.1,e3],by have:=this.2.2;omega⟩
theorem Sg{d:List bd}{x:Option av×Nat}(hd:d.length≤4096)(hx:∀r,x.1=some r→r.Fit):(jh d x).length≤4096:=by
 unfold jh
 split
 ·exact hd
 ·rename_i r hr
  split
  ·exact hd
  ·have hf:=(hx r hr).ok
   have:=hf.an.jY
   have:=hf.an.jg
   rw[a_,r4,kH]
   omega
theorem J6{l:List (Option av×Nat)}{d:List bd}(hd:d.length≤4096)(hx:∀x∈l,∀r,x.1=some r→r.Fit):(l.foldl jh d).length≤4096:=by
 induction l generalizing d with
 | nil=>exact hd
 | cons x l ih=>exact ih (Sg hd (hx x yf)) (fun y hy=>hx y (by simp[hy]))
theorem bg(h:C.Ok b e):C.bg.length≤6:=by
 have:=lX h.cf
 rw[h.cl]
 omega
theorem Gb(h:C.Ok b e):C.nodes.length≤6:=by
 have:=lX h.cf
 rw[h.nl]
 omega
theorem behind(h:C.Ok b e)(he:e<1000000):C.behind.Ok b (e+6):=by
 have hc:=h.bg
 have h2:=h.ev
 have key:=E4 h.his C.bg.zipIdx (by rw[Bt];omega)
 rw[Bt] at key
 have h':=(h.mono (b':=b) (e':=e+6) (NR b) yd).KF key.1 (by rw[key.2.1];exact h.rc) (by have:=key.2.2;omega)
 exact⟨h'.cf,h'.n0,h'.n1,h'.au,h'.nl,h'.cl,h'.aB,h'.his,h'.fit,h'.last,h'.lC,h'.seq,h'.rc,h'.ev,J6 h.dn fun x hx r hr=>h.fit r (by
  have:x.1∈C.nodes:=by
   have:=List.mem_zipIdx' (x:=x.1) (i:=x.2) hx
   exact ME (by rw[GE this.1,←this.2])
  rw[hr] at this;exact this),h'.mH⟩
theorem bf(h:C.Ok b e)(hb:b<100000)(he:e<900000)(s:cB):(C.bf s).1.Ok (b+1) (e+7):=(h.step hb yd s).behind yd
end al.Ok
theorem Vs{c:bh}(h:c=bI c):(mO c).Ok 0 0:=by
 have hb:=lX h
 have hb2:=wH h
 have hM:(qm c).Ok:=LY c h▸LZ h _
 exact⟨h,cd _,by show(0:Int)≤_;decide,hM,by simp[mO],by simp[mO],⟨by show 1≤c.link;omega,hb2.2.2.2.2.1.2,fun x hx=>absurd hx oE,List.nodup_nil⟩,
  ⟨by show 0≤1000000;omega,by show(0:Int)≤0;decide,by show(0:Int)≤10000000;decide,rfl,fun x hx=>by rw[List.eq_of_mem_replicate hx];exact⟨cd _,cd _⟩⟩,fun r hr=>by
   obtain⟨n,_,e⟩:=bP.1 hr
   cases e;exact CA h _ _,fun r hr=>by
   obtain⟨n,_,e⟩:=bP.1 hr
   cases e
   have:(cj c n false).aK.last=0:=by
    unfold cj;split
    ·rfl
    split<;>rfl
   omega,fun s hs=>by
   obtain⟨n,_,rfl⟩:=bP.1 hs
   exact Vt h n,fun s hs=>by
   obtain⟨n,_,rfl⟩:=bP.1 hs
   exact cd _,bU _,cd _,bU _,fun x hx=>absurd hx oE⟩
end Cl
namespace Cl
open Go Vg T Api Ch Rep Conf Lg Rd
attribute [local irreducible] VO VC VA
section
variable {p:Nat} {C:al} {y:fV}
def tM(p:Nat)(C:al)(y:fV)(k:Nat)(l:aT):List HP:=[pt p (je C y) sr,lG y.qa y.qc C.cP.qs,cJ y.mp C.au,pt y.nb (flat jm y.nr++y.nx) rE,pt y.cb (flat nh y.cr++y.cx) ss,de y.lp l,jz y.hp C.his,aA gN 7 y.da C.done.length y.dc (flat bZ C.done),cR ((y.nr.eraseIdx k).map ka),cR (y.cr.map oK)]
def tJ(p:Nat)(C:al)(y:fV)(k:Nat)(l:aT)(h:bE):List HP:=[pt p (je C y) sr,lG y.qa y.qc C.cP.qs,cJ y.mp C.au,pt y.nb (flat jm y.nr++y.nx) rE,pt y.cb (flat nh y.cr++y.cx) ss,de y.lp l,jz y.hp h,aA gN 7 y.da C.done.length y.dc (flat bZ C.done),cR (y.nr.map ka),cR ((y.cr.eraseIdx k).map oK)]
def tL(p:Nat)(C:al)(y:fV)(l:aT):List HP:=[pt p (je C y) sr,lG y.qa y.qc C.cP.qs,pt y.nb (flat jm y.nr++y.nx) rE,pt y.cb (flat nh y.cr++y.cx) ss,de y.lp l,jz y.hp C.his,aA gN 7 y.da C.done.length y.dc (flat bZ C.done),cR (y.nr.map ka),cR (y.cr.map oK)]
def fV.node(y:fV)(k:Nat)(x:lx):fV:={ y with nr:=y.nr.set k x }
def fV.du(y:fV)(k:Nat)(x:nQ):fV:={ y with cr:=y.cr.set k x }
theorem Ga{k q:Nat}{r:av}(h:y.nr[k]?=some (some (q,r))):aa (eY p C y) (bp q r::tM p C y k C.aB):=
 aa.trans (IP 8 rfl aa.refl) (aa.trans (Cp (f:=ka) h) (aa.cons (IP 1 rfl (IP 1 rfl (IP 1 rfl (IP 1 rfl (IP 1 rfl (IP 1 rfl (IP 1 rfl (IP 1 rfl aa.refl))))))))))
theorem ES{k q:Nat}{s:aN}(h:y.cr[k]?=some (q,s)):aa (eY p C y) (bR q s::tJ p C y k C.aB C.his):=
 aa.trans (IP 9 rfl aa.refl) (aa.trans (Cp (f:=oK) h) (aa.cons (IP 1 rfl (IP 1 rfl (IP 1 rfl (IP 1 rfl (IP 1 rfl (IP 1 rfl (IP 1 rfl (IP 1 rfl (IP 1 rfl aa.refl)))))))))))
theorem FV:aa (eY p C y) (cJ y.mp C.au::tL p C y C.aB):=IP 2 rfl aa.refl
theorem Mb{l:List lx}{k q:Nat}{r r':av}(h:l[k]?=some (some (q,r))):flat jm (l.set k (some (q,r')))=flat jm l:=by
 have hk:=(bY.1 h).1
 unfold flat
 rw[iZ]
 congr 1
 apply pN
 intro j
 rw[vZ]
 split
 ·rename_i e;subst e
  rw[if_pos (by rw[cW];exact hk),eh,h];rfl
 ·rfl
theorem RM{l:List nQ}{k q:Nat}{s s':aN}(h:l[k]?=some (q,s)):flat nh (l.set k (q,s'))=flat nh l:=by
 have hk:=(bY.1 h).1
 unfold flat
 rw[iZ]
 congr 1
 apply pN
 intro j
 rw[vZ]
 split
 ·rename_i e;subst e
  rw[if_pos (by rw[cW];exact hk),eh,h];rfl
 ·rfl
theorem F9(fit:fM C y)(k:Nat)(x:lx)(l:aT):fM ({ C.setNode k (x.map Prod.snd) with aB:=l }:al) (y.node k x):=
 ⟨by show(y.nr.set k x).map _=C.nodes.set k _;rw[iZ,fit.nr],fit.cr,fit.qc⟩
theorem JK(fit:fM C y)(k:Nat)(x:nQ)(l:aT)(h:bE):fM ({ C.gR k x.2 with aB:=l,his:=h }:al) (y.du k x):=
 ⟨fit.nr,by show(y.cr.set k x).map _=C.bg.set k _;rw[iZ,fit.cr],fit.qc⟩
theorem F8(C':al){k:Nat}{x:lx}(h1:C'.cP=C.cP)(h2:C'.now=C.now)(h3:C'.done=C.done):je C' (y.node k x)=je C y:=by
 unfold je fV.node
 rw[h1,h2,h3]
 dsimp only
 rw[iB]
theorem RJ(C':al){k:Nat}{x:nQ}(h1:C'.cP=C.cP)(h2:C'.now=C.now)(h3:C'.done=C.done):je C' (y.du k x)=je C y:=by
 unfold je fV.du
 rw[h1,h2,h3]
 dsimp only
 rw[iB]
theorem Me{k q:Nat}{r r':av}{l:aT}(h:y.nr[k]?=some (some (q,r))):aa (bp q r'::tM p C y k l) (eY p ({ C.setNode k (some r') with aB:=l }:al) (y.node k (some (q,r')))):=by
 have hk:=(bY.1 h).1
 have e1:=F8 (C:=C) (y:=y) (k:=k) (x:=some (q,r')) ({ C.setNode k (some r') with aB:=l }:al) rfl rfl rfl
 have e2:=Mb (r':=r') h
 unfold eY
 rw[e1]
 show aa _ [_,_,_,pt y.nb (flat jm (y.nr.set k (some (q,r')))++y.nx) rE,_,_,_,_,cR ((y.nr.set k (some (q,r'))).map ka),_]
 rw[e2]
 refine aa.trans (M:=bp q r'::cR ((y.nr.eraseIdx k).map ka)::_) (aa.cons (IP 8 Z aa.refl)) (aa.trans (Co (f:=ka) hk (some (q,r'))) ?_)
 exact IP 1 Z (IP 1 Z (IP 1 Z (IP 1 Z (IP 1 Z (IP 1 Z (IP 1 Z (IP 1 Z aa.refl)))))))
theorem JL{k q:Nat}{s s':aN}{l:aT}{hi:bE}(h:y.cr[k]?=some (q,s)):aa (bR q s'::tJ p C y k l hi) (eY p ({ C.gR k s' with aB:=l,his:=hi }:al) (y.du k (q,s'))):=by
 have hk:=(bY.1 h).1
 have e1:=RJ (C:=C) (y:=y) (k:=k) (x:=(q,s')) ({ C.gR k s' with aB:=l,his:=hi }:al) rfl rfl rfl
 have e2:=RM (s':=s') h
 unfold eY
 rw[e1]
 show aa _ [_,_,_,_,pt y.cb (flat nh (y.cr.set k (q,s'))++y.cx) ss,_,_,_,_,cR ((y.cr.set k (q,s')).map oK)]
 rw[e2]
 refine aa.trans (M:=bR q s'::cR ((y.cr.eraseIdx k).map oK)::_) (aa.cons (IP 9 Z aa.refl)) (aa.trans (Co (f:=oK) hk (q,s')) ?_)
 exact IP 1 Z (IP 1 Z (IP 1 Z (IP 1 Z (IP 1 Z (IP 1 Z (IP 1 Z (IP 1 Z (IP 1 Z aa.refl))))))))
theorem UR{m:aE}{l:aT}:aa (cJ y.mp m::tL p C y l) (eY p ({ C with au:=m,aB:=l }:al) y):=IP 1 rfl (IP 1 rfl aa.refl)
theorem nZ(fit:fM C y){R:List HP}:aa (eY p C y++R) [cV p C]:=aa.sn (K:=[]) y fit (by rw[bK];exact aa.trans (aa.app (M:=eY p C y) (M':=[]) aa.refl aa.nil) (aa.of_eq (bK _)))
theorem Mg(fit:fM C y){k q:Nat}{r r':av}{l:aT}{a:Option Addr}{c:Nat}{X:List gM}(h:y.nr[k]?=some (some (q,r))){R:List HP}:aa (qu (bp q r') a c X::(tM p C y k l++R)) [cV p ({ C.setNode k (some r') with aB:=l }:al)]:=
 aa.trans vv (aa.trans (aa.app (L:=bp q r'::tM p C y k l) (Me h) aa.refl) (nZ (F9 fit k (some (q,r')) l)))
theorem ET(fit:fM C y){k q:Nat}{s s':aN}{l:aT}{hi:bE}{a:Option Addr}{c:Nat}{X:List gM}(h:y.cr[k]?=some (q,s)){R:List HP}:aa (qu (bR q s') a c X::(tJ p C y k l hi++R)) [cV p ({ C.gR k s' with aB:=l,his:=hi }:al)]:=
 aa.trans vv (aa.trans (aa.app (L:=bR q s'::tJ p C y k l hi) (JL h) aa.refl) (nZ (JK fit k (q,s') l hi)))
theorem w_(fit:fM C y){m:aE}{l:aT}{a:Option Addr}{c:Nat}{X:List gM}{R:List HP}:aa (qu (cJ y.mp m) a c X::(tL p C y l++R)) [cV p ({ C with au:=m,aB:=l }:al)]:=
 aa.trans vv (aa.trans (aa.app (L:=cJ y.mp m::tL p C y l) UR aa.refl) (nZ (C:=({ C with au:=m,aB:=l }:al)) ⟨fit.nr,fit.cr,fit.qc⟩))
end
section
variable {q:Nat}
theorem ab4{r:av}(ok:r.Ok)(now:Int):az Tryz.prog 56 [.pointer (some ⟨q,0,none⟩),.int .i64 now] Fr w [bp q r] (fun v L=>qP (ek (dx r now).2) (bp q (dx r now).1) v L):=Go.Proofs.YtkgfhabealjjpaaGreat.Ring.az.drop (Yb Fr w ok now) fun _ _ h=>G0 h
theorem ab6{r:av}(ok:r.Ok)(now:Int):az Tryz.prog 106 [.pointer (some ⟨q,0,none⟩),.int .i64 now] Fr w [bp q r] (fun v L=>qP (ek (gY r).2) (bp q (gY r).1) v L):=Go.Proofs.YtkgfhabealjjpaaGreat.Ring.az.drop (abp Fr w ok now) fun _ _ h=>G0 h
theorem N7{r:av}(fit:r.Fit)(hlast:r.aK.last<100000000)(from_:Int)(f:ay){ma:Option Addr}{mc:Nat}{ms:List aR}(hm:aV aH 2 Fr w ma ms)(hml:ms.length≤1000000)(now:Int)
  (hi1:-9223372036854775808≤f.entry.index) (hi2:f.entry.index≤9223372036854775807):az Tryz.prog 118 [.pointer (some ⟨q,0,none⟩),.int .i64 from_,.agg (f.cells (ma,ms.length,mc)).toArray,.int .i64 now] Fr w [bp q r] (fun v L=>qP (ek (ct r from_ f ms now).2) (bp q (ct r from_ f ms now).1) v L):=
 Go.Proofs.YtkgfhabealjjpaaGreat.Ring.az.drop (AK Fr w fit hlast from_ f hm hml now hi1 hi2) fun _ _ h=>G0 h
theorem ab1{M:aE}(ok:M.Ok)(from_:Int)(f:ay)(g:jv)(now:Int):az Tryz.prog 179 [.pointer (some ⟨q,0,none⟩),.int .i64 from_,.agg (f.cells g).toArray,.int .i64 now] Fr w [cJ q M] (fun v L=>qP (M.take from_ f now).2 (cJ q (M.take from_ f now).1) v L):=Go.Proofs.YtkgfhabealjjpaaGreat.Ring.az.drop (Vm Fr w ok from_ f g now) fun _ _ h=>Dd h
theorem ab2{M:aE}(ok:M.Ok)(now:Int):az Tryz.prog 58 [.pointer (some ⟨q,0,none⟩),.int .i64 now] Fr w [cJ q M] (fun v L=>qP (M.tick now).2 (cJ q (M.tick now).1) v L):=Go.Proofs.YtkgfhabealjjpaaGreat.Ring.az.drop (Vo Fr w ok now) fun _ _ h=>Dd h
theorem ab5{M:aE}(ok:M.Ok)(n:Int):az Tryz.prog 62 [.pointer (some ⟨q,0,none⟩),.int .i64 n] Fr w [cJ q M] (fun v L=>yT (M.eQ n).2.1 (M.eQ n).2.2 (cJ q (M.eQ n).1) v L):=Go.Proofs.YtkgfhabealjjpaaGreat.Ring.az.drop (Vj Fr w ok n) fun _ _ h=>De h
theorem abY{M:aE}(ok:M.Ok)(n:Int):az Tryz.prog 64 [.pointer (some ⟨q,0,none⟩),.int .i64 n] Fr w [cJ q M] (fun v L=>yT (M.drain n).2.1 (M.drain n).2.2 (cJ q (M.drain n).1) v L):=Go.Proofs.YtkgfhabealjjpaaGreat.Ring.az.drop (UZ Fr w ok n) fun _ _ h=>De h
theorem ab0{M:aE}(ok:M.Ok)(n now:Int):az Tryz.prog 117 [.pointer (some ⟨q,0,none⟩),.int .i64 n,.int .i64 now] Fr w [cJ q M] (fun v L=>yT (M.join n now).2.1 (M.join n now).2.2 (cJ q (M.join n now).1) v L):=Go.Proofs.YtkgfhabealjjpaaGreat.Ring.az.drop (Vc Fr w ok n now) fun _ _ h=>De h
theorem abW{S:aN}(ok:S.Ok)(f:ay){ma:Option Addr}{mc:Nat}{ms:List aR}(hm:aV aH 2 Fr w ma ms)(hml:ms.length≤1000000)(now:Int):az Tryz.prog 237 [.pointer (some ⟨q,0,none⟩),.agg (f.cells (ma,ms.length,mc)).toArray,.int .i64 now] Fr w [bR q S] (fun v L=>qP (S.take f ms now).2 (bR q (S.take f ms now).1) v L):=Go.Proofs.YtkgfhabealjjpaaGreat.Ring.az.drop (R4 Fr w ok f hm hml now) fun _ _ h=>Dd h
theorem abX{S:aN}(ok:S.Ok)(now:Int):az Tryz.prog 107 [.pointer (some ⟨q,0,none⟩),.int .i64 now] Fr w [bR q S] (fun v L=>qP (S.tick now).2 (bR q (S.tick now).1) v L):=Go.Proofs.YtkgfhabealjjpaaGreat.Ring.az.drop (R7 Fr w ok now) fun _ _ h=>Dd h
theorem abV{S:aN}(ok:S.Ok)(hq:S.seq≤1000000000)(o:bB)(cl d now:Int):az Tryz.prog 93 [.pointer (some ⟨q,0,none⟩),.agg o.cells.toArray,.int .i64 cl,.int .i64 d,.int .i64 now] Fr w [bR q S] (fun v L=>yT (S.call o cl d now).2 (S.gD o cl d) (bR q (S.call o cl d now).1) v L):=Go.Proofs.YtkgfhabealjjpaaGreat.Ring.az.drop (Rx Fr w ok hq o cl d now) fun _ _ h=>De h
theorem JO{Fr:Nat→Prop}{w:World}{S:aN}(h:a8 Fr [bR q S] w):∃y,bu Fr w q (dv S y)∧∀x,S.out=some x→bu Fr w y.b (oW x):=by
 obtain⟨y,hy⟩:=h.ex
 have hs:=hy.sep
 refine⟨y,hs.aC 0 Z,fun x hx=>?_⟩
 have hb:=hs.at_ 3 rfl
 rw[hx] at hb
 exact hb.aC 0 rfl
theorem N6{S:aN}(ok:S.Ok)(h:a8 Fr [bR q S] w):az Tryz.prog 67 [.pointer (some ⟨q,0,none⟩)] Fr w [] (fun v L=>v=.int .i64 S.seq∧L=[]):=by
 obtain⟨y,h1,_⟩:=JO h
 exact R2 Fr w ok h1
theorem ab3{S:aN}(ok:S.Ok)(h:a8 Fr [bR q S] w):az Tryz.prog 65 [.pointer (some ⟨q,0,none⟩)] Fr w [] (fun v L=>v=Gm S.outcome∧L=[]):=by
 obtain⟨y,h1,h2⟩:=JO h
 exact RW Fr w ok h1 h2
end
theorem XN{α:Type}{l:List α}{k:Nat}{x:α}(h:l[k]?=some x):l.set k x=l:=by
 apply pN
 intro j
 rw[vZ]
 split
 ·rename_i e;subst e
  rw[if_pos (bY.1 h).1,h]
 ·rfl
end Cl
namespace Cl
open Go Vg T Api Ch Rep Conf Lg Rd
attribute [local irreducible] VO VC VA
abbrev jy:TypeId:=37
def cB.cells(s:cB):List Value:=[.int .i64 s.kind,.int .i64 s.a,.int .i64 s.b,.int .i64 s.c]++s.op.cells
theorem Sa(C:al)(c:Int):C.dead c=if 1099511627776<C.now+(if 1099511627776<(if c<0 then 0 else c) then 1099511627776 else (if c<0 then 0 else c)) then 1099511627776 else C.now+(if 1099511627776<(if c<0 then 0 else c) then 1099511627776 else (if c<0 then 0 else c)):=by
 unfold al.dead
 repeat' split
 all_goals omega
section
variable {p:Nat} {C:al} {b e:Nat}
theorem abE(ok:C.Ok b e)(hb:b<100000)(he:e<1000000)(s:cB):az Tryz.prog 53 [.pointer (some ⟨p,0,none⟩),.agg s.cells.toArray] Fr w [cV p C]
  (fun v L=>v=.int .i64 (C.call s).2∧L=[cV p (C.call s).1]):=by
 obtain⟨kd,sa,sx,sc,op⟩:=s
 have hcl:=ok.bg
 have hev:=ok.ev
 have hn0:=ok.n0
 have hn1:=ok.n1
 refine TF 74 Tryz.func53 Z ym aD Z Z ?_
 refine CS (CG (VG (VB (vs:=(⟨kd,sa,sx,sc,op⟩:cB).cells) Z fun sb=>VO.bJ 1 Z (ba.sn p C) ?_)))
 rintro y fit
 have hln:=uS fit
 refine VO.ah (L':=pt sb (⟨kd,sa,sx,sc,op⟩:cB).cells jy::eY p C y) (IP 10 Z aa.refl).ah ?_
 refine ae ?_
 refine CD (ts 0 13 .nil) ym yr ?_
 refine fK ?_
 by_cases h0:sa<0
 ·have hc:C.du sa=none:=by unfold al.du;rw[if_pos h0]
  have hr:C.call ⟨kd,sa,sx,sc,op⟩=(C,4):=by unfold al.call;dsimp only;rw[hc]
  refine AG (AY 12 true Z (DT h0) ?_)
  refine ju ?_
  refine uD ?_
  exact PL
 obtain⟨k,rfl⟩:∃k:Nat,sa=k:=⟨sa.toNat,by omega⟩
 refine AG (AY 12 false Z (DF h0) ?_)
 refine fK ?_
 refine CP (p:=(y.cr.length:Int)≤k) Z (fun h1=>?_) (fun h1=>CK ?_)
 ·have hc:C.du (k:Int)=none:=by
   unfold al.du
   rw[if_neg h0,dZ,lO yd]
  have hr:C.call ⟨kd,k,sx,sc,op⟩=(C,4):=by unfold al.call;dsimp only;rw[hc]
  refine ae ?_
  exact PL
 have hk:k<y.cr.length:=by omega
 have hx2:y.cr[k]?=some y.cr[k]:=GE hk
 generalize y.cr[k]=z at hx2
 obtain⟨q,x⟩:=z
 obtain⟨hcx,hcs⟩:=zj fit hx2
 have hm:x∈C.bg:=ME hcs
 have hsq:=ok.seq x hm
 have okx:=ok.lC x hm
 have okc:=okx.call op sx (C.dead sc) C.now
 have hrc:=ok.rc
 have fw:fH (x.call op sx (C.dead sc) C.now).2:=aN.Rs x op sx (C.dead sc) C.now
 have hr0:x.gD op sx (C.dead sc)≠0→C.call ⟨kd,k,sx,sc,op⟩=(C,x.gD op sx (C.dead sc)):=fun h=>by
  unfold al.call;dsimp only;rw[hcx];dsimp only;rw[if_pos h]
 have hr1:x.gD op sx (C.dead sc)=0→C.call ⟨kd,k,sx,sc,op⟩=(({ C.gR k (x.call op sx (C.dead sc) C.now).1 with his:=C.his.call k (x.call op sx (C.dead sc) C.now).1.seq op,aB:=bD (32+k) C.aB (x.call op sx (C.dead sc) C.now).2 }:al),0):=fun h=>by
  unfold al.call;dsimp only;rw[hcx];dsimp only;rw[if_neg cN];rfl
 refine CS (CD (ts 0 9 .nil) ym yr ?_)
 refine fK ?_
 refine AG (AI Z (fp k Z Z Z Z Z Z hk) ?_)
 refine AG (yE Z Z Z (ax.one 5 Z (zk hx2)) ?_)
 refine fK ?_
 refine CS (CD (ts 0 11 .nil) ym yr ?_)
 refine fK ?_
 refine rM ?_
 refine fK ?_
 refine CN (L':=pt sb (⟨kd,k,sx,sc,op⟩:cB).cells jy::bR q x::tJ p C y k C.aB C.his) (aa.cons (ES hx2)).ah ?_
 refine ae ?_
 refine CD (ts 0 10 (.only 10 (ts 11 5 .nil))) ym yr ?_
 refine jt ?_
 refine AG (VA.dQ 0 op.cells Z Z Z Z Z ?_)
 refine jt ?_
 refine AG (AQ 1 Z (fun Fr w hF hs hS=>abV Fr w okx yd op sx (C.dead sc) C.now) Z (by rw[Sa];rfl) oY ?_ ?_)
 ·rintro _ _ ⟨X,a,c,hX,rfl,rfl⟩
  exact IG
 rintro _ _ ⟨X,a,c,hX,rfl,rfl⟩
 refine jt ?_
 refine ae ?_
 refine VC.dH Z (fun k1=>?_) (fun k1=>CK ?_)
 ·refine ae ?_
  refine CR (aq.tmp 4 Z Z (aa.tail.trans (ET (R:=[]) fit hx2)).ah ⟨by rw[hr0 k1],?_⟩)
  rw[hr0 k1,(wA rfl k1).1]
  have:C.gR (k:Int) x=C:=by unfold al.gR;rw[dZ,XN hcs]
  rw[this]
 have hr:=hr1 s_
 have hss:=JD x op sx (C.dead sc) C.now
 generalize x.call op sx (C.dead sc) C.now=X2 at hX okc fw hr hss
 obtain⟨x',S'⟩:=X2
 dsimp only at hX okc fw hr hss ⊢
 refine CS (CD (ts 0 7 (ts 8 2 (.only 7 (.only 10 .nil)))) ym yr ?_)
 refine jt ?_
 refine AG (VA.dQ 0 op.cells Z Z Z Z Z ?_)
 refine AG (AR (fun Fr w hF hw hS=>N6 Fr w okc (((hS.at_ 1 Z).sep).at_ 0 Z)) Z Z IG ?_)
 refine AG (AQ 8 Z (fun Fr w hF hs hS=>TG Fr w ok.his yd k x'.seq op) Z Z (ψ:=fun v H=>v=.int .i64 (C.his.gD k x'.seq op)∧H=jz y.hp (C.his.call k x'.seq op)) yy ?_ ?_)
 ·rintro _ _ ⟨rfl,rfl⟩
  exact IG
 rintro _ _ ⟨rfl,rfl⟩
 refine jt ?_
 refine gK ?_
 refine VG (VP Z Z f_ f_ ?_)
 refine gK ?_
 refine VG (VQ 7 Z (fun Fr w hF hs hS=>pD Fr w (hS.aC 2 Z) ok.aB (32+k) (mG.at_ 1 hS Z hX fw)) Z (ψ:=fun v H=>v=.tuple #[]∧H=de y.lp (bD (32+k) C.aB (X.map Prod.fst))) yy ?_)
 rintro _ _ ⟨rfl,rfl⟩
 refine gK ?_
 rw[hX]
 exact CR (aq.tmp 4 Z Z ((aa.tail (H:=pt sb _ jy)).trans (ET (p:=p) (R:=[]) (s':=x') (hi:=C.his.call k x'.seq op) (l:=bD (32+k) C.aB S') (a:=a) (c:=c) (X:=X) fit hx2)).ah ⟨by rw[hr],by rw[hr]⟩)
end
end Cl
namespace Cl
open Go Vg T Api Ch Rep Conf Lg Rd
attribute [local irreducible] VO VC VA
section
variable {p:Nat} {C:al} {b e:Nat}
theorem fold_succ{α:Type}(f:α→Nat→α)(x:α)(k:Nat):(List.range (k+1)).foldl f x=f ((List.range k).foldl f x) k:=by
 rw[v8,Bp];rfl
theorem NK(C:al)(n:Nat):(C.bA n).nodes.length=C.nodes.length∧(C.bA n).bg=C.bg∧(C.bA n).now=C.now∧(C.bA n).cP=C.cP∧(C.bA n).done=C.done:=by
 unfold al.bA
 split
 ·exact xS
 ·exact⟨iB,Z,Z,Z,Z⟩
theorem abe(C:al)(n:Nat):(C.eV n).bg.length=C.bg.length∧(C.eV n).nodes=C.nodes∧(C.eV n).now=C.now∧(C.eV n).cP=C.cP∧(C.eV n).done=C.done:=by
 unfold al.eV
 split
 ·exact xS
 ·exact⟨iB,Z,Z,Z,Z⟩
theorem abT(ok:C.Ok b e):az Tryz.prog 57 [.pointer (some ⟨p,0,none⟩)] Fr w [cV p C]
  (fun v L=>v=.tuple #[]∧L=[cV p C.tick]):=by
 have hcl:=ok.bg
 have hnd:=ok.Gb
 have hn0:=ok.n0
 have hn1:=ok.n1
 refine TF 58 Tryz.func57 Z ym aD Z Z ?_
 refine Be ?_
 rintro y fit
 refine Il ?_
 have hln:=uS fit
 have hnn:=xg fit
 have hmin:min (C.now+1) 1099511627776=if 1099511627776<C.now+1 then 1099511627776 else C.now+1:=by split<;>omega
 generalize hC1:({ C with now:=min (C.now+1) 1099511627776 }:al)=C1
 have ok1:C1.Ok b e:=hC1▸ok.at_
 have fit1:fM C1 y:=hC1▸⟨fit.nr,fit.cr,fit.qc⟩
 have hnn1:C1.nodes.length=C.nodes.length:=by rw[←hC1]
 have hcc1:C1.bg.length=C.bg.length:=by rw[←hC1]
 refine jJ ?_
 refine VG (VO.st 0 (cs':=je C1 y) Z Z Z Z (by show 12<19;omega) (by rw[←hC1,hmin];rfl) Z ?_)
 refine VO.ah (L':=eY p C1 y) (aa.of_eq (by rw[←hC1];rfl)).ah ?_
 refine aj ?_
 have hT:C.tick=(List.range C1.bg.length).foldl al.eV ((List.range C1.nodes.length).foldl al.bA C1):=by
  unfold al.tick
  dsimp only
  rw[hC1,←hnn1]
  have:∀(k:Nat),((List.range k).foldl al.bA C1).bg.length=C1.bg.length:=by
   intro k
   induction k with
   | zero=>rfl
   | succ k ih=>rw[fold_succ,(NK _ _).2.1,ih]
  rw[this]
 refine VC.loop (σ:=Nat×List lx) (fun s=>[(0,pV p),(18,.slice (some ⟨y.nb,0,none⟩) y.nr.length y.nc),(19,.int .i64 y.nr.length),(20,.int .i64 (s.1:Int))])
  (fun s=>eY p ((List.range s.1).foldl al.bA C1) { y with nr:=s.2 })
  (fun s=>s.1≤y.nr.length∧s.2.length=y.nr.length∧fM ((List.range s.1).foldl al.bA C1) { y with nr:=s.2 }) (fun s=>y.nr.length-s.1) (0,y.nr)
  ⟨bU _,rfl,fit1⟩ aP ER ?_
 rintro⟨k,nr⟩ ⟨hk0,hnl,fk⟩
 dsimp only at hk0 hnl fk
 have okk:=ok1.xD (List.range k)
 have hsu:=fold_succ al.bA C1 k
 generalize hD:(List.range k).foldl al.bA C1=D at okk hsu fk
 refine ae ?_
 refine CP (p:=(k:Int)<y.nr.length) Z (fun h1=>CK ?_) (fun h1=>CX ?_)
 ·have hkl:k<nr.length:=by omega
  have hx2:nr[k]?=some nr[k]:=GE hkl
  generalize nr[k]=z at hx2
  obtain⟨hnx,hns⟩:=xf fk (k:=k) (x:=z) hx2
  refine pL ?_
  refine VG (VO.load Z Z (ax.one 3 Z (ru hx2)) ?_)
  cases z with
  | none=>
   have e1:D.bA k=D:=by unfold al.bA;rw[hns];rfl
   refine qG ?_
   refine fL ?_
   exact⟨(k+1,nr),⟨by dsimp only;omega,hnl,by rw[hsu,e1];exact fk⟩,by dsimp only;omega,SC Z (SC Z (SC Z (Sub.int Z yd (SN _)))),by dsimp only;rw[hsu,e1];exact ER⟩
  | some z=>
   obtain⟨q,r⟩:=z
   have hm:some r∈D.nodes:=ME hns
   have e1:D.bA k=({ D.setNode k (some (gY r).1) with aB:=bD k D.aB (ek (gY r).2) }:al):=by unfold al.bA;rw[hns];rfl
   have fw:fH (ek (gY r).2):=fH.of (by have:=AL r;omega)
   show VO _ _ _ _ (bX (some 24) (.pointer (some ⟨q,0,none⟩)) _) _ _
   refine ae ?_
   refine mz ?_
   refine CN (L':=bp q r::tM p D { y with nr:=nr } k D.aB) (Ga hx2).ah ?_
   refine dz ?_
   refine VG (VQ 0 Z (fun Fr w hF hs hS=>ab6 Fr w (okk.fit r hm).ok D.now) Z oY ?_)
   rintro _ _ ⟨X,a,c,hX,rfl,rfl⟩
   refine dz ?_
   refine VG (VQ 6 Z (fun Fr w hF hs hS=>pD Fr w (hS.aC 1 Z) okk.aB k (mG.at_ 0 hS Z hX fw)) Z (ψ:=fun v H=>v=.tuple #[]∧H=de y.lp (bD k D.aB (X.map Prod.fst))) yy ?_)
   rintro _ _ ⟨rfl,rfl⟩
   rw[hX]
   refine fL ?_
   refine⟨(k+1,nr.set k (some (q,(gY r).1))),⟨by dsimp only;omega,by dsimp only;rw[iB];exact hnl,by dsimp only;rw[hsu,e1];exact F9 fk k (some (q,(gY r).1)) _⟩,by dsimp only;omega,SC Z (SC Z (SC Z (Sub.int Z yd (SN _)))),?_⟩
   dsimp only
   rw[hsu,e1]
   exact(aa.trans vv (Me (y:={ y with nr:=nr }) (r':=(gY r).1) (l:=bD k D.aB (ek (gY r).2)) hx2)).ah
 have hkn:k=C1.nodes.length:=by omega
 rw[hkn] at hD
 rw[hD] at hT
 clear hsu
 subst hkn
 have hDc:D.bg.length=C1.bg.length:=by have h:=uS fk;dsimp only at h;omega
 refine aj ?_
 refine VC.loop (σ:=Nat×List nQ) (fun s=>[(0,pV p),(40,.slice (some ⟨y.cb,0,none⟩) y.cr.length y.cc),(41,.int .i64 y.cr.length),(42,.int .i64 (s.1:Int))])
  (fun s=>eY p ((List.range s.1).foldl al.eV D) { y with nr:=nr,cr:=s.2 })
  (fun s=>s.1≤y.cr.length∧s.2.length=y.cr.length∧fM ((List.range s.1).foldl al.eV D) { y with nr:=nr,cr:=s.2 }) (fun s=>y.cr.length-s.1) (0,y.cr)
  ⟨bU _,rfl,fk⟩ aP ER ?_
 rintro⟨k,cr⟩ ⟨hk0,hcr,fk⟩
 dsimp only at hk0 hcr fk
 have okk:=okk.xC (List.range k)
 have hsu:=fold_succ al.eV D k
 generalize hE:(List.range k).foldl al.eV D=E at okk hsu fk
 refine ae ?_
 refine CP (p:=(k:Int)<y.cr.length) Z (fun h1=>CK ?_) (fun h1=>CX ?_)
 rotate_left
 ·have hkn:k=C1.bg.length:=by omega
  have:C.tick=E:=by rw[hT,←hE,hkn]
  exact aq.void Z (nZ (R:=[]) fk).ah ⟨rfl,by rw[this]⟩
 have hkl:k<cr.length:=by omega
 have hx2:cr[k]?=some cr[k]:=GE hkl
 generalize cr[k]=z at hx2
 obtain⟨q,s⟩:=z
 obtain⟨hnx,hns⟩:=zj fk (k:=k) (x:=(q,s)) hx2
 have hm:s∈E.bg:=ME hns
 have e1:E.eV k=({ E.gR k (s.tick E.now).1 with aB:=bD (32+k) E.aB (s.tick E.now).2,his:=E.his }:al):=by unfold al.eV;rw[hns];rfl
 have fw:fH (s.tick E.now).2:=aN.AL s E.now
 refine pL ?_
 refine VG (VO.load Z Z (ax.one 4 Z (zk hx2)) ?_)
 refine ae ?_
 refine pF ?_
 refine VO.ah (L':=bR q s::tJ p E { y with nr:=nr,cr:=cr } k E.aB E.his) (ES hx2).ah ?_
 refine dz ?_
 refine VG (VQ 0 Z (fun Fr w hF hs hS=>abX Fr w (okk.lC s hm) E.now) Z oY ?_)
 rintro _ _ ⟨X,a,c,hX,rfl,rfl⟩
 refine dz ?_
 refine VG (VQ 6 Z (fun Fr w hF hs hS=>pD Fr w (hS.aC 1 Z) okk.aB (32+k) (mG.at_ 0 hS Z hX fw)) Z (ψ:=fun v H=>v=.tuple #[]∧H=de y.lp (bD (32+k) E.aB (X.map Prod.fst))) yy ?_)
 rintro _ _ ⟨rfl,rfl⟩
 rw[hX]
 refine fL ?_
 refine⟨(k+1,cr.set k (q,(s.tick E.now).1)),⟨by dsimp only;omega,by dsimp only;rw[iB];exact hcr,by dsimp only;rw[hsu,e1];exact JK fk k (q,(s.tick E.now).1) _ _⟩,by dsimp only;omega,SC Z (SC Z (SC Z (Sub.int Z yd (SN _)))),?_⟩
 dsimp only
 rw[hsu,e1]
 exact(aa.trans vv (JL (y:={ y with nr:=nr,cr:=cr }) (s':=(s.tick E.now).1) (l:=bD (32+k) E.aB (s.tick E.now).2) (hi:=E.his) hx2)).ah
end
end Cl
end Go.Proofs.YtkgfhabealjjpaaGreat
