/- Texts of the proof, put together and shortened. No condition. -/
import Derived.Test.YtkgfhabealjjpaaGreatDoorZi2
set_option maxRecDepth 100000
set_option maxHeartbeats 16000000
set_option linter.unusedVariables false
set_option linter.unusedSectionVars false
set_option linter.unusedSimpArgs false
namespace Go.Proofs.YtkgfhabealjjpaaGreatDoor
variable (Fr : Nat → Prop) (w : World)
namespace Rep
open Go Vg T Api Kv Ch Lg Rd Win Adm
attribute [local irreducible] VO VC VA
abbrev cm:=Int×aB
def kP:jk:=(none,0,0)
def rV(s:cm):List Value:=.int .i64 s.1::cF s.2 kP
abbrev gk:TypeId:=190
abbrev CO:TypeId:=197
abbrev cT:TypeId:=120
def xm(b:Nat)(S:List cm)(x:Option Addr×Nat):List HP:=[pt b [.slice x.1 S.length x.2] CO,aq gk 30 x.1 S.length x.2 (flat rV S)]
def aZ(b:Nat)(S:List cm):HP:=hex fun x=>bF (xm b S x)
theorem bd.out(b:Nat)(S:List cm):bd (ι:=Option Addr×Nat) (aZ b S) (fun _=>True) (fun x=>xm b S x):=fun w ids ⟨x,h⟩ hn=>⟨x,trivial,ids,h,hn,fun _ h=>h⟩
theorem aa.out{b:Nat}{S:List cm}{L M:List HP}(x:Option Addr×Nat)(h:aa L (xm b S x++M)):aa L (aZ b S::M):=
 aa.ex (f:=fun x=>bF (xm b S x)) x (aa.sep (Ls:=xm b S x) h)
def dV(b:Nat):Value:=f_ 96 [.pointer (some ⟨b,0,none⟩)] []
theorem sG(b:Nat)(S:List cm)(hS:S.length≤1000000)(to_:Int)(f:aB):ax Tryz.prog 96 [.pointer (some ⟨b,0,none⟩),.int .i64 to_,.agg (cF f kP).toArray] Fr w [aZ b S] (fun v L=>v=.tuple #[]∧L=[aZ b (S ++ [(to_,f)])]):=by
 refine TF 18 Tryz.func96 Z yp aC Z Z ?_
 refine CS (CG (VG (VB (vs:=cF f kP) Z fun fb=>VG (VN ?_))))
 refine VC.bz 1 Z (bd.out b S) ?_
 rintro⟨a,c⟩ -
 show VC _ _ _ [pt b [.slice a S.length c] CO,aq gk 30 a S.length c (flat rV S),pt fb (cF f kP) cq] _
 refine CD (ts 0 8 (.only 8 (.only 9 (ts 10 2 (.only 12 .nil))))) yp yr ?_
 refine bp ?_
 refine AG (VA.dE 2 (cF f kP) Z Z Z Z Z ?_)
 refine AG (AI Z (LB (pv:=[(0,.int .i64 to_),(1,.agg (cF f kP).toArray)]) (rV (to_,f)) Z Z Z yp Z) ?_)
 refine AG (AO (aK.buildSlice (n:=1) (pv:=[(0,.agg (rV (to_,f)).toArray)]) (cells:=rV (to_,f)) Z Z Z Z yy (eY Z Z Z)) Z ?_ ?_)
 ·rintro _ _ ⟨nb,rfl,rfl⟩
  exact yu
 rintro _ _ ⟨nb,rfl,rfl⟩
 refine AG (AO (aK.append (m:=1) (news:=rV (to_,f)) 2 Z Z Z Z Z Z Z (dm.pt 0 Z Z Z) Z (kk (k:=1000001) yg yy) yg) Z ?_ ?_)
 ·rintro _ _ ⟨a1,c1,rfl,hc1,rfl⟩
  exact yu
 rintro _ _ ⟨a1,c1,rfl,hc1,rfl⟩
 refine iB ?_
 refine AG (VA.st 2 (cs':=[.slice a1 (S.length+1) c1]) Z Z Z Z Z (g_ Z) Z Z yu ?_)
 refine iB ?_
 refine an.void Z (aa.out (S:=S ++ [(to_,f)]) (a1,c1) ?_).aj ⟨rfl,Z⟩
 unfold xm
 rw[a8,fu,lz,sM,br]
 exact(bb [2,0])
structure ay where
 id:Int
 bK:Int
 cap:Int
 iu:Int
 ch:aV
 since:Int
 whole:Bool
 log:List bf
 au:bJ
 aR:aO
 aQ:eW
 start:Int
 base:Int
 linked:Bool
 dQ:Int
structure nh where
 a:Option Addr
 c:Nat
 lp:Nat
 wp:Nat
 ap:Nat
 rp:Nat
def bu(R:ay)(x:nh):List Value:=[.int .i64 R.id,.int .i64 R.bK,.int .i64 R.cap,.int .i64 R.iu,.int .i64 R.ch.ar,.slice x.a R.ch.ms.length x.c,.int .i64 R.ch.drain,.int .i64 R.since,.bool R.whole,
 .pointer (some ⟨x.lp,0,none⟩),.pointer (some ⟨x.wp,0,none⟩),.pointer (some ⟨x.ap,0,none⟩),.pointer (some ⟨x.rp,0,none⟩),.int .i64 R.start,.int .i64 R.base,.bool R.linked,.int .i64 R.dQ]
def vE(p:Nat)(R:ay)(x:nh):List HP:=[pt p (bu R x) cT,aq aP 2 x.a R.ch.ms.length x.c (flat aD R.ch.ms),bL x.lp R.log,bA x.wp R.au,bj x.ap R.aR,bC x.rp R.aQ]
def bo(p:Nat)(R:ay):HP:=hex fun x=>bF (vE p R x)
theorem bd.rep(p:Nat)(R:ay):bd (ι:=nh) (bo p R) (fun _=>True) (fun x=>vE p R x):=fun w ids ⟨x,h⟩ hn=>⟨x,trivial,ids,h,hn,fun _ h=>h⟩
theorem aa.rep{p:Nat}{R:ay}{L M:List HP}(x:nh)(h:aa L (vE p R x++M)):aa L (bo p R::M):=
 aa.ex (f:=fun x=>bF (vE p R x)) x (aa.sep (Ls:=vE p R x) h)
structure gD(Fr:Nat→Prop)(w:World)(p:Nat)(R:ay)(x:nh):Prop where
 aA:bq Fr w p (bu R x)
 mem:aT aD 2 Fr w x.a R.ch.ms
 log:a_ Fr [bL x.lp R.log] w
 au:bq Fr w x.wp R.au.cells
 aR:a_ Fr [bj x.ap R.aR] w
 aQ:a_ Fr [bC x.rp R.aQ] w
theorem gD.oV{Fr:Nat→Prop}{w:World}{L:List HP}{p:Nat}{R:ay}{x:nh}(h:a_ Fr L w)(i:Nat)(h0:L[i]?=some (pt p (bu R x) cT))(h1:L[i+1]?=some (aq aP 2 x.a R.ch.ms.length x.c (flat aD R.ch.ms)))
  (h2:L[i+2]?=some (bL x.lp R.log)) (h3:L[i+3]?=some (bA x.wp R.au)) (h4:L[i+4]?=some (bj x.ap R.aR)) (h5:L[i+5]?=some (bC x.rp R.aQ)):gD Fr w p R x:=
 ⟨h.aA i h0,aT.aq cu (h.at_ _ h1),h.at_ _ h2,h.aA _ h3,h.at_ _ h4,h.at_ _ h5⟩
theorem gD.xk{Fr:Nat→Prop}{w:World}{p:Nat}{R:ay}(h:a_ Fr [bo p R] w):∃x,gD Fr w p R x:=by
 obtain⟨x,h⟩:=h.ex
 exact⟨x,gD.oV h.sep 0 Z Z Z Z Z Z⟩
theorem gD.of{X:Cx}{p:Nat}{R:ay}{x:nh}(h:gD X.Fr X.w0 p R x){Fr':Nat→Prop}{w:World}{L:List HP}(hF:∀b,X.Fr b→Fr' b)(hs:St X L w):gD Fr' w p R x:=
 ⟨h.aA.of hF hs,aT.of h.mem hF hs,h.log.of hF hs,h.au.of hF hs,h.aR.of hF hs,h.aQ.of hF hs⟩
structure lW(c:aV):Prop where
 len:c.ms.length≤1000
section
variable {p:Nat} {R:ay} {x:nh} {b:Nat} {S:List cm}
theorem vn(h:bq Fr w p (bu R x)):ax Tryz.prog 67 [.pointer (some ⟨p,0,none⟩)] Fr w [] (fun v L=>v=.bool true∧L=[]):=by
 refine TF 12 Tryz.func67 Z yp aC Z Z ?_
 refine al ?_
 refine VG (VO.split 5 rfl rfl (fun _=>?_) (fun h=>by cases h))
 refine ow ?_
 exact xQ
def ay.qy(R:ay):Bool:=decide (0<R.since)
theorem KF(h:bq Fr w p (bu R x)):ax Tryz.prog 151 [.pointer (some ⟨p,0,none⟩)] Fr w [] (fun v L=>v=.bool R.qy∧L=[]):=by
 refine TF 8 Tryz.func151 Z yp aC Z Z ?_
 refine ow ?_
 exact xQ
def ay.iZ(R:ay)(f:aB):Bool:=f.ar == R.ch.ar
theorem KL(h:bq Fr w p (bu R x))(f:aB)(m:jk):ax Tryz.prog 182 [.pointer (some ⟨p,0,none⟩),.agg (cF f m).toArray] Fr w [] (fun v L=>v=.bool (R.iZ f)∧L=[]):=by
 refine TF 13 Tryz.func182 Z yp aC Z Z ?_
 refine CS (CG (VG (VB (vs:=cF f m) Z fun fb=>VG (VN ?_))))
 refine CS (CD (ts 0 9 .nil) yp yr ?_)
 refine D6 ?_
 exact CR (an.bool 4 Z Z Z aa.nil.aj ⟨rfl,Z⟩)
def oP(from_ nb:Int):Bool:=decide (0≤nb)&&(from_ == nb)
theorem FV(f n:Int):ax Tryz.prog 183 [.int .i64 f,.int .i64 n] Fr w [] (fun v L=>v=.bool (oP f n)∧L=[]):=by
 refine TF 12 Tryz.func183 Z yp aC Z Z ?_
 refine al ?_
 by_cases h1:0≤n
 ·refine VG (VY 7 true Z (DT h1) ?_)
  refine bG ?_
  exact CR (an.bool 4 Z Z (by rw[oP,DT h1];rfl) ER ⟨rfl,Z⟩)
 ·refine VG (VY 7 false Z (DF h1) ?_)
  refine bG ?_
  exact CR (an.bool 4 Z Z (by rw[oP,DF h1];rfl) ER ⟨rfl,Z⟩)
def ay.mR(R:ay):Int:=Ao R.ch R.id
def ay.dX(R:ay):Int:=CI R.ch R.id
theorem C0(h:bq Fr w p (bu R x))(hm:aT aD 2 Fr w x.a R.ch.ms)(hc:lW R.ch):ax Tryz.prog 184 [.pointer (some ⟨p,0,none⟩)] Fr w [] (fun v L=>v=.int .i64 R.mR∧L=[]):=by
 have hcl:=hc.len
 refine TF 12 Tryz.func184 Z yp aC Z Z ?_
 refine jz ?_
 refine CS (CD (ts 0 8 (.only 8 (.take 9 .nil))) yp yr ?_)
 refine r5 ?_
 refine D7 ?_
 refine r5 ?_
 refine AG (AR (fun Fr w hF hs hS=>Ch.C0 Fr w (hm.of hF hs) yg R.id) Z Z Eu ?_)
 refine bp ?_
 exact o_
theorem sU(h:bq Fr w p (bu R x))(hm:aT aD 2 Fr w x.a R.ch.ms)(hc:lW R.ch):ax Tryz.prog 159 [.pointer (some ⟨p,0,none⟩)] Fr w [] (fun v L=>v=.int .i64 R.dX∧L=[]):=by
 have hcl:=hc.len
 refine TF 12 Tryz.func159 Z yp aC Z Z ?_
 refine jz ?_
 refine CS (CD (ts 0 8 (.only 8 (.take 9 .nil))) yp yr ?_)
 refine r5 ?_
 refine D7 ?_
 refine r5 ?_
 refine AG (AR (fun Fr w hF hs hS=>Ch.sU Fr w (hm.of hF hs) yg R.id) Z Z Eu ?_)
 refine bp ?_
 exact o_
def ay.oa(R:ay):Bool:=R.qy&&(t_ R.ch == R.id)
def ay.vK(R:ay):Bool:=R.qy&&(vL R.ch == R.id)
def ay.jo(R:ay):Bool:=R.qy&&(R.ch.drain == R.id)
theorem zP(h:bq Fr w p (bu R x))(hm:aT aD 2 Fr w x.a R.ch.ms)(hc:lW R.ch):ax Tryz.prog 99 [.pointer (some ⟨p,0,none⟩)] Fr w [] (fun v L=>v=.bool R.oa∧L=[]):=by
 have hcl:=hc.len
 refine TF 17 Tryz.func99 Z yp aC Z Z ?_
 refine jz ?_
 refine Ol ?_
 refine HR ?_
 refine bp ?_
 cases hi:R.qy with
 | true=>
  refine AG (AY 5 true Z Z ?_)
  refine uD ?_
  refine D7 ?_
  refine uD ?_
  refine AG (AR (fun Fr w hF hs hS=>Ch.zP Fr w (hm.of hF hs) yg) Z Z Eu ?_)
  refine cW ?_
  exact CR (an.bool 2 Z Z (by rw[ay.oa,hi];rfl) ER ⟨rfl,Z⟩)
 | false=>
  refine AG (AY 5 false Z Z ?_)
  refine uD ?_
  refine EA ?_
  exact CR (an.bool 2 Z Z (by rw[ay.oa,hi];rfl) ER ⟨rfl,Z⟩)
theorem AJ(h:bq Fr w p (bu R x))(hm:aT aD 2 Fr w x.a R.ch.ms)(hc:lW R.ch):ax Tryz.prog 227 [.pointer (some ⟨p,0,none⟩)] Fr w [] (fun v L=>v=.bool R.vK∧L=[]):=by
 have hcl:=hc.len
 refine TF 17 Tryz.func227 Z yp aC Z Z ?_
 refine jz ?_
 refine Ol ?_
 refine HR ?_
 refine bp ?_
 cases hi:R.qy with
 | true=>
  refine AG (AY 5 true Z Z ?_)
  refine uD ?_
  refine D7 ?_
  refine uD ?_
  refine AG (AR (fun Fr w hF hs hS=>Ch.AJ Fr w (hm.of hF hs) yg) Z Z Eu ?_)
  refine cW ?_
  exact CR (an.bool 2 Z Z (by rw[ay.vK,hi];rfl) ER ⟨rfl,Z⟩)
 | false=>
  refine AG (AY 5 false Z Z ?_)
  refine uD ?_
  refine EA ?_
  exact CR (an.bool 2 Z Z (by rw[ay.vK,hi];rfl) ER ⟨rfl,Z⟩)
theorem B1(h:bq Fr w p (bu R x)):ax Tryz.prog 100 [.pointer (some ⟨p,0,none⟩)] Fr w [] (fun v L=>v=.bool R.jo∧L=[]):=by
 refine TF 17 Tryz.func100 Z yp aC Z Z ?_
 refine jz ?_
 refine CS (CD (.take 0 (.only 1 (ts 2 13 .nil))) yp yr ?_)
 refine HR ?_
 refine bp ?_
 cases hi:R.qy with
 | true=>
  refine AG (AY 5 true Z Z ?_)
  refine uD ?_
  exact CR (an.bool 2 Z Z (by rw[ay.jo,hi];rfl) ER ⟨rfl,Z⟩)
 | false=>
  refine AG (AY 5 false Z Z ?_)
  refine uD ?_
  exact CR (an.bool 2 Z Z (by rw[ay.jo,hi];rfl) ER ⟨rfl,Z⟩)
end
end Rep
namespace Rep
open Go Vg T Api Kv Ch Lg Rd Win Adm
attribute [local irreducible] VO VC VA
def ot(aL seq bD:Int)(r:ik):aB:={ aB.zero with kind:=2,aL:=aL,seq:=seq,bD:=bD,res:=r }
def jb(ar:Int)(f:aB)(reason:Int):aB:={ aB.zero with kind:=3,ar:=ar,aL:=f.aL,seq:=f.seq,bD:=f.bD,reason:=reason }
def BH(ar i g h:Int):aB:={ aB.zero with kind:=5,ar:=ar,index:=i,tZ:=g,dQ:=h }
def zp(ar i:Int):aB:={ aB.zero with kind:=6,ar:=ar,index:=i }
def tO(ar i:Int):aB:={ aB.zero with kind:=11,ar:=ar,index:=i }
section
variable {p:Nat} {R:ay} {x:nh} {b:Nat} {S:List cm}
theorem G8(hS:S.length≤1000000)(aL seq bD:Int)(hc0:0≤aL)(hc1:aL≤1000000)(r:ik):ax Tryz.prog 189 [.int .i64 aL,.int .i64 seq,.int .i64 bD,.agg (bg r).toArray,dV b] Fr w [aZ b S]
  (fun v L=>v=.tuple #[]∧L=[aZ b (S ++ [(32+aL,ot aL seq bD r)])]):=by
 refine TF 19 Tryz.func189 Z yp aC Z Z ?_
 refine CS (CG (VG (VB (vs:=bg r) Z fun rb=>?_)))
 refine uG ?_
 refine VG (VL 0 (bg r) Z Z Z Z ?_)
 refine VG (VI (LB (pv:=[(0,.int .i64 2),(2,.int .i64 aL),(3,.int .i64 seq),(4,.int .i64 bD),(8,.agg (bg r).toArray)]) (cF (ot aL seq bD r) kP) Z Z Z yp Z) ?_)
 refine VG (VO.mH 1 Z Z (fun Fr w hF hs _=>sG Fr w b S hS (32+aL) (ot aL seq bD r)) Z (ψ:=fun v H=>v=.tuple #[]∧H=aZ b (S ++ [(32+aL,ot aL seq bD r)])) yz ?_)
 rintro _ _ ⟨rfl,rfl⟩
 refine al ?_
 exact HS
theorem vD(h:bq Fr w p (bu R x))(hS:S.length≤1000000)(f:aB)(m:jk)(hc0:0≤f.aL)(hc1:f.aL≤1000000)(reason:Int):ax Tryz.prog 98 [.pointer (some ⟨p,0,none⟩),.agg (cF f m).toArray,.int .i64 reason,dV b] Fr w [aZ b S]
  (fun v L=>v=.tuple #[]∧L=[aZ b (S ++ [(32+f.aL,jb R.ch.ar f reason)])]):=by
 refine TF 26 Tryz.func98 Z yp aC Z Z ?_
 refine CS (CG (VG (VB (vs:=cF f m) Z fun fb=>VG (VN ?_))))
 refine CD (ts 0 17 (.only 17 .nil)) yp yr ?_
 refine D6 ?_
 refine pY ?_
 refine D6 ?_
 refine AG (AI Z (LB (pv:=[(0,.int .i64 3),(1,.int .i64 R.ch.ar),(2,.int .i64 f.aL),(3,.int .i64 f.seq),(4,.int .i64 f.bD),(9,.int .i64 reason)]) (cF (jb R.ch.ar f reason) kP) Z Z Z yp Z) ?_)
 refine AG (VA.mH 1 Z Z (fun Fr w hF hs _=>sG Fr w b S hS (32+f.aL) (jb R.ch.ar f reason)) Z Z (ψ:=fun v H=>v=.tuple #[]∧H=aZ b (S ++ [(32+f.aL,jb R.ch.ar f reason)])) yz ?_ ?_)
 ·rintro _ _ ⟨rfl,rfl⟩
  exact(by(try refine Pd.st ?_);(repeat(first|exact Pd.nil|exact Pd.fnil|refine Pd.inner ?_|refine Pd.skip yr ?_|refine zf (zo 0 Z Z) ?_|refine zf (zm 0 Z Z) ?_|refine zf (aw.aA (aw.aA h Z) Z) ?_|refine zf ((aw.aA h Z)) ?_|refine zc (zo 0 Z Z) ?_|refine zc (zm 0 Z Z) ?_|refine zc (aw.aA (aw.aA h Z) Z) ?_|refine zc ((aw.aA h Z)) ?_)))
 rintro _ _ ⟨rfl,rfl⟩
 refine bp ?_
 exact HS
def ay.fR(R:ay):List cm:=if R.mR<0 then [] else [(R.mR,BH R.ch.ar R.au.done (if R.jo then R.au.last else R.au.done+R.au.cap) R.au.last)]
theorem Cg(h:gD Fr w p R x)(hc:lW R.ch)(hw:R.au.Ok)(hS:S.length≤1000000):ax Tryz.prog 162 [.pointer (some ⟨p,0,none⟩),dV b] Fr w [aZ b S] (fun v L=>v=.tuple #[]∧L=[aZ b (S++R.fR)]):=by
 have hb:=h.aA
 have w0:=hw.dO
 refine TF 42 Tryz.func162 Z yp aC Z Z ?_
 refine al ?_
 refine VG (VV (fun Fr w hF hs _=>Rep.C0 Fr w (h.of hF hs).aA (h.of hF hs).mem hc) Z ?_)
 refine al ?_
 refine CP Z (fun h1=>?_) (fun h1=>CK ?_)
 ·exact CR (an.void Z ER ⟨rfl,by rw[ay.fR,if_pos h1,br]⟩)
 refine kl ?_
 refine VG (VV (fun Fr w hF hs _=>Win.CL Fr w (h.of hF hs).au hw) Z ?_)
 refine VG (VN (CS ?_))
 refine VC.bZ (σ:=Unit) (fun _=>[(0,pV p),(1,dV b),(4,.int .i64 R.mR),(5,.int .i64 (if R.jo then R.au.last else R.au.done+R.au.cap))]) (fun _=>[aZ b S]) (fun _=>True) ?_ ?_
 ·refine al ?_
  refine VG (VV (fun Fr w hF hs _=>B1 Fr w (h.of hF hs).aA) Z ?_)
  refine al ?_
  refine CC Z (fun hd=>?_) (fun hd=>CK ?_)
  ·refine kl ?_
   refine VG (VV (fun Fr w hF hs _=>Win.qz Fr w (h.of hF hs).au w0) Z ?_)
   refine al ?_
   exact Om
  ·exact Om
 rintro _ -
 refine CD (ts 0 11 (ts 12 5 (.only 11 (.only 17 (.take 18 (.only 19 .nil)))))) yp yr ?_
 refine A0 ?_
 refine AG (AR (fun Fr w hF hs hS=>Win.zx Fr w (h.of hF hs).au w0) Z Z yx ?_)
 refine AG (AR (fun Fr w hF hs hS=>Win.qz Fr w (h.of hF hs).au w0) Z Z yx ?_)
 refine AG (AI Z (LB (pv:=[(0,.int .i64 5),(1,.int .i64 R.ch.ar),(12,.int .i64 R.au.done),(13,.int .i64 (if R.jo then R.au.last else R.au.done+R.au.cap)),(14,.int .i64 R.au.last)]) (cF (BH R.ch.ar R.au.done (if R.jo then R.au.last else R.au.done+R.au.cap) R.au.last) kP) Z Z Z yp Z) ?_)
 refine AG (VA.mH 0 Z Z (fun Fr w hF hs _=>sG Fr w b S hS R.mR (BH R.ch.ar R.au.done (if R.jo then R.au.last else R.au.done+R.au.cap) R.au.last)) Z Z (ψ:=fun v H=>v=.tuple #[]∧H=aZ b (S ++ [(R.mR,BH R.ch.ar R.au.done (if R.jo then R.au.last else R.au.done+R.au.cap) R.au.last)])) yz ?_ ?_)
 ·rintro _ _ ⟨rfl,rfl⟩
  exact yx
 rintro _ _ ⟨rfl,rfl⟩
 refine bp ?_
 exact an.void Z ER ⟨rfl,by rw[ay.fR,if_neg h1];rfl⟩
def ay.iU(R:ay):List cm:=if R.whole=true∧0≤R.dX then [(R.dX,zp R.ch.ar R.start)] else []
theorem Hp(h:gD Fr w p R x)(hc:lW R.ch)(hS:S.length≤1000000):ax Tryz.prog 163 [.pointer (some ⟨p,0,none⟩),dV b] Fr w [aZ b S] (fun v L=>v=.tuple #[]∧L=[aZ b (S++R.iU)]):=by
 have hb:=h.aA
 refine TF 28 Tryz.func163 Z yp aC Z Z ?_
 refine al ?_
 refine VG (VV (fun Fr w hF hs _=>Rep.sU Fr w (h.of hF hs).aA (h.of hF hs).mem hc) Z ?_)
 refine kl ?_
 cases hwh:R.whole with
 | false=>
  refine VG (VY 11 false Z Z ?_)
  refine vS ?_
  refine fV ?_
  exact an.void Z ER ⟨rfl,by rw[ay.iU,if_neg (by rw[hwh];simp),br]⟩
 | true=>
  refine VG (VY 11 true Z Z ?_)
  refine vS ?_
  refine CP Z (fun h1=>?_) (fun h1=>CK ?_)
  ·refine CD (ts 0 12 (.only 12 .nil)) yp yr ?_
   refine A0 ?_
   refine AG (AI Z (LB (pv:=[(0,.int .i64 6),(1,.int .i64 R.ch.ar),(12,.int .i64 R.start)]) (cF (zp R.ch.ar R.start) kP) Z Z Z yp Z) ?_)
   refine AG (VA.mH 0 Z Z (fun Fr w hF hs _=>sG Fr w b S hS R.dX (zp R.ch.ar R.start)) Z Z (ψ:=fun v H=>v=.tuple #[]∧H=aZ b (S ++ [(R.dX,zp R.ch.ar R.start)])) yz ?_ ?_)
   ·rintro _ _ ⟨rfl,rfl⟩
    exact yx
   rintro _ _ ⟨rfl,rfl⟩
   refine bp ?_
   exact an.void Z ER ⟨rfl,by rw[ay.iU,if_pos ⟨hwh,h1⟩];rfl⟩
  ·exact an.void Z ER ⟨rfl,by rw[ay.iU,if_neg (fun h=>h1 h.2),br]⟩
def ay.nA(R:ay):List cm:=[(16,tO R.ch.ar (if R.whole then 1 else 0))]
theorem Nj(hb:bq Fr w p (bu R x))(hS:S.length≤1000000):ax Tryz.prog 161 [.pointer (some ⟨p,0,none⟩),dV b] Fr w [aZ b S] (fun v L=>v=.tuple #[]∧L=[aZ b (S++R.nA)]):=by
 refine TF 19 Tryz.func161 Z yp aC Z Z ?_
 refine kl ?_
 refine VG (VI (LB (pv:=[(0,.int .i64 11),(1,.int .i64 R.ch.ar)]) (cF (tO R.ch.ar 0) kP) Z Z Z yp Z) ?_)
 refine VG (VO.alloc Z fun fb=>?_)
 refine VG (VT (vs:=cF (tO R.ch.ar 0) kP) 0 Z Z Z Z (NR _) Z Z Z ?_)
 refine VG (VN (CS ?_))
 refine VC.bZ (σ:=Unit) (fun _=>[(1,dV b),(4,pV fb)]) (fun _=>[pt fb (cF (tO R.ch.ar (if R.whole then 1 else 0)) kP) cq,aZ b S]) (fun _=>True) ?_ ?_
 ·refine kl ?_
  refine CC Z (fun hd=>?_) (fun hd=>CK ?_)
  ·refine al ?_
   refine VG (VO.st 0 (cs':=cF (tO R.ch.ar 1) kP) Z Z Z Z (g_ Z) Z Z ?_)
   refine al ?_
   exact⟨(),trivial,aH,by rw[hd];exact ER⟩
  ·exact⟨(),trivial,aH,by rw[hd];exact ER⟩
 rintro _ -
 refine al ?_
 refine VG (VL 0 (cF (tO R.ch.ar (if R.whole then 1 else 0)) kP) Z Z Z Z ?_)
 refine VG (VO.mH 1 Z Z (fun Fr w hF hs _=>sG Fr w b S hS 16 (tO R.ch.ar (if R.whole then 1 else 0))) Z (ψ:=fun v H=>v=.tuple #[]∧H=aZ b (S++R.nA)) yz ?_)
 rintro _ _ ⟨rfl,rfl⟩
 refine al ?_
 exact HS
end
end Rep
namespace Rep
open Go Vg T Api Kv Ch Lg Rd Win Adm
attribute [local irreducible] VO VC VA
structure ay.Ok(R:ay):Prop where
 ch:lW R.ch
 au:R.au.Ok
 last:R.au.last=R.log.length
 kL:∀e∈R.log,0≤e.aL∧e.aL<6
 kM:∀e∈R.log,1≤e.index∧e.index≤R.log.length
 gU:1≤R.aQ.cap
 gA:R.aQ.cap≤16
 rl:(R.aQ.l.length:Int)≤R.aQ.cap
 kR:0≤R.aQ.last
 lM:R.aQ.last≤100000000
 kh:∀y∈R.aQ.l,0≤y.f.aL∧y.f.aL≤1000
 calls:R.aR.Calls
 wf:R.aR.Wf
theorem Tm(es:List bf)(c:Int):fT es c=(0,0)∨∃e∈es,fT es c=(e.seq,e.index)∧e.aL=c:=by
 have:∀(es:List bf) (p:Int×Int),es.foldl (w6 c) p=p∨∃e∈es,es.foldl (w6 c) p=(e.seq,e.index)∧e.aL=c:=by
  intro es
  induction es with
  | nil=>intro p;exact .inl rfl
  | cons e es ih=>
   intro p
   rw[qW]
   rcases ih (w6 c p e) with h | ⟨d,hd,h,h2⟩
   ·rw[h]
    unfold w6
    split
    ·exact .inr ⟨e,by simp,Z,by assumption⟩
    ·exact .inl rfl
   ·exact .inr ⟨d,by simp[hd],h,h2⟩
 exact this es (0,0)
theorem ay.Ok.Tr{R:ay}(h:R.Ok)(c:Int):0≤(gT R.log c).2∧(gT R.log c).2≤R.log.length:=by
 unfold gT
 split
 ·rcases Tm R.log c with h1 | ⟨e,he,h1,_⟩
  ·rw[h1];exact⟨e_ _,by simp⟩
  ·rw[h1];have:=h.kM e he;exact⟨by show 0≤e.index;omega,this.2⟩
 ·exact⟨e_ _,by simp⟩
def gg(p:Nat)(R:ay)(x:nh)(b:Nat)(S:List cm):List HP:=[pt p (bu R x) cT,aq aP 2 x.a R.ch.ms.length x.c (flat aD R.ch.ms),bL x.lp R.log,bA x.wp R.au,bj x.ap R.aR,bC x.rp R.aQ,aZ b S]
theorem nF{p:Nat}{R:ay}{x:nh}{b:Nat}{S:List cm}:aa (gg p R x b S) [bo p R,aZ b S]:=aa.rep x (bb [0,0,0,0,0,0,0])
def G7(R:ay)(i:Int):cm:=(32+((eQ R.log i).getD iI).aL,ot ((eQ R.log i).getD iI).aL ((eQ R.log i).getD iI).seq 0 ((eQ (bN R.log).2 i).getD cw))
def pP(R:ay)(k:Nat):List cm:=(List.range k).map fun j=>G7 R (R.au.done+1+(j:Nat))
def ay.ly(R:ay):List cm:=if R.vK then pP R (R.au.last-R.au.done).toNat else []
def ay.df(R:ay):ay:=if R.vK then { R with au:=R.au.jl R.au.last } else R
section
variable {p:Nat} {R:ay} {b:Nat} {S:List cm}
theorem Fw(ok:R.Ok)(hS:S.length≤900000):ax Tryz.prog 158 [.pointer (some ⟨p,0,none⟩),dV b] Fr w [bo p R,aZ b S] (fun v L=>v=.tuple #[]∧L=[bo p R.df,aZ b (S++R.ly)]):=by
 have w0:=ok.au.dO
 have d0:=ok.au.ln;have d1:=ok.au.lu;have d2:=ok.au.i_
 refine TF 62 Tryz.func158 Z yp aC Z Z ?_
 refine xY ?_
 rintro x -
 show VC _ _ _ (gg p R x b S) _
 unfold gg
 refine al ?_
 refine On ?_
 refine al ?_
 refine VC.fq Z (fun ht=>?_) (fun ht=>CK ?_)
 ·exact CR (an.void Z nF.aj ⟨rfl,by rw[ay.df,ay.ly,ht];simp⟩)
 refine al ?_
 refine Oo ?_
 refine al ?_
 refine Oq ?_
 refine al ?_
 refine VG (VQ 3 Z (fun Fr w hF hs hS=>Win.BJ Fr w ok.au R.au.last) Z (ψ:=fun v H=>v=.bool (R.au.oJ R.au.last)∧H=bA x.wp (R.au.jl R.au.last)) yz ?_)
 rintro _ _ ⟨rfl,rfl⟩
 refine jC ?_
 refine VC.loop (σ:=Nat) (fun k=>[(0,pV p),(1,dV b),(5,.int .i64 R.au.last),(6,.int .i64 (R.au.done+1+(k:Nat)))])
  (fun k=>[pt p (bu R x) cT,aq aP 2 x.a R.ch.ms.length x.c (flat aD R.ch.ms),bL x.lp R.log,bA x.wp (R.au.jl R.au.last),bj x.ap R.aR,bC x.rp R.aQ,aZ b (S++pP R k)])
  (fun k=>k≤(R.au.last-R.au.done).toNat) (fun k=>(R.au.last-R.au.done).toNat-k) 0
  (bH _) (SC rfl (SC rfl (SC rfl (Sub.int rfl yi (SN _))))) (by rw[show pP R 0=[] from rfl,br];exact ER) ?_
 intro k hk
 have hrl:(pP R k).length=k:=by simp[pP]
 refine al ?_
 refine CP Z (fun h1=>CK ?_) (fun h1=>CX ?_)
 ·obtain⟨j,e,hj1,hj2,hj3,hj4⟩:=BP (l:=R.log) (i:=R.au.done+1+(k:Nat)) yg (by have:=ok.last;omega)
  have hcl:=ok.kL e (ME hj3)
  refine al ?_
  refine VG (VV (fun Fr w hF hs hS=>Lg.zn Fr w (hS.at_ 2 Z) (R.au.done+1+(k:Nat)) yg yg) Z ?_)
  refine al ?_
  refine VG (VO.alloc Z fun eb=>?_)
  refine VG (VT (vs:=bm ((eQ R.log (R.au.done+1+(k:Nat))).getD iI)) 0 Z Z Z Z (NR _) Z Z Z ?_)
  refine dF ?_
  refine VG (VV (fun Fr w hF hs hS=>Lg.Mw Fr w (hS.at_ 3 Z) (R.au.done+1+(k:Nat)) yg yg) Z ?_)
  refine dF ?_
  refine VG (VO.alloc Z fun rb=>?_)
  refine VG (VT (vs:=bg ((eQ (bN R.log).2 (R.au.done+1+(k:Nat))).getD cw)) 0 Z Z Z Z (NR _) Z Z Z ?_)
  refine dF ?_
  refine VG (VL 0 (bg ((eQ (bN R.log).2 (R.au.done+1+(k:Nat))).getD cw)) Z Z Z Z ?_)
  refine VG (VQ 8 Z (fun Fr w hF hs hS=>G8 Fr w (by rw[a8,hrl];omega) ((eQ R.log (R.au.done+1+(k:Nat))).getD iI).aL ((eQ R.log (R.au.done+1+(k:Nat))).getD iI).seq 0 (by rw[hj4];exact hcl.1) (by rw[hj4];have:=hcl.2;show e.aL≤_;omega) ((eQ (bN R.log).2 (R.au.done+1+(k:Nat))).getD cw)) Z (ψ:=fun v H=>v=.tuple #[]∧H=aZ b (S++pP R k ++ [G7 R (R.au.done+1+(k:Nat))])) yz ?_)
  rintro _ _ ⟨rfl,rfl⟩
  refine jC ?_
  refine⟨k+1,by omega,by dsimp only;omega,SC Z (SC Z (SC Z (Sub.int Z (by push_cast;omega) (SN _)))),?_⟩
  dsimp only
  rw[show pP R (k+1)=pP R k ++ [G7 R (R.au.done+1+(k:Nat))] by simp[pP,tH],←ed]
  exact(bb [2,2,2,2,2,2,2]).aj
 ·obtain rfl:k=(R.au.last-R.au.done).toNat:=by omega
  exact an.void Z (aa.rep (R:={ R with au:=R.au.jl R.au.last }) x (IP 0 Z (IP 0 Z (IP 0 Z (IP 0 Z (IP 0 Z (IP 0 Z (IP 0 Z aa.nil)))))))).aj ⟨rfl,by rw[ay.df,ay.ly,ht];simp⟩
def ay.rj(R:ay):Bool:=R.qy&&(!R.whole&&(decide (R.base≠-1)&&decide (R.base≤R.au.last)))
def ay.iG(R:ay):ay:=if R.rj then { R with whole:=true,start:=R.au.last } else R
def ay.nR(R:ay):List cm:=if R.rj then R.iG.iU else []
theorem Jm(ok:R.Ok)(hS:S.length≤900000):ax Tryz.prog 187 [.pointer (some ⟨p,0,none⟩),dV b] Fr w [bo p R,aZ b S] (fun v L=>v=.tuple #[]∧L=[bo p R.iG,aZ b (S++R.nR)]):=by
 have w0:=ok.au.dO
 refine TF 46 Tryz.func187 Z yp aC Z Z ?_
 refine xY ?_
 rintro x -
 show VC _ _ _ (gg p R x b S) _
 refine CS (CS ?_)
 have S3:∀{E:Env} {t:Bool},Vg.look E 31=some (.bool t)→t=(!R.rj)→Vg.look E 0=some (.pointer (some ⟨p,0,none⟩))→Vg.look E 1=some (dV b)→Sub [(0,pV p),(1,dV b),(31,.bool (!R.rj))] E:=fun h0 h1 h2 h3=>SC h2 (SC h3 (Sub.bl h0 h1 (SN _)))
 refine VC.bZ (σ:=Unit) (fun _=>[(0,pV p),(1,dV b),(31,.bool (!R.rj))]) (fun _=>gg p R x b S) (fun _=>True) ?_ ?_
 ·refine CD (.take 0 (.only 1 (ts 2 19 (ts 22 4 (.only 21 (ts 26 2 .nil)))))) yp yr ?_
  refine AG (AR (fun Fr w hF hs hS=>KF Fr w (gD.oV hS 0 Z Z Z Z Z Z).aA) Z Z yu ?_)
  refine bp ?_
  cases h1:R.qy with
  | false=>
   refine AG (AY 7 true Z Z ?_)
   refine cW ?_
   refine AG (AY 13 true Z Z ?_)
   refine cW ?_
   refine AG (AY 20 true Z Z ?_)
   refine vW ?_
   exact⟨(),trivial,S3 Z (by rw[ay.rj,h1];rfl) Z Z,ER⟩
  | true=>
  refine AG (AY 7 false Z Z ?_)
  refine cW ?_
  cases h2:R.whole with
  | true=>
   refine AG (AY 13 true Z Z ?_)
   refine cW ?_
   refine AG (AY 20 true Z Z ?_)
   refine vW ?_
   exact⟨(),trivial,S3 Z (by rw[ay.rj,h1,h2];rfl) Z Z,ER⟩
  | false=>
  have q8:(bu R x)[0+8]?=some (.bool false):=by show some (Value.bool R.whole)=_;rw[h2]
  refine AG (AY 13 false Z Z ?_)
  refine cW ?_
  by_cases h3:R.base=-1
  ·refine AG (AY 20 true Z (by simp[h3]) ?_)
   refine vW ?_
   exact⟨(),trivial,S3 Z (by rw[ay.rj,h1,h2,h3];rfl) Z Z,ER⟩
  refine AG (AY 20 false Z (by simp[h3]) ?_)
  refine cW ?_
  refine AG (AR (fun Fr w hF hs hS=>Win.qz Fr w (gD.oV hS 0 Z Z Z Z Z Z).au w0) Z Z (by(try refine Pd.st ?_);(repeat(first|exact Pd.nil|exact Pd.fnil|refine Pd.inner ?_|refine Pd.skip yr ?_|refine zf (zo 0 Z Z) ?_|refine zf (zm 0 Z Z) ?_|refine zf (aw.aA (aw.one 0 Z q8) Z) ?_|refine zf ((aw.one 0 Z q8)) ?_|refine zc (zo 0 Z Z) ?_|refine zc (zm 0 Z Z) ?_|refine zc (aw.aA (aw.one 0 Z q8) Z) ?_|refine zc ((aw.one 0 Z q8)) ?_))) ?_)
  refine cW ?_
  exact⟨(),trivial,S3 Z (by
   rw[ay.rj,h1,h2,DT (show R.base≠-1 from h3)]
   by_cases h4:R.au.last<R.base
   ·rw[DT h4,DF (show ¬R.base≤R.au.last by omega)];rfl
   ·rw[DF h4,DT (show R.base≤R.au.last by omega)];rfl) rfl rfl,ER⟩
 rintro _ -
 refine VC.fq Z (fun hb=>?_) (fun hb=>CK ?_)
 ·exact CR (an.void Z nF.aj ⟨rfl,by rw[ay.iG,ay.nR,hb];simp⟩)
 have hbR:R.iG={ R with whole:=true,start:=R.au.last }:=by rw[ay.iG,hb];rfl
 have hbM:R.nR=R.iG.iU:=by rw[ay.nR,hb];rfl
 unfold gg
 refine al ?_
 refine VG (VO.st 0 (cs':=bu { R with whole:=true } x) Z Z Z Z (g_ Z) Z Z ?_)
 refine al ?_
 refine Oq ?_
 refine VG (VO.st 0 (cs':=bu { R with whole:=true,start:=R.au.last } x) Z Z Z Z (g_ Z) Z Z ?_)
 refine al ?_
 refine VG (VQ 6 Z (fun Fr w hF hs hS=>Hp (R:={ R with whole:=true,start:=R.au.last }) Fr w (gD.oV hS 0 Z Z Z Z Z Z) ok.ch yg) Z (ψ:=fun v H=>v=.tuple #[]∧H=aZ b (S++ay.iU { R with whole:=true,start:=R.au.last })) yz ?_)
 rintro _ _ ⟨rfl,rfl⟩
 refine al ?_
 exact an.void Z (nF (R:={ R with whole:=true,start:=R.au.last }) (x:=x)).aj ⟨rfl,by rw[hbM,hbR]⟩
end
end Rep
namespace Rep
open Go Vg T Api Kv Ch Lg Rd Win Adm
attribute [local irreducible] VO VC VA
def eH(R:ay)(f:aB)(now:Int):Int×ik×aO:=
 if R.aR.may f=false then (10,cw,R.aR)
 else if R.aR.wF f.aL f.seq f.bD=true then (7,cw,R.aR)
 else if R.iZ f=false then (5,cw,R.aR)
 else if R.oa=false then (4,cw,R.aR)
 else if R.whole=false then (8,cw,R.aR)
 else if R.jo=true then (3,cw,R.aR)
 else if f.seq=(gT R.log f.aL).1∧R.au.done<(gT R.log f.aL).2 then (6,cw,R.aR)
 else if f.seq=(gT R.log f.aL).1 then (0,(eQ (bN R.log).2 (gT R.log f.aL).2).getD cw,R.aR)
 else if f.seq<(gT R.log f.aL).1 then (7,cw,R.aR)
 else if 4096≤R.log.length then (1,cw,R.aR)
 else ((R.aR.iN f now).1,cw,(R.aR.iN f now).2)
section
variable {p:Nat} {R:ay}
theorem Tf(ok:R.Ok)(f:aB)(m:jk)(hmm:mC Fr w m)(now:Int):ax Tryz.prog 242 [.pointer (some ⟨p,0,none⟩),.agg (aY (f,m)).toArray,.int .i64 now] Fr w [bo p R]
  (fun v L=>v=.tuple #[.int .i64 (eH R f now).1,.agg (bg (eH R f now).2.1).toArray]∧L=[bo p { R with aR:=(eH R f now).2.2 }]):=by
 have w0:=ok.au.dO
 refine TF 116 Tryz.func242 Z yp aC Z Z ?_
 refine CS (CG (VG (VB (vs:=aY (f,m)) Z fun fb=>?_)))
 refine VG (VO.alloc Z fun rb=>VG (VN ?_))
 refine VC.bz 2 Z (bd.rep p R) ?_
 rintro x -
 have fin:∀{X:Cx} {fn:Func} {E:Env} (z:Int) (rr:ik) (A':aO),fn.results=#[.tmp 6,.cell 7 gV]→bR X.tab gV=some T.t141→Vg.look E 6=some (.int .i64 z)→Vg.look E 7=some (.pointer (some ⟨rb,0,none⟩))→eH R f now=(z,rr,A') →
   an X fn (fun v L=>v=.tuple #[.int .i64 (eH R f now).1,.agg (bg (eH R f now).2.1).toArray]∧L=[bo p { R with aR:=(eH R f now).2.2 }]) E [pt p (bu R x) cT,aq aP 2 x.a R.ch.ms.length x.c (flat aD R.ch.ms),bL x.lp R.log,bA x.wp R.au,bj x.ap A',bC x.rp R.aQ,pt rb (bg rr) gV,pt fb (aY (f,m)) cq]:=fun z rr A' hr hT h4 h5 hj=>
  an.aaO 6 7 hr h4 h5 hT (aw.many (ds:=bg rr) 6 rfl rfl) (aa.rep (R:={ R with aR:=A' }) x (IP 0 rfl (IP 0 rfl (IP 0 rfl (IP 0 rfl (IP 0 rfl (IP 0 rfl aa.nil))))))).aj ⟨by rw[hj],by rw[hj]⟩
 show VC _ _ _ [pt p (bu R x) cT,aq aP 2 x.a R.ch.ms.length x.c (flat aD R.ch.ms),bL x.lp R.log,bA x.wp R.au,bj x.ap R.aR,bC x.rp R.aQ,pt rb (bg cw) gV,pt fb (aY (f,m)) cq] _
 refine tm ?_
 refine CS (CD (ts 0 5 (.only 5 (ts 6 2 .nil))) yp yr ?_)
 refine uE ?_
 refine AG (VA.dE 7 (aY (f,m)) Z Z Z Z Z ?_)
 refine AG (AR (fun Fr w hF hs hS=>Ah Fr w (f,m) (hS.at_ 4 Z)) Z Z yu ?_)
 refine bp ?_
 refine VC.fq Z (fun h1=>?_) (fun h1=>?_)
 ·refine tC ?_
  exact CR (fin 10 cw R.aR Z Z Z Z (by rw[eH,if_pos h1]))
 have k1:¬R.aR.may f=false:=by rw[h1];simp
 refine CS (CD (ts 0 10 (.only 10 (.take 11 .nil))) yp yr ?_)
 refine uE ?_
 refine AG (AR (fun Fr w hF hs hS=>Jg Fr w f.aL f.seq f.bD (hS.at_ 4 Z)) Z Z yu ?_)
 refine bp ?_
 refine CC Z (fun h2=>?_) (fun h2=>?_)
 ·refine tC ?_
  exact CR (fin 7 cw R.aR Z Z Z Z (by rw[eH,if_neg k1,if_pos h2]))
 have k2:¬R.aR.wF f.aL f.seq f.bD=true:=by rw[h2];simp
 refine vT ?_
 refine VG (VL 7 (aY (f,m)) Z Z Z Z ?_)
 refine VG (VV (fun Fr w hF hs hS=>KL Fr w (hS.aA 0 Z) f m) Z ?_)
 refine al ?_
 refine VC.fq Z (fun h3=>?_) (fun h3=>?_)
 ·refine tC ?_
  exact CR (fin 5 cw R.aR Z Z Z Z (by rw[eH,if_neg k1,if_neg k2,if_pos h3]))
 have k3:¬R.iZ f=false:=by rw[h3];simp
 refine al ?_
 refine VG (VV (fun Fr w hF hs hS=>zP Fr w (hS.aA 0 Z) (aT.aq cu (hS.at_ 1 Z)) ok.ch) Z ?_)
 refine al ?_
 refine VC.fq Z (fun h4=>?_) (fun h4=>?_)
 ·refine tC ?_
  exact CR (fin 4 cw R.aR Z Z Z Z (by rw[eH,if_neg k1,if_neg k2,if_neg k3,if_pos h4]))
 have k4:¬R.oa=false:=by rw[h4];simp
 refine al ?_
 refine VC.fq Z (fun h5=>?_) (fun h5=>?_)
 ·refine tC ?_
  exact CR (fin 8 cw R.aR Z Z Z Z (by rw[eH,if_neg k1,if_neg k2,if_neg k3,if_neg k4,if_pos h5]))
 have k5:¬R.whole=false:=by rw[h5];simp
 refine al ?_
 refine VG (VV (fun Fr w hF hs hS=>B1 Fr w (hS.aA 0 Z)) Z ?_)
 refine al ?_
 refine CC Z (fun h6=>?_) (fun h6=>CK ?_)
 ·refine tC ?_
  exact CR (fin 3 cw R.aR Z Z Z Z (by rw[eH,if_neg k1,if_neg k2,if_neg k3,if_neg k4,if_neg k5,if_pos h6]))
 have k6:¬R.jo=true:=by rw[h6];simp
 refine CS (CD (ts 0 6 (.only 6 (ts 7 5 .nil))) yp yr ?_)
 refine uE ?_
 refine AG (AR (fun Fr w hF hs hS=>Lg.qz Fr w (hS.at_ 2 Z) f.aL) Z Z yu ?_)
 refine bp ?_
 refine tm ?_
 have hi2:=ok.Tr f.aL
 have hl1:=ok.last;have hl2:=ok.au.i_
 refine CS ?_
 refine VC.bZ (σ:=Unit) (fun _=>[(0,pV p),(2,.int .i64 now),(4,pV fb),(6,.int .i64 0),(7,pV rb),(8,.int .i64 (gT R.log f.aL).1),(9,.int .i64 (gT R.log f.aL).2),(64,.bool ((f.seq == (gT R.log f.aL).1)&&decide (R.au.done<(gT R.log f.aL).2)))])
  (fun _=>[pt p (bu R x) cT,aq aP 2 x.a R.ch.ms.length x.c (flat aD R.ch.ms),bL x.lp R.log,bA x.wp R.au,bj x.ap R.aR,bC x.rp R.aQ,pt rb (bg cw) gV,pt fb (aY (f,m)) cq]) (fun _=>True) ?_ ?_
 ·refine vT ?_
  cases h7:(f.seq == (gT R.log f.aL).1) with
  | false=>
   refine VG (VY 69 false Z h7 ?_)
   refine bG ?_
   exact Ov
  | true=>
   refine VG (VY 69 true Z h7 ?_)
   refine bG ?_
   refine Oo ?_
   refine bG ?_
   exact Ov
 rintro _ -
 refine CC Z (fun h7=>?_) (fun h7=>?_)
 ·have k7:f.seq=(gT R.log f.aL).1∧R.au.done<(gT R.log f.aL).2:=by simpa using h7
  refine tC ?_
  exact CR (fin 6 cw R.aR Z Z Z Z (by rw[eH,if_neg k1,if_neg k2,if_neg k3,if_neg k4,if_neg k5,if_neg k6,if_pos k7]))
 have k7:¬(f.seq=(gT R.log f.aL).1∧R.au.done<(gT R.log f.aL).2):=fun h=>by rw[DT h.2,h.1] at h7;simp at h7
 refine vT ?_
 refine CE Z (fun h8=>?_) (fun h8=>?_)
 ·refine al ?_
  refine VG (VV (fun Fr w hF hs hS=>Lg.Mw Fr w (hS.at_ 2 Z) (gT R.log f.aL).2 yg yg) Z ?_)
  refine al ?_
  refine VG (VT (vs:=bg ((eQ (bN R.log).2 (gT R.log f.aL).2).getD cw)) 6 Z Z Z Z (NR _) Z Z Z (VG (VN ?_)))
  refine Ot ?_
  refine AG (VA.dE 6 (bg ((eQ (bN R.log).2 (gT R.log f.aL).2).getD cw)) Z Z Z Z Z ?_)
  refine bp ?_
  refine AG (AT (vs:=bg ((eQ (bN R.log).2 (gT R.log f.aL).2).getD cw)) 6 Z Z Z Z Z (NR _) Z Z Z yu ?_)
  refine bp ?_
  exact CR (fin 0 ((eQ (bN R.log).2 (gT R.log f.aL).2).getD cw) R.aR Z Z Z Z (by rw[eH,if_neg k1,if_neg k2,if_neg k3,if_neg k4,if_neg k5,if_neg k6,if_neg k7,if_pos h8]))
 refine vT ?_
 refine CP Z (fun h9=>?_) (fun h9=>?_)
 ·refine tC ?_
  exact CR (fin 7 cw R.aR Z Z Z Z (by rw[eH,if_neg k1,if_neg k2,if_neg k3,if_neg k4,if_neg k5,if_neg k6,if_neg k7,if_neg h8,if_pos h9]))
 refine al ?_
 refine VG (VV (fun Fr w hF hs hS=>Lg.kJ Fr w (hS.at_ 2 Z)) Z ?_)
 refine al ?_
 refine CP Z (fun h10=>?_) (fun h10=>CK ?_)
 ·refine tC ?_
  exact CR (fin 1 cw R.aR Z Z Z Z (by rw[eH,if_neg k1,if_neg k2,if_neg k3,if_neg k4,if_neg k5,if_neg k6,if_neg k7,if_neg h8,if_neg h9,if_pos yg]))
 refine CS (CD (ts 0 6 (.take 7 (.only 6 (.take 8 (.only 9 .nil))))) yp yr ?_)
 refine uE ?_
 refine AG (VA.dE 7 (aY (f,m)) Z Z Z Z Z ?_)
 refine bp ?_
 refine Ou ?_
 refine AG (AQ 4 Z (fun Fr w hF hs hS=>CL Fr w x.ap R.aR (f,m) (hmm.of hF hs) now) Z Z (ψ:=fun v H=>v=.int .i64 (R.aR.iN f now).1∧H=bj x.ap (R.aR.iN f now).2) yz ?_ ?_)
 ·rintro _ _ ⟨rfl,rfl⟩
  exact yu
 rintro _ _ ⟨rfl,rfl⟩
 refine PY ?_
 exact CR (fin (R.aR.iN f now).1 cw (R.aR.iN f now).2 Z Z Z Z (by rw[eH,if_neg k1,if_neg k2,if_neg k3,if_neg k4,if_neg k5,if_neg k6,if_neg k7,if_neg h8,if_neg h9,if_neg yg]))
end
end Rep
namespace Rep
open Go Vg T Api Kv Ch Lg Rd Win Adm
attribute [local irreducible] VO VC VA
def o9(R:ay)(f:aB)(now:Int):ay×List cm:=
 if (eH R f now).2.1.code≠0 then ({ R with aR:=(eH R f now).2.2 },[(32+f.aL,ot f.aL f.seq f.bD (eH R f now).2.1)])
 else if (eH R f now).1=0 then ({ R with aR:=(eH R f now).2.2 },[])
 else if (eH R f now).1≠6∧(eH R f now).1≠10 then ({ R with aR:=((eH R f now).2.2.dB f.aL f.seq f.bD).2 },[(32+f.aL,jb R.ch.ar f (eH R f now).1)])
 else ({ R with aR:=(eH R f now).2.2 },[(32+f.aL,jb R.ch.ar f (eH R f now).1)])
section
variable {p:Nat} {R:ay} {b:Nat} {S:List cm}
theorem abb(ok:R.Ok)(hS:S.length≤900000)(f:aB)(m:jk)(hmm:mC Fr w m)(now:Int)(hc0:0≤f.aL)(hc1:f.aL≤1000):ax Tryz.prog 180 [.pointer (some ⟨p,0,none⟩),.agg (aY (f,m)).toArray,.int .i64 now,dV b] Fr w [bo p R,aZ b S]
  (fun v L=>v=.tuple #[]∧L=[bo p (o9 R f now).1,aZ b (S++(o9 R f now).2)]):=by
 refine TF 53 Tryz.func180 Z yp aC Z Z ?_
 refine CS (CG (VG (VB (vs:=aY (f,m)) Z fun fb=>?_)))
 refine al ?_
 refine VG (VL 0 (aY (f,m)) Z Z Z Z ?_)
 refine VG (VQ 1 Z (fun Fr w hF hs hS=>Tf Fr w ok f m (hmm.of hF hs) now) Z (ψ:=fun v H=>v=.tuple #[.int .i64 (eH R f now).1,.agg (bg (eH R f now).2.1).toArray]∧H=bo p { R with aR:=(eH R f now).2.2 }) yz ?_)
 rintro _ _ ⟨rfl,rfl⟩
 refine VO.bz 1 Z (bd.rep p _) ?_
 rintro x -
 obtain⟨⟨z,rr,A⟩,hj⟩:∃j,eH R f now=j:=⟨_,rfl⟩
 rw[hj]
 have hu:o9 R f now=(if rr.code≠0 then ({ R with aR:=A },[(32+f.aL,ot f.aL f.seq f.bD rr)])
   else if z=0 then ({ R with aR:=A },[])
   else if z≠6∧z≠10 then ({ R with aR:=(A.dB f.aL f.seq f.bD).2 },[(32+f.aL,jb R.ch.ar f z)])
   else ({ R with aR:=A },[(32+f.aL,jb R.ch.ar f z)])):=by rw[o9,hj]
 show VO _ _ _ _ _ [pt p (bu R x) cT,aq aP 2 x.a R.ch.ms.length x.c (flat aD R.ch.ms),bL x.lp R.log,bA x.wp R.au,bj x.ap A,bC x.rp R.aQ,pt fb (aY (f,m)) cq,aZ b S] _
 refine al ?_
 refine VG (VO.alloc Z fun rb=>?_)
 refine al ?_
 refine VG (VT (vs:=bg rr) 0 Z Z Z Z (NR _) Z Z Z ?_)
 refine al ?_
 refine VC.dp Z (fun h1=>?_) (fun h1=>CK ?_)
 ·refine vT ?_
  refine VG (VL 0 (bg rr) Z Z Z Z ?_)
  refine VG (VQ 8 Z (fun Fr w hF hs _=>G8 Fr w yg f.aL f.seq f.bD hc0 yg rr) Z (ψ:=fun v H=>v=.tuple #[]∧H=aZ b (S ++ [(32+f.aL,ot f.aL f.seq f.bD rr)])) yz ?_)
  rintro _ _ ⟨rfl,rfl⟩
  refine al ?_
  exact CR (an.void Z (aa.rep (R:={ R with aR:=A }) x (IP 1 Z (IP 1 Z (IP 1 Z (IP 1 Z (IP 1 Z (IP 1 Z (IP 2 Z aa.nil)))))))).aj ⟨rfl,by rw[hu,if_pos h1]⟩)
 refine al ?_
 refine CE Z (fun h2=>?_) (fun h2=>CK ?_)
 ·exact CR (an.void Z (aa.rep (R:={ R with aR:=A }) x (IP 1 Z (IP 1 Z (IP 1 Z (IP 1 Z (IP 1 Z (IP 1 Z (IP 2 Z aa.nil)))))))).aj ⟨rfl,by rw[hu,if_neg (fun h=>h h1),if_pos h2,br]⟩)
 refine CS ?_
 refine VC.bZ (σ:=aO) (fun _=>[(0,pV p),(3,dV b),(5,pV fb),(8,.int .i64 z)])
  (fun A'=>[pt p (bu R x) cT,aq aP 2 x.a R.ch.ms.length x.c (flat aD R.ch.ms),bL x.lp R.log,bA x.wp R.au,bj x.ap A',bC x.rp R.aQ,pt fb (aY (f,m)) cq,aZ b S]) (fun A'=>A'=if z≠6∧z≠10 then (A.dB f.aL f.seq f.bD).2 else A) ?_ ?_
 ·refine al ?_
  by_cases h3:z=6
  ·refine VG (VY 33 false Z (by simp[h3]) ?_)
   refine p9 ?_
   exact⟨A,by rw[if_neg (fun h=>h.1 h3)],aH,(bb [1,1,1,1,1,1,1,1]).aj⟩
  ·refine VG (VY 33 true Z (by simp[h3]) ?_)
   refine bG ?_
   refine VC.dp Z (fun h4=>?_) (fun h4=>CK ?_)
   ·refine CD (ts 0 10 (.only 10 .nil)) yp yr ?_
    refine uE ?_
    refine AG (AQ 5 Z (fun Fr w hF hs hS=>BT Fr w x.ap A f.aL f.seq f.bD) Z Z (ψ:=fun v H=>v=.int .i64 (A.dB f.aL f.seq f.bD).1∧H=bj x.ap (A.dB f.aL f.seq f.bD).2) yz ?_ ?_)
    ·rintro _ _ ⟨rfl,rfl⟩
     exact yu
    rintro _ _ ⟨rfl,rfl⟩
    refine bp ?_
    exact⟨(A.dB f.aL f.seq f.bD).2,by rw[if_pos ⟨h3,h4⟩],aH,(bb [1,1,1,1,1,1,1,1]).aj⟩
   ·exact⟨A,by rw[if_neg (fun h=>h.2 h4)],aH,(bb [1,1,1,1,1,1,1,1]).aj⟩
 rintro A' hA'
 refine al ?_
 refine VG (VL 6 (aY (f,m)) Z Z Z Z ?_)
 refine al ?_
 refine VG (VQ 7 Z (fun Fr w hF hs hS=>vD Fr w (hS.aA 0 Z) yg f m hc0 yg z) Z (ψ:=fun v H=>v=.tuple #[]∧H=aZ b (S ++ [(32+f.aL,jb R.ch.ar f z)])) yz ?_)
 rintro _ _ ⟨rfl,rfl⟩
 refine al ?_
 exact an.void Z (aa.rep (R:={ R with aR:=A' }) x (IP 0 Z (IP 0 Z (IP 0 Z (IP 0 Z (IP 0 Z (IP 0 Z (IP 1 Z aa.nil)))))))).aj ⟨rfl,by
  rw[hu,if_neg (fun h=>h h1),if_neg h2,hA']
  split<;>rfl⟩
def oq(R:ay)(f:aB)(now:Int):Int:=
 if R.iZ f=false then 5 else if R.vK=false then 4 else if R.whole=false then 8 else if f.deadline<now then 2 else if R.iu≤R.aQ.l.length then 1 else 0
def pC(ar id:Int):aB:={ aB.zero with kind:=9,ar:=ar,index:=id }
def oY(R:ay)(f:aB)(now:Int):ay×List cm:=
 if oq R f now≠0 then (R,[(32+f.aL,jb R.ch.ar f (oq R f now))])
 else ({ R with aQ:=R.aQ.put f (nw (bN R.log).1 f.op.key R.log.length) },[(16,pC R.ch.ar (R.aQ.last+1))])
theorem C4(ok:R.Ok)(hmost:R.iu=R.aQ.cap)(hS:S.length≤900000)(f:aB){ma:Option Addr}{mc:Nat}{ms:List aS}(hm:aT aD 2 Fr w ma ms)(hml:ms.length≤1000000)(now:Int)(hc0:0≤f.aL)(hc1:f.aL≤1000):ax Tryz.prog 179 [.pointer (some ⟨p,0,none⟩),.agg (cF f (ma,ms.length,mc)).toArray,.int .i64 now,dV b] Fr w [bo p R,aZ b S]
  (fun v L=>v=.tuple #[]∧L=[bo p (oY R f now).1,aZ b (S++(oY R f now).2)]):=by
 refine TF 75 Tryz.func179 Z yp aC Z Z ?_
 refine CS (CG (VG (VB (vs:=cF f (ma,ms.length,mc)) Z fun fb=>VG (VN ?_))))
 refine D8 ?_
 rintro x -
 show VC _ _ _ [pt p (bu R x) cT,aq aP 2 x.a R.ch.ms.length x.c (flat aD R.ch.ms),bL x.lp R.log,bA x.wp R.au,bj x.ap R.aR,bC x.rp R.aQ,pt fb (cF f (ma,ms.length,mc)) cq,aZ b S] _
 have hlen:R.aQ.l.length≤16:=by have:=ok.rl;have:=ok.gA;omega
 refine CS (CG (VG (VN (CS ?_))))
 have S4:∀{E:Env} {z:Int},Vg.look E 8=some (.int .i64 z)→z=oq R f now→Vg.look E 0=some (.pointer (some ⟨p,0,none⟩))→Vg.look E 3=some (dV b)→Vg.look E 5=some (.pointer (some ⟨fb,0,none⟩))→Sub [(0,pV p),(3,dV b),(5,pV fb),(8,.int .i64 (oq R f now))] E:=fun h0 h1 h2 h3 h4=>SC h2 (SC h3 (SC h4 (Sub.int h0 h1 (SN _))))
 refine VC.bZ (σ:=Unit) (fun _=>[(0,pV p),(3,dV b),(5,pV fb),(8,.int .i64 (oq R f now))])
  (fun _=>[pt p (bu R x) cT,aq aP 2 x.a R.ch.ms.length x.c (flat aD R.ch.ms),bL x.lp R.log,bA x.wp R.au,bj x.ap R.aR,bC x.rp R.aQ,pt fb (cF f (ma,ms.length,mc)) cq,aZ b S]) (fun _=>True) ?_ ?_
 ·refine VC.block ?_
  refine al ?_
  refine VG (VL 6 (cF f (ma,ms.length,mc)) Z Z Z Z ?_)
  refine A6 ?_
  refine al ?_
  refine VC.fq Z (fun h1=>?_) (fun h1=>?_)
  ·refine al ?_
   exact⟨(),trivial,S4 Z (by rw[oq,if_pos h1]) Z Z Z,ER⟩
  have k1:¬R.iZ f=false:=by rw[h1];simp
  refine al ?_
  refine On ?_
  refine al ?_
  refine VC.fq Z (fun h2=>?_) (fun h2=>?_)
  ·refine al ?_
   exact⟨(),trivial,S4 Z (by rw[oq,if_neg k1,if_pos h2]) Z Z Z,ER⟩
  have k2:¬R.vK=false:=by rw[h2];simp
  refine al ?_
  refine VC.fq Z (fun h3=>?_) (fun h3=>?_)
  ·refine al ?_
   exact⟨(),trivial,S4 Z (by rw[oq,if_neg k1,if_neg k2,if_pos h3]) Z Z Z,ER⟩
  have k3:¬R.whole=false:=by rw[h3];simp
  refine HT ?_
  refine CP Z (fun h4=>?_) (fun h4=>?_)
  ·refine al ?_
   exact⟨(),trivial,S4 Z (by rw[oq,if_neg k1,if_neg k2,if_neg k3,if_pos h4]) Z Z Z,ER⟩
  refine CS (CD (ts 0 4 (ts 5 4 (.only 4 (ts 9 2 .nil)))) yp yr ?_)
  refine qT ?_
  refine AG (AR (fun Fr w hF hs hS=>Rd.kJ Fr w (hS.at_ 5 Z) ok.gU) Z Z yu ?_)
  refine bp ?_
  refine CP Z (fun h5=>?_) (fun h5=>CK ?_)
  ·refine al ?_
   exact⟨(),trivial,S4 Z (by rw[oq,if_neg k1,if_neg k2,if_neg k3,if_neg h4,if_pos h5]) Z Z Z,ER⟩
  ·exact⟨(),trivial,S4 Z (by rw[oq,if_neg k1,if_neg k2,if_neg k3,if_neg h4,if_neg h5]) Z Z Z,ER⟩
 rintro _ -
 refine al ?_
 refine VC.dp Z (fun hr=>?_) (fun hr=>CK ?_)
 ·refine al ?_
  refine VG (VL 6 (cF f (ma,ms.length,mc)) Z Z Z Z ?_)
  refine al ?_
  refine VG (VQ 7 Z (fun Fr w hF hs hS=>vD Fr w (hS.aA 0 Z) yg f (ma,ms.length,mc) hc0 yg (oq R f now)) Z (ψ:=fun v H=>v=.tuple #[]∧H=aZ b (S ++ [(32+f.aL,jb R.ch.ar f (oq R f now))])) yz ?_)
  rintro _ _ ⟨rfl,rfl⟩
  refine al ?_
  exact CR (an.void Z (aa.rep x (IP 0 Z (IP 0 Z (IP 0 Z (IP 0 Z (IP 0 Z (IP 0 Z (IP 1 Z aa.nil)))))))).aj ⟨rfl,by rw[oY,if_pos hr]⟩)
 have hnf:(R.aQ.l.length:Int)<R.aQ.cap:=by
  rw[←hmost]
  unfold oq at hr
  split at hr
  ·cases hr
  split at hr
  ·cases hr
  split at hr
  ·cases hr
  split at hr
  ·cases hr
  split at hr
  ·cases hr
  ·omega
 refine CS (CD (ts 0 12 (.only 12 (.only 13 (ts 14 5 .nil)))) yp yr ?_)
 refine qT ?_
 refine AG (VA.dE 6 (cF f (ma,ms.length,mc)) Z Z Z Z Z ?_)
 refine qT ?_
 refine AG (AR (fun Fr w hF hs hS=>Lg.Cs Fr w (hS.at_ 2 Z) f.op.key) Z Z yu ?_)
 refine AG (AQ 5 Z (fun Fr w hF hs hS=>Rd.Wg Fr w x.rp R.aQ ok.gU ok.gA ok.kR (by have:=ok.lM;omega) f (hm.of hF hs) hml (nw (bN R.log).1 f.op.key R.log.length)) Z Z (ψ:=fun v H=>v=.tuple #[.int .i64 (R.aQ.last+1),.int .i64 0]∧H=bC x.rp (R.aQ.put f (nw (bN R.log).1 f.op.key R.log.length))) (fun v L h=>⟨_,h.2,by rw[h.1,if_pos hnf],Z⟩) ?_ ?_)
 ·rintro _ _ ⟨rfl,rfl⟩
  exact yu
 rintro _ _ ⟨rfl,rfl⟩
 refine uJ ?_
 refine VG (VI (LB (pv:=[(0,.int .i64 9),(1,.int .i64 R.ch.ar),(12,.int .i64 (R.aQ.last+1))]) (cF (pC R.ch.ar (R.aQ.last+1)) kP) Z Z Z yp Z) ?_)
 refine VG (VO.mH 7 Z Z (fun Fr w hF hs _=>sG Fr w b S yg 16 (pC R.ch.ar (R.aQ.last+1))) Z (ψ:=fun v H=>v=.tuple #[]∧H=aZ b (S ++ [(16,pC R.ch.ar (R.aQ.last+1))])) yz ?_)
 rintro _ _ ⟨rfl,rfl⟩
 refine al ?_
 exact an.void Z (aa.rep (R:={ R with aQ:=R.aQ.put f (nw (bN R.log).1 f.op.key R.log.length) }) x (IP 0 Z (IP 0 Z (IP 0 Z (IP 0 Z (IP 0 Z (IP 0 Z (IP 1 Z aa.nil)))))))).aj ⟨rfl,by rw[oY,if_neg (fun h=>h hr)]⟩
end
end Rep
namespace Rep
open Go Vg T Api Kv Ch Lg Rd Win Adm
attribute [local irreducible] VO VC VA
theorem I4{W:bJ}(h:W.Ok)(i:Int):(W.jl i).Ok:=by
 unfold bJ.jl
 split
 ·rename_i hb
  simp only[bJ.oJ,eG,decide_eq_true_eq] at hb
  have:=h.ln
  exact⟨h.dO,h.fM,by show 0≤i;omega,hb.2,h.i_,h.iy,h.Az,h.vj,h.vk⟩
 ·exact h
theorem I3(W:bJ)(i:Int):(W.jl i).last=W.last:=by unfold bJ.jl;split<;>rfl
theorem wU{R:ay}(h:R.Ok):R.df.Ok:=by
 unfold ay.df
 split
 ·exact⟨h.ch,I4 h.au _,by rw[I3];exact h.last,h.kL,h.kM,h.gU,h.gA,h.rl,h.kR,h.lM,h.kh,h.calls,h.wf⟩
 ·exact h
theorem E3{R:ay}(h:R.Ok):R.iG.Ok:=by
 unfold ay.iG
 split
 ·exact Ow
 ·exact h
def fH(R:ay)(e:bf):ay:={ R with log:=R.log ++ [e],au:={ R.au with last:=R.au.last+1 } }
theorem TR{es:List bf}{e:bf}(h:ir es e=0):nQ e=false∧es.length<4096∧e.index=es.length+1∧(fT es e.aL).1<e.seq:=by
 unfold ir at h
 split at h
 ·cases h
 rename_i h1
 split at h
 ·cases h
 rename_i h2
 split at h
 ·cases h
 rename_i h3
 split at h
 ·cases h
 rename_i h4
 exact⟨by simpa using h1,by omega,by omega,by omega⟩
theorem Qq{e:bf}(h:nQ e=false):0≤e.aL∧e.aL<6∧1≤e.seq:=by
 simp only[nQ,EH,decide_eq_false_iff_not] at h
 omega
theorem xv{R:ay}(h:R.Ok){e:bf}(he:ir R.log e=0)(hr:R.au.room=true):(fH R e).Ok:=by
 obtain⟨b1,b2,b3,b4⟩:=TR he
 have hc:=Qq b1
 simp only[bJ.room,eG,decide_eq_true_eq] at hr
 have hw:=h.au
 have hl:=h.last
 refine⟨h.ch,⟨hw.dO,hw.fM,hw.ln,?_,?_,hw.iy,?_,hw.vj,hw.vk⟩,?_,?_,?_,h.gU,h.gA,h.rl,h.kR,h.lM,h.kh,h.calls,h.wf⟩
 ·have:=hw.lu;show R.au.done≤R.au.last+1;omega
 ·show R.au.last+1≤4096;omega
 ·have:=hw.Az;show R.au.bS≤R.au.last+1;omega
 ·show R.au.last+1=(R.log ++ [e]).length;rw[a8,hl];simp
 ·intro y hy
  rcases eP.1 hy with hy | hy
  ·exact h.kL y hy
  ·obtain rfl:=fe.1 hy;exact⟨hc.1,hc.2.1⟩
 ·intro y hy
  show _∧y.index≤(R.log ++ [e]).length
  rw[a8]
  rcases eP.1 hy with hy | hy
  ·have:=h.kM y hy;exact⟨this.1,by simp;omega⟩
  ·obtain rfl:=fe.1 hy;exact⟨by omega,by simp;omega⟩
theorem Wu(R:ay)(k:Nat):(pP R k).length=k:=by simp[pP]
theorem zA{R:ay}(h:R.Ok):R.ly.length≤4096:=by
 unfold ay.ly
 split
 ·rw[Wu];have:=h.au.i_;have:=h.au.ln;omega
 ·simp
theorem E0(R:ay):R.iU.length≤1:=by unfold ay.iU;split<;>simp
theorem E2(R:ay):R.nR.length≤1:=by
 unfold ay.nR
 split
 ·exact E0 _
 ·simp
theorem zO(R:ay):R.fR.length≤1:=by unfold ay.fR;split<;>simp
def sN(R:ay)(e:bf):Bool:=(e.index == R.au.last+1)&&decide (0<max (min (R.au.done+R.au.cap) 4096-R.au.last) 0)
theorem FJ{R:ay}{e:bf}(h:sN R e=true):R.au.room=true:=by
 simp only[sN,eG,decide_eq_true_eq] at h
 simp only[bJ.room,eG,decide_eq_true_eq]
 omega
def mn(R:ay)(e:bf):ay×List cm:=
 if sN R e=true∧ir R.log e=0 then ((fH R e).df.iG,(fH R e).ly++(fH R e).df.nR++(fH R e).df.iG.fR)
 else (R,R.fR)
section
variable {p:Nat} {R:ay} {b:Nat} {S:List cm}
theorem Sb(ok:R.Ok)(hS:S.length≤800000)(e:bf)(hi1:-9223372036854775808≤e.index)(hi2:e.index≤9223372036854775807):ax Tryz.prog 185 [.pointer (some ⟨p,0,none⟩),.agg (bm e).toArray,dV b] Fr w [bo p R,aZ b S]
  (fun v L=>v=.tuple #[]∧L=[bo p (mn R e).1,aZ b (S++(mn R e).2)]):=by
 have w0:=ok.au.dO
 have w1:=ok.au.i_;have w2:=ok.au.ln;have w3:=ok.au.lu
 refine TF 50 Tryz.func185 Z yp aC Z Z ?_
 refine CS (CG (VG (VB (vs:=bm e) Z fun eb=>VG (VN ?_))))
 refine CS ?_
 refine VC.bZ (σ:=ay×List cm) (fun _=>[(0,pV p),(2,dV b)]) (fun y=>[bo p y.1,aZ b (S++y.2)]) (fun y=>y.1.Ok∧y.2.length≤10000∧mn R e=(y.1,y.2++y.1.fR)) ?_ ?_
 ·refine D8 ?_
  rintro x -
  show VC _ _ _ [pt p (bu R x) cT,aq aP 2 x.a R.ch.ms.length x.c (flat aD R.ch.ms),bL x.lp R.log,bA x.wp R.au,bj x.ap R.aR,bC x.rp R.aQ,pt eb (bm e) dK,aZ b S] _
  have shut:∀{X:Cx} {T:List cm},dd X [pt p (bu R x) cT,aq aP 2 x.a R.ch.ms.length x.c (flat aD R.ch.ms),bL x.lp R.log,bA x.wp R.au,bj x.ap R.aR,bC x.rp R.aQ,pt eb (bm e) dK,aZ b T] [bo p R,aZ b T]:=
   (aa.rep x (bb [0,0,0,0,0,0,1])).aj
  have none_:¬(sN R e=true∧ir R.log e=0)→R.Ok∧([]:List cm).length≤10000∧mn R e=(R,[]++R.fR):=fun h=>⟨ok,by simp,by rw[mn,if_neg h];rfl⟩
  refine CS (CD (ts 0 6 (.only 6 (ts 7 7 (.only 14 (ts 15 2 .nil))))) yp yr ?_)
  refine qT ?_
  refine AG (AR (fun Fr w hF hs hS=>Win.qz Fr w (hS.aA 3 Z) w0) Z Z yu ?_)
  refine pY ?_
  refine bp ?_
  cases h1:(e.index == R.au.last+1) with
  | false=>
   refine AG (AY 17 false Z h1 ?_)
   refine vW ?_
   refine fV ?_
   exact⟨(R,[]),none_ (fun h=>by rw[sN,h1] at h;exact absurd h.1 yi),aH,by dsimp only;rw[br];exact shut⟩
  | true=>
  refine AG (AY 17 true Z h1 ?_)
  refine HU ?_
  refine AG (AR (fun Fr w hF hs hS=>Win.free_spec Fr w (hS.aA 3 Z) ok.au) Z Z yu ?_)
  refine cW ?_
  refine CP Z (fun h2=>?_) (fun h2=>CK ?_)
  rotate_left
  ·exact⟨(R,[]),none_ (fun h=>by rw[sN,h1,DF h2] at h;exact absurd h.1 yi),aH,by dsimp only;rw[br];exact shut⟩
  have hfb:sN R e=true:=by rw[sN,h1,DT h2];rfl
  refine CS ?_
  refine VC.bZ (σ:=Nat) (fun rb=>[(0,pV p),(2,dV b),(7,.int .i64 (ir R.log e))]) (fun rb=>[pt rb (bg (oc R.log e)) gV,pt p (bu R x) cT,aq aP 2 x.a R.ch.ms.length x.c (flat aD R.ch.ms),bL x.lp (kK R.log e),bA x.wp R.au,bj x.ap R.aR,bC x.rp R.aQ,pt eb (bm e) dK,aZ b S]) (fun _=>True) ?_ ?_
  ·refine Ox ?_
   refine qT ?_
   refine AG (VA.dE 6 (bm e) Z Z Z Z Z ?_)
   refine AG (VA.two Z Z Z Z Z (aK.oK (ψ:=fun v H=>v=.tuple #[.agg (bg (oc R.log e)).toArray,.int .i64 (ir R.log e)]∧H=bL x.lp (kK R.log e)) 2 Z (fun Fr w hF hs hS=>Lg.BM Fr w x.lp R.log e) Z yz) Z Z Z (aK.alloc Z) ?_ ?_ ?_ ?_)
   ·rintro _ _ ⟨_,⟨rfl,rfl⟩,rfl⟩
    exact yu
   ·rintro _ _ ⟨rb,rfl,rfl⟩
    exact yu
   ·rintro _ _ ⟨_,⟨rfl,rfl⟩,rfl⟩
    refine bp ?_
    refine AG (AO (aK.alloc Z) Z ?_ ?_)
    ·rintro _ _ ⟨rb,rfl,rfl⟩
     exact yu
    rintro _ _ ⟨rb,rfl,rfl⟩
    refine AG (AT (vs:=bg (oc R.log e)) 0 Z Z Z Z Z (NR _) Z Z Z yu ?_)
    exact EB
   ·rintro _ _ ⟨rb,rfl,rfl⟩
    refine AG (AO (aK.oK (ψ:=fun v H=>v=.tuple #[.agg (bg (oc R.log e)).toArray,.int .i64 (ir R.log e)]∧H=bL x.lp (kK R.log e)) 3 Z (fun Fr w hF hs hS=>Lg.BM Fr w x.lp R.log e) Z yz) Z ?_ ?_)
    ·rintro _ _ ⟨_,⟨rfl,rfl⟩,rfl⟩
     exact yu
    rintro _ _ ⟨_,⟨rfl,rfl⟩,rfl⟩
    refine bp ?_
    refine AG (AT (vs:=bg (oc R.log e)) 0 Z Z Z Z Z (NR _) Z Z Z yu ?_)
    exact EB
  rintro rb -
  refine al ?_
  refine CE Z (fun h3=>?_) (fun h3=>CK ?_)
  rotate_left
  ·have hla:kK R.log e=R.log:=by rw[kK,if_neg h3]
   rw[hla]
   exact⟨(R,[]),none_ (fun h=>h3 h.2),aH,by
    dsimp only;rw[br]
    exact(aa.rep x (bb [1,1,1,1,1,1,2])).aj⟩
  have hla:kK R.log e=R.log ++ [e]:=by rw[kK,if_pos h3]
  have hroom:=FJ hfb
  have okp:=xv ok h3 hroom
  rw[hla]
  refine dF ?_
  refine VG (VQ 4 Z (fun Fr w hF hs hS=>Win.vB Fr w ok.au hroom) Z (ψ:=fun v H=>v=.bool true∧H=bA x.wp { R.au with last:=R.au.last+1 }) yz ?_)
  rintro _ _ ⟨rfl,rfl⟩
  refine VO.aj (L':=[bo p (fH R e),aZ b S]) (aa.rep (R:=fH R e) x (bb [1,1,1,1,1,1,2])).aj ?_
  refine al ?_
  refine VG (VK (Lc:=[bo p (fH R e),aZ b S]) (Lr:=[]) (fun Fr w hF hs hS=>Fw Fr w okp yg) Z Z ?_)
  rintro _ _ ⟨rfl,rfl⟩
  have fl:=zA okp
  refine al ?_
  refine VG (VK (Lc:=[bo p (fH R e).df,aZ b (S++(fH R e).ly)]) (Lr:=[]) (fun Fr w hF hs hS=>Jm Fr w (wU okp) p7) Z Z ?_)
  rintro _ _ ⟨rfl,rfl⟩
  have bl:=E2 (fH R e).df
  refine al ?_
  refine⟨((fH R e).df.iG,(fH R e).ly++(fH R e).df.nR),⟨E3 (wU okp),by dsimp only;rw[a8];omega,by rw[mn,if_pos ⟨hfb,h3⟩]⟩,aH,?_⟩
  dsimp only
  rw[ed]
  exact ER
 rintro⟨R',T⟩ ⟨ok',hT,hf⟩
 dsimp only at ok' hT hf ⊢
 refine VC.bz 0 Z (bd.rep p R') ?_
 rintro x -
 show VC _ _ _ (gg p R' x b (S++T)) _
 unfold gg
 refine al ?_
 refine VG (VQ 6 Z (fun Fr w hF hs hS=>Cg Fr w (gD.oV hS 0 Z Z Z Z Z Z) ok'.ch ok'.au p7) Z (ψ:=fun v H=>v=.tuple #[]∧H=aZ b (S++T++R'.fR)) yz ?_)
 rintro _ _ ⟨rfl,rfl⟩
 refine al ?_
 exact an.void Z (nF (R:=R') (x:=x)).aj ⟨rfl,by rw[hf,ed]⟩
end
end Rep
namespace Rep
open Go Vg T Api Kv Ch Lg Rd Win Adm
attribute [local irreducible] VO VC VA
def gu(R:ay)(f:aB):ay:=if R.linked then { R with dQ:=max R.dQ f.dQ } else { R with linked:=true,dQ:=f.dQ,au:={ R.au with bS:=min (max f.dQ 0) R.au.last } }
def hZ(R:ay)(f:aB):ay:={ gu R f with au:={ (gu R f).au with js:=max (gu R f).au.js (min f.tZ 4112) } }
def kB(R:ay)(f:aB):ay×List cm:=
 ({ hZ R f with au:=(hZ R f).au.jl f.index },if (hZ R f).au.oJ f.index then ay.fR { hZ R f with au:=(hZ R f).au.jl f.index } else [])
theorem IZ{R:ay}(h:R.Ok)(f:aB):(gu R f).Ok:=by
 unfold gu
 split
 ·exact Ow
 ·have hw:=h.au
  refine⟨h.ch,⟨hw.dO,hw.fM,hw.ln,hw.lu,hw.i_,?_,?_,hw.vj,hw.vk⟩,h.last,h.kL,h.kM,h.gU,h.gA,h.rl,h.kR,h.lM,h.kh,h.calls,h.wf⟩
  ·show 0≤min (max f.dQ 0) R.au.last
   have:=hw.ln;have:=hw.lu;omega
  ·show min (max f.dQ 0) R.au.last≤R.au.last;omega
theorem I1{R:ay}(h:R.Ok)(f:aB):(hZ R f).Ok:=by
 have h1:=IZ h f
 have hw:=h1.au
 unfold hZ
 refine⟨h1.ch,⟨hw.dO,hw.fM,hw.ln,hw.lu,hw.i_,hw.iy,hw.Az,?_,?_⟩,h1.last,h1.kL,h1.kM,h1.gU,h1.gA,h1.rl,h1.kR,h1.lM,h1.kh,h1.calls,h1.wf⟩
 ·show 0≤max (gu R f).au.js (min f.tZ 4112);have:=hw.vj;omega
 ·show max (gu R f).au.js (min f.tZ 4112)≤4112;have:=hw.vk;omega
theorem I2{R:ay}(h:R.Ok)(f:aB):(kB R f).1.Ok:=by
 have h2:=I1 h f
 exact⟨h2.ch,I4 h2.au _,by show((hZ R f).au.jl f.index).last=_;rw[I3];exact h2.last,h2.kL,h2.kM,h2.gU,h2.gA,h2.rl,h2.kR,h2.lM,h2.kh,h2.calls,h2.wf⟩
section
variable {p:Nat} {R:ay} {b:Nat} {S:List cm}
theorem BJ(ok:R.Ok)(hS:S.length≤800000)(f:aB)(m:jk):ax Tryz.prog 186 [.pointer (some ⟨p,0,none⟩),.agg (cF f m).toArray,dV b] Fr w [bo p R,aZ b S]
  (fun v L=>v=.tuple #[]∧L=[bo p (kB R f).1,aZ b (S++(kB R f).2)]):=by
 have ok1:=IZ ok f
 have ok2:=I1 ok f
 refine TF 52 Tryz.func186 Z yp aC Z Z ?_
 refine CS (CG (VG (VB (vs:=cF f m) Z fun fb=>VG (VN ?_))))
 refine D8 ?_
 rintro x -
 show VC _ _ _ [pt p (bu R x) cT,aq aP 2 x.a R.ch.ms.length x.c (flat aD R.ch.ms),bL x.lp R.log,bA x.wp R.au,bj x.ap R.aR,bC x.rp R.aQ,pt fb (cF f m) cq,aZ b S] _
 refine CS ?_
 refine VC.bZ (σ:=Unit) (fun _=>[(0,pV p),(2,dV b),(4,pV fb)]) (fun _=>[pt p (bu (gu R f) x) cT,aq aP 2 x.a R.ch.ms.length x.c (flat aD R.ch.ms),bL x.lp R.log,bA x.wp (gu R f).au,bj x.ap R.aR,bC x.rp R.aQ,pt fb (cF f m) cq,aZ b S]) (fun _=>True) ?_ ?_
 ·refine al ?_
  cases hl:R.linked with
  | true=>
   have e:gu R f={ R with dQ:=max R.dQ f.dQ }:=by rw[gu,hl];rfl
   refine lR ?_
   refine CD (ts 0 10 (.only 10 .nil)) yp yr ?_
   refine qT ?_
   refine AG (VA.st 0 (cs':=bu { R with dQ:=if R.dQ<f.dQ then f.dQ else R.dQ } x) Z Z Z Z Z (g_ Z) Z Z yu ?_)
   refine bp ?_
   exact⟨(),trivial,aH,by rw[e,show max R.dQ f.dQ=(if R.dQ<f.dQ then f.dQ else R.dQ) by split<;>omega];exact ER⟩
  | false=>
   have e:gu R f={ R with linked:=true,dQ:=f.dQ,au:={ R.au with bS:=min (max f.dQ 0) R.au.last } }:=by rw[gu,hl];rfl
   refine vM ?_
   refine CS (CD (ts 0 6 (.only 6 (ts 7 2 (.only 9 .nil)))) yp yr ?_)
   refine qT ?_
   refine AG (VA.st 0 (cs':=bu { R with linked:=true } x) Z Z Z Z Z (g_ Z) Z Z yu ?_)
   refine qT ?_
   refine AG (VA.st 0 (cs':=bu { R with linked:=true,dQ:=f.dQ } x) Z Z Z Z Z (g_ Z) Z Z yu ?_)
   refine bp ?_
   refine D3 ?_
   refine qT ?_
   refine AG (AQ 3 Z (fun Fr w hF hs hS=>Win.Je Fr w ok.au f.dQ) Z Z (ψ:=fun v H=>v=.tuple #[]∧H=bA x.wp { R.au with bS:=min (max f.dQ 0) R.au.last }) yz ?_ ?_)
   ·rintro _ _ ⟨rfl,rfl⟩
    exact yu
   rintro _ _ ⟨rfl,rfl⟩
   refine bp ?_
   exact⟨(),trivial,aH,by rw[e];exact ER⟩
 rintro _ -
 have e1:(gu R f).ch=R.ch∧(gu R f).log=R.log∧(gu R f).aR=R.aR∧(gu R f).aQ=R.aQ:=by unfold gu;split<;>exact⟨rfl,rfl,rfl,rfl⟩
 refine DW ?_
 refine qT ?_
 refine AG (AQ 3 Z (fun Fr w hF hs hS=>Win.SE Fr w ok1.au f.tZ) Z Z (ψ:=fun v H=>v=.tuple #[]∧H=bA x.wp (hZ R f).au) yz ?_ ?_)
 ·rintro _ _ ⟨rfl,rfl⟩
  exact yu
 rintro _ _ ⟨rfl,rfl⟩
 refine bp ?_
 refine DW ?_
 refine qT ?_
 refine AG (AQ 3 Z (fun Fr w hF hs hS=>Win.BJ Fr w ok2.au f.index) Z Z (ψ:=fun v H=>v=.bool ((hZ R f).au.oJ f.index)∧H=bA x.wp ((hZ R f).au.jl f.index)) yz ?_ ?_)
 ·rintro _ _ ⟨rfl,rfl⟩
  exact yu
 rintro _ _ ⟨rfl,rfl⟩
 refine bp ?_
 have oka:=I2 ok f
 have hrep:vE p (kB R f).1 x=[pt p (bu (gu R f) x) cT,aq aP 2 x.a R.ch.ms.length x.c (flat aD R.ch.ms),bL x.lp R.log,bA x.wp ((hZ R f).au.jl f.index),bj x.ap R.aR,bC x.rp R.aQ]:=by
  show [pt p (bu (gu R f) x) cT,aq aP 2 x.a (gu R f).ch.ms.length x.c (flat aD (gu R f).ch.ms),bL x.lp (gu R f).log,_,bj x.ap (gu R f).aR,bC x.rp (gu R f).aQ]=_
  rw[e1.1,e1.2.1,e1.2.2.1,e1.2.2.2];rfl
 refine CN (L':=vE p (kB R f).1 x ++ [aZ b S]) (by rw[hrep];exact(bb [0,0,0,0,0,0,1]).aj) ?_
 refine CC Z (fun hb=>?_) (fun hb=>CK ?_)
 ·refine al ?_
  refine VG (VQ 6 Z (fun Fr w hF hs hS=>Cg (R:=(kB R f).1) Fr w (gD.oV hS 0 Z Z Z Z Z Z) oka.ch oka.au yg) Z (ψ:=fun v H=>v=.tuple #[]∧H=aZ b (S++(kB R f).1.fR)) yz ?_)
  rintro _ _ ⟨rfl,rfl⟩
  refine al ?_
  exact an.void Z (nF (R:=(kB R f).1) (x:=x)).aj ⟨rfl,by rw[show(kB R f).2=(kB R f).1.fR by rw[kB,hb];rfl]⟩
 ·exact an.void Z (nF (R:=(kB R f).1) (x:=x)).aj ⟨rfl,by rw[show(kB R f).2=[] by rw[kB,hb];rfl,br]⟩
def vf(ar:Int)(e:bf):aB:={ aB.zero with kind:=4,ar:=ar,entry:=e }
def dR(R:ay):Nat→bJ×List cm
 | 0=>(R.au,[])
 | k+1=>((dR R k).1.next,(dR R k).2 ++ [(R.dX,vf R.ch.ar ((eQ R.log ((dR R k).1.bS+1)).getD iI))])
def iw(R:ay):Nat:=(min R.au.last R.au.js-R.au.bS).toNat
def ui(R:ay):ay×List cm:=({ R with au:=(dR R (iw R)).1 },(dR R (iw R)).2)
theorem xp(R:ay):∀k,k≤iw R→(dR R k).1={ R.au with bS:=R.au.bS+k }
 | 0,_=>by simp[dR]
 | k+1,h=>by
  unfold iw at h
  rw[dR,xp R k (by unfold iw;omega)]
  have hb:({ R.au with bS:=R.au.bS+k }:bJ).ke=true:=by simp only[bJ.ke,eG,decide_eq_true_eq];omega
  rw[bJ.next,if_pos hb]
  have:R.au.bS+(k:Int)+1=R.au.bS+((k+1:Nat):Int):=by push_cast;omega
  show bJ.mk _ _ _ (R.au.bS+(k:Int)+1) _=bJ.mk _ _ _ (R.au.bS+((k+1:Nat):Int)) _
  rw[this]
theorem GF(R:ay):∀k,(dR R k).2.length=k
 | 0=>rfl
 | k+1=>by rw[dR,a8,GF R k];rfl
theorem LP{W:bJ}(h:W.Ok):W.next.Ok:=by
 unfold bJ.next
 split
 ·rename_i hb
  simp only[bJ.ke,eG,decide_eq_true_eq] at hb
  have:=h.iy
  exact⟨h.dO,h.fM,h.ln,h.lu,h.i_,by show 0≤W.bS+1;omega,by show W.bS+1≤W.last;omega,h.vj,h.vk⟩
 ·exact h
theorem GG{R:ay}(h:R.Ok):∀k,(dR R k).1.Ok
 | 0=>h.au
 | k+1=>LP (GG h k)
end
section
variable {p:Nat} {R:ay} {b:Nat} {S:List cm}
theorem GH(ok:R.Ok)(hS:S.length≤800000):ax Tryz.prog 104 [.pointer (some ⟨p,0,none⟩),dV b] Fr w [bo p R,aZ b S]
  (fun v L=>v=.tuple #[]∧L=[bo p (ui R).1,aZ b (S++(ui R).2)]):=by
 have w1:=ok.au.i_;have w2:=ok.au.iy;have w3:=ok.au.Az;have w4:=ok.au.vk;have w5:=ok.au.vj
 have hlast:=ok.last
 have hK:iw R≤4096:=by unfold iw;omega
 refine TF 47 Tryz.func104 Z yp aC Z Z ?_
 refine xY ?_
 rintro x -
 show VC _ _ _ (gg p R x b S) _
 unfold gg
 refine al ?_
 refine Oy ?_
 refine al ?_
 have hnx:∀k,k≤iw R→((dR R k).1.ke=decide (k<iw R)):=fun k hk=>by
  rw[xp R k hk]
  unfold iw at hk ⊢
  simp only[bJ.ke]
  by_cases h:(R.au.bS+(k:Int)<R.au.last)∧(R.au.bS+(k:Int)<R.au.js)
  ·rw[DT h.1,DT h.2,DT yg];rfl
  ·rw[DF (show ¬k<(min R.au.last R.au.js-R.au.bS).toNat by omega)]
   by_cases h1:R.au.bS+(k:Int)<R.au.last
   ·rw[DT h1,DF (fun h2=>h ⟨h1,h2⟩)];rfl
   ·rw[DF h1];rfl
 refine VG (VQ 3 Z (fun Fr w hF hs hS=>Win.sU Fr w ok.au) Z (ψ:=fun v H=>v=.tuple #[.int .i64 (if R.au.ke then R.au.bS+1 else 0),.bool R.au.ke]∧H=bA x.wp R.au.next) yz ?_)
 rintro _ _ ⟨rfl,rfl⟩
 refine al ?_
 refine VC.loop (σ:=Nat) (fun k=>[(0,pV p),(1,dV b),(4,.int .i64 R.dX),(5,.int .i64 (if (dR R k).1.ke then (dR R k).1.bS+1 else 0)),(6,.bool (dR R k).1.ke)])
  (fun k=>[pt p (bu R x) cT,aq aP 2 x.a R.ch.ms.length x.c (flat aD R.ch.ms),bL x.lp R.log,bA x.wp (dR R k).1.next,bj x.ap R.aR,bC x.rp R.aQ,aZ b (S++(dR R k).2)])
  (fun k=>k≤iw R) (fun k=>iw R-k) 0
  (bH _) aH (by rw[show(dR R 0).2=[] from rfl,br];exact ER) ?_
 intro k hk
 have hnk:=hnx k hk
 have hwk:=xp R k hk
 have hpl:=GF R k
 have hok:=GG ok k
 refine al ?_
 refine CC Z (fun h1=>CK ?_) (fun h1=>CX ?_)
 ·have hk2:k<iw R:=by rw[h1] at hnk;exact of_decide_eq_true hnk.symm
  have hs1:(dR R k).1.bS=R.au.bS+k:=by rw[hwk]
  have hbd:R.au.bS+(k:Int)<R.au.last:=by unfold iw at hk2;omega
  have hwk2:(dR R (k+1)).1=(dR R k).1.next:=rfl
  rw[h1]
  obtain⟨j,e,hj1,hj2,hj3,hj4⟩:=BP (l:=R.log) (i:=(dR R k).1.bS+1) yg yg
  refine tm ?_
  refine al ?_
  refine VG (VV (fun Fr w hF hs hS=>Lg.zn Fr w (hS.at_ 2 Z) ((dR R k).1.bS+1) yg yg) Z ?_)
  refine al ?_
  refine VG (VO.alloc Z fun eb=>?_)
  refine VG (VT (vs:=bm ((eQ R.log ((dR R k).1.bS+1)).getD iI)) 0 Z Z Z Z (NR _) Z Z Z (VG (VN ?_)))
  refine CD (ts 0 9 (.only 9 .nil)) yp yr ?_
  refine fj ?_
  refine AG (VA.dE 0 (bm ((eQ R.log ((dR R k).1.bS+1)).getD iI)) Z Z Z Z Z ?_)
  refine AG (AI Z (LB (pv:=[(0,.int .i64 4),(1,.int .i64 R.ch.ar),(10,.agg (bm ((eQ R.log ((dR R k).1.bS+1)).getD iI)).toArray)]) (cF (vf R.ch.ar ((eQ R.log ((dR R k).1.bS+1)).getD iI)) kP) Z Z Z yp Z) ?_)
  refine AG (VA.mH 7 Z Z (fun Fr w hF hs _=>sG Fr w b (S++(dR R k).2) p7 R.dX (vf R.ch.ar ((eQ R.log ((dR R k).1.bS+1)).getD iI))) Z Z (ψ:=fun v H=>v=.tuple #[]∧H=aZ b (S++(dR R k).2 ++ [(R.dX,vf R.ch.ar ((eQ R.log ((dR R k).1.bS+1)).getD iI))])) yz ?_ ?_)
  ·rintro _ _ ⟨rfl,rfl⟩
   exact yu
  rintro _ _ ⟨rfl,rfl⟩
  refine bp ?_
  refine dF ?_
  refine VG (VQ 4 Z (fun Fr w hF hs hS=>Win.sU Fr w (LP hok)) Z (ψ:=fun v H=>v=.tuple #[.int .i64 (if (dR R (k+1)).1.ke then (dR R (k+1)).1.bS+1 else 0),.bool (dR R (k+1)).1.ke]∧H=bA x.wp (dR R (k+1)).1.next) yz ?_)
  rintro _ _ ⟨rfl,rfl⟩
  refine al ?_
  refine⟨k+1,hk2,by dsimp only;omega,aH,?_⟩
  dsimp only
  rw[show(dR R (k+1)).2=(dR R k).2 ++ [(R.dX,vf R.ch.ar ((eQ R.log ((dR R k).1.bS+1)).getD iI))] from rfl,←ed]
  exact(bb [1,1,1,1,1,1,1]).aj
 ·have hk2:k=iw R:=by
   rw[h1] at hnk
   have:¬k<iw R:=of_decide_eq_false hnk.symm
   omega
  have hwn:(dR R k).1.next=(dR R k).1:=by rw[bJ.next,h1];rfl
  rw[hwn,hk2]
  exact an.void Z (aa.rep (R:=(ui R).1) x (IP 0 Z (IP 0 Z (IP 0 Z (IP 0 Z (IP 0 Z (IP 0 Z (IP 0 Z aa.nil)))))))).aj ⟨rfl,Z⟩
end
end Rep
namespace Rep
open Go Vg T Api Kv Ch Lg Rd Win Adm Sched
attribute [local irreducible] VO VC VA
def refs(ar:Int)(gs:List aB)(reason:Int):List cm:=gs.map fun f=>(32+f.aL,jb ar f reason)
def eF(R:ay)(now:Int):aB:=(dw (R.aR.fF now).aM).1
def Ai(R:ay)(now:Int):Bool:=(dw (R.aR.fF now).aM).2.1
def e7(R:ay)(now:Int):bf:=⟨R.log.length+1,(eF R now).aL,(eF R now).seq,(eF R now).op⟩
def mO(R:ay)(now:Int):ay:={ R with aR:=R.aR.dX now }
def fi(R:ay)(now:Int):ay×List cm×Bool:=
 if Ai R now=false then (mO R now,refs R.ch.ar (R.aR.aM.dD now) 2,false)
 else if ir R.log (e7 R now)≠0 then ({ R with aR:=((R.aR.dX now).dB (eF R now).aL (eF R now).seq (eF R now).bD).2 },refs R.ch.ar (R.aR.aM.dD now) 2 ++ [(32+(eF R now).aL,jb R.ch.ar (eF R now) 7)],true)
 else ((fH (mO R now) (e7 R now)).df,refs R.ch.ar (R.aR.aM.dD now) 2++(fH (mO R now) (e7 R now)).ly,true)
theorem Gk{R:ay}(h:R.Ok)(now:Int):(mO R now).Ok:=⟨h.ch,h.au,h.last,h.kL,h.kM,h.gU,h.gA,h.rl,h.kR,h.lM,h.kh,UJ h.wf h.calls now,UL h.wf now⟩
theorem Jf{A:aO}(h:A.Calls)(k s t:Int):(A.dB k s t).2.Calls:=by
 have e:(A.dB k s t).2.aM=A.aM∧(A.dB k s t).2.bK=A.bK:=by
  unfold aO.dB
  split
  ·exact⟨by show(A.jE k s t).aM=_;unfold aO.jE;split<;>rfl,EX A k s t⟩
  ·exact⟨rfl,Z⟩
 unfold aO.Calls
 rw[e.1,e.2];exact h
theorem zj{R:ay}(h:R.Ok){A:aO}(hC:A.Calls)(hW:A.Wf):({ R with aR:=A }:ay).Ok:=⟨h.ch,h.au,h.last,h.kL,h.kM,h.gU,h.gA,h.rl,h.kR,h.lM,h.kh,hC,hW⟩
theorem Df{R:ay}(h:R.Ok)(hr:R.au.room=true)(now:Int):(fi R now).1.Ok:=by
 have hn:=Gk h now
 unfold fi
 split
 ·exact hn
 split
 ·exact zj h (Jf hn.calls _ _ _) (hn.wf.dB _ _ _)
 ·rename_i h2
  exact wU (xv hn (by show ir R.log _=0;omega) hr)
theorem Cf{R:ay}(h:R.Ok)(now:Int):(R.aR.aM.dD now).length≤64:=by
 have:=aJ.Wf.Fv h.wf.aM R.aR.aM.cls.length now
 rw[iT] at this;exact this
theorem UK{R:ay}(h:R.Ok)(now:Int)(ho:Ai R now=true):0≤(eF R now).aL∧(eF R now).aL<6:=by
 obtain⟨h1,h2,h3⟩:=tW h.wf now
 obtain⟨k,q,e1,e2⟩:=CW h1.aM ho
 have hc:=B7 h.wf h.calls now _ (ME e1) (eF R now) (by simp[eF])
 have:=h.wf.c1
 exact⟨hc.1.1,by have:=hc.1.2;rw[h2] at this;omega⟩
section
variable {p:Nat} {R:ay} {b:Nat} {S:List cm}
theorem WX(ok:R.Ok)(hr:R.au.room=true)(hS:S.length≤800000)(now:Int):ax Tryz.prog 103 [.pointer (some ⟨p,0,none⟩),.int .i64 now,dV b] Fr w [bo p R,aZ b S]
  (fun v L=>v=.bool (fi R now).2.2∧L=[bo p (fi R now).1,aZ b (S++(fi R now).2.1)]):=by
 have hg64:=Cf ok now
 have hn:=Gk ok now
 have hgc:=FO ok.calls now
 have hc6:=ok.wf.c1
 refine TF 85 Tryz.func103 Z yp aC Z Z ?_
 refine xY ?_
 rintro x -
 show VC _ _ _ (gg p R x b S) _
 unfold gg
 refine al ?_
 refine VO.aj (L':=[bj x.ap R.aR,pt p (bu R x) cT,aq aP 2 x.a R.ch.ms.length x.c (flat aD R.ch.ms),bL x.lp R.log,bA x.wp R.au,bC x.rp R.aQ,aZ b S]) (bb [4,0,0,0,0,0,0]).aj ?_
 refine VG (VK (Lc:=[bj x.ap R.aR]) (fun Fr w hF hs hS=>Adm.sU Fr w x.ap R.aR now ok.wf ok.calls) Z Z ?_)
 rintro _ _ ⟨r,m,rok,hrx,rfl,rfl⟩
 show VO _ _ _ _ _ [r.h 188,bj x.ap (R.aR.dX now),pt p (bu R x) cT,aq aP 2 x.a R.ch.ms.length x.c (flat aD R.ch.ms),bL x.lp R.log,bA x.wp R.au,bC x.rp R.aQ,aZ b S] _
 refine al ?_
 refine VG (VO.alloc Z fun fb=>?_)
 refine VG (VT (vs:=aY (eF R now,m)) 0 Z Z Z Z (NR _) Z Z Z ?_)
 have hrv:r.v=.slice r.addr r.xs.length r.cap:=rfl
 rw[hrv]
 refine al ?_
 refine VC.loop (σ:=Nat) (fun i=>[(0,pV p),(2,dV b),(7,pV fb),(8,.bool (Ai R now)),(25,.slice r.addr r.xs.length r.cap),(26,.int .i64 r.xs.length),(27,.int .i64 i)])
  (fun i=>[pt fb (aY (eF R now,m)) cq,r.h cq,bj x.ap (R.aR.dX now),pt p (bu R x) cT,aq aP 2 x.a R.ch.ms.length x.c (flat aD R.ch.ms),bL x.lp R.log,bA x.wp R.au,bC x.rp R.aQ,aZ b (S++refs R.ch.ar ((R.aR.aM.dD now).take i) 2)])
  (fun i=>i≤r.xs.length) (fun i=>r.xs.length-i) 0
  (bH _) aH (by rw[qi,show refs R.ch.ar [] 2=[] from rfl,br];exact ER) ?_
 intro i hi
 have hxl:r.xs.length=(R.aR.aM.dD now).length:=by rw[←hrx];simp
 refine al ?_
 refine CP Z (fun h1=>CK ?_) (fun h1=>CX ?_)
 ·have hi2:i<r.xs.length:=by omega
  obtain⟨g,hg⟩:∃g,r.xs[i]?=some g:=⟨_,GE hi2⟩
  have hgg:(R.aR.aM.dD now)[i]?=some g.1:=by rw[←hrx,dH,hg];rfl
  have hcl:=hgc g.1 (ME hgg)
  obtain⟨gb,go,r1,r2,hrd⟩:=rok.ld (t:=cq) hg rfl
  rw[r2]
  refine uH ?_
  refine VG (VD Z Z ((hrd 1 Z).1 _ Z Z) ?_)
  refine VG (VO.alloc Z fun tb=>?_)
  refine VG (VT (vs:=aY g) 0 Z Z Z Z (NR _) Z Z Z ?_)
  refine al ?_
  refine VG (VL 0 (aY g) Z Z Z Z ?_)
  refine VG (VQ 9 Z (fun Fr w hF hs hS=>vD Fr w (hS.aA 4 Z) Pu g.1 g.2 hcl.1.1 (by have:=hcl.1.2;omega) 2) Z (ψ:=fun v H=>v=.tuple #[]∧H=aZ b (S++refs R.ch.ar ((R.aR.aM.dD now).take i) 2 ++ [(32+g.1.aL,jb R.ch.ar g.1 2)])) yz ?_)
  rintro _ _ ⟨rfl,rfl⟩
  refine jC ?_
  refine⟨i+1,hi2,by dsimp only;omega,aH,?_⟩
  dsimp only
  rw[show refs R.ch.ar ((R.aR.aM.dD now).take (i+1)) 2=refs R.ch.ar ((R.aR.aM.dD now).take i) 2 ++ [(32+g.1.aL,jb R.ch.ar g.1 2)] by rw[fX,hgg];simp[refs],←ed]
  exact(bb [1,1,1,1,1,1,1,1,1]).aj
 ·obtain rfl:i=r.xs.length:=by omega
  rw[hxl,iT]
  have hrl:(refs R.ch.ar (R.aR.aM.dD now) 2).length≤64:=by rw[refs,cY];exact hg64
  refine al ?_
  refine VC.fq Z (fun ho=>?_) (fun ho=>CK ?_)
  ·refine al ?_
   exact CR (an.tmp 6 Z Z (aa.rep (R:=mO R now) x (IP 3 Z (IP 3 Z (IP 3 Z (IP 3 Z (IP 2 Z (IP 2 Z (IP 2 Z aa.nil)))))))).aj ⟨by rw[fi,if_pos ho],by rw[fi,if_pos ho]⟩)
  have hno:¬Ai R now=false:=by rw[ho];simp
  have hcf:=UK ok now ho
  have w1:=ok.au.i_;have hla:=ok.last
  refine CS ?_
  refine VC.bZ (σ:=Nat) (fun eb=>[(0,pV p),(2,dV b),(7,pV fb),(12,pV eb)]) (fun eb=>[pt eb (bm (e7 R now)) dK,pt fb (aY (eF R now,m)) cq,r.h cq,bj x.ap (R.aR.dX now),pt p (bu R x) cT,aq aP 2 x.a R.ch.ms.length x.c (flat aD R.ch.ms),bL x.lp R.log,bA x.wp R.au,bC x.rp R.aQ,aZ b (S++refs R.ch.ar (R.aR.aM.dD now) 2)]) (fun _=>True) ?_ ?_
  ·refine CD (ts 0 4 (ts 6 6 (.two 4 13 (.take 5 (.take 12 (.only 13 (.only 14 .nil)))) (.only 4 (.take 5 (.take 12 (.only 14 .nil))))))) yp yr ?_
   refine iB ?_
   refine AG (VA.dE 0 (eF R now).op.cells Z Z Z Z Z ?_)
   refine AG (VA.two Z Z Z Z Z (aK.eB (φ:=fun v=>v=.int .i64 R.log.length) (fun Fr w hF hs hS=>Lg.kJ Fr w (hS.at_ 5 Z)) Z) Z Z Z (aK.alloc Z) ?_ ?_ ?_ ?_)
   ·rintro _ _ ⟨rfl,rfl⟩
    exact yu
   ·rintro _ _ ⟨eb,rfl,rfl⟩
    exact yu
   ·rintro _ _ ⟨rfl,rfl⟩
    refine pY ?_
    refine Oz ?_
    refine AG (AO (aK.alloc Z) Z ?_ ?_)
    ·rintro _ _ ⟨eb,rfl,rfl⟩
     exact yu
    rintro _ _ ⟨eb,rfl,rfl⟩
    refine AG (AT (vs:=bm (e7 R now)) 0 Z Z Z Z Z (NR _) Z Z Z yu ?_)
    refine bp ?_
    exact⟨eb,trivial,aH,ER⟩
   ·rintro _ _ ⟨eb,rfl,rfl⟩
    refine AG (AO (aK.eB (φ:=fun v=>v=.int .i64 R.log.length) (fun Fr w hF hs hS=>Lg.kJ Fr w (hS.at_ 6 Z)) Z) Z ?_ ?_)
    ·rintro _ _ ⟨rfl,rfl⟩
     exact yu
    rintro _ _ ⟨rfl,rfl⟩
    refine pY ?_
    refine Oz ?_
    refine AG (AT (vs:=bm (e7 R now)) 0 Z Z Z Z Z (NR _) Z Z Z yu ?_)
    refine bp ?_
    exact⟨eb,trivial,aH,ER⟩
  rintro eb -
  refine CS (CS ?_)
  refine VC.bZ (σ:=Nat) (fun rb=>[(0,pV p),(2,dV b),(7,pV fb),(14,.int .i64 (ir R.log (e7 R now)))]) (fun rb=>[pt rb (bg (oc R.log (e7 R now))) gV,pt eb (bm (e7 R now)) dK,pt fb (aY (eF R now,m)) cq,r.h cq,bj x.ap (R.aR.dX now),pt p (bu R x) cT,aq aP 2 x.a R.ch.ms.length x.c (flat aD R.ch.ms),bL x.lp (kK R.log (e7 R now)),bA x.wp R.au,bC x.rp R.aQ,aZ b (S++refs R.ch.ar (R.aR.aM.dD now) 2)]) (fun _=>True) ?_ ?_
  ·refine Ox ?_
   refine r6 ?_
   refine AG (VA.dE 0 (bm (e7 R now)) Z Z Z Z Z ?_)
   refine AG (VA.two Z Z Z Z Z (aK.oK (ψ:=fun v H=>v=.tuple #[.agg (bg (oc R.log (e7 R now))).toArray,.int .i64 (ir R.log (e7 R now))]∧H=bL x.lp (kK R.log (e7 R now))) 6 Z (fun Fr w hF hs hS=>Lg.BM Fr w x.lp R.log (e7 R now)) Z yz) Z Z Z (aK.alloc Z) ?_ ?_ ?_ ?_)
   ·rintro _ _ ⟨_,⟨rfl,rfl⟩,rfl⟩
    exact yu
   ·rintro _ _ ⟨rb,rfl,rfl⟩
    exact yu
   ·rintro _ _ ⟨_,⟨rfl,rfl⟩,rfl⟩
    refine bp ?_
    refine AG (AO (aK.alloc Z) Z ?_ ?_)
    ·rintro _ _ ⟨rb,rfl,rfl⟩
     exact yu
    rintro _ _ ⟨rb,rfl,rfl⟩
    refine OA ?_
    exact EB
   ·rintro _ _ ⟨rb,rfl,rfl⟩
    refine AG (AO (aK.oK (ψ:=fun v H=>v=.tuple #[.agg (bg (oc R.log (e7 R now))).toArray,.int .i64 (ir R.log (e7 R now))]∧H=bL x.lp (kK R.log (e7 R now))) 7 Z (fun Fr w hF hs hS=>Lg.BM Fr w x.lp R.log (e7 R now)) Z yz) Z ?_ ?_)
    ·rintro _ _ ⟨_,⟨rfl,rfl⟩,rfl⟩
     exact yu
    rintro _ _ ⟨_,⟨rfl,rfl⟩,rfl⟩
    refine bp ?_
    refine OA ?_
    exact EB
  rintro rb -
  refine al ?_
  refine VC.dp Z (fun he=>?_) (fun he=>CK ?_)
  ·have hap:kK R.log (e7 R now)=R.log:=by rw[kK,if_neg he]
   rw[hap]
   refine HF ?_
   refine mB ?_
   refine AG (AQ 4 Z (fun Fr w hF hs hS=>BT Fr w x.ap (R.aR.dX now) (eF R now).aL (eF R now).seq (eF R now).bD) Z Z (ψ:=fun v H=>H=bj x.ap ((R.aR.dX now).dB (eF R now).aL (eF R now).seq (eF R now).bD).2) (fun v L h=>⟨_,h.2,Z⟩) ?_ ?_)
   ·rintro _ _ rfl
    exact yu
   rintro _ _ rfl
   refine uJ ?_
   refine VG (VL 2 (aY (eF R now,m)) Z Z Z Z ?_)
   refine VG (VQ 10 Z (fun Fr w hF hs hS=>vD Fr w (hS.aA 5 Z) p7 (eF R now) m hcf.1 yg 7) Z (ψ:=fun v H=>v=.tuple #[]∧H=aZ b (S++refs R.ch.ar (R.aR.aM.dD now) 2 ++ [(32+(eF R now).aL,jb R.ch.ar (eF R now) 7)])) yz ?_)
   rintro _ _ ⟨rfl,rfl⟩
   refine al ?_
   exact CR (an.tmp 6 Z Z (aa.rep (R:={ R with aR:=((R.aR.dX now).dB (eF R now).aL (eF R now).seq (eF R now).bD).2 }) x (IP 5 Z (IP 5 Z (IP 5 Z (IP 5 Z (IP 4 Z (IP 4 Z (IP 4 Z aa.nil)))))))).aj ⟨by rw[fi,if_neg hno,if_pos he],by rw[fi,if_neg hno,if_pos he,←ed]⟩)
  have hap:kK R.log (e7 R now)=R.log ++ [e7 R now]:=by rw[kK,if_pos he]
  rw[hap]
  have okp:=xv hn (e:=e7 R now) he hr
  refine DX ?_
  refine VG (VQ 8 Z (fun Fr w hF hs hS=>Win.vB Fr w ok.au hr) Z (ψ:=fun v H=>v=.bool true∧H=bA x.wp { R.au with last:=R.au.last+1 }) yz ?_)
  rintro _ _ ⟨rfl,rfl⟩
  refine VO.aj (L':=[bo p (fH (mO R now) (e7 R now)),aZ b (S++refs R.ch.ar (R.aR.aM.dD now) 2)]) (aa.rep (R:=fH (mO R now) (e7 R now)) x (bb [5,5,5,5,4,4,4])).aj ?_
  refine al ?_
  refine VG (VK (Lc:=[bo p (fH (mO R now) (e7 R now)),aZ b (S++refs R.ch.ar (R.aR.aM.dD now) 2)]) (Lr:=[]) (fun Fr w hF hs hS=>Fw Fr w okp p7) Z Z ?_)
  rintro _ _ ⟨rfl,rfl⟩
  refine al ?_
  exact CR (an.tmp 6 Z Z ER ⟨by rw[fi,if_neg hno,if_neg (fun h=>h he)],by rw[fi,if_neg hno,if_neg (fun h=>h he),←ed];rfl⟩)
end
end Rep
namespace Rep
open Go Vg T Api Kv Ch Lg Rd Win Adm Sched
attribute [local irreducible] VO VC VA
def uz(qs:List (List aB)):Nat:=(qs.map List.length).sum
def rX(A:aO):Nat:=uz A.aM.qs
theorem Ns:∀{qs:List (List aB)} {k:Nat} {f:aB} {q:List aB},qs[k]?=some (f::q)→uz (qs.set k q)+1=uz qs
 | [],k,f,q,h=>by simp at h
 | x::qs,0,f,q,h=>by
  simp only[uP,Option.some.injEq] at h
  subst h
  simp[uz];omega
 | x::qs,k+1,f,q,h=>by
  have ih:=Ns (qs:=qs) (k:=k) (f:=f) (q:=q) ye
  simp only[uz,y_,kV,List.sum_cons] at ih ⊢
  omega
theorem Nr(p:aB→Bool):∀qs:List (List aB),uz (qs.map fun q=>q.filter p)≤uz qs
 | []=>NR _
 | x::qs=>by
  have ih:=Nr p qs
  have:=qf p x
  simp only[uz,kV,List.sum_cons] at ih ⊢
  omega
theorem aaU{R:ay}(h:R.Ok)(now:Int)(ho:Ai R now=true):rX (R.aR.dX now)<rX R.aR:=by
 obtain⟨h1,h2,h3⟩:=tW h.wf now
 obtain⟨k,q,e1,e2⟩:=CW h1.aM ho
 have e3:(R.aR.dX now).aM=(dw (R.aR.fF now).aM).2.2:=by
  unfold aO.dX
  split<;>rfl
 have h4:=Ns e1
 have h5:=Nr (stay now) R.aR.aM.qs
 rw[←Kg,←h3] at h5
 unfold rX
 rw[e3,e2]
 omega
theorem aaT{R:ay}(h:R.Ok):rX R.aR≤64:=by
 have:=aJ.Wf.jq h.wf.aM R.aR.aM.cls.length
 rw[iT,List.length_flatMap] at this
 show((R.aR.aM.cls.map cL.q).map List.length).sum≤64
 rw[mY];exact this
theorem WZ{R:ay}(h:R.Ok)(now:Int)(ho:(fi R now).2.2=true):rX (fi R now).1.aR<rX R.aR:=by
 unfold fi at ho ⊢
 split at ho
 ·cases ho
 ·rename_i h1
  have hn:=aaU h now (by simpa using h1)
  rw[if_neg h1]
  split
  ·have e:((R.aR.dX now).dB (eF R now).aL (eF R now).seq (eF R now).bD).2.aM=(R.aR.dX now).aM:=by
    unfold aO.dB
    split
    ·show((R.aR.dX now).jE _ _ _).aM=_;unfold aO.jE;split<;>rfl
    ·rfl
   show rX ((R.aR.dX now).dB _ _ _).2<_
   unfold rX at hn ⊢
   rw[e];exact hn
  ·have e:(fH (mO R now) (e7 R now)).df.aR=R.aR.dX now:=by unfold ay.df;split<;>rfl
   show rX (fH (mO R now) (e7 R now)).df.aR<_
   rw[e];exact hn
theorem MZ{R:ay}(h:R.Ok)(hr:R.au.room=true)(now:Int):(fi R now).2.1.length≤4200:=by
 have hg:(refs R.ch.ar (R.aR.aM.dD now) 2).length≤64:=by rw[refs,cY];exact Cf h now
 unfold fi
 split
 ·show(refs _ _ _).length≤4200;omega
 split
 ·show(refs R.ch.ar (R.aR.aM.dD now) 2 ++ [(32+(eF R now).aL,jb R.ch.ar (eF R now) 7)]).length≤4200;rw[a8];simp;omega
 ·rename_i h2
  have:=zA (xv (Gk h now) (e:=e7 R now) (by show ir R.log _=0;omega) hr)
  show(refs R.ch.ar (R.aR.aM.dD now) 2++(fH (mO R now) (e7 R now)).ly).length≤4200
  rw[a8];omega
def jc(now:Int):Nat→ay→ay×List cm
 | 0,R=>(R,[])
 | k+1,R=>if R.au.room=true then
   if (fi R now).2.2=true then ((jc now k (fi R now).1).1,(fi R now).2.1++(jc now k (fi R now).1).2)
   else ((fi R now).1,(fi R now).2.1)
  else (R,[])
def iX(R:ay)(now:Int):ay:={ R with aQ:={ R.aQ with l:=R.aQ.l.filter (rI now) } }
def iY(R:ay)(now:Int):List cm:=refs R.ch.ar ((R.aQ.l.filter (fun y=>!rI now y)).map uU.f) 2
def ur(R:ay):Bool:=R.oa&&(R.whole && !R.jo)
def step2(R:ay)(now:Int):ay×List cm:=if ur (iX R now) then jc now 65 (iX R now) else (iX R now,[])
def iz(R:ay)(now:Int):ay×List cm:=if (step2 R now).1.linked then ui (step2 R now).1 else ((step2 R now).1,[])
def iA(R:ay)(now:Int):ay×List cm:=((iz R now).1,iY R now++(step2 R now).2++(iz R now).2)
theorem B6{R:ay}(h:R.Ok)(now:Int):(iX R now).Ok:=⟨h.ch,h.au,h.last,h.kL,h.kM,h.gU,h.gA,by
 have:=h.rl;have h2:=qf (rI now) R.aQ.l
 show((R.aQ.l.filter (rI now)).length:Int)≤R.aQ.cap;omega,h.kR,h.lM,fun y hy=>h.kh y (iS.1 hy).1,h.calls,h.wf⟩
theorem MY(now:Int):∀(k:Nat) {R:ay},R.Ok→(jc now k R).1.Ok
 | 0,R,h=>h
 | k+1,R,h=>by
  rw[jc]
  split
  ·rename_i hr
   split
   ·exact MY now k (Df h hr now)
   ·exact Df h hr now
  ·exact h
theorem Hh(now:Int):∀(k:Nat) {R:ay},R.Ok→(jc now k R).2.length≤k*4200
 | 0,R,h=>NR _
 | k+1,R,h=>by
  rw[jc]
  split
  ·rename_i hr
   have h1:=MZ h hr now
   split
   ·have:=Hh now k (Df h hr now)
    rw[a8];omega
   ·show(fi R now).2.1.length≤_;omega
  ·simp
theorem Vu{R:ay}(h:R.Ok):(ui R).1.Ok:=by
 have hw:=GG h (iw R)
 have e:=xp R (iw R) (NR _)
 exact⟨h.ch,hw,by show(dR R (iw R)).1.last=_;rw[e];exact h.last,h.kL,h.kM,h.gU,h.gA,h.rl,h.kR,h.lM,h.kh,h.calls,h.wf⟩
theorem DC{R:ay}(h:R.Ok)(now:Int):(step2 R now).1.Ok:=by
 unfold step2
 split
 ·exact MY now 65 (B6 h now)
 ·exact B6 h now
theorem Xl{R:ay}(h:R.Ok)(now:Int):(iA R now).1.Ok:=by
 show(iz R now).1.Ok
 unfold iz
 split
 ·exact Vu (DC h now)
 ·exact DC h now
section
variable {p:Nat} {R:ay}
def bS(S:List cm)(v:Value)(L:List HP)(H:List HP):Prop:=∃a c,v=.slice a S.length c∧L=H ++ [aq gk 30 a S.length c (flat rV S)]
theorem Xp(ok:R.Ok)(now:Int):ax Tryz.prog 52 [.pointer (some ⟨p,0,none⟩),.int .i64 now] Fr w [bo p R]
  (fun v L=>bS (iA R now).2 v L [bo p (iA R now).1]):=by
 have hrl:R.aQ.l.length≤16:=by have:=ok.rl;have:=ok.gA;omega
 have ok1:=B6 ok now
 have ok2:=DC ok now
 refine TF 72 Tryz.func52 Z yp aC Z Z ?_
 refine xY ?_
 rintro x -
 show VC _ _ _ [pt p (bu R x) cT,aq aP 2 x.a R.ch.ms.length x.c (flat aD R.ch.ms),bL x.lp R.log,bA x.wp R.au,bj x.ap R.aR,bC x.rp R.aQ] _
 refine al ?_
 refine HV ?_
 refine sf ?_
 refine VG (VO.alloc Z fun ob=>?_)
 refine al ?_
 refine HW ?_
 refine dF ?_
 refine VO.aj (L':=[bC x.rp R.aQ,pt p (bu R x) cT,aq aP 2 x.a R.ch.ms.length x.c (flat aD R.ch.ms),bL x.lp R.log,bA x.wp R.au,bj x.ap R.aR,aZ ob []]) (IP 6 Z (IP 1 Z (IP 1 Z (IP 1 Z (IP 1 Z (IP 1 Z (aa.out (none,0) (IP 0 Z (aa.cK aa.nil))))))))).aj ?_
 refine VG (VK (Lc:=[bC x.rp R.aQ]) (fun Fr w hF hs hS=>Rd.wQ Fr w ok.gU yg now) Z Z ?_)
 rintro _ _ ⟨ga,gc,rows,hrows,rfl,rfl⟩
 have hrowl:rows.length≤16:=by
  have:=congrArg List.length hrows
  rw[cY] at this
  have h2:=qf (fun y=>!rI now y) R.aQ.l
  omega
 show VO _ _ _ _ _ [bC x.rp (iX R now).aQ,aq eJ 34 ga rows.length gc (flat dq rows),pt p (bu R x) cT,aq aP 2 x.a R.ch.ms.length x.c (flat aD R.ch.ms),bL x.lp R.log,bA x.wp R.au,bj x.ap R.aR,aZ ob []] _
 refine VO.bz 1 Z (bd.rl eJ ga gc rows Ap) ?_
 rintro r ⟨rok,hrv,hrx⟩
 show VO _ _ _ _ _ [r.h eJ,bC x.rp (iX R now).aQ,pt p (bu R x) cT,aq aP 2 x.a R.ch.ms.length x.c (flat aD R.ch.ms),bL x.lp R.log,bA x.wp R.au,bj x.ap R.aR,aZ ob []] _
 refine al ?_
 have hexp:∀i,i≤rows.length→((rows.take i).map fun y=>y.1.f).length=i:=fun i hi=>by simp;omega
 refine VC.loop (σ:=Nat) (fun i=>[(0,pV p),(1,.int .i64 now),(5,pV ob),(6,dV ob),(18,.slice ga rows.length gc),(19,.int .i64 rows.length),(20,.int .i64 i)])
  (fun i=>[r.h eJ,bC x.rp (iX R now).aQ,pt p (bu R x) cT,aq aP 2 x.a R.ch.ms.length x.c (flat aD R.ch.ms),bL x.lp R.log,bA x.wp R.au,bj x.ap R.aR,aZ ob (refs R.ch.ar ((rows.take i).map fun y=>y.1.f) 2)])
  (fun i=>i≤rows.length) (fun i=>rows.length-i) 0
  (bH _) aH ER ?_
 intro i hi
 refine al ?_
 refine CP Z (fun h1=>CK ?_) (fun h1=>CX ?_)
 ·have hi2:i<rows.length:=by omega
  obtain⟨g,hg⟩:∃g,rows[i]?=some g:=⟨_,GE hi2⟩
  have hgm:g.1∈R.aQ.l:=by
   have h2:g.1∈rows.map Prod.fst:=cy.2 ⟨g,ME hg,rfl⟩
   rw[hrows] at h2
   exact(iS.1 h2).1
  have hcl:=ok.kh g.1 hgm
  obtain⟨gb,go,r1,r2,hrd⟩:=rok.ld (t:=eJ) (hrx▸hg) rfl
  obtain rfl:ga=some ⟨gb,go,none⟩:=by rw[RL.v,r2,hrx] at hrv;injection hrv with e1;exact e1.symm
  refine uH ?_
  refine A7 ?_
  refine VG (VO.alloc Z fun tb=>?_)
  refine HX ?_
  refine al ?_
  refine VG (VL 0 (cF g.1.f g.2) Z Z Z Z ?_)
  refine VG (VQ 8 Z (fun Fr w hF hs hS=>vD Fr w (hS.aA 3 Z) (by rw[refs,cY,hexp i yg];omega) g.1.f g.2 hcl.1 yg 2) Z (ψ:=fun v H=>v=.tuple #[]∧H=aZ ob (refs R.ch.ar ((rows.take i).map fun y=>y.1.f) 2 ++ [(32+g.1.f.aL,jb R.ch.ar g.1.f 2)])) yz ?_)
  rintro _ _ ⟨rfl,rfl⟩
  refine jC ?_
  refine⟨i+1,hi2,by dsimp only;omega,aH,?_⟩
  dsimp only
  rw[show refs R.ch.ar ((rows.take (i+1)).map fun y=>y.1.f) 2=refs R.ch.ar ((rows.take i).map fun y=>y.1.f) 2 ++ [(32+g.1.f.aL,jb R.ch.ar g.1.f 2)] by rw[fX,hg];simp[refs]]
  exact(bb [1,1,1,1,1,1,1,1]).aj
 obtain rfl:i=rows.length:=by omega
 rw[iT]
 have hes:refs R.ch.ar (rows.map fun y=>y.1.f) 2=iY R now:=by
  unfold iY
  rw[←hrows,mY];rfl
 have hel:(iY R now).length≤16:=by rw[←hes,refs,cY,cY];exact hrowl
 rw[hes]
 refine CN (L':=[bo p (iX R now),aZ ob (iY R now)]) (aa.rep (R:=iX R now) x (bb [2,2,2,2,2,1,1])).aj ?_
 have hl2:(step2 R now).2.length≤273000:=by
  unfold step2
  split
  ·have:=Hh now 65 ok1;omega
  ·simp
 refine CS ?_
 refine VC.bZ (σ:=Unit) (fun _=>[(0,pV p),(5,pV ob),(6,dV ob)]) (fun _=>[bo p (step2 R now).1,aZ ob (iY R now++(step2 R now).2)]) (fun _=>True) ?_ ?_
 ·have no:ur (iX R now)=false→∀{X:Cx} {y:nh},dd X (gg p (iX R now) y ob (iY R now)) [bo p (step2 R now).1,aZ ob (iY R now++(step2 R now).2)]:=fun h {X} {y}=>by
   have e:step2 R now=(iX R now,[]):=by rw[step2,h];rfl
   rw[e,br];exact nF.aj
  refine VC.bz 0 Z (bd.rep p (iX R now)) ?_
  rintro x2 -
  show VC _ _ _ (gg p (iX R now) x2 ob (iY R now)) _
  refine al ?_
  refine VG (VV (fun Fr w hF hs hS=>zP Fr w (gD.oV hS 0 Z Z Z Z Z Z).aA (gD.oV hS 0 Z Z Z Z Z Z).mem ok1.ch) Z ?_)
  refine al ?_
  cases h1:(iX R now).oa with
  | false=>
   refine VG (VY 32 false Z Z ?_)
   refine bG ?_
   refine VG (VY 38 false Z Z ?_)
   refine p9 ?_
   exact⟨(),trivial,aH,no (by rw[ur,h1];rfl)⟩
  | true=>
  refine VG (VY 32 true Z Z ?_)
  refine bG ?_
  cases h2:R.whole with
  | false=>
   refine VG (VY 38 false Z h2 ?_)
   refine p9 ?_
   exact⟨(),trivial,aH,no (by rw[ur,h1];show(true&&(R.whole&&_))=false;rw[h2];rfl)⟩
  | true=>
  refine VG (VY 38 true Z h2 ?_)
  refine bG ?_
  refine VG (VV (fun Fr w hF hs hS=>B1 Fr w (gD.oV hS 0 Z Z Z Z Z Z).aA) Z ?_)
  refine bG ?_
  refine VC.fq Z (fun h3=>?_) (fun h3=>CK ?_)
  rotate_left
  ·exact⟨(),trivial,aH,no (by rw[ur,h1,h3];show(true&&(R.whole&&_))=false;rw[h2];rfl)⟩
  have hsb:ur (iX R now)=true:=by rw[ur,h1,h3];show(true&&(R.whole&&_))=true;rw[h2];rfl
  have he2:step2 R now=jc now 65 (iX R now):=by rw[step2,hsb];rfl
  have ht:=aaT ok1
  refine CN (L':=[bo p (iX R now),aZ ob (iY R now)]) nF.aj ?_
  refine al ?_
  refine VC.loop (σ:=Nat×ay×List cm) (fun _=>[(0,pV p),(1,.int .i64 now),(5,pV ob),(6,dV ob)]) (fun y=>[bo p y.2.1,aZ ob (iY R now++y.2.2)])
   (fun y=>y.2.1.Ok∧rX y.2.1.aR<y.1∧y.2.2.length+y.1*4200≤273000∧jc now 65 (iX R now)=((jc now y.1 y.2.1).1,y.2.2++(jc now y.1 y.2.1).2)) (fun y=>y.1) (65,iX R now,[])
   ⟨ok1,by dsimp only;omega,by simp,rfl⟩ aH (by dsimp only;rw[br];exact ER) ?_
  rintro⟨k,Q,T⟩ ⟨okQ,htQ,hlT,hlp⟩
  dsimp only at okQ htQ hlT hlp ⊢
  obtain⟨k,rfl⟩:∃j,k=j+1:=⟨k-1,by omega⟩
  have q1:=okQ.au.i_;have q2:=okQ.last
  refine VC.bz 0 Z (bd.rep p Q) ?_
  rintro x3 -
  show VC _ _ _ (gg p Q x3 ob (iY R now++T)) _
  unfold gg
  refine al ?_
  refine VG (VV (fun Fr w hF hs hS=>Win.free_spec Fr w (hS.aA 3 Z) okQ.au) Z ?_)
  refine al ?_
  by_cases hroom:Q.au.room=true
  ·have hr2:Q.au.last<Q.au.done+Q.au.cap∧Q.au.last<4096:=by simpa[bJ.room] using hroom
   refine VG (VY 49 true Z (DT yg) ?_)
   refine bG ?_
   refine VG (VV (fun Fr w hF hs hS=>Lg.kJ Fr w (hS.at_ 2 Z)) Z ?_)
   refine bG ?_
   refine VG (VY 57 true Z (DT yg) ?_)
   refine bG ?_
   refine VO.aj (L':=[bo p Q,aZ ob (iY R now++T)]) (nF (x:=x3)).aj ?_
   refine VG (VK (Lc:=[bo p Q,aZ ob (iY R now++T)]) (Lr:=[]) (fun Fr w hF hs hS=>WX Fr w okQ hroom p7 now) Z Z ?_)
   rintro _ _ ⟨rfl,rfl⟩
   have hss:=MZ okQ hroom now
   refine bG ?_
   refine CC Z (fun hs=>CK ?_) (fun hs=>CX ?_)
   ·have hst:=WZ okQ now hs
    refine al ?_
    refine CK ?_
    refine⟨(k,(fi Q now).1,T++(fi Q now).2.1),⟨Df okQ hroom now,by dsimp only;omega,by dsimp only;rw[a8];omega,?_⟩,by dsimp only;omega,aH,?_⟩
    ·dsimp only
     rw[hlp,jc,if_pos hroom,if_pos hs,ed]
    ·dsimp only;rw[←ed];exact ER
   ·refine⟨(),trivial,aH,?_⟩
    rw[he2,hlp,jc,if_pos hroom,if_neg (by rw[hs];simp),←ed]
    exact ER
  ·have hr2:¬(0<max (min (Q.au.done+Q.au.cap) 4096-Q.au.last) 0):=fun h=>hroom (by simp only[bJ.room,eG,decide_eq_true_eq];omega)
   refine VG (VY 49 false Z (DF hr2) ?_)
   refine bG ?_
   refine VG (VY 57 false Z Z ?_)
   refine bG ?_
   refine VC.mh Z (CX ?_)
   refine⟨(),trivial,aH,?_⟩
   rw[he2,hlp,jc,if_neg hroom,br]
   exact(nF (x:=x3)).aj
 rintro _ -
 refine CS ?_
 refine VC.bZ (σ:=Unit) (fun _=>[(5,pV ob)]) (fun _=>[bo p (iA R now).1,aZ ob (iA R now).2]) (fun _=>True) ?_ ?_
 ·refine VC.bz 0 Z (bd.rep p (step2 R now).1) ?_
  rintro x2 -
  show VC _ _ _ (gg p (step2 R now).1 x2 ob (iY R now++(step2 R now).2)) _
  unfold gg
  refine al ?_
  refine CC Z (fun hk=>?_) (fun hk=>CK ?_)
  ·have e3:iz R now=ui (step2 R now).1:=by rw[iz,hk];rfl
   refine CN (L':=[bo p (step2 R now).1,aZ ob (iY R now++(step2 R now).2)]) (nF (x:=x2)).aj ?_
   refine al ?_
   refine VG (VK (Lc:=[bo p (step2 R now).1,aZ ob (iY R now++(step2 R now).2)]) (Lr:=[]) (fun Fr w hF hs hS=>GH Fr w ok2 p7) Z Z ?_)
   rintro _ _ ⟨rfl,rfl⟩
   refine al ?_
   exact⟨(),trivial,aH,by show dd _ _ [bo p (iz R now).1,aZ ob (iY R now++(step2 R now).2++(iz R now).2)];rw[e3];exact ER⟩
  ·have e3:iz R now=((step2 R now).1,[]):=by rw[iz,hk];rfl
   exact⟨(),trivial,aH,by show dd _ _ [bo p (iz R now).1,aZ ob (iY R now++(step2 R now).2++(iz R now).2)];rw[e3,br];exact(nF (x:=x2)).aj⟩
 rintro _ -
 refine VC.bz 1 Z (bd.out ob _) ?_
 rintro⟨a,c⟩ -
 show VC _ _ _ [pt ob [.slice a (iA R now).2.length c] CO,aq gk 30 a (iA R now).2.length c (flat rV (iA R now).2),bo p (iA R now).1] _
 refine al ?_
 exact CR (an.tmp 4 Z Z (IP 2 Z (IP 1 Z aa.nil)).aj ⟨a,c,Z,Z⟩)
end
end Rep
namespace Rep
open Go Vg T Api Kv Ch Lg Rd Win Adm Sched
attribute [local irreducible] VO VC VA
theorem Ra{c:aV}{a:Option Addr}{cap:Nat}(h:aT aD 2 Fr w a c.ms)(hl:c.ms.length≤1000000):ax Tryz.prog 71 [.agg (c.cells a cap).toArray] Fr w []
  (fun v L=>∃a' c',v=.agg (c.cells a' c').toArray∧L=[aq aP 2 a' c.ms.length c' (flat aD c.ms)]):=by
 refine TF 8 Tryz.func71 Z yp aC Z Z ?_
 refine CS (CG (VG (VB (vs:=c.cells a cap) Z (fun b=>VG (VO.alloc Z fun d=>VG (VN ?_))))))
 refine dF ?_
 refine OB ?_
 refine VG (VO.append (m:=c.ms.length) (news:=flat aD c.ms) 0 Z Z Z Z Z Z Z (aT.row cu h) (nZ vq _) Pv yg fun a' c' _=>?_)
 rw[cj,mZ]
 refine al ?_
 refine VG (VO.st 2 (cs':=c.cells a' c') Z Z Z Z uF Z Z (VG (VN ?_)))
 refine CS (CG (VG (VL 2 (c.cells a' c') Z Z Z Z (VG (VT (vs:=c.cells a' c') (cs':=c.cells a' c') 1 Z Z Z Z (NR _) Z Z Z (VG (VN ?_)))))))
 exact HY
def kO:Int:=9223372036854775807
def kH(R:ay)(c:aV):ay:={ R with aR:=R.aR.fF kO,aQ:={ R.aQ with l:=[] },ch:=c }
def gf(R:ay)(c:aV):Bool:=(bU c R.id).2&&decide ((bU c R.id).1≠R.since)
def nC(R:ay)(c:aV):Bool:=!(bU c R.id).2||decide ((bU c R.id).1≠R.since)
def iH(R:ay)(c:aV):ay:={ kH R c with log:=if gf R c then [] else R.log,au:=if gf R c then bJ.new R.cap else R.au }
def qq(R:ay)(c:aV):ay:={ iH R c with whole:=if nC R c then false else R.whole }
def cE(R:ay)(c:aV):ay:={ qq R c with since:=(bU c R.id).1,linked:=false,dQ:=0,base:=-1,au:={ (iH R c).au with bS:=(iH R c).au.last,js:=0 } }
def dP(R:ay)(c:aV):ay:=if (cE R c).whole then { cE R c with start:=(cE R c).au.last } else cE R c
def ry(R:ay)(c:aV):List cm:=refs c.ar (R.aR.aM.dD kO) 9++refs c.ar (R.aQ.l.map uU.f) 9
def pD(R:ay)(c:aV):ay×List cm:=((dP R c).df,ry R c++(dP R c).ly++(dP R c).df.fR++(dP R c).df.iU++(dP R c).df.nA)
theorem RF{R:ay}(h:R.Ok){c:aV}(hc:lW c):(kH R c).Ok:=⟨hc,h.au,h.last,h.kL,h.kM,h.gU,h.gA,by show(0:Int)≤_;have:=h.gU;exact Int.le_trans yy this,h.kR,h.lM,fun y hy=>absurd hy (oB),(by
  obtain⟨h1,h2,h3⟩:=tW h.wf kO
  intro q hq g hg
  have:=B7 h.wf h.calls kO q hq g hg
  exact this),(tW h.wf kO).1⟩
theorem J'{R:ay}(h:R.Ok){c:aV}(hc:lW c)(h0:1≤R.cap)(h1:R.cap≤16):(iH R c).Ok:=by
 have k:=RF h hc
 refine⟨hc,?_,?_,?_,?_,k.gU,k.gA,k.rl,k.kR,k.lM,k.kh,k.calls,k.wf⟩
 ·show(if gf R c then bJ.new R.cap else R.au).Ok;split;exact bJ.CH h0 h1;exact h.au
 ·show(if gf R c then bJ.new R.cap else R.au).last=((if gf R c then [] else R.log).length:Int);split;rfl;exact h.last
 ·show ∀e∈(if gf R c then [] else R.log),_;split;exact fun e he=>absurd he oB;exact h.kL
 ·show ∀e∈(if gf R c then [] else R.log),1≤e.index∧e.index≤((if gf R c then [] else R.log).length:Int);split;exact fun e he=>absurd he oB;exact h.kM
theorem Ka{R:ay}(h:R.Ok){c:aV}(hc:lW c)(h0:1≤R.cap)(h1:R.cap≤16):(cE R c).Ok:=by
 have k:=J' h hc h0 h1
 have w:=k.au
 exact⟨hc,⟨w.dO,w.fM,w.ln,w.lu,w.i_,by have:=w.ln;have:=w.lu;show 0≤(iH R c).au.last;omega,e_ _,e_ _,(by decide:(0:Int)≤4112)⟩,k.last,k.kL,k.kM,k.gU,k.gA,k.rl,k.kR,k.lM,k.kh,k.calls,k.wf⟩
theorem Fp{R:ay}(h:R.Ok){c:aV}(hc:lW c)(h0:1≤R.cap)(h1:R.cap≤16):(dP R c).Ok:=by
 have k:=Ka h hc h0 h1
 unfold dP
 split
 ·exact⟨k.ch,k.au,k.last,k.kL,k.kM,k.gU,k.gA,k.rl,k.kR,k.lM,k.kh,k.calls,k.wf⟩
 ·exact k
theorem RH{R:ay}(h:R.Ok){c:aV}(hc:lW c)(h0:1≤R.cap)(h1:R.cap≤16):(pD R c).1.Ok:=wU (Fp h hc h0 h1)
section
variable {p:Nat} {R:ay} {b:Nat} {S:List cm} {c:aV} {a:Option Addr} {cap:Nat}
theorem RJ(ok:R.Ok)(hc0:1≤R.cap)(hc1:R.cap≤16)(hS:S.length≤800000)(hm:aT aD 2 Fr w a c.ms)(hc:lW c):ax Tryz.prog 181 [.pointer (some ⟨p,0,none⟩),.agg (c.cells a cap).toArray,dV b] Fr w [bo p R,aZ b S]
  (fun v L=>v=.tuple #[]∧L=[bo p (pD R c).1,aZ b (S++(pD R c).2)]):=by
 have hg64:=Cf ok kO
 have hgc:=FO ok.calls kO
 have hrl:=ok.rl;have hrc:=ok.gA
 have hcl:=hc.len
 have ok2:=J' ok hc hc0 hc1
 have ok4:=Ka ok hc hc0 hc1
 have ok5:=Fp ok hc hc0 hc1
 refine TF 143 Tryz.func181 Z yp aC Z Z ?_
 refine CS (CG (VG (VB (vs:=c.cells a cap) Z fun cb=>VG (VN ?_))))
 refine D8 ?_
 rintro x -
 refine CN (L':=[bj x.ap R.aR,pt p (bu R x) cT,aq aP 2 x.a R.ch.ms.length x.c (flat aD R.ch.ms),bL x.lp R.log,bA x.wp R.au,bC x.rp R.aQ,pt cb (c.cells a cap) cM,aZ b S]) (bb [4,0,0,0,0,0,0,0]).aj ?_
 refine CS ?_
 refine CD (ts 0 4 (ts 5 4 (.only 4 (.only 9 (ts 10 2 .nil))))) yp yr ?_
 refine fj ?_
 refine AG (AO (OC (Lc:=[bj x.ap R.aR]) (R:=FN x.ap (R.aR.fF kO) (R.aR.aM.dD kO)) Z (.refl _) (fun Fr w hF hs hS=>Adm.FF Fr w x.ap R.aR ok.calls)) Z ?_ ?_)
 ·rintro _ _ ⟨_,⟨r,rok,hrx,rfl,rfl⟩,rfl⟩
  exact yu
 rintro _ _ ⟨_,⟨r,rok,hrx,rfl,rfl⟩,rfl⟩
 refine jh ?_
 refine VA.aj (L':=[bC x.rp R.aQ,r.h cq,bj x.ap (R.aR.fF kO),pt p (bu R x) cT,aq aP 2 x.a R.ch.ms.length x.c (flat aD R.ch.ms),bL x.lp R.log,bA x.wp R.au,pt cb (c.cells a cap) cM,aZ b S]) (bb [6,0,0,0,0,0,0,0,0]).aj ?_
 refine AG (AO (OC (Lc:=[bC x.rp R.aQ]) (R:=fun v L=>∃a c rows,rows.map Prod.fst=R.aQ.l∧v=.slice a rows.length c∧L=[bC x.rp { R.aQ with l:=[] },aq eJ 34 a rows.length c (flat dq rows)]) Z (.refl _) (fun Fr w hF hs hS=>Rd.FF Fr w ok.gU yg)) Z ?_ ?_)
 ·rintro _ _ ⟨_,⟨ga,gc,rows,hrows,rfl,rfl⟩,rfl⟩
  exact yu
 rintro _ _ ⟨_,⟨ga,gc,rows,hrows,rfl,rfl⟩,rfl⟩
 have hrowl:rows.length≤16:=by
  have:=congrArg List.length hrows
  rw[cY] at this
  omega
 have hrv:r.v=.slice r.addr r.xs.length r.cap:=rfl
 rw[hrv]
 refine r6 ?_
 show VC _ _ _ [bC x.rp (kH R c).aQ,aq eJ 34 ga rows.length gc (flat dq rows),r.h cq,bj x.ap (kH R c).aR,pt p (bu R x) cT,aq aP 2 x.a R.ch.ms.length x.c (flat aD R.ch.ms),bL x.lp R.log,bA x.wp R.au,pt cb (c.cells a cap) cM,aZ b S] _
 refine mV ?_
 refine al ?_
 refine VG (VL 8 (c.cells a cap) Z Z Z Z ?_)
 refine OD ?_
 rintro _ _ ⟨a',c',rfl,rfl⟩
 refine VG (VT (vs:=c.cells a' c') (cs':=bu (kH R c) { x with a:=a',c:=c' }) 5 Z Z Z Z (by show 4+3≤17;omega) Z Z Z ?_)
 refine gm ?_
 refine CN (L':=[pt p (bu (kH R c) { x with a:=a',c:=c' }) cT,aq aP 2 a' c.ms.length c' (flat aD c.ms),bL x.lp R.log,bA x.wp R.au,bj x.ap (kH R c).aR,bC x.rp (kH R c).aQ,aq eJ 34 ga rows.length gc (flat dq rows),r.h cq,aZ b S]) (bb [5,0,5,5,3,0,0,0,2]).aj ?_
 refine CS (CD (ts 0 8 (.only 8 (ts 9 5 .nil))) yp yr ?_)
 refine bp ?_
 refine AG (VA.dE 0 (c.cells a' c') Z Z Z Z Z ?_)
 refine bp ?_
 refine AG (AR (fun Fr w hF hs hS=>Ch.Dg Fr w (aT.aq cu (hS.at_ 1 Z)) yg R.id) Z Z yu ?_)
 refine bp ?_
 have hE:∀{E:Env} {s:nh},True:=fun {_} {_}=>trivial
 refine CS ?_
 refine VC.bZ (σ:=nh) (fun _=>[(0,pV p),(2,dV b),(6,.slice r.addr r.xs.length r.cap),(7,.slice ga rows.length gc),(8,.int .i64 (bU c R.id).1),(9,.bool (bU c R.id).2)])
  (fun y=>[pt p (bu (iH R c) y) cT,aq aP 2 y.a c.ms.length y.c (flat aD c.ms),bL y.lp (iH R c).log,bA y.wp (iH R c).au,bj y.ap (kH R c).aR,bC y.rp (kH R c).aQ,aq eJ 34 ga rows.length gc (flat dq rows),r.h cq,aZ b S]) (fun _=>True) ?_ ?_
 ·have S6:∀{E:Env},Vg.look E 0=some (.pointer (some ⟨p,0,none⟩))→Vg.look E 2=some (dV b)→Vg.look E 6=some (.slice r.addr r.xs.length r.cap)→Vg.look E 7=some (.slice ga rows.length gc)→Vg.look E 8=some (.int .i64 (bU c R.id).1)→Vg.look E 9=some (.bool (bU c R.id).2) →
    Sub [(0,pV p),(2,dV b),(6,.slice r.addr r.xs.length r.cap),(7,.slice ga rows.length gc),(8,.int .i64 (bU c R.id).1),(9,.bool (bU c R.id).2)] E:=fun h0 h1 h2 h3 h4 h5=>SC h0 (SC h1 (SC h2 (SC h3 (SC h4 (SC h5 (SN _))))))
  have no:gf R c=false→∀{X:Cx},dd X [pt p (bu (kH R c) { x with a:=a',c:=c' }) cT,aq aP 2 a' c.ms.length c' (flat aD c.ms),bL x.lp R.log,bA x.wp R.au,bj x.ap (kH R c).aR,bC x.rp (kH R c).aQ,aq eJ 34 ga rows.length gc (flat dq rows),r.h cq,aZ b S]
    [pt p (bu (iH R c) { x with a:=a',c:=c' }) cT,aq aP 2 a' c.ms.length c' (flat aD c.ms),bL x.lp (iH R c).log,bA x.wp (iH R c).au,bj x.ap (kH R c).aR,bC x.rp (kH R c).aQ,aq eJ 34 ga rows.length gc (flat dq rows),r.h cq,aZ b S]:=fun h {X}=>by
   rw[show(iH R c).log=R.log by show(if gf R c then [] else R.log)=_;rw[h];rfl,show(iH R c).au=R.au by show(if gf R c then bJ.new R.cap else R.au)=_;rw[h];rfl]
   exact ER
  refine al ?_
  by_cases h1:(bU c R.id).2=true
  rotate_left
  ·have h1:(bU c R.id).2=false:=by simpa using h1
   refine VG (VY 42 false Z h1 ?_)
   refine p9 ?_
   exact⟨{ x with a:=a',c:=c' },trivial,S6 Z Z Z Z Z Z,no (by rw[gf,h1];rfl)⟩
  refine VG (VY 42 true Z h1 ?_)
  refine bG ?_
  refine VC.dp (i:=(bU c R.id).1) (j:=R.since) Z (fun h2=>?_) (fun h2=>CK ?_)
  rotate_left
  ·exact⟨{ x with a:=a',c:=c' },trivial,S6 Z Z Z Z Z Z,no (by rw[gf,h1,h2];simp)⟩
  refine al ?_
  refine VG (VK (Lc:=[]) (fun Fr w _ _ _=>Lg.lK Fr w) Z Z ?_)
  rintro _ _ ⟨lp,rfl,rfl⟩
  refine VG (VO.st 1 (cs':=bu (kH R c) { x with a:=a',c:=c',lp:=lp }) Z Z Z Z (by show 9<17;omega) Z Z ?_)
  refine dF ?_
  refine VG (VK (Lc:=[]) (fun Fr w _ _ _=>Win.lK Fr w hc0 hc1) Z Z ?_)
  rintro _ _ ⟨wp,rfl,rfl⟩
  refine al ?_
  refine VG (VO.st 2 (cs':=bu (kH R c) { x with a:=a',c:=c',lp:=lp,wp:=wp }) Z Z Z Z (by show 10<17;omega) Z Z ?_)
  refine al ?_
  have hn:gf R c=true:=by rw[gf,h1,DT h2];rfl
  refine⟨{ x with a:=a',c:=c',lp:=lp,wp:=wp },trivial,S6 Z Z Z Z Z Z,?_⟩
  rw[show(iH R c).log=[] by show(if gf R c then [] else R.log)=_;rw[hn];rfl,show(iH R c).au=bJ.new R.cap by show(if gf R c then bJ.new R.cap else R.au)=_;rw[hn];rfl]
  exact(bb [2,2,1,0,2,2,2,2,2]).aj
 rintro y -
 have ewhole:(iH R c).whole=R.whole:=rfl
 refine CS ?_
 refine VC.bZ (σ:=Unit) (fun _=>[(0,pV p),(2,dV b),(6,.slice r.addr r.xs.length r.cap),(7,.slice ga rows.length gc),(8,.int .i64 (bU c R.id).1)])
  (fun _=>[pt p (bu (qq R c) y) cT,aq aP 2 y.a c.ms.length y.c (flat aD c.ms),bL y.lp (iH R c).log,bA y.wp (iH R c).au,bj y.ap (kH R c).aR,bC y.rp (kH R c).aQ,aq eJ 34 ga rows.length gc (flat dq rows),r.h cq,aZ b S]) (fun _=>True) ?_ ?_
 ·have S5:∀{E:Env},Vg.look E 0=some (.pointer (some ⟨p,0,none⟩))→Vg.look E 2=some (dV b)→Vg.look E 6=some (.slice r.addr r.xs.length r.cap)→Vg.look E 7=some (.slice ga rows.length gc)→Vg.look E 8=some (.int .i64 (bU c R.id).1) →
    Sub [(0,pV p),(2,dV b),(6,.slice r.addr r.xs.length r.cap),(7,.slice ga rows.length gc),(8,.int .i64 (bU c R.id).1)] E:=fun h0 h1 h2 h3 h4=>SC h0 (SC h1 (SC h2 (SC h3 (SC h4 (SN _)))))
  have yes:nC R c=true→bu (qq R c) y=bu { iH R c with whole:=false } y:=fun h=>by
   rw[show qq R c={ iH R c with whole:=false } by unfold qq;rw[h];rfl]
  have no:nC R c=false→bu (qq R c) y=bu (iH R c) y:=fun h=>by
   rw[show qq R c=iH R c by unfold qq;rw[h];rfl]
  refine al ?_
  by_cases h1:(bU c R.id).2=true
  rotate_left
  ·have h1:(bU c R.id).2=false:=by simpa using h1
   refine VG (VY 67 true Z (by rw[h1];rfl) ?_)
   refine sd ?_
   refine OE ?_
   refine al ?_
   refine⟨(),trivial,S5 Z Z Z Z Z,?_⟩
   dsimp only
   rw[yes (by rw[nC,h1];rfl)]
   exact ER
  refine VG (VY 67 false Z (by rw[h1];rfl) ?_)
  refine bG ?_
  refine VC.dp (i:=(bU c R.id).1) (j:=R.since) Z (fun h2=>?_) (fun h2=>CK ?_)
  ·refine al ?_
   refine OE ?_
   refine al ?_
   refine⟨(),trivial,S5 Z Z Z Z Z,?_⟩
   dsimp only
   rw[yes (by rw[nC,h1,DT h2];rfl)]
   exact ER
  ·refine⟨(),trivial,S5 Z Z Z Z Z,?_⟩
   dsimp only
   rw[no (by rw[nC,h1,h2];simp)]
   exact ER
 rintro _ -
 refine al ?_
 refine VG (VO.st 0 (cs':=bu { qq R c with since:=(bU c R.id).1 } y) Z Z Z Z (by show 7<17;omega) Z Z ?_)
 refine gm ?_
 refine al ?_
 refine VG (VO.st 0 (cs':=bu { qq R c with since:=(bU c R.id).1,linked:=false } y) Z Z Z Z (by show 15<17;omega) Z Z ?_)
 refine al ?_
 refine VG (VO.st 0 (cs':=bu { qq R c with since:=(bU c R.id).1,linked:=false,dQ:=0 } y) Z Z Z Z (by show 16<17;omega) Z Z ?_)
 refine al ?_
 refine VG (VO.st 0 (cs':=bu (cE R c) y) Z Z Z Z (by show 14<17;omega) Z Z ?_)
 refine al ?_
 refine VG (VQ 3 Z (fun Fr w hF hs hS=>Win.Wt Fr w ok2.au) Z (ψ:=fun v H=>v=.tuple #[]∧H=bA y.wp (cE R c).au) yz ?_)
 rintro _ _ ⟨rfl,rfl⟩
 refine gm ?_
 show VC _ _ _ [pt p (bu (cE R c) y) cT,aq aP 2 y.a c.ms.length y.c (flat aD c.ms),bL y.lp (cE R c).log,bA y.wp (cE R c).au,bj y.ap (cE R c).aR,bC y.rp (cE R c).aQ,aq eJ 34 ga rows.length gc (flat dq rows),r.h cq,aZ b S] _
 have q0:=ok4.au.dO
 refine CS ?_
 refine VC.bZ (σ:=Unit) (fun _=>[(0,pV p),(2,dV b),(6,.slice r.addr r.xs.length r.cap),(7,.slice ga rows.length gc)])
  (fun _=>[pt p (bu (dP R c) y) cT,aq aP 2 y.a c.ms.length y.c (flat aD c.ms),bL y.lp (dP R c).log,bA y.wp (dP R c).au,bj y.ap (dP R c).aR,bC y.rp (dP R c).aQ,aq eJ 34 ga rows.length gc (flat dq rows),r.h cq,aZ b S]) (fun _=>True) ?_ ?_
 ·refine al ?_
  refine CC Z (fun h1=>?_) (fun h1=>CK ?_)
  ·have e5:dP R c={ cE R c with start:=(cE R c).au.last }:=by rw[dP,if_pos h1]
   refine al ?_
   refine VG (VV (fun Fr w hF hs hS=>Win.qz Fr w (hS.aA 3 Z) q0) Z ?_)
   refine al ?_
   refine VG (VO.st 0 (cs':=bu { cE R c with start:=(cE R c).au.last } y) Z Z Z Z (by show 13<17;omega) Z Z ?_)
   refine al ?_
   refine⟨(),trivial,aH,?_⟩
   dsimp only
   rw[e5];exact ER
  ·have e5:dP R c=cE R c:=by rw[dP,if_neg tw]
   refine⟨(),trivial,aH,?_⟩
   dsimp only
   rw[e5];exact ER
 rintro _ -
 have hch:(dP R c).ch=c:=by unfold dP;split<;>rfl
 have hhp:∀S':List cm,[pt p (bu (dP R c) y) cT,aq aP 2 y.a c.ms.length y.c (flat aD c.ms),bL y.lp (dP R c).log,bA y.wp (dP R c).au,bj y.ap (dP R c).aR,bC y.rp (dP R c).aQ,aq eJ 34 ga rows.length gc (flat dq rows),r.h cq,aZ b S']
  = [pt p (bu (dP R c) y) cT,aq aP 2 y.a (dP R c).ch.ms.length y.c (flat aD (dP R c).ch.ms),bL y.lp (dP R c).log,bA y.wp (dP R c).au,bj y.ap (dP R c).aR,bC y.rp (dP R c).aQ,aq eJ 34 ga rows.length gc (flat dq rows),r.h cq,aZ b S']:=fun S'=>by rw[hch]
 rw[hhp]
 generalize hR5:dP R c=R5 at *
 refine al ?_
 refine VC.loop (σ:=Nat) (fun i=>[(0,pV p),(2,dV b),(7,.slice ga rows.length gc),(108,.slice r.addr r.xs.length r.cap),(109,.int .i64 r.xs.length),(110,.int .i64 i)])
  (fun i=>[pt p (bu R5 y) cT,aq aP 2 y.a R5.ch.ms.length y.c (flat aD R5.ch.ms),bL y.lp R5.log,bA y.wp R5.au,bj y.ap R5.aR,bC y.rp R5.aQ,aq eJ 34 ga rows.length gc (flat dq rows),r.h cq,aZ b (S++refs c.ar ((R.aR.aM.dD kO).take i) 9)])
  (fun i=>i≤r.xs.length) (fun i=>r.xs.length-i) 0
  (bH _) aH (by rw[qi,show refs c.ar [] 9=[] from rfl,br];exact ER) ?_
 intro i hi
 have hxl:r.xs.length=(R.aR.aM.dD kO).length:=by rw[←hrx];simp
 refine al ?_
 refine CP Z (fun h1=>CK ?_) (fun h1=>CX ?_)
 ·have hi2:i<r.xs.length:=by omega
  obtain⟨g,hg⟩:∃g,r.xs[i]?=some g:=⟨_,GE hi2⟩
  have hgg:(R.aR.aM.dD kO)[i]?=some g.1:=by rw[←hrx,dH,hg];rfl
  have hcg:=hgc g.1 (ME hgg)
  have hc6:=ok.wf.c1
  obtain⟨gb,go,r1,r2,hrd⟩:=rok.ld (t:=cq) hg rfl
  rw[r2]
  refine uH ?_
  refine VG (VD Z Z ((hrd 7 Z).1 _ Z Z) ?_)
  refine VG (VO.alloc Z fun tb=>?_)
  refine VG (VT (vs:=aY g) 0 Z Z Z Z (NR _) Z Z Z ?_)
  refine al ?_
  refine VG (VL 0 (aY g) Z Z Z Z ?_)
  refine VG (VQ 9 Z (fun Fr w hF hs hS=>vD Fr w (hS.aA 1 Z) Pu g.1 g.2 hcg.1.1 (by have:=hcg.1.2;omega) 9) Z (ψ:=fun v H=>v=.tuple #[]∧H=aZ b (S++refs c.ar ((R.aR.aM.dD kO).take i) 9 ++ [(32+g.1.aL,jb c.ar g.1 9)])) Px ?_)
  rintro _ _ ⟨rfl,rfl⟩
  refine jC ?_
  refine⟨i+1,hi2,by dsimp only;omega,aH,?_⟩
  dsimp only
  rw[show refs c.ar ((R.aR.aM.dD kO).take (i+1)) 9=refs c.ar ((R.aR.aM.dD kO).take i) 9 ++ [(32+g.1.aL,jb c.ar g.1 9)] by rw[fX,hgg];simp[refs],←ed]
  exact(bb [1,1,1,1,1,1,1,1,1]).aj
 obtain rfl:i=r.xs.length:=by omega
 rw[hxl,iT]
 have hrl1:(refs c.ar (R.aR.aM.dD kO) 9).length≤64:=by rw[refs,cY];exact hg64
 generalize hS1:S++refs c.ar (R.aR.aM.dD kO) 9=S1
 have hS1l:S1.length≤800064:=by rw[←hS1,a8];omega
 refine VC.bz 6 Z (bd.rl eJ ga gc rows Ap) ?_
 rintro q ⟨qok,hqv,hqx⟩
 show VC _ _ _ [q.h eJ,pt p (bu R5 y) cT,aq aP 2 y.a R5.ch.ms.length y.c (flat aD R5.ch.ms),bL y.lp R5.log,bA y.wp R5.au,bj y.ap R5.aR,bC y.rp R5.aQ,r.h cq,aZ b S1] _
 refine al ?_
 have hexp:∀i,i≤rows.length→((rows.take i).map fun y=>y.1.f).length=i:=fun i hi=>by simp;omega
 refine VC.loop (σ:=Nat) (fun i=>[(0,pV p),(2,dV b),(119,.slice ga rows.length gc),(120,.int .i64 rows.length),(121,.int .i64 i)])
  (fun i=>[q.h eJ,pt p (bu R5 y) cT,aq aP 2 y.a R5.ch.ms.length y.c (flat aD R5.ch.ms),bL y.lp R5.log,bA y.wp R5.au,bj y.ap R5.aR,bC y.rp R5.aQ,aZ b (S1++refs c.ar ((rows.take i).map fun y=>y.1.f) 9)])
  (fun i=>i≤rows.length) (fun i=>rows.length-i) 0
  (bH _) aH (by
   rw[qi,show refs c.ar (List.map (fun y=>y.1.f) ([]:List q_)) 9=[] from rfl,br]
   exact(bb [0,0,0,0,0,0,0,1]).aj) ?_
 intro i hi
 refine al ?_
 refine CP Z (fun h1=>CK ?_) (fun h1=>CX ?_)
 ·have hi2:i<rows.length:=by omega
  obtain⟨g,hg⟩:∃g,rows[i]?=some g:=⟨_,GE hi2⟩
  have hgm:g.1∈R.aQ.l:=by
   rw[←hrows]
   exact cy.2 ⟨g,ME hg,Z⟩
  have hcg:=ok.kh g.1 hgm
  obtain⟨gb,go,r1,r2,hrd⟩:=qok.ld (t:=eJ) (hqx▸hg) rfl
  obtain rfl:ga=some ⟨gb,go,none⟩:=by rw[RL.v,r2,hqx] at hqv;injection hqv with e1;exact e1.symm
  refine uH ?_
  refine A7 ?_
  refine VG (VO.alloc Z fun tb=>?_)
  refine HX ?_
  refine al ?_
  refine VG (VL 0 (cF g.1.f g.2) Z Z Z Z ?_)
  refine VG (VQ 8 Z (fun Fr w hF hs hS=>vD Fr w (hS.aA 2 Z) (by rw[a8,refs,cY,hexp i yg];omega) g.1.f g.2 hcg.1 yg 9) Z (ψ:=fun v H=>v=.tuple #[]∧H=aZ b (S1++refs c.ar ((rows.take i).map fun y=>y.1.f) 9 ++ [(32+g.1.f.aL,jb c.ar g.1.f 9)])) Px ?_)
  rintro _ _ ⟨rfl,rfl⟩
  refine jC ?_
  refine⟨i+1,hi2,by dsimp only;omega,aH,?_⟩
  dsimp only
  rw[show refs c.ar ((rows.take (i+1)).map fun y=>y.1.f) 9=refs c.ar ((rows.take i).map fun y=>y.1.f) 9 ++ [(32+g.1.f.aL,jb c.ar g.1.f 9)] by rw[fX,hg];simp[refs],←ed]
  exact(bb [1,1,1,1,1,1,1,1]).aj
 obtain rfl:i=rows.length:=by omega
 rw[iT]
 have hes:S1++refs c.ar (rows.map fun y=>y.1.f) 9=S++ry R c:=by
  rw[←hS1,ry,←hrows,mY,ed];rfl
 have hel:(S++ry R c).length≤800080:=by rw[←hes,a8,refs,cY,cY];omega
 rw[hes]
 refine CN (L':=[bo p R5,aZ b (S++ry R c)]) (aa.rep (R:=R5) y (bb [1,1,1,1,1,1,1])).aj ?_
 generalize hS2:S++ry R c=S2 at *
 refine al ?_
 refine VG (VK (Lc:=[bo p R5,aZ b S2]) (Lr:=[]) (fun Fr w hF hs hS=>Fw Fr w ok5 yg) Z Z ?_)
 rintro _ _ ⟨rfl,rfl⟩
 have fl:=zA ok5
 have okf:=wU ok5
 refine al ?_
 refine VO.bz 0 Z (bd.rep p R5.df) ?_
 rintro y2 -
 show VO _ _ _ _ _ (gg p R5.df y2 b (S2++R5.ly)) _
 unfold gg
 refine al ?_
 refine VG (VQ 6 Z (fun Fr w hF hs hS=>Cg Fr w (gD.oV hS 0 Z Z Z Z Z Z) okf.ch okf.au p7) Z (ψ:=fun v H=>v=.tuple #[]∧H=aZ b (S2++R5.ly++R5.df.fR)) yz ?_)
 rintro _ _ ⟨rfl,rfl⟩
 have gl:R5.df.fR.length≤1:=by unfold ay.fR;split<;>simp
 refine al ?_
 refine VG (VQ 6 Z (fun Fr w hF hs hS=>Hp Fr w (gD.oV hS 0 Z Z Z Z Z Z) okf.ch (by rw[a8,a8];omega)) Z (ψ:=fun v H=>v=.tuple #[]∧H=aZ b (S2++R5.ly++R5.df.fR++R5.df.iU)) yz ?_)
 rintro _ _ ⟨rfl,rfl⟩
 have bl:R5.df.iU.length≤1:=by unfold ay.iU;split<;>simp
 refine al ?_
 refine VG (VQ 6 Z (fun Fr w hF hs hS=>Nj Fr w (hS.aA 0 Z) (by rw[a8,a8,a8];omega)) Z (ψ:=fun v H=>v=.tuple #[]∧H=aZ b (S2++R5.ly++R5.df.fR++R5.df.iU++R5.df.nA)) yz ?_)
 rintro _ _ ⟨rfl,rfl⟩
 refine al ?_
 refine an.void Z (nF (R:=R5.df) (x:=y2)).aj ⟨rfl,?_⟩
 simp only[pD,hR5,←hS2,ed]
end
end Rep
namespace Rep
open Go Vg T Api Kv Ch Lg Rd Win Adm Sched Conf
attribute [local irreducible] VO VC VA
def jX(n:Nat):List aS:=(List.range n).map fun(i:Nat)=>((i:Int),(1:Int))
theorem u7(n:Nat):(jX n).length=n:=by simp[jX]
theorem R4(n:Nat):jX (n+1)=jX n ++ [((n:Int),(1:Int))]:=by simp[jX,tH]
def bM(c:ba):aV:=⟨1,jX c.chain.toNat,-1⟩
def rm:aV:=⟨0,[],0⟩
theorem kG{c:ba}(h:c=bh c):(1≤c.nodes∧c.nodes≤6)∧(1≤c.chain∧c.chain≤c.nodes)∧(1≤c.gY∧c.gY≤16)∧(1≤c.reads∧c.reads≤16)∧(1≤c.bK∧c.bK≤6):=by
 have e1:c.nodes=aF c.nodes 1 6:=congrArg ba.nodes h
 have e2:c.chain=aF c.chain 1 (aF c.nodes 1 6):=congrArg ba.chain h
 have e3:c.gY=aF c.gY 1 16:=congrArg ba.gY h
 have e4:c.reads=aF c.reads 1 16:=congrArg ba.reads h
 have e5:c.bK=aF c.bK 1 6:=congrArg ba.bK h
 have n1:=kc (x:=c.nodes) (lo:=1) (hi:=6) yy
 have n2:=kc (x:=c.chain) (lo:=1) (hi:=aF c.nodes 1 6) n1.1
 have n3:=kc (x:=c.gY) (lo:=1) (hi:=16) yy
 have n4:=kc (x:=c.reads) (lo:=1) (hi:=16) yy
 have n5:=kc (x:=c.bK) (lo:=1) (hi:=6) yy
 omega
theorem Kp(c:ba)(a:Option Addr)(cap:Nat)(hq:gp Fr w a c.qs)(ha:pk a)(hcap:c.qs.length≤cap):ax Tryz.prog 43 [.agg (c.cells a cap).toArray] Fr w []
  (fun v L=>if c=bh c then ∃a' c',v=.tuple #[.agg ((bM c).cells a' c').toArray,.int .i64 0]∧L=[aq aP 2 a' (bM c).ms.length c' (flat aD (bM c).ms)] else v=.tuple #[.agg (rm.cells none 0).toArray,.int .i64 2]∧L=[]):=by
 refine TF 27 Tryz.func43 Z yp aC Z Z ?_
 refine CS (CG (VG (VB (vs:=c.cells a cap) Z fun x=>VG (VO.alloc Z fun d=>?_))))
 refine dF ?_
 refine vP ?_
 refine VG (VV (fun Fr w hF hs _=>Conf.gv Fr w c a cap (pG hq hF hs) ha hcap) Z ?_)
 refine al ?_
 refine VC.dp Z (fun h1=>?_) (fun h1=>CK ?_)
 ·have hc:¬c=bh c:=fun e=>h1 (by rw[mI,if_pos e])
  have hc2:mI c=2:=by rw[mI,if_neg hc]
  refine al ?_
  refine VG (VI (LB (pv:=[]) (rm.cells none 0) Z Z Z yp Z) ?_)
  refine al ?_
  refine HZ ?_
  refine al ?_
  refine CR (an.dt 2 3 Z Z Z (aw.many 0 Z Z) Z aa.nil.aj ?_)
  rw[if_neg hc,hc2];exact⟨rfl,rfl⟩
 have hc:c=bh c:=by
  apply Decidable.byContradiction
  intro hc
  rw[mI,if_neg hc] at h1
  cases h1
 have hb:=kG hc
 refine al ?_
 refine VG (VI (LB (pv:=[(0,.int .i64 1),(2,.int .i64 (-1))]) [.int .i64 1,.slice none 0 0,.int .i64 (-1)] Z Z Z yp Z) ?_)
 refine al ?_
 refine VG (VT (vs:=[.int .i64 1,.slice none 0 0,.int .i64 (-1)]) (cs':=[.int .i64 1,.slice none 0 0,.int .i64 (-1)]) 0 Z Z Z Z (NR _) Z Z Z ?_)
 refine dF ?_
 refine VC.loop (σ:=Nat×Option Addr×Nat) (fun y=>[(2,pV d),(14,.int .i64 c.chain),(15,.int .i64 y.1)])
  (fun y=>[aq aP 2 y.2.1 y.1 y.2.2 (flat aD (jX y.1)),pt d [.int .i64 1,.slice y.2.1 y.1 y.2.2,.int .i64 (-1)] cM])
  (fun y=>(y.1:Int)≤c.chain) (fun y=>c.chain.toNat-y.1) (0,none,0)
  fB aH (aa.cK (IP 0 rfl aa.nil)).aj ?_
 rintro⟨i,a',c'⟩ hi
 dsimp only at hi ⊢
 refine al ?_
 refine CP Z (fun h1=>CK ?_) (fun h1=>CX ?_)
 ·refine dF ?_
  refine VG (VI (LB (pv:=[(0,.int .i64 i),(1,.int .i64 1)]) (aD ((i:Int),1)) Z Z Z yp Z) ?_)
  refine VG (VO.buildSlice (n:=1) (pv:=[(0,.agg (aD ((i:Int),1)).toArray)]) (aD ((i:Int),1)) Z Z Z Z yy (eY Z Z Z) fun nb=>?_)
  refine VG (VO.append (m:=1) (news:=aD ((i:Int),1)) 1 Z Z Z Z Z Z Z (dm.pt 0 Z Z Z) Z (kk (k:=101) yg yy) yg fun a2 c2 hc2=>?_)
  refine al ?_
  refine VG (VO.st 2 (cs':=[.int .i64 1,.slice a2 (i+1) c2,.int .i64 (-1)]) Z Z Z Z uF Z Z ?_)
  refine jC ?_
  refine⟨(i+1,a2,c2),by dsimp only;omega,by dsimp only;omega,aH,?_⟩
  dsimp only
  rw[R4,fu,lz,sM,br]
  exact(bb [0,1]).aj
 ·obtain rfl:i=c.chain.toNat:=by omega
  have e0:(bM c).ms.length=c.chain.toNat:=u7 _
  have e1:(bM c).cells a' c'=[.int .i64 1,.slice a' c.chain.toNat c',.int .i64 (-1)]:=by rw[aV.cells,e0];rfl
  refine al ?_
  refine VG (VL 1 [.int .i64 1,.slice a' c.chain.toNat c',.int .i64 (-1)] Z Z Z Z ?_)
  refine VG (VT (vs:=[.int .i64 1,.slice a' c.chain.toNat c',.int .i64 (-1)]) (cs':=[.int .i64 1,.slice a' c.chain.toNat c',.int .i64 (-1)]) 1 Z Z Z Z (NR _) Z Z Z ?_)
  refine al ?_
  refine CR (an.dt 2 3 Z Z Z (aw.many 1 Z Z) Z (IP 0 Z aa.nil).aj ?_)
  rw[if_pos hc,e0];exact⟨a',c',by rw[e1];rfl,rfl⟩
def iv(c:ba)(id:Int):ay:={ id:=id,bK:=c.bK,cap:=c.gY,iu:=c.reads,ch:=rm,since:=0,whole:=false,log:=[],au:=bJ.new c.gY,aR:=qC c,aQ:=eW.new c.reads,start:=-1,base:=-1,linked:=false,dQ:=0 }
def cJ(c:ba)(id:Int)(blank:Bool):ay:=
 if blank then iv c id else if (bU (bM c) id).2 then { iv c id with ch:=bM c,since:=(bU (bM c) id).1,whole:=true,start:=0 } else { iv c id with ch:=bM c }
def sT(c:ba)(id:Int):Prop:=c=bh c∧0≤id∧id<c.nodes
instance (c:ba) (id:Int):Decidable (sT c id):=by unfold sT;infer_instance
theorem Gi{c:ba}(h:c=bh c)(id:Int){C:aV}(hC:lW C)(s t:Int)(wh:Bool):({ iv c id with ch:=C,since:=s,whole:=wh,start:=t }:ay).Ok:=by
 have hb:=kG h
 refine⟨hC,bJ.CH hb.2.2.1.1 hb.2.2.1.2,Z,fun e he=>absurd he oB,fun e he=>absurd he oB,hb.2.2.2.1.1,hb.2.2.2.1.2,?_,e_ _,(by decide:(0:Int)≤100000000),fun e he=>absurd he oB,UG c,LG h⟩
 show(0:Int)≤c.reads;omega
theorem Ko{c:ba}(h:c=bh c):lW (bM c):=⟨by have hb:=kG h;show(jX _).length≤1000;rw[u7];omega⟩
theorem UI{c:ba}(h:c=bh c)(id:Int)(blank:Bool):(cJ c id blank).Ok:=by
 unfold cJ
 split
 ·exact Gi h id ⟨by decide⟩ 0 (-1) false
 split
 ·exact Gi h id (Ko h) _ 0 true
 ·exact Gi h id (Ko h) 0 (-1) false
def Aw(R:ay)(a:Option Addr)(c:Nat)(l w d r:Value):List Value:=[.int .i64 R.id,.int .i64 R.bK,.int .i64 R.cap,.int .i64 R.iu,.int .i64 R.ch.ar,.slice a R.ch.ms.length c,.int .i64 R.ch.drain,.int .i64 R.since,.bool R.whole,
 l,w,d,r,.int .i64 R.start,.int .i64 R.base,.bool R.linked,.int .i64 R.dQ]
abbrev vA(b:Nat):Value:=.pointer (some ⟨b,0,none⟩)
theorem lK(c:ba)(a:Option Addr)(cap:Nat)(hq:gp Fr w a c.qs)(ha:pk a)(hcap:c.qs.length≤cap)(id:Int)(blank:Bool):ax Tryz.prog 17 [.agg (c.cells a cap).toArray,.int .i64 id,.bool blank] Fr w []
  (fun v L=>if sT c id then ∃p,v=.tuple #[.pointer (some ⟨p,0,none⟩),.int .i64 0]∧L=[bo p (cJ c id blank)] else v=.tuple #[.pointer none,.int .i64 2]∧L=[]):=by
 refine TF 93 Tryz.func17 Z yp aC Z Z ?_
 refine CS (CG (VG (VB (vs:=c.cells a cap) Z fun x=>?_)))
 refine uI ?_
 refine VG (VK (Lc:=[]) (fun Fr w hF hs _=>Kp Fr w c a cap (pG hq hF hs) ha hcap) Z Z ?_)
 intro v L hv
 by_cases hc:c=bh c
 rotate_left
 ·rw[if_neg hc] at hv
  obtain⟨rfl,rfl⟩:=hv
  have hno:¬sT c id:=fun h=>hc h.1
  refine al ?_
  refine VG (VO.alloc Z fun d=>?_)
  refine HZ ?_
  refine al ?_
  refine VG (VY 20 true Z Z ?_)
  refine bG ?_
  refine VG (VY 24 true Z Z ?_)
  refine sd ?_
  refine H0 ?_
  rw[if_neg hno];exact⟨rfl,rfl⟩
 rw[if_pos hc] at hv
 obtain⟨a1,c1,rfl,rfl⟩:=hv
 have hb:=kG hc
 have hfl:(bM c).ms.length≤6:=by show(jX _).length≤6;rw[u7];omega
 refine al ?_
 refine VG (VO.alloc Z fun d=>?_)
 refine VG (VT (vs:=(bM c).cells a1 c1) (cs':=(bM c).cells a1 c1) 0 Z Z Z Z (NR _) Z Z Z ?_)
 refine al ?_
 refine VG (VY 20 false Z Z ?_)
 refine bG ?_
 by_cases h0:id<0
 ·have hno:¬sT c id:=fun h=>by have:=h.2.1;omega
  refine VG (VY 24 true Z (DT h0) ?_)
  refine sd ?_
  refine H0 ?_
  rw[if_neg hno];exact⟨rfl,rfl⟩
 refine VG (VY 24 false Z (DF h0) ?_)
 refine gO ?_
 refine CP Z (fun h1=>?_) (fun h1=>CK ?_)
 ·have hno:¬sT c id:=fun h=>by have:=h.2.2;omega
  refine al ?_
  refine H0 ?_
  rw[if_neg hno];exact⟨rfl,rfl⟩
 have hyes:sT c id:=⟨hc,by omega,by omega⟩
 show VC _ _ _ [pt d ((bM c).cells a1 c1) cM,aq aP 2 a1 (bM c).ms.length c1 (flat aD (bM c).ms),pt x (c.cells a cap) _] _
 refine jA ?_
 refine VG (VI (LB (pv:=[(0,.int .i64 id),(1,.int .i64 c.bK),(2,.int .i64 c.gY),(3,.int .i64 c.reads),(11,.int .i64 (-1)),(12,.int .i64 (-1))]) (Aw (iv c id) none 0 (.pointer none) (.pointer none) (.pointer none) (.pointer none)) Z Z Z yp Z) ?_)
 refine VG (VB (vs:=Aw (iv c id) none 0 (.pointer none) (.pointer none) (.pointer none) (.pointer none)) Z fun p=>?_)
 refine al ?_
 refine VG (VK (Lc:=[]) (fun Fr w _ _ _=>Lg.lK Fr w) Z Z ?_)
 rintro _ _ ⟨lp,rfl,rfl⟩
 refine al ?_
 refine VG (VO.st 1 (cs':=Aw (iv c id) none 0 (vA lp) (.pointer none) (.pointer none) (.pointer none)) Z Z Z Z (by show 9<17;omega) Z Z ?_)
 refine ox ?_
 refine VG (VK (Lc:=[]) (fun Fr w _ _ _=>Win.lK Fr w hb.2.2.1.1 hb.2.2.1.2) Z Z ?_)
 rintro _ _ ⟨wp,rfl,rfl⟩
 refine al ?_
 refine VG (VO.st 2 (cs':=Aw (iv c id) none 0 (vA lp) (vA wp) (.pointer none) (.pointer none)) Z Z Z Z (by show 10<17;omega) Z Z ?_)
 refine al ?_
 refine VG (VL 5 (c.cells a cap) Z Z Z Z ?_)
 refine VG (VK (Lc:=[]) (fun Fr w hF hs _=>Adm.lK Fr w c a cap (pG hq hF hs) ha hcap) Z Z ?_)
 intro v L hv
 rw[if_pos hc] at hv
 obtain⟨ap,rfl,rfl⟩:=hv
 refine al ?_
 refine VG (VO.st 3 (cs':=Aw (iv c id) none 0 (vA lp) (vA wp) (vA ap) (.pointer none)) Z Z Z Z (by show 11<17;omega) Z Z ?_)
 refine HT ?_
 refine VG (VK (Lc:=[]) (fun Fr w _ _ _=>Rd.lK Fr w hb.2.2.2.1.1 hb.2.2.2.1.2) Z Z ?_)
 rintro _ _ ⟨rp,rfl,rfl⟩
 refine al ?_
 refine VG (VO.st 4 (cs':=bu (iv c id) ⟨none,0,lp,wp,ap,rp⟩) Z Z Z Z (by show 12<17;omega) Z Z ?_)
 refine al ?_
 refine CN (L':=[pt p (bu (iv c id) ⟨none,0,lp,wp,ap,rp⟩) cT,bL lp [],bA wp (bJ.new c.gY),bj ap (qC c),bC rp (eW.new c.reads),pt d ((bM c).cells a1 c1) cM,aq aP 2 a1 (bM c).ms.length c1 (flat aD (bM c).ms)]) (bb [4,3,2,1,0,0,0]).aj ?_
 refine CC Z (fun hbl=>?_) (fun hbl=>CK ?_)
 ·refine al ?_
  refine CR (an.cV 6 7 Z Z Z (L':=[bo p (cJ c id blank)]) ?_ Py)
  rw[show cJ c id blank=iv c id by rw[cJ,if_pos hbl]]
  exact(aa.rep (R:=iv c id) ⟨none,0,lp,wp,ap,rp⟩ (IP 0 Z (aa.cK (bb [0,0,0,0])))).aj
 refine al ?_
 refine VG (VL 5 ((bM c).cells a1 c1) Z Z Z Z ?_)
 refine al ?_
 refine VG (VT (vs:=(bM c).cells a1 c1) (cs':=bu { iv c id with ch:=bM c } ⟨a1,c1,lp,wp,ap,rp⟩) 0 Z Z Z Z (by show 4+3≤17;omega) Z Z Z ?_)
 refine al ?_
 refine VG (VL 5 ((bM c).cells a1 c1) Z Z Z Z ?_)
 refine al ?_
 refine VG (VV (fun Fr w hF hs hS=>Ch.Dg Fr w (aT.aq cu (hS.at_ 6 Z)) yg id) Z ?_)
 refine al ?_
 refine VC.bZ (σ:=Unit) (fun _=>[(10,vA p)]) (fun _=>[bo p (cJ c id blank)]) (fun _=>True) ?_ ?_
 ·refine CC Z (fun hs=>?_) (fun hs=>CK ?_)
  ·refine al ?_
   refine VG (VO.st 0 (cs':=bu { iv c id with ch:=bM c,since:=(bU (bM c) id).1 } ⟨a1,c1,lp,wp,ap,rp⟩) Z Z Z Z (by show 7<17;omega) Z Z ?_)
   refine al ?_
   refine VG (VO.st 0 (cs':=bu { iv c id with ch:=bM c,since:=(bU (bM c) id).1,whole:=true } ⟨a1,c1,lp,wp,ap,rp⟩) Z Z Z Z Pw Z Z ?_)
   refine al ?_
   refine VG (VO.st 0 (cs':=bu { iv c id with ch:=bM c,since:=(bU (bM c) id).1,whole:=true,start:=0 } ⟨a1,c1,lp,wp,ap,rp⟩) Z Z Z Z (by show 13<17;omega) Z Z ?_)
   refine al ?_
   refine⟨(),trivial,aH,?_⟩
   dsimp only
   rw[show cJ c id blank={ iv c id with ch:=bM c,since:=(bU (bM c) id).1,whole:=true,start:=0 } by rw[cJ,if_neg (by rw[hbl];simp),if_pos hs]]
   exact(aa.rep (R:={ iv c id with ch:=bM c,since:=(bU (bM c) id).1,whole:=true,start:=0 }) ⟨a1,c1,lp,wp,ap,rp⟩ (bb [0,5,0,0,0,0])).aj
  ·refine⟨(),trivial,aH,?_⟩
   dsimp only
   rw[show cJ c id blank={ iv c id with ch:=bM c } by rw[cJ,if_neg (by rw[hbl];simp),if_neg (by rw[hs];simp)]]
   exact(aa.rep (R:={ iv c id with ch:=bM c }) ⟨a1,c1,lp,wp,ap,rp⟩ (bb [0,5,0,0,0,0])).aj
 rintro _ -
 refine al ?_
 exact CR (an.cV 6 7 Z Z Z ER Py)
end Rep
namespace Rep
open Go Vg T Api Kv Ch Lg Rd Win Adm Sched Conf
attribute [local irreducible] VO VC VA
structure ay.Fit(R:ay):Prop where
 ok:R.Ok
 iu:R.iu=R.aQ.cap
 dO:1≤R.cap
 fM:R.cap≤16
 cl:R.bK≤6
theorem Gj{c:ba}(h:c=bh c)(id:Int)(blank:Bool):(cJ c id blank).Fit:=by
 have hb:=kG h
 have ho:=UI h id blank
 unfold cJ at ho ⊢
 split
 ·rename_i h1;rw[if_pos h1] at ho;exact⟨ho,rfl,hb.2.2.1.1,hb.2.2.1.2,hb.2.2.2.2.2⟩
 ·rename_i h1;rw[if_neg h1] at ho
  split
  ·rename_i h2;rw[if_pos h2] at ho;exact⟨ho,rfl,hb.2.2.1.1,hb.2.2.1.2,hb.2.2.2.2.2⟩
  ·rename_i h2;rw[if_neg h2] at ho;exact⟨ho,rfl,hb.2.2.1.1,hb.2.2.1.2,hb.2.2.2.2.2⟩
def sZ(o:bw):Bool:=decide (o.kind=1)&&decide (dv o=0)
def n_(f:aB)(ms:List aS):aV:=⟨f.dW,ms,f.drain⟩
def uw(R:ay)(i:Int):ay:={ R with aQ:={ R.aQ with l:=R.aQ.l.filter (o8 i) } }
def xI(R:ay)(i:Int):List cm:=(R.aQ.l.filter fun y=>!o8 i y).map fun y=>(32+y.f.aL,ot y.f.aL y.f.seq y.f.bD y.r)
def nq(R:ay)(i:Int):ay:={ R with base:=max i (-1) }
def cU(R:ay)(from_:Int)(f:aB)(ms:List aS)(now:Int):ay×List cm:=
 if f.kind=1 then (if f.aL<0 then (R,[]) else if R.bK≤f.aL then (R,[]) else if sZ f.op=true then oY R f now else o9 R f now)
 else if f.kind=8 then (if (from_=16∧eN (n_ f ms)=0)∧R.ch.ar<f.dW then pD R (n_ f ms) else (R,[]))
 else if f.kind=4 then (if R.iZ f=true∧oP from_ R.mR=true then mn R f.entry else (R,[]))
 else if f.kind=5 then (if R.iZ f=true∧oP from_ R.dX=true then kB R f else (R,[]))
 else if f.kind=6 then (if R.iZ f=true∧oP from_ R.mR=true then ((nq R f.index).iG,(nq R f.index).nR) else (R,[]))
 else if f.kind=10 then (if R.iZ f=true∧from_=16 then (uw R f.index,xI R f.index) else (R,[]))
 else (R,[])
theorem KK(R:ay)(f:aB)(now:Int):(eH R f now).2.2=R.aR∨(eH R f now).2.2=(R.aR.iN f now).2:=by
 unfold eH
 repeat' split
 all_goals first | exact .inl rfl | exact .inr rfl
theorem aba{R:ay}(h:R.Ok)(f:aB)(now:Int):(o9 R f now).1.Ok:=by
 have hj:(eH R f now).2.2.Calls∧(eH R f now).2.2.Wf:=by
  rcases KK R f now with e | e
  ·rw[e];exact⟨h.calls,h.wf⟩
  ·rw[e];exact⟨U9 h.calls f now,U' h.wf f now⟩
 unfold o9
 split
 ·exact zj h hj.1 hj.2
 split
 ·exact zj h hj.1 hj.2
 split
 ·exact zj h (Jf hj.1 _ _ _) (hj.2.dB _ _ _)
 ·exact zj h hj.1 hj.2
theorem Wr{R:ay}(h:R.Ok)(hr:R.aQ.last<100000000)(f:aB)(now:Int)(h0:0≤f.aL)(h1:f.aL≤1000):(oY R f now).1.Ok:=by
 unfold oY
 split
 ·exact h
 ·have e:({ R with aQ:=R.aQ.put f (nw (bN R.log).1 f.op.key R.log.length) }:ay).Ok:=by
   have a0:=h.gU;have a1:=h.kR;have a2:=h.rl
   unfold eW.put
   split
   ·rename_i hl
    exact⟨h.ch,h.au,h.last,h.kL,h.kM,h.gU,h.gA,by show((R.aQ.l ++ [_]).length:Int)≤R.aQ.cap;rw[a8];simp;omega,by show 0≤R.aQ.last+1;omega,by show R.aQ.last+1≤_;omega,fun y hy=>by
     rcases eP.1 hy with h2 | h2
     ·exact h.kh y h2
     ·rw[fe.1 h2];exact⟨h0,h1⟩,h.calls,h.wf⟩
   ·exact h
  exact e
theorem XA{R:ay}(h:R.Ok)(i:Int):(uw R i).Ok:=⟨h.ch,h.au,h.last,h.kL,h.kM,h.gU,h.gA,by
 have:=h.rl;have h2:=qf (o8 i) R.aQ.l
 show((R.aQ.l.filter (o8 i)).length:Int)≤R.aQ.cap;omega,h.kR,h.lM,fun y hy=>h.kh y (iS.1 hy).1,h.calls,h.wf⟩
theorem Jh{R:ay}(h:R.Ok)(i:Int):(nq R i).Ok:=⟨h.ch,h.au,h.last,h.kL,h.kM,h.gU,h.gA,h.rl,h.kR,h.lM,h.kh,h.calls,h.wf⟩
theorem Sa{R:ay}(h:R.Ok)(e:bf):(mn R e).1.Ok:=by
 unfold mn
 split
 ·rename_i h1;exact E3 (wU (xv h h1.2 (FJ h1.1)))
 ·exact h
theorem E_{c:aV}(h:eN c=0):c.ms.length≤6:=by
 have:lh c=true:=by
  unfold eN at h
  by_cases hc:lh c=true
  ·exact hc
  ·rw[if_neg hc] at h;cases h
 simp only[lh,ua,eG,decide_eq_true_eq] at this
 omega
theorem aax{R:ay}(h:R.Fit)(hr:R.aQ.last<100000000)(from_:Int)(f:aB)(ms:List aS)(now:Int):(cU R from_ f ms now).1.Ok:=by
 have hcl:=h.cl
 unfold cU
 split
 ·split
  ·exact h.ok
  split
  ·exact h.ok
  rename_i h1 h2
  split
  ·exact Wr h.ok hr f now yg yg
  ·exact aba h.ok f now
 split
 ·split
  ·rename_i h1;exact RH h.ok ⟨by have:=E_ h1.1.2;omega⟩ h.dO h.fM
  ·exact h.ok
 split
 ·split
  ·exact Sa h.ok _
  ·exact h.ok
 split
 ·split
  ·exact I2 h.ok f
  ·exact h.ok
 split
 ·split
  ·exact E3 (Jh h.ok _)
  ·exact h.ok
 split
 ·split
  ·exact XA h.ok _
  ·exact h.ok
 ·exact h.ok
structure gF(R Q:ay):Prop where
 id:Q.id=R.id
 bK:Q.bK=R.bK
 cap:Q.cap=R.cap
 iu:Q.iu=R.iu
 G2:Q.aQ.cap=R.aQ.cap
theorem gF.refl(R:ay):gF R R:=⟨rfl,rfl,rfl,rfl,rfl⟩
theorem gF.trans{R Q P:ay}(h:gF R Q)(k:gF Q P):gF R P:=⟨k.id.trans h.id,k.bK.trans h.bK,k.cap.trans h.cap,k.iu.trans h.iu,k.G2.trans h.G2⟩
theorem ay.Fit.stays{R Q:ay}(h:R.Fit)(k:gF R Q)(ok:Q.Ok):Q.Fit:=⟨ok,by rw[k.iu,k.G2];exact h.iu,by rw[k.cap];exact h.dO,by rw[k.cap];exact h.fM,by rw[k.bK];exact h.cl⟩
theorem Fx(R:ay):gF R R.df:=by unfold ay.df;split<;>exact⟨rfl,rfl,rfl,rfl,rfl⟩
theorem Jn(R:ay):gF R R.iG:=by unfold ay.iG;split<;>exact⟨rfl,rfl,rfl,rfl,rfl⟩
theorem RK(R:ay)(c:aV):gF R (pD R c).1:=by
 refine gF.trans (Q:=dP R c) ?_ (Fx _)
 unfold dP;split<;>exact⟨rfl,rfl,rfl,rfl,rfl⟩
theorem We(r:eW)(f:aB)(x:ik):(r.put f x).cap=r.cap:=by unfold eW.put;split<;>rfl
theorem aay(R:ay)(from_:Int)(f:aB)(ms:List aS)(now:Int):gF R (cU R from_ f ms now).1:=by
 have r:=gF.refl R
 unfold cU
 split
 ·split
  ·exact r
  split
  ·exact r
  split
  ·unfold oY;split
   ·exact r
   ·exact⟨rfl,Z,Z,Z,We _ _ _⟩
  ·unfold o9;repeat' split
   all_goals exact⟨rfl,rfl,rfl,rfl,rfl⟩
 split
 ·split
  ·exact RK _ _
  ·exact r
 split
 ·split
  ·unfold mn;split
   ·exact gF.trans (Q:=(fH R f.entry).df) (gF.trans (Q:=fH R f.entry) ⟨rfl,Z,Z,Z,Z⟩ (Fx _)) (Jn _)
   ·exact r
  ·exact r
 split
 ·split
  ·unfold kB hZ gu;dsimp only;split<;>exact⟨rfl,rfl,rfl,rfl,rfl⟩
  ·exact r
 split
 ·split
  ·exact gF.trans (Q:=nq R f.index) ⟨rfl,Z,Z,Z,Z⟩ (Jn _)
  ·exact r
 split
 ·split
  ·exact⟨rfl,Z,Z,Z,Z⟩
  ·exact r
 ·exact r
theorem Vv(R:ay):gF R (ui R).1:=⟨rfl,rfl,rfl,rfl,rfl⟩
theorem M0(R:ay)(now:Int):gF R (fi R now).1:=by
 unfold fi
 split
 ·exact⟨rfl,Z,Z,Z,Z⟩
 split
 ·exact⟨rfl,Z,Z,Z,Z⟩
 ·exact gF.trans (Q:=fH (mO R now) (e7 R now)) ⟨rfl,Z,Z,Z,Z⟩ (Fx _)
theorem K9(now:Int):∀(k:Nat) (R:ay),gF R (jc now k R).1
 | 0,R=>gF.refl R
 | k+1,R=>by
  rw[jc]
  split
  ·split
   ·exact(M0 R now).trans (K9 now k _)
   ·exact M0 R now
  ·exact gF.refl R
theorem Xq(R:ay)(now:Int):gF R (iA R now).1:=by
 have h2:gF R (step2 R now).1:=by
  unfold step2;split
  ·exact gF.trans (Q:=iX R now) ⟨rfl,Z,Z,Z,Z⟩ (K9 now 65 _)
  ·exact⟨rfl,Z,Z,Z,Z⟩
 show gF R (iz R now).1
 unfold iz;split
 ·exact h2.trans (Vv _)
 ·exact h2
theorem Ni{R:ay}(h:R.Fit)(hr:R.aQ.last<100000000)(from_:Int)(f:aB)(ms:List aS)(now:Int):(cU R from_ f ms now).1.Fit:=h.stays (aay R from_ f ms now) (aax h hr from_ f ms now)
theorem Xj{R:ay}(h:R.Fit)(now:Int):(iA R now).1.Fit:=h.stays (Xq R now) (Xl h.ok now)
end Rep
namespace Rep
open Go Vg T Api Kv Ch Lg Rd Win Adm Sched Conf
attribute [local irreducible] VO VC VA
section
variable {p:Nat} {R:ay}
theorem AK(fit:R.Fit)(hlast:R.aQ.last<100000000)(from_:Int)(f:aB){ma:Option Addr}{mc:Nat}{ms:List aS}(hm:aT aD 2 Fr w ma ms)(hml:ms.length≤1000000)(now:Int)
  (hi1:-9223372036854775808≤f.entry.index) (hi2:f.entry.index≤9223372036854775807):ax Tryz.prog 117 [.pointer (some ⟨p,0,none⟩),.int .i64 from_,.agg (cF f (ma,ms.length,mc)).toArray,.int .i64 now] Fr w [bo p R]
  (fun v L=>bS (cU R from_ f ms now).2 v L [bo p (cU R from_ f ms now).1]):=by
 have ok:=fit.ok
 have hcl6:=fit.cl
 have hrl:R.aQ.l.length≤16:=by have:=ok.rl;have:=ok.gA;omega
 refine TF 160 Tryz.func117 Z yp aC Z Z ?_
 refine CS (CG (VG (VB (vs:=cF f (ma,ms.length,mc)) Z fun fb=>?_)))
 refine al ?_
 refine VO.bz 1 Z (bd.rep p R) ?_
 rintro x -
 show VO _ _ _ _ _ [pt p (bu R x) cT,aq aP 2 x.a R.ch.ms.length x.c (flat aD R.ch.ms),bL x.lp R.log,bA x.wp R.au,bj x.ap R.aR,bC x.rp R.aQ,pt fb (cF f (ma,ms.length,mc)) cq] _
 refine HV ?_
 refine sf ?_
 refine VG (VO.alloc Z fun ob=>?_)
 refine al ?_
 refine HW ?_
 refine gm ?_
 refine CN (L':=[pt p (bu R x) cT,aq aP 2 x.a R.ch.ms.length x.c (flat aD R.ch.ms),bL x.lp R.log,bA x.wp R.au,bj x.ap R.aR,bC x.rp R.aQ,aZ ob [],pt fb (cF f (ma,ms.length,mc)) cq]) (IP 1 Z (IP 1 Z (IP 1 Z (IP 1 Z (IP 1 Z (IP 1 Z (aa.out (none,0) (IP 0 Z (aa.cK (IP 0 Z aa.nil)))))))))).aj ?_
 refine CS ?_
 refine VC.bZ (σ:=Unit) (fun _=>[(9,pV ob)]) (fun _=>[bo p (cU R from_ f ms now).1,aZ ob (cU R from_ f ms now).2]) (fun _=>True) ?_ ?_
 rotate_left
 ·rintro _ -
  refine VC.bz 1 Z (bd.out ob _) ?_
  rintro⟨a,c⟩ -
  show VC _ _ _ [pt ob [.slice a (cU R from_ f ms now).2.length c] CO,aq gk 30 a (cU R from_ f ms now).2.length c (flat rV (cU R from_ f ms now).2),bo p (cU R from_ f ms now).1] _
  refine al ?_
  exact CR (an.tmp 8 Z Z (IP 2 Z (IP 1 Z aa.nil)).aj ⟨a,c,Z,Z⟩)
 have shut:∀{X:Cx},dd X [pt p (bu R x) cT,aq aP 2 x.a R.ch.ms.length x.c (flat aD R.ch.ms),bL x.lp R.log,bA x.wp R.au,bj x.ap R.aR,bC x.rp R.aQ,aZ ob [],pt fb (cF f (ma,ms.length,mc)) cq] [bo p R,aZ ob []]:=fun {X}=>
  (aa.rep x (bb [0,0,0,0,0,0,0])).aj
 have none_:cU R from_ f ms now=(R,[])→∀{X:Cx},dd X [pt p (bu R x) cT,aq aP 2 x.a R.ch.ms.length x.c (flat aD R.ch.ms),bL x.lp R.log,bA x.wp R.au,bj x.ap R.aR,bC x.rp R.aQ,aZ ob [],pt fb (cF f (ma,ms.length,mc)) cq] [bo p (cU R from_ f ms now).1,aZ ob (cU R from_ f ms now).2]:=fun h {X}=>by
  rw[h];exact shut
 refine vT ?_
 refine CE (i:=f.kind) (j:=1) Z (fun k1=>?_) (fun k1=>?_)
 ·have hT:cU R from_ f ms now=(if f.aL<0 then (R,[]) else if R.bK≤f.aL then (R,[]) else if sZ f.op=true then oY R f now else o9 R f now):=by rw[cU,if_pos k1]
  refine CS ?_
  refine CS ?_
  refine CD (ts 0 12 .nil) yp yr ?_
  refine uE ?_
  by_cases h1:f.aL<0
  ·refine AG (AY 24 true Z (DT h1) ?_)
   refine tu ?_
   refine VC.mi Z (CX ?_)
   exact⟨(),trivial,aH,none_ (by rw[hT,if_pos h1])⟩
  refine AG (AY 24 false Z (DF h1) ?_)
  refine tu ?_
  refine CP (p:=R.bK≤f.aL) Z (fun h2=>CX ?_) (fun h2=>CK ?_)
  ·exact⟨(),trivial,aH,none_ (by rw[hT,if_neg h1,if_pos h2])⟩
  rw[if_neg h1,if_neg h2] at hT
  refine al ?_
  refine VG (VL 7 f.op.cells Z Z Z Z ?_)
  refine VG (VV (fun Fr w hF hs hS=>Kv.Av Fr w f.op) Z ?_)
  refine al ?_
  refine CC Z (fun h3=>?_) (fun h3=>?_)
  ·have h3:sZ f.op=true:=h3
   rw[if_pos h3] at hT
   refine vX ?_
   refine A8 ?_
   refine VG (VK (Lc:=[bo p R,aZ ob []]) (Lr:=[]) (fun Fr w hF hs hS=>C4 Fr w ok fit.iu IA f (hm.of hF hs) hml now yg yg) Z Z ?_)
   rintro _ _ ⟨rfl,rfl⟩
   refine al ?_
   refine⟨(),trivial,aH,?_⟩
   rw[hT];exact ER
  ·have h3:¬sZ f.op=true:=fun h=>by rw[show sZ f.op=false from h3] at h;cases h
   rw[if_neg h3] at hT
   refine vX ?_
   refine A8 ?_
   refine VG (VK (Lc:=[bo p R,aZ ob []]) (Lr:=[]) (fun Fr w hF hs hS=>abb Fr w ok IA f (ma,ms.length,mc) ⟨ms,Z,hml,aT.of hm hF hs⟩ now yg yg) Z Z ?_)
   rintro _ _ ⟨rfl,rfl⟩
   refine al ?_
   refine⟨(),trivial,aH,?_⟩
   rw[hT];exact ER
 refine CS ?_
 refine al ?_
 refine CE (i:=f.kind) (j:=8) Z (fun k2=>?_) (fun k2=>?_)
 ·have hT:cU R from_ f ms now=(if (from_=16∧eN (n_ f ms)=0)∧R.ch.ar<f.dW then pD R (n_ f ms) else (R,[])):=by rw[cU,if_neg k1,if_pos k2]
  refine CS ?_
  refine CD (ts 0 5 (.only 5 (ts 6 13 .nil))) yp yr ?_
  refine uE ?_
  by_cases h1:from_=16
  rotate_left
  ·rw[if_neg (fun h=>h1 h.1.1)] at hT
   refine AG (AY 50 false Z yj ?_)
   refine tu ?_
   refine p6 ?_
   refine tu ?_
   refine AG (AY 56 false Z Z ?_)
   refine tu ?_
   refine fV ?_
   exact qU
  refine AG (AY 50 true Z yj ?_)
  refine tu ?_
  refine AG (VA.dE 7 ((n_ f ms).cells ma mc) Z Z Z Z Z ?_)
  refine AG (AR (fun Fr w hF hs hS=>Ch.gv Fr w (c:=n_ f ms) (hm.of hF hs) IB) Z Z yu ?_)
  refine tu ?_
  by_cases h2:eN (n_ f ms)=0
  rotate_left
  ·rw[if_neg (fun h=>h2 h.1.2)] at hT
   refine AG (AY 56 false Z ym ?_)
   refine tu ?_
   refine fV ?_
   exact qU
  refine AG (AY 56 true Z ym ?_)
  refine tu ?_
  refine CP (p:=R.ch.ar<f.dW) Z (fun h3=>?_) (fun h3=>CK ?_)
  ·rw[if_pos ⟨⟨h1,h2⟩,h3⟩] at hT
   have hcs:lW (n_ f ms):=⟨by have:=E_ h2;omega⟩
   refine al ?_
   refine VG (VL 7 ((n_ f ms).cells ma mc) Z Z Z Z ?_)
   refine A8 ?_
   refine al ?_
   refine VG (VK (Lc:=[bo p R,aZ ob []]) (Lr:=[]) (fun Fr w hF hs hS=>RJ Fr w ok fit.dO fit.fM IC (c:=n_ f ms) (hm.of hF hs) hcs) Z Z ?_)
   rintro _ _ ⟨rfl,rfl⟩
   refine al ?_
   refine⟨(),trivial,aH,?_⟩
   rw[hT];exact ER
  ·rw[if_neg (fun h=>h3 h.2)] at hT
   exact qU
 refine CS ?_
 refine al ?_
 refine CE (i:=f.kind) (j:=4) Z (fun k3=>?_) (fun k3=>?_)
 ·have hT:cU R from_ f ms now=(if R.iZ f=true∧oP from_ R.mR=true then mn R f.entry else (R,[])):=by rw[cU,if_neg k1,if_neg k2,if_pos k3]
  refine vX ?_
  refine A6 ?_
  refine al ?_
  by_cases h1:R.iZ f=true
  rotate_left
  ·rw[if_neg (fun h=>h1 h.1)] at hT
   have h1:R.iZ f=false:=by simpa using h1
   refine VG (VY 77 false Z h1 ?_)
   refine p9 ?_
   exact qU
  refine VG (VY 77 true Z h1 ?_)
  refine bG ?_
  refine OF ?_
  refine bG ?_
  refine VG (VO.mf (fun Fr w=>FV Fr w from_ R.mR) Z ?_)
  refine bG ?_
  refine CC Z (fun h2=>?_) (fun h2=>CK ?_)
  ·rw[if_pos ⟨h1,h2⟩] at hT
   refine al ?_
   refine VG (VL 7 (bm f.entry) Z Z Z Z ?_)
   refine A8 ?_
   refine al ?_
   refine VG (VK (Lc:=[bo p R,aZ ob []]) (Lr:=[]) (fun Fr w hF hs hS=>Sb Fr w ok IC f.entry hi1 hi2) Z Z ?_)
   rintro _ _ ⟨rfl,rfl⟩
   refine al ?_
   refine⟨(),trivial,aH,?_⟩
   rw[hT];exact ER
  ·rw[if_neg (fun h=>by have:=h.2;rw[h2] at this;cases this)] at hT
   exact qU
 refine CS ?_
 refine al ?_
 refine CE (i:=f.kind) (j:=5) Z (fun k4=>?_) (fun k4=>?_)
 ·have hT:cU R from_ f ms now=(if R.iZ f=true∧oP from_ R.dX=true then kB R f else (R,[])):=by rw[cU,if_neg k1,if_neg k2,if_neg k3,if_pos k4]
  refine vX ?_
  refine A6 ?_
  refine al ?_
  by_cases h1:R.iZ f=true
  rotate_left
  ·rw[if_neg (fun h=>h1 h.1)] at hT
   have h1:R.iZ f=false:=by simpa using h1
   refine VG (VY 93 false Z h1 ?_)
   refine p9 ?_
   exact qU
  refine VG (VY 93 true Z h1 ?_)
  refine bG ?_
  refine Oy ?_
  refine bG ?_
  refine VG (VO.mf (fun Fr w=>FV Fr w from_ R.dX) Z ?_)
  refine bG ?_
  refine CC Z (fun h2=>?_) (fun h2=>CK ?_)
  ·rw[if_pos ⟨h1,h2⟩] at hT
   refine vX ?_
   refine A8 ?_
   refine al ?_
   refine VG (VK (Lc:=[bo p R,aZ ob []]) (Lr:=[]) (fun Fr w hF hs hS=>BJ Fr w ok IC f _) Z Z ?_)
   rintro _ _ ⟨rfl,rfl⟩
   refine al ?_
   refine⟨(),trivial,aH,?_⟩
   rw[hT];exact ER
  ·rw[if_neg (fun h=>by have:=h.2;rw[h2] at this;cases this)] at hT
   exact qU
 refine CS ?_
 refine al ?_
 refine CE (i:=f.kind) (j:=6) Z (fun k5=>?_) (fun k5=>?_)
 ·have hT:cU R from_ f ms now=(if R.iZ f=true∧oP from_ R.mR=true then ((nq R f.index).iG,(nq R f.index).nR) else (R,[])):=by rw[cU,if_neg k1,if_neg k2,if_neg k3,if_neg k4,if_pos k5]
  refine vX ?_
  refine A6 ?_
  refine al ?_
  by_cases h1:R.iZ f=true
  rotate_left
  ·rw[if_neg (fun h=>h1 h.1)] at hT
   have h1:R.iZ f=false:=by simpa using h1
   refine VG (VY 108 false Z h1 ?_)
   refine p9 ?_
   exact qU
  refine VG (VY 108 true Z h1 ?_)
  refine bG ?_
  refine OF ?_
  refine bG ?_
  refine VG (VO.mf (fun Fr w=>FV Fr w from_ R.mR) Z ?_)
  refine bG ?_
  refine CC Z (fun h2=>?_) (fun h2=>CK ?_)
  ·rw[if_pos ⟨h1,h2⟩] at hT
   have okb:=Jh ok f.index
   refine vT ?_
   refine VG (VO.st 0 (cs':=bu (nq R f.index) x) Z Z Z Z (by show 14<17;omega) (by
    rw[show(if f.index < -1 then (-1:Int) else f.index)=max f.index (-1) by split<;>omega]
    rfl) rfl ?_)
   refine al ?_
   refine VO.aj (L':=[bo p (nq R f.index),aZ ob []]) (aa.rep (R:=nq R f.index) x (bb [0,0,0,0,0,0,0])).aj ?_
   refine VG (VK (Lc:=[bo p (nq R f.index),aZ ob []]) (Lr:=[]) (fun Fr w hF hs hS=>Jm Fr w okb IA) Z Z ?_)
   rintro _ _ ⟨rfl,rfl⟩
   refine al ?_
   refine⟨(),trivial,aH,?_⟩
   rw[hT];exact ER
  ·rw[if_neg (fun h=>by have:=h.2;rw[h2] at this;cases this)] at hT
   exact qU
 refine CS ?_
 refine al ?_
 refine CE (i:=f.kind) (j:=10) Z (fun k6=>?_) (fun k6=>CK ?_)
 rotate_left
 ·exact⟨(),trivial,aH,none_ (by rw[cU,if_neg k1,if_neg k2,if_neg k3,if_neg k4,if_neg k5,if_neg k6])⟩
 have hT:cU R from_ f ms now=(if R.iZ f=true∧from_=16 then (uw R f.index,xI R f.index) else (R,[])):=by rw[cU,if_neg k1,if_neg k2,if_neg k3,if_neg k4,if_neg k5,if_pos k6]
 refine vX ?_
 refine A6 ?_
 refine al ?_
 by_cases h1:R.iZ f=true
 rotate_left
 ·rw[if_neg (fun h=>h1 h.1)] at hT
  have h1:R.iZ f=false:=by simpa using h1
  refine VG (VY 128 false Z h1 ?_)
  refine p9 ?_
  exact qU
 refine VG (VY 128 true Z h1 ?_)
 refine bG ?_
 refine CE (i:=from_) (j:=16) Z (fun h2=>?_) (fun h2=>CK ?_)
 rotate_left
 ·rw[if_neg (fun h=>h2 h.2)] at hT
  exact qU
 rw[if_pos ⟨h1,h2⟩] at hT
 refine CN (L':=[bC x.rp R.aQ,pt p (bu R x) cT,aq aP 2 x.a R.ch.ms.length x.c (flat aD R.ch.ms),bL x.lp R.log,bA x.wp R.au,bj x.ap R.aR,aZ ob [],pt fb (cF f (ma,ms.length,mc)) cq]) (bb [5,0,0,0,0,0,0,0]).aj ?_
 refine CS ?_
 refine CD (ts 0 6 (.take 8 (.only 6 (.take 7 .nil)))) yp yr ?_
 refine uE ?_
 refine AG (AO (OC (Lc:=[bC x.rp R.aQ]) (R:=fun v L=>∃a c rows,rows.map Prod.fst=R.aQ.l.filter (fun x=>!o8 f.index x)∧v=.slice a rows.length c∧L=[bC x.rp { R.aQ with l:=R.aQ.l.filter (o8 f.index) },aq eJ 34 a rows.length c (flat dq rows)]) Z (.refl _) (fun Fr w hF hs hS=>Rd.XB Fr w ok.gU yg f.index)) Z ?_ ?_)
 ·rintro _ _ ⟨_,⟨ga,gc,rows,hrows,rfl,rfl⟩,rfl⟩
  exact yu
 rintro _ _ ⟨_,⟨ga,gc,rows,hrows,rfl,rfl⟩,rfl⟩
 (repeat(first|refine yG (yN ?_)|refine yG (yD 0 rfl rfl rfl rfl rfl ?_)|refine yG (yD 1 rfl rfl rfl rfl rfl ?_)|refine yG (yD 2 rfl rfl rfl rfl rfl ?_)|refine yG (yD 3 rfl rfl rfl rfl rfl ?_)|refine yG (yD 4 rfl rfl rfl rfl rfl ?_)|refine yG (yD 5 rfl rfl rfl rfl rfl ?_)|refine yG (yD 6 rfl rfl rfl rfl rfl ?_)|refine yG (yD 7 rfl rfl rfl rfl rfl ?_)|refine yG (yD 8 rfl rfl rfl rfl rfl ?_)))
 have hrowl:rows.length≤16:=by
  have:=congrArg List.length hrows
  rw[cY] at this
  have h2:=qf (fun y=>!o8 f.index y) R.aQ.l
  omega
 show VC _ _ _ [bC x.rp (uw R f.index).aQ,aq eJ 34 ga rows.length gc (flat dq rows),pt p (bu R x) cT,aq aP 2 x.a R.ch.ms.length x.c (flat aD R.ch.ms),bL x.lp R.log,bA x.wp R.au,bj x.ap R.aR,aZ ob [],pt fb (cF f (ma,ms.length,mc)) cq] _
 refine VC.bz 1 Z (bd.rl eJ ga gc rows Ap) ?_
 rintro r ⟨rok,hrv,hrx⟩
 show VC _ _ _ [r.h eJ,bC x.rp (uw R f.index).aQ,pt p (bu R x) cT,aq aP 2 x.a R.ch.ms.length x.c (flat aD R.ch.ms),bL x.lp R.log,bA x.wp R.au,bj x.ap R.aR,aZ ob [],pt fb (cF f (ma,ms.length,mc)) cq] _
 have hexp:∀i,i≤rows.length→(rows.take i).length=i:=fun i hi=>by simp;omega
 refine VC.block ?_
 refine VC.loop (σ:=Nat) (fun i=>[(0,pV p),(9,pV ob),(10,dV ob),(138,.slice ga rows.length gc),(139,.int .i64 rows.length),(140,.int .i64 i)])
  (fun i=>[r.h eJ,bC x.rp (uw R f.index).aQ,pt p (bu R x) cT,aq aP 2 x.a R.ch.ms.length x.c (flat aD R.ch.ms),bL x.lp R.log,bA x.wp R.au,bj x.ap R.aR,aZ ob ((rows.take i).map fun y=>(32+y.1.f.aL,ot y.1.f.aL y.1.f.seq y.1.f.bD y.1.r))])
  (fun i=>i≤rows.length) (fun i=>rows.length-i) 0
  (bH _) aH (bb [0,0,0,0,0,0,0,0]).aj ?_
 intro i hi
 refine al ?_
 refine CP Z (fun h1=>CK ?_) (fun h1=>CX ?_)
 ·have hi2:i<rows.length:=by omega
  obtain⟨g,hg⟩:∃g,rows[i]?=some g:=⟨_,GE hi2⟩
  have hgm:g.1∈R.aQ.l:=by
   have h2:g.1∈rows.map Prod.fst:=cy.2 ⟨g,ME hg,rfl⟩
   rw[hrows] at h2
   exact(iS.1 h2).1
  have hcg:=ok.kh g.1 hgm
  obtain⟨gb,go,r1,r2,hrd⟩:=rok.ld (t:=eJ) (hrx▸hg) rfl
  obtain rfl:ga=some ⟨gb,go,none⟩:=by rw[RL.v,r2,hrx] at hrv;injection hrv with e1;exact e1.symm
  refine uH ?_
  refine A7 ?_
  refine VG (VO.alloc Z fun tb=>?_)
  refine HX ?_
  refine al ?_
  refine VG (VL 0 (bg g.1.r) Z Z Z Z ?_)
  refine al ?_
  refine VG (VQ 8 Z (fun Fr w hF hs hS=>G8 Fr w (by rw[cY,hexp i yg];omega) g.1.f.aL g.1.f.seq g.1.f.bD hcg.1 yg g.1.r) Z (ψ:=fun v H=>v=.tuple #[]∧H=aZ ob ((rows.take i).map (fun y=>(32+y.1.f.aL,ot y.1.f.aL y.1.f.seq y.1.f.bD y.1.r)) ++ [(32+g.1.f.aL,ot g.1.f.aL g.1.f.seq g.1.f.bD g.1.r)])) yz ?_)
  rintro _ _ ⟨rfl,rfl⟩
  refine jC ?_
  refine⟨i+1,hi2,by dsimp only;omega,aH,?_⟩
  dsimp only
  rw[fX,hg,Option.toList_some,gn,List.map_singleton]
  exact(bb [1,1,1,1,1,1,1,1]).aj
 obtain rfl:i=rows.length:=by omega
 rw[iT]
 have hes:(rows.map fun y=>((32+y.1.f.aL,ot y.1.f.aL y.1.f.seq y.1.f.bD y.1.r):cm))=xI R f.index:=by
  unfold xI
  rw[←hrows,mY];rfl
 rw[hes]
 refine⟨(),trivial,aH,?_⟩
 rw[hT]
 exact(aa.rep (R:=uw R f.index) x (bb [2,2,2,2,2,1,1])).aj
end
end Rep
namespace Rep
open Go Vg T Api Kv Ch Lg Rd Win Adm Sched Conf
attribute [local irreducible] VO VC VA
section
variable {p:Nat} {R:ay}
theorem MF(h:a_ Fr [bo p R] w):ax Tryz.prog 25 [.pointer (some ⟨p,0,none⟩)] Fr w [] (fun v L=>v=.int .i64 R.since∧L=[]):=by
 obtain⟨x,hx⟩:=gD.xk h
 have hb:=hx.aA
 refine TF 10 Tryz.func25 Z yp aC Z Z ?_
 refine al ?_
 refine VG (VV (fun Fr w hF hs _=>vn Fr w (hb.of hF hs)) Z (VG (VN (VC.mh Z (CK ?_)))))
 refine kl ?_
 exact vN
theorem K6(ok:R.Ok)(h:a_ Fr [bo p R] w):ax Tryz.prog 31 [.pointer (some ⟨p,0,none⟩)] Fr w [] (fun v L=>∃q,v=.pointer (some ⟨q,0,none⟩)∧L=[bL q R.log]):=by
 obtain⟨x,hx⟩:=gD.xk h
 have hb:=hx.aA
 have hl:=hx.log
 have h1:=ok.last;have h2:=ok.au.i_
 refine TF 11 Tryz.func31 Z yp aC Z Z ?_
 refine al ?_
 refine VG (VV (fun Fr w hF hs _=>vn Fr w (hb.of hF hs)) Z (VG (VN (VC.mh Z (CK ?_)))))
 refine kl ?_
 refine VG (VK (Lc:=[]) (fun Fr w hF hs _=>Lg.zw Fr w (hl.of hF hs) yg) Z Z ?_)
 rintro _ _ ⟨q,rfl,rfl⟩
 exact IK
theorem NN(ok:R.Ok)(h:a_ Fr [bo p R] w):ax Tryz.prog 26 [.pointer (some ⟨p,0,none⟩)] Fr w [] (fun v L=>∃q,v=.pointer (some ⟨q,0,none⟩)∧L=[bA q R.au]):=by
 obtain⟨x,hx⟩:=gD.xk h
 have hb:=hx.aA
 have hl:=hx.au
 refine TF 11 Tryz.func26 Z yp aC Z Z ?_
 refine al ?_
 refine VG (VV (fun Fr w hF hs _=>vn Fr w (hb.of hF hs)) Z (VG (VN (VC.mh Z (CK ?_)))))
 refine kl ?_
 refine VG (VK (Lc:=[]) (fun Fr w hF hs _=>Win.zw Fr w (hl.of hF hs) ok.au.dO) Z Z ?_)
 rintro _ _ ⟨q,rfl,rfl⟩
 exact IK
theorem JF(ok:R.Ok)(h:a_ Fr [bo p R] w):ax Tryz.prog 29 [.pointer (some ⟨p,0,none⟩)] Fr w [] (fun v L=>∃a c,v=.agg (R.ch.cells a c).toArray∧L=[aq aP 2 a R.ch.ms.length c (flat aD R.ch.ms)]):=by
 obtain⟨x,hx⟩:=gD.xk h
 have hb:=hx.aA
 have hm:=hx.mem
 have hl:=ok.ch.len
 refine TF 12 Tryz.func29 Z yp aC Z Z ?_
 refine CS (CG (VG (VO.alloc Z fun d=>?_)))
 refine al ?_
 refine VG (VV (fun Fr w hF hs _=>vn Fr w (hb.of hF hs)) Z (VG (VN (VC.mh Z (CK ?_)))))
 refine al ?_
 refine VG (VD Z Z (aw.jF (ds:=R.ch.cells x.a x.c) hb Z) ?_)
 refine OD ?_
 rintro _ _ ⟨a',c',rfl,rfl⟩
 refine VG (VT (vs:=R.ch.cells a' c') (cs':=R.ch.cells a' c') 1 Z Z Z Z (NR _) Z Z Z ?_)
 refine al ?_
 exact HY
theorem Ws(ok:R.Ok)(h:a_ Fr [bo p R] w):ax Tryz.prog 28 [.pointer (some ⟨p,0,none⟩)] Fr w [] (fun v L=>v=.int .i64 R.aQ.l.length∧L=[]):=by
 obtain⟨x,hx⟩:=gD.xk h
 have hb:=hx.aA
 have hl:=hx.aQ
 refine TF 11 Tryz.func28 Z yp aC Z Z ?_
 refine al ?_
 refine VG (VV (fun Fr w hF hs _=>vn Fr w (hb.of hF hs)) Z (VG (VN (VC.mh Z (CK ?_)))))
 refine kl ?_
 refine VG (VV (fun Fr w hF hs _=>Rd.kJ Fr w (hl.of hF hs) ok.gU) Z ?_)
 refine al ?_
 exact vN
theorem aby(h:a_ Fr [bo p R] w)(k:Int):ax Tryz.prog 30 [.pointer (some ⟨p,0,none⟩),.int .i64 k] Fr w [] (fun v L=>v=.int .i64 (R.aR.aM.oR k)∧L=[]):=by
 obtain⟨x,hx⟩:=gD.xk h
 have hb:=hx.aA
 have hl:=hx.aR
 refine TF 14 Tryz.func30 Z yp aC Z Z ?_
 refine al ?_
 refine VG (VV (fun Fr w hF hs _=>vn Fr w (hb.of hF hs)) Z (VG (VN (VC.mh Z (CK ?_)))))
 refine kl ?_
 refine VG (VV (fun Fr w hF hs _=>Adm.kJ Fr w k (hl.of hF hs)) Z ?_)
 refine al ?_
 exact CR (an.int 4 Z Z Z ER ⟨rfl,Z⟩)
def tU(ar:Int):aB:={ aB.zero with kind:=12,ar:=ar }
def eK(R:ay):ay:=if R.linked then { R with au:={ R.au with bS:=min (max R.dQ 0) R.au.last } } else R
def jQ(R:ay):ay×List cm:=(eK R,R.nA++R.fR++R.iU++(if (!R.aQ.l.isEmpty)=true then [(16,pC R.ch.ar R.aQ.pH)] else [])++(if R.jo=true∧R.au.done=R.au.last then [(16,tU R.ch.ar)] else []))
theorem Nl{R:ay}(h:R.Ok):(eK R).Ok:=by
 unfold eK
 split
 ·have hw:=h.au
  refine⟨h.ch,⟨hw.dO,hw.fM,hw.ln,hw.lu,hw.i_,?_,?_,hw.vj,hw.vk⟩,h.last,h.kL,h.kM,h.gU,h.gA,h.rl,h.kR,h.lM,h.kh,h.calls,h.wf⟩
  ·show 0≤min (max R.dQ 0) R.au.last
   have:=hw.ln;have:=hw.lu;omega
  ·show min (max R.dQ 0) R.au.last≤R.au.last;omega
 ·exact h
theorem aaJ(R:ay):gF R (jQ R).1:=by
 show gF R (eK R)
 unfold eK;split<;>exact⟨rfl,rfl,rfl,rfl,rfl⟩
theorem aaF{R:ay}(h:R.Fit):(jQ R).1.Fit:=h.stays (aaJ R) (Nl h.ok)
theorem aaI(ok:R.Ok)(now:Int):ax Tryz.prog 105 [.pointer (some ⟨p,0,none⟩),.int .i64 now] Fr w [bo p R]
  (fun v L=>bS (jQ R).2 v L [bo p (jQ R).1]):=by
 have hrl:R.aQ.l.length≤16:=by have:=ok.rl;have:=ok.gA;omega
 have gl:R.fR.length≤1:=by unfold ay.fR;split<;>simp
 have bl:R.iU.length≤1:=by unfold ay.iU;split<;>simp
 have ml:R.nA.length=1:=rfl
 refine TF 78 Tryz.func105 Z yp aC Z Z ?_
 refine xY ?_
 rintro x -
 show VC _ _ _ [pt p (bu R x) cT,aq aP 2 x.a R.ch.ms.length x.c (flat aD R.ch.ms),bL x.lp R.log,bA x.wp R.au,bj x.ap R.aR,bC x.rp R.aQ] _
 refine al ?_
 refine HV ?_
 refine sf ?_
 refine VG (VO.alloc Z fun ob=>?_)
 refine al ?_
 refine HW ?_
 refine al ?_
 refine VO.aj (L':=gg p R x ob []) (IP 1 Z (IP 1 Z (IP 1 Z (IP 1 Z (IP 1 Z (IP 1 Z (aa.out (none,0) (IP 0 Z (aa.cK aa.nil))))))))).aj ?_
 unfold gg
 refine VG (VQ 6 Z (fun Fr w hF hs hS=>Nj Fr w (hS.aA 0 Z) (by show 0≤1000000;omega)) Z (ψ:=fun v H=>v=.tuple #[]∧H=aZ ob ([]++R.nA)) yz ?_)
 rintro _ _ ⟨rfl,rfl⟩
 refine al ?_
 refine VG (VQ 6 Z (fun Fr w hF hs hS=>Cg Fr w (gD.oV hS 0 Z Z Z Z Z Z) ok.ch ok.au (by rw[mZ];omega)) Z (ψ:=fun v H=>v=.tuple #[]∧H=aZ ob (R.nA++R.fR)) yz ?_)
 rintro _ _ ⟨rfl,rfl⟩
 refine al ?_
 refine VG (VQ 6 Z (fun Fr w hF hs hS=>Hp Fr w (gD.oV hS 0 Z Z Z Z Z Z) ok.ch p7) Z (ψ:=fun v H=>v=.tuple #[]∧H=aZ ob (R.nA++R.fR++R.iU)) yz ?_)
 rintro _ _ ⟨rfl,rfl⟩
 generalize hS1:R.nA++R.fR++R.iU=S1
 have hS1l:S1.length≤3:=by rw[←hS1,a8,a8];omega
 refine gm ?_
 show VC _ _ _ (gg p R x ob S1) _
 have R2e:∀(y:nh) (S:List cm),gg p (eK R) y ob S=[pt p (bu (eK R) y) cT,aq aP 2 y.a (eK R).ch.ms.length y.c (flat aD (eK R).ch.ms),bL y.lp (eK R).log,bA y.wp (eK R).au,bj y.ap (eK R).aR,bC y.rp (eK R).aQ,aZ ob S]:=fun _ _=>rfl
 refine CS ?_
 refine VC.bZ (σ:=Unit) (fun _=>[(0,pV p),(5,pV ob),(6,dV ob)]) (fun _=>gg p (eK R) x ob S1) (fun _=>True) ?_ ?_
 ·unfold gg
  refine al ?_
  refine CC Z (fun h1=>?_) (fun h1=>CK ?_)
  ·have e:eK R={ R with au:={ R.au with bS:=min (max R.dQ 0) R.au.last } }:=by rw[eK,if_pos h1]
   refine CD (ts 0 8 (.only 8 .nil)) yp yr ?_
   refine bp ?_
   refine AG (AQ 3 Z (fun Fr w hF hs hS=>Win.Je Fr w ok.au R.dQ) Z Z (ψ:=fun v H=>v=.tuple #[]∧H=bA x.wp { R.au with bS:=min (max R.dQ 0) R.au.last }) yz ?_ ?_)
   ·rintro _ _ ⟨rfl,rfl⟩
    exact yu
   rintro _ _ ⟨rfl,rfl⟩
   refine bp ?_
   refine⟨(),trivial,aH,?_⟩
   rw[e];exact ER
  ·have e:eK R=R:=by rw[eK,if_neg tw]
   refine⟨(),trivial,aH,?_⟩
   rw[e];exact ER
 rintro _ -
 have et:(eK R).aQ=R.aQ∧(eK R).ch=R.ch∧(eK R).jo=R.jo∧(eK R).au.done=R.au.done∧(eK R).au.last=R.au.last:=by unfold eK;split<;>exact⟨rfl,rfl,rfl,rfl,rfl⟩
 have okt:=Nl ok
 have htk:jQ R=(eK R,S1++(if (!(eK R).aQ.l.isEmpty)=true then [(16,pC (eK R).ch.ar (eK R).aQ.pH)] else [])++(if (eK R).jo=true∧(eK R).au.done=(eK R).au.last then [(16,tU (eK R).ch.ar)] else [])):=by
  rw[et.1,et.2.1,et.2.2.1,et.2.2.2.1,et.2.2.2.2,←hS1];rfl
 rw[htk]
 have hrt:(eK R).aQ.l.length≤16:=by rw[et.1];exact hrl
 generalize eK R=Q at *
 refine CS ?_
 refine VC.bZ (σ:=Unit) (fun _=>[(0,pV p),(5,pV ob),(6,dV ob)]) (fun _=>gg p Q x ob (S1++(if (!Q.aQ.l.isEmpty)=true then [(16,pC Q.ch.ar Q.aQ.pH)] else []))) (fun _=>True) ?_ ?_
 ·unfold gg
  refine al ?_
  refine VG (VV (fun Fr w hF hs hS=>Rd.qz Fr w (hS.at_ 5 Z) okt.gU yg) Z ?_)
  refine al ?_
  refine CC Z (fun h1=>?_) (fun h1=>CK ?_)
  ·refine al ?_
   refine VG (VI (LB (pv:=[(0,.int .i64 9),(1,.int .i64 Q.ch.ar),(12,.int .i64 Q.aQ.pH)]) (cF (pC Q.ch.ar Q.aQ.pH) kP) Z Z Z yp Z) ?_)
   refine VG (VO.mH 6 Z Z (fun Fr w hF hs _=>sG Fr w ob S1 yg 16 (pC Q.ch.ar Q.aQ.pH)) Z (ψ:=fun v H=>v=.tuple #[]∧H=aZ ob (S1 ++ [(16,pC Q.ch.ar Q.aQ.pH)])) yz ?_)
   rintro _ _ ⟨rfl,rfl⟩
   refine al ?_
   refine⟨(),trivial,aH,?_⟩
   rw[if_pos h1];exact ER
  ·refine⟨(),trivial,aH,?_⟩
   rw[if_neg tw,br];exact ER
 rintro _ -
 generalize hS2:S1++(if (!Q.aQ.l.isEmpty)=true then [(16,pC Q.ch.ar Q.aQ.pH)] else [])=S2
 have hS2l:S2.length≤4:=by rw[←hS2,a8];split<;>simp<;>omega
 refine CS ?_
 refine VC.bZ (σ:=Unit) (fun _=>[(5,pV ob)]) (fun _=>[bo p Q,aZ ob (S2++(if Q.jo=true∧Q.au.done=Q.au.last then [(16,tU Q.ch.ar)] else []))]) (fun _=>True) ?_ ?_
 ·unfold gg
  have no:¬(Q.jo=true∧Q.au.done=Q.au.last)→∀{X:Cx},dd X (gg p Q x ob S2) [bo p Q,aZ ob (S2++(if Q.jo=true∧Q.au.done=Q.au.last then [(16,tU Q.ch.ar)] else []))]:=fun h {X}=>by
   rw[if_neg h,br];exact nF.aj
  refine CS ?_
  refine CD (ts 0 1 (.only 1 (ts 2 5 (ts 8 4 (.only 7 (.only 12 (ts 13 2 .nil))))))) yp yr ?_
  refine bp ?_
  refine AG (AR (fun Fr w hF hs hS=>B1 Fr w (hS.aA 0 Z)) Z Z yu ?_)
  refine bp ?_
  by_cases h1:Q.jo=true
  rotate_left
  ·have h1':Q.jo=false:=by simpa using h1
   refine AG (AY 55 false Z h1' ?_)
   refine vW ?_
   refine EA ?_
   refine fV ?_
   exact⟨(),trivial,aH,no (fun h=>h1 h.1)⟩
  refine AG (AY 55 true Z h1 ?_)
  refine cW ?_
  refine AG (AR (fun Fr w hF hs hS=>Win.zx Fr w (hS.aA 3 Z) okt.au.dO) Z Z yu ?_)
  refine cW ?_
  refine AG (AR (fun Fr w hF hs hS=>Win.qz Fr w (hS.aA 3 Z) okt.au.dO) Z Z yu ?_)
  refine cW ?_
  refine CE (i:=Q.au.done) (j:=Q.au.last) Z (fun h2=>?_) (fun h2=>CK ?_)
  ·refine al ?_
   refine VG (VI (LB (pv:=[(0,.int .i64 12),(1,.int .i64 Q.ch.ar)]) (cF (tU Q.ch.ar) kP) Z Z Z yp Z) ?_)
   refine VG (VO.mH 6 Z Z (fun Fr w hF hs _=>sG Fr w ob S2 yg 16 (tU Q.ch.ar)) Z (ψ:=fun v H=>v=.tuple #[]∧H=aZ ob (S2 ++ [(16,tU Q.ch.ar)])) yz ?_)
   rintro _ _ ⟨rfl,rfl⟩
   refine al ?_
   refine⟨(),trivial,aH,?_⟩
   rw[if_pos ⟨h1,h2⟩];exact(nF (x:=x)).aj
  ·exact⟨(),trivial,aH,no (fun h=>h2 h.2)⟩
 rintro _ -
 refine VC.bz 1 Z (bd.out ob _) ?_
 rintro⟨a,c⟩ -
 refine al ?_
 exact CR (an.tmp 4 Z Z (IP 2 Z (IP 1 Z aa.nil)).aj ⟨a,c,Z,Z⟩)
end
end Rep
namespace Rep
open Go Vg T Api Kv Ch Lg Rd Win Adm Sched Conf
attribute [local irreducible] VO VC VA
def rQ(aL seq bD ar:Int):aB:={ aB.zero with kind:=1,ar:=ar,aL:=aL,seq:=seq,bD:=bD,deadline:=9,op:=⟨2,⟨#[107]⟩,⟨#[118]⟩,0⟩ }
end Rep
namespace Au
open Go Vg Api Kv Ch Lg Conf Rep
deriving instance DecidableEq for aV
deriving instance DecidableEq for bw
deriving instance DecidableEq for bf
abbrev FindM:=Int×Int×Int
def bB(f:FindM):List Value:=[.int .i64 f.1,.int .i64 f.2.1,.int .i64 f.2.2]
theorem wS(f:FindM):(bB f).length=3:=rfl
structure dA where
 id:Int
 since:Int
 done:Int
 ki:Int
 ch:aV
 waits:List Int
 log:List bf
abbrev l8:=Int×Int×Int
structure dz where
 ch:aV
 nodes:List dA
 done:List bf
 mail:List l8
def dY:List bf→List bf→Nat
 | a::xs,b::ys=>if a=b then dY xs ys+1 else 0
 | _,_=>0
theorem xn:∀a b:List bf,dY a b≤a.length∧dY a b≤b.length
 | [],_=>⟨bH _,bH _⟩
 | _::_,[]=>⟨bH _,bH _⟩
 | a::xs,b::ys=>by
  have ih:=xn xs ys
  unfold dY
  simp only[ku]
  split<;>omega
theorem Mb:∀(a b:List bf) {i:Nat},i<dY a b→a[i]?=b[i]?
 | [],_,i,h=>by simp[dY] at h
 | _::_,[],i,h=>by simp[dY] at h
 | a::xs,b::ys,i,h=>by
  unfold dY at h
  split at h
  ·rename_i e
   cases i with
   | zero=>simp[e]
   | succ i=>simpa using Mb xs ys (i:=i) yg
  ·omega
theorem Ma:∀(a b:List bf) {x y:bf},a[dY a b]?=some x→b[dY a b]?=some y→x≠y
 | [],_,x,y,h,_=>by simp[dY] at h
 | _::_,[],x,y,_,h=>by simp[dY] at h
 | a::xs,b::ys,x,y,h,k=>by
  unfold dY at h k
  by_cases e:a=b
  ·rw[if_pos e] at h k
   exact Ma xs ys ye (by simpa using k)
  ·rw[if_neg e] at h k
   simp at h k
   rw[←h,←k];exact e
theorem Vs{a b:List bf}{i:Nat}(ha:i≤a.length)(hb:i≤b.length)(h:∀j,j<i→a[j]?=b[j]?)(hn:∀x y,a[i]?=some x→b[i]?=some y→x≠y):dY a b=i:=by
 have hl:=xn a b
 rcases Nat.lt_trichotomy (dY a b) i with h1 | h1 | h1
 ·exfalso
  obtain⟨x,hx⟩:∃x,a[dY a b]?=some x:=⟨_,GE yg⟩
  obtain⟨y,hy⟩:∃y,b[dY a b]?=some y:=⟨_,GE yg⟩
  have:=h _ h1
  rw[hx,hy] at this
  exact Ma a b hx hy (ij this)
 ·exact h1
 ·exfalso
  obtain⟨x,hx⟩:∃x,a[i]?=some x:=⟨_,GE yg⟩
  obtain⟨y,hy⟩:∃y,b[i]?=some y:=⟨_,GE yg⟩
  have:=Mb a b h1
  rw[hx,hy] at this
  exact hn x y hx hy (ij this)
def d'(b:Prop)[Decidable b](f:FindM):List FindM:=if b then [f] else []
def fU(c:ba)(n:dA)(k:Nat):List FindM:=(List.range k).flatMap fun i:Nat=>match n.waits[i]? with
 | some q=>d' (c.queue<q) (7,n.id,(i:Int))
 | none=>[]
theorem Ml(c:ba)(n:dA)(k:Nat):fU c n (k+1)=fU c n k++(match n.waits[k]? with | some q=>d' (c.queue<q) (7,n.id,(k:Int)) | none=>[]):=by
 unfold fU
 rw[tH,wg];simp
theorem GZ(c:ba)(n:dA)(k:Nat):(fU c n k).length≤k:=by
 induction k with
 | zero=>exact NR _
 | succ k ih=>
  rw[Ml,a8]
  have:∀o:Option Int,(match o with | some q=>d' (c.queue<q) (7,n.id,(k:Int)) | none=>[]).length≤1:=fun o=>by
   cases o with
   | none=>exact bH _
   | some q=>show(d' _ _).length≤1;unfold d';split<;>simp
  have:=this n.waits[k]?
  omega
def np(ch:aV)(n:dA):List FindM:=d' (ch.ar<n.ch.ar∨n.ch.ar=ch.ar∧n.ch≠ch) (2,n.id,n.ch.ar)
def kC(c:ba)(ch:aV)(n:dA):List FindM:=np ch n++d' (n.done<(n.log.length:Int)-c.gY) (3,n.id,(n.log.length:Int))
def eM(c:ba)(ch:aV)(n:dA):List FindM:=kC c ch n++d' (n.done<0∨(n.log.length:Int)<n.done) (4,n.id,n.done)
def gG(c:ba)(ch:aV)(n:dA):List FindM:=eM c ch n++fU c n c.qs.length++d' (c.reads<n.ki) (8,n.id,n.ki)
theorem pF(b:Prop)[Decidable b](f:FindM):(d' b f).length≤1:=by unfold d';split<;>simp
theorem I9(c:ba)(ch:aV)(n:dA):(gG c ch n).length≤c.qs.length+4:=by
 unfold gG eM kC np
 simp only[a8]
 have:=GZ c n c.qs.length
 have h1:=pF (ch.ar<n.ch.ar∨n.ch.ar=ch.ar∧n.ch≠ch) (2,n.id,n.ch.ar)
 have h2:=pF (n.done<(n.log.length:Int)-c.gY) (3,n.id,(n.log.length:Int))
 have h3:=pF (n.done<0∨(n.log.length:Int)<n.done) (4,n.id,n.done)
 have h4:=pF (c.reads<n.ki) (8,n.id,n.ki)
 omega
def mT(l:List dA)(id:Int):Option dA:=l.find? fun n=>n.id == id
def iP(n:dA)(ah:Option dA):List FindM:=match ah with
 | some a=>d' (dY n.log a.log<n.log.length) (5,n.id,(dY n.log a.log:Int))
 | none=>[]
def jd(n:dA)(done:List bf):List FindM:=d' (dY n.log done<n.log.length∧dY n.log done<done.length) (6,n.id,(dY n.log done:Int))
abbrev rf:=List FindM×Option dA
def stepT(v:dz)(s:rf)(m:aS):rf:=match mT v.nodes m.1 with
 | some n=>if n.since=m.2 then (s.1++iP n s.2++jd n v.done,some n) else s
 | none=>s
def e8(v:dz)(k:Nat)(l:List FindM):rf:=(v.ch.ms.take k).foldl (stepT v) (l,none)
theorem aaR(v:dz){k:Nat}{m:aS}(h:v.ch.ms[k]?=some m)(l:List FindM):e8 v (k+1) l=stepT v (e8 v k l) m:=by
 unfold e8
 rw[fX,h,Bv];rfl
theorem DD(v:dz)(k:Nat):(e8 v k []).1.length≤2*k:=by
 have:∀(ms:List aS) (s:rf),(ms.foldl (stepT v) s).1.length≤s.1.length+2*ms.length:=by
  intro ms
  induction ms with
  | nil=>intro s;exact NR _
  | cons m ms ih=>
   intro s
   rw[qW]
   have h1:=ih (stepT v s m)
   have h2:(stepT v s m).1.length≤s.1.length+2:=by
    unfold stepT
    split
    ·split
     ·simp only[a8]
      rename_i n _ _
      have a1:(iP n s.2).length≤1:=by unfold iP;split;exact pF _ _;exact bH _
      have a2:(jd n v.done).length≤1:=pF _ _
      omega
     ·omega
    ·omega
   rw[ku];omega
 have h:=this (v.ch.ms.take k) ([],none)
 have h2:=yX k v.ch.ms
 show((v.ch.ms.take k).foldl (stepT v) ([],none)).1.length≤_
 simp only[List.length_nil] at h
 omega
def Ad(c:ba)(l:List l8):List FindM:=l.flatMap fun m=>d' (c.link<m.2.2) (9,m.1,m.2.1)
def qx(v:dz):Bool:=eN v.ch == 0
def nT(v:dz):List FindM:=d' (¬qx v=true) (1,0,0)
def kE(c:ba)(v:dz)(k:Nat):List FindM:=nT v++(v.nodes.take k).flatMap (gG c v.ch)
def pz(c:ba)(v:dz):List FindM:=kE c v v.nodes.length++if qx v then (e8 v v.ch.ms.length []).1 else []
def jT(c:ba)(v:dz)(k:Nat):List FindM:=pz c v++Ad c (v.mail.take k)
def jm(c:ba)(v:dz):List FindM:=if c=bh c then jT c v v.mail.length else []
theorem QW(c:ba)(v:dz){k:Nat}{n:dA}(h:v.nodes[k]?=some n):kE c v (k+1)=kE c v k++gG c v.ch n:=by
 unfold kE
 rw[fX,h,wg,ed];simp
theorem QX(c:ba)(v:dz){k:Nat}{m:l8}(h:v.mail[k]?=some m):jT c v (k+1)=jT c v k++d' (c.link<m.2.2) (9,m.1,m.2.1):=by
 unfold jT Ad
 rw[fX,h,wg,ed];simp
end Au
namespace Au
open Go Vg T Api Kv Ch Lg Conf Rep
attribute [local irreducible] VO VC VA
def sR(m k:aS):Bool:=decide (m.1=k.1)&&(decide (m.2=k.2)&&true)
theorem Ga(m k:aS):sR m k=true↔m=k:=by
 obtain⟨m1,m2⟩:=m;obtain⟨k1,k2⟩:=k
 simp[sR]
theorem Xu:Tryz.prog.stoodInHeld 99=false:=by kernel_rfl
theorem SI:Tryz.prog.eqGuardType Tryz.prog.depth 99=false:=by kernel_rfl
theorem Uh(o p:aS)(w:World):(Op.equal 99 (.agg (aD o).toArray) (.agg (aD p).toArray)).run Tryz.prog w=.ok (sR o p) w:=by
 have hi:∀(cs:List Value) (j:Nat) (n:Int),cs[j]?=some (.int .i64 n)→∀w:World,(part 3 cs.toArray j).run Tryz.prog w=.ok (.int .i64 n) w:=fun cs j n h w=>pO (oH.look aC (t:=3) (ti:=T.t3) rfl) rfl h w
 refine eU.run (eU.st Tryz.underlying99 Xu (hU.cons yy (hi _ _ _ Z) (hi _ _ _ Z) (eU.int Tryz.underlying3 o.1 p.1) (hU.cons yy (hi _ _ _ Z) (hi _ _ _ Z) (eU.int Tryz.underlying3 o.2 p.2) hU.nil))) yy w
theorem RO{a b:Option Addr}{ca cb:Nat}{xs ys:List aS}(hx:aT aD 2 Fr w a xs)(hy:aT aD 2 Fr w b ys)(hlx:xs.length≤1000000)(hly:ys.length≤1000000):
  ax Tryz.prog 135 [.slice a xs.length ca,.slice b ys.length cb] Fr w [] (fun v L=>v=.bool (decide (xs=ys))∧L=[]):=by
 refine TF 26 Tryz.func135 Z yp aC Z Z ?_
 refine al ?_
 refine VC.dp (i:=(xs.length:Int)) (j:=(ys.length:Int)) Z (fun h=>?_) (fun h=>CK ?_)
 ·refine al ?_
  exact CR (an.bool 4 Z Z (by rw[DF (fun e=>h mW)]) ER ⟨rfl,Z⟩)
 have hll:xs.length=ys.length:=by omega
 refine al ?_
 refine VC.loop (σ:=Nat) (fun n=>[(0,.slice a xs.length ca),(1,.slice b ys.length cb),(12,.int .i64 xs.length),(13,.int .i64 n)]) (fun _=>[]) (fun n=>n≤xs.length∧∀k,k<n→xs[k]?=ys[k]?) (fun n=>xs.length-n) 0
  ⟨bH _,fun k hk=>absurd hk (Nat.not_lt_zero k)⟩ aH ER ?_
 rintro n ⟨hn,hall⟩
 refine al ?_
 refine CP (p:=(n:Int)<(xs.length:Int)) Z (fun h2=>CK ?_) (fun h2=>CX ?_)
 rotate_left
 ·refine al ?_
  refine CR (an.bool 4 Z Z ?_ ER ⟨rfl,Z⟩)
  rw[DT]
  apply qe
  intro k
  by_cases hk:k<n
  ·exact hall k hk
  ·rw[kr yg,kr yg]
 obtain⟨x,hxk⟩:∃x,xs[n]?=some x:=⟨_,GE yg⟩
 obtain⟨y,hyk⟩:∃y,ys[n]?=some y:=⟨_,GE yg⟩
 obtain⟨mb,mo,hma,ra,rc⟩:=aT.rd (X:=⟨Tryz.prog,tab,aC,26,Fr,w⟩) hx hxk
 subst hma
 obtain⟨nb,no,hna,sa,sc⟩:=aT.rd (X:=⟨Tryz.prog,tab,aC,26,Fr,w⟩) hy hyk
 subst hna
 refine tm ?_
 refine mV ?_
 refine al ?_
 refine CD (ts 0 9 .nil) yp yr ?_
 refine bp ?_
 refine D9 ?_
 refine AG (VA.load Z Z Z (ra _ _ Z Z) ?_)
 refine bp ?_
 refine D9 ?_
 refine AG (VA.load Z Z Z (sa _ _ Z Z) ?_)
 refine AG (AI Z (TK SI Z Z (Uh x y)) ?_)
 refine bp ?_
 refine CC (t:=!sR x y) Z (fun hd=>?_) (fun hd=>CK ?_)
 ·refine al ?_
  refine CR (an.bool 4 Z Z ?_ ER ⟨rfl,Z⟩)
  have hd:sR x y=false:=by simpa using hd
  rw[DF]
  intro e
  rw[e,hyk] at hxk
  cases hxk
  rw[(Ga x x).2 rfl] at hd
  cases hd
 ·have hd:sR x y=true:=by simpa using hd
  refine jC ?_
  exact⟨n+1,⟨by omega,fun k hk=>by
   by_cases hkn:k=n
   ·subst hkn;rw[hxk,hyk,(Ga x y).1 hd]
   ·exact hall k yg⟩,by dsimp only;omega,aH,ER⟩
theorem WM{c d:aV}{a b:Option Addr}{ac bc:Nat}(h:aT aD 2 Fr w a c.ms)(k:aT aD 2 Fr w b d.ms)(hl:c.ms.length≤1000000)(hk:d.ms.length≤1000000):
  ax Tryz.prog 86 [.agg (c.cells a ac).toArray,.agg (d.cells b bc).toArray] Fr w [] (fun v L=>v=.bool (decide (c=d))∧L=[]):=by
 refine TF 24 Tryz.func86 Z yp aC Z Z ?_
 refine CS (CG (VG (VB (vs:=c.cells a ac) Z fun x=>VG (VB (vs:=d.cells b bc) Z fun y=>?_))))
 refine dF ?_
 by_cases h1:c.ar=d.ar
 rotate_left
 ·refine VG (VY 10 false Z (by rw[beq_eq_false_iff_ne];exact h1) ?_)
  refine dG ?_
  refine VG (VY 17 false Z Z ?_)
  refine dG ?_
  exact CR (an.tmp 4 Z Z aa.nil.aj ⟨by rw[DF (fun e=>h1 mW)],Z⟩)
 refine VG (VY 10 true Z (by rw[beq_iff_eq];exact h1) ?_)
 refine dG ?_
 by_cases h2:c.drain=d.drain
 rotate_left
 ·refine VG (VY 17 false Z (by rw[beq_eq_false_iff_ne];exact h2) ?_)
  refine dG ?_
  exact CR (an.tmp 4 Z Z aa.nil.aj ⟨by rw[DF (fun e=>h2 mW)],Z⟩)
 refine VG (VY 17 true Z (by rw[beq_iff_eq];exact h2) ?_)
 refine dG ?_
 refine VG (VV (fun Fr w hF hs hS=>RO Fr w (h.of hF hs) (k.of hF hs) hl hk) Z ?_)
 refine dG ?_
 refine CR (an.bool 4 Z Z ?_ aa.nil.aj ⟨rfl,Z⟩)
 refine decide_eq_decide.2 ⟨fun e=>?_,fun e=>by rw[e]⟩
 cases c;cases d;dsimp only at h1 h2 e;subst h1;subst h2;subst e;rfl
end Au
namespace Au
open Go Vg T Api Kv Ch Lg Conf Rep
attribute [local irreducible] VO VC VA
def L4(o p:bw):Bool:=decide (o.kind=p.kind)&&(decide (o.key=p.key)&&(decide (o.value=p.value)&&(decide (o.version=p.version)&&true)))
def B3(e d:bf):Bool:=decide (e.index=d.index)&&(decide (e.aL=d.aL)&&(decide (e.seq=d.seq)&&(L4 e.op d.op&&true)))
theorem Kc(e d:bf):B3 e d=true↔e=d:=by
 obtain⟨a1,a2,a3,⟨o1,o2,o3,o4⟩⟩:=e
 obtain⟨b1,b2,b3,⟨p1,p2,p3,p4⟩⟩:=d
 simp[B3,L4]
theorem Xs:Tryz.prog.stoodInHeld 55=false:=by kernel_rfl
theorem Xv:Tryz.prog.stoodInHeld 36=false:=by kernel_rfl
theorem SG:Tryz.prog.eqGuardType Tryz.prog.depth 55=false:=by kernel_rfl
theorem RG(e d:bf)(w:World):(Op.equal 55 (.agg (bm e).toArray) (.agg (bm d).toArray)).run Tryz.prog w=.ok (B3 e d) w:=by
 have hi:∀(cs:List Value) (j:Nat) (n:Int),cs[j]?=some (.int .i64 n)→∀w:World,(part 3 cs.toArray j).run Tryz.prog w=.ok (.int .i64 n) w:=fun cs j n h w=>pO (oH.look aC (t:=3) (ti:=T.t3) rfl) rfl h w
 have hs:∀(cs:List Value) (j:Nat) (s:ByteArray),cs[j]?=some (.string s)→∀w:World,(part 9 cs.toArray j).run Tryz.prog w=.ok (.string s) w:=fun cs j n h w=>pO (oH.look aC (t:=9) (ti:=T.t9) rfl) rfl h w
 have ho:∀(e:bf) (w:World),(part 36 (bm e).toArray 3).run Tryz.prog w=.ok (.agg e.op.cells.toArray) w:=fun e w=>Vr (cs:=bm e) (ds:=e.op.cells) (off:=3) (oH.look aC (t:=36) (ti:=T.t36) rfl) yp (by show((bm e).drop 3).take 4=e.op.cells;rfl) w
 refine eU.run (eU.st Tryz.underlying55 Xs (hU.cons yy (hi _ _ _ Z) (hi _ _ _ Z) (eU.int Tryz.underlying3 e.index d.index) (hU.cons yy (hi _ _ _ Z) (hi _ _ _ Z) (eU.int Tryz.underlying3 e.aL d.aL) (hU.cons yy (hi _ _ _ Z) (hi _ _ _ Z) (eU.int Tryz.underlying3 e.seq d.seq) (hU.cons yy (ho e) (ho d) (eU.st Tryz.underlying36 Xv (hU.cons yy (hi _ _ _ Z) (hi _ _ _ Z) (eU.int Tryz.underlying3 e.op.kind d.op.kind) (hU.cons yy (hs _ _ _ Z) (hs _ _ _ Z) (eU.str Tryz.underlying9 e.op.key d.op.key) (hU.cons yy (hs _ _ _ Z) (hs _ _ _ Z) (eU.str Tryz.underlying9 e.op.value d.op.value) (hU.cons yy (hi _ _ _ Z) (hi _ _ _ Z) (eU.int Tryz.underlying3 e.op.version d.op.version) hU.nil))))) hU.nil))))) yy w
theorem Mc{a b:Option Addr}{ca cb:Nat}{xs ys:List bf}(hx:aT bm 7 Fr w a xs)(hy:aT bm 7 Fr w b ys)(hlx:xs.length≤1000000)(hly:ys.length≤1000000):
  ax Tryz.prog 88 [.slice a xs.length ca,.slice b ys.length cb] Fr w [] (fun v L=>v=.int .i64 (dY xs ys:Nat)∧L=[]):=by
 refine TF 30 Tryz.func88 Z yp aC Z Z ?_
 refine ae ?_
 refine VC.loop (σ:=Nat) (fun n=>[(0,.slice a xs.length ca),(1,.slice b ys.length cb),(5,.int .i64 n)]) (fun _=>[]) (fun n=>n≤xs.length∧n≤ys.length∧∀k,k<n→xs[k]?=ys[k]?) (fun n=>xs.length-n) 0
  ⟨bH _,bH _,fun k hk=>absurd hk (Nat.not_lt_zero k)⟩ aH ER ?_
 rintro n ⟨hn,hn2,hall⟩
 have stop:(∀x y,xs[n]?=some x→ys[n]?=some y→x≠y)→dY xs ys=n:=fun h=>Vs hn hn2 hall h
 refine CS (CS ?_)
 refine CD (ts 0 21 .nil) yp yr ?_
 refine cn ?_
 by_cases h1:n<xs.length
 rotate_left
 ·refine AG (AY 10 false Z (DF yg) ?_)
  refine cn ?_
  refine AG (AY 16 false Z Z ?_)
  refine cn ?_
  refine EG ?_
  exact CR (an.int 4 rfl rfl (by rw[stop (fun x y hx=>by rw[kr yg] at hx;cases hx)]) ER ⟨rfl,rfl⟩)
 refine AG (AY 10 true Z (DT yg) ?_)
 refine cn ?_
 by_cases h2:n<ys.length
 rotate_left
 ·refine AG (AY 16 false Z (DF yg) ?_)
  refine cn ?_
  refine EG ?_
  exact CR (an.int 4 rfl rfl (by rw[stop (fun x y _ hy=>by rw[kr yg] at hy;cases hy)]) ER ⟨rfl,rfl⟩)
 refine AG (AY 16 true Z (DT yg) ?_)
 refine cn ?_
 obtain⟨x,hxk⟩:∃x,xs[n]?=some x:=⟨_,GE yg⟩
 obtain⟨y,hyk⟩:∃y,ys[n]?=some y:=⟨_,GE yg⟩
 obtain⟨mb,mo,hma,ra,rc⟩:=aT.rd (X:=⟨Tryz.prog,tab,aC,30,Fr,w⟩) hx hxk
 subst hma
 obtain⟨nb,no,hna,sa,sc⟩:=aT.rd (X:=⟨Tryz.prog,tab,aC,30,Fr,w⟩) hy hyk
 subst hna
 refine D9 ?_
 refine AG (VA.load Z Z Z (ra _ _ Z Z) ?_)
 refine cn ?_
 refine D9 ?_
 refine AG (VA.load Z Z Z (sa _ _ Z Z) ?_)
 refine AG (AI Z (KW SG Z Z (RG x y)) ?_)
 refine cn ?_
 refine CC (t:=B3 x y) Z (fun hd=>CK ?_) (fun hd=>CX ?_)
 ·refine gC ?_
  exact⟨n+1,⟨by omega,by omega,fun k hk=>by
   by_cases hkn:k=n
   ·subst hkn;rw[hxk,hyk,(Kc x y).1 hd]
   ·exact hall k yg⟩,by dsimp only;omega,aH,ER⟩
 ·refine ae ?_
  exact CR (an.int 4 Z Z (by rw[stop (fun x' y' h1 h2 e=>by
   rw[hxk] at h1;rw[hyk] at h2;cases h1;cases h2;cases e
   rw[(Kc x x).2 rfl] at hd;cases hd)]) ER ⟨rfl,rfl⟩)
end Au
namespace Au
open Go Vg T Api Kv Ch Lg Rd Conf Rep Sched Adm
attribute [local irreducible] VO VC VA
structure cZ where
 n:dA
 ma:Option Addr
 mc:Nat
 wa:Option Addr
 wc:Nat
 la:Option Addr
 lc:Nat
def bI(x:cZ):List Value:=[.int .i64 x.n.id,.int .i64 x.n.since,.int .i64 x.n.done,.int .i64 x.n.ki,.int .i64 x.n.ch.ar,.slice x.ma x.n.ch.ms.length x.mc,.int .i64 x.n.ch.drain,.slice x.wa x.n.waits.length x.wc,.slice x.la x.n.log.length x.lc]
theorem u3(x:cZ):(bI x).length=9:=rfl
structure wy(Fr:Nat→Prop)(w:World)(x:cZ):Prop where
 ms:aT aD 2 Fr w x.ma x.n.ch.ms
 waits:gp Fr w x.wa x.n.waits
 log:aT bm 7 Fr w x.la x.n.log
 jN:x.n.ch.ms.length≤1000
 wl:x.n.waits.length≤1000
 ll:x.n.log.length≤5000
theorem gp.cP{Fr Fr':Nat→Prop}{w w':World}{a:Option Addr}{qs:List Int}(h:gp Fr w a qs)(hF:∀b,Fr b→Fr' b)(hk:eL Fr w w'):gp Fr' w' a qs:=⟨fun hne=>by
 obtain⟨b,off,h1,h2,h3⟩:=h.at_ hne
 refine⟨b,off,h1,hF b h2,fun i v hi=>?_⟩
 have:=h3 i v hi
 unfold World.cell? at this ⊢
 rw[hk.block b h2];exact this⟩
theorem wy.of{X:Cx}{x:cZ}(h:wy X.Fr X.w0 x){Fr':Nat→Prop}{w:World}{L:List HP}(hF:∀b,X.Fr b→Fr' b)(hw:St X L w):wy Fr' w x:=⟨h.ms.of hF hw,gp.cP h.waits hF hw.cP,h.log.of hF hw,h.jN,h.wl,h.ll⟩
abbrev kF:TypeId:=24
theorem Qk{c:ba}(hf:c=bh c){qa:Option Addr}{qc:Nat}{ch:aV}{ca:Option Addr}{cc:Nat}(hch:aT aD 2 Fr w ca ch.ms)(hchl:ch.ms.length≤1000){x:cZ}(hx:wy Fr w x):
  ax Tryz.prog 40 [.agg (c.cells qa qc).toArray,.agg (ch.cells ca cc).toArray,.agg (bI x).toArray] Fr w [] (fun v L=>∃a cap,v=.slice a (gG c ch x.n).length cap∧L=[aq 59 3 a (gG c ch x.n).length cap (flat bB (gG c ch x.n))]):=by
 have hcb:=kG hf
 have hql:c.qs.length≤1000:=by
  have h2:c.qs=eI c.qs:=congrArg ba.qs hf
  have:=sX c.qs
  rw[←h2] at this;omega
 have hwl:=hx.wl;have hll:=hx.ll
 have lA:(np ch x.n).length≤1:=pF _ _
 have lB:(kC c ch x.n).length≤2:=by unfold kC;rw[a8];have:=pF (x.n.done<(x.n.log.length:Int)-c.gY) (3,x.n.id,(x.n.log.length:Int));omega
 have lC:(eM c ch x.n).length≤3:=by unfold eM;rw[a8];have:=pF (x.n.done<0∨(x.n.log.length:Int)<x.n.done) (4,x.n.id,x.n.done);omega
 refine TF 121 Tryz.func40 Z yp aC Z Z ?_
 refine CS (CG (VG (VB (vs:=c.cells qa qc) Z fun b3=>VG (VB (vs:=ch.cells ca cc) Z fun b4=>VG (VB (vs:=bI x) Z fun b5=>VG (VN ?_))))))
 refine CN (L':=aq 59 3 none 0 0 [] :: [pt b5 (bI x) 50,pt b4 (ch.cells ca cc) cM,pt b3 (c.cells qa qc) kF]) (aa.cK aa.refl).aj ?_
 refine jz ?_
 show VC _ _ _ _ _
 refine mV ?_
 refine vQ ?_
 refine VG (VO.ld 2 Z Z Z Z ?_)
 refine gm ?_
 show VC _ _ _ _ _
 refine CS ?_
 refine VC.bZ (σ:=Option Addr×Nat) (fun s=>[(3,pV b3),(4,pV b4),(5,pV b5),(7,.slice s.1 (np ch x.n).length s.2)]) (fun s=>aq 59 3 s.1 (np ch x.n).length s.2 (flat bB (np ch x.n)) :: [pt b5 (bI x) 50,pt b4 (ch.cells ca cc) cM,pt b3 (c.cells qa qc) kF]) (fun _=>True) ?_ ?_
 ·refine CS ?_
  refine VC.bZ (σ:=Bool) (fun b=>[(3,pV b3),(4,pV b4),(5,pV b5),(7,.slice none 0 0),(31,.bool b)]) (fun _=>aq 59 3 none 0 0 [] :: [pt b5 (bI x) 50,pt b4 (ch.cells ca cc) cM,pt b3 (c.cells qa qc) kF]) (fun b=>b=true↔(ch.ar<x.n.ch.ar∨x.n.ch.ar=ch.ar∧x.n.ch≠ch)) ?_ ?_
  ·refine CG ?_
   refine km ?_
   by_cases g1:ch.ar<x.n.ch.ar
   ·refine VG (VY 17 true Z (DT g1) ?_)
    refine km ?_
    exact⟨true,⟨fun _=>.inl g1,fun _=>rfl⟩,aH,ER⟩
   refine VG (VY 17 false Z (DF g1) ?_)
   refine km ?_
   by_cases g2:x.n.ch.ar=ch.ar
   rotate_left
   ·refine VG (VY 24 false Z (by rw[beq_eq_false_iff_ne];exact g2) ?_)
    refine km ?_
    exact⟨false,⟨fun h=>(by cases h),fun h=>absurd h (by rintro(h | h);exact g1 h;exact g2 h.1)⟩,aH,ER⟩
   refine VG (VY 24 true Z (by rw[beq_iff_eq];exact g2) ?_)
   refine km ?_
   refine VG (VL 1 (x.n.ch.cells x.ma x.mc) Z Z Z Z ?_)
   refine VG (VL 2 (ch.cells ca cc) Z Z Z Z ?_)
   refine VG (VV (fun Fr w hF hs hS=>WM Fr w (hx.ms.of hF hs) (hch.of hF hs) (by have:=hx.jN;omega) yg) Z ?_)
   refine km ?_
   by_cases g3:x.n.ch=ch
   ·exact⟨_,⟨fun h=>absurd h (by rw[DT g3];simp),fun h=>absurd g3 (by rcases h with h | h;exact absurd h g1;exact h.2)⟩,SC rfl (SC rfl (SC rfl (SC rfl (SC rfl (SN _))))),ER⟩
   ·exact⟨_,⟨fun _=>.inr ⟨g2,g3⟩,fun _=>by rw[DF g3];rfl⟩,SC Z (SC Z (SC Z (SC Z (SC Z (SN _))))),ER⟩
  rintro b hb
  refine CC Z (fun hbt=>?_) (fun hbf=>CK ?_)
  ·have hp:=hb.1 hbt
   refine km ?_
   refine VG (VI (LB (pv:=[(0,.int .i64 2),(1,.int .i64 x.n.id),(2,.int .i64 x.n.ch.ar)]) (bB (2,x.n.id,x.n.ch.ar)) Z Z Z Z Z) ?_)
   refine VG (VO.buildSlice (n:=1) (pv:=[(0,.agg (bB (2,x.n.id,x.n.ch.ar)).toArray)]) (bB (2,x.n.id,x.n.ch.ar)) Z Z Z Z yy (eY Z Z Z) fun nb=>?_)
   refine VG (VO.append (m:=1) (news:=bB (2,x.n.id,x.n.ch.ar)) 1 Z Z Z Z Z Z Z (dm.pt 0 Z Z Z) Z (kk (k:=100000) yg yy) yg fun a2 c2 hc2=>?_)
   refine av ?_
   rw[show np ch x.n=[((2,x.n.id,x.n.ch.ar):FindM)] from by unfold np;rw[d',if_pos hp]]
   exact A9
  ·have hp:¬(ch.ar<x.n.ch.ar∨x.n.ch.ar=ch.ar∧x.n.ch≠ch):=fun h=>by rw[hb.2 h] at hbf;cases hbf
   rw[show np ch x.n=[] from by unfold np;rw[d',if_neg hp]]
   exact⟨(none,0),trivial,aH,ER⟩
 rintro⟨sa,sc⟩ -
 dsimp only
 refine CS ?_
 refine VC.bZ (σ:=Option Addr×Nat) (fun s=>[(3,pV b3),(4,pV b4),(5,pV b5),(7,.slice s.1 (kC c ch x.n).length s.2)]) (fun s=>aq 59 3 s.1 (kC c ch x.n).length s.2 (flat bB (kC c ch x.n)) :: [pt b5 (bI x) 50,pt b4 (ch.cells ca cc) cM,pt b3 (c.cells qa qc) kF]) (fun _=>True) ?_ ?_
 ·refine km ?_
  refine pZ ?_
  refine km ?_
  refine CP (p:=x.n.done<(x.n.log.length:Int)-c.gY) Z (fun hp=>?_) (fun hp=>CK ?_)
  ·skip
   refine km ?_
   refine VG (VI (LB (pv:=[(0,.int .i64 3),(1,.int .i64 x.n.id),(2,.int .i64 (x.n.log.length:Int))]) (bB (3,x.n.id,(x.n.log.length:Int))) Z Z Z Z Z) ?_)
   refine VG (VO.buildSlice (n:=1) (pv:=[(0,.agg (bB (3,x.n.id,(x.n.log.length:Int))).toArray)]) (bB (3,x.n.id,(x.n.log.length:Int))) Z Z Z Z yy (eY Z Z Z) fun nb=>?_)
   refine VG (VO.append (m:=1) (news:=bB (3,x.n.id,(x.n.log.length:Int))) 1 Z Z Z Z Z Z Z (dm.pt 0 Z Z Z) Z (kk (k:=100000) yg yy) yg fun a2 c2 hc2=>?_)
   refine av ?_
   rw[show kC c ch x.n=np ch x.n ++ [((3,x.n.id,(x.n.log.length:Int)):FindM)] from by unfold kC;rw[d',if_pos hp],a8,fu]
   exact A9
  ·skip
   rw[show kC c ch x.n=np ch x.n from by unfold kC;rw[d',if_neg hp,br]]
   exact qV
 rintro⟨sa,sc⟩ -
 dsimp only
 refine CS ?_
 refine VC.bZ (σ:=Option Addr×Nat) (fun s=>[(3,pV b3),(4,pV b4),(5,pV b5),(7,.slice s.1 (eM c ch x.n).length s.2)]) (fun s=>aq 59 3 s.1 (eM c ch x.n).length s.2 (flat bB (eM c ch x.n)) :: [pt b5 (bI x) 50,pt b4 (ch.cells ca cc) cM,pt b3 (c.cells qa qc) kF]) (fun _=>True) ?_ ?_
 ·refine CS ?_
  refine VC.bZ (σ:=Bool) (fun b=>[(3,pV b3),(4,pV b4),(5,pV b5),(7,.slice sa (kC c ch x.n).length sc),(69,.bool b)]) (fun _=>aq 59 3 sa (kC c ch x.n).length sc (flat bB (kC c ch x.n)) :: [pt b5 (bI x) 50,pt b4 (ch.cells ca cc) cM,pt b3 (c.cells qa qc) kF]) (fun b=>b=true↔(x.n.done<0∨(x.n.log.length:Int)<x.n.done)) ?_ ?_
  ·refine CG ?_
   refine km ?_
   by_cases g1:x.n.done<0
   ·refine VG (VY 62 true Z (DT g1) ?_)
    refine km ?_
    exact⟨true,⟨fun _=>.inl g1,fun _=>rfl⟩,aH,ER⟩
   refine VG (VY 62 false Z (DF g1) ?_)
   refine km ?_
   exact⟨decide ((x.n.log.length:Int)<x.n.done),⟨fun h=>.inr (of_decide_eq_true h),fun h=>DT (by rcases h with h | h;exact absurd h g1;exact h)⟩,aH,ER⟩
  rintro b hb
  refine CC Z (fun hbt=>?_) (fun hbf=>CK ?_)
  ·have hp:=hb.1 hbt
   refine km ?_
   refine VG (VI (LB (pv:=[(0,.int .i64 4),(1,.int .i64 x.n.id),(2,.int .i64 x.n.done)]) (bB (4,x.n.id,x.n.done)) Z Z Z Z Z) ?_)
   refine VG (VO.buildSlice (n:=1) (pv:=[(0,.agg (bB (4,x.n.id,x.n.done)).toArray)]) (bB (4,x.n.id,x.n.done)) Z Z Z Z yy (eY Z Z Z) fun nb=>?_)
   refine VG (VO.append (m:=1) (news:=bB (4,x.n.id,x.n.done)) 1 Z Z Z Z Z Z Z (dm.pt 0 Z Z Z) Z (kk (k:=100000) yg yy) yg fun a2 c2 hc2=>?_)
   refine av ?_
   rw[show eM c ch x.n=kC c ch x.n ++ [((4,x.n.id,x.n.done):FindM)] from by unfold eM;rw[d',if_pos hp],a8,fu]
   exact A9
  ·have hp:¬(x.n.done<0∨(x.n.log.length:Int)<x.n.done):=fun h=>by rw[hb.2 h] at hbf;cases hbf
   rw[show eM c ch x.n=kC c ch x.n from by unfold eM;rw[d',if_neg hp,br]]
   exact qV
 rintro⟨sa,sc⟩ -
 dsimp only
 refine CS ?_
 refine VC.bZ (σ:=Option Addr×Nat) (fun s=>[(3,pV b3),(4,pV b4),(5,pV b5),(7,.slice s.1 (eM c ch x.n++fU c x.n (c.qs.length)).length s.2)]) (fun s=>aq 59 3 s.1 (eM c ch x.n++fU c x.n (c.qs.length)).length s.2 (flat bB (eM c ch x.n++fU c x.n (c.qs.length))) :: [pt b5 (bI x) 50,pt b4 (ch.cells ca cc) cM,pt b3 (c.cells qa qc) kF]) (fun _=>True) ?_ ?_
 ·refine km ?_
  refine VC.loop (σ:=Nat×Option Addr×Nat) (fun s=>[(3,pV b3),(4,pV b4),(5,pV b5),(7,.slice s.2.1 (eM c ch x.n++fU c x.n (s.1)).length s.2.2),(80,.int .i64 c.qs.length),(81,.int .i64 s.1)]) (fun s=>aq 59 3 s.2.1 (eM c ch x.n++fU c x.n (s.1)).length s.2.2 (flat bB (eM c ch x.n++fU c x.n (s.1))) :: [pt b5 (bI x) 50,pt b4 (ch.cells ca cc) cM,pt b3 (c.cells qa qc) kF]) (fun s=>s.1≤c.qs.length) (fun s=>c.qs.length-s.1) (0,sa,sc) (bH _) (SC Z (SC Z (SC Z (SC (by rw[show eM c ch x.n++fU c x.n (0)=eM c ch x.n from by unfold fU;simp];rfl) aH)))) (by rw[show eM c ch x.n++fU c x.n (0)=eM c ch x.n from by unfold fU;simp];exact ER) ?_
  rintro⟨k,sa,sc⟩ hk
  dsimp only at hk ⊢
  refine av ?_
  refine CP (p:=(k:Int)<(c.qs.length:Int)) Z (fun h1=>CK ?_) (fun h1=>CX ?_)
  rotate_left
  ·obtain rfl:k=c.qs.length:=by omega
   exact qV
  have lQ:(eM c ch x.n++fU c x.n (k)).length≤2000:=by rw[a8];have:=GZ c x.n k;omega
  have hsucc:=Ml c x.n k
  refine CS ?_
  refine VC.bZ (σ:=Option Addr×Nat) (fun s=>[(3,pV b3),(4,pV b4),(5,pV b5),(7,.slice s.1 (eM c ch x.n++fU c x.n (k+1)).length s.2),(80,.int .i64 c.qs.length),(81,.int .i64 k)]) (fun s=>aq 59 3 s.1 (eM c ch x.n++fU c x.n (k+1)).length s.2 (flat bB (eM c ch x.n++fU c x.n (k+1))) :: [pt b5 (bI x) 50,pt b4 (ch.cells ca cc) cM,pt b3 (c.cells qa qc) kF]) (fun _=>True) ?_ ?_
  rotate_left
  ·rintro⟨sa,sc⟩ -
   refine km ?_
   refine tp ?_
   refine km ?_
   exact⟨(k+1,sa,sc),by dsimp only;omega,by dsimp only;omega,aH,ER⟩
  refine VC.block ?_
  refine jz ?_
  show VC _ _ _ _ _
  refine CS ?_
  refine CD (ts 0 15 .nil) yp yr ?_
  refine tv ?_
  by_cases h0:k<x.n.waits.length
  rotate_left
  ·refine AG (AY 89 false Z (DF yg) ?_)
   refine tv ?_
   refine fV ?_
   rw[show eM c ch x.n++fU c x.n (k+1)=eM c ch x.n++fU c x.n (k) from by rw[hsucc,kr yg];show _++(_ ++ [])=_;rw[br]]
   exact qV
  refine AG (AY 89 true Z (DT yg) ?_)
  refine tv ?_
  obtain⟨qv,hwq⟩:∃qv,x.n.waits[k]?=some qv:=⟨_,GE h0⟩
  obtain⟨wb,wo,hwa,hwF,hwc⟩:=hx.waits.at_ (fun e=>by rw[e] at h0;exact absurd h0 (Nat.not_lt_zero _))
  refine AG (AI Z (eE k (by show some (Value.slice x.wa x.n.waits.length x.wc)=_;rw[hwa]) Z Z Z Z Z h0) ?_)
  refine AG (VA.load Z Z Z (aw.rd (v:=.int .i64 qv) hwF (by show w.cell? ⟨wb,wo+k*1,none⟩=_;rw[pj];exact hwc k _ hwq)) ?_)
  refine tv ?_
  refine CP (p:=c.queue<qv) Z (fun hp=>?_) (fun hp=>CK ?_)
  ·skip
   refine km ?_
   refine VG (VI (LB (pv:=[(0,.int .i64 7),(1,.int .i64 x.n.id),(2,.int .i64 (k:Int))]) (bB (7,x.n.id,(k:Int))) Z Z Z Z Z) ?_)
   refine VG (VO.buildSlice (n:=1) (pv:=[(0,.agg (bB (7,x.n.id,(k:Int))).toArray)]) (bB (7,x.n.id,(k:Int))) Z Z Z Z yy (eY Z Z Z) fun nb=>?_)
   refine VG (VO.append (m:=1) (news:=bB (7,x.n.id,(k:Int))) 1 Z Z Z Z Z Z Z (dm.pt 0 Z Z Z) Z (kk (k:=100000) yg yy) yg fun a2 c2 hc2=>?_)
   refine av ?_
   rw[show eM c ch x.n++fU c x.n (k+1)=eM c ch x.n++fU c x.n (k) ++ [((7,x.n.id,(k:Int)):FindM)] from by rw[hsucc,hwq];show _++(_++d' _ _)=_;rw[d',if_pos hp,ed],a8,fu]
   exact A9
  ·skip
   rw[show eM c ch x.n++fU c x.n (k+1)=eM c ch x.n++fU c x.n (k) from by rw[hsucc,hwq];show _++(_++d' _ _)=_;rw[d',if_neg hp,br]]
   exact qV
 rintro⟨sa,sc⟩ -
 dsimp only
 have lQ:(eM c ch x.n++fU c x.n (c.qs.length)).length≤2000:=by rw[a8];have:=GZ c x.n c.qs.length;omega
 refine CS ?_
 refine VC.bZ (σ:=Option Addr×Nat) (fun s=>[(3,pV b3),(4,pV b4),(5,pV b5),(7,.slice s.1 (gG c ch x.n).length s.2)]) (fun s=>aq 59 3 s.1 (gG c ch x.n).length s.2 (flat bB (gG c ch x.n)) :: [pt b5 (bI x) 50,pt b4 (ch.cells ca cc) cM,pt b3 (c.cells qa qc) kF]) (fun _=>True) ?_ ?_
 ·refine km ?_
  refine CP (p:=c.reads<x.n.ki) Z (fun hp=>?_) (fun hp=>CK ?_)
  ·skip
   refine km ?_
   refine VG (VI (LB (pv:=[(0,.int .i64 8),(1,.int .i64 x.n.id),(2,.int .i64 x.n.ki)]) (bB (8,x.n.id,x.n.ki)) Z Z Z Z Z) ?_)
   refine VG (VO.buildSlice (n:=1) (pv:=[(0,.agg (bB (8,x.n.id,x.n.ki)).toArray)]) (bB (8,x.n.id,x.n.ki)) Z Z Z Z yy (eY Z Z Z) fun nb=>?_)
   refine VG (VO.append (m:=1) (news:=bB (8,x.n.id,x.n.ki)) 1 Z Z Z Z Z Z Z (dm.pt 0 Z Z Z) Z (kk (k:=100000) yg yy) yg fun a2 c2 hc2=>?_)
   refine av ?_
   rw[show gG c ch x.n=eM c ch x.n++fU c x.n (c.qs.length) ++ [((8,x.n.id,x.n.ki):FindM)] from by unfold gG;rw[d',if_pos hp],a8,fu]
   exact A9
  ·skip
   rw[show gG c ch x.n=eM c ch x.n++fU c x.n (c.qs.length) from by unfold gG;rw[d',if_neg hp,br]]
   exact qV
 rintro⟨sa,sc⟩ -
 refine av ?_
 exact CR (an.tmp 6 Z Z (IP 0 Z (aa.nil)).aj ⟨sa,sc,Z,Z⟩)
end Au
namespace Au
open Go Vg T Api Kv Ch Lg Rd Conf Rep Sched Adm
attribute [local irreducible] VO VC VA
def je(x:l8):List Value:=[.int .i64 x.1,.int .i64 x.2.1,.int .i64 x.2.2]
theorem Nt(x:l8):(je x).length=3:=rfl
structure fC where
 ch:aV
 ma:Option Addr
 mc:Nat
 rows:List cZ
 na:Option Addr
 nc:Nat
 done:List bf
 da:Option Addr
 dc:Nat
 mail:List l8
 xa:Option Addr
 xc:Nat
def ez(V:fC):List Value:=[.int .i64 V.ch.ar,.slice V.ma V.ch.ms.length V.mc,.int .i64 V.ch.drain,.slice V.na V.rows.length V.nc,.slice V.da V.done.length V.dc,.slice V.xa V.mail.length V.xc]
def fC.v(V:fC):dz:=⟨V.ch,V.rows.map cZ.n,V.done,V.mail⟩
structure uX(Fr:Nat→Prop)(w:World)(V:fC):Prop where
 ms:aT aD 2 Fr w V.ma V.ch.ms
 rows:aT bI 9 Fr w V.na V.rows
 each:∀x∈V.rows,wy Fr w x
 done:aT bm 7 Fr w V.da V.done
 mail:aT je 3 Fr w V.xa V.mail
 jN:V.ch.ms.length≤1000
 rl:V.rows.length≤1000
 dl:V.done.length≤5000
 xl:V.mail.length≤5000
theorem uX.of{X:Cx}{V:fC}(h:uX X.Fr X.w0 V){Fr':Nat→Prop}{w:World}{L:List HP}(hF:∀b,X.Fr b→Fr' b)(hw:St X L w):uX Fr' w V:=⟨h.ms.of hF hw,h.rows.of hF hw,fun x hx=>(h.each x hx).of hF hw,h.done.of hF hw,h.mail.of hF hw,h.jN,h.rl,h.dl,h.xl⟩
theorem MT:∀{xs:List cZ} {id:Int},(∀(j:Nat) (x:cZ),xs[j]?=some x→x.n.id≠id)→mT (xs.map cZ.n) id=none
 | [],id,_=>rfl
 | y::ys,id,h=>by
  have h0:=h 0 y rfl
  unfold mT
  rw[kV,List.find?_cons,beq_eq_false_iff_ne.2 h0]
  exact MT fun j x hj=>h (j+1) x (by simpa using hj)
theorem MU:∀{xs:List cZ} {id:Int} {k:Nat} {x:cZ},xs[k]?=some x→x.n.id=id→(∀(j:Nat) (y:cZ),j<k→xs[j]?=some y→y.n.id≠id)→mT (xs.map cZ.n) id=some x.n
 | [],id,k,x,h,_,_=>by simp at h
 | y::ys,id,0,x,h,e,_=>by
  obtain rfl:y=x:=by simpa using h
  unfold mT
  rw[kV,List.find?_cons,beq_iff_eq.2 e]
 | y::ys,id,k+1,x,h,e,hn=>by
  have h0:=hn 0 y yg rfl
  unfold mT
  rw[kV,List.find?_cons,beq_eq_false_iff_ne.2 h0]
  exact MU (k:=k) ye e fun j z hj hz=>hn (j+1) z yg (by simpa using hz)
def IX(a:Option Addr)(xs:List cZ)(id:Int)(v:Value):Prop:=(v=.pointer none∧mT (xs.map cZ.n) id=none)∨∃(k:Nat) (x:cZ) (b off:Nat),xs[k]?=some x∧a=some ⟨b,off,none⟩∧v=.pointer (some ⟨b,off+k*9,none⟩)∧mT (xs.map cZ.n) id=some x.n
theorem WS{a:Option Addr}{cap:Nat}{xs:List cZ}(hx:aT bI 9 Fr w a xs)(hl:xs.length≤1000)(id:Int):
  ax Tryz.prog 87 [.slice a xs.length cap,.int .i64 id] Fr w [] (fun v L=>IX a xs id v∧L=[]):=by
 refine TF 22 Tryz.func87 Z yp aC Z Z ?_
 refine ae ?_
 refine VC.loop (σ:=Nat) (fun n=>[(0,.slice a xs.length cap),(1,.int .i64 id),(7,.int .i64 xs.length),(8,.int .i64 n)]) (fun _=>[]) (fun n=>n≤xs.length∧∀(j:Nat) (y:cZ),j<n→xs[j]?=some y→y.n.id≠id) (fun n=>xs.length-n) 0
  ⟨bH _,fun j y hj=>absurd hj (Nat.not_lt_zero j)⟩ aH ER ?_
 rintro n ⟨hn,hall⟩
 refine ae ?_
 refine CP (p:=(n:Int)<(xs.length:Int)) Z (fun h2=>CK ?_) (fun h2=>CX ?_)
 rotate_left
 ·refine ae ?_
  exact CR (an.tmp 4 Z Z ER ⟨.inl ⟨rfl,MT fun j y hj=>by
   by_cases hjn:j<n
   ·exact hall j y hjn hj
   ·rw[kr yg] at hj;cases hj⟩,rfl⟩)
 obtain⟨x,hxk⟩:∃x,xs[n]?=some x:=⟨_,GE yg⟩
 obtain⟨mb,mo,hma,ra,rc⟩:=aT.rd (X:=⟨Tryz.prog,tab,aC,22,Fr,w⟩) hx hxk
 subst hma
 refine tm ?_
 refine jz ?_
 show VC _ _ _ _ _
 refine mV ?_
 refine VG (VI (eE n Z Z Z Z Z yg yg) ?_)
 refine xU ?_
 refine ae ?_
 refine CE (i:=x.n.id) (j:=id) Z (fun h3=>?_) (fun h3=>CK ?_)
 ·refine mV ?_
  refine VG (VI (eE n Z Z Z Z Z yg yg) ?_)
  refine gm ?_
  exact CR (an.tmp 4 Z Z ER ⟨.inr ⟨n,x,mb,mo,hxk,Z,Z,MU hxk h3 hall⟩,Z⟩)
 ·refine gC ?_
  exact⟨n+1,⟨by omega,fun j y hj hy=>by
   by_cases hjn:j=n
   ·subst hjn;rw[hxk] at hy;cases hy;exact h3
   ·exact hall j y yg hy⟩,by dsimp only;omega,aH,ER⟩
def IS(V:fC)(s:Option dA)(p:Option Addr):Prop:=(s=none∧p=none)∨∃(k:Nat) (x:cZ) (b off:Nat),V.rows[k]?=some x∧V.na=some ⟨b,off,none⟩∧p=some ⟨b,off+k*9,none⟩∧s=some x.n
theorem aaS{V:fC}(hV:uX Fr w V):
  ax Tryz.prog 41 [.agg (ez V).toArray] Fr w [] (fun v L=>∃a cap,v=.slice a ((e8 V.v (V.ch.ms.length) []).1).length cap∧L=[aq 59 3 a ((e8 V.v (V.ch.ms.length) []).1).length cap (flat bB ((e8 V.v (V.ch.ms.length) []).1))]):=by
 have hx:=hV.rows;have hl:=hV.rl;have hml:=hV.jN;have hdl:=hV.dl
 refine TF 94 Tryz.func41 Z yp aC Z Z ?_
 refine CS (CG (VG (VB (vs:=ez V) Z fun b1=>VG (VN ?_))))
 refine CN (L':=[aq 59 3 none 0 0 [],pt b1 (ez V) 46]) (aa.cK aa.refl).aj ?_
 refine dG ?_
 refine VC.loop (σ:=Nat×Option Addr×Nat×Option Addr) (fun s=>[(1,pV b1),(3,.slice s.2.1 ((e8 V.v (s.1) []).1).length s.2.2.1),(4,.pointer s.2.2.2),(12,.slice V.ma V.ch.ms.length V.mc),(13,.int .i64 V.ch.ms.length),(14,.int .i64 s.1)]) (fun s=>[aq 59 3 s.2.1 ((e8 V.v (s.1) []).1).length s.2.2.1 (flat bB ((e8 V.v (s.1) []).1)),pt b1 (ez V) 46]) (fun s=>s.1≤V.ch.ms.length∧IS V (e8 V.v s.1 []).2 s.2.2.2) (fun s=>V.ch.ms.length-s.1) (0,none,0,none)
  ⟨bH _,.inl ⟨rfl,rfl⟩⟩ aH ER ?_
 rintro⟨i,sa,sc,p⟩ ⟨hi,hah⟩
 dsimp only at hi hah ⊢
 refine av ?_
 refine CP (p:=(i:Int)<(V.ch.ms.length:Int)) Z (fun h2=>CK ?_) (fun h2=>CX ?_)
 rotate_left
 ·obtain rfl:i=V.ch.ms.length:=by omega
  refine av ?_
  exact CR (an.tmp 2 Z Z (IP 0 Z (aa.nil)).aj ⟨sa,sc,Z,Z⟩)
 have hi2:i<V.ch.ms.length:=by omega
 obtain⟨m,hm⟩:∃m,V.ch.ms[i]?=some m:=⟨_,GE hi2⟩
 obtain⟨qb,qo,hqa,qra,qrc⟩:=aT.rd (X:=⟨Tryz.prog,tab,aC,94,Fr,w⟩) hV.ms hm
 have hsucc:=aaR V.v hm []
 have hlen:=DD V.v i
 have hlen2:=DD V.v (i+1)
 refine CS ?_
 refine VC.bZ (σ:=Option Addr×Nat×Option Addr) (fun s=>[(1,pV b1),(3,.slice s.1 ((e8 V.v (i+1) []).1).length s.2.1),(4,.pointer s.2.2),(12,.slice V.ma V.ch.ms.length V.mc),(13,.int .i64 V.ch.ms.length),(14,.int .i64 i)]) (fun s=>[aq 59 3 s.1 ((e8 V.v (i+1) []).1).length s.2.1 (flat bB ((e8 V.v (i+1) []).1)),pt b1 (ez V) 46]) (fun s=>IS V (e8 V.v (i+1) []).2 s.2.2) ?_ ?_
 rotate_left
 ·rintro⟨sa,sc,p⟩ hp
  refine sh ?_
  exact⟨(i+1,sa,sc,p),⟨hi2,hp⟩,by dsimp only;omega,aH,ER⟩
 refine VC.block ?_
 refine mV ?_
 refine VG (VI (eE i (by show some (Value.slice V.ma V.ch.ms.length V.mc)=_;rw[hqa]) Z Z Z Z Z hi2) ?_)
 refine VG (VD Z Z (qra _ _ Z Z) ?_)
 refine VG (VO.alloc Z fun b6=>?_)
 refine VG (VT (vs:=aD m) (cs':=aD m) 0 Z Z Z Z (NR _) Z Z Z (VG (VN ?_)))
 show VC _ _ _ [pt b6 (aD m) aP,aq 59 3 sa ((e8 V.v (i) []).1).length sc (flat bB ((e8 V.v (i) []).1)),pt b1 (ez V) 46] _
 refine mV ?_
 refine gO ?_
 refine VG (VO.eB (φ:=IX V.na V.rows m.1) (fun Fr w hF hs hS=>WS Fr w (hx.of hF hs) hl m.1) Z ?_)
 rintro v hsn
 refine gm ?_
 show VC _ _ _ [pt b6 (aD m) aP,aq 59 3 sa ((e8 V.v (i) []).1).length sc (flat bB ((e8 V.v (i) []).1)),pt b1 (ez V) 46] _
 rcases hsn with ⟨rfl,hno⟩ | ⟨k,x,nb,no,hxk,hna,rfl,hso⟩
 ·refine CS (CS ?_)
  refine CD (ts 0 11 .nil) yp yr ?_
  refine xZ ?_
  refine AG (AY 25 true Z Z ?_)
  refine xZ ?_
  refine VC.mi Z (CX ?_)
  have e:e8 V.v (i+1) []=e8 V.v i []:=by rw[hsucc];unfold stepT;show(match mT (V.rows.map cZ.n) m.1 with | some n=>_ | none=>_)=_;rw[hno]
  rw[e]
  exact⟨(sa,sc,p),hah,aH,(bb [1,1]).aj⟩
 have hxm:=hV.each x (ME hxk)
 obtain⟨rb,ro,hra,ra,rc⟩:=aT.rd (X:=⟨Tryz.prog,tab,aC,94,Fr,w⟩) hx hxk
 rw[hna] at hra
 cases hra
 refine CS (CS ?_)
 refine CD (ts 0 11 .nil) yp yr ?_
 refine xZ ?_
 refine AG (AY 25 false Z Z ?_)
 refine xZ ?_
 refine AG (VA.load Z Z Z (rc _ _ 1 _ Z Z) ?_)
 refine xZ ?_
 refine VC.dp (i:=x.n.since) (j:=m.2) Z (fun hs=>CX ?_) (fun hs=>CK ?_)
 ·have e:e8 V.v (i+1) []=e8 V.v i []:=by rw[hsucc];unfold stepT;show(match mT (V.rows.map cZ.n) m.1 with | some n=>_ | none=>_)=_;rw[hso];exact if_neg hs
  rw[e]
  exact⟨(sa,sc,p),hah,aH,(bb [1,1]).aj⟩
 have e:e8 V.v (i+1) []=((e8 V.v i []).1++iP x.n (e8 V.v i []).2++jd x.n V.done,some x.n):=by rw[hsucc];unfold stepT;show(match mT (V.rows.map cZ.n) m.1 with | some n=>_ | none=>_)=_;rw[hso];exact if_pos hs
 rw[e]
 refine CN (L':=[aq 59 3 sa ((e8 V.v (i) []).1).length sc (flat bB ((e8 V.v (i) []).1)),pt b1 (ez V) 46]) (bb [1,1]).aj ?_
 have hll:=hxm.ll
 obtain⟨ah,hahe⟩:∃ah,ah=(e8 V.v i []).2:=⟨_,rfl⟩
 obtain⟨P,hP⟩:∃P,P=(e8 V.v i []).1:=⟨_,rfl⟩
 rw[←hahe] at hah ⊢
 rw[←hP] at hlen ⊢
 have lO:(P++iP x.n ah).length≤3000:=by
  rw[a8]
  have:(iP x.n ah).length≤1:=by unfold iP;split;exact pF _ _;exact bH _
  omega
 refine CS ?_
 refine VC.bZ (σ:=Option Addr×Nat) (fun s=>[(1,pV b1),(3,.slice s.1 (P++iP x.n ah).length s.2),(7,.pointer (some ⟨nb,no+k*9,none⟩)),(12,.slice V.ma V.ch.ms.length V.mc),(13,.int .i64 V.ch.ms.length),(14,.int .i64 i)]) (fun s=>[aq 59 3 s.1 (P++iP x.n ah).length s.2 (flat bB (P++iP x.n ah)),pt b1 (ez V) 46]) (fun _=>True) ?_ ?_
 ·rcases hah with ⟨ha1,rfl⟩ | ⟨k2,y,ab,ao,hyk,hya,rfl,ha1⟩
  ·refine dG ?_
   refine fV ?_
   rw[show P++iP x.n ah=P from by rw[ha1];show P ++ []=P;rw[br]]
   exact qV
  rw[hna] at hya
  cases hya
  have hym:=hV.each y (ME hyk)
  have hyl:=hym.ll
  obtain⟨rb,ro,hra,ya,yc⟩:=aT.rd (X:=⟨Tryz.prog,tab,aC,94,Fr,w⟩) hx hyk
  rw[hna] at hra
  cases hra
  refine dG ?_
  refine lR ?_
  refine CS ?_
  refine CD (ts 0 8 (.only 8 (.take 9 .nil))) yp yr ?_
  refine ko ?_
  refine AG (VA.load Z Z Z (rc _ _ 8 _ Z Z) ?_)
  refine ko ?_
  refine AG (VA.load Z Z Z (yc _ _ 8 _ Z Z) ?_)
  refine AG (AR (fun Fr w hF hs hS=>Mc Fr w (hxm.log.of hF hs) (hym.log.of hF hs) yg yg) Z Z (by(try refine Pd.st ?_);(repeat(first|exact Pd.nil|exact Pd.fnil|refine Pd.inner ?_|refine Pd.skip yr ?_|refine zf (zo 0 Z Z) ?_|refine zf (zo 1 Z Z) ?_|refine zf (zm 0 Z Z) ?_|refine zf (zm 1 Z Z) ?_|refine zf (aw.aA (rc _ _ 8 _ Z Z) Z) ?_|refine zf (aw.aA (yc _ _ 8 _ Z Z) Z) ?_|refine zf ((rc _ _ 8 _ Z Z)) ?_|refine zf ((yc _ _ 8 _ Z Z)) ?_|refine zc (zo 0 Z Z) ?_|refine zc (zo 1 Z Z) ?_|refine zc (zm 0 Z Z) ?_|refine zc (zm 1 Z Z) ?_|refine zc (aw.aA (rc _ _ 8 _ Z Z) Z) ?_|refine zc (aw.aA (yc _ _ 8 _ Z Z) Z) ?_|refine zc ((rc _ _ 8 _ Z Z)) ?_|refine zc ((yc _ _ 8 _ Z Z)) ?_))) ?_)
  refine ko ?_
  have hpl:=xn x.n.log y.n.log
  refine dG ?_
  refine VG (VD Z Z (rc _ _ 8 _ Z Z) ?_)
  refine dG ?_
  refine CP (p:=((dY x.n.log y.n.log:Nat):Int)<(x.n.log.length:Int)) Z (fun hp=>?_) (fun hp=>CK ?_)
  ·skip
   refine dG ?_
   refine xU ?_
   refine dG ?_
   refine VG (VI (LB (pv:=[(0,.int .i64 5),(1,.int .i64 x.n.id),(2,.int .i64 (dY x.n.log y.n.log:Nat))]) (bB (5,x.n.id,(dY x.n.log y.n.log:Nat))) Z Z Z Z Z) ?_)
   refine VG (VO.buildSlice (n:=1) (pv:=[(0,.agg (bB (5,x.n.id,(dY x.n.log y.n.log:Nat))).toArray)]) (bB (5,x.n.id,(dY x.n.log y.n.log:Nat))) Z Z Z Z yy (eY Z Z Z) fun nb=>?_)
   refine VG (VO.append (m:=1) (news:=bB (5,x.n.id,(dY x.n.log y.n.log:Nat))) 1 Z Z Z Z Z Z Z (dm.pt 0 Z Z Z) Z (kk (k:=100000) yg yy) yg fun a2 c2 hc2=>?_)
   refine av ?_
   rw[show P++iP x.n ah=P ++ [((5,x.n.id,(dY x.n.log y.n.log:Nat)):FindM)] from by rw[ha1];show P++d' _ _=_;rw[d',if_pos yg],a8,fu]
   exact⟨(a2,c2),trivial,aH,(bb [0,1]).aj⟩
  ·rw[show P++iP x.n ah=P from by rw[ha1];show P++d' _ _=P;rw[d',if_neg yg,br]]
   exact qV
 rintro⟨sa,sc⟩ -
 dsimp only
 refine CS ?_
 refine D_ ?_
 refine ko ?_
 refine AG (VA.load Z Z Z (rc _ _ 8 _ Z Z) ?_)
 refine ko ?_
 refine AG (AR (fun Fr w hF hs hS=>Mc Fr w (hxm.log.of hF hs) (hV.done.of hF hs) yg yg) Z Z (by(try refine Pd.st ?_);(repeat(first|exact Pd.nil|exact Pd.fnil|refine Pd.inner ?_|refine Pd.skip yr ?_|refine zf (zo 0 Z Z) ?_|refine zf (zo 1 Z Z) ?_|refine zf (zm 0 Z Z) ?_|refine zf (zm 1 Z Z) ?_|refine zf (aw.aA (rc _ _ 8 _ Z Z) Z) ?_|refine zf ((rc _ _ 8 _ Z Z)) ?_|refine zc (zo 0 Z Z) ?_|refine zc (zo 1 Z Z) ?_|refine zc (zm 0 Z Z) ?_|refine zc (zm 1 Z Z) ?_|refine zc (aw.aA (rc _ _ 8 _ Z Z) Z) ?_|refine zc ((rc _ _ 8 _ Z Z)) ?_))) ?_)
 refine ko ?_
 have hpl:=xn x.n.log V.done
 refine CS ?_
 refine VC.bZ (σ:=Option Addr×Nat) (fun s=>[(1,pV b1),(3,.slice s.1 (P++iP x.n ah++jd x.n V.done).length s.2),(7,.pointer (some ⟨nb,no+k*9,none⟩)),(12,.slice V.ma V.ch.ms.length V.mc),(13,.int .i64 V.ch.ms.length),(14,.int .i64 i)]) (fun s=>[aq 59 3 s.1 (P++iP x.n ah++jd x.n V.done).length s.2 (flat bB (P++iP x.n ah++jd x.n V.done)),pt b1 (ez V) 46]) (fun _=>True) ?_ ?_
 ·refine dG ?_
  refine VG (VD Z Z (rc _ _ 8 _ Z Z) ?_)
  refine dG ?_
  by_cases h1:dY x.n.log V.done<x.n.log.length
  rotate_left
  ·refine VG (VY 75 false Z (DF yg) ?_)
   refine dG ?_
   refine fV ?_
   rw[show P++iP x.n ah++jd x.n V.done=P++iP x.n ah from by unfold jd;rw[d',if_neg (fun k=>h1 k.1),br]]
   exact qV
  refine VG (VY 75 true Z (DT yg) ?_)
  refine dG ?_
  refine CP (p:=((dY x.n.log V.done:Nat):Int)<(V.done.length:Int)) Z (fun hp=>?_) (fun hp=>CK ?_)
  ·skip
   refine dG ?_
   refine xU ?_
   refine dG ?_
   refine VG (VI (LB (pv:=[(0,.int .i64 6),(1,.int .i64 x.n.id),(2,.int .i64 (dY x.n.log V.done:Nat))]) (bB (6,x.n.id,(dY x.n.log V.done:Nat))) Z Z Z Z Z) ?_)
   refine VG (VO.buildSlice (n:=1) (pv:=[(0,.agg (bB (6,x.n.id,(dY x.n.log V.done:Nat))).toArray)]) (bB (6,x.n.id,(dY x.n.log V.done:Nat))) Z Z Z Z yy (eY Z Z Z) fun nb=>?_)
   refine VG (VO.append (m:=1) (news:=bB (6,x.n.id,(dY x.n.log V.done:Nat))) 1 Z Z Z Z Z Z Z (dm.pt 0 Z Z Z) Z (kk (k:=100000) yg yy) yg fun a2 c2 hc2=>?_)
   refine av ?_
   rw[show P++iP x.n ah++jd x.n V.done=P++iP x.n ah ++ [((6,x.n.id,(dY x.n.log V.done:Nat)):FindM)] from by rw[jd,d',if_pos ⟨h1,by omega⟩],a8,fu]
   exact⟨(a2,c2),trivial,aH,(bb [0,1]).aj⟩
  ·rw[show P++iP x.n ah++jd x.n V.done=P++iP x.n ah from by unfold jd;rw[d',if_neg (fun k=>hp yg),br]]
   exact qV
 rintro⟨sa,sc⟩ -
 refine av ?_
 exact⟨(sa,sc,some ⟨nb,no+k*9,none⟩),.inr ⟨k,x,nb,no,hxk,hna,Z,Z⟩,aH,ER⟩
end Au
namespace Au
open Go Vg T Api Kv Ch Lg Rd Conf Rep Sched Adm
attribute [local irreducible] VO VC VA
theorem Mz{α:Type}{c:α→List Value}{n:Nat}{X:Cx}{L:List HP}{r:RL α}{a:Option Addr}{cap t:Nat}{xs:List α}(hc:∀x,(c x).length=n)(hok:r.Ok c n)(hv:r.v=.slice a xs.length cap)(hx:r.xs=xs)(i:Nat)(hL:L[i]?=some (r.h t)):dm X L (.slice a xs.length cap) n xs.length (flat c xs):=by
 have h:=RL.rd (X:=X) hc hok i hL
 rw[hv,hx] at h
 exact h
theorem FG{α β:Type}{f:α→List β}{k:Nat}:∀{l:List α},(∀x∈l,(f x).length≤k)→(l.flatMap f).length≤l.length*k
 | [],_=>by simp
 | x::l,h=>by
  have h1:=h x (.head _)
  have h2:=FG (l:=l) fun y hy=>h y (.tail _ hy)
  rw[uO,a8,ku,qj,Nat.one_mul]
  omega
theorem JG(v:dz):(nT v).length≤1:=pF _ _
theorem E'{c:ba}(hq:c.qs.length≤1000)(v:dz){k:Nat}(hk:k≤1000):(kE c v k).length≤1004001:=by
 have h1:=JG v
 have h2:=FG (f:=gG c v.ch) (k:=1004) (l:=v.nodes.take k) fun x _=>ph (I9 _ _ _) yg
 have h3:(v.nodes.take k).length≤1000:=by rw[jj];omega
 have h4:(v.nodes.take k).length*1004≤1000*1004:=sv _ h3
 unfold kE
 rw[a8];omega
theorem JH{c:ba}(hq:c.qs.length≤1000){v:dz}(hn:v.nodes.length≤1000)(hm:v.ch.ms.length≤1000):(pz c v).length≤1006001:=by
 have h1:=E' hq v hn
 have h2:=DD v v.ch.ms.length
 unfold pz
 rw[a8]
 split
 ·omega
 ·simp only[List.length_nil];omega
theorem JI{c:ba}(hq:c.qs.length≤1000){v:dz}(hn:v.nodes.length≤1000)(hm:v.ch.ms.length≤1000){k:Nat}(hk:k≤5000):(jT c v k).length≤1011001:=by
 have h1:=JH hq hn hm
 have h2:=FG (f:=fun m:l8=>d' (c.link<m.2.2) (9,m.1,m.2.1)) (k:=1) (l:=v.mail.take k) fun x _=>pF _ _
 have h3:(v.mail.take k).length≤5000:=by rw[jj];omega
 unfold jT Ad
 rw[a8];omega
theorem Kj(f:FindM):(bB f).all Value.oneCell'=true:=rfl
theorem gv{c:ba}{qa:Option Addr}{qc:Nat}(hq:gp Fr w qa c.qs)(hqa:pk qa)(hqc:c.qs.length≤qc){V:fC}(hV:uX Fr w V):
  ax Tryz.prog 11 [.agg (c.cells qa qc).toArray,.agg (ez V).toArray] Fr w [] (fun v L=>∃a cap,v=.slice a (jm c V.v).length cap∧L=[aq 59 3 a (jm c V.v).length cap (flat bB (jm c V.v))]):=by
 have hml:=hV.jN;have hrl:=hV.rl;have hdl:=hV.dl;have hxl:=hV.xl
 have hnl:V.v.nodes.length=V.rows.length:=cY ..
 refine TF 66 Tryz.func11 Z yp aC Z Z ?_
 refine CS (CG (VG (VB (vs:=c.cells qa qc) Z fun b2=>VG (VB (vs:=ez V) Z fun b3=>VG (VN ?_)))))
 refine CS (CS (CG ?_))
 refine VG (VL 1 (c.cells qa qc) Z Z Z Z ?_)
 refine OG ?_
 refine dG ?_
 refine VC.dp (i:=mI c) (j:=0) Z (fun hs=>?_) (fun hs=>CK ?_)
 ·have hf:¬c=bh c:=fun h=>hs (by unfold mI;rw[if_pos h])
  rw[show jm c V.v=[] from if_neg hf]
  refine dG ?_
  exact CR (an.tmp 4 Z Z (aa.cK aa.nil).aj ⟨none,0,Z,Z⟩)
 have hf:c=bh c:=EI fun h=>by
  have:=hs
  unfold mI at this
  rw[if_neg h] at this
  exact absurd this yy
 have hql:c.qs.length≤1000:=by
  have h2:c.qs=eI c.qs:=congrArg ba.qs hf
  have:=sX c.qs
  rw[←h2] at this;omega
 rw[show jm c V.v=jT c V.v V.v.mail.length from if_pos hf]
 refine jz ?_
 refine CN (L':=aq 59 3 none 0 0 [] :: [pt b3 (ez V) 46,pt b2 (c.cells qa qc) kF]) (aa.cK aa.refl).aj ?_
 refine mV ?_
 refine gO ?_
 refine VG (VL 1 (V.ch.cells V.ma V.mc) Z Z Z Z ?_)
 refine VG (VV (fun Fr w hF hs hS=>Ch.gv (c:=V.ch) (a:=V.ma) (cap:=V.mc) Fr w (hV.ms.of hF hs) yg) Z ?_)
 refine gm ?_
 refine CS ?_
 refine VC.bZ (σ:=Option Addr×Nat) (fun s=>[(2,pV b2),(3,pV b3),(5,.slice s.1 (nT V.v).length s.2),(6,.bool (qx V.v))]) (fun s=>[aq 59 3 s.1 (nT V.v).length s.2 (flat bB (nT V.v)),pt b3 (ez V) 46,pt b2 (c.cells qa qc) kF]) (fun _=>True) ?_ ?_
 ·refine dG ?_
  refine CC Z (fun hg=>?_) (fun hg=>CK ?_)
  ·have hg2:¬qx V.v=true:=fun h=>by rw[show(eN V.ch == 0)=true from h] at hg;cases hg
   refine dG ?_
   refine VG (VI (LB (pv:=[(0,.int .i64 1)]) (bB (1,0,0)) Z Z Z Z Z) ?_)
   refine VG (VO.buildSlice (n:=1) (pv:=[(0,.agg (bB (1,0,0)).toArray)]) (bB (1,0,0)) Z Z Z Z yy (eY Z Z Z) fun nb=>?_)
   refine VG (VO.append (m:=1) (news:=bB (1,0,0)) 1 Z Z Z Z Z Z Z (dm.pt 0 Z Z Z) Z (kk (k:=100000000) yg yy) yg fun a2 c2 hc2=>?_)
   refine av ?_
   rw[show nT V.v=[] ++ [((1,0,0):FindM)] from by unfold nT;rw[d',if_pos hg2];rfl,a8,fu]
   exact⟨(a2,c2),trivial,aH,(bb [0,1,1]).aj⟩
  ·have hg2:qx V.v=true:=by
    show(eN V.ch == 0)=true
    cases h:(eN V.ch == 0)
    ·rw[h] at hg;cases hg
    ·rfl
   rw[show nT V.v=[] from by unfold nT;rw[d',if_neg (by rw[hg2];simp)]]
   exact⟨(none,0),trivial,aH,ER⟩
 rintro⟨sa,sc⟩ -
 dsimp only
 have lA:=JG V.v
 rw[show nT V.v=kE c V.v 0 from by unfold kE;rw[qi];simp]
 refine dG ?_
 refine VC.loop (σ:=Nat×Option Addr×Nat) (fun s=>[(2,pV b2),(3,pV b3),(5,.slice s.2.1 (kE c V.v (s.1)).length s.2.2),(6,.bool (qx V.v)),(25,.slice V.na V.rows.length V.nc),(26,.int .i64 V.rows.length),(27,.int .i64 s.1)]) (fun s=>[aq 59 3 s.2.1 (kE c V.v (s.1)).length s.2.2 (flat bB (kE c V.v (s.1))),pt b3 (ez V) 46,pt b2 (c.cells qa qc) kF]) (fun s=>s.1≤V.rows.length) (fun s=>V.rows.length-s.1) (0,sa,sc)
  (bH _) aH ER ?_
 rintro⟨i,sa,sc⟩ hi
 dsimp only at hi ⊢
 refine av ?_
 refine CP (p:=(i:Int)<(V.rows.length:Int)) Z (fun h2=>CK ?_) (fun h2=>CX ?_)
 ·have hi2:i<V.rows.length:=by omega
  obtain⟨x,hxk⟩:∃x,V.rows[i]?=some x:=⟨_,GE hi2⟩
  obtain⟨qb,qo,hqa',qra,qrc⟩:=aT.rd (X:=⟨Tryz.prog,tab,aC,66,Fr,w⟩) hV.rows hxk
  have hxm:=hV.each x (ME hxk)
  have hxn:V.v.nodes[i]?=some x.n:=by show(V.rows.map cZ.n)[i]?=_;rw[dH,hxk];rfl
  have lB:=E' hql V.v (k:=i) yg
  have lal:=I9 c V.ch x.n
  refine CS ?_
  refine VC.bZ (σ:=Option Addr×Nat) (fun s=>[(2,pV b2),(3,pV b3),(5,.slice s.1 (kE c V.v (i+1)).length s.2),(6,.bool (qx V.v)),(25,.slice V.na V.rows.length V.nc),(26,.int .i64 V.rows.length),(27,.int .i64 i)]) (fun s=>[aq 59 3 s.1 (kE c V.v (i+1)).length s.2 (flat bB (kE c V.v (i+1))),pt b3 (ez V) 46,pt b2 (c.cells qa qc) kF]) (fun _=>True) ?_ ?_
  rotate_left
  ·rintro⟨sa,sc⟩ -
   refine sh ?_
   exact⟨(i+1,sa,sc),hi2,by dsimp only;omega,aH,ER⟩
  refine VC.block (CS (CG ?_))
  refine VG (VI (eE i (by show some (Value.slice V.na V.rows.length V.nc)=_;rw[hqa']) Z Z Z Z Z hi2) ?_)
  refine VG (VD Z Z (qra _ _ Z Z) ?_)
  refine VG (VO.alloc Z fun b8=>?_)
  refine VG (VT (vs:=bI x) (cs':=bI x) 0 Z Z Z Z (NR _) Z Z Z (VG (VN ?_)))
  show VC _ _ _ [pt b8 (bI x) 50,aq 59 3 sa (kE c V.v (i)).length sc (flat bB (kE c V.v (i))),pt b3 (ez V) 46,pt b2 (c.cells qa qc) kF] _
  refine CG ?_
  refine VG (VL 3 (c.cells qa qc) Z Z Z Z ?_)
  refine VG (VL 2 (V.ch.cells V.ma V.mc) Z Z Z Z ?_)
  refine VG (VL 0 (bI x) Z Z Z Z ?_)
  refine VG (VK (Lc:=[]) (fun Fr w hF hs _=>Qk Fr w hf (hV.ms.of hF hs) hml (hxm.of hF hs)) Z Z ?_)
  rintro _ _ ⟨a1,c1,rfl,rfl⟩
  refine VO.bz 0 Z (bd.rl _ a1 c1 (gG c V.ch x.n) wS) fun r ⟨hok,hv,hx⟩=>?_
  refine VG (VO.append (m:=(gG c V.ch x.n).length) (news:=flat bB (gG c V.ch x.n)) 2 Z Z Z Z Z Z Z (Mz wS hok hv hx 0 Z) (nZ Kj _) (kk (k:=100000000) yg yy) yg fun a2 c2 hc2=>?_)
  refine gm ?_
  rw[QW c V.v hxn,a8,fu]
  exact⟨(a2,c2),trivial,aH,(bb [0,2,2]).aj⟩
 obtain rfl:i=V.rows.length:=by omega
 have lB:=E' hql V.v (k:=V.rows.length) yg
 have lC:=JH hql (v:=V.v) yg hml
 refine CS ?_
 refine VC.bZ (σ:=Option Addr×Nat) (fun s=>[(2,pV b2),(3,pV b3),(5,.slice s.1 (pz c V.v).length s.2),(6,.bool (qx V.v))]) (fun s=>[aq 59 3 s.1 (pz c V.v).length s.2 (flat bB (pz c V.v)),pt b3 (ez V) 46,pt b2 (c.cells qa qc) kF]) (fun _=>True) ?_ ?_
 ·refine dG ?_
  refine CC Z (fun hg=>?_) (fun hg=>CK ?_)
  ·refine CG ?_
   refine VG (VL 1 (ez V) Z Z Z Z ?_)
   refine VG (VK (Lc:=[]) (fun Fr w hF hs _=>aaS Fr w (hV.of hF hs)) Z Z ?_)
   rintro _ _ ⟨a1,c1,rfl,rfl⟩
   have lT:=DD V.v V.ch.ms.length
   refine VO.bz 0 Z (bd.rl _ a1 c1 (e8 V.v V.ch.ms.length []).1 wS) fun r ⟨hok,hv,hx⟩=>?_
   refine VG (VO.append (m:=(e8 V.v V.ch.ms.length []).1.length) (news:=flat bB (e8 V.v V.ch.ms.length []).1) 1 Z Z Z Z Z Z Z (Mz wS hok hv hx 0 Z) (nZ Kj _) (kk (k:=100000000) yg yy) yg fun a2 c2 hc2=>?_)
   refine gm ?_
   rw[show pz c V.v=kE c V.v V.rows.length++(e8 V.v V.ch.ms.length []).1 from by unfold pz;rw[hnl,if_pos hg];rfl,a8,fu]
   exact⟨(a2,c2),trivial,aH,(bb [0,1,1]).aj⟩
  ·rw[show pz c V.v=kE c V.v V.rows.length from by unfold pz;rw[hnl,if_neg (by rw[hg];simp),br]]
   exact qV
 rintro⟨sa,sc⟩ -
 dsimp only
 rw[show pz c V.v=jT c V.v 0 from by unfold jT Ad;rw[qi];simp[d']]
 refine dG ?_
 refine VC.loop (σ:=Nat×Option Addr×Nat) (fun s=>[(2,pV b2),(3,pV b3),(5,.slice s.2.1 (jT c V.v (s.1)).length s.2.2),(45,.slice V.xa V.mail.length V.xc),(46,.int .i64 V.mail.length),(47,.int .i64 s.1)]) (fun s=>[aq 59 3 s.2.1 (jT c V.v (s.1)).length s.2.2 (flat bB (jT c V.v (s.1))),pt b3 (ez V) 46,pt b2 (c.cells qa qc) kF]) (fun s=>s.1≤V.mail.length) (fun s=>V.mail.length-s.1) (0,sa,sc)
  (bH _) aH ER ?_
 rintro⟨i,sa,sc⟩ hi
 dsimp only at hi ⊢
 refine av ?_
 refine CP (p:=(i:Int)<(V.mail.length:Int)) Z (fun h2=>CK ?_) (fun h2=>CX ?_)
 rotate_left
 ·obtain rfl:i=V.mail.length:=by omega
  refine av ?_
  exact CR (an.tmp 4 Z Z (IP 0 Z (aa.nil)).aj ⟨sa,sc,Z,Z⟩)
 have hi2:i<V.mail.length:=by omega
 obtain⟨m,hxk⟩:∃m,V.mail[i]?=some m:=⟨_,GE hi2⟩
 obtain⟨qb,qo,hqa',qra,qrc⟩:=aT.rd (X:=⟨Tryz.prog,tab,aC,66,Fr,w⟩) hV.mail hxk
 have hsucc:=QX c V.v (k:=i) hxk
 have lD:=JI hql (v:=V.v) yg hml (k:=i) yg
 refine CS ?_
 refine VC.bZ (σ:=Option Addr×Nat) (fun s=>[(2,pV b2),(3,pV b3),(5,.slice s.1 (jT c V.v (i+1)).length s.2),(45,.slice V.xa V.mail.length V.xc),(46,.int .i64 V.mail.length),(47,.int .i64 i)]) (fun s=>[aq 59 3 s.1 (jT c V.v (i+1)).length s.2 (flat bB (jT c V.v (i+1))),pt b3 (ez V) 46,pt b2 (c.cells qa qc) kF]) (fun _=>True) ?_ ?_
 rotate_left
 ·rintro⟨sa,sc⟩ -
  refine sh ?_
  exact⟨(i+1,sa,sc),hi2,by dsimp only;omega,aH,ER⟩
 refine VC.block (CS (CG ?_))
 refine VG (VI (eE i (by show some (Value.slice V.xa V.mail.length V.xc)=_;rw[hqa']) Z Z Z Z Z hi2) ?_)
 refine VG (VD Z Z (qra _ _ Z Z) ?_)
 refine VG (VO.alloc Z fun b10=>?_)
 refine VG (VT (vs:=je m) (cs':=je m) 0 Z Z Z Z (NR _) Z Z Z (VG (VN ?_)))
 show VC _ _ _ [pt b10 (je m) 51,aq 59 3 sa (jT c V.v (i)).length sc (flat bB (jT c V.v (i))),pt b3 (ez V) 46,pt b2 (c.cells qa qc) kF] _
 refine mV ?_
 refine VG (VI (iL 2 Z Z Z Z Z Z yg) ?_)
 refine gO ?_
 refine VG (VO.ld 3 Z Z Z Z ?_)
 refine gO ?_
 refine CP (p:=c.link<m.2.2) Z (fun hp=>?_) (fun hp=>CK ?_)
 ·refine CG ?_
  refine VG (VI (iL 0 Z Z Z Z Z Z yg) ?_)
  refine gO ?_
  refine VG (VI (iL 1 Z Z Z Z Z Z yg) ?_)
  refine gO ?_
  refine VG (VI (LB (pv:=[(0,.int .i64 9),(1,.int .i64 m.1),(2,.int .i64 m.2.1)]) (bB (9,m.1,m.2.1)) Z Z Z Z Z) ?_)
  refine VG (VO.buildSlice (n:=1) (pv:=[(0,.agg (bB (9,m.1,m.2.1)).toArray)]) (bB (9,m.1,m.2.1)) Z Z Z Z yy (eY Z Z Z) fun nb=>?_)
  refine VG (VO.append (m:=1) (news:=bB (9,m.1,m.2.1)) 2 Z Z Z Z Z Z Z (dm.pt 0 Z Z Z) Z (kk (k:=100000000) yg yy) yg fun a2 c2 hc2=>?_)
  refine av ?_
  rw[show jT c V.v (i+1)=jT c V.v (i) ++ [((9,m.1,m.2.1):FindM)] from by rw[hsucc,d',if_pos hp],a8,fu]
  exact⟨(a2,c2),trivial,aH,(bb [0,2,2]).aj⟩
 ·rw[hsucc,d',if_neg hp,br]
  exact⟨(sa,sc),trivial,aH,(bb [1,1,1]).aj⟩
end Au
namespace Au
open Go Vg Api Kv Ch Lg Conf Rep
theorem mw{b:Prop}[Decidable b]{f g:FindM}:g∈d' b f↔b∧g=f:=by
 unfold d'
 split
 ·rename_i h;simp[h]
 ·rename_i h;simp[h]
theorem vr{c:ba}{ch:aV}{n:dA}{f:FindM}(h:f∈gG c ch n):(f.1=2∧(ch.ar<n.ch.ar∨n.ch.ar=ch.ar∧n.ch≠ch))∨f.1=3∨(f.1=4∧(n.done<0∨(n.log.length:Int)<n.done))∨(f.1=7∧∃q∈n.waits,c.queue<q)∨(f.1=8∧c.reads<n.ki):=by
 unfold gG eM kC np at h
 simp only[eP,mw] at h
 rcases h with ((((h | h) | h) | h) | h)
 ·exact .inl ⟨by rw[h.2],h.1⟩
 ·exact .inr (.inl (by rw[h.2]))
 ·exact .inr (.inr (.inl ⟨by rw[h.2],h.1⟩))
 ·unfold fU at h
  obtain⟨i,_,hi⟩:=yZ.1 h
  split at hi
  ·rename_i q hq
   rw[mw] at hi
   exact .inr (.inr (.inr (.inl ⟨by rw[hi.2],q,ME hq,hi.1⟩)))
  ·cases hi
 ·exact .inr (.inr (.inr (.inr ⟨by rw[h.2],h.1⟩)))
theorem Um{v:dz}{s:rf}{m:aS}{f:FindM}(h:f∈(stepT v s m).1):f∈s.1∨f.1=5∨(f.1=6∧∃n∈v.nodes,n.id=m.1∧n.since=m.2∧mT v.nodes m.1=some n∧f∈jd n v.done):=by
 unfold stepT at h
 split at h
 ·rename_i n hn
  split at h
  ·rename_i hs
   simp only[eP] at h
   rcases h with (h | h) | h
   ·exact .inl h
   ·unfold iP at h
    split at h
    ·rw[mw] at h;exact .inr (.inl (by rw[h.2]))
    ·cases h
   ·have h0:=h
    unfold jd at h
    rw[mw] at h
    have h1:=List.mem_of_find?_eq_some hn
    have h2:=List.find?_some hn
    exact .inr (.inr ⟨by rw[h.2],n,h1,by simpa using h2,hs,hn,h0⟩)
  ·exact .inl h
 ·exact .inl h
theorem Gb{v:dz}{f:FindM}:∀{ms:List aS} {s:rf},f∈(ms.foldl (stepT v) s).1→f∈s.1∨f.1=5∨(f.1=6∧∃m∈ms,∃n∈v.nodes,n.id=m.1∧n.since=m.2∧mT v.nodes m.1=some n∧f∈jd n v.done)
 | [],s,h=>.inl h
 | m::ms,s,h=>by
  rcases Gb (ms:=ms) h with h | h | ⟨h1,m',h2,h3⟩
  ·rcases Um h with h | h | ⟨h1,h2⟩
   ·exact .inl h
   ·exact .inr (.inl h)
   ·exact .inr (.inr ⟨h1,m,qZ,h2⟩)
  ·exact .inr (.inl h)
  ·exact .inr (.inr ⟨h1,m',kW _ h2,h3⟩)
theorem Nq{v:dz}{f:FindM}:∀{ms:List aS} {s:rf},f∈s.1→f∈(ms.foldl (stepT v) s).1
 | [],s,h=>h
 | m::ms,s,h=>by
  refine Nq (ms:=ms) (s:=stepT v s m) ?_
  unfold stepT
  split
  ·split
   ·exact uQ _ (uQ _ h)
   ·exact h
  ·exact h
theorem Np{v:dz}{f:FindM}{m:aS}{n:dA}(hn:mT v.nodes m.1=some n)(hs:n.since=m.2)(hf:f∈jd n v.done):∀{ms:List aS} {s:rf},m∈ms→f∈(ms.foldl (stepT v) s).1
 | [],s,h=>by cases h
 | x::ms,s,h=>by
  rcases iD.1 h with rfl | h
  ·refine Nq (ms:=ms) (s:=stepT v s m) ?_
   unfold stepT
   rw[hn]
   dsimp only
   rw[if_pos hs]
   exact Bx _ hf
  ·exact Np hn hs hf (ms:=ms) h
theorem xe{c:ba}(hc:c=bh c){v:dz}{f:FindM}:f∈jm c v↔f∈nT v∨(∃n∈v.nodes,f∈gG c v.ch n)∨(qx v=true∧f∈(v.ch.ms.foldl (stepT v) ([],none)).1)∨∃m∈v.mail,c.link<m.2.2∧f=(9,m.1,m.2.1):=by
 unfold jm
 rw[if_pos hc]
 unfold jT pz kE Ad e8
 rw[iT,iT,iT]
 simp only[eP,yZ,mw]
 constructor
 ·rintro(((h | h) | h) | h)
  ·exact .inl h
  ·exact .inr (.inl h)
  ·split at h
   ·rename_i hg;exact .inr (.inr (.inl ⟨hg,h⟩))
   ·cases h
  ·exact .inr (.inr (.inr h))
 ·rintro(h | h | ⟨hg,h⟩ | h)
  ·exact .inl (.inl (.inl h))
  ·exact .inl (.inl (.inr h))
  ·exact .inl (.inr (by rw[if_pos hg];exact h))
  ·exact .inr h
structure rh(c:ba)(v:dz):Prop where
 FP:qx v=true
 ep:∀n∈v.nodes,¬(v.ch.ar<n.ch.ar∨n.ch.ar=v.ch.ar∧n.ch≠v.ch)
 dn:∀n∈v.nodes,0≤n.done∧n.done≤n.log.length
 qu:∀n∈v.nodes,∀q∈n.waits,q≤c.queue
 rd:∀n∈v.nodes,n.ki≤c.reads
 lg:∀n∈v.nodes,(n.id,n.since)∈v.ch.ms→n.log <+: v.done∨v.done <+: n.log
 ml:∀m∈v.mail,m.2.2≤c.link
theorem GD:∀{a b:List bf},a <+: b→dY a b=a.length∧dY b a=a.length
 | [],b,_=>by cases b<;>exact⟨rfl,rfl⟩
 | x::a,[],h=>by obtain⟨t,ht⟩:=h;cases ht
 | x::a,y::b,h=>by
  obtain⟨t,ht⟩:=h
  have e:=tF ht
  obtain⟨h1,h2⟩:=GD (a:=a) (b:=b) ⟨t,e.2⟩
  unfold dY
  rw[if_pos e.1,if_pos e.1.symm,h1,h2]
  exact⟨rfl,Z⟩
theorem Hr{n:dA}{d:List bf}(h:n.log <+: d∨d <+: n.log):jd n d=[]:=by
 unfold jd d'
 rw[if_neg]
 rintro⟨h1,h2⟩
 rcases h with h | h
 ·have:=(GD h).1;omega
 ·have:=(GD h).2;omega
def codeOk(want:Int)(f:FindM):Prop:=f.1=want∨f.1=5∨f.1=3
section
variable {c:ba} {v:dz}
def uv(v:dz)(k:Nat)(x:dA):dz:={ v with nodes:=v.nodes.set k x }
theorem spoilt(hc:c=bh c)(h:rh c v){k:Nat}{x:dA}{want:Int}
  (h1:∀f∈gG c v.ch x,codeOk want f) (h2:want=6∨((x.id,x.since)∈v.ch.ms→x.log <+: v.done∨v.done <+: x.log)):∀f∈jm c (uv v k x),codeOk want f:=fun f hf=>by
 rw[xe hc] at hf
 rcases hf with hf | ⟨n,hn,hf⟩ | ⟨hg,hf⟩ | ⟨m,hm,hl,rfl⟩
 ·exfalso
  unfold nT at hf
  rw[mw] at hf
  exact hf.1 h.FP
 ·have hn:n∈v.nodes.set k x:=hn
  have hf:f∈gG c v.ch n:=hf
  rcases kx hn with hn | rfl
  ·rcases vr hf with ⟨_,q⟩ | q | ⟨_,q⟩ | ⟨_,q,q1,q2⟩ | ⟨_,q⟩
   ·exact absurd q (h.ep n hn)
   ·exact .inr (.inr q)
   ·have:=h.dn n hn;omega
   ·have:=h.qu n hn q q1;omega
   ·have:=h.rd n hn;omega
  ·exact h1 f hf
 ·rcases Gb hf with hf | hf | ⟨h6,m,hm,n,hn,n1,n2,_,n3⟩
  ·cases hf
  ·exact .inr (.inl hf)
  ·have hn:n∈v.nodes.set k x:=hn
   have n4:f∈jd n v.done:=n3
   clear n3
   have hm:m∈v.ch.ms:=hm
   have hm2:(n.id,n.since)∈v.ch.ms:=by rw[n1,n2];exact hm
   rcases kx hn with hn | rfl
   ·rw[Hr (h.lg n hn hm2)] at n4
    cases n4
   ·rcases h2 with h2 | h2
    ·exact .inl (by rw[h6,h2])
    ·rw[Hr (h2 hm2)] at n4
     cases n4
 ·exfalso
  have:=h.ml m hm
  omega
theorem T2(hc:c=bh c)(h:rh c v)(t:l8):∀f∈jm c { v with mail:=v.mail ++ [t] },codeOk 9 f:=fun f hf=>by
 rw[xe hc] at hf
 rcases hf with hf | ⟨n,hn,hf⟩ | ⟨hg,hf⟩ | ⟨m,hm,hl,rfl⟩
 ·exfalso
  unfold nT at hf
  rw[mw] at hf
  exact hf.1 h.FP
 ·have hf:f∈gG c v.ch n:=hf
  rcases vr hf with ⟨_,q⟩ | q | ⟨_,q⟩ | ⟨_,q,q1,q2⟩ | ⟨_,q⟩
  ·exact absurd q (h.ep n hn)
  ·exact .inr (.inr q)
  ·have:=h.dn n hn;omega
  ·have:=h.qu n hn q q1;omega
  ·have:=h.rd n hn;omega
 ·rcases Gb hf with hf | hf | ⟨h6,m,hm,n,hn,n1,n2,_,n3⟩
  ·cases hf
  ·exact .inr (.inl hf)
  ·have n3:f∈jd n v.done:=n3
   have hm:m∈v.ch.ms:=hm
   have hm2:(n.id,n.since)∈v.ch.ms:=by rw[n1,n2];exact hm
   rw[Hr (h.lg n hn hm2)] at n3
   cases n3
 ·exact .inl rfl
theorem T3(hc:c=bh c){t:l8}(ht:c.link<t.2.2):(9,t.1,t.2.1)∈jm c { v with mail:=v.mail ++ [t] }:=by
 rw[xe hc]
 exact .inr (.inr (.inr ⟨t,Bx _ (fe.2 Z),ht,Z⟩))
theorem Dp(hc:c=bh c){k:Nat}{x:dA}(hk:k<v.nodes.length){f:FindM}(h1:f∈gG c v.ch x):f∈jm c (uv v k x):=by
 rw[xe hc]
 exact .inr (.inl ⟨x,List.mem_set hk x,h1⟩)
end
end Au
namespace Cl
open Go Vg Api
abbrev Bs:=List UInt8
def bT(l:Bs):ByteArray:=⟨l.toArray⟩
abbrev sB(s:ByteArray):Bs:=s.data.toList
theorem iF(a:Bs):(bT a).size=a.length:=by show(a.toArray).size=_;simp
theorem mF(a b:Bs):bT (a++b)=bT a++bT b:=ByteArray.ext (by simp[bT])
theorem Qp{a b:Bs}(h:bT a=bT b):a=b:=by
 have:=congrArg (fun s:ByteArray=>s.data.toList) h
 simpa[bT] using this
theorem BS(s:ByteArray):bT (sB s)=s:=by simp[bT,sB]
theorem uq(s:ByteArray):(sB s).length=s.size:=by show s.data.toList.length=s.data.size;simp
theorem MP(l:Bs):sB (bT l)=l:=by simp[bT,sB]
def jZ:Nat→Nat→Bs
 | 0,_=>[]
 | k+1,n=>if n=0 then [] else UInt8.ofNat (n % 256)::jZ k (n / 256)
def mP(n:Nat):Bs:=if n≤247 then [UInt8.ofNat n] else UInt8.ofNat (247+(jZ 8 n).length)::(jZ 8 n).reverse
def kD(l:Bs):Nat:=l.foldl (fun n b=>n*256+b.toNat) 0
def mz:Bs→Option (Nat×Bs)
 | []=>none
 | c::r=>if c.toNat≤247 then some (c.toNat,r) else if r.length<c.toNat-247 then none
  else if mP (kD (r.take (c.toNat-247)))=c::r.take (c.toNat-247) then some (kD (r.take (c.toNat-247)),r.drop (c.toNat-247)) else none
theorem Cp:∀(k n:Nat),(jZ k n).length≤k
 | 0,_=>NR _
 | k+1,n=>by
  unfold jZ
  split
  ·exact bH _
  ·have:=Cp k (n / 256);simp;omega
theorem Ji(l:Bs)(b:UInt8):kD (l ++ [b])=kD l*256+b.toNat:=by simp[kD,Bv]
theorem Jj:∀{k n:Nat},n<256 ^ k→kD (jZ k n).reverse=n
 | 0,n,h=>by
  have:n=0:=by simpa using h
  subst this;rfl
 | k+1,n,h=>by
  unfold jZ
  split
  ·rename_i h0;subst h0;rfl
  ·rw[List.reverse_cons,Ji,Jj (k:=k) (by rw[Nat.pow_succ] at h;exact Nat.div_lt_of_lt_mul yg)]
   have:(UInt8.ofNat (n % 256)).toNat=n % 256:=by simp[UInt8.toNat_ofNat']
   rw[this];omega
theorem Jk:∀(l:Bs),kD l<256 ^ l.length:=fun l=>by
 have key:∀(l:Bs) (n k:Nat),n<256 ^ k→l.foldl (fun n b=>n*256+b.toNat) n<256 ^ (k+l.length):=by
  intro l
  induction l with
  | nil=>intro n k h;simpa using h
  | cons b l ih=>
   intro n k h
   rw[qW,ku,show k+(l.length+1)=(k+1)+l.length from by omega]
   refine ih _ _ ?_
   have hb:b.toNat<256:=b.toNat_lt
   rw[Nat.pow_succ];omega
 have:=key l 0 0 yy
 simpa[kD] using this
theorem TB{n:Nat}(h:n≠0):1≤(jZ 8 n).length:=by unfold jZ;rw[if_neg h];simp
theorem Ms{n:Nat}(h:n<18446744073709551616)(r:Bs):mz (mP n++r)=some (n,r):=by
 unfold mP
 split
 ·rename_i hn
  have hc:(UInt8.ofNat n).toNat=n:=by rw[UInt8.toNat_ofNat'];omega
  rw[List.singleton_append,mz,hc,if_pos hn]
 ·rename_i hn
  have hl:=Cp 8 n
  have hc:(UInt8.ofNat (247+(jZ 8 n).length)).toNat=247+(jZ 8 n).length:=by rw[UInt8.toNat_ofNat'];omega
  have hp:=TB (n:=n) yg
  have e1:247+(jZ 8 n).length-247=(jZ 8 n).reverse.length:=by rw[List.length_reverse];omega
  rw[uM,mz,hc,if_neg yg,e1,if_neg p7,wk rfl,List.drop_left' rfl,Jj ye,if_pos (by rw[mP,if_neg hn])]
theorem G5{s:Bs}{n:Nat}{r:Bs}(h:mz s=some (n,r)):r.length<s.length:=by
 cases s with
 | nil=>cases h
 | cons c l=>
  rw[mz] at h
  split at h
  ·cases h;simp
  ·split at h
   ·cases h
   ·split at h
    ·simp only[Option.some.injEq,Prod.mk.injEq] at h;obtain⟨rfl,rfl⟩:=h;rw[su,ku];omega
    ·cases h
theorem Mr{s:Bs}{n:Nat}{r:Bs}(h:mz s=some (n,r)):n<18446744073709551616:=by
 cases s with
 | nil=>cases h
 | cons c l=>
  have hc:c.toNat<256:=c.toNat_lt
  rw[mz] at h
  split at h
  ·cases h;omega
  ·split at h
   ·cases h
   ·split at h
    ·simp only[Option.some.injEq,Prod.mk.injEq] at h
     obtain⟨rfl,rfl⟩:=h
     have h1:=Jk (l.take (c.toNat-247))
     have h2:(l.take (c.toNat-247)).length≤8:=by rw[jj];omega
     have h3:256 ^ (l.take (c.toNat-247)).length≤256 ^ 8:=BA yy h2
     have h4:256 ^ 8=18446744073709551616:=rfl
     omega
    ·cases h
def cO(n:Int):Bs:=if n < -1∨1099511627776<n then [] else mP (n+1).toNat
def cd(s:Bs):Option (Int×Bs):=match mz s with
 | some (u,r)=>if 1099511627777<u then none else some ((u:Int)-1,r)
 | none=>none
theorem rZ{n:Int}(h1:-1≤n)(h2:n≤1099511627776)(r:Bs):cd (cO n++r)=some (n,r):=by
 unfold cO cd
 rw[if_neg yg,Ms yg]
 dsimp only
 rw[if_neg yg]
 congr 2;omega
theorem aa9{s:Bs}{n:Int}{r:Bs}(h:cd s=some (n,r)):-1≤n∧n≤1099511627776∧r.length<s.length:=by
 unfold cd at h
 cases hr:mz s with
 | none=>rw[hr] at h;cases h
 | some x=>
  obtain⟨u,r'⟩:=x
  rw[hr] at h
  dsimp only at h
  split at h
  ·cases h
  ·have:=G5 hr
   cases h
   omega
def nJ(s:Bs):Bs:=mP s.length++s
def iV(s:Bs):Option (Bs×Bs):=match mz s with
 | some (n,r)=>if r.length<n then none else some (r.take n,r.drop n)
 | none=>none
theorem J0(s r:Bs)(h:s.length<18446744073709551616):iV (nJ s++r)=some (s,r):=by
 unfold iV nJ
 rw[ed,Ms h]
 dsimp only
 rw[if_neg p7,wk rfl,List.drop_left' rfl]
end Cl
namespace Cl
open Go Vg Api Ch
def mU(k:Int):Bool:=decide (k=2)||decide (k=4)
def pN(o:bw):Bs:=cO o.kind++nJ (sB o.key)++(if mU o.kind then nJ (sB o.value) else [])++(if o.kind=4 then cO o.version else [])
def wI(c:aV):Bs:=cO c.ar++cO c.ms.length++c.ms.flatMap (fun m=>cO m.1++cO m.2)++cO c.drain
def gd(n:Int):Bool:=decide (0≤n∧n≤1099511627776)
def fv(k:Int):List Nat:=
 if k=1 then [1,2,3,4,5,6] else if k=2 then [2,3,4] else if k=3 then [1,2,3,4,15] else if k=4∨k=12 then [1] else if k=5 then [1,26,27,28]
 else if k=6∨k=9∨k=10∨k=11 then [1,26] else []
def ie(f:aB):Nat→Int
 | 1=>f.ar | 2=>f.aL | 3=>f.seq | 4=>f.bD | 5=>f.cls | 6=>f.deadline | 15=>f.reason | 26=>f.index | 27=>f.tZ | 28=>f.dQ | _=>0
def uu(f:aB)(o:Nat)(n:Int):aB:=match o with
 | 1=>{ f with ar:=n } | 2=>{ f with aL:=n } | 3=>{ f with seq:=n } | 4=>{ f with bD:=n } | 5=>{ f with cls:=n } | 6=>{ f with deadline:=n }
 | 15=>{ f with reason:=n } | 26=>{ f with index:=n } | 27=>{ f with tZ:=n } | 28=>{ f with dQ:=n } | _=>f
def sP(o:Nat):Bool:=decide (o∈[1,2,3,4,5,6,15,26,27,28])
theorem Gw(k:Int):∀o∈fv k,sP o=true:=by
 unfold fv
 repeat' split
 all_goals decide
theorem Gx(k:Int):(fv k).length≤6:=by
 unfold fv
 repeat' split
 all_goals decide
def pJ(f:aB)(ms:List aS):Bool:=
 if f.kind=1 then decide (dv f.op=0)
 else if f.kind=2 then decide (1≤f.res.code)&&decide (f.res.code≤3)&&decide (f.res.value.size≤64)&&(gd f.res.version&&gd f.res.at_)
 else if f.kind=4 then (gd f.entry.index&&(gd f.entry.aL&&gd f.entry.seq))&&decide (dv f.entry.op=0)
 else if f.kind=8 then decide (eN ⟨f.dW,ms,f.drain⟩=0)
 else true
def mv(f:aB)(ms:List aS):Bool:=decide (1≤f.kind∧f.kind≤12)&&((fv f.kind).all (fun o=>gd (ie f o))&&pJ f ms)
def l_(f:aB)(ms:List aS):Bs:=
 if f.kind=1 then pN f.op
 else if f.kind=2 then cO f.res.code++nJ (sB f.res.value)++cO f.res.version++cO f.res.at_
 else if f.kind=4 then cO f.entry.index++cO f.entry.aL++cO f.entry.seq++pN f.entry.op
 else if f.kind=8 then wI ⟨f.dW,ms,f.drain⟩
 else []
def um(f:aB)(ms:List aS):Bs:=(cO f.kind++(fv f.kind).flatMap (fun o=>cO (ie f o)))++l_ f ms
def rQ(f:aB)(ms:List aS):Option Bs:=if mv f ms=true then (if 512<(um f ms).length then none else some (um f ms)) else none
def gL:Nat→Bs→Option (List Int×Bs)
 | 0,s=>some ([],s)
 | k+1,s=>match cd s with
  | none=>none
  | some (n,r)=>match gL k r with
   | none=>none
   | some (l,r)=>some (n::l,r)
def rC(s:Bs):Option bw:=match cd s with
 | none=>none
 | some (k,r)=>match iV r with
  | none=>none
  | some (key,r)=>match (if mU k then iV r else some ([],r)) with
   | none=>none
   | some (val,r)=>match (if k=4 then cd r else some (0,r)) with
    | none=>none
    | some (ver,r)=>if r=[]∧dv ⟨k,bT key,bT val,ver⟩=0 then some ⟨k,bT key,bT val,ver⟩ else none
def pL:List Int→List aS
 | a::b::l=>(a,b)::pL l
 | _=>[]
def jJ(s:Bs):Option aV:=match cd s with
 | none=>none
 | some (ep,r)=>match cd r with
  | none=>none
  | some (sz,r)=>if sz<1∨6<sz then none else match gL (2*sz.toNat) r with
   | none=>none
   | some (l,r)=>match cd r with
    | none=>none
    | some (dr,r)=>if r=[]∧eN ⟨ep,pL l,dr⟩=0 then some ⟨ep,pL l,dr⟩ else none
def oZ(f:aB):List Nat→List Int→aB
 | o::os,n::ns=>oZ (uu f o n) os ns
 | _,_=>f
def nE(f:aB)(s:Bs):Option (aB×List aS):=
 if f.kind=1 then match rC s with
  | none=>none
  | some o=>some ({ f with op:=o },[])
 else if f.kind=2 then match cd s with
  | none=>none
  | some (code,r)=>match iV r with
   | none=>none
   | some (val,r)=>match cd r with
    | none=>none
    | some (ver,r)=>match cd r with
     | none=>none
     | some (at_,r)=>if r=[] then some ({ f with res:=⟨code,bT val,ver,at_⟩ },[]) else none
 else if f.kind=4 then match cd s with
  | none=>none
  | some (i,r)=>match cd r with
   | none=>none
   | some (c,r)=>match cd r with
    | none=>none
    | some (q,r)=>match rC r with
     | none=>none
     | some o=>some ({ f with entry:=⟨i,c,q,o⟩ },[])
 else if f.kind=8 then match jJ s with
  | none=>none
  | some c=>some ({ f with dW:=c.ar,drain:=c.drain },c.ms)
 else if s=[] then some (f,[]) else none
def getM(s:Bs):Option (aB×List aS):=if 512<s.length then none else match cd s with
 | none=>none
 | some (k,r)=>match gL (fv k).length r with
  | none=>none
  | some (l,r)=>match nE (oZ { aB.zero with kind:=k } (fv k) l) r with
   | none=>none
   | some (f,ms)=>if mv f ms=true then some (f,ms) else none
end Cl
namespace Cl
open Go Vg T Api Ch Conf Rep
abbrev dJ:=Int×aB×List aS
def gy(S:List cm):List dJ:=S.map fun x=>(x.1,x.2,[])
def Vc:bw:=⟨0,⟨#[]⟩,⟨#[]⟩,0⟩
def bY(n:Int):Int:=min (max n 0) 1099511627776
def jH(c:aV):aB:={ aB.zero with kind:=8,dW:=c.ar,drain:=c.drain }
def gP(c:aV)(to:Int):dJ:=(to,jH c,c.ms)
def gS(c:aV):Int:=if eN c≠0∨c.ar=1099511627776 then 2 else 0
def lH(c:aV)(n:Int):Int:=if placeOf c.ms n<0 then 4 else if c.ms.length=1 then 72 else 0
def fE:aV:=⟨0,[],0⟩
def fy(c:aV)(n:Int):aV×Int:=
 if gS c≠0 then (fE,2) else if oT n=false then (fE,2) else if 0≤placeOf c.ms n then (fE,62)
 else (⟨c.ar+1,c.ms ++ [(n,c.ar+1)],c.drain⟩,0)
def jg(c:aV)(n:Int):aV×Int:=
 if gS c≠0 then (fE,2) else if lH c n≠0 then (fE,lH c n)
 else (⟨c.ar+1,c.ms.eraseIdx (placeOf c.ms n).toNat,if c.drain=n then -1 else c.drain⟩,0)
def gR(c:aV)(n:Int):aV×Int:=
 if gS c≠0 then (fE,2) else if lH c n≠0 then (fE,lH c n) else if c.drain≠-1 then (fE,62)
 else (⟨c.ar+1,c.ms,n⟩,0)
structure eD where
 cap:Int
 fh:Int
 tokens:Int
 tick:Int
 since:Int
def pw:Nat→eD→eD
 | 0,b=>b
 | k+1,b=>if b.tokens<b.cap∧b.since+b.fh≤b.tick then pw k { b with tokens:=b.tokens+1,since:=b.since+b.fh } else b
def eD.at(b:eD)(now:Int):eD:={ b with tick:=min (max now b.tick) 1099511627776 }
def eD.full(b:eD):eD:=if b.tokens=b.cap then { b with since:=b.tick } else b
def eD.me(b:eD)(now:Int):eD:=(pw 17 (b.at now)).full
def eD.take(b:eD)(now:Int):eD×Bool:=
 if (b.me now).tokens=0 then (b.me now,false) else ({ b.me now with tokens:=(b.me now).tokens-1 },true)
def wX(tries iu:Int):Int:=
 if tries<1 then 0 else if 7<tries then min (max iu 0) 64 else min ((2 ^ (tries-1).toNat:Nat):Int) (min (max iu 0) 64)
structure eV where
 kind:Int
 reason:Int
 res:ik
def cw:ik:=⟨0,⟨#[]⟩,0,0⟩
structure aW where
 id:Int
 cls:Int
 timeout:Int
 gI:Int
 tok:eD
 ch:aV
 out:Option (Option eV)
 gQ:Int
 since:Int
 DJ:Int
 unsure:Bool
 seq:Int
 tries:Int
 cl:Int
 deadline:Int
 op:bw
def qD(c:ba)(id:Int):aW:=⟨id,c.qs.length,c.timeout,c.gI,⟨c.gI,c.fh,c.gI,0,0⟩,fE,none,0,0,0,false,0,0,0,0,Vc⟩
def BN:List dJ:=[(16,{ aB.zero with kind:=7 },[])]
def As(o:bw):Bool:=decide (o.kind=1)&&decide (dv o=0)
def aW.ask(s:aW)(now:Int):aW×List dJ:=({ s with gQ:=1,since:=now },BN)
def mG(s:aW):aB:={ aB.zero with kind:=1,ar:=s.ch.ar,aL:=s.id,seq:=s.seq,bD:=s.tries,cls:=s.cl,deadline:=s.deadline,op:=s.op }
def aW.to(s:aW):Int:=if As s.op then vL s.ch else t_ s.ch
def aW.pU(s:aW)(now:Int):aW:={ s with tries:=s.tries+1,gQ:=2,since:=now }
def aW.bD(s:aW)(now:Int):aW×List dJ:=(s.pU now,[((s.pU now).to,mG (s.pU now),[])])
def M8(o:Option (Option eV))(x:eV):Option (Option eV):=match o with
 | some none=>some (some x)
 | o=>o
def aW.end_(s:aW)(o:eV):aW:={ s with out:=M8 s.out o,gQ:=0 }
def aW.giveUp(s:aW)(reason:Int):aW×List dJ:=(s.end_ (if s.unsure then ⟨3,0,cw⟩ else ⟨2,reason,cw⟩),BN)
def aW.CT(s:aW)(now:Int):aW:={ s with gQ:=3,DJ:=now+wX s.tries 64 }
def aW.rW(s:aW)(now:Int):aW:={ s with tok:=(s.tok.take now).1 }
def aW.im(s:aW)(reason now:Int):aW×List dJ:=
 if s.gI<s.tries∨s.deadline<now then s.giveUp reason
 else if (s.tok.take now).2 then ((s.rW now).CT now,[]) else (s.rW now).giveUp reason
def aW.begun(s:aW)(o:bw)(cl deadline:Int):aW:={ s with out:=some none,seq:=s.seq+1,tries:=0,unsure:=false,op:=o,cl:=cl,deadline:=deadline }
def aW.fZ(s:aW)(o:bw)(cl deadline:Int):Int:=
 if s.gQ≠0 then 63 else if dv o≠0∨cl<0∨s.cls≤cl∨deadline<0∨1099511627776<deadline then 2 else 0
def aW.call(s:aW)(o:bw)(cl deadline now:Int):aW×List dJ:=
 if s.fZ o cl deadline≠0 then (s,[]) else if 0<s.ch.ar then (s.begun o cl deadline).bD (bY now) else (s.begun o cl deadline).ask (bY now)
def aW.refused(s:aW)(reason now:Int):aW×List dJ:=
 if reason=6∨reason=5∨reason=7 then ({ s with unsure:=true }:aW).im reason now
 else if reason=2∨reason=10 then s.giveUp reason else s.im reason now
def aW.take(s:aW)(f:aB)(ms:List aS)(now:Int):aW×List dJ:=
 if f.kind=8 then
  if eN ⟨f.dW,ms,f.drain⟩≠0∨f.dW<s.ch.ar then (s,[])
  else if s.gQ=1 then ({ s with ch:=⟨f.dW,ms,f.drain⟩ }:aW).bD (bY now) else ({ s with ch:=⟨f.dW,ms,f.drain⟩ },[])
 else if f.kind=2 then if s.gQ≠0∧f.aL=s.id∧f.seq=s.seq then (s.end_ ⟨1,0,f.res⟩,[]) else (s,[])
 else if f.kind=3 then if s.gQ=2∧f.aL=s.id∧f.seq=s.seq∧f.bD=s.tries then s.refused f.reason (bY now) else (s,[])
 else (s,[])
def aW.tick(s:aW)(now:Int):aW×List dJ:=
 if s.gQ=2 then if s.timeout≤bY now-s.since then ({ s with unsure:=true }:aW).im 0 (bY now) else (s,[])
 else if s.gQ=1 then if bY now-s.since<s.timeout then (s,[]) else if s.deadline<bY now then s.giveUp 2 else s.ask (bY now)
 else if s.gQ=3 then if s.DJ≤bY now then s.ask (bY now) else (s,[])
 else (s,[])
def aW.outcome(s:aW):Option eV:=s.out.getD none
structure aI where
 nodes:Int
 fQ:Int
 ch:aV
 heard:List Int
 whole:List Bool
def qF(c:ba):aI:=⟨c.nodes,c.fQ,bM c,List.replicate 6 0,(List.range 6).map fun(i:Nat)=>decide ((i:Int)<c.chain)⟩
def aI.r4(m:aI)(n:Int):Bool:=(m.whole[n.toNat]?).getD false
def aI.rE(m:aI)(n:Int):Int:=(m.heard[n.toNat]?).getD 0
def aI.mu(m:aI)(n:Int):Bool:=m.ch.ms.any fun x=>!decide (x.1=n)&&m.r4 x.1
def aI.isNode(m:aI)(n:Int):Bool:=decide (0≤n)&&decide (n<m.nodes)
def aI.all(m:aI):List dJ:=(List.range m.nodes.toNat).map fun(n:Nat)=>gP m.ch (n:Int)
def aI.nD(m:aI)(n:Int):Int:=(jg m.ch n).2
def aI.gone(m:aI)(n:Int):aI:={ m with ch:=(jg m.ch n).1,whole:=m.whole.set n.toNat false }
def aI.out(m:aI)(n:Int):aI:=if m.nD n≠0 then m else m.gone n
def pS(ar index:Int):aB:={ aB.zero with kind:=10,ar:=ar,index:=index }
def aI.ic(m:aI)(from_ now:Int):aI:={ m with heard:=m.heard.set from_.toNat (bY now) }
def aI.wholeAt(m:aI)(from_:Int):aI:={ m with whole:=m.whole.set from_.toNat true }
def aI.take(m:aI)(from_:Int)(f:aB)(now:Int):aI×List dJ:=
 if f.kind=7 then (m,[gP m.ch from_])
 else if m.isNode from_=false then (m,[])
 else if f.kind=11 then
  if f.ar≠m.ch.ar then (m.ic from_ now,[gP m.ch from_])
  else if f.index=1∧(bU m.ch from_).2=true then ((m.ic from_ now).wholeAt from_,[]) else (m.ic from_ now,[])
 else if f.kind=9 then
  if f.ar≠m.ch.ar then (m,[gP m.ch from_]) else if vL m.ch=from_ then (m,[(from_,pS f.ar f.index,[])]) else (m,[])
 else if f.kind=12 then
  if (f.ar=m.ch.ar∧m.ch.drain=from_)∧m.mu from_=true∧m.nD from_=0 then (m.gone from_,(m.gone from_).all) else (m,[])
 else (m,[])
def aI.late(m:aI)(now n:Int):Bool:=decide (m.fQ<now-m.rE n)&&(m.mu n&&decide (m.nD n=0))
def aI.watch(now:Int):List aS→aI×Bool→aI×Bool
 | [],x=>x
 | y::l,x=>aI.watch now l (if x.1.late now y.1 then (x.1.gone y.1,true) else x)
def aI.tick(m:aI)(now:Int):aI×List dJ:=
 ((aI.watch (bY now) m.ch.ms (m,false)).1,if (aI.watch (bY now) m.ch.ms (m,false)).2 then (aI.watch (bY now) m.ch.ms (m,false)).1.all else [])
def aI.qA(m:aI)(n:Int):Int:=if (bU m.ch n).2=false then 4 else if m.mu n=false then 72 else 0
def aI.fI(m:aI)(n:Int):aI×List dJ×Int:=
 if m.qA n≠0 then (m,[],m.qA n) else if m.nD n≠0 then (m,[],m.nD n) else (m.gone n,(m.gone n).all,0)
def aI.iJ(m:aI)(n now:Int):aI:={ m with ch:=(fy m.ch n).1,whole:=m.whole.set n.toNat false,heard:=m.heard.set n.toNat (bY now) }
def aI.join(m:aI)(n now:Int):aI×List dJ×Int:=
 if m.isNode n=false then (m,[],2) else if (fy m.ch n).2≠0 then (m,[],(fy m.ch n).2) else (m.iJ n now,(m.iJ n now).all,0)
def aI.mj(m:aI)(n:Int):aI:={ m with ch:=(gR m.ch n).1 }
def aI.drain(m:aI)(n:Int):aI×List dJ×Int:=
 if m.qA n≠0 then (m,[],m.qA n) else if (gR m.ch n).2≠0 then (m,[],(gR m.ch n).2) else (m.mj n,(m.mj n).all,0)
structure RecM where
 aL:Int
 seq:Int
 op:bw
 from_:Int
 to:Int
 out:eV
def L8:eV:=⟨0,0,cw⟩
structure bx where
 bn:List RecM
 events:Int
 last:List Int
def uh:bx:=⟨[],0,List.replicate 6 0⟩
def bx.fT(h:bx)(c:Int):Option (Nat×RecM):=
 if c<0∨6≤c∨(h.last[c.toNat]?).getD 0=0 then none
 else (h.bn[((h.last[c.toNat]?).getD 0).toNat-1]?).map fun r=>(((h.last[c.toNat]?).getD 0).toNat-1,r)
def bx.fZ(h:bx)(c seq:Int)(o:bw):Int:=
 if c<0∨6≤c∨seq<1∨dv o≠0 then 2
 else match h.fT c with
  | none=>0
  | some (_,r)=>if r.to<0 then 63 else if seq≤r.seq then 70 else 0
def bx.call(h:bx)(c seq:Int)(o:bw):bx:=
 if h.fZ c seq o≠0 then h
 else ⟨h.bn ++ [⟨c,seq,o,h.events,-1,L8⟩],h.events+1,h.last.set c.toNat ((h.bn.length:Int)+1)⟩
def bx.end_(h:bx)(c seq:Int)(o:eV):bx:=
 if o.kind≠1∧o.kind≠2∧o.kind≠3 then h
 else match h.fT c with
  | none=>h
  | some (i,r)=>if r.seq≠seq∨0≤r.to then h else { h with bn:=h.bn.set i { r with to:=h.events,out:=o },events:=h.events+1 }
abbrev bE:=Int×Int
structure aX where
 cap:Int
 mail:List (bE×List ByteArray)
def aX.list(l:aX)(p:bE):List ByteArray:=(bX l.mail p).getD []
def h_(a:Int):Bool:=(decide (0≤a)&&decide (a<6))||(decide (a=16)||(decide (32≤a)&&decide (a<38)))
def aX.kS(l:aX)(p:bE)(t:ByteArray):Int:=
 if h_ p.1=false∨h_ p.2=false∨p.1=p.2 then 2 else if 512<t.size then 3 else if l.cap≤(l.list p).length then 60 else 0
def aX.send(l:aX)(p:bE)(t:ByteArray):aX:=if l.kS p t≠0 then l else { l with mail:=cS l.mail p (l.list p ++ [t]) }
def aX.find(l:aX)(p:bE)(i:Int):Option ByteArray:=if i<0 then none else (l.list p)[i.toNat]?
def aX.fA(l:aX)(p:bE)(i:Int):aX:=
 if ((l.list p).eraseIdx i.toNat).length=0 then { l with mail:=gx (cS l.mail p ((l.list p).eraseIdx i.toNat)) p } else { l with mail:=cS l.mail p ((l.list p).eraseIdx i.toNat) }
def aX.drop(l:aX)(p:bE)(i:Int):aX×Int:=if l.find p i=none then (l,4) else (l.fA p i,0)
def aX.double(l:aX)(p:bE)(i:Int):aX×Int:=match l.find p i with
 | none=>(l,4)
 | some t=>(l.send p t,l.kS p t)
end Cl
namespace Cl
open Go Vg T Api
attribute [local irreducible] VO VC VA
abbrev nH:TypeId:=289
abbrev sW:TypeId:=143
def dL(o:eV):List Value:=[.int .i64 o.kind,.int .i64 o.reason,.int .i64 o.res.code,.string o.res.value,.int .i64 o.res.version,.int .i64 o.res.at_]
def my:eV:=⟨0,0,⟨0,⟨#[]⟩,0,0⟩⟩
def qM(d k s:Int)(o:eV):List Value:=[.bool true,.int .u32 d,.int .i32 k,.int .u32 0,.int .u32 s]++dL o
def o6:Option eV→List Value
 | none=>qM 0 0 0 my
 | some o=>qM 1 0 1 o
theorem W_:ax Tryz.prog 141 [] Fr w [] (fun v L=>∃p,v=.pointer (some ⟨p,0,none⟩)∧L=[pt p (o6 none) nH]):=by
 refine TF 3 Tryz.func141 Z yp aC Z Z ?_
 refine ae ?_
 refine VG (VI (LB (pv:=[(0,.bool true)]) (o6 none) Z Z Z yp Z) ?_)
 refine VG (VB (vs:=o6 none) Z fun q=>?_)
 refine ae ?_
 exact CR (an.tmp 0 Z Z ER ⟨q,Z,Z⟩)
theorem Hm{p:Nat}{d k s:Int}{o:eV}(h:bq Fr w p (qM d k s o)):ax Tryz.prog 192 [.pointer (some ⟨p,0,none⟩)] Fr w [] (fun v L=>v=.bool false∧L=[]):=by
 refine TF 12 Tryz.func192 Z yp aC Z Z ?_
 refine av ?_
 refine AZ ?_
 refine ji ?_
 exact o_
section
variable {X:Cx} {e:Env} {L:List HP}
theorem aK.P_{k:IntKind}{f:FuncId}{fn:Func}{x:Operand}{tys:Array TypeId}{b off:Nat}{n:Int}(h:Ext X.P f fn (Extern.Atomic.loadT (.int k)))(hx:ev e x=some (.pointer (some ⟨b,off,none⟩)))
  (hr:∀w,St X L w→w.cell? ⟨b,off,none⟩=some (.int k n)):aK X (.call ⟨.value (.func f),#[x],tys⟩) e L (fun v L'=>v=.int k n∧L'=L):=fun a w ha hw dst ty pos after guard=>by
 refine .inl ⟨_,w,L,?_,⟨rfl,Z⟩,hw⟩
 rw[Ke]
 have:(#[x]:Array Operand).map a.eval=#[.pointer (some ⟨b,off,none⟩)]:=by simp[ha.ev hx]
 rw[this]
 exact run_call_load h.at_ h.nm h.nb h.nn k h.ex (hr w hw)
theorem aK.P'{k:IntKind}{f:FuncId}{fn:Func}{x y:Operand}{tys:Array TypeId}{b off t:Nat}{m:Int}{u:Value}{cs:List Value}(i:Nat)(h:Ext X.P f fn Extern.Atomic.storeT)(hx:ev e x=some (.pointer (some ⟨b,off,none⟩)))
  (hy:ev e y=some (.int k m)) (hL:L[i]?=some (pt b cs t)) (hc:cs[off]?=some u):
  aK X (.call ⟨.value (.func f),#[x,y],tys⟩) e L (fun v L'=>v=.tuple #[]∧L'=L.set i (pt b (cs.set off (.int k m)) t)):=fun a w ha hw dst ty pos after guard=>by
 obtain⟨h0,_⟩:=hw.sH hL
 refine .inl ⟨_,_,_,?_,⟨rfl,Z⟩,hw.set hL⟩
 rw[Ke]
 have:(#[x,y]:Array Operand).map a.eval=#[.pointer (some ⟨b,off,none⟩),.int k m]:=by simp[ha.ev hx,ha.ev hy]
 rw[this,←Hi h0]
 exact run_call_store h.at_ h.nm h.nb h.nn h.ex (by rw[cell_of_row w b off cs.toArray t (0,0) h0];simpa using hc) (frozen_of_row w b off cs.toArray t h0)
end
theorem RT:Ext Tryz.prog 250 Tryz.f250 (Extern.Atomic.loadT (.int .u32)):=⟨Tryz.func250,by kernel_rfl,by kernel_rfl,by kernel_rfl,by kernel_rfl⟩
theorem RU:Ext Tryz.prog 296 Tryz.f296 Extern.Atomic.storeT:=⟨Tryz.func296,by kernel_rfl,by kernel_rfl,by kernel_rfl,by kernel_rfl⟩
theorem ET{p off:Nat}{cs:List Value}{n:Int}(h:bq Fr w p cs)(hn:cs[off]?=some (.int .u32 n)):ax Tryz.prog 193 [.pointer (some ⟨p,off,none⟩)] Fr w [] (fun v L=>v=.bool (n != 0)∧L=[]):=by
 obtain⟨hf,t,fz,ht⟩:=h
 refine TF 8 Tryz.func193 Z yp aC Z Z ?_
 refine ae ?_
 refine VG (VO.sV (v:=.int .u32 n) (aK.P_ (X:=⟨Tryz.prog,tab,aC,8,Fr,w⟩) RT Z (fun w' hw=>?_)) ?_)
 ·have hb:w'.heap[p]?=some (.cells cs.toArray t fz):=(hw.cP.block p hf).trans ht
  have:=cell_of_row w' p off cs.toArray t fz hb
  rw[this];simpa using hn
 refine ae ?_
 exact o_
theorem Qo(b:Bool):ax Tryz.prog 297 [.bool b] Fr w [] (fun v L=>v=.int .u32 (if b then 1 else 0)∧L=[]):=by
 refine TF 4 Tryz.func297 Z yp aC Z Z ?_
 refine ae ?_
 refine CC Z (fun h=>?_) (fun h=>CK ?_)
 ·subst h
  refine ae ?_
  exact o_
 ·subst h
  refine ae ?_
  exact o_
theorem Qm{p off:Nat}{T:TypeId}{cs:List Value}{u:Value}(b:Bool)(hu:cs[off]?=some u):ax Tryz.prog 292 [.pointer (some ⟨p,off,none⟩),.bool b] Fr w [pt p cs T] (fun v L=>v=.tuple #[]∧L=[pt p (cs.set off (.int .u32 (if b then 1 else 0))) T]):=by
 refine TF 10 Tryz.func292 Z yp aC Z Z ?_
 refine CD (ts 0 4 (.only 4 (.only 5 .nil))) yp yr ?_
 refine cX ?_
 refine AG (AR (fun Fr w hF hs hS=>Qo Fr w b) Z Z yu ?_)
 refine AG (AO (aK.P' (k:=.u32) 0 RU rfl rfl rfl hu) rfl (fun v L' g=>by obtain⟨rfl,rfl⟩:=g;exact kp) ?_)
 rintro _ _ ⟨rfl,rfl⟩
 refine cX ?_
 exact vO
theorem W7{p:Nat}(o:Option eV)(h:bq Fr w p (o6 o)):ax Tryz.prog 120 [.pointer (some ⟨p,0,none⟩)] Fr w [] (fun v L=>v=.tuple #[.agg (dL (o.getD my)).toArray,.bool o.isSome]∧L=[]):=by
 refine TF 18 Tryz.func120 Z yp aC Z Z ?_
 refine CS (CG (VG (VO.alloc Z fun b2=>?_)))
 refine av ?_
 cases o with
 | none=>
  refine VG (VV (fun Fr w hF hw _=>Hm Fr w (d:=0) (k:=0) (s:=0) (o:=my) (h.of hF hw)) Z ?_)
  refine av ?_
  refine VG (VY 6 false Z Z ?_)
  refine av ?_
  refine VG (VV (fun Fr w hF hw _=>ET Fr w (h.of hF hw) Z) Z ?_)
  refine kq ?_
  refine VG (VI (LB (pv:=[]) (dL my) Z Z Z yp Z) ?_)
  refine OH ?_
  refine av ?_
  exact OI
 | some o=>
  refine VG (VV (fun Fr w hF hw _=>Hm Fr w (d:=1) (k:=0) (s:=1) (o:=o) (h.of hF hw)) Z ?_)
  refine av ?_
  refine VG (VY 6 false Z Z ?_)
  refine av ?_
  refine VG (VV (fun Fr w hF hw _=>ET Fr w (h.of hF hw) Z) Z ?_)
  refine yP ?_
  refine VG (VD Z Z (aw.jF (ds:=dL o) h Z) ?_)
  refine VG (VT (vs:=dL o) (cs':=dL o) 0 Z Z Z Z (NR _) Z Z Z ?_)
  refine av ?_
  exact CR (an.dt 2 3 Z Z Z (aw.many (ds:=dL o) 0 Z Z) Z aa.nil.aj ⟨rfl,Z⟩)
theorem W0{p b2 b3 b5:Nat}{o o0:eV}{d k:Int}:ax Tryz.prog 291 [.pointer (some ⟨b3,0,none⟩),.pointer (some ⟨b2,0,none⟩),.pointer (some ⟨b5,0,none⟩)] Fr w
  [pt p (qM d k 0 o0) nH,pt b2 [.pointer (some ⟨p,0,none⟩)] 128,pt b3 (dL o) sW,pt b5 [.bool false] 4]
  (fun v L=>v=.tuple #[]∧L=[pt p (qM d k 1 o) nH,pt b2 [.pointer (some ⟨p,0,none⟩)] 128,pt b3 (dL o) sW,pt b5 [.bool true] 4]):=by
 refine TF 11 Tryz.func291 Z yp aC Z Z ?_
 refine CS (CG (VG (VO.ld 1 Z Z Z Z ?_)))
 refine VG (VL 2 (dL o) Z Z Z Z ?_)
 refine VG (VT (vs:=dL o) (cs':=qM d k 0 o) 0 Z Z Z Z (NR _) Z Z Z ?_)
 refine ae ?_
 refine vQ ?_
 refine ae ?_
 refine VG (VK (Lc:=[pt p (qM d k 0 o) nH]) (fun Fr w hF hw _=>Qm Fr w (off:=4) true Z) Z Z ?_)
 rintro _ _ ⟨rfl,rfl⟩
 refine ae ?_
 refine VG (VO.st 3 (cs':=[.bool true]) Z Z Z Z uS Z Z ?_)
 refine ae ?_
 exact vO
end Cl
namespace Cl
open Go Vg T Api
theorem Mn(w:World):(callFunc 303 #[]).run Tryz.prog w=.ok (.value (.tuple #[])) w:=run_call_mark0 Tryz.func303 yp yp yp .disable yp w
theorem Mo(w:World):(callFunc 305 #[]).run Tryz.prog w=.ok (.value (.tuple #[])) w:=run_call_mark0 Tryz.func305 yp yp yp .enable yp w
theorem Wm(a:Addr)(w:World):(callFunc 306 #[.pointer (some a)]).run Tryz.prog w=.ok (.value (.tuple #[])) w:=run_call_marked Tryz.func306 yp yp yp .acquire yp a w
theorem Wn(a:Addr)(w:World):(callFunc 308 #[.pointer (some a)]).run Tryz.prog w=.ok (.value (.tuple #[])) w:=run_call_marked Tryz.func308 yp yp yp .releaseMerge yp a w
theorem Xw(a:Addr)(x:Value)(u:FrameMode)(w:World)(hc:w.cell? a=some x)(hz:w.frozen? a=false):
  CallsD Tryz.prog 292 #[.pointer (some a),.bool true] u w fun e u' w'=>u'=u∧(e=.returned (.tuple #[])∧w'=w.drew.setCell a (.int .u32 1)):=by
 have hc':w.drew.cell? a=some x:=by go_simp
 have hz':w.drew.frozen? a=false:=by go_simp
 have hst:=run_call_store (P:=Tryz.prog) Tryz.func296 yp yp yp yp (k:=.u32) (y:=1) hc' hz'
 go_enter_d Tryz.func292,Tryz.ntmps292
 go_wp2
 go_region_calls
 all_goals (go_end0;exact⟨rfl,rfl⟩)
theorem aa_(a:Addr)(u:FrameMode)(w:World)(hc:w.cell? a=some (.int .i32 1))(hz:w.frozen? a=false):
  CallsD Tryz.prog 300 #[.pointer (some a)] u w fun e u' w'=>u'=u∧(e=.returned (.tuple #[])∧w'=w.setCell a (.int .i32 0)):=by
 have hd:=Mn
 have he:=Mo
 have hr:=Wn
 have hadd:=run_call_add (P:=Tryz.prog) Tryz.func309 yp yp yp .i32 yp (y:=-1) (s:=0) hc hz (by simp[go_sem];rfl)
 have hcv:=run_convert_to_unsafe (P:=Tryz.prog) (src:=378) (dst:=382) Tryz.underlying378 Tryz.underlying382 yp hc
 go_enter_d Tryz.func300,Tryz.ntmps300
 go_wp2
 go_end0
 go_wp2
 go_end0
 exact⟨rfl,Z⟩
theorem TQ(a:Addr)(w:World)(hc:w.cell? a=some (.int .i32 0))(hz:w.frozen? a=false):
  Calls Tryz.prog 299 #[.pointer (some a)] w fun e w'=>e=.returned (.tuple #[])∧w'=w.setCell a (.int .i32 1):=by
 have hd:=Mn
 have he:=Mo
 have ha:=Wm
 have hcas:=run_call_cas_hit (P:=Tryz.prog) Tryz.func304 yp yp yp .i32 yp (y:=1) hc hz
 have hc':(w.setCell a (.int .i32 1)).cell? a=some (.int .i32 1):=World.cell?_setCell_same w a _ hc
 have hcv:=run_convert_to_unsafe (P:=Tryz.prog) (src:=378) (dst:=382) Tryz.underlying378 Tryz.underlying382 yp hc'
 go_enter Tryz.func299,Tryz.ntmps299
 go_wp2
 first | go_end0 | (simp only[Exit.inBlock,Exit.then];refine bodyPost_ret (results_none rfl _ _ _) rfl ?_) | refine bodyPost_ret (results_none rfl _ _ _) rfl ?_
 go_wp2
 go_end0
 exact⟨rfl,Z⟩
end Cl
namespace Cl
open Go Vg T Api
abbrev Dj:TypeId:=128
def tf(p b2 b3 b5:Nat)(d k s:Int)(o0 o:eV)(f:Bool):List HP:=[pt p (qM d k s o0) nH,pt b2 [.pointer (some ⟨p,0,none⟩)] Dj,pt b3 (dL o) sW,pt b5 [.bool f] 4]
theorem Ax{Fr:Nat→Prop}{L:List HP}{w:World}{b t:Nat}{cs:List Value}(h:Sat Fr (pt b cs t::L) w):w.heap[b]?=some (.cells cs.toArray t (0,0))∧¬Fr b:=by
 obtain⟨F,⟨i,G,rfl,⟨rfl,hi⟩,hG⟩,hn,hb⟩:=h
 exact⟨hi,(hb b yi).1⟩
theorem Hd{Fr:Nat→Prop}{L:List HP}{w:World}{b t off:Nat}{cs:List Value}{v:Value}(hlow:∀x,Fr x→x<w.heap.size)(h:Sat Fr (pt b cs t::L) w):
  Sat Fr (pt b (cs.set off v) t::L) (w.setCell ⟨b,off,none⟩ v)∧eL Fr w (w.setCell ⟨b,off,none⟩ v):=by
 obtain⟨h0,hf⟩:=Ax h
 have hst:St (X:=⟨Tryz.prog,tab,aC,0,Fr,w⟩) (pt b cs t::L) w:=⟨h,eL.refl _ _,hlow⟩
 have:=hst.set (i:=0) (cs':=cs.set off v) rfl
 rw[←Hi h0] at this
 exact⟨this.sat,this.cP⟩
theorem zW{Fr:Nat→Prop}{w w':World}(hlow:∀x,Fr x→x<w.heap.size)(h:eL Fr w w'):∀x,Fr x→x<w'.heap.size:=fun x hx=>wu (hlow x hx) h.size
theorem BW{w:World}{b t off:Nat}{cs:List Value}{v:Value}(h:w.heap[b]?=some (.cells cs.toArray t (0,0)))(hv:cs[off]?=some v):w.cell? ⟨b,off,none⟩=some v:=by
 rw[cell_of_row w b off cs.toArray t (0,0) h];simpa using hv
theorem FH{w:World}{b t off:Nat}{cs:List Value}(h:w.heap[b]?=some (.cells cs.toArray t (0,0))):w.frozen? ⟨b,off,none⟩=false:=frozen_of_row w b off cs.toArray t h
theorem Rw{p b2 b3 b5:Nat}{o0 o:eV}:ax Tryz.prog 295 [.pointer (some ⟨p,1,none⟩),f_ 291 [] [.pointer (some ⟨b3,0,none⟩),.pointer (some ⟨b2,0,none⟩),.pointer (some ⟨b5,0,none⟩)]] Fr w
  (tf p b2 b3 b5 0 0 0 o0 o false) (fun v L=>v=.tuple #[]∧L=tf p b2 b3 b5 1 0 1 o o true):=by
 refine⟨⟨_,Tryz.func295,by kernel_rfl,by kernel_rfl⟩,fun hlow hsat=>?_⟩
 show Calls _ _ #[.pointer (some ⟨p,1,none⟩),.func (.func 291) #[] #[.pointer (some ⟨b3,0,none⟩),.pointer (some ⟨b2,0,none⟩),.pointer (some ⟨b5,0,none⟩)]] w _
 obtain⟨h0,hf⟩:=Ax hsat
 obtain⟨hs1,hk1⟩:=Hd (off:=2) (v:=.int .i32 1) hlow hsat
 have hlow1:=zW hlow hk1
 have hs1':Sat Fr (tf p b2 b3 b5 0 1 0 o0 o false) (w.setCell ⟨p,2,none⟩ (.int .i32 1)):=hs1
 have hset:=(W0 Fr (w.setCell ⟨p,2,none⟩ (.int .i32 1)) (p:=p) (b2:=b2) (b3:=b3) (b5:=b5) (o:=o) (o0:=o0) (d:=0) (k:=1)).calls hlow1 hs1'
 have h01:=(Ax hs1).1
 have hl:=run_call_load (P:=Tryz.prog) Tryz.func250 yp yp yp .u32 yp (w:=w.setCell ⟨p,2,none⟩ (.int .i32 1)) (a:=⟨p,1,none⟩) (x:=0) (BW h01 rfl)
 have hnot:∀(x:Bool) (w:World),(Op.unary .not (.bool x)).run Tryz.prog w=.ok (.bool (!x)) w:=fun _ _=>rfl
 go_enter_defers Tryz.func295,Tryz.ntmps295
 go_wp2_with (go_at_call 299;refine(TQ ⟨p,2,none⟩ _ (BW h0 rfl) (FH h0)).mono ?_;rintro e w' ⟨rfl,rfl⟩)
 go_wp2_with (first | (go_at_call 291;refine hset.mono ?_;rintro e w' ⟨v,L',rfl,⟨rfl,rfl⟩,hs2,hk2⟩) | (go_at_call 193;go_in))
 have hs2':Sat Fr (pt p (qM 0 1 1 o) nH :: [pt b2 [.pointer (some ⟨p,0,none⟩)] Dj,pt b3 (dL o) sW,pt b5 [.bool true] 4]) w':=hs2
 have hlow2:=zW hlow1 hk2
 have h02:=(Ax hs2').1
 have hs3:Sat Fr (pt p (qM 0 1 1 o) nH :: [pt b2 [.pointer (some ⟨p,0,none⟩)] Dj,pt b3 (dL o) sW,pt b5 [.bool true] 4]) w'.drew:=hs2'.heap rfl
 have hk3:eL Fr w' w'.drew:=eL.drew _ _
 obtain⟨hs4,hk4⟩:=Hd (off:=1) (v:=.int .u32 1) (zW hlow2 hk3) hs3
 have h04:=(Ax hs4).1
 obtain⟨hs5,hk5⟩:=Hd (off:=2) (v:=.int .i32 0) (zW (zW hlow2 hk3) hk4) hs4
 refine leaves_cons (f:=292) (args:=#[.pointer (some ⟨p,1,none⟩),.bool true]) yi (by simp[go_sem]) ?_
 refine(Xw ⟨p,1,none⟩ (.int .u32 0) .returning _ (BW h02 Z) (FH h02)).mono ?_
 rintro e u' w'' ⟨rfl,rfl,rfl⟩
 refine leaves_cons (f:=300) (args:=#[.pointer (some ⟨p,2,none⟩)]) (by simp[settle]) (by simp[go_sem]) ?_
 refine(aa_ ⟨p,2,none⟩ _ _ (BW h04 Z) (FH h04)).mono ?_
 rintro e u' w'' ⟨rfl,rfl,rfl⟩
 have hres:∃v L',Ending.returned (.tuple #[])=Ending.returned v∧(v=.tuple #[]∧L'=tf p b2 b3 b5 1 0 1 o o true)∧Sat Fr L' ((w'.drew.setCell ⟨p,1,none⟩ (.int .u32 1)).setCell ⟨p,2,none⟩ (.int .i32 0))∧eL Fr w ((w'.drew.setCell ⟨p,1,none⟩ (.int .u32 1)).setCell ⟨p,2,none⟩ (.int .i32 0)):=
  ⟨_,_,rfl,⟨rfl,rfl⟩,hs5,(((hk1.trans hk2).trans hk3).trans hk4).trans hk5⟩
 simpa[Leaves,settle,results,Tryz.results295] using hres
end Cl
namespace Vg
open Go
section
variable {X:Cx} {e:Env} {L:List HP}
theorem Cq{T:TypeId}{x y:Operand}{s:ByteArray}{b:UInt8}{k:IntKind}{j:Int}{tt:TI}(i:Nat)(hx:ev e x=some (.string s))(hy:ev e y=some (.int k j))(hT:bR X.tab T=some tt)(hu:tt.aE=.string)
  (hj:j=i) (hb:s.data.toList[i]?=some b):fo X (.index T x y) e (.int .u8 (b.toNat:Int)):=by
 intro a ha dst ty pos after guard w
 have hund:=DH (X.ok.look hT) hu
 subst hj
 have hb2:s[i]?=some b:=by
  have:s.data[i]?=some b:=by simpa using hb
  obtain⟨h1,h2⟩:=sn.1 this
  rw[getElem?_pos s i h1]
  exact congrArg some h2
 simp[execOp,ha.ev hx,ha.ev hy,Instr.index,asIntOf,run_underlying hund,hb2]
end
end Vg
namespace Vg
open Go
section
variable {α:Type} {c:α→List Value} {n:Nat}
def rA(a:Option Addr)(cap lo sz:Nat):Option Addr:=a.map fun q=>if cap=lo then q else q.add (lo*sz)
theorem KY{X:Cx}{e:Env}{T:TypeId}{x y:Operand}{tt te:TI}{el len cap:Nat}{a:Option Addr}{k:IntKind}{j:Int}(lo:Nat)(hx:ev e x=some (.slice a len cap))(hy:ev e y=some (.int k j))
  (hT:bR X.tab T=some tt) (hu:tt.aE=.slice el) (hE:bR X.tab el=some te) (hlo:j=lo) (h1:lo≤len) (h2:len≤cap):
  fo X (.slice T x (some y) none none) e (.slice (rA a cap lo te.size) (len-lo) (cap-lo)):=by
 intro ac hac dst ty pos after guard w
 have hd:=qR (X.ok.look hT) hu
 obtain⟨i2,hi2,hs2,_,_⟩:=(X.ok.look hE).nt
 subst hlo
 cases a with
 | none=>simp[execOp,hac.ev hx,hac.ev hy,Instr.sliceAt,Instr.slice,Instr.sliceBounds,Instr.sliceBound,asIntOf,run_underlying hd,h1,h2,lN hi2,rA]
 | some a=>
  by_cases h:cap=lo
  ·subst h
   simp[execOp,hac.ev hx,hac.ev hy,Instr.sliceAt,Instr.slice,Instr.sliceBounds,Instr.sliceBound,asIntOf,run_underlying hd,h1,h2,lN hi2,rA]
  ·simp[execOp,hac.ev hx,hac.ev hy,Instr.sliceAt,Instr.slice,Instr.sliceBounds,Instr.sliceBound,asIntOf,run_underlying hd,h1,h2,lN hi2,rA,hs2,h]
end
end Vg
namespace Vg
open Go
section
variable {X:Cx} {e:Env}
theorem F0{T:TypeId}{x y:Operand}{tt:TI}{s:ByteArray}{k:IntKind}{j:Int}(lo:Nat)(hx:ev e x=some (.string s))(hy:ev e y=some (.int k j))
  (hT:bR X.tab T=some tt) (hu:tt.aE=.string) (hj:j=lo) (hl:lo≤s.size):fo X (.slice T x (some y) none none) e (.string (s.extract lo s.size)):=by
 intro a ha dst ty pos after guard w
 have hd:=DH (X.ok.look hT) hu
 subst hj
 simp[execOp,ha.ev hx,ha.ev hy,Instr.sliceAt,Instr.slice,Instr.sliceBounds,Instr.sliceBound,asIntOf,run_underlying hd,hl]
theorem K1{T:TypeId}{x y:Operand}{tt:TI}{s:ByteArray}{k:IntKind}{j:Int}(hi:Nat)(hx:ev e x=some (.string s))(hy:ev e y=some (.int k j))
  (hT:bR X.tab T=some tt) (hu:tt.aE=.string) (hj:j=hi) (hl:hi≤s.size):fo X (.slice T x none (some y) none) e (.string (s.extract 0 hi)):=by
 intro a ha dst ty pos after guard w
 have hd:=DH (X.ok.look hT) hu
 subst hj
 simp[execOp,ha.ev hx,ha.ev hy,Instr.sliceAt,Instr.slice,Instr.sliceBounds,Instr.sliceBound,asIntOf,run_underlying hd,hl]
theorem K2{xt yt:TypeId}{x y:Operand}{a n:Nat}{k j:IntKind}(z:Int)(hx:ev e x=some (.int j (a:Int)))(hy:ev e y=some (.int k (n:Int)))(hn:n≤j.bits)(hz:j.wrap (((a*2 ^ n:Nat)):Int)=z):fo X (.binOp .shl xt x y yt) e (.int j z):=by
 intro a' ha dst ty pos after guard w
 have h8:min ((n:Int).toNat) j.bits=n:=Bz hn
 have h2:(a:Int)*2 ^ n=((a*2 ^ n:Nat):Int):=by simp
 have h:Op.shift .shl j (a:Int) k (n:Int)=pure (.int j z):=by
  unfold Op.shift
  rw[if_neg yg,h8]
  simp only[h2]
  rw[hz]
 simp only[execOp,ha.ev hx,ha.ev hy]
 show((do eqGuard .shl xt x y (.int j a) (.int k n);Op.shift .shl j a k n:Sem Value) >>= fun v=>pure (Next.value v)).run X.P w=_
 rw[h];rfl
theorem TM{xt yt:TypeId}{x y:Operand}{a n:Nat}{k j:IntKind}(hx:ev e x=some (.int j (a:Int)))(hy:ev e y=some (.int k (n:Int)))(hn:n≤j.bits):fo X (.binOp .shr xt x y yt) e (.int j ((a / 2 ^ n:Nat):Int)):=by
 intro a' ha dst ty pos after guard w
 have h8:min ((n:Int).toNat) j.bits=n:=Bz hn
 have h2:((2:Int) ^ n)=((2 ^ n:Nat):Int):=by simp
 have hd:(a:Int).fdiv (2 ^ n)=((a / 2 ^ n:Nat):Int):=by
  rw[h2,Int.fdiv_eq_ediv_of_nonneg _ (Int.natCast_nonneg _)];rfl
 have h:Op.shift .shr j (a:Int) k (n:Int)=pure (.int j ((a / 2 ^ n:Nat):Int)):=by
  unfold Op.shift
  rw[if_neg yg,h8]
  simp only[hd]
 simp only[execOp,ha.ev hx,ha.ev hy]
 show((do eqGuard .shr xt x y (.int j a) (.int k n);Op.shift .shr j a k n:Sem Value) >>= fun v=>pure (Next.value v)).run X.P w=_
 rw[h];rfl
theorem wrap_u64{n:Int}(h0:0≤n)(h1:n<18446744073709551616):IntKind.u64.wrap n=n:=by
 simp[IntKind.wrap,IntKind.bits,IntKind.signed];omega
theorem TL{xt yt:TypeId}{x y:Operand}{a b:Nat}(hx:ev e x=some (.int .u64 (a:Int)))(hy:ev e y=some (.int .u64 (b:Int)))(ha:a<18446744073709551616)(hb:b<18446744073709551616):fo X (.binOp .or xt x y yt) e (.int .u64 ((a ||| b:Nat):Int)):=by
 intro a' hag dst ty pos after guard w
 have hlt:a ||| b<18446744073709551616:=by
  have:a ||| b<2 ^ 64:=Nat.or_lt_two_pow (by simpa using ha) (by simpa using hb)
  simpa using this
 have f1:∀c:Nat,c<18446744073709551616→(BitVec.ofInt 64 (c:Int)).toNat=c:=fun c hc=>by simp;omega
 have h:Op.intBits .or .u64 (a:Int) (b:Int)=pure (.int .u64 ((a ||| b:Nat):Int)):=by
  have e1:(BitVec.ofInt 64 (a:Int) ||| BitVec.ofInt 64 (b:Int)).toNat=a ||| b:=by rw[BitVec.toNat_or,f1 a ha,f1 b hb]
  have e2:IntKind.u64.wrap ((BitVec.ofInt 64 (a:Int) ||| BitVec.ofInt 64 (b:Int)).toNat:Int)=((a ||| b:Nat):Int):=by rw[e1];exact wrap_u64 yg yg
  show(pure (.int .u64 (IntKind.u64.wrap ((BitVec.ofInt 64 (a:Int) ||| BitVec.ofInt 64 (b:Int)).toNat:Int))):Sem Value)=_
  rw[e2]
 simp only[execOp,hag.ev hx,hag.ev hy]
 show((do eqGuard .or xt x y (.int .u64 a) (.int .u64 b);Op.intBits .or .u64 a b:Sem Value) >>= fun v=>pure (Next.value v)).run X.P w=_
 rw[h];rfl
end
theorem TN{X:Cx}{e:Env}{T:TypeId}{x y z u:Operand}{tt te:TI}{el len cap:Nat}{a:Option Addr}{k k' k'':IntKind}{i j m:Int}(lo hi mx:Nat)(hx:ev e x=some (.slice a len cap))(hy:ev e y=some (.int k i))(hz:ev e z=some (.int k' j))(hw:ev e u=some (.int k'' m))
  (hT:bR X.tab T=some tt) (hu:tt.aE=.slice el) (hE:bR X.tab el=some te) (hlo:i=lo) (hhi:j=hi) (hmx:m=mx) (h1:lo≤hi) (h2:hi≤mx) (h3:mx≤cap):
  fo X (.slice T x (some y) (some z) (some u)) e (.slice (if mx=lo then a else a.map (·.add (lo*te.size))) (hi-lo) (mx-lo)):=by
 intro ac ha dst ty pos after guard w
 have hd:=qR (X.ok.look hT) hu
 obtain⟨i2,hi2,hs2,_,_⟩:=(X.ok.look hE).nt
 subst hlo;subst hhi;subst hmx
 simp[execOp,ha.ev hx,ha.ev hy,ha.ev hz,ha.ev hw,Instr.sliceAt,Instr.slice,Instr.sliceBounds,Instr.sliceBound,asIntOf,run_underlying hd,h1,h2,h3,lN hi2,hs2]
theorem aK.I'{X:Cx}{e:Env}{L:List HP}{t el esz n cap m g:Nat}{tt te:TI}{x y:Operand}{cs news:List Value}{v:Value}(i:Nat)
  (hx:ev e x=some (.slice (some ⟨g,0,none⟩) n cap)) (hy:ev e y=some v) (hL:L[i]?=some (pt g cs el)) (hT:bR X.tab t=some tt) (hu:tt.aE=.slice el) (hE:bR X.tab el=some te) (hesz:te.size=esz)
  (hr:dm X L v esz m news) (h1:news.all Value.oneCell'=true) (hroom:n+m≤cap) (hfit:n*esz+news.length≤cs.length):
  aK X (.call ⟨.builtin .append,#[x,y],#[t,t]⟩) e L (fun u L'=>u=.slice (some ⟨g,0,none⟩) (n+m) cap∧L'=L.set i (pt g (dM cs (n*esz) news) el)):=by
 intro ac w ha hw dst ty pos after guard
 have hund:=qR (X.ok.look hT) hu
 have hok:=X.ok.look hE
 obtain⟨ti,hi,hsz,hbt,hz⟩:=hok.nt
 have hexec:∀u w',(Builtin.append_ #[t,t] ty #[.slice (some ⟨g,0,none⟩) n cap,v]).run X.P w=.ok u w' →
   (execOp ac.eval ⟨dst,.call ⟨.builtin .append,#[x,y],#[t,t]⟩,ty,pos,after,guard⟩).run X.P w=.ok (.value u) w':=fun u w' h=>by
  simp[execOp,resolve,invoke,builtin,ha.ev hx,ha.ev hy,h]
 obtain⟨h0,hf⟩:=hw.sH hL
 obtain⟨hnl,hrd⟩:=hr
 rcases hrd with ⟨d,c,rfl,rfl⟩ | ⟨b,off,c,rfl,hrg⟩
 ·have hn0:news=[]:=iC (by simpa using hnl)
  subst hn0
  refine .inl ⟨_,w,_,hexec _ _ (MG hund hi (some ⟨g,0,none⟩) d n cap c yg ty),⟨rfl,Z⟩,?_⟩
  rw[Hw]
  have hset:L.set i (pt g cs el)=L:=by
   refine qe fun j=>?_
   by_cases e:i=j
   ·subst e;rw[iR (bP.1 hL).1,hL]
   ·rw[lU e]
  rw[hset];exact hw
 ·have hnews:∀j u,news[j]?=some u→w.cell? ((⟨b,off,none⟩:Addr).add j)=some u:=fun j u hj=>by rw[Addr.add_mid];exact hrg w hw j u hj
  have h1':∀u∈news,u.oneCell'=true:=nK.1 h1
  have hrun:=run_append_room (P:=X.P) w t ty el ti hund hi g n cap _ h0 ⟨b,off,none⟩ m c news (by rw[hsz,hesz];exact hnl) hnews h1' hroom (by rw[hsz,hesz];simpa using hfit)
  have e2:cs.toArray.toList.take (n*ti.size)++news++cs.toArray.toList.drop (n*ti.size+news.length)=dM cs (n*esz) news:=by rw[hsz,hesz];rfl
  rw[e2] at hrun
  have e3:w.setRow g (dM cs (n*esz) news).toArray=dZ w g (.cells (dM cs (n*esz) news).toArray el (0,0)):=by
   unfold World.setRow dZ
   have hlt:=(sn.1 h0).1
   refine congrArg (fun h=>({ w with heap:=h }:World)) (v7 fun j=>?_)
   rw[v_,Array.getElem?_setIfInBounds]
   by_cases e:g=j
   ·subst e;rw[if_pos rfl,if_pos rfl,if_pos hlt,h0];rfl
   ·rw[if_neg e,if_neg e]
  rw[e3] at hrun
  exact .inl ⟨_,_,_,hexec _ _ hrun,⟨rfl,Z⟩,hw.set hL⟩
section
variable {α:Type} {c:α→List Value} {n:Nat}
theorem erase_eq(l:List α)(i:Nat):l.eraseIdx i=l.take i++l.drop (i+1):=List.eraseIdx_eq_take_drop_succ l i
theorem J1(h:∀a,(c a).length=n){l:List α}{i:Nat}(hi:i<l.length)(rest:List Value):∃z,z.length=n∧dM (flat c l++rest) (i*n) (flat c (l.drop (i+1)))=flat c (l.eraseIdx i)++(z++rest):=by
 obtain⟨x,hx⟩:∃x,l[i]?=some x:=⟨_,GE hi⟩
 have hd:l.drop i=x::l.drop (i+1):=by
  obtain⟨h1,h2⟩:=bP.1 hx
  rw[Bu h1,h2]
 have hl:flat c l=flat c (l.take i)++(c x++flat c (l.drop (i+1))):=by rw[←lz,←hd,←fu,List.take_append_drop]
 have ha:(flat c (l.take i)).length=i*n:=by rw[eu h,jj];congr 1;omega
 refine⟨(c x++flat c (l.drop (i+1))).drop (flat c (l.drop (i+1))).length,by rw[su,a8,h];omega,?_⟩
 rw[erase_eq,fu,hl]
 generalize flat c (l.take i)=A at ha
 generalize flat c (l.drop (i+1))=D
 unfold dM
 have e1:(A++(c x++D)++rest).take (i*n)=A:=by rw[ed];exact wk ha
 have e2:(A++(c x++D)++rest).drop (i*n+D.length)=(c x++D).drop D.length++rest:=by
  rw[←ha,←Bt,ed,List.drop_left' rfl,List.drop_append_of_le_length p7]
 rw[e1,e2,ed]
theorem NV{A z zs rest:List Value}{k:Nat}(hA:A.length=k)(hz:zs.length=z.length):dM (A++(z++rest)) k zs=A++(zs++rest):=by
 unfold dM
 subst hA
 rw[wk rfl,List.drop_append,hz]
 simp
end
theorem aa.Di{L M:List HP}{el esz b n:Nat}{cs:List Value}(hc:cs.length=n*esz)(h:aa L (pt b cs el::M)):aa L (aq el esz (some ⟨b,0,none⟩) n n cs::M):=by
 have:=aa.sl (L:=L) (M:=M) (el:=el) (b:=b) (rest:=[]) (cap:=n) hc (NR _) (by rw[br];exact hc) (by rw[br];exact h)
 exact this
theorem Vj{n b:Nat}(hb:b<256):(n*256) ||| b=n*256+b:=by
 have h:n*256=n <<< 8:=by rw[Nat.shiftLeft_eq]
 rw[h,Nat.shiftLeft_add_eq_or_of_lt (by simpa using hb)]
end Vg
namespace Cl
open Go Vg T Api
attribute [local irreducible] VO VC VA
theorem Vb{p b2 b3 b5:Nat}{o0 o:eV}:ax Tryz.prog 290 [.pointer (some ⟨p,1,none⟩),f_ 291 [] [.pointer (some ⟨b3,0,none⟩),.pointer (some ⟨b2,0,none⟩),.pointer (some ⟨b5,0,none⟩)]] Fr w
  (tf p b2 b3 b5 0 0 0 o0 o false) (fun v L=>v=.tuple #[]∧L=tf p b2 b3 b5 1 0 1 o o true):=by
 refine TF 12 Tryz.func290 Z yp aC Z Z ?_
 refine ae ?_
 refine VG (VV (fun Fr w hF hw hS=>ET Fr w (n:=0) (hS.aA 0 Z) Z) Z ?_)
 refine vY ?_
 refine VG (VK (Lc:=tf p b2 b3 b5 0 0 0 o0 o false) (Lr:=[]) (fun Fr w hF hw _=>Rw Fr w) Z (br _).symm ?_)
 rintro _ _ ⟨rfl,rfl⟩
 refine ae ?_
 exact an.void Z ER ⟨rfl,br _⟩
theorem Xi{p:Nat}{o:eV}(h1:1≤o.kind)(h2:o.kind≤3):ax Tryz.prog 272 [.pointer (some ⟨p,0,none⟩),.agg (dL o).toArray] Fr w [pt p (o6 none) nH] (fun v L=>v=.bool true∧L=[pt p (o6 (some o)) nH]):=by
 refine TF 24 Tryz.func272 Z yp aC Z Z ?_
 refine CS (CG (VG (VO.QD Z fun b2=>VG (VB (vs:=dL o) Z fun b3=>VG (VN ?_)))))
 refine dG ?_
 refine VG (VV (fun Fr w hF hw hS=>Hm Fr w (p:=p) (d:=0) (k:=0) (s:=0) (o:=my) (hS.aA 2 Z)) Z ?_)
 refine av ?_
 refine VG (VY 8 false Z Z ?_)
 refine bG ?_
 refine VG (VY 13 false Z (DF yg) ?_)
 refine bG ?_
 refine CP (p:=3<o.kind) Z (fun h=>absurd h yg) (fun h=>CK ?_)
 refine av ?_
 refine VG (VO.alloc Z fun b5=>?_)
 refine VG (VO.st 0 (cs':=[.bool false]) Z Z Z Z uS Z Z ?_)
 refine gO ?_
 refine VG (VI (zY (u:=[]) (v:=[.pointer (some ⟨b3,0,none⟩),.pointer (some ⟨b2,0,none⟩),.pointer (some ⟨b5,0,none⟩)]) Z Z) ?_)
 refine VO.aj (L':=tf p b2 b3 b5 0 0 0 my o false) (bb [3,2,1,0]).aj ?_
 refine VG (VK (Lc:=tf p b2 b3 b5 0 0 0 my o false) (Lr:=[]) (fun Fr w hF hw _=>Vb Fr w) Z (br _).symm ?_)
 rintro _ _ ⟨rfl,rfl⟩
 show VO _ _ _ _ _ [pt p (qM 1 0 1 o) nH,pt b2 [.pointer (some ⟨p,0,none⟩)] Dj,pt b3 (dL o) sW,pt b5 [.bool true] 4] _
 refine av ?_
 refine VG (VO.ld 3 Z Z Z Z ?_)
 refine av ?_
 exact CR (an.tmp 4 Z Z (IP 0 Z aa.nil).aj ⟨rfl,Z⟩)
abbrev fL:TypeId:=184
def eA(b:eD):List Value:=[.int .i64 b.cap,.int .i64 b.fh,.int .i64 b.tokens,.int .i64 b.tick,.int .i64 b.since]
structure eD.Ok(b:eD):Prop where
 c0:0≤b.cap
 c1:b.cap≤16
 r0:1≤b.fh
 r1:b.fh≤1099511627776
 t0:0≤b.tokens
 t1:b.tokens≤b.cap
 k0:0≤b.tick
 k1:b.tick≤1099511627776
 s0:0≤b.since
 s1:b.since≤b.tick
theorem eD.Ok.at(b:eD)(h:b.Ok)(now:Int):(b.at now).Ok:=by
 have:=h.k0
 have:=h.k1
 have:=h.s1
 exact⟨h.c0,h.c1,h.r0,h.r1,h.t0,h.t1,by show 0≤min (max now b.tick) _;omega,by show min (max now b.tick) _≤_;omega,h.s0,by show b.since≤min (max now b.tick) _;omega⟩
theorem Jt:∀(k:Nat) {b:eD},b.Ok→(pw k b).Ok
 | 0,_,h=>h
 | k+1,b,h=>by
  rw[pw]
  split
  ·rename_i hc
   have:=h.t0
   have:=h.s0
   have:=h.r0
   exact Jt k ⟨h.c0,h.c1,h.r0,h.r1,by show 0≤b.tokens+1;omega,by show b.tokens+1≤b.cap;omega,h.k0,h.k1,by show 0≤b.since+b.fh;omega,hc.2⟩
  ·exact h
theorem eD.Ok.full{b:eD}(h:b.Ok):b.full.Ok:=by
 unfold eD.full
 split
 ·exact⟨h.c0,h.c1,h.r0,h.r1,h.t0,h.t1,h.k0,h.k1,h.k0,e_ _⟩
 ·exact h
theorem eD.Ok.me{b:eD}(h:b.Ok)(now:Int):(b.me now).Ok:=(Jt 17 (eD.Ok.at b h now)).full
theorem eD.Ok.take{b:eD}(h:b.Ok)(now:Int):(b.take now).1.Ok:=by
 have k:=h.me now
 unfold eD.take
 split
 ·exact k
 ·rename_i hn
  have:=k.t0
  have:=k.t1
  exact⟨k.c0,k.c1,k.r0,k.r1,by show 0≤(b.me now).tokens-1;omega,by show(b.me now).tokens-1≤(b.me now).cap;omega,k.k0,k.k1,k.s0,k.s1⟩
theorem QE{k:Nat}{b:eD}(h:¬(b.tokens<b.cap∧b.since+b.fh≤b.tick)):pw k b=b:=by
 cases k with
 | zero=>rfl
 | succ k=>rw[pw,if_neg h]
section
variable {p:Nat}
theorem Qv{b:eD}(ok:b.Ok)(now:Int):ax Tryz.prog 289 [.pointer (some ⟨p,0,none⟩),.int .i64 now] Fr w [pt p (eA b) fL] (fun v L=>v=.tuple #[]∧L=[pt p (eA (b.me now)) fL]):=by
 have ok0:=eD.Ok.at b ok now
 refine TF 73 Tryz.func289 Z yp aC Z Z ?_
 refine CS (CG (VG (VO.ld 0 Z Z Z Z ?_)))
 refine VG (VO.st 0 (cs':=eA (b.at now)) Z Z Z Z (by show 3<5;omega) (by show [_,_,_,_,_]=eA _;unfold eA eD.at;congr 4;show Value.int _ _=Value.int _ _;congr 1;dsimp only;repeat' split;all_goals omega) Z (VG (VN ?_)))
 unfold eD.me
 generalize hb0:b.at now=b0 at ok0
 refine CS (VC.bZ (σ:=eD) (fun _=>[(0,pV p)]) (fun x=>[pt p (eA x) fL]) (fun x=>x.Ok∧x=pw 17 b0) ?_ ?_)
 ·refine VC.block ?_
  refine VC.loop (σ:=Nat×eD) (fun x=>[(0,pV p)]) (fun x=>[pt p (eA x.2) fL]) (fun x=>x.2.Ok∧pw x.1 x.2=pw 17 b0∧(x.2.cap-x.2.tokens).toNat≤x.1) (fun x=>x.1) (17,b0)
   ⟨ok0,rfl,by have:=ok0.c1;have:=ok0.t0;dsimp only;omega⟩ aH ER ?_
  rintro⟨k,x⟩ ⟨okx,hk,hn⟩
  dsimp only at okx hk hn ⊢
  have:=okx.c0
  have:=okx.c1
  have:=okx.r0
  have:=okx.r1
  have:=okx.t0
  have:=okx.t1
  have:=okx.k0
  have:=okx.k1
  have:=okx.s0
  have:=okx.s1
  have fin:¬(x.tokens<x.cap∧x.since+x.fh≤x.tick)→x=pw 17 b0:=fun h=>by rw[←hk,QE h]
  refine ae ?_
  refine CD (ts 0 25 .nil) yp yr ?_
  refine cW ?_
  by_cases h1:x.tokens<x.cap
  rotate_left
  ·refine AG (AY 23 false Z (DF h1) ?_)
   refine cW ?_
   refine VC.mh Z (CX ?_)
   exact⟨x,⟨okx,fin fun h=>h1 h.1⟩,aH,ER⟩
  refine AG (AY 23 true Z (DT h1) ?_)
  refine cW ?_
  refine pY ?_
  refine cW ?_
  refine CP (p:=x.since+x.fh≤x.tick) Z (fun h2=>CK ?_) (fun h2=>CX ?_)
  rotate_left
  ·exact⟨x,⟨okx,fin fun h=>h2 h.2⟩,aH,ER⟩
  obtain⟨j,rfl⟩:∃j,k=j+1:=⟨k-1,by omega⟩
  rw[pw,if_pos ⟨h1,h2⟩] at hk
  refine uG ?_
  refine ae ?_
  refine VG (VO.st 0 (cs':=eA { x with tokens:=x.tokens+1 }) Z Z Z Z (by show 2<5;omega) Z Z ?_)
  refine ae ?_
  refine CD (ts 0 11 (.only 11 .nil)) yp yr ?_
  refine bp ?_
  refine AG (AP Z Z Z fB fB ?_)
  refine bp ?_
  refine AG (VA.st 0 (cs':=eA { x with tokens:=x.tokens+1,since:=x.since+x.fh }) Z Z Z Z Z (by show 4<5;omega) Z Z yu ?_)
  refine cX ?_
  exact⟨(j,{ x with tokens:=x.tokens+1,since:=x.since+x.fh }),⟨⟨okx.c0,okx.c1,okx.r0,okx.r1,by dsimp only;omega,by dsimp only;omega,okx.k0,okx.k1,by dsimp only;omega,h2⟩,hk,by dsimp only;omega⟩,by dsimp only;omega,aH,ER⟩
 rintro x ⟨okx,rfl⟩
 generalize pw 17 b0=x at okx
 unfold eD.full
 refine ae ?_
 refine CD (ts 0 9 .nil) yp yr ?_
 refine bp ?_
 refine CE Z (fun h3=>?_) (fun h3=>CK ?_)
 ·rw[if_pos h3]
  refine al ?_
  refine VG (VO.st 0 (cs':=eA { x with since:=x.tick }) Z Z Z Z (by show 4<5;omega) Z Z ?_)
  refine ae ?_
  exact vO
 ·rw[if_neg h3]
  exact vO
theorem QB{b:eD}(ok:b.Ok)(h:bq Fr w p (eA b)):ax Tryz.prog 288 [.pointer (some ⟨p,0,none⟩)] Fr w [] (fun v L=>v=.bool false∧L=[]):=by
 have:=ok.r0
 refine TF 12 Tryz.func288 Z yp aC Z Z ?_
 refine av ?_
 refine AZ ?_
 refine ji ?_
 exact CR (an.bool (b:=false) 2 Z Z (beq_eq_false_iff_ne.2 yg) ER ⟨rfl,Z⟩)
theorem QF{b:eD}(ok:b.Ok)(now:Int):ax Tryz.prog 231 [.pointer (some ⟨p,0,none⟩),.int .i64 now] Fr w [pt p (eA b) fL] (fun v L=>v=.bool (b.take now).2∧L=[pt p (eA (b.take now).1) fL]):=by
 have ok1:=ok.me now
 have:=ok1.t0
 have:=ok1.t1
 have:=ok1.c1
 have left:∀(Fr:Nat→Prop) (w:World),ax Tryz.prog 271 [.pointer (some ⟨p,0,none⟩),.int .i64 now] Fr w [pt p (eA b) fL] (fun v L=>v=.int .i64 (b.me now).tokens∧L=[pt p (eA (b.me now)) fL]):=by
  intro Fr w
  refine TF 14 Tryz.func271 Z yp aC Z Z ?_
  refine ae ?_
  refine VG (VV (fun Fr w hF hw hS=>QB Fr w ok (hS.aA 0 Z)) Z ?_)
  refine si ?_
  refine VG (VK (Lc:=[pt p (eA b) fL]) (fun Fr w hF hw _=>Qv Fr w ok now) Z Z ?_)
  rintro _ _ ⟨rfl,rfl⟩
  refine EE ?_
  refine ae ?_
  exact A_
 unfold eD.take
 refine TF 16 Tryz.func231 Z yp aC Z Z ?_
 refine ae ?_
 refine VG (VK (Lc:=[pt p (eA b) fL]) (fun Fr w hF hw _=>left Fr w) Z Z ?_)
 rintro _ _ ⟨rfl,rfl⟩
 refine ae ?_
 refine CE Z (fun h1=>?_) (fun h1=>CK ?_)
 ·rw[if_pos h1]
  refine ae ?_
  exact A_
 rw[if_neg h1]
 refine EE ?_
 refine pZ ?_
 refine ae ?_
 refine VG (VO.st 0 (cs':=eA { b.me now with tokens:=(b.me now).tokens-1 }) Z Z Z Z (by show 2<5;omega) Z Z ?_)
 refine ae ?_
 exact A_
theorem Sr(t m:Int):0≤wX t m∧wX t m≤64:=by
 unfold wX
 split
 ·omega
 split
 ·omega
 ·have:(0:Int)≤((2 ^ (t-1).toNat:Nat):Int):=Int.natCast_nonneg _
  omega
theorem Ss(t m:Int):ax Tryz.prog 232 [.int .i64 t,.int .i64 m] Fr w [] (fun v L=>v=.int .i64 (wX t m)∧L=[]):=by
 unfold wX
 refine TF 18 Tryz.func232 Z yp aC Z Z ?_
 refine ae ?_
 refine CP (p:=t<1) Z (fun h1=>?_) (fun h1=>CK ?_)
 ·rw[if_pos h1]
  refine ae ?_
  exact A_
 rw[if_neg h1]
 refine ae ?_
 refine CP (p:=7<t) Z (fun h2=>?_) (fun h2=>CK ?_)
 ·rw[if_pos h2]
  refine ae ?_
  exact CR (an.int 4 Z Z (by repeat' split;all_goals omega) ER ⟨rfl,Z⟩)
 rw[if_neg h2]
 refine ae ?_
 refine pZ ?_
 obtain⟨n,hn⟩:∃n:Nat,t-1=n:=⟨(t-1).toNat,by omega⟩
 have hp:2 ^ n≤64:=by
  have:2 ^ n≤2 ^ 6:=BA yy yg
  exact this
 rw[hn,ea]
 refine VG (VI (K2 (a:=1) (n:=n) ((2 ^ n:Nat):Int) Z Z (by show n≤64;omega) (by rw[Nat.one_mul];generalize 2 ^ n=m at hp;exact i64_in _ yg yg)) ?_)
 generalize 2 ^ n=m at hp
 refine ae ?_
 exact CR (an.int 4 Z Z (by repeat' split;all_goals omega) ER ⟨rfl,Z⟩)
end
end Cl
end Go.Proofs.YtkgfhabealjjpaaGreatDoor
