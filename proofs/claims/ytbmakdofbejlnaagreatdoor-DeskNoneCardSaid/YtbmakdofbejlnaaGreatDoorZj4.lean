/- Texts of the proof, put together and shortened. No condition. -/
import Derived.Test.YtbmakdofbejlnaaGreatDoorZj3
set_option maxRecDepth 100000
set_option maxHeartbeats 16000000
set_option linter.unusedVariables false
set_option linter.unusedSectionVars false
set_option linter.unusedSimpArgs false
namespace Go.Proofs.YtbmakdofbejlnaaGreatDoor
variable (Fr : Nat → Prop) (w : World)
namespace Cl
open Go Vg T Api Ch
attribute [local irreducible] VO VC VA
def Cd(ep:Int)(a:Value)(dr:Int):List Value:=[.int .i64 ep,a,.int .i64 dr]
section
variable {c:aW} {a:Option Addr} {cap:Nat}
theorem Yj(h:aP aC 2 Fr w a c.ms)(hl:c.ms.length≤1000000)(n:Int):aq Tryz.prog 304 [.agg (c.cells a cap).toArray,.int .i64 n] Fr w [] (vI (fJ c n)):=by
 have hpl:=s3 c.ms n
 refine TF 38 Tryz.func304 Z ym aw Z Z ?_
 refine CS (CG (VG (VB (vs:=c.cells a cap) Z fun b=>VG (VO.alloc Z fun b4=>?_))))
 refine ae ?_
 refine tr ?_
 refine Fa ?_
 rintro _ _ ⟨ma,mc,rfl,rfl⟩
 by_cases hf:fX c=0
 rotate_left
 ·have hf2:kL c=(eG,2):=by rw[kL,if_pos hf]
  rw[hf2]
  refine au ?_
  refine Fb ?_
  refine au ?_
  refine VC.dd Z (fun _=>?_) (fun e=>absurd e yn)
  refine qX ?_
  refine au ?_
  refine tF ?_
  exact CR (al.cJ 4 5 Z Z Z (an.many (ds:=eG.cells none 0) 1 Z Z) Z (L':=[av aN 2 none 0 0 (flat aC [])]) (aa.cN aa.nil).ah (by rw[fJ,if_pos hf];exact⟨none,0,Z,Z⟩))
 have hf2:kL c=(⟨c.aB+1,c.ms,c.drain⟩,0):=by rw[kL,if_neg Bx]
 obtain⟨hce,hep⟩:=zg hf
 obtain⟨g1,g2,g3,g4⟩:=oX hce
 have hM:¬fX c≠0:=by rw[hf];decide
 rw[hf2]
 refine au ?_
 refine Fe ?_
 refine au ?_
 refine VC.dd Z (fun e=>absurd Z e) (fun _=>?_)
 refine au ?_
 refine VG (VV (fun Fr w hF hw _=>Ch.I2 Fr w n) Z ?_)
 refine au ?_
 refine VC.ey Z (fun h2=>?_) (fun h2=>?_)
 ·refine qX ?_
  refine tF ?_
  exact CR (al.cJ 4 5 Z Z Z (an.many (ds:=eG.cells none 0) 1 Z Z) Z (L':=[av aN 2 none 0 0 (flat aC [])]) (aa.cN aa.nil).ah (by rw[fJ,if_neg hM,if_pos h2];exact⟨none,0,Z,Z⟩))
 refine FR ?_
 refine xe ?_
 rintro _ _ ⟨pb,rfl,rfl⟩
 refine au ?_
 refine AK ?_
 refine au ?_
 refine CP (p:=0≤placeOf c.ms n) Z (fun h3=>?_) (fun h3=>CK ?_)
 ·refine qX ?_
  refine VG (VT (vs:=eG.cells none 0) (cs':=eG.cells none 0) 2 Z Z Z Z (NR _) Z Z Z ?_)
  refine au ?_
  exact CR (al.cJ 4 5 Z Z Z (an.many (ds:=eG.cells none 0) 2 Z Z) Z (L':=[av aN 2 none 0 0 (flat aC [])]) (aa.cN aa.nil).ah (by rw[fJ,if_neg hM,if_neg (by rw[h2];decide),if_pos h3];exact⟨none,0,Z,Z⟩))
 refine gZ ?_
 refine VG (VI (LB (pv:=[(0,.int .i64 n),(1,.int .i64 (c.aB+1))]) (aC (n,c.aB+1)) Z Z Z ym Z) ?_)
 refine VG (VO.buildSlice (pv:=[(0,.agg (aC (n,c.aB+1)).toArray)]) (aC (n,c.aB+1)) Z Z Z Z yn (fN Z Z Z) fun sb=>?_)
 refine VG (VO.append (m:=1) (news:=aC (n,c.aB+1)) 2 Z Z Z Z Z Z Z (dN.pt 0 Z Z Z) Z (by show(c.ms.length+1)*16≤_;omega) (by show c.ms.length+1≤_;omega) fun a2 c2 hc2=>?_)
 have hlen:(c.ms ++ [(n,c.aB+1)]).length=c.ms.length+1:=by simp
 have hcc:Cd (c.aB+1) (.slice a2 (c.ms.length+1) c2) c.drain=(aW.mk (c.aB+1) (c.ms ++ [(n,c.aB+1)]) c.drain).cells a2 c2:=by unfold Cd aW.cells;rw[hlen]
 refine au ?_
 refine VG (VO.st 3 (cs':=Cd (c.aB+1) (.slice a2 (c.ms.length+1) c2) c.drain) Z Z Z Z sd Z Z ?_)
 rw[hcc]
 refine au ?_
 refine VG (VL 3 ((aW.mk (c.aB+1) (c.ms ++ [(n,c.aB+1)]) c.drain).cells a2 c2) Z Z Z Z ?_)
 refine VG (VT (vs:=(aW.mk (c.aB+1) (c.ms ++ [(n,c.aB+1)]) c.drain).cells a2 c2) (cs':=(aW.mk (c.aB+1) (c.ms ++ [(n,c.aB+1)]) c.drain).cells a2 c2) 3 Z Z Z Z (NR _) Z Z Z ?_)
 refine au ?_
 have hW:fJ c n=(⟨c.aB+1,c.ms ++ [(n,c.aB+1)],c.drain⟩,0):=by rw[fJ,if_neg hM,if_neg (by rw[h2];decide),if_neg h3]
 exact CR (al.cJ 4 5 Z Z Z (an.many (ds:=(aW.mk (c.aB+1) (c.ms ++ [(n,c.aB+1)]) c.drain).cells a2 c2) 3 Z Z) Z (L':=[av aN 2 a2 (c.ms ++ [(n,c.aB+1)]).length c2 (flat aC (c.ms ++ [(n,c.aB+1)]))]) (by rw[hlen,ik];exact(IP 0 Z aa.nil).ah) Mh)
theorem Yk(h:aP aC 2 Fr w a c.ms)(hl:c.ms.length≤1000000)(n:Int):aq Tryz.prog 296 [.agg (c.cells a cap).toArray,.int .i64 n] Fr w [] (vI (jP c n)):=by
 have hpl:=s3 c.ms n
 refine TF 39 Tryz.func296 Z ym aw Z Z ?_
 refine CS (CG (VG (VB (vs:=c.cells a cap) Z fun b=>VG (VO.alloc Z fun b4=>?_))))
 refine ae ?_
 refine tr ?_
 refine Fa ?_
 rintro _ _ ⟨ma,mc,rfl,rfl⟩
 by_cases hf:fX c=0
 rotate_left
 ·have hf2:kL c=(eG,2):=by rw[kL,if_pos hf]
  rw[hf2]
  refine au ?_
  refine Fb ?_
  refine au ?_
  refine VC.dd Z (fun _=>?_) (fun e=>absurd e yn)
  refine qX ?_
  refine au ?_
  refine tF ?_
  exact CR (al.cJ 4 5 Z Z Z (an.many (ds:=eG.cells none 0) 1 Z Z) Z (L':=[av aN 2 none 0 0 (flat aC [])]) (aa.cN aa.nil).ah (by rw[jP,if_pos hf];exact⟨none,0,Z,Z⟩))
 have hf2:kL c=(⟨c.aB+1,c.ms,c.drain⟩,0):=by rw[kL,if_neg Bx]
 obtain⟨hce,hep⟩:=zg hf
 obtain⟨g1,g2,g3,g4⟩:=oX hce
 have hM:¬fX c≠0:=by rw[hf];decide
 rw[hf2]
 refine au ?_
 refine Fe ?_
 refine au ?_
 refine VC.dd Z (fun e=>absurd Z e) (fun _=>CK ?_)
 refine FR ?_
 refine Lm ?_
 by_cases hlv:jD c n=0
 rotate_left
 ·rw[if_pos hlv]
  refine au ?_
  refine VC.dd Z (fun _=>?_) (fun e=>absurd e hlv)
  refine qX ?_
  refine au ?_
  refine tF ?_
  exact CR (al.cJ 4 5 Z Z Z (an.many (ds:=eG.cells none 0) 1 Z Z) Z (L':=[av aN 2 none 0 0 (flat aC [])]) (aa.cN aa.nil).ah (by rw[jP,if_neg hM,if_pos hlv];exact⟨none,0,Z,Z⟩))
 have hpp:¬placeOf c.ms n<0∧¬c.ms.length=1:=by
  unfold jD at hlv
  by_cases p:placeOf c.ms n<0
  ·rw[if_pos p] at hlv;exact absurd hlv yn
  ·refine⟨p,fun e=>?_⟩
   rw[if_neg p,if_pos e] at hlv;exact absurd hlv yn
 obtain⟨i,hi,hil⟩:∃i:Nat,placeOf c.ms n=i∧i<c.ms.length:=by
  rcases hpl with e | ⟨i,m,e,h2,_⟩
  ·omega
  ·exact⟨i,e,h2⟩
 rw[if_neg xB,hi]
 refine au ?_
 refine VC.dd Z (fun e=>absurd hlv e) (fun _=>CK ?_)
 refine iC ?_
 refine nH ?_
 refine VG (VK (Lc:=[av aN 2 ma c.ms.length mc (flat aC c.ms)]) (fun Fr w hF hw _=>QM Fr w (l:=c.ms) hil yd) Z Z ?_)
 rintro _ _ ⟨a2,c2,rfl,rfl⟩
 refine au ?_
 refine VG (VO.st 1 (cs':=(aW.mk (c.aB+1) (c.ms.eraseIdx i) c.drain).cells a2 c2) Z Z Z Z sd Z Z (VG (VN ?_)))
 refine CS (VC.cZ (σ:=Int) (fun d=>[(4,pV b4)]) (fun d=>[av aN 2 a2 (c.ms.eraseIdx i).length c2 (flat aC (c.ms.eraseIdx i)),pt b4 ((aW.mk (c.aB+1) (c.ms.eraseIdx i) d).cells a2 c2) cX]) (fun d=>d=if c.drain=n then -1 else c.drain) ?_ ?_)
 ·refine iC ?_
  refine CE Z (fun h5=>?_) (fun h5=>CK ?_)
  ·refine au ?_
   refine VG (VO.st 1 (cs':=(aW.mk (c.aB+1) (c.ms.eraseIdx i) (-1)).cells a2 c2) Z Z Z Z Bp Z Z ?_)
   refine au ?_
   exact⟨-1,by rw[if_pos h5],aF,(aZ [0,0]).ah⟩
  ·exact⟨c.drain,by rw[if_neg h5],aF,(aZ [0,0]).ah⟩
 rintro d hd
 have hW:jP c n=(⟨c.aB+1,c.ms.eraseIdx i,d⟩,0):=by rw[jP,if_neg hM,if_neg xB,hi,hd];rfl
 refine au ?_
 refine VG (VL 1 ((aW.mk (c.aB+1) (c.ms.eraseIdx i) d).cells a2 c2) Z Z Z Z ?_)
 refine VG (VT (vs:=(aW.mk (c.aB+1) (c.ms.eraseIdx i) d).cells a2 c2) (cs':=(aW.mk (c.aB+1) (c.ms.eraseIdx i) d).cells a2 c2) 1 Z Z Z Z (NR _) Z Z Z ?_)
 refine au ?_
 exact CR (al.cJ 4 5 Z Z Z (an.many (ds:=(aW.mk (c.aB+1) (c.ms.eraseIdx i) d).cells a2 c2) 1 Z Z) Z (L':=[av aN 2 a2 (c.ms.eraseIdx i).length c2 (flat aC (c.ms.eraseIdx i))]) (IP 0 Z aa.nil).ah Mh)
theorem Ox(h:aP aC 2 Fr w a c.ms)(hl:c.ms.length≤1000000)(n:Int):aq Tryz.prog 254 [.agg (c.cells a cap).toArray,.int .i64 n] Fr w [] (vI (ic c n)):=by
 have hpl:=s3 c.ms n
 refine TF 32 Tryz.func254 Z ym aw Z Z ?_
 refine CS (CG (VG (VB (vs:=c.cells a cap) Z fun b=>VG (VO.alloc Z fun b4=>?_))))
 refine ae ?_
 refine tr ?_
 refine Fa ?_
 rintro _ _ ⟨ma,mc,rfl,rfl⟩
 by_cases hf:fX c=0
 rotate_left
 ·have hf2:kL c=(eG,2):=by rw[kL,if_pos hf]
  rw[hf2]
  refine au ?_
  refine Fb ?_
  refine au ?_
  refine VC.dd Z (fun _=>?_) (fun e=>absurd e yn)
  refine qX ?_
  refine au ?_
  refine tF ?_
  exact CR (al.cJ 4 5 Z Z Z (an.many (ds:=eG.cells none 0) 1 Z Z) Z (L':=[av aN 2 none 0 0 (flat aC [])]) (aa.cN aa.nil).ah (by rw[ic,if_pos hf];exact⟨none,0,Z,Z⟩))
 have hf2:kL c=(⟨c.aB+1,c.ms,c.drain⟩,0):=by rw[kL,if_neg Bx]
 obtain⟨hce,hep⟩:=zg hf
 obtain⟨g1,g2,g3,g4⟩:=oX hce
 have hM:¬fX c≠0:=by rw[hf];decide
 rw[hf2]
 refine au ?_
 refine Fe ?_
 refine au ?_
 refine VC.dd Z (fun e=>absurd Z e) (fun _=>CK ?_)
 refine FR ?_
 refine Lm ?_
 by_cases hlv:jD c n=0
 rotate_left
 ·rw[if_pos hlv]
  refine au ?_
  refine VC.dd Z (fun _=>?_) (fun e=>absurd e hlv)
  refine qX ?_
  refine au ?_
  refine tF ?_
  exact CR (al.cJ 4 5 Z Z Z (an.many (ds:=eG.cells none 0) 1 Z Z) Z (L':=[av aN 2 none 0 0 (flat aC [])]) (aa.cN aa.nil).ah (by rw[ic,if_neg hM,if_pos hlv];exact⟨none,0,Z,Z⟩))
 rw[if_neg xB]
 refine au ?_
 refine VC.dd Z (fun e=>absurd hlv e) (fun _=>CK ?_)
 refine au ?_
 refine VG (VO.ld 2 Z Z Z Z ?_)
 refine au ?_
 refine VC.dd Z (fun h5=>?_) (fun h5=>CK ?_)
 ·refine qX ?_
  refine tF ?_
  exact CR (al.cJ 4 5 Z Z Z (an.many (ds:=eG.cells none 0) 1 Z Z) Z (L':=[av aN 2 none 0 0 (flat aC [])]) (aa.cN aa.nil).ah (by rw[ic,if_neg hM,if_neg xB,if_pos h5];exact⟨none,0,Z,Z⟩))
 have hW:ic c n=(⟨c.aB+1,c.ms,n⟩,0):=by rw[ic,if_neg hM,if_neg xB,if_neg yd]
 refine au ?_
 refine VG (VO.st 1 (cs':=(aW.mk (c.aB+1) c.ms n).cells ma mc) Z Z Z Z Bp Z Z ?_)
 refine au ?_
 refine VG (VL 1 ((aW.mk (c.aB+1) c.ms n).cells ma mc) Z Z Z Z ?_)
 refine VG (VT (vs:=(aW.mk (c.aB+1) c.ms n).cells ma mc) (cs':=(aW.mk (c.aB+1) c.ms n).cells ma mc) 1 Z Z Z Z (NR _) Z Z Z ?_)
 refine au ?_
 exact CR (al.cJ 4 5 Z Z Z (an.many (ds:=(aW.mk (c.aB+1) c.ms n).cells ma mc) 1 Z Z) Z (L':=[av aN 2 ma c.ms.length mc (flat aC c.ms)]) (IP 0 Z aa.nil).ah (by rw[hW];exact⟨ma,mc,Z,Z⟩))
end
end Cl
namespace Cl
open Go Vg T Api Ch Rep
attribute [local irreducible] VO VC VA
abbrev lz:TypeId:=137
def iJ(m:aJ):List Value:=m.heard.map (Value.int .i64)
def nG(m:aJ):List Value:=m.whole.map Value.bool
def cq(m:aJ)(a:Option Addr)(c:Nat):List Value:=[.int .i64 m.nodes,.int .i64 m.ei]++m.ch.cells a c++iJ m++nG m
structure aJ.Ok(m:aJ):Prop where
 n0:1≤m.nodes
 n1:m.nodes≤6
 p0:0≤m.ei
 p1:m.ei≤1000000
 ml:m.ch.ms.length≤7
 mr:∀x∈m.ch.ms,0≤x.1∧x.1<6
 hl:m.heard.length=6
 wl:m.whole.length=6
 hr:∀x∈m.heard,0≤x∧x≤1099511627776
abbrev e9:=dX×(Option Addr×Nat)
def cS(x:e9):List Value:=.int .i64 x.1.1::x.1.2.1.cells (x.2.1,x.1.2.2.length,x.2.2)
theorem Ak(x:e9):(cS x).length=30:=rfl
def gv(x:e9):HP:=av aN 2 x.2.1 x.1.2.2.length x.2.2 (flat aC x.1.2.2)
def lD(S:List dX)(v:Value)(L:List HP)(H:List HP):Prop:=∃(X:List e9) (a:Option Addr) (c:Nat),X.map Prod.fst=S∧v=.slice a X.length c∧L=H++(av e8 30 a X.length c (flat cS X)::X.map gv)
theorem Iz{c:aW}{a:Option Addr}{cap:Nat}(h:aP aC 2 Fr w a c.ms)(hl:c.ms.length≤1000000):aq Tryz.prog 102 [.agg (c.cells a cap).toArray] Fr w []
  (fun v L=>∃a' c',v=.agg (c.cells a' c').toArray∧L=[av aN 2 a' c.ms.length c' (flat aC c.ms)]):=by
 refine TF 8 Tryz.func102 Z ym aw Z Z ?_
 refine CS (CG (VG (VB (vs:=c.cells a cap) Z (fun b=>VG (VO.alloc Z fun d=>VG (VN ?_))))))
 refine cF ?_
 refine K9 ?_
 refine VG (VO.append (m:=c.ms.length) (news:=flat aC c.ms) 0 Z Z Z Z Z Z Z (aP.row cj h) (oa sV _) L_ yd fun a' c' _=>?_)
 rw[bZ,kW]
 refine aj ?_
 refine VG (VO.st 2 (cs':=c.cells a' c') Z Z Z Z sd Z Z (VG (VN ?_)))
 refine CS (CG (VG (VL 2 (c.cells a' c') Z Z Z Z (VG (VT (vs:=c.cells a' c') (cs':=c.cells a' c') 1 Z Z Z Z (NR _) Z Z Z (VG (VN ?_)))))))
 exact E5
theorem Dq(n:Int):aq Tryz.prog 243 [.int .i64 n] Fr w [] (fun v L=>v=.int .i64 (cV n)∧L=[]):=by
 refine TF 6 Tryz.func243 Z ym aw Z Z ?_
 refine ae ?_
 exact CR (al.int 2 Z Z Mi ER ⟨rfl,Z⟩)
section
variable {p:Nat} {M:aJ} {a:Option Addr} {c:Nat}
theorem IF(ok:M.Ok)(h:a7 Fr w p (cq M a c)):aq Tryz.prog 101 [.pointer (some ⟨p,0,none⟩)] Fr w [] (fun v L=>v=.bool true∧L=[]):=by
 have:=ok.n0
 refine TF 12 Tryz.func101 Z ym aw Z Z ?_
 refine BG ?_
 refine g_ ?_
 exact CR (al.bool (b:=true) 2 Z Z (DT yd) ER ⟨rfl,Z⟩)
theorem ID(h:a7 Fr w p (cq M a c))(n:Int):aq Tryz.prog 303 [.pointer (some ⟨p,0,none⟩),.int .i64 n] Fr w [] (fun v L=>v=.bool (M.isNode n)∧L=[]):=by
 refine TF 15 Tryz.func303 Z ym aw Z Z ?_
 refine au ?_
 by_cases h1:0≤n
 ·refine VG (VY 7 true Z (DT h1) ?_)
  refine g_ ?_
  exact CR (al.bool 4 Z Z (by rw[aJ.isNode,DT h1];rfl) ER ⟨rfl,Z⟩)
 ·refine VG (VY 7 false Z (DF h1) ?_)
  refine au ?_
  exact CR (al.bool 4 Z Z (by rw[aJ.isNode,DF h1];rfl) ER ⟨rfl,Z⟩)
theorem QF:((cq M a c).drop 2).take 3=M.ch.cells a c:=rfl
theorem IG(ok:M.Ok)(h:a7 Fr w p (cq M a c))(hm:aP aC 2 Fr w a M.ch.ms)(n:Int):aq Tryz.prog 251 [.pointer (some ⟨p,0,none⟩),.int .i64 n] Fr w [] (fun v L=>v=.bool (dm M.ch n).2∧L=[]):=by
 have hl:=ok.ml
 refine TF 17 Tryz.func251 Z ym aw Z Z ?_
 refine au ?_
 refine Ff ?_
 refine au ?_
 refine VG (VV (fun Fr w hF hw _=>Ek Fr w (hm.of hF hw) yd n) Z ?_)
 refine au ?_
 exact tx
theorem Dk(ok:M.Ok)(h:a7 Fr w p (cq M a c))(hm:aP aC 2 Fr w a M.ch.ms)(toQ:Int):aq Tryz.prog 297 [.pointer (some ⟨p,0,none⟩),.int .i64 toQ] Fr w []
  (fun v L=>∃g,v=.agg (cS (gp M.ch toQ,g)).toArray∧L=[gv (gp M.ch toQ,g)]):=by
 have hl:=ok.ml
 refine TF 13 Tryz.func297 Z ym aw Z Z ?_
 refine CS (CG (VG (VO.alloc Z fun d=>?_)))
 refine au ?_
 refine Ff ?_
 refine Ln ?_
 rintro _ _ ⟨ma,mc,rfl,rfl⟩
 refine VG (VI (LB (pv:=[(0,.int .i64 8),(11,.agg (M.ch.cells ma mc).toArray)]) ((ke M.ch).cells (ma,M.ch.ms.length,mc)) Z Z Z ym Z) ?_)
 refine VG (VI (LB (pv:=[(0,.int .i64 toQ),(1,.agg ((ke M.ch).cells (ma,M.ch.ms.length,mc)).toArray)]) (cS (gp M.ch toQ,(ma,mc))) Z Z Z ym Z) ?_)
 refine VG (VT (vs:=cS (gp M.ch toQ,(ma,mc))) (cs':=cS (gp M.ch toQ,(ma,mc))) 1 Z Z Z Z (NR _) Z Z Z ?_)
 refine au ?_
 exact CR (al.cell 4 Z Z Z (an.many 1 Z Z) (IP 0 Z aa.nil).ah ⟨(ma,mc),Z,Z⟩)
theorem sU(ok:M.Ok):(cq M a c).length=17:=by
 show(_::_::_::_::_::(iJ M++nG M)).length=17
 simp[iJ,nG,ok.hl,ok.wl]
theorem QI(ok:M.Ok){k:Nat}{b:Bool}(h:M.whole[k]?=some b):(cq M a c)[11+k]?=some (.bool b):=by
 have hh:(iJ M).length=6:=by simp[iJ,ok.hl]
 show(_::_::_::_::_::(iJ M++nG M))[11+k]?=_
 rw[show 11+k=(6+k)+1+1+1+1+1 from by omega]
 simp only[pZ]
 rw[vp yd,hh,show 6+k-6=k from by omega,nG,dH,h];rfl
theorem Is(ok:M.Ok){k:Nat}{b:Int}(h:M.heard[k]?=some b):(cq M a c)[5+k]?=some (.int .i64 b):=by
 have hk:=(cH.1 h).1
 rw[ok.hl] at hk
 have hh:(iJ M).length=6:=by simp[iJ,ok.hl]
 show(_::_::_::_::_::(iJ M++nG M))[5+k]?=_
 rw[show 5+k=k+1+1+1+1+1 from by omega]
 simp only[pZ]
 rw[tJ yd,iJ,dH,h];rfl
theorem zx(ok:M.Ok){k:Nat}(hk:k<6)(b:Bool):(cq M a c).set (11+k) (.bool b)=cq { M with whole:=M.whole.set k b } a c:=by
 have hh:(iJ M).length=6:=by simp[iJ,ok.hl]
 show(_::_::_::_::_::(iJ M++nG M)).set (11+k) _=_::_::_::_::_::(iJ M++nG { M with whole:=M.whole.set k b })
 rw[show 11+k=(6+k)+1+1+1+1+1 from by omega]
 simp only[vt]
 rw[List.set_append_right _ _ yd,hh,show 6+k-6=k from by omega,nG,nG,gJ]
theorem It(ok:M.Ok){k:Nat}(hk:k<6)(b:Int):(cq M a c).set (5+k) (.int .i64 b)=cq { M with heard:=M.heard.set k b } a c:=by
 have hh:(iJ M).length=6:=by simp[iJ,ok.hl]
 show(_::_::_::_::_::(iJ M++nG M)).set (5+k) _=_::_::_::_::_::(iJ { M with heard:=M.heard.set k b } ++ nG M)
 rw[show 5+k=k+1+1+1+1+1 from by omega]
 simp only[vt]
 rw[List.set_append_left _ _ yd,iJ,iJ,gJ]
theorem aJ.Ok.AE(ok:M.Ok){n:Int}(h:0≤n∧n<6):∃k:Nat,n=k∧k<6∧M.whole[k]?=some (M.tp n):=by
 obtain⟨k,rfl⟩:∃k:Nat,n=k:=⟨n.toNat,by omega⟩
 refine⟨k,Z,by omega,?_⟩
 have hk:k<M.whole.length:=by rw[ok.wl];omega
 unfold aJ.tp
 rw[fy,GE hk];rfl
theorem aJ.Ok.Pt(ok:M.Ok){n:Int}(h:0≤n∧n<6):∃k:Nat,n=k∧k<6∧M.heard[k]?=some (M.pe n)∧0≤M.pe n∧M.pe n≤1099511627776:=by
 obtain⟨k,rfl⟩:∃k:Nat,n=k:=⟨n.toNat,by omega⟩
 have hk:k<M.heard.length:=by rw[ok.hl];omega
 have e:M.heard[k]?=some (M.pe (k:Int)):=by
  unfold aJ.pe
  rw[fy,GE hk];rfl
 exact⟨k,Z,by omega,e,ok.hr _ (ME e)⟩
theorem Dn(ok:M.Ok)(h:a7 Fr w p (cq M a c))(hm:aP aC 2 Fr w a M.ch.ms)(n:Int):aq Tryz.prog 244 [.pointer (some ⟨p,0,none⟩),.int .i64 n] Fr w [] (fun v L=>v=.bool (M.lV n)∧L=[]):=by
 have hl:=ok.ml
 refine TF 31 Tryz.func244 Z ym aw Z Z ?_
 refine me ?_
 refine VC.loop (σ:=Nat) (fun k=>[(0,pV p),(1,.int .i64 n),(11,.slice a M.ch.ms.length c),(12,.int .i64 M.ch.ms.length),(13,.int .i64 (k:Int))]) (fun _=>[]) (fun k=>k≤M.ch.ms.length∧(M.ch.ms.take k).any (fun x=>!decide (x.1=n)&&M.tp x.1)=false) (fun k=>M.ch.ms.length-k) 0
  ⟨bK _,by rw[p5];rfl⟩ aF ER ?_
 rintro k ⟨hk,hno⟩
 refine ae ?_
 refine CP (p:=(k:Int)<M.ch.ms.length) Z (fun h1=>CK ?_) (fun h1=>CX ?_)
 rotate_left
 ·rw[p4 yd] at hno
  refine ae ?_
  exact CR (al.tmp 4 Z Z aa.nil.ah ⟨by rw[aJ.lV,hno],Z⟩)
 obtain⟨x,hx⟩:∃x,M.ch.ms[k]?=some x:=⟨_,GE yd⟩
 obtain⟨xb,xo,hxa,ra,rc⟩:=aP.rd (X:=⟨Tryz.prog,tab,aw,31,Fr,w⟩) hm hx
 subst hxa
 obtain⟨j,hj,hj6,hw⟩:=ok.AE (ok.mr x (ME hx))
 have next:(!decide (x.1=n)&&M.tp x.1)=false→(M.ch.ms.take (k+1)).any (fun x=>!decide (x.1=n)&&M.tp x.1)=false:=fun e=>by
  rw[fS,hx,List.any_append,hno];simpa using e
 refine nM ?_
 refine tq ?_
 refine VG (VO.alloc Z fun b6=>?_)
 refine VG (VT (vs:=aC x) (cs':=aC x) 0 Z Z Z Z (NR _) Z Z Z ?_)
 refine ae ?_
 refine CD (ts 0 13 .nil) ym yo ?_
 refine dF ?_
 by_cases h2:x.1=n
 ·refine AG (AY 21 false Z (by rw[bne_eq_false_iff_eq];exact h2) ?_)
  refine dF ?_
  refine qT ?_
  refine pQ ?_
  exact⟨k+1,⟨by omega,next (by rw[DT h2];rfl)⟩,by dsimp only;omega,SC Z (SC Z (SC Z (SC Z (Sub.int Z yd (SN _))))),aa.nil.ah⟩
 refine AG (AY 21 true Z (by rw[bne_iff_ne];exact h2) ?_)
 refine dF ?_
 refine AG (AI Z (iu j Z Z Z Z Z hj yd) ?_)
 refine AG (VA.load Z Z Z (an.ar h (v:=.bool (M.tp x.1)) (by show(cq M _ c)[11+j*1]?=_;rw[oO];exact QI ok hw)) ?_)
 refine dF ?_
 refine CC Z (fun h3=>?_) (fun h3=>CK ?_)
 ·refine ae ?_
  refine CR (al.tmp 4 Z Z aa.nil.ah ⟨?_,Z⟩)
  have:M.lV n=true:=by
   rw[aJ.lV,List.any_eq_true]
   exact⟨x,ME hx,by rw[DF h2,h3];rfl⟩
  rw[this]
 refine fx ?_
 exact⟨k+1,⟨by omega,next (by rw[h3,gj])⟩,by dsimp only;omega,SC Z (SC Z (SC Z (SC Z (Sub.int Z yd (SN _))))),aa.nil.ah⟩
theorem sG{n k b M:Nat}(h:n≤k)(hk:k*b≤M):n*b≤M:=p6 (so b h) hk
theorem aa.last{H:HP}{L:List HP}:aa (H::L) (L ++ [H]):=aa.perm (by simpa using(hU (l₁:=[H]) (l₂:=L)))
theorem wA(ok:M.Ok)(h:a7 Fr w p (cq M a c))(hm:aP aC 2 Fr w a M.ch.ms):aq Tryz.prog 246 [.pointer (some ⟨p,0,none⟩)] Fr w [] (fun v L=>lD M.all v L []):=by
 have hn0:=ok.n0
 have hn1:=ok.n1
 refine TF 20 Tryz.func246 Z ym aw Z Z ?_
 refine ae ?_
 refine VC.loop (σ:=List e9×Option Addr×Nat) (fun x=>[(0,pV p),(3,.slice x.2.1 x.1.length x.2.2),(4,.int .i64 x.1.length)]) (fun x=>av e8 30 x.2.1 x.1.length x.2.2 (flat cS x.1)::x.1.map gv) (fun x=>x.1.length≤M.nodes.toNat∧x.1.map Prod.fst=(List.range x.1.length).map fun(n:Nat)=>gp M.ch (n:Int)) (fun x=>M.nodes.toNat-x.1.length) ([],none,0)
  ⟨bK _,rfl⟩ aF (aa.cN aa.nil).ah ?_
 rintro⟨X,sa,sc⟩ ⟨hk,hX⟩
 dsimp only at hk hX ⊢
 refine me ?_
 refine CP (p:=(X.length:Int)<M.nodes) Z (fun h1=>CK ?_) (fun h1=>CX ?_)
 rotate_left
 ·refine ae ?_
  refine CR (al.tmp 2 Z Z ER ⟨X,sa,sc,?_,Z,Z⟩)
  rw[hX,aJ.all,show M.nodes.toNat=X.length from by omega]
 refine ae ?_
 refine VG (VK (Lc:=[]) (fun Fr w hF hw _=>Dk Fr w ok (h.of hF hw) (hm.of hF hw) X.length) Z Z ?_)
 rintro _ _ ⟨g,rfl,rfl⟩
 refine VG (VO.buildSlice (pv:=[(0,.agg (cS (gp M.ch X.length,g)).toArray)]) (cS (gp M.ch X.length,g)) Z Z Z Z yn (fN Z Z Z) fun sb=>?_)
 refine VG (VO.append (m:=1) (news:=cS (gp M.ch X.length,g)) 2 Z Z Z Z Z Z Z (dN.pt 0 Z Z Z) Z (sG (k:=1000) yd yn) yd fun a2 c2 hc2=>?_)
 refine fx ?_
 have hlen:(X ++ [(gp M.ch X.length,g)]).length=X.length+1:=by simp
 refine⟨(X ++ [(gp M.ch X.length,g)],a2,c2),⟨by dsimp only;omega,?_⟩,by dsimp only;omega,SC Z (SC (by dsimp only;rw[hlen];rfl) (Sub.int Z yp (SN _))),?_⟩
 ·dsimp only
  rw[hlen,fA,hX,tK,fA];rfl
 ·dsimp only
  rw[hlen,ik,fA]
  exact(aa.cons (aa.tl.trans aa.last)).ah
end
end Cl
namespace Cl
open Go Vg T Api Ch Rep
attribute [local irreducible] VO VC VA
def ly(p:Nat)(M:aJ)(a:Option Addr)(c:Nat):List HP:=[pt p (cq M a c) lz,av aN 2 a M.ch.ms.length c (flat aC M.ch.ms)]
def bQ(p:Nat)(M:aJ):HP:=hex fun x:Option Addr×Nat=>b_ (ly p M x.1 x.2)
theorem aY.aU(p:Nat)(M:aJ):aY (ι:=Option Addr×Nat) (bQ p M) (fun _=>True) (fun x=>ly p M x.1 x.2):=fun w ids ⟨x,h⟩ hn=>⟨x,trivial,ids,h,hn,fun _ h=>h⟩
theorem aa.aU{p:Nat}{M:aJ}{L K:List HP}(x:Option Addr×Nat)(h:aa L (ly p M x.1 x.2++K)):aa L (bQ p M::K):=aa.ex (f:=fun x:Option Addr×Nat=>b_ (ly p M x.1 x.2)) x (aa.sep h)
theorem aa.Ci{R A:List HP}:aa (R++A) A:=aa.app (M:=[]) aa.nil aa.refl
theorem sA{p:Nat}{M:aJ}{a:Option Addr}{c:Nat}{A R:List HP}:aa (A++(ly p M a c++R)) (bQ p M::A):=
 (aa.perm hU).trans (aa.aU (a,c) ((aa.of_eq (eV _ _ _)).trans (aa.app aa.refl aa.Ci)))
theorem vU{α:Type}(c:α→List Value)(x:α):flat c [x]=c x:=by simp[flat]
theorem DG{p:Nat}{M:aJ}{a:Option Addr}{c:Nat}{x:e9}{sb:Nat}{R:List HP}:aa (pt sb (cS x) e8::gv x::(ly p M a c++R)) (bQ p M::av e8 30 (some ⟨sb,0,none⟩) 1 1 (flat cS [x]) :: [x].map gv):=by
 rw[vU]
 exact(aa.Aq (n:=1) (by rw[Ak]) (aa.refl (L:=pt sb (cS x) e8::gv x::(ly p M a c++R)))).trans (sA (A:=[_,_]))
theorem pw{p:Nat}{M:aJ}{a:Option Addr}{c:Nat}{R:List HP}:aa (ly p M a c++R) (bQ p M::av e8 30 none 0 0 (flat cS [])::([]:List e9).map gv):=
 (aa.cN (aa.refl (L:=ly p M a c++R))).trans (sA (A:=[av e8 30 none 0 0 []]))
theorem uK{v:Value}{L H:List HP}(hv:v=.slice none 0 0)(hL:L=H++(av e8 30 none 0 0 (flat cS [])::([]:List e9).map gv)):lD [] v L H:=⟨[],none,0,rfl,hv,hL⟩
theorem An{v:Value}{L H:List HP}{x:e9}{sb:Nat}(hv:v=.slice (some ⟨sb,0,none⟩) 1 1)(hL:L=H++(av e8 30 (some ⟨sb,0,none⟩) 1 1 (flat cS [x]) :: [x].map gv)):lD [x.1] v L H:=⟨[x],some ⟨sb,0,none⟩,1,rfl,hv,hL⟩
theorem RN{ms:List bj}{n:Int}(h:0≤placeOf ms n):∃(i:Nat) (m:bj),placeOf ms n=i∧i<ms.length∧ms[i]?=some m∧m.1=n:=by
 rcases s3 ms n with e | h
 ·omega
 ·exact h
theorem Qv{c:aW}{n:Int}(h:jD c n=0):0≤placeOf c.ms n∧c.ms.length≠1:=by
 unfold jD at h
 by_cases p:placeOf c.ms n<0
 ·rw[if_pos p] at h;exact absurd h yn
 ·refine⟨by omega,fun e=>?_⟩
  rw[if_neg p,if_pos e] at h;exact absurd h yn
theorem Km{c:aW}{n:Int}(h:(jP c n).2=0):fX c=0∧jD c n=0∧jP c n=(⟨c.aB+1,c.ms.eraseIdx (placeOf c.ms n).toNat,if c.drain=n then -1 else c.drain⟩,0):=by
 unfold jP at h ⊢
 by_cases h1:fX c≠0
 ·rw[if_pos h1] at h;exact absurd h yn
 rw[if_neg h1] at h ⊢
 by_cases h2:jD c n≠0
 ·rw[if_pos h2] at h;exact absurd h h2
 rw[if_neg h2]
 exact⟨tH.1 h1,tH.1 h2,Z⟩
theorem Yg{c:aW}{n:Int}(h:(fJ c n).2=0):fX c=0∧pq n=true∧placeOf c.ms n<0∧fJ c n=(⟨c.aB+1,c.ms ++ [(n,c.aB+1)],c.drain⟩,0):=by
 unfold fJ at h ⊢
 by_cases h1:fX c≠0
 ·rw[if_pos h1] at h;exact absurd h yn
 rw[if_neg h1] at h ⊢
 by_cases h2:pq n=false
 ·rw[if_pos h2] at h;exact absurd h yn
 rw[if_neg h2] at h ⊢
 by_cases h3:0≤placeOf c.ms n
 ·rw[if_pos h3] at h;exact absurd h yn
 rw[if_neg h3]
 exact⟨tH.1 h1,by simpa using h2,by omega,Z⟩
theorem Ow{c:aW}{n:Int}(h:(ic c n).2=0):fX c=0∧jD c n=0∧c.drain=-1∧ic c n=(⟨c.aB+1,c.ms,n⟩,0):=by
 unfold ic at h ⊢
 by_cases h1:fX c≠0
 ·rw[if_pos h1] at h;exact absurd h yn
 rw[if_neg h1] at h ⊢
 by_cases h2:jD c n≠0
 ·rw[if_pos h2] at h;exact absurd h h2
 rw[if_neg h2] at h ⊢
 by_cases h3:c.drain≠-1
 ·rw[if_pos h3] at h;exact absurd h yn
 rw[if_neg h3]
 exact⟨tH.1 h1,tH.1 h2,tH.1 h3,Z⟩
theorem aJ.Ok.place{M:aJ}(ok:M.Ok){n:Int}(h:0≤placeOf M.ch.ms n):0≤n∧n<6:=by
 obtain⟨i,m,_,_,h2,rfl⟩:=RN h
 exact ok.mr m (ME h2)
theorem aJ.Ok.gone{M:aJ}(ok:M.Ok){n:Int}(h:M.nu n=0):(M.gone n).Ok:=by
 obtain⟨_,_,e⟩:=Km h
 have e1:(M.gone n).ch=⟨M.ch.aB+1,M.ch.ms.eraseIdx (placeOf M.ch.ms n).toNat,if M.ch.drain=n then -1 else M.ch.drain⟩:=by show(jP M.ch n).1=_;rw[e]
 refine⟨ok.n0,ok.n1,ok.p0,ok.p1,?_,?_,ok.hl,by show(M.whole.set _ _).length=6;rw[gk,ok.wl],ok.hr⟩
 ·rw[e1];exact p6 (List.length_eraseIdx_le _ _) ok.ml
 ·rw[e1];exact fun x hx=>ok.mr x (List.mem_of_mem_eraseIdx hx)
theorem aJ.Ok.out{M:aJ}(ok:M.Ok)(n:Int):(M.out n).Ok:=by
 unfold aJ.out
 split
 ·exact ok
 ·rename_i h;exact ok.gone (tH.1 h)
theorem qJ(n:Int):0≤cV n∧cV n≤1099511627776:=by unfold cV;omega
theorem aJ.Ok.fY{M:aJ}(ok:M.Ok)(n now:Int):(M.fY n now).Ok:=
 ⟨ok.n0,ok.n1,ok.p0,ok.p1,ok.ml,ok.mr,by show(M.heard.set _ _).length=6;rw[gk,ok.hl],ok.wl,fun x hx=>by
  rcases lI hx with h | h
  ·exact ok.hr x h
  ·rw[h];exact qJ now⟩
theorem aJ.Ok.wholeAt{M:aJ}(ok:M.Ok)(n:Int):(M.wholeAt n).Ok:=
 ⟨ok.n0,ok.n1,ok.p0,ok.p1,ok.ml,ok.mr,ok.hl,by show(M.whole.set _ _).length=6;rw[gk,ok.wl],ok.hr⟩
theorem aJ.Ok.take{M:aJ}(ok:M.Ok)(from_:Int)(f:aA)(now:Int):(M.take from_ f now).1.Ok:=by
 unfold aJ.take
 split
 ·exact ok
 split
 ·exact ok
 split
 ·split
  ·exact ok.fY _ _
  split
  ·exact(ok.fY _ _).wholeAt _
  ·exact ok.fY _ _
 split
 ·split
  ·exact ok
  split<;>exact ok
 split
 ·split
  ·rename_i h;exact ok.gone h.2.2
  ·exact ok
 ·exact ok
section
variable {p:Nat} {M:aJ}
theorem Dp(ok:M.Ok)(n:Int):aq Tryz.prog 245 [.pointer (some ⟨p,0,none⟩),.int .i64 n] Fr w [bQ p M] (fun v L=>v=.int .i64 (M.nu n)∧L=[bQ p (M.out n)]):=by
 have hl:=ok.ml
 refine TF 28 Tryz.func245 Z ym aw Z Z ?_
 refine xu ?_
 rintro⟨a,c⟩ -
 show VC _ _ _ (ly p M a c) _
 unfold ly
 refine aj ?_
 refine xv ?_
 refine aj ?_
 refine VG (VK (Lc:=[]) (fun Fr w hF hw hS=>Yk Fr w (c:=M.ch) (aP.av cj (hS.at_ 1 Z)) yd n) Z Z ?_)
 rintro _ _ ⟨wa,wc,rfl,rfl⟩
 refine au ?_
 refine VG (VO.alloc Z fun b5=>?_)
 refine VG (VT (vs:=(jP M.ch n).1.cells wa wc) (cs':=(jP M.ch n).1.cells wa wc) 0 Z Z Z Z (NR _) Z Z Z ?_)
 refine au ?_
 refine VC.dd Z (fun he=>?_) (fun he=>CK ?_)
 ·refine au ?_
  exact CR (al.tmp 4 Z Z (aa.aU (a,c) (IP 2 Z (IP 2 Z aa.nil))).ah ⟨rfl,by rw[aJ.out,if_pos (show M.nu n≠0 from he)]⟩)
 obtain⟨hf,hlv,hW⟩:=Km he
 obtain⟨k,hk,hk6,_⟩:=ok.AE (ok.place (Qv hlv).1)
 have ok1:=ok.gone he
 refine au ?_
 refine VG (VL 0 ((jP M.ch n).1.cells wa wc) Z Z Z Z ?_)
 refine au ?_
 refine VG (VT (vs:=(jP M.ch n).1.cells wa wc) (cs':=cq { M with ch:=(jP M.ch n).1 } wa wc) 2 Z Z Z Z FO Z Z Z ?_)
 refine au ?_
 have ok2:({ M with ch:=(jP M.ch n).1 }:aJ).Ok:=⟨ok1.n0,ok1.n1,ok1.p0,ok1.p1,ok1.ml,ok1.mr,ok.hl,ok.wl,ok.hr⟩
 have hg:cq (M.gone n) wa wc=cq { ({ M with ch:=(jP M.ch n).1 }:aJ) with whole:=M.whole.set k false } wa wc:=by rw[aJ.gone,show n.toNat=k from by omega]
 refine VG (VI (iu k Z Z Z Z Z hk hk6) ?_)
 refine VG (VO.st 2 (cs':=cq (M.gone n) wa wc) Z Z Z Z (by show 0+11+k*1<_;rw[sU ok2];omega) (by rw[hg,←zx ok2 hk6];show _=(cq _ wa wc).set (11+k) _;rw[show 11+k=0+11+k*1 from by omega];rfl) Z ?_)
 refine au ?_
 exact CR (al.int 4 Z Z he.symm (aa.aU (M:=M.gone n) (wa,wc) (IP 2 Z (IP 1 Z aa.nil))).ah ⟨rfl,by rw[aJ.out,if_neg (by rw[show M.nu n=0 from he];decide)]⟩)
end
end Cl
namespace Cl
open Go Vg T Api Ch Rep Rd
attribute [local irreducible] VO VC VA
section
variable {p:Nat} {M:aJ}
theorem aJ.HN{n:Int}(ok:M.Ok)(h:M.isNode n=true):0≤n∧n<6:=by
 have:=ok.n1
 unfold aJ.isNode at h
 simp only[dG,decide_eq_true_eq] at h
 omega
theorem Q4(ok:M.Ok)(from_:Int)(f:aA)(g:gM)(now:Int):aq Tryz.prog 301 [.pointer (some ⟨p,0,none⟩),.int .i64 from_,.agg (f.cells g).toArray,.int .i64 now] Fr w [bQ p M]
  (fun v L=>lD (M.take from_ f now).2 v L [bQ p (M.take from_ f now).1]):=by
 have hl:=ok.ml
 unfold aJ.take
 refine TF 112 Tryz.func301 Z ym aw Z Z ?_
 refine CS (CG (VG (VB (vs:=f.cells g) Z fun fb=>VG (VN ?_))))
 refine VC.bu 1 Z (aY.aU p M) ?_
 rintro⟨a,c⟩ -
 show VC _ _ _ [pt p (cq M a c) lz,av aN 2 a M.ch.ms.length c (flat aC M.ch.ms),pt fb (f.cells g) bM] _
 refine ae ?_
 refine xw ?_
 refine pR ?_
 refine gh ?_
 refine CE Z (fun k7=>?_) (fun k7=>CK ?_)
 ·rw[if_pos k7]
  refine ae ?_
  refine Lo ?_
  rintro _ _ ⟨y,rfl,rfl⟩
  refine VG (VO.buildSlice (pv:=[(0,.agg (cS (gp M.ch from_,y)).toArray)]) (cS (gp M.ch from_,y)) Z Z Z Z yn (fN Z Z Z) fun sb=>?_)
  refine ae ?_
  exact Lp
 rw[if_neg k7]
 refine ae ?_
 refine VG (VV (fun Fr w hF hw hS=>ID Fr w (hS.ar 0 Z) from_) Z ?_)
 refine ae ?_
 refine VC.ey Z (fun hn=>?_) (fun hn=>CK ?_)
 ·rw[if_pos hn]
  refine ae ?_
  exact u3
 rw[if_neg (by rw[hn];decide)]
 obtain⟨j,hj,hj6,hwj⟩:=ok.AE (aJ.HN ok hn)
 refine ae ?_
 refine CD (ts 0 9 .nil) ym yo ?_
 refine gF ?_
 refine gh ?_
 refine CE Z (fun k11=>?_) (fun k11=>?_)
 ·rw[if_pos k11]
  refine ae ?_
  refine CD (ts 0 3 (ts 4 2 (.only 3 (.take 6 (.only 7 .nil))))) ym yo ?_
  refine cG ?_
  refine AG (AR (fun Fr w hF hs hS=>Dq Fr w now) Z Z yv ?_)
  refine Fg ?_
  refine AG (VA.st 0 (cs':=cq (M.fY from_ now) a c) Z Z Z Z Z (by show 0+5+j*1<_;rw[sU ok];omega) (by rw[aJ.fY,show from_.toNat=j from by omega,←It ok hj6];show(cq M a c).set (0+5+j*1) _=_;rw[show 0+5+j*1=5+j from by omega]) Z yv ?_)
  have ok1:=ok.fY from_ now
  refine cG ?_
  show VC _ _ _ [pt p (cq (M.fY from_ now) a c) lz,av aN 2 a (M.fY from_ now).ch.ms.length c (flat aC (M.fY from_ now).ch.ms),pt fb (f.cells g) bM] _
  refine ae ?_
  by_cases he:f.aB=M.ch.aB
  rotate_left
  ·rw[if_pos he]
   refine VC.ey (t:=false) Mj (fun _=>?_) (fun e=>Bool.noConfusion e)
   refine ae ?_
   refine VG (VK (Lc:=[]) (fun Fr w hF hw hS=>Dk (M:=M.fY from_ now) Fr w ok1 (hS.ar 0 Z) (aP.av cj (hS.at_ 1 Z)) from_) Z Z ?_)
   rintro _ _ ⟨y,rfl,rfl⟩
   refine VG (VO.buildSlice (pv:=[(0,.agg (cS (gp (M.fY from_ now).ch from_,y)).toArray)]) (cS (gp (M.fY from_ now).ch from_,y)) Z Z Z Z yn (fN Z Z Z) fun sb=>?_)
   refine ae ?_
   exact CR (al.tmp 8 Z Z (DG (M:=M.fY from_ now) (a:=a) (c:=c) (R:=[_])).ah (An (x:=(gp M.ch from_,y)) Z Z))
  rw[if_neg (fun h=>h he)]
  refine VC.ey (t:=true) (by rw[←beq_iff_eq.2 he];rfl) (fun e=>Bool.noConfusion e) (fun _=>CK ?_)
  have hsn:dm (M.fY from_ now).ch from_=dm M.ch from_:=rfl
  refine gh ?_
  by_cases hi:f.index=1
  rotate_left
  ·rw[if_neg (fun h=>hi h.1)]
   refine VG (VY 53 false Z (beq_eq_false_iff_ne.2 hi) ?_)
   refine si ?_
   exact Lq
  refine VG (VY 53 true Z (beq_iff_eq.2 hi) ?_)
  refine au ?_
  refine VG (VV (fun Fr w hF hw hS=>IG (M:=M.fY from_ now) Fr w ok1 (hS.ar 0 Z) (aP.av cj (hS.at_ 1 Z)) from_) Z ?_)
  refine au ?_
  refine CC Z (fun hm=>?_) (fun hm=>CK ?_)
  ·rw[if_pos ⟨hi,hm⟩]
   refine ae ?_
   refine VG (VI (iu j Z Z Z Z Z hj hj6) ?_)
   refine VG (VO.st 0 (cs':=cq ((M.fY from_ now).wholeAt from_) a c) Z Z Z Z (by show 0+11+j*1<_;rw[sU ok1];omega) (by rw[aJ.wholeAt,show from_.toNat=j from by omega,←zx ok1 hj6];show(cq (M.fY from_ now) a c).set (0+11+j*1) _=_;rw[show 0+11+j*1=11+j from by omega]) Z ?_)
   refine ae ?_
   exact CR (al.tmp 8 Z Z (pw (M:=(M.fY from_ now).wholeAt from_) (a:=a) (c:=c) (R:=[_])).ah (uK Z Z))
  ·rw[if_neg (fun h=>by rw[hsn] at hm;rw[hm] at h;cases h.2)]
   refine ae ?_
   exact Lq
 rw[if_neg k11]
 refine ae ?_
 refine CE Z (fun k9=>?_) (fun k9=>?_)
 ·rw[if_pos k9]
  refine ae ?_
  by_cases he:f.aB=M.ch.aB
  rotate_left
  ·rw[if_pos he]
   refine VC.ey (t:=false) Mj (fun _=>?_) (fun e=>Bool.noConfusion e)
   refine ae ?_
   refine Lo ?_
   rintro _ _ ⟨y,rfl,rfl⟩
   refine VG (VO.buildSlice (pv:=[(0,.agg (cS (gp M.ch from_,y)).toArray)]) (cS (gp M.ch from_,y)) Z Z Z Z yn (fN Z Z Z) fun sb=>?_)
   refine ae ?_
   exact Lp
  rw[if_neg (fun h=>h he)]
  refine VC.ey (t:=true) (by rw[←beq_iff_eq.2 he];rfl) (fun e=>Bool.noConfusion e) (fun _=>CK ?_)
  refine ae ?_
  refine xv ?_
  refine VG (VV (fun Fr w hF hw hS=>w7 Fr w (c:=M.ch) (aP.av cj (hS.at_ 1 Z)) yd) Z ?_)
  refine ae ?_
  refine CE Z (fun ht=>?_) (fun ht=>CK ?_)
  ·rw[if_pos ht]
   refine gh ?_
   refine VG (VI (LB (pv:=[(0,.int .i64 10),(1,.int .i64 f.aB),(12,.int .i64 f.index)]) ((nA f.aB f.index).cells (none,0,0)) Z Z Z ym Z) ?_)
   refine VG (VO.alloc Z fun b10=>?_)
   refine VG (VT (vs:=(nA f.aB f.index).cells (none,0,0)) (cs':=(nA f.aB f.index).cells (none,0,0)) 0 Z Z Z Z (NR _) Z Z Z ?_)
   refine ae ?_
   refine VG (VL 0 ((nA f.aB f.index).cells (none,0,0)) Z Z Z Z ?_)
   refine VG (VI (LB (pv:=[(0,.int .i64 from_),(1,.agg ((nA f.aB f.index).cells (none,0,0)).toArray)]) (cS ((from_,nA f.aB f.index,[]),(none,0))) Z Z Z ym Z) ?_)
   refine VG (VO.buildSlice (pv:=[(0,.agg (cS ((from_,nA f.aB f.index,[]),(none,0))).toArray)]) (cS ((from_,nA f.aB f.index,[]),(none,0))) Z Z Z Z yn (fN Z Z Z) fun sb=>?_)
   refine ae ?_
   refine CR (al.tmp 8 Z Z ?_ (An (x:=((from_,nA f.aB f.index,[]),(none,0))) (sb:=sb) Z Z))
   refine aa.ah (aa.trans (M:=pt sb (cS ((from_,nA f.aB f.index,[]),(none,0))) e8::gv ((from_,nA f.aB f.index,[]),(none,0))::(ly p M a c ++ [])) ?_ DG)
   exact IP 0 Z (aa.cN (aZ [1,1]))
  ·rw[if_neg ht]
   refine ae ?_
   exact u3
 rw[if_neg k9]
 refine ae ?_
 refine CE Z (fun k12=>?_) (fun k12=>CK ?_)
 rotate_left
 ·rw[if_neg k12]
  refine ae ?_
  exact u3
 rw[if_pos k12]
 refine ae ?_
 by_cases he:f.aB=M.ch.aB
 rotate_left
 ·rw[if_neg (fun h=>he h.1.1)]
  refine VG (VY 90 false Z (beq_eq_false_iff_ne.2 he) ?_)
  refine au ?_
  refine VG (VY 99 false Z Z ?_)
  refine au ?_
  refine VG (VY 104 false Z Z ?_)
  refine si ?_
  exact u3
 refine VG (VY 90 true Z (beq_iff_eq.2 he) ?_)
 refine gZ ?_
 by_cases hd:M.ch.drain=from_
 rotate_left
 ·rw[if_neg (fun h=>hd h.1.2)]
  refine VG (VY 99 false Z (beq_eq_false_iff_ne.2 hd) ?_)
  refine au ?_
  refine VG (VY 104 false Z Z ?_)
  refine si ?_
  exact u3
 refine VG (VY 99 true Z (beq_iff_eq.2 hd) ?_)
 refine au ?_
 refine VG (VV (fun Fr w hF hw hS=>Dn Fr w ok (hS.ar 0 Z) (aP.av cj (hS.at_ 1 Z)) from_) Z ?_)
 refine au ?_
 cases hg:M.lV from_ with
 | false=>
  rw[if_neg (fun h=>Bool.noConfusion h.2.1)]
  refine VG (VY 104 false Z Z ?_)
  refine si ?_
  exact u3
 | true=>
 refine VG (VY 104 true Z Z ?_)
 refine au ?_
 refine VO.ah (L':=[bQ p M] ++ [pt fb (f.cells g) bM]) (aa.aU (a,c) (aZ [0,0,0])).ah ?_
 refine VG (VK (Lc:=[bQ p M]) (fun Fr w hF hw hS=>Dp Fr w ok from_) Z Z ?_)
 rintro _ _ ⟨rfl,rfl⟩
 refine au ?_
 refine CE Z (fun ho=>?_) (fun ho=>CK ?_)
 ·rw[if_pos ⟨⟨he,hd⟩,rfl,ho⟩]
  have hout:M.out from_=M.gone from_:=by rw[aJ.out,if_neg (by rw[ho];decide)]
  rw[hout]
  have ok1:=ok.gone ho
  refine VC.bu 0 Z (aY.aU p (M.gone from_)) ?_
  rintro⟨a1,c1⟩ -
  show VC _ _ _ [pt p (cq (M.gone from_) a1 c1) lz,av aN 2 a1 (M.gone from_).ch.ms.length c1 (flat aC (M.gone from_).ch.ms),pt fb (f.cells g) bM] _
  refine ae ?_
  refine VG (VK (Lc:=[]) (fun Fr w hF hw hS=>wA (M:=M.gone from_) Fr w ok1 (hS.ar 0 Z) (aP.av cj (hS.at_ 1 Z))) Z Z ?_)
  rintro _ _ ⟨X,sa,sc,hX,rfl,rfl⟩
  refine ae ?_
  exact CR (al.tmp 8 Z Z (sA (p:=p) (M:=M.gone from_) (a:=a1) (c:=c1) (R:=[_])).ah ⟨X,sa,sc,hX,Z,Z⟩)
 ·rw[if_neg (fun h=>ho h.2.2)]
  have hout:M.out from_=M:=by rw[aJ.out,if_pos ho]
  rw[hout]
  refine ae ?_
  exact CR (al.tmp 8 Z Z ((aa.cN (aa.refl (L:=[bQ p M,pt fb (f.cells g) bM]))).trans (IP 1 Z (IP 0 Z aa.nil))).ah (uK Z Z))
end
end Cl
namespace Cl
open Go Vg T Api Ch Rep Rd
attribute [local irreducible] VO VC VA
def uJ(S:List dX)(e:Int)(v:Value)(L:List HP)(H:List HP):Prop:=∃(X:List e9) (a:Option Addr) (c:Nat),X.map Prod.fst=S∧v=.tuple #[.slice a X.length c,.int .i64 e]∧L=H++(av e8 30 a X.length c (flat cS X)::X.map gv)
theorem qG{v:Value}{e:Int}{L H:List HP}(hv:v=.tuple #[.slice none 0 0,.int .i64 e])(hL:L=H++(av e8 30 none 0 0 (flat cS [])::([]:List e9).map gv)):uJ [] e v L H:=⟨[],none,0,rfl,hv,hL⟩
theorem H4{X:Cx}{e:Env}{T:TypeId}{x:Operand}{xs:Array Value}{fs:Array Field}{g:Field}{f:Nat}{v:Value}(hT:X.P.underlying T=some (.struct fs))(hx:ev e x=some (.agg xs))(hf:fs[f]?=some g)
  (hp:∀w:World,(part g.type xs g.offset).run X.P w=.ok v w):eD X (.field T x f) e v:=by
 intro a ha dst ty pos after guard w
 have h:(Instr.field T (.agg xs) f).run X.P w=.ok v w:=by
  simp[Instr.field,run_underlying hT,hf,asAgg,hp w]
 simp[execOp,ha.ev hx,h]
section
variable {p:Nat} {M:aJ}
theorem an.aU{X:Cx}{L:List HP}{ti:TI}{M:aJ}{off:Nat}{v:Value}(i:Nat)(hL:L[i]?=some (bQ p M))(hv:∀a c,(cq M a c)[off]?=some v)(ha:ti.ax.agg=false:=by rfl):an X L ti p off v:=fun w hw=>by
 obtain⟨F,hs,_,_⟩:=hw.sat
 obtain⟨ids,hid,_⟩:=df.get hs hL
 obtain⟨x,i1,G,_,h1,_⟩:=hid
 rw[ha];exact D3 h1.2 (hv _ _)
theorem RA(M:aJ)(n:Int):(M.out n).ei=M.ei:=by unfold aJ.out;split<;>rfl
theorem Kk{now:Int}:∀(l:List bj) (x:aJ×Bool),x.1.Ok→(aJ.watch now l x).1.Ok
 | [],x,h=>h
 | y::l,x,h=>by
  rw[aJ.watch]
  refine Kk l _ ?_
  split
  ·rename_i hl
   simp only[aJ.late,dG,decide_eq_true_eq] at hl
   exact h.gone hl.2.2
  ·exact h
theorem aJ.Ok.tick(ok:M.Ok)(now:Int):(M.tick now).1.Ok:=Kk _ _ ok
theorem Q5(ok:M.Ok)(now:Int):aq Tryz.prog 191 [.pointer (some ⟨p,0,none⟩),.int .i64 now] Fr w [bQ p M]
  (fun v L=>lD (M.tick now).2 v L [bQ p (M.tick now).1]):=by
 have hl:=ok.ml
 have htk:=qJ now
 unfold aJ.tick
 generalize htn:cV now=tn at htk
 refine TF 56 Tryz.func191 Z ym aw Z Z ?_
 refine xu ?_
 rintro⟨a,c⟩ -
 show VC _ _ _ [pt p (cq M a c) lz,av aN 2 a M.ch.ms.length c (flat aC M.ch.ms)] _
 refine ae ?_
 refine xw ?_
 refine iR ?_
 refine VG (VV (fun Fr w hF hw hS=>Dq Fr w now) Z ?_)
 rw[htn]
 refine ae ?_
 refine xv ?_
 refine VG (VK (Lc:=[]) (fun Fr w hF hw hS=>Iz Fr w (c:=M.ch) (aP.av cj (hS.at_ 1 Z)) yd) Z Z ?_)
 rintro _ _ ⟨ca,cc,rfl,rfl⟩
 refine ae ?_
 refine VG (VI (H4 (v:=.slice ca M.ch.ms.length cc) Tryz.underlying91 Z Z (fun w=>rW (nS.look aw (t:=89) (ti:=T.t89) Z) Z Z w)) ?_)
 refine ae ?_
 have hml:=ok.ml
 have hmr:=ok.mr
 generalize hms:M.ch.ms=ms at hml hmr
 refine VC.bu 0 Z (aY.rl aN ca cc ms cj) ?_
 rintro⟨ra,rc,rb,rcs,rxs⟩ ⟨rok,rv,rx⟩
 dsimp only at rx
 subst rx
 injection rv with e1 _ e3
 subst e1 e3
 refine VC.loop (σ:=Nat×aJ×Bool) (fun x=>[(0,pV p),(1,.int .i64 tn),(18,.slice ra rxs.length rc),(19,.int .i64 rxs.length),(20,.int .i64 (x.1:Int)),(5,.bool x.2.2)]) (fun x=>[RL.h aN ⟨ra,rc,rb,rcs,rxs⟩,bQ p x.2.1])
  (fun x=>x.1≤rxs.length∧x.2.1.Ok∧aJ.watch tn (rxs.drop x.1) x.2=aJ.watch tn rxs (M,false)) (fun x=>rxs.length-x.1) (0,M,false)
  ⟨bK _,ok,rfl⟩ aF ?_ ?_
 ·refine(IP 0 Z (aa.aU (a,c) ?_)).ah
  unfold ly
  rw[hms]
  exact aa.refl
 rintro⟨k,M1,b⟩ ⟨hk,ok1,hW⟩
 dsimp only at hk ok1 hW ⊢
 refine ae ?_
 refine CP (p:=(k:Int)<rxs.length) Z (fun h1=>CK ?_) (fun h1=>CX ?_)
 rotate_left
 ·rw[List.drop_of_length_le yd] at hW
  rw[←hW]
  show VC _ _ _ _ _
  dsimp only[aJ.watch]
  refine ae ?_
  cases b with
  | false=>
   refine vg ?_
   exact CR (al.tmp 4 Z Z ((aa.cN (aa.refl (L:=[RL.h aN ⟨ra,rc,rb,rcs,rxs⟩,bQ p M1]))).trans (IP 2 Z (IP 0 Z aa.nil))).ah (uK Z Z))
  | true=>
   refine iQ ?_
   refine VC.bu 1 Z (aY.aU p M1) ?_
   rintro⟨a1,c1⟩ -
   show VC _ _ _ [pt p (cq M1 a1 c1) lz,av aN 2 a1 M1.ch.ms.length c1 (flat aC M1.ch.ms),RL.h aN ⟨ra,rc,rb,rcs,rxs⟩] _
   refine ae ?_
   refine VG (VK (Lc:=[]) (fun Fr w hF hw hS=>wA (M:=M1) Fr w ok1 (hS.ar 0 Z) (aP.av cj (hS.at_ 1 Z))) Z Z ?_)
   rintro _ _ ⟨X,sa,sc,hX,rfl,rfl⟩
   refine ae ?_
   exact CR (al.tmp 4 Z Z (sA (p:=p) (M:=M1) (a:=a1) (c:=c1) (R:=[_])).ah ⟨X,sa,sc,hX,Z,Z⟩)
 obtain⟨x,hx⟩:∃x,rxs[k]?=some x:=⟨_,GE yd⟩
 have hdr:rxs.drop k=x::rxs.drop (k+1):=by
  obtain⟨g1,g2⟩:=cH.1 hx
  rw[xG g1,g2]
 rw[hdr,aJ.watch] at hW
 obtain⟨j,hj,hj6,hh,hh0,hh1⟩:=ok1.Pt (hmr x (ME hx))
 have hp0:=ok1.p0
 have hp1:=ok1.p1
 obtain⟨tb,tof,htb,hta,hrd⟩:=RL.Ok.ld (t:=aN) (k:=k) (x:=x) rok hx (cj x)
 dsimp only at hta
 subst hta
 refine VC.bu 1 Z (aY.aU p M1) ?_
 rintro⟨a1,c1⟩ -
 show VC _ _ _ [pt p (cq M1 a1 c1) lz,av aN 2 a1 M1.ch.ms.length c1 (flat aC M1.ch.ms),RL.h aN ⟨some ⟨tb,tof,none⟩,rc,rb,rcs,rxs⟩] _
 refine CS (VC.cZ (σ:=aJ×Bool) (fun x=>[(0,pV p),(1,.int .i64 tn),(18,.slice (some ⟨tb,tof,none⟩) rxs.length rc),(19,.int .i64 rxs.length),(20,.int .i64 (k:Int)),(5,.bool x.2)]) (fun x=>[RL.h aN ⟨some ⟨tb,tof,none⟩,rc,rb,rcs,rxs⟩,bQ p x.1]) (fun y=>y.1.Ok∧y=if M1.late tn x.1 then (M1.gone x.1,true) else (M1,b)) ?_ ?_)
 rotate_left
 ·rintro⟨M2,b2⟩ ⟨ok2,hy⟩
  refine fx ?_
  exact⟨(k+1,M2,b2),⟨by omega,ok2,by dsimp only;rw[hy];exact hW⟩,by dsimp only;omega,SC Z (SC Z (SC Z (SC Z (Sub.int Z yp aF)))),ER⟩
 refine nM ?_
 refine VG (VO.load Z Z ((hrd 2 Z).1 _ Z Z) ?_)
 refine VG (VO.alloc Z fun b7=>?_)
 refine VG (VT (vs:=aC x) (cs':=aC x) 0 Z Z Z Z (NR _) Z Z Z ?_)
 refine ae ?_
 refine CD (ts 0 18 (.only 18 (ts 19 5 (.only 24 (ts 25 2 .nil))))) ym yo ?_
 refine nK ?_
 refine Fg ?_
 have hcell:(cq M1 a1 c1)[0+5+j*1]?=some (.int .i64 (M1.pe x.1)):=by rw[show 0+5+j*1=5+j from by omega];exact Is ok1 hh
 refine AG (VA.ld 1 Z Z Z Z hcell ?_)
 refine qP ?_
 refine nK ?_
 by_cases g1:M1.ei<tn-M1.pe x.1
 rotate_left
 ·refine AG (AY 38 false Z (DF g1) ?_)
  refine nK ?_
  refine nJ ?_
  refine nK ?_
  refine AG (AY 44 false Z Z ?_)
  refine nK ?_
  refine nJ ?_
  refine nK ?_
  refine iQ ?_
  exact⟨(M1,b),⟨ok1,by rw[if_neg];rw[aJ.late,DF g1,fK];exact nO⟩,aF,(IP 3 Z (aa.aU (a1,c1) (aZ [1,1]))).ah⟩
 refine AG (AY 38 true Z (DT g1) ?_)
 refine nK ?_
 refine AG (AR (fun Fr w hF hw hS=>Dn Fr w ok1 (hS.ar 1 Z) (aP.av cj (hS.at_ 2 Z)) x.1) Z Z (by(try refine Pd.st ?_);(repeat(first|exact Pd.nil|exact Pd.fnil|refine Pd.inner ?_|refine Pd.skip yo ?_|refine zf (zo 0 Z Z) ?_|refine zf (zo 1 Z Z) ?_|refine zf (zm 0 Z Z) ?_|refine zf (zm 1 Z Z) ?_|refine zf (an.ar (an.one 1 Z hcell) Z) ?_|refine zf ((an.one 1 Z hcell)) ?_|refine zc (zo 0 Z Z) ?_|refine zc (zo 1 Z Z) ?_|refine zc (zm 0 Z Z) ?_|refine zc (zm 1 Z Z) ?_|refine zc (an.ar (an.one 1 Z hcell) Z) ?_|refine zc ((an.one 1 Z hcell)) ?_))) ?_)
 refine nK ?_
 cases g2:M1.lV x.1 with
 | false=>
  refine AG (AY 44 false Z Z ?_)
  refine nK ?_
  refine nJ ?_
  refine nK ?_
  refine iQ ?_
  exact⟨(M1,b),⟨ok1,by rw[if_neg];rw[aJ.late,g2,fK,gj];exact nO⟩,aF,(IP 3 Z (aa.aU (a1,c1) (aZ [1,1]))).ah⟩
 | true=>
 refine AG (AY 44 true Z Z ?_)
 refine nK ?_
 refine VA.ah (L':=[bQ p M1] ++ [RL.h aN ⟨some ⟨tb,tof,none⟩,rc,rb,rcs,rxs⟩,pt b7 (aC x) aN]) (aa.aU (a1,c1) (aZ [1,1,1,0])).ah ?_
 have ok2:=ok1.out x.1
 have hh2:(M1.out x.1).heard[j]?=some (M1.pe x.1):=by unfold aJ.out;split<;>exact hh
 have q7:∀a c,(cq (M1.out x.1) a c)[0+5+j*1]?=some (.int .i64 (M1.pe x.1)):=fun a c=>by rw[show 0+5+j*1=5+j from by omega];exact Is ok2 hh2
 have q12:∀a c,(cq (M1.out x.1) a c)[1]?=some (.int .i64 M1.ei):=fun a c=>by rw[←RA M1 x.1];rfl
 refine AG (AO (OC (Lc:=[bQ p M1]) (Lr:=[RL.h aN ⟨some ⟨tb,tof,none⟩,rc,rb,rcs,rxs⟩,pt b7 (aC x) aN]) rfl (.refl _) (fun Fr w hF hw hS=>Dp Fr w ok1 x.1)) rfl (fun v L' g=>by obtain⟨_,⟨rfl,rfl⟩,rfl⟩:=g;exact(by(try refine Pd.st ?_);(repeat(first|exact Pd.nil|exact Pd.fnil|refine Pd.inner ?_|refine Pd.skip yo ?_|refine zf (zo 0 rfl rfl) ?_|refine zf (zo 1 rfl rfl) ?_|refine zf (zo 2 rfl rfl) ?_|refine zf (zm 0 rfl rfl) ?_|refine zf (zm 1 rfl rfl) ?_|refine zf (zm 2 rfl rfl) ?_|refine zf (an.ar (an.aU 0 rfl q7) rfl) ?_|refine zf (an.ar (an.aU 0 rfl q12) rfl) ?_|refine zf ((an.aU 0 rfl q7)) ?_|refine zf ((an.aU 0 rfl q12)) ?_|refine zc (zo 0 rfl rfl) ?_|refine zc (zo 1 rfl rfl) ?_|refine zc (zo 2 rfl rfl) ?_|refine zc (zm 0 rfl rfl) ?_|refine zc (zm 1 rfl rfl) ?_|refine zc (zm 2 rfl rfl) ?_|refine zc (an.ar (an.aU 0 rfl q7) rfl) ?_|refine zc (an.ar (an.aU 0 rfl q12) rfl) ?_|refine zc ((an.aU 0 rfl q7)) ?_|refine zc ((an.aU 0 rfl q12)) ?_)))) ?_)
 rintro _ _ ⟨_,⟨rfl,rfl⟩,rfl⟩
 refine bV ?_
 refine CE Z (fun ho=>?_) (fun ho=>CK ?_)
 ·have hout:M1.out x.1=M1.gone x.1:=by rw[aJ.out,if_neg (by rw[ho];decide)]
  rw[hout]
  refine ae ?_
  exact⟨(M1.gone x.1,true),⟨ok1.gone ho,by rw[if_pos];rw[aJ.late,DT g1,g2,DT ho];rfl⟩,aF,(aZ [1,0]).ah⟩
 ·have hout:M1.out x.1=M1:=by rw[aJ.out,if_pos ho]
  rw[hout]
  exact⟨(M1,b),⟨ok1,by rw[if_neg];rw[aJ.late,DF ho,gj,gj];exact nO⟩,aF,(aZ [1,0]).ah⟩
end
end Cl
namespace Cl
open Go Vg T Api Ch Rep Rd Conf
attribute [local irreducible] VO VC VA
section
variable {p:Nat} {M:aJ}
theorem aJ.Ok.kM(ok:M.Ok){n:Int}(h:(fJ M.ch n).2=0)(now:Int):(M.kM n now).Ok:=by
 obtain⟨h1,h2,h3,e⟩:=Yg h
 obtain⟨g1,g2,_⟩:=oX (zg h1).1
 have e1:(M.kM n now).ch=⟨M.ch.aB+1,M.ch.ms ++ [(n,M.ch.aB+1)],M.ch.drain⟩:=by show(fJ M.ch n).1=_;rw[e]
 refine⟨ok.n0,ok.n1,ok.p0,ok.p1,?_,?_,by show(M.heard.set _ _).length=6;rw[gk,ok.hl],by show(M.whole.set _ _).length=6;rw[gk,ok.wl],fun x hx=>?_⟩
 ·rw[e1];simp;omega
 ·rw[e1]
  intro x hx
  rcases fL.1 hx with hx | hx
  ·exact ok.mr x hx
  ·obtain rfl:=mi.1 hx
   simp[pq] at h2
   exact h2
 ·rcases lI hx with h | h
  ·exact ok.hr x h
  ·rw[h];exact qJ now
theorem aJ.Ok.lh(ok:M.Ok){n:Int}(h:(ic M.ch n).2=0):(M.lh n).Ok:=by
 obtain⟨h1,h2,h3,e⟩:=Ow h
 have e1:(M.lh n).ch=⟨M.ch.aB+1,M.ch.ms,n⟩:=by show(ic M.ch n).1=_;rw[e]
 exact⟨ok.n0,ok.n1,ok.p0,ok.p1,by rw[e1];exact ok.ml,by rw[e1];exact ok.mr,ok.hl,ok.wl,ok.hr⟩
theorem JR{n:Int}(hm:(dm M.ch n).2=false):M.gf n=(M,[],4)∧M.drain n=(M,[],4):=by unfold aJ.gf aJ.drain aJ.pj;simp[hm]
theorem JS{n:Int}(hm:(dm M.ch n).2=true)(hg:M.lV n=false):M.gf n=(M,[],72)∧M.drain n=(M,[],72):=by unfold aJ.gf aJ.drain aJ.pj;simp[hm,hg]
theorem Tx{n:Int}(hm:(dm M.ch n).2=true)(hg:M.lV n=true)(ho:M.nu n≠0):M.gf n=(M,[],M.nu n):=by unfold aJ.gf aJ.pj;simp[hm,hg,ho]
theorem Tw{n:Int}(hm:(dm M.ch n).2=true)(hg:M.lV n=true)(ho:M.nu n=0):M.gf n=(M.gone n,(M.gone n).all,0):=by unfold aJ.gf aJ.pj;simp[hm,hg,ho]
theorem Ov{n:Int}(hm:(dm M.ch n).2=true)(hg:M.lV n=true)(ho:(ic M.ch n).2≠0):M.drain n=(M,[],(ic M.ch n).2):=by unfold aJ.drain aJ.pj;simp[hm,hg,ho]
theorem Ou{n:Int}(hm:(dm M.ch n).2=true)(hg:M.lV n=true)(ho:(ic M.ch n).2=0):M.drain n=(M.lh n,(M.lh n).all,0):=by unfold aJ.drain aJ.pj;simp[hm,hg,ho]
theorem Q3(ok:M.Ok)(n:Int):aq Tryz.prog 195 [.pointer (some ⟨p,0,none⟩),.int .i64 n] Fr w [bQ p M]
  (fun v L=>uJ (M.gf n).2.1 (M.gf n).2.2 v L [bQ p (M.gf n).1]):=by
 have hl:=ok.ml
 refine TF 29 Tryz.func195 Z ym aw Z Z ?_
 refine xu ?_
 rintro⟨a,c⟩ -
 show VC _ _ _ [pt p (cq M a c) lz,av aN 2 a M.ch.ms.length c (flat aC M.ch.ms)] _
 refine ae ?_
 refine xw ?_
 refine ae ?_
 refine oG ?_
 refine ae ?_
 refine Lt ?_
 refine ae ?_
 refine VC.ey Z (fun hm=>?_) (fun hm=>?_)
 ·refine ae ?_
  exact CR (al.cz 4 5 Z Z Z (pw (a:=a) (c:=c) (R:=[])).ah (by rw[(JR hm).1];exact qG Z Z))
 refine ae ?_
 refine Lu ?_
 refine ae ?_
 refine VC.ey Z (fun hg=>?_) (fun hg=>CK ?_)
 ·refine ae ?_
  exact CR (al.cz 4 5 Z Z Z (pw (a:=a) (c:=c) (R:=[])).ah (by rw[(JS hm hg).1];exact qG Z Z))
 refine CN (L':=[bQ p M]) (aa.aU (a,c) (aa.refl)).ah ?_
 refine ae ?_
 refine VG (VK (Lc:=[bQ p M]) (fun Fr w hF hw hS=>Dp Fr w ok n) Z Z ?_)
 rintro _ _ ⟨rfl,rfl⟩
 refine ae ?_
 refine VC.dd Z (fun ho=>?_) (fun ho=>CK ?_)
 ·have hout:M.out n=M:=by rw[aJ.out,if_pos ho]
  rw[hout]
  refine ae ?_
  exact CR (al.cz 4 5 Z Z Z ((aa.cN (aa.refl (L:=[bQ p M]))).trans (IP 1 Z aa.refl)).ah (by rw[Tx hm hg ho];exact qG Z Z))
 have hout:M.out n=M.gone n:=by rw[aJ.out,if_neg (by rw[ho];decide)]
 rw[hout]
 have ok1:=ok.gone ho
 refine VC.bu 0 Z (aY.aU p (M.gone n)) ?_
 rintro⟨a1,c1⟩ -
 show VC _ _ _ [pt p (cq (M.gone n) a1 c1) lz,av aN 2 a1 (M.gone n).ch.ms.length c1 (flat aC (M.gone n).ch.ms)] _
 refine ae ?_
 refine VG (VK (Lc:=[]) (fun Fr w hF hw hS=>wA (M:=M.gone n) Fr w ok1 (hS.ar 0 Z) (aP.av cj (hS.at_ 1 Z))) Z Z ?_)
 rintro _ _ ⟨X,sa,sc,hX,rfl,rfl⟩
 refine ae ?_
 exact CR (al.cz 4 5 Z Z Z (sA (p:=p) (M:=M.gone n) (a:=a1) (c:=c1) (R:=[])).ah (by rw[Tw hm hg ho];exact⟨X,sa,sc,hX,Z,Z⟩))
theorem QN(ok:M.Ok)(n:Int):aq Tryz.prog 197 [.pointer (some ⟨p,0,none⟩),.int .i64 n] Fr w [bQ p M]
  (fun v L=>uJ (M.drain n).2.1 (M.drain n).2.2 v L [bQ p (M.drain n).1]):=by
 have hl:=ok.ml
 refine TF 40 Tryz.func197 Z ym aw Z Z ?_
 refine xu ?_
 rintro⟨a,c⟩ -
 show VC _ _ _ [pt p (cq M a c) lz,av aN 2 a M.ch.ms.length c (flat aC M.ch.ms)] _
 refine ae ?_
 refine xw ?_
 refine ae ?_
 refine oG ?_
 refine ae ?_
 refine Lt ?_
 refine ae ?_
 refine VC.ey Z (fun hm=>?_) (fun hm=>?_)
 ·refine ae ?_
  exact CR (al.cz 4 5 Z Z Z (pw (a:=a) (c:=c) (R:=[])).ah (by rw[(JR hm).2];exact qG Z Z))
 refine ae ?_
 refine Lu ?_
 refine ae ?_
 refine VC.ey Z (fun hg=>?_) (fun hg=>CK ?_)
 ·refine ae ?_
  exact CR (al.cz 4 5 Z Z Z (pw (a:=a) (c:=c) (R:=[])).ah (by rw[(JS hm hg).2];exact qG Z Z))
 refine aj ?_
 refine xv ?_
 refine ae ?_
 refine VG (VK (Lc:=[]) (fun Fr w hF hw hS=>Ox Fr w (c:=M.ch) (aP.av cj (hS.at_ 1 Z)) yd n) Z Z ?_)
 rintro _ _ ⟨wa,wc,rfl,rfl⟩
 refine au ?_
 refine VG (VO.alloc Z fun b6=>?_)
 refine VG (VT (vs:=(ic M.ch n).1.cells wa wc) (cs':=(ic M.ch n).1.cells wa wc) 0 Z Z Z Z (NR _) Z Z Z ?_)
 refine au ?_
 refine VC.dd Z (fun ho=>?_) (fun ho=>CK ?_)
 ·refine au ?_
  refine CR (al.cz 4 5 Z Z Z ?_ (by rw[Ov hm hg ho];exact qG Z Z))
  exact(aa.trans (M:=ly p M a c ++ []) (aZ [2,2]) pw).ah
 have ok1:=ok.lh ho
 refine au ?_
 refine VG (VL 0 ((ic M.ch n).1.cells wa wc) Z Z Z Z ?_)
 refine au ?_
 refine VG (VT (vs:=(ic M.ch n).1.cells wa wc) (cs':=cq (M.lh n) wa wc) 2 Z Z Z Z FO Z Z Z ?_)
 refine VO.ah (L':=[pt p (cq (M.lh n) wa wc) lz,av aN 2 wa (M.lh n).ch.ms.length wc (flat aC (M.lh n).ch.ms)]) (aZ [2,1]).ah ?_
 refine au ?_
 refine VG (VK (Lc:=[]) (fun Fr w hF hw hS=>wA (M:=M.lh n) Fr w ok1 (hS.ar 0 Z) (aP.av cj (hS.at_ 1 Z))) Z Z ?_)
 rintro _ _ ⟨X,sa,sc,hX,rfl,rfl⟩
 refine ae ?_
 exact CR (al.cz 4 5 Z Z Z (sA (p:=p) (M:=M.lh n) (a:=wa) (c:=wc) (R:=[])).ah (by rw[Ou hm hg ho];exact⟨X,sa,sc,hX,Z,Z⟩))
theorem PE{n now:Int}(h:M.isNode n=false):M.join n now=(M,[],2):=by unfold aJ.join;simp[h]
theorem PF{n now:Int}(h:M.isNode n=true)(ho:(fJ M.ch n).2≠0):M.join n now=(M,[],(fJ M.ch n).2):=by unfold aJ.join;simp[h,ho]
theorem PD{n now:Int}(h:M.isNode n=true)(ho:(fJ M.ch n).2=0):M.join n now=(M.kM n now,(M.kM n now).all,0):=by unfold aJ.join;simp[h,ho]
theorem QY(ok:M.Ok)(n now:Int):aq Tryz.prog 252 [.pointer (some ⟨p,0,none⟩),.int .i64 n,.int .i64 now] Fr w [bQ p M]
  (fun v L=>uJ (M.join n now).2.1 (M.join n now).2.2 v L [bQ p (M.join n now).1]):=by
 have hl:=ok.ml
 refine TF 49 Tryz.func252 Z ym aw Z Z ?_
 refine xu ?_
 rintro⟨a,c⟩ -
 show VC _ _ _ [pt p (cq M a c) lz,av aN 2 a M.ch.ms.length c (flat aC M.ch.ms)] _
 refine ae ?_
 refine xw ?_
 refine ae ?_
 refine oG ?_
 refine ae ?_
 refine VG (VV (fun Fr w hF hw hS=>ID Fr w (hS.ar 0 Z) n) Z ?_)
 refine ae ?_
 refine VC.ey Z (fun hn=>?_) (fun hn=>CK ?_)
 ·refine ae ?_
  exact CR (al.cz 6 7 Z Z Z (pw (a:=a) (c:=c) (R:=[])).ah (by rw[PE hn];exact qG Z Z))
 obtain⟨j,hj,hj6,_⟩:=ok.AE (aJ.HN ok hn)
 refine aj ?_
 refine xv ?_
 refine ae ?_
 refine VG (VK (Lc:=[]) (fun Fr w hF hw hS=>Yj Fr w (c:=M.ch) (aP.av cj (hS.at_ 1 Z)) yd n) Z Z ?_)
 rintro _ _ ⟨wa,wc,rfl,rfl⟩
 refine au ?_
 refine VG (VO.alloc Z fun b6=>?_)
 refine VG (VT (vs:=(fJ M.ch n).1.cells wa wc) (cs':=(fJ M.ch n).1.cells wa wc) 0 Z Z Z Z (NR _) Z Z Z ?_)
 refine au ?_
 refine VC.dd Z (fun ho=>?_) (fun ho=>CK ?_)
 ·refine au ?_
  refine CR (al.cz 6 7 Z Z Z ?_ (by rw[PF hn ho];exact qG Z Z))
  exact(aa.trans (M:=ly p M a c ++ []) (aZ [2,2]) pw).ah
 have ok1:=ok.kM ho now
 have ok2:({ M with ch:=(fJ M.ch n).1 }:aJ).Ok:=⟨ok1.n0,ok1.n1,ok1.p0,ok1.p1,ok1.ml,ok1.mr,ok.hl,ok.wl,ok.hr⟩
 have ok3:({ M with ch:=(fJ M.ch n).1,whole:=M.whole.set j false }:aJ).Ok:=⟨ok1.n0,ok1.n1,ok1.p0,ok1.p1,ok1.ml,ok1.mr,ok.hl,by show(M.whole.set _ _).length=6;rw[gk,ok.wl],ok.hr⟩
 refine au ?_
 refine VG (VL 0 ((fJ M.ch n).1.cells wa wc) Z Z Z Z ?_)
 refine au ?_
 refine VG (VT (vs:=(fJ M.ch n).1.cells wa wc) (cs':=cq { M with ch:=(fJ M.ch n).1 } wa wc) 2 Z Z Z Z FO Z Z Z ?_)
 refine au ?_
 refine VG (VI (iu j Z Z Z Z Z hj hj6) ?_)
 refine VG (VO.st 2 (cs':=cq { M with ch:=(fJ M.ch n).1,whole:=M.whole.set j false } wa wc) Z Z Z Z (by show 0+11+j*1<_;rw[sU ok2];omega) (by show(cq ({ M with ch:=(fJ M.ch n).1 }:aJ) wa wc).set (0+11+j*1) _=_;rw[show 0+11+j*1=11+j from by omega,zx ok2 hj6]) Z ?_)
 refine au ?_
 refine CD (ts 0 3 (ts 4 2 (.only 3 (.take 6 (.only 7 .nil))))) ym yo ?_
 refine cG ?_
 refine AG (AR (fun Fr w hF hs hS=>Dq Fr w now) Z Z yv ?_)
 refine Fg ?_
 refine AG (VA.st 2 (cs':=cq (M.kM n now) wa wc) Z Z Z Z Z (by show 0+5+j*1<_;rw[sU ok3];omega) (by show(cq ({ M with ch:=(fJ M.ch n).1,whole:=M.whole.set j false }:aJ) wa wc).set (0+5+j*1) _=_;rw[show 0+5+j*1=5+j from by omega,It ok3 hj6,aJ.kM,show n.toNat=j from by omega]) Z yv ?_)
 refine cG ?_
 refine CN (L':=[pt p (cq (M.kM n now) wa wc) lz,av aN 2 wa (M.kM n now).ch.ms.length wc (flat aC (M.kM n now).ch.ms)]) (aZ [2,1]).ah ?_
 refine au ?_
 refine VG (VK (Lc:=[]) (fun Fr w hF hw hS=>wA (M:=M.kM n now) Fr w ok1 (hS.ar 0 Z) (aP.av cj (hS.at_ 1 Z))) Z Z ?_)
 rintro _ _ ⟨X,sa,sc,hX,rfl,rfl⟩
 refine ae ?_
 exact CR (al.cz 6 7 Z Z Z (sA (p:=p) (M:=M.kM n now) (a:=wa) (c:=wc) (R:=[])).ah (by rw[PD hn ho];exact⟨X,sa,sc,hX,Z,Z⟩))
theorem QK(ok:M.Ok){a:Option Addr}{c:Nat}(h:a7 Fr w p (cq M a c))(hm:aP aC 2 Fr w a M.ch.ms):aq Tryz.prog 55 [.pointer (some ⟨p,0,none⟩)] Fr w []
  (fun v L=>∃a' c',v=.agg (M.ch.cells a' c').toArray∧L=[av aN 2 a' M.ch.ms.length c' (flat aC M.ch.ms)]):=by
 have hl:=ok.ml
 refine TF 12 Tryz.func55 Z ym aw Z Z ?_
 refine CS (CG (VG (VO.alloc Z fun d=>?_)))
 refine ae ?_
 refine VG (VV (fun Fr w hF hw hS=>IF Fr w ok (h.of hF hw)) Z ?_)
 refine iR ?_
 refine Ff ?_
 refine Ln ?_
 rintro _ _ ⟨ma,mc,rfl,rfl⟩
 refine VG (VT (vs:=M.ch.cells ma mc) (cs':=M.ch.cells ma mc) 1 Z Z Z Z (NR _) Z Z Z ?_)
 refine ae ?_
 exact CR (al.cell 2 Z Z Z (an.many 1 Z Z) (IP 0 Z aa.nil).ah ⟨ma,mc,Z,Z⟩)
end
end Cl
namespace Cl
open Go Vg T Api Ch Rep Rd Conf Sched
attribute [local irreducible] VO VC VA
def w_(k:Nat):List Bool:=(List.range 6).map fun(i:Nat)=>decide (i<k)
def qv(c:bn)(k:Nat):aJ:=⟨c.nodes,c.ei,cU c,List.replicate 6 0,w_ k⟩
theorem Yf{k:Nat}(h:k<6):(w_ k).set k true=w_ (k+1):=by
 rcases(by omega:k=0∨k=1∨k=2∨k=3∨k=4∨k=5) with rfl | rfl | rfl | rfl | rfl | rfl<;>rfl
theorem tY{c:bn}(h:c=ct c):(4≤c.ei∧c.ei≤64)∧(4≤c.timeout∧c.timeout≤64)∧(0≤c.eR∧c.eR≤16)∧(1≤c.dQ∧c.dQ≤1099511627776)∧(4≤c.link∧c.link≤64)∧(1≤c.qs.length∧c.qs.length≤4):=by
 have e1:c.ei=aD c.ei 4 64:=congrArg bn.ei h
 have e2:c.timeout=aD c.timeout 4 64:=congrArg bn.timeout h
 have e3:c.eR=aD c.eR 0 16:=congrArg bn.eR h
 have e4:c.dQ=aD c.dQ 1 1099511627776:=congrArg bn.dQ h
 have e5:c.link=aD c.link 4 64:=congrArg bn.link h
 have e6:c.qs=fF c.qs:=congrArg bn.qs h
 have n1:=kn (x:=c.ei) (lo:=4) (hi:=64) yn
 have n2:=kn (x:=c.timeout) (lo:=4) (hi:=64) yn
 have n3:=kn (x:=c.eR) (lo:=0) (hi:=16) yn
 have n4:=kn (x:=c.dQ) (lo:=1) (hi:=1099511627776) yn
 have n5:=kn (x:=c.link) (lo:=4) (hi:=64) yn
 have n6:=wM c.qs
 rw[←e6] at n6
 omega
theorem IN{c:bn}(h:c=ct c)(k:Nat):(qv c k).Ok:=by
 obtain⟨b1,b2,_⟩:=mw h
 obtain⟨b3,_⟩:=tY h
 refine⟨b1.1,b1.2,by show 0≤c.ei;omega,by show c.ei≤_;omega,?_,?_,Z,Z,fun x hx=>?_⟩
 ·show(mz c.chain.toNat).length≤7;rw[vT];omega
 ·intro x hx
  obtain⟨i,hi,rfl⟩:=eC.1 (show x∈(List.range c.chain.toNat).map _ from hx)
  have:=List.mem_range.1 hi
  dsimp only;omega
 ·obtain rfl:=List.eq_of_mem_replicate hx
  decide
theorem IM(c:bn)(h:c=ct c):qv c c.chain.toNat=oq c:=by
 obtain⟨b1,b2,_⟩:=mw h
 unfold qv oq w_
 congr 1
 refine List.map_congr_left fun i hi=>?_
 by_cases e:(i:Int)<c.chain
 ·rw[DT e,DT yd]
 ·rw[DF e,DF yd]
theorem OV{n k:Nat}(h:k<n):(mz n)[k]?=some ((k:Int),(1:Int)):=by
 unfold mz
 rw[dH,List.getElem?_range h];rfl
theorem Q0(c:bn){qa:Option Addr}{qc:Nat}(hq:fT Fr w qa c.qs)(hqa:nR qa)(hqc:c.qs.length≤qc):
  aq Tryz.prog 42 [.agg (c.cells qa qc).toArray] Fr w [] (fun v L=>if c=ct c then ∃p,v=.tuple #[.pointer (some ⟨p,0,none⟩),.int .i64 0]∧L=[bQ p (oq c)] else v=.tuple #[.pointer none,.int .i64 2]∧L=[]):=by
 refine TF 38 Tryz.func42 Z ym aw Z Z ?_
 refine CS (CG (VG (VB (vs:=c.cells qa qc) Z fun b1=>VG (VN ?_))))
 refine ae ?_
 refine A7 ?_
 refine VG (VK (Lc:=[]) (fun Fr w hF hs _=>Hx Fr w c qa qc (lS hq hF hs) hqa hqc) Z Z ?_)
 rintro v L1 h
 by_cases hf:c=ct c
 rotate_left
 ·rw[if_neg hf] at h
  obtain⟨rfl,rfl⟩:=h
  refine au ?_
  refine VG (VO.alloc Z fun b4=>?_)
  refine E6 ?_
  refine iS ?_
  exact Fh
 rw[if_pos hf] at h
 obtain⟨a,n,rfl,rfl⟩:=h
 obtain⟨b1',b2',_⟩:=mw hf
 have hlen:(cU c).ms.length=c.chain.toNat:=vT _
 refine au ?_
 refine VG (VO.alloc Z fun b4=>?_)
 refine VG (VT (vs:=(cU c).cells a n) (cs':=(cU c).cells a n) 0 Z Z Z Z (NR _) Z Z Z ?_)
 refine mf ?_
 refine gZ ?_
 refine VG (VL 0 ((cU c).cells a n) Z Z Z Z ?_)
 refine VG (VI (LB (pv:=[(0,.int .i64 c.nodes),(1,.int .i64 c.ei),(2,.agg ((cU c).cells a n).toArray)]) (cq (qv c 0) a n) Z Z Z ym Z) ?_)
 refine VG (VB (vs:=cq (qv c 0) a n) Z fun q=>?_)
 refine iC ?_
 have hq2:∀(i:Nat) (x:bj),(cU c).ms[i]?=some x→x=((i:Int),(1:Int)):=fun i x hx=>by
  have hi:=(cH.1 hx).1
  rw[hlen] at hi
  have:=OV hi
  rw[show(cU c).ms=mz c.chain.toNat from rfl,this] at hx
  exact(jS hx).symm
 refine CN (L':=[av aN 2 a (cU c).ms.length n (flat aC (cU c).ms),pt q (cq (qv c 0) a n) lz]) (aZ [2,0]).ah ?_
 generalize hms:(cU c).ms=ms at hlen hq2
 refine VC.bu 0 Z (aY.sl _ _ _ _ _ _) ?_
 rintro(_ | ⟨mb,rest⟩) ⟨hx1,hx2,hx3⟩
 ·obtain⟨_,h0,_⟩:=hx3
  omega
 obtain⟨rfl,hx4⟩:=hx3
 dsimp only
 refine VC.loop (σ:=Nat) (fun k=>[(6,pV q),(24,.slice (some ⟨mb,0,none⟩) ms.length n),(25,.int .i64 ms.length),(26,.int .i64 (k:Int))]) (fun k=>[pt mb (flat aC ms++rest) aN,pt q (cq (qv c k) (some ⟨mb,0,none⟩) n) lz]) (fun k=>k≤ms.length) (fun k=>ms.length-k) 0
  (bK _) aF ER ?_
 rintro k hk
 refine ae ?_
 refine CP (p:=(k:Int)<ms.length) Z (fun h1=>CK ?_) (fun h1=>CX ?_)
 rotate_left
 ·obtain rfl:k=ms.length:=by omega
  refine ae ?_
  refine CR (al.cz 2 3 Z Z Z (L':=[bQ q (oq c)]) ?_ (by rw[if_pos hf];exact⟨q,Z,Z⟩))
  rw[←IM c hf,←hlen]
  refine(aa.aU (some ⟨mb,0,none⟩,n) (IP 1 Z ?_)).ah
  show aa [pt mb (flat aC ms++rest) aN] [av aN 2 (some ⟨mb,0,none⟩) (cU c).ms.length n (flat aC (cU c).ms)]
  rw[hms]
  exact aa.sl hx1 hx2 (by simpa using hx4) aa.refl
 obtain⟨x,hx⟩:∃x,ms[k]?=some x:=⟨_,GE yd⟩
 obtain rfl:=hq2 k x hx
 have hk6:k<6:=by omega
 have ok:=IN hf k
 refine nM ?_
 refine VG (VL 0 (aC ((k:Int),1)) Z Z Z (by show((flat aC ms++rest).drop (0+k*2)).take 2=_;rw[bZ];exact kK cj hx rest) ?_)
 refine VG (VO.alloc Z fun b8=>?_)
 refine VG (VT (vs:=aC ((k:Int),1)) (cs':=aC ((k:Int),1)) 0 Z Z Z Z (NR _) Z Z Z ?_)
 refine ae ?_
 refine A0 ?_
 refine bg ?_
 refine AG (AI Z (iu k Z Z Z Z Z Z hk6) ?_)
 refine AG (VA.st 2 (cs':=cq (qv c (k+1)) (some ⟨mb,0,none⟩) n) Z Z Z Z Z (by show 0+11+k*1<_;rw[sU ok];omega) (by show(cq (qv c k) _ n).set (0+11+k*1) _=_;rw[show 0+11+k*1=11+k from by omega,zx ok hk6];show cq ⟨_,_,_,_,(w_ k).set k true⟩ _ _=_;rw[Yf hk6];rfl) Z yv ?_)
 refine cG ?_
 refine fx ?_
 exact⟨k+1,by omega,by dsimp only;omega,SC Z (SC Z (SC Z (Sub.int Z yd (SN _)))),(aZ [1,1]).ah⟩
end Cl
namespace Cl
open Go Vg T Api Ch Rep
attribute [local irreducible] VO VC VA
abbrev ib:TypeId:=160
structure oP where
 q:Nat
 b:Nat
 a:Option Addr
 c:Nat
def Em(o:Option (Option dY))(b:Nat):Value:=match o with
 | some _=>.pointer (some ⟨b,0,none⟩)
 | none=>.pointer none
def jn(o:Option (Option dY))(b:Nat):HP:=match o with
 | some x=>pt b (mL x) lE
 | none=>jb True
def cP(S:aR)(y:oP):List Value:=[.int .i64 S.id,.int .i64 S.cls,.int .i64 S.timeout,.int .i64 S.eR,.pointer (some ⟨y.q,0,none⟩),.int .i64 S.ch.aB,.slice y.a S.ch.ms.length y.c,.int .i64 S.ch.drain,Em S.out y.b,.int .i64 S.eP,.int .i64 S.since,.int .i64 S.AB,.bool S.unsure,.int .i64 S.seq,.int .i64 S.tries,.int .i64 S.cl,.int .i64 S.deadline,.int .i64 S.op.kind,.string S.op.key,.string S.op.value,.int .i64 S.op.version]
def oY(p:Nat)(S:aR)(y:oP):List HP:=[pt p (cP S y) ib,pt y.q (dy S.tok) eM,av aN 2 y.a S.ch.ms.length y.c (flat aC S.ch.ms),jn S.out y.b]
def bB(p:Nat)(S:aR):HP:=hex fun y:oP=>b_ (oY p S y)
theorem aY.dO(p:Nat)(S:aR):aY (ι:=oP) (bB p S) (fun _=>True) (fun y=>oY p S y):=fun w ids ⟨x,h⟩ hn=>⟨x,trivial,ids,h,hn,fun _ h=>h⟩
theorem aa.dO{p:Nat}{S:aR}{L K:List HP}(y:oP)(h:aa L (oY p S y++K)):aa L (bB p S::K):=aa.ex (f:=fun y:oP=>b_ (oY p S y)) y (aa.sep h)
structure aR.Ok(S:aR):Prop where
 c0:1≤S.cls
 c1:S.cls≤4
 t0:0≤S.timeout
 t1:S.timeout≤1000
 b0:0≤S.eR
 b1:S.eR≤16
 tok:S.tok.Ok
 ml:S.ch.ms.length≤6
 out:S.eP≠0→S.out=some none
 s0:0≤S.since
 s1:S.since≤1099511627776
 q0:0≤S.seq
 r0:0≤S.tries
 r1:S.tries≤17
 rb:S.eP=1∨S.eP=3→S.tries≤16
def gd(toQ:Int)(f:aA):e9:=((toQ,f,[]),(none,0))
theorem GU{p:Nat}{S:aR}{y:oP}{A R:List HP}:aa (A++(oY p S y++R)) (bB p S::A):=
 (aa.perm hU).trans (aa.dO y ((aa.of_eq (eV _ _ _)).trans (aa.app aa.refl aa.Ci)))
theorem GR{p:Nat}{S:aR}{y:oP}{toQ:Int}{f:aA}{sb:Nat}{R:List HP}:aa (pt sb (cS (gd toQ f)) e8::(oY p S y++R)) (bB p S::av e8 30 (some ⟨sb,0,none⟩) 1 1 (flat cS [gd toQ f]) :: [gd toQ f].map gv):=by
 rw[vU]
 refine aa.trans (M:=[av e8 30 (some ⟨sb,0,none⟩) 1 1 (cS (gd toQ f)),gv (gd toQ f)]++(oY p S y++R)) ?_ GU
 exact aa.Aq (n:=1) (by rw[Ak]) (aa.cons (aa.cN aa.refl))
theorem tV{p:Nat}{S:aR}{y:oP}{R:List HP}:aa (oY p S y++R) (bB p S::av e8 30 none 0 0 (flat cS [])::([]:List e9).map gv):=
 (aa.cN (aa.refl (L:=oY p S y++R))).trans (GU (A:=[av e8 30 none 0 0 []]))
theorem Eg{v:Value}{L H:List HP}{toQ:Int}{f:aA}{sb:Nat}(hv:v=.slice (some ⟨sb,0,none⟩) 1 1)(hL:L=H++(av e8 30 (some ⟨sb,0,none⟩) 1 1 (flat cS [gd toQ f]) :: [gd toQ f].map gv)):lD [(toQ,f,[])] v L H:=An (x:=gd toQ f) hv hL
section
variable {p:Nat} {S:aR} {y:oP}
theorem Ob(n:Int):aq Tryz.prog 268 [.int .i64 n] Fr w [] (fun v L=>v=.int .i64 (cV n)∧L=[]):=by
 refine TF 6 Tryz.func268 Z ym aw Z Z ?_
 refine ae ?_
 exact CR (al.int 2 Z Z Mi ER ⟨rfl,Z⟩)
theorem GW(ok:S.Ok)(h:a7 Fr w p (cP S y)):aq Tryz.prog 110 [.pointer (some ⟨p,0,none⟩)] Fr w [] (fun v L=>v=.bool true∧L=[]):=by
 have:=ok.c0
 refine TF 12 Tryz.func110 Z ym aw Z Z ?_
 refine BG ?_
 refine g_ ?_
 exact CR (al.bool (b:=true) 2 Z Z (DT yd) ER ⟨rfl,Z⟩)
theorem B1(ok:S.Ok)(h:a7 Fr w p (cP S y)):aq Tryz.prog 68 [.pointer (some ⟨p,0,none⟩)] Fr w [] (fun v L=>v=.bool (S.eP != 0)∧L=[]):=by
 refine TF 12 Tryz.func68 Z ym aw Z Z ?_
 refine au ?_
 refine Fi ?_
 refine BG ?_
 refine g_ ?_
 exact jQ
theorem N6(ok:S.Ok)(h:a7 Fr w p (cP S y)):aq Tryz.prog 67 [.pointer (some ⟨p,0,none⟩)] Fr w [] (fun v L=>v=.int .i64 S.seq∧L=[]):=by
 refine TF 10 Tryz.func67 Z ym aw Z Z ?_
 refine au ?_
 refine Fi ?_
 refine mf ?_
 refine g_ ?_
 exact jQ
def zT(o:Option dY):Value:=.tuple #[.agg (cL (o.getD kp)).toArray,.bool o.isSome]
theorem N1(ok:S.Ok)(h:a7 Fr w p (cP S y))(hs:∀x,S.out=some x→a7 Fr w y.b (mL x)):aq Tryz.prog 69 [.pointer (some ⟨p,0,none⟩)] Fr w [] (fun v L=>v=zT S.outcome∧L=[]):=by
 have hv:∀o,S.out=o→(cP S y)[8]?=some (Em o y.b):=fun o e=>by rw[←e];rfl
 refine TF 22 Tryz.func69 Z ym aw Z Z ?_
 refine CS (CG (VG (VO.alloc Z fun b2=>?_)))
 refine au ?_
 refine Fi ?_
 refine au ?_
 refine VG (VY 7 false Z Z ?_)
 refine au ?_
 unfold aR.outcome
 cases ho:S.out with
 | none=>
  refine VG (VO.load (v:=.pointer none) Z Z (an.ar h (hv _ ho)) ?_)
  refine iS ?_
  refine VG (VL 0 (cL kp) Z Z Z Z ?_)
  refine Ld ?_
  refine au ?_
  exact Le
 | some x=>
  refine Lv ?_
  refine mf ?_
  refine au ?_
  refine Lv ?_
  refine VG (VV (fun Fr w hF hw _=>SV Fr w x ((hs x ho).of hF hw)) Z ?_)
  refine au ?_
  refine VG (VT (vs:=cL (x.getD kp)) (cs':=cL (x.getD kp)) 0 Z Z Z Z (NR _) Z Z Z ?_)
  refine au ?_
  exact CR (al.cJ 2 3 Z Z Z (an.many (ds:=cL (x.getD kp)) 0 Z Z) Z aa.nil.ah ⟨rfl,Z⟩)
theorem Jf:aq Tryz.prog 325 [] Fr w [] (fun v L=>∃sb,v=.slice (some ⟨sb,0,none⟩) 1 1∧L=[pt sb (cS (gd 16 { aA.zero with kind:=7 })) e8]):=by
 refine TF 4 Tryz.func325 Z ym aw Z Z ?_
 refine ae ?_
 refine VG (VI (LB (pv:=[(0,.int .i64 7)]) (({ aA.zero with kind:=7 }:aA).cells (none,0,0)) Z Z Z ym Z) ?_)
 refine VG (VI (LB (pv:=[(0,.int .i64 16),(1,.agg (({ aA.zero with kind:=7 }:aA).cells (none,0,0)).toArray)]) (cS (gd 16 { aA.zero with kind:=7 })) Z Z Z ym Z) ?_)
 refine VG (VO.buildSlice (pv:=[(0,.agg (cS (gd 16 { aA.zero with kind:=7 })).toArray)]) (cS (gd 16 { aA.zero with kind:=7 })) Z Z Z Z yn (fN Z Z Z) fun sb=>?_)
 refine ae ?_
 exact CR (al.tmp 0 Z Z ER ⟨sb,Z,Z⟩)
theorem GH(ok:S.Ok)(now:Int):aq Tryz.prog 271 [.pointer (some ⟨p,0,none⟩),.int .i64 now] Fr w [bB p S] (fun v L=>lD (S.ask now).2 v L [bB p (S.ask now).1]):=by
 refine TF 13 Tryz.func271 Z ym aw Z Z ?_
 refine tz ?_
 rintro y -
 show VC _ _ _ [pt p (cP S y) ib,pt y.q (dy S.tok) eM,av aN 2 y.a S.ch.ms.length y.c (flat aC S.ch.ms),jn S.out y.b] _
 refine ae ?_
 refine VG (VO.st 0 (cs':=cP { S with eP:=1 } y) Z Z Z Z By Z Z ?_)
 refine VG (VO.st 0 (cs':=cP { S with eP:=1,since:=now } y) Z Z Z Z (by show 10<21;omega) Z Z ?_)
 refine ae ?_
 refine VG (VK (Lc:=[]) (fun Fr w hF hw _=>Jf Fr w) Z Z ?_)
 rintro _ _ ⟨sb,rfl,rfl⟩
 refine ae ?_
 exact CR (al.tmp 4 Z Z (GR (S:={ S with eP:=1,since:=now }) (y:=y) (R:=[])).ah (Eg Z Z))
end
end Cl
namespace Cl
open Go Vg T Api Ch Rep
attribute [local irreducible] VO VC VA
section
variable {p:Nat} {S:aR}
theorem G6(ok:S.Ok)(now:Int):aq Tryz.prog 270 [.pointer (some ⟨p,0,none⟩),.int .i64 now] Fr w [bB p S] (fun v L=>lD (S.bz now).2 v L [bB p (S.bz now).1]):=by
 have hr0:=ok.r0
 have hr1:=ok.r1
 have hml:=ok.ml
 refine TF 68 Tryz.func270 Z ym aw Z Z ?_
 refine tz ?_
 rintro y -
 show VC _ _ _ [pt p (cP S y) ib,pt y.q (dy S.tok) eM,av aN 2 y.a S.ch.ms.length y.c (flat aC S.ch.ms),jn S.out y.b] _
 refine aj ?_
 refine pQ ?_
 refine VG (VO.st 0 (cs':=cP { S with tries:=S.tries+1 } y) Z Z Z Z (by show 14<21;omega) Z Z ?_)
 refine ae ?_
 refine VG (VO.st 0 (cs':=cP { S with tries:=S.tries+1,eP:=2 } y) Z Z Z Z By Z Z ?_)
 refine VG (VO.st 0 (cs':=cP (S.nD now) y) Z Z Z Z (by show 10<21;omega) Z Z ?_)
 refine ae ?_
 refine VG (VL 0 (S.ch.cells y.a y.c) Z Z Z Z ?_)
 refine VG (VV (fun Fr w hF hw hS=>v7 Fr w (c:=S.ch) (aP.av cj (hS.at_ 2 Z)) yd) Z (VG (VN ?_)))
 refine CS (VC.cZ (σ:=Int) (fun toQ=>[(0,pV p),(5,.int .i64 toQ)]) (fun _=>[pt p (cP (S.nD now) y) ib,pt y.q (dy S.tok) eM,av aN 2 y.a S.ch.ms.length y.c (flat aC S.ch.ms),jn S.out y.b]) (fun toQ=>toQ=(S.nD now).toQ) ?_ ?_)
 ·refine ae ?_
  refine VG (VL 0 S.op.cells Z Z Z Z ?_)
  refine VG (VV (fun Fr w hF hw hS=>Kv.wS Fr w S.op) Z ?_)
  refine ae ?_
  refine CC Z (fun h=>?_) (fun h=>CK ?_)
  ·refine ae ?_
   refine VG (VL 0 (S.ch.cells y.a y.c) Z Z Z Z ?_)
   refine VG (VV (fun Fr w hF hw hS=>w7 Fr w (c:=S.ch) (aP.av cj (hS.at_ 2 Z)) yd) Z ?_)
   refine ae ?_
   exact⟨_,by show tm S.ch=if wQ S.op=true then tm S.ch else ug S.ch;rw[show wQ S.op=true from h];rfl,SC Z (SC Z (SN _)),ER⟩
  ·exact⟨_,by show ug S.ch=if wQ S.op=true then tm S.ch else ug S.ch;rw[show wQ S.op=false from h];rfl,SC Z (SC Z (SN _)),ER⟩
 rintro toQ hto
 unfold aR.bz
 rw[←hto]
 refine CS (CD (ts 0 32 (.only 32 (.take 33 .nil))) ym yo ?_)
 refine bg ?_
 refine AG (VA.cK 0 S.op.cells Z Z Z Z Z ?_)
 refine AG (AI Z (LB (pv:=[(0,.int .i64 1),(1,.int .i64 S.ch.aB),(2,.int .i64 S.id),(3,.int .i64 S.seq),(4,.int .i64 (S.tries+1)),(5,.int .i64 S.cl),(6,.int .i64 S.deadline),(7,.agg S.op.cells.toArray)]) ((kc (S.nD now)).cells (none,0,0)) Z Z Z ym Z) ?_)
 refine AG (AI Z (LB (pv:=[(0,.int .i64 toQ),(1,.agg ((kc (S.nD now)).cells (none,0,0)).toArray)]) (cS (gd toQ (kc (S.nD now)))) Z Z Z ym Z) ?_)
 refine AG (AO (aG.buildSlice (n:=1) (pv:=[(0,.agg (cS (gd toQ (kc (S.nD now)))).toArray)]) (cells:=cS (gd toQ (kc (S.nD now)))) rfl rfl rfl rfl yn (fN rfl rfl rfl)) rfl (fun v L' g=>by obtain⟨b,rfl,rfl⟩:=g;exact gx) ?_)
 rintro _ _ ⟨sb,rfl,rfl⟩
 refine cG ?_
 exact CR (al.tmp 4 Z Z (GR (S:=S.nD now) (y:=y) (R:=[])).ah (Eg Z Z))
theorem B4(ho:S.out=some none){o:dY}(h1:1≤o.kind)(h2:o.kind≤3):aq Tryz.prog 343 [.pointer (some ⟨p,0,none⟩),.agg (cL o).toArray] Fr w [bB p S] (fun v L=>v=.tuple #[]∧L=[bB p (S.end_ o)]):=by
 refine TF 13 Tryz.func343 Z ym aw Z Z ?_
 refine CS (CG (VG (VB (vs:=cL o) Z fun b3=>VG (VN ?_))))
 refine VC.bu 1 Z (aY.dO p S) ?_
 rintro y -
 have hv:(cP S y)[8]?=some (.pointer (some ⟨y.b,0,none⟩)):=by show some (Em S.out y.b)=_;rw[ho];rfl
 have hp:jn S.out y.b=pt y.b (mL none) lE:=by rw[ho];rfl
 have he:S.end_ o={ S with out:=some (some o),eP:=0 }:=by unfold aR.end_ JO;rw[ho]
 rw[he]
 show VC _ _ _ [pt p (cP S y) ib,pt y.q (dy S.tok) eM,av aN 2 y.a S.ch.ms.length y.c (flat aC S.ch.ms),jn S.out y.b,pt b3 (cL o) qz] _
 rw[hp]
 refine CN (L':=[pt y.b (mL none) lE,pt b3 (cL o) qz,pt p (cP S y) ib,pt y.q (dy S.tok) eM,av aN 2 y.a S.ch.ms.length y.c (flat aC S.ch.ms)]) (aZ [3,3,0,0,0]).ah ?_
 refine CS (CD (ts 0 5 (.only 5 .nil)) ym yo ?_)
 refine cG ?_
 refine AG (VA.ld 2 Z Z Z Z hv ?_)
 refine AG (VA.cK 1 (cL o) Z Z Z Z Z ?_)
 refine AG (AO (OC (Lc:=[pt y.b (mL none) lE]) (Lr:=[pt b3 (cL o) qz,pt p (cP S y) ib,pt y.q (dy S.tok) eM,av aN 2 y.a S.ch.ms.length y.c (flat aC S.ch.ms)]) rfl (.refl _) (fun Fr w hF hw hS=>S8 Fr w h1 h2)) rfl (fun v L' g=>by obtain⟨_,⟨rfl,rfl⟩,rfl⟩:=g;exact(by(try refine Pd.st ?_);(repeat(first|exact Pd.nil|exact Pd.fnil|refine Pd.inner ?_|refine Pd.skip yo ?_|refine zf (zo 0 rfl rfl) ?_|refine zf (zo 1 rfl rfl) ?_|refine zf (zo 2 rfl rfl) ?_|refine zf (zm 0 rfl rfl) ?_|refine zf (zm 1 rfl rfl) ?_|refine zf (zm 2 rfl rfl) ?_|refine zf (an.ar (an.one 2 rfl hv) rfl) ?_|refine zf ((an.one 2 rfl hv)) ?_|refine zc (zo 0 rfl rfl) ?_|refine zc (zo 1 rfl rfl) ?_|refine zc (zo 2 rfl rfl) ?_|refine zc (zm 0 rfl rfl) ?_|refine zc (zm 1 rfl rfl) ?_|refine zc (zm 2 rfl rfl) ?_|refine zc (an.ar (an.one 2 rfl hv) rfl) ?_|refine zc ((an.one 2 rfl hv)) ?_)))) ?_)
 rintro _ _ ⟨_,⟨rfl,rfl⟩,rfl⟩
 refine mg ?_
 have hc:cP S y=cP { S with out:=some (some o) } y:=by unfold cP;rw[ho];rfl
 rw[hc]
 refine VG (VO.st 2 (cs':=cP { S with out:=some (some o),eP:=0 } y) Z Z Z Z By Z Z ?_)
 refine ae ?_
 exact al.void Z (aa.dO (S:={ S with out:=some (some o),eP:=0 }) y (IP 2 Z (IP 2 Z (IP 2 Z (IP 0 Z aa.nil))))).ah ⟨rfl,Z⟩
theorem B5(ho:S.out=some none)(reason:Int):aq Tryz.prog 295 [.pointer (some ⟨p,0,none⟩),.int .i64 reason] Fr w [bB p S] (fun v L=>lD (S.giveUp reason).2 v L [bB p (S.giveUp reason).1]):=by
 unfold aR.giveUp
 refine TF 17 Tryz.func295 Z ym aw Z Z ?_
 refine tz ?_
 rintro y -
 show VC _ _ _ [pt p (cP S y) ib,pt y.q (dy S.tok) eM,av aN 2 y.a S.ch.ms.length y.c (flat aC S.ch.ms),jn S.out y.b] _
 refine ku ?_
 refine CS (VC.cZ (σ:=dY) (fun _=>[(0,pV p)]) (fun o=>[bB p (S.end_ o)]) (fun o=>o=if S.unsure then ⟨3,0,bO⟩ else ⟨2,reason,bO⟩) ?_ ?_)
 ·refine aj ?_
  refine CC Z (fun h=>?_) (fun h=>?_)
  ·refine A8 ?_
   refine ae ?_
   refine VG (VI (LB (pv:=[(0,.int .i64 3)]) (cL ⟨3,0,bO⟩) Z Z Z ym Z) ?_)
   refine VG (VK (Lc:=[bB p S]) (fun Fr w hF hw _=>B4 Fr w ho (o:=⟨3,0,bO⟩) yn yn) Z Z ?_)
   rintro _ _ ⟨rfl,rfl⟩
   refine ae ?_
   exact⟨_,by rw[h];rfl,SC Z (SN _),ER⟩
  ·refine A8 ?_
   refine ae ?_
   refine VG (VI (LB (pv:=[(0,.int .i64 2),(1,.int .i64 reason)]) (cL ⟨2,reason,bO⟩) Z Z Z ym Z) ?_)
   refine VG (VK (Lc:=[bB p S]) (fun Fr w hF hw _=>B4 Fr w ho (o:=⟨2,reason,bO⟩) (by show(1:Int)≤2;decide) (by show(2:Int)≤3;decide)) Z Z ?_)
   rintro _ _ ⟨rfl,rfl⟩
   refine ae ?_
   exact⟨_,by rw[h];rfl,SC Z (SN _),ER⟩
 rintro o rfl
 generalize (if S.unsure=true then (⟨3,0,bO⟩:dY) else ⟨2,reason,bO⟩)=o
 refine ae ?_
 refine VG (VK (Lc:=[]) (fun Fr w hF hw _=>Jf Fr w) Z Z ?_)
 rintro _ _ ⟨sb,rfl,rfl⟩
 refine ae ?_
 refine CR (al.tmp 4 Z Z ?_ (Eg (toQ:=16) (f:={ aA.zero with kind:=7 }) (sb:=sb) Z Z))
 rw[vU]
 refine aa.ah (aa.trans (M:=[av e8 30 (some ⟨sb,0,none⟩) 1 1 (cS (gd 16 { aA.zero with kind:=7 })),gv (gd 16 { aA.zero with kind:=7 }),bB p (S.end_ o)]) ?_ (aZ [2,0,0]))
 exact aa.Aq (n:=1) (by rw[Ak]) (aa.cons (aa.cN aa.refl))
end
end Cl
namespace Cl
open Go Vg T Api Ch Rep
attribute [local irreducible] VO VC VA
section
variable {p:Nat} {S:aR}
theorem wY{v:Value}{L H:List HP}(hv:v=.slice none 0 0)(hL:L=H++(av e8 30 none 0 0 (flat cS [])::([]:List e9).map gv)):lD [] v L H:=uK hv hL
theorem GM(ok:S.Ok)(ho:S.out=some none)(reason now:Int)(h0:0≤now)(h1:now≤1099511627776):aq Tryz.prog 294 [.pointer (some ⟨p,0,none⟩),.int .i64 reason,.int .i64 now] Fr w [bB p S] (fun v L=>lD (S.ja reason now).2 v L [bB p (S.ja reason now).1]):=by
 unfold aR.ja
 refine TF 49 Tryz.func294 Z ym aw Z Z ?_
 refine tz ?_
 rintro y -
 show VC _ _ _ [pt p (cP S y) ib,pt y.q (dy S.tok) eM,av aN 2 y.a S.ch.ms.length y.c (flat aC S.ch.ms),jn S.out y.b] _
 refine ae ?_
 refine CD (ts 0 23 (.only 23 (ts 24 2 .nil))) ym yo ?_
 refine dF ?_
 by_cases g1:S.eR<S.tries
 ·rw[if_pos (.inl g1)]
  refine AG (AY 16 true Z (DT g1) ?_)
  refine dF ?_
  refine AG (AY 24 true Z Z ?_)
  refine tD ?_
  refine l_ ?_
  refine A8 ?_
  refine ae ?_
  refine Fj ?_
  rintro _ _ ⟨X,sa,sc,hX,rfl,rfl⟩
  refine ae ?_
  exact u4
 refine AG (AY 16 false Z (DF g1) ?_)
 refine dF ?_
 by_cases g2:S.deadline<now
 ·rw[if_pos (.inr g2)]
  refine AG (AY 24 true Z (DT g2) ?_)
  refine tD ?_
  refine l_ ?_
  refine A8 ?_
  refine ae ?_
  refine Fj ?_
  rintro _ _ ⟨X,sa,sc,hX,rfl,rfl⟩
  refine ae ?_
  exact u4
 rw[if_neg (fun h=>h.elim g1 g2)]
 refine AG (AY 24 false Z (DF g2) ?_)
 refine dF ?_
 refine AG (AO (OC (Lc:=[pt y.q (dy S.tok) eM]) (Lr:=[pt p (cP S y) ib,av aN 2 y.a S.ch.ms.length y.c (flat aC S.ch.ms),jn S.out y.b]) rfl (.swap _ _ _) (fun Fr w hF hw hS=>No Fr w ok.tok now)) rfl (fun v L' g=>by obtain⟨_,⟨rfl,rfl⟩,rfl⟩:=g;exact gx) ?_)
 rintro _ _ ⟨_,⟨rfl,rfl⟩,rfl⟩
 refine bV ?_
 refine VC.ey Z (fun hb=>?_) (fun hb=>CK ?_)
 ·rw[if_neg (by rw[hb];decide)]
  refine CN (L':=[bB p (S.pF now)]) (aa.dO (S:=S.pF now) y (aZ [1,0,0,0])).ah ?_
  refine ae ?_
  refine VG (VK (Lc:=[bB p (S.pF now)]) (Lr:=[]) (fun Fr w hF hw _=>B5 (S:=S.pF now) Fr w ho reason) Z Z ?_)
  rintro _ _ ⟨X,sa,sc,hX,rfl,rfl⟩
  refine ae ?_
  exact u4
 rw[if_pos hb]
 have hg:=O_ S.tries 64
 refine ae ?_
 refine VG (VO.st 1 (cs':=cP { S with eP:=3 } y) Z Z Z Z By Z Z ?_)
 refine cF ?_
 refine VG (VV (fun Fr w hF hw _=>O' Fr w S.tries 64) Z ?_)
 refine pQ ?_
 refine VG (VO.st 1 (cs':=cP ((S.pF now).zX now) y) Z Z Z Z (by show 11<21;omega) Z Z ?_)
 refine ae ?_
 refine CR (al.tmp 6 Z Z ?_ (wY Z Z))
 exact(aa.trans (M:=oY p ((S.pF now).zX now) y ++ []) (aZ [1,0,0,0]) tV).ah
theorem N5(ok:S.Ok)(ho:S.out=some none)(reason now:Int)(h0:0≤now)(h1:now≤1099511627776):aq Tryz.prog 371 [.pointer (some ⟨p,0,none⟩),.int .i64 reason,.int .i64 now] Fr w [bB p S] (fun v L=>lD (S.refused reason now).2 v L [bB p (S.refused reason now).1]):=by
 have ok2:({ S with unsure:=true }:aR).Ok:=⟨ok.c0,ok.c1,ok.t0,ok.t1,ok.b0,ok.b1,ok.tok,ok.ml,ok.out,ok.s0,ok.s1,ok.q0,ok.r0,ok.r1,ok.rb⟩
 unfold aR.refused
 refine TF 25 Tryz.func371 Z ym aw Z Z ?_
 refine ku ?_
 refine CS (CS (CG (VG (VN ?_))))
 refine VC.cZ (σ:=aR) (fun _=>[(0,pV p),(1,.int .i64 reason),(2,.int .i64 now)]) (fun S'=>[bB p S']) (fun S'=>(S'={ S with unsure:=true }∧(reason=6∨reason=5∨reason=7))∨(S'=S∧¬(reason=6∨reason=5∨reason=7)∧¬(reason=2∨reason=10))) ?_ ?_
 rotate_left
 ·rintro S' hS
  have key:S'.Ok∧S'.out=some none∧(if reason=6∨reason=5∨reason=7 then ({ S with unsure:=true }:aR).ja reason now else if reason=2∨reason=10 then S.giveUp reason else S.ja reason now)=S'.ja reason now:=by
   rcases hS with ⟨rfl,h⟩ | ⟨rfl,h,h'⟩
   ·exact⟨ok2,ho,if_pos h⟩
   ·exact⟨ok,ho,by rw[if_neg h,if_neg h']⟩
  rw[key.2.2]
  refine ae ?_
  refine VG (VK (Lc:=[bB p S']) (Lr:=[]) (fun Fr w hF hw _=>GM Fr w key.1 key.2.1 reason now h0 h1) Z Z ?_)
  rintro _ _ ⟨X,sa,sc,hX,rfl,rfl⟩
  refine ae ?_
  exact u4
 refine VC.block ?_
 refine CS (VC.cZ (σ:=Bool) (fun b=>[(0,pV p),(1,.int .i64 reason),(2,.int .i64 now),(7,.int .i64 reason),(8,.bool b)]) (fun _=>[bB p S]) (fun b=>b=true↔(reason=6∨reason=5∨reason=7)) ?_ ?_)
 ·refine ae ?_
  refine CE Z (fun k=>CK ?_) (fun k=>?_)
  ·exact⟨true,by simp[k],SC Z (SC Z (SC Z (SC Z (Sub.bl Z (beq_iff_eq.2 k) (SN _))))),ER⟩
  refine ae ?_
  refine CE Z (fun k5=>CK ?_) (fun k5=>?_)
  ·exact⟨true,by simp[k5],SC Z (SC Z (SC Z (SC Z (Sub.bl Z (beq_iff_eq.2 k5) (SN _))))),ER⟩
  refine ae ?_
  exact⟨decide (reason=7),by simp[k,k5],SC Z (SC Z (SC Z (SC Z (Sub.bl Z Z (SN _))))),ER⟩
 rintro b hb
 refine ae ?_
 refine CC Z (fun k=>?_) (fun k=>?_)
 ·have k:=hb.1 k
  refine tz ?_
  rintro y -
  show VC _ _ _ [pt p (cP S y) ib,pt y.q (dy S.tok) eM,av aN 2 y.a S.ch.ms.length y.c (flat aC S.ch.ms),jn S.out y.b] _
  refine ae ?_
  refine Lw ?_
  refine ae ?_
  exact⟨{ S with unsure:=true },.inl ⟨rfl,k⟩,aF,(aa.dO (S:={ S with unsure:=true }) y aa.refl).ah⟩
 have k:¬(reason=6∨reason=5∨reason=7):=fun h=>by rw[hb.2 h] at k;cases k
 refine CS (VC.cZ (σ:=Bool) (fun b=>[(0,pV p),(1,.int .i64 reason),(2,.int .i64 now),(15,.bool b)]) (fun _=>[bB p S]) (fun b=>b=true↔(reason=2∨reason=10)) ?_ ?_)
 ·refine ae ?_
  refine CE Z (fun k=>CK ?_) (fun k=>?_)
  ·exact⟨true,by simp[k],SC Z (SC Z (SC Z (Sub.bl Z (beq_iff_eq.2 k) (SN _)))),ER⟩
  refine ae ?_
  exact⟨decide (reason=10),by simp[k],SC Z (SC Z (SC Z (Sub.bl Z Z (SN _)))),ER⟩
 rintro b2 hb2
 refine ae ?_
 refine CC Z (fun k2=>?_) (fun k2=>CK ?_)
 ·rw[if_neg k,if_pos (hb2.1 k2)]
  refine ae ?_
  refine Fj ?_
  rintro _ _ ⟨X,sa,sc,hX,rfl,rfl⟩
  refine ae ?_
  exact u4
 ·exact⟨S,.inr ⟨rfl,k,fun h=>by rw[hb2.2 h] at k2;cases k2⟩,aF,ER⟩
end
end Cl
namespace Cl
open Go Vg T Api Ch Rep Rd
attribute [local irreducible] VO VC VA
section
variable {p:Nat} {S:aR}
theorem N8(ok:S.Ok)(f:aA){ma:Option Addr}{mc:Nat}{ms:List bj}(hm:aP aC 2 Fr w ma ms)(hml:ms.length≤1000000)(now:Int):aq Tryz.prog 349 [.pointer (some ⟨p,0,none⟩),.agg (f.cells (ma,ms.length,mc)).toArray,.int .i64 now] Fr w [bB p S] (fun v L=>lD (S.take f ms now).2 v L [bB p (S.take f ms now).1]):=by
 have htk:=qJ now
 unfold aR.take
 generalize htn:cV now=tn at htk
 generalize hfc:f.cells (ma,ms.length,mc)=fc
 have hkd:fc[0]?=some (.int .i64 f.kind):=by rw[←hfc];rfl
 have hch:(fc.drop 23).take 3=aW.cells ⟨f.dE,ms,f.drain⟩ ma mc:=by rw[←hfc];rfl
 have hep:fc[23]?=some (.int .i64 f.dE):=by rw[←hfc];rfl
 have hmm:fc[24]?=some (.slice ma ms.length mc):=by rw[←hfc];rfl
 have hcl:fc[2]?=some (.int .i64 f.aI):=by rw[←hfc];rfl
 have hsq:fc[3]?=some (.int .i64 f.seq):=by rw[←hfc];rfl
 have hty:fc[4]?=some (.int .i64 f.bz):=by rw[←hfc];rfl
 have hrs:fc[15]?=some (.int .i64 f.reason):=by rw[←hfc];rfl
 have hre:(fc.drop 11).take 4=[.int .i64 f.res.code,.string f.res.value,.int .i64 f.res.version,.int .i64 f.res.at_]:=by rw[←hfc];rfl
 refine TF 118 Tryz.func349 Z ym aw Z Z ?_
 refine CS (CG (VG (VB (vs:=fc) Z fun fb=>VG (VN ?_))))
 refine VC.bu 1 Z (aY.dO p S) ?_
 rintro y -
 show VC _ _ _ [pt p (cP S y) ib,pt y.q (dy S.tok) eM,av aN 2 y.a S.ch.ms.length y.c (flat aC S.ch.ms),jn S.out y.b,pt fb fc bM] _
 have mid:cI ⟨Tryz.prog,tab,aw,118,Fr,w⟩ [pt p (cP S y) ib,pt y.q (dy S.tok) eM,av aN 2 y.a S.ch.ms.length y.c (flat aC S.ch.ms),jn S.out y.b,pt fb fc bM] ([bB p S] ++ [pt fb fc bM]):=(aa.dO (K:=[pt fb fc bM]) y aa.refl).ah
 refine ae ?_
 refine Fk ?_
 refine iR ?_
 refine Fm ?_
 rw[htn]
 refine ae ?_
 refine VG (VO.ld 4 Z Z Z hkd ?_)
 refine ae ?_
 refine CE Z (fun k8=>?_) (fun k8=>?_)
 ·rw[if_pos k8]
  refine ae ?_
  refine CD (ts 0 2 (.only 2 (ts 3 12 .nil))) ym yo ?_
  refine bV ?_
  refine AG (VA.cK 4 (aW.cells ⟨f.dE,ms,f.drain⟩ ma mc) Z Z Z Z hch ?_)
  refine AG (AR (fun Fr w hF hw hS=>Ch.gq Fr w (c:=⟨f.dE,ms,f.drain⟩) (hm.of hF hw) FK) Z Z (by(try refine Pd.st ?_);(repeat(first|exact Pd.nil|exact Pd.fnil|refine Pd.inner ?_|refine Pd.skip yo ?_|refine zf (zo 0 Z Z) ?_|refine zf (zo 1 Z Z) ?_|refine zf (zo 2 Z Z) ?_|refine zf (zo 3 Z Z) ?_|refine zf (zm 0 Z Z) ?_|refine zf (zm 1 Z Z) ?_|refine zf (zm 2 Z Z) ?_|refine zf (zm 3 Z Z) ?_|refine zf (an.ar (an.many 4 Z hch) Z) ?_|refine zf ((an.many 4 Z hch)) ?_|refine zc (zo 0 Z Z) ?_|refine zc (zo 1 Z Z) ?_|refine zc (zo 2 Z Z) ?_|refine zc (zo 3 Z Z) ?_|refine zc (zm 0 Z Z) ?_|refine zc (zm 1 Z Z) ?_|refine zc (zm 2 Z Z) ?_|refine zc (zm 3 Z Z) ?_|refine zc (an.ar (an.many 4 Z hch) Z) ?_|refine zc ((an.many 4 Z hch)) ?_))) ?_)
  refine bV ?_
  by_cases hc:fp ⟨f.dE,ms,f.drain⟩=0
  rotate_left
  ·rw[if_pos (.inl hc)]
   refine AG (AY 20 true Z (by rw[bne_iff_ne];exact hc) ?_)
   refine bV ?_
   refine VC.lf Z (CX ?_)
   refine ae ?_
   exact pN
  have hc6:=(oX hc).2.1
  dsimp only at hc6
  refine AG (AY 20 false Z (by rw[bne_eq_false_iff_eq];exact hc) ?_)
  refine bV ?_
  refine AG (VA.ld 4 Z Z Z Z hep ?_)
  refine dF ?_
  refine CP (p:=f.dE<S.ch.aB) Z (fun he=>CX ?_) (fun he=>CK ?_)
  ·rw[if_pos (.inr he)]
   refine ae ?_
   exact pN
  rw[if_neg (fun h=>h.elim (fun k=>k hc) he)]
  refine ae ?_
  refine VG (VL 4 (aW.cells ⟨f.dE,ms,f.drain⟩ ma mc) Z Z Z hch ?_)
  refine VG (VT (vs:=aW.cells ⟨f.dE,ms,f.drain⟩ ma mc) (cs':=cP { S with ch:=⟨f.dE,ms,f.drain⟩ } { y with a:=ma,c:=mc }) 0 Z Z Z Z (by show 5+3≤21;omega) Z Z Z ?_)
  refine ae ?_
  refine VG (VO.ld 4 Z Z Z hmm ?_)
  refine VO.ah (L':=[av aN 2 none 0 0 [],pt p (cP { S with ch:=⟨f.dE,ms,f.drain⟩ } { y with a:=ma,c:=mc }) ib,pt y.q (dy S.tok) eM,jn S.out y.b,pt fb fc bM]) (aa.cN (aZ [0,0,1,1])).ah ?_
  refine VG (VO.append (m:=ms.length) (news:=flat aC ms) 0 Z Z Z Z Z Z Z (aP.row cj hm) (oa sV _) (by show(0+ms.length)*16≤_;omega) yd fun a' c' _=>?_)
  rw[bZ,kW]
  refine ae ?_
  refine VG (VO.st 1 (cs':=cP { S with ch:=⟨f.dE,ms,f.drain⟩ } { y with a:=a',c:=c' }) Z Z Z Z (by show 6<21;omega) Z Z ?_)
  have ok2:({ S with ch:=⟨f.dE,ms,f.drain⟩ }:aR).Ok:=⟨ok.c0,ok.c1,ok.t0,ok.t1,ok.b0,ok.b1,ok.tok,hc6,ok.out,ok.s0,ok.s1,ok.q0,ok.r0,ok.r1,ok.rb⟩
  refine VO.ah (L':=[pt p (cP { S with ch:=⟨f.dE,ms,f.drain⟩ } { y with a:=a',c:=c' }) ib,pt y.q (dy S.tok) eM,av aN 2 a' ms.length c' (flat aC ms),jn S.out y.b]) (aZ [1,1,0,0]).ah ?_
  refine aj ?_
  refine CE Z (fun h1=>?_) (fun h1=>CK ?_)
  ·rw[if_pos h1]
   refine CN (L':=[bB p { S with ch:=⟨f.dE,ms,f.drain⟩ }]) (aa.dO (S:={ S with ch:=⟨f.dE,ms,f.drain⟩ }) { y with a:=a',c:=c' } aa.refl).ah ?_
   refine ae ?_
   refine VG (VK (Lc:=[bB p { S with ch:=⟨f.dE,ms,f.drain⟩ }]) (Lr:=[]) (fun Fr w hF hw _=>G6 Fr w ok2 tn) Z Z ?_)
   rintro _ _ ⟨X,sa,sc,hX,rfl,rfl⟩
   refine ae ?_
   exact u4
  ·rw[if_neg h1]
   refine ae ?_
   exact CR (al.tmp 6 Z Z (tV (S:={ S with ch:=⟨f.dE,ms,f.drain⟩ }) (y:={ y with a:=a',c:=c' }) (R:=[])).ah (wY Z Z))
 rw[if_neg k8]
 refine ae ?_
 refine CE Z (fun k2=>?_) (fun k2=>?_)
 ·rw[if_pos k2]
  refine ae ?_
  refine CD (ts 0 1 (.only 1 (ts 2 18 .nil))) ym yo ?_
  refine bV ?_
  refine AG (AR (fun Fr w hF hw hS=>B1 Fr w ok (hS.ar 0 Z)) Z Z yv ?_)
  refine bV ?_
  by_cases hb:S.eP=0
  ·rw[if_neg (fun h=>h.1 hb)]
   refine AG (AY 56 false Z (by rw[bne_eq_false_iff_eq];exact hb) ?_)
   refine bV ?_
   refine AG (AY 65 false Z Z ?_)
   refine vh ?_
   exact pN
  refine AG (AY 56 true Z (by rw[bne_iff_ne];exact hb) ?_)
  refine bV ?_
  refine AG (VA.ld 4 Z Z Z Z hcl ?_)
  refine dF ?_
  by_cases hi:f.aI=S.id
  rotate_left
  ·rw[if_neg (fun h=>hi h.2.1)]
   refine AG (AY 65 false Z (beq_eq_false_iff_ne.2 hi) ?_)
   refine vh ?_
   exact pN
  refine AG (AY 65 true Z (beq_iff_eq.2 hi) ?_)
  refine bV ?_
  refine AG (VA.ld 4 Z Z Z Z hsq ?_)
  refine dF ?_
  refine CE Z (fun hs=>?_) (fun hs=>CK ?_)
  ·rw[if_pos ⟨hb,hi,hs⟩]
   refine ae ?_
   refine VG (VL 4 [.int .i64 f.res.code,.string f.res.value,.int .i64 f.res.version,.int .i64 f.res.at_] Z Z Z hre ?_)
   refine VG (VI (LB (pv:=[(0,.int .i64 1),(2,.agg ([.int .i64 f.res.code,.string f.res.value,.int .i64 f.res.version,.int .i64 f.res.at_]:List Value).toArray)]) (cL ⟨1,0,f.res⟩) Z Z Z ym Z) ?_)
   refine VO.ah mid ?_
   refine VG (VK (Lc:=[bB p S]) (Lr:=[pt fb fc bM]) (fun Fr w hF hw _=>B4 Fr w (ok.out hb) (o:=⟨1,0,f.res⟩) (by show(1:Int)≤1;decide) (by show(1:Int)≤3;decide)) Z Z ?_)
   rintro _ _ ⟨rfl,rfl⟩
   refine ae ?_
   exact CR (al.tmp 6 Z Z ((aa.cN (aa.refl (L:=[bB p (S.end_ ⟨1,0,f.res⟩),pt fb fc bM]))).trans (IP 1 Z (IP 0 Z aa.nil))).ah (wY Z Z))
  ·rw[if_neg (fun h=>hs h.2.2)]
   refine ae ?_
   exact pN
 rw[if_neg k2]
 refine ae ?_
 refine CE Z (fun k3=>?_) (fun k3=>CK ?_)
 rotate_left
 ·rw[if_neg k3]
  refine ae ?_
  exact pN
 rw[if_pos k3]
 refine ae ?_
 refine CD (ts 0 32 .nil) ym yo ?_
 refine dF ?_
 by_cases hd:S.eP=2
 rotate_left
 ·rw[if_neg (fun h=>hd h.1)]
  refine AG (AY 86 false Z (beq_eq_false_iff_ne.2 hd) ?_)
  refine bV ?_
  refine AG (AY 95 false Z Z ?_)
  refine bV ?_
  refine AG (AY 104 false Z Z ?_)
  refine vh ?_
  exact pN
 refine AG (AY 86 true Z (beq_iff_eq.2 hd) ?_)
 refine bV ?_
 refine AG (VA.ld 4 Z Z Z Z hcl ?_)
 refine dF ?_
 by_cases hi:f.aI=S.id
 rotate_left
 ·rw[if_neg (fun h=>hi h.2.1)]
  refine AG (AY 95 false Z (beq_eq_false_iff_ne.2 hi) ?_)
  refine bV ?_
  refine AG (AY 104 false Z Z ?_)
  refine vh ?_
  exact pN
 refine AG (AY 95 true Z (beq_iff_eq.2 hi) ?_)
 refine bV ?_
 refine AG (VA.ld 4 Z Z Z Z hsq ?_)
 refine dF ?_
 by_cases hs:f.seq=S.seq
 rotate_left
 ·rw[if_neg (fun h=>hs h.2.2.1)]
  refine AG (AY 104 false Z (beq_eq_false_iff_ne.2 hs) ?_)
  refine vh ?_
  exact pN
 refine AG (AY 104 true Z (beq_iff_eq.2 hs) ?_)
 refine bV ?_
 refine AG (VA.ld 4 Z Z Z Z hty ?_)
 refine dF ?_
 refine CE Z (fun ht=>?_) (fun ht=>CK ?_)
 ·rw[if_pos ⟨hd,hi,hs,ht⟩]
  refine ae ?_
  refine VG (VO.ld 4 Z Z Z hrs ?_)
  refine ae ?_
  refine VO.ah mid ?_
  refine VG (VK (Lc:=[bB p S]) (Lr:=[pt fb fc bM]) (fun Fr w hF hw _=>N5 Fr w ok (ok.out (by rw[hd];decide)) f.reason tn htk.1 htk.2) Z Z ?_)
  rintro _ _ ⟨X,sa,sc,hX,rfl,rfl⟩
  refine ae ?_
  refine CR (al.tmp 6 Z Z (L':=[bB p (S.refused f.reason tn).1]++(av e8 30 sa X.length sc (flat cS X)::X.map gv)) ?_ ⟨X,sa,sc,hX,Z,Z⟩)
  exact((aa.perm hU).trans aa.Ci).ah
 ·rw[if_neg (fun h=>ht h.2.2.2)]
  refine ae ?_
  exact pN
end
end Cl
namespace Cl
open Go Vg T Api Ch Rep Rd Conf Sched
attribute [local irreducible] VO VC VA
section
variable {S:aR}
theorem aR.Ok.ask(ok:S.Ok)(h:S.tries≤16)(ho:S.out=some none){now:Int}(h0:0≤now)(h1:now≤1099511627776):(S.ask now).1.Ok:=
 ⟨ok.c0,ok.c1,ok.t0,ok.t1,ok.b0,ok.b1,ok.tok,ok.ml,fun _=>ho,h0,h1,ok.q0,ok.r0,ok.r1,fun _=>h⟩
theorem aR.Ok.bz(ok:S.Ok)(h:S.tries≤16)(ho:S.out=some none){now:Int}(h0:0≤now)(h1:now≤1099511627776):(S.bz now).1.Ok:=by
 have:=ok.r0
 exact⟨ok.c0,ok.c1,ok.t0,ok.t1,ok.b0,ok.b1,ok.tok,ok.ml,fun _=>ho,h0,h1,ok.q0,by show 0≤S.tries+1;omega,by show S.tries+1≤17;omega,fun e=>by rcases e with e | e<;>exact absurd (show(2:Int)=_ from e) yn⟩
theorem aR.Ok.end_(ok:S.Ok)(o:dY):(S.end_ o).Ok:=
 ⟨ok.c0,ok.c1,ok.t0,ok.t1,ok.b0,ok.b1,ok.tok,ok.ml,fun e=>absurd rfl e,ok.s0,ok.s1,ok.q0,ok.r0,ok.r1,fun e=>by rcases e with e | e<;>exact absurd (show(0:Int)=_ from e) yn⟩
theorem aR.Ok.giveUp(ok:S.Ok)(r:Int):(S.giveUp r).1.Ok:=ok.end_ _
theorem aR.Ok.ja(ok:S.Ok)(ho:S.out=some none)(r now:Int):(S.ja r now).1.Ok:=by
 unfold aR.ja
 split
 ·exact ok.giveUp r
 rename_i h
 have:=ok.b1
 have ok2:(S.pF now).Ok:=⟨ok.c0,ok.c1,ok.t0,ok.t1,ok.b0,ok.b1,ok.tok.take now,ok.ml,ok.out,ok.s0,ok.s1,ok.q0,ok.r0,ok.r1,ok.rb⟩
 split
 ·exact⟨ok.c0,ok.c1,ok.t0,ok.t1,ok.b0,ok.b1,ok.tok.take now,ok.ml,fun _=>ho,ok.s0,ok.s1,ok.q0,ok.r0,ok.r1,fun _=>by show S.tries≤16;omega⟩
 ·exact ok2.giveUp r
theorem aR.Ok.unsure(ok:S.Ok):({ S with unsure:=true }:aR).Ok:=⟨ok.c0,ok.c1,ok.t0,ok.t1,ok.b0,ok.b1,ok.tok,ok.ml,ok.out,ok.s0,ok.s1,ok.q0,ok.r0,ok.r1,ok.rb⟩
theorem aR.Ok.refused(ok:S.Ok)(ho:S.out=some none)(r now:Int):(S.refused r now).1.Ok:=by
 unfold aR.refused
 split
 ·exact ok.unsure.ja ho r now
 split
 ·exact ok.giveUp r
 ·exact ok.ja ho r now
theorem aR.Ok.take(ok:S.Ok)(f:aA)(ms:List bj)(now:Int):(S.take f ms now).1.Ok:=by
 have ht:=qJ now
 unfold aR.take
 split
 ·split
  ·exact ok
  rename_i hc
  have hc0:fp ⟨f.dE,ms,f.drain⟩=0:=Classical.byContradiction fun e=>hc (.inl e)
  have ok2:({ S with ch:=⟨f.dE,ms,f.drain⟩ }:aR).Ok:=⟨ok.c0,ok.c1,ok.t0,ok.t1,ok.b0,ok.b1,ok.tok,(oX hc0).2.1,ok.out,ok.s0,ok.s1,ok.q0,ok.r0,ok.r1,ok.rb⟩
  split
  ·rename_i h1
   exact ok2.bz (ok.rb (.inl h1)) (ok.out (by rw[h1];decide)) ht.1 ht.2
  ·exact ok2
 split
 ·split
  ·exact ok.end_ _
  ·exact ok
 split
 ·split
  ·rename_i h
   exact ok.refused (ok.out (by rw[h.1];decide)) _ _
  ·exact ok
 ·exact ok
theorem aR.Ok.tick(ok:S.Ok)(now:Int):(S.tick now).1.Ok:=by
 have ht:=qJ now
 unfold aR.tick
 split
 ·rename_i h
  split
  ·exact ok.unsure.ja (ok.out bY) _ _
  ·exact ok
 split
 ·rename_i h
  split
  ·exact ok
  split
  ·exact ok.giveUp _
  ·exact ok.ask (ok.rb (.inl h)) (ok.out bY) ht.1 ht.2
 split
 ·rename_i h
  split
  ·exact ok.ask (ok.rb (.inr h)) (ok.out bY) ht.1 ht.2
  ·exact ok
 ·exact ok
theorem aR.Ok.begun(ok:S.Ok)(o:bp)(cl d:Int):(S.begun o cl d).Ok:=by
 have:=ok.q0
 exact⟨ok.c0,ok.c1,ok.t0,ok.t1,ok.b0,ok.b1,ok.tok,ok.ml,fun _=>rfl,ok.s0,ok.s1,by show 0≤S.seq+1;omega,fj _,by show(0:Int)≤17;decide,fun _=>by show(0:Int)≤16;decide⟩
theorem aR.Ok.call(ok:S.Ok)(o:bp)(cl d now:Int):(S.call o cl d now).1.Ok:=by
 have ht:=qJ now
 unfold aR.call
 split
 ·exact ok
 split
 ·exact(ok.begun o cl d).bz (by show(0:Int)≤16;decide) Z ht.1 ht.2
 ·exact(ok.begun o cl d).ask (by show(0:Int)≤16;decide) Z ht.1 ht.2
end
section
variable {p:Nat} {S:aR}
theorem N_(ok:S.Ok)(now:Int):aq Tryz.prog 242 [.pointer (some ⟨p,0,none⟩),.int .i64 now] Fr w [bB p S] (fun v L=>lD (S.tick now).2 v L [bB p (S.tick now).1]):=by
 have htk:=qJ now
 have s0:=ok.s0
 have s1:=ok.s1
 unfold aR.tick
 generalize htn:cV now=tn at htk
 refine TF 68 Tryz.func242 Z ym aw Z Z ?_
 refine tz ?_
 rintro y -
 show VC _ _ _ [pt p (cP S y) ib,pt y.q (dy S.tok) eM,av aN 2 y.a S.ch.ms.length y.c (flat aC S.ch.ms),jn S.out y.b] _
 have mid:cI ⟨Tryz.prog,tab,aw,68,Fr,w⟩ [pt p (cP S y) ib,pt y.q (dy S.tok) eM,av aN 2 y.a S.ch.ms.length y.c (flat aC S.ch.ms),jn S.out y.b] [bB p S]:=(aa.dO (K:=[]) y aa.refl).ah
 refine ae ?_
 refine Fk ?_
 refine iR ?_
 refine Fm ?_
 rw[htn]
 refine aj ?_
 refine CE Z (fun k2=>?_) (fun k2=>?_)
 ·rw[if_pos k2]
  have ho:=ok.out (by rw[k2];decide)
  refine ae ?_
  refine CD (ts 0 11 .nil) ym yo ?_
  refine bg ?_
  refine qP ?_
  refine bg ?_
  refine CP (p:=S.timeout≤tn-S.since) Z (fun h=>?_) (fun h=>CK ?_)
  ·rw[if_pos h]
   refine ae ?_
   refine Lw ?_
   refine VO.ah (L':=[bB p { S with unsure:=true }]) (aa.dO (S:={ S with unsure:=true }) (K:=[]) y aa.refl).ah ?_
   refine ae ?_
   refine VG (VK (Lc:=[bB p { S with unsure:=true }]) (Lr:=[]) (fun Fr w hF hw _=>GM Fr w ok.unsure ho 0 tn htk.1 htk.2) Z Z ?_)
   rintro _ _ ⟨X,sa,sc,hX,rfl,rfl⟩
   refine ae ?_
   exact A9
  ·rw[if_neg h]
   refine ae ?_
   exact A_
 rw[if_neg k2]
 refine ae ?_
 refine CE Z (fun k1=>?_) (fun k1=>?_)
 ·rw[if_pos k1]
  have ho:=ok.out (by rw[k1];decide)
  refine ae ?_
  refine CD (ts 0 11 .nil) ym yo ?_
  refine bg ?_
  refine qP ?_
  refine bg ?_
  refine CP (p:=tn-S.since<S.timeout) Z (fun h=>CX ?_) (fun h=>CK ?_)
  ·rw[if_pos h]
   refine ae ?_
   exact A_
  rw[if_neg h]
  refine aj ?_
  refine CP (p:=S.deadline<tn) Z (fun h2=>?_) (fun h2=>CK ?_)
  ·rw[if_pos h2]
   refine CN mid ?_
   refine ae ?_
   refine VG (VK (Lc:=[bB p S]) (Lr:=[]) (fun Fr w hF hw _=>B5 Fr w ho 2) Z Z ?_)
   rintro _ _ ⟨X,sa,sc,hX,rfl,rfl⟩
   refine ae ?_
   exact A9
  ·rw[if_neg h2]
   refine CN mid ?_
   refine ae ?_
   refine Lx ?_
   rintro _ _ ⟨X,sa,sc,hX,rfl,rfl⟩
   refine ae ?_
   exact A9
 rw[if_neg k1]
 refine ae ?_
 refine CE Z (fun k3=>?_) (fun k3=>CK ?_)
 ·rw[if_pos k3]
  refine aj ?_
  refine CP (p:=S.AB≤tn) Z (fun h=>?_) (fun h=>CK ?_)
  ·rw[if_pos h]
   refine CN mid ?_
   refine ae ?_
   refine Lx ?_
   rintro _ _ ⟨X,sa,sc,hX,rfl,rfl⟩
   refine ae ?_
   exact A9
  ·rw[if_neg h]
   refine ae ?_
   exact A_
 ·rw[if_neg k3]
  refine ae ?_
  exact A_
end
end Cl
namespace Cl
open Go Vg T Api Ch Rep Conf Sched
attribute [local irreducible] VO VC VA
section
variable {p:Nat} {S:aR}
def GN(S:aR):List Value:=(cP S ⟨0,0,none,0⟩).set 4 (.pointer none)
theorem tT{o:bp}{cl d now e:Int}(h:S.eY o cl d=e)(he:e≠0):(S.call o cl d now).1=S∧(S.call o cl d now).2=[]:=by
 unfold aR.call;rw[if_pos (by rw[h];exact he)];exact⟨rfl,rfl⟩
theorem NB(ok:S.Ok)(hq:S.seq≤1000000000)(o:bp)(cl d now:Int):aq Tryz.prog 228 [.pointer (some ⟨p,0,none⟩),.agg o.cells.toArray,.int .i64 cl,.int .i64 d,.int .i64 now] Fr w [bB p S]
  (fun v L=>uJ (S.call o cl d now).2 (S.eY o cl d) v L [bB p (S.call o cl d now).1]):=by
 have htk:=qJ now
 have q0:=ok.q0
 refine TF 78 Tryz.func228 Z ym aw Z Z ?_
 refine tz ?_
 rintro y -
 show VC _ _ _ [pt p (cP S y) ib,pt y.q (dy S.tok) eM,av aN 2 y.a S.ch.ms.length y.c (flat aC S.ch.ms),jn S.out y.b] _
 refine CS (CG (VG (VB (vs:=o.cells) Z fun ob=>VO.ah (L':=[pt p (cP S y) ib,pt y.q (dy S.tok) eM,av aN 2 y.a S.ch.ms.length y.c (flat aC S.ch.ms),jn S.out y.b,pt ob o.cells 85]) (aZ [1,1,1,1,0]).ah ?_)))
 refine ae ?_
 refine Fk ?_
 refine ae ?_
 refine oG ?_
 refine ae ?_
 refine VG (VV (fun Fr w hF hw hS=>B1 Fr w ok (hS.ar 0 Z)) Z ?_)
 refine ae ?_
 refine CC Z (fun hb=>?_) (fun hb=>?_)
 ·have he:S.eY o cl d=63:=by unfold aR.eY;rw[if_pos (by simpa using hb)]
  refine ae ?_
  exact CR (al.cz 10 11 Z Z Z (tV (y:=y) (R:=[_])).ah Ml)
 have hd0:S.eP=0:=by simpa using hb
 have hcE:S.eY o cl d=if c_ o≠0∨cl<0∨S.cls≤cl∨d<0∨1099511627776<d then 2 else 0:=by unfold aR.eY;rw[if_neg (fun h=>h hd0)]
 refine CS (VC.cZ (σ:=Bool) (fun b=>[(0,pV p),(2,.int .i64 cl),(3,.int .i64 d),(4,.int .i64 now),(6,pV ob),(19,.bool b)]) (fun _=>[pt p (cP S y) ib,pt y.q (dy S.tok) eM,av aN 2 y.a S.ch.ms.length y.c (flat aC S.ch.ms),jn S.out y.b,pt ob o.cells 85]) (fun b=>b=true↔(c_ o≠0∨cl<0∨S.cls≤cl∨d<0∨1099511627776<d)) ?_ ?_)
 ·refine ae ?_
  refine VG (VL 4 o.cells Z Z Z Z ?_)
  refine VG (VV (fun Fr w hF hw hS=>Api.gq Fr w o) Z ?_)
  refine ae ?_
  refine VC.dd Z (fun k1=>CK ?_) (fun k1=>?_)
  ·exact⟨true,by simp[k1],SC Z (SC Z (SC Z (SC Z (SC Z (Sub.bl Z (by rw[bne_iff_ne];exact k1) (SN _)))))),ER⟩
  refine ae ?_
  refine CP (p:=cl<0) Z (fun k2=>CK ?_) (fun k2=>?_)
  ·exact⟨true,by simp[k2],SC Z (SC Z (SC Z (SC Z (SC Z (Sub.bl Z (DT k2) (SN _)))))),ER⟩
  refine aj ?_
  refine CP (p:=S.cls≤cl) Z (fun k3=>CK ?_) (fun k3=>?_)
  ·exact⟨true,by simp[k3],SC Z (SC Z (SC Z (SC Z (SC Z (Sub.bl Z (DT k3) (SN _)))))),ER⟩
  refine ae ?_
  refine CP (p:=d<0) Z (fun k4=>CK ?_) (fun k4=>?_)
  ·exact⟨true,by simp[k4],SC Z (SC Z (SC Z (SC Z (SC Z (Sub.bl Z (DT k4) (SN _)))))),ER⟩
  refine ae ?_
  exact⟨decide (1099511627776<d),by simp[k1,k2,k3,k4],SC Z (SC Z (SC Z (SC Z (SC Z (Sub.bl Z Z (SN _)))))),ER⟩
 rintro b hb2
 refine ae ?_
 refine CC Z (fun k=>?_) (fun k=>CK ?_)
 ·have he:S.eY o cl d=2:=by rw[hcE,if_pos (hb2.1 k)]
  refine ae ?_
  exact CR (al.cz 10 11 Z Z Z (tV (y:=y) (R:=[_])).ah Ml)
 have he:S.eY o cl d=0:=by rw[hcE,if_neg (fun h=>by rw[hb2.2 h] at k;cases k)]
 rw[he]
 refine ae ?_
 refine Fm ?_
 refine ae ?_
 generalize htn:cV now=tn at htk
 refine VG (VK (Lc:=[]) (fun Fr w hF hw _=>SX Fr w) Z Z ?_)
 rintro _ _ ⟨sb,rfl,rfl⟩
 refine VO.ah (L':=[pt p (cP S y) ib,pt y.q (dy S.tok) eM,av aN 2 y.a S.ch.ms.length y.c (flat aC S.ch.ms),pt sb (mL none) lE,pt ob o.cells 85]) (aZ [1,1,1,0,1]).ah ?_
 refine ae ?_
 refine VG (VO.st 0 (cs':=cP { S with out:=some none } { y with b:=sb }) Z Z Z Z (by show 8<21;omega) Z Z ?_)
 refine aj ?_
 refine u5 ?_
 refine ae ?_
 refine VG (VO.st 0 (cs':=cP { S with out:=some none,seq:=S.seq+1 } { y with b:=sb }) Z Z Z Z (by show 13<21;omega) Z Z ?_)
 refine ae ?_
 refine VG (VO.st 0 (cs':=cP { S with out:=some none,seq:=S.seq+1,tries:=0 } { y with b:=sb }) Z Z Z Z (by show 14<21;omega) Z Z ?_)
 refine VG (VO.st 0 (cs':=cP { S with out:=some none,seq:=S.seq+1,tries:=0,unsure:=false } { y with b:=sb }) Z Z Z Z Mk Z Z ?_)
 refine ae ?_
 refine VG (VL 4 o.cells Z Z Z Z ?_)
 refine ae ?_
 refine VG (VT (vs:=o.cells) (cs':=cP { S with out:=some none,seq:=S.seq+1,tries:=0,unsure:=false,op:=o } { y with b:=sb }) 0 Z Z Z Z (by show 17+4≤21;omega) Z Z Z ?_)
 refine VG (VO.st 0 (cs':=cP { S with out:=some none,seq:=S.seq+1,tries:=0,unsure:=false,op:=o,cl:=cl } { y with b:=sb }) Z Z Z Z (by show 15<21;omega) Z Z ?_)
 refine VG (VO.st 0 (cs':=cP (S.begun o cl d) { y with b:=sb }) Z Z Z Z (by show 16<21;omega) Z Z ?_)
 refine aj ?_
 have okb:=ok.begun o cl d
 refine CP (p:=0<S.ch.aB) Z (fun hp=>?_) (fun hp=>CK ?_)
 ·have ec:S.call o cl d now=(S.begun o cl d).bz tn:=by unfold aR.call;rw[if_neg (by rw[he];decide),if_pos hp,htn]
  rw[ec]
  refine Ly ?_
  refine ae ?_
  refine VG (VK (Lc:=[bB p (S.begun o cl d)]) (Lr:=[]) (fun Fr w hF hw _=>G6 Fr w okb tn) Z Z ?_)
  rintro _ _ ⟨X,sa,sc,hX,rfl,rfl⟩
  refine ae ?_
  exact CR (al.cz 10 11 Z Z Z ER ⟨X,sa,sc,hX,Z,bA _⟩)
 ·have ec:S.call o cl d now=(S.begun o cl d).ask tn:=by unfold aR.call;rw[if_neg (by rw[he];decide),if_neg hp,htn]
  rw[ec]
  refine Ly ?_
  refine ae ?_
  refine VG (VK (Lc:=[bB p (S.begun o cl d)]) (Lr:=[]) (fun Fr w hF hw _=>GH Fr w okb tn) Z Z ?_)
  rintro _ _ ⟨X,sa,sc,hX,rfl,rfl⟩
  refine ae ?_
  exact CR (al.cz 10 11 Z Z Z ER ⟨X,sa,sc,hX,Z,bA _⟩)
end
theorem Nj{c r:Int}(h0:0≤c)(h1:c≤16)(h2:1≤r)(h3:r≤1099511627776):aq Tryz.prog 92 [.int .i64 c,.int .i64 r] Fr w [] (fun v L=>∃p,v=.tuple #[.pointer (some ⟨p,0,none⟩),.int .i64 0]∧L=[pt p (dy ⟨c,r,c,0,0⟩) eM]):=by
 refine TF 25 Tryz.func92 Z ym aw Z Z ?_
 refine ae ?_
 refine VG (VY 8 false Z (DF yd) ?_)
 refine au ?_
 refine VG (VY 12 false Z (DF yd) ?_)
 refine au ?_
 refine VG (VY 16 false Z (DF yd) ?_)
 refine au ?_
 refine CP (p:=1099511627776<r) Z (fun h=>absurd h yd) (fun h=>CK ?_)
 refine au ?_
 refine VG (VI (LB (pv:=[(0,.int .i64 c),(1,.int .i64 r),(2,.int .i64 c)]) (dy ⟨c,r,c,0,0⟩) Z Z Z ym Z) ?_)
 refine VG (VB (vs:=dy ⟨c,r,c,0,0⟩) Z fun q=>?_)
 refine ae ?_
 exact CR (al.cz 4 5 Z Z Z ER ⟨q,Z,Z⟩)
def oo(c:bn)(id:Int):Int:=if c=ct c∧0≤id∧id<c.bt then 0 else 2
theorem Q_{c:bn}(h:c=ct c)(id:Int):(om c id).Ok:=by
 obtain⟨_,b2,b3,b4,_,b6⟩:=tY h
 exact⟨by show(1:Int)≤c.qs.length;omega,by show(c.qs.length:Int)≤4;omega,by show 0≤c.timeout;omega,by show c.timeout≤1000;omega,b3.1,b3.2,⟨b3.1,b3.2,b4.1,b4.2,b3.1,fj _,fj _,by show(0:Int)≤_;decide,by show(0:Int)≤0;decide,by show(0:Int)≤0;decide⟩,by show 0≤6;decide,fun k=>absurd Z k,by show(0:Int)≤0;decide,by show(0:Int)≤_;decide,by show(0:Int)≤0;decide,by show(0:Int)≤0;decide,by show(0:Int)≤17;decide,fun _=>by show(0:Int)≤16;decide⟩
theorem NW(c:bn){qa:Option Addr}{qc:Nat}(hq:fT Fr w qa c.qs)(hqa:nR qa)(hqc:c.qs.length≤qc)(id:Int):
  aq Tryz.prog 46 [.agg (c.cells qa qc).toArray,.int .i64 id] Fr w [] (fun v L=>if oo c id=0 then ∃p,v=.tuple #[.pointer (some ⟨p,0,none⟩),.int .i64 0]∧L=[bB p (om c id)] else v=.tuple #[.pointer none,.int .i64 2]∧L=[]):=by
 refine TF 42 Tryz.func46 Z ym aw Z Z ?_
 refine CS (CG (VG (VB (vs:=c.cells qa qc) Z fun b2=>VG (VN ?_))))
 refine ae ?_
 refine A7 ?_
 refine VG (VV (fun Fr w hF hs _=>Conf.gq Fr w c qa qc (lS hq hF hs) hqa hqc) Z ?_)
 refine au ?_
 by_cases hf:c=ct c
 rotate_left
 ·have hE:oo c id≠0:=by unfold oo;rw[if_neg (fun h=>hf h.1)];decide
  refine VG (VY 10 true Z (by unfold jz;rw[if_neg hf];rfl) ?_)
  refine au ?_
  refine VG (VY 14 true Z Z ?_)
  refine iS ?_
  exact Fo
 refine VG (VY 10 false Z (by unfold jz;rw[if_pos hf];rfl) ?_)
 refine au ?_
 by_cases h0:id<0
 ·have hE:oo c id≠0:=by unfold oo;rw[if_neg (fun h=>by omega)];decide
  refine VG (VY 14 true Z (DT h0) ?_)
  refine iS ?_
  exact Fo
 refine VG (VY 14 false Z (DF h0) ?_)
 refine bF ?_
 refine CP (p:=c.bt≤id) Z (fun h1=>?_) (fun h1=>CK ?_)
 ·have hE:oo c id≠0:=by unfold oo;rw[if_neg (fun h=>by omega)];decide
  refine au ?_
  exact Fo
 have hE:oo c id=0:=by unfold oo;rw[if_pos ⟨hf,by omega,by omega⟩]
 obtain⟨_,b2,b3,b4,_,b6⟩:=tY hf
 refine bF ?_
 refine VG (VI (LB (pv:=[(0,.int .i64 id),(1,.int .i64 c.qs.length),(2,.int .i64 c.timeout),(3,.int .i64 c.eR)]) (GN (om c id)) Z Z Z ym Z) ?_)
 refine VG (VB (vs:=GN (om c id)) Z fun p=>?_)
 refine iC ?_
 refine VG (VK (Lc:=[]) (fun Fr w hF hs _=>Nj Fr w b3.1 b3.2 b4.1 b4.2) Z Z ?_)
 rintro _ _ ⟨q,rfl,rfl⟩
 refine iC ?_
 refine VG (VO.st 1 (cs':=cP (om c id) ⟨q,0,none,0⟩) Z Z Z Z (by show 4<21;omega) Z Z ?_)
 refine iC ?_
 exact CR (al.cz 4 5 Z Z Z (aa.dO (S:=om c id) (K:=[]) ⟨q,0,none,0⟩ (IP 1 Z (IP 0 Z (aa.cN (aa.pure trivial aa.nil))))).ah (by rw[if_pos hE];exact⟨p,Z,Z⟩))
end Cl
namespace Cl
open Go Vg T Api Ch Rep
attribute [local irreducible] VO VC VA
abbrev jC:TypeId:=139
abbrev jJ:TypeId:=197
def recC(r:RecM):List Value:=[.int .i64 r.aI,.int .i64 r.seq]++r.op.cells ++ [.int .i64 r.from_,.int .i64 r.toQ]++cL r.out
theorem qE(r:RecM):(recC r).length=14:=rfl
def eS(h:bo)(a:Option Addr)(c:Nat):List Value:=[.bool true,.slice a h.bc.length c,.int .i64 h.events]++h.last.map (Value.int .i64)
def zk(p:Nat)(h:bo)(a:Option Addr)(c:Nat):List HP:=[pt p (eS h a c) jC,av jJ 14 a h.bc.length c (flat recC h.bc)]
def gQ(p:Nat)(h:bo):HP:=hex fun y:Option Addr×Nat=>b_ (zk p h y.1 y.2)
theorem aY.bH(p:Nat)(h:bo):aY (ι:=Option Addr×Nat) (gQ p h) (fun _=>True) (fun y=>zk p h y.1 y.2):=fun w ids ⟨x,h⟩ hn=>⟨x,trivial,ids,h,hn,fun _ h=>h⟩
theorem aa.bH{p:Nat}{S:bo}{L K:List HP}(y:Option Addr×Nat)(h:aa L (zk p S y.1 y.2++K)):aa L (gQ p S::K):=aa.ex (f:=fun y:Option Addr×Nat=>b_ (zk p S y.1 y.2)) y (aa.sep h)
structure bo.Ok(h:bo):Prop where
 rl:h.bc.length≤1000000
 e0:0≤h.events
 e1:h.events≤10000000
 ll:h.last.length=6
 lr:∀x∈h.last,0≤x∧x≤h.bc.length
def bo.kN(h:bo)(c:Int):Int:=(h.last[c.toNat]?).getD 0
section
variable {p:Nat} {S:bo} {a:Option Addr} {cap:Nat}
theorem HI(ok:S.Ok):(eS S a cap).length=9:=by show(_::_::_::S.last.map _).length=9;simp[ok.ll]
theorem Pq{k:Nat}{x:Int}(h:S.last[k]?=some x):(eS S a cap)[3+k]?=some (.int .i64 x):=by
 show(_::_::_::S.last.map (Value.int .i64))[3+k]?=_
 rw[show 3+k=k+1+1+1 from by omega]
 simp only[pZ]
 rw[dH,h];rfl
theorem Pr{k:Nat}(x:Int):(eS S a cap).set (3+k) (.int .i64 x)=eS { S with last:=S.last.set k x } a cap:=by
 show(_::_::_::S.last.map (Value.int .i64)).set (3+k) _=_::_::_::(S.last.set k x).map (Value.int .i64)
 rw[show 3+k=k+1+1+1 from by omega]
 simp only[vt]
 rw[gJ]
theorem bo.Ok.at(ok:S.Ok){c:Int}(h:0≤c∧c<6):∃k:Nat,c=k∧k<6∧S.last[k]?=some (S.kN c)∧0≤S.kN c∧S.kN c≤S.bc.length:=by
 obtain⟨k,rfl⟩:∃k:Nat,c=k:=⟨c.toNat,by omega⟩
 have hk:k<S.last.length:=by rw[ok.ll];omega
 have e:S.last[k]?=some (S.kN (k:Int)):=by
  unfold bo.kN
  rw[fy,GE hk];rfl
 exact⟨k,Z,by omega,e,ok.lr _ (ME e)⟩
theorem zr{c:Int}(h:c<0∨6≤c∨S.kN c=0):S.eU c=none:=by unfold bo.eU;exact if_pos h
theorem HU(ok:S.Ok){c:Int}(h0:0≤c)(h1:c<6)(h2:S.kN c≠0):∃i r,S.eU c=some (i,r)∧S.bc[i]?=some r∧S.kN c=(i:Int)+1∧i<S.bc.length:=by
 obtain⟨k,_,_,_,g1,g2⟩:=ok.at ⟨h0,h1⟩
 have hi:(S.kN c).toNat-1<S.bc.length:=by omega
 refine⟨(S.kN c).toNat-1,S.bc[(S.kN c).toNat-1],?_,GE hi,by omega,hi⟩
 unfold bo.eU
 rw[if_neg (fun h=>by
  rcases h with h | h | h
  ·omega
  ·omega
  ·exact h2 h)]
 show(S.bc[(S.kN c).toNat-1]?).map _=_
 rw[GE hi];rfl
theorem HT(ok:S.Ok)(c:Int):(S.eU c=none∧(c<0∨6≤c∨S.kN c=0))∨∃i r,S.eU c=some (i,r)∧S.bc[i]?=some r∧S.kN c=(i:Int)+1∧i<S.bc.length:=by
 by_cases h:c<0∨6≤c∨S.kN c=0
 ·exact .inl ⟨zr h,h⟩
 ·exact .inr (HU ok yd yd yd)
def mB(S:bo)(a:Option Addr)(c:Int):Value:=match S.eU c with
 | none=>.pointer none
 | some (i,_)=>.pointer (a.map fun x=>⟨x.block,x.off+i*14,none⟩)
theorem Ps:aq Tryz.prog 43 [] Fr w [] (fun v L=>∃p,v=.pointer (some ⟨p,0,none⟩)∧L=[gQ p rT]):=by
 refine TF 3 Tryz.func43 Z ym aw Z Z ?_
 refine ae ?_
 refine VG (VI (LB (pv:=[(0,.bool true)]) (eS rT none 0) Z Z Z ym Z) ?_)
 refine VG (VB (vs:=eS rT none 0) Z fun q=>?_)
 refine ae ?_
 exact CR (al.tmp 0 Z Z (aa.bH (S:=rT) (K:=[]) (none,0) (IP 0 Z (aa.cN aa.nil))).ah ⟨q,Z,Z⟩)
theorem HK(h:a7 Fr w p (eS S a cap)):aq Tryz.prog 132 [.pointer (some ⟨p,0,none⟩)] Fr w [] (fun v L=>v=.bool false∧L=[]):=by
 refine TF 12 Tryz.func132 Z ym aw Z Z ?_
 refine au ?_
 refine xh ?_
 refine g_ ?_
 exact jQ
theorem PT(ok:S.Ok)(h:a7 Fr w p (eS S a cap))(hr:aP recC 14 Fr w a S.bc)(c:Int):aq Tryz.prog 255 [.pointer (some ⟨p,0,none⟩),.int .i64 c] Fr w [] (fun v L=>v=mB S a c∧L=[]):=by
 have hrl:=ok.rl
 refine TF 32 Tryz.func255 Z ym aw Z Z ?_
 refine au ?_
 by_cases h0:c<0
 ·refine VG (VY 7 true Z (DT h0) ?_)
  refine au ?_
  refine VG (VY 11 true Z Z ?_)
  refine iS ?_
  exact CR (al.tmp 4 Z Z ER ⟨by rw[mB,zr (.inl h0)],Z⟩)
 refine VG (VY 7 false Z (DF h0) ?_)
 refine au ?_
 by_cases h6:6≤c
 ·refine VG (VY 11 true Z (DT h6) ?_)
  refine iS ?_
  exact CR (al.tmp 4 Z Z ER ⟨by rw[mB,zr (.inr (.inl h6))],Z⟩)
 refine VG (VY 11 false Z (DF h6) ?_)
 obtain⟨k,rfl,hk,hx,g1,g2⟩:=ok.at (c:=c) ⟨by omega,by omega⟩
 have hx':(eS S a cap)[0+3+k*1]?=some (.int .i64 (S.kN k)):=by rw[show 0+3+k*1=3+k from by omega];exact Pq hx
 refine au ?_
 refine VG (VI (iu k Z Z Z Z Z Z hk) ?_)
 refine VG (VO.load Z Z (an.ar h hx') ?_)
 refine au ?_
 refine CE Z (fun hz=>?_) (fun hz=>CK ?_)
 ·refine au ?_
  exact CR (al.tmp 4 Z Z ER ⟨by rw[mB,zr (.inr (.inr hz))],Z⟩)
 obtain⟨i,r,e1,e2,e3,e4⟩:=HU ok yd yd hz
 obtain⟨rb,ro,rfl,_,_⟩:=hr.at_ (fun e=>by rw[e] at e4;exact absurd e4 yf)
 refine ae ?_
 refine CD (ts 0 13 .nil) ym yo ?_
 refine pJ ?_
 refine AG (AI Z (iu k Z Z Z Z Z Z hk) ?_)
 refine AG (VA.load Z Z Z (an.ar h hx') ?_)
 refine qP ?_
 refine AG (AI Z (dU i Z Z Z Z Z yd e4) ?_)
 refine cG ?_
 exact CR (al.tmp 4 Z Z ER ⟨by rw[mB,e1];rfl,Z⟩)
end
end Cl
namespace Cl
open Go Vg T Api Ch Rep
attribute [local irreducible] VO VC VA
section
variable {p:Nat} {S:bo}
def qh(S:bo)(c seq:Int)(o:bp):RecM:=⟨c,seq,o,S.events,-1,I7⟩
theorem bo.yJ{c seq:Int}{o:bp}(h:c<0∨6≤c∨seq<1∨c_ o≠0):S.eY c seq o=2:=by unfold bo.eY;exact if_pos h
theorem bo.Nr{c seq:Int}{o:bp}(h:¬(c<0∨6≤c∨seq<1∨c_ o≠0))(h2:S.eU c=none):S.eY c seq o=0:=by unfold bo.eY;rw[if_neg h,h2]
theorem bo.Ns{c seq:Int}{o:bp}{i:Nat}{r:RecM}(h:¬(c<0∨6≤c∨seq<1∨c_ o≠0))(h2:S.eU c=some (i,r)):S.eY c seq o=if r.toQ<0 then 63 else if seq≤r.seq then 70 else 0:=by unfold bo.eY;rw[if_neg h,h2]
theorem bo.tT{c seq e:Int}{o:bp}(h:S.eY c seq o=e)(he:e≠0):S.call c seq o=S:=by unfold bo.call;rw[h,if_pos he]
theorem bo.Ny{c seq:Int}{o:bp}(h:S.eY c seq o=0):S.call c seq o=⟨S.bc ++ [qh S c seq o],S.events+1,S.last.set c.toNat ((S.bc.length:Int)+1)⟩:=by unfold bo.call;rw[h,if_neg yn];rfl
theorem bo.Ok.call(ok:S.Ok)(h1:S.bc.length<1000000)(h2:S.events<10000000)(c seq:Int)(o:bp):(S.call c seq o).Ok:=by
 unfold bo.call
 split
 ·exact ok
 have:=ok.e0
 refine⟨by show(S.bc ++ [_]).length≤_;rw[a_];simp;omega,by show 0≤S.events+1;omega,by show S.events+1≤_;omega,by show(S.last.set _ _).length=6;rw[gk,ok.ll],fun x hx=>?_⟩
 show 0≤x∧x≤((S.bc ++ [_]).length:Int)
 rw[a_]
 rcases lI hx with h | h
 ·have:=ok.lr x h;simp;omega
 ·rw[h];simp;omega
theorem Po(ok:S.Ok)(h2:S.events<10000000)(c seq:Int)(o:bp):aq Tryz.prog 229 [.pointer (some ⟨p,0,none⟩),.int .i64 c,.int .i64 seq,.agg o.cells.toArray] Fr w [gQ p S]
  (fun v L=>v=.int .i64 (S.eY c seq o)∧L=[gQ p (S.call c seq o)]):=by
 have hrl:=ok.rl
 have he0:=ok.e0
 refine TF 77 Tryz.func229 Z ym aw Z Z ?_
 refine VC.bu 0 Z (aY.bH p S) ?_
 rintro⟨a,cap⟩ -
 show VC _ _ _ [pt p (eS S a cap) jC,av jJ 14 a S.bc.length cap (flat recC S.bc)] _
 refine CS (CG (VG (VB (vs:=o.cells) Z fun ob=>VO.ah (L':=[pt p (eS S a cap) jC,av jJ 14 a S.bc.length cap (flat recC S.bc),pt ob o.cells 85]) (aZ [1,1,0]).ah ?_)))
 have fin:∀a cap,cI ⟨Tryz.prog,tab,aw,77,Fr,w⟩ [pt p (eS S a cap) jC,av jJ 14 a S.bc.length cap (flat recC S.bc),pt ob o.cells 85] [gQ p S]:=fun a cap=>(aa.bH (K:=[]) (a,cap) (aZ [0,0])).ah
 refine ae ?_
 refine VG (VV (fun Fr w hF hw hS=>HK Fr w (hS.ar 0 Z)) Z ?_)
 refine pR ?_
 refine au ?_
 by_cases k0:c<0
 ·have hE:=bo.yJ (S:=S) (c:=c) (seq:=seq) (o:=o) (.inl k0)
  refine VG (VY 14 true Z (DT k0) ?_)
  refine au ?_
  refine VG (VY 18 true Z Z ?_)
  refine au ?_
  refine VG (VY 22 true Z Z ?_)
  refine iS ?_
  exact Ba
 refine VG (VY 14 false Z (DF k0) ?_)
 refine au ?_
 by_cases k1:6≤c
 ·have hE:=bo.yJ (S:=S) (c:=c) (seq:=seq) (o:=o) (.inr (.inl k1))
  refine VG (VY 18 true Z (DT k1) ?_)
  refine au ?_
  refine VG (VY 22 true Z Z ?_)
  refine iS ?_
  exact Ba
 refine VG (VY 18 false Z (DF k1) ?_)
 refine au ?_
 by_cases k2:seq<1
 ·have hE:=bo.yJ (S:=S) (c:=c) (seq:=seq) (o:=o) (.inr (.inr (.inl k2)))
  refine VG (VY 22 true Z (DT k2) ?_)
  refine iS ?_
  exact Ba
 refine VG (VY 22 false Z (DF k2) ?_)
 refine au ?_
 refine VG (VL 2 o.cells Z Z Z Z ?_)
 refine VG (VV (fun Fr w hF hw hS=>Api.gq Fr w o) Z ?_)
 refine au ?_
 refine VC.dd Z (fun k3=>?_) (fun k3=>CK ?_)
 ·have hE:=bo.yJ (S:=S) (c:=c) (seq:=seq) (o:=o) (.inr (.inr (.inr k3)))
  refine au ?_
  exact Ba
 have hn:¬(c<0∨6≤c∨seq<1∨c_ o≠0):=by
  rintro(h | h | h | h)
  ·exact k0 h
  ·exact k1 h
  ·exact k2 h
  ·exact h k3
 refine CS (VC.cZ (σ:=Option Addr×Nat) (fun _=>[(0,pV p),(1,.int .i64 c),(2,.int .i64 seq),(7,pV ob)]) (fun y=>[pt p (eS S y.1 y.2) jC,av jJ 14 y.1 S.bc.length y.2 (flat recC S.bc),pt ob o.cells 85]) (fun _=>S.eY c seq o=0) ?_ ?_)
 ·refine ae ?_
  refine Lz ?_
  rcases HT ok c with ⟨e1,_⟩ | ⟨i,r,e1,e2,e3,e4⟩
  ·rw[show mB S a c=.pointer none by rw[mB,e1]]
   refine pR ?_
   exact⟨(a,cap),bo.Nr hn e1,aF,ER⟩
  have hE:=bo.Ns hn e1
  refine VO.bu 1 Z (aY.sl _ _ _ _ _ _) ?_
  rintro(_ | ⟨mb,rest⟩) ⟨x1,x2,x3⟩
  ·obtain⟨_,h0,_⟩:=x3
   omega
  obtain⟨rfl,x4⟩:=x3
  rw[show mB S (some ⟨mb,0,none⟩) c=.pointer (some ⟨mb,0+i*14,none⟩) by rw[mB,e1];rfl]
  show VO _ _ _ _ _ [pt mb (flat recC S.bc++rest) jJ,pt p (eS S (some ⟨mb,0,none⟩) cap) jC,pt ob o.cells 85] _
  have back:cI ⟨Tryz.prog,tab,aw,77,Fr,w⟩ [pt mb (flat recC S.bc++rest) jJ,pt p (eS S (some ⟨mb,0,none⟩) cap) jC,pt ob o.cells 85] [pt p (eS S (some ⟨mb,0,none⟩) cap) jC,av jJ 14 (some ⟨mb,0,none⟩) S.bc.length cap (flat recC S.bc),pt ob o.cells 85]:=(IP 1 rfl (aa.sl x1 x2 x4 aa.refl)).ah
  have c7:(flat recC S.bc++rest)[0+i*14+7]?=some (.int .i64 r.toQ):=by rw[bZ];exact o9 qE e2 rfl rest
  have c1:(flat recC S.bc++rest)[0+i*14+1]?=some (.int .i64 r.seq):=by rw[bZ];exact o9 qE e2 rfl rest
  refine oK ?_
  refine VG (VO.load Z Z (an.one 0 Z c7) ?_)
  refine ae ?_
  refine CP (p:=r.toQ<0) Z (fun j=>?_) (fun j=>CK ?_)
  ·have hE2:S.eY c seq o=63:=by rw[hE,if_pos j]
   refine CN back ?_
   refine ae ?_
   exact LA
  refine ae ?_
  refine VG (VO.load Z Z (an.one 0 Z c1) ?_)
  refine ae ?_
  refine CP (p:=seq≤r.seq) Z (fun j2=>?_) (fun j2=>CK ?_)
  ·have hE2:S.eY c seq o=70:=by rw[hE,if_neg j,if_pos j2]
   refine CN back ?_
   refine ae ?_
   exact LA
  exact⟨(some ⟨mb,0,none⟩,cap),by rw[hE,if_neg j,if_neg j2],aF,back⟩
 rintro⟨a,cap⟩ hE
 dsimp only
 have hc:=bo.Ny hE
 obtain⟨k,rfl,hk,hx,g1,g2⟩:=ok.at (c:=c) ⟨by omega,by omega⟩
 refine CS (CD (ts 0 13 (.only 13 (.only 14 (ts 15 2 (.only 17 .nil))))) ym yo ?_)
 refine eu ?_
 refine AG (VA.cK 2 o.cells Z Z Z Z Z ?_)
 refine eu ?_
 refine AG (AI Z (LB (pv:=[(0,.int .i64 k),(1,.int .i64 seq),(2,.agg o.cells.toArray),(3,.int .i64 S.events),(4,.int .i64 (-1))]) (recC (qh S k seq o)) Z Z Z ym Z) ?_)
 refine AG (AO (aG.buildSlice (n:=1) (pv:=[(0,.agg (recC (qh S k seq o)).toArray)]) (cells:=recC (qh S k seq o)) Z Z Z Z yn (fN Z Z Z)) Z ?_ ?_)
 ·rintro _ _ ⟨nb,rfl,rfl⟩
  exact yv
 rintro _ _ ⟨nb,rfl,rfl⟩
 refine AG (AO (aG.append (m:=1) (news:=recC (qh S k seq o)) 2 Z Z Z Z Z Z Z (dN.pt 0 Z Z Z) Z (by show(S.bc.length+1)*136≤_;omega) yd) Z ?_ ?_)
 ·rintro _ _ ⟨a1,c1,rfl,hc1,rfl⟩
  exact yv
 rintro _ _ ⟨a1,c1,rfl,hc1,rfl⟩
 refine gi ?_
 have e1:S.bc.length+1=(S.bc ++ [qh S k seq o]).length:=by rw[a_];rfl
 refine AG (VA.st 2 (cs':=eS { S with bc:=S.bc ++ [qh S k seq o] } a1 c1) Z Z Z Z Z (by rw[HI ok];decide) (by rw[e1];rfl) Z yv ?_)
 refine cG ?_
 generalize hS1:({ S with bc:=S.bc ++ [qh S k seq o] }:bo)=S1
 have l1:S1.bc=S.bc ++ [qh S k seq o]:=by rw[←hS1]
 have l2:S1.last=S.last:=by rw[←hS1]
 have l3:S1.events=S.events:=by rw[←hS1]
 refine CN (L':=[pt p (eS S1 a1 c1) jC,av jJ 14 a1 S1.bc.length c1 (flat recC S1.bc),pt ob o.cells 85]) ?_ ?_
 ·rw[l1,ik,vU,←e1]
  exact(aZ [2,0,1]).ah
 refine EN ?_
 refine eu ?_
 refine AG (AI Z (iu k Z Z Z Z Z Z hk) ?_)
 refine AG (VA.st 0 (cs':=eS { S1 with last:=S1.last.set k S1.bc.length } a1 c1) Z Z Z Z Z (by show 0+3+k*1<(_::_::_::S1.last.map _).length;rw[l2];simp[ok.ll];omega) (by show(eS S1 a1 c1).set (0+3+k*1) _=_;rw[show 0+3+k*1=3+k from by omega];exact Pr _) Z yv ?_)
 refine cG ?_
 refine CN (L':=[pt p (eS { S1 with last:=S1.last.set k S1.bc.length } a1 c1) jC,av jJ 14 a1 S1.bc.length c1 (flat recC S1.bc)]) (aZ [0,0]).ah ?_
 refine aj ?_
 refine u5 ?_
 refine ae ?_
 refine VG (VO.st 0 (cs':=eS { S1 with last:=S1.last.set k S1.bc.length,events:=S1.events+1 } a1 c1) Z Z Z Z (by show 2<(_::_::_::(S1.last.set k _).map _).length;simp) Z Z ?_)
 refine ae ?_
 refine CR (al.tmp 8 Z Z (L':=[gQ p { S1 with last:=S1.last.set k S1.bc.length,events:=S1.events+1 }]) (aa.bH (S:={ S1 with last:=S1.last.set k S1.bc.length,events:=S1.events+1 }) (K:=[]) (a1,c1) aa.refl).ah ⟨by rw[hE],?_⟩)
 rw[hc,l1,l2,l3,←e1,fy]
 rfl
end
end Cl
namespace Cl
open Go Vg T Api Ch Rep
attribute [local irreducible] VO VC VA
theorem Yo{B R vs:List Value}{o j n:Nat}(hR:(B.drop o).take n=R)(hn:R.length=n)(hj:j+vs.length≤n)(ho:o≤B.length):cT B (o+j) vs=cT B o (cT R j vs):=by
 have hB:B.drop o=R++B.drop (o+n):=by rw[←hR,←List.drop_drop,List.take_append_drop]
 have h1:(cT R j vs).length=n:=by unfold cT;simp;omega
 have h2:B.take (o+j)=B.take o++R.take j:=by
  rw[List.take_add,hB,List.take_append_of_le_length yd]
 have h3:B.drop (o+j+vs.length)=R.drop (j+vs.length)++B.drop (o+n):=by
  rw[Nat.add_assoc,←List.drop_drop,hB,List.drop_append_of_le_length yd]
 unfold cT at h1 ⊢
 rw[h1,h2,h3]
 simp
theorem OZ{α:Type}{c:α→List Value}{n:Nat}(h:∀a,(c a).length=n){i j:Nat}{l:List α}{a a':α}{vs:List Value}(ha:l[i]?=some a)(hj:j+vs.length≤n)(hc:cT (c a) j vs=c a')(rest:List Value):cT (flat c l++rest) (i*n+j) vs=flat c (l.set i a')++rest:=by
 have hi:i<l.length:=(cH.1 ha).1
 have hle:i*n≤l.length*n:=so n (Nat.le_of_lt hi)
 rw[←rH h a' rest hi,←hc]
 exact Yo (kK h ha rest) (h a) hj (by rw[a_,dS h];omega)
section
variable {p:Nat} {S:bo}
def bo.o6(h:bo)(c seq:Int)(o:dY):Int:=
 if o.kind≠1∧o.kind≠2∧o.kind≠3 then 2
 else match h.eU c with
  | none=>4
  | some (i,r)=>if r.seq≠seq∨0≤r.toQ then 4 else 0
def rB(S:bo)(r:RecM)(o:dY):RecM:={ r with toQ:=S.events,out:=o }
theorem bo.Oy{c seq:Int}{o:dY}(h:o.kind≠1∧o.kind≠2∧o.kind≠3):S.end_ c seq o=S∧S.o6 c seq o=2:=by unfold bo.end_ bo.o6;rw[if_pos h,if_pos h];exact⟨rfl,rfl⟩
theorem bo.Oz{c seq:Int}{o:dY}(h:¬(o.kind≠1∧o.kind≠2∧o.kind≠3))(h2:S.eU c=none):S.end_ c seq o=S∧S.o6 c seq o=4:=by unfold bo.end_ bo.o6;rw[if_neg h,if_neg h,h2];exact⟨rfl,rfl⟩
theorem bo.Hk{c seq:Int}{o:dY}{i:Nat}{r:RecM}(h:¬(o.kind≠1∧o.kind≠2∧o.kind≠3))(h2:S.eU c=some (i,r))(h3:r.seq≠seq∨0≤r.toQ):S.end_ c seq o=S∧S.o6 c seq o=4:=by
 unfold bo.end_ bo.o6;rw[if_neg h,if_neg h,h2];dsimp only;rw[if_pos h3,if_pos h3];exact⟨rfl,rfl⟩
theorem bo.OA{c seq:Int}{o:dY}{i:Nat}{r:RecM}(h:¬(o.kind≠1∧o.kind≠2∧o.kind≠3))(h2:S.eU c=some (i,r))(h3:¬(r.seq≠seq∨0≤r.toQ)):S.end_ c seq o={ S with bc:=S.bc.set i (rB S r o),events:=S.events+1 }∧S.o6 c seq o=0:=by
 unfold bo.end_ bo.o6;rw[if_neg h,if_neg h,h2];dsimp only;rw[if_neg h3,if_neg h3];exact⟨rfl,rfl⟩
theorem bo.Ok.end_(ok:S.Ok)(h2:S.events<10000000)(c seq:Int)(o:dY):(S.end_ c seq o).Ok:=by
 have:=ok.e0
 unfold bo.end_
 split
 ·exact ok
 split
 ·exact ok
 split
 ·exact ok
 refine⟨by show(S.bc.set _ _).length≤_;rw[gk];exact ok.rl,by show 0≤S.events+1;omega,by show S.events+1≤_;omega,ok.ll,fun x hx=>?_⟩
 show 0≤x∧x≤((S.bc.set _ _).length:Int)
 rw[gk]
 exact ok.lr x hx
theorem Pp(ok:S.Ok)(h2:S.events<10000000)(c seq:Int)(o:dY):aq Tryz.prog 198 [.pointer (some ⟨p,0,none⟩),.int .i64 c,.int .i64 seq,.agg (cL o).toArray] Fr w [gQ p S]
  (fun v L=>v=.int .i64 (S.o6 c seq o)∧L=[gQ p (S.end_ c seq o)]):=by
 have hrl:=ok.rl
 have he0:=ok.e0
 refine TF 63 Tryz.func198 Z ym aw Z Z ?_
 refine VC.bu 0 Z (aY.bH p S) ?_
 rintro⟨a,cap⟩ -
 show VC _ _ _ [pt p (eS S a cap) jC,av jJ 14 a S.bc.length cap (flat recC S.bc)] _
 refine CS (CG (VG (VB (vs:=cL o) Z fun ob=>VO.ah (L':=[pt p (eS S a cap) jC,av jJ 14 a S.bc.length cap (flat recC S.bc),pt ob (cL o) 107]) (aZ [1,1,0]).ah ?_)))
 have fin:cI ⟨Tryz.prog,tab,aw,63,Fr,w⟩ [pt p (eS S a cap) jC,av jJ 14 a S.bc.length cap (flat recC S.bc),pt ob (cL o) 107] [gQ p S]:=(aa.bH (K:=[]) (a,cap) (aZ [0,0])).ah
 refine ae ?_
 refine VG (VV (fun Fr w hF hw hS=>HK Fr w (hS.ar 0 Z)) Z ?_)
 refine pR ?_
 refine CS (VC.cZ (σ:=Unit) (fun _=>[(0,pV p),(1,.int .i64 c),(2,.int .i64 seq),(7,pV ob)]) (fun _=>[pt p (eS S a cap) jC,av jJ 14 a S.bc.length cap (flat recC S.bc),pt ob (cL o) 107]) (fun _=>¬(o.kind≠1∧o.kind≠2∧o.kind≠3)) ?_ ?_)
 ·refine gZ ?_
  by_cases k1:o.kind=1
  ·refine VG (VY 15 false Z (by simp[k1]) ?_)
   refine gZ ?_
   refine VG (VY 20 false Z Z ?_)
   refine gZ ?_
   refine iQ ?_
   exact⟨(),fun h=>h.1 k1,aF,ER⟩
  refine VG (VY 15 true Z (by simp[k1]) ?_)
  refine gZ ?_
  by_cases k2:o.kind=2
  ·refine VG (VY 20 false Z (by simp[k2]) ?_)
   refine gZ ?_
   refine iQ ?_
   exact⟨(),fun h=>h.2.1 k2,aF,ER⟩
  refine VG (VY 20 true Z (by simp[k2]) ?_)
  refine gZ ?_
  refine VC.dd Z (fun k3=>?_) (fun k3=>CK ?_)
  ·obtain⟨g1,g2⟩:=bo.Oy (S:=S) (c:=c) (seq:=seq) (o:=o) ⟨k1,k2,k3⟩
   refine au ?_
   exact Bb
  exact⟨(),fun h=>h.2.2 k3,aF,ER⟩
 rintro-hk
 refine ae ?_
 refine Lz ?_
 rcases HT ok c with ⟨e1,_⟩ | ⟨i,r,e1,e2,e3,e4⟩
 ·obtain⟨g1,g2⟩:=bo.Oz (seq:=seq) hk e1
  rw[show mB S a c=.pointer none by rw[mB,e1]]
  refine au ?_
  refine VG (VY 30 true Z Z ?_)
  refine au ?_
  refine VG (VY 38 true Z Z ?_)
  refine iS ?_
  exact Bb
 refine VO.bu 1 Z (aY.sl _ _ _ _ _ _) ?_
 rintro(_ | ⟨mb,rest⟩) ⟨x1,x2,x3⟩
 ·obtain⟨_,h0,_⟩:=x3
  omega
 obtain⟨rfl,x4⟩:=x3
 rw[show mB S (some ⟨mb,0,none⟩) c=.pointer (some ⟨mb,0+i*14,none⟩) by rw[mB,e1];rfl]
 show VO _ _ _ _ _ [pt mb (flat recC S.bc++rest) jJ,pt p (eS S (some ⟨mb,0,none⟩) cap) jC,pt ob (cL o) 107] _
 have back:cI ⟨Tryz.prog,tab,aw,63,Fr,w⟩ [pt mb (flat recC S.bc++rest) jJ,pt p (eS S (some ⟨mb,0,none⟩) cap) jC,pt ob (cL o) 107] [pt p (eS S (some ⟨mb,0,none⟩) cap) jC,av jJ 14 (some ⟨mb,0,none⟩) S.bc.length cap (flat recC S.bc),pt ob (cL o) 107]:=(IP 1 rfl (aa.sl x1 x2 x4 aa.refl)).ah
 have c7:(flat recC S.bc++rest)[0+i*14+7]?=some (.int .i64 r.toQ):=by rw[bZ];exact o9 qE e2 rfl rest
 have c1:(flat recC S.bc++rest)[0+i*14+1]?=some (.int .i64 r.seq):=by rw[bZ];exact o9 qE e2 rfl rest
 refine au ?_
 refine VG (VY 30 false Z Z ?_)
 refine au ?_
 refine VG (VO.load Z Z (an.one 0 Z c1) ?_)
 refine au ?_
 by_cases j1:r.seq=seq
 rotate_left
 ·obtain⟨g1,g2⟩:=bo.Hk hk e1 (.inl j1)
  refine VG (VY 38 true Z (by simp[j1]) ?_)
  refine va ?_
  refine CN back ?_
  refine au ?_
  exact Bb
 refine VG (VY 38 false Z (by simp[j1]) ?_)
 refine au ?_
 refine VG (VO.load Z Z (an.one 0 Z c7) ?_)
 refine au ?_
 refine CP (p:=0≤r.toQ) Z (fun j2=>?_) (fun j2=>CK ?_)
 ·obtain⟨g1,g2⟩:=bo.Hk hk e1 (seq:=seq) (.inr j2)
  refine CN back ?_
  refine au ?_
  exact Bb
 obtain⟨g1,g2⟩:=bo.OA hk e1 (o:=o) (seq:=seq) (by rintro(h | h);exact h j1;exact j2 h)
 refine CS (CD (ts 0 9 (.only 9 (ts 10 2 (.only 12 .nil)))) ym yo ?_)
 refine eu ?_
 refine AG (VA.cK 2 (cL o) Z Z Z Z Z ?_)
 refine eu ?_
 have hfl:∀x:RecM,((flat recC (S.bc.set i x)).length:Nat)=S.bc.length*14:=fun x=>by rw[dS qE,gk]
 have hfl0:=dS qE S.bc
 have hi14:(i+1)*14≤S.bc.length*14:=so 14 e4
 refine AG (VA.st 0 (cs':=flat recC (S.bc.set i { r with toQ:=S.events })++rest) Z Z Z Z Z (by rw[a_,hfl0];omega) (by rw[bZ];exact ue qE e2 yn Z rest) Z yv ?_)
 refine cG ?_
 refine AG (AT (vs:=cL o) (cs':=flat recC (S.bc.set i (rB S r o))++rest) 0 Z Z Z Z Z (by rw[a_,hfl];show 0+i*14+8+6≤_;omega) (by rw[bZ,OZ (a:={ r with toQ:=S.events }) (a':=rB S r o) qE (hO e4) (by show 8+6≤14;decide) Z rest,tL]) Z Z yv ?_)
 refine cG ?_
 refine cF ?_
 refine pQ ?_
 refine VG (VO.st 1 (cs':=eS { S with events:=S.events+1 } (some ⟨mb,0,none⟩) cap) Z Z Z Z (by rw[HI ok];decide) Z Z ?_)
 refine ae ?_
 refine CR (al.tmp 8 Z Z (L':=[gQ p { S with bc:=S.bc.set i (rB S r o),events:=S.events+1 }]) ?_ ⟨by rw[g2],by rw[g1]⟩)
 refine(aa.bH (S:={ S with bc:=S.bc.set i (rB S r o),events:=S.events+1 }) (K:=[]) (some ⟨mb,0,none⟩,cap) ?_).ah
 show aa _ [pt p ([.bool true,.slice (some ⟨mb,0,none⟩) (S.bc.set i (rB S r o)).length cap,.int .i64 (S.events+1)]++S.last.map (Value.int .i64)) jC,av jJ 14 (some ⟨mb,0,none⟩) (S.bc.set i (rB S r o)).length cap (flat recC (S.bc.set i (rB S r o)))]
 rw[gk]
 exact IP 1 Z (aa.sl (hfl _) x2 (by rw[a_,hfl];rw[a_,hfl0] at x4;exact x4) (IP 0 Z aa.nil))
end
end Cl
namespace Vg
open Go Go.MapKept
def eT(k:Int×Int):Value:=.agg ([.int .i64 k.1,.int .i64 k.2]:List Value).toArray
theorem iU.ii{P:Program}{t ti:TypeId}{f g:Field}{Ti:TI}(ht:P.underlying t=some (.struct #[f,g]))(hp:P.stoodInHeld t=false)(hf:f.name ≠ "_")(hg:g.name ≠ "_")(hf2:f.type=ti)(hg2:g.type=ti)(hfo:f.offset=0)(hgo:g.offset=1)
  (hi:P.underlying ti=some (.int .i64)) (hTi:aE P ti Ti) (ha:Ti.ax.agg=false):iU P t eT where
 inj:=fun a b h=>by
  obtain⟨a1,a2⟩:=a;obtain⟨b1,b2⟩:=b
  simp[eT] at h
  rw[h.1,h.2]
 check:=fun e a w=>by
  have h1:(part ti ([.int .i64 a.1,.int .i64 a.2]:List Value).toArray 0).run P w=.ok (.int .i64 a.1) w:=rW hTi ha rfl w
  have h2:(part ti ([.int .i64 a.1,.int .i64 a.2]:List Value).toArray 1).run P w=.ok (.int .i64 a.2) w:=rW hTi ha rfl w
  have c1:(Instr.checkKey e (9998+1) ti (.int .i64 a.1)).run P w=.ok () w:=run_checkKey hi (by rfl) e 9998
  have c2:(Instr.checkKey e (9998+1) ti (.int .i64 a.2)).run P w=.ok () w:=run_checkKey hi (by rfl) e 9998
  show(Instr.checkKey e (9999+1) t (eT a)).run P w=_
  unfold Instr.checkKey
  rw[Sem.run_bind,run_underlying ht]
  simp only[Result.andThen_ok,eT]
  rw[←Array.forIn_toList]
  simp[hf,hg,hf2,hg2,hfo,hgo,h1,h2,Sem.run_bind,Result.andThen]
  rw[show(9999:Nat)=9998+1 from rfl,c1]
  simp[Result.andThen,h2,c2]
 find:=fun {α} d a xs es hes w=>by
  unfold Instr.findKey
  rw[Sem.run_bind,run_underlying ht]
  simp only[Result.andThen_ok]
  have hnow:∀(l:List MapEntry) (ys:List ((Int×Int)×α)) (i:Nat),l.map (fun e=>(e.key,e.val))=ys.map (fun x=>(eT x.1,d x.2))→(l≠[]→Instr.findNow (.struct #[f,g]) (eT a) l i=none):=by
   intro l ys i hl hne
   cases l with
   | nil=>exact absurd rfl hne
   | cons e r=>rfl
  have heq:∀(a b:Int×Int) (w:World),(Op.equal t (eT a) (eT b)).run P w=.ok (decide (a=b)) w:=fun a b w=>by
   have hx1:∀w:World,(part f.type ([.int .i64 a.1,.int .i64 a.2]:List Value).toArray f.offset).run P w=.ok (.int .i64 a.1) w:=fun w=>by rw[hf2,hfo];exact rW hTi ha rfl w
   have hx2:∀w:World,(part g.type ([.int .i64 a.1,.int .i64 a.2]:List Value).toArray g.offset).run P w=.ok (.int .i64 a.2) w:=fun w=>by rw[hg2,hgo];exact rW hTi ha rfl w
   have hy1:∀w:World,(part f.type ([.int .i64 b.1,.int .i64 b.2]:List Value).toArray f.offset).run P w=.ok (.int .i64 b.1) w:=fun w=>by rw[hf2,hfo];exact rW hTi ha rfl w
   have hy2:∀w:World,(part g.type ([.int .i64 b.1,.int .i64 b.2]:List Value).toArray g.offset).run P w=.ok (.int .i64 b.2) w:=fun w=>by rw[hg2,hgo];exact rW hTi ha rfl w
   refine kX.run (kX.eq (kX.st ht hp (p7.cons hf hx1 hy1 (hf2▸kX.int hi a.1 b.1) (p7.cons hg hx2 hy2 (hg2▸kX.int hi a.2 b.2) p7.nil))) ?_) yn w
   obtain⟨a1,a2⟩:=a;obtain⟨b1,b2⟩:=b
   by_cases h1:a1=b1<;>by_cases h2:a2=b2<;>simp[h1,h2]
  cases es with
  | nil=>
   cases xs with
   | nil=>rfl
   | cons _ _=>cases hes
  | cons e r=>
   rw[hnow (e::r) xs 0 hes yf]
   exact Ht heq d a xs (e::r) 0 hes w
 bits:=fun a=>by simp[eT,Instr.sameBits]
theorem Nl{l:List MapEntry}(hn:(l.map (·.born)).Nodup):∀{j:Nat} {m:MapEntry},l[j]?=some m→l.findIdx? (fun e=>(e.born:Int) == (m.born:Int))=some j:=by
 induction l with
 | nil=>intro j m h;cases h
 | cons a r ih=>
  intro j m h
  simp only[kV,List.nodup_cons] at hn
  rw[List.findIdx?_cons]
  cases j with
  | zero=>
   simp only[sn,Option.some.injEq] at h
   subst h
   simp
  | succ j=>
   simp only[pZ] at h
   have hne:((a.born:Int) == (m.born:Int))=false:=by
    rw[beq_eq_false_iff_ne]
    intro e
    exact hn.1 (eC.2 ⟨m,ME h,(Int.ofNat.inj e).symm⟩)
   rw[hne,ih hn.2 h];rfl
theorem Gx{es:Array MapEntry}(hn:(es.toList.map (·.born)).Nodup){j:Nat}{m:MapEntry}(h:es[j]?=some m):es.findIdx? (fun e=>(e.born:Int) == (m.born:Int))=some j:=by
 have:=Nl hn (j:=j) (m:=m) yc
 cases es
 simpa using this
theorem Q1(es:Array MapEntry)(m:MapEntry)(f:MapEntry→MapEntry):(es.push m).modify es.size f=es.push (f m):=by
 apply xC
 intro i
 rw[xD,Array.getElem?_push,Array.getElem?_push]
 by_cases h:es.size=i
 ·subst h;simp
 ·rw[if_neg h,if_neg (fun k=>h k.symm),if_neg (fun k=>h k.symm)]
theorem Q2(es:Array MapEntry)(j:Nat)(k v:Value):(es.modify j fun e=>{ e with key:=k }).modify j (fun e=>{ e with val:=v })=es.modify j fun e=>{ e with key:=k,val:=v }:=by
 apply xC
 intro i
 simp only[xD]
 by_cases h:j=i
 ·subst h;simp;rfl
 ·simp[h]
def zF{κ α:Type}[DecidableEq κ](c:κ→Value)(d:α→Value)(b:Nat)(xs:List (κ×α))(a:κ)(st:Nat):HP:=
 ⟨fun ids w=>ids=[b]∧∃(es:Array MapEntry) (clock j:Nat),w.heap[b]?=some (.map es clock)∧es.findIdx? (fun e=>(e.born:Int) == (st:Int))=some j ∧
   ∀u,(es.modify j fun e=>{ e with val:=d u }).toList.map (fun e=>(e.key,e.val))=(cQ xs a u).map (fun x=>(c x.1,d x.2))∧Stamped (es.modify j fun e=>{ e with val:=d u }) clock,
  fun _ _ _ h hs=>⟨hs.1,by
   obtain⟨es,k,j,h1,h2⟩:=hs.2
   exact⟨es,k,j,(h b yb).trans h1,h2⟩⟩⟩
section
variable {X:Cx} {κ α:Type} [DecidableEq κ] {c:κ→Value} {d:α→Value} {b:Nat} {xs:List (κ×α)} {e:Env} {L:List HP} {T kt et:TypeId} {te:TI} {x y z:Operand}
theorem aG.mapEntry(i:Nat)(K:iU X.P kt c)(hT:X.P.underlying T=some (.map kt et))(hE:bD X.tab et=some te){a:κ}(hx:ev e x=some (.map (some b)))(hk:ev e y=some (c a))(hL:L[i]?=some (eI c d b xs)):
  aG X (.mapEntry T x y) e L (fun v L'=>∃st:Nat,v=.tuple #[((cD xs a).map d).getD te.zero,.int .i64 st]∧L'=L.set i (zF c d b xs a st)):=fun ac w ha hw dst ty pos after guard=>by
 obtain⟨⟨es,clock,h1,h2,h3⟩,hf⟩:=hw.yC hL
 have hfi:=K.find d a xs es.toList h2 w
 have hids:∀ids w,(eI c d b xs).sat ids w→ids=[b]:=fun _ _ h=>h.1
 have P:=fun u=>Ir K a u h2 h3
 cases hl:jE xs a 0 with
 | none=>
  obtain⟨hg,_⟩:=sS hl
  rw[hl] at hfi
  have hz:=s_ (X.ok.look hE) (w:=w)
  refine .inl ⟨_,dq w b (.map (es.push { key:=c a,val:=te.zero,born:=clock }) (clock+1)),_,?_,⟨clock,Z,Z⟩,hw.oz hL hids h1 hf ⟨rfl,_,_,es.size,pd h1,?_,fun u=>?_⟩⟩
  ·have:(Instr.mapEntry T (.map (some b)) (c a)).run X.P w=.ok (.tuple #[te.zero,.int .i64 clock]) (dq w b (.map (es.push { key:=c a,val:=te.zero,born:=clock }) (clock+1))):=by
    simp[Instr.mapEntry,run_underlying hT,MapKept.run_getObj_map h1,K.check,hfi,hz,MapKept.run_setObj_map _ h1,Result.andThen,dq,goInt]
   simp only[execOp,ha.ev hx,ha.ev hk,hg]
   rw[Sem.run_bind,this];rfl
  ·have hk:∀x∈es.toList,x.key≠c a:=fun m hm he=>by
    have:(m.key,m.val)∈es.toList.map (fun e=>(e.key,e.val)):=eC.2 ⟨m,hm,rfl⟩
    rw[h2] at this
    obtain⟨x,hx,hx2⟩:=eC.1 this
    have e2:c x.1=m.key:=congrArg Prod.fst hx2
    exact(sS hl).2.1 x hx (K.inj _ _ (e2.trans he))
   exact Gx (m:={ key:=c a,val:=te.zero,born:=clock }) (stamped_push h3 (val:=te.zero) hk).2.1 yf
  ·rw[Q1]
   exact(P u).2 hl
 | some p=>
  obtain⟨j,v⟩:=p
  obtain⟨_,hj,hg,_⟩:=uo hl
  rw[Nat.sub_zero] at hj
  obtain⟨m,hm',hmk,_⟩:=Ct h2 hj
  have hm:es[j]?=some m:=by simpa using hm'
  rw[hl] at hfi
  have hst:=stamped_modify h3 j (fun e=>{ e with key:=c a }) (fun _ _=>rfl) (fun e _ he=>by rw[hm] at he;cases he;exact hmk.symm)
  have hat:(es.modify j fun e=>{ e with key:=c a })[j]?=some { m with key:=c a }:=by rw[xD,if_pos rfl,hm];rfl
  refine .inl ⟨_,dq w b (.map (es.modify j fun e=>{ e with key:=c a }) clock),_,?_,⟨m.born,Z,Z⟩,hw.oz hL hids h1 hf ⟨rfl,_,_,j,pd h1,Gx (m:={ m with key:=c a }) hst.2.1 hat,fun u=>?_⟩⟩
  ·have:(Instr.mapEntry T (.map (some b)) (c a)).run X.P w=.ok (.tuple #[d v,.int .i64 m.born]) (dq w b (.map (es.modify j fun e=>{ e with key:=c a }) clock)):=by
    simp[Instr.mapEntry,run_underlying hT,MapKept.run_getObj_map h1,K.check,hfi,hm,hmk,Jy K,MapKept.run_setObj_map _ h1,Result.andThen,dq,goInt]
   simp only[execOp,ha.ev hx,ha.ev hk,hg]
   rw[Sem.run_bind,this];rfl
  ·rw[Q2]
   obtain⟨_,_,_,q1,q2⟩:=(P u).1 hl
   exact⟨q1,q2⟩
theorem aG.QB(i:Nat)(K:iU X.P kt c)(hT:X.P.underlying T=some (.map kt et))(hE:bD X.tab et=some te)(v0:Value){a:κ}(hx:ev e x=some (.map (some b)))(hk:ev e y=some (c a))(hL:L[i]?=some (eI c d b xs))(hv:((cD xs a).map d).getD te.zero=v0):
  aG X (.mapEntry T x y) e L (fun v L'=>∃st:Nat,v=.tuple #[v0,.int .i64 st]∧L'=L.set i (zF c d b xs a st)):=hv▸aG.mapEntry i K hT hE hx hk hL
theorem aG.entryStore(i:Nat){a:κ}{u:α}{st:Nat}(hx:ev e x=some (.map (some b)))(hs:ev e y=some (.int .i64 st))(hv:ev e z=some (d u))(hL:L[i]?=some (zF c d b xs a st)):
  aG X (.entryStore T x y z) e L (fun v L'=>v=undef∧L'=L.set i (eI c d b (cQ xs a u))):=fun ac w ha hw dst ty pos after guard=>by
 obtain⟨F,hs1,_,hb⟩:=hw.sat
 obtain⟨ids,hp,hm⟩:=hs1.get hL
 obtain⟨rfl,es,clock,j,h1,h2,h3⟩:=hp
 have hf:=(hb b (hm b yf)).1
 have hids:∀ids w,(zF c d b xs a st).sat ids w→ids=[b]:=fun _ _ h=>h.1
 obtain⟨q1,q2⟩:=h3 u
 refine .inr (.inl ⟨dq w b (.map (es.modify j fun e=>{ e with val:=d u }) clock),_,?_,⟨rfl,Z⟩,hw.oz hL hids h1 hf ⟨rfl,_,_,pd h1,q1,q2⟩⟩)
 have:(Instr.entryStore T (.map (some b)) (.int .i64 st) (d u)).run X.P w=.ok () (dq w b (.map (es.modify j fun e=>{ e with val:=d u }) clock)):=by
  simp[Instr.entryStore,MapKept.run_getObj_map h1,asInt,asIntOf,h2,MapKept.run_setObj_map _ h1,Result.andThen,dq]
 simp only[execOp,ha.ev hx,ha.ev hs,ha.ev hv]
 rw[Sem.run_bind,this];rfl
end
end Vg
namespace Vg
open Go Go.MapKept
theorem CW{α β:Type}{f:α→β}:∀{l:List α} {a b:α},(l.map f).Nodup→a∈l→b∈l→f a=f b→a=b
 | x::l,a,b,hn,ha,hb,e=>by
  simp only[kV,List.nodup_cons] at hn
  rcases gK.1 ha with h1 | h1<;>rcases gK.1 hb with h2 | h2
  ·rw[h1,h2]
  ·exact absurd (eC.2 ⟨b,h2,by rw[←e,h1]⟩) hn.1
  ·exact absurd (eC.2 ⟨a,h1,by rw[e,h2]⟩) hn.1
  ·exact CW hn.2 h1 h2 e
section
variable {κ α:Type} {c:κ→Value} {d:α→Value}
structure lL(c:κ→Value)(d:α→Value)(xs:List (κ×α))(es:Array MapEntry)(clock:Nat):Prop where
 row:es.toList.map (fun e=>(e.key,e.val))=xs.map (fun x=>(c x.1,d x.2))
 st:Stamped es clock
abbrev nT(κ α:Type):=List (MapEntry×(κ×α))
structure jv(c:κ→Value)(d:α→Value)(xs:List (κ×α))(es:Array MapEntry)(J:nT κ α):Prop where
 sub:∀z∈J,z∈es.toList.zip xs
 nd:(J.map fun z=>z.1.born).Nodup
theorem jv.nil{xs:List (κ×α)}{es:Array MapEntry}:jv c d xs es []:=⟨(fun _ h=>by cases h),List.Pairwise.nil⟩
def l0(J:nT κ α):Array Nat:=(J.map fun z=>z.1.born).toArray
theorem JF(J:nT κ α)(z:MapEntry×(κ×α)):(l0 J).push z.1.born=l0 (J ++ [z]):=by unfold l0;simp
theorem lL.len{xs:List (κ×α)}{es:Array MapEntry}{k:Nat}(h:lL c d xs es k):es.toList.length=xs.length:=by have:=congrArg List.length h.row;simpa using this
theorem lL.zip{xs:List (κ×α)}{es:Array MapEntry}{k:Nat}(h:lL c d xs es k){m:MapEntry}(hm:m∈es.toList):∃x,(m,x)∈es.toList.zip xs:=by
 obtain⟨i,hi,rfl⟩:=List.getElem_of_mem hm
 have hx:i<xs.length:=by rw[←h.len];exact hi
 exact⟨xs[i],List.mem_iff_getElem.2 ⟨i,by rw[List.length_zip];omega,by rw[List.getElem_zip]⟩⟩
theorem lL.kv{xs:List (κ×α)}{es:Array MapEntry}{k:Nat}(h:lL c d xs es k){z:MapEntry×(κ×α)}(hz:z∈es.toList.zip xs):z.1∈es.toList∧z.2∈xs∧z.1.key=c z.2.1∧z.1.val=d z.2.2:=by
 obtain⟨i,hi,rfl⟩:=List.mem_iff_getElem.1 hz
 rw[List.length_zip] at hi
 have h1:i<es.toList.length:=by omega
 have h2:i<xs.length:=by omega
 have e:=congrArg (fun l=>l[i]?) h.row
 simp only[dH,GE h1,GE h2,mj,Option.some.injEq,Prod.mk.injEq] at e
 rw[List.getElem_zip]
 exact⟨List.getElem_mem h1,List.getElem_mem h2,e.1,e.2⟩
theorem lL.all{xs:List (κ×α)}{es:Array MapEntry}{k:Nat}(h:lL c d xs es k){J:nT κ α}(ok:jv c d xs es J)(h0:(leftOf es (l0 J)).size=0):(J.map Prod.snd).Perm xs:=by
 have e1:(es.toList.zip xs).map Prod.fst=es.toList:=List.map_fst_zip (by rw[h.len];exact NR _)
 have e2:(es.toList.zip xs).map Prod.snd=xs:=List.map_snd_zip (by rw[h.len];exact NR _)
 have n1:J.Nodup:=(List.pairwise_map.1 ok.nd).imp fun hne e=>hne oJ
 have n2:(es.toList.zip xs).Nodup:=by
  have:((es.toList.zip xs).map fun z=>z.1.born).Nodup:=by
   rw[show(fun z:MapEntry×(κ×α)=>z.1.born)=(fun m:MapEntry=>m.born)∘Prod.fst from rfl,←lG,e1];exact h.st.2.1
  exact(List.pairwise_map.1 this).imp fun hne e=>hne oJ
 have hall:∀m∈es.toList,m.born∈J.map fun z=>z.1.born:=fun m hm=>by
  have hf:leftOf es (l0 J)=#[]:=Array.eq_empty_of_size_eq_zero h0
  unfold leftOf at hf
  rw[Array.filter_eq_empty_iff] at hf
  have:=hf m (by simpa using hm)
  simpa[l0] using this
 rw[←e2]
 refine List.Perm.map _ ((List.perm_ext_iff_of_nodup n1 n2).2 fun z=>⟨ok.sub z,fun hz=>?_⟩)
 obtain⟨y,hy,hb⟩:=eC.1 (hall z.1 (h.kv hz).1)
 have hy2:=ok.sub y hy
 have:y=z:=by
  have n3:((es.toList.zip xs).map fun z=>z.1.born).Nodup:=by
   rw[show(fun z:MapEntry×(κ×α)=>z.1.born)=(fun m:MapEntry=>m.born)∘Prod.fst from rfl,←lG,e1];exact h.st.2.1
  exact CW n3 hy2 hz hb
 rw[←this];exact hy
def rM(q b since:Nat)(J:nT κ α):HP:=
 ⟨fun ids w=>ids=[q]∧w.heap[q]?=some (.mapIter (some b) since (l0 J) since),fun _ _ _ h hs=>⟨hs.1,(h q yb).trans hs.2⟩⟩
end
section
variable {X:Cx} {κ α:Type} {c:κ→Value} {d:α→Value} {b q clock:Nat} {xs:List (κ×α)} {es:Array MapEntry} {e:Env} {L:List HP} {J:nT κ α}
theorem aG.Sb(c:κ→Value)(d:α→Value){T kt et:TypeId}{x:Operand}(hT:X.P.underlying T=some (.map kt et))(hx:ev e x=some (.map (some b)))(hM:∀w,St X L w→w.heap[b]?=some (.map es clock)):
  aG X (.range T x) e L (fun v L'=>∃q,v=.pointer (some ⟨q,0,none⟩)∧L'=rM q b clock ([]:nT κ α)::L):=fun ac w ha hw dst ty pos after guard=>by
 have h1:=hM w hw
 refine .inl ⟨_,w.alloc (.mapIter (some b) clock #[] clock),_,?_,⟨w.heap.size,Z,Z⟩,?_⟩
 ·simp[execOp,ha.ev hx,Instr.range,run_underlying hT,newObj,Sem.run,MapKept.run_getObj_map h1]
 ·exact⟨hw.sat.alloc hw.kl _ _ ⟨rfl,heap_alloc_new w _⟩,hw.bL.trans (cB.alloc hw.kl _),hw.low⟩
theorem St.Gg{w:World}(h:St X L w){i:Nat}(hL:L[i]?=some (rM q b clock J)):w.heap[q]?=some (.mapIter (some b) clock (l0 J) clock)∧¬X.Fr q:=by
 obtain⟨F,hs,_,hb⟩:=h.sat
 obtain⟨ids,h1,h2⟩:=hs.get hL
 obtain⟨rfl,h1⟩:=h1
 exact⟨h1,(hb q (h2 q yf)).1⟩
theorem aG.dK{it:Operand}(i:Nat)(hx:ev e it=some (.pointer (some ⟨q,0,none⟩)))(hL:L[i]?=some (rM q b clock J))(hM:∀w,St X L w→w.heap[b]?=some (.map es clock))(hz:lL c d xs es clock)(ok:jv c d xs es J):
  aG X (.next it false) e L (fun v L'=>(v=.tuple #[.bool false]∧L'=L∧(J.map Prod.snd).Perm xs)∨∃z,v=.tuple #[.bool true,c z.2.1,d z.2.2]∧z.2∈xs∧z∈es.toList.zip xs∧jv c d xs es (J ++ [z])∧L'=L.set i (rM q b clock (J ++ [z]))):=fun ac w ha hw dst ty pos after guard=>by
 have h1:=hM w hw
 obtain⟨h3,hf⟩:=hw.Gg hL
 have hids:∀ids w,(rM q b clock J).sat ids w→ids=[q]:=fun _ _ h=>h.1
 rcases run_next_at (P:=X.P) w ty q b clock clock (l0 J) es clock h3 h1 hz.st.1 (NR _) with ⟨h4,h5⟩ | ⟨m,hm,w1,hw1,h5⟩
 ·refine .inl ⟨_,w,L,?_,.inl ⟨rfl,Z,hz.all ok h4⟩,hw⟩
  simp only[execOp,ha.ev hx]
  rw[Sem.run_bind,h5];rfl
 ·have hm2:m∈es.toList∧m.born∉J.map fun z=>z.1.born:=by
   unfold leftOf at hm
   simpa[l0] using hm
  obtain⟨x,hzx⟩:=hz.zip hm2.1
  obtain⟨k1,k2,k3,k4⟩:=hz.kv hzx
  have ok2:jv c d xs es (J ++ [(m,x)]):=⟨fun z hz'=>by
    rcases fL.1 hz' with h | h
    ·exact ok.sub z h
    ·obtain rfl:=mi.1 h;exact hzx,by
    rw[fA]
    exact gy.2 ⟨ok.nd,by simp,fun a ha b hb e=>by simp at hb;subst hb;subst e;exact hm2.2 ha⟩⟩
  have hst1:St X L w1:=by rcases hw1 with rfl | rfl;exact hw;exact hw.drew
  have h31:w1.heap[q]?=some (.mapIter (some b) clock (l0 J) clock):=by rcases hw1 with rfl | rfl<;>exact h3
  refine .inl ⟨_,dq w1 q (.mapIter (some b) clock ((l0 J).push m.born) clock),_,?_,.inr ⟨(m,x),Z,k2,hzx,ok2,Z⟩,hst1.oz hL hids h31 hf ⟨rfl,?_⟩⟩
  ·simp only[execOp,ha.ev hx]
   rw[Sem.run_bind,h5]
   dsimp only at k3 k4
   rw[k3,k4];rfl
  ·rw[←JF J (m,x)];exact pd h31
theorem aG.OI{it:Operand}(i:Nat){z:MapEntry×(κ×α)}(hx:ev e it=some (.pointer (some ⟨q,0,none⟩)))(hL:L[i]?=some (rM q b clock (J ++ [z])))(hM:∀w,St X L w→w.heap[b]?=some (.map es clock))(hz:lL c d xs es clock)(hzz:z∈es.toList.zip xs):
  aG X (.entry it) e L (fun v L'=>v=.tuple #[c z.2.1,d z.2.2]∧L'=L):=fun ac w ha hw dst ty pos after guard=>by
 have h1:=hM w hw
 obtain⟨h3,hf⟩:=hw.Gg hL
 obtain⟨k1,k2,k3,k4⟩:=hz.kv hzz
 refine .inl ⟨_,w,_,?_,⟨rfl,Z⟩,hw⟩
 have h4:w.heap[q]?=some (.mapIter (some b) clock ((l0 J).push z.1.born) clock):=by rw[JF];exact h3
 simp only[execOp,ha.ev hx]
 rw[Sem.run_bind,run_entry_at w q b clock (l0 J) es clock z.1 h4 h1 k1 hz.st.2.1,k3,k4];rfl
end
end Vg
namespace Cl
open Go Vg T Api Ch
attribute [local irreducible] VO VC VA
theorem pf:∀(k:Nat) (s:Bs),fQ (k+1) s=(fQ k s).bind fun p=>(bR p.2).map fun u=>(p.1 ++ [u.1],u.2)
 | 0,s=>by
  rw[fQ,fQ]
  cases h:bR s with
  | none=>simp[h]
  | some x=>simp[h,fQ]
 | k+1,s=>by
  rw[fQ,fQ]
  cases h:bR s with
  | none=>rfl
  | some x=>
   dsimp only
   rw[pf k x.2]
   cases h2:fQ k x.2 with
   | none=>rfl
   | some y=>
    simp only[js]
    cases h3:bR y.2 with
    | none=>rfl
    | some z=>rfl
theorem CY{s:Bs}{k:Nat}(h:fQ k s=none):∀j,fQ (k+j) s=none
 | 0=>h
 | j+1=>by rw[←Nat.add_assoc,pf,CY h j];rfl
theorem IB{a b:Int}:∀(k:Nat) (l:List Int),l.length=2*k→pk (l ++ [a,b])=pk l ++ [(a,b)]
 | 0,l,h=>by
  obtain rfl:l=[]:=gI h
  rfl
 | k+1,l,h=>by
  match l,h with
  | x::y::l,h=>
   rw[tI,tI,pk,pk,IB k l (by simp at h;omega),tI]
  | [x],h=>simp at h;omega
  | [],h=>simp at h
theorem QP{ms:List bj}{k:Nat}{m:bj}(h:ms[k]?=some m):(flat aC ms)[0+k*2]?=some (.int .i64 m.1):=by
 have:=o9 cj (j:=0) h rfl []
 rw[bA] at this
 rw[bZ];exact this
theorem QQ{ms:List bj}{k:Nat}{m:bj}(h:ms[k]?=some m):(flat aC ms)[0+k*2+1]?=some (.int .i64 m.2):=by
 have:=o9 cj (j:=1) h rfl []
 rw[bA] at this
 rw[bZ];exact this
theorem QR{ms:List bj}{k:Nat}{m:bj}(x:Int)(h:ms[k]?=some m):(flat aC ms).set (0+k*2) (.int .i64 x)=flat aC (ms.set k (x,m.2)):=by
 have:=ue cj (j:=0) (a':=(x,m.2)) h yn rfl []
 rw[bA,bA] at this
 rw[bZ];exact this
theorem QS{ms:List bj}{k:Nat}{m:bj}(x:Int)(h:ms[k]?=some m):(flat aC ms).set (0+k*2+1) (.int .i64 x)=flat aC (ms.set k (m.1,x)):=by
 have:=ue cj (j:=1) (a':=(m.1,x)) h yn rfl []
 rw[bA,bA] at this
 rw[bZ];exact this
structure BM(ok:Bool)(r:Bs)(ok':Bool)(k:Int)(q:Bs):Prop where
 len:q.length≤r.length
 t:ok'=true→ok=true∧bR r=some (k,q)
 f:ok'=false→ok=false∨bR r=none
abbrev vG:TypeId:=4
abbrev oB:TypeId:=9
def ov(pb okb rb:Nat)(T:TypeId)(cs:List Value)(ok:Bool)(r:Bs):List HP:=[pt pb cs T,pt okb [.bool ok] vG,pt rb [.string (bT r)] oB]
theorem wO{pb off okb rb:Nat}{T:TypeId}{cs:List Value}{ok:Bool}{r:Bs}{k0:Int}(h0:cs[off]?=some (.int .i64 k0))(hr:r.length≤1000000):
  aq Tryz.prog 370 [.pointer (some ⟨pb,off,none⟩),.pointer (some ⟨okb,0,none⟩),.pointer (some ⟨rb,0,none⟩)] Fr w (ov pb okb rb T cs ok r)
   (fun v L=>v=.tuple #[]∧∃k q ok',BM ok r ok' k q∧L=ov pb okb rb T (cs.set off (.int .i64 k)) ok' q):=by
 have hlt:off<cs.length:=(cH.1 h0).1
 have hself:cs.set off (.int .i64 k0)=cs:=by
  refine oL fun j=>?_
  by_cases h:off=j
  ·subst h;rw[hO hlt,h0]
  ·rw[ky h]
 unfold ov
 refine TF 13 Tryz.func370 Z ym aw Z Z ?_
 refine CS (CG (VG (VO.ld 1 Z Z Z Z ?_)))
 refine ae ?_
 refine CC Z (fun h=>?_) (fun h=>CK ?_)
 rotate_left
 ·exact al.void rfl ER ⟨rfl,k0,r,ok,⟨NR _,fun h2=>(by rw[h] at h2;cases h2),fun _=>.inl h⟩,by rw[hself]⟩
 subst h
 obtain⟨k,q,ok',hv,hql,hk1,hk2⟩:=Ax r
 refine ae ?_
 refine VG (VO.ld 2 Z Z Z Z ?_)
 refine VG (VV (fun Fr w hF hw _=>hv▸Az Fr w r hr) Z ?_)
 refine ae ?_
 refine VG (VO.st 0 (cs':=cs.set off (.int .i64 k)) Z Z Z Z hlt Z Z ?_)
 refine VG (VO.st 2 (cs':=[.string (bT q)]) Z Z Z Z nQ Z Z ?_)
 refine VG (VO.st 1 (cs':=[.bool ok']) Z Z Z Z nQ Z Z ?_)
 refine ae ?_
 exact al.void Z ER ⟨rfl,k,q,ok',⟨hql,fun h=>⟨rfl,hk1 h⟩,fun h=>.inr (hk2 h)⟩,Z⟩
structure LI(n:Nat)(r0:Bs)(N:Nat)(x:Nat×List bj×Bs×Bool):Prop where
 k:x.1≤n
 ms:x.2.1.length=n
 len:x.2.2.1.length≤N
 t:x.2.2.2=true→∃l,fQ (2*x.1) r0=some (l,x.2.2.1)∧x.2.1.take x.1=pk l∧l.length=2*x.1
 f:x.2.2.2=false→fQ (2*n) r0=none
theorem LI.next{n N k:Nat}{r0 r q p:Bs}{ms:List bj}{ok ok1 ok2:Bool}{a b:Int}{m:bj}(h:LI n r0 N (k,ms,r,ok))(hk:k<n)(h1:BM ok r ok1 a q)(h2:BM ok1 q ok2 b p):LI n r0 N (k+1,ms.set k (a,b),p,ok2):=by
 have hl:=h.ms
 have hlen:=h.len
 have l1:=h1.len
 have l2:=h2.len
 dsimp only at hl hlen
 have step:∀l,fQ (2*k) r0=some (l,r)→fQ (2*k+1) r0=(bR r).map fun u=>(l ++ [u.1],u.2):=fun l hl=>by rw[pf,hl];rfl
 refine⟨hk,by simp[hl],by dsimp only;omega,fun e=>?_,fun e=>?_⟩
 ·obtain⟨e1,u2⟩:=h2.t e
  obtain⟨e0,u1⟩:=h1.t e1
  obtain⟨l,hi,ht,hll⟩:=h.t e0
  dsimp only at hi ht hll ⊢
  refine⟨l ++ [a,b],?_,?_,by simp[hll];omega⟩
  ·rw[show 2*(k+1)=2*k+1+1 from by omega,pf,step l hi,u1]
   simp[u2]
  ·rw[IB k l hll,←ht,fS,hO yd,List.take_set_of_le (NR _)];rfl
 ·show fQ (2*n) r0=none
  have two:∀j,2*k+j≤2*n→fQ (2*k+j) r0=none→fQ (2*n) r0=none:=fun j hj hn=>by
   have:=CY hn (2*n-(2*k+j))
   rwa[show 2*k+j+(2*n-(2*k+j))=2*n from by omega] at this
  by_cases e0:ok=true
  rotate_left
  ·exact h.f (by simpa using e0)
  obtain⟨l,hi,_,_⟩:=h.t e0
  by_cases e1:ok1=true
  rotate_left
  ·rcases h1.f (by simpa using e1) with g | g
   ·rw[g] at e0;cases e0
   ·exact two 1 yd (by rw[step l hi,g];rfl)
  ·obtain⟨_,u1⟩:=h1.t e1
   rcases h2.f e with g | g
   ·rw[g] at e1;cases e1
   ·exact two 2 yd (by rw[pf,step l hi,u1];simp[g])
end Cl
namespace Cl
open Go Vg T Api Ch
attribute [local irreducible] VO VC VA
def jy:List Value:=[.int .i64 0,.slice none 0 0,.int .i64 0]
def ND(o:Option aW)(v:Value)(L:List HP):Prop:=match o with
 | some c=>∃a cap,v=.tuple #[.agg (c.cells a cap).toArray,.int .i64 0]∧L=[av aN 2 a c.ms.length cap (flat aC c.ms)]
 | none=>v=.tuple #[.agg jy.toArray,.int .i64 10]∧L=[]
theorem Pa{s:Bs}(h:bR s=none):i_ s=none:=by unfold i_;rw[h]
theorem Pb{s r:Bs}{k:Int}(h:bR s=some (k,r))(h2:bR r=none):i_ s=none:=by unfold i_;rw[h];dsimp only;rw[h2]
theorem HF{s r q:Bs}{k z:Int}(h:bR s=some (k,r))(h2:bR r=some (z,q))(h3:z<1∨6<z):i_ s=none:=by unfold i_;rw[h];dsimp only;rw[h2];dsimp only;rw[if_pos h3]
theorem Pe{s r q:Bs}{k:Int}{n:Nat}(h:bR s=some (k,r))(h2:bR r=some ((n:Int),q))(h3:1≤n∧n≤6):i_ s=match fQ (2*n) q with
   | none=>none
   | some (l,r)=>match bR r with
    | none=>none
    | some (dr,r)=>if r=[]∧fp ⟨k,pk l,dr⟩=0 then some ⟨k,pk l,dr⟩ else none:=by
 unfold i_;rw[h];dsimp only;rw[h2];dsimp only;rw[if_neg yd];rfl
abbrev v_:TypeId:=3
def dC(ep:Int)(a:Value)(dr:Int):List Value:=[.int .i64 ep,a,.int .i64 dr]
theorem NF(s:Bs)(hs:s.length≤1000000):aq Tryz.prog 348 [.string (bT s)] Fr w [] (ND (i_ s)):=by
 refine TF 68 Tryz.func348 Z ym aw Z Z ?_
 refine CS (CG (VG (VO.alloc Z fun b2=>?_)))
 refine ae ?_
 refine VG (VO.alloc Z fun b4=>?_)
 refine ae ?_
 refine VG (VO.alloc Z fun b5=>?_)
 refine VG (VO.alloc Z fun b6=>?_)
 refine VG (VO.alloc Z fun b7=>?_)
 refine VG (VO.st 2 (cs':=[.string (bT s)]) Z Z Z Z nQ Z Z ?_)
 refine VG (VO.st 1 (cs':=[.bool true]) Z Z Z Z nQ Z Z ?_)
 refine VG (VO.st 0 (cs':=[.int .i64 0]) Z Z Z Z nQ Z Z ?_)
 refine ae ?_
 refine VG (VI (uk (u:=[]) (v:=[.pointer (some ⟨b6,0,none⟩),.pointer (some ⟨b5,0,none⟩)]) Z Z) ?_)
 refine ae ?_
 refine VO.ah (L':=ov b4 b6 b5 cX (dC 0 (.slice none 0 0) 0) true s ++ [pt b7 [.int .i64 0] v_,pt b2 jy cX]) (aZ [3,1,1,0,0]).ah ?_
 refine VG (VO.kc (Lc:=ov b4 b6 b5 cX (dC 0 (.slice none 0 0) 0) true s) (Lr:=[pt b7 [.int .i64 0] v_,pt b2 jy cX]) Z (fun Fr w hF hw _=>wO Fr w (k0:=0) Z hs) Z Z ?_)
 rintro _ _ ⟨rfl,k1,r1,ok1,i1,rfl⟩
 have n1:=i1.len
 refine ae ?_
 refine VO.ah (L':=ov b7 b6 b5 v_ [.int .i64 0] ok1 r1 ++ [pt b4 (dC k1 (.slice none 0 0) 0) cX,pt b2 jy cX]) (aZ [3,1,1,0,0]).ah ?_
 refine VG (VO.kc (Lc:=ov b7 b6 b5 v_ [.int .i64 0] ok1 r1) (Lr:=[pt b4 (dC k1 (.slice none 0 0) 0) cX,pt b2 jy cX]) Z (fun Fr w hF hw _=>wO Fr w (k0:=0) Z yd) Z Z ?_)
 rintro _ _ ⟨rfl,z,r2,ok2,i2,rfl⟩
 have n2:=i2.len
 show VO _ _ _ _ _ [pt b7 [.int .i64 z] v_,pt b6 [.bool ok2] vG,pt b5 [.string (bT r2)] oB,pt b4 (dC k1 (.slice none 0 0) 0) cX,pt b2 jy cX] _
 refine ae ?_
 refine uX ?_
 cases ok2 with
 | false=>
  have hn:i_ s=none:=by
   by_cases e1:ok1=true
   ·obtain⟨_,u1⟩:=i1.t e1
    rcases i2.f rfl with g | g
    ·rw[g] at e1;cases e1
    ·exact Pb u1 g
   ·rcases i1.f (by simpa using e1) with g | g
    ·cases g
    ·exact Pa g
  refine au ?_
  refine VG (VY 19 true Z Z ?_)
  refine au ?_
  refine VG (VY 23 true Z Z ?_)
  refine pW ?_
  refine vi ?_
  exact u6
 | true=>
 obtain⟨e1,u2⟩:=i2.t rfl
 obtain⟨_,u1⟩:=i1.t e1
 clear i1 i2
 refine au ?_
 refine VG (VY 19 false Z Z ?_)
 refine bF ?_
 by_cases h1:z<1
 ·have hn:i_ s=none:=HF u1 u2 (.inl h1)
  refine VG (VY 23 true Z (DT h1) ?_)
  refine pW ?_
  refine vi ?_
  exact u6
 refine VG (VY 23 false Z (DF h1) ?_)
 refine bF ?_
 refine CP (p:=6<z) Z (fun h2=>?_) (fun h2=>CK ?_)
 ·have hn:i_ s=none:=HF u1 u2 (.inr h2)
  refine ae ?_
  refine vi ?_
  exact u6
 obtain⟨n,rfl⟩:∃n:Nat,z=n:=⟨z.toNat,by omega⟩
 have hG:=Pe u1 u2 yd
 clear u1 u2 e1
 refine aj ?_
 refine VG (VO.makeSlice n Z Z Z Z Z Z Z yd (by show 16*n≤_;omega) fun mb=>?_)
 rw[show(List.replicate n T.t96.zs).flatten=flat aC (List.replicate n (0,0)) from HA (c:=aC) n (0,0)]
 refine ae ?_
 refine VG (VO.st 4 (cs':=dC k1 (.slice (some ⟨mb,0,none⟩) n n) 0) Z Z Z Z sd Z Z ?_)
 refine lF ?_
 refine VC.loop (σ:=Nat×List bj×Bs×Bool) (fun x=>[(2,pV b2),(4,pV b4),(5,pV b5),(6,pV b6),(8,ba 370 [] [.pointer (some ⟨b6,0,none⟩),.pointer (some ⟨b5,0,none⟩)]),(33,.int .i64 n),(34,.int .i64 (x.1:Int))])
  (fun x=>[pt mb (flat aC x.2.1) aN,pt b6 [.bool x.2.2.2] vG,pt b5 [.string (bT x.2.2.1)] oB,pt b4 (dC k1 (.slice (some ⟨mb,0,none⟩) n n) 0) cX,pt b2 jy cX]) (LI n r2 s.length) (fun x=>n-x.1) (0,List.replicate n (0,0),r2,true)
  ⟨bK _,by simp,by dsimp only;omega,fun _=>⟨[],rfl,rfl,rfl⟩,fun h=>(nO h.symm).elim⟩ aF (aZ [0,1,1,1,1]).ah ?_
 rintro⟨k,ms,r,ok⟩ hI
 have hk:=hI.k
 have hml:=hI.ms
 have hrl:=hI.len
 dsimp only at hk hml hrl ⊢
 refine ae ?_
 refine CP (p:=(k:Int)<n) Z (fun h3=>CK ?_) (fun h3=>CX ?_)
 ·obtain⟨m,hm⟩:∃m,ms[k]?=some m:=⟨_,GE yd⟩
  refine Bc ?_
  refine xl ?_
  refine ae ?_
  refine VG (VO.kc (Lc:=ov mb b6 b5 aN (flat aC ms) ok r) (Lr:=[pt b4 (dC k1 (.slice (some ⟨mb,0,none⟩) n n) 0) cX,pt b2 jy cX]) Z (fun Fr w hF hw _=>wO Fr w (QP hm) yd) Z Z ?_)
  rintro _ _ ⟨rfl,x,q,ok1,i1,rfl⟩
  have n1:=i1.len
  rw[QR x hm]
  have hm2:(ms.set k (x,m.2))[k]?=some (x,m.2):=hO yd
  show VO _ _ _ _ _ [pt mb (flat aC (ms.set k (x,m.2))) aN,pt b6 [.bool ok1] vG,pt b5 [.string (bT q)] oB,pt b4 (dC k1 (.slice (some ⟨mb,0,none⟩) n n) 0) cX,pt b2 jy cX] _
  refine Bc ?_
  refine xl ?_
  refine ae ?_
  refine VG (VO.kc (Lc:=ov mb b6 b5 aN (flat aC (ms.set k (x,m.2))) ok1 q) (Lr:=[pt b4 (dC k1 (.slice (some ⟨mb,0,none⟩) n n) 0) cX,pt b2 jy cX]) Z (fun Fr w hF hw _=>wO Fr w (QQ hm2) yd) Z Z ?_)
  rintro _ _ ⟨rfl,y,p,ok2,i2,rfl⟩
  rw[QS y hm2,tL]
  refine fx ?_
  exact⟨(k+1,ms.set k (x,y),p,ok2),hI.next (m:=m) yd i1 i2,by dsimp only;omega,SC Z (SC Z (SC Z (SC Z (SC Z (SC Z (Sub.int Z yp (SN _))))))),ER⟩
 obtain rfl:k=n:=by omega
 refine ae ?_
 refine VO.ah (L':=ov b4 b6 b5 cX (dC k1 (.slice (some ⟨mb,0,none⟩) k k) 0) ok r ++ [pt mb (flat aC ms) aN,pt b2 jy cX]) (aZ [3,1,1,0,0]).ah ?_
 refine VG (VO.kc (Lc:=ov b4 b6 b5 cX (dC k1 (.slice (some ⟨mb,0,none⟩) k k) 0) ok r) (Lr:=[pt mb (flat aC ms) aN,pt b2 jy cX]) Z (fun Fr w hF hw _=>wO Fr w (off:=2) (k0:=0) Z yd) Z Z ?_)
 rintro _ _ ⟨rfl,dr,q,ok3,i3,rfl⟩
 have n3:=i3.len
 show VO _ _ _ _ _ [pt b4 (dC k1 (.slice (some ⟨mb,0,none⟩) k k) dr) cX,pt b6 [.bool ok3] vG,pt b5 [.string (bT q)] oB,pt mb (flat aC ms) aN,pt b2 jy cX] _
 refine ae ?_
 refine uX ?_
 cases ok3 with
 | false=>
  have hn:i_ s=none:=by
   rw[hG]
   by_cases e1:ok=true
   ·obtain⟨l,hl,_,_⟩:=hI.t e1
    dsimp only at hl
    rw[hl]
    rcases i3.f rfl with g | g
    ·rw[g] at e1;cases e1
    ·dsimp only;rw[g]
   ·rw[hI.f (by simpa using e1)]
  refine au ?_
  refine VG (VY 57 true Z Z ?_)
  refine au ?_
  refine VG (VY 61 true Z Z ?_)
  refine pW ?_
  refine vi ?_
  exact u6
 | true=>
 obtain⟨e1,u1⟩:=i3.t rfl
 obtain⟨l,hl,ht,hll⟩:=hI.t e1
 dsimp only at hl ht hll
 rw[hl] at hG
 dsimp only at hG
 rw[u1] at hG
 dsimp only at hG
 rw[p4 yd] at ht
 rw[←ht] at hG
 refine au ?_
 refine VG (VY 57 false Z Z ?_)
 refine gZ ?_
 by_cases hq:q=[]
 rotate_left
 ·have hn:i_ s=none:=by rw[hG,if_neg (fun h=>hq h.1)]
  refine VG (VY 61 true Z (by rw[show(ByteArray.mk #[])=bT [] from Z,oV,DF hq];rfl) ?_)
  refine pW ?_
  refine vi ?_
  exact u6
 refine VG (VY 61 false Z (by rw[show(ByteArray.mk #[])=bT [] from Z,oV,DT hq];rfl) ?_)
 refine au ?_
 have hdc:dC k1 (.slice (some ⟨mb,0,none⟩) k k) dr=(aW.mk k1 ms dr).cells (some ⟨mb,0,none⟩) k:=by unfold dC aW.cells;rw[hml]
 rw[hdc]
 refine LC ?_
 refine VG (VV (fun Fr w hF hw hS=>Ch.gq Fr w (aP.ar (off:=0) (hS.ar 3 Z) (fun i x hx=>by have:=kK cj hx [];rw[bA] at this;rw[bZ];exact this)) (by rw[hml];omega)) Z ?_)
 refine au ?_
 refine VC.dd Z (fun hc=>?_) (fun hc=>CK ?_)
 ·have hn:i_ s=none:=by rw[hG,if_neg (fun h=>hc h.2)]
  refine ae ?_
  refine vi ?_
  exact u6
 rw[if_pos ⟨hq,hc⟩] at hG
 refine au ?_
 refine LC ?_
 refine VG (VT (vs:=(aW.mk k1 ms dr).cells (some ⟨mb,0,none⟩) k) (cs':=(aW.mk k1 ms dr).cells (some ⟨mb,0,none⟩) k) 4 Z Z Z Z (NR _) Z Z Z ?_)
 refine au ?_
 refine CR (al.cJ 2 3 Z Z Z (an.many (ds:=(aW.mk k1 ms dr).cells (some ⟨mb,0,none⟩) k) 4 Z Z) Z (L':=[av aN 2 (some ⟨mb,0,none⟩) ms.length k (flat aC ms)]) ?_ (by rw[hG];exact⟨_,_,Z,Z⟩))
 have hsl:aa [pt mb (flat aC ms ++ []) aN] [av aN 2 (some ⟨mb,0,none⟩) ms.length k (flat aC ms)]:=aa.sl (dS cj ms) yd (by rw[bA,dS cj];omega) aa.refl
 rw[bA] at hsl
 exact((IP 3 Z aa.nil).trans hsl).ah
end Cl
namespace Cl
open Go Vg T Api Ch
attribute [local irreducible] VO VC VA
abbrev ft:TypeId:=353
abbrev il:TypeId:=300
def fg(fb:Nat)(o:Nat):List Value:=[.pointer (some ⟨fb,o,none⟩)]
theorem sZ(fb o:Nat):(fg fb o).length=1:=rfl
abbrev sL(n:Int):List Value:=[.int .i64 n]
theorem uS{a:Option Addr}{c:Nat}{ns:List Int}(h:aP sL 1 Fr w a ns)(hl:ns.length≤1000):aq Tryz.prog 326 [.slice a ns.length c] Fr w [] (fun v L=>v=.bool (ns.all fP)∧L=[]):=by
 refine TF 18 Tryz.func326 Z ym aw Z Z ?_
 refine ae ?_
 refine VC.loop (σ:=Nat) (fun k=>[(5,.slice a ns.length c),(6,.int .i64 ns.length),(7,.int .i64 (k:Int))]) (fun _=>[]) (fun k=>k≤ns.length∧(ns.take k).all fP=true) (fun k=>ns.length-k) 0
  ⟨bK _,by rw[p5];rfl⟩ aF ER ?_
 rintro k ⟨hk,hall⟩
 refine ae ?_
 refine CP (p:=(k:Int)<ns.length) Z (fun h1=>CK ?_) (fun h1=>CX ?_)
 rotate_left
 ·rw[p4 yd] at hall
  refine ae ?_
  exact CR (al.tmp 2 Z Z ER ⟨by rw[hall],Z⟩)
 obtain⟨x,hx⟩:∃x,ns[k]?=some x:=⟨_,GE yd⟩
 obtain⟨xb,xo,hxa,ra,rc⟩:=aP.rd (X:=⟨Tryz.prog,tab,aw,18,Fr,w⟩) h hx
 subst hxa
 have bad:fP x=false→ns.all fP=false:=fun hb=>by
  rw[vn]
  exact⟨x,ME hx,by rw[hb];decide⟩
 refine nM ?_
 refine VG (VO.load Z Z (rc _ _ 0 _ Z Z) ?_)
 refine ae ?_
 by_cases h2:x<0
 ·refine VG (VY 13 true Z (DT h2) ?_)
  refine pW ?_
  exact CR (al.tmp 2 Z Z ER ⟨by rw[bad (DF yd)],Z⟩)
 refine VG (VY 13 false Z (DF h2) ?_)
 refine au ?_
 refine CP (p:=1099511627776<x) Z (fun h3=>?_) (fun h3=>CK ?_)
 ·refine ae ?_
  exact CR (al.tmp 2 Z Z ER ⟨by rw[bad (DF yd)],Z⟩)
 refine fx ?_
 refine⟨k+1,⟨by omega,?_⟩,by dsimp only;omega,SC Z (SC Z (Sub.int Z yd (SN _))),ER⟩
 rw[fS,hx,xF,hall]
 have:fP x=true:=DT yd
 simp[this]
def IU(fb:Nat)(os:List Nat)(v:Value)(L:List HP):Prop:=∃a c,v=.slice a os.length c∧L=[av il 1 a os.length c (flat (fg fb) os)]
theorem DB{fb:Nat}{f:aA}{g:gM}(h:a7 Fr w fb (f.cells g)):aq Tryz.prog 274 [.pointer (some ⟨fb,0,none⟩)] Fr w [] (IU fb (fu f.kind)):=by
 have fin:∀{X:Cx} {E:Env} {fn:Func} {b:Nat} (os:List Nat),fn.results=#[.tmp 2]→Vg.look E 2=some (.slice (some ⟨b,0,none⟩) os.length os.length)→fu f.kind=os→al X fn (IU fb (fu f.kind)) E [pt b (flat (fg fb) os) il]:=fun os h1 h2 h3=>
  al.tmp 2 h1 h2 (aa.Aq (by rw[dS (sZ fb)]) aa.refl).ah (by rw[h3];exact⟨_,_,rfl,rfl⟩)
 refine TF 92 Tryz.func274 Z ym aw Z Z ?_
 refine ae ?_
 refine VG (VO.load Z Z (an.ar h Z) ?_)
 refine ae ?_
 refine CE Z (fun h1=>?_) (fun h1=>?_)
 ·refine ae ?_
  refine CD (ts 0 18 (.only 18 (.take 19 .nil))) ym yo ?_
  refine cG ?_
  refine AG (AO (aG.buildSlice (n:=6) (pv:=[(0,.pointer (some ⟨fb,1,none⟩)),(1,.pointer (some ⟨fb,2,none⟩)),(2,.pointer (some ⟨fb,3,none⟩)),(3,.pointer (some ⟨fb,4,none⟩)),(4,.pointer (some ⟨fb,5,none⟩)),(5,.pointer (some ⟨fb,6,none⟩))]) (cells:=flat (fg fb) [1,2,3,4,5,6]) rfl rfl rfl rfl yn rfl) rfl (fun v L' g=>by obtain⟨b,rfl,rfl⟩:=g;exact gx) ?_)
  rintro _ _ ⟨b,rfl,rfl⟩
  refine cG ?_
  exact CR (fin [1,2,3,4,5,6] Z Z (by rw[h1];rfl))
 refine ae ?_
 refine CE Z (fun h2=>?_) (fun h2=>?_)
 ·refine ae ?_
  refine CD (ts 0 9 (.only 9 (.take 10 .nil))) ym yo ?_
  refine cG ?_
  refine AG (AO (aG.buildSlice (n:=3) (pv:=[(0,.pointer (some ⟨fb,2,none⟩)),(1,.pointer (some ⟨fb,3,none⟩)),(2,.pointer (some ⟨fb,4,none⟩))]) (cells:=flat (fg fb) [2,3,4]) rfl rfl rfl rfl yn rfl) rfl (fun v L' g=>by obtain⟨b,rfl,rfl⟩:=g;exact gx) ?_)
  rintro _ _ ⟨b,rfl,rfl⟩
  refine cG ?_
  exact CR (fin [2,3,4] Z Z (by rw[h2];rfl))
 refine ae ?_
 refine CE Z (fun h3=>?_) (fun h3=>?_)
 ·refine ae ?_
  refine CD (ts 0 15 (.only 15 (.take 16 .nil))) ym yo ?_
  refine cG ?_
  refine AG (AO (aG.buildSlice (n:=5) (pv:=[(0,.pointer (some ⟨fb,1,none⟩)),(1,.pointer (some ⟨fb,2,none⟩)),(2,.pointer (some ⟨fb,3,none⟩)),(3,.pointer (some ⟨fb,4,none⟩)),(4,.pointer (some ⟨fb,15,none⟩))]) (cells:=flat (fg fb) [1,2,3,4,15]) rfl rfl rfl rfl yn rfl) rfl (fun v L' g=>by obtain⟨b,rfl,rfl⟩:=g;exact gx) ?_)
  rintro _ _ ⟨b,rfl,rfl⟩
  refine cG ?_
  exact CR (fin [1,2,3,4,15] Z Z (by rw[h3];rfl))
 refine CS (VC.cZ (σ:=Bool) (fun x=>[(0,pV fb),(6,.int .i64 f.kind),(58,.bool x)]) (fun _=>[]) (fun x=>x=(decide (f.kind=4)||decide (f.kind=12))) ?_ ?_)
 ·refine ae ?_
  refine CE Z (fun h4=>CK ?_) (fun h4=>?_)
  ·exact⟨true,by rw[DT h4];rfl,SC Z (SC Z (Sub.bl Z (by rw[h4];rfl) (SN _))),ER⟩
  ·refine ae ?_
   exact⟨decide (f.kind=12),by rw[DF h4];rfl,SC Z (SC Z (Sub.bl Z Z (SN _))),ER⟩
 rintro x hx
 refine ae ?_
 refine CC Z (fun h4=>?_) (fun h4=>?_)
 ·have hk:f.kind=4∨f.kind=12:=by rw[hx] at h4;simpa using h4
  refine ae ?_
  refine VG (VO.buildSlice (n:=1) (pv:=[(0,.pointer (some ⟨fb,1,none⟩))]) (flat (fg fb) [1]) Z Z Z Z yn Z fun b=>?_)
  refine ae ?_
  exact CR (fin [1] rfl rfl (by rcases hk with e | e<;>rw[e]<;>rfl))
 have hk:f.kind≠4∧f.kind≠12:=by rw[hx] at h4;simpa using h4
 refine ae ?_
 refine CE Z (fun h5=>?_) (fun h5=>?_)
 ·refine ae ?_
  refine CD (ts 0 12 (.only 12 (.take 13 .nil))) ym yo ?_
  refine cG ?_
  refine AG (AO (aG.buildSlice (n:=4) (pv:=[(0,.pointer (some ⟨fb,1,none⟩)),(1,.pointer (some ⟨fb,26,none⟩)),(2,.pointer (some ⟨fb,27,none⟩)),(3,.pointer (some ⟨fb,28,none⟩))]) (cells:=flat (fg fb) [1,26,27,28]) rfl rfl rfl rfl yn rfl) rfl (fun v L' g=>by obtain⟨b,rfl,rfl⟩:=g;exact gx) ?_)
  rintro _ _ ⟨b,rfl,rfl⟩
  refine cG ?_
  exact CR (fin [1,26,27,28] Z Z (by rw[h5];rfl))
 refine CS (VC.cZ (σ:=Bool) (fun x=>[(0,pV fb),(6,.int .i64 f.kind),(80,.bool x)]) (fun _=>[]) (fun x=>x=true↔(f.kind=6∨f.kind=9∨f.kind=10∨f.kind=11)) ?_ ?_)
 ·refine ae ?_
  refine CE Z (fun h6=>CK ?_) (fun h6=>?_)
  ·exact⟨true,by simp[h6],SC Z (SC Z (Sub.bl Z (by rw[h6];rfl) (SN _))),ER⟩
  refine ae ?_
  refine CE Z (fun h7=>CK ?_) (fun h7=>?_)
  ·exact⟨true,by simp[h7],SC Z (SC Z (Sub.bl Z (by rw[h7];rfl) (SN _))),ER⟩
  refine ae ?_
  refine CE Z (fun h8=>CK ?_) (fun h8=>?_)
  ·exact⟨true,by simp[h8],SC Z (SC Z (Sub.bl Z (by rw[h8];rfl) (SN _))),ER⟩
  refine ae ?_
  exact⟨decide (f.kind=11),by simp[h6,h7,h8],SC Z (SC Z (Sub.bl Z Z (SN _))),ER⟩
 rintro y hy
 refine ae ?_
 refine CC Z (fun h6=>?_) (fun h6=>CK ?_)
 ·have hk2:=hy.1 h6
  refine ae ?_
  refine E8 ?_
  refine cG ?_
  refine AG (AO (aG.buildSlice (n:=2) (pv:=[(0,.pointer (some ⟨fb,1,none⟩)),(1,.pointer (some ⟨fb,26,none⟩))]) (cells:=flat (fg fb) [1,26]) rfl rfl rfl rfl yn rfl) rfl (fun v L' g=>by obtain⟨b,rfl,rfl⟩:=g;exact gx) ?_)
  rintro _ _ ⟨b,rfl,rfl⟩
  refine cG ?_
  exact CR (fin [1,26] rfl rfl (by rcases hk2 with e | e | e | e<;>rw[e]<;>rfl))
 have hk2:¬(f.kind=6∨f.kind=9∨f.kind=10∨f.kind=11):=fun k=>by rw[hy.2 k] at h6;cases h6
 have ho:fu f.kind=[]:=by
  unfold fu
  rw[if_neg h1,if_neg h2,if_neg h3,if_neg yd,if_neg h5,if_neg hk2]
 refine ae ?_
 exact CR (al.tmp 2 Z Z (aa.cN aa.nil).ah (by rw[ho];exact⟨_,_,Z,Z⟩))
end Cl
namespace Cl
open Go Vg T Api Ch
attribute [local irreducible] VO VC VA
theorem B2(f:aA)(g:gM){o:Nat}(h:qp o=true):(f.cells g)[o]?=some (.int .i64 (iM f o)):=by
 have hm:o∈[1,2,3,4,5,6,15,26,27,28]:=by unfold qp at h;exact of_decide_eq_true h
 simp only[gK,oM,or_false] at hm
 rcases hm with rfl | rfl | rfl | rfl | rfl | rfl | rfl | rfl | rfl | rfl<;>rfl
theorem Eb{Fr:Nat→Prop}{w:World}{b:Nat}{ns:List Int}(h:a7 Fr w b (flat sL ns)):aP sL 1 Fr w (some ⟨b,0,none⟩) ns:=
 aP.ar (off:=0) h fun i x hx=>by
  have:=kK (c:=sL) (n:=1) (fun _=>rfl) hx []
  rw[bA] at this
  rw[bZ];exact this
def Ag(r:fV):List Value:=[.int .i64 r.code,.string r.value,.int .i64 r.version,.int .i64 r.at_]
def yW(e:bS):List Value:=[.int .i64 e.index,.int .i64 e.aI,.int .i64 e.seq,.int .i64 e.op.kind,.string e.op.key,.string e.op.value,.int .i64 e.op.version]
theorem wD{f:aA}{a:Option Addr}{cap:Nat}{ms:List bj}(h:aP aC 2 Fr w a ms)(hl:ms.length≤1000000):aq Tryz.prog 272 [.agg (f.cells (a,ms.length,cap)).toArray] Fr w [] (fun v L=>v=.bool (kP f ms)∧L=[]):=by
 generalize hfc:f.cells (a,ms.length,cap)=fc
 have hch:(fc.drop 23).take 3=aW.cells ⟨f.dE,ms,f.drain⟩ a cap:=by rw[←hfc];rfl
 have hop:(fc.drop 7).take 4=f.op.cells:=by rw[←hfc];rfl
 have hkd:fc[0]?=some (.int .i64 f.kind):=by rw[←hfc];rfl
 refine TF 86 Tryz.func272 Z ym aw Z Z ?_
 refine CS (CG (VG (VB (vs:=fc) Z fun b=>VG (VN ?_))))
 refine ae ?_
 refine VG (VO.ld 0 Z Z Z hkd ?_)
 refine ae ?_
 by_cases h1:f.kind<1
 ·refine VG (VY 10 true Z (DT h1) ?_)
  refine pW ?_
  exact CR (al.tmp 2 Z Z aa.nil.ah ⟨by rw[kP,DF yd];rfl,Z⟩)
 refine VG (VY 10 false Z (DF h1) ?_)
 refine au ?_
 refine VG (VO.ld 0 Z Z Z hkd ?_)
 refine au ?_
 refine CP (p:=12<f.kind) Z (fun h2=>?_) (fun h2=>CK ?_)
 ·refine ae ?_
  exact CR (al.tmp 2 Z Z aa.nil.ah ⟨by rw[kP,DF yd];rfl,Z⟩)
 have hM:kP f ms=((fu f.kind).all (fun o=>fP (iM f o))&&qq f ms):=by rw[kP,DT yd];rfl
 refine ae ?_
 refine VG (VK (Lc:=[]) (fun Fr w hF hw hS=>DB Fr w (fb:=b) (f:=f) (g:=(a,ms.length,cap)) (by rw[hfc];exact hS.ar 0 Z)) Z Z ?_)
 rintro _ _ ⟨na,nc,rfl,rfl⟩
 refine ae ?_
 generalize hos:fu f.kind=os at hM
 have hof:∀o∈os,qp o=true:=fun o ho=>DD f.kind o (by rw[hos];exact ho)
 have hol:os.length≤6:=by rw[←hos];exact DE _
 refine VC.bu 0 Z (aY.rl il na nc os (sZ b)) ?_
 rintro⟨ra,rc,rb,rcs,rxs⟩ ⟨rok,rv,rx⟩
 dsimp only at rx
 subst rx
 injection rv with e1 _ e3
 subst e1 e3
 refine VC.loop (σ:=Nat) (fun k=>[(1,pV b),(15,.slice ra rxs.length rc),(16,.int .i64 rxs.length),(17,.int .i64 (k:Int))]) (fun _=>[RL.h il ⟨ra,rc,rb,rcs,rxs⟩,pt b fc ft]) (fun k=>k≤rxs.length∧(rxs.take k).all (fun o=>fP (iM f o))=true) (fun k=>rxs.length-k) 0
  ⟨bK _,by rw[p5];rfl⟩ aF ER ?_
 rintro k ⟨hk,hall⟩
 refine ae ?_
 refine CP (p:=(k:Int)<rxs.length) Z (fun h3=>CK ?_) (fun h3=>CX ?_)
 ·obtain⟨o,ho⟩:∃o,rxs[k]?=some o:=⟨_,GE yd⟩
  have hoo:=hof o (ME ho)
  have hcell:fc[o]?=some (.int .i64 (iM f o)):=by rw[←hfc];exact B2 f _ hoo
  obtain⟨tb,tof,htb,hta,hrd⟩:=RL.Ok.ld (t:=il) (k:=k) (x:=o) rok ho (sZ b o)
  dsimp only at hta
  subst hta
  refine nM ?_
  refine VG (VO.load Z Z ((hrd 0 Z).2 _ 0 _ Z Z) ?_)
  refine ae ?_
  refine VG (VO.ld 1 Z Z Z hcell ?_)
  refine VG (VO.buildSlice (n:=1) (pv:=[(0,.int .i64 (iM f o))]) (flat sL [iM f o]) Z Z Z Z yn Z fun sb=>?_)
  refine VG (VV (fun Fr w hF hw hS=>uS Fr w (ns:=[iM f o]) (Eb (hS.ar 0 Z)) (fB Z)) Z ?_)
  refine ae ?_
  have e:[iM f o].all fP=fP (iM f o):=by simp
  refine VC.ey Z (fun h4=>?_) (fun h4=>CK ?_)
  ·rw[e] at h4
   refine ae ?_
   exact CR (al.tmp 2 Z Z aa.nil.ah ⟨by rw[hM,vn.2 ⟨o,ME ho,by rw[h4];decide⟩];rfl,Z⟩)
  rw[e] at h4
  refine fx ?_
  refine⟨k+1,⟨by omega,?_⟩,by dsimp only;omega,SC Z (SC Z (SC Z (Sub.int Z yd (SN _)))),(aZ [1,1]).ah⟩
  rw[fS,ho,xF,hall]
  simp[h4]
 rw[p4 yd] at hall
 rw[hall,qY] at hM
 clear rok hall hk h3 hol hof hos
 rw[hM]
 unfold qq
 refine ae ?_
 refine VG (VO.ld 1 Z Z Z hkd ?_)
 refine ae ?_
 refine CE Z (fun k1=>?_) (fun k1=>?_)
 ·rw[if_pos k1]
  refine ae ?_
  refine VG (VL 1 f.op.cells Z Z Z hop ?_)
  refine VG (VV (fun Fr w hF hw hS=>Api.gq Fr w f.op) Z ?_)
  refine ae ?_
  exact qO
 rw[if_neg k1]
 refine ae ?_
 refine CE Z (fun k2=>?_) (fun k2=>?_)
 ·rw[if_pos k2]
  refine ae ?_
  refine VG (VL 1 (Ag f.res) Z Z Z Bz ?_)
  refine VG (VO.alloc Z fun rb2=>?_)
  refine LD ?_
  refine aj ?_
  by_cases g1:1≤f.res.code
  rotate_left
  ·refine VG (VY 43 false Z (DF g1) ?_)
   refine au ?_
   refine VG (VY 48 false Z Z ?_)
   refine au ?_
   refine EU ?_
   refine au ?_
   exact CR (al.tmp 2 Z Z aa.nil.ah ⟨by rw[DF g1];rfl,Z⟩)
  refine VG (VY 43 true Z (DT g1) ?_)
  refine bF ?_
  by_cases g2:f.res.code≤3
  rotate_left
  ·refine VG (VY 48 false Z (DF g2) ?_)
   refine au ?_
   refine EU ?_
   refine au ?_
   exact CR (al.tmp 2 Z Z aa.nil.ah ⟨by rw[DF g2,gj];rfl,Z⟩)
  refine VG (VY 48 true Z (DT g2) ?_)
  refine bF ?_
  by_cases g3:f.res.value.size≤64
  rotate_left
  ·refine VG (VY 54 false Z (DF yd) ?_)
   refine au ?_
   exact CR (al.tmp 2 Z Z aa.nil.ah ⟨by rw[DF g3,gj];rfl,Z⟩)
  refine VG (VY 54 true Z (DT yd) ?_)
  refine bF ?_
  refine VG (VO.buildSlice (n:=2) (pv:=[(0,.int .i64 f.res.version),(1,.int .i64 f.res.at_)]) (flat sL [f.res.version,f.res.at_]) Z Z Z Z yn Z fun sb=>?_)
  refine VG (VV (fun Fr w hF hw hS=>uS Fr w (ns:=[f.res.version,f.res.at_]) (Eb (hS.ar 0 Z)) (fB Z)) Z ?_)
  refine au ?_
  exact CR (al.tmp 2 Z Z aa.nil.ah ⟨by rw[DT g1,DT g2,DT g3];simp,Z⟩)
 rw[if_neg k2]
 refine ae ?_
 refine CE Z (fun k4=>?_) (fun k4=>?_)
 ·rw[if_pos k4]
  refine ae ?_
  refine VG (VL 1 (yW f.entry) Z Z Z Bz ?_)
  refine VG (VO.alloc Z fun eb=>?_)
  refine LF ?_
  refine aj ?_
  refine VG (VO.buildSlice (n:=3) (pv:=[(0,.int .i64 f.entry.index),(1,.int .i64 f.entry.aI),(2,.int .i64 f.entry.seq)]) (flat sL [f.entry.index,f.entry.aI,f.entry.seq]) Z Z Z Z yn Z fun sb=>?_)
  refine VG (VV (fun Fr w hF hw hS=>uS Fr w (ns:=[f.entry.index,f.entry.aI,f.entry.seq]) (Eb (hS.ar 0 Z)) (fB Z)) Z ?_)
  have e3:[f.entry.index,f.entry.aI,f.entry.seq].all fP=(fP f.entry.index&&(fP f.entry.aI&&fP f.entry.seq)):=by simp
  rw[e3]
  generalize (fP f.entry.index&&(fP f.entry.aI&&fP f.entry.seq))=x
  refine au ?_
  cases x with
  | false=>
   refine VG (VY 74 false Z Z ?_)
   refine au ?_
   exact qO
  | true=>
  refine VG (VY 74 true Z Z ?_)
  refine au ?_
  refine VG (VL 1 f.entry.op.cells Z Z Z Z ?_)
  refine VG (VV (fun Fr w hF hw hS=>Api.gq Fr w f.entry.op) Z ?_)
  refine au ?_
  exact qO
 rw[if_neg k4]
 refine ae ?_
 refine CE Z (fun k8=>?_) (fun k8=>CK ?_)
 ·rw[if_pos k8]
  refine ae ?_
  refine VG (VL 1 (aW.cells ⟨f.dE,ms,f.drain⟩ a cap) Z Z Z hch ?_)
  refine VG (VV (fun Fr w hF hw hS=>Ch.gq Fr w (c:=⟨f.dE,ms,f.drain⟩) (h.of hF hw) FK) Z ?_)
  refine ae ?_
  exact qO
 rw[if_neg k8]
 refine ae ?_
 exact qO
end Cl
namespace Cl
open Go Vg T Api Ch
attribute [local irreducible] VO VC VA
theorem zy{f:aA}{ms:List bj}(h:kP f ms=true):qq f ms=true:=by
 unfold kP at h
 simp only[dG] at h
 exact h.2.2
theorem Iu{f:aA}{ms:List bj}(h:kP f ms=true)(k:f.kind=1):c_ f.op=0:=by
 have:=zy h
 rw[qq,if_pos k] at this
 exact of_decide_eq_true this
theorem Iv{f:aA}{ms:List bj}(h:kP f ms=true)(k:f.kind=2):f.res.value.size≤64:=by
 have:=zy h
 rw[qq,if_neg yd,if_pos k] at this
 simp only[dG,decide_eq_true_eq] at this
 omega
theorem Iw{f:aA}{ms:List bj}(h:kP f ms=true)(k:f.kind=4):c_ f.entry.op=0∧fP f.entry.index=true∧fP f.entry.aI=true∧fP f.entry.seq=true:=by
 have:=zy h
 rw[qq,if_neg yd,if_neg yd,if_pos k] at this
 simp only[dG,decide_eq_true_eq] at this
 exact⟨this.2,this.1.1,this.1.2.1,this.1.2.2⟩
theorem Ix{f:aA}{ms:List bj}(h:kP f ms=true)(k:f.kind=8):fp ⟨f.dE,ms,f.drain⟩=0:=by
 have:=zy h
 rw[qq,if_neg yd,if_neg yd,if_neg yd,if_pos k] at this
 exact of_decide_eq_true this
theorem Ng{f:aA}{ms:List bj}(h:kP f ms=true):(sD f ms).length≤200:=by
 unfold sD
 split
 ·rename_i k
  have:=DH (Iu h k);omega
 split
 ·rename_i k
  have:=Iv h k
  have a:=fe f.res.code
  have b:=uQ (sB f.res.value)
  have c:=fe f.res.version
  have d:=fe f.res.at_
  rw[wU] at b
  simp only[a_];omega
 split
 ·rename_i k
  have:=DH (Iw h k).1
  have a:=fe f.entry.index
  have b:=fe f.entry.aI
  have c:=fe f.entry.seq
  simp only[a_];omega
 split
 ·rename_i k
  have:=NG (Ix h k);omega
 ·exact bK _
theorem Nh{f:aA}{a:Option Addr}{cap:Nat}{ms:List bj}(h:aP aC 2 Fr w a ms)(hl:ms.length≤1000000)(hm:kP f ms=true):aq Tryz.prog 275 [.agg (f.cells (a,ms.length,cap)).toArray] Fr w [] (fun v L=>v=.string (bT (sD f ms))∧L=[]):=by
 generalize hfc:f.cells (a,ms.length,cap)=fc
 have hch:(fc.drop 23).take 3=aW.cells ⟨f.dE,ms,f.drain⟩ a cap:=by rw[←hfc];rfl
 have hop:(fc.drop 7).take 4=f.op.cells:=by rw[←hfc];rfl
 have hkd:fc[0]?=some (.int .i64 f.kind):=by rw[←hfc];rfl
 refine TF 66 Tryz.func275 Z ym aw Z Z ?_
 refine CS (CG (VG (VB (vs:=fc) Z fun b=>VG (VN ?_))))
 refine CS (CS (CG (VG (VO.ld 0 Z Z Z hkd (VG (VN ?_))))))
 refine VC.cZ (σ:=Unit) (fun _=>[(2,.string (bT (sD f ms)))]) (fun _=>[]) (fun _=>True) ?_ ?_
 rotate_left
 ·rintro⟨⟩ _
  refine ae ?_
  exact qO
 unfold sD
 refine ae ?_
 refine CE Z (fun k1=>?_) (fun k1=>?_)
 ·have ho:=Iu hm k1
  rw[if_pos k1]
  refine ae ?_
  refine VG (VL 0 f.op.cells Z Z Z hop ?_)
  refine VG (VV (fun Fr w hF hw hS=>I6 Fr w f.op) Z ?_)
  rw[if_pos ho]
  refine ae ?_
  exact xx
 rw[if_neg k1]
 refine ae ?_
 refine CE Z (fun k2=>?_) (fun k2=>?_)
 ·have hv:=Iv hm k2
  have l1:=fe f.res.code
  have l2:=uQ (sB f.res.value)
  have l3:=fe f.res.version
  have l4:=fe f.res.at_
  rw[wU] at l2
  rw[if_pos k2]
  refine ae ?_
  refine VG (VL 0 (Ag f.res) Z Z Z Bz ?_)
  refine VG (VO.alloc Z fun rb=>?_)
  refine LD ?_
  refine ae ?_
  refine CD (ts 0 2 (ts 3 2 (ts 7 2 (ts 11 2 (.only 2 (.only 5 (.take 6 (.only 9 (.take 10 (.only 13 (ts 14 2 .nil))))))))))) ym yo ?_
  refine bg ?_
  refine AG (AR (fun Fr w hF hs hS=>lu Fr w f.res.code) Z Z yv ?_)
  refine AG (AR (fun Fr w hF hs hS=>Er Fr w f.res.value yd) Z Z yv ?_)
  refine xr ?_
  refine AG (AR (fun Fr w hF hs hS=>lu Fr w f.res.version) Z Z yv ?_)
  refine AG (AI Z (nk Z Z Mm) ?_)
  refine AG (AR (fun Fr w hF hs hS=>lu Fr w f.res.at_) Z Z yv ?_)
  refine AG (AI Z (nk Z Z Mn) ?_)
  rw[←kE,←kE,←kE]
  refine bg ?_
  exact xx
 rw[if_neg k2]
 refine ae ?_
 refine CE Z (fun k4=>?_) (fun k4=>?_)
 ·have ho:=(Iw hm k4).1
  have l1:=fe f.entry.index
  have l2:=fe f.entry.aI
  have l3:=fe f.entry.seq
  have l4:=DH ho
  rw[if_pos k4]
  refine ae ?_
  refine VG (VL 0 (yW f.entry) Z Z Z Bz ?_)
  refine VG (VO.alloc Z fun eb=>?_)
  refine LF ?_
  refine ae ?_
  refine VG (VL 0 f.entry.op.cells Z Z Z Z ?_)
  refine VG (VV (fun Fr w hF hw hS=>I6 Fr w f.entry.op) Z ?_)
  rw[if_pos ho]
  refine ae ?_
  refine CD (ts 0 2 (ts 3 2 (ts 7 2 (.take 11 (.only 2 (.only 5 (.take 6 (.only 9 (.take 10 (ts 12 2 .nil)))))))))) ym yo ?_
  refine bg ?_
  refine AG (AR (fun Fr w hF hs hS=>lu Fr w f.entry.index) Z Z yv ?_)
  refine AG (AR (fun Fr w hF hs hS=>lu Fr w f.entry.aI) Z Z yv ?_)
  refine xr ?_
  refine AG (AR (fun Fr w hF hs hS=>lu Fr w f.entry.seq) Z Z yv ?_)
  refine AG (AI Z (nk Z Z Mm) ?_)
  refine AG (AI Z (nk Z Z Mn) ?_)
  rw[←kE,←kE,←kE]
  refine bg ?_
  exact xx
 rw[if_neg k4]
 refine ae ?_
 refine CE Z (fun k8=>?_) (fun k8=>CK ?_)
 ·have hc:=Ix hm k8
  rw[if_pos k8]
  refine ae ?_
  refine VG (VL 0 (aW.cells ⟨f.dE,ms,f.drain⟩ a cap) Z Z Z hch ?_)
  refine VG (VV (fun Fr w hF hw hS=>N2 Fr w (c:=⟨f.dE,ms,f.drain⟩) (h.of hF hw) hl) Z ?_)
  rw[if_pos hc]
  refine ae ?_
  exact xx
 rw[if_neg k8]
 exact xx
end Cl
namespace Cl
open Go Vg T Api Ch
attribute [local irreducible] VO VC VA
def HD(o:Option Bs)(v:Value):Prop:=match o with
 | some t=>v=.tuple #[.string (bT t),.int .i64 0]
 | none=>∃e,e≠0∧v=.tuple #[.string (bT []),.int .i64 e]
theorem DC(f:aA):∀os:List Nat,(os.flatMap (fun o=>dJ (iM f o))).length≤9*os.length
 | []=>NR _
 | o::os=>by
  have:=fe (iM f o)
  have:=DC f os
  rw[List.flatMap_cons,a_,mh];omega
theorem O4{f:aA}{a:Option Addr}{cap:Nat}{ms:List bj}(h:aP aC 2 Fr w a ms)(hl:ms.length≤1000000):aq Tryz.prog 230 [.agg (f.cells (a,ms.length,cap)).toArray] Fr w [] (fun v L=>HD (rY f ms) v∧L=[]):=by
 refine TF 34 Tryz.func230 Z ym aw Z Z ?_
 refine CS (CG (VG (VB (vs:=f.cells (a,ms.length,cap)) Z fun b=>VG (VN ?_))))
 refine ae ?_
 refine VG (VL 0 (f.cells (a,ms.length,cap)) Z Z Z Z ?_)
 refine VG (VV (fun Fr w hF hw hS=>wD Fr w (h.of hF hw) hl) Z ?_)
 refine ae ?_
 refine VC.ey Z (fun hm=>?_) (fun hm=>CK ?_)
 ·refine ae ?_
  exact CR (al.cz 2 3 Z Z Z aa.nil.ah ⟨by rw[rY,if_neg (by rw[hm];decide)];exact⟨2,by decide,Z⟩,Z⟩)
 have hP:rY f ms=if 512<(uF f ms).length then none else some (uF f ms):=by rw[rY,if_pos hm]
 have lb:=Ng hm
 have lk:=fe f.kind
 refine aj ?_
 refine VG (VV (fun Fr w hF hw hS=>lu Fr w f.kind) Z ?_)
 refine ae ?_
 refine VG (VK (Lc:=[]) (fun Fr w hF hw hS=>DB Fr w (fb:=b) (f:=f) (g:=(a,ms.length,cap)) (hS.ar 0 Z)) Z Z ?_)
 rintro _ _ ⟨na,nc,rfl,rfl⟩
 refine ae ?_
 have hpb:uF f ms=(dJ f.kind++(fu f.kind).flatMap (fun o=>dJ (iM f o)))++sD f ms:=rfl
 generalize hos:fu f.kind=os at hpb
 have hof:∀o∈os,qp o=true:=fun o ho=>DD f.kind o (by rw[hos];exact ho)
 have hol:os.length≤6:=by rw[←hos];exact DE _
 refine VC.bu 0 Z (aY.rl il na nc os (sZ b)) ?_
 rintro⟨ra,rc,rb,rcs,rxs⟩ ⟨rok,rv,rx⟩
 dsimp only at rx
 subst rx
 injection rv with e1 _ e3
 subst e1 e3
 refine VC.loop (σ:=Nat) (fun k=>[(1,pV b),(13,.slice ra rxs.length rc),(14,.int .i64 rxs.length),(15,.int .i64 (k:Int)),(4,.string (bT (dJ f.kind++(rxs.take k).flatMap (fun o=>dJ (iM f o)))))]) (fun _=>[RL.h il ⟨ra,rc,rb,rcs,rxs⟩,pt b (f.cells (a,ms.length,cap)) ft]) (fun k=>k≤rxs.length) (fun k=>rxs.length-k) 0
  (bK _) (SC rfl (SC rfl (SC rfl (SC rfl (SC Mf (SN _)))))) ER ?_
 rintro k hk
 refine ae ?_
 refine CP (p:=(k:Int)<rxs.length) Z (fun h3=>CK ?_) (fun h3=>CX ?_)
 ·obtain⟨o,ho⟩:∃o,rxs[k]?=some o:=⟨_,GE yd⟩
  have hoo:=hof o (ME ho)
  have lo:=fe (iM f o)
  have lt:=DC f (rxs.take k)
  rw[iT] at lt
  have e:(rxs.take (k+1)).flatMap (fun o=>dJ (iM f o))=(rxs.take k).flatMap (fun o=>dJ (iM f o))++dJ (iM f o):=by rw[fS,ho,List.flatMap_append];simp
  obtain⟨tb,tof,htb,hta,hrd⟩:=RL.Ok.ld (t:=il) (k:=k) (x:=o) rok ho (sZ b o)
  dsimp only at hta
  subst hta
  refine nM ?_
  refine VG (VO.load Z Z ((hrd 0 Z).2 _ 0 _ Z Z) ?_)
  refine ae ?_
  refine VG (VO.ld 1 Z Z Z (B2 f _ hoo) ?_)
  refine VG (VV (fun Fr w hF hw hS=>lu Fr w (iM f o)) Z ?_)
  refine A6 ?_
  rw[←kE]
  refine fx ?_
  exact⟨k+1,by omega,by dsimp only;omega,SC Z (SC Z (SC Z (Sub.int Z yd (SC Mg (SN _))))),ER⟩
 obtain rfl:k=rxs.length:=by omega
 have lt:=DC f rxs
 rw[jR]
 refine ae ?_
 refine VG (VL 1 (f.cells (a,ms.length,cap)) Z Z Z Z ?_)
 refine VG (VV (fun Fr w hF hw hS=>Nh Fr w (h.of hF hw) hl hm) Z ?_)
 refine A6 ?_
 rw[←kE,←hpb]
 refine ae ?_
 refine CP (p:=(512:Int)<(bT (uF f ms)).size) Z (fun h4=>?_) (fun h4=>CK ?_)
 ·rw[gn] at h4
  refine ae ?_
  exact CR (al.cz 2 3 Z Z Z aa.nil.ah ⟨by rw[hP,if_pos yd];exact⟨3,by decide,Z⟩,Z⟩)
 rw[gn] at h4
 refine ae ?_
 exact CR (al.cz 2 3 Z Z Z aa.nil.ah ⟨by rw[hP,if_neg yd];exact Z,Z⟩)
def nz:List Value→List Nat→List Int→List Value
 | cs,o::os,k::ks=>nz (cs.set o (.int .i64 k)) os ks
 | cs,_,_=>cs
theorem JL{o:Nat}{x:Int}:∀{os:List Nat} {ks:List Int} {cs:List Value},os.length=ks.length→nz cs (os ++ [o]) (ks ++ [x])=(nz cs os ks).set o (.int .i64 x)
 | [],[],cs,_=>rfl
 | a::os,b::ks,cs,h=>JL (os:=os) (ks:=ks) yc
 | [],_::_,_,h=>by simp at h
 | _::_,[],_,h=>by simp at h
def qm(v:Option Value):Prop:=∃n,v=some (.int .i64 n)
theorem JK{o:Nat}:∀{os:List Nat} {ks:List Int} {cs:List Value},qm cs[o]?→qm (nz cs os ks)[o]?
 | a::os,b::ks,cs,h=>JK (os:=os) (ks:=ks) (by
   by_cases e:a=o
   ·subst e
    obtain⟨n,hn⟩:=h
    exact⟨b,by rw[hO (cH.1 hn).1]⟩
   ·rw[ky e];exact h)
 | [],_,_,h=>h
 | _::_,[],_,h=>h
theorem SU{cs:List Value}{o:Nat}{v:Value}(h:cs[o]?=some v):cs.set o v=cs:=by
 refine oL fun j=>?_
 by_cases e:o=j
 ·subst e;rw[hO (cH.1 h).1,h]
 ·rw[ky e]
structure NI(os:List Nat)(s:Bs)(k:Nat)(x:List Int×Bs×Bool):Prop where
 le:k≤os.length
 ks:x.1.length=k
 len:x.2.1.length≤s.length
 t:x.2.2=true→fQ k s=some (x.1,x.2.1)
 f:x.2.2=false→fQ os.length s=none
def Rf(fb:Nat)(T:TypeId)(cs:List Value)(os:List Nat)(s:Bs)(v:Value)(L:List HP):Prop:=
 ∃x:List Int×Bs×Bool,NI os s os.length x∧v=.tuple #[.string (bT x.2.1),.bool x.2.2]∧L=[pt fb (nz cs os x.1) T]
theorem wg{s:Bs}(hs:s.length≤1000000){fb:Nat}{T:TypeId}{cs:List Value}{os:List Nat}(hol:os.length≤1000)(ho:∀o∈os,qm cs[o]?){a:Option Addr}{c:Nat}(h:aP (fg fb) 1 Fr w a os):
  aq Tryz.prog 299 [.string (bT s),.slice a os.length c] Fr w [pt fb cs T] (Rf fb T cs os s):=by
 refine TF 27 Tryz.func299 Z ym aw Z Z ?_
 refine ae ?_
 refine VC.loop (σ:=Nat×List Int×Bs×Bool) (fun x=>[(9,.slice a os.length c),(10,.int .i64 os.length),(11,.int .i64 (x.1:Int)),(4,.string (bT x.2.2.1)),(5,.bool x.2.2.2)]) (fun x=>[pt fb (nz cs (os.take x.1) x.2.1) T]) (fun x=>NI os s x.1 x.2) (fun x=>os.length-x.1) (0,[],s,true)
  ⟨bK _,rfl,NR _,fun _=>rfl,fun h=>(nO h.symm).elim⟩ aF (by rw[p5];exact ER) ?_
 rintro⟨k,ks,r,ok⟩ hI
 have hk:=hI.le
 have hkl:=hI.ks
 have hrl:=hI.len
 dsimp only at hk hkl hrl ⊢
 refine ae ?_
 refine CP (p:=(k:Int)<os.length) Z (fun h3=>CK ?_) (fun h3=>CX ?_)
 rotate_left
 ·obtain rfl:k=os.length:=by omega
  rw[jR]
  refine ae ?_
  exact CR (al.cz 4 5 Z Z Z ER ⟨(ks,r,ok),hI,Z,Z⟩)
 obtain⟨o,hoo⟩:∃o,os[k]?=some o:=⟨_,GE yd⟩
 obtain⟨xb,xo,hxa,ra,rc⟩:=aP.rd (X:=⟨Tryz.prog,tab,aw,27,Fr,w⟩) h hoo
 subst hxa
 obtain⟨n0,hn0⟩:=JK (os:=os.take k) (ks:=ks) (ho o (ME hoo))
 have hlt:=(cH.1 hn0).1
 have htk:os.take (k+1)=os.take k ++ [o]:=by rw[fS,hoo];rfl
 have hsn:∀x:Int,nz cs (os.take (k+1)) (ks ++ [x])=(nz cs (os.take k) ks).set o (.int .i64 x):=fun x=>by rw[htk,JL FG]
 refine CS (VC.cZ (σ:=List Int×Bs×Bool) (fun x=>[(9,.slice (some ⟨xb,xo,none⟩) os.length c),(10,.int .i64 os.length),(11,.int .i64 (k:Int)),(4,.string (bT x.2.1)),(5,.bool x.2.2)]) (fun x=>[pt fb (nz cs (os.take (k+1)) x.1) T]) (fun x=>NI os s (k+1) x) ?_ ?_)
 ·refine nM ?_
  refine VG (VO.load Z Z (rc _ _ 0 _ Z Z) ?_)
  refine ae ?_
  refine CC Z (fun h=>?_) (fun h=>CK ?_)
  ·subst h
   have ht:=hI.t rfl
   dsimp only at ht
   obtain⟨x,q,ok,hv,hql,hk1,hk2⟩:=Ax r
   refine ae ?_
   refine VG (VV (fun Fr w hF hw _=>hv▸Az Fr w r yd) Z ?_)
   refine ae ?_
   refine VG (VO.st 0 (cs':=(nz cs (os.take k) ks).set o (.int .i64 x)) Z Z Z Z hlt Z Z ?_)
   refine ae ?_
   refine⟨(ks ++ [x],q,ok),⟨by omega,by simp[hkl],by dsimp only;omega,fun h=>?_,fun h=>?_⟩,aF,by dsimp only;rw[hsn];exact ER⟩
   ·rw[pf,ht];simp[hk1 h]
   ·have:fQ (k+1) s=none:=by rw[pf,ht];simp[hk2 h]
    have:=CY this (os.length-(k+1))
    rwa[show k+1+(os.length-(k+1))=os.length from by omega] at this
  ·subst h
   exact⟨(ks ++ [n0],r,false),⟨by omega,by simp[hkl],hrl,fun h=>(nO h).elim,fun _=>hI.f Z⟩,aF,by dsimp only;rw[hsn,SU hn0];exact ER⟩
 rintro⟨ks2,r2,ok2⟩ hI2
 refine fx ?_
 exact⟨(k+1,ks2,r2,ok2),hI2,by dsimp only;omega,SC Z (SC Z (Sub.int Z yp aF)),ER⟩
end Cl
namespace Cl
open Go Vg T Api Ch
attribute [local irreducible] VO VC VA
def zd(fb:Nat)(f:aA)(ms:List bj)(L:List HP):Prop:=∃a cap,L=[pt fb (f.cells (a,ms.length,cap)) ft,av aN 2 a ms.length cap (flat aC ms)]
def O6(fb:Nat)(o:Option (aA×List bj))(v:Value)(L:List HP):Prop:=match o with
 | some x=>v=.bool true∧zd fb x.1 x.2 L
 | none=>v=.bool false∧L=[]
abbrev FY:=Int×Bs×Bool×List HP
structure ju(fb:Nat)(o:Option (aA×List bj))(x:FY):Prop where
 yes:x.2.2.1=true→x.1=0→x.2.1=[]→∃y,o=some y∧zd fb y.1 y.2 x.2.2.2
 no:¬(x.2.2.1=true∧x.1=0∧x.2.1=[])→o=none
theorem ju.ok{fb:Nat}{o:Option (aA×List bj)}{f:aA}{ms:List bj}{L:List HP}(h:o=some (f,ms))(hL:zd fb f ms L):ju fb o (0,[],true,L):=⟨fun _ _ _=>⟨_,h,hL⟩,fun k=>absurd ⟨rfl,rfl,rfl⟩ k⟩
theorem ju.bad{fb:Nat}{o:Option (aA×List bj)}{e:Int}{r:Bs}{ok:Bool}{L:List HP}(h:o=none)(hb:¬(ok=true∧e=0∧r=[])):ju fb o (e,r,ok,L):=⟨fun h1 h2 h3=>absurd ⟨h1,h2,h3⟩ hb,fun _=>h⟩
def dx:gM:=(none,0,0)
theorem ze{fb:Nat}{f:aA}:zd fb f [] [pt fb (f.cells dx) ft,av aN 2 none 0 0 (flat aC [])]:=⟨none,0,rfl⟩
theorem yV{X:Cx}{fb:Nat}{f:aA}{L:List HP}(h:aa L [pt fb (f.cells dx) ft]):cI X L [pt fb (f.cells dx) ft,av aN 2 none 0 0 (flat aC [])]:=
 ((h.trans (aa.cN aa.refl)).trans (IP 1 rfl aa.refl)).ah
theorem MW{cs:List Value}:∀o∈([]:List Nat),qm cs[o]?:=fun o ho=>by cases ho
theorem xX{cs:List Value}{a:Nat}{l:List Nat}(h:qm cs[a]?)(hl:∀o∈l,qm cs[o]?):∀o∈a::l,qm cs[o]?:=fun o ho=>by
 rcases gK.1 ho with rfl | ho
 ·exact h
 ·exact hl o ho
theorem xW{cs:List Value}{a:Nat}(h:qm cs[a]?):∀o∈[a],qm cs[o]?:=xX h MW
theorem zl{s:Bs}:fQ 1 s=(bR s).map fun x=>([x.1],x.2):=by
 rw[fQ]
 cases bR s with
 | none=>rfl
 | some x=>rfl
theorem Aj{Fr:Nat→Prop}{w:World}{b fb:Nat}{os:List Nat}(h:a7 Fr w b (flat (fg fb) os)):aP (fg fb) 1 Fr w (some ⟨b,0,none⟩) os:=
 aP.ar (off:=0) h fun i x hx=>by
  have:=kK (sZ fb) hx []
  rw[bA] at this
  rw[bZ];exact this
theorem O7{s:Bs}(hs:s.length≤1000000){fb:Nat}{f:aA}:aq Tryz.prog 300 [.pointer (some ⟨fb,0,none⟩),.string (bT s)] Fr w [pt fb (f.cells dx) ft] (O6 fb (qC f s)):=by
 refine TF 110 Tryz.func300 Z ym aw Z Z ?_
 refine ku ?_
 refine ku ?_
 refine ku ?_
 refine CS (CS (CG (VG (VO.ld 0 Z Z Z Z (VG (VN ?_))))))
 refine VC.cZ (σ:=FY) (fun x=>[(5,.int .i64 x.1),(6,.string (bT x.2.1)),(7,.bool x.2.2.1)]) (fun x=>x.2.2.2) (ju fb (qC f s)) ?_ ?_
 rotate_left
 ·rintro⟨e,r,ok,L⟩ hE
  refine ae ?_
  cases ok with
  | false=>
   refine VG (VY 102 false Z Z ?_)
   refine au ?_
   refine VG (VY 106 false Z Z ?_)
   refine au ?_
   exact CR (al.tmp 4 Z Z aa.nil.ah (by rw[hE.no (fun h=>nO h.1)];exact⟨rfl,Z⟩))
  | true=>
  refine VG (VY 102 true Z Z ?_)
  refine au ?_
  by_cases he:e=0
  rotate_left
  ·refine VG (VY 106 false Z (beq_eq_false_iff_ne.2 he) ?_)
   refine au ?_
   exact CR (al.tmp 4 Z Z aa.nil.ah (by rw[hE.no (fun h=>he h.2.1)];exact⟨rfl,Z⟩))
  refine VG (VY 106 true Z (beq_iff_eq.2 he) ?_)
  refine au ?_
  by_cases hr:r=[]
  rotate_left
  ·exact CR (al.bool (b:=false) 4 Z Z (by rw[show(ByteArray.mk #[])=bT [] from Z,oV];exact DF hr) aa.nil.ah (by rw[hE.no (fun h=>hr h.2.2)];exact⟨rfl,Z⟩))
  obtain⟨y,hy,hL⟩:=hE.yes rfl he hr
  exact CR (al.bool (b:=true) 4 Z Z (by rw[show(ByteArray.mk #[])=bT [] from Z,oV];exact DT hr) ER (by rw[hy];exact⟨rfl,hL⟩))
 have nf:∀{e:Int} {r:Bs},¬(false=true∧e=0∧r=[]):=fun h=>nO h.1
 have n10:∀{r:Bs},¬(true=true∧(10:Int)=0∧r=[]):=fun h=>absurd h.2.1 yn
 unfold qC
 refine ae ?_
 refine CE Z (fun k1=>?_) (fun k1=>?_)
 ·rw[if_pos k1]
  refine ae ?_
  cases hg:rJ s with
  | none=>
   refine VG (VV (u:=vX none) (fun Fr w hF hw _=>hg▸zP Fr w s hs) Z ?_)
   refine au ?_
   refine VG (VT (vs:=bp.cells ⟨0,bT [],bT [],0⟩) (cs':=({ f with op:=⟨0,bT [],bT [],0⟩ }:aA).cells dx) 0 Z Z Z Z (by show 7+4≤29;omega) Z Z Z ?_)
   refine au ?_
   exact Fp
  | some o=>
   refine VG (VV (u:=vX (some o)) (fun Fr w hF hw _=>hg▸zP Fr w s hs) Z ?_)
   refine au ?_
   refine VG (VT (vs:=o.cells) (cs':=({ f with op:=o }:aA).cells dx) 0 Z Z Z Z (by show 7+4≤29;omega) Z Z Z ?_)
   refine au ?_
   exact⟨(0,[],true,_),ju.ok Z ze,aF,yV aa.refl⟩
 rw[if_neg k1]
 refine ae ?_
 refine CE Z (fun k2=>?_) (fun k2=>?_)
 ·rw[if_pos k2]
  refine ae ?_
  refine VG (VO.buildSlice (n:=1) (pv:=[(0,.pointer (some ⟨fb,11,none⟩))]) (flat (fg fb) [11]) Z Z Z Z yn Z fun sb=>?_)
  refine VO.ah (L':=[pt fb (f.cells dx) ft] ++ [pt sb (flat (fg fb) [11]) il]) (aZ [1,0]).ah ?_
  refine VG (VK (Lc:=[pt fb (f.cells dx) ft]) (fun Fr w hF hw hS=>wg Fr w (os:=[11]) hs yn (xW ⟨_,Z⟩) (Aj (hS.ar 0 Z))) Z Z ?_)
  rintro _ _ ⟨⟨ks,r,ok⟩,hI,rfl,rfl⟩
  have hl:=hI.len
  have h1:=hI.ks
  have ht:=hI.t
  have hf:=hI.f
  dsimp only at hl h1 ht hf
  obtain⟨code,rfl⟩:∃x,ks=[x]:=by
   match ks,h1 with
   | [x],_=>exact⟨x,rfl⟩
  show VO _ _ _ _ _ [pt fb (({ f with res:={ f.res with code:=code } }:aA).cells dx) ft,pt sb (flat (fg fb) [11]) il] _
  rw[show([11]:List Nat).length=1 from rfl,zl] at ht hf
  refine au ?_
  cases ok with
  | false=>
   have hu:bR s=none:=by simpa using hf rfl
   refine qT ?_
   refine iQ ?_
   exact⟨(0,r,false,[]),ju.bad (by rw[hu]) nf,aF,aa.nil.ah⟩
  | true=>
  have hu:bR s=some (code,r):=by
   have:=ht rfl
   cases hx:bR s with
   | none=>rw[hx] at this;cases this
   | some x=>rw[hx] at this;simp at this;rw[←this.1,←this.2]
  refine l_ ?_
  obtain⟨val,q,ok2,hv,hql,hc1,hc2⟩:=Cc r
  refine au ?_
  refine E9 ?_
  refine au ?_
  refine VG (VO.st 0 (cs':=({ f with res:={ f.res with code:=code,value:=bT val } }:aA).cells dx) Z Z Z Z (by show 12<29;omega) Z Z ?_)
  refine au ?_
  rw[hu]
  dsimp only
  cases ok2 with
  | false=>
   refine iQ ?_
   exact⟨(0,q,false,[]),ju.bad (by rw[hc2 rfl]) nf,aF,aa.nil.ah⟩
  | true=>
  rw[hc1 rfl]
  dsimp only
  refine vg ?_
  refine CD (ts 0 9 (.only 9 (.only 10 (ts 11 5 .nil)))) ym yo ?_
  refine cG ?_
  refine AG (AO (aG.buildSlice (n:=2) (pv:=[(0,.pointer (some ⟨fb,13,none⟩)),(1,.pointer (some ⟨fb,14,none⟩))]) (cells:=flat (fg fb) [13,14]) rfl rfl rfl rfl yn rfl) rfl (fun v L' g=>by obtain⟨b,rfl,rfl⟩:=g;exact gx) ?_)
  rintro _ _ ⟨sc,rfl,rfl⟩
  refine AG (AO (OC (Lc:=[pt fb (({ f with res:={ f.res with code:=code,value:=bT val } }:aA).cells dx) ft]) (Lr:=[pt sc (flat (fg fb) [13,14]) il,pt sb (flat (fg fb) [11]) il]) rfl (.swap _ _ _) (fun Fr w hF hw hS=>wg Fr w (s:=q) (os:=[13,14]) yd (fB rfl) (xX ⟨_,rfl⟩ (xW ⟨_,rfl⟩)) (Aj (hS.ar 0 rfl)))) rfl (fun v L' g=>by obtain⟨_,⟨x,_,rfl,rfl⟩,rfl⟩:=g;exact gx) ?_)
  rintro _ _ ⟨_,⟨⟨ks,r3,ok3⟩,hI3,rfl,rfl⟩,rfl⟩
  have h3l:=hI3.len
  have h31:=hI3.ks
  have h3t:=hI3.t
  have h3f:=hI3.f
  dsimp only at h3l h31 h3t h3f
  obtain⟨ver,at_,rfl⟩:∃x y,ks=[x,y]:=by
   match ks,h31 with
   | [x,y],_=>exact⟨x,y,rfl⟩
  rw[show([13,14]:List Nat).length=1+1 from rfl,pf,zl] at h3t h3f
  refine cG ?_
  cases h5:bR q with
  | none=>
   have hko:ok3=false:=by
    cases ok3 with
    | false=>rfl
    | true=>have:=h3t rfl;rw[h5] at this;cases this
   subst hko
   exact⟨(0,r3,false,[]),ju.bad Z nf,aF,aa.nil.ah⟩
  | some x5=>
  obtain⟨v5,q5⟩:=x5
  dsimp only
  rw[h5] at h3t h3f
  simp only[mj,js] at h3t h3f
  cases h6:bR q5 with
  | none=>
   have hko:ok3=false:=by
    cases ok3 with
    | false=>rfl
    | true=>have:=h3t rfl;rw[h6] at this;cases this
   subst hko
   exact⟨(0,r3,false,[]),ju.bad Z nf,aF,aa.nil.ah⟩
  | some x6=>
  obtain⟨v6,q6⟩:=x6
  dsimp only
  rw[h6] at h3t h3f
  simp only[mj] at h3t h3f
  have hko:ok3=true:=by
   cases ok3 with
   | true=>rfl
   | false=>have:=h3f rfl;cases this
  subst hko
  have h7:=h3t rfl
  simp only[Option.some.injEq,Prod.mk.injEq,tI,kW,List.cons.injEq,and_true] at h7
  obtain⟨⟨rfl,rfl⟩,rfl⟩:=h7
  by_cases hq:q6=[]
  ·subst hq
   exact⟨(0,[],true,_),ju.ok (if_pos Z) ze,aF,yV (IP 0 Z aa.nil)⟩
  ·exact⟨(0,q6,true,[]),ju.bad (if_neg hq) (fun h=>hq h.2.2),aF,aa.nil.ah⟩
 rw[if_neg k2]
 refine ae ?_
 refine CE Z (fun k4=>?_) (fun k4=>?_)
 ·rw[if_pos k4]
  refine ae ?_
  refine CD (ts 0 13 (.only 13 (.only 14 (ts 15 5 .nil)))) ym yo ?_
  refine cG ?_
  refine AG (AO (aG.buildSlice (n:=3) (pv:=[(0,.pointer (some ⟨fb,16,none⟩)),(1,.pointer (some ⟨fb,17,none⟩)),(2,.pointer (some ⟨fb,18,none⟩))]) (cells:=flat (fg fb) [16,17,18]) rfl rfl rfl rfl yn rfl) rfl (fun v L' g=>by obtain⟨b,rfl,rfl⟩:=g;exact gx) ?_)
  rintro _ _ ⟨sc,rfl,rfl⟩
  refine AG (AO (OC (Lc:=[pt fb (f.cells dx) ft]) (Lr:=[pt sc (flat (fg fb) [16,17,18]) il]) rfl (.swap _ _ _) (fun Fr w hF hw hS=>wg Fr w (s:=s) (os:=[16,17,18]) hs (fB rfl) (xX ⟨_,rfl⟩ (xX ⟨_,rfl⟩ (xW ⟨_,rfl⟩))) (Aj (hS.ar 0 rfl)))) rfl (fun v L' g=>by obtain⟨_,⟨x,_,rfl,rfl⟩,rfl⟩:=g;exact gx) ?_)
  rintro _ _ ⟨_,⟨⟨ks,r3,ok3⟩,hI3,rfl,rfl⟩,rfl⟩
  have h3l:=hI3.len
  have h31:=hI3.ks
  have h3t:=hI3.t
  have h3f:=hI3.f
  dsimp only at h3l h31 h3t h3f
  obtain⟨ix,cl,sq,rfl⟩:∃x y z,ks=[x,y,z]:=by
   match ks,h31 with
   | [x,y,z],_=>exact⟨x,y,z,rfl⟩
  rw[show([16,17,18]:List Nat).length=1+1+1 from rfl,pf,pf,zl] at h3t h3f
  show VA _ _ _ _ _ _ [pt fb (({ f with entry:={ f.entry with index:=ix,aI:=cl,seq:=sq } }:aA).cells dx) ft,pt sc (flat (fg fb) [16,17,18]) il] _
  refine mg ?_
  cases ok3 with
  | false=>
   have hn:(match bR s with
    | none=>none
    | some (i,r)=>match bR r with
     | none=>none
     | some (c,r)=>match bR r with
      | none=>none
      | some (q,r)=>match rJ r with
       | none=>none
       | some o=>some (({ f with entry:=⟨i,c,q,o⟩ }:aA),([]:List bj)))=none:=by
    have:=h3f rfl
    cases a1:bR s with
    | none=>rfl
    | some x=>
     rw[a1] at this
     simp only[mj,js] at this
     dsimp only
     cases a2:bR x.2 with
     | none=>rfl
     | some y=>
      rw[a2] at this
      simp only[mj,js] at this
      dsimp only
      cases a3:bR y.2 with
      | none=>rfl
      | some z=>rw[a3] at this;cases this
   refine iQ ?_
   exact⟨(0,r3,false,[]),ju.bad hn nf,aF,aa.nil.ah⟩
  | true=>
  have h7:=h3t rfl
  cases a1:bR s with
  | none=>rw[a1] at h7;cases h7
  | some x=>
  rw[a1] at h7
  simp only[mj,js] at h7
  obtain⟨x1,x2⟩:=x
  dsimp only at h7 ⊢
  cases a2:bR x2 with
  | none=>rw[a2] at h7;cases h7
  | some y=>
  rw[a2] at h7
  simp only[mj,js] at h7
  obtain⟨y1,y2⟩:=y
  dsimp only at h7 ⊢
  cases a3:bR y2 with
  | none=>rw[a3] at h7;cases h7
  | some z=>
  obtain⟨z1,z2⟩:=z
  rw[a3] at h7
  simp only[mj,Option.some.injEq,Prod.mk.injEq,tI,kW,List.cons.injEq,and_true] at h7
  obtain⟨⟨rfl,rfl,rfl⟩,rfl⟩:=h7
  dsimp only
  refine vg ?_
  cases hg:rJ z2 with
  | none=>
   refine VG (VV (u:=vX none) (fun Fr w hF hw _=>hg▸zP Fr w z2 yd) Z ?_)
   refine au ?_
   refine VG (VT (vs:=bp.cells ⟨0,bT [],bT [],0⟩) (cs':=({ f with entry:=⟨x1,y1,z1,⟨0,bT [],bT [],0⟩⟩ }:aA).cells dx) 0 Z Z Z Z (by show 19+4≤29;omega) Z Z Z ?_)
   refine au ?_
   exact Fp
  | some o=>
   refine VG (VV (u:=vX (some o)) (fun Fr w hF hw _=>hg▸zP Fr w z2 yd) Z ?_)
   refine au ?_
   refine VG (VT (vs:=o.cells) (cs':=({ f with entry:=⟨x1,y1,z1,o⟩ }:aA).cells dx) 0 Z Z Z Z (by show 19+4≤29;omega) Z Z Z ?_)
   refine au ?_
   exact⟨(0,[],true,_),ju.ok Z ze,aF,yV (IP 0 Z aa.nil)⟩
 rw[if_neg k4]
 refine ae ?_
 refine CE Z (fun k8=>?_) (fun k8=>CK ?_)
 ·rw[if_pos k8]
  refine ae ?_
  refine VG (VK (Lc:=[]) (fun Fr w hF hw hS=>NF Fr w s hs) Z Z ?_)
  cases hg:i_ s with
  | none=>
   rintro _ _ ⟨rfl,rfl⟩
   refine au ?_
   refine VG (VT (vs:=jy) (cs':=({ f with dE:=0,drain:=0 }:aA).cells dx) 0 Z Z Z Z (by show 23+3≤29;omega) Z Z Z ?_)
   refine au ?_
   exact Fp
  | some c=>
   rintro _ _ ⟨ma,mc,rfl,rfl⟩
   refine au ?_
   refine VG (VT (vs:=c.cells ma mc) (cs':=({ f with dE:=c.aB,drain:=c.drain }:aA).cells (ma,c.ms.length,mc)) 1 Z Z Z Z (by show 23+3≤29;omega) Z Z Z ?_)
   refine au ?_
   exact⟨(0,[],true,_),ju.ok Z ⟨ma,mc,Z⟩,aF,(aZ [1,0]).ah⟩
 rw[if_neg k8]
 by_cases hq:s=[]
 ·subst hq
  exact⟨(0,[],true,_),ju.ok (if_pos Z) ze,aF,yV aa.refl⟩
 ·exact⟨(0,s,true,[]),ju.bad (if_neg hq) (fun h=>hq h.2.2),aF,aa.nil.ah⟩
end Cl
namespace Cl
open Go Vg T Api Ch
attribute [local irreducible] VO VC VA
theorem SP(f:aA)(g:gM){o:Nat}(n:Int)(h:qp o=true):(f.cells g).set o (.int .i64 n)=(uL f o n).cells g:=by
 have hm:o∈[1,2,3,4,5,6,15,26,27,28]:=by unfold qp at h;exact of_decide_eq_true h
 simp only[gK,oM,or_false] at hm
 rcases hm with rfl | rfl | rfl | rfl | rfl | rfl | rfl | rfl | rfl | rfl<;>rfl
theorem JM(g:gM):∀(os:List Nat) (ks:List Int) (f:aA),(∀o∈os,qp o=true)→nz (f.cells g) os ks=(th f os ks).cells g
 | o::os,k::ks,f,h=>by
  show nz ((f.cells g).set o (.int .i64 k)) os ks=(th (uL f o k) os ks).cells g
  rw[SP f g k (h o (q4 ..)),JM g os ks _ fun o ho=>h o (lH _ ho)]
 | [],_,_,_=>rfl
 | _::_,[],_,_=>rfl
theorem Pc{s:Bs}{c:aW}(h:i_ s=some c):fp c=0:=by
 unfold i_ at h
 repeat' split at h
 all_goals first | cases h;done | skip
 all_goals simp only[Option.some.injEq] at h
 all_goals subst h
 all_goals rename_i hh
 all_goals exact hh.2
theorem Jl{f:aA}{s:Bs}{y:aA×List bj}(h:qC f s=some y):y.2.length≤6:=by
 unfold qC at h
 by_cases k1:f.kind=1
 ·rw[if_pos k1] at h
  split at h
  ·cases h
  ·cases h;exact bK _
 rw[if_neg k1] at h
 by_cases k2:f.kind=2
 ·rw[if_pos k2] at h
  repeat' split at h
  all_goals first | (cases h;done) | (cases h;exact bK _)
 rw[if_neg k2] at h
 by_cases k4:f.kind=4
 ·rw[if_pos k4] at h
  repeat' split at h
  all_goals first | (cases h;done) | (cases h;exact bK _)
 rw[if_neg k4] at h
 by_cases k8:f.kind=8
 ·rw[if_pos k8] at h
  split at h
  ·cases h
  ·rename_i c hc
   cases h
   have:=oX (Pc hc)
   exact this.2.1
 rw[if_neg k8] at h
 split at h
 ·cases h;exact bK _
 ·cases h
def OS(o:Option (aA×List bj))(v:Value)(L:List HP):Prop:=match o with
 | some x=>∃a cap,v=.tuple #[.agg (x.1.cells (a,x.2.length,cap)).toArray,.int .i64 0]∧L=[av aN 2 a x.2.length cap (flat aC x.2)]
 | none=>v=.tuple #[.agg (aA.zero.cells dx).toArray,.int .i64 10]∧L=[]
theorem OT{s:Bs}:aq Tryz.prog 248 [.string (bT s)] Fr w [] (OS (getM s)):=by
 refine TF 39 Tryz.func248 Z ym aw Z Z ?_
 refine CS (CG (VG (VO.alloc Z fun b2=>?_)))
 refine ae ?_
 refine CP (p:=(512:Int)<(bT s).size) Z (fun h1=>?_) (fun h1=>CK ?_)
 ·rw[gn] at h1
  refine ae ?_
  refine xy ?_
  refine Fq ?_
  refine au ?_
  exact CR (al.cJ 2 3 Z Z Z (an.many (ds:=aA.zero.cells dx) 0 Z Z) Z aa.nil.ah (by rw[show getM s=none from(by rw[getM,if_pos yd])];exact⟨rfl,Z⟩))
 rw[gn] at h1
 have hs:s.length≤1000000:=by omega
 have hG:getM s=_:=if_neg yd
 refine ae ?_
 refine VG (VO.alloc Z fun b4=>?_)
 refine ae ?_
 refine VG (VO.buildSlice (n:=1) (pv:=[(0,pV b4)]) (flat (fg b4) [0]) Z Z Z Z yn Z fun sb=>?_)
 refine VO.ah (L':=[pt b4 (aA.zero.cells dx) ft] ++ [pt b2 (aA.zero.cells dx) ft,pt sb (flat (fg b4) [0]) il]) (aZ [1,1,0]).ah ?_
 refine VG (VK (Lc:=[pt b4 (aA.zero.cells dx) ft]) (fun Fr w hF hw hS=>wg Fr w (os:=[0]) hs (fB Z) (xW ⟨_,Z⟩) (Aj (hS.ar 1 Z))) Z Z ?_)
 rintro _ _ ⟨⟨ks,r,ok⟩,hI,rfl,rfl⟩
 have hl:=hI.len
 have hk1:=hI.ks
 have ht:=hI.t
 have hf:=hI.f
 dsimp only at hl hk1 ht hf
 obtain⟨k,rfl⟩:∃x,ks=[x]:=by
  match ks,hk1 with
  | [x],_=>exact⟨x,rfl⟩
 rw[show([0]:List Nat).length=1 from rfl,zl] at ht hf
 show VO _ _ _ _ _ [pt b4 (({ aA.zero with kind:=k }:aA).cells dx) ft,pt b2 (aA.zero.cells dx) ft,pt sb (flat (fg b4) [0]) il] _
 refine au ?_
 cases ok with
 | false=>
  have hu:bR s=none:=by simpa using hf rfl
  rw[hu] at hG
  refine qT ?_
  refine VG (VY 27 true Z Z ?_)
  refine au ?_
  refine VG (VY 32 true Z Z ?_)
  refine iS ?_
  refine xy ?_
  refine LG ?_
  refine au ?_
  exact LH
 | true=>
 have hu:bR s=some (k,r):=by
  have:=ht rfl
  cases hx:bR s with
  | none=>rw[hx] at this;cases this
  | some x=>rw[hx] at this;simp at this;rw[←this.1,←this.2]
 rw[hu] at hG
 dsimp only at hG
 clear ht hf hI hk1
 have hof:∀o∈fu k,qp o=true:=fun o ho=>DD k o ho
 have hol:=DE k
 refine vg ?_
 refine VG (VK (Lc:=[]) (fun Fr w hF hw hS=>DB Fr w (fb:=b4) (f:={ aA.zero with kind:=k }) (g:=dx) (hS.ar 0 Z)) Z Z ?_)
 rintro _ _ ⟨na,nc,rfl,rfl⟩
 show VO _ _ _ _ _ [av il 1 na (fu k).length nc (flat (fg b4) (fu k)),pt b4 (({ aA.zero with kind:=k }:aA).cells dx) ft,pt b2 (aA.zero.cells dx) ft,pt sb (flat (fg b4) [0]) il] _
 refine VO.ah (L':=[pt b4 (({ aA.zero with kind:=k }:aA).cells dx) ft] ++ [pt b2 (aA.zero.cells dx) ft,av il 1 na (fu k).length nc (flat (fg b4) (fu k))]) (aZ [1,1,0]).ah ?_
 refine VG (VK (Lc:=[pt b4 (({ aA.zero with kind:=k }:aA).cells dx) ft]) (fun Fr w hF hw hS=>wg Fr w (s:=r) (os:=fu k) yd yd (fun o ho=>⟨_,B2 _ _ (hof o ho)⟩) (aP.av (sZ b4) (hS.at_ 1 Z))) Z Z ?_)
 rintro _ _ ⟨⟨ks,r2,ok2⟩,hI,rfl,rfl⟩
 have hl2:=hI.len
 have ht:=hI.t
 have hf:=hI.f
 dsimp only at hl2 ht hf
 rw[JM _ _ _ _ hof]
 generalize hF2:th ({ aA.zero with kind:=k }:aA) (fu k) ks=F
 show VO _ _ _ _ _ [pt b4 (F.cells dx) ft,pt b2 (aA.zero.cells dx) ft,av il 1 na (fu k).length nc (flat (fg b4) (fu k))] _
 refine au ?_
 cases ok2 with
 | false=>
  rw[hf rfl] at hG
  refine VG (VY 27 true Z Z ?_)
  refine au ?_
  refine VG (VY 32 true Z Z ?_)
  refine iS ?_
  refine xy ?_
  refine LG ?_
  refine au ?_
  exact LH
 | true=>
 rw[ht rfl] at hG
 dsimp only at hG
 rw[hF2] at hG
 refine VG (VY 27 false Z Z ?_)
 refine au ?_
 refine VG (VK (Lc:=[pt b4 (F.cells dx) ft]) (fun Fr w hF hw hS=>O7 Fr w (s:=r2) (f:=F) yd) Z Z ?_)
 cases hR:qC F r2 with
 | none=>
  rw[hR] at hG
  rintro _ _ ⟨rfl,rfl⟩
  refine au ?_
  refine VG (VY 32 true Z Z ?_)
  refine iS ?_
  refine xy ?_
  refine Fq ?_
  refine au ?_
  exact CR (al.cJ 2 3 Z Z Z (an.many (ds:=aA.zero.cells dx) 0 Z Z) Z aa.nil.ah FP)
 | some y=>
 have hms:=Jl hR
 obtain⟨f,ms⟩:=y
 rw[hR] at hG
 dsimp only at hG hms
 rintro _ _ ⟨rfl,ma,mc,rfl⟩
 show VO _ _ _ _ _ [pt b4 (f.cells (ma,ms.length,mc)) ft,av aN 2 ma ms.length mc (flat aC ms),pt b2 (aA.zero.cells dx) ft,av il 1 na (fu k).length nc (flat (fg b4) (fu k))] _
 refine au ?_
 refine VG (VY 32 false Z Z ?_)
 refine au ?_
 refine Fs ?_
 refine VG (VV (fun Fr w hF hw hS=>wD Fr w (f:=f) (ms:=ms) (aP.av cj (hS.at_ 1 Z)) yd) Z ?_)
 refine au ?_
 refine VC.ey Z (fun h5=>?_) (fun h5=>CK ?_)
 ·rw[if_neg (by rw[h5];decide)] at hG
  refine au ?_
  refine xy ?_
  refine VG (VT (vs:=aA.zero.cells dx) (cs':=aA.zero.cells dx) 2 Z Z Z Z (NR _) Z Z Z ?_)
  refine au ?_
  exact CR (al.cJ 2 3 Z Z Z (an.many (ds:=aA.zero.cells dx) 2 Z Z) Z aa.nil.ah FP)
 rw[if_pos h5] at hG
 refine au ?_
 refine Fs ?_
 refine VG (VT (vs:=f.cells (ma,ms.length,mc)) (cs':=f.cells (ma,ms.length,mc)) 2 Z Z Z Z (NR _) Z Z Z ?_)
 refine au ?_
 exact CR (al.cJ 2 3 Z Z Z (an.many (ds:=f.cells (ma,ms.length,mc)) 2 Z Z) Z (L':=[av aN 2 ma ms.length mc (flat aC ms)]) (IP 1 Z aa.nil).ah (by rw[hG];exact⟨_,_,Z,Z⟩))
end Cl
namespace Cl
open Go Vg T Api Ch Rep
attribute [local irreducible] VO VC VA
abbrev sR:TypeId:=142
abbrev jF:TypeId:=360
abbrev wL:TypeId:=176
abbrev vw:=List ByteArray×(Option Addr×Nat)
abbrev jW:=bm×vw
theorem rN:iU Tryz.prog wL eT:=iU.ii Tryz.underlying176 ym yn yn rfl rfl rfl rfl Tryz.underlying3 (aw.look (t:=3) rfl) rfl
def gD(v:vw):Value:=.slice v.2.1 v.1.length v.2.2
def gC(x:jW):HP:=av oB 1 x.2.2.1 x.2.1.length x.2.2.2 (flat eB x.2.1)
def lx(S:aX)(b:Nat):List Value:=[.int .i64 S.cap,.map (some b)]
def wu(p:Nat)(S:aX)(b:Nat)(X:List jW):List HP:=pt p (lx S b) sR::eI eT gD b X::X.map gC
def gr(X:List jW):List (bm×List ByteArray):=X.map fun x=>(x.1,x.2.1)
def cu(p:Nat)(S:aX):HP:=hex fun y:Nat×List jW=>b_ (jb (gr y.2=S.cE)::wu p S y.1 y.2)
theorem aY.aQ(p:Nat)(S:aX):aY (ι:=Nat×List jW) (cu p S) (fun y=>gr y.2=S.cE) (fun y=>wu p S y.1 y.2):=fun w ids ⟨x,h⟩ hn=>by
 obtain⟨i1,i2,rfl,⟨rfl,h1⟩,h2⟩:=h
 exact⟨x,h1,i2,h2,hn,fun _ h=>h⟩
theorem aa.aQ{p:Nat}{S:aX}{L K:List HP}(b:Nat)(X:List jW)(hX:gr X=S.cE)(h:aa L (wu p S b X++K)):aa L (cu p S::K):=aa.ex (f:=fun y:Nat×List jW=>b_ (jb (gr y.2=S.cE)::wu p S y.1 y.2)) (b,X) (aa.sep (aa.pure hX h))
structure aX.Ok(S:aX):Prop where
 c0:1≤S.cap
 c1:S.cap≤64
 each:∀x∈S.cE,x.2.length≤64
 nd:(S.cE.map Prod.fst).Nodup
theorem Dg{κ α β:Type}[DecidableEq κ](f:α→β)(a:κ):∀l:List (κ×α),cD (l.map fun x=>(x.1,f x.2)) a=(cD l a).map f
 | []=>rfl
 | (k,v)::r=>by
  simp only[kV,cD]
  split
  ·rfl
  ·exact Dg f a r
theorem Dh{κ α β:Type}[DecidableEq κ](f:α→β)(a:κ)(u:α):∀l:List (κ×α),(cQ l a u).map (fun x=>(x.1,f x.2))=cQ (l.map fun x=>(x.1,f x.2)) a (f u)
 | []=>rfl
 | (k,v)::r=>by
  simp only[kV,cQ]
  split
  ·rfl
  ·simp only[kV,Dh f a u r]
theorem Ik{κ α β:Type}[DecidableEq κ](f:α→β)(a:κ):∀l:List (κ×α),(ff l a).map (fun x=>(x.1,f x.2))=ff (l.map fun x=>(x.1,f x.2)) a
 | []=>rfl
 | (k,v)::r=>by
  simp only[kV,ff]
  split
  ·rfl
  ·simp only[kV,Ik f a r]
theorem Ib(X:List jW)(p:bm):∃(old:List ByteArray) (a:Option Addr) (c:Nat) (R:List HP),old=(cD (gr X) p).getD []∧((cD X p).map gD).getD (.slice none 0 0)=.slice a old.length c ∧
  aa (X.map gC) (av oB 1 a old.length c (flat eB old)::R)∧(∀v:vw,aa (av oB 1 v.2.1 v.1.length v.2.2 (flat eB v.1)::R) ((cQ X p v).map gC))∧aa R ((ff X p).map gC):=by
 have eg:cD (gr X) p=(cD X p).map Prod.fst:=Dg Prod.fst p X
 cases hl:jE X p 0 with
 | none=>
  obtain⟨h1,h2,h3,h4⟩:=sS hl
  refine⟨[],none,0,X.map gC,by rw[eg,h1];rfl,by rw[h1];rfl,aa.cN aa.refl,fun v=>?_,by rw[h4];exact aa.refl⟩
  rw[h3 v,fA]
  exact aa.perm (hU (l₁:=[gC (p,v)]))
 | some q=>
  obtain⟨j,v0⟩:=q
  obtain⟨_,h2,h3,h4,h5⟩:=uo hl
  rw[Nat.sub_zero] at h2 h4 h5
  have e1:(X.map gC)[j]?=some (gC (p,v0)):=by rw[dH,h2];rfl
  have e2:(X.map gC).eraseIdx j=(X.eraseIdx j).map gC:=(map_eraseIdx gC X j).symm
  have hj:j<X.length:=(cH.1 h2).1
  refine⟨v0.1,v0.2.1,v0.2.2,(X.map gC).eraseIdx j,by rw[eg,h3];rfl,by rw[h3];rfl,aa.perm (mH e1),fun v=>?_,by rw[h5,e2];exact aa.refl⟩
  rw[h4 v]
  have e3:((X.set j (p,v)).map gC)[j]?=some (gC (p,v)):=by rw[dH,hO hj];rfl
  have e4:((X.set j (p,v)).map gC).eraseIdx j=(X.map gC).eraseIdx j:=by rw[gJ,List.eraseIdx_set_eq]
  refine aa.perm ?_
  have:=(mH e3).symm
  rw[e4] at this
  exact this
section
variable {p:Nat} {S:aX} {b:Nat} {X:List jW}
theorem Ie(h:a7 Fr w p (lx S b)):aq Tryz.prog 113 [.pointer (some ⟨p,0,none⟩)] Fr w [] (fun v L=>v=.bool false∧L=[]):=by
 refine TF 12 Tryz.func113 Z ym aw Z Z ?_
 refine au ?_
 refine xh ?_
 refine g_ ?_
 refine VG (VI (H6 Tryz.underlying140 Z Z) ?_)
 refine au ?_
 exact jQ
theorem Qo{n:Int}(h0:1≤n)(h1:n≤64):aq Tryz.prog 44 [.int .i64 n] Fr w [] (fun v L=>∃p,v=.tuple #[.pointer (some ⟨p,0,none⟩),.int .i64 0]∧L=[cu p ⟨n,[]⟩]):=by
 refine TF 14 Tryz.func44 Z ym aw Z Z ?_
 refine ae ?_
 refine VG (VY 6 false Z (DF yd) ?_)
 refine au ?_
 refine CP (p:=64<n) Z (fun h=>absurd h yd) (fun h=>CK ?_)
 refine au ?_
 refine VG (VO.ot (aG.makeMap eT gD) ?_)
 rintro _ _ ⟨m,rfl,rfl⟩
 refine VG (VI (LB (pv:=[(0,.int .i64 n),(1,.map (some m))]) (lx ⟨n,[]⟩ m) Z Z Z ym Z) ?_)
 refine VG (VB (vs:=lx ⟨n,[]⟩ m) Z fun q=>?_)
 refine au ?_
 exact CR (al.cz 2 3 Z Z Z (aa.aQ (S:=⟨n,[]⟩) (K:=[]) m [] Z aa.refl).ah ⟨q,Z,Z⟩)
theorem F4(n:Int):aq Tryz.prog 276 [.int .i64 n] Fr w [] (fun v L=>v=.bool (gm n)∧L=[]):=by
 unfold gm
 refine TF 21 Tryz.func276 Z ym aw Z Z ?_
 refine au ?_
 by_cases h0:0≤n
 ·refine VG (VY 5 true Z (DT h0) ?_)
  refine au ?_
  by_cases h6:n<6
  ·refine VG (VY 9 true Z (DT h6) ?_)
   refine au ?_
   refine VG (VY 13 true Z Z ?_)
   refine au ?_
   exact CR (al.bool 2 Z Z (by simp[h0,h6]) ER ⟨rfl,Z⟩)
  refine VG (VY 9 false Z (DF h6) ?_)
  refine au ?_
  by_cases h16:n=16
  ·refine VG (VY 13 true Z (beq_iff_eq.2 h16) ?_)
   refine au ?_
   exact CR (al.bool 2 Z Z (by simp[h16]) ER ⟨rfl,Z⟩)
  refine VG (VY 13 false Z (beq_eq_false_iff_ne.2 h16) ?_)
  refine au ?_
  by_cases h32:32≤n
  ·refine VG (VY 16 true Z (DT h32) ?_)
   refine au ?_
   exact CR (al.bool 2 Z Z (by simp[h0,h6,h16,h32]) ER ⟨rfl,Z⟩)
  refine VG (VY 16 false Z (DF h32) ?_)
  refine au ?_
  exact CR (al.bool 2 Z Z (by simp[h0,h6,h16,h32]) ER ⟨rfl,Z⟩)
 refine VG (VY 5 false Z (DF h0) ?_)
 refine au ?_
 refine VG (VY 9 false Z Z ?_)
 refine au ?_
 refine VG (VY 13 false Z (beq_eq_false_iff_ne.2 yd) ?_)
 refine au ?_
 refine VG (VY 16 false Z (DF yd) ?_)
 refine au ?_
 exact CR (al.bool 2 Z Z ye ER ⟨rfl,Z⟩)
theorem aG.wx{Zx0:Cx}{κ α:Type}[DecidableEq κ]{c:κ→Value}{d:α→Value}{b:Nat}{xs:List (κ×α)}{e:Env}{L:List HP}{T kt et:TypeId}{te:TI}{x y:Operand}(K:iU Zx0.P kt c)(hT:Zx0.P.underlying T=some (.map kt et))(hE:bD Zx0.tab et=some te){a:κ}(v:Value)(hx:ev e x=some (.map (some b)))(hk:ev e y=some (c a))(hM:cO Zx0 L c d b xs)(hv:((cD xs a).map d).getD te.zero=v):
  aG Zx0 (.lookup T x y false) e L (fun u L'=>u=v∧L'=L):=hv▸aG.lookup (ok:=false) K hT hE hx hk hM
theorem VA.wx{Zx0:Cx}{κ α:Type}[DecidableEq κ]{c:κ→Value}{d:α→Value}{b:Nat}{xs:List (κ×α)}{ops:Array Oper}{G:GS}{pl:fU}{S:iF}{e:Env}{L:List HP}{Q:Env→List HP→Prop}{dst:Option Tmp}{ty:TypeId}{pos:String}{after:Array Edge}{guard:Option (Nat×Bool)}
  {i:Nat} {T kt et:TypeId} {te:TI} {x y:Operand} {a:κ} (KO:iU Zx0.P kt c) (hT:Zx0.P.underlying T=some (.map kt et)) (hE:bD Zx0.tab et=some te) (v:Value)
  (hi:ops.toList[i]?=some ⟨dst,.lookup T x y false,ty,pos,after,guard⟩) (hx:ev e x=some (.map (some b))) (hk:ev e y=some (c a)) (hM:cO Zx0 L c d b xs) (hv:((cD xs a).map d).getD te.zero=v)
  (hn:VA Zx0 ops G pl ((i,mS c d b xs)::S) (bI dst v e) L Q)
  (hg:bN ops G guard=some true:=by rfl) (hd:b9 Zx0.n dst=true:=by rfl) (hf:bP G dst=true:=by rfl):VA Zx0 ops G (.take i pl) S e L Q:=
 VA.lookup (ok:=false) KO hT hE hi hx hk hM (by subst hv;exact hn) hg hd hf
end
end Cl
namespace Cl
open Go Vg T Api Ch Rep
attribute [local irreducible] VO VC VA
def dP(x y:Int)(t:ByteArray):List Value:=[.int .i64 x,.int .i64 y,.string t]
theorem wo{S:aX}(ok:S.Ok)(p:bm):(S.list p).length≤64:=by
 unfold aX.list
 cases h:cD S.cE p with
 | none=>exact bK _
 | some v=>exact ok.each _ (wy h)
theorem Di{κ α:Type}[DecidableEq κ]{a:κ}{u:α}:∀{l:List (κ×α)} {x:κ×α},x∈cQ l a u→x∈l∨x=(a,u)
 | [],x,h=>.inr (by simpa[cQ] using h)
 | (k,v)::r,x,h=>by
  unfold cQ at h
  split at h
  ·rename_i hk
   rcases gK.1 h with h | h
   ·right;rw[h,hk]
   ·left;exact lH _ h
  ·rcases gK.1 h with h | h
   ·left;rw[h];exact q4
   ·rcases Di h with h | h
    ·left;exact lH _ h
    ·right;exact h
theorem aX.Ok.put{S:aX}(ok:S.Ok)(p:bm){l:List ByteArray}(h:l.length≤64):({ S with cE:=cQ S.cE p l }:aX).Ok:=
 ⟨ok.c0,ok.c1,fun x hx=>(Di hx).elim (ok.each x) (fun e=>by rw[e];exact h),Qz ok.nd _ _⟩
theorem aX.Ok.del{S:aX}(ok:S.Ok)(p:bm):({ S with cE:=ff S.cE p }:aX).Ok:=
 ⟨ok.c0,ok.c1,fun x hx=>ok.each x ((Io _ _).mem hx),Qw ok.nd _⟩
theorem aX.Ok.send{S:aX}(ok:S.Ok)(p:bm)(t:ByteArray):(S.send p t).Ok:=by
 unfold aX.send
 split
 ·exact ok
 rename_i h
 refine ok.put p ?_
 have:=wo ok p
 have:=ok.c1
 rw[a_]
 have h0:S.kq p t=0:=by simpa using h
 unfold aX.kq at h0
 split at h0
 ·cases h0
 split at h0
 ·cases h0
 split at h0
 ·cases h0
 ·simp;omega
section
variable {p:Nat} {S:aX} {b:Nat} {X:List jW}
theorem Ee{x y:Int}{t:ByteArray}(h:gm x=false∨gm y=false∨x=y):S.kq (x,y) t=2:=by unfold aX.kq;exact if_pos h
theorem SF{x y:Int}{t:ByteArray}(h:¬(gm x=false∨gm y=false∨x=y)):S.kq (x,y) t=if 512<t.size then 3 else if S.cap≤(S.list (x,y)).length then 60 else 0:=by unfold aX.kq;exact if_neg h
theorem SG{q:bm}{t:ByteArray}{e:Int}(h:S.kq q t=e)(he:e≠0):S.send q t=S:=by unfold aX.send;rw[h,if_pos he]
theorem Ij(ok:S.Ok)(x y:Int)(t:ByteArray):aq Tryz.prog 231 [.pointer (some ⟨p,0,none⟩),.agg (dP x y t).toArray] Fr w [cu p S]
  (fun v L=>v=.int .i64 (S.kq (x,y) t)∧L=[cu p (S.send (x,y) t)]):=by
 have hll:=wo ok (x,y)
 have hc1:=ok.c1
 refine TF 62 Tryz.func231 Z ym aw Z Z ?_
 refine VC.bu 0 Z (aY.aQ p S) ?_
 rintro⟨b,X⟩ hX
 dsimp only at hX
 refine Ft ?_
 obtain⟨old,a,c,R,e1,e2,e3,e4,e5⟩:=Ib X (x,y)
 have eo:old=S.list (x,y):=by rw[e1,hX];rfl
 refine CS (CG (VG (VB (vs:=dP x y t) Z fun mb=>?_)))
 refine BE ?_
 refine BE ?_
 refine ae ?_
 refine Fu ?_
 refine VG (VO.alloc Z fun kb=>?_)
 refine LJ ?_
 show VO _ _ _ _ _ (pt kb [.int .i64 x,.int .i64 y] wL::pt mb (dP x y t) jF::pt p (lx S b) sR::eI eT gD b X::X.map gC) _
 have fin:cI ⟨Tryz.prog,tab,aw,62,Fr,w⟩ (pt kb [.int .i64 x,.int .i64 y] wL::pt mb (dP x y t) jF::pt p (lx S b) sR::eI eT gD b X::X.map gC) [cu p S]:=
  (aa.aQ (K:=[]) b X hX (by rw[bA];exact IP 2 rfl (IP 2 rfl (aa.app (L:=[_,_]) (M:=[]) aa.nil aa.refl)))).ah
 refine ae ?_
 refine VG (VV (fun Fr w hF hw hS=>Ie Fr w (hS.ar 2 Z)) Z ?_)
 refine ae ?_
 refine oG ?_
 refine iC ?_
 refine VG (VV (fun Fr w hF hw hS=>F4 Fr w x) Z ?_)
 refine iC ?_
 by_cases k1:gm x=true
 rotate_left
 ·have hE:=Ee (S:=S) (x:=x) (y:=y) (t:=t) (.inl se)
  refine VG (VY 19 true Z se ?_)
  refine iC ?_
  refine VG (VY 25 true Z Z ?_)
  refine iC ?_
  refine l_ ?_
  refine au ?_
  exact xz
 refine VG (VY 19 false Z se ?_)
 refine iC ?_
 refine VG (VV (fun Fr w hF hw hS=>F4 Fr w y) Z ?_)
 refine iC ?_
 by_cases k2:gm y=true
 rotate_left
 ·have hE:=Ee (S:=S) (x:=x) (y:=y) (t:=t) (.inr (.inl (by simpa using k2)))
  refine VG (VY 25 true Z (by simpa using k2) ?_)
  refine iC ?_
  refine l_ ?_
  refine au ?_
  exact xz
 refine VG (VY 25 false Z (by simpa using k2) ?_)
 refine iC ?_
 refine CE Z (fun k3=>?_) (fun k3=>?_)
 ·have hE:=Ee (S:=S) (x:=x) (y:=y) (t:=t) (.inr (.inr k3))
  refine au ?_
  exact xz
 have hN:=SF (S:=S) (t:=t) (by rintro(h | h | h);rw[k1] at h;cases h;rw[k2] at h;cases h;exact k3 h:¬(gm x=false∨gm y=false∨x=y))
 refine iC ?_
 refine CP (p:=512<(t.size:Int)) Z (fun k4=>?_) (fun k4=>?_)
 ·have hE:S.kq (x,y) t=3:=by rw[hN,if_pos yd]
  refine au ?_
  exact xz
 refine au ?_
 refine CD (ts 0 13 .nil) ym yo ?_
 refine gF ?_
 refine AG (VA.cK 0 [.int .i64 x,.int .i64 y] Z Z Z Z Z ?_)
 refine AG (VA.wx (a:=(x,y)) rN Tryz.underlying140 Z (.slice a old.length c) Z Z Z (cO.one 3 Z) e2 ?_)
 refine gF ?_
 refine CP (p:=S.cap≤(old.length:Int)) Z (fun k5=>?_) (fun k5=>CK ?_)
 ·have hE:S.kq (x,y) t=60:=by rw[hN,if_neg yd,←eo,if_pos k5]
  refine au ?_
  exact xz
 have hE:S.kq (x,y) t=0:=by rw[hN,if_neg yd,←eo,if_neg k5]
 have en:(old ++ [t]).length=old.length+1:=by rw[a_];rfl
 refine CN (L':=av oB 1 a old.length c (flat eB old)::pt kb [.int .i64 x,.int .i64 y] wL::pt mb (dP x y t) jF::pt p (lx S b) sR::eI eT gD b X::R) ?_ ?_
 ·refine((aa.app (L:=[_,_,_,_]) (M:=[_,_,_,_]) aa.refl e3).trans (IP 4 Z aa.refl)).ah
 refine ae ?_
 refine CD (ts 0 7 (.only 7 (.only 8 (ts 9 1 (ts 11 1 (.only 10 (.only 12 .nil))))))) ym yo ?_
 refine gi ?_
 refine xA ?_
 refine gi ?_
 refine AG (AO (aG.buildSlice (n:=1) (pv:=[(0,.string t)]) (cells:=eB t) Z Z Z Z yn (fN Z Z Z)) Z ?_ ?_)
 ·rintro _ _ ⟨nb,rfl,rfl⟩
  exact yw
 rintro _ _ ⟨nb,rfl,rfl⟩
 refine AG (AO (aG.QB 5 rN Tryz.underlying140 Z (.slice a old.length c) (a:=(x,y)) Z Z Z e2) Z ?_ ?_)
 ·rintro _ _ ⟨st,rfl,rfl⟩
  exact yw
 rintro _ _ ⟨st,rfl,rfl⟩
 refine gi ?_
 refine AG (AO (aG.append (m:=1) (news:=eB t) 1 Z Z Z Z Z Z Z (dN.pt 0 Z Z Z) Z (by show(old.length+1)*16≤_;omega) yd) Z ?_ ?_)
 ·rintro _ _ ⟨a1,c1,rfl,hc1,rfl⟩
  exact yw
 rintro _ _ ⟨a1,c1,rfl,hc1,rfl⟩
 refine gi ?_
 refine AG (AO (aG.entryStore 5 (c:=eT) (d:=gD) (xs:=X) (a:=(x,y)) (u:=(old ++ [t],(a1,c1))) Z Z (by show some (Value.slice a1 (old.length+1) c1)=some (.slice a1 (old ++ [t]).length c1);rw[en]) Z) Z ?_ ?_)
 ·rintro _ _ ⟨rfl,rfl⟩
  exact yw
 rintro _ _ ⟨rfl,rfl⟩
 refine mg ?_
 refine CR (al.tmp 4 Z Z (L':=[cu p (S.send (x,y) t)]) ?_ ⟨by rw[hE],Z⟩)
 have es:S.send (x,y) t={ S with cE:=cQ S.cE (x,y) (old ++ [t]) }:=by unfold aX.send;rw[hE,if_neg yn,eo]
 rw[es]
 refine(aa.aQ (S:={ S with cE:=cQ S.cE (x,y) (old ++ [t]) }) (K:=[]) b (cQ X (x,y) (old ++ [t],(a1,c1))) (by show gr _=cQ S.cE (x,y) (old ++ [t]);rw[←hX];exact Dh Prod.fst _ _ _) ?_).ah
 rw[bA]
 refine IP 4 Z (IP 4 Z ?_)
 have e4':=e4 (old ++ [t],(a1,c1))
 dsimp only at e4'
 rw[ik,vU,en] at e4'
 exact(aa.app (L:=[_]) (L':=_) (M:=[_]) aa.refl (aa.app (L:=[_,_,_]) (M:=[]) aa.nil aa.refl)).trans e4'
end
end Cl
namespace Cl
open Go Vg T Api Ch Rep
attribute [local irreducible] VO VC VA
def rF(S:aX)(p:bm)(i:Int):Value:=match S.find p i with
 | none=>.tuple #[.agg (dP 0 0 ⟨#[]⟩).toArray,.int .i64 4]
 | some t=>.tuple #[.agg (dP p.1 p.2 t).toArray,.int .i64 0]
theorem uc{S:aX}{p:bm}{i:Int}(h:S.find p i=none):rF S p i=.tuple #[.agg (dP 0 0 ⟨#[]⟩).toArray,.int .i64 4]:=by unfold rF;rw[h]
theorem vR{S:aX}{p:bm}{i:Int}{t:ByteArray}(h:S.find p i=some t):rF S p i=.tuple #[.agg (dP p.1 p.2 t).toArray,.int .i64 0]:=by unfold rF;rw[h]
theorem Im{κ α:Type}[DecidableEq κ](a:κ)(u:α):∀l:List (κ×α),ff (cQ l a u) a=ff l a
 | []=>by simp[cQ,ff]
 | (k,v)::r=>by
  unfold cQ
  by_cases h:k=a
  ·rw[if_pos h];simp[ff,h]
  ·rw[if_neg h];simp[ff,h,Im a u r]
theorem Db{Fr:Nat→Prop}{w:World}{A:List HP}{X:List jW}(h:aV Fr (A++X.map gC) w):∀z∈X,aP eB 1 Fr w z.2.2.1 z.2.1:=fun z hz=>by
 obtain⟨i,hi,rfl⟩:=List.getElem_of_mem hz
 exact aP.av pH (h.at_ (A.length+i) (by rw[vp yd,Nat.add_sub_cancel_left,dH,GE hi];rfl))
section
variable {p:Nat} {S:aX} {b:Nat} {X:List jW}
theorem H2(ok:S.Ok)(h:a7 Fr w p (lx S b))(hm:oQ Fr w eT gD b X)(hr:∀z∈X,aP eB 1 Fr w z.2.2.1 z.2.1)(hX:gr X=S.cE)(x y i:Int):aq Tryz.prog 250 [.pointer (some ⟨p,0,none⟩),.int .i64 x,.int .i64 y,.int .i64 i] Fr w [] (fun v L=>v=rF S (x,y) i∧L=[]):=by
 have hll:=wo ok (x,y)
 have eg:cD S.cE (x,y)=(cD X (x,y)).map Prod.fst:=by rw[←hX];exact Dg Prod.fst _ X
 obtain⟨l,a,c,e1,e2,e3⟩:∃(l:List ByteArray) (a:Option Addr) (c:Nat),S.list (x,y)=l∧((cD X (x,y)).map gD).getD (.slice none 0 0)=.slice a l.length c∧aP eB 1 Fr w a l:=by
  unfold aX.list
  rw[eg]
  cases hg:cD X (x,y) with
  | none=>exact⟨[],none,0,rfl,rfl,aP.nil⟩
  | some v=>exact⟨v.1,v.2.1,v.2.2,rfl,rfl,hr _ (wy hg)⟩
 have hf:S.find (x,y) i=if i<0 then none else l[i.toNat]?:=by unfold aX.find;rw[e1]
 rw[e1] at hll
 refine TF 38 Tryz.func250 Z ym aw Z Z ?_
 refine CS (CG (VG (VO.alloc Z fun rb=>?_)))
 refine au ?_
 refine Fv ?_
 refine mf ?_
 refine g_ ?_
 refine Fu ?_
 refine VG (VO.rU (aG.wx rN Tryz.underlying140 Z (a:=(x,y)) (.slice a l.length c) Z Z (cO.ar hm) e2) ?_)
 refine au ?_
 by_cases h0:i<0
 ·refine VG (VY 24 true Z (DT h0) ?_)
  refine iS ?_
  refine Fw ?_
  refine u7 ?_
  refine au ?_
  exact CR (al.cJ 8 9 Z Z Z (an.many (ds:=dP 0 0 ⟨#[]⟩) 0 Z Z) Z aa.nil.ah ⟨(uc (by rw[hf,if_pos h0])).symm,Z⟩)
 obtain⟨k,rfl⟩:∃k:Nat,i=k:=⟨i.toNat,by omega⟩
 rw[if_neg h0,fy] at hf
 refine VG (VY 24 false Z (DF h0) ?_)
 refine au ?_
 refine CP (p:=(l.length:Int)≤k) Z (fun h1=>?_) (fun h1=>CK ?_)
 ·refine au ?_
  refine Fw ?_
  refine u7 ?_
  refine au ?_
  exact CR (al.cJ 8 9 Z Z Z (an.many (ds:=dP 0 0 ⟨#[]⟩) 0 Z Z) Z aa.nil.ah ⟨(uc (by rw[hf,mQ yd])).symm,Z⟩)
 have hk:k<l.length:=by omega
 have hk2:l[k]?=some l[k]:=GE hk
 generalize l[k]=t at hk2
 obtain⟨tb,toQ,rfl,_,hrd⟩:=aP.rd (X:=⟨Tryz.prog,tab,aw,38,Fr,w⟩) e3 hk2
 refine au ?_
 refine xg ?_
 refine VG (VO.load Z Z (hrd _ _ 0 _ Z Z) ?_)
 refine au ?_
 refine VG (VI (LB (pv:=[(0,.int .i64 x),(1,.int .i64 y),(2,.string t)]) (dP x y t) Z Z Z ym Z) ?_)
 refine Fx ?_
 refine au ?_
 exact CR (al.cJ 8 9 Z Z Z (an.many (ds:=dP x y t) 0 Z Z) Z aa.nil.ah ⟨(vR (by rw[hf,hk2])).symm,Z⟩)
end
end Cl
namespace Cl
open Go Vg T Api Ch Rep
attribute [local irreducible] VO VC VA
theorem OU{S:aX}{q:bm}{i:Int}{t:ByteArray}(h:S.find q i=some t):∃k:Nat,i=k∧k<(S.list q).length∧(S.list q)[k]?=some t:=by
 unfold aX.find at h
 split at h
 ·cases h
 ·exact⟨i.toNat,by omega,(cH.1 h).1,h⟩
theorem Cj{S:aX}{q:bm}{i:Int}(h:S.find q i=none):S.drop q i=(S,4):=by unfold aX.drop;rw[if_pos h]
theorem Ck{S:aX}{q:bm}{i:Int}{t:ByteArray}(h:S.find q i=some t):S.drop q i=(S.jO q i,0):=by unfold aX.drop;rw[if_neg (by rw[h];intro e;cases e)]
theorem aX.Ok.drop{S:aX}(ok:S.Ok)(q:bm)(i:Int):(S.drop q i).1.Ok:=by
 unfold aX.drop
 split
 ·exact ok
 show(S.jO q i).Ok
 have hl:=wo ok q
 have hl2:((S.list q).eraseIdx i.toNat).length≤64:=p6 (List.length_eraseIdx_le _ _) hl
 unfold aX.jO
 split
 ·exact aX.Ok.del (ok.put q hl2) q
 ·exact ok.put q hl2
section
variable {p:Nat} {S:aX} {b:Nat} {X:List jW}
theorem HY(ok:S.Ok)(x y i:Int):aq Tryz.prog 247 [.pointer (some ⟨p,0,none⟩),.int .i64 x,.int .i64 y,.int .i64 i] Fr w [cu p S]
  (fun v L=>v=rF S (x,y) i∧L=[cu p (S.drop (x,y) i).1]):=by
 have hll:=wo ok (x,y)
 refine TF 55 Tryz.func247 Z ym aw Z Z ?_
 refine VC.bu 0 Z (aY.aQ p S) ?_
 rintro⟨b,X⟩ hX
 dsimp only at hX
 refine Ft ?_
 obtain⟨old,a,c,R,e1,e2,e3,e4,e5⟩:=Ib X (x,y)
 have eo:old=S.list (x,y):=by rw[e1,hX];rfl
 refine CS (CG (VG (VO.alloc Z fun rb=>?_)))
 refine ae ?_
 refine VG (VV (fun Fr w hF hw hS=>H2 Fr w ok (hS.ar 1 Z) (hS.wB 2 Z) (Db (A:=[_,_,_]) hS) hX x y i) Z ?_)
 cases hf:S.find (x,y) i with
 | none=>
  rw[uc hf]
  refine ae ?_
  refine u7 ?_
  refine oK ?_
  refine Fw ?_
  refine u7 ?_
  refine ae ?_
  refine CR (al.cJ 8 9 Z Z Z (an.many (ds:=dP 0 0 ⟨#[]⟩) 0 Z Z) Z (L':=[cu p S]) ?_ ⟨rfl,by rw[Cj hf]⟩)
  exact(aa.aQ (K:=[]) b X hX (by rw[bA];exact IP 1 Z (IP 1 Z (aa.app (L:=[_]) (M:=[]) aa.nil aa.refl)))).ah
 | some t=>
  obtain⟨k,rfl,hk,hkt⟩:=OU hf
  rw[←eo] at hk hkt
  rw[vR hf]
  refine ae ?_
  refine Fx ?_
  refine iR ?_
  refine Fu ?_
  refine VG (VO.alloc Z fun kb=>?_)
  refine LJ ?_
  refine VO.ah (L':=av oB 1 a old.length c (flat eB old)::pt kb [.int .i64 x,.int .i64 y] wL::pt rb (dP x y t) jF::pt p (lx S b) sR::eI eT gD b X::R) ?_ ?_
  ·exact((aa.app (L:=[_,_,_,_]) (M:=[_,_,_,_]) aa.refl e3).trans (IP 4 Z aa.refl)).ah
  have hlo:old.length≤64:=by rw[eo];exact hll
  refine ae ?_
  refine CD (ts 0 14 (.only 14 (.only 15 .nil))) ym yo ?_
  refine gi ?_
  refine xA ?_
  refine gi ?_
  refine xA ?_
  refine AG (VA.wx (a:=(x,y)) rN Tryz.underlying140 Z (.slice a old.length c) Z Z Z (cO.one 4 Z) e2 ?_)
  refine gi ?_
  refine pK ?_
  refine AG (AQ 0 rfl (fun Fr w hF hs hS=>Xv (a:=a) (cap:=c) Fr w hk yd) rfl rfl (ψ:=fun v H=>∃a' cap',v=.slice a' (old.eraseIdx k).length cap'∧H=av oB 1 a' (old.eraseIdx k).length cap' (flat eB (old.eraseIdx k))) (fun v L h=>by obtain⟨a',c',h1,h2⟩:=h;exact⟨_,h2,a',c',h1,rfl⟩) ?_ ?_)
  ·rintro _ _ ⟨a1,c1,rfl,rfl⟩
   exact yw
  rintro _ _ ⟨a1,c1,rfl,rfl⟩
  refine AG (AO (aG.mapUpdate 4 (c:=eT) (d:=gD) (xs:=X) (a:=(x,y)) (u:=(old.eraseIdx k,(a1,c1))) rN Tryz.underlying140 Z Z Z Z) Z ?_ ?_)
  ·rintro _ _ ⟨rfl,rfl⟩
   exact yw
  rintro _ _ ⟨rfl,rfl⟩
  refine cG ?_
  have ew:S.jO (x,y) k=if (old.eraseIdx k).length=0 then { S with cE:=ff (cQ S.cE (x,y) (old.eraseIdx k)) (x,y) } else { S with cE:=cQ S.cE (x,y) (old.eraseIdx k) }:=by unfold aX.jO;rw[←eo,fy]
  have eX:gr (cQ X (x,y) (old.eraseIdx k,(a1,c1)))=cQ S.cE (x,y) (old.eraseIdx k):=by rw[←hX];exact Dh Prod.fst _ _ _
  refine CS (VC.cZ (σ:=Unit) (fun _=>[(8,pV rb)]) (fun _=>[cu p (S.jO (x,y) k),pt rb (dP x y t) jF]) (fun _=>True) ?_ ?_)
  ·refine CS (CD (ts 0 8 .nil) ym yo ?_)
   refine gi ?_
   refine xA ?_
   refine AG (VA.wx (a:=(x,y)) rN Tryz.underlying140 Z (.slice a1 (old.eraseIdx k).length c1) Z Z Z (cO.one 4 Z) (by rw[Qx,if_pos rfl];rfl) ?_)
   refine gi ?_
   refine CE (i:=((old.eraseIdx k).length:Int)) (j:=0) Z (fun k0=>?_) (fun k0=>CK ?_)
   ·refine CD (ts 0 5 (.only 5 .nil)) ym yo ?_
    refine gi ?_
    refine xA ?_
    refine AG (AO (aG.delete 4 (c:=eT) (d:=gD) (xs:=cQ X (x,y) (old.eraseIdx k,(a1,c1))) (a:=(x,y)) rN Tryz.underlying140 Z Z Z) Z ?_ ?_)
    ·rintro _ _ ⟨rfl,rfl⟩
     exact yw
    rintro _ _ ⟨rfl,rfl⟩
    refine cG ?_
    refine⟨(),trivial,aF,?_⟩
    rw[ew,if_pos yd]
    refine(aa.aQ (S:={ S with cE:=ff (cQ S.cE (x,y) (old.eraseIdx k)) (x,y) }) b (ff (cQ X (x,y) (old.eraseIdx k,(a1,c1))) (x,y)) (by show gr _=ff (cQ S.cE (x,y) (old.eraseIdx k)) (x,y);rw[←eX];exact Ik Prod.fst _ _) ?_).ah
    refine IP 3 Z (IP 3 Z ?_)
    refine(aa.perm (hU (l₁:=[_,_,_]) (l₂:=R))).trans (aa.app ?_ (IP 2 Z aa.nil))
    rw[Im]
    exact e5
   ·refine⟨(),trivial,aF,?_⟩
    rw[ew,if_neg yd]
    refine(aa.aQ (S:={ S with cE:=cQ S.cE (x,y) (old.eraseIdx k) }) b (cQ X (x,y) (old.eraseIdx k,(a1,c1))) eX ?_).ah
    refine IP 3 Z (IP 3 Z ?_)
    refine aa.trans (M:=[pt rb (dP x y t) jF]++(cQ X (x,y) (old.eraseIdx k,(a1,c1))).map gC) (IP 2 Z ?_) (aa.perm hU)
    exact(aa.app (L:=[_]) (L':=_) (M:=[_]) aa.refl (aa.app (L:=[_]) (M:=[]) aa.nil aa.refl)).trans (e4 (old.eraseIdx k,(a1,c1)))
  rintro - -
  refine ae ?_
  refine VG (VL 1 (dP x y t) Z Z Z Z ?_)
  refine VG (VT (vs:=dP x y t) (cs':=dP x y t) 1 Z Z Z Z (NR _) Z Z Z ?_)
  refine ae ?_
  exact CR (al.cJ 8 9 Z Z Z (an.many (ds:=dP x y t) 1 Z Z) Z (L':=[cu p (S.jO (x,y) k)]) (IP 0 Z aa.nil).ah ⟨rfl,by rw[Ck hf]⟩)
end
end Cl
namespace Cl
open Go Vg T Api Ch Rep
attribute [local irreducible] VO VC VA
theorem IJ:∀{l m:List Nat},l.Nodup→(∀x∈l,x∈m)→l.length≤m.length
 | [],m,_,_=>bK _
 | x::l,m,hn,hs=>by
  have hx:=hs x q4
  have h1:=List.nodup_cons.1 hn
  have:=IJ (l:=l) (m:=m.erase x) h1.2 (fun y hy=>(List.mem_erase_of_ne (fun e=>h1.1 (by rw[←e];exact hy))).2 (hs y (lH _ hy)))
  have h2:=List.length_erase_of_mem hx
  have h3:0<m.length:=List.length_pos_of_mem hx
  rw[mh];omega
theorem jv.len{κ α:Type}{c:κ→Value}{d:α→Value}{xs:List (κ×α)}{es:Array MapEntry}{k:Nat}{J:nT κ α}(h:lL c d xs es k)(ok:jv c d xs es J):J.length≤xs.length:=by
 have h1:=IJ (m:=es.toList.map (·.born)) ok.nd (fun x hx=>by
  obtain⟨z,hz,rfl⟩:=eC.1 hx
  exact eC.2 ⟨z.1,(h.kv (ok.sub z hz)).1,Z⟩)
 rw[dW,dW,h.len] at h1
 exact h1
theorem jv.keys{κ α:Type}{c:κ→Value}{d:α→Value}{xs:List (κ×α)}{es:Array MapEntry}{k:Nat}{J:nT κ α}(h:lL c d xs es k)(ok:jv c d xs es J):((J.map Prod.snd).map Prod.fst).Nodup:=by
 rw[lG]
 refine List.pairwise_map.2 ((List.pairwise_map.1 ok.nd).imp_of_mem fun {z1 z2} h1 h2 hne e=>hne ?_)
 obtain⟨a1,_,a2,_⟩:=h.kv (ok.sub z1 h1)
 obtain⟨b1,_,b2,_⟩:=h.kv (ok.sub z2 h2)
 rw[CW h.st.2.2 a1 b1 (by rw[a2,b2];exact congrArg c e)]
theorem Ip{κ α:Type}[DecidableEq κ]{a:κ}(u:α):∀{l:List (κ×α)},a∉l.map Prod.fst→cQ l a u=l ++ [(a,u)]
 | [],_=>rfl
 | (k,v)::r,h=>by
  simp only[kV,gK,not_or] at h
  unfold cQ
  rw[if_neg (fun e=>h.1 e.symm),Ip u h.2];rfl
theorem OP(S:aX)(q:bm)(i:Int):∃x y t,rF S q i=.tuple #[.agg (dP x y t).toArray,.int .i64 (S.drop q i).2]:=by
 cases hf:S.find q i with
 | none=>exact⟨_,_,_,by rw[uc hf,Cj hf]⟩
 | some t=>exact⟨_,_,_,by rw[vR hf,Ck hf]⟩
section
variable {p:Nat} {S:aX} {b:Nat} {X:List jW}
theorem P'(ok:S.Ok)(x y i:Int):aq Tryz.prog 193 [.pointer (some ⟨p,0,none⟩),.int .i64 x,.int .i64 y,.int .i64 i] Fr w [cu p S]
  (fun v L=>v=.int .i64 (S.drop (x,y) i).2∧L=[cu p (S.drop (x,y) i).1]):=by
 refine TF 20 Tryz.func193 Z ym aw Z Z ?_
 refine ae ?_
 refine VG (VK (Lc:=[cu p S]) (Lr:=[]) (fun Fr w hF hw _=>HY Fr w ok x y i) Z Z ?_)
 rintro _ _ ⟨rfl,rfl⟩
 obtain⟨x',y',t',e⟩:=OP S (x,y) i
 rw[e]
 refine ae ?_
 refine VG (VO.alloc Z fun rb=>?_)
 refine VG (VT (vs:=dP x' y' t') (cs':=dP x' y' t') 0 Z Z Z Z (NR _) Z Z Z ?_)
 refine ae ?_
 exact CR (al.tmp 8 Z Z (IP 1 Z aa.nil).ah ⟨rfl,Z⟩)
theorem He{q:bm}{i:Int}(h:S.find q i=none):S.double q i=(S,4):=by unfold aX.double;rw[h]
theorem Hf{q:bm}{i:Int}{t:ByteArray}(h:S.find q i=some t):S.double q i=(S.send q t,S.kq q t):=by unfold aX.double;rw[h]
theorem aX.Ok.double(ok:S.Ok)(q:bm)(i:Int):(S.double q i).1.Ok:=by
 unfold aX.double
 split
 ·exact ok
 ·exact ok.send _ _
theorem P_(ok:S.Ok)(x y i:Int):aq Tryz.prog 194 [.pointer (some ⟨p,0,none⟩),.int .i64 x,.int .i64 y,.int .i64 i] Fr w [cu p S]
  (fun v L=>v=.int .i64 (S.double (x,y) i).2∧L=[cu p (S.double (x,y) i).1]):=by
 refine TF 25 Tryz.func194 Z ym aw Z Z ?_
 refine VC.bu 0 Z (aY.aQ p S) ?_
 rintro⟨b,X⟩ hX
 dsimp only at hX
 refine Ft ?_
 refine ae ?_
 refine VG (VV (fun Fr w hF hw hS=>H2 Fr w ok (hS.ar 0 Z) (hS.wB 1 Z) (Db (A:=[_,_]) hS) hX x y i) Z ?_)
 refine VO.ah (L':=[cu p S]) (aa.aQ (K:=[]) b X hX (by rw[bA];exact aa.refl)).ah ?_
 cases hf:S.find (x,y) i with
 | none=>
  rw[uc hf]
  refine ae ?_
  refine VG (VO.alloc Z fun rb=>?_)
  refine u7 ?_
  refine oK ?_
  exact CR (al.tmp 8 Z Z (IP 1 Z aa.nil).ah ⟨by rw[He hf],by rw[He hf]⟩)
 | some t=>
  rw[vR hf]
  refine ae ?_
  refine VG (VO.alloc Z fun rb=>?_)
  refine Fx ?_
  refine iR ?_
  refine VG (VL 0 (dP x y t) Z Z Z Z ?_)
  refine VO.ah (L':=[cu p S,pt rb (dP x y t) jF]) (IP 1 Z aa.refl).ah ?_
  refine VG (VK (Lc:=[cu p S]) (Lr:=[pt rb (dP x y t) jF]) (fun Fr w hF hw _=>Ij Fr w ok x y t) Z Z ?_)
  rintro _ _ ⟨rfl,rfl⟩
  refine ae ?_
  exact CR (al.tmp 8 Z Z (IP 0 Z aa.nil).ah ⟨by rw[Hf hf],by rw[Hf hf]⟩)
theorem P9(ok:S.Ok)(h:a7 Fr w p (lx S b))(hm:oQ Fr w eT gD b X)(hr:∀z∈X,aP eB 1 Fr w z.2.2.1 z.2.1)(hX:gr X=S.cE):aq Tryz.prog 112 [.pointer (some ⟨p,0,none⟩)] Fr w [] (fun v L=>∃q m,m.Perm S.cE∧v=.pointer (some ⟨q,0,none⟩)∧L=[cu q ⟨S.cap,m⟩]):=by
 obtain⟨es,clock,g1,g2,g3⟩:=hm.at_
 have hz:lL eT gD X es clock:=⟨g2,g3⟩
 have hXe:∀z∈X,z.2.1.length≤64:=fun z hz=>by
  have:=ok.each (z.1,z.2.1) (by rw[←hX];exact eC.2 ⟨z,hz,rfl⟩)
  exact this
 refine TF 33 Tryz.func112 Z ym aw Z Z ?_
 refine au ?_
 refine Fv ?_
 refine mf ?_
 refine g_ ?_
 refine VG (VO.ot (aG.makeMap eT gD) ?_)
 rintro _ _ ⟨m,rfl,rfl⟩
 refine VG (VI (LB (pv:=[(0,.int .i64 S.cap),(1,.map (some m))]) (lx S m) Z Z Z ym Z) ?_)
 refine VG (VB (vs:=lx S m) Z fun q=>?_)
 refine g_ ?_
 refine LK ?_
 rintro _ _ ⟨it,rfl,rfl⟩
 refine jr ?_
 refine VC.block ?_
 refine VC.loop (σ:=nT bm vw×List jW) (fun s=>[(3,pV q),(19,pV it)]) (fun s=>rM it b clock s.1::pt q (lx S m) sR::eI eT gD m s.2::s.2.map gC) (fun s=>jv eT gD X es s.1∧gr s.2=gr (s.1.map Prod.snd)) (fun s=>X.length-s.1.length) ([],[])
  ⟨jv.nil,rfl⟩ aF ER ?_
 rintro⟨J,Y⟩ ⟨hJ,hY⟩
 dsimp only at hJ hY ⊢
 refine ae ?_
 refine LL ?_
 rintro v L' (⟨rfl,rfl,hp⟩ | ⟨z,rfl,z1,z2,hok,rfl⟩)
 ·refine ae ?_
  refine r_ ?_
  refine ae ?_
  refine CR (al.tmp 2 Z Z (L':=[cu q ⟨S.cap,gr Y⟩]) ?_ ⟨q,gr Y,?_,Z,Z⟩)
  ·exact(aa.aQ (S:=⟨S.cap,gr Y⟩) (K:=[]) m Y Z (by rw[bA];exact aa.app (L:=[_]) (M:=[]) aa.nil aa.refl)).ah
  ·rw[hY,←hX];exact hp.map _
 ·refine BH ?_
  refine ae ?_
  refine LM ?_
  refine ae ?_
  refine VG (VO.alloc Z fun kb=>?_)
  refine LN ?_
  refine ae ?_
  refine CD (ts 0 6 (.only 6 (.only 7 .nil))) ym yo ?_
  refine gF ?_
  refine AG (VA.cK 0 [.int .i64 z.2.1.1,.int .i64 z.2.1.2] Z Z Z Z Z ?_)
  refine gF ?_
  have hzl:=hXe _ z1
  refine AG (AO (OC (Lc:=[]) rfl (.refl _) (fun Fr w hF hs _=>Xu (a:=z.2.2.2.1) (cap:=z.2.2.2.2) Fr w ((hr _ z1).of hF hs) yd)) rfl (fun v L' g=>by obtain⟨_,⟨a1,c1,rfl,rfl⟩,rfl⟩:=g;exact(by(try refine Pd.st ?_);(repeat(first|exact Pd.nil|exact Pd.fnil|refine Pd.inner ?_|refine Pd.skip yo ?_|refine zf (zo 0 rfl rfl) ?_|refine zf (zo 1 rfl rfl) ?_|refine zf (zo 2 rfl rfl) ?_|refine zf (zo 3 rfl rfl) ?_|refine zf (zo 4 rfl rfl) ?_|refine zf (zo 5 rfl rfl) ?_|refine zf (zo 6 rfl rfl) ?_|refine zf (zo 7 rfl rfl) ?_|refine zf (zo 8 rfl rfl) ?_|refine zf (zm 0 rfl rfl) ?_|refine zf (zm 1 rfl rfl) ?_|refine zf (zm 2 rfl rfl) ?_|refine zf (zm 3 rfl rfl) ?_|refine zf (zm 4 rfl rfl) ?_|refine zf (zm 5 rfl rfl) ?_|refine zf (zm 6 rfl rfl) ?_|refine zf (zm 7 rfl rfl) ?_|refine zf (zm 8 rfl rfl) ?_|refine zc (zo 0 rfl rfl) ?_|refine zc (zo 1 rfl rfl) ?_|refine zc (zo 2 rfl rfl) ?_|refine zc (zo 3 rfl rfl) ?_|refine zc (zo 4 rfl rfl) ?_|refine zc (zo 5 rfl rfl) ?_|refine zc (zo 6 rfl rfl) ?_|refine zc (zo 7 rfl rfl) ?_|refine zc (zo 8 rfl rfl) ?_|refine zc (zm 0 rfl rfl) ?_|refine zc (zm 1 rfl rfl) ?_|refine zc (zm 2 rfl rfl) ?_|refine zc (zm 3 rfl rfl) ?_|refine zc (zm 4 rfl rfl) ?_|refine zc (zm 5 rfl rfl) ?_|refine zc (zm 6 rfl rfl) ?_|refine zc (zm 7 rfl rfl) ?_|refine zc (zm 8 rfl rfl) ?_|refine Pd.jB (cO.one 0 rfl) ?_|refine Pd.jB (cO.one 1 rfl) ?_|refine Pd.jB (cO.one 2 rfl) ?_|refine Pd.jB (cO.one 3 rfl) ?_|refine Pd.jB (cO.one 4 rfl) ?_|refine Pd.jB (cO.one 5 rfl) ?_|refine Pd.jB (cO.one 6 rfl) ?_|refine Pd.jB (cO.one 7 rfl) ?_|refine Pd.jB (cO.one 8 rfl) ?_|refine Pd.consM (cO.one 0 rfl) ?_|refine Pd.consM (cO.one 1 rfl) ?_|refine Pd.consM (cO.one 2 rfl) ?_|refine Pd.consM (cO.one 3 rfl) ?_|refine Pd.consM (cO.one 4 rfl) ?_|refine Pd.consM (cO.one 5 rfl) ?_|refine Pd.consM (cO.one 6 rfl) ?_|refine Pd.consM (cO.one 7 rfl) ?_|refine Pd.consM (cO.one 8 rfl) ?_)))) ?_)
  rintro _ _ ⟨_,⟨a1,c1,rfl,rfl⟩,rfl⟩
  refine AG (AO (aG.mapUpdate 4 (c:=eT) (d:=gD) (xs:=Y) (a:=z.2.1) (u:=(z.2.2.1,(a1,c1))) rN Tryz.underlying140 Z Z Z Z) Z ?_ ?_)
  ·rintro _ _ ⟨rfl,rfl⟩
   exact yw
  rintro _ _ ⟨rfl,rfl⟩
  refine cG ?_
  have hnk:z.2.1∉Y.map Prod.fst:=fun hh=>by
   have e1:Y.map Prod.fst=(J.map Prod.snd).map Prod.fst:=by
    have:=congrArg (List.map Prod.fst) hY
    unfold gr at this
    rw[lG,lG] at this
    exact this
   rw[e1] at hh
   have:=jv.keys hz hok
   rw[fA,fA] at this
   exact(gy.1 this).2.2 _ hh _ (mi.2 Z) rfl
  have b2:=jv.len hz hok
  rw[a_] at b2
  refine⟨(J ++ [z],Y ++ [(z.2.1,(z.2.2.1,(a1,c1)))]),⟨hok,by show gr (Y++_)=gr ((J ++ [z]).map Prod.snd);rw[gr,fA,fA,gr,fA];exact congrArg (· ++ _) hY⟩,by show X.length-(J ++ [z]).length<X.length-J.length;rw[a_];simp at b2 ⊢;omega,aF,?_⟩
  dsimp only
  rw[Ip _ hnk,fA]
  refine aa.ah ?_
  refine IP 2 Z (IP 2 Z (IP 2 Z ?_))
  exact(aa.perm (hU (l₁:=[_,_]) (l₂:=Y.map gC))).trans (aa.app aa.refl (IP 0 Z aa.nil))
end
end Cl
namespace Cl
open Go Vg T Api Ch Conf Rep
structure eh where
 kind:Int
 a:Int
 b:Int
 c:Int
 op:bp
structure ay where
 fq:bn
 now:Int
 aU:aJ
 nodes:List (Option az)
 di:List aR
 aQ:aX
 bH:bo
 done:List bS
def rS(c:bn):ay:=⟨c,0,oq c,(List.range c.nodes.toNat).map fun(n:Nat)=>some (dz c n false),(List.range c.bt.toNat).map fun(n:Nat)=>om c n,⟨c.link,[]⟩,rT,[]⟩
def py(from_:Int)(l:aX)(s:dX):aX:=match rY s.2.1 s.2.2 with
 | none=>l
 | some t=>l.send (from_,s.1) (bT t)
def cw(from_:Int)(l:aX)(S:List dX):aX:=S.foldl (py from_) l
def ay.post(C:ay)(from_:Int)(S:List dX):ay:={ C with aQ:=cw from_ C.aQ S }
def ay.node(C:ay)(n:Int):Option az:=if n<0 then none else (C.nodes[n.toNat]?).getD none
def ay.iB(C:ay)(n:Int):Int:=if n<0∨(C.nodes.length:Int)≤n then 4 else if (C.node n).isNone then 61 else 0
def ay.setNode(C:ay)(n:Int)(r:Option az):ay:={ C with nodes:=C.nodes.set n.toNat r }
def ay.dO(C:ay)(n:Int):Option aR:=if n<0 then none else C.di[n.toNat]?
def ay.kr(C:ay)(n:Int)(s:aR):ay:={ C with di:=C.di.set n.toNat s }
def ay.dead(C:ay)(c:Int):Int:=min (C.now+min (max c 0) 1099511627776) 1099511627776
def ay.call(C:ay)(s:eh):ay×Int:=match C.dO s.a with
 | none=>(C,4)
 | some x=>
  if x.eY s.op s.b (C.dead s.c)≠0 then (C,x.eY s.op s.b (C.dead s.c))
  else
   let y:=x.call s.op s.b (C.dead s.c) C.now
   (({ C.kr s.a y.1 with bH:=C.bH.call s.a y.1.seq s.op }:ay).post (32+s.a) y.2,0)
def ay.cV(C:ay)(n:Nat):ay:=match (C.nodes[n]?).getD none with
 | none=>C
 | some r=>(C.setNode n (some (jN r).1)).post n (fE (jN r).2)
def ay.mM(C:ay)(n:Nat):ay:=match C.di[n]? with
 | none=>C
 | some s=>(C.kr n (s.tick C.now).1).post (32+n) (s.tick C.now).2
def ay.tick(C:ay):ay:=
 let C:={ C with now:=min (C.now+1) 1099511627776 }
 let C:=(List.range C.nodes.length).foldl ay.cV C
 (List.range C.di.length).foldl ay.mM C
def ay.l8(C:ay)(from_ toQ:Int)(f:aA)(ms:List bj):ay:=
 if toQ=16 then ({ C with aU:=(C.aU.take from_ f C.now).1 }).post toQ (C.aU.take from_ f C.now).2
 else match C.node toQ with
  | some r=>(C.setNode toQ (some (db r from_ f ms C.now).1)).post toQ (fE (db r from_ f ms C.now).2)
  | none=>match C.dO (toQ-32) with
   | some s=>(C.kr (toQ-32) (s.take f ms C.now).1).post toQ (s.take f ms C.now).2
   | none=>C
def ay.rK(C:ay)(from_ toQ:Int)(t:ByteArray):ay:=match getM (sB t) with
 | some (f,ms)=>C.l8 from_ toQ f ms
 | none=>C
def ay.lg(C:ay)(p:bm)(i:Int):ay×Int:=match C.aQ.find p i with
 | none=>(C,4)
 | some t=>(({ C with aQ:=C.aQ.jO p i }:ay).rK p.1 p.2 t,0)
def ay.back(C:ay)(n:Int):ay:=
 if C.iB n=61 then
  let r:=db (dz C.fq n true) 16 (ke C.aU.ch) C.aU.ch.ms C.now
  (C.setNode n (some r.1)).post n (fE r.2)
 else C
def ay.join(C:ay)(n:Int):ay×Int:=
 let j:=C.aU.join n C.now
 if j.2.2≠0 then (C,j.2.2) else ((({ C with aU:=j.1 }:ay).back n).post 16 j.2.1,0)
def ay.step(C:ay)(s:eh):ay×Int:=
 if s.kind=1 then C.call s
 else if s.kind=2 then match C.node s.a with
  | none=>(C,C.iB s.a)
  | some r=>((C.setNode s.a (some (gY r C.now).1)).post s.a (fE (gY r C.now).2),0)
 else if s.kind=3 then (C.tick,0)
 else if s.kind=4 then C.lg (s.a,s.b) s.c
 else if s.kind=5 then ({ C with aQ:=(C.aQ.drop (s.a,s.b) s.c).1 },(C.aQ.drop (s.a,s.b) s.c).2)
 else if s.kind=6 then ({ C with aQ:=(C.aQ.double (s.a,s.b) s.c).1 },(C.aQ.double (s.a,s.b) s.c).2)
 else if s.kind=7 then if C.iB s.a≠0 then (C,C.iB s.a) else (C.setNode s.a none,0)
 else if s.kind=8 then (({ C with aU:=(C.aU.gf s.a).1 }:ay).post 16 (C.aU.gf s.a).2.1,(C.aU.gf s.a).2.2)
 else if s.kind=9 then C.join s.a
 else if s.kind=10 then (({ C with aU:=(C.aU.drain s.a).1 }:ay).post 16 (C.aU.drain s.a).2.1,(C.aU.drain s.a).2.2)
 else if s.kind=11 then (({ C with aU:=(C.aU.tick C.now).1 }:ay).post 16 (C.aU.tick C.now).2,0)
 else (C,2)
def lQ(h:bo)(x:aR×Nat):bo:=match x.1.outcome with
 | none=>h
 | some o=>h.end_ (x.2:Int) x.1.seq o
def zp(ms:List bj):Int:=match ms.getLast? with
 | none=>-1
 | some m=>m.1
def iH(d:List bS)(x:Option az×Nat):List bS:=match x.1 with
 | none=>d
 | some r=>if r.since=0∨r.ch.ms.length=0∨zp r.ch.ms≠x.2∨r.win.done≤d.length then d else d++(r.log.take r.win.done.toNat).drop d.length
def ay.behind(C:ay):ay:={ C with bH:=C.di.zipIdx.foldl lQ C.bH,done:=C.nodes.zipIdx.foldl iH C.done }
def ay.bG(C:ay)(s:eh):ay×Int:=((C.step s).1.behind,(C.step s).2)
def Jc(aI:Int):eh:=⟨1,aI,0,100,⟨2,⟨#[107]⟩,⟨#[118]⟩,0⟩⟩
def eA(k a b:Int):eh:=⟨k,a,b,0,DJ⟩
end Cl
namespace Cl
open Go Vg T Api Ch Rep Conf Lg
attribute [local irreducible] VO VC VA
abbrev qi:TypeId:=72
abbrev pB:TypeId:=75
abbrev qj:TypeId:=78
abbrev jt:=Option (Nat×az)
abbrev mm:=Nat×aR
def Dv:jt→Value
 | none=>.pointer none
 | some x=>.pointer (some ⟨x.1,0,none⟩)
def gU(x:jt):List Value:=[Dv x]
theorem Du(x:jt):(gU x).length=1:=rfl
def iy:jt→HP
 | none=>jb True
 | some x=>bd x.1 x.2
def la(x:mm):List Value:=[.pointer (some ⟨x.1,0,none⟩)]
theorem NN(x:mm):(la x).length=1:=rfl
def mu(x:mm):HP:=bB x.1 x.2
structure eL where
 qa:Option Addr
 qc:Nat
 mp:Nat
 nb:Nat
 nc:Nat
 nx:List Value
 nr:List jt
 cb:Nat
 cc:Nat
 cx:List Value
 cr:List mm
 lp:Nat
 hp:Nat
 da:Option Addr
 dc:Nat
def gN(C:ay)(y:eL):List Value:=C.fq.cells y.qa y.qc ++ [.int .i64 C.now,.pointer (some ⟨y.mp,0,none⟩),.slice (some ⟨y.nb,0,none⟩) y.nr.length y.nc,.slice (some ⟨y.cb,0,none⟩) y.cr.length y.cc,.pointer (some ⟨y.lp,0,none⟩),.pointer (some ⟨y.hp,0,none⟩),.slice y.da C.done.length y.dc]
def eH(p:Nat)(C:ay)(y:eL):List HP:=[pt p (gN C y) qi,kj y.qa y.qc C.fq.qs,bQ y.mp C.aU,pt y.nb (flat gU y.nr++y.nx) pB,pt y.cb (flat la y.cr++y.cx) qj,cu y.lp C.aQ,gQ y.hp C.bH,av e_ 7 y.da C.done.length y.dc (flat bJ C.done),b_ (y.nr.map iy),b_ (y.cr.map mu)]
structure eW(C:ay)(y:eL):Prop where
 nr:y.nr.map (Option.map Prod.snd)=C.nodes
 cr:y.cr.map Prod.snd=C.di
 qc:C.fq.qs.length≤y.qc
def bx(p:Nat)(C:ay):HP:=hex fun y:eL=>b_ (jb (eW C y)::eH p C y)
theorem aY.rk(p:Nat)(C:ay):aY (ι:=eL) (bx p C) (fun y=>eW C y) (fun y=>eH p C y):=fun w ids ⟨x,h⟩ hn=>by
 obtain⟨i1,i2,rfl,⟨rfl,h1⟩,h2⟩:=h
 exact⟨x,h1,i2,h2,hn,fun _ h=>h⟩
theorem aa.rk{p:Nat}{C:ay}{L K:List HP}(y:eL)(hy:eW C y)(h:aa L (eH p C y++K)):aa L (bx p C::K):=aa.ex (f:=fun y:eL=>b_ (jb (eW C y)::eH p C y)) y (aa.sep (aa.pure hy h))
theorem vM{Fr:Nat→Prop}{w:World}{p:Nat}{C:ay}(h:aV Fr [bx p C] w):∃y,eW C y∧aV Fr (eH p C y) w:=by
 obtain⟨y,hy⟩:=h.ex
 have hs:=hy.sep
 exact⟨y,hs.pure 0 Z,aV.tail hs⟩
def aX.jT(S:aX):Prop:=∀x∈S.cE,gm x.1.1=true∧gm x.1.2=true
structure ay.Ok(C:ay)(b e:Nat):Prop where
 cf:C.fq=ct C.fq
 n0:0≤C.now
 n1:C.now≤1099511627776
 aU:C.aU.Ok
 nl:C.nodes.length=C.fq.nodes.toNat
 cl:C.di.length=C.fq.bt.toNat
 aQ:C.aQ.Ok
 bH:C.bH.Ok
 fit:∀r,some r∈C.nodes→r.Fit
 last:∀r,some r∈C.nodes→r.aL.last≤b
 jA:∀s∈C.di,s.Ok
 seq:∀s∈C.di,s.seq≤b
 rc:C.bH.bc.length≤b
 ev:C.bH.events≤e
 dn:C.done.length≤4096
 lM:C.aQ.jT
section
variable {p:Nat} {C:ay} {y:eL}
theorem J'(h:a7 Fr w p (gN C y)):aq Tryz.prog 100 [.pointer (some ⟨p,0,none⟩)] Fr w [] (fun v L=>v=.bool true∧L=[]):=by
 refine TF 12 Tryz.func100 Z ym aw Z Z ?_
 refine BG ?_
 refine g_ ?_
 exact jQ
theorem uw(fit:eW C y):y.nr.length=C.nodes.length:=by rw[←fit.nr,dW]
theorem tU(fit:eW C y):y.cr.length=C.di.length:=by rw[←fit.cr,dW]
theorem uv(fit:eW C y){k:Nat}{x:jt}(h:y.nr[k]?=some x):C.node (k:Int)=x.map Prod.snd∧C.nodes[k]?=some (x.map Prod.snd):=by
 have:C.nodes[k]?=some (x.map Prod.snd):=by rw[←fit.nr,dH,h];rfl
 refine⟨?_,this⟩
 unfold ay.node
 rw[if_neg yd,fy,this];rfl
theorem yM(fit:eW C y){k:Nat}{x:mm}(h:y.cr[k]?=some x):C.dO (k:Int)=some x.2∧C.di[k]?=some x.2:=by
 have:C.di[k]?=some x.2:=by rw[←fit.cr,dH,h];rfl
 refine⟨?_,this⟩
 unfold ay.dO
 rw[if_neg yd,fy,this]
theorem qy{l:List jt}{k:Nat}{x:jt}{r:List Value}(h:l[k]?=some x):(flat gU l++r)[0+k*1]?=some (Dv x):=by rw[bZ];exact o9 (j:=0) Du h rfl r
theorem vK{l:List mm}{k:Nat}{x:mm}{r:List Value}(h:l[k]?=some x):(flat la l++r)[0+k*1]?=some (.pointer (some ⟨x.1,0,none⟩)):=by rw[bZ];exact o9 (j:=0) NN h rfl r
theorem Ex(fit:eW C y)(h:a7 Fr w p (gN C y))(hr:a7 Fr w y.nb (flat gU y.nr++y.nx))(n:Int):aq Tryz.prog 104 [.pointer (some ⟨p,0,none⟩),.int .i64 n] Fr w [] (fun v L=>v=.int .i64 (C.iB n)∧L=[]):=by
 have hl:=uw fit
 refine TF 26 Tryz.func104 Z ym aw Z Z ?_
 refine au ?_
 by_cases h0:n<0
 ·refine VG (VY 8 true Z (DT h0) ?_)
  refine g_ ?_
  refine l_ ?_
  refine au ?_
  exact CR (al.tmp 4 Z Z ER ⟨by rw[ay.iB,if_pos (.inl h0)],Z⟩)
 obtain⟨k,rfl⟩:∃k:Nat,n=k:=⟨n.toNat,by omega⟩
 refine VG (VY 8 false Z (DF h0) ?_)
 refine g_ ?_
 refine CP (p:=(y.nr.length:Int)≤k) Z (fun h1=>?_) (fun h1=>?_)
 ·refine au ?_
  exact CR (al.tmp 4 Z Z ER ⟨by rw[ay.iB,if_pos (.inr yd)],Z⟩)
 have hk:k<y.nr.length:=by omega
 have hk2:y.nr[k]?=some y.nr[k]:=GE hk
 generalize y.nr[k]=x at hk2
 obtain⟨e1,e2⟩:=uv fit hk2
 have hu:C.iB (k:Int)=if x.isNone then 61 else 0:=by
  unfold ay.iB
  rw[if_neg yd,e1]
  cases x<;>rfl
 refine g_ ?_
 refine xg ?_
 refine VG (VO.load Z Z (an.ar hr (qy hk2)) ?_)
 cases x with
 | none=>
  refine iS ?_
  exact CR (al.tmp 4 Z Z ER ⟨by rw[hu];rfl,Z⟩)
 | some z=>
  show VO _ _ _ _ (bI (some 24) (.pointer (some ⟨z.1,0,none⟩)) _) _ _
  refine mf ?_
  refine au ?_
  exact CR (al.tmp 4 Z Z ER ⟨by rw[hu];rfl,Z⟩)
end
end Cl
namespace Cl
open Go Vg T Api Ch Rep Conf Lg
attribute [local irreducible] VO VC VA
structure kB(Fr:Nat→Prop)(w:World)(a:Option Addr)(X:List e9):Prop where
 rows:aP cS 30 Fr w a X
 QT:∀x∈X,aP aC 2 Fr w x.2.1 x.1.2.2
 len:X.length≤1000000
 ml:∀x∈X,x.1.2.2.length≤1000000
theorem SD{Fr:Nat→Prop}{w:World}{A:List HP}{a:Option Addr}{c:Nat}{X:List e9}(h:aV Fr (av e8 30 a X.length c (flat cS X)::(X.map gv++A)) w)(hl:X.length≤1000000)(hm:∀x∈X.map Prod.fst,x.2.2.length≤1000000):kB Fr w a X:=
 ⟨aP.av Ak (h.at_ 0 rfl),fun x hx=>by
  obtain⟨i,hi,rfl⟩:=List.getElem_of_mem hx
  exact aP.av cj (h.at_ (1+i) (by rw[show 1+i=i+1 from by omega,pZ,tJ (by rw[dW];exact hi),dH,GE hi];rfl)),hl,fun x hx=>hm x.1 (eC.2 ⟨x,hx,Z⟩)⟩
theorem RY(from_:Int)(l:aX)(S:List dX)(s:dX):cw from_ l (S ++ [s])=py from_ (cw from_ l S) s:=by unfold cw;rw[vo];rfl
theorem aX.Ok.py{S:aX}(ok:S.Ok)(from_:Int)(s:dX):(Cl.py from_ S s).Ok:=by
 unfold Cl.py
 split
 ·exact ok
 ·exact ok.send _ _
theorem aX.Ok.cw(from_:Int):∀(l:List dX) {S:aX},S.Ok→(Cl.cw from_ S l).Ok
 | [],_,ok=>ok
 | s::l,S,ok=>aX.Ok.cw from_ l (ok.py from_ s)
theorem SB(x:e9):((cS x).drop 1).take 29=x.1.2.1.cells (x.2.1,x.1.2.2.length,x.2.2):=rfl
theorem nF{p:Nat}{C:ay}{y:eL}{S:aX}(h:a7 Fr w p (gN C y))(ok:S.Ok)(from_:Int){a:Option Addr}{c:Nat}{X:List e9}(hX:kB Fr w a X):aq Tryz.prog 188 [.pointer (some ⟨p,0,none⟩),.int .i64 from_,.slice a X.length c] Fr w [cu y.lp S]
  (fun v L=>v=.tuple #[]∧L=[cu y.lp (cw from_ S (X.map Prod.fst))]):=by
 have hlen:=hX.len
 refine TF 35 Tryz.func188 Z ym aw Z Z ?_
 refine au ?_
 refine VC.loop (σ:=Nat) (fun k=>[(0,pV p),(1,.int .i64 from_),(10,.slice a X.length c),(11,.int .i64 X.length),(12,.int .i64 (k:Int))]) (fun k=>[cu y.lp (cw from_ S ((X.take k).map Prod.fst))]) (fun k=>k≤X.length) (fun k=>X.length-k) 0
  (bK _) aF ER ?_
 rintro k hk
 refine au ?_
 refine CP (p:=(k:Int)<X.length) Z (fun h1=>CK ?_) (fun h1=>CX ?_)
 rotate_left
 ·obtain rfl:k=X.length:=by omega
  exact al.void Z ER ⟨rfl,by rw[jR]⟩
 have hkl:k<X.length:=by omega
 have hx:X[k]?=some X[k]:=GE hkl
 have hxm:X[k]∈X:=List.getElem_mem hkl
 generalize X[k]=x at hx hxm
 obtain⟨xb,xo,rfl,ra,rc⟩:=aP.rd (X:=⟨Tryz.prog,tab,aw,35,Fr,w⟩) hX.rows hx
 have okk:(cw from_ S ((X.take k).map Prod.fst)).Ok:=aX.Ok.cw from_ _ ok
 have htk:(X.take (k+1)).map Prod.fst=(X.take k).map Prod.fst ++ [x.1]:=by
  rw[fS,hx,fA];rfl
 have hxml:=hX.ml x hxm
 refine au ?_
 refine EE ?_
 refine tq ?_
 refine VG (VO.alloc Z fun sb=>?_)
 refine VG (VT (vs:=cS x) (cs':=cS x) 0 Z Z Z Z (NR _) Z Z Z ?_)
 refine au ?_
 refine VG (VL 0 (x.1.2.1.cells (x.2.1,x.1.2.2.length,x.2.2)) Z Z Z (SB x) ?_)
 refine VG (VO.dI (φ:=HD (rY x.1.2.1 x.1.2.2)) (fun Fr w hF hw _=>O4 Fr w ((hX.QT x hxm).of hF hw) hxml) Z ?_)
 intro v hv
 have fin:∀S',S'=py from_ (cw from_ S ((X.take k).map Prod.fst)) x.1→S'=cw from_ S ((X.take (k+1)).map Prod.fst):=fun S' h=>by rw[htk,RY,h]
 cases hp:rY x.1.2.1 x.1.2.2 with
 | none=>
  rw[hp] at hv
  obtain⟨e,he,rfl⟩:=hv
  have h1:=fin (cw from_ S ((X.take k).map Prod.fst)) (by unfold py;rw[hp])
  refine au ?_
  refine CE Z (fun k0=>absurd k0 he) (fun _=>CK ?_)
  refine au ?_
  refine nH ?_
  refine au ?_
  exact LO
 | some t=>
  rw[hp] at hv
  obtain rfl:=hv
  have h1:=fin ((cw from_ S ((X.take k).map Prod.fst)).send (from_,x.1.1) (bT t)) (by unfold py;rw[hp])
  refine iS ?_
  refine CD (ts 0 9 (.only 9 .nil)) ym yo ?_
  refine A3 ?_
  refine AG (AI Z (LB (pv:=[(0,.int .i64 from_),(1,.int .i64 x.1.1),(2,.string (bT t))]) (dP from_ x.1.1 (bT t)) Z Z Z ym Z) ?_)
  refine AG (AQ 1 Z (fun Fr w hF hs hS=>Ij Fr w okk from_ x.1.1 (bT t)) Z Z (ψ:=fun v H=>v=.int .i64 ((cw from_ S ((X.take k).map Prod.fst)).kq (from_,x.1.1) (bT t))∧H=cu y.lp ((cw from_ S ((X.take k).map Prod.fst)).send (from_,x.1.1) (bT t))) yz ?_ ?_)
  ·rintro _ _ ⟨rfl,rfl⟩
   exact(by(try refine Pd.st ?_);(repeat(first|exact Pd.nil|exact Pd.fnil|refine Pd.inner ?_|refine Pd.skip yo ?_|refine zf (zo 0 Z Z) ?_|refine zf (zo 1 Z Z) ?_|refine zf (zm 0 Z Z) ?_|refine zf (zm 1 Z Z) ?_|refine zf (an.ar h Z) ?_|refine zf (h) ?_|refine zc (zo 0 Z Z) ?_|refine zc (zo 1 Z Z) ?_|refine zc (zm 0 Z Z) ?_|refine zc (zm 1 Z Z) ?_|refine zc (an.ar h Z) ?_|refine zc (h) ?_)))
  rintro _ _ ⟨rfl,rfl⟩
  refine cG ?_
  refine au ?_
  refine nH ?_
  refine au ?_
  exact LO
end Cl
namespace Cl
open Go Vg T Api Ch Rep Conf Lg Rd
attribute [local irreducible] VO VC VA
theorem D6(e:Int)(l:List aA)(r:Int):(refs e l r).length=l.length:=by rw[refs,dW]
theorem Tp{R:az}(h:R.Ok)(now:Int):(gY R now).2.length≤300000:=by
 have h1:(ij R now).length≤16:=by
  unfold ij
  rw[D6,dW]
  have:=nP (fun y=>!ph now y) R.aL.l
  have:=h.rl
  have:=h.fG
  omega
 have h2:(step2 R now).2.length≤65*4200:=by
  unfold step2
  split
  ·exact Ei now 65 (yX h now)
  ·simp
 have h3:(jM R now).2.length≤4200:=by
  unfold jM
  split
  ·show(dA _ _).2.length≤_
   have ok2:=(At h now).win
   have:=ok2.ir
   have:=ok2.gd
   rw[DK]
   unfold iN
   omega
  ·simp
 show List.length (_++_++_)≤_
 rw[a_,a_]
 omega
theorem w9(R:az):(jN R).2.length≤5:=by
 have gl:=vY R
 have bl:=BV R
 have ml:R.np.length=1:=rfl
 have x1:(if (!R.aL.l.isEmpty)=true then [((16:Int),mZ R.ch.aB R.aL.ni)] else []).length≤1:=by split<;>simp
 have x2:(if R.gP=true∧R.win.done=R.win.last then [((16:Int),rA R.ch.aB)] else []).length≤1:=by split<;>simp
 show List.length (_++_++_++_++_)≤_
 rw[a_,a_,a_,a_]
 omega
theorem OF{R:az}(h:R.Fit){c:aW}(hc:jU c):(rD R c).2.length≤5000:=by
 have h1:(rC R c).length≤80:=by
  unfold rC
  rw[a_,D6,D6,dW]
  have:=zi h.ok jg
  have:=h.ok.rl
  have:=h.ok.fG
  omega
 have h2:=vS (Cs h.ok hc h.dh h.eN)
 have h3:=vY (dR R c).dt
 have h4:=BV (dR R c).dt
 have h5:(dR R c).dt.np.length=1:=rfl
 show List.length (_++_++_++_++_)≤_
 rw[a_,a_,a_,a_]
 omega
theorem uP{R:az}(h:R.Fit)(from_:Int)(f:aA)(ms:List bj)(now:Int):(db R from_ f ms now).2.length≤5000:=by
 unfold db
 split
 ·split
  ·simp
  split
  ·simp
  split
  ·unfold ow;split<;>simp
  ·unfold oE;split<;>(try split)<;>(try split)<;>simp
 split
 ·split
  ·rename_i h1;exact OF h ⟨by have:=B7 h1.1.2;omega⟩
  ·simp
 split
 ·split
  ·unfold mA
   have g1:=vY R
   have g2:=vY (fv R f.entry).dt.iX
   have g3:=BW (fv R f.entry).dt
   split
   ·rename_i h1
    have g4:=vS (uE h.ok (e:=f.entry) h1.2 (CM h1.1))
    show List.length (_++_++_)≤_
    rw[a_,a_]
    omega
   ·show R.fO.length≤_;omega
  ·simp
 split
 ·split
  ·show(if _ then _ else _:List bU).length≤_
   split
   ·have:=vY { jY R f with win:=(jY R f).win.kD f.index };omega
   ·simp
  ·simp
 split
 ·split
  ·have:=BW (nW R f.index);show(az.nX _).length≤_;omega
  ·simp
 split
 ·split
  ·show(uO R f.index).length≤_
   unfold uO
   rw[dW]
   have:=nP (fun y=>!nB f.index y) R.aL.l
   have:=h.ok.rl
   have:=h.ok.fG
   omega
  ·simp
 ·simp
theorem Rl(S:List bU):(fE S).length=S.length:=dW ..
theorem Rm(S:List bU):∀x∈fE S,x.2.2.length≤7:=fun x hx=>by
 obtain⟨y,_,rfl⟩:=eC.1 hx
 exact bK _
structure ed(S:List dX):Prop where
 n:S.length≤300000
 m:∀x∈S,x.2.2.length≤7
theorem ed.of{S:List bU}(h:S.length≤300000):ed (fE S):=⟨by rw[Rl];exact h,Rm S⟩
theorem ed.nil:ed []:=⟨by decide,fun _ h=>absurd h oM⟩
theorem ed.one{toQ:Int}{f:aA}{ms:List bj}(h:ms.length≤7):ed [(toQ,f,ms)]:=⟨by show 1≤300000;omega,fun x hx=>by rw[mi.1 hx];exact h⟩
theorem aJ.Ok.vC{M:aJ}(ok:M.Ok):ed M.all:=⟨by have:=ok.n1;unfold aJ.all;rw[dW,List.length_range];omega,fun x hx=>by
 obtain⟨n,_,rfl⟩:=eC.1 hx
 exact ok.ml⟩
theorem aJ.Ok.uP{M:aJ}(ok:M.Ok)(from_:Int)(f:aA)(now:Int):ed (M.take from_ f now).2:=by
 have c1:∀n,ed [gp M.ch n]:=fun n=>ed.one ok.ml
 have c2:∀n,(M.fY n now).ch=M.ch:=fun _=>rfl
 unfold aJ.take
 split
 ·exact c1 _
 split
 ·exact .nil
 split
 ·split
  ·exact c1 _
  split<;>exact .nil
 split
 ·split
  ·exact c1 _
  split
  ·exact ed.one (bK _)
  ·exact .nil
 split
 ·split
  ·rename_i h;exact(ok.gone h.2.2).vC
  ·exact .nil
 ·exact .nil
theorem aJ.Ok.w9{M:aJ}(ok:M.Ok)(now:Int):ed (M.tick now).2:=by
 have:=(ok.tick now).vC
 unfold aJ.tick at this ⊢
 dsimp only at this ⊢
 split
 ·exact this
 ·exact .nil
theorem aJ.Ok.JT{M:aJ}(ok:M.Ok)(n:Int):ed (M.gf n).2.1∧(M.gf n).1.Ok:=by
 unfold aJ.gf
 split
 ·exact⟨.nil,ok⟩
 split
 ·exact⟨.nil,ok⟩
 ·rename_i h
  have:=ok.gone (n:=n) yc
  exact⟨this.vC,this⟩
theorem aJ.Ok.Hg{M:aJ}(ok:M.Ok)(n:Int):ed (M.drain n).2.1∧(M.drain n).1.Ok:=by
 unfold aJ.drain
 split
 ·exact⟨.nil,ok⟩
 split
 ·exact⟨.nil,ok⟩
 ·rename_i h
  have:=ok.lh (n:=n) yc
  exact⟨this.vC,this⟩
theorem aJ.Ok.HQ{M:aJ}(ok:M.Ok)(n now:Int):ed (M.join n now).2.1∧(M.join n now).1.Ok:=by
 unfold aJ.join
 split
 ·exact⟨.nil,ok⟩
 split
 ·exact⟨.nil,ok⟩
 ·rename_i h
  have:=ok.kM (n:=n) yc now
  exact⟨this.vC,this⟩
theorem sC:ed BR:=ed.one (bK _)
theorem J9(s:aR)(now:Int):ed (s.bz now).2:=ed.one (bK _)
theorem CO(s:aR)(r now:Int):ed (s.ja r now).2:=by
 unfold aR.ja aR.giveUp
 split
 ·exact sC
 split
 ·exact .nil
 ·exact sC
theorem aR.Nv(s:aR)(o:bp)(cl d now:Int):ed (s.call o cl d now).2:=by
 unfold aR.call
 split
 ·exact .nil
 split
 ·exact J9 _ _
 ·exact sC
theorem aR.w9(s:aR)(now:Int):ed (s.tick now).2:=by
 unfold aR.tick
 split
 ·split
  ·exact CO _ _ _
  ·exact .nil
 split
 ·split
  ·exact .nil
  split
  ·exact sC
  ·exact sC
 split
 ·split
  ·exact sC
  ·exact .nil
 ·exact .nil
theorem aR.uP(s:aR)(f:aA)(ms:List bj)(now:Int):ed (s.take f ms now).2:=by
 unfold aR.take
 split
 ·split
  ·exact .nil
  split
  ·exact J9 _ _
  ·exact .nil
 split
 ·split<;>exact .nil
 split
 ·split
  ·unfold aR.refused
   split
   ·exact CO _ _ _
   split
   ·exact sC
   ·exact CO _ _ _
  ·exact .nil
 ·exact .nil
def SH(a:Option Addr)(c:Nat)(X:List e9):HP:=b_ (av e8 30 a X.length c (flat cS X)::X.map gv)
def oy(H:HP)(a:Option Addr)(c:Nat)(X:List e9):HP:=b_ [H,SH a c X]
def MO(S:List dX)(H:HP)(v:Value)(K:HP):Prop:=∃(X:List e9) (a:Option Addr) (c:Nat),X.map Prod.fst=S∧v=.slice a X.length c∧K=oy H a c X
def MP(S:List dX)(e:Int)(H:HP)(v:Value)(K:HP):Prop:=∃(X:List e9) (a:Option Addr) (c:Nat),X.map Prod.fst=S∧v=.tuple #[.slice a X.length c,.int .i64 e]∧K=oy H a c X
def oT(S:List dX)(H:HP)(v:Value)(L:List HP):Prop:=∃K,L=[K]∧MO S H v K
def vz(S:List dX)(e:Int)(H:HP)(v:Value)(L:List HP):Prop:=∃K,L=[K]∧MP S e H v K
theorem kB.at_{Fr:Nat→Prop}{w:World}{L:List HP}{a:Option Addr}{c:Nat}{X:List e9}{S:List dX}(i:Nat){H:HP}(h:aV Fr L w)(hL:L[i]?=some (oy H a c X))(hX:X.map Prod.fst=S)(hS:ed S):kB Fr w a X:=by
 subst hX
 have hh:=(((h.at_ i hL).sep).at_ 1 rfl).sep
 have hn:=hS.n
 rw[dW] at hn
 exact SD (A:=[]) (c:=c) (by simpa using hh) yd (fun x hx=>by have:=hS.m x hx;omega)
def nC(S:List bU):List e9:=S.map fun x=>((x.1,x.2,[]),(none,0))
theorem XF(S:List bU):(nC S).map Prod.fst=fE S:=by unfold nC fE;rw[lG];rfl
theorem J0(S:List bU):(nC S).length=S.length:=dW ..
theorem XE(S:List bU):flat cS (nC S)=flat pE S:=by
 unfold flat nC
 rw[lG]
 rfl
theorem J1{L:List HP}:∀(S:List bU),aa L ((nC S).map gv)
 | []=>aa.nil
 | s::S=>by
  show aa L (av aN 2 none 0 0 []::(nC S).map gv)
  exact aa.cN (J1 S)
theorem Ef{S:List bU}{v:Value}{L:List HP}{H:HP}(h:bX S v L [H]):∃L2,oT (fE S) H v L2∧aa L L2:=by
 obtain⟨a,c,rfl,rfl⟩:=h
 refine⟨[oy H a c (nC S)],⟨_,Z,nC S,a,c,XF S,by rw[J0],Z⟩,aa.sep (aa.cons (aa.sep ?_))⟩
 show aa [_] ((av e8 30 a (nC S).length c (flat cS (nC S))::List.map gv (nC S)) ++ [])
 rw[bA,J0,XE]
 exact aa.cons (J1 S)
theorem Al{S:List dX}{v:Value}{L:List HP}{H:HP}(h:lD S v L [H]):∃L2,oT S H v L2∧aa L L2:=by
 obtain⟨X,a,c,e,rfl,rfl⟩:=h
 exact LP
theorem aa.tail{H:HP}{L:List HP}:aa (H::L) L:=aa.app (L:=[H]) (M:=[]) aa.nil aa.refl
theorem tf{H:HP}{a:Option Addr}{c:Nat}{X:List e9}{L:List HP}:aa (oy H a c X::L) (H::L):=aa.AA (aa.cons aa.tail)
theorem Am{S:List dX}{e:Int}{v:Value}{L:List HP}{H:HP}(h:uJ S e v L [H]):∃L2,vz S e H v L2∧aa L L2:=by
 obtain⟨X,a,c,e,rfl,rfl⟩:=h
 exact LP
section
variable {α:Type} {f:α→HP} {l:List α} {k:Nat} {x:α}
theorem zw{A:List HP}(h:l[k]?=some x):aa (b_ (l.map f)::A) (f x::b_ ((l.eraseIdx k).map f)::A):=by
 have e1:(l.map f)[k]?=some (f x):=by rw[dH,h];rfl
 have e2:(l.map f).eraseIdx k=(l.eraseIdx k).map f:=(map_eraseIdx f l k).symm
 refine aa.AA (aa.trans (aa.app (M:=f x::(l.eraseIdx k).map f) (aa.perm ?_) aa.refl) ?_)
 ·have:=mH e1
  rwa[e2] at this
 ·exact aa.cons (aa.sep aa.refl)
theorem zv{A:List HP}(h:k<l.length)(y:α):aa (f y::b_ ((l.eraseIdx k).map f)::A) (b_ ((l.set k y).map f)::A):=by
 have e3:((l.set k y).map f)[k]?=some (f y):=by rw[dH,hO h];rfl
 have e4:((l.set k y).map f).eraseIdx k=(l.eraseIdx k).map f:=by rw[gJ,List.eraseIdx_set_eq,map_eraseIdx]
 have hp:=(mH e3).symm
 rw[e4] at hp
 refine aa.sep ?_
 refine aa.trans (M:=(f y::(l.eraseIdx k).map f)++A) (aa.cons (aa.AA aa.refl)) ?_
 exact aa.app (aa.perm hp) aa.refl
end
end Cl
end Go.Proofs.YtbmakdofbejlnaaGreatDoor
