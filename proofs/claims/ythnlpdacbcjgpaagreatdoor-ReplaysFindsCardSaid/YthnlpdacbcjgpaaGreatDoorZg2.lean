/- Texts of the proof, put together and shortened. No condition. -/
import Derived.Test.YthnlpdacbcjgpaaGreatDoorZg1
set_option maxRecDepth 100000
set_option maxHeartbeats 16000000
set_option linter.unusedVariables false
set_option linter.unusedSectionVars false
set_option linter.unusedSimpArgs false
namespace Go.Proofs.YthnlpdacbcjgpaaGreatDoor
variable (Fr : Nat → Prop) (w : World)
namespace Ch
open Go Vg T Api
attribute [local irreducible] VO VC VA
abbrev kP:TypeId:=105
structure dO where
 al:Int
 ms:List bI
 drain:Int
def dO.cells(c:dO)(a:Option Addr)(cap:Nat):List Value:=[.int .i64 c.al,.slice a c.ms.length cap,.int .i64 c.drain]
def placeOf(ms:List bI)(n:Int):Int:=match ms.findIdx? (fun m=>decide (m.1=n)) with
 | some i=>i
 | none=>-1
theorem Gt{ms:List bI}{n:Int}{i:Nat}{m:bI}(hm:ms[i]?=some m)(h:m.1=n)(hno:∀j m,j<i→ms[j]?=some m→m.1≠n):placeOf ms n=i:=by
 obtain⟨h1,h2⟩:=ZP.1 hm
 have:ms.findIdx? (fun m=>decide (m.1=n))=some i:=by
  rw[List.findIdx?_eq_some_iff_getElem]
  refine⟨h1,by rw[h2];simp[h],fun j hj=>?_⟩
  have:=hno j _ hj (GE yd)
  simpa using this
 rw[placeOf,this]
theorem DO{ms:List bI}{n:Int}(hno:∀j m,j<ms.length→ms[j]?=some m→m.1≠n):placeOf ms n=-1:=by
 have:ms.findIdx? (fun m=>decide (m.1=n))=none:=by
  rw[List.findIdx?_eq_none_iff]
  intro m hm
  obtain⟨j,h1,h2⟩:=List.getElem_of_mem hm
  have:=hno j m h1 (by rw[GE h1,h2])
  simpa using this
 rw[placeOf,this]
theorem gv(ms:List bI)(n:Int):placeOf ms n=-1∨∃(i:Nat) (m:bI),placeOf ms n=i∧i<ms.length∧ms[i]?=some m∧m.1=n:=by
 unfold placeOf
 cases h:ms.findIdx? (fun m=>decide (m.1=n)) with
 | none=>exact .inl rfl
 | some i=>
  obtain⟨h1,h2,_⟩:=List.findIdx?_eq_some_iff_getElem.1 h
  exact .inr ⟨i,ms[i],Z,h1,GE h1,by simpa using h2⟩
section
variable {c:dO} {a:Option Addr} {cap:Nat}
theorem lg{b:Nat}(hb:eS Fr w b (c.cells a cap))(h:aK ax 2 Fr w a c.ms)(hl:c.ms.length≤9223372036854775807)(n:Int):
  aH Tryz.prog 140 [.int .i64 n,.pointer (some ⟨b,0,none⟩)] Fr w [] (fun v L=>v=.int .i64 (placeOf c.ms n)∧L=[]):=by
 refine TF 20 Tryz.func140 Z yn ah Z Z ?_
 refine Dt ?_
 refine VC.loop (σ:=Nat) (fun i=>[(0,.int .i64 n),(1,pV b),(7,.slice a c.ms.length cap),(8,.int .i64 c.ms.length),(9,.int .i64 i)]) (fun _=>[]) (fun i=>i≤c.ms.length∧∀j m,j<i→c.ms[j]?=some m→m.1≠n) (fun i=>c.ms.length-i) 0
  ⟨ZO _,fun j m hj=>by omega⟩ ba ER ?_
 rintro i ⟨hi,hno⟩
 refine an ?_
 refine CP Z (fun h1=>CK ?_) (fun h1=>CX ?_)
 ·have hi2:i<c.ms.length:=by omega
  obtain⟨m,hm⟩:∃m,c.ms[i]?=some m:=⟨_,GE hi2⟩
  obtain⟨mb,mo,hma,ra,rc⟩:=aK.rd (X:=⟨Tryz.prog,tab,ah,20,Fr,w⟩) h hm
  subst hma
  refine KN ?_
  refine H6 ?_
  refine VG (VO.alloc Z fun xb=>?_)
  refine VG (VT (vs:=ax m) 0 Z Z Z Z (NR _) Z Z Z ?_)
  refine an ?_
  refine CE Z (fun h2=>?_) (fun h2=>CK ?_)
  ·refine an ?_
   exact CR (ay.tmp 3 Z Z ae.nil.ar ⟨by rw[Gt hm h2 hno],Z⟩)
  ·refine sh ?_
   exact⟨i+1,⟨hi2,fun j m' hj hm'=>by
    by_cases hji:j=i
    ·subst hji;rw[hm] at hm';cases hm';exact h2
    ·exact hno j m' yd hm'⟩,by dsimp only;omega,ba,ae.nil.ar⟩
 ·obtain rfl:i=c.ms.length:=by omega
  refine an ?_
  exact CR (ay.tmp 3 Z Z ae.nil.ar ⟨by rw[DO hno],Z⟩)
theorem tu:aH Tryz.prog 84 [.agg (c.cells a cap).toArray] Fr w [] (fun v L=>∃b,v=pT 140 [] [.pointer (some ⟨b,0,none⟩)]∧L=[pt b (c.cells a cap) kP]):=by
 refine TF 4 Tryz.func84 Z yn ah Z Z ?_
 refine CS (CG (VG (VB (vs:=c.cells a cap) Z fun b=>?_)))
 refine an ?_
 refine UX ?_
 refine an ?_
 exact CR (ay.tmp 2 Z Z ER ⟨b,Z,Z⟩)
def pW(n:Int):Bool:=decide (0≤n)&&decide (n<6)
theorem xD(n:Int):aH Tryz.prog 141 [.int .i64 n] Fr w [] (fun v L=>v=.bool (pW n)∧L=[]):=by
 refine TF 9 Tryz.func141 Z yn ah Z Z ?_
 refine an ?_
 by_cases h1:0≤n
 ·refine VG (VY 5 true Z (DT h1) ?_)
  refine eR ?_
  exact CR (ay.bool 2 Z Z (by simp[pW,h1]) ER ⟨rfl,Z⟩)
 ·refine VG (VY 5 false Z (DF h1) ?_)
  refine eR ?_
  exact CR (ay.bool 2 Z Z (by simp[pW,h1]) ER ⟨rfl,Z⟩)
def q9(c:dO)(i:Nat):Bool:=match c.ms[i]? with
 | some m=>pW m.1&&(decide (placeOf c.ms m.1=i)&&(decide (1≤m.2)&&decide (m.2≤c.al)))
 | none=>true
def ql(c:dO):Bool:=decide (1≤c.al)&&(decide (c.al≤1099511627776)&&(decide (1≤c.ms.length)&&decide (c.ms.length≤6)))
def q_(c:dO):Bool:=decide (c.drain=-1)||decide (0≤placeOf c.ms c.drain)
def qm(c:dO):Bool:=ql c&&((List.range c.ms.length).all (q9 c)&&q_ c)
def si(c:dO):Int:=if qm c then 0 else 2
theorem bm(h:aK ax 2 Fr w a c.ms)(hl:c.ms.length≤9223372036854775807):aH Tryz.prog 85 [.agg (c.cells a cap).toArray] Fr w [] (fun v L=>v=.int .i64 (si c)∧L=[]):=by
 refine TF 71 Tryz.func85 Z yn ah Z Z ?_
 refine CS (CG (VG (VB (vs:=c.cells a cap) Z fun b=>?_)))
 refine VG (VN (CS (CS ?_)))
 refine VC.cq (σ:=Unit) (fun _=>[(1,pV b),(25,.bool (!ql c))]) (fun _=>[pt b (c.cells a cap) kP]) (fun _=>True) ?_ ?_
 ·refine an ?_
  by_cases h1:c.al<1
  ·refine VG (VY 9 true Z (DT h1) ?_)
   refine eR ?_
   refine VG (VY 14 true Z Z ?_)
   refine eR ?_
   refine VG (VY 20 true Z Z ?_)
   refine eR ?_
   exact XG
  refine VG (VY 9 false Z (DF h1) ?_)
  refine eR ?_
  by_cases h2:1099511627776<c.al
  ·refine VG (VY 14 true Z (DT h2) ?_)
   refine eR ?_
   refine VG (VY 20 true Z Z ?_)
   refine eR ?_
   exact XG
  refine VG (VY 14 false Z (DF h2) ?_)
  refine eR ?_
  by_cases h3:(c.ms.length:Int)<1
  ·refine VG (VY 20 true Z (DT h3) ?_)
   refine eR ?_
   exact⟨(),trivial,SC Z (Sub.bl Z (by rw[ql,DF (show ¬1≤c.ms.length by omega)];simp) (SN _)),ER⟩
  refine VG (VY 20 false Z (DF h3) ?_)
  refine eR ?_
  refine⟨(),trivial,SC Z (Sub.bl Z ?_ (SN _)),ER⟩
  have e1:decide (1≤c.al)=true:=DT yd
  have e2:decide (c.al≤1099511627776)=true:=DT yd
  have e3:decide (1≤c.ms.length)=true:=DT yd
  rw[ql,e1,e2,e3]
  by_cases h4:6<(c.ms.length:Int)
  ·rw[DT h4,DF (show ¬c.ms.length≤6 by omega)];rfl
  ·rw[DF h4,DT (show c.ms.length≤6 by omega)];rfl
 rintro _ -
 refine VC.dX Z (fun hh=>?_) (fun hh=>CK ?_)
 ·refine an ?_
  exact CR (ay.tmp 2 Z Z ae.nil.ar ⟨by rw[si,qm,hh];rfl,Z⟩)
 refine OY ?_
 refine RT ?_
 rintro _ _ ⟨pb,rfl,rfl⟩
 refine jd ?_
 have hmv:∀(i:Nat),q9 c i=false→i<c.ms.length→qm c=false:=fun i h1 h2=>by
  have:(List.range c.ms.length).all (q9 c)=false:=by
   rw[List.all_eq_false];exact⟨i,List.mem_range.2 h2,by rw[h1];simp⟩
  rw[qm,this];simp
 refine VC.loop (σ:=Nat) (fun i=>[(1,pV b),(3,pT 140 [] [.pointer (some ⟨pb,0,none⟩)]),(29,.slice a c.ms.length cap),(30,.int .i64 c.ms.length),(31,.int .i64 i)]) (fun _=>[pt pb (c.cells a cap) kP,pt b (c.cells a cap) kP]) (fun i=>i≤c.ms.length∧(List.range i).all (q9 c)=true) (fun i=>c.ms.length-i) 0
  ⟨ZO _,rfl⟩ ba ER ?_
 rintro i ⟨hi,hall⟩
 refine an ?_
 refine CP Z (fun h1=>CK ?_) (fun h1=>CX ?_)
 ·have hi2:i<c.ms.length:=by omega
  obtain⟨m,hm⟩:∃m,c.ms[i]?=some m:=⟨_,GE hi2⟩
  have hmo:q9 c i=(pW m.1&&(decide (placeOf c.ms m.1=i)&&(decide (1≤m.2)&&decide (m.2≤c.al)))):=by rw[q9,hm]
  obtain⟨mb,mo,hma,ra,rc⟩:=aK.rd (X:=⟨Tryz.prog,tab,ah,71,Fr,w⟩) h hm
  subst hma
  refine KN ?_
  refine H6 ?_
  refine VG (VO.alloc Z fun xb=>?_)
  refine VG (VT (vs:=ax m) 0 Z Z Z Z (NR _) Z Z Z (VG (VN ?_)))
  refine CS ?_
  refine VC.cq (σ:=Unit) (fun _=>[(1,pV b),(3,pT 140 [] [.pointer (some ⟨pb,0,none⟩)]),(29,.slice (some ⟨mb,mo,none⟩) c.ms.length cap),(30,.int .i64 c.ms.length),(31,.int .i64 i),(59,.bool (!q9 c i))]) (fun _=>[pt pb (c.cells (some ⟨mb,mo,none⟩) cap) kP,pt b (c.cells (some ⟨mb,mo,none⟩) cap) kP]) (fun _=>True) ?_ ?_
  ·have S3:∀{E:Env} {t:Bool},Vg.look E 59=some (.bool t)→t=(!q9 c i)→Vg.look E 1=some (.pointer (some ⟨b,0,none⟩))→Vg.look E 3=some (pT 140 [] [.pointer (some ⟨pb,0,none⟩)])→Vg.look E 29=some (.slice (some ⟨mb,mo,none⟩) c.ms.length cap)→Vg.look E 30=some (.int .i64 c.ms.length)→Vg.look E 31=some (.int .i64 i) →
     Sub [(1,pV b),(3,pT 140 [] [.pointer (some ⟨pb,0,none⟩)]),(29,.slice (some ⟨mb,mo,none⟩) c.ms.length cap),(30,.int .i64 c.ms.length),(31,.int .i64 i),(59,.bool (!q9 c i))] E:=fun h0 h1 h2 h3 h4 h5 h6=>SC h2 (SC h3 (SC h4 (SC h5 (SC h6 (Sub.bl h0 h1 (SN _))))))
   refine sj ?_
   refine VG (VO.ik (fun Fr w=>xD Fr w m.1) Z ?_)
   refine sj ?_
   cases hn:pW m.1 with
   | false=>
    refine RU ?_
    refine pQ ?_
    refine VG (VY 48 true Z Z ?_)
    refine pQ ?_
    refine VG (VY 53 true Z Z ?_)
    refine pQ ?_
    exact⟨(),trivial,S3 Z (by rw[hmo,hn];rfl) Z Z Z Z Z,(dF [1,1]).ar⟩
   | true=>
   refine Rl ?_
   refine pQ ?_
   refine VG (VO.sr (u:=.int .i64 (placeOf c.ms m.1)) Z (fun Fr w hF hs hS=>lg Fr w (hS.aP 1 Z) (h.of hF hs) hl m.1) Z ?_)
   refine pQ ?_
   by_cases h2:placeOf c.ms m.1=i
   ·refine VG (VY 48 false Z yj ?_)
    refine pQ ?_
    by_cases h3:m.2<1
    ·refine VG (VY 53 true Z (DT h3) ?_)
     refine pQ ?_
     exact⟨(),trivial,S3 Z (by rw[hmo,DF (show ¬1≤m.2 by omega)];simp) Z Z Z Z Z,(dF [1,1]).ar⟩
    refine VG (VY 53 false Z (DF h3) ?_)
    refine pQ ?_
    exact⟨(),trivial,S3 Z (by
     rw[hmo,hn,DT h2,DT (show 1≤m.2 by omega)]
     by_cases h4:c.al<m.2
     ·rw[DT h4,DF (show ¬m.2≤c.al by omega)];rfl
     ·rw[DF h4,DT (show m.2≤c.al by omega)];rfl) rfl rfl rfl rfl rfl,(dF [1,1]).ar⟩
   ·refine VG (VY 48 true Z yj ?_)
    refine pQ ?_
    refine VG (VY 53 true Z Z ?_)
    refine pQ ?_
    exact⟨(),trivial,S3 Z (by rw[hmo,DF h2];simp) Z Z Z Z Z,(dF [1,1]).ar⟩
  rintro _ -
  refine VC.dX Z (fun hb=>?_) (fun hb=>CK ?_)
  ·refine an ?_
   exact CR (ay.tmp 2 Z Z ae.nil.ar ⟨by rw[si,hmv i hb hi2];rfl,Z⟩)
  ·refine sh ?_
   exact⟨i+1,⟨hi2,by rw[List.range_succ,List.all_append,hall];simp[hb]⟩,by dsimp only;omega,ba,ER⟩
 ·obtain rfl:i=c.ms.length:=by omega
  have hce:si c=if q_ c then 0 else 2:=by rw[si,qm,hh,hall];simp
  refine jd ?_
  by_cases hd:c.drain=-1
  ·refine VG (VY 64 false Z (by simp[hd]) ?_)
   refine wH ?_
   refine sk ?_
   refine an ?_
   exact CR (ay.tmp 2 Z Z ae.nil.ar ⟨by rw[hce,q_,DT hd];rfl,Z⟩)
  ·refine VG (VY 64 true Z (by simp[hd]) ?_)
   refine wH ?_
   refine VG (VO.sr (u:=.int .i64 (placeOf c.ms c.drain)) Z (fun Fr w hF hs hS=>lg Fr w (hS.aP 0 Z) (h.of hF hs) hl c.drain) Z ?_)
   refine wH ?_
   refine CP Z (fun h5=>?_) (fun h5=>CK ?_)
   ·refine an ?_
    exact CR (ay.tmp 2 Z Z ae.nil.ar ⟨by rw[hce,q_,DF hd,DF yd];rfl,Z⟩)
   ·refine an ?_
    exact CR (ay.tmp 2 Z Z ae.nil.ar ⟨by rw[hce,q_,DT (show 0≤placeOf c.ms c.drain by omega)];simp,Z⟩)
def re(c:dO)(i:Int):Int:=if qm c∧0≤i∧i<c.ms.length then ((c.ms[i.toNat]?).getD (0,0)).1 else -1
theorem lh(h:aK ax 2 Fr w a c.ms)(hl:c.ms.length≤9223372036854775807)(i:Int):aH Tryz.prog 229 [.agg (c.cells a cap).toArray,.int .i64 i] Fr w [] (fun v L=>v=.int .i64 (re c i)∧L=[]):=by
 refine TF 25 Tryz.func229 Z yn ah Z Z ?_
 refine CS (CG (VG (VB (vs:=c.cells a cap) Z fun b=>?_)))
 refine OY ?_
 refine VG (VV (fun Fr w hF hs hS=>bm Fr w (h.of hF hs) hl) Z ?_)
 refine an ?_
 cases hc:qm c with
 | false=>
  refine VG (VY 8 true Z yq ?_)
  refine eR ?_
  refine VG (VY 12 true Z Z ?_)
  refine DA ?_
  exact CR (ay.tmp 4 Z Z ae.nil.ar ⟨by rw[re,if_neg (by rw[hc];simp)],Z⟩)
 | true=>
 refine VG (VY 8 false Z yq ?_)
 refine eR ?_
 by_cases h1:i<0
 ·refine VG (VY 12 true Z (DT h1) ?_)
  refine DA ?_
  exact CR (ay.tmp 4 Z Z ae.nil.ar ⟨by rw[re,if_neg yd],Z⟩)
 refine VG (VY 12 false Z (DF h1) ?_)
 refine eR ?_
 refine CP Z (fun h2=>?_) (fun h2=>CK ?_)
 ·refine an ?_
  exact CR (ay.tmp 4 Z Z ae.nil.ar ⟨by rw[re,if_neg yd],Z⟩)
 ·obtain⟨k,rfl⟩:∃k:Nat,i=k:=⟨i.toNat,by omega⟩
  have hk:k<c.ms.length:=by omega
  obtain⟨m,hm⟩:∃m,c.ms[k]?=some m:=⟨_,GE hk⟩
  obtain⟨mb,mo,hma,ra,rc⟩:=aK.rd (X:=⟨Tryz.prog,tab,ah,25,Fr,w⟩) h hm
  subst hma
  refine an ?_
  refine RV ?_
  refine an ?_
  refine VG (VO.load Z Z (rc _ _ 0 _ Z Z) ?_)
  refine an ?_
  exact CR (ay.tmp 4 Z Z ae.nil.ar ⟨by rw[re,if_pos ⟨hc,by omega,by omega⟩,ZU,hm];rfl,Z⟩)
def sv(c:dO):Int:=re c 0
def qn(c:dO):Int:=re c (c.ms.length-1)
def zJ(c:dO)(n:Int):Int:=if placeOf c.ms n<0 then -1 else re c (placeOf c.ms n+1)
def Io(c:dO)(n:Int):Int:=re c (placeOf c.ms n-1)
def a7(c:dO)(n:Int):Int×Bool:=if qm c∧0≤placeOf c.ms n then (((c.ms[(placeOf c.ms n).toNat]?).getD (0,0)).2,true) else (0,false)
theorem l8(h:aK ax 2 Fr w a c.ms)(hl:c.ms.length≤9223372036854775807):aH Tryz.prog 162 [.agg (c.cells a cap).toArray] Fr w [] (fun v L=>v=.int .i64 (sv c)∧L=[]):=by
 refine TF 5 Tryz.func162 Z yn ah Z Z ?_
 refine CS (CG (VG (VB (vs:=c.cells a cap) Z fun b=>?_)))
 refine OY ?_
 refine VG (VV (fun Fr w hF hs hS=>lh Fr w (h.of hF hs) hl 0) Z ?_)
 refine an ?_
 exact KH
theorem l9(h:aK ax 2 Fr w a c.ms)(hl:c.ms.length≤9223372036854775807):aH Tryz.prog 221 [.agg (c.cells a cap).toArray] Fr w [] (fun v L=>v=.int .i64 (qn c)∧L=[]):=by
 refine TF 9 Tryz.func221 Z yn ah Z Z ?_
 refine CS (CG (VG (VB (vs:=c.cells a cap) Z fun b=>?_)))
 refine OY ?_
 refine an ?_
 refine H7 ?_
 refine VG (VV (fun Fr w hF hs hS=>lh Fr w (h.of hF hs) hl (c.ms.length-1)) Z ?_)
 refine an ?_
 exact KH
theorem gG(h:aK ax 2 Fr w a c.ms)(hl:c.ms.length≤1000000)(n:Int):aH Tryz.prog 240 [.agg (c.cells a cap).toArray,.int .i64 n] Fr w [] (fun v L=>v=.int .i64 (zJ c n)∧L=[]):=by
 have hp:=gv c.ms n
 refine TF 16 Tryz.func240 Z yn ah Z Z ?_
 refine CS (CG (VG (VB (vs:=c.cells a cap) Z fun b=>?_)))
 refine OY ?_
 refine RT ?_
 rintro _ _ ⟨pb,rfl,rfl⟩
 refine an ?_
 refine TR ?_
 refine an ?_
 refine CP Z (fun h1=>?_) (fun h1=>CK ?_)
 ·refine an ?_
  exact CR (ay.tmp 4 Z Z ae.nil.ar ⟨by rw[zJ,if_pos h1],Z⟩)
 ·have hpl:placeOf c.ms n<1000000:=by
   rcases hp with hp | ⟨i,m,h2,h3,_⟩<;>omega
  refine an ?_
  refine Px ?_
  refine OW ?_
  refine VG (VV (fun Fr w hF hs hS=>lh Fr w (h.of hF hs) yd (placeOf c.ms n+1)) Z ?_)
  refine an ?_
  exact CR (ay.tmp 4 Z Z ae.nil.ar ⟨by rw[zJ,if_neg h1],Z⟩)
theorem pn(h:aK ax 2 Fr w a c.ms)(hl:c.ms.length≤1000000)(n:Int):aH Tryz.prog 257 [.agg (c.cells a cap).toArray,.int .i64 n] Fr w [] (fun v L=>v=.int .i64 (Io c n)∧L=[]):=by
 have hp:=gv c.ms n
 have hpl:-1≤placeOf c.ms n∧placeOf c.ms n<1000000:=by
  rcases hp with hp | ⟨i,m,h2,h3,_⟩<;>omega
 refine TF 12 Tryz.func257 Z yn ah Z Z ?_
 refine CS (CG (VG (VB (vs:=c.cells a cap) Z fun b=>VG ?_)))
 refine Bd ?_
 refine CS (CD (.take 0 (.take 1 (.take 3 (.only 2 (.only 4 (.take 5 (.only 6 (.take 7 .nil)))))))) yn yr ?_)
 refine AG (VA.ky 0 (c.cells a cap) Z Z Z Z Z ?_)
 refine AG (VA.ky 0 (c.cells a cap) Z Z Z Z Z ?_)
 refine eW ?_
 refine AG (AO (OC (Lc:=[]) (R:=fun v L=>∃b,v=pT 140 [] [.pointer (some ⟨b,0,none⟩)]∧L=[pt b (c.cells a cap) kP]) Z (.refl _) (fun Fr w hF hs hS=>tu Fr w)) Z ?_ ?_)
 ·rintro _ _ ⟨_,⟨pb,rfl,rfl⟩,rfl⟩
  exact yu
 rintro _ _ ⟨_,⟨pb,rfl,rfl⟩,rfl⟩
 refine AG (VA.sr (u:=.int .i64 (placeOf c.ms n)) Z (fun Fr w hF hs hS=>lg Fr w (hS.aP 0 Z) (h.of hF hs) yd n) Z Z yu ?_)
 refine Rm ?_
 refine AG (AR (fun Fr w hF hs hS=>lh Fr w (h.of hF hs) yd (placeOf c.ms n-1)) Z Z yu ?_)
 refine eW ?_
 exact CR (ay.tmp 4 Z Z ae.nil.ar ⟨rfl,Z⟩)
theorem qp(h:aK ax 2 Fr w a c.ms)(hl:c.ms.length≤1000000)(n:Int):aH Tryz.prog 52 [.agg (c.cells a cap).toArray,.int .i64 n] Fr w [] (fun v L=>v=.tuple #[.int .i64 (a7 c n).1,.bool (a7 c n).2]∧L=[]):=by
 have hp:=gv c.ms n
 refine TF 24 Tryz.func52 Z yn ah Z Z ?_
 refine CS (CG (VG (VB (vs:=c.cells a cap) Z fun b=>?_)))
 refine OY ?_
 refine RT ?_
 rintro _ _ ⟨pb,rfl,rfl⟩
 refine an ?_
 refine TR ?_
 refine an ?_
 refine Px ?_
 refine VG (VV (fun Fr w hF hs hS=>bm Fr w (h.of hF hs) yd) Z ?_)
 refine an ?_
 cases hc:qm c with
 | false=>
  refine VG (VY 14 true Z yq ?_)
  refine DA ?_
  exact CR (ay.cV 4 5 Z Z Z ae.nil.ar ⟨by rw[a7,if_neg (by rw[hc];simp)],Z⟩)
 | true=>
 refine VG (VY 14 false Z yq ?_)
 refine eR ?_
 refine CP Z (fun h1=>?_) (fun h1=>CK ?_)
 ·refine an ?_
  exact CR (ay.cV 4 5 Z Z Z ae.nil.ar ⟨by rw[a7,if_neg yd],Z⟩)
 ·rcases hp with hp | ⟨k,m,h2,h3,h4,h5⟩
  ·omega
  obtain⟨mb,mo,hma,ra,rc⟩:=aK.rd (X:=⟨Tryz.prog,tab,ah,24,Fr,w⟩) h h4
  subst hma
  refine jd ?_
  refine VG (VI (a_ k Z Z Z Z Z h2 h3) ?_)
  refine jd ?_
  refine VG (VO.load Z Z (rc _ _ 1 _ Z Z) ?_)
  refine an ?_
  exact CR (ay.cV 4 5 Z Z Z ae.nil.ar ⟨by rw[a7,if_pos ⟨hc,by omega⟩,h2,ZU,h4];rfl,Z⟩)
end
end Ch
namespace Cl
open Go Vg Api Ch
def wO(k:Int):Bool:=decide (k=2)||decide (k=4)
def O_(o:fe):Bs:=fT o.kind++ox (sB o.key)++(if wO o.kind then ox (sB o.value) else [])++(if o.kind=4 then fT o.version else [])
def Wr(c:dO):Bs:=fT c.al++fT c.ms.length++c.ms.flatMap (fun m=>fT m.1++fT m.2)++fT c.drain
def tv(n:Int):Bool:=decide (0≤n∧n≤1099511627776)
def iX(k:Int):List Nat:=
 if k=1 then [1,2,3,4,5,6] else if k=2 then [2,3,4] else if k=3 then [1,2,3,4,15] else if k=4∨k=12 then [1] else if k=5 then [1,26,27,28]
 else if k=6∨k=9∨k=10∨k=11 then [1,26] else []
def l_(f:aa):Nat→Int
 | 1=>f.al | 2=>f.aj | 3=>f.seq | 4=>f.ct | 5=>f.cls | 6=>f.deadline | 15=>f.reason | 26=>f.index | 27=>f.tr | 28=>f.cL | _=>0
def Gu(f:aa)(o:Nat)(n:Int):aa:=match o with
 | 1=>{ f with al:=n } | 2=>{ f with aj:=n } | 3=>{ f with seq:=n } | 4=>{ f with ct:=n } | 5=>{ f with cls:=n } | 6=>{ f with deadline:=n }
 | 15=>{ f with reason:=n } | 26=>{ f with index:=n } | 27=>{ f with tr:=n } | 28=>{ f with cL:=n } | _=>f
def rf(o:Nat):Bool:=decide (o∈[1,2,3,4,5,6,15,26,27,28])
theorem zK(k:Int):∀o∈iX k,rf o=true:=by
 unfold iX
 repeat' split
 all_goals decide
theorem uJ(k:Int):(iX k).length≤6:=by
 unfold iX
 repeat' split
 all_goals decide
def zM(f:aa)(ms:List bI):Bool:=
 if f.kind=1 then decide (a6 f.op=0)
 else if f.kind=2 then decide (1≤f.res.code)&&decide (f.res.code≤3)&&decide (f.res.value.size≤64)&&(tv f.res.version&&tv f.res.at_)
 else if f.kind=4 then (tv f.entry.index&&(tv f.entry.aj&&tv f.entry.seq))&&decide (a6 f.entry.op=0)
 else if f.kind=8 then decide (si ⟨f.bV,ms,f.drain⟩=0)
 else true
def pL(f:aa)(ms:List bI):Bool:=decide (1≤f.kind∧f.kind≤12)&&((iX f.kind).all (fun o=>tv (l_ f o))&&zM f ms)
def DP(f:aa)(ms:List bI):Bs:=
 if f.kind=1 then O_ f.op
 else if f.kind=2 then fT f.res.code++ox (sB f.res.value)++fT f.res.version++fT f.res.at_
 else if f.kind=4 then fT f.entry.index++fT f.entry.aj++fT f.entry.seq++O_ f.entry.op
 else if f.kind=8 then Wr ⟨f.bV,ms,f.drain⟩
 else []
def Gv(f:aa)(ms:List bI):Bs:=(fT f.kind++(iX f.kind).flatMap (fun o=>fT (l_ f o)))++DP f ms
def Bw(f:aa)(ms:List bI):Option Bs:=if pL f ms=true then (if 512<(Gv f ms).length then none else some (Gv f ms)) else none
def fV:Nat→Bs→Option (List Int×Bs)
 | 0,s=>some ([],s)
 | k+1,s=>match aX s with
  | none=>none
  | some (n,r)=>match fV k r with
   | none=>none
   | some (l,r)=>some (n::l,r)
def Bx(s:Bs):Option fe:=match aX s with
 | none=>none
 | some (k,r)=>match l0 r with
  | none=>none
  | some (key,r)=>match (if wO k then l0 r else some ([],r)) with
   | none=>none
   | some (val,r)=>match (if k=4 then aX r else some (0,r)) with
    | none=>none
    | some (ver,r)=>if r=[]∧a6 ⟨k,bT key,bT val,ver⟩=0 then some ⟨k,bT key,bT val,ver⟩ else none
def lI:List Int→List bI
 | a::b::l=>(a,b)::lI l
 | _=>[]
def iG(s:Bs):Option dO:=match aX s with
 | none=>none
 | some (ep,r)=>match aX r with
  | none=>none
  | some (sz,r)=>if sz<1∨6<sz then none else match fV (2*sz.toNat) r with
   | none=>none
   | some (l,r)=>match aX r with
    | none=>none
    | some (dr,r)=>if r=[]∧si ⟨ep,lI l,dr⟩=0 then some ⟨ep,lI l,dr⟩ else none
def uK(f:aa):List Nat→List Int→aa
 | o::os,n::ns=>uK (Gu f o n) os ns
 | _,_=>f
def rh(f:aa)(s:Bs):Option (aa×List bI):=
 if f.kind=1 then match Bx s with
  | none=>none
  | some o=>some ({ f with op:=o },[])
 else if f.kind=2 then match aX s with
  | none=>none
  | some (code,r)=>match l0 r with
   | none=>none
   | some (val,r)=>match aX r with
    | none=>none
    | some (ver,r)=>match aX r with
     | none=>none
     | some (at_,r)=>if r=[] then some ({ f with res:=⟨code,bT val,ver,at_⟩ },[]) else none
 else if f.kind=4 then match aX s with
  | none=>none
  | some (i,r)=>match aX r with
   | none=>none
   | some (c,r)=>match aX r with
    | none=>none
    | some (q,r)=>match Bx r with
     | none=>none
     | some o=>some ({ f with entry:=⟨i,c,q,o⟩ },[])
 else if f.kind=8 then match iG s with
  | none=>none
  | some c=>some ({ f with bV:=c.al,drain:=c.drain },c.ms)
 else if s=[] then some (f,[]) else none
def getM(s:Bs):Option (aa×List bI):=if 512<s.length then none else match aX s with
 | none=>none
 | some (k,r)=>match fV (iX k).length r with
  | none=>none
  | some (l,r)=>match rh (uK { aa.zero with kind:=k } (iX k) l) r with
   | none=>none
   | some (f,ms)=>if pL f ms=true then some (f,ms) else none
end Cl
namespace Win
open Go Vg T Api
attribute [local irreducible] VO VC VA
structure cF where
 cap:Int
 last:Int
 done:Int
 dq:Int
 gM:Int
def cF.cells(W:cF):List Value:=[.int .i64 W.cap,.int .i64 W.last,.int .i64 W.done,.int .i64 W.dq,.int .i64 W.gM]
abbrev Ws:TypeId:=178
def bQ(p:Nat)(W:cF):HP:=pt p W.cells Ws
structure cF.Ok(W:cF):Prop where
 eV:1≤W.cap
 gV:W.cap≤16
 jS:0≤W.done
 jT:W.done≤W.last
 gW:W.last≤4096
 gg:0≤W.dq
 By:W.dq≤W.last
 DQ:0≤W.gM
 DR:W.gM≤4112
section
variable {p:Nat} {W:cF}
theorem bj(h:eS Fr w p W.cells)(hc:1≤W.cap):aH Tryz.prog 127 [.pointer (some ⟨p,0,none⟩)] Fr w [] (fun v L=>v=.bool false∧L=[]):=by
 refine TF 12 Tryz.func127 Z yn ah Z Z ?_
 refine an ?_
 refine VG (VO.split 5 rfl rfl (fun h=>by cases h) (fun _=>?_))
 refine Fe ?_
 exact CR (ay.bool 2 Z Z ye ER ⟨rfl,Z⟩)
theorem fJ(h:eS Fr w p W.cells)(hc:1≤W.cap):aH Tryz.prog 177 [.pointer (some ⟨p,0,none⟩)] Fr w [] (fun v L=>v=.int .i64 W.last∧L=[]):=by
 refine TF 9 Tryz.func177 Z yn ah Z Z ?_
 refine an ?_
 refine UZ ?_
 refine xu ?_
 refine Fe ?_
 exact Rn
theorem pq(h:eS Fr w p W.cells)(hc:1≤W.cap):aH Tryz.prog 75 [.pointer (some ⟨p,0,none⟩)] Fr w [] (fun v L=>v=.int .i64 W.done∧L=[]):=by
 refine TF 9 Tryz.func75 Z yn ah Z Z ?_
 refine an ?_
 refine UZ ?_
 refine xu ?_
 refine Fe ?_
 exact Rn
theorem mX(h:eS Fr w p W.cells)(ok:W.Ok):aH Tryz.prog 163 [.pointer (some ⟨p,0,none⟩)] Fr w [] (fun v L=>v=.int .i64 (W.done+W.cap)∧L=[]):=by
 have o1:=ok.eV;have o2:=ok.gV;have o3:=ok.jS;have o4:=ok.jT;have o5:=ok.gW
 refine TF 14 Tryz.func163 Z yn ah Z Z ?_
 refine an ?_
 refine VG (VV (fun Fr w hF hs _=>bj Fr w (h.of hF hs) o1) Z ?_)
 refine xu ?_
 refine CS (CD (ts 0 10 .nil) yn yr ?_)
 refine Kn ?_
 refine H8 ?_
 refine eW ?_
 exact Rn
theorem free_spec(h:eS Fr w p W.cells)(ok:W.Ok):aH Tryz.prog 100 [.pointer (some ⟨p,0,none⟩)] Fr w [] (fun v L=>v=.int .i64 (max (min (W.done+W.cap) 4096-W.last) 0)∧L=[]):=by
 have o1:=ok.eV;have o2:=ok.gV;have o3:=ok.jS;have o4:=ok.jT;have o5:=ok.gW
 refine TF 14 Tryz.func100 Z yn ah Z Z ?_
 refine an ?_
 refine VG (VV (fun Fr w hF hs _=>bj Fr w (h.of hF hs) o1) Z ?_)
 refine xu ?_
 refine CS (CD (.take 0 (ts 3 4 (.only 1 (.take 2 (ts 7 3 .nil))))) yn yr ?_)
 refine Kn ?_
 refine AG (AR (fun Fr w hF hs hS=>mX Fr w (h.of hF hs) ok) Z Z (by(try refine Pd.st ?_);(repeat(first|exact Pd.nil|exact Pd.fnil|refine Pd.inner ?_|refine Pd.skip yr ?_|refine zf (aE.aP (aE.aP h Z) Z) ?_|refine zf ((aE.aP h Z)) ?_|refine zc (aE.aP (aE.aP h Z) Z) ?_|refine zc ((aE.aP h Z)) ?_))) ?_)
 refine Kn ?_
 refine AG (VA.zp Z Z Z (by split<;>omega) (by split<;>omega) ?_)
 refine eW ?_
 exact CR (ay.int 2 Z Z (by simp only[Int.min_def,Int.max_def];repeat' split<;>omega) ER ⟨rfl,Z⟩)
def cF.room(W:cF):Bool:=decide (W.last<W.done+W.cap)&&decide (W.last<4096)
theorem jh(ok:W.Ok)(hr:W.room=true):aH Tryz.prog 168 [.pointer (some ⟨p,0,none⟩)] Fr w [bQ p W] (fun v L=>v=.bool true∧L=[bQ p { W with last:=W.last+1 }]):=by
 have o1:=ok.eV;have o2:=ok.gV;have o3:=ok.jS;have o4:=ok.jT;have o5:=ok.gW
 have hr1:W.last<W.done+W.cap∧W.last<4096:=by simpa[cF.room] using hr
 refine TF 13 Tryz.func168 Z yn ah Z Z ?_
 unfold bQ
 refine an ?_
 refine VG (VV (fun Fr w hF hs hS=>free_spec Fr w (hS.aP 0 Z) ok) Z ?_)
 refine an ?_
 refine CC (t:=false) (by simp only[Vg.ev,Vg.look];simp[Int.min_def,Int.max_def];split<;>constructor<;>omega) (fun hh=>by cases hh) (fun _=>CK ?_)
 refine OW ?_
 refine VG (VO.st 0 (cs':=({ W with last:=W.last+1 }:cF).cells) Z Z Z Z (ZT Z) Z Z ?_)
 refine an ?_
 exact Ro
def cF.uc(W:cF)(i:Int):Bool:=decide (W.done<i)&&decide (i≤W.last)
def cF.Dx(W:cF)(i:Int):cF:=if W.uc i then { W with done:=i } else W
theorem ri(ok:W.Ok)(i:Int):aH Tryz.prog 238 [.pointer (some ⟨p,0,none⟩),.int .i64 i] Fr w [bQ p W] (fun v L=>v=.bool (W.uc i)∧L=[bQ p (W.Dx i)]):=by
 have o1:=ok.eV
 refine TF 27 Tryz.func238 Z yn ah Z Z ?_
 unfold bQ
 refine an ?_
 refine TS ?_
 refine an ?_
 refine VG (VY 7 false Z Z ?_)
 refine eR ?_
 by_cases h1:i≤W.done
 ·have hb:W.uc i=false:=by simp[cF.uc];omega
  refine VG (VY 15 true Z (DT h1) ?_)
  refine DA ?_
  exact U0
 ·refine VG (VY 15 false Z (DF h1) ?_)
  refine eR ?_
  refine CP Z (fun h2=>?_) (fun h2=>CK ?_)
  ·have hb:W.uc i=false:=by simp[cF.uc];omega
   refine an ?_
   exact U0
  ·have hb:W.uc i=true:=by simp[cF.uc];omega
   refine an ?_
   refine VG (VO.st 0 (cs':=({ W with done:=i }:cF).cells) Z Z Z Z (ZT Z) Z Z ?_)
   refine an ?_
   exact U0
theorem DS(ok:W.Ok)(g:Int):aH Tryz.prog 258 [.pointer (some ⟨p,0,none⟩),.int .i64 g] Fr w [bQ p W] (fun v L=>v=.tuple #[]∧L=[bQ p { W with gM:=max W.gM (min g 4112) }]):=by
 have o1:=ok.eV
 refine TF 16 Tryz.func258 Z yn ah Z Z ?_
 unfold bQ
 refine an ?_
 refine TS ?_
 refine Kr ?_
 refine VG (VO.st 0 (cs':=({ W with gM:=if W.gM<(if 4112<g then 4112 else g) then (if 4112<g then 4112 else g) else W.gM }:cF).cells) Z Z Z Z (ZT Z) Z Z ?_)
 refine an ?_
 exact ay.void Z ER ⟨rfl,by rw[show max W.gM (min g 4112)=(if W.gM<(if 4112<g then 4112 else g) then (if 4112<g then 4112 else g) else W.gM) by split<;>split<;>omega];rfl⟩
theorem xE(ok:W.Ok)(g:Int):aH Tryz.prog 175 [.pointer (some ⟨p,0,none⟩),.int .i64 g] Fr w [bQ p W] (fun v L=>v=.tuple #[]∧L=[bQ p { W with dq:=min (max g 0) W.last }]):=by
 have o1:=ok.eV
 refine TF 16 Tryz.func175 Z yn ah Z Z ?_
 unfold bQ
 refine an ?_
 refine TS ?_
 refine Kr ?_
 refine VG (VO.st 0 (cs':=({ W with dq:=if W.last<(if g<0 then 0 else g) then W.last else (if g<0 then 0 else g) }:cF).cells) Z Z Z Z (ZT Z) Z Z ?_)
 refine an ?_
 exact ay.void Z ER ⟨rfl,by rw[show min (max g 0) W.last=(if W.last<(if g<0 then 0 else g) then W.last else (if g<0 then 0 else g)) by split<;>split<;>omega];rfl⟩
theorem DU(ok:W.Ok):aH Tryz.prog 256 [.pointer (some ⟨p,0,none⟩)] Fr w [bQ p W] (fun v L=>v=.tuple #[]∧L=[bQ p { W with dq:=W.last,gM:=0 }]):=by
 have o1:=ok.eV
 refine TF 14 Tryz.func256 Z yn ah Z Z ?_
 unfold bQ
 refine an ?_
 refine TS ?_
 refine Kr ?_
 refine VG (VO.st 0 (cs':=({ W with dq:=W.last }:cF).cells) Z Z Z Z (ZT Z) Z Z ?_)
 refine an ?_
 refine VG (VO.st 0 (cs':=({ W with dq:=W.last,gM:=0 }:cF).cells) Z Z Z Z (ZT Z) Z Z ?_)
 refine an ?_
 exact Py
def cF.ez(W:cF):Bool:=decide (W.dq<W.last)&&decide (W.dq<W.gM)
def cF.next(W:cF):cF:=if W.ez then { W with dq:=W.dq+1 } else W
theorem gG(ok:W.Ok):aH Tryz.prog 171 [.pointer (some ⟨p,0,none⟩)] Fr w [bQ p W] (fun v L=>v=.tuple #[.int .i64 (if W.ez then W.dq+1 else 0),.bool W.ez]∧L=[bQ p W.next]):=by
 have o1:=ok.eV;have o2:=ok.gg;have o3:=ok.By;have o4:=ok.gW
 refine TF 39 Tryz.func171 Z yn ah Z Z ?_
 unfold bQ
 refine Du ?_
 refine CS (CS (CD (.take 0 (.only 1 (ts 2 22 .nil))) yn yr ?_))
 refine eW ?_
 refine AG (AR (fun Fr w hF hs hS=>bj Fr w (hS.aP 0 Z) o1) Z Z yu ?_)
 refine eW ?_
 refine AG (AY 6 false Z Z ?_)
 refine lW ?_
 by_cases h1:W.last≤W.dq
 ·have hb:W.ez=false:=by simp[cF.ez];omega
  refine AG (AY 17 true Z (DT h1) ?_)
  refine lW ?_
  refine OX ?_
  exact U1
 ·refine AG (AY 17 false Z (DF h1) ?_)
  refine lW ?_
  refine CP Z (fun h2=>?_) (fun h2=>CK ?_)
  ·have hb:W.ez=false:=by simp[cF.ez];omega
   refine an ?_
   exact U1
  ·have hb:W.ez=true:=by simp[cF.ez];omega
   refine OW ?_
   refine VG (VO.st 0 (cs':=({ W with dq:=W.dq+1 }:cF).cells) Z Z Z Z (ZT Z) Z Z ?_)
   refine an ?_
   exact U1
theorem me(h:eS Fr w p W.cells)(hc:1≤W.cap):aH Tryz.prog 126 [.pointer (some ⟨p,0,none⟩)] Fr w [] (fun v L=>∃q,v=.pointer (some ⟨q,0,none⟩)∧L=[bQ q W]):=by
 refine TF 9 Tryz.func126 Z yn ah Z Z ?_
 refine an ?_
 refine UZ ?_
 refine Kr ?_
 refine VG (VO.load Z Z (aE.lG (ds:=W.cells) h Z) ?_)
 refine VG (VO.alloc Z fun q=>?_)
 refine VG (VT (vs:=W.cells) 0 Z Z Z Z (NR _) Z Z Z ?_)
 exact Wk
end
def cF.new(cap:Int):cF:=⟨cap,0,0,0,0⟩
theorem dJ{c:Int}(h0:1≤c)(h1:c≤16):aH Tryz.prog 49 [.int .i64 c,.int .i64 0,.int .i64 0] Fr w [] (fun v L=>∃q,v=.tuple #[.pointer (some ⟨q,0,none⟩),.int .i64 0]∧L=[bQ q (cF.new c)]):=by
 refine TF 33 Tryz.func49 Z yn ah Z Z ?_
 refine an ?_
 refine VG (VY 10 false Z (DF yd) ?_)
 refine eR ?_
 refine VG (VY 14 false Z (DF yd) ?_)
 refine eR ?_
 refine VG (VY 18 false Z Z ?_)
 refine eR ?_
 refine VG (VY 23 false Z Z ?_)
 refine Ks ?_
 refine an ?_
 refine VG (VI (LB (pv:=[(0,.int .i64 c),(1,.int .i64 0),(2,.int .i64 0),(3,.int .i64 0)]) (cF.new c).cells Z Z Z yn Z) ?_)
 refine VG (VB (vs:=(cF.new c).cells) Z fun q=>?_)
 refine an ?_
 exact CR (ay.cV 6 7 Z Z Z ER ⟨q,Z,Z⟩)
theorem cF.uE{c:Int}(h0:1≤c)(h1:c≤16):(cF.new c).Ok:=⟨h0,h1,Z5 _,Z5 _,(by decide:(0:Int)≤4096),Z5 _,Z5 _,Z5 _,(by decide:(0:Int)≤4112)⟩
end Win
namespace Kv
open Go Vg T Api
attribute [local irreducible] VO VC VA
abbrev Bz:=List (ByteArray×(ByteArray×Int))
def lj(x:ByteArray×Int):Value:=.agg ([.string x.1,.int .i64 x.2]:List Value).toArray
def bn(r:jI):List Value:=[.int .i64 r.code,.string r.value,.int .i64 r.version,.int .i64 r.at_]
def cJ:ByteArray:=⟨#[]⟩
def c_:jI:=⟨0,cJ,0,0⟩
def ui(p:Nat)(S:Bz):HP:=hex fun b:Nat=>cU [pt p [.map (some b)] 249,gO mU lj b S]
theorem Ip{Fr:Nat→Prop}{w:World}{p:Nat}{S:Bz}(h:aM Fr [ui p S] w):∃b,eS Fr w p [.map (some b)]∧ov Fr w mU lj b S:=by
 obtain⟨b,hb⟩:=h.ex
 have hs:=hb.sep
 exact⟨b,hs.aP 0 Z,hs.DM 1 Z⟩
theorem aW.kv(p:Nat)(S:Bz):aW (ι:=Nat) (ui p S) (fun _=>True) (fun b=>[pt p [.map (some b)] 249,gO mU lj b S]):=fun w ids ⟨b,h⟩ hn=>⟨b,trivial,ids,h,hn,fun _ h=>h⟩
theorem ae.kv{L M:List HP}{p b:Nat}{S:Bz}(h:ae L (pt p [.map (some b)] 249::gO mU lj b S::M)):ae L (ui p S::M):=
 ae.ex (f:=fun b:Nat=>cU [pt p [.map (some b)] 249,gO mU lj b S]) b (ae.sep (Ls:=[pt p [.map (some b)] 249,gO mU lj b S]) h)
theorem aM.kv{Fr:Nat→Prop}{L:List HP}{w:World}{p b:Nat}{S:Bz}(h:aM Fr L w)(i j:Nat)(hi:L[i]?=some (pt p [.map (some b)] 249))(hj:L[j]?=some (gO mU lj b S)):aM Fr [ui p S] w:=by
 obtain⟨F,hs,hf⟩:=h
 obtain⟨ids1,s1,m1⟩:=hs.get hi
 obtain⟨ids2,s2,m2⟩:=hs.get hj
 refine⟨ids1++ids2,⟨ids1++ids2,[],by simp,⟨b,ids1,ids2,Z,s1,ids2,[],by simp,s2,Z⟩,Z⟩,fun c hc=>?_⟩
 rcases ZY.1 hc with hc | hc
 ·exact hf c (m1 c hc)
 ·exact hf c (m2 c hc)
theorem Np:iF Tryz.prog 9 mU:=iF.string Tryz.underlying9
def iH(S:Bz)(k:ByteArray)(at_:Int):jI:=match dT S k with
 | none=>⟨2,cJ,0,at_⟩
 | some (v,n)=>⟨1,v,n,at_⟩
def dU(S:Bz)(i:Int)(o:fe):Bz×jI:=
 if i<1∨4096<i∨a6 o≠0 then (S,c_)
 else if o.kind=1 then (S,iH S o.key i)
 else if o.kind=3 then match dT S o.key with
  | none=>(S,⟨2,cJ,0,i⟩)
  | some _=>(iE S o.key,⟨1,cJ,0,i⟩)
 else if o.kind=4∧((dT S o.key).getD (cJ,0)).2≠o.version then (S,⟨3,((dT S o.key).getD (cJ,0)).1,((dT S o.key).getD (cJ,0)).2,i⟩)
 else (eI S o.key (o.value,i),⟨1,cJ,i,i⟩)
theorem kC(o:fe):aH Tryz.prog 189 [.agg o.cells.toArray] Fr w [] (fun v L=>v=.bool (decide (o.kind=1)&&decide (a6 o=0))∧L=[]):=by
 refine TF 11 Tryz.func189 Z yn ah Z Z ?_
 refine CS (CG (VG (VB (vs:=o.cells) Z (fun b=>VG (VN ?_)))))
 refine an ?_
 refine VG (VO.split 6 Z Z (fun h1=>?_) (fun h1=>?_))
 ·have h1:o.kind=1:=eq_of_beq h1
  refine VG (VL 0 o.cells Z Z Z Z ?_)
  refine U2 ?_
  refine an ?_
  exact CR (ay.bool 2 Z Z (by simp[h1];rfl) ae.nil.ar ⟨rfl,Z⟩)
 ·have h1:o.kind≠1:=ne_of_beq_false h1
  refine an ?_
  exact CR (ay.bool 2 Z Z yg ae.nil.ar ⟨rfl,Z⟩)
theorem dJ:aH Tryz.prog 82 [] Fr w [] (fun v L=>∃p,v=.pointer (some ⟨p,0,none⟩)∧L=[ui p []]):=by
 refine TF 4 Tryz.func82 Z yn ah Z Z ?_
 refine an ?_
 refine VG (VO.O8 (a8.makeMap mU lj) ?_)
 rintro _ _ ⟨b,rfl,rfl⟩
 refine an ?_
 refine VG (VI (LB (pv:=[(0,.map (some b))]) [.map (some b)] Z Z Z yn Z) ?_)
 refine VG (VB (vs:=[.map (some b)]) Z fun p=>?_)
 refine an ?_
 exact CR (ay.tmp 0 Z Z (ae.kv ae.refl).ar ⟨p,Z,Z⟩)
theorem bj{p:Nat}{S:Bz}(h:aM Fr [ui p S] w):aH Tryz.prog 262 [.pointer (some ⟨p,0,none⟩)] Fr w [] (fun v L=>v=.bool false∧L=[]):=by
 obtain⟨b,hp,hm⟩:=Ip h
 refine TF 12 Tryz.func262 Z yn ah Z Z ?_
 refine TT ?_
 refine RW ?_
 refine TT ?_
 refine VG (VI (qX Tryz.underlying247 Z Z) ?_)
 refine an ?_
 exact Dz
theorem pr{p:Nat}{S:Bz}(h:aM Fr [ui p S] w)(k:ByteArray)(n:Int):
  aH Tryz.prog 281 [.pointer (some ⟨p,0,none⟩),.string k,.int .i64 n] Fr w [] (fun v L=>v=.agg (bn (iH S k n)).toArray∧L=[]):=by
 obtain⟨b,hp,hm⟩:=Ip h
 refine TF 31 Tryz.func281 Z yn ah Z Z ?_
 refine an ?_
 refine VG (VO.alloc Z fun r=>?_)
 refine an ?_
 refine U3 ?_
 refine xu ?_
 refine TT ?_
 refine VG (VO.wG (a8.lookup Np Tryz.underlying247 Z Z (a:=k) Z (pK.aP hm)) ?_)
 cases hg:dT S k with
 | none=>
  refine an ?_
  refine VG (VO.alloc Z fun q=>?_)
  refine VG (VT (vs:=[.string cJ,.int .i64 0]) 0 Z Z Z Z (NR _) Z Z Z ?_)
  refine Kt ?_
  refine VG (VI (LB (pv:=[(0,.int .i64 2),(3,.int .i64 n)]) (bn ⟨2,cJ,0,n⟩) Z Z Z yn Z) ?_)
  refine VG (VT (vs:=bn ⟨2,cJ,0,n⟩) 1 Z Z Z Z (NR _) Z Z Z ?_)
  refine an ?_
  exact CR (ay.cell 6 Z Z Z (aE.many (ds:=bn ⟨2,cJ,0,n⟩) 1 Z Z) ae.nil.ar ⟨by rw[iH,hg],Z⟩)
 | some x=>
  obtain⟨v,m⟩:=x
  refine an ?_
  refine VG (VO.alloc Z fun q=>?_)
  refine VG (VT (vs:=[.string v,.int .i64 m]) 0 Z Z Z Z (NR _) Z Z Z ?_)
  refine Kr ?_
  refine VG (VI (LB (pv:=[(0,.int .i64 1),(1,.string v),(2,.int .i64 m),(3,.int .i64 n)]) (bn ⟨1,v,m,n⟩) Z Z Z yn Z) ?_)
  refine VG (VT (vs:=bn ⟨1,v,m,n⟩) 1 Z Z Z Z (NR _) Z Z Z ?_)
  refine an ?_
  exact CR (ay.cell 6 Z Z Z (aE.many (ds:=bn ⟨1,v,m,n⟩) 1 Z Z) ae.nil.ar ⟨by rw[iH,hg],Z⟩)
theorem DV(p:Nat)(S:Bz)(i:Int)(o:fe):
  aH Tryz.prog 233 [.pointer (some ⟨p,0,none⟩),.int .i64 i,.agg o.cells.toArray] Fr w [ui p S] (fun v L=>v=.agg (bn (dU S i o).2).toArray∧L=[ui p (dU S i o).1]):=by
 refine TF 96 Tryz.func233 Z yn ah Z Z ?_
 refine an ?_
 refine VG (VB (vs:=o.cells) Z fun ob=>?_)
 refine VG (VO.alloc Z fun r=>?_)
 refine VG (VN (CS ?_))
 refine VC.meet (σ:=Bool) (fun t=>[(0,pV p),(1,.int .i64 i),(5,pV ob),(6,pV r),(23,.bool t)]) (fun _=>[pt r (bn c_) 153,pt ob o.cells 31,ui p S]) (fun t=>t=true↔(i<1∨4096<i∨a6 o≠0)) ?_ ?_
 ·refine CG ?_
  refine an ?_
  refine VG (VV (fun Fr w hF hs hS=>bj Fr w (hS.at_ 2 Z)) Z ?_)
  refine an ?_
  refine VG (VY 11 false Z Z ?_)
  refine an ?_
  refine VG (VO.split 15 Z Z (fun h1=>?_) (fun h1=>?_))
  ·have h1:=of_decide_eq_true h1
   refine an ?_
   refine VG (VY 19 true Z Z ?_)
   refine VG (VN ⟨true,by simp[h1],ba,ER⟩)
  have h1:=of_decide_eq_false h1
  refine an ?_
  refine VG (VO.split 19 Z Z (fun h2=>?_) (fun h2=>?_))
  ·have h2:=of_decide_eq_true h2
   refine an ?_
   exact⟨true,by simp[h2],ba,ER⟩
  have h2:=of_decide_eq_false h2
  refine VG (VL 1 o.cells Z Z Z Z ?_)
  refine U2 ?_
  refine an ?_
  exact⟨_,by simp[h1,h2],SC Z (SC Z (SC Z (SC Z (SC Z (SN _))))),ER⟩
 intro t ht
 refine CC Z (fun h=>?_) (fun h=>CK ?_)
 ·have hb:=ht.1 h
  have e1:dU S i o=(S,c_):=by rw[dU,if_pos hb]
  refine RA ?_
  refine U4 ?_
  refine an ?_
  exact CR (ay.cell 6 Z Z Z (aE.many (ds:=bn c_) 0 Z Z) (IP 2 Z ae.nil).ar ⟨by rw[e1],by rw[e1]⟩)
 have hb:¬(i<1∨4096<i∨a6 o≠0):=fun h'=>by rw[ht.2 h'] at h;cases h
 refine VC.e_ 2 Z (aW.kv p S) ?_
 intro b _
 generalize hx:(dT S o.key).getD (cJ,0)=x
 refine VC.meet (σ:=Nat) (fun q=>[(0,pV p),(1,.int .i64 i),(5,pV ob),(6,pV r),(7,pV q),(8,.bool (dT S o.key).isSome)])
  (fun q=>[pt q [.string x.1,.int .i64 x.2] 361,pt p [.map (some b)] 249,gO mU lj b S,pt r (bn c_) 153,pt ob o.cells 31]) (fun _=>True) ?_ ?_
 ·refine CD (ts 0 10 (.only 10 (.only 11 (.take 12 .nil)))) yn yr ?_
  refine t_ ?_
  refine AG (VA.lookup Np Tryz.underlying247 Z Z Z (a:=o.key) Z (pK.one 1 Z) ?_)
  have hv:((dT S o.key).map lj).getD T.t361.zero=lj x:=by rw[←hx];cases dT S o.key<;>rfl
  rw[hv]
  refine t_ ?_
  refine AG (AO (a8.alloc Z) Z ?_ ?_)
  ·rintro v L' ⟨q,rfl,rfl⟩
   exact yv
  rintro v L' ⟨q,rfl,rfl⟩
  refine AG (AT (vs:=[.string x.1,.int .i64 x.2]) 0 Z Z Z Z Z (NR _) Z Z Z yv ?_)
  refine t_ ?_
  exact⟨q,trivial,ba,ER⟩
 intro q _
 have hres:∀(R:jI) {e:Env} {M:List HP} {S':Bz},Vg.look e 6=some (.pointer (some ⟨r,0,none⟩))→dU S i o=(S',R)→ae M (pt p [.map (some b)] 249::gO mU lj b S' :: [])→M[3]?=some (pt r (bn R) 153) →
   ay ⟨Tryz.prog,tab,ah,96,Fr,w⟩ Tryz.f233 (fun v L=>v=.agg (bn (dU S i o).2).toArray∧L=[ui p (dU S i o).1]) e M:=by
  intro R e M S' h6 hk hi hM
  exact ay.cell 6 Z h6 Z (aE.many (ds:=bn R) 3 hM Z) (ae.kv hi).ar ⟨by rw[hk],by rw[hk]⟩
 refine VC.meet (σ:=Unit) (fun _=>[(0,pV p),(1,.int .i64 i),(5,pV ob),(6,pV r)]) (fun _=>[pt q [.string x.1,.int .i64 x.2] 361,pt p [.map (some b)] 249,gO mU lj b S,pt r (bn c_) 153,pt ob o.cells 31]) (fun _=>o.kind≠1∧o.kind≠3∧¬(o.kind=4∧x.2≠o.version)) (VC.block ?_) ?_
 case refine_2=>
  rintro _ ⟨h1,h2,h3⟩
  refine U5 ?_
  refine Ko ?_
  refine AG (AI Z (LB (pv:=[(0,.string o.value),(1,.int .i64 i)]) [.string o.value,.int .i64 i] Z Z Z yn Z) ?_)
  refine AG (AO (a8.mapUpdate (d:=lj) (u:=(o.value,i)) 2 Np Tryz.underlying247 (a:=o.key) Z Z Z Z) Z ?_ ?_)
  ·rintro v L' ⟨rfl,rfl⟩
   exact yv
  rintro v L' ⟨rfl,rfl⟩
  refine AG (AN ?_)
  refine an ?_
  refine VG (VI (LB (pv:=[(0,.int .i64 1),(2,.int .i64 i),(3,.int .i64 i)]) (bn ⟨1,cJ,i,i⟩) Z Z Z yn Z) ?_)
  refine VG (VT (vs:=bn ⟨1,cJ,i,i⟩) 3 Z Z Z Z (NR _) Z Z Z ?_)
  refine an ?_
  exact CR (hres ⟨1,cJ,i,i⟩ Z (by rw[dU,if_neg hb,if_neg h1,if_neg h2,hx,if_neg h3]) (dF [1,1]) Z)
 refine Dv ?_
 refine CE Z (fun h1=>?_) (fun h1=>?_)
 ·refine Dv ?_
  refine VG (VV (fun Fr w hF hs hS=>pr Fr w (aM.kv hS 1 2 Z Z) o.key i) Z ?_)
  refine VG (VT (vs:=bn (iH S o.key i)) 3 Z Z Z Z (NR _) Z Z Z ?_)
  refine an ?_
  exact CR (hres (iH S o.key i) Z (by rw[dU,if_neg hb,if_pos h1]) (dF [1,1]) Z)
 ·refine Dv ?_
  refine VG (VO.split 48 Z Z (fun h2=>?_) (fun h2=>?_))
  ·have h2:o.kind=3:=eq_of_beq h2
   refine Dv ?_
   cases hg:dT S o.key with
   | none=>
    refine OX ?_
    refine VG (VI (LB (pv:=[(0,.int .i64 2),(3,.int .i64 i)]) (bn ⟨2,cJ,0,i⟩) Z Z Z yn Z) ?_)
    refine VG (VT (vs:=bn ⟨2,cJ,0,i⟩) 3 Z Z Z Z (NR _) Z Z Z ?_)
    refine an ?_
    exact CR (hres ⟨2,cJ,0,i⟩ Z yw (dF [1,1]) Z)
   | some y=>
    refine H5 ?_
    refine Dv ?_
    refine CC Z (fun _=>?_) (fun h=>absurd h2 (ne_of_beq_false h))
    refine TU ?_
    refine Ko ?_
    refine AG (AO (a8.delete 2 Np Tryz.underlying247 (a:=o.key) Z Z Z) Z ?_ ?_)
    ·rintro v L' ⟨rfl,rfl⟩
     exact yv
    rintro v L' ⟨rfl,rfl⟩
    refine AG (AN ?_)
    refine an ?_
    refine VG (VI (LB (pv:=[(0,.int .i64 1),(3,.int .i64 i)]) (bn ⟨1,cJ,0,i⟩) Z Z Z yn Z) ?_)
    refine VG (VT (vs:=bn ⟨1,cJ,0,i⟩) 3 Z Z Z Z (NR _) Z Z Z ?_)
    refine an ?_
    exact CR (hres ⟨1,cJ,0,i⟩ Z yw (dF [1,1]) Z)
  have h2:o.kind≠3:=ne_of_beq_false h2
  refine Dv ?_
  refine H5 ?_
  refine Dv ?_
  refine CC Z (fun h=>absurd (eq_of_beq h) h2) (fun _=>?_)
  refine Dv ?_
  refine VG (VO.split 70 Z Z (fun h3=>?_) (fun h3=>?_))
  ·have h3:o.kind=4:=eq_of_beq h3
   refine Dv ?_
   refine CC Z (fun h4=>?_) (fun h4=>?_)
   ·have h4:x.2≠o.version:=by simpa using h4
    refine Dv ?_
    refine VG (VI (LB (pv:=[(0,.int .i64 3),(1,.string x.1),(2,.int .i64 x.2),(3,.int .i64 i)]) (bn ⟨3,x.1,x.2,i⟩) Z Z Z yn Z) ?_)
    refine VG (VT (vs:=bn ⟨3,x.1,x.2,i⟩) 3 Z Z Z Z (NR _) Z Z Z ?_)
    refine an ?_
    exact CR (hres ⟨3,x.1,x.2,i⟩ Z (by rw[dU,if_neg hb,if_neg h1,if_neg h2,hx,if_pos ⟨h3,h4⟩]) (dF [1,1]) Z)
   ·have h4:x.2=o.version:=by simpa using h4
    exact CK ⟨(),⟨h1,h2,fun h=>h.2 h4⟩,ba,ER⟩
  ·have h3:o.kind≠4:=ne_of_beq_false h3
   refine Dv ?_
   exact VC.jt Z (CK ⟨(),⟨h1,h2,fun h=>h3 h.1⟩,ba,ER⟩)
end Kv
namespace Lg
open Go Vg T Api Kv
attribute [local irreducible] VO VC VA
abbrev iI:TypeId:=163
abbrev ji:TypeId:=153
abbrev BA:TypeId:=176
def cM(e:aY):List Value:=[.int .i64 e.index,.int .i64 e.aj,.int .i64 e.seq,.int .i64 e.op.kind,.string e.op.key,.string e.op.value,.int .i64 e.op.version]
theorem BB(e:aY):(cM e).length=7:=rfl
theorem Iq(e:aY):(cM e).all Value.oneCell'=true:=rfl
theorem BC(r:jI):(bn r).length=4:=rfl
theorem Ir(r:jI):(bn r).all Value.oneCell'=true:=rfl
def lJ:aY:=⟨0,0,0,Gr⟩
def rj(x:Bz×List jI)(e:aY):Bz×List jI:=((dU x.1 e.index e.op).1,x.2 ++ [(dU x.1 e.index e.op).2])
def aO(es:List aY):Bz×List jI:=es.foldl rj ([],[])
theorem oy(es:List aY)(e:aY):aO (es ++ [e])=rj (aO es) e:=by simp[aO]
theorem qq(es:List aY):(aO es).2.length=es.length:=by
 have:∀(es:List aY) (x:Bz×List jI),(es.foldl rj x).2.length=x.2.length+es.length:=by
  intro es
  induction es with
  | nil=>intro x;rfl
  | cons e es ih=>intro x;rw[List.foldl_cons,ih];simp[rj];omega
 have h:=this es ([],[])
 simpa[aO] using h
def mf(c:Int)(p:Int×Int)(e:aY):Int×Int:=if e.aj=c then (e.seq,e.index) else p
def dd(es:List aY)(c:Int):Int×Int:=es.foldl (mf c) (0,0)
theorem BD(es:List aY)(e:aY)(c:Int):dd (es ++ [e]) c=if e.aj=c then (e.seq,e.index) else dd es c:=by simp[dd,mf]
def gw(es:List aY):List Value:=(List.range 6).flatMap fun c=>[.int .i64 (dd es (c:Nat)).1,.int .i64 (dd es (c:Nat)).2]
theorem xF{es:List aY}{c:Nat}(h:c<6):(gw es)[c*2]?=some (.int .i64 (dd es (c:Nat)).1)∧(gw es)[c*2+1]?=some (.int .i64 (dd es (c:Nat)).2):=by
 match c,h with
 | 0,_=>exact⟨rfl,rfl⟩
 | 1,_=>exact⟨rfl,rfl⟩
 | 2,_=>exact⟨rfl,rfl⟩
 | 3,_=>exact⟨rfl,rfl⟩
 | 4,_=>exact⟨rfl,rfl⟩
 | 5,_=>exact⟨rfl,rfl⟩
 | c+6,h=>omega
structure Is where
 sp:Nat
 a1:Option Addr
 c1:Nat
 a2:Option Addr
 c2:Nat
def il(es:List aY)(x:Is):List Value:=.pointer (some ⟨x.sp,0,none⟩) :: .slice x.a1 es.length x.c1 :: .slice x.a2 (aO es).2.length x.c2::gw es
def BE(p:Nat)(es:List aY)(x:Is):List HP:=[pt p (il es x) BA,ui x.sp (aO es).1,aI iI 7 x.a1 es.length x.c1 (flat cM es),aI ji 4 x.a2 (aO es).2.length x.c2 (flat bn (aO es).2)]
def cd(p:Nat)(es:List aY):HP:=hex fun x=>cU (BE p es x)
structure tw(Fr:Nat→Prop)(w:World)(p:Nat)(es:List aY)(x:Is):Prop where
 aP:eS Fr w p (il es x)
 kv:aM Fr [ui x.sp (aO es).1] w
 SB:aK cM 7 Fr w x.a1 es
 SD:aK bn 4 Fr w x.a2 (aO es).2
theorem tw.of{Fr:Nat→Prop}{w:World}{p:Nat}{es:List aY}(h:aM Fr [cd p es] w):∃x,tw Fr w p es x:=by
 obtain⟨x,h⟩:=h.ex
 have h:=h.sep
 exact⟨x,h.aP 0 Z,h.at_ 1 Z,aK.aI BB (h.at_ 2 Z),aK.aI BC (h.at_ 3 Z)⟩
theorem aW.log(p:Nat)(es:List aY):aW (ι:=Is) (cd p es) (fun _=>True) (fun x=>BE p es x):=fun w ids ⟨x,h⟩ hn=>⟨x,trivial,ids,h,hn,fun _ h=>h⟩
theorem ae.log{p:Nat}{es:List aY}{L M:List HP}(x:Is)(h:ae L (BE p es x++M)):ae L (cd p es::M):=
 ae.ex (f:=fun x=>cU (BE p es x)) x (ae.sep (Ls:=BE p es x) h)
theorem dJ:aH Tryz.prog 48 [] Fr w [] (fun v L=>∃p,v=.pointer (some ⟨p,0,none⟩)∧L=[cd p []]):=by
 refine TF 4 Tryz.func48 Z yn ah Z Z ?_
 refine an ?_
 refine VG (VK (Lc:=[]) (fun Fr w hF hw _=>Kv.dJ Fr w) Z Z ?_)
 rintro _ _ ⟨q,rfl,rfl⟩
 refine VG (VI (LB (pv:=[(0,pV q)]) (il [] ⟨q,none,0,none,0⟩) Z Z Z yn Z) ?_)
 refine VG (VB (vs:=il [] ⟨q,none,0,none,0⟩) Z fun p=>?_)
 refine an ?_
 exact CR (ay.tmp 0 Z Z (ae.log ⟨q,none,0,none,0⟩ (IP 0 Z (IP 0 Z (ae.bZ (ae.bZ ae.nil))))).ar ⟨p,Z,Z⟩)
section
variable {p:Nat} {es:List aY}
theorem bj{q:Nat}{cs:List Value}(h:eS Fr w p (.pointer (some ⟨q,0,none⟩)::cs)):aH Tryz.prog 164 [.pointer (some ⟨p,0,none⟩)] Fr w [] (fun v L=>v=.bool false∧L=[]):=by
 refine TF 12 Tryz.func164 Z yn ah Z Z ?_
 refine an ?_
 refine VG (VO.split 5 rfl rfl (fun h=>by cases h) (fun _=>?_))
 refine Fe ?_
 exact Ro
theorem fh(h:aM Fr [cd p es] w):aH Tryz.prog 101 [.pointer (some ⟨p,0,none⟩)] Fr w [] (fun v L=>v=.int .i64 es.length∧L=[]):=by
 obtain⟨x,hx⟩:=tw.of h
 have hb:=hx.aP
 unfold il at hb
 refine TF 10 Tryz.func101 Z yn ah Z Z ?_
 refine an ?_
 refine VG (VV (fun Fr w hF hs _=>bj Fr w (hb.of hF hs)) Z ?_)
 refine xu ?_
 refine Dt ?_
 exact Rn
def pM{α:Type}(l:List α)(i:Int):Option α:=if 1≤i then l[(i-1).toNat]? else none
theorem rk{α:Type}{l:List α}{i:Int}(h:i<1∨(l.length:Int)<i):pM l i=none:=by
 unfold pM
 split
 ·exact List.getElem?_eq_none yd
 ·rfl
theorem rm{α:Type}{l:List α}{i:Int}(h0:1≤i)(h1:i≤l.length):∃(k:Nat) (x:α),i=k+1∧k<l.length∧l[k]?=some x∧pM l i=some x:=by
 refine⟨(i-1).toNat,_,by omega,by omega,GE yd,?_⟩
 rw[pM,if_pos h0,GE yd]
theorem rn(h:aM Fr [cd p es] w)(i:Int)(hi0:-9223372036854775808<i)(hi1:i≤9223372036854775807):aH Tryz.prog 77 [.pointer (some ⟨p,0,none⟩),.int .i64 i] Fr w []
  (fun v L=>v=.tuple #[.agg (cM ((pM es i).getD lJ)).toArray,.bool (pM es i).isSome]∧L=[]):=by
 obtain⟨x,hx⟩:=tw.of h
 have hb:=hx.aP
 unfold il at hb
 refine TF 23 Tryz.func77 Z yn ah Z Z ?_
 refine CS (CG (VG (VO.alloc Z fun rb=>?_)))
 refine an ?_
 by_cases h0:i<1
 ·refine VG (VY 8 true Z (DT h0) ?_)
  refine DA ?_
  refine VG (VI (LB (pv:=[]) (cM lJ) Z Z Z yn Z) ?_)
  refine VG (VT (vs:=cM lJ) 0 Z Z Z Z (NR _) Z Z Z ?_)
  refine an ?_
  exact CR (ay.aT 4 5 Z Z Z (aE.many (ds:=cM lJ) 0 Z Z) Z ae.nil.ar ⟨by rw[rk (.inl h0)];rfl,Z⟩)
 ·refine VG (VY 8 false Z (DF h0) ?_)
  refine eR ?_
  refine VG (VV (fun Fr w hF hs hS=>fh Fr w (h.of hF hs)) Z ?_)
  refine eR ?_
  refine CP Z (fun h1=>?_) (fun h1=>CK ?_)
  ·refine an ?_
   refine VG (VI (LB (pv:=[]) (cM lJ) Z Z Z yn Z) ?_)
   refine VG (VT (vs:=cM lJ) 0 Z Z Z Z (NR _) Z Z Z ?_)
   refine an ?_
   exact CR (ay.aT 4 5 Z Z Z (aE.many (ds:=cM lJ) 0 Z Z) Z ae.nil.ar ⟨by rw[rk (.inr h1)];rfl,Z⟩)
  ·obtain⟨k,e,rfl,hk,he,hat⟩:=rm (l:=es) (i:=i) yd yd
   obtain⟨eb,eo,hea,ra,rc⟩:=aK.rd (X:=⟨Tryz.prog,tab,ah,23,Fr,w⟩) hx.SB he
   rw[hea] at hb
   refine Dt ?_
   refine H7 ?_
   refine VG (VI (a_ k Z Z Z Z Z yd hk) ?_)
   refine H6 ?_
   refine VG (VT (vs:=cM e) 0 Z Z Z Z (NR _) Z Z Z ?_)
   refine an ?_
   exact CR (ay.aT 4 5 Z Z Z (aE.many (ds:=cM e) 0 Z Z) Z ae.nil.ar ⟨by rw[hat];rfl,Z⟩)
theorem tz(h:aM Fr [cd p es] w)(i:Int)(hi0:-9223372036854775808<i)(hi1:i≤9223372036854775807):aH Tryz.prog 239 [.pointer (some ⟨p,0,none⟩),.int .i64 i] Fr w []
  (fun v L=>v=.tuple #[.agg (bn ((pM (aO es).2 i).getD c_)).toArray,.bool (pM (aO es).2 i).isSome]∧L=[]):=by
 obtain⟨x,hx⟩:=tw.of h
 have hb:=hx.aP
 unfold il at hb
 have hrl:=qq es
 refine TF 23 Tryz.func239 Z yn ah Z Z ?_
 refine CS (CG (VG (VO.alloc Z fun rb=>?_)))
 refine an ?_
 by_cases h0:i<1
 ·refine VG (VY 8 true Z (DT h0) ?_)
  refine DA ?_
  refine XH ?_
  refine U4 ?_
  refine an ?_
  exact CR (ay.aT 4 5 Z Z Z (aE.many (ds:=bn c_) 0 Z Z) Z ae.nil.ar ⟨by rw[rk (.inl h0)];rfl,Z⟩)
 ·refine VG (VY 8 false Z (DF h0) ?_)
  refine eR ?_
  refine VG (VV (fun Fr w hF hs hS=>fh Fr w (h.of hF hs)) Z ?_)
  refine eR ?_
  refine CP Z (fun h1=>?_) (fun h1=>CK ?_)
  ·refine RA ?_
   refine U4 ?_
   refine an ?_
   exact CR (ay.aT 4 5 Z Z Z (aE.many (ds:=bn c_) 0 Z Z) Z ae.nil.ar ⟨by rw[rk (.inr (by rw[hrl];exact h1))];rfl,Z⟩)
  ·obtain⟨k,e,rfl,hk,he,hat⟩:=rm (l:=(aO es).2) (i:=i) yd yd
   obtain⟨eb,eo,hea,ra,rc⟩:=aK.rd (X:=⟨Tryz.prog,tab,ah,23,Fr,w⟩) hx.SD he
   rw[hea] at hb
   refine Dt ?_
   refine H7 ?_
   refine VG (VI (a_ k Z Z Z Z Z yd hk) ?_)
   refine H6 ?_
   refine VG (VT (vs:=bn e) 0 Z Z Z Z (NR _) Z Z Z ?_)
   refine an ?_
   exact CR (ay.aT 4 5 Z Z Z (aE.many (ds:=bn e) 0 Z Z) Z ae.nil.ar ⟨by rw[hat];rfl,Z⟩)
def fK(es:List aY)(c:Int):Int×Int:=if 0≤c∧c<6 then dd es c else (0,0)
theorem fJ(h:aM Fr [cd p es] w)(c:Int):aH Tryz.prog 290 [.pointer (some ⟨p,0,none⟩),.int .i64 c] Fr w []
  (fun v L=>v=.tuple #[.int .i64 (fK es c).1,.int .i64 (fK es c).2]∧L=[]):=by
 obtain⟨x,hx⟩:=tw.of h
 have hb:=hx.aP
 unfold il at hb
 refine TF 30 Tryz.func290 Z yn ah Z Z ?_
 refine an ?_
 refine U6 ?_
 refine an ?_
 refine VG (VY 8 false Z Z ?_)
 refine eR ?_
 by_cases h0:c<0
 ·refine VG (VY 12 true Z (DT h0) ?_)
  refine DA ?_
  exact CR (ay.cV 4 5 Z Z Z ER ⟨by rw[fK,if_neg yd],Z⟩)
 ·refine VG (VY 12 false Z (DF h0) ?_)
  refine eR ?_
  refine CP Z (fun h1=>?_) (fun h1=>CK ?_)
  ·refine an ?_
   exact CR (ay.cV 4 5 Z Z Z ER ⟨by rw[fK,if_neg yd],Z⟩)
  ·obtain⟨k,rfl⟩:∃k:Nat,c=k:=⟨c.toNat,by omega⟩
   obtain⟨l1,l2⟩:=xF (es:=es) (c:=k) yd
   have q1:(il es x)[0+3+k*2+0]?=some (.int .i64 (dd es (k:Nat)).1):=by rw[show 0+3+k*2+0=k*2+3 by omega];exact l1
   have q2:(il es x)[0+3+k*2+1]?=some (.int .i64 (dd es (k:Nat)).2):=by rw[show 0+3+k*2+1=k*2+1+3 by omega];exact l2
   refine CS (CD (ts 0 16 .nil) yn yr ?_)
   refine eW ?_
   refine AG (AI Z (bG k Z Z Z Z Z Z yd) ?_)
   refine eW ?_
   refine AG (VA.load Z Z Z (aE.aP hx.aP q1) ?_)
   refine eW ?_
   refine AG (AI Z (bG k Z Z Z Z Z Z yd) ?_)
   refine eW ?_
   refine AG (VA.load Z Z Z (aE.aP hx.aP q2) ?_)
   refine eW ?_
   exact CR (ay.cV 4 5 Z Z Z ER ⟨by rw[fK,if_pos yd],Z⟩)
theorem pr(h:aM Fr [cd p es] w)(k:ByteArray):aH Tryz.prog 252 [.pointer (some ⟨p,0,none⟩),.string k] Fr w []
  (fun v L=>v=.agg (bn (iH (aO es).1 k es.length)).toArray∧L=[]):=by
 obtain⟨x,hx⟩:=tw.of h
 have hb:=hx.aP
 unfold il at hb
 refine TF 19 Tryz.func252 Z yn ah Z Z ?_
 refine CS (CG (VG (VO.alloc Z fun rb=>?_)))
 refine an ?_
 refine U6 ?_
 refine xu ?_
 refine CS (CD (ts 0 10 (.only 10 (.only 11 .nil))) yn yr ?_)
 refine RX ?_
 refine AG (AR (fun Fr w hF hs hS=>Kv.pr Fr w (hx.kv.of hF hs) k es.length) Z Z yx ?_)
 refine AG (AT (vs:=bn (iH (aO es).1 k es.length)) 0 Z Z Z Z Z (NR _) Z Z Z (by(try refine Pd.st ?_);(repeat(first|exact Pd.nil|exact Pd.fnil|refine Pd.inner ?_|refine Pd.skip yr ?_|refine zf (zo 0 Z Z) ?_|refine zf (zm 0 Z Z) ?_|refine zf (aE.aP (aE.aP hb Z) Z) ?_|refine zf ((aE.aP hb Z)) ?_|refine zc (zo 0 Z Z) ?_|refine zc (zm 0 Z Z) ?_|refine zc (aE.aP (aE.aP hb Z) Z) ?_|refine zc ((aE.aP hb Z)) ?_))) ?_)
 refine eW ?_
 exact CR (ay.cell 4 Z Z Z (aE.many (ds:=bn (iH (aO es).1 k es.length)) 0 Z Z) ae.nil.ar ⟨rfl,Z⟩)
end
end Lg
namespace Lg
open Go Vg T Api Kv
attribute [local irreducible] VO VC VA
def mY(o:fe):Bool:=decide (o.kind=1)&&decide (a6 o=0)
def rq(e:aY):Bool:=decide (e.aj<0)||decide (6≤e.aj)||decide (e.seq<1)||(decide (a6 e.op≠0)||mY e.op)
def ed(es:List aY)(e:aY):Int:=
 if rq e then 2 else if (4096:Int)≤es.length then 60 else if e.index≠es.length+1 then 70 else if e.seq≤(dd es e.aj).1 then 71 else 0
def fX(es:List aY)(e:aY):List aY:=if ed es e=0 then es ++ [e] else es
def iJ(es:List aY)(e:aY):jI:=if ed es e=0 then (dU (aO es).1 e.index e.op).2 else c_
theorem Gw{es:List aY}{e:aY}{c:Nat}(h:c<6)(hc:e.aj=c)(x y z:Value):
  ki (x::y::z::gw es) (0+3+c*2) [.int .i64 e.seq,.int .i64 e.index]=x::y::z::gw (es ++ [e]):=by
 unfold gw
 simp only[BD,hc]
 match c,h with
 | 0,_=>rfl
 | 1,_=>rfl
 | 2,_=>rfl
 | 3,_=>rfl
 | 4,_=>rfl
 | 5,_=>rfl
 | c+6,h=>omega
theorem lu(p:Nat)(es:List aY)(e:aY):aH Tryz.prog 166 [.pointer (some ⟨p,0,none⟩),.agg (cM e).toArray] Fr w [cd p es]
  (fun v L=>v=.tuple #[.agg (bn (iJ es e)).toArray,.int .i64 (ed es e)]∧L=[cd p (fX es e)]):=by
 refine TF 107 Tryz.func166 Z yn ah Z Z ?_
 refine CS (CG (VG (VB (vs:=cM e) Z fun eb=>VG (VO.alloc Z fun rb=>?_))))
 refine VG (VN (CS (VC.block ?_)))
 refine VC.e_ 2 Z (aW.log p es) ?_
 rintro x -
 have hrl:=qq es
 unfold BE
 show VC _ _ _ [pt p (il es x) BA,ui x.sp (aO es).1,aI iI 7 x.a1 es.length x.c1 (flat cM es),aI ji 4 x.a2 (aO es).2.length x.c2 (flat bn (aO es).2),pt rb (bn c_) ji,pt eb (cM e) iI] _
 have back:∀{X:Cx},jq X [pt p (il es x) BA,ui x.sp (aO es).1,aI iI 7 x.a1 es.length x.c1 (flat cM es),aI ji 4 x.a2 (aO es).2.length x.c2 (flat bn (aO es).2),pt rb (bn c_) ji,pt eb (cM e) iI] [cd p es]:=
  (ae.log x (dF [0,0,0,0])).ar
 refine an ?_
 refine VG (VV (fun Fr w hF hs hS=>bj Fr w (hS.aP 0 Z)) Z ?_)
 refine an ?_
 refine H5 ?_
 refine CS ?_
 refine VC.cq (σ:=Unit) (fun _=>[(0,pV p),(3,pV eb),(4,pV rb),(10,.bool (rq e))]) (fun _=>[pt p (il es x) BA,ui x.sp (aO es).1,aI iI 7 x.a1 es.length x.c1 (flat cM es),aI ji 4 x.a2 (aO es).2.length x.c2 (flat bn (aO es).2),pt rb (bn c_) ji,pt eb (cM e) iI]) (fun _=>True) ?_ ?_
 ·refine TV ?_
  by_cases h1:e.aj<0
  ·have hb:rq e=true:=by simp[rq,h1]
   refine VG (VY 14 true Z (DT h1) ?_)
   refine OS ?_
   refine VG (VY 19 true Z Z ?_)
   refine OS ?_
   refine U7 ?_
   exact⟨(),trivial,by rw[hb];exact ba,ER⟩
  refine VG (VY 14 false Z (DF h1) ?_)
  refine OS ?_
  by_cases h2:6≤e.aj
  ·have hb:rq e=true:=by simp[rq,h2]
   refine VG (VY 19 true Z (DT h2) ?_)
   refine OS ?_
   refine U7 ?_
   exact⟨(),trivial,by rw[hb];exact ba,ER⟩
  refine VG (VY 19 false Z (DF h2) ?_)
  refine OS ?_
  refine CP Z (fun h3=>CK ?_) (fun h3=>?_)
  ·have hb:rq e=true:=by simp[rq,h3]
   exact⟨(),trivial,SC Z (SC Z (SC Z (Sub.bl Z (by simp[hb,h3]) (SN _)))),ER⟩
  ·have hb:rq e=(decide (a6 e.op≠0)||mY e.op):=by simp[rq,h1,h2,h3]
   refine TV ?_
   refine VG (VL 5 e.op.cells Z Z Z Z ?_)
   refine VG (VO.ik (fun Fr w=>bm Fr w e.op) Z ?_)
   refine TV ?_
   by_cases h4:a6 e.op=0
   ·refine VG (VY 28 false Z (by simp[h4]) ?_)
    refine OS ?_
    refine VG (VL 5 e.op.cells Z Z Z Z ?_)
    refine VG (VO.ik (fun Fr w=>Kv.kC Fr w e.op) Z ?_)
    refine OS ?_
    exact⟨(),trivial,SC Z (SC Z (SC Z (Sub.bl Z (by rw[hb];simp[mY,h4]) (SN _)))),ER⟩
   ·refine VG (VY 28 true Z (by simp[h4]) ?_)
    refine OS ?_
    exact⟨(),trivial,SC Z (SC Z (SC Z (Sub.bl Z (by rw[hb,DT (show a6 e.op≠0 from h4)];rfl) (SN _)))),ER⟩
 rintro _ -
 have fin:∀{X:Cx} {fn:Func} {E:Env} (z:Int),fn.results=#[.cell 4 ji,.tmp 5]→ed es e=z→z≠0→aL X.tab ji=some T.t153→Vg.look E 4=some (.pointer (some ⟨rb,0,none⟩))→Vg.look E 5=some (.int .i64 z) →
   ay X fn (fun v L=>v=.tuple #[.agg (bn (iJ es e)).toArray,.int .i64 (ed es e)]∧L=[cd p (fX es e)]) E [pt p (il es x) BA,ui x.sp (aO es).1,aI iI 7 x.a1 es.length x.c1 (flat cM es),aI ji 4 x.a2 (aO es).2.length x.c2 (flat bn (aO es).2),pt rb (bn c_) ji,pt eb (cM e) iI]:=fun z hr hz hne hT h4 h5=>
  ay.aT 4 5 hr h4 hT (aE.many (ds:=bn c_) 4 rfl rfl) h5 back ⟨by rw[iJ,if_neg (by rw[hz];exact hne),hz],by rw[fX,if_neg (by rw[hz];exact hne)]⟩
 refine CC Z (fun hb=>?_) (fun hb=>?_)
 ·refine RA ?_
  refine TW ?_
  refine an ?_
  exact CR (fin 2 Z (by rw[ed,if_pos hb]) yp Z Z Z)
 refine an ?_
 refine CP Z (fun h5=>?_) (fun h5=>?_)
 ·refine RA ?_
  refine TW ?_
  refine an ?_
  exact CR (fin 60 Z (by rw[ed,hb,if_neg yf,if_pos h5]) yp Z Z Z)
 refine CS (CD (ts 0 10 .nil) yn yr ?_)
 refine Bh ?_
 refine H8 ?_
 refine Bh ?_
 refine VC.bo Z (fun h6=>?_) (fun h6=>?_)
 ·refine RA ?_
  refine TW ?_
  refine an ?_
  exact CR (fin 70 Z (by rw[ed,hb,if_neg yf,if_neg h5,if_pos h6]) yp Z Z Z)
 have hcl:∃c:Nat,c<6∧e.aj=c:=by
  have:¬e.aj<0∧¬6≤e.aj:=by simp[rq] at hb;omega
  exact⟨e.aj.toNat,by omega,by omega⟩
 obtain⟨c,hc6,hcc⟩:=hcl
 obtain⟨l1,l2⟩:=xF (es:=es) (c:=c) hc6
 have q1:(il es x)[0+3+c*2+0]?=some (.int .i64 (dd es e.aj).1):=by rw[show 0+3+c*2+0=c*2+3 by omega,hcc];exact l1
 refine CS (CD (ts 0 12 .nil) yn yr ?_)
 refine Bh ?_
 refine AG (AI Z (bG c Z Z Z Z Z hcc hc6) ?_)
 refine Bh ?_
 refine AG (VA.load Z Z Z (aE.one 0 Z q1) ?_)
 refine Bh ?_
 refine CP Z (fun h7=>?_) (fun h7=>CK ?_)
 ·refine RA ?_
  refine TW ?_
  refine an ?_
  exact CR (fin 71 Z (by rw[ed,hb,if_neg yf,if_neg h5,if_neg yd,if_pos h7]) yp Z Z Z)
 have hz:ed es e=0:=by rw[ed,hb,if_neg yf,if_neg h5,if_neg yd,if_neg h7]
 have hll:(aO (es ++ [e])).2.length=(aO es).2.length+1:=by rw[oy];simp[rj]
 have hrr:iJ es e=(dU (aO es).1 e.index e.op).2:=by rw[iJ,if_pos hz]
 have happ:fX es e=es ++ [e]:=by rw[fX,if_pos hz]
 have hst1:(aO (es ++ [e])).1=(dU (aO es).1 e.index e.op).1:=by rw[oy];rfl
 have hst2:(aO (es ++ [e])).2=(aO es).2 ++ [(dU (aO es).1 e.index e.op).2]:=by rw[oy];rfl
 refine CS (CD (ts 0 8 (.only 8 (.only 9 .nil))) yn yr ?_)
 refine Bh ?_
 refine AG (VA.ky 5 e.op.cells Z Z Z Z Z ?_)
 refine AG (AQ 1 Z (fun Fr w hF hs hS=>Kv.DV Fr w x.sp (aO es).1 e.index e.op) Z Z (ψ:=fun v H=>v=.agg (bn (dU (aO es).1 e.index e.op).2).toArray∧H=ui x.sp (dU (aO es).1 e.index e.op).1) yy ?_ ?_)
 ·rintro _ _ ⟨rfl,rfl⟩
  exact yu
 rintro _ _ ⟨rfl,rfl⟩
 generalize (dU (aO es).1 e.index e.op).2=rr at hrr hst2 ⊢
 generalize (dU (aO es).1 e.index e.op).1=S' at hst1 ⊢
 refine AG (AT (vs:=bn rr) 4 Z Z Z Z Z (NR _) Z Z Z yu ?_)
 refine Bh ?_
 refine XI ?_
 refine Bh ?_
 refine AG (VA.ky 5 (cM e) Z Z Z Z Z ?_)
 refine AG (AO (a8.buildSlice (n:=1) (pv:=[(0,.agg (cM e).toArray)]) (cells:=cM e) Z Z Z Z yp (bJ Z Z Z)) Z ?_ ?_)
 ·rintro _ _ ⟨nb,rfl,rfl⟩
  exact yu
 rintro _ _ ⟨nb,rfl,rfl⟩
 refine AG (AO (a8.append (m:=1) (news:=cM e) 3 Z Z Z Z Z Z Z (dt.pt 0 Z Z Z) Z (by show(es.length+1)*72≤_;omega) yd) Z ?_ ?_)
 ·rintro _ _ ⟨a1,c1,rfl,hc1,rfl⟩
  exact yu
 rintro _ _ ⟨a1,c1,rfl,hc1,rfl⟩
 refine Bh ?_
 refine AG (VA.st 2 (cs':=.pointer (some ⟨x.sp,0,none⟩) :: .slice a1 (es.length+1) c1 :: .slice x.a2 (aO es).2.length x.c2::gw es) Z Z Z Z Z (ZT Z) Z Z yu ?_)
 refine Bh ?_
 refine CN (L':=[pt p (.pointer (some ⟨x.sp,0,none⟩) :: .slice a1 (es.length+1) c1 :: .slice x.a2 (aO es).2.length x.c2::gw es) BA,ui x.sp S',aI iI 7 a1 (es.length+1) c1 (flat cM es++cM e),aI ji 4 x.a2 (aO es).2.length x.c2 (flat bn (aO es).2),pt rb (bn rr) ji,pt eb (cM e) iI]) (dF [2,2,0,1,1,1]).ar ?_
 refine XI ?_
 refine Bh ?_
 refine AG (VA.ky 4 (bn rr) Z Z Z Z Z ?_)
 refine AG (AO (a8.buildSlice (n:=1) (pv:=[(0,.agg (bn rr).toArray)]) (cells:=bn rr) Z Z Z Z yp (bJ Z Z Z)) Z ?_ ?_)
 ·rintro _ _ ⟨nb,rfl,rfl⟩
  exact yu
 rintro _ _ ⟨nb,rfl,rfl⟩
 refine AG (AO (a8.append (m:=1) (news:=bn rr) 4 Z Z Z Z Z Z Z (dt.pt 0 Z Z Z) Z (by show((aO es).2.length+1)*40≤_;omega) yd) Z ?_ ?_)
 ·rintro _ _ ⟨a2,c2,rfl,hc2,rfl⟩
  exact yu
 rintro _ _ ⟨a2,c2,rfl,hc2,rfl⟩
 refine Bh ?_
 refine AG (VA.st 2 (cs':=.pointer (some ⟨x.sp,0,none⟩) :: .slice a1 (es.length+1) c1 :: .slice a2 ((aO es).2.length+1) c2::gw es) Z Z Z Z Z (ZT Z) Z Z yu ?_)
 refine Bh ?_
 refine CN (L':=[pt p (.pointer (some ⟨x.sp,0,none⟩) :: .slice a1 (es.length+1) c1 :: .slice a2 ((aO es).2.length+1) c2::gw es) BA,ui x.sp S',aI iI 7 a1 (es.length+1) c1 (flat cM es++cM e),aI ji 4 a2 ((aO es).2.length+1) c2 (flat bn (aO es).2++bn rr),pt rb (bn rr) ji,pt eb (cM e) iI]) (dF [2,2,2,0,1,1]).ar ?_
 refine CS (CD (ts 0 11 (.only 11 .nil)) yn yr ?_)
 refine Bh ?_
 refine AG (AI Z (LB (pv:=[(0,.int .i64 e.seq),(1,.int .i64 e.index)]) [.int .i64 e.seq,.int .i64 e.index] Z Z Z yn Z) ?_)
 refine Bh ?_
 refine AG (AI Z (bG c Z Z Z Z Z hcc hc6) ?_)
 refine AG (AT (vs:=[.int .i64 e.seq,.int .i64 e.index]) 0 Z Z Z Z Z (by show 0+3+c*2+2≤15;omega) (Gw hc6 hcc _ _ _) Z Z yu ?_)
 refine Bh ?_
 refine an ?_
 refine VG (VL 4 (bn rr) Z Z Z Z ?_)
 refine VG (VT (vs:=bn rr) 4 Z Z Z Z (NR _) Z Z Z ?_)
 refine an ?_
 have hfin:BE p (es ++ [e]) ⟨x.sp,a1,c1,a2,c2⟩=[pt p (.pointer (some ⟨x.sp,0,none⟩) :: .slice a1 (es.length+1) c1 :: .slice a2 ((aO es).2.length+1) c2::gw (es ++ [e])) BA,ui x.sp S',aI iI 7 a1 (es.length+1) c1 (flat cM es++cM e),aI ji 4 a2 ((aO es).2.length+1) c2 (flat bn (aO es).2++bn rr)]:=by
  unfold BE il
  rw[hll,hst1,hst2,ZM,bf,bf,bO,fg,bO,fg,ZN,ZN];rfl
 exact CR (ay.aT 4 5 Z Z Z (aE.many (ds:=bn rr) 4 Z Z) Z (ae.log ⟨x.sp,a1,c1,a2,c2⟩ (by rw[hfin];exact IP 0 Z (IP 0 Z (IP 0 Z (IP 0 Z ae.nil))))).ar ⟨by rw[hrr,hz],by rw[happ]⟩)
end Lg
end Go.Proofs.YthnlpdacbcjgpaaGreatDoor
namespace Go.Proofs
open Go.Shelf
def Tryz.BF : Go.Shelf.Ren := ⟨fun | 137 => 271 | 217 => 208 | 266 => 264 | n => n, fun | 9 => 9 | 5 => 5 | 3 => 3 | n => n, fun | n => n⟩
theorem Tryz.Nq : Go.Proofs.Lays.n137 Tryz.prog Tryz.BF := {
  mixed := by kernel_rfl
  f137 := Tryz.func271.trans (congrArg some (by kernel_rfl))
  f217 := Tryz.func208.trans (congrArg some (by kernel_rfl))
  f266 := Tryz.func264.trans (congrArg some (by kernel_rfl))
  t3 := Tryz.underlying3
  a3 := Tryz.isAgg3
  z3 := Tryz.sizeOf3
  v3 := Tryz.zeroValue3
  t5 := Tryz.underlying5
  a5 := Tryz.isAgg5
  z5 := Tryz.sizeOf5
  v5 := Tryz.zeroValue5
  t9 := Tryz.underlying9
  a9 := Tryz.isAgg9
  z9 := Tryz.sizeOf9
  v9 := Tryz.zeroValue9 }
def Tryz.BG : Go.Shelf.Ren := ⟨fun | 172 => 42 | 244 => 79 | 245 => 80 | 247 => 130 | 279 => 131 | 280 => 132 | 281 => 133 | 282 => 134 | 287 => 212 | 316 => 213 | 171 => 20 | 205 => 214 | 321 => 266 | 322 => 267 | 243 => 36 | 246 => 56 | 283 => 86 | 284 => 87 | 285 => 88 | 286 => 89 | 129 => 143 | 317 => 142 | 318 => 144 | 319 => 145 | 320 => 146 | 337 => 218 | 338 => 219 | n => n, fun | 9 => 9 | 3 => 3 | 75 => 60 | 76 => 61 | 4 => 4 | 5 => 5 | 167 => 236 | 37 => 56 | 0 => 0 | 85 => 237 | 2 => 2 | 168 => 239 | 53 => 196 | 175 => 316 | 46 => 99 | 210 => 319 | 127 => 93 | 145 => 368 | 143 => 366 | 21 => 21 | 171 => 195 | 173 => 199 | 212 => 259 | 51 => 260 | 20 => 20 | 213 => 261 | 232 => 370 | 233 => 371 | 80 => 65 | n => n, fun | 15 => 3 | 16 => 4 | 17 => 1 | 18 => 5 | 19 => 6 | n => n⟩
theorem Tryz.Uz : Go.Proofs.Lays.n172 Tryz.prog Tryz.BG := {
  mixed := by kernel_rfl
  f129 := Tryz.func143.trans (congrArg some (by kernel_rfl))
  f171 := Tryz.func20.trans (congrArg some (by kernel_rfl))
  f172 := Tryz.func42.trans (congrArg some (by kernel_rfl))
  f205 := Tryz.func214.trans (congrArg some (by kernel_rfl))
  f243 := Tryz.func36.trans (congrArg some (by kernel_rfl))
  f244 := Tryz.func79.trans (congrArg some (by kernel_rfl))
  f245 := Tryz.func80.trans (congrArg some (by kernel_rfl))
  f246 := Tryz.func56.trans (congrArg some (by kernel_rfl))
  f247 := Tryz.func130.trans (congrArg some (by kernel_rfl))
  f279 := Tryz.func131.trans (congrArg some (by kernel_rfl))
  f280 := Tryz.func132.trans (congrArg some (by kernel_rfl))
  f281 := Tryz.func133.trans (congrArg some (by kernel_rfl))
  f282 := Tryz.func134.trans (congrArg some (by kernel_rfl))
  f283 := Tryz.func86.trans (congrArg some (by kernel_rfl))
  f284 := Tryz.func87.trans (congrArg some (by kernel_rfl))
  f285 := Tryz.func88.trans (congrArg some (by kernel_rfl))
  f286 := Tryz.func89.trans (congrArg some (by kernel_rfl))
  f287 := Tryz.func212.trans (congrArg some (by kernel_rfl))
  f316 := Tryz.func213.trans (congrArg some (by kernel_rfl))
  f317 := Tryz.func142.trans (congrArg some (by kernel_rfl))
  f318 := Tryz.func144.trans (congrArg some (by kernel_rfl))
  f319 := Tryz.func145.trans (congrArg some (by kernel_rfl))
  f320 := Tryz.func146.trans (congrArg some (by kernel_rfl))
  f321 := Tryz.func266.trans (congrArg some (by kernel_rfl))
  f322 := Tryz.func267.trans (congrArg some (by kernel_rfl))
  f337 := Tryz.func218.trans (congrArg some (by kernel_rfl))
  f338 := Tryz.func219.trans (congrArg some (by kernel_rfl))
  t0 := Tryz.underlying0
  a0 := Tryz.isAgg0
  z0 := Tryz.sizeOf0
  v0 := Tryz.zeroValue0
  t2 := Tryz.underlying2
  a2 := Tryz.isAgg2
  z2 := Tryz.sizeOf2
  v2 := Tryz.zeroValue2
  t3 := Tryz.underlying3
  a3 := Tryz.isAgg3
  z3 := Tryz.sizeOf3
  v3 := Tryz.zeroValue3
  t4 := Tryz.underlying4
  a4 := Tryz.isAgg4
  z4 := Tryz.sizeOf4
  v4 := Tryz.zeroValue4
  t5 := Tryz.underlying5
  a5 := Tryz.isAgg5
  z5 := Tryz.sizeOf5
  v5 := Tryz.zeroValue5
  t9 := Tryz.underlying9
  a9 := Tryz.isAgg9
  z9 := Tryz.sizeOf9
  v9 := Tryz.zeroValue9
  t20 := Tryz.underlying20
  a20 := Tryz.isAgg20
  z20 := Tryz.sizeOf20
  v20 := Tryz.zeroValue20
  t21 := Tryz.underlying21
  a21 := Tryz.isAgg21
  z21 := Tryz.sizeOf21
  v21 := Tryz.zeroValue21
  t37 := Tryz.underlying56
  a37 := Tryz.isAgg56
  z37 := Tryz.sizeOf56
  v37 := Tryz.zeroValue56
  t46 := Tryz.underlying99
  a46 := Tryz.isAgg99
  z46 := Tryz.sizeOf99
  v46 := Tryz.zeroValue99
  t51 := Tryz.underlying260
  a51 := Tryz.isAgg260
  z51 := Tryz.sizeOf260
  v51 := Tryz.zeroValue260
  t53 := Tryz.underlying196
  a53 := Tryz.isAgg196
  z53 := Tryz.sizeOf196
  v53 := Tryz.zeroValue196
  t75 := Tryz.underlying60
  a75 := Tryz.isAgg60
  z75 := Tryz.sizeOf60
  v75 := Tryz.zeroValue60
  t76 := Tryz.underlying61
  a76 := Tryz.isAgg61
  z76 := Tryz.sizeOf61
  v76 := Tryz.zeroValue61
  t85 := Tryz.underlying237
  a85 := Tryz.isAgg237
  z85 := Tryz.sizeOf237
  v85 := Tryz.zeroValue237
  t127 := Tryz.underlying93
  a127 := Tryz.isAgg93
  z127 := Tryz.sizeOf93
  v127 := Tryz.zeroValue93
  t143 := Tryz.underlying366
  a143 := Tryz.isAgg366
  z143 := Tryz.sizeOf366
  v143 := Tryz.zeroValue366
  t145 := Tryz.underlying368
  a145 := Tryz.isAgg368
  z145 := Tryz.sizeOf368
  v145 := Tryz.zeroValue368
  t167 := Tryz.underlying236
  a167 := Tryz.isAgg236
  z167 := Tryz.sizeOf236
  v167 := Tryz.zeroValue236
  t168 := Tryz.underlying239
  a168 := Tryz.isAgg239
  z168 := Tryz.sizeOf239
  v168 := Tryz.zeroValue239
  t171 := Tryz.underlying195
  a171 := Tryz.isAgg195
  z171 := Tryz.sizeOf195
  v171 := Tryz.zeroValue195
  t173 := Tryz.underlying199
  a173 := Tryz.isAgg199
  z173 := Tryz.sizeOf199
  v173 := Tryz.zeroValue199
  t175 := Tryz.underlying316
  a175 := Tryz.isAgg316
  z175 := Tryz.sizeOf316
  v175 := Tryz.zeroValue316
  t210 := Tryz.underlying319
  a210 := Tryz.isAgg319
  z210 := Tryz.sizeOf319
  v210 := Tryz.zeroValue319
  t212 := Tryz.underlying259
  a212 := Tryz.isAgg259
  z212 := Tryz.sizeOf259
  v212 := Tryz.zeroValue259
  t213 := Tryz.underlying261
  a213 := Tryz.isAgg261
  z213 := Tryz.sizeOf261
  t232 := Tryz.underlying370
  a232 := Tryz.isAgg370
  z232 := Tryz.sizeOf370
  v232 := Tryz.zeroValue370
  t233 := Tryz.underlying371
  a233 := Tryz.isAgg371
  z233 := Tryz.sizeOf371
  v233 := Tryz.zeroValue371
  g15 := by kernel_rfl
  g16 := by kernel_rfl
  g17 := by kernel_rfl
  g18 := by kernel_rfl
  g19 := by kernel_rfl }
def Tryz.zO : Go.Shelf.Ren := ⟨fun | 171 => 20 | 243 => 36 | 246 => 56 | 283 => 86 | 284 => 87 | 285 => 88 | 286 => 89 | 129 => 143 | 317 => 142 | 318 => 144 | 319 => 145 | 320 => 146 | 337 => 218 | 338 => 219 | n => n, fun | 3 => 3 | 9 => 9 | 2 => 2 | 4 => 4 | 171 => 195 | 0 => 0 | 53 => 196 | 37 => 56 | 5 => 5 | 173 => 199 | 212 => 259 | 51 => 260 | 20 => 20 | 213 => 261 | 46 => 99 | 232 => 370 | 233 => 371 | n => n, fun | 17 => 1 | 18 => 5 | 19 => 6 | n => n⟩
theorem Tryz.It : Go.Proofs.LaysM.n171 Tryz.prog Tryz.zO := {
  mixed := by kernel_rfl
  f129 := Tryz.func143.trans (congrArg some (by kernel_rfl))
  f171 := Tryz.func20.trans (congrArg some (by kernel_rfl))
  f243 := Tryz.func36.trans (congrArg some (by kernel_rfl))
  f246 := Tryz.func56.trans (congrArg some (by kernel_rfl))
  f283 := Tryz.func86.trans (congrArg some (by kernel_rfl))
  f284 := Tryz.func87.trans (congrArg some (by kernel_rfl))
  f285 := Tryz.func88.trans (congrArg some (by kernel_rfl))
  f286 := Tryz.func89.trans (congrArg some (by kernel_rfl))
  f317 := Tryz.func142.trans (congrArg some (by kernel_rfl))
  f318 := Tryz.func144.trans (congrArg some (by kernel_rfl))
  f319 := Tryz.func145.trans (congrArg some (by kernel_rfl))
  f320 := Tryz.func146.trans (congrArg some (by kernel_rfl))
  f337 := Tryz.func218.trans (congrArg some (by kernel_rfl))
  f338 := Tryz.func219.trans (congrArg some (by kernel_rfl))
  t0 := Tryz.underlying0
  a0 := Tryz.isAgg0
  z0 := Tryz.sizeOf0
  v0 := Tryz.zeroValue0
  t2 := Tryz.underlying2
  a2 := Tryz.isAgg2
  z2 := Tryz.sizeOf2
  v2 := Tryz.zeroValue2
  t3 := Tryz.underlying3
  a3 := Tryz.isAgg3
  z3 := Tryz.sizeOf3
  v3 := Tryz.zeroValue3
  t4 := Tryz.underlying4
  a4 := Tryz.isAgg4
  z4 := Tryz.sizeOf4
  v4 := Tryz.zeroValue4
  t5 := Tryz.underlying5
  a5 := Tryz.isAgg5
  z5 := Tryz.sizeOf5
  v5 := Tryz.zeroValue5
  t9 := Tryz.underlying9
  a9 := Tryz.isAgg9
  z9 := Tryz.sizeOf9
  v9 := Tryz.zeroValue9
  t20 := Tryz.underlying20
  a20 := Tryz.isAgg20
  z20 := Tryz.sizeOf20
  v20 := Tryz.zeroValue20
  t37 := Tryz.underlying56
  a37 := Tryz.isAgg56
  z37 := Tryz.sizeOf56
  v37 := Tryz.zeroValue56
  t46 := Tryz.underlying99
  a46 := Tryz.isAgg99
  z46 := Tryz.sizeOf99
  v46 := Tryz.zeroValue99
  t51 := Tryz.underlying260
  a51 := Tryz.isAgg260
  z51 := Tryz.sizeOf260
  v51 := Tryz.zeroValue260
  t53 := Tryz.underlying196
  a53 := Tryz.isAgg196
  z53 := Tryz.sizeOf196
  v53 := Tryz.zeroValue196
  t171 := Tryz.underlying195
  a171 := Tryz.isAgg195
  z171 := Tryz.sizeOf195
  v171 := Tryz.zeroValue195
  t173 := Tryz.underlying199
  a173 := Tryz.isAgg199
  z173 := Tryz.sizeOf199
  v173 := Tryz.zeroValue199
  t212 := Tryz.underlying259
  a212 := Tryz.isAgg259
  z212 := Tryz.sizeOf259
  v212 := Tryz.zeroValue259
  t213 := Tryz.underlying261
  a213 := Tryz.isAgg261
  z213 := Tryz.sizeOf261
  t232 := Tryz.underlying370
  a232 := Tryz.isAgg370
  z232 := Tryz.sizeOf370
  v232 := Tryz.zeroValue370
  t233 := Tryz.underlying371
  a233 := Tryz.isAgg371
  z233 := Tryz.sizeOf371
  v233 := Tryz.zeroValue371
  g17 := by kernel_rfl
  g18 := by kernel_rfl
  g19 := by kernel_rfl
  i0 := by kernel_rfl
  i2 := by kernel_rfl
  i3 := by kernel_rfl
  i4 := by kernel_rfl
  i5 := by kernel_rfl
  i9 := by kernel_rfl
  i20 := by kernel_rfl
  i37 := by kernel_rfl
  i46 := by kernel_rfl
  i51 := by kernel_rfl
  i53 := by kernel_rfl
  i171 := by kernel_rfl
  i173 := by kernel_rfl
  i212 := by kernel_rfl
  i232 := by kernel_rfl
  i233 := by kernel_rfl
  m17 := by kernel_rfl
  m18 := by kernel_rfl
  m19 := by kernel_rfl }
def Tryz.iK : Go.Shelf.Ren := ⟨fun | 172 => 42 | 244 => 79 | 245 => 80 | 247 => 130 | 279 => 131 | 280 => 132 | 281 => 133 | 282 => 134 | 287 => 212 | 316 => 213 | 171 => 20 | 205 => 214 | 321 => 266 | 322 => 267 | 243 => 36 | 246 => 56 | 283 => 86 | 284 => 87 | 285 => 88 | 286 => 89 | 129 => 143 | 317 => 142 | 318 => 144 | 319 => 145 | 320 => 146 | 337 => 218 | 338 => 219 | n => n, fun | 9 => 9 | 3 => 3 | 75 => 60 | 76 => 61 | 4 => 4 | 5 => 5 | 167 => 236 | 37 => 56 | 0 => 0 | 85 => 237 | 2 => 2 | 168 => 239 | 53 => 196 | 175 => 316 | 46 => 99 | 210 => 319 | 127 => 93 | 145 => 368 | 143 => 366 | 21 => 21 | 171 => 195 | 173 => 199 | 212 => 259 | 51 => 260 | 20 => 20 | 213 => 261 | 232 => 370 | 233 => 371 | 80 => 65 | n => n, fun | 15 => 3 | 16 => 4 | 17 => 1 | 18 => 5 | 19 => 6 | n => n⟩
theorem Tryz.uL : Go.Proofs.LaysC.n172 Tryz.prog Tryz.iK := {
  mixed := by kernel_rfl
  f129 := Tryz.func143.trans (congrArg some (by kernel_rfl))
  f171 := Tryz.func20.trans (congrArg some (by kernel_rfl))
  f172 := Tryz.func42.trans (congrArg some (by kernel_rfl))
  f205 := Tryz.func214.trans (congrArg some (by kernel_rfl))
  f243 := Tryz.func36.trans (congrArg some (by kernel_rfl))
  f244 := Tryz.func79.trans (congrArg some (by kernel_rfl))
  f245 := Tryz.func80.trans (congrArg some (by kernel_rfl))
  f246 := Tryz.func56.trans (congrArg some (by kernel_rfl))
  f247 := Tryz.func130.trans (congrArg some (by kernel_rfl))
  f279 := Tryz.func131.trans (congrArg some (by kernel_rfl))
  f280 := Tryz.func132.trans (congrArg some (by kernel_rfl))
  f281 := Tryz.func133.trans (congrArg some (by kernel_rfl))
  f282 := Tryz.func134.trans (congrArg some (by kernel_rfl))
  f283 := Tryz.func86.trans (congrArg some (by kernel_rfl))
  f284 := Tryz.func87.trans (congrArg some (by kernel_rfl))
  f285 := Tryz.func88.trans (congrArg some (by kernel_rfl))
  f286 := Tryz.func89.trans (congrArg some (by kernel_rfl))
  f287 := Tryz.func212.trans (congrArg some (by kernel_rfl))
  f316 := Tryz.func213.trans (congrArg some (by kernel_rfl))
  f317 := Tryz.func142.trans (congrArg some (by kernel_rfl))
  f318 := Tryz.func144.trans (congrArg some (by kernel_rfl))
  f319 := Tryz.func145.trans (congrArg some (by kernel_rfl))
  f320 := Tryz.func146.trans (congrArg some (by kernel_rfl))
  f321 := Tryz.func266.trans (congrArg some (by kernel_rfl))
  f322 := Tryz.func267.trans (congrArg some (by kernel_rfl))
  f337 := Tryz.func218.trans (congrArg some (by kernel_rfl))
  f338 := Tryz.func219.trans (congrArg some (by kernel_rfl))
  t0 := Tryz.underlying0
  a0 := Tryz.isAgg0
  z0 := Tryz.sizeOf0
  v0 := Tryz.zeroValue0
  t2 := Tryz.underlying2
  a2 := Tryz.isAgg2
  z2 := Tryz.sizeOf2
  v2 := Tryz.zeroValue2
  t3 := Tryz.underlying3
  a3 := Tryz.isAgg3
  z3 := Tryz.sizeOf3
  v3 := Tryz.zeroValue3
  t4 := Tryz.underlying4
  a4 := Tryz.isAgg4
  z4 := Tryz.sizeOf4
  v4 := Tryz.zeroValue4
  t5 := Tryz.underlying5
  a5 := Tryz.isAgg5
  z5 := Tryz.sizeOf5
  v5 := Tryz.zeroValue5
  t9 := Tryz.underlying9
  a9 := Tryz.isAgg9
  z9 := Tryz.sizeOf9
  v9 := Tryz.zeroValue9
  t20 := Tryz.underlying20
  a20 := Tryz.isAgg20
  z20 := Tryz.sizeOf20
  v20 := Tryz.zeroValue20
  t21 := Tryz.underlying21
  a21 := Tryz.isAgg21
  z21 := Tryz.sizeOf21
  v21 := Tryz.zeroValue21
  t37 := Tryz.underlying56
  a37 := Tryz.isAgg56
  z37 := Tryz.sizeOf56
  v37 := Tryz.zeroValue56
  t46 := Tryz.underlying99
  a46 := Tryz.isAgg99
  z46 := Tryz.sizeOf99
  v46 := Tryz.zeroValue99
  t51 := Tryz.underlying260
  a51 := Tryz.isAgg260
  z51 := Tryz.sizeOf260
  v51 := Tryz.zeroValue260
  t53 := Tryz.underlying196
  a53 := Tryz.isAgg196
  z53 := Tryz.sizeOf196
  v53 := Tryz.zeroValue196
  t75 := Tryz.underlying60
  a75 := Tryz.isAgg60
  z75 := Tryz.sizeOf60
  v75 := Tryz.zeroValue60
  t76 := Tryz.underlying61
  a76 := Tryz.isAgg61
  z76 := Tryz.sizeOf61
  v76 := Tryz.zeroValue61
  t85 := Tryz.underlying237
  a85 := Tryz.isAgg237
  z85 := Tryz.sizeOf237
  v85 := Tryz.zeroValue237
  t127 := Tryz.underlying93
  a127 := Tryz.isAgg93
  z127 := Tryz.sizeOf93
  v127 := Tryz.zeroValue93
  t143 := Tryz.underlying366
  a143 := Tryz.isAgg366
  z143 := Tryz.sizeOf366
  v143 := Tryz.zeroValue366
  t145 := Tryz.underlying368
  a145 := Tryz.isAgg368
  z145 := Tryz.sizeOf368
  v145 := Tryz.zeroValue368
  t167 := Tryz.underlying236
  a167 := Tryz.isAgg236
  z167 := Tryz.sizeOf236
  v167 := Tryz.zeroValue236
  t168 := Tryz.underlying239
  a168 := Tryz.isAgg239
  z168 := Tryz.sizeOf239
  v168 := Tryz.zeroValue239
  t171 := Tryz.underlying195
  a171 := Tryz.isAgg195
  z171 := Tryz.sizeOf195
  v171 := Tryz.zeroValue195
  t173 := Tryz.underlying199
  a173 := Tryz.isAgg199
  z173 := Tryz.sizeOf199
  v173 := Tryz.zeroValue199
  t175 := Tryz.underlying316
  a175 := Tryz.isAgg316
  z175 := Tryz.sizeOf316
  v175 := Tryz.zeroValue316
  t210 := Tryz.underlying319
  a210 := Tryz.isAgg319
  z210 := Tryz.sizeOf319
  v210 := Tryz.zeroValue319
  t212 := Tryz.underlying259
  a212 := Tryz.isAgg259
  z212 := Tryz.sizeOf259
  v212 := Tryz.zeroValue259
  t213 := Tryz.underlying261
  a213 := Tryz.isAgg261
  z213 := Tryz.sizeOf261
  t232 := Tryz.underlying370
  a232 := Tryz.isAgg370
  z232 := Tryz.sizeOf370
  v232 := Tryz.zeroValue370
  t233 := Tryz.underlying371
  a233 := Tryz.isAgg371
  z233 := Tryz.sizeOf371
  v233 := Tryz.zeroValue371
  g15 := by kernel_rfl
  g16 := by kernel_rfl
  g17 := by kernel_rfl
  g18 := by kernel_rfl
  g19 := by kernel_rfl
  t80 := Tryz.underlying65
  a80 := Tryz.isAgg65
  z80 := Tryz.sizeOf65
  v80 := Tryz.zeroValue65
  i0 := by kernel_rfl
  i2 := by kernel_rfl
  i3 := by kernel_rfl
  i4 := by kernel_rfl
  i5 := by kernel_rfl
  i9 := by kernel_rfl
  i20 := by kernel_rfl
  i21 := by kernel_rfl
  i37 := by kernel_rfl
  i46 := by kernel_rfl
  i51 := by kernel_rfl
  i53 := by kernel_rfl
  i75 := by kernel_rfl
  i76 := by kernel_rfl
  i80 := by kernel_rfl
  i85 := by kernel_rfl
  i127 := by kernel_rfl
  i143 := by kernel_rfl
  i145 := by kernel_rfl
  i167 := by kernel_rfl
  i168 := by kernel_rfl
  i171 := by kernel_rfl
  i173 := by kernel_rfl
  i175 := by kernel_rfl
  i210 := by kernel_rfl
  i212 := by kernel_rfl
  i232 := by kernel_rfl
  i233 := by kernel_rfl
  m15 := by kernel_rfl
  m16 := by kernel_rfl
  m17 := by kernel_rfl
  m18 := by kernel_rfl
  m19 := by kernel_rfl
  c0 := by kernel_rfl
  c2 := by kernel_rfl
  c3 := by kernel_rfl
  c4 := by kernel_rfl
  c5 := by kernel_rfl
  c9 := by kernel_rfl
  c20 := by kernel_rfl
  c21 := by kernel_rfl
  c37 := by kernel_rfl
  c46 := by kernel_rfl
  c51 := by kernel_rfl
  c53 := by kernel_rfl
  c75 := by kernel_rfl
  c76 := by kernel_rfl
  c80 := by kernel_rfl
  c85 := by kernel_rfl
  c127 := by kernel_rfl
  c143 := by kernel_rfl
  c145 := by kernel_rfl
  c167 := by kernel_rfl
  c168 := by kernel_rfl
  c171 := by kernel_rfl
  c173 := by kernel_rfl
  c175 := by kernel_rfl
  c210 := by kernel_rfl
  c212 := by kernel_rfl
  c213 := by kernel_rfl
  c232 := by kernel_rfl
  c233 := by kernel_rfl }
def Tryz.oz : Go.Shelf.Ren := ⟨fun | 145 => 41 | 220 => 78 | 219 => 129 | 217 => 208 | 225 => 209 | 224 => 210 | 267 => 211 | 266 => 264 | 314 => 265 | n => n, fun | 9 => 9 | 4 => 4 | 59 => 95 | 3 => 3 | 5 => 5 | 46 => 99 | 146 => 362 | 51 => 260 | n => n, fun | 1 => 2 | n => n⟩
theorem Tryz.Nr : Go.Proofs.Lays.n145 Tryz.prog Tryz.oz := {
  mixed := by kernel_rfl
  f145 := Tryz.func41.trans (congrArg some (by kernel_rfl))
  f217 := Tryz.func208.trans (congrArg some (by kernel_rfl))
  f219 := Tryz.func129.trans (congrArg some (by kernel_rfl))
  f220 := Tryz.func78.trans (congrArg some (by kernel_rfl))
  f224 := Tryz.func210.trans (congrArg some (by kernel_rfl))
  f225 := Tryz.func209.trans (congrArg some (by kernel_rfl))
  f266 := Tryz.func264.trans (congrArg some (by kernel_rfl))
  f267 := Tryz.func211.trans (congrArg some (by kernel_rfl))
  f314 := Tryz.func265.trans (congrArg some (by kernel_rfl))
  t3 := Tryz.underlying3
  a3 := Tryz.isAgg3
  z3 := Tryz.sizeOf3
  v3 := Tryz.zeroValue3
  t4 := Tryz.underlying4
  a4 := Tryz.isAgg4
  z4 := Tryz.sizeOf4
  v4 := Tryz.zeroValue4
  t5 := Tryz.underlying5
  a5 := Tryz.isAgg5
  z5 := Tryz.sizeOf5
  v5 := Tryz.zeroValue5
  t9 := Tryz.underlying9
  a9 := Tryz.isAgg9
  z9 := Tryz.sizeOf9
  v9 := Tryz.zeroValue9
  t46 := Tryz.underlying99
  a46 := Tryz.isAgg99
  z46 := Tryz.sizeOf99
  v46 := Tryz.zeroValue99
  t51 := Tryz.underlying260
  a51 := Tryz.isAgg260
  z51 := Tryz.sizeOf260
  v51 := Tryz.zeroValue260
  t59 := Tryz.underlying95
  a59 := Tryz.isAgg95
  z59 := Tryz.sizeOf95
  v59 := Tryz.zeroValue95
  t146 := Tryz.underlying362
  a146 := Tryz.isAgg362
  z146 := Tryz.sizeOf362
  v146 := Tryz.zeroValue362
  g1 := by kernel_rfl }
def Tryz.zP : Go.Shelf.Ren := ⟨fun | 145 => 41 | 220 => 78 | 219 => 129 | 217 => 208 | 225 => 209 | 224 => 210 | 267 => 211 | 266 => 264 | 314 => 265 | n => n, fun | 9 => 9 | 4 => 4 | 59 => 95 | 3 => 3 | 5 => 5 | 46 => 99 | 146 => 362 | 51 => 260 | n => n, fun | 1 => 2 | n => n⟩
theorem Tryz.Iu : Go.Proofs.LaysM.n145 Tryz.prog Tryz.zP := {
  mixed := by kernel_rfl
  f145 := Tryz.func41.trans (congrArg some (by kernel_rfl))
  f217 := Tryz.func208.trans (congrArg some (by kernel_rfl))
  f219 := Tryz.func129.trans (congrArg some (by kernel_rfl))
  f220 := Tryz.func78.trans (congrArg some (by kernel_rfl))
  f224 := Tryz.func210.trans (congrArg some (by kernel_rfl))
  f225 := Tryz.func209.trans (congrArg some (by kernel_rfl))
  f266 := Tryz.func264.trans (congrArg some (by kernel_rfl))
  f267 := Tryz.func211.trans (congrArg some (by kernel_rfl))
  f314 := Tryz.func265.trans (congrArg some (by kernel_rfl))
  t3 := Tryz.underlying3
  a3 := Tryz.isAgg3
  z3 := Tryz.sizeOf3
  v3 := Tryz.zeroValue3
  t4 := Tryz.underlying4
  a4 := Tryz.isAgg4
  z4 := Tryz.sizeOf4
  v4 := Tryz.zeroValue4
  t5 := Tryz.underlying5
  a5 := Tryz.isAgg5
  z5 := Tryz.sizeOf5
  v5 := Tryz.zeroValue5
  t9 := Tryz.underlying9
  a9 := Tryz.isAgg9
  z9 := Tryz.sizeOf9
  v9 := Tryz.zeroValue9
  t46 := Tryz.underlying99
  a46 := Tryz.isAgg99
  z46 := Tryz.sizeOf99
  v46 := Tryz.zeroValue99
  t51 := Tryz.underlying260
  a51 := Tryz.isAgg260
  z51 := Tryz.sizeOf260
  v51 := Tryz.zeroValue260
  t59 := Tryz.underlying95
  a59 := Tryz.isAgg95
  z59 := Tryz.sizeOf95
  v59 := Tryz.zeroValue95
  t146 := Tryz.underlying362
  a146 := Tryz.isAgg362
  z146 := Tryz.sizeOf362
  v146 := Tryz.zeroValue362
  g1 := by kernel_rfl
  i3 := by kernel_rfl
  i4 := by kernel_rfl
  i5 := by kernel_rfl
  i9 := by kernel_rfl
  i46 := by kernel_rfl
  i51 := by kernel_rfl
  i59 := by kernel_rfl
  i146 := by kernel_rfl
  m1 := by kernel_rfl
  s1_3 := fun w h => Go.Proofs.cell_of_shapedOpen_int (zero := #[.int .i64 0]) (t := 3) h (of_decide_eq_true (by kernel_rfl)) (by kernel_rfl) rfl (by kernel_rfl) (by kernel_rfl) Tryz.underlying3 }
def Tryz.BH : Go.Shelf.Ren := ⟨fun | 146 => 135 | 221 => 215 | 268 => 268 | 138 => 269 | 143 => 270 | 195 => 294 | 197 => 295 | 218 => 296 | 219 => 129 | 260 => 307 | 217 => 208 | 225 => 209 | 224 => 210 | 267 => 211 | 266 => 264 | 314 => 265 | n => n, fun | 9 => 9 | 31 => 243 | 3 => 3 | 4 => 4 | 0 => 0 | 105 => 388 | 21 => 21 | 5 => 5 | 46 => 99 | 119 => 397 | 139 => 400 | 138 => 399 | 146 => 362 | 51 => 260 | n => n, fun | 1 => 2 | 3 => 7 | 4 => 8 | n => n⟩
theorem Tryz.Ns : Go.Proofs.Lays.n146 Tryz.prog Tryz.BH := {
  mixed := by kernel_rfl
  f138 := Tryz.func269.trans (congrArg some (by kernel_rfl))
  f143 := Tryz.func270.trans (congrArg some (by kernel_rfl))
  f146 := Tryz.func135.trans (congrArg some (by kernel_rfl))
  f195 := Tryz.func294.trans (congrArg some (by kernel_rfl))
  f197 := Tryz.func295.trans (congrArg some (by kernel_rfl))
  f217 := Tryz.func208.trans (congrArg some (by kernel_rfl))
  f218 := Tryz.func296.trans (congrArg some (by kernel_rfl))
  f219 := Tryz.func129.trans (congrArg some (by kernel_rfl))
  f221 := Tryz.func215.trans (congrArg some (by kernel_rfl))
  f224 := Tryz.func210.trans (congrArg some (by kernel_rfl))
  f225 := Tryz.func209.trans (congrArg some (by kernel_rfl))
  f260 := Tryz.func307.trans (congrArg some (by kernel_rfl))
  f266 := Tryz.func264.trans (congrArg some (by kernel_rfl))
  f267 := Tryz.func211.trans (congrArg some (by kernel_rfl))
  f268 := Tryz.func268.trans (congrArg some (by kernel_rfl))
  f314 := Tryz.func265.trans (congrArg some (by kernel_rfl))
  t0 := Tryz.underlying0
  a0 := Tryz.isAgg0
  z0 := Tryz.sizeOf0
  v0 := Tryz.zeroValue0
  t3 := Tryz.underlying3
  a3 := Tryz.isAgg3
  z3 := Tryz.sizeOf3
  v3 := Tryz.zeroValue3
  t4 := Tryz.underlying4
  a4 := Tryz.isAgg4
  z4 := Tryz.sizeOf4
  v4 := Tryz.zeroValue4
  t5 := Tryz.underlying5
  a5 := Tryz.isAgg5
  z5 := Tryz.sizeOf5
  v5 := Tryz.zeroValue5
  t9 := Tryz.underlying9
  a9 := Tryz.isAgg9
  z9 := Tryz.sizeOf9
  v9 := Tryz.zeroValue9
  t21 := Tryz.underlying21
  a21 := Tryz.isAgg21
  z21 := Tryz.sizeOf21
  v21 := Tryz.zeroValue21
  t31 := Tryz.underlying243
  a31 := Tryz.isAgg243
  z31 := Tryz.sizeOf243
  v31 := Tryz.zeroValue243
  t46 := Tryz.underlying99
  a46 := Tryz.isAgg99
  z46 := Tryz.sizeOf99
  v46 := Tryz.zeroValue99
  t51 := Tryz.underlying260
  a51 := Tryz.isAgg260
  z51 := Tryz.sizeOf260
  v51 := Tryz.zeroValue260
  t105 := Tryz.underlying388
  a105 := Tryz.isAgg388
  z105 := Tryz.sizeOf388
  v105 := Tryz.zeroValue388
  t119 := Tryz.underlying397
  a119 := Tryz.isAgg397
  z119 := Tryz.sizeOf397
  t138 := Tryz.underlying399
  a138 := Tryz.isAgg399
  z138 := Tryz.sizeOf399
  v138 := Tryz.zeroValue399
  t139 := Tryz.underlying400
  a139 := Tryz.isAgg400
  z139 := Tryz.sizeOf400
  v139 := Tryz.zeroValue400
  t146 := Tryz.underlying362
  a146 := Tryz.isAgg362
  z146 := Tryz.sizeOf362
  v146 := Tryz.zeroValue362
  g1 := by kernel_rfl
  g3 := by kernel_rfl
  g4 := by kernel_rfl }
def Tryz.zQ : Go.Shelf.Ren := ⟨fun | 146 => 135 | 221 => 215 | 268 => 268 | 138 => 269 | 143 => 270 | 195 => 294 | 197 => 295 | 218 => 296 | 219 => 129 | 260 => 307 | 217 => 208 | 225 => 209 | 224 => 210 | 267 => 211 | 266 => 264 | 314 => 265 | n => n, fun | 9 => 9 | 31 => 243 | 3 => 3 | 4 => 4 | 0 => 0 | 105 => 388 | 21 => 21 | 5 => 5 | 46 => 99 | 119 => 397 | 139 => 400 | 138 => 399 | 146 => 362 | 51 => 260 | n => n, fun | 1 => 2 | 3 => 7 | 4 => 8 | n => n⟩
theorem Tryz.SE : Go.Proofs.LaysM.n146 Tryz.prog Tryz.zQ := {
  mixed := by kernel_rfl
  f138 := Tryz.func269.trans (congrArg some (by kernel_rfl))
  f143 := Tryz.func270.trans (congrArg some (by kernel_rfl))
  f146 := Tryz.func135.trans (congrArg some (by kernel_rfl))
  f195 := Tryz.func294.trans (congrArg some (by kernel_rfl))
  f197 := Tryz.func295.trans (congrArg some (by kernel_rfl))
  f217 := Tryz.func208.trans (congrArg some (by kernel_rfl))
  f218 := Tryz.func296.trans (congrArg some (by kernel_rfl))
  f219 := Tryz.func129.trans (congrArg some (by kernel_rfl))
  f221 := Tryz.func215.trans (congrArg some (by kernel_rfl))
  f224 := Tryz.func210.trans (congrArg some (by kernel_rfl))
  f225 := Tryz.func209.trans (congrArg some (by kernel_rfl))
  f260 := Tryz.func307.trans (congrArg some (by kernel_rfl))
  f266 := Tryz.func264.trans (congrArg some (by kernel_rfl))
  f267 := Tryz.func211.trans (congrArg some (by kernel_rfl))
  f268 := Tryz.func268.trans (congrArg some (by kernel_rfl))
  f314 := Tryz.func265.trans (congrArg some (by kernel_rfl))
  t0 := Tryz.underlying0
  a0 := Tryz.isAgg0
  z0 := Tryz.sizeOf0
  v0 := Tryz.zeroValue0
  t3 := Tryz.underlying3
  a3 := Tryz.isAgg3
  z3 := Tryz.sizeOf3
  v3 := Tryz.zeroValue3
  t4 := Tryz.underlying4
  a4 := Tryz.isAgg4
  z4 := Tryz.sizeOf4
  v4 := Tryz.zeroValue4
  t5 := Tryz.underlying5
  a5 := Tryz.isAgg5
  z5 := Tryz.sizeOf5
  v5 := Tryz.zeroValue5
  t9 := Tryz.underlying9
  a9 := Tryz.isAgg9
  z9 := Tryz.sizeOf9
  v9 := Tryz.zeroValue9
  t21 := Tryz.underlying21
  a21 := Tryz.isAgg21
  z21 := Tryz.sizeOf21
  v21 := Tryz.zeroValue21
  t31 := Tryz.underlying243
  a31 := Tryz.isAgg243
  z31 := Tryz.sizeOf243
  v31 := Tryz.zeroValue243
  t46 := Tryz.underlying99
  a46 := Tryz.isAgg99
  z46 := Tryz.sizeOf99
  v46 := Tryz.zeroValue99
  t51 := Tryz.underlying260
  a51 := Tryz.isAgg260
  z51 := Tryz.sizeOf260
  v51 := Tryz.zeroValue260
  t105 := Tryz.underlying388
  a105 := Tryz.isAgg388
  z105 := Tryz.sizeOf388
  v105 := Tryz.zeroValue388
  t119 := Tryz.underlying397
  a119 := Tryz.isAgg397
  z119 := Tryz.sizeOf397
  t138 := Tryz.underlying399
  a138 := Tryz.isAgg399
  z138 := Tryz.sizeOf399
  v138 := Tryz.zeroValue399
  t139 := Tryz.underlying400
  a139 := Tryz.isAgg400
  z139 := Tryz.sizeOf400
  v139 := Tryz.zeroValue400
  t146 := Tryz.underlying362
  a146 := Tryz.isAgg362
  z146 := Tryz.sizeOf362
  v146 := Tryz.zeroValue362
  g1 := by kernel_rfl
  g3 := by kernel_rfl
  g4 := by kernel_rfl
  i0 := by kernel_rfl
  i3 := by kernel_rfl
  i4 := by kernel_rfl
  i5 := by kernel_rfl
  i9 := by kernel_rfl
  i21 := by kernel_rfl
  i31 := by kernel_rfl
  i46 := by kernel_rfl
  i51 := by kernel_rfl
  i105 := by kernel_rfl
  i138 := by kernel_rfl
  i139 := by kernel_rfl
  i146 := by kernel_rfl
  m1 := by kernel_rfl
  s1_3 := fun w h => Go.Proofs.cell_of_shapedOpen_int (zero := #[.int .i64 0]) (t := 3) h (of_decide_eq_true (by kernel_rfl)) (by kernel_rfl) rfl (by kernel_rfl) (by kernel_rfl) Tryz.underlying3
  m3 := by kernel_rfl
  m4 := by kernel_rfl }
def Tryz.DW : Go.Shelf.Ren := ⟨fun | 5 => 263 | 7 => 293 | n => n, fun | 23 => 247 | 25 => 9 | 3 => 361 | 4 => 4 | 20 => 20 | n => n, fun | n => n⟩
theorem Tryz.Qv : Go.Proofs.SlLaysW.n5 Tryz.prog Tryz.DW := {
  mixed := by kernel_rfl
  f5 := ⟨Tryz.f263.name, by decide, Tryz.func263.trans (congrArg some (by kernel_rfl))⟩
  f7 := Tryz.func293.trans (congrArg some (by kernel_rfl))
  t4 := Tryz.underlying4
  a4 := Tryz.isAgg4
  z4 := Tryz.sizeOf4
  v4 := Tryz.zeroValue4
  t20 := Tryz.underlying20
  a20 := Tryz.isAgg20
  z20 := Tryz.sizeOf20
  v20 := Tryz.zeroValue20
  t23 := Tryz.underlying247
  a23 := Tryz.isAgg247
  z23 := Tryz.sizeOf247
  v23 := Tryz.zeroValue247 }
end Go.Proofs
namespace Go.Proofs.YthnlpdacbcjgpaaGreatDoor
variable (Fr : Nat → Prop) (w : World)
namespace Kv
open Go Vg T Api Go.Shelf
attribute [local irreducible] VO VC VA
theorem BI:dW Tryz.prog 263:=⟨_,Tryz.func263,by kernel_rfl,by kernel_rfl⟩
theorem oA{κ α:Type}{c:κ→Value}{d:α→Value}{b:Nat}{xs:List (κ×α)}(Fr:Nat→Prop)(w:World)(h:ov Fr w c d b xs):
  aH Tryz.prog 263 [.map (some b)] Fr w [] (fun v L=>∃b',v=.map (some b')∧L=[gO c d b' xs]):=
 ⟨BI,fun hl hs=>by
  obtain⟨es,clock,h1,h2,h3⟩:=h.at_
  exact Calls.mono (AnyW.maps_Clone Tryz.Qv b es clock w h1) fun e w' ⟨h4,h5⟩=>⟨_,_,h4,⟨_,Z,Z⟩,by
   subst h5
   exact⟨Sat.alloc hl _ (gO c d w.heap.size xs) ⟨rfl,es,clock,heap_alloc_new w _,h2,h3⟩ Sat.nil,dH.alloc hl _⟩⟩⟩
theorem me{p:Nat}{S:Bz}(h:aM Fr [ui p S] w):
  aH Tryz.prog 205 [.pointer (some ⟨p,0,none⟩)] Fr w [] (fun v L=>∃p',v=.pointer (some ⟨p',0,none⟩)∧L=[ui p' S]):=by
 obtain⟨b,hp,hm⟩:=Ip h
 refine TF 12 Tryz.func205 Z yn ah Z Z ?_
 refine an ?_
 refine U3 ?_
 refine xu ?_
 refine TT ?_
 refine VG (VK (Lc:=[]) (fun Fr w hF hs hS=>oA Fr w (hm.of hF hs)) Z Z ?_)
 rintro _ _ ⟨b',rfl,rfl⟩
 refine an ?_
 refine VG (VI (LB (pv:=[(0,.map (some b'))]) [.map (some b')] Z Z Z yn Z) ?_)
 refine VG (VB (vs:=[.map (some b')]) Z fun p'=>?_)
 refine an ?_
 exact CR (ay.tmp 2 Z Z (ae.kv ae.refl).ar ⟨p',Z,Z⟩)
end Kv
namespace Lg
open Go Vg T Api Kv
attribute [local irreducible] VO VC VA
theorem BJ{a:Option Addr}{cap:Nat}{l:List aY}(h:aK cM 7 Fr w a l)(hl:l.length≤1000000):
  aH Tryz.prog 206 [.slice a l.length cap] Fr w [] (fun v L=>∃a' c',v=.slice a' l.length c'∧L=[aI iI 7 a' l.length c' (flat cM l)]):=by
 refine TF 8 Tryz.func206 Z yn ah Z Z ?_
 cases a with
 | none=>
  obtain rfl:l=[]:=by
   cases l with
   | nil=>rfl
   | cons x l=>obtain⟨b,o,h1,_⟩:=h.at_ yf;cases h1
  refine Kt ?_
  exact TX
 | some a=>
  refine xu ?_
  refine CS (CG (VG (VO.buildSlice (n:=0) (pv:=[]) [] Z Z Z Z yp Z fun b=>?_)))
  refine VO.ar (L':=[aI iI 7 (some ⟨b,0,none⟩) 0 0 []]) (ae.sl (M:=[]) (cs:=[]) (rest:=[]) Z (NR _) Z (ae.refl (L:=[pt b [] iI]))).ar ?_
  refine VG (VO.append (m:=l.length) (news:=flat cM l) 0 Z Z Z Z Z Z Z (aK.row BB h) (gU Iq l) (by show(0+l.length)*72≤_;omega) yd fun a' c' _=>?_)
  rw[ZQ,List.nil_append]
  refine an ?_
  exact TY
theorem BK{a:Option Addr}{cap:Nat}{l:List jI}(h:aK bn 4 Fr w a l)(hl:l.length≤1000000):
  aH Tryz.prog 207 [.slice a l.length cap] Fr w [] (fun v L=>∃a' c',v=.slice a' l.length c'∧L=[aI ji 4 a' l.length c' (flat bn l)]):=by
 refine TF 8 Tryz.func207 Z yn ah Z Z ?_
 cases a with
 | none=>
  obtain rfl:l=[]:=by
   cases l with
   | nil=>rfl
   | cons x l=>obtain⟨b,o,h1,_⟩:=h.at_ yf;cases h1
  refine Kt ?_
  exact TX
 | some a=>
  refine xu ?_
  refine CS (CG (VG (VO.buildSlice (n:=0) (pv:=[]) [] Z Z Z Z yp Z fun b=>?_)))
  refine VO.ar (L':=[aI ji 4 (some ⟨b,0,none⟩) 0 0 []]) (ae.sl (M:=[]) (cs:=[]) (rest:=[]) Z (NR _) Z (ae.refl (L:=[pt b [] ji]))).ar ?_
  refine VG (VO.append (m:=l.length) (news:=flat bn l) 0 Z Z Z Z Z Z Z (aK.row BC h) (gU Ir l) (by show(0+l.length)*40≤_;omega) yd fun a' c' _=>?_)
  rw[ZQ,List.nil_append]
  refine an ?_
  exact TY
theorem me{p:Nat}{es:List aY}(h:aM Fr [cd p es] w)(hl:es.length≤1000000):aH Tryz.prog 128 [.pointer (some ⟨p,0,none⟩)] Fr w [] (fun v L=>∃q,v=.pointer (some ⟨q,0,none⟩)∧L=[cd q es]):=by
 obtain⟨x,hx⟩:=tw.of h
 have hb:=hx.aP
 unfold il at hb
 have hrl:=qq es
 refine TF 26 Tryz.func128 Z yn ah Z Z ?_
 refine an ?_
 refine U6 ?_
 refine xu ?_
 refine CS (CD (ts 0 4 (ts 5 4 (ts 10 4 (ts 15 4 (.only 4 (.only 9 (.only 14 (.take 19 (.only 20 (.take 21 .nil)))))))))) yn yr ?_)
 refine RX ?_
 refine AG (VA.load Z Z Z (aE.lG (ds:=gw es) hb Z) ?_)
 refine AG (AO (OC (Lc:=[]) (R:=fun v L=>∃p',v=.pointer (some ⟨p',0,none⟩)∧L=[ui p' (aO es).1]) Z (.refl _) (fun Fr w hF hs hS=>Kv.me Fr w (hx.kv.of hF hs))) Z ?_ ?_)
 ·rintro _ _ ⟨_,⟨q,rfl,rfl⟩,rfl⟩
  exact yz
 rintro _ _ ⟨_,⟨q,rfl,rfl⟩,rfl⟩
 refine AG (AO (OC (Lc:=[]) (R:=fun v L=>∃a' c',v=.slice a' es.length c'∧L=[aI iI 7 a' es.length c' (flat cM es)]) Z (.refl _) (fun Fr w hF hs hS=>BJ Fr w (hx.SB.of hF hs) hl)) Z ?_ ?_)
 ·rintro _ _ ⟨_,⟨a1,c1,rfl,rfl⟩,rfl⟩
  exact yz
 rintro _ _ ⟨_,⟨a1,c1,rfl,rfl⟩,rfl⟩
 refine AG (AO (OC (Lc:=[]) (R:=fun v L=>∃a' c',v=.slice a' (aO es).2.length c'∧L=[aI ji 4 a' (aO es).2.length c' (flat bn (aO es).2)]) Z (.refl _) (fun Fr w hF hs hS=>BK Fr w (hx.SD.of hF hs) yd)) Z ?_ ?_)
 ·rintro _ _ ⟨_,⟨a2,c2,rfl,rfl⟩,rfl⟩
  exact yz
 rintro _ _ ⟨_,⟨a2,c2,rfl,rfl⟩,rfl⟩
 refine AG (AI Z (LB (pv:=[(0,pV q),(1,.slice a1 es.length c1),(2,.slice a2 (aO es).2.length c2),(3,.agg (gw es).toArray)]) (il es ⟨q,a1,c1,a2,c2⟩) Z Z Z yn Z) ?_)
 refine AG (AO (a8.box (vs:=il es ⟨q,a1,c1,a2,c2⟩) Z Z) Z ?_ ?_)
 ·rintro _ _ ⟨pb,rfl,rfl⟩
  exact yz
 rintro _ _ ⟨pb,rfl,rfl⟩
 refine eW ?_
 exact CR (ay.tmp 2 Z Z (ae.log ⟨q,a1,c1,a2,c2⟩ (IP 0 Z (IP 2 Z (IP 1 Z (IP 0 Z ae.nil))))).ar ⟨pb,Z,Z⟩)
end Lg
namespace Rd
open Go Vg T Api Kv Ch
attribute [local irreducible] VO VC VA
theorem ju{n k b M:Nat}(h:n≤k)(hk:k*b≤M):n*b≤M:=Nat.le_trans (Nat.mul_le_mul_right b h) hk
def iD(f:aa)(m:kQ):List Value:=f.cells m
abbrev hZ:TypeId:=204
structure Qw where
 id:Int
 f:aa
 r:jI
abbrev Kw:=Qw×kQ
def jH(x:Kw):List Value:=.int .i64 x.1.id::(iD x.1.f x.2++bn x.1.r)
theorem ru(x:Kw):(jH x).length=34:=rfl
abbrev mR:TypeId:=216
abbrev Iv:TypeId:=189
structure gx where
 cap:Int
 last:Int
 l:List Qw
structure Gx where
 a:Option Addr
 c:Nat
 rows:List Kw
def ry(R:gx)(x:Gx):List Value:=[.int .i64 R.cap,.int .i64 R.last,.slice x.a x.rows.length x.c]
def BL(p:Nat)(R:gx)(x:Gx):List HP:=[pt p (ry R x) Iv,aI mR 34 x.a x.rows.length x.c (flat jH x.rows)]
def xG(R:gx)(x:Gx):Prop:=x.rows.map Prod.fst=R.l
def bW(p:Nat)(R:gx):HP:=hex fun x=>cU (gu (xG R x)::BL p R x)
structure Fo(Fr:Nat→Prop)(w:World)(p:Nat)(R:gx)(x:Gx):Prop where
 ok:xG R x
 aP:eS Fr w p (ry R x)
 rows:aK jH 34 Fr w x.a x.rows
theorem Fo.of{Fr:Nat→Prop}{w:World}{p:Nat}{R:gx}(h:aM Fr [bW p R] w):∃x,Fo Fr w p R x:=by
 obtain⟨x,h⟩:=h.ex
 have h:=h.sep
 exact⟨x,h.pure 0 Z,h.aP 1 Z,aK.aI ru (h.at_ 2 Z)⟩
theorem aW.bD(p:Nat)(R:gx):aW (bW p R) (fun x=>xG R x) (fun x=>BL p R x):=by
 rintro w ids ⟨s,h⟩ hn
 obtain⟨F,G,rfl,⟨rfl,h1⟩,h2⟩:=h
 exact TZ
theorem ae.bD{p:Nat}{R:gx}{L M:List HP}(x:Gx)(hs:xG R x)(h:ae L (BL p R x++M)):ae L (bW p R::M):=
 ae.ex x (ae.sep (ae.trans h (ae.app (L:=BL p R x) (M:=_::BL p R x) (ae.pure hs ae.refl) ae.refl)))
theorem xG.len{R:gx}{x:Gx}(h:xG R x):x.rows.length=R.l.length:=by rw[←h];simp
def gx.new(cap:Int):gx:=⟨cap,0,[]⟩
theorem dJ{c:Int}(h0:1≤c)(h1:c≤16):aH Tryz.prog 51 [.int .i64 c] Fr w [] (fun v L=>∃q,v=.tuple #[.pointer (some ⟨q,0,none⟩),.int .i64 0]∧L=[bW q (gx.new c)]):=by
 refine TF 13 Tryz.func51 Z yn ah Z Z ?_
 refine an ?_
 refine VG (VY 6 false Z (DF yd) ?_)
 refine eR ?_
 refine CP Z (fun h=>by omega) (fun _=>CK ?_)
 refine an ?_
 refine VG (VI (LB (pv:=[(0,.int .i64 c)]) (ry (gx.new c) ⟨none,0,[]⟩) Z Z Z yn Z) ?_)
 refine VG (VB (vs:=ry (gx.new c) ⟨none,0,[]⟩) Z fun q=>?_)
 refine an ?_
 exact CR (ay.cV 2 3 Z Z Z (ae.bD (R:=gx.new c) ⟨none,0,[]⟩ Z (IP 0 Z (ae.bZ ae.nil))).ar ⟨q,Z,Z⟩)
section
variable {p:Nat} {R:gx}
theorem bj{c:Int}{cs:List Value}(h:eS Fr w p (.int .i64 c::cs))(hc:1≤c):aH Tryz.prog 228 [.pointer (some ⟨p,0,none⟩)] Fr w [] (fun v L=>v=.bool false∧L=[]):=by
 refine TF 12 Tryz.func228 Z yn ah Z Z ?_
 refine an ?_
 refine VG (VO.split 5 rfl rfl (fun h=>by cases h) (fun _=>?_))
 refine Fe ?_
 exact CR (ay.bool 2 Z Z ye ER ⟨rfl,Z⟩)
theorem fh(h:aM Fr [bW p R] w)(hc:1≤R.cap):aH Tryz.prog 241 [.pointer (some ⟨p,0,none⟩)] Fr w [] (fun v L=>v=.int .i64 R.l.length∧L=[]):=by
 obtain⟨x,hx⟩:=Fo.of h
 have hb:=hx.aP
 have hlen:=hx.ok.len
 refine TF 10 Tryz.func241 Z yn ah Z Z ?_
 refine an ?_
 refine VG (VV (fun Fr w hF hs _=>bj Fr w (hb.of hF hs) hc) Z ?_)
 refine xu ?_
 refine Dt ?_
 exact CR (ay.int 2 Z Z (by rw[hlen]) ER ⟨rfl,Z⟩)
def gx.nR(R:gx):Int:=match R.l.getLast? with
 | some x=>x.id
 | none=>0
theorem fJ(h:aM Fr [bW p R] w)(hc:1≤R.cap)(hl:R.l.length≤1000000):aH Tryz.prog 176 [.pointer (some ⟨p,0,none⟩)] Fr w [] (fun v L=>v=.tuple #[.int .i64 R.nR,.bool (!R.l.isEmpty)]∧L=[]):=by
 obtain⟨x,hx⟩:=Fo.of h
 have hb:=hx.aP
 have hlen:=hx.ok.len
 refine TF 20 Tryz.func176 Z yn ah Z Z ?_
 refine an ?_
 refine VG (VV (fun Fr w hF hs _=>fh Fr w (h.of hF hs) hc) Z ?_)
 refine an ?_
 refine CE Z (fun h1=>?_) (fun h1=>CK ?_)
 ·have h0:R.l=[]:=List.eq_nil_of_length_eq_zero yd
  refine an ?_
  exact CR (ay.cV 2 3 Z Z Z ER ⟨by rw[gx.nR,h0];rfl,Z⟩)
 ·have hpos:0<x.rows.length:=by omega
  obtain⟨y,hy⟩:∃y,x.rows[x.rows.length-1]?=some y:=⟨_,GE yd⟩
  have hgl:R.l.getLast?=some y.1:=by rw[List.getLast?_eq_getElem?,←hx.ok,ZS,ZR,hy];rfl
  obtain⟨eb,eo,hea,ra,rc⟩:=aK.rd (X:=⟨Tryz.prog,tab,ah,20,Fr,w⟩) hx.rows hy
  have hb2:eS Fr w p [.int .i64 R.cap,.int .i64 R.last,.slice (some ⟨eb,eo,none⟩) x.rows.length x.c]:=by rw[←hea];exact hb
  refine CS (CD (ts 0 15 .nil) yn yr ?_)
  (repeat(first|refine yG (yN ?_)|refine yG (yE rfl rfl rfl (aE.aP hb2 rfl) ?_)))
  refine Rm ?_
  refine AG (AI Z (a_ (x.rows.length-1) Z Z Z Z Z yd yd) ?_)
  refine eW ?_
  refine AG (VA.load Z Z Z (rc _ _ 0 _ Z Z) ?_)
  refine eW ?_
  exact CR (ay.cV 2 3 Z Z Z ER ⟨by
   rw[gx.nR,hgl]
   cases hR:R.l with
   | nil=>exfalso;apply h1;rw[hR];rfl
   | cons _ _=>rfl,rfl⟩)
end
theorem oA{a:Option Addr}{cap:Nat}{l:List bI}(h:aK ax 2 Fr w a l)(hl:l.length≤1000000):
  aH Tryz.prog 260 [.slice a l.length cap] Fr w [] (fun v L=>∃a' c',v=.slice a' l.length c'∧L=[aI aG 2 a' l.length c' (flat ax l)]):=by
 refine TF 8 Tryz.func260 Z yn ah Z Z ?_
 cases a with
 | none=>
  obtain rfl:l=[]:=by
   cases l with
   | nil=>rfl
   | cons x l=>obtain⟨b,o,h1,_⟩:=h.at_ yf;cases h1
  refine Kt ?_
  exact TX
 | some a=>
  refine xu ?_
  refine CS (CG (VG (VO.buildSlice (n:=0) (pv:=[]) [] Z Z Z Z yp Z fun b=>?_)))
  refine U8 ?_
  refine VG (VO.append (m:=l.length) (news:=flat ax l) 0 Z Z Z Z Z Z Z (aK.row aF h) (gU kB _) UM yd fun a' c' _=>?_)
  rw[ZQ,List.nil_append]
  refine an ?_
  exact TY
theorem rz(f:aa){a:Option Addr}{cap:Nat}{ms:List bI}(h:aK ax 2 Fr w a ms)(hl:ms.length≤1000000):aH Tryz.prog 287 [.agg (iD f (a,ms.length,cap)).toArray] Fr w [] (fun v L=>(∃m,v=.agg (iD f m).toArray)∧L=[]):=by
 refine TF 10 Tryz.func287 Z yn ah Z Z ?_
 refine CS (CG (VG (VB (vs:=iD f (a,ms.length,cap)) Z (fun b=>VG (VO.alloc Z fun c=>VG (VN ?_))))))
 refine jd ?_
 refine VG (VK (Lc:=[]) (fun Fr w hF hs _=>oA Fr w (h.of hF hs) hl) Z Z ?_)
 rintro _ _ ⟨a',c',rfl,rfl⟩
 refine VG (VO.st 2 (cs':=iD f (a',ms.length,c')) Z Z Z Z (by show 24<29;omega) Z Z (VG (VN ?_)))
 refine CS (CG (VG (VL 2 (iD f (a',ms.length,c')) Z Z Z Z (VG (VT (vs:=iD f (a',ms.length,c')) (cs':=iD f (a',ms.length,c')) 1 Z Z Z Z (NR _) Z Z Z (VG (VN ?_)))))))
 exact CR (ay.cell 2 Z Z Z (aE.many 1 Z Z) ae.nil.ar ⟨⟨_,Z⟩,Z⟩)
def gx.put(R:gx)(f:aa)(r:jI):gx:=if (R.l.length:Int)<R.cap then { R with last:=R.last+1,l:=R.l ++ [⟨R.last+1,f,r⟩] } else R
theorem uM(p:Nat)(R:gx)(hc:1≤R.cap)(hc1:R.cap≤16)(h0:0≤R.last)(h1:R.last≤1000000000)(f:aa){a:Option Addr}{cap:Nat}{ms:List bI}(h:aK ax 2 Fr w a ms)(hl:ms.length≤1000000)(r:jI):
  aH Tryz.prog 251 [.pointer (some ⟨p,0,none⟩),.agg (iD f (a,ms.length,cap)).toArray,.agg (bn r).toArray] Fr w [bW p R]
   (fun v L=>v=(if (R.l.length:Int)<R.cap then .tuple #[.int .i64 (R.last+1),.int .i64 0] else .tuple #[.int .i64 0,.int .i64 60])∧L=[bW p (R.put f r)]):=by
 refine TF 50 Tryz.func251 Z yn ah Z Z ?_
 refine CS (CG (VG (VB (vs:=iD f (a,ms.length,cap)) Z fun fb=>VG (VB (vs:=bn r) Z fun rb=>VG (VN ?_)))))
 refine VC.e_ 2 Z (aW.bD p R) ?_
 rintro x hx
 have hlen:=hx.len
 unfold BL
 show VC _ _ _ [pt p (ry R x) Iv,aI mR 34 x.a x.rows.length x.c (flat jH x.rows),pt rb (bn r) 153,pt fb (iD f (a,ms.length,cap)) hZ] _
 refine an ?_
 refine VG (VV (fun Fr w hF hs hS=>bj Fr w (hS.aP 0 Z) hc) Z ?_)
 refine an ?_
 refine H5 ?_
 refine CS (CD (ts 0 11 .nil) yn yr ?_)
 refine eW ?_
 by_cases hfull:(R.l.length:Int)<R.cap
 ·refine CP Z (fun h=>by omega) (fun _=>CK ?_)
  refine OW ?_
  refine VG (VO.st 0 (cs':=[.int .i64 R.cap,.int .i64 (R.last+1),.slice x.a x.rows.length x.c]) Z Z Z Z (ZT Z) Z Z ?_)
  refine Bd ?_
  refine CS (CD (ts 0 10 (.take 11 (.only 10 (.take 12 (.only 13 (.only 14 (ts 15 2 (.only 17 .nil)))))))) yn yr ?_)
  refine eW ?_
  refine AG (VA.ky 3 (iD f (a,ms.length,cap)) Z Z Z Z Z ?_)
  refine AG (VA.ky 2 (bn r) Z Z Z Z Z ?_)
  refine AG (VA.de (φ:=fun v=>∃m,v=.agg (iD f m).toArray) (fun Fr w hF hs hS=>rz Fr w f (h.of hF hs) hl) Z Z yu ?_)
  rintro _ ⟨m,rfl⟩
  refine AG (AI Z (LB (pv:=[(0,.int .i64 (R.last+1)),(1,.agg (iD f m).toArray),(2,.agg (bn r).toArray)]) (jH (⟨R.last+1,f,r⟩,m)) Z Z Z yn Z) ?_)
  refine AG (AO (a8.buildSlice (n:=1) (pv:=[(0,.agg (jH (⟨R.last+1,f,r⟩,m)).toArray)]) (cells:=jH (⟨R.last+1,f,r⟩,m)) Z Z Z Z yp (bJ Z Z Z)) Z ?_ ?_)
  ·rintro _ _ ⟨nb,rfl,rfl⟩
   exact yu
  rintro _ _ ⟨nb,rfl,rfl⟩
  refine AG (AO (a8.append (m:=1) (news:=jH (⟨R.last+1,f,r⟩,m)) 2 Z Z Z Z Z Z Z (dt.pt 0 Z Z Z) Z (ju (k:=101) yd yp) yd) Z ?_ ?_)
  ·rintro _ _ ⟨a1,c1,rfl,hc1,rfl⟩
   exact yu
  rintro _ _ ⟨a1,c1,rfl,hc1,rfl⟩
  refine Ko ?_
  refine AG (VA.st 2 (cs':=[.int .i64 R.cap,.int .i64 (R.last+1),.slice a1 (x.rows.length+1) c1]) Z Z Z Z Z (ZT Z) Z Z yu ?_)
  refine Ko ?_
  refine sj ?_
  have hput:R.put f r={ R with last:=R.last+1,l:=R.l ++ [⟨R.last+1,f,r⟩] }:=by rw[gx.put,if_pos hfull]
  refine CR (ay.cV 6 7 Z Z Z (ae.bD ⟨a1,c1,x.rows ++ [(⟨R.last+1,f,r⟩,m)]⟩ (R:=R.put f r) ?_ ?_).ar ⟨by rw[if_pos hfull],Z⟩)
  ·rw[hput];show List.map _ _=_;rw[List.map_append,hx];rfl
  ·rw[hput]
   unfold BL ry
   rw[ZM,bf,bO,fg,ZN]
   exact(dF [2,0])
 ·refine CP Z (fun h=>?_) (fun h=>by omega)
  have hput:R.put f r=R:=by rw[gx.put,if_neg hfull]
  refine an ?_
  exact CR (ay.cV 6 7 Z Z Z (ae.bD x hx (IP 0 Z (IP 0 Z ae.nil))).ar ⟨by rw[if_neg hfull],by rw[hput]⟩)
end Rd
namespace Vg
open Go
structure Ext(P:Program)(f:FuncId)(fn:Func)(g:Array Value→Sem Value):Prop where
 at_:P.funcs[f]?=some fn
 nm:(fn.name == "runtime.NumGoroutine")=false
 nb:fn.body.isNone=true
 nn:Extern.findNext fn=none
 ex:Extern.find fn=some g
theorem xH(a:Act)(f:FuncId)(args:Array Operand)(tys:Array TypeId)(dst:Option Tmp)(ty:TypeId)(pos:String)(after:Array Edge)(guard:Option (Nat×Bool)):
  execOp a.eval ⟨dst,.call ⟨.value (.func f),args,tys⟩,ty,pos,after,guard⟩=callFunc f (args.map a.eval):=by
 have ef:a.eval (.func f)=.func (.func f) #[] #[]:=rfl
 unfold execOp
 simp[resolve,Deferred.ofValue,invoke,ef]
section
variable {X:Cx} {e:Env} {L:List HP}
end
theorem kD{Fr:Nat→Prop}{B:Nat}{w w':World}(hF:∀b,Fr b→b<B)(h:RowKit.Below B w w')(hd:wJ w w'):dH Fr w w':=⟨h.os,h.tape,h.output,h.size,fun b hb=>h.block b (hF b hb),hd⟩
theorem aH.uN{P:Program}{f:FuncId}{args:List Value}{Fr:Nat→Prop}{w:World}{u:Value}(hc:dW P f)(h:Calls P f args.toArray w fun e w'=>e=.returned u∧RowKit.Below w.heap.size w w'∧wJ w w'):
  aH P f args Fr w [] (fun v L=>v=u∧L=[]):=
 ⟨hc,fun hl _=>Calls.mono h fun e w' ⟨h1,h2⟩=>⟨u,[],h1,⟨rfl,rfl⟩,Sat.nil,kD hl h2.1 h2.2⟩⟩
theorem aH.Nt{P:Program}{f:FuncId}{args:List Value}{Fr:Nat→Prop}{w:World}{u:Value}(hc:dW P f)(h:Calls P f args.toArray w fun e w'=>e=.returned u∧∃k os,w'=Sort.grow (w.drewN k) os):
  aH P f args Fr w [] (fun v L=>v=u∧L=[]):=
 aH.uN hc (Calls.mono h fun e w' ⟨h1,k,os,h2⟩=>⟨h1,by
  subst h2
  exact⟨⟨rfl,Z,Z,by show w.heap.size≤(w.heap++os).size;rw[Array.size_append];omega,fun j hj=>by
   show(w.heap++os)[j]?=w.heap[j]?
   rw[Array.getElem?_append,if_pos hj]⟩,wJ.up (Nat.le_add_right _ _)⟩⟩)
structure uO(P:Program)(Fr:Nat→Prop)(w:World)(nm:String)(k:IntKind)(zs:List Int):Prop where
 fr:∃g,P.globalNamed nm=some g∧Fr g
 is:Lib.TabIs P w nm k zs
theorem uO.cK{P:Program}{Fr Fr':Nat→Prop}{w w':World}{nm:String}{k:IntKind}{zs:List Int}(h:uO P Fr w nm k zs)(hF:∀b,Fr b→Fr' b)(hk:dH Fr w w'):uO P Fr' w' nm k zs:=by
 obtain⟨⟨g,hg,hf⟩,hi⟩:=h
 refine⟨⟨g,hg,hF g hf⟩,?_⟩
 unfold Lib.TabIs World.var? at hi ⊢
 rw[hg] at hi ⊢
 simp only[Option.bind_some] at hi ⊢
 rw[hk.block g hf];exact hi
def oB(b:Nat)(v:Value):List Nat:=b::v.ownBlock.toList
section
variable {X:Cx} {ops:Array Oper} {G:GS} {l:List Oper} {pl:je} {S:lF} {e:Env} {L:List HP} {K:Env→List HP→Prop}
  {dst:Option Tmp} {ty:TypeId} {pos:String} {after:Array Edge} {guard:Option (Nat×Bool)}
theorem VO.zT{T:TypeId}{ti:TI}(hT:aL X.tab T=some ti)(hk:∀b,X.w0.heap.size≤b→VO X ops G l (cE dst (.pointer (some ⟨b,0,none⟩)) e) (pt b ti.zs T::L) K)
  (hg:gT ops G guard=some true:=by rfl) (hd:bB X.n dst=true:=by rfl) (hf:bt G dst=true:=by rfl):
  VO X ops G (⟨dst,.alloc T,ty,pos,after,guard⟩::l) e L K:=by
 refine VO.op (M:=fun u L'=>∃b,X.w0.heap.size≤b∧u=.pointer (some ⟨b,0,none⟩)∧L'=pt b ti.zs T::L) hg hd hf ?_ (fun _ _ ⟨b,h0,h1,h2⟩=>by subst h1;subst h2;exact hk b h0)
 intro a w _ hw dst ty pos after guard
 refine .inl ⟨.pointer (some ⟨w.heap.size,0,none⟩),w.alloc (.cells ti.zs.toArray T),pt w.heap.size ti.zs T::L,?_,⟨w.heap.size,hw.cK.size,Z,Z⟩,hw.alloc ti.zs T⟩
 have h:=X.ok.look hT
 simp[execOp,Instr.alloc,kz h,newVar,newRow,newObj,Sem.run,h.zero]
end
end Vg
namespace Vg
open Go
def BM(tB:TypeId)(w:World)(x:Nat):Prop:=∃o,w.heap[x]?=some o∧∀c fz,o≠.cells c tB fz
def NB(tB:TypeId)(H:HP):Prop:=∀ids w,H.sat ids w→∀x∈ids,BM tB w x
section
variable {tB:TypeId}
theorem NB.pt{b t:Nat}{cs:List Value}(h:t≠tB):NB tB (pt b cs t):=fun ids w ⟨h1,h2⟩ x hx=>by
 subst h1
 simp only[Z7] at hx;subst hx
 exact⟨_,h2,fun c fz e=>by cases e;exact h rfl⟩
theorem NB.map{κ α:Type}{c:κ→Value}{d:α→Value}{b:Nat}{xs:List (κ×α)}:NB tB (gO c d b xs):=fun ids w ⟨h1,es,k,h2,_⟩ x hx=>by
 subst h1
 simp only[Z7] at hx;subst hx
 exact⟨_,h2,fun c fz e=>by cases e⟩
theorem NB.pure{φ:Prop}:NB tB (gu φ):=fun ids w ⟨h1,_⟩ x hx=>by subst h1;cases hx
theorem NB.ex{α:Type}{f:α→HP}(h:∀x,NB tB (f x)):NB tB (hex f):=fun ids w ⟨x,hx⟩=>h x ids w hx
theorem dM.nb:∀{L:List HP} {F:List Nat} {w:World},(∀H∈L,NB tB H)→dM L F w→∀x∈F,BM tB w x
 | [],F,w,_,h,x,hx=>by cases h;cases hx
 | H::L,F,w,hL,⟨i,G,hF,hi,hG⟩,x,hx=>by
  subst hF
  rcases ZY.1 hx with hx | hx
  ·exact hL H yf i w hi x hx
  ·exact dM.nb (fun K hK=>hL K (by simp[hK])) hG x hx
theorem NB.sep{L:List HP}(h:∀H∈L,NB tB H):NB tB (cU L):=fun ids w hs x hx=>dM.nb h hs x hx
theorem NB.sl{el esz n cap:Nat}{a:Option Addr}{cs:List Value}(h:el≠tB):NB tB (aI el esz a n cap cs):=fun ids w ⟨_,hc⟩ x hx=>by
 rcases hc with ⟨_,_,_,rfl⟩ | ⟨b,rest,_,rfl,_,_,hb⟩
 ·cases hx
 ·simp only[Z7] at hx;subst hx
  exact⟨_,hb,fun c fz e=>by cases e;exact h rfl⟩
theorem h_:∀H∈([]:List HP),NB tB H:=fun _ h=>by cases h
theorem d_{H:HP}{L:List HP}(h:NB tB H)(hL:∀K∈L,NB tB K):∀K∈H::L,NB tB K:=fun K hK=>by
 rcases ZV.1 hK with rfl | hK
 ·exact h
 ·exact hL K hK
end
theorem a8.O'{X:Cx}{f:FuncId}{args:Array Operand}{tys:Array TypeId}{e:Env}{L Lc Lr:List HP}{vals:List Value}{R:Value→List HP→Prop}
  (hargs:lE e args.toList=some vals) (hp:L.Perm (Lc++Lr))
  (ht:∀Fl w,St X L w→dM Lr Fl w→aH X.P f vals (fun b=>X.Fr b∨b∈Fl) w Lc R):
  a8 X (.call ⟨.value (.func f),args,tys⟩) e L (fun v L'=>∃L1,R v L1∧L'=L1++Lr):=by
 intro a w ha hw dst ty pos after guard
 obtain⟨F,hs,hnd,hb⟩:=hw.sat.perm hp
 obtain⟨Fc,Fl,rfl,hsc,hsl⟩:=dM.append.1 hs
 have T:=ht Fl w hw hsl
 have hev:args.map a.eval=vals.toArray:=by
  have:=ha.lE hargs
  apply Array.toList_inj.1
  simpa using this
 refine .inr (.inr ⟨f,vals.toArray,?_,?_⟩)
 ·rw[←hev];exact uA T.om a args tys dst ty pos after guard w
 ·obtain⟨hnc,hnl,hdis⟩:=Z8.1 hnd
  refine Calls.mono (T.calls (fun b h=>?_) ⟨Fc,hsc,hnc,fun b h=>⟨fun h'=>?_,(hb b ya).2⟩⟩) fun en w' ⟨v,L',h1,h2,h3,h4⟩=>?_
  ·rcases h with h | h
   ·exact hw.nZ b h
   ·exact(hb b ya).2
  ·rcases h' with h' | h'
   ·exact(hb b ya).1 h'
   ·exact hdis b h b h' rfl
  ·refine⟨v,L'++Lr,h1,⟨L',h2,Z⟩,⟨?_,hw.cK.trans (h4.mono fun b h=>.inl h),hw.low⟩⟩
   obtain⟨G,hG,hGn,hGb⟩:=h3
   refine⟨G++Fl,dM.append.2 ⟨G,Fl,Z,hG,hsl.loc fun b h=>h4.block b (.inr h)⟩,?_,?_⟩
   ·exact UT
   ·intro b h
    rcases ZY.1 h with h | h
    ·exact UU
    ·exact TO
theorem a8.zV{X:Cx}{e:Env}{L:List HP}{f:FuncId}{args:Array Operand}{tys:Array TypeId}{vals:List Value}{H:HP}{R:Value→List HP→Prop}{ψ:Value→HP→Prop}(i:Nat)
  (hL:L[i]?=some H) (ht:∀Fl w,St X L w→dM (L.eraseIdx i) Fl w→aH X.P f vals (fun b=>X.Fr b∨b∈Fl) w [H] R) (hargs:lE e args.toList=some vals)
  (hR:∀v L1,R v L1→∃H',L1=[H']∧ψ v H'):
  a8 X (.call ⟨.value (.func f),args,tys⟩) e L (fun v L'=>∃H',ψ v H'∧L'=L.set i H'):=by
 intro a w ha hw dst ty pos after guard
 have hi:i<L.length:=(ZP.1 hL).1
 have key:∀v w' L',(∃L1,R v L1∧L'=L1++L.eraseIdx i)→St X L' w'→∃L'',(∃H',ψ v H'∧L''=L.set i H')∧St X L'' w':=by
  rintro v w' _ ⟨L1,h1,rfl⟩ hs
  obtain⟨H',rfl,hψ⟩:=hR v L1 h1
  exact UW
 rcases a8.O' (R:=R) hargs (Lc:=[H]) (Lr:=L.eraseIdx i) (bM hL) ht a w ha hw dst ty pos after guard with ⟨v,w',L',h1,h2,h3⟩ | ⟨w',L',h1,h2,h3⟩ | ⟨f,args,h1,h2⟩
 ·obtain⟨L'',h4,h5⟩:=key _ _ _ h2 h3
  exact TP
 ·obtain⟨L'',h4,h5⟩:=key _ _ _ h2 h3
  exact TQ
 ·refine .inr (.inr ⟨f,args,h1,Calls.mono h2 fun en w' ⟨v,L',h3,h4,h5⟩=>?_⟩)
  obtain⟨L'',h6,h7⟩:=key _ _ _ h4 h5
  exact⟨v,L'',h3,h6,h7⟩
theorem zW{w w':World}{B e n:Nat}{v:Value}{xs:List Value}(h:w.ownsRowF B e 1 v n xs)(hb:∀g,v.ownBlock=some g→w'.heap[g]?=w.heap[g]?):w'.ownsRowF B e 1 v n xs:=by
 refine⟨h.1,h.2.imp id ?_⟩
 rintro⟨g,cap,cur,fz,rfl,h1,h2,h3⟩
 exact⟨g,cap,cur,fz,Z,h1,(hb g Z).trans h2,h3⟩
def DX(T el B b:Nat)(bs:List Value):HP:=
  ⟨fun ids w=>∃(v:Value) (p:Option Addr),(p=none∨p=some ⟨b,0,none⟩)∧ids=oB b v∧B≤b∧w.heap[b]?=some (.cells #[.pointer p,v] T (0,0))∧w.ownsRowF B el 1 v bs.length bs∧v.ownBlock≠some b,
   fun ids w w' hb ⟨v,p,h1,h2,h3,h4,h5,h6⟩=>⟨v,p,h1,h2,h3,(hb b (by simp[h2,oB])).trans h4,zW h5 (fun g hg=>hb g (by simp[h2,oB,hg])),h6⟩⟩
theorem zX{T el B b:Nat}{bs:List Value}{Fr:Nat→Prop}{w:World}(h:Sat Fr [DX T el B b bs] w):Lib.IsBuilderF T el B b bs w∧B≤w.heap.size∧¬Fr b:=by
 obtain⟨F,⟨ids,G,hF,⟨v,p,h1,h2,h3,h4,h5,h6⟩,hG⟩,hn,hb⟩:=h
 have hlt:b<w.heap.size:=(Array.getElem?_eq_some_iff.1 h4).1
 refine⟨?_,by omega,(hb b (by rw[hF,h2];simp[oB])).1⟩
 rcases h1 with rfl | rfl
 ·exact .inl ⟨h3,v,h4,h5,h6⟩
 ·exact .inr ⟨h3,v,h4,h5,h6⟩
theorem Fp{T el B b:Nat}{bs:List Value}{Fr:Nat→Prop}{w w':World}(hF:∀x,Fr x→x<B∨BM el w x)(hk:Lib.OthersKept el (some b) w w')(hb0:¬Fr b)(h:Lib.BuilderAtF T el B b (.pointer (some ⟨b,0,none⟩)) bs w'):Sat Fr [DX T el B b bs] w':=by
 obtain⟨hB,v,h4,h5,h6⟩:=h
 have hlt:b<w'.heap.size:=(Array.getElem?_eq_some_iff.1 h4).1
 refine⟨oB b v,⟨oB b v,[],by simp,⟨v,_,.inr Z,Z,hB,h4,h5,h6⟩,Z⟩,?_,?_⟩
 ·unfold oB
  cases hv:v.ownBlock with
  | none=>simp
  | some g=>
   simp only[Option.toList_some,List.nodup_cons,Z7,List.not_mem_nil,not_false_eq_true,List.nodup_nil,and_self,and_true]
   intro e;exact h6 (by rw[hv,e])
 ·intro x hx
  unfold oB at hx
  rcases ZV.1 hx with rfl | hx
  ·exact⟨hb0,hlt⟩
  ·have hv:v.ownBlock=some x:=by simpa using hx
   obtain⟨h7,h8⟩:=h5.lt x hv
   refine⟨fun h=>?_,h8⟩
   rcases hF x h with h9 | ⟨o,ho,hne⟩
   ·omega
   ·have hxb:some x≠some b:=fun e=>by rw[←e] at h6;exact h6 hv
    have:=hk x o ho hxb hne
    rcases h5.2 with ⟨h10,_⟩ | ⟨g,cap,cur,fz,h10,_,h11,_⟩
    ·rw[h10] at hv;cases hv
    ·rw[h10] at hv
     obtain rfl:g=x:=by simpa[Value.ownBlock] using hv
     rw[h11] at this
     exact hne cur fz (Z3 this).symm
theorem ae.DX{L M:List HP}{T el B b:Nat}(hB:B≤b)(h:ae L (pt b [.pointer none,.slice none 0 0] T::M)):ae L (DX T el B b []::M):=fun w F hs hn=>by
 obtain⟨F',⟨G,K,rfl,⟨rfl,hG⟩,hK⟩,h2,h3⟩:=h w F hs hn
 exact⟨[b]++K,⟨[b],K,Z,⟨.slice none 0 0,none,.inl Z,Z,hB,hG,World.ownsRowF_nil _ _ _ _,by simp[Value.ownBlock]⟩,hK⟩,h2,h3⟩
theorem oC{Fr:Nat→Prop}{B tB b:Nat}{w w':World}(hF:∀x,Fr x→x<B∨BM tB w x)(hb0:¬Fr b)(h:RowKit.Below B w w')(hk:Lib.OthersKept tB (some b) w w')(hd:wJ w w'):dH Fr w w':=
 ⟨h.os,h.tape,h.output,h.size,fun x hx=>by
  rcases hF x hx with h9 | ⟨o,ho,hne⟩
  ·exact h.block x h9
  ·rw[ho]
   exact hk x o ho (fun e=>hb0 ((Z3 e)▸hx)) hne,hd⟩
theorem RL.Ok.ld{α:Type}{c:α→List Value}{n t:Nat}{r:RL α}(h:r.Ok c n){k:Nat}{x:α}(hx:r.xs[k]?=some x)(hc:(c x).length=n):∃b off,r.aP=some b∧r.addr=some ⟨b,off,Option.none⟩ ∧
  ∀{X:Cx} {L:List HP} (i:Nat),L[i]?=some (r.h t)→(∀ti:TI,n=ti.size→ti.aU.agg=true→aE X L ti b (off+k*n) (.agg (c x).toArray)) ∧
   ∀(ti:TI) (j:Nat) (v:Value),ti.aU.agg=false→(c x)[j]?=some v→aE X L ti b (off+k*n+j) v:=by
 obtain⟨b,off,h1,h2,h3⟩:=h.nth hx
 refine⟨b,off,h1,h2,fun {X L} i hL=>?_⟩
 rw[RL.PN h1] at hL
 refine⟨fun ti hn ha=>aE.many i hL (by rw[←hn];exact h3) (by rw[hc,hn]) ha,fun ti j v ha hv=>aE.one i hL ?_ ha⟩
 rw[←h3,List.getElem?_take] at hv
 split at hv
 ·rw[List.getElem?_drop] at hv;exact hv
 ·cases hv
end Vg
namespace Rd
open Go Vg T Api Kv Ch
attribute [local irreducible] VO VC VA
theorem BN{Fr Fr':Nat→Prop}{w w':World}{b:Nat}{cs:List Value}(h:eS Fr w b cs)(hF:∀b,Fr b→Fr' b)(hk:dH Fr w w'):eS Fr' w' b cs:=by
 obtain⟨t,fz,ht⟩:=h.at_
 exact⟨hF b h.fr,t,fz,by rw[hk.block b h.fr];exact ht⟩
theorem mg(p:Nat)(R:gx)(hc:1≤R.cap)(hl:R.l.length≤100)(g:FuncId)(capt:List Value)(st:Qw→Bool)
  (hg:∀Fr' w',(∀b,Fr b→Fr' b)→dH Fr w w'→∀row:Kw,aH Tryz.prog g (.agg (jH row).toArray::capt) Fr' w' [] (fun v L=>v=.bool (st row.1)∧L=[])):
  aH Tryz.prog 159 [.pointer (some ⟨p,0,none⟩),pT g [] capt] Fr w [bW p R]
   (fun v L=>∃a c rows,rows.map Prod.fst=R.l.filter (fun x=>!st x)∧v=.slice a rows.length c∧L=[bW p { R with l:=R.l.filter st },aI mR 34 a rows.length c (flat jH rows)]):=by
 refine TF 37 Tryz.func159 Z yn ah Z Z ?_
 refine VC.e_ 0 Z (aW.bD p R) ?_
 rintro x hx
 have hlen:=hx.len
 unfold BL
 show VC _ _ _ [pt p (ry R x) Iv,aI mR 34 x.a x.rows.length x.c (flat jH x.rows)] _
 refine an ?_
 refine VG (VV (fun Fr w hF hs hS=>bj Fr w (hS.aP 0 Z) hc) Z ?_)
 refine xu ?_
 refine VC.e_ 1 Z (aW.rl mR x.a x.c x.rows ru) ?_
 rintro r ⟨rok,hrv,hrx⟩
 show VC _ _ _ [r.h mR,pt p (ry R x) Iv] _
 refine jd ?_
 refine VC.loop (σ:=Nat×List Kw×List Kw×(Option Addr×Nat)×(Option Addr×Nat)) (fun y=>[(0,pV p),(1,pT g [] capt),(5,.slice y.2.2.2.1.1 y.2.1.length y.2.2.2.1.2),(6,.slice y.2.2.2.2.1 y.2.2.1.length y.2.2.2.2.2),(14,.slice x.a x.rows.length x.c),(15,.int .i64 x.rows.length),(16,.int .i64 y.1)])
  (fun y=>[aI mR 34 y.2.2.2.1.1 y.2.1.length y.2.2.2.1.2 (flat jH y.2.1),aI mR 34 y.2.2.2.2.1 y.2.2.1.length y.2.2.2.2.2 (flat jH y.2.2.1),pt p (ry R x) Iv,r.h mR])
  (fun y=>y.1≤x.rows.length∧y.2.1.map Prod.fst=(R.l.take y.1).filter st∧y.2.2.1.map Prod.fst=(R.l.take y.1).filter (fun z=>!st z)∧y.2.1.length≤y.1∧y.2.2.1.length≤y.1) (fun y=>x.rows.length-y.1) (0,[],[],(none,0),(none,0))
  ⟨ZO _,rfl,rfl,NR _,NR _⟩ ba (ae.bZ (ae.bZ (dF [1,0]))).ar ?_
 rintro⟨i,K,D,⟨ak,ck⟩,⟨ag,cg⟩⟩ ⟨hi,hK,hD,hKl,hDl⟩
 dsimp only at hi hK hD hKl hDl ⊢
 refine an ?_
 refine CP Z (fun h1=>CK ?_) (fun h1=>CX ?_)
 ·have hi2:i<x.rows.length:=by omega
  obtain⟨row,hrow⟩:∃row,x.rows[i]?=some row:=⟨_,GE hi2⟩
  have hli:R.l[i]?=some row.1:=by rw[←hx,ZS,hrow];rfl
  have htk:R.l.take (i+1)=R.l.take i ++ [row.1]:=by rw[ZZ,hli];rfl
  obtain⟨rb,ro,r1,r2,hrd⟩:=rok.ld (t:=mR) (hrx▸hrow) rfl
  have hxa:x.a=some ⟨rb,ro,none⟩:=by rw[RL.v,r2,hrx] at hrv;injection hrv with e1;exact e1.symm
  rw[hxa]
  refine KN ?_
  refine VG (VO.load Z Z ((hrd 3 Z).1 _ Z Z) ?_)
  refine VG (VO.alloc Z fun tb=>?_)
  refine VG (VT (vs:=jH row) 0 Z Z Z Z (NR _) Z Z Z ?_)
  refine Wm ?_
  refine VG (VO.sr (u:=.bool (st row.1)) Z (fun Fr w hF hs hS=>hg Fr w hF hs.cK row) Z ?_)
  refine an ?_
  refine CC Z (fun hst=>?_) (fun hst=>?_)
  ·refine Wm ?_
   refine VG (VO.buildSlice (n:=1) (pv:=[(0,.agg (jH row).toArray)]) (jH row) Z Z Z Z yp (bJ Z Z Z) fun nb=>?_)
   refine VG (VO.append (m:=1) (news:=jH row) 2 Z Z Z Z Z Z Z (dt.pt 0 Z Z Z) Z (ju (k:=201) yd yp) yd fun a2 c2 hc2=>?_)
   refine sh ?_
   have hL:(K ++ [row]).length=K.length+1:=by simp
   have hF:flat jH (K ++ [row])=flat jH K++jH row:=by simp[bf,bO,fg]
   refine⟨(i+1,K ++ [row],D,(a2,c2),(ag,cg)),⟨hi2,?_,?_,by dsimp only;rw[hL];omega,by dsimp only;omega⟩,by dsimp only;omega,SC Z (SC Z (SC RR ba)),?_⟩
   ·dsimp only;rw[List.map_append,hK,htk,List.filter_append];simp[hst]
   ·dsimp only;rw[hD,htk,List.filter_append];simp[hst]
   ·dsimp only;rw[hL,hF];exact(dF [0,2,2,2]).ar
  ·refine Wm ?_
   refine VG (VO.buildSlice (n:=1) (pv:=[(0,.agg (jH row).toArray)]) (jH row) Z Z Z Z yp (bJ Z Z Z) fun nb=>?_)
   refine VG (VO.append (m:=1) (news:=jH row) 3 Z Z Z Z Z Z Z (dt.pt 0 Z Z Z) Z (ju (k:=201) yd yp) yd fun a2 c2 hc2=>?_)
   refine sh ?_
   have hL:(D ++ [row]).length=D.length+1:=by simp
   have hF:flat jH (D ++ [row])=flat jH D++jH row:=by simp[bf,bO,fg]
   refine⟨(i+1,K,D ++ [row],(ak,ck),(a2,c2)),⟨hi2,?_,?_,by dsimp only;omega,by dsimp only;rw[hL];omega⟩,by dsimp only;omega,SC Z (SC Z (SC Z (SC RR ba))),?_⟩
   ·dsimp only;rw[hK,htk,List.filter_append];simp[hst]
   ·dsimp only;rw[List.map_append,hD,htk,List.filter_append];simp[hst]
   ·dsimp only;rw[hL,hF];exact(dF [3,0,2,2]).ar
 ·obtain rfl:i=x.rows.length:=by omega
  rw[hlen,Z'] at hK hD
  refine an ?_
  refine VG (VO.st 2 (cs':=[.int .i64 R.cap,.int .i64 R.last,.slice ak K.length ck]) Z Z Z Z (ZT Z) Z Z ?_)
  refine an ?_
  exact CR (ay.tmp 4 Z Z (ae.bD (R:={ R with l:=R.l.filter st }) ⟨ak,ck,K⟩ hK (IP 2 Z (IP 0 Z (IP 0 Z ae.nil)))).ar ⟨ag,cg,D,hD,Z,Z⟩)
section
variable {p:Nat} {R:gx}
def jJ(id:Int)(x:Qw):Bool:=decide (id<x.id)
def pX(now:Int)(x:Qw):Bool:=decide (now≤x.f.deadline)
theorem DY{b:Nat}{id:Int}(hb:eS Fr w b [.int .i64 id])(row:Kw):aH Tryz.prog 259 [.agg (jH row).toArray,.pointer (some ⟨b,0,none⟩)] Fr w [] (fun v L=>v=.bool (jJ id row.1)∧L=[]):=by
 refine TF 8 Tryz.func259 Z yn ah Z Z ?_
 refine CS (CG (VG (VB (vs:=jH row) Z fun rb=>?_)))
 refine XJ ?_
 exact CR (ay.tmp 3 Z Z ae.nil.ar ⟨rfl,Z⟩)
theorem zY{b:Nat}{now:Int}(hb:eS Fr w b [.int .i64 now])(row:Kw):aH Tryz.prog 160 [.agg (jH row).toArray,.pointer (some ⟨b,0,none⟩)] Fr w [] (fun v L=>v=.bool (pX now row.1)∧L=[]):=by
 refine TF 9 Tryz.func160 Z yn ah Z Z ?_
 refine CS (CG (VG (VB (vs:=jH row) Z fun rb=>?_)))
 refine XJ ?_
 exact CR (ay.tmp 3 Z Z ae.nil.ar ⟨rfl,Z⟩)
theorem BO(row:Kw):aH Tryz.prog 292 [.agg (jH row).toArray] Fr w [] (fun v L=>v=.bool false∧L=[]):=by
 refine TF 3 Tryz.func292 Z yn ah Z Z ?_
 refine CS (CG (VG (VB (vs:=jH row) Z fun rb=>?_)))
 refine an ?_
 exact KH
theorem Gy(hc:1≤R.cap)(hl:R.l.length≤100)(id:Int):aH Tryz.prog 199 [.pointer (some ⟨p,0,none⟩),.int .i64 id] Fr w [bW p R]
   (fun v L=>∃a c rows,rows.map Prod.fst=R.l.filter (fun x=>!jJ id x)∧v=.slice a rows.length c∧L=[bW p { R with l:=R.l.filter (jJ id) },aI mR 34 a rows.length c (flat jH rows)]):=by
 refine TF 8 Tryz.func199 Z yn ah Z Z ?_
 refine CS (CG (VG (VO.O8 (a8.box (vs:=[.int .i64 id]) Z Z) ?_)))
 rintro _ _ ⟨b,rfl,rfl⟩
 refine an ?_
 refine UX ?_
 refine VO.ar (L':=[bW p R,pt b [.int .i64 id] 3]) (dF [1,0]).ar ?_
 refine VG (VK (Lc:=[bW p R]) (fun Fr w hF hw hS=>mg Fr w p R hc hl 259 [.pointer (some ⟨b,0,none⟩)] (jJ id) (fun Fr' w' hF' hk row=>DY Fr' w' (BN (hS.aP 0 Z) hF' hk) row)) Z Z ?_)
 rintro _ _ ⟨a,c,rows,h1,rfl,rfl⟩
 refine an ?_
 exact XK
theorem im(hc:1≤R.cap)(hl:R.l.length≤100)(now:Int):aH Tryz.prog 96 [.pointer (some ⟨p,0,none⟩),.int .i64 now] Fr w [bW p R]
   (fun v L=>∃a c rows,rows.map Prod.fst=R.l.filter (fun x=>!pX now x)∧v=.slice a rows.length c∧L=[bW p { R with l:=R.l.filter (pX now) },aI mR 34 a rows.length c (flat jH rows)]):=by
 refine TF 8 Tryz.func96 Z yn ah Z Z ?_
 refine CS (CG (VG (VO.O8 (a8.box (vs:=[.int .i64 now]) Z Z) ?_)))
 rintro _ _ ⟨b,rfl,rfl⟩
 refine an ?_
 refine UX ?_
 refine VO.ar (L':=[bW p R,pt b [.int .i64 now] 3]) (dF [1,0]).ar ?_
 refine VG (VK (Lc:=[bW p R]) (fun Fr w hF hw hS=>mg Fr w p R hc hl 160 [.pointer (some ⟨b,0,none⟩)] (pX now) (fun Fr' w' hF' hk row=>zY Fr' w' (BN (hS.aP 0 Z) hF' hk) row)) Z Z ?_)
 rintro _ _ ⟨a,c,rows,h1,rfl,rfl⟩
 refine an ?_
 exact XK
theorem qt(hc:1≤R.cap)(hl:R.l.length≤100):aH Tryz.prog 255 [.pointer (some ⟨p,0,none⟩)] Fr w [bW p R]
   (fun v L=>∃a c rows,rows.map Prod.fst=R.l∧v=.slice a rows.length c∧L=[bW p { R with l:=[] },aI mR 34 a rows.length c (flat jH rows)]):=by
 refine TF 5 Tryz.func255 Z yn ah Z Z ?_
 refine an ?_
 refine VG (VK (Lc:=[bW p R]) (fun Fr w hF hw hS=>mg Fr w p R hc hl 292 [] (fun _=>false) (fun Fr' w' hF' hk row=>BO Fr' w' row)) Z Z ?_)
 rintro _ _ ⟨a,c,rows,h1,rfl,rfl⟩
 refine an ?_
 refine CR (ay.tmp 2 Z Z ER ⟨a,c,rows,?_,Z,?_⟩)
 ·rw[h1];simp
 ·rw[show R.l.filter (fun _=>false)=[] from List.filter_eq_nil_iff.2 yf];rfl
end
end Rd
namespace Ring
open Go Vg T Api
attribute [local irreducible] VO VC VA
theorem qu(m:kQ)(h:Dw Fr w m):aH Tryz.prog 260 [.slice m.1 m.2.1 m.2.2] Fr w [] (fun v L=>∃m':kQ,v=.slice m'.1 m'.2.1 m'.2.2∧L=[wN m']):=by
 obtain⟨a,n,c⟩:=m
 obtain⟨l,hl,hl2,h⟩:=h
 dsimp only at hl h ⊢
 subst hl
 have key:∀(a':Option Addr) (c':Nat),ae [aI aG 2 a' l.length c' (flat ax l)] [wN (a',l.length,c')]:=fun a' c'=>
  ae.ex (f:=fun ms:List bI=>cU [gu (ms.length=l.length∧ms.length≤1000000),aI aG 2 a' l.length c' (flat ax ms)]) l (ae.sep (Ls:=[gu _,aI aG 2 a' l.length c' (flat ax l)]) (ae.pure ⟨rfl,hl2⟩ ae.refl))
 refine TF 8 Tryz.func260 Z yn ah Z Z ?_
 cases a with
 | none=>
  obtain rfl:l=[]:=by
   cases l with
   | nil=>rfl
   | cons x l=>obtain⟨b,o,h1,_⟩:=h.at_ yf;cases h1
  refine Kt ?_
  exact CR (ay.tmp 2 Z Z (ae.Wq ae.nil).ar ⟨(none,0,0),Z,Z⟩)
 | some a=>
  refine xu ?_
  refine CS (CG (VG (VO.buildSlice (n:=0) (pv:=[]) [] Z Z Z Z yp Z fun b=>?_)))
  refine U8 ?_
  refine VG (VO.append (m:=l.length) (news:=flat ax l) 0 Z Z Z Z Z Z Z (aK.row aF h) (gU kB _) UM yd fun a' c' _=>?_)
  rw[ZQ,List.nil_append]
  refine an ?_
  exact CR (ay.tmp 2 Z Z (key a' c').ar ⟨(a',l.length,c'),Z,Z⟩)
theorem rz(p:FM)(h:Dw Fr w p.2):aH Tryz.prog 308 [.agg (cG p).toArray] Fr w [] (fun v L=>∃m,v=.agg (cG (p.1,m)).toArray∧L=[wN m]):=by
 refine TF 10 Tryz.func308 Z yn ah Z Z ?_
 refine CS (CG (VG (VB (vs:=cG p) Z (fun b=>VG (VO.alloc Z fun c=>VG (VN ?_))))))
 refine jd ?_
 refine VG (VK (Lc:=[]) (fun Fr w hF hs _=>qu Fr w p.2 (h.of hF hs)) Z Z ?_)
 rintro _ _ ⟨m,rfl,rfl⟩
 refine VG (VO.st 2 (cs':=cG (p.1,m)) Z Z Z Z (by show 24<29;omega) Z Z (VG (VN ?_)))
 refine CS (CG (VG (VL 2 (cG (p.1,m)) Z Z Z Z (VG (VT (vs:=cG (p.1,m)) (cs':=cG (p.1,m)) 1 Z Z Z Z (NR _) Z Z Z (VG (VN ?_)))))))
 exact CR (ay.cell 2 Z Z Z (aE.many 1 Z Z) (IP 0 Z ae.nil).ar ⟨m,Z,Z⟩)
structure tA where
 pb:Nat
 pl:List FM
 first:Nat
structure ia(q:List aa)(cap:Nat)(s:tA):Prop where
 len:s.pl.length=cap
 eV:1≤cap
 gV:cap≤64
 first:s.first<cap
 Nu:q.length≤cap
 at_:∀i,i<q.length→(s.pl[(s.first+i) % cap]?).map Prod.fst=q[i]?
def sw(q:List aa)(cap:Nat)(s:tA):List Value:=[.slice (some ⟨s.pb,0,none⟩) cap cap,.int .i64 s.first,.int .i64 q.length]
def pY(p:Nat)(q:List aa)(cap:Nat)(s:tA):List HP:=pt p (sw q cap s) 325::pt s.pb (flat cG s.pl) 204::s.pl.map fun r=>wN r.2
def b_(p:Nat)(q:List aa)(cap:Nat):HP:=hex fun s=>cU (gu (ia q cap s)::pY p q cap s)
structure zZ(Fr:Nat→Prop)(w:World)(p:Nat)(q:List aa)(cap:Nat)(s:tA):Prop where
 ok:ia q cap s
 ring:eS Fr w p (sw q cap s)
 places:eS Fr w s.pb (flat cG s.pl)
 mem:∀(i:Nat) (r:FM),s.pl[i]?=some r→Dw Fr w r.2
theorem zZ.of{Fr:Nat→Prop}{w:World}{p:Nat}{q:List aa}{cap:Nat}(h:aM Fr [b_ p q cap] w):∃s,zZ Fr w p q cap s:=by
 obtain⟨s,h⟩:=h.ex
 have h:=h.sep
 exact⟨s,h.pure 0 Z,h.aP 1 Z,h.aP 2 Z,fun i r hr=>Dw.sat (h.at_ (i+3) (Sz hr))⟩
theorem aW.ring(p:Nat)(q:List aa)(cap:Nat):aW (b_ p q cap) (fun s=>ia q cap s) (fun s=>pY p q cap s):=by
 rintro w ids ⟨s,h⟩ hn
 obtain⟨F,G,rfl,⟨rfl,h1⟩,h2⟩:=h
 exact TZ
theorem ae.ring{p:Nat}{q:List aa}{cap:Nat}{L M:List HP}(s:tA)(hs:ia q cap s)(h:ae L (pY p q cap s++M)):ae L (b_ p q cap::M):=
 ae.ex s (ae.sep (ae.trans h (ae.app (L:=pY p q cap s) (M:=_::pY p q cap s) (ae.pure hs ae.refl) ae.refl)))
theorem bj{p:Nat}{a:Addr}{n c:Nat}{cs:List Value}(h:eS Fr w p (.slice (some a) n c::cs)):aH Tryz.prog 300 [.pointer (some ⟨p,0,none⟩)] Fr w [] (fun v L=>v=.bool false∧L=[]):=by
 refine TF 12 Tryz.func300 Z yn ah Z Z ?_
 refine an ?_
 refine VG (VO.split 5 rfl rfl (fun h=>by cases h) (fun _=>?_))
 refine Fe ?_
 exact Ro
theorem qv{p pb first cap:Nat}{cs:List Value}(i:Nat)(h:eS Fr w p (.slice (some ⟨pb,0,none⟩) cap cap :: .int .i64 first::cs))(hc:1≤cap)(h1:first≤1000)(h2:i≤1000):
  aH Tryz.prog 299 [.pointer (some ⟨p,0,none⟩),.int .i64 i] Fr w [] (fun v L=>v=.int .i64 ((first+i) % cap:Nat)∧L=[]):=by
 refine TF 17 Tryz.func299 Z yn ah Z Z ?_
 refine an ?_
 refine CD (ts 0 13 .nil) yn yn ?_
 refine Kn ?_
 refine AG (AP Z Z Z ?_ ?_ ?_)
 ·omega
 ·omega
 refine Kn ?_
 refine AG (AI Z (lY Z Z ?_ ?_) ?_)
 ·omega
 ·omega
 refine eW ?_
 exact CR (ay.int 4 Z Z (by push_cast;rfl) ER ⟨rfl,Z⟩)
theorem fh{p:Nat}{q:List aa}{cap:Nat}(h:aM Fr [b_ p q cap] w):aH Tryz.prog 280 [.pointer (some ⟨p,0,none⟩)] Fr w [] (fun v L=>v=.int .i64 q.length∧L=[]):=by
 obtain⟨s,h⟩:=zZ.of h
 have hb:=h.ring
 refine TF 9 Tryz.func280 Z yn ah Z Z ?_
 refine an ?_
 refine VG (VV (fun Fr w hF hs _=>bj Fr w (hb.of hF hs)) Z ?_)
 refine xu ?_
 refine Dt ?_
 exact Rn
theorem ia.place{q:List aa}{cap:Nat}{s:tA}(h:ia q cap s){i:Nat}(hi:i<q.length):∃p:FM,s.pl[(s.first+i) % cap]?=some p∧q[i]?=some p.1:=by
 have h1:=h.at_ i hi
 have h2:(s.first+i) % cap<s.pl.length:=by rw[h.len];exact Nat.mod_lt _ h.eV
 refine⟨_,GE h2,?_⟩
 rw[←h1,GE h2];rfl
def atR(q:List aa)(i:Nat)(v:Value)(L:List HP):Prop:=match q[i]? with
 | some f=>∃m,v=.tuple #[.agg (cG (f,m)).toArray,.bool true]∧L=[wN m]
 | none=>v=.tuple #[.agg (cG oe).toArray,.bool false]∧L=[]
theorem rn{p:Nat}{q:List aa}{cap:Nat}(i:Nat)(h:aM Fr [b_ p q cap] w):aH Tryz.prog 298 [.pointer (some ⟨p,0,none⟩),.int .i64 i] Fr w [] (atR q i):=by
 obtain⟨s,h⟩:=zZ.of h
 have hb:=h.ring
 have hp:=h.places
 refine TF 31 Tryz.func298 Z yn ah Z Z ?_
 refine CS (CG (VG (VO.alloc Z fun b=>VG (VN ?_))))
 refine an ?_
 refine VG (VV (fun Fr w hF hs _=>bj Fr w (hb.of hF hs)) Z (VG (VY 8 false Z Z ?_)))
 refine an ?_
 refine VG (VY 12 false Z (DF yd) ?_)
 refine Dt ?_
 refine CP Z (fun h1=>?_) (fun h1=>?_)
 ·refine CS (CG (VG (VI (LB (pv:=[]) (cG oe) Z Z Z Z Z) (VG (VT (vs:=cG oe) (cs':=cG oe) 0 Z Z Z Z (NR _) Z Z Z (VG (VN ?_)))))))
  refine CR (ay.aT 4 5 Z Z Z (aE.many 0 Z Z) Z ae.nil.ar ?_)
  have h1:q.length≤i:=by omega
  simp only[atR,List.getElem?_eq_none h1]
  exact⟨rfl,trivial⟩
 ·have h1:i<q.length:=by omega
  have hq:=h.ok.Nu
  have hc:=h.ok.gV
  have hf:=h.ok.first
  obtain⟨f,hf1,hf2⟩:=h.ok.place h1
  have hlt:(s.first+i) % cap<cap:=Nat.mod_lt _ h.ok.eV
  refine CK ?_
  refine CS (CD (ts 0 6 (.only 6 (ts 7 2 (.only 9 (.only 10 (.take 11 .nil)))))) yn yn ?_)
  refine RX ?_
  refine AG (VA.de (fun Fr w hF hs _=>qv Fr w i (hb.of hF hs) h.ok.eV yd yd) Z Z (Pd.cons (aE.aP hb Z) Pd.nil).st ?_)
  rintro _ rfl
  refine AG (AI Z (a_ ((s.first+i) % cap) Z Z Z Z Z Z hlt) ?_)
  have hrow:((flat cG s.pl).drop (0+(s.first+i) % cap*29)).take 29=cG f:=by
   have:=fG mW hf1 []
   rwa[ZN,←ZQ (_*29)] at this
  refine AG (VA.load Z Z Z (aE.lG hp hrow) ?_)
  refine AG (AO (OC (Lc:=[]) (R:=fun v L=>∃m,v=.agg (cG (f.1,m)).toArray∧L=[wN m]) Z (.refl _) (fun Fr w hF hs _=>rz Fr w f ((h.mem _ _ hf1).of hF hs))) Z ?_ ?_)
  ·rintro _ _ ⟨_,⟨m,rfl,rfl⟩,rfl⟩
   exact Xa
  rintro _ _ ⟨_,⟨m,rfl,rfl⟩,rfl⟩
  refine AG (AT (vs:=cG (f.1,m)) (cs':=cG (f.1,m)) 1 Z Z Z Z Z (NR _) Z Z Z Xa ?_)
  refine eW ?_
  refine CR (ay.aT 4 5 Z Z Z (aE.many 1 Z Z) Z (L':=[wN m]) (IP 0 Z ae.nil).ar ?_)
  simp only[atR,hf2]
  exact⟨m,Z,Z⟩
theorem uP{p:Nat}{q:List aa}{cap:Nat}(h:aM Fr [b_ p q cap] w):aH Tryz.prog 276 [.pointer (some ⟨p,0,none⟩)] Fr w [] (atR q 0):=by
 refine TF 8 Tryz.func276 Z yn ah Z Z ?_
 refine CS (CG (VG (VO.alloc Z fun b=>VG (VN ?_))))
 refine an ?_
 refine VG (VK (Lc:=[]) (R:=atR q 0) (fun Fr w hF hs _=>rn Fr w 0 (h.of hF hs)) Z Z ?_)
 intro v L hv
 unfold atR at hv
 cases hq:q[0]? with
 | some f=>
  rw[hq] at hv
  obtain⟨m,rfl,rfl⟩:=hv
  refine XL ?_
  refine CR (ay.aT 2 3 Z Z Z (aE.many 1 Z Z) Z (L':=[wN m]) (IP 0 Z ae.nil).ar ?_)
  simp only[atR,hq]
  exact⟨m,Z,Z⟩
 | none=>
  rw[hq] at hv
  obtain⟨rfl,rfl⟩:=hv
  refine XM ?_
  refine CR (ay.aT 2 3 Z Z Z (aE.many 0 Z Z) Z ae.nil.ar ?_)
  simp only[atR,hq]
  exact⟨rfl,trivial⟩
theorem Iw{a i j c:Nat}(h1:i<j)(h2:j<c):(a+i) % c≠(a+j) % c:=fun h=>by
 have:=Nat.sub_mod_eq_zero_of_mod_eq h.symm
 rw[show a+j-(a+i)=j-i from by omega,Nat.mod_eq_of_lt yd] at this
 omega
theorem ia.push{q:List aa}{cap:Nat}{s:tA}(h:ia q cap s)(hq:q.length<cap)(f:aa)(m:Ik):ia (q ++ [f]) cap { s with pl:=s.pl.set ((s.first+q.length) % cap) (f,m) }:=by
 have hlt:(s.first+q.length) % cap<s.pl.length:=by rw[h.len];exact Nat.mod_lt _ h.eV
 refine⟨by simpa using h.len,h.eV,h.gV,h.first,by simp;omega,fun i hi=>?_⟩
 simp only[ZM,List.length_singleton] at hi
 by_cases hi2:i<q.length
 ·rw[List.getElem?_append_left hi2,List.getElem?_set_ne (fun e=>Iw hi2 hq e.symm)]
  exact h.at_ i hi2
 ·have:i=q.length:=by omega
  subst this
  rw[Z9 hlt];simp
theorem ia.pop{f:aa}{q:List aa}{cap:Nat}{s:tA}(h:ia (f::q) cap s)(z:FM):ia q cap { s with first:=(s.first+1) % cap,pl:=s.pl.set s.first z }:=by
 have hq:=h.Nu
 simp only[ZW] at hq
 refine⟨by simpa using h.len,h.eV,h.gV,Nat.mod_lt _ h.eV,by omega,fun i hi=>?_⟩
 have h1:=h.at_ (i+1) yk
 have h2:((s.first+1) % cap+i) % cap=(s.first+(i+1)) % cap:=by rw[Nat.mod_add_mod];congr 1;omega
 have h3:s.first≠(s.first+(i+1)) % cap:=fun e=>by
  have:=Iw (a:=s.first) (i:=0) (j:=i+1) (c:=cap) yd yd
  rw[Nat.add_zero,Nat.mod_eq_of_lt h.first] at this
  exact this e
 simp only
 rw[h2,List.getElem?_set_ne h3,h1];rfl
def Pa(p:Nat)(q:List aa)(cap:Nat)(f:aa)(v:Value)(L:List HP):Prop:=v=.bool (decide (q.length<cap))∧L=[b_ p (if q.length<cap then q ++ [f] else q) cap]
theorem jh(p:Nat)(q:List aa)(cap:Nat)(f:FM)(hm:Dw Fr w f.2):aH Tryz.prog 297 [.pointer (some ⟨p,0,none⟩),.agg (cG f).toArray] Fr w [b_ p q cap] (Pa p q cap f.1):=by
 refine TF 39 Tryz.func297 Z yn ah Z Z ?_
 refine CS (CG (VG (VB (vs:=cG f) Z fun b=>VG (VN ?_))))
 refine VC.e_ 1 Z (aW.ring p q cap) fun s h=>?_
 refine CN (L':=pt b (cG f) 204::pY p q cap s) (ae.perm List.perm_append_comm).ar ?_
 have hq:=h.Nu
 have hc:=h.gV
 have hf:=h.first
 refine an ?_
 refine CD (.take 0 (.only 1 (ts 2 12 .nil))) yn yn ?_
 refine AG (VA.de (fun Fr w hF _ hs=>bj Fr w (hs.aP 1 Z)) Z Z Pd.nil.st ?_)
 rintro _ rfl
 refine AG (AY 7 false Z Z ?_)
 refine qg ?_
 refine CE Z (fun h1=>?_) (fun h1=>?_)
 ·refine an ?_
  have h1:¬q.length<cap:=by omega
  exact CR (ay.bool 4 Z Z Z (ae.trans ae.tl (ae.ring s h (ae.of_eq (ZN _).symm))).ar ⟨by simp[h1],by simp[h1]⟩)
 ·have h1:q.length<cap:=by omega
  have hlt:(s.first+q.length) % cap<cap:=Nat.mod_lt _ h.eV
  refine CK ?_
  refine CS (CD (ts 0 9 (.take 10 (.only 9 (.only 11 (.take 12 (.only 13 .nil)))))) yn yn ?_)
  refine qg ?_
  refine AG (VA.ky 0 (cG f) Z Z Z Z Z ?_)
  refine AG (VA.de (fun Fr w hF _ hs=>qv Fr w q.length (hs.aP 1 Z) h.eV yd yd) Z Z yu ?_)
  rintro _ rfl
  refine AG (AO (OC (Lc:=[]) (R:=fun v L=>∃m,v=.agg (cG (f.1,m)).toArray∧L=[wN m]) Z (.refl _) (fun Fr w hF hs _=>rz Fr w f (hm.of hF hs))) Z ?_ ?_)
  ·rintro _ _ ⟨_,⟨m,rfl,rfl⟩,rfl⟩
   exact yu
  rintro _ _ ⟨_,⟨m,rfl,rfl⟩,rfl⟩
  refine AG (AI Z (a_ ((s.first+q.length) % cap) Z Z Z Z Z Z hlt) ?_)
  have hw:=lZ mW (f.1,m) [] (i:=(s.first+q.length) % cap) (l:=s.pl) (by rw[h.len];exact hlt)
  rw[ZN,ZN,←ZQ (_*29)] at hw
  refine AG (AT (vs:=cG (f.1,m)) 3 Z Z Z Z Z ?_ hw Z Z yu ?_)
  ·rw[bp mW,h.len,mW];show 0+(s.first+q.length) % cap*29+29≤cap*29;omega
  refine sn ?_
  refine sj ?_
  refine VG (VP Z Z ?_ ?_ ?_)
  ·omega
  ·omega
  refine U9 ?_
  refine an ?_
  refine CR (ay.bool 4 Z Z Z (L':=[b_ p (q ++ [f.1]) cap]) ?_ ⟨by simp[h1],by simp[h1]⟩)
  have e:sw (q ++ [f.1]) cap { s with pl:=s.pl.set ((s.first+q.length) % cap) (f.1,m) }=[.slice (some ⟨s.pb,0,none⟩) cap cap,.int .i64 s.first,.int .i64 ((q.length:Int)+1)]:=by simp[sw]
  refine(ae.ring _ (h.push h1 f.1 m) ?_).ar
  unfold pY
  rw[e,ZN]
  refine IP 2 Z (IP 2 Z ?_)
  exact ae.trans (IP 0 Z ae.tl) (Il (x:=(f.1,m)) (by rw[h.len];exact hlt))
def BP(p:Nat)(cap:Nat):List aa→Value→List HP→Prop
 | [],v,L=>v=.tuple #[.agg (cG oe).toArray,.bool false]∧L=[b_ p [] cap]
 | f::q,v,L=>∃m,v=.tuple #[.agg (cG (f,m)).toArray,.bool true]∧L=[wN m,b_ p q cap]
theorem rA(p:Nat)(q:List aa)(cap:Nat):aH Tryz.prog 279 [.pointer (some ⟨p,0,none⟩)] Fr w [b_ p q cap] (BP p cap q):=by
 refine TF 39 Tryz.func279 Z yn ah Z Z ?_
 refine CS (CG (VG (VO.alloc Z fun b=>VG (VN ?_))))
 refine an ?_
 refine VG (VK (Lc:=[]) (R:=atR q 0) (fun Fr w hF hw hs=>uP Fr w (hs.at_ 1 Z)) Z Z ?_)
 intro v L hv
 unfold atR at hv
 cases q with
 | nil=>
  simp only[List.getElem?_nil] at hv
  obtain⟨rfl,rfl⟩:=hv
  refine XM ?_
  refine an ?_
  refine wF ?_
  refine CS (CG (VG (VI (LB (pv:=[]) (cG oe) Z Z Z Z Z) (VG (VT (vs:=cG oe) (cs':=cG oe) 0 Z Z Z Z (NR _) Z Z Z (VG (VN ?_)))))))
  exact CR (ay.aT 2 3 Z Z Z (aE.many 0 Z Z) Z (ae.app (L:=[_]) (M:=[]) (L':=[_]) (M':=[_]) ae.nil ae.refl).ar ⟨rfl,Z⟩)
 | cons f q=>
  simp only[List.getElem?_cons_zero] at hv
  obtain⟨m,rfl,rfl⟩:=hv
  refine XL ?_
  refine xu ?_
  refine VC.e_ 2 Z (aW.ring p (f::q) cap) fun s h=>?_
  refine CN (L':=wN m::pt b (cG (f,m)) 204::pY p (f::q) cap s) (ae.perm List.perm_append_comm).ar ?_
  have hq:=h.Nu
  have hc:=h.gV
  have hf:=h.first
  have hc0:=h.eV
  refine CS (CD (ts 0 14 (.only 14 .nil)) yn yn ?_)
  refine sn ?_
  refine AG (AP Z Z Z ?_ ?_ ?_)
  ·omega
  ·omega
  refine sn ?_
  refine AG (AI Z (tj s.first (s.first+1) Z Z Z Z Z Z Z (by push_cast;rfl) yd yd yd) ?_)
  have hw:=lZ mW oe [] (i:=s.first) (l:=s.pl) (by rw[h.len];exact hf)
  rw[ZN,ZN,←ZQ (_*29)] at hw
  refine AG (AO (a8.clear 3 Z Z Z Z Z yd ?_ Z) Z ?_ ?_)
  ·rw[bp mW,h.len];show 0+s.first*29+(s.first+1-s.first)*29≤cap*29;omega
  ·rintro _ _ ⟨rfl,rfl⟩
   exact yu
  rintro _ _ ⟨rfl,rfl⟩
  have hz:(List.replicate (s.first+1-s.first) T.t204.zs).flatten=cG oe:=by rw[show s.first+1-s.first=1 from by omega];rfl
  have hw2:ki (flat cG s.pl) (0+s.first*T.t204.size) (List.replicate (s.first+1-s.first) T.t204.zs).flatten=flat cG (s.pl.set s.first oe):=by rw[hz];exact hw
  rw[hw2]
  refine sn ?_
  refine sj ?_
  refine VG (VV (fun Fr w hF _ hs=>qv Fr w 1 (hs.aP 2 Z) hc0 yd yd) Z ?_)
  refine VG (VO.st 2 Z Z Z Z OQ Z Z (VG (VN ?_)))
  refine sj ?_
  refine VG (VO.zp Z Z ?_ ?_ ?_)
  ·omega
  ·omega
  refine U9 ?_
  refine sj ?_
  refine VG (VL 1 (cG (f,m)) Z Z Z Z (VG (VT (vs:=cG (f,m)) (cs':=cG (f,m)) 1 Z Z Z Z (NR _) Z Z Z (VG (VN ?_)))))
  refine CR (ay.aT 2 3 Z Z Z (aE.many 1 Z Z) Z (L':=[wN m,b_ p q cap]) ?_ ⟨m,Z,Z⟩)
  refine(IP 0 Z (ae.ring _ (h.pop oe) ?_)).ar
  have e:sw q cap { s with first:=(s.first+1) % cap,pl:=s.pl.set s.first oe }=[.slice (some ⟨s.pb,0,none⟩) cap cap,.int .i64 ((s.first+1) % cap:Nat),.int .i64 (((f::q).length:Int)-1)]:=by simp[sw]
  unfold pY
  rw[e,ZN]
  refine IP 1 Z (IP 1 Z ?_)
  exact ae.trans (ae.trans ae.tl (ae.Wq ae.refl)) (Il (x:=oe) (by rw[h.len];exact hf))
theorem aH.drop{P:Program}{f:FuncId}{args:List Value}{Fr:Nat→Prop}{w:World}{L:List HP}{R R':Value→List HP→Prop}(h:aH P f args Fr w L R)(hi:∀v L',R v L'→∃L2,R' v L2∧ae L' L2):aH P f args Fr w L R':=
 ⟨h.om,fun hl hs=>Calls.mono (h.calls hl hs) fun e w' ⟨v,L',h1,h2,h3,h4⟩=>by
  obtain⟨L2,h5,h6⟩:=hi v L' h2
  obtain⟨F,hs,hn,hb⟩:=h3
  obtain⟨F',hs',hn',hb'⟩:=h6 w' F hs hn
  exact⟨v,L2,h1,h5,⟨F',hs',hn',fun b hb2=>hb b (hb' b hb2)⟩,h4⟩⟩
theorem a8.Nv{X:Cx}{e:Env}{L:List HP}{f:FuncId}{args:Array Operand}{tys:Array TypeId}{vals:List Value}{H:HP}{R:Value→List HP→Prop}{ψ:Value→HP→HP→Prop}(i:Nat)
  (hL:L[i]?=some H) (ht:∀Fr' w,(∀b,X.Fr b→Fr' b)→St X L w→aM Fr' (L.eraseIdx i) w→aH X.P f vals Fr' w [H] R) (hargs:lE e args.toList=some vals)
  (hR:∀v L1,R v L1→∃M H',L1=[M,H']∧ψ v M H'):
  a8 X (.call ⟨.value (.func f),args,tys⟩) e L (fun v L'=>∃M H',ψ v M H'∧L'=M::L.set i H'):=by
 intro a w ha hw dst ty pos after guard
 have hi:i<L.length:=(ZP.1 hL).1
 have key:∀v w' L',(∃L1,R v L1∧L'=L1++L.eraseIdx i)→St X L' w'→∃L'',(∃M H',ψ v M H'∧L''=M::L.set i H')∧St X L'' w':=by
  rintro v w' _ ⟨L1,h1,rfl⟩ hs
  obtain⟨M,H',rfl,hψ⟩:=hR v L1 h1
  have hp:(H'::L.eraseIdx i).Perm (L.set i H'):=by
   have:=bM (L:=L.set i H') (i:=i) (H:=H') (Z9 hi)
   rw[List.eraseIdx_set_eq] at this
   exact this.symm
  exact⟨_,⟨M,H',hψ,Z⟩,(ae.perm (hp.cons M)).ar w' hs⟩
 rcases OC (R:=R) hargs (Lc:=[H]) (Lr:=L.eraseIdx i) (bM hL) ht a w ha hw dst ty pos after guard with ⟨v,w',L',h1,h2,h3⟩ | ⟨w',L',h1,h2,h3⟩ | ⟨f,args,h1,h2⟩
 ·obtain⟨L'',h4,h5⟩:=key _ _ _ h2 h3
  exact TP
 ·obtain⟨L'',h4,h5⟩:=key _ _ _ h2 h3
  exact TQ
 ·refine .inr (.inr ⟨f,args,h1,Calls.mono h2 fun en w' ⟨v,L',h3,h4,h5⟩=>?_⟩)
  obtain⟨L'',h6,h7⟩:=key _ _ _ h4 h5
  exact⟨v,L'',h3,h6,h7⟩
def UA(q:List aa)(i:Nat)(v:Value):Prop:=match q[i]? with
 | some f=>∃m,v=.tuple #[.agg (cG (f,m)).toArray,.bool true]
 | none=>v=.tuple #[.agg (cG oe).toArray,.bool false]
theorem Nw{p:Nat}{q:List aa}{cap:Nat}(h:aM Fr [b_ p q cap] w):aH Tryz.prog 276 [.pointer (some ⟨p,0,none⟩)] Fr w [] (fun v L=>UA q 0 v∧L=[]):=
 aH.drop (uP Fr w h) fun v L h=>by
  unfold atR at h;unfold UA
  cases hq:q[0]? with
  | some f=>rw[hq] at h;obtain⟨m,rfl,rfl⟩:=h;exact⟨[],⟨⟨m,rfl⟩,rfl⟩,ae.nil⟩
  | none=>rw[hq] at h;obtain⟨rfl,rfl⟩:=h;exact⟨[],⟨rfl,rfl⟩,ae.nil⟩
def Wt(p:Nat)(cap:Nat):List aa→Value→List HP→Prop
 | [],v,L=>v=.tuple #[.agg (cG oe).toArray,.bool false]∧L=[b_ p [] cap]
 | f::q,v,L=>(∃m,v=.tuple #[.agg (cG (f,m)).toArray,.bool true])∧L=[b_ p q cap]
theorem SF(p:Nat)(q:List aa)(cap:Nat):aH Tryz.prog 279 [.pointer (some ⟨p,0,none⟩)] Fr w [b_ p q cap] (Wt p cap q):=
 aH.drop (rA Fr w p q cap) fun v L h=>by
  cases q with
  | nil=>exact⟨L,h,ae.refl⟩
  | cons f q=>obtain⟨m,rfl,rfl⟩:=h;exact⟨_,⟨⟨m,rfl⟩,rfl⟩,ae.tl⟩
theorem ia.new(cap:Nat)(h0:1≤cap)(h1:cap≤64)(b:Nat):ia [] cap ⟨b,List.replicate cap oe,0⟩:=
 ⟨by simp,h0,h1,h0,by simp,fun i hi=>by simp at hi⟩
theorem dJ(cap:Nat)(h0:1≤cap)(h1:cap≤64):aH Tryz.prog 139 [.int .i64 cap] Fr w [] (fun v L=>∃p,v=.tuple #[.pointer (some ⟨p,0,none⟩),.int .i64 0]∧L=[b_ p [] cap]):=by
 refine TF 14 Tryz.func139 Z yn ah Z Z ?_
 refine an ?_
 refine VG (VY 6 false Z (DF yd) ?_)
 refine an ?_
 refine CP Z (fun h=>absurd h yd) (fun _=>CK ?_)
 refine CS (CG (VG (VO.makeSlice cap Z Z Z Z Z Z Z yd ?_ fun b=>?_)))
 ·show 288*cap≤_;omega
 refine VG (VI (LB [.slice (some ⟨b,0,none⟩) cap cap,.int .i64 0,.int .i64 0] Z Z Z Z Z) (VG (VB (vs:=[.slice (some ⟨b,0,none⟩) cap cap,.int .i64 0,.int .i64 0]) Z fun p=>VG (VN ?_))))
 refine CR (ay.cV 2 3 Z Z Z ?_ ⟨p,Z,Z⟩)
 exact(ae.ring (M:=[]) ⟨b,List.replicate cap oe,0⟩ (ia.new cap h0 h1 b) (by
  have:flat cG (List.replicate cap oe)=(List.replicate cap T.t204.zs).flatten:=(ot cap oe).symm
  unfold pY
  simp only[this,List.map_replicate,ZN]
  refine IP 0 Z (IP 0 Z ?_)
  have:∀n:Nat,ae [] (List.replicate n (wN oe.2)):=fun n=>by
   induction n with
   | zero=>exact ae.nil
   | succ n ih=>exact ae.Wq ih
  exact this cap)).ar
end Ring
namespace Sched
open Go Vg T Api Ring
attribute [local irreducible] VO VC VA
structure dK where
 q:List aa
 fD:Int
 bh:Int
 served:Int
structure aA where
 cls:List dK
 cap:Nat
 bE:Nat
 fresh:Bool
def aA.mh(S:aA)(k:Nat)(c:dK):aA:={ S with cls:=S.cls.set k c }
def aA.idle(S:aA):Bool:=S.cls.all fun c=>c.q.isEmpty
structure dK.Wf(c:dK):Prop where
 q0:96≤c.fD
 q1:c.fD≤65536
 c0:0≤c.bh
 c1:c.bh≤c.fD+95
 s0:0≤c.served
 s1:c.served≤4611686018427387904
structure aA.Wf(S:aA):Prop where
 n0:1≤S.cls.length
 n1:S.cls.length≤4
 eV:1≤S.cap
 gV:S.cap≤16
 bE:S.bE<S.cls.length
 cls:∀c∈S.cls,c.Wf
 qs:∀c∈S.cls,c.q.length≤S.cap
 low:∀k c,S.cls[k]?=some c→(k=S.bE→S.fresh=true)→c.bh≤95
abbrev Row:=Nat×dK
def bS(r:Row):List Value:=[.pointer (some ⟨r.1,0,none⟩),.int .i64 r.2.fD,.int .i64 r.2.bh,.int .i64 r.2.served]
theorem kj(r:Row):(bS r).length=4:=rfl
structure pN where
 cb:Nat
 wP:Nat
 rest:List Value
 rows:List Row
structure jv(S:aA)(s:pN):Prop where
 wf:S.Wf
 rows:s.rows.map Prod.snd=S.cls
 cap:s.rows.length≤s.wP
def rB(S:aA)(s:pN):List Value:=[.slice (some ⟨s.cb,0,none⟩) s.rows.length s.wP,.int .i64 S.bE,.bool S.fresh]
def lK(p:Nat)(S:aA)(s:pN):List HP:=pt p (rB S s) 252::pt s.cb (flat bS s.rows++s.rest) 257::s.rows.map fun r=>b_ r.1 r.2.q S.cap
def iz(p:Nat)(S:aA):HP:=hex fun s=>cU (gu (jv S s)::lK p S s)
structure Ix(Fr:Nat→Prop)(w:World)(p:Nat)(S:aA)(s:pN):Prop where
 ok:jv S s
 bP:eS Fr w p (rB S s)
 cls:eS Fr w s.cb (flat bS s.rows++s.rest)
 ring:∀(k:Nat) (r:Row),s.rows[k]?=some r→aM Fr [b_ r.1 r.2.q S.cap] w
theorem Ix.of{Fr:Nat→Prop}{w:World}{p:Nat}{S:aA}(h:aM Fr [iz p S] w):∃s,Ix Fr w p S s:=by
 obtain⟨s,h⟩:=h.ex
 have h:=h.sep
 exact⟨s,h.pure 0 Z,h.aP 1 Z,h.aP 2 Z,fun k r hr=>h.at_ (k+3) TH⟩
theorem aW.bP(p:Nat)(S:aA):aW (iz p S) (fun s=>jv S s) (fun s=>lK p S s):=by
 rintro w ids ⟨s,h⟩ hn
 obtain⟨F,G,rfl,⟨rfl,h1⟩,h2⟩:=h
 exact TZ
theorem ae.bP{p:Nat}{S:aA}{L M:List HP}(s:pN)(hs:jv S s)(h:ae L (lK p S s++M)):ae L (iz p S::M):=
 ae.ex s (ae.sep (ae.trans h (ae.app (L:=lK p S s) (M:=_::lK p S s) (ae.pure hs ae.refl) ae.refl)))
theorem jv.len{S:aA}{s:pN}(h:jv S s):s.rows.length=S.cls.length:=by rw[←h.rows,ZR]
theorem jv.row{S:aA}{s:pN}(h:jv S s){k:Nat}(hk:k<S.cls.length):∃p c,s.rows[k]?=some (p,c)∧S.cls[k]?=some c:=by
 have hk':k<s.rows.length:=by rw[h.len];exact hk
 refine⟨s.rows[k].1,s.rows[k].2,by simp[GE hk'],?_⟩
 rw[←h.rows,ZS,GE hk'];rfl
theorem bj{p:Nat}{a:Option Addr}{n c:Nat}{cs:List Value}(h:eS Fr w p (.slice a n c::cs)):aH Tryz.prog 274 [.pointer (some ⟨p,0,none⟩)] Fr w [] (fun v L=>v=.bool (decide (n=0))∧L=[]):=by
 refine TF 13 Tryz.func274 Z yn ah Z Z ?_
 refine an ?_
 refine VG (VO.split 5 rfl rfl (fun h=>by cases h) (fun _=>?_))
 refine Fe ?_
 exact CR (ay.bool 2 rfl rfl (by cases n<;>rfl) ER ⟨rfl,rfl⟩)
theorem oD{p n c:Nat}{a:Option Addr}{cs:List Value}(i:Int)(h:eS Fr w p (.slice a n c::cs)):aH Tryz.prog 315 [.pointer (some ⟨p,0,none⟩),.int .i64 i] Fr w [] (fun v L=>v=.bool (decide (0≤i∧i<n))∧L=[]):=by
 refine TF 21 Tryz.func315 Z yn ah Z Z ?_
 refine an ?_
 refine VG (VV (fun Fr w hF hs _=>bj Fr w (h.of hF hs)) Z (VG (VO.split 8 Z Z (fun h1=>?_) (fun h1=>?_))))
 ·have h1:n≠0:=by simpa using h1
  refine VG (VO.split 12 Z Z (fun h2=>?_) (fun h2=>?_))
  ·have h2:=of_decide_eq_true h2
   refine Fe ?_
   exact CR (ay.bool 4 Z Z yj ER ⟨rfl,Z⟩)
  ·have h2:=of_decide_eq_false h2
   refine an ?_
   exact CR (ay.bool 4 Z Z yj ER ⟨rfl,Z⟩)
 ·have h1:n=0:=by simpa using h1
  refine VG (VY 12 false Z Z ?_)
  refine an ?_
  exact CR (ay.bool 4 Z Z (by symm;apply DF;omega) ER ⟨rfl,Z⟩)
def aA.at_(S:aA)(i:Int):Option dK:=if 0≤i then S.cls[i.toNat]? else none
theorem aA.Iy(S:aA)(k:Nat):S.at_ k=S.cls[k]?:=by simp[aA.at_]
theorem aA.Qx{S:aA}{i:Int}(h:¬(0≤i∧i<S.cls.length)):S.at_ i=none:=by
 unfold aA.at_;split
 ·rw[List.getElem?_eq_none];omega
 ·rfl
theorem oE{rows:List Row}{k j:Nat}{r:Row}{v:Value}(hr:rows[k]?=some r)(hj:(bS r)[j]?=some v)(rest:List Value):(flat bS rows++rest)[k*4+j]?=some v:=fH kj hr hj rest
theorem sy{p:Nat}{a:Addr}{n c t:Nat}{f:Bool}(hn:1≤n)(ht:t≤1000):
  aH Tryz.prog 277 [.pointer (some ⟨p,0,none⟩)] Fr w [pt p [.slice (some a) n c,.int .i64 t,.bool f] 252]
   (fun v L=>v=.tuple #[]∧L=[pt p [.slice (some a) n c,.int .i64 ((t+1) % n:Nat),.bool true] 252]):=by
 refine TF 19 Tryz.func277 Z yn ah Z Z ?_
 refine CS ?_
 refine CD (ts 0 14 (.only 14 .nil)) yn yn ?_
 refine eW ?_
 refine AG (AP Z Z Z ?_ ?_ ?_)
 ·omega
 ·omega
 refine eW ?_
 refine AG (AI Z (lY Z Z ?_ ?_) ?_)
 ·omega
 ·omega
 refine AG (VA.st 0 Z Z Z Z Z OQ Z Z yu ?_)
 refine OZ ?_
 refine VG (VO.st 0 Z Z Z Z TG Z Z (VG (VN ?_)))
 exact ay.void Z ER ⟨rfl,by push_cast;rfl⟩
theorem Gz{p:Nat}{S:aA}(h:aM Fr [iz p S] w):aH Tryz.prog 275 [.pointer (some ⟨p,0,none⟩)] Fr w [] (fun v L=>v=.bool S.idle∧L=[]):=by
 obtain⟨s,h⟩:=Ix.of h
 have hb:=h.bP
 have hn:=h.ok.len
 have hn4:=h.ok.wf.n1
 refine TF 19 Tryz.func275 Z yn ah Z Z ?_
 refine Dt ?_
 refine VC.loop (fun k:Nat=>[(8,.slice (some ⟨s.cb,0,none⟩) s.rows.length s.wP),(9,.int .i64 s.rows.length),(10,.int .i64 k)]) (fun _=>[]) (fun k=>k≤S.cls.length∧∀j,j<k→∀c,S.cls[j]?=some c→c.q=[]) (fun k=>4-k) 0 ⟨ZO _,fun j hj=>by omega⟩ ba ER ?_
 rintro k ⟨hk,hall⟩
 refine an ?_
 refine CP Z (fun h1=>?_) (fun h1=>?_)
 ·have hk2:k<S.cls.length:=by omega
  obtain⟨q,c,hr,hc⟩:=h.ok.row hk2
  have hrow:((flat bS s.rows++s.rest).drop (0+k*4)).take 4=bS (q,c):=by rw[ZQ];exact fG kj hr _
  refine RH ?_
  refine T0 ?_
  refine VG (VO.load Z Z (aE.lG h.cls hrow) (VG (VO.alloc Z fun b=>VG (VT (vs:=bS (q,c)) (cs':=bS (q,c)) 0 Z Z Z Z (NR _) Z Z Z (VG (VN ?_))))))
  refine an ?_
  refine VG (VV (fun Fr w hF hs _=>Ring.fh Fr w ((h.ring k _ hr).of hF hs)) Z (VG (VN ?_)))
  refine CP Z (fun h2=>?_) (fun h2=>?_)
  ·refine an ?_
   refine CR (ay.bool 2 Z Z ?_ ae.nil.ar ⟨rfl,Z⟩)
   symm
   rw[aA.idle,List.all_eq_false]
   refine⟨c,ME hc,?_⟩
   have:0<(c.q.length:Int):=h2
   cases hq:c.q with
   | nil=>rw[hq] at this;simp at this
   | cons _ _=>simp
  ·refine RH ?_
   refine VG (VP Z Z ?_ ?_ ?_)
   ·omega
   ·omega
   refine an ?_
   refine⟨k+1,⟨by omega,fun j hj c' hc'=>?_⟩,by dsimp only;omega,ba,ae.nil.ar⟩
   by_cases hjk:j=k
   ·subst hjk
    rw[hc] at hc';cases hc'
    have h2:¬0<(c.q.length:Int):=h2
    exact List.eq_nil_of_length_eq_zero yd
   ·exact hall j yd c' hc'
 ·have hk2:k=S.cls.length:=by omega
  subst hk2
  refine CX ?_
  refine an ?_
  refine CR (ay.bool 2 Z Z ?_ ae.nil.ar ⟨rfl,Z⟩)
  symm
  rw[aA.idle,List.all_eq_true]
  intro c hc
  obtain⟨j,hj⟩:=List.getElem?_of_mem hc
  rw[hall j (ZP.1 hj).1 c hj];rfl
def aA.eA(S:aA)(f:aa):Int×aA:=
 match S.at_ f.cls with
 | none=>(2,S)
 | some c=>if a6 f.op≠0 then (2,S) else if c.q.length<S.cap then (0,S.mh f.cls.toNat { c with q:=c.q ++ [f] }) else (60,S)
theorem Nx{α β:Type}{g:α→β}{l:List α}{k:Nat}{a:α}:(l.map g).set k (g a)=(l.set k a).map g:=by rw[Z_]
theorem jv.mh{S:aA}{s:pN}(h:jv S s){k q:Nat}{c c':dK}(hr:s.rows[k]?=some (q,c))(hw:(S.mh k c').Wf):jv (S.mh k c') { s with rows:=s.rows.set k (q,c') }:=
 ⟨hw,by simp[aA.mh,←h.rows,Z_],by simpa using h.cap⟩
theorem aA.Wf.set{S:aA}(h:S.Wf){k:Nat}{c c':dK}(hc:S.cls[k]?=some c)(hw:c'.Wf)(hq:c'.q.length≤S.cap)(hl:(k=S.bE→S.fresh=true)→c'.bh≤95):(S.mh k c').Wf:=by
 have hk:=(ZP.1 hc).1
 refine⟨by simpa[aA.mh] using h.n0,by simpa[aA.mh] using h.n1,h.eV,h.gV,by simpa[aA.mh] using h.bE,fun x hx=>?_,fun x hx=>?_,fun j x hx hj=>?_⟩
 ·rcases List.mem_or_eq_of_mem_set hx with hx | rfl
  ·exact h.cls x hx
  ·exact hw
 ·rcases List.mem_or_eq_of_mem_set hx with hx | rfl
  ·exact h.qs x hx
  ·exact hq
 ·by_cases hjk:k=j
  ·subst hjk
   simp only[aA.mh,Z9 hk,Option.some.injEq] at hx
   subst hx;exact hl hj
  ·simp only[aA.mh,List.getElem?_set_ne hjk] at hx
   exact h.low j x hx hj
theorem rC{l:List Row}{k:Nat}{a b:Row}(h:bS a=bS b):flat bS (l.set k a)=flat bS (l.set k b):=by simp[flat,Z_,h]
theorem sD{l:List Row}{k:Nat}{a b:Row}(ha:l[k]?=some a)(h:bS a=bS b):flat bS l=flat bS (l.set k b):=by
 rw[←rC h]
 have hk:=(ZP.1 ha)
 rw[show l.set k a=l from by rw[←hk.2];simp]
theorem mi{p:Nat}{S:aA}{s:pN}(h:jv S s):ae (lK p S s) [iz p S]:=ae.bP (M:=[]) s h (ae.of_eq (ZN _).symm)
theorem Iz{p k q:Nat}{S:aA}{s:pN}{c c':dK}(hr:s.rows[k]?=some (q,c))(hcs:bS (q,c)=bS (q,c')):
  pt p (rB S s) 252::pt s.cb (flat bS s.rows++s.rest) 257::(s.rows.map fun r=>b_ r.1 r.2.q S.cap).set k (b_ q c'.q S.cap)=lK p (S.mh k c') { s with rows:=s.rows.set k (q,c') }:=by
 simp only[lK,rB,Z4,←sD hr hcs,Z_];rfl
theorem jh(p:Nat)(S:aA)(f:FM)(hm:Dw Fr w f.2):aH Tryz.prog 312 [.pointer (some ⟨p,0,none⟩),.agg (cG f).toArray] Fr w [iz p S] (fun v L=>v=.int .i64 (S.eA f.1).1∧L=[iz p (S.eA f.1).2]):=by
 refine TF 33 Tryz.func312 Z yn ah Z Z ?_
 refine CS (CG (VG (VB (vs:=cG f) Z fun b=>VG (VN ?_))))
 refine VC.e_ 1 Z (aW.bP p S) fun s h=>?_
 refine CN (L':=pt b (cG f) 204::lK p S s) (ae.perm List.perm_append_comm).ar ?_
 have hn:=h.len
 have hn0:=h.wf.n0
 have hn4:=h.wf.n1
 have out:∀{X:Cx},jq X (pt b (cG f) 204::lK p S s) [iz p S]:=fun {X}=>(ae.trans ae.tl (mi h)).ar
 refine an ?_
 refine VG (VV (fun Fr w hF _ hs=>bj Fr w (hs.aP 1 Z)) Z (VG (VN ?_)))
 refine CP Z (fun h0=>by omega) (fun _=>?_)
 refine jd ?_
 refine VG (VV (fun Fr w hF _ hs=>oD Fr w f.1.cls (hs.aP 1 Z)) Z (VG (VO.split 14 Z Z (fun h1=>?_) (fun h1=>?_))))
 ·have h1:¬(0≤f.1.cls∧f.1.cls<s.rows.length):=fun hx=>by simp[hx] at h1
  refine Kt ?_
  have e:S.eA f.1=(2,S):=by simp only[aA.eA,aA.Qx (hn▸h1)]
  exact CR (ay.int 4 Z Z Z out ⟨by rw[e],by rw[e]⟩)
 ·have h1:0≤f.1.cls∧f.1.cls<s.rows.length:=by simpa using h1
  obtain⟨k,hfk⟩:=Int.eq_ofNat_of_zero_le h1.1
  have hk:k<S.cls.length:=by omega
  obtain⟨q,c,hr,hc⟩:=h.row hk
  have hat:S.at_ f.1.cls=some c:=by rw[hfk,aA.Iy,hc]
  refine an ?_
  refine VG (VL 0 f.1.op.cells Z Z Z Z ?_)
  refine VG (VO.ik (fun Fr w=>bm Fr w f.1.op) Z (VG (VN ?_)))
  refine VC.bo Z (fun h2=>?_) (fun h2=>?_)
  ·refine an ?_
   have e:S.eA f.1=(2,S):=by simp only[aA.eA,hat,if_pos h2]
   exact CR (ay.int 4 Z Z Z out ⟨by rw[e],by rw[e]⟩)
  ·have h2':¬a6 f.1.op≠0:=fun hx=>hx h2
   have hcell:(flat bS s.rows++s.rest)[0+k*4]?=some (.pointer (some ⟨q,0,none⟩)):=by rw[ZQ];exact oE (j:=0) hr rfl _
   refine CS (CD (ts 0 10 (.only 10 (ts 11 2 .nil))) yn yn ?_)
   refine qg ?_
   refine AG (AI Z (a_ k Z Z Z Z Z hfk yd) ?_)
   refine AG (VA.ld 2 Z Z Z Z hcell (AG (VA.ky 0 (cG f) Z Z Z Z Z ?_)))
   refine AG (AQ (k+3) (H:=b_ q c.q S.cap) (R:=Pa q c.q S.cap f.1) (ψ:=fun v H=>v=.bool (decide (c.q.length<S.cap))∧H=b_ q (if c.q.length<S.cap then c.q ++ [f.1] else c.q) S.cap) TH (fun Fr w hF hs _=>Ring.jh Fr w q c.q S.cap f (hm.of hF hs)) Z Z (fun v L1 ⟨h3,h4⟩=>⟨_,h4,h3,Z⟩) ?_ ?_)
   ·rintro _ _ ⟨rfl,rfl⟩
    exact(by(try refine Pd.st ?_);(repeat(first|exact Pd.nil|exact Pd.fnil|refine Pd.inner ?_|refine Pd.skip yr ?_|refine zf (zo 0 Z Z) ?_|refine zf (zo 1 Z Z) ?_|refine zf (zm 0 Z Z) ?_|refine zf (zm 1 Z Z) ?_|refine zf (aE.aP (aE.one 2 Z hcell) Z) ?_|refine zf ((aE.one 2 Z hcell)) ?_|refine zc (zo 0 Z Z) ?_|refine zc (zo 1 Z Z) ?_|refine zc (zm 0 Z Z) ?_|refine zc (zm 1 Z Z) ?_|refine zc (aE.aP (aE.one 2 Z hcell) Z) ?_|refine zc ((aE.one 2 Z hcell)) ?_)))
   rintro _ _ ⟨rfl,rfl⟩
   refine eW ?_
   refine VC.dX Z (fun h3=>?_) (fun h3=>?_)
   ·have h3:¬c.q.length<S.cap:=of_decide_eq_false h3
    refine an ?_
    have e:S.eA f.1=(60,S):=by simp only[aA.eA,hat,if_neg h2',if_neg h3]
    refine CR (ay.int 4 Z Z Z ?_ ⟨by rw[e],by rw[e]⟩)
    rw[if_neg h3]
    have e2:S.mh k c=S:=by simp only[aA.mh];rw[show S.cls.set k c=S.cls from by rw[←(ZP.1 hc).2];simp]
    have e3:s.rows.set k (q,c)=s.rows:=by rw[←(ZP.1 hr).2];simp
    have e4:=Iz (p:=p) (S:=S) hr (c':=c) rfl
    rw[e2,e3] at e4
    exact(ae.trans ae.tl (ae.trans (ae.of_eq e4) (mi h))).ar
   ·have h3:c.q.length<S.cap:=of_decide_eq_true h3
    refine RH ?_
    have e:S.eA f.1=(0,S.mh k { c with q:=c.q ++ [f.1] }):=by simp only[aA.eA,hat,if_neg h2',if_pos h3];rw[hfk,ZU]
    refine CR (ay.int 4 Z Z Z ?_ ⟨by rw[e],by rw[e]⟩)
    rw[if_pos h3]
    have hw:(S.mh k { c with q:=c.q ++ [f.1] }).Wf:=h.wf.set hc ⟨(h.wf.cls c (ME hc)).q0,(h.wf.cls c (ME hc)).q1,(h.wf.cls c (ME hc)).c0,(h.wf.cls c (ME hc)).c1,(h.wf.cls c (ME hc)).s0,(h.wf.cls c (ME hc)).s1⟩ ye (h.wf.low k c hc)
    exact(ae.trans ae.tl (ae.trans (ae.of_eq (Iz (p:=p) hr (c':={ c with q:=c.q ++ [f.1] }) Z)) (mi (h.mh hr hw)))).ar
def aA.jV(a:Int):Int:=if 4611686018427387904<a then 4611686018427387904 else a
def dK.c0(c:dK):dK:={ c with bh:=0 }
def dK.c1(c:dK)(fr:Bool):dK:={ c with bh:=if fr then c.bh+c.fD else c.bh }
def dK.c2(c:dK)(fr:Bool)(f:aa)(q:List aa):dK:=⟨q,c.fD,if q=[] then 0 else (c.c1 fr).bh-cR f.op,aA.jV (c.served+cR f.op)⟩
def aA.kR:Nat→aA→Option (aa×aA)
 | 0,_=>none
 | n+1,S=>match S.cls[S.bE]? with
  | none=>none
  | some c=>match c.q with
   | []=>kR n ⟨S.cls.set S.bE c.c0,S.cap,(S.bE+1) % S.cls.length,true⟩
   | f::q=>if (c.c1 S.fresh).bh<cR f.op then kR n ⟨S.cls.set S.bE (c.c1 S.fresh),S.cap,(S.bE+1) % S.cls.length,true⟩
    else some (f,if q=[] then ⟨S.cls.set S.bE (c.c2 S.fresh f q),S.cap,(S.bE+1) % S.cls.length,true⟩ else ⟨S.cls.set S.bE (c.c2 S.fresh f q),S.cap,S.bE,false⟩)
theorem mj(o:fe):0≤cR o∧cR o≤96:=by
 unfold cR
 split
 ·rename_i h
  have hl:lH o=false:=by
   cases hl:lH o with
   | false=>rfl
   | true=>unfold a6 at h;rw[hl] at h;split at h<;>simp at h
  have hk:o.key.size≤16∧o.value.size≤64:=by simp[lH] at hl;omega
  omega
 ·omega
theorem aA.Wf.mZ{S:aA}(h:S.Wf){c':dK}(hw:c'.Wf)(hq:c'.q.length≤S.cap)(hl:c'.bh≤95):aA.Wf ⟨S.cls.set S.bE c',S.cap,(S.bE+1) % S.cls.length,true⟩:=by
 have hn:=h.n0
 refine⟨by simpa using h.n0,by simpa using h.n1,h.eV,h.gV,by simpa using Nat.mod_lt _ hn,fun x hx=>?_,fun x hx=>?_,fun j x hx _=>?_⟩
 ·rcases List.mem_or_eq_of_mem_set hx with hx | rfl
  ·exact h.cls x hx
  ·exact hw
 ·rcases List.mem_or_eq_of_mem_set hx with hx | rfl
  ·exact h.qs x hx
  ·exact hq
 ·by_cases hjk:S.bE=j
  ·subst hjk
   simp only[Z9 h.bE,Option.some.injEq] at hx
   subst hx;exact hl
  ·simp only[List.getElem?_set_ne hjk] at hx
   exact h.low j x hx (fun e=>absurd e.symm hjk)
theorem aA.Wf.stays{S:aA}(h:S.Wf){c':dK}(hw:c'.Wf)(hq:c'.q.length≤S.cap):aA.Wf ⟨S.cls.set S.bE c',S.cap,S.bE,false⟩:=by
 refine⟨by simpa using h.n0,by simpa using h.n1,h.eV,h.gV,by simpa using h.bE,fun x hx=>?_,fun x hx=>?_,fun j x hx hj=>?_⟩
 ·rcases List.mem_or_eq_of_mem_set hx with hx | rfl
  ·exact h.cls x hx
  ·exact hw
 ·rcases List.mem_or_eq_of_mem_set hx with hx | rfl
  ·exact h.qs x hx
  ·exact hq
 ·have hjk:S.bE≠j:=fun e=>by simpa using hj e.symm
  simp only[List.getElem?_set_ne hjk] at hx
  exact h.low j x hx (fun e=>absurd e.symm hjk)
theorem dK.Wf.empty{c:dK}(h:c.Wf):c.c0.Wf:=⟨h.q0,h.q1,Z5 _,by have:=h.q0;show(0:Int)≤c.fD+95;omega,h.s0,h.s1⟩
theorem aA.Wf.c1{S:aA}(h:S.Wf){c:dK}(hc:S.cls[S.bE]?=some c):(c.c1 S.fresh).Wf:=by
 have hw:=h.cls c (ME hc)
 have hl:=h.low S.bE c hc
 have h1:=hw.q0;have h2:=hw.c0;have h3:=hw.c1
 refine⟨hw.q0,hw.q1,?_,?_,hw.s0,hw.s1⟩
 ·show(0:Int)≤if S.fresh then c.bh+c.fD else c.bh
  split<;>omega
 ·show(if S.fresh then c.bh+c.fD else c.bh)≤c.fD+95
  split
  ·rename_i hf
   have:=hl (fun _=>hf)
   omega
  ·omega
theorem aA.Wf.c2{S:aA}(h:S.Wf){c:dK}(hc:S.cls[S.bE]?=some c){f:aa}{q:List aa}(hq:c.q=f::q)(hcost:¬(c.c1 S.fresh).bh<cR f.op):(c.c2 S.fresh f q).Wf∧(c.c2 S.fresh f q).q.length≤S.cap:=by
 have hw:=h.c1 hc
 have hb:=mj f.op
 have hqs:=h.qs c (ME hc)
 have h3:=hw.c1;have h4:0≤c.served:=hw.s0;have h5:=hw.q0
 have h3':(c.c1 S.fresh).bh≤c.fD+95:=h3
 have h5':96≤c.fD:=h5
 refine⟨⟨hw.q0,hw.q1,?_,?_,?_,?_⟩,?_⟩
 ·show(0:Int)≤if q=[] then 0 else (c.c1 S.fresh).bh-cR f.op
  split<;>omega
 ·show(if q=[] then 0 else (c.c1 S.fresh).bh-cR f.op)≤c.fD+95
  split<;>omega
 ·show(0:Int)≤aA.jV (c.served+cR f.op)
  unfold aA.jV;split<;>omega
 ·show aA.jV (c.served+cR f.op)≤_
  unfold aA.jV;split<;>omega
 ·rw[hq] at hqs;simp at hqs;show q.length≤S.cap;omega
theorem rD{rows:List Row}{k j:Nat}{r r':Row}{v:Value}(hr:rows[k]?=some r)(hj:j<4)(hc:(bS r).set j v=bS r')(rest:List Value):(flat bS rows++rest).set (0+k*4+j) v=flat bS (rows.set k r')++rest:=by
 rw[ZQ];exact gF kj hr hj hc rest
theorem sE{rows:List Row}{k j:Nat}{r r':Row}{v:Value}(hk:k<rows.length)(hj:j<4)(hc:(bS r).set j v=bS r')(rest:List Value):(flat bS (rows.set k r)++rest).set (0+k*4+j) v=flat bS (rows.set k r')++rest:=by
 rw[rD (Z9 hk) hj hc,List.set_set]
theorem uQ{rows:List Row}{k q cap:Nat}{c:dK}(hr:rows[k]?=some (q,c)):(rows.map fun r=>b_ r.1 r.2.q cap)=(rows.map fun r=>b_ r.1 r.2.q cap).set k (b_ q c.q cap):=by
 rw[show b_ q c.q cap=(fun r:Row=>b_ r.1 r.2.q cap) (q,c) from rfl,Nx,show rows.set k (q,c)=rows from by rw[←(ZP.1 hr).2];simp]
theorem oF{p k q t n:Nat}{S:aA}{s:pN}{c cA c':dK}{fr:Bool}{x:Int}(hr:s.rows[k]?=some (q,c))(hcs:bS (q,cA)=bS (q,c'))(hx:x=t)(hn:n=s.rows.length):
  pt p [.slice (some ⟨s.cb,0,none⟩) n s.wP,.int .i64 x,.bool fr] 252::pt s.cb (flat bS (s.rows.set k (q,cA))++s.rest) 257::(s.rows.map fun r=>b_ r.1 r.2.q S.cap).set k (b_ q c'.q S.cap)=lK p ⟨S.cls.set k c',S.cap,t,fr⟩ { s with rows:=s.rows.set k (q,c') }:=by
 subst hx;subst hn
 simp only[lK,rB,Z4,rC hcs,Z_]
theorem xI{p k q t n:Nat}{S:aA}{s:pN}{c cA c':dK}{fr:Bool}{x:Int}(hr:s.rows[k]?=some (q,c))(hcs:bS (q,cA)=bS (q,c'))(hq:c'.q=c.q)(hx:x=t)(hn:n=s.rows.length):
  pt p [.slice (some ⟨s.cb,0,none⟩) n s.wP,.int .i64 x,.bool fr] 252::pt s.cb (flat bS (s.rows.set k (q,cA))++s.rest) 257::(s.rows.map fun r=>b_ r.1 r.2.q S.cap)=lK p ⟨S.cls.set k c',S.cap,t,fr⟩ { s with rows:=s.rows.set k (q,c') }:=by
 rw[←oF hr hcs hx hn,hq,←uQ hr]
theorem jv.Ny{S:aA}{s:pN}(h:jv S s){k q:Nat}{c c':dK}{t:Nat}{fr:Bool}(hr:s.rows[k]?=some (q,c))(hw:aA.Wf ⟨S.cls.set k c',S.cap,t,fr⟩):jv ⟨S.cls.set k c',S.cap,t,fr⟩ { s with rows:=s.rows.set k (q,c') }:=
 ⟨hw,by simp[←h.rows,Z_],by simpa using h.cap⟩
def SG(p cb n c t:Nat):HP:=pt p [.slice (some ⟨cb,0,none⟩) n c,.int .i64 ((t+1) % n:Nat),.bool true] 252
theorem rA(p:Nat)(S0:aA)(N:Nat)(f:aa)(S1:aA)(hp:S0.kR N=some (f,S1))(hi:S0.idle=false):
  aH Tryz.prog 232 [.pointer (some ⟨p,0,none⟩)] Fr w [iz p S0] (fun v L=>(∃m,v=.tuple #[.agg (cG (f,m)).toArray,.bool true])∧L=[iz p S1]):=by
 refine TF 107 Tryz.func232 Z yn ah Z Z ?_
 refine CS (CG (VG (VO.alloc Z fun b=>VG (VN ?_))))
 refine VC.e_ 1 Z (aW.bP p S0) fun s0 h0=>?_
 refine CN (L':=pt b (cG oe) 204::lK p S0 s0) (ae.perm List.perm_append_comm).ar ?_
 refine an ?_
 refine VG (VV (fun Fr w hF _ hs=>bj Fr w (hs.aP 1 Z)) Z ?_)
 refine VG (VY 10 false Z (DF Xo) ?_)
 refine an ?_
 refine XN ?_
 refine CC rfl (fun h=>by rw[hi] at h;cases h) (fun _=>CK ?_)
 refine CS (VC.label (CS (VC.block ?_)))
 refine VC.loop (σ:=Nat×aA×pN) (fun _=>[(0,pV p),(2,pV b)]) (fun x=>pt b (cG oe) 204::lK p x.2.1 x.2.2) (fun x=>jv x.2.1 x.2.2∧x.2.1.kR x.1=some (f,S1)) (fun x=>x.1) (N,S0,s0) ⟨h0,hp⟩ ba ER ?_
 clear hp
 rintro⟨N,S,s⟩ ⟨h,hp⟩
 dsimp only at h hp ⊢
 have hn:=h.len
 have hn0:=h.wf.n0
 have hn4:=h.wf.n1
 have ht:=h.wf.bE
 obtain⟨q,c,hr,hc⟩:=h.row ht
 have hcell:∀{j:Nat} {v:Value},(bS (q,c))[j]?=some v→(flat bS s.rows++s.rest)[0+S.bE*4+j]?=some v:=fun {j v} hj=>by rw[ZQ];exact oE hr hj _
 cases N with
 | zero=>simp[aA.kR] at hp
 | succ N=>
 simp only[aA.kR,hc] at hp
 refine an ?_
 refine CD (ts 0 10 .nil) yn yn ?_
 refine qg ?_
 refine AG (AI Z (a_ S.bE Z Z Z Z Z Z yd) ?_)
 refine OZ ?_
 refine T5 ?_
 refine VG (VO.de (φ:=UA c.q 0) (fun Fr w hF _ hs=>Nw (cap:=S.cap) Fr w (hs.at_ (S.bE+3) TH)) Z ?_)
 intro v hv
 unfold UA at hv
 cases hq:c.q with
 | nil=>
  simp only[hq] at hp
  simp only[hq,List.getElem?_nil] at hv
  subst hv
  refine VG (VO.alloc Z fun b5=>VG (VT (vs:=cG oe) (cs':=cG oe) 0 Z Z Z Z (NR _) Z Z Z (VG (VN ?_))))
  refine Kt ?_
  have hwf:=h.wf.mZ (c':=c.c0) (h.wf.cls c (ME hc)).empty (h.wf.qs c (ME hc)) TD
  refine VG (VO.st 3 Z Z Z Z (by rw[ZM,bp kj];show 0+S.bE*4+2<_;omega) (rD hr yd (r':=(q,c.c0)) Z s.rest) Z (VG (VN ?_)))
  refine an ?_
  refine U_ ?_
  rintro _ _ ⟨rfl,rfl⟩
  refine VG (VN (CX ⟨(N,_,_),⟨h.Ny hr hwf,hp⟩,Nat.lt_succ_self N,ba,?_⟩))
  refine(ae.trans ae.tl (ae.cons (ae.of_eq ?_))).ar
  exact xI (c':=c.c0) hr Z Z (by rw[hn]) rfl
 | cons g q'=>
  simp only[hq] at hp
  simp only[hq,List.getElem?_cons_zero] at hv
  obtain⟨m,rfl⟩:=hv
  have hlen:∀(l:List Row),l.length=s.rows.length→∀j,j<4→0+S.bE*4+j<(flat bS l++s.rest).length:=fun l hl j hj=>by rw[ZM,bp kj,hl];omega
  refine VG (VO.alloc Z fun b5=>VG (VT (vs:=cG (g,m)) (cs':=cG (g,m)) 0 Z Z Z Z (NR _) Z Z Z (VG (VN ?_))))
  refine xu ?_
  refine VC.meet (σ:=Unit) (fun _=>[(0,pV p),(2,pV b),(4,.pointer (some ⟨s.cb,0+S.bE*4,none⟩)),(5,pV b5)])
   (fun _=>pt b5 (cG (g,m)) 204::pt b (cG oe) 204::pt p [.slice (some ⟨s.cb,0,none⟩) s.rows.length s.wP,.int .i64 S.bE,.bool false] 252::pt s.cb (flat bS (s.rows.set S.bE (q,c.c1 S.fresh))++s.rest) 257::s.rows.map fun r=>b_ r.1 r.2.q S.cap) (fun _=>True) ?_ ?_
  ·refine CS (CG (VG (VO.ld 2 Z Z Z Z (VG (VN ?_)))))
   refine CC (t:=S.fresh) Z (fun hf=>?_) (fun hf=>CK ⟨(),trivial,ba,jq.of_eq ?_⟩)
   ·refine CS (CD (ts 0 11 (.only 11 .nil)) yn yn ?_)
    have hwc:=h.wf.cls c (ME hc)
    have:=hwc.q0;have:=hwc.q1;have:=hwc.c0;have:=hwc.c1
    refine AG (VA.ld 3 Z Z Z Z (hcell (j:=2) Z) (AG (VA.ld 3 Z Z Z Z (hcell (j:=1) Z) ?_)))
    refine AG (AP Z Z Z ?_ ?_ ?_)
    ·dsimp only;omega
    ·dsimp only;omega
    refine AG (VA.st 3 Z Z Z Z Z (hlen _ Z 2 yd) (rD hr yd (r':=(q,c.c1 S.fresh)) (by rw[hf];rfl) s.rest) Z yu ?_)
    refine OZ ?_
    refine U9 ?_
    exact⟨(),trivial,ba,ER⟩
   ·unfold lK rB
    rw[hf,←sD hr (b:=(q,c.c1 false)) rfl]
    rfl
  intro _ _
  have hk:S.bE<s.rows.length:=by omega
  have hr1:(s.rows.set S.bE (q,c.c1 S.fresh))[S.bE]?=some (q,c.c1 S.fresh):=Z9 hk
  have hcell1:∀{j:Nat} {v:Value},(bS (q,c.c1 S.fresh))[j]?=some v→(flat bS (s.rows.set S.bE (q,c.c1 S.fresh))++s.rest)[0+S.bE*4+j]?=some v:=fun {j v} hj=>by rw[ZQ];exact oE hr1 hj _
  have hcost:=mj g.op
  have hw1:=h.wf.c1 hc
  have:=hw1.q0;have:=hw1.q1;have hc0:=hw1.c0;have hc1:=hw1.c1;have hs0:0≤c.served:=hw1.s0;have hs1:c.served≤4611686018427387904:=hw1.s1
  refine an ?_
  refine VG (VL 0 g.op.cells Z Z Z Z (VG (VO.ik (fun Fr w=>Gq Fr w g.op) Z (VG (VN ?_)))))
  refine an ?_
  refine VG (VO.ld 3 Z Z Z (hcell1 (j:=2) Z) (VG (VN ?_)))
  refine CP Z (fun hlt=>?_) (fun hlt=>CK ?_)
  ·have hlt:(c.c1 S.fresh).bh<cR g.op:=hlt
   rw[if_pos hlt] at hp
   have hwf:=h.wf.mZ (c':=c.c1 S.fresh) hw1 (h.wf.qs c (ME hc)) yd
   refine an ?_
   refine U_ ?_
   rintro _ _ ⟨rfl,rfl⟩
   refine VG (VN (CX ⟨(N,_,_),⟨h.Ny hr hwf,hp⟩,Nat.lt_succ_self N,ba,?_⟩))
   refine(ae.trans ae.tl (ae.cons (ae.of_eq ?_))).ar
   exact xI (c':=c.c1 S.fresh) hr Z Z (by rw[hn]) rfl
  ·have hlt:¬(c.c1 S.fresh).bh<cR g.op:=hlt
   rw[if_neg hlt] at hp
   obtain⟨hwf2,hq2⟩:=h.wf.c2 hc hq hlt
   refine an ?_
   refine VG (VO.ld 3 Z Z Z (hcell1 (j:=0) Z) ?_)
   refine VG (VQ (S.bE+4) (H:=b_ q c.q S.cap) (ψ:=fun v H=>(∃m,v=.tuple #[.agg (cG (g,m)).toArray,.bool true])∧H=b_ q q' S.cap) (by simp[hr]) (fun Fr w _ _ _=>Ring.SF Fr w q c.q S.cap) Z (fun v L1 h1=>by rw[hq] at h1;exact⟨_,h1.2,h1.1,Z⟩) ?_)
   rintro _ _ ⟨⟨m',rfl⟩,rfl⟩
   refine VG (VT (vs:=cG (g,m')) (cs':=cG (g,m')) 1 Z Z Z Z (NR _) Z Z Z (VG (VN ?_)))
   refine an ?_
   refine VG (VO.ld 3 Z Z Z (hcell1 (j:=2) Z) ?_)
   refine VG (VO.zp Z Z ?_ ?_ ?_)
   ·dsimp only;omega
   ·dsimp only;omega
   refine VG (VO.st 3 Z Z Z Z (hlen _ yf 2 yd) (sE hk yd (r':=(q,{ c with bh:=(c.c1 S.fresh).bh-cR g.op })) Z s.rest) Z (VG (VN ?_)))
   have hr2:∀c':dK,(s.rows.set S.bE (q,c'))[S.bE]?=some (q,c'):=fun c'=>Z9 hk
   have hcell2:∀{c':dK} {j:Nat} {v:Value},(bS (q,c'))[j]?=some v→(flat bS (s.rows.set S.bE (q,c'))++s.rest)[0+S.bE*4+j]?=some v:=fun {c' j v} hj=>by rw[ZQ];exact oE (hr2 c') hj _
   refine an ?_
   refine VG (VO.ld 3 Z Z Z (hcell2 (j:=3) Z) ?_)
   refine VG (VP Z Z ?_ ?_ ?_)
   ·dsimp only;omega
   ·dsimp only;omega
   refine VG (VO.st 3 Z Z Z Z (hlen _ yf 3 yd) (sE hk yd (r':=(q,{ c with bh:=(c.c1 S.fresh).bh-cR g.op,served:=aA.jV (c.served+cR g.op) })) Z s.rest) Z (VG (VN ?_)))
   refine an ?_
   refine VG (VO.ld 3 Z Z Z (hcell2 (j:=0) Z) ?_)
   refine VG (VV (fun Fr w hF _ hs=>Ring.fh (q:=q') (cap:=S.cap) Fr w (hs.at_ (S.bE+4) (by simp[hk]))) Z (VG (VN ?_)))
   refine CE Z (fun hz=>?_) (fun hz=>CK (CX ?_))
   ·have hz:q'=[]:=List.eq_nil_of_length_eq_zero yd
    rw[if_pos hz] at hp
    cases hp
    have hcr:(c.c2 S.fresh f q').bh=0:=by show(if q'=[] then 0 else (c.c1 S.fresh).bh-cR f.op)=0;rw[if_pos hz]
    have hwf:=h.wf.mZ hwf2 hq2 (by rw[hcr];omega)
    refine an ?_
    refine VG (VO.st 3 Z Z Z Z (hlen _ yf 2 yd) (sE hk yd (r':=(q,{ c with bh:=0,served:=aA.jV (c.served+cR f.op) })) Z s.rest) Z (VG (VN ?_)))
    refine an ?_
    refine U_ ?_
    rintro _ _ ⟨rfl,rfl⟩
    refine VG (VN (CX ?_))
    refine an ?_
    refine VG (VL 1 (cG (f,m')) Z Z Z Z (VG (VT (vs:=cG (f,m')) (cs':=cG (f,m')) 1 Z Z Z Z (NR _) Z Z Z (VG (VN ?_)))))
    refine CR (ay.aT 2 3 Z Z Z (aE.many 1 Z Z) Z ?_ ⟨⟨m',Z⟩,Z⟩)
    have e:=oF (p:=p) (S:=S) (cA:={ c with bh:=0,served:=aA.jV (c.served+cR f.op) }) (c':=c.c2 S.fresh f q') (fr:=true) hr TB (show(((S.bE+1) % s.rows.length:Nat):Int)=((S.bE+1) % S.cls.length:Nat) by rw[hn]) rfl
    exact XO
   ·have hz:q'≠[]:=fun e=>hz (by simp[e])
    rw[if_neg hz] at hp
    cases hp
    have hcr:(c.c2 S.fresh f q').bh=(c.c1 S.fresh).bh-cR f.op:=by show(if q'=[] then 0 else (c.c1 S.fresh).bh-cR f.op)=_;rw[if_neg hz]
    have hwf:=h.wf.stays hwf2 hq2
    refine an ?_
    refine VG (VL 1 (cG (f,m')) Z Z Z Z (VG (VT (vs:=cG (f,m')) (cs':=cG (f,m')) 1 Z Z Z Z (NR _) Z Z Z (VG (VN ?_)))))
    refine CR (ay.aT 2 3 Z Z Z (aE.many 1 Z Z) Z ?_ ⟨⟨m',Z⟩,Z⟩)
    have e:=oF (p:=p) (S:=S) (cA:={ c with bh:=(c.c1 S.fresh).bh-cR f.op,served:=aA.jV (c.served+cR f.op) }) (c':=c.c2 S.fresh f q') (fr:=false) hr TB (rfl:((S.bE:Nat):Int)=(S.bE:Nat)) rfl
    exact XO
end Sched
namespace Sched
open Go Vg T Api Ring
attribute [local irreducible] VO VC VA
def SH(a:Option Addr)(c:Nat)(gs:List FM):HP:=aI 204 29 a gs.length c (flat cG gs)
theorem IA(a:Option Addr)(c:Nat)(gs:List FM)(g:FM):aI 204 29 a (gs.length+1) c (flat cG gs++cG g)=SH a c (gs ++ [g]):=by
 simp[SH,bf,bO,fg]
theorem aA.Wf.ZD{S:aA}(h:S.Wf)(i:Nat):((S.cls.take i).flatMap dK.q).length≤64:=by
 have hq:=h.qs;have hn:=h.n1;have hc:=h.gV
 have:∀(l:List dK),(∀c∈l,c.q.length≤16)→(l.flatMap dK.q).length≤l.length*16:=by
  intro l
  induction l with
  | nil=>intro _;simp
  | cons c l ih=>intro hl;rw[List.flatMap_cons,ZM,ZW];have:=hl c yf;have:=ih (fun c hc=>hl c (by simp[hc]));omega
 have h2:=this (S.cls.take i) (fun c hc=>by have:=hq c (List.mem_of_mem_take hc);omega)
 have:(S.cls.take i).length≤4:=by rw[Z1];omega
 omega
def gone(now:Int)(f:aa):Bool:=decide (f.deadline<now)
def stay(now:Int)(f:aa):Bool:=!gone now f
def dK.ud(now:Int)(c:dK):dK:=⟨c.q.filter (stay now),c.fD,if c.q.filter (stay now)=[] then 0 else c.bh,c.served⟩
def aA.cB(S:aA)(now:Int):List aa:=S.cls.flatMap fun c=>c.q.filter (gone now)
def aA.mm(S:aA)(now:Int):aA:={ S with cls:=S.cls.map (dK.ud now) }
theorem dK.Wf.exp{c:dK}(h:c.Wf)(now:Int):(c.ud now).Wf:=by
 have:=h.q0;have:=h.c0;have:=h.c1
 refine⟨h.q0,h.q1,?_,?_,h.s0,h.s1⟩
 ·show(0:Int)≤if _ then 0 else c.bh
  split<;>omega
 ·show(if _ then 0 else c.bh)≤c.fD+95
  split<;>omega
abbrev SI:=Nat×aA×pN×Option Addr×Nat×List FM
structure SJ(S0:aA)(now:Int)(s0:pN)(x:SI):Prop where
 le:x.1≤S0.cls.length
 ok:jv x.2.1 x.2.2.1
 cls:∀k,x.2.1.cls[k]?=(S0.cls[k]?).map (if k<x.1 then dK.ud now else id)
 cap:x.2.1.cap=S0.cap
 bE:x.2.1.bE=S0.bE
 fresh:x.2.1.fresh=S0.fresh
 cb:x.2.2.1.cb=s0.cb
 wP:x.2.2.1.wP=s0.wP
 rows:x.2.2.1.rows.length=s0.rows.length
 room:x.2.2.2.2.2.length≤x.2.2.2.2.1
 gs:x.2.2.2.2.2.map Prod.fst=(S0.cls.take x.1).flatMap fun c=>c.q.filter (gone now)
structure Wu(cl:dK)(now:Int)(gs0:List aa)(x:Nat×List aa×Option Addr×Nat×List FM):Prop where
 le:x.1≤cl.q.length
 cur:x.2.1=cl.q.drop x.1++(cl.q.take x.1).filter (stay now)
 room:x.2.2.2.2.length≤x.2.2.2.1
 gs:x.2.2.2.2.map Prod.fst=gs0++(cl.q.take x.1).filter (gone now)
theorem aA.Wf.Qy{S:aA}(h:S.Wf)(i:Nat)(now:Int):((S.cls.take i).flatMap fun c=>c.q.filter (gone now)).length≤64:=by
 have hq:=h.qs;have hn:=h.n1;have hc:=h.gV
 have:∀(l:List dK),(∀c∈l,c.q.length≤16)→(l.flatMap fun c=>c.q.filter (gone now)).length≤l.length*16:=by
  intro l
  induction l with
  | nil=>intro _;simp
  | cons c l ih=>intro hl;rw[List.flatMap_cons,ZM,ZW];have:=hl c yf;have:=ih (fun c hc=>hl c (by simp[hc]));have:=List.length_filter_le (gone now) c.q;omega
 have h2:=this (S.cls.take i) (fun c hc=>by have:=hq c (List.mem_of_mem_take hc);omega)
 have:(S.cls.take i).length≤4:=by rw[Z1];omega
 omega
theorem im(p:Nat)(S0:aA)(now:Int):
  aH Tryz.prog 273 [.pointer (some ⟨p,0,none⟩),.int .i64 now] Fr w [iz p S0] (fun v L=>∃a c gs,gs.map Prod.fst=S0.cB now∧v=.slice a gs.length c∧L=[iz p (S0.mm now),SH a c gs]):=by
 refine TF 67 Tryz.func273 Z yn ah Z Z ?_
 refine VC.e_ 0 Z (aW.bP p S0) fun s0 h0=>?_
 refine CN (L':=lK p S0 s0) (ae.of_eq (ZN _)).ar ?_
 have hn:=h0.len
 have hn0:=h0.wf.n0
 have hn4:=h0.wf.n1
 refine an ?_
 refine VG (VV (fun Fr w hF _ hs=>bj Fr w (hs.aP 0 Z)) Z (VG (VN ?_)))
 refine CP Z (fun h=>by omega) (fun _=>CK ?_)
 refine an ?_
 refine VC.loop (σ:=SI) (fun x=>[(0,pV p),(1,.int .i64 now),(5,.slice x.2.2.2.1 x.2.2.2.2.2.length x.2.2.2.2.1),(16,.int .i64 s0.rows.length),(17,.int .i64 x.1)]) (fun x=>SH x.2.2.2.1 x.2.2.2.2.1 x.2.2.2.2.2::lK p x.2.1 x.2.2.1) (SJ S0 now s0) (fun x=>4-x.1) (0,S0,s0,none,0,[]) ⟨ZO _,h0,fun k=>by simp,Z,Z,Z,Z,Z,Z,NR _,Z⟩ ba (ae.bZ ae.refl).ar ?_
 rintro⟨i,S,s,a,c,gs⟩ ⟨hi,h,hcls,hcap,hturn,hfresh,hcb,hccap,hrows,hroom,hgs⟩
 dsimp only at hi h hcls hcap hturn hfresh hcb hccap hrows hroom hgs ⊢
 refine an ?_
 refine CP Z (fun h1=>?_) (fun h1=>?_)
 ·have hk0:i<S0.cls.length:=by omega
  obtain⟨c0,hc0⟩:∃c0,S0.cls[i]?=some c0:=⟨_,GE hk0⟩
  have hc0':S.cls[i]?=some c0:=by rw[hcls i,hc0,if_neg (Nat.lt_irrefl i)];rfl
  have hk:i<S.cls.length:=(ZP.1 hc0').1
  obtain⟨q,cl,hr,hc⟩:=h.row hk
  obtain rfl:cl=c0:=by rw[hc] at hc0';exact Z3 hc0'
  have hql:=h.wf.qs cl (ME hc)
  have hcap16:=h.wf.gV
  have hki:i<s.rows.length:=by omega
  have hcell:∀{j:Nat} {v:Value},(bS (q,cl))[j]?=some v→(flat bS s.rows++s.rest)[0+i*4+j]?=some v:=fun {j v} hj=>by rw[ZQ];exact oE hr hj _
  refine CK ?_
  refine jd ?_
  refine VG (VI (a_ i Z Z Z Z Z Z hki) ?_)
  refine jd ?_
  refine T5 ?_
  refine VG (VV (fun Fr w hF _ hs=>Ring.fh (q:=cl.q) (cap:=S.cap) Fr w (hs.at_ (i+3) TH)) Z (VG (VN ?_)))
  refine an ?_
  refine VC.loop (σ:=Nat×List aa×Option Addr×Nat×List FM) (fun x=>[(0,pV p),(1,.int .i64 now),(5,.slice x.2.2.1 x.2.2.2.2.length x.2.2.2.1),(7,.pointer (some ⟨s.cb,0+i*4,none⟩)),(16,.int .i64 s0.rows.length),(17,.int .i64 i),(30,.int .i64 cl.q.length),(31,.int .i64 x.1)]) (fun x=>SH x.2.2.1 x.2.2.2.1 x.2.2.2.2::pt p (rB S s) 252::pt s.cb (flat bS s.rows++s.rest) 257::(s.rows.map fun r=>b_ r.1 r.2.q S.cap).set i (b_ q x.2.1 S.cap)) (Wu cl now ((S0.cls.take i).flatMap fun c=>c.q.filter (gone now))) (fun x=>16-x.1) (0,cl.q,a,c,gs) ⟨ZO _,by simp,hroom,by simpa using hgs⟩ ba (jq.of_eq (by dsimp only;rw[←uQ hr];rfl)) ?_
  rintro⟨j,cur,a,c,gs⟩ ⟨hj,hcur,hroom,hgs⟩
  dsimp only at hj hcur hroom hgs ⊢
  have hfew:=h0.wf.Qy i now
  have hgl:gs.length≤80:=by
   have:=congrArg List.length hgs
   have h3:=List.length_filter_le (gone now) (cl.q.take j)
   have h4:=List.length_take_le j cl.q
   rw[ZR,ZM] at this
   omega
  have hrl:(s.rows.map fun r=>b_ r.1 r.2.q S.cap).length=s.rows.length:=by simp
  refine an ?_
  refine CP Z (fun h2=>?_) (fun h2=>?_)
  ·have hj2:j<cl.q.length:=by omega
   have hf:=GE hj2
   have hdrop:cl.q.drop j=cl.q[j]::cl.q.drop (j+1):=List.drop_eq_getElem_cons hj2
   generalize cl.q[j]=f at hf hdrop
   have htake:cl.q.take (j+1)=cl.q.take j ++ [f]:=by rw[ZZ,hf];rfl
   have hcur2:cur=f::(cl.q.drop (j+1)++(cl.q.take j).filter (stay now)):=by rw[hcur,hdrop];rfl
   refine RH ?_
   refine T5 ?_
   refine VG (VO.op rfl rfl rfl (a8.Nv (i+3) (H:=b_ q cur S.cap) (R:=Ring.BP q S.cap cur) (ψ:=fun v M H=>(∃m,v=.tuple #[.agg (cG (f,m)).toArray,.bool true]∧M=wN m)∧H=b_ q (cl.q.drop (j+1)++(cl.q.take j).filter (stay now)) S.cap) (by simp[hki]) (fun Fr w _ _ _=>Ring.rA Fr w q cur S.cap) rfl (fun v L1 h1=>by rw[hcur2] at h1;obtain⟨m,h2,h3⟩:=h1;exact⟨_,_,h3,⟨m,h2,rfl⟩,rfl⟩)) ?_)
   rintro _ _ ⟨_,_,⟨⟨m,rfl,rfl⟩,rfl⟩,rfl⟩
   refine VG (VO.alloc Z fun b8=>VG (VT (vs:=cG (f,m)) (cs':=cG (f,m)) 0 Z Z Z Z (NR _) Z Z Z (VG (VN ?_))))
   refine an ?_
   refine CP Z (fun h3=>?_) (fun h3=>?_)
   ·have h3:f.deadline<now:=h3
    have hg:gone now f=true:=by simp[gone,h3]
    have hs:stay now f=false:=by simp[stay,hg]
    refine an ?_
    refine VG (VL 0 (cG (f,m)) Z Z Z Z ?_)
    refine VG (VO.buildSlice (n:=1) (pv:=[(0,.agg (cG (f,m)).toArray)]) (cG (f,m)) Z Z Z Z yp (bJ Z Z Z) fun nb=>?_)
    refine VG (VO.append (m:=1) (news:=cG (f,m)) 3 Z Z Z Z Z Z Z (dt.pt 0 Z Z Z) Z (by show(gs.length+1)*288≤_;omega) yd fun a' c' hc'=>VG (VN ?_))
    refine sh ?_
    have hL:(gs ++ [(f,m)]).length=gs.length+1:=by simp
    refine⟨(j+1,cl.q.drop (j+1)++(cl.q.take j).filter (stay now),a',c',gs ++ [(f,m)]),⟨hj2,by dsimp only;rw[htake,List.filter_append];simp[hs],by dsimp only;rw[hL];exact hc',?_⟩,by dsimp only;omega,SC Z (SC Z (SC RR ba)),?_⟩
    ·dsimp only;rw[List.map_append,hgs,htake,List.filter_append,ZX];simp[hg]
    ·dsimp only
     rw[←IA]
     refine(ae.cons (ae.trans ae.tl (ae.trans ae.tl (ae.trans ae.tl (ae.of_eq ?_))))).ar
     show _::_::((s.rows.map fun r=>b_ r.1 r.2.q S.cap).set i (b_ q cur S.cap)).set i _=_
     rw[List.set_set]
   ·have h3:¬f.deadline<now:=h3
    have hg:gone now f=false:=by simp[gone];omega
    have hs:stay now f=true:=by simp[stay,hg]
    have hlt:(cl.q.drop (j+1)++(cl.q.take j).filter (stay now)).length<S.cap:=by
     have h4:=List.length_filter_le (stay now) (cl.q.take j)
     have h5:=List.length_take_le j cl.q
     rw[ZM,List.length_drop]
     omega
    refine CD (ts 0 5 (.only 5 .nil)) yn yn ?_
    have hc3:(flat bS s.rows++s.rest)[0+i*4]?=some (.pointer (some ⟨q,0,none⟩)):=hcell (j:=0) rfl
    refine AG (VA.ld 4 Z Z Z Z hc3 (AG (VA.ky 0 (cG (f,m)) Z Z Z Z Z ?_)))
    refine AG (AQ (i+5) (H:=b_ q (cl.q.drop (j+1)++(cl.q.take j).filter (stay now)) S.cap) (ψ:=fun v H=>H=b_ q (cl.q.drop (j+1)++(cl.q.take j).filter (stay now) ++ [f]) S.cap) (by simp[hki]) (fun Fr w _ _ hS=>Ring.jh Fr w q _ S.cap (f,m) (Dw.sat (hS.at_ 1 Z))) Z Z (fun v L1 h1=>⟨_,h1.2,by rw[if_pos hlt]⟩) ?_ ?_)
    ·rintro _ _ rfl
     exact(by(try refine Pd.st ?_);(repeat(first|exact Pd.nil|exact Pd.fnil|refine Pd.inner ?_|refine Pd.skip yr ?_|refine zf (zo 0 Z Z) ?_|refine zf (zo 1 Z Z) ?_|refine zf (zm 0 Z Z) ?_|refine zf (zm 1 Z Z) ?_|refine zf (aE.aP (aE.one 4 Z hc3) Z) ?_|refine zf ((aE.one 4 Z hc3)) ?_|refine zc (zo 0 Z Z) ?_|refine zc (zo 1 Z Z) ?_|refine zc (zm 0 Z Z) ?_|refine zc (zm 1 Z Z) ?_|refine zc (aE.aP (aE.one 4 Z hc3) Z) ?_|refine zc ((aE.one 4 Z hc3)) ?_)))
    rintro _ _ rfl
    refine eW ?_
    refine sh ?_
    refine⟨(j+1,cl.q.drop (j+1)++(cl.q.take j).filter (stay now) ++ [f],a,c,gs),⟨hj2,by dsimp only;rw[htake,List.filter_append,ZX];simp[hs],hroom,by dsimp only;rw[hgs,htake,List.filter_append];simp[hg]⟩,by dsimp only;omega,ba,?_⟩
    refine(ae.trans ae.tl (ae.trans ae.tl (ae.cons (ae.of_eq ?_)))).ar
    show _::_::(((s.rows.map fun r=>b_ r.1 r.2.q S.cap).set i (b_ q cur S.cap)).set i _).set i _=_
    rw[List.set_set,List.set_set]
  ·have hj2:j=cl.q.length:=by omega
   subst hj2
   rw[Z'] at hgs
   have hcur3:cur=cl.q.filter (stay now):=by rw[hcur];simp
   subst hcur3
   have hle2:=List.length_filter_le (stay now) cl.q
   have hwf':aA.Wf ⟨S.cls.set i (cl.ud now),S.cap,S.bE,S.fresh⟩:=h.wf.set hc ((h.wf.cls cl (ME hc)).exp now) (by show(cl.q.filter (stay now)).length≤S.cap;omega) (fun hl=>by
    have:=h.wf.low i cl hc hl
    show(if cl.q.filter (stay now)=[] then 0 else cl.bh)≤95
    split<;>omega)
   have hnext:SJ S0 now s0 (i+1,⟨S.cls.set i (cl.ud now),S.cap,S.bE,S.fresh⟩,{ s with rows:=s.rows.set i (q,cl.ud now) },a,c,gs):=by
    refine⟨hk0,h.Ny hr hwf',fun k=>?_,hcap,hturn,hfresh,hcb,hccap,by simpa using hrows,hroom,?_⟩
    ·dsimp only
     by_cases hik:i=k
     ·subst hik
      rw[Z9 hk,hc0,if_pos (Nat.lt_succ_self i)];rfl
     ·rw[List.getElem?_set_ne hik,hcls k]
      congr 1
      by_cases h9:k<i
      ·rw[if_pos h9,if_pos yd]
      ·rw[if_neg h9,if_neg yd]
    ·dsimp only;rw[hgs,ZZ,hc0,List.flatMap_append];simp
   refine CX ?_
   refine an ?_
   refine T5 ?_
   refine VG (VV (fun Fr w hF _ hs=>Ring.fh (q:=cl.q.filter (stay now)) (cap:=S.cap) Fr w (hs.at_ (i+3) (by simp[hki]))) Z (VG (VN ?_)))
   refine CE Z (fun hz=>?_) (fun hz=>CK ?_)
   ·have hz:cl.q.filter (stay now)=[]:=List.eq_nil_of_length_eq_zero yd
    have hcr:(cl.ud now).bh=0:=by show(if cl.q.filter (stay now)=[] then 0 else cl.bh)=0;rw[if_pos hz]
    refine an ?_
    refine VG (VO.st 2 Z Z Z Z (by rw[ZM,bp kj];show 0+i*4+2<_;omega) (rD hr yd (r':=(q,cl.c0)) Z s.rest) Z (VG (VN ?_)))
    refine sh ?_
    refine⟨_,hnext,by dsimp only;omega,SC Z (SC Z (SC Z (SC Z (SC Z (SN _))))),(ae.cons (ae.of_eq ?_)).ar⟩
    exact oF (cA:=cl.c0) (c':=cl.ud now) hr TB Z rfl
   ·have hz:cl.q.filter (stay now)≠[]:=fun e=>hz RS
    have hcr:(cl.ud now).bh=cl.bh:=by show(if cl.q.filter (stay now)=[] then 0 else cl.bh)=_;rw[if_neg hz]
    refine sh ?_
    refine⟨_,hnext,by dsimp only;omega,SC Z (SC Z (SC Z (SC Z (SC Z (SN _))))),(ae.cons (ae.of_eq ?_)).ar⟩
    rw[sD hr (b:=(q,cl)) rfl]
    exact oF (cA:=cl) (c':=cl.ud now) hr TB Z rfl
 ·have hk:i=S0.cls.length:=by omega
  subst hk
  rw[Z'] at hgs
  refine CX ?_
  refine an ?_
  have e:S=S0.mm now:=by
   obtain⟨cls,cap,bE,fresh⟩:=S
   dsimp only at hcls hcap hturn hfresh
   subst hcap;subst hturn;subst hfresh
   show aA.mk _ _ _ _=aA.mk _ _ _ _
   congr 1
   apply List.ext_getElem?
   intro k
   rw[hcls k,ZS]
   by_cases h9:k<S0.cls.length
   ·rw[if_pos h9]
   ·rw[List.getElem?_eq_none yd];rfl
  subst e
  refine CR (ay.tmp 4 Z Z (ae.trans (ae.perm (List.perm_append_comm (l₁:=[_]))) (ae.app (mi h) ae.refl)).ar ⟨a,c,gs,hgs,Z,Z⟩)
end Sched
namespace Sched
open Go Vg T Api Ring
attribute [local irreducible] VO VC VA
structure ee(Fr:Nat→Prop)(w:World)(a:Option Addr)(qs:List Int):Prop where
 at_:qs≠[]→∃b off,a=some ⟨b,off,none⟩∧Fr b∧∀i v,qs[i]?=some v→w.cell? ⟨b,off+i,none⟩=some (.int .i64 v)
def gk(q:Int):Bool:=decide (96≤q)&&decide (q≤65536)
def lx(qs:List Int)(cap:Int):Bool:=decide (1≤qs.length)&&decide (qs.length≤4)&&decide (1≤cap)&&decide (cap≤16)&&qs.all gk
def jK(q:Int):dK:=⟨[],q,0,0⟩
def aA.new(qs:List Int)(cap:Int):aA:=⟨qs.map jK,cap.toNat,0,true⟩
theorem aA.IB{qs:List Int}{cap:Int}(h:lx qs cap=true):(aA.new qs cap).Wf:=by
 simp only[lx,Z2,decide_eq_true_eq,List.all_eq_true,gk] at h
 obtain⟨⟨⟨⟨h1,h2⟩,h3⟩,h4⟩,h5⟩:=h
 refine⟨by simpa[aA.new] using h1,by simpa[aA.new] using h2,by simp[aA.new];omega,by simp[aA.new];omega,by simp[aA.new];omega,fun c hc=>?_,fun c hc=>?_,fun k c hc _=>?_⟩
 ·obtain⟨q,hq,rfl⟩:=Z0.1 hc
  have:=h5 q hq
  exact⟨this.1,this.2,Z5 _,by show(0:Int)≤q+95;omega,Z5 _,by show(0:Int)≤_;omega⟩
 ·obtain⟨q,hq,rfl⟩:=Z0.1 hc
  simp[jK]
 ·obtain⟨q,hq,rfl⟩:=Z0.1 (ME hc)
  show(0:Int)≤95;omega
abbrev Nz:=Nat×Option Addr×Nat×List Row
def SK(p:Nat)(cap:Nat)(x:Nz):List HP:=pt p [.slice x.2.1 x.1 x.2.2.1,.int .i64 0,.bool true] 252::aI 257 4 x.2.1 x.1 x.2.2.1 (flat bS x.2.2.2)::x.2.2.2.map fun r=>b_ r.1 r.2.q cap
def fy(qs:List Int)(cap:Int)(v:Value)(L:List HP):Prop:=if lx qs cap=true then ∃p,v=.tuple #[.pointer (some ⟨p,0,none⟩),.int .i64 0]∧L=[iz p (aA.new qs cap)] else v=.tuple #[.pointer none,.int .i64 2]∧L=[]
theorem fy.bad{X:Cx}{e:Env}{L:List HP}{qs:List Int}{cap:Int}(h:lx qs cap=false)(h4:Vg.look e 4=some (.pointer none))(h5:Vg.look e 5=some (.int .i64 2)):Vg.ay X Tryz.f83 (fy qs cap) e L:=
 ay.cV 4 5 rfl h4 h5 ae.nil.ar (by unfold fy;rw[if_neg (by rw[h];simp)];exact⟨rfl,rfl⟩)
structure Qz(qs:List Int)(x:Nz):Prop where
 le:x.1≤qs.length
 room:x.1≤x.2.2.1
 rows:x.2.2.2.map Prod.snd=(qs.take x.1).map jK
 ok:(qs.take x.1).all gk=true
theorem Qz.len{qs:List Int}{x:Nz}(h:Qz qs x):x.2.2.2.length=x.1:=by
 have:=congrArg List.length h.rows
 have h2:=h.le
 simp only[ZR,Z1] at this
 omega
theorem dJ(a:Option Addr)(qc:Nat)(qs:List Int)(cap:Int)(hq:ee Fr w a qs):
  aH Tryz.prog 83 [.slice a qs.length qc,.int .i64 cap] Fr w [] (fy qs cap):=by
 refine TF 62 Tryz.func83 Z yn ah Z Z ?_
 refine an ?_
 refine VG (VO.split 13 Z Z (fun h1=>?_) (fun h1=>VG (VO.split 18 Z Z (fun h2=>?_) (fun h2=>VG (VO.split 22 Z Z (fun h3=>?_) (fun h3=>?_))))))
 ·have h1:=of_decide_eq_true h1
  refine VG (VY 18 true Z Z (VG (VY 22 true Z Z (VG (VN (VC.kr Z ?_))))))
  refine an ?_
  refine CR (fy.bad ?_ Z Z)
  have:¬(1≤qs.length):=by omega
  simp[lx,this]
 ·have h2:=of_decide_eq_true h2
  refine VG (VY 22 true Z Z (VG (VN (VC.kr Z ?_))))
  refine an ?_
  refine CR (fy.bad ?_ Z Z)
  have:¬(qs.length≤4):=by omega
  simp[lx,this]
 ·have h3:=of_decide_eq_true h3
  refine VG (VN (VC.kr Z ?_))
  refine an ?_
  refine CR (fy.bad ?_ Z Z)
  have:¬(1≤cap):=by omega
  simp[lx,this]
 have h1:=of_decide_eq_false h1
 have h2:=of_decide_eq_false h2
 have h3:=of_decide_eq_false h3
 refine an ?_
 refine CP Z (fun h4=>?_) (fun h4=>CK ?_)
 ·refine an ?_
  refine CR (fy.bad ?_ Z Z)
  have:¬(cap≤16):=by omega
  simp[lx,this]
 obtain⟨cp,rfl⟩:=Int.eq_ofNat_of_zero_le (show 0≤cap by omega)
 obtain⟨b,off,ha,hF,hcell⟩:=hq.at_ (fun e=>by rw[e] at h1;simp at h1)
 subst ha
 refine CS (CG (VG (VI (LB [.slice none 0 0,.int .i64 0,.bool true] Z Z Z Z Z) (VG (VB (vs:=[.slice none 0 0,.int .i64 0,.bool true]) Z fun p=>VG (VN ?_))))))
 refine an ?_
 refine VC.loop (σ:=Nz) (fun x=>[(0,.slice (some ⟨b,off,none⟩) qs.length qc),(1,.int .i64 cp),(4,pV p),(28,.slice (some ⟨b,off,none⟩) qs.length qc),(29,.int .i64 qs.length),(30,.int .i64 x.1)]) (SK p cp) (Qz qs) (fun x=>4-x.1) (0,none,0,[]) ⟨ZO _,NR _,Z,Z⟩ ba ?_ ?_
 ·exact(ae.cons (ae.bZ ae.refl)).ar
 rintro⟨i,a,c,rows⟩ hI
 have hle:=hI.le;have hroom:=hI.room;have hlen:=hI.len;have hrows:=hI.rows;have hok:=hI.ok
 dsimp only at hle hroom hlen hrows hok ⊢
 refine an ?_
 refine CP Z (fun h5=>?_) (fun h5=>?_)
 ·have h5:i<qs.length:=by omega
  have hqi:=GE h5
  have hmem:qs[i]∈qs:=List.getElem_mem h5
  have htake:qs.take (i+1)=qs.take i ++ [qs[i]]:=by rw[ZZ,hqi];rfl
  generalize hqv:qs[i]=q at hqi hmem htake
  have hbad:gk q=false→lx qs cp=false:=fun h=>by
   have:qs.all gk=false:=List.all_eq_false.2 ⟨q,hmem,by simp[h]⟩
   simp[lx,this]
  refine RH ?_
  refine VG (VI (a_ i Z Z Z Z Z Z h5) ?_)
  refine VG (VO.load Z Z (aE.rd (v:=.int .i64 q) hF (by show w.cell? ⟨b,off+i*1,none⟩=_;rw[Nat.mul_one];exact hcell i _ hqi)) (VG (VN ?_)))
  refine CS (CS (CG (VG (VO.split 36 Z Z (fun h6=>?_) (fun h6=>?_)))))
  ·have h6:=of_decide_eq_true h6
   refine VG (VN (VC.kr Z ?_))
   refine an ?_
   refine CR (fy.bad (hbad ?_) Z Z)
   have:¬96≤q:=by omega
   simp[gk,this]
  have h6:=of_decide_eq_false h6
  refine VG (VN (CP Z (fun h7=>?_) (fun h7=>CK ?_)))
  ·refine an ?_
   refine CR (fy.bad (hbad ?_) Z Z)
   have:¬q≤65536:=by omega
   simp[gk,this]
  refine an ?_
  refine VG (VO.O5 Z (fun Fr w=>Ring.dJ Fr w cp yd yd) ?_)
  rintro _ _ ⟨r,rfl,rfl⟩
  refine an ?_
  refine VC.bo Z (fun h=>absurd Z h) (fun _=>CK ?_)
  refine CG ?_
  refine Rp ?_
  refine VG (VI (LB (pv:=[(0,pV r),(1,.int .i64 q)]) (bS (r,jK q)) Z Z Z Z Z) ?_)
  refine VG (VO.buildSlice (n:=1) (pv:=[(0,.agg (bS (r,jK q)).toArray)]) (bS (r,jK q)) Z Z Z Z yp (bJ Z Z Z) fun nb=>?_)
  refine VG (VO.append (m:=1) (news:=bS (r,jK q)) 3 Z Z Z Z Z Z Z (dt.pt 0 Z Z Z) Z (by show(i+1)*32≤_;omega) yd fun a' c' hc'=>?_)
  refine VG (VO.st 3 Z Z Z Z (by show 0<3;omega) Z Z (VG (VN ?_)))
  refine an ?_
  refine VG (VP Z Z ?_ ?_ ?_)
  ·omega
  ·omega
  refine an ?_
  refine⟨(i+1,a',c',rows ++ [(r,jK q)]),⟨h5,hc',?_,?_⟩,by dsimp only;omega,ba,?_⟩
  ·dsimp only;rw[List.map_append,hrows,htake,List.map_append];rfl
  ·dsimp only;rw[htake,List.all_append,hok];simp[gk];omega
  ·have e1:ae (b_ r [] cp::rows.map fun r:Row=>b_ r.1 r.2.q cp) ((rows ++ [(r,jK q)]).map fun r:Row=>b_ r.1 r.2.q cp):=by
    rw[List.map_append]
    exact ae.perm (List.perm_append_comm (l₁:=[b_ r [] cp]))
   have e2:flat bS rows++bS (r,jK q)=flat bS (rows ++ [(r,jK q)]):=by simp[bf,bO,fg]
   rw[e2]
   refine(IP 3 Z ?_).ar
   exact IP 0 Z (ae.trans ae.tl e1)
 ·have h5:i=qs.length:=by omega
  subst h5
  have hnew:lx qs cp=true:=by
   rw[Z'] at hok
   simp only[lx,hok,Bool.and_true,Z2,decide_eq_true_eq]
   omega
  refine CX ?_
  refine an ?_
  refine VC.e_ 1 Z (aW.sl _ _ _ _ _ _) fun x hx=>?_
  obtain⟨hx1,hx2,hx3⟩:=hx
  cases x with
  | none=>exact absurd hx3.2.1 yd
  | some y=>
   obtain⟨cb,rest⟩:=y
   obtain⟨rfl,hx3⟩:=hx3
   refine CR (ay.cV 4 5 Z Z Z (L':=[iz p (aA.new qs cp)]) ?_ (by unfold fy;rw[if_pos hnew];exact⟨p,Z,Z⟩))
   rw[Z'] at hrows
   refine(ae.bP (M:=[]) ⟨cb,c,rest,rows⟩ ⟨aA.IB hnew,hrows,by dsimp only;omega⟩ ?_).ar
   have e:rB (aA.new qs cp) ⟨cb,c,rest,rows⟩=[.slice (some ⟨cb,0,none⟩) qs.length c,.int .i64 0,.bool true]:=by simp[rB,aA.new,hlen]
   unfold lK
   rw[e]
   refine IP 1 Z ?_
   exact ae.of_eq (by simp[SK,aA.new])
end Sched
namespace Sched
open Go Vg T Api Ring
attribute [local irreducible] VO VC VA
def aA.qs(S:aA):List (List aa):=S.cls.map dK.q
theorem aA.IC{S:aA}{k:Nat}{c:dK}(h:S.cls[k]?=some c):S.qs[k]?=some c.q:=by simp[aA.qs,h]
theorem wQ{α:Type}{l:List α}{k:Nat}{a:α}(h:l[k]?=some a):l.set k a=l:=by rw[←(ZP.1 h).2];simp
theorem z_{S:aA}{k:Nat}{c:dK}(hc:S.cls[k]?=some c){c':dK}(h:c'.q=c.q):(S.cls.set k c').map dK.q=S.qs:=by
 rw[Z_,h];exact wQ (by simp[hc])
theorem sF{S:aA}{c:dK}(hc:S.cls[S.bE]?=some c)(N:Nat):S.kR (N+1)=match c.q with
   | []=>aA.kR N ⟨S.cls.set S.bE c.c0,S.cap,(S.bE+1) % S.cls.length,true⟩
   | f::q=>if (c.c1 S.fresh).bh<cR f.op then aA.kR N ⟨S.cls.set S.bE (c.c1 S.fresh),S.cap,(S.bE+1) % S.cls.length,true⟩
    else some (f,if q=[] then ⟨S.cls.set S.bE (c.c2 S.fresh f q),S.cap,(S.bE+1) % S.cls.length,true⟩ else ⟨S.cls.set S.bE (c.c2 S.fresh f q),S.cap,S.bE,false⟩):=by
 simp only[aA.kR,hc]
 all_goals (cases c.q<;>rfl)
theorem Aa:∀{N:Nat} {S S1:aA} {f:aa},S.Wf→S.kR N=some (f,S1)→∃k q,S.qs[k]?=some (f::q)∧S1.qs=S.qs.set k q∧S1.cap=S.cap∧S1.Wf
 | 0,S,S1,f,_,h=>by simp[aA.kR] at h
 | N+1,S,S1,f,hw,h=>by
  obtain⟨c,hc⟩:∃c,S.cls[S.bE]?=some c:=⟨_,GE hw.bE⟩
  have hcw:=hw.cls c (ME hc)
  have hql:=hw.qs c (ME hc)
  have same:∀c':dK,c'.q=c.q→(S.cls.set S.bE c').map dK.q=S.qs:=fun c' h'=>z_ hc h'
  rw[sF hc] at h
  cases hq:c.q with
  | nil=>
   simp only[hq] at h
   have hw':=hw.mZ (c':=c.c0) hcw.empty hql TD
   obtain⟨k,q,h1,h2,h3,h4⟩:=Aa hw' h
   have e:aA.qs ⟨S.cls.set S.bE c.c0,S.cap,(S.bE+1) % S.cls.length,true⟩=S.qs:=same c.c0 rfl
   rw[e] at h1 h2
   exact⟨k,q,h1,h2,h3,h4⟩
  | cons g q'=>
   simp only[hq] at h
   have hcost:=mj g.op
   have hw1:=hw.c1 hc
   by_cases hlt:(c.c1 S.fresh).bh<cR g.op
   ·rw[if_pos hlt] at h
    have hw':=hw.mZ (c':=c.c1 S.fresh) hw1 hql yd
    obtain⟨k,q,h1,h2,h3,h4⟩:=Aa hw' h
    have e:aA.qs ⟨S.cls.set S.bE (c.c1 S.fresh),S.cap,(S.bE+1) % S.cls.length,true⟩=S.qs:=same (c.c1 S.fresh) rfl
    rw[e] at h1 h2
    exact⟨k,q,h1,h2,h3,h4⟩
   ·rw[if_neg hlt] at h
    obtain⟨hw2,hq2⟩:=hw.c2 hc hq hlt
    simp only[Option.some.injEq,Prod.mk.injEq] at h
    obtain⟨rfl,h⟩:=h
    refine⟨S.bE,q',by rw[aA.IC hc,hq],?_⟩
    by_cases hz:q'=[]
    ·rw[if_pos hz] at h
     subst h
     have hcr:(c.c2 S.fresh g q').bh=0:=by show(if q'=[] then 0 else (c.c1 S.fresh).bh-cR g.op)=0;rw[if_pos hz]
     exact⟨by simp only[aA.qs,Z_];rfl,Z,hw.mZ hw2 hq2 (by rw[hcr];omega)⟩
    ·rw[if_neg hz] at h
     subst h
     exact⟨by simp only[aA.qs,Z_];rfl,Z,hw.stays hw2 hq2⟩
theorem kk:∀{N:Nat} {S:aA} {r:aa×aA} (M:Nat),S.kR N=some r→S.kR (N+M)=some r
 | 0,S,r,M,h=>by simp[aA.kR] at h
 | N+1,S,r,M,h=>by
  rw[show N+1+M=(N+M)+1 from by omega]
  simp only[aA.kR] at h ⊢
  cases hc:S.cls[S.bE]? with
  | none=>simp[hc] at h
  | some c=>
   simp only[hc] at h ⊢
   cases hq:c.q with
   | nil=>simp only[hq] at h ⊢;exact kk M h
   | cons g q'=>
    simp only[hq] at h ⊢
    by_cases hlt:(c.c1 S.fresh).bh<cR g.op
    ·rw[if_pos hlt] at h ⊢;exact kk M h
    ·rw[if_neg hlt] at h ⊢;exact h
theorem uR:∀(d:Nat) {S:aA},S.Wf→S.fresh=true→(∃x,S.qs[(S.bE+d) % S.cls.length]?=some x∧x≠[])→∃r,S.kR (d+1)=some r
 | d,S,hw,hf,⟨x,hx,hne⟩=>by
  obtain⟨c,hc⟩:∃c,S.cls[S.bE]?=some c:=⟨_,GE hw.bE⟩
  have hcw:=hw.cls c (ME hc)
  have hql:=hw.qs c (ME hc)
  rw[sF hc]
  cases hq:c.q with
  | cons g q'=>
   have hcost:=mj g.op
   have h1:=hcw.q0;have h2:=hcw.c0
   have hlt:¬(c.c1 S.fresh).bh<cR g.op:=by
    show ¬(if S.fresh then c.bh+c.fD else c.bh)<_
    rw[hf,if_pos rfl];omega
   simp only[if_neg hlt]
   exact⟨_,Z⟩
  | nil=>
   cases d with
   | zero=>
    rw[Nat.add_zero,Nat.mod_eq_of_lt hw.bE,aA.IC hc] at hx
    rw[←Z3 hx] at hne
    exact absurd hq hne
   | succ d=>
    have hw':=hw.mZ (c':=c.c0) hcw.empty hql TD
    refine uR d hw' Z ⟨x,?_,hne⟩
    have e:aA.qs ⟨S.cls.set S.bE c.c0,S.cap,(S.bE+1) % S.cls.length,true⟩=S.qs:=z_ hc rfl
    rw[e,←hx]
    congr 1
    simp only[Z4]
    rw[Nat.mod_add_mod]
    congr 1;omega
theorem xJ{S:aA}(hw:S.Wf)(hi:S.idle=false):∃f S1,S.kR 9=some (f,S1):=by
 have hn4:=hw.n1
 have key:∀{T:aA},T.Wf→T.fresh=true→T.qs=S.qs→∃r,T.kR 4=some r:=by
  intro T hT hf hqs
  obtain⟨c,hc,hne⟩:=List.all_eq_false.1 hi
  obtain⟨j,hj⟩:=List.getElem?_of_mem hc
  have hTn:T.cls.length=S.cls.length:=by have:=congrArg List.length hqs;simpa[aA.qs] using this
  have hjn:=(ZP.1 hj).1
  have ht:=hT.bE
  have hx:T.qs[j]?=some c.q:=by rw[hqs,aA.IC hj]
  have hne':c.q≠[]:=fun e=>hne RS
  let d:=(j+T.cls.length-T.bE) % T.cls.length
  have hd:d<T.cls.length:=Nat.mod_lt _ hT.n0
  have hdj:(T.bE+d) % T.cls.length=j:=by
   show(T.bE+(j+T.cls.length-T.bE) % T.cls.length) % T.cls.length=j
   rw[Nat.add_mod_mod,show T.bE+(j+T.cls.length-T.bE)=j+T.cls.length from by omega,Nat.add_mod_right]
   exact Nat.mod_eq_of_lt yd
  obtain⟨r,hr⟩:=uR d hT hf ⟨c.q,by rw[hdj];exact hx,hne'⟩
  refine⟨r,?_⟩
  have:=kk (3-d) hr
  rwa[show d+1+(3-d)=4 from by omega] at this
 have up:∀{T:aA} {r:aa×aA},T.kR 4=some r→T.kR 9=some r:=fun h=>kk 5 h
 cases hf:S.fresh with
 | true=>
  obtain⟨r,hr⟩:=key hw hf rfl
  exact⟨r.1,r.2,up hr⟩
 | false=>
  obtain⟨c,hc⟩:∃c,S.cls[S.bE]?=some c:=⟨_,GE hw.bE⟩
  have hcw:=hw.cls c (ME hc)
  have hql:=hw.qs c (ME hc)
  have same:∀c':dK,c'.q=c.q→(S.cls.set S.bE c').map dK.q=S.qs:=fun c' h'=>z_ hc h'
  rw[sF (N:=8) hc]
  cases hq:c.q with
  | nil=>
   have hw':=hw.mZ (c':=c.c0) hcw.empty hql TD
   obtain⟨r,hr⟩:=key hw' rfl (same c.c0 rfl)
   exact⟨r.1,r.2,kk 4 hr⟩
  | cons g q'=>
   have hcost:=mj g.op
   by_cases hlt:(c.c1 S.fresh).bh<cR g.op
   ·have hw':=hw.mZ (c':=c.c1 S.fresh) (hw.c1 hc) hql yd
    obtain⟨r,hr⟩:=key hw' rfl (same (c.c1 S.fresh) rfl)
    simp only[if_pos hlt]
    exact⟨r.1,r.2,kk 4 hr⟩
   ·simp only[if_neg hlt]
    exact⟨_,_,Z⟩
def aA.sG(S:aA):Option (aa×aA):=if S.idle then none else S.kR 9
def BP(p:Nat)(S:aA)(v:Value)(L:List HP):Prop:=match S.sG with
 | none=>v=.tuple #[.agg (cG oe).toArray,.bool false]∧L=[iz p S]
 | some r=>(∃m,v=.tuple #[.agg (cG (r.1,m)).toArray,.bool true])∧L=[iz p r.2]
theorem ID(p:Nat)(S:aA)(hi:S.idle=true):
  aH Tryz.prog 232 [.pointer (some ⟨p,0,none⟩)] Fr w [iz p S] (fun v L=>v=.tuple #[.agg (cG oe).toArray,.bool false]∧L=[iz p S]):=by
 refine TF 107 Tryz.func232 Z yn ah Z Z ?_
 refine CS (CG (VG (VO.alloc Z fun b=>VG (VN ?_))))
 refine VC.e_ 1 Z (aW.bP p S) fun s0 h0=>?_
 refine CN (L':=pt b (cG oe) 204::lK p S s0) (ae.perm List.perm_append_comm).ar ?_
 refine an ?_
 refine VG (VV (fun Fr w hF _ hs=>bj Fr w (hs.aP 1 Z)) Z ?_)
 refine VG (VY 10 false Z (DF Xo) ?_)
 refine an ?_
 refine XN ?_
 refine CC rfl (fun _=>?_) (fun h=>by rw[hi] at h;cases h)
 refine CS (CG (VG (VI (LB (pv:=[]) (cG oe) Z Z Z Z Z) (VG (VT (vs:=cG oe) (cs':=cG oe) 0 Z Z Z Z (NR _) Z Z Z (VG (VN ?_)))))))
 exact CR (ay.aT 2 3 Z Z Z (aE.many 0 Z Z) Z (ae.trans ae.tl (mi h0)).ar ⟨rfl,Z⟩)
theorem NA(p:Nat)(S:aA)(hw:S.Wf):aH Tryz.prog 232 [.pointer (some ⟨p,0,none⟩)] Fr w [iz p S] (BP p S):=by
 cases hi:S.idle with
 | true=>
  have:=ID Fr w p S hi
  unfold BP aA.sG
  simpa only[hi,if_true] using this
 | false=>
  obtain⟨f,S1,h⟩:=xJ hw hi
  have:=rA Fr w p S 9 f S1 h hi
  unfold BP aA.sG
  simpa only[hi,h,if_neg (by simp:¬false=true)] using this
theorem sH{S S1:aA}{f:aa}(hw:S.Wf)(h:S.sG=some (f,S1)):∃k q,S.qs[k]?=some (f::q)∧S1.qs=S.qs.set k q∧S1.cap=S.cap∧S1.Wf:=by
 unfold aA.sG at h
 split at h
 ·cases h
 ·exact Aa hw h
theorem GA{S:aA}(hw:S.Wf)(h:S.sG=none):S.idle=true:=by
 unfold aA.sG at h
 split at h
 ·assumption
 ·rename_i hi
  obtain⟨f,S1,h2⟩:=xJ hw yk
  rw[h2] at h;cases h
theorem Ab{S:aA}(hw:S.Wf)(f:aa):(S.eA f).2.Wf:=by
 unfold aA.eA
 cases ha:S.at_ f.cls with
 | none=>exact hw
 | some c=>
  dsimp only
  split
  ·exact hw
  ·split
   ·rename_i hlt
    unfold aA.at_ at ha
    split at ha
    ·have hcw:=hw.cls c (ME ha)
     exact hw.set ha ⟨hcw.q0,hcw.q1,hcw.c0,hcw.c1,hcw.s0,hcw.s1⟩ ye (hw.low _ c ha)
    ·cases ha
   ·exact hw
theorem NC{S:aA}{f:aa}{k:Nat}{c:dK}(hk:f.cls=k)(hc:S.cls[k]?=some c)(ho:a6 f.op=0):
  S.eA f=if c.q.length<S.cap then (0,S.mh k { c with q:=c.q ++ [f] }) else (60,S):=by
 unfold aA.eA
 rw[hk,aA.Iy,hc]
 dsimp only
 rw[if_neg (fun h=>h ho),ZU]
theorem ND{S:aA}{f:aa}{k:Nat}{q:List aa}(hk:f.cls=k)(hc:S.qs[k]?=some q)(ho:a6 f.op=0):
  (S.eA f).1=(if q.length<S.cap then 0 else 60)∧(S.eA f).2.qs=(if q.length<S.cap then S.qs.set k (q ++ [f]) else S.qs)∧(S.eA f).2.cap=S.cap:=by
 unfold aA.qs at hc
 rw[ZS] at hc
 cases hcl:S.cls[k]? with
 | none=>rw[hcl] at hc;cases hc
 | some c=>
  rw[hcl] at hc
  obtain rfl:c.q=q:=Z3 hc
  rw[NC hk hcl ho]
  split
  ·exact⟨rfl,by simp[aA.qs,aA.mh,Z_],Z⟩
  ·exact⟨rfl,Z,Z⟩
theorem IE(S:aA)(now:Int):(S.mm now).qs=S.qs.map fun q=>q.filter (stay now):=by simp[aA.qs,aA.mm,dK.ud,Function.comp_def]
theorem NF(S:aA)(now:Int):S.cB now=S.qs.flatMap fun q=>q.filter (gone now):=by simp[aA.qs,aA.cB,List.flatMap_map]
theorem IF{S:aA}(hw:S.Wf)(now:Int):(S.mm now).Wf:=by
 refine⟨by simpa[aA.mm] using hw.n0,by simpa[aA.mm] using hw.n1,hw.eV,hw.gV,by simpa[aA.mm] using hw.bE,fun x hx=>?_,fun x hx=>?_,fun k x hx hl=>?_⟩
 ·obtain⟨c,hc,rfl⟩:=Z0.1 hx
  exact(hw.cls c hc).exp now
 ·obtain⟨c,hc,rfl⟩:=Z0.1 hx
  have:=hw.qs c hc
  have:=List.length_filter_le (stay now) c.q
  show(c.q.filter (stay now)).length≤S.cap
  omega
 ·simp only[aA.mm,ZS] at hx
  cases hc:S.cls[k]? with
  | none=>rw[hc] at hx;cases hx
  | some c=>
   rw[hc] at hx
   obtain rfl:c.ud now=x:=Z3 hx
   have:=hw.low k c hc hl
   show(if c.q.filter (stay now)=[] then 0 else c.bh)≤95
   split<;>omega
end Sched
namespace Conf
open Go Api Vg T Sched
attribute [local irreducible] VO VC VA
def cS(qs:List Int):List Value:=qs.map fun q=>.int .i64 q
def lL(a:Option Addr)(cap:Nat)(qs:List Int):HP:=aI 3 1 a qs.length cap (cS qs)
theorem mn(qs:List Int):(cS qs).length=qs.length:=by simp[cS]
theorem GB(qs:List Int):(cS qs).all Value.oneCell'=true:=by
 rw[List.all_eq_true]
 intro v hv
 obtain⟨q,_,rfl⟩:=Z0.1 hv
 rfl
theorem m_{w w':World}{b off:Nat}{v:Value}(hb:w'.heap[b]?=w.heap[b]?)(h:w.cell? ⟨b,off,none⟩=some v):w'.cell? ⟨b,off,none⟩=some v:=by
 rw[←h];unfold World.cell?;rw[hb]
theorem fY{X:Cx}{a:Option Addr}{qs:List Int}(h:ee X.Fr X.w0 a qs){Fr':Nat→Prop}(hF:∀b,X.Fr b→Fr' b){w:World}{L:List HP}(hw:St X L w):ee Fr' w a qs:=⟨fun hne=>by
 obtain⟨b,off,h1,h2,h3⟩:=h.at_ hne
 exact⟨b,off,h1,hF b h2,fun i v hv=>m_ (hw.cK.block b h2) (h3 i v hv)⟩⟩
theorem iL{Fr:Nat→Prop}{w:World}{a:Option Addr}{c:Nat}{qs:List Int}(h:aM Fr [lL a c qs] w):ee Fr w a qs:=by
 refine⟨fun hne=>?_⟩
 obtain⟨F,⟨i,G,rfl,hs,rfl⟩,hF⟩:=h
 obtain⟨hc,⟨rfl,h0,_,_⟩ | ⟨b,rest,rfl,rfl,hn,hr,hh⟩⟩:=hs
 ·exact absurd (List.eq_nil_of_length_eq_zero h0) hne
 ·refine⟨b,0,Z,hF b yf,fun i v hv=>?_⟩
  rw[ZQ,cell_of_row w b i (cS qs++rest).toArray _ _ hh]
  have hi:=(ZP.1 hv).1
  have:(cS qs++rest)[i]?=some (.int .i64 v):=by
   rw[List.getElem?_append_left (by simpa[cS] using hi),cS,ZS,hv];rfl
  simpa using this
theorem GC{Fr:Nat→Prop}{w:World}{a:Option Addr}{qs:List Int}(h:ee Fr w a qs)(n:Nat):ee Fr w a (qs.take n):=by
 refine⟨fun hne=>?_⟩
 obtain⟨b,off,h1,h2,h3⟩:=h.at_ (fun e=>hne (by rw[e];simp))
 refine⟨b,off,h1,h2,fun i v hv=>h3 i v ?_⟩
 rw[List.getElem?_take] at hv
 split at hv
 ·exact hv
 ·cases hv
def sI(_:Option Addr):Prop:=True
structure aV where
 nodes:Int
 chain:Int
 aB:Int
 qs:List Int
 queue:Int
 eZ:Int
 reads:Int
 link:Int
 bu:Int
 timeout:Int
 dE:Int
 cH:Int
deriving DecidableEq
def aV.cells(c:aV)(a:Option Addr)(cap:Nat):List Value:=[.int .i64 c.nodes,.int .i64 c.chain,.int .i64 c.aB,.slice a c.qs.length cap,.int .i64 c.queue,.int .i64 c.eZ,.int .i64 c.reads,.int .i64 c.link,.int .i64 c.bu,.int .i64 c.timeout,.int .i64 c.dE,.int .i64 c.cH]
def aw(x lo hi:Int):Int:=if (if hi<x then hi else x)<lo then lo else if hi<x then hi else x
theorem fE{x lo hi:Int}(h:lo≤hi):lo≤aw x lo hi∧aw x lo hi≤hi:=by
 unfold aw;split<;>split<;>omega
theorem GD{x lo hi:Int}(h1:lo≤x)(h2:x≤hi):aw x lo hi=x:=by
 unfold aw;rw[if_neg yd,if_neg yd]
theorem IG(x lo hi:Int):(if lo<(if hi<x then hi else x) then (if hi<x then hi else x) else lo)=aw x lo hi:=by
 unfold aw;split<;>split<;>omega
def iq(q:Int):Int:=aw q 96 65536
def bR(qs:List Int):List Int:=if qs.take 4=[] then [96] else qs.take 4
def gq(qs:List Int):List Int:=(bR qs).map iq
def dz(c:aV):aV:=⟨aw c.nodes 1 6,aw c.chain 1 (aw c.nodes 1 6),aw c.aB 1 6,gq c.qs,aw c.queue 1 16,aw c.eZ 1 16,aw c.reads 1 16,aw c.link 4 64,aw c.bu 4 64,aw c.timeout 4 64,aw c.dE 0 16,aw c.cH 1 1099511627776⟩
theorem uS(qs:List Int):1≤(bR qs).length∧(bR qs).length≤4:=by
 unfold bR
 split
 ·simp
 ·rename_i h
  have:=List.length_take_le 4 qs
  refine⟨?_,this⟩
  cases hq:qs.take 4 with
  | nil=>exact absurd hq h
  | cons _ _=>simp
theorem oG(qs:List Int):1≤(gq qs).length∧(gq qs).length≤4:=by
 have:=uS qs
 simpa[gq] using this
theorem DZ(x lo hi:Int):aH Tryz.prog 45 [.int .i64 x,.int .i64 lo,.int .i64 hi] Fr w [] (fun v L=>v=.int .i64 (aw x lo hi)∧L=[]):=by
 refine TF 12 Tryz.func45 Z yn ah Z Z ?_
 refine an ?_
 exact CR (ay.int 6 Z Z Z ER ⟨rfl,Z⟩)
theorem eh{b off t:Nat}{cs:List Value}{x:Int}(lo hi:Int)(hx:cs[off]?=some (.int .i64 x)):
  aH Tryz.prog 44 [.pointer (some ⟨b,off,none⟩),.int .i64 lo,.int .i64 hi] Fr w [pt b cs t] (fun v L=>v=.tuple #[]∧L=[pt b (cs.set off (.int .i64 (aw x lo hi))) t]):=by
 refine TF 14 Tryz.func44 Z yn ah Z Z ?_
 refine CG ?_
 refine VG (VO.ld 0 Z Z Z hx ?_)
 refine VG (VO.ik (fun Fr w=>DZ Fr w x lo hi) Z ?_)
 refine VG (VO.st 0 Z Z Z Z (ZP.1 hx).1 Z Z (VG (VN ?_)))
 exact Py
theorem qu(a:Option Addr)(cap:Nat)(qs:List Int)(hq:ee Fr w a qs)(hl:qs.length≤1000):aH Tryz.prog 46 [.slice a qs.length cap] Fr w []
  (fun v L=>∃a' cap',v=.slice a' qs.length cap'∧L=[lL a' cap' qs]):=by
 refine TF 8 Tryz.func46 Z yn ah Z Z ?_
 cases ha:a with
 | none=>
  have hnil:qs=[]:=by
   cases hqs:qs with
   | nil=>rfl
   | cons x xs=>
    obtain⟨b,off,h1,_⟩:=hq.at_ (by rw[hqs];simp)
    rw[ha] at h1;cases h1
  subst hnil
  refine Kt ?_
  exact CR (ay.tmp 2 Z Z (ae.bZ ae.refl).ar ⟨none,0,Z,Z⟩)
 | some ad=>
  refine Kr ?_
  refine VG (VO.buildSlice (n:=0) (pv:=[]) [] Z Z Z Z yp Z fun nb=>?_)
  refine VO.ar (L':=[aI 3 1 (some ⟨nb,0,none⟩) 0 0 []]) (ae.sl (cs:=[]) (rest:=[]) Z (NR _) Z ae.refl).ar ?_
  refine VG (VO.append (m:=qs.length) (news:=cS qs) 0 Z Z Z Z Z Z Z ?_ (GB qs) (by show(0+qs.length)*8≤_;omega) yd fun a' c' hc'=>VG (VN ?_))
  ·by_cases hne:qs=[]
   ·subst hne
    exact⟨rfl,.inl ⟨some ad,cap,Z,Z⟩⟩
   ·obtain⟨b,off,h1,h2,h3⟩:=hq.at_ hne
    rw[ha] at h1
    cases h1
    refine⟨by simp[cS],.inr ⟨b,off,cap,Z,fun w' hw' j v hv=>?_⟩⟩
    rw[cS,ZS] at hv
    cases hj:qs[j]? with
    | none=>rw[hj] at hv;cases hv
    | some x=>
     rw[hj] at hv
     obtain rfl:=Z3 hv
     exact m_ (hw'.cK.block b h2) (h3 j x hj)
  ·exact CR (ay.tmp 2 Z Z (ae.of_eq (by rw[ZQ];rfl)).ar ⟨a',c',by rw[ZQ],Z⟩)
theorem D0(a b:Option Addr)(ca cb:Nat)(qs ps:List Int)(hq:ee Fr w a qs)(hp:ee Fr w b ps)(hl:ps.length≤1000):aH Tryz.prog 28 [.slice a qs.length ca,.slice b ps.length cb] Fr w []
  (fun v L=>v=.bool (decide (qs=ps))∧L=[]):=by
 refine TF 26 Tryz.func28 Z yn ah Z Z ?_
 refine an ?_
 refine VC.bo Z (fun h1=>?_) (fun h1=>CK ?_)
 ·refine an ?_
  exact CR (ay.bool 4 Z Z (by symm;apply DF;intro e;exact h1 KG) ER ⟨rfl,Z⟩)
 have h1:qs.length=ps.length:=by omega
 refine an ?_
 refine VC.loop (σ:=Nat) (fun i=>[(0,.slice a qs.length ca),(1,.slice b ps.length cb),(12,.int .i64 qs.length),(13,.int .i64 i)]) (fun _=>[]) (fun i=>i≤qs.length∧∀j,j<i→qs[j]?=ps[j]?) (fun i=>qs.length-i) 0 ⟨ZO _,fun j hj=>by omega⟩ ba ER ?_
 rintro i ⟨hi,hall⟩
 refine an ?_
 refine CP Z (fun h2=>CK ?_) (fun h2=>CX ?_)
 ·have hi1:i<qs.length:=by omega
  have hi2:i<ps.length:=by omega
  obtain⟨qb,qo,rfl,hFq,hcq⟩:=hq.at_ (fun e=>by rw[e] at hi1;simp at hi1)
  obtain⟨pb,po,rfl,hFp,hcp⟩:=hp.at_ (fun e=>by rw[e] at hi2;simp at hi2)
  have e1:=GE hi1
  have e2:=GE hi2
  generalize qs[i]=x at e1
  generalize ps[i]=y at e2
  refine CS (VC.block ?_)
  refine Du ?_
  refine CS (CD (ts 0 9 .nil) yn yr ?_)
  refine eW ?_
  refine AG (AI Z (a_ i Z Z Z Z Z Z hi1) ?_)
  refine AG (VA.load Z Z Z (aE.rd (v:=.int .i64 x) hFq (by show w.cell? ⟨qb,qo+i*1,none⟩=_;rw[Nat.mul_one];exact hcq i x e1)) ?_)
  refine eW ?_
  refine AG (AI Z (a_ i Z Z Z Z Z Z hi2) ?_)
  refine AG (VA.load Z Z Z (aE.rd (v:=.int .i64 y) hFp (by show w.cell? ⟨pb,po+i*1,none⟩=_;rw[Nat.mul_one];exact hcp i y e2)) ?_)
  refine eW ?_
  refine VC.bo Z (fun h3=>?_) (fun h3=>CK ?_)
  ·refine an ?_
   exact CR (ay.bool 4 Z Z (by symm;apply DF;intro e;rw[e,e2] at e1;exact h3 (Z3 e1).symm) ER ⟨rfl,Z⟩)
  refine sh ?_
  refine⟨i+1,⟨hi1,fun j hj=>?_⟩,by dsimp only;omega,ba,ER⟩
  by_cases hji:j=i
  ·subst hji;rw[e1,e2,h3]
  ·exact hall j yd
 ·have hi1:i=qs.length:=by omega
  subst hi1
  refine an ?_
  refine CR (ay.bool 4 Z Z (by
   symm;apply DT
   apply List.ext_getElem?
   intro j
   by_cases hj:j<qs.length
   ·exact hall j hj
   ·rw[List.getElem?_eq_none yd,List.getElem?_eq_none yd]) ER ⟨rfl,rfl⟩)
def qw(qs:List Int)(i:Nat):List Int:=(qs.take i).map iq++qs.drop i
theorem IH(qs:List Int)(i:Nat):(qw qs i).length=qs.length:=by simp[qw];omega
theorem NG{qs:List Int}{i:Nat}{x:Int}(h:qs[i]?=some x):(qw qs i)[i]?=some x:=by
 have hi:=(ZP.1 h).1
 rw[qw,List.getElem?_append_right ye]
 simp only[ZR,Z1,List.getElem?_drop]
 rw[←h];congr 1;omega
theorem II{qs:List Int}{i:Nat}{x:Int}(h:qs[i]?=some x):(qw qs i).set i (iq x)=qw qs (i+1):=by
 have hi:=(ZP.1 h).1
 rw[qw,qw,ZZ,h,List.set_append_right _ _ ye]
 have h2:qs.drop i=x::qs.drop (i+1):=by
  rw[List.drop_eq_getElem_cons hi,(ZP.1 h).2]
 rw[h2]
 have h3:i-((qs.take i).map iq).length=0:=by simp;omega
 rw[h3];simp
theorem IJ(c:aV)(a:Option Addr)(cap:Nat)(hq:ee Fr w a c.qs)(ha:sI a)(hcap:c.qs.length≤cap):aH Tryz.prog 27 [.agg (c.cells a cap).toArray] Fr w []
  (fun v L=>∃a' cap',sI a'∧(dz c).qs.length≤cap'∧v=.agg ((dz c).cells a' cap').toArray∧L=[lL a' cap' (dz c).qs]):=by
 refine TF 69 Tryz.func27 Z yn ah Z Z ?_
 refine CS (CG (VG (VB (vs:=c.cells a cap) Z fun x=>VG (VO.alloc Z fun r=>VG (VN ?_)))))
 obtain⟨c0,c1,c2,qs,c4,c5,c6,c7,c8,c9,c10,c11⟩:=c
 dsimp only at hq hcap
 refine Du ?_
 refine CS (CG ?_)
 refine VG (VO.gZ 1 (ψ:=fun v H=>H=pt x [.int .i64 (aw c0 1 6),.int .i64 c1,.int .i64 c2,.slice a qs.length cap,.int .i64 c4,.int .i64 c5,.int .i64 c6,.int .i64 c7,.int .i64 c8,.int .i64 c9,.int .i64 c10,.int .i64 c11] 24) Z Z (fun Fr w _ _ _=>eh Fr w _ _ Z) Z (fun v L1 h=>⟨_,h.2,Z⟩) ?_)
 rintro _ _ rfl
 refine KM ?_
 refine Rp ?_
 refine VG (VO.gZ 1 (ψ:=fun v H=>H=pt x [.int .i64 (aw c0 1 6),.int .i64 (aw c1 1 (aw c0 1 6)),.int .i64 c2,.slice a qs.length cap,.int .i64 c4,.int .i64 c5,.int .i64 c6,.int .i64 c7,.int .i64 c8,.int .i64 c9,.int .i64 c10,.int .i64 c11] 24) Z Z (fun Fr w _ _ _=>eh Fr w _ _ Z) Z (fun v L1 h=>⟨_,h.2,Z⟩) ?_)
 rintro _ _ rfl
 refine KM ?_
 refine VG (VO.gZ 1 (ψ:=fun v H=>H=pt x [.int .i64 (aw c0 1 6),.int .i64 (aw c1 1 (aw c0 1 6)),.int .i64 (aw c2 1 6),.slice a qs.length cap,.int .i64 c4,.int .i64 c5,.int .i64 c6,.int .i64 c7,.int .i64 c8,.int .i64 c9,.int .i64 c10,.int .i64 c11] 24) Z Z (fun Fr w _ _ _=>eh Fr w _ _ Z) Z (fun v L1 h=>⟨_,h.2,Z⟩) ?_)
 rintro _ _ rfl
 refine Bd ?_
 have ht4:=List.length_take_le 4 qs
 refine CS (CG (VG (VO.ld 1 Z Z Z Z (VG (VO.ld 1 Z Z Z Z ?_)))))
 refine VG (VI (qk (qs.take 4).length Z Z Z Z Z (by rw[Z1];split<;>omega) TC) ?_)
 refine VG (VK (Lc:=[]) (fun Fr w hF hs _=>qu Fr w a cap (qs.take 4) (GC (fY hq hF hs) 4) yd) Z Z ?_)
 rintro _ _ ⟨a1,gV,rfl,rfl⟩
 refine VG (VO.st 2 Z Z Z Z RP Z Z (VG (VN ?_)))
 have hf1:=uS qs
 refine VC.meet (σ:=Nat×Nat×List Value) (fun _=>[(1,pV x),(2,pV r),(3,.func (.func 44) #[] #[])])
  (fun y=>[pt y.1 (cS (bR qs)++y.2.2) 3,pt r T.t24.zs 24,pt x [.int .i64 (aw c0 1 6),.int .i64 (aw c1 1 (aw c0 1 6)),.int .i64 (aw c2 1 6),.slice (some ⟨y.1,0,none⟩) (bR qs).length y.2.1,.int .i64 c4,.int .i64 c5,.int .i64 c6,.int .i64 c7,.int .i64 c8,.int .i64 c9,.int .i64 c10,.int .i64 c11] 24]) (fun y=>(bR qs).length≤y.2.1∧(cS (bR qs)++y.2.2).length=y.2.1) ?_ ?_
 ·refine CS (CG (VG (VO.ld 2 Z Z Z Z (VG (VN ?_)))))
  refine CE Z (fun hz=>?_) (fun hz=>?_)
  ·have hz:qs.take 4=[]:=List.eq_nil_of_length_eq_zero yd
   have hqf:bR qs=[96]:=by unfold bR;rw[if_pos hz]
   refine CG (VG (VO.buildSlice (n:=1) (pv:=[(0,.int .i64 96)]) [.int .i64 96] Z Z Z Z yp Z fun nb=>?_))
   refine VG (VO.st 3 Z Z Z Z RP Z Z (VG (VN ?_)))
   refine⟨(nb,1,[]),⟨by rw[hqf];exact NR 1,by rw[hqf];rfl⟩,ba,?_⟩
   rw[hqf]
   exact(ae.cons ae.tl).ar
  ·have hz:¬qs.take 4=[]:=fun e=>hz RS
   have hqf:bR qs=qs.take 4:=by unfold bR;rw[if_neg hz]
   refine VC.e_ 0 Z (aW.sl 3 1 a1 (qs.take 4).length gV (cS (qs.take 4))) fun y hy=>CK ?_
   obtain⟨h1,h2,h3⟩:=hy
   cases y with
   | none=>
    obtain⟨_,h5,_⟩:=h3
    exact absurd (List.eq_nil_of_length_eq_zero h5) hz
   | some y=>
    obtain⟨b1,rest⟩:=y
    obtain⟨rfl,h4⟩:=h3
    refine⟨(b1,gV,rest),⟨by rw[hqf];exact h2,by rw[hqf];simpa using h4⟩,ba,?_⟩
    rw[hqf]
    exact ER
 rintro⟨qb,qcap,rest⟩ ⟨hqc,hrest⟩
 dsimp only at hqc hrest ⊢
 refine sj ?_
 refine VC.loop (σ:=Nat) (fun i=>[(1,pV x),(2,pV r),(3,.func (.func 44) #[] #[]),(33,.int .i64 (bR qs).length),(34,.int .i64 i)])
  (fun i=>[pt qb (cS (qw (bR qs) i)++rest) 3,pt r T.t24.zs 24,pt x [.int .i64 (aw c0 1 6),.int .i64 (aw c1 1 (aw c0 1 6)),.int .i64 (aw c2 1 6),.slice (some ⟨qb,0,none⟩) (bR qs).length qcap,.int .i64 c4,.int .i64 c5,.int .i64 c6,.int .i64 c7,.int .i64 c8,.int .i64 c9,.int .i64 c10,.int .i64 c11] 24]) (fun i=>i≤(bR qs).length) (fun i=>4-i) 0 (ZO _) ba ER ?_
 intro i hi
 refine an ?_
 refine CP Z (fun h1=>CK ?_) (fun h1=>CX ?_)
 ·have hi2:i<(bR qs).length:=by omega
  have hy:=GE hi2
  generalize (bR qs)[i]=y at hy
  have hc:(cS (qw (bR qs) i)++rest)[0+i*1]?=some (.int .i64 y):=by
   rw[ZQ,Nat.mul_one,List.getElem?_append_left Xt,cS,ZS,NG hy];rfl
  have hset:(cS (qw (bR qs) i)++rest).set (0+i*1) (.int .i64 (aw y 96 65536))=cS (qw (bR qs) (i+1))++rest:=by
   rw[ZQ,Nat.mul_one,List.set_append_left _ _ Xt,cS,←II hy,cS,Z_];rfl
  refine sj ?_
  refine XF ?_
  refine VG (VO.gZ 0 (ψ:=fun v H=>H=pt qb (cS (qw (bR qs) (i+1))++rest) 3) Z Z (fun Fr w _ _ _=>eh Fr w _ _ hc) Z (fun v L1 h=>⟨_,h.2,by rw[hset]⟩) ?_)
  rintro _ _ rfl
  refine Bd ?_
  refine sh ?_
  exact⟨i+1,hi2,by dsimp only;omega,ba,ER⟩
 have hi2:i=(bR qs).length:=by omega
 subst hi2
 refine CS (CG ?_)
 refine VG (VO.gZ 2 (ψ:=fun v H=>H=pt x [.int .i64 (aw c0 1 6),.int .i64 (aw c1 1 (aw c0 1 6)),.int .i64 (aw c2 1 6),.slice (some ⟨qb,0,none⟩) (bR qs).length qcap,.int .i64 (aw c4 1 16),.int .i64 c5,.int .i64 c6,.int .i64 c7,.int .i64 c8,.int .i64 c9,.int .i64 c10,.int .i64 c11] 24) Z Z (fun Fr w _ _ _=>eh Fr w _ _ Z) Z (fun v L1 h=>⟨_,h.2,Z⟩) ?_)
 rintro _ _ rfl
 refine KM ?_
 refine VG (VO.gZ 2 (ψ:=fun v H=>H=pt x [.int .i64 (aw c0 1 6),.int .i64 (aw c1 1 (aw c0 1 6)),.int .i64 (aw c2 1 6),.slice (some ⟨qb,0,none⟩) (bR qs).length qcap,.int .i64 (aw c4 1 16),.int .i64 (aw c5 1 16),.int .i64 c6,.int .i64 c7,.int .i64 c8,.int .i64 c9,.int .i64 c10,.int .i64 c11] 24) Z Z (fun Fr w _ _ _=>eh Fr w _ _ Z) Z (fun v L1 h=>⟨_,h.2,Z⟩) ?_)
 rintro _ _ rfl
 refine KM ?_
 refine VG (VO.gZ 2 (ψ:=fun v H=>H=pt x [.int .i64 (aw c0 1 6),.int .i64 (aw c1 1 (aw c0 1 6)),.int .i64 (aw c2 1 6),.slice (some ⟨qb,0,none⟩) (bR qs).length qcap,.int .i64 (aw c4 1 16),.int .i64 (aw c5 1 16),.int .i64 (aw c6 1 16),.int .i64 c7,.int .i64 c8,.int .i64 c9,.int .i64 c10,.int .i64 c11] 24) Z Z (fun Fr w _ _ _=>eh Fr w _ _ Z) Z (fun v L1 h=>⟨_,h.2,Z⟩) ?_)
 rintro _ _ rfl
 refine KM ?_
 refine VG (VO.gZ 2 (ψ:=fun v H=>H=pt x [.int .i64 (aw c0 1 6),.int .i64 (aw c1 1 (aw c0 1 6)),.int .i64 (aw c2 1 6),.slice (some ⟨qb,0,none⟩) (bR qs).length qcap,.int .i64 (aw c4 1 16),.int .i64 (aw c5 1 16),.int .i64 (aw c6 1 16),.int .i64 (aw c7 4 64),.int .i64 c8,.int .i64 c9,.int .i64 c10,.int .i64 c11] 24) Z Z (fun Fr w _ _ _=>eh Fr w _ _ Z) Z (fun v L1 h=>⟨_,h.2,Z⟩) ?_)
 rintro _ _ rfl
 refine KM ?_
 refine VG (VO.gZ 2 (ψ:=fun v H=>H=pt x [.int .i64 (aw c0 1 6),.int .i64 (aw c1 1 (aw c0 1 6)),.int .i64 (aw c2 1 6),.slice (some ⟨qb,0,none⟩) (bR qs).length qcap,.int .i64 (aw c4 1 16),.int .i64 (aw c5 1 16),.int .i64 (aw c6 1 16),.int .i64 (aw c7 4 64),.int .i64 (aw c8 4 64),.int .i64 c9,.int .i64 c10,.int .i64 c11] 24) Z Z (fun Fr w _ _ _=>eh Fr w _ _ Z) Z (fun v L1 h=>⟨_,h.2,Z⟩) ?_)
 rintro _ _ rfl
 refine KM ?_
 refine VG (VO.gZ 2 (ψ:=fun v H=>H=pt x [.int .i64 (aw c0 1 6),.int .i64 (aw c1 1 (aw c0 1 6)),.int .i64 (aw c2 1 6),.slice (some ⟨qb,0,none⟩) (bR qs).length qcap,.int .i64 (aw c4 1 16),.int .i64 (aw c5 1 16),.int .i64 (aw c6 1 16),.int .i64 (aw c7 4 64),.int .i64 (aw c8 4 64),.int .i64 (aw c9 4 64),.int .i64 c10,.int .i64 c11] 24) Z Z (fun Fr w _ _ _=>eh Fr w _ _ Z) Z (fun v L1 h=>⟨_,h.2,Z⟩) ?_)
 rintro _ _ rfl
 refine KM ?_
 refine VG (VO.gZ 2 (ψ:=fun v H=>H=pt x [.int .i64 (aw c0 1 6),.int .i64 (aw c1 1 (aw c0 1 6)),.int .i64 (aw c2 1 6),.slice (some ⟨qb,0,none⟩) (bR qs).length qcap,.int .i64 (aw c4 1 16),.int .i64 (aw c5 1 16),.int .i64 (aw c6 1 16),.int .i64 (aw c7 4 64),.int .i64 (aw c8 4 64),.int .i64 (aw c9 4 64),.int .i64 (aw c10 0 16),.int .i64 c11] 24) Z Z (fun Fr w _ _ _=>eh Fr w _ _ Z) Z (fun v L1 h=>⟨_,h.2,Z⟩) ?_)
 rintro _ _ rfl
 refine KM ?_
 refine VG (VO.gZ 2 (ψ:=fun v H=>H=pt x [.int .i64 (aw c0 1 6),.int .i64 (aw c1 1 (aw c0 1 6)),.int .i64 (aw c2 1 6),.slice (some ⟨qb,0,none⟩) (bR qs).length qcap,.int .i64 (aw c4 1 16),.int .i64 (aw c5 1 16),.int .i64 (aw c6 1 16),.int .i64 (aw c7 4 64),.int .i64 (aw c8 4 64),.int .i64 (aw c9 4 64),.int .i64 (aw c10 0 16),.int .i64 (aw c11 1 1099511627776)] 24) Z Z (fun Fr w _ _ _=>eh Fr w _ _ Z) Z (fun v L1 h=>⟨_,h.2,Z⟩) ?_)
 rintro _ _ rfl
 refine Bd ?_
 have hmix:qw (bR qs) (bR qs).length=gq qs:=by simp[qw,gq]
 have hql:(bR qs).length=(gq qs).length:=by simp[gq]
 rw[hmix]
 refine CS (CG (VG (VL 2 [.int .i64 (aw c0 1 6),.int .i64 (aw c1 1 (aw c0 1 6)),.int .i64 (aw c2 1 6),.slice (some ⟨qb,0,none⟩) (bR qs).length qcap,.int .i64 (aw c4 1 16),.int .i64 (aw c5 1 16),.int .i64 (aw c6 1 16),.int .i64 (aw c7 4 64),.int .i64 (aw c8 4 64),.int .i64 (aw c9 4 64),.int .i64 (aw c10 0 16),.int .i64 (aw c11 1 1099511627776)] Z Z Z Z ?_)))
 refine VG (VT (vs:=[.int .i64 (aw c0 1 6),.int .i64 (aw c1 1 (aw c0 1 6)),.int .i64 (aw c2 1 6),.slice (some ⟨qb,0,none⟩) (bR qs).length qcap,.int .i64 (aw c4 1 16),.int .i64 (aw c5 1 16),.int .i64 (aw c6 1 16),.int .i64 (aw c7 4 64),.int .i64 (aw c8 4 64),.int .i64 (aw c9 4 64),.int .i64 (aw c10 0 16),.int .i64 (aw c11 1 1099511627776)]) (cs':=[.int .i64 (aw c0 1 6),.int .i64 (aw c1 1 (aw c0 1 6)),.int .i64 (aw c2 1 6),.slice (some ⟨qb,0,none⟩) (bR qs).length qcap,.int .i64 (aw c4 1 16),.int .i64 (aw c5 1 16),.int .i64 (aw c6 1 16),.int .i64 (aw c7 4 64),.int .i64 (aw c8 4 64),.int .i64 (aw c9 4 64),.int .i64 (aw c10 0 16),.int .i64 (aw c11 1 1099511627776)]) 1 Z Z Z Z (NR _) Z Z Z (VG (VN ?_)))
 refine CR (ay.cell 2 Z Z Z (aE.many 1 Z Z) (L':=[lL (some ⟨qb,0,none⟩) qcap (gq qs)]) ?_ ⟨some ⟨qb,0,none⟩,qcap,trivial,by show(gq qs).length≤_;omega,?_,Z⟩)
 ·refine(ae.sl (b:=qb) (rest:=rest) (by rw[mn,Nat.mul_one]) yd (by rw[←hrest,Nat.mul_one,ZM,ZM,mn,mn,hql]) (ae.app (L:=[_]) (M:=[_]) ae.refl ae.nil)).ar
 ·rw[hql];rfl
end Conf
namespace Conf
open Go Api Vg T Sched
attribute [local irreducible] VO VC VA
def ic(c:aV):Int:=if c=dz c then 0 else 2
theorem IK{c d:aV}(h0:c.nodes=d.nodes)(h1:c.chain=d.chain)(h2:c.aB=d.aB)(h3:c.qs=d.qs)(h4:c.queue=d.queue)(h5:c.eZ=d.eZ)(h6:c.reads=d.reads)(h7:c.link=d.link)(h8:c.bu=d.bu)(h9:c.timeout=d.timeout)(h10:c.dE=d.dE)(h11:c.cH=d.cH):c=d:=by
 cases c;cases d;simp_all
theorem bm(c:aV)(a:Option Addr)(cap:Nat)(hq:ee Fr w a c.qs)(ha:sI a)(hcap:c.qs.length≤cap):aH Tryz.prog 16 [.agg (c.cells a cap).toArray] Fr w []
  (fun v L=>v=.int .i64 (ic c)∧L=[]):=by
 refine TF 91 Tryz.func16 Z yn ah Z Z ?_
 refine CS (CG (VG (VB (vs:=c.cells a cap) Z fun x=>VG (VN ?_))))
 refine CS (CG (VG (VL 0 (c.cells a cap) Z Z Z Z ?_)))
 refine VG (VK (Lc:=[]) (fun Fr w hF hs _=>IJ Fr w c a cap (fY hq hF hs) ha hcap) Z Z ?_)
 rintro _ _ ⟨a',cap',ha',hcap',rfl,rfl⟩
 refine VG (VO.alloc Z fun f=>VG (VT (vs:=(dz c).cells a' cap') (cs':=(dz c).cells a' cap') 0 Z Z Z Z (NR _) Z Z Z (VG (VN ?_))))
 refine VC.meet (σ:=Bool) (fun b=>[(4,.bool b)]) (fun _=>[]) (fun b=>b=decide (c=dz c)) ?_ ?_
 rotate_left
 ·rintro b rfl
  refine CS (CS (CG (VG (VN ?_))))
  refine VC.dX Z (fun h=>?_) (fun h=>CK ?_)
  ·have h:=of_decide_eq_false h
   refine an ?_
   exact CR (ay.int 2 Z Z (by rw[ic,if_neg h]) ER ⟨rfl,Z⟩)
  ·have h:=of_decide_eq_true h
   refine an ?_
   exact CR (ay.int 2 Z Z (by rw[ic,if_pos h]) ER ⟨rfl,Z⟩)
 refine CG ?_
 refine HW ?_
 refine VG (VO.split 12 Z Z (fun h0=>?_) (fun h0=>?_))
 rotate_left
 ·refine VG (VY 19 false Z Z ?_)
  refine VG (VY 26 false Z Z ?_)
  refine VG (VY 33 false Z Z ?_)
  refine Rl ?_
  refine RY ?_
  refine RB ?_
  refine VG (VN ⟨false,?_,ba,ae.nil.ar⟩)
  show false=decide _;symm;apply DF;intro e
  exact(beq_eq_false_iff_ne.1 h0) (congrArg aV.nodes e)
 refine HW ?_
 refine VG (VO.split 19 Z Z (fun h1=>?_) (fun h1=>?_))
 rotate_left
 ·refine VG (VY 26 false Z Z ?_)
  refine VG (VY 33 false Z Z ?_)
  refine Rl ?_
  refine RY ?_
  refine RB ?_
  refine VG (VN ⟨false,?_,ba,ae.nil.ar⟩)
  show false=decide _;symm;apply DF;intro e
  exact(beq_eq_false_iff_ne.1 h1) (congrArg aV.chain e)
 refine HW ?_
 refine VG (VO.split 26 Z Z (fun h2=>?_) (fun h2=>?_))
 rotate_left
 ·refine VG (VY 33 false Z Z ?_)
  refine Rl ?_
  refine RY ?_
  refine RB ?_
  refine VG (VN ⟨false,?_,ba,ae.nil.ar⟩)
  show false=decide _;symm;apply DF;intro e
  exact(beq_eq_false_iff_ne.1 h2) (congrArg aV.aB e)
 refine HW ?_
 refine VG (VV (fun Fr w hF hs h2=>D0 Fr w a a' cap cap' c.qs (dz c).qs (fY hq hF hs) (iL (h2.at_ 1 Z)) (by have:=(oG c.qs).2;show(gq c.qs).length≤1000;omega)) Z ?_)
 refine VG (VO.split 33 Z Z (fun h3=>?_) (fun h3=>?_))
 rotate_left
 ·refine Rl ?_
  refine RY ?_
  refine RB ?_
  refine VG (VN ⟨false,?_,ba,ae.nil.ar⟩)
  show false=decide _;symm;apply DF;intro e
  exact(of_decide_eq_false h3) (congrArg aV.qs e)
 refine HW ?_
 refine VG (VO.split 40 Z Z (fun h4=>?_) (fun h4=>?_))
 rotate_left
 ·refine RY ?_
  refine RB ?_
  refine VG (VN ⟨false,?_,ba,ae.nil.ar⟩)
  show false=decide _;symm;apply DF;intro e
  exact(beq_eq_false_iff_ne.1 h4) (congrArg aV.queue e)
 refine HW ?_
 refine VG (VO.split 47 Z Z (fun h5=>?_) (fun h5=>?_))
 rotate_left
 ·refine RB ?_
  refine VG (VN ⟨false,?_,ba,ae.nil.ar⟩)
  show false=decide _;symm;apply DF;intro e
  exact(beq_eq_false_iff_ne.1 h5) (congrArg aV.eZ e)
 refine HW ?_
 refine VG (VO.split 54 Z Z (fun h6=>?_) (fun h6=>?_))
 rotate_left
 ·refine Y6 ?_
  refine VG (VN ⟨false,?_,ba,ae.nil.ar⟩)
  show false=decide _;symm;apply DF;intro e
  exact(beq_eq_false_iff_ne.1 h6) (congrArg aV.reads e)
 refine HW ?_
 refine VG (VO.split 61 Z Z (fun h7=>?_) (fun h7=>?_))
 rotate_left
 ·refine Y4 ?_
  refine VG (VN ⟨false,?_,ba,ae.nil.ar⟩)
  show false=decide _;symm;apply DF;intro e
  exact(beq_eq_false_iff_ne.1 h7) (congrArg aV.link e)
 refine HW ?_
 refine VG (VO.split 68 Z Z (fun h8=>?_) (fun h8=>?_))
 rotate_left
 ·refine Y2 ?_
  refine VG (VN ⟨false,?_,ba,ae.nil.ar⟩)
  show false=decide _;symm;apply DF;intro e
  exact(beq_eq_false_iff_ne.1 h8) (congrArg aV.bu e)
 refine HW ?_
 refine VG (VO.split 75 Z Z (fun h9=>?_) (fun h9=>?_))
 rotate_left
 ·refine XP ?_
  refine VG (VN ⟨false,?_,ba,ae.nil.ar⟩)
  show false=decide _;symm;apply DF;intro e
  exact(beq_eq_false_iff_ne.1 h9) (congrArg aV.timeout e)
 refine HW ?_
 refine VG (VO.split 82 Z Z (fun h10=>?_) (fun h10=>?_))
 rotate_left
 ·refine VG (VN ⟨false,?_,ba,ae.nil.ar⟩)
  show false=decide _;symm;apply DF;intro e
  exact(beq_eq_false_iff_ne.1 h10) (congrArg aV.dE e)
 refine HW ?_
 refine VG (VN ⟨(c.cH == (dz c).cH),?_,ba,ae.nil.ar⟩)
 show(c.cH == (dz c).cH)=decide _
 rw[Bool.eq_iff_iff,beq_iff_eq,decide_eq_true_iff]
 refine⟨fun h11=>IK (eq_of_beq h0) (eq_of_beq h1) (eq_of_beq h2) (of_decide_eq_true h3) (eq_of_beq h4) (eq_of_beq h5) (eq_of_beq h6) (eq_of_beq h7) (eq_of_beq h8) (eq_of_beq h9) (eq_of_beq h10) h11,fun e=>congrArg aV.cH e⟩
theorem bH(x lo hi:Int):aH Tryz.prog 14 [.int .i64 x,.int .i64 lo,.int .i64 hi] Fr w [] (fun v L=>v=.int .i64 (aw x lo hi)∧L=[]):=by
 refine TF 12 Tryz.func14 Z yn ah Z Z ?_
 refine an ?_
 exact CR (ay.int 6 Z Z (IG x lo hi) ER ⟨rfl,Z⟩)
theorem D1{X:Cx}(hX:X.tab=tab){e:Env}{parts:Array (Nat×Operand)}{x0 x1 x2 x4 x5 x6 x7 x8 x9 x10 x11:Int}
  (hp:H0 e parts.toList=some [(0,.int .i64 x0),(1,.int .i64 x1),(2,.int .i64 x2),(4,.int .i64 x4),(5,.int .i64 x5),(6,.int .i64 x6),(7,.int .i64 x7),(8,.int .i64 x8),(9,.int .i64 x9),(10,.int .i64 x10),(11,.int .i64 x11)]):
  cY X (.build 24 parts) e (.agg ([.int .i64 x0,.int .i64 x1,.int .i64 x2,.slice none 0 0,.int .i64 x4,.int .i64 x5,.int .i64 x6,.int .i64 x7,.int .i64 x8,.int .i64 x9,.int .i64 x10,.int .i64 x11]:List Value).toArray):=
 LB _ (by rw[hX];rfl) rfl hp yn rfl
theorem aW.SL(el esz:Nat)(a:Option Addr)(n cap:Nat)(cs:List Value):aW (ι:=Unit) (aI el esz a n cap cs) (fun _=>sI a) (fun _=>[aI el esz a n cap cs]):=by
 intro w ids h hn
 exact⟨(),trivial,ids,⟨ids,[],by simp,h,Z⟩,hn,fun b h=>h⟩
structure Wv(qs:List Int)(x:Nat×Option Addr×Nat):Prop where
 le:x.1≤(qs.take 4).length
 room:x.1≤x.2.2
theorem xK(c:aV)(a:Option Addr)(cap:Nat)(hq:ee Fr w a c.qs):aH Tryz.prog 7 [.agg (c.cells a cap).toArray] Fr w []
  (fun v L=>∃a' cap',sI a'∧(dz c).qs.length≤cap'∧v=.agg ((dz c).cells a' cap').toArray∧L=[lL a' cap' (dz c).qs]):=by
 refine TF 74 Tryz.func7 Z yn ah Z Z ?_
 refine CS (CG (VG (VB (vs:=c.cells a cap) Z fun x=>VG (VO.alloc Z fun r=>VG (VN ?_)))))
 refine CS (CG (VG (VO.ld 1 Z Z Z Z ?_)))
 refine VG (VO.ik (fun Fr w=>bH Fr w c.nodes 1 6) Z (VG (VN ?_)))
 refine VC.meet (σ:=Nat) (fun d=>[(1,pV x),(2,pV r),(4,pV d)])
  (fun d=>[pt d [.int .i64 (aw c.nodes 1 6),.int .i64 (aw c.chain 1 (aw c.nodes 1 6)),.int .i64 (aw c.aB 1 6),.slice none 0 0,.int .i64 (aw c.queue 1 16),.int .i64 (aw c.eZ 1 16),.int .i64 (aw c.reads 1 16),.int .i64 (aw c.link 4 64),.int .i64 (aw c.bu 4 64),.int .i64 (aw c.timeout 4 64),.int .i64 (aw c.dE 0 16),.int .i64 (aw c.cH 1 1099511627776)] 24,pt r T.t24.zs 24,pt x (c.cells a cap) 24]) (fun _=>True) ?_ ?_
 ·refine CD (.take 0 (.take 1 (.take 2 (.take 3 (.take 5 (.take 6 (.take 8 (.take 9 (.take 11 (.take 12 (.take 14 (.take 15 (.take 17 (.take 18 (.take 20 (.take 21 (.take 23 (.take 24 (.take 26 (.take 27 (.take 29 (.take 30 (.two 4 33 (.two 7 33 (.two 10 33 (.two 13 33 (.two 16 33 (.two 19 33 (.two 22 33 (.two 25 33 (.two 28 33 (.two 31 33 (.take 32 (.only 33 (.only 34 .nil))) (.only 31 (.take 32 (.only 34 .nil)))) (.only 28 (.only 31 (.take 32 (.only 34 .nil))))) (.only 25 (.only 28 (.only 31 (.take 32 (.only 34 .nil)))))) (.only 22 (.only 25 (.only 28 (.only 31 (.take 32 (.only 34 .nil))))))) (.only 19 (.only 22 (.only 25 (.only 28 (.only 31 (.take 32 (.only 34 .nil)))))))) (.only 16 (.only 19 (.only 22 (.only 25 (.only 28 (.only 31 (.take 32 (.only 34 .nil))))))))) (.only 13 (.only 16 (.only 19 (.only 22 (.only 25 (.only 28 (.only 31 (.take 32 (.only 34 .nil)))))))))) (.only 10 (.only 13 (.only 16 (.only 19 (.only 22 (.only 25 (.only 28 (.only 31 (.take 32 (.only 34 .nil))))))))))) (.only 7 (.only 10 (.only 13 (.only 16 (.only 19 (.only 22 (.only 25 (.only 28 (.only 31 (.take 32 (.only 34 .nil)))))))))))) (.only 4 (.only 7 (.only 10 (.only 13 (.only 16 (.only 19 (.only 22 (.only 25 (.only 28 (.only 31 (.take 32 (.only 34 .nil))))))))))))))))))))))))))))))))))) yn yr ?_
  refine qg ?_
  refine VA.Sp (cond:=fun L'=>pt x (c.cells a cap) 24∈L') (fun S hS=>?_) (fun L' hL'=>?_)
  rotate_left
  ·obtain⟨i,hi⟩:=List.getElem?_of_mem hL'
   exact(by(try refine Pd.st ?_);(repeat(first|exact Pd.nil|exact Pd.fnil|refine Pd.inner ?_|refine Pd.skip yr ?_|refine zf (aE.aP (aE.one i hi Z) Z) ?_|refine zf ((aE.one i hi Z)) ?_|refine zc (aE.aP (aE.one i hi Z) Z) ?_|refine zc ((aE.one i hi Z)) ?_)))
  refine AG (VA.two rfl rfl rfl rfl rfl (a8.de (φ:=fun v=>v=.int .i64 (aw c.chain 1 (aw c.nodes 1 6))) (fun Fr w _ _ _=>bH Fr w _ _ _) rfl) rfl rfl rfl (a8.alloc rfl) (fun v L' h=>by obtain⟨_,rfl⟩:=h;exact Pd.st Kl) (fun v L' h=>by obtain⟨d,_,rfl⟩:=h;exact Pd.st wE) ?_ ?_)
  rotate_left
  ·rintro _ _ ⟨d,rfl,rfl⟩
   refine AG (AO (a8.de (φ:=fun v=>v=.int .i64 (aw c.chain 1 (aw c.nodes 1 6))) (fun Fr w _ _ _=>bH Fr w _ _ _) rfl) rfl (fun v L' h=>by obtain⟨_,rfl⟩:=h;exact wE) ?_)
   rintro _ _ ⟨rfl,rfl⟩
   refine XQ ?_
   rintro _ _ ⟨rfl,rfl⟩
   refine Va ?_
   rintro _ _ ⟨rfl,rfl⟩
   refine T6 ?_
   rintro _ _ ⟨rfl,rfl⟩
   refine RZ ?_
   rintro _ _ ⟨rfl,rfl⟩
   refine Rq ?_
   rintro _ _ ⟨rfl,rfl⟩
   refine Pz ?_
   rintro _ _ ⟨rfl,rfl⟩
   refine OT ?_
   rintro _ _ ⟨rfl,rfl⟩
   refine KI ?_
   rintro _ _ ⟨rfl,rfl⟩
   refine Kp ?_
   rintro _ _ ⟨rfl,rfl⟩
   exact Ku
  rintro _ _ ⟨rfl,rfl⟩
  refine AG (VA.two rfl rfl rfl rfl rfl (a8.de (φ:=fun v=>v=.int .i64 (aw c.aB 1 6)) (fun Fr w _ _ _=>bH Fr w _ _ _) rfl) rfl rfl rfl (a8.alloc rfl) (fun v L' h=>by obtain⟨_,rfl⟩:=h;exact Pd.st Kl) (fun v L' h=>by obtain⟨d,_,rfl⟩:=h;exact Pd.st wE) ?_ ?_)
  rotate_left
  ·rintro _ _ ⟨d,rfl,rfl⟩
   refine XQ ?_
   rintro _ _ ⟨rfl,rfl⟩
   refine Va ?_
   rintro _ _ ⟨rfl,rfl⟩
   refine T6 ?_
   rintro _ _ ⟨rfl,rfl⟩
   refine RZ ?_
   rintro _ _ ⟨rfl,rfl⟩
   refine Rq ?_
   rintro _ _ ⟨rfl,rfl⟩
   refine Pz ?_
   rintro _ _ ⟨rfl,rfl⟩
   refine OT ?_
   rintro _ _ ⟨rfl,rfl⟩
   refine KI ?_
   rintro _ _ ⟨rfl,rfl⟩
   refine Kp ?_
   rintro _ _ ⟨rfl,rfl⟩
   exact Ku
  rintro _ _ ⟨rfl,rfl⟩
  refine AG (VA.two rfl rfl rfl rfl rfl (a8.de (φ:=fun v=>v=.int .i64 (aw c.queue 1 16)) (fun Fr w _ _ _=>bH Fr w _ _ _) rfl) rfl rfl rfl (a8.alloc rfl) (fun v L' h=>by obtain⟨_,rfl⟩:=h;exact Pd.st Kl) (fun v L' h=>by obtain⟨d,_,rfl⟩:=h;exact Pd.st wE) ?_ ?_)
  rotate_left
  ·rintro _ _ ⟨d,rfl,rfl⟩
   refine Va ?_
   rintro _ _ ⟨rfl,rfl⟩
   refine T6 ?_
   rintro _ _ ⟨rfl,rfl⟩
   refine RZ ?_
   rintro _ _ ⟨rfl,rfl⟩
   refine Rq ?_
   rintro _ _ ⟨rfl,rfl⟩
   refine Pz ?_
   rintro _ _ ⟨rfl,rfl⟩
   refine OT ?_
   rintro _ _ ⟨rfl,rfl⟩
   refine KI ?_
   rintro _ _ ⟨rfl,rfl⟩
   refine Kp ?_
   rintro _ _ ⟨rfl,rfl⟩
   exact Ku
  rintro _ _ ⟨rfl,rfl⟩
  refine AG (VA.two rfl rfl rfl rfl rfl (a8.de (φ:=fun v=>v=.int .i64 (aw c.eZ 1 16)) (fun Fr w _ _ _=>bH Fr w _ _ _) rfl) rfl rfl rfl (a8.alloc rfl) (fun v L' h=>by obtain⟨_,rfl⟩:=h;exact Pd.st Kl) (fun v L' h=>by obtain⟨d,_,rfl⟩:=h;exact Pd.st wE) ?_ ?_)
  rotate_left
  ·rintro _ _ ⟨d,rfl,rfl⟩
   refine T6 ?_
   rintro _ _ ⟨rfl,rfl⟩
   refine RZ ?_
   rintro _ _ ⟨rfl,rfl⟩
   refine Rq ?_
   rintro _ _ ⟨rfl,rfl⟩
   refine Pz ?_
   rintro _ _ ⟨rfl,rfl⟩
   refine OT ?_
   rintro _ _ ⟨rfl,rfl⟩
   refine KI ?_
   rintro _ _ ⟨rfl,rfl⟩
   refine Kp ?_
   rintro _ _ ⟨rfl,rfl⟩
   exact Ku
  rintro _ _ ⟨rfl,rfl⟩
  refine AG (VA.two rfl rfl rfl rfl rfl (a8.de (φ:=fun v=>v=.int .i64 (aw c.reads 1 16)) (fun Fr w _ _ _=>bH Fr w _ _ _) rfl) rfl rfl rfl (a8.alloc rfl) (fun v L' h=>by obtain⟨_,rfl⟩:=h;exact Pd.st Kl) (fun v L' h=>by obtain⟨d,_,rfl⟩:=h;exact Pd.st wE) ?_ ?_)
  rotate_left
  ·rintro _ _ ⟨d,rfl,rfl⟩
   refine RZ ?_
   rintro _ _ ⟨rfl,rfl⟩
   refine Rq ?_
   rintro _ _ ⟨rfl,rfl⟩
   refine Pz ?_
   rintro _ _ ⟨rfl,rfl⟩
   refine OT ?_
   rintro _ _ ⟨rfl,rfl⟩
   refine KI ?_
   rintro _ _ ⟨rfl,rfl⟩
   refine Kp ?_
   rintro _ _ ⟨rfl,rfl⟩
   exact Ku
  rintro _ _ ⟨rfl,rfl⟩
  refine AG (VA.two rfl rfl rfl rfl rfl (a8.de (φ:=fun v=>v=.int .i64 (aw c.link 4 64)) (fun Fr w _ _ _=>bH Fr w _ _ _) rfl) rfl rfl rfl (a8.alloc rfl) (fun v L' h=>by obtain⟨_,rfl⟩:=h;exact Pd.st Kl) (fun v L' h=>by obtain⟨d,_,rfl⟩:=h;exact Pd.st wE) ?_ ?_)
  rotate_left
  ·rintro _ _ ⟨d,rfl,rfl⟩
   refine Rq ?_
   rintro _ _ ⟨rfl,rfl⟩
   refine Pz ?_
   rintro _ _ ⟨rfl,rfl⟩
   refine OT ?_
   rintro _ _ ⟨rfl,rfl⟩
   refine KI ?_
   rintro _ _ ⟨rfl,rfl⟩
   refine Kp ?_
   rintro _ _ ⟨rfl,rfl⟩
   exact Ku
  rintro _ _ ⟨rfl,rfl⟩
  refine AG (VA.two rfl rfl rfl rfl rfl (a8.de (φ:=fun v=>v=.int .i64 (aw c.bu 4 64)) (fun Fr w _ _ _=>bH Fr w _ _ _) rfl) rfl rfl rfl (a8.alloc rfl) (fun v L' h=>by obtain⟨_,rfl⟩:=h;exact Pd.st Kl) (fun v L' h=>by obtain⟨d,_,rfl⟩:=h;exact Pd.st wE) ?_ ?_)
  rotate_left
  ·rintro _ _ ⟨d,rfl,rfl⟩
   refine Pz ?_
   rintro _ _ ⟨rfl,rfl⟩
   refine OT ?_
   rintro _ _ ⟨rfl,rfl⟩
   refine KI ?_
   rintro _ _ ⟨rfl,rfl⟩
   refine Kp ?_
   rintro _ _ ⟨rfl,rfl⟩
   exact Ku
  rintro _ _ ⟨rfl,rfl⟩
  refine AG (VA.two rfl rfl rfl rfl rfl (a8.de (φ:=fun v=>v=.int .i64 (aw c.timeout 4 64)) (fun Fr w _ _ _=>bH Fr w _ _ _) rfl) rfl rfl rfl (a8.alloc rfl) (fun v L' h=>by obtain⟨_,rfl⟩:=h;exact Pd.st Kl) (fun v L' h=>by obtain⟨d,_,rfl⟩:=h;exact Pd.st wE) ?_ ?_)
  rotate_left
  ·rintro _ _ ⟨d,rfl,rfl⟩
   refine OT ?_
   rintro _ _ ⟨rfl,rfl⟩
   refine KI ?_
   rintro _ _ ⟨rfl,rfl⟩
   refine Kp ?_
   rintro _ _ ⟨rfl,rfl⟩
   exact Ku
  rintro _ _ ⟨rfl,rfl⟩
  refine AG (VA.two rfl rfl rfl rfl rfl (a8.de (φ:=fun v=>v=.int .i64 (aw c.dE 0 16)) (fun Fr w _ _ _=>bH Fr w _ _ _) rfl) rfl rfl rfl (a8.alloc rfl) (fun v L' h=>by obtain⟨_,rfl⟩:=h;exact Pd.st Kl) (fun v L' h=>by obtain⟨d,_,rfl⟩:=h;exact Pd.st wE) ?_ ?_)
  rotate_left
  ·rintro _ _ ⟨d,rfl,rfl⟩
   refine KI ?_
   rintro _ _ ⟨rfl,rfl⟩
   refine Kp ?_
   rintro _ _ ⟨rfl,rfl⟩
   exact Ku
  rintro _ _ ⟨rfl,rfl⟩
  refine AG (VA.two rfl rfl rfl rfl rfl (a8.de (φ:=fun v=>v=.int .i64 (aw c.cH 1 1099511627776)) (fun Fr w _ _ _=>bH Fr w _ _ _) rfl) rfl rfl rfl (a8.alloc rfl) (fun v L' h=>by obtain⟨_,rfl⟩:=h;exact Pd.st Kl) (fun v L' h=>by obtain⟨d,_,rfl⟩:=h;exact Pd.st wE) ?_ ?_)
  rotate_left
  ·rintro _ _ ⟨d,rfl,rfl⟩
   refine Kp ?_
   rintro _ _ ⟨rfl,rfl⟩
   exact Ku
  rintro _ _ ⟨rfl,rfl⟩
  refine XR ?_
  refine AG (AO (a8.alloc rfl) rfl (fun v L' h=>by obtain⟨d,_,rfl⟩:=h;exact wE) ?_)
  rintro _ _ ⟨d,rfl,rfl⟩
  refine XS ?_
  exact XT
 rintro d _
 have ht4:=List.length_take_le 4 c.qs
 have htl:(c.qs.take 4).length=if c.qs.length≤4 then c.qs.length else 4:=by rw[Z1];split<;>omega
 refine VC.meet (σ:=Option Addr×Nat) (fun _=>[(1,pV x),(2,pV r),(4,pV d)])
  (fun y=>[aI 3 1 y.1 (c.qs.take 4).length y.2 (cS ((c.qs.take 4).map iq)),pt d [.int .i64 (aw c.nodes 1 6),.int .i64 (aw c.chain 1 (aw c.nodes 1 6)),.int .i64 (aw c.aB 1 6),.slice y.1 (c.qs.take 4).length y.2,.int .i64 (aw c.queue 1 16),.int .i64 (aw c.eZ 1 16),.int .i64 (aw c.reads 1 16),.int .i64 (aw c.link 4 64),.int .i64 (aw c.bu 4 64),.int .i64 (aw c.timeout 4 64),.int .i64 (aw c.dE 0 16),.int .i64 (aw c.cH 1 1099511627776)] 24,pt r T.t24.zs 24]) (fun y=>(c.qs.take 4).length≤y.2) ?_ ?_
 ·refine CS (CG (VG (VN (VC.block ?_))))
  refine VC.loop (σ:=Nat×Option Addr×Nat) (fun y=>[(1,pV x),(2,pV r),(4,pV d),(5,.int .i64 y.1)])
   (fun y=>[aI 3 1 y.2.1 y.1 y.2.2 (cS ((c.qs.take y.1).map iq)),pt d [.int .i64 (aw c.nodes 1 6),.int .i64 (aw c.chain 1 (aw c.nodes 1 6)),.int .i64 (aw c.aB 1 6),.slice y.2.1 y.1 y.2.2,.int .i64 (aw c.queue 1 16),.int .i64 (aw c.eZ 1 16),.int .i64 (aw c.reads 1 16),.int .i64 (aw c.link 4 64),.int .i64 (aw c.bu 4 64),.int .i64 (aw c.timeout 4 64),.int .i64 (aw c.dE 0 16),.int .i64 (aw c.cH 1 1099511627776)] 24,pt r T.t24.zs 24,pt x (c.cells a cap) 24]) (Wv c.qs) (fun y=>4-y.1) (0,none,0) ⟨ZO _,NR _⟩ ba (ae.bZ ae.refl).ar ?_
  rintro⟨i,ai,ci⟩ ⟨hi,hroom⟩
  dsimp only at hi hroom ⊢
  refine CS (CS (CG (VG (VO.ld 3 Z Z Z Z ?_))))
  refine VG (VO.split 47 Z Z (fun h1=>?_) (fun h1=>VG (VN (VC.jt Z (CX ?_)))))
  rotate_left
  ·have h1:=of_decide_eq_false h1
   have hi2:i=(c.qs.take 4).length:=by rw[htl] at hi ⊢;split at hi<;>split<;>omega
   have hi3:c.qs.take i=c.qs.take 4:=by rw[hi2,Z1];rw[List.take_eq_take_iff];omega
   refine⟨(ai,ci),by rw[←hi2];exact hroom,ba,?_⟩
   dsimp only
   rw[←hi2,←hi3]
   exact(ae.app (L:=[_,_,_]) (M:=[_,_,_]) ae.refl ae.nil).ar
  have h1:=of_decide_eq_true h1
  refine VG (VN (CP Z (fun h2=>CK ?_) (fun h2=>CX ?_)))
  rotate_left
  ·have hi2:i=(c.qs.take 4).length:=by rw[htl] at hi ⊢;split at hi<;>split<;>omega
   have hi3:c.qs.take i=c.qs.take 4:=by rw[hi2,Z1];rw[List.take_eq_take_iff];omega
   refine⟨(ai,ci),by rw[←hi2];exact hroom,ba,?_⟩
   dsimp only
   rw[←hi2,←hi3]
   exact(ae.app (L:=[_,_,_]) (M:=[_,_,_]) ae.refl ae.nil).ar
  have hiq:i<c.qs.length:=by omega
  obtain⟨qb,qo,hqa,hFq,hcq⟩:=hq.at_ (fun e=>by rw[e] at hiq;simp at hiq)
  have hy:=GE hiq
  generalize c.qs[i]=y at hy
  have hsl:some (Value.slice a c.qs.length cap)=some (Value.slice (some ⟨qb,qo,none⟩) c.qs.length cap):=by rw[hqa]
  have htk:c.qs.take (i+1)=c.qs.take i ++ [y]:=by rw[ZZ,hy];rfl
  have hcell:w.cell? ⟨qb,qo+i*1,none⟩=some (.int .i64 y):=by rw[Nat.mul_one];exact hcq i y hy
  have PQ:∀{L:List HP},aE (⟨Tryz.prog,tab,ah,74,Fr,w⟩:Cx) L T.t3 qb (qo+i*T.t3.size) (.int .i64 y):=aE.rd hFq hcell
  refine CS (VC.block (CD (ts 0 7 (.only 7 (.only 8 (.only 9 (.take 10 (.only 11 .nil)))))) yn yr ?_))
  refine t_ ?_
  refine AG (AI Z (a_ i hsl Z Z Z Z Z hiq) ?_)
  refine AG (VA.load Z Z Z (aE.rd (v:=.int .i64 y) hFq hcell) ?_)
  refine AG (VA.de (φ:=fun v=>v=.int .i64 (iq y)) (fun Fr w _ _ _=>bH Fr w _ _ _) Z Z (by(try refine Pd.st ?_);(repeat(first|exact Pd.nil|exact Pd.fnil|refine Pd.inner ?_|refine Pd.skip yr ?_|refine zf (zo 0 Z Z) ?_|refine zf (zo 1 Z Z) ?_|refine zf (zo 2 Z Z) ?_|refine zf (zo 3 Z Z) ?_|refine zf (zm 0 Z Z) ?_|refine zf (zm 1 Z Z) ?_|refine zf (zm 2 Z Z) ?_|refine zf (zm 3 Z Z) ?_|refine zf (aE.aP PQ Z) ?_|refine zf (PQ) ?_|refine zc (zo 0 Z Z) ?_|refine zc (zo 1 Z Z) ?_|refine zc (zo 2 Z Z) ?_|refine zc (zo 3 Z Z) ?_|refine zc (zm 0 Z Z) ?_|refine zc (zm 1 Z Z) ?_|refine zc (zm 2 Z Z) ?_|refine zc (zm 3 Z Z) ?_|refine zc (aE.aP PQ Z) ?_|refine zc (PQ) ?_))) ?_)
  rintro _ rfl
  refine AG (AO (a8.buildSlice (n:=1) (pv:=[(0,.int .i64 (iq y))]) (cells:=[.int .i64 (iq y)]) Z Z Z Z yp Z) Z ?_ ?_)
  ·rintro _ _ ⟨nb,rfl,rfl⟩
   exact UI
  rintro _ _ ⟨nb,rfl,rfl⟩
  refine AG (AO (a8.append (m:=1) (news:=[.int .i64 (iq y)]) 1 Z Z Z Z Z Z Z (dt.pt 0 Z Z Z) Z (by show(i+1)*8≤_;omega) yd) Z ?_ ?_)
  ·rintro _ _ ⟨a2,c2,rfl,hc2,rfl⟩
   exact UI
  rintro _ _ ⟨a2,c2,rfl,hc2,rfl⟩
  refine Ko ?_
  refine AG (VA.st 2 Z Z Z Z Z RP Z Z UI (AG (AN ?_)))
  refine sh ?_
  refine⟨(i+1,a2,c2),⟨by rw[htl];split<;>omega,hc2⟩,by dsimp only;omega,ba,?_⟩
  dsimp only
  rw[htk]
  have e:cS ((c.qs.take i ++ [y]).map iq)=cS ((c.qs.take i).map iq) ++ [.int .i64 (iq y)]:=by simp[cS]
  rw[e]
  exact(ae.cons ae.tl).ar
 rintro⟨ai,ci⟩ hroom
 dsimp only at hroom ⊢
 have hf1:=oG c.qs
 refine VC.meet (σ:=Option Addr×Nat) (fun _=>[(2,pV r),(4,pV d)])
  (fun y=>[lL y.1 y.2 (gq c.qs),pt d ((dz c).cells y.1 y.2) 24,pt r T.t24.zs 24]) (fun y=>(gq c.qs).length≤y.2∧sI y.1) ?_ ?_
 ·refine CS (CG (VG (VO.ld 1 Z Z Z Z (VG (VN ?_)))))
  refine CE Z (fun hz=>?_) (fun hz=>?_)
  ·have hz:c.qs.take 4=[]:=List.eq_nil_of_length_eq_zero yd
   have hqf:gq c.qs=[96]:=by unfold gq bR;rw[if_pos hz];rfl
   refine CG (VG (VO.ld 1 Z Z Z Z ?_))
   refine VG (VO.buildSlice (n:=1) (pv:=[(0,.int .i64 96)]) [.int .i64 96] Z Z Z Z yp Z fun nb=>?_)
   refine VG (VO.append (m:=1) (news:=[.int .i64 96]) 1 Z Z Z Z Z Z Z (dt.pt 0 Z Z Z) Z (by show((c.qs.take 4).length+1)*8≤_;omega) yd fun a2 c2 hc2=>?_)
   refine VO.e_ 0 Z (aW.SL _ _ _ _ _ _) fun _ had=>?_
   refine VG (VO.st 2 Z Z Z Z RP Z Z (VG (VN ?_)))
   have e1:cS ((c.qs.take 4).map iq) ++ [.int .i64 96]=cS (gq c.qs):=by rw[hqf,hz];rfl
   have e2:(c.qs.take 4).length+1=(gq c.qs).length:=by rw[hqf,hz];rfl
   refine⟨(a2,c2),⟨by rw[←e2];exact hc2,had⟩,ba,?_⟩
   rw[e1,e2]
   exact(ae.cons ae.tl).ar
  ·have hz:¬c.qs.take 4=[]:=fun e=>hz RS
   have hqf:gq c.qs=(c.qs.take 4).map iq:=by unfold gq bR;rw[if_neg hz]
   refine VC.e_ 0 Z (aW.SL _ _ _ _ _ _) fun _ had=>CK ?_
   have e1:cS ((c.qs.take 4).map iq)=cS (gq c.qs):=by rw[hqf]
   have e2:(c.qs.take 4).length=(gq c.qs).length:=by rw[hqf,ZR]
   refine⟨(ai,ci),⟨by rw[←e2];exact hroom,had⟩,ba,?_⟩
   rw[e1,e2]
   exact ER
 rintro⟨af,cf⟩ ⟨hcf,haf⟩
 dsimp only at hcf haf ⊢
 refine CS (CG (VG (VL 1 ((dz c).cells af cf) Z Z Z Z ?_)))
 refine VG (VT (vs:=(dz c).cells af cf) (cs':=(dz c).cells af cf) 2 Z Z Z Z (NR _) Z Z Z (VG (VN ?_)))
 exact CR (ay.cell 2 Z Z Z (aE.many 2 Z Z) (L':=[lL af cf (gq c.qs)]) (ae.app (L:=[_]) (M:=[_]) ae.refl ae.nil).ar ⟨af,cf,haf,hcf,Z,Z⟩)
end Conf
namespace Adm
open Go Vg T Api Sched Conf
attribute [local irreducible] VO VC VA
abbrev NH:=Int×Int
def qx(t u:NH):Bool:=decide (t.1<u.1)||((t.1 == u.1)&&decide (t.2<u.2))
def ng(n:Int):Bool:=decide (1≤n)&&decide (n≤1099511627776)
structure aD where
 bP:aA
 aB:Int
 marks:List NH
 waits:List Int
def aD.has(A:aD)(k:Int):Bool:=decide (0≤k∧k<A.aB)
def aD.mark(A:aD)(k:Int):NH:=(A.marks[k.toNat]?).getD (0,0)
def aD.wt(A:aD)(k:Int):Int:=(A.waits[k.toNat]?).getD 0
def aD.sJ(A:aD)(k s t:Int):Bool:=A.has k && !qx (A.mark k) (s,t)
def aD.jr(A:aD)(k:Int)(m:NH):aD:={ A with marks:=A.marks.set k.toNat m }
def aD.fL(A:aD)(k:Int)(n:Int):aD:={ A with waits:=A.waits.set k.toNat n }
def aD.lM(A:aD)(k s t:Int):aD:=if qx (A.mark k) (s,t) then A.jr k (s,t) else A
def aD.fp(A:aD)(k s t:Int):Int×aD:=if A.has k&&ng s&&ng t then (0,A.lM k s t) else (2,A)
structure aD.Wf(A:aD):Prop where
 bP:A.bP.Wf
 c0:1≤A.aB
 c1:A.aB≤6
 marks:A.marks.length=6
 waits:A.waits.length=6
def fZ(m:NH):List Value:=[.int .i64 m.1,.int .i64 m.2]
theorem ie(m:NH):(fZ m).length=2:=rfl
def eD(A:aD)(sp:Nat):List Value:=.pointer (some ⟨sp,0,none⟩) :: .int .i64 A.aB :: .int .i64 A.bP.cls.length::(flat fZ A.marks++cS A.waits)
def uT(p:Nat)(A:aD)(sp:Nat):List HP:=[pt p (eD A sp) 186,iz sp A.bP]
def bw(p:Nat)(A:aD):HP:=hex fun sp=>cU (gu A.Wf::uT p A sp)
theorem aW.bK(p:Nat)(A:aD):aW (bw p A) (fun _=>A.Wf) (fun sp=>uT p A sp):=by
 rintro w ids ⟨s,h⟩ hn
 obtain⟨F,G,rfl,⟨rfl,h1⟩,h2⟩:=h
 exact TZ
theorem gy{p:Nat}{A:aD}{L:List HP}(sp:Nat)(hs:A.Wf)(h:ae L (uT p A sp)):ae L [bw p A]:=
 ae.ex sp (ae.sep (ae.trans h (ae.of_eq (ZN _).symm |>.trans (ae.pure hs ae.refl))))
structure xL(Fr:Nat→Prop)(w:World)(p:Nat)(A:aD)(sp:Nat):Prop where
 wf:A.Wf
 UB:eS Fr w p (eD A sp)
 bP:aM Fr [iz sp A.bP] w
theorem xL.of{Fr:Nat→Prop}{w:World}{p:Nat}{A:aD}(h:aM Fr [bw p A] w):∃sp,xL Fr w p A sp:=by
 obtain⟨s,h⟩:=h.ex
 have h:=h.sep
 exact⟨s,h.pure 0 Z,h.aP 1 Z,h.at_ 2 Z⟩
theorem mq{A:aD}(h:A.Wf){sp k:Nat}(hk:k<6):((eD A sp).drop (0+3+k*2)).take 2=fZ (A.mark k):=by
 have hk2:k<A.marks.length:=by rw[h.marks];exact hk
 have h1:A.marks[k]?=some (A.mark k):=by rw[aD.mark,ZU,GE hk2];rfl
 have:=fG ie h1 (cS A.waits)
 rw[←this,show 0+3+k*2=k*2+1+1+1 from by omega]
 rfl
theorem IL{A:aD}(h:A.Wf){sp k:Nat}(hk:k<6)(m:NH):ki (eD A sp) (0+3+k*2) (fZ m)=eD (A.jr k m) sp:=by
 have hk2:k<A.marks.length:=by rw[h.marks];exact hk
 have:=lZ ie m (cS A.waits) hk2
 show ki (_::_::_::(flat fZ A.marks++cS A.waits)) (0+3+k*2) (fZ m)=_::_::_::(flat fZ (A.marks.set ((k:Int).toNat) m)++cS A.waits)
 rw[ZU,←this,show 0+3+k*2=k*2+1+1+1 from by omega]
 simp only[ki,List.take_succ_cons,List.cons_append,ie]
 rw[show k*2+1+1+1+2=k*2+2+1+1+1 from by omega]
 simp only[List.drop_succ_cons]
 rfl
theorem sK{A:aD}(h:A.Wf)(sp:Nat):(eD A sp).length=21:=by
 simp[eD,bp ie,h.marks,mn,h.waits]
theorem NJ{A:aD}(h:A.Wf){sp k:Nat}(hk:k<6):(eD A sp)[0+15+k*1]?=some (.int .i64 (A.wt k)):=by
 have hk2:k<A.waits.length:=by rw[h.waits];exact hk
 have h1:A.waits[k]?=some (A.wt k):=by rw[aD.wt,ZU,GE hk2];rfl
 rw[show 0+15+k*1=(12+k)+1+1+1 from by omega]
 simp only[eD,List.getElem?_cons_succ]
 rw[List.getElem?_append_right Xn,bp ie,h.marks,show 12+k-6*2=k from by omega,cS,ZS,h1];rfl
theorem D2{A:aD}(h:A.Wf){sp k:Nat}(hk:k<6)(n:Int):(eD A sp).set (0+15+k*1) (.int .i64 n)=eD (A.fL k n) sp:=by
 rw[show 0+15+k*1=(12+k)+1+1+1 from by omega]
 simp only[eD,List.set_cons_succ,aD.fL,ZU]
 rw[List.set_append_right _ _ Xn,bp ie,h.marks,show 12+k-6*2=k from by omega]
 simp[cS,Z_]
theorem aD.Wf.jr{A:aD}(h:A.Wf)(k:Int)(m:NH):(A.jr k m).Wf:=⟨h.bP,h.c0,h.c1,by simpa[aD.jr] using h.marks,h.waits⟩
theorem aD.Wf.fL{A:aD}(h:A.Wf)(k:Int)(n:Int):(A.fL k n).Wf:=⟨h.bP,h.c0,h.c1,h.marks,by simpa[aD.fL] using h.waits⟩
theorem aD.Wf.lM{A:aD}(h:A.Wf)(k s t:Int):(A.lM k s t).Wf:=by
 unfold aD.lM;split
 ·exact h.jr k _
 ·exact h
theorem aD.Wf.fp{A:aD}(h:A.Wf)(k s t:Int):(A.fp k s t).2.Wf:=by
 unfold aD.fp;split
 ·exact h.lM k s t
 ·exact h
theorem bj{p:Nat}{a:Addr}{cs:List Value}(h:eS Fr w p (.pointer (some a)::cs)):aH Tryz.prog 230 [.pointer (some ⟨p,0,none⟩)] Fr w [] (fun v L=>v=.bool false∧L=[]):=by
 refine TF 12 Tryz.func230 Z yn ah Z Z ?_
 refine an ?_
 refine VG (VO.split 5 rfl rfl (fun h=>by cases h) (fun _=>?_))
 refine Fe ?_
 exact Ro
theorem oD{p sp:Nat}{A:aD}(k:Int)(h:eS Fr w p (eD A sp)):aH Tryz.prog 234 [.pointer (some ⟨p,0,none⟩),.int .i64 k] Fr w [] (fun v L=>v=.bool (A.has k)∧L=[]):=by
 refine TF 20 Tryz.func234 Z yn ah Z Z ?_
 refine an ?_
 refine U3 ?_
 refine VG (VY 8 true Z Z ?_)
 refine VG (VO.split 12 Z Z (fun h2=>?_) (fun h2=>?_))
 ·have h2:=of_decide_eq_true h2
  refine Fe ?_
  exact CR (ay.bool 4 Z Z (by simp[aD.has,h2]) ER ⟨rfl,Z⟩)
 ·have h2:=of_decide_eq_false h2
  refine an ?_
  exact CR (ay.bool 4 Z Z (by simp[aD.has,h2]) ER ⟨rfl,Z⟩)
theorem eM(n:Int):aH Tryz.prog 235 [.int .i64 n] Fr w [] (fun v L=>v=.bool (ng n)∧L=[]):=by
 refine TF 9 Tryz.func235 Z yn ah Z Z ?_
 refine an ?_
 refine VG (VO.split 5 Z Z (fun h2=>?_) (fun h2=>?_))
 ·have h2:=of_decide_eq_true h2
  refine an ?_
  exact CR (ay.bool 2 Z Z (by simp[ng,h2]) ER ⟨rfl,Z⟩)
 ·have h2:=of_decide_eq_false h2
  refine an ?_
  exact CR (ay.bool 2 Z Z (by simp[ng,h2]) ER ⟨rfl,Z⟩)
theorem uU(t u:NH):aH Tryz.prog 236 [.agg (fZ t).toArray,.agg (fZ u).toArray] Fr w [] (fun v L=>v=.bool (qx t u)∧L=[]):=by
 refine TF 24 Tryz.func236 Z yn ah Z Z ?_
 refine CS (CG (VG (VB (vs:=fZ t) Z fun b1=>VG (VB (vs:=fZ u) Z fun b2=>VG (VN ?_)))))
 refine jd ?_
 refine VG (VO.split 10 Z Z (fun h1=>?_) (fun h1=>?_))
 ·refine VG (VO.DI Z Z Z (VG (VO.DI Z Z Z (VG (VO.DI Z Z Z (VG (VO.DI Z Z Z (VG (VO.DI Z Z Z ?_)))))))))
  refine an ?_
  exact CR (ay.bool 4 Z Z (by simp only[qx,h1];rfl) ae.nil.ar ⟨rfl,Z⟩)
 ·refine jd ?_
  refine VG (VO.split 16 Z Z (fun h2=>?_) (fun h2=>?_))
  ·refine jd ?_
   exact CR (ay.bool 4 Z Z (by simp only[qx,h1,h2,Bool.false_or,Bool.true_and]) ae.nil.ar ⟨rfl,Z⟩)
  ·refine jd ?_
   exact CR (ay.bool 4 Z Z (by simp only[qx,h1,h2,Bool.false_or,Bool.false_and]) ae.nil.ar ⟨rfl,Z⟩)
theorem tC{p:Nat}{A:aD}(k s t:Int)(h:aM Fr [bw p A] w):aH Tryz.prog 289 [.pointer (some ⟨p,0,none⟩),.int .i64 k,.int .i64 s,.int .i64 t] Fr w [] (fun v L=>v=.bool (A.sJ k s t)∧L=[]):=by
 obtain⟨sp,h⟩:=xL.of h
 have hb:=h.UB
 refine TF 25 Tryz.func289 Z yn ah Z Z ?_
 refine an ?_
 refine VG (VV (fun Fr w hF hs _=>oD Fr w k (hb.of hF hs)) Z ?_)
 refine VG (VO.split 12 Z Z (fun h1=>?_) (fun h1=>?_))
 ·have hk:=of_decide_eq_true h1
  obtain⟨n,rfl⟩:=Int.eq_ofNat_of_zero_le hk.1
  have hn:n<6:=by have:=h.wf.c1;omega
  refine VG (VI (bG n Z Z Z Z Z Z hn) ?_)
  refine VG (VO.load Z Z (v:=.agg (fZ (A.mark n)).toArray) (aE.lG hb (mq h.wf hn)) ?_)
  refine XU ?_
  refine VG (VO.ik (fun Fr w=>uU Fr w (A.mark n) (s,t)) Z ?_)
  refine an ?_
  exact CR (ay.bool 8 Z Z (by simp only[aD.sJ,h1,Bool.true_and]) ER ⟨rfl,Z⟩)
 ·refine an ?_
  exact CR (ay.bool 8 Z Z (by simp only[aD.sJ,h1,Bool.false_and]) ER ⟨rfl,Z⟩)
theorem rE(p:Nat)(A:aD)(k s t:Int):aH Tryz.prog 167 [.pointer (some ⟨p,0,none⟩),.int .i64 k,.int .i64 s,.int .i64 t] Fr w [bw p A] (fun v L=>v=.int .i64 (A.fp k s t).1∧L=[bw p (A.fp k s t).2]):=by
 refine TF 45 Tryz.func167 Z yn ah Z Z ?_
 refine VC.e_ 0 Z (aW.bK p A) fun sp h=>?_
 refine CN (L':=uT p A sp) (ae.of_eq (ZN _)).ar ?_
 have out:∀{X:Cx},jq X (uT p A sp) [bw p A]:=fun {X}=>(gy sp h ae.refl).ar
 refine an ?_
 refine VG (VV (fun Fr w hF _ hs=>bj Fr w (hs.aP 0 Z)) Z (VG (VN (VC.jt Z ?_))))
 refine an ?_
 refine VG (VV (fun Fr w hF _ hs=>oD Fr w k (hs.aP 0 Z)) Z (VG (VO.split 18 Z Z (fun h1=>?_) (fun h1=>?_))))
 ·have h1:A.has k=false:=by simpa using h1
  have e:A.fp k s t=(2,A):=by simp[aD.fp,h1]
  refine VG (VY 23 true Z Z (VG (VN (VC.kr Z ?_))))
  refine an ?_
  exact Vb
 have h1:A.has k=true:=by simpa using h1
 refine VG (VO.ik (fun Fr w=>eM Fr w s) Z (VG (VO.split 23 Z Z (fun h2=>?_) (fun h2=>?_))))
 ·have h2:ng s=false:=by simpa using h2
  have e:A.fp k s t=(2,A):=by simp[aD.fp,h2]
  refine VG (VN (VC.kr Z ?_))
  refine an ?_
  exact Vb
 have h2:ng s=true:=by simpa using h2
 refine VG (VO.ik (fun Fr w=>eM Fr w t) Z (VG (VN ?_)))
 refine VC.dX Z (fun h3=>?_) (fun h3=>CK ?_)
 ·have e:A.fp k s t=(2,A):=by simp[aD.fp,h3]
  refine an ?_
  exact Vb
 have e:A.fp k s t=(0,A.lM k s t):=by simp[aD.fp,h1,h2,h3]
 have hk:=of_decide_eq_true h1
 obtain⟨n,rfl⟩:=Int.eq_ofNat_of_zero_le hk.1
 have hn:n<6:=by have:=h.c1;omega
 have hlen:=sK h sp
 refine an ?_
 refine XU ?_
 refine VG (VO.alloc Z fun m=>VG (VT (vs:=fZ (s,t)) (cs':=fZ (s,t)) 0 Z Z Z Z (NR _) Z Z Z (VG (VN ?_))))
 refine CS (CS (CD (ts 0 7 (.only 7 .nil)) yn yr ?_))
 refine AG (AI Z (bG n Z Z Z Z Z Z hn) ?_)
 refine AG (VA.ky 1 (fZ (A.mark n)) Z Z Z Z (mq h hn) ?_)
 refine AG (VA.ky 0 (fZ (s,t)) Z Z Z Z Z ?_)
 refine AG (VA.de (φ:=fun v=>v=.bool (qx (A.mark n) (s,t))) (fun Fr w _ _ _=>uU Fr w _ _) Z Z (by(try refine Pd.st ?_);(repeat(first|exact Pd.nil|exact Pd.fnil|refine Pd.inner ?_|refine Pd.skip yr ?_|refine zf (zo 0 Z Z) ?_|refine zf (zo 1 Z Z) ?_|refine zf (zm 0 Z Z) ?_|refine zf (zm 1 Z Z) ?_|refine zf (aE.aP (aE.many 1 Z (mq h hn)) Z) ?_|refine zf ((aE.many 1 Z (mq h hn))) ?_|refine zc (zo 0 Z Z) ?_|refine zc (zo 1 Z Z) ?_|refine zc (zm 0 Z Z) ?_|refine zc (zm 1 Z Z) ?_|refine zc (aE.aP (aE.many 1 Z (mq h hn)) Z) ?_|refine zc ((aE.many 1 Z (mq h hn))) ?_))) ?_)
 rintro _ rfl
 refine eW ?_
 refine CC Z (fun h4=>?_) (fun h4=>CK ?_)
 ·have e2:A.lM n s t=A.jr n (s,t):=by unfold aD.lM;rw[if_pos h4]
  refine T7 ?_
  refine AG (VA.ky 0 (fZ (s,t)) Z Z Z Z Z ?_)
  refine AG (AI Z (bG n Z Z Z Z Z Z hn) ?_)
  refine AG (AT (vs:=fZ (s,t)) (cs':=eD (A.jr n (s,t)) sp) 1 Z Z Z Z Z (by rw[hlen];show 0+3+n*2+2≤21;omega) (IL h hn (s,t)) Z Z yu (AG (AN ?_)))
  refine an ?_
  exact CR (ay.int 8 Z Z KG (L':=[bw p (A.jr n (s,t))]) (ae.trans ae.tl (gy sp (h.jr n _) ae.refl)).ar ⟨rfl,by rw[e,e2]⟩)
 ·have e2:A.lM n s t=A:=by unfold aD.lM;rw[if_neg (by rw[h4];simp)]
  refine an ?_
  exact CR (ay.int 8 Z Z KG (L':=[bw p A]) (ae.trans ae.tl (gy sp h ae.refl)).ar ⟨rfl,by rw[e,e2]⟩)
end Adm
namespace Adm
open Go Vg T Api Sched Conf
attribute [local irreducible] VO VC VA
def qy(o:fe):Bool:=(o.kind == 1)&&(a6 o == 0)
theorem kC(o:fe):aH Tryz.prog 189 [.agg o.cells.toArray] Fr w [] (fun v L=>v=.bool (qy o)∧L=[]):=by
 refine TF 11 Tryz.func189 Z yn ah Z Z ?_
 refine CS (CG (VG (VB (vs:=o.cells) Z fun b=>VG (VN ?_))))
 refine an ?_
 refine VG (VO.split 6 Z Z (fun h1=>?_) (fun h1=>?_))
 ·refine VG (VL 0 o.cells Z Z Z Z ?_)
  refine U2 ?_
  refine an ?_
  exact CR (ay.bool 2 Z Z (by simp only[qy,h1,Bool.true_and]) ae.nil.ar ⟨rfl,Z⟩)
 ·refine an ?_
  exact CR (ay.bool 2 Z Z (by simp only[qy,h1,Bool.false_and]) ae.nil.ar ⟨rfl,Z⟩)
def aD.may(A:aD)(f:aa):Bool:=A.has f.aj&&(f.kind == 1)&&ng f.seq&&ng f.ct&&decide (0≤f.cls)&&decide (f.cls<A.bP.cls.length)&&decide (0≤f.deadline)&&decide (f.deadline≤1099511627776)&&(a6 f.op == 0) && !qy f.op
theorem oH{p:Nat}{A:aD}(f:FM)(h:aM Fr [bw p A] w):aH Tryz.prog 288 [.pointer (some ⟨p,0,none⟩),.agg (cG f).toArray] Fr w [] (fun v L=>v=.bool (A.may f.1)∧L=[]):=by
 obtain⟨sp,h⟩:=xL.of h
 have hb:=h.UB
 refine TF 60 Tryz.func288 Z yn ah Z Z ?_
 refine CS (CG (VG (VB (vs:=cG f) Z fun b=>VG (VN ?_))))
 refine VC.meet (σ:=Bool) (fun b=>[(4,.bool b)]) (fun _=>[]) (fun b=>b=A.may f.1) ?_ ?_
 rotate_left
 ·rintro b rfl
  exact CR (ay.bool 4 Z Z Z ER ⟨rfl,Z⟩)
 refine CD (ts 0 3 (.only 3 (ts 4 8 (.only 12 (ts 13 4 (.only 17 (ts 18 28 (.only 46 (ts 47 5 (.only 52 (ts 53 3 .nil))))))))))) yn yr ?_
 refine eW ?_
 refine AG (VA.de (φ:=fun v=>v=.bool (A.has f.1.aj)) (fun Fr w hF hs _=>oD Fr w f.1.aj (hb.of hF hs)) Z Z yu ?_)
 rintro _ rfl
 refine Ge ?_
 refine AG (VA.split 9 Z Z (fun h0=>?_) (fun h0=>?_))
 rotate_left
 ·refine AG (AY 14 false Z Z ?_)
  refine HX ?_
  refine AG (AY 19 false Z Z ?_)
  refine HX ?_
  refine AG (AY 24 false Z Z ?_)
  refine Ut ?_
  refine RC ?_
  exact⟨false,(by show false=aD.may A f.1;rw[aD.may];simp only[show(A.has f.1.aj)=false from h0,Bool.and_false,Bool.false_and]),ba,ae.nil.ar⟩
 refine Ge ?_
 refine AG (VA.split 14 Z Z (fun h1=>?_) (fun h1=>?_))
 rotate_left
 ·refine HX ?_
  refine AG (AY 19 false Z Z ?_)
  refine HX ?_
  refine AG (AY 24 false Z Z ?_)
  refine Ut ?_
  refine RC ?_
  exact⟨false,(by show false=aD.may A f.1;rw[aD.may];simp only[show(f.1.kind == 1)=false from h1,Bool.and_false,Bool.false_and]),ba,ae.nil.ar⟩
 refine Ge ?_
 refine AG (VA.de (φ:=fun v=>v=.bool (ng f.1.seq)) (fun Fr w _ _ _=>eM Fr w _) Z Z TA ?_)
 rintro _ rfl
 refine Ge ?_
 refine AG (VA.split 19 Z Z (fun h2=>?_) (fun h2=>?_))
 rotate_left
 ·refine HX ?_
  refine AG (AY 24 false Z Z ?_)
  refine Ut ?_
  refine RC ?_
  exact⟨false,(by show false=aD.may A f.1;rw[aD.may];simp only[show(ng f.1.seq)=false from h2,Bool.and_false,Bool.false_and]),ba,ae.nil.ar⟩
 refine Ge ?_
 refine AG (VA.de (φ:=fun v=>v=.bool (ng f.1.ct)) (fun Fr w _ _ _=>eM Fr w _) Z Z TA ?_)
 rintro _ rfl
 refine Ge ?_
 refine AG (VA.split 24 Z Z (fun h3=>?_) (fun h3=>?_))
 rotate_left
 ·refine Ut ?_
  refine RC ?_
  exact⟨false,(by show false=aD.may A f.1;rw[aD.may];simp only[show(ng f.1.ct)=false from h3,Bool.and_false,Bool.false_and]),ba,ae.nil.ar⟩
 refine Ge ?_
 refine AG (VA.split 29 Z Z (fun h4=>?_) (fun h4=>?_))
 rotate_left
 ·refine XV ?_
  refine RC ?_
  exact⟨false,(by show false=aD.may A f.1;rw[aD.may];simp only[show(decide (0≤f.1.cls))=false from h4,Bool.and_false,Bool.false_and]),ba,ae.nil.ar⟩
 refine Ge ?_
 refine AG (VA.split 38 Z Z (fun h5=>?_) (fun h5=>?_))
 rotate_left
 ·refine RC ?_
  exact⟨false,(by show false=aD.may A f.1;rw[aD.may];simp only[show(decide (f.1.cls<A.bP.cls.length))=false from h5,Bool.and_false,Bool.false_and]),ba,ae.nil.ar⟩
 refine Ge ?_
 refine AG (VA.split 43 Z Z (fun h6=>?_) (fun h6=>?_))
 rotate_left
 ·refine Y7 ?_
  exact⟨false,(by show false=aD.may A f.1;rw[aD.may];simp only[show(decide (0≤f.1.deadline))=false from h6,Bool.and_false,Bool.false_and]),ba,ae.nil.ar⟩
 refine Ge ?_
 refine AG (VA.split 48 Z Z (fun h7=>?_) (fun h7=>?_))
 rotate_left
 ·refine Y5 ?_
  exact⟨false,(by show false=aD.may A f.1;rw[aD.may];simp only[show(decide (f.1.deadline≤1099511627776))=false from h7,Bool.and_false,Bool.false_and]),ba,ae.nil.ar⟩
 refine Ge ?_
 refine AG (VA.ky 0 f.1.op.cells Z Z Z Z Z ?_)
 refine AG (VA.de (φ:=fun v=>v=.int .i64 (a6 f.1.op)) (fun Fr w _ _ _=>bm Fr w _) Z Z TA ?_)
 rintro _ rfl
 refine Ge ?_
 refine AG (VA.split 54 Z Z (fun h8=>?_) (fun h8=>?_))
 rotate_left
 ·refine Y3 ?_
  exact⟨false,(by show false=aD.may A f.1;rw[aD.may];simp only[show(a6 f.1.op == 0)=false from h8,Bool.and_false,Bool.false_and]),ba,ae.nil.ar⟩
 refine Ge ?_
 refine AG (VA.ky 0 f.1.op.cells Z Z Z Z Z ?_)
 refine AG (VA.de (φ:=fun v=>v=.bool (qy f.1.op)) (fun Fr w _ _ _=>kC Fr w _) Z Z TA ?_)
 rintro _ rfl
 refine eW ?_
 refine⟨!qy f.1.op,?_,ba,ae.nil.ar⟩
 show(!qy f.1.op)=aD.may A f.1
 rw[aD.may]
 simp only[show(A.has f.1.aj)=true from h0,show(f.1.kind == 1)=true from h1,show(ng f.1.seq)=true from h2,show(ng f.1.ct)=true from h3,show(decide (0≤f.1.cls))=true from h4,show(decide (f.1.cls<A.bP.cls.length))=true from h5,show(decide (0≤f.1.deadline))=true from h6,show(decide (f.1.deadline≤1099511627776))=true from h7,show(a6 f.1.op == 0)=true from h8,Bool.true_and,Bool.and_true]
end Adm
namespace Adm
open Go Vg T Api Sched Conf
attribute [local irreducible] VO VC VA
theorem QA{Fr:Nat→Prop}{w:World}{p sp:Nat}{A:aD}(h:A.Wf)(hs:aM Fr (uT p A sp) w):aM Fr [bw p A] w:=aM.shut (φ:=fun _=>A.Wf) (Ls:=fun sp=>uT p A sp) sp h hs
theorem IM(S:aA)(f:aa):(S.eA f).2.cls.length=S.cls.length:=by
 unfold aA.eA
 split
 ·rfl
 ·split
  ·rfl
  ·split
   ·simp[aA.mh]
   ·rfl
def uV(c:aV):aD:=⟨aA.new c.qs c.queue,c.aB,List.replicate 6 (0,0),List.replicate 6 0⟩
theorem BQ{c:aV}(h:c=dz c):lx c.qs c.queue=true∧1≤c.aB∧c.aB≤6:=by
 have h1:c.qs=gq c.qs:=congrArg aV.qs h
 have h2:c.queue=aw c.queue 1 16:=congrArg aV.queue h
 have h3:c.aB=aw c.aB 1 6:=congrArg aV.aB h
 have h4:=oG c.qs
 have h5:=fE (x:=c.queue) (lo:=1) (hi:=16) yd
 have h6:=fE (x:=c.aB) (lo:=1) (hi:=6) yd
 rw[←h1] at h4
 rw[←h2] at h5
 rw[←h3] at h6
 refine⟨?_,h6⟩
 have h7:c.qs.all gk=true:=by
  rw[List.all_eq_true]
  intro q hq
  rw[h1] at hq
  obtain⟨x,_,rfl⟩:=Z0.1 hq
  have:=fE (x:=x) (lo:=96) (hi:=65536) yd
  simp[gk,iq,this]
 simp[lx,h4,h5,h7]
theorem Fq{c:aV}(h:c=dz c):(uV c).Wf:=by
 obtain⟨h1,h2,h3⟩:=BQ h
 exact⟨aA.IB h1,h2,h3,Z,Z⟩
theorem dJ(c:aV)(a:Option Addr)(cap:Nat)(hq:ee Fr w a c.qs)(ha:sI a)(hcap:c.qs.length≤cap):aH Tryz.prog 50 [.agg (c.cells a cap).toArray] Fr w []
  (fun v L=>if c=dz c then ∃p,v=.tuple #[.pointer (some ⟨p,0,none⟩),.int .i64 0]∧L=[bw p (uV c)] else v=.tuple #[.pointer none,.int .i64 2]∧L=[]):=by
 refine TF 30 Tryz.func50 Z yn ah Z Z ?_
 refine CS (CG (VG (VB (vs:=c.cells a cap) Z fun x=>VG (VN ?_))))
 refine OY ?_
 refine VG (VV (fun Fr w hF hs _=>bm Fr w c a cap (fY hq hF hs) ha hcap) Z (VG (VN ?_)))
 refine an ?_
 refine VC.bo Z (fun h1=>?_) (fun h1=>CK ?_)
 ·have hc:¬c=dz c:=fun e=>h1 (by rw[ic,if_pos e])
  have hc2:ic c=2:=by rw[ic,if_neg hc]
  refine an ?_
  refine CR (ay.cV 2 3 Z Z Z ae.nil.ar ?_)
  rw[if_neg hc,hc2];exact⟨rfl,rfl⟩
 have hc:c=dz c:=by
  apply Decidable.byContradiction
  intro hc
  rw[ic,if_neg hc] at h1
  cases h1
 obtain⟨hok,hc0,hc1⟩:=BQ hc
 refine an ?_
 refine VG (VK (Lc:=[]) (fun Fr w hF hs _=>Sched.dJ Fr w a cap c.qs c.queue (fY hq hF hs)) Z Z ?_)
 intro v L hv
 unfold fy at hv
 rw[if_pos hok] at hv
 obtain⟨sp,rfl,rfl⟩:=hv
 refine an ?_
 refine VC.bo Z (fun h=>absurd Z h) (fun _=>CK ?_)
 refine jd ?_
 refine VG (VI (LB (pv:=[(0,pV sp),(1,.int .i64 c.aB),(2,.int .i64 c.qs.length)]) (eD (uV c) sp) Z Z Z (by
  have e:(uV c).bP.cls.length=c.qs.length:=by simp[uV,aA.new]
  simp only[eD,e]
  rfl) rfl) ?_)
 refine VG (VB (vs:=eD (uV c) sp) Z fun p=>VG (VN ?_))
 refine CR (ay.cV 2 3 Z Z Z (L':=[bw p (uV c)]) (gy sp (Fq hc) (ae.app (L:=[_,_]) (M:=[_,_]) ae.refl ae.nil)).ar ?_)
 rw[if_pos hc];exact⟨p,rfl,rfl⟩
def aD.bF(A:aD)(S:aA):aD:={ A with bP:=S }
def aD.cO(A:aD)(f:aa)(now:Int):Int×aD:=
 if A.sJ f.aj f.seq f.ct then (7,A) else if A.wt f.aj=f.seq then (6,A) else if A.wt f.aj≠0 then (1,A) else if f.deadline<now then (2,A)
 else if (A.bP.eA f).1≠0 then (1,A.bF (A.bP.eA f).2) else (0,(A.bF (A.bP.eA f).2).fL f.aj f.seq)
def aD.e7(A:aD)(f:aa)(now:Int):Int×aD:=
 if A.may f then if (A.cO f now).1≠0∧(A.cO f now).1≠6 then ((A.cO f now).1,((A.cO f now).2.fp f.aj f.seq f.ct).2) else A.cO f now else (10,A)
theorem aD.Wf.bF{A:aD}(h:A.Wf){S:aA}(hS:S.Wf):(A.bF S).Wf:=⟨hS,h.c0,h.c1,h.marks,h.waits⟩
theorem aD.Wf.cO{A:aD}(h:A.Wf)(f:aa)(now:Int):(A.cO f now).2.Wf:=by
 unfold aD.cO
 repeat' split
 all_goals first | exact h | exact h.bF (Ab h.bP f) | exact(h.bF (Ab h.bP f)).fL _ _
theorem uW{A:aD}{f:aa}(h:A.may f=true):A.has f.aj=true∧ng f.seq=true∧ng f.ct=true:=by
 simp only[aD.may,Z2] at h
 exact⟨h.1.1.1.1.1.1.1.1.1,h.1.1.1.1.1.1.1.2,h.1.1.1.1.1.1.2⟩
theorem NK{A:aD}(h:A.Wf){k:Int}(hk:A.has k=true):∃n:Nat,k=n∧n<6:=by
 have hk:=of_decide_eq_true hk
 obtain⟨n,rfl⟩:=Int.eq_ofNat_of_zero_le hk.1
 have:=h.c1
 exact⟨n,Z,by omega⟩
theorem uX{A:aD}(f:aa)(sp:Nat):eD A sp=eD (A.bF (A.bP.eA f).2) sp:=by
 simp only[eD,aD.bF,IM]
theorem GF(p:Nat)(A:aD)(f:FM)(hmm:Dw Fr w f.2)(now:Int)(hm:A.may f.1=true):aH Tryz.prog 306 [.pointer (some ⟨p,0,none⟩),.agg (cG f).toArray,.int .i64 now] Fr w [bw p A] (fun v L=>v=.int .i64 (A.cO f.1 now).1∧L=[bw p (A.cO f.1 now).2]):=by
 refine TF 53 Tryz.func306 Z yn ah Z Z ?_
 refine CS (CG (VG (VB (vs:=cG f) Z fun b=>VG (VN ?_))))
 refine VC.e_ 1 Z (aW.bK p A) fun sp h=>?_
 refine CN (L':=pt b (cG f) 204::uT p A sp) (ae.perm List.perm_append_comm).ar ?_
 obtain⟨hhas,hnum,hnum2⟩:=uW hm
 obtain⟨n,hcl,hn⟩:=NK h hhas
 have hwt:A.wt f.1.aj=A.wt n:=by rw[hcl]
 have out:∀{X:Cx},jq X (pt b (cG f) 204::uT p A sp) [bw p A]:=fun {X}=>(ae.trans ae.tl (gy sp h ae.refl)).ar
 refine CS (CD (ts 0 8 .nil) yn yr ?_)
 refine qg ?_
 refine T8 ?_
 refine AG (VA.ld 1 Z Z Z Z (NJ h hn) ?_)
 refine eW ?_
 refine jd ?_
 refine VG (VV (fun Fr w hF _ hs=>tC Fr w f.1.aj f.1.seq f.1.ct (QA h hs.tail)) Z (VG (VN ?_)))
 refine CC Z (fun h1=>?_) (fun h1=>?_)
 ·have e:A.cO f.1 now=(7,A):=by unfold aD.cO;rw[if_pos h1]
  refine an ?_
  exact T9
 refine jd ?_
 refine CE Z (fun h2=>?_) (fun h2=>?_)
 ·have e:A.cO f.1 now=(6,A):=by unfold aD.cO;rw[if_neg KF,if_pos (hwt.trans h2)]
  refine an ?_
  exact T9
 refine jd ?_
 refine VC.bo Z (fun h3=>?_) (fun h3=>?_)
 ·have e:A.cO f.1 now=(1,A):=by unfold aD.cO;rw[if_neg KF,if_neg UR,if_pos (by rw[hwt];exact h3)]
  refine an ?_
  exact T9
 refine jd ?_
 refine CP Z (fun h4=>?_) (fun h4=>?_)
 ·have e:A.cO f.1 now=(2,A):=by unfold aD.cO;rw[if_neg KF,if_neg UR,if_neg (by rw[hwt];exact fun x=>x h3),if_pos h4]
  refine an ?_
  exact T9
 have e0:A.cO f.1 now=if (A.bP.eA f.1).1≠0 then (1,A.bF (A.bP.eA f.1).2) else (0,(A.bF (A.bP.eA f.1).2).fL f.1.aj f.1.seq):=by
  unfold aD.cO;rw[if_neg KF,if_neg UR,if_neg (by rw[hwt];exact fun x=>x h3),if_neg h4]
 have hwf:=h.bF (Ab h.bP f.1)
 refine CS (CD (ts 0 5 (.only 5 (ts 6 2 .nil))) yn yr ?_)
 refine qg ?_
 refine AG (VA.ky 0 (cG f) Z Z Z Z Z ?_)
 refine AG (AQ 2 (ψ:=fun v H=>v=.int .i64 (A.bP.eA f.1).1∧H=iz sp (A.bP.eA f.1).2) Z (fun Fr w hF hs _=>Sched.jh Fr w sp A.bP f (hmm.of hF hs)) Z Z (fun v L1 h=>⟨_,h.2,h.1,Z⟩) ?_ ?_)
 ·rintro _ _ ⟨rfl,rfl⟩
  exact yu
 rintro _ _ ⟨rfl,rfl⟩
 refine eW ?_
 refine VC.bo Z (fun h5=>?_) (fun h5=>CK ?_)
 ·have e:A.cO f.1 now=(1,A.bF (A.bP.eA f.1).2):=by rw[e0,if_pos h5]
  refine an ?_
  refine CR (ay.int 6 Z Z KG (ae.trans ae.tl (gy sp hwf (ae.of_eq ?_))).ar ⟨rfl,by rw[e]⟩)
  rw[uT,uX f.1 sp];rfl
 have e:A.cO f.1 now=(0,(A.bF (A.bP.eA f.1).2).fL n f.1.seq):=by rw[e0,if_neg (fun x=>x h5),hcl]
 refine CS (CD (ts 0 8 (.only 8 .nil)) yn yr ?_)
 refine qg ?_
 refine T8 ?_
 refine AG (VA.st 1 Z Z Z Z Z Xj (cs':=eD ((A.bF (A.bP.eA f.1).2).fL n f.1.seq) sp) (by rw[uX f.1 sp];exact D2 hwf hn f.1.seq) Z yu ?_)
 refine OZ ?_
 exact CR (ay.int 6 Z Z KG (ae.trans ae.tl (gy sp (hwf.fL n f.1.seq) (ae.of_eq Z))).ar ⟨rfl,by rw[e]⟩)
theorem mX(p:Nat)(A:aD)(f:FM)(hmm:Dw Fr w f.2)(now:Int):aH Tryz.prog 291 [.pointer (some ⟨p,0,none⟩),.agg (cG f).toArray,.int .i64 now] Fr w [bw p A] (fun v L=>v=.int .i64 (A.e7 f.1 now).1∧L=[bw p (A.e7 f.1 now).2]):=by
 refine TF 31 Tryz.func291 Z yn ah Z Z ?_
 refine CS (CG (VG (VB (vs:=cG f) Z fun b=>VG (VN ?_))))
 refine an ?_
 refine VG (VL 0 (cG f) Z Z Z Z ?_)
 refine VG (VV (fun Fr w hF _ hs=>oH Fr w f (hs.at_ 1 Z)) Z (VG (VN ?_)))
 refine VC.dX Z (fun h1=>?_) (fun h1=>CK ?_)
 ·have e:A.e7 f.1 now=(10,A):=by unfold aD.e7;rw[if_neg KF]
  refine an ?_
  exact CR (ay.int 6 Z Z KG (L':=[bw p A]) ae.tl.ar ⟨rfl,by rw[e]⟩)
 refine an ?_
 refine VG (VL 0 (cG f) Z Z Z Z ?_)
 refine VG (VQ 1 (ψ:=fun v H=>v=.int .i64 (A.cO f.1 now).1∧H=bw p (A.cO f.1 now).2) Z (fun Fr w hF hs _=>GF Fr w p A f (hmm.of hF hs) now h1) Z (fun v L1 h=>⟨_,h.2,h.1,Z⟩) ?_)
 rintro _ _ ⟨rfl,rfl⟩
 have e0:A.e7 f.1 now=if (A.cO f.1 now).1≠0∧(A.cO f.1 now).1≠6 then ((A.cO f.1 now).1,((A.cO f.1 now).2.fp f.1.aj f.1.seq f.1.ct).2) else A.cO f.1 now:=by unfold aD.e7;rw[if_pos h1]
 refine an ?_
 refine VG (VO.split 18 Z Z (fun h2=>?_) (fun h2=>?_))
 ·have h2:(A.cO f.1 now).1≠0:=by simpa using h2
  refine VG (VN (VC.bo Z (fun h3=>?_) (fun h3=>CK ?_)))
  ·have e:A.e7 f.1 now=((A.cO f.1 now).1,((A.cO f.1 now).2.fp f.1.aj f.1.seq f.1.ct).2):=by rw[e0,if_pos ⟨h2,h3⟩]
   refine an ?_
   refine VG (VQ 1 (ψ:=fun v H=>H=bw p ((A.cO f.1 now).2.fp f.1.aj f.1.seq f.1.ct).2) Z (fun Fr w _ _ _=>rE Fr w p _ _ _ _) Z (fun v L1 h=>⟨_,h.2,Z⟩) ?_)
   rintro _ _ rfl
   refine an ?_
   exact Vc
  ·have e:A.e7 f.1 now=A.cO f.1 now:=by rw[e0,if_neg (fun x=>x.2 h3)]
   refine an ?_
   exact Vc
 ·have h2:(A.cO f.1 now).1=0:=by simpa using h2
  have e:A.e7 f.1 now=A.cO f.1 now:=by rw[e0,if_neg (fun x=>x.1 h2)]
  refine Kr ?_
  exact Vc
end Adm
namespace Sched
open Go Vg T Api
def eP(S:aA):aa×Bool×aA:=match S.sG with
 | some r=>(r.1,true,r.2)
 | none=>(aa.zero,false,S)
theorem QB{p:Nat}{S:aA}{v:Value}{L:List HP}(h:BP p S v L):∃H,L=[H]∧(∃m,v=.tuple #[.agg (cG ((eP S).1,m)).toArray,.bool (eP S).2.1])∧H=iz p (eP S).2.2:=by
 unfold BP at h;unfold eP
 cases hp:S.sG with
 | none=>rw[hp] at h;exact⟨_,h.2,⟨(none,0,0),h.1⟩,rfl⟩
 | some r=>rw[hp] at h;exact⟨_,h.2,h.1,rfl⟩
theorem Ac{S:aA}(h:S.Wf):(eP S).2.2.Wf:=by
 unfold eP
 cases hp:S.sG with
 | none=>exact h
 | some r=>obtain⟨f,S1⟩:=r;obtain⟨_,_,_,_,_,hw⟩:=sH h hp;exact hw
theorem IN{S:aA}(h:S.Wf):(eP S).2.2.cls.length=S.cls.length:=by
 unfold eP
 cases hp:S.sG with
 | none=>rfl
 | some r=>
  obtain⟨f,S1⟩:=r
  obtain⟨_,_,_,h2,_,_⟩:=sH h hp
  have:=congrArg List.length h2
  simpa[aA.qs] using this
theorem uj{S:aA}(h:S.Wf)(ho:(eP S).2.1=true):∃k q,S.qs[k]?=some ((eP S).1::q)∧(eP S).2.2.qs=S.qs.set k q:=by
 unfold eP at ho ⊢
 cases hp:S.sG with
 | none=>rw[hp] at ho;cases ho
 | some r=>
  obtain⟨f,S1⟩:=r
  obtain⟨k,q,h1,h2,_,_⟩:=sH h hp
  exact⟨k,q,h1,h2⟩
theorem NL{S:aA}(h:S.Wf)(ho:(eP S).2.1=false):S.idle=true∧(eP S).2.2=S:=by
 unfold eP at ho ⊢
 cases hp:S.sG with
 | none=>exact⟨GA h hp,rfl⟩
 | some r=>rw[hp] at ho;cases ho
end Sched
end Go.Proofs.YthnlpdacbcjgpaaGreatDoor
