/- Texts of the proof, put together and shortened. No condition. -/
import Derived.Test.YthnlpdacbcjgpaaGreatDoorZf1
set_option maxRecDepth 100000
set_option maxHeartbeats 16000000
set_option linter.unusedVariables false
set_option linter.unusedSectionVars false
set_option linter.unusedSimpArgs false
namespace Go.Proofs.YthnlpdacbcjgpaaGreatDoor
variable (Fr : Nat → Prop) (w : World)
namespace Ch
open Go Vg T Api
attribute [local irreducible] VO VC VA
abbrev kK:TypeId:=105
structure dL where
 al:Int
 ms:List bG
 drain:Int
def dL.cells(c:dL)(a:Option Addr)(cap:Nat):List Value:=[.int .i64 c.al,.slice a c.ms.length cap,.int .i64 c.drain]
def placeOf(ms:List bG)(n:Int):Int:=match ms.findIdx? (fun m=>decide (m.1=n)) with
 | some i=>i
 | none=>-1
theorem F7{ms:List bG}{n:Int}{i:Nat}{m:bG}(hm:ms[i]?=some m)(h:m.1=n)(hno:∀j m,j<i→ms[j]?=some m→m.1≠n):placeOf ms n=i:=by
 obtain⟨h1,h2⟩:=Zk.1 hm
 have:ms.findIdx? (fun m=>decide (m.1=n))=some i:=by
  rw[List.findIdx?_eq_some_iff_getElem]
  refine⟨h1,by rw[h2];simp[h],fun j hj=>?_⟩
  have:=hno j _ hj (GE yd)
  simpa using this
 rw[placeOf,this]
theorem Dv{ms:List bG}{n:Int}(hno:∀j m,j<ms.length→ms[j]?=some m→m.1≠n):placeOf ms n=-1:=by
 have:ms.findIdx? (fun m=>decide (m.1=n))=none:=by
  rw[List.findIdx?_eq_none_iff]
  intro m hm
  obtain⟨j,h1,h2⟩:=List.getElem_of_mem hm
  have:=hno j m h1 (by rw[GE h1,h2])
  simpa using this
 rw[placeOf,this]
theorem gn(ms:List bG)(n:Int):placeOf ms n=-1∨∃(i:Nat) (m:bG),placeOf ms n=i∧i<ms.length∧ms[i]?=some m∧m.1=n:=by
 unfold placeOf
 cases h:ms.findIdx? (fun m=>decide (m.1=n)) with
 | none=>exact .inl rfl
 | some i=>
  obtain⟨h1,h2,_⟩:=List.findIdx?_eq_some_iff_getElem.1 h
  exact .inr ⟨i,ms[i],Z,h1,GE h1,by simpa using h2⟩
section
variable {c:dL} {a:Option Addr} {cap:Nat}
theorem kW{b:Nat}(hb:eQ Fr w b (c.cells a cap))(h:aI ax 2 Fr w a c.ms)(hl:c.ms.length≤9223372036854775807)(n:Int):
  aH Tryz.prog 140 [.int .i64 n,.pointer (some ⟨b,0,none⟩)] Fr w [] (fun v L=>v=.int .i64 (placeOf c.ms n)∧L=[]):=by
 refine TF 20 Tryz.func140 Z yn ah Z Z ?_
 refine Db ?_
 refine VC.loop (σ:=Nat) (fun i=>[(0,.int .i64 n),(1,pV b),(7,.slice a c.ms.length cap),(8,.int .i64 c.ms.length),(9,.int .i64 i)]) (fun _=>[]) (fun i=>i≤c.ms.length∧∀j m,j<i→c.ms[j]?=some m→m.1≠n) (fun i=>c.ms.length-i) 0
  ⟨Zj _,fun j m hj=>by omega⟩ bd ER ?_
 rintro i ⟨hi,hno⟩
 refine an ?_
 refine CP Z (fun h1=>CK ?_) (fun h1=>CX ?_)
 ·have hi2:i<c.ms.length:=by omega
  obtain⟨m,hm⟩:∃m,c.ms[i]?=some m:=⟨_,GE hi2⟩
  obtain⟨mb,mo,hma,ra,rc⟩:=aI.rd (X:=⟨Tryz.prog,tab,ah,20,Fr,w⟩) h hm
  subst hma
  refine Kl ?_
  refine HG ?_
  refine VG (VO.alloc Z fun xb=>?_)
  refine VG (VT (vs:=ax m) 0 Z Z Z Z (NR _) Z Z Z ?_)
  refine an ?_
  refine CE Z (fun h2=>?_) (fun h2=>CK ?_)
  ·refine an ?_
   exact CR (ay.tmp 3 Z Z ae.nil.ar ⟨by rw[F7 hm h2 hno],Z⟩)
  ·refine sd ?_
   exact⟨i+1,⟨hi2,fun j m' hj hm'=>by
    by_cases hji:j=i
    ·subst hji;rw[hm] at hm';cases hm';exact h2
    ·exact hno j m' yd hm'⟩,by dsimp only;omega,bd,ae.nil.ar⟩
 ·obtain rfl:i=c.ms.length:=by omega
  refine an ?_
  exact CR (ay.tmp 3 Z Z ae.nil.ar ⟨by rw[Dv hno],Z⟩)
theorem s9:aH Tryz.prog 84 [.agg (c.cells a cap).toArray] Fr w [] (fun v L=>∃b,v=pS 140 [] [.pointer (some ⟨b,0,none⟩)]∧L=[pt b (c.cells a cap) kK]):=by
 refine TF 4 Tryz.func84 Z yn ah Z Z ?_
 refine CS (CG (VG (VB (vs:=c.cells a cap) Z fun b=>?_)))
 refine an ?_
 refine Uv ?_
 refine an ?_
 exact CR (ay.tmp 2 Z Z ER ⟨b,Z,Z⟩)
def pU(n:Int):Bool:=decide (0≤n)&&decide (n<6)
theorem xi(n:Int):aH Tryz.prog 141 [.int .i64 n] Fr w [] (fun v L=>v=.bool (pU n)∧L=[]):=by
 refine TF 9 Tryz.func141 Z yn ah Z Z ?_
 refine an ?_
 by_cases h1:0≤n
 ·refine VG (VY 5 true Z (DT h1) ?_)
  refine eP ?_
  exact CR (ay.bool 2 Z Z (by simp[pU,h1]) ER ⟨rfl,Z⟩)
 ·refine VG (VY 5 false Z (DF h1) ?_)
  refine eP ?_
  exact CR (ay.bool 2 Z Z (by simp[pU,h1]) ER ⟨rfl,Z⟩)
def qU(c:dL)(i:Nat):Bool:=match c.ms[i]? with
 | some m=>pU m.1&&(decide (placeOf c.ms m.1=i)&&(decide (1≤m.2)&&decide (m.2≤c.al)))
 | none=>true
def qi(c:dL):Bool:=decide (1≤c.al)&&(decide (c.al≤1099511627776)&&(decide (1≤c.ms.length)&&decide (c.ms.length≤6)))
def qV(c:dL):Bool:=decide (c.drain=-1)||decide (0≤placeOf c.ms c.drain)
def qj(c:dL):Bool:=qi c&&((List.range c.ms.length).all (qU c)&&qV c)
def se(c:dL):Int:=if qj c then 0 else 2
theorem bm(h:aI ax 2 Fr w a c.ms)(hl:c.ms.length≤9223372036854775807):aH Tryz.prog 85 [.agg (c.cells a cap).toArray] Fr w [] (fun v L=>v=.int .i64 (se c)∧L=[]):=by
 refine TF 71 Tryz.func85 Z yn ah Z Z ?_
 refine CS (CG (VG (VB (vs:=c.cells a cap) Z fun b=>?_)))
 refine VG (VN (CS (CS ?_)))
 refine VC.cq (σ:=Unit) (fun _=>[(1,pV b),(25,.bool (!qi c))]) (fun _=>[pt b (c.cells a cap) kK]) (fun _=>True) ?_ ?_
 ·refine an ?_
  by_cases h1:c.al<1
  ·refine VG (VY 9 true Z (DT h1) ?_)
   refine eP ?_
   refine VG (VY 14 true Z Z ?_)
   refine eP ?_
   refine VG (VY 20 true Z Z ?_)
   refine eP ?_
   exact Xd
  refine VG (VY 9 false Z (DF h1) ?_)
  refine eP ?_
  by_cases h2:1099511627776<c.al
  ·refine VG (VY 14 true Z (DT h2) ?_)
   refine eP ?_
   refine VG (VY 20 true Z Z ?_)
   refine eP ?_
   exact Xd
  refine VG (VY 14 false Z (DF h2) ?_)
  refine eP ?_
  by_cases h3:(c.ms.length:Int)<1
  ·refine VG (VY 20 true Z (DT h3) ?_)
   refine eP ?_
   exact⟨(),trivial,SC Z (Sub.bl Z (by rw[qi,DF (show ¬1≤c.ms.length by omega)];simp) (SN _)),ER⟩
  refine VG (VY 20 false Z (DF h3) ?_)
  refine eP ?_
  refine⟨(),trivial,SC Z (Sub.bl Z ?_ (SN _)),ER⟩
  have e1:decide (1≤c.al)=true:=DT yd
  have e2:decide (c.al≤1099511627776)=true:=DT yd
  have e3:decide (1≤c.ms.length)=true:=DT yd
  rw[qi,e1,e2,e3]
  by_cases h4:6<(c.ms.length:Int)
  ·rw[DT h4,DF (show ¬c.ms.length≤6 by omega)];rfl
  ·rw[DF h4,DT (show c.ms.length≤6 by omega)];rfl
 rintro _ -
 refine VC.dT Z (fun hh=>?_) (fun hh=>CK ?_)
 ·refine an ?_
  exact CR (ay.tmp 2 Z Z ae.nil.ar ⟨by rw[se,qj,hh];rfl,Z⟩)
 refine Ox ?_
 refine Rp ?_
 rintro _ _ ⟨pb,rfl,rfl⟩
 refine jA ?_
 have hmv:∀(i:Nat),qU c i=false→i<c.ms.length→qj c=false:=fun i h1 h2=>by
  have:(List.range c.ms.length).all (qU c)=false:=by
   rw[List.all_eq_false];exact⟨i,List.mem_range.2 h2,by rw[h1];simp⟩
  rw[qj,this];simp
 refine VC.loop (σ:=Nat) (fun i=>[(1,pV b),(3,pS 140 [] [.pointer (some ⟨pb,0,none⟩)]),(29,.slice a c.ms.length cap),(30,.int .i64 c.ms.length),(31,.int .i64 i)]) (fun _=>[pt pb (c.cells a cap) kK,pt b (c.cells a cap) kK]) (fun i=>i≤c.ms.length∧(List.range i).all (qU c)=true) (fun i=>c.ms.length-i) 0
  ⟨Zj _,rfl⟩ bd ER ?_
 rintro i ⟨hi,hall⟩
 refine an ?_
 refine CP Z (fun h1=>CK ?_) (fun h1=>CX ?_)
 ·have hi2:i<c.ms.length:=by omega
  obtain⟨m,hm⟩:∃m,c.ms[i]?=some m:=⟨_,GE hi2⟩
  have hmo:qU c i=(pU m.1&&(decide (placeOf c.ms m.1=i)&&(decide (1≤m.2)&&decide (m.2≤c.al)))):=by rw[qU,hm]
  obtain⟨mb,mo,hma,ra,rc⟩:=aI.rd (X:=⟨Tryz.prog,tab,ah,71,Fr,w⟩) h hm
  subst hma
  refine Kl ?_
  refine HG ?_
  refine VG (VO.alloc Z fun xb=>?_)
  refine VG (VT (vs:=ax m) 0 Z Z Z Z (NR _) Z Z Z (VG (VN ?_)))
  refine CS ?_
  refine VC.cq (σ:=Unit) (fun _=>[(1,pV b),(3,pS 140 [] [.pointer (some ⟨pb,0,none⟩)]),(29,.slice (some ⟨mb,mo,none⟩) c.ms.length cap),(30,.int .i64 c.ms.length),(31,.int .i64 i),(59,.bool (!qU c i))]) (fun _=>[pt pb (c.cells (some ⟨mb,mo,none⟩) cap) kK,pt b (c.cells (some ⟨mb,mo,none⟩) cap) kK]) (fun _=>True) ?_ ?_
  ·have S3:∀{E:Env} {t:Bool},Vg.look E 59=some (.bool t)→t=(!qU c i)→Vg.look E 1=some (.pointer (some ⟨b,0,none⟩))→Vg.look E 3=some (pS 140 [] [.pointer (some ⟨pb,0,none⟩)])→Vg.look E 29=some (.slice (some ⟨mb,mo,none⟩) c.ms.length cap)→Vg.look E 30=some (.int .i64 c.ms.length)→Vg.look E 31=some (.int .i64 i) →
     Sub [(1,pV b),(3,pS 140 [] [.pointer (some ⟨pb,0,none⟩)]),(29,.slice (some ⟨mb,mo,none⟩) c.ms.length cap),(30,.int .i64 c.ms.length),(31,.int .i64 i),(59,.bool (!qU c i))] E:=fun h0 h1 h2 h3 h4 h5 h6=>SC h2 (SC h3 (SC h4 (SC h5 (SC h6 (Sub.bl h0 h1 (SN _))))))
   refine sf ?_
   refine VG (VO.ic (fun Fr w=>xi Fr w m.1) Z ?_)
   refine sf ?_
   cases hn:pU m.1 with
   | false=>
    refine Rq ?_
    refine pP ?_
    refine VG (VY 48 true Z Z ?_)
    refine pP ?_
    refine VG (VY 53 true Z Z ?_)
    refine pP ?_
    exact⟨(),trivial,S3 Z (by rw[hmo,hn];rfl) Z Z Z Z Z,(dG [1,1]).ar⟩
   | true=>
   refine QV ?_
   refine pP ?_
   refine VG (VO.si (u:=.int .i64 (placeOf c.ms m.1)) Z (fun Fr w hF hs hS=>kW Fr w (hS.aP 1 Z) (h.of hF hs) hl m.1) Z ?_)
   refine pP ?_
   by_cases h2:placeOf c.ms m.1=i
   ·refine VG (VY 48 false Z yj ?_)
    refine pP ?_
    by_cases h3:m.2<1
    ·refine VG (VY 53 true Z (DT h3) ?_)
     refine pP ?_
     exact⟨(),trivial,S3 Z (by rw[hmo,DF (show ¬1≤m.2 by omega)];simp) Z Z Z Z Z,(dG [1,1]).ar⟩
    refine VG (VY 53 false Z (DF h3) ?_)
    refine pP ?_
    exact⟨(),trivial,S3 Z (by
     rw[hmo,hn,DT h2,DT (show 1≤m.2 by omega)]
     by_cases h4:c.al<m.2
     ·rw[DT h4,DF (show ¬m.2≤c.al by omega)];rfl
     ·rw[DF h4,DT (show m.2≤c.al by omega)];rfl) rfl rfl rfl rfl rfl,(dG [1,1]).ar⟩
   ·refine VG (VY 48 true Z yj ?_)
    refine pP ?_
    refine VG (VY 53 true Z Z ?_)
    refine pP ?_
    exact⟨(),trivial,S3 Z (by rw[hmo,DF h2];simp) Z Z Z Z Z,(dG [1,1]).ar⟩
  rintro _ -
  refine VC.dT Z (fun hb=>?_) (fun hb=>CK ?_)
  ·refine an ?_
   exact CR (ay.tmp 2 Z Z ae.nil.ar ⟨by rw[se,hmv i hb hi2];rfl,Z⟩)
  ·refine sd ?_
   exact⟨i+1,⟨hi2,by rw[List.range_succ,List.all_append,hall];simp[hb]⟩,by dsimp only;omega,bd,ER⟩
 ·obtain rfl:i=c.ms.length:=by omega
  have hce:se c=if qV c then 0 else 2:=by rw[se,qj,hh,hall];simp
  refine jA ?_
  by_cases hd:c.drain=-1
  ·refine VG (VY 64 false Z (by simp[hd]) ?_)
   refine wu ?_
   refine r_ ?_
   refine an ?_
   exact CR (ay.tmp 2 Z Z ae.nil.ar ⟨by rw[hce,qV,DT hd];rfl,Z⟩)
  ·refine VG (VY 64 true Z (by simp[hd]) ?_)
   refine wu ?_
   refine VG (VO.si (u:=.int .i64 (placeOf c.ms c.drain)) Z (fun Fr w hF hs hS=>kW Fr w (hS.aP 0 Z) (h.of hF hs) hl c.drain) Z ?_)
   refine wu ?_
   refine CP Z (fun h5=>?_) (fun h5=>CK ?_)
   ·refine an ?_
    exact CR (ay.tmp 2 Z Z ae.nil.ar ⟨by rw[hce,qV,DF hd,DF yd];rfl,Z⟩)
   ·refine an ?_
    exact CR (ay.tmp 2 Z Z ae.nil.ar ⟨by rw[hce,qV,DT (show 0≤placeOf c.ms c.drain by omega)];simp,Z⟩)
def qW(c:dL)(i:Int):Int:=if qj c∧0≤i∧i<c.ms.length then ((c.ms[i.toNat]?).getD (0,0)).1 else -1
theorem kX(h:aI ax 2 Fr w a c.ms)(hl:c.ms.length≤9223372036854775807)(i:Int):aH Tryz.prog 229 [.agg (c.cells a cap).toArray,.int .i64 i] Fr w [] (fun v L=>v=.int .i64 (qW c i)∧L=[]):=by
 refine TF 25 Tryz.func229 Z yn ah Z Z ?_
 refine CS (CG (VG (VB (vs:=c.cells a cap) Z fun b=>?_)))
 refine Ox ?_
 refine VG (VV (fun Fr w hF hs hS=>bm Fr w (h.of hF hs) hl) Z ?_)
 refine an ?_
 cases hc:qj c with
 | false=>
  refine VG (VY 8 true Z yq ?_)
  refine eP ?_
  refine VG (VY 12 true Z Z ?_)
  refine Dh ?_
  exact CR (ay.tmp 4 Z Z ae.nil.ar ⟨by rw[qW,if_neg (by rw[hc];simp)],Z⟩)
 | true=>
 refine VG (VY 8 false Z yq ?_)
 refine eP ?_
 by_cases h1:i<0
 ·refine VG (VY 12 true Z (DT h1) ?_)
  refine Dh ?_
  exact CR (ay.tmp 4 Z Z ae.nil.ar ⟨by rw[qW,if_neg yd],Z⟩)
 refine VG (VY 12 false Z (DF h1) ?_)
 refine eP ?_
 refine CP Z (fun h2=>?_) (fun h2=>CK ?_)
 ·refine an ?_
  exact CR (ay.tmp 4 Z Z ae.nil.ar ⟨by rw[qW,if_neg yd],Z⟩)
 ·obtain⟨k,rfl⟩:∃k:Nat,i=k:=⟨i.toNat,by omega⟩
  have hk:k<c.ms.length:=by omega
  obtain⟨m,hm⟩:∃m,c.ms[k]?=some m:=⟨_,GE hk⟩
  obtain⟨mb,mo,hma,ra,rc⟩:=aI.rd (X:=⟨Tryz.prog,tab,ah,25,Fr,w⟩) h hm
  subst hma
  refine an ?_
  refine Rr ?_
  refine an ?_
  refine VG (VO.load Z Z (rc _ _ 0 _ Z Z) ?_)
  refine an ?_
  exact CR (ay.tmp 4 Z Z ae.nil.ar ⟨by rw[qW,if_pos ⟨hc,by omega,by omega⟩,Zp,hm];rfl,Z⟩)
def sn(c:dL):Int:=qW c 0
def qk(c:dL):Int:=qW c (c.ms.length-1)
def ze(c:dL)(n:Int):Int:=if placeOf c.ms n<0 then -1 else qW c (placeOf c.ms n+1)
def HX(c:dL)(n:Int):Int:=qW c (placeOf c.ms n-1)
def a6(c:dL)(n:Int):Int×Bool:=if qj c∧0≤placeOf c.ms n then (((c.ms[(placeOf c.ms n).toNat]?).getD (0,0)).2,true) else (0,false)
theorem lW(h:aI ax 2 Fr w a c.ms)(hl:c.ms.length≤9223372036854775807):aH Tryz.prog 162 [.agg (c.cells a cap).toArray] Fr w [] (fun v L=>v=.int .i64 (sn c)∧L=[]):=by
 refine TF 5 Tryz.func162 Z yn ah Z Z ?_
 refine CS (CG (VG (VB (vs:=c.cells a cap) Z fun b=>?_)))
 refine Ox ?_
 refine VG (VV (fun Fr w hF hs hS=>kX Fr w (h.of hF hs) hl 0) Z ?_)
 refine an ?_
 exact Kf
theorem lX(h:aI ax 2 Fr w a c.ms)(hl:c.ms.length≤9223372036854775807):aH Tryz.prog 221 [.agg (c.cells a cap).toArray] Fr w [] (fun v L=>v=.int .i64 (qk c)∧L=[]):=by
 refine TF 9 Tryz.func221 Z yn ah Z Z ?_
 refine CS (CG (VG (VB (vs:=c.cells a cap) Z fun b=>?_)))
 refine Ox ?_
 refine an ?_
 refine HH ?_
 refine VG (VV (fun Fr w hF hs hS=>kX Fr w (h.of hF hs) hl (c.ms.length-1)) Z ?_)
 refine an ?_
 exact Kf
theorem gz(h:aI ax 2 Fr w a c.ms)(hl:c.ms.length≤1000000)(n:Int):aH Tryz.prog 240 [.agg (c.cells a cap).toArray,.int .i64 n] Fr w [] (fun v L=>v=.int .i64 (ze c n)∧L=[]):=by
 have hp:=gn c.ms n
 refine TF 16 Tryz.func240 Z yn ah Z Z ?_
 refine CS (CG (VG (VB (vs:=c.cells a cap) Z fun b=>?_)))
 refine Ox ?_
 refine Rp ?_
 rintro _ _ ⟨pb,rfl,rfl⟩
 refine an ?_
 refine Tp ?_
 refine an ?_
 refine CP Z (fun h1=>?_) (fun h1=>CK ?_)
 ·refine an ?_
  exact CR (ay.tmp 4 Z Z ae.nil.ar ⟨by rw[ze,if_pos h1],Z⟩)
 ·have hpl:placeOf c.ms n<1000000:=by
   rcases hp with hp | ⟨i,m,h2,h3,_⟩<;>omega
  refine an ?_
  refine O5 ?_
  refine Ov ?_
  refine VG (VV (fun Fr w hF hs hS=>kX Fr w (h.of hF hs) yd (placeOf c.ms n+1)) Z ?_)
  refine an ?_
  exact CR (ay.tmp 4 Z Z ae.nil.ar ⟨by rw[ze,if_neg h1],Z⟩)
theorem pn(h:aI ax 2 Fr w a c.ms)(hl:c.ms.length≤1000000)(n:Int):aH Tryz.prog 257 [.agg (c.cells a cap).toArray,.int .i64 n] Fr w [] (fun v L=>v=.int .i64 (HX c n)∧L=[]):=by
 have hp:=gn c.ms n
 have hpl:-1≤placeOf c.ms n∧placeOf c.ms n<1000000:=by
  rcases hp with hp | ⟨i,m,h2,h3,_⟩<;>omega
 refine TF 12 Tryz.func257 Z yn ah Z Z ?_
 refine CS (CG (VG (VB (vs:=c.cells a cap) Z fun b=>VG ?_)))
 refine AM ?_
 refine CS (CD (.take 0 (.take 1 (.take 3 (.only 2 (.only 4 (.take 5 (.only 6 (.take 7 .nil)))))))) yn yr ?_)
 refine AG (VA.kn 0 (c.cells a cap) Z Z Z Z Z ?_)
 refine AG (VA.kn 0 (c.cells a cap) Z Z Z Z Z ?_)
 refine eT ?_
 refine AG (AO (OC (Lc:=[]) (R:=fun v L=>∃b,v=pS 140 [] [.pointer (some ⟨b,0,none⟩)]∧L=[pt b (c.cells a cap) kK]) Z (.refl _) (fun Fr w hF hs hS=>s9 Fr w)) Z ?_ ?_)
 ·rintro _ _ ⟨_,⟨pb,rfl,rfl⟩,rfl⟩
  exact yu
 rintro _ _ ⟨_,⟨pb,rfl,rfl⟩,rfl⟩
 refine AG (VA.si (u:=.int .i64 (placeOf c.ms n)) Z (fun Fr w hF hs hS=>kW Fr w (hS.aP 0 Z) (h.of hF hs) yd n) Z Z yu ?_)
 refine QW ?_
 refine AG (AR (fun Fr w hF hs hS=>kX Fr w (h.of hF hs) yd (placeOf c.ms n-1)) Z Z yu ?_)
 refine eT ?_
 exact CR (ay.tmp 4 Z Z ae.nil.ar ⟨rfl,Z⟩)
theorem ql(h:aI ax 2 Fr w a c.ms)(hl:c.ms.length≤1000000)(n:Int):aH Tryz.prog 52 [.agg (c.cells a cap).toArray,.int .i64 n] Fr w [] (fun v L=>v=.tuple #[.int .i64 (a6 c n).1,.bool (a6 c n).2]∧L=[]):=by
 have hp:=gn c.ms n
 refine TF 24 Tryz.func52 Z yn ah Z Z ?_
 refine CS (CG (VG (VB (vs:=c.cells a cap) Z fun b=>?_)))
 refine Ox ?_
 refine Rp ?_
 rintro _ _ ⟨pb,rfl,rfl⟩
 refine an ?_
 refine Tp ?_
 refine an ?_
 refine O5 ?_
 refine VG (VV (fun Fr w hF hs hS=>bm Fr w (h.of hF hs) yd) Z ?_)
 refine an ?_
 cases hc:qj c with
 | false=>
  refine VG (VY 14 true Z yq ?_)
  refine Dh ?_
  exact CR (ay.cU 4 5 Z Z Z ae.nil.ar ⟨by rw[a6,if_neg (by rw[hc];simp)],Z⟩)
 | true=>
 refine VG (VY 14 false Z yq ?_)
 refine eP ?_
 refine CP Z (fun h1=>?_) (fun h1=>CK ?_)
 ·refine an ?_
  exact CR (ay.cU 4 5 Z Z Z ae.nil.ar ⟨by rw[a6,if_neg yd],Z⟩)
 ·rcases hp with hp | ⟨k,m,h2,h3,h4,h5⟩
  ·omega
  obtain⟨mb,mo,hma,ra,rc⟩:=aI.rd (X:=⟨Tryz.prog,tab,ah,24,Fr,w⟩) h h4
  subst hma
  refine jA ?_
  refine VG (VI (a_ k Z Z Z Z Z h2 h3) ?_)
  refine jA ?_
  refine VG (VO.load Z Z (rc _ _ 1 _ Z Z) ?_)
  refine an ?_
  exact CR (ay.cU 4 5 Z Z Z ae.nil.ar ⟨by rw[a6,if_pos ⟨hc,by omega⟩,h2,Zp,h4];rfl,Z⟩)
end
end Ch
namespace Cl
open Go Vg Api Ch
def wC(k:Int):Bool:=decide (k=2)||decide (k=4)
def OK(o:e8):Bs:=fO o.kind++ow (sB o.key)++(if wC o.kind then ow (sB o.value) else [])++(if o.kind=4 then fO o.version else [])
def VZ(c:dL):Bs:=fO c.al++fO c.ms.length++c.ms.flatMap (fun m=>fO m.1++fO m.2)++fO c.drain
def s_(n:Int):Bool:=decide (0≤n∧n≤1099511627776)
def iR(k:Int):List Nat:=
 if k=1 then [1,2,3,4,5,6] else if k=2 then [2,3,4] else if k=3 then [1,2,3,4,15] else if k=4∨k=12 then [1] else if k=5 then [1,26,27,28]
 else if k=6∨k=9∨k=10∨k=11 then [1,26] else []
def lY(f:aa):Nat→Int
 | 1=>f.al | 2=>f.aj | 3=>f.seq | 4=>f.cn | 5=>f.cls | 6=>f.deadline | 15=>f.reason | 26=>f.index | 27=>f.s8 | 28=>f.cK | _=>0
def F8(f:aa)(o:Nat)(n:Int):aa:=match o with
 | 1=>{ f with al:=n } | 2=>{ f with aj:=n } | 3=>{ f with seq:=n } | 4=>{ f with cn:=n } | 5=>{ f with cls:=n } | 6=>{ f with deadline:=n }
 | 15=>{ f with reason:=n } | 26=>{ f with index:=n } | 27=>{ f with s8:=n } | 28=>{ f with cK:=n } | _=>f
def qX(o:Nat):Bool:=decide (o∈[1,2,3,4,5,6,15,26,27,28])
theorem zg(k:Int):∀o∈iR k,qX o=true:=by
 unfold iR
 repeat' split
 all_goals decide
theorem uw(k:Int):(iR k).length≤6:=by
 unfold iR
 repeat' split
 all_goals decide
def zh(f:aa)(ms:List bG):Bool:=
 if f.kind=1 then decide (aZ f.op=0)
 else if f.kind=2 then decide (1≤f.res.code)&&decide (f.res.code≤3)&&decide (f.res.value.size≤64)&&(s_ f.res.version&&s_ f.res.at_)
 else if f.kind=4 then (s_ f.entry.index&&(s_ f.entry.aj&&s_ f.entry.seq))&&decide (aZ f.entry.op=0)
 else if f.kind=8 then decide (se ⟨f.bU,ms,f.drain⟩=0)
 else true
def pK(f:aa)(ms:List bG):Bool:=decide (1≤f.kind∧f.kind≤12)&&((iR f.kind).all (fun o=>s_ (lY f o))&&zh f ms)
def Dw(f:aa)(ms:List bG):Bs:=
 if f.kind=1 then OK f.op
 else if f.kind=2 then fO f.res.code++ow (sB f.res.value)++fO f.res.version++fO f.res.at_
 else if f.kind=4 then fO f.entry.index++fO f.entry.aj++fO f.entry.seq++OK f.entry.op
 else if f.kind=8 then VZ ⟨f.bU,ms,f.drain⟩
 else []
def F9(f:aa)(ms:List bG):Bs:=(fO f.kind++(iR f.kind).flatMap (fun o=>fO (lY f o)))++Dw f ms
def Ba(f:aa)(ms:List bG):Option Bs:=if pK f ms=true then (if 512<(F9 f ms).length then none else some (F9 f ms)) else none
def fQ:Nat→Bs→Option (List Int×Bs)
 | 0,s=>some ([],s)
 | k+1,s=>match aW s with
  | none=>none
  | some (n,r)=>match fQ k r with
   | none=>none
   | some (l,r)=>some (n::l,r)
def Bb(s:Bs):Option e8:=match aW s with
 | none=>none
 | some (k,r)=>match lV r with
  | none=>none
  | some (key,r)=>match (if wC k then lV r else some ([],r)) with
   | none=>none
   | some (val,r)=>match (if k=4 then aW r else some (0,r)) with
    | none=>none
    | some (ver,r)=>if r=[]∧aZ ⟨k,bT key,bT val,ver⟩=0 then some ⟨k,bT key,bT val,ver⟩ else none
def lD:List Int→List bG
 | a::b::l=>(a,b)::lD l
 | _=>[]
def iC(s:Bs):Option dL:=match aW s with
 | none=>none
 | some (ep,r)=>match aW r with
  | none=>none
  | some (sz,r)=>if sz<1∨6<sz then none else match fQ (2*sz.toNat) r with
   | none=>none
   | some (l,r)=>match aW r with
    | none=>none
    | some (dr,r)=>if r=[]∧se ⟨ep,lD l,dr⟩=0 then some ⟨ep,lD l,dr⟩ else none
def ux(f:aa):List Nat→List Int→aa
 | o::os,n::ns=>ux (F8 f o n) os ns
 | _,_=>f
def qY(f:aa)(s:Bs):Option (aa×List bG):=
 if f.kind=1 then match Bb s with
  | none=>none
  | some o=>some ({ f with op:=o },[])
 else if f.kind=2 then match aW s with
  | none=>none
  | some (code,r)=>match lV r with
   | none=>none
   | some (val,r)=>match aW r with
    | none=>none
    | some (ver,r)=>match aW r with
     | none=>none
     | some (at_,r)=>if r=[] then some ({ f with res:=⟨code,bT val,ver,at_⟩ },[]) else none
 else if f.kind=4 then match aW s with
  | none=>none
  | some (i,r)=>match aW r with
   | none=>none
   | some (c,r)=>match aW r with
    | none=>none
    | some (q,r)=>match Bb r with
     | none=>none
     | some o=>some ({ f with entry:=⟨i,c,q,o⟩ },[])
 else if f.kind=8 then match iC s with
  | none=>none
  | some c=>some ({ f with bU:=c.al,drain:=c.drain },c.ms)
 else if s=[] then some (f,[]) else none
def getM(s:Bs):Option (aa×List bG):=if 512<s.length then none else match aW s with
 | none=>none
 | some (k,r)=>match fQ (iR k).length r with
  | none=>none
  | some (l,r)=>match qY (ux { aa.zero with kind:=k } (iR k) l) r with
   | none=>none
   | some (f,ms)=>if pK f ms=true then some (f,ms) else none
end Cl
namespace Win
open Go Vg T Api
attribute [local irreducible] VO VC VA
structure cD where
 cap:Int
 last:Int
 done:Int
 dp:Int
 gJ:Int
def cD.cells(W:cD):List Value:=[.int .i64 W.cap,.int .i64 W.last,.int .i64 W.done,.int .i64 W.dp,.int .i64 W.gJ]
abbrev V0:TypeId:=178
def bO(p:Nat)(W:cD):HP:=pt p W.cells V0
structure cD.Ok(W:cD):Prop where
 eS:1≤W.cap
 gR:W.cap≤16
 jL:0≤W.done
 jM:W.done≤W.last
 gS:W.last≤4096
 fY:0≤W.dp
 Bc:W.dp≤W.last
 Dx:0≤W.gJ
 Dy:W.gJ≤4112
section
variable {p:Nat} {W:cD}
theorem bj(h:eQ Fr w p W.cells)(hc:1≤W.cap):aH Tryz.prog 127 [.pointer (some ⟨p,0,none⟩)] Fr w [] (fun v L=>v=.bool false∧L=[]):=by
 refine TF 12 Tryz.func127 Z yn ah Z Z ?_
 refine an ?_
 refine VG (VO.split 5 rfl rfl (fun h=>by cases h) (fun _=>?_))
 refine EW ?_
 exact CR (ay.bool 2 Z Z ye ER ⟨rfl,Z⟩)
theorem fF(h:eQ Fr w p W.cells)(hc:1≤W.cap):aH Tryz.prog 177 [.pointer (some ⟨p,0,none⟩)] Fr w [] (fun v L=>v=.int .i64 W.last∧L=[]):=by
 refine TF 9 Tryz.func177 Z yn ah Z Z ?_
 refine an ?_
 refine Ux ?_
 refine w7 ?_
 refine EW ?_
 exact QX
theorem pq(h:eQ Fr w p W.cells)(hc:1≤W.cap):aH Tryz.prog 75 [.pointer (some ⟨p,0,none⟩)] Fr w [] (fun v L=>v=.int .i64 W.done∧L=[]):=by
 refine TF 9 Tryz.func75 Z yn ah Z Z ?_
 refine an ?_
 refine Ux ?_
 refine w7 ?_
 refine EW ?_
 exact QX
theorem mU(h:eQ Fr w p W.cells)(ok:W.Ok):aH Tryz.prog 163 [.pointer (some ⟨p,0,none⟩)] Fr w [] (fun v L=>v=.int .i64 (W.done+W.cap)∧L=[]):=by
 have o1:=ok.eS;have o2:=ok.gR;have o3:=ok.jL;have o4:=ok.jM;have o5:=ok.gS
 refine TF 14 Tryz.func163 Z yn ah Z Z ?_
 refine an ?_
 refine VG (VV (fun Fr w hF hs _=>bj Fr w (h.of hF hs) o1) Z ?_)
 refine w7 ?_
 refine CS (CD (ts 0 10 .nil) yn yr ?_)
 refine JZ ?_
 refine HI ?_
 refine eT ?_
 exact QX
theorem free_spec(h:eQ Fr w p W.cells)(ok:W.Ok):aH Tryz.prog 100 [.pointer (some ⟨p,0,none⟩)] Fr w [] (fun v L=>v=.int .i64 (max (min (W.done+W.cap) 4096-W.last) 0)∧L=[]):=by
 have o1:=ok.eS;have o2:=ok.gR;have o3:=ok.jL;have o4:=ok.jM;have o5:=ok.gS
 refine TF 14 Tryz.func100 Z yn ah Z Z ?_
 refine an ?_
 refine VG (VV (fun Fr w hF hs _=>bj Fr w (h.of hF hs) o1) Z ?_)
 refine w7 ?_
 refine CS (CD (.take 0 (ts 3 4 (.only 1 (.take 2 (ts 7 3 .nil))))) yn yr ?_)
 refine JZ ?_
 refine AG (AR (fun Fr w hF hs hS=>mU Fr w (h.of hF hs) ok) Z Z (by(try refine Pd.st ?_);(repeat(first|exact Pd.nil|exact Pd.fnil|refine Pd.inner ?_|refine Pd.skip yr ?_|refine zf (aE.aP (aE.aP h Z) Z) ?_|refine zf ((aE.aP h Z)) ?_|refine zc (aE.aP (aE.aP h Z) Z) ?_|refine zc ((aE.aP h Z)) ?_))) ?_)
 refine JZ ?_
 refine AG (VA.A1 Z Z Z (by split<;>omega) (by split<;>omega) ?_)
 refine eT ?_
 exact CR (ay.int 2 Z Z (by simp only[Int.min_def,Int.max_def];repeat' split<;>omega) ER ⟨rfl,Z⟩)
def cD.room(W:cD):Bool:=decide (W.last<W.done+W.cap)&&decide (W.last<4096)
theorem jc(ok:W.Ok)(hr:W.room=true):aH Tryz.prog 168 [.pointer (some ⟨p,0,none⟩)] Fr w [bO p W] (fun v L=>v=.bool true∧L=[bO p { W with last:=W.last+1 }]):=by
 have o1:=ok.eS;have o2:=ok.gR;have o3:=ok.jL;have o4:=ok.jM;have o5:=ok.gS
 have hr1:W.last<W.done+W.cap∧W.last<4096:=by simpa[cD.room] using hr
 refine TF 13 Tryz.func168 Z yn ah Z Z ?_
 unfold bO
 refine an ?_
 refine VG (VV (fun Fr w hF hs hS=>free_spec Fr w (hS.aP 0 Z) ok) Z ?_)
 refine an ?_
 refine CC (t:=false) (by simp only[Vg.ev,Vg.look];simp[Int.min_def,Int.max_def];split<;>constructor<;>omega) (fun hh=>by cases hh) (fun _=>CK ?_)
 refine Ov ?_
 refine VG (VO.st 0 (cs':=({ W with last:=W.last+1 }:cD).cells) Z Z Z Z (Zo Z) Z Z ?_)
 refine an ?_
 exact QY
def cD.tO(W:cD)(i:Int):Bool:=decide (W.done<i)&&decide (i≤W.last)
def cD.Df(W:cD)(i:Int):cD:=if W.tO i then { W with done:=i } else W
theorem qZ(ok:W.Ok)(i:Int):aH Tryz.prog 238 [.pointer (some ⟨p,0,none⟩),.int .i64 i] Fr w [bO p W] (fun v L=>v=.bool (W.tO i)∧L=[bO p (W.Df i)]):=by
 have o1:=ok.eS
 refine TF 27 Tryz.func238 Z yn ah Z Z ?_
 unfold bO
 refine an ?_
 refine Tq ?_
 refine an ?_
 refine VG (VY 7 false Z Z ?_)
 refine eP ?_
 by_cases h1:i≤W.done
 ·have hb:W.tO i=false:=by simp[cD.tO];omega
  refine VG (VY 15 true Z (DT h1) ?_)
  refine Dh ?_
  exact Uy
 ·refine VG (VY 15 false Z (DF h1) ?_)
  refine eP ?_
  refine CP Z (fun h2=>?_) (fun h2=>CK ?_)
  ·have hb:W.tO i=false:=by simp[cD.tO];omega
   refine an ?_
   exact Uy
  ·have hb:W.tO i=true:=by simp[cD.tO];omega
   refine an ?_
   refine VG (VO.st 0 (cs':=({ W with done:=i }:cD).cells) Z Z Z Z (Zo Z) Z Z ?_)
   refine an ?_
   exact Uy
theorem Dz(ok:W.Ok)(g:Int):aH Tryz.prog 258 [.pointer (some ⟨p,0,none⟩),.int .i64 g] Fr w [bO p W] (fun v L=>v=.tuple #[]∧L=[bO p { W with gJ:=max W.gJ (min g 4112) }]):=by
 have o1:=ok.eS
 refine TF 16 Tryz.func258 Z yn ah Z Z ?_
 unfold bO
 refine an ?_
 refine Tq ?_
 refine J3 ?_
 refine VG (VO.st 0 (cs':=({ W with gJ:=if W.gJ<(if 4112<g then 4112 else g) then (if 4112<g then 4112 else g) else W.gJ }:cD).cells) Z Z Z Z (Zo Z) Z Z ?_)
 refine an ?_
 exact ay.void Z ER ⟨rfl,by rw[show max W.gJ (min g 4112)=(if W.gJ<(if 4112<g then 4112 else g) then (if 4112<g then 4112 else g) else W.gJ) by split<;>split<;>omega];rfl⟩
theorem xj(ok:W.Ok)(g:Int):aH Tryz.prog 175 [.pointer (some ⟨p,0,none⟩),.int .i64 g] Fr w [bO p W] (fun v L=>v=.tuple #[]∧L=[bO p { W with dp:=min (max g 0) W.last }]):=by
 have o1:=ok.eS
 refine TF 16 Tryz.func175 Z yn ah Z Z ?_
 unfold bO
 refine an ?_
 refine Tq ?_
 refine J3 ?_
 refine VG (VO.st 0 (cs':=({ W with dp:=if W.last<(if g<0 then 0 else g) then W.last else (if g<0 then 0 else g) }:cD).cells) Z Z Z Z (Zo Z) Z Z ?_)
 refine an ?_
 exact ay.void Z ER ⟨rfl,by rw[show min (max g 0) W.last=(if W.last<(if g<0 then 0 else g) then W.last else (if g<0 then 0 else g)) by split<;>split<;>omega];rfl⟩
theorem DA(ok:W.Ok):aH Tryz.prog 256 [.pointer (some ⟨p,0,none⟩)] Fr w [bO p W] (fun v L=>v=.tuple #[]∧L=[bO p { W with dp:=W.last,gJ:=0 }]):=by
 have o1:=ok.eS
 refine TF 14 Tryz.func256 Z yn ah Z Z ?_
 unfold bO
 refine an ?_
 refine Tq ?_
 refine J3 ?_
 refine VG (VO.st 0 (cs':=({ W with dp:=W.last }:cD).cells) Z Z Z Z (Zo Z) Z Z ?_)
 refine an ?_
 refine VG (VO.st 0 (cs':=({ W with dp:=W.last,gJ:=0 }:cD).cells) Z Z Z Z (Zo Z) Z Z ?_)
 refine an ?_
 exact O6
def cD.ei(W:cD):Bool:=decide (W.dp<W.last)&&decide (W.dp<W.gJ)
def cD.next(W:cD):cD:=if W.ei then { W with dp:=W.dp+1 } else W
theorem gz(ok:W.Ok):aH Tryz.prog 171 [.pointer (some ⟨p,0,none⟩)] Fr w [bO p W] (fun v L=>v=.tuple #[.int .i64 (if W.ei then W.dp+1 else 0),.bool W.ei]∧L=[bO p W.next]):=by
 have o1:=ok.eS;have o2:=ok.fY;have o3:=ok.Bc;have o4:=ok.gS
 refine TF 39 Tryz.func171 Z yn ah Z Z ?_
 unfold bO
 refine Dc ?_
 refine CS (CS (CD (.take 0 (.only 1 (ts 2 22 .nil))) yn yr ?_))
 refine eT ?_
 refine AG (AR (fun Fr w hF hs hS=>bj Fr w (hS.aP 0 Z) o1) Z Z yu ?_)
 refine eT ?_
 refine AG (AY 6 false Z Z ?_)
 refine lS ?_
 by_cases h1:W.last≤W.dp
 ·have hb:W.ei=false:=by simp[cD.ei];omega
  refine AG (AY 17 true Z (DT h1) ?_)
  refine lS ?_
  refine Ow ?_
  exact Uz
 ·refine AG (AY 17 false Z (DF h1) ?_)
  refine lS ?_
  refine CP Z (fun h2=>?_) (fun h2=>CK ?_)
  ·have hb:W.ei=false:=by simp[cD.ei];omega
   refine an ?_
   exact Uz
  ·have hb:W.ei=true:=by simp[cD.ei];omega
   refine Ov ?_
   refine VG (VO.st 0 (cs':=({ W with dp:=W.dp+1 }:cD).cells) Z Z Z Z (Zo Z) Z Z ?_)
   refine an ?_
   exact Uz
theorem lZ(h:eQ Fr w p W.cells)(hc:1≤W.cap):aH Tryz.prog 126 [.pointer (some ⟨p,0,none⟩)] Fr w [] (fun v L=>∃q,v=.pointer (some ⟨q,0,none⟩)∧L=[bO q W]):=by
 refine TF 9 Tryz.func126 Z yn ah Z Z ?_
 refine an ?_
 refine Ux ?_
 refine J3 ?_
 refine VG (VO.load Z Z (aE.lB (ds:=W.cells) h Z) ?_)
 refine VG (VO.alloc Z fun q=>?_)
 refine VG (VT (vs:=W.cells) 0 Z Z Z Z (NR _) Z Z Z ?_)
 exact VH
end
def cD.new(cap:Int):cD:=⟨cap,0,0,0,0⟩
theorem dH{c:Int}(h0:1≤c)(h1:c≤16):aH Tryz.prog 49 [.int .i64 c,.int .i64 0,.int .i64 0] Fr w [] (fun v L=>∃q,v=.tuple #[.pointer (some ⟨q,0,none⟩),.int .i64 0]∧L=[bO q (cD.new c)]):=by
 refine TF 33 Tryz.func49 Z yn ah Z Z ?_
 refine an ?_
 refine VG (VY 10 false Z (DF yd) ?_)
 refine eP ?_
 refine VG (VY 14 false Z (DF yd) ?_)
 refine eP ?_
 refine VG (VY 18 false Z Z ?_)
 refine eP ?_
 refine VG (VY 23 false Z Z ?_)
 refine J4 ?_
 refine an ?_
 refine VG (VI (LB (pv:=[(0,.int .i64 c),(1,.int .i64 0),(2,.int .i64 0),(3,.int .i64 0)]) (cD.new c).cells Z Z Z yn Z) ?_)
 refine VG (VB (vs:=(cD.new c).cells) Z fun q=>?_)
 refine an ?_
 exact CR (ay.cU 6 7 Z Z Z ER ⟨q,Z,Z⟩)
theorem cD.uo{c:Int}(h0:1≤c)(h1:c≤16):(cD.new c).Ok:=⟨h0,h1,Zz _,Zz _,(by decide:(0:Int)≤4096),Zz _,Zz _,Zz _,(by decide:(0:Int)≤4112)⟩
end Win
namespace Kv
open Go Vg T Api
attribute [local irreducible] VO VC VA
abbrev Bd:=List (ByteArray×(ByteArray×Int))
def kY(x:ByteArray×Int):Value:=.agg ([.string x.1,.int .i64 x.2]:List Value).toArray
def bn(r:jC):List Value:=[.int .i64 r.code,.string r.value,.int .i64 r.version,.int .i64 r.at_]
def cO:ByteArray:=⟨#[]⟩
def cY:jC:=⟨0,cO,0,0⟩
def tU(p:Nat)(S:Bd):HP:=hex fun b:Nat=>cT [pt p [.map (some b)] 249,gL mR kY b S]
theorem HY{Fr:Nat→Prop}{w:World}{p:Nat}{S:Bd}(h:aL Fr [tU p S] w):∃b,eQ Fr w p [.map (some b)]∧ou Fr w mR kY b S:=by
 obtain⟨b,hb⟩:=h.ex
 have hs:=hb.sep
 exact⟨b,hs.aP 0 Z,hs.Dt 1 Z⟩
theorem aV.kv(p:Nat)(S:Bd):aV (ι:=Nat) (tU p S) (fun _=>True) (fun b=>[pt p [.map (some b)] 249,gL mR kY b S]):=fun w ids ⟨b,h⟩ hn=>⟨b,trivial,ids,h,hn,fun _ h=>h⟩
theorem ae.kv{L M:List HP}{p b:Nat}{S:Bd}(h:ae L (pt p [.map (some b)] 249::gL mR kY b S::M)):ae L (tU p S::M):=
 ae.ex (f:=fun b:Nat=>cT [pt p [.map (some b)] 249,gL mR kY b S]) b (ae.sep (Ls:=[pt p [.map (some b)] 249,gL mR kY b S]) h)
theorem aL.kv{Fr:Nat→Prop}{L:List HP}{w:World}{p b:Nat}{S:Bd}(h:aL Fr L w)(i j:Nat)(hi:L[i]?=some (pt p [.map (some b)] 249))(hj:L[j]?=some (gL mR kY b S)):aL Fr [tU p S] w:=by
 obtain⟨F,hs,hf⟩:=h
 obtain⟨ids1,s1,m1⟩:=hs.get hi
 obtain⟨ids2,s2,m2⟩:=hs.get hj
 refine⟨ids1++ids2,⟨ids1++ids2,[],by simp,⟨b,ids1,ids2,Z,s1,ids2,[],by simp,s2,Z⟩,Z⟩,fun c hc=>?_⟩
 rcases Zq.1 hc with hc | hc
 ·exact hf c (m1 c hc)
 ·exact hf c (m2 c hc)
theorem MU:iB Tryz.prog 9 mR:=iB.string Tryz.underlying9
def iD(S:Bd)(k:ByteArray)(at_:Int):jC:=match dP S k with
 | none=>⟨2,cO,0,at_⟩
 | some (v,n)=>⟨1,v,n,at_⟩
def dQ(S:Bd)(i:Int)(o:e8):Bd×jC:=
 if i<1∨4096<i∨aZ o≠0 then (S,cY)
 else if o.kind=1 then (S,iD S o.key i)
 else if o.kind=3 then match dP S o.key with
  | none=>(S,⟨2,cO,0,i⟩)
  | some _=>(iA S o.key,⟨1,cO,0,i⟩)
 else if o.kind=4∧((dP S o.key).getD (cO,0)).2≠o.version then (S,⟨3,((dP S o.key).getD (cO,0)).1,((dP S o.key).getD (cO,0)).2,i⟩)
 else (eE S o.key (o.value,i),⟨1,cO,i,i⟩)
theorem ku(o:e8):aH Tryz.prog 189 [.agg o.cells.toArray] Fr w [] (fun v L=>v=.bool (decide (o.kind=1)&&decide (aZ o=0))∧L=[]):=by
 refine TF 11 Tryz.func189 Z yn ah Z Z ?_
 refine CS (CG (VG (VB (vs:=o.cells) Z (fun b=>VG (VN ?_)))))
 refine an ?_
 refine VG (VO.split 6 Z Z (fun h1=>?_) (fun h1=>?_))
 ·have h1:o.kind=1:=eq_of_beq h1
  refine VG (VL 0 o.cells Z Z Z Z ?_)
  refine UA ?_
  refine an ?_
  exact CR (ay.bool 2 Z Z (by simp[h1];rfl) ae.nil.ar ⟨rfl,Z⟩)
 ·have h1:o.kind≠1:=ne_of_beq_false h1
  refine an ?_
  exact CR (ay.bool 2 Z Z yg ae.nil.ar ⟨rfl,Z⟩)
theorem dH:aH Tryz.prog 82 [] Fr w [] (fun v L=>∃p,v=.pointer (some ⟨p,0,none⟩)∧L=[tU p []]):=by
 refine TF 4 Tryz.func82 Z yn ah Z Z ?_
 refine an ?_
 refine VG (VO.OI (a8.makeMap mR kY) ?_)
 rintro _ _ ⟨b,rfl,rfl⟩
 refine an ?_
 refine VG (VI (LB (pv:=[(0,.map (some b))]) [.map (some b)] Z Z Z yn Z) ?_)
 refine VG (VB (vs:=[.map (some b)]) Z fun p=>?_)
 refine an ?_
 exact CR (ay.tmp 0 Z Z (ae.kv ae.refl).ar ⟨p,Z,Z⟩)
theorem bj{p:Nat}{S:Bd}(h:aL Fr [tU p S] w):aH Tryz.prog 262 [.pointer (some ⟨p,0,none⟩)] Fr w [] (fun v L=>v=.bool false∧L=[]):=by
 obtain⟨b,hp,hm⟩:=HY h
 refine TF 12 Tryz.func262 Z yn ah Z Z ?_
 refine Tr ?_
 refine Rs ?_
 refine Tr ?_
 refine VG (VI (qR Tryz.underlying247 Z Z) ?_)
 refine an ?_
 exact EX
theorem pr{p:Nat}{S:Bd}(h:aL Fr [tU p S] w)(k:ByteArray)(n:Int):
  aH Tryz.prog 281 [.pointer (some ⟨p,0,none⟩),.string k,.int .i64 n] Fr w [] (fun v L=>v=.agg (bn (iD S k n)).toArray∧L=[]):=by
 obtain⟨b,hp,hm⟩:=HY h
 refine TF 31 Tryz.func281 Z yn ah Z Z ?_
 refine an ?_
 refine VG (VO.alloc Z fun r=>?_)
 refine an ?_
 refine UB ?_
 refine w7 ?_
 refine Tr ?_
 refine VG (VO.wo (a8.lookup MU Tryz.underlying247 Z Z (a:=k) Z (pJ.aP hm)) ?_)
 cases hg:dP S k with
 | none=>
  refine an ?_
  refine VG (VO.alloc Z fun q=>?_)
  refine VG (VT (vs:=[.string cO,.int .i64 0]) 0 Z Z Z Z (NR _) Z Z Z ?_)
  refine J5 ?_
  refine VG (VI (LB (pv:=[(0,.int .i64 2),(3,.int .i64 n)]) (bn ⟨2,cO,0,n⟩) Z Z Z yn Z) ?_)
  refine VG (VT (vs:=bn ⟨2,cO,0,n⟩) 1 Z Z Z Z (NR _) Z Z Z ?_)
  refine an ?_
  exact CR (ay.cell 6 Z Z Z (aE.many (ds:=bn ⟨2,cO,0,n⟩) 1 Z Z) ae.nil.ar ⟨by rw[iD,hg],Z⟩)
 | some x=>
  obtain⟨v,m⟩:=x
  refine an ?_
  refine VG (VO.alloc Z fun q=>?_)
  refine VG (VT (vs:=[.string v,.int .i64 m]) 0 Z Z Z Z (NR _) Z Z Z ?_)
  refine J3 ?_
  refine VG (VI (LB (pv:=[(0,.int .i64 1),(1,.string v),(2,.int .i64 m),(3,.int .i64 n)]) (bn ⟨1,v,m,n⟩) Z Z Z yn Z) ?_)
  refine VG (VT (vs:=bn ⟨1,v,m,n⟩) 1 Z Z Z Z (NR _) Z Z Z ?_)
  refine an ?_
  exact CR (ay.cell 6 Z Z Z (aE.many (ds:=bn ⟨1,v,m,n⟩) 1 Z Z) ae.nil.ar ⟨by rw[iD,hg],Z⟩)
theorem DB(p:Nat)(S:Bd)(i:Int)(o:e8):
  aH Tryz.prog 233 [.pointer (some ⟨p,0,none⟩),.int .i64 i,.agg o.cells.toArray] Fr w [tU p S] (fun v L=>v=.agg (bn (dQ S i o).2).toArray∧L=[tU p (dQ S i o).1]):=by
 refine TF 96 Tryz.func233 Z yn ah Z Z ?_
 refine an ?_
 refine VG (VB (vs:=o.cells) Z fun ob=>?_)
 refine VG (VO.alloc Z fun r=>?_)
 refine VG (VN (CS ?_))
 refine VC.meet (σ:=Bool) (fun t=>[(0,pV p),(1,.int .i64 i),(5,pV ob),(6,pV r),(23,.bool t)]) (fun _=>[pt r (bn cY) 153,pt ob o.cells 31,tU p S]) (fun t=>t=true↔(i<1∨4096<i∨aZ o≠0)) ?_ ?_
 ·refine CG ?_
  refine an ?_
  refine VG (VV (fun Fr w hF hs hS=>bj Fr w (hS.at_ 2 Z)) Z ?_)
  refine an ?_
  refine VG (VY 11 false Z Z ?_)
  refine an ?_
  refine VG (VO.split 15 Z Z (fun h1=>?_) (fun h1=>?_))
  ·have h1:=of_decide_eq_true h1
   refine an ?_
   refine VG (VY 19 true Z Z ?_)
   refine VG (VN ⟨true,by simp[h1],bd,ER⟩)
  have h1:=of_decide_eq_false h1
  refine an ?_
  refine VG (VO.split 19 Z Z (fun h2=>?_) (fun h2=>?_))
  ·have h2:=of_decide_eq_true h2
   refine an ?_
   exact⟨true,by simp[h2],bd,ER⟩
  have h2:=of_decide_eq_false h2
  refine VG (VL 1 o.cells Z Z Z Z ?_)
  refine UA ?_
  refine an ?_
  exact⟨_,by simp[h1,h2],SC Z (SC Z (SC Z (SC Z (SC Z (SN _))))),ER⟩
 intro t ht
 refine CC Z (fun h=>?_) (fun h=>CK ?_)
 ·have hb:=ht.1 h
  have e1:dQ S i o=(S,cY):=by rw[dQ,if_pos hb]
  refine Q7 ?_
  refine UC ?_
  refine an ?_
  exact CR (ay.cell 6 Z Z Z (aE.many (ds:=bn cY) 0 Z Z) (IP 2 Z ae.nil).ar ⟨by rw[e1],by rw[e1]⟩)
 have hb:¬(i<1∨4096<i∨aZ o≠0):=fun h'=>by rw[ht.2 h'] at h;cases h
 refine VC.e7 2 Z (aV.kv p S) ?_
 intro b _
 generalize hx:(dP S o.key).getD (cO,0)=x
 refine VC.meet (σ:=Nat) (fun q=>[(0,pV p),(1,.int .i64 i),(5,pV ob),(6,pV r),(7,pV q),(8,.bool (dP S o.key).isSome)])
  (fun q=>[pt q [.string x.1,.int .i64 x.2] 361,pt p [.map (some b)] 249,gL mR kY b S,pt r (bn cY) 153,pt ob o.cells 31]) (fun _=>True) ?_ ?_
 ·refine CD (ts 0 10 (.only 10 (.only 11 (.take 12 .nil)))) yn yr ?_
  refine tM ?_
  refine AG (VA.lookup MU Tryz.underlying247 Z Z Z (a:=o.key) Z (pJ.one 1 Z) ?_)
  have hv:((dP S o.key).map kY).getD T.t361.zero=kY x:=by rw[←hx];cases dP S o.key<;>rfl
  rw[hv]
  refine tM ?_
  refine AG (AO (a8.alloc Z) Z ?_ ?_)
  ·rintro v L' ⟨q,rfl,rfl⟩
   exact yv
  rintro v L' ⟨q,rfl,rfl⟩
  refine AG (AT (vs:=[.string x.1,.int .i64 x.2]) 0 Z Z Z Z Z (NR _) Z Z Z yv ?_)
  refine tM ?_
  exact⟨q,trivial,bd,ER⟩
 intro q _
 have hres:∀(R:jC) {e:Env} {M:List HP} {S':Bd},Vg.look e 6=some (.pointer (some ⟨r,0,none⟩))→dQ S i o=(S',R)→ae M (pt p [.map (some b)] 249::gL mR kY b S' :: [])→M[3]?=some (pt r (bn R) 153) →
   ay ⟨Tryz.prog,tab,ah,96,Fr,w⟩ Tryz.f233 (fun v L=>v=.agg (bn (dQ S i o).2).toArray∧L=[tU p (dQ S i o).1]) e M:=by
  intro R e M S' h6 hk hi hM
  exact ay.cell 6 Z h6 Z (aE.many (ds:=bn R) 3 hM Z) (ae.kv hi).ar ⟨by rw[hk],by rw[hk]⟩
 refine VC.meet (σ:=Unit) (fun _=>[(0,pV p),(1,.int .i64 i),(5,pV ob),(6,pV r)]) (fun _=>[pt q [.string x.1,.int .i64 x.2] 361,pt p [.map (some b)] 249,gL mR kY b S,pt r (bn cY) 153,pt ob o.cells 31]) (fun _=>o.kind≠1∧o.kind≠3∧¬(o.kind=4∧x.2≠o.version)) (VC.block ?_) ?_
 case refine_2=>
  rintro _ ⟨h1,h2,h3⟩
  refine UD ?_
  refine J0 ?_
  refine AG (AI Z (LB (pv:=[(0,.string o.value),(1,.int .i64 i)]) [.string o.value,.int .i64 i] Z Z Z yn Z) ?_)
  refine AG (AO (a8.mapUpdate (d:=kY) (u:=(o.value,i)) 2 MU Tryz.underlying247 (a:=o.key) Z Z Z Z) Z ?_ ?_)
  ·rintro v L' ⟨rfl,rfl⟩
   exact yv
  rintro v L' ⟨rfl,rfl⟩
  refine AG (AN ?_)
  refine an ?_
  refine VG (VI (LB (pv:=[(0,.int .i64 1),(2,.int .i64 i),(3,.int .i64 i)]) (bn ⟨1,cO,i,i⟩) Z Z Z yn Z) ?_)
  refine VG (VT (vs:=bn ⟨1,cO,i,i⟩) 3 Z Z Z Z (NR _) Z Z Z ?_)
  refine an ?_
  exact CR (hres ⟨1,cO,i,i⟩ Z (by rw[dQ,if_neg hb,if_neg h1,if_neg h2,hx,if_neg h3]) (dG [1,1]) Z)
 refine Dd ?_
 refine CE Z (fun h1=>?_) (fun h1=>?_)
 ·refine Dd ?_
  refine VG (VV (fun Fr w hF hs hS=>pr Fr w (aL.kv hS 1 2 Z Z) o.key i) Z ?_)
  refine VG (VT (vs:=bn (iD S o.key i)) 3 Z Z Z Z (NR _) Z Z Z ?_)
  refine an ?_
  exact CR (hres (iD S o.key i) Z (by rw[dQ,if_neg hb,if_pos h1]) (dG [1,1]) Z)
 ·refine Dd ?_
  refine VG (VO.split 48 Z Z (fun h2=>?_) (fun h2=>?_))
  ·have h2:o.kind=3:=eq_of_beq h2
   refine Dd ?_
   cases hg:dP S o.key with
   | none=>
    refine Ow ?_
    refine VG (VI (LB (pv:=[(0,.int .i64 2),(3,.int .i64 i)]) (bn ⟨2,cO,0,i⟩) Z Z Z yn Z) ?_)
    refine VG (VT (vs:=bn ⟨2,cO,0,i⟩) 3 Z Z Z Z (NR _) Z Z Z ?_)
    refine an ?_
    exact CR (hres ⟨2,cO,0,i⟩ Z yw (dG [1,1]) Z)
   | some y=>
    refine HF ?_
    refine Dd ?_
    refine CC Z (fun _=>?_) (fun h=>absurd h2 (ne_of_beq_false h))
    refine Ts ?_
    refine J0 ?_
    refine AG (AO (a8.delete 2 MU Tryz.underlying247 (a:=o.key) Z Z Z) Z ?_ ?_)
    ·rintro v L' ⟨rfl,rfl⟩
     exact yv
    rintro v L' ⟨rfl,rfl⟩
    refine AG (AN ?_)
    refine an ?_
    refine VG (VI (LB (pv:=[(0,.int .i64 1),(3,.int .i64 i)]) (bn ⟨1,cO,0,i⟩) Z Z Z yn Z) ?_)
    refine VG (VT (vs:=bn ⟨1,cO,0,i⟩) 3 Z Z Z Z (NR _) Z Z Z ?_)
    refine an ?_
    exact CR (hres ⟨1,cO,0,i⟩ Z yw (dG [1,1]) Z)
  have h2:o.kind≠3:=ne_of_beq_false h2
  refine Dd ?_
  refine HF ?_
  refine Dd ?_
  refine CC Z (fun h=>absurd (eq_of_beq h) h2) (fun _=>?_)
  refine Dd ?_
  refine VG (VO.split 70 Z Z (fun h3=>?_) (fun h3=>?_))
  ·have h3:o.kind=4:=eq_of_beq h3
   refine Dd ?_
   refine CC Z (fun h4=>?_) (fun h4=>?_)
   ·have h4:x.2≠o.version:=by simpa using h4
    refine Dd ?_
    refine VG (VI (LB (pv:=[(0,.int .i64 3),(1,.string x.1),(2,.int .i64 x.2),(3,.int .i64 i)]) (bn ⟨3,x.1,x.2,i⟩) Z Z Z yn Z) ?_)
    refine VG (VT (vs:=bn ⟨3,x.1,x.2,i⟩) 3 Z Z Z Z (NR _) Z Z Z ?_)
    refine an ?_
    exact CR (hres ⟨3,x.1,x.2,i⟩ Z (by rw[dQ,if_neg hb,if_neg h1,if_neg h2,hx,if_pos ⟨h3,h4⟩]) (dG [1,1]) Z)
   ·have h4:x.2=o.version:=by simpa using h4
    exact CK ⟨(),⟨h1,h2,fun h=>h.2 h4⟩,bd,ER⟩
  ·have h3:o.kind≠4:=ne_of_beq_false h3
   refine Dd ?_
   exact VC.jm Z (CK ⟨(),⟨h1,h2,fun h=>h3 h.1⟩,bd,ER⟩)
end Kv
namespace Lg
open Go Vg T Api Kv
attribute [local irreducible] VO VC VA
abbrev iE:TypeId:=163
abbrev jd:TypeId:=153
abbrev Be:TypeId:=176
def cL(e:aY):List Value:=[.int .i64 e.index,.int .i64 e.aj,.int .i64 e.seq,.int .i64 e.op.kind,.string e.op.key,.string e.op.value,.int .i64 e.op.version]
theorem Bf(e:aY):(cL e).length=7:=rfl
theorem HZ(e:aY):(cL e).all Value.oneCell'=true:=rfl
theorem Bg(r:jC):(bn r).length=4:=rfl
theorem H0(r:jC):(bn r).all Value.oneCell'=true:=rfl
def lE:aY:=⟨0,0,0,F4⟩
def q9(x:Bd×List jC)(e:aY):Bd×List jC:=((dQ x.1 e.index e.op).1,x.2 ++ [(dQ x.1 e.index e.op).2])
def aO(es:List aY):Bd×List jC:=es.foldl q9 ([],[])
theorem ox(es:List aY)(e:aY):aO (es ++ [e])=q9 (aO es) e:=by simp[aO]
theorem qm(es:List aY):(aO es).2.length=es.length:=by
 have:∀(es:List aY) (x:Bd×List jC),(es.foldl q9 x).2.length=x.2.length+es.length:=by
  intro es
  induction es with
  | nil=>intro x;rfl
  | cons e es ih=>intro x;rw[List.foldl_cons,ih];simp[q9];omega
 have h:=this es ([],[])
 simpa[aO] using h
def l0(c:Int)(p:Int×Int)(e:aY):Int×Int:=if e.aj=c then (e.seq,e.index) else p
def cZ(es:List aY)(c:Int):Int×Int:=es.foldl (l0 c) (0,0)
theorem Bh(es:List aY)(e:aY)(c:Int):cZ (es ++ [e]) c=if e.aj=c then (e.seq,e.index) else cZ es c:=by simp[cZ,l0]
def gp(es:List aY):List Value:=(List.range 6).flatMap fun c=>[.int .i64 (cZ es (c:Nat)).1,.int .i64 (cZ es (c:Nat)).2]
theorem xk{es:List aY}{c:Nat}(h:c<6):(gp es)[c*2]?=some (.int .i64 (cZ es (c:Nat)).1)∧(gp es)[c*2+1]?=some (.int .i64 (cZ es (c:Nat)).2):=by
 match c,h with
 | 0,_=>exact⟨rfl,rfl⟩
 | 1,_=>exact⟨rfl,rfl⟩
 | 2,_=>exact⟨rfl,rfl⟩
 | 3,_=>exact⟨rfl,rfl⟩
 | 4,_=>exact⟨rfl,rfl⟩
 | 5,_=>exact⟨rfl,rfl⟩
 | c+6,h=>omega
structure H2 where
 sp:Nat
 a1:Option Addr
 c1:Nat
 a2:Option Addr
 c2:Nat
def ie(es:List aY)(x:H2):List Value:=.pointer (some ⟨x.sp,0,none⟩) :: .slice x.a1 es.length x.c1 :: .slice x.a2 (aO es).2.length x.c2::gp es
def Bi(p:Nat)(es:List aY)(x:H2):List HP:=[pt p (ie es x) Be,tU x.sp (aO es).1,aJ iE 7 x.a1 es.length x.c1 (flat cL es),aJ jd 4 x.a2 (aO es).2.length x.c2 (flat bn (aO es).2)]
def b9(p:Nat)(es:List aY):HP:=hex fun x=>cT (Bi p es x)
structure ta(Fr:Nat→Prop)(w:World)(p:Nat)(es:List aY)(x:H2):Prop where
 aP:eQ Fr w p (ie es x)
 kv:aL Fr [tU x.sp (aO es).1] w
 R_:aI cL 7 Fr w x.a1 es
 Sa:aI bn 4 Fr w x.a2 (aO es).2
theorem ta.of{Fr:Nat→Prop}{w:World}{p:Nat}{es:List aY}(h:aL Fr [b9 p es] w):∃x,ta Fr w p es x:=by
 obtain⟨x,h⟩:=h.ex
 have h:=h.sep
 exact⟨x,h.aP 0 Z,h.at_ 1 Z,aI.aJ Bf (h.at_ 2 Z),aI.aJ Bg (h.at_ 3 Z)⟩
theorem aV.log(p:Nat)(es:List aY):aV (ι:=H2) (b9 p es) (fun _=>True) (fun x=>Bi p es x):=fun w ids ⟨x,h⟩ hn=>⟨x,trivial,ids,h,hn,fun _ h=>h⟩
theorem ae.log{p:Nat}{es:List aY}{L M:List HP}(x:H2)(h:ae L (Bi p es x++M)):ae L (b9 p es::M):=
 ae.ex (f:=fun x=>cT (Bi p es x)) x (ae.sep (Ls:=Bi p es x) h)
theorem dH:aH Tryz.prog 48 [] Fr w [] (fun v L=>∃p,v=.pointer (some ⟨p,0,none⟩)∧L=[b9 p []]):=by
 refine TF 4 Tryz.func48 Z yn ah Z Z ?_
 refine an ?_
 refine VG (VK (Lc:=[]) (fun Fr w hF hw _=>Kv.dH Fr w) Z Z ?_)
 rintro _ _ ⟨q,rfl,rfl⟩
 refine VG (VI (LB (pv:=[(0,pV q)]) (ie [] ⟨q,none,0,none,0⟩) Z Z Z yn Z) ?_)
 refine VG (VB (vs:=ie [] ⟨q,none,0,none,0⟩) Z fun p=>?_)
 refine an ?_
 exact CR (ay.tmp 0 Z Z (ae.log ⟨q,none,0,none,0⟩ (IP 0 Z (IP 0 Z (ae.bY (ae.bY ae.nil))))).ar ⟨p,Z,Z⟩)
section
variable {p:Nat} {es:List aY}
theorem bj{q:Nat}{cs:List Value}(h:eQ Fr w p (.pointer (some ⟨q,0,none⟩)::cs)):aH Tryz.prog 164 [.pointer (some ⟨p,0,none⟩)] Fr w [] (fun v L=>v=.bool false∧L=[]):=by
 refine TF 12 Tryz.func164 Z yn ah Z Z ?_
 refine an ?_
 refine VG (VO.split 5 rfl rfl (fun h=>by cases h) (fun _=>?_))
 refine EW ?_
 exact QY
theorem fe(h:aL Fr [b9 p es] w):aH Tryz.prog 101 [.pointer (some ⟨p,0,none⟩)] Fr w [] (fun v L=>v=.int .i64 es.length∧L=[]):=by
 obtain⟨x,hx⟩:=ta.of h
 have hb:=hx.aP
 unfold ie at hb
 refine TF 10 Tryz.func101 Z yn ah Z Z ?_
 refine an ?_
 refine VG (VV (fun Fr w hF hs _=>bj Fr w (hb.of hF hs)) Z ?_)
 refine w7 ?_
 refine Db ?_
 exact QX
def pL{α:Type}(l:List α)(i:Int):Option α:=if 1≤i then l[(i-1).toNat]? else none
theorem q_{α:Type}{l:List α}{i:Int}(h:i<1∨(l.length:Int)<i):pL l i=none:=by
 unfold pL
 split
 ·exact Z4 yd
 ·rfl
theorem re{α:Type}{l:List α}{i:Int}(h0:1≤i)(h1:i≤l.length):∃(k:Nat) (x:α),i=k+1∧k<l.length∧l[k]?=some x∧pL l i=some x:=by
 refine⟨(i-1).toNat,_,by omega,by omega,GE yd,?_⟩
 rw[pL,if_pos h0,GE yd]
theorem rf(h:aL Fr [b9 p es] w)(i:Int)(hi0:-9223372036854775808<i)(hi1:i≤9223372036854775807):aH Tryz.prog 77 [.pointer (some ⟨p,0,none⟩),.int .i64 i] Fr w []
  (fun v L=>v=.tuple #[.agg (cL ((pL es i).getD lE)).toArray,.bool (pL es i).isSome]∧L=[]):=by
 obtain⟨x,hx⟩:=ta.of h
 have hb:=hx.aP
 unfold ie at hb
 refine TF 23 Tryz.func77 Z yn ah Z Z ?_
 refine CS (CG (VG (VO.alloc Z fun rb=>?_)))
 refine an ?_
 by_cases h0:i<1
 ·refine VG (VY 8 true Z (DT h0) ?_)
  refine Dh ?_
  refine VG (VI (LB (pv:=[]) (cL lE) Z Z Z yn Z) ?_)
  refine VG (VT (vs:=cL lE) 0 Z Z Z Z (NR _) Z Z Z ?_)
  refine an ?_
  exact CR (ay.aT 4 5 Z Z Z (aE.many (ds:=cL lE) 0 Z Z) Z ae.nil.ar ⟨by rw[q_ (.inl h0)];rfl,Z⟩)
 ·refine VG (VY 8 false Z (DF h0) ?_)
  refine eP ?_
  refine VG (VV (fun Fr w hF hs hS=>fe Fr w (h.of hF hs)) Z ?_)
  refine eP ?_
  refine CP Z (fun h1=>?_) (fun h1=>CK ?_)
  ·refine an ?_
   refine VG (VI (LB (pv:=[]) (cL lE) Z Z Z yn Z) ?_)
   refine VG (VT (vs:=cL lE) 0 Z Z Z Z (NR _) Z Z Z ?_)
   refine an ?_
   exact CR (ay.aT 4 5 Z Z Z (aE.many (ds:=cL lE) 0 Z Z) Z ae.nil.ar ⟨by rw[q_ (.inr h1)];rfl,Z⟩)
  ·obtain⟨k,e,rfl,hk,he,hat⟩:=re (l:=es) (i:=i) yd yd
   obtain⟨eb,eo,hea,ra,rc⟩:=aI.rd (X:=⟨Tryz.prog,tab,ah,23,Fr,w⟩) hx.R_ he
   rw[hea] at hb
   refine Db ?_
   refine HH ?_
   refine VG (VI (a_ k Z Z Z Z Z yd hk) ?_)
   refine HG ?_
   refine VG (VT (vs:=cL e) 0 Z Z Z Z (NR _) Z Z Z ?_)
   refine an ?_
   exact CR (ay.aT 4 5 Z Z Z (aE.many (ds:=cL e) 0 Z Z) Z ae.nil.ar ⟨by rw[hat];rfl,Z⟩)
theorem tf(h:aL Fr [b9 p es] w)(i:Int)(hi0:-9223372036854775808<i)(hi1:i≤9223372036854775807):aH Tryz.prog 239 [.pointer (some ⟨p,0,none⟩),.int .i64 i] Fr w []
  (fun v L=>v=.tuple #[.agg (bn ((pL (aO es).2 i).getD cY)).toArray,.bool (pL (aO es).2 i).isSome]∧L=[]):=by
 obtain⟨x,hx⟩:=ta.of h
 have hb:=hx.aP
 unfold ie at hb
 have hrl:=qm es
 refine TF 23 Tryz.func239 Z yn ah Z Z ?_
 refine CS (CG (VG (VO.alloc Z fun rb=>?_)))
 refine an ?_
 by_cases h0:i<1
 ·refine VG (VY 8 true Z (DT h0) ?_)
  refine Dh ?_
  refine Xe ?_
  refine UC ?_
  refine an ?_
  exact CR (ay.aT 4 5 Z Z Z (aE.many (ds:=bn cY) 0 Z Z) Z ae.nil.ar ⟨by rw[q_ (.inl h0)];rfl,Z⟩)
 ·refine VG (VY 8 false Z (DF h0) ?_)
  refine eP ?_
  refine VG (VV (fun Fr w hF hs hS=>fe Fr w (h.of hF hs)) Z ?_)
  refine eP ?_
  refine CP Z (fun h1=>?_) (fun h1=>CK ?_)
  ·refine Q7 ?_
   refine UC ?_
   refine an ?_
   exact CR (ay.aT 4 5 Z Z Z (aE.many (ds:=bn cY) 0 Z Z) Z ae.nil.ar ⟨by rw[q_ (.inr (by rw[hrl];exact h1))];rfl,Z⟩)
  ·obtain⟨k,e,rfl,hk,he,hat⟩:=re (l:=(aO es).2) (i:=i) yd yd
   obtain⟨eb,eo,hea,ra,rc⟩:=aI.rd (X:=⟨Tryz.prog,tab,ah,23,Fr,w⟩) hx.Sa he
   rw[hea] at hb
   refine Db ?_
   refine HH ?_
   refine VG (VI (a_ k Z Z Z Z Z yd hk) ?_)
   refine HG ?_
   refine VG (VT (vs:=bn e) 0 Z Z Z Z (NR _) Z Z Z ?_)
   refine an ?_
   exact CR (ay.aT 4 5 Z Z Z (aE.many (ds:=bn e) 0 Z Z) Z ae.nil.ar ⟨by rw[hat];rfl,Z⟩)
def fG(es:List aY)(c:Int):Int×Int:=if 0≤c∧c<6 then cZ es c else (0,0)
theorem fF(h:aL Fr [b9 p es] w)(c:Int):aH Tryz.prog 290 [.pointer (some ⟨p,0,none⟩),.int .i64 c] Fr w []
  (fun v L=>v=.tuple #[.int .i64 (fG es c).1,.int .i64 (fG es c).2]∧L=[]):=by
 obtain⟨x,hx⟩:=ta.of h
 have hb:=hx.aP
 unfold ie at hb
 refine TF 30 Tryz.func290 Z yn ah Z Z ?_
 refine an ?_
 refine UE ?_
 refine an ?_
 refine VG (VY 8 false Z Z ?_)
 refine eP ?_
 by_cases h0:c<0
 ·refine VG (VY 12 true Z (DT h0) ?_)
  refine Dh ?_
  exact CR (ay.cU 4 5 Z Z Z ER ⟨by rw[fG,if_neg yd],Z⟩)
 ·refine VG (VY 12 false Z (DF h0) ?_)
  refine eP ?_
  refine CP Z (fun h1=>?_) (fun h1=>CK ?_)
  ·refine an ?_
   exact CR (ay.cU 4 5 Z Z Z ER ⟨by rw[fG,if_neg yd],Z⟩)
  ·obtain⟨k,rfl⟩:∃k:Nat,c=k:=⟨c.toNat,by omega⟩
   obtain⟨l1,l2⟩:=xk (es:=es) (c:=k) yd
   have q1:(ie es x)[0+3+k*2+0]?=some (.int .i64 (cZ es (k:Nat)).1):=by rw[show 0+3+k*2+0=k*2+3 by omega];exact l1
   have q2:(ie es x)[0+3+k*2+1]?=some (.int .i64 (cZ es (k:Nat)).2):=by rw[show 0+3+k*2+1=k*2+1+3 by omega];exact l2
   refine CS (CD (ts 0 16 .nil) yn yr ?_)
   refine eT ?_
   refine AG (AI Z (bS k Z Z Z Z Z Z yd) ?_)
   refine eT ?_
   refine AG (VA.load Z Z Z (aE.aP hx.aP q1) ?_)
   refine eT ?_
   refine AG (AI Z (bS k Z Z Z Z Z Z yd) ?_)
   refine eT ?_
   refine AG (VA.load Z Z Z (aE.aP hx.aP q2) ?_)
   refine eT ?_
   exact CR (ay.cU 4 5 Z Z Z ER ⟨by rw[fG,if_pos yd],Z⟩)
theorem pr(h:aL Fr [b9 p es] w)(k:ByteArray):aH Tryz.prog 252 [.pointer (some ⟨p,0,none⟩),.string k] Fr w []
  (fun v L=>v=.agg (bn (iD (aO es).1 k es.length)).toArray∧L=[]):=by
 obtain⟨x,hx⟩:=ta.of h
 have hb:=hx.aP
 unfold ie at hb
 refine TF 19 Tryz.func252 Z yn ah Z Z ?_
 refine CS (CG (VG (VO.alloc Z fun rb=>?_)))
 refine an ?_
 refine UE ?_
 refine w7 ?_
 refine CS (CD (ts 0 10 (.only 10 (.only 11 .nil))) yn yr ?_)
 refine Rt ?_
 refine AG (AR (fun Fr w hF hs hS=>Kv.pr Fr w (hx.kv.of hF hs) k es.length) Z Z yx ?_)
 refine AG (AT (vs:=bn (iD (aO es).1 k es.length)) 0 Z Z Z Z Z (NR _) Z Z Z (by(try refine Pd.st ?_);(repeat(first|exact Pd.nil|exact Pd.fnil|refine Pd.inner ?_|refine Pd.skip yr ?_|refine zf (zo 0 Z Z) ?_|refine zf (zm 0 Z Z) ?_|refine zf (aE.aP (aE.aP hb Z) Z) ?_|refine zf ((aE.aP hb Z)) ?_|refine zc (zo 0 Z Z) ?_|refine zc (zm 0 Z Z) ?_|refine zc (aE.aP (aE.aP hb Z) Z) ?_|refine zc ((aE.aP hb Z)) ?_))) ?_)
 refine eT ?_
 exact CR (ay.cell 4 Z Z Z (aE.many (ds:=bn (iD (aO es).1 k es.length)) 0 Z Z) ae.nil.ar ⟨rfl,Z⟩)
end
end Lg
namespace Lg
open Go Vg T Api Kv
attribute [local irreducible] VO VC VA
def mV(o:e8):Bool:=decide (o.kind=1)&&decide (aZ o=0)
def rh(e:aY):Bool:=decide (e.aj<0)||decide (6≤e.aj)||decide (e.seq<1)||(decide (aZ e.op≠0)||mV e.op)
def dY(es:List aY)(e:aY):Int:=
 if rh e then 2 else if (4096:Int)≤es.length then 60 else if e.index≠es.length+1 then 70 else if e.seq≤(cZ es e.aj).1 then 71 else 0
def fS(es:List aY)(e:aY):List aY:=if dY es e=0 then es ++ [e] else es
def iF(es:List aY)(e:aY):jC:=if dY es e=0 then (dQ (aO es).1 e.index e.op).2 else cY
theorem F_{es:List aY}{e:aY}{c:Nat}(h:c<6)(hc:e.aj=c)(x y z:Value):
  j_ (x::y::z::gp es) (0+3+c*2) [.int .i64 e.seq,.int .i64 e.index]=x::y::z::gp (es ++ [e]):=by
 unfold gp
 simp only[Bh,hc]
 match c,h with
 | 0,_=>rfl
 | 1,_=>rfl
 | 2,_=>rfl
 | 3,_=>rfl
 | 4,_=>rfl
 | 5,_=>rfl
 | c+6,h=>omega
theorem kZ(p:Nat)(es:List aY)(e:aY):aH Tryz.prog 166 [.pointer (some ⟨p,0,none⟩),.agg (cL e).toArray] Fr w [b9 p es]
  (fun v L=>v=.tuple #[.agg (bn (iF es e)).toArray,.int .i64 (dY es e)]∧L=[b9 p (fS es e)]):=by
 refine TF 107 Tryz.func166 Z yn ah Z Z ?_
 refine CS (CG (VG (VB (vs:=cL e) Z fun eb=>VG (VO.alloc Z fun rb=>?_))))
 refine VG (VN (CS (VC.block ?_)))
 refine VC.e7 2 Z (aV.log p es) ?_
 rintro x -
 have hrl:=qm es
 unfold Bi
 show VC _ _ _ [pt p (ie es x) Be,tU x.sp (aO es).1,aJ iE 7 x.a1 es.length x.c1 (flat cL es),aJ jd 4 x.a2 (aO es).2.length x.c2 (flat bn (aO es).2),pt rb (bn cY) jd,pt eb (cL e) iE] _
 have back:∀{X:Cx},jj X [pt p (ie es x) Be,tU x.sp (aO es).1,aJ iE 7 x.a1 es.length x.c1 (flat cL es),aJ jd 4 x.a2 (aO es).2.length x.c2 (flat bn (aO es).2),pt rb (bn cY) jd,pt eb (cL e) iE] [b9 p es]:=
  (ae.log x (dG [0,0,0,0])).ar
 refine an ?_
 refine VG (VV (fun Fr w hF hs hS=>bj Fr w (hS.aP 0 Z)) Z ?_)
 refine an ?_
 refine HF ?_
 refine CS ?_
 refine VC.cq (σ:=Unit) (fun _=>[(0,pV p),(3,pV eb),(4,pV rb),(10,.bool (rh e))]) (fun _=>[pt p (ie es x) Be,tU x.sp (aO es).1,aJ iE 7 x.a1 es.length x.c1 (flat cL es),aJ jd 4 x.a2 (aO es).2.length x.c2 (flat bn (aO es).2),pt rb (bn cY) jd,pt eb (cL e) iE]) (fun _=>True) ?_ ?_
 ·refine Tt ?_
  by_cases h1:e.aj<0
  ·have hb:rh e=true:=by simp[rh,h1]
   refine VG (VY 14 true Z (DT h1) ?_)
   refine Oo ?_
   refine VG (VY 19 true Z Z ?_)
   refine Oo ?_
   refine UF ?_
   exact⟨(),trivial,by rw[hb];exact bd,ER⟩
  refine VG (VY 14 false Z (DF h1) ?_)
  refine Oo ?_
  by_cases h2:6≤e.aj
  ·have hb:rh e=true:=by simp[rh,h2]
   refine VG (VY 19 true Z (DT h2) ?_)
   refine Oo ?_
   refine UF ?_
   exact⟨(),trivial,by rw[hb];exact bd,ER⟩
  refine VG (VY 19 false Z (DF h2) ?_)
  refine Oo ?_
  refine CP Z (fun h3=>CK ?_) (fun h3=>?_)
  ·have hb:rh e=true:=by simp[rh,h3]
   exact⟨(),trivial,SC Z (SC Z (SC Z (Sub.bl Z (by simp[hb,h3]) (SN _)))),ER⟩
  ·have hb:rh e=(decide (aZ e.op≠0)||mV e.op):=by simp[rh,h1,h2,h3]
   refine Tt ?_
   refine VG (VL 5 e.op.cells Z Z Z Z ?_)
   refine VG (VO.ic (fun Fr w=>bm Fr w e.op) Z ?_)
   refine Tt ?_
   by_cases h4:aZ e.op=0
   ·refine VG (VY 28 false Z (by simp[h4]) ?_)
    refine Oo ?_
    refine VG (VL 5 e.op.cells Z Z Z Z ?_)
    refine VG (VO.ic (fun Fr w=>Kv.ku Fr w e.op) Z ?_)
    refine Oo ?_
    exact⟨(),trivial,SC Z (SC Z (SC Z (Sub.bl Z (by rw[hb];simp[mV,h4]) (SN _)))),ER⟩
   ·refine VG (VY 28 true Z (by simp[h4]) ?_)
    refine Oo ?_
    exact⟨(),trivial,SC Z (SC Z (SC Z (Sub.bl Z (by rw[hb,DT (show aZ e.op≠0 from h4)];rfl) (SN _)))),ER⟩
 rintro _ -
 have fin:∀{X:Cx} {fn:Func} {E:Env} (z:Int),fn.results=#[.cell 4 jd,.tmp 5]→dY es e=z→z≠0→aM X.tab jd=some T.t153→Vg.look E 4=some (.pointer (some ⟨rb,0,none⟩))→Vg.look E 5=some (.int .i64 z) →
   ay X fn (fun v L=>v=.tuple #[.agg (bn (iF es e)).toArray,.int .i64 (dY es e)]∧L=[b9 p (fS es e)]) E [pt p (ie es x) Be,tU x.sp (aO es).1,aJ iE 7 x.a1 es.length x.c1 (flat cL es),aJ jd 4 x.a2 (aO es).2.length x.c2 (flat bn (aO es).2),pt rb (bn cY) jd,pt eb (cL e) iE]:=fun z hr hz hne hT h4 h5=>
  ay.aT 4 5 hr h4 hT (aE.many (ds:=bn cY) 4 rfl rfl) h5 back ⟨by rw[iF,if_neg (by rw[hz];exact hne),hz],by rw[fS,if_neg (by rw[hz];exact hne)]⟩
 refine CC Z (fun hb=>?_) (fun hb=>?_)
 ·refine Q7 ?_
  refine Tu ?_
  refine an ?_
  exact CR (fin 2 Z (by rw[dY,if_pos hb]) yp Z Z Z)
 refine an ?_
 refine CP Z (fun h5=>?_) (fun h5=>?_)
 ·refine Q7 ?_
  refine Tu ?_
  refine an ?_
  exact CR (fin 60 Z (by rw[dY,hb,if_neg yf,if_pos h5]) yp Z Z Z)
 refine CS (CD (ts 0 10 .nil) yn yr ?_)
 refine AW ?_
 refine HI ?_
 refine AW ?_
 refine VC.bp Z (fun h6=>?_) (fun h6=>?_)
 ·refine Q7 ?_
  refine Tu ?_
  refine an ?_
  exact CR (fin 70 Z (by rw[dY,hb,if_neg yf,if_neg h5,if_pos h6]) yp Z Z Z)
 have hcl:∃c:Nat,c<6∧e.aj=c:=by
  have:¬e.aj<0∧¬6≤e.aj:=by simp[rh] at hb;omega
  exact⟨e.aj.toNat,by omega,by omega⟩
 obtain⟨c,hc6,hcc⟩:=hcl
 obtain⟨l1,l2⟩:=xk (es:=es) (c:=c) hc6
 have q1:(ie es x)[0+3+c*2+0]?=some (.int .i64 (cZ es e.aj).1):=by rw[show 0+3+c*2+0=c*2+3 by omega,hcc];exact l1
 refine CS (CD (ts 0 12 .nil) yn yr ?_)
 refine AW ?_
 refine AG (AI Z (bS c Z Z Z Z Z hcc hc6) ?_)
 refine AW ?_
 refine AG (VA.load Z Z Z (aE.one 0 Z q1) ?_)
 refine AW ?_
 refine CP Z (fun h7=>?_) (fun h7=>CK ?_)
 ·refine Q7 ?_
  refine Tu ?_
  refine an ?_
  exact CR (fin 71 Z (by rw[dY,hb,if_neg yf,if_neg h5,if_neg yd,if_pos h7]) yp Z Z Z)
 have hz:dY es e=0:=by rw[dY,hb,if_neg yf,if_neg h5,if_neg yd,if_neg h7]
 have hll:(aO (es ++ [e])).2.length=(aO es).2.length+1:=by rw[ox];simp[q9]
 have hrr:iF es e=(dQ (aO es).1 e.index e.op).2:=by rw[iF,if_pos hz]
 have happ:fS es e=es ++ [e]:=by rw[fS,if_pos hz]
 have hst1:(aO (es ++ [e])).1=(dQ (aO es).1 e.index e.op).1:=by rw[ox];rfl
 have hst2:(aO (es ++ [e])).2=(aO es).2 ++ [(dQ (aO es).1 e.index e.op).2]:=by rw[ox];rfl
 refine CS (CD (ts 0 8 (.only 8 (.only 9 .nil))) yn yr ?_)
 refine AW ?_
 refine AG (VA.kn 5 e.op.cells Z Z Z Z Z ?_)
 refine AG (AQ 1 Z (fun Fr w hF hs hS=>Kv.DB Fr w x.sp (aO es).1 e.index e.op) Z Z (ψ:=fun v H=>v=.agg (bn (dQ (aO es).1 e.index e.op).2).toArray∧H=tU x.sp (dQ (aO es).1 e.index e.op).1) yy ?_ ?_)
 ·rintro _ _ ⟨rfl,rfl⟩
  exact yu
 rintro _ _ ⟨rfl,rfl⟩
 generalize (dQ (aO es).1 e.index e.op).2=rr at hrr hst2 ⊢
 generalize (dQ (aO es).1 e.index e.op).1=S' at hst1 ⊢
 refine AG (AT (vs:=bn rr) 4 Z Z Z Z Z (NR _) Z Z Z yu ?_)
 refine AW ?_
 refine Xf ?_
 refine AW ?_
 refine AG (VA.kn 5 (cL e) Z Z Z Z Z ?_)
 refine AG (AO (a8.buildSlice (n:=1) (pv:=[(0,.agg (cL e).toArray)]) (cells:=cL e) Z Z Z Z yp (bM Z Z Z)) Z ?_ ?_)
 ·rintro _ _ ⟨nb,rfl,rfl⟩
  exact yu
 rintro _ _ ⟨nb,rfl,rfl⟩
 refine AG (AO (a8.append (m:=1) (news:=cL e) 3 Z Z Z Z Z Z Z (dq.pt 0 Z Z Z) Z (by show(es.length+1)*72≤_;omega) yd) Z ?_ ?_)
 ·rintro _ _ ⟨a1,c1,rfl,hc1,rfl⟩
  exact yu
 rintro _ _ ⟨a1,c1,rfl,hc1,rfl⟩
 refine AW ?_
 refine AG (VA.st 2 (cs':=.pointer (some ⟨x.sp,0,none⟩) :: .slice a1 (es.length+1) c1 :: .slice x.a2 (aO es).2.length x.c2::gp es) Z Z Z Z Z (Zo Z) Z Z yu ?_)
 refine AW ?_
 refine CN (L':=[pt p (.pointer (some ⟨x.sp,0,none⟩) :: .slice a1 (es.length+1) c1 :: .slice x.a2 (aO es).2.length x.c2::gp es) Be,tU x.sp S',aJ iE 7 a1 (es.length+1) c1 (flat cL es++cL e),aJ jd 4 x.a2 (aO es).2.length x.c2 (flat bn (aO es).2),pt rb (bn rr) jd,pt eb (cL e) iE]) (dG [2,2,0,1,1,1]).ar ?_
 refine Xf ?_
 refine AW ?_
 refine AG (VA.kn 4 (bn rr) Z Z Z Z Z ?_)
 refine AG (AO (a8.buildSlice (n:=1) (pv:=[(0,.agg (bn rr).toArray)]) (cells:=bn rr) Z Z Z Z yp (bM Z Z Z)) Z ?_ ?_)
 ·rintro _ _ ⟨nb,rfl,rfl⟩
  exact yu
 rintro _ _ ⟨nb,rfl,rfl⟩
 refine AG (AO (a8.append (m:=1) (news:=bn rr) 4 Z Z Z Z Z Z Z (dq.pt 0 Z Z Z) Z (by show((aO es).2.length+1)*40≤_;omega) yd) Z ?_ ?_)
 ·rintro _ _ ⟨a2,c2,rfl,hc2,rfl⟩
  exact yu
 rintro _ _ ⟨a2,c2,rfl,hc2,rfl⟩
 refine AW ?_
 refine AG (VA.st 2 (cs':=.pointer (some ⟨x.sp,0,none⟩) :: .slice a1 (es.length+1) c1 :: .slice a2 ((aO es).2.length+1) c2::gp es) Z Z Z Z Z (Zo Z) Z Z yu ?_)
 refine AW ?_
 refine CN (L':=[pt p (.pointer (some ⟨x.sp,0,none⟩) :: .slice a1 (es.length+1) c1 :: .slice a2 ((aO es).2.length+1) c2::gp es) Be,tU x.sp S',aJ iE 7 a1 (es.length+1) c1 (flat cL es++cL e),aJ jd 4 a2 ((aO es).2.length+1) c2 (flat bn (aO es).2++bn rr),pt rb (bn rr) jd,pt eb (cL e) iE]) (dG [2,2,2,0,1,1]).ar ?_
 refine CS (CD (ts 0 11 (.only 11 .nil)) yn yr ?_)
 refine AW ?_
 refine AG (AI Z (LB (pv:=[(0,.int .i64 e.seq),(1,.int .i64 e.index)]) [.int .i64 e.seq,.int .i64 e.index] Z Z Z yn Z) ?_)
 refine AW ?_
 refine AG (AI Z (bS c Z Z Z Z Z hcc hc6) ?_)
 refine AG (AT (vs:=[.int .i64 e.seq,.int .i64 e.index]) 0 Z Z Z Z Z (by show 0+3+c*2+2≤15;omega) (F_ hc6 hcc _ _ _) Z Z yu ?_)
 refine AW ?_
 refine an ?_
 refine VG (VL 4 (bn rr) Z Z Z Z ?_)
 refine VG (VT (vs:=bn rr) 4 Z Z Z Z (NR _) Z Z Z ?_)
 refine an ?_
 have hfin:Bi p (es ++ [e]) ⟨x.sp,a1,c1,a2,c2⟩=[pt p (.pointer (some ⟨x.sp,0,none⟩) :: .slice a1 (es.length+1) c1 :: .slice a2 ((aO es).2.length+1) c2::gp (es ++ [e])) Be,tU x.sp S',aJ iE 7 a1 (es.length+1) c1 (flat cL es++cL e),aJ jd 4 a2 ((aO es).2.length+1) c2 (flat bn (aO es).2++bn rr)]:=by
  unfold Bi ie
  rw[hll,hst1,hst2,Zh,bf,bf,bL,e_,bL,e_,Zi,Zi];rfl
 exact CR (ay.aT 4 5 Z Z Z (aE.many (ds:=bn rr) 4 Z Z) Z (ae.log ⟨x.sp,a1,c1,a2,c2⟩ (by rw[hfin];exact IP 0 Z (IP 0 Z (IP 0 Z (IP 0 Z ae.nil))))).ar ⟨by rw[hrr,hz],by rw[happ]⟩)
end Lg
end Go.Proofs.YthnlpdacbcjgpaaGreatDoor
namespace Go.Proofs
open Go.Shelf
def Tryz.Bj : Go.Shelf.Ren := ⟨fun | 137 => 271 | 217 => 208 | 266 => 264 | n => n, fun | 9 => 9 | 5 => 5 | 3 => 3 | n => n, fun | n => n⟩
theorem Tryz.MV : Go.Proofs.Lays.n137 Tryz.prog Tryz.Bj := {
  mixed := by kernel_rfl
  f137 := Tryz.func271.trans (congrArg some (by kernel_rfl))
  f217 := Tryz.func208.trans (congrArg some (by kernel_rfl))
  f266 := Tryz.func264.trans (congrArg some (by kernel_rfl))
  t3 := Tryz.underlying3
  a3 := Tryz.isAgg3
  z3 := Tryz.sizeOf3
  v3 := Tryz.zeroValue3
  t5 := Tryz.underlying5
  a5 := Tryz.isAgg5
  z5 := Tryz.sizeOf5
  v5 := Tryz.zeroValue5
  t9 := Tryz.underlying9
  a9 := Tryz.isAgg9
  z9 := Tryz.sizeOf9
  v9 := Tryz.zeroValue9 }
def Tryz.Bk : Go.Shelf.Ren := ⟨fun | 172 => 42 | 244 => 79 | 245 => 80 | 247 => 130 | 279 => 131 | 280 => 132 | 281 => 133 | 282 => 134 | 287 => 212 | 316 => 213 | 171 => 20 | 205 => 214 | 321 => 266 | 322 => 267 | 243 => 36 | 246 => 56 | 283 => 86 | 284 => 87 | 285 => 88 | 286 => 89 | 129 => 143 | 317 => 142 | 318 => 144 | 319 => 145 | 320 => 146 | 337 => 218 | 338 => 219 | n => n, fun | 9 => 9 | 3 => 3 | 75 => 60 | 76 => 61 | 4 => 4 | 5 => 5 | 167 => 236 | 37 => 56 | 0 => 0 | 85 => 237 | 2 => 2 | 168 => 239 | 53 => 196 | 175 => 316 | 46 => 99 | 210 => 319 | 127 => 93 | 145 => 368 | 143 => 366 | 21 => 21 | 171 => 195 | 173 => 199 | 212 => 259 | 51 => 260 | 20 => 20 | 213 => 261 | 232 => 370 | 233 => 371 | 80 => 65 | n => n, fun | 15 => 3 | 16 => 4 | 17 => 1 | 18 => 5 | 19 => 6 | n => n⟩
theorem Tryz.T' : Go.Proofs.Lays.n172 Tryz.prog Tryz.Bk := {
  mixed := by kernel_rfl
  f129 := Tryz.func143.trans (congrArg some (by kernel_rfl))
  f171 := Tryz.func20.trans (congrArg some (by kernel_rfl))
  f172 := Tryz.func42.trans (congrArg some (by kernel_rfl))
  f205 := Tryz.func214.trans (congrArg some (by kernel_rfl))
  f243 := Tryz.func36.trans (congrArg some (by kernel_rfl))
  f244 := Tryz.func79.trans (congrArg some (by kernel_rfl))
  f245 := Tryz.func80.trans (congrArg some (by kernel_rfl))
  f246 := Tryz.func56.trans (congrArg some (by kernel_rfl))
  f247 := Tryz.func130.trans (congrArg some (by kernel_rfl))
  f279 := Tryz.func131.trans (congrArg some (by kernel_rfl))
  f280 := Tryz.func132.trans (congrArg some (by kernel_rfl))
  f281 := Tryz.func133.trans (congrArg some (by kernel_rfl))
  f282 := Tryz.func134.trans (congrArg some (by kernel_rfl))
  f283 := Tryz.func86.trans (congrArg some (by kernel_rfl))
  f284 := Tryz.func87.trans (congrArg some (by kernel_rfl))
  f285 := Tryz.func88.trans (congrArg some (by kernel_rfl))
  f286 := Tryz.func89.trans (congrArg some (by kernel_rfl))
  f287 := Tryz.func212.trans (congrArg some (by kernel_rfl))
  f316 := Tryz.func213.trans (congrArg some (by kernel_rfl))
  f317 := Tryz.func142.trans (congrArg some (by kernel_rfl))
  f318 := Tryz.func144.trans (congrArg some (by kernel_rfl))
  f319 := Tryz.func145.trans (congrArg some (by kernel_rfl))
  f320 := Tryz.func146.trans (congrArg some (by kernel_rfl))
  f321 := Tryz.func266.trans (congrArg some (by kernel_rfl))
  f322 := Tryz.func267.trans (congrArg some (by kernel_rfl))
  f337 := Tryz.func218.trans (congrArg some (by kernel_rfl))
  f338 := Tryz.func219.trans (congrArg some (by kernel_rfl))
  t0 := Tryz.underlying0
  a0 := Tryz.isAgg0
  z0 := Tryz.sizeOf0
  v0 := Tryz.zeroValue0
  t2 := Tryz.underlying2
  a2 := Tryz.isAgg2
  z2 := Tryz.sizeOf2
  v2 := Tryz.zeroValue2
  t3 := Tryz.underlying3
  a3 := Tryz.isAgg3
  z3 := Tryz.sizeOf3
  v3 := Tryz.zeroValue3
  t4 := Tryz.underlying4
  a4 := Tryz.isAgg4
  z4 := Tryz.sizeOf4
  v4 := Tryz.zeroValue4
  t5 := Tryz.underlying5
  a5 := Tryz.isAgg5
  z5 := Tryz.sizeOf5
  v5 := Tryz.zeroValue5
  t9 := Tryz.underlying9
  a9 := Tryz.isAgg9
  z9 := Tryz.sizeOf9
  v9 := Tryz.zeroValue9
  t20 := Tryz.underlying20
  a20 := Tryz.isAgg20
  z20 := Tryz.sizeOf20
  v20 := Tryz.zeroValue20
  t21 := Tryz.underlying21
  a21 := Tryz.isAgg21
  z21 := Tryz.sizeOf21
  v21 := Tryz.zeroValue21
  t37 := Tryz.underlying56
  a37 := Tryz.isAgg56
  z37 := Tryz.sizeOf56
  v37 := Tryz.zeroValue56
  t46 := Tryz.underlying99
  a46 := Tryz.isAgg99
  z46 := Tryz.sizeOf99
  v46 := Tryz.zeroValue99
  t51 := Tryz.underlying260
  a51 := Tryz.isAgg260
  z51 := Tryz.sizeOf260
  v51 := Tryz.zeroValue260
  t53 := Tryz.underlying196
  a53 := Tryz.isAgg196
  z53 := Tryz.sizeOf196
  v53 := Tryz.zeroValue196
  t75 := Tryz.underlying60
  a75 := Tryz.isAgg60
  z75 := Tryz.sizeOf60
  v75 := Tryz.zeroValue60
  t76 := Tryz.underlying61
  a76 := Tryz.isAgg61
  z76 := Tryz.sizeOf61
  v76 := Tryz.zeroValue61
  t85 := Tryz.underlying237
  a85 := Tryz.isAgg237
  z85 := Tryz.sizeOf237
  v85 := Tryz.zeroValue237
  t127 := Tryz.underlying93
  a127 := Tryz.isAgg93
  z127 := Tryz.sizeOf93
  v127 := Tryz.zeroValue93
  t143 := Tryz.underlying366
  a143 := Tryz.isAgg366
  z143 := Tryz.sizeOf366
  v143 := Tryz.zeroValue366
  t145 := Tryz.underlying368
  a145 := Tryz.isAgg368
  z145 := Tryz.sizeOf368
  v145 := Tryz.zeroValue368
  t167 := Tryz.underlying236
  a167 := Tryz.isAgg236
  z167 := Tryz.sizeOf236
  v167 := Tryz.zeroValue236
  t168 := Tryz.underlying239
  a168 := Tryz.isAgg239
  z168 := Tryz.sizeOf239
  v168 := Tryz.zeroValue239
  t171 := Tryz.underlying195
  a171 := Tryz.isAgg195
  z171 := Tryz.sizeOf195
  v171 := Tryz.zeroValue195
  t173 := Tryz.underlying199
  a173 := Tryz.isAgg199
  z173 := Tryz.sizeOf199
  v173 := Tryz.zeroValue199
  t175 := Tryz.underlying316
  a175 := Tryz.isAgg316
  z175 := Tryz.sizeOf316
  v175 := Tryz.zeroValue316
  t210 := Tryz.underlying319
  a210 := Tryz.isAgg319
  z210 := Tryz.sizeOf319
  v210 := Tryz.zeroValue319
  t212 := Tryz.underlying259
  a212 := Tryz.isAgg259
  z212 := Tryz.sizeOf259
  v212 := Tryz.zeroValue259
  t213 := Tryz.underlying261
  a213 := Tryz.isAgg261
  z213 := Tryz.sizeOf261
  t232 := Tryz.underlying370
  a232 := Tryz.isAgg370
  z232 := Tryz.sizeOf370
  v232 := Tryz.zeroValue370
  t233 := Tryz.underlying371
  a233 := Tryz.isAgg371
  z233 := Tryz.sizeOf371
  v233 := Tryz.zeroValue371
  g15 := by kernel_rfl
  g16 := by kernel_rfl
  g17 := by kernel_rfl
  g18 := by kernel_rfl
  g19 := by kernel_rfl }
def Tryz.zi : Go.Shelf.Ren := ⟨fun | 171 => 20 | 243 => 36 | 246 => 56 | 283 => 86 | 284 => 87 | 285 => 88 | 286 => 89 | 129 => 143 | 317 => 142 | 318 => 144 | 319 => 145 | 320 => 146 | 337 => 218 | 338 => 219 | n => n, fun | 3 => 3 | 9 => 9 | 2 => 2 | 4 => 4 | 171 => 195 | 0 => 0 | 53 => 196 | 37 => 56 | 5 => 5 | 173 => 199 | 212 => 259 | 51 => 260 | 20 => 20 | 213 => 261 | 46 => 99 | 232 => 370 | 233 => 371 | n => n, fun | 17 => 1 | 18 => 5 | 19 => 6 | n => n⟩
theorem Tryz.H3 : Go.Proofs.LaysM.n171 Tryz.prog Tryz.zi := {
  mixed := by kernel_rfl
  f129 := Tryz.func143.trans (congrArg some (by kernel_rfl))
  f171 := Tryz.func20.trans (congrArg some (by kernel_rfl))
  f243 := Tryz.func36.trans (congrArg some (by kernel_rfl))
  f246 := Tryz.func56.trans (congrArg some (by kernel_rfl))
  f283 := Tryz.func86.trans (congrArg some (by kernel_rfl))
  f284 := Tryz.func87.trans (congrArg some (by kernel_rfl))
  f285 := Tryz.func88.trans (congrArg some (by kernel_rfl))
  f286 := Tryz.func89.trans (congrArg some (by kernel_rfl))
  f317 := Tryz.func142.trans (congrArg some (by kernel_rfl))
  f318 := Tryz.func144.trans (congrArg some (by kernel_rfl))
  f319 := Tryz.func145.trans (congrArg some (by kernel_rfl))
  f320 := Tryz.func146.trans (congrArg some (by kernel_rfl))
  f337 := Tryz.func218.trans (congrArg some (by kernel_rfl))
  f338 := Tryz.func219.trans (congrArg some (by kernel_rfl))
  t0 := Tryz.underlying0
  a0 := Tryz.isAgg0
  z0 := Tryz.sizeOf0
  v0 := Tryz.zeroValue0
  t2 := Tryz.underlying2
  a2 := Tryz.isAgg2
  z2 := Tryz.sizeOf2
  v2 := Tryz.zeroValue2
  t3 := Tryz.underlying3
  a3 := Tryz.isAgg3
  z3 := Tryz.sizeOf3
  v3 := Tryz.zeroValue3
  t4 := Tryz.underlying4
  a4 := Tryz.isAgg4
  z4 := Tryz.sizeOf4
  v4 := Tryz.zeroValue4
  t5 := Tryz.underlying5
  a5 := Tryz.isAgg5
  z5 := Tryz.sizeOf5
  v5 := Tryz.zeroValue5
  t9 := Tryz.underlying9
  a9 := Tryz.isAgg9
  z9 := Tryz.sizeOf9
  v9 := Tryz.zeroValue9
  t20 := Tryz.underlying20
  a20 := Tryz.isAgg20
  z20 := Tryz.sizeOf20
  v20 := Tryz.zeroValue20
  t37 := Tryz.underlying56
  a37 := Tryz.isAgg56
  z37 := Tryz.sizeOf56
  v37 := Tryz.zeroValue56
  t46 := Tryz.underlying99
  a46 := Tryz.isAgg99
  z46 := Tryz.sizeOf99
  v46 := Tryz.zeroValue99
  t51 := Tryz.underlying260
  a51 := Tryz.isAgg260
  z51 := Tryz.sizeOf260
  v51 := Tryz.zeroValue260
  t53 := Tryz.underlying196
  a53 := Tryz.isAgg196
  z53 := Tryz.sizeOf196
  v53 := Tryz.zeroValue196
  t171 := Tryz.underlying195
  a171 := Tryz.isAgg195
  z171 := Tryz.sizeOf195
  v171 := Tryz.zeroValue195
  t173 := Tryz.underlying199
  a173 := Tryz.isAgg199
  z173 := Tryz.sizeOf199
  v173 := Tryz.zeroValue199
  t212 := Tryz.underlying259
  a212 := Tryz.isAgg259
  z212 := Tryz.sizeOf259
  v212 := Tryz.zeroValue259
  t213 := Tryz.underlying261
  a213 := Tryz.isAgg261
  z213 := Tryz.sizeOf261
  t232 := Tryz.underlying370
  a232 := Tryz.isAgg370
  z232 := Tryz.sizeOf370
  v232 := Tryz.zeroValue370
  t233 := Tryz.underlying371
  a233 := Tryz.isAgg371
  z233 := Tryz.sizeOf371
  v233 := Tryz.zeroValue371
  g17 := by kernel_rfl
  g18 := by kernel_rfl
  g19 := by kernel_rfl
  i0 := by kernel_rfl
  i2 := by kernel_rfl
  i3 := by kernel_rfl
  i4 := by kernel_rfl
  i5 := by kernel_rfl
  i9 := by kernel_rfl
  i20 := by kernel_rfl
  i37 := by kernel_rfl
  i46 := by kernel_rfl
  i51 := by kernel_rfl
  i53 := by kernel_rfl
  i171 := by kernel_rfl
  i173 := by kernel_rfl
  i212 := by kernel_rfl
  i232 := by kernel_rfl
  i233 := by kernel_rfl
  m17 := by kernel_rfl
  m18 := by kernel_rfl
  m19 := by kernel_rfl }
def Tryz.iG : Go.Shelf.Ren := ⟨fun | 172 => 42 | 244 => 79 | 245 => 80 | 247 => 130 | 279 => 131 | 280 => 132 | 281 => 133 | 282 => 134 | 287 => 212 | 316 => 213 | 171 => 20 | 205 => 214 | 321 => 266 | 322 => 267 | 243 => 36 | 246 => 56 | 283 => 86 | 284 => 87 | 285 => 88 | 286 => 89 | 129 => 143 | 317 => 142 | 318 => 144 | 319 => 145 | 320 => 146 | 337 => 218 | 338 => 219 | n => n, fun | 9 => 9 | 3 => 3 | 75 => 60 | 76 => 61 | 4 => 4 | 5 => 5 | 167 => 236 | 37 => 56 | 0 => 0 | 85 => 237 | 2 => 2 | 168 => 239 | 53 => 196 | 175 => 316 | 46 => 99 | 210 => 319 | 127 => 93 | 145 => 368 | 143 => 366 | 21 => 21 | 171 => 195 | 173 => 199 | 212 => 259 | 51 => 260 | 20 => 20 | 213 => 261 | 232 => 370 | 233 => 371 | 80 => 65 | n => n, fun | 15 => 3 | 16 => 4 | 17 => 1 | 18 => 5 | 19 => 6 | n => n⟩
theorem Tryz.uy : Go.Proofs.LaysC.n172 Tryz.prog Tryz.iG := {
  mixed := by kernel_rfl
  f129 := Tryz.func143.trans (congrArg some (by kernel_rfl))
  f171 := Tryz.func20.trans (congrArg some (by kernel_rfl))
  f172 := Tryz.func42.trans (congrArg some (by kernel_rfl))
  f205 := Tryz.func214.trans (congrArg some (by kernel_rfl))
  f243 := Tryz.func36.trans (congrArg some (by kernel_rfl))
  f244 := Tryz.func79.trans (congrArg some (by kernel_rfl))
  f245 := Tryz.func80.trans (congrArg some (by kernel_rfl))
  f246 := Tryz.func56.trans (congrArg some (by kernel_rfl))
  f247 := Tryz.func130.trans (congrArg some (by kernel_rfl))
  f279 := Tryz.func131.trans (congrArg some (by kernel_rfl))
  f280 := Tryz.func132.trans (congrArg some (by kernel_rfl))
  f281 := Tryz.func133.trans (congrArg some (by kernel_rfl))
  f282 := Tryz.func134.trans (congrArg some (by kernel_rfl))
  f283 := Tryz.func86.trans (congrArg some (by kernel_rfl))
  f284 := Tryz.func87.trans (congrArg some (by kernel_rfl))
  f285 := Tryz.func88.trans (congrArg some (by kernel_rfl))
  f286 := Tryz.func89.trans (congrArg some (by kernel_rfl))
  f287 := Tryz.func212.trans (congrArg some (by kernel_rfl))
  f316 := Tryz.func213.trans (congrArg some (by kernel_rfl))
  f317 := Tryz.func142.trans (congrArg some (by kernel_rfl))
  f318 := Tryz.func144.trans (congrArg some (by kernel_rfl))
  f319 := Tryz.func145.trans (congrArg some (by kernel_rfl))
  f320 := Tryz.func146.trans (congrArg some (by kernel_rfl))
  f321 := Tryz.func266.trans (congrArg some (by kernel_rfl))
  f322 := Tryz.func267.trans (congrArg some (by kernel_rfl))
  f337 := Tryz.func218.trans (congrArg some (by kernel_rfl))
  f338 := Tryz.func219.trans (congrArg some (by kernel_rfl))
  t0 := Tryz.underlying0
  a0 := Tryz.isAgg0
  z0 := Tryz.sizeOf0
  v0 := Tryz.zeroValue0
  t2 := Tryz.underlying2
  a2 := Tryz.isAgg2
  z2 := Tryz.sizeOf2
  v2 := Tryz.zeroValue2
  t3 := Tryz.underlying3
  a3 := Tryz.isAgg3
  z3 := Tryz.sizeOf3
  v3 := Tryz.zeroValue3
  t4 := Tryz.underlying4
  a4 := Tryz.isAgg4
  z4 := Tryz.sizeOf4
  v4 := Tryz.zeroValue4
  t5 := Tryz.underlying5
  a5 := Tryz.isAgg5
  z5 := Tryz.sizeOf5
  v5 := Tryz.zeroValue5
  t9 := Tryz.underlying9
  a9 := Tryz.isAgg9
  z9 := Tryz.sizeOf9
  v9 := Tryz.zeroValue9
  t20 := Tryz.underlying20
  a20 := Tryz.isAgg20
  z20 := Tryz.sizeOf20
  v20 := Tryz.zeroValue20
  t21 := Tryz.underlying21
  a21 := Tryz.isAgg21
  z21 := Tryz.sizeOf21
  v21 := Tryz.zeroValue21
  t37 := Tryz.underlying56
  a37 := Tryz.isAgg56
  z37 := Tryz.sizeOf56
  v37 := Tryz.zeroValue56
  t46 := Tryz.underlying99
  a46 := Tryz.isAgg99
  z46 := Tryz.sizeOf99
  v46 := Tryz.zeroValue99
  t51 := Tryz.underlying260
  a51 := Tryz.isAgg260
  z51 := Tryz.sizeOf260
  v51 := Tryz.zeroValue260
  t53 := Tryz.underlying196
  a53 := Tryz.isAgg196
  z53 := Tryz.sizeOf196
  v53 := Tryz.zeroValue196
  t75 := Tryz.underlying60
  a75 := Tryz.isAgg60
  z75 := Tryz.sizeOf60
  v75 := Tryz.zeroValue60
  t76 := Tryz.underlying61
  a76 := Tryz.isAgg61
  z76 := Tryz.sizeOf61
  v76 := Tryz.zeroValue61
  t85 := Tryz.underlying237
  a85 := Tryz.isAgg237
  z85 := Tryz.sizeOf237
  v85 := Tryz.zeroValue237
  t127 := Tryz.underlying93
  a127 := Tryz.isAgg93
  z127 := Tryz.sizeOf93
  v127 := Tryz.zeroValue93
  t143 := Tryz.underlying366
  a143 := Tryz.isAgg366
  z143 := Tryz.sizeOf366
  v143 := Tryz.zeroValue366
  t145 := Tryz.underlying368
  a145 := Tryz.isAgg368
  z145 := Tryz.sizeOf368
  v145 := Tryz.zeroValue368
  t167 := Tryz.underlying236
  a167 := Tryz.isAgg236
  z167 := Tryz.sizeOf236
  v167 := Tryz.zeroValue236
  t168 := Tryz.underlying239
  a168 := Tryz.isAgg239
  z168 := Tryz.sizeOf239
  v168 := Tryz.zeroValue239
  t171 := Tryz.underlying195
  a171 := Tryz.isAgg195
  z171 := Tryz.sizeOf195
  v171 := Tryz.zeroValue195
  t173 := Tryz.underlying199
  a173 := Tryz.isAgg199
  z173 := Tryz.sizeOf199
  v173 := Tryz.zeroValue199
  t175 := Tryz.underlying316
  a175 := Tryz.isAgg316
  z175 := Tryz.sizeOf316
  v175 := Tryz.zeroValue316
  t210 := Tryz.underlying319
  a210 := Tryz.isAgg319
  z210 := Tryz.sizeOf319
  v210 := Tryz.zeroValue319
  t212 := Tryz.underlying259
  a212 := Tryz.isAgg259
  z212 := Tryz.sizeOf259
  v212 := Tryz.zeroValue259
  t213 := Tryz.underlying261
  a213 := Tryz.isAgg261
  z213 := Tryz.sizeOf261
  t232 := Tryz.underlying370
  a232 := Tryz.isAgg370
  z232 := Tryz.sizeOf370
  v232 := Tryz.zeroValue370
  t233 := Tryz.underlying371
  a233 := Tryz.isAgg371
  z233 := Tryz.sizeOf371
  v233 := Tryz.zeroValue371
  g15 := by kernel_rfl
  g16 := by kernel_rfl
  g17 := by kernel_rfl
  g18 := by kernel_rfl
  g19 := by kernel_rfl
  t80 := Tryz.underlying65
  a80 := Tryz.isAgg65
  z80 := Tryz.sizeOf65
  v80 := Tryz.zeroValue65
  i0 := by kernel_rfl
  i2 := by kernel_rfl
  i3 := by kernel_rfl
  i4 := by kernel_rfl
  i5 := by kernel_rfl
  i9 := by kernel_rfl
  i20 := by kernel_rfl
  i21 := by kernel_rfl
  i37 := by kernel_rfl
  i46 := by kernel_rfl
  i51 := by kernel_rfl
  i53 := by kernel_rfl
  i75 := by kernel_rfl
  i76 := by kernel_rfl
  i80 := by kernel_rfl
  i85 := by kernel_rfl
  i127 := by kernel_rfl
  i143 := by kernel_rfl
  i145 := by kernel_rfl
  i167 := by kernel_rfl
  i168 := by kernel_rfl
  i171 := by kernel_rfl
  i173 := by kernel_rfl
  i175 := by kernel_rfl
  i210 := by kernel_rfl
  i212 := by kernel_rfl
  i232 := by kernel_rfl
  i233 := by kernel_rfl
  m15 := by kernel_rfl
  m16 := by kernel_rfl
  m17 := by kernel_rfl
  m18 := by kernel_rfl
  m19 := by kernel_rfl
  c0 := by kernel_rfl
  c2 := by kernel_rfl
  c3 := by kernel_rfl
  c4 := by kernel_rfl
  c5 := by kernel_rfl
  c9 := by kernel_rfl
  c20 := by kernel_rfl
  c21 := by kernel_rfl
  c37 := by kernel_rfl
  c46 := by kernel_rfl
  c51 := by kernel_rfl
  c53 := by kernel_rfl
  c75 := by kernel_rfl
  c76 := by kernel_rfl
  c80 := by kernel_rfl
  c85 := by kernel_rfl
  c127 := by kernel_rfl
  c143 := by kernel_rfl
  c145 := by kernel_rfl
  c167 := by kernel_rfl
  c168 := by kernel_rfl
  c171 := by kernel_rfl
  c173 := by kernel_rfl
  c175 := by kernel_rfl
  c210 := by kernel_rfl
  c212 := by kernel_rfl
  c213 := by kernel_rfl
  c232 := by kernel_rfl
  c233 := by kernel_rfl }
def Tryz.oy : Go.Shelf.Ren := ⟨fun | 145 => 41 | 220 => 78 | 219 => 129 | 217 => 208 | 225 => 209 | 224 => 210 | 267 => 211 | 266 => 264 | 314 => 265 | n => n, fun | 9 => 9 | 4 => 4 | 59 => 95 | 3 => 3 | 5 => 5 | 46 => 99 | 146 => 362 | 51 => 260 | n => n, fun | 1 => 2 | n => n⟩
theorem Tryz.MW : Go.Proofs.Lays.n145 Tryz.prog Tryz.oy := {
  mixed := by kernel_rfl
  f145 := Tryz.func41.trans (congrArg some (by kernel_rfl))
  f217 := Tryz.func208.trans (congrArg some (by kernel_rfl))
  f219 := Tryz.func129.trans (congrArg some (by kernel_rfl))
  f220 := Tryz.func78.trans (congrArg some (by kernel_rfl))
  f224 := Tryz.func210.trans (congrArg some (by kernel_rfl))
  f225 := Tryz.func209.trans (congrArg some (by kernel_rfl))
  f266 := Tryz.func264.trans (congrArg some (by kernel_rfl))
  f267 := Tryz.func211.trans (congrArg some (by kernel_rfl))
  f314 := Tryz.func265.trans (congrArg some (by kernel_rfl))
  t3 := Tryz.underlying3
  a3 := Tryz.isAgg3
  z3 := Tryz.sizeOf3
  v3 := Tryz.zeroValue3
  t4 := Tryz.underlying4
  a4 := Tryz.isAgg4
  z4 := Tryz.sizeOf4
  v4 := Tryz.zeroValue4
  t5 := Tryz.underlying5
  a5 := Tryz.isAgg5
  z5 := Tryz.sizeOf5
  v5 := Tryz.zeroValue5
  t9 := Tryz.underlying9
  a9 := Tryz.isAgg9
  z9 := Tryz.sizeOf9
  v9 := Tryz.zeroValue9
  t46 := Tryz.underlying99
  a46 := Tryz.isAgg99
  z46 := Tryz.sizeOf99
  v46 := Tryz.zeroValue99
  t51 := Tryz.underlying260
  a51 := Tryz.isAgg260
  z51 := Tryz.sizeOf260
  v51 := Tryz.zeroValue260
  t59 := Tryz.underlying95
  a59 := Tryz.isAgg95
  z59 := Tryz.sizeOf95
  v59 := Tryz.zeroValue95
  t146 := Tryz.underlying362
  a146 := Tryz.isAgg362
  z146 := Tryz.sizeOf362
  v146 := Tryz.zeroValue362
  g1 := by kernel_rfl }
def Tryz.zj : Go.Shelf.Ren := ⟨fun | 145 => 41 | 220 => 78 | 219 => 129 | 217 => 208 | 225 => 209 | 224 => 210 | 267 => 211 | 266 => 264 | 314 => 265 | n => n, fun | 9 => 9 | 4 => 4 | 59 => 95 | 3 => 3 | 5 => 5 | 46 => 99 | 146 => 362 | 51 => 260 | n => n, fun | 1 => 2 | n => n⟩
theorem Tryz.H4 : Go.Proofs.LaysM.n145 Tryz.prog Tryz.zj := {
  mixed := by kernel_rfl
  f145 := Tryz.func41.trans (congrArg some (by kernel_rfl))
  f217 := Tryz.func208.trans (congrArg some (by kernel_rfl))
  f219 := Tryz.func129.trans (congrArg some (by kernel_rfl))
  f220 := Tryz.func78.trans (congrArg some (by kernel_rfl))
  f224 := Tryz.func210.trans (congrArg some (by kernel_rfl))
  f225 := Tryz.func209.trans (congrArg some (by kernel_rfl))
  f266 := Tryz.func264.trans (congrArg some (by kernel_rfl))
  f267 := Tryz.func211.trans (congrArg some (by kernel_rfl))
  f314 := Tryz.func265.trans (congrArg some (by kernel_rfl))
  t3 := Tryz.underlying3
  a3 := Tryz.isAgg3
  z3 := Tryz.sizeOf3
  v3 := Tryz.zeroValue3
  t4 := Tryz.underlying4
  a4 := Tryz.isAgg4
  z4 := Tryz.sizeOf4
  v4 := Tryz.zeroValue4
  t5 := Tryz.underlying5
  a5 := Tryz.isAgg5
  z5 := Tryz.sizeOf5
  v5 := Tryz.zeroValue5
  t9 := Tryz.underlying9
  a9 := Tryz.isAgg9
  z9 := Tryz.sizeOf9
  v9 := Tryz.zeroValue9
  t46 := Tryz.underlying99
  a46 := Tryz.isAgg99
  z46 := Tryz.sizeOf99
  v46 := Tryz.zeroValue99
  t51 := Tryz.underlying260
  a51 := Tryz.isAgg260
  z51 := Tryz.sizeOf260
  v51 := Tryz.zeroValue260
  t59 := Tryz.underlying95
  a59 := Tryz.isAgg95
  z59 := Tryz.sizeOf95
  v59 := Tryz.zeroValue95
  t146 := Tryz.underlying362
  a146 := Tryz.isAgg362
  z146 := Tryz.sizeOf362
  v146 := Tryz.zeroValue362
  g1 := by kernel_rfl
  i3 := by kernel_rfl
  i4 := by kernel_rfl
  i5 := by kernel_rfl
  i9 := by kernel_rfl
  i46 := by kernel_rfl
  i51 := by kernel_rfl
  i59 := by kernel_rfl
  i146 := by kernel_rfl
  m1 := by kernel_rfl
  s1_3 := fun w h => Go.Proofs.cell_of_shapedOpen_int (zero := #[.int .i64 0]) (t := 3) h (of_decide_eq_true (by kernel_rfl)) (by kernel_rfl) rfl (by kernel_rfl) (by kernel_rfl) Tryz.underlying3 }
def Tryz.Bl : Go.Shelf.Ren := ⟨fun | 146 => 135 | 221 => 215 | 268 => 268 | 138 => 269 | 143 => 270 | 195 => 294 | 197 => 295 | 218 => 296 | 219 => 129 | 260 => 307 | 217 => 208 | 225 => 209 | 224 => 210 | 267 => 211 | 266 => 264 | 314 => 265 | n => n, fun | 9 => 9 | 31 => 243 | 3 => 3 | 4 => 4 | 0 => 0 | 105 => 388 | 21 => 21 | 5 => 5 | 46 => 99 | 119 => 397 | 139 => 400 | 138 => 399 | 146 => 362 | 51 => 260 | n => n, fun | 1 => 2 | 3 => 7 | 4 => 8 | n => n⟩
theorem Tryz.MX : Go.Proofs.Lays.n146 Tryz.prog Tryz.Bl := {
  mixed := by kernel_rfl
  f138 := Tryz.func269.trans (congrArg some (by kernel_rfl))
  f143 := Tryz.func270.trans (congrArg some (by kernel_rfl))
  f146 := Tryz.func135.trans (congrArg some (by kernel_rfl))
  f195 := Tryz.func294.trans (congrArg some (by kernel_rfl))
  f197 := Tryz.func295.trans (congrArg some (by kernel_rfl))
  f217 := Tryz.func208.trans (congrArg some (by kernel_rfl))
  f218 := Tryz.func296.trans (congrArg some (by kernel_rfl))
  f219 := Tryz.func129.trans (congrArg some (by kernel_rfl))
  f221 := Tryz.func215.trans (congrArg some (by kernel_rfl))
  f224 := Tryz.func210.trans (congrArg some (by kernel_rfl))
  f225 := Tryz.func209.trans (congrArg some (by kernel_rfl))
  f260 := Tryz.func307.trans (congrArg some (by kernel_rfl))
  f266 := Tryz.func264.trans (congrArg some (by kernel_rfl))
  f267 := Tryz.func211.trans (congrArg some (by kernel_rfl))
  f268 := Tryz.func268.trans (congrArg some (by kernel_rfl))
  f314 := Tryz.func265.trans (congrArg some (by kernel_rfl))
  t0 := Tryz.underlying0
  a0 := Tryz.isAgg0
  z0 := Tryz.sizeOf0
  v0 := Tryz.zeroValue0
  t3 := Tryz.underlying3
  a3 := Tryz.isAgg3
  z3 := Tryz.sizeOf3
  v3 := Tryz.zeroValue3
  t4 := Tryz.underlying4
  a4 := Tryz.isAgg4
  z4 := Tryz.sizeOf4
  v4 := Tryz.zeroValue4
  t5 := Tryz.underlying5
  a5 := Tryz.isAgg5
  z5 := Tryz.sizeOf5
  v5 := Tryz.zeroValue5
  t9 := Tryz.underlying9
  a9 := Tryz.isAgg9
  z9 := Tryz.sizeOf9
  v9 := Tryz.zeroValue9
  t21 := Tryz.underlying21
  a21 := Tryz.isAgg21
  z21 := Tryz.sizeOf21
  v21 := Tryz.zeroValue21
  t31 := Tryz.underlying243
  a31 := Tryz.isAgg243
  z31 := Tryz.sizeOf243
  v31 := Tryz.zeroValue243
  t46 := Tryz.underlying99
  a46 := Tryz.isAgg99
  z46 := Tryz.sizeOf99
  v46 := Tryz.zeroValue99
  t51 := Tryz.underlying260
  a51 := Tryz.isAgg260
  z51 := Tryz.sizeOf260
  v51 := Tryz.zeroValue260
  t105 := Tryz.underlying388
  a105 := Tryz.isAgg388
  z105 := Tryz.sizeOf388
  v105 := Tryz.zeroValue388
  t119 := Tryz.underlying397
  a119 := Tryz.isAgg397
  z119 := Tryz.sizeOf397
  t138 := Tryz.underlying399
  a138 := Tryz.isAgg399
  z138 := Tryz.sizeOf399
  v138 := Tryz.zeroValue399
  t139 := Tryz.underlying400
  a139 := Tryz.isAgg400
  z139 := Tryz.sizeOf400
  v139 := Tryz.zeroValue400
  t146 := Tryz.underlying362
  a146 := Tryz.isAgg362
  z146 := Tryz.sizeOf362
  v146 := Tryz.zeroValue362
  g1 := by kernel_rfl
  g3 := by kernel_rfl
  g4 := by kernel_rfl }
def Tryz.zk : Go.Shelf.Ren := ⟨fun | 146 => 135 | 221 => 215 | 268 => 268 | 138 => 269 | 143 => 270 | 195 => 294 | 197 => 295 | 218 => 296 | 219 => 129 | 260 => 307 | 217 => 208 | 225 => 209 | 224 => 210 | 267 => 211 | 266 => 264 | 314 => 265 | n => n, fun | 9 => 9 | 31 => 243 | 3 => 3 | 4 => 4 | 0 => 0 | 105 => 388 | 21 => 21 | 5 => 5 | 46 => 99 | 119 => 397 | 139 => 400 | 138 => 399 | 146 => 362 | 51 => 260 | n => n, fun | 1 => 2 | 3 => 7 | 4 => 8 | n => n⟩
theorem Tryz.Sb : Go.Proofs.LaysM.n146 Tryz.prog Tryz.zk := {
  mixed := by kernel_rfl
  f138 := Tryz.func269.trans (congrArg some (by kernel_rfl))
  f143 := Tryz.func270.trans (congrArg some (by kernel_rfl))
  f146 := Tryz.func135.trans (congrArg some (by kernel_rfl))
  f195 := Tryz.func294.trans (congrArg some (by kernel_rfl))
  f197 := Tryz.func295.trans (congrArg some (by kernel_rfl))
  f217 := Tryz.func208.trans (congrArg some (by kernel_rfl))
  f218 := Tryz.func296.trans (congrArg some (by kernel_rfl))
  f219 := Tryz.func129.trans (congrArg some (by kernel_rfl))
  f221 := Tryz.func215.trans (congrArg some (by kernel_rfl))
  f224 := Tryz.func210.trans (congrArg some (by kernel_rfl))
  f225 := Tryz.func209.trans (congrArg some (by kernel_rfl))
  f260 := Tryz.func307.trans (congrArg some (by kernel_rfl))
  f266 := Tryz.func264.trans (congrArg some (by kernel_rfl))
  f267 := Tryz.func211.trans (congrArg some (by kernel_rfl))
  f268 := Tryz.func268.trans (congrArg some (by kernel_rfl))
  f314 := Tryz.func265.trans (congrArg some (by kernel_rfl))
  t0 := Tryz.underlying0
  a0 := Tryz.isAgg0
  z0 := Tryz.sizeOf0
  v0 := Tryz.zeroValue0
  t3 := Tryz.underlying3
  a3 := Tryz.isAgg3
  z3 := Tryz.sizeOf3
  v3 := Tryz.zeroValue3
  t4 := Tryz.underlying4
  a4 := Tryz.isAgg4
  z4 := Tryz.sizeOf4
  v4 := Tryz.zeroValue4
  t5 := Tryz.underlying5
  a5 := Tryz.isAgg5
  z5 := Tryz.sizeOf5
  v5 := Tryz.zeroValue5
  t9 := Tryz.underlying9
  a9 := Tryz.isAgg9
  z9 := Tryz.sizeOf9
  v9 := Tryz.zeroValue9
  t21 := Tryz.underlying21
  a21 := Tryz.isAgg21
  z21 := Tryz.sizeOf21
  v21 := Tryz.zeroValue21
  t31 := Tryz.underlying243
  a31 := Tryz.isAgg243
  z31 := Tryz.sizeOf243
  v31 := Tryz.zeroValue243
  t46 := Tryz.underlying99
  a46 := Tryz.isAgg99
  z46 := Tryz.sizeOf99
  v46 := Tryz.zeroValue99
  t51 := Tryz.underlying260
  a51 := Tryz.isAgg260
  z51 := Tryz.sizeOf260
  v51 := Tryz.zeroValue260
  t105 := Tryz.underlying388
  a105 := Tryz.isAgg388
  z105 := Tryz.sizeOf388
  v105 := Tryz.zeroValue388
  t119 := Tryz.underlying397
  a119 := Tryz.isAgg397
  z119 := Tryz.sizeOf397
  t138 := Tryz.underlying399
  a138 := Tryz.isAgg399
  z138 := Tryz.sizeOf399
  v138 := Tryz.zeroValue399
  t139 := Tryz.underlying400
  a139 := Tryz.isAgg400
  z139 := Tryz.sizeOf400
  v139 := Tryz.zeroValue400
  t146 := Tryz.underlying362
  a146 := Tryz.isAgg362
  z146 := Tryz.sizeOf362
  v146 := Tryz.zeroValue362
  g1 := by kernel_rfl
  g3 := by kernel_rfl
  g4 := by kernel_rfl
  i0 := by kernel_rfl
  i3 := by kernel_rfl
  i4 := by kernel_rfl
  i5 := by kernel_rfl
  i9 := by kernel_rfl
  i21 := by kernel_rfl
  i31 := by kernel_rfl
  i46 := by kernel_rfl
  i51 := by kernel_rfl
  i105 := by kernel_rfl
  i138 := by kernel_rfl
  i139 := by kernel_rfl
  i146 := by kernel_rfl
  m1 := by kernel_rfl
  s1_3 := fun w h => Go.Proofs.cell_of_shapedOpen_int (zero := #[.int .i64 0]) (t := 3) h (of_decide_eq_true (by kernel_rfl)) (by kernel_rfl) rfl (by kernel_rfl) (by kernel_rfl) Tryz.underlying3
  m3 := by kernel_rfl
  m4 := by kernel_rfl }
def Tryz.DC : Go.Shelf.Ren := ⟨fun | 5 => 263 | 7 => 293 | n => n, fun | 23 => 247 | 25 => 9 | 3 => 361 | 4 => 4 | 20 => 20 | n => n, fun | n => n⟩
theorem Tryz.P6 : Go.Proofs.SlLaysW.n5 Tryz.prog Tryz.DC := {
  mixed := by kernel_rfl
  f5 := ⟨Tryz.f263.name, by decide, Tryz.func263.trans (congrArg some (by kernel_rfl))⟩
  f7 := Tryz.func293.trans (congrArg some (by kernel_rfl))
  t4 := Tryz.underlying4
  a4 := Tryz.isAgg4
  z4 := Tryz.sizeOf4
  v4 := Tryz.zeroValue4
  t20 := Tryz.underlying20
  a20 := Tryz.isAgg20
  z20 := Tryz.sizeOf20
  v20 := Tryz.zeroValue20
  t23 := Tryz.underlying247
  a23 := Tryz.isAgg247
  z23 := Tryz.sizeOf247
  v23 := Tryz.zeroValue247 }
end Go.Proofs
namespace Go.Proofs.YthnlpdacbcjgpaaGreatDoor
variable (Fr : Nat → Prop) (w : World)
namespace Kv
open Go Vg T Api Go.Shelf
attribute [local irreducible] VO VC VA
theorem Bm:dS Tryz.prog 263:=⟨_,Tryz.func263,by kernel_rfl,by kernel_rfl⟩
theorem oz{κ α:Type}{c:κ→Value}{d:α→Value}{b:Nat}{xs:List (κ×α)}(Fr:Nat→Prop)(w:World)(h:ou Fr w c d b xs):
  aH Tryz.prog 263 [.map (some b)] Fr w [] (fun v L=>∃b',v=.map (some b')∧L=[gL c d b' xs]):=
 ⟨Bm,fun hl hs=>by
  obtain⟨es,clock,h1,h2,h3⟩:=h.at_
  exact Calls.mono (AnyW.maps_Clone Tryz.P6 b es clock w h1) fun e w' ⟨h4,h5⟩=>⟨_,_,h4,⟨_,Z,Z⟩,by
   subst h5
   exact⟨Sat.alloc hl _ (gL c d w.heap.size xs) ⟨rfl,es,clock,heap_alloc_new w _,h2,h3⟩ Sat.nil,dE.alloc hl _⟩⟩⟩
theorem lZ{p:Nat}{S:Bd}(h:aL Fr [tU p S] w):
  aH Tryz.prog 205 [.pointer (some ⟨p,0,none⟩)] Fr w [] (fun v L=>∃p',v=.pointer (some ⟨p',0,none⟩)∧L=[tU p' S]):=by
 obtain⟨b,hp,hm⟩:=HY h
 refine TF 12 Tryz.func205 Z yn ah Z Z ?_
 refine an ?_
 refine UB ?_
 refine w7 ?_
 refine Tr ?_
 refine VG (VK (Lc:=[]) (fun Fr w hF hs hS=>oz Fr w (hm.of hF hs)) Z Z ?_)
 rintro _ _ ⟨b',rfl,rfl⟩
 refine an ?_
 refine VG (VI (LB (pv:=[(0,.map (some b'))]) [.map (some b')] Z Z Z yn Z) ?_)
 refine VG (VB (vs:=[.map (some b')]) Z fun p'=>?_)
 refine an ?_
 exact CR (ay.tmp 2 Z Z (ae.kv ae.refl).ar ⟨p',Z,Z⟩)
end Kv
namespace Lg
open Go Vg T Api Kv
attribute [local irreducible] VO VC VA
theorem Bn{a:Option Addr}{cap:Nat}{l:List aY}(h:aI cL 7 Fr w a l)(hl:l.length≤1000000):
  aH Tryz.prog 206 [.slice a l.length cap] Fr w [] (fun v L=>∃a' c',v=.slice a' l.length c'∧L=[aJ iE 7 a' l.length c' (flat cL l)]):=by
 refine TF 8 Tryz.func206 Z yn ah Z Z ?_
 cases a with
 | none=>
  obtain rfl:l=[]:=by
   cases l with
   | nil=>rfl
   | cons x l=>obtain⟨b,o,h1,_⟩:=h.at_ yf;cases h1
  refine J5 ?_
  exact Tv
 | some a=>
  refine w7 ?_
  refine CS (CG (VG (VO.buildSlice (n:=0) (pv:=[]) [] Z Z Z Z yp Z fun b=>?_)))
  refine VO.ar (L':=[aJ iE 7 (some ⟨b,0,none⟩) 0 0 []]) (ae.sl (M:=[]) (cs:=[]) (rest:=[]) Z (NR _) Z (ae.refl (L:=[pt b [] iE]))).ar ?_
  refine VG (VO.append (m:=l.length) (news:=flat cL l) 0 Z Z Z Z Z Z Z (aI.row Bf h) (gQ HZ l) (by show(0+l.length)*72≤_;omega) yd fun a' c' _=>?_)
  rw[Zl,ZI]
  refine an ?_
  exact Tw
theorem Bo{a:Option Addr}{cap:Nat}{l:List jC}(h:aI bn 4 Fr w a l)(hl:l.length≤1000000):
  aH Tryz.prog 207 [.slice a l.length cap] Fr w [] (fun v L=>∃a' c',v=.slice a' l.length c'∧L=[aJ jd 4 a' l.length c' (flat bn l)]):=by
 refine TF 8 Tryz.func207 Z yn ah Z Z ?_
 cases a with
 | none=>
  obtain rfl:l=[]:=by
   cases l with
   | nil=>rfl
   | cons x l=>obtain⟨b,o,h1,_⟩:=h.at_ yf;cases h1
  refine J5 ?_
  exact Tv
 | some a=>
  refine w7 ?_
  refine CS (CG (VG (VO.buildSlice (n:=0) (pv:=[]) [] Z Z Z Z yp Z fun b=>?_)))
  refine VO.ar (L':=[aJ jd 4 (some ⟨b,0,none⟩) 0 0 []]) (ae.sl (M:=[]) (cs:=[]) (rest:=[]) Z (NR _) Z (ae.refl (L:=[pt b [] jd]))).ar ?_
  refine VG (VO.append (m:=l.length) (news:=flat bn l) 0 Z Z Z Z Z Z Z (aI.row Bg h) (gQ H0 l) (by show(0+l.length)*40≤_;omega) yd fun a' c' _=>?_)
  rw[Zl,ZI]
  refine an ?_
  exact Tw
theorem lZ{p:Nat}{es:List aY}(h:aL Fr [b9 p es] w)(hl:es.length≤1000000):aH Tryz.prog 128 [.pointer (some ⟨p,0,none⟩)] Fr w [] (fun v L=>∃q,v=.pointer (some ⟨q,0,none⟩)∧L=[b9 q es]):=by
 obtain⟨x,hx⟩:=ta.of h
 have hb:=hx.aP
 unfold ie at hb
 have hrl:=qm es
 refine TF 26 Tryz.func128 Z yn ah Z Z ?_
 refine an ?_
 refine UE ?_
 refine w7 ?_
 refine CS (CD (ts 0 4 (ts 5 4 (ts 10 4 (ts 15 4 (.only 4 (.only 9 (.only 14 (.take 19 (.only 20 (.take 21 .nil)))))))))) yn yr ?_)
 refine Rt ?_
 refine AG (VA.load Z Z Z (aE.lB (ds:=gp es) hb Z) ?_)
 refine AG (AO (OC (Lc:=[]) (R:=fun v L=>∃p',v=.pointer (some ⟨p',0,none⟩)∧L=[tU p' (aO es).1]) Z (.refl _) (fun Fr w hF hs hS=>Kv.lZ Fr w (hx.kv.of hF hs))) Z ?_ ?_)
 ·rintro _ _ ⟨_,⟨q,rfl,rfl⟩,rfl⟩
  exact yz
 rintro _ _ ⟨_,⟨q,rfl,rfl⟩,rfl⟩
 refine AG (AO (OC (Lc:=[]) (R:=fun v L=>∃a' c',v=.slice a' es.length c'∧L=[aJ iE 7 a' es.length c' (flat cL es)]) Z (.refl _) (fun Fr w hF hs hS=>Bn Fr w (hx.R_.of hF hs) hl)) Z ?_ ?_)
 ·rintro _ _ ⟨_,⟨a1,c1,rfl,rfl⟩,rfl⟩
  exact yz
 rintro _ _ ⟨_,⟨a1,c1,rfl,rfl⟩,rfl⟩
 refine AG (AO (OC (Lc:=[]) (R:=fun v L=>∃a' c',v=.slice a' (aO es).2.length c'∧L=[aJ jd 4 a' (aO es).2.length c' (flat bn (aO es).2)]) Z (.refl _) (fun Fr w hF hs hS=>Bo Fr w (hx.Sa.of hF hs) yd)) Z ?_ ?_)
 ·rintro _ _ ⟨_,⟨a2,c2,rfl,rfl⟩,rfl⟩
  exact yz
 rintro _ _ ⟨_,⟨a2,c2,rfl,rfl⟩,rfl⟩
 refine AG (AI Z (LB (pv:=[(0,pV q),(1,.slice a1 es.length c1),(2,.slice a2 (aO es).2.length c2),(3,.agg (gp es).toArray)]) (ie es ⟨q,a1,c1,a2,c2⟩) Z Z Z yn Z) ?_)
 refine AG (AO (a8.box (vs:=ie es ⟨q,a1,c1,a2,c2⟩) Z Z) Z ?_ ?_)
 ·rintro _ _ ⟨pb,rfl,rfl⟩
  exact yz
 rintro _ _ ⟨pb,rfl,rfl⟩
 refine eT ?_
 exact CR (ay.tmp 2 Z Z (ae.log ⟨q,a1,c1,a2,c2⟩ (IP 0 Z (IP 2 Z (IP 1 Z (IP 0 Z ae.nil))))).ar ⟨pb,Z,Z⟩)
end Lg
namespace Rd
open Go Vg T Api Kv Ch
attribute [local irreducible] VO VC VA
theorem jn{n k b M:Nat}(h:n≤k)(hk:k*b≤M):n*b≤M:=ZQ (Nat.mul_le_mul_right b h) hk
def iz(f:aa)(m:kL):List Value:=f.cells m
abbrev g_:TypeId:=204
structure P7 where
 id:Int
 f:aa
 r:jC
abbrev J8:=P7×kL
def jB(x:J8):List Value:=.int .i64 x.1.id::(iz x.1.f x.2++bn x.1.r)
theorem ri(x:J8):(jB x).length=34:=rfl
abbrev mN:TypeId:=216
abbrev H5:TypeId:=189
structure gq where
 cap:Int
 last:Int
 l:List P7
structure Ga where
 a:Option Addr
 c:Nat
 rows:List J8
def rj(R:gq)(x:Ga):List Value:=[.int .i64 R.cap,.int .i64 R.last,.slice x.a x.rows.length x.c]
def Bp(p:Nat)(R:gq)(x:Ga):List HP:=[pt p (rj R x) H5,aJ mN 34 x.a x.rows.length x.c (flat jB x.rows)]
def xl(R:gq)(x:Ga):Prop:=x.rows.map Prod.fst=R.l
def bV(p:Nat)(R:gq):HP:=hex fun x=>cT (gm (xl R x)::Bp p R x)
structure E5(Fr:Nat→Prop)(w:World)(p:Nat)(R:gq)(x:Ga):Prop where
 ok:xl R x
 aP:eQ Fr w p (rj R x)
 rows:aI jB 34 Fr w x.a x.rows
theorem E5.of{Fr:Nat→Prop}{w:World}{p:Nat}{R:gq}(h:aL Fr [bV p R] w):∃x,E5 Fr w p R x:=by
 obtain⟨x,h⟩:=h.ex
 have h:=h.sep
 exact⟨x,h.pure 0 Z,h.aP 1 Z,aI.aJ ri (h.at_ 2 Z)⟩
theorem aV.bC(p:Nat)(R:gq):aV (bV p R) (fun x=>xl R x) (fun x=>Bp p R x):=by
 rintro w ids ⟨s,h⟩ hn
 obtain⟨F,G,rfl,⟨rfl,h1⟩,h2⟩:=h
 exact Tx
theorem ae.bC{p:Nat}{R:gq}{L M:List HP}(x:Ga)(hs:xl R x)(h:ae L (Bp p R x++M)):ae L (bV p R::M):=
 ae.ex x (ae.sep (ae.trans h (ae.app (L:=Bp p R x) (M:=_::Bp p R x) (ae.pure hs ae.refl) ae.refl)))
theorem xl.len{R:gq}{x:Ga}(h:xl R x):x.rows.length=R.l.length:=by rw[←h];simp
def gq.new(cap:Int):gq:=⟨cap,0,[]⟩
theorem dH{c:Int}(h0:1≤c)(h1:c≤16):aH Tryz.prog 51 [.int .i64 c] Fr w [] (fun v L=>∃q,v=.tuple #[.pointer (some ⟨q,0,none⟩),.int .i64 0]∧L=[bV q (gq.new c)]):=by
 refine TF 13 Tryz.func51 Z yn ah Z Z ?_
 refine an ?_
 refine VG (VY 6 false Z (DF yd) ?_)
 refine eP ?_
 refine CP Z (fun h=>by omega) (fun _=>CK ?_)
 refine an ?_
 refine VG (VI (LB (pv:=[(0,.int .i64 c)]) (rj (gq.new c) ⟨none,0,[]⟩) Z Z Z yn Z) ?_)
 refine VG (VB (vs:=rj (gq.new c) ⟨none,0,[]⟩) Z fun q=>?_)
 refine an ?_
 exact CR (ay.cU 2 3 Z Z Z (ae.bC (R:=gq.new c) ⟨none,0,[]⟩ Z (IP 0 Z (ae.bY ae.nil))).ar ⟨q,Z,Z⟩)
section
variable {p:Nat} {R:gq}
theorem bj{c:Int}{cs:List Value}(h:eQ Fr w p (.int .i64 c::cs))(hc:1≤c):aH Tryz.prog 228 [.pointer (some ⟨p,0,none⟩)] Fr w [] (fun v L=>v=.bool false∧L=[]):=by
 refine TF 12 Tryz.func228 Z yn ah Z Z ?_
 refine an ?_
 refine VG (VO.split 5 rfl rfl (fun h=>by cases h) (fun _=>?_))
 refine EW ?_
 exact CR (ay.bool 2 Z Z ye ER ⟨rfl,Z⟩)
theorem fe(h:aL Fr [bV p R] w)(hc:1≤R.cap):aH Tryz.prog 241 [.pointer (some ⟨p,0,none⟩)] Fr w [] (fun v L=>v=.int .i64 R.l.length∧L=[]):=by
 obtain⟨x,hx⟩:=E5.of h
 have hb:=hx.aP
 have hlen:=hx.ok.len
 refine TF 10 Tryz.func241 Z yn ah Z Z ?_
 refine an ?_
 refine VG (VV (fun Fr w hF hs _=>bj Fr w (hb.of hF hs) hc) Z ?_)
 refine w7 ?_
 refine Db ?_
 exact CR (ay.int 2 Z Z (by rw[hlen]) ER ⟨rfl,Z⟩)
def gq.nP(R:gq):Int:=match R.l.getLast? with
 | some x=>x.id
 | none=>0
theorem fF(h:aL Fr [bV p R] w)(hc:1≤R.cap)(hl:R.l.length≤1000000):aH Tryz.prog 176 [.pointer (some ⟨p,0,none⟩)] Fr w [] (fun v L=>v=.tuple #[.int .i64 R.nP,.bool (!R.l.isEmpty)]∧L=[]):=by
 obtain⟨x,hx⟩:=E5.of h
 have hb:=hx.aP
 have hlen:=hx.ok.len
 refine TF 20 Tryz.func176 Z yn ah Z Z ?_
 refine an ?_
 refine VG (VV (fun Fr w hF hs _=>fe Fr w (h.of hF hs) hc) Z ?_)
 refine an ?_
 refine CE Z (fun h1=>?_) (fun h1=>CK ?_)
 ·have h0:R.l=[]:=ZH yd
  refine an ?_
  exact CR (ay.cU 2 3 Z Z Z ER ⟨by rw[gq.nP,h0];rfl,Z⟩)
 ·have hpos:0<x.rows.length:=by omega
  obtain⟨y,hy⟩:∃y,x.rows[x.rows.length-1]?=some y:=⟨_,GE yd⟩
  have hgl:R.l.getLast?=some y.1:=by rw[List.getLast?_eq_getElem?,←hx.ok,Zn,Zm,hy];rfl
  obtain⟨eb,eo,hea,ra,rc⟩:=aI.rd (X:=⟨Tryz.prog,tab,ah,20,Fr,w⟩) hx.rows hy
  have hb2:eQ Fr w p [.int .i64 R.cap,.int .i64 R.last,.slice (some ⟨eb,eo,none⟩) x.rows.length x.c]:=by rw[←hea];exact hb
  refine CS (CD (ts 0 15 .nil) yn yr ?_)
  (repeat(first|refine yG (yN ?_)|refine yG (yE rfl rfl rfl (aE.aP hb2 rfl) ?_)))
  refine QW ?_
  refine AG (AI Z (a_ (x.rows.length-1) Z Z Z Z Z yd yd) ?_)
  refine eT ?_
  refine AG (VA.load Z Z Z (rc _ _ 0 _ Z Z) ?_)
  refine eT ?_
  exact CR (ay.cU 2 3 Z Z Z ER ⟨by
   rw[gq.nP,hgl]
   cases hR:R.l with
   | nil=>exfalso;apply h1;rw[hR];rfl
   | cons _ _=>rfl,rfl⟩)
end
theorem oz{a:Option Addr}{cap:Nat}{l:List bG}(h:aI ax 2 Fr w a l)(hl:l.length≤1000000):
  aH Tryz.prog 260 [.slice a l.length cap] Fr w [] (fun v L=>∃a' c',v=.slice a' l.length c'∧L=[aJ aG 2 a' l.length c' (flat ax l)]):=by
 refine TF 8 Tryz.func260 Z yn ah Z Z ?_
 cases a with
 | none=>
  obtain rfl:l=[]:=by
   cases l with
   | nil=>rfl
   | cons x l=>obtain⟨b,o,h1,_⟩:=h.at_ yf;cases h1
  refine J5 ?_
  exact Tv
 | some a=>
  refine w7 ?_
  refine CS (CG (VG (VO.buildSlice (n:=0) (pv:=[]) [] Z Z Z Z yp Z fun b=>?_)))
  refine UG ?_
  refine VG (VO.append (m:=l.length) (news:=flat ax l) 0 Z Z Z Z Z Z Z (aI.row aF h) (gQ kr _) Ul yd fun a' c' _=>?_)
  rw[Zl,ZI]
  refine an ?_
  exact Tw
theorem rk(f:aa){a:Option Addr}{cap:Nat}{ms:List bG}(h:aI ax 2 Fr w a ms)(hl:ms.length≤1000000):aH Tryz.prog 287 [.agg (iz f (a,ms.length,cap)).toArray] Fr w [] (fun v L=>(∃m,v=.agg (iz f m).toArray)∧L=[]):=by
 refine TF 10 Tryz.func287 Z yn ah Z Z ?_
 refine CS (CG (VG (VB (vs:=iz f (a,ms.length,cap)) Z (fun b=>VG (VO.alloc Z fun c=>VG (VN ?_))))))
 refine jA ?_
 refine VG (VK (Lc:=[]) (fun Fr w hF hs _=>oz Fr w (h.of hF hs) hl) Z Z ?_)
 rintro _ _ ⟨a',c',rfl,rfl⟩
 refine VG (VO.st 2 (cs':=iz f (a',ms.length,c')) Z Z Z Z (by show 24<29;omega) Z Z (VG (VN ?_)))
 refine CS (CG (VG (VL 2 (iz f (a',ms.length,c')) Z Z Z Z (VG (VT (vs:=iz f (a',ms.length,c')) (cs':=iz f (a',ms.length,c')) 1 Z Z Z Z (NR _) Z Z Z (VG (VN ?_)))))))
 exact CR (ay.cell 2 Z Z Z (aE.many 1 Z Z) ae.nil.ar ⟨⟨_,Z⟩,Z⟩)
def gq.put(R:gq)(f:aa)(r:jC):gq:=if (R.l.length:Int)<R.cap then { R with last:=R.last+1,l:=R.l ++ [⟨R.last+1,f,r⟩] } else R
theorem uz(p:Nat)(R:gq)(hc:1≤R.cap)(hc1:R.cap≤16)(h0:0≤R.last)(h1:R.last≤1000000000)(f:aa){a:Option Addr}{cap:Nat}{ms:List bG}(h:aI ax 2 Fr w a ms)(hl:ms.length≤1000000)(r:jC):
  aH Tryz.prog 251 [.pointer (some ⟨p,0,none⟩),.agg (iz f (a,ms.length,cap)).toArray,.agg (bn r).toArray] Fr w [bV p R]
   (fun v L=>v=(if (R.l.length:Int)<R.cap then .tuple #[.int .i64 (R.last+1),.int .i64 0] else .tuple #[.int .i64 0,.int .i64 60])∧L=[bV p (R.put f r)]):=by
 refine TF 50 Tryz.func251 Z yn ah Z Z ?_
 refine CS (CG (VG (VB (vs:=iz f (a,ms.length,cap)) Z fun fb=>VG (VB (vs:=bn r) Z fun rb=>VG (VN ?_)))))
 refine VC.e7 2 Z (aV.bC p R) ?_
 rintro x hx
 have hlen:=hx.len
 unfold Bp
 show VC _ _ _ [pt p (rj R x) H5,aJ mN 34 x.a x.rows.length x.c (flat jB x.rows),pt rb (bn r) 153,pt fb (iz f (a,ms.length,cap)) g_] _
 refine an ?_
 refine VG (VV (fun Fr w hF hs hS=>bj Fr w (hS.aP 0 Z) hc) Z ?_)
 refine an ?_
 refine HF ?_
 refine CS (CD (ts 0 11 .nil) yn yr ?_)
 refine eT ?_
 by_cases hfull:(R.l.length:Int)<R.cap
 ·refine CP Z (fun h=>by omega) (fun _=>CK ?_)
  refine Ov ?_
  refine VG (VO.st 0 (cs':=[.int .i64 R.cap,.int .i64 (R.last+1),.slice x.a x.rows.length x.c]) Z Z Z Z (Zo Z) Z Z ?_)
  refine AM ?_
  refine CS (CD (ts 0 10 (.take 11 (.only 10 (.take 12 (.only 13 (.only 14 (ts 15 2 (.only 17 .nil)))))))) yn yr ?_)
  refine eT ?_
  refine AG (VA.kn 3 (iz f (a,ms.length,cap)) Z Z Z Z Z ?_)
  refine AG (VA.kn 2 (bn r) Z Z Z Z Z ?_)
  refine AG (VA.c_ (φ:=fun v=>∃m,v=.agg (iz f m).toArray) (fun Fr w hF hs hS=>rk Fr w f (h.of hF hs) hl) Z Z yu ?_)
  rintro _ ⟨m,rfl⟩
  refine AG (AI Z (LB (pv:=[(0,.int .i64 (R.last+1)),(1,.agg (iz f m).toArray),(2,.agg (bn r).toArray)]) (jB (⟨R.last+1,f,r⟩,m)) Z Z Z yn Z) ?_)
  refine AG (AO (a8.buildSlice (n:=1) (pv:=[(0,.agg (jB (⟨R.last+1,f,r⟩,m)).toArray)]) (cells:=jB (⟨R.last+1,f,r⟩,m)) Z Z Z Z yp (bM Z Z Z)) Z ?_ ?_)
  ·rintro _ _ ⟨nb,rfl,rfl⟩
   exact yu
  rintro _ _ ⟨nb,rfl,rfl⟩
  refine AG (AO (a8.append (m:=1) (news:=jB (⟨R.last+1,f,r⟩,m)) 2 Z Z Z Z Z Z Z (dq.pt 0 Z Z Z) Z (jn (k:=101) yd yp) yd) Z ?_ ?_)
  ·rintro _ _ ⟨a1,c1,rfl,hc1,rfl⟩
   exact yu
  rintro _ _ ⟨a1,c1,rfl,hc1,rfl⟩
  refine J0 ?_
  refine AG (VA.st 2 (cs':=[.int .i64 R.cap,.int .i64 (R.last+1),.slice a1 (x.rows.length+1) c1]) Z Z Z Z Z (Zo Z) Z Z yu ?_)
  refine J0 ?_
  refine sf ?_
  have hput:R.put f r={ R with last:=R.last+1,l:=R.l ++ [⟨R.last+1,f,r⟩] }:=by rw[gq.put,if_pos hfull]
  refine CR (ay.cU 6 7 Z Z Z (ae.bC ⟨a1,c1,x.rows ++ [(⟨R.last+1,f,r⟩,m)]⟩ (R:=R.put f r) ?_ ?_).ar ⟨by rw[if_pos hfull],Z⟩)
  ·rw[hput];show List.map _ _=_;rw[ZL,hx];rfl
  ·rw[hput]
   unfold Bp rj
   rw[Zh,bf,bL,e_,Zi]
   exact(dG [2,0])
 ·refine CP Z (fun h=>?_) (fun h=>by omega)
  have hput:R.put f r=R:=by rw[gq.put,if_neg hfull]
  refine an ?_
  exact CR (ay.cU 6 7 Z Z Z (ae.bC x hx (IP 0 Z (IP 0 Z ae.nil))).ar ⟨by rw[if_neg hfull],by rw[hput]⟩)
end Rd
namespace Vg
open Go
structure Ext(P:Program)(f:FuncId)(fn:Func)(g:Array Value→Sem Value):Prop where
 at_:P.funcs[f]?=some fn
 nm:(fn.name == "runtime.NumGoroutine")=false
 nb:fn.body.isNone=true
 nn:Extern.findNext fn=none
 ex:Extern.find fn=some g
theorem xm(a:Act)(f:FuncId)(args:Array Operand)(tys:Array TypeId)(dst:Option Tmp)(ty:TypeId)(pos:String)(after:Array Edge)(guard:Option (Nat×Bool)):
  execOp a.eval ⟨dst,.call ⟨.value (.func f),args,tys⟩,ty,pos,after,guard⟩=callFunc f (args.map a.eval):=by
 have ef:a.eval (.func f)=.func (.func f) #[] #[]:=rfl
 unfold execOp
 simp[resolve,Deferred.ofValue,invoke,ef]
section
variable {X:Cx} {e:Env} {L:List HP}
end
theorem kx{Fr:Nat→Prop}{B:Nat}{w w':World}(hF:∀b,Fr b→b<B)(h:RowKit.Below B w w')(hd:wx w w'):dE Fr w w':=⟨h.os,h.tape,h.output,h.size,fun b hb=>h.block b (hF b hb),hd⟩
theorem aH.uA{P:Program}{f:FuncId}{args:List Value}{Fr:Nat→Prop}{w:World}{u:Value}(hc:dS P f)(h:Calls P f args.toArray w fun e w'=>e=.returned u∧RowKit.Below w.heap.size w w'∧wx w w'):
  aH P f args Fr w [] (fun v L=>v=u∧L=[]):=
 ⟨hc,fun hl _=>Calls.mono h fun e w' ⟨h1,h2⟩=>⟨u,[],h1,⟨rfl,rfl⟩,Sat.nil,kx hl h2.1 h2.2⟩⟩
theorem aH.MY{P:Program}{f:FuncId}{args:List Value}{Fr:Nat→Prop}{w:World}{u:Value}(hc:dS P f)(h:Calls P f args.toArray w fun e w'=>e=.returned u∧∃k os,w'=Sort.grow (w.drewN k) os):
  aH P f args Fr w [] (fun v L=>v=u∧L=[]):=
 aH.uA hc (Calls.mono h fun e w' ⟨h1,k,os,h2⟩=>⟨h1,by
  subst h2
  exact⟨⟨rfl,Z,Z,by show w.heap.size≤(w.heap++os).size;rw[Array.size_append];omega,fun j hj=>by
   show(w.heap++os)[j]?=w.heap[j]?
   rw[Array.getElem?_append,if_pos hj]⟩,wx.up (Nat.le_add_right _ _)⟩⟩)
structure uB(P:Program)(Fr:Nat→Prop)(w:World)(nm:String)(k:IntKind)(zs:List Int):Prop where
 fr:∃g,P.globalNamed nm=some g∧Fr g
 is:Lib.TabIs P w nm k zs
theorem uB.cJ{P:Program}{Fr Fr':Nat→Prop}{w w':World}{nm:String}{k:IntKind}{zs:List Int}(h:uB P Fr w nm k zs)(hF:∀b,Fr b→Fr' b)(hk:dE Fr w w'):uB P Fr' w' nm k zs:=by
 obtain⟨⟨g,hg,hf⟩,hi⟩:=h
 refine⟨⟨g,hg,hF g hf⟩,?_⟩
 unfold Lib.TabIs World.var? at hi ⊢
 rw[hg] at hi ⊢
 simp only[ZJ] at hi ⊢
 rw[hk.block g hf];exact hi
def oA(b:Nat)(v:Value):List Nat:=b::v.ownBlock.toList
section
variable {X:Cx} {ops:Array Oper} {G:GS} {l:List Oper} {pl:iZ} {S:lA} {e:Env} {L:List HP} {K:Env→List HP→Prop}
  {dst:Option Tmp} {ty:TypeId} {pos:String} {after:Array Edge} {guard:Option (Nat×Bool)}
theorem VO.zl{T:TypeId}{ti:TI}(hT:aM X.tab T=some ti)(hk:∀b,X.w0.heap.size≤b→VO X ops G l (cC dst (.pointer (some ⟨b,0,none⟩)) e) (pt b ti.zs T::L) K)
  (hg:gP ops G guard=some true:=by rfl) (hd:bA X.n dst=true:=by rfl) (hf:br G dst=true:=by rfl):
  VO X ops G (⟨dst,.alloc T,ty,pos,after,guard⟩::l) e L K:=by
 refine VO.op (M:=fun u L'=>∃b,X.w0.heap.size≤b∧u=.pointer (some ⟨b,0,none⟩)∧L'=pt b ti.zs T::L) hg hd hf ?_ (fun _ _ ⟨b,h0,h1,h2⟩=>by subst h1;subst h2;exact hk b h0)
 intro a w _ hw dst ty pos after guard
 refine .inl ⟨.pointer (some ⟨w.heap.size,0,none⟩),w.alloc (.cells ti.zs.toArray T),pt w.heap.size ti.zs T::L,?_,⟨w.heap.size,hw.cJ.size,Z,Z⟩,hw.alloc ti.zs T⟩
 have h:=X.ok.look hT
 simp[execOp,Instr.alloc,ko h,newVar,newRow,newObj,Sem.run,h.zero]
end
end Vg
namespace Vg
open Go
def Br(tB:TypeId)(w:World)(x:Nat):Prop:=∃o,w.heap[x]?=some o∧∀c fz,o≠.cells c tB fz
def NB(tB:TypeId)(H:HP):Prop:=∀ids w,H.sat ids w→∀x∈ids,Br tB w x
section
variable {tB:TypeId}
theorem NB.pt{b t:Nat}{cs:List Value}(h:t≠tB):NB tB (pt b cs t):=fun ids w ⟨h1,h2⟩ x hx=>by
 subst h1
 simp only[ZC] at hx;subst hx
 exact⟨_,h2,fun c fz e=>by cases e;exact h rfl⟩
theorem NB.map{κ α:Type}{c:κ→Value}{d:α→Value}{b:Nat}{xs:List (κ×α)}:NB tB (gL c d b xs):=fun ids w ⟨h1,es,k,h2,_⟩ x hx=>by
 subst h1
 simp only[ZC] at hx;subst hx
 exact⟨_,h2,fun c fz e=>by cases e⟩
theorem NB.pure{φ:Prop}:NB tB (gm φ):=fun ids w ⟨h1,_⟩ x hx=>by subst h1;cases hx
theorem NB.ex{α:Type}{f:α→HP}(h:∀x,NB tB (f x)):NB tB (hex f):=fun ids w ⟨x,hx⟩=>h x ids w hx
theorem dK.nb:∀{L:List HP} {F:List Nat} {w:World},(∀H∈L,NB tB H)→dK L F w→∀x∈F,Br tB w x
 | [],F,w,_,h,x,hx=>by cases h;cases hx
 | H::L,F,w,hL,⟨i,G,hF,hi,hG⟩,x,hx=>by
  subst hF
  rcases Zq.1 hx with hx | hx
  ·exact hL H yf i w hi x hx
  ·exact dK.nb (fun K hK=>hL K (by simp[hK])) hG x hx
theorem NB.sep{L:List HP}(h:∀H∈L,NB tB H):NB tB (cT L):=fun ids w hs x hx=>dK.nb h hs x hx
theorem NB.sl{el esz n cap:Nat}{a:Option Addr}{cs:List Value}(h:el≠tB):NB tB (aJ el esz a n cap cs):=fun ids w ⟨_,hc⟩ x hx=>by
 rcases hc with ⟨_,_,_,rfl⟩ | ⟨b,rest,_,rfl,_,_,hb⟩
 ·cases hx
 ·simp only[ZC] at hx;subst hx
  exact⟨_,hb,fun c fz e=>by cases e;exact h rfl⟩
theorem hO:∀H∈([]:List HP),NB tB H:=fun _ h=>by cases h
theorem dW{H:HP}{L:List HP}(h:NB tB H)(hL:∀K∈L,NB tB K):∀K∈H::L,NB tB K:=fun K hK=>by
 rcases Zt.1 hK with rfl | hK
 ·exact h
 ·exact hL K hK
end
theorem a8.OL{X:Cx}{f:FuncId}{args:Array Operand}{tys:Array TypeId}{e:Env}{L Lc Lr:List HP}{vals:List Value}{R:Value→List HP→Prop}
  (hargs:lz e args.toList=some vals) (hp:L.Perm (Lc++Lr))
  (ht:∀Fl w,St X L w→dK Lr Fl w→aH X.P f vals (fun b=>X.Fr b∨b∈Fl) w Lc R):
  a8 X (.call ⟨.value (.func f),args,tys⟩) e L (fun v L'=>∃L1,R v L1∧L'=L1++Lr):=by
 intro a w ha hw dst ty pos after guard
 obtain⟨F,hs,hnd,hb⟩:=hw.sat.perm hp
 obtain⟨Fc,Fl,rfl,hsc,hsl⟩:=dK.append.1 hs
 have T:=ht Fl w hw hsl
 have hev:args.map a.eval=vals.toArray:=by
  have:=ha.lz hargs
  apply ZP.1
  simpa using this
 refine .inr (.inr ⟨f,vals.toArray,?_,?_⟩)
 ·rw[←hev];exact ui T.oh a args tys dst ty pos after guard w
 ·obtain⟨hnc,hnl,hdis⟩:=ZD.1 hnd
  refine Calls.mono (T.calls (fun b h=>?_) ⟨Fc,hsc,hnc,fun b h=>⟨fun h'=>?_,(hb b ya).2⟩⟩) fun en w' ⟨v,L',h1,h2,h3,h4⟩=>?_
  ·rcases h with h | h
   ·exact hw.nX b h
   ·exact(hb b ya).2
  ·rcases h' with h' | h'
   ·exact(hb b ya).1 h'
   ·exact hdis b h b h' rfl
  ·refine⟨v,L'++Lr,h1,⟨L',h2,Z⟩,⟨?_,hw.cJ.trans (h4.mono fun b h=>.inl h),hw.low⟩⟩
   obtain⟨G,hG,hGn,hGb⟩:=h3
   refine⟨G++Fl,dK.append.2 ⟨G,Fl,Z,hG,hsl.loc fun b h=>h4.block b (.inr h)⟩,?_,?_⟩
   ·exact Us
   ·intro b h
    rcases Zq.1 h with h | h
    ·exact Ut
    ·exact Tm
theorem a8.zn{X:Cx}{e:Env}{L:List HP}{f:FuncId}{args:Array Operand}{tys:Array TypeId}{vals:List Value}{H:HP}{R:Value→List HP→Prop}{ψ:Value→HP→Prop}(i:Nat)
  (hL:L[i]?=some H) (ht:∀Fl w,St X L w→dK (L.eraseIdx i) Fl w→aH X.P f vals (fun b=>X.Fr b∨b∈Fl) w [H] R) (hargs:lz e args.toList=some vals)
  (hR:∀v L1,R v L1→∃H',L1=[H']∧ψ v H'):
  a8 X (.call ⟨.value (.func f),args,tys⟩) e L (fun v L'=>∃H',ψ v H'∧L'=L.set i H'):=by
 intro a w ha hw dst ty pos after guard
 have hi:i<L.length:=(Zk.1 hL).1
 have key:∀v w' L',(∃L1,R v L1∧L'=L1++L.eraseIdx i)→St X L' w'→∃L'',(∃H',ψ v H'∧L''=L.set i H')∧St X L'' w':=by
  rintro v w' _ ⟨L1,h1,rfl⟩ hs
  obtain⟨H',rfl,hψ⟩:=hR v L1 h1
  exact Uu
 rcases a8.OL (R:=R) hargs (Lc:=[H]) (Lr:=L.eraseIdx i) (bJ hL) ht a w ha hw dst ty pos after guard with ⟨v,w',L',h1,h2,h3⟩ | ⟨w',L',h1,h2,h3⟩ | ⟨f,args,h1,h2⟩
 ·obtain⟨L'',h4,h5⟩:=key _ _ _ h2 h3
  exact Tn
 ·obtain⟨L'',h4,h5⟩:=key _ _ _ h2 h3
  exact To
 ·refine .inr (.inr ⟨f,args,h1,Calls.mono h2 fun en w' ⟨v,L',h3,h4,h5⟩=>?_⟩)
  obtain⟨L'',h6,h7⟩:=key _ _ _ h4 h5
  exact⟨v,L'',h3,h6,h7⟩
theorem zp{w w':World}{B e n:Nat}{v:Value}{xs:List Value}(h:w.ownsRowF B e 1 v n xs)(hb:∀g,v.ownBlock=some g→w'.heap[g]?=w.heap[g]?):w'.ownsRowF B e 1 v n xs:=by
 refine⟨h.1,h.2.imp id ?_⟩
 rintro⟨g,cap,cur,fz,rfl,h1,h2,h3⟩
 exact⟨g,cap,cur,fz,Z,h1,(hb g Z).trans h2,h3⟩
def DD(T el B b:Nat)(bs:List Value):HP:=
  ⟨fun ids w=>∃(v:Value) (p:Option Addr),(p=none∨p=some ⟨b,0,none⟩)∧ids=oA b v∧B≤b∧w.heap[b]?=some (.cells #[.pointer p,v] T (0,0))∧w.ownsRowF B el 1 v bs.length bs∧v.ownBlock≠some b,
   fun ids w w' hb ⟨v,p,h1,h2,h3,h4,h5,h6⟩=>⟨v,p,h1,h2,h3,(hb b (by simp[h2,oA])).trans h4,zp h5 (fun g hg=>hb g (by simp[h2,oA,hg])),h6⟩⟩
theorem zr{T el B b:Nat}{bs:List Value}{Fr:Nat→Prop}{w:World}(h:Sat Fr [DD T el B b bs] w):Lib.IsBuilderF T el B b bs w∧B≤w.heap.size∧¬Fr b:=by
 obtain⟨F,⟨ids,G,hF,⟨v,p,h1,h2,h3,h4,h5,h6⟩,hG⟩,hn,hb⟩:=h
 have hlt:b<w.heap.size:=(ZZ.1 h4).1
 refine⟨?_,by omega,(hb b (by rw[hF,h2];simp[oA])).1⟩
 rcases h1 with rfl | rfl
 ·exact .inl ⟨h3,v,h4,h5,h6⟩
 ·exact .inr ⟨h3,v,h4,h5,h6⟩
theorem E6{T el B b:Nat}{bs:List Value}{Fr:Nat→Prop}{w w':World}(hF:∀x,Fr x→x<B∨Br el w x)(hk:Lib.OthersKept el (some b) w w')(hb0:¬Fr b)(h:Lib.BuilderAtF T el B b (.pointer (some ⟨b,0,none⟩)) bs w'):Sat Fr [DD T el B b bs] w':=by
 obtain⟨hB,v,h4,h5,h6⟩:=h
 have hlt:b<w'.heap.size:=(ZZ.1 h4).1
 refine⟨oA b v,⟨oA b v,[],by simp,⟨v,_,.inr Z,Z,hB,h4,h5,h6⟩,Z⟩,?_,?_⟩
 ·unfold oA
  cases hv:v.ownBlock with
  | none=>simp
  | some g=>
   simp only[Option.toList_some,List.nodup_cons,ZC,ZO,not_false_eq_true,List.nodup_nil,and_self,and_true]
   intro e;exact h6 (by rw[hv,e])
 ·intro x hx
  unfold oA at hx
  rcases Zt.1 hx with rfl | hx
  ·exact⟨hb0,hlt⟩
  ·have hv:v.ownBlock=some x:=by simpa using hx
   obtain⟨h7,h8⟩:=h5.lt x hv
   refine⟨fun h=>?_,h8⟩
   rcases hF x h with h9 | ⟨o,ho,hne⟩
   ·omega
   ·have hxb:some x≠some b:=fun e=>by rw[←e] at h6;exact h6 hv
    have:=hk x o ho hxb hne
    rcases h5.2 with ⟨h10,_⟩ | ⟨g,cap,cur,fz,h10,_,h11,_⟩
    ·rw[h10] at hv;cases hv
    ·rw[h10] at hv
     obtain rfl:g=x:=by simpa[Value.ownBlock] using hv
     rw[h11] at this
     exact hne cur fz (Zy this).symm
theorem ae.DD{L M:List HP}{T el B b:Nat}(hB:B≤b)(h:ae L (pt b [.pointer none,.slice none 0 0] T::M)):ae L (DD T el B b []::M):=fun w F hs hn=>by
 obtain⟨F',⟨G,K,rfl,⟨rfl,hG⟩,hK⟩,h2,h3⟩:=h w F hs hn
 exact⟨[b]++K,⟨[b],K,Z,⟨.slice none 0 0,none,.inl Z,Z,hB,hG,World.ownsRowF_nil _ _ _ _,by simp[Value.ownBlock]⟩,hK⟩,h2,h3⟩
theorem oB{Fr:Nat→Prop}{B tB b:Nat}{w w':World}(hF:∀x,Fr x→x<B∨Br tB w x)(hb0:¬Fr b)(h:RowKit.Below B w w')(hk:Lib.OthersKept tB (some b) w w')(hd:wx w w'):dE Fr w w':=
 ⟨h.os,h.tape,h.output,h.size,fun x hx=>by
  rcases hF x hx with h9 | ⟨o,ho,hne⟩
  ·exact h.block x h9
  ·rw[ho]
   exact hk x o ho (fun e=>hb0 ((Zy e)▸hx)) hne,hd⟩
theorem RL.Ok.ld{α:Type}{c:α→List Value}{n t:Nat}{r:RL α}(h:r.Ok c n){k:Nat}{x:α}(hx:r.xs[k]?=some x)(hc:(c x).length=n):∃b off,r.aP=some b∧r.addr=some ⟨b,off,Option.none⟩ ∧
  ∀{X:Cx} {L:List HP} (i:Nat),L[i]?=some (r.h t)→(∀ti:TI,n=ti.size→ti.aU.agg=true→aE X L ti b (off+k*n) (.agg (c x).toArray)) ∧
   ∀(ti:TI) (j:Nat) (v:Value),ti.aU.agg=false→(c x)[j]?=some v→aE X L ti b (off+k*n+j) v:=by
 obtain⟨b,off,h1,h2,h3⟩:=h.nth hx
 refine⟨b,off,h1,h2,fun {X L} i hL=>?_⟩
 rw[RL.Pm h1] at hL
 refine⟨fun ti hn ha=>aE.many i hL (by rw[←hn];exact h3) (by rw[hc,hn]) ha,fun ti j v ha hv=>aE.one i hL ?_ ha⟩
 rw[←h3,List.getElem?_take] at hv
 split at hv
 ·rw[List.getElem?_drop] at hv;exact hv
 ·cases hv
end Vg
namespace Rd
open Go Vg T Api Kv Ch
attribute [local irreducible] VO VC VA
theorem Bt{Fr Fr':Nat→Prop}{w w':World}{b:Nat}{cs:List Value}(h:eQ Fr w b cs)(hF:∀b,Fr b→Fr' b)(hk:dE Fr w w'):eQ Fr' w' b cs:=by
 obtain⟨t,fz,ht⟩:=h.at_
 exact⟨hF b h.fr,t,fz,by rw[hk.block b h.fr];exact ht⟩
theorem l8(p:Nat)(R:gq)(hc:1≤R.cap)(hl:R.l.length≤100)(g:FuncId)(capt:List Value)(st:P7→Bool)
  (hg:∀Fr' w',(∀b,Fr b→Fr' b)→dE Fr w w'→∀row:J8,aH Tryz.prog g (.agg (jB row).toArray::capt) Fr' w' [] (fun v L=>v=.bool (st row.1)∧L=[])):
  aH Tryz.prog 159 [.pointer (some ⟨p,0,none⟩),pS g [] capt] Fr w [bV p R]
   (fun v L=>∃a c rows,rows.map Prod.fst=R.l.filter (fun x=>!st x)∧v=.slice a rows.length c∧L=[bV p { R with l:=R.l.filter st },aJ mN 34 a rows.length c (flat jB rows)]):=by
 refine TF 37 Tryz.func159 Z yn ah Z Z ?_
 refine VC.e7 0 Z (aV.bC p R) ?_
 rintro x hx
 have hlen:=hx.len
 unfold Bp
 show VC _ _ _ [pt p (rj R x) H5,aJ mN 34 x.a x.rows.length x.c (flat jB x.rows)] _
 refine an ?_
 refine VG (VV (fun Fr w hF hs hS=>bj Fr w (hS.aP 0 Z) hc) Z ?_)
 refine w7 ?_
 refine VC.e7 1 Z (aV.rl mN x.a x.c x.rows ri) ?_
 rintro r ⟨rok,hrv,hrx⟩
 show VC _ _ _ [r.h mN,pt p (rj R x) H5] _
 refine jA ?_
 refine VC.loop (σ:=Nat×List J8×List J8×(Option Addr×Nat)×(Option Addr×Nat)) (fun y=>[(0,pV p),(1,pS g [] capt),(5,.slice y.2.2.2.1.1 y.2.1.length y.2.2.2.1.2),(6,.slice y.2.2.2.2.1 y.2.2.1.length y.2.2.2.2.2),(14,.slice x.a x.rows.length x.c),(15,.int .i64 x.rows.length),(16,.int .i64 y.1)])
  (fun y=>[aJ mN 34 y.2.2.2.1.1 y.2.1.length y.2.2.2.1.2 (flat jB y.2.1),aJ mN 34 y.2.2.2.2.1 y.2.2.1.length y.2.2.2.2.2 (flat jB y.2.2.1),pt p (rj R x) H5,r.h mN])
  (fun y=>y.1≤x.rows.length∧y.2.1.map Prod.fst=(R.l.take y.1).filter st∧y.2.2.1.map Prod.fst=(R.l.take y.1).filter (fun z=>!st z)∧y.2.1.length≤y.1∧y.2.2.1.length≤y.1) (fun y=>x.rows.length-y.1) (0,[],[],(none,0),(none,0))
  ⟨Zj _,rfl,rfl,NR _,NR _⟩ bd (ae.bY (ae.bY (dG [1,0]))).ar ?_
 rintro⟨i,K,D,⟨ak,ck⟩,⟨ag,cg⟩⟩ ⟨hi,hK,hD,hKl,hDl⟩
 dsimp only at hi hK hD hKl hDl ⊢
 refine an ?_
 refine CP Z (fun h1=>CK ?_) (fun h1=>CX ?_)
 ·have hi2:i<x.rows.length:=by omega
  obtain⟨row,hrow⟩:∃row,x.rows[i]?=some row:=⟨_,GE hi2⟩
  have hli:R.l[i]?=some row.1:=by rw[←hx,Zn,hrow];rfl
  have htk:R.l.take (i+1)=R.l.take i ++ [row.1]:=by rw[Zu,hli];rfl
  obtain⟨rb,ro,r1,r2,hrd⟩:=rok.ld (t:=mN) (hrx▸hrow) rfl
  have hxa:x.a=some ⟨rb,ro,none⟩:=by rw[RL.v,r2,hrx] at hrv;injection hrv with e1;exact e1.symm
  rw[hxa]
  refine Kl ?_
  refine VG (VO.load Z Z ((hrd 3 Z).1 _ Z Z) ?_)
  refine VG (VO.alloc Z fun tb=>?_)
  refine VG (VT (vs:=jB row) 0 Z Z Z Z (NR _) Z Z Z ?_)
  refine VR ?_
  refine VG (VO.si (u:=.bool (st row.1)) Z (fun Fr w hF hs hS=>hg Fr w hF hs.cJ row) Z ?_)
  refine an ?_
  refine CC Z (fun hst=>?_) (fun hst=>?_)
  ·refine VR ?_
   refine VG (VO.buildSlice (n:=1) (pv:=[(0,.agg (jB row).toArray)]) (jB row) Z Z Z Z yp (bM Z Z Z) fun nb=>?_)
   refine VG (VO.append (m:=1) (news:=jB row) 2 Z Z Z Z Z Z Z (dq.pt 0 Z Z Z) Z (jn (k:=201) yd yp) yd fun a2 c2 hc2=>?_)
   refine sd ?_
   have hL:(K ++ [row]).length=K.length+1:=by simp
   have hF:flat jB (K ++ [row])=flat jB K++jB row:=by simp[bf,bL,e_]
   refine⟨(i+1,K ++ [row],D,(a2,c2),(ag,cg)),⟨hi2,?_,?_,by dsimp only;rw[hL];omega,by dsimp only;omega⟩,by dsimp only;omega,SC Z (SC Z (SC Rn bd)),?_⟩
   ·dsimp only;rw[ZL,hK,htk,List.filter_append];simp[hst]
   ·dsimp only;rw[hD,htk,List.filter_append];simp[hst]
   ·dsimp only;rw[hL,hF];exact(dG [0,2,2,2]).ar
  ·refine VR ?_
   refine VG (VO.buildSlice (n:=1) (pv:=[(0,.agg (jB row).toArray)]) (jB row) Z Z Z Z yp (bM Z Z Z) fun nb=>?_)
   refine VG (VO.append (m:=1) (news:=jB row) 3 Z Z Z Z Z Z Z (dq.pt 0 Z Z Z) Z (jn (k:=201) yd yp) yd fun a2 c2 hc2=>?_)
   refine sd ?_
   have hL:(D ++ [row]).length=D.length+1:=by simp
   have hF:flat jB (D ++ [row])=flat jB D++jB row:=by simp[bf,bL,e_]
   refine⟨(i+1,K,D ++ [row],(ak,ck),(a2,c2)),⟨hi2,?_,?_,by dsimp only;omega,by dsimp only;rw[hL];omega⟩,by dsimp only;omega,SC Z (SC Z (SC Z (SC Rn bd))),?_⟩
   ·dsimp only;rw[hK,htk,List.filter_append];simp[hst]
   ·dsimp only;rw[ZL,hD,htk,List.filter_append];simp[hst]
   ·dsimp only;rw[hL,hF];exact(dG [3,0,2,2]).ar
 ·obtain rfl:i=x.rows.length:=by omega
  rw[hlen,ZF] at hK hD
  refine an ?_
  refine VG (VO.st 2 (cs':=[.int .i64 R.cap,.int .i64 R.last,.slice ak K.length ck]) Z Z Z Z (Zo Z) Z Z ?_)
  refine an ?_
  exact CR (ay.tmp 4 Z Z (ae.bC (R:={ R with l:=R.l.filter st }) ⟨ak,ck,K⟩ hK (IP 2 Z (IP 0 Z (IP 0 Z ae.nil)))).ar ⟨ag,cg,D,hD,Z,Z⟩)
section
variable {p:Nat} {R:gq}
def jD(id:Int)(x:P7):Bool:=decide (id<x.id)
def pW(now:Int)(x:P7):Bool:=decide (now≤x.f.deadline)
theorem DE{b:Nat}{id:Int}(hb:eQ Fr w b [.int .i64 id])(row:J8):aH Tryz.prog 259 [.agg (jB row).toArray,.pointer (some ⟨b,0,none⟩)] Fr w [] (fun v L=>v=.bool (jD id row.1)∧L=[]):=by
 refine TF 8 Tryz.func259 Z yn ah Z Z ?_
 refine CS (CG (VG (VB (vs:=jB row) Z fun rb=>?_)))
 refine Xg ?_
 exact CR (ay.tmp 3 Z Z ae.nil.ar ⟨rfl,Z⟩)
theorem zt{b:Nat}{now:Int}(hb:eQ Fr w b [.int .i64 now])(row:J8):aH Tryz.prog 160 [.agg (jB row).toArray,.pointer (some ⟨b,0,none⟩)] Fr w [] (fun v L=>v=.bool (pW now row.1)∧L=[]):=by
 refine TF 9 Tryz.func160 Z yn ah Z Z ?_
 refine CS (CG (VG (VB (vs:=jB row) Z fun rb=>?_)))
 refine Xg ?_
 exact CR (ay.tmp 3 Z Z ae.nil.ar ⟨rfl,Z⟩)
theorem Bu(row:J8):aH Tryz.prog 292 [.agg (jB row).toArray] Fr w [] (fun v L=>v=.bool false∧L=[]):=by
 refine TF 3 Tryz.func292 Z yn ah Z Z ?_
 refine CS (CG (VG (VB (vs:=jB row) Z fun rb=>?_)))
 refine an ?_
 exact Kf
theorem Gb(hc:1≤R.cap)(hl:R.l.length≤100)(id:Int):aH Tryz.prog 199 [.pointer (some ⟨p,0,none⟩),.int .i64 id] Fr w [bV p R]
   (fun v L=>∃a c rows,rows.map Prod.fst=R.l.filter (fun x=>!jD id x)∧v=.slice a rows.length c∧L=[bV p { R with l:=R.l.filter (jD id) },aJ mN 34 a rows.length c (flat jB rows)]):=by
 refine TF 8 Tryz.func199 Z yn ah Z Z ?_
 refine CS (CG (VG (VO.OI (a8.box (vs:=[.int .i64 id]) Z Z) ?_)))
 rintro _ _ ⟨b,rfl,rfl⟩
 refine an ?_
 refine Uv ?_
 refine VO.ar (L':=[bV p R,pt b [.int .i64 id] 3]) (dG [1,0]).ar ?_
 refine VG (VK (Lc:=[bV p R]) (fun Fr w hF hw hS=>l8 Fr w p R hc hl 259 [.pointer (some ⟨b,0,none⟩)] (jD id) (fun Fr' w' hF' hk row=>DE Fr' w' (Bt (hS.aP 0 Z) hF' hk) row)) Z Z ?_)
 rintro _ _ ⟨a,c,rows,h1,rfl,rfl⟩
 refine an ?_
 exact Xh
theorem ig(hc:1≤R.cap)(hl:R.l.length≤100)(now:Int):aH Tryz.prog 96 [.pointer (some ⟨p,0,none⟩),.int .i64 now] Fr w [bV p R]
   (fun v L=>∃a c rows,rows.map Prod.fst=R.l.filter (fun x=>!pW now x)∧v=.slice a rows.length c∧L=[bV p { R with l:=R.l.filter (pW now) },aJ mN 34 a rows.length c (flat jB rows)]):=by
 refine TF 8 Tryz.func96 Z yn ah Z Z ?_
 refine CS (CG (VG (VO.OI (a8.box (vs:=[.int .i64 now]) Z Z) ?_)))
 rintro _ _ ⟨b,rfl,rfl⟩
 refine an ?_
 refine Uv ?_
 refine VO.ar (L':=[bV p R,pt b [.int .i64 now] 3]) (dG [1,0]).ar ?_
 refine VG (VK (Lc:=[bV p R]) (fun Fr w hF hw hS=>l8 Fr w p R hc hl 160 [.pointer (some ⟨b,0,none⟩)] (pW now) (fun Fr' w' hF' hk row=>zt Fr' w' (Bt (hS.aP 0 Z) hF' hk) row)) Z Z ?_)
 rintro _ _ ⟨a,c,rows,h1,rfl,rfl⟩
 refine an ?_
 exact Xh
theorem qn(hc:1≤R.cap)(hl:R.l.length≤100):aH Tryz.prog 255 [.pointer (some ⟨p,0,none⟩)] Fr w [bV p R]
   (fun v L=>∃a c rows,rows.map Prod.fst=R.l∧v=.slice a rows.length c∧L=[bV p { R with l:=[] },aJ mN 34 a rows.length c (flat jB rows)]):=by
 refine TF 5 Tryz.func255 Z yn ah Z Z ?_
 refine an ?_
 refine VG (VK (Lc:=[bV p R]) (fun Fr w hF hw hS=>l8 Fr w p R hc hl 292 [] (fun _=>false) (fun Fr' w' hF' hk row=>Bu Fr' w' row)) Z Z ?_)
 rintro _ _ ⟨a,c,rows,h1,rfl,rfl⟩
 refine an ?_
 refine CR (ay.tmp 2 Z Z ER ⟨a,c,rows,?_,Z,?_⟩)
 ·rw[h1];simp
 ·rw[show R.l.filter (fun _=>false)=[] from List.filter_eq_nil_iff.2 yf];rfl
end
end Rd
namespace Ring
open Go Vg T Api
attribute [local irreducible] VO VC VA
theorem qp(m:kL)(h:De Fr w m):aH Tryz.prog 260 [.slice m.1 m.2.1 m.2.2] Fr w [] (fun v L=>∃m':kL,v=.slice m'.1 m'.2.1 m'.2.2∧L=[wB m']):=by
 obtain⟨a,n,c⟩:=m
 obtain⟨l,hl,hl2,h⟩:=h
 dsimp only at hl h ⊢
 subst hl
 have key:∀(a':Option Addr) (c':Nat),ae [aJ aG 2 a' l.length c' (flat ax l)] [wB (a',l.length,c')]:=fun a' c'=>
  ae.ex (f:=fun ms:List bG=>cT [gm (ms.length=l.length∧ms.length≤1000000),aJ aG 2 a' l.length c' (flat ax ms)]) l (ae.sep (Ls:=[gm _,aJ aG 2 a' l.length c' (flat ax l)]) (ae.pure ⟨rfl,hl2⟩ ae.refl))
 refine TF 8 Tryz.func260 Z yn ah Z Z ?_
 cases a with
 | none=>
  obtain rfl:l=[]:=by
   cases l with
   | nil=>rfl
   | cons x l=>obtain⟨b,o,h1,_⟩:=h.at_ yf;cases h1
  refine J5 ?_
  exact CR (ay.tmp 2 Z Z (ae.VX ae.nil).ar ⟨(none,0,0),Z,Z⟩)
 | some a=>
  refine w7 ?_
  refine CS (CG (VG (VO.buildSlice (n:=0) (pv:=[]) [] Z Z Z Z yp Z fun b=>?_)))
  refine UG ?_
  refine VG (VO.append (m:=l.length) (news:=flat ax l) 0 Z Z Z Z Z Z Z (aI.row aF h) (gQ kr _) Ul yd fun a' c' _=>?_)
  rw[Zl,ZI]
  refine an ?_
  exact CR (ay.tmp 2 Z Z (key a' c').ar ⟨(a',l.length,c'),Z,Z⟩)
theorem rk(p:FM)(h:De Fr w p.2):aH Tryz.prog 308 [.agg (cF p).toArray] Fr w [] (fun v L=>∃m,v=.agg (cF (p.1,m)).toArray∧L=[wB m]):=by
 refine TF 10 Tryz.func308 Z yn ah Z Z ?_
 refine CS (CG (VG (VB (vs:=cF p) Z (fun b=>VG (VO.alloc Z fun c=>VG (VN ?_))))))
 refine jA ?_
 refine VG (VK (Lc:=[]) (fun Fr w hF hs _=>qp Fr w p.2 (h.of hF hs)) Z Z ?_)
 rintro _ _ ⟨m,rfl,rfl⟩
 refine VG (VO.st 2 (cs':=cF (p.1,m)) Z Z Z Z (by show 24<29;omega) Z Z (VG (VN ?_)))
 refine CS (CG (VG (VL 2 (cF (p.1,m)) Z Z Z Z (VG (VT (vs:=cF (p.1,m)) (cs':=cF (p.1,m)) 1 Z Z Z Z (NR _) Z Z Z (VG (VN ?_)))))))
 exact CR (ay.cell 2 Z Z Z (aE.many 1 Z Z) (IP 0 Z ae.nil).ar ⟨m,Z,Z⟩)
structure tg where
 pb:Nat
 pl:List FM
 first:Nat
structure hU(q:List aa)(cap:Nat)(s:tg):Prop where
 len:s.pl.length=cap
 eS:1≤cap
 gR:cap≤64
 first:s.first<cap
 MZ:q.length≤cap
 at_:∀i,i<q.length→(s.pl[(s.first+i) % cap]?).map Prod.fst=q[i]?
def so(q:List aa)(cap:Nat)(s:tg):List Value:=[.slice (some ⟨s.pb,0,none⟩) cap cap,.int .i64 s.first,.int .i64 q.length]
def pX(p:Nat)(q:List aa)(cap:Nat)(s:tg):List HP:=pt p (so q cap s) 325::pt s.pb (flat cF s.pl) 204::s.pl.map fun r=>wB r.2
def bZ(p:Nat)(q:List aa)(cap:Nat):HP:=hex fun s=>cT (gm (hU q cap s)::pX p q cap s)
structure zu(Fr:Nat→Prop)(w:World)(p:Nat)(q:List aa)(cap:Nat)(s:tg):Prop where
 ok:hU q cap s
 ring:eQ Fr w p (so q cap s)
 places:eQ Fr w s.pb (flat cF s.pl)
 mem:∀(i:Nat) (r:FM),s.pl[i]?=some r→De Fr w r.2
theorem zu.of{Fr:Nat→Prop}{w:World}{p:Nat}{q:List aa}{cap:Nat}(h:aL Fr [bZ p q cap] w):∃s,zu Fr w p q cap s:=by
 obtain⟨s,h⟩:=h.ex
 have h:=h.sep
 exact⟨s,h.pure 0 Z,h.aP 1 Z,h.aP 2 Z,fun i r hr=>De.sat (h.at_ (i+3) (R8 hr))⟩
theorem aV.ring(p:Nat)(q:List aa)(cap:Nat):aV (bZ p q cap) (fun s=>hU q cap s) (fun s=>pX p q cap s):=by
 rintro w ids ⟨s,h⟩ hn
 obtain⟨F,G,rfl,⟨rfl,h1⟩,h2⟩:=h
 exact Tx
theorem ae.ring{p:Nat}{q:List aa}{cap:Nat}{L M:List HP}(s:tg)(hs:hU q cap s)(h:ae L (pX p q cap s++M)):ae L (bZ p q cap::M):=
 ae.ex s (ae.sep (ae.trans h (ae.app (L:=pX p q cap s) (M:=_::pX p q cap s) (ae.pure hs ae.refl) ae.refl)))
theorem bj{p:Nat}{a:Addr}{n c:Nat}{cs:List Value}(h:eQ Fr w p (.slice (some a) n c::cs)):aH Tryz.prog 300 [.pointer (some ⟨p,0,none⟩)] Fr w [] (fun v L=>v=.bool false∧L=[]):=by
 refine TF 12 Tryz.func300 Z yn ah Z Z ?_
 refine an ?_
 refine VG (VO.split 5 rfl rfl (fun h=>by cases h) (fun _=>?_))
 refine EW ?_
 exact QY
theorem qq{p pb first cap:Nat}{cs:List Value}(i:Nat)(h:eQ Fr w p (.slice (some ⟨pb,0,none⟩) cap cap :: .int .i64 first::cs))(hc:1≤cap)(h1:first≤1000)(h2:i≤1000):
  aH Tryz.prog 299 [.pointer (some ⟨p,0,none⟩),.int .i64 i] Fr w [] (fun v L=>v=.int .i64 ((first+i) % cap:Nat)∧L=[]):=by
 refine TF 17 Tryz.func299 Z yn ah Z Z ?_
 refine an ?_
 refine CD (ts 0 13 .nil) yn yn ?_
 refine JZ ?_
 refine AG (AP Z Z Z ?_ ?_ ?_)
 ·omega
 ·omega
 refine JZ ?_
 refine AG (AI Z (pj Z Z ?_ ?_) ?_)
 ·omega
 ·omega
 refine eT ?_
 exact CR (ay.int 4 Z Z (by push_cast;rfl) ER ⟨rfl,Z⟩)
theorem fe{p:Nat}{q:List aa}{cap:Nat}(h:aL Fr [bZ p q cap] w):aH Tryz.prog 280 [.pointer (some ⟨p,0,none⟩)] Fr w [] (fun v L=>v=.int .i64 q.length∧L=[]):=by
 obtain⟨s,h⟩:=zu.of h
 have hb:=h.ring
 refine TF 9 Tryz.func280 Z yn ah Z Z ?_
 refine an ?_
 refine VG (VV (fun Fr w hF hs _=>bj Fr w (hb.of hF hs)) Z ?_)
 refine w7 ?_
 refine Db ?_
 exact QX
theorem hU.place{q:List aa}{cap:Nat}{s:tg}(h:hU q cap s){i:Nat}(hi:i<q.length):∃p:FM,s.pl[(s.first+i) % cap]?=some p∧q[i]?=some p.1:=by
 have h1:=h.at_ i hi
 have h2:(s.first+i) % cap<s.pl.length:=by rw[h.len];exact Nat.mod_lt _ h.eS
 refine⟨_,GE h2,?_⟩
 rw[←h1,GE h2];rfl
def atR(q:List aa)(i:Nat)(v:Value)(L:List HP):Prop:=match q[i]? with
 | some f=>∃m,v=.tuple #[.agg (cF (f,m)).toArray,.bool true]∧L=[wB m]
 | none=>v=.tuple #[.agg (cF od).toArray,.bool false]∧L=[]
theorem rf{p:Nat}{q:List aa}{cap:Nat}(i:Nat)(h:aL Fr [bZ p q cap] w):aH Tryz.prog 298 [.pointer (some ⟨p,0,none⟩),.int .i64 i] Fr w [] (atR q i):=by
 obtain⟨s,h⟩:=zu.of h
 have hb:=h.ring
 have hp:=h.places
 refine TF 31 Tryz.func298 Z yn ah Z Z ?_
 refine CS (CG (VG (VO.alloc Z fun b=>VG (VN ?_))))
 refine an ?_
 refine VG (VV (fun Fr w hF hs _=>bj Fr w (hb.of hF hs)) Z (VG (VY 8 false Z Z ?_)))
 refine an ?_
 refine VG (VY 12 false Z (DF yd) ?_)
 refine Db ?_
 refine CP Z (fun h1=>?_) (fun h1=>?_)
 ·refine CS (CG (VG (VI (LB (pv:=[]) (cF od) Z Z Z Z Z) (VG (VT (vs:=cF od) (cs':=cF od) 0 Z Z Z Z (NR _) Z Z Z (VG (VN ?_)))))))
  refine CR (ay.aT 4 5 Z Z Z (aE.many 0 Z Z) Z ae.nil.ar ?_)
  have h1:q.length≤i:=by omega
  simp only[atR,Z4 h1]
  exact⟨rfl,trivial⟩
 ·have h1:i<q.length:=by omega
  have hq:=h.ok.MZ
  have hc:=h.ok.gR
  have hf:=h.ok.first
  obtain⟨f,hf1,hf2⟩:=h.ok.place h1
  have hlt:(s.first+i) % cap<cap:=Nat.mod_lt _ h.ok.eS
  refine CK ?_
  refine CS (CD (ts 0 6 (.only 6 (ts 7 2 (.only 9 (.only 10 (.take 11 .nil)))))) yn yn ?_)
  refine Rt ?_
  refine AG (VA.c_ (fun Fr w hF hs _=>qq Fr w i (hb.of hF hs) h.ok.eS yd yd) Z Z (Pd.cons (aE.aP hb Z) Pd.nil).st ?_)
  rintro _ rfl
  refine AG (AI Z (a_ ((s.first+i) % cap) Z Z Z Z Z Z hlt) ?_)
  have hrow:((flat cF s.pl).drop (0+(s.first+i) % cap*29)).take 29=cF f:=by
   have:=fC mT hf1 []
   rwa[Zi,←Zl (_*29)] at this
  refine AG (VA.load Z Z Z (aE.lB hp hrow) ?_)
  refine AG (AO (OC (Lc:=[]) (R:=fun v L=>∃m,v=.agg (cF (f.1,m)).toArray∧L=[wB m]) Z (.refl _) (fun Fr w hF hs _=>rk Fr w f ((h.mem _ _ hf1).of hF hs))) Z ?_ ?_)
  ·rintro _ _ ⟨_,⟨m,rfl,rfl⟩,rfl⟩
   exact WJ
  rintro _ _ ⟨_,⟨m,rfl,rfl⟩,rfl⟩
  refine AG (AT (vs:=cF (f.1,m)) (cs':=cF (f.1,m)) 1 Z Z Z Z Z (NR _) Z Z Z WJ ?_)
  refine eT ?_
  refine CR (ay.aT 4 5 Z Z Z (aE.many 1 Z Z) Z (L':=[wB m]) (IP 0 Z ae.nil).ar ?_)
  simp only[atR,hf2]
  exact⟨m,Z,Z⟩
theorem uC{p:Nat}{q:List aa}{cap:Nat}(h:aL Fr [bZ p q cap] w):aH Tryz.prog 276 [.pointer (some ⟨p,0,none⟩)] Fr w [] (atR q 0):=by
 refine TF 8 Tryz.func276 Z yn ah Z Z ?_
 refine CS (CG (VG (VO.alloc Z fun b=>VG (VN ?_))))
 refine an ?_
 refine VG (VK (Lc:=[]) (R:=atR q 0) (fun Fr w hF hs _=>rf Fr w 0 (h.of hF hs)) Z Z ?_)
 intro v L hv
 unfold atR at hv
 cases hq:q[0]? with
 | some f=>
  rw[hq] at hv
  obtain⟨m,rfl,rfl⟩:=hv
  refine Xi ?_
  refine CR (ay.aT 2 3 Z Z Z (aE.many 1 Z Z) Z (L':=[wB m]) (IP 0 Z ae.nil).ar ?_)
  simp only[atR,hq]
  exact⟨m,Z,Z⟩
 | none=>
  rw[hq] at hv
  obtain⟨rfl,rfl⟩:=hv
  refine Xj ?_
  refine CR (ay.aT 2 3 Z Z Z (aE.many 0 Z Z) Z ae.nil.ar ?_)
  simp only[atR,hq]
  exact⟨rfl,trivial⟩
theorem H6{a i j c:Nat}(h1:i<j)(h2:j<c):(a+i) % c≠(a+j) % c:=fun h=>by
 have:=Nat.sub_mod_eq_zero_of_mod_eq h.symm
 rw[show a+j-(a+i)=j-i from by omega,Nat.mod_eq_of_lt yd] at this
 omega
theorem hU.push{q:List aa}{cap:Nat}{s:tg}(h:hU q cap s)(hq:q.length<cap)(f:aa)(m:HU):hU (q ++ [f]) cap { s with pl:=s.pl.set ((s.first+q.length) % cap) (f,m) }:=by
 have hlt:(s.first+q.length) % cap<s.pl.length:=by rw[h.len];exact Nat.mod_lt _ h.eS
 refine⟨by simpa using h.len,h.eS,h.gR,h.first,by simp;omega,fun i hi=>?_⟩
 simp only[Zh,List.length_singleton] at hi
 by_cases hi2:i<q.length
 ·rw[List.getElem?_append_left hi2,ZN (fun e=>H6 hi2 hq e.symm)]
  exact h.at_ i hi2
 ·have:i=q.length:=by omega
  subst this
  rw[ZG hlt];simp
theorem hU.pop{f:aa}{q:List aa}{cap:Nat}{s:tg}(h:hU (f::q) cap s)(z:FM):hU q cap { s with first:=(s.first+1) % cap,pl:=s.pl.set s.first z }:=by
 have hq:=h.MZ
 simp only[Zs] at hq
 refine⟨by simpa using h.len,h.eS,h.gR,Nat.mod_lt _ h.eS,by omega,fun i hi=>?_⟩
 have h1:=h.at_ (i+1) yk
 have h2:((s.first+1) % cap+i) % cap=(s.first+(i+1)) % cap:=by rw[Nat.mod_add_mod];congr 1;omega
 have h3:s.first≠(s.first+(i+1)) % cap:=fun e=>by
  have:=H6 (a:=s.first) (i:=0) (j:=i+1) (c:=cap) yd yd
  rw[Nat.add_zero,Nat.mod_eq_of_lt h.first] at this
  exact this e
 simp only
 rw[h2,ZN h3,h1];rfl
def OM(p:Nat)(q:List aa)(cap:Nat)(f:aa)(v:Value)(L:List HP):Prop:=v=.bool (decide (q.length<cap))∧L=[bZ p (if q.length<cap then q ++ [f] else q) cap]
theorem jc(p:Nat)(q:List aa)(cap:Nat)(f:FM)(hm:De Fr w f.2):aH Tryz.prog 297 [.pointer (some ⟨p,0,none⟩),.agg (cF f).toArray] Fr w [bZ p q cap] (OM p q cap f.1):=by
 refine TF 39 Tryz.func297 Z yn ah Z Z ?_
 refine CS (CG (VG (VB (vs:=cF f) Z fun b=>VG (VN ?_))))
 refine VC.e7 1 Z (aV.ring p q cap) fun s h=>?_
 refine CN (L':=pt b (cF f) 204::pX p q cap s) (ae.perm ZM).ar ?_
 have hq:=h.MZ
 have hc:=h.gR
 have hf:=h.first
 refine an ?_
 refine CD (.take 0 (.only 1 (ts 2 12 .nil))) yn yn ?_
 refine AG (VA.c_ (fun Fr w hF _ hs=>bj Fr w (hs.aP 1 Z)) Z Z Pd.nil.st ?_)
 rintro _ rfl
 refine AG (AY 7 false Z Z ?_)
 refine qe ?_
 refine CE Z (fun h1=>?_) (fun h1=>?_)
 ·refine an ?_
  have h1:¬q.length<cap:=by omega
  exact CR (ay.bool 4 Z Z Z (ae.trans ae.tl (ae.ring s h (ae.of_eq (Zi _).symm))).ar ⟨by simp[h1],by simp[h1]⟩)
 ·have h1:q.length<cap:=by omega
  have hlt:(s.first+q.length) % cap<cap:=Nat.mod_lt _ h.eS
  refine CK ?_
  refine CS (CD (ts 0 9 (.take 10 (.only 9 (.only 11 (.take 12 (.only 13 .nil)))))) yn yn ?_)
  refine qe ?_
  refine AG (VA.kn 0 (cF f) Z Z Z Z Z ?_)
  refine AG (VA.c_ (fun Fr w hF _ hs=>qq Fr w q.length (hs.aP 1 Z) h.eS yd yd) Z Z yu ?_)
  rintro _ rfl
  refine AG (AO (OC (Lc:=[]) (R:=fun v L=>∃m,v=.agg (cF (f.1,m)).toArray∧L=[wB m]) Z (.refl _) (fun Fr w hF hs _=>rk Fr w f (hm.of hF hs))) Z ?_ ?_)
  ·rintro _ _ ⟨_,⟨m,rfl,rfl⟩,rfl⟩
   exact yu
  rintro _ _ ⟨_,⟨m,rfl,rfl⟩,rfl⟩
  refine AG (AI Z (a_ ((s.first+q.length) % cap) Z Z Z Z Z Z hlt) ?_)
  have hw:=lU mT (f.1,m) [] (i:=(s.first+q.length) % cap) (l:=s.pl) (by rw[h.len];exact hlt)
  rw[Zi,Zi,←Zl (_*29)] at hw
  refine AG (AT (vs:=cF (f.1,m)) 3 Z Z Z Z Z ?_ hw Z Z yu ?_)
  ·rw[bo mT,h.len,mT];show 0+(s.first+q.length) % cap*29+29≤cap*29;omega
  refine sg ?_
  refine sf ?_
  refine VG (VP Z Z ?_ ?_ ?_)
  ·omega
  ·omega
  refine UH ?_
  refine an ?_
  refine CR (ay.bool 4 Z Z Z (L':=[bZ p (q ++ [f.1]) cap]) ?_ ⟨by simp[h1],by simp[h1]⟩)
  have e:so (q ++ [f.1]) cap { s with pl:=s.pl.set ((s.first+q.length) % cap) (f.1,m) }=[.slice (some ⟨s.pb,0,none⟩) cap cap,.int .i64 s.first,.int .i64 ((q.length:Int)+1)]:=by simp[so]
  refine(ae.ring _ (h.push h1 f.1 m) ?_).ar
  unfold pX
  rw[e,Zi]
  refine IP 2 Z (IP 2 Z ?_)
  exact ae.trans (IP 0 Z ae.tl) (HV (x:=(f.1,m)) (by rw[h.len];exact hlt))
def Bv(p:Nat)(cap:Nat):List aa→Value→List HP→Prop
 | [],v,L=>v=.tuple #[.agg (cF od).toArray,.bool false]∧L=[bZ p [] cap]
 | f::q,v,L=>∃m,v=.tuple #[.agg (cF (f,m)).toArray,.bool true]∧L=[wB m,bZ p q cap]
theorem rm(p:Nat)(q:List aa)(cap:Nat):aH Tryz.prog 279 [.pointer (some ⟨p,0,none⟩)] Fr w [bZ p q cap] (Bv p cap q):=by
 refine TF 39 Tryz.func279 Z yn ah Z Z ?_
 refine CS (CG (VG (VO.alloc Z fun b=>VG (VN ?_))))
 refine an ?_
 refine VG (VK (Lc:=[]) (R:=atR q 0) (fun Fr w hF hw hs=>uC Fr w (hs.at_ 1 Z)) Z Z ?_)
 intro v L hv
 unfold atR at hv
 cases q with
 | nil=>
  simp only[List.getElem?_nil] at hv
  obtain⟨rfl,rfl⟩:=hv
  refine Xj ?_
  refine an ?_
  refine wm ?_
  refine CS (CG (VG (VI (LB (pv:=[]) (cF od) Z Z Z Z Z) (VG (VT (vs:=cF od) (cs':=cF od) 0 Z Z Z Z (NR _) Z Z Z (VG (VN ?_)))))))
  exact CR (ay.aT 2 3 Z Z Z (aE.many 0 Z Z) Z (ae.app (L:=[_]) (M:=[]) (L':=[_]) (M':=[_]) ae.nil ae.refl).ar ⟨rfl,Z⟩)
 | cons f q=>
  simp only[List.getElem?_cons_zero] at hv
  obtain⟨m,rfl,rfl⟩:=hv
  refine Xi ?_
  refine w7 ?_
  refine VC.e7 2 Z (aV.ring p (f::q) cap) fun s h=>?_
  refine CN (L':=wB m::pt b (cF (f,m)) 204::pX p (f::q) cap s) (ae.perm ZM).ar ?_
  have hq:=h.MZ
  have hc:=h.gR
  have hf:=h.first
  have hc0:=h.eS
  refine CS (CD (ts 0 14 (.only 14 .nil)) yn yn ?_)
  refine sg ?_
  refine AG (AP Z Z Z ?_ ?_ ?_)
  ·omega
  ·omega
  refine sg ?_
  refine AG (AI Z (sY s.first (s.first+1) Z Z Z Z Z Z Z (by push_cast;rfl) yd yd yd) ?_)
  have hw:=lU mT od [] (i:=s.first) (l:=s.pl) (by rw[h.len];exact hf)
  rw[Zi,Zi,←Zl (_*29)] at hw
  refine AG (AO (a8.clear 3 Z Z Z Z Z yd ?_ Z) Z ?_ ?_)
  ·rw[bo mT,h.len];show 0+s.first*29+(s.first+1-s.first)*29≤cap*29;omega
  ·rintro _ _ ⟨rfl,rfl⟩
   exact yu
  rintro _ _ ⟨rfl,rfl⟩
  have hz:(List.replicate (s.first+1-s.first) T.t204.zs).flatten=cF od:=by rw[show s.first+1-s.first=1 from by omega];rfl
  have hw2:j_ (flat cF s.pl) (0+s.first*T.t204.size) (List.replicate (s.first+1-s.first) T.t204.zs).flatten=flat cF (s.pl.set s.first od):=by rw[hz];exact hw
  rw[hw2]
  refine sg ?_
  refine sf ?_
  refine VG (VV (fun Fr w hF _ hs=>qq Fr w 1 (hs.aP 2 Z) hc0 yd yd) Z ?_)
  refine VG (VO.st 2 Z Z Z Z Om Z Z (VG (VN ?_)))
  refine sf ?_
  refine VG (VO.A1 Z Z ?_ ?_ ?_)
  ·omega
  ·omega
  refine UH ?_
  refine sf ?_
  refine VG (VL 1 (cF (f,m)) Z Z Z Z (VG (VT (vs:=cF (f,m)) (cs':=cF (f,m)) 1 Z Z Z Z (NR _) Z Z Z (VG (VN ?_)))))
  refine CR (ay.aT 2 3 Z Z Z (aE.many 1 Z Z) Z (L':=[wB m,bZ p q cap]) ?_ ⟨m,Z,Z⟩)
  refine(IP 0 Z (ae.ring _ (h.pop od) ?_)).ar
  have e:so q cap { s with first:=(s.first+1) % cap,pl:=s.pl.set s.first od }=[.slice (some ⟨s.pb,0,none⟩) cap cap,.int .i64 ((s.first+1) % cap:Nat),.int .i64 (((f::q).length:Int)-1)]:=by simp[so]
  unfold pX
  rw[e,Zi]
  refine IP 1 Z (IP 1 Z ?_)
  exact ae.trans (ae.trans ae.tl (ae.VX ae.refl)) (HV (x:=od) (by rw[h.len];exact hf))
theorem aH.drop{P:Program}{f:FuncId}{args:List Value}{Fr:Nat→Prop}{w:World}{L:List HP}{R R':Value→List HP→Prop}(h:aH P f args Fr w L R)(hi:∀v L',R v L'→∃L2,R' v L2∧ae L' L2):aH P f args Fr w L R':=
 ⟨h.oh,fun hl hs=>Calls.mono (h.calls hl hs) fun e w' ⟨v,L',h1,h2,h3,h4⟩=>by
  obtain⟨L2,h5,h6⟩:=hi v L' h2
  obtain⟨F,hs,hn,hb⟩:=h3
  obtain⟨F',hs',hn',hb'⟩:=h6 w' F hs hn
  exact⟨v,L2,h1,h5,⟨F',hs',hn',fun b hb2=>hb b (hb' b hb2)⟩,h4⟩⟩
theorem a8.M0{X:Cx}{e:Env}{L:List HP}{f:FuncId}{args:Array Operand}{tys:Array TypeId}{vals:List Value}{H:HP}{R:Value→List HP→Prop}{ψ:Value→HP→HP→Prop}(i:Nat)
  (hL:L[i]?=some H) (ht:∀Fr' w,(∀b,X.Fr b→Fr' b)→St X L w→aL Fr' (L.eraseIdx i) w→aH X.P f vals Fr' w [H] R) (hargs:lz e args.toList=some vals)
  (hR:∀v L1,R v L1→∃M H',L1=[M,H']∧ψ v M H'):
  a8 X (.call ⟨.value (.func f),args,tys⟩) e L (fun v L'=>∃M H',ψ v M H'∧L'=M::L.set i H'):=by
 intro a w ha hw dst ty pos after guard
 have hi:i<L.length:=(Zk.1 hL).1
 have key:∀v w' L',(∃L1,R v L1∧L'=L1++L.eraseIdx i)→St X L' w'→∃L'',(∃M H',ψ v M H'∧L''=M::L.set i H')∧St X L'' w':=by
  rintro v w' _ ⟨L1,h1,rfl⟩ hs
  obtain⟨M,H',rfl,hψ⟩:=hR v L1 h1
  have hp:(H'::L.eraseIdx i).Perm (L.set i H'):=by
   have:=bJ (L:=L.set i H') (i:=i) (H:=H') (ZG hi)
   rw[List.eraseIdx_set_eq] at this
   exact this.symm
  exact⟨_,⟨M,H',hψ,Z⟩,(ae.perm (hp.cons M)).ar w' hs⟩
 rcases OC (R:=R) hargs (Lc:=[H]) (Lr:=L.eraseIdx i) (bJ hL) ht a w ha hw dst ty pos after guard with ⟨v,w',L',h1,h2,h3⟩ | ⟨w',L',h1,h2,h3⟩ | ⟨f,args,h1,h2⟩
 ·obtain⟨L'',h4,h5⟩:=key _ _ _ h2 h3
  exact Tn
 ·obtain⟨L'',h4,h5⟩:=key _ _ _ h2 h3
  exact To
 ·refine .inr (.inr ⟨f,args,h1,Calls.mono h2 fun en w' ⟨v,L',h3,h4,h5⟩=>?_⟩)
  obtain⟨L'',h6,h7⟩:=key _ _ _ h4 h5
  exact⟨v,L'',h3,h6,h7⟩
def Ua(q:List aa)(i:Nat)(v:Value):Prop:=match q[i]? with
 | some f=>∃m,v=.tuple #[.agg (cF (f,m)).toArray,.bool true]
 | none=>v=.tuple #[.agg (cF od).toArray,.bool false]
theorem M3{p:Nat}{q:List aa}{cap:Nat}(h:aL Fr [bZ p q cap] w):aH Tryz.prog 276 [.pointer (some ⟨p,0,none⟩)] Fr w [] (fun v L=>Ua q 0 v∧L=[]):=
 aH.drop (uC Fr w h) fun v L h=>by
  unfold atR at h;unfold Ua
  cases hq:q[0]? with
  | some f=>rw[hq] at h;obtain⟨m,rfl,rfl⟩:=h;exact⟨[],⟨⟨m,rfl⟩,rfl⟩,ae.nil⟩
  | none=>rw[hq] at h;obtain⟨rfl,rfl⟩:=h;exact⟨[],⟨rfl,rfl⟩,ae.nil⟩
def V1(p:Nat)(cap:Nat):List aa→Value→List HP→Prop
 | [],v,L=>v=.tuple #[.agg (cF od).toArray,.bool false]∧L=[bZ p [] cap]
 | f::q,v,L=>(∃m,v=.tuple #[.agg (cF (f,m)).toArray,.bool true])∧L=[bZ p q cap]
theorem Sc(p:Nat)(q:List aa)(cap:Nat):aH Tryz.prog 279 [.pointer (some ⟨p,0,none⟩)] Fr w [bZ p q cap] (V1 p cap q):=
 aH.drop (rm Fr w p q cap) fun v L h=>by
  cases q with
  | nil=>exact⟨L,h,ae.refl⟩
  | cons f q=>obtain⟨m,rfl,rfl⟩:=h;exact⟨_,⟨⟨m,rfl⟩,rfl⟩,ae.tl⟩
theorem hU.new(cap:Nat)(h0:1≤cap)(h1:cap≤64)(b:Nat):hU [] cap ⟨b,List.replicate cap od,0⟩:=
 ⟨by simp,h0,h1,h0,by simp,fun i hi=>by simp at hi⟩
theorem dH(cap:Nat)(h0:1≤cap)(h1:cap≤64):aH Tryz.prog 139 [.int .i64 cap] Fr w [] (fun v L=>∃p,v=.tuple #[.pointer (some ⟨p,0,none⟩),.int .i64 0]∧L=[bZ p [] cap]):=by
 refine TF 14 Tryz.func139 Z yn ah Z Z ?_
 refine an ?_
 refine VG (VY 6 false Z (DF yd) ?_)
 refine an ?_
 refine CP Z (fun h=>absurd h yd) (fun _=>CK ?_)
 refine CS (CG (VG (VO.makeSlice cap Z Z Z Z Z Z Z yd ?_ fun b=>?_)))
 ·show 288*cap≤_;omega
 refine VG (VI (LB [.slice (some ⟨b,0,none⟩) cap cap,.int .i64 0,.int .i64 0] Z Z Z Z Z) (VG (VB (vs:=[.slice (some ⟨b,0,none⟩) cap cap,.int .i64 0,.int .i64 0]) Z fun p=>VG (VN ?_))))
 refine CR (ay.cU 2 3 Z Z Z ?_ ⟨p,Z,Z⟩)
 exact(ae.ring (M:=[]) ⟨b,List.replicate cap od,0⟩ (hU.new cap h0 h1 b) (by
  have:flat cF (List.replicate cap od)=(List.replicate cap T.t204.zs).flatten:=(oq cap od).symm
  unfold pX
  simp only[this,List.map_replicate,Zi]
  refine IP 0 Z (IP 0 Z ?_)
  have:∀n:Nat,ae [] (List.replicate n (wB od.2)):=fun n=>by
   induction n with
   | zero=>exact ae.nil
   | succ n ih=>exact ae.VX ih
  exact this cap)).ar
end Ring
namespace Sched
open Go Vg T Api Ring
attribute [local irreducible] VO VC VA
structure dI where
 q:List aa
 fy:Int
 bh:Int
 served:Int
structure aA where
 cls:List dI
 cap:Nat
 bD:Nat
 fresh:Bool
def aA.l9(S:aA)(k:Nat)(c:dI):aA:={ S with cls:=S.cls.set k c }
def aA.idle(S:aA):Bool:=S.cls.all fun c=>c.q.isEmpty
structure dI.Wf(c:dI):Prop where
 q0:96≤c.fy
 q1:c.fy≤65536
 c0:0≤c.bh
 c1:c.bh≤c.fy+95
 s0:0≤c.served
 s1:c.served≤4611686018427387904
structure aA.Wf(S:aA):Prop where
 n0:1≤S.cls.length
 n1:S.cls.length≤4
 eS:1≤S.cap
 gR:S.cap≤16
 bD:S.bD<S.cls.length
 cls:∀c∈S.cls,c.Wf
 qs:∀c∈S.cls,c.q.length≤S.cap
 low:∀k c,S.cls[k]?=some c→(k=S.bD→S.fresh=true)→c.bh≤95
abbrev Row:=Nat×dI
def bQ(r:Row):List Value:=[.pointer (some ⟨r.1,0,none⟩),.int .i64 r.2.fy,.int .i64 r.2.bh,.int .i64 r.2.served]
theorem ka(r:Row):(bQ r).length=4:=rfl
structure pM where
 cb:Nat
 wD:Nat
 rest:List Value
 rows:List Row
structure jo(S:aA)(s:pM):Prop where
 wf:S.Wf
 rows:s.rows.map Prod.snd=S.cls
 cap:s.rows.length≤s.wD
def rn(S:aA)(s:pM):List Value:=[.slice (some ⟨s.cb,0,none⟩) s.rows.length s.wD,.int .i64 S.bD,.bool S.fresh]
def lF(p:Nat)(S:aA)(s:pM):List HP:=pt p (rn S s) 252::pt s.cb (flat bQ s.rows++s.rest) 257::s.rows.map fun r=>bZ r.1 r.2.q S.cap
def iu(p:Nat)(S:aA):HP:=hex fun s=>cT (gm (jo S s)::lF p S s)
structure H7(Fr:Nat→Prop)(w:World)(p:Nat)(S:aA)(s:pM):Prop where
 ok:jo S s
 bN:eQ Fr w p (rn S s)
 cls:eQ Fr w s.cb (flat bQ s.rows++s.rest)
 ring:∀(k:Nat) (r:Row),s.rows[k]?=some r→aL Fr [bZ r.1 r.2.q S.cap] w
theorem H7.of{Fr:Nat→Prop}{w:World}{p:Nat}{S:aA}(h:aL Fr [iu p S] w):∃s,H7 Fr w p S s:=by
 obtain⟨s,h⟩:=h.ex
 have h:=h.sep
 exact⟨s,h.pure 0 Z,h.aP 1 Z,h.aP 2 Z,fun k r hr=>h.at_ (k+3) Te⟩
theorem aV.bN(p:Nat)(S:aA):aV (iu p S) (fun s=>jo S s) (fun s=>lF p S s):=by
 rintro w ids ⟨s,h⟩ hn
 obtain⟨F,G,rfl,⟨rfl,h1⟩,h2⟩:=h
 exact Tx
theorem ae.bN{p:Nat}{S:aA}{L M:List HP}(s:pM)(hs:jo S s)(h:ae L (lF p S s++M)):ae L (iu p S::M):=
 ae.ex s (ae.sep (ae.trans h (ae.app (L:=lF p S s) (M:=_::lF p S s) (ae.pure hs ae.refl) ae.refl)))
theorem jo.len{S:aA}{s:pM}(h:jo S s):s.rows.length=S.cls.length:=by rw[←h.rows,Zm]
theorem jo.row{S:aA}{s:pM}(h:jo S s){k:Nat}(hk:k<S.cls.length):∃p c,s.rows[k]?=some (p,c)∧S.cls[k]?=some c:=by
 have hk':k<s.rows.length:=by rw[h.len];exact hk
 refine⟨s.rows[k].1,s.rows[k].2,by simp[GE hk'],?_⟩
 rw[←h.rows,Zn,GE hk'];rfl
theorem bj{p:Nat}{a:Option Addr}{n c:Nat}{cs:List Value}(h:eQ Fr w p (.slice a n c::cs)):aH Tryz.prog 274 [.pointer (some ⟨p,0,none⟩)] Fr w [] (fun v L=>v=.bool (decide (n=0))∧L=[]):=by
 refine TF 13 Tryz.func274 Z yn ah Z Z ?_
 refine an ?_
 refine VG (VO.split 5 rfl rfl (fun h=>by cases h) (fun _=>?_))
 refine EW ?_
 exact CR (ay.bool 2 rfl rfl (by cases n<;>rfl) ER ⟨rfl,rfl⟩)
theorem oC{p n c:Nat}{a:Option Addr}{cs:List Value}(i:Int)(h:eQ Fr w p (.slice a n c::cs)):aH Tryz.prog 315 [.pointer (some ⟨p,0,none⟩),.int .i64 i] Fr w [] (fun v L=>v=.bool (decide (0≤i∧i<n))∧L=[]):=by
 refine TF 21 Tryz.func315 Z yn ah Z Z ?_
 refine an ?_
 refine VG (VV (fun Fr w hF hs _=>bj Fr w (h.of hF hs)) Z (VG (VO.split 8 Z Z (fun h1=>?_) (fun h1=>?_))))
 ·have h1:n≠0:=by simpa using h1
  refine VG (VO.split 12 Z Z (fun h2=>?_) (fun h2=>?_))
  ·have h2:=of_decide_eq_true h2
   refine EW ?_
   exact CR (ay.bool 4 Z Z yj ER ⟨rfl,Z⟩)
  ·have h2:=of_decide_eq_false h2
   refine an ?_
   exact CR (ay.bool 4 Z Z yj ER ⟨rfl,Z⟩)
 ·have h1:n=0:=by simpa using h1
  refine VG (VY 12 false Z Z ?_)
  refine an ?_
  exact CR (ay.bool 4 Z Z (by symm;apply DF;omega) ER ⟨rfl,Z⟩)
def aA.at_(S:aA)(i:Int):Option dI:=if 0≤i then S.cls[i.toNat]? else none
theorem aA.H8(S:aA)(k:Nat):S.at_ k=S.cls[k]?:=by simp[aA.at_]
theorem aA.P8{S:aA}{i:Int}(h:¬(0≤i∧i<S.cls.length)):S.at_ i=none:=by
 unfold aA.at_;split
 ·rw[Z4];omega
 ·rfl
theorem oD{rows:List Row}{k j:Nat}{r:Row}{v:Value}(hr:rows[k]?=some r)(hj:(bQ r)[j]?=some v)(rest:List Value):(flat bQ rows++rest)[k*4+j]?=some v:=fD ka hr hj rest
theorem sr{p:Nat}{a:Addr}{n c t:Nat}{f:Bool}(hn:1≤n)(ht:t≤1000):
  aH Tryz.prog 277 [.pointer (some ⟨p,0,none⟩)] Fr w [pt p [.slice (some a) n c,.int .i64 t,.bool f] 252]
   (fun v L=>v=.tuple #[]∧L=[pt p [.slice (some a) n c,.int .i64 ((t+1) % n:Nat),.bool true] 252]):=by
 refine TF 19 Tryz.func277 Z yn ah Z Z ?_
 refine CS ?_
 refine CD (ts 0 14 (.only 14 .nil)) yn yn ?_
 refine eT ?_
 refine AG (AP Z Z Z ?_ ?_ ?_)
 ·omega
 ·omega
 refine eT ?_
 refine AG (AI Z (pj Z Z ?_ ?_) ?_)
 ·omega
 ·omega
 refine AG (VA.st 0 Z Z Z Z Z Om Z Z yu ?_)
 refine Oy ?_
 refine VG (VO.st 0 Z Z Z Z Td Z Z (VG (VN ?_)))
 exact ay.void Z ER ⟨rfl,by push_cast;rfl⟩
theorem Gc{p:Nat}{S:aA}(h:aL Fr [iu p S] w):aH Tryz.prog 275 [.pointer (some ⟨p,0,none⟩)] Fr w [] (fun v L=>v=.bool S.idle∧L=[]):=by
 obtain⟨s,h⟩:=H7.of h
 have hb:=h.bN
 have hn:=h.ok.len
 have hn4:=h.ok.wf.n1
 refine TF 19 Tryz.func275 Z yn ah Z Z ?_
 refine Db ?_
 refine VC.loop (fun k:Nat=>[(8,.slice (some ⟨s.cb,0,none⟩) s.rows.length s.wD),(9,.int .i64 s.rows.length),(10,.int .i64 k)]) (fun _=>[]) (fun k=>k≤S.cls.length∧∀j,j<k→∀c,S.cls[j]?=some c→c.q=[]) (fun k=>4-k) 0 ⟨Zj _,fun j hj=>by omega⟩ bd ER ?_
 rintro k ⟨hk,hall⟩
 refine an ?_
 refine CP Z (fun h1=>?_) (fun h1=>?_)
 ·have hk2:k<S.cls.length:=by omega
  obtain⟨q,c,hr,hc⟩:=h.ok.row hk2
  have hrow:((flat bQ s.rows++s.rest).drop (0+k*4)).take 4=bQ (q,c):=by rw[Zl];exact fC ka hr _
  refine Re ?_
  refine Ty ?_
  refine VG (VO.load Z Z (aE.lB h.cls hrow) (VG (VO.alloc Z fun b=>VG (VT (vs:=bQ (q,c)) (cs':=bQ (q,c)) 0 Z Z Z Z (NR _) Z Z Z (VG (VN ?_))))))
  refine an ?_
  refine VG (VV (fun Fr w hF hs _=>Ring.fe Fr w ((h.ring k _ hr).of hF hs)) Z (VG (VN ?_)))
  refine CP Z (fun h2=>?_) (fun h2=>?_)
  ·refine an ?_
   refine CR (ay.bool 2 Z Z ?_ ae.nil.ar ⟨rfl,Z⟩)
   symm
   rw[aA.idle,List.all_eq_false]
   refine⟨c,ME hc,?_⟩
   have:0<(c.q.length:Int):=h2
   cases hq:c.q with
   | nil=>rw[hq] at this;simp at this
   | cons _ _=>simp
  ·refine Re ?_
   refine VG (VP Z Z ?_ ?_ ?_)
   ·omega
   ·omega
   refine an ?_
   refine⟨k+1,⟨by omega,fun j hj c' hc'=>?_⟩,by dsimp only;omega,bd,ae.nil.ar⟩
   by_cases hjk:j=k
   ·subst hjk
    rw[hc] at hc';cases hc'
    have h2:¬0<(c.q.length:Int):=h2
    exact ZH yd
   ·exact hall j yd c' hc'
 ·have hk2:k=S.cls.length:=by omega
  subst hk2
  refine CX ?_
  refine an ?_
  refine CR (ay.bool 2 Z Z ?_ ae.nil.ar ⟨rfl,Z⟩)
  symm
  rw[aA.idle,ZR]
  intro c hc
  obtain⟨j,hj⟩:=List.getElem?_of_mem hc
  rw[hall j (Zk.1 hj).1 c hj];rfl
def aA.ek(S:aA)(f:aa):Int×aA:=
 match S.at_ f.cls with
 | none=>(2,S)
 | some c=>if aZ f.op≠0 then (2,S) else if c.q.length<S.cap then (0,S.l9 f.cls.toNat { c with q:=c.q ++ [f] }) else (60,S)
theorem M4{α β:Type}{g:α→β}{l:List α}{k:Nat}{a:α}:(l.map g).set k (g a)=(l.set k a).map g:=by rw[ZE]
theorem jo.l9{S:aA}{s:pM}(h:jo S s){k q:Nat}{c c':dI}(hr:s.rows[k]?=some (q,c))(hw:(S.l9 k c').Wf):jo (S.l9 k c') { s with rows:=s.rows.set k (q,c') }:=
 ⟨hw,by simp[aA.l9,←h.rows,ZE],by simpa using h.cap⟩
theorem aA.Wf.set{S:aA}(h:S.Wf){k:Nat}{c c':dI}(hc:S.cls[k]?=some c)(hw:c'.Wf)(hq:c'.q.length≤S.cap)(hl:(k=S.bD→S.fresh=true)→c'.bh≤95):(S.l9 k c').Wf:=by
 have hk:=(Zk.1 hc).1
 refine⟨by simpa[aA.l9] using h.n0,by simpa[aA.l9] using h.n1,h.eS,h.gR,by simpa[aA.l9] using h.bD,fun x hx=>?_,fun x hx=>?_,fun j x hx hj=>?_⟩
 ·rcases ZT hx with hx | rfl
  ·exact h.cls x hx
  ·exact hw
 ·rcases ZT hx with hx | rfl
  ·exact h.qs x hx
  ·exact hq
 ·by_cases hjk:k=j
  ·subst hjk
   simp only[aA.l9,ZG hk,Option.some.injEq] at hx
   subst hx;exact hl hj
  ·simp only[aA.l9,ZN hjk] at hx
   exact h.low j x hx hj
theorem rq{l:List Row}{k:Nat}{a b:Row}(h:bQ a=bQ b):flat bQ (l.set k a)=flat bQ (l.set k b):=by simp[flat,ZE,h]
theorem ss{l:List Row}{k:Nat}{a b:Row}(ha:l[k]?=some a)(h:bQ a=bQ b):flat bQ l=flat bQ (l.set k b):=by
 rw[←rq h]
 have hk:=(Zk.1 ha)
 rw[show l.set k a=l from by rw[←hk.2];simp]
theorem l_{p:Nat}{S:aA}{s:pM}(h:jo S s):ae (lF p S s) [iu p S]:=ae.bN (M:=[]) s h (ae.of_eq (Zi _).symm)
theorem H9{p k q:Nat}{S:aA}{s:pM}{c c':dI}(hr:s.rows[k]?=some (q,c))(hcs:bQ (q,c)=bQ (q,c')):
  pt p (rn S s) 252::pt s.cb (flat bQ s.rows++s.rest) 257::(s.rows.map fun r=>bZ r.1 r.2.q S.cap).set k (bZ q c'.q S.cap)=lF p (S.l9 k c') { s with rows:=s.rows.set k (q,c') }:=by
 simp only[lF,rn,ZB,←ss hr hcs,ZE];rfl
theorem jc(p:Nat)(S:aA)(f:FM)(hm:De Fr w f.2):aH Tryz.prog 312 [.pointer (some ⟨p,0,none⟩),.agg (cF f).toArray] Fr w [iu p S] (fun v L=>v=.int .i64 (S.ek f.1).1∧L=[iu p (S.ek f.1).2]):=by
 refine TF 33 Tryz.func312 Z yn ah Z Z ?_
 refine CS (CG (VG (VB (vs:=cF f) Z fun b=>VG (VN ?_))))
 refine VC.e7 1 Z (aV.bN p S) fun s h=>?_
 refine CN (L':=pt b (cF f) 204::lF p S s) (ae.perm ZM).ar ?_
 have hn:=h.len
 have hn0:=h.wf.n0
 have hn4:=h.wf.n1
 have out:∀{X:Cx},jj X (pt b (cF f) 204::lF p S s) [iu p S]:=fun {X}=>(ae.trans ae.tl (l_ h)).ar
 refine an ?_
 refine VG (VV (fun Fr w hF _ hs=>bj Fr w (hs.aP 1 Z)) Z (VG (VN ?_)))
 refine CP Z (fun h0=>by omega) (fun _=>?_)
 refine jA ?_
 refine VG (VV (fun Fr w hF _ hs=>oC Fr w f.1.cls (hs.aP 1 Z)) Z (VG (VO.split 14 Z Z (fun h1=>?_) (fun h1=>?_))))
 ·have h1:¬(0≤f.1.cls∧f.1.cls<s.rows.length):=fun hx=>by simp[hx] at h1
  refine J5 ?_
  have e:S.ek f.1=(2,S):=by simp only[aA.ek,aA.P8 (hn▸h1)]
  exact CR (ay.int 4 Z Z Z out ⟨by rw[e],by rw[e]⟩)
 ·have h1:0≤f.1.cls∧f.1.cls<s.rows.length:=by simpa using h1
  obtain⟨k,hfk⟩:=Int.eq_ofNat_of_zero_le h1.1
  have hk:k<S.cls.length:=by omega
  obtain⟨q,c,hr,hc⟩:=h.row hk
  have hat:S.at_ f.1.cls=some c:=by rw[hfk,aA.H8,hc]
  refine an ?_
  refine VG (VL 0 f.1.op.cells Z Z Z Z ?_)
  refine VG (VO.ic (fun Fr w=>bm Fr w f.1.op) Z (VG (VN ?_)))
  refine VC.bp Z (fun h2=>?_) (fun h2=>?_)
  ·refine an ?_
   have e:S.ek f.1=(2,S):=by simp only[aA.ek,hat,if_pos h2]
   exact CR (ay.int 4 Z Z Z out ⟨by rw[e],by rw[e]⟩)
  ·have h2':¬aZ f.1.op≠0:=fun hx=>hx h2
   have hcell:(flat bQ s.rows++s.rest)[0+k*4]?=some (.pointer (some ⟨q,0,none⟩)):=by rw[Zl];exact oD (j:=0) hr rfl _
   refine CS (CD (ts 0 10 (.only 10 (ts 11 2 .nil))) yn yn ?_)
   refine qe ?_
   refine AG (AI Z (a_ k Z Z Z Z Z hfk yd) ?_)
   refine AG (VA.ld 2 Z Z Z Z hcell (AG (VA.kn 0 (cF f) Z Z Z Z Z ?_)))
   refine AG (AQ (k+3) (H:=bZ q c.q S.cap) (R:=OM q c.q S.cap f.1) (ψ:=fun v H=>v=.bool (decide (c.q.length<S.cap))∧H=bZ q (if c.q.length<S.cap then c.q ++ [f.1] else c.q) S.cap) Te (fun Fr w hF hs _=>Ring.jc Fr w q c.q S.cap f (hm.of hF hs)) Z Z (fun v L1 ⟨h3,h4⟩=>⟨_,h4,h3,Z⟩) ?_ ?_)
   ·rintro _ _ ⟨rfl,rfl⟩
    exact(by(try refine Pd.st ?_);(repeat(first|exact Pd.nil|exact Pd.fnil|refine Pd.inner ?_|refine Pd.skip yr ?_|refine zf (zo 0 Z Z) ?_|refine zf (zo 1 Z Z) ?_|refine zf (zm 0 Z Z) ?_|refine zf (zm 1 Z Z) ?_|refine zf (aE.aP (aE.one 2 Z hcell) Z) ?_|refine zf ((aE.one 2 Z hcell)) ?_|refine zc (zo 0 Z Z) ?_|refine zc (zo 1 Z Z) ?_|refine zc (zm 0 Z Z) ?_|refine zc (zm 1 Z Z) ?_|refine zc (aE.aP (aE.one 2 Z hcell) Z) ?_|refine zc ((aE.one 2 Z hcell)) ?_)))
   rintro _ _ ⟨rfl,rfl⟩
   refine eT ?_
   refine VC.dT Z (fun h3=>?_) (fun h3=>?_)
   ·have h3:¬c.q.length<S.cap:=of_decide_eq_false h3
    refine an ?_
    have e:S.ek f.1=(60,S):=by simp only[aA.ek,hat,if_neg h2',if_neg h3]
    refine CR (ay.int 4 Z Z Z ?_ ⟨by rw[e],by rw[e]⟩)
    rw[if_neg h3]
    have e2:S.l9 k c=S:=by simp only[aA.l9];rw[show S.cls.set k c=S.cls from by rw[←(Zk.1 hc).2];simp]
    have e3:s.rows.set k (q,c)=s.rows:=by rw[←(Zk.1 hr).2];simp
    have e4:=H9 (p:=p) (S:=S) hr (c':=c) rfl
    rw[e2,e3] at e4
    exact(ae.trans ae.tl (ae.trans (ae.of_eq e4) (l_ h))).ar
   ·have h3:c.q.length<S.cap:=of_decide_eq_true h3
    refine Re ?_
    have e:S.ek f.1=(0,S.l9 k { c with q:=c.q ++ [f.1] }):=by simp only[aA.ek,hat,if_neg h2',if_pos h3];rw[hfk,Zp]
    refine CR (ay.int 4 Z Z Z ?_ ⟨by rw[e],by rw[e]⟩)
    rw[if_pos h3]
    have hw:(S.l9 k { c with q:=c.q ++ [f.1] }).Wf:=h.wf.set hc ⟨(h.wf.cls c (ME hc)).q0,(h.wf.cls c (ME hc)).q1,(h.wf.cls c (ME hc)).c0,(h.wf.cls c (ME hc)).c1,(h.wf.cls c (ME hc)).s0,(h.wf.cls c (ME hc)).s1⟩ ye (h.wf.low k c hc)
    exact(ae.trans ae.tl (ae.trans (ae.of_eq (H9 (p:=p) hr (c':={ c with q:=c.q ++ [f.1] }) Z)) (l_ (h.l9 hr hw)))).ar
def aA.jO(a:Int):Int:=if 4611686018427387904<a then 4611686018427387904 else a
def dI.c0(c:dI):dI:={ c with bh:=0 }
def dI.c1(c:dI)(fr:Bool):dI:={ c with bh:=if fr then c.bh+c.fy else c.bh }
def dI.c2(c:dI)(fr:Bool)(f:aa)(q:List aa):dI:=⟨q,c.fy,if q=[] then 0 else (c.c1 fr).bh-cQ f.op,aA.jO (c.served+cQ f.op)⟩
def aA.kM:Nat→aA→Option (aa×aA)
 | 0,_=>none
 | n+1,S=>match S.cls[S.bD]? with
  | none=>none
  | some c=>match c.q with
   | []=>kM n ⟨S.cls.set S.bD c.c0,S.cap,(S.bD+1) % S.cls.length,true⟩
   | f::q=>if (c.c1 S.fresh).bh<cQ f.op then kM n ⟨S.cls.set S.bD (c.c1 S.fresh),S.cap,(S.bD+1) % S.cls.length,true⟩
    else some (f,if q=[] then ⟨S.cls.set S.bD (c.c2 S.fresh f q),S.cap,(S.bD+1) % S.cls.length,true⟩ else ⟨S.cls.set S.bD (c.c2 S.fresh f q),S.cap,S.bD,false⟩)
theorem me(o:e8):0≤cQ o∧cQ o≤96:=by
 unfold cQ
 split
 ·rename_i h
  have hl:lC o=false:=by
   cases hl:lC o with
   | false=>rfl
   | true=>unfold aZ at h;rw[hl] at h;split at h<;>simp at h
  have hk:o.key.size≤16∧o.value.size≤64:=by simp[lC] at hl;omega
  omega
 ·omega
theorem aA.Wf.mW{S:aA}(h:S.Wf){c':dI}(hw:c'.Wf)(hq:c'.q.length≤S.cap)(hl:c'.bh≤95):aA.Wf ⟨S.cls.set S.bD c',S.cap,(S.bD+1) % S.cls.length,true⟩:=by
 have hn:=h.n0
 refine⟨by simpa using h.n0,by simpa using h.n1,h.eS,h.gR,by simpa using Nat.mod_lt _ hn,fun x hx=>?_,fun x hx=>?_,fun j x hx _=>?_⟩
 ·rcases ZT hx with hx | rfl
  ·exact h.cls x hx
  ·exact hw
 ·rcases ZT hx with hx | rfl
  ·exact h.qs x hx
  ·exact hq
 ·by_cases hjk:S.bD=j
  ·subst hjk
   simp only[ZG h.bD,Option.some.injEq] at hx
   subst hx;exact hl
  ·simp only[ZN hjk] at hx
   exact h.low j x hx (fun e=>absurd e.symm hjk)
theorem aA.Wf.stays{S:aA}(h:S.Wf){c':dI}(hw:c'.Wf)(hq:c'.q.length≤S.cap):aA.Wf ⟨S.cls.set S.bD c',S.cap,S.bD,false⟩:=by
 refine⟨by simpa using h.n0,by simpa using h.n1,h.eS,h.gR,by simpa using h.bD,fun x hx=>?_,fun x hx=>?_,fun j x hx hj=>?_⟩
 ·rcases ZT hx with hx | rfl
  ·exact h.cls x hx
  ·exact hw
 ·rcases ZT hx with hx | rfl
  ·exact h.qs x hx
  ·exact hq
 ·have hjk:S.bD≠j:=fun e=>by simpa using hj e.symm
  simp only[ZN hjk] at hx
  exact h.low j x hx (fun e=>absurd e.symm hjk)
theorem dI.Wf.empty{c:dI}(h:c.Wf):c.c0.Wf:=⟨h.q0,h.q1,Zz _,by have:=h.q0;show(0:Int)≤c.fy+95;omega,h.s0,h.s1⟩
theorem aA.Wf.c1{S:aA}(h:S.Wf){c:dI}(hc:S.cls[S.bD]?=some c):(c.c1 S.fresh).Wf:=by
 have hw:=h.cls c (ME hc)
 have hl:=h.low S.bD c hc
 have h1:=hw.q0;have h2:=hw.c0;have h3:=hw.c1
 refine⟨hw.q0,hw.q1,?_,?_,hw.s0,hw.s1⟩
 ·show(0:Int)≤if S.fresh then c.bh+c.fy else c.bh
  split<;>omega
 ·show(if S.fresh then c.bh+c.fy else c.bh)≤c.fy+95
  split
  ·rename_i hf
   have:=hl (fun _=>hf)
   omega
  ·omega
theorem aA.Wf.c2{S:aA}(h:S.Wf){c:dI}(hc:S.cls[S.bD]?=some c){f:aa}{q:List aa}(hq:c.q=f::q)(hcost:¬(c.c1 S.fresh).bh<cQ f.op):(c.c2 S.fresh f q).Wf∧(c.c2 S.fresh f q).q.length≤S.cap:=by
 have hw:=h.c1 hc
 have hb:=me f.op
 have hqs:=h.qs c (ME hc)
 have h3:=hw.c1;have h4:0≤c.served:=hw.s0;have h5:=hw.q0
 have h3':(c.c1 S.fresh).bh≤c.fy+95:=h3
 have h5':96≤c.fy:=h5
 refine⟨⟨hw.q0,hw.q1,?_,?_,?_,?_⟩,?_⟩
 ·show(0:Int)≤if q=[] then 0 else (c.c1 S.fresh).bh-cQ f.op
  split<;>omega
 ·show(if q=[] then 0 else (c.c1 S.fresh).bh-cQ f.op)≤c.fy+95
  split<;>omega
 ·show(0:Int)≤aA.jO (c.served+cQ f.op)
  unfold aA.jO;split<;>omega
 ·show aA.jO (c.served+cQ f.op)≤_
  unfold aA.jO;split<;>omega
 ·rw[hq] at hqs;simp at hqs;show q.length≤S.cap;omega
theorem ru{rows:List Row}{k j:Nat}{r r':Row}{v:Value}(hr:rows[k]?=some r)(hj:j<4)(hc:(bQ r).set j v=bQ r')(rest:List Value):(flat bQ rows++rest).set (0+k*4+j) v=flat bQ (rows.set k r')++rest:=by
 rw[Zl];exact gy ka hr hj hc rest
theorem su{rows:List Row}{k j:Nat}{r r':Row}{v:Value}(hk:k<rows.length)(hj:j<4)(hc:(bQ r).set j v=bQ r')(rest:List Value):(flat bQ (rows.set k r)++rest).set (0+k*4+j) v=flat bQ (rows.set k r')++rest:=by
 rw[ru (ZG hk) hj hc,List.set_set]
theorem uD{rows:List Row}{k q cap:Nat}{c:dI}(hr:rows[k]?=some (q,c)):(rows.map fun r=>bZ r.1 r.2.q cap)=(rows.map fun r=>bZ r.1 r.2.q cap).set k (bZ q c.q cap):=by
 rw[show bZ q c.q cap=(fun r:Row=>bZ r.1 r.2.q cap) (q,c) from rfl,M4,show rows.set k (q,c)=rows from by rw[←(Zk.1 hr).2];simp]
theorem oE{p k q t n:Nat}{S:aA}{s:pM}{c cA c':dI}{fr:Bool}{x:Int}(hr:s.rows[k]?=some (q,c))(hcs:bQ (q,cA)=bQ (q,c'))(hx:x=t)(hn:n=s.rows.length):
  pt p [.slice (some ⟨s.cb,0,none⟩) n s.wD,.int .i64 x,.bool fr] 252::pt s.cb (flat bQ (s.rows.set k (q,cA))++s.rest) 257::(s.rows.map fun r=>bZ r.1 r.2.q S.cap).set k (bZ q c'.q S.cap)=lF p ⟨S.cls.set k c',S.cap,t,fr⟩ { s with rows:=s.rows.set k (q,c') }:=by
 subst hx;subst hn
 simp only[lF,rn,ZB,rq hcs,ZE]
theorem xn{p k q t n:Nat}{S:aA}{s:pM}{c cA c':dI}{fr:Bool}{x:Int}(hr:s.rows[k]?=some (q,c))(hcs:bQ (q,cA)=bQ (q,c'))(hq:c'.q=c.q)(hx:x=t)(hn:n=s.rows.length):
  pt p [.slice (some ⟨s.cb,0,none⟩) n s.wD,.int .i64 x,.bool fr] 252::pt s.cb (flat bQ (s.rows.set k (q,cA))++s.rest) 257::(s.rows.map fun r=>bZ r.1 r.2.q S.cap)=lF p ⟨S.cls.set k c',S.cap,t,fr⟩ { s with rows:=s.rows.set k (q,c') }:=by
 rw[←oE hr hcs hx hn,hq,←uD hr]
theorem jo.M5{S:aA}{s:pM}(h:jo S s){k q:Nat}{c c':dI}{t:Nat}{fr:Bool}(hr:s.rows[k]?=some (q,c))(hw:aA.Wf ⟨S.cls.set k c',S.cap,t,fr⟩):jo ⟨S.cls.set k c',S.cap,t,fr⟩ { s with rows:=s.rows.set k (q,c') }:=
 ⟨hw,by simp[←h.rows,ZE],by simpa using h.cap⟩
def Sd(p cb n c t:Nat):HP:=pt p [.slice (some ⟨cb,0,none⟩) n c,.int .i64 ((t+1) % n:Nat),.bool true] 252
theorem rm(p:Nat)(S0:aA)(N:Nat)(f:aa)(S1:aA)(hp:S0.kM N=some (f,S1))(hi:S0.idle=false):
  aH Tryz.prog 232 [.pointer (some ⟨p,0,none⟩)] Fr w [iu p S0] (fun v L=>(∃m,v=.tuple #[.agg (cF (f,m)).toArray,.bool true])∧L=[iu p S1]):=by
 refine TF 107 Tryz.func232 Z yn ah Z Z ?_
 refine CS (CG (VG (VO.alloc Z fun b=>VG (VN ?_))))
 refine VC.e7 1 Z (aV.bN p S0) fun s0 h0=>?_
 refine CN (L':=pt b (cF od) 204::lF p S0 s0) (ae.perm ZM).ar ?_
 refine an ?_
 refine VG (VV (fun Fr w hF _ hs=>bj Fr w (hs.aP 1 Z)) Z ?_)
 refine VG (VY 10 false Z (DF WX) ?_)
 refine an ?_
 refine Xk ?_
 refine CC rfl (fun h=>by rw[hi] at h;cases h) (fun _=>CK ?_)
 refine CS (VC.label (CS (VC.block ?_)))
 refine VC.loop (σ:=Nat×aA×pM) (fun _=>[(0,pV p),(2,pV b)]) (fun x=>pt b (cF od) 204::lF p x.2.1 x.2.2) (fun x=>jo x.2.1 x.2.2∧x.2.1.kM x.1=some (f,S1)) (fun x=>x.1) (N,S0,s0) ⟨h0,hp⟩ bd ER ?_
 clear hp
 rintro⟨N,S,s⟩ ⟨h,hp⟩
 dsimp only at h hp ⊢
 have hn:=h.len
 have hn0:=h.wf.n0
 have hn4:=h.wf.n1
 have ht:=h.wf.bD
 obtain⟨q,c,hr,hc⟩:=h.row ht
 have hcell:∀{j:Nat} {v:Value},(bQ (q,c))[j]?=some v→(flat bQ s.rows++s.rest)[0+S.bD*4+j]?=some v:=fun {j v} hj=>by rw[Zl];exact oD hr hj _
 cases N with
 | zero=>simp[aA.kM] at hp
 | succ N=>
 simp only[aA.kM,hc] at hp
 refine an ?_
 refine CD (ts 0 10 .nil) yn yn ?_
 refine qe ?_
 refine AG (AI Z (a_ S.bD Z Z Z Z Z Z yd) ?_)
 refine Oy ?_
 refine Tz ?_
 refine VG (VO.c_ (φ:=Ua c.q 0) (fun Fr w hF _ hs=>M3 (cap:=S.cap) Fr w (hs.at_ (S.bD+3) Te)) Z ?_)
 intro v hv
 unfold Ua at hv
 cases hq:c.q with
 | nil=>
  simp only[hq] at hp
  simp only[hq,List.getElem?_nil] at hv
  subst hv
  refine VG (VO.alloc Z fun b5=>VG (VT (vs:=cF od) (cs':=cF od) 0 Z Z Z Z (NR _) Z Z Z (VG (VN ?_))))
  refine J5 ?_
  have hwf:=h.wf.mW (c':=c.c0) (h.wf.cls c (ME hc)).empty (h.wf.qs c (ME hc)) Tb
  refine VG (VO.st 3 Z Z Z Z (by rw[Zh,bo ka];show 0+S.bD*4+2<_;omega) (ru hr yd (r':=(q,c.c0)) Z s.rest) Z (VG (VN ?_)))
  refine an ?_
  refine UI ?_
  rintro _ _ ⟨rfl,rfl⟩
  refine VG (VN (CX ⟨(N,_,_),⟨h.M5 hr hwf,hp⟩,Nat.lt_succ_self N,bd,?_⟩))
  refine(ae.trans ae.tl (ae.cons (ae.of_eq ?_))).ar
  exact xn (c':=c.c0) hr Z Z (by rw[hn]) rfl
 | cons g q'=>
  simp only[hq] at hp
  simp only[hq,List.getElem?_cons_zero] at hv
  obtain⟨m,rfl⟩:=hv
  have hlen:∀(l:List Row),l.length=s.rows.length→∀j,j<4→0+S.bD*4+j<(flat bQ l++s.rest).length:=fun l hl j hj=>by rw[Zh,bo ka,hl];omega
  refine VG (VO.alloc Z fun b5=>VG (VT (vs:=cF (g,m)) (cs':=cF (g,m)) 0 Z Z Z Z (NR _) Z Z Z (VG (VN ?_))))
  refine w7 ?_
  refine VC.meet (σ:=Unit) (fun _=>[(0,pV p),(2,pV b),(4,.pointer (some ⟨s.cb,0+S.bD*4,none⟩)),(5,pV b5)])
   (fun _=>pt b5 (cF (g,m)) 204::pt b (cF od) 204::pt p [.slice (some ⟨s.cb,0,none⟩) s.rows.length s.wD,.int .i64 S.bD,.bool false] 252::pt s.cb (flat bQ (s.rows.set S.bD (q,c.c1 S.fresh))++s.rest) 257::s.rows.map fun r=>bZ r.1 r.2.q S.cap) (fun _=>True) ?_ ?_
  ·refine CS (CG (VG (VO.ld 2 Z Z Z Z (VG (VN ?_)))))
   refine CC (t:=S.fresh) Z (fun hf=>?_) (fun hf=>CK ⟨(),trivial,bd,jj.of_eq ?_⟩)
   ·refine CS (CD (ts 0 11 (.only 11 .nil)) yn yn ?_)
    have hwc:=h.wf.cls c (ME hc)
    have:=hwc.q0;have:=hwc.q1;have:=hwc.c0;have:=hwc.c1
    refine AG (VA.ld 3 Z Z Z Z (hcell (j:=2) Z) (AG (VA.ld 3 Z Z Z Z (hcell (j:=1) Z) ?_)))
    refine AG (AP Z Z Z ?_ ?_ ?_)
    ·dsimp only;omega
    ·dsimp only;omega
    refine AG (VA.st 3 Z Z Z Z Z (hlen _ Z 2 yd) (ru hr yd (r':=(q,c.c1 S.fresh)) (by rw[hf];rfl) s.rest) Z yu ?_)
    refine Oy ?_
    refine UH ?_
    exact⟨(),trivial,bd,ER⟩
   ·unfold lF rn
    rw[hf,←ss hr (b:=(q,c.c1 false)) rfl]
    rfl
  intro _ _
  have hk:S.bD<s.rows.length:=by omega
  have hr1:(s.rows.set S.bD (q,c.c1 S.fresh))[S.bD]?=some (q,c.c1 S.fresh):=ZG hk
  have hcell1:∀{j:Nat} {v:Value},(bQ (q,c.c1 S.fresh))[j]?=some v→(flat bQ (s.rows.set S.bD (q,c.c1 S.fresh))++s.rest)[0+S.bD*4+j]?=some v:=fun {j v} hj=>by rw[Zl];exact oD hr1 hj _
  have hcost:=me g.op
  have hw1:=h.wf.c1 hc
  have:=hw1.q0;have:=hw1.q1;have hc0:=hw1.c0;have hc1:=hw1.c1;have hs0:0≤c.served:=hw1.s0;have hs1:c.served≤4611686018427387904:=hw1.s1
  refine an ?_
  refine VG (VL 0 g.op.cells Z Z Z Z (VG (VO.ic (fun Fr w=>F3 Fr w g.op) Z (VG (VN ?_)))))
  refine an ?_
  refine VG (VO.ld 3 Z Z Z (hcell1 (j:=2) Z) (VG (VN ?_)))
  refine CP Z (fun hlt=>?_) (fun hlt=>CK ?_)
  ·have hlt:(c.c1 S.fresh).bh<cQ g.op:=hlt
   rw[if_pos hlt] at hp
   have hwf:=h.wf.mW (c':=c.c1 S.fresh) hw1 (h.wf.qs c (ME hc)) yd
   refine an ?_
   refine UI ?_
   rintro _ _ ⟨rfl,rfl⟩
   refine VG (VN (CX ⟨(N,_,_),⟨h.M5 hr hwf,hp⟩,Nat.lt_succ_self N,bd,?_⟩))
   refine(ae.trans ae.tl (ae.cons (ae.of_eq ?_))).ar
   exact xn (c':=c.c1 S.fresh) hr Z Z (by rw[hn]) rfl
  ·have hlt:¬(c.c1 S.fresh).bh<cQ g.op:=hlt
   rw[if_neg hlt] at hp
   obtain⟨hwf2,hq2⟩:=h.wf.c2 hc hq hlt
   refine an ?_
   refine VG (VO.ld 3 Z Z Z (hcell1 (j:=0) Z) ?_)
   refine VG (VQ (S.bD+4) (H:=bZ q c.q S.cap) (ψ:=fun v H=>(∃m,v=.tuple #[.agg (cF (g,m)).toArray,.bool true])∧H=bZ q q' S.cap) (by simp[hr]) (fun Fr w _ _ _=>Ring.Sc Fr w q c.q S.cap) Z (fun v L1 h1=>by rw[hq] at h1;exact⟨_,h1.2,h1.1,Z⟩) ?_)
   rintro _ _ ⟨⟨m',rfl⟩,rfl⟩
   refine VG (VT (vs:=cF (g,m')) (cs':=cF (g,m')) 1 Z Z Z Z (NR _) Z Z Z (VG (VN ?_)))
   refine an ?_
   refine VG (VO.ld 3 Z Z Z (hcell1 (j:=2) Z) ?_)
   refine VG (VO.A1 Z Z ?_ ?_ ?_)
   ·dsimp only;omega
   ·dsimp only;omega
   refine VG (VO.st 3 Z Z Z Z (hlen _ yf 2 yd) (su hk yd (r':=(q,{ c with bh:=(c.c1 S.fresh).bh-cQ g.op })) Z s.rest) Z (VG (VN ?_)))
   have hr2:∀c':dI,(s.rows.set S.bD (q,c'))[S.bD]?=some (q,c'):=fun c'=>ZG hk
   have hcell2:∀{c':dI} {j:Nat} {v:Value},(bQ (q,c'))[j]?=some v→(flat bQ (s.rows.set S.bD (q,c'))++s.rest)[0+S.bD*4+j]?=some v:=fun {c' j v} hj=>by rw[Zl];exact oD (hr2 c') hj _
   refine an ?_
   refine VG (VO.ld 3 Z Z Z (hcell2 (j:=3) Z) ?_)
   refine VG (VP Z Z ?_ ?_ ?_)
   ·dsimp only;omega
   ·dsimp only;omega
   refine VG (VO.st 3 Z Z Z Z (hlen _ yf 3 yd) (su hk yd (r':=(q,{ c with bh:=(c.c1 S.fresh).bh-cQ g.op,served:=aA.jO (c.served+cQ g.op) })) Z s.rest) Z (VG (VN ?_)))
   refine an ?_
   refine VG (VO.ld 3 Z Z Z (hcell2 (j:=0) Z) ?_)
   refine VG (VV (fun Fr w hF _ hs=>Ring.fe (q:=q') (cap:=S.cap) Fr w (hs.at_ (S.bD+4) (by simp[hk]))) Z (VG (VN ?_)))
   refine CE Z (fun hz=>?_) (fun hz=>CK (CX ?_))
   ·have hz:q'=[]:=ZH yd
    rw[if_pos hz] at hp
    cases hp
    have hcr:(c.c2 S.fresh f q').bh=0:=by show(if q'=[] then 0 else (c.c1 S.fresh).bh-cQ f.op)=0;rw[if_pos hz]
    have hwf:=h.wf.mW hwf2 hq2 (by rw[hcr];omega)
    refine an ?_
    refine VG (VO.st 3 Z Z Z Z (hlen _ yf 2 yd) (su hk yd (r':=(q,{ c with bh:=0,served:=aA.jO (c.served+cQ f.op) })) Z s.rest) Z (VG (VN ?_)))
    refine an ?_
    refine UI ?_
    rintro _ _ ⟨rfl,rfl⟩
    refine VG (VN (CX ?_))
    refine an ?_
    refine VG (VL 1 (cF (f,m')) Z Z Z Z (VG (VT (vs:=cF (f,m')) (cs':=cF (f,m')) 1 Z Z Z Z (NR _) Z Z Z (VG (VN ?_)))))
    refine CR (ay.aT 2 3 Z Z Z (aE.many 1 Z Z) Z ?_ ⟨⟨m',Z⟩,Z⟩)
    have e:=oE (p:=p) (S:=S) (cA:={ c with bh:=0,served:=aA.jO (c.served+cQ f.op) }) (c':=c.c2 S.fresh f q') (fr:=true) hr S9 (show(((S.bD+1) % s.rows.length:Nat):Int)=((S.bD+1) % S.cls.length:Nat) by rw[hn]) rfl
    exact Xl
   ·have hz:q'≠[]:=fun e=>hz (by simp[e])
    rw[if_neg hz] at hp
    cases hp
    have hcr:(c.c2 S.fresh f q').bh=(c.c1 S.fresh).bh-cQ f.op:=by show(if q'=[] then 0 else (c.c1 S.fresh).bh-cQ f.op)=_;rw[if_neg hz]
    have hwf:=h.wf.stays hwf2 hq2
    refine an ?_
    refine VG (VL 1 (cF (f,m')) Z Z Z Z (VG (VT (vs:=cF (f,m')) (cs':=cF (f,m')) 1 Z Z Z Z (NR _) Z Z Z (VG (VN ?_)))))
    refine CR (ay.aT 2 3 Z Z Z (aE.many 1 Z Z) Z ?_ ⟨⟨m',Z⟩,Z⟩)
    have e:=oE (p:=p) (S:=S) (cA:={ c with bh:=(c.c1 S.fresh).bh-cQ f.op,served:=aA.jO (c.served+cQ f.op) }) (c':=c.c2 S.fresh f q') (fr:=false) hr S9 (rfl:((S.bD:Nat):Int)=(S.bD:Nat)) rfl
    exact Xl
end Sched
namespace Sched
open Go Vg T Api Ring
attribute [local irreducible] VO VC VA
def Se(a:Option Addr)(c:Nat)(gs:List FM):HP:=aJ 204 29 a gs.length c (flat cF gs)
theorem H_(a:Option Addr)(c:Nat)(gs:List FM)(g:FM):aJ 204 29 a (gs.length+1) c (flat cF gs++cF g)=Se a c (gs ++ [g]):=by
 simp[Se,bf,bL,e_]
theorem aA.Wf.Y'{S:aA}(h:S.Wf)(i:Nat):((S.cls.take i).flatMap dI.q).length≤64:=by
 have hq:=h.qs;have hn:=h.n1;have hc:=h.gR
 have:∀(l:List dI),(∀c∈l,c.q.length≤16)→(l.flatMap dI.q).length≤l.length*16:=by
  intro l
  induction l with
  | nil=>intro _;simp
  | cons c l ih=>intro hl;rw[List.flatMap_cons,Zh,Zs];have:=hl c yf;have:=ih (fun c hc=>hl c (by simp[hc]));omega
 have h2:=this (S.cls.take i) (fun c hc=>by have:=hq c (List.mem_of_mem_take hc);omega)
 have:(S.cls.take i).length≤4:=by rw[Zw];omega
 omega
def gone(now:Int)(f:aa):Bool:=decide (f.deadline<now)
def stay(now:Int)(f:aa):Bool:=!gone now f
def dI.tP(now:Int)(c:dI):dI:=⟨c.q.filter (stay now),c.fy,if c.q.filter (stay now)=[] then 0 else c.bh,c.served⟩
def aA.cy(S:aA)(now:Int):List aa:=S.cls.flatMap fun c=>c.q.filter (gone now)
def aA.mf(S:aA)(now:Int):aA:={ S with cls:=S.cls.map (dI.tP now) }
theorem dI.Wf.exp{c:dI}(h:c.Wf)(now:Int):(c.tP now).Wf:=by
 have:=h.q0;have:=h.c0;have:=h.c1
 refine⟨h.q0,h.q1,?_,?_,h.s0,h.s1⟩
 ·show(0:Int)≤if _ then 0 else c.bh
  split<;>omega
 ·show(if _ then 0 else c.bh)≤c.fy+95
  split<;>omega
abbrev Sf:=Nat×aA×pM×Option Addr×Nat×List FM
structure Sg(S0:aA)(now:Int)(s0:pM)(x:Sf):Prop where
 le:x.1≤S0.cls.length
 ok:jo x.2.1 x.2.2.1
 cls:∀k,x.2.1.cls[k]?=(S0.cls[k]?).map (if k<x.1 then dI.tP now else id)
 cap:x.2.1.cap=S0.cap
 bD:x.2.1.bD=S0.bD
 fresh:x.2.1.fresh=S0.fresh
 cb:x.2.2.1.cb=s0.cb
 wD:x.2.2.1.wD=s0.wD
 rows:x.2.2.1.rows.length=s0.rows.length
 room:x.2.2.2.2.2.length≤x.2.2.2.2.1
 gs:x.2.2.2.2.2.map Prod.fst=(S0.cls.take x.1).flatMap fun c=>c.q.filter (gone now)
structure V3(cl:dI)(now:Int)(gs0:List aa)(x:Nat×List aa×Option Addr×Nat×List FM):Prop where
 le:x.1≤cl.q.length
 cur:x.2.1=cl.q.drop x.1++(cl.q.take x.1).filter (stay now)
 room:x.2.2.2.2.length≤x.2.2.2.1
 gs:x.2.2.2.2.map Prod.fst=gs0++(cl.q.take x.1).filter (gone now)
theorem aA.Wf.P9{S:aA}(h:S.Wf)(i:Nat)(now:Int):((S.cls.take i).flatMap fun c=>c.q.filter (gone now)).length≤64:=by
 have hq:=h.qs;have hn:=h.n1;have hc:=h.gR
 have:∀(l:List dI),(∀c∈l,c.q.length≤16)→(l.flatMap fun c=>c.q.filter (gone now)).length≤l.length*16:=by
  intro l
  induction l with
  | nil=>intro _;simp
  | cons c l ih=>intro hl;rw[List.flatMap_cons,Zh,Zs];have:=hl c yf;have:=ih (fun c hc=>hl c (by simp[hc]));have:=Z1 (gone now) c.q;omega
 have h2:=this (S.cls.take i) (fun c hc=>by have:=hq c (List.mem_of_mem_take hc);omega)
 have:(S.cls.take i).length≤4:=by rw[Zw];omega
 omega
theorem ig(p:Nat)(S0:aA)(now:Int):
  aH Tryz.prog 273 [.pointer (some ⟨p,0,none⟩),.int .i64 now] Fr w [iu p S0] (fun v L=>∃a c gs,gs.map Prod.fst=S0.cy now∧v=.slice a gs.length c∧L=[iu p (S0.mf now),Se a c gs]):=by
 refine TF 67 Tryz.func273 Z yn ah Z Z ?_
 refine VC.e7 0 Z (aV.bN p S0) fun s0 h0=>?_
 refine CN (L':=lF p S0 s0) (ae.of_eq (Zi _)).ar ?_
 have hn:=h0.len
 have hn0:=h0.wf.n0
 have hn4:=h0.wf.n1
 refine an ?_
 refine VG (VV (fun Fr w hF _ hs=>bj Fr w (hs.aP 0 Z)) Z (VG (VN ?_)))
 refine CP Z (fun h=>by omega) (fun _=>CK ?_)
 refine an ?_
 refine VC.loop (σ:=Sf) (fun x=>[(0,pV p),(1,.int .i64 now),(5,.slice x.2.2.2.1 x.2.2.2.2.2.length x.2.2.2.2.1),(16,.int .i64 s0.rows.length),(17,.int .i64 x.1)]) (fun x=>Se x.2.2.2.1 x.2.2.2.2.1 x.2.2.2.2.2::lF p x.2.1 x.2.2.1) (Sg S0 now s0) (fun x=>4-x.1) (0,S0,s0,none,0,[]) ⟨Zj _,h0,fun k=>by simp,Z,Z,Z,Z,Z,Z,NR _,Z⟩ bd (ae.bY ae.refl).ar ?_
 rintro⟨i,S,s,a,c,gs⟩ ⟨hi,h,hcls,hcap,hturn,hfresh,hcb,hccap,hrows,hroom,hgs⟩
 dsimp only at hi h hcls hcap hturn hfresh hcb hccap hrows hroom hgs ⊢
 refine an ?_
 refine CP Z (fun h1=>?_) (fun h1=>?_)
 ·have hk0:i<S0.cls.length:=by omega
  obtain⟨c0,hc0⟩:∃c0,S0.cls[i]?=some c0:=⟨_,GE hk0⟩
  have hc0':S.cls[i]?=some c0:=by rw[hcls i,hc0,if_neg (Nat.lt_irrefl i)];rfl
  have hk:i<S.cls.length:=(Zk.1 hc0').1
  obtain⟨q,cl,hr,hc⟩:=h.row hk
  obtain rfl:cl=c0:=by rw[hc] at hc0';exact Zy hc0'
  have hql:=h.wf.qs cl (ME hc)
  have hcap16:=h.wf.gR
  have hki:i<s.rows.length:=by omega
  have hcell:∀{j:Nat} {v:Value},(bQ (q,cl))[j]?=some v→(flat bQ s.rows++s.rest)[0+i*4+j]?=some v:=fun {j v} hj=>by rw[Zl];exact oD hr hj _
  refine CK ?_
  refine jA ?_
  refine VG (VI (a_ i Z Z Z Z Z Z hki) ?_)
  refine jA ?_
  refine Tz ?_
  refine VG (VV (fun Fr w hF _ hs=>Ring.fe (q:=cl.q) (cap:=S.cap) Fr w (hs.at_ (i+3) Te)) Z (VG (VN ?_)))
  refine an ?_
  refine VC.loop (σ:=Nat×List aa×Option Addr×Nat×List FM) (fun x=>[(0,pV p),(1,.int .i64 now),(5,.slice x.2.2.1 x.2.2.2.2.length x.2.2.2.1),(7,.pointer (some ⟨s.cb,0+i*4,none⟩)),(16,.int .i64 s0.rows.length),(17,.int .i64 i),(30,.int .i64 cl.q.length),(31,.int .i64 x.1)]) (fun x=>Se x.2.2.1 x.2.2.2.1 x.2.2.2.2::pt p (rn S s) 252::pt s.cb (flat bQ s.rows++s.rest) 257::(s.rows.map fun r=>bZ r.1 r.2.q S.cap).set i (bZ q x.2.1 S.cap)) (V3 cl now ((S0.cls.take i).flatMap fun c=>c.q.filter (gone now))) (fun x=>16-x.1) (0,cl.q,a,c,gs) ⟨Zj _,by simp,hroom,by simpa using hgs⟩ bd (jj.of_eq (by dsimp only;rw[←uD hr];rfl)) ?_
  rintro⟨j,cur,a,c,gs⟩ ⟨hj,hcur,hroom,hgs⟩
  dsimp only at hj hcur hroom hgs ⊢
  have hfew:=h0.wf.P9 i now
  have hgl:gs.length≤80:=by
   have:=congrArg List.length hgs
   have h3:=Z1 (gone now) (cl.q.take j)
   have h4:=List.length_take_le j cl.q
   rw[Zm,Zh] at this
   omega
  have hrl:(s.rows.map fun r=>bZ r.1 r.2.q S.cap).length=s.rows.length:=by simp
  refine an ?_
  refine CP Z (fun h2=>?_) (fun h2=>?_)
  ·have hj2:j<cl.q.length:=by omega
   have hf:=GE hj2
   have hdrop:cl.q.drop j=cl.q[j]::cl.q.drop (j+1):=List.drop_eq_getElem_cons hj2
   generalize cl.q[j]=f at hf hdrop
   have htake:cl.q.take (j+1)=cl.q.take j ++ [f]:=by rw[Zu,hf];rfl
   have hcur2:cur=f::(cl.q.drop (j+1)++(cl.q.take j).filter (stay now)):=by rw[hcur,hdrop];rfl
   refine Re ?_
   refine Tz ?_
   refine VG (VO.op rfl rfl rfl (a8.M0 (i+3) (H:=bZ q cur S.cap) (R:=Ring.Bv q S.cap cur) (ψ:=fun v M H=>(∃m,v=.tuple #[.agg (cF (f,m)).toArray,.bool true]∧M=wB m)∧H=bZ q (cl.q.drop (j+1)++(cl.q.take j).filter (stay now)) S.cap) (by simp[hki]) (fun Fr w _ _ _=>Ring.rm Fr w q cur S.cap) rfl (fun v L1 h1=>by rw[hcur2] at h1;obtain⟨m,h2,h3⟩:=h1;exact⟨_,_,h3,⟨m,h2,rfl⟩,rfl⟩)) ?_)
   rintro _ _ ⟨_,_,⟨⟨m,rfl,rfl⟩,rfl⟩,rfl⟩
   refine VG (VO.alloc Z fun b8=>VG (VT (vs:=cF (f,m)) (cs':=cF (f,m)) 0 Z Z Z Z (NR _) Z Z Z (VG (VN ?_))))
   refine an ?_
   refine CP Z (fun h3=>?_) (fun h3=>?_)
   ·have h3:f.deadline<now:=h3
    have hg:gone now f=true:=by simp[gone,h3]
    have hs:stay now f=false:=by simp[stay,hg]
    refine an ?_
    refine VG (VL 0 (cF (f,m)) Z Z Z Z ?_)
    refine VG (VO.buildSlice (n:=1) (pv:=[(0,.agg (cF (f,m)).toArray)]) (cF (f,m)) Z Z Z Z yp (bM Z Z Z) fun nb=>?_)
    refine VG (VO.append (m:=1) (news:=cF (f,m)) 3 Z Z Z Z Z Z Z (dq.pt 0 Z Z Z) Z (by show(gs.length+1)*288≤_;omega) yd fun a' c' hc'=>VG (VN ?_))
    refine sd ?_
    have hL:(gs ++ [(f,m)]).length=gs.length+1:=by simp
    refine⟨(j+1,cl.q.drop (j+1)++(cl.q.take j).filter (stay now),a',c',gs ++ [(f,m)]),⟨hj2,by dsimp only;rw[htake,List.filter_append];simp[hs],by dsimp only;rw[hL];exact hc',?_⟩,by dsimp only;omega,SC Z (SC Z (SC Rn bd)),?_⟩
    ·dsimp only;rw[ZL,hgs,htake,List.filter_append,Zr];simp[hg]
    ·dsimp only
     rw[←H_]
     refine(ae.cons (ae.trans ae.tl (ae.trans ae.tl (ae.trans ae.tl (ae.of_eq ?_))))).ar
     show _::_::((s.rows.map fun r=>bZ r.1 r.2.q S.cap).set i (bZ q cur S.cap)).set i _=_
     rw[List.set_set]
   ·have h3:¬f.deadline<now:=h3
    have hg:gone now f=false:=by simp[gone];omega
    have hs:stay now f=true:=by simp[stay,hg]
    have hlt:(cl.q.drop (j+1)++(cl.q.take j).filter (stay now)).length<S.cap:=by
     have h4:=Z1 (stay now) (cl.q.take j)
     have h5:=List.length_take_le j cl.q
     rw[Zh,Z7]
     omega
    refine CD (ts 0 5 (.only 5 .nil)) yn yn ?_
    have hc3:(flat bQ s.rows++s.rest)[0+i*4]?=some (.pointer (some ⟨q,0,none⟩)):=hcell (j:=0) rfl
    refine AG (VA.ld 4 Z Z Z Z hc3 (AG (VA.kn 0 (cF (f,m)) Z Z Z Z Z ?_)))
    refine AG (AQ (i+5) (H:=bZ q (cl.q.drop (j+1)++(cl.q.take j).filter (stay now)) S.cap) (ψ:=fun v H=>H=bZ q (cl.q.drop (j+1)++(cl.q.take j).filter (stay now) ++ [f]) S.cap) (by simp[hki]) (fun Fr w _ _ hS=>Ring.jc Fr w q _ S.cap (f,m) (De.sat (hS.at_ 1 Z))) Z Z (fun v L1 h1=>⟨_,h1.2,by rw[if_pos hlt]⟩) ?_ ?_)
    ·rintro _ _ rfl
     exact(by(try refine Pd.st ?_);(repeat(first|exact Pd.nil|exact Pd.fnil|refine Pd.inner ?_|refine Pd.skip yr ?_|refine zf (zo 0 Z Z) ?_|refine zf (zo 1 Z Z) ?_|refine zf (zm 0 Z Z) ?_|refine zf (zm 1 Z Z) ?_|refine zf (aE.aP (aE.one 4 Z hc3) Z) ?_|refine zf ((aE.one 4 Z hc3)) ?_|refine zc (zo 0 Z Z) ?_|refine zc (zo 1 Z Z) ?_|refine zc (zm 0 Z Z) ?_|refine zc (zm 1 Z Z) ?_|refine zc (aE.aP (aE.one 4 Z hc3) Z) ?_|refine zc ((aE.one 4 Z hc3)) ?_)))
    rintro _ _ rfl
    refine eT ?_
    refine sd ?_
    refine⟨(j+1,cl.q.drop (j+1)++(cl.q.take j).filter (stay now) ++ [f],a,c,gs),⟨hj2,by dsimp only;rw[htake,List.filter_append,Zr];simp[hs],hroom,by dsimp only;rw[hgs,htake,List.filter_append];simp[hg]⟩,by dsimp only;omega,bd,?_⟩
    refine(ae.trans ae.tl (ae.trans ae.tl (ae.cons (ae.of_eq ?_)))).ar
    show _::_::(((s.rows.map fun r=>bZ r.1 r.2.q S.cap).set i (bZ q cur S.cap)).set i _).set i _=_
    rw[List.set_set,List.set_set]
  ·have hj2:j=cl.q.length:=by omega
   subst hj2
   rw[ZF] at hgs
   have hcur3:cur=cl.q.filter (stay now):=by rw[hcur];simp
   subst hcur3
   have hle2:=Z1 (stay now) cl.q
   have hwf':aA.Wf ⟨S.cls.set i (cl.tP now),S.cap,S.bD,S.fresh⟩:=h.wf.set hc ((h.wf.cls cl (ME hc)).exp now) (by show(cl.q.filter (stay now)).length≤S.cap;omega) (fun hl=>by
    have:=h.wf.low i cl hc hl
    show(if cl.q.filter (stay now)=[] then 0 else cl.bh)≤95
    split<;>omega)
   have hnext:Sg S0 now s0 (i+1,⟨S.cls.set i (cl.tP now),S.cap,S.bD,S.fresh⟩,{ s with rows:=s.rows.set i (q,cl.tP now) },a,c,gs):=by
    refine⟨hk0,h.M5 hr hwf',fun k=>?_,hcap,hturn,hfresh,hcb,hccap,by simpa using hrows,hroom,?_⟩
    ·dsimp only
     by_cases hik:i=k
     ·subst hik
      rw[ZG hk,hc0,if_pos (Nat.lt_succ_self i)];rfl
     ·rw[ZN hik,hcls k]
      congr 1
      by_cases h9:k<i
      ·rw[if_pos h9,if_pos yd]
      ·rw[if_neg h9,if_neg yd]
    ·dsimp only;rw[hgs,Zu,hc0,List.flatMap_append];simp
   refine CX ?_
   refine an ?_
   refine Tz ?_
   refine VG (VV (fun Fr w hF _ hs=>Ring.fe (q:=cl.q.filter (stay now)) (cap:=S.cap) Fr w (hs.at_ (i+3) (by simp[hki]))) Z (VG (VN ?_)))
   refine CE Z (fun hz=>?_) (fun hz=>CK ?_)
   ·have hz:cl.q.filter (stay now)=[]:=ZH yd
    have hcr:(cl.tP now).bh=0:=by show(if cl.q.filter (stay now)=[] then 0 else cl.bh)=0;rw[if_pos hz]
    refine an ?_
    refine VG (VO.st 2 Z Z Z Z (by rw[Zh,bo ka];show 0+i*4+2<_;omega) (ru hr yd (r':=(q,cl.c0)) Z s.rest) Z (VG (VN ?_)))
    refine sd ?_
    refine⟨_,hnext,by dsimp only;omega,SC Z (SC Z (SC Z (SC Z (SC Z (SN _))))),(ae.cons (ae.of_eq ?_)).ar⟩
    exact oE (cA:=cl.c0) (c':=cl.tP now) hr S9 Z rfl
   ·have hz:cl.q.filter (stay now)≠[]:=fun e=>hz Ro
    have hcr:(cl.tP now).bh=cl.bh:=by show(if cl.q.filter (stay now)=[] then 0 else cl.bh)=_;rw[if_neg hz]
    refine sd ?_
    refine⟨_,hnext,by dsimp only;omega,SC Z (SC Z (SC Z (SC Z (SC Z (SN _))))),(ae.cons (ae.of_eq ?_)).ar⟩
    rw[ss hr (b:=(q,cl)) rfl]
    exact oE (cA:=cl) (c':=cl.tP now) hr S9 Z rfl
 ·have hk:i=S0.cls.length:=by omega
  subst hk
  rw[ZF] at hgs
  refine CX ?_
  refine an ?_
  have e:S=S0.mf now:=by
   obtain⟨cls,cap,bD,fresh⟩:=S
   dsimp only at hcls hcap hturn hfresh
   subst hcap;subst hturn;subst hfresh
   show aA.mk _ _ _ _=aA.mk _ _ _ _
   congr 1
   apply Z8
   intro k
   rw[hcls k,Zn]
   by_cases h9:k<S0.cls.length
   ·rw[if_pos h9]
   ·rw[Z4 yd];rfl
  subst e
  refine CR (ay.tmp 4 Z Z (ae.trans (ae.perm (ZM (l₁:=[_]))) (ae.app (l_ h) ae.refl)).ar ⟨a,c,gs,hgs,Z,Z⟩)
end Sched
namespace Sched
open Go Vg T Api Ring
attribute [local irreducible] VO VC VA
structure dZ(Fr:Nat→Prop)(w:World)(a:Option Addr)(qs:List Int):Prop where
 at_:qs≠[]→∃b off,a=some ⟨b,off,none⟩∧Fr b∧∀i v,qs[i]?=some v→w.cell? ⟨b,off+i,none⟩=some (.int .i64 v)
def gg(q:Int):Bool:=decide (96≤q)&&decide (q≤65536)
def k_(qs:List Int)(cap:Int):Bool:=decide (1≤qs.length)&&decide (qs.length≤4)&&decide (1≤cap)&&decide (cap≤16)&&qs.all gg
def jE(q:Int):dI:=⟨[],q,0,0⟩
def aA.new(qs:List Int)(cap:Int):aA:=⟨qs.map jE,cap.toNat,0,true⟩
theorem aA.Ia{qs:List Int}{cap:Int}(h:k_ qs cap=true):(aA.new qs cap).Wf:=by
 simp only[k_,Zx,decide_eq_true_eq,ZR,gg] at h
 obtain⟨⟨⟨⟨h1,h2⟩,h3⟩,h4⟩,h5⟩:=h
 refine⟨by simpa[aA.new] using h1,by simpa[aA.new] using h2,by simp[aA.new];omega,by simp[aA.new];omega,by simp[aA.new];omega,fun c hc=>?_,fun c hc=>?_,fun k c hc _=>?_⟩
 ·obtain⟨q,hq,rfl⟩:=Zv.1 hc
  have:=h5 q hq
  exact⟨this.1,this.2,Zz _,by show(0:Int)≤q+95;omega,Zz _,by show(0:Int)≤_;omega⟩
 ·obtain⟨q,hq,rfl⟩:=Zv.1 hc
  simp[jE]
 ·obtain⟨q,hq,rfl⟩:=Zv.1 (ME hc)
  show(0:Int)≤95;omega
abbrev M6:=Nat×Option Addr×Nat×List Row
def Sh(p:Nat)(cap:Nat)(x:M6):List HP:=pt p [.slice x.2.1 x.1 x.2.2.1,.int .i64 0,.bool true] 252::aJ 257 4 x.2.1 x.1 x.2.2.1 (flat bQ x.2.2.2)::x.2.2.2.map fun r=>bZ r.1 r.2.q cap
def fu(qs:List Int)(cap:Int)(v:Value)(L:List HP):Prop:=if k_ qs cap=true then ∃p,v=.tuple #[.pointer (some ⟨p,0,none⟩),.int .i64 0]∧L=[iu p (aA.new qs cap)] else v=.tuple #[.pointer none,.int .i64 2]∧L=[]
theorem fu.bad{X:Cx}{e:Env}{L:List HP}{qs:List Int}{cap:Int}(h:k_ qs cap=false)(h4:Vg.look e 4=some (.pointer none))(h5:Vg.look e 5=some (.int .i64 2)):Vg.ay X Tryz.f83 (fu qs cap) e L:=
 ay.cU 4 5 rfl h4 h5 ae.nil.ar (by unfold fu;rw[if_neg (by rw[h];simp)];exact⟨rfl,rfl⟩)
structure P_(qs:List Int)(x:M6):Prop where
 le:x.1≤qs.length
 room:x.1≤x.2.2.1
 rows:x.2.2.2.map Prod.snd=(qs.take x.1).map jE
 ok:(qs.take x.1).all gg=true
theorem P_.len{qs:List Int}{x:M6}(h:P_ qs x):x.2.2.2.length=x.1:=by
 have:=congrArg List.length h.rows
 have h2:=h.le
 simp only[Zm,Zw] at this
 omega
theorem dH(a:Option Addr)(qc:Nat)(qs:List Int)(cap:Int)(hq:dZ Fr w a qs):
  aH Tryz.prog 83 [.slice a qs.length qc,.int .i64 cap] Fr w [] (fu qs cap):=by
 refine TF 62 Tryz.func83 Z yn ah Z Z ?_
 refine an ?_
 refine VG (VO.split 13 Z Z (fun h1=>?_) (fun h1=>VG (VO.split 18 Z Z (fun h2=>?_) (fun h2=>VG (VO.split 22 Z Z (fun h3=>?_) (fun h3=>?_))))))
 ·have h1:=of_decide_eq_true h1
  refine VG (VY 18 true Z Z (VG (VY 22 true Z Z (VG (VN (VC.kk Z ?_))))))
  refine an ?_
  refine CR (fu.bad ?_ Z Z)
  have:¬(1≤qs.length):=by omega
  simp[k_,this]
 ·have h2:=of_decide_eq_true h2
  refine VG (VY 22 true Z Z (VG (VN (VC.kk Z ?_))))
  refine an ?_
  refine CR (fu.bad ?_ Z Z)
  have:¬(qs.length≤4):=by omega
  simp[k_,this]
 ·have h3:=of_decide_eq_true h3
  refine VG (VN (VC.kk Z ?_))
  refine an ?_
  refine CR (fu.bad ?_ Z Z)
  have:¬(1≤cap):=by omega
  simp[k_,this]
 have h1:=of_decide_eq_false h1
 have h2:=of_decide_eq_false h2
 have h3:=of_decide_eq_false h3
 refine an ?_
 refine CP Z (fun h4=>?_) (fun h4=>CK ?_)
 ·refine an ?_
  refine CR (fu.bad ?_ Z Z)
  have:¬(cap≤16):=by omega
  simp[k_,this]
 obtain⟨cp,rfl⟩:=Int.eq_ofNat_of_zero_le (show 0≤cap by omega)
 obtain⟨b,off,ha,hF,hcell⟩:=hq.at_ (fun e=>by rw[e] at h1;simp at h1)
 subst ha
 refine CS (CG (VG (VI (LB [.slice none 0 0,.int .i64 0,.bool true] Z Z Z Z Z) (VG (VB (vs:=[.slice none 0 0,.int .i64 0,.bool true]) Z fun p=>VG (VN ?_))))))
 refine an ?_
 refine VC.loop (σ:=M6) (fun x=>[(0,.slice (some ⟨b,off,none⟩) qs.length qc),(1,.int .i64 cp),(4,pV p),(28,.slice (some ⟨b,off,none⟩) qs.length qc),(29,.int .i64 qs.length),(30,.int .i64 x.1)]) (Sh p cp) (P_ qs) (fun x=>4-x.1) (0,none,0,[]) ⟨Zj _,NR _,Z,Z⟩ bd ?_ ?_
 ·exact(ae.cons (ae.bY ae.refl)).ar
 rintro⟨i,a,c,rows⟩ hI
 have hle:=hI.le;have hroom:=hI.room;have hlen:=hI.len;have hrows:=hI.rows;have hok:=hI.ok
 dsimp only at hle hroom hlen hrows hok ⊢
 refine an ?_
 refine CP Z (fun h5=>?_) (fun h5=>?_)
 ·have h5:i<qs.length:=by omega
  have hqi:=GE h5
  have hmem:qs[i]∈qs:=List.getElem_mem h5
  have htake:qs.take (i+1)=qs.take i ++ [qs[i]]:=by rw[Zu,hqi];rfl
  generalize hqv:qs[i]=q at hqi hmem htake
  have hbad:gg q=false→k_ qs cp=false:=fun h=>by
   have:qs.all gg=false:=List.all_eq_false.2 ⟨q,hmem,by simp[h]⟩
   simp[k_,this]
  refine Re ?_
  refine VG (VI (a_ i Z Z Z Z Z Z h5) ?_)
  refine VG (VO.load Z Z (aE.rd (v:=.int .i64 q) hF (by show w.cell? ⟨b,off+i*1,none⟩=_;rw[Nat.mul_one];exact hcell i _ hqi)) (VG (VN ?_)))
  refine CS (CS (CG (VG (VO.split 36 Z Z (fun h6=>?_) (fun h6=>?_)))))
  ·have h6:=of_decide_eq_true h6
   refine VG (VN (VC.kk Z ?_))
   refine an ?_
   refine CR (fu.bad (hbad ?_) Z Z)
   have:¬96≤q:=by omega
   simp[gg,this]
  have h6:=of_decide_eq_false h6
  refine VG (VN (CP Z (fun h7=>?_) (fun h7=>CK ?_)))
  ·refine an ?_
   refine CR (fu.bad (hbad ?_) Z Z)
   have:¬q≤65536:=by omega
   simp[gg,this]
  refine an ?_
  refine VG (VO.OF Z (fun Fr w=>Ring.dH Fr w cp yd yd) ?_)
  rintro _ _ ⟨r,rfl,rfl⟩
  refine an ?_
  refine VC.bp Z (fun h=>absurd Z h) (fun _=>CK ?_)
  refine CG ?_
  refine QZ ?_
  refine VG (VI (LB (pv:=[(0,pV r),(1,.int .i64 q)]) (bQ (r,jE q)) Z Z Z Z Z) ?_)
  refine VG (VO.buildSlice (n:=1) (pv:=[(0,.agg (bQ (r,jE q)).toArray)]) (bQ (r,jE q)) Z Z Z Z yp (bM Z Z Z) fun nb=>?_)
  refine VG (VO.append (m:=1) (news:=bQ (r,jE q)) 3 Z Z Z Z Z Z Z (dq.pt 0 Z Z Z) Z (by show(i+1)*32≤_;omega) yd fun a' c' hc'=>?_)
  refine VG (VO.st 3 Z Z Z Z (by show 0<3;omega) Z Z (VG (VN ?_)))
  refine an ?_
  refine VG (VP Z Z ?_ ?_ ?_)
  ·omega
  ·omega
  refine an ?_
  refine⟨(i+1,a',c',rows ++ [(r,jE q)]),⟨h5,hc',?_,?_⟩,by dsimp only;omega,bd,?_⟩
  ·dsimp only;rw[ZL,hrows,htake,ZL];rfl
  ·dsimp only;rw[htake,List.all_append,hok];simp[gg];omega
  ·have e1:ae (bZ r [] cp::rows.map fun r:Row=>bZ r.1 r.2.q cp) ((rows ++ [(r,jE q)]).map fun r:Row=>bZ r.1 r.2.q cp):=by
    rw[ZL]
    exact ae.perm (ZM (l₁:=[bZ r [] cp]))
   have e2:flat bQ rows++bQ (r,jE q)=flat bQ (rows ++ [(r,jE q)]):=by simp[bf,bL,e_]
   rw[e2]
   refine(IP 3 Z ?_).ar
   exact IP 0 Z (ae.trans ae.tl e1)
 ·have h5:i=qs.length:=by omega
  subst h5
  have hnew:k_ qs cp=true:=by
   rw[ZF] at hok
   simp only[k_,hok,Bool.and_true,Zx,decide_eq_true_eq]
   omega
  refine CX ?_
  refine an ?_
  refine VC.e7 1 Z (aV.sl _ _ _ _ _ _) fun x hx=>?_
  obtain⟨hx1,hx2,hx3⟩:=hx
  cases x with
  | none=>exact absurd hx3.2.1 yd
  | some y=>
   obtain⟨cb,rest⟩:=y
   obtain⟨rfl,hx3⟩:=hx3
   refine CR (ay.cU 4 5 Z Z Z (L':=[iu p (aA.new qs cp)]) ?_ (by unfold fu;rw[if_pos hnew];exact⟨p,Z,Z⟩))
   rw[ZF] at hrows
   refine(ae.bN (M:=[]) ⟨cb,c,rest,rows⟩ ⟨aA.Ia hnew,hrows,by dsimp only;omega⟩ ?_).ar
   have e:rn (aA.new qs cp) ⟨cb,c,rest,rows⟩=[.slice (some ⟨cb,0,none⟩) qs.length c,.int .i64 0,.bool true]:=by simp[rn,aA.new,hlen]
   unfold lF
   rw[e]
   refine IP 1 Z ?_
   exact ae.of_eq (by simp[Sh,aA.new])
end Sched
namespace Sched
open Go Vg T Api Ring
attribute [local irreducible] VO VC VA
def aA.qs(S:aA):List (List aa):=S.cls.map dI.q
theorem aA.Ib{S:aA}{k:Nat}{c:dI}(h:S.cls[k]?=some c):S.qs[k]?=some c.q:=by simp[aA.qs,h]
theorem wE{α:Type}{l:List α}{k:Nat}{a:α}(h:l[k]?=some a):l.set k a=l:=by rw[←(Zk.1 h).2];simp
theorem zw{S:aA}{k:Nat}{c:dI}(hc:S.cls[k]?=some c){c':dI}(h:c'.q=c.q):(S.cls.set k c').map dI.q=S.qs:=by
 rw[ZE,h];exact wE (by simp[hc])
theorem sv{S:aA}{c:dI}(hc:S.cls[S.bD]?=some c)(N:Nat):S.kM (N+1)=match c.q with
   | []=>aA.kM N ⟨S.cls.set S.bD c.c0,S.cap,(S.bD+1) % S.cls.length,true⟩
   | f::q=>if (c.c1 S.fresh).bh<cQ f.op then aA.kM N ⟨S.cls.set S.bD (c.c1 S.fresh),S.cap,(S.bD+1) % S.cls.length,true⟩
    else some (f,if q=[] then ⟨S.cls.set S.bD (c.c2 S.fresh f q),S.cap,(S.bD+1) % S.cls.length,true⟩ else ⟨S.cls.set S.bD (c.c2 S.fresh f q),S.cap,S.bD,false⟩):=by
 simp only[aA.kM,hc]
 all_goals (cases c.q<;>rfl)
theorem zy:∀{N:Nat} {S S1:aA} {f:aa},S.Wf→S.kM N=some (f,S1)→∃k q,S.qs[k]?=some (f::q)∧S1.qs=S.qs.set k q∧S1.cap=S.cap∧S1.Wf
 | 0,S,S1,f,_,h=>by simp[aA.kM] at h
 | N+1,S,S1,f,hw,h=>by
  obtain⟨c,hc⟩:∃c,S.cls[S.bD]?=some c:=⟨_,GE hw.bD⟩
  have hcw:=hw.cls c (ME hc)
  have hql:=hw.qs c (ME hc)
  have same:∀c':dI,c'.q=c.q→(S.cls.set S.bD c').map dI.q=S.qs:=fun c' h'=>zw hc h'
  rw[sv hc] at h
  cases hq:c.q with
  | nil=>
   simp only[hq] at h
   have hw':=hw.mW (c':=c.c0) hcw.empty hql Tb
   obtain⟨k,q,h1,h2,h3,h4⟩:=zy hw' h
   have e:aA.qs ⟨S.cls.set S.bD c.c0,S.cap,(S.bD+1) % S.cls.length,true⟩=S.qs:=same c.c0 rfl
   rw[e] at h1 h2
   exact⟨k,q,h1,h2,h3,h4⟩
  | cons g q'=>
   simp only[hq] at h
   have hcost:=me g.op
   have hw1:=hw.c1 hc
   by_cases hlt:(c.c1 S.fresh).bh<cQ g.op
   ·rw[if_pos hlt] at h
    have hw':=hw.mW (c':=c.c1 S.fresh) hw1 hql yd
    obtain⟨k,q,h1,h2,h3,h4⟩:=zy hw' h
    have e:aA.qs ⟨S.cls.set S.bD (c.c1 S.fresh),S.cap,(S.bD+1) % S.cls.length,true⟩=S.qs:=same (c.c1 S.fresh) rfl
    rw[e] at h1 h2
    exact⟨k,q,h1,h2,h3,h4⟩
   ·rw[if_neg hlt] at h
    obtain⟨hw2,hq2⟩:=hw.c2 hc hq hlt
    simp only[Option.some.injEq,Prod.mk.injEq] at h
    obtain⟨rfl,h⟩:=h
    refine⟨S.bD,q',by rw[aA.Ib hc,hq],?_⟩
    by_cases hz:q'=[]
    ·rw[if_pos hz] at h
     subst h
     have hcr:(c.c2 S.fresh g q').bh=0:=by show(if q'=[] then 0 else (c.c1 S.fresh).bh-cQ g.op)=0;rw[if_pos hz]
     exact⟨by simp only[aA.qs,ZE];rfl,Z,hw.mW hw2 hq2 (by rw[hcr];omega)⟩
    ·rw[if_neg hz] at h
     subst h
     exact⟨by simp only[aA.qs,ZE];rfl,Z,hw.stays hw2 hq2⟩
theorem kc:∀{N:Nat} {S:aA} {r:aa×aA} (M:Nat),S.kM N=some r→S.kM (N+M)=some r
 | 0,S,r,M,h=>by simp[aA.kM] at h
 | N+1,S,r,M,h=>by
  rw[show N+1+M=(N+M)+1 from by omega]
  simp only[aA.kM] at h ⊢
  cases hc:S.cls[S.bD]? with
  | none=>simp[hc] at h
  | some c=>
   simp only[hc] at h ⊢
   cases hq:c.q with
   | nil=>simp only[hq] at h ⊢;exact kc M h
   | cons g q'=>
    simp only[hq] at h ⊢
    by_cases hlt:(c.c1 S.fresh).bh<cQ g.op
    ·rw[if_pos hlt] at h ⊢;exact kc M h
    ·rw[if_neg hlt] at h ⊢;exact h
theorem uE:∀(d:Nat) {S:aA},S.Wf→S.fresh=true→(∃x,S.qs[(S.bD+d) % S.cls.length]?=some x∧x≠[])→∃r,S.kM (d+1)=some r
 | d,S,hw,hf,⟨x,hx,hne⟩=>by
  obtain⟨c,hc⟩:∃c,S.cls[S.bD]?=some c:=⟨_,GE hw.bD⟩
  have hcw:=hw.cls c (ME hc)
  have hql:=hw.qs c (ME hc)
  rw[sv hc]
  cases hq:c.q with
  | cons g q'=>
   have hcost:=me g.op
   have h1:=hcw.q0;have h2:=hcw.c0
   have hlt:¬(c.c1 S.fresh).bh<cQ g.op:=by
    show ¬(if S.fresh then c.bh+c.fy else c.bh)<_
    rw[hf,if_pos rfl];omega
   simp only[if_neg hlt]
   exact⟨_,Z⟩
  | nil=>
   cases d with
   | zero=>
    rw[Nat.add_zero,Nat.mod_eq_of_lt hw.bD,aA.Ib hc] at hx
    rw[←Zy hx] at hne
    exact absurd hq hne
   | succ d=>
    have hw':=hw.mW (c':=c.c0) hcw.empty hql Tb
    refine uE d hw' Z ⟨x,?_,hne⟩
    have e:aA.qs ⟨S.cls.set S.bD c.c0,S.cap,(S.bD+1) % S.cls.length,true⟩=S.qs:=zw hc rfl
    rw[e,←hx]
    congr 1
    simp only[ZB]
    rw[Nat.mod_add_mod]
    congr 1;omega
theorem xp{S:aA}(hw:S.Wf)(hi:S.idle=false):∃f S1,S.kM 9=some (f,S1):=by
 have hn4:=hw.n1
 have key:∀{T:aA},T.Wf→T.fresh=true→T.qs=S.qs→∃r,T.kM 4=some r:=by
  intro T hT hf hqs
  obtain⟨c,hc,hne⟩:=List.all_eq_false.1 hi
  obtain⟨j,hj⟩:=List.getElem?_of_mem hc
  have hTn:T.cls.length=S.cls.length:=by have:=congrArg List.length hqs;simpa[aA.qs] using this
  have hjn:=(Zk.1 hj).1
  have ht:=hT.bD
  have hx:T.qs[j]?=some c.q:=by rw[hqs,aA.Ib hj]
  have hne':c.q≠[]:=fun e=>hne Ro
  let d:=(j+T.cls.length-T.bD) % T.cls.length
  have hd:d<T.cls.length:=Nat.mod_lt _ hT.n0
  have hdj:(T.bD+d) % T.cls.length=j:=by
   show(T.bD+(j+T.cls.length-T.bD) % T.cls.length) % T.cls.length=j
   rw[Nat.add_mod_mod,show T.bD+(j+T.cls.length-T.bD)=j+T.cls.length from by omega,Nat.add_mod_right]
   exact Nat.mod_eq_of_lt yd
  obtain⟨r,hr⟩:=uE d hT hf ⟨c.q,by rw[hdj];exact hx,hne'⟩
  refine⟨r,?_⟩
  have:=kc (3-d) hr
  rwa[show d+1+(3-d)=4 from by omega] at this
 have up:∀{T:aA} {r:aa×aA},T.kM 4=some r→T.kM 9=some r:=fun h=>kc 5 h
 cases hf:S.fresh with
 | true=>
  obtain⟨r,hr⟩:=key hw hf rfl
  exact⟨r.1,r.2,up hr⟩
 | false=>
  obtain⟨c,hc⟩:∃c,S.cls[S.bD]?=some c:=⟨_,GE hw.bD⟩
  have hcw:=hw.cls c (ME hc)
  have hql:=hw.qs c (ME hc)
  have same:∀c':dI,c'.q=c.q→(S.cls.set S.bD c').map dI.q=S.qs:=fun c' h'=>zw hc h'
  rw[sv (N:=8) hc]
  cases hq:c.q with
  | nil=>
   have hw':=hw.mW (c':=c.c0) hcw.empty hql Tb
   obtain⟨r,hr⟩:=key hw' rfl (same c.c0 rfl)
   exact⟨r.1,r.2,kc 4 hr⟩
  | cons g q'=>
   have hcost:=me g.op
   by_cases hlt:(c.c1 S.fresh).bh<cQ g.op
   ·have hw':=hw.mW (c':=c.c1 S.fresh) (hw.c1 hc) hql yd
    obtain⟨r,hr⟩:=key hw' rfl (same (c.c1 S.fresh) rfl)
    simp only[if_pos hlt]
    exact⟨r.1,r.2,kc 4 hr⟩
   ·simp only[if_neg hlt]
    exact⟨_,_,Z⟩
def aA.sw(S:aA):Option (aa×aA):=if S.idle then none else S.kM 9
def Bv(p:Nat)(S:aA)(v:Value)(L:List HP):Prop:=match S.sw with
 | none=>v=.tuple #[.agg (cF od).toArray,.bool false]∧L=[iu p S]
 | some r=>(∃m,v=.tuple #[.agg (cF (r.1,m)).toArray,.bool true])∧L=[iu p r.2]
theorem Ic(p:Nat)(S:aA)(hi:S.idle=true):
  aH Tryz.prog 232 [.pointer (some ⟨p,0,none⟩)] Fr w [iu p S] (fun v L=>v=.tuple #[.agg (cF od).toArray,.bool false]∧L=[iu p S]):=by
 refine TF 107 Tryz.func232 Z yn ah Z Z ?_
 refine CS (CG (VG (VO.alloc Z fun b=>VG (VN ?_))))
 refine VC.e7 1 Z (aV.bN p S) fun s0 h0=>?_
 refine CN (L':=pt b (cF od) 204::lF p S s0) (ae.perm ZM).ar ?_
 refine an ?_
 refine VG (VV (fun Fr w hF _ hs=>bj Fr w (hs.aP 1 Z)) Z ?_)
 refine VG (VY 10 false Z (DF WX) ?_)
 refine an ?_
 refine Xk ?_
 refine CC rfl (fun _=>?_) (fun h=>by rw[hi] at h;cases h)
 refine CS (CG (VG (VI (LB (pv:=[]) (cF od) Z Z Z Z Z) (VG (VT (vs:=cF od) (cs':=cF od) 0 Z Z Z Z (NR _) Z Z Z (VG (VN ?_)))))))
 exact CR (ay.aT 2 3 Z Z Z (aE.many 0 Z Z) Z (ae.trans ae.tl (l_ h0)).ar ⟨rfl,Z⟩)
theorem M7(p:Nat)(S:aA)(hw:S.Wf):aH Tryz.prog 232 [.pointer (some ⟨p,0,none⟩)] Fr w [iu p S] (Bv p S):=by
 cases hi:S.idle with
 | true=>
  have:=Ic Fr w p S hi
  unfold Bv aA.sw
  simpa only[hi,if_true] using this
 | false=>
  obtain⟨f,S1,h⟩:=xp hw hi
  have:=rm Fr w p S 9 f S1 h hi
  unfold Bv aA.sw
  simpa only[hi,h,if_neg (by simp:¬false=true)] using this
theorem sy{S S1:aA}{f:aa}(hw:S.Wf)(h:S.sw=some (f,S1)):∃k q,S.qs[k]?=some (f::q)∧S1.qs=S.qs.set k q∧S1.cap=S.cap∧S1.Wf:=by
 unfold aA.sw at h
 split at h
 ·cases h
 ·exact zy hw h
theorem Gd{S:aA}(hw:S.Wf)(h:S.sw=none):S.idle=true:=by
 unfold aA.sw at h
 split at h
 ·assumption
 ·rename_i hi
  obtain⟨f,S1,h2⟩:=xp hw yk
  rw[h2] at h;cases h
theorem zz{S:aA}(hw:S.Wf)(f:aa):(S.ek f).2.Wf:=by
 unfold aA.ek
 cases ha:S.at_ f.cls with
 | none=>exact hw
 | some c=>
  dsimp only
  split
  ·exact hw
  ·split
   ·rename_i hlt
    unfold aA.at_ at ha
    split at ha
    ·have hcw:=hw.cls c (ME ha)
     exact hw.set ha ⟨hcw.q0,hcw.q1,hcw.c0,hcw.c1,hcw.s0,hcw.s1⟩ ye (hw.low _ c ha)
    ·cases ha
   ·exact hw
theorem M8{S:aA}{f:aa}{k:Nat}{c:dI}(hk:f.cls=k)(hc:S.cls[k]?=some c)(ho:aZ f.op=0):
  S.ek f=if c.q.length<S.cap then (0,S.l9 k { c with q:=c.q ++ [f] }) else (60,S):=by
 unfold aA.ek
 rw[hk,aA.H8,hc]
 dsimp only
 rw[if_neg (fun h=>h ho),Zp]
theorem M9{S:aA}{f:aa}{k:Nat}{q:List aa}(hk:f.cls=k)(hc:S.qs[k]?=some q)(ho:aZ f.op=0):
  (S.ek f).1=(if q.length<S.cap then 0 else 60)∧(S.ek f).2.qs=(if q.length<S.cap then S.qs.set k (q ++ [f]) else S.qs)∧(S.ek f).2.cap=S.cap:=by
 unfold aA.qs at hc
 rw[Zn] at hc
 cases hcl:S.cls[k]? with
 | none=>rw[hcl] at hc;cases hc
 | some c=>
  rw[hcl] at hc
  obtain rfl:c.q=q:=Zy hc
  rw[M8 hk hcl ho]
  split
  ·exact⟨rfl,by simp[aA.qs,aA.l9,ZE],Z⟩
  ·exact⟨rfl,Z,Z⟩
theorem Ie(S:aA)(now:Int):(S.mf now).qs=S.qs.map fun q=>q.filter (stay now):=by simp[aA.qs,aA.mf,dI.tP,Function.comp_def]
theorem M_(S:aA)(now:Int):S.cy now=S.qs.flatMap fun q=>q.filter (gone now):=by simp[aA.qs,aA.cy,List.flatMap_map]
theorem Ig{S:aA}(hw:S.Wf)(now:Int):(S.mf now).Wf:=by
 refine⟨by simpa[aA.mf] using hw.n0,by simpa[aA.mf] using hw.n1,hw.eS,hw.gR,by simpa[aA.mf] using hw.bD,fun x hx=>?_,fun x hx=>?_,fun k x hx hl=>?_⟩
 ·obtain⟨c,hc,rfl⟩:=Zv.1 hx
  exact(hw.cls c hc).exp now
 ·obtain⟨c,hc,rfl⟩:=Zv.1 hx
  have:=hw.qs c hc
  have:=Z1 (stay now) c.q
  show(c.q.filter (stay now)).length≤S.cap
  omega
 ·simp only[aA.mf,Zn] at hx
  cases hc:S.cls[k]? with
  | none=>rw[hc] at hx;cases hx
  | some c=>
   rw[hc] at hx
   obtain rfl:c.tP now=x:=Zy hx
   have:=hw.low k c hc hl
   show(if c.q.filter (stay now)=[] then 0 else c.bh)≤95
   split<;>omega
end Sched
namespace Conf
open Go Api Vg T Sched
attribute [local irreducible] VO VC VA
def cR(qs:List Int):List Value:=qs.map fun q=>.int .i64 q
def mg(a:Option Addr)(cap:Nat)(qs:List Int):HP:=aJ 3 1 a qs.length cap (cR qs)
theorem mh(qs:List Int):(cR qs).length=qs.length:=by simp[cR]
theorem Ge(qs:List Int):(cR qs).all Value.oneCell'=true:=by
 rw[ZR]
 intro v hv
 obtain⟨q,_,rfl⟩:=Zv.1 hv
 rfl
theorem mX{w w':World}{b off:Nat}{v:Value}(hb:w'.heap[b]?=w.heap[b]?)(h:w.cell? ⟨b,off,none⟩=some v):w'.cell? ⟨b,off,none⟩=some v:=by
 rw[←h];unfold World.cell?;rw[hb]
theorem fT{X:Cx}{a:Option Addr}{qs:List Int}(h:dZ X.Fr X.w0 a qs){Fr':Nat→Prop}(hF:∀b,X.Fr b→Fr' b){w:World}{L:List HP}(hw:St X L w):dZ Fr' w a qs:=⟨fun hne=>by
 obtain⟨b,off,h1,h2,h3⟩:=h.at_ hne
 exact⟨b,off,h1,hF b h2,fun i v hv=>mX (hw.cJ.block b h2) (h3 i v hv)⟩⟩
theorem gA{Fr:Nat→Prop}{w:World}{a:Option Addr}{c:Nat}{qs:List Int}(h:aL Fr [mg a c qs] w):dZ Fr w a qs:=by
 refine⟨fun hne=>?_⟩
 obtain⟨F,⟨i,G,rfl,hs,rfl⟩,hF⟩:=h
 obtain⟨hc,⟨rfl,h0,_,_⟩ | ⟨b,rest,rfl,rfl,hn,hr,hh⟩⟩:=hs
 ·exact absurd (ZH h0) hne
 ·refine⟨b,0,Z,hF b yf,fun i v hv=>?_⟩
  rw[Zl,cell_of_row w b i (cR qs++rest).toArray _ _ hh]
  have hi:=(Zk.1 hv).1
  have:(cR qs++rest)[i]?=some (.int .i64 v):=by
   rw[List.getElem?_append_left (by simpa[cR] using hi),cR,Zn,hv];rfl
  simpa using this
theorem Gf{Fr:Nat→Prop}{w:World}{a:Option Addr}{qs:List Int}(h:dZ Fr w a qs)(n:Nat):dZ Fr w a (qs.take n):=by
 refine⟨fun hne=>?_⟩
 obtain⟨b,off,h1,h2,h3⟩:=h.at_ (fun e=>hne (by rw[e];simp))
 refine⟨b,off,h1,h2,fun i v hv=>h3 i v ?_⟩
 rw[List.getElem?_take] at hv
 split at hv
 ·exact hv
 ·cases hv
def sD(_:Option Addr):Prop:=True
structure aX where
 nodes:Int
 chain:Int
 aB:Int
 qs:List Int
 queue:Int
 eV:Int
 reads:Int
 link:Int
 bt:Int
 timeout:Int
 dB:Int
 cG:Int
deriving DecidableEq
def aX.cells(c:aX)(a:Option Addr)(cap:Nat):List Value:=[.int .i64 c.nodes,.int .i64 c.chain,.int .i64 c.aB,.slice a c.qs.length cap,.int .i64 c.queue,.int .i64 c.eV,.int .i64 c.reads,.int .i64 c.link,.int .i64 c.bt,.int .i64 c.timeout,.int .i64 c.dB,.int .i64 c.cG]
def aw(x lo hi:Int):Int:=if (if hi<x then hi else x)<lo then lo else if hi<x then hi else x
theorem fA{x lo hi:Int}(h:lo≤hi):lo≤aw x lo hi∧aw x lo hi≤hi:=by
 unfold aw;split<;>split<;>omega
theorem Gg{x lo hi:Int}(h1:lo≤x)(h2:x≤hi):aw x lo hi=x:=by
 unfold aw;rw[if_neg yd,if_neg yd]
theorem Ih(x lo hi:Int):(if lo<(if hi<x then hi else x) then (if hi<x then hi else x) else lo)=aw x lo hi:=by
 unfold aw;split<;>split<;>omega
def ij(q:Int):Int:=aw q 96 65536
def bP(qs:List Int):List Int:=if qs.take 4=[] then [96] else qs.take 4
def gj(qs:List Int):List Int:=(bP qs).map ij
def dy(c:aX):aX:=⟨aw c.nodes 1 6,aw c.chain 1 (aw c.nodes 1 6),aw c.aB 1 6,gj c.qs,aw c.queue 1 16,aw c.eV 1 16,aw c.reads 1 16,aw c.link 4 64,aw c.bt 4 64,aw c.timeout 4 64,aw c.dB 0 16,aw c.cG 1 1099511627776⟩
theorem uF(qs:List Int):1≤(bP qs).length∧(bP qs).length≤4:=by
 unfold bP
 split
 ·simp
 ·rename_i h
  have:=List.length_take_le 4 qs
  refine⟨?_,this⟩
  cases hq:qs.take 4 with
  | nil=>exact absurd hq h
  | cons _ _=>simp
theorem oF(qs:List Int):1≤(gj qs).length∧(gj qs).length≤4:=by
 have:=uF qs
 simpa[gj] using this
theorem DG(x lo hi:Int):aH Tryz.prog 45 [.int .i64 x,.int .i64 lo,.int .i64 hi] Fr w [] (fun v L=>v=.int .i64 (aw x lo hi)∧L=[]):=by
 refine TF 12 Tryz.func45 Z yn ah Z Z ?_
 refine an ?_
 exact CR (ay.int 6 Z Z Z ER ⟨rfl,Z⟩)
theorem d_{b off t:Nat}{cs:List Value}{x:Int}(lo hi:Int)(hx:cs[off]?=some (.int .i64 x)):
  aH Tryz.prog 44 [.pointer (some ⟨b,off,none⟩),.int .i64 lo,.int .i64 hi] Fr w [pt b cs t] (fun v L=>v=.tuple #[]∧L=[pt b (cs.set off (.int .i64 (aw x lo hi))) t]):=by
 refine TF 14 Tryz.func44 Z yn ah Z Z ?_
 refine CG ?_
 refine VG (VO.ld 0 Z Z Z hx ?_)
 refine VG (VO.ic (fun Fr w=>DG Fr w x lo hi) Z ?_)
 refine VG (VO.st 0 Z Z Z Z (Zk.1 hx).1 Z Z (VG (VN ?_)))
 exact O6
theorem qp(a:Option Addr)(cap:Nat)(qs:List Int)(hq:dZ Fr w a qs)(hl:qs.length≤1000):aH Tryz.prog 46 [.slice a qs.length cap] Fr w []
  (fun v L=>∃a' cap',v=.slice a' qs.length cap'∧L=[mg a' cap' qs]):=by
 refine TF 8 Tryz.func46 Z yn ah Z Z ?_
 cases ha:a with
 | none=>
  have hnil:qs=[]:=by
   cases hqs:qs with
   | nil=>rfl
   | cons x xs=>
    obtain⟨b,off,h1,_⟩:=hq.at_ (by rw[hqs];simp)
    rw[ha] at h1;cases h1
  subst hnil
  refine J5 ?_
  exact CR (ay.tmp 2 Z Z (ae.bY ae.refl).ar ⟨none,0,Z,Z⟩)
 | some ad=>
  refine J3 ?_
  refine VG (VO.buildSlice (n:=0) (pv:=[]) [] Z Z Z Z yp Z fun nb=>?_)
  refine VO.ar (L':=[aJ 3 1 (some ⟨nb,0,none⟩) 0 0 []]) (ae.sl (cs:=[]) (rest:=[]) Z (NR _) Z ae.refl).ar ?_
  refine VG (VO.append (m:=qs.length) (news:=cR qs) 0 Z Z Z Z Z Z Z ?_ (Ge qs) (by show(0+qs.length)*8≤_;omega) yd fun a' c' hc'=>VG (VN ?_))
  ·by_cases hne:qs=[]
   ·subst hne
    exact⟨rfl,.inl ⟨some ad,cap,Z,Z⟩⟩
   ·obtain⟨b,off,h1,h2,h3⟩:=hq.at_ hne
    rw[ha] at h1
    cases h1
    refine⟨by simp[cR],.inr ⟨b,off,cap,Z,fun w' hw' j v hv=>?_⟩⟩
    rw[cR,Zn] at hv
    cases hj:qs[j]? with
    | none=>rw[hj] at hv;cases hv
    | some x=>
     rw[hj] at hv
     obtain rfl:=Zy hv
     exact mX (hw'.cJ.block b h2) (h3 j x hj)
  ·exact CR (ay.tmp 2 Z Z (ae.of_eq (by rw[Zl];rfl)).ar ⟨a',c',by rw[Zl],Z⟩)
theorem DH(a b:Option Addr)(ca cb:Nat)(qs ps:List Int)(hq:dZ Fr w a qs)(hp:dZ Fr w b ps)(hl:ps.length≤1000):aH Tryz.prog 28 [.slice a qs.length ca,.slice b ps.length cb] Fr w []
  (fun v L=>v=.bool (decide (qs=ps))∧L=[]):=by
 refine TF 26 Tryz.func28 Z yn ah Z Z ?_
 refine an ?_
 refine VC.bp Z (fun h1=>?_) (fun h1=>CK ?_)
 ·refine an ?_
  exact CR (ay.bool 4 Z Z (by symm;apply DF;intro e;exact h1 Ke) ER ⟨rfl,Z⟩)
 have h1:qs.length=ps.length:=by omega
 refine an ?_
 refine VC.loop (σ:=Nat) (fun i=>[(0,.slice a qs.length ca),(1,.slice b ps.length cb),(12,.int .i64 qs.length),(13,.int .i64 i)]) (fun _=>[]) (fun i=>i≤qs.length∧∀j,j<i→qs[j]?=ps[j]?) (fun i=>qs.length-i) 0 ⟨Zj _,fun j hj=>by omega⟩ bd ER ?_
 rintro i ⟨hi,hall⟩
 refine an ?_
 refine CP Z (fun h2=>CK ?_) (fun h2=>CX ?_)
 ·have hi1:i<qs.length:=by omega
  have hi2:i<ps.length:=by omega
  obtain⟨qb,qo,rfl,hFq,hcq⟩:=hq.at_ (fun e=>by rw[e] at hi1;simp at hi1)
  obtain⟨pb,po,rfl,hFp,hcp⟩:=hp.at_ (fun e=>by rw[e] at hi2;simp at hi2)
  have e1:=GE hi1
  have e2:=GE hi2
  generalize qs[i]=x at e1
  generalize ps[i]=y at e2
  refine CS (VC.block ?_)
  refine Dc ?_
  refine CS (CD (ts 0 9 .nil) yn yr ?_)
  refine eT ?_
  refine AG (AI Z (a_ i Z Z Z Z Z Z hi1) ?_)
  refine AG (VA.load Z Z Z (aE.rd (v:=.int .i64 x) hFq (by show w.cell? ⟨qb,qo+i*1,none⟩=_;rw[Nat.mul_one];exact hcq i x e1)) ?_)
  refine eT ?_
  refine AG (AI Z (a_ i Z Z Z Z Z Z hi2) ?_)
  refine AG (VA.load Z Z Z (aE.rd (v:=.int .i64 y) hFp (by show w.cell? ⟨pb,po+i*1,none⟩=_;rw[Nat.mul_one];exact hcp i y e2)) ?_)
  refine eT ?_
  refine VC.bp Z (fun h3=>?_) (fun h3=>CK ?_)
  ·refine an ?_
   exact CR (ay.bool 4 Z Z (by symm;apply DF;intro e;rw[e,e2] at e1;exact h3 (Zy e1).symm) ER ⟨rfl,Z⟩)
  refine sd ?_
  refine⟨i+1,⟨hi1,fun j hj=>?_⟩,by dsimp only;omega,bd,ER⟩
  by_cases hji:j=i
  ·subst hji;rw[e1,e2,h3]
  ·exact hall j yd
 ·have hi1:i=qs.length:=by omega
  subst hi1
  refine an ?_
  refine CR (ay.bool 4 Z Z (by
   symm;apply DT
   apply Z8
   intro j
   by_cases hj:j<qs.length
   ·exact hall j hj
   ·rw[Z4 yd,Z4 yd]) ER ⟨rfl,rfl⟩)
def qt(qs:List Int)(i:Nat):List Int:=(qs.take i).map ij++qs.drop i
theorem Ii(qs:List Int)(i:Nat):(qt qs i).length=qs.length:=by simp[qt];omega
theorem Na{qs:List Int}{i:Nat}{x:Int}(h:qs[i]?=some x):(qt qs i)[i]?=some x:=by
 have hi:=(Zk.1 h).1
 rw[qt,List.getElem?_append_right ye]
 simp only[Zm,Zw,List.getElem?_drop]
 rw[←h];congr 1;omega
theorem Ij{qs:List Int}{i:Nat}{x:Int}(h:qs[i]?=some x):(qt qs i).set i (ij x)=qt qs (i+1):=by
 have hi:=(Zk.1 h).1
 rw[qt,qt,Zu,h,List.set_append_right _ _ ye]
 have h2:qs.drop i=x::qs.drop (i+1):=by
  rw[List.drop_eq_getElem_cons hi,(Zk.1 h).2]
 rw[h2]
 have h3:i-((qs.take i).map ij).length=0:=by simp;omega
 rw[h3];simp
theorem Ik(c:aX)(a:Option Addr)(cap:Nat)(hq:dZ Fr w a c.qs)(ha:sD a)(hcap:c.qs.length≤cap):aH Tryz.prog 27 [.agg (c.cells a cap).toArray] Fr w []
  (fun v L=>∃a' cap',sD a'∧(dy c).qs.length≤cap'∧v=.agg ((dy c).cells a' cap').toArray∧L=[mg a' cap' (dy c).qs]):=by
 refine TF 69 Tryz.func27 Z yn ah Z Z ?_
 refine CS (CG (VG (VB (vs:=c.cells a cap) Z fun x=>VG (VO.alloc Z fun r=>VG (VN ?_)))))
 obtain⟨c0,c1,c2,qs,c4,c5,c6,c7,c8,c9,c10,c11⟩:=c
 dsimp only at hq hcap
 refine Dc ?_
 refine CS (CG ?_)
 refine VG (VO.gW 1 (ψ:=fun v H=>H=pt x [.int .i64 (aw c0 1 6),.int .i64 c1,.int .i64 c2,.slice a qs.length cap,.int .i64 c4,.int .i64 c5,.int .i64 c6,.int .i64 c7,.int .i64 c8,.int .i64 c9,.int .i64 c10,.int .i64 c11] 24) Z Z (fun Fr w _ _ _=>d_ Fr w _ _ Z) Z (fun v L1 h=>⟨_,h.2,Z⟩) ?_)
 rintro _ _ rfl
 refine Kk ?_
 refine QZ ?_
 refine VG (VO.gW 1 (ψ:=fun v H=>H=pt x [.int .i64 (aw c0 1 6),.int .i64 (aw c1 1 (aw c0 1 6)),.int .i64 c2,.slice a qs.length cap,.int .i64 c4,.int .i64 c5,.int .i64 c6,.int .i64 c7,.int .i64 c8,.int .i64 c9,.int .i64 c10,.int .i64 c11] 24) Z Z (fun Fr w _ _ _=>d_ Fr w _ _ Z) Z (fun v L1 h=>⟨_,h.2,Z⟩) ?_)
 rintro _ _ rfl
 refine Kk ?_
 refine VG (VO.gW 1 (ψ:=fun v H=>H=pt x [.int .i64 (aw c0 1 6),.int .i64 (aw c1 1 (aw c0 1 6)),.int .i64 (aw c2 1 6),.slice a qs.length cap,.int .i64 c4,.int .i64 c5,.int .i64 c6,.int .i64 c7,.int .i64 c8,.int .i64 c9,.int .i64 c10,.int .i64 c11] 24) Z Z (fun Fr w _ _ _=>d_ Fr w _ _ Z) Z (fun v L1 h=>⟨_,h.2,Z⟩) ?_)
 rintro _ _ rfl
 refine AM ?_
 have ht4:=List.length_take_le 4 qs
 refine CS (CG (VG (VO.ld 1 Z Z Z Z (VG (VO.ld 1 Z Z Z Z ?_)))))
 refine VG (VI (mQ (qs.take 4).length Z Z Z Z Z (by rw[Zw];split<;>omega) Ta) ?_)
 refine VG (VK (Lc:=[]) (fun Fr w hF hs _=>qp Fr w a cap (qs.take 4) (Gf (fT hq hF hs) 4) yd) Z Z ?_)
 rintro _ _ ⟨a1,gR,rfl,rfl⟩
 refine VG (VO.st 2 Z Z Z Z Rl Z Z (VG (VN ?_)))
 have hf1:=uF qs
 refine VC.meet (σ:=Nat×Nat×List Value) (fun _=>[(1,pV x),(2,pV r),(3,.func (.func 44) #[] #[])])
  (fun y=>[pt y.1 (cR (bP qs)++y.2.2) 3,pt r T.t24.zs 24,pt x [.int .i64 (aw c0 1 6),.int .i64 (aw c1 1 (aw c0 1 6)),.int .i64 (aw c2 1 6),.slice (some ⟨y.1,0,none⟩) (bP qs).length y.2.1,.int .i64 c4,.int .i64 c5,.int .i64 c6,.int .i64 c7,.int .i64 c8,.int .i64 c9,.int .i64 c10,.int .i64 c11] 24]) (fun y=>(bP qs).length≤y.2.1∧(cR (bP qs)++y.2.2).length=y.2.1) ?_ ?_
 ·refine CS (CG (VG (VO.ld 2 Z Z Z Z (VG (VN ?_)))))
  refine CE Z (fun hz=>?_) (fun hz=>?_)
  ·have hz:qs.take 4=[]:=ZH yd
   have hqf:bP qs=[96]:=by unfold bP;rw[if_pos hz]
   refine CG (VG (VO.buildSlice (n:=1) (pv:=[(0,.int .i64 96)]) [.int .i64 96] Z Z Z Z yp Z fun nb=>?_))
   refine VG (VO.st 3 Z Z Z Z Rl Z Z (VG (VN ?_)))
   refine⟨(nb,1,[]),⟨by rw[hqf];exact NR 1,by rw[hqf];rfl⟩,bd,?_⟩
   rw[hqf]
   exact(ae.cons ae.tl).ar
  ·have hz:¬qs.take 4=[]:=fun e=>hz Ro
   have hqf:bP qs=qs.take 4:=by unfold bP;rw[if_neg hz]
   refine VC.e7 0 Z (aV.sl 3 1 a1 (qs.take 4).length gR (cR (qs.take 4))) fun y hy=>CK ?_
   obtain⟨h1,h2,h3⟩:=hy
   cases y with
   | none=>
    obtain⟨_,h5,_⟩:=h3
    exact absurd (ZH h5) hz
   | some y=>
    obtain⟨b1,rest⟩:=y
    obtain⟨rfl,h4⟩:=h3
    refine⟨(b1,gR,rest),⟨by rw[hqf];exact h2,by rw[hqf];simpa using h4⟩,bd,?_⟩
    rw[hqf]
    exact ER
 rintro⟨qb,qcap,rest⟩ ⟨hqc,hrest⟩
 dsimp only at hqc hrest ⊢
 refine sf ?_
 refine VC.loop (σ:=Nat) (fun i=>[(1,pV x),(2,pV r),(3,.func (.func 44) #[] #[]),(33,.int .i64 (bP qs).length),(34,.int .i64 i)])
  (fun i=>[pt qb (cR (qt (bP qs) i)++rest) 3,pt r T.t24.zs 24,pt x [.int .i64 (aw c0 1 6),.int .i64 (aw c1 1 (aw c0 1 6)),.int .i64 (aw c2 1 6),.slice (some ⟨qb,0,none⟩) (bP qs).length qcap,.int .i64 c4,.int .i64 c5,.int .i64 c6,.int .i64 c7,.int .i64 c8,.int .i64 c9,.int .i64 c10,.int .i64 c11] 24]) (fun i=>i≤(bP qs).length) (fun i=>4-i) 0 (Zj _) bd ER ?_
 intro i hi
 refine an ?_
 refine CP Z (fun h1=>CK ?_) (fun h1=>CX ?_)
 ·have hi2:i<(bP qs).length:=by omega
  have hy:=GE hi2
  generalize (bP qs)[i]=y at hy
  have hc:(cR (qt (bP qs) i)++rest)[0+i*1]?=some (.int .i64 y):=by
   rw[Zl,Nat.mul_one,List.getElem?_append_left W1,cR,Zn,Na hy];rfl
  have hset:(cR (qt (bP qs) i)++rest).set (0+i*1) (.int .i64 (aw y 96 65536))=cR (qt (bP qs) (i+1))++rest:=by
   rw[Zl,Nat.mul_one,List.set_append_left _ _ W1,cR,←Ij hy,cR,ZE];rfl
  refine sf ?_
  refine Xc ?_
  refine VG (VO.gW 0 (ψ:=fun v H=>H=pt qb (cR (qt (bP qs) (i+1))++rest) 3) Z Z (fun Fr w _ _ _=>d_ Fr w _ _ hc) Z (fun v L1 h=>⟨_,h.2,by rw[hset]⟩) ?_)
  rintro _ _ rfl
  refine AM ?_
  refine sd ?_
  exact⟨i+1,hi2,by dsimp only;omega,bd,ER⟩
 have hi2:i=(bP qs).length:=by omega
 subst hi2
 refine CS (CG ?_)
 refine VG (VO.gW 2 (ψ:=fun v H=>H=pt x [.int .i64 (aw c0 1 6),.int .i64 (aw c1 1 (aw c0 1 6)),.int .i64 (aw c2 1 6),.slice (some ⟨qb,0,none⟩) (bP qs).length qcap,.int .i64 (aw c4 1 16),.int .i64 c5,.int .i64 c6,.int .i64 c7,.int .i64 c8,.int .i64 c9,.int .i64 c10,.int .i64 c11] 24) Z Z (fun Fr w _ _ _=>d_ Fr w _ _ Z) Z (fun v L1 h=>⟨_,h.2,Z⟩) ?_)
 rintro _ _ rfl
 refine Kk ?_
 refine VG (VO.gW 2 (ψ:=fun v H=>H=pt x [.int .i64 (aw c0 1 6),.int .i64 (aw c1 1 (aw c0 1 6)),.int .i64 (aw c2 1 6),.slice (some ⟨qb,0,none⟩) (bP qs).length qcap,.int .i64 (aw c4 1 16),.int .i64 (aw c5 1 16),.int .i64 c6,.int .i64 c7,.int .i64 c8,.int .i64 c9,.int .i64 c10,.int .i64 c11] 24) Z Z (fun Fr w _ _ _=>d_ Fr w _ _ Z) Z (fun v L1 h=>⟨_,h.2,Z⟩) ?_)
 rintro _ _ rfl
 refine Kk ?_
 refine VG (VO.gW 2 (ψ:=fun v H=>H=pt x [.int .i64 (aw c0 1 6),.int .i64 (aw c1 1 (aw c0 1 6)),.int .i64 (aw c2 1 6),.slice (some ⟨qb,0,none⟩) (bP qs).length qcap,.int .i64 (aw c4 1 16),.int .i64 (aw c5 1 16),.int .i64 (aw c6 1 16),.int .i64 c7,.int .i64 c8,.int .i64 c9,.int .i64 c10,.int .i64 c11] 24) Z Z (fun Fr w _ _ _=>d_ Fr w _ _ Z) Z (fun v L1 h=>⟨_,h.2,Z⟩) ?_)
 rintro _ _ rfl
 refine Kk ?_
 refine VG (VO.gW 2 (ψ:=fun v H=>H=pt x [.int .i64 (aw c0 1 6),.int .i64 (aw c1 1 (aw c0 1 6)),.int .i64 (aw c2 1 6),.slice (some ⟨qb,0,none⟩) (bP qs).length qcap,.int .i64 (aw c4 1 16),.int .i64 (aw c5 1 16),.int .i64 (aw c6 1 16),.int .i64 (aw c7 4 64),.int .i64 c8,.int .i64 c9,.int .i64 c10,.int .i64 c11] 24) Z Z (fun Fr w _ _ _=>d_ Fr w _ _ Z) Z (fun v L1 h=>⟨_,h.2,Z⟩) ?_)
 rintro _ _ rfl
 refine Kk ?_
 refine VG (VO.gW 2 (ψ:=fun v H=>H=pt x [.int .i64 (aw c0 1 6),.int .i64 (aw c1 1 (aw c0 1 6)),.int .i64 (aw c2 1 6),.slice (some ⟨qb,0,none⟩) (bP qs).length qcap,.int .i64 (aw c4 1 16),.int .i64 (aw c5 1 16),.int .i64 (aw c6 1 16),.int .i64 (aw c7 4 64),.int .i64 (aw c8 4 64),.int .i64 c9,.int .i64 c10,.int .i64 c11] 24) Z Z (fun Fr w _ _ _=>d_ Fr w _ _ Z) Z (fun v L1 h=>⟨_,h.2,Z⟩) ?_)
 rintro _ _ rfl
 refine Kk ?_
 refine VG (VO.gW 2 (ψ:=fun v H=>H=pt x [.int .i64 (aw c0 1 6),.int .i64 (aw c1 1 (aw c0 1 6)),.int .i64 (aw c2 1 6),.slice (some ⟨qb,0,none⟩) (bP qs).length qcap,.int .i64 (aw c4 1 16),.int .i64 (aw c5 1 16),.int .i64 (aw c6 1 16),.int .i64 (aw c7 4 64),.int .i64 (aw c8 4 64),.int .i64 (aw c9 4 64),.int .i64 c10,.int .i64 c11] 24) Z Z (fun Fr w _ _ _=>d_ Fr w _ _ Z) Z (fun v L1 h=>⟨_,h.2,Z⟩) ?_)
 rintro _ _ rfl
 refine Kk ?_
 refine VG (VO.gW 2 (ψ:=fun v H=>H=pt x [.int .i64 (aw c0 1 6),.int .i64 (aw c1 1 (aw c0 1 6)),.int .i64 (aw c2 1 6),.slice (some ⟨qb,0,none⟩) (bP qs).length qcap,.int .i64 (aw c4 1 16),.int .i64 (aw c5 1 16),.int .i64 (aw c6 1 16),.int .i64 (aw c7 4 64),.int .i64 (aw c8 4 64),.int .i64 (aw c9 4 64),.int .i64 (aw c10 0 16),.int .i64 c11] 24) Z Z (fun Fr w _ _ _=>d_ Fr w _ _ Z) Z (fun v L1 h=>⟨_,h.2,Z⟩) ?_)
 rintro _ _ rfl
 refine Kk ?_
 refine VG (VO.gW 2 (ψ:=fun v H=>H=pt x [.int .i64 (aw c0 1 6),.int .i64 (aw c1 1 (aw c0 1 6)),.int .i64 (aw c2 1 6),.slice (some ⟨qb,0,none⟩) (bP qs).length qcap,.int .i64 (aw c4 1 16),.int .i64 (aw c5 1 16),.int .i64 (aw c6 1 16),.int .i64 (aw c7 4 64),.int .i64 (aw c8 4 64),.int .i64 (aw c9 4 64),.int .i64 (aw c10 0 16),.int .i64 (aw c11 1 1099511627776)] 24) Z Z (fun Fr w _ _ _=>d_ Fr w _ _ Z) Z (fun v L1 h=>⟨_,h.2,Z⟩) ?_)
 rintro _ _ rfl
 refine AM ?_
 have hmix:qt (bP qs) (bP qs).length=gj qs:=by simp[qt,gj]
 have hql:(bP qs).length=(gj qs).length:=by simp[gj]
 rw[hmix]
 refine CS (CG (VG (VL 2 [.int .i64 (aw c0 1 6),.int .i64 (aw c1 1 (aw c0 1 6)),.int .i64 (aw c2 1 6),.slice (some ⟨qb,0,none⟩) (bP qs).length qcap,.int .i64 (aw c4 1 16),.int .i64 (aw c5 1 16),.int .i64 (aw c6 1 16),.int .i64 (aw c7 4 64),.int .i64 (aw c8 4 64),.int .i64 (aw c9 4 64),.int .i64 (aw c10 0 16),.int .i64 (aw c11 1 1099511627776)] Z Z Z Z ?_)))
 refine VG (VT (vs:=[.int .i64 (aw c0 1 6),.int .i64 (aw c1 1 (aw c0 1 6)),.int .i64 (aw c2 1 6),.slice (some ⟨qb,0,none⟩) (bP qs).length qcap,.int .i64 (aw c4 1 16),.int .i64 (aw c5 1 16),.int .i64 (aw c6 1 16),.int .i64 (aw c7 4 64),.int .i64 (aw c8 4 64),.int .i64 (aw c9 4 64),.int .i64 (aw c10 0 16),.int .i64 (aw c11 1 1099511627776)]) (cs':=[.int .i64 (aw c0 1 6),.int .i64 (aw c1 1 (aw c0 1 6)),.int .i64 (aw c2 1 6),.slice (some ⟨qb,0,none⟩) (bP qs).length qcap,.int .i64 (aw c4 1 16),.int .i64 (aw c5 1 16),.int .i64 (aw c6 1 16),.int .i64 (aw c7 4 64),.int .i64 (aw c8 4 64),.int .i64 (aw c9 4 64),.int .i64 (aw c10 0 16),.int .i64 (aw c11 1 1099511627776)]) 1 Z Z Z Z (NR _) Z Z Z (VG (VN ?_)))
 refine CR (ay.cell 2 Z Z Z (aE.many 1 Z Z) (L':=[mg (some ⟨qb,0,none⟩) qcap (gj qs)]) ?_ ⟨some ⟨qb,0,none⟩,qcap,trivial,by show(gj qs).length≤_;omega,?_,Z⟩)
 ·refine(ae.sl (b:=qb) (rest:=rest) (by rw[mh,Nat.mul_one]) yd (by rw[←hrest,Nat.mul_one,Zh,Zh,mh,mh,hql]) (ae.app (L:=[_]) (M:=[_]) ae.refl ae.nil)).ar
 ·rw[hql];rfl
end Conf
namespace Conf
open Go Api Vg T Sched
attribute [local irreducible] VO VC VA
def hY(c:aX):Int:=if c=dy c then 0 else 2
theorem Il{c d:aX}(h0:c.nodes=d.nodes)(h1:c.chain=d.chain)(h2:c.aB=d.aB)(h3:c.qs=d.qs)(h4:c.queue=d.queue)(h5:c.eV=d.eV)(h6:c.reads=d.reads)(h7:c.link=d.link)(h8:c.bt=d.bt)(h9:c.timeout=d.timeout)(h10:c.dB=d.dB)(h11:c.cG=d.cG):c=d:=by
 cases c;cases d;simp_all
theorem bm(c:aX)(a:Option Addr)(cap:Nat)(hq:dZ Fr w a c.qs)(ha:sD a)(hcap:c.qs.length≤cap):aH Tryz.prog 16 [.agg (c.cells a cap).toArray] Fr w []
  (fun v L=>v=.int .i64 (hY c)∧L=[]):=by
 refine TF 91 Tryz.func16 Z yn ah Z Z ?_
 refine CS (CG (VG (VB (vs:=c.cells a cap) Z fun x=>VG (VN ?_))))
 refine CS (CG (VG (VL 0 (c.cells a cap) Z Z Z Z ?_)))
 refine VG (VK (Lc:=[]) (fun Fr w hF hs _=>Ik Fr w c a cap (fT hq hF hs) ha hcap) Z Z ?_)
 rintro _ _ ⟨a',cap',ha',hcap',rfl,rfl⟩
 refine VG (VO.alloc Z fun f=>VG (VT (vs:=(dy c).cells a' cap') (cs':=(dy c).cells a' cap') 0 Z Z Z Z (NR _) Z Z Z (VG (VN ?_))))
 refine VC.meet (σ:=Bool) (fun b=>[(4,.bool b)]) (fun _=>[]) (fun b=>b=decide (c=dy c)) ?_ ?_
 rotate_left
 ·rintro b rfl
  refine CS (CS (CG (VG (VN ?_))))
  refine VC.dT Z (fun h=>?_) (fun h=>CK ?_)
  ·have h:=of_decide_eq_false h
   refine an ?_
   exact CR (ay.int 2 Z Z (by rw[hY,if_neg h]) ER ⟨rfl,Z⟩)
  ·have h:=of_decide_eq_true h
   refine an ?_
   exact CR (ay.int 2 Z Z (by rw[hY,if_pos h]) ER ⟨rfl,Z⟩)
 refine CG ?_
 refine Hx ?_
 refine VG (VO.split 12 Z Z (fun h0=>?_) (fun h0=>?_))
 rotate_left
 ·refine VG (VY 19 false Z Z ?_)
  refine VG (VY 26 false Z Z ?_)
  refine VG (VY 33 false Z Z ?_)
  refine QV ?_
  refine Ru ?_
  refine Q8 ?_
  refine VG (VN ⟨false,?_,bd,ae.nil.ar⟩)
  show false=decide _;symm;apply DF;intro e
  exact(beq_eq_false_iff_ne.1 h0) (congrArg aX.nodes e)
 refine Hx ?_
 refine VG (VO.split 19 Z Z (fun h1=>?_) (fun h1=>?_))
 rotate_left
 ·refine VG (VY 26 false Z Z ?_)
  refine VG (VY 33 false Z Z ?_)
  refine QV ?_
  refine Ru ?_
  refine Q8 ?_
  refine VG (VN ⟨false,?_,bd,ae.nil.ar⟩)
  show false=decide _;symm;apply DF;intro e
  exact(beq_eq_false_iff_ne.1 h1) (congrArg aX.chain e)
 refine Hx ?_
 refine VG (VO.split 26 Z Z (fun h2=>?_) (fun h2=>?_))
 rotate_left
 ·refine VG (VY 33 false Z Z ?_)
  refine QV ?_
  refine Ru ?_
  refine Q8 ?_
  refine VG (VN ⟨false,?_,bd,ae.nil.ar⟩)
  show false=decide _;symm;apply DF;intro e
  exact(beq_eq_false_iff_ne.1 h2) (congrArg aX.aB e)
 refine Hx ?_
 refine VG (VV (fun Fr w hF hs h2=>DH Fr w a a' cap cap' c.qs (dy c).qs (fT hq hF hs) (gA (h2.at_ 1 Z)) (by have:=(oF c.qs).2;show(gj c.qs).length≤1000;omega)) Z ?_)
 refine VG (VO.split 33 Z Z (fun h3=>?_) (fun h3=>?_))
 rotate_left
 ·refine QV ?_
  refine Ru ?_
  refine Q8 ?_
  refine VG (VN ⟨false,?_,bd,ae.nil.ar⟩)
  show false=decide _;symm;apply DF;intro e
  exact(of_decide_eq_false h3) (congrArg aX.qs e)
 refine Hx ?_
 refine VG (VO.split 40 Z Z (fun h4=>?_) (fun h4=>?_))
 rotate_left
 ·refine Ru ?_
  refine Q8 ?_
  refine VG (VN ⟨false,?_,bd,ae.nil.ar⟩)
  show false=decide _;symm;apply DF;intro e
  exact(beq_eq_false_iff_ne.1 h4) (congrArg aX.queue e)
 refine Hx ?_
 refine VG (VO.split 47 Z Z (fun h5=>?_) (fun h5=>?_))
 rotate_left
 ·refine Q8 ?_
  refine VG (VN ⟨false,?_,bd,ae.nil.ar⟩)
  show false=decide _;symm;apply DF;intro e
  exact(beq_eq_false_iff_ne.1 h5) (congrArg aX.eV e)
 refine Hx ?_
 refine VG (VO.split 54 Z Z (fun h6=>?_) (fun h6=>?_))
 rotate_left
 ·refine YC ?_
  refine VG (VN ⟨false,?_,bd,ae.nil.ar⟩)
  show false=decide _;symm;apply DF;intro e
  exact(beq_eq_false_iff_ne.1 h6) (congrArg aX.reads e)
 refine Hx ?_
 refine VG (VO.split 61 Z Z (fun h7=>?_) (fun h7=>?_))
 rotate_left
 ·refine YA ?_
  refine VG (VN ⟨false,?_,bd,ae.nil.ar⟩)
  show false=decide _;symm;apply DF;intro e
  exact(beq_eq_false_iff_ne.1 h7) (congrArg aX.link e)
 refine Hx ?_
 refine VG (VO.split 68 Z Z (fun h8=>?_) (fun h8=>?_))
 rotate_left
 ·refine Yy ?_
  refine VG (VN ⟨false,?_,bd,ae.nil.ar⟩)
  show false=decide _;symm;apply DF;intro e
  exact(beq_eq_false_iff_ne.1 h8) (congrArg aX.bt e)
 refine Hx ?_
 refine VG (VO.split 75 Z Z (fun h9=>?_) (fun h9=>?_))
 rotate_left
 ·refine Xm ?_
  refine VG (VN ⟨false,?_,bd,ae.nil.ar⟩)
  show false=decide _;symm;apply DF;intro e
  exact(beq_eq_false_iff_ne.1 h9) (congrArg aX.timeout e)
 refine Hx ?_
 refine VG (VO.split 82 Z Z (fun h10=>?_) (fun h10=>?_))
 rotate_left
 ·refine VG (VN ⟨false,?_,bd,ae.nil.ar⟩)
  show false=decide _;symm;apply DF;intro e
  exact(beq_eq_false_iff_ne.1 h10) (congrArg aX.dB e)
 refine Hx ?_
 refine VG (VN ⟨(c.cG == (dy c).cG),?_,bd,ae.nil.ar⟩)
 show(c.cG == (dy c).cG)=decide _
 rw[Bool.eq_iff_iff,beq_iff_eq,decide_eq_true_iff]
 refine⟨fun h11=>Il (eq_of_beq h0) (eq_of_beq h1) (eq_of_beq h2) (of_decide_eq_true h3) (eq_of_beq h4) (eq_of_beq h5) (eq_of_beq h6) (eq_of_beq h7) (eq_of_beq h8) (eq_of_beq h9) (eq_of_beq h10) h11,fun e=>congrArg aX.cG e⟩
theorem bF(x lo hi:Int):aH Tryz.prog 14 [.int .i64 x,.int .i64 lo,.int .i64 hi] Fr w [] (fun v L=>v=.int .i64 (aw x lo hi)∧L=[]):=by
 refine TF 12 Tryz.func14 Z yn ah Z Z ?_
 refine an ?_
 exact CR (ay.int 6 Z Z (Ih x lo hi) ER ⟨rfl,Z⟩)
theorem DI{X:Cx}(hX:X.tab=tab){e:Env}{parts:Array (Nat×Operand)}{x0 x1 x2 x4 x5 x6 x7 x8 x9 x10 x11:Int}
  (hp:HB e parts.toList=some [(0,.int .i64 x0),(1,.int .i64 x1),(2,.int .i64 x2),(4,.int .i64 x4),(5,.int .i64 x5),(6,.int .i64 x6),(7,.int .i64 x7),(8,.int .i64 x8),(9,.int .i64 x9),(10,.int .i64 x10),(11,.int .i64 x11)]):
  dm X (.build 24 parts) e (.agg ([.int .i64 x0,.int .i64 x1,.int .i64 x2,.slice none 0 0,.int .i64 x4,.int .i64 x5,.int .i64 x6,.int .i64 x7,.int .i64 x8,.int .i64 x9,.int .i64 x10,.int .i64 x11]:List Value).toArray):=
 LB _ (by rw[hX];rfl) rfl hp yn rfl
theorem aV.Sj(el esz:Nat)(a:Option Addr)(n cap:Nat)(cs:List Value):aV (ι:=Unit) (aJ el esz a n cap cs) (fun _=>sD a) (fun _=>[aJ el esz a n cap cs]):=by
 intro w ids h hn
 exact⟨(),trivial,ids,⟨ids,[],by simp,h,Z⟩,hn,fun b h=>h⟩
structure V4(qs:List Int)(x:Nat×Option Addr×Nat):Prop where
 le:x.1≤(qs.take 4).length
 room:x.1≤x.2.2
theorem xq(c:aX)(a:Option Addr)(cap:Nat)(hq:dZ Fr w a c.qs):aH Tryz.prog 7 [.agg (c.cells a cap).toArray] Fr w []
  (fun v L=>∃a' cap',sD a'∧(dy c).qs.length≤cap'∧v=.agg ((dy c).cells a' cap').toArray∧L=[mg a' cap' (dy c).qs]):=by
 refine TF 74 Tryz.func7 Z yn ah Z Z ?_
 refine CS (CG (VG (VB (vs:=c.cells a cap) Z fun x=>VG (VO.alloc Z fun r=>VG (VN ?_)))))
 refine CS (CG (VG (VO.ld 1 Z Z Z Z ?_)))
 refine VG (VO.ic (fun Fr w=>bF Fr w c.nodes 1 6) Z (VG (VN ?_)))
 refine VC.meet (σ:=Nat) (fun d=>[(1,pV x),(2,pV r),(4,pV d)])
  (fun d=>[pt d [.int .i64 (aw c.nodes 1 6),.int .i64 (aw c.chain 1 (aw c.nodes 1 6)),.int .i64 (aw c.aB 1 6),.slice none 0 0,.int .i64 (aw c.queue 1 16),.int .i64 (aw c.eV 1 16),.int .i64 (aw c.reads 1 16),.int .i64 (aw c.link 4 64),.int .i64 (aw c.bt 4 64),.int .i64 (aw c.timeout 4 64),.int .i64 (aw c.dB 0 16),.int .i64 (aw c.cG 1 1099511627776)] 24,pt r T.t24.zs 24,pt x (c.cells a cap) 24]) (fun _=>True) ?_ ?_
 ·refine CD (.take 0 (.take 1 (.take 2 (.take 3 (.take 5 (.take 6 (.take 8 (.take 9 (.take 11 (.take 12 (.take 14 (.take 15 (.take 17 (.take 18 (.take 20 (.take 21 (.take 23 (.take 24 (.take 26 (.take 27 (.take 29 (.take 30 (.two 4 33 (.two 7 33 (.two 10 33 (.two 13 33 (.two 16 33 (.two 19 33 (.two 22 33 (.two 25 33 (.two 28 33 (.two 31 33 (.take 32 (.only 33 (.only 34 .nil))) (.only 31 (.take 32 (.only 34 .nil)))) (.only 28 (.only 31 (.take 32 (.only 34 .nil))))) (.only 25 (.only 28 (.only 31 (.take 32 (.only 34 .nil)))))) (.only 22 (.only 25 (.only 28 (.only 31 (.take 32 (.only 34 .nil))))))) (.only 19 (.only 22 (.only 25 (.only 28 (.only 31 (.take 32 (.only 34 .nil)))))))) (.only 16 (.only 19 (.only 22 (.only 25 (.only 28 (.only 31 (.take 32 (.only 34 .nil))))))))) (.only 13 (.only 16 (.only 19 (.only 22 (.only 25 (.only 28 (.only 31 (.take 32 (.only 34 .nil)))))))))) (.only 10 (.only 13 (.only 16 (.only 19 (.only 22 (.only 25 (.only 28 (.only 31 (.take 32 (.only 34 .nil))))))))))) (.only 7 (.only 10 (.only 13 (.only 16 (.only 19 (.only 22 (.only 25 (.only 28 (.only 31 (.take 32 (.only 34 .nil)))))))))))) (.only 4 (.only 7 (.only 10 (.only 13 (.only 16 (.only 19 (.only 22 (.only 25 (.only 28 (.only 31 (.take 32 (.only 34 .nil))))))))))))))))))))))))))))))))))) yn yr ?_
  refine qe ?_
  refine VA.RY (cond:=fun L'=>pt x (c.cells a cap) 24∈L') (fun S hS=>?_) (fun L' hL'=>?_)
  rotate_left
  ·obtain⟨i,hi⟩:=List.getElem?_of_mem hL'
   exact(by(try refine Pd.st ?_);(repeat(first|exact Pd.nil|exact Pd.fnil|refine Pd.inner ?_|refine Pd.skip yr ?_|refine zf (aE.aP (aE.one i hi Z) Z) ?_|refine zf ((aE.one i hi Z)) ?_|refine zc (aE.aP (aE.one i hi Z) Z) ?_|refine zc ((aE.one i hi Z)) ?_)))
  refine AG (VA.two rfl rfl rfl rfl rfl (a8.c_ (φ:=fun v=>v=.int .i64 (aw c.chain 1 (aw c.nodes 1 6))) (fun Fr w _ _ _=>bF Fr w _ _ _) rfl) rfl rfl rfl (a8.alloc rfl) (fun v L' h=>by obtain⟨_,rfl⟩:=h;exact Pd.st JW) (fun v L' h=>by obtain⟨d,_,rfl⟩:=h;exact Pd.st wk) ?_ ?_)
  rotate_left
  ·rintro _ _ ⟨d,rfl,rfl⟩
   refine AG (AO (a8.c_ (φ:=fun v=>v=.int .i64 (aw c.chain 1 (aw c.nodes 1 6))) (fun Fr w _ _ _=>bF Fr w _ _ _) rfl) rfl (fun v L' h=>by obtain⟨_,rfl⟩:=h;exact wk) ?_)
   rintro _ _ ⟨rfl,rfl⟩
   refine Xn ?_
   rintro _ _ ⟨rfl,rfl⟩
   refine UK ?_
   rintro _ _ ⟨rfl,rfl⟩
   refine TA ?_
   rintro _ _ ⟨rfl,rfl⟩
   refine Rv ?_
   rintro _ _ ⟨rfl,rfl⟩
   refine Q0 ?_
   rintro _ _ ⟨rfl,rfl⟩
   refine O7 ?_
   rintro _ _ ⟨rfl,rfl⟩
   refine Oq ?_
   rintro _ _ ⟨rfl,rfl⟩
   refine Kg ?_
   rintro _ _ ⟨rfl,rfl⟩
   refine J1 ?_
   rintro _ _ ⟨rfl,rfl⟩
   exact J7
  rintro _ _ ⟨rfl,rfl⟩
  refine AG (VA.two rfl rfl rfl rfl rfl (a8.c_ (φ:=fun v=>v=.int .i64 (aw c.aB 1 6)) (fun Fr w _ _ _=>bF Fr w _ _ _) rfl) rfl rfl rfl (a8.alloc rfl) (fun v L' h=>by obtain⟨_,rfl⟩:=h;exact Pd.st JW) (fun v L' h=>by obtain⟨d,_,rfl⟩:=h;exact Pd.st wk) ?_ ?_)
  rotate_left
  ·rintro _ _ ⟨d,rfl,rfl⟩
   refine Xn ?_
   rintro _ _ ⟨rfl,rfl⟩
   refine UK ?_
   rintro _ _ ⟨rfl,rfl⟩
   refine TA ?_
   rintro _ _ ⟨rfl,rfl⟩
   refine Rv ?_
   rintro _ _ ⟨rfl,rfl⟩
   refine Q0 ?_
   rintro _ _ ⟨rfl,rfl⟩
   refine O7 ?_
   rintro _ _ ⟨rfl,rfl⟩
   refine Oq ?_
   rintro _ _ ⟨rfl,rfl⟩
   refine Kg ?_
   rintro _ _ ⟨rfl,rfl⟩
   refine J1 ?_
   rintro _ _ ⟨rfl,rfl⟩
   exact J7
  rintro _ _ ⟨rfl,rfl⟩
  refine AG (VA.two rfl rfl rfl rfl rfl (a8.c_ (φ:=fun v=>v=.int .i64 (aw c.queue 1 16)) (fun Fr w _ _ _=>bF Fr w _ _ _) rfl) rfl rfl rfl (a8.alloc rfl) (fun v L' h=>by obtain⟨_,rfl⟩:=h;exact Pd.st JW) (fun v L' h=>by obtain⟨d,_,rfl⟩:=h;exact Pd.st wk) ?_ ?_)
  rotate_left
  ·rintro _ _ ⟨d,rfl,rfl⟩
   refine UK ?_
   rintro _ _ ⟨rfl,rfl⟩
   refine TA ?_
   rintro _ _ ⟨rfl,rfl⟩
   refine Rv ?_
   rintro _ _ ⟨rfl,rfl⟩
   refine Q0 ?_
   rintro _ _ ⟨rfl,rfl⟩
   refine O7 ?_
   rintro _ _ ⟨rfl,rfl⟩
   refine Oq ?_
   rintro _ _ ⟨rfl,rfl⟩
   refine Kg ?_
   rintro _ _ ⟨rfl,rfl⟩
   refine J1 ?_
   rintro _ _ ⟨rfl,rfl⟩
   exact J7
  rintro _ _ ⟨rfl,rfl⟩
  refine AG (VA.two rfl rfl rfl rfl rfl (a8.c_ (φ:=fun v=>v=.int .i64 (aw c.eV 1 16)) (fun Fr w _ _ _=>bF Fr w _ _ _) rfl) rfl rfl rfl (a8.alloc rfl) (fun v L' h=>by obtain⟨_,rfl⟩:=h;exact Pd.st JW) (fun v L' h=>by obtain⟨d,_,rfl⟩:=h;exact Pd.st wk) ?_ ?_)
  rotate_left
  ·rintro _ _ ⟨d,rfl,rfl⟩
   refine TA ?_
   rintro _ _ ⟨rfl,rfl⟩
   refine Rv ?_
   rintro _ _ ⟨rfl,rfl⟩
   refine Q0 ?_
   rintro _ _ ⟨rfl,rfl⟩
   refine O7 ?_
   rintro _ _ ⟨rfl,rfl⟩
   refine Oq ?_
   rintro _ _ ⟨rfl,rfl⟩
   refine Kg ?_
   rintro _ _ ⟨rfl,rfl⟩
   refine J1 ?_
   rintro _ _ ⟨rfl,rfl⟩
   exact J7
  rintro _ _ ⟨rfl,rfl⟩
  refine AG (VA.two rfl rfl rfl rfl rfl (a8.c_ (φ:=fun v=>v=.int .i64 (aw c.reads 1 16)) (fun Fr w _ _ _=>bF Fr w _ _ _) rfl) rfl rfl rfl (a8.alloc rfl) (fun v L' h=>by obtain⟨_,rfl⟩:=h;exact Pd.st JW) (fun v L' h=>by obtain⟨d,_,rfl⟩:=h;exact Pd.st wk) ?_ ?_)
  rotate_left
  ·rintro _ _ ⟨d,rfl,rfl⟩
   refine Rv ?_
   rintro _ _ ⟨rfl,rfl⟩
   refine Q0 ?_
   rintro _ _ ⟨rfl,rfl⟩
   refine O7 ?_
   rintro _ _ ⟨rfl,rfl⟩
   refine Oq ?_
   rintro _ _ ⟨rfl,rfl⟩
   refine Kg ?_
   rintro _ _ ⟨rfl,rfl⟩
   refine J1 ?_
   rintro _ _ ⟨rfl,rfl⟩
   exact J7
  rintro _ _ ⟨rfl,rfl⟩
  refine AG (VA.two rfl rfl rfl rfl rfl (a8.c_ (φ:=fun v=>v=.int .i64 (aw c.link 4 64)) (fun Fr w _ _ _=>bF Fr w _ _ _) rfl) rfl rfl rfl (a8.alloc rfl) (fun v L' h=>by obtain⟨_,rfl⟩:=h;exact Pd.st JW) (fun v L' h=>by obtain⟨d,_,rfl⟩:=h;exact Pd.st wk) ?_ ?_)
  rotate_left
  ·rintro _ _ ⟨d,rfl,rfl⟩
   refine Q0 ?_
   rintro _ _ ⟨rfl,rfl⟩
   refine O7 ?_
   rintro _ _ ⟨rfl,rfl⟩
   refine Oq ?_
   rintro _ _ ⟨rfl,rfl⟩
   refine Kg ?_
   rintro _ _ ⟨rfl,rfl⟩
   refine J1 ?_
   rintro _ _ ⟨rfl,rfl⟩
   exact J7
  rintro _ _ ⟨rfl,rfl⟩
  refine AG (VA.two rfl rfl rfl rfl rfl (a8.c_ (φ:=fun v=>v=.int .i64 (aw c.bt 4 64)) (fun Fr w _ _ _=>bF Fr w _ _ _) rfl) rfl rfl rfl (a8.alloc rfl) (fun v L' h=>by obtain⟨_,rfl⟩:=h;exact Pd.st JW) (fun v L' h=>by obtain⟨d,_,rfl⟩:=h;exact Pd.st wk) ?_ ?_)
  rotate_left
  ·rintro _ _ ⟨d,rfl,rfl⟩
   refine O7 ?_
   rintro _ _ ⟨rfl,rfl⟩
   refine Oq ?_
   rintro _ _ ⟨rfl,rfl⟩
   refine Kg ?_
   rintro _ _ ⟨rfl,rfl⟩
   refine J1 ?_
   rintro _ _ ⟨rfl,rfl⟩
   exact J7
  rintro _ _ ⟨rfl,rfl⟩
  refine AG (VA.two rfl rfl rfl rfl rfl (a8.c_ (φ:=fun v=>v=.int .i64 (aw c.timeout 4 64)) (fun Fr w _ _ _=>bF Fr w _ _ _) rfl) rfl rfl rfl (a8.alloc rfl) (fun v L' h=>by obtain⟨_,rfl⟩:=h;exact Pd.st JW) (fun v L' h=>by obtain⟨d,_,rfl⟩:=h;exact Pd.st wk) ?_ ?_)
  rotate_left
  ·rintro _ _ ⟨d,rfl,rfl⟩
   refine Oq ?_
   rintro _ _ ⟨rfl,rfl⟩
   refine Kg ?_
   rintro _ _ ⟨rfl,rfl⟩
   refine J1 ?_
   rintro _ _ ⟨rfl,rfl⟩
   exact J7
  rintro _ _ ⟨rfl,rfl⟩
  refine AG (VA.two rfl rfl rfl rfl rfl (a8.c_ (φ:=fun v=>v=.int .i64 (aw c.dB 0 16)) (fun Fr w _ _ _=>bF Fr w _ _ _) rfl) rfl rfl rfl (a8.alloc rfl) (fun v L' h=>by obtain⟨_,rfl⟩:=h;exact Pd.st JW) (fun v L' h=>by obtain⟨d,_,rfl⟩:=h;exact Pd.st wk) ?_ ?_)
  rotate_left
  ·rintro _ _ ⟨d,rfl,rfl⟩
   refine Kg ?_
   rintro _ _ ⟨rfl,rfl⟩
   refine J1 ?_
   rintro _ _ ⟨rfl,rfl⟩
   exact J7
  rintro _ _ ⟨rfl,rfl⟩
  refine AG (VA.two rfl rfl rfl rfl rfl (a8.c_ (φ:=fun v=>v=.int .i64 (aw c.cG 1 1099511627776)) (fun Fr w _ _ _=>bF Fr w _ _ _) rfl) rfl rfl rfl (a8.alloc rfl) (fun v L' h=>by obtain⟨_,rfl⟩:=h;exact Pd.st JW) (fun v L' h=>by obtain⟨d,_,rfl⟩:=h;exact Pd.st wk) ?_ ?_)
  rotate_left
  ·rintro _ _ ⟨d,rfl,rfl⟩
   refine J1 ?_
   rintro _ _ ⟨rfl,rfl⟩
   exact J7
  rintro _ _ ⟨rfl,rfl⟩
  refine Xo ?_
  refine AG (AO (a8.alloc rfl) rfl (fun v L' h=>by obtain⟨d,_,rfl⟩:=h;exact wk) ?_)
  rintro _ _ ⟨d,rfl,rfl⟩
  refine Xp ?_
  exact Xq
 rintro d _
 have ht4:=List.length_take_le 4 c.qs
 have htl:(c.qs.take 4).length=if c.qs.length≤4 then c.qs.length else 4:=by rw[Zw];split<;>omega
 refine VC.meet (σ:=Option Addr×Nat) (fun _=>[(1,pV x),(2,pV r),(4,pV d)])
  (fun y=>[aJ 3 1 y.1 (c.qs.take 4).length y.2 (cR ((c.qs.take 4).map ij)),pt d [.int .i64 (aw c.nodes 1 6),.int .i64 (aw c.chain 1 (aw c.nodes 1 6)),.int .i64 (aw c.aB 1 6),.slice y.1 (c.qs.take 4).length y.2,.int .i64 (aw c.queue 1 16),.int .i64 (aw c.eV 1 16),.int .i64 (aw c.reads 1 16),.int .i64 (aw c.link 4 64),.int .i64 (aw c.bt 4 64),.int .i64 (aw c.timeout 4 64),.int .i64 (aw c.dB 0 16),.int .i64 (aw c.cG 1 1099511627776)] 24,pt r T.t24.zs 24]) (fun y=>(c.qs.take 4).length≤y.2) ?_ ?_
 ·refine CS (CG (VG (VN (VC.block ?_))))
  refine VC.loop (σ:=Nat×Option Addr×Nat) (fun y=>[(1,pV x),(2,pV r),(4,pV d),(5,.int .i64 y.1)])
   (fun y=>[aJ 3 1 y.2.1 y.1 y.2.2 (cR ((c.qs.take y.1).map ij)),pt d [.int .i64 (aw c.nodes 1 6),.int .i64 (aw c.chain 1 (aw c.nodes 1 6)),.int .i64 (aw c.aB 1 6),.slice y.2.1 y.1 y.2.2,.int .i64 (aw c.queue 1 16),.int .i64 (aw c.eV 1 16),.int .i64 (aw c.reads 1 16),.int .i64 (aw c.link 4 64),.int .i64 (aw c.bt 4 64),.int .i64 (aw c.timeout 4 64),.int .i64 (aw c.dB 0 16),.int .i64 (aw c.cG 1 1099511627776)] 24,pt r T.t24.zs 24,pt x (c.cells a cap) 24]) (V4 c.qs) (fun y=>4-y.1) (0,none,0) ⟨Zj _,NR _⟩ bd (ae.bY ae.refl).ar ?_
  rintro⟨i,ai,ci⟩ ⟨hi,hroom⟩
  dsimp only at hi hroom ⊢
  refine CS (CS (CG (VG (VO.ld 3 Z Z Z Z ?_))))
  refine VG (VO.split 47 Z Z (fun h1=>?_) (fun h1=>VG (VN (VC.jm Z (CX ?_)))))
  rotate_left
  ·have h1:=of_decide_eq_false h1
   have hi2:i=(c.qs.take 4).length:=by rw[htl] at hi ⊢;split at hi<;>split<;>omega
   have hi3:c.qs.take i=c.qs.take 4:=by rw[hi2,Zw];rw[List.take_eq_take_iff];omega
   refine⟨(ai,ci),by rw[←hi2];exact hroom,bd,?_⟩
   dsimp only
   rw[←hi2,←hi3]
   exact(ae.app (L:=[_,_,_]) (M:=[_,_,_]) ae.refl ae.nil).ar
  have h1:=of_decide_eq_true h1
  refine VG (VN (CP Z (fun h2=>CK ?_) (fun h2=>CX ?_)))
  rotate_left
  ·have hi2:i=(c.qs.take 4).length:=by rw[htl] at hi ⊢;split at hi<;>split<;>omega
   have hi3:c.qs.take i=c.qs.take 4:=by rw[hi2,Zw];rw[List.take_eq_take_iff];omega
   refine⟨(ai,ci),by rw[←hi2];exact hroom,bd,?_⟩
   dsimp only
   rw[←hi2,←hi3]
   exact(ae.app (L:=[_,_,_]) (M:=[_,_,_]) ae.refl ae.nil).ar
  have hiq:i<c.qs.length:=by omega
  obtain⟨qb,qo,hqa,hFq,hcq⟩:=hq.at_ (fun e=>by rw[e] at hiq;simp at hiq)
  have hy:=GE hiq
  generalize c.qs[i]=y at hy
  have hsl:some (Value.slice a c.qs.length cap)=some (Value.slice (some ⟨qb,qo,none⟩) c.qs.length cap):=by rw[hqa]
  have htk:c.qs.take (i+1)=c.qs.take i ++ [y]:=by rw[Zu,hy];rfl
  have hcell:w.cell? ⟨qb,qo+i*1,none⟩=some (.int .i64 y):=by rw[Nat.mul_one];exact hcq i y hy
  have PQ:∀{L:List HP},aE (⟨Tryz.prog,tab,ah,74,Fr,w⟩:Cx) L T.t3 qb (qo+i*T.t3.size) (.int .i64 y):=aE.rd hFq hcell
  refine CS (VC.block (CD (ts 0 7 (.only 7 (.only 8 (.only 9 (.take 10 (.only 11 .nil)))))) yn yr ?_))
  refine tM ?_
  refine AG (AI Z (a_ i hsl Z Z Z Z Z hiq) ?_)
  refine AG (VA.load Z Z Z (aE.rd (v:=.int .i64 y) hFq hcell) ?_)
  refine AG (VA.c_ (φ:=fun v=>v=.int .i64 (ij y)) (fun Fr w _ _ _=>bF Fr w _ _ _) Z Z (by(try refine Pd.st ?_);(repeat(first|exact Pd.nil|exact Pd.fnil|refine Pd.inner ?_|refine Pd.skip yr ?_|refine zf (zo 0 Z Z) ?_|refine zf (zo 1 Z Z) ?_|refine zf (zo 2 Z Z) ?_|refine zf (zo 3 Z Z) ?_|refine zf (zm 0 Z Z) ?_|refine zf (zm 1 Z Z) ?_|refine zf (zm 2 Z Z) ?_|refine zf (zm 3 Z Z) ?_|refine zf (aE.aP PQ Z) ?_|refine zf (PQ) ?_|refine zc (zo 0 Z Z) ?_|refine zc (zo 1 Z Z) ?_|refine zc (zo 2 Z Z) ?_|refine zc (zo 3 Z Z) ?_|refine zc (zm 0 Z Z) ?_|refine zc (zm 1 Z Z) ?_|refine zc (zm 2 Z Z) ?_|refine zc (zm 3 Z Z) ?_|refine zc (aE.aP PQ Z) ?_|refine zc (PQ) ?_))) ?_)
  rintro _ rfl
  refine AG (AO (a8.buildSlice (n:=1) (pv:=[(0,.int .i64 (ij y))]) (cells:=[.int .i64 (ij y)]) Z Z Z Z yp Z) Z ?_ ?_)
  ·rintro _ _ ⟨nb,rfl,rfl⟩
   exact Uh
  rintro _ _ ⟨nb,rfl,rfl⟩
  refine AG (AO (a8.append (m:=1) (news:=[.int .i64 (ij y)]) 1 Z Z Z Z Z Z Z (dq.pt 0 Z Z Z) Z (by show(i+1)*8≤_;omega) yd) Z ?_ ?_)
  ·rintro _ _ ⟨a2,c2,rfl,hc2,rfl⟩
   exact Uh
  rintro _ _ ⟨a2,c2,rfl,hc2,rfl⟩
  refine J0 ?_
  refine AG (VA.st 2 Z Z Z Z Z Rl Z Z Uh (AG (AN ?_)))
  refine sd ?_
  refine⟨(i+1,a2,c2),⟨by rw[htl];split<;>omega,hc2⟩,by dsimp only;omega,bd,?_⟩
  dsimp only
  rw[htk]
  have e:cR ((c.qs.take i ++ [y]).map ij)=cR ((c.qs.take i).map ij) ++ [.int .i64 (ij y)]:=by simp[cR]
  rw[e]
  exact(ae.cons ae.tl).ar
 rintro⟨ai,ci⟩ hroom
 dsimp only at hroom ⊢
 have hf1:=oF c.qs
 refine VC.meet (σ:=Option Addr×Nat) (fun _=>[(2,pV r),(4,pV d)])
  (fun y=>[mg y.1 y.2 (gj c.qs),pt d ((dy c).cells y.1 y.2) 24,pt r T.t24.zs 24]) (fun y=>(gj c.qs).length≤y.2∧sD y.1) ?_ ?_
 ·refine CS (CG (VG (VO.ld 1 Z Z Z Z (VG (VN ?_)))))
  refine CE Z (fun hz=>?_) (fun hz=>?_)
  ·have hz:c.qs.take 4=[]:=ZH yd
   have hqf:gj c.qs=[96]:=by unfold gj bP;rw[if_pos hz];rfl
   refine CG (VG (VO.ld 1 Z Z Z Z ?_))
   refine VG (VO.buildSlice (n:=1) (pv:=[(0,.int .i64 96)]) [.int .i64 96] Z Z Z Z yp Z fun nb=>?_)
   refine VG (VO.append (m:=1) (news:=[.int .i64 96]) 1 Z Z Z Z Z Z Z (dq.pt 0 Z Z Z) Z (by show((c.qs.take 4).length+1)*8≤_;omega) yd fun a2 c2 hc2=>?_)
   refine VO.e7 0 Z (aV.Sj _ _ _ _ _ _) fun _ had=>?_
   refine VG (VO.st 2 Z Z Z Z Rl Z Z (VG (VN ?_)))
   have e1:cR ((c.qs.take 4).map ij) ++ [.int .i64 96]=cR (gj c.qs):=by rw[hqf,hz];rfl
   have e2:(c.qs.take 4).length+1=(gj c.qs).length:=by rw[hqf,hz];rfl
   refine⟨(a2,c2),⟨by rw[←e2];exact hc2,had⟩,bd,?_⟩
   rw[e1,e2]
   exact(ae.cons ae.tl).ar
  ·have hz:¬c.qs.take 4=[]:=fun e=>hz Ro
   have hqf:gj c.qs=(c.qs.take 4).map ij:=by unfold gj bP;rw[if_neg hz]
   refine VC.e7 0 Z (aV.Sj _ _ _ _ _ _) fun _ had=>CK ?_
   have e1:cR ((c.qs.take 4).map ij)=cR (gj c.qs):=by rw[hqf]
   have e2:(c.qs.take 4).length=(gj c.qs).length:=by rw[hqf,Zm]
   refine⟨(ai,ci),⟨by rw[←e2];exact hroom,had⟩,bd,?_⟩
   rw[e1,e2]
   exact ER
 rintro⟨af,cf⟩ ⟨hcf,haf⟩
 dsimp only at hcf haf ⊢
 refine CS (CG (VG (VL 1 ((dy c).cells af cf) Z Z Z Z ?_)))
 refine VG (VT (vs:=(dy c).cells af cf) (cs':=(dy c).cells af cf) 2 Z Z Z Z (NR _) Z Z Z (VG (VN ?_)))
 exact CR (ay.cell 2 Z Z Z (aE.many 2 Z Z) (L':=[mg af cf (gj c.qs)]) (ae.app (L:=[_]) (M:=[_]) ae.refl ae.nil).ar ⟨af,cf,haf,hcf,Z,Z⟩)
end Conf
namespace Adm
open Go Vg T Api Sched Conf
attribute [local irreducible] VO VC VA
abbrev Nb:=Int×Int
def qu(t u:Nb):Bool:=decide (t.1<u.1)||((t.1 == u.1)&&decide (t.2<u.2))
def mY(n:Int):Bool:=decide (1≤n)&&decide (n≤1099511627776)
structure aD where
 bN:aA
 aB:Int
 marks:List Nb
 waits:List Int
def aD.has(A:aD)(k:Int):Bool:=decide (0≤k∧k<A.aB)
def aD.mark(A:aD)(k:Int):Nb:=(A.marks[k.toNat]?).getD (0,0)
def aD.wt(A:aD)(k:Int):Int:=(A.waits[k.toNat]?).getD 0
def aD.sE(A:aD)(k s t:Int):Bool:=A.has k && !qu (A.mark k) (s,t)
def aD.jk(A:aD)(k:Int)(m:Nb):aD:={ A with marks:=A.marks.set k.toNat m }
def aD.fH(A:aD)(k:Int)(n:Int):aD:={ A with waits:=A.waits.set k.toNat n }
def aD.lG(A:aD)(k s t:Int):aD:=if qu (A.mark k) (s,t) then A.jk k (s,t) else A
def aD.fh(A:aD)(k s t:Int):Int×aD:=if A.has k&&mY s&&mY t then (0,A.lG k s t) else (2,A)
structure aD.Wf(A:aD):Prop where
 bN:A.bN.Wf
 c0:1≤A.aB
 c1:A.aB≤6
 marks:A.marks.length=6
 waits:A.waits.length=6
def fU(m:Nb):List Value:=[.int .i64 m.1,.int .i64 m.2]
theorem hZ(m:Nb):(fU m).length=2:=rfl
def eu(A:aD)(sp:Nat):List Value:=.pointer (some ⟨sp,0,none⟩) :: .int .i64 A.aB :: .int .i64 A.bN.cls.length::(flat fU A.marks++cR A.waits)
def uG(p:Nat)(A:aD)(sp:Nat):List HP:=[pt p (eu A sp) 186,iu sp A.bN]
def bu(p:Nat)(A:aD):HP:=hex fun sp=>cT (gm A.Wf::uG p A sp)
theorem aV.bH(p:Nat)(A:aD):aV (bu p A) (fun _=>A.Wf) (fun sp=>uG p A sp):=by
 rintro w ids ⟨s,h⟩ hn
 obtain⟨F,G,rfl,⟨rfl,h1⟩,h2⟩:=h
 exact Tx
theorem gr{p:Nat}{A:aD}{L:List HP}(sp:Nat)(hs:A.Wf)(h:ae L (uG p A sp)):ae L [bu p A]:=
 ae.ex sp (ae.sep (ae.trans h (ae.of_eq (Zi _).symm |>.trans (ae.pure hs ae.refl))))
structure xr(Fr:Nat→Prop)(w:World)(p:Nat)(A:aD)(sp:Nat):Prop where
 wf:A.Wf
 Ub:eQ Fr w p (eu A sp)
 bN:aL Fr [iu sp A.bN] w
theorem xr.of{Fr:Nat→Prop}{w:World}{p:Nat}{A:aD}(h:aL Fr [bu p A] w):∃sp,xr Fr w p A sp:=by
 obtain⟨s,h⟩:=h.ex
 have h:=h.sep
 exact⟨s,h.pure 0 Z,h.aP 1 Z,h.at_ 2 Z⟩
theorem mi{A:aD}(h:A.Wf){sp k:Nat}(hk:k<6):((eu A sp).drop (0+3+k*2)).take 2=fU (A.mark k):=by
 have hk2:k<A.marks.length:=by rw[h.marks];exact hk
 have h1:A.marks[k]?=some (A.mark k):=by rw[aD.mark,Zp,GE hk2];rfl
 have:=fC hZ h1 (cR A.waits)
 rw[←this,show 0+3+k*2=k*2+1+1+1 from by omega]
 rfl
theorem Im{A:aD}(h:A.Wf){sp k:Nat}(hk:k<6)(m:Nb):j_ (eu A sp) (0+3+k*2) (fU m)=eu (A.jk k m) sp:=by
 have hk2:k<A.marks.length:=by rw[h.marks];exact hk
 have:=lU hZ m (cR A.waits) hk2
 show j_ (_::_::_::(flat fU A.marks++cR A.waits)) (0+3+k*2) (fU m)=_::_::_::(flat fU (A.marks.set ((k:Int).toNat) m)++cR A.waits)
 rw[Zp,←this,show 0+3+k*2=k*2+1+1+1 from by omega]
 simp only[j_,List.take_succ_cons,Z2,hZ]
 rw[show k*2+1+1+1+2=k*2+2+1+1+1 from by omega]
 simp only[List.drop_succ_cons]
 rfl
theorem sF{A:aD}(h:A.Wf)(sp:Nat):(eu A sp).length=21:=by
 simp[eu,bo hZ,h.marks,mh,h.waits]
theorem Nc{A:aD}(h:A.Wf){sp k:Nat}(hk:k<6):(eu A sp)[0+15+k*1]?=some (.int .i64 (A.wt k)):=by
 have hk2:k<A.waits.length:=by rw[h.waits];exact hk
 have h1:A.waits[k]?=some (A.wt k):=by rw[aD.wt,Zp,GE hk2];rfl
 rw[show 0+15+k*1=(12+k)+1+1+1 from by omega]
 simp only[eu,Z']
 rw[List.getElem?_append_right WW,bo hZ,h.marks,show 12+k-6*2=k from by omega,cR,Zn,h1];rfl
theorem DJ{A:aD}(h:A.Wf){sp k:Nat}(hk:k<6)(n:Int):(eu A sp).set (0+15+k*1) (.int .i64 n)=eu (A.fH k n) sp:=by
 rw[show 0+15+k*1=(12+k)+1+1+1 from by omega]
 simp only[eu,List.set_cons_succ,aD.fH,Zp]
 rw[List.set_append_right _ _ WW,bo hZ,h.marks,show 12+k-6*2=k from by omega]
 simp[cR,ZE]
theorem aD.Wf.jk{A:aD}(h:A.Wf)(k:Int)(m:Nb):(A.jk k m).Wf:=⟨h.bN,h.c0,h.c1,by simpa[aD.jk] using h.marks,h.waits⟩
theorem aD.Wf.fH{A:aD}(h:A.Wf)(k:Int)(n:Int):(A.fH k n).Wf:=⟨h.bN,h.c0,h.c1,h.marks,by simpa[aD.fH] using h.waits⟩
theorem aD.Wf.lG{A:aD}(h:A.Wf)(k s t:Int):(A.lG k s t).Wf:=by
 unfold aD.lG;split
 ·exact h.jk k _
 ·exact h
theorem aD.Wf.fh{A:aD}(h:A.Wf)(k s t:Int):(A.fh k s t).2.Wf:=by
 unfold aD.fh;split
 ·exact h.lG k s t
 ·exact h
theorem bj{p:Nat}{a:Addr}{cs:List Value}(h:eQ Fr w p (.pointer (some a)::cs)):aH Tryz.prog 230 [.pointer (some ⟨p,0,none⟩)] Fr w [] (fun v L=>v=.bool false∧L=[]):=by
 refine TF 12 Tryz.func230 Z yn ah Z Z ?_
 refine an ?_
 refine VG (VO.split 5 rfl rfl (fun h=>by cases h) (fun _=>?_))
 refine EW ?_
 exact QY
theorem oC{p sp:Nat}{A:aD}(k:Int)(h:eQ Fr w p (eu A sp)):aH Tryz.prog 234 [.pointer (some ⟨p,0,none⟩),.int .i64 k] Fr w [] (fun v L=>v=.bool (A.has k)∧L=[]):=by
 refine TF 20 Tryz.func234 Z yn ah Z Z ?_
 refine an ?_
 refine UB ?_
 refine VG (VY 8 true Z Z ?_)
 refine VG (VO.split 12 Z Z (fun h2=>?_) (fun h2=>?_))
 ·have h2:=of_decide_eq_true h2
  refine EW ?_
  exact CR (ay.bool 4 Z Z (by simp[aD.has,h2]) ER ⟨rfl,Z⟩)
 ·have h2:=of_decide_eq_false h2
  refine an ?_
  exact CR (ay.bool 4 Z Z (by simp[aD.has,h2]) ER ⟨rfl,Z⟩)
theorem eI(n:Int):aH Tryz.prog 235 [.int .i64 n] Fr w [] (fun v L=>v=.bool (mY n)∧L=[]):=by
 refine TF 9 Tryz.func235 Z yn ah Z Z ?_
 refine an ?_
 refine VG (VO.split 5 Z Z (fun h2=>?_) (fun h2=>?_))
 ·have h2:=of_decide_eq_true h2
  refine an ?_
  exact CR (ay.bool 2 Z Z (by simp[mY,h2]) ER ⟨rfl,Z⟩)
 ·have h2:=of_decide_eq_false h2
  refine an ?_
  exact CR (ay.bool 2 Z Z (by simp[mY,h2]) ER ⟨rfl,Z⟩)
theorem uH(t u:Nb):aH Tryz.prog 236 [.agg (fU t).toArray,.agg (fU u).toArray] Fr w [] (fun v L=>v=.bool (qu t u)∧L=[]):=by
 refine TF 24 Tryz.func236 Z yn ah Z Z ?_
 refine CS (CG (VG (VB (vs:=fU t) Z fun b1=>VG (VB (vs:=fU u) Z fun b2=>VG (VN ?_)))))
 refine jA ?_
 refine VG (VO.split 10 Z Z (fun h1=>?_) (fun h1=>?_))
 ·refine VG (VO.Dp Z Z Z (VG (VO.Dp Z Z Z (VG (VO.Dp Z Z Z (VG (VO.Dp Z Z Z (VG (VO.Dp Z Z Z ?_)))))))))
  refine an ?_
  exact CR (ay.bool 4 Z Z (by simp only[qu,h1];rfl) ae.nil.ar ⟨rfl,Z⟩)
 ·refine jA ?_
  refine VG (VO.split 16 Z Z (fun h2=>?_) (fun h2=>?_))
  ·refine jA ?_
   exact CR (ay.bool 4 Z Z (by simp only[qu,h1,h2,Bool.false_or,Bool.true_and]) ae.nil.ar ⟨rfl,Z⟩)
  ·refine jA ?_
   exact CR (ay.bool 4 Z Z (by simp only[qu,h1,h2,Bool.false_or,ZY]) ae.nil.ar ⟨rfl,Z⟩)
theorem th{p:Nat}{A:aD}(k s t:Int)(h:aL Fr [bu p A] w):aH Tryz.prog 289 [.pointer (some ⟨p,0,none⟩),.int .i64 k,.int .i64 s,.int .i64 t] Fr w [] (fun v L=>v=.bool (A.sE k s t)∧L=[]):=by
 obtain⟨sp,h⟩:=xr.of h
 have hb:=h.Ub
 refine TF 25 Tryz.func289 Z yn ah Z Z ?_
 refine an ?_
 refine VG (VV (fun Fr w hF hs _=>oC Fr w k (hb.of hF hs)) Z ?_)
 refine VG (VO.split 12 Z Z (fun h1=>?_) (fun h1=>?_))
 ·have hk:=of_decide_eq_true h1
  obtain⟨n,rfl⟩:=Int.eq_ofNat_of_zero_le hk.1
  have hn:n<6:=by have:=h.wf.c1;omega
  refine VG (VI (bS n Z Z Z Z Z Z hn) ?_)
  refine VG (VO.load Z Z (v:=.agg (fU (A.mark n)).toArray) (aE.lB hb (mi h.wf hn)) ?_)
  refine Xr ?_
  refine VG (VO.ic (fun Fr w=>uH Fr w (A.mark n) (s,t)) Z ?_)
  refine an ?_
  exact CR (ay.bool 8 Z Z (by simp only[aD.sE,h1,Bool.true_and]) ER ⟨rfl,Z⟩)
 ·refine an ?_
  exact CR (ay.bool 8 Z Z (by simp only[aD.sE,h1,ZY]) ER ⟨rfl,Z⟩)
theorem ry(p:Nat)(A:aD)(k s t:Int):aH Tryz.prog 167 [.pointer (some ⟨p,0,none⟩),.int .i64 k,.int .i64 s,.int .i64 t] Fr w [bu p A] (fun v L=>v=.int .i64 (A.fh k s t).1∧L=[bu p (A.fh k s t).2]):=by
 refine TF 45 Tryz.func167 Z yn ah Z Z ?_
 refine VC.e7 0 Z (aV.bH p A) fun sp h=>?_
 refine CN (L':=uG p A sp) (ae.of_eq (Zi _)).ar ?_
 have out:∀{X:Cx},jj X (uG p A sp) [bu p A]:=fun {X}=>(gr sp h ae.refl).ar
 refine an ?_
 refine VG (VV (fun Fr w hF _ hs=>bj Fr w (hs.aP 0 Z)) Z (VG (VN (VC.jm Z ?_))))
 refine an ?_
 refine VG (VV (fun Fr w hF _ hs=>oC Fr w k (hs.aP 0 Z)) Z (VG (VO.split 18 Z Z (fun h1=>?_) (fun h1=>?_))))
 ·have h1:A.has k=false:=by simpa using h1
  have e:A.fh k s t=(2,A):=by simp[aD.fh,h1]
  refine VG (VY 23 true Z Z (VG (VN (VC.kk Z ?_))))
  refine an ?_
  exact UL
 have h1:A.has k=true:=by simpa using h1
 refine VG (VO.ic (fun Fr w=>eI Fr w s) Z (VG (VO.split 23 Z Z (fun h2=>?_) (fun h2=>?_))))
 ·have h2:mY s=false:=by simpa using h2
  have e:A.fh k s t=(2,A):=by simp[aD.fh,h2]
  refine VG (VN (VC.kk Z ?_))
  refine an ?_
  exact UL
 have h2:mY s=true:=by simpa using h2
 refine VG (VO.ic (fun Fr w=>eI Fr w t) Z (VG (VN ?_)))
 refine VC.dT Z (fun h3=>?_) (fun h3=>CK ?_)
 ·have e:A.fh k s t=(2,A):=by simp[aD.fh,h3]
  refine an ?_
  exact UL
 have e:A.fh k s t=(0,A.lG k s t):=by simp[aD.fh,h1,h2,h3]
 have hk:=of_decide_eq_true h1
 obtain⟨n,rfl⟩:=Int.eq_ofNat_of_zero_le hk.1
 have hn:n<6:=by have:=h.c1;omega
 have hlen:=sF h sp
 refine an ?_
 refine Xr ?_
 refine VG (VO.alloc Z fun m=>VG (VT (vs:=fU (s,t)) (cs':=fU (s,t)) 0 Z Z Z Z (NR _) Z Z Z (VG (VN ?_))))
 refine CS (CS (CD (ts 0 7 (.only 7 .nil)) yn yr ?_))
 refine AG (AI Z (bS n Z Z Z Z Z Z hn) ?_)
 refine AG (VA.kn 1 (fU (A.mark n)) Z Z Z Z (mi h hn) ?_)
 refine AG (VA.kn 0 (fU (s,t)) Z Z Z Z Z ?_)
 refine AG (VA.c_ (φ:=fun v=>v=.bool (qu (A.mark n) (s,t))) (fun Fr w _ _ _=>uH Fr w _ _) Z Z (by(try refine Pd.st ?_);(repeat(first|exact Pd.nil|exact Pd.fnil|refine Pd.inner ?_|refine Pd.skip yr ?_|refine zf (zo 0 Z Z) ?_|refine zf (zo 1 Z Z) ?_|refine zf (zm 0 Z Z) ?_|refine zf (zm 1 Z Z) ?_|refine zf (aE.aP (aE.many 1 Z (mi h hn)) Z) ?_|refine zf ((aE.many 1 Z (mi h hn))) ?_|refine zc (zo 0 Z Z) ?_|refine zc (zo 1 Z Z) ?_|refine zc (zm 0 Z Z) ?_|refine zc (zm 1 Z Z) ?_|refine zc (aE.aP (aE.many 1 Z (mi h hn)) Z) ?_|refine zc ((aE.many 1 Z (mi h hn))) ?_))) ?_)
 rintro _ rfl
 refine eT ?_
 refine CC Z (fun h4=>?_) (fun h4=>CK ?_)
 ·have e2:A.lG n s t=A.jk n (s,t):=by unfold aD.lG;rw[if_pos h4]
  refine TB ?_
  refine AG (VA.kn 0 (fU (s,t)) Z Z Z Z Z ?_)
  refine AG (AI Z (bS n Z Z Z Z Z Z hn) ?_)
  refine AG (AT (vs:=fU (s,t)) (cs':=eu (A.jk n (s,t)) sp) 1 Z Z Z Z Z (by rw[hlen];show 0+3+n*2+2≤21;omega) (Im h hn (s,t)) Z Z yu (AG (AN ?_)))
  refine an ?_
  exact CR (ay.int 8 Z Z Ke (L':=[bu p (A.jk n (s,t))]) (ae.trans ae.tl (gr sp (h.jk n _) ae.refl)).ar ⟨rfl,by rw[e,e2]⟩)
 ·have e2:A.lG n s t=A:=by unfold aD.lG;rw[if_neg (by rw[h4];simp)]
  refine an ?_
  exact CR (ay.int 8 Z Z Ke (L':=[bu p A]) (ae.trans ae.tl (gr sp h ae.refl)).ar ⟨rfl,by rw[e,e2]⟩)
end Adm
namespace Adm
open Go Vg T Api Sched Conf
attribute [local irreducible] VO VC VA
def qv(o:e8):Bool:=(o.kind == 1)&&(aZ o == 0)
theorem ku(o:e8):aH Tryz.prog 189 [.agg o.cells.toArray] Fr w [] (fun v L=>v=.bool (qv o)∧L=[]):=by
 refine TF 11 Tryz.func189 Z yn ah Z Z ?_
 refine CS (CG (VG (VB (vs:=o.cells) Z fun b=>VG (VN ?_))))
 refine an ?_
 refine VG (VO.split 6 Z Z (fun h1=>?_) (fun h1=>?_))
 ·refine VG (VL 0 o.cells Z Z Z Z ?_)
  refine UA ?_
  refine an ?_
  exact CR (ay.bool 2 Z Z (by simp only[qv,h1,Bool.true_and]) ae.nil.ar ⟨rfl,Z⟩)
 ·refine an ?_
  exact CR (ay.bool 2 Z Z (by simp only[qv,h1,ZY]) ae.nil.ar ⟨rfl,Z⟩)
def aD.may(A:aD)(f:aa):Bool:=A.has f.aj&&(f.kind == 1)&&mY f.seq&&mY f.cn&&decide (0≤f.cls)&&decide (f.cls<A.bN.cls.length)&&decide (0≤f.deadline)&&decide (f.deadline≤1099511627776)&&(aZ f.op == 0) && !qv f.op
theorem oG{p:Nat}{A:aD}(f:FM)(h:aL Fr [bu p A] w):aH Tryz.prog 288 [.pointer (some ⟨p,0,none⟩),.agg (cF f).toArray] Fr w [] (fun v L=>v=.bool (A.may f.1)∧L=[]):=by
 obtain⟨sp,h⟩:=xr.of h
 have hb:=h.Ub
 refine TF 60 Tryz.func288 Z yn ah Z Z ?_
 refine CS (CG (VG (VB (vs:=cF f) Z fun b=>VG (VN ?_))))
 refine VC.meet (σ:=Bool) (fun b=>[(4,.bool b)]) (fun _=>[]) (fun b=>b=A.may f.1) ?_ ?_
 rotate_left
 ·rintro b rfl
  exact CR (ay.bool 4 Z Z Z ER ⟨rfl,Z⟩)
 refine CD (ts 0 3 (.only 3 (ts 4 8 (.only 12 (ts 13 4 (.only 17 (ts 18 28 (.only 46 (ts 47 5 (.only 52 (ts 53 3 .nil))))))))))) yn yr ?_
 refine eT ?_
 refine AG (VA.c_ (φ:=fun v=>v=.bool (A.has f.1.aj)) (fun Fr w hF hs _=>oC Fr w f.1.aj (hb.of hF hs)) Z Z yu ?_)
 rintro _ rfl
 refine FR ?_
 refine AG (VA.split 9 Z Z (fun h0=>?_) (fun h0=>?_))
 rotate_left
 ·refine AG (AY 14 false Z Z ?_)
  refine Hy ?_
  refine AG (AY 19 false Z Z ?_)
  refine Hy ?_
  refine AG (AY 24 false Z Z ?_)
  refine T5 ?_
  refine Q9 ?_
  exact⟨false,(by show false=aD.may A f.1;rw[aD.may];simp only[show(A.has f.1.aj)=false from h0,ZU,ZY]),bd,ae.nil.ar⟩
 refine FR ?_
 refine AG (VA.split 14 Z Z (fun h1=>?_) (fun h1=>?_))
 rotate_left
 ·refine Hy ?_
  refine AG (AY 19 false Z Z ?_)
  refine Hy ?_
  refine AG (AY 24 false Z Z ?_)
  refine T5 ?_
  refine Q9 ?_
  exact⟨false,(by show false=aD.may A f.1;rw[aD.may];simp only[show(f.1.kind == 1)=false from h1,ZU,ZY]),bd,ae.nil.ar⟩
 refine FR ?_
 refine AG (VA.c_ (φ:=fun v=>v=.bool (mY f.1.seq)) (fun Fr w _ _ _=>eI Fr w _) Z Z S8 ?_)
 rintro _ rfl
 refine FR ?_
 refine AG (VA.split 19 Z Z (fun h2=>?_) (fun h2=>?_))
 rotate_left
 ·refine Hy ?_
  refine AG (AY 24 false Z Z ?_)
  refine T5 ?_
  refine Q9 ?_
  exact⟨false,(by show false=aD.may A f.1;rw[aD.may];simp only[show(mY f.1.seq)=false from h2,ZU,ZY]),bd,ae.nil.ar⟩
 refine FR ?_
 refine AG (VA.c_ (φ:=fun v=>v=.bool (mY f.1.cn)) (fun Fr w _ _ _=>eI Fr w _) Z Z S8 ?_)
 rintro _ rfl
 refine FR ?_
 refine AG (VA.split 24 Z Z (fun h3=>?_) (fun h3=>?_))
 rotate_left
 ·refine T5 ?_
  refine Q9 ?_
  exact⟨false,(by show false=aD.may A f.1;rw[aD.may];simp only[show(mY f.1.cn)=false from h3,ZU,ZY]),bd,ae.nil.ar⟩
 refine FR ?_
 refine AG (VA.split 29 Z Z (fun h4=>?_) (fun h4=>?_))
 rotate_left
 ·refine Xs ?_
  refine Q9 ?_
  exact⟨false,(by show false=aD.may A f.1;rw[aD.may];simp only[show(decide (0≤f.1.cls))=false from h4,ZU,ZY]),bd,ae.nil.ar⟩
 refine FR ?_
 refine AG (VA.split 38 Z Z (fun h5=>?_) (fun h5=>?_))
 rotate_left
 ·refine Q9 ?_
  exact⟨false,(by show false=aD.may A f.1;rw[aD.may];simp only[show(decide (f.1.cls<A.bN.cls.length))=false from h5,ZU,ZY]),bd,ae.nil.ar⟩
 refine FR ?_
 refine AG (VA.split 43 Z Z (fun h6=>?_) (fun h6=>?_))
 rotate_left
 ·refine YD ?_
  exact⟨false,(by show false=aD.may A f.1;rw[aD.may];simp only[show(decide (0≤f.1.deadline))=false from h6,ZU,ZY]),bd,ae.nil.ar⟩
 refine FR ?_
 refine AG (VA.split 48 Z Z (fun h7=>?_) (fun h7=>?_))
 rotate_left
 ·refine YB ?_
  exact⟨false,(by show false=aD.may A f.1;rw[aD.may];simp only[show(decide (f.1.deadline≤1099511627776))=false from h7,ZU,ZY]),bd,ae.nil.ar⟩
 refine FR ?_
 refine AG (VA.kn 0 f.1.op.cells Z Z Z Z Z ?_)
 refine AG (VA.c_ (φ:=fun v=>v=.int .i64 (aZ f.1.op)) (fun Fr w _ _ _=>bm Fr w _) Z Z S8 ?_)
 rintro _ rfl
 refine FR ?_
 refine AG (VA.split 54 Z Z (fun h8=>?_) (fun h8=>?_))
 rotate_left
 ·refine Yz ?_
  exact⟨false,(by show false=aD.may A f.1;rw[aD.may];simp only[show(aZ f.1.op == 0)=false from h8,ZU,ZY]),bd,ae.nil.ar⟩
 refine FR ?_
 refine AG (VA.kn 0 f.1.op.cells Z Z Z Z Z ?_)
 refine AG (VA.c_ (φ:=fun v=>v=.bool (qv f.1.op)) (fun Fr w _ _ _=>ku Fr w _) Z Z S8 ?_)
 rintro _ rfl
 refine eT ?_
 refine⟨!qv f.1.op,?_,bd,ae.nil.ar⟩
 show(!qv f.1.op)=aD.may A f.1
 rw[aD.may]
 simp only[show(A.has f.1.aj)=true from h0,show(f.1.kind == 1)=true from h1,show(mY f.1.seq)=true from h2,show(mY f.1.cn)=true from h3,show(decide (0≤f.1.cls))=true from h4,show(decide (f.1.cls<A.bN.cls.length))=true from h5,show(decide (0≤f.1.deadline))=true from h6,show(decide (f.1.deadline≤1099511627776))=true from h7,show(aZ f.1.op == 0)=true from h8,Bool.true_and,Bool.and_true]
end Adm
namespace Adm
open Go Vg T Api Sched Conf
attribute [local irreducible] VO VC VA
theorem P'{Fr:Nat→Prop}{w:World}{p sp:Nat}{A:aD}(h:A.Wf)(hs:aL Fr (uG p A sp) w):aL Fr [bu p A] w:=aL.shut (φ:=fun _=>A.Wf) (Ls:=fun sp=>uG p A sp) sp h hs
theorem Io(S:aA)(f:aa):(S.ek f).2.cls.length=S.cls.length:=by
 unfold aA.ek
 split
 ·rfl
 ·split
  ·rfl
  ·split
   ·simp[aA.l9]
   ·rfl
def uI(c:aX):aD:=⟨aA.new c.qs c.queue,c.aB,List.replicate 6 (0,0),List.replicate 6 0⟩
theorem Bw{c:aX}(h:c=dy c):k_ c.qs c.queue=true∧1≤c.aB∧c.aB≤6:=by
 have h1:c.qs=gj c.qs:=congrArg aX.qs h
 have h2:c.queue=aw c.queue 1 16:=congrArg aX.queue h
 have h3:c.aB=aw c.aB 1 6:=congrArg aX.aB h
 have h4:=oF c.qs
 have h5:=fA (x:=c.queue) (lo:=1) (hi:=16) yd
 have h6:=fA (x:=c.aB) (lo:=1) (hi:=6) yd
 rw[←h1] at h4
 rw[←h2] at h5
 rw[←h3] at h6
 refine⟨?_,h6⟩
 have h7:c.qs.all gg=true:=by
  rw[ZR]
  intro q hq
  rw[h1] at hq
  obtain⟨x,_,rfl⟩:=Zv.1 hq
  have:=fA (x:=x) (lo:=96) (hi:=65536) yd
  simp[gg,ij,this]
 simp[k_,h4,h5,h7]
theorem E7{c:aX}(h:c=dy c):(uI c).Wf:=by
 obtain⟨h1,h2,h3⟩:=Bw h
 exact⟨aA.Ia h1,h2,h3,Z,Z⟩
theorem dH(c:aX)(a:Option Addr)(cap:Nat)(hq:dZ Fr w a c.qs)(ha:sD a)(hcap:c.qs.length≤cap):aH Tryz.prog 50 [.agg (c.cells a cap).toArray] Fr w []
  (fun v L=>if c=dy c then ∃p,v=.tuple #[.pointer (some ⟨p,0,none⟩),.int .i64 0]∧L=[bu p (uI c)] else v=.tuple #[.pointer none,.int .i64 2]∧L=[]):=by
 refine TF 30 Tryz.func50 Z yn ah Z Z ?_
 refine CS (CG (VG (VB (vs:=c.cells a cap) Z fun x=>VG (VN ?_))))
 refine Ox ?_
 refine VG (VV (fun Fr w hF hs _=>bm Fr w c a cap (fT hq hF hs) ha hcap) Z (VG (VN ?_)))
 refine an ?_
 refine VC.bp Z (fun h1=>?_) (fun h1=>CK ?_)
 ·have hc:¬c=dy c:=fun e=>h1 (by rw[hY,if_pos e])
  have hc2:hY c=2:=by rw[hY,if_neg hc]
  refine an ?_
  refine CR (ay.cU 2 3 Z Z Z ae.nil.ar ?_)
  rw[if_neg hc,hc2];exact⟨rfl,rfl⟩
 have hc:c=dy c:=by
  apply Decidable.byContradiction
  intro hc
  rw[hY,if_neg hc] at h1
  cases h1
 obtain⟨hok,hc0,hc1⟩:=Bw hc
 refine an ?_
 refine VG (VK (Lc:=[]) (fun Fr w hF hs _=>Sched.dH Fr w a cap c.qs c.queue (fT hq hF hs)) Z Z ?_)
 intro v L hv
 unfold fu at hv
 rw[if_pos hok] at hv
 obtain⟨sp,rfl,rfl⟩:=hv
 refine an ?_
 refine VC.bp Z (fun h=>absurd Z h) (fun _=>CK ?_)
 refine jA ?_
 refine VG (VI (LB (pv:=[(0,pV sp),(1,.int .i64 c.aB),(2,.int .i64 c.qs.length)]) (eu (uI c) sp) Z Z Z (by
  have e:(uI c).bN.cls.length=c.qs.length:=by simp[uI,aA.new]
  simp only[eu,e]
  rfl) rfl) ?_)
 refine VG (VB (vs:=eu (uI c) sp) Z fun p=>VG (VN ?_))
 refine CR (ay.cU 2 3 Z Z Z (L':=[bu p (uI c)]) (gr sp (E7 hc) (ae.app (L:=[_,_]) (M:=[_,_]) ae.refl ae.nil)).ar ?_)
 rw[if_pos hc];exact⟨p,rfl,rfl⟩
def aD.bE(A:aD)(S:aA):aD:={ A with bN:=S }
def aD.cM(A:aD)(f:aa)(now:Int):Int×aD:=
 if A.sE f.aj f.seq f.cn then (7,A) else if A.wt f.aj=f.seq then (6,A) else if A.wt f.aj≠0 then (1,A) else if f.deadline<now then (2,A)
 else if (A.bN.ek f).1≠0 then (1,A.bE (A.bN.ek f).2) else (0,(A.bE (A.bN.ek f).2).fH f.aj f.seq)
def aD.eW(A:aD)(f:aa)(now:Int):Int×aD:=
 if A.may f then if (A.cM f now).1≠0∧(A.cM f now).1≠6 then ((A.cM f now).1,((A.cM f now).2.fh f.aj f.seq f.cn).2) else A.cM f now else (10,A)
theorem aD.Wf.bE{A:aD}(h:A.Wf){S:aA}(hS:S.Wf):(A.bE S).Wf:=⟨hS,h.c0,h.c1,h.marks,h.waits⟩
theorem aD.Wf.cM{A:aD}(h:A.Wf)(f:aa)(now:Int):(A.cM f now).2.Wf:=by
 unfold aD.cM
 repeat' split
 all_goals first | exact h | exact h.bE (zz h.bN f) | exact(h.bE (zz h.bN f)).fH _ _
theorem uJ{A:aD}{f:aa}(h:A.may f=true):A.has f.aj=true∧mY f.seq=true∧mY f.cn=true:=by
 simp only[aD.may,Zx] at h
 exact⟨h.1.1.1.1.1.1.1.1.1,h.1.1.1.1.1.1.1.2,h.1.1.1.1.1.1.2⟩
theorem Nd{A:aD}(h:A.Wf){k:Int}(hk:A.has k=true):∃n:Nat,k=n∧n<6:=by
 have hk:=of_decide_eq_true hk
 obtain⟨n,rfl⟩:=Int.eq_ofNat_of_zero_le hk.1
 have:=h.c1
 exact⟨n,Z,by omega⟩
theorem uK{A:aD}(f:aa)(sp:Nat):eu A sp=eu (A.bE (A.bN.ek f).2) sp:=by
 simp only[eu,aD.bE,Io]
theorem Gh(p:Nat)(A:aD)(f:FM)(hmm:De Fr w f.2)(now:Int)(hm:A.may f.1=true):aH Tryz.prog 306 [.pointer (some ⟨p,0,none⟩),.agg (cF f).toArray,.int .i64 now] Fr w [bu p A] (fun v L=>v=.int .i64 (A.cM f.1 now).1∧L=[bu p (A.cM f.1 now).2]):=by
 refine TF 53 Tryz.func306 Z yn ah Z Z ?_
 refine CS (CG (VG (VB (vs:=cF f) Z fun b=>VG (VN ?_))))
 refine VC.e7 1 Z (aV.bH p A) fun sp h=>?_
 refine CN (L':=pt b (cF f) 204::uG p A sp) (ae.perm ZM).ar ?_
 obtain⟨hhas,hnum,hnum2⟩:=uJ hm
 obtain⟨n,hcl,hn⟩:=Nd h hhas
 have hwt:A.wt f.1.aj=A.wt n:=by rw[hcl]
 have out:∀{X:Cx},jj X (pt b (cF f) 204::uG p A sp) [bu p A]:=fun {X}=>(ae.trans ae.tl (gr sp h ae.refl)).ar
 refine CS (CD (ts 0 8 .nil) yn yr ?_)
 refine qe ?_
 refine TC ?_
 refine AG (VA.ld 1 Z Z Z Z (Nc h hn) ?_)
 refine eT ?_
 refine jA ?_
 refine VG (VV (fun Fr w hF _ hs=>th Fr w f.1.aj f.1.seq f.1.cn (P' h hs.tail)) Z (VG (VN ?_)))
 refine CC Z (fun h1=>?_) (fun h1=>?_)
 ·have e:A.cM f.1 now=(7,A):=by unfold aD.cM;rw[if_pos h1]
  refine an ?_
  exact TD
 refine jA ?_
 refine CE Z (fun h2=>?_) (fun h2=>?_)
 ·have e:A.cM f.1 now=(6,A):=by unfold aD.cM;rw[if_neg Kd,if_pos (hwt.trans h2)]
  refine an ?_
  exact TD
 refine jA ?_
 refine VC.bp Z (fun h3=>?_) (fun h3=>?_)
 ·have e:A.cM f.1 now=(1,A):=by unfold aD.cM;rw[if_neg Kd,if_neg Uq,if_pos (by rw[hwt];exact h3)]
  refine an ?_
  exact TD
 refine jA ?_
 refine CP Z (fun h4=>?_) (fun h4=>?_)
 ·have e:A.cM f.1 now=(2,A):=by unfold aD.cM;rw[if_neg Kd,if_neg Uq,if_neg (by rw[hwt];exact fun x=>x h3),if_pos h4]
  refine an ?_
  exact TD
 have e0:A.cM f.1 now=if (A.bN.ek f.1).1≠0 then (1,A.bE (A.bN.ek f.1).2) else (0,(A.bE (A.bN.ek f.1).2).fH f.1.aj f.1.seq):=by
  unfold aD.cM;rw[if_neg Kd,if_neg Uq,if_neg (by rw[hwt];exact fun x=>x h3),if_neg h4]
 have hwf:=h.bE (zz h.bN f.1)
 refine CS (CD (ts 0 5 (.only 5 (ts 6 2 .nil))) yn yr ?_)
 refine qe ?_
 refine AG (VA.kn 0 (cF f) Z Z Z Z Z ?_)
 refine AG (AQ 2 (ψ:=fun v H=>v=.int .i64 (A.bN.ek f.1).1∧H=iu sp (A.bN.ek f.1).2) Z (fun Fr w hF hs _=>Sched.jc Fr w sp A.bN f (hmm.of hF hs)) Z Z (fun v L1 h=>⟨_,h.2,h.1,Z⟩) ?_ ?_)
 ·rintro _ _ ⟨rfl,rfl⟩
  exact yu
 rintro _ _ ⟨rfl,rfl⟩
 refine eT ?_
 refine VC.bp Z (fun h5=>?_) (fun h5=>CK ?_)
 ·have e:A.cM f.1 now=(1,A.bE (A.bN.ek f.1).2):=by rw[e0,if_pos h5]
  refine an ?_
  refine CR (ay.int 6 Z Z Ke (ae.trans ae.tl (gr sp hwf (ae.of_eq ?_))).ar ⟨rfl,by rw[e]⟩)
  rw[uG,uK f.1 sp];rfl
 have e:A.cM f.1 now=(0,(A.bE (A.bN.ek f.1).2).fH n f.1.seq):=by rw[e0,if_neg (fun x=>x h5),hcl]
 refine CS (CD (ts 0 8 (.only 8 .nil)) yn yr ?_)
 refine qe ?_
 refine TC ?_
 refine AG (VA.st 1 Z Z Z Z Z WT (cs':=eu ((A.bE (A.bN.ek f.1).2).fH n f.1.seq) sp) (by rw[uK f.1 sp];exact DJ hwf hn f.1.seq) Z yu ?_)
 refine Oy ?_
 exact CR (ay.int 6 Z Z Ke (ae.trans ae.tl (gr sp (hwf.fH n f.1.seq) (ae.of_eq Z))).ar ⟨rfl,by rw[e]⟩)
theorem mU(p:Nat)(A:aD)(f:FM)(hmm:De Fr w f.2)(now:Int):aH Tryz.prog 291 [.pointer (some ⟨p,0,none⟩),.agg (cF f).toArray,.int .i64 now] Fr w [bu p A] (fun v L=>v=.int .i64 (A.eW f.1 now).1∧L=[bu p (A.eW f.1 now).2]):=by
 refine TF 31 Tryz.func291 Z yn ah Z Z ?_
 refine CS (CG (VG (VB (vs:=cF f) Z fun b=>VG (VN ?_))))
 refine an ?_
 refine VG (VL 0 (cF f) Z Z Z Z ?_)
 refine VG (VV (fun Fr w hF _ hs=>oG Fr w f (hs.at_ 1 Z)) Z (VG (VN ?_)))
 refine VC.dT Z (fun h1=>?_) (fun h1=>CK ?_)
 ·have e:A.eW f.1 now=(10,A):=by unfold aD.eW;rw[if_neg Kd]
  refine an ?_
  exact CR (ay.int 6 Z Z Ke (L':=[bu p A]) ae.tl.ar ⟨rfl,by rw[e]⟩)
 refine an ?_
 refine VG (VL 0 (cF f) Z Z Z Z ?_)
 refine VG (VQ 1 (ψ:=fun v H=>v=.int .i64 (A.cM f.1 now).1∧H=bu p (A.cM f.1 now).2) Z (fun Fr w hF hs _=>Gh Fr w p A f (hmm.of hF hs) now h1) Z (fun v L1 h=>⟨_,h.2,h.1,Z⟩) ?_)
 rintro _ _ ⟨rfl,rfl⟩
 have e0:A.eW f.1 now=if (A.cM f.1 now).1≠0∧(A.cM f.1 now).1≠6 then ((A.cM f.1 now).1,((A.cM f.1 now).2.fh f.1.aj f.1.seq f.1.cn).2) else A.cM f.1 now:=by unfold aD.eW;rw[if_pos h1]
 refine an ?_
 refine VG (VO.split 18 Z Z (fun h2=>?_) (fun h2=>?_))
 ·have h2:(A.cM f.1 now).1≠0:=by simpa using h2
  refine VG (VN (VC.bp Z (fun h3=>?_) (fun h3=>CK ?_)))
  ·have e:A.eW f.1 now=((A.cM f.1 now).1,((A.cM f.1 now).2.fh f.1.aj f.1.seq f.1.cn).2):=by rw[e0,if_pos ⟨h2,h3⟩]
   refine an ?_
   refine VG (VQ 1 (ψ:=fun v H=>H=bu p ((A.cM f.1 now).2.fh f.1.aj f.1.seq f.1.cn).2) Z (fun Fr w _ _ _=>ry Fr w p _ _ _ _) Z (fun v L1 h=>⟨_,h.2,Z⟩) ?_)
   rintro _ _ rfl
   refine an ?_
   exact UM
  ·have e:A.eW f.1 now=A.cM f.1 now:=by rw[e0,if_neg (fun x=>x.2 h3)]
   refine an ?_
   exact UM
 ·have h2:(A.cM f.1 now).1=0:=by simpa using h2
  have e:A.eW f.1 now=A.cM f.1 now:=by rw[e0,if_neg (fun x=>x.1 h2)]
  refine J3 ?_
  exact UM
end Adm
namespace Sched
open Go Vg T Api
def eM(S:aA):aa×Bool×aA:=match S.sw with
 | some r=>(r.1,true,r.2)
 | none=>(aa.zero,false,S)
theorem Qa{p:Nat}{S:aA}{v:Value}{L:List HP}(h:Bv p S v L):∃H,L=[H]∧(∃m,v=.tuple #[.agg (cF ((eM S).1,m)).toArray,.bool (eM S).2.1])∧H=iu p (eM S).2.2:=by
 unfold Bv at h;unfold eM
 cases hp:S.sw with
 | none=>rw[hp] at h;exact⟨_,h.2,⟨(none,0,0),h.1⟩,rfl⟩
 | some r=>rw[hp] at h;exact⟨_,h.2,h.1,rfl⟩
theorem zA{S:aA}(h:S.Wf):(eM S).2.2.Wf:=by
 unfold eM
 cases hp:S.sw with
 | none=>exact h
 | some r=>obtain⟨f,S1⟩:=r;obtain⟨_,_,_,_,_,hw⟩:=sy h hp;exact hw
theorem Ip{S:aA}(h:S.Wf):(eM S).2.2.cls.length=S.cls.length:=by
 unfold eM
 cases hp:S.sw with
 | none=>rfl
 | some r=>
  obtain⟨f,S1⟩:=r
  obtain⟨_,_,_,h2,_,_⟩:=sy h hp
  have:=congrArg List.length h2
  simpa[aA.qs] using this
theorem tV{S:aA}(h:S.Wf)(ho:(eM S).2.1=true):∃k q,S.qs[k]?=some ((eM S).1::q)∧(eM S).2.2.qs=S.qs.set k q:=by
 unfold eM at ho ⊢
 cases hp:S.sw with
 | none=>rw[hp] at ho;cases ho
 | some r=>
  obtain⟨f,S1⟩:=r
  obtain⟨k,q,h1,h2,_,_⟩:=sy h hp
  exact⟨k,q,h1,h2⟩
theorem Nf{S:aA}(h:S.Wf)(ho:(eM S).2.1=false):S.idle=true∧(eM S).2.2=S:=by
 unfold eM at ho ⊢
 cases hp:S.sw with
 | none=>exact⟨Gd h hp,rfl⟩
 | some r=>rw[hp] at ho;cases ho
end Sched
end Go.Proofs.YthnlpdacbcjgpaaGreatDoor
