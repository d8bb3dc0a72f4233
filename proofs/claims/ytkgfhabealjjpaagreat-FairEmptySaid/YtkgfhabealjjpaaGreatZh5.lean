/- Texts of the proof, put together and shortened. No condition. -/
import Derived.Test.YtkgfhabealjjpaaGreatZh4
set_option maxRecDepth 100000
set_option maxHeartbeats 16000000
set_option linter.unusedVariables false
set_option linter.unusedSectionVars false
set_option linter.unusedSimpArgs false
namespace Go.Proofs.YtkgfhabealjjpaaGreat
variable (Fr : Nat → Prop) (w : World)
namespace Cl
open Go Vg T Api Ch Rep Conf Lg Rd
attribute [local irreducible] VO VC VA
theorem XL(f:ay)(o:Nat)(n:Int):(uq f o n).entry=f.entry:=by unfold uq;split<;>rfl
theorem Np:∀(os:List Nat) (ns:List Int) (f:ay),(oV f os ns).entry=f.entry
 | o::os,n::ns,f=>by
  show(oV (uq f o n) os ns).entry=_
  rw[Np os ns,XL]
 | [],_,_=>rfl
 | _::_,[],_=>rfl
theorem W7{f:ay}{s:Bs}{y:ay×List aR}(h:nC f s=some y):y.1.kind=f.kind∧(f.kind≠4→y.1.entry=f.entry):=by
 unfold nC at h
 repeat' split at h
 all_goals first | (cases h;done) | (cases h;exact⟨rfl,fun _=>rfl⟩) | (cases h;exact⟨rfl,fun k=>absurd (by assumption) k⟩)
theorem Tx{s:Bs}{f:ay}{ms:List aR}(h:getM s=some (f,ms)):ms.length≤6∧0≤f.entry.index∧f.entry.index≤1099511627776:=by
 unfold getM at h
 split at h
 ·cases h
 split at h
 ·cases h
 split at h
 ·cases h
 split at h
 ·cases h
 ·rename_i k r hk _ l r2 hl _ f' ms' hr
  split at h
  ·rename_i hm
   cases h
   refine⟨MQ hr,?_⟩
   have he:=W7 hr
   by_cases h4:f.kind=4
   ·unfold mg pn at hm
    simp only[h4,dN] at hm
    have hm:=hm.2.2
    simp[gF] at hm
    exact hm.1.1
   ·have:=he.2 (by rw[←he.1];exact h4)
    rw[this,Np]
    exact⟨by show(0:Int)≤0;decide,by show(0:Int)≤1099511627776;decide⟩
  ·cases h
section
variable {p:Nat} {C:al} {y:fV} {b e:Nat}
def qA(y:fV)(to:Int):Value:=
 if to=16 then gk 179 [.pointer (some ⟨y.mp,0,none⟩)] []
 else match (if to<0 then none else (y.nr[to.toNat]?).getD none) with
  | some z=>gk 118 [.pointer (some ⟨z.1,0,none⟩)] []
  | none=>match (if to<32 then none else y.cr[(to-32).toNat]?) with
   | some z=>gk 180 [.agg #[.pointer (some ⟨z.1,0,none⟩)]] []
   | none=>.nilFunc
theorem abS(fit:fM C y)(h:bu Fr w p (je C y))(hr:bu Fr w y.nb (flat jm y.nr++y.nx))(hc:bu Fr w y.cb (flat nh y.cr++y.cx)){to:Int}(h0:0≤to)(h1:to<38):az Tryz.prog 114 [.pointer (some ⟨p,0,none⟩),.int .i64 to] Fr w [] (fun v L=>v=qA y to∧L=[]):=by
 have hln:=uS fit
 have hnn:=xg fit
 obtain⟨k,rfl⟩:∃k:Nat,to=k:=⟨to.toNat,by omega⟩
 refine TF 50 Tryz.func114 Z ym aD Z Z ?_
 refine aw ?_
 refine qD ?_
 refine aw ?_
 refine CP (p:=(k:Int)=16) Z (fun e1=>?_) (fun e1=>?_)
 ·refine jH ?_
  refine IS ?_
  exact CR (aq.tmp 4 Z Z ER ⟨by rw[qA,if_pos e1],Z⟩)
 refine aw ?_
 refine VG (VV (fun Fr w hF hw hS=>Dr Fr w fit (h.of hF hw) (hr.of hF hw) k) Z ?_)
 have hu:∀z:lx,(y.nr[k]?).getD none=z→C.jr (k:Int)=if y.nr.length≤k then 4 else if z.isNone then 61 else 0:=fun z hz=>by
  unfold al.jr
  by_cases hk:k<y.nr.length
  ·have hx:=GE hk
   rw[hx] at hz
   rw[if_neg (show ¬((k:Int)<0∨(C.nodes.length:Int)≤k) by omega),if_neg (show ¬y.nr.length≤k by omega),(xf fit hx).1,←hz]
   cases y.nr[k]<;>rfl
  ·rw[if_pos (.inr yd),if_pos yd]
 by_cases hx:∃q r,y.nr[k]?=some (some (q,r))
 ·obtain⟨q,r,hx⟩:=hx
  have hk:=(bY.1 hx).1
  have hu2:=hu (some (q,r)) (by rw[hx];rfl)
  rw[if_neg yd] at hu2
  rw[hu2]
  refine xZ ?_
  refine jH ?_
  refine AZ ?_
  refine VG (VO.load Z Z (ax.aC hr (ru hx)) ?_)
  refine aw ?_
  refine IS ?_
  exact CR (aq.tmp 4 Z Z ER ⟨by rw[qA,if_neg e1,if_neg yd,dZ,hx];rfl,Z⟩)
 have hno:(y.nr[k]?).getD none=none:=by
  cases hz:y.nr[k]? with
  | none=>rfl
  | some z=>
   cases z with
   | none=>rfl
   | some z=>exact absurd ⟨z.1,z.2,hz⟩ hx
 have hu3:C.jr (k:Int)≠0:=by rw[hu none hno];split<;>decide
 have et:qA y k=match (if (k:Int)<32 then none else y.cr[((k:Int)-32).toNat]?) with
   | some z=>gk 180 [.agg #[.pointer (some ⟨z.1,0,none⟩)]] []
   | none=>.nilFunc:=by rw[qA,if_neg e1,if_neg yd,dZ,hno]
 rw[et]
 refine aw ?_
 refine CE Z (fun k0=>absurd k0 hu3) (fun _=>?_)
 refine aw ?_
 by_cases h32:(k:Int)<32
 ·refine VG (VY 32 false Z (DF yd) ?_)
  refine jH ?_
  refine js ?_
  refine aw ?_
  exact CR (aq.tmp 4 Z Z ER ⟨by rw[if_pos h32],Z⟩)
 obtain⟨j,rfl⟩:∃j:Nat,k=32+j:=⟨k-32,by omega⟩
 refine VG (VY 32 true Z (DT yd) ?_)
 refine jH ?_
 refine CP (p:=(((32+j:Nat):Int)-32)<(y.cr.length:Int)) Z (fun h2=>?_) (fun h2=>CK ?_)
 ·have hj:j<y.cr.length:=by omega
  have hx2:y.cr[j]?=some y.cr[j]:=GE hj
  generalize y.cr[j]=z at hx2
  have ej:((32+j:Nat):Int)-32=(j:Int):=by omega
  rw[ej]
  refine jH ?_
  refine VG (VI (fp j Z Z Z Z Z Z hj) ?_)
  refine VG (VO.load Z Z (ax.aC hc (zk hx2)) ?_)
  refine aw ?_
  refine VG (VI (LB (pv:=[(0,.pointer (some ⟨z.1,0,none⟩))]) [.pointer (some ⟨z.1,0,none⟩)] Z Z Z ym Z) ?_)
  refine IS ?_
  exact CR (aq.tmp 4 Z Z ER ⟨by rw[if_neg h32,dZ,hx2],Z⟩)
 ·refine aw ?_
  exact CR (aq.tmp 4 Z Z ER ⟨by rw[if_neg h32,lO yd],Z⟩)
theorem abQ{q:Nat}{S:aN}(ok:S.Ok)(from_:Int)(f:ay){ma:Option Addr}{mc:Nat}{ms:List aR}(hm:aV aH 2 Fr w ma ms)(hml:ms.length≤1000000)(now:Int):az Tryz.prog 180 [.agg #[.pointer (some ⟨q,0,none⟩)],.int .i64 from_,.agg (f.cells (ma,ms.length,mc)).toArray,.int .i64 now] Fr w [bR q S] (fun v L=>qP (S.take f ms now).2 (bR q (S.take f ms now).1) v L):=by
 refine TF 14 Tryz.func180 Z ym aD Z Z ?_
 refine CS (CG (VG (VB (vs:=[.pointer (some ⟨q,0,none⟩)]) Z fun s1=>VG (VB (vs:=f.cells (ma,ms.length,mc)) Z fun fb=>?_))))
 refine dz ?_
 refine Ie ?_
 refine dz ?_
 refine VG (VQ 2 Z (fun Fr w hF hw hS=>abW Fr w ok f (hm.of hF hw) hml now) Z oY ?_)
 rintro _ _ ⟨X,a,c,hX,rfl,rfl⟩
 refine dz ?_
 exact CR (aq.tmp 8 Z Z (aa.tail.trans aa.tail).ah ⟨_,Z,X,a,c,hX,Z,Z⟩)
end
end Cl
namespace Cl
open Go Vg T Api Ch Rep Conf Lg Rd
attribute [local irreducible] VO VC VA
theorem Xp{P:Program}{ty:Nat}{ps rs:Array TypeId}{vd:Bool}(hund:P.underlying ty=some (.func ps rs vd)){v:Value}{r:Bool}(hv:(v=.nilFunc∧r=true)∨∃f a c,v=.func f a c∧r=false)(w:World):(Op.equal ty v .nilFunc).run P w=.ok r w:=by
 unfold Op.equal
 show(Op.equalIn (9999+1) ty v .nilFunc).run P w=_
 rw[Op.equalIn,Sem.run_bind,run_underlying hund]
 rcases hv with ⟨rfl,rfl⟩ | ⟨f,a,c,rfl,rfl⟩<;>rfl
theorem KZ{X:Cx}{e:Env}{T yt:TypeId}{x:Operand}{v:Value}{ps rs:Array TypeId}{vd:Bool}(r:Bool)(hT:X.P.underlying T=some (.func ps rs vd))(hx:ev e x=some v)(hv:(v=.nilFunc∧r=false)∨∃f a c,v=.func f a c∧r=true):
  fN X (.binOp .neq T x (.const .nilFunc) yt) e (.bool r):=by
 intro a' ha dst ty pos after guard w
 have hq:=Xp hT (v:=v) (r:=!r) (by rcases hv with ⟨h1,h2⟩ | ⟨f,a,c,h1,h2⟩<;>simp[h1,h2]) w
 simp only[execOp,ha.ev hx]
 have h:(do eqGuard .neq T x (.const .nilFunc) v .nilFunc;binOp .neq T v .nilFunc:Sem Value).run X.P w=.ok (.bool r) w:=by
  have hg:(eqGuard .neq T x (.const .nilFunc) v .nilFunc).run X.P w=.ok () w:=by
   rcases hv with ⟨rfl,_⟩ | ⟨f,a,c,rfl,_⟩<;>rfl
  rw[Sem.run_bind,hg,Result.andThen_ok]
  have hb:binOp .neq T v .nilFunc=(do pure (.bool (!(←Op.equal T v .nilFunc))):Sem Value):=by
   rcases hv with ⟨rfl,_⟩ | ⟨f,a,c,rfl,_⟩<;>rfl
  rw[hb,Sem.run_bind,hq]
  cases r<;>rfl
 rw[Sem.run_bind]
 show((do eqGuard .neq T x (.const .nilFunc) v .nilFunc;binOp .neq T v .nilFunc:Sem Value).run X.P w).andThen _=_
 rw[h];rfl
section
variable {p:Nat} {C:al} {b e:Nat}
theorem abt{y:fV}:qA y 16=gk 179 [.pointer (some ⟨y.mp,0,none⟩)] []:=rfl
theorem abu{y:fV}{k q:Nat}{r:av}(h1:(k:Int)≠16)(h:y.nr[k]?=some (some (q,r))):qA y k=gk 118 [.pointer (some ⟨q,0,none⟩)] []:=by
 rw[qA,if_neg h1,if_neg yd,dZ,h];rfl
theorem abv{y:fV}{k:Nat}(h1:(k:Int)≠16)(h:∀q r,y.nr[k]?≠some (some (q,r))):qA y k=match (if (k:Int)<32 then none else y.cr[((k:Int)-32).toNat]?) with
   | some z=>gk 180 [.agg #[.pointer (some ⟨z.1,0,none⟩)]] []
   | none=>.nilFunc:=by
 have hno:(y.nr[k]?).getD none=none:=by
  cases hz:y.nr[k]? with
  | none=>rfl
  | some z=>
   cases z with
   | none=>rfl
   | some z=>exact absurd hz (h z.1 z.2)
 rw[qA,if_neg h1,if_neg yd,dZ,hno]<;>rfl
theorem VH{y:fV}(fit:fM C y){k:Nat}(h:∀q r,y.nr[k]?≠some (some (q,r))):C.node (k:Int)=none:=by
 unfold al.node
 rw[if_neg yd,dZ,←fit.nr,eh]
 cases hz:y.nr[k]? with
 | none=>rfl
 | some z=>
  cases z with
  | none=>rfl
  | some z=>exact absurd hz (h z.1 z.2)
theorem abG(ok:C.Ok b e)(hb:b<100000000)(x to i:Int):az Tryz.prog 59 [.pointer (some ⟨p,0,none⟩),.int .i64 x,.int .i64 to,.int .i64 i] Fr w [cV p C]
  (fun v L=>v=.int .i64 (C.fj (x,to) i).2∧L=[cV p (C.fj (x,to) i).1]):=by
 have hcl:=ok.bg
 have hnd:=ok.Gb
 refine TF 57 Tryz.func59 Z ym aD Z Z ?_
 refine Be ?_
 rintro y fit
 refine Il ?_
 have hln:=uS fit
 have hnn:=xg fit
 refine aj ?_
 refine VG (VQ 5 Z (fun Fr w hF hw hS=>KS Fr w ok.aB x to i) Z (ψ:=fun v H=>v=tP C.aB (x,to) i∧H=de y.lp (C.aB.drop (x,to) i).1) yy ?_)
 rintro _ _ ⟨rfl,rfl⟩
 cases hf:C.aB.find (x,to) i with
 | none=>
  have hr:C.fj (x,to) i=(C,4):=by unfold al.fj;rw[hf]
  rw[wO hf,E2 hf]
  refine ae ?_
  refine VG (VO.alloc Z fun mb=>?_)
  refine xX ?_
  refine vU ?_
  exact CR (aq.tmp 8 Z Z (aa.trans (aa.tail (H:=pt mb _ lJ)) (nZ (C:=C) (p:=p) (R:=[]) fit)).ah ⟨by rw[hr],by rw[hr]⟩)
 | some t=>
 obtain⟨ha1,ha2⟩:=ok.mH.found hf
 obtain⟨hx0,hx1⟩:=tG ha1
 obtain⟨ht0,ht1⟩:=tG ha2
 obtain⟨k,rfl⟩:∃k:Nat,to=k:=⟨to.toNat,by dsimp only at ht0;omega⟩
 dsimp only at ht0 ht1 hx0 hx1
 rw[zv hf,E3 hf]
 generalize hD:({ C with aB:=C.aB.dy (x,k) i }:al)=D
 have okd:D.Ok b e:=hD▸ok.nq (by rw[al.Ok.Ko hf];exact ok.aB.drop _ _) (ok.mH.dy hf)
 have fitd:fM D y:=hD▸⟨fit.nr,fit.cr,fit.qc⟩
 obtain⟨s,rfl⟩:∃s,t=bT s:=⟨sB t,(BP t).symm⟩
 have hr:C.fj (x,k) i=(D.iu x k (bT s),0):=by unfold al.fj;rw[hf];dsimp only;rw[hD]
 have hgot:D.iu x k (bT s)=match getM s with
   | some (f,ms)=>D.fJ x k f ms
   | none=>D:=by unfold al.iu;rw[GV]<;>rfl
 refine VO.ah (L':=eY p D y) (aa.of_eq (by rw[←hD];rfl)).ah ?_
 refine ae ?_
 refine VG (VO.alloc Z fun mb=>?_)
 refine VG (VT (vs:=e7 x k (bT s)) (cs':=e7 x k (bT s)) 0 Z Z Z Z (NR _) Z Z Z ?_)
 refine qG ?_
 refine aj ?_
 refine VG (VK (Lc:=[]) (fun Fr w hF hw hS=>SV Fr w (s:=s)) Z Z ?_)
 intro v L1 hv
 cases hg:getM s with
 | none=>
  rw[hg] at hv hgot
  obtain⟨rfl,rfl⟩:=hv
  dsimp only at hgot
  refine ae ?_
  refine VG (VO.alloc Z fun fb=>?_)
  refine Ic ?_
  refine ae ?_
  refine dz ?_
  refine PM ?_
  refine ae ?_
  refine xL ?_
  refine yF ?_
  exact CR (aq.tmp 8 Z Z (aa.trans (aa.tail (H:=pt fb _ cC)) (aa.trans (aa.tail (H:=pt mb _ lJ)) (nZ (C:=D) (p:=p) (R:=[]) fitd))).ah ⟨by rw[hr],by rw[hr,hgot]⟩)
 | some fm=>
 obtain⟨f,ms⟩:=fm
 rw[hg] at hv hgot
 obtain⟨ma,mc,rfl,rfl⟩:=hv
 dsimp only at hgot
 rw[hgot] at hr
 obtain⟨hm6,hi0,hi1⟩:=Tx hg
 refine ae ?_
 refine VG (VO.alloc Z fun fb=>?_)
 refine VG (VT (vs:=f.cells (ma,ms.length,mc)) (cs':=f.cells (ma,ms.length,mc)) 0 Z Z Z Z (NR _) Z Z Z ?_)
 refine VO.ah (L':=pt fb (f.cells (ma,ms.length,mc)) cC::pt mb (e7 x k (bT s)) lJ::(eY p D y ++ [aA aU 2 ma ms.length mc (flat aH ms)])) (by refine aa.ah ?_;refine IP 0 Z ?_;refine IP 1 Z ?_;exact aa.last (L:=eY p D y)) ?_
 refine ae ?_
 refine dz ?_
 refine PM ?_
 by_cases h16:(k:Int)=16
 ·have hk16:k=16:=by omega
  subst hk16
  have ht:D.fJ x (16:Nat) f ms=({ D with au:=(D.au.take x f D.now).1,aB:=bD (16:Nat) D.aB (D.au.take x f D.now).2 }:al):=by
   unfold al.fJ
   rw[if_pos yo];rfl
  rw[ht] at hr
  have fw:=okd.au.xA x f D.now
  rw[show qA y (16:Nat)=_ from abt]
  refine ae ?_
  refine AX ?_
  refine ae ?_
  refine Im ?_
  refine ae ?_
  refine mz ?_
  refine CN (L':=pt fb (f.cells (ma,ms.length,mc)) cC::pt mb (e7 x (16:Nat) (bT s)) lJ::cJ y.mp D.au::(tL p D y D.aB ++ [aA aU 2 ma ms.length mc (flat aH ms)])) (aa.cons (aa.cons (aa.app (M:=cJ y.mp D.au::tL p D y D.aB) FV aa.refl))).ah ?_
  refine Io ?_
  refine iL ?_
  refine Ip ?_
  refine iL ?_
  refine AG (VA.mJ 2 Z Z (fun Fr w hF hs hS=>ab1 Fr w okd.au x f (ma,ms.length,mc) D.now) Z Z oY ?_ ?_)
  ·rintro _ _ ⟨X,a,c,hX,rfl,rfl⟩
   exact xY
  rintro _ _ ⟨X,a,c,hX,rfl,rfl⟩
  refine AG (AQ 7 Z (fun Fr w hF hs hS=>pD Fr w (hS.aC 3 Z) okd.aB (16:Nat) (mG.at_ 2 hS Z hX fw)) Z Z (ψ:=fun v H=>v=.tuple #[]∧H=de y.lp (bD (16:Nat) D.aB (X.map Prod.fst))) yy ?_ ?_)
  ·rintro _ _ ⟨rfl,rfl⟩
   exact xY
  rintro _ _ ⟨rfl,rfl⟩
  refine oC ?_
  rw[hX]
  exact CR (aq.tmp 8 Z Z (aa.trans (aa.tail (H:=pt fb _ cC)) (aa.trans (aa.tail (H:=pt mb _ lJ)) (w_ (p:=p) (m:=(D.au.take x f D.now).1) (l:=bD (16:Nat) D.aB (D.au.take x f D.now).2) (a:=a) (c:=c) (X:=X) (R:=[aA aU 2 ma ms.length mc (flat aH ms)]) fitd))).ah ⟨by rw[hr],by rw[hr]⟩)
 by_cases hx:∃q r,y.nr[k]?=some (some (q,r))
 ·obtain⟨q,r,hx⟩:=hx
  obtain⟨hn1,hn2⟩:=xf fitd hx
  have hmr:some r∈D.nodes:=ME hn2
  have hfit:=okd.fit r hmr
  have hlr:=okd.last r hmr
  have ht:D.fJ x k f ms=({ D.setNode k (some (ct r x f ms D.now).1) with aB:=bD k D.aB (ek (ct r x f ms D.now).2) }:al):=by
   unfold al.fJ
   rw[if_neg h16,hn1];rfl
  rw[ht] at hr
  have fw:fH (ek (ct r x f ms D.now).2):=fH.of (by have:=xA hfit x f ms D.now;omega)
  rw[abu h16 hx]
  refine ae ?_
  refine AX ?_
  refine ae ?_
  refine Im ?_
  refine ae ?_
  refine mz ?_
  refine CN (L':=pt fb (f.cells (ma,ms.length,mc)) cC::pt mb (e7 x k (bT s)) lJ::bp q r::(tM p D y k D.aB ++ [aA aU 2 ma ms.length mc (flat aH ms)])) (aa.cons (aa.cons (aa.app (M:=bp q r::tM p D y k D.aB) (Ga hx) aa.refl))).ah ?_
  refine Io ?_
  refine iL ?_
  refine Ip ?_
  refine iL ?_
  refine AG (VA.mJ 2 Z Z (fun Fr w hF hs hS=>N7 Fr w hfit yd x f (aV.aA cn (hS.at_ 12 Z)) yd D.now yd yd) Z Z oY ?_ ?_)
  ·rintro _ _ ⟨X,a,c,hX,rfl,rfl⟩
   exact xY
  rintro _ _ ⟨X,a,c,hX,rfl,rfl⟩
  refine AG (AQ 8 Z (fun Fr w hF hs hS=>pD Fr w (hS.aC 3 Z) okd.aB k (mG.at_ 2 hS Z hX fw)) Z Z (ψ:=fun v H=>v=.tuple #[]∧H=de y.lp (bD k D.aB (X.map Prod.fst))) yy ?_ ?_)
  ·rintro _ _ ⟨rfl,rfl⟩
   exact xY
  rintro _ _ ⟨rfl,rfl⟩
  refine oC ?_
  rw[hX]
  exact CR (aq.tmp 8 Z Z (aa.trans (aa.tail (H:=pt fb _ cC)) (aa.trans (aa.tail (H:=pt mb _ lJ)) (Mg (p:=p) (r':=(ct r x f ms D.now).1) (l:=bD k D.aB (ek (ct r x f ms D.now).2)) (a:=a) (c:=c) (X:=X) (R:=[aA aU 2 ma ms.length mc (flat aH ms)]) fitd hx))).ah ⟨by rw[hr],by rw[hr]⟩)
 have hx:∀q r,y.nr[k]?≠some (some (q,r)):=fun q r h=>hx ⟨q,r,h⟩
 have hnone:=VH fitd hx
 rw[abv h16 hx]
 by_cases hc:∃j q z,k=32+j∧y.cr[j]?=some (q,z)
 ·obtain⟨j,q,z,rfl,hz⟩:=hc
  obtain⟨hn1,hn2⟩:=zj fitd hz
  have ej:((32+j:Nat):Int)-32=(j:Int):=by omega
  have hmz:z∈D.bg:=ME hn2
  have okz:=okd.lC z hmz
  have ht:D.fJ x (32+j:Nat) f ms=({ D.gR j (z.take f ms D.now).1 with aB:=bD (32+j:Nat) D.aB (z.take f ms D.now).2,his:=D.his }:al):=by
   unfold al.fJ
   rw[if_neg h16,hnone,ej,hn1];rfl
  rw[ht] at hr
  have fw:fH (z.take f ms D.now).2:=aN.xA z f ms D.now
  rw[if_neg yd,ej,dZ,hz]
  refine ae ?_
  refine AX ?_
  refine ae ?_
  refine Im ?_
  refine ae ?_
  refine mz ?_
  refine CN (L':=pt fb (f.cells (ma,ms.length,mc)) cC::pt mb (e7 x (32+j:Nat) (bT s)) lJ::bR q z::(tJ p D y j D.aB D.his ++ [aA aU 2 ma ms.length mc (flat aH ms)])) (aa.cons (aa.cons (aa.app (M:=bR q z::tJ p D y j D.aB D.his) (ES hz) aa.refl))).ah ?_
  refine Io ?_
  refine iL ?_
  refine Ip ?_
  refine iL ?_
  refine AG (VA.mJ 2 Z Z (fun Fr w hF hs hS=>abQ Fr w okz x f (aV.aA cn (hS.at_ 12 Z)) yd D.now) Z Z oY ?_ ?_)
  ·rintro _ _ ⟨X,a,c,hX,rfl,rfl⟩
   exact xY
  rintro _ _ ⟨X,a,c,hX,rfl,rfl⟩
  refine AG (AQ 8 Z (fun Fr w hF hs hS=>pD Fr w (hS.aC 3 Z) okd.aB (32+j:Nat) (mG.at_ 2 hS Z hX fw)) Z Z (ψ:=fun v H=>v=.tuple #[]∧H=de y.lp (bD (32+j:Nat) D.aB (X.map Prod.fst))) yy ?_ ?_)
  ·rintro _ _ ⟨rfl,rfl⟩
   exact xY
  rintro _ _ ⟨rfl,rfl⟩
  refine oC ?_
  rw[hX]
  exact CR (aq.tmp 8 Z Z (aa.trans (aa.tail (H:=pt fb _ cC)) (aa.trans (aa.tail (H:=pt mb _ lJ)) (ET (p:=p) (s':=(z.take f ms D.now).1) (hi:=D.his) (l:=bD (32+j:Nat) D.aB (z.take f ms D.now).2) (a:=a) (c:=c) (X:=X) (R:=[aA aU 2 ma ms.length mc (flat aH ms)]) fitd hz))).ah ⟨by rw[hr],by rw[hr]⟩)
 have hcn:D.du ((k:Int)-32)=none∧(if (k:Int)<32 then none else y.cr[((k:Int)-32).toNat]?)=none:=by
  by_cases h32:(k:Int)<32
  ·exact⟨by unfold al.du;rw[if_pos yd],if_pos h32⟩
  obtain⟨j,rfl⟩:∃j:Nat,k=32+j:=⟨k-32,by omega⟩
  have ej:((32+j:Nat):Int)-32=(j:Int):=by omega
  have hz:y.cr[j]?=none:=by
   cases hz:y.cr[j]? with
   | none=>rfl
   | some z=>exact absurd ⟨j,z.1,z.2,rfl,hz⟩ hc
  rw[ej,if_neg h32,dZ,hz]
  refine⟨?_,Z⟩
  unfold al.du
  rw[if_neg yd,dZ,←fitd.cr,eh,hz];rfl
 have ht:D.fJ x k f ms=D:=by
  unfold al.fJ
  rw[if_neg h16,hnone,hcn.1]
 rw[ht] at hr
 rw[hcn.2]
 refine ae ?_
 refine AX ?_
 refine ae ?_
 refine VG (VI (KZ false Tryz.underlying204 Z (.inl ⟨rfl,Z⟩)) ?_)
 refine pK ?_
 exact CR (aq.tmp 8 Z Z (aa.trans (aa.tail (H:=pt fb _ cC)) (aa.trans (aa.tail (H:=pt mb _ lJ)) (nZ (C:=D) (p:=p) (R:=[aA aU 2 ma ms.length mc (flat aH ms)]) fitd))).ah ⟨by rw[hr],by rw[hr]⟩)
end
end Cl
namespace Cl
open Go Vg T Api Ch Rep Conf Lg Rd
attribute [local irreducible] VO VC VA
theorem US{Fr:Nat→Prop}{w:World}{q:Nat}{M:aE}(h:a8 Fr [cJ q M] w):∃a c,bu Fr w q (c_ M a c)∧aV aH 2 Fr w a M.ch.ms:=by
 obtain⟨y,hy⟩:=h.ex
 have hs:=hy.sep
 exact⟨y.1,y.2,hs.aC 0 Z,aV.aA cn (hs.at_ 1 Z)⟩
theorem Dt{q:Nat}{M:aE}(ok:M.Ok)(h:a8 Fr [cJ q M] w):az Tryz.prog 10 [.pointer (some ⟨q,0,none⟩)] Fr w []
  (fun v L=>∃a' c',v=.agg (M.ch.cells a' c').toArray∧L=[aA aU 2 a' M.ch.ms.length c' (flat aH M.ch.ms)]):=by
 obtain⟨a,c,h1,h2⟩:=US h
 exact UW Fr w ok h1 h2
theorem TZ{M:aE}{n now:Int}(h:(M.join n now).2.2≠0):(M.join n now).1=M:=by
 unfold aE.join at h ⊢
 split
 ·rfl
 ·rename_i h1
  rw[if_neg h1] at h
  split
  ·rfl
  ·rename_i h2;rw[if_neg h2] at h;exact absurd rfl h
section
variable {p:Nat} {C:al} {y:fV} {b e:Nat}
theorem VE{l:List lx}{k q:Nat}{r r':av}(hk:k<l.length):flat jm (l.set k (some (q,r)))=flat jm (l.set k (some (q,r'))):=by
 have h:(l.set k (some (q,r)))[k]?=some (some (q,r)):=iM hk
 have:=Mb (r':=r') h
 rw[v_] at this
 exact this.symm
theorem Mc{l:List lx}{k:Nat}(x:lx)(hk:k<l.length)(rest:List Value):(flat jm l++rest).set (0+k*1) (F6 x)=flat jm (l.set k x)++rest:=by
 rw[di]
 have hz:l[k]?=some l[k]:=GE hk
 exact wV (j:=0) F4 hz (r8) (by cases l[k]<;>rfl) rest
theorem T2(fit:fM C y){k q:Nat}(hk:k<y.nr.length){r r':av}{m:aE}{l:aT}{a a':Option Addr}{c c':Nat}{X X':List gM}:aa (qu (bp q r') a c X::qu (cJ y.mp m) a' c' X' :: [pt p (je C y) sr,lG y.qa y.qc C.cP.qs,pt y.nb (flat jm (y.nr.set k (some (q,r)))++y.nx) rE,pt y.cb (flat nh y.cr++y.cx) ss,de y.lp l,jz y.hp C.his,aA gN 7 y.da C.done.length y.dc (flat bZ C.done),cR (y.nr.map ka),cR (y.cr.map oK)])
  [cV p ({ ({ C with au:=m }:al).setNode k (some r') with aB:=l }:al)]:=by
 rw[VE (r':=r') hk]
 have e1:=F8 (C:=C) (y:=y) (k:=k) (x:=some (q,r')) ({ ({ C with au:=m }:al).setNode k (some r') with aB:=l }:al) rfl rfl rfl
 have hz:y.nr[k]?=some y.nr[k]:=GE hk
 refine aa.trans vv ?_
 refine aa.trans (aa.cons vv) ?_
 refine aa.trans (IP 9 Z aa.refl) ?_
 refine aa.trans (Cp (f:=ka) hz) ?_
 refine aa.trans aa.tail ?_
 refine aa.trans (M:=bp q r'::cR ((y.nr.eraseIdx k).map ka)::_) (IP 1 Z (IP 0 Z aa.refl)) ?_
 refine aa.trans (Co (f:=ka) hk (some (q,r'))) ?_
 have fit':fM ({ ({ C with au:=m }:al).setNode k (some r') with aB:=l }:al) (y.node k (some (q,r'))):=F9 (C:={ C with au:=m }) ⟨fit.nr,fit.cr,fit.qc⟩ k (some (q,r')) l
 refine aa.sn (K:=[]) _ fit' ?_
 unfold eY
 rw[e1]
 exact(bm [2,2,1,1,1,1,1,1,0,0])
theorem abH(ok:C.Ok b e)(hb:b<100000000)(n:Int):az Tryz.prog 63 [.pointer (some ⟨p,0,none⟩),.int .i64 n] Fr w [cV p C]
  (fun v L=>v=.int .i64 (C.join n).2∧L=[cV p (C.join n).1]):=by
 refine TF 65 Tryz.func63 Z ym aD Z Z ?_
 refine Be ?_
 rintro y fit
 refine CN (L':=cJ y.mp C.au::tL p C y C.aB) ((aa.of_eq (bK _)).trans FV).ah ?_
 have hnn:=xg fit
 have hjb:=TZ (M:=C.au) (n:=n) (now:=C.now)
 have hjf:=ok.au.KK n C.now
 have hr0:(C.au.join n C.now).2.2≠0→C.join n=(C,(C.au.join n C.now).2.2):=fun h=>by unfold al.join;dsimp only;rw[if_pos h]
 have hr1:(C.au.join n C.now).2.2=0→C.join n=((({ C with au:=(C.au.join n C.now).1 }:al).back n).post 16 (C.au.join n C.now).2.1,0):=fun h=>by unfold al.join;dsimp only;rw[if_neg cN]
 refine ae ?_
 refine CD (ts 0 9 (.only 9 (ts 10 5 .nil))) ym yr ?_
 refine fK ?_
 refine AG (AQ 0 Z (fun Fr w hF hs hS=>ab0 Fr w ok.au n C.now) Z Z oY ?_ ?_)
 ·rintro _ _ ⟨X,a,c,hX,rfl,rfl⟩
  exact yu
 rintro _ _ ⟨X,a,c,hX,rfl,rfl⟩
 generalize C.au.join n C.now=J at hjb hjf hr0 hr1 hX
 obtain⟨m,S,er⟩:=J
 dsimp only at hjb hjf hr0 hr1 hX ⊢
 obtain⟨fw,okm⟩:=hjf
 refine fK ?_
 refine ae ?_
 refine VC.dH Z (fun k1=>?_) (fun k1=>CK ?_)
 ·refine ae ?_
  exact CR (aq.tmp 4 Z Z (w_ (p:=p) (C:=C) (m:=m) (l:=C.aB) (a:=a) (c:=c) (X:=X) (R:=[]) fit).ah ⟨by rw[hr0 k1],by rw[hr0 k1,hjb k1]⟩)
 have hr:=hr1 s_
 refine CS (CS (CG ?_))
 refine ae ?_
 refine VG (VV (fun Fr w hF hw hS=>Dr Fr w fit (hS.aC 1 Z) (hS.aC 3 Z) n) Z ?_)
 refine ae ?_
 have hbk:({ C with au:=m }:al).back n=if C.jr n=61 then (({ C with au:=m }:al).setNode n (some (ct (cj C.cP n true) 16 (iF m.ch) m.ch.ms C.now).1)).post n (ek (ct (cj C.cP n true) 16 (iF m.ch) m.ch.ms C.now).2) else ({ C with au:=m }:al):=rfl
 refine CE Z (fun h61=>?_) (fun h61=>CK ?_)
 rotate_left
 ·rw[hbk,if_neg h61] at hr
  refine sX ?_
  refine ae ?_
  refine VG (VQ 5 Z (fun Fr w hF hs hS=>pD Fr w (hS.aC 1 Z) ok.aB 16 (mG.at_ 0 hS Z hX fw)) Z (ψ:=fun v H=>v=.tuple #[]∧H=de y.lp (bD 16 C.aB (X.map Prod.fst))) yy ?_)
  rintro _ _ ⟨rfl,rfl⟩
  rw[hX]
  refine ae ?_
  exact CR (aq.tmp 4 Z Z (w_ (p:=p) (C:=C) (m:=m) (l:=bD 16 C.aB S) (a:=a) (c:=c) (X:=X) (R:=[]) fit).ah ⟨by rw[hr],by rw[hr];rfl⟩)
 rw[hbk,if_pos h61] at hr
 obtain⟨k,rfl,hk,hkn⟩:∃k:Nat,n=k∧k<y.nr.length∧y.nr[k]?=some none:=by
  have hu:=h61
  unfold al.jr at hu
  split at hu
  ·cases hu
  ·rename_i h1
   split at hu
   ·rename_i h2
    have hk:n.toNat<y.nr.length:=by omega
    have en:n=(n.toNat:Int):=by omega
    have hz:y.nr[n.toNat]?=some y.nr[n.toNat]:=GE hk
    refine⟨n.toNat,en,hk,?_⟩
    have:=(xf fit hz).1
    rw[←en] at this
    rw[this] at h2
    rw[hz]
    cases hq:y.nr[n.toNat] with
    | none=>rfl
    | some v=>rw[hq] at h2;cases h2
   ·cases hu
 have hnl:=ok.nl
 have hnb:=lX ok.cf
 have hok:sG C.cP (k:Int):=⟨ok.cf,by omega,by omega⟩
 have hfit:=CA ok.cf (k:Int) true
 have hlast:(cj C.cP (k:Int) true).aK.last=0:=by
  unfold cj;split
  ·rfl
  split<;>rfl
 have hml:=okm.ml
 have hei:(iF m.ch).entry.index=0:=rfl
 refine dz ?_
 refine VG (VL 1 (C.cP.cells y.qa y.qc) Z Z Z Z ?_)
 refine dz ?_
 refine VG (VK (Lc:=[]) (fun Fr w hF hw hS=>Rep.lK Fr w C.cP y.qa y.qc (uY (hS.at_ 2 Z)) trivial fit.qc k true) Z Z ?_)
 intro v L hv
 rw[if_pos hok] at hv
 obtain⟨q,rfl,rfl⟩:=hv
 generalize cj C.cP (k:Int) true=r0 at hfit hlast hr
 have fw2:fH (ek (ct r0 16 (iF m.ch) m.ch.ms C.now).2):=fH.of (by have:=xA hfit 16 (iF m.ch) m.ch.ms C.now;omega)
 have okl2:=aT.Ok.bD (k:Int) (ek (ct r0 16 (iF m.ch) m.ch.ms C.now).2) ok.aB
 refine ae ?_
 refine gK ?_
 refine AZ ?_
 refine VG (VO.st 4 (cs':=flat jm (y.nr.set k (some (q,r0)))++y.nx) Z Z Z Z Qo (Mc (some (q,r0)) hk y.nx) Z ?_)
 refine ae ?_
 refine gK ?_
 refine VG (VK (Lc:=[]) (fun Fr w hF hw hS=>Dt Fr w okm (((hS.at_ 1 Z).sep).at_ 0 Z)) Z Z ?_)
 rintro _ _ ⟨ma,mc,rfl,rfl⟩
 refine ae ?_
 refine VG (VI (LB (pv:=[(0,.int .i64 8),(11,.agg (m.ch.cells ma mc).toArray)]) ((iF m.ch).cells (ma,m.ch.ms.length,mc)) Z Z Z ym Z) ?_)
 refine VG (VO.alloc Z fun fb=>?_)
 refine VG (VT (vs:=(iF m.ch).cells (ma,m.ch.ms.length,mc)) (cs':=(iF m.ch).cells (ma,m.ch.ms.length,mc)) 0 Z Z Z Z (NR _) Z Z Z ?_)
 refine ae ?_
 refine CD (ts 0 8 (.only 8 (.only 9 .nil))) ym yr ?_
 refine rN ?_
 refine AG (VA.dQ 0 ((iF m.ch).cells (ma,m.ch.ms.length,mc)) Z Z Z Z Z ?_)
 refine rN ?_
 refine AG (AQ 2 Z (fun Fr w hF hs hS=>N7 Fr w hfit yd 16 (iF m.ch) (aV.aA cn (hS.at_ 1 Z)) yd C.now yd yd) Z Z oY ?_ ?_)
 ·rintro _ _ ⟨X2,a2,c2,hX2,rfl,rfl⟩
  exact Qp
 rintro _ _ ⟨X2,a2,c2,hX2,rfl,rfl⟩
 generalize ct r0 16 (iF m.ch) m.ch.ms C.now=T at hr fw2 okl2 hX2
 refine AG (AQ 8 Z (fun Fr w hF hs hS=>pD Fr w (hS.aC 4 Z) ok.aB k (mG.at_ 2 hS Z hX2 fw2)) Z Z (ψ:=fun v H=>v=.tuple #[]∧H=de y.lp (bD k C.aB (X2.map Prod.fst))) yy ?_ ?_)
 ·rintro _ _ ⟨rfl,rfl⟩
  exact Qp
 rintro _ _ ⟨rfl,rfl⟩
 rw[hX2]
 refine oC ?_
 refine VG (VQ 8 Z (fun Fr w hF hs hS=>pD Fr w (hS.aC 4 Z) okl2 16 (mG.at_ 3 hS Z hX fw)) Z (ψ:=fun v H=>v=.tuple #[]∧H=de y.lp (bD 16 (bD k C.aB (ek T.2)) (X.map Prod.fst))) yy ?_)
 rintro _ _ ⟨rfl,rfl⟩
 rw[hX]
 refine ae ?_
 exact CR (aq.tmp 4 Z Z (aa.trans (aa.tail (H:=pt fb _ cC)) (aa.trans (aa.tail (H:=aA aU 2 ma _ mc _)) (T2 (p:=p) (C:=C) (r:=r0) (r':=T.1) (m:=m) (l:=bD 16 (bD k C.aB (ek T.2)) S) (a:=a2) (c:=c2) (X:=X2) (a':=a) (c':=c) (X':=X) fit hk))).ah ⟨by rw[hr],by rw[hr];rfl⟩)
end
end Cl
namespace Cl
open Go Vg T Api Ch Rep Conf Lg Rd
attribute [local irreducible] VO VC VA
theorem Qy{α β:Type}(f:β→α×Nat→β)(x:β){l:List α}{k:Nat}{a:α}(h:l[k]?=some a):(l.zipIdx.take (k+1)).foldl f x=f ((l.zipIdx.take k).foldl f x) (a,k):=by
 have:l.zipIdx[k]?=some (a,k):=by rw[List.getElem?_zipIdx,h];simp
 rw[jb,this,Bp]
 rfl
theorem Qx{α β:Type}(f:β→α×Nat→β)(x:β)(l:List α):(l.zipIdx.take l.length).foldl f x=l.zipIdx.foldl f x:=by
 rw[r5 (by rw[Bt];exact NR _)]
section
variable {p:Nat} {C:al} {b e:Nat}
theorem abD(ok:C.Ok b e)(he:e<1000000):az Tryz.prog 26 [.pointer (some ⟨p,0,none⟩)] Fr w [cV p C]
  (fun v L=>v=.tuple #[]∧L=[cV p C.behind]):=by
 have hcl:=ok.bg
 have hnd:=ok.Gb
 have hev:=ok.ev
 have hdn:=ok.dn
 refine TF 115 Tryz.func26 Z ym aD Z Z ?_
 refine Be ?_
 rintro y fit
 refine Il ?_
 have hln:=uS fit
 have hnn:=xg fit
 refine aj ?_
 refine VC.loop (σ:=Nat) (fun k=>[(0,pV p),(17,.slice (some ⟨y.cb,0,none⟩) y.cr.length y.cc),(18,.int .i64 y.cr.length),(19,.int .i64 (k:Int))])
  (fun k=>eY p ({ C with his:=(C.bg.zipIdx.take k).foldl oc C.his }:al) y) (fun k=>k≤y.cr.length) (fun k=>y.cr.length-k) 0
  (bU _) aP ER ?_
 rintro k hk0
 have hH:=al.Ok.E4 ok.his (C.bg.zipIdx.take k) (by rw[kH,Bt];omega)
 rw[kH,Bt] at hH
 obtain⟨okh,-,hhe⟩:=hH
 refine ae ?_
 refine CP (p:=(k:Int)<y.cr.length) Z (fun h1=>CK ?_) (fun h1=>CX ?_)
 ·have hkl:k<y.cr.length:=by omega
  have hx2:y.cr[k]?=some y.cr[k]:=GE hkl
  generalize y.cr[k]=z at hx2
  obtain⟨q,s⟩:=z
  obtain⟨hnx,hns⟩:=zj fit (k:=k) (x:=(q,s)) hx2
  have hm:s∈C.bg:=ME hns
  have hsu:=Qy oc C.his hns
  generalize (C.bg.zipIdx.take k).foldl oc C.his=H at okh hhe hsu
  have hcp:(y.cr.map oK)[k]?=some (bR q s):=by rw[eh,hx2];rfl
  refine pL ?_
  refine VG (VO.load Z Z (ax.one 4 Z (zk hx2)) ?_)
  refine ae ?_
  refine VG (VV (fun Fr w hF hw hS=>ab3 Fr w (ok.lC s hm) (((hS.at_ 9 Z).sep).at_ k hcp)) Z ?_)
  unfold Gm
  generalize ho:s.outcome=o
  refine ae ?_
  refine VG (VO.alloc Z fun ob=>?_)
  refine VG (VT (vs:=dR (o.getD mj)) (cs':=dR (o.getD mj)) 0 Z Z Z Z (NR _) Z Z Z ?_)
  refine ae ?_
  cases o with
  | none=>
   have e1:oc H (s,k)=H:=by unfold oc;dsimp only;rw[ho]
   refine js ?_
   refine fL ?_
   exact PN
  | some o=>
   have e1:oc H (s,k)=H.end_ k s.seq o:=by unfold oc;dsimp only;rw[ho]
   refine mz ?_
   refine CD (ts 0 6 (ts 7 1 (.only 6 (.only 8 .nil)))) ym yr ?_
   refine fK ?_
   refine AG (VA.dQ 0 (dR o) Z Z Z Z Z ?_)
   refine AG (AR (fun Fr w hF hw hS=>N6 Fr w (ok.lC s hm) (((hS.at_ 10 Z).sep).at_ k hcp)) Z Z Qq ?_)
   refine AG (AQ 7 Z (fun Fr w hF hs hS=>TL Fr w okh yd k s.seq o) Z Z (ψ:=fun v K=>v=.int .i64 (H.qY k s.seq o)∧K=jz y.hp (H.end_ k s.seq o)) yy ?_ ?_)
   ·rintro _ _ ⟨rfl,rfl⟩
    exact Qq
   rintro _ _ ⟨rfl,rfl⟩
   refine dp ?_
   refine fL ?_
   exact PN
 have hkn:k=C.bg.length:=by omega
 subst hkn
 rw[Qx]
 generalize hH2:C.bg.zipIdx.foldl oc C.his=H
 clear okh hhe
 refine aj ?_
 refine VC.loop (σ:=Nat×Option Addr×Nat) (fun s=>[(0,pV p),(43,.slice (some ⟨y.nb,0,none⟩) y.nr.length y.nc),(44,.int .i64 y.nr.length),(45,.int .i64 (s.1:Int))])
  (fun s=>eY p ({ C with his:=H,done:=(C.nodes.zipIdx.take s.1).foldl jh C.done }:al) { y with da:=s.2.1,dc:=s.2.2 }) (fun s=>s.1≤y.nr.length) (fun s=>y.nr.length-s.1) (0,y.da,y.dc)
  (bU _) aP ER ?_
 rintro⟨k,da,dc⟩ hk0
 dsimp only at hk0
 have hdk:((C.nodes.zipIdx.take k).foldl jh C.done).length≤4096:=al.Ok.J6 hdn fun x hx r hr=>ok.fit r (by
  have:=List.mem_zipIdx' (x:=x.1) (i:=x.2) (List.mem_of_mem_take hx)
  rw[←hr]
  exact ME (by rw[GE this.1,←this.2]))
 refine ae ?_
 refine CP (p:=(k:Int)<y.nr.length) Z (fun h1=>CK ?_) (fun h1=>CX ?_)
 rotate_left
 ·have hkn:k=C.nodes.length:=by omega
  subst hkn
  have hfin:C.behind=({ C with his:=H,done:=(C.nodes.zipIdx.take C.nodes.length).foldl jh C.done }:al):=by rw[Qx,←hH2];rfl
  exact aq.void Z (nZ (p:=p) (C:=({ C with his:=H,done:=(C.nodes.zipIdx.take C.nodes.length).foldl jh C.done }:al)) (y:={ y with da:=da,dc:=dc }) (R:=[]) ⟨fit.nr,fit.cr,fit.qc⟩).ah ⟨rfl,by rw[hfin]⟩
 have hkl:k<y.nr.length:=by omega
 have hx2:y.nr[k]?=some y.nr[k]:=GE hkl
 generalize y.nr[k]=z at hx2
 obtain⟨hnx,hns⟩:=xf fit (k:=k) (x:=z) hx2
 have hsu:=Qy jh C.done hns
 generalize (C.nodes.zipIdx.take k).foldl jh C.done=d at hdk hsu
 refine CS (VC.dX (σ:=Option Addr×Nat) (fun _=>[(0,pV p),(43,.slice (some ⟨y.nb,0,none⟩) y.nr.length y.nc),(44,.int .i64 y.nr.length),(45,.int .i64 (k:Int))])
  (fun s=>eY p ({ C with his:=H,done:=(C.nodes.zipIdx.take (k+1)).foldl jh C.done }:al) { y with da:=s.1,dc:=s.2 }) (fun _=>True) ?_ ?_)
 rotate_left
 ·rintro⟨da',dc'⟩ -
  refine fL ?_
  exact⟨(k+1,da',dc'),by dsimp only;omega,by dsimp only;omega,SC Z (SC Z (SC Z (Sub.int Z yd (SN _)))),ER⟩
 have stay:jh d (z.map Prod.snd,k)=d→eY p ({ C with his:=H,done:=(C.nodes.zipIdx.take (k+1)).foldl jh C.done }:al) { y with da:=da,dc:=dc }=eY p ({ C with his:=H,done:=d }:al) { y with da:=da,dc:=dc }:=fun h=>by rw[hsu,h]
 refine pL ?_
 refine VG (VO.load Z Z (ax.one 3 Z (ru hx2)) ?_)
 cases z with
 | none=>
  refine ae ?_
  refine VG (VY 52 true Z Z ?_)
  refine xZ ?_
  refine CX ?_
  exact⟨(da,dc),trivial,aP,by dsimp only;rw[stay rfl];exact ER⟩
 | some z=>
 obtain⟨q,r⟩:=z
 have hm:some r∈C.nodes:=ME hns
 have okr:=(ok.fit r hm).ok
 have hcp:(y.nr.map ka)[k]?=some (bp q r):=by rw[eh,hx2];rfl
 have hdN:jh d (some r,k)=if r.since=0∨r.ch.ms.length=0∨u0 r.ch.ms≠k∨r.an.done≤d.length then d else d++(r.log.take r.an.done.toNat).drop d.length:=rfl
 show VO _ _ _ _ (bX (some 49) (.pointer (some ⟨q,0,none⟩)) _) _ _
 refine ae ?_
 refine VG (VY 52 false Z Z ?_)
 refine aw ?_
 refine VG (VV (fun Fr w hF hw hS=>MZ Fr w (((hS.at_ 8 Z).sep).at_ k hcp)) Z ?_)
 refine ae ?_
 refine CP (p:=r.since=0) Z (fun k1=>?_) (fun k1=>CK ?_)
 ·refine CX ?_
  exact⟨(da,dc),trivial,aP,by dsimp only;rw[stay (by show jh d (some r,k)=d;rw[hdN,if_pos (.inl k1)])];exact ER⟩
 refine ae ?_
 refine VG (VK (Lc:=[]) (fun Fr w hF hw hS=>Rep.EN Fr w okr (((hS.at_ 8 Z).sep).at_ k hcp)) Z Z ?_)
 rintro _ _ ⟨ma,mc,rfl,rfl⟩
 refine VO.bJ 0 Z (ba.rl aU ma mc r.ch.ms cn) ?_
 rintro⟨ra,rc,rb,rcs,rxs⟩ ⟨rok,rv,rx⟩
 dsimp only at rx
 subst rx
 injection rv with e1 _ e3
 subst e1 e3
 refine ae ?_
 refine VG (VI (KW (v:=.slice ra r.ch.ms.length rc) Tryz.underlying40 Z Z (fun w=>rz (pR.look aD (t:=38) (ti:=T.t38) Z) Z Z w)) ?_)
 refine ae ?_
 by_cases k2:r.ch.ms.length=0
 ·refine VG (VY 63 true Z (DT yd) ?_)
  refine xZ ?_
  refine CX ?_
  exact⟨(da,dc),trivial,aP,by dsimp only;rw[stay (by show jh d (some r,k)=d;rw[hdN,if_pos (.inr (.inl k2))])];exact aa.tail.ah⟩
 have hml:=okr.ch.len
 have hlm:r.ch.ms[r.ch.ms.length-1]?=some r.ch.ms[r.ch.ms.length-1]:=GE yd
 generalize r.ch.ms[r.ch.ms.length-1]=lm at hlm
 have hlq:u0 r.ch.ms=lm.1:=by unfold u0;rw[v7,hlm]
 obtain⟨tb,tof,htb,hta,hrd⟩:=RL.Ok.ld (t:=aU) (k:=r.ch.ms.length-1) (x:=lm) rok hlm (cn lm)
 dsimp only at hta
 subst hta
 refine VG (VY 63 false Z (DF yd) ?_)
 refine aw ?_
 refine qD ?_
 rw[show((r.ch.ms.length:Int)-1)=((r.ch.ms.length-1:Nat):Int) by omega]
 refine VG (VI (fp (r.ch.ms.length-1) Z Z Z Z Z Z yd) ?_)
 refine ae ?_
 refine VG (VO.load Z Z ((hrd 0 Z).2 _ 0 (.int .i64 lm.1) Z Z) ?_)
 refine ae ?_
 refine VC.dH Z (fun k3=>?_) (fun k3=>CK ?_)
 ·refine CX ?_
  exact⟨(da,dc),trivial,aP,by dsimp only;rw[stay (by show jh d (some r,k)=d;rw[hdN,if_pos (.inr (.inr (.inl (by rw[hlq];exact k3))))])];exact aa.tail.ah⟩
 refine ae ?_
 refine VG (VK (Lc:=[]) (fun Fr w hF hw hS=>Oi Fr w okr (((hS.at_ 9 Z).sep).at_ k hcp)) Z Z ?_)
 rintro _ _ ⟨wq,rfl,rfl⟩
 refine PO ?_
 refine ae ?_
 refine gK ?_
 refine CP (p:=r.an.done≤(d.length:Int)) Z (fun k4=>?_) (fun k4=>CK ?_)
 ·refine CX ?_
  exact⟨(da,dc),trivial,aP,by dsimp only;rw[stay (by show jh d (some r,k)=d;rw[hdN,if_pos (.inr (.inr (.inr k4)))])];exact(aa.trans aa.tail aa.tail).ah⟩
 have hd1:=okr.an.jg
 have hd2:=okr.last
 have hd3:=okr.an.jY
 have hdE:jh d (some r,k)=d++(r.log.drop d.length).take (r.an.done.toNat-d.length):=by
  rw[hdN,if_neg (by rw[hlq];omega),List.drop_take]
 refine ae ?_
 refine VG (VK (Lc:=[]) (fun Fr w hF hw hS=>UE Fr w okr (((hS.at_ 10 Z).sep).at_ k hcp)) Z Z ?_)
 rintro _ _ ⟨lq,rfl,rfl⟩
 refine ae ?_
 refine DY ?_
 refine VG (VP Z Z f_ f_ ?_)
 refine ae ?_
 refine VC.loop (σ:=Nat×Option Addr×Nat) (fun s=>[(0,pV p),(9,.int .i64 r.an.done),(10,pV lq),(11,.int .i64 ((d.length:Int)+1+(s.1:Int))),(43,.slice (some ⟨y.nb,0,none⟩) y.nr.length y.nc),(44,.int .i64 y.nr.length),(45,.int .i64 (k:Int))])
  (fun s=>bM lq r.log::eY p ({ C with his:=H,done:=d++(r.log.drop d.length).take s.1 }:al) { y with da:=s.2.1,dc:=s.2.2 }) (fun s=>(d.length:Int)+s.1≤r.an.done) (fun s=>(r.an.done-d.length).toNat-s.1) (0,da,dc)
  f_ (SC rfl (SC rfl (SC rfl (Sub.int rfl f_ aP)))) (by dsimp only;rw[r6,bK];exact(aa.cons (aa.trans aa.tail aa.tail)).ah) ?_
 rintro⟨j,da',dc'⟩ hj
 dsimp only at hj ⊢
 refine ae ?_
 refine CP (p:=(d.length:Int)+1+j≤r.an.done) Z (fun k5=>CK ?_) (fun k5=>CX ?_)
 rotate_left
 ·have hjj:j=r.an.done.toNat-d.length:=by omega
  subst hjj
  exact⟨(da',dc'),trivial,aP,by dsimp only;rw[hsu];show dq _ _ (eY p ({ C with his:=H,done:=jh d (some r,k) }:al) _);rw[hdE];exact aa.tail.ah⟩
 have hle:r.log[d.length+j]?=some r.log[d.length+j]:=GE yd
 generalize r.log[d.length+j]=e0 at hle
 have hat:dJ r.log ((d.length:Int)+1+j)=some e0:=by
  unfold dJ
  rw[if_pos yd,←hle]
  congr 1
  omega
 have htk:d++(r.log.drop d.length).take (j+1)=(d++(r.log.drop d.length).take j) ++ [e0]:=by
  rw[jb,rZ,hle,eL]
  rfl
 have hDl:(d++(r.log.drop d.length).take j).length≤10000:=by
  rw[a_,kH,r4];omega
 generalize hDD:d++(r.log.drop d.length).take j=D at htk hDl
 refine ae ?_
 refine VG (VV (fun Fr w hF hw hS=>Lg.za Fr w (hS.at_ 0 Z) ((d.length:Int)+1+j) yd yd) Z ?_)
 rw[hat]
 refine ae ?_
 refine VG (VO.alloc Z fun eb=>?_)
 refine VG (VT (vs:=bZ e0) (cs':=bZ e0) 0 Z Z Z Z (NR _) Z Z Z ?_)
 refine ae ?_
 refine mz ?_
 refine CD (ts 0 6 (.only 6 (.only 7 (ts 8 2 (.only 10 .nil))))) ym yr ?_
 refine jt ?_
 refine AG (VA.dQ 0 (bZ e0) Z Z Z Z Z ?_)
 refine AG (AO (aQ.buildSlice (n:=1) (pv:=[(0,.agg (bZ e0).toArray)]) (cells:=bZ e0) rfl rfl rfl rfl yo (ji rfl rfl rfl)) rfl (fun v L' g=>by obtain⟨nb,rfl,rfl⟩:=g;exact(by(try refine Pd.st ?_);(repeat(first|exact Pd.nil|exact Pd.fnil|refine Pd.inner ?_|refine Pd.skip yr ?_|refine zf (zo 0 rfl rfl) ?_|refine zf (zo 1 rfl rfl) ?_|refine zf (zo 2 rfl rfl) ?_|refine zf (zo 3 rfl rfl) ?_|refine zf (zm 0 rfl rfl) ?_|refine zf (zm 1 rfl rfl) ?_|refine zf (zm 2 rfl rfl) ?_|refine zf (zm 3 rfl rfl) ?_|refine zf (ax.aC (ax.many 1 rfl rfl) rfl) ?_|refine zf ((ax.many 1 rfl rfl)) ?_|refine zc (zo 0 rfl rfl) ?_|refine zc (zo 1 rfl rfl) ?_|refine zc (zo 2 rfl rfl) ?_|refine zc (zo 3 rfl rfl) ?_|refine zc (zm 0 rfl rfl) ?_|refine zc (zm 1 rfl rfl) ?_|refine zc (zm 2 rfl rfl) ?_|refine zc (zm 3 rfl rfl) ?_|refine zc (ax.aC (ax.many 1 rfl rfl) rfl) ?_|refine zc ((ax.many 1 rfl rfl)) ?_)))) ?_)
 rintro _ _ ⟨nb,rfl,rfl⟩
 refine AG (AO (aQ.append (m:=1) (news:=bZ e0) 10 rfl rfl rfl rfl rfl rfl rfl (fv.pt 0 rfl rfl rfl) rfl (wP (k:=20000) f_ yo) f_) rfl (fun v L' g=>by obtain⟨a2,c2,rfl,hc2,rfl⟩:=g;exact(by(try refine Pd.st ?_);(repeat(first|exact Pd.nil|exact Pd.fnil|refine Pd.inner ?_|refine Pd.skip yr ?_|refine zf (zo 0 rfl rfl) ?_|refine zf (zo 1 rfl rfl) ?_|refine zf (zo 2 rfl rfl) ?_|refine zf (zo 3 rfl rfl) ?_|refine zf (zo 4 rfl rfl) ?_|refine zf (zm 0 rfl rfl) ?_|refine zf (zm 1 rfl rfl) ?_|refine zf (zm 2 rfl rfl) ?_|refine zf (zm 3 rfl rfl) ?_|refine zf (zm 4 rfl rfl) ?_|refine zf (ax.aC (ax.many 2 rfl rfl) rfl) ?_|refine zf ((ax.many 2 rfl rfl)) ?_|refine zc (zo 0 rfl rfl) ?_|refine zc (zo 1 rfl rfl) ?_|refine zc (zo 2 rfl rfl) ?_|refine zc (zo 3 rfl rfl) ?_|refine zc (zo 4 rfl rfl) ?_|refine zc (zm 0 rfl rfl) ?_|refine zc (zm 1 rfl rfl) ?_|refine zc (zm 2 rfl rfl) ?_|refine zc (zm 3 rfl rfl) ?_|refine zc (zm 4 rfl rfl) ?_|refine zc (ax.aC (ax.many 2 rfl rfl) rfl) ?_|refine zc ((ax.many 2 rfl rfl)) ?_)))) ?_)
 rintro _ _ ⟨a2,c2,rfl,hc2,rfl⟩
 refine rN ?_
 refine AG (VA.st 4 (cs':=je ({ C with his:=H,done:=D ++ [e0] }:al) { y with da:=a2,dc:=c2 }) Z Z Z Z Z (by show 18<19;omega) (by unfold je;dsimp only;rw[a_];rfl) Z (by(try refine Pd.st ?_);(repeat(first|exact Pd.nil|exact Pd.fnil|refine Pd.inner ?_|refine Pd.skip yr ?_|refine zf (zo 0 Z Z) ?_|refine zf (zo 1 Z Z) ?_|refine zf (zo 2 Z Z) ?_|refine zf (zo 3 Z Z) ?_|refine zf (zo 4 Z Z) ?_|refine zf (zm 0 Z Z) ?_|refine zf (zm 1 Z Z) ?_|refine zf (zm 2 Z Z) ?_|refine zf (zm 3 Z Z) ?_|refine zf (zm 4 Z Z) ?_|refine zf (ax.aC (ax.many 2 Z Z) Z) ?_|refine zf ((ax.many 2 Z Z)) ?_|refine zc (zo 0 Z Z) ?_|refine zc (zo 1 Z Z) ?_|refine zc (zo 2 Z Z) ?_|refine zc (zo 3 Z Z) ?_|refine zc (zo 4 Z Z) ?_|refine zc (zm 0 Z Z) ?_|refine zc (zm 1 Z Z) ?_|refine zc (zm 2 Z Z) ?_|refine zc (zm 3 Z Z) ?_|refine zc (zm 4 Z Z) ?_|refine zc (ax.aC (ax.many 2 Z Z) Z) ?_|refine zc ((ax.many 2 Z Z)) ?_))) ?_)
 refine dp ?_
 refine fL ?_
 refine⟨(j+1,a2,c2),by dsimp only;omega,by dsimp only;omega,SC Z (SC Z (SC Z (Sub.int Z yd aP))),?_⟩
 dsimp only
 rw[htk]
 refine aa.ah ?_
 refine IP 3 Z (IP 3 Z (IP 3 Z (IP 3 Z (IP 3 Z (IP 3 Z (IP 3 Z (IP 3 Z ?_)))))))
 rw[jU,a_]
 exact(bm [0,2,2])
end
end Cl
namespace Cl
open Go Vg T Api Ch Rep Conf Lg Rd
attribute [local irreducible] VO VC VA
theorem vw(C:al){s:cB}(h:s.kind=1):C.step s=C.call s:=by
 unfold al.step
 rw[if_pos h]
theorem vz(C:al){s:cB}(h:s.kind=2):C.step s=match C.node s.a with
  | none=>(C,C.jr s.a)
  | some r=>((C.setNode s.a (some (dx r C.now).1)).post s.a (ek (dx r C.now).2),0):=by
 unfold al.step
 rw[if_neg cN,if_pos h]<;>rfl
theorem vA(C:al){s:cB}(h:s.kind=3):C.step s=(C.tick,0):=by
 unfold al.step
 rw[if_neg cN,if_neg cN,if_pos h]
theorem ur(C:al){s:cB}(h:s.kind=4):C.step s=C.fj (s.a,s.b) s.c:=by
 unfold al.step
 rw[if_neg cN,if_neg cN,if_neg cN,if_pos h]
theorem vB(C:al){s:cB}(h:s.kind=5):C.step s=({ C with aB:=(C.aB.drop (s.a,s.b) s.c).1 },(C.aB.drop (s.a,s.b) s.c).2):=by
 unfold al.step
 rw[if_neg cN,if_neg cN,if_neg cN,if_neg cN,if_pos h]
theorem vC(C:al){s:cB}(h:s.kind=6):C.step s=({ C with aB:=(C.aB.double (s.a,s.b) s.c).1 },(C.aB.double (s.a,s.b) s.c).2):=by
 unfold al.step
 rw[if_neg cN,if_neg cN,if_neg cN,if_neg cN,if_neg cN,if_pos h]
theorem vD(C:al){s:cB}(h:s.kind=7):C.step s=if C.jr s.a≠0 then (C,C.jr s.a) else (C.setNode s.a none,0):=by
 unfold al.step
 rw[if_neg cN,if_neg cN,if_neg cN,if_neg cN,if_neg cN,if_neg cN,if_pos h]
theorem vE(C:al){s:cB}(h:s.kind=8):C.step s=(({ C with au:=(C.au.eQ s.a).1 }:al).post 16 (C.au.eQ s.a).2.1,(C.au.eQ s.a).2.2):=by
 unfold al.step
 rw[if_neg cN,if_neg cN,if_neg cN,if_neg cN,if_neg cN,if_neg cN,if_neg cN,if_pos h]
theorem vF(C:al){s:cB}(h:s.kind=9):C.step s=C.join s.a:=by
 unfold al.step
 rw[if_neg cN,if_neg cN,if_neg cN,if_neg cN,if_neg cN,if_neg cN,if_neg cN,if_neg cN,if_pos h]
theorem vx(C:al){s:cB}(h:s.kind=10):C.step s=(({ C with au:=(C.au.drain s.a).1 }:al).post 16 (C.au.drain s.a).2.1,(C.au.drain s.a).2.2):=by
 unfold al.step
 rw[if_neg cN,if_neg cN,if_neg cN,if_neg cN,if_neg cN,if_neg cN,if_neg cN,if_neg cN,if_neg cN,if_pos h]
theorem vy(C:al){s:cB}(h:s.kind=11):C.step s=(({ C with au:=(C.au.tick C.now).1 }:al).post 16 (C.au.tick C.now).2,0):=by
 unfold al.step
 rw[if_neg cN,if_neg cN,if_neg cN,if_neg cN,if_neg cN,if_neg cN,if_neg cN,if_neg cN,if_neg cN,if_neg cN,if_pos h]
theorem vG(C:al){s:cB}(h:∀k:Nat,1≤k→k≤11→s.kind≠k):C.step s=(C,2):=by
 unfold al.step
 rw[if_neg (show ¬s.kind=1 from h 1 yo yo),if_neg (show ¬s.kind=2 from h 2 yo yo),if_neg (show ¬s.kind=3 from h 3 yo yo),if_neg (show ¬s.kind=4 from h 4 yo yo),if_neg (show ¬s.kind=5 from h 5 yo yo),if_neg (show ¬s.kind=6 from h 6 yo yo),if_neg (show ¬s.kind=7 from h 7 yo yo),if_neg (show ¬s.kind=8 from h 8 yo yo),if_neg (show ¬s.kind=9 from h 9 yo yo),if_neg (show ¬s.kind=10 from h 10 yo yo),if_neg (show ¬s.kind=11 from h 11 yo yo)]
theorem Dq{C:al}{n:Int}(h:C.jr n=0):∃(k:Nat) (r:av),n=k∧C.nodes[k]?=some (some r)∧C.node n=some r:=by
 unfold al.jr at h
 split at h
 ·cases h
 ·rename_i h1
  split at h
  ·cases h
  ·rename_i h2
   cases hn:C.node n with
   | none=>rw[hn] at h2;exact absurd rfl h2
   | some r=>
    refine⟨n.toNat,r,by omega,?_,Z⟩
    unfold al.node at hn
    rw[if_neg yd] at hn
    cases hx:C.nodes[n.toNat]? with
    | none=>rw[hx] at hn;cases hn
    | some x=>rw[hx] at hn;obtain rfl:x=some r:=hn;rfl
theorem N5{C:al}{n:Int}(h:C.jr n≠0):C.node n=none:=by
 unfold al.jr at h
 split at h
 ·rename_i h1
  unfold al.node
  split
  ·rfl
  ·rw[lO yd];rfl
 ·split at h
  ·rename_i h2
   cases hn:C.node n with
   | none=>rfl
   | some r=>rw[hn] at h2;cases h2
  ·exact absurd Z h
section
variable {p:Nat} {C:al} {y:fV} {b e:Nat}
theorem F_(fit:fM C y){k:Nat}{r:av}(h:C.nodes[k]?=some (some r)):∃q,y.nr[k]?=some (some (q,r)):=by
 rw[←fit.nr,eh] at h
 cases hz:y.nr[k]? with
 | none=>rw[hz] at h;cases h
 | some z=>
  rw[hz] at h
  cases z with
  | none=>cases h
  | some z=>cases h;exact⟨z.1,rfl⟩
theorem RZ(fit:fM C y){k:Nat}(hk:k<y.nr.length){R:List HP}:aa ([pt p (je C y) sr,lG y.qa y.qc C.cP.qs,cJ y.mp C.au,pt y.nb (flat jm (y.nr.set k none)++y.nx) rE,pt y.cb (flat nh y.cr++y.cx) ss,de y.lp C.aB,jz y.hp C.his,aA gN 7 y.da C.done.length y.dc (flat bZ C.done),cR (y.nr.map ka),cR (y.cr.map oK)]++R) [cV p (C.setNode k none)]:=by
 have hz:y.nr[k]?=some y.nr[k]:=GE hk
 have e1:=F8 (C:=C) (y:=y) (k:=k) (x:=none) (C.setNode k none) rfl rfl rfl
 refine aa.trans (aa.app (M:=_) (M':=[]) (IP 8 Z aa.refl) aa.nil) ?_
 refine aa.trans (aa.of_eq (bK _)) ?_
 refine aa.trans (Cp (f:=ka) hz) ?_
 refine aa.trans aa.tail ?_
 refine aa.trans (M:=ka none::cR ((y.nr.eraseIdx k).map ka)::_) (aa.pure trivial aa.refl) ?_
 refine aa.trans (Co (f:=ka) hk none) ?_
 refine aa.sn (K:=[]) (y.node k none) ⟨by show(y.nr.set k none).map _=C.nodes.set k none;rw[iZ,fit.nr];rfl,fit.cr,fit.qc⟩ ?_
 unfold eY
 rw[e1]
 exact(bm [1,1,1,1,1,1,1,1,0,0])
theorem abR(ok:C.Ok b e)(hb:b<100000)(he:e<1000000)(s:cB):az Tryz.prog 25 [.pointer (some ⟨p,0,none⟩),.agg s.cells.toArray] Fr w [cV p C]
  (fun v L=>v=.int .i64 (C.step s).2∧L=[cV p (C.step s).1]):=by
 refine TF 151 Tryz.func25 Z ym aD Z Z ?_
 refine CS (CG (VG (VB (vs:=s.cells) Z fun sb=>?_)))
 have bJ:∀{c:Code} {e:Env} {Q:Exit→Env→List HP→Prop},(∀y,fM C y→VC ⟨Tryz.prog,tab,aD,151,Fr,w⟩ c e (pt sb s.cells jy::eY p C y) Q)→VC ⟨Tryz.prog,tab,aD,151,Fr,w⟩ c e [pt sb s.cells jy,cV p C] Q:=fun h=>by
  refine VC.bJ 1 Z (ba.sn p C) ?_
  rintro y fit
  exact CN (IP 10 Z aa.refl).ah (h y fit)
 refine aj ?_
 refine CP (p:=s.kind=1) Z (fun h=>?_) (fun h1=>?_)
 ·have hr:=vw C h
  refine ae ?_
  refine VG (VL 0 s.cells Z Z Z Z ?_)
  refine VG (VQ 1 Z (fun Fr w hF hs hS=>abE Fr w ok hb he s) Z (ψ:=fun v H=>v=.int .i64 (C.call s).2∧H=cV p (C.call s).1) yy ?_)
  rintro _ _ ⟨rfl,rfl⟩
  refine ae ?_
  exact CR (aq.tmp 4 Z Z (aa.tail (H:=pt sb _ jy) (L:=[cV p (C.call s).1])).ah ⟨by rw[hr],by rw[hr]⟩)
 refine ae ?_
 refine CP (p:=s.kind=2) Z (fun h=>?_) (fun h2=>?_)
 ·have hr:=vz C h
  refine bJ fun y fit=>?_
  refine aj ?_
  refine PR ?_
  refine ae ?_
  refine VC.dH Z (fun k1=>?_) (fun k1=>CK ?_)
  ·rw[N5 k1] at hr
   refine ae ?_
   exact PS
  obtain⟨k,r,hk,hkr,hnr⟩:=Dq (C:=C) (n:=s.a) s_
  obtain⟨q,hx⟩:=F_ fit hkr
  have hkl:=(bY.1 hx).1
  have hm:some r∈C.nodes:=ME hkr
  have okr:=(ok.fit r hm).ok
  have fw:fH (ek (dx r C.now).2):=fH.of (X8 okr C.now)
  rw[hnr] at hr
  dsimp only at hr
  obtain⟨kd,sa,sx,sc,op⟩:=s
  dsimp only at hk hr k1
  subst hk
  refine CN (L':=pt sb (⟨kd,k,sx,sc,op⟩:cB).cells jy::bp q r::tM p C y k C.aB) (aa.cons (Ga hx)).ah ?_
  refine CD (ts 0 15 (.only 15 (.only 16 .nil))) ym yr ?_
  refine jt ?_
  refine AG (AI Z (fp k Z Z Z Z Z Z hkl) ?_)
  refine AG (yE Z Z Z (ax.one 5 Z (ru hx)) ?_)
  refine jt ?_
  refine AG (AQ 1 Z (fun Fr w hF hs hS=>ab4 Fr w okr C.now) Z Z oY ?_ ?_)
  ·rintro _ _ ⟨X,a,c,hX,rfl,rfl⟩
   exact Qr
  rintro _ _ ⟨X,a,c,hX,rfl,rfl⟩
  refine AG (AQ 7 Z (fun Fr w hF hs hS=>pD Fr w (hS.aC 2 Z) ok.aB k (mG.at_ 1 hS Z hX fw)) Z Z (ψ:=fun v H=>v=.tuple #[]∧H=de y.lp (bD k C.aB (X.map Prod.fst))) yy ?_ ?_)
  ·rintro _ _ ⟨rfl,rfl⟩
   exact Qr
  rintro _ _ ⟨rfl,rfl⟩
  rw[hX]
  refine oC ?_
  exact CR (aq.tmp 4 Z Z (aa.trans (aa.tail (H:=pt sb _ jy)) (Mg (p:=p) (r':=(dx r C.now).1) (l:=bD k C.aB (ek (dx r C.now).2)) (a:=a) (c:=c) (X:=X) (R:=[]) fit hx)).ah ⟨by rw[hr],by rw[hr];rfl⟩)
 refine ae ?_
 refine CP (p:=s.kind=3) Z (fun h=>?_) (fun h3=>?_)
 ·have hr:=vA C h
  refine ae ?_
  refine VG (VQ 1 Z (fun Fr w hF hs hS=>abT Fr w ok) Z (ψ:=fun v H=>v=.tuple #[]∧H=cV p C.tick) yy ?_)
  rintro _ _ ⟨rfl,rfl⟩
  refine ae ?_
  exact CR (aq.tmp 4 Z Z (aa.tail (H:=pt sb _ jy) (L:=[cV p C.tick])).ah ⟨by rw[hr],by rw[hr]⟩)
 refine ae ?_
 refine CP (p:=s.kind=11) Z (fun h=>?_) (fun h11=>?_)
 ·have hr:=vy C h
  refine bJ fun y fit=>?_
  refine Iq ?_
  have fw:=ok.au.AL C.now
  refine CD (ts 0 9 (.only 9 (.only 10 .nil))) ym yr ?_
  refine jt ?_
  refine AG (AQ 1 Z (fun Fr w hF hs hS=>ab2 Fr w ok.au C.now) Z Z oY ?_ ?_)
  ·rintro _ _ ⟨X,a,c,hX,rfl,rfl⟩
   exact yu
  rintro _ _ ⟨X,a,c,hX,rfl,rfl⟩
  refine AG (AQ 6 Z (fun Fr w hF hs hS=>pD Fr w (hS.aC 2 Z) ok.aB 16 (mG.at_ 1 hS Z hX fw)) Z Z (ψ:=fun v H=>v=.tuple #[]∧H=de y.lp (bD 16 C.aB (X.map Prod.fst))) yy ?_ ?_)
  ·rintro _ _ ⟨rfl,rfl⟩
   exact yu
  rintro _ _ ⟨rfl,rfl⟩
  rw[hX]
  refine oC ?_
  exact CR (aq.tmp 4 Z Z (aa.trans (aa.tail (H:=pt sb _ jy)) (w_ (p:=p) (C:=C) (m:=(C.au.tick C.now).1) (l:=bD 16 C.aB (C.au.tick C.now).2) (a:=a) (c:=c) (X:=X) (R:=[]) fit)).ah ⟨by rw[hr],by rw[hr];rfl⟩)
 refine ae ?_
 refine CP (p:=s.kind=4) Z (fun h=>?_) (fun h4=>?_)
 ·have hr:=ur C h
  refine aj ?_
  refine VG (VQ 1 Z (fun Fr w hF hs hS=>abG Fr w ok yd s.a s.b s.c) Z (ψ:=fun v H=>v=.int .i64 (C.fj (s.a,s.b) s.c).2∧H=cV p (C.fj (s.a,s.b) s.c).1) yy ?_)
  rintro _ _ ⟨rfl,rfl⟩
  refine ae ?_
  exact CR (aq.tmp 4 Z Z (aa.tail (H:=pt sb _ jy) (L:=[cV p (C.fj (s.a,s.b) s.c).1])).ah ⟨by rw[hr],by rw[hr]⟩)
 refine ae ?_
 refine CP (p:=s.kind=5) Z (fun h=>?_) (fun h5=>?_)
 ·have hr:=vB C h
  refine bJ fun y fit=>?_
  refine ae ?_
  refine Ir ?_
  refine fK ?_
  refine AG (AQ 6 Z (fun Fr w hF hs hS=>Ul Fr w ok.aB s.a s.b s.c) Z Z (ψ:=fun v H=>v=.int .i64 (C.aB.drop (s.a,s.b) s.c).2∧H=de y.lp (C.aB.drop (s.a,s.b) s.c).1) yy ?_ ?_)
  ·rintro _ _ ⟨rfl,rfl⟩
   exact yu
  rintro _ _ ⟨rfl,rfl⟩
  refine fK ?_
  refine ae ?_
  exact CR (aq.tmp 4 Z Z (aa.trans (aa.tail (H:=pt sb _ jy)) (nZ (p:=p) (C:=({ C with aB:=(C.aB.drop (s.a,s.b) s.c).1 }:al)) (y:=y) (R:=[]) ⟨fit.nr,fit.cr,fit.qc⟩)).ah ⟨by rw[hr],by rw[hr]⟩)
 refine ae ?_
 refine CP (p:=s.kind=6) Z (fun h=>?_) (fun h6=>?_)
 ·have hr:=vC C h
  refine bJ fun y fit=>?_
  refine ae ?_
  refine Ir ?_
  refine fK ?_
  refine AG (AQ 6 Z (fun Fr w hF hs hS=>Uk Fr w ok.aB s.a s.b s.c) Z Z (ψ:=fun v H=>v=.int .i64 (C.aB.double (s.a,s.b) s.c).2∧H=de y.lp (C.aB.double (s.a,s.b) s.c).1) yy ?_ ?_)
  ·rintro _ _ ⟨rfl,rfl⟩
   exact yu
  rintro _ _ ⟨rfl,rfl⟩
  refine fK ?_
  refine ae ?_
  exact CR (aq.tmp 4 Z Z (aa.trans (aa.tail (H:=pt sb _ jy)) (nZ (p:=p) (C:=({ C with aB:=(C.aB.double (s.a,s.b) s.c).1 }:al)) (y:=y) (R:=[]) ⟨fit.nr,fit.cr,fit.qc⟩)).ah ⟨by rw[hr],by rw[hr]⟩)
 refine ae ?_
 refine CP (p:=s.kind=7) Z (fun h=>?_) (fun h7=>?_)
 ·have hr:=vD C h
  refine bJ fun y fit=>?_
  refine aj ?_
  refine PR ?_
  refine ae ?_
  refine VC.dH Z (fun k1=>?_) (fun k1=>CK ?_)
  ·rw[if_pos k1] at hr
   refine ae ?_
   exact PS
  rw[if_neg (fun g=>g s_)] at hr
  obtain⟨k,r,hk,hkr,hnr⟩:=Dq (C:=C) (n:=s.a) s_
  obtain⟨q,hx⟩:=F_ fit hkr
  have hkl:=(bY.1 hx).1
  obtain⟨kd,sa,sx,sc,op⟩:=s
  dsimp only at hk hr k1
  subst hk
  refine CD (ts 0 7 (.only 7 .nil)) ym yr ?_
  refine fK ?_
  refine AG (AI Z (fp k Z Z Z Z Z Z hkl) ?_)
  refine AG (VA.st 4 (cs':=flat jm (y.nr.set k none)++y.nx) Z Z Z Z Z Qo (Mc none hkl y.nx) Z yu ?_)
  refine oC ?_
  exact CR (aq.tmp 4 Z Z (aa.trans (aa.tail (H:=pt sb _ jy)) (RZ (p:=p) (C:=C) (R:=[]) fit hkl)).ah ⟨by rw[hr],by rw[hr]⟩)
 refine ae ?_
 refine CP (p:=s.kind=8) Z (fun h=>?_) (fun h8=>?_)
 ·have hr:=vE C h
  refine bJ fun y fit=>?_
  refine Iq ?_
  have fw:=(ok.au.NF s.a).1
  refine ae ?_
  refine CD (ts 0 6 (.only 6 (ts 7 5 .nil))) ym yr ?_
  refine jt ?_
  refine AG (AQ 1 Z (fun Fr w hF hs hS=>ab5 Fr w ok.au s.a) Z Z oY ?_ ?_)
  ·rintro _ _ ⟨X,a,c,hX,rfl,rfl⟩
   exact yu
  rintro _ _ ⟨X,a,c,hX,rfl,rfl⟩
  refine jt ?_
  refine ae ?_
  refine PT ?_
  rintro _ _ ⟨rfl,rfl⟩
  rw[hX]
  refine ae ?_
  exact CR (aq.tmp 4 Z Z (aa.trans (aa.tail (H:=pt sb _ jy)) (w_ (p:=p) (C:=C) (m:=(C.au.eQ s.a).1) (l:=bD 16 C.aB (C.au.eQ s.a).2.1) (a:=a) (c:=c) (X:=X) (R:=[]) fit)).ah ⟨by rw[hr],by rw[hr];rfl⟩)
 refine ae ?_
 refine CP (p:=s.kind=9) Z (fun h=>?_) (fun h9=>?_)
 ·have hr:=vF C h
  refine aj ?_
  refine VG (VQ 1 Z (fun Fr w hF hs hS=>abH Fr w ok yd s.a) Z (ψ:=fun v H=>v=.int .i64 (C.join s.a).2∧H=cV p (C.join s.a).1) yy ?_)
  rintro _ _ ⟨rfl,rfl⟩
  refine ae ?_
  exact CR (aq.tmp 4 Z Z (aa.tail (H:=pt sb _ jy) (L:=[cV p (C.join s.a).1])).ah ⟨by rw[hr],by rw[hr]⟩)
 refine ae ?_
 refine CP (p:=s.kind=10) Z (fun h=>?_) (fun h10=>?_)
 ·have hr:=vx C h
  refine bJ fun y fit=>?_
  refine Iq ?_
  have fw:=(ok.au.J_ s.a).1
  refine ae ?_
  refine CD (ts 0 6 (.only 6 (ts 7 5 .nil))) ym yr ?_
  refine jt ?_
  refine AG (AQ 1 Z (fun Fr w hF hs hS=>abY Fr w ok.au s.a) Z Z oY ?_ ?_)
  ·rintro _ _ ⟨X,a,c,hX,rfl,rfl⟩
   exact yu
  rintro _ _ ⟨X,a,c,hX,rfl,rfl⟩
  refine jt ?_
  refine ae ?_
  refine PT ?_
  rintro _ _ ⟨rfl,rfl⟩
  rw[hX]
  refine ae ?_
  exact CR (aq.tmp 4 Z Z (aa.trans (aa.tail (H:=pt sb _ jy)) (w_ (p:=p) (C:=C) (m:=(C.au.drain s.a).1) (l:=bD 16 C.aB (C.au.drain s.a).2.1) (a:=a) (c:=c) (X:=X) (R:=[]) fit)).ah ⟨by rw[hr],by rw[hr];rfl⟩)
 refine ae ?_
 have hr:=vG C (s:=s) (fun k k1 k2=>by
  rcases(by omega:k=1∨k=2∨k=3∨k=4∨k=5∨k=6∨k=7∨k=8∨k=9∨k=10∨k=11) with rfl | rfl | rfl | rfl | rfl | rfl | rfl | rfl | rfl | rfl | rfl<;>assumption)
 exact CR (aq.tmp 4 Z Z aa.tail.ah ⟨by rw[hr],by rw[hr]⟩)
end
end Cl
namespace Cl
open Go Vg T Api Ch Rep Conf Lg Rd
attribute [local irreducible] VO VC VA
section
variable {p:Nat} {C:al} {y:fV} {b e:Nat}
theorem UL(h:a8 Fr [cV p C] w):az Tryz.prog 24 [.pointer (some ⟨p,0,none⟩)] Fr w [] (fun v L=>v=.bool true∧L=[]):=by
 obtain⟨y,fit,hy⟩:=wG h
 exact NZ Fr w (hy.aC 0 Z)
theorem NY(ok:C.Ok b e)(hb:b<100000)(he:e<900000)(s:cB):az Tryz.prog 8 [.pointer (some ⟨p,0,none⟩),.agg s.cells.toArray] Fr w [cV p C]
  (fun v L=>v=.int .i64 (C.bf s).2∧L=[cV p (C.bf s).1]):=by
 have ok2:=ok.step hb yd s
 refine TF 15 Tryz.func8 Z ym aD Z Z ?_
 refine CS (CG (VG (VB (vs:=s.cells) Z fun sb=>?_)))
 refine ae ?_
 refine VG (VV (fun Fr w hF hw hS=>UL Fr w (hS.at_ 1 Z)) Z ?_)
 refine pK ?_
 refine VG (VL 0 s.cells Z Z Z Z ?_)
 refine VG (VQ 1 Z (fun Fr w hF hs hS=>abR Fr w ok hb yd s) Z (ψ:=fun v H=>v=.int .i64 (C.step s).2∧H=cV p (C.step s).1) yy ?_)
 rintro _ _ ⟨rfl,rfl⟩
 refine ae ?_
 refine VG (VQ 1 Z (fun Fr w hF hs hS=>abD Fr w ok2 yd) Z (ψ:=fun v H=>v=.tuple #[]∧H=cV p (C.step s).1.behind) yy ?_)
 rintro _ _ ⟨rfl,rfl⟩
 refine ae ?_
 exact CR (aq.tmp 4 Z Z (aa.tail (H:=pt sb _ jy) (L:=[cV p (C.bf s).1])).ah ⟨rfl,Z⟩)
theorem Hl(h:a8 Fr [cV p C] w):az Tryz.prog 11 [.pointer (some ⟨p,0,none⟩)] Fr w [] (fun v L=>v=.int .i64 C.now∧L=[]):=by
 obtain⟨y,fit,hy⟩:=wG h
 have hb:=hy.aC 0 rfl
 refine TF 10 Tryz.func11 Z ym aD Z Z ?_
 refine aw ?_
 refine Bf ?_
 refine kh ?_
 refine sZ ?_
 exact mB
theorem Hj(hb:bu Fr w p (je C y)):az Tryz.prog 9 [.pointer (some ⟨p,0,none⟩)] Fr w [] (fun v L=>v=.pointer (some ⟨y.mp,0,none⟩)∧L=[]):=by
 refine TF 10 Tryz.func9 Z ym aD Z Z ?_
 refine aw ?_
 refine Bf ?_
 refine kh ?_
 refine sZ ?_
 exact mB
theorem K6{Fr:Nat→Prop}{w:World}{q:Nat}{S:aT}(h:a8 Fr [de q S] w):∃b X,iR X=S.aX∧a8 Fr (zW q S b X) w:=by
 obtain⟨⟨b,X⟩,hx⟩:=h.ex
 have hs:=hx.sep
 exact⟨b,X,hs.pure 0 Z,hs.tail⟩
theorem abI(ok:C.aB.Ok)(hb:bu Fr w p (je C y))(hl:a8 Fr [de y.lp C.aB] w):az Tryz.prog 13 [.pointer (some ⟨p,0,none⟩)] Fr w [] (fun v L=>∃q m,m.Perm C.aB.aX∧v=.pointer (some ⟨q,0,none⟩)∧L=[de q ⟨C.aB.cap,m⟩]):=by
 obtain⟨lb,X,hX,hs⟩:=K6 hl
 have h1:=hs.aC 0 rfl
 have h2:=hs.Aa 1 rfl
 have h3:=FO (A:=[_,_]) hs
 refine TF 11 Tryz.func13 Z ym aD Z Z ?_
 refine aw ?_
 refine Bf ?_
 refine kh ?_
 refine sZ ?_
 refine VG (VK (Lc:=[]) (fun Fr w hF hw _=>Uj Fr w ok (h1.of hF hw) ⟨hF _ h2.fr,h2.at_.loc (hw.cS.block _ h2.fr)⟩ (fun z hz=>(h3 z hz).of hF hw) hX) Z Z ?_)
 rintro _ _ ⟨q,m,hm,rfl,rfl⟩
 refine aw ?_
 exact CR (aq.tmp 2 Z Z ER ⟨q,m,hm,Z,Z⟩)
theorem N3(fit:fM C y)(hb:bu Fr w p (je C y))(hr:bu Fr w y.nb (flat jm y.nr++y.nx)){n:Int}:az Tryz.prog 39 [.pointer (some ⟨p,0,none⟩),.int .i64 n] Fr w []
  (fun v L=>(match C.node n with
   | none=>v=.pointer none
   | some r=>∃k q,n=(k:Nat)∧y.nr[k]?=some (some (q,r))∧v=.pointer (some ⟨q,0,none⟩))∧L=[]):=by
 refine TF 21 Tryz.func39 Z ym aD Z Z ?_
 refine aw ?_
 refine Bf ?_
 refine aw ?_
 refine xN ?_
 refine aw ?_
 refine VG (VV (fun Fr w hF hs _=>Dr Fr w fit (hb.of hF hs) (hr.of hF hs) n) Z ?_)
 refine aw ?_
 refine VC.dH Z (fun k1=>?_) (fun k1=>CK ?_)
 ·refine aw ?_
  exact CR (aq.tmp 4 Z Z ER ⟨by rw[N5 k1],Z⟩)
 obtain⟨k,r,rfl,hkr,hnr⟩:=Dq (C:=C) (n:=n) s_
 obtain⟨q,hx⟩:=F_ fit hkr
 have hkl:=(bY.1 hx).1
 refine sZ ?_
 refine DZ ?_
 refine VG (VO.load Z Z (ax.aC hr (ru hx)) ?_)
 refine aw ?_
 exact CR (aq.tmp 4 Z Z ER ⟨by rw[hnr];exact⟨k,q,Z,hx,Z⟩,Z⟩)
end
section
variable {u:Value}
end
end Cl
namespace Cl
open Go Vg T Api Ch Rep Conf Lg Rd Sched
attribute [local irreducible] VO VC VA
theorem TT{X:Cx}{L:List HP}{a:Option Addr}{cap:Nat}{qs:List Int}(hq:iD X.Fr X.w0 a qs)(hne:qs≠[]):fv X L (.slice a qs.length cap) 1 qs.length (eD qs):=by
 obtain⟨b,off,rfl,h2,h3⟩:=hq.at_ hne
 refine⟨by simp[eD],.inr ⟨b,off,cap,Z,fun w' hw' j v hv=>?_⟩⟩
 rw[eD,eh] at hv
 cases hj:qs[j]? with
 | none=>rw[hj] at hv;cases hv
 | some x=>
  rw[hj] at hv
  obtain rfl:=oF hv
  exact EK (hw'.cS.block b h2) (h3 j x hj)
theorem Lm{α:Type}{f:α→HP}{l:List α}{x:α}{A:List HP}:aa (f x::cR (l.map f)::A) (cR ((l ++ [x]).map f)::A):=by
 refine aa.sep (aa.trans (M:=cR (l.map f)::f x::A) (aa.perm (.swap _ _ _)) (aa.Dn (aa.of_eq ?_)))
 simp
abbrev zl:TypeId:=24
def tK(c:bh)(qa:Option Addr)(qc m:Nat)(nv cv lv:Value)(h:Nat):List Value:=c.cells qa qc ++ [.int .i64 0,.pointer (some ⟨m,0,none⟩),nv,cv,lv,.pointer (some ⟨h,0,none⟩),.slice none 0 0]
theorem N2(c:bh){qa:Option Addr}{qc:Nat}(hq:iD Fr w qa c.qs)(hqc:c.qs.length≤qc):
  az Tryz.prog 6 [.agg (c.cells qa qc).toArray] Fr w [] (fun v L=>if c=bI c then ∃p,v=.tuple #[.pointer (some ⟨p,0,none⟩),.int .i64 0]∧L=[cV p (mO c)] else v=.tuple #[.pointer none,.int .i64 2]∧L=[]):=by
 refine TF 83 Tryz.func6 Z ym aD Z Z ?_
 refine CS (CG (VG (VB (vs:=c.cells qa qc) Z fun b1=>VG (VN ?_))))
 refine IL ?_
 refine VG (VK (Lc:=[]) (fun Fr w hF hs _=>Vf Fr w c (oh hq hF hs) trivial hqc) Z Z ?_)
 intro v L1 hv
 by_cases hf:c=bI c
 rotate_left
 ·rw[if_neg hf] at hv
  obtain⟨rfl,rfl⟩:=hv
  refine vU ?_
  exact CR (aq.dh 2 3 Z Z Z aa.nil.ah Qj)
 rw[if_pos hf] at hv
 obtain⟨m,rfl,rfl⟩:=hv
 have hb:=lX hf
 have hb2:=wH hf
 refine qG ?_
 refine dz ?_
 refine VO.ah (L':=aA 3 1 none 0 0 [] :: [cJ m (qm c),pt b1 (c.cells qa qc) zl]) (aa.dM aa.refl).ah ?_
 refine VG (VO.append (m:=c.qs.length) (news:=eD c.qs) 0 Z Z Z Z Z Z Z (TT hq (by intro h0;rw[h0] at hb2;exact absurd hb2.2.2.2.2.2.1 yo)) (by unfold eD;rw[List.all_map];exact lh.2 fun _ _=>rfl) (wP (k:=100) yd yo) yd fun qa2 qc2 hqc2=>?_)
 rw[di,nN] at *
 refine ae ?_
 refine VG (VO.st 2 (cs':=c.cells qa2 qc2) Z Z Z Z Bi Z Z ?_)
 refine lg ?_
 show VC _ _ _ [lG qa2 qc2 c.qs,cJ m (qm c),pt b1 (c.cells qa2 qc2) zl] _
 refine CS ?_
 refine CD (ts 0 2 (.only 2 (.take 3 (.only 4 (.take 5 .nil))))) ym yr ?_
 refine AG (VA.dQ 2 (c.cells qa2 qc2) Z Z Z Z Z ?_)
 refine fi ?_
 refine AG (AO (OC (Lc:=[]) rfl (.refl _) (fun Fr w _ _ _=>TO Fr w)) rfl (fun v L' g=>by obtain⟨_,⟨h,rfl,rfl⟩,rfl⟩:=g;exact(by(try refine Pd.st ?_);(repeat(first|exact Pd.nil|exact Pd.fnil|refine Pd.inner ?_|refine Pd.skip yr ?_|refine zf (zo 0 rfl rfl) ?_|refine zf (zo 1 rfl rfl) ?_|refine zf (zo 2 rfl rfl) ?_|refine zf (zo 3 rfl rfl) ?_|refine zf (zm 0 rfl rfl) ?_|refine zf (zm 1 rfl rfl) ?_|refine zf (zm 2 rfl rfl) ?_|refine zf (zm 3 rfl rfl) ?_|refine zf (ax.aC (ax.many 3 rfl rfl) rfl) ?_|refine zf ((ax.many 3 rfl rfl)) ?_|refine zc (zo 0 rfl rfl) ?_|refine zc (zo 1 rfl rfl) ?_|refine zc (zo 2 rfl rfl) ?_|refine zc (zo 3 rfl rfl) ?_|refine zc (zm 0 rfl rfl) ?_|refine zc (zm 1 rfl rfl) ?_|refine zc (zm 2 rfl rfl) ?_|refine zc (zm 3 rfl rfl) ?_|refine zc (ax.aC (ax.many 3 rfl rfl) rfl) ?_|refine zc ((ax.many 3 rfl rfl)) ?_)))) ?_)
 rintro v L' ⟨_,⟨h,rfl,rfl⟩,rfl⟩
 refine AG (AI Z (LB (pv:=[(0,.agg (c.cells qa2 qc2).toArray),(2,pV m),(6,pV h)]) (tK c qa2 qc2 m (.slice none 0 0) (.slice none 0 0) (.pointer none) h) Z Z Z ym Z) ?_)
 refine AG (AO (aQ.box (vs:=tK c qa2 qc2 m (.slice none 0 0) (.slice none 0 0) (.pointer none) h) rfl rfl) rfl (fun v L' g=>by obtain⟨p,rfl,rfl⟩:=g;exact(by(try refine Pd.st ?_);(repeat(first|exact Pd.nil|exact Pd.fnil|refine Pd.inner ?_|refine Pd.skip yr ?_|refine zf (zo 0 rfl rfl) ?_|refine zf (zo 1 rfl rfl) ?_|refine zf (zo 2 rfl rfl) ?_|refine zf (zo 3 rfl rfl) ?_|refine zf (zo 4 rfl rfl) ?_|refine zf (zm 0 rfl rfl) ?_|refine zf (zm 1 rfl rfl) ?_|refine zf (zm 2 rfl rfl) ?_|refine zf (zm 3 rfl rfl) ?_|refine zf (zm 4 rfl rfl) ?_|refine zf (ax.aC (ax.many 4 rfl rfl) rfl) ?_|refine zf ((ax.many 4 rfl rfl)) ?_|refine zc (zo 0 rfl rfl) ?_|refine zc (zo 1 rfl rfl) ?_|refine zc (zo 2 rfl rfl) ?_|refine zc (zo 3 rfl rfl) ?_|refine zc (zo 4 rfl rfl) ?_|refine zc (zm 0 rfl rfl) ?_|refine zc (zm 1 rfl rfl) ?_|refine zc (zm 2 rfl rfl) ?_|refine zc (zm 3 rfl rfl) ?_|refine zc (zm 4 rfl rfl) ?_|refine zc (ax.aC (ax.many 4 rfl rfl) rfl) ?_|refine zc ((ax.many 4 rfl rfl)) ?_)))) ?_)
 rintro v L' ⟨p,rfl,rfl⟩
 refine fi ?_
 refine oB ?_
 refine VG (VK (Lc:=[]) (fun Fr w _ _ _=>UA Fr w (n:=c.link) yd yd) Z Z ?_)
 rintro _ _ ⟨l,rfl,rfl⟩
 refine ae ?_
 refine VG (VO.st 1 (cs':=tK c qa2 qc2 m (.slice none 0 0) (.slice none 0 0) (.pointer (some ⟨l,0,none⟩)) h) Z Z Z Z (by show 16<19;omega) Z Z ?_)
 refine lg ?_
 refine CN (L':=[pt p (tK c qa2 qc2 m (.slice none 0 0) (.slice none 0 0) (.pointer (some ⟨l,0,none⟩)) h) sr,pt b1 (c.cells qa2 qc2) zl,lG qa2 qc2 c.qs,de l ⟨c.link,[]⟩,jz h ud,cJ m (qm c)]) (bm [1,4,2,0,0,0]).ah ?_
 refine ae ?_
 refine VC.loop (σ:=List lx×Option Addr×Nat) (fun s=>[(1,pV b1),(6,pV p),(7,.int .i64 s.1.length)])
  (fun s=>[pt p (tK c qa2 qc2 m (.slice s.2.1 s.1.length s.2.2) (.slice none 0 0) (.pointer (some ⟨l,0,none⟩)) h) sr,pt b1 (c.cells qa2 qc2) zl,lG qa2 qc2 c.qs,de l ⟨c.link,[]⟩,jz h ud,cJ m (qm c),aA rE 1 s.2.1 s.1.length s.2.2 (flat jm s.1),cR (s.1.map ka)])
  (fun s=>s.1.length≤c.nodes.toNat∧s.1.map (Option.map Prod.snd)=(List.range s.1.length).map fun(n:Nat)=>some (cj c n false)) (fun s=>c.nodes.toNat-s.1.length) ([],none,0)
  ⟨bU _,rfl⟩ aP (IP 0 rfl (IP 0 rfl (IP 0 rfl (IP 0 rfl (IP 0 rfl (IP 0 rfl (aa.dM (aa.sep aa.nil)))))))).ah ?_
 rintro⟨nr,na,nc⟩ ⟨hn1,hn2⟩
 dsimp only at hn1 hn2 ⊢
 refine dz ?_
 refine CP (p:=(nr.length:Int)<c.nodes) Z (fun h1=>CK ?_) (fun h1=>CX ?_)
 ·refine CS (VC.block (CS (CG ?_)))
  refine VG (VL 1 (c.cells qa2 qc2) Z Z Z Z ?_)
  refine ae ?_
  refine VG (VK (Lc:=[]) (fun Fr w hF hs hS=>Rep.lK Fr w c qa2 qc2 (uY (hS.at_ 2 Z)) trivial hqc2 nr.length false) Z Z ?_)
  rintro v L1 g
  rw[if_pos (show sG c (nr.length:Int) from⟨hf,by omega,h1⟩)] at g
  obtain⟨r,rfl,rfl⟩:=g
  refine ae ?_
  refine gK ?_
  refine VG (VO.buildSlice (n:=1) (pv:=[(0,pV r)]) [.pointer (some ⟨r,0,none⟩)] Z Z Z Z yo (ji Z Z Z) fun nb=>?_)
  refine VG (VO.append (m:=1) (news:=[.pointer (some ⟨r,0,none⟩)]) 8 Z Z Z Z Z Z Z (fv.pt 0 Z Z Z) Z (wP (k:=100) yd yo) yd fun na2 nc2 hnc=>?_)
  refine ae ?_
  refine VG (VO.st 3 (cs':=tK c qa2 qc2 m (.slice na2 (nr.length+1) nc2) (.slice none 0 0) (.pointer (some ⟨l,0,none⟩)) h) Z Z Z Z (by show 14<19;omega) Z Z ?_)
  refine fL ?_
  have hlen:(nr ++ [some (r,cj c nr.length false)]).length=nr.length+1:=by simp
  refine⟨(nr ++ [some (r,cj c nr.length false)],na2,nc2),⟨by dsimp only;omega,?_⟩,by dsimp only;omega,SC Z (SC Z (Sub.int Z f_ (SN _))),?_⟩
  ·dsimp only
   rw[hlen,v8,hU,hU,hn2];rfl
  ·dsimp only
   rw[hlen,jU]
   refine aa.ah ?_
   refine IP 3 Z (IP 3 Z (IP 3 Z (IP 3 Z (IP 3 Z (IP 3 Z (IP 0 Z ?_))))))
   exact aa.trans aa.tail (Lm (f:=ka) (x:=some (r,cj c nr.length false)))
 have hnl:nr.length=c.nodes.toNat:=by omega
 refine ae ?_
 refine VC.loop (σ:=List nQ×Option Addr×Nat) (fun s=>[(1,pV b1),(6,pV p),(10,.int .i64 s.1.length)])
  (fun s=>[pt p (tK c qa2 qc2 m (.slice na nr.length nc) (.slice s.2.1 s.1.length s.2.2) (.pointer (some ⟨l,0,none⟩)) h) sr,pt b1 (c.cells qa2 qc2) zl,lG qa2 qc2 c.qs,de l ⟨c.link,[]⟩,jz h ud,cJ m (qm c),aA rE 1 na nr.length nc (flat jm nr),cR (nr.map ka),aA ss 1 s.2.1 s.1.length s.2.2 (flat nh s.1),cR (s.1.map oK)])
  (fun s=>s.1.length≤c.bC.toNat∧s.1.map Prod.snd=(List.range s.1.length).map fun(n:Nat)=>mh c n) (fun s=>c.bC.toNat-s.1.length) ([],none,0)
  ⟨bU _,rfl⟩ aP (IP 0 rfl (IP 0 rfl (IP 0 rfl (IP 0 rfl (IP 0 rfl (IP 0 rfl (IP 0 rfl (IP 0 rfl (aa.dM (aa.sep aa.nil)))))))))).ah ?_
 rintro⟨cr,ca,cc⟩ ⟨hm1,hm2⟩
 dsimp only at hm1 hm2 ⊢
 refine dz ?_
 refine CP (p:=(cr.length:Int)<c.bC) Z (fun h1=>CK ?_) (fun h1=>CX ?_)
 ·refine CS (VC.block (CS (CG ?_)))
  refine VG (VL 1 (c.cells qa2 qc2) Z Z Z Z ?_)
  refine ae ?_
  refine VG (VK (Lc:=[]) (fun Fr w hF hs hS=>RR Fr w c (uY (hS.at_ 2 Z)) trivial hqc2 cr.length) Z Z ?_)
  rintro v L1 g
  rw[if_pos (show ql c (cr.length:Int)=0 from by unfold ql;rw[if_pos ⟨hf,by omega,h1⟩])] at g
  obtain⟨r,rfl,rfl⟩:=g
  refine ae ?_
  refine gK ?_
  refine VG (VO.buildSlice (n:=1) (pv:=[(0,pV r)]) [.pointer (some ⟨r,0,none⟩)] Z Z Z Z yo (ji Z Z Z) fun nb=>?_)
  refine VG (VO.append (m:=1) (news:=[.pointer (some ⟨r,0,none⟩)]) 10 Z Z Z Z Z Z Z (fv.pt 0 Z Z Z) Z (wP (k:=100) yd yo) yd fun ca2 cc2 hcc=>?_)
  refine ae ?_
  refine VG (VO.st 3 (cs':=tK c qa2 qc2 m (.slice na nr.length nc) (.slice ca2 (cr.length+1) cc2) (.pointer (some ⟨l,0,none⟩)) h) Z Z Z Z (by show 15<19;omega) Z Z ?_)
  refine fL ?_
  have hlen:(cr ++ [(r,mh c cr.length)]).length=cr.length+1:=by simp
  refine⟨(cr ++ [(r,mh c cr.length)],ca2,cc2),⟨by dsimp only;omega,?_⟩,by dsimp only;omega,SC Z (SC Z (Sub.int Z f_ (SN _))),?_⟩
  ·dsimp only
   rw[hlen,v8,hU,hU,hm2];rfl
  ·dsimp only
   rw[hlen,jU]
   refine aa.ah ?_
   refine IP 3 Z (IP 3 Z (IP 3 Z (IP 3 Z (IP 3 Z (IP 3 Z (IP 3 Z (IP 3 Z (IP 0 Z ?_))))))))
   exact aa.trans aa.tail (Lm (f:=oK) (x:=(r,mh c cr.length)))
 have hml:cr.length=c.bC.toNat:=by omega
 refine VC.bJ 6 Z (ba.sl rE 1 na nr.length nc (flat jm nr)) ?_
 rintro(_ | ⟨nb,nx⟩) ⟨-,-,hn⟩
 ·exact absurd hn.2.1 yd
 obtain⟨rfl,hnx⟩:=hn
 refine VC.bJ 8 Z (ba.sl ss 1 ca cr.length cc (flat nh cr)) ?_
 rintro(_ | ⟨cb,cx⟩) ⟨-,-,hc⟩
 ·exact absurd hc.2.1 yd
 obtain⟨rfl,hcx⟩:=hc
 refine ae ?_
 refine CR (aq.dh 2 3 Z Z Z (L':=[cV p (mO c)]) (aa.sn (K:=[]) ⟨qa2,qc2,m,nb,nc,nx,nr,cb,cc,cx,cr,l,h,none,0⟩ ⟨by rw[hn2,hnl];rfl,by rw[hm2,hml];rfl,hqc2⟩ ?_).ah (by rw[if_pos hf];exact⟨p,Z,Z⟩))
 exact IP 2 Z (IP 3 Z (IP 5 Z (IP 1 Z (IP 0 Z (IP 1 Z (IP 1 Z (aa.dM (bm [1,1]))))))))
end Cl
namespace Cl
open Go Vg T Api Ch Rep Conf Lg Rd Sched
def zC:bh:=⟨0,0,0,[],0,0,0,0,0,0,0,0⟩
theorem E0:bI zC=bI (bI zC):=by decide +kernel
def zH(l:List cB)(iJ:Int):Bool:=l.any (fun s=>decide (200<s.op.key.size)||decide (200<s.op.value.size))||decide (iJ<l.length)
attribute [local irreducible] VO VC VA
theorem TB{a:Option Addr}{cap:Nat}{l:List cB}(h:aV cB.cells 8 Fr w a l)(hl:l.length≤9223372036854775807)(iJ:Int):az Tryz.prog 4 [.slice a l.length cap,.int .i64 iJ] Fr w [] (fun v L=>v=.bool (zH l iJ)∧L=[]):=by
 refine TF 34 Tryz.func4 Z ym aD Z Z ?_
 refine ae ?_
 refine VC.loop (σ:=Nat) (fun k=>[(0,.slice a l.length cap),(1,.int .i64 iJ),(5,.int .i64 (k:Int))]) (fun _=>[]) (fun k=>k≤l.length∧(l.take k).any (fun s=>decide (200<s.op.key.size)||decide (200<s.op.value.size))=false) (fun k=>l.length-k) 0
  ⟨bU _,rfl⟩ aP ER ?_
 rintro k ⟨hk,hno⟩
 refine ae ?_
 refine CP (p:=(k:Int)<l.length) Z (fun h1=>CK ?_) (fun h1=>CX ?_)
 rotate_left
 ·obtain rfl:k=l.length:=by omega
  rw[lj] at hno
  refine ae ?_
  exact CR (aq.bool 4 Z Z (by unfold zH;rw[hno,Bool.false_or]) ER ⟨rfl,Z⟩)
 have hkl:k<l.length:=by omega
 have hx:l[k]?=some l[k]:=GE hkl
 generalize l[k]=s at hx
 obtain⟨xb,xo,rfl,ra,rc⟩:=aV.rd (X:=⟨Tryz.prog,tab,aD,34,Fr,w⟩) h hx
 have hnx:(l.take (k+1)).any (fun s=>decide (200<s.op.key.size)||decide (200<s.op.value.size))=(decide (200<s.op.key.size)||decide (200<s.op.value.size)):=by
  rw[jb,hx,List.any_append,hno];simp
 have hall:(decide (200<s.op.key.size)||decide (200<s.op.value.size))=true→zH l iJ=true:=fun g=>by
  unfold zH
  rw[Bn.2 ⟨s,ME hx,g⟩];rfl
 refine ae ?_
 refine DZ ?_
 refine ae ?_
 refine VG (VO.load Z Z (rc _ _ 5 (.string s.op.key) Z Z) ?_)
 refine ae ?_
 by_cases k1:200<s.op.key.size
 ·refine VG (VY 20 true Z (DT yd) ?_)
  refine qH ?_
  exact CR (aq.tmp 4 Z Z ER ⟨by rw[hall (by simp[k1])],Z⟩)
 refine VG (VY 20 false Z (DF yd) ?_)
 refine ae ?_
 refine DZ ?_
 refine ae ?_
 refine VG (VO.load Z Z (rc _ _ 6 (.string s.op.value) Z Z) ?_)
 refine ae ?_
 refine CP (p:=(200:Int)<s.op.value.size) Z (fun k2=>?_) (fun k2=>CK ?_)
 ·refine ae ?_
  exact CR (aq.tmp 4 Z Z ER ⟨by rw[hall ye],Z⟩)
 refine fL ?_
 exact⟨k+1,⟨by omega,by rw[hnx];simp;omega⟩,by dsimp only;omega,SC Z (SC Z (Sub.int Z yd (SN _))),ER⟩
end Cl
namespace Cl
open Go Vg T Api Ch Rep Conf Lg Rd
attribute [local irreducible] VO VC VA
instance acM:DecidableEq aW:=fun a b=>decidable_of_iff (a.ar=b.ar∧a.ms=b.ms∧a.drain=b.drain) ⟨fun⟨h1,h2,h3⟩=>by cases a;cases b;simp_all,fun h=>by subst h;exact⟨rfl,rfl,rfl⟩⟩
def xd(m k:aR):Bool:=decide (m.1=k.1)&&(decide (m.2=k.2)&&true)
theorem LD(m k:aR):xd m k=true↔m=k:=by
 obtain⟨m1,m2⟩:=m;obtain⟨k1,k2⟩:=k
 simp[xd]
theorem Yg:Tryz.prog.stoodInHeld 89=false:=by kernel_rfl
theorem TC:Tryz.prog.eqGuardType Tryz.prog.depth 89=false:=by kernel_rfl
theorem U3(o p:aR)(w:World):(Op.equal 89 (.agg (aH o).toArray) (.agg (aH p).toArray)).run Tryz.prog w=.ok (xd o p) w:=by
 have hi:∀(cs:List Value) (j:Nat) (n:Int),cs[j]?=some (.int .i64 n)→∀w:World,(part 3 cs.toArray j).run Tryz.prog w=.ok (.int .i64 n) w:=fun cs j n h w=>rz (pR.look aD (t:=3) (ti:=T.t3) rfl) rfl h w
 refine kI.run (kI.st Tryz.underlying89 Yg (o8.cons yo (hi _ _ _ Z) (hi _ _ _ Z) (kI.int Tryz.underlying3 o.1 p.1) (o8.cons yo (hi _ _ _ Z) (hi _ _ _ Z) (kI.int Tryz.underlying3 o.2 p.2) o8.nil))) yo w
theorem SG{a b:Option Addr}{ca cb:Nat}{xs ys:List aR}(hx:aV aH 2 Fr w a xs)(hy:aV aH 2 Fr w b ys)(hlx:xs.length≤1000000)(hly:ys.length≤1000000):
  az Tryz.prog 80 [.slice a xs.length ca,.slice b ys.length cb] Fr w [] (fun v L=>v=.bool (decide (xs=ys))∧L=[]):=by
 refine TF 26 Tryz.func80 Z ym aD Z Z ?_
 refine aj ?_
 refine VC.dH (i:=(xs.length:Int)) (j:=(ys.length:Int)) Z (fun h=>?_) (fun h=>CK ?_)
 ·refine aj ?_
  exact CR (aq.bool 4 Z Z (by rw[DF (fun e=>h mT)]) ER ⟨rfl,Z⟩)
 have hll:xs.length=ys.length:=by omega
 refine aj ?_
 refine VC.loop (σ:=Nat) (fun n=>[(0,.slice a xs.length ca),(1,.slice b ys.length cb),(12,.int .i64 xs.length),(13,.int .i64 n)]) (fun _=>[]) (fun n=>n≤xs.length∧∀k,k<n→xs[k]?=ys[k]?) (fun n=>xs.length-n) 0
  ⟨bU _,fun k hk=>absurd hk (Bx k)⟩ aP ER ?_
 rintro n ⟨hn,hall⟩
 refine aj ?_
 refine CP (p:=(n:Int)<(xs.length:Int)) Z (fun h2=>CK ?_) (fun h2=>CX ?_)
 rotate_left
 ·refine aj ?_
  refine CR (aq.bool 4 Z Z ?_ ER ⟨rfl,Z⟩)
  rw[DT]
  apply pN
  intro k
  by_cases hk:k<n
  ·exact hall k hk
  ·rw[lO yd,lO yd]
 obtain⟨x,hxk⟩:∃x,xs[n]?=some x:=⟨_,GE yd⟩
 obtain⟨y,hyk⟩:∃y,ys[n]?=some y:=⟨_,GE yd⟩
 obtain⟨mb,mo,hma,ra,rc⟩:=aV.rd (X:=⟨Tryz.prog,tab,aD,26,Fr,w⟩) hx hxk
 subst hma
 obtain⟨nb,no,hna,sa,sc⟩:=aV.rd (X:=⟨Tryz.prog,tab,aD,26,Fr,w⟩) hy hyk
 subst hna
 refine uv ?_
 refine sX ?_
 refine aj ?_
 refine CD (ts 0 9 .nil) ym yr ?_
 refine bt ?_
 refine AG (AI Z (fp n Z Z Z Z Z yd yd) ?_)
 refine AG (VA.load Z Z Z (ra _ _ Z Z) ?_)
 refine bt ?_
 refine AG (AI Z (fp n Z Z Z Z Z yd yd) ?_)
 refine AG (VA.load Z Z Z (sa _ _ Z Z) ?_)
 refine AG (AI Z (Uv TC Z Z (U3 x y)) ?_)
 refine bt ?_
 refine CC (t:=!xd x y) Z (fun hd=>?_) (fun hd=>CK ?_)
 ·refine aj ?_
  refine CR (aq.bool 4 Z Z ?_ ER ⟨rfl,Z⟩)
  have hd:xd x y=false:=by simpa using hd
  rw[DF]
  intro e
  rw[e,hyk] at hxk
  cases hxk
  rw[(LD x x).2 rfl] at hd
  cases hd
 ·have hd:xd x y=true:=by simpa using hd
  refine jJ ?_
  exact⟨n+1,⟨by omega,fun k hk=>by
   by_cases hkn:k=n
   ·subst hkn;rw[hxk,hyk,(LD x y).1 hd]
   ·exact hall k yd⟩,by dsimp only;omega,aP,ER⟩
theorem Na{c d:aW}{a b:Option Addr}{ac bc:Nat}(h:aV aH 2 Fr w a c.ms)(k:aV aH 2 Fr w b d.ms)(hl:c.ms.length≤1000000)(hk:d.ms.length≤1000000):
  az Tryz.prog 38 [.agg (c.cells a ac).toArray,.agg (d.cells b bc).toArray] Fr w [] (fun v L=>v=.bool (decide (c=d))∧L=[]):=by
 refine TF 24 Tryz.func38 Z ym aD Z Z ?_
 refine CS (CG (VG (VB (vs:=c.cells a ac) Z fun x=>VG (VB (vs:=d.cells b bc) Z fun y=>?_))))
 refine dz ?_
 by_cases h1:c.ar=d.ar
 rotate_left
 ·refine VG (VY 10 false Z (by rw[beq_eq_false_iff_ne];exact h1) ?_)
  refine g_ ?_
  refine VG (VY 17 false Z Z ?_)
  refine g_ ?_
  exact CR (aq.tmp 4 Z Z aa.nil.ah ⟨by rw[DF (fun e=>h1 mT)],Z⟩)
 refine VG (VY 10 true Z (by rw[beq_iff_eq];exact h1) ?_)
 refine g_ ?_
 by_cases h2:c.drain=d.drain
 rotate_left
 ·refine VG (VY 17 false Z (by rw[beq_eq_false_iff_ne];exact h2) ?_)
  refine g_ ?_
  exact CR (aq.tmp 4 Z Z aa.nil.ah ⟨by rw[DF (fun e=>h2 mT)],Z⟩)
 refine VG (VY 17 true Z (by rw[beq_iff_eq];exact h2) ?_)
 refine g_ ?_
 refine VG (VV (fun Fr w hF hs hS=>SG Fr w (h.of hF hs) (k.of hF hs) hl hk) Z ?_)
 refine g_ ?_
 refine CR (aq.bool 4 Z Z ?_ aa.nil.ah ⟨rfl,Z⟩)
 refine decide_eq_decide.2 ⟨fun e=>?_,fun e=>by rw[e]⟩
 cases c;cases d;dsimp only at h1 h2 e;subst h1;subst h2;subst e;rfl
end Cl
namespace Cl
open Go Vg T Api Ch Rep Conf Lg Rd
def fF(p:bj):cB:=fh 4 p.1 p.2
def sI(e:Int):Int:=if e=0 then 1 else 0
inductive jx (C0:al) (m0:Int):Nat→al→Int→Prop
 | nil:jx C0 m0 0 C0 m0
 | snoc {k:Nat} {C:al} {m:Int} {p:bj} (h:jx C0 m0 k C m) (hp:p∈C.aB.aX.map Prod.fst):jx C0 m0 (k+1) (C.bf (fF p)).1 (m+sI (C.bf (fF p)).2)
def nS(C0:al)(m0:Int)(C:al)(m:Int):Prop:=∃k≤4096,jx C0 m0 k C m∧(k=4096∨C.aB.aX=[])
def my:Nat→al→al
 | 0,C=>C
 | n+1,C=>((my n C).bf (fh 2 n 0)).1
def oQ(C:al):al:=my 6 (C.bf (fh 3 0 0)).1
def tD(C0 C:al)(m:Int):Prop:=∃C1 m1 C2,nS C0 0 C1 m1∧nS (oQ C1) m1 C2 m∧C=(C2.bf (fh 11 0 0)).1
theorem jx.stop{C0:al}{m0:Int}(h:C0.aB.aX=[]):∀{k:Nat} {C:al} {m:Int},jx C0 m0 k C m→k=0∧C=C0∧m=m0
 | _,_,_,.nil=>⟨rfl,rfl,rfl⟩
 | _,_,_,.snoc p hp=>by
  obtain⟨rfl,rfl,rfl⟩:=jx.stop h p
  rw[h] at hp;cases hp
theorem jx.one{C0:al}{m0:Int}{q:bj}(h:C0.aB.aX.map Prod.fst=[q])(h2:(C0.bf (fF q)).1.aB.aX=[]):∀{k:Nat} {C:al} {m:Int},jx C0 m0 k C m→(k=0∧C=C0∧m=m0)∨(k=1∧C=(C0.bf (fF q)).1∧m=m0+sI (C0.bf (fF q)).2)
 | _,_,_,.nil=>.inl ⟨rfl,rfl,rfl⟩
 | _,_,_,.snoc p hp=>by
  rcases jx.one h h2 p with ⟨rfl,rfl,rfl⟩ | ⟨rfl,rfl,rfl⟩
  ·rw[h] at hp
   obtain rfl:=eA.1 hp
   exact .inr ⟨rfl,Z,Z⟩
  ·rw[h2] at hp;cases hp
theorem nS.stop{C0 C:al}{m0 m:Int}(h:C0.aB.aX=[])(d:nS C0 m0 C m):C=C0∧m=m0:=by
 obtain⟨k,_,p,_⟩:=d
 exact(p.stop h).2
theorem nS.one{C0 C:al}{m0 m:Int}{q:bj}(h:C0.aB.aX.map Prod.fst=[q])(h2:(C0.bf (fF q)).1.aB.aX=[])(d:nS C0 m0 C m):C=(C0.bf (fF q)).1∧m=m0+sI (C0.bf (fF q)).2:=by
 obtain⟨k,_,p,he⟩:=d
 rcases p.one h h2 with ⟨rfl,rfl,rfl⟩ | ⟨rfl,rfl,rfl⟩
 ·rcases he with he | he
  ·cases he
  ·rw[he] at h;cases h
 ·exact⟨rfl,Z⟩
theorem jx.ok{C0:al}{m0:Int}{b e:Nat}(h:C0.Ok b e)(hb:b<90000)(he:e<800000):∀{k:Nat} {C:al} {m:Int},jx C0 m0 k C m→k≤4096→C.Ok (b+k) (e+7*k)
 | _,_,_,.nil,_=>h
 | _,_,_,.snoc (k:=k) p hp,hk=>((jx.ok h hb he p yd).bf yd yd _).mono yd yd
def sw(C:al)(x:aR):Bool:=match C.node x.1 with
 | none=>false
 | some r=>decide (r.since=x.2)&&r.whole
def tI(C:al):Bool:=C.au.ch.ms.any fun x=>!decide (x.1=C.au.ch.drain)&&sw C x
def sy(r:av):Bool:=(List.range 4).all (fun k=>decide (r.aI.aL.sD (k:Nat)≤0))&&(decide (r.an.done=r.an.last)&&decide (r.aK.l.length=0))
def ua(C:al)(x:aR):Bool:=sw C x&&(match C.node x.1 with
 | none=>false
 | some r=>decide (r.ch=C.au.ch)&&sy r)
def wy(C:al)(n:Nat):Bool:=match C.du n with
 | none=>false
 | some s=>decide (s.eR≠0)
def oU(C:al):Bool:=decide (C.au.ch.drain=-1)&&(C.au.ch.ms.all (ua C)&&(List.range 6).all fun n=>!wy C n)
def Ap:al:=mO (bI zC)
def Aq:al:=oQ Ap
def GF:al:=(Aq.bf (fF (0,16))).1
def xn:al:=(GF.bf (fh 11 0 0)).1
theorem WY:Ap.aB.aX=[]:=rfl
theorem WZ:Aq.aB.aX.map Prod.fst=[(0,16)]:=by decide +kernel
theorem MJ:GF.aB.aX.length=0∧(Aq.bf (fF (0,16))).2=0:=by decide +kernel
theorem W1:oU xn=true∧tI xn=true∧xn.now=1:=by decide +kernel
theorem W2{C:al}{m:Int}(h:tD Ap C m):C=xn∧m=1:=by
 obtain⟨C1,m1,C2,h1,h2,h3⟩:=h
 obtain⟨rfl,rfl⟩:=h1.stop WY
 have e:oQ Ap=Aq:=rfl
 rw[e] at h2
 obtain⟨rfl,rfl⟩:=h2.one WZ (iz MJ.1)
 rw[MJ.2]
 exact⟨h3,Z⟩
end Cl
namespace Cl
open Go Vg T Api
attribute [local irreducible] VO VC VA
def n_(x y:Int):Int:=if x<y then -1 else if y<x then 1 else 0
def vm(p q:bj):Int:=if n_ p.1 q.1≠0 then n_ p.1 q.1 else n_ p.2 q.2
def d'(p:bj):List Value:=[.int .i64 p.1,.int .i64 p.2]
theorem sK(p:bj):(d' p).length=2:=rfl
theorem WE(p:bj):(d' p).all Value.oneCell'=true:=rfl
theorem LP(x:Int):az Tryz.prog 78 [.int .i64 x] Fr w [] (fun v L=>v=.bool false∧L=[]):=by
 refine TF 6 Tryz.func78 Z ym aD Z Z ?_
 refine aw ?_
 exact CR (aq.bool 2 Z Z yf ER ⟨rfl,Z⟩)
theorem JS(x y:Int):az Tryz.prog 36 [.int .i64 x,.int .i64 y] Fr w [] (fun v L=>v=.int .i64 (n_ x y)∧L=[]):=by
 refine TF 20 Tryz.func36 Z ym aD Z Z ?_
 refine aw ?_
 refine VG (VV (fun Fr w _ _ _=>LP Fr w x) Z ?_)
 refine aw ?_
 refine VG (VV (fun Fr w _ _ _=>LP Fr w y) Z ?_)
 refine kh ?_
 refine kh ?_
 refine aw ?_
 refine CP (p:=x<y) Z (fun h=>?_) (fun h=>CK ?_)
 ·refine aw ?_
  exact CR (aq.tmp 4 Z Z ER ⟨by rw[n_,if_pos h],Z⟩)
 refine aw ?_
 refine CP (p:=y<x) Z (fun h2=>?_) (fun h2=>CK ?_)
 ·refine aw ?_
  exact CR (aq.tmp 4 Z Z ER ⟨by rw[n_,if_neg h,if_pos h2],Z⟩)
 refine aw ?_
 exact CR (aq.tmp 4 Z Z ER ⟨by rw[n_,if_neg h,if_neg h2],Z⟩)
theorem Wc{sb:Nat}(a b:Int)(h:bu Fr w sb [.int .i64 a,.int .i64 b]):az Tryz.prog 35 [.slice (some ⟨sb,0,none⟩) 2 2] Fr w [] (fun v L=>v=.int .i64 (if a≠0 then a else b)∧L=[]):=by
 refine TF 18 Tryz.func35 Z ym aD Z Z ?_
 refine aw ?_
 refine VC.loop (σ:=Nat) (fun k=>[(3,.int .i64 0),(6,.slice (some ⟨sb,0,none⟩) 2 2),(7,.int .i64 2),(8,.int .i64 (k:Int))]) (fun _=>[]) (fun k=>k≤2∧(0<k→a=0)∧(1<k→b=0)) (fun k=>2-k) 0
  ⟨by omega,by omega,by omega⟩ aP ER ?_
 rintro k ⟨hk,ha,hb⟩
 refine aw ?_
 refine CP (p:=(k:Int)<2) Z (fun h1=>CK ?_) (fun h1=>CX ?_)
 rotate_left
 ·have h2:k=2:=by omega
  have ha:=ha yd
  have hb:=hb yd
  refine aw ?_
  exact CR (aq.tmp 2 Z Z ER ⟨by rw[if_neg yd,hb],Z⟩)
 have hv:∃z:Int,([.int .i64 a,.int .i64 b]:List Value)[0+k*1]?=some (.int .i64 z)∧(k=0→z=a)∧(k=1→z=b):=by
  rcases(by omega:k=0∨k=1) with rfl | rfl
  ·exact⟨a,Z,fun _=>rfl,fun h=>by omega⟩
  ·exact⟨b,Z,fun h=>by omega,fun _=>rfl⟩
 obtain⟨z,hz,z0,z1⟩:=hv
 refine aw ?_
 refine xO ?_
 refine VG (VO.load Z Z (ax.aC h hz) ?_)
 refine aw ?_
 refine VC.dH Z (fun k1=>?_) (fun k1=>CK ?_)
 ·refine aw ?_
  refine CR (aq.tmp 2 Z Z ER ⟨?_,Z⟩)
  rcases(by omega:k=0∨k=1) with h0 | h0
  ·rw[←z0 h0,if_pos k1]
  ·rw[if_neg (by have:=ha yd;omega),z1 h0]
 refine aw ?_
 refine pF ?_
 refine aw ?_
 have k2:z=0:=by simpa using k1
 exact⟨k+1,⟨by omega,fun _=>by
  by_cases h0:k=0
  ·rw[←z0 h0];exact k2
  ·exact ha yd,fun _=>by rw[←z1 yd];exact k2⟩,by dsimp only;omega,SC Z (SC Z (SC Z (Sub.int Z yd (SN _)))),ER⟩
theorem Wi(p q:bj):az Tryz.prog 34 [.agg (d' p).toArray,.agg (d' q).toArray] Fr w [] (fun v L=>v=.int .i64 (vm p q)∧L=[]):=by
 refine TF 17 Tryz.func34 Z ym aD Z Z ?_
 refine CS (CG (VG (VB (vs:=d' p) Z fun b2=>VG (VB (vs:=d' q) Z fun b3=>?_))))
 refine ae ?_
 refine CD (ts 0 4 (ts 5 4 (.only 4 (.only 9 (.only 10 (.only 11 (ts 12 1 .nil))))))) ym yr ?_
 refine Is ?_
 refine fK ?_
 refine Is ?_
 refine fK ?_
 refine It ?_
 refine fK ?_
 refine It ?_
 refine fK ?_
 refine AG (AR (fun Fr w hF hw hS=>JS Fr w p.1 q.1) Z Z yu ?_)
 refine AG (AR (fun Fr w hF hw hS=>JS Fr w p.2 q.2) Z Z yu ?_)
 refine AG (AO (aQ.buildSlice (n:=2) (pv:=[(0,.int .i64 (n_ p.1 q.1)),(1,.int .i64 (n_ p.2 q.2))]) (cells:=[.int .i64 (n_ p.1 q.1),.int .i64 (n_ p.2 q.2)]) rfl rfl rfl rfl yo rfl) rfl (fun v L' g=>by obtain⟨nb,rfl,rfl⟩:=g;exact mU) ?_)
 rintro _ _ ⟨nb,rfl,rfl⟩
 refine AG (AR (fun Fr w hF hw hS=>Wc Fr w (n_ p.1 q.1) (n_ p.2 q.2) (hS.aC 0 Z)) Z Z yu ?_)
 refine oC ?_
 exact Hw
theorem T7{w w':World}(h:dG (fun b=>b<w.heap.size) w w'):∃q os,w'=Sort.grow (w.drewN q) os:=by
 refine⟨w'.drawn-w.drawn,w'.heap.extract w.heap.size w'.heap.size,?_⟩
 have hs:=h.size
 have hh:w'.heap=w.heap++w'.heap.extract w.heap.size w'.heap.size:=by
  apply vW
  intro i
  rw[Eg]
  split
  ·rename_i hi;exact h.block i hi
  ·rename_i hi
   rw[Array.getElem?_extract]
   split
   ·congr 1;omega
   ·rw[Array.getElem?_eq_none yd]
 have hd:w'.drawn=w.drawn+(w'.drawn-w.drawn):=by have:=h.drawn;omega
 have e1:=h.os
 have e2:=h.tape
 have e3:=h.output
 generalize w'.drawn-w.drawn=q at hd
 generalize w'.heap.extract w.heap.size w'.heap.size=os at hh
 obtain⟨a,b,c,d,e⟩:=w'
 dsimp only at hh hd e1 e2 e3
 subst hh hd e1 e2 e3
 rfl
theorem Wh(p q:bj)(W:World):Calls Tryz.prog 34 #[.agg (d' p).toArray,.agg (d' q).toArray] W fun e w'=>e=.returned (.int .i64 (vm p q))∧∃n os,w'=Sort.grow (W.drewN n) os:=
 Calls.mono ((Wi (fun b=>b<W.heap.size) W p q).calls (fun _ h=>h) Sat.nil) fun e w' ⟨v,L',h1,h2,_,h4⟩=>⟨by rw[h1,h2.1],T7 h4⟩
end Cl
end Go.Proofs.YtkgfhabealjjpaaGreat
namespace Go.Proofs
open Go.Shelf
def Tryz.XW : Go.Shelf.Ren := ⟨fun | 6 => 33 | 15 => 77 | 14 => 76 | 28 => 134 | 29 => 135 | 20 => 126 | 21 => 127 | 22 => 128 | 23 => 129 | 24 => 130 | 25 => 131 | 26 => 132 | 27 => 133 | 46 => 202 | 47 => 203 | 48 => 204 | 49 => 205 | 50 => 206 | 57 => 251 | n => n, fun | 22 => 46 | 24 => 50 | 25 => 87 | 3 => 3 | 39 => 148 | 0 => 0 | 53 => 220 | 55 => 222 | 4 => 4 | 46 => 214 | 45 => 213 | 50 => 115 | 5 => 5 | 9 => 9 | 66 => 289 | 70 => 223 | 76 => 332 | 77 => 333 | n => n, fun | n => n⟩
theorem Tryz.Nv : Go.Proofs.SlLaysF0.n6 Tryz.prog Tryz.XW := {
  mixed := by kernel_rfl
  f6 := ⟨Tryz.f33.name, by decide, Tryz.func33.trans (congrArg some (by kernel_rfl))⟩
  f14 := ⟨Tryz.f76.name, by decide, Tryz.func76.trans (congrArg some (by kernel_rfl))⟩
  f15 := Tryz.func77.trans (congrArg some (by kernel_rfl))
  f20 := ⟨Tryz.f126.name, by decide, Tryz.func126.trans (congrArg some (by kernel_rfl))⟩
  f21 := ⟨Tryz.f127.name, by decide, Tryz.func127.trans (congrArg some (by kernel_rfl))⟩
  f22 := ⟨Tryz.f128.name, by decide, Tryz.func128.trans (congrArg some (by kernel_rfl))⟩
  f23 := ⟨Tryz.f129.name, by decide, Tryz.func129.trans (congrArg some (by kernel_rfl))⟩
  f24 := ⟨Tryz.f130.name, by decide, Tryz.func130.trans (congrArg some (by kernel_rfl))⟩
  f25 := ⟨Tryz.f131.name, by decide, Tryz.func131.trans (congrArg some (by kernel_rfl))⟩
  f26 := ⟨Tryz.f132.name, by decide, Tryz.func132.trans (congrArg some (by kernel_rfl))⟩
  f27 := ⟨Tryz.f133.name, by decide, Tryz.func133.trans (congrArg some (by kernel_rfl))⟩
  f28 := Tryz.func134.trans (congrArg some (by kernel_rfl))
  f29 := Tryz.func135.trans (congrArg some (by kernel_rfl))
  f46 := ⟨Tryz.f202.name, by decide, Tryz.func202.trans (congrArg some (by kernel_rfl))⟩
  f47 := Tryz.func203.trans (congrArg some (by kernel_rfl))
  f48 := Tryz.func204.trans (congrArg some (by kernel_rfl))
  f49 := ⟨Tryz.f205.name, by decide, Tryz.func205.trans (congrArg some (by kernel_rfl))⟩
  f50 := ⟨Tryz.f206.name, by decide, Tryz.func206.trans (congrArg some (by kernel_rfl))⟩
  f57 := ⟨Tryz.f251.name, by decide, Tryz.func251.trans (congrArg some (by kernel_rfl))⟩
  t0 := Tryz.underlying0
  a0 := Tryz.isAgg0
  z0 := Tryz.sizeOf0
  v0 := Tryz.zeroValue0
  t3 := Tryz.underlying3
  a3 := Tryz.isAgg3
  z3 := Tryz.sizeOf3
  v3 := Tryz.zeroValue3
  t4 := Tryz.underlying4
  a4 := Tryz.isAgg4
  z4 := Tryz.sizeOf4
  v4 := Tryz.zeroValue4
  t5 := Tryz.underlying5
  a5 := Tryz.isAgg5
  z5 := Tryz.sizeOf5
  v5 := Tryz.zeroValue5
  t9 := Tryz.underlying9
  a9 := Tryz.isAgg9
  z9 := Tryz.sizeOf9
  v9 := Tryz.zeroValue9
  t22 := Tryz.underlying46
  a22 := Tryz.isAgg46
  z22 := Tryz.sizeOf46
  v22 := Tryz.zeroValue46
  t25 := Tryz.underlying87
  a25 := Tryz.isAgg87
  z25 := Tryz.sizeOf87
  v25 := Tryz.zeroValue87
  t39 := Tryz.underlying148
  a39 := Tryz.isAgg148
  z39 := Tryz.sizeOf148
  v39 := Tryz.zeroValue148
  t45 := Tryz.underlying213
  a45 := Tryz.isAgg213
  z45 := Tryz.sizeOf213
  v45 := Tryz.zeroValue213
  t46 := Tryz.underlying214
  a46 := Tryz.isAgg214
  z46 := Tryz.sizeOf214
  v46 := Tryz.zeroValue214
  t50 := Tryz.underlying115
  a50 := Tryz.isAgg115
  z50 := Tryz.sizeOf115
  v50 := Tryz.zeroValue115
  t53 := Tryz.underlying220
  a53 := Tryz.isAgg220
  z53 := Tryz.sizeOf220
  v53 := Tryz.zeroValue220
  t55 := Tryz.underlying222
  a55 := Tryz.isAgg222
  z55 := Tryz.sizeOf222
  v55 := Tryz.zeroValue222
  t66 := Tryz.underlying289
  a66 := Tryz.isAgg289
  z66 := Tryz.sizeOf289
  v66 := Tryz.zeroValue289
  t70 := Tryz.underlying223
  a70 := Tryz.isAgg223
  z70 := Tryz.sizeOf223
  v70 := Tryz.zeroValue223
  t76 := Tryz.underlying332
  a76 := Tryz.isAgg332
  z76 := Tryz.sizeOf332
  v76 := Tryz.zeroValue332
  t77 := Tryz.underlying333
  a77 := Tryz.isAgg333
  z77 := Tryz.sizeOf333
  v77 := Tryz.zeroValue333 }
end Go.Proofs
namespace Go.Proofs.YtkgfhabealjjpaaGreat
variable (Fr : Nat → Prop) (w : World)
namespace Cl
open Go Vg T Api Go.Shelf Go.Sort
attribute [local irreducible] VO VC VA
theorem Rv:tz Tryz.prog 33:=⟨_,Tryz.func33,by kernel_rfl,by kernel_rfl⟩
theorem GA(x y:bj):ltOf vm x y=decide (x.1<y.1∨x.1=y.1∧x.2<y.2):=by
 unfold ltOf vm n_
 by_cases h1:x.1<y.1
 ·simp[h1]
 ·by_cases h2:y.1<x.1
  ·have:x.1≠y.1:=by omega
   simp[h1,h2,this]
  ·have:x.1=y.1:=by omega
   by_cases h3:x.2<y.2
   ·simp[this,h3]
   ·by_cases h4:y.2<x.2<;>simp[this,h3,h4]
theorem WI:SWO (ltOf vm) where
 irrefl x:=by rw[GA];simp
 trans x y z h1 h2:=by rw[GA] at *;simp at *;omega
 ntrans x y z h1 h2:=by rw[GA] at *;simp at *;omega
abbrev kc:TypeId:=50
theorem WH(aC off size:Nat)(w:World):CmpLays Tryz.prog 34 #[] d' 2 vm aC off size w:=fun m os dk _ x y=>Wh x y _
theorem WG:∀args w,(callFunc 34 args).run Tryz.prog w=.ok (.enter 34 args) w:=enters_of Tryz.func34 ym rfl
theorem TJ(w:World)(b n:Nat)(d:Array bj)(os:Array Obj)(x:Nat)(hx:x<w.heap.size)(hne:x≠b):(sortWorldK d' 2 w b 0 n d os).heap[x]?=w.heap[x]?:=by
 show(((w.heap.modify b _)++os:Array Obj))[x]?=_
 rw[Eg,if_pos Qs,vX,if_neg (fun e=>hne e.symm)]
theorem TK{w:World}{b n:Nat}{d:Array bj}{os:Array Obj}{cs:Array Value}{el:TypeId}(hb:w.heap[b]?=some (.cells cs el (0,0))):(sortWorldK d' 2 w b 0 n d os).heap[b]?=some (.cells (putCells id 0 (flatK d' 2 d) cs) el (0,0)):=by
 have hx:=(rW.1 hb).1
 show(((w.heap.modify b _)++os:Array Obj))[b]?=_
 rw[Eg,if_pos Qs,vX,if_pos rfl,hb]
 rfl
theorem Fk(l:List bj)(rest:List Value)(j:Nat)(hj:j<l.length*2):(flat d' l++rest)[j]?=some ((d' (l.toArray)[j / 2]!)[j % 2]!):=by
 have hi:j / 2<l.length:=by omega
 have hx:l[j / 2]?=some l[j / 2]:=GE hi
 have hc:(d' l[j / 2])[j % 2]?=some ((d' l[j / 2])[j % 2]!):=by
  rcases(by omega:j % 2=0∨j % 2=1) with h | h<;>rw[h]<;>rfl
 have:=qe sK hx hc rest
 rw[show j / 2*2+j % 2=j by omega] at this
 rw[this]
 have e:(l.toArray)[j / 2]! = l[j / 2]:=by simp[hi]
 rw[e]
theorem XX{a:Option Addr}{cap:Nat}{l:List bj}(hl:l.length≤1000000):az Tryz.prog 33 [.slice a l.length cap,.func (.func 34) #[] #[]] Fr w [aA kc 2 a l.length cap (flat d' l)]
  (fun v L=>v=.tuple #[]∧∃m:List bj,m.Perm l∧L=[aA kc 2 a l.length cap (flat d' m)]):=
 ⟨Rv,fun hlow hs=>by
  obtain⟨F,⟨ids,G,rfl,⟨hc,hh⟩,hG⟩,hn,hbd⟩:=hs
  obtain rfl:G=[]:=hG
  rcases hh with ⟨rfl,h0,rfl,rfl⟩ | ⟨b,rest,rfl,rfl,hcap,hr,hb⟩
  ·have hc0:=AnyF.slices_SortFunc_none Tryz.Nv none 0 (.func (.func 34) #[] #[]) w
   obtain rfl:l=[]:=iz h0
   refine Calls.mono hc0 fun e w' ⟨h1,h2⟩=>?_
   subst h2
   exact⟨_,[aA kc 2 none 0 0 (flat d' [])],h1,⟨rfl,[],.nil,rfl⟩,⟨[],⟨[],[],rfl,⟨rfl,.inl ⟨rfl,rfl,rfl,rfl⟩⟩,rfl⟩,.nil,fun _ h=>by cases h⟩,dG.refl _ _⟩
  ·have hbl:b<w.heap.size:=(hbd b yf).2
   have hnF:¬Fr b:=(hbd b yf).1
   have hH:HoldsK d' 2 w b 0 l.toArray:=fun j hj=>by
    rw[size_flatK] at hj
    have hj2:j<l.length*2:=by simpa using hj
    refine⟨?_,?_⟩
    ·rw[di,get_flatK d' 2 _ j hj]
     show w.cell? ⟨b,j,none⟩=some ((d' (l.toArray)[j / 2]!)[j % 2]!)
     rw[cell_of_row w b j (flat d' l++rest).toArray kc (0,0) hb]
     simpa using Fk l rest j hj2
    ·exact frozen_of_row w b (0+j) (flat d' l++rest).toArray kc hb
   have hc0:=AnyQ.slices_SortFunc Tryz.Nv 2 Tryz.isAgg50 Tryz.sizeOf50 d' sK (fun x=>by intro v hv;exact lh.1 (WE x) v hv) vm WI 34 #[] b 0 cap l.toArray w WG (WH b 0 _ w) hH hbl ye
   refine Calls.mono hc0 fun e w' ⟨h1,d,n,os,hp,_,h2⟩=>?_
   subst h2
   have hds:d.size=l.length:=by have:=hp.1;simpa using this
   have hpm:d.toList.Perm l:=by
    have h3:=hp.2.2
    have e1:l.toArray.size=d.size:=by rw[hds];simp
    rw[Array.extract_eq_self_of_le yd,Array.extract_eq_self_of_le (NR _)] at h3
    exact h3
   have hm2:[aA kc 2 (some ⟨b,0,none⟩) l.length cap (flat d' d.toList)]=[aA kc 2 (some ⟨b,0,none⟩) l.length cap (flat d' d.toList)]:=rfl
   refine⟨_,_,h1,⟨rfl,d.toList,hpm,Z⟩,⟨[b],⟨[b],[],Z,⟨by rw[fA sK];simp[hds],.inr ⟨b,(putCells id 0 (flatK d' 2 d) (flat d' l++rest).toArray).toList.drop (l.length*2),Z,Z,hcap,?_,?_⟩⟩,Z⟩,hn,fun x hx=>⟨(hbd x hx).1,?_⟩⟩,?_⟩
   ·rw[a_,fA sK,r4]
    simp only[Array.length_toList]
    have e1:(putCells id 0 (flatK d' 2 d) (flat d' l++rest).toArray).size=cap*2:=by
     unfold putCells
     rw[Array.size_mapIdx,List.size_toArray,hr]
    rw[e1]
    have:l.length*2≤cap*2:=r7 2 hcap
    simp[hds];omega
   ·rw[TK hb]
    congr 2
    apply vW
    intro j
    conv=>rhs;rw[List.getElem?_toArray]
    have hsz:(flatK d' 2 d).size=l.length*2:=by rw[size_flatK,hds]
    by_cases hj:j<l.length*2
    ·have e1:=Fk d.toList ((putCells id 0 (flatK d' 2 d) (flat d' l++rest).toArray).toList.drop (l.length*2)) j (by simpa[hds] using hj)
     rw[e1]
     have e2:=Fk l rest j hj
     unfold putCells
     rw[Array.getElem?_mapIdx,List.getElem?_toArray,e2]
     simp only[nO]
     rw[if_pos ⟨bU _,by omega⟩,Nat.sub_zero,get_flatK d' 2 _ j (by rw[hds];exact hj)]
     simp
    ·have hlf:(flat d' d.toList).length=l.length*2:=by rw[fA sK];simp[hds]
     rw[qI yd,hlf,rZ,Bm]
     congr 1
     omega
   ·show x<(((w.heap.modify b _)++os:Array Obj)).size
    rw[Array.size_append,Array.size_modify]
    have:=(hbd x hx).2
    omega
   ·refine⟨rfl,Z,Z,?_,fun x hx=>TJ w b n d os x (hlow x hx) (fun e=>hnF (e▸hx)),Nat.le_add_right _ _⟩
    show w.heap.size≤(((w.heap.modify b _)++os:Array Obj)).size
    rw[Array.size_append,Array.size_modify]
    omega⟩
end Cl
namespace Cl
open Go Vg T Api Ch Rep Conf Lg Rd
attribute [local irreducible] VO VC VA
section
variable {p:Nat} {S:aT} {b:Nat} {X:List lR}
theorem Wj(hml:S.aX.length≤100000)(h:bu Fr w p (nu S b))(hm:qM Fr w gx jq b X)(hX:iR X=S.aX):az Tryz.prog 14 [.pointer (some ⟨p,0,none⟩)] Fr w [] (fun v L=>∃(l:List bj) (a:Option Addr) (c:Nat),l.Perm (S.aX.map Prod.fst)∧v=.slice a l.length c∧L=[aA kc 2 a l.length c (flat d' l)]):=by
 obtain⟨es,clock,g1,g2,g3⟩:=hm.at_
 have hz:nW gx jq X es clock:=⟨g2,g3⟩
 have hXl:X.length=S.aX.length:=by rw[←hX];exact(cW ..).symm
 refine TF 27 Tryz.func14 Z ym aD Z Z ?_
 refine aw ?_
 refine Ii ?_
 refine kh ?_
 refine jH ?_
 refine PF ?_
 rintro _ _ ⟨q,rfl,rfl⟩
 refine lg ?_
 refine VC.block ?_
 refine VC.loop (σ:=pT bj yQ×List bj×Option Addr×Nat) (fun s=>[(11,pV q),(3,.slice s.2.2.1 s.2.1.length s.2.2.2)]) (fun s=>[tU q b clock s.1,aA kc 2 s.2.2.1 s.2.1.length s.2.2.2 (flat d' s.2.1)]) (fun s=>lz gx jq X es s.1∧s.2.1=s.1.map fun z=>z.2.1) (fun s=>X.length-s.1.length) ([],[],none,0)
  ⟨lz.nil,rfl⟩ aP (IP 0 rfl (aa.dM aa.nil)).ah ?_
 rintro⟨J,l,a,c⟩ ⟨hJ,hlJ⟩
 dsimp only at hJ hlJ ⊢
 have b2:=lz.len hz hJ
 have hlL:l.length=J.length:=by rw[hlJ,cW]
 refine ae ?_
 refine PG ?_
 rintro v L' (⟨rfl,rfl,hp⟩ | ⟨z,rfl,z1,z2,hok,rfl⟩)
 ·refine ae ?_
  refine VC.kM Z (CX ?_)
  refine ae ?_
  refine VG (VQ 1 rfl (fun Fr w hF hs hS=>XX Fr w (a:=a) (cap:=c) (l:=l) yd) rfl (ψ:=fun v H=>∃m:List bj,m.Perm l∧v=.tuple #[]∧H=aA kc 2 a l.length c (flat d' m)) (fun v L h=>by obtain⟨h1,m,h2,h3⟩:=h;exact⟨_,h3,m,h2,h1,rfl⟩) ?_)
  rintro _ _ ⟨m,hm2,rfl,rfl⟩
  refine ae ?_
  have hk:l.Perm (S.aX.map Prod.fst):=by
   have h1:=hp.map fun x:lR=>x.1
   rw[mV] at h1
   rw[hlJ,←hX]
   unfold iR
   rw[mV]
   exact h1
  exact CR (aq.tmp 2 Z Z (IP 1 Z aa.nil).ah ⟨m,a,c,hm2.trans hk,by rw[hm2.length_eq],by rw[hm2.length_eq]⟩)
 ·refine ae ?_
  refine VC.nj Z (CK ?_)
  refine ae ?_
  refine PH ?_
  have b3:=lz.len hz hok
  rw[a_] at b3
  simp at b3
  refine ae ?_
  refine VG (VO.alloc Z fun kb=>?_)
  refine PI ?_
  refine aj ?_
  refine VG (VI (Ut (pv:=[(0,.int .i64 z.2.1.1),(1,.int .i64 z.2.1.2)]) (d' z.2.1) Z Z Z Z Z) ?_)
  refine VG (VO.buildSlice (n:=1) (pv:=[(0,.agg (d' z.2.1).toArray)]) (d' z.2.1) Z Z Z Z yo (ji Z Z Z) fun nb=>?_)
  refine VG (VO.append (m:=1) (news:=d' z.2.1) 3 Z Z Z Z Z Z Z (fv.pt 0 Z Z Z) Z (wP (k:=1000000) yd yo) yd fun a2 c2 _=>?_)
  refine ae ?_
  have hlen:(l ++ [z.2.1]).length=l.length+1:=by simp
  refine⟨(J ++ [z],l ++ [z.2.1],a2,c2),⟨hok,by dsimp only;rw[hU,hlJ];rfl⟩,by show X.length-(J ++ [z]).length<X.length-J.length;rw[a_];simp;omega,SC Z (SC (by dsimp only;rw[hlen];rfl) (SN _)),?_⟩
  dsimp only
  rw[hlen,jU]
  exact(bm [3,0]).ah
end
end Cl
namespace Cl
open Go Vg T Api Ch Rep Conf Lg Rd
structure dU(c:aW):Prop where
 e1:1≤c.ar
 e2:c.ar≤1099511627776
 l1:1≤c.ms.length
 l2:c.ms.length≤6
 nd:(c.ms.map Prod.fst).Nodup
 mr:∀m∈c.ms,(0≤m.1∧m.1<6)∧1≤m.2∧m.2≤c.ar
 dr:c.drain=-1∨c.drain∈c.ms.map Prod.fst
theorem CV{ms:List aR}(hn:(ms.map Prod.fst).Nodup){i:Nat}{m:aR}(hm:ms[i]?=some m):placeOf ms m.1=i:=by
 refine Ms hm Z fun j m' hj hm' he=>?_
 have h1:(ms.map Prod.fst)[j]?=some m.1:=by rw[eh,hm',←he];rfl
 have h2:(ms.map Prod.fst)[i]?=some m.1:=by rw[eh,hm];rfl
 have hi:=(bY.1 h2).1
 have:=(List.getElem?_inj (by rw[cW] at hi ⊢;omega:j<(ms.map Prod.fst).length) hn).1 (h1.trans h2.symm)
 omega
theorem Al{ms:List aR}{n:Int}:placeOf ms n<0↔n∉ms.map Prod.fst:=by
 rcases ug ms n with h | ⟨i,m,h1,h2,h3,h4⟩
 ·rw[h]
  refine⟨fun _ hm=>?_,fun _=>by decide⟩
  obtain⟨m,hm2,rfl⟩:=bP.1 hm
  unfold placeOf at h
  cases hf:ms.findIdx? (fun x=>decide (x.1=m.1)) with
  | none=>
   have:=List.findIdx?_eq_none_iff.1 hf m hm2
   simp at this
  | some i=>rw[hf] at h;exact absurd h (by show ¬((i:Int)=-1);omega)
 ·rw[h1]
  refine⟨fun h=>by omega,fun h=>absurd (bP.2 ⟨m,ME h3,h4⟩) h⟩
theorem zi{c:aW}:e_ c=0↔dU c:=by
 have e0:e_ c=0↔kL c=true:=by unfold e_;split<;>simp_all
 rw[e0]
 unfold kL tT wI
 simp only[dN,Bool.or_eq_true,decide_eq_true_eq,lh,o6]
 constructor
 ·rintro⟨⟨a,b,c1,d⟩,h,hd⟩
  have hm:∀(i:Nat) (m:aR),c.ms[i]?=some m→(0≤m.1∧m.1<6)∧placeOf c.ms m.1=i∧1≤m.2∧m.2≤c.ar:=fun i m hi=>by
   have:=h i (bY.1 hi).1
   unfold pq ow at this
   rw[hi] at this
   simpa using this
  refine⟨a,b,c1,d,?_,fun m hm'=>?_,?_⟩
  ·unfold List.Nodup
   rw[List.pairwise_iff_getElem]
   intro i j hi hj hij he
   rw[cW] at hi hj
   rw[List.getElem_map,List.getElem_map] at he
   have h1:=(hm i _ (GE hi)).2.1
   have h2:=(hm j _ (GE hj)).2.1
   rw[he] at h1
   omega
  ·obtain⟨i,hi⟩:=oD hm'
   have:=hm i m hi
   exact⟨this.1,this.2.2⟩
  ·rcases hd with hd | hd
   ·exact .inl hd
   ·refine .inr ?_
    by_cases hx:c.drain∈c.ms.map Prod.fst
    ·exact hx
    ·have:=Al.2 hx;omega
 ·intro h
  refine⟨⟨h.e1,h.e2,h.l1,h.l2⟩,fun i hi=>?_,?_⟩
  ·have hi':c.ms[i]?=some c.ms[i]:=GE hi
   unfold pq ow
   rw[hi']
   have:=h.mr _ (ME hi')
   simp only[dN,decide_eq_true_eq]
   exact⟨this.1,CV h.nd hi',this.2⟩
  ·rcases h.dr with hd | hd
   ·exact .inl hd
   ·refine .inr ?_
    by_cases hx:placeOf c.ms c.drain<0
    ·exact absurd hd (Al.1 hx)
    ·omega
theorem SS{l:List Int}(hn:l.Nodup)(hr:∀x∈l,0≤x∧x<6):l.length≤6:=by
 have h1:(l.map Int.toNat).Nodup:=by
  unfold List.Nodup at hn ⊢
  rw[uM]
  refine hn.imp_of_mem fun {a b} ha hb h e=>h ?_
  have:=hr a ha
  have:=hr b hb
  omega
 have:=Cy (m:=List.range 6) h1 fun x hx=>by
  obtain⟨a,ha,rfl⟩:=bP.1 hx
  have:=hr a ha
  rw[o6]
  omega
 rw[cW,tr] at this
 exact this
theorem Fu{c:aW}(h:ia c=0):dU c∧c.ar<1099511627776:=by
 unfold ia at h
 split at h
 ·cases h
 ·rename_i h1
  have h2:e_ c=0:=by
   by_cases hx:e_ c=0
   ·exact hx
   ·exact absurd (.inl hx) h1
  have hv:=zi.1 h2
  have:=hv.e2
  refine⟨hv,?_⟩
  by_cases hx:c.ar=1099511627776
  ·exact absurd (.inr hx) h1
  ·omega
theorem dU.Oj{c:aW}{n:Int}(h:(e8 c n).2=0):dU (e8 c n).1:=by
 obtain⟨h1,h2,h3,h4⟩:=xJ h
 obtain⟨v,hlt⟩:=Fu h1
 have hn:0≤n∧n<6:=by unfold ow at h2;simpa using h2
 have hno:=Al.1 h3
 rw[h4]
 have hnd:((c.ms ++ [(n,c.ar+1)]).map Prod.fst).Nodup:=by
  rw[hU,ja]
  refine⟨v.nd,by simp,fun a ha b hb=>?_⟩
  simp at hb
  rw[hb]
  intro e;rw[e] at ha;exact hno ha
 have:=v.e1
 have hmr:∀m∈c.ms ++ [(n,c.ar+1)],(0≤m.1∧m.1<6)∧1≤m.2∧m.2≤c.ar+1:=fun m hm=>by
  rcases ez.1 hm with hm | hm
  ·have:=v.mr m hm;exact⟨this.1,this.2.1,by omega⟩
  ·rw[eA.1 hm];exact⟨hn,by show 1≤c.ar+1;omega,cd _⟩
 refine⟨by show 1≤c.ar+1;omega,by show c.ar+1≤_;omega,by show 1≤(c.ms ++ [_]).length;simp,?_,hnd,hmr,?_⟩
 ·show(c.ms ++ [(n,c.ar+1)]).length≤6
  have:=SS hnd fun x hx=>by
   obtain⟨m,hm,rfl⟩:=bP.1 hx
   exact(hmr m hm).1
  rwa[cW] at this
 ·rcases v.dr with hd | hd
  ·exact .inl hd
  ·exact .inr (by show c.drain∈(c.ms ++ [_]).map Prod.fst;rw[hU];exact ez.2 (.inl hd))
theorem dU.dy{c:aW}{n:Int}(h:(im c n).2=0):dU (im c n).1:=by
 obtain⟨h1,h2,h4⟩:=xK h
 obtain⟨v,hlt⟩:=Fu h1
 obtain⟨hp,hl⟩:=zZ h2
 obtain⟨i,m,h5,h6,h7,h8⟩:=vl hp
 rw[h4,h5]
 have:=v.e1
 have:=v.l1
 have:=v.l2
 have hs:(c.ms.eraseIdx i).Sublist c.ms:=List.eraseIdx_sublist ..
 have hlen:(c.ms.eraseIdx i).length=c.ms.length-1:=List.length_eraseIdx_of_lt h6
 show dU ⟨c.ar+1,c.ms.eraseIdx i,if c.drain=n then -1 else c.drain⟩
 refine⟨by show 1≤c.ar+1;omega,by show c.ar+1≤_;omega,by show 1≤(c.ms.eraseIdx i).length;omega,by show(c.ms.eraseIdx i).length≤6;omega,(hs.map _).nodup v.nd,fun m hm=>by
  have:=v.mr m (hs.subset hm)
  exact⟨this.1,this.2.1,by show m.2≤c.ar+1;omega⟩,?_⟩
 show(if c.drain=n then -1 else c.drain)=-1∨(if c.drain=n then -1 else c.drain)∈(c.ms.eraseIdx i).map Prod.fst
 split
 ·exact .inl rfl
 ·rename_i hd
  rcases v.dr with h | h
  ·exact .inl h
  ·refine .inr ?_
   obtain⟨m',hm',he⟩:=bP.1 h
   obtain⟨j,hj⟩:=oD hm'
   rw[←he]
   refine bP.2 ⟨m',?_,Z⟩
   rw[List.mem_eraseIdx_iff_getElem?]
   refine⟨j,fun e=>hd ?_,hj⟩
   rw[e,h7] at hj
   cases hj
   rw[←he,h8]
theorem dU.J9{c:aW}{n:Int}(h:(gh c n).2=0):dU (gh c n).1:=by
 obtain⟨h1,h2,h3,h4⟩:=zr h
 obtain⟨v,hlt⟩:=Fu h1
 obtain⟨hp,hl⟩:=zZ h2
 rw[h4]
 have:=v.e1
 refine⟨by show 1≤c.ar+1;omega,by show c.ar+1≤_;omega,v.l1,v.l2,v.nd,fun m hm=>by
  have:=v.mr m hm
  exact⟨this.1,this.2.1,by show m.2≤c.ar+1;omega⟩,.inr ?_⟩
 show n∈c.ms.map Prod.fst
 by_cases hx:n∈c.ms.map Prod.fst
 ·exact hx
 ·have:=Al.2 hx;omega
theorem dU.gone{M:aE}{n:Int}(h:M.kB n=0):dU (M.gone n).ch:=dU.dy h
theorem Oh{now:Int}:∀(l:List aR) (x:aE×Bool),dU x.1.ch→dU (aE.watch now l x).1.ch
 | [],_,h=>h
 | y::l,x,h=>by
  rw[aE.watch]
  refine Oh l _ ?_
  split
  ·rename_i hl
   unfold aE.late at hl
   simp only[dN,decide_eq_true_eq] at hl
   exact dU.gone hl.2.2
  ·exact h
theorem Vn{M:aE}(h:dU M.ch)(from_:Int)(f:ay)(now:Int):dU (M.take from_ f now).1.ch:=by
 unfold aE.take
 split
 ·exact h
 split
 ·exact h
 split
 ·split
  ·exact h
  split<;>exact h
 split
 ·split
  ·exact h
  split<;>exact h
 split
 ·split
  ·rename_i hh;exact dU.gone hh.2.2
  ·exact h
 ·exact h
theorem Vk{M:aE}(h:dU M.ch)(n:Int):dU (M.eQ n).1.ch:=by
 unfold aE.eQ
 split
 ·exact h
 split
 ·exact h
 ·rename_i hh;exact dU.gone D'
theorem U0{M:aE}(h:dU M.ch)(n:Int):dU (M.drain n).1.ch:=by
 unfold aE.drain
 split
 ·exact h
 split
 ·exact h
 ·rename_i hh;exact dU.J9 D'
theorem Vd{M:aE}(h:dU M.ch)(n now:Int):dU (M.join n now).1.ch:=by
 unfold aE.join
 split
 ·exact h
 split
 ·exact h
 ·rename_i hh;exact dU.Oj D'
theorem Ff{c:bh}(h:c=bI c):dU (b_ c):=by
 have hb:=lX h
 have hm:(b_ c).ms=jj c.chain.toNat:=rfl
 refine⟨cd _,by show(1:Int)≤_;decide,by rw[hm,uU];omega,by rw[hm,uU];omega,?_,fun m hx=>?_,.inl Z⟩
 ·rw[hm]
  unfold jj List.Nodup
  rw[mV,uM]
  refine List.nodup_range.imp fun {a b} h e=>h ?_
  have e:((a:Nat):Int)=(b:Nat):=e
  omega
 ·rw[hm] at hx
  unfold jj at hx
  obtain⟨i,hi,rfl⟩:=bP.1 hx
  have:=o6.1 hi
  exact⟨⟨by show(0:Int)≤i;omega,by show(i:Int)<6;omega⟩,cd _,cd _⟩
end Cl
namespace Cl
open Go Vg T Api Ch Rep Conf Lg Rd
section
variable {C:al} {b e:Nat} {k:Int}
theorem Hf:C.tick.au=C.au:=by
 have h1:∀(l:List Nat) {D:al},(l.foldl al.bA D).au=D.au:=by
  intro l
  induction l with
  | nil=>exact rfl
  | cons x l ih=>
   intro D
   rw[oZ,ih]
   unfold al.bA
   split<;>rfl
 have h2:∀(l:List Nat) {D:al},(l.foldl al.eV D).au=D.au:=by
  intro l
  induction l with
  | nil=>exact rfl
  | cons x l ih=>
   intro D
   rw[oZ,ih]
   unfold al.eV
   split<;>rfl
 exact(h2 _).trans (h1 _)
theorem aa7(hv:dU C.au.ch)(from_ to:Int)(f:ay)(ms:List aR):dU (C.fJ from_ to f ms).au.ch:=by
 unfold al.fJ
 split
 ·exact Vn hv _ _ _
 split
 ·exact hv
 split
 ·exact hv
 ·exact hv
theorem Sb(hv:dU C.au.ch)(p:bj)(i:Int):dU (C.fj p i).1.au.ch:=by
 unfold al.fj
 split
 ·exact hv
 ·show dU (al.iu _ _ _ _).au.ch
  unfold al.iu
  split
  ·exact aa7 (C:=({ C with aB:=C.aB.dy p i }:al)) hv _ _ _ _
  ·exact hv
end
end Cl
namespace Cl
open Go Vg T Api Ch Rep Conf Lg Rd
section
variable {C:al} {b e:Nat} {k:Int}
theorem abm:C.tick.cP=C.cP:=by
 have h1:∀(l:List Nat) {D:al},(l.foldl al.bA D).cP=D.cP:=by
  intro l
  induction l with
  | nil=>exact rfl
  | cons x l ih=>
   intro D
   rw[oZ,ih]
   unfold al.bA
   split<;>rfl
 have h2:∀(l:List Nat) {D:al},(l.foldl al.eV D).cP=D.cP:=by
  intro l
  induction l with
  | nil=>exact rfl
  | cons x l ih=>
   intro D
   rw[oZ,ih]
   unfold al.eV
   split<;>rfl
 exact(h2 _).trans (h1 _)
theorem aa8(from_ to:Int)(f:ay)(ms:List aR):(C.fJ from_ to f ms).cP=C.cP:=by
 unfold al.fJ
 split
 ·rfl
 split
 ·rfl
 split<;>rfl
theorem Ex(n:Int):(C.back n).cP=C.cP∧(C.back n).au=C.au:=by
 unfold al.back
 split<;>exact⟨rfl,rfl⟩
theorem X9(s:cB):(C.step s).1.cP=C.cP∧(dU C.au.ch→dU (C.step s).1.au.ch):=by
 by_cases k1:s.kind=1
 ·rw[vw C k1]
  unfold al.call
  split
  ·exact⟨rfl,fun h=>h⟩
  split<;>exact⟨rfl,fun h=>h⟩
 by_cases k2:s.kind=2
 ·rw[vz C k2]
  cases C.node s.a<;>exact⟨rfl,fun h=>h⟩
 by_cases k3:s.kind=3
 ·rw[vA C k3]
  exact⟨abm,fun h=>by show dU C.tick.au.ch;rw[Hf];exact h⟩
 by_cases k4:s.kind=4
 ·rw[ur C k4]
  refine⟨?_,fun h=>Sb h _ _⟩
  unfold al.fj
  split
  ·rfl
  ·show(al.iu _ _ _ _).cP=_
   unfold al.iu
   split
   ·exact aa8 _ _ _ _
   ·rfl
 by_cases k5:s.kind=5
 ·rw[vB C k5];exact⟨rfl,fun h=>h⟩
 by_cases k6:s.kind=6
 ·rw[vC C k6];exact⟨rfl,fun h=>h⟩
 by_cases k7:s.kind=7
 ·rw[vD C k7]
  split<;>exact⟨rfl,fun h=>h⟩
 by_cases k8:s.kind=8
 ·rw[vE C k8];exact⟨rfl,fun h=>Vk h _⟩
 by_cases k9:s.kind=9
 ·rw[vF C k9]
  unfold al.join
  dsimp only
  split
  ·exact⟨rfl,fun h=>h⟩
  ·refine⟨(Ex (C:=({ C with au:=(C.au.join s.a C.now).1 }:al)) s.a).1,fun h=>?_⟩
   show dU (({ C with au:=(C.au.join s.a C.now).1 }:al).back s.a).au.ch
   rw[(Ex (C:=({ C with au:=(C.au.join s.a C.now).1 }:al)) s.a).2]
   exact Vd h _ _
 by_cases k10:s.kind=10
 ·rw[vx C k10];exact⟨rfl,fun h=>U0 h _⟩
 by_cases iS:s.kind=11
 ·rw[vy C iS];exact⟨rfl,fun h=>Oh _ _ h⟩
 ·rw[vG C fun j h1 h2=>by
   rcases(by omega:j=1∨j=2∨j=3∨j=4∨j=5∨j=6∨j=7∨j=8∨j=9∨j=10∨j=11) with rfl | rfl | rfl | rfl | rfl | rfl | rfl | rfl | rfl | rfl | rfl<;>assumption]
  exact⟨rfl,fun h=>h⟩
theorem EZ(s:cB):(C.bf s).1.cP=C.cP∧(dU C.au.ch→dU (C.bf s).1.au.ch):=X9 s
structure tE(F:bh)(C:al)(i:Nat):Prop where
 ok:C.Ok i (7*i)
 cf:C.cP=F
 EP:dU C.au.ch
theorem tE.bf{F:bh}{C:al}{i:Nat}(h:tE F C i)(hi:i<100000)(s:cB):tE F (C.bf s).1 (i+1):=
 ⟨(h.ok.bf yd yd s).mono (NR _) yd,(EZ s).1.trans h.cf,(EZ s).2 h.EP⟩
theorem tE.new{F:bh}(h:F=bI F):tE F (mO F) 0:=⟨Vs h,rfl,Ff h⟩
theorem Kk{S:aT}(ok:S.Ok)(ha:S.ln):S.aX.length≤1444:=by
 have h1:((S.aX.map Prod.fst).map fun p:bj=>p.1.toNat*38+p.2.toNat).Nodup:=by
  have hn:=ok.nd
  unfold List.Nodup at hn ⊢
  rw[uM]
  refine hn.imp_of_mem fun {a b} hma hmb h e=>h ?_
  obtain⟨x,hx,rfl⟩:=bP.1 hma
  obtain⟨z,hz,rfl⟩:=bP.1 hmb
  have x1:=tG (ha x hx).1
  have x2:=tG (ha x hx).2
  have z1:=tG (ha z hz).1
  have z2:=tG (ha z hz).2
  have:x.1.1=z.1.1∧x.1.2=z.1.2:=by omega
  exact Prod.ext this.1 this.2
 have:=Cy (m:=List.range 1444) h1 fun n hn=>by
  obtain⟨q,hq,rfl⟩:=bP.1 hn
  obtain⟨x,hx,rfl⟩:=bP.1 hq
  have x1:=tG (ha x hx).1
  have x2:=tG (ha x hx).2
  rw[o6]
  omega
 rw[cW,cW,tr] at this
 exact this
end
end Cl
namespace Cl
open Go Vg T Api Ch Rep Conf Lg Rd
attribute [local irreducible] VO VC VA
section
variable {p:Nat} {C:al} {y:fV} {b e:Nat}
theorem K_(ok:C.aB.Ok)(h:a8 Fr [cV p C] w):az Tryz.prog 13 [.pointer (some ⟨p,0,none⟩)] Fr w [] (fun v L=>∃q m,m.Perm C.aB.aX∧v=.pointer (some ⟨q,0,none⟩)∧L=[de q ⟨C.aB.cap,m⟩]):=by
 obtain⟨y,fit,hy⟩:=wG h
 exact abI Fr w ok (hy.aC 0 Z) (hy.at_ 5 Z)
theorem La{q:Nat}{S:aT}(hml:S.aX.length≤100000)(h:a8 Fr [de q S] w):az Tryz.prog 14 [.pointer (some ⟨q,0,none⟩)] Fr w [] (fun v L=>∃(l:List bj) (a:Option Addr) (c:Nat),l.Perm (S.aX.map Prod.fst)∧v=.slice a l.length c∧L=[aA kc 2 a l.length c (flat d' l)]):=by
 obtain⟨lb,X,hX,hs⟩:=K6 h
 exact Wj Fr w hml (hs.aC 0 Z) (hs.Aa 1 Z) hX
end
end Cl
namespace Vg
open Go
def pJ(l:Nat):Value:=.func (.yield l) #[] #[]
def fS(l:Nat)(r:Loop):HP:=⟨fun ids w=>ids=[l]∧w.heap[l]?=some (.loop r),fun _ _ _ h hs=>⟨hs.1,(h l yb).trans hs.2⟩⟩
def tN(D:Nat):HP:=⟨fun ids w=>ids=[D]∧w.heap[D]?=some (.deferred (some [])),fun _ _ _ h hs=>⟨hs.1,(h D yb).trans hs.2⟩⟩
theorem Sat.putObj{Fr:Nat→Prop}{H H':HP}{L:List HP}{w:World}{b:Nat}{o:Obj}(hH:∀ids,H.sat ids w→ids=[b])(hH':b<w.heap.size→H'.sat [b] (w.putObj b o))(h:Sat Fr (H::L) w):
  Sat Fr (H'::L) (w.putObj b o)∧dG Fr w (w.putObj b o):=by
 obtain⟨F,⟨i,G,rfl,hi,hG⟩,hn,hb⟩:=h
 obtain rfl:=hH i hi
 have hd:=(ja.1 hn).2.2
 have hne:∀x∈G,x≠b:=fun x hx e=>hd b yf x hx e.symm
 refine⟨⟨[b]++G,⟨[b],G,Z,hH' (hb b yf).2,hG.loc fun x hx=>World.putObj_heap_other (hne x hx)⟩,hn,fun x hx=>⟨(hb x hx).1,by rw[World.putObj_size];exact(hb x hx).2⟩⟩,?_⟩
 exact⟨rfl,Z,Z,by rw[World.putObj_size];exact NR _,fun x hx=>World.putObj_heap_other (fun e=>(hb b yf).1 (e▸hx)),NR _⟩
theorem Sat.lp{Fr:Nat→Prop}{L:List HP}{w:World}{l:Nat}{r:Loop}(h:Sat Fr (fS l r::L) w):w.heap[l]?=some (.loop r):=by
 obtain⟨F,⟨i,G,rfl,hi,hG⟩,hn,hb⟩:=h
 exact hi.2
theorem Sat.FR{Fr:Nat→Prop}{L:List HP}{w:World}{l:Nat}{r:Loop}(q:Loop)(h:Sat Fr (fS l r::L) w):Sat Fr (fS l q::L) (w.putObj l (.loop q))∧dG Fr w (w.putObj l (.loop q)):=
 Sat.putObj (H:=fS l r) (H':=fS l q) (fun _ h=>h.1) (fun hl=>⟨rfl,World.putObj_heap_same hl⟩) h
def yV(P:Program)(l:Nat)(r:Loop)(vals:List Value)(Fr:Nat→Prop)(w:World)(L:List HP)(R:Value→List HP→Prop):Prop:=
 (∀b,Fr b→b<w.heap.size)→Sat Fr (fS l r::L) w →
  RoundIn Fence.wide 0 P l r.fn ((r.params.zip vals.toArray).foldl (fun tmps (t,a)=>tmps.setIfInBounds t a) r.tmps) r.assign r.body w fun en w'=>∃v L',en=.returned v∧R v L'∧Sat Fr (fS l r::L') w'∧dG Fr w w'
theorem yV.of{P:Program}{tab:m_}{ok:pR P tab}{n l:Nat}{r:Loop}{vals:List Value}{Fr:Nat→Prop}{w:World}{L:List HP}{R:Value→List HP→Prop}{e0:Env}(hst:r.state=.ready)(hpe:r.pending=none)
  (ha:dO n { tmps:=(r.params.zip vals.toArray).foldl (fun tmps (t,a)=>tmps.setIfInBounds t a) r.tmps,defers:=[] } e0)
  (h:∀w,VC ⟨P,tab,ok,n,Fr,w⟩ r.assign e0 (fS l r::L) fun x e1 L1=>x=.normal∧∃L2,L1=fS l r::L2 ∧
   ∀w,VC ⟨P,tab,ok,n,Fr,w⟩ r.body e1 (fS l { r with state:=.busy } :: L2) fun x e2 L3=>x=.normal∧∃L4,L3=fS l { r with state:=.busy } :: L4∧R (.bool true) L4):
  yV P l r vals Fr w L R:=fun hlow hs=>by
 refine roundIn_of_wpIn (F:=Fence.wide) trivial ?_
 have h1:=h w (some l) _ w ha ⟨hs,dG.refl _ _,hlow⟩
 refine wpIn_mono (F:=wR (some l)) h1 ?_
 rintro x a1 w1 ⟨e1,L1,g1,g2,rfl,L2,rfl,hb⟩
 have hl1:=g2.sat.lp
 obtain⟨s2,k2⟩:=g2.sat.FR { r with state:=.busy }
 refine⟨_,run_beginRound hl1 hst,?_⟩
 have hlow2:∀b,Fr b→b<(w1.putObj l (.loop { r with state:=.busy })).heap.size:=fun b hb=>by rw[World.putObj_size];exact g2.me b hb
 refine wpIn_mono (F:=wR (some l)) (hb (w1.putObj l (.loop { r with state:=.busy })) (some l) a1 _ g1 ⟨s2,dG.refl _ _,hlow2⟩) ?_
 rintro x a2 w2 ⟨e2,L3,g3,g4,rfl,L4,rfl,hR⟩
 obtain⟨s5,k5⟩:=g4.sat.FR r
 have he:({ ({ r with state:=LoopState.busy }:Loop) with state:=if (none:Option Code).isNone then .ready else .done,pending:=none }:Loop)=r:=by
  obtain⟨_,_,_,_,_,_,_,_⟩:=r
  dsimp only at hst hpe
  subst hst hpe
  rfl
 refine⟨_,_,run_endRound none g4.sat.lp,?_⟩
 rw[he]
 exact⟨_,L4,Z,hR,s5,((g2.cS.trans k2).trans g4.cS).trans k5⟩
def qN(X:Cx)(op:Op)(e:Env)(L:List HP)(M:Value→List HP→Prop):Prop:=
 (∀c,op≠.defer c)∧∀a w,dO X.n a e→St X L w→∀dst ty pos after guard,∃l f tmps assign body,(execOp a.eval ⟨dst,op,ty,pos,after,guard⟩).run X.P w=.ok (.round l f tmps assign body) w ∧
  RoundIn Fence.wide 0 X.P l f tmps assign body w fun en w'=>∃v L',en=.returned v∧M v L'∧St X L' w'
theorem qN.wp{X:Cx}{o:Oper}{e:Env}{L:List HP}{M:Value→List HP→Prop}(h:qN X o.op e L M){a:Act}{w:World}(ha:dO X.n a e)(hw:St X L w){ro:Option Nat}
  {next:Act→World→Prop} {Q:Exit→Act→World→Prop} (hn:∀v L' w',M v L'→St X L' w'→next (a.put o.dst v) w'):o.wpIn (wR ro) 0 X.P a w next Q:=by
 refine⟨fun _ _=>trivial,?_⟩
 rw[GX ro _ _ h.1]
 obtain⟨l,f,tmps,assign,body,hr,hc⟩:=h.2 a w ha hw o.dst o.type o.pos o.after o.guard
 rw[hr]
 refine⟨(fun h=>by cases h),RoundIn.mono (F:=wR ro) hc fun en w' ⟨v,L',he,hm,hs⟩=>?_⟩
 subst he
 exact hn v L' w' hm hs
theorem VO.Aj{X:Cx}{ops:Array Oper}{G:GS}{o:Oper}{l:List Oper}{e:Env}{L:List HP}{K:Env→List HP→Prop}{M:Value→List HP→Prop}(h:qN X o.op e L M)
  (hk:∀v L',M v L'→VO X ops G l (bX o.dst v e) L' K) (hg:cy ops G o.guard=some true:=by rfl) (hd:cL X.n o.dst=true:=by rfl) (hf:cD G o.dst=true:=by rfl):VO X ops G (o::l) e L K:=by
 intro Q' hQ ro a w ha hG hw
 unfold wpListIn
 rw[if_pos (pj hG hg)]
 exact h.wp ha hw fun v L' w' hm hs=>hk v L' hm Q' hQ _ _ _ (ha.bX hd v) (hG.put hf v) hs
theorem VA.Aj{X:Cx}{ops:Array Oper}{G:GS}{pl:iE}{S:kk}{e:Env}{L:List HP}{K:Env→List HP→Prop}{i:Nat}{o:Oper}{M:Value→List HP→Prop}(h:qN X o.op e L M)(hi:ops.toList[i]?=some o)
  (hst:∀v L',M v L'→∀w,St X L' w→∀p∈S,waits ops i p.1=false→p.2 w)
  (hk:∀v L',M v L'→VA X ops G pl (S.filter fun p=>!waits ops i p.1) (bX o.dst v e) L' K)
  (hg:cy ops G o.guard=some true:=by rfl) (hd:cL X.n o.dst=true:=by rfl) (hf:cD G o.dst=true:=by rfl):VA X ops G (.only i pl) S e L K:=by
 intro Q' hp0 hQ hsel ro listed a w hp ha hG hw hall
 simp only[nA,dN,beq_iff_eq] at hp
 have hi':ops[i]?=some o:=by simpa using hi
 have hpr:=hp.1
 refine⟨fun h0=>yh,fun j hj=>?_⟩
 rw[hpr,eA] at hj
 subst hj
 unfold wpOpIn
 rw[hi']
 simp only[pj hG hg,if_true]
 refine h.wp ha hw (fun v L' w' hm hs=>⟨fun p hp1 hp2=>hst v L' hm w' hs p hp1 hp2,?_⟩)
 exact OA
theorem qN.yield{X:Cx}{x:Operand}{l:Nat}{r:Loop}{args:Array Operand}{tys:Array TypeId}{e:Env}{L Lc Lr:List HP}{vals:List Value}{R:Value→List HP→Prop}
  (hx:ev e x=some (pJ l)) (hargs:fy e args.toList=some vals) (hn:vals.length=r.params.size) (hp:L.Perm (fS l r::(Lc++Lr)))
  (ht:∀Fr' w,(∀b,X.Fr b→Fr' b)→St X L w→a8 Fr' Lr w→yV X.P l r vals Fr' w Lc R):
  qN X (.call ⟨.value x,args,tys⟩) e L (fun v L'=>∃L1,R v L1∧L'=fS l r::(L1++Lr)):=by
 refine⟨fun c=>Op.noConfusion,fun a w ha hw dst ty pos after guard=>?_⟩
 obtain⟨F,hs,hnd,hb⟩:=hw.sat.perm hp
 obtain⟨i,G,rfl,hi,hG⟩:=hs
 obtain⟨rfl,hl⟩:=hi
 obtain⟨Fc,Fl,rfl,hsc,hsl⟩:=ei.append.1 hG
 have T:=ht (fun b=>X.Fr b∨b∈Fl) w (fun b h=>.inl h) hw ⟨Fl,hsl,fun b h=>.inr h⟩
 have hev:args.map a.eval=vals.toArray:=by
  have:=ha.fy hargs
  apply nK.1
  simpa using this
 refine⟨l,r.fn,(r.params.zip vals.toArray).foldl (fun tmps (t,a)=>tmps.setIfInBounds t a) r.tmps,r.assign,r.body,?_,?_⟩
 rotate_left
 ·have hnd2:=ja.1 hnd
  have hnd3:=ja.1 hnd2.2.1
  refine RoundIn.mono (T (fun b h=>?_) ⟨[l]++Fc,⟨[l],Fc,Z,⟨rfl,hl⟩,hsc⟩,?_,fun b h=>⟨fun h'=>?_,?_⟩⟩) fun en w' ⟨v,L',h1,h2,h3,h4⟩=>?_
  ·rcases h with h | h
   ·exact hw.me b h
   ·exact(hb b ya).2
  ·rw[←eL] at hnd
   exact(ja.1 hnd).1
  ·rcases h' with h' | h'
   ·refine(hb b ?_).1 h'
    rcases ez.1 h with h | h
    ·simp at h;simp[h]
    ·simp[h]
   ·rcases ez.1 h with h | h
    ·exact hnd2.2.2 b h b (by simp[h']) rfl
    ·exact hnd3.2.2 b h b h' rfl
  ·rcases ez.1 h with h | h
   ·exact(hb b (by simp at h;simp[h])).2
   ·exact(hb b ya).2
  ·refine⟨v,fS l r::(L'++Lr),h1,⟨L',h2,Z⟩,⟨?_,hw.cS.trans (h4.mono fun b h=>.inl h),hw.low⟩⟩
   obtain⟨K,hK,hKn,hKb⟩:=h3
   refine⟨K++Fl,ei.append (L:=fS l r::L').2 ⟨K,Fl,Z,hK,hsl.loc fun b h=>h4.block b (.inr h)⟩,?_,?_⟩
   ·exact ja.2 ⟨hKn,hnd3.2.1,fun x hx y hy he=>(hKb x hx).1 (.inr (he▸hy))⟩
   ·intro b h
    rcases ez.1 h with h | h
    ·exact⟨fun h'=>(hKb b h).1 (.inl h'),(hKb b h).2⟩
    ·exact Ht
 ·have hy:=run_yield (P:=X.P) (args:=vals.toArray) hl (by simpa using hn)
  simp only[execOp,resolve,ha.ev hx,pJ,Deferred.ofValue,invoke]
  rw[hev]
  simpa[Sem.run_bind,Result.andThen] using hy
def w8(D:Nat):Deferred:={ target:=.collected D,args:=#[] }
structure El(D n:Nat)(a:Act)(e:Env):Prop where
 I7:dO n { a with defers:=[] } e
 mark:a.defers=[w8 D]
def VD(X:Cx)(D:Nat)(c:Code)(e:Env)(L:List HP)(Q:Exit→Env→List HP→Prop):Prop:=
 ∀a w,El D X.n a e→St X L w→c.wpIn (wR none) 0 X.P (fun x a' w'=>∃e' L',El D X.n a' e'∧St X L' w'∧Q x e' L') a w
def VM(X:Cx)(c:Code)(e:Env)(L:List HP)(Q:Exit→Env→List HP→Prop)(QD:Nat→Exit→Env→List HP→Prop):Prop:=
 ∀a w,dO X.n a e→St X L w→c.wpIn (wR none) 0 X.P (fun x a' w'=>(∃e' L',dO X.n a' e'∧St X L' w'∧Q x e' L')∨∃D e' L',El D X.n a' e'∧St X L' w'∧QD D x e' L') a w
def Dg(X:Cx)(D:Nat)(c:Code)(Q:Exit→Env→List HP→Prop):Exit→Env→List HP→Prop
 | .normal,e,L=>VD X D c e L Q
 | x,e,L=>Q x e L
def XB(X:Cx)(c:Code)(Q:Exit→Env→List HP→Prop)(QD:Nat→Exit→Env→List HP→Prop):Exit→Env→List HP→Prop
 | .normal,e,L=>VM X c e L Q QD
 | x,e,L=>Q x e L
section
variable {X:Cx} {D:Nat} {b c:Code} {e:Env} {L:List HP} {Q:Exit→Env→List HP→Prop} {QD:Nat→Exit→Env→List HP→Prop}
theorem VD.ret(h:Q .ret e L):VD X D .ret e L Q:=fun _ _ ha hw=>wpIn_ret ⟨e,L,ha,hw,h⟩
theorem VD.seq(h:VD X D b e L (Dg X D c Q)):VD X D (.seq b c) e L Q:=by
 intro a w ha hw
 refine wpIn_seq (wpIn_mono (h a w ha hw) fun x a' w' ⟨e',L',h1,h2,h3⟩=>?_)
 cases x with
 | normal=>exact h3 a' w' h1 h2
 | exit id=>exact⟨e',L',h1,h2,h3⟩
 | goto l=>exact⟨e',L',h1,h2,h3⟩
 | ret=>exact⟨e',L',h1,h2,h3⟩
 | panic ch=>exact⟨e',L',h1,h2,h3⟩
 | outgrown=>exact⟨e',L',h1,h2,h3⟩
theorem Oo{F:Fence}{n:Nat}{P:Program}{ops:Array Oper}{K:Exit→Act→World→Prop}(ds:List Deferred):∀(l:List Oper) (a:Act) (w:World),wpListIn F n P ops K l a w →
  wpListIn F n P ops (fun x a' w'=>∃a0,K x a0 w'∧a'={ a0 with defers:=a0.defers++ds }) l { a with defers:=a.defers++ds } w
 | [],a,w,h=>⟨a,h,rfl⟩
 | o::l,a,w,h=>by
  have hput:∀(a:Act) v,({ a with defers:=a.defers++ds }:Act).put o.dst v={ a.put o.dst v with defers:=(a.put o.dst v).defers++ds }:=fun a v=>by
   cases hd:o.dst<;>rfl
  have ih:=Oo (F:=F) (n:=n) (P:=P) (ops:=ops) (K:=K) ds l
  unfold wpListIn at h ⊢
  dsimp only
  split
  ·rename_i hw
   rw[if_pos hw] at h
   refine⟨h.1,?_⟩
   have h:=h.2
   have he:({ a with defers:=a.defers++ds }:Act).eval=a.eval:=rfl
   rw[he]
   generalize (o.semAt F.round a.eval).run P w=r at h ⊢
   cases r with
   | ok x w'=>
    cases x<;>simp only[Oper.uponIn] at h ⊢
    case value u=>rw[hput];exact ih _ _ h
    case skip=>rw[hput];exact ih _ _ h
    case defer d=>
     have:=ih _ _ h
     rw[show({ a with defers:=d::(a.defers++ds) }:Act)={ ({ a with defers:=d::a.defers }:Act) with defers:=({ a with defers:=d::a.defers }:Act).defers++ds } from rfl,hput]
     exact this
    case enter f args=>
     refine⟨h.1,CallsIn.mono h.2 fun e w'' he=>?_⟩
     cases e with
     | returned u=>dsimp only at he ⊢;rw[hput];exact ih _ _ he
     | panicked c=>exact⟨a,he,rfl⟩
     | outgrown=>obtain⟨a0,w0,hq⟩:=he;exact⟨_,w0,a0,hq,rfl⟩
    case row row args=>exact⟨h.1,RowsIn.mono h.2 fun u w'' he=>by rw[hput];exact ih _ _ he⟩
    case round l f tmps assign body=>
     refine⟨h.1,RoundIn.mono h.2 fun e w'' he=>?_⟩
     cases e with
     | returned u=>dsimp only at he ⊢;rw[hput];exact ih _ _ he
     | panicked c=>exact⟨a,he,rfl⟩
     | outgrown=>obtain⟨a0,w0,hq⟩:=he;exact⟨_,w0,a0,hq,rfl⟩
   | halt x w'=>
    cases x<;>simp only[Oper.uponIn] at h ⊢
    case panic u=>exact⟨a,h,rfl⟩
  ·rename_i hw
   rw[if_neg hw] at h
   refine⟨h.1,?_⟩
   rw[hput]
   exact ih _ _ h.2
theorem VD.region{id:Nat}{l:List Oper}(h:VO X l.toArray [] l e L (Q .normal)):VD X D (.region id l.toArray false) e L Q:=by
 intro a w ha hw
 have h0:=h (fun x a' w'=>x=.normal∧∃e' L',dO X.n a' e'∧St X L' w'∧Q .normal e' L') (fun e' L' _ _ h1 h2 h3=>⟨rfl,e',L',h1,h2,h3⟩) none { a with defers:=[] } w ha.I7 (nT.nil _) hw
 have h1:=Oo [w8 D] l _ _ h0
 have e1:({ ({ a with defers:=[] }:Act) with defers:=({ a with defers:=[] }:Act).defers ++ [w8 D] }:Act)=a:=by
  have:=ha.mark
  obtain⟨t,d⟩:=a
  dsimp only at this
  subst this;rfl
 rw[e1] at h1
 refine wpIn_mono (wpIn_region_lit h1) ?_
 rintro x a' w' ⟨a0,⟨rfl,e',L',h2,h3,h4⟩,rfl⟩
 have hd0:=h2.defers
 refine⟨e',L',⟨?_,?_⟩,h3,h4⟩
 ·obtain⟨t,d⟩:=a0
  dsimp only at hd0
  subst hd0
  exact h2
 ·show a0.defers ++ [w8 D]=_
  rw[hd0];rfl
theorem VM.G3(h:VC X b e L (XB X c Q QD)):VM X (.seq b c) e L Q QD:=by
 intro a w ha hw
 refine wpIn_seq (wpIn_mono (h none a w ha hw) fun x a' w' ⟨e',L',h1,h2,h3⟩=>?_)
 cases x with
 | normal=>exact h3 a' w' h1 h2
 | exit id=>exact .inl ⟨e',L',h1,h2,h3⟩
 | goto l=>exact .inl ⟨e',L',h1,h2,h3⟩
 | ret=>exact .inl ⟨e',L',h1,h2,h3⟩
 | panic ch=>exact .inl ⟨e',L',h1,h2,h3⟩
 | outgrown=>exact .inl ⟨e',L',h1,h2,h3⟩
theorem VM.Dg(h:VM X b e L (fun _ _ _=>False) (fun D=>Dg X D c (QD D))):VM X (.seq b c) e L Q QD:=by
 intro a w ha hw
 refine wpIn_seq (wpIn_mono (h a w ha hw) fun x a' w' hh=>?_)
 rcases hh with ⟨_,_,_,_,h3⟩ | ⟨D,e',L',h1,h2,h3⟩
 ·exact h3.elim
 cases x with
 | normal=>exact wpIn_mono (h3 a' w' h1 h2) fun x a2 w2 ⟨e2,L2,k1,k2,k3⟩=>.inr ⟨D,e2,L2,k1,k2,k3⟩
 | exit id=>exact .inr ⟨D,e',L',h1,h2,h3⟩
 | goto l=>exact .inr ⟨D,e',L',h1,h2,h3⟩
 | ret=>exact .inr ⟨D,e',L',h1,h2,h3⟩
 | panic ch=>exact .inr ⟨D,e',L',h1,h2,h3⟩
 | outgrown=>exact .inr ⟨D,e',L',h1,h2,h3⟩
theorem VM.block{id:Nat}(h:VM X c e L (fun _ _ _=>False) (fun D x e L=>x=.normal∧QD D .normal e L)):VM X (.block id c) e L (fun _ _ _=>False) QD:=by
 intro a w ha hw
 refine wpIn_block (wpIn_mono (h a w ha hw) fun x a' w' hh=>?_)
 rcases hh with ⟨_,_,_,_,h3⟩ | ⟨D,e',L',h1,h2,rfl,h3⟩
 ·exact h3.elim
 ·exact .inr ⟨D,e',L',h1,h2,h3⟩
theorem VM.W5{g:Operand}{ps:Array Tmp}{assign body:Code}{f:FuncId}{capt:List Value}{M:List HP→Prop}(hg:ev e g=some (gk f [] capt))(hc:tz X.P f)
  (ht:∀(l:Nat) (r:Loop) (Fr':Nat→Prop) (w:World),(∀b,X.Fr b→Fr' b)→dG X.Fr X.w0 w→(∃a:Act,dO X.n a e∧r.tmps=a.tmps)→r.state=.ready→r.pending=none→r.params=ps→r.assign=assign→r.body=body →
   az X.P f (pJ l::capt) Fr' w (fS l r::L) fun _ L'=>∃L2,L'=fS l r::L2∧M L2)
  (hk:∀D L2,M L2→QD D .normal e (tN D::L2)):VM X (.rangeFunc g ps assign body) e L Q QD:=by
 intro a w ha hw
 refine wpIn_rangeFunc (F:=Fence.wide) fun fn _=>?_
 obtain⟨r,hr⟩:∃r:Loop,r={ state:=.ready,pending:=none,fn,tmps:=a.tmps,params:=ps,assign,body,defers:=w.heap.size }:=⟨_,rfl⟩
 obtain⟨W,hW⟩:∃W,W=(w.alloc (.deferred (some []))).alloc (.loop r):=⟨_,rfl⟩
 have s1:Sat X.Fr (tN w.heap.size::L) (w.alloc (.deferred (some []))):=hw.sat.alloc hw.me _ _ ⟨rfl,heap_alloc_new w _⟩
 have k1:dG X.Fr w (w.alloc (.deferred (some []))):=dG.alloc hw.me _
 have low1:∀b,X.Fr b→b<(w.alloc (.deferred (some []))).heap.size:=fun b hb=>we (hw.me b hb) k1.size
 have hsz:(w.alloc (.deferred (some []))).heap.size=w.heap.size+1:=by simp
 have s2:Sat X.Fr (fS (w.heap.size+1) r::tN w.heap.size::L) W:=by
  rw[hW,←hsz]
  exact s1.alloc low1 _ _ ⟨rfl,heap_alloc_new _ _⟩
 have k2:dG X.Fr w W:=by rw[hW];exact k1.trans (dG.alloc low1 _)
 have hev:a.eval g=.func (.func f) #[] capt.toArray:=ha.ev hg
 refine⟨w.heap.size+1,[w8 w.heap.size],W,{ target:=.fn (.func f) capt.toArray,args:=#[pJ (w.heap.size+1)] },W,f,#[pJ (w.heap.size+1)]++capt.toArray,W,?_,?_,fun _ _=>trivial,?_,(fun h=>by cases h),?_⟩
 ·rw[hW,hr];exact run_enterLoop_outer _ _ _ _ _
 ·simp only[resolve,hev]
  simp[Deferred.ofValue,pJ,Act.eval]
 ·simp only[invoke]
  exact GQ hc _ _
 obtain⟨F,hs,hnd,hb⟩:=s2
 obtain⟨i,G,rfl,hi,hG⟩:=hs
 obtain⟨rfl,hl⟩:=hi
 obtain⟨j,K,rfl,hj,hK⟩:=hG
 obtain⟨rfl,hD⟩:=hj
 have hn2:=ja.1 hnd
 have hn3:=ja.1 hn2.2.1
 have T:=ht (w.heap.size+1) r (fun b=>X.Fr b∨b=w.heap.size) W (fun b h=>.inl h) (hw.cS.trans k2) ⟨a,ha,by rw[hr]⟩ (by rw[hr]) (by rw[hr]) (by rw[hr]) (by rw[hr]) (by rw[hr])
 have hc1:=T.calls (fun b h=>by
  rcases h with h | rfl
  ·exact(we (hw.me b h) k2.size)
  ·exact(hb _ yf).2) ⟨[w.heap.size+1]++K,⟨[w.heap.size+1],K,Z,⟨rfl,hl⟩,hK⟩,by
   refine ja.2 ⟨by simp,hn3.2.1,fun x hx y hy he=>hn2.2.2 x hx y (by simp[hy]) he⟩,fun b hbm=>⟨fun h=>?_,?_⟩⟩
 rotate_left
 ·rcases h with h | rfl
  ·rcases ez.1 hbm with h2 | h2
   ·exact(hb b (by simp at h2;simp[h2])).1 h
   ·exact(hb b yj).1 h
  ·rcases ez.1 hbm with h2 | h2
   ·simp at h2
   ·exact hn3.2.2 _ yf _ h2 rfl
 ·rcases ez.1 hbm with h2 | h2
  ·exact(hb b (by simp at h2;simp[h2])).2
  ·exact(hb b yj).2
 have e1:(#[pJ (w.heap.size+1)]++capt.toArray:Array Value)=(pJ (w.heap.size+1)::capt).toArray:=by simp
 rw[e1]
 refine(callsIn_wide (n:=0-1)).2 (Calls.mono hc1 ?_)
 rintro en w' ⟨v,L',rfl,⟨L2,rfl,hM⟩,h3,h4⟩
 have hl':=h3.lp
 obtain⟨s5,k5⟩:=h3.FR { r with state:=.exhausted }
 refine⟨none,w'.putObj (w.heap.size+1) (.loop { r with state:=.exhausted }),?_,?_⟩
 ·have:=run_endLoop (P:=X.P) hl' (by rw[hr];exact fun h=>by cases h)
  rw[this,show r.pending=none by rw[hr]]
 ·have hD':(w'.putObj (w.heap.size+1) (.loop { r with state:=.exhausted })).heap[w.heap.size]?=some (.deferred (some [])):=(k5.block _ (.inr rfl)).trans ((h4.block _ (.inr rfl)).trans hD)
  refine .inr ⟨w.heap.size,e,tN w.heap.size::L2,⟨?_,?_⟩,⟨?_,(hw.cS.trans k2).trans ((h4.trans k5).mono fun b h=>.inl h),hw.low⟩,hk _ _ hM⟩
  ·have hd0:=ha.defers
   obtain⟨t,d⟩:=a
   dsimp only at hd0
   subst hd0
   exact ha
  ·show [w8 w.heap.size]++a.defers=_
   rw[ha.defers];rfl
  ·obtain⟨F5,hs5,hn5,hb5⟩:=s5.tail
   refine⟨[w.heap.size]++F5,⟨_,F5,Z,⟨rfl,hD'⟩,hs5⟩,ja.2 ⟨by simp,hn5,fun x hx y hy he=>?_⟩,fun b hbm=>?_⟩
   ·simp at hx
    exact(hb5 y hy).1 (.inr (by rw[←he,hx]))
   ·rcases ez.1 hbm with h2 | h2
    ·simp at h2
     rw[h2]
     exact⟨fun h=>Nat.lt_irrefl _ (hw.me _ h),(rW.1 hD').1⟩
    ·exact⟨fun h=>(hb5 b h2).1 (.inl h),(hb5 b h2).2⟩
end
def Xj(X:Cx)(fn:Func)(R:Value→List HP→Prop)(D:Nat):Exit→Env→List HP→Prop
 | .normal,e,L=>∃L2,L=tN D::L2∧aq X fn R e L2
 | .ret,e,L=>∃L2,L=tN D::L2∧aq X fn R e L2
 | _,_,_=>False
theorem az.ofM{P:Program}{f:FuncId}{fn:Func}{c:Code}{args:List Value}{Fr:Nat→Prop}{w:World}{L:List HP}{R:Value→List HP→Prop}{tab:m_}(n:Nat)
  (hf:P.funcs[f]?=some fn) (hb:fn.body=some c) (hnm:(fn.name == "runtime.NumGoroutine")=false) (ok:pR P tab) (hnt:fn.ntmps=n) (hn:Nat.ble args.length n=true)
  (h:VM ⟨P,tab,ok,n,Fr,w⟩ c (wJ 0 args) L (MV ⟨P,tab,ok,n,Fr,w⟩ fn R) (Xj ⟨P,tab,ok,n,Fr,w⟩ fn R)):az P f args Fr w L R:=by
 subst hnt
 replace hn:=hZ hn
 refine⟨⟨fn,hf,by simp[hb],hnm⟩,fun hlow hs=>?_⟩
 refine(callsIn_wide (n:=0)).1 (callsIn_of_wp_marks (F:=Fence.wide) hf hb trivial (wpIn_mono (F:=wR none) (h _ w (I8 hn) ⟨hs,dG.refl _ _,hlow⟩) fun x a' w' hh=>?_))
 rcases hh with ⟨e',L',h1,h2,h3⟩ | ⟨D,e',L',h1,h2,h3⟩
 ·have key:aq ⟨P,tab,ok,fn.ntmps,Fr,w⟩ fn R e' L'→LeavesInM Fence.wide 0 P fn a'.tmps (fun e w'=>∃v L',e=.returned v∧R v L'∧Sat Fr L' w'∧dG Fr w w') a'.defers .returning w':=by
   rintro⟨v,L1,hr,he,hR⟩
   rw[h1.defers]
   exact⟨v,hr.run a' w' h1 h2,v,L1,Z,hR,(he w' h2).sat,h2.cS⟩
  cases x with
  | normal=>exact key h3
  | ret=>exact key h3
  | exit id=>exact h3.elim
  | goto l=>exact h3.elim
  | panic ch=>exact h3.elim
  | outgrown=>exact h3.elim
 ·have key:(∃L2,L'=tN D::L2∧aq ⟨P,tab,ok,fn.ntmps,Fr,w⟩ fn R e' L2)→LeavesInM Fence.wide 0 P fn a'.tmps (fun e w'=>∃v L',e=.returned v∧R v L'∧Sat Fr L' w'∧dG Fr w w') a'.defers .returning w':=by
   rintro⟨L2,rfl,v,L1,hr,he,hR⟩
   rw[h1.mark]
   obtain⟨s2,k2⟩:=Sat.putObj (H:=tN D) (b:=D) (o:=.deferred none) (H':=⟨fun ids w=>ids=[D],fun _ _ _ _ h=>h⟩) (fun _ h=>h.1) (fun _=>rfl) h2.sat
   have hD:w'.heap[D]?=some (.deferred (some [])):=by
    obtain⟨F,⟨i,G,rfl,hi,hG⟩,hn,hb⟩:=h2.sat
    exact hi.2
   have st:St ⟨P,tab,ok,fn.ntmps,Fr,w⟩ L2 (w'.putObj D (.deferred none)):=⟨s2.tail,h2.cS.trans k2,h2.low⟩
   exact⟨(fun h=>by cases h),.inl ⟨D,_,rfl,run_takeDeferred hD,v,hr.run { a' with defers:=[] } _ h1.I7 st,v,L1,rfl,hR,(he _ st).sat,st.cS⟩⟩
  cases x with
  | normal=>exact key h3
  | ret=>exact key h3
  | exit id=>exact h3.elim
  | goto l=>exact h3.elim
  | panic ch=>exact h3.elim
  | outgrown=>exact h3.elim
end Vg
namespace Cl
open Go Vg T Api Ch Rep Conf Lg Rd
attribute [local irreducible] VO VC VA VM VD
theorem Fp{p:Nat}{C:al}(h:a8 Fr [cV p C] w):az Tryz.prog 29 [.pointer (some ⟨p,0,none⟩)] Fr w [] (fun v L=>v=.bool false∧L=[]):=by
 obtain⟨y,fit,hy⟩:=wG h
 refine TF 6 Tryz.func29 Z ym aD Z Z ?_
 refine ae ?_
 refine Iu ?_
 refine ae ?_
 exact mB
abbrev pY:TypeId:=28
abbrev TQ:TypeId:=3
def iK(tb mb p:Nat)(C:al)(m:Int):List HP:=[pt mb [.int .i64 m] TQ,pt tb [.pointer (some ⟨p,0,none⟩)] pY,cV p C]
def uZ(s:cB)(e:Int):Int:=if e=0∧s.kind=4 then 1 else 0
def Ep(r:Loop)(l tb mb p:Nat):Prop:=∀{C:al} {b e:Nat} (ok:C.Ok b e) (hb:b<100000) (he:e<900000) (m:Int) (h0:0≤m) (h1:m≤1000000) (s:cB) (Fr:Nat→Prop) (w:World),
 yV Tryz.prog l r [.agg s.cells.toArray] Fr w (iK tb mb p C m) fun v L=>v=.bool true∧L=iK tb mb p (C.bf s).1 (m+uZ s (C.bf s).2)
theorem dO.Wk{n:Nat}{a:Act}{e:Env}(h:dO n a e){t:Nat}(ht:Nat.blt t n=true)(v:Value):dO n { tmps:=((#[t]:Array Tmp).zip #[v]).foldl (fun tmps (t,a)=>tmps.setIfInBounds t a) a.tmps,defers:=[] } ((t,v)::e):=by
 have:=h.put ht v
 have hd:=h.defers
 obtain⟨x,d⟩:=a
 dsimp only at hd
 subst hd
 have e1:((#[t]:Array Tmp).zip #[v]).foldl (fun tmps (t,a)=>tmps.setIfInBounds t a) x=x.setIfInBounds t v:=by simp
 dsimp only
 rw[e1]
 exact this
theorem FG{s:cB}(e:Int)(h:s.kind≠4):uZ s e=0:=if_neg fun g=>h g.2
theorem jx.TV{C:al}{p:bj}(m:Int):m+uZ (fF p) (C.bf (fF p)).2=m+sI (C.bf (fF p)).2:=by
 unfold uZ sI fF fh
 by_cases h:(C.bf ⟨4,p.1,p.2,0,Gl⟩).2=0
 ·rw[if_pos ⟨h,rfl⟩,if_pos h]
 ·rw[if_neg (fun g=>h g.1),if_neg h]
theorem jx.tQ{C0:al}{m0:Int}:∀{k:Nat} {C:al} {m:Int},jx C0 m0 k C m→m0≤m∧m≤m0+k
 | _,_,_,.nil=>by omega
 | _,_,_,.snoc (k:=k) (C:=C) (p:=p) h hp=>by
  have ih:=jx.tQ h
  have:0≤sI (C.bf (fF p)).2∧sI (C.bf (fF p)).2≤1:=by unfold sI;split<;>omega
  push_cast
  omega
theorem nS.tQ{C0 C:al}{m0 m:Int}(h:nS C0 m0 C m):m0≤m∧m≤m0+4096:=by
 obtain⟨k,hk,p,_⟩:=h
 have:=p.tQ
 omega
theorem nS.ok{C0 C:al}{m0 m:Int}{b e:Nat}(h:C0.Ok b e)(hb:b<90000)(he:e<800000)(d:nS C0 m0 C m):C.Ok (b+4096) (e+28672):=by
 obtain⟨k,hk,p,_⟩:=d
 exact(p.ok h hb he hk).mono yd yd
theorem xy{C:al}{b e:Nat}(h:C.Ok b e)(hb:b<90000)(he:e<800000):∀n:Nat,n≤6→(my n C).Ok (b+n) (e+7*n)
 | 0,_=>h
 | n+1,hn=>((xy h hb he n yd).bf yd yd _).mono yd yd
theorem J3{r:Loop}{l tb mb p:Nat}(hy:Ep r l tb mb p)(hps:r.params.size=1){C0:al}{b e:Nat}(ok:C0.Ok b e)(hb:b<90000)(he:e<800000){m0:Int}(h0:0≤m0)(h1:m0≤900000):
  az Tryz.prog 74 [.pointer (some ⟨p,0,none⟩),pJ l] Fr w (fS l r::iK tb mb p C0 m0) (fun v L=>∃C m,nS C0 m0 C m∧v=.bool true∧L=fS l r::iK tb mb p C m):=by
 refine TF 27 Tryz.func74 Z ym aD Z Z ?_
 refine mA ?_
 refine VC.meet (σ:=al×Int) (fun _=>[]) (fun s=>fS l r::iK tb mb p s.1 s.2) (fun s=>nS C0 m0 s.1 s.2) ?_ ?_
 rotate_left
 ·rintro⟨C,m⟩ hd
  dsimp only at hd ⊢
  refine ae ?_
  exact CR (aq.tmp 4 Z Z ER ⟨C,m,hd,Z,Z⟩)
 refine ae ?_
 refine VC.loop (σ:=Nat×al×Int) (fun s=>[(0,pV p),(1,pJ l),(6,.int .i64 (s.1:Int))]) (fun s=>fS l r::iK tb mb p s.2.1 s.2.2) (fun s=>jx C0 m0 s.1 s.2.1 s.2.2∧s.1≤4096) (fun s=>4096-s.1) (0,C0,m0)
  ⟨.nil,bU _⟩ aP ER ?_
 rintro⟨k,C,m⟩ ⟨hP,hk⟩
 dsimp only at hP hk ⊢
 have mi:=hP.ok ok hb he hk
 have hfew:=hP.tQ
 refine ae ?_
 refine CP (p:=(k:Int)<4096) Z (fun h2=>CK ?_) (fun h2=>CX ?_)
 rotate_left
 ·exact⟨(C,m),⟨k,hk,hP,.inl yd⟩,SN _,ER⟩
 have hcl:=Kk mi.aB mi.mH
 refine ae ?_
 refine VG (VK (Lc:=[]) (fun Fr w hF hw hS=>K_ Fr w mi.aB (hS.at_ 3 Z)) Z Z ?_)
 rintro _ _ ⟨q,ml,hml,rfl,rfl⟩
 refine VG (VK (Lc:=[]) (fun Fr w hF hw hS=>La Fr w (S:=⟨C.aB.cap,ml⟩) Qt (hS.at_ 0 Z)) Z Z ?_)
 rintro _ _ ⟨prs,pa,pc,hprs,rfl,rfl⟩
 have hpm:prs.Perm (C.aB.aX.map Prod.fst):=hprs.trans (hml.map _)
 refine ae ?_
 refine CE Z (fun h3=>CX ?_) (fun h3=>CK ?_)
 ·refine⟨(C,m),⟨k,hk,hP,.inr ?_⟩,SN _,(aa.trans aa.tail aa.tail).ah⟩
  have h4:=hpm.length_eq
  rw[cW] at h4
  have h5:C.aB.aX.length=0:=by omega
  exact iz h5
 refine CN (L':=aA kc 2 pa prs.length pc (flat d' prs)::fS l r::iK tb mb p C m) (aa.cons aa.tail).ah ?_
 refine VC.bJ 0 Z (ba.rl kc pa pc prs sK) ?_
 rintro⟨xa,xc,xb,xcs,xs⟩ ⟨rok,rv,rx⟩
 dsimp only at rx
 subst rx
 injection rv with e1 _ e3
 subst e1 e3
 have hxl:0<xs.length:=by omega
 have hxp:xs[0]?=some xs[0]:=GE hxl
 have hpin:xs[0]∈C.aB.aX.map Prod.fst:=hpm.mem_iff.1 (yL hxl)
 generalize xs[0]=pr at hxp hpin
 obtain⟨tb',tof,htb,hta,hrd⟩:=RL.Ok.ld (t:=kc) (k:=0) (x:=pr) rok hxp (sK pr)
 dsimp only at hta
 subst hta
 refine CS ?_
 refine Ir ?_
 refine fi ?_
 refine AG (AI Z (fp 0 Z Z Z Z Z Z hxl) ?_)
 refine Is ?_
 refine AG (yE Z Z Z ((hrd 0 Z).2 _ 0 (.int .i64 pr.1) Z Z) ?_)
 refine fi ?_
 refine AG (AI Z (fp 0 Z Z Z Z Z Z hxl) ?_)
 refine It ?_
 refine AG (yE Z Z Z ((hrd 0 Z).2 _ 1 (.int .i64 pr.2) Z Z) ?_)
 refine fi ?_
 refine AG (AI Z (LB (pv:=[(0,.int .i64 4),(1,.int .i64 pr.1),(2,.int .i64 pr.2)]) ((fF pr).cells) Z Z Z ym Z) ?_)
 refine fi ?_
 refine AG (VA.Aj (qN.yield (r:=r) (vals:=[.agg (fF pr).cells.toArray]) (Lc:=iK tb mb p C m) (Lr:=[RL.h kc ⟨some ⟨tb',tof,none⟩,xc,xb,xcs,xs⟩]) Z Z hps.symm (jL (l₁:=[_]) (l₂:=fS l r::iK tb mb p C m)) (fun Fr' w hF hw hS=>hy mi yd yd m yd yd (fF pr) Fr' w)) Z ?_ ?_)
 ·rintro _ _ ⟨_,⟨rfl,rfl⟩,rfl⟩
  have g1:=fun {X} {L} h=>(hrd (X:=X) (L:=L) 4 h).2 t3 0 (.int .i64 pr.1) rfl rfl
  have g2:=fun {X} {L} h=>(hrd (X:=X) (L:=L) 4 h).2 t3 1 (.int .i64 pr.2) rfl rfl
  exact(by(try refine Pd.st ?_);(repeat(first|exact Pd.nil|exact Pd.fnil|refine Pd.inner ?_|refine Pd.skip yr ?_|refine zf (ax.aC g1 Z Z) ?_|refine zf (ax.aC g2 Z Z) ?_|refine zf (g1 Z) ?_|refine zf (g2 Z) ?_|refine zc (ax.aC g1 Z Z) ?_|refine zc (ax.aC g2 Z Z) ?_|refine zc (g1 Z) ?_|refine zc (g2 Z) ?_)))
 rintro _ _ ⟨_,⟨rfl,rfl⟩,rfl⟩
 rw[jx.TV]
 refine yH ?_
 refine fL ?_
 exact⟨(k+1,_,_),⟨hP.snoc hpin,by dsimp only;omega⟩,by dsimp only;omega,SC Z (SC Z (Sub.int Z f_ (SN _))),(aa.trans (aa.perm (jL (l₁:=fS l r::iK tb mb p (C.bf (fF pr)).1 (m+sI (C.bf (fF pr)).2)) (l₂:=[_]))) aa.tail).ah⟩
end Cl
namespace Cl
open Go Vg T Api Ch Rep Conf Lg Rd
attribute [local irreducible] VO VC VA VM VD
theorem Ye{r:Loop}{l tb mb p sb:Nat}(hy:Ep r l tb mb p)(hps:r.params.size=1){C0:al}{b e:Nat}(ok:C0.Ok b e)(hb:b<80000)(he:e<700000):
  az Tryz.prog 73 [pJ l,.pointer (some ⟨sb,0,none⟩)] Fr w (fS l r::pt sb [.pointer (some ⟨p,0,none⟩)] pY::iK tb mb p C0 0) (fun v L=>∃C m,tD C0 C m∧v=.tuple #[]∧L=fS l r::pt sb [.pointer (some ⟨p,0,none⟩)] pY::iK tb mb p C m):=by
 refine TF 29 Tryz.func73 Z ym aD Z Z ?_
 refine dz ?_
 refine VG (VO.ah (L':=(fS l r::iK tb mb p C0 0) ++ [pt sb [.pointer (some ⟨p,0,none⟩)] pY]) (aa.perm (List.Perm.cons _ (jL (l₁:=[_]) (l₂:=iK tb mb p C0 0)))).ah ?_)
 refine VG (VK (fun Fr w hF hw hS=>J3 Fr w hy hps ok yd yd (cd 0) yo) Z Z ?_)
 rintro _ _ ⟨C1,m1,hD1,rfl,rfl⟩
 have hf1:=hD1.tQ
 have ok1:=hD1.ok ok yd yd
 refine ae ?_
 refine xN ?_
 refine aw ?_
 refine VG (VI (LB (pv:=[(0,.int .i64 3)]) ((fh 3 0 0).cells) Z Z Z ym Z) ?_)
 refine VG (VO.Aj (qN.yield (r:=r) (vals:=[.agg (fh 3 0 0).cells.toArray]) (Lc:=iK tb mb p C1 m1) (Lr:=[pt sb [.pointer (some ⟨p,0,none⟩)] pY]) Z Z hps.symm (List.Perm.refl _) (fun Fr' w hF hw hS=>hy ok1 yd yd m1 yd yd (fh 3 0 0) Fr' w)) ?_)
 rintro _ _ ⟨_,⟨rfl,rfl⟩,rfl⟩
 rw[FG _ yo,uI]
 have okT:=(ok1.bf yd yd (fh 3 0 0)).mono (b':=b+4097) (e':=e+28679) yd yd
 have hmid:oQ C1=my 6 (C1.bf (fh 3 0 0)).1:=rfl
 generalize (C1.bf (fh 3 0 0)).1=C2 at okT hmid
 have okM:=xy okT yd yd 6 (NR _)
 rw[←hmid] at okM
 refine yF ?_
 refine VC.loop (σ:=Nat) (fun n=>[(0,pJ l),(1,pV sb),(3,.int .i64 (n:Int))]) (fun n=>fS l r::(iK tb mb p (my n C2) m1 ++ [pt sb [.pointer (some ⟨p,0,none⟩)] pY])) (fun n=>n≤6) (fun n=>6-n) 0
  (bU _) aP ER ?_
 rintro n hn
 refine ae ?_
 refine CP (p:=(n:Int)<6) Z (fun h2=>CK ?_) (fun h2=>CX ?_)
 rotate_left
 ·obtain rfl:n=6:=by omega
  rw[←hmid]
  refine ae ?_
  refine zG (zD 4 Z Z Z Z ?_)
  refine ae ?_
  refine VG (VK (Lc:=fS l r::iK tb mb p (oQ C1) m1) (Lr:=[pt sb [.pointer (some ⟨p,0,none⟩)] pY]) (fun Fr w hF hw hS=>J3 Fr w hy hps okM yd yd yd yd) Z Z ?_)
  rintro _ _ ⟨C4,m4,hD4,rfl,rfl⟩
  have hf4:=hD4.tQ
  have ok4:=hD4.ok okM yd yd
  refine vU ?_
  refine VG (VI (LB (pv:=[(0,.int .i64 11)]) ((fh 11 0 0).cells) Z Z Z ym Z) ?_)
  refine VG (VO.Aj (qN.yield (r:=r) (vals:=[.agg (fh 11 0 0).cells.toArray]) (Lc:=iK tb mb p C4 m4) (Lr:=[pt sb [.pointer (some ⟨p,0,none⟩)] pY]) Z Z hps.symm (List.Perm.refl _) (fun Fr' w hF hw hS=>hy ok4 yd yd m4 yd yd (fh 11 0 0) Fr' w)) ?_)
  rintro _ _ ⟨_,⟨rfl,rfl⟩,rfl⟩
  rw[FG _ yo,uI]
  refine ae ?_
  exact aq.void Z (aa.perm (List.Perm.cons _ (jL (l₁:=iK tb mb p (C4.bf (fh 11 0 0)).1 m4) (l₂:=[_])))).ah ⟨_,m4,⟨C1,m1,C4,hD1,hD4,Z⟩,Z,Z⟩
 have okN:=xy okT yd yd n yd
 refine ae ?_
 refine VG (VI (LB (pv:=[(0,.int .i64 2),(1,.int .i64 (n:Int))]) ((fh 2 n 0).cells) Z Z Z ym Z) ?_)
 refine VG (VO.Aj (qN.yield (r:=r) (vals:=[.agg (fh 2 n 0).cells.toArray]) (Lc:=iK tb mb p (my n C2) m1) (Lr:=[pt sb [.pointer (some ⟨p,0,none⟩)] pY]) Z Z hps.symm (List.Perm.refl _) (fun Fr' w hF hw hS=>hy okN yd yd m1 yd yd (fh 2 n 0) Fr' w)) ?_)
 rintro _ _ ⟨_,⟨rfl,rfl⟩,rfl⟩
 rw[FG _ (by show(2:Int)≠4;decide),uI]
 refine qG ?_
 refine fL ?_
 exact⟨n+1,by omega,by dsimp only;omega,SC Z (SC Z (Sub.int Z yd (SN _))),ER⟩
theorem Yf(p:Nat):az Tryz.prog 30 [.pointer (some ⟨p,0,none⟩)] Fr w [] (fun v L=>∃sb,v=gk 73 [] [.pointer (some ⟨sb,0,none⟩)]∧L=[pt sb [.pointer (some ⟨p,0,none⟩)] pY]):=by
 refine TF 4 Tryz.func30 Z ym aD Z Z ?_
 refine CS (CG (VG (VO.EG Z fun sb=>?_)))
 refine ae ?_
 refine VG (VI (wX (u:=[]) (v:=[.pointer (some ⟨sb,0,none⟩)]) Z Z) ?_)
 refine ae ?_
 exact CR (aq.tmp 2 Z Z ER ⟨sb,Z,Z⟩)
theorem call47:tz Tryz.prog 73:=⟨_,Tryz.func73,by kernel_rfl,by kernel_rfl⟩
theorem MY{p:Nat}{C0:al}{b e:Nat}(ok:C0.Ok b e)(hb:b<80000)(he:e<700000):
  az Tryz.prog 12 [.pointer (some ⟨p,0,none⟩)] Fr w [cV p C0] (fun v L=>∃C m,tD C0 C m∧v=.int .i64 m∧L=[cV p C]):=by
 refine az.ofM 23 Tryz.func12 Z ym aD Z Z ?_
 refine VM.G3 ?_
 refine CG (VG (VO.EG Z fun tb=>?_))
 refine VG (VO.alloc Z fun mb=>?_)
 refine lg ?_
 refine VM.G3 ?_
 refine dz ?_
 refine VG (VV (fun Fr w hF hw hS=>Fp Fr w (hS.at_ 2 Z)) Z ?_)
 refine qG ?_
 refine VM.Dg ?_
 refine VM.G3 ?_
 refine dz ?_
 refine VG (VK (Lc:=[]) (fun Fr w hF hw hS=>Yf Fr w p) Z Z ?_)
 rintro _ _ ⟨sb,rfl,rfl⟩
 refine ae ?_
 refine VM.block ?_
 refine VM.W5 (M:=fun L2=>∃C m,tD C0 C m∧L2=pt sb [.pointer (some ⟨p,0,none⟩)] pY::iK tb mb p C m) Z call47 (fun l r Fr' w hF _ ha hst hpe hps has hbo=>?_) (fun D L2 h=>?_)
 rotate_left
 ·obtain⟨C,m,hR,rfl⟩:=h
  refine⟨rfl,?_⟩
  refine VD.seq (VD.region ?_)
  refine zG (zD 2 Z Z Z Z ?_)
  refine VG (VO.st 2 Z Z Z Z r8 Z Z ?_)
  refine VG (VN (VD.ret ⟨_,Z,?_⟩))
  exact aq.cell 2 Z Z Z (ax.one 1 Z Z) (IP 3 Z aa.nil).ah ⟨C,m,hR,Z,Z⟩
 obtain⟨a,ha1,ha2⟩:=ha
 have hy:Ep r l tb mb p:=by
  intro C b e ok hb he m h0 h1 s Fr w
  have key:=dO.Wk ha1 (t:=9) rfl (.agg s.cells.toArray)
  rw[←ha2,←hps] at key
  refine yV.of (vals:=[.agg s.cells.toArray]) (tab:=tab) (ok:=aD) (n:=23) hst hpe key ?_
  intro w
  generalize ({ r with state:=LoopState.busy }:Loop)=rb
  rw[has]
  refine CG (VG (VO.alloc Z fun ab=>?_))
  refine VG (VT (vs:=s.cells) (cs':=s.cells) 0 Z Z Z Z (NR _) Z Z Z ?_)
  refine VG (VO.ah (L':=fS l r::pt ab s.cells jy::iK tb mb p C m) (aa.perm (List.Perm.swap ..)).ah ?_)
  refine VG (VN ⟨rfl,_,Z,fun w=>?_⟩)
  rw[hbo]
  refine DY ?_
  refine VG (VL 1 s.cells Z Z Z Z ?_)
  refine VG (VQ 4 Z (fun Fr w hF' hs hS=>NY Fr w ok yd yd s) Z (ψ:=fun v H=>v=.int .i64 (C.bf s).2∧H=cV p (C.bf s).1) yy ?_)
  rintro _ _ ⟨rfl,rfl⟩
  have hdr:aa (fS l rb::pt ab s.cells jy::iK tb mb p (C.bf s).1 m) (fS l rb::iK tb mb p (C.bf s).1 m):=aa.cons aa.tail
  refine ae ?_
  by_cases he:(C.bf s).2=0
  rotate_left
  ·refine VG (VY 15 false Z (by simpa using he) ?_)
   refine aw ?_
   refine VC.kM Z (CN hdr.ah (CK ⟨rfl,_,Z,Z,?_⟩))
   rw[show uZ s (C.bf s).2=0 from if_neg fun g=>he g.1,uI]
  refine VG (VY 15 true Z (by simpa using he) ?_)
  refine g_ ?_
  refine CE Z (fun hk=>?_) (fun hk=>CN hdr.ah (CK ⟨rfl,_,Z,Z,?_⟩))
  rotate_left
  ·rw[show uZ s (C.bf s).2=0 from if_neg fun g=>hk g.2,uI]
  rw[show uZ s (C.bf s).2=1 from if_pos ⟨he,hk⟩]
  refine CG ?_
  refine gK ?_
  refine pF ?_
  refine VG (VO.st 2 Z Z Z Z r8 Z Z ?_)
  refine VG (VO.ah (L':=fS l rb::iK tb mb p (C.bf s).1 (m+1)) (aa.cons aa.tail).ah ?_)
  refine VG (VN ⟨rfl,_,Z,Z,Z⟩)
 exact Ring.az.drop (Ye Fr' w hy (by rw[hps];rfl) ok hb he) fun v L ⟨C,m,hR,_,e⟩=>⟨L,⟨_,e,C,m,hR,Z⟩,aa.refl⟩
end Cl
namespace Cl
open Go Vg T Api Ch Rep Conf Lg Rd
attribute [local irreducible] VO VC VA
section
variable {p:Nat} {C:al} {y:fV} {b e:Nat}
theorem CH{Fr:Nat→Prop}{w:World}(hy:a8 Fr (eY p C y) w){k q:Nat}{r:av}(h:y.nr[k]?=some (some (q,r))):a8 Fr [bp q r] w:=by
 refine((hy.at_ 8 Z).sep).at_ k ?_
 rw[eh,h];rfl
theorem Mf{n:Int}{r:av}(h:C.node n=some r):some r∈C.nodes:=by
 unfold al.node at h
 split at h
 ·cases h
 ·cases hx:C.nodes[n.toNat]? with
  | none=>rw[hx] at h;cases h
  | some x=>
   rw[hx] at h
   obtain rfl:x=some r:=h
   exact ME hx
theorem rh(fit:fM C y)(hy:a8 Fr (eY p C y) w)(x:aR):az Tryz.prog 37 [.pointer (some ⟨p,0,none⟩),.agg (aH x).toArray] Fr w [] (fun v L=>v=.bool (sw C x)∧L=[]):=by
 refine TF 23 Tryz.func37 Z ym aD Z Z ?_
 refine CS (CG (VG (VB (vs:=aH x) Z fun xb=>?_)))
 refine aj ?_
 refine PU ?_
 intro v hv
 have hd:sw C x=match C.node x.1 with
  | none=>false
  | some r=>decide (r.since=x.2)&&r.whole:=rfl
 rw[hd]
 cases hn:C.node x.1 with
 | none=>
  rw[hn] at hv
  obtain rfl:v=.pointer none:=hv
  refine ae ?_
  refine CD (ts 0 14 .nil) ym yr ?_
  refine fi ?_
  refine AG (AY 12 false Z Z ?_)
  refine fi ?_
  refine AG (AY 19 false Z Z ?_)
  refine fi ?_
  exact Hw
 | some r=>
  rw[hn] at hv
  obtain⟨k,q,-,hk,rfl⟩:∃k q,x.1=(k:Nat)∧y.nr[k]?=some (some (q,r))∧v=.pointer (some ⟨q,0,none⟩):=hv
  have hr:=CH hy hk
  dsimp only
  refine ae ?_
  by_cases hs:r.since=x.2
  ·refine CD (ts 0 4 (ts 5 2 (.only 4 (ts 7 4 (.only 11 (ts 12 2 .nil)))))) ym yr ?_
   refine ee ?_
   refine AG (AY 12 true Z Z ?_)
   refine ee ?_
   refine PV ?_
   rintro _ rfl
   refine ee ?_
   refine AG (AY 19 true Z (DT hs) ?_)
   refine ee ?_
   refine AG (VA.dK (φ:=fun v=>v=.bool r.whole) (fun Fr w hF hw hS=>acd Fr w (hr.of hF hw)) Z Z yu ?_)
   rintro _ rfl
   refine ee ?_
   exact CR (aq.bool 4 Z Z (by rw[DT hs,uH]) aa.nil.ah ⟨rfl,Z⟩)
  ·refine CD (ts 0 4 (ts 5 2 (.only 4 (ts 7 7 .nil)))) ym yr ?_
   refine ee ?_
   refine AG (AY 12 true Z Z ?_)
   refine ee ?_
   refine PV ?_
   rintro _ rfl
   refine ee ?_
   refine AG (AY 19 false Z (DF hs) ?_)
   refine ee ?_
   exact CR (aq.bool 4 Z Z (by rw[DF hs,kF]) aa.nil.ah ⟨rfl,Z⟩)
theorem I_(ok:C.Ok b e)(h:a8 Fr [cV p C] w):az Tryz.prog 15 [.pointer (some ⟨p,0,none⟩)] Fr w [] (fun v L=>v=.bool (tI C)∧L=[]):=by
 obtain⟨y,fit,hy⟩:=wG h
 have hml:=ok.au.ml
 refine TF 29 Tryz.func15 Z ym aD Z Z ?_
 refine ae ?_
 refine VG (VV (fun Fr w hF hw hS=>Fp Fr w (h.of hF hw)) Z ?_)
 refine pK ?_
 refine Iu ?_
 refine PW ?_
 rintro _ _ ⟨ma,mc,rfl,rfl⟩
 refine VG (VO.bJ 0 Z (ba.rl aU ma mc C.au.ch.ms cn) ?_)
 rintro⟨xa,xc,xb,xcs,xs⟩ ⟨rok,rv,rx⟩
 dsimp only at rx
 have hxs:C.au.ch.ms=xs:=rx.symm
 injection rv with e1 e2 e3
 subst e1 e3
 refine VG (VO.alloc Z fun cb=>?_)
 refine PX ?_
 refine aj ?_
 have hlen:C.au.ch.ms.length=xs.length:=by rw[hxs]
 refine VC.loop (σ:=Nat) (fun i=>[(0,pV p),(3,pV cb),(12,.slice xa C.au.ch.ms.length xc),(13,.int .i64 C.au.ch.ms.length),(14,.int .i64 (i:Int))]) (fun _=>[pt cb (C.au.ch.cells xa xc) dP,RL.h aU ⟨xa,xc,xb,xcs,xs⟩]) (fun i=>i≤xs.length∧∀j<i,∀x,xs[j]?=some x→(!decide (x.1=C.au.ch.drain)&&sw C x)=false) (fun i=>xs.length-i) 0
  ⟨bU _,fun j hj=>absurd hj (Bx j)⟩ aP ER ?_
 rintro i ⟨hi,hall⟩
 refine ae ?_
 refine CP (p:=(i:Int)<C.au.ch.ms.length) Z (fun h2=>CK ?_) (fun h2=>CX ?_)
 rotate_left
 ·refine ae ?_
  refine CR (aq.bool 2 Z Z ?_ aa.nil.ah ⟨rfl,Z⟩)
  unfold tI
  rw[hxs]
  refine(List.any_eq_false.2 fun x hx=>?_).symm
  obtain⟨j,hj⟩:=List.mem_iff_getElem?.1 hx
  rw[hall j Qu x hj]
  decide
 have hil:i<xs.length:=by omega
 have hxk:xs[i]?=some xs[i]:=GE hil
 generalize xs[i]=x at hxk
 have hxm:x∈C.au.ch.ms:=by rw[hxs];exact ME hxk
 obtain⟨tb,tof,htb,hta,hrd⟩:=RL.Ok.ld (t:=aU) (k:=i) (x:=x) rok hxk (cn x)
 dsimp only at hta
 subst hta
 refine ae ?_
 refine VG (VI (fp i Z Z Z Z Z Z yd) ?_)
 refine HO ?_
 refine VG (VO.alloc Z fun xb2=>?_)
 refine DR ?_
 refine dz ?_
 have hstep:(!decide (x.1=C.au.ch.drain)&&sw C x)=false→∀j<i+1,∀x,xs[j]?=some x→(!decide (x.1=C.au.ch.drain)&&sw C x)=false:=fun h0 j hj z hz=>by
  by_cases hji:j<i
  ·exact hall j hji z hz
  ·obtain rfl:j=i:=by omega
   rw[hxk] at hz
   cases hz
   exact h0
 by_cases hd:x.1=C.au.ch.drain
 ·refine VG (VY 23 false Z (by simpa using hd) ?_)
  refine kh ?_
  refine fL ?_
  exact⟨i+1,⟨by omega,hstep (by rw[DT hd];rfl)⟩,by dsimp only;omega,SC Z (SC Z (SC Z (SC Z (Sub.int Z yd (SN _))))),aa.tail.ah⟩
 refine VG (VY 23 true Z (by simpa using hd) ?_)
 refine g_ ?_
 refine VG (VL 0 (aH x) Z Z Z Z ?_)
 refine VG (VV (fun Fr w hF hw hS=>rh Fr w fit (hy.of hF hw) x) Z ?_)
 refine aw ?_
 refine CC Z (fun hh=>?_) (fun hh=>CK ?_)
 ·refine ae ?_
  refine CR (aq.bool 2 Z Z ?_ aa.nil.ah ⟨rfl,Z⟩)
  unfold tI
  refine(Bn.2 ⟨x,hxm,?_⟩).symm
  rw[DF hd,hh];rfl
 refine fL ?_
 exact⟨i+1,⟨by omega,hstep (by rw[hh,ki])⟩,by dsimp only;omega,SC Z (SC Z (SC Z (SC Z (Sub.int Z yd (SN _))))),aa.tail.ah⟩
end
end Cl
namespace Cl
open Go Vg T Api Ch Rep Conf Lg Rd
attribute [local irreducible] VO VC VA
theorem Rk:az Tryz.prog 43 [.pointer none] Fr w [] (fun v L=>v=.bool false∧L=[]):=by
 have mn:∀Fr w,az Tryz.prog 86 [.pointer none] Fr w [] (fun v L=>v=.bool false∧L=[]):=fun Fr w=>by
  refine TF 12 Tryz.func86 Z ym aD Z Z ?_
  refine yC ?_
  refine aw ?_
  exact mB
 refine TF 12 Tryz.func43 Z ym aD Z Z ?_
 refine aw ?_
 refine VG (VV (fun Fr w hF hw _=>mn Fr w) Z ?_)
 refine yC ?_
 refine aw ?_
 exact mB
section
variable {p:Nat} {C:al} {y:fV} {b e:Nat}
theorem abF(fit:fM C y)(hb:bu Fr w p (je C y))(hc:bu Fr w y.cb (flat nh y.cr++y.cx))(n:Nat):az Tryz.prog 42 [.pointer (some ⟨p,0,none⟩),.int .i64 (n:Int)] Fr w []
  (fun v L=>v=(match y.cr[n]? with
   | none=>.pointer none
   | some x=>.pointer (some ⟨x.1,0,none⟩))∧L=[]):=by
 refine TF 28 Tryz.func42 Z ym aD Z Z ?_
 refine aw ?_
 refine Bf ?_
 refine aw ?_
 refine xN ?_
 refine aw ?_
 refine VG (VY 12 false Z (DF yd) ?_)
 refine sZ ?_
 refine CP (p:=(y.cr.length:Int)≤n) Z (fun h=>?_) (fun h=>CK ?_)
 ·refine aw ?_
  exact CR (aq.tmp 4 Z Z ER ⟨by rw[lO yd],Z⟩)
 have hl:n<y.cr.length:=by omega
 have hx:y.cr[n]?=some y.cr[n]:=GE hl
 generalize y.cr[n]=x at hx
 rw[hx]
 refine sZ ?_
 refine VG (VI (fp n Z Z Z Z Z Z hl) ?_)
 refine VG (VO.load Z Z (ax.aC hc (zk hx)) ?_)
 refine aw ?_
 exact xT
theorem RK{Fr:Nat→Prop}{w:World}(hy:a8 Fr (eY p C y) w){k:Nat}{x:nQ}(h:y.cr[k]?=some x):∃z,bu Fr w x.1 (dv x.2 z):=by
 have h1:a8 Fr [bR x.1 x.2] w:=by
  refine((hy.at_ 9 Z).sep).at_ k ?_
  rw[eh,h];rfl
 obtain⟨z,hz⟩:=h1.ex
 exact⟨z,hz.sep.aC 0 Z⟩
theorem Us{Fr:Nat→Prop}{w:World}(ok:C.Ok b e)(fit:fM C y)(hy:a8 Fr (eY p C y) w)(n:Nat):∃u,u=(match y.cr[n]? with
   | none=>Value.pointer none
   | some x=>.pointer (some ⟨x.1,0,none⟩))∧∀(Fr':Nat→Prop) (w':World),(∀b,Fr b→Fr' b)→dG Fr w w'→az Tryz.prog 43 [u] Fr' w' [] (fun v L=>v=.bool (wy C n)∧L=[]):=by
 cases hx:y.cr[n]? with
 | none=>
  refine⟨_,Z,fun Fr' w' hF hk=>?_⟩
  have:wy C n=false:=by
   unfold wy al.du
   rw[if_neg yd,dZ]
   have:=List.getElem?_eq_none_iff.1 hx
   rw[uS fit] at this
   rw[lO this]
  rw[this]
  exact Rk Fr' w'
 | some x=>
  obtain⟨z,hz⟩:=RK hy hx
  obtain⟨h1,h2⟩:=zj fit hx
  refine⟨_,Z,fun Fr' w' hF hk=>?_⟩
  refine Go.Proofs.YtkgfhabealjjpaaGreat.Ring.az.drop (EI Fr' w' (ok.lC _ (ME h2)) (y:=z) ⟨hF _ hz.fr,by rw[hk.block _ hz.fr];exact hz.at_⟩) fun v L h=>⟨L,⟨?_,h.2⟩,aa.refl⟩
  rw[h.1]
  unfold wy
  rw[h1]
  show Value.bool (x.2.eR != 0)=Value.bool (decide (x.2.eR≠0))
  by_cases h0:x.2.eR=0<;>simp[h0]
theorem FC(ok:C.Ok b e)(fit:fM C y)(hy:a8 Fr (eY p C y) w){n:Int}{r:av}(hn:C.node n=some r):az Tryz.prog 41 [.pointer (some ⟨p,0,none⟩),.int .i64 n] Fr w [] (fun v L=>v=.bool (sy r)∧L=[]):=by
 have okr:=(ok.fit r (Mf hn)).ok
 refine TF 30 Tryz.func41 Z ym aD Z Z ?_
 refine ae ?_
 refine PU ?_
 intro v hv
 rw[hn] at hv
 obtain⟨k,q,-,hk,rfl⟩:∃k q,n=(k:Nat)∧y.nr[k]?=some (some (q,r))∧v=.pointer (some ⟨q,0,none⟩):=hv
 have hr:=CH hy hk
 refine ae ?_
 refine VC.loop (σ:=Nat) (fun i=>[(5,pV q),(6,.int .i64 (i:Int))]) (fun _=>[]) (fun i=>i≤4∧∀j<i,r.aI.aL.sD (j:Nat)≤0) (fun i=>4-i) 0
  ⟨bU _,fun j hj=>absurd hj (Bx j)⟩ aP ER ?_
 rintro i ⟨hi,hall⟩
 refine ae ?_
 refine CP (p:=(i:Int)<4) Z (fun h2=>CK ?_) (fun h2=>CX ?_)
 rotate_left
 ·obtain rfl:i=4:=by omega
  have ha:(List.range 4).all (fun k=>decide (r.aI.aL.sD (k:Nat)≤0))=true:=lh.2 fun j hj=>DT (hall j (o6.1 hj))
  refine ae ?_
  refine PY ?_
  rintro _ _ ⟨wq,rfl,rfl⟩
  refine PO ?_
  refine ae ?_
  refine PY ?_
  rintro _ _ ⟨wq2,rfl,rfl⟩
  refine VG (VV (fun Fr w hF hw hS=>Win.pk Fr w (hS.aC 0 Z) okr.an.dL) Z ?_)
  refine ae ?_
  by_cases i2:r.an.done=r.an.last
  ·refine VG (VY 25 true Z (by simpa using i2) ?_)
   refine aw ?_
   refine VG (VV (fun Fr w hF hw hS=>Xb Fr w okr (hr.of hF hw)) Z ?_)
   refine aw ?_
   exact CR (aq.bool 4 Z Z (by unfold sy;rw[ha,DT i2,uH,uH];exact decide_eq_decide.2 yd) aa.nil.ah ⟨rfl,Z⟩)
  ·refine VG (VY 25 false Z (by simpa using i2) ?_)
   refine aw ?_
   exact CR (aq.bool 4 Z Z (by unfold sy;rw[DF i2,kF,ki]) aa.nil.ah ⟨rfl,Z⟩)
 refine ae ?_
 refine VG (VV (fun Fr w hF hw hS=>aca Fr w (hr.of hF hw) (i:Int)) Z ?_)
 refine ae ?_
 refine CP (p:=(0:Int)<r.aI.aL.sD (i:Nat)) Z (fun h3=>?_) (fun h3=>CK ?_)
 ·refine ae ?_
  refine CR (aq.bool 4 Z Z ?_ aa.nil.ah ⟨rfl,Z⟩)
  unfold sy
  rw[tm.2 ⟨i,o6.2 yd,by rw[decide_eq_true_eq];omega⟩,kF]
 refine fL ?_
 exact⟨i+1,⟨by omega,fun j hj=>by
  by_cases e:j<i
  ·exact hall j e
  ·obtain rfl:j=i:=by omega
   omega⟩,by dsimp only;omega,SC rfl (Sub.int rfl yd (SN _)),ER⟩
theorem GO(ok:C.Ok b e)(h:a8 Fr [cV p C] w):az Tryz.prog 16 [.pointer (some ⟨p,0,none⟩)] Fr w [] (fun v L=>v=.bool (oU C)∧L=[]):=by
 obtain⟨y,fit,hy⟩:=wG h
 have hml:=ok.au.ml
 refine TF 52 Tryz.func16 Z ym aD Z Z ?_
 refine ae ?_
 refine VG (VV (fun Fr w hF hw hS=>Fp Fr w (h.of hF hw)) Z ?_)
 refine pK ?_
 refine Iu ?_
 refine PW ?_
 rintro _ _ ⟨ma,mc,rfl,rfl⟩
 refine VG (VO.bJ 0 Z (ba.rl aU ma mc C.au.ch.ms cn) ?_)
 rintro⟨xa,xc,xb,xcs,xs⟩ ⟨rok,rv,rx⟩
 dsimp only at rx
 have hxs:C.au.ch.ms=xs:=rx.symm
 injection rv with e1 e2 e3
 subst e1 e3
 have hlen:C.au.ch.ms.length=xs.length:=by rw[hxs]
 refine VG (VO.alloc Z fun cb=>?_)
 refine PX ?_
 refine aj ?_
 refine VC.dH Z (fun h3=>?_) (fun hdr=>CK ?_)
 ·refine ae ?_
  exact CR (aq.bool 2 Z Z (by unfold oU;rw[DF h3,kF]) aa.nil.ah ⟨rfl,Z⟩)
 refine aj ?_
 refine VC.loop (σ:=Nat) (fun i=>[(0,pV p),(3,pV cb),(16,.slice xa C.au.ch.ms.length xc),(17,.int .i64 C.au.ch.ms.length),(18,.int .i64 (i:Int))]) (fun _=>[pt cb (C.au.ch.cells xa xc) dP,RL.h aU ⟨xa,xc,xb,xcs,xs⟩]) (fun i=>i≤xs.length∧∀j<i,∀x,xs[j]?=some x→ua C x=true) (fun i=>xs.length-i) 0
  ⟨bU _,fun j hj=>absurd hj (Bx j)⟩ aP ER ?_
 rintro i ⟨hi,hall⟩
 refine ae ?_
 refine CP (p:=(i:Int)<C.au.ch.ms.length) Z (fun h2=>CK ?_) (fun h2=>CX ?_)
 rotate_left
 ·have hms:C.au.ch.ms.all (ua C)=true:=by
   rw[hxs]
   refine lh.2 fun x hx=>?_
   obtain⟨j,hj⟩:=List.mem_iff_getElem?.1 hx
   exact hall j Qu x hj
  refine ae ?_
  refine VC.loop (σ:=Nat) (fun i=>[(0,pV p),(6,.int .i64 (i:Int))]) (fun _=>[]) (fun i=>i≤6∧∀j<i,wy C j=false) (fun i=>6-i) 0
   ⟨bU _,fun j hj=>absurd hj (Bx j)⟩ aP aa.nil.ah ?_
  rintro n ⟨hn,hno⟩
  refine ae ?_
  refine CP (p:=(n:Int)<6) Z (fun h4=>CK ?_) (fun h4=>CX ?_)
  rotate_left
  ·refine ae ?_
   exact CR (aq.bool 2 Z Z (by
    unfold oU
    rw[DT hdr,hms,lh.2 fun n hn=>(by rw[hno n (by have:=o6.1 hn;omega)];rfl)]
    rfl) aa.nil.ah ⟨rfl,rfl⟩)
  obtain⟨u,hu,hbz⟩:=Us ok fit hy n
  refine ae ?_
  refine VG (VV (fun Fr w hF hw hS=>abF Fr w fit ((hy.aC 0 Z).of hF hw) ((hy.aC 4 Z).of hF hw) n) Z ?_)
  rw[←hu]
  refine VG (VV (fun Fr w hF hw hS=>hbz Fr w hF hw.cS) Z ?_)
  refine ae ?_
  refine CC Z (fun hb=>?_) (fun hb=>CK ?_)
  ·refine ae ?_
   refine CR (aq.bool 2 Z Z ?_ aa.nil.ah ⟨rfl,Z⟩)
   unfold oU
   rw[tm.2 ⟨n,o6.2 yd,by rw[hb];decide⟩,ki,ki]
  refine fL ?_
  exact⟨n+1,⟨by omega,fun j hj=>by
   by_cases e:j<n
   ·exact hno j e
   ·obtain rfl:j=n:=by omega
    exact hb⟩,by dsimp only;omega,SC Z (Sub.int Z yd (SN _)),ER⟩
 have hil:i<xs.length:=by omega
 have hxk:xs[i]?=some xs[i]:=GE hil
 generalize xs[i]=x at hxk
 have hno:ua C x=false→oU C=false:=fun g=>by
  unfold oU
  rw[tm.2 ⟨x,by rw[hxs];exact ME hxk,by rw[g];decide⟩,kF,ki]
 obtain⟨tb,tof,htb,hta,hrd⟩:=RL.Ok.ld (t:=aU) (k:=i) (x:=x) rok hxk (cn x)
 dsimp only at hta
 subst hta
 refine ae ?_
 refine VG (VI (fp i Z Z Z Z Z Z yd) ?_)
 refine HO ?_
 refine VG (VO.alloc Z fun xb2=>?_)
 refine DR ?_
 refine ae ?_
 cases hhas:sw C x with
 | false=>
  refine CD (ts 0 2 (.only 2 (ts 3 18 .nil))) ym yr ?_
  refine IM ?_
  refine fi ?_
  refine AG (VA.dK (φ:=fun v=>v=.bool false) (fun Fr w hF hw hS=>by have:=rh Fr w fit (hy.of hF hw) x;rw[hhas] at this;exact this) Z Z yu ?_)
  rintro _ rfl
  refine ju ?_
  refine AG (AY 26 true Z Z ?_)
  refine ju ?_
  refine AG (AY 36 true Z Z ?_)
  refine ju ?_
  refine uD ?_
  exact CR (aq.bool 2 Z Z (hno (by unfold ua;rw[hhas];rfl)).symm aa.nil.ah ⟨rfl,Z⟩)
 | true=>
 obtain⟨r,hnd⟩:∃r,C.node x.1=some r:=by
  unfold sw at hhas
  cases hx:C.node x.1 with
  | none=>rw[hx] at hhas;cases hhas
  | some r=>exact⟨r,rfl⟩
 have hmr:ua C x=(decide (r.ch=C.au.ch)&&sy r):=by unfold ua;rw[hhas,hnd];rfl
 have okr:=(ok.fit r (Mf hnd)).ok
 by_cases hch:r.ch=C.au.ch
 rotate_left
 ·refine CD (ts 0 2 (.only 2 (ts 3 5 (ts 10 1 (.only 8 (.only 9 (.only 11 (ts 12 9 .nil)))))))) ym yr ?_
  refine IM ?_
  refine fi ?_
  refine PZ ?_
  rintro _ rfl
  refine ju ?_
  refine AG (AY 26 false Z Z ?_)
  refine ju ?_
  refine P0 ?_
  refine ju ?_
  refine P1 ?_
  rintro _ ⟨k,q,-,hk,rfl⟩
  have hr:=CH hy hk
  refine fi ?_
  refine AG (VA.op (i:=9) Z Z Z Z (OC (Lc:=[]) (vals:=[.pointer (some ⟨q,0,none⟩)]) Z (List.Perm.refl _) (fun Fr w hF hw hS=>EN Fr w okr (hr.of hF hw))) ?_ ?_)
  ·rintro _ _ ⟨_,⟨ca,cc,rfl,rfl⟩,rfl⟩
   exact yu
  rintro _ _ ⟨_,⟨ca,cc,rfl,rfl⟩,rfl⟩
  refine fi ?_
  refine AG (VA.dK (φ:=fun v=>v=.bool false) (fun Fr w hF hw hS=>by
   have h1:=aV.rl (hS.at_ 3 rfl) rok
   dsimp only at h1
   rw[←hxs] at h1
   have:=Na Fr w (c:=r.ch) (d:=C.au.ch) (ac:=cc) (bc:=xc) (aV.aA cn (hS.at_ 0 rfl)) h1 (by have:=okr.ch.len;omega) yd
   rw[DF hch] at this
   exact this) Z Z yu ?_)
  rintro _ rfl
  refine fi ?_
  refine AG (AY 36 true Z Z ?_)
  refine ju ?_
  refine uD ?_
  exact CR (aq.bool 2 Z Z (hno (by rw[hmr,DF hch,kF])).symm aa.nil.ah ⟨rfl,Z⟩)
 refine CD (ts 0 2 (.only 2 (ts 3 5 (ts 10 1 (.only 8 (.only 9 (.only 11 (ts 12 6 (.only 18 (ts 19 2 .nil)))))))))) ym yr ?_
 refine IM ?_
 refine fi ?_
 refine PZ ?_
 rintro _ rfl
 refine ju ?_
 refine AG (AY 26 false Z Z ?_)
 refine ju ?_
 refine P0 ?_
 refine ju ?_
 refine P1 ?_
 rintro _ ⟨k,q,-,hk,rfl⟩
 have hr:=CH hy hk
 refine fi ?_
 refine AG (VA.op (i:=9) Z Z Z Z (OC (Lc:=[]) (vals:=[.pointer (some ⟨q,0,none⟩)]) Z (List.Perm.refl _) (fun Fr w hF hw hS=>EN Fr w okr (hr.of hF hw))) ?_ ?_)
 ·rintro _ _ ⟨_,⟨ca,cc,rfl,rfl⟩,rfl⟩
  exact yu
 rintro _ _ ⟨_,⟨ca,cc,rfl,rfl⟩,rfl⟩
 refine fi ?_
 refine AG (VA.dK (φ:=fun v=>v=.bool true) (fun Fr w hF hw hS=>by
  have h1:=aV.rl (hS.at_ 3 rfl) rok
  dsimp only at h1
  rw[←hxs] at h1
  have:=Na Fr w (c:=r.ch) (d:=C.au.ch) (ac:=cc) (bc:=xc) (aV.aA cn (hS.at_ 0 rfl)) h1 (by rw[hch];omega) yd
  rw[DT hch] at this
  exact this) Z Z yu ?_)
 rintro _ rfl
 refine fi ?_
 refine AG (AY 36 false Z Z ?_)
 refine ju ?_
 refine AG (VA.dK (φ:=fun v=>v=.bool (sy r)) (fun Fr w hF hw hS=>FC Fr w ok fit (hy.of hF hw) hnd) Z Z yu ?_)
 rintro _ rfl
 refine fi ?_
 refine CC Z (fun hid=>?_) (fun hid=>CK ?_)
 ·refine ae ?_
  exact CR (aq.bool 2 Z Z (hno (by rw[hmr,show sy r=false by simpa using hid,ki])).symm aa.nil.ah ⟨rfl,Z⟩)
 refine fL ?_
 exact⟨i+1,⟨by omega,fun j hj z hz=>by
  by_cases e:j<i
  ·exact hall j e z hz
  ·obtain rfl:j=i:=by omega
   rw[hxk] at hz
   cases hz
   rw[hmr,DT hch,show sy r=true by simpa using hid]
   rfl⟩,by dsimp only;omega,SC rfl (SC rfl (SC rfl (SC rfl (Sub.int rfl yd (SN _))))),(aa.trans aa.tail aa.tail).ah⟩
end
end Cl
namespace Cl
open Go Vg T Api Ch Rep Conf Lg Rd Sched
attribute [local irreducible] VO VC VA
section
variable {u:Value}
end
theorem XP{F:bh}(hF:F=bI F){a:Option Addr}{c:Nat}(ha:oG a)(hc:F.qs.length≤c)(hq:iD Fr w a F.qs)(h1:F.fI=4)(h2:F.nodes=1)(h3:F.gr=0)(h4:F.timeout=4):
  az Tryz.prog 18 [.agg (F.cells a c).toArray,.int .i64 10] Fr w [] (fun v L=>v=.int .i64 288∧L=[]):=by
 refine TF 36 Tryz.func18 Z ym aD Z Z ?_
 refine CS (CG (VG (VB (vs:=F.cells a c) Z fun b2=>?_)))
 refine ae ?_
 refine VG (VL 0 (F.cells a c) Z Z Z Z ?_)
 refine VG (VV (fun Fr w hF' hw hS=>iG Fr w F a c (oh hq hF' hw) ha hc) Z ?_)
 rw[show nY F=0 from if_pos hF]
 refine ae ?_
 refine xN ?_
 refine aw ?_
 refine VG (VY 12 false Z Z ?_)
 refine kh ?_
 refine ta ?_
 refine VG (VO.mul Z Z yd yd ?_)
 refine aj ?_
 refine VG (VO.mul Z Z yd yd ?_)
 refine aj ?_
 refine VG (VP Z Z yo yo ?_)
 refine VG (VO.mul Z Z D8 D8 ?_)
 refine VG (VP Z Z (by rw[h1,h2];decide) (by rw[h1,h2];decide) ?_)
 refine ta ?_
 refine VG (VO.mul Z Z yd yd ?_)
 refine ta ?_
 refine VG (VO.mul Z Z (by rw[h3,h4];decide) (by rw[h3,h4];decide) ?_)
 refine VG (VP Z Z IH IH ?_)
 refine ae ?_
 exact CR (aq.int 4 Z Z IH aa.nil.ah ⟨rfl,Z⟩)
theorem MH:Ap.Ok 1000 1000:=(tE.new E0).ok.mono yo yo
theorem MI:xn.Ok 2000 2000:=by
 have h1:Aq.Ok 1100 1100:=(xy (MH.bf yd yd (fh 3 0 0)) yd yd 6 (NR _)).mono yd yd
 have h2:GF.Ok 1200 1200:=(h1.bf yd yd _).mono yd yd
 exact(h2.bf yd yd _).mono yd yd
theorem acG:(bI zC).fI=4∧(bI zC).nodes=1∧(bI zC).gr=0∧(bI zC).timeout=4:=by decide +kernel
theorem Xi:az Tryz.prog 5 [] Fr w [] (fun v L=>v=.bool true∧L=[]):=by
 obtain⟨z1,z2,z3,z4⟩:=acG
 obtain⟨r1,r2,r3⟩:=W1
 refine TF 36 Tryz.func5 Z ym aD Z Z ?_
 refine ae ?_
 refine VG (VI (LB (pv:=[]) (zC.cells none 0) Z Z Z Z Z) ?_)
 refine VG (VK (Lc:=[]) (fun Fr w _ _ _=>MW Fr w zC none 0 ⟨fun h=>absurd Z h⟩) Z Z ?_)
 rintro _ _ ⟨a,cap,ha,hcap,rfl,rfl⟩
 refine VG (VO.alloc Z fun b1=>?_)
 refine VG (VT (vs:=(bI zC).cells a cap) (cs':=(bI zC).cells a cap) 0 Z Z Z Z (NR _) Z Z Z ?_)
 refine ae ?_
 refine VG (VL 0 ((bI zC).cells a cap) Z Z Z Z ?_)
 refine VG (VK (Lc:=[]) (fun Fr w _ _ h2=>N2 Fr w (bI zC) (uY (h2.at_ 1 Z)) hcap) Z Z ?_)
 intro v L1 g
 rw[if_pos E0] at g
 obtain⟨p,rfl,rfl⟩:=g
 refine ae ?_
 refine VG (VY 13 true Z Z ?_)
 refine aw ?_
 refine VG (VL 1 ((bI zC).cells a cap) Z Z Z Z ?_)
 refine VG (VV (fun Fr w hF hw hS=>XP Fr w E0 ha hcap (uY (hS.at_ 2 Z)) z1 z2 z3 z4) Z ?_)
 refine aw ?_
 refine VG (VY 18 true Z Z ?_)
 refine aw ?_
 refine VG (VQ 0 Z (fun Fr w hF hs hS=>MY Fr w MH yd yd) Z (ψ:=fun v H=>v=.int .i64 1∧H=cV p xn) (fun v L h=>by
  obtain⟨C,m,hR,h1,h2⟩:=h
  obtain⟨rfl,rfl⟩:=W2 hR
  exact⟨_,h2,h1,Z⟩) ?_)
 rintro _ _ ⟨rfl,rfl⟩
 refine aw ?_
 refine VG (VY 23 true Z Z ?_)
 refine aw ?_
 refine VG (VV (fun Fr w hF hw hS=>by have:=GO Fr w MI (hS.at_ 0 Z);rw[r1] at this;exact this) Z ?_)
 refine aw ?_
 refine VG (VY 27 true Z Z ?_)
 refine aw ?_
 refine VG (VV (fun Fr w hF hw hS=>by have:=I_ Fr w MI (hS.at_ 0 Z);rw[r2] at this;exact this) Z ?_)
 refine aw ?_
 refine VG (VY 31 true Z Z ?_)
 refine aw ?_
 refine VG (VV (fun Fr w hF hw hS=>Hl Fr w (hS.at_ 0 Z)) Z ?_)
 rw[r3]
 refine aw ?_
 exact CR (aq.tmp 0 Z Z aa.nil.ah ⟨rfl,Z⟩)
end Cl
namespace Cl
open Go Vg T Api Ch Rep Conf Lg Rd
theorem Cd{n:Int}(h:gF n=true):0≤n∧n≤1099511627776:=by unfold gF at h;simpa using h
theorem FF:∀(l:List Int) (r:Bs),(∀n∈l,gF n=true)→gX l.length (l.flatMap cZ++r)=some (l,r)
 | [],r,_=>rfl
 | n::l,r,h=>by
  have hn:=Cd (h n (mW ..))
  rw[uL,eL,iA]
  unfold gX
  rw[rJ yd hn.2]
  dsimp only
  rw[FF l r fun m hm=>h m (i_ _ hm)]
theorem V_{o:bB}(h:dD o=0):(1≤o.kind∧o.kind≤4)∧o.key.size≤64∧o.value.size≤64∧(mS o.kind=false→o.value.size=0)∧(o.kind≠4→o.version=0)∧(o.kind=4→0≤o.version∧o.version≤1099511627776):=by
 unfold dD at h
 split at h
 ·cases h
 split at h
 ·cases h
 rename_i hb hl
 simp only[oR,qn,Bool.or_eq_true,dN,Bool.not_eq_true',Eh,decide_eq_true_eq,decide_eq_false_iff_not,not_or,not_and] at hb hl
 obtain⟨⟨⟨⟨⟨⟨a1,a2⟩,a3⟩,a4⟩,a5⟩,a6⟩,a7⟩:=hb
 refine⟨⟨by omega,by omega⟩,by omega,by omega,fun hv=>?_,fun h4=>?_,fun h4=>⟨by omega,by omega⟩⟩
 ·unfold mS at hv
  simp only[Eh,decide_eq_false_iff_not] at hv
  by_cases hz:o.value.size=0
  ·exact hz
  ·exact absurd hv (by simpa using a7 hz)
 ·by_cases hz:o.version=0
  ·exact hz
  ·exact absurd h4 (by simpa using a6 hz)
theorem KA{o:bB}(h:dD o=0):rf (py o)=some o:=by
 obtain⟨⟨k1,k2⟩,hk,hv,h1,h2,h3⟩:=V_ h
 unfold rf py
 rw[eL,eL,rJ yd yd]
 dsimp only
 rw[J0 _ _ (by rw[um];omega)]
 dsimp only
 have hval:(if mS o.kind then jf ((if mS o.kind then nJ (sB o.value) else [])++(if o.kind=4 then cZ o.version else [])) else some ([],(if mS o.kind then nJ (sB o.value) else [])++(if o.kind=4 then cZ o.version else [])))=some (sB o.value,if o.kind=4 then cZ o.version else []):=by
  cases hb:mS o.kind with
  | true=>exact J0 _ _ (by rw[um];omega)
  | false=>
   have:sB o.value=[]:=iz (by rw[um];exact h1 hb)
   rw[this];rfl
 rw[hval]
 dsimp only
 have hver:(if o.kind=4 then cw (if o.kind=4 then cZ o.version else []) else some (0,if o.kind=4 then cZ o.version else []))=some (o.version,[]):=by
  by_cases h4:o.kind=4
  ·have:=h3 h4
   rw[if_pos h4,if_pos h4]
   have:=rJ (n:=o.version) yd yd []
   rwa[bK] at this
  ·rw[if_neg h4,if_neg h4,h2 h4]
 rw[hver]
 dsimp only
 rw[BP,BP,if_pos ⟨rfl,h⟩]
end Cl
namespace Cl
open Go Vg T Api Ch Rep Conf Lg Rd
theorem Nq:∀(os:List Nat) (f:ay) (ns:List Int),(oV f os ns).kind=f.kind
 | [],f,ns=>by cases ns<;>rfl
 | o::os,f,[]=>rfl
 | o::os,f,n::ns=>by
  show(oV (uq f o n) os ns).kind=_
  rw[Nq os]
  unfold uq
  split<;>rfl
theorem W8{f:ay}{s:Bs}{g:ay}{ms:List aR}(h:nC f s=some (g,ms)):g.kind=f.kind:=by
 unfold nC at h
 repeat' split at h
 all_goals first | (cases h;rfl) | cases h
theorem LG:∀ms:List aR,pw (ms.flatMap fun m=>[m.1,m.2])=ms
 | []=>rfl
 | m::ms=>by
  show(m.1,m.2)::pw (ms.flatMap fun m=>[m.1,m.2])=m::ms
  rw[LG ms]
theorem U2(ms:List aR):(ms.flatMap fun m=>[m.1,m.2]).length=2*ms.length:=by
 induction ms with
 | nil=>rfl
 | cons m ms ih=>
  show(m.1::m.2::ms.flatMap fun m=>[m.1,m.2]).length=_
  rw[iA,iA,ih,iA];omega
theorem U9(ms:List aR):ms.flatMap (fun m=>cZ m.1++cZ m.2)=(ms.flatMap fun m=>[m.1,m.2]).flatMap cZ:=by
 induction ms with
 | nil=>rfl
 | cons m ms ih=>
  rw[uL,uL,List.flatMap_append,ih]
  simp
theorem Tv{c:aW}(h:e_ c=0):jV (wB c)=some c:=by
 have v:=zi.1 h
 have v1:=v.e1
 have v2:=v.e2
 have v3:=v.l1
 have v4:=v.l2
 have hd:-1≤c.drain∧c.drain≤1099511627776:=by
  rcases v.dr with hd | hd
  ·rw[hd];decide
  ·obtain⟨m,hm,he⟩:=bP.1 hd
   have:=(v.mr m hm).1
   omega
 unfold jV wB
 rw[eL,eL,rJ yd v2]
 dsimp only
 rw[rJ yd yd]
 dsimp only
 rw[if_neg yd,dZ,U9,←U2,FF _ _ fun n hn=>by
  obtain⟨m,hm,hx⟩:=List.mem_flatMap.1 hn
  have:=v.mr m hm
  simp only[jK,oE,or_false] at hx
  unfold gF
  rcases hx with rfl | rfl<;>simp<;>omega]
 dsimp only
 have e:=rJ (n:=c.drain) hd.1 hd.2 []
 rw[bK] at e
 rw[e]
 dsimp only
 rw[LG,if_pos ⟨rfl,h⟩]
structure Em(f:ay)(ms:List aR)(g:ay)(ms':List aR):Prop where
 kind:g.kind=f.kind
 k1:f.kind=1→g.aF=f.aF∧g.seq=f.seq
 k4:f.kind=4→g.ar=f.ar∧g.entry=f.entry
 k6:f.kind=6∨f.kind=11→g.ar=f.ar∧g.index=f.index
 k8:f.kind=8→g.dV=f.dV∧ms'=ms∧g.drain=f.drain
theorem MC{f:ay}{ms:List aR}{t:Bs}(h:qq f ms=some t){g:ay}{ms':List aR}(hg:getM t=some (g,ms')):Em f ms g ms':=by
 unfold qq at h
 split at h
 rotate_left
 ·cases h
 rename_i hm
 split at h
 ·cases h
 rename_i hlen
 cases h
 unfold getM at hg
 rw[if_neg hlen] at hg
 unfold mg at hm
 simp only[dN,decide_eq_true_eq,lh] at hm
 obtain⟨hk,hn,hb⟩:=hm
 have e1:uj f ms=cZ f.kind++(((fT f.kind).map (iw f)).flatMap cZ++lU f ms):=by
  unfold uj
  rw[eL,List.flatMap_map]
 rw[e1,rJ yd yd] at hg
 dsimp only at hg
 have e2:=FF ((fT f.kind).map (iw f)) (lU f ms) (fun n hx=>by
  obtain⟨o,ho,rfl⟩:=bP.1 hx
  exact hn o ho)
 rw[cW] at e2
 rw[e2] at hg
 dsimp only at hg
 split at hg
 ·cases hg
 rename_i g1 ms1 hr
 split at hg
 rotate_left
 ·cases hg
 cases hg
 have hkind:g.kind=f.kind:=by rw[W8 hr,Nq]
 refine⟨hkind,fun k=>?_,fun k=>?_,fun k=>?_,fun k=>?_⟩
 ·unfold pn at hb
  rw[if_pos k] at hb
  have hb:=of_decide_eq_true hb
  have eo:fT f.kind=[1,2,3,4,5,6]:=by rw[k];rfl
  have eb:lU f ms=py f.op:=by unfold lU;rw[if_pos k]
  rw[eo,eb] at hr
  have es:oV { ay.zero with kind:=f.kind } [1,2,3,4,5,6] ([1,2,3,4,5,6].map (iw f))={ ay.zero with kind:=f.kind,ar:=f.ar,aF:=f.aF,seq:=f.seq,br:=f.br,cls:=f.cls,deadline:=f.deadline }:=rfl
  rw[es] at hr
  unfold nC at hr
  dsimp only at hr
  rw[if_pos k,KA hb] at hr
  cases hr
  exact⟨rfl,Z⟩
 ·unfold pn at hb
  rw[if_neg yd,if_neg yd,if_pos k] at hb
  simp only[dN,decide_eq_true_eq] at hb
  obtain⟨⟨b1,b2,b3⟩,b4⟩:=hb
  have b1:=Cd b1
  have b2:=Cd b2
  have b3:=Cd b3
  have eo:fT f.kind=[1]:=by rw[k];rfl
  have eb:lU f ms=cZ f.entry.index++(cZ f.entry.aF++(cZ f.entry.seq++py f.entry.op)):=by
   unfold lU
   rw[if_neg yd,if_neg yd,if_pos k,eL,eL]
  rw[eo,eb] at hr
  have es:oV { ay.zero with kind:=f.kind } [1] ([1].map (iw f))={ ay.zero with kind:=f.kind,ar:=f.ar }:=rfl
  rw[es] at hr
  unfold nC at hr
  dsimp only at hr
  rw[if_neg yd,if_neg yd,if_pos k,rJ yd b1.2] at hr
  dsimp only at hr
  rw[rJ yd b2.2] at hr
  dsimp only at hr
  rw[rJ yd b3.2] at hr
  dsimp only at hr
  rw[KA b4] at hr
  cases hr
  exact⟨rfl,Z⟩
 ·have eo:fT f.kind=[1,26]:=by rcases k with k | k<;>rw[k]<;>rfl
  have eb:lU f ms=[]:=by
   unfold lU
   rw[if_neg yd,if_neg yd,if_neg yd,if_neg yd]
  rw[eo,eb] at hr
  have es:oV { ay.zero with kind:=f.kind } [1,26] ([1,26].map (iw f))={ ay.zero with kind:=f.kind,ar:=f.ar,index:=f.index }:=rfl
  rw[es] at hr
  unfold nC at hr
  dsimp only at hr
  rw[if_neg yd,if_neg yd,if_neg yd,if_neg yd,if_pos rfl] at hr
  cases hr
  exact⟨rfl,Z⟩
 ·unfold pn at hb
  rw[if_neg yd,if_neg yd,if_neg yd,if_pos k] at hb
  have hb:=of_decide_eq_true hb
  have eo:fT f.kind=[]:=by rw[k];rfl
  have eb:lU f ms=wB ⟨f.dV,ms,f.drain⟩:=by
   unfold lU
   rw[if_neg yd,if_neg yd,if_neg yd,if_pos k]
  rw[eo,eb] at hr
  have es:oV { ay.zero with kind:=f.kind } [] (([]:List Nat).map (iw f))={ ay.zero with kind:=f.kind }:=rfl
  rw[es] at hr
  unfold nC at hr
  dsimp only at hr
  rw[if_neg yd,if_neg yd,if_neg yd,if_pos k,Tv hb] at hr
  cases hr
  exact⟨rfl,Z,Z⟩
end Cl
namespace Cl
open Go Vg T Api Ch Rep Conf Lg Rd
theorem Ak{a b:aR}:∀{l:List aR} {i j:Nat},l[i]?=some a→l[j]?=some b→i<j→[a,b].Sublist l
 | [],i,j,h,_,_=>by cases h
 | x::l,0,0,_,_,h=>absurd h (Nat.lt_irrefl 0)
 | x::l,0,j+1,h1,h2,_=>by
  cases h1
  exact(List.singleton_sublist.2 (ME (show l[j]?=some b from h2))).cons_cons _
 | x::l,i+1,0,_,_,h=>absurd h yd
 | x::l,i+1,j+1,h1,h2,h=>(Ak (l:=l) (i:=i) (j:=j) h1 h2 yd).cons _
theorem Gn{a b:aR}:∀{l:List aR},[a,b].Sublist l→∃i j:Nat,i<j∧l[i]?=some a∧l[j]?=some b
 | [],h=>by cases h
 | x::l,h=>by
  cases h with
  | cons _ h=>
   obtain⟨i,j,h1,h2,h3⟩:=Gn h
   exact⟨i+1,j+1,by omega,h2,h3⟩
  | cons_cons _ h=>
   obtain⟨j,hj⟩:=oD (List.singleton_sublist.1 h)
   exact⟨0,j+1,by omega,Z,hj⟩
theorem Mq{a b:aR}{l r:List aR}(h:[a,b].Sublist (l++r))(hb:b∉r):[a,b].Sublist l:=by
 obtain⟨x,y,h1,h2,h3⟩:=List.sublist_append_iff.1 h
 cases y with
 | nil=>rw[bK] at h1;rw[h1];exact h2
 | cons z y=>
  exfalso
  have hm:b∈z::y:=by
   have e:(x++z::y).getLast?=some b:=by rw[←h1];rfl
   rw[List.getLast?_append] at e
   have e2:(z::y).getLast?=some b:=by
    cases hz:(z::y).getLast? with
    | none=>simp at hz
    | some u=>rw[hz] at e;exact e
   exact Ek e2
  exact hb (h3.subset hm)
theorem VJ{l:List aR}(h:(l.map Prod.fst).Nodup):l.Nodup:=by
 unfold List.Nodup at h ⊢
 rw[uM] at h
 exact h.imp fun {a b} hh e=>hh mT
theorem Mj{l:List aR}(h:l.Nodup){i j:Nat}{a:aR}(hi:l[i]?=some a)(hj:l[j]?=some a):i=j:=
 (List.getElem?_inj (bY.1 hi).1 h).1 (hi.trans hj.symm)
structure sg(c c':aW):Prop where
 ep:c'.ar=c.ar+1
 ok:dU c'
 parts:∃l r,c'.ms=l++r∧l.Sublist c.ms∧∀k∈r,c.ar<k.2
structure nP(H:List aW):Prop where
 zero:H[0]?=some qU
 ep:∀(e:Nat) (c:aW),H[e]?=some c→c.ar=e
 ok:∀(e:Nat) (c:aW),H[e]?=some c→1≤e→dU c
 ext:∀(e e':Nat) (c c':aW),e≤e'→H[e]?=some c→H[e']?=some c'→∃l r,c'.ms=l++r∧l.Sublist c.ms∧∀k∈r,(e:Int)<k.2
def gV(H:List aW)(e:Nat):List aR:=((H[e]?).map aW.ms).getD []
theorem pX{H:List aW}{e:Nat}{c:aW}(h:H[e]?=some c):gV H e=c.ms:=by unfold gV;rw[h];rfl
theorem uR{H:List aW}{e:Nat}{k:aR}(h:k∈gV H e):∃c,H[e]?=some c∧k∈c.ms:=by
 unfold gV at h
 cases hc:H[e]? with
 | none=>rw[hc] at h;cases h
 | some c=>rw[hc] at h;exact⟨c,rfl,h⟩
theorem EO{H H':List aW}(h:H <+: H'){e:Nat}(he:e<H.length):gV H' e=gV H e:=by
 obtain⟨t,rfl⟩:=h
 unfold gV
 rw[nL he]
theorem wC{H:List aW}{e:Nat}{k:aR}(h:k∈gV H e):e<H.length:=by
 obtain⟨c,hc,_⟩:=uR h
 exact(bY.1 hc).1
theorem RE{H H':List aW}(h:H <+: H'){e:Nat}{k:aR}(hk:k∈gV H e):k∈gV H' e:=by
 rw[EO h (wC hk)];exact hk
namespace nP
variable {H:List aW}
theorem pos(h:nP H){e:Nat}{k:aR}(hk:k∈gV H e):1≤e:=by
 cases e with
 | zero=>
  rw[pX h.zero] at hk
  cases hk
 | succ e=>omega
theorem since(h:nP H){e:Nat}{k:aR}(hk:k∈gV H e):1≤k.2∧k.2≤e:=by
 obtain⟨c,hc,hm⟩:=uR hk
 have v:=(h.ok e c hc (h.pos hk)).mr k hm
 have:=h.ep e c hc
 omega
theorem node(h:nP H){e:Nat}{k:aR}(hk:k∈gV H e):0≤k.1∧k.1<6:=by
 obtain⟨c,hc,hm⟩:=uR hk
 exact((h.ok e c hc (h.pos hk)).mr k hm).1
theorem nodup(h:nP H)(e:Nat):(gV H e).Nodup:=by
 cases hc:H[e]? with
 | none=>unfold gV;rw[hc];exact List.nodup_nil
 | some c=>
  rw[pX hc]
  cases e with
  | zero=>rw[h.zero] at hc;cases hc;exact List.nodup_nil
  | succ e=>exact VJ (h.ok _ c hc yd).nd
theorem one(h:nP H){e:Nat}{n s s':Int}(h1:(n,s)∈gV H e)(h2:(n,s')∈gV H e):s=s':=by
 obtain⟨c,hc,hm⟩:=uR h1
 rw[pX hc] at h2
 have v:=(h.ok e c hc (h.pos h1)).nd
 obtain⟨i,hi⟩:=oD hm
 obtain⟨j,hj⟩:=oD h2
 have e1:=CV v hi
 have e2:=CV v hj
 dsimp only at e1 e2
 have:i=j:=by omega
 subst this
 rw[hi] at hj
 cases hj;rfl
theorem ord(h:nP H){e e':Nat}(he:e≤e'){a b:aR}(hp:[a,b].Sublist (gV H e'))(hb:b∈gV H e):[a,b].Sublist (gV H e):=by
 have hb':b∈gV H e':=hp.subset yf
 obtain⟨c',hc',_⟩:=uR hb'
 obtain⟨c,hc,_⟩:=uR hb
 obtain⟨l,r,h1,h2,h3⟩:=h.ext e e' c c' he hc hc'
 rw[pX hc',h1] at hp
 rw[pX hc]
 exact(Mq hp fun hr=>by have:=h3 b hr;have:=h.since hb;omega).trans h2
theorem rn(h:nP H){e e' e'':Nat}(h1:e≤e')(h2:e'≤e''){k:aR}(hk:k.2≤e)(hk'':k∈gV H e''):k∈gV H e':=by
 have hl:=wC hk''
 have hc':H[e']?=some H[e']:=GE yd
 obtain⟨c'',hc'',hm⟩:=uR hk''
 obtain⟨l,r,g1,g2,g3⟩:=h.ext e' e'' _ c'' h2 hc' hc''
 rw[pX hc']
 rw[g1] at hm
 rcases ez.1 hm with hm | hm
 ·exact g2.subset hm
 ·have:=g3 k hm;omega
theorem push(h:nP H){c c':aW}(hl:H.getLast?=some c)(hn:sg c c'):nP (H ++ [c']):=by
 have hlen:0<H.length:=by
  cases H with
  | nil=>cases hl
  | cons x H=>exact Nat.succ_pos _
 have hc:H[H.length-1]?=some c:=by rw[←v7];exact hl
 have hep:=h.ep _ c hc
 have hold:∀{e:Nat} {x:aW},(H ++ [c'])[e]?=some x→(e<H.length∧H[e]?=some x)∨(e=H.length∧x=c'):=fun {e x} hx=>by
  by_cases he:e<H.length
  ·rw[nL he] at hx;exact .inl ⟨he,hx⟩
  ·rw[qI yd] at hx
   by_cases e0:e-H.length=0
   ·rw[e0] at hx
    cases hx
    exact .inr ⟨by omega,Z⟩
   ·rw[lO Qv] at hx
    cases hx
 obtain⟨l0,r0,p1,p2,p3⟩:=hn.parts
 refine⟨?_,fun e x hx=>?_,fun e x hx h1=>?_,fun e e' x x' he hx hx'=>?_⟩
 ·rw[nL hlen];exact h.zero
 ·rcases hold hx with ⟨_,hx⟩ | ⟨rfl,rfl⟩
  ·exact h.ep e x hx
  ·rw[hn.ep,hep];omega
 ·rcases hold hx with ⟨_,hx⟩ | ⟨rfl,rfl⟩
  ·exact h.ok e x hx h1
  ·exact hn.ok
 ·rcases hold hx' with ⟨hl',hx'⟩ | ⟨rfl,rfl⟩
  ·rw[nL yd] at hx
   exact h.ext e e' x x' he hx hx'
  ·rcases hold hx with ⟨hl',hx⟩ | ⟨rfl,rfl⟩
   ·obtain⟨l,r,g1,g2,g3⟩:=h.ext e (H.length-1) x c yd hx hc
    rw[g1] at p2
    obtain⟨l1,l2,q1,q2,q3⟩:=List.sublist_append_iff.1 p2
    refine⟨l1,l2++r0,by rw[p1,q1,eL],q2.trans g2,fun k hk=>?_⟩
    rcases ez.1 hk with hk | hk
    ·exact g3 k (q3.subset hk)
    ·have:=p3 k hk;omega
   ·exact⟨x.ms,[],(bK _).symm,List.Sublist.refl _,fun k hk=>by cases hk⟩
end nP
theorem VW{c:aW}{n:Int}(h:(e8 c n).2=0):sg c (e8 c n).1:=by
 have v:=dU.Oj h
 obtain⟨h1,h2,h3,h4⟩:=xJ h
 rw[h4] at v ⊢
 exact⟨rfl,v,c.ms,[(n,c.ar+1)],Z,List.Sublist.refl _,fun k hk=>by rw[eA.1 hk];show c.ar<c.ar+1;omega⟩
theorem VX{c:aW}{n:Int}(h:(im c n).2=0):sg c (im c n).1:=by
 have v:=dU.dy h
 obtain⟨h1,h2,h4⟩:=xK h
 rw[h4] at v ⊢
 exact⟨rfl,v,_,[],(bK _).symm,List.eraseIdx_sublist ..,fun k hk=>by cases hk⟩
theorem VU{c:aW}{n:Int}(h:(gh c n).2=0):sg c (gh c n).1:=by
 have v:=dU.J9 h
 obtain⟨h1,h2,h3,h4⟩:=zr h
 rw[h4] at v ⊢
 exact⟨rfl,v,c.ms,[],(bK _).symm,List.Sublist.refl _,fun k hk=>by cases hk⟩
theorem LC{c:aW}{i:Int}(h:0≤oq c i):0≤i∧∃m,c.ms[i.toNat]?=some m∧m.1=oq c i:=by
 unfold oq at h ⊢
 split at h
 ·rename_i hh
  rw[if_pos hh]
  obtain⟨_,h0,h1⟩:=hh
  have hx:c.ms[i.toNat]?=some c.ms[i.toNat]:=GE yd
  exact⟨h0,_,hx,by rw[hx];rfl⟩
 ·exact absurd h yo
theorem WM{c:aW}{n:Int}(h:0≤An c n):∃(i:Nat) (s s':Int),c.ms[i]?=some (An c n,s')∧c.ms[i+1]?=some (n,s):=by
 unfold An at h ⊢
 obtain⟨h0,m,hm,he⟩:=LC h
 obtain⟨i,m',h5,h6,h7,h8⟩:=vl (ms:=c.ms) (n:=n) yd
 refine⟨(placeOf c.ms n-1).toNat,m'.2,m.2,by rw[←he];exact hm,?_⟩
 rw[show(placeOf c.ms n-1).toNat+1=i by omega,h7,←h8]
theorem TH{c:aW}{n:Int}(hn:0≤n)(h:tS c=n):∃s,c.ms[0]?=some (n,s):=by
 unfold tS at h
 obtain⟨_,m,hm,he⟩:=LC (c:=c) (i:=0) yd
 exact⟨m.2,by rw[←h,←he];exact hm⟩
theorem Nu{c:aW}{n:Int}(h:(cm c n).1≠0):(n,(cm c n).1)∈c.ms:=by
 unfold cm at h ⊢
 split at h
 ·rename_i hh
  rw[if_pos hh]
  obtain⟨i,m,h5,h6,h7,h8⟩:=vl hh.2
  have e:c.ms[(placeOf c.ms n).toNat]?=some m:=by rw[h5,dZ];exact h7
  dsimp only
  rw[e]
  show(n,m.2)∈c.ms
  rw[←h8]
  exact ME h7
 ·exact absurd Z h
theorem G8{c:aW}(v:dU c){n s:Int}(h:(n,s)∈c.ms):cm c n=(s,true):=by
 obtain⟨i,hi⟩:=oD h
 have hp:=CV v.nd hi
 dsimp only at hp
 have ho:kL c=true:=by
  have:=zi.2 v
  unfold e_ at this
  split at this
  ·assumption
  ·cases this
 unfold cm
 rw[if_pos ⟨ho,by omega⟩,hp,dZ,hi]
 rfl
theorem XR{c:aW}(v:dU c){n:Int}(h:(cm c n).1=0)(s:Int):(n,s)∉c.ms:=fun hm=>by
 rw[G8 v hm] at h
 have:=(v.mr _ hm).2.1
 dsimp only at h this
 omega
end Cl
namespace Cl
open Go Vg T Api Ch Rep Conf Lg Rd
structure Gh where
 H:List aW
 V:aR→Nat
 G:aR→List bd
 F:Nat→aR→List bd
def Gh.ch(g:Gh)(e:Nat):List aR:=gV g.H e
def Gh.X(g:Gh)(e:Nat)(k:aR):List bd:=if e<g.V k then g.F e k else g.G k
def Gh.app(g:Gh)(k:aR)(x:bd):Gh:={ g with G:=fun k'=>if k'=k then g.G k ++ [x] else g.G k' }
def Gh.ah(g:Gh)(k:aR)(v:Nat):Gh:={ g with V:=fun k'=>if k'=k then v else g.V k',F:=fun e k'=>if k'=k∧g.V k≤e then g.G k else g.F e k' }
def Gh.ext(g:Gh)(c:aW):Gh:={ g with H:=g.H ++ [c] }
structure eB(g:Gh):Prop where
 fY:nP g.H
 P:∀(e:Nat) (a b:aR),[a,b].Sublist (g.ch e)→g.X e b <+: g.X e a
 mono:∀(e e':Nat) (k:aR),e≤e'→g.X e k <+: g.X e' k
 xF:∀k:aR,(g.H.length:Int)≤k.2→g.V k=0
 vt:∀k:aR,g.V k<g.H.length
 nil:∀k:aR,g.V k=0→g.G k=[]
structure Gh.Le(g g':Gh):Prop where
 H:g.H <+: g'.H
 V:∀k,g.V k≤g'.V k
 X:∀e k,g.X e k <+: g'.X e k
 fz:∀e k,e<g.V k→g'.X e k=g.X e k
theorem Gh.Le.refl(g:Gh):g.Le g:=⟨mX _,fun _=>NR _,fun _ _=>mX _,fun _ _ _=>rfl⟩
theorem Gh.Le.trans{a b c:Gh}(h:a.Le b)(k:b.Le c):a.Le c:=⟨h.H.trans k.H,fun x=>pQ (h.V x) (k.V x),fun e x=>(h.X e x).trans (k.X e x),fun e x hx=>(k.fz e x (we hx (h.V x))).trans (h.fz e x hx)⟩
theorem Gh.pS{g:Gh}{e:Nat}{k:aR}(h:g.V k≤e):g.X e k=g.G k:=by unfold Gh.X;rw[if_neg yd]
theorem Gh.Le.G{g g':Gh}(h:g.Le g')(k:aR):g.G k <+: g'.G k:=by
 have:=h.X (max (g.V k) (g'.V k)) k
 rwa[Gh.pS yd,Gh.pS yd] at this
theorem Gh.Le.ch{g g':Gh}(h:g.Le g'){e:Nat}(he:e<g.H.length):g'.ch e=g.ch e:=EO h.H he
def oI(g:Gh)(e:Nat)(L:List bd):Prop:=∃p∈g.ch e,e<g.V p∧g.X e p <+: L
theorem oI.up{g g':Gh}(h:g.Le g'){e:Nat}{L L':List bd}(c:oI g e L)(hL:L <+: L'):oI g' e L':=by
 obtain⟨p,h1,h2,h3⟩:=c
 exact⟨p,RE h.H h1,we h2 (h.V p),by rw[h.fz e p h2];exact h3.trans hL⟩
theorem oI.le{g:Gh}{e:Nat}{L L':List bd}(c:oI g e L)(hL:L <+: L'):oI g e L':=c.up (Gh.Le.refl g) hL
def EW(g:Gh)(k:aR):Prop:=∀e:Nat,1≤e→(e:Int)<k.2→oI g e (g.G k)
theorem EW.up{g g':Gh}(h:g.Le g'){k:aR}(c:EW g k):EW g' k:=fun e h1 h2=>(c e h1 h2).up h (h.G k)
def At(L:List bd)(x:bd):Prop:=1≤x.index∧L[(x.index-1).toNat]?=some x
theorem WJ{L L':List bd}(h:L <+: L'){i:Nat}{x:bd}(hx:L[i]?=some x):L'[i]?=some x:=by
 obtain⟨t,rfl⟩:=h
 rw[nL (bY.1 hx).1]
 exact hx
theorem At.up{L L':List bd}{x:bd}(h:At L x)(hL:L <+: L'):At L' x:=⟨h.1,WJ hL h.2⟩
theorem MA{L L':List bd}(h:L <+: L'){i:Nat}(hi:i≤L.length):L'.take i=L.take i:=by
 obtain⟨t,rfl⟩:=h
 rw[List.take_append_of_le_length hi]
theorem WK{L L':List bd}(h:L <+: L'){x:bd}(hx:L'[L.length]?=some x):L ++ [x] <+: L':=by
 obtain⟨t,rfl⟩:=h
 rw[qI (NR _),Nat.sub_self] at hx
 cases t with
 | nil=>cases hx
 | cons y t=>cases hx;exact⟨t,by simp⟩
def tx(g:Gh)(v:Nat)(p:aR)(i:Int):Prop:=0≤i→i.toNat≤(g.X v p).length∧∀e:Nat,1≤e→e<v→oI g e ((g.X v p).take i.toNat)
theorem tx.up{g g':Gh}(h:g.Le g'){v:Nat}{p:aR}{i:Int}(b:tx g v p i):tx g' v p i:=fun h0=>by
 obtain⟨h1,h2⟩:=b h0
 have hX:=h.X v p
 refine⟨pQ h1 hX.length_le,fun e h3 h4=>?_⟩
 rw[MA hX h1]
 exact(h2 e h3 h4).up h (mX _)
theorem IX{g:Gh}{k:aR}{v:Nat}(hv:g.V k≤v)(e:Nat)(k':aR):(g.ah k v).X e k'=g.X e k':=by
 unfold Gh.X Gh.ah
 dsimp only
 by_cases hk:k'=k
 ·subst hk
  simp only[if_true,true_and]
  by_cases h1:e<g.V k'
  ·rw[if_pos h1,if_pos yd,if_neg yd]
  ·rw[if_neg h1]
   by_cases h2:e<v
   ·rw[if_pos h2,if_pos yd]
   ·rw[if_neg h2]
 ·simp only[hk,if_false,false_and]
theorem eB.ah{g:Gh}(h:eB g){k:aR}{v:Nat}(hv:g.V k≤v)(hk:k∈g.ch v):eB (g.ah k v)∧g.Le (g.ah k v):=by
 have hX:=fun e k'=>IX hv e k'
 have hl:v<g.H.length:=wC hk
 refine⟨⟨h.fY,fun e a b hp=>by rw[hX,hX];exact h.P e a b hp,fun e e' k' he=>by rw[hX,hX];exact h.mono e e' k' he,fun k' hk'=>?_,fun k'=>?_,fun k' hk'=>?_⟩,⟨mX _,fun k'=>?_,fun e k'=>by rw[hX];exact mX _,fun e k' _=>hX e k'⟩⟩
 ·show(if k'=k then v else g.V k')=0
  split
  ·rename_i e
   subst e
   have:=h.fY.since hk
   have hk'':(g.H.length:Int)≤k'.2:=hk'
   omega
  ·exact h.xF k' hk'
 ·show(if k'=k then v else g.V k')<g.H.length
  split
  ·exact hl
  ·exact h.vt k'
 ·have hk':(if k'=k then v else g.V k')=0:=hk'
  show g.G k'=[]
  split at hk'
  ·rename_i e
   subst e
   exact h.nil k' yd
  ·exact h.nil k' hk'
 ·show g.V k'≤(if k'=k then v else g.V k')
  split
  ·rename_i e;rw[e];exact hv
  ·exact NR _
theorem wv{g:Gh}{k:aR}{x:bd}(e:Nat)(k':aR):(g.app k x).X e k'=if k'=k∧g.V k≤e then g.G k ++ [x] else g.X e k':=by
 unfold Gh.X Gh.app
 dsimp only
 by_cases hk:k'=k
 ·subst hk
  by_cases h1:e<g.V k'
  ·rw[if_pos h1,if_neg yd,if_pos h1]
  ·rw[if_neg h1,if_pos rfl,if_pos ⟨rfl,by omega⟩]
 ·simp only[hk,if_false,false_and]
theorem eB.app{g:Gh}(h:eB g){k:aR}{x:bd}(hk:k∈g.ch (g.V k))
  (hx:(∀a,¬[a,k].Sublist (g.ch (g.V k)))∨(∃(p:aR) (i:Nat),(g.ch (g.V k))[i]?=some p∧(g.ch (g.V k))[i+1]?=some k∧(g.X (g.V k) p)[(g.G k).length]?=some x)):eB (g.app k x)∧g.Le (g.app k x):=by
 have hup:∀(e:Nat) (k':aR),g.X e k' <+: (g.app k x).X e k':=fun e k'=>by
  rw[wv]
  split
  ·rename_i hh
   rw[hh.1,Gh.pS hh.2]
   exact List.prefix_append _ _
  ·exact mX _
 have hv0:=h.fY.pos hk
 have hks:=h.fY.since hk
 refine⟨⟨h.fY,fun e a b hp=>?_,fun e e' k' he=>?_,h.xF,h.vt,fun k' hk'=>?_⟩,⟨mX _,fun k'=>NR _,hup,fun e k' he=>?_⟩⟩
 ·have hp:[a,b].Sublist (g.ch e):=hp
  have hPe:=h.P e a b hp
  rw[wv (k':=b)]
  split
  ·rename_i hh
   obtain⟨rfl,hve⟩:=hh
   have hab:a≠b:=fun e0=>by
    subst e0
    have:=h.fY.nodup e
    exact absurd (hp.nodup this) yf
   rw[wv,if_neg fun hh=>hab hh.1]
   have hp2:[a,b].Sublist (g.ch (g.V b)):=h.fY.ord hve hp hk
   rcases hx with hx | ⟨p,i,hi1,hi2,hx⟩
   ·exact absurd hp2 (hx a)
   ·have hpb:[p,b].Sublist (g.ch (g.V b)):=Ak hi1 hi2 yd
    have e1:=h.P _ p b hpb
    rw[Gh.pS (NR _)] at e1
    have e2:=WK e1 hx
    obtain⟨j1,j2,hj,hj1,hj2⟩:=Gn hp2
    have:j2=i+1:=Mj (h.fY.nodup _) hj2 hi2
    have e3:g.X (g.V b) p <+: g.X (g.V b) a:=by
     by_cases hji:j1=i
     ·subst hji
      rw[hi1] at hj1
      cases hj1
      exact mX _
     ·exact h.P _ a p (Ak hj1 hi1 yd)
    exact(e2.trans e3).trans (h.mono _ _ a hve)
  ·exact hPe.trans (hup e a)
 ·rw[wv,wv]
  by_cases hh:k'=k∧g.V k≤e
  ·rw[if_pos hh,if_pos ⟨hh.1,by omega⟩]
   exact mX _
  ·rw[if_neg hh]
   split
   ·rename_i h2
    have:=h.mono e e' k' he
    rw[h2.1,Gh.pS h2.2] at this
    rw[h2.1]
    exact this.trans (List.prefix_append _ _)
   ·exact h.mono e e' k' he
 ·have hk':g.V k'=0:=hk'
  show(if k'=k then g.G k ++ [x] else g.G k')=[]
  split
  ·rename_i e
   rw[e] at hk'
   omega
  ·exact h.nil k' hk'
 ·rw[wv,if_neg fun hh=>by rw[hh.1] at he;omega]
theorem eB.ext{g:Gh}(h:eB g){c c':aW}(hl:g.H.getLast?=some c)(hn:sg c c'):eB (g.ext c')∧g.Le (g.ext c'):=by
 have hlen:0<g.H.length:=by
  cases hH:g.H with
  | nil=>rw[hH] at hl;cases hl
  | cons x H=>exact Nat.succ_pos _
 have hc:g.H[g.H.length-1]?=some c:=by rw[←v7];exact hl
 have hep:=h.fY.ep _ c hc
 have hlen':(g.ext c').H.length=g.H.length+1:=by
  show(g.H ++ [c']).length=_
  rw[a_];rfl
 refine⟨⟨h.fY.push hl hn,fun e a b hp=>?_,h.mono,fun k hk=>h.xF k (by rw[hlen'] at hk;omega),fun k=>by rw[hlen'];exact Nat.lt_succ_of_lt (h.vt k),h.nil⟩,⟨List.prefix_append _ _,fun _=>NR _,fun _ _=>mX _,fun _ _ _=>rfl⟩⟩
 show g.X e b <+: g.X e a
 have hp:[a,b].Sublist (gV (g.H ++ [c']) e):=hp
 by_cases he:e<g.H.length
 ·rw[EO (List.prefix_append _ _) he] at hp
  exact h.P e a b hp
 have hb:b∈gV (g.H ++ [c']) e:=hp.subset yf
 have hee:e=g.H.length:=by
  have:=wC hb
  rw[a_,Ej] at this
  omega
 subst hee
 have e1:gV (g.H ++ [c']) g.H.length=c'.ms:=pX (by rw[qI (NR _),Nat.sub_self];rfl)
 obtain⟨l,r,p1,p2,p3⟩:=hn.parts
 rw[e1,p1] at hp
 by_cases hbr:b∈r
 ·have hv:=h.xF b (by have:=p3 b hbr;omega)
  rw[Gh.pS yd,h.nil b hv]
  exact List.nil_prefix
 ·have hp2:[a,b].Sublist (g.ch (g.H.length-1)):=by
   unfold Gh.ch
   rw[pX hc]
   exact(Mq hp hbr).trans p2
  have:=h.P _ a b hp2
  have va:=h.vt a
  have vb:=h.vt b
  rwa[Gh.pS yd,Gh.pS yd] at this ⊢
theorem eB.JX{g:Gh}(h:eB g){p:aR}(hp:p∈g.ch (g.H.length-1))(hw:EW g p){e:Nat}{t:aR}(ht:(g.ch e).getLast?=some t):g.X e t <+: g.G p:=by
 have htm:t∈g.ch e:=Ek ht
 have hel:=wC htm
 have htop:∀{q:aR},q∈g.ch e→g.X e t <+: g.X e q:=fun {q} hq=>by
  obtain⟨i,hi⟩:=oD hq
  rw[v7] at ht
  by_cases hj:i=(g.ch e).length-1
  ·subst hj
   rw[ht] at hi
   cases hi
   exact mX _
  ·exact h.P e q t (Ak hi ht (by have:=(bY.1 hi).1;omega))
 have hGp:∀e,g.X e p <+: g.G p:=fun e=>by
  have:=h.mono e (max e (g.V p)) p yd
  rwa[Gh.pS (e:=max e (g.V p)) yd] at this
 by_cases hs:p.2≤e
 ·exact(htop (h.fY.rn (NR _) yd hs hp)).trans (hGp e)
 ·obtain⟨q,h1,_,h3⟩:=hw e (h.fY.pos htm) yd
  exact(htop h1).trans h3
end Cl
namespace Cl
open Go Vg T Api Ch Rep Conf Lg Rd
structure gf(g:Gh)(p:Int)(f:ay)(ms:List aR):Prop where
 k8:f.kind=8→p=16→∃e:Nat,f.dV=e∧g.H[e]?=some (l8 f ms)
 k4:f.kind=4→f.ar<g.H.length∧∀s:Int,(p,s)∈g.ch f.ar.toNat→At (g.X f.ar.toNat (p,s)) f.entry
 k6:f.kind=6→f.ar<g.H.length∧∀s:Int,(p,s)∈g.ch f.ar.toNat→tx g f.ar.toNat (p,s) f.index
 iS:f.kind=11→f.ar<g.H.length∧(f.index=1→∀s:Int,(p,s)∈g.ch f.ar.toNat→EW g (p,s))
theorem ot{g:Gh}{p:Int}{f:ay}{ms:List aR}(k:Int)(hk:f.kind=k)(h:k≠4∧k≠6∧k≠8∧k≠11):gf g p f ms:=
 ⟨fun e=>absurd (hk.symm.trans e) h.2.2.1,fun e=>absurd (hk.symm.trans e) h.1,fun e=>absurd (hk.symm.trans e) h.2.1,fun e=>absurd (hk.symm.trans e) h.2.2.2⟩
theorem eB.pos{g:Gh}(h:eB g):0<g.H.length:=(bY.1 h.fY.zero).1
theorem gf.up{g g':Gh}(h0:0<g.H.length)(h:g.Le g'){p:Int}{f:ay}{ms:List aR}(m:gf g p f ms):gf g' p f ms:=by
 have hl:∀{n:Int},n<g.H.length→n<g'.H.length:=fun {n} hn=>by have:=h.H.length_le;omega
 have hch:∀{n:Int} {k:aR},n<g.H.length→k∈g'.ch n.toNat→k∈g.ch n.toNat:=fun {n k} hn hk=>by
  rw[h.ch yd] at hk;exact hk
 refine⟨fun k hp=>?_,fun k=>?_,fun k=>?_,fun k=>?_⟩
 ·obtain⟨e,h1,h2⟩:=m.k8 k hp
  obtain⟨t,ht⟩:=h.H
  exact⟨e,h1,by rw[←ht,nL (bY.1 h2).1];exact h2⟩
 ·obtain⟨h1,h2⟩:=m.k4 k
  exact⟨hl h1,fun s hs=>(h2 s (hch h1 hs)).up (h.X _ _)⟩
 ·obtain⟨h1,h2⟩:=m.k6 k
  exact⟨hl h1,fun s hs=>(h2 s (hch h1 hs)).up h⟩
 ·obtain⟨h1,h2⟩:=m.iS k
  exact⟨hl h1,fun hi s hs=>(h2 hi s (hch h1 hs)).up h⟩
theorem gf.back{g:Gh}{p:Int}{f:ay}{ms:List aR}(m:gf g p f ms){f':ay}{ms':List aR}(b:Em f ms f' ms'):gf g p f' ms':=by
 refine⟨fun k hp=>?_,fun k=>?_,fun k=>?_,fun k=>?_⟩
 ·rw[b.kind] at k
  obtain⟨h1,h2,h3⟩:=b.k8 k
  obtain⟨e,h4,h5⟩:=m.k8 k hp
  exact⟨e,by rw[h1];exact h4,by rw[h5];unfold l8;rw[h1,h2,h3]⟩
 ·rw[b.kind] at k
  obtain⟨h1,h2⟩:=b.k4 k
  rw[h1,h2];exact m.k4 k
 ·rw[b.kind] at k
  obtain⟨h1,h2⟩:=b.k6 (.inl k)
  rw[h1,h2];exact m.k6 k
 ·rw[b.kind] at k
  obtain⟨h1,h2⟩:=b.k6 (.inr k)
  rw[h1,h2];exact m.iS k
structure cK(g:Gh)(n:Nat)(R:av):Prop where
 id:R.id=n
 ch:∃e:Nat,R.ch.ar=e∧g.H[e]?=some R.ch
 since:R.since=(cm R.ch R.id).1
 live:R.since≠0→g.V (n,R.since)=R.ch.ar.toNat∧g.G (n,R.since)=R.log
 rA:∀s:Int,g.V (n,s)≠0→s≠R.since→s≤R.ch.ar∧((n:Int),s)∉g.ch R.ch.ar.toNat
 ix:∀(i:Nat) (x:bd),R.log[i]?=some x→x.index=i+1
 wh:R.whole=true→R.since≠0∧R.start.toNat≤R.log.length∧∀e:Nat,1≤e→(e:Int)<R.ch.ar→oI g e (R.log.take R.start.toNat)
 bs:0≤R.base→R.since≠0→∃p:aR,[p,((n:Int),R.since)].Sublist (g.ch R.ch.ar.toNat)∧tx g R.ch.ar.toNat p R.base
 b1:-1≤R.base
 la:R.an.last=R.log.length
 se:0≤R.an.bO
theorem pre_some{H H':List aW}(h:H <+: H'){e:Nat}{c:aW}(hc:H[e]?=some c):H'[e]?=some c:=by
 obtain⟨t,rfl⟩:=h
 rw[nL (bY.1 hc).1]
 exact hc
namespace cK
variable {g:Gh} {n:Nat} {R:av}
theorem view(h:cK g n R):R.ch.ar.toNat<g.H.length∧0≤R.ch.ar∧g.ch R.ch.ar.toNat=R.ch.ms:=by
 obtain⟨e,h1,h2⟩:=h.ch
 rw[h1,dZ]
 exact⟨(bY.1 h2).1,by omega,pX h2⟩
theorem mem(h:cK g n R)(hs:R.since≠0):((n:Int),R.since)∈g.ch R.ch.ar.toNat:=by
 rw[h.view.2.2]
 have:=h.since
 rw[this] at hs
 have:=Nu hs
 rwa[←h.since,h.id] at this
theorem up{g':Gh}(l:g.Le g')(hv:∀s:Int,g'.V (n,s)=g.V (n,s)∧g'.G (n,s)=g.G (n,s))(h:cK g n R):cK g' n R:=by
 have hw:=h.view
 have hch:=l.ch hw.1
 refine⟨h.id,?_,h.since,fun hs=>?_,fun s hs hn=>?_,h.ix,fun w=>?_,fun b hs=>?_,h.b1,h.la,h.se⟩
 ·obtain⟨e,h1,h2⟩:=h.ch
  exact⟨e,h1,pre_some l.H h2⟩
 ·rw[(hv _).1,(hv _).2];exact h.live hs
 ·rw[(hv _).1] at hs
  rw[hch]
  exact h.rA s hs hn
 ·obtain⟨h1,h2,h3⟩:=h.wh w
  exact⟨h1,h2,fun e g1 g2=>(h3 e g1 g2).up l (mX _)⟩
 ·obtain⟨p,h1,h2⟩:=h.bs b hs
  exact⟨p,by rw[hch];exact h1,h2.up l⟩
theorem same(h:cK g n R){Q:av}(h1:Q.id=R.id)(h2:Q.ch=R.ch)(h3:Q.since=R.since)(h4:Q.whole=R.whole)(h5:Q.log=R.log)(h6:Q.start=R.start)(h7:Q.base=R.base)(h8:Q.an.last=R.an.last)(h9:0≤Q.an.bO):cK g n Q:=by
 refine⟨h1.trans h.id,by rw[h2];exact h.ch,by rw[h3,h2,h1];exact h.since,by rw[h3,h2,h5];exact h.live,by rw[h2,h3];exact h.rA,by rw[h5];exact h.ix,by rw[h4,h3,h2,h5,h6];exact h.wh,by rw[h7,h3,h2];exact h.bs,by rw[h7];exact h.b1,by rw[h8,h5];exact h.la,h9⟩
theorem is(h:cK g n R)(hg:eB g){s:Int}(hm:((n:Int),s)∈g.ch R.ch.ar.toNat):s=R.since∧R.since≠0:=by
 have h0:=hg.fY.since hm
 have hp:=hg.fY.pos hm
 have hw:=h.view
 obtain⟨e,h1,h2⟩:=h.ch
 have v:=hg.fY.ok e _ h2 yd
 rw[hw.2.2] at hm
 have:=G8 v hm
 have hs:R.since=s:=by rw[h.since,h.id,this]
 exact⟨hs.symm,by rw[hs];dsimp only at h0;omega⟩
theorem top(h:cK g n R)(hs:R.since≠0):g.X R.ch.ar.toNat (n,R.since)=R.log:=by
 obtain⟨h1,h2⟩:=h.live hs
 rw[Gh.pS yd,h2]
theorem ew(h:cK g n R)(hg:eB g)(w:R.whole=true):EW g (n,R.since):=fun e h1 h2=>by
 obtain⟨w1,w2,w3⟩:=h.wh w
 have hm:=h.mem w1
 have:=hg.fY.since hm
 have hw:=h.view
 dsimp only at this h2
 rw[(h.live w1).2]
 exact(w3 e h1 yd).le (Bv _ _)
theorem alive(h:cK g n R)(hg:eB g):gf g n (tH R.ch.ar (if R.whole then 1 else 0)) []:=by
 refine⟨fun k=>pI,fun k=>pI,fun k=>pI,fun _=>⟨by have:=h.view;show R.ch.ar<_;omega,fun hi s hs=>?_⟩⟩
 have hi:(if R.whole then (1:Int) else 0)=1:=hi
 have hs:((n:Int),s)∈g.ch R.ch.ar.toNat:=hs
 split at hi
 ·rename_i w
  rw[(h.is hg hs).1]
  exact h.ew hg w
 ·cases hi
theorem base(h:cK g n R)(hg:eB g)(w:R.whole=true):gf g n (zb R.ch.ar R.start) []:=by
 refine⟨fun k=>pI,fun k=>pI,fun _=>⟨by have:=h.view;show R.ch.ar<_;omega,fun s hs=>?_⟩,fun k=>pI⟩
 have hs:((n:Int),s)∈g.ch R.ch.ar.toNat:=hs
 show tx g R.ch.ar.toNat (n,s) R.start
 obtain⟨e1,hne⟩:=h.is hg hs
 obtain⟨w1,w2,w3⟩:=h.wh w
 have hw:=h.view
 rw[e1]
 intro _
 rw[h.top hne]
 exact⟨w2,fun e h1 h2=>w3 e h1 yd⟩
theorem fwd(h:cK g n R)(hg:eB g){i:Int}(h1:1≤i)(h2:i≤R.an.last):gf g n (q9 R.ch.ar ((dJ R.log i).getD gv)) []:=by
 refine⟨fun k=>pI,fun _=>⟨by have:=h.view;show R.ch.ar<_;omega,fun s hs=>?_⟩,fun k=>pI,fun k=>pI⟩
 have hs:((n:Int),s)∈g.ch R.ch.ar.toNat:=hs
 show At (g.X R.ch.ar.toNat (n,s)) ((dJ R.log i).getD gv)
 obtain⟨e1,hne⟩:=h.is hg hs
 rw[e1,h.top hne]
 have hl:=h.la
 have hx:R.log[(i-1).toNat]?=some R.log[(i-1).toNat]:=GE yd
 have hi:=h.ix _ _ hx
 have ha:dJ R.log i=some R.log[(i-1).toNat]:=by unfold dJ;rw[if_pos h1];exact hx
 rw[ha]
 exact⟨by show 1≤R.log[(i-1).toNat].index;omega,by
  show R.log[(R.log[(i-1).toNat].index-1).toNat]?=some R.log[(i-1).toNat]
  rw[show(R.log[(i-1).toNat].index-1).toNat=(i-1).toNat by omega];exact hx⟩
theorem qg(h:cK g n R):∀s∈R.eZ,gf g n s.2 []:=fun s hs=>by
 unfold av.eZ at hs
 split at hs
 ·cases hs
 ·rw[eA.1 hs];exact ot 5 rfl yo
theorem EC(h:cK g n R)(hg:eB g):∀s∈R.gC,gf g n s.2 []:=fun s hs=>by
 unfold av.gC at hs
 split at hs
 ·rename_i hh
  rw[eA.1 hs];exact h.base hg hh.1
 ·cases hs
theorem told(h:cK g n R)(hg:eB g):∀s∈R.ky,gf g n s.2 []:=fun s hs=>by
 rw[eA.1 hs];exact h.alive hg
end cK
theorem F0(g:Gh)(n:Nat)(R:av):∀s∈R.ir,gf g n s.2 []:=fun s hs=>by
 unfold av.ir at hs
 split at hs
 ·unfold nE at hs
  obtain⟨j,_,rfl⟩:=bP.1 hs
  exact ot 2 Z yo
 ·cases hs
theorem Cw(g:Gh)(n:Nat)(e:Int)(l:List ay)(r:Int):∀s∈refs e l r,gf g n s.2 []:=fun s hs=>by
 unfold refs at hs
 obtain⟨f,_,rfl⟩:=bP.1 hs
 exact ot 3 Z yo
structure eC(g:Gh)(n:Nat)(R:av)(S:List bQ)(g':Gh):Prop where
 gi:eB g'
 le:g.Le g'
 H:g'.H=g.H
 qp:∀k:aR,k.1≠n→g'.V k=g.V k∧g'.G k=g.G k
 nd:cK g' n R
 snd:∀s∈S,gf g' n s.2 []
namespace eC
variable {g g1 g2:Gh} {n:Nat} {R Q:av} {S T:List bQ}
theorem stay(hg:eB g)(h:cK g n R)(hS:∀s∈S,gf g n s.2 []):eC g n R S g:=⟨hg,Gh.Le.refl g,rfl,fun _ _=>⟨rfl,rfl⟩,h,hS⟩
theorem trans(h:eC g n R S g1)(k:eC g1 n Q T g2):eC g n Q (S++T) g2:=⟨k.gi,h.le.trans k.le,k.H.trans h.H,fun x hx=>⟨(k.qp x hx).1.trans (h.qp x hx).1,(k.qp x hx).2.trans (h.qp x hx).2⟩,k.nd,fun s hs=>by
 rcases ez.1 hs with hs | hs
 ·exact(h.snd s hs).up h.gi.pos k.le
 ·exact k.snd s hs⟩
theorem more(h:eC g n R S g1)(hT:∀s∈T,gf g1 n s.2 []):eC g n R (S++T) g1:=h.trans (stay h.gi h.nd hT)
theorem pre(h:eC g n R S g1)(hT:∀s∈T,gf g n s.2 []):eC g n R (T++S) g1:=⟨h.gi,h.le,h.H,h.qp,h.nd,fun s hs=>by
 rcases ez.1 hs with hs | hs
 ·exact(hT s hs).up (by rw[←h.H];exact h.gi.pos) h.le
 ·exact h.snd s hs⟩
theorem to(h:eC g n R S g1){Q:av}(hq:cK g1 n Q):eC g n Q S g1:=⟨h.gi,h.le,h.H,h.qp,hq,h.snd⟩
end eC
end Cl
namespace Cl
open Go Vg T Api Ch Rep Conf Lg Rd Win
theorem BF(W:bz)(i:Int):(W.gp i).last=W.last∧(W.gp i).bO=W.bO:=by unfold bz.gp;split<;>exact⟨rfl,rfl⟩
theorem G_{c:aW}{n:Int}(h:(cm c n).2=true):(n,(cm c n).1)∈c.ms:=by
 unfold cm at h ⊢
 split at h
 ·rename_i hh
  rw[if_pos hh]
  obtain⟨i,m,h5,h6,h7,h8⟩:=vl hh.2
  have e:c.ms[(placeOf c.ms n).toNat]?=some m:=by rw[h5,dZ];exact h7
  dsimp only
  rw[e]
  show(n,m.2)∈c.ms
  rw[←h8]
  exact ME h7
 ·cases h
theorem Nt{c:aW}{n:Int}(h:(cm c n).2=false):(cm c n).1=0:=by
 unfold cm at h ⊢
 split at h
 ·cases h
 ·rename_i hh
  rw[if_neg hh]
section
variable {g:Gh} {n:Nat} {R:av}
theorem cK.finish(h:cK g n R):cK g n R.bL:=by
 unfold av.bL
 split
 ·exact h.same Z Z Z Z Z Z Z (BF _ _).1 (by show 0≤(R.an.gp R.an.last).bO;rw[(BF _ _).2];exact h.se)
 ·exact h
theorem cK.qS(h:cK g n R)(hg:eB g):cK g n R.fx:=by
 unfold av.fx
 split
 rotate_left
 ·exact h
 rename_i hb
 unfold av.pd av.qh at hb
 simp only[dN,decide_eq_true_eq,Bool.not_eq_true'] at hb
 obtain⟨b1,b2,b3,b4⟩:=hb
 have:=h.b1
 obtain⟨p,hp,hB⟩:=h.bs yd yd
 obtain⟨h1,h2⟩:=hB yd
 have hP:=hg.P _ p _ hp
 rw[h.top yd] at hP
 have hl:=h.la
 refine⟨h.id,h.ch,h.since,h.live,h.rA,h.ix,fun _=>⟨by show R.since≠0;omega,by show R.an.last.toNat≤R.log.length;omega,fun e g1 g2=>?_⟩,h.bs,h.b1,h.la,h.se⟩
 show oI g e (R.log.take R.an.last.toNat)
 rw[r5 yd]
 have g2:(e:Int)<R.ch.ar:=g2
 have:=h2 e g1 yd
 rw[MA hP yd] at this
 exact this.le (Bv _ _)
theorem cK.Jq(h:cK g n R)(hg:eB g):∀s∈R.jQ,gf g n s.2 []:=fun s hs=>by
 unfold av.jQ at hs
 split at hs
 ·exact(h.qS hg).EC hg s hs
 ·cases hs
theorem cK.app(h:cK g n R)(hg:eB g)(hs:R.since≠0){x:bd}(hi:x.index=R.log.length+1)
  (hx:(∀a,¬[a,((n:Int),R.since)].Sublist (g.ch R.ch.ar.toNat))∨(∃(p:aR) (i:Nat),(g.ch R.ch.ar.toNat)[i]?=some p∧(g.ch R.ch.ar.toNat)[i+1]?=some ((n:Int),R.since)∧(g.X R.ch.ar.toNat p)[R.log.length]?=some x)):∃g',eC g n (dY R x) [] g':=by
 have hm:=h.mem hs
 obtain⟨hV,hG⟩:=h.live hs
 rw[←hV] at hm hx
 rw[←hG] at hx
 obtain⟨k1,k2⟩:=hg.app hm hx
 refine⟨_,k1,k2,rfl,fun k hk=>⟨rfl,?_⟩,?_,fun s hs=>by cases hs⟩
 ·show(if k=((n:Int),R.since) then _ else g.G k)=g.G k
  rw[if_neg fun e=>hk mT]
 ·refine⟨h.id,h.ch,h.since,fun _=>⟨hV,?_⟩,h.rA,fun i y hy=>?_,fun w=>?_,fun b hs=>?_,h.b1,?_,h.se⟩
  ·show(if ((n:Int),R.since)=((n:Int),R.since) then g.G ((n:Int),R.since) ++ [x] else _)=R.log ++ [x]
   rw[if_pos rfl,hG]
  ·have hy:(R.log ++ [x])[i]?=some y:=hy
   by_cases hil:i<R.log.length
   ·rw[nL hil] at hy
    exact h.ix i y hy
   ·rw[qI yd] at hy
    by_cases h0:i-R.log.length=0
    ·rw[h0] at hy
     cases hy
     rw[hi];omega
    ·rw[lO Qv] at hy
     cases hy
  ·obtain⟨w1,w2,w3⟩:=h.wh w
   refine⟨w1,by show R.start.toNat≤(R.log ++ [x]).length;rw[a_];omega,fun e g1 g2=>?_⟩
   show oI _ e ((R.log ++ [x]).take R.start.toNat)
   rw[List.take_append_of_le_length w2]
   exact(w3 e g1 g2).up k2 (mX _)
  ·obtain⟨p,g1,g2⟩:=h.bs b hs
   exact⟨p,g1,g2.up k2⟩
  ·show R.an.last+1=((R.log ++ [x]).length:Int)
   rw[a_,h.la];rfl
theorem cK.first(h:cK g n R)(hg:eB g)(hh:R.oe=true):R.since≠0∧∀a,¬[a,((n:Int),R.since)].Sublist (g.ch R.ch.ar.toNat):=by
 unfold av.oe av.qh at hh
 simp only[dN,decide_eq_true_eq,beq_iff_eq] at hh
 obtain⟨h1,h2⟩:=hh
 rw[h.id] at h2
 obtain⟨s,hs⟩:=TH yd h2
 refine⟨by omega,fun a hp=>?_⟩
 rw[h.view.2.2] at hp
 have hm:=ME hs
 rw[←h.view.2.2] at hm
 obtain⟨e1,_⟩:=h.is hg hm
 obtain⟨i,j,hij,_,hj⟩:=Gn hp
 rw[e1] at hs
 have hnd:=hg.fY.nodup R.ch.ar.toNat
 rw[show gV g.H R.ch.ar.toNat=R.ch.ms from h.view.2.2] at hnd
 have:=Mj hnd hj hs
 omega
end
theorem XD{g:Gh}{n:Nat}{R:av}(hg:eB g)(h:cK g n R)(hh:R.oe=true)(now:Int):∃g',eC g n (ey R now).1 (ey R now).2.1 g'∧(ey R now).1.oe=true:=by
 have hA:cK g n (j_ R now):=h.same rfl rfl rfl rfl rfl rfl rfl rfl h.se
 have hr:=Cw g n R.ch.ar (R.aI.aL.cQ now) 2
 unfold ey
 split
 ·exact⟨g,eC.stay hg hA hr,hh⟩
 split
 ·have q:cK g n { R with aI:=((R.aI.cq now).cU (db R now).aF (db R now).seq (db R now).br).2 }:=h.same rfl rfl rfl rfl rfl rfl rfl rfl h.se
  exact⟨g,(eC.stay hg q hr).more (fun s hs=>by rw[eA.1 hs];exact ot 3 Z yo),hh⟩
 ·obtain⟨f1,f2⟩:=hA.first hg hh
  obtain⟨g',k⟩:=hA.app hg f1 (x:=eG R now) rfl (.inl f2)
  have z:=(k.to k.nd.finish).more (F0 g' n (dY (j_ R now) (eG R now)))
  refine⟨g',z.pre hr,?_⟩
  have e:∀Q:av,Q.bL.oe=Q.oe:=fun Q=>by unfold av.bL;split<;>rfl
  rw[e];exact hh
theorem Ld(now:Int){n:Nat}:∀(k:Nat) {g:Gh} {R:av},eB g→cK g n R→R.oe=true→∃g',eC g n (gz now k R).1 (gz now k R).2 g'
 | 0,g,R,hg,h,_=>⟨g,eC.stay hg h fun s hs=>by cases hs⟩
 | k+1,g,R,hg,h,hh=>by
  unfold gz
  split
  ·obtain⟨g1,t1,h1⟩:=XD hg h hh now
   split
   ·obtain⟨g2,t2⟩:=Ld now k t1.gi t1.nd h1
    exact⟨g2,t1.trans t2⟩
   ·exact⟨g1,t1⟩
  ·exact⟨g,eC.stay hg h fun s hs=>by cases hs⟩
theorem Wo{g:Gh}{n:Nat}{R:av}(hg:eB g)(h:cK g n R):∀s∈(pz R).2,gf g n s.2 []:=by
 have key:∀k,k≤fg R→∀s∈(cE R k).2,gf g n s.2 []:=by
  intro k
  induction k with
  | zero=>intro _ s hs;cases hs
  | succ k ih=>
   intro hk s hs
   have hs:s∈(cE R k).2 ++ [(R.cq,q9 R.ch.ar ((dJ R.log ((cE R k).1.bO+1)).getD gv))]:=hs
   rcases ez.1 hs with hs | hs
   ·exact ih yd s hs
   ·rw[eA.1 hs,vj R k yd]
    have hse:=h.se
    unfold fg at hk
    exact h.fwd hg (by show 1≤R.an.bO+k+1;omega) (by show R.an.bO+k+1≤R.an.last;omega)
 exact key _ (NR _)
theorem Yd{g:Gh}{n:Nat}{R:av}(hg:eB g)(h:cK g n R)(now:Int):∃g',eC g n (dx R now).1 (dx R now).2 g':=by
 have hE:cK g n (h_ R now):=h.same rfl rfl rfl rfl rfl rfl rfl rfl h.se
 have hr:∀s∈gj R now,gf g n s.2 []:=Cw g n R.ch.ar _ 2
 have h2:∃g',eC g n (step2 R now).1 (step2 R now).2 g':=by
  unfold Rep.step2
  split
  ·rename_i hs
   unfold uo at hs
   simp only[dN] at hs
   exact Ld now 65 hg hE hs.1
  ·exact⟨g,eC.stay hg hE fun s hs=>by cases hs⟩
 obtain⟨g',t⟩:=h2
 refine⟨g',?_⟩
 have h3:eC g n (dS R now).1 ((step2 R now).2++(dS R now).2) g':=by
  unfold Rep.dS
  split
  ·have e:=vj (step2 R now).1 (fg (step2 R now).1) (NR _)
   refine(t.to ?_).more (Wo t.gi t.nd)
   refine t.nd.same Z Z Z Z Z Z Z ?_ ?_
   ·show(cE (step2 R now).1 (fg (step2 R now).1)).1.last=_
    rw[e]
   ·show 0≤(cE (step2 R now).1 (fg (step2 R now).1)).1.bO
    rw[e]
    have:=t.nd.se
    show 0≤(step2 R now).1.an.bO+_
    omega
  ·exact t.more fun s hs=>by cases hs
 have:=h3.pre hr
 show eC g n (dS R now).1 (gj R now++(step2 R now).2++(dS R now).2) g'
 rwa[eL]
theorem abr{g:Gh}{n:Nat}{R:av}(hg:eB g)(h:cK g n R):eC g n (gY R).1 (gY R).2 g:=by
 have hl:=h.la
 have h1:cK g n (eK R):=by
  unfold eK
  split
  ·exact h.same Z Z Z Z Z Z Z Z (by show 0≤min (max R.dW 0) R.an.last;omega)
  ·exact h
 refine eC.stay hg h1 fun s hs=>?_
 have hs:s∈R.ky++R.eZ++R.gC++_++_:=hs
 simp only[ez] at hs
 rcases hs with (((hs | hs) | hs) | hs) | hs
 ·exact h.told hg s hs
 ·exact h.qg s hs
 ·exact h.EC hg s hs
 ·split at hs
  ·rw[eA.1 hs];exact ot 9 rfl yo
  ·cases hs
 ·split at hs
  ·rw[eA.1 hs];exact ot 12 rfl yo
  ·cases hs
theorem Ke{g:Gh}(hg:eB g){n:Nat}{R:av}{c:aW}{e v0:Nat}(hid:R.id=n)(he:g.H[e]?=some c)(h1:1≤e)(hv:v0≤e)
  (hl:R.since≠0→g.V (n,R.since)=v0∧g.G (n,R.since)=R.log∧R.since≤v0) (hix:∀(i:Nat) (x:bd),R.log[i]?=some x→x.index=i+1)
  (hw:R.whole=true→R.since≠0∧∀e':Nat,1≤e'→e'<v0→oI g e' (R.log.take R.start.toNat))
  (h0:∀s:Int,g.V (n,s)≠0→s≤e) (hn:∀s:Int,((n:Int),s)∈g.ch e→s≠R.since→g.V (n,s)=0) (la:R.an.last=R.log.length):
  ∃g',eC g n (iI R c).1 (iI R c).2 g':=by
 have v:=hg.fY.ok e c he h1
 have ve:=hg.fY.ep e c he
 have hch:g.ch e=c.ms:=pX he
 suffices key:∃g',eB g'∧g.Le g'∧g'.H=g.H∧(∀k:aR,k.1≠n→g'.V k=g.V k∧g'.G k=g.G k)∧cK g' n (cH R c) by
  obtain⟨g',k1,k2,k3,k4,k5⟩:=key
  refine⟨g',k1,k2,k3,k4,k5.finish,fun s hs=>?_⟩
  have hs:s∈oL R c++(cH R c).ir++(cH R c).bL.eZ++(cH R c).bL.gC++(cH R c).bL.ky:=hs
  unfold oL at hs
  simp only[ez] at hs
  rcases hs with ((((hs | hs) | hs) | hs) | hs) | hs
  ·exact Cw g' n _ _ _ s hs
  ·exact Cw g' n _ _ _ s hs
  ·exact F0 g' n _ s hs
  ·exact k5.finish.qg s hs
  ·exact k5.finish.EC k1 s hs
  ·exact k5.finish.told k1 s hs
 have e5:cH R c={ cI R c with start:=if (cI R c).whole then (cI R c).an.last else (cI R c).start }:=by
  unfold cH
  split<;>rfl
 have hid':R.id=n:=hid
 have hse:∀g':Gh,0≤(iQ R c).an.last:=fun _=>by
  show 0≤(if fD R c then bz.new R.cap else R.an).last
  split
  ·exact cd 0
  ·omega
 rw[e5]
 cases hin:(cm c n).2 with
 | false=>
  have hz:=Nt hin
  have hnl:fD R c=false:=by unfold fD;rw[hid,hin];rfl
  have hnw:nz R c=true:=by unfold nz;rw[hid,hin];rfl
  have w0:(cI R c).whole=false:=by
   show(if nz R c then false else R.whole)=false
   rw[hnw];rfl
  have l0:(cI R c).log=R.log:=by
   show(if fD R c then [] else R.log)=R.log
   rw[hnl];rfl
  have s0:(cI R c).since=0:=by
   show(cm c R.id).1=0
   rw[hid,hz]
  refine⟨g,hg,Gh.Le.refl g,Z,fun _ _=>⟨rfl,Z⟩,hid,⟨e,ve,he⟩,Z,fun hs=>absurd s0 hs,fun s hs hne=>⟨?_,?_⟩,?_,fun w=>?_,fun b=>absurd b II,cd _,?_,?_⟩
  ·show s≤c.ar
   have:=h0 s hs
   omega
  ·show((n:Int),s)∉g.ch c.ar.toNat
   rw[ve,dZ,hch]
   exact XR v hz s
  ·show ∀(i:Nat) (x:bd),(cI R c).log[i]?=some x→_
   rw[l0];exact hix
  ·have w:(cI R c).whole=true:=w
   rw[w0] at w;cases w
  ·show(if fD R c then bz.new R.cap else R.an).last=((cI R c).log.length:Int)
   rw[l0,hnl];exact la
  ·exact hse g
 | true=>
  have hm:=G_ hin
  obtain⟨s,hse0⟩:∃s,(cm c n).1=s:=⟨_,rfl⟩
  rw[hse0] at hm
  have hm':((n:Int),s)∈g.ch e:=by rw[hch];exact hm
  have hs1:=hg.fY.since hm'
  dsimp only at hs1
  have s0:(cI R c).since=s:=by
   show(cm c R.id).1=s
   rw[hid,hse0]
  have hVe:g.V (n,s)≤e:=by
   by_cases hh:s=R.since
   ·rw[hh,(hl yd).1];exact hv
   ·rw[hn s hm' hh];exact bU _
  obtain⟨k1,k2⟩:=hg.ah hVe hm'
  have hVs:(g.ah ((n:Int),s) e).V (n,s)=e:=by
   show(if ((n:Int),s)=((n:Int),s) then e else _)=e
   rw[if_pos rfl]
  have qp:∀k:aR,k≠((n:Int),s)→(g.ah ((n:Int),s) e).V k=g.V k∧(g.ah ((n:Int),s) e).G k=g.G k:=fun k hk=>by
   refine⟨?_,Z⟩
   show(if k=((n:Int),s) then e else g.V k)=g.V k
   rw[if_neg hk]
  have rA:∀s':Int,(g.ah ((n:Int),s) e).V (n,s')≠0→s'≠s→s'≤c.ar∧((n:Int),s')∉g.ch c.ar.toNat:=fun s' hs' hne=>by
   rw[(qp (n,s') fun e0=>hne (congrArg Prod.snd e0)).1] at hs'
   refine⟨by have:=h0 s' hs';omega,fun hm2=>hne ?_⟩
   rw[ve,dZ] at hm2
   exact hg.fY.one hm2 hm'
  by_cases hh:s=R.since
  ·have hnl:fD R c=false:=by unfold fD;rw[hid,hse0,hh];simp
   have hnw:nz R c=false:=by unfold nz;rw[hid,hse0,hin,hh];simp
   have w0:(cI R c).whole=R.whole:=by
    show(if nz R c then false else R.whole)=R.whole
    rw[hnw];rfl
   have l0:(cI R c).log=R.log:=by
    show(if fD R c then [] else R.log)=R.log
    rw[hnl];rfl
   have n0:(cI R c).an.last=R.log.length:=by
    show(if fD R c then bz.new R.cap else R.an).last=_
    rw[hnl];exact la
   obtain⟨l1,l2,l3⟩:=hl yd
   refine⟨_,k1,k2,Z,fun k hk=>qp k fun e0=>hk (by rw[e0]),hid,⟨e,ve,he⟩,Z,fun _=>⟨?_,?_⟩,?_,?_,fun w=>?_,fun b=>absurd b II,cd _,?_,?_⟩
   ·show(g.ah ((n:Int),s) e).V (n,(cI R c).since)=c.ar.toNat
    rw[s0,hVs,ve,dZ]
   ·show g.G (n,(cI R c).since)=(cI R c).log
    rw[s0,l0,hh,l2]
   ·show ∀s':Int,(g.ah ((n:Int),s) e).V (n,s')≠0→s'≠(cI R c).since→_
    rw[s0];exact rA
   ·show ∀(i:Nat) (x:bd),(cI R c).log[i]?=some x→_
    rw[l0];exact hix
   ·have w:(cI R c).whole=true:=w
    rw[w0] at w
    obtain⟨_,w2⟩:=hw w
    have est:(if (cI R c).whole then (cI R c).an.last else (cI R c).start)=(R.log.length:Int):=by rw[w0,w,if_pos rfl,n0]
    refine⟨by show(cI R c).since≠0;rw[s0];omega,?_,fun e' g1 g2=>?_⟩
    ·show(if (cI R c).whole then (cI R c).an.last else (cI R c).start).toNat≤(cI R c).log.length
     rw[est,l0];omega
    ·show oI _ e' ((cI R c).log.take (if (cI R c).whole then (cI R c).an.last else (cI R c).start).toNat)
     rw[est,l0,dZ,lj]
     have g2:(e':Int)<c.ar:=g2
     by_cases hlt:e'<v0
     ·exact(w2 e' g1 hlt).up k2 (Bv _ _)
     ·refine⟨((n:Int),s),?_,by rw[hVs];omega,?_⟩
      ·exact hg.fY.rn (NR _) (by omega:e'≤e) f_ hm'
      ·rw[IX hVe,Gh.pS (by rw[hh,l1];omega),hh,l2]
       exact mX _
   ·show(cI R c).an.last=((cI R c).log.length:Int)
    rw[n0,l0]
   ·exact hse g
  ·have hnl:fD R c=true:=by unfold fD;rw[hid,hse0,hin];simp[hh]
   have hnw:nz R c=true:=by unfold nz;rw[hid,hse0,hin];simp[hh]
   have w0:(cI R c).whole=false:=by
    show(if nz R c then false else R.whole)=false
    rw[hnw];rfl
   have l0:(cI R c).log=[]:=by
    show(if fD R c then [] else R.log)=[]
    rw[hnl];rfl
   refine⟨_,k1,k2,Z,fun k hk=>qp k fun e0=>hk (by rw[e0]),hid,⟨e,ve,he⟩,Z,fun _=>⟨?_,?_⟩,?_,?_,fun w=>?_,fun b=>absurd b II,cd _,?_,?_⟩
   ·show(g.ah ((n:Int),s) e).V (n,(cI R c).since)=c.ar.toNat
    rw[s0,hVs,ve,dZ]
   ·show g.G (n,(cI R c).since)=(cI R c).log
    rw[s0,l0]
    exact hg.nil _ (hn s hm' hh)
   ·show ∀s':Int,(g.ah ((n:Int),s) e).V (n,s')≠0→s'≠(cI R c).since→_
    rw[s0];exact rA
   ·show ∀(i:Nat) (x:bd),(cI R c).log[i]?=some x→_
    rw[l0];intro i x hx;cases hx
   ·have w:(cI R c).whole=true:=w
    rw[w0] at w;cases w
   ·show(if fD R c then bz.new R.cap else R.an).last=((cI R c).log.length:Int)
    rw[l0,hnl];rfl
   ·exact hse g
end Cl
namespace Cl
open Go Vg T Api Ch Rep Conf Lg Rd Win Kv Adm
section
variable {g:Gh} {n:Nat} {R:av}
theorem cK.ahead(h:cK g n R)(hg:eB g){from_:Int}(hp:oO from_ R.mm=true):R.since≠0∧∃(i:Nat) (s':Int),(g.ch R.ch.ar.toNat)[i]?=some (from_,s')∧(g.ch R.ch.ar.toNat)[i+1]?=some ((n:Int),R.since):=by
 unfold oO at hp
 simp only[dN,decide_eq_true_eq,beq_iff_eq] at hp
 obtain⟨h1,h2⟩:=hp
 unfold av.mm at h1 h2
 obtain⟨i,s,s',h3,h4⟩:=WM h1
 rw[←h2] at h3
 rw[h.id] at h4
 rw[←h.view.2.2] at h3 h4
 obtain⟨e1,e2⟩:=h.is hg (ME h4)
 rw[e1] at h4
 exact⟨e2,i,s',h3,h4⟩
theorem Tj(h:cK g n R)(hg:eB g){from_:Int}(hp:oO from_ R.mm=true){x:bd}(hx:∀s:Int,(from_,s)∈g.ch R.ch.ar.toNat→At (g.X R.ch.ar.toNat (from_,s)) x):∃g',eC g n (jk R x).1 (jk R x).2 g':=by
 unfold jk
 split
 ·rename_i hh
  obtain⟨h1,i,s',h3,h4⟩:=h.ahead hg hp
  have ha:=hx s' (ME h3)
  have hb:=hh.1
  unfold re at hb
  simp only[dN,beq_iff_eq] at hb
  have hi:x.index=R.log.length+1:=by rw[hb.1,h.la]
  obtain⟨g',k⟩:=h.app hg h1 hi (.inr ⟨(from_,s'),i,h3,h4,by
   have:=ha.2
   rw[hi] at this
   rwa[show((R.log.length:Int)+1-1).toNat=R.log.length by omega] at this⟩)
  have f:=k.nd.finish
  refine⟨g',(((k.to (f.qS k.gi)).more (F0 g' n (dY R x))).more (f.Jq k.gi)).more ((f.qS k.gi).qg)⟩
 ·exact⟨g,eC.stay hg h h.qg⟩
theorem QT(h:cK g n R)(hg:eB g)(f:ay):∃g',eC g n (gU R f).1 (gU R f).2 g':=by
 have hl:=h.la
 have h1:cK g n (eN R f):=by
  unfold Rep.eN Rep.gq
  dsimp only
  split
  ·exact h.same Z Z Z Z Z Z Z Z h.se
  ·exact h.same Z Z Z Z Z Z Z Z (by show 0≤min (max f.dW 0) R.an.last;omega)
 have h2:cK g n { eN R f with an:=(eN R f).an.gp f.index }:=h1.same rfl rfl rfl rfl rfl rfl rfl (BF _ _).1 (by rw[(BF _ _).2];exact h1.se)
 refine⟨g,eC.stay hg h2 fun s hs=>?_⟩
 have hs:s∈(if (eN R f).an.lT f.index then av.eZ { eN R f with an:=(eN R f).an.gp f.index } else []):=hs
 split at hs
 ·exact h2.qg s hs
 ·cases hs
theorem Q9(h:cK g n R)(hg:eB g){from_:Int}(hp:oO from_ R.mm=true){i:Int}(hx:∀s:Int,(from_,s)∈g.ch R.ch.ar.toNat→tx g R.ch.ar.toNat (from_,s) i):eC g n (jP R i).fx (jP R i).jQ g:=by
 obtain⟨h1,j,s',h3,h4⟩:=h.ahead hg hp
 have hb:cK g n (jP R i):=by
  refine⟨h.id,h.ch,h.since,h.live,h.rA,h.ix,h.wh,fun b _=>⟨(from_,s'),Ak h3 h4 yd,?_⟩,by show -1≤max i (-1);omega,h.la,h.se⟩
  have b:0≤max i (-1):=b
  show tx g R.ch.ar.toNat (from_,s') (max i (-1))
  rw[show max i (-1)=i by omega]
  exact hx s' (ME h3)
 exact eC.stay hg (hb.qS hg) (hb.Jq hg)
theorem aa6(h:cK g n R)(hg:eB g)(from_:Int){f:ay}{ms:List aR}(hM:gf g from_ f ms)(now:Int):∃g',eC g n (ct R from_ f ms now).1 (ct R from_ f ms now).2 g':=by
 have z:eC g n R [] g:=eC.stay hg h fun s hs=>by cases hs
 have kn:∀{f:ay},R.jl f=true→f.ar.toNat=R.ch.ar.toNat:=fun {f} hk=>by
  unfold av.jl at hk
  rw[beq_iff_eq.1 hk]
 unfold ct
 split
 ·split
  ·exact⟨g,z⟩
  split
  ·exact⟨g,z⟩
  split
  ·unfold kV
   split
   ·exact⟨g,eC.stay hg h fun s hs=>by rw[eA.1 hs];exact ot 3 Z yo⟩
   ·have q:cK g n { R with aK:=R.aK.put f (l9 (bN R.log).1 f.op.key R.log.length) }:=h.same rfl rfl rfl rfl rfl rfl rfl rfl h.se
    exact⟨g,eC.stay hg q fun s hs=>by rw[eA.1 hs];exact ot 9 Z yo⟩
  ·have q:∀A:aO,cK g n { R with aI:=A }:=fun A=>h.same rfl rfl rfl rfl rfl rfl rfl rfl h.se
   unfold lf
   split
   ·exact⟨g,eC.stay hg (q _) fun s hs=>by rw[eA.1 hs];exact ot 2 Z yo⟩
   split
   ·exact⟨g,eC.stay hg (q _) fun s hs=>by cases hs⟩
   split
   ·exact P2
   ·exact P2
 split
 ·rename_i k8
  split
  ·rename_i hh
   obtain⟨⟨h16,hce⟩,hlt⟩:=hh
   obtain⟨e,he1,he2⟩:=hM.k8 k8 h16
   have hw:=h.view
   have hv0:R.ch.ar.toNat≤e:=by omega
   have hsv:R.since≠0→R.since≤R.ch.ar:=fun hs=>by
    have:=hg.fY.since (h.mem hs)
    dsimp only at this
    omega
   refine Ke hg h.id he2 yd hv0 (fun hs=>⟨(h.live hs).1,(h.live hs).2,by have:=hsv hs;omega⟩) h.ix (fun w=>?_) (fun s hs=>?_) (fun s hm hne=>?_) h.la
   ·obtain⟨w1,w2,w3⟩:=h.wh w
    exact⟨w1,fun e' g1 g2=>w3 e' g1 yd⟩
   ·by_cases hh:s=R.since
    ·by_cases h0:R.since=0
     ·omega
     ·have:=hsv h0;omega
    ·have:=(h.rA s hs hh).1
     omega
   ·by_cases hz:g.V (n,s)=0
    ·exact hz
    ·obtain⟨p1,p2⟩:=h.rA s hz hne
     exact absurd (hg.fY.rn (NR _) hv0 f_ hm) p2
  ·exact⟨g,z⟩
 split
 ·rename_i k4
  split
  ·rename_i hh
   have m:=(hM.k4 k4).2
   rw[kn hh.1] at m
   exact Tj h hg hh.2 m
  ·exact⟨g,z⟩
 split
 ·split
  ·exact QT h hg f
  ·exact⟨g,z⟩
 split
 ·rename_i k6
  split
  ·rename_i hh
   have m:=(hM.k6 k6).2
   rw[kn hh.1] at m
   exact⟨g,Q9 h hg hh.2 m⟩
  ·exact⟨g,z⟩
 split
 ·split
  ·have q:cK g n (qy R f.index):=h.same rfl rfl rfl rfl rfl rfl rfl rfl h.se
   refine⟨g,eC.stay hg q fun s hs=>?_⟩
   have hs:s∈(R.aK.l.filter fun y=>!k_ f.index y).map fun y=>(32+y.f.aF,nF y.f.aF y.f.seq y.f.br y.r):=hs
   obtain⟨y,_,rfl⟩:=bP.1 hs
   exact ot 2 Z yo
  ·exact⟨g,z⟩
 ·exact⟨g,z⟩
end
structure gn(g:Gh)(M:aE):Prop where
 gi:eB g
 top:g.H.getLast?=some M.ch
 kw:∀k∈M.ch.ms,M.rK k.1=true→EW g k
 z:∃k∈M.ch.ms,EW g k
structure Ext(g g':Gh):Prop where
 le:g.Le g'
 V:∀k,g'.V k=g.V k
 G:∀k,g'.G k=g.G k
theorem Ext.refl(g:Gh):Ext g g:=⟨Gh.Le.refl g,fun _=>rfl,fun _=>rfl⟩
theorem Ext.trans{a b c:Gh}(h:Ext a b)(k:Ext b c):Ext a c:=⟨h.le.trans k.le,fun x=>(k.V x).trans (h.V x),fun x=>(k.G x).trans (h.G x)⟩
def Er(g:Gh)(S:List cz):Prop:=∀s∈S,gf g 16 s.2.1 s.2.2
structure sd(g:Gh)(M:aE)(S:List cz)(g':Gh):Prop where
 i:gn g' M
 x:Ext g g'
 s:Er g' S
namespace gn
variable {g:Gh} {M:aE}
theorem at_(h:gn g M):∃e:Nat,e+1=g.H.length∧g.H[e]?=some M.ch∧M.ch.ar=e∧g.ch e=M.ch.ms:=by
 have hp:=h.gi.pos
 have ht:=h.top
 rw[v7] at ht
 exact⟨g.H.length-1,by omega,ht,h.gi.fY.ep _ _ ht,pX ht⟩
theorem cfg(h:gn g M)(to:Int):gf g 16 (gu M.ch to).2.1 (gu M.ch to).2.2:=by
 obtain⟨e,h1,h2,h3,_⟩:=h.at_
 exact⟨fun _ _=>⟨e,h3,h2⟩,fun k=>pI,fun k=>pI,fun k=>pI⟩
theorem all(h:gn g M):Er g M.all:=fun s hs=>by
 obtain⟨n,_,rfl⟩:=bP.1 hs
 exact h.cfg n
theorem stay(h:gn g M){S:List cz}(hS:Er g S):∃g',sd g M S g':=⟨g,h,Ext.refl g,hS⟩
theorem none(h:gn g M):∃g',sd g M [] g':=h.stay fun s hs=>by cases hs
theorem one(h:gn g M)(to:Int):∃g',sd g M [gu M.ch to] g':=h.stay fun s hs=>by rw[eA.1 hs];exact h.cfg to
theorem to(h:gn g M){Q:aE}(hn:sg M.ch Q.ch)(hk:∀k∈Q.ch.ms,Q.rK k.1=true→k∈M.ch.ms∧M.rK k.1=true)(hz:∃k∈Q.ch.ms,EW g k):gn (g.ext Q.ch) Q∧Ext g (g.ext Q.ch):=by
 obtain⟨k1,k2⟩:=h.gi.ext h.top hn
 refine⟨⟨k1,by show(g.H ++ [Q.ch]).getLast?=_;simp,fun k hk1 hk2=>?_,?_⟩,k2,fun _=>rfl,fun _=>rfl⟩
 ·obtain⟨q1,q2⟩:=hk k hk1 hk2
  exact(h.kw k q1 q2).up k2
 ·obtain⟨k,q1,q2⟩:=hz
  exact⟨k,q1,q2.up k2⟩
theorem Ns{l:List Bool}{n m:Int}(h:((l.set n.toNat false)[m.toNat]?).getD false=true):(l[m.toNat]?).getD false=true:=by
 rw[vZ] at h
 split at h
 ·split at h<;>cases h
 ·exact h
theorem gone(h:gn g M){n:Int}(h1:M.mf n=true)(h2:M.kB n=0):gn (g.ext (M.gone n).ch) (M.gone n)∧Ext g (g.ext (M.gone n).ch):=by
 have hn:sg M.ch (M.gone n).ch:=VX h2
 obtain⟨_,_,h4⟩:=xK h2
 have hms:(M.gone n).ch.ms=M.ch.ms.eraseIdx (placeOf M.ch.ms n).toNat:=by
  show(im M.ch n).1.ms=_
  rw[h4]
 refine h.to hn (fun k k1 k2=>?_) ?_
 ·rw[hms] at k1
  exact⟨(List.eraseIdx_sublist ..).subset k1,Ns k2⟩
 ·unfold aE.mf at h1
  obtain⟨x,hx,hb⟩:=Bn.1 h1
  simp only[dN,Bool.not_eq_true',decide_eq_false_iff_not] at hb
  refine⟨x,?_,h.kw x hx hb.2⟩
  rw[hms,List.mem_eraseIdx_iff_getElem?]
  obtain⟨j,hj⟩:=oD hx
  refine⟨j,fun e=>hb.1 ?_,hj⟩
  obtain⟨i,m,h5,h6,h7,h8⟩:=vl (ms:=M.ch.ms) (n:=n) (zZ (by assumption)).1
  rw[h5,dZ] at e
  rw[e,h7] at hj
  cases hj
  exact h8
theorem KB(h:gn g M){n:Int}(h1:M.mf n=true)(h2:M.kB n=0):∃g',sd g (M.gone n) (M.gone n).all g':=by
 obtain⟨k1,k2⟩:=h.gone h1 h2
 exact⟨_,k1,k2,k1.all⟩
theorem take(h:gn g M)(from_:Int){f:ay}{ms:List aR}(hM:gf g from_ f ms)(now:Int):∃g',sd g (M.take from_ f now).1 (M.take from_ f now).2 g':=by
 have hd:gn g (M.iv from_ now):=⟨h.gi,h.top,h.kw,h.z⟩
 unfold aE.take
 split
 ·exact h.one from_
 split
 ·exact h.none
 split
 ·rename_i iS
  split
  ·exact hd.one from_
  split
  ·rename_i he hh
   have he:f.ar=M.ch.ar:=by omega
   refine gn.none ⟨h.gi,h.top,fun k k1 k2=>?_,h.z⟩
   have k2:(((M.whole.set from_.toNat true)[k.1.toNat]?).getD false)=true:=k2
   have k1:k∈M.ch.ms:=k1
   by_cases hk:k.1=from_
   ·obtain⟨e,_,_,q3,q4⟩:=h.at_
    have:=(hM.iS iS).2 hh.1 k.2
    rw[he,q3,dZ,q4,←hk] at this
    exact this k1
   ·have hne:from_.toNat≠k.1.toNat:=by
     have hnb:=hh.2
     intro e0
     have hm:=G_ hnb
     obtain⟨e,_,q2,q3,q4⟩:=h.at_
     rw[←q4] at hm k1
     have a1:=h.gi.fY.node hm
     have a2:=h.gi.fY.node k1
     dsimp only at a1
     omega
    rw[kG hne] at k2
    exact h.kw k k1 k2
  ·exact hd.none
 split
 ·split
  ·exact h.one from_
  split
  ·exact h.stay fun s hs=>by rw[eA.1 hs];exact ot 10 Z yo
  ·exact h.none
 split
 ·split
  ·rename_i hh;exact h.KB hh.2.1 hh.2.2
  ·exact h.none
 ·exact h.none
theorem watch(now:Int):∀(l:List aR) (x:aE×Bool) {g:Gh},gn g x.1→∃g',gn g' (aE.watch now l x).1∧Ext g g'
 | [],x,g,h=>⟨g,h,Ext.refl g⟩
 | y::l,x,g,h=>by
  rw[aE.watch]
  split
  ·rename_i hl
   unfold aE.late at hl
   simp only[dN,decide_eq_true_eq] at hl
   obtain⟨k1,k2⟩:=h.gone hl.2.1 hl.2.2
   obtain⟨g',k3,k4⟩:=watch now l (x.1.gone y.1,true) k1
   exact⟨g',k3,k2.trans k4⟩
  ·exact watch now l x h
theorem tick(h:gn g M)(now:Int):∃g',sd g (M.tick now).1 (M.tick now).2 g':=by
 obtain⟨g',k1,k2⟩:=watch (bA now) M.ch.ms (M,false) h
 refine⟨g',k1,k2,fun s hs=>?_⟩
 have hs:s∈(if (aE.watch (bA now) M.ch.ms (M,false)).2 then (aE.watch (bA now) M.ch.ms (M,false)).1.all else []):=hs
 split at hs
 ·exact k1.all s hs
 ·cases hs
theorem eQ(h:gn g M)(n:Int):∃g',sd g (M.eQ n).1 (M.eQ n).2.1 g':=by
 unfold aE.eQ
 split
 ·exact h.none
 split
 ·exact h.none
 ·rename_i h1 h2
  refine h.KB ?_ yd
  unfold aE.qj at h1
  split at h1
  ·exact absurd yo h1
  split at h1
  ·exact absurd yo h1
  ·rename_i hh;simpa using hh
theorem drain(h:gn g M)(n:Int):∃g',sd g (M.drain n).1 (M.drain n).2.1 g':=by
 unfold aE.drain
 split
 ·exact h.none
 split
 ·exact h.none
 ·rename_i h1 h2
  have h2:(gh M.ch n).2=0:=by omega
  have hn:sg M.ch (M.iH n).ch:=VU h2
  obtain⟨_,_,_,h4⟩:=zr h2
  have hms:(M.iH n).ch.ms=M.ch.ms:=by
   show(gh M.ch n).1.ms=_
   rw[h4]
  obtain⟨k1,k2⟩:=h.to hn (fun k k1 k2=>⟨by rw[←hms];exact k1,k2⟩) (by rw[hms];exact h.z)
  exact⟨_,k1,k2,k1.all⟩
theorem fC(h:gn g M){n:Int}(now:Int)(h2:(e8 M.ch n).2=0):gn (g.ext (M.fC n now).ch) (M.fC n now)∧Ext g (g.ext (M.fC n now).ch)∧∀s:Int,(n,s)∈(M.fC n now).ch.ms→g.V (n,s)=0:=by
 have hn:sg M.ch (M.fC n now).ch:=VW h2
 obtain⟨_,_,h3,h4⟩:=xJ h2
 obtain⟨e,q1,q2,q3,q4⟩:=h.at_
 have hms:(M.fC n now).ch.ms=M.ch.ms ++ [(n,M.ch.ar+1)]:=by
  show(e8 M.ch n).1.ms=_
  rw[h4]
 obtain⟨k1,k2⟩:=h.to hn (fun k k1 k2=>by
  rw[hms] at k1
  rcases ez.1 k1 with k1 | k1
  ·exact⟨k1,Ns k2⟩
  ·rw[eA.1 k1] at k2
   have k2:(((M.whole.set n.toNat false)[n.toNat]?).getD false)=true:=k2
   rw[vZ] at k2
   split at k2
   ·split at k2<;>cases k2
   ·rename_i hh;exact absurd rfl hh) (by
  obtain⟨k,a1,a2⟩:=h.z
  exact⟨k,by rw[hms];exact ez.2 (.inl a1),a2⟩)
 refine⟨k1,k2,fun s hs=>?_⟩
 rw[hms] at hs
 rcases ez.1 hs with hs | hs
 ·exact absurd (bP.2 ⟨_,hs,Z⟩) (Al.1 h3)
 ·have:=congrArg Prod.snd (eA.1 hs)
  dsimp only at this
  exact h.gi.xF _ f_
end gn
end Cl
namespace Cl
open Go Vg T Api Ch Rep Conf Lg Rd Win Kv Adm
def wk(g:Gh)(p:Int)(t:ByteArray):Prop:=∀(f:ay) (ms:List aR),getM (sB t)=some (f,ms)→gf g p f ms
def jN(g:Gh)(S:aT):Prop:=∀x∈S.aX,∀t∈x.2,wk g x.1.1 t
namespace jN
variable {g:Gh} {S:aT}
theorem up{g':Gh}(h0:0<g.H.length)(l:g.Le g')(h:jN g S):jN g' S:=fun x hx t ht f ms hf=>(h x hx t ht f ms hf).up h0 l
theorem list(h:jN g S){p:bj}:∀t∈S.list p,wk g p.1 t:=fun t ht=>by
 unfold aT.list at ht
 cases hg:bF S.aX p with
 | none=>rw[hg] at ht;cases ht
 | some l=>rw[hg] at ht;exact h _ (u7 hg) t ht
theorem put(h:jN g S){p:bj}{l:List ByteArray}(hl:∀t∈l,wk g p.1 t):jN g { S with aX:=bV S.aX p l }:=fun x hx=>by
 rcases w7 hx with h3 | h3
 ·exact h x h3
 ·rw[h3];exact hl
theorem send(h:jN g S){p:bj}{t:ByteArray}(ht:wk g p.1 t):jN g (S.send p t):=by
 unfold aT.send
 split
 ·exact h
 ·refine h.put fun u hu=>?_
  rcases ez.1 hu with hu | hu
  ·exact h.list u hu
  ·rw[eA.1 hu];exact ht
theorem found(h:jN g S){p:bj}{i:Int}{t:ByteArray}(hf:S.find p i=some t):wk g p.1 t:=by
 unfold aT.find at hf
 split at hf
 ·cases hf
 ·exact h.list t (ME hf)
theorem dy(h:jN g S)(p:bj)(i:Int):jN g (S.dy p i):=by
 have h':jN g { S with aX:=bV S.aX p ((S.list p).eraseIdx i.toNat) }:=h.put fun u hu=>h.list u (List.mem_of_mem_eraseIdx hu)
 unfold aT.dy
 split
 ·exact fun x hx=>h' x (Cn hx)
 ·exact h'
theorem drop(h:jN g S)(p:bj)(i:Int):jN g (S.drop p i).1:=by
 unfold aT.drop
 split
 ·exact h
 ·exact h.dy p i
theorem double(h:jN g S)(p:bj)(i:Int):jN g (S.double p i).1:=by
 unfold aT.double
 cases hf:S.find p i with
 | none=>exact h
 | some t=>exact h.send (h.found hf)
theorem bD(h:jN g S){from_:Int}{l:List cz}(hl:∀s∈l,gf g from_ s.2.1 s.2.2):jN g (Cl.bD from_ S l):=by
 unfold Cl.bD
 induction l generalizing S with
 | nil=>exact h
 | cons s l ih=>
  refine ih ?_ fun x hx=>hl x (i_ _ hx)
  unfold ic
  split
  ·exact h
  ·rename_i t ht
   exact P3
end jN
def oH(S:List cz):Prop:=∀s∈S,s.2.1.kind=1∨s.2.1.kind=7
namespace oH
theorem nil:oH []:=fun s hs=>by cases hs
theorem ask:oH qQ:=fun s hs=>.inr (by rw[eA.1 hs])
theorem fR(s:aN)(r now:Int):oH (s.fR r now).2:=by
 unfold aN.fR
 split
 ·exact ask
 split
 ·exact nil
 ·exact ask
theorem br(s:aN)(now:Int):oH (s.br now).2:=fun x hx=>.inl (by rw[eA.1 hx];rfl)
theorem call(s:aN)(o:bB)(cl d now:Int):oH (s.call o cl d now).2:=by
 unfold aN.call
 split
 ·exact nil
 split
 ·exact br _ _
 ·exact ask
theorem take(s:aN)(f:ay)(ms:List aR)(now:Int):oH (s.take f ms now).2:=by
 unfold aN.take
 split
 ·split
  ·exact nil
  split
  ·exact br _ _
  ·exact nil
 split
 ·split
  ·exact nil
  ·exact nil
 split
 ·split
  ·unfold aN.refused
   split
   ·exact fR _ _ _
   split
   ·exact ask
   ·exact fR _ _ _
  ·exact nil
 ·exact nil
theorem tick(s:aN)(now:Int):oH (s.tick now).2:=by
 unfold aN.tick
 split
 ·split
  ·exact fR _ _ _
  ·exact nil
 split
 ·split
  ·exact nil
  split
  ·exact ask
  ·exact ask
 split
 ·split
  ·exact ask
  ·exact nil
 ·exact nil
theorem msg{S:List cz}(h:oH S)(g:Gh)(p:Int):∀s∈S,gf g p s.2.1 s.2.2:=fun s hs=>by
 rcases h s hs with k | k
 ·exact ot 1 k yo
 ·exact ot 7 k yo
end oH
def r_(g:Gh)(d:List bd):Prop:=d=[]∨∃(e:Nat) (t:aR),(g.ch e).getLast?=some t∧d <+: g.X e t
theorem r_.up{g g':Gh}(l:g.Le g'){d:List bd}(h:r_ g d):r_ g' d:=by
 rcases h with h | ⟨e,t,h1,h2⟩
 ·exact .inl h
 ·refine .inr ⟨e,t,?_,h2.trans (l.X e t)⟩
  rw[l.ch (wC (Ek h1))]
  exact h1
theorem r_.RX{g:Gh}(hg:eB g){p:aR}(hp:p∈g.ch (g.H.length-1))(hw:EW g p){d:List bd}(h:r_ g d):d <+: g.G p:=by
 rcases h with h | ⟨e,t,h1,h2⟩
 ·rw[h];exact List.nil_prefix
 ·exact h2.trans (hg.JX hp hw h1)
structure cO(C:al)(g:Gh):Prop where
 m:gn g C.au
 jB:∀(n:Nat) (R:av),C.nodes[n]?=some (some R)→cK g n R
 aX:jN g C.aB
 done:r_ g C.done
theorem gn.up{g g':Gh}{M:aE}(h:gn g M)(hg:eB g')(l:g.Le g')(hH:g'.H=g.H):gn g' M:=⟨hg,by rw[hH];exact h.top,fun k k1 k2=>(h.kw k k1 k2).up l,by
 obtain⟨k,k1,k2⟩:=h.z
 exact⟨k,k1,k2.up l⟩⟩
namespace cO
variable {C:al} {g g':Gh}
theorem Md(h:cO C g){n:Int}{R:av}(hn:C.node n=some R):0≤n∧cK g n.toNat R:=by
 unfold al.node at hn
 split at hn
 ·cases hn
 ·cases hx:C.nodes[n.toNat]? with
  | none=>rw[hx] at hn;cases hn
  | some x=>
   rw[hx] at hn
   obtain rfl:x=some R:=hn
   exact⟨by omega,h.jB _ _ hx⟩
theorem nq(h:cO C g){l:aT}(hl:jN g l):cO { C with aB:=l } g:=⟨h.m,h.jB,hl,h.done⟩
theorem post(h:cO C g){n:Int}{S:List cz}(hS:∀s∈S,gf g n s.2.1 s.2.2):cO (C.post n S) g:=h.nq (h.aX.bD hS)
theorem node(h:cO C g){n:Int}(h0:0≤n){Q:av}{S:List bQ}(t:eC g n.toNat Q S g'):cO ((C.setNode n (some Q)).post n (ek S)) g':=by
 have hs:cO (C.setNode n (some Q)) g':=by
  refine⟨h.m.up t.gi t.le t.H,fun m R hm=>?_,h.aX.up h.m.gi.pos t.le,h.done.up t.le⟩
  have hm:(C.nodes.set n.toNat (some Q))[m]?=some (some R):=hm
  rw[vZ] at hm
  split at hm
  ·rename_i e
   split at hm
   ·cases hm
    rw[←e];exact t.nd
   ·cases hm
  ·rename_i hne
   exact(h.jB m R hm).up t.le fun s=>t.qp _ f_
 refine hs.post fun s hs=>?_
 unfold ek at hs
 obtain⟨x,hx,rfl⟩:=bP.1 hs
 have:=t.snd x hx
 rwa[Int.toNat_of_nonneg h0] at this
theorem qi(h:cO C g){M:aE}(hm:gn g' M)(x:Ext g g'):cO { C with au:=M } g':=
 ⟨hm,fun n R hn=>(h.jB n R hn).up x.le fun s=>⟨x.V _,x.G _⟩,h.aX.up h.m.gi.pos x.le,h.done.up x.le⟩
theorem kx(h:cO C g){M:aE}{S:List cz}(t:sd g M S g'):cO (({ C with au:=M }:al).post 16 S) g':=(h.qi t.i t.x).post t.s
theorem du(h:cO C g)(n:Int)(s:aN):cO (C.gR n s) g:=⟨h.m,h.jB,h.aX,h.done⟩
theorem bA(h:cO C g)(n:Nat):cO (C.bA n) g:=by
 unfold al.bA
 split
 ·exact h
 ·rename_i r hr
  have hm:C.nodes[n]?=some (some r):=by
   cases hx:C.nodes[n]? with
   | none=>rw[hx] at hr;cases hr
   | some x=>rw[hx] at hr;obtain rfl:x=some r:=hr;rfl
  have t:=abr h.m.gi (h.jB n r hm)
  exact h.node (n:=(n:Int)) yd (by rw[dZ];exact t)
theorem eV(h:cO C g)(n:Nat):cO (C.eV n) g:=by
 unfold al.eV
 split
 ·exact h
 ·exact(h.du n _).post ((oH.tick _ _).msg g _)
theorem xD(h:cO C g)(l:List Nat):cO (l.foldl al.bA C) g:=by
 induction l generalizing C with
 | nil=>exact h
 | cons x l ih=>exact ih (h.bA x)
theorem xC(h:cO C g)(l:List Nat):cO (l.foldl al.eV C) g:=by
 induction l generalizing C with
 | nil=>exact h
 | cons x l ih=>exact ih (h.eV x)
theorem tick(h:cO C g):cO C.tick g:=by
 have h':cO ({ C with now:=min (C.now+1) 1099511627776 }:al) g:=⟨h.m,h.jB,h.aX,h.done⟩
 exact(h'.xD _).xC _
theorem fJ(h:cO C g){from_:Int}(to:Int){f:ay}{ms:List aR}(hM:gf g from_ f ms):∃g',cO (C.fJ from_ to f ms) g':=by
 unfold al.fJ
 split
 ·rename_i e
  rw[e]
  obtain⟨g',t⟩:=h.m.take from_ hM C.now
  exact⟨g',h.kx t⟩
 split
 ·rename_i r hr
  obtain⟨h0,hN⟩:=h.Md hr
  obtain⟨g',t⟩:=aa6 hN h.m.gi from_ hM C.now
  exact⟨g',h.node h0 t⟩
 split
 ·exact⟨g,(h.du _ _).post ((oH.take _ _ _ _).msg g _)⟩
 ·exact⟨g,h⟩
theorem iu(h:cO C g){from_:Int}(to:Int){t:ByteArray}(ht:wk g from_ t):∃g',cO (C.iu from_ to t) g':=by
 unfold al.iu
 split
 ·rename_i f ms hf
  exact h.fJ to (ht f ms hf)
 ·exact⟨g,h⟩
theorem fj(h:cO C g)(p:bj)(i:Int):∃g',cO (C.fj p i).1 g':=by
 unfold al.fj
 split
 ·exact⟨g,h⟩
 ·rename_i t ht
  exact(h.nq (h.aX.dy p i)).iu p.2 (h.aX.found ht)
theorem back(h:cO C g)(n:Int)(hv:∀s:Int,(n,s)∈C.au.ch.ms→g.V (n,s)=0):∃g',cO (C.back n) g'∧g.Le g'∧g'.H=g.H∧(C.back n).au=C.au:=by
 unfold al.back
 split
 ·rename_i hu
  have h0:0≤n:=by
   unfold al.jr at hu
   split at hu
   ·cases hu
   ·omega
  obtain⟨e,q1,q2,q3,q4⟩:=h.m.at_
  obtain⟨k,kz,_⟩:=h.m.z
  have he1:1≤e:=h.m.gi.fY.pos (by rw[←q4] at kz;exact kz)
  have v:=h.m.gi.fY.ok e _ q2 he1
  have er:ct (cj C.cP n true) 16 (iF C.au.ch) C.au.ch.ms C.now=iI (cj C.cP n true) C.au.ch:=by
   have ef:l8 (iF C.au.ch) C.au.ch.ms=C.au.ch:=rfl
   unfold ct
   rw[if_neg (show ¬(iF C.au.ch).kind=1 from fun e0=>by cases e0),if_pos (show(iF C.au.ch).kind=8 from rfl),ef,if_pos ⟨⟨rfl,zi.2 v⟩,by show(0:Int)<C.au.ch.ar;omega⟩]
  have hR:cj C.cP n true=iW C.cP n:=rfl
  obtain⟨g',t⟩:=Ke (R:=cj C.cP n true) (v0:=0) (n:=n.toNat) h.m.gi (by rw[hR];show n=_;omega) q2 he1 (bU _) (fun hs=>absurd rfl hs) (fun i x hx=>by cases hx) (fun w=>by cases w) (fun s hs=>by
   by_cases hh:s≤e
   ·exact hh
   ·exact absurd (h.m.gi.xF _ f_) hs) (fun s hs _=>by
   rw[Int.toNat_of_nonneg h0] at hs ⊢
   rw[q4] at hs
   exact hv s hs) rfl
  rw[er]
  exact⟨g',h.node h0 t,t.le,t.H,Z⟩
 ·exact⟨g,h,Gh.Le.refl g,Z,Z⟩
theorem join(h:cO C g)(n:Int):∃g',cO (C.join n).1 g':=by
 unfold al.join
 dsimp only
 split
 ·exact⟨g,h⟩
 ·rename_i hj
  have hj:(C.au.join n C.now).2.2=0:=by omega
  unfold aE.join at hj ⊢
  split at hj
  ·cases hj
  split at hj
  ·rename_i h1;exact absurd hj h1
  rename_i h1 h2
  rw[if_neg h1,if_neg h2]
  have h2:(e8 C.au.ch n).2=0:=by omega
  obtain⟨k1,k2,k3⟩:=h.m.fC C.now h2
  obtain⟨g',b1,b2,b3,b4⟩:=(h.qi k1 k2).back n fun s hs=>by rw[k2.V];exact k3 s hs
  refine⟨g',b1.post fun s hs=>?_⟩
  exact(k1.all s hs).up k1.gi.pos b2
theorem call(h:cO C g)(s:cB):cO (C.call s).1 g:=by
 unfold al.call
 split
 ·exact h
 rename_i x hx
 split
 ·exact h
 ·have h2:cO ({ C.gR s.a (x.call s.op s.b (C.dead s.c) C.now).1 with his:=C.his.call s.a (x.call s.op s.b (C.dead s.c) C.now).1.seq s.op }:al) g:=⟨h.m,h.jB,h.aX,h.done⟩
  exact h2.post ((oH.call _ _ _ _ _).msg g _)
theorem step(h:cO C g)(s:cB):∃g',cO (C.step s).1 g':=by
 by_cases k1:s.kind=1
 ·rw[vw C k1];exact⟨g,h.call s⟩
 by_cases k2:s.kind=2
 ·rw[vz C k2]
  cases hr:C.node s.a with
  | none=>exact⟨g,h⟩
  | some r=>
   obtain⟨h0,hN⟩:=h.Md hr
   obtain⟨g',t⟩:=Yd h.m.gi hN C.now
   exact⟨g',h.node h0 t⟩
 by_cases k3:s.kind=3
 ·rw[vA C k3];exact⟨g,h.tick⟩
 by_cases k4:s.kind=4
 ·rw[ur C k4];exact h.fj _ _
 by_cases k5:s.kind=5
 ·rw[vB C k5];exact⟨g,h.nq (h.aX.drop _ _)⟩
 by_cases k6:s.kind=6
 ·rw[vC C k6];exact⟨g,h.nq (h.aX.double _ _)⟩
 by_cases k7:s.kind=7
 ·rw[vD C k7]
  split
  ·exact⟨g,h⟩
  ·refine⟨g,h.m,fun n R hn=>?_,h.aX,h.done⟩
   have hn:(C.nodes.set s.a.toNat none)[n]?=some (some R):=hn
   rw[vZ] at hn
   split at hn
   ·split at hn<;>cases hn
   ·exact h.jB n R hn
 by_cases k8:s.kind=8
 ·rw[vE C k8]
  obtain⟨g',t⟩:=h.m.eQ s.a
  exact⟨g',h.kx t⟩
 by_cases k9:s.kind=9
 ·rw[vF C k9];exact h.join s.a
 by_cases k10:s.kind=10
 ·rw[vx C k10]
  obtain⟨g',t⟩:=h.m.drain s.a
  exact⟨g',h.kx t⟩
 by_cases iS:s.kind=11
 ·rw[vy C iS]
  obtain⟨g',t⟩:=h.m.tick C.now
  exact⟨g',h.kx t⟩
 ·rw[vG C fun j h1 h2=>by
   rcases(by omega:j=1∨j=2∨j=3∨j=4∨j=5∨j=6∨j=7∨j=8∨j=9∨j=10∨j=11) with rfl | rfl | rfl | rfl | rfl | rfl | rfl | rfl | rfl | rfl | rfl<;>assumption]
  exact⟨g,h⟩
theorem wit(h:cO C g):∃p,p∈g.ch (g.H.length-1)∧EW g p∧p∈C.au.ch.ms:=by
 obtain⟨k,k1,k2⟩:=h.m.z
 obtain⟨e,q1,_,_,q4⟩:=h.m.at_
 exact⟨k,by rw[show g.H.length-1=e by omega,q4];exact k1,k2,k1⟩
theorem Sh{g:Gh}(hg:eB g){p:aR}(hp:p∈g.ch (g.H.length-1))(hw:EW g p){d:List bd}(hd:r_ g d){x:Option av×Nat}(hx:∀r,x.1=some r→cK g x.2 r):r_ g (jh d x):=by
 unfold jh
 split
 ·exact hd
 ·rename_i r hr
  split
  ·exact hd
  ·rename_i hc
   have hN:=hx r hr
   have h0:r.since≠0:=fun e=>hc (.inl e)
   have h2:u0 r.ch.ms=x.2:=by
    by_cases hh:u0 r.ch.ms=x.2
    ·exact hh
    ·exact absurd (.inr (.inr (.inl hh))) hc
   have hlast:(g.ch r.ch.ar.toNat).getLast?=some ((x.2:Int),r.since):=by
    rw[hN.view.2.2]
    unfold u0 at h2
    cases hm:r.ch.ms.getLast? with
    | none=>rw[hm] at h2;dsimp only at h2;omega
    | some m=>
     rw[hm] at h2
     dsimp only at h2
     have hmm:=Ek hm
     have e0:m=((x.2:Int),m.2):=by rw[←h2]
     rw[←hN.view.2.2,e0] at hmm
     rw[e0,(hN.is hg hmm).1]
   have hX:=hN.top h0
   have c1:=hd.RX hg hp hw
   have c2:=hg.JX hp hw hlast
   rw[hX] at c2
   have c3:=(Bv r.an.done.toNat r.log).trans c2
   generalize hT:r.log.take r.an.done.toNat=T at c3
   by_cases hl:d.length≤T.length
   ·have hpre:=List.prefix_of_prefix_length_le c1 c3 hl
    obtain⟨u,hu⟩:=hpre
    have:d++T.drop d.length=T:=by
     rw[←hu,List.drop_left]
    rw[this]
    exact .inr ⟨_,_,hlast,by rw[hX,←hT];exact Bv _ _⟩
   ·rw[List.drop_eq_nil_of_le yd,bK]
    exact hd
theorem behind(h:cO C g):cO C.behind g:=by
 obtain⟨p,hp,hw,_⟩:=h.wit
 refine⟨h.m,h.jB,h.aX,?_⟩
 show r_ g (C.nodes.zipIdx.foldl jh C.done)
 have hz:∀x∈C.nodes.zipIdx,∀r,x.1=some r→cK g x.2 r:=fun x hx r hr=>by
  have:=List.mem_zipIdx hx
  obtain⟨_,h2,h3⟩:=this
  refine h.jB x.2 r ?_
  rw[←hr,h3,GE yd]
  simp
 generalize C.nodes.zipIdx=l at hz
 have hd:=h.done
 generalize C.done=d at hd
 induction l generalizing d with
 | nil=>exact hd
 | cons x l ih=>exact ih (fun y hy=>hz y (i_ _ hy)) _ (Sh h.m.gi hp hw hd (hz x mW))
theorem bf(h:cO C g)(s:cB):∃g',cO (C.bf s).1 g':=by
 obtain⟨g',k⟩:=h.step s
 exact⟨g',k.behind⟩
end cO
end Cl
namespace Cl
open Go Vg T Api Ch Rep Conf Lg Rd Win Kv Adm
def zz(F:bh):Gh:=⟨[qU,b_ F],fun k=>if k∈(b_ F).ms then 1 else 0,fun _=>[],fun _ _=>[]⟩
theorem B9(F:bh)(e:Nat)(k:aR):(zz F).X e k=[]:=by
 unfold Gh.X
 split<;>rfl
theorem B1{F:bh}{k:aR}(h:k∈(b_ F).ms):k.2=1:=by
 have h:k∈jj F.chain.toNat:=h
 unfold jj at h
 obtain⟨i,_,rfl⟩:=bP.1 h
 rfl
theorem RF{F:bh}(hF:F=bI F):nP [qU,b_ F]:=by
 have h0:nP [qU]:=by
  refine⟨rfl,fun e c hc=>?_,fun e c hc h1=>?_,fun e e' c c' he hc hc'=>?_⟩
  ·cases e with
   | zero=>cases hc;rfl
   | succ e=>cases hc
  ·cases e with
   | zero=>omega
   | succ e=>cases hc
  ·cases e' with
   | zero=>
    cases hc'
    exact⟨[],[],rfl,List.nil_sublist _,fun k hk=>by cases hk⟩
   | succ e'=>cases hc'
 have:=h0.push (c:=qU) (c':=b_ F) rfl ⟨rfl,Ff hF,[],(b_ F).ms,rfl,List.nil_sublist _,fun k hk=>by rw[B1 hk];decide⟩
 exact this
theorem Ty{F:bh}(hF:F=bI F):eB (zz F):=by
 refine⟨RF hF,fun e a b _=>by rw[B9,B9];exact mX _,fun e e' k _=>by rw[B9,B9];exact mX _,fun k hk=>?_,fun k=>?_,fun _ _=>rfl⟩
 ·show(if k∈(b_ F).ms then 1 else 0)=0
  rw[if_neg]
  intro hm
  have:=B1 hm
  have hk:(2:Int)≤k.2:=hk
  omega
 ·show(if k∈(b_ F).ms then 1 else 0)<2
  split<;>omega
theorem Vp{F:bh}(hF:F=bI F)(n:Nat):cK (zz F) n (cj F n false):=by
 have hv:=Ff hF
 have key:∀R:av,R.id=n→R.ch=b_ F→R.since=(cm (b_ F) n).1→R.log=[]→R.base=-1→R.an=bz.new F.gZ→(R.whole=true→R.since≠0∧R.start=0)→cK (zz F) n R:=by
  intro R h1 h2 h3 h4 h5 h6 h7
  have hm:R.since≠0→((n:Int),R.since)∈(b_ F).ms:=fun hs=>by
   rw[h3] at hs ⊢
   exact Nu hs
  refine⟨h1,⟨1,by rw[h2];rfl,by rw[h2];rfl⟩,by rw[h3,h2,h1],fun hs=>⟨?_,h4.symm⟩,fun s hs hne=>?_,fun i x hx=>(by rw[h4] at hx;cases hx),fun w=>?_,fun b=>(by rw[h5] at b;exact absurd b yo),(by rw[h5];decide),(by rw[h6,h4];rfl),(by rw[h6];exact cd _)⟩
  ·show(if ((n:Int),R.since)∈(b_ F).ms then 1 else 0)=R.ch.ar.toNat
   rw[if_pos (hm hs),h2];rfl
  ·exfalso
   have hs:(if ((n:Int),s)∈(b_ F).ms then 1 else 0)≠0:=hs
   split at hs
   ·rename_i hh
    apply hne
    rw[h3,G8 hv hh]
   ·exact hs rfl
  ·obtain⟨w1,w2⟩:=h7 w
   refine⟨w1,by rw[w2];exact bU _,fun e g1 g2=>?_⟩
   rw[h2] at g2
   have g2:(e:Int)<1:=g2
   omega
 cases hin:(cm (b_ F) n).2 with
 | true=>
  have e:cj F n false={ iW F n with ch:=b_ F,since:=(cm (b_ F) n).1,whole:=true,start:=0 }:=by
   unfold cj
   rw[if_neg yo,if_pos hin]
  rw[e]
  refine key _ Z Z Z Z Z Z fun _=>⟨?_,Z⟩
  have:=B1 (G_ hin)
  dsimp only at this ⊢
  omega
 | false=>
  have e:cj F n false={ iW F n with ch:=b_ F }:=by
   unfold cj
   rw[if_neg yo,if_neg (by rw[hin];decide)]
  rw[e]
  exact key _ rfl rfl (Nt hin).symm rfl rfl rfl fun w=>by cases w
theorem cO.new{F:bh}(hF:F=bI F):cO (mO F) (zz F):=by
 have hb:=lX hF
 refine⟨⟨Ty hF,Z,fun k hk _ e h1 h2=>?_,?_⟩,fun n R hn=>?_,fun x hx=>absurd hx oE,.inl Z⟩
 ·rw[B1 hk] at h2;omega
 ·refine⟨(0,1),?_,fun e h1 h2=>by dsimp only at h2;omega⟩
  show((0:Int),(1:Int))∈jj F.chain.toNat
  unfold jj
  exact bP.2 ⟨0,o6.2 yd,Z⟩
 ·have hn:((List.range F.nodes.toNat).map fun(n:Nat)=>some (cj F n false))[n]?=some (some R):=hn
  rw[eh] at hn
  cases hx:(List.range F.nodes.toNat)[n]? with
  | none=>rw[hx] at hn;cases hn
  | some m=>
   rw[hx] at hn
   cases hn
   obtain⟨h1,h2⟩:=bY.1 hx
   rw[List.getElem_range] at h2
   subst h2
   exact Vp hF n
end Cl
namespace Cl
open Go Vg T Api Ch Rep Conf Lg Rd Win Kv Adm Sched
theorem Kh:∀(l:List ay) (A:aO),(A.oN l).aL=A.aL
 | [],A=>rfl
 | f::l,A=>by
  show((A.out f).oN l).aL=A.aL
  rw[Kh l,Mp]
theorem BQ(A:aO)(k s t:Int):(A.cU k s t).2.aL=A.aL:=by
 unfold aO.cU
 split
 ·exact Ez ..
 ·rfl
section
variable {q m:Int} {R:av}
end
namespace LinK
variable {S:aT}
end LinK
namespace CapI
variable {F:bh} {C:al}
end CapI
end Cl
namespace Cl
open Go Vg T Api Ch Rep Conf Lg Rd Win Kv Adm Sched
def oa(es:List bd)(c:Int):Nat:=(es.filter fun e=>decide (e.aF=c)).length
theorem RS(es:List bd)(e:bd)(c:Int):oa (es ++ [e]) c=oa es c+(if e.aF=c then 1 else 0):=by
 unfold oa
 rw[tp,a_,uK,List.filter_nil]
 by_cases h:e.aF=c
 ·rw[if_pos yc,if_pos h];rfl
 ·rw[if_neg yc,if_neg h];rfl
theorem T_(es:List bd)(e:bd)(c:Int):fo (es ++ [e]) c=if e.aF=c then (e.seq,e.index) else fo es c:=by
 unfold fo
 rw[Bp]
 rfl
structure lu(es:List bd):Prop where
 uT:∀c:Int,(oa es c:Int)≤(fo es c).1
 cl:∀e∈es,0≤e.aF∧e.aF<6
theorem lu.nil:lu []:=⟨fun c=>cd _,fun e he=>by cases he⟩
theorem lu.snoc{es:List bd}(h:lu es){e:bd}(he:gP es e=0):lu (es ++ [e]):=by
 unfold gP at he
 split at he
 ·cases he
 rename_i hb
 split at he
 ·cases he
 split at he
 ·cases he
 split at he
 ·cases he
 rename_i hs
 unfold ng at hb
 simp only[Bool.or_eq_true,decide_eq_true_eq,not_or] at hb
 refine⟨fun c=>?_,fun x hx=>?_⟩
 ·rw[RS,T_]
  have:=h.uT c
  by_cases hc:e.aF=c
  ·subst hc
   rw[if_pos rfl,if_pos rfl]
   show((oa es e.aF+1:Nat):Int)≤e.seq
   omega
  ·rw[if_neg hc,if_neg hc];omega
 ·rcases ez.1 hx with hx | hx
  ·exact h.cl x hx
  ·rw[eA.1 hx];omega
theorem T'{M:Int→Int}(h0:∀c,0≤M c):∀{es:List bd},(∀e∈es,e.seq≤M e.aF)→∀c,(fo es c).1≤M c:=by
 intro es h c
 unfold fo
 have key:∀(es:List bd) (p:Int×Int),(∀e∈es,e.seq≤M e.aF)→p.1≤M c→(es.foldl (tW c) p).1≤M c:=by
  intro es
  induction es with
  | nil=>intro p _ hp;exact hp
  | cons e es ih=>
   intro p he hp
   refine ih _ (fun x hx=>he x (i_ _ hx)) ?_
   unfold tW
   split
   ·rename_i hc
    have:=he e mW
    rw[hc] at this
    exact this
   ·exact hp
 exact key es _ h (h0 c)
theorem JR:∀{es:List bd},(∀e∈es,0≤e.aF∧e.aF<6)→es.length=oa es 0+oa es 1+oa es 2+oa es 3+oa es 4+oa es 5
 | [],_=>rfl
 | e::es,h=>by
  have ih:=JR (es:=es) fun x hx=>h x (i_ _ hx)
  have he:=h e mW
  have hc:∀c:Int,oa (e::es) c=oa es c+(if e.aF=c then 1 else 0):=fun c=>by
   unfold oa
   rw[uK]
   by_cases h:e.aF=c
   ·rw[if_pos yc,if_pos h,iA]
   ·rw[if_neg yc,if_neg h];rfl
  rw[iA,ih,hc 0,hc 1,hc 2,hc 3,hc 4,hc 5]
  rcases(by omega:e.aF=0∨e.aF=1∨e.aF=2∨e.aF=3∨e.aF=4∨e.aF=5) with k | k | k | k | k | k<;>rw[k]<;>simp<;>omega
theorem lu.len{es:List bd}(h:lu es){M:Int→Int}(h0:∀c,0≤M c)(hM:∀e∈es,e.seq≤M e.aF):(es.length:Int)≤M 0+M 1+M 2+M 3+M 4+M 5:=by
 have e:=JR h.cl
 have hl:=T' h0 hM
 have:=h.uT 0;have:=h.uT 1;have:=h.uT 2;have:=h.uT 3;have:=h.uT 4;have:=h.uT 5
 have:=hl 0;have:=hl 1;have:=hl 2;have:=hl 3;have:=hl 4;have:=hl 5
 omega
end Cl
namespace Cl
open Go Vg T Api Ch Rep Conf Lg Rd Win Kv Adm Sched
def jc(P:ay→Prop)(S:aM):Prop:=∀c∈S.cls,∀g∈c.q,P g
section
variable {P:ay→Prop}
theorem jc.set{S:aM}(h:jc P S){k:Nat}{c':cG}{t:Nat}{b:Bool}(hc:∀g∈c'.q,P g):jc P ⟨S.cls.set k c',S.cap,t,b⟩:=fun c hm=>by
 rcases lP hm with hm | rfl
 ·exact h c hm
 ·exact hc
theorem Gv:∀{N:Nat} {S S1:aM} {f:ay},S.iX N=some (f,S1)→jc P S→P f∧jc P S1
 | 0,S,S1,f,h,_=>by cases h
 | N+1,S,S1,f,h,hA=>by
  unfold aM.iX at h
  split at h
  ·cases h
  rename_i c hc
  have hcm:=hA c (ME hc)
  split at h
  ·exact Gv h (hA.set (c':=c.c0) hcm)
  rename_i g q hq
  split at h
  ·exact Gv h (hA.set (c':=c.c1 S.fresh) hcm)
  ·cases h
   rw[hq] at hcm
   have h2:∀x∈(c.c2 S.fresh f q).q,P x:=fun x hx=>hcm x (i_ _ hx)
   refine⟨hcm f mW,?_⟩
   split
   ·exact hA.set h2
   ·exact hA.set h2
theorem Mw{S:aM}(h:jc P S):((dd S).2.1=true→P (dd S).1)∧jc P (dd S).2.2:=by
 unfold dd
 cases hp:S.nB with
 | none=>exact⟨fun h=>(by cases h),h⟩
 | some r=>
  obtain⟨f,S1⟩:=r
  unfold aM.nB at hp
  split at hp
  ·cases hp
  ·obtain⟨h1,h2⟩:=Gv hp h
   exact⟨fun _=>h1,h2⟩
theorem E7{A:aO}(h:jc P A.aL)(now:Int):jc P (A.ff now).aL:=by
 unfold aO.ff
 rw[Kh]
 intro c hc g hg
 have hc:c∈A.aL.cls.map (cG.oM now):=hc
 obtain⟨d,hd,rfl⟩:=bP.1 hc
 exact h d hd g (iC.1 hg).1
theorem L6{A:aO}(h:jc P A.aL)(now:Int):jc P (A.cq now).aL:=by
 have:=(Mw (E7 h now)).2
 unfold aO.cq
 split<;>exact this
theorem WN{S:aM}(h:jc P S){f:ay}(hf:P f):jc P (S.fq f).2:=by
 unfold aM.fq
 split
 ·exact h
 rename_i c hc
 split
 ·exact h
 split
 ·refine jc.set h fun g hg=>?_
  rcases ez.1 hg with hg | hg
  ·unfold aM.at_ at hc
   split at hc
   ·exact h c (ME hc) g hg
   ·cases hc
  ·rw[eA.1 hg];exact hf
 ·exact h
theorem V3{A:aO}(h:jc P A.aL){f:ay}(hf:P f)(now:Int):jc P (A.iy f now).2.aL:=by
 have hw:jc P (A.dI f now).2.aL:=by
  unfold aO.dI
  repeat' split
  all_goals first | exact h | exact WN h hf
 unfold aO.iy
 split
 ·split
  ·show jc P ((A.dI f now).2.cU _ _ _).2.aL
   rw[BQ];exact hw
  ·exact hw
 ·exact h
end
structure dt(M:Int→Int)(R:av):Prop where
 q:jc (fun f=>f.seq≤M f.aF) R.aI.aL
 l:lu R.log
 e:∀x∈R.log,x.seq≤M x.aF
structure nV(M:Int→Int)(f:ay):Prop where
 k1:f.kind=1→f.seq≤M f.aF
 k4:f.kind=4→f.entry.seq≤M f.entry.aF
theorem ub{M:Int→Int}{f:ay}(k:Int)(hk:f.kind=k)(h:k≠1∧k≠4):nV M f:=⟨fun e=>absurd (hk.symm.trans e) h.1,fun e=>absurd (hk.symm.trans e) h.2⟩
theorem nV.up{M M':Int→Int}(h:∀c,M c≤M' c){f:ay}(m:nV M f):nV M' f:=⟨fun k=>uJ (m.k1 k) (h _),fun k=>uJ (m.k4 k) (h _)⟩
theorem dt.up{M M':Int→Int}(h:∀c,M c≤M' c){R:av}(m:dt M R):dt M' R:=⟨fun c hc g hg=>uJ (m.q c hc g hg) (h _),m.l,fun x hx=>uJ (m.e x hx) (h _)⟩
section
variable {M:Int→Int} {R:av}
theorem dt.same(h:dt M R){Q:av}(h1:jc (fun f=>f.seq≤M f.aF) Q.aI.aL)(h2:Q.log=R.log):dt M Q:=⟨h1,by rw[h2];exact h.l,by rw[h2];exact h.e⟩
theorem dt.finish(h:dt M R):dt M R.bL:=by unfold av.bL;split<;>exact h.same h.q rfl
theorem dt.qS(h:dt M R):dt M R.fx:=by unfold av.fx;split<;>exact h.same h.q rfl
theorem dt.push(h:dt M R){x:bd}(hx:x.seq≤M x.aF)(he:gP R.log x=0):dt M (dY R x):=⟨h.q,h.l.snoc he,fun y hy=>by
 have hy:y∈R.log ++ [x]:=hy
 rcases ez.1 hy with hy | hy
 ·exact h.e y hy
 ·rw[eA.1 hy];exact hx⟩
theorem dt.enter(h:dt M R)(c:aW):dt M (iI R c).1:=by
 have h4:dt M (cI R c):=⟨E7 h.q _,by
  show lu (if fD R c then [] else R.log)
  split
  ·exact lu.nil
  ·exact h.l,by
  show ∀x∈(if fD R c then [] else R.log),_
  split
  ·intro x hx;cases hx
  ·exact h.e⟩
 have h5:dt M (cH R c):=by
  unfold Rep.cH
  split
  ·exact h4.same h4.q rfl
  ·exact h4
 exact h5.finish
theorem T3(h:dt M R){f:ay}(hf:f.seq≤M f.aF)(now:Int):jc (fun f=>f.seq≤M f.aF) (d_ R f now).2.2.aL:=by
 rcases FI R f now with e | e
 ·rw[e];exact h.q
 ·rw[e];exact V3 h.q hf now
theorem dt.take(h:dt M R)(from_:Int){f:ay}(hM:nV M f)(ms:List aR)(now:Int):dt M (ct R from_ f ms now).1:=by
 unfold ct
 split
 ·rename_i k1
  split
  ·exact h
  split
  ·exact h
  split
  ·unfold kV
   split
   ·exact h
   ·exact h.same h.q rfl
  ·have hj:=T3 h (hM.k1 k1) now
   unfold lf
   split
   ·exact h.same hj rfl
   split
   ·exact h.same hj rfl
   split
   ·refine h.same ?_ rfl
    show jc _ (((d_ R f now).2.2.cU _ _ _).2).aL
    rw[BQ];exact hj
   ·exact h.same hj rfl
 split
 ·split
  ·exact h.enter _
  ·exact h
 split
 ·rename_i k4
  split
  ·unfold jk
   split
   ·rename_i hh
    exact(h.push (hM.k4 k4) hh.2).finish.qS
   ·exact h
  ·exact h
 split
 ·split
  ·have h2:dt M (eN R f):=by
    unfold Rep.eN Rep.gq
    dsimp only
    split<;>exact h.same h.q rfl
   exact h2.same h2.q rfl
  ·exact h
 split
 ·split
  ·have h2:dt M (jP R f.index):=h.same h.q rfl
   exact h2.qS
  ·exact h
 split
 ·split
  ·exact h.same h.q rfl
  ·exact h
 ·exact h
theorem dt.serve(h:dt M R)(now:Int):dt M (ey R now).1:=by
 have h1:dt M (j_ R now):=h.same (L6 h.q now) rfl
 unfold ey
 split
 ·exact h1
 rename_i hok
 split
 ·refine h.same ?_ rfl
  show jc _ (((R.aI.cq now).cU _ _ _).2).aL
  rw[BQ];exact L6 h.q now
 ·rename_i he
  have hf:(db R now).seq≤M (db R now).aF:=(Mw (E7 h.q now)).1 (by unfold rq at hok;simpa using hok)
  have h2:dt M (dY (j_ R now) (eG R now)):=h1.push hf (by show gP R.log (eG R now)=0;omega)
  exact h2.finish
theorem dt.loop(now:Int):∀(k:Nat) {R:av},dt M R→dt M (gz now k R).1
 | 0,R,h=>h
 | k+1,R,h=>by
  unfold gz
  split
  ·split
   ·exact dt.loop now k (h.serve now)
   ·exact h.serve now
  ·exact h
theorem dt.step(h:dt M R)(now:Int):dt M (dx R now).1:=by
 have h1:dt M (h_ R now):=h.same h.q rfl
 have h2:dt M (step2 R now).1:=by
  unfold Rep.step2
  split
  ·exact h1.loop now 65
  ·exact h1
 show dt M (dS R now).1
 unfold Rep.dS
 split
 ·exact h2.same h2.q rfl
 ·exact h2
theorem dt.tick(h:dt M R):dt M (gY R).1:=by
 show dt M (eK R)
 unfold eK
 split<;>exact h.same h.q rfl
end
end Cl
namespace Cl
open Go Vg T Api Ch Rep Conf Lg Rd Win Kv Adm Sched
def bn(M:Int→Int)(S:List bQ):Prop:=∀s∈S,nV M s.2
section
variable {M:Int→Int}
theorem bn.nil:bn M []:=fun s hs=>by cases hs
theorem bn.app{S T:List bQ}(h:bn M S)(k:bn M T):bn M (S++T):=fun s hs=>by
 rcases ez.1 hs with hs | hs
 ·exact h s hs
 ·exact k s hs
theorem bn.one{to:Int}{f:ay}(k:Int)(hk:f.kind=k)(h:k≠1∧k≠4):bn M [(to,f)]:=fun s hs=>by rw[eA.1 hs];exact ub k hk h
theorem bn.refs(e:Int)(l:List ay)(r:Int):bn M (refs e l r):=fun s hs=>by
 unfold Rep.refs at hs
 obtain⟨f,_,rfl⟩:=bP.1 hs
 exact ub 3 Z yo
theorem bn.finish(R:av):bn M R.ir:=by
 unfold av.ir
 split
 ·intro s hs
  unfold nE at hs
  obtain⟨j,_,rfl⟩:=bP.1 hs
  exact ub 2 Z yo
 ·exact bn.nil
theorem bn.qg(R:av):bn M R.eZ:=by
 unfold av.eZ
 split
 ·exact bn.nil
 ·exact bn.one 5 Z yo
theorem bn.base(R:av):bn M R.gC:=by
 unfold av.gC
 split
 ·exact bn.one 6 Z yo
 ·exact bn.nil
theorem bn.qi(R:av):bn M R.ky:=bn.one 11 rfl yo
theorem bn.qS(R:av):bn M R.jQ:=by
 unfold av.jQ
 split
 ·exact bn.base _
 ·exact bn.nil
theorem bn.take(R:av)(from_:Int)(f:ay)(ms:List aR)(now:Int):bn M (ct R from_ f ms now).2:=by
 unfold ct
 split
 ·split
  ·exact bn.nil
  split
  ·exact bn.nil
  split
  ·unfold kV
   split
   ·exact bn.one 3 Z yo
   ·exact bn.one 9 Z yo
  ·unfold lf
   split
   ·exact bn.one 2 Z yo
   split
   ·exact bn.nil
   split
   ·exact bn.one 3 Z yo
   ·exact bn.one 3 Z yo
 split
 ·split
  ·exact(((((bn.refs _ _ _).app (bn.refs _ _ _)).app (bn.finish _)).app (bn.qg _)).app (bn.base _)).app (bn.qi _)
  ·exact bn.nil
 split
 ·split
  ·unfold jk
   split
   ·exact((bn.finish _).app (bn.qS _)).app (bn.qg _)
   ·exact bn.qg _
  ·exact bn.nil
 split
 ·split
  ·unfold gU
   dsimp only
   split
   ·exact bn.qg _
   ·exact bn.nil
  ·exact bn.nil
 split
 ·split
  ·exact bn.qS _
  ·exact bn.nil
 split
 ·split
  ·intro s hs
   have hs:s∈(R.aK.l.filter fun y=>!k_ f.index y).map fun y=>(32+y.f.aF,nF y.f.aF y.f.seq y.f.br y.r):=hs
   obtain⟨y,_,rfl⟩:=bP.1 hs
   exact ub 2 Z yo
  ·exact bn.nil
 ·exact bn.nil
theorem bn.serve(R:av)(now:Int):bn M (ey R now).2.1:=by
 unfold ey
 split
 ·exact bn.refs _ _ _
 split
 ·exact(bn.refs _ _ _).app (bn.one 3 Z yo)
 ·exact(bn.refs _ _ _).app (bn.finish _)
theorem bn.loop(now:Int):∀(k:Nat) (R:av),bn M (gz now k R).2
 | 0,R=>bn.nil
 | k+1,R=>by
  unfold gz
  split
  ·split
   ·exact(bn.serve R now).app (bn.loop now k _)
   ·exact bn.serve R now
  ·exact bn.nil
theorem bn.pass{R:av}(h:dt M R)(h0:∀c,0≤M c):∀k,bn M (cE R k).2
 | 0=>bn.nil
 | k+1=>by
  refine bn.app (bn.pass h h0 k) fun s hs=>?_
  rw[eA.1 hs]
  refine⟨fun e=>(by cases e),fun _=>?_⟩
  show((dJ R.log ((cE R k).1.bO+1)).getD gv).seq≤M ((dJ R.log ((cE R k).1.bO+1)).getD gv).aF
  cases hx:dJ R.log ((cE R k).1.bO+1) with
  | none=>exact h0 _
  | some x=>
   refine h.e x ?_
   unfold dJ at hx
   split at hx
   ·exact ME hx
   ·cases hx
theorem bn.step{R:av}(h:dt M R)(h0:∀c,0≤M c)(now:Int):bn M (dx R now).2:=by
 have h1:dt M (h_ R now):=h.same h.q rfl
 have h2:dt M (step2 R now).1∧bn M (step2 R now).2:=by
  unfold Rep.step2
  split
  ·exact⟨h1.loop now 65,bn.loop now 65 _⟩
  ·exact⟨h1,bn.nil⟩
 have h3:bn M (dS R now).2:=by
  unfold Rep.dS
  split
  ·exact bn.pass h2.1 h0 _
  ·exact bn.nil
 exact((bn.refs _ _ _).app h2.2).app h3
theorem bn.tick(R:av):bn M (gY R).2:=by
 refine((((bn.qi R).app (bn.qg R)).app (bn.base R)).app ?_).app ?_
 ·split
  ·exact bn.one 9 Z yo
  ·exact bn.nil
 ·split
  ·exact bn.one 12 Z yo
  ·exact bn.nil
end
def QH(y:aN)(S:List cz):Prop:=∀s∈S,s.2.1.kind=7∨(s.2.1.kind=1∧s.2.1.aF=y.id∧s.2.1.seq=y.seq)
structure nR(d:Int)(s:aN)(Q:aN×List cz):Prop where
 id:Q.1.id=s.id
 s0:s.seq≤Q.1.seq
 s1:Q.1.seq≤s.seq+d
 snd:QH Q.1 Q.2
namespace nR
theorem nil{s y:aN}(h1:y.id=s.id)(h2:y.seq=s.seq):nR 0 s (y,[]):=⟨h1,by show s.seq≤y.seq;omega,by show y.seq≤s.seq+0;omega,fun x hx=>by cases hx⟩
theorem ask{s y:aN}(h1:y.id=s.id)(h2:y.seq=s.seq):nR 0 s (y,qQ):=⟨h1,by show s.seq≤y.seq;omega,by show y.seq≤s.seq+0;omega,fun x hx=>.inl (by rw[eA.1 hx])⟩
theorem fR{s0 s:aN}(h1:s.id=s0.id)(h2:s.seq=s0.seq)(r now:Int):nR 0 s0 (s.fR r now):=by
 unfold aN.fR
 split
 ·exact ask h1 h2
 split
 ·exact nil h1 h2
 ·exact ask h1 h2
theorem br{s0 s:aN}(h1:s.id=s0.id)(h2:s.seq=s0.seq)(now:Int):nR 0 s0 (s.br now):=⟨h1,by show s0.seq≤s.seq;omega,by show s.seq≤s0.seq+0;omega,fun x hx=>.inr (by rw[eA.1 hx];exact⟨rfl,rfl,rfl⟩)⟩
theorem take(s:aN)(f:ay)(ms:List aR)(now:Int):nR 0 s (s.take f ms now):=by
 unfold aN.take
 split
 ·split
  ·exact nil Z rfl
  split
  ·exact br (s0:=s) (s:={ s with ch:=⟨f.dV,ms,f.drain⟩ }) Z Z _
  ·exact nil Z rfl
 split
 ·split
  ·exact nil Z rfl
  ·exact nil Z rfl
 split
 ·split
  ·unfold aN.refused
   split
   ·exact fR (s0:=s) (s:={ s with unsure:=true }) Z Z _ _
   split
   ·exact ask Z rfl
   ·exact fR (s0:=s) (s:=s) Z Z _ _
  ·exact nil Z rfl
 ·exact nil Z rfl
theorem tick(s:aN)(now:Int):nR 0 s (s.tick now):=by
 unfold aN.tick
 split
 ·split
  ·exact fR (s0:=s) (s:={ s with unsure:=true }) Z Z _ _
  ·exact nil Z rfl
 split
 ·split
  ·exact nil Z rfl
  split
  ·exact ask Z rfl
  ·exact ask Z rfl
 split
 ·split
  ·exact ask Z rfl
  ·exact nil Z rfl
 ·exact nil Z rfl
theorem call(s:aN)(o:bB)(cl d now:Int):nR 1 s (s.call o cl d now):=by
 unfold aN.call
 split
 ·exact⟨rfl,cd _,by show s.seq≤s.seq+1;omega,fun x hx=>by cases hx⟩
 split
 ·have:=br (s0:=s.begun o cl d) (s:=s.begun o cl d) rfl rfl (bA now)
  exact⟨this.id,by have:=this.s0;have e:(s.begun o cl d).seq=s.seq+1:=rfl;omega,by have:=this.s1;have e:(s.begun o cl d).seq=s.seq+1:=rfl;omega,this.snd⟩
 ·exact⟨rfl,by show s.seq≤s.seq+1;omega,cd _,fun x hx=>.inl (by rw[eA.1 hx])⟩
end nR
end Cl
namespace Cl
open Go Vg T Api Ch Rep Conf Lg Rd Win Kv Adm Sched
def gS(l:List aN)(c:Int):Int:=if c<0 then 0 else match l[c.toNat]? with
 | some x=>max x.seq 0
 | none=>0
def nI(C:al):Int→Int:=gS C.bg
def Dj(l:List aN):Int:=gS l 0+gS l 1+gS l 2+gS l 3+gS l 4+gS l 5
theorem XY(l:List aN)(c:Int):0≤gS l c:=by
 unfold gS
 split
 ·exact cd _
 split
 ·omega
 ·exact cd _
theorem XZ(l:List aN)(n:Nat)(y:aN)(h:n<l.length)(c:Int):gS (l.set n y) c=if c=n then max y.seq 0 else gS l c:=by
 unfold gS
 by_cases hc:c=n
 ·rw[if_pos hc,if_neg yd,hc,dZ,iM h]
 ·rw[if_neg hc]
  by_cases h0:c<0
  ·rw[if_pos h0,if_pos h0]
  ·rw[if_neg h0,if_neg h0,kG yd]
def yP(M:Int→Int)(t:ByteArray):Prop:=∀(f:ay) (ms:List aR),getM (sB t)=some (f,ms)→nV M f
def jM(M:Int→Int)(S:aT):Prop:=∀x∈S.aX,∀t∈x.2,yP M t
theorem nV.back{M:Int→Int}{f:ay}{ms:List aR}(m:nV M f){f':ay}{ms':List aR}(b:Em f ms f' ms'):nV M f':=by
 refine⟨fun k=>?_,fun k=>?_⟩
 ·rw[b.kind] at k
  obtain⟨h1,h2⟩:=b.k1 k
  rw[h1,h2];exact m.k1 k
 ·rw[b.kind] at k
  obtain⟨_,h2⟩:=b.k4 k
  rw[h2];exact m.k4 k
namespace jM
variable {M:Int→Int} {S:aT}
theorem up{M':Int→Int}(l:∀c,M c≤M' c)(h:jM M S):jM M' S:=fun x hx t ht f ms hf=>(h x hx t ht f ms hf).up l
theorem list(h:jM M S){p:bj}:∀t∈S.list p,yP M t:=fun t ht=>by
 unfold aT.list at ht
 cases hg:bF S.aX p with
 | none=>rw[hg] at ht;cases ht
 | some l=>rw[hg] at ht;exact h _ (u7 hg) t ht
theorem put(h:jM M S){p:bj}{l:List ByteArray}(hl:∀t∈l,yP M t):jM M { S with aX:=bV S.aX p l }:=fun x hx=>by
 rcases w7 hx with h3 | h3
 ·exact h x h3
 ·rw[h3];exact hl
theorem send(h:jM M S){p:bj}{t:ByteArray}(ht:yP M t):jM M (S.send p t):=by
 unfold aT.send
 split
 ·exact h
 ·refine h.put fun u hu=>?_
  rcases ez.1 hu with hu | hu
  ·exact h.list u hu
  ·rw[eA.1 hu];exact ht
theorem found(h:jM M S){p:bj}{i:Int}{t:ByteArray}(hf:S.find p i=some t):yP M t:=by
 unfold aT.find at hf
 split at hf
 ·cases hf
 ·exact h.list t (ME hf)
theorem dy(h:jM M S)(p:bj)(i:Int):jM M (S.dy p i):=by
 have h':jM M { S with aX:=bV S.aX p ((S.list p).eraseIdx i.toNat) }:=h.put fun u hu=>h.list u (List.mem_of_mem_eraseIdx hu)
 unfold aT.dy
 split
 ·exact fun x hx=>h' x (Cn hx)
 ·exact h'
theorem drop(h:jM M S)(p:bj)(i:Int):jM M (S.drop p i).1:=by
 unfold aT.drop
 split
 ·exact h
 ·exact h.dy p i
theorem double(h:jM M S)(p:bj)(i:Int):jM M (S.double p i).1:=by
 unfold aT.double
 cases hf:S.find p i with
 | none=>exact h
 | some t=>exact h.send (h.found hf)
theorem bD(h:jM M S){from_:Int}{l:List cz}(hl:∀s∈l,nV M s.2.1):jM M (Cl.bD from_ S l):=by
 unfold Cl.bD
 induction l generalizing S with
 | nil=>exact h
 | cons s l ih=>
  refine ih ?_ fun x hx=>hl x (i_ _ hx)
  unfold ic
  split
  ·exact h
  ·rename_i t ht
   exact P3
end jM
theorem Ac{M:Int→Int}{S:List cz}(h:∀s∈S,s.2.1.kind=8∨s.2.1.kind=10):∀s∈S,nV M s.2.1:=fun s hs=>by
 rcases h s hs with k | k
 ·exact ub 8 k yo
 ·exact ub 10 k yo
theorem yX(M:aE):∀s∈M.all,s.2.1.kind=8∨s.2.1.kind=10:=fun s hs=>by
 obtain⟨n,_,rfl⟩:=bP.1 hs
 exact .inl rfl
theorem Vl(M:aE)(from_:Int)(f:ay)(now:Int):∀s∈(M.take from_ f now).2,s.2.1.kind=8∨s.2.1.kind=10:=by
 have one:∀(M:aE) (to:Int),∀s∈[gu M.ch to],s.2.1.kind=8∨s.2.1.kind=10:=fun M to s hs=>by rw[eA.1 hs];exact .inl rfl
 have non:∀s∈([]:List cz),s.2.1.kind=8∨s.2.1.kind=10:=fun s hs=>by cases hs
 unfold aE.take
 split
 ·exact one _ _
 split
 ·exact non
 split
 ·split
  ·exact one M _
  split<;>exact non
 split
 ·split
  ·exact one _ _
  split
  ·intro s hs;rw[eA.1 hs];exact .inr rfl
  ·exact non
 split
 ·split
  ·exact yX _
  ·exact non
 ·exact non
structure cX(k:Int)(C:al):Prop where
 ids:∀(i:Nat) (s:aN),C.bg[i]?=some s→s.id=i
 jB:∀r,some r∈C.nodes→dt (nI C) r
 aX:jM (nI C) C.aB
 cu:Dj C.bg≤k
namespace cX
variable {k:Int} {C:al}
theorem M0(C:al)(c:Int):0≤nI C c:=XY _ _
theorem any(h:cX k C){D:al}(h1:D.bg=C.bg)(h2:D.aB=C.aB)(h3:D.nodes=C.nodes):cX k D:=⟨by rw[h1];exact h.ids,by unfold nI;rw[h1,h3];exact h.jB,by unfold nI;rw[h1,h2];exact h.aX,by rw[h1];exact h.cu⟩
theorem mono(h:cX k C){j:Int}(hj:k≤j):cX j C:=⟨h.ids,h.jB,h.aX,uJ h.cu hj⟩
theorem nq(h:cX k C){l:aT}(h2:jM (nI C) l):cX k { C with aB:=l }:=⟨h.ids,h.jB,h2,h.cu⟩
theorem post(h:cX k C)(n:Int){S:List cz}(hS:∀s∈S,nV (nI C) s.2.1):cX k (C.post n S):=h.nq (h.aX.bD hS)
theorem node(h:cX k C)(n:Int){Q:av}{S:List bQ}(hq:dt (nI C) Q)(hS:bn (nI C) S):cX k ((C.setNode n (some Q)).post n (ek S)):=by
 have h1:cX k (C.setNode n (some Q)):=⟨h.ids,fun r hr=>by
  rcases lP hr with h1 | h1
  ·exact h.jB r h1
  ·cases h1;exact hq,h.aX,h.cu⟩
 refine h1.post n fun s hs=>?_
 unfold ek at hs
 obtain⟨x,hx,rfl⟩:=bP.1 hs
 exact hS x hx
theorem du(h:cX k C){n:Int}{s:aN}(hs:C.du n=some s){d:Int}(hd:0≤d){Q:aN×List cz}(t:nR d s Q){his:bE}:cX (k+d) (({ C.gR n Q.1 with his:=his }:al).post (32+n) Q.2):=by
 unfold al.du at hs
 split at hs
 ·cases hs
 rename_i hn
 have hlen:=(bY.1 hs).1
 have hset:=fun c=>XZ C.bg n.toNat Q.1 hlen c
 have hcur:gS C.bg n=max s.seq 0:=by unfold gS;rw[if_neg hn,hs]
 have s0:=t.s0
 have s1:=t.s1
 have hM:∀c,nI C c≤gS (C.bg.set n.toNat Q.1) c:=fun c=>by
  rw[hset]
  split
  ·rename_i e
   show gS C.bg c≤_
   rw[e,Int.toNat_of_nonneg yd,hcur]
   omega
  ·exact cd _
 have hid:=h.ids _ s hs
 have h1:cX (k+d) ({ C.gR n Q.1 with his:=his }:al):=by
  refine⟨fun i y hy=>?_,fun r hr=>(h.jB r hr).up hM,h.aX.up hM,?_⟩
  ·have hy:(C.bg.set n.toNat Q.1)[i]?=some y:=hy
   by_cases e:n.toNat=i
   ·rw[←e,iM hlen] at hy
    cases hy
    rw[t.id,←e];exact hid
   ·rw[kG e] at hy
    exact h.ids i y hy
  ·have ht:=h.cu
   unfold Dj at ht ⊢
   have hstep:∀c:Int,gS (C.bg.set n.toNat Q.1) c≤gS C.bg c+(if c=n then d else 0):=fun c=>by
    rw[hset]
    by_cases e:c=(n.toNat:Int)
    ·rw[if_pos e,if_pos yd,e,Int.toNat_of_nonneg yd,hcur]
     omega
    ·rw[if_neg e,if_neg yd];omega
   have a0:=hstep 0
   have a1:=hstep 1
   have a2:=hstep 2
   have a3:=hstep 3
   have a4:=hstep 4
   have a5:=hstep 5
   show gS (C.bg.set n.toNat Q.1) 0+gS (C.bg.set n.toNat Q.1) 1+gS (C.bg.set n.toNat Q.1) 2+gS (C.bg.set n.toNat Q.1) 3+gS (C.bg.set n.toNat Q.1) 4+gS (C.bg.set n.toNat Q.1) 5≤k+d
   by_cases e0:n=0
   ·rw[if_pos e0.symm] at a0
    rw[if_neg yd] at a1 a2 a3 a4 a5
    omega
   by_cases e1:n=1
   ·rw[if_pos e1.symm] at a1
    rw[if_neg yd] at a0 a2 a3 a4 a5
    omega
   by_cases e2:n=2
   ·rw[if_pos e2.symm] at a2
    rw[if_neg yd] at a0 a1 a3 a4 a5
    omega
   by_cases e3:n=3
   ·rw[if_pos e3.symm] at a3
    rw[if_neg yd] at a0 a1 a2 a4 a5
    omega
   by_cases e4:n=4
   ·rw[if_pos e4.symm] at a4
    rw[if_neg yd] at a0 a1 a2 a3 a5
    omega
   by_cases e5:n=5
   ·rw[if_pos e5.symm] at a5
    rw[if_neg yd] at a0 a1 a2 a3 a4
    omega
   rw[if_neg yd] at a0 a1 a2 a3 a4 a5
   omega
 refine h1.post _ fun x hx=>?_
 rcases t.snd x hx with q | ⟨q1,q2,q3⟩
 ·exact ub 7 q yo
 ·refine⟨fun _=>?_,fun e=>by rw[q1] at e;cases e⟩
  rw[q2,q3,t.id,hid]
  show Q.1.seq≤gS (C.bg.set n.toNat Q.1) (n.toNat:Int)
  rw[hset,if_pos rfl]
  omega
end cX
end Cl
namespace Cl
open Go Vg T Api Ch Rep Conf Lg Rd Win Kv Adm Sched
namespace cX
variable {k:Int} {C:al}
theorem F7(h:cX k C){n:Int}{r:av}(hn:C.node n=some r):dt (nI C) r:=by
 unfold al.node at hn
 split at hn
 ·cases hn
 ·cases hx:C.nodes[n.toNat]? with
  | none=>rw[hx] at hn;cases hn
  | some x=>
   rw[hx] at hn
   obtain rfl:x=some r:=hn
   exact h.jB r (ME hx)
theorem JI(h:cX k C){n:Int}{s:aN}(hs:C.du n=some s){Q:aN×List cz}(t:nR 0 s Q):cX k ((C.gR n Q.1).post (32+n) Q.2):=by
 have:=h.du hs (cd 0) t (his:=C.his)
 rw[uI] at this
 exact this
theorem bA(h:cX k C)(n:Nat):cX k (C.bA n):=by
 unfold al.bA
 split
 ·exact h
 ·rename_i r hr
  have hm:some r∈C.nodes:=by
   cases hx:C.nodes[n]? with
   | none=>rw[hx] at hr;cases hr
   | some x=>rw[hx] at hr;obtain rfl:x=some r:=hr;exact ME hx
  exact h.node n (h.jB r hm).tick (bn.tick r)
theorem eV(h:cX k C)(n:Nat):cX k (C.eV n):=by
 unfold al.eV
 split
 ·exact h
 ·rename_i s hs
  have hc:C.du (n:Int)=some s:=by unfold al.du;rw[if_neg yd,dZ];exact hs
  exact h.JI hc (nR.tick s C.now)
theorem xD(h:cX k C)(l:List Nat):cX k (l.foldl al.bA C):=by
 induction l generalizing C with
 | nil=>exact h
 | cons x l ih=>exact ih (h.bA x)
theorem xC(h:cX k C)(l:List Nat):cX k (l.foldl al.eV C):=by
 induction l generalizing C with
 | nil=>exact h
 | cons x l ih=>exact ih (h.eV x)
theorem tick(h:cX k C):cX k C.tick:=
 ((h.any rfl rfl rfl:cX k ({ C with now:=min (C.now+1) 1099511627776 }:al)).xD _).xC _
theorem fJ(h:cX k C)(from_ to:Int){f:ay}(hM:nV (nI C) f)(ms:List aR):cX k (C.fJ from_ to f ms):=by
 unfold al.fJ
 split
 ·exact(h.any Z Z Z:cX k ({ C with au:=(C.au.take from_ f C.now).1 }:al)).post _ (Ac (Vl _ _ _ _))
 split
 ·rename_i r hr
  exact h.node _ ((h.F7 hr).take _ hM _ _) (bn.take _ _ _ _ _)
 split
 ·rename_i s hs
  have:=h.JI hs (nR.take s f ms C.now)
  rwa[show(32:Int)+(to-32)=to by omega] at this
 ·exact h
theorem fj(h:cX k C)(p:bj)(i:Int):cX k (C.fj p i).1:=by
 unfold al.fj
 split
 ·exact h
 ·rename_i t ht
  have h1:=h.nq (h.aX.dy p i)
  show cX k (al.iu _ _ _ _)
  unfold al.iu
  split
  ·rename_i f ms hf
   exact h1.fJ _ _ (h.aX.found ht f ms hf) _
  ·exact h1
theorem back(h:cX k C)(n:Int):cX k (C.back n):=by
 unfold al.back
 split
 ·have hq:dt (nI C) (Rep.cj C.cP n true):=by
   refine⟨fun c hc g hg=>?_,lu.nil,fun x hx=>by cases hx⟩
   have hc:c∈C.cP.qs.map ni:=hc
   obtain⟨q,_,rfl⟩:=bP.1 hc
   cases hg
  exact h.node n (hq.take 16 (ub 8 Z yo) _ _) (bn.take _ _ _ _ _)
 ·exact h
theorem join(h:cX k C)(n:Int):cX k (C.join n).1:=by
 unfold al.join
 dsimp only
 split
 ·exact h
 ·refine((h.any Z Z Z:cX k ({ C with au:=(C.au.join n C.now).1 }:al)).back n).post _ (Ac ?_)
  unfold aE.join
  split
  ·intro s hs;cases hs
  split
  ·intro s hs;cases hs
  ·exact yX _
theorem call(h:cX k C)(s:cB):cX (k+1) (C.call s).1:=by
 unfold al.call
 split
 ·exact h.mono yd
 rename_i x hx
 split
 ·exact h.mono yd
 ·exact h.du hx yd (nR.call x s.op s.b (C.dead s.c) C.now)
theorem step(h:cX k C)(s:cB):cX (k+(if s.kind=1 then 1 else 0)) (C.step s).1:=by
 by_cases k1:s.kind=1
 ·rw[vw C k1,if_pos k1];exact h.call s
 rw[if_neg k1,uI]
 by_cases k2:s.kind=2
 ·rw[vz C k2]
  cases hr:C.node s.a with
  | none=>exact h
  | some r=>exact h.node _ ((h.F7 hr).step C.now) (bn.step (h.F7 hr) (M0 C) C.now)
 by_cases k3:s.kind=3
 ·rw[vA C k3];exact h.tick
 by_cases k4:s.kind=4
 ·rw[ur C k4];exact h.fj _ _
 by_cases k5:s.kind=5
 ·rw[vB C k5];exact h.nq (h.aX.drop _ _)
 by_cases k6:s.kind=6
 ·rw[vC C k6];exact h.nq (h.aX.double _ _)
 by_cases k7:s.kind=7
 ·rw[vD C k7]
  split
  ·exact h
  ·refine⟨h.ids,fun r hr=>?_,h.aX,h.cu⟩
   rcases lP hr with h1 | h1
   ·exact h.jB r h1
   ·cases h1
 by_cases k8:s.kind=8
 ·rw[vE C k8]
  refine(h.any Z Z Z:cX k ({ C with au:=(C.au.eQ s.a).1 }:al)).post _ (Ac ?_)
  unfold aE.eQ
  split
  ·intro s hs;cases hs
  split
  ·intro s hs;cases hs
  ·exact yX _
 by_cases k9:s.kind=9
 ·rw[vF C k9];exact h.join s.a
 by_cases k10:s.kind=10
 ·rw[vx C k10]
  refine(h.any Z Z Z:cX k ({ C with au:=(C.au.drain s.a).1 }:al)).post _ (Ac ?_)
  unfold aE.drain
  split
  ·intro s hs;cases hs
  split
  ·intro s hs;cases hs
  ·exact yX _
 by_cases iS:s.kind=11
 ·rw[vy C iS]
  refine(h.any Z Z Z:cX k ({ C with au:=(C.au.tick C.now).1 }:al)).post _ (Ac ?_)
  unfold aE.tick
  dsimp only
  split
  ·exact yX _
  ·intro s hs;cases hs
 ·rw[vG C fun j h1 h2=>by
   rcases(by omega:j=1∨j=2∨j=3∨j=4∨j=5∨j=6∨j=7∨j=8∨j=9∨j=10∨j=11) with rfl | rfl | rfl | rfl | rfl | rfl | rfl | rfl | rfl | rfl | rfl<;>assumption]
  exact h
theorem bf(h:cX k C)(s:cB):cX (k+(if s.kind=1 then 1 else 0)) (C.bf s).1:=(h.step s).any rfl rfl rfl
theorem new(F:bh):cX 0 (mO F):=by
 have hz:∀c,nI (mO F) c=0:=fun c=>by
  show gS ((List.range F.bC.toNat).map fun(n:Nat)=>mh F n) c=0
  unfold gS
  split
  ·rfl
  split
  ·rename_i x hx
   rw[eh] at hx
   obtain⟨n,_,rfl⟩:=Option.map_eq_some_iff.1 hx
   rfl
  ·rfl
 refine⟨fun i s hs=>?_,fun r hr=>?_,fun x hx=>absurd hx oE,?_⟩
 ·have hs:((List.range F.bC.toNat).map fun(n:Nat)=>mh F n)[i]?=some s:=hs
  rw[eh] at hs
  obtain⟨n,hn,rfl⟩:=Option.map_eq_some_iff.1 hs
  obtain⟨h1,h2⟩:=bY.1 hn
  rw[List.getElem_range] at h2
  rw[←h2];rfl
 ·obtain⟨n,_,e⟩:=bP.1 hr
  cases e
  have hl:(Rep.cj F n false).log=[]∧(Rep.cj F n false).aI=ou F:=by
   unfold Rep.cj
   split
   ·exact⟨rfl,Z⟩
   split<;>exact⟨rfl,rfl⟩
  refine⟨fun c hc g hg=>?_,by rw[hl.1];exact lu.nil,fun x hx=>by rw[hl.1] at hx;cases hx⟩
  rw[hl.2] at hc
  have hc:c∈F.qs.map ni:=hc
  obtain⟨q,_,rfl⟩:=bP.1 hc
  cases hg
 ·have e:∀c,gS (mO F).bg c=0:=hz
  unfold Dj
  rw[e,e,e,e,e,e]
  decide
theorem UD(h:cX k C){r:av}(hr:some r∈C.nodes):(r.log.length:Int)≤k:=by
 have hq:=h.jB r hr
 have:=hq.l.len (M0 C) hq.e
 have ht:=h.cu
 unfold Dj at ht
 have e:∀c,nI C c=gS C.bg c:=fun _=>rfl
 rw[e,e,e,e,e,e] at this
 omega
end cX
end Cl
end Go.Proofs.YtkgfhabealjjpaaGreat
