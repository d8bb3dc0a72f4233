/- Texts of the proof, put together and shortened. No condition. -/
import Derived.Test.YtbmakdofbejlnaaGreatDoorZj4
set_option maxRecDepth 100000
set_option maxHeartbeats 16000000
set_option linter.unusedVariables false
set_option linter.unusedSectionVars false
set_option linter.unusedSimpArgs false
namespace Go.Proofs.YtbmakdofbejlnaaGreatDoor
variable (Fr : Nat → Prop) (w : World)
namespace Cl
open Go Vg T Api Ch Rep Conf Lg Rd
attribute [local irreducible] VO VC VA
theorem HV(R:az)(from_:Int)(f:aA)(ms:List bj)(now:Int):(db R from_ f ms now).1.aL.last≤R.aL.last+1:=by
 have h:∀Q:az,Q.aL.last=R.aL.last→Q.aL.last≤R.aL.last+1:=fun Q h=>by omega
 unfold db
 split
 ·split
  ·exact h _ rfl
  split
  ·exact h _ rfl
  split
  ·unfold ow
   split
   ·exact h _ rfl
   ·show(R.aL.put _ _).last≤_
    unfold ee.put;split
    ·exact fj _
    ·omega
  ·refine h _ ?_
   unfold oE
   split
   ·rfl
   split
   ·rfl
   split<;>rfl
 split
 ·split
  ·refine h _ ?_
   show(Rep.dR R (oc f ms)).dt.aL.last=_
   unfold az.dt
   split<;>(unfold Rep.dR;split<;>rfl)
  ·exact h _ rfl
 split
 ·split
  ·refine h _ ?_
   unfold mA
   split
   ·show(Rep.fv R f.entry).dt.iX.aL.last=_
    unfold az.iX
    split<;>(unfold az.dt;split<;>rfl)
   ·rfl
  ·exact h _ rfl
 split
 ·split
  ·refine h _ ?_
   show(Rep.jY R f).aL.last=_
   unfold Rep.jY Rep.fC;dsimp only;split<;>rfl
  ·exact h _ rfl
 split
 ·split
  ·refine h _ ?_;unfold az.iX;split<;>rfl
  ·exact h _ rfl
 split
 ·split<;>exact h _ rfl
 ·exact h _ rfl
theorem PU(R:az)(now:Int):(gY R now).1.aL.last=R.aL.last:=by
 have hs:∀R:az,(fi R now).1.aL=R.aL:=fun R=>by
  unfold fi
  split
  ·rfl
  split
  ·rfl
  ·unfold az.dt;split<;>rfl
 have hl:∀(k:Nat) (R:az),(jL now k R).1.aL=R.aL:=by
  intro k
  induction k with
  | zero=>intro R;rfl
  | succ k ih=>
   intro R
   unfold jL
   split
   ·split
    ·rw[ih,hs]
    ·exact hs R
   ·rfl
 have h2:(step2 R now).1.aL.last=R.aL.last:=by
  unfold Rep.step2
  split
  ·rw[hl];rfl
  ·rfl
 show(jM R now).1.aL.last=_
 unfold jM
 split
 ·exact h2
 ·exact h2
theorem PV(R:az):(jN R).1.aL.last=R.aL.last:=by
 show(d' R).aL.last=_
 unfold d';split<;>rfl
theorem CQ(s:aR)(r now:Int):(s.ja r now).1.seq=s.seq:=by
 unfold aR.ja aR.giveUp aR.zX aR.pF
 split
 ·rfl
 split<;>rfl
theorem N9(s:aR)(now:Int):(s.tick now).1.seq=s.seq:=by
 unfold aR.tick
 split
 ·split
  ·exact CQ _ _ _
  ·rfl
 split
 ·split
  ·rfl
  split<;>rfl
 split
 ·split<;>rfl
 ·rfl
theorem N7(s:aR)(f:aA)(ms:List bj)(now:Int):(s.take f ms now).1.seq=s.seq:=by
 unfold aR.take
 split
 ·split
  ·rfl
  split<;>rfl
 split
 ·split<;>rfl
 split
 ·split
  ·unfold aR.refused
   split
   ·exact CQ _ _ _
   split
   ·rfl
   ·exact CQ _ _ _
  ·rfl
 ·rfl
theorem GJ(s:aR)(o:bp)(cl d now:Int):(s.call o cl d now).1.seq≤s.seq+1:=by
 unfold aR.call
 split
 ·show s.seq≤_;omega
 split<;>exact fj _
theorem Pn(S:bo)(c seq:Int)(o:bp):(S.call c seq o).bc.length≤S.bc.length+1∧(S.call c seq o).events≤S.events+1:=by
 unfold bo.call
 split
 ·exact⟨by omega,by omega⟩
 ·exact⟨by simp,fj _⟩
theorem HH(S:bo)(c seq:Int)(o:dY):(S.end_ c seq o).bc.length=S.bc.length∧(S.end_ c seq o).events≤S.events+1:=by
 unfold bo.end_
 split
 ·exact⟨rfl,by omega⟩
 split
 ·exact⟨rfl,by omega⟩
 split
 ·exact⟨rfl,by omega⟩
 ·exact⟨gk,fj _⟩
theorem wy{κ α:Type}[DecidableEq κ]{a:κ}{v:α}:∀{l:List (κ×α)},cD l a=some v→(a,v)∈l
 | [],h=>by cases h
 | (k,u)::r,h=>by
  simp only[cD] at h
  split at h
  ·rename_i e;cases h;rw[e];exact q4 ..
  ·exact lH _ (wy h)
theorem Il{κ α:Type}[DecidableEq κ]{a:κ}:∀{l:List (κ×α)} {x:κ×α},x∈ff l a→x∈l
 | [],x,h=>by cases h
 | (k,u)::r,x,h=>by
  simp only[ff] at h
  split at h
  ·exact lH _ h
  ·rcases gK.1 h with h | h
   ·rw[h];exact q4 ..
   ·exact lH _ (Il h)
namespace aX.jT
variable {S:aX}
theorem put(h:S.jT){p:bm}(h1:gm p.1=true)(h2:gm p.2=true)(l:List ByteArray):({ S with cE:=cQ S.cE p l }:aX).jT:=fun x hx=>by
 rcases Di hx with h3 | h3
 ·exact h x h3
 ·rw[h3];exact⟨h1,h2⟩
theorem send(h:S.jT)(p:bm)(t:ByteArray):(S.send p t).jT:=by
 unfold aX.send
 split
 ·exact h
 ·rename_i h0
  have h0:S.kq p t=0:=by simpa using h0
  have:¬(gm p.1=false∨gm p.2=false∨p.1=p.2):=fun g=>by unfold aX.kq at h0;rw[if_pos g] at h0;cases h0
  exact h.put (by cases hh:gm p.1<;>simp_all) (by cases hh:gm p.2<;>simp_all) _
theorem found(h:S.jT){p:bm}{i:Int}{t:ByteArray}(hf:S.find p i=some t):gm p.1=true∧gm p.2=true:=by
 unfold aX.find aX.list at hf
 split at hf
 ·cases hf
 ·cases hg:cD S.cE p with
  | none=>rw[hg] at hf;cases hf
  | some l=>exact h _ (wy hg)
theorem jO(h:S.jT){p:bm}{i:Int}{t:ByteArray}(hf:S.find p i=some t):(S.jO p i).jT:=by
 have:=h.found hf
 unfold aX.jO
 split
 ·exact fun x hx=>(h.put this.1 this.2 _) x (Il hx)
 ·exact h.put this.1 this.2 _
theorem drop(h:S.jT)(p:bm)(i:Int):(S.drop p i).1.jT:=by
 unfold aX.drop
 split
 ·exact h
 ·rename_i hf
  cases hg:S.find p i with
  | none=>exact absurd hg hf
  | some t=>exact h.jO hg
theorem double(h:S.jT)(p:bm)(i:Int):(S.double p i).1.jT:=by
 unfold aX.double
 split
 ·exact h
 ·exact h.send _ _
theorem cw(h:S.jT)(from_:Int)(l:List dX):(Cl.cw from_ S l).jT:=by
 unfold Cl.cw
 induction l generalizing S with
 | nil=>exact h
 | cons s l ih=>
  refine ih ?_
  unfold py
  split
  ·exact h
  ·exact h.send _ _
end aX.jT
theorem F8{a:Int}(h:gm a=true):0≤a∧a<38:=by
 unfold gm at h
 simp only[Bool.or_eq_true,dG,decide_eq_true_eq] at h
 omega
namespace ay.Ok
variable {C:ay} {b e:Nat}
theorem mono(h:C.Ok b e){b' e':Nat}(hb:b≤b')(he:e≤e'):C.Ok b' e' where
 cf:=h.cf
 n0:=h.n0
 n1:=h.n1
 aU:=h.aU
 nl:=h.nl
 cl:=h.cl
 aQ:=h.aQ
 bH:=h.bH
 fit:=h.fit
 last r hr:=by have:=h.last r hr;omega
 jA:=h.jA
 seq s hs:=by have:=h.seq s hs;omega
 rc:=p6 h.rc hb
 ev:=by have:=h.ev;omega
 dn:=h.dn
 lM:=h.lM
theorem wm(h:C.Ok b e){l:aX}(hl:l.Ok)(ha:l.jT):({ C with aQ:=l }:ay).Ok b e:=⟨h.cf,h.n0,h.n1,h.aU,h.nl,h.cl,hl,h.bH,h.fit,h.last,h.jA,h.seq,h.rc,h.ev,h.dn,ha⟩
theorem wC(h:C.Ok b e){m:aJ}(hm:m.Ok):({ C with aU:=m }:ay).Ok b e:=⟨h.cf,h.n0,h.n1,hm,h.nl,h.cl,h.aQ,h.bH,h.fit,h.last,h.jA,h.seq,h.rc,h.ev,h.dn,h.lM⟩
theorem at_(h:C.Ok b e):({ C with now:=min (C.now+1) 1099511627776 }:ay).Ok b e:=⟨h.cf,by show 0≤min (C.now+1) 1099511627776;have:=h.n0;omega,by show min (C.now+1) 1099511627776≤1099511627776;omega,h.aU,h.nl,h.cl,h.aQ,h.bH,h.fit,h.last,h.jA,h.seq,h.rc,h.ev,h.dn,h.lM⟩
theorem post(h:C.Ok b e)(from_:Int)(S:List dX):(C.post from_ S).Ok b e:=h.wm (h.aQ.cw from_ S) (h.lM.cw from_ S)
theorem setNode(h:C.Ok b e)(n:Int){x:Option az}(hx:∀r,x=some r→r.Fit∧r.aL.last≤b):(C.setNode n x).Ok b e:=⟨h.cf,h.n0,h.n1,h.aU,by show(C.nodes.set _ _).length=_;rw[gk];exact h.nl,h.cl,h.aQ,h.bH,fun r hr=>by
 rcases lI hr with h1 | h1
 ·exact h.fit r h1
 ·exact(hx r h1.symm).1,fun r hr=>by
 rcases lI hr with h1 | h1
 ·exact h.last r h1
 ·exact(hx r h1.symm).2,h.jA,h.seq,h.rc,h.ev,h.dn,h.lM⟩
theorem node1(h:C.Ok b e)(n:Int){r:az}(h1:r.Fit)(h2:r.aL.last≤b):(C.setNode n (some r)).Ok b e:=h.setNode n fun r' e=>by cases e;exact⟨h1,h2⟩
theorem Rh(h:C.Ok b e)(n:Int):(C.setNode n none).Ok b e:=h.setNode n fun r' e=>by cases e
theorem kr(h:C.Ok b e)(n:Int){s:aR}(h1:s.Ok)(h2:s.seq≤b):(C.kr n s).Ok b e:=⟨h.cf,h.n0,h.n1,h.aU,h.nl,by show(C.di.set _ _).length=_;rw[gk];exact h.cl,h.aQ,h.bH,h.fit,h.last,fun x hx=>by
 rcases lI hx with g | g
 ·exact h.jA x g
 ·rw[g];exact h1,fun x hx=>by
 rcases lI hx with g | g
 ·exact h.seq x g
 ·rw[g];exact h2,h.rc,h.ev,h.dn,h.lM⟩
theorem HJ(h:C.Ok b e){H:bo}(h1:H.Ok)(h2:H.bc.length≤b)(h3:H.events≤e):({ C with bH:=H }:ay).Ok b e:=⟨h.cf,h.n0,h.n1,h.aU,h.nl,h.cl,h.aQ,h1,h.fit,h.last,h.jA,h.seq,h2,h3,h.dn,h.lM⟩
theorem up(h:C.Ok b e){n:Int}{r:az}(hn:C.node n=some r):some r∈C.nodes:=by
 unfold ay.node at hn
 split at hn
 ·cases hn
 ·cases hx:C.nodes[n.toNat]? with
  | none=>rw[hx] at hn;cases hn
  | some x=>rw[hx] at hn;obtain rfl:x=some r:=hn;exact ME hx
theorem Kd(h:C.Ok b e){n:Int}{s:aR}(hn:C.dO n=some s):s∈C.di:=by
 unfold ay.dO at hn
 split at hn
 ·cases hn
 ·exact ME hn
theorem cV(h:C.Ok b e)(n:Nat):(C.cV n).Ok b e:=by
 unfold ay.cV
 split
 ·exact h
 ·rename_i r hr
  have hm:some r∈C.nodes:=by
   cases hx:C.nodes[n]? with
   | none=>rw[hx] at hr;cases hr
   | some x=>rw[hx] at hr;obtain rfl:x=some r:=hr;exact ME hx
  exact(h.node1 n (Xx (h.fit r hm)) (by rw[PV];exact h.last r hm)).post _ _
theorem mM(h:C.Ok b e)(n:Nat):(C.mM n).Ok b e:=by
 unfold ay.mM
 split
 ·exact h
 ·rename_i s hs
  have hm:s∈C.di:=ME hs
  exact(h.kr n ((h.jA s hm).tick C.now) (by rw[N9];exact h.seq s hm)).post _ _
theorem JZ(h:C.Ok b e)(l:List Nat):(l.foldl ay.cV C).Ok b e:=by
 induction l generalizing C with
 | nil=>exact h
 | cons x l ih=>exact ih (h.cV x)
theorem JY(h:C.Ok b e)(l:List Nat):(l.foldl ay.mM C).Ok b e:=by
 induction l generalizing C with
 | nil=>exact h
 | cons x l ih=>exact ih (h.mM x)
theorem tick(h:C.Ok b e):C.tick.Ok b e:=(h.at_.JZ _).JY _
theorem l8(h:C.Ok b e)(hb:b<100000000)(from_ toQ:Int)(f:aA)(ms:List bj):(C.l8 from_ toQ f ms).Ok (b+1) e:=by
 have h':=h.mono (b':=b+1) yd (NR e)
 unfold ay.l8
 split
 ·exact(h'.wC (h.aU.take _ _ _)).post _ _
 split
 ·rename_i r hr
  have hm:=h.up hr
  have hl:=h.last r hm
  exact(h'.node1 _ (JV (h.fit r hm) yd _ _ _ _) (by have:=HV r from_ f ms C.now;omega)).post _ _
 split
 ·rename_i s hs
  have hm:=h.Kd hs
  exact(h'.kr _ ((h.jA s hm).take f ms C.now) (by rw[N7];exact h'.seq s hm)).post _ _
 ·exact h'
theorem rK(h:C.Ok b e)(hb:b<100000000)(from_ toQ:Int)(t:ByteArray):(C.rK from_ toQ t).Ok (b+1) e:=by
 unfold ay.rK
 split
 ·exact h.l8 hb _ _ _ _
 ·exact h.mono yd (NR e)
theorem Hv{l:aX}{p:bm}{i:Int}{t:ByteArray}(h:l.find p i=some t):l.jO p i=(l.drop p i).1:=by
 unfold aX.drop
 rw[if_neg (by rw[h];intro g;cases g)]
theorem lg(h:C.Ok b e)(hb:b<100000000)(p:bm)(i:Int):(C.lg p i).1.Ok (b+1) e:=by
 unfold ay.lg
 split
 ·exact h.mono yd (NR e)
 ·rename_i t ht
  have:(C.aQ.jO p i).Ok:=by rw[Hv ht];exact h.aQ.drop p i
  exact(h.wm this (h.lM.jO ht)).rK hb _ _ _
theorem back(h:C.Ok b e)(hb:b<100000000)(n:Int):(C.back n).Ok (b+1) e:=by
 have h':=h.mono (b':=b+1) yd (NR e)
 unfold ay.back
 split
 ·have hf:=Ds h.cf n true
  have hl:(dz C.fq n true).aL.last=0:=by
   unfold dz;split
   ·rfl
   split<;>rfl
  exact(h'.node1 _ (JV hf yd _ _ _ _) (by have:=HV (dz C.fq n true) 16 (ke C.aU.ch) C.aU.ch.ms C.now;omega)).post _ _
 ·exact h'
theorem join(h:C.Ok b e)(hb:b<100000000)(n:Int):(C.join n).1.Ok (b+1) e:=by
 unfold ay.join
 dsimp only
 split
 ·exact h.mono yd (NR e)
 ·exact((h.wC (h.aU.HQ n C.now).2).back hb n).post _ _
theorem call(h:C.Ok b e)(hb:b<100000)(he:e<1000000)(s:eh):(C.call s).1.Ok (b+1) (e+1):=by
 have h':=h.mono (b':=b+1) (e':=e+1) yd yd
 unfold ay.call
 split
 ·exact h'
 ·rename_i x hx
  have hm:=h.Kd hx
  split
  ·exact h'
  ·have h1:=h.rc
   have h2:=h.ev
   have h3:=h.seq x hm
   have h4:=GJ x s.op s.b (C.dead s.c) C.now
   have h5:=Pn C.bH s.a (x.call s.op s.b (C.dead s.c) C.now).1.seq s.op
   exact((h'.kr s.a ((h.jA x hm).call _ _ _ _) yd).HJ (h.bH.call yd yd s.a (x.call s.op s.b (C.dead s.c) C.now).1.seq s.op) yd yd).post _ _
theorem step(h:C.Ok b e)(hb:b<100000)(he:e<1000000)(s:eh):(C.step s).1.Ok (b+1) (e+1):=by
 have h':=h.mono (b':=b+1) (e':=e+1) yd yd
 have up1:∀{D:ay},D.Ok (b+1) e→D.Ok (b+1) (e+1):=fun g=>g.mono (NR _) yd
 unfold ay.step
 by_cases k1:s.kind=1
 ·rw[if_pos k1]
  exact h.call hb he s
 rw[if_neg k1]
 by_cases k2:s.kind=2
 ·rw[if_pos k2]
  split
  ·exact h'
  ·rename_i r hr
   have hm:=h.up hr
   exact(h'.node1 _ (Tl (h.fit r hm) C.now) (by rw[PU];exact h'.last r hm)).post _ _
 rw[if_neg k2]
 by_cases k3:s.kind=3
 ·rw[if_pos k3]
  exact h'.tick
 rw[if_neg k3]
 by_cases k4:s.kind=4
 ·rw[if_pos k4]
  exact up1 (h.lg yd _ _)
 rw[if_neg k4]
 by_cases k5:s.kind=5
 ·rw[if_pos k5]
  exact h'.wm (h.aQ.drop _ _) (h.lM.drop _ _)
 rw[if_neg k5]
 by_cases k6:s.kind=6
 ·rw[if_pos k6]
  exact h'.wm (h.aQ.double _ _) (h.lM.double _ _)
 rw[if_neg k6]
 by_cases k7:s.kind=7
 ·rw[if_pos k7]
  split
  ·exact h'
  ·exact h'.Rh _
 rw[if_neg k7]
 by_cases k8:s.kind=8
 ·rw[if_pos k8]
  exact(h'.wC (h.aU.JT s.a).2).post _ _
 rw[if_neg k8]
 by_cases k9:s.kind=9
 ·rw[if_pos k9]
  exact up1 (h.join yd s.a)
 rw[if_neg k9]
 by_cases k10:s.kind=10
 ·rw[if_pos k10]
  exact(h'.wC (h.aU.Hg s.a).2).post _ _
 rw[if_neg k10]
 by_cases k11:s.kind=11
 ·rw[if_pos k11]
  exact(h'.wC (h.aU.tick C.now)).post _ _
 rw[if_neg k11]
 exact h'
theorem Cr{H:bo}(h:H.Ok):∀(l:List (aR×Nat)),H.events+l.length<10000000→(l.foldl lQ H).Ok∧(l.foldl lQ H).bc.length=H.bc.length∧(l.foldl lQ H).events≤H.events+l.length
 | [],_=>⟨h,rfl,by simp⟩
 | x::l,hl=>by
  rw[mh] at hl
  rw[xH,mh]
  have key:∃K,lQ H x=K∧K.Ok∧K.bc.length=H.bc.length∧K.events≤H.events+1:=by
   unfold lQ
   split
   ·exact⟨_,Z,h,Z,by omega⟩
   ·rename_i o ho
    exact⟨_,Z,h.end_ yd _ _ o,(HH H _ _ o).1,(HH H _ _ o).2⟩
  obtain⟨K,e1,e2,e3,e4⟩:=key
  rw[e1]
  have:=Cr e2 l yd
  exact⟨this.1,by rw[this.2.1,e3],by have:=this.2.2;omega⟩
theorem Oo{d:List bS}{x:Option az×Nat}(hd:d.length≤4096)(hx:∀r,x.1=some r→r.Fit):(iH d x).length≤4096:=by
 unfold iH
 split
 ·exact hd
 ·rename_i r hr
  split
  ·exact hd
  ·have hf:=(hx r hr).ok
   have:=hf.win.ir
   have:=hf.win.kI
   rw[a_,q3,iT]
   omega
theorem Hc{l:List (Option az×Nat)}{d:List bS}(hd:d.length≤4096)(hx:∀x∈l,∀r,x.1=some r→r.Fit):(l.foldl iH d).length≤4096:=by
 induction l generalizing d with
 | nil=>exact hd
 | cons x l ih=>exact ih (Oo hd (hx x yf)) (fun y hy=>hx y (by simp[hy]))
theorem di(h:C.Ok b e):C.di.length≤6:=by
 have:=mw h.cf
 rw[h.cl]
 omega
theorem Dz(h:C.Ok b e):C.nodes.length≤6:=by
 have:=mw h.cf
 rw[h.nl]
 omega
theorem behind(h:C.Ok b e)(he:e<1000000):C.behind.Ok b (e+6):=by
 have hc:=h.di
 have h2:=h.ev
 have key:=Cr h.bH C.di.zipIdx (by rw[xK];omega)
 rw[xK] at key
 have h':=(h.mono (b':=b) (e':=e+6) (NR b) yd).HJ key.1 (by rw[key.2.1];exact h.rc) (by have:=key.2.2;omega)
 exact⟨h'.cf,h'.n0,h'.n1,h'.aU,h'.nl,h'.cl,h'.aQ,h'.bH,h'.fit,h'.last,h'.jA,h'.seq,h'.rc,h'.ev,Hc h.dn fun x hx r hr=>h.fit r (by
  have:x.1∈C.nodes:=by
   have:=List.mem_zipIdx' (x:=x.1) (i:=x.2) hx
   exact ME (by rw[GE this.1,←this.2])
  rw[hr] at this;exact this),h'.lM⟩
theorem bG(h:C.Ok b e)(hb:b<100000)(he:e<900000)(s:eh):(C.bG s).1.Ok (b+1) (e+7):=(h.step hb yd s).behind yd
end ay.Ok
theorem Q9{c:bn}(h:c=ct c):(rS c).Ok 0 0:=by
 have hb:=mw h
 have hb2:=tY h
 have hM:(oq c).Ok:=IM c h▸IN h _
 exact⟨h,fj _,by show(0:Int)≤_;decide,hM,by simp[rS],by simp[rS],⟨by show 1≤c.link;omega,hb2.2.2.2.2.1.2,fun x hx=>absurd hx oM,List.nodup_nil⟩,
  ⟨by show 0≤1000000;omega,by show(0:Int)≤0;decide,by show(0:Int)≤10000000;decide,rfl,fun x hx=>by rw[List.eq_of_mem_replicate hx];exact⟨fj _,fj _⟩⟩,fun r hr=>by
   obtain⟨n,_,e⟩:=eC.1 hr
   cases e;exact Ds h _ _,fun r hr=>by
   obtain⟨n,_,e⟩:=eC.1 hr
   cases e
   have:(dz c n false).aL.last=0:=by
    unfold dz;split
    ·rfl
    split<;>rfl
   omega,fun s hs=>by
   obtain⟨n,_,rfl⟩:=eC.1 hs
   exact Q_ h n,fun s hs=>by
   obtain⟨n,_,rfl⟩:=eC.1 hs
   exact fj _,bK _,fj _,bK _,fun x hx=>absurd hx oM⟩
end Cl
namespace Cl
open Go Vg T Api Ch Rep Conf Lg Rd
attribute [local irreducible] VO VC VA
section
variable {p:Nat} {C:ay} {y:eL}
def rq(p:Nat)(C:ay)(y:eL)(k:Nat)(l:aX):List HP:=[pt p (gN C y) qi,kj y.qa y.qc C.fq.qs,bQ y.mp C.aU,pt y.nb (flat gU y.nr++y.nx) pB,pt y.cb (flat la y.cr++y.cx) qj,cu y.lp l,gQ y.hp C.bH,av e_ 7 y.da C.done.length y.dc (flat bJ C.done),b_ ((y.nr.eraseIdx k).map iy),b_ (y.cr.map mu)]
def rh(p:Nat)(C:ay)(y:eL)(k:Nat)(l:aX)(h:bo):List HP:=[pt p (gN C y) qi,kj y.qa y.qc C.fq.qs,bQ y.mp C.aU,pt y.nb (flat gU y.nr++y.nx) pB,pt y.cb (flat la y.cr++y.cx) qj,cu y.lp l,gQ y.hp h,av e_ 7 y.da C.done.length y.dc (flat bJ C.done),b_ (y.nr.map iy),b_ ((y.cr.eraseIdx k).map mu)]
def rn(p:Nat)(C:ay)(y:eL)(l:aX):List HP:=[pt p (gN C y) qi,kj y.qa y.qc C.fq.qs,pt y.nb (flat gU y.nr++y.nx) pB,pt y.cb (flat la y.cr++y.cx) qj,cu y.lp l,gQ y.hp C.bH,av e_ 7 y.da C.done.length y.dc (flat bJ C.done),b_ (y.nr.map iy),b_ (y.cr.map mu)]
def eL.node(y:eL)(k:Nat)(x:jt):eL:={ y with nr:=y.nr.set k x }
def eL.dO(y:eL)(k:Nat)(x:mm):eL:={ y with cr:=y.cr.set k x }
theorem Dy{k q:Nat}{r:az}(h:y.nr[k]?=some (some (q,r))):aa (eH p C y) (bd q r::rq p C y k C.aQ):=
 aa.trans (IP 8 rfl aa.refl) (aa.trans (zw (f:=iy) h) (aa.cons (IP 1 rfl (IP 1 rfl (IP 1 rfl (IP 1 rfl (IP 1 rfl (IP 1 rfl (IP 1 rfl (IP 1 rfl aa.refl))))))))))
theorem B8{k q:Nat}{s:aR}(h:y.cr[k]?=some (q,s)):aa (eH p C y) (bB q s::rh p C y k C.aQ C.bH):=
 aa.trans (IP 9 rfl aa.refl) (aa.trans (zw (f:=mu) h) (aa.cons (IP 1 rfl (IP 1 rfl (IP 1 rfl (IP 1 rfl (IP 1 rfl (IP 1 rfl (IP 1 rfl (IP 1 rfl (IP 1 rfl aa.refl)))))))))))
theorem Dj:aa (eH p C y) (bQ y.mp C.aU::rn p C y C.aQ):=IP 2 rfl aa.refl
theorem IW{l:List jt}{k q:Nat}{r r':az}(h:l[k]?=some (some (q,r))):flat gU (l.set k (some (q,r')))=flat gU l:=by
 have hk:=(cH.1 h).1
 unfold flat
 rw[gJ]
 congr 1
 apply oL
 intro j
 rw[xI]
 split
 ·rename_i e;subst e
  rw[if_pos (by rw[dW];exact hk),dH,h];rfl
 ·rfl
theorem NP{l:List mm}{k q:Nat}{s s':aR}(h:l[k]?=some (q,s)):flat la (l.set k (q,s'))=flat la l:=by
 have hk:=(cH.1 h).1
 unfold flat
 rw[gJ]
 congr 1
 apply oL
 intro j
 rw[xI]
 split
 ·rename_i e;subst e
  rw[if_pos (by rw[dW];exact hk),dH,h];rfl
 ·rfl
theorem Dx(fit:eW C y)(k:Nat)(x:jt)(l:aX):eW ({ C.setNode k (x.map Prod.snd) with aQ:=l }:ay) (y.node k x):=
 ⟨by show(y.nr.set k x).map _=C.nodes.set k _;rw[gJ,fit.nr],fit.cr,fit.qc⟩
theorem GP(fit:eW C y)(k:Nat)(x:mm)(l:aX)(h:bo):eW ({ C.kr k x.2 with aQ:=l,bH:=h }:ay) (y.dO k x):=
 ⟨fit.nr,by show(y.cr.set k x).map _=C.di.set k _;rw[gJ,fit.cr],fit.qc⟩
theorem Dw(C':ay){k:Nat}{x:jt}(h1:C'.fq=C.fq)(h2:C'.now=C.now)(h3:C'.done=C.done):gN C' (y.node k x)=gN C y:=by
 unfold gN eL.node
 rw[h1,h2,h3]
 dsimp only
 rw[gk]
theorem NO(C':ay){k:Nat}{x:mm}(h1:C'.fq=C.fq)(h2:C'.now=C.now)(h3:C'.done=C.done):gN C' (y.dO k x)=gN C y:=by
 unfold gN eL.dO
 rw[h1,h2,h3]
 dsimp only
 rw[gk]
theorem IY{k q:Nat}{r r':az}{l:aX}(h:y.nr[k]?=some (some (q,r))):aa (bd q r'::rq p C y k l) (eH p ({ C.setNode k (some r') with aQ:=l }:ay) (y.node k (some (q,r')))):=by
 have hk:=(cH.1 h).1
 have e1:=Dw (C:=C) (y:=y) (k:=k) (x:=some (q,r')) ({ C.setNode k (some r') with aQ:=l }:ay) rfl rfl rfl
 have e2:=IW (r':=r') h
 unfold eH
 rw[e1]
 show aa _ [_,_,_,pt y.nb (flat gU (y.nr.set k (some (q,r')))++y.nx) pB,_,_,_,_,b_ ((y.nr.set k (some (q,r'))).map iy),_]
 rw[e2]
 refine aa.trans (M:=bd q r'::b_ ((y.nr.eraseIdx k).map iy)::_) (aa.cons (IP 8 Z aa.refl)) (aa.trans (zv (f:=iy) hk (some (q,r'))) ?_)
 exact IP 1 Z (IP 1 Z (IP 1 Z (IP 1 Z (IP 1 Z (IP 1 Z (IP 1 Z (IP 1 Z aa.refl)))))))
theorem GQ{k q:Nat}{s s':aR}{l:aX}{hi:bo}(h:y.cr[k]?=some (q,s)):aa (bB q s'::rh p C y k l hi) (eH p ({ C.kr k s' with aQ:=l,bH:=hi }:ay) (y.dO k (q,s'))):=by
 have hk:=(cH.1 h).1
 have e1:=NO (C:=C) (y:=y) (k:=k) (x:=(q,s')) ({ C.kr k s' with aQ:=l,bH:=hi }:ay) rfl rfl rfl
 have e2:=NP (s':=s') h
 unfold eH
 rw[e1]
 show aa _ [_,_,_,_,pt y.cb (flat la (y.cr.set k (q,s'))++y.cx) qj,_,_,_,_,b_ ((y.cr.set k (q,s')).map mu)]
 rw[e2]
 refine aa.trans (M:=bB q s'::b_ ((y.cr.eraseIdx k).map mu)::_) (aa.cons (IP 9 Z aa.refl)) (aa.trans (zv (f:=mu) hk (q,s')) ?_)
 exact IP 1 Z (IP 1 Z (IP 1 Z (IP 1 Z (IP 1 Z (IP 1 Z (IP 1 Z (IP 1 Z (IP 1 Z aa.refl))))))))
theorem QG{m:aJ}{l:aX}:aa (bQ y.mp m::rn p C y l) (eH p ({ C with aU:=m,aQ:=l }:ay) y):=IP 1 rfl (IP 1 rfl aa.refl)
theorem mY(fit:eW C y){R:List HP}:aa (eH p C y++R) [bx p C]:=aa.rk (K:=[]) y fit (by rw[bA];exact aa.trans (aa.app (M:=eH p C y) (M':=[]) aa.refl aa.nil) (aa.of_eq (bA _)))
theorem I1(fit:eW C y){k q:Nat}{r r':az}{l:aX}{a:Option Addr}{c:Nat}{X:List e9}(h:y.nr[k]?=some (some (q,r))){R:List HP}:aa (oy (bd q r') a c X::(rq p C y k l++R)) [bx p ({ C.setNode k (some r') with aQ:=l }:ay)]:=
 aa.trans tf (aa.trans (aa.app (L:=bd q r'::rq p C y k l) (IY h) aa.refl) (mY (Dx fit k (some (q,r')) l)))
theorem B9(fit:eW C y){k q:Nat}{s s':aR}{l:aX}{hi:bo}{a:Option Addr}{c:Nat}{X:List e9}(h:y.cr[k]?=some (q,s)){R:List HP}:aa (oy (bB q s') a c X::(rh p C y k l hi++R)) [bx p ({ C.kr k s' with aQ:=l,bH:=hi }:ay)]:=
 aa.trans tf (aa.trans (aa.app (L:=bB q s'::rh p C y k l hi) (GQ h) aa.refl) (mY (GP fit k (q,s') l hi)))
theorem uu(fit:eW C y){m:aJ}{l:aX}{a:Option Addr}{c:Nat}{X:List e9}{R:List HP}:aa (oy (bQ y.mp m) a c X::(rn p C y l++R)) [bx p ({ C with aU:=m,aQ:=l }:ay)]:=
 aa.trans tf (aa.trans (aa.app (L:=bQ y.mp m::rn p C y l) QG aa.refl) (mY (C:=({ C with aU:=m,aQ:=l }:ay)) ⟨fit.nr,fit.cr,fit.qc⟩))
end
section
variable {q:Nat}
theorem X9{r:az}(ok:r.Ok)(now:Int):aq Tryz.prog 189 [.pointer (some ⟨q,0,none⟩),.int .i64 now] Fr w [bd q r] (fun v L=>oT (fE (gY r now).2) (bd q (gY r now).1) v L):=Go.Proofs.YtbmakdofbejlnaaGreatDoor.Ring.aq.drop (Tq Fr w ok now) fun _ _ h=>Ef h
theorem Ya{r:az}(ok:r.Ok)(now:Int):aq Tryz.prog 241 [.pointer (some ⟨q,0,none⟩),.int .i64 now] Fr w [bd q r] (fun v L=>oT (fE (jN r).2) (bd q (jN r).1) v L):=Go.Proofs.YtbmakdofbejlnaaGreatDoor.Ring.aq.drop (Xy Fr w ok now) fun _ _ h=>Ef h
theorem Ki{r:az}(fit:r.Fit)(hlast:r.aL.last<100000000)(from_:Int)(f:aA){ma:Option Addr}{mc:Nat}{ms:List bj}(hm:aP aC 2 Fr w ma ms)(hml:ms.length≤1000000)(now:Int)
  (hi1:-9223372036854775808≤f.entry.index) (hi2:f.entry.index≤9223372036854775807):aq Tryz.prog 253 [.pointer (some ⟨q,0,none⟩),.int .i64 from_,.agg (f.cells (ma,ms.length,mc)).toArray,.int .i64 now] Fr w [bd q r] (fun v L=>oT (fE (db r from_ f ms now).2) (bd q (db r from_ f ms now).1) v L):=
 Go.Proofs.YtbmakdofbejlnaaGreatDoor.Ring.aq.drop (w8 Fr w fit hlast from_ f hm hml now hi1 hi2) fun _ _ h=>Ef h
theorem X7{M:aJ}(ok:M.Ok)(from_:Int)(f:aA)(g:gM)(now:Int):aq Tryz.prog 301 [.pointer (some ⟨q,0,none⟩),.int .i64 from_,.agg (f.cells g).toArray,.int .i64 now] Fr w [bQ q M] (fun v L=>oT (M.take from_ f now).2 (bQ q (M.take from_ f now).1) v L):=Go.Proofs.YtbmakdofbejlnaaGreatDoor.Ring.aq.drop (Q4 Fr w ok from_ f g now) fun _ _ h=>Al h
theorem X8{M:aJ}(ok:M.Ok)(now:Int):aq Tryz.prog 191 [.pointer (some ⟨q,0,none⟩),.int .i64 now] Fr w [bQ q M] (fun v L=>oT (M.tick now).2 (bQ q (M.tick now).1) v L):=Go.Proofs.YtbmakdofbejlnaaGreatDoor.Ring.aq.drop (Q5 Fr w ok now) fun _ _ h=>Al h
theorem X_{M:aJ}(ok:M.Ok)(n:Int):aq Tryz.prog 195 [.pointer (some ⟨q,0,none⟩),.int .i64 n] Fr w [bQ q M] (fun v L=>vz (M.gf n).2.1 (M.gf n).2.2 (bQ q (M.gf n).1) v L):=Go.Proofs.YtbmakdofbejlnaaGreatDoor.Ring.aq.drop (Q3 Fr w ok n) fun _ _ h=>Am h
theorem X5{M:aJ}(ok:M.Ok)(n:Int):aq Tryz.prog 197 [.pointer (some ⟨q,0,none⟩),.int .i64 n] Fr w [bQ q M] (fun v L=>vz (M.drain n).2.1 (M.drain n).2.2 (bQ q (M.drain n).1) v L):=Go.Proofs.YtbmakdofbejlnaaGreatDoor.Ring.aq.drop (QN Fr w ok n) fun _ _ h=>Am h
theorem X6{M:aJ}(ok:M.Ok)(n now:Int):aq Tryz.prog 252 [.pointer (some ⟨q,0,none⟩),.int .i64 n,.int .i64 now] Fr w [bQ q M] (fun v L=>vz (M.join n now).2.1 (M.join n now).2.2 (bQ q (M.join n now).1) v L):=Go.Proofs.YtbmakdofbejlnaaGreatDoor.Ring.aq.drop (QY Fr w ok n now) fun _ _ h=>Am h
theorem X3{S:aR}(ok:S.Ok)(f:aA){ma:Option Addr}{mc:Nat}{ms:List bj}(hm:aP aC 2 Fr w ma ms)(hml:ms.length≤1000000)(now:Int):aq Tryz.prog 349 [.pointer (some ⟨q,0,none⟩),.agg (f.cells (ma,ms.length,mc)).toArray,.int .i64 now] Fr w [bB q S] (fun v L=>oT (S.take f ms now).2 (bB q (S.take f ms now).1) v L):=Go.Proofs.YtbmakdofbejlnaaGreatDoor.Ring.aq.drop (N8 Fr w ok f hm hml now) fun _ _ h=>Al h
theorem X4{S:aR}(ok:S.Ok)(now:Int):aq Tryz.prog 242 [.pointer (some ⟨q,0,none⟩),.int .i64 now] Fr w [bB q S] (fun v L=>oT (S.tick now).2 (bB q (S.tick now).1) v L):=Go.Proofs.YtbmakdofbejlnaaGreatDoor.Ring.aq.drop (N_ Fr w ok now) fun _ _ h=>Al h
theorem X1{S:aR}(ok:S.Ok)(hq:S.seq≤1000000000)(o:bp)(cl d now:Int):aq Tryz.prog 228 [.pointer (some ⟨q,0,none⟩),.agg o.cells.toArray,.int .i64 cl,.int .i64 d,.int .i64 now] Fr w [bB q S] (fun v L=>vz (S.call o cl d now).2 (S.eY o cl d) (bB q (S.call o cl d now).1) v L):=Go.Proofs.YtbmakdofbejlnaaGreatDoor.Ring.aq.drop (NB Fr w ok hq o cl d now) fun _ _ h=>Am h
theorem B_{Fr:Nat→Prop}{w:World}{S:aR}(h:aV Fr [bB q S] w):∃y,a7 Fr w q (cP S y)∧∀x,S.out=some x→a7 Fr w y.b (mL x):=by
 obtain⟨y,hy⟩:=h.ex
 have hs:=hy.sep
 refine⟨y,hs.ar 0 Z,fun x hx=>?_⟩
 have hb:=hs.at_ 3 rfl
 rw[hx] at hb
 exact hb.ar 0 rfl
theorem Ey{S:aR}(ok:S.Ok)(h:aV Fr [bB q S] w):aq Tryz.prog 67 [.pointer (some ⟨q,0,none⟩)] Fr w [] (fun v L=>v=.int .i64 S.seq∧L=[]):=by
 obtain⟨y,h1,_⟩:=B_ h
 exact N6 Fr w ok h1
theorem Kh{S:aR}(ok:S.Ok)(h:aV Fr [bB q S] w):aq Tryz.prog 69 [.pointer (some ⟨q,0,none⟩)] Fr w [] (fun v L=>v=zT S.outcome∧L=[]):=by
 obtain⟨y,h1,h2⟩:=B_ h
 exact N1 Fr w ok h1 h2
end
theorem SS{α:Type}{l:List α}{k:Nat}{x:α}(h:l[k]?=some x):l.set k x=l:=by
 apply oL
 intro j
 rw[xI]
 split
 ·rename_i e;subst e
  rw[if_pos (cH.1 h).1,h]
 ·rfl
end Cl
namespace Cl
open Go Vg T Api Ch Rep Conf Lg Rd
attribute [local irreducible] VO VC VA
abbrev gO:TypeId:=169
def eh.cells(s:eh):List Value:=[.int .i64 s.kind,.int .i64 s.a,.int .i64 s.b,.int .i64 s.c]++s.op.cells
theorem Oc(C:ay)(c:Int):C.dead c=if 1099511627776<C.now+(if 1099511627776<(if c<0 then 0 else c) then 1099511627776 else (if c<0 then 0 else c)) then 1099511627776 else C.now+(if 1099511627776<(if c<0 then 0 else c) then 1099511627776 else (if c<0 then 0 else c)):=by
 unfold ay.dead
 repeat' split
 all_goals omega
section
variable {p:Nat} {C:ay} {b e:Nat}
theorem XK(ok:C.Ok b e)(hb:b<100000)(he:e<1000000)(s:eh):aq Tryz.prog 187 [.pointer (some ⟨p,0,none⟩),.agg s.cells.toArray] Fr w [bx p C]
  (fun v L=>v=.int .i64 (C.call s).2∧L=[bx p (C.call s).1]):=by
 obtain⟨kd,sa,sx,sc,op⟩:=s
 have hcl:=ok.di
 have hev:=ok.ev
 have hn0:=ok.n0
 have hn1:=ok.n1
 refine TF 74 Tryz.func187 Z ym aw Z Z ?_
 refine CS (CG (VG (VB (vs:=(⟨kd,sa,sx,sc,op⟩:eh).cells) Z fun sb=>VO.bu 1 Z (aY.rk p C) ?_)))
 rintro y fit
 have hln:=tU fit
 refine VO.ah (L':=pt sb (⟨kd,sa,sx,sc,op⟩:eh).cells gO::eH p C y) (IP 10 Z aa.refl).ah ?_
 refine ae ?_
 refine CD (ts 0 13 .nil) ym yo ?_
 refine eu ?_
 by_cases h0:sa<0
 ·have hc:C.dO sa=none:=by unfold ay.dO;rw[if_pos h0]
  have hr:C.call ⟨kd,sa,sx,sc,op⟩=(C,4):=by unfold ay.call;dsimp only;rw[hc]
  refine AG (AY 12 true Z (DT h0) ?_)
  refine nK ?_
  refine vg ?_
  exact LQ
 obtain⟨k,rfl⟩:∃k:Nat,sa=k:=⟨sa.toNat,by omega⟩
 refine AG (AY 12 false Z (DF h0) ?_)
 refine eu ?_
 refine CP (p:=(y.cr.length:Int)≤k) Z (fun h1=>?_) (fun h1=>CK ?_)
 ·have hc:C.dO (k:Int)=none:=by
   unfold ay.dO
   rw[if_neg h0,fy,mQ yd]
  have hr:C.call ⟨kd,k,sx,sc,op⟩=(C,4):=by unfold ay.call;dsimp only;rw[hc]
  refine ae ?_
  exact LQ
 have hk:k<y.cr.length:=by omega
 have hx2:y.cr[k]?=some y.cr[k]:=GE hk
 generalize y.cr[k]=z at hx2
 obtain⟨q,x⟩:=z
 obtain⟨hcx,hcs⟩:=yM fit hx2
 have hm:x∈C.di:=ME hcs
 have hsq:=ok.seq x hm
 have okx:=ok.jA x hm
 have okc:=okx.call op sx (C.dead sc) C.now
 have hrc:=ok.rc
 have fw:ed (x.call op sx (C.dead sc) C.now).2:=aR.Nv x op sx (C.dead sc) C.now
 have hr0:x.eY op sx (C.dead sc)≠0→C.call ⟨kd,k,sx,sc,op⟩=(C,x.eY op sx (C.dead sc)):=fun h=>by
  unfold ay.call;dsimp only;rw[hcx];dsimp only;rw[if_pos h]
 have hr1:x.eY op sx (C.dead sc)=0→C.call ⟨kd,k,sx,sc,op⟩=(({ C.kr k (x.call op sx (C.dead sc) C.now).1 with bH:=C.bH.call k (x.call op sx (C.dead sc) C.now).1.seq op,aQ:=cw (32+k) C.aQ (x.call op sx (C.dead sc) C.now).2 }:ay),0):=fun h=>by
  unfold ay.call;dsimp only;rw[hcx];dsimp only;rw[if_neg bY];rfl
 refine CS (CD (ts 0 9 .nil) ym yo ?_)
 refine eu ?_
 refine AG (AI Z (dU k Z Z Z Z Z Z hk) ?_)
 refine AG (yE Z Z Z (an.one 5 Z (vK hx2)) ?_)
 refine eu ?_
 refine CS (CD (ts 0 11 .nil) ym yo ?_)
 refine eu ?_
 refine pK ?_
 refine eu ?_
 refine CN (L':=pt sb (⟨kd,k,sx,sc,op⟩:eh).cells gO::bB q x::rh p C y k C.aQ C.bH) (aa.cons (B8 hx2)).ah ?_
 refine ae ?_
 refine CD (ts 0 10 (.only 10 (ts 11 5 .nil))) ym yo ?_
 refine gF ?_
 refine AG (VA.cK 0 op.cells Z Z Z Z Z ?_)
 refine gF ?_
 refine AG (AQ 1 Z (fun Fr w hF hs hS=>X1 Fr w okx yd op sx (C.dead sc) C.now) Z (by rw[Oc];rfl) mP ?_ ?_)
 ·rintro _ _ ⟨X,a,c,hX,rfl,rfl⟩
  exact FQ
 rintro _ _ ⟨X,a,c,hX,rfl,rfl⟩
 refine gF ?_
 refine ae ?_
 refine VC.dd Z (fun k1=>?_) (fun k1=>CK ?_)
 ·refine ae ?_
  refine CR (al.tmp 4 Z Z (aa.tail.trans (B9 (R:=[]) fit hx2)).ah ⟨by rw[hr0 k1],?_⟩)
  rw[hr0 k1,(tT rfl k1).1]
  have:C.kr (k:Int) x=C:=by unfold ay.kr;rw[fy,SS hcs]
  rw[this]
 have hr:=hr1 se
 have hss:=GJ x op sx (C.dead sc) C.now
 generalize x.call op sx (C.dead sc) C.now=X2 at hX okc fw hr hss
 obtain⟨x',S'⟩:=X2
 dsimp only at hX okc fw hr hss ⊢
 refine CS (CD (ts 0 7 (ts 8 2 (.only 7 (.only 10 .nil)))) ym yo ?_)
 refine gF ?_
 refine AG (VA.cK 0 op.cells Z Z Z Z Z ?_)
 refine AG (AR (fun Fr w hF hw hS=>Ey Fr w okc (((hS.at_ 1 Z).sep).at_ 0 Z)) Z Z FQ ?_)
 refine AG (AQ 8 Z (fun Fr w hF hs hS=>Po Fr w ok.bH yd k x'.seq op) Z Z (ψ:=fun v H=>v=.int .i64 (C.bH.eY k x'.seq op)∧H=gQ y.hp (C.bH.call k x'.seq op)) yz ?_ ?_)
 ·rintro _ _ ⟨rfl,rfl⟩
  exact FQ
 rintro _ _ ⟨rfl,rfl⟩
 refine gF ?_
 refine gh ?_
 refine u5 ?_
 refine gh ?_
 refine VG (VQ 7 Z (fun Fr w hF hs hS=>nF Fr w (hS.ar 2 Z) ok.aQ (32+k) (kB.at_ 1 hS Z hX fw)) Z (ψ:=fun v H=>v=.tuple #[]∧H=cu y.lp (cw (32+k) C.aQ (X.map Prod.fst))) yz ?_)
 rintro _ _ ⟨rfl,rfl⟩
 refine gh ?_
 rw[hX]
 exact CR (al.tmp 4 Z Z ((aa.tail (H:=pt sb _ gO)).trans (B9 (p:=p) (R:=[]) (s':=x') (hi:=C.bH.call k x'.seq op) (l:=cw (32+k) C.aQ S') (a:=a) (c:=c) (X:=X) fit hx2)).ah ⟨by rw[hr],by rw[hr]⟩)
end
end Cl
namespace Cl
open Go Vg T Api Ch Rep Conf Lg Rd
attribute [local irreducible] VO VC VA
section
variable {p:Nat} {C:ay} {b e:Nat}
theorem fold_succ{α:Type}(f:α→Nat→α)(x:α)(k:Nat):(List.range (k+1)).foldl f x=f ((List.range k).foldl f x) k:=by
 rw[tK,vo];rfl
theorem Xw(C:ay)(n:Nat):(C.cV n).nodes.length=C.nodes.length∧(C.cV n).di=C.di∧(C.cV n).now=C.now∧(C.cV n).fq=C.fq∧(C.cV n).done=C.done:=by
 unfold ay.cV
 split
 ·exact⟨rfl,Z,Z,Z,Z⟩
 ·exact⟨gk,Z,Z,Z,Z⟩
theorem XZ(ok:C.Ok b e):aq Tryz.prog 190 [.pointer (some ⟨p,0,none⟩)] Fr w [bx p C]
  (fun v L=>v=.tuple #[]∧L=[bx p C.tick]):=by
 have hcl:=ok.di
 have hnd:=ok.Dz
 have hn0:=ok.n0
 have hn1:=ok.n1
 refine TF 58 Tryz.func190 Z ym aw Z Z ?_
 refine Bd ?_
 rintro y fit
 refine Fy ?_
 have hln:=tU fit
 have hnn:=uw fit
 have hmin:min (C.now+1) 1099511627776=if 1099511627776<C.now+1 then 1099511627776 else C.now+1:=by split<;>omega
 generalize hC1:({ C with now:=min (C.now+1) 1099511627776 }:ay)=C1
 have ok1:C1.Ok b e:=hC1▸ok.at_
 have fit1:eW C1 y:=hC1▸⟨fit.nr,fit.cr,fit.qc⟩
 have hnn1:C1.nodes.length=C.nodes.length:=by rw[←hC1]
 have hcc1:C1.di.length=C.di.length:=by rw[←hC1]
 refine gG ?_
 refine VG (VO.st 0 (cs':=gN C1 y) Z Z Z Z (by show 12<19;omega) (by rw[←hC1,hmin];rfl) Z ?_)
 refine VO.ah (L':=eH p C1 y) (aa.of_eq (by rw[←hC1];rfl)).ah ?_
 refine aj ?_
 have hT:C.tick=(List.range C1.di.length).foldl ay.mM ((List.range C1.nodes.length).foldl ay.cV C1):=by
  unfold ay.tick
  dsimp only
  rw[hC1,←hnn1]
  have:∀(k:Nat),((List.range k).foldl ay.cV C1).di.length=C1.di.length:=by
   intro k
   induction k with
   | zero=>rfl
   | succ k ih=>rw[fold_succ,(Xw _ _).2.1,ih]
  rw[this]
 refine VC.loop (σ:=Nat×List jt) (fun s=>[(0,pV p),(18,.slice (some ⟨y.nb,0,none⟩) y.nr.length y.nc),(19,.int .i64 y.nr.length),(20,.int .i64 (s.1:Int))])
  (fun s=>eH p ((List.range s.1).foldl ay.cV C1) { y with nr:=s.2 })
  (fun s=>s.1≤y.nr.length∧s.2.length=y.nr.length∧eW ((List.range s.1).foldl ay.cV C1) { y with nr:=s.2 }) (fun s=>y.nr.length-s.1) (0,y.nr)
  ⟨bK _,rfl,fit1⟩ aF ER ?_
 rintro⟨k,nr⟩ ⟨hk0,hnl,fk⟩
 dsimp only at hk0 hnl fk
 have okk:=ok1.JZ (List.range k)
 have hsu:=fold_succ ay.cV C1 k
 generalize hD:(List.range k).foldl ay.cV C1=D at okk hsu fk
 refine ae ?_
 refine CP (p:=(k:Int)<y.nr.length) Z (fun h1=>CK ?_) (fun h1=>CX ?_)
 ·have hkl:k<nr.length:=by omega
  have hx2:nr[k]?=some nr[k]:=GE hkl
  generalize nr[k]=z at hx2
  obtain⟨hnx,hns⟩:=uv fk (k:=k) (x:=z) hx2
  refine nM ?_
  refine VG (VO.load Z Z (an.one 3 Z (qy hx2)) ?_)
  cases z with
  | none=>
   have e1:D.cV k=D:=by unfold ay.cV;rw[hns];rfl
   refine iR ?_
   refine pQ ?_
   exact⟨(k+1,nr),⟨by dsimp only;omega,hnl,by rw[hsu,e1];exact fk⟩,by dsimp only;omega,SC Z (SC Z (SC Z (Sub.int Z yd (SN _)))),by dsimp only;rw[hsu,e1];exact ER⟩
  | some z=>
   obtain⟨q,r⟩:=z
   have hm:some r∈D.nodes:=ME hns
   have e1:D.cV k=({ D.setNode k (some (jN r).1) with aQ:=cw k D.aQ (fE (jN r).2) }:ay):=by unfold ay.cV;rw[hns];rfl
   have fw:ed (fE (jN r).2):=ed.of (by have:=w9 r;omega)
   show VO _ _ _ _ (bI (some 24) (.pointer (some ⟨q,0,none⟩)) _) _ _
   refine tC ?_
   refine CN (L':=bd q r::rq p D { y with nr:=nr } k D.aQ) (Dy hx2).ah ?_
   refine cF ?_
   refine VG (VQ 0 Z (fun Fr w hF hs hS=>Ya Fr w (okk.fit r hm).ok D.now) Z mP ?_)
   rintro _ _ ⟨X,a,c,hX,rfl,rfl⟩
   refine cF ?_
   refine VG (VQ 6 Z (fun Fr w hF hs hS=>nF Fr w (hS.ar 1 Z) okk.aQ k (kB.at_ 0 hS Z hX fw)) Z (ψ:=fun v H=>v=.tuple #[]∧H=cu y.lp (cw k D.aQ (X.map Prod.fst))) yz ?_)
   rintro _ _ ⟨rfl,rfl⟩
   rw[hX]
   refine fx ?_
   refine⟨(k+1,nr.set k (some (q,(jN r).1))),⟨by dsimp only;omega,by dsimp only;rw[gk];exact hnl,by dsimp only;rw[hsu,e1];exact Dx fk k (some (q,(jN r).1)) _⟩,by dsimp only;omega,SC Z (SC Z (SC Z (Sub.int Z yd (SN _)))),?_⟩
   dsimp only
   rw[hsu,e1]
   exact(aa.trans tf (IY (y:={ y with nr:=nr }) (r':=(jN r).1) (l:=cw k D.aQ (fE (jN r).2)) hx2)).ah
 have hkn:k=C1.nodes.length:=by omega
 rw[hkn] at hD
 rw[hD] at hT
 clear hsu
 subst hkn
 have hDc:D.di.length=C1.di.length:=by have h:=tU fk;dsimp only at h;omega
 refine aj ?_
 refine VC.loop (σ:=Nat×List mm) (fun s=>[(0,pV p),(40,.slice (some ⟨y.cb,0,none⟩) y.cr.length y.cc),(41,.int .i64 y.cr.length),(42,.int .i64 (s.1:Int))])
  (fun s=>eH p ((List.range s.1).foldl ay.mM D) { y with nr:=nr,cr:=s.2 })
  (fun s=>s.1≤y.cr.length∧s.2.length=y.cr.length∧eW ((List.range s.1).foldl ay.mM D) { y with nr:=nr,cr:=s.2 }) (fun s=>y.cr.length-s.1) (0,y.cr)
  ⟨bK _,rfl,fk⟩ aF ER ?_
 rintro⟨k,cr⟩ ⟨hk0,hcr,fk⟩
 dsimp only at hk0 hcr fk
 have okk:=okk.JY (List.range k)
 have hsu:=fold_succ ay.mM D k
 generalize hE:(List.range k).foldl ay.mM D=E at okk hsu fk
 refine ae ?_
 refine CP (p:=(k:Int)<y.cr.length) Z (fun h1=>CK ?_) (fun h1=>CX ?_)
 rotate_left
 ·have hkn:k=C1.di.length:=by omega
  have:C.tick=E:=by rw[hT,←hE,hkn]
  exact al.void Z (mY (R:=[]) fk).ah ⟨rfl,by rw[this]⟩
 have hkl:k<cr.length:=by omega
 have hx2:cr[k]?=some cr[k]:=GE hkl
 generalize cr[k]=z at hx2
 obtain⟨q,s⟩:=z
 obtain⟨hnx,hns⟩:=yM fk (k:=k) (x:=(q,s)) hx2
 have hm:s∈E.di:=ME hns
 have e1:E.mM k=({ E.kr k (s.tick E.now).1 with aQ:=cw (32+k) E.aQ (s.tick E.now).2,bH:=E.bH }:ay):=by unfold ay.mM;rw[hns];rfl
 have fw:ed (s.tick E.now).2:=aR.w9 s E.now
 refine nM ?_
 refine VG (VO.load Z Z (an.one 4 Z (vK hx2)) ?_)
 refine ae ?_
 refine nH ?_
 refine VO.ah (L':=bB q s::rh p E { y with nr:=nr,cr:=cr } k E.aQ E.bH) (B8 hx2).ah ?_
 refine cF ?_
 refine VG (VQ 0 Z (fun Fr w hF hs hS=>X4 Fr w (okk.jA s hm) E.now) Z mP ?_)
 rintro _ _ ⟨X,a,c,hX,rfl,rfl⟩
 refine cF ?_
 refine VG (VQ 6 Z (fun Fr w hF hs hS=>nF Fr w (hS.ar 1 Z) okk.aQ (32+k) (kB.at_ 0 hS Z hX fw)) Z (ψ:=fun v H=>v=.tuple #[]∧H=cu y.lp (cw (32+k) E.aQ (X.map Prod.fst))) yz ?_)
 rintro _ _ ⟨rfl,rfl⟩
 rw[hX]
 refine fx ?_
 refine⟨(k+1,cr.set k (q,(s.tick E.now).1)),⟨by dsimp only;omega,by dsimp only;rw[gk];exact hcr,by dsimp only;rw[hsu,e1];exact GP fk k (q,(s.tick E.now).1) _ _⟩,by dsimp only;omega,SC Z (SC Z (SC Z (Sub.int Z yd (SN _)))),?_⟩
 dsimp only
 rw[hsu,e1]
 exact(aa.trans tf (GQ (y:={ y with nr:=nr,cr:=cr }) (s':=(s.tick E.now).1) (l:=cw (32+k) E.aQ (s.tick E.now).2) (hi:=E.bH) hx2)).ah
end
end Cl
namespace Cl
open Go Vg T Api Ch Rep Conf Lg Rd
attribute [local irreducible] VO VC VA
theorem SQ(f:aA)(o:Nat)(n:Int):(uL f o n).entry=f.entry:=by unfold uL;split<;>rfl
theorem JN:∀(os:List Nat) (ns:List Int) (f:aA),(th f os ns).entry=f.entry
 | o::os,n::ns,f=>by
  show(th (uL f o n) os ns).entry=_
  rw[JN os ns,SQ]
 | [],_,_=>rfl
 | _::_,[],_=>rfl
theorem Sd{f:aA}{s:Bs}{y:aA×List bj}(h:qC f s=some y):y.1.kind=f.kind∧(f.kind≠4→y.1.entry=f.entry):=by
 unfold qC at h
 repeat' split at h
 all_goals first | (cases h;done) | (cases h;exact⟨rfl,fun _=>rfl⟩) | (cases h;exact⟨rfl,fun k=>absurd (by assumption) k⟩)
theorem Pf{s:Bs}{f:aA}{ms:List bj}(h:getM s=some (f,ms)):ms.length≤6∧0≤f.entry.index∧f.entry.index≤1099511627776:=by
 unfold getM at h
 split at h
 ·cases h
 split at h
 ·cases h
 split at h
 ·cases h
 split at h
 ·cases h
 ·rename_i k r hk _ l r2 hl _ f' ms' hr
  split at h
  ·rename_i hm
   cases h
   refine⟨Jl hr,?_⟩
   have he:=Sd hr
   by_cases h4:f.kind=4
   ·unfold kP qq at hm
    simp only[h4,dG] at hm
    have hm:=hm.2.2
    simp[fP] at hm
    exact hm.1.1
   ·have:=he.2 (by rw[←he.1];exact h4)
    rw[this,JN]
    exact⟨by show(0:Int)≤0;decide,by show(0:Int)≤1099511627776;decide⟩
  ·cases h
section
variable {p:Nat} {C:ay} {y:eL} {b e:Nat}
def oD(y:eL)(toQ:Int):Value:=
 if toQ=16 then ba 301 [.pointer (some ⟨y.mp,0,none⟩)] []
 else match (if toQ<0 then none else (y.nr[toQ.toNat]?).getD none) with
  | some z=>ba 253 [.pointer (some ⟨z.1,0,none⟩)] []
  | none=>match (if toQ<32 then none else y.cr[(toQ-32).toNat]?) with
   | some z=>ba 302 [.agg #[.pointer (some ⟨z.1,0,none⟩)]] []
   | none=>.nilFunc
theorem XY(fit:eW C y)(h:a7 Fr w p (gN C y))(hr:a7 Fr w y.nb (flat gU y.nr++y.nx))(hc:a7 Fr w y.cb (flat la y.cr++y.cx)){toQ:Int}(h0:0≤toQ)(h1:toQ<38):aq Tryz.prog 249 [.pointer (some ⟨p,0,none⟩),.int .i64 toQ] Fr w [] (fun v L=>v=oD y toQ∧L=[]):=by
 have hln:=tU fit
 have hnn:=uw fit
 obtain⟨k,rfl⟩:∃k:Nat,toQ=k:=⟨toQ.toNat,by omega⟩
 refine TF 50 Tryz.func249 Z ym aw Z Z ?_
 refine au ?_
 refine mN ?_
 refine au ?_
 refine CP (p:=(k:Int)=16) Z (fun e1=>?_) (fun e1=>?_)
 ·refine g_ ?_
  refine FU ?_
  exact CR (al.tmp 4 Z Z ER ⟨by rw[oD,if_pos e1],Z⟩)
 refine au ?_
 refine VG (VV (fun Fr w hF hw hS=>Ex Fr w fit (h.of hF hw) (hr.of hF hw) k) Z ?_)
 have hu:∀z:jt,(y.nr[k]?).getD none=z→C.iB (k:Int)=if y.nr.length≤k then 4 else if z.isNone then 61 else 0:=fun z hz=>by
  unfold ay.iB
  by_cases hk:k<y.nr.length
  ·have hx:=GE hk
   rw[hx] at hz
   rw[if_neg (show ¬((k:Int)<0∨(C.nodes.length:Int)≤k) by omega),if_neg (show ¬y.nr.length≤k by omega),(uv fit hx).1,←hz]
   cases y.nr[k]<;>rfl
  ·rw[if_pos (.inr yd),if_pos yd]
 by_cases hx:∃q r,y.nr[k]?=some (some (q,r))
 ·obtain⟨q,r,hx⟩:=hx
  have hk:=(cH.1 hx).1
  have hu2:=hu (some (q,r)) (by rw[hx];rfl)
  rw[if_neg yd] at hu2
  rw[hu2]
  refine va ?_
  refine g_ ?_
  refine xg ?_
  refine VG (VO.load Z Z (an.ar hr (qy hx)) ?_)
  refine au ?_
  refine FU ?_
  exact CR (al.tmp 4 Z Z ER ⟨by rw[oD,if_neg e1,if_neg yd,fy,hx];rfl,Z⟩)
 have hno:(y.nr[k]?).getD none=none:=by
  cases hz:y.nr[k]? with
  | none=>rfl
  | some z=>
   cases z with
   | none=>rfl
   | some z=>exact absurd ⟨z.1,z.2,hz⟩ hx
 have hu3:C.iB (k:Int)≠0:=by rw[hu none hno];split<;>decide
 have et:oD y k=match (if (k:Int)<32 then none else y.cr[((k:Int)-32).toNat]?) with
   | some z=>ba 302 [.agg #[.pointer (some ⟨z.1,0,none⟩)]] []
   | none=>.nilFunc:=by rw[oD,if_neg e1,if_neg yd,fy,hno]
 rw[et]
 refine au ?_
 refine CE Z (fun k0=>absurd k0 hu3) (fun _=>?_)
 refine au ?_
 by_cases h32:(k:Int)<32
 ·refine VG (VY 32 false Z (DF yd) ?_)
  refine g_ ?_
  refine iQ ?_
  refine au ?_
  exact CR (al.tmp 4 Z Z ER ⟨by rw[if_pos h32],Z⟩)
 obtain⟨j,rfl⟩:∃j:Nat,k=32+j:=⟨k-32,by omega⟩
 refine VG (VY 32 true Z (DT yd) ?_)
 refine g_ ?_
 refine CP (p:=(((32+j:Nat):Int)-32)<(y.cr.length:Int)) Z (fun h2=>?_) (fun h2=>CK ?_)
 ·have hj:j<y.cr.length:=by omega
  have hx2:y.cr[j]?=some y.cr[j]:=GE hj
  generalize y.cr[j]=z at hx2
  have ej:((32+j:Nat):Int)-32=(j:Int):=by omega
  rw[ej]
  refine g_ ?_
  refine VG (VI (dU j Z Z Z Z Z Z hj) ?_)
  refine VG (VO.load Z Z (an.ar hc (vK hx2)) ?_)
  refine au ?_
  refine VG (VI (LB (pv:=[(0,.pointer (some ⟨z.1,0,none⟩))]) [.pointer (some ⟨z.1,0,none⟩)] Z Z Z ym Z) ?_)
  refine FU ?_
  exact CR (al.tmp 4 Z Z ER ⟨by rw[if_neg h32,fy,hx2],Z⟩)
 ·refine au ?_
  exact CR (al.tmp 4 Z Z ER ⟨by rw[if_neg h32,mQ yd],Z⟩)
theorem XW{q:Nat}{S:aR}(ok:S.Ok)(from_:Int)(f:aA){ma:Option Addr}{mc:Nat}{ms:List bj}(hm:aP aC 2 Fr w ma ms)(hml:ms.length≤1000000)(now:Int):aq Tryz.prog 302 [.agg #[.pointer (some ⟨q,0,none⟩)],.int .i64 from_,.agg (f.cells (ma,ms.length,mc)).toArray,.int .i64 now] Fr w [bB q S] (fun v L=>oT (S.take f ms now).2 (bB q (S.take f ms now).1) v L):=by
 refine TF 14 Tryz.func302 Z ym aw Z Z ?_
 refine CS (CG (VG (VB (vs:=[.pointer (some ⟨q,0,none⟩)]) Z fun s1=>VG (VB (vs:=f.cells (ma,ms.length,mc)) Z fun fb=>?_))))
 refine cF ?_
 refine Fs ?_
 refine cF ?_
 refine VG (VQ 2 Z (fun Fr w hF hw hS=>X3 Fr w ok f (hm.of hF hw) hml now) Z mP ?_)
 rintro _ _ ⟨X,a,c,hX,rfl,rfl⟩
 refine cF ?_
 exact CR (al.tmp 8 Z Z (aa.tail.trans aa.tail).ah ⟨_,Z,X,a,c,hX,Z,Z⟩)
end
end Cl
namespace Cl
open Go Vg T Api Ch Rep Conf Lg Rd
attribute [local irreducible] VO VC VA
theorem Su{P:Program}{ty:Nat}{ps rs:Array TypeId}{vd:Bool}(hund:P.underlying ty=some (.func ps rs vd)){v:Value}{r:Bool}(hv:(v=.nilFunc∧r=true)∨∃f a c,v=.func f a c∧r=false)(w:World):(Op.equal ty v .nilFunc).run P w=.ok r w:=by
 unfold Op.equal
 show(Op.equalIn (9999+1) ty v .nilFunc).run P w=_
 rw[Op.equalIn,Sem.run_bind,run_underlying hund]
 rcases hv with ⟨rfl,rfl⟩ | ⟨f,a,c,rfl,rfl⟩<;>rfl
theorem H7{X:Cx}{e:Env}{T yt:TypeId}{x:Operand}{v:Value}{ps rs:Array TypeId}{vd:Bool}(r:Bool)(hT:X.P.underlying T=some (.func ps rs vd))(hx:ev e x=some v)(hv:(v=.nilFunc∧r=false)∨∃f a c,v=.func f a c∧r=true):
  eD X (.binOp .neq T x (.const .nilFunc) yt) e (.bool r):=by
 intro a' ha dst ty pos after guard w
 have hq:=Su hT (v:=v) (r:=!r) (by rcases hv with ⟨h1,h2⟩ | ⟨f,a,c,h1,h2⟩<;>simp[h1,h2]) w
 simp only[execOp,ha.ev hx]
 have h:(do eqGuard .neq T x (.const .nilFunc) v .nilFunc;binOp .neq T v .nilFunc:Sem Value).run X.P w=.ok (.bool r) w:=by
  have hg:(eqGuard .neq T x (.const .nilFunc) v .nilFunc).run X.P w=.ok () w:=by
   rcases hv with ⟨rfl,_⟩ | ⟨f,a,c,rfl,_⟩<;>rfl
  rw[Sem.run_bind,hg,Result.andThen_ok]
  have hb:binOp .neq T v .nilFunc=(do pure (.bool (!(←Op.equal T v .nilFunc))):Sem Value):=by
   rcases hv with ⟨rfl,_⟩ | ⟨f,a,c,rfl,_⟩<;>rfl
  rw[hb,Sem.run_bind,hq]
  cases r<;>rfl
 rw[Sem.run_bind]
 show((do eqGuard .neq T x (.const .nilFunc) v .nilFunc;binOp .neq T v .nilFunc:Sem Value).run X.P w).andThen _=_
 rw[h];rfl
section
variable {p:Nat} {C:ay} {b e:Nat}
theorem XA{y:eL}:oD y 16=ba 301 [.pointer (some ⟨y.mp,0,none⟩)] []:=rfl
theorem XB{y:eL}{k q:Nat}{r:az}(h1:(k:Int)≠16)(h:y.nr[k]?=some (some (q,r))):oD y k=ba 253 [.pointer (some ⟨q,0,none⟩)] []:=by
 rw[oD,if_neg h1,if_neg yd,fy,h];rfl
theorem XC{y:eL}{k:Nat}(h1:(k:Int)≠16)(h:∀q r,y.nr[k]?≠some (some (q,r))):oD y k=match (if (k:Int)<32 then none else y.cr[((k:Int)-32).toNat]?) with
   | some z=>ba 302 [.agg #[.pointer (some ⟨z.1,0,none⟩)]] []
   | none=>.nilFunc:=by
 have hno:(y.nr[k]?).getD none=none:=by
  cases hz:y.nr[k]? with
  | none=>rfl
  | some z=>
   cases z with
   | none=>rfl
   | some z=>exact absurd hz (h z.1 z.2)
 rw[oD,if_neg h1,if_neg yd,fy,hno]<;>rfl
theorem Ri{y:eL}(fit:eW C y){k:Nat}(h:∀q r,y.nr[k]?≠some (some (q,r))):C.node (k:Int)=none:=by
 unfold ay.node
 rw[if_neg yd,fy,←fit.nr,dH]
 cases hz:y.nr[k]? with
 | none=>rfl
 | some z=>
  cases z with
  | none=>rfl
  | some z=>exact absurd hz (h z.1 z.2)
theorem XM(ok:C.Ok b e)(hb:b<100000000)(x toQ i:Int):aq Tryz.prog 192 [.pointer (some ⟨p,0,none⟩),.int .i64 x,.int .i64 toQ,.int .i64 i] Fr w [bx p C]
  (fun v L=>v=.int .i64 (C.lg (x,toQ) i).2∧L=[bx p (C.lg (x,toQ) i).1]):=by
 have hcl:=ok.di
 have hnd:=ok.Dz
 refine TF 57 Tryz.func192 Z ym aw Z Z ?_
 refine Bd ?_
 rintro y fit
 refine Fy ?_
 have hln:=tU fit
 have hnn:=uw fit
 refine aj ?_
 refine VG (VQ 5 Z (fun Fr w hF hw hS=>HY Fr w ok.aQ x toQ i) Z (ψ:=fun v H=>v=rF C.aQ (x,toQ) i∧H=cu y.lp (C.aQ.drop (x,toQ) i).1) yz ?_)
 rintro _ _ ⟨rfl,rfl⟩
 cases hf:C.aQ.find (x,toQ) i with
 | none=>
  have hr:C.lg (x,toQ) i=(C,4):=by unfold ay.lg;rw[hf]
  rw[uc hf,Cj hf]
  refine ae ?_
  refine VG (VO.alloc Z fun mb=>?_)
  refine u7 ?_
  refine oK ?_
  exact CR (al.tmp 8 Z Z (aa.trans (aa.tail (H:=pt mb _ jF)) (mY (C:=C) (p:=p) (R:=[]) fit)).ah ⟨by rw[hr],by rw[hr]⟩)
 | some t=>
 obtain⟨ha1,ha2⟩:=ok.lM.found hf
 obtain⟨hx0,hx1⟩:=F8 ha1
 obtain⟨ht0,ht1⟩:=F8 ha2
 obtain⟨k,rfl⟩:∃k:Nat,toQ=k:=⟨toQ.toNat,by dsimp only at ht0;omega⟩
 dsimp only at ht0 ht1 hx0 hx1
 rw[vR hf,Ck hf]
 generalize hD:({ C with aQ:=C.aQ.jO (x,k) i }:ay)=D
 have okd:D.Ok b e:=hD▸ok.wm (by rw[ay.Ok.Hv hf];exact ok.aQ.drop _ _) (ok.lM.jO hf)
 have fitd:eW D y:=hD▸⟨fit.nr,fit.cr,fit.qc⟩
 obtain⟨s,rfl⟩:∃s,t=bT s:=⟨sB t,(Gi t).symm⟩
 have hr:C.lg (x,k) i=(D.rK x k (bT s),0):=by unfold ay.lg;rw[hf];dsimp only;rw[hD]
 have hgot:D.rK x k (bT s)=match getM s with
   | some (f,ms)=>D.l8 x k f ms
   | none=>D:=by unfold ay.rK;rw[Sz]<;>rfl
 refine VO.ah (L':=eH p D y) (aa.of_eq (by rw[←hD];rfl)).ah ?_
 refine ae ?_
 refine VG (VO.alloc Z fun mb=>?_)
 refine VG (VT (vs:=dP x k (bT s)) (cs':=dP x k (bT s)) 0 Z Z Z Z (NR _) Z Z Z ?_)
 refine pR ?_
 refine aj ?_
 refine VG (VK (Lc:=[]) (fun Fr w hF hw hS=>OT Fr w (s:=s)) Z Z ?_)
 intro v L1 hv
 cases hg:getM s with
 | none=>
  rw[hg] at hv hgot
  obtain⟨rfl,rfl⟩:=hv
  dsimp only at hgot
  refine ae ?_
  refine VG (VO.alloc Z fun fb=>?_)
  refine Fq ?_
  refine ae ?_
  refine cF ?_
  refine LR ?_
  refine ae ?_
  refine uT ?_
  refine si ?_
  exact CR (al.tmp 8 Z Z (aa.trans (aa.tail (H:=pt fb _ bM)) (aa.trans (aa.tail (H:=pt mb _ jF)) (mY (C:=D) (p:=p) (R:=[]) fitd))).ah ⟨by rw[hr],by rw[hr,hgot]⟩)
 | some fm=>
 obtain⟨f,ms⟩:=fm
 rw[hg] at hv hgot
 obtain⟨ma,mc,rfl,rfl⟩:=hv
 dsimp only at hgot
 rw[hgot] at hr
 obtain⟨hm6,hi0,hi1⟩:=Pf hg
 refine ae ?_
 refine VG (VO.alloc Z fun fb=>?_)
 refine VG (VT (vs:=f.cells (ma,ms.length,mc)) (cs':=f.cells (ma,ms.length,mc)) 0 Z Z Z Z (NR _) Z Z Z ?_)
 refine VO.ah (L':=pt fb (f.cells (ma,ms.length,mc)) bM::pt mb (dP x k (bT s)) jF::(eH p D y ++ [av aN 2 ma ms.length mc (flat aC ms)])) (by refine aa.ah ?_;refine IP 0 Z ?_;refine IP 1 Z ?_;exact aa.last (L:=eH p D y)) ?_
 refine ae ?_
 refine cF ?_
 refine LR ?_
 by_cases h16:(k:Int)=16
 ·have hk16:k=16:=by omega
  subst hk16
  have ht:D.l8 x (16:Nat) f ms=({ D with aU:=(D.aU.take x f D.now).1,aQ:=cw (16:Nat) D.aQ (D.aU.take x f D.now).2 }:ay):=by
   unfold ay.l8
   rw[if_pos yn];rfl
  rw[ht] at hr
  have fw:=okd.aU.uP x f D.now
  rw[show oD y (16:Nat)=_ from XA]
  refine ae ?_
  refine xf ?_
  refine ae ?_
  refine Fz ?_
  refine tC ?_
  refine CN (L':=pt fb (f.cells (ma,ms.length,mc)) bM::pt mb (dP x (16:Nat) (bT s)) jF::bQ y.mp D.aU::(rn p D y D.aQ ++ [av aN 2 ma ms.length mc (flat aC ms)])) (aa.cons (aa.cons (aa.app (M:=bQ y.mp D.aU::rn p D y D.aQ) Dj aa.refl))).ah ?_
  refine FA ?_
  refine gi ?_
  refine FB ?_
  refine gi ?_
  refine AG (VA.kF 2 Z Z (fun Fr w hF hs hS=>X7 Fr w okd.aU x f (ma,ms.length,mc) D.now) Z Z mP ?_ ?_)
  ·rintro _ _ ⟨X,a,c,hX,rfl,rfl⟩
   exact u_
  rintro _ _ ⟨X,a,c,hX,rfl,rfl⟩
  refine AG (AQ 7 Z (fun Fr w hF hs hS=>nF Fr w (hS.ar 3 Z) okd.aQ (16:Nat) (kB.at_ 2 hS Z hX fw)) Z Z (ψ:=fun v H=>v=.tuple #[]∧H=cu y.lp (cw (16:Nat) D.aQ (X.map Prod.fst))) yz ?_ ?_)
  ·rintro _ _ ⟨rfl,rfl⟩
   exact u_
  rintro _ _ ⟨rfl,rfl⟩
  refine mg ?_
  rw[hX]
  exact CR (al.tmp 8 Z Z (aa.trans (aa.tail (H:=pt fb _ bM)) (aa.trans (aa.tail (H:=pt mb _ jF)) (uu (p:=p) (m:=(D.aU.take x f D.now).1) (l:=cw (16:Nat) D.aQ (D.aU.take x f D.now).2) (a:=a) (c:=c) (X:=X) (R:=[av aN 2 ma ms.length mc (flat aC ms)]) fitd))).ah ⟨by rw[hr],by rw[hr]⟩)
 by_cases hx:∃q r,y.nr[k]?=some (some (q,r))
 ·obtain⟨q,r,hx⟩:=hx
  obtain⟨hn1,hn2⟩:=uv fitd hx
  have hmr:some r∈D.nodes:=ME hn2
  have hfit:=okd.fit r hmr
  have hlr:=okd.last r hmr
  have ht:D.l8 x k f ms=({ D.setNode k (some (db r x f ms D.now).1) with aQ:=cw k D.aQ (fE (db r x f ms D.now).2) }:ay):=by
   unfold ay.l8
   rw[if_neg h16,hn1];rfl
  rw[ht] at hr
  have fw:ed (fE (db r x f ms D.now).2):=ed.of (by have:=uP hfit x f ms D.now;omega)
  rw[XB h16 hx]
  refine ae ?_
  refine xf ?_
  refine ae ?_
  refine Fz ?_
  refine tC ?_
  refine CN (L':=pt fb (f.cells (ma,ms.length,mc)) bM::pt mb (dP x k (bT s)) jF::bd q r::(rq p D y k D.aQ ++ [av aN 2 ma ms.length mc (flat aC ms)])) (aa.cons (aa.cons (aa.app (M:=bd q r::rq p D y k D.aQ) (Dy hx) aa.refl))).ah ?_
  refine FA ?_
  refine gi ?_
  refine FB ?_
  refine gi ?_
  refine AG (VA.kF 2 Z Z (fun Fr w hF hs hS=>Ki Fr w hfit yd x f (aP.av cj (hS.at_ 12 Z)) yd D.now yd yd) Z Z mP ?_ ?_)
  ·rintro _ _ ⟨X,a,c,hX,rfl,rfl⟩
   exact u_
  rintro _ _ ⟨X,a,c,hX,rfl,rfl⟩
  refine AG (AQ 8 Z (fun Fr w hF hs hS=>nF Fr w (hS.ar 3 Z) okd.aQ k (kB.at_ 2 hS Z hX fw)) Z Z (ψ:=fun v H=>v=.tuple #[]∧H=cu y.lp (cw k D.aQ (X.map Prod.fst))) yz ?_ ?_)
  ·rintro _ _ ⟨rfl,rfl⟩
   exact u_
  rintro _ _ ⟨rfl,rfl⟩
  refine mg ?_
  rw[hX]
  exact CR (al.tmp 8 Z Z (aa.trans (aa.tail (H:=pt fb _ bM)) (aa.trans (aa.tail (H:=pt mb _ jF)) (I1 (p:=p) (r':=(db r x f ms D.now).1) (l:=cw k D.aQ (fE (db r x f ms D.now).2)) (a:=a) (c:=c) (X:=X) (R:=[av aN 2 ma ms.length mc (flat aC ms)]) fitd hx))).ah ⟨by rw[hr],by rw[hr]⟩)
 have hx:∀q r,y.nr[k]?≠some (some (q,r)):=fun q r h=>hx ⟨q,r,h⟩
 have hnone:=Ri fitd hx
 rw[XC h16 hx]
 by_cases hc:∃j q z,k=32+j∧y.cr[j]?=some (q,z)
 ·obtain⟨j,q,z,rfl,hz⟩:=hc
  obtain⟨hn1,hn2⟩:=yM fitd hz
  have ej:((32+j:Nat):Int)-32=(j:Int):=by omega
  have hmz:z∈D.di:=ME hn2
  have okz:=okd.jA z hmz
  have ht:D.l8 x (32+j:Nat) f ms=({ D.kr j (z.take f ms D.now).1 with aQ:=cw (32+j:Nat) D.aQ (z.take f ms D.now).2,bH:=D.bH }:ay):=by
   unfold ay.l8
   rw[if_neg h16,hnone,ej,hn1];rfl
  rw[ht] at hr
  have fw:ed (z.take f ms D.now).2:=aR.uP z f ms D.now
  rw[if_neg yd,ej,fy,hz]
  refine ae ?_
  refine xf ?_
  refine ae ?_
  refine Fz ?_
  refine tC ?_
  refine CN (L':=pt fb (f.cells (ma,ms.length,mc)) bM::pt mb (dP x (32+j:Nat) (bT s)) jF::bB q z::(rh p D y j D.aQ D.bH ++ [av aN 2 ma ms.length mc (flat aC ms)])) (aa.cons (aa.cons (aa.app (M:=bB q z::rh p D y j D.aQ D.bH) (B8 hz) aa.refl))).ah ?_
  refine FA ?_
  refine gi ?_
  refine FB ?_
  refine gi ?_
  refine AG (VA.kF 2 Z Z (fun Fr w hF hs hS=>XW Fr w okz x f (aP.av cj (hS.at_ 12 Z)) yd D.now) Z Z mP ?_ ?_)
  ·rintro _ _ ⟨X,a,c,hX,rfl,rfl⟩
   exact u_
  rintro _ _ ⟨X,a,c,hX,rfl,rfl⟩
  refine AG (AQ 8 Z (fun Fr w hF hs hS=>nF Fr w (hS.ar 3 Z) okd.aQ (32+j:Nat) (kB.at_ 2 hS Z hX fw)) Z Z (ψ:=fun v H=>v=.tuple #[]∧H=cu y.lp (cw (32+j:Nat) D.aQ (X.map Prod.fst))) yz ?_ ?_)
  ·rintro _ _ ⟨rfl,rfl⟩
   exact u_
  rintro _ _ ⟨rfl,rfl⟩
  refine mg ?_
  rw[hX]
  exact CR (al.tmp 8 Z Z (aa.trans (aa.tail (H:=pt fb _ bM)) (aa.trans (aa.tail (H:=pt mb _ jF)) (B9 (p:=p) (s':=(z.take f ms D.now).1) (hi:=D.bH) (l:=cw (32+j:Nat) D.aQ (z.take f ms D.now).2) (a:=a) (c:=c) (X:=X) (R:=[av aN 2 ma ms.length mc (flat aC ms)]) fitd hz))).ah ⟨by rw[hr],by rw[hr]⟩)
 have hcn:D.dO ((k:Int)-32)=none∧(if (k:Int)<32 then none else y.cr[((k:Int)-32).toNat]?)=none:=by
  by_cases h32:(k:Int)<32
  ·exact⟨by unfold ay.dO;rw[if_pos yd],if_pos h32⟩
  obtain⟨j,rfl⟩:∃j:Nat,k=32+j:=⟨k-32,by omega⟩
  have ej:((32+j:Nat):Int)-32=(j:Int):=by omega
  have hz:y.cr[j]?=none:=by
   cases hz:y.cr[j]? with
   | none=>rfl
   | some z=>exact absurd ⟨j,z.1,z.2,rfl,hz⟩ hc
  rw[ej,if_neg h32,fy,hz]
  refine⟨?_,Z⟩
  unfold ay.dO
  rw[if_neg yd,fy,←fitd.cr,dH,hz];rfl
 have ht:D.l8 x k f ms=D:=by
  unfold ay.l8
  rw[if_neg h16,hnone,hcn.1]
 rw[ht] at hr
 rw[hcn.2]
 refine ae ?_
 refine xf ?_
 refine ae ?_
 refine VG (VI (H7 false Tryz.underlying376 Z (.inl ⟨rfl,Z⟩)) ?_)
 refine iR ?_
 exact CR (al.tmp 8 Z Z (aa.trans (aa.tail (H:=pt fb _ bM)) (aa.trans (aa.tail (H:=pt mb _ jF)) (mY (C:=D) (p:=p) (R:=[av aN 2 ma ms.length mc (flat aC ms)]) fitd))).ah ⟨by rw[hr],by rw[hr]⟩)
end
end Cl
namespace Cl
open Go Vg T Api Ch Rep Conf Lg Rd
attribute [local irreducible] VO VC VA
theorem QH{Fr:Nat→Prop}{w:World}{q:Nat}{M:aJ}(h:aV Fr [bQ q M] w):∃a c,a7 Fr w q (cq M a c)∧aP aC 2 Fr w a M.ch.ms:=by
 obtain⟨y,hy⟩:=h.ex
 have hs:=hy.sep
 exact⟨y.1,y.2,hs.ar 0 Z,aP.av cj (hs.at_ 1 Z)⟩
theorem Kf{q:Nat}{M:aJ}(ok:M.Ok)(h:aV Fr [bQ q M] w):aq Tryz.prog 55 [.pointer (some ⟨q,0,none⟩)] Fr w []
  (fun v L=>∃a' c',v=.agg (M.ch.cells a' c').toArray∧L=[av aN 2 a' M.ch.ms.length c' (flat aC M.ch.ms)]):=by
 obtain⟨a,c,h1,h2⟩:=QH h
 exact QK Fr w ok h1 h2
theorem PG{M:aJ}{n now:Int}(h:(M.join n now).2.2≠0):(M.join n now).1=M:=by
 unfold aJ.join at h ⊢
 split
 ·rfl
 ·rename_i h1
  rw[if_neg h1] at h
  split
  ·rfl
  ·rename_i h2;rw[if_neg h2] at h;exact absurd rfl h
section
variable {p:Nat} {C:ay} {y:eL} {b e:Nat}
theorem Rg{l:List jt}{k q:Nat}{r r':az}(hk:k<l.length):flat gU (l.set k (some (q,r)))=flat gU (l.set k (some (q,r'))):=by
 have h:(l.set k (some (q,r)))[k]?=some (some (q,r)):=hO hk
 have:=IW (r':=r') h
 rw[tL] at this
 exact this.symm
theorem IX{l:List jt}{k:Nat}(x:jt)(hk:k<l.length)(rest:List Value):(flat gU l++rest).set (0+k*1) (Dv x)=flat gU (l.set k x)++rest:=by
 rw[bZ]
 have hz:l[k]?=some l[k]:=GE hk
 exact ue (j:=0) Du hz (nQ) (by cases l[k]<;>rfl) rest
theorem PH(fit:eW C y){k q:Nat}(hk:k<y.nr.length){r r':az}{m:aJ}{l:aX}{a a':Option Addr}{c c':Nat}{X X':List e9}:aa (oy (bd q r') a c X::oy (bQ y.mp m) a' c' X' :: [pt p (gN C y) qi,kj y.qa y.qc C.fq.qs,pt y.nb (flat gU (y.nr.set k (some (q,r)))++y.nx) pB,pt y.cb (flat la y.cr++y.cx) qj,cu y.lp l,gQ y.hp C.bH,av e_ 7 y.da C.done.length y.dc (flat bJ C.done),b_ (y.nr.map iy),b_ (y.cr.map mu)])
  [bx p ({ ({ C with aU:=m }:ay).setNode k (some r') with aQ:=l }:ay)]:=by
 rw[Rg (r':=r') hk]
 have e1:=Dw (C:=C) (y:=y) (k:=k) (x:=some (q,r')) ({ ({ C with aU:=m }:ay).setNode k (some r') with aQ:=l }:ay) rfl rfl rfl
 have hz:y.nr[k]?=some y.nr[k]:=GE hk
 refine aa.trans tf ?_
 refine aa.trans (aa.cons tf) ?_
 refine aa.trans (IP 9 Z aa.refl) ?_
 refine aa.trans (zw (f:=iy) hz) ?_
 refine aa.trans aa.tail ?_
 refine aa.trans (M:=bd q r'::b_ ((y.nr.eraseIdx k).map iy)::_) (IP 1 Z (IP 0 Z aa.refl)) ?_
 refine aa.trans (zv (f:=iy) hk (some (q,r'))) ?_
 have fit':eW ({ ({ C with aU:=m }:ay).setNode k (some r') with aQ:=l }:ay) (y.node k (some (q,r'))):=Dx (C:={ C with aU:=m }) ⟨fit.nr,fit.cr,fit.qc⟩ k (some (q,r')) l
 refine aa.rk (K:=[]) _ fit' ?_
 unfold eH
 rw[e1]
 exact(aZ [2,2,1,1,1,1,1,1,0,0])
theorem XN(ok:C.Ok b e)(hb:b<100000000)(n:Int):aq Tryz.prog 196 [.pointer (some ⟨p,0,none⟩),.int .i64 n] Fr w [bx p C]
  (fun v L=>v=.int .i64 (C.join n).2∧L=[bx p (C.join n).1]):=by
 refine TF 65 Tryz.func196 Z ym aw Z Z ?_
 refine Bd ?_
 rintro y fit
 refine CN (L':=bQ y.mp C.aU::rn p C y C.aQ) ((aa.of_eq (bA _)).trans Dj).ah ?_
 have hnn:=uw fit
 have hjb:=PG (M:=C.aU) (n:=n) (now:=C.now)
 have hjf:=ok.aU.HQ n C.now
 have hr0:(C.aU.join n C.now).2.2≠0→C.join n=(C,(C.aU.join n C.now).2.2):=fun h=>by unfold ay.join;dsimp only;rw[if_pos h]
 have hr1:(C.aU.join n C.now).2.2=0→C.join n=((({ C with aU:=(C.aU.join n C.now).1 }:ay).back n).post 16 (C.aU.join n C.now).2.1,0):=fun h=>by unfold ay.join;dsimp only;rw[if_neg bY]
 refine ae ?_
 refine CD (ts 0 9 (.only 9 (ts 10 5 .nil))) ym yo ?_
 refine eu ?_
 refine AG (AQ 0 Z (fun Fr w hF hs hS=>X6 Fr w ok.aU n C.now) Z Z mP ?_ ?_)
 ·rintro _ _ ⟨X,a,c,hX,rfl,rfl⟩
  exact yv
 rintro _ _ ⟨X,a,c,hX,rfl,rfl⟩
 generalize C.aU.join n C.now=J at hjb hjf hr0 hr1 hX
 obtain⟨m,S,er⟩:=J
 dsimp only at hjb hjf hr0 hr1 hX ⊢
 obtain⟨fw,okm⟩:=hjf
 refine eu ?_
 refine ae ?_
 refine VC.dd Z (fun k1=>?_) (fun k1=>CK ?_)
 ·refine ae ?_
  exact CR (al.tmp 4 Z Z (uu (p:=p) (C:=C) (m:=m) (l:=C.aQ) (a:=a) (c:=c) (X:=X) (R:=[]) fit).ah ⟨by rw[hr0 k1],by rw[hr0 k1,hjb k1]⟩)
 have hr:=hr1 se
 refine CS (CS (CG ?_))
 refine ae ?_
 refine VG (VV (fun Fr w hF hw hS=>Ex Fr w fit (hS.ar 1 Z) (hS.ar 3 Z) n) Z ?_)
 refine ae ?_
 have hbk:({ C with aU:=m }:ay).back n=if C.iB n=61 then (({ C with aU:=m }:ay).setNode n (some (db (dz C.fq n true) 16 (ke m.ch) m.ch.ms C.now).1)).post n (fE (db (dz C.fq n true) 16 (ke m.ch) m.ch.ms C.now).2) else ({ C with aU:=m }:ay):=rfl
 refine CE Z (fun h61=>?_) (fun h61=>CK ?_)
 rotate_left
 ·rw[hbk,if_neg h61] at hr
  refine CS (CG ?_)
  refine ae ?_
  refine VG (VQ 5 Z (fun Fr w hF hs hS=>nF Fr w (hS.ar 1 Z) ok.aQ 16 (kB.at_ 0 hS Z hX fw)) Z (ψ:=fun v H=>v=.tuple #[]∧H=cu y.lp (cw 16 C.aQ (X.map Prod.fst))) yz ?_)
  rintro _ _ ⟨rfl,rfl⟩
  rw[hX]
  refine ae ?_
  exact CR (al.tmp 4 Z Z (uu (p:=p) (C:=C) (m:=m) (l:=cw 16 C.aQ S) (a:=a) (c:=c) (X:=X) (R:=[]) fit).ah ⟨by rw[hr],by rw[hr];rfl⟩)
 rw[hbk,if_pos h61] at hr
 obtain⟨k,rfl,hk,hkn⟩:∃k:Nat,n=k∧k<y.nr.length∧y.nr[k]?=some none:=by
  have hu:=h61
  unfold ay.iB at hu
  split at hu
  ·cases hu
  ·rename_i h1
   split at hu
   ·rename_i h2
    have hk:n.toNat<y.nr.length:=by omega
    have en:n=(n.toNat:Int):=by omega
    have hz:y.nr[n.toNat]?=some y.nr[n.toNat]:=GE hk
    refine⟨n.toNat,en,hk,?_⟩
    have:=(uv fit hz).1
    rw[←en] at this
    rw[this] at h2
    rw[hz]
    cases hq:y.nr[n.toNat] with
    | none=>rfl
    | some v=>rw[hq] at h2;cases h2
   ·cases hu
 have hnl:=ok.nl
 have hnb:=mw ok.cf
 have hok:qw C.fq (k:Int):=⟨ok.cf,by omega,by omega⟩
 have hfit:=Ds ok.cf (k:Int) true
 have hlast:(dz C.fq (k:Int) true).aL.last=0:=by
  unfold dz;split
  ·rfl
  split<;>rfl
 have hml:=okm.ml
 have hei:(ke m.ch).entry.index=0:=rfl
 refine cF ?_
 refine VG (VL 1 (C.fq.cells y.qa y.qc) Z Z Z Z ?_)
 refine cF ?_
 refine VG (VK (Lc:=[]) (fun Fr w hF hw hS=>Rep.jH Fr w C.fq y.qa y.qc (we (hS.at_ 2 Z)) trivial fit.qc k true) Z Z ?_)
 intro v L hv
 rw[if_pos hok] at hv
 obtain⟨q,rfl,rfl⟩:=hv
 generalize dz C.fq (k:Int) true=r0 at hfit hlast hr
 have fw2:ed (fE (db r0 16 (ke m.ch) m.ch.ms C.now).2):=ed.of (by have:=uP hfit 16 (ke m.ch) m.ch.ms C.now;omega)
 have okl2:=aX.Ok.cw (k:Int) (fE (db r0 16 (ke m.ch) m.ch.ms C.now).2) ok.aQ
 refine ae ?_
 refine gh ?_
 refine xg ?_
 refine VG (VO.st 4 (cs':=flat gU (y.nr.set k (some (q,r0)))++y.nx) Z Z Z Z Mo (IX (some (q,r0)) hk y.nx) Z ?_)
 refine ae ?_
 refine gh ?_
 refine VG (VK (Lc:=[]) (fun Fr w hF hw hS=>Kf Fr w okm (((hS.at_ 1 Z).sep).at_ 0 Z)) Z Z ?_)
 rintro _ _ ⟨ma,mc,rfl,rfl⟩
 refine ae ?_
 refine VG (VI (LB (pv:=[(0,.int .i64 8),(11,.agg (m.ch.cells ma mc).toArray)]) ((ke m.ch).cells (ma,m.ch.ms.length,mc)) Z Z Z ym Z) ?_)
 refine VG (VO.alloc Z fun fb=>?_)
 refine VG (VT (vs:=(ke m.ch).cells (ma,m.ch.ms.length,mc)) (cs':=(ke m.ch).cells (ma,m.ch.ms.length,mc)) 0 Z Z Z Z (NR _) Z Z Z ?_)
 refine ae ?_
 refine CD (ts 0 8 (.only 8 (.only 9 .nil))) ym yo ?_
 refine pL ?_
 refine AG (VA.cK 0 ((ke m.ch).cells (ma,m.ch.ms.length,mc)) Z Z Z Z Z ?_)
 refine pL ?_
 refine AG (AQ 2 Z (fun Fr w hF hs hS=>Ki Fr w hfit yd 16 (ke m.ch) (aP.av cj (hS.at_ 1 Z)) yd C.now yd yd) Z Z mP ?_ ?_)
 ·rintro _ _ ⟨X2,a2,c2,hX2,rfl,rfl⟩
  exact Mp
 rintro _ _ ⟨X2,a2,c2,hX2,rfl,rfl⟩
 generalize db r0 16 (ke m.ch) m.ch.ms C.now=T at hr fw2 okl2 hX2
 refine AG (AQ 8 Z (fun Fr w hF hs hS=>nF Fr w (hS.ar 4 Z) ok.aQ k (kB.at_ 2 hS Z hX2 fw2)) Z Z (ψ:=fun v H=>v=.tuple #[]∧H=cu y.lp (cw k C.aQ (X2.map Prod.fst))) yz ?_ ?_)
 ·rintro _ _ ⟨rfl,rfl⟩
  exact Mp
 rintro _ _ ⟨rfl,rfl⟩
 rw[hX2]
 refine mg ?_
 refine VG (VQ 8 Z (fun Fr w hF hs hS=>nF Fr w (hS.ar 4 Z) okl2 16 (kB.at_ 3 hS Z hX fw)) Z (ψ:=fun v H=>v=.tuple #[]∧H=cu y.lp (cw 16 (cw k C.aQ (fE T.2)) (X.map Prod.fst))) yz ?_)
 rintro _ _ ⟨rfl,rfl⟩
 rw[hX]
 refine ae ?_
 exact CR (al.tmp 4 Z Z (aa.trans (aa.tail (H:=pt fb _ bM)) (aa.trans (aa.tail (H:=av aN 2 ma _ mc _)) (PH (p:=p) (C:=C) (r:=r0) (r':=T.1) (m:=m) (l:=cw 16 (cw k C.aQ (fE T.2)) S) (a:=a2) (c:=c2) (X:=X2) (a':=a) (c':=c) (X':=X) fit hk))).ah ⟨by rw[hr],by rw[hr];rfl⟩)
end
end Cl
namespace Cl
open Go Vg T Api Ch Rep Conf Lg Rd
attribute [local irreducible] VO VC VA
theorem MB{α β:Type}(f:β→α×Nat→β)(x:β){l:List α}{k:Nat}{a:α}(h:l[k]?=some a):(l.zipIdx.take (k+1)).foldl f x=f ((l.zipIdx.take k).foldl f x) (a,k):=by
 have:l.zipIdx[k]?=some (a,k):=by rw[List.getElem?_zipIdx,h];simp
 rw[fS,this,vo]
 rfl
theorem MA{α β:Type}(f:β→α×Nat→β)(x:β)(l:List α):(l.zipIdx.take l.length).foldl f x=l.zipIdx.foldl f x:=by
 rw[p4 (by rw[xK];exact NR _)]
section
variable {p:Nat} {C:ay} {b e:Nat}
theorem XJ(ok:C.Ok b e)(he:e<1000000):aq Tryz.prog 152 [.pointer (some ⟨p,0,none⟩)] Fr w [bx p C]
  (fun v L=>v=.tuple #[]∧L=[bx p C.behind]):=by
 have hcl:=ok.di
 have hnd:=ok.Dz
 have hev:=ok.ev
 have hdn:=ok.dn
 refine TF 115 Tryz.func152 Z ym aw Z Z ?_
 refine Bd ?_
 rintro y fit
 refine Fy ?_
 have hln:=tU fit
 have hnn:=uw fit
 refine aj ?_
 refine VC.loop (σ:=Nat) (fun k=>[(0,pV p),(17,.slice (some ⟨y.cb,0,none⟩) y.cr.length y.cc),(18,.int .i64 y.cr.length),(19,.int .i64 (k:Int))])
  (fun k=>eH p ({ C with bH:=(C.di.zipIdx.take k).foldl lQ C.bH }:ay) y) (fun k=>k≤y.cr.length) (fun k=>y.cr.length-k) 0
  (bK _) aF ER ?_
 rintro k hk0
 have hH:=ay.Ok.Cr ok.bH (C.di.zipIdx.take k) (by rw[iT,xK];omega)
 rw[iT,xK] at hH
 obtain⟨okh,-,hhe⟩:=hH
 refine ae ?_
 refine CP (p:=(k:Int)<y.cr.length) Z (fun h1=>CK ?_) (fun h1=>CX ?_)
 ·have hkl:k<y.cr.length:=by omega
  have hx2:y.cr[k]?=some y.cr[k]:=GE hkl
  generalize y.cr[k]=z at hx2
  obtain⟨q,s⟩:=z
  obtain⟨hnx,hns⟩:=yM fit (k:=k) (x:=(q,s)) hx2
  have hm:s∈C.di:=ME hns
  have hsu:=MB lQ C.bH hns
  generalize (C.di.zipIdx.take k).foldl lQ C.bH=H at okh hhe hsu
  have hcp:(y.cr.map mu)[k]?=some (bB q s):=by rw[dH,hx2];rfl
  refine nM ?_
  refine VG (VO.load Z Z (an.one 4 Z (vK hx2)) ?_)
  refine ae ?_
  refine VG (VV (fun Fr w hF hw hS=>Kh Fr w (ok.jA s hm) (((hS.at_ 9 Z).sep).at_ k hcp)) Z ?_)
  unfold zT
  generalize ho:s.outcome=o
  refine ae ?_
  refine VG (VO.alloc Z fun ob=>?_)
  refine VG (VT (vs:=cL (o.getD kp)) (cs':=cL (o.getD kp)) 0 Z Z Z Z (NR _) Z Z Z ?_)
  refine ae ?_
  cases o with
  | none=>
   have e1:lQ H (s,k)=H:=by unfold lQ;dsimp only;rw[ho]
   refine qT ?_
   refine pQ ?_
   exact LS
  | some o=>
   have e1:lQ H (s,k)=H.end_ k s.seq o:=by unfold lQ;dsimp only;rw[ho]
   refine l_ ?_
   refine CD (ts 0 6 (ts 7 1 (.only 6 (.only 8 .nil)))) ym yo ?_
   refine eu ?_
   refine AG (VA.cK 0 (cL o) Z Z Z Z Z ?_)
   refine AG (AR (fun Fr w hF hw hS=>Ey Fr w (ok.jA s hm) (((hS.at_ 10 Z).sep).at_ k hcp)) Z Z Mq ?_)
   refine AG (AQ 7 Z (fun Fr w hF hs hS=>Pp Fr w okh yd k s.seq o) Z Z (ψ:=fun v K=>v=.int .i64 (H.o6 k s.seq o)∧K=gQ y.hp (H.end_ k s.seq o)) yz ?_ ?_)
   ·rintro _ _ ⟨rfl,rfl⟩
    exact Mq
   rintro _ _ ⟨rfl,rfl⟩
   refine cG ?_
   refine fx ?_
   exact LS
 have hkn:k=C.di.length:=by omega
 subst hkn
 rw[MA]
 generalize hH2:C.di.zipIdx.foldl lQ C.bH=H
 clear okh hhe
 refine aj ?_
 refine VC.loop (σ:=Nat×Option Addr×Nat) (fun s=>[(0,pV p),(43,.slice (some ⟨y.nb,0,none⟩) y.nr.length y.nc),(44,.int .i64 y.nr.length),(45,.int .i64 (s.1:Int))])
  (fun s=>eH p ({ C with bH:=H,done:=(C.nodes.zipIdx.take s.1).foldl iH C.done }:ay) { y with da:=s.2.1,dc:=s.2.2 }) (fun s=>s.1≤y.nr.length) (fun s=>y.nr.length-s.1) (0,y.da,y.dc)
  (bK _) aF ER ?_
 rintro⟨k,da,dc⟩ hk0
 dsimp only at hk0
 have hdk:((C.nodes.zipIdx.take k).foldl iH C.done).length≤4096:=ay.Ok.Hc hdn fun x hx r hr=>ok.fit r (by
  have:=List.mem_zipIdx' (x:=x.1) (i:=x.2) (List.mem_of_mem_take hx)
  rw[←hr]
  exact ME (by rw[GE this.1,←this.2]))
 refine ae ?_
 refine CP (p:=(k:Int)<y.nr.length) Z (fun h1=>CK ?_) (fun h1=>CX ?_)
 rotate_left
 ·have hkn:k=C.nodes.length:=by omega
  subst hkn
  have hfin:C.behind=({ C with bH:=H,done:=(C.nodes.zipIdx.take C.nodes.length).foldl iH C.done }:ay):=by rw[MA,←hH2];rfl
  exact al.void Z (mY (p:=p) (C:=({ C with bH:=H,done:=(C.nodes.zipIdx.take C.nodes.length).foldl iH C.done }:ay)) (y:={ y with da:=da,dc:=dc }) (R:=[]) ⟨fit.nr,fit.cr,fit.qc⟩).ah ⟨rfl,by rw[hfin]⟩
 have hkl:k<y.nr.length:=by omega
 have hx2:y.nr[k]?=some y.nr[k]:=GE hkl
 generalize y.nr[k]=z at hx2
 obtain⟨hnx,hns⟩:=uv fit (k:=k) (x:=z) hx2
 have hsu:=MB iH C.done hns
 generalize (C.nodes.zipIdx.take k).foldl iH C.done=d at hdk hsu
 refine CS (VC.cZ (σ:=Option Addr×Nat) (fun _=>[(0,pV p),(43,.slice (some ⟨y.nb,0,none⟩) y.nr.length y.nc),(44,.int .i64 y.nr.length),(45,.int .i64 (k:Int))])
  (fun s=>eH p ({ C with bH:=H,done:=(C.nodes.zipIdx.take (k+1)).foldl iH C.done }:ay) { y with da:=s.1,dc:=s.2 }) (fun _=>True) ?_ ?_)
 rotate_left
 ·rintro⟨da',dc'⟩ -
  refine fx ?_
  exact⟨(k+1,da',dc'),by dsimp only;omega,by dsimp only;omega,SC Z (SC Z (SC Z (Sub.int Z yd (SN _)))),ER⟩
 have stay:iH d (z.map Prod.snd,k)=d→eH p ({ C with bH:=H,done:=(C.nodes.zipIdx.take (k+1)).foldl iH C.done }:ay) { y with da:=da,dc:=dc }=eH p ({ C with bH:=H,done:=d }:ay) { y with da:=da,dc:=dc }:=fun h=>by rw[hsu,h]
 refine nM ?_
 refine VG (VO.load Z Z (an.one 3 Z (qy hx2)) ?_)
 cases z with
 | none=>
  refine ae ?_
  refine VG (VY 52 true Z Z ?_)
  refine va ?_
  refine CX ?_
  exact⟨(da,dc),trivial,aF,by dsimp only;rw[stay rfl];exact ER⟩
 | some z=>
 obtain⟨q,r⟩:=z
 have hm:some r∈C.nodes:=ME hns
 have okr:=(ok.fit r hm).ok
 have hcp:(y.nr.map iy)[k]?=some (bd q r):=by rw[dH,hx2];rfl
 have hdN:iH d (some r,k)=if r.since=0∨r.ch.ms.length=0∨zp r.ch.ms≠k∨r.win.done≤d.length then d else d++(r.log.take r.win.done.toNat).drop d.length:=rfl
 show VO _ _ _ _ (bI (some 49) (.pointer (some ⟨q,0,none⟩)) _) _ _
 refine ae ?_
 refine VG (VY 52 false Z Z ?_)
 refine au ?_
 refine VG (VV (fun Fr w hF hw hS=>Sp Fr w (((hS.at_ 8 Z).sep).at_ k hcp)) Z ?_)
 refine ae ?_
 refine CP (p:=r.since=0) Z (fun k1=>?_) (fun k1=>CK ?_)
 ·refine CX ?_
  exact⟨(da,dc),trivial,aF,by dsimp only;rw[stay (by show iH d (some r,k)=d;rw[hdN,if_pos (.inl k1)])];exact ER⟩
 refine ae ?_
 refine VG (VK (Lc:=[]) (fun Fr w hF hw hS=>Rep.NL Fr w okr (((hS.at_ 8 Z).sep).at_ k hcp)) Z Z ?_)
 rintro _ _ ⟨ma,mc,rfl,rfl⟩
 refine VO.bu 0 Z (aY.rl aN ma mc r.ch.ms cj) ?_
 rintro⟨ra,rc,rb,rcs,rxs⟩ ⟨rok,rv,rx⟩
 dsimp only at rx
 subst rx
 injection rv with e1 _ e3
 subst e1 e3
 refine ae ?_
 refine VG (VI (H4 (v:=.slice ra r.ch.ms.length rc) Tryz.underlying91 Z Z (fun w=>rW (nS.look aw (t:=89) (ti:=T.t89) Z) Z Z w)) ?_)
 refine ae ?_
 by_cases k2:r.ch.ms.length=0
 ·refine VG (VY 63 true Z (DT yd) ?_)
  refine va ?_
  refine CX ?_
  exact⟨(da,dc),trivial,aF,by dsimp only;rw[stay (by show iH d (some r,k)=d;rw[hdN,if_pos (.inr (.inl k2))])];exact aa.tail.ah⟩
 have hml:=okr.ch.len
 have hlm:r.ch.ms[r.ch.ms.length-1]?=some r.ch.ms[r.ch.ms.length-1]:=GE yd
 generalize r.ch.ms[r.ch.ms.length-1]=lm at hlm
 have hlq:zp r.ch.ms=lm.1:=by unfold zp;rw[List.getLast?_eq_getElem?,hlm]
 obtain⟨tb,tof,htb,hta,hrd⟩:=RL.Ok.ld (t:=aN) (k:=r.ch.ms.length-1) (x:=lm) rok hlm (cj lm)
 dsimp only at hta
 subst hta
 refine VG (VY 63 false Z (DF yd) ?_)
 refine au ?_
 refine mN ?_
 rw[show((r.ch.ms.length:Int)-1)=((r.ch.ms.length-1:Nat):Int) by omega]
 refine VG (VI (dU (r.ch.ms.length-1) Z Z Z Z Z Z yd) ?_)
 refine ae ?_
 refine VG (VO.load Z Z ((hrd 0 Z).2 _ 0 (.int .i64 lm.1) Z Z) ?_)
 refine ae ?_
 refine VC.dd Z (fun k3=>?_) (fun k3=>CK ?_)
 ·refine CX ?_
  exact⟨(da,dc),trivial,aF,by dsimp only;rw[stay (by show iH d (some r,k)=d;rw[hdN,if_pos (.inr (.inr (.inl (by rw[hlq];exact k3))))])];exact aa.tail.ah⟩
 refine ae ?_
 refine VG (VK (Lc:=[]) (fun Fr w hF hw hS=>Yi Fr w okr (((hS.at_ 9 Z).sep).at_ k hcp)) Z Z ?_)
 rintro _ _ ⟨wq,rfl,rfl⟩
 refine VG (VV (fun Fr w hF hw hS=>Win.yQ Fr w (hS.ar 0 Z) okr.win.dh) Z ?_)
 refine ae ?_
 refine gh ?_
 refine CP (p:=r.win.done≤(d.length:Int)) Z (fun k4=>?_) (fun k4=>CK ?_)
 ·refine CX ?_
  exact⟨(da,dc),trivial,aF,by dsimp only;rw[stay (by show iH d (some r,k)=d;rw[hdN,if_pos (.inr (.inr (.inr k4)))])];exact(aa.trans aa.tail aa.tail).ah⟩
 have hd1:=okr.win.kI
 have hd2:=okr.last
 have hd3:=okr.win.ir
 have hdE:iH d (some r,k)=d++(r.log.drop d.length).take (r.win.done.toNat-d.length):=by
  rw[hdN,if_neg (by rw[hlq];omega),List.drop_take]
 refine ae ?_
 refine VG (VK (Lc:=[]) (fun Fr w hF hw hS=>Qr Fr w okr (((hS.at_ 10 Z).sep).at_ k hcp)) Z Z ?_)
 rintro _ _ ⟨lq,rfl,rfl⟩
 refine ae ?_
 refine Bc ?_
 refine u5 ?_
 refine ae ?_
 refine VC.loop (σ:=Nat×Option Addr×Nat) (fun s=>[(0,pV p),(9,.int .i64 r.win.done),(10,pV lq),(11,.int .i64 ((d.length:Int)+1+(s.1:Int))),(43,.slice (some ⟨y.nb,0,none⟩) y.nr.length y.nc),(44,.int .i64 y.nr.length),(45,.int .i64 (k:Int))])
  (fun s=>bw lq r.log::eH p ({ C with bH:=H,done:=d++(r.log.drop d.length).take s.1 }:ay) { y with da:=s.2.1,dc:=s.2.2 }) (fun s=>(d.length:Int)+s.1≤r.win.done) (fun s=>(r.win.done-d.length).toNat-s.1) (0,da,dc)
  yp (SC rfl (SC rfl (SC rfl (Sub.int rfl yp aF)))) (by dsimp only;rw[p5,bA];exact(aa.cons (aa.trans aa.tail aa.tail)).ah) ?_
 rintro⟨j,da',dc'⟩ hj
 dsimp only at hj ⊢
 refine ae ?_
 refine CP (p:=(d.length:Int)+1+j≤r.win.done) Z (fun k5=>CK ?_) (fun k5=>CX ?_)
 rotate_left
 ·have hjj:j=r.win.done.toNat-d.length:=by omega
  subst hjj
  exact⟨(da',dc'),trivial,aF,by dsimp only;rw[hsu];show cI _ _ (eH p ({ C with bH:=H,done:=iH d (some r,k) }:ay) _);rw[hdE];exact aa.tail.ah⟩
 have hle:r.log[d.length+j]?=some r.log[d.length+j]:=GE yd
 generalize r.log[d.length+j]=e0 at hle
 have hat:eF r.log ((d.length:Int)+1+j)=some e0:=by
  unfold eF
  rw[if_pos yd,←hle]
  congr 1
  omega
 have htk:d++(r.log.drop d.length).take (j+1)=(d++(r.log.drop d.length).take j) ++ [e0]:=by
  rw[fS,qZ,hle,eV]
  rfl
 have hDl:(d++(r.log.drop d.length).take j).length≤10000:=by
  rw[a_,iT,q3];omega
 generalize hDD:d++(r.log.drop d.length).take j=D at htk hDl
 refine ae ?_
 refine VG (VV (fun Fr w hF hw hS=>Lg.vF Fr w (hS.at_ 0 Z) ((d.length:Int)+1+j) yd yd) Z ?_)
 rw[hat]
 refine ae ?_
 refine VG (VO.alloc Z fun eb=>?_)
 refine VG (VT (vs:=bJ e0) (cs':=bJ e0) 0 Z Z Z Z (NR _) Z Z Z ?_)
 refine tC ?_
 refine CD (ts 0 6 (.only 6 (.only 7 (ts 8 2 (.only 10 .nil))))) ym yo ?_
 refine gF ?_
 refine AG (VA.cK 0 (bJ e0) Z Z Z Z Z ?_)
 refine AG (AO (aG.buildSlice (n:=1) (pv:=[(0,.agg (bJ e0).toArray)]) (cells:=bJ e0) rfl rfl rfl rfl yn (fN rfl rfl rfl)) rfl (fun v L' g=>by obtain⟨nb,rfl,rfl⟩:=g;exact(by(try refine Pd.st ?_);(repeat(first|exact Pd.nil|exact Pd.fnil|refine Pd.inner ?_|refine Pd.skip yo ?_|refine zf (zo 0 rfl rfl) ?_|refine zf (zo 1 rfl rfl) ?_|refine zf (zo 2 rfl rfl) ?_|refine zf (zo 3 rfl rfl) ?_|refine zf (zm 0 rfl rfl) ?_|refine zf (zm 1 rfl rfl) ?_|refine zf (zm 2 rfl rfl) ?_|refine zf (zm 3 rfl rfl) ?_|refine zf (an.ar (an.many 1 rfl rfl) rfl) ?_|refine zf ((an.many 1 rfl rfl)) ?_|refine zc (zo 0 rfl rfl) ?_|refine zc (zo 1 rfl rfl) ?_|refine zc (zo 2 rfl rfl) ?_|refine zc (zo 3 rfl rfl) ?_|refine zc (zm 0 rfl rfl) ?_|refine zc (zm 1 rfl rfl) ?_|refine zc (zm 2 rfl rfl) ?_|refine zc (zm 3 rfl rfl) ?_|refine zc (an.ar (an.many 1 rfl rfl) rfl) ?_|refine zc ((an.many 1 rfl rfl)) ?_)))) ?_)
 rintro _ _ ⟨nb,rfl,rfl⟩
 refine AG (AO (aG.append (m:=1) (news:=bJ e0) 10 rfl rfl rfl rfl rfl rfl rfl (dN.pt 0 rfl rfl rfl) rfl (sG (k:=20000) yp yn) yp) rfl (fun v L' g=>by obtain⟨a2,c2,rfl,hc2,rfl⟩:=g;exact(by(try refine Pd.st ?_);(repeat(first|exact Pd.nil|exact Pd.fnil|refine Pd.inner ?_|refine Pd.skip yo ?_|refine zf (zo 0 rfl rfl) ?_|refine zf (zo 1 rfl rfl) ?_|refine zf (zo 2 rfl rfl) ?_|refine zf (zo 3 rfl rfl) ?_|refine zf (zo 4 rfl rfl) ?_|refine zf (zm 0 rfl rfl) ?_|refine zf (zm 1 rfl rfl) ?_|refine zf (zm 2 rfl rfl) ?_|refine zf (zm 3 rfl rfl) ?_|refine zf (zm 4 rfl rfl) ?_|refine zf (an.ar (an.many 2 rfl rfl) rfl) ?_|refine zf ((an.many 2 rfl rfl)) ?_|refine zc (zo 0 rfl rfl) ?_|refine zc (zo 1 rfl rfl) ?_|refine zc (zo 2 rfl rfl) ?_|refine zc (zo 3 rfl rfl) ?_|refine zc (zo 4 rfl rfl) ?_|refine zc (zm 0 rfl rfl) ?_|refine zc (zm 1 rfl rfl) ?_|refine zc (zm 2 rfl rfl) ?_|refine zc (zm 3 rfl rfl) ?_|refine zc (zm 4 rfl rfl) ?_|refine zc (an.ar (an.many 2 rfl rfl) rfl) ?_|refine zc ((an.many 2 rfl rfl)) ?_)))) ?_)
 rintro _ _ ⟨a2,c2,rfl,hc2,rfl⟩
 refine pL ?_
 refine AG (VA.st 4 (cs':=gN ({ C with bH:=H,done:=D ++ [e0] }:ay) { y with da:=a2,dc:=c2 }) Z Z Z Z Z (by show 18<19;omega) (by unfold gN;dsimp only;rw[a_];rfl) Z (by(try refine Pd.st ?_);(repeat(first|exact Pd.nil|exact Pd.fnil|refine Pd.inner ?_|refine Pd.skip yo ?_|refine zf (zo 0 Z Z) ?_|refine zf (zo 1 Z Z) ?_|refine zf (zo 2 Z Z) ?_|refine zf (zo 3 Z Z) ?_|refine zf (zo 4 Z Z) ?_|refine zf (zm 0 Z Z) ?_|refine zf (zm 1 Z Z) ?_|refine zf (zm 2 Z Z) ?_|refine zf (zm 3 Z Z) ?_|refine zf (zm 4 Z Z) ?_|refine zf (an.ar (an.many 2 Z Z) Z) ?_|refine zf ((an.many 2 Z Z)) ?_|refine zc (zo 0 Z Z) ?_|refine zc (zo 1 Z Z) ?_|refine zc (zo 2 Z Z) ?_|refine zc (zo 3 Z Z) ?_|refine zc (zo 4 Z Z) ?_|refine zc (zm 0 Z Z) ?_|refine zc (zm 1 Z Z) ?_|refine zc (zm 2 Z Z) ?_|refine zc (zm 3 Z Z) ?_|refine zc (zm 4 Z Z) ?_|refine zc (an.ar (an.many 2 Z Z) Z) ?_|refine zc ((an.many 2 Z Z)) ?_))) ?_)
 refine cG ?_
 refine fx ?_
 refine⟨(j+1,a2,c2),by dsimp only;omega,by dsimp only;omega,SC Z (SC Z (SC Z (Sub.int Z yd aF))),?_⟩
 dsimp only
 rw[htk]
 refine aa.ah ?_
 refine IP 3 Z (IP 3 Z (IP 3 Z (IP 3 Z (IP 3 Z (IP 3 Z (IP 3 Z (IP 3 Z ?_)))))))
 rw[ik,a_]
 exact(aZ [0,2,2])
end
end Cl
namespace Cl
open Go Vg T Api Ch Rep Conf Lg Rd
attribute [local irreducible] VO VC VA
theorem S9(C:ay){s:eh}(h:s.kind=1):C.step s=C.call s:=by
 unfold ay.step
 rw[if_pos h]
theorem Tb(C:ay){s:eh}(h:s.kind=2):C.step s=match C.node s.a with
  | none=>(C,C.iB s.a)
  | some r=>((C.setNode s.a (some (gY r C.now).1)).post s.a (fE (gY r C.now).2),0):=by
 unfold ay.step
 rw[if_neg bY,if_pos h]<;>rfl
theorem Tc(C:ay){s:eh}(h:s.kind=3):C.step s=(C.tick,0):=by
 unfold ay.step
 rw[if_neg bY,if_neg bY,if_pos h]
theorem Td(C:ay){s:eh}(h:s.kind=4):C.step s=C.lg (s.a,s.b) s.c:=by
 unfold ay.step
 rw[if_neg bY,if_neg bY,if_neg bY,if_pos h]
theorem Te(C:ay){s:eh}(h:s.kind=5):C.step s=({ C with aQ:=(C.aQ.drop (s.a,s.b) s.c).1 },(C.aQ.drop (s.a,s.b) s.c).2):=by
 unfold ay.step
 rw[if_neg bY,if_neg bY,if_neg bY,if_neg bY,if_pos h]
theorem Tf(C:ay){s:eh}(h:s.kind=6):C.step s=({ C with aQ:=(C.aQ.double (s.a,s.b) s.c).1 },(C.aQ.double (s.a,s.b) s.c).2):=by
 unfold ay.step
 rw[if_neg bY,if_neg bY,if_neg bY,if_neg bY,if_neg bY,if_pos h]
theorem Tg(C:ay){s:eh}(h:s.kind=7):C.step s=if C.iB s.a≠0 then (C,C.iB s.a) else (C.setNode s.a none,0):=by
 unfold ay.step
 rw[if_neg bY,if_neg bY,if_neg bY,if_neg bY,if_neg bY,if_neg bY,if_pos h]
theorem Th(C:ay){s:eh}(h:s.kind=8):C.step s=(({ C with aU:=(C.aU.gf s.a).1 }:ay).post 16 (C.aU.gf s.a).2.1,(C.aU.gf s.a).2.2):=by
 unfold ay.step
 rw[if_neg bY,if_neg bY,if_neg bY,if_neg bY,if_neg bY,if_neg bY,if_neg bY,if_pos h]
theorem Tj(C:ay){s:eh}(h:s.kind=9):C.step s=C.join s.a:=by
 unfold ay.step
 rw[if_neg bY,if_neg bY,if_neg bY,if_neg bY,if_neg bY,if_neg bY,if_neg bY,if_neg bY,if_pos h]
theorem S_(C:ay){s:eh}(h:s.kind=10):C.step s=(({ C with aU:=(C.aU.drain s.a).1 }:ay).post 16 (C.aU.drain s.a).2.1,(C.aU.drain s.a).2.2):=by
 unfold ay.step
 rw[if_neg bY,if_neg bY,if_neg bY,if_neg bY,if_neg bY,if_neg bY,if_neg bY,if_neg bY,if_neg bY,if_pos h]
theorem Ta(C:ay){s:eh}(h:s.kind=11):C.step s=(({ C with aU:=(C.aU.tick C.now).1 }:ay).post 16 (C.aU.tick C.now).2,0):=by
 unfold ay.step
 rw[if_neg bY,if_neg bY,if_neg bY,if_neg bY,if_neg bY,if_neg bY,if_neg bY,if_neg bY,if_neg bY,if_neg bY,if_pos h]
theorem Tk(C:ay){s:eh}(h:∀k:Nat,1≤k→k≤11→s.kind≠k):C.step s=(C,2):=by
 unfold ay.step
 rw[if_neg (show ¬s.kind=1 from h 1 yn yn),if_neg (show ¬s.kind=2 from h 2 yn yn),if_neg (show ¬s.kind=3 from h 3 yn yn),if_neg (show ¬s.kind=4 from h 4 yn yn),if_neg (show ¬s.kind=5 from h 5 yn yn),if_neg (show ¬s.kind=6 from h 6 yn yn),if_neg (show ¬s.kind=7 from h 7 yn yn),if_neg (show ¬s.kind=8 from h 8 yn yn),if_neg (show ¬s.kind=9 from h 9 yn yn),if_neg (show ¬s.kind=10 from h 10 yn yn),if_neg (show ¬s.kind=11 from h 11 yn yn)]
theorem Ke{C:ay}{n:Int}(h:C.iB n=0):∃(k:Nat) (r:az),n=k∧C.nodes[k]?=some (some r)∧C.node n=some r:=by
 unfold ay.iB at h
 split at h
 ·cases h
 ·rename_i h1
  split at h
  ·cases h
  ·rename_i h2
   cases hn:C.node n with
   | none=>rw[hn] at h2;exact absurd rfl h2
   | some r=>
    refine⟨n.toNat,r,by omega,?_,Z⟩
    unfold ay.node at hn
    rw[if_neg yd] at hn
    cases hx:C.nodes[n.toNat]? with
    | none=>rw[hx] at hn;cases hn
    | some x=>rw[hx] at hn;obtain rfl:x=some r:=hn;rfl
theorem XT{C:ay}{n:Int}(h:C.iB n≠0):C.node n=none:=by
 unfold ay.iB at h
 split at h
 ·rename_i h1
  unfold ay.node
  split
  ·rfl
  ·rw[mQ yd];rfl
 ·split at h
  ·rename_i h2
   cases hn:C.node n with
   | none=>rfl
   | some r=>rw[hn] at h2;cases h2
  ·exact absurd Z h
section
variable {p:Nat} {C:ay} {y:eL} {b e:Nat}
theorem IZ(fit:eW C y){k:Nat}{r:az}(h:C.nodes[k]?=some (some r)):∃q,y.nr[k]?=some (some (q,r)):=by
 rw[←fit.nr,dH] at h
 cases hz:y.nr[k]? with
 | none=>rw[hz] at h;cases h
 | some z=>
  rw[hz] at h
  cases z with
  | none=>cases h
  | some z=>cases h;exact⟨z.1,rfl⟩
theorem N4(fit:eW C y){k:Nat}(hk:k<y.nr.length){R:List HP}:aa ([pt p (gN C y) qi,kj y.qa y.qc C.fq.qs,bQ y.mp C.aU,pt y.nb (flat gU (y.nr.set k none)++y.nx) pB,pt y.cb (flat la y.cr++y.cx) qj,cu y.lp C.aQ,gQ y.hp C.bH,av e_ 7 y.da C.done.length y.dc (flat bJ C.done),b_ (y.nr.map iy),b_ (y.cr.map mu)]++R) [bx p (C.setNode k none)]:=by
 have hz:y.nr[k]?=some y.nr[k]:=GE hk
 have e1:=Dw (C:=C) (y:=y) (k:=k) (x:=none) (C.setNode k none) rfl rfl rfl
 refine aa.trans (aa.app (M:=_) (M':=[]) (IP 8 Z aa.refl) aa.nil) ?_
 refine aa.trans (aa.of_eq (bA _)) ?_
 refine aa.trans (zw (f:=iy) hz) ?_
 refine aa.trans aa.tail ?_
 refine aa.trans (M:=iy none::b_ ((y.nr.eraseIdx k).map iy)::_) (aa.pure trivial aa.refl) ?_
 refine aa.trans (zv (f:=iy) hk none) ?_
 refine aa.rk (K:=[]) (y.node k none) ⟨by show(y.nr.set k none).map _=C.nodes.set k none;rw[gJ,fit.nr];rfl,fit.cr,fit.qc⟩ ?_
 unfold eH
 rw[e1]
 exact(aZ [1,1,1,1,1,1,1,1,0,0])
theorem XX(ok:C.Ok b e)(hb:b<100000)(he:e<1000000)(s:eh):aq Tryz.prog 151 [.pointer (some ⟨p,0,none⟩),.agg s.cells.toArray] Fr w [bx p C]
  (fun v L=>v=.int .i64 (C.step s).2∧L=[bx p (C.step s).1]):=by
 refine TF 151 Tryz.func151 Z ym aw Z Z ?_
 refine CS (CG (VG (VB (vs:=s.cells) Z fun sb=>?_)))
 have bu:∀{c:Code} {e:Env} {Q:Exit→Env→List HP→Prop},(∀y,eW C y→VC ⟨Tryz.prog,tab,aw,151,Fr,w⟩ c e (pt sb s.cells gO::eH p C y) Q)→VC ⟨Tryz.prog,tab,aw,151,Fr,w⟩ c e [pt sb s.cells gO,bx p C] Q:=fun h=>by
  refine VC.bu 1 Z (aY.rk p C) ?_
  rintro y fit
  exact CN (IP 10 Z aa.refl).ah (h y fit)
 refine aj ?_
 refine CP (p:=s.kind=1) Z (fun h=>?_) (fun h1=>?_)
 ·have hr:=S9 C h
  refine ae ?_
  refine VG (VL 0 s.cells Z Z Z Z ?_)
  refine VG (VQ 1 Z (fun Fr w hF hs hS=>XK Fr w ok hb he s) Z (ψ:=fun v H=>v=.int .i64 (C.call s).2∧H=bx p (C.call s).1) yz ?_)
  rintro _ _ ⟨rfl,rfl⟩
  refine ae ?_
  exact CR (al.tmp 4 Z Z (aa.tail (H:=pt sb _ gO) (L:=[bx p (C.call s).1])).ah ⟨by rw[hr],by rw[hr]⟩)
 refine ae ?_
 refine CP (p:=s.kind=2) Z (fun h=>?_) (fun h2=>?_)
 ·have hr:=Tb C h
  refine bu fun y fit=>?_
  refine aj ?_
  refine LU ?_
  refine ae ?_
  refine VC.dd Z (fun k1=>?_) (fun k1=>CK ?_)
  ·rw[XT k1] at hr
   refine ae ?_
   exact LV
  obtain⟨k,r,hk,hkr,hnr⟩:=Ke (C:=C) (n:=s.a) se
  obtain⟨q,hx⟩:=IZ fit hkr
  have hkl:=(cH.1 hx).1
  have hm:some r∈C.nodes:=ME hkr
  have okr:=(ok.fit r hm).ok
  have fw:ed (fE (gY r C.now).2):=ed.of (Tp okr C.now)
  rw[hnr] at hr
  dsimp only at hr
  obtain⟨kd,sa,sx,sc,op⟩:=s
  dsimp only at hk hr k1
  subst hk
  refine CN (L':=pt sb (⟨kd,k,sx,sc,op⟩:eh).cells gO::bd q r::rq p C y k C.aQ) (aa.cons (Dy hx)).ah ?_
  refine CD (ts 0 15 (.only 15 (.only 16 .nil))) ym yo ?_
  refine gF ?_
  refine AG (AI Z (dU k Z Z Z Z Z Z hkl) ?_)
  refine AG (yE Z Z Z (an.one 5 Z (qy hx)) ?_)
  refine gF ?_
  refine AG (AQ 1 Z (fun Fr w hF hs hS=>X9 Fr w okr C.now) Z Z mP ?_ ?_)
  ·rintro _ _ ⟨X,a,c,hX,rfl,rfl⟩
   exact Mr
  rintro _ _ ⟨X,a,c,hX,rfl,rfl⟩
  refine AG (AQ 7 Z (fun Fr w hF hs hS=>nF Fr w (hS.ar 2 Z) ok.aQ k (kB.at_ 1 hS Z hX fw)) Z Z (ψ:=fun v H=>v=.tuple #[]∧H=cu y.lp (cw k C.aQ (X.map Prod.fst))) yz ?_ ?_)
  ·rintro _ _ ⟨rfl,rfl⟩
   exact Mr
  rintro _ _ ⟨rfl,rfl⟩
  rw[hX]
  refine mg ?_
  exact CR (al.tmp 4 Z Z (aa.trans (aa.tail (H:=pt sb _ gO)) (I1 (p:=p) (r':=(gY r C.now).1) (l:=cw k C.aQ (fE (gY r C.now).2)) (a:=a) (c:=c) (X:=X) (R:=[]) fit hx)).ah ⟨by rw[hr],by rw[hr];rfl⟩)
 refine ae ?_
 refine CP (p:=s.kind=3) Z (fun h=>?_) (fun h3=>?_)
 ·have hr:=Tc C h
  refine ae ?_
  refine VG (VQ 1 Z (fun Fr w hF hs hS=>XZ Fr w ok) Z (ψ:=fun v H=>v=.tuple #[]∧H=bx p C.tick) yz ?_)
  rintro _ _ ⟨rfl,rfl⟩
  refine ae ?_
  exact CR (al.tmp 4 Z Z (aa.tail (H:=pt sb _ gO) (L:=[bx p C.tick])).ah ⟨by rw[hr],by rw[hr]⟩)
 refine ae ?_
 refine CP (p:=s.kind=11) Z (fun h=>?_) (fun h11=>?_)
 ·have hr:=Ta C h
  refine bu fun y fit=>?_
  refine FC ?_
  have fw:=ok.aU.w9 C.now
  refine CD (ts 0 9 (.only 9 (.only 10 .nil))) ym yo ?_
  refine gF ?_
  refine AG (AQ 1 Z (fun Fr w hF hs hS=>X8 Fr w ok.aU C.now) Z Z mP ?_ ?_)
  ·rintro _ _ ⟨X,a,c,hX,rfl,rfl⟩
   exact yv
  rintro _ _ ⟨X,a,c,hX,rfl,rfl⟩
  refine AG (AQ 6 Z (fun Fr w hF hs hS=>nF Fr w (hS.ar 2 Z) ok.aQ 16 (kB.at_ 1 hS Z hX fw)) Z Z (ψ:=fun v H=>v=.tuple #[]∧H=cu y.lp (cw 16 C.aQ (X.map Prod.fst))) yz ?_ ?_)
  ·rintro _ _ ⟨rfl,rfl⟩
   exact yv
  rintro _ _ ⟨rfl,rfl⟩
  rw[hX]
  refine mg ?_
  exact CR (al.tmp 4 Z Z (aa.trans (aa.tail (H:=pt sb _ gO)) (uu (p:=p) (C:=C) (m:=(C.aU.tick C.now).1) (l:=cw 16 C.aQ (C.aU.tick C.now).2) (a:=a) (c:=c) (X:=X) (R:=[]) fit)).ah ⟨by rw[hr],by rw[hr];rfl⟩)
 refine ae ?_
 refine CP (p:=s.kind=4) Z (fun h=>?_) (fun h4=>?_)
 ·have hr:=Td C h
  refine aj ?_
  refine VG (VQ 1 Z (fun Fr w hF hs hS=>XM Fr w ok yd s.a s.b s.c) Z (ψ:=fun v H=>v=.int .i64 (C.lg (s.a,s.b) s.c).2∧H=bx p (C.lg (s.a,s.b) s.c).1) yz ?_)
  rintro _ _ ⟨rfl,rfl⟩
  refine ae ?_
  exact CR (al.tmp 4 Z Z (aa.tail (H:=pt sb _ gO) (L:=[bx p (C.lg (s.a,s.b) s.c).1])).ah ⟨by rw[hr],by rw[hr]⟩)
 refine ae ?_
 refine CP (p:=s.kind=5) Z (fun h=>?_) (fun h5=>?_)
 ·have hr:=Te C h
  refine bu fun y fit=>?_
  refine ae ?_
  refine Be ?_
  refine eu ?_
  refine AG (AQ 6 Z (fun Fr w hF hs hS=>P' Fr w ok.aQ s.a s.b s.c) Z Z (ψ:=fun v H=>v=.int .i64 (C.aQ.drop (s.a,s.b) s.c).2∧H=cu y.lp (C.aQ.drop (s.a,s.b) s.c).1) yz ?_ ?_)
  ·rintro _ _ ⟨rfl,rfl⟩
   exact yv
  rintro _ _ ⟨rfl,rfl⟩
  refine eu ?_
  refine ae ?_
  exact CR (al.tmp 4 Z Z (aa.trans (aa.tail (H:=pt sb _ gO)) (mY (p:=p) (C:=({ C with aQ:=(C.aQ.drop (s.a,s.b) s.c).1 }:ay)) (y:=y) (R:=[]) ⟨fit.nr,fit.cr,fit.qc⟩)).ah ⟨by rw[hr],by rw[hr]⟩)
 refine ae ?_
 refine CP (p:=s.kind=6) Z (fun h=>?_) (fun h6=>?_)
 ·have hr:=Tf C h
  refine bu fun y fit=>?_
  refine ae ?_
  refine Be ?_
  refine eu ?_
  refine AG (AQ 6 Z (fun Fr w hF hs hS=>P_ Fr w ok.aQ s.a s.b s.c) Z Z (ψ:=fun v H=>v=.int .i64 (C.aQ.double (s.a,s.b) s.c).2∧H=cu y.lp (C.aQ.double (s.a,s.b) s.c).1) yz ?_ ?_)
  ·rintro _ _ ⟨rfl,rfl⟩
   exact yv
  rintro _ _ ⟨rfl,rfl⟩
  refine eu ?_
  refine ae ?_
  exact CR (al.tmp 4 Z Z (aa.trans (aa.tail (H:=pt sb _ gO)) (mY (p:=p) (C:=({ C with aQ:=(C.aQ.double (s.a,s.b) s.c).1 }:ay)) (y:=y) (R:=[]) ⟨fit.nr,fit.cr,fit.qc⟩)).ah ⟨by rw[hr],by rw[hr]⟩)
 refine ae ?_
 refine CP (p:=s.kind=7) Z (fun h=>?_) (fun h7=>?_)
 ·have hr:=Tg C h
  refine bu fun y fit=>?_
  refine aj ?_
  refine LU ?_
  refine ae ?_
  refine VC.dd Z (fun k1=>?_) (fun k1=>CK ?_)
  ·rw[if_pos k1] at hr
   refine ae ?_
   exact LV
  rw[if_neg (fun g=>g se)] at hr
  obtain⟨k,r,hk,hkr,hnr⟩:=Ke (C:=C) (n:=s.a) se
  obtain⟨q,hx⟩:=IZ fit hkr
  have hkl:=(cH.1 hx).1
  obtain⟨kd,sa,sx,sc,op⟩:=s
  dsimp only at hk hr k1
  subst hk
  refine CD (ts 0 7 (.only 7 .nil)) ym yo ?_
  refine eu ?_
  refine AG (AI Z (dU k Z Z Z Z Z Z hkl) ?_)
  refine AG (VA.st 4 (cs':=flat gU (y.nr.set k none)++y.nx) Z Z Z Z Z Mo (IX none hkl y.nx) Z yv ?_)
  refine mg ?_
  exact CR (al.tmp 4 Z Z (aa.trans (aa.tail (H:=pt sb _ gO)) (N4 (p:=p) (C:=C) (R:=[]) fit hkl)).ah ⟨by rw[hr],by rw[hr]⟩)
 refine ae ?_
 refine CP (p:=s.kind=8) Z (fun h=>?_) (fun h8=>?_)
 ·have hr:=Th C h
  refine bu fun y fit=>?_
  refine FC ?_
  have fw:=(ok.aU.JT s.a).1
  refine ae ?_
  refine CD (ts 0 6 (.only 6 (ts 7 5 .nil))) ym yo ?_
  refine gF ?_
  refine AG (AQ 1 Z (fun Fr w hF hs hS=>X_ Fr w ok.aU s.a) Z Z mP ?_ ?_)
  ·rintro _ _ ⟨X,a,c,hX,rfl,rfl⟩
   exact yv
  rintro _ _ ⟨X,a,c,hX,rfl,rfl⟩
  refine gF ?_
  refine ae ?_
  refine LW ?_
  rintro _ _ ⟨rfl,rfl⟩
  rw[hX]
  refine ae ?_
  exact CR (al.tmp 4 Z Z (aa.trans (aa.tail (H:=pt sb _ gO)) (uu (p:=p) (C:=C) (m:=(C.aU.gf s.a).1) (l:=cw 16 C.aQ (C.aU.gf s.a).2.1) (a:=a) (c:=c) (X:=X) (R:=[]) fit)).ah ⟨by rw[hr],by rw[hr];rfl⟩)
 refine ae ?_
 refine CP (p:=s.kind=9) Z (fun h=>?_) (fun h9=>?_)
 ·have hr:=Tj C h
  refine aj ?_
  refine VG (VQ 1 Z (fun Fr w hF hs hS=>XN Fr w ok yd s.a) Z (ψ:=fun v H=>v=.int .i64 (C.join s.a).2∧H=bx p (C.join s.a).1) yz ?_)
  rintro _ _ ⟨rfl,rfl⟩
  refine ae ?_
  exact CR (al.tmp 4 Z Z (aa.tail (H:=pt sb _ gO) (L:=[bx p (C.join s.a).1])).ah ⟨by rw[hr],by rw[hr]⟩)
 refine ae ?_
 refine CP (p:=s.kind=10) Z (fun h=>?_) (fun h10=>?_)
 ·have hr:=S_ C h
  refine bu fun y fit=>?_
  refine FC ?_
  have fw:=(ok.aU.Hg s.a).1
  refine ae ?_
  refine CD (ts 0 6 (.only 6 (ts 7 5 .nil))) ym yo ?_
  refine gF ?_
  refine AG (AQ 1 Z (fun Fr w hF hs hS=>X5 Fr w ok.aU s.a) Z Z mP ?_ ?_)
  ·rintro _ _ ⟨X,a,c,hX,rfl,rfl⟩
   exact yv
  rintro _ _ ⟨X,a,c,hX,rfl,rfl⟩
  refine gF ?_
  refine ae ?_
  refine LW ?_
  rintro _ _ ⟨rfl,rfl⟩
  rw[hX]
  refine ae ?_
  exact CR (al.tmp 4 Z Z (aa.trans (aa.tail (H:=pt sb _ gO)) (uu (p:=p) (C:=C) (m:=(C.aU.drain s.a).1) (l:=cw 16 C.aQ (C.aU.drain s.a).2.1) (a:=a) (c:=c) (X:=X) (R:=[]) fit)).ah ⟨by rw[hr],by rw[hr];rfl⟩)
 refine ae ?_
 have hr:=Tk C (s:=s) (fun k k1 k2=>by
  rcases(by omega:k=1∨k=2∨k=3∨k=4∨k=5∨k=6∨k=7∨k=8∨k=9∨k=10∨k=11) with rfl | rfl | rfl | rfl | rfl | rfl | rfl | rfl | rfl | rfl | rfl<;>assumption)
 exact CR (al.tmp 4 Z Z aa.tail.ah ⟨by rw[hr],by rw[hr]⟩)
end
end Cl
namespace Cl
open Go Vg T Api Ch Rep Conf Lg Rd
attribute [local irreducible] VO VC VA
section
variable {p:Nat} {C:ay} {y:eL} {b e:Nat}
theorem QA(h:aV Fr [bx p C] w):aq Tryz.prog 100 [.pointer (some ⟨p,0,none⟩)] Fr w [] (fun v L=>v=.bool true∧L=[]):=by
 obtain⟨y,fit,hy⟩:=vM h
 exact J' Fr w (hy.ar 0 Z)
theorem Ev(ok:C.Ok b e)(hb:b<100000)(he:e<900000)(s:eh):aq Tryz.prog 97 [.pointer (some ⟨p,0,none⟩),.agg s.cells.toArray] Fr w [bx p C]
  (fun v L=>v=.int .i64 (C.bG s).2∧L=[bx p (C.bG s).1]):=by
 have ok2:=ok.step hb yd s
 refine TF 15 Tryz.func97 Z ym aw Z Z ?_
 refine CS (CG (VG (VB (vs:=s.cells) Z fun sb=>?_)))
 refine ae ?_
 refine VG (VV (fun Fr w hF hw hS=>QA Fr w (hS.at_ 1 Z)) Z ?_)
 refine iR ?_
 refine VG (VL 0 s.cells Z Z Z Z ?_)
 refine VG (VQ 1 Z (fun Fr w hF hs hS=>XX Fr w ok hb yd s) Z (ψ:=fun v H=>v=.int .i64 (C.step s).2∧H=bx p (C.step s).1) yz ?_)
 rintro _ _ ⟨rfl,rfl⟩
 refine ae ?_
 refine VG (VQ 1 Z (fun Fr w hF hs hS=>XJ Fr w ok2 yd) Z (ψ:=fun v H=>v=.tuple #[]∧H=bx p (C.step s).1.behind) yz ?_)
 rintro _ _ ⟨rfl,rfl⟩
 refine ae ?_
 exact CR (al.tmp 4 Z Z (aa.tail (H:=pt sb _ gO) (L:=[bx p (C.bG s).1])).ah ⟨rfl,Z⟩)
theorem Ka(hb:a7 Fr w p (gN C y)):aq Tryz.prog 54 [.pointer (some ⟨p,0,none⟩)] Fr w [] (fun v L=>v=.pointer (some ⟨y.mp,0,none⟩)∧L=[]):=by
 refine TF 10 Tryz.func54 Z ym aw Z Z ?_
 refine au ?_
 refine FD ?_
 refine mf ?_
 refine uZ ?_
 exact jQ
theorem Ic{Fr:Nat→Prop}{w:World}{q:Nat}{S:aX}(h:aV Fr [cu q S] w):∃b X,gr X=S.cE∧aV Fr (wu q S b X) w:=by
 obtain⟨⟨b,X⟩,hx⟩:=h.ex
 have hs:=hx.sep
 exact⟨b,X,hs.pure 0 Z,hs.tail⟩
theorem XO(ok:C.aQ.Ok)(hb:a7 Fr w p (gN C y))(hl:aV Fr [cu y.lp C.aQ] w):aq Tryz.prog 70 [.pointer (some ⟨p,0,none⟩)] Fr w [] (fun v L=>∃q m,m.Perm C.aQ.cE∧v=.pointer (some ⟨q,0,none⟩)∧L=[cu q ⟨C.aQ.cap,m⟩]):=by
 obtain⟨lb,X,hX,hs⟩:=Ic hl
 have h1:=hs.ar 0 rfl
 have h2:=hs.wB 1 rfl
 have h3:=Db (A:=[_,_]) hs
 refine TF 11 Tryz.func70 Z ym aw Z Z ?_
 refine au ?_
 refine FD ?_
 refine mf ?_
 refine uZ ?_
 refine VG (VK (Lc:=[]) (fun Fr w hF hw _=>P9 Fr w ok (h1.of hF hw) ⟨hF _ h2.fr,h2.at_.loc (hw.bL.block _ h2.fr)⟩ (fun z hz=>(h3 z hz).of hF hw) hX) Z Z ?_)
 rintro _ _ ⟨q,m,hm,rfl,rfl⟩
 refine au ?_
 exact CR (al.tmp 2 Z Z ER ⟨q,m,hm,Z,Z⟩)
end
section
variable {u:Value}
end
end Cl
namespace Cl
open Go Vg T Api Ch Rep Conf Lg Rd Sched
attribute [local irreducible] VO VC VA
theorem HM{X:Cx}{L:List HP}{a:Option Addr}{cap:Nat}{qs:List Int}(hq:fT X.Fr X.w0 a qs)(hne:qs≠[]):dN X L (.slice a qs.length cap) 1 qs.length (du qs):=by
 obtain⟨b,off,rfl,h2,h3⟩:=hq.at_ hne
 refine⟨by simp[du],.inr ⟨b,off,cap,Z,fun w' hw' j v hv=>?_⟩⟩
 rw[du,dH] at hv
 cases hj:qs[j]? with
 | none=>rw[hj] at hv;cases hv
 | some x=>
  rw[hj] at hv
  obtain rfl:=jS hv
  exact B3 (hw'.bL.block b h2) (h3 j x hj)
theorem Iq{α:Type}{f:α→HP}{l:List α}{x:α}{A:List HP}:aa (f x::b_ (l.map f)::A) (b_ ((l ++ [x]).map f)::A):=by
 refine aa.sep (aa.trans (M:=b_ (l.map f)::f x::A) (aa.perm (.swap _ _ _)) (aa.AA (aa.of_eq ?_)))
 simp
abbrev sE:TypeId:=24
def rm(c:bn)(qa:Option Addr)(qc m:Nat)(nv cv lv:Value)(h:Nat):List Value:=c.cells qa qc ++ [.int .i64 0,.pointer (some ⟨m,0,none⟩),nv,cv,lv,.pointer (some ⟨h,0,none⟩),.slice none 0 0]
theorem XQ(c:bn){qa:Option Addr}{qc:Nat}(hq:fT Fr w qa c.qs)(hqc:c.qs.length≤qc):
  aq Tryz.prog 13 [.agg (c.cells qa qc).toArray] Fr w [] (fun v L=>if c=ct c then ∃p,v=.tuple #[.pointer (some ⟨p,0,none⟩),.int .i64 0]∧L=[bx p (rS c)] else v=.tuple #[.pointer none,.int .i64 2]∧L=[]):=by
 refine TF 83 Tryz.func13 Z ym aw Z Z ?_
 refine CS (CG (VG (VB (vs:=c.cells qa qc) Z fun b1=>VG (VN ?_))))
 refine ae ?_
 refine A7 ?_
 refine VG (VK (Lc:=[]) (fun Fr w hF hs _=>Q0 Fr w c (lS hq hF hs) trivial hqc) Z Z ?_)
 intro v L1 hv
 by_cases hf:c=ct c
 rotate_left
 ·rw[if_neg hf] at hv
  obtain⟨rfl,rfl⟩:=hv
  refine oK ?_
  exact Fh
 rw[if_pos hf] at hv
 obtain⟨m,rfl,rfl⟩:=hv
 have hb:=mw hf
 have hb2:=tY hf
 refine pR ?_
 refine cF ?_
 refine VO.ah (L':=av 3 1 none 0 0 [] :: [bQ m (oq c),pt b1 (c.cells qa qc) sE]) (aa.cN aa.refl).ah ?_
 refine VG (VO.append (m:=c.qs.length) (news:=du c.qs) 0 Z Z Z Z Z Z Z (HM hq Ms) Mt (sG (k:=100) yd yn) yd fun qa2 qc2 hqc2=>?_)
 rw[bZ,kW] at *
 refine ae ?_
 refine VG (VO.st 2 (cs':=c.cells qa2 qc2) Z Z Z Z u9 Z Z ?_)
 refine jr ?_
 show VC _ _ _ [kj qa2 qc2 c.qs,bQ m (oq c),pt b1 (c.cells qa2 qc2) sE] _
 refine CS ?_
 refine CD (ts 0 2 (.only 2 (.take 3 (.only 4 (.take 5 .nil))))) ym yo ?_
 refine AG (VA.cK 2 (c.cells qa2 qc2) Z Z Z Z Z ?_)
 refine bV ?_
 refine AG (AO (OC (Lc:=[]) rfl (.refl _) (fun Fr w _ _ _=>Ps Fr w)) rfl (fun v L' g=>by obtain⟨_,⟨h,rfl,rfl⟩,rfl⟩:=g;exact(by(try refine Pd.st ?_);(repeat(first|exact Pd.nil|exact Pd.fnil|refine Pd.inner ?_|refine Pd.skip yo ?_|refine zf (zo 0 rfl rfl) ?_|refine zf (zo 1 rfl rfl) ?_|refine zf (zo 2 rfl rfl) ?_|refine zf (zo 3 rfl rfl) ?_|refine zf (zm 0 rfl rfl) ?_|refine zf (zm 1 rfl rfl) ?_|refine zf (zm 2 rfl rfl) ?_|refine zf (zm 3 rfl rfl) ?_|refine zf (an.ar (an.many 3 rfl rfl) rfl) ?_|refine zf ((an.many 3 rfl rfl)) ?_|refine zc (zo 0 rfl rfl) ?_|refine zc (zo 1 rfl rfl) ?_|refine zc (zo 2 rfl rfl) ?_|refine zc (zo 3 rfl rfl) ?_|refine zc (zm 0 rfl rfl) ?_|refine zc (zm 1 rfl rfl) ?_|refine zc (zm 2 rfl rfl) ?_|refine zc (zm 3 rfl rfl) ?_|refine zc (an.ar (an.many 3 rfl rfl) rfl) ?_|refine zc ((an.many 3 rfl rfl)) ?_)))) ?_)
 rintro v L' ⟨_,⟨h,rfl,rfl⟩,rfl⟩
 refine AG (AI Z (LB (pv:=[(0,.agg (c.cells qa2 qc2).toArray),(2,pV m),(6,pV h)]) (rm c qa2 qc2 m (.slice none 0 0) (.slice none 0 0) (.pointer none) h) Z Z Z ym Z) ?_)
 refine AG (AO (aG.box (vs:=rm c qa2 qc2 m (.slice none 0 0) (.slice none 0 0) (.pointer none) h) rfl rfl) rfl (fun v L' g=>by obtain⟨p,rfl,rfl⟩:=g;exact(by(try refine Pd.st ?_);(repeat(first|exact Pd.nil|exact Pd.fnil|refine Pd.inner ?_|refine Pd.skip yo ?_|refine zf (zo 0 rfl rfl) ?_|refine zf (zo 1 rfl rfl) ?_|refine zf (zo 2 rfl rfl) ?_|refine zf (zo 3 rfl rfl) ?_|refine zf (zo 4 rfl rfl) ?_|refine zf (zm 0 rfl rfl) ?_|refine zf (zm 1 rfl rfl) ?_|refine zf (zm 2 rfl rfl) ?_|refine zf (zm 3 rfl rfl) ?_|refine zf (zm 4 rfl rfl) ?_|refine zf (an.ar (an.many 4 rfl rfl) rfl) ?_|refine zf ((an.many 4 rfl rfl)) ?_|refine zc (zo 0 rfl rfl) ?_|refine zc (zo 1 rfl rfl) ?_|refine zc (zo 2 rfl rfl) ?_|refine zc (zo 3 rfl rfl) ?_|refine zc (zo 4 rfl rfl) ?_|refine zc (zm 0 rfl rfl) ?_|refine zc (zm 1 rfl rfl) ?_|refine zc (zm 2 rfl rfl) ?_|refine zc (zm 3 rfl rfl) ?_|refine zc (zm 4 rfl rfl) ?_|refine zc (an.ar (an.many 4 rfl rfl) rfl) ?_|refine zc ((an.many 4 rfl rfl)) ?_)))) ?_)
 rintro v L' ⟨p,rfl,rfl⟩
 refine bV ?_
 refine lF ?_
 refine VG (VK (Lc:=[]) (fun Fr w _ _ _=>Qo Fr w (n:=c.link) yd yd) Z Z ?_)
 rintro _ _ ⟨l,rfl,rfl⟩
 refine ae ?_
 refine VG (VO.st 1 (cs':=rm c qa2 qc2 m (.slice none 0 0) (.slice none 0 0) (.pointer (some ⟨l,0,none⟩)) h) Z Z Z Z (by show 16<19;omega) Z Z ?_)
 refine jr ?_
 refine CN (L':=[pt p (rm c qa2 qc2 m (.slice none 0 0) (.slice none 0 0) (.pointer (some ⟨l,0,none⟩)) h) qi,pt b1 (c.cells qa2 qc2) sE,kj qa2 qc2 c.qs,cu l ⟨c.link,[]⟩,gQ h rT,bQ m (oq c)]) (aZ [1,4,2,0,0,0]).ah ?_
 refine ae ?_
 refine VC.loop (σ:=List jt×Option Addr×Nat) (fun s=>[(1,pV b1),(6,pV p),(7,.int .i64 s.1.length)])
  (fun s=>[pt p (rm c qa2 qc2 m (.slice s.2.1 s.1.length s.2.2) (.slice none 0 0) (.pointer (some ⟨l,0,none⟩)) h) qi,pt b1 (c.cells qa2 qc2) sE,kj qa2 qc2 c.qs,cu l ⟨c.link,[]⟩,gQ h rT,bQ m (oq c),av pB 1 s.2.1 s.1.length s.2.2 (flat gU s.1),b_ (s.1.map iy)])
  (fun s=>s.1.length≤c.nodes.toNat∧s.1.map (Option.map Prod.snd)=(List.range s.1.length).map fun(n:Nat)=>some (dz c n false)) (fun s=>c.nodes.toNat-s.1.length) ([],none,0)
  ⟨bK _,rfl⟩ aF (IP 0 rfl (IP 0 rfl (IP 0 rfl (IP 0 rfl (IP 0 rfl (IP 0 rfl (aa.cN (aa.sep aa.nil)))))))).ah ?_
 rintro⟨nr,na,nc⟩ ⟨hn1,hn2⟩
 dsimp only at hn1 hn2 ⊢
 refine cF ?_
 refine CP (p:=(nr.length:Int)<c.nodes) Z (fun h1=>CK ?_) (fun h1=>CX ?_)
 ·refine CS (VC.block (CS (CG ?_)))
  refine VG (VL 1 (c.cells qa2 qc2) Z Z Z Z ?_)
  refine ae ?_
  refine VG (VK (Lc:=[]) (fun Fr w hF hs hS=>Rep.jH Fr w c qa2 qc2 (we (hS.at_ 2 Z)) trivial hqc2 nr.length false) Z Z ?_)
  rintro v L1 g
  rw[if_pos (show qw c (nr.length:Int) from⟨hf,by omega,h1⟩)] at g
  obtain⟨r,rfl,rfl⟩:=g
  refine ae ?_
  refine gh ?_
  refine VG (VO.buildSlice (n:=1) (pv:=[(0,pV r)]) [.pointer (some ⟨r,0,none⟩)] Z Z Z Z yn (fN Z Z Z) fun nb=>?_)
  refine VG (VO.append (m:=1) (news:=[.pointer (some ⟨r,0,none⟩)]) 8 Z Z Z Z Z Z Z (dN.pt 0 Z Z Z) Z (sG (k:=100) yd yn) yd fun na2 nc2 hnc=>?_)
  refine ae ?_
  refine VG (VO.st 3 (cs':=rm c qa2 qc2 m (.slice na2 (nr.length+1) nc2) (.slice none 0 0) (.pointer (some ⟨l,0,none⟩)) h) Z Z Z Z (by show 14<19;omega) Z Z ?_)
  refine fx ?_
  have hlen:(nr ++ [some (r,dz c nr.length false)]).length=nr.length+1:=by simp
  refine⟨(nr ++ [some (r,dz c nr.length false)],na2,nc2),⟨by dsimp only;omega,?_⟩,by dsimp only;omega,SC Z (SC Z (Sub.int Z yp (SN _))),?_⟩
  ·dsimp only
   rw[hlen,tK,fA,fA,hn2];rfl
  ·dsimp only
   rw[hlen,ik]
   refine aa.ah ?_
   refine IP 3 Z (IP 3 Z (IP 3 Z (IP 3 Z (IP 3 Z (IP 3 Z (IP 0 Z ?_))))))
   exact aa.trans aa.tail (Iq (f:=iy) (x:=some (r,dz c nr.length false)))
 have hnl:nr.length=c.nodes.toNat:=by omega
 refine ae ?_
 refine VC.loop (σ:=List mm×Option Addr×Nat) (fun s=>[(1,pV b1),(6,pV p),(10,.int .i64 s.1.length)])
  (fun s=>[pt p (rm c qa2 qc2 m (.slice na nr.length nc) (.slice s.2.1 s.1.length s.2.2) (.pointer (some ⟨l,0,none⟩)) h) qi,pt b1 (c.cells qa2 qc2) sE,kj qa2 qc2 c.qs,cu l ⟨c.link,[]⟩,gQ h rT,bQ m (oq c),av pB 1 na nr.length nc (flat gU nr),b_ (nr.map iy),av qj 1 s.2.1 s.1.length s.2.2 (flat la s.1),b_ (s.1.map mu)])
  (fun s=>s.1.length≤c.bt.toNat∧s.1.map Prod.snd=(List.range s.1.length).map fun(n:Nat)=>om c n) (fun s=>c.bt.toNat-s.1.length) ([],none,0)
  ⟨bK _,rfl⟩ aF (IP 0 rfl (IP 0 rfl (IP 0 rfl (IP 0 rfl (IP 0 rfl (IP 0 rfl (IP 0 rfl (IP 0 rfl (aa.cN (aa.sep aa.nil)))))))))).ah ?_
 rintro⟨cr,ca,cc⟩ ⟨hm1,hm2⟩
 dsimp only at hm1 hm2 ⊢
 refine cF ?_
 refine CP (p:=(cr.length:Int)<c.bt) Z (fun h1=>CK ?_) (fun h1=>CX ?_)
 ·refine CS (VC.block (CS (CG ?_)))
  refine VG (VL 1 (c.cells qa2 qc2) Z Z Z Z ?_)
  refine ae ?_
  refine VG (VK (Lc:=[]) (fun Fr w hF hs hS=>NW Fr w c (we (hS.at_ 2 Z)) trivial hqc2 cr.length) Z Z ?_)
  rintro v L1 g
  rw[if_pos (show oo c (cr.length:Int)=0 from by unfold oo;rw[if_pos ⟨hf,by omega,h1⟩])] at g
  obtain⟨r,rfl,rfl⟩:=g
  refine ae ?_
  refine gh ?_
  refine VG (VO.buildSlice (n:=1) (pv:=[(0,pV r)]) [.pointer (some ⟨r,0,none⟩)] Z Z Z Z yn (fN Z Z Z) fun nb=>?_)
  refine VG (VO.append (m:=1) (news:=[.pointer (some ⟨r,0,none⟩)]) 10 Z Z Z Z Z Z Z (dN.pt 0 Z Z Z) Z (sG (k:=100) yd yn) yd fun ca2 cc2 hcc=>?_)
  refine ae ?_
  refine VG (VO.st 3 (cs':=rm c qa2 qc2 m (.slice na nr.length nc) (.slice ca2 (cr.length+1) cc2) (.pointer (some ⟨l,0,none⟩)) h) Z Z Z Z (by show 15<19;omega) Z Z ?_)
  refine fx ?_
  have hlen:(cr ++ [(r,om c cr.length)]).length=cr.length+1:=by simp
  refine⟨(cr ++ [(r,om c cr.length)],ca2,cc2),⟨by dsimp only;omega,?_⟩,by dsimp only;omega,SC Z (SC Z (Sub.int Z yp (SN _))),?_⟩
  ·dsimp only
   rw[hlen,tK,fA,fA,hm2];rfl
  ·dsimp only
   rw[hlen,ik]
   refine aa.ah ?_
   refine IP 3 Z (IP 3 Z (IP 3 Z (IP 3 Z (IP 3 Z (IP 3 Z (IP 3 Z (IP 3 Z (IP 0 Z ?_))))))))
   exact aa.trans aa.tail (Iq (f:=mu) (x:=(r,om c cr.length)))
 have hml:cr.length=c.bt.toNat:=by omega
 refine VC.bu 6 Z (aY.sl pB 1 na nr.length nc (flat gU nr)) ?_
 rintro(_ | ⟨nb,nx⟩) ⟨-,-,hn⟩
 ·exact absurd hn.2.1 yd
 obtain⟨rfl,hnx⟩:=hn
 refine VC.bu 8 Z (aY.sl qj 1 ca cr.length cc (flat la cr)) ?_
 rintro(_ | ⟨cb,cx⟩) ⟨-,-,hc⟩
 ·exact absurd hc.2.1 yd
 obtain⟨rfl,hcx⟩:=hc
 refine ae ?_
 refine CR (al.cz 2 3 Z Z Z (L':=[bx p (rS c)]) (aa.rk (K:=[]) ⟨qa2,qc2,m,nb,nc,nx,nr,cb,cc,cx,cr,l,h,none,0⟩ ⟨by rw[hn2,hnl];rfl,by rw[hm2,hml];rfl,hqc2⟩ ?_).ah (by rw[if_pos hf];exact⟨p,Z,Z⟩))
 exact IP 2 Z (IP 3 Z (IP 5 Z (IP 1 Z (IP 0 Z (IP 1 Z (IP 1 Z (aa.cN (aZ [1,1]))))))))
end Cl
namespace Cl
open Go Vg T LibC
attribute [local irreducible] VO VC VA
theorem tZ{d:Nat}{D:List Value}{u:Value}(h:a7 Fr w d D)(hD:D[12]?=some u):aq Tryz.prog 6 [.pointer (some ⟨d,0,none⟩)] Fr w [] (fun v L=>v=u∧L=[]):=by
 refine TF 9 Tryz.func6 Z ym aw Z Z ?_
 refine iR ?_
 refine VG (VO.load Z Z (an.ar h hD) ?_)
 refine ae ?_
 exact jQ
theorem vO:aq Tryz.prog 6 [.pointer none] Fr w [] (fun v L=>v=.pointer none∧L=[]):=by
 refine TF 9 Tryz.func6 Z ym aw Z Z ?_
 refine oK ?_
 exact jQ
theorem Kl(a b:ByteArray):(a.toList == b.toList)=decide (a=b):=by
 rw[ByteArray.toList_eq,ByteArray.toList_eq]
 by_cases h:a=b
 ·subst h;simp
 ·rw[DF h]
  exact beq_eq_false_iff_ne.2 fun g=>h (ByteArray.ext (kT.1 g))
def qB:ByteArray:=⟨#[63]⟩
theorem yP(s:ByteArray){u:Value}(h:aq Tryz.prog 6 [u] Fr w [] (fun v L=>v=.pointer none∧L=[]))(hk:∀{Fr':Nat→Prop} {w':World},(∀b,Fr b→Fr' b)→cB Fr w w'→aq Tryz.prog 6 [u] Fr' w' [] (fun v L=>v=.pointer none∧L=[])):
  aq Tryz.prog 5 [u,.string s] Fr w [] (fun v L=>v=.string qB∧L=[]):=by
 refine TF 42 Tryz.func5 Z ym aw Z Z ?_
 refine ae ?_
 refine VG (VV (fun Fr w hF hw _=>hk hF hw.bL) Z ?_)
 refine oK ?_
 exact tx
def p8(d:Nat)(D:List Value)(q:Nat)(C C':ay)(f:FuncId)(a:q9)(t:ByteArray):Prop:=
 ∀(Fr:Nat→Prop) (w:World) (n t':sr),iE Fr w→a7 Fr w d D→aV Fr [av 3 1 n.1 a.1.length n.2 (wF a.1)] w→aV Fr [av 9 1 t'.1 a.2.length t'.2 (qM a.2)] w→aq Tryz.prog f [.pointer (some ⟨d,0,none⟩),.agg (fW a n t').toArray] Fr w [bx q C] (fun v L=>v=.string t∧L=[bx q C'])
theorem On{d:Nat}{D:List Value}{q:Nat}(hd:a7 Fr w d D)(hD:D[12]?=some (.pointer (some ⟨q,0,none⟩))){C C':ay}{s w0 t:ByteArray}{ws:List ByteArray}{m:Nat}
  (hs:s.size≤100) (hw:Kn s=w0::ws) (hn:Lib.countB s jo=ws.length) (hsz:∀x∈ws,x.size≤1000) (hwl:ws.length≤1000) (hm:m≤22) (hbef:∀k<m,∀c,mv[k]?=some c→c.1≠w0) (hg:iE Fr w)
  (hh:m=22∧t=qB∧C'=C∨∃c,mv[m]?=some c∧c.1=w0∧vE ws c.2.1.data.toList=true∧p8 d D q C C' c.2.2 (iV ws c.2.1.data.toList) t):
  aq Tryz.prog 5 [.pointer (some ⟨d,0,none⟩),.string s] Fr w [bx q C] (fun v L=>v=.string t∧L=[bx q C']):=by
 refine TF 42 Tryz.func5 Z ym JU Z Z ?_
 refine ae ?_
 refine VG (VV (fun Fr w hF hw _=>tZ Fr w (hd.of hF hw) hD) Z ?_)
 refine iR ?_
 refine VG (VK (Lc:=[]) (fun Fr w hF hw _=>SZ Fr w s jo yd yn (hg.st hF hw)) Z Z ?_)
 rintro _ _ ⟨wb,rfl,rfl⟩
 rw[show Lib.splitB jo 0 (Lib.countB s jo) s=w0::ws from hw,hn]
 refine ae ?_
 refine VG (VK (Lc:=[]) (fun Fr w hF hw _=>NX Fr w) Z Z ?_)
 rintro _ _ ⟨cb,rfl,rfl⟩
 refine ae ?_
 refine VC.loop (σ:=Nat) (fun k=>[(0,pV d),(5,.slice (some ⟨wb,0,none⟩) (ws.length+1) (ws.length+1)),(15,.slice (some ⟨cb,0,none⟩) 22 22),(16,.int .i64 22),(17,.int .i64 (k:Int))]) (fun _=>[pt cb (flat oZ mv) Cb,pt wb ((w0::ws).map Value.string) 9,bx q C]) (fun k=>k≤m) (fun k=>m-k) 0
  (bK _) aF ER ?_
 intro k hk
 refine ae ?_
 by_cases hk22:k=22
 ·subst hk22
  obtain rfl:m=22:=by omega
  refine r_ ?_
  rcases hh with ⟨_,rfl,rfl⟩ | ⟨c,hc,_⟩
  ·refine ae ?_
   exact CR (al.tmp 4 Z Z (IP 2 Z aa.nil).ah ⟨rfl,Z⟩)
  ·cases hc
 refine CP (p:=(k:Int)<22) Z (fun _=>CK ?_) (fun h1=>absurd yd h1)
 have hkl:k<mv.length:=by show k<22;omega
 have hc:mv[k]?=some mv[k]:=GE hkl
 generalize mv[k]=c at hc
 have hrow:((flat oZ mv).drop (0+k*3)).take 3=oZ c:=by
  have:=kK NV hc []
  rw[bA] at this
  rw[bZ]
  exact this
 refine ae ?_
 refine EE ?_
 refine VG (VL 0 (oZ c) Z Z Z hrow ?_)
 refine VG (VO.alloc Z fun xb=>?_)
 refine VG (VT (vs:=oZ c) (cs':=oZ c) 0 Z Z Z Z (NR _) Z Z Z (VG (VN ?_)))
 refine CS (CS ?_)
 refine CD (ts 0 6 .nil) ym yo ?_
 refine Bf ?_
 refine LX ?_
 refine Bf ?_
 have hb:=Kl c.1 w0
 by_cases hcw:c.1=w0
 rotate_left
 ·rw[DF hcw] at hb
  have hkm:k<m:=by
   rcases Nat.lt_or_ge k m with h | h
   ·exact h
   ·obtain rfl:k=m:=by omega
    rcases hh with ⟨h,_⟩ | ⟨c',hc',h,_⟩
    ·exact absurd h hk22
    ·rw[hc] at hc'
     cases hc'
     exact absurd h hcw
  refine VC.lf (congrArg (fun b=>some (Value.bool !b)) hb) ?_
  refine CX ?_
  refine fx ?_
  exact⟨k+1,hkm,by dsimp only;omega,SC Z (SC Z (SC Z (SC Z (Sub.int Z yd (SN _))))),aa.tail.ah⟩
 rw[DT hcw] at hb
 have hkm:k=m:=by
  rcases Nat.lt_or_ge k m with h | h
  ·exact absurd hcw (hbef k h c hc)
  ·omega
 subst hkm
 rcases hh with ⟨h,_⟩ | ⟨c',hc',_,hargs,hdl⟩
 ·exact absurd h hk22
 rw[hc] at hc'
 cases hc'
 refine VC.kG (congrArg (fun b=>some (Value.bool !b)) hb) (CK ?_)
 have hrw:∀{Fr':Nat→Prop} {w':World},a7 Fr' w' wb ((w0::ws).map Value.string)→aP oF 1 Fr' w' (some (if ws.length+1=1 then ⟨wb,0,none⟩ else ⟨wb,0+1,none⟩)) ws:=fun h=>by
  cases ws with
  | nil=>exact aP.nil
  | cons x l=>
   rw[if_neg yf]
   refine aP.ar h fun i y hy=>?_
   have h1:((w0::x::l).map Value.string).drop (0+1+i*1)=((x::l).map Value.string).drop i:=by
    rw[show 0+1+i*1=i+1 from by omega];rfl
   have h2:((x::l).map Value.string)[i]?=some (.string y):=by rw[dH,hy];rfl
   rw[h1,List.take_one,List.head?_drop,h2]
   rfl
 refine CS ?_
 refine VC.cZ (σ:=Nat×sr×sr) (fun s=>[(0,pV d),(7,pV xb),(8,.pointer (some ⟨s.1,0,none⟩)),(9,.bool true)]) (fun s=>bx q C::pt s.1 (fW (iV ws c.2.1.data.toList) s.2.1 s.2.2) 48::(vD (iV ws c.2.1.data.toList) s.2.1 s.2.2 ++ [pt xb (oZ c) Cb])) (fun _=>True) ?_ ?_
 ·refine CD (ts 0 4 (.two 4 8 (ts 5 3 (.only 8 (.only 9 (ts 10 1 .nil)))) (.only 4 (ts 5 3 (.only 9 (ts 10 1 .nil)))))) ym yo ?_
  refine Bf ?_
  refine AG (AI Z (Qk Z Z Z Z Z (NR _)) ?_)
  refine Bf ?_
  refine AG (VA.two Z Z Z Z Z (OC (Lc:=[]) (vals:=[_,.string c.2.1]) Z (List.Perm.refl _) (fun Fr w hF hw hS=>I8 Fr w (hrw (hS.ar 2 Z)) yd hargs hsz)) Z Z Z (aG.alloc Z) ?_ ?_ ?_ ?_)
  ·rintro _ _ ⟨_,⟨n,t',rfl,rfl⟩,rfl⟩
   exact yv
  ·rintro _ _ ⟨ab,rfl,rfl⟩
   exact yv
  ·rintro _ _ ⟨_,⟨n,t',rfl,rfl⟩,rfl⟩
   refine bV ?_
   refine AG (AO (aG.alloc rfl) rfl (fun v L' h=>by obtain⟨ab,rfl,rfl⟩:=h;exact gx) ?_)
   rintro _ _ ⟨ab,rfl,rfl⟩
   refine AG (AT (vs:=fW (iV ws c.2.1.data.toList) n t') (cs':=fW (iV ws c.2.1.data.toList) n t') 0 Z Z Z Z Z (NR _) Z Z Z yv ?_)
   refine bV ?_
   exact⟨(ab,n,t'),trivial,aF,(aZ [6,0,0,0,0]).ah⟩
  ·rintro _ _ ⟨ab,rfl,rfl⟩
   refine bV ?_
   refine AG (AO (OC (Lc:=[]) (vals:=[_,.string c.2.1]) rfl (List.Perm.refl _) (fun Fr w hF hw hS=>I8 Fr w (hrw (hS.ar 3 rfl)) yd hargs hsz)) rfl (fun v L' h=>by obtain⟨_,⟨n,t',rfl,rfl⟩,rfl⟩:=h;exact gx) ?_)
   rintro _ _ ⟨_,⟨n,t',rfl,rfl⟩,rfl⟩
   refine bV ?_
   refine AG (AT (vs:=fW (iV ws c.2.1.data.toList) n t') (cs':=fW (iV ws c.2.1.data.toList) n t') 2 Z Z Z Z Z (NR _) Z Z Z yv ?_)
   refine bV ?_
   exact⟨(ab,n,t'),trivial,aF,(aZ [6,2,0,0,0]).ah⟩
 rintro⟨ab,n,t'⟩ -
 dsimp only
 refine tC ?_
 refine lF ?_
 refine VG (VL 1 (fW (iV ws c.2.1.data.toList) n t') Z Z Z Z ?_)
 refine VG (VO.kc (first:=[]) (capt:=[]) (vals:=[.pointer (some ⟨d,0,none⟩),.agg (fW (iV ws c.2.1.data.toList) n t').toArray]) (Lc:=[bx q C]) Z (fun Fr w hF hw hS=>hdl Fr w n t' (hg.st hF hw) (hd.of hF hw) (hS.at_ 1 Z) (hS.at_ 2 Z)) Z Z ?_)
 rintro _ _ ⟨rfl,rfl⟩
 refine ae ?_
 exact CR (al.tmp 4 Z Z (IP 0 Z aa.nil).ah ⟨rfl,Z⟩)
end Cl
namespace Cl
open Go Vg T Api Ch Rep Conf Lg Rd Sched
def zC:bn:=⟨0,0,0,[],0,0,0,0,0,0,0,0⟩
theorem Hd:ct zC=ct (ct zC):=by decide +kernel
attribute [local irreducible] VO VC VA
end Cl
namespace Cl
open Go Vg T Api Ch Rep Conf Lg Rd
attribute [local irreducible] VO VC VA
instance YM:DecidableEq aW:=fun a b=>decidable_of_iff (a.aB=b.aB∧a.ms=b.ms∧a.drain=b.drain) ⟨fun⟨h1,h2,h3⟩=>by cases a;cases b;simp_all,fun h=>by subst h;exact⟨rfl,rfl,rfl⟩⟩
end Cl
namespace Cl
open Go Vg T Api Ch Rep Conf Lg Rd
def gw(p:bm):eh:=eA 4 p.1 p.2
def mF(e:Int):Int:=if e=0 then 1 else 0
def uM:Nat→ay→ay
 | 0,C=>C
 | n+1,C=>((uM n C).bG (eA 2 n 0)).1
def pn(C:ay):ay:=uM 6 (C.bG (eA 3 0 0)).1
def Ae:ay:=rS (ct zC)
end Cl
namespace Vg
open Go
def nL(l:Nat):Value:=.func (.yield l) #[] #[]
def ez(l:Nat)(r:Loop):HP:=⟨fun ids w=>ids=[l]∧w.heap[l]?=some (.loop r),fun _ _ _ h hs=>⟨hs.1,(h l yb).trans hs.2⟩⟩
def ry(D:Nat):HP:=⟨fun ids w=>ids=[D]∧w.heap[D]?=some (.deferred (some [])),fun _ _ _ h hs=>⟨hs.1,(h D yb).trans hs.2⟩⟩
theorem Sat.putObj{Fr:Nat→Prop}{H H':HP}{L:List HP}{w:World}{b:Nat}{o:Obj}(hH:∀ids,H.sat ids w→ids=[b])(hH':b<w.heap.size→H'.sat [b] (w.putObj b o))(h:Sat Fr (H::L) w):
  Sat Fr (H'::L) (w.putObj b o)∧cB Fr w (w.putObj b o):=by
 obtain⟨F,⟨i,G,rfl,hi,hG⟩,hn,hb⟩:=h
 obtain rfl:=hH i hi
 have hd:=(gy.1 hn).2.2
 have hne:∀x∈G,x≠b:=fun x hx e=>hd b yf x hx e.symm
 refine⟨⟨[b]++G,⟨[b],G,Z,hH' (hb b yf).2,hG.loc fun x hx=>World.putObj_heap_other (hne x hx)⟩,hn,fun x hx=>⟨(hb x hx).1,by rw[World.putObj_size];exact(hb x hx).2⟩⟩,?_⟩
 exact⟨rfl,Z,Z,by rw[World.putObj_size];exact NR _,fun x hx=>World.putObj_heap_other (fun e=>(hb b yf).1 (e▸hx)),NR _⟩
theorem Sat.lp{Fr:Nat→Prop}{L:List HP}{w:World}{l:Nat}{r:Loop}(h:Sat Fr (ez l r::L) w):w.heap[l]?=some (.loop r):=by
 obtain⟨F,⟨i,G,rfl,hi,hG⟩,hn,hb⟩:=h
 exact hi.2
theorem Sat.Df{Fr:Nat→Prop}{L:List HP}{w:World}{l:Nat}{r:Loop}(q:Loop)(h:Sat Fr (ez l r::L) w):Sat Fr (ez l q::L) (w.putObj l (.loop q))∧cB Fr w (w.putObj l (.loop q)):=
 Sat.putObj (H:=ez l r) (H':=ez l q) (fun _ h=>h.1) (fun hl=>⟨rfl,World.putObj_heap_same hl⟩) h
def vA(P:Program)(l:Nat)(r:Loop)(vals:List Value)(Fr:Nat→Prop)(w:World)(L:List HP)(R:Value→List HP→Prop):Prop:=
 (∀b,Fr b→b<w.heap.size)→Sat Fr (ez l r::L) w →
  RoundIn Fence.wide 0 P l r.fn ((r.params.zip vals.toArray).foldl (fun tmps (t,a)=>tmps.setIfInBounds t a) r.tmps) r.assign r.body w fun en w'=>∃v L',en=.returned v∧R v L'∧Sat Fr (ez l r::L') w'∧cB Fr w w'
theorem vA.of{P:Program}{tab:kC}{ok:nS P tab}{n l:Nat}{r:Loop}{vals:List Value}{Fr:Nat→Prop}{w:World}{L:List HP}{R:Value→List HP→Prop}{e0:Env}(hst:r.state=.ready)(hpe:r.pending=none)
  (ha:cW n { tmps:=(r.params.zip vals.toArray).foldl (fun tmps (t,a)=>tmps.setIfInBounds t a) r.tmps,defers:=[] } e0)
  (h:∀w,VC ⟨P,tab,ok,n,Fr,w⟩ r.assign e0 (ez l r::L) fun x e1 L1=>x=.normal∧∃L2,L1=ez l r::L2 ∧
   ∀w,VC ⟨P,tab,ok,n,Fr,w⟩ r.body e1 (ez l { r with state:=.busy } :: L2) fun x e2 L3=>x=.normal∧∃L4,L3=ez l { r with state:=.busy } :: L4∧R (.bool true) L4):
  vA P l r vals Fr w L R:=fun hlow hs=>by
 refine roundIn_of_wpIn (F:=Fence.wide) trivial ?_
 have h1:=h w (some l) _ w ha ⟨hs,cB.refl _ _,hlow⟩
 refine wpIn_mono (F:=wR (some l)) h1 ?_
 rintro x a1 w1 ⟨e1,L1,g1,g2,rfl,L2,rfl,hb⟩
 have hl1:=g2.sat.lp
 obtain⟨s2,k2⟩:=g2.sat.Df { r with state:=.busy }
 refine⟨_,run_beginRound hl1 hst,?_⟩
 have hlow2:∀b,Fr b→b<(w1.putObj l (.loop { r with state:=.busy })).heap.size:=fun b hb=>by rw[World.putObj_size];exact g2.kl b hb
 refine wpIn_mono (F:=wR (some l)) (hb (w1.putObj l (.loop { r with state:=.busy })) (some l) a1 _ g1 ⟨s2,cB.refl _ _,hlow2⟩) ?_
 rintro x a2 w2 ⟨e2,L3,g3,g4,rfl,L4,rfl,hR⟩
 obtain⟨s5,k5⟩:=g4.sat.Df r
 have he:({ ({ r with state:=LoopState.busy }:Loop) with state:=if (none:Option Code).isNone then .ready else .done,pending:=none }:Loop)=r:=by
  obtain⟨_,_,_,_,_,_,_,_⟩:=r
  dsimp only at hst hpe
  subst hst hpe
  rfl
 refine⟨_,_,run_endRound none g4.sat.lp,?_⟩
 rw[he]
 exact⟨_,L4,Z,hR,s5,((g2.bL.trans k2).trans g4.bL).trans k5⟩
def oR(X:Cx)(op:Op)(e:Env)(L:List HP)(M:Value→List HP→Prop):Prop:=
 (∀c,op≠.defer c)∧∀a w,cW X.n a e→St X L w→∀dst ty pos after guard,∃l f tmps assign body,(execOp a.eval ⟨dst,op,ty,pos,after,guard⟩).run X.P w=.ok (.round l f tmps assign body) w ∧
  RoundIn Fence.wide 0 X.P l f tmps assign body w fun en w'=>∃v L',en=.returned v∧M v L'∧St X L' w'
theorem oR.wp{X:Cx}{o:Oper}{e:Env}{L:List HP}{M:Value→List HP→Prop}(h:oR X o.op e L M){a:Act}{w:World}(ha:cW X.n a e)(hw:St X L w){ro:Option Nat}
  {next:Act→World→Prop} {Q:Exit→Act→World→Prop} (hn:∀v L' w',M v L'→St X L' w'→next (a.put o.dst v) w'):o.wpIn (wR ro) 0 X.P a w next Q:=by
 refine⟨fun _ _=>trivial,?_⟩
 rw[Ed ro _ _ h.1]
 obtain⟨l,f,tmps,assign,body,hr,hc⟩:=h.2 a w ha hw o.dst o.type o.pos o.after o.guard
 rw[hr]
 refine⟨(fun h=>by cases h),RoundIn.mono (F:=wR ro) hc fun en w' ⟨v,L',he,hm,hs⟩=>?_⟩
 subst he
 exact hn v L' w' hm hs
theorem VO.wK{X:Cx}{ops:Array Oper}{G:GS}{o:Oper}{l:List Oper}{e:Env}{L:List HP}{K:Env→List HP→Prop}{M:Value→List HP→Prop}(h:oR X o.op e L M)
  (hk:∀v L',M v L'→VO X ops G l (bI o.dst v e) L' K) (hg:bN ops G o.guard=some true:=by rfl) (hd:b9 X.n o.dst=true:=by rfl) (hf:bP G o.dst=true:=by rfl):VO X ops G (o::l) e L K:=by
 intro Q' hQ ro a w ha hG hw
 unfold wpListIn
 rw[if_pos (nh hG hg)]
 exact h.wp ha hw fun v L' w' hm hs=>hk v L' hm Q' hQ _ _ _ (ha.bI hd v) (hG.put hf v) hs
theorem VA.wK{X:Cx}{ops:Array Oper}{G:GS}{pl:fU}{S:iF}{e:Env}{L:List HP}{K:Env→List HP→Prop}{i:Nat}{o:Oper}{M:Value→List HP→Prop}(h:oR X o.op e L M)(hi:ops.toList[i]?=some o)
  (hst:∀v L',M v L'→∀w,St X L' w→∀p∈S,waits ops i p.1=false→p.2 w)
  (hk:∀v L',M v L'→VA X ops G pl (S.filter fun p=>!waits ops i p.1) (bI o.dst v e) L' K)
  (hg:bN ops G o.guard=some true:=by rfl) (hd:b9 X.n o.dst=true:=by rfl) (hf:bP G o.dst=true:=by rfl):VA X ops G (.only i pl) S e L K:=by
 intro Q' hp0 hQ hsel ro listed a w hp ha hG hw hall
 simp only[lB,dG,beq_iff_eq] at hp
 have hi':ops[i]?=some o:=by simpa using hi
 have hpr:=hp.1
 refine⟨fun h0=>yh,fun j hj=>?_⟩
 rw[hpr,mi] at hj
 subst hj
 unfold wpOpIn
 rw[hi']
 simp only[nh hG hg,if_true]
 refine h.wp ha hw (fun v L' w' hm hs=>⟨fun p hp1 hp2=>hst v L' hm w' hs p hp1 hp2,?_⟩)
 exact KA
theorem oR.yield{X:Cx}{x:Operand}{l:Nat}{r:Loop}{args:Array Operand}{tys:Array TypeId}{e:Env}{L Lc Lr:List HP}{vals:List Value}{R:Value→List HP→Prop}
  (hx:ev e x=some (nL l)) (hargs:dZ e args.toList=some vals) (hn:vals.length=r.params.size) (hp:L.Perm (ez l r::(Lc++Lr)))
  (ht:∀Fr' w,(∀b,X.Fr b→Fr' b)→St X L w→aV Fr' Lr w→vA X.P l r vals Fr' w Lc R):
  oR X (.call ⟨.value x,args,tys⟩) e L (fun v L'=>∃L1,R v L1∧L'=ez l r::(L1++Lr)):=by
 refine⟨fun c=>Op.noConfusion,fun a w ha hw dst ty pos after guard=>?_⟩
 obtain⟨F,hs,hnd,hb⟩:=hw.sat.perm hp
 obtain⟨i,G,rfl,hi,hG⟩:=hs
 obtain⟨rfl,hl⟩:=hi
 obtain⟨Fc,Fl,rfl,hsc,hsl⟩:=df.append.1 hG
 have T:=ht (fun b=>X.Fr b∨b∈Fl) w (fun b h=>.inl h) hw ⟨Fl,hsl,fun b h=>.inr h⟩
 have hev:args.map a.eval=vals.toArray:=by
  have:=ha.dZ hargs
  apply kT.1
  simpa using this
 refine⟨l,r.fn,(r.params.zip vals.toArray).foldl (fun tmps (t,a)=>tmps.setIfInBounds t a) r.tmps,r.assign,r.body,?_,?_⟩
 rotate_left
 ·have hnd2:=gy.1 hnd
  have hnd3:=gy.1 hnd2.2.1
  refine RoundIn.mono (T (fun b h=>?_) ⟨[l]++Fc,⟨[l],Fc,Z,⟨rfl,hl⟩,hsc⟩,?_,fun b h=>⟨fun h'=>?_,?_⟩⟩) fun en w' ⟨v,L',h1,h2,h3,h4⟩=>?_
  ·rcases h with h | h
   ·exact hw.kl b h
   ·exact(hb b ya).2
  ·rw[←eV] at hnd
   exact(gy.1 hnd).1
  ·rcases h' with h' | h'
   ·refine(hb b ?_).1 h'
    rcases fL.1 h with h | h
    ·simp at h;simp[h]
    ·simp[h]
   ·rcases fL.1 h with h | h
    ·exact hnd2.2.2 b h b (by simp[h']) rfl
    ·exact hnd3.2.2 b h b h' rfl
  ·rcases fL.1 h with h | h
   ·exact(hb b (by simp at h;simp[h])).2
   ·exact(hb b ya).2
  ·refine⟨v,ez l r::(L'++Lr),h1,⟨L',h2,Z⟩,⟨?_,hw.bL.trans (h4.mono fun b h=>.inl h),hw.low⟩⟩
   obtain⟨K,hK,hKn,hKb⟩:=h3
   refine⟨K++Fl,df.append (L:=ez l r::L').2 ⟨K,Fl,Z,hK,hsl.loc fun b h=>h4.block b (.inr h)⟩,?_,?_⟩
   ·exact gy.2 ⟨hKn,hnd3.2.1,fun x hx y hy he=>(hKb x hx).1 (.inr (he▸hy))⟩
   ·intro b h
    rcases fL.1 h with h | h
    ·exact⟨fun h'=>(hKb b h).1 (.inl h'),(hKb b h).2⟩
    ·exact ED
 ·have hy:=run_yield (P:=X.P) (args:=vals.toArray) hl (by simpa using hn)
  simp only[execOp,resolve,ha.ev hx,nL,Deferred.ofValue,invoke]
  rw[hev]
  simpa[Sem.run_bind,Result.andThen] using hy
def uq(D:Nat):Deferred:={ target:=.collected D,args:=#[] }
structure BK(D n:Nat)(a:Act)(e:Env):Prop where
 F_:cW n { a with defers:=[] } e
 mark:a.defers=[uq D]
def VD(X:Cx)(D:Nat)(c:Code)(e:Env)(L:List HP)(Q:Exit→Env→List HP→Prop):Prop:=
 ∀a w,BK D X.n a e→St X L w→c.wpIn (wR none) 0 X.P (fun x a' w'=>∃e' L',BK D X.n a' e'∧St X L' w'∧Q x e' L') a w
def VM(X:Cx)(c:Code)(e:Env)(L:List HP)(Q:Exit→Env→List HP→Prop)(QD:Nat→Exit→Env→List HP→Prop):Prop:=
 ∀a w,cW X.n a e→St X L w→c.wpIn (wR none) 0 X.P (fun x a' w'=>(∃e' L',cW X.n a' e'∧St X L' w'∧Q x e' L')∨∃D e' L',BK D X.n a' e'∧St X L' w'∧QD D x e' L') a w
def Ao(X:Cx)(D:Nat)(c:Code)(Q:Exit→Env→List HP→Prop):Exit→Env→List HP→Prop
 | .normal,e,L=>VD X D c e L Q
 | x,e,L=>Q x e L
def SI(X:Cx)(c:Code)(Q:Exit→Env→List HP→Prop)(QD:Nat→Exit→Env→List HP→Prop):Exit→Env→List HP→Prop
 | .normal,e,L=>VM X c e L Q QD
 | x,e,L=>Q x e L
section
variable {X:Cx} {D:Nat} {b c:Code} {e:Env} {L:List HP} {Q:Exit→Env→List HP→Prop} {QD:Nat→Exit→Env→List HP→Prop}
theorem VD.ret(h:Q .ret e L):VD X D .ret e L Q:=fun _ _ ha hw=>wpIn_ret ⟨e,L,ha,hw,h⟩
theorem VD.seq(h:VD X D b e L (Ao X D c Q)):VD X D (.seq b c) e L Q:=by
 intro a w ha hw
 refine wpIn_seq (wpIn_mono (h a w ha hw) fun x a' w' ⟨e',L',h1,h2,h3⟩=>?_)
 cases x with
 | normal=>exact h3 a' w' h1 h2
 | exit id=>exact⟨e',L',h1,h2,h3⟩
 | goto l=>exact⟨e',L',h1,h2,h3⟩
 | ret=>exact⟨e',L',h1,h2,h3⟩
 | panic ch=>exact⟨e',L',h1,h2,h3⟩
 | outgrown=>exact⟨e',L',h1,h2,h3⟩
theorem Kq{F:Fence}{n:Nat}{P:Program}{ops:Array Oper}{K:Exit→Act→World→Prop}(ds:List Deferred):∀(l:List Oper) (a:Act) (w:World),wpListIn F n P ops K l a w →
  wpListIn F n P ops (fun x a' w'=>∃a0,K x a0 w'∧a'={ a0 with defers:=a0.defers++ds }) l { a with defers:=a.defers++ds } w
 | [],a,w,h=>⟨a,h,rfl⟩
 | o::l,a,w,h=>by
  have hput:∀(a:Act) v,({ a with defers:=a.defers++ds }:Act).put o.dst v={ a.put o.dst v with defers:=(a.put o.dst v).defers++ds }:=fun a v=>by
   cases hd:o.dst<;>rfl
  have ih:=Kq (F:=F) (n:=n) (P:=P) (ops:=ops) (K:=K) ds l
  unfold wpListIn at h ⊢
  dsimp only
  split
  ·rename_i hw
   rw[if_pos hw] at h
   refine⟨h.1,?_⟩
   have h:=h.2
   have he:({ a with defers:=a.defers++ds }:Act).eval=a.eval:=rfl
   rw[he]
   generalize (o.semAt F.round a.eval).run P w=r at h ⊢
   cases r with
   | ok x w'=>
    cases x<;>simp only[Oper.uponIn] at h ⊢
    case value u=>rw[hput];exact ih _ _ h
    case skip=>rw[hput];exact ih _ _ h
    case defer d=>
     have:=ih _ _ h
     rw[show({ a with defers:=d::(a.defers++ds) }:Act)={ ({ a with defers:=d::a.defers }:Act) with defers:=({ a with defers:=d::a.defers }:Act).defers++ds } from rfl,hput]
     exact this
    case enter f args=>
     refine⟨h.1,CallsIn.mono h.2 fun e w'' he=>?_⟩
     cases e with
     | returned u=>dsimp only at he ⊢;rw[hput];exact ih _ _ he
     | panicked c=>exact⟨a,he,rfl⟩
     | outgrown=>obtain⟨a0,w0,hq⟩:=he;exact⟨_,w0,a0,hq,rfl⟩
    case row row args=>exact⟨h.1,RowsIn.mono h.2 fun u w'' he=>by rw[hput];exact ih _ _ he⟩
    case round l f tmps assign body=>
     refine⟨h.1,RoundIn.mono h.2 fun e w'' he=>?_⟩
     cases e with
     | returned u=>dsimp only at he ⊢;rw[hput];exact ih _ _ he
     | panicked c=>exact⟨a,he,rfl⟩
     | outgrown=>obtain⟨a0,w0,hq⟩:=he;exact⟨_,w0,a0,hq,rfl⟩
   | halt x w'=>
    cases x<;>simp only[Oper.uponIn] at h ⊢
    case panic u=>exact⟨a,h,rfl⟩
  ·rename_i hw
   rw[if_neg hw] at h
   refine⟨h.1,?_⟩
   rw[hput]
   exact ih _ _ h.2
theorem VD.region{id:Nat}{l:List Oper}(h:VO X l.toArray [] l e L (Q .normal)):VD X D (.region id l.toArray false) e L Q:=by
 intro a w ha hw
 have h0:=h (fun x a' w'=>x=.normal∧∃e' L',cW X.n a' e'∧St X L' w'∧Q .normal e' L') (fun e' L' _ _ h1 h2 h3=>⟨rfl,e',L',h1,h2,h3⟩) none { a with defers:=[] } w ha.F_ (lK.nil _) hw
 have h1:=Kq [uq D] l _ _ h0
 have e1:({ ({ a with defers:=[] }:Act) with defers:=({ a with defers:=[] }:Act).defers ++ [uq D] }:Act)=a:=by
  have:=ha.mark
  obtain⟨t,d⟩:=a
  dsimp only at this
  subst this;rfl
 rw[e1] at h1
 refine wpIn_mono (wpIn_region_lit h1) ?_
 rintro x a' w' ⟨a0,⟨rfl,e',L',h2,h3,h4⟩,rfl⟩
 have hd0:=h2.defers
 refine⟨e',L',⟨?_,?_⟩,h3,h4⟩
 ·obtain⟨t,d⟩:=a0
  dsimp only at hd0
  subst hd0
  exact h2
 ·show a0.defers ++ [uq D]=_
  rw[hd0];rfl
theorem VM.Eh(h:VC X b e L (SI X c Q QD)):VM X (.seq b c) e L Q QD:=by
 intro a w ha hw
 refine wpIn_seq (wpIn_mono (h none a w ha hw) fun x a' w' ⟨e',L',h1,h2,h3⟩=>?_)
 cases x with
 | normal=>exact h3 a' w' h1 h2
 | exit id=>exact .inl ⟨e',L',h1,h2,h3⟩
 | goto l=>exact .inl ⟨e',L',h1,h2,h3⟩
 | ret=>exact .inl ⟨e',L',h1,h2,h3⟩
 | panic ch=>exact .inl ⟨e',L',h1,h2,h3⟩
 | outgrown=>exact .inl ⟨e',L',h1,h2,h3⟩
theorem VM.Ao(h:VM X b e L (fun _ _ _=>False) (fun D=>Ao X D c (QD D))):VM X (.seq b c) e L Q QD:=by
 intro a w ha hw
 refine wpIn_seq (wpIn_mono (h a w ha hw) fun x a' w' hh=>?_)
 rcases hh with ⟨_,_,_,_,h3⟩ | ⟨D,e',L',h1,h2,h3⟩
 ·exact h3.elim
 cases x with
 | normal=>exact wpIn_mono (h3 a' w' h1 h2) fun x a2 w2 ⟨e2,L2,k1,k2,k3⟩=>.inr ⟨D,e2,L2,k1,k2,k3⟩
 | exit id=>exact .inr ⟨D,e',L',h1,h2,h3⟩
 | goto l=>exact .inr ⟨D,e',L',h1,h2,h3⟩
 | ret=>exact .inr ⟨D,e',L',h1,h2,h3⟩
 | panic ch=>exact .inr ⟨D,e',L',h1,h2,h3⟩
 | outgrown=>exact .inr ⟨D,e',L',h1,h2,h3⟩
theorem VM.block{id:Nat}(h:VM X c e L (fun _ _ _=>False) (fun D x e L=>x=.normal∧QD D .normal e L)):VM X (.block id c) e L (fun _ _ _=>False) QD:=by
 intro a w ha hw
 refine wpIn_block (wpIn_mono (h a w ha hw) fun x a' w' hh=>?_)
 rcases hh with ⟨_,_,_,_,h3⟩ | ⟨D,e',L',h1,h2,rfl,h3⟩
 ·exact h3.elim
 ·exact .inr ⟨D,e',L',h1,h2,h3⟩
theorem VM.Sa{g:Operand}{ps:Array Tmp}{assign body:Code}{f:FuncId}{capt:List Value}{M:List HP→Prop}(hg:ev e g=some (ba f [] capt))(hc:lJ X.P f)
  (ht:∀(l:Nat) (r:Loop) (Fr':Nat→Prop) (w:World),(∀b,X.Fr b→Fr' b)→cB X.Fr X.w0 w→(∃a:Act,cW X.n a e∧r.tmps=a.tmps)→r.state=.ready→r.pending=none→r.params=ps→r.assign=assign→r.body=body →
   aq X.P f (nL l::capt) Fr' w (ez l r::L) fun _ L'=>∃L2,L'=ez l r::L2∧M L2)
  (hk:∀D L2,M L2→QD D .normal e (ry D::L2)):VM X (.rangeFunc g ps assign body) e L Q QD:=by
 intro a w ha hw
 refine wpIn_rangeFunc (F:=Fence.wide) fun fn _=>?_
 obtain⟨r,hr⟩:∃r:Loop,r={ state:=.ready,pending:=none,fn,tmps:=a.tmps,params:=ps,assign,body,defers:=w.heap.size }:=⟨_,rfl⟩
 obtain⟨W,hW⟩:∃W,W=(w.alloc (.deferred (some []))).alloc (.loop r):=⟨_,rfl⟩
 have s1:Sat X.Fr (ry w.heap.size::L) (w.alloc (.deferred (some []))):=hw.sat.alloc hw.kl _ _ ⟨rfl,heap_alloc_new w _⟩
 have k1:cB X.Fr w (w.alloc (.deferred (some []))):=cB.alloc hw.kl _
 have low1:∀b,X.Fr b→b<(w.alloc (.deferred (some []))).heap.size:=fun b hb=>vv (hw.kl b hb) k1.size
 have hsz:(w.alloc (.deferred (some []))).heap.size=w.heap.size+1:=by simp
 have s2:Sat X.Fr (ez (w.heap.size+1) r::ry w.heap.size::L) W:=by
  rw[hW,←hsz]
  exact s1.alloc low1 _ _ ⟨rfl,heap_alloc_new _ _⟩
 have k2:cB X.Fr w W:=by rw[hW];exact k1.trans (cB.alloc low1 _)
 have hev:a.eval g=.func (.func f) #[] capt.toArray:=ha.ev hg
 refine⟨w.heap.size+1,[uq w.heap.size],W,{ target:=.fn (.func f) capt.toArray,args:=#[nL (w.heap.size+1)] },W,f,#[nL (w.heap.size+1)]++capt.toArray,W,?_,?_,fun _ _=>trivial,?_,(fun h=>by cases h),?_⟩
 ·rw[hW,hr];exact run_enterLoop_outer _ _ _ _ _
 ·simp only[resolve,hev]
  simp[Deferred.ofValue,nL,Act.eval]
 ·simp only[invoke]
  exact D' hc _ _
 obtain⟨F,hs,hnd,hb⟩:=s2
 obtain⟨i,G,rfl,hi,hG⟩:=hs
 obtain⟨rfl,hl⟩:=hi
 obtain⟨j,K,rfl,hj,hK⟩:=hG
 obtain⟨rfl,hD⟩:=hj
 have hn2:=gy.1 hnd
 have hn3:=gy.1 hn2.2.1
 have T:=ht (w.heap.size+1) r (fun b=>X.Fr b∨b=w.heap.size) W (fun b h=>.inl h) (hw.bL.trans k2) ⟨a,ha,by rw[hr]⟩ (by rw[hr]) (by rw[hr]) (by rw[hr]) (by rw[hr]) (by rw[hr])
 have hc1:=T.calls (fun b h=>by
  rcases h with h | rfl
  ·exact(vv (hw.kl b h) k2.size)
  ·exact(hb _ yf).2) ⟨[w.heap.size+1]++K,⟨[w.heap.size+1],K,Z,⟨rfl,hl⟩,hK⟩,by
   refine gy.2 ⟨by simp,hn3.2.1,fun x hx y hy he=>hn2.2.2 x hx y (by simp[hy]) he⟩,fun b hbm=>⟨fun h=>?_,?_⟩⟩
 rotate_left
 ·rcases h with h | rfl
  ·rcases fL.1 hbm with h2 | h2
   ·exact(hb b (by simp at h2;simp[h2])).1 h
   ·exact(hb b yj).1 h
  ·rcases fL.1 hbm with h2 | h2
   ·simp at h2
   ·exact hn3.2.2 _ yf _ h2 rfl
 ·rcases fL.1 hbm with h2 | h2
  ·exact(hb b (by simp at h2;simp[h2])).2
  ·exact(hb b yj).2
 have e1:(#[nL (w.heap.size+1)]++capt.toArray:Array Value)=(nL (w.heap.size+1)::capt).toArray:=by simp
 rw[e1]
 refine(callsIn_wide (n:=0-1)).2 (Calls.mono hc1 ?_)
 rintro en w' ⟨v,L',rfl,⟨L2,rfl,hM⟩,h3,h4⟩
 have hl':=h3.lp
 obtain⟨s5,k5⟩:=h3.Df { r with state:=.exhausted }
 refine⟨none,w'.putObj (w.heap.size+1) (.loop { r with state:=.exhausted }),?_,?_⟩
 ·have:=run_endLoop (P:=X.P) hl' (by rw[hr];exact fun h=>by cases h)
  rw[this,show r.pending=none by rw[hr]]
 ·have hD':(w'.putObj (w.heap.size+1) (.loop { r with state:=.exhausted })).heap[w.heap.size]?=some (.deferred (some [])):=(k5.block _ (.inr rfl)).trans ((h4.block _ (.inr rfl)).trans hD)
  refine .inr ⟨w.heap.size,e,ry w.heap.size::L2,⟨?_,?_⟩,⟨?_,(hw.bL.trans k2).trans ((h4.trans k5).mono fun b h=>.inl h),hw.low⟩,hk _ _ hM⟩
  ·have hd0:=ha.defers
   obtain⟨t,d⟩:=a
   dsimp only at hd0
   subst hd0
   exact ha
  ·show [uq w.heap.size]++a.defers=_
   rw[ha.defers];rfl
  ·obtain⟨F5,hs5,hn5,hb5⟩:=s5.tail
   refine⟨[w.heap.size]++F5,⟨_,F5,Z,⟨rfl,hD'⟩,hs5⟩,gy.2 ⟨by simp,hn5,fun x hx y hy he=>?_⟩,fun b hbm=>?_⟩
   ·simp at hx
    exact(hb5 y hy).1 (.inr (by rw[←he,hx]))
   ·rcases fL.1 hbm with h2 | h2
    ·simp at h2
     rw[h2]
     exact⟨fun h=>Nat.lt_irrefl _ (hw.kl _ h),(pY.1 hD').1⟩
    ·exact⟨fun h=>(hb5 b h2).1 (.inl h),(hb5 b h2).2⟩
end
def Sj(X:Cx)(fn:Func)(R:Value→List HP→Prop)(D:Nat):Exit→Env→List HP→Prop
 | .normal,e,L=>∃L2,L=ry D::L2∧al X fn R e L2
 | .ret,e,L=>∃L2,L=ry D::L2∧al X fn R e L2
 | _,_,_=>False
theorem aq.ofM{P:Program}{f:FuncId}{fn:Func}{c:Code}{args:List Value}{Fr:Nat→Prop}{w:World}{L:List HP}{R:Value→List HP→Prop}{tab:kC}(n:Nat)
  (hf:P.funcs[f]?=some fn) (hb:fn.body=some c) (hnm:(fn.name == "runtime.NumGoroutine")=false) (ok:nS P tab) (hnt:fn.ntmps=n) (hn:Nat.ble args.length n=true)
  (h:VM ⟨P,tab,ok,n,Fr,w⟩ c (ua 0 args) L (Jp ⟨P,tab,ok,n,Fr,w⟩ fn R) (Sj ⟨P,tab,ok,n,Fr,w⟩ fn R)):aq P f args Fr w L R:=by
 subst hnt
 replace hn:=fB hn
 refine⟨⟨fn,hf,by simp[hb],hnm⟩,fun hlow hs=>?_⟩
 refine(callsIn_wide (n:=0)).1 (callsIn_of_wp_marks (F:=Fence.wide) hf hb trivial (wpIn_mono (F:=wR none) (h _ w (Ga hn) ⟨hs,cB.refl _ _,hlow⟩) fun x a' w' hh=>?_))
 rcases hh with ⟨e',L',h1,h2,h3⟩ | ⟨D,e',L',h1,h2,h3⟩
 ·have key:al ⟨P,tab,ok,fn.ntmps,Fr,w⟩ fn R e' L'→LeavesInM Fence.wide 0 P fn a'.tmps (fun e w'=>∃v L',e=.returned v∧R v L'∧Sat Fr L' w'∧cB Fr w w') a'.defers .returning w':=by
   rintro⟨v,L1,hr,he,hR⟩
   rw[h1.defers]
   exact⟨v,hr.run a' w' h1 h2,v,L1,Z,hR,(he w' h2).sat,h2.bL⟩
  cases x with
  | normal=>exact key h3
  | ret=>exact key h3
  | exit id=>exact h3.elim
  | goto l=>exact h3.elim
  | panic ch=>exact h3.elim
  | outgrown=>exact h3.elim
 ·have key:(∃L2,L'=ry D::L2∧al ⟨P,tab,ok,fn.ntmps,Fr,w⟩ fn R e' L2)→LeavesInM Fence.wide 0 P fn a'.tmps (fun e w'=>∃v L',e=.returned v∧R v L'∧Sat Fr L' w'∧cB Fr w w') a'.defers .returning w':=by
   rintro⟨L2,rfl,v,L1,hr,he,hR⟩
   rw[h1.mark]
   obtain⟨s2,k2⟩:=Sat.putObj (H:=ry D) (b:=D) (o:=.deferred none) (H':=⟨fun ids w=>ids=[D],fun _ _ _ _ h=>h⟩) (fun _ h=>h.1) (fun _=>rfl) h2.sat
   have hD:w'.heap[D]?=some (.deferred (some [])):=by
    obtain⟨F,⟨i,G,rfl,hi,hG⟩,hn,hb⟩:=h2.sat
    exact hi.2
   have st:St ⟨P,tab,ok,fn.ntmps,Fr,w⟩ L2 (w'.putObj D (.deferred none)):=⟨s2.tail,h2.bL.trans k2,h2.low⟩
   exact⟨(fun h=>by cases h),.inl ⟨D,_,rfl,run_takeDeferred hD,v,hr.run { a' with defers:=[] } _ h1.F_ st,v,L1,rfl,hR,(he _ st).sat,st.bL⟩⟩
  cases x with
  | normal=>exact key h3
  | ret=>exact key h3
  | exit id=>exact h3.elim
  | goto l=>exact h3.elim
  | panic ch=>exact h3.elim
  | outgrown=>exact h3.elim
end Vg
namespace Cl
open Go Vg T Api Ch Rep Conf Lg Rd
attribute [local irreducible] VO VC VA VM VD
theorem HB{p:Nat}{C:ay}(h:aV Fr [bx p C] w):aq Tryz.prog 98 [.pointer (some ⟨p,0,none⟩)] Fr w [] (fun v L=>v=.bool false∧L=[]):=by
 obtain⟨y,fit,hy⟩:=vM h
 refine TF 6 Tryz.func98 Z ym aw Z Z ?_
 refine ae ?_
 refine VG (VV (fun Fr w hF hw hS=>Ka Fr w (y:=y) (C:=C) ((hy.ar 0 Z).of hF hw)) Z ?_)
 refine ae ?_
 exact jQ
abbrev nY:TypeId:=28
abbrev Pu:TypeId:=3
def f_(tb mb p:Nat)(C:ay)(m:Int):List HP:=[pt mb [.int .i64 m] Pu,pt tb [.pointer (some ⟨p,0,none⟩)] nY,bx p C]
def sM(s:eh)(e:Int):Int:=if e=0∧s.kind=4 then 1 else 0
def BN(r:Loop)(l tb mb p:Nat):Prop:=∀{C:ay} {b e:Nat} (ok:C.Ok b e) (hb:b<100000) (he:e<900000) (m:Int) (h0:0≤m) (h1:m≤1000000) (s:eh) (Fr:Nat→Prop) (w:World),
 vA Tryz.prog l r [.agg s.cells.toArray] Fr w (f_ tb mb p C m) fun v L=>v=.bool true∧L=f_ tb mb p (C.bG s).1 (m+sM s (C.bG s).2)
theorem cW.RF{n:Nat}{a:Act}{e:Env}(h:cW n a e){t:Nat}(ht:Nat.blt t n=true)(v:Value):cW n { tmps:=((#[t]:Array Tmp).zip #[v]).foldl (fun tmps (t,a)=>tmps.setIfInBounds t a) a.tmps,defers:=[] } ((t,v)::e):=by
 have:=h.put ht v
 have hd:=h.defers
 obtain⟨x,d⟩:=a
 dsimp only at hd
 subst hd
 have e1:((#[t]:Array Tmp).zip #[v]).foldl (fun tmps (t,a)=>tmps.setIfInBounds t a) x=x.setIfInBounds t v:=by simp
 dsimp only
 rw[e1]
 exact this
theorem CZ{s:eh}(e:Int)(h:s.kind≠4):sM s e=0:=if_neg fun g=>h g.2
theorem Pth.PA{C:ay}{p:bm}(m:Int):m+sM (gw p) (C.bG (gw p)).2=m+mF (C.bG (gw p)).2:=by
 unfold sM mF gw eA
 by_cases h:(C.bG ⟨4,p.1,p.2,0,DJ⟩).2=0
 ·rw[if_pos ⟨h,rfl⟩,if_pos h]
 ·rw[if_neg (fun g=>h g.1),if_neg h]
theorem Au{C:ay}{b e:Nat}(h:C.Ok b e)(hb:b<90000)(he:e<800000):∀n:Nat,n≤6→(uM n C).Ok (b+n) (e+7*n)
 | 0,_=>h
 | n+1,hn=>((Au h hb he n yd).bG yd yd _).mono yd yd
end Cl
namespace Cl
open Go Vg T Api Ch Rep Conf Lg Rd
def gR(a b:bm):Bool:=decide (a.1<b.1)||(decide (a.1=b.1)&&decide (a.2≤b.2))
theorem rO{a b:bm}:gR a b=true↔a.1<b.1∨(a.1=b.1∧a.2≤b.2):=by unfold gR;simp
theorem H0{a b c:bm}(h:gR a b=true)(k:gR b c=true):gR a c=true:=by
 rw[rO] at *;omega
theorem HZ(a b:bm):gR a b=true∨gR b a=true:=by
 rw[rO,rO];omega
theorem Qb{a b:bm}(h:gR a b=true)(k:gR b a=true):a=b:=by
 rw[rO] at *
 exact Prod.ext yd yd
def km:List bm→Option bm
 | []=>none
 | a::l=>match km l with
  | none=>some a
  | some b=>some (if gR a b then a else b)
theorem Dl{l:List bm}:km l=none↔l=[]:=by
 cases l with
 | nil=>exact⟨fun _=>rfl,fun _=>rfl⟩
 | cons a l=>
  refine⟨fun h=>?_,fun h=>by cases h⟩
  unfold km at h
  split at h<;>cases h
theorem IC:∀{l:List bm} {p:bm},km l=some p→p∈l∧∀q∈l,gR p q=true
 | [],p,h=>by cases h
 | a::l,p,h=>by
  unfold km at h
  split at h
  ·rename_i hn
   cases h
   rw[Dl] at hn
   subst hn
   refine⟨q4 ..,fun q hq=>?_⟩
   rw[mi.1 hq,rO];omega
  ·rename_i b hb
   obtain⟨h1,h2⟩:=IC hb
   have h:=jS h
   split at h
   ·rename_i hab
    subst h
    refine⟨q4 ..,fun q hq=>?_⟩
    rcases gK.1 hq with rfl | hq
    ·rw[rO];omega
    ·exact H0 hab (h2 q hq)
   ·rename_i hab
    subst h
    refine⟨lH _ h1,fun q hq=>?_⟩
    rcases gK.1 hq with rfl | hq
    ·rcases HZ q b with g | g
     ·exact absurd g hab
     ·exact g
    ·exact h2 q hq
theorem QU{l:List bm}{p:bm}(h:p∈l)(k:∀q∈l,gR p q=true):km l=some p:=by
 cases hm:km l with
 | none=>rw[Dl] at hm;rw[hm] at h;cases h
 | some q=>
  obtain⟨h1,h2⟩:=IC hm
  rw[Qb (h2 p h) (k q h1)]
def rf(l:List bm):Prop:=∀(i j:Nat) (x y:bm),i<j→l[i]?=some x→l[j]?=some y→gR x y=true
theorem S7{l m:List bm}{p:bm}(hs:rf l)(hp:l.Perm m)(h0:l[0]?=some p):km m=some p:=by
 refine QU (hp.mem_iff.1 (ME h0)) fun q hq=>?_
 obtain⟨j,hj⟩:=vq (hp.mem_iff.2 hq)
 by_cases h:j=0
 ·subst h
  rw[h0] at hj
  cases hj
  rw[rO];omega
 ·exact hs 0 j p q yd h0 hj
def lX(C:ay):List bm:=C.aQ.cE.map Prod.fst
def eO:Nat→ay→Int→ay×Int
 | 0,C,m=>(C,m)
 | n+1,C,m=>match km (lX C) with
  | none=>(C,m)
  | some p=>eO n (C.bG (gw p)).1 (m+mF (C.bG (gw p)).2)
def o7:Nat→ay→Bool
 | 0,C=>decide ((lX C).length≤12)
 | n+1,C=>decide ((lX C).length≤12)&&match km (lX C) with
  | none=>true
  | some p=>o7 n (C.bG (gw p)).1
theorem OQ{n:Nat}{C:ay}(h:o7 n C=true):(lX C).length≤12:=by
 cases n with
 | zero=>exact of_decide_eq_true h
 | succ n=>
  unfold o7 at h
  rw[dG] at h
  exact of_decide_eq_true h.1
theorem Cf{C:ay}(h:km (lX C)=none)(m:Int):∀n,eO n C m=(C,m)
 | 0=>rfl
 | n+1=>by unfold eO;rw[h]
theorem Cg{C:ay}{p:bm}(h:km (lX C)=some p)(n:Nat)(m:Int):eO (n+1) C m=eO n (C.bG (gw p)).1 (m+mF (C.bG (gw p)).2):=by
 rw[eO,h]
theorem OR{C:ay}{p:bm}(h:km (lX C)=some p){n:Nat}(k:o7 (n+1) C=true):o7 n (C.bG (gw p)).1=true:=by
 rw[o7,h,dG] at k
 exact k.2
def mK(C:ay):ay×Int:=((((eO 4096 (pn (eO 4096 C 0).1) (eO 4096 C 0).2)).1.bG (eA 11 0 0)).1,(eO 4096 (pn (eO 4096 C 0).1) (eO 4096 C 0).2).2)
def yZ(C:ay):Bool:=o7 4096 C&&o7 4096 (pn (eO 4096 C 0).1)
def pC:Nat→ay→ay
 | 0,C=>C
 | n+1,C=>pC n (mK C).1
def sF:Nat→ay→Bool
 | 0,_=>true
 | n+1,C=>yZ C&&sF n (mK C).1
theorem G_{b e:Nat}:∀(n:Nat) {C:ay} {k:Nat} (m:Int),C.Ok (b+k) (e+7*k)→b+k+n<99000→e+7*k+7*n<890000→(eO n C m).1.Ok (b+k+n) (e+7*k+7*n)
 | 0,C,k,m,h,_,_=>h
 | n+1,C,k,m,h,hb,he=>by
  cases hm:km (lX C) with
  | none=>rw[Cf hm];exact h.mono yd yd
  | some p=>
   rw[Cg hm]
   have h2:(C.bG (gw p)).1.Ok (b+(k+1)) (e+7*(k+1)):=(h.bG yd yd _).mono yd yd
   exact(G_ (k:=k+1) n _ h2 yd yd).mono yd yd
theorem yO{b e:Nat}{C:ay}(h:C.Ok b e)(hb:b<90000)(he:e<800000)(m:Int):(eO 4096 C m).1.Ok (b+4096) (e+28672):=by
 have:=G_ (b:=b) (e:=e) (k:=0) 4096 m h yd yd
 exact this.mono yd yd
theorem Ce:∀(n:Nat) (C:ay) (m:Int),m≤(eO n C m).2∧(eO n C m).2≤m+n
 | 0,C,m=>⟨fj _,by show m≤m+((0:Nat):Int);omega⟩
 | n+1,C,m=>by
  cases hm:km (lX C) with
  | none=>rw[Cf hm];dsimp only;omega
  | some p=>
   rw[Cg hm]
   have ih:=Ce n (C.bG (gw p)).1 (m+mF (C.bG (gw p)).2)
   have:0≤mF (C.bG (gw p)).2∧mF (C.bG (gw p)).2≤1:=by unfold mF;split<;>omega
   push_cast
   omega
def JP(c:Int)(k:ByteArray):eh:=⟨1,c,0,100,⟨1,k,⟨#[]⟩,0⟩⟩
def yS:ay:=(Ae.bG (Jc 0)).1
def t_:ay:=pC 3 yS
def yT:ay:=(t_.bG (JP 0 ⟨#[107]⟩)).1
def m_:ay:=pC 1 yT
def Av(C:ay):List Int×List UInt8:=match C.dO 0 with
 | none=>([],[])
 | some x=>match x.outcome with
  | none=>([x.seq,x.eP],[])
  | some o=>([x.seq,x.eP,o.kind,o.res.code,o.res.version,o.res.at_],o.res.value.data.toList)
theorem Cp:(Ae.bG (Jc 0)).2=0∧sF 3 yS=true∧Av t_=([1,0,1,1,1,1],[]):=by decide +kernel
theorem Cq:(t_.bG (JP 0 ⟨#[107]⟩)).2=0∧sF 1 yT=true∧Av m_=([2,0,1,1,1,1],[118]):=by decide +kernel
theorem Hj:m_.aU.ch.aB=1∧m_.aU.ch.ms=[(0,1)]∧m_.aU.ch.drain=-1∧(m_.bG (eA 7 9 0)).2=4:=by decide +kernel
end Cl
namespace Cl
open Go Vg T Api
attribute [local irreducible] VO VC VA
def lP(x y:Int):Int:=if x<y then -1 else if y<x then 1 else 0
def uC(p q:bm):Int:=if lP p.1 q.1≠0 then lP p.1 q.1 else lP p.2 q.2
def dB(p:bm):List Value:=[.int .i64 p.1,.int .i64 p.2]
abbrev jj:TypeId:=113
theorem ou(p:bm):(dB p).length=2:=rfl
theorem II(x:Int):aq Tryz.prog 160 [.int .i64 x] Fr w [] (fun v L=>v=.bool false∧L=[]):=by
 refine TF 6 Tryz.func160 Z ym aw Z Z ?_
 refine au ?_
 exact CR (al.bool 2 Z Z yf ER ⟨rfl,Z⟩)
theorem GZ(x y:Int):aq Tryz.prog 117 [.int .i64 x,.int .i64 y] Fr w [] (fun v L=>v=.int .i64 (lP x y)∧L=[]):=by
 refine TF 20 Tryz.func117 Z ym aw Z Z ?_
 refine au ?_
 refine VG (VV (fun Fr w _ _ _=>II Fr w x) Z ?_)
 refine au ?_
 refine VG (VV (fun Fr w _ _ _=>II Fr w y) Z ?_)
 refine mf ?_
 refine mf ?_
 refine au ?_
 refine CP (p:=x<y) Z (fun h=>?_) (fun h=>CK ?_)
 ·refine au ?_
  exact CR (al.tmp 4 Z Z ER ⟨by rw[lP,if_pos h],Z⟩)
 refine au ?_
 refine CP (p:=y<x) Z (fun h2=>?_) (fun h2=>CK ?_)
 ·refine au ?_
  exact CR (al.tmp 4 Z Z ER ⟨by rw[lP,if_neg h,if_pos h2],Z⟩)
 refine au ?_
 exact CR (al.tmp 4 Z Z ER ⟨by rw[lP,if_neg h,if_neg h2],Z⟩)
theorem Ry{sb:Nat}(a b:Int)(h:a7 Fr w sb [.int .i64 a,.int .i64 b]):aq Tryz.prog 116 [.slice (some ⟨sb,0,none⟩) 2 2] Fr w [] (fun v L=>v=.int .i64 (if a≠0 then a else b)∧L=[]):=by
 refine TF 18 Tryz.func116 Z ym aw Z Z ?_
 refine au ?_
 refine VC.loop (σ:=Nat) (fun k=>[(3,.int .i64 0),(6,.slice (some ⟨sb,0,none⟩) 2 2),(7,.int .i64 2),(8,.int .i64 (k:Int))]) (fun _=>[]) (fun k=>k≤2∧(0<k→a=0)∧(1<k→b=0)) (fun k=>2-k) 0
  ⟨by omega,by omega,by omega⟩ aF ER ?_
 rintro k ⟨hk,ha,hb⟩
 refine au ?_
 refine CP (p:=(k:Int)<2) Z (fun h1=>CK ?_) (fun h1=>CX ?_)
 rotate_left
 ·have h2:k=2:=by omega
  have ha:=ha yd
  have hb:=hb yd
  refine au ?_
  exact CR (al.tmp 2 Z Z ER ⟨by rw[if_neg yd,hb],Z⟩)
 have hv:∃z:Int,([.int .i64 a,.int .i64 b]:List Value)[0+k*1]?=some (.int .i64 z)∧(k=0→z=a)∧(k=1→z=b):=by
  rcases(by omega:k=0∨k=1) with rfl | rfl
  ·exact⟨a,Z,fun _=>rfl,fun h=>by omega⟩
  ·exact⟨b,Z,fun h=>by omega,fun _=>rfl⟩
 obtain⟨z,hz,z0,z1⟩:=hv
 refine au ?_
 refine xl ?_
 refine VG (VO.load Z Z (an.ar h hz) ?_)
 refine au ?_
 refine VC.dd Z (fun k1=>?_) (fun k1=>CK ?_)
 ·refine au ?_
  refine CR (al.tmp 2 Z Z ER ⟨?_,Z⟩)
  rcases(by omega:k=0∨k=1) with h0 | h0
  ·rw[←z0 h0,if_pos k1]
  ·rw[if_neg (by have:=ha yd;omega),z1 h0]
 refine au ?_
 refine nH ?_
 refine au ?_
 have k2:z=0:=by simpa using k1
 exact⟨k+1,⟨by omega,fun _=>by
  by_cases h0:k=0
  ·rw[←z0 h0];exact k2
  ·exact ha yd,fun _=>by rw[←z1 yd];exact k2⟩,by dsimp only;omega,SC Z (SC Z (SC Z (Sub.int Z yd (SN _)))),ER⟩
theorem RD(p q:bm):aq Tryz.prog 115 [.agg (dB p).toArray,.agg (dB q).toArray] Fr w [] (fun v L=>v=.int .i64 (uC p q)∧L=[]):=by
 refine TF 17 Tryz.func115 Z ym aw Z Z ?_
 refine CS (CG (VG (VB (vs:=dB p) Z fun b2=>VG (VB (vs:=dB q) Z fun b3=>?_))))
 refine ae ?_
 refine CD (ts 0 4 (ts 5 4 (.only 4 (.only 9 (.only 10 (.only 11 (ts 12 1 .nil))))))) ym yo ?_
 refine Bg ?_
 refine eu ?_
 refine Bg ?_
 refine eu ?_
 refine Bh ?_
 refine eu ?_
 refine Bh ?_
 refine eu ?_
 refine AG (AR (fun Fr w hF hw hS=>GZ Fr w p.1 q.1) Z Z yv ?_)
 refine AG (AR (fun Fr w hF hw hS=>GZ Fr w p.2 q.2) Z Z yv ?_)
 refine AG (AO (aG.buildSlice (n:=2) (pv:=[(0,.int .i64 (lP p.1 q.1)),(1,.int .i64 (lP p.2 q.2))]) (cells:=[.int .i64 (lP p.1 q.1),.int .i64 (lP p.2 q.2)]) rfl rfl rfl rfl yn rfl) rfl (fun v L' g=>by obtain⟨nb,rfl,rfl⟩:=g;exact gx) ?_)
 rintro _ _ ⟨nb,rfl,rfl⟩
 refine AG (AR (fun Fr w hF hw hS=>Ry Fr w (lP p.1 q.1) (lP p.2 q.2) (hS.ar 0 Z)) Z Z yv ?_)
 refine mg ?_
 exact uU
end Cl
namespace Cl
open Go Vg
structure p9(l:List bm)(i j:Nat):Prop where
 uz:∀(a b:Nat) (x y:bm),a<b→b≤i→a≠j→b≠j→l[a]?=some x→l[b]?=some y→gR x y=true
 up:∀(b:Nat) (x y:bm),j<b→b≤i→l[j]?=some x→l[b]?=some y→gR x y=true
def su(l:List bm)(i:Nat):Prop:=∀(a b:Nat) (x y:bm),a<b→b<i→l[a]?=some x→l[b]?=some y→gR x y=true
theorem su.start{l:List bm}{i:Nat}(h:su l i):p9 l i i:=⟨fun a b x y h1 h2 h3 h4=>h a b x y h1 yd,fun b x y h1 h2=>by omega⟩
theorem su.all{l:List bm}(h:su l l.length):rf l:=fun a b x y h1 h2 h3=>h a b x y h1 (cH.1 h3).1 h2 h3
theorem p9.Tu{l:List bm}{i:Nat}(h:p9 l i 0):su l (i+1):=fun a b x y h1 h2 h3 h4=>by
 by_cases ha:a=0
 ·subst ha;exact h.up b x y h1 yd h3 h4
 ·exact h.uz a b x y h1 yd ha yd h3 h4
theorem p9.stop{l:List bm}{i j:Nat}(h:p9 l i (j+1)){u v:bm}(hu:l[j]?=some u)(hv:l[j+1]?=some v)(huv:gR u v=true):su l (i+1):=fun a b x y h1 h2 h3 h4=>by
 by_cases ha:a=j+1
 ·subst ha;exact h.up b x y h1 yd h3 h4
 ·by_cases hb:b=j+1
  ·subst hb
   rw[hv] at h4
   cases h4
   by_cases haj:a=j
   ·subst haj
    rw[hu] at h3
    cases h3
    exact huv
   ·exact H0 (h.uz a j x u yd yd yd yd h3 hu) huv
  ·exact h.uz a b x y h1 yd ha hb h3 h4
theorem p9.swap{l:List bm}{i j:Nat}(h:p9 l i (j+1))(hj:j+1≤i)(hi:i<l.length){u v:bm}(hu:l[j]?=some u)(hv:l[j+1]?=some v)(hvu:gR v u=true):p9 ((l.set (j+1) u).set j v) i j:=by
 have g:∀k,((l.set (j+1) u).set j v)[k]?=if k=j then some v else if k=j+1 then some u else l[k]?:=fun k=>by
  rw[xI,xI]
  by_cases h1:j=k
  ·subst h1
   rw[if_pos rfl,if_pos rfl,if_pos FN]
  ·rw[if_neg h1,if_neg (show ¬k=j from fun e=>h1 e.symm)]
   by_cases h2:j+1=k
   ·subst h2
    rw[if_pos rfl,if_pos rfl,if_pos yd]
   ·rw[if_neg h2,if_neg (show ¬k=j+1 from fun e=>h2 e.symm)]
 refine⟨fun a b x y h1 h2 h3 h4 h5 h6=>?_,fun b x y h1 h2 h3 h4=>?_⟩
 ·rw[g,if_neg h3] at h5
  rw[g,if_neg h4] at h6
  by_cases ha:a=j+1
  ·rw[if_pos ha] at h5
   cases h5
   rw[if_neg yd] at h6
   exact h.uz j b u y yd h2 yd yd hu h6
  ·rw[if_neg ha] at h5
   by_cases hb:b=j+1
   ·rw[if_pos hb] at h6
    cases h6
    exact h.uz a j x u yd yd ha yd h5 hu
   ·rw[if_neg hb] at h6
    exact h.uz a b x y h1 h2 ha hb h5 h6
 ·rw[g,if_pos rfl] at h3
  cases h3
  rw[g,if_neg yd] at h4
  by_cases hb:b=j+1
  ·rw[if_pos hb] at h4
   cases h4
   exact hvu
  ·rw[if_neg hb] at h4
   exact h.up b v y yd h2 hv h4
theorem swap_perm{l:List bm}{j:Nat}{u v:bm}(hu:l[j]?=some u)(hv:l[j+1]?=some v):((l.set (j+1) u).set j v).Perm l:=by
 obtain⟨h1,rfl⟩:=cH.1 hu
 obtain⟨h2,rfl⟩:=cH.1 hv
 exact List.set_set_perm h2 h1
end Cl
namespace Cl
open Go Vg T Api
attribute [local irreducible] VO VC VA
theorem GY(x y:bm):uC x y<0↔gR y x=false:=by
 rw[Bool.eq_false_iff,Ne,rO]
 unfold uC lP
 by_cases h1:x.1<y.1
 ·simp[h1];omega
 ·by_cases h2:y.1<x.1
  ·have:x.1≠y.1:=by omega
   simp[h1,h2,this]
  ·have:x.1=y.1:=by omega
   by_cases h3:x.2<y.2
   ·simp[this,h3]
   ·by_cases h4:y.2<x.2<;>simp[this,h3,h4]<;>omega
abbrev tX:Value:=.func (.func 115) #[] #[]
theorem aY.Ju{α:Type}{c:α→List Value}{n:Nat}(el:Nat)(a:Option Addr)(cap:Nat)(xs:List α)(hne:xs≠[]):aY (ι:=Nat×List Value) (av el n a xs.length cap (flat c xs)) (fun y=>a=some ⟨y.1,0,none⟩∧xs.length≤cap∧(flat c xs++y.2).length=cap*n) (fun y=>[pt y.1 (flat c xs++y.2) el]):=by
 intro w ids h hn
 obtain⟨y,hy,ids',h1,h2,h3⟩:=aY.sl el n a xs.length cap (flat c xs) w ids h hn
 cases y with
 | none=>obtain⟨_,_,_,h,_⟩:=hy;exact absurd (gI h) hne
 | some y=>
  obtain⟨b,rest⟩:=y
  obtain⟨_,h6,h7,h8⟩:=hy
  exact⟨(b,rest),⟨h7,h6,h8⟩,ids',h1,h2,h3⟩
theorem Pw{a:Option Addr}{cap:Nat}{l:List bm}(hl:l.length≤1000):aq Tryz.prog 207 [.slice a l.length cap,.int .i64 0,.int .i64 l.length,tX] Fr w [av jj 2 a l.length cap (flat dB l)]
  (fun v L=>v=.tuple #[]∧∃m:List bm,m.Perm l∧rf m∧L=[av jj 2 a l.length cap (flat dB m)]):=by
 refine TF 53 Tryz.func207 Z ym aw Z Z ?_
 by_cases hne:l=[]
 ·subst hne
  refine ae ?_
  refine VG (VP Z Z yn yn ?_)
  refine ae ?_
  refine VC.loop (σ:=Unit) (fun _=>[(2,.int .i64 0),(8,.int .i64 1)]) (fun _=>[av jj 2 a 0 cap (flat dB [])]) (fun _=>True) (fun _=>0) () trivial aF ER ?_
  rintro _ -
  refine ae ?_
  refine r_ ?_
  exact al.void rfl ER ⟨rfl,[],.nil,(fun i j x y _ h=>by cases h),rfl⟩
 have hl0:0<l.length:=List.length_pos_iff.2 hne
 refine VC.bu 0 Z (aY.Ju (c:=dB) (n:=2) jj a cap l hne) ?_
 rintro⟨b,rest⟩ ⟨rfl,hcap,hrest⟩
 dsimp only at hcap hrest ⊢
 refine ae ?_
 refine VG (VP Z Z yn yn ?_)
 refine ae ?_
 refine VC.loop (σ:=Nat×List bm) (fun s=>[(0,.slice (some ⟨b,0,none⟩) l.length cap),(1,.int .i64 0),(2,.int .i64 l.length),(3,tX),(8,.int .i64 (s.1:Int))]) (fun s=>[pt b (flat dB s.2++rest) jj]) (fun s=>s.1≤l.length∧s.2.Perm l∧su s.2 s.1) (fun s=>l.length-s.1) (1,l)
  ⟨hl0,List.Perm.refl _,fun a b x y h1 h2=>by dsimp only at h2;omega⟩ aF ER ?_
 rintro⟨i,m⟩ ⟨hi,hp,hs⟩
 dsimp only at hi hp hs ⊢
 have hml:=hp.length_eq
 refine ae ?_
 refine CP (p:=(i:Int)<l.length) Z (fun h1=>CK ?_) (fun h1=>CX ?_)
 rotate_left
 ·obtain rfl:i=l.length:=by omega
  refine al.void Z (aa.sl (n:=m.length) (cap:=cap) (dS ou _) yd (by rw[a_,dS ou,hml,←dS ou l,←a_];exact hrest) aa.refl).ah ⟨rfl,m,hp,?_,by rw[hml]⟩
  rw[←hml] at hs
  exact hs.all
 have hil:i<l.length:=by omega
 refine ae ?_
 refine VC.loop (σ:=Nat×List bm) (fun s=>[(0,.slice (some ⟨b,0,none⟩) l.length cap),(1,.int .i64 0),(2,.int .i64 l.length),(3,tX),(8,.int .i64 (i:Int)),(9,.int .i64 (s.1:Int))]) (fun s=>[pt b (flat dB s.2++rest) jj]) (fun s=>s.1≤i∧s.2.Perm l∧p9 s.2 i s.1) (fun s=>s.1) (i,m)
  ⟨NR _,hp,hs.start⟩ aF ER ?_
 clear hs hp hml
 rintro⟨j,m⟩ ⟨hj,hp,hI⟩
 dsimp only at hj hp hI ⊢
 have hml:=hp.length_eq
 cases j with
 | zero=>
  refine CS (CS ?_)
  refine CD (ts 0 17 .nil) ym yo ?_
  refine bV ?_
  refine AG (AY 21 false Z Z ?_)
  refine bV ?_
  refine r_ ?_
  refine fx ?_
  exact⟨(i+1,m),⟨hil,hp,hI.Tu⟩,by dsimp only;omega,SC Z (SC Z (SC Z (SC Z (Sub.int Z yp (SN _))))),ER⟩
 | succ j=>
 have hu:m[j]?=some m[j]:=GE yd
 have hv:m[j+1]?=some m[j+1]:=GE yd
 generalize m[j]=u at hu
 generalize m[j+1]=v at hv
 have ej:((j+1:Nat):Int)-1=(j:Int):=by omega
 have ru:(((flat dB m++rest).drop (0+j*2)).take 2)=dB u:=by rw[bZ];exact kK ou hu rest
 have rv:(((flat dB m++rest).drop (0+(j+1)*2)).take 2)=dB v:=by rw[bZ];exact kK ou hv rest
 refine CS (CS ?_)
 refine CD (ts 0 14 (.only 14 (ts 15 2 .nil))) ym yo ?_
 refine bV ?_
 refine AG (AY 21 true Z (DT yd) ?_)
 refine bV ?_
 refine FE ?_
 refine AG (VA.cK 0 (dB v) Z Z Z Z rv ?_)
 refine bV ?_
 refine qP ?_
 rw[ej]
 refine FF ?_
 refine AG (VA.cK 0 (dB u) Z Z Z Z ru ?_)
 refine AG (VA.op (i:=14) Z Z Z Z (aG.Kg (f:=115) Z (OC (Lc:=[]) (vals:=[.agg (dB v).toArray,.agg (dB u).toArray]) Z (List.Perm.refl _) (fun Fr w hF hw hS=>RD Fr w v u))) ?_ ?_)
 ·rintro _ _ ⟨_,⟨rfl,rfl⟩,rfl⟩
  exact(by(try refine Pd.st ?_);(repeat(first|exact Pd.nil|exact Pd.fnil|refine Pd.inner ?_|refine Pd.skip yo ?_|refine zf (zo 0 Z Z) ?_|refine zf (zm 0 Z Z) ?_|refine zf (an.ar (an.many 0 Z ru) Z) ?_|refine zf (an.ar (an.many 0 Z rv) Z) ?_|refine zf ((an.many 0 Z ru)) ?_|refine zf ((an.many 0 Z rv)) ?_|refine zc (zo 0 Z Z) ?_|refine zc (zm 0 Z Z) ?_|refine zc (an.ar (an.many 0 Z ru) Z) ?_|refine zc (an.ar (an.many 0 Z rv) Z) ?_|refine zc ((an.many 0 Z ru)) ?_|refine zc ((an.many 0 Z rv)) ?_)))
 rintro _ _ ⟨_,⟨rfl,rfl⟩,rfl⟩
 refine bV ?_
 by_cases hc:uC v u<0
 rotate_left
 ·refine CP (p:=uC v u<0) Z (fun h=>absurd h hc) (fun _=>CX ?_)
  have huv:gR u v=true:=by
   cases h:gR u v with
   | true=>rfl
   | false=>exact absurd ((GY v u).2 h) hc
  refine fx ?_
  exact⟨(i+1,m),⟨hil,hp,hI.stop hu hv huv⟩,by dsimp only;omega,SC Z (SC Z (SC Z (SC Z (Sub.int Z yp (SN _))))),ER⟩
 refine CP (p:=uC v u<0) Z (fun _=>CK ?_) (fun h=>absurd hc h)
 have hvu:gR v u=true:=by
  have:=(GY v u).1 hc
  rcases HZ u v with h | h
  ·rw[h] at this;cases this
  ·exact h
 refine CS (VC.block ?_)
 refine CD (ts 0 15 (.only 15 (.take 16 (.only 17 .nil)))) ym yo ?_
 refine bV ?_
 refine qP ?_
 refine bV ?_
 refine qP ?_
 rw[ej]
 refine FF ?_
 refine AG (VA.cK 0 (dB u) Z Z Z Z ru ?_)
 refine bV ?_
 refine FE ?_
 refine AG (VA.cK 0 (dB v) Z Z Z Z rv ?_)
 refine FE ?_
 have hlen2:(flat dB m).length=m.length*2:=dS ou m
 refine AG (AT (vs:=dB u) (cs':=flat dB (m.set (j+1) u)++rest) 0 Z Z Z Z Z (by show 0+(j+1)*2+2≤(flat dB m++rest).length;rw[a_];omega) (by show cT _ (0+(j+1)*2) _=_;rw[bZ];exact rH ou u rest yd) Z Z yv ?_)
 refine FF ?_
 refine AG (AT (vs:=dB v) (cs':=flat dB ((m.set (j+1) u).set j v)++rest) 0 Z Z Z Z Z (by show 0+j*2+2≤(flat dB (m.set (j+1) u)++rest).length;rw[a_,dS ou,gk];omega) (by show cT _ (0+j*2) _=_;rw[bZ];exact rH ou v rest FN) Z Z yv ?_)
 refine tG ?_
 refine mN ?_
 rw[ej]
 refine ae ?_
 exact⟨(j,(m.set (j+1) u).set j v),⟨by dsimp only;omega,(swap_perm hu hv).trans hp,hI.swap hj yd hu hv hvu⟩,by dsimp only;omega,aF,ER⟩
def C9(n:Nat):UInt8:=(#[0,1,2,2,3,3,3,3,4,4,4,4,4]:Array UInt8).getD n 0
theorem Qf{n:Nat}(hn:n≤12):aq Tryz.prog 216 [.int .u64 (n:Int)] Fr w [] (fun v L=>(∃k,v=.int .i64 k)∧L=[]):=by
 refine TF 25 Tryz.func216 Z ym aw Z Z ?_
 refine ae ?_
 refine CP (p:=(4294967296:Int)≤n) Z (fun h=>absurd h yd) (fun _=>CK ?_)
 refine ae ?_
 refine CP (p:=(65536:Int)≤n) Z (fun h=>absurd h yd) (fun _=>CK ?_)
 refine ae ?_
 refine CP (p:=(256:Int)≤n) Z (fun h=>absurd h yd) (fun _=>CK ?_)
 refine ae ?_
 refine VG (VI (mC (n:Int) Z Z Z Z Z (by show(n:Int) % 256=n;omega)) ?_)
 refine VG (VI (sO (b:=C9 n) n rfl rfl rfl rfl rfl (by rcases n with _|_|_|_|_|_|_|_|_|_|_|_|_|n<;>first | rfl | omega)) ?_)
 refine VG (VI (mC ((C9 n).toNat:Int) Z Z Z Z Z (i64_in _ yd Mu)) ?_)
 refine ae ?_
 refine VG (VP Z Z yd Mu ?_)
 refine ae ?_
 exact CR (al.tmp 2 Z Z ER ⟨⟨_,Z⟩,Z⟩)
theorem kO{n:Nat}(hn:n≤12):aq Tryz.prog 159 [.int .u64 (n:Int)] Fr w [] (fun v L=>(∃k,v=.int .i64 k)∧L=[]):=by
 refine TF 8 Tryz.func159 Z ym aw Z Z ?_
 refine iR ?_
 refine VG (VO.ot (OC (Lc:=[]) (vals:=[.int .u64 (n:Int)]) Z (List.Perm.refl _) (fun Fr w hF hw hS=>Qf Fr w hn)) ?_)
 rintro _ _ ⟨_,⟨⟨k,rfl⟩,rfl⟩,rfl⟩
 refine ae ?_
 exact CR (al.tmp 2 Z Z ER ⟨⟨_,Z⟩,Z⟩)
theorem RJ{a:Option Addr}{cap:Nat}{l:List bm}{k:Int}(hl:l.length≤12):aq Tryz.prog 158 [.slice a l.length cap,.int .i64 0,.int .i64 l.length,.int .i64 k,tX] Fr w [av jj 2 a l.length cap (flat dB l)]
  (fun v L=>v=.tuple #[]∧∃m:List bm,m.Perm l∧rf m∧L=[av jj 2 a l.length cap (flat dB m)]):=by
 refine TF 148 Tryz.func158 Z ym aw Z Z ?_
 refine ae ?_
 refine VC.loop (σ:=Unit) (fun _=>[(0,.slice a l.length cap),(1,.int .i64 0),(2,.int .i64 l.length),(4,tX)]) (fun _=>[av jj 2 a l.length cap (flat dB l)]) (fun _=>True) (fun _=>0) () trivial aF ER ?_
 rintro _ -
 refine VC.block ?_
 refine ae ?_
 refine mN ?_
 rw[Int.sub_zero]
 refine ae ?_
 refine CP (p:=(l.length:Int)≤12) Z (fun _=>?_) (fun h=>absurd yd h)
 refine ae ?_
 refine VG (VO.ot (OC (Lc:=[_]) (vals:=[_,_,_,_]) Z (List.Perm.refl _) (fun Fr w hF hw hS=>Pw Fr w (a:=a) (cap:=cap) (l:=l) yd)) ?_)
 rintro _ _ ⟨_,⟨rfl,m,h1,h2,rfl⟩,rfl⟩
 refine ae ?_
 exact CR (al.void Z ER ⟨rfl,m,h1,h2,Z⟩)
theorem SY{a:Option Addr}{cap:Nat}{l:List bm}(hl:l.length≤12):aq Tryz.prog 114 [.slice a l.length cap,tX] Fr w [av jj 2 a l.length cap (flat dB l)]
  (fun v L=>v=.tuple #[]∧∃m:List bm,m.Perm l∧rf m∧L=[av jj 2 a l.length cap (flat dB m)]):=by
 refine TF 14 Tryz.func114 Z ym aw Z Z ?_
 refine ae ?_
 refine VG (VI (mC (l.length:Int) Z Z Z Z Z (by show(l.length:Int) % 18446744073709551616=l.length;omega)) ?_)
 refine VG (VO.ot (OC (Lc:=[]) (vals:=[.int .u64 (l.length:Int)]) Z (List.Perm.refl _) (fun Fr w hF hw hS=>kO Fr w hl)) ?_)
 rintro _ _ ⟨_,⟨⟨k,rfl⟩,rfl⟩,rfl⟩
 refine ae ?_
 refine VG (VO.ot (OC (Lc:=[_]) (vals:=[_,_,_,_,_]) Z (List.Perm.refl _) (fun Fr w hF hw hS=>RJ Fr w (k:=k) hl)) ?_)
 rintro _ _ ⟨_,⟨rfl,m,h1,h2,rfl⟩,rfl⟩
 refine ae ?_
 exact al.void Z ER ⟨rfl,m,h1,h2,Z⟩
end Cl
namespace Cl
open Go Vg T Api Ch Rep Conf Lg Rd
attribute [local irreducible] VO VC VA
section
variable {p:Nat} {S:aX} {b:Nat} {X:List jW}
theorem RE(hml:S.cE.length≤12)(h:a7 Fr w p (lx S b))(hm:oQ Fr w eT gD b X)(hX:gr X=S.cE):aq Tryz.prog 71 [.pointer (some ⟨p,0,none⟩)] Fr w [] (fun v L=>∃(l:List bm) (a:Option Addr) (c:Nat),l.Perm (S.cE.map Prod.fst)∧rf l∧v=.slice a l.length c∧L=[av jj 2 a l.length c (flat dB l)]):=by
 obtain⟨es,clock,g1,g2,g3⟩:=hm.at_
 have hz:lL eT gD X es clock:=⟨g2,g3⟩
 have hXl:X.length=S.cE.length:=by rw[←hX];exact(dW ..).symm
 refine TF 27 Tryz.func71 Z ym aw Z Z ?_
 refine au ?_
 refine Fv ?_
 refine mf ?_
 refine g_ ?_
 refine LK ?_
 rintro _ _ ⟨q,rfl,rfl⟩
 refine jr ?_
 refine VC.block ?_
 refine VC.loop (σ:=nT bm vw×List bm×Option Addr×Nat) (fun s=>[(11,pV q),(3,.slice s.2.2.1 s.2.1.length s.2.2.2)]) (fun s=>[rM q b clock s.1,av jj 2 s.2.2.1 s.2.1.length s.2.2.2 (flat dB s.2.1)]) (fun s=>jv eT gD X es s.1∧s.2.1=s.1.map fun z=>z.2.1) (fun s=>X.length-s.1.length) ([],[],none,0)
  ⟨jv.nil,rfl⟩ aF (IP 0 rfl (aa.cN aa.nil)).ah ?_
 rintro⟨J,l,a,c⟩ ⟨hJ,hlJ⟩
 dsimp only at hJ hlJ ⊢
 have b2:=jv.len hz hJ
 have hlL:l.length=J.length:=by rw[hlJ,dW]
 refine ae ?_
 refine LL ?_
 rintro v L' (⟨rfl,rfl,hp⟩ | ⟨z,rfl,z1,z2,hok,rfl⟩)
 ·refine ae ?_
  refine r_ ?_
  refine ae ?_
  refine VG (VQ 1 rfl (fun Fr w hF hs hS=>SY Fr w (a:=a) (cap:=c) (l:=l) yd) rfl (ψ:=fun v H=>∃m:List bm,m.Perm l∧rf m∧v=.tuple #[]∧H=av jj 2 a l.length c (flat dB m)) (fun v L h=>by obtain⟨h1,m,h2,hs,h3⟩:=h;exact⟨_,h3,m,h2,hs,h1,rfl⟩) ?_)
  rintro _ _ ⟨m,hm2,hsm,rfl,rfl⟩
  refine ae ?_
  have hk:l.Perm (S.cE.map Prod.fst):=by
   have h1:=hp.map fun x:jW=>x.1
   rw[lG] at h1
   rw[hlJ,←hX]
   unfold gr
   rw[lG]
   exact h1
  exact CR (al.tmp 2 Z Z (IP 1 Z aa.nil).ah ⟨m,a,c,hm2.trans hk,hsm,by rw[hm2.length_eq],by rw[hm2.length_eq]⟩)
 ·refine BH ?_
  refine ae ?_
  refine LM ?_
  have b3:=jv.len hz hok
  rw[a_] at b3
  simp at b3
  refine ae ?_
  refine VG (VO.alloc Z fun kb=>?_)
  refine LN ?_
  refine aj ?_
  refine VG (VI (og (pv:=[(0,.int .i64 z.2.1.1),(1,.int .i64 z.2.1.2)]) (dB z.2.1) Z Z Z Z Z) ?_)
  refine VG (VO.buildSlice (n:=1) (pv:=[(0,.agg (dB z.2.1).toArray)]) (dB z.2.1) Z Z Z Z yn (fN Z Z Z) fun nb=>?_)
  refine VG (VO.append (m:=1) (news:=dB z.2.1) 3 Z Z Z Z Z Z Z (dN.pt 0 Z Z Z) Z (sG (k:=1000000) yd yn) yd fun a2 c2 _=>?_)
  refine ae ?_
  have hlen:(l ++ [z.2.1]).length=l.length+1:=by simp
  refine⟨(J ++ [z],l ++ [z.2.1],a2,c2),⟨hok,by dsimp only;rw[fA,hlJ];rfl⟩,by show X.length-(J ++ [z]).length<X.length-J.length;rw[a_];simp;omega,SC Z (SC (by dsimp only;rw[hlen];rfl) (SN _)),?_⟩
  dsimp only
  rw[hlen,ik]
  exact(aZ [3,0]).ah
end
section
variable {p:Nat} {C:ay} {y:eL} {b e:Nat}
theorem Qs(ok:C.aQ.Ok)(h:aV Fr [bx p C] w):aq Tryz.prog 70 [.pointer (some ⟨p,0,none⟩)] Fr w [] (fun v L=>∃q m,m.Perm C.aQ.cE∧v=.pointer (some ⟨q,0,none⟩)∧L=[cu q ⟨C.aQ.cap,m⟩]):=by
 obtain⟨y,fit,hy⟩:=vM h
 exact XO Fr w ok (hy.ar 0 Z) (hy.at_ 5 Z)
theorem Qt{q:Nat}{S:aX}(hml:S.cE.length≤12)(h:aV Fr [cu q S] w):aq Tryz.prog 71 [.pointer (some ⟨q,0,none⟩)] Fr w [] (fun v L=>∃(l:List bm) (a:Option Addr) (c:Nat),l.Perm (S.cE.map Prod.fst)∧rf l∧v=.slice a l.length c∧L=[av jj 2 a l.length c (flat dB l)]):=by
 obtain⟨lb,X,hX,hs⟩:=Ic h
 exact RE Fr w hml (hs.ar 0 Z) (hs.wB 1 Z) hX
end
end Cl
namespace Cl
open Go Vg T Api Ch Rep Conf Lg Rd
attribute [local irreducible] VO VC VA VM VD
theorem G9{r:Loop}{l tb mb p:Nat}(hy:BN r l tb mb p)(hps:r.params.size=1){C0:ay}(my:o7 4096 C0=true){b e:Nat}(ok:C0.Ok b e)(hb:b<90000)(he:e<800000){m0:Int}(h0:0≤m0)(h1:m0≤900000):
  aq Tryz.prog 201 [.pointer (some ⟨p,0,none⟩),nL l] Fr w (ez l r::f_ tb mb p C0 m0) (fun v L=>v=.bool true∧L=ez l r::f_ tb mb p (eO 4096 C0 m0).1 (eO 4096 C0 m0).2):=by
 refine TF 27 Tryz.func201 Z ym aw Z Z ?_
 refine ku ?_
 refine VC.meet (σ:=ay×Int) (fun _=>[]) (fun s=>ez l r::f_ tb mb p s.1 s.2) (fun s=>s=eO 4096 C0 m0) ?_ ?_
 rotate_left
 ·rintro⟨C,m⟩ hd
  dsimp only at hd ⊢
  refine ae ?_
  exact CR (al.tmp 4 Z Z ER ⟨rfl,by rw[←hd]⟩)
 refine ae ?_
 refine VC.loop (σ:=Nat×ay×Int) (fun s=>[(0,pV p),(1,nL l),(6,.int .i64 (s.1:Int))]) (fun s=>ez l r::f_ tb mb p s.2.1 s.2.2) (fun s=>s.1≤4096∧eO (4096-s.1) s.2.1 s.2.2=eO 4096 C0 m0∧o7 (4096-s.1) s.2.1=true∧s.2.1.Ok (b+s.1) (e+7*s.1)∧m0≤s.2.2∧s.2.2≤m0+s.1) (fun s=>4096-s.1) (0,C0,m0)
  ⟨bK _,rfl,my,ok,fj _,by dsimp only;omega⟩ aF ER ?_
 rintro⟨k,C,m⟩ ⟨hk,hd,hf,kQ,hm0,hm1⟩
 dsimp only at hk hd hf kQ hm0 hm1 ⊢
 have hlen:=OQ hf
 refine ae ?_
 refine CP (p:=(k:Int)<4096) Z (fun h2=>CK ?_) (fun h2=>CX ?_)
 rotate_left
 ·obtain rfl:k=4096:=by omega
  exact⟨(C,m),hd,SN _,ER⟩
 refine ae ?_
 refine VG (VK (Lc:=[]) (fun Fr w hF hw hS=>Qs Fr w kQ.aQ (hS.at_ 3 Z)) Z Z ?_)
 rintro _ _ ⟨q,ml,hml,rfl,rfl⟩
 refine VG (VK (Lc:=[]) (fun Fr w hF hw hS=>Qt Fr w (S:=⟨C.aQ.cap,ml⟩) (by have:=hml.length_eq;unfold lX at hlen;rw[dW] at hlen;dsimp only;omega) (hS.at_ 0 Z)) Z Z ?_)
 rintro _ _ ⟨prs,pa,pc,hprs,hsrt,rfl,rfl⟩
 have hpm:prs.Perm (C.aQ.cE.map Prod.fst):=hprs.trans (hml.map _)
 refine ae ?_
 refine CE Z (fun h3=>CX ?_) (fun h3=>CK ?_)
 ·have h0:lX C=[]:=by
   have h4:=hpm.length_eq
   exact gI (by show(C.aQ.cE.map Prod.fst).length=0;omega)
  have hn:km (lX C)=none:=Dl.2 h0
  rw[Cf hn] at hd
  exact⟨(C,m),hd,SN _,(aa.trans aa.tail aa.tail).ah⟩
 refine CN (L':=av jj 2 pa prs.length pc (flat dB prs)::ez l r::f_ tb mb p C m) (aa.cons aa.tail).ah ?_
 refine VC.bu 0 Z (aY.rl jj pa pc prs ou) ?_
 rintro⟨xa,xc,xb,xcs,xs⟩ ⟨rok,rv,rx⟩
 dsimp only at rx
 subst rx
 injection rv with e1 _ e3
 subst e1 e3
 have hxl:0<xs.length:=by omega
 have hxp:xs[0]?=some xs[0]:=GE hxl
 have hmin:km (lX C)=some xs[0]:=S7 hsrt hpm hxp
 generalize xs[0]=pr at hxp hmin
 obtain⟨tb',tof,htb,hta,hrd⟩:=RL.Ok.ld (t:=jj) (k:=0) (x:=pr) rok hxp (ou pr)
 dsimp only at hta
 subst hta
 refine CS ?_
 refine Be ?_
 refine bV ?_
 refine AG (AI Z (dU 0 Z Z Z Z Z Z hxl) ?_)
 refine Bg ?_
 refine AG (yE Z Z Z ((hrd 0 Z).2 _ 0 (.int .i64 pr.1) Z Z) ?_)
 refine bV ?_
 refine AG (AI Z (dU 0 Z Z Z Z Z Z hxl) ?_)
 refine Bh ?_
 refine AG (yE Z Z Z ((hrd 0 Z).2 _ 1 (.int .i64 pr.2) Z Z) ?_)
 refine bV ?_
 refine AG (AI Z (LB (pv:=[(0,.int .i64 4),(1,.int .i64 pr.1),(2,.int .i64 pr.2)]) ((gw pr).cells) Z Z Z ym Z) ?_)
 refine bV ?_
 refine AG (VA.wK (oR.yield (r:=r) (vals:=[.agg (gw pr).cells.toArray]) (Lc:=f_ tb mb p C m) (Lr:=[RL.h jj ⟨some ⟨tb',tof,none⟩,xc,xb,xcs,xs⟩]) Z Z hps.symm (hU (l₁:=[_]) (l₂:=ez l r::f_ tb mb p C m)) (fun Fr' w hF hw hS=>hy kQ yd yd m yd yd (gw pr) Fr' w)) Z ?_ ?_)
 ·rintro _ _ ⟨_,⟨rfl,rfl⟩,rfl⟩
  have g1:=fun {X} {L} h=>(hrd (X:=X) (L:=L) 4 h).2 t3 0 (.int .i64 pr.1) rfl rfl
  have g2:=fun {X} {L} h=>(hrd (X:=X) (L:=L) 4 h).2 t3 1 (.int .i64 pr.2) rfl rfl
  exact(by(try refine Pd.st ?_);(repeat(first|exact Pd.nil|exact Pd.fnil|refine Pd.inner ?_|refine Pd.skip yo ?_|refine zf (an.ar g1 Z Z) ?_|refine zf (an.ar g2 Z Z) ?_|refine zf (g1 Z) ?_|refine zf (g2 Z) ?_|refine zc (an.ar g1 Z Z) ?_|refine zc (an.ar g2 Z Z) ?_|refine zc (g1 Z) ?_|refine zc (g2 Z) ?_)))
 rintro _ _ ⟨_,⟨rfl,rfl⟩,rfl⟩
 rw[Pth.PA]
 refine vh ?_
 refine pQ ?_
 have e4:4096-k=(4096-(k+1))+1:=by omega
 rw[e4] at hd hf
 rw[Cg hmin] at hd
 have ho:0≤mF (C.bG (gw pr)).2∧mF (C.bG (gw pr)).2≤1:=by unfold mF;split<;>omega
 exact⟨(k+1,(C.bG (gw pr)).1,m+mF (C.bG (gw pr)).2),⟨by dsimp only;omega,hd,OR hmin hf,(kQ.bG yd yd _).mono yp yp,by dsimp only;omega,by dsimp only;push_cast;omega⟩,by dsimp only;omega,SC Z (SC Z (Sub.int Z yp (SN _))),(aa.trans (aa.perm (hU (l₁:=ez l r::f_ tb mb p (C.bG (gw pr)).1 (m+mF (C.bG (gw pr)).2)) (l₂:=[_]))) aa.tail).ah⟩
theorem Ts{r:Loop}{l tb mb p sb:Nat}(hy:BN r l tb mb p)(hps:r.params.size=1){C0:ay}(my:yZ C0=true){b e:Nat}(ok:C0.Ok b e)(hb:b<80000)(he:e<700000):
  aq Tryz.prog 200 [nL l,.pointer (some ⟨sb,0,none⟩)] Fr w (ez l r::pt sb [.pointer (some ⟨p,0,none⟩)] nY::f_ tb mb p C0 0) (fun v L=>v=.tuple #[]∧L=ez l r::pt sb [.pointer (some ⟨p,0,none⟩)] nY::f_ tb mb p (mK C0).1 (mK C0).2):=by
 unfold yZ at my
 rw[dG] at my
 obtain⟨fewA,fewB⟩:=my
 have hrnd:((((eO 4096 (pn (eO 4096 C0 0).1) (eO 4096 C0 0).2)).1.bG (eA 11 0 0)).1,(eO 4096 (pn (eO 4096 C0 0).1) (eO 4096 C0 0).2).2)=mK C0:=rfl
 refine TF 29 Tryz.func200 Z ym aw Z Z ?_
 refine cF ?_
 refine VG (VO.ah (L':=(ez l r::f_ tb mb p C0 0) ++ [pt sb [.pointer (some ⟨p,0,none⟩)] nY]) (aa.perm (List.Perm.cons _ (hU (l₁:=[_]) (l₂:=f_ tb mb p C0 0)))).ah ?_)
 refine VG (VK (fun Fr w hF hw hS=>G9 Fr w hy hps fewA ok yd yd (fj 0) yn) Z Z ?_)
 rintro _ _ ⟨rfl,rfl⟩
 have hf1:=Ce 4096 C0 0
 have ok1:=yO ok yd yd 0
 generalize eO 4096 C0 0=D1 at hf1 ok1 fewB hrnd
 obtain⟨C1,m1⟩:=D1
 dsimp only at hf1 ok1 fewB hrnd ⊢
 refine ae ?_
 refine VG (VY 8 false Z Z ?_)
 refine au ?_
 refine VG (VI (LB (pv:=[(0,.int .i64 3)]) ((eA 3 0 0).cells) Z Z Z ym Z) ?_)
 refine VG (VO.wK (oR.yield (r:=r) (vals:=[.agg (eA 3 0 0).cells.toArray]) (Lc:=f_ tb mb p C1 m1) (Lr:=[pt sb [.pointer (some ⟨p,0,none⟩)] nY]) Z Z hps.symm (List.Perm.refl _) (fun Fr' w hF hw hS=>hy ok1 yd yd m1 yd yd (eA 3 0 0) Fr' w)) ?_)
 rintro _ _ ⟨_,⟨rfl,rfl⟩,rfl⟩
 rw[CZ _ yn,Int.add_zero]
 have okT:=(ok1.bG yd yd (eA 3 0 0)).mono (b':=b+4097) (e':=e+28679) yd yd
 have hmid:pn C1=uM 6 (C1.bG (eA 3 0 0)).1:=rfl
 generalize (C1.bG (eA 3 0 0)).1=C2 at okT hmid
 have okM:=Au okT yd yd 6 (NR _)
 rw[←hmid] at okM
 refine si ?_
 refine VC.loop (σ:=Nat) (fun n=>[(0,nL l),(1,pV sb),(3,.int .i64 (n:Int))]) (fun n=>ez l r::(f_ tb mb p (uM n C2) m1 ++ [pt sb [.pointer (some ⟨p,0,none⟩)] nY])) (fun n=>n≤6) (fun n=>6-n) 0
  (bK _) aF ER ?_
 rintro n hn
 refine ae ?_
 refine CP (p:=(n:Int)<6) Z (fun h2=>CK ?_) (fun h2=>CX ?_)
 rotate_left
 ·obtain rfl:n=6:=by omega
  rw[←hmid]
  refine ae ?_
  refine zG (zD 4 Z Z Z Z ?_)
  refine ae ?_
  refine VG (VK (Lc:=ez l r::f_ tb mb p (pn C1) m1) (Lr:=[pt sb [.pointer (some ⟨p,0,none⟩)] nY]) (fun Fr w hF hw hS=>G9 Fr w hy hps fewB okM yd yd yd yd) Z Z ?_)
  rintro _ _ ⟨rfl,rfl⟩
  have hf4:=Ce 4096 (pn C1) m1
  have ok4:=yO okM yd yd m1
  generalize eO 4096 (pn C1) m1=D4 at hf4 ok4 hrnd
  obtain⟨C4,m4⟩:=D4
  dsimp only at hf4 ok4 hrnd ⊢
  refine oK ?_
  refine VG (VI (LB (pv:=[(0,.int .i64 11)]) ((eA 11 0 0).cells) Z Z Z ym Z) ?_)
  refine VG (VO.wK (oR.yield (r:=r) (vals:=[.agg (eA 11 0 0).cells.toArray]) (Lc:=f_ tb mb p C4 m4) (Lr:=[pt sb [.pointer (some ⟨p,0,none⟩)] nY]) Z Z hps.symm (List.Perm.refl _) (fun Fr' w hF hw hS=>hy ok4 yd yd m4 yd yd (eA 11 0 0) Fr' w)) ?_)
  rintro _ _ ⟨_,⟨rfl,rfl⟩,rfl⟩
  rw[CZ _ yn,Int.add_zero]
  refine ae ?_
  exact al.void Z (aa.perm (List.Perm.cons _ (hU (l₁:=f_ tb mb p (C4.bG (eA 11 0 0)).1 m4) (l₂:=[_])))).ah ⟨rfl,by rw[←hrnd];rfl⟩
 have okN:=Au okT yd yd n yd
 refine ae ?_
 refine VG (VI (LB (pv:=[(0,.int .i64 2),(1,.int .i64 (n:Int))]) ((eA 2 n 0).cells) Z Z Z ym Z) ?_)
 refine VG (VO.wK (oR.yield (r:=r) (vals:=[.agg (eA 2 n 0).cells.toArray]) (Lc:=f_ tb mb p (uM n C2) m1) (Lr:=[pt sb [.pointer (some ⟨p,0,none⟩)] nY]) Z Z hps.symm (List.Perm.refl _) (fun Fr' w hF hw hS=>hy okN yd yd m1 yd yd (eA 2 n 0) Fr' w)) ?_)
 rintro _ _ ⟨_,⟨rfl,rfl⟩,rfl⟩
 rw[CZ _ (by show(2:Int)≠4;decide),Int.add_zero]
 refine iR ?_
 refine pQ ?_
 exact⟨n+1,by omega,by dsimp only;omega,SC Z (SC Z (Sub.int Z yd (SN _))),ER⟩
theorem Tt(p:Nat):aq Tryz.prog 153 [.pointer (some ⟨p,0,none⟩)] Fr w [] (fun v L=>∃sb,v=ba 200 [] [.pointer (some ⟨sb,0,none⟩)]∧L=[pt sb [.pointer (some ⟨p,0,none⟩)] nY]):=by
 refine TF 4 Tryz.func153 Z ym aw Z Z ?_
 refine CS (CG (VG (VO.BZ Z fun sb=>?_)))
 refine ae ?_
 refine VG (VI (uk (u:=[]) (v:=[.pointer (some ⟨sb,0,none⟩)]) Z Z) ?_)
 refine ae ?_
 exact CR (al.tmp 2 Z Z ER ⟨sb,Z,Z⟩)
theorem call47:lJ Tryz.prog 200:=⟨_,Tryz.func200,by kernel_rfl,by kernel_rfl⟩
theorem So{p:Nat}{C0:ay}(my:yZ C0=true){b e:Nat}(ok:C0.Ok b e)(hb:b<80000)(he:e<700000):
  aq Tryz.prog 99 [.pointer (some ⟨p,0,none⟩)] Fr w [bx p C0] (fun v L=>v=.int .i64 (mK C0).2∧L=[bx p (mK C0).1]):=by
 refine aq.ofM 23 Tryz.func99 Z ym aw Z Z ?_
 refine VM.Eh ?_
 refine CG (VG (VO.BZ Z fun tb=>?_))
 refine VG (VO.alloc Z fun mb=>?_)
 refine jr ?_
 refine VM.Eh ?_
 refine cF ?_
 refine VG (VV (fun Fr w hF hw hS=>HB Fr w (hS.at_ 2 Z)) Z ?_)
 refine pR ?_
 refine VM.Ao ?_
 refine VM.Eh ?_
 refine cF ?_
 refine VG (VK (Lc:=[]) (fun Fr w hF hw hS=>Tt Fr w p) Z Z ?_)
 rintro _ _ ⟨sb,rfl,rfl⟩
 refine ae ?_
 refine VM.block ?_
 refine VM.Sa (M:=fun L2=>L2=pt sb [.pointer (some ⟨p,0,none⟩)] nY::f_ tb mb p (mK C0).1 (mK C0).2) Z call47 (fun l r Fr' w hF _ ha hst hpe hps has hbo=>?_) (fun D L2 h=>?_)
 rotate_left
 ·subst h
  refine⟨rfl,?_⟩
  refine VD.seq (VD.region ?_)
  refine zG (zD 2 Z Z Z Z ?_)
  refine VG (VO.st 2 Z Z Z Z nQ Z Z ?_)
  refine VG (VN (VD.ret ⟨_,Z,?_⟩))
  exact al.cell 2 Z Z Z (an.one 1 Z Z) (IP 3 Z aa.nil).ah ⟨rfl,Z⟩
 obtain⟨a,ha1,ha2⟩:=ha
 have hy:BN r l tb mb p:=by
  intro C b e ok hb he m h0 h1 s Fr w
  have key:=cW.RF ha1 (t:=9) rfl (.agg s.cells.toArray)
  rw[←ha2,←hps] at key
  refine vA.of (vals:=[.agg s.cells.toArray]) (tab:=tab) (ok:=aw) (n:=23) hst hpe key ?_
  intro w
  generalize ({ r with state:=LoopState.busy }:Loop)=rb
  rw[has]
  refine CG (VG (VO.alloc Z fun ab=>?_))
  refine VG (VT (vs:=s.cells) (cs':=s.cells) 0 Z Z Z Z (NR _) Z Z Z ?_)
  refine VG (VO.ah (L':=ez l r::pt ab s.cells gO::f_ tb mb p C m) (aa.perm (List.Perm.swap ..)).ah ?_)
  refine VG (VN ⟨rfl,_,Z,fun w=>?_⟩)
  rw[hbo]
  refine Bc ?_
  refine VG (VL 1 s.cells Z Z Z Z ?_)
  refine VG (VQ 4 Z (fun Fr w hF' hs hS=>Ev Fr w ok yd yd s) Z (ψ:=fun v H=>v=.int .i64 (C.bG s).2∧H=bx p (C.bG s).1) yz ?_)
  rintro _ _ ⟨rfl,rfl⟩
  have hdr:aa (ez l rb::pt ab s.cells gO::f_ tb mb p (C.bG s).1 m) (ez l rb::f_ tb mb p (C.bG s).1 m):=aa.cons aa.tail
  refine ae ?_
  by_cases he:(C.bG s).2=0
  rotate_left
  ·refine VG (VY 15 false Z (by simpa using he) ?_)
   refine au ?_
   refine VC.kG Z (CN hdr.ah (CK ⟨rfl,_,Z,Z,?_⟩))
   rw[show sM s (C.bG s).2=0 from if_neg fun g=>he g.1,Int.add_zero]
  refine VG (VY 15 true Z (by simpa using he) ?_)
  refine iC ?_
  refine CE Z (fun hk=>?_) (fun hk=>CN hdr.ah (CK ⟨rfl,_,Z,Z,?_⟩))
  rotate_left
  ·rw[show sM s (C.bG s).2=0 from if_neg fun g=>hk g.2,Int.add_zero]
  rw[show sM s (C.bG s).2=1 from if_pos ⟨he,hk⟩]
  refine CG ?_
  refine gh ?_
  refine nH ?_
  refine VG (VO.st 2 Z Z Z Z nQ Z Z ?_)
  refine VG (VO.ah (L':=ez l rb::f_ tb mb p (C.bG s).1 (m+1)) (aa.cons aa.tail).ah ?_)
  refine VG (VN ⟨rfl,_,Z,Z,Z⟩)
 exact Ring.aq.drop (Ts Fr' w hy (by rw[hps];rfl) my ok hb he) fun v L ⟨_,e⟩=>⟨L,⟨_,e,Z⟩,aa.refl⟩
end Cl
namespace Cl
open Go Vg T Api Ch Rep Conf Lg Rd LibC
attribute [local irreducible] VO VC VA
theorem Jr{C:ay}{b e:Nat}(ok:C.Ok b e)(hb:b<80000)(he:e<700000):(mK C).1.Ok (b+8200) (e+57400):=by
 have ok1:=yO ok yd yd 0
 have okT:=(ok1.bG yd yd (eA 3 0 0)).mono (b':=b+4097) (e':=e+28679) yd yd
 have okM:=Au okT yd yd 6 (NR _)
 have ok4:=yO (C:=pn (eO 4096 C 0).1) okM yd yd (eO 4096 C 0).2
 exact(ok4.bG yd yd (eA 11 0 0)).mono yd yd
theorem D_{b e:Nat}:∀(n:Nat) {C:ay},C.Ok b e→b+8200*n<80000→e+57400*n<700000→(pC n C).Ok (b+8200*n) (e+57400*n)
 | 0,C,h,_,_=>h
 | n+1,C,h,hb,he=>by
  have h1:=Jr h yd yd
  have h2:=D_ (b:=b+8200) (e:=e+57400) n h1 yd yd
  exact h2.mono yd yd
theorem Sq{p n:Nat}{C:ay}{b e:Nat}(my:sF n C=true)(ok:C.Ok b e)(hb:b+8200*n<80000)(he:e+57400*n<700000):aq Tryz.prog 53 [.pointer (some ⟨p,0,none⟩),.int .i64 (n:Int)] Fr w [bx p C] (fun v L=>v=.int .i64 0∧L=[bx p (pC n C)]):=by
 refine TF 19 Tryz.func53 Z ym aw Z Z ?_
 refine ae ?_
 refine VG (VV (fun Fr w hF hw hS=>HB Fr w (hS.at_ 0 Z)) Z ?_)
 refine iR ?_
 refine VG (VY 9 false Z (DF yd) ?_)
 refine au ?_
 refine CP (p:=(4096:Int)<n) Z (fun h1=>absurd h1 yd) (fun _=>CK ?_)
 refine ae ?_
 refine VC.loop (σ:=Nat×ay) (fun s=>[(0,pV p),(13,.int .i64 (n:Int)),(14,.int .i64 (s.1:Int))]) (fun s=>[bx p s.2]) (fun s=>s.1≤n∧pC (n-s.1) s.2=pC n C∧sF (n-s.1) s.2=true∧s.2.Ok (b+8200*s.1) (e+57400*s.1)) (fun s=>n-s.1) (0,C)
  ⟨bK _,rfl,my,ok⟩ aF ER ?_
 rintro⟨k,D⟩ ⟨hk,hr,hf,okD⟩
 dsimp only at hk hr hf okD ⊢
 refine ae ?_
 refine CP (p:=(k:Int)<n) Z (fun h1=>CK ?_) (fun h1=>CX ?_)
 rotate_left
 ·obtain rfl:k=n:=by omega
  rw[Nat.sub_self] at hr
  have hr:D=pC k C:=hr
  refine ae ?_
  exact CR (al.tmp 4 Z Z ER ⟨rfl,by rw[hr]⟩)
 have e4:n-k=(n-(k+1))+1:=by omega
 rw[e4] at hr hf
 unfold sF at hf
 rw[dG] at hf
 obtain⟨hf1,hf2⟩:=hf
 refine ae ?_
 refine VG (VQ 0 Z (fun Fr w hF' hs hS=>So Fr w hf1 okD yd yd) Z (ψ:=fun v H=>v=.int .i64 (mK D).2∧H=bx p (mK D).1) yz ?_)
 rintro _ _ ⟨rfl,rfl⟩
 refine fx ?_
 exact⟨(k+1,(mK D).1),⟨by dsimp only;omega,hr,hf2,(Jr okD yd yd).mono yp yp⟩,by dsimp only;omega,SC Z (SC Z (Sub.int Z yp (SN _))),ER⟩
section
variable {d q:Nat} {D:List Value} {C:ay} {b e:Nat}
theorem G7(hd:a7 Fr w d D)(hD:D[12]?=some (.pointer (some ⟨q,0,none⟩)))(ok:C.Ok b e)(hb:b<100000)(he:e<900000)(c:Int)(o:bp)(hr:(C.bG ⟨1,c,0,100,o⟩).2=0):
  aq Tryz.prog 50 [.pointer (some ⟨d,0,none⟩),.int .i64 c,.agg o.cells.toArray] Fr w [bx q C] (fun v L=>v=.string ⟨#[111,107]⟩∧L=[bx q (C.bG ⟨1,c,0,100,o⟩).1]):=by
 refine TF 16 Tryz.func50 Z ym aw Z Z ?_
 refine CS (CG (VG (VB (vs:=o.cells) Z fun ob=>?_)))
 refine ae ?_
 refine CD (ts 0 7 (.only 7 (.only 8 (ts 9 1 .nil)))) ym yo ?_
 refine bV ?_
 refine Bi ?_
 refine bV ?_
 refine AG (VA.cK 0 o.cells Z Z Z Z Z ?_)
 refine AG (AI Z (LB (pv:=[(0,.int .i64 1),(1,.int .i64 c),(3,.int .i64 100),(4,.agg o.cells.toArray)]) (eh.mk 1 c 0 100 o).cells Z Z Z ym Z) ?_)
 refine bV ?_
 refine AG (AQ 1 Z (fun Fr w hF hw hS=>Ev Fr w ok hb he ⟨1,c,0,100,o⟩) Z Z (ψ:=fun v H=>v=.int .i64 0∧H=bx q (C.bG ⟨1,c,0,100,o⟩).1) Mv ?_ ?_)
 ·rintro _ _ ⟨rfl,rfl⟩
  exact Mw
 rintro _ _ ⟨rfl,rfl⟩
 refine bV ?_
 refine AG (AO (OC (Lc:=[]) (vals:=[.int .i64 0]) rfl (List.Perm.refl _) (fun Fr w hF hw hS=>Gd Fr w)) rfl (fun v L' h=>by obtain⟨_,⟨rfl,rfl⟩,rfl⟩:=h;exact Mx) ?_)
 rintro _ _ ⟨_,⟨rfl,rfl⟩,rfl⟩
 refine tG ?_
 exact CR (al.tmp 6 Z Z (IP 1 Z aa.nil).ah ⟨rfl,Z⟩)
end
end Cl
namespace Cl
open Go Vg T Api Ch Rep Conf Lg Rd LibC
attribute [local irreducible] VO VC VA
def uh(z:Int):List Value:=[.int .i64 z]
theorem IV:∀l:List Int,flat uh l=wF l
 | []=>rfl
 | x::r=>by show uh x++flat uh r=_;rw[IV r];rfl
theorem Et:∀l:List ByteArray,flat oF l=qM l
 | []=>rfl
 | x::r=>by show oF x++flat oF r=_;rw[Et r];rfl
theorem wG{Fr:Nat→Prop}{w:World}{a:Option Addr}{c:Nat}{l:List Int}(h:aV Fr [av 3 1 a l.length c (wF l)] w):aP uh 1 Fr w a l:=
 aP.av (c:=uh) (el:=3) (cap:=c) (fun _=>rfl) (by rw[IV];exact h)
theorem Eu{Fr:Nat→Prop}{w:World}{a:Option Addr}{c:Nat}{l:List ByteArray}(h:aV Fr [av 9 1 a l.length c (qM l)] w):aP oF 1 Fr w a l:=
 aP.av (c:=oF) (el:=9) (cap:=c) (fun _=>rfl) (by rw[Et];exact h)
section
variable {d q:Nat} {D:List Value} {C:ay} {b e:Nat}
theorem R7(hD:D[12]?=some (.pointer (some ⟨q,0,none⟩)))(ok:C.Ok b e)(hb:b<100000)(he:e<900000)(c:Int)(k v:ByteArray)(hr:(C.bG ⟨1,c,0,100,⟨2,k,v,0⟩⟩).2=0):
  p8 d D q C (C.bG ⟨1,c,0,100,⟨2,k,v,0⟩⟩).1 17 ([c],[k,v]) ⟨#[111,107]⟩:=by
 rintro Fr w ⟨na,nc⟩ ⟨ta,tc⟩ hg hd hn ht
 have hn:=wG hn
 have ht:=Eu ht
 dsimp only at hn ht
 obtain⟨nb,no,rfl,_,r1⟩:=aP.rd (X:=⟨Tryz.prog,tab,aw,20,Fr,w⟩) hn (i:=0) (x:=c) rfl
 obtain⟨tb,toQ,e1,_,r2⟩:=aP.rd (X:=⟨Tryz.prog,tab,aw,20,Fr,w⟩) ht (i:=0) (x:=k) rfl
 obtain⟨tb',to',e2,_,r3⟩:=aP.rd (X:=⟨Tryz.prog,tab,aw,20,Fr,w⟩) ht (i:=1) (x:=v) rfl
 subst e1
 cases e2
 have r1:=fun L=>r1 L t3 0 _ rfl rfl
 have r2:=fun L=>r2 L t9 0 _ rfl rfl
 have r3:=fun L=>r3 L t9 0 _ rfl rfl
 refine TF 20 Tryz.func17 Z ym aw Z Z ?_
 refine CS (CG (VG (VB (vs:=fW ([c],[k,v]) (some ⟨nb,no,none⟩,nc) (some ⟨tb,toQ,none⟩,tc)) Z fun ab=>?_)))
 refine ae ?_
 refine CD (ts 0 14 (.only 14 (ts 15 1 .nil))) ym yo ?_
 refine vj ?_
 refine Bj ?_
 refine vj ?_
 refine AG (VA.load Z Z Z (r2 _) ?_)
 refine dF ?_
 refine AG (AI Z (dU 1 Z Z Z Z Z Z (show 1<2 from xM 1)) ?_)
 refine AG (VA.load Z Z Z (r3 _) ?_)
 refine bV ?_
 refine AG (AI Z (LB (pv:=[(0,.int .i64 2),(1,.string k),(2,.string v)]) (bp.mk 2 k v 0).cells Z Z Z ym Z) ?_)
 refine bV ?_
 refine AG (AQ 1 Z (fun Fr w hF hw hS=>G7 Fr w (hd.of hF hw) hD ok hb he c ⟨2,k,v,0⟩ hr) Z Z (ψ:=fun v' H=>v'=.string ⟨#[111,107]⟩∧H=bx q (C.bG ⟨1,c,0,100,⟨2,k,v,0⟩⟩).1) yz ?_ ?_)
 ·rintro _ _ ⟨rfl,rfl⟩
  exact(by(try refine Pd.st ?_);(repeat(first|exact Pd.nil|exact Pd.fnil|refine Pd.inner ?_|refine Pd.skip yo ?_|refine zf (zo 0 Z Z) ?_|refine zf (zo 1 Z Z) ?_|refine zf (zm 0 Z Z) ?_|refine zf (zm 1 Z Z) ?_|refine zf (an.ar (r1 _) Z) ?_|refine zf (an.ar (r2 _) Z) ?_|refine zf (an.ar (r3 _) Z) ?_|refine zf ((r1 _)) ?_|refine zf ((r2 _)) ?_|refine zf ((r3 _)) ?_|refine zc (zo 0 Z Z) ?_|refine zc (zo 1 Z Z) ?_|refine zc (zm 0 Z Z) ?_|refine zc (zm 1 Z Z) ?_|refine zc (an.ar (r1 _) Z) ?_|refine zc (an.ar (r2 _) Z) ?_|refine zc (an.ar (r3 _) Z) ?_|refine zc ((r1 _)) ?_|refine zc ((r2 _)) ?_|refine zc ((r3 _)) ?_)))
 rintro _ _ ⟨rfl,rfl⟩
 refine tG ?_
 exact Bk
theorem Pg(hD:D[12]?=some (.pointer (some ⟨q,0,none⟩)))(ok:C.Ok b e)(hb:b<100000)(he:e<900000)(c:Int)(k:ByteArray)(hr:(C.bG ⟨1,c,0,100,⟨1,k,⟨#[]⟩,0⟩⟩).2=0):
  p8 d D q C (C.bG ⟨1,c,0,100,⟨1,k,⟨#[]⟩,0⟩⟩).1 20 ([c],[k]) ⟨#[111,107]⟩:=by
 rintro Fr w ⟨na,nc⟩ ⟨ta,tc⟩ hg hd hn ht
 have hn:=wG hn
 have ht:=Eu ht
 dsimp only at hn ht
 obtain⟨nb,no,rfl,_,r1⟩:=aP.rd (X:=⟨Tryz.prog,tab,aw,16,Fr,w⟩) hn (i:=0) (x:=c) rfl
 obtain⟨tb,toQ,rfl,_,r2⟩:=aP.rd (X:=⟨Tryz.prog,tab,aw,16,Fr,w⟩) ht (i:=0) (x:=k) rfl
 have r1:=fun L=>r1 L t3 0 _ rfl rfl
 have r2:=fun L=>r2 L t9 0 _ rfl rfl
 refine TF 16 Tryz.func20 Z ym aw Z Z ?_
 refine CS (CG (VG (VB (vs:=fW ([c],[k]) (some ⟨nb,no,none⟩,nc) (some ⟨tb,toQ,none⟩,tc)) Z fun ab=>?_)))
 refine ae ?_
 refine Be ?_
 refine vj ?_
 refine Bj ?_
 refine vj ?_
 refine AG (VA.load Z Z Z (r2 _) ?_)
 refine bV ?_
 refine AG (AI Z (LB (pv:=[(0,.int .i64 1),(1,.string k)]) (bp.mk 1 k ⟨#[]⟩ 0).cells Z Z Z ym Z) ?_)
 refine bV ?_
 refine AG (AQ 1 Z (fun Fr w hF hw hS=>G7 Fr w (hd.of hF hw) hD ok hb he c ⟨1,k,⟨#[]⟩,0⟩ hr) Z Z (ψ:=fun v' H=>v'=.string ⟨#[111,107]⟩∧H=bx q (C.bG ⟨1,c,0,100,⟨1,k,⟨#[]⟩,0⟩⟩).1) yz ?_ ?_)
 ·rintro _ _ ⟨rfl,rfl⟩
  exact(by(try refine Pd.st ?_);(repeat(first|exact Pd.nil|exact Pd.fnil|refine Pd.inner ?_|refine Pd.skip yo ?_|refine zf (zo 0 Z Z) ?_|refine zf (zo 1 Z Z) ?_|refine zf (zm 0 Z Z) ?_|refine zf (zm 1 Z Z) ?_|refine zf (an.ar (r1 _) Z) ?_|refine zf (an.ar (r2 _) Z) ?_|refine zf ((r1 _)) ?_|refine zf ((r2 _)) ?_|refine zc (zo 0 Z Z) ?_|refine zc (zo 1 Z Z) ?_|refine zc (zm 0 Z Z) ?_|refine zc (zm 1 Z Z) ?_|refine zc (an.ar (r1 _) Z) ?_|refine zc (an.ar (r2 _) Z) ?_|refine zc ((r1 _)) ?_|refine zc ((r2 _)) ?_)))
 rintro _ _ ⟨rfl,rfl⟩
 refine tG ?_
 exact Bk
theorem Jt(hD:D[12]?=some (.pointer (some ⟨q,0,none⟩)))(n:Nat)(my:sF n C=true)(ok:C.Ok b e)(hb:b+8200*n<80000)(he:e+57400*n<700000):
  p8 d D q C (pC n C) 31 ([(n:Int)],[]) ⟨#[111,107]⟩:=by
 rintro Fr w ⟨na,nc⟩ ⟨ta,tc⟩ hg hd hn ht
 have hn:=wG hn
 dsimp only at hn
 obtain⟨nb,no,rfl,_,r1⟩:=aP.rd (X:=⟨Tryz.prog,tab,aw,15,Fr,w⟩) hn (i:=0) (x:=(n:Int)) rfl
 have r1:=fun L=>r1 L t3 0 _ rfl rfl
 refine TF 15 Tryz.func31 Z ym aw Z Z ?_
 refine CS (CG (VG (VB (vs:=fW ([(n:Int)],[]) (some ⟨nb,no,none⟩,nc) (ta,tc)) Z fun ab=>?_)))
 refine ae ?_
 refine CD (ts 0 8 (.only 8 (.only 9 (ts 10 1 .nil)))) ym yo ?_
 refine bV ?_
 refine Bi ?_
 refine vj ?_
 refine Bj ?_
 refine bV ?_
 refine AG (AQ 1 Z (fun Fr w hF hw hS=>Sq Fr w my ok hb he) Z Z (ψ:=fun v' H=>v'=.int .i64 0∧H=bx q (pC n C)) yz ?_ ?_)
 ·rintro _ _ ⟨rfl,rfl⟩
  exact(by(try refine Pd.st ?_);(repeat(first|exact Pd.nil|exact Pd.fnil|refine Pd.inner ?_|refine Pd.skip yo ?_|refine zf (zo 0 Z Z) ?_|refine zf (zo 1 Z Z) ?_|refine zf (zm 0 Z Z) ?_|refine zf (zm 1 Z Z) ?_|refine zf (an.ar (r1 _) Z) ?_|refine zf (an.ar (an.ar hd hD) Z) ?_|refine zf ((r1 _)) ?_|refine zf ((an.ar hd hD)) ?_|refine zc (zo 0 Z Z) ?_|refine zc (zo 1 Z Z) ?_|refine zc (zm 0 Z Z) ?_|refine zc (zm 1 Z Z) ?_|refine zc (an.ar (r1 _) Z) ?_|refine zc (an.ar (an.ar hd hD) Z) ?_|refine zc ((r1 _)) ?_|refine zc ((an.ar hd hD)) ?_)))
 rintro _ _ ⟨rfl,rfl⟩
 refine bV ?_
 refine AG (AO (OC (Lc:=[]) (vals:=[.int .i64 0]) rfl (List.Perm.refl _) (fun Fr w hF hw hS=>Gd Fr w)) rfl (fun v L' h=>by obtain⟨_,⟨rfl,rfl⟩,rfl⟩:=h;exact(by(try refine Pd.st ?_);(repeat(first|exact Pd.nil|exact Pd.fnil|refine Pd.inner ?_|refine Pd.skip yo ?_|refine zf (zo 0 rfl rfl) ?_|refine zf (zo 1 rfl rfl) ?_|refine zf (zm 0 rfl rfl) ?_|refine zf (zm 1 rfl rfl) ?_|refine zf (an.ar (r1 _) rfl) ?_|refine zf (an.ar (an.ar hd hD) rfl) ?_|refine zf ((r1 _)) ?_|refine zf ((an.ar hd hD)) ?_|refine zc (zo 0 rfl rfl) ?_|refine zc (zo 1 rfl rfl) ?_|refine zc (zm 0 rfl rfl) ?_|refine zc (zm 1 rfl rfl) ?_|refine zc (an.ar (r1 _) rfl) ?_|refine zc (an.ar (an.ar hd hD) rfl) ?_|refine zc ((r1 _)) ?_|refine zc ((an.ar hd hD)) ?_)))) ?_)
 rintro _ _ ⟨_,⟨rfl,rfl⟩,rfl⟩
 refine tG ?_
 exact Bk
end
end Cl
namespace Cl
open Go Vg T Api Ch Rep Conf Lg Rd LibC
attribute [local irreducible] VO VC VA
theorem aq.ro{P:Program}{f:FuncId}{args:List Value}{Fr:Nat→Prop}{w:World}{L:List HP}{φ:Value→Prop}(hc:lJ P f)(h:∀Fr':Nat→Prop,(∀b,Fr b→Fr' b)→aV Fr' L w→aq P f args Fr' w [] (fun v L=>φ v∧L=[])):
  aq P f args Fr w L (fun v L'=>φ v∧L'=L):=
 ⟨hc,fun hl hs=>by
  obtain⟨F,h1,h2,h3⟩:=hs
  have T:=h (fun b=>Fr b∨b∈F) (fun b hb=>.inl hb) ⟨F,h1,fun b hb=>.inr hb⟩
  refine Calls.mono (T.calls (fun b hb=>hb.elim (hl b) fun g=>(h3 b g).2) Sat.nil) fun e w' ⟨v,L',g1,⟨g2,g3⟩,g4,g5⟩=>?_
  exact⟨v,L,g1,⟨g2,Z⟩,⟨F,df.loc (fun b hb=>g5.block b (.inr hb)) h1,h2,fun b hb=>⟨(h3 b hb).1,vv (h3 b hb).2 g5.size⟩⟩,g5.mono fun b hb=>.inl hb⟩⟩
theorem iE.up{Fr Fr':Nat→Prop}{w:World}(h:iE Fr w)(hF:∀b,Fr b→Fr' b):iE Fr' w:=⟨sv.bL h.tab hF (cB.refl _ _),hF _ h.max.1,h.max.2⟩
theorem a7.up{Fr Fr':Nat→Prop}{w:World}{b:Nat}{cs:List Value}(h:a7 Fr w b cs)(hF:∀b,Fr b→Fr' b):a7 Fr' w b cs:=⟨hF _ h.fr,h.at_⟩
section
variable {d q:Nat} {D:List Value} {C:ay} {b e:Nat}
theorem N3(hD:D[12]?=some (.pointer (some ⟨q,0,none⟩)))(ok:C.Ok b e)(hb:b<100000)(he:e<900000)(n:Int)(hr:(C.bG (eA 7 n 0)).2=4):
  p8 d D q C (C.bG (eA 7 n 0)).1 22 ([n],[]) ⟨#[101,114,114,111,114,32,52]⟩:=by
 rintro Fr w ⟨na,nc⟩ ⟨ta,tc⟩ hg hd hn ht
 have hn0:=wG hn
 dsimp only at hn0
 obtain⟨nb,no,rfl,_,_⟩:=aP.rd (X:=⟨Tryz.prog,tab,aw,8,Fr,w⟩) hn0 (i:=0) (x:=n) rfl
 have one:∀(Fr':Nat→Prop) (w':World),iE Fr' w'→a7 Fr' w' d D→aP uh 1 Fr' w' (some ⟨nb,no,none⟩) [n]→aq Tryz.prog 51 [.pointer (some ⟨d,0,none⟩),.int .i64 7,.agg (fW ([n],[]) (some ⟨nb,no,none⟩,nc) (ta,tc)).toArray] Fr' w' [bx q C] (fun v L=>v=.string ⟨#[101,114,114,111,114,32,52]⟩∧L=[bx q (C.bG (eA 7 n 0)).1]):=by
  clear hg hd hn ht hn0
  intro Fr w hg hd hn
  obtain⟨_,_,e1,_,r1⟩:=aP.rd (X:=⟨Tryz.prog,tab,aw,35,Fr,w⟩) hn (i:=0) (x:=n) rfl
  cases e1
  have r1:=fun L=>r1 L t3 0 _ rfl rfl
  refine TF 35 Tryz.func51 Z ym aw Z Z ?_
  refine CS (CG (VG (VB (vs:=fW ([n],[]) (some ⟨nb,no,none⟩,nc) (ta,tc)) Z fun ab=>?_)))
  refine ae ?_
  refine VG (VI (LB (pv:=[(0,.int .i64 7)]) (eA 7 0 0).cells Z Z Z ym Z) ?_)
  refine VG (VO.alloc Z fun sb=>?_)
  refine VG (VT (vs:=(eA 7 0 0).cells) (cs':=(eA 7 0 0).cells) 0 Z Z Z Z (NR _) Z Z Z ?_)
  refine cF ?_
  refine l_ ?_
  refine cF ?_
  refine VG (VI (dU 0 Z Z Z Z Z Z (Nat.zero_lt_succ _)) ?_)
  refine VG (VO.load Z Z (r1 _) ?_)
  refine ae ?_
  refine VG (VO.st 0 (cs':=(eA 7 n 0).cells) Z Z Z Z (by show 1<8;omega) Z Z ?_)
  refine cF ?_
  refine qT ?_
  refine CD (ts 0 5 (.only 5 (.only 6 (ts 7 1 .nil)))) ym yo ?_
  refine bV ?_
  refine Bi ?_
  refine AG (VA.cK 0 (eA 7 n 0).cells Z Z Z Z Z ?_)
  refine bV ?_
  refine AG (AQ 2 Z (fun Fr w hF hw hS=>Ev Fr w ok hb he (eA 7 n 0)) Z Z (ψ:=fun v H=>v=.int .i64 4∧H=bx q (C.bG (eA 7 n 0)).1) Mv ?_ ?_)
  ·rintro _ _ ⟨rfl,rfl⟩
   exact Mw
  rintro _ _ ⟨rfl,rfl⟩
  refine bV ?_
  refine AG (AO (OC (Lc:=[]) (vals:=[.int .i64 4]) rfl (List.Perm.refl _) (fun Fr w hF hw hS=>MY Fr w (hg.st hF hw))) rfl (fun v L' h=>by obtain⟨_,⟨rfl,rfl⟩,rfl⟩:=h;exact Mx) ?_)
  rintro _ _ ⟨_,⟨rfl,rfl⟩,rfl⟩
  refine tG ?_
  exact CR (al.tmp 6 Z Z (IP 2 Z aa.nil).ah ⟨rfl,Z⟩)
 refine TF 8 Tryz.func22 Z ym aw Z Z ?_
 refine CS (CG (VG (VB (vs:=fW ([n],[]) (some ⟨nb,no,none⟩,nc) (ta,tc)) Z fun ab=>?_)))
 refine ae ?_
 refine VG (VL 0 (fW ([n],[]) (some ⟨nb,no,none⟩,nc) (ta,tc)) Z Z Z Z ?_)
 refine VG (VQ 1 Z (fun Fr w hF hw hS=>one Fr w (hg.st hF hw) (hd.of hF hw) (hn0.of hF hw)) Z (ψ:=fun v H=>v=.string ⟨#[101,114,114,111,114,32,52]⟩∧H=bx q (C.bG (eA 7 n 0)).1) yz ?_)
 rintro _ _ ⟨rfl,rfl⟩
 refine ae ?_
 exact Bk
end
end Cl
namespace Cl
open Go Vg T Api Ch Rep Conf Lg Rd
attribute [local irreducible] VO VC VA
section
variable {p:Nat} {C:ay} {y:eL} {b e:Nat}
theorem XL(fit:eW C y)(hb:a7 Fr w p (gN C y))(hc:a7 Fr w y.cb (flat la y.cr++y.cx))(n:Nat):aq Tryz.prog 66 [.pointer (some ⟨p,0,none⟩),.int .i64 (n:Int)] Fr w []
  (fun v L=>v=(match y.cr[n]? with
   | none=>.pointer none
   | some x=>.pointer (some ⟨x.1,0,none⟩))∧L=[]):=by
 refine TF 28 Tryz.func66 Z ym aw Z Z ?_
 refine au ?_
 refine FD ?_
 refine au ?_
 refine VG (VY 8 false Z Z ?_)
 refine au ?_
 refine VG (VY 12 false Z (DF yd) ?_)
 refine uZ ?_
 refine CP (p:=(y.cr.length:Int)≤n) Z (fun h=>?_) (fun h=>CK ?_)
 ·refine au ?_
  exact CR (al.tmp 4 Z Z ER ⟨by rw[mQ yd],Z⟩)
 have hl:n<y.cr.length:=by omega
 have hx:y.cr[n]?=some y.cr[n]:=GE hl
 generalize y.cr[n]=x at hx
 rw[hx]
 refine uZ ?_
 refine VG (VI (dU n Z Z Z Z Z Z hl) ?_)
 refine VG (VO.load Z Z (an.ar hc (vK hx)) ?_)
 refine au ?_
 exact tx
end
end Cl
namespace Cl
open Go Vg T Api Ch Rep Conf Lg Rd LibC
attribute [local irreducible] VO VC VA
theorem Ye{Fr:Nat→Prop}{w:World}{b:Nat}{xs:List ByteArray}(h:a7 Fr w b (qM xs)):aP oF 1 Fr w (some ⟨b,0,none⟩) xs:=aP.ar h fun i x hx=>by
 have:=kK Yd hx []
 rw[bA] at this
 rw[bZ,←Et]
 exact this
section
variable {d q:Nat} {D:List Value} {C:ay} {b e:Nat}
def qK(n:Int)(v:ByteArray):List ByteArray:=[⟨#[100,111,110,101]⟩,jI n,jI 1,jI 1,jI 1,⟨#[58]⟩++v]
theorem GV(hD:D[12]?=some (.pointer (some ⟨q,0,none⟩)))(ok:C.Ok b e){x:aR}(hx:C.di[0]?=some x)(hn:0≤x.seq∧x.seq≤9)(hdo:x.eP=0){r:Int}{val:ByteArray}(ho:x.outcome=some ⟨1,r,⟨1,val,1,1⟩⟩)(hval:val.size≤1000)
  (hj:(Lib.join ((qK x.seq val).map (·.data.toList)) jo.data.toList).length≤100000) {t:ByteArray} (ht:sN (qK x.seq val) jo=t):
  p8 d D q C C 34 ([0],[]) t:=by
 rintro Fr0 w ⟨na,nc⟩ ⟨ta,tc⟩ hg hd hna hta
 have hna:=wG hna
 dsimp only at hna
 refine aq.ro (φ:=fun v=>v=.string t) ⟨_,Tryz.func34,by kernel_rfl,by kernel_rfl⟩ (fun Fr hF0 hC=>?_)
 have hg:=iE.up hg hF0
 have hd:=a7.up hd hF0
 have hna:=hna.mono hF0
 clear hF0 hta
 obtain⟨nb,no,rfl,_,r1⟩:=aP.rd (X:=⟨Tryz.prog,tab,aw,68,Fr,w⟩) hna (i:=0) (x:=(0:Int)) rfl
 have r1:=fun L=>r1 L t3 0 _ rfl rfl
 obtain⟨y,fit,hy⟩:=vM hC
 obtain⟨qc,hcr⟩:∃qc,y.cr[0]?=some (qc,x):=by
  have h:=fit.cr
  rw[←h,dH] at hx
  cases hc:y.cr[0]? with
  | none=>rw[hc] at hx;cases hx
  | some z=>
   rw[hc] at hx
   cases hx
   exact⟨z.1,Z⟩
 have hcx:aV Fr [bB qc x] w:=by
  refine((hy.at_ 9 Z).sep).at_ 0 ?_
  rw[dH,hcr];rfl
 have xok:x.Ok:=ok.jA x (ME hx)
 have hb0:(x.eP != 0)=false:=by rw[hdo];rfl
 have hov:zT x.outcome=.tuple #[.agg (cL ⟨1,r,⟨1,val,1,1⟩⟩).toArray,.bool true]:=by rw[ho];rfl
 refine TF 68 Tryz.func34 Z ym aw Z Z ?_
 refine CS (CG (VG (VB (vs:=fW ([0],[]) (some ⟨nb,no,none⟩,nc) (ta,tc)) Z fun ab=>?_)))
 refine ae ?_
 refine CD (ts 0 8 (.only 8 (ts 9 1 .nil))) ym yo ?_
 refine bV ?_
 refine Bi ?_
 refine vj ?_
 refine Bj ?_
 refine bV ?_
 refine AG (AO (OC (Lc:=[]) (vals:=[.pointer (some ⟨q,0,none⟩),.int .i64 0]) (R:=fun v L=>v=.pointer (some ⟨qc,0,none⟩)∧L=[]) Z (List.Perm.refl _) (fun Fr w hF hw hS=>by
  have:=XL Fr w fit ((hy.of hF hw).ar 0 rfl) ((hy.of hF hw).ar 4 rfl) 0
  rw[hcr] at this
  exact this)) rfl (fun v L' h=>by obtain⟨_,⟨rfl,rfl⟩,rfl⟩:=h;exact(by(try refine Pd.st ?_);(repeat(first|exact Pd.nil|exact Pd.fnil|refine Pd.inner ?_|refine Pd.skip yo ?_|refine zf (zo 0 rfl rfl) ?_|refine zf (zm 0 rfl rfl) ?_|refine zf (an.ar (r1 _) rfl) ?_|refine zf (an.ar (an.ar hd hD) rfl) ?_|refine zf ((r1 _)) ?_|refine zf ((an.ar hd hD)) ?_|refine zc (zo 0 rfl rfl) ?_|refine zc (zm 0 rfl rfl) ?_|refine zc (an.ar (r1 _) rfl) ?_|refine zc (an.ar (an.ar hd hD) rfl) ?_|refine zc ((r1 _)) ?_|refine zc ((an.ar hd hD)) ?_)))) ?_)
 rintro _ _ ⟨_,⟨rfl,rfl⟩,rfl⟩
 refine bV ?_
 refine iR ?_
 refine VG (VV (fun Fr w hF hw _=>Ey Fr w xok (hcx.of hF hw)) Z ?_)
 refine VG (VV (fun Fr w hF hw _=>wi Fr w x.seq yd yd (hg.st hF hw)) Z ?_)
 refine ae ?_
 refine VG (VV (u:=.bool false) (fun Fr w hF hw _=>by
  obtain⟨z,h1,_⟩:=B_ (hcx.of hF hw)
  have:=B1 Fr w xok h1
  rw[hb0] at this
  exact this) Z ?_)
 refine iR ?_
 refine VG (VV (u:=.tuple #[.agg (cL ⟨1,r,⟨1,val,1,1⟩⟩).toArray,.bool true]) (fun Fr w hF hw _=>by
  have:=Kh Fr w xok (hcx.of hF hw)
  rw[hov] at this
  exact this) Z ?_)
 refine ae ?_
 refine VG (VO.alloc Z fun ob=>?_)
 refine VG (VT (vs:=cL ⟨1,r,⟨1,val,1,1⟩⟩) (cs':=cL ⟨1,r,⟨1,val,1,1⟩⟩) 0 Z Z Z Z (NR _) Z Z Z ?_)
 refine pR ?_
 refine aj ?_
 refine vg ?_
 refine VG (VL 0 [.int .i64 1,.string val,.int .i64 1,.int .i64 1] Z Z Z Z ?_)
 refine VG (VO.alloc Z fun rb=>?_)
 refine VG (VT (vs:=[.int .i64 1,.string val,.int .i64 1,.int .i64 1]) (cs':=[.int .i64 1,.string val,.int .i64 1,.int .i64 1]) 0 Z Z Z Z (NR _) Z Z Z ?_)
 refine ae ?_
 refine CD (ts 0 3 (ts 4 2 (ts 7 2 (ts 10 3 (.only 3 (.only 6 (.only 9 (.only 13 (.only 14 (ts 15 1 .nil)))))))))) ym yo ?_
 refine dF ?_
 refine AG (AI Z (nk Z Z (by show 1+val.size≤_;omega)) ?_)
 refine Bl ?_
 rintro _ _ ⟨_,⟨rfl,rfl⟩,rfl⟩
 refine Bl ?_
 rintro _ _ ⟨_,⟨rfl,rfl⟩,rfl⟩
 refine Bl ?_
 rintro _ _ ⟨_,⟨rfl,rfl⟩,rfl⟩
 refine AG (AO (aG.buildSlice (n:=6) (pv:=[(0,.string ⟨#[100,111,110,101]⟩),(1,.string (jI x.seq)),(2,.string (jI 1)),(3,.string (jI 1)),(4,.string (jI 1)),(5,.string (⟨#[58]⟩++val))]) (cells:=qM (qK x.seq val)) rfl rfl rfl rfl yn rfl) rfl (fun v L' h=>by obtain⟨wb,rfl,rfl⟩:=h;exact gx) ?_)
 rintro _ _ ⟨wb,rfl,rfl⟩
 refine AG (AO (OC (Lc:=[]) (vals:=[.slice (some ⟨wb,0,none⟩) 6 6]) rfl (List.Perm.refl _) (fun Fr w hF hw hS=>Ep Fr w (xs:=qK x.seq val) (by unfold qK;simp) (Ye (hS.ar 0 rfl)) (NR _) (by show 6≤1000;omega) hj)) rfl (fun v L' h=>by obtain⟨_,⟨rfl,rfl⟩,rfl⟩:=h;exact gx) ?_)
 rintro _ _ ⟨_,⟨rfl,rfl⟩,rfl⟩
 refine tG ?_
 exact CR (al.tmp 4 Z Z aa.nil.ah ⟨by rw[ht],Z⟩)
end
end Cl
namespace Cl
open Go Vg T Api Ch Rep Conf Lg Rd LibC
attribute [local irreducible] VO VC VA
section
variable {d q:Nat} {D:List Value} {C:ay} {b e:Nat}
def ri:List ByteArray:=[⟨#[101,112,111,99,104]⟩,jI 1,⟨#[109,101,109,98,101,114,115]⟩]
def rj:ByteArray:=jI 0++⟨#[64]⟩++jI 1
def NH(k:Nat):List ByteArray:=if k=0 then ri else ri ++ [rj]
theorem cX:sN (ri ++ [rj]) jo=⟨#[101,112,111,99,104,32,49,32,109,101,109,98,101,114,115,32,48,64,49]⟩∧(Lib.join ((ri ++ [rj]).map (·.data.toList)) jo.data.toList).length≤100000∧(jI 0).size=1∧(jI 1).size=1:=by decide +kernel
theorem NK(hD:D[12]?=some (.pointer (some ⟨q,0,none⟩)))(ok:C.Ok b e)(hch:C.aU.ch=⟨1,[(0,1)],-1⟩):
  p8 d D q C C 32 ([],[]) ⟨#[101,112,111,99,104,32,49,32,109,101,109,98,101,114,115,32,48,64,49]⟩:=by
 rintro Fr0 w ⟨na,nc⟩ ⟨ta,tc⟩ hg hd - -
 refine aq.ro (φ:=fun v=>v=.string _) ⟨_,Tryz.func32,by kernel_rfl,by kernel_rfl⟩ (fun Fr hF0 hC=>?_)
 have hg:=iE.up hg hF0
 have hd:=a7.up hd hF0
 clear hF0
 obtain⟨t1,t2,t3,t4⟩:=cX
 obtain⟨y,fit,hy⟩:=vM hC
 have hm:aV Fr [bQ y.mp C.aU] w:=hy.at_ 2 rfl
 refine TF 49 Tryz.func32 Z ym aw Z Z ?_
 refine CS (CG (VG (VB (vs:=fW ([],[]) (na,nc) (ta,tc)) Z fun ab=>?_)))
 refine ae ?_
 refine VG (VO.load Z Z (an.ar hd hD) ?_)
 refine VG (VV (fun Fr w hF hw _=>Ka Fr w ((hy.of hF hw).ar 0 Z)) Z ?_)
 refine VG (VK (Lc:=[]) (fun Fr w hF hw _=>Kf Fr w ok.aU (hm.of hF hw)) Z Z ?_)
 rintro _ _ ⟨a,c,rfl,rfl⟩
 rw[hch]
 refine VG (VO.alloc Z fun cb=>?_)
 refine VG (VT (vs:=(aW.mk 1 [(0,1)] (-1)).cells a c) (cs':=(aW.mk 1 [(0,1)] (-1)).cells a c) 0 Z Z Z Z (NR _) Z Z Z ?_)
 refine aj ?_
 refine VG (VV (fun Fr w hF hw _=>wi Fr w 1 yd yd (hg.st hF hw)) Z ?_)
 refine VG (VO.buildSlice (n:=3) (pv:=[(0,.string ⟨#[101,112,111,99,104]⟩),(1,.string (jI 1)),(2,.string ⟨#[109,101,109,98,101,114,115]⟩)]) (qM ri) Z Z Z Z yn Z fun wb=>?_)
 refine VG (VO.bu 2 Z (aY.Ju (c:=aC) (n:=2) aN a c [(0,1)] yf) ?_)
 rintro⟨mb,rest⟩ ⟨rfl,hcap,hrest⟩
 dsimp only at hcap hrest ⊢
 refine gh ?_
 refine VC.loop (σ:=Nat×Option Addr×Nat) (fun s=>[(5,pV cb),(6,.slice s.2.1 (3+s.1) s.2.2),(20,.slice (some ⟨mb,0,none⟩) 1 c),(21,.int .i64 1),(22,.int .i64 (s.1:Int))]) (fun s=>[pt mb (flat aC [(0,1)]++rest) aN,av 9 1 s.2.1 (3+s.1) s.2.2 (qM (NH s.1)),pt cb ((aW.mk 1 [(0,1)] (-1)).cells (some ⟨mb,0,none⟩) c) 91]) (fun s=>s.1≤1∧3+s.1≤s.2.2) (fun s=>1-s.1) (0,some ⟨wb,0,none⟩,3)
  ⟨bK _,NR _⟩ aF (IP 0 rfl (aa.sl (rest:=[]) (n:=3) (cap:=3) rfl (NR _) rfl (aZ [0,0]))).ah ?_
 rintro⟨k,a2,c2⟩ ⟨hk,hc2⟩
 dsimp only at hk hc2 ⊢
 refine ae ?_
 refine CP (p:=(k:Int)<1) Z (fun h1=>CK ?_) (fun h1=>CX ?_)
 rotate_left
 ·obtain rfl:k=1:=by omega
  refine gh ?_
  refine qT ?_
  refine VG (VV (fun Fr w hF hw hS=>Ep Fr w (xs:=ri ++ [rj]) (by unfold ri;simp) (Eu (l:=ri ++ [rj]) (hS.at_ 1 Z)) hc2 (by show 4≤1000;omega) t2) Z ?_)
  refine ae ?_
  exact CR (al.tmp 4 Z Z aa.nil.ah ⟨by rw[t1],Z⟩)
 obtain rfl:k=0:=by omega
 refine ae ?_
 refine VG (VI (dU 0 Z Z Z Z Z Z (Nat.zero_lt_succ _)) ?_)
 refine VG (VL 0 (aC (0,1)) Z Z Z Z ?_)
 refine VG (VO.alloc Z fun xb=>?_)
 refine VG (VT (vs:=aC (0,1)) (cs':=aC (0,1)) 0 Z Z Z Z (NR _) Z Z Z ?_)
 refine ae ?_
 refine CD (ts 0 3 (ts 5 2 (.only 3 (.take 4 (.only 7 (.take 8 (.only 9 (.only 10 (ts 11 1 .nil))))))))) ym yo ?_
 refine dF ?_
 refine AG (AO (OC (Lc:=[]) (vals:=[.int .i64 0]) rfl (List.Perm.refl _) (fun Fr w hF hw hS=>wi Fr w 0 yd yd (hg.st hF hw))) rfl (fun v L' h=>by obtain⟨_,⟨rfl,rfl⟩,rfl⟩:=h;exact gx) ?_)
 rintro _ _ ⟨_,⟨rfl,rfl⟩,rfl⟩
 refine AG (AI Z (nk Z Z (by rw[t3];decide)) ?_)
 refine Bl ?_
 rintro _ _ ⟨_,⟨rfl,rfl⟩,rfl⟩
 refine AG (AI Z (nk Z Z yo) ?_)
 refine AG (AO (aG.buildSlice (n:=1) (pv:=[(0,.string rj)]) (cells:=[.string rj]) rfl rfl rfl rfl yn (fN rfl rfl rfl)) rfl (fun v L' h=>by obtain⟨nb,rfl,rfl⟩:=h;exact gx) ?_)
 rintro _ _ ⟨nb,rfl,rfl⟩
 refine AG (AO (aG.append (m:=1) (news:=[.string rj]) 3 rfl rfl rfl rfl rfl rfl rfl (dN.pt 0 rfl rfl rfl) rfl yn yn) rfl (fun v L' h=>by obtain⟨a',c',rfl,_,rfl⟩:=h;exact gx) ?_)
 rintro _ _ ⟨a',c',rfl,hc',rfl⟩
 refine bV ?_
 refine fx ?_
 exact⟨(1,a',c'),⟨NR _,hc'⟩,nQ,aF,(aZ [3,0,2]).ah⟩
end
end Cl
namespace Cl
open Go Vg T Api Ch Rep Conf Lg Rd Sched LibC
attribute [local irreducible] VO VC VA
abbrev Cm:TypeId:=31
theorem Ha(c:bn){qa:Option Addr}{qc:Nat}(hq:fT Fr w qa c.qs)(hqc:c.qs.length≤qc):
  aq Tryz.prog 7 [.agg (c.cells qa qc).toArray] Fr w [] (fun v L=>if c=ct c then ∃d q D,D[12]?=some (.pointer (some ⟨q,0,none⟩))∧v=.tuple #[.pointer (some ⟨d,0,none⟩),.int .i64 0]∧L=[pt d D Cm,bx q (rS c)] else v=.tuple #[.pointer none,.int .i64 2]∧L=[]):=by
 refine TF 21 Tryz.func7 Z ym aw Z Z ?_
 refine CS (CG (VG (VB (vs:=c.cells qa qc) Z fun b1=>?_)))
 refine ae ?_
 refine A7 ?_
 refine VG (VK (Lc:=[]) (fun Fr w hF hs _=>XQ Fr w c (lS hq hF hs) hqc) Z Z ?_)
 intro v L1 hv
 by_cases hf:c=ct c
 rotate_left
 ·rw[if_neg hf] at hv
  obtain⟨rfl,rfl⟩:=hv
  refine oK ?_
  exact Fh
 rw[if_pos hf] at hv
 obtain⟨q,rfl,rfl⟩:=hv
 have hb2:=tY hf
 refine pR ?_
 refine cF ?_
 refine VO.ah (L':=av 3 1 none 0 0 [] :: [bx q (rS c),pt b1 (c.cells qa qc) sE]) (aa.cN aa.refl).ah ?_
 refine VG (VO.append (m:=c.qs.length) (news:=du c.qs) 0 Z Z Z Z Z Z Z (HM hq Ms) Mt (sG (k:=100) yd yn) yd fun qa2 qc2 hqc2=>?_)
 rw[bZ,kW] at *
 refine ae ?_
 refine VG (VO.st 2 (cs':=c.cells qa2 qc2) Z Z Z Z u9 Z Z ?_)
 refine ae ?_
 refine VG (VL 2 (c.cells qa2 qc2) Z Z Z Z ?_)
 refine ae ?_
 refine VG (VI (LB (pv:=[(0,.agg (c.cells qa2 qc2).toArray),(1,pV q)]) (c.cells qa2 qc2 ++ [.pointer (some ⟨q,0,none⟩)]) Z Z Z ym Z) ?_)
 refine VG (VB (vs:=c.cells qa2 qc2 ++ [.pointer (some ⟨q,0,none⟩)]) Z fun d=>?_)
 refine ae ?_
 exact CR (al.cz 2 3 Z Z Z (IP 0 Z (IP 1 Z aa.nil)).ah (by rw[if_pos hf];exact⟨d,q,_,Z,Z,Z⟩))
theorem Mz:Ae.Ok 0 0:=Q9 Hd
theorem Hh:yS.Ok 10 10:=(Mz.bG yd yd _).mono yd yd
theorem Cn:t_.Ok 25000 180000:=(D_ 3 Hh yd yd).mono yd yd
theorem Hi:yT.Ok 25010 180010:=(Cn.bG yd yd _).mono yd yd
theorem Co:m_.Ok 35000 240000:=(D_ 1 Hi yd yd).mono yd yd
def As:Nat→ay
 | 0=>Ae
 | 1=>yS
 | 2=>t_
 | 3=>t_
 | 4=>yT
 | 5=>m_
 | 6=>m_
 | 7=>m_
 | _=>(m_.bG (eA 7 9 0)).1
theorem J4{C:ay}{n:Int}{val:List UInt8}(h:Av C=([n,0,1,1,1,1],val)):∃x r,C.dO 0=some x∧x.seq=n∧x.eP=0∧x.outcome=some ⟨1,r,⟨1,⟨val.toArray⟩,1,1⟩⟩:=by
 unfold Av at h
 cases hc:C.dO 0 with
 | none=>rw[hc] at h;cases h
 | some x=>
  rw[hc] at h
  dsimp only at h
  cases ho:x.outcome with
  | none=>rw[ho] at h;exact absurd (congrArg (fun z=>z.1.length) h) yf
  | some o=>
   rw[ho] at h
   dsimp only at h
   injection h with h1 h2
   injection h1 with a1 h1
   injection h1 with a2 h1
   injection h1 with a3 h1
   injection h1 with a4 h1
   injection h1 with a5 h1
   injection h1 with a6 h1
   obtain⟨k,r,⟨cd,v,vr,at_⟩⟩:=o
   dsimp only at a3 a4 a5 a6 h2
   subst a3 a4 a5 a6 h2
   exact⟨x,r,Z,a1,a2,ho⟩
theorem GO{C:ay}{x:aR}(h:C.dO 0=some x):C.di[0]?=some x:=by
 unfold ay.dO at h
 simpa using h
end Cl
namespace Cl
open Go Vg T Api Ch Rep Conf Lg Rd LibC
attribute [local irreducible] VO VC VA
def Dc(s w0:ByteArray)(ws:List ByteArray)(m:Nat):Bool:=decide (s.size≤100)&&(decide (Kn s=w0::ws)&&(decide (Lib.countB s jo=ws.length)&&(ws.all (fun x=>decide (x.size≤1000))&&(decide (ws.length≤1000)&&(decide (m≤22)&&(mv.take m).all (fun x=>decide (x.1≠w0)))))))
section
variable {Fr:Nat→Prop} {w:World} {d q:Nat} {D:List Value}
theorem Hb(hd:a7 Fr w d D)(hD:D[12]?=some (.pointer (some ⟨q,0,none⟩)))(hg:iE Fr w){C C':ay}{s w0 t:ByteArray}{ws:List ByteArray}{m:Nat}(hB:Dc s w0 ws m=true)
  (hh:m=22∧t=qB∧C'=C∨∃c,mv[m]?=some c∧c.1=w0∧vE ws c.2.1.data.toList=true∧p8 d D q C C' c.2.2 (iV ws c.2.1.data.toList) t):
  aq Tryz.prog 5 [.pointer (some ⟨d,0,none⟩),.string s] Fr w [bx q C] (fun v L=>v=.string t∧L=[bx q C']):=by
 unfold Dc at hB
 simp only[dG,decide_eq_true_eq,kU] at hB
 obtain⟨h1,h2,h3,h4,h5,h6,h7⟩:=hB
 exact On Fr w hd hD h1 h2 h3 h4 h5 h6 (fun k hk c hc=>h7 c (ME (by rw[p3,if_pos hk];exact hc))) hg hh
theorem rz(hd:a7 Fr w d D)(hD:D[12]?=some (.pointer (some ⟨q,0,none⟩)))(hg:iE Fr w){C C':ay}{s t:ByteArray}{ws:List ByteArray}(m:Nat){c:xP}(hc:mv[m]?=some c)(hB:Dc s c.1 ws m=true){a:q9}
  (ha:(vE ws c.2.1.data.toList&&decide (iV ws c.2.1.data.toList=a))=true) (h:p8 d D q C C' c.2.2 a t):
  aq Tryz.prog 5 [.pointer (some ⟨d,0,none⟩),.string s] Fr w [bx q C] (fun v L=>v=.string t∧L=[bx q C']):=by
 rw[dG] at ha
 exact Hb hd hD hg hB (.inr ⟨c,hc,Z,ha.1,by rw[of_decide_eq_true ha.2];exact h⟩)
theorem J2:sN (qK 1 ⟨#[]⟩) jo=⟨#[100,111,110,101,32,49,32,49,32,49,32,49,32,58]⟩∧(Lib.join ((qK 1 ⟨#[]⟩).map (·.data.toList)) jo.data.toList).length≤100000:=by decide +kernel
theorem J3:sN (qK 2 ⟨#[118]⟩) jo=⟨#[100,111,110,101,32,50,32,49,32,49,32,49,32,58,118]⟩∧(Lib.join ((qK 2 ⟨#[118]⟩).map (·.data.toList)) jo.data.toList).length≤100000:=by decide +kernel
theorem Ql(hd:a7 Fr w d D)(hD:D[12]?=some (.pointer (some ⟨q,0,none⟩)))(hg:iE Fr w):∀{k:Nat} {s t:ByteArray},pg[k]?=some (s,t) →
  aq Tryz.prog 5 [.pointer (some ⟨d,0,none⟩),.string s] Fr w [bx q (As k)] (fun v L=>v=.string t∧L=[bx q (As (k+1))])
 | 0,_,_,h=>by
  cases h
  exact rz hd hD hg (ws:=[⟨#[48]⟩,⟨#[107]⟩,⟨#[118]⟩]) 0 Z yo (a:=([0],[⟨#[107]⟩,⟨#[118]⟩])) yo (R7 hD Mz yd yd 0 ⟨#[107]⟩ ⟨#[118]⟩ Cp.1)
 | 1,_,_,h=>by
  cases h
  exact rz hd hD hg (ws:=[⟨#[51]⟩]) 14 Z yo (a:=([3],[])) yo (Jt hD 3 Cp.2.1 Hh yd yd)
 | 2,_,_,h=>by
  cases h
  obtain⟨x,r,h1,h2,h3,h4⟩:=J4 Cp.2.2
  exact rz hd hD hg (ws:=[⟨#[48]⟩]) 17 Z yo (a:=([0],[])) yo (GV hD Cn (GO h1) yd h3 h4 yn (by rw[h2];exact J2.2) (by rw[h2];exact J2.1))
 | 3,_,_,h=>by
  cases h
  exact rz hd hD hg (ws:=[⟨#[48]⟩,⟨#[107]⟩]) 3 Z yo (a:=([0],[⟨#[107]⟩])) yo (Pg hD Cn yd yd 0 ⟨#[107]⟩ Cq.1)
 | 4,_,_,h=>by
  cases h
  exact rz hd hD hg (ws:=[⟨#[49]⟩]) 14 Z yo (a:=([1],[])) yo (Jt hD 1 Cq.2.1 Hi yd yd)
 | 5,_,_,h=>by
  cases h
  obtain⟨x,r,h1,h2,h3,h4⟩:=J4 Cq.2.2
  exact rz hd hD hg (ws:=[⟨#[48]⟩]) 17 Z yo (a:=([0],[])) yo (GV hD Co (GO h1) yd h3 h4 yn (by rw[h2];exact J3.2) (by rw[h2];exact J3.1))
 | 6,_,_,h=>by
  cases h
  have hch:m_.aU.ch=⟨1,[(0,1)],-1⟩:=by
   obtain⟨h1,h2,h3,_⟩:=Hj
   generalize m_.aU.ch=c at h1 h2 h3
   obtain⟨e,ms,dr⟩:=c
   dsimp only at h1 h2 h3
   subst h1 h2 h3
   rfl
  exact rz hd hD hg (ws:=[]) 15 Z yo (a:=([],[])) yo (NK hD Co hch)
 | 7,_,_,h=>by
  cases h
  exact rz hd hD hg (ws:=[⟨#[57]⟩]) 5 Z yo (a:=([9],[])) yo (N3 hD Co yd yd 9 Hj.2.2.2)
 | 8,_,_,h=>by
  cases h
  exact Hb hd hD hg (w0:=⟨#[104,101,108,108,111]⟩) (ws:=[]) (m:=22) yo (.inl ⟨rfl,Z,Z⟩)
 | _+9,_,_,h=>by cases h
end
end Cl
namespace Cl
open Go Vg T Api Ch Rep Conf Lg Rd Sched LibC
attribute [local irreducible] VO VC VA
def um(x:ByteArray×ByteArray):List Value:=[.string x.1,.string x.2]
theorem Qn:∀{k:Nat} {s t:ByteArray},pg[k]?=some (s,t)→(flat um pg)[0+k*2+0*1]?=some (.string s)∧(flat um pg)[0+k*2+1*1]?=some (.string t)
 | 0,_,_,h=>by cases h;exact⟨rfl,rfl⟩
 | 1,_,_,h=>by cases h;exact⟨rfl,rfl⟩
 | 2,_,_,h=>by cases h;exact⟨rfl,rfl⟩
 | 3,_,_,h=>by cases h;exact⟨rfl,rfl⟩
 | 4,_,_,h=>by cases h;exact⟨rfl,rfl⟩
 | 5,_,_,h=>by cases h;exact⟨rfl,rfl⟩
 | 6,_,_,h=>by cases h;exact⟨rfl,rfl⟩
 | 7,_,_,h=>by cases h;exact⟨rfl,rfl⟩
 | 8,_,_,h=>by cases h;exact⟨rfl,rfl⟩
 | _+9,_,_,h=>by cases h
abbrev M3:TypeId:=39
theorem Yl(hg:iE Fr w):aq Tryz.prog 4 [] Fr w [] (fun v L=>v=.bool true∧L=[]):=by
 refine TF 38 Tryz.func4 Z ym aw Z Z ?_
 refine ae ?_
 refine VG (VI (LB (pv:=[]) (zC.cells none 0) Z Z Z Z Z) ?_)
 refine VG (VK (Lc:=[]) (fun Fr w _ _ _=>Sl Fr w zC none 0 ⟨fun h=>absurd Z h⟩) Z Z ?_)
 rintro _ _ ⟨a,cap,ha,hcap,rfl,rfl⟩
 refine VG (VK (Lc:=[]) (fun Fr w _ _ h2=>Ha Fr w (ct zC) (we (h2.at_ 0 Z)) hcap) Z Z ?_)
 intro v L1 g
 rw[if_pos Hd] at g
 obtain⟨d,q,D,hD,rfl,rfl⟩:=g
 refine iR ?_
 refine VG (VI (og (pv:=[(0,.string ⟨#[112,117,116,32,48,32,107,32,118]⟩),(1,.string ⟨#[111,107]⟩)]) [.string ⟨#[112,117,116,32,48,32,107,32,118]⟩,.string ⟨#[111,107]⟩] Z Z Z Z Z) ?_)
 refine VG (VI (og (pv:=[(0,.string ⟨#[114,111,117,110,100,32,51]⟩),(1,.string ⟨#[111,107]⟩)]) [.string ⟨#[114,111,117,110,100,32,51]⟩,.string ⟨#[111,107]⟩] Z Z Z Z Z) ?_)
 refine VG (VI (og (pv:=[(0,.string ⟨#[99,108,105,101,110,116,32,48]⟩),(1,.string ⟨#[100,111,110,101,32,49,32,49,32,49,32,49,32,58]⟩)]) [.string ⟨#[99,108,105,101,110,116,32,48]⟩,.string ⟨#[100,111,110,101,32,49,32,49,32,49,32,49,32,58]⟩] Z Z Z Z Z) ?_)
 refine VG (VI (og (pv:=[(0,.string ⟨#[103,101,116,32,48,32,107]⟩),(1,.string ⟨#[111,107]⟩)]) [.string ⟨#[103,101,116,32,48,32,107]⟩,.string ⟨#[111,107]⟩] Z Z Z Z Z) ?_)
 refine VG (VI (og (pv:=[(0,.string ⟨#[114,111,117,110,100,32,49]⟩),(1,.string ⟨#[111,107]⟩)]) [.string ⟨#[114,111,117,110,100,32,49]⟩,.string ⟨#[111,107]⟩] Z Z Z Z Z) ?_)
 refine VG (VI (og (pv:=[(0,.string ⟨#[99,108,105,101,110,116,32,48]⟩),(1,.string ⟨#[100,111,110,101,32,50,32,49,32,49,32,49,32,58,118]⟩)]) [.string ⟨#[99,108,105,101,110,116,32,48]⟩,.string ⟨#[100,111,110,101,32,50,32,49,32,49,32,49,32,58,118]⟩] Z Z Z Z Z) ?_)
 refine VG (VI (og (pv:=[(0,.string ⟨#[99,104,97,105,110]⟩),(1,.string ⟨#[101,112,111,99,104,32,49,32,109,101,109,98,101,114,115,32,48,64,49]⟩)]) [.string ⟨#[99,104,97,105,110]⟩,.string ⟨#[101,112,111,99,104,32,49,32,109,101,109,98,101,114,115,32,48,64,49]⟩] Z Z Z Z Z) ?_)
 refine VG (VI (og (pv:=[(0,.string ⟨#[99,114,97,115,104,32,57]⟩),(1,.string ⟨#[101,114,114,111,114,32,52]⟩)]) [.string ⟨#[99,114,97,115,104,32,57]⟩,.string ⟨#[101,114,114,111,114,32,52]⟩] Z Z Z Z Z) ?_)
 refine VG (VI (og (pv:=[(0,.string ⟨#[104,101,108,108,111]⟩),(1,.string ⟨#[63]⟩)]) [.string ⟨#[104,101,108,108,111]⟩,.string ⟨#[63]⟩] Z Z Z Z Z) ?_)
 refine VG (VI (og (pv:=[(0,.agg (List.toArray [.string ⟨#[112,117,116,32,48,32,107,32,118]⟩,.string ⟨#[111,107]⟩])),(1,.agg (List.toArray [.string ⟨#[114,111,117,110,100,32,51]⟩,.string ⟨#[111,107]⟩])),(2,.agg (List.toArray [.string ⟨#[99,108,105,101,110,116,32,48]⟩,.string ⟨#[100,111,110,101,32,49,32,49,32,49,32,49,32,58]⟩])),(3,.agg (List.toArray [.string ⟨#[103,101,116,32,48,32,107]⟩,.string ⟨#[111,107]⟩])),(4,.agg (List.toArray [.string ⟨#[114,111,117,110,100,32,49]⟩,.string ⟨#[111,107]⟩])),(5,.agg (List.toArray [.string ⟨#[99,108,105,101,110,116,32,48]⟩,.string ⟨#[100,111,110,101,32,50,32,49,32,49,32,49,32,58,118]⟩])),(6,.agg (List.toArray [.string ⟨#[99,104,97,105,110]⟩,.string ⟨#[101,112,111,99,104,32,49,32,109,101,109,98,101,114,115,32,48,64,49]⟩])),(7,.agg (List.toArray [.string ⟨#[99,114,97,115,104,32,57]⟩,.string ⟨#[101,114,114,111,114,32,52]⟩])),(8,.agg (List.toArray [.string ⟨#[104,101,108,108,111]⟩,.string ⟨#[63]⟩]))]) (flat um pg) Z Z Z Z Z) ?_)
 refine VG (VO.alloc Z fun tb=>?_)
 refine VG (VT (vs:=flat um pg) (cs':=flat um pg) 0 Z Z Z Z (NR _) Z Z Z ?_)
 refine ae ?_
 refine VC.loop (σ:=Nat) (fun k=>[(1,pV d),(3,pV tb),(4,.int .i64 (k:Int))]) (fun k=>[pt tb (flat um pg) M3,pt d D Cm,bx q (As k)]) (fun k=>k≤9) (fun k=>9-k) 0
  (bK _) aF (aZ [0,0,0]).ah ?_
 intro k hk
 refine ae ?_
 refine CP (p:=(k:Int)<9) Z (fun h1=>CK ?_) (fun h1=>CX ?_)
 rotate_left
 ·refine ae ?_
  exact CR (al.tmp 0 Z Z aa.nil.ah ⟨rfl,Z⟩)
 have hkl:k<pg.length:=by show k<9;omega
 obtain⟨s,t,hst⟩:∃s t,pg[k]?=some (s,t):=⟨_,_,GE hkl⟩
 obtain⟨hc0,hc1⟩:=Qn hst
 have hb:(t.toList == t.toList)=true:=by simp
 refine ae ?_
 refine CD (ts 0 5 (ts 6 4 (.only 5 (ts 10 1 .nil)))) ym yo ?_
 refine bV ?_
 refine AG (AI Z (iu k Z Z Z Z Z Z hkl) ?_)
 refine Bg ?_
 refine yG (yD 0 Z Z Z Z hc0 ?_)
 refine bV ?_
 refine AG (AI Z (iu k Z Z Z Z Z Z hkl) ?_)
 refine Bh ?_
 refine yG (yD 0 Z Z Z Z hc1 ?_)
 refine bV ?_
 refine AG (AQ 2 Z (fun Fr w hF hs hS=>Ql (hS.ar 1 Z) hD (hg.st hF hs) hst) Z Z (ψ:=fun v H=>v=.string t∧H=bx q (As (k+1))) yz ?_ ?_)
 ·rintro _ _ ⟨rfl,rfl⟩
  exact(by(try refine Pd.st ?_);(repeat(first|exact Pd.nil|exact Pd.fnil|refine Pd.inner ?_|refine Pd.skip yo ?_|refine zf (an.ar (an.one 0 Z hc1) Z) ?_|refine zf (an.ar (an.one 0 Z hc0) Z) ?_|refine zf ((an.one 0 Z hc1)) ?_|refine zf ((an.one 0 Z hc0)) ?_|refine zc (an.ar (an.one 0 Z hc1) Z) ?_|refine zc (an.ar (an.one 0 Z hc0) Z) ?_|refine zc ((an.one 0 Z hc1)) ?_|refine zc ((an.one 0 Z hc0)) ?_)))
 rintro _ _ ⟨rfl,rfl⟩
 refine bV ?_
 refine VC.kG (congrArg (fun b=>some (Value.bool !b)) hb) (CK ?_)
 refine fx ?_
 exact⟨k+1,by dsimp only;omega,by dsimp only;omega,SC Z (SC Z (Sub.int Z yd (SN _))),ER⟩
end Cl
namespace Conf
open Go Vg T Sched
attribute [local irreducible] VO VC VA
def win(x lo hi:Int):Bool:=decide (lo≤x)&&decide (x≤hi)
theorem uS(x lo hi:Int):aq Tryz.prog 14 [.int .i64 x,.int .i64 lo,.int .i64 hi] Fr w [] (fun v L=>v=.bool (win x lo hi)∧L=[]):=by
 refine TF 15 Tryz.func14 Z ym aw Z Z ?_
 refine aj ?_
 refine VG (VO.split 10 Z Z (fun h1=>?_) (fun h1=>?_))
 ·refine aj ?_
  exact CR (al.bool 6 Z Z (by simp only[win,h1,qY]) ER ⟨rfl,Z⟩)
 ·refine aj ?_
  exact CR (al.bool 6 Z Z (by simp only[win,h1,fK]) ER ⟨rfl,Z⟩)
def nw(c:bn):Bool:=win c.nodes 1 6&&win c.chain 1 c.nodes&&win c.bt 1 6&&win c.qs.length 1 4
def DV(c:bn):Bool:=nw c&&c.qs.all fun q=>win q 96 65536
def iz(c:bn):Bool:=DV c&&win c.queue 1 16&&win c.gg 1 16&&win c.reads 1 16&&win c.link 4 64&&win c.ei 4 64&&win c.timeout 4 64&&win c.eR 0 16&&win c.dQ 1 1099511627776
theorem mD{x lo hi:Int}(h:lo≤hi):x=aD x lo hi↔win x lo hi=true:=by
 simp only[win,dG,decide_eq_true_eq]
 exact⟨fun e=>by have:=kn (x:=x) h;omega,fun⟨h1,h2⟩=>(Q7 h1 h2).symm⟩
theorem Je{qs:List Int}:qs=fF qs↔win qs.length 1 4=true∧(qs.all fun q=>win q 96 65536)=true:=by
 constructor
 ·intro e
  have hl:=wM qs
  rw[←e] at hl
  refine⟨by simp[win];omega,?_⟩
  rw[kU]
  intro q hq
  rw[e] at hq
  obtain⟨y,_,rfl⟩:=eC.1 hq
  have:=kn (x:=y) (lo:=96) (hi:=65536) yd
  simp[win,jk,this]
 ·rintro⟨h1,h2⟩
  simp only[win,dG,decide_eq_true_eq] at h1
  have e:qs.take 4=qs:=p4 yd
  have hne:qs≠[]:=fun e=>by rw[e] at h1;simp at h1
  unfold fF dL
  rw[e,if_neg hne]
  rw[kU] at h2
  have:∀x∈qs,jk x=x:=fun x hx=>((mD yd).2 (h2 x hx)).symm
  rw[List.map_congr_left this];simp
theorem Js(c:bn):c=ct c↔iz c=true:=by
 simp only[iz,DV,nw,dG]
 rw[←mD (x:=c.nodes) yd,←mD (x:=c.bt) yd,←mD (x:=c.queue) yd,←mD (x:=c.gg) yd,←mD (x:=c.reads) yd,←mD (x:=c.link) yd,←mD (x:=c.ei) yd,←mD (x:=c.timeout) yd,←mD (x:=c.eR) yd,←mD (x:=c.dQ) yd]
 constructor
 ·intro e
  have hn:c.nodes=aD c.nodes 1 6:=congrArg bn.nodes e
  have hn1:=kn (x:=c.nodes) (lo:=1) (hi:=6) yd
  have hch:c.chain=aD c.chain 1 (aD c.nodes 1 6):=congrArg bn.chain e
  rw[←hn] at hch hn1
  have hqs:c.qs=fF c.qs:=congrArg bn.qs e
  obtain⟨hq1,hq2⟩:=Je.1 hqs
  exact⟨⟨⟨⟨⟨⟨⟨⟨⟨⟨⟨⟨hn,(mD hn1.1).1 hch⟩,congrArg bn.bt e⟩,hq1⟩,hq2⟩,congrArg bn.queue e⟩,congrArg bn.gg e⟩,congrArg bn.reads e⟩,congrArg bn.link e⟩,congrArg bn.ei e⟩,congrArg bn.timeout e⟩,congrArg bn.eR e⟩,congrArg bn.dQ e⟩
 ·rintro⟨⟨⟨⟨⟨⟨⟨⟨⟨⟨⟨⟨hn,hch⟩,hcl⟩,hq1⟩,hq2⟩,h4⟩,h5⟩,h6⟩,h7⟩,h8⟩,h9⟩,h10⟩,h11⟩
  have hn1:=kn (x:=c.nodes) (lo:=1) (hi:=6) yd
  have hch2:c.chain=aD c.chain 1 (aD c.nodes 1 6):=by
   rw[←hn] at hn1 ⊢;exact(mD hn1.1).2 hch
  exact G3 hn hch2 hcl (Je.2 ⟨hq1,hq2⟩) h4 h5 h6 h7 h8 h9 h10 h11
theorem Sc(c:bn)(a:Option Addr)(cap:Nat)(hq:fT Fr w a c.qs)(hl:c.qs.length≤1000):aq Tryz.prog 8 [.agg (c.cells a cap).toArray] Fr w []
  (fun v L=>v=.int .i64 (jz c)∧L=[]):=by
 refine TF 85 Tryz.func8 Z ym aw Z Z ?_
 refine CS (CG (VG (VB (vs:=c.cells a cap) Z fun x=>VG (VN ?_))))
 refine VC.meet (σ:=Bool) (fun b=>[(1,pV x),(3,.bool b)]) (fun _=>[pt x (c.cells a cap) 24]) (fun b=>b=nw c) ?_ ?_
 ·refine CG ?_
  refine nN ?_
  refine VG (VO.split 8 Z Z (fun h0=>?_) (fun h0=>?_))
  rotate_left
  ·refine VG (VY 15 false Z Z ?_)
   refine VG (VY 20 false Z Z ?_)
   refine VG (VN ⟨false,?_,aF,ER⟩)
   show false=nw c
   simp only[nw,h0,gj,fK]
  refine nN ?_
  refine VG (VO.split 15 Z Z (fun h1=>?_) (fun h1=>?_))
  rotate_left
  ·refine VG (VY 20 false Z Z ?_)
   refine VG (VN ⟨false,?_,aF,ER⟩)
   show false=nw c
   simp only[nw,h1,gj,fK]
  refine nN ?_
  refine VG (VO.split 20 Z Z (fun h2=>?_) (fun h2=>?_))
  rotate_left
  ·refine VG (VN ⟨false,?_,aF,ER⟩)
   show false=nw c
   simp only[nw,h2,gj,fK]
  refine nN ?_
  refine VG (VN ⟨win c.qs.length 1 4,?_,aF,ER⟩)
  show _=nw c
  simp only[nw,h0,h1,h2,qY]
 rintro b0 hb0
 refine VC.meet (σ:=Bool) (fun b=>[(1,pV x),(3,.bool b)]) (fun _=>[pt x (c.cells a cap) 24]) (fun b=>b=DV c) ?_ ?_
 ·refine aj ?_
  refine VC.loop (σ:=Nat×Bool) (fun y=>[(1,pV x),(3,.bool y.2),(4,.int .i64 y.1)]) (fun _=>[pt x (c.cells a cap) 24]) (fun y=>y.1≤c.qs.length∧y.2=(nw c&&(c.qs.take y.1).all fun q=>win q 96 65536)) (fun y=>c.qs.length-y.1) (0,b0) ⟨bK _,by simp[hb0]⟩ aF ER ?_
  rintro⟨i,b⟩ ⟨hi,hb⟩
  dsimp only at hi hb ⊢
  refine aj ?_
  refine CP Z (fun h1=>CK ?_) (fun h1=>CX ?_)
  ·have hi2:i<c.qs.length:=by omega
   obtain⟨qb,qo,hqa,hFq,hcq⟩:=hq.at_ (fun e=>by rw[e] at hi2;simp at hi2)
   have hy:=GE hi2
   generalize c.qs[i]=y at hy
   have hsl:some (Value.slice a c.qs.length cap)=some (Value.slice (some ⟨qb,qo,none⟩) c.qs.length cap):=by rw[hqa]
   have hall:((c.qs.take (i+1)).all fun q=>win q 96 65536)=(((c.qs.take i).all fun q=>win q 96 65536)&&win y 96 65536):=by rw[fS,hy,xF];simp
   refine aj ?_
   refine VG (VO.split 34 Z Z (fun h2=>?_) (fun h2=>VG (VN ?_)))
   ·subst h2
    refine aj ?_
    refine VG (VI (dU i hsl Z Z Z Z Z hi2) ?_)
    refine VG (VO.load Z Z (an.rd (v:=.int .i64 y) hFq (by show w.cell? ⟨qb,qo+i*1,none⟩=_;rw[oO];exact hcq i y hy)) ?_)
    refine VG (VO.iY (fun Fr w=>uS Fr w _ _ _) Z (VG (VN ?_)))
    refine gG ?_
    refine⟨(i+1,win y 96 65536),⟨hi2,?_⟩,by dsimp only;omega,aF,ER⟩
    dsimp only
    rw[hall,←Bool.and_assoc,←hb,qY]
   ·subst h2
    refine gG ?_
    refine⟨(i+1,false),⟨hi2,?_⟩,by dsimp only;omega,aF,ER⟩
    dsimp only
    rw[hall,←Bool.and_assoc,←hb,fK]
  ·have hi2:i=c.qs.length:=by omega
   subst hi2
   rw[jR] at hb
   exact⟨b,hb,aF,ER⟩
 rintro b1 hb1
 refine VC.meet (σ:=Bool) (fun b=>[(3,.bool b)]) (fun _=>[]) (fun b=>b=iz c) ?_ ?_
 rotate_left
 ·rintro b hb
  refine CS (CS (CG (VG (VN ?_))))
  refine VC.ey Z (fun h=>?_) (fun h=>CK ?_)
  ·have hc:¬c=ct c:=fun e=>by rw[(Js c).1 e] at hb;rw[hb] at h;cases h
   refine aj ?_
   exact CR (al.int 2 Z Z (by rw[jz,if_neg hc]) ER ⟨rfl,Z⟩)
  ·have hc:c=ct c:=(Js c).2 (by rw[←hb];exact h)
   refine aj ?_
   exact CR (al.int 2 Z Z (by rw[jz,if_pos hc]) ER ⟨rfl,Z⟩)
 refine CG ?_
 refine VG (VO.split 43 Z Z (fun h0=>?_) (fun h0=>?_))
 rotate_left
 ·refine VG (VY 48 false Z Z ?_)
  refine VG (VY 53 false Z Z ?_)
  refine VG (VY 58 false Z Z ?_)
  refine BF ?_
  refine vk ?_
  refine VG (VN ⟨false,?_,aF,aa.nil.ah⟩)
  show false=iz c
  rw[iz,←hb1,h0];simp only[fK]
 refine nN ?_
 refine VG (VO.split 48 Z Z (fun h1=>?_) (fun h1=>?_))
 rotate_left
 ·refine VG (VY 53 false Z Z ?_)
  refine VG (VY 58 false Z Z ?_)
  refine BF ?_
  refine vk ?_
  refine VG (VN ⟨false,?_,aF,aa.nil.ah⟩)
  show false=iz c
  simp only[iz,h1,gj,fK]
 refine nN ?_
 refine VG (VO.split 53 Z Z (fun h2=>?_) (fun h2=>?_))
 rotate_left
 ·refine VG (VY 58 false Z Z ?_)
  refine BF ?_
  refine vk ?_
  refine VG (VN ⟨false,?_,aF,aa.nil.ah⟩)
  show false=iz c
  simp only[iz,h2,gj,fK]
 refine nN ?_
 refine VG (VO.split 58 Z Z (fun h3=>?_) (fun h3=>?_))
 rotate_left
 ·refine BF ?_
  refine vk ?_
  refine VG (VN ⟨false,?_,aF,aa.nil.ah⟩)
  show false=iz c
  simp only[iz,h3,gj,fK]
 refine nN ?_
 refine VG (VO.split 63 Z Z (fun h4=>?_) (fun h4=>?_))
 rotate_left
 ·refine EV ?_
  refine vk ?_
  refine VG (VN ⟨false,?_,aF,aa.nil.ah⟩)
  show false=iz c
  simp only[iz,h4,gj,fK]
 refine nN ?_
 refine VG (VO.split 68 Z Z (fun h5=>?_) (fun h5=>?_))
 rotate_left
 ·refine vk ?_
  refine VG (VN ⟨false,?_,aF,aa.nil.ah⟩)
  show false=iz c
  simp only[iz,h5,gj,fK]
 refine nN ?_
 refine VG (VO.split 73 Z Z (fun h6=>?_) (fun h6=>?_))
 rotate_left
 ·refine LY ?_
  refine VG (VN ⟨false,?_,aF,aa.nil.ah⟩)
  show false=iz c
  simp only[iz,h6,gj,fK]
 refine nN ?_
 refine VG (VO.split 78 Z Z (fun h7=>?_) (fun h7=>?_))
 rotate_left
 ·refine VG (VN ⟨false,?_,aF,aa.nil.ah⟩)
  show false=iz c
  simp only[iz,h7,gj,fK]
 refine nN ?_
 refine VG (VN ⟨win c.dQ 1 1099511627776,?_,aF,aa.nil.ah⟩)
 show _=iz c
 rw[iz,←hb1,h0]
 simp only[h1,h2,h3,h4,h5,h6,h7,qY]
end Conf
namespace Cl
open Go Vg T Api Ch Rep Conf Lg Rd Sched LibC
attribute [local irreducible] VO VC VA
def vQ:List Value:=zC.cells none 0 ++ [.pointer none]
theorem Gv{Fr Fr':Nat→Prop}{w w':World}{b:Nat}{cs:List Value}(h:a7 Fr w b cs)(hF:∀b,Fr b→Fr' b)(hk:cB Fr w w'):a7 Fr' w' b cs:=⟨hF _ h.fr,by
 obtain⟨t,fz,g⟩:=h.at_
 exact⟨t,fz,(hk.block b h.fr).trans g⟩⟩
theorem Ac:(!(qB.toList == (ByteArray.mk #[63]).toList))=false:=by rw[Kl,DT (show qB=⟨#[63]⟩ from rfl)];rfl
theorem Od(c:bn){ca:Option Addr}{cc:Nat}(hq:fT Fr w ca c.qs)(hcc:c.qs.length≤cc)(line:ByteArray)(hg:iE Fr w):
  aq Tryz.prog 3 [.agg (c.cells ca cc).toArray,.string line] Fr w [] (fun v L=>v=.bool true∧L=[]):=by
 refine TF 58 Tryz.func3 Z ym aw Z Z ?_
 refine CS (CG (VG (VB (vs:=c.cells ca cc) Z fun b1=>?_)))
 refine aj ?_
 by_cases h1:(20:Int)<c.qs.length
 ·refine VG (VY 13 true Z (DT h1) ?_)
  refine pW ?_
  refine Bm ?_
  refine ae ?_
  exact uU
 refine VG (VY 13 false Z (DF h1) ?_)
 refine au ?_
 refine CP (p:=(100:Int)<line.size) Z (fun h2=>?_) (fun h2=>CK ?_)
 ·refine ae ?_
  refine Bm ?_
  refine ae ?_
  exact uU
 refine ae ?_
 refine VC.loop (σ:=Nat×Nat) (fun s=>[(2,pV b1),(1,.string line),(5,if s.1=0 then .pointer none else .pointer (some ⟨s.2,0,none⟩)),(6,.int .i64 (s.1:Int))]) (fun s=>pt b1 (c.cells ca cc) sE::(if s.1=0 then [] else [pt s.2 vQ Cm])) (fun s=>s.1≤2) (fun s=>2-s.1) (0,0)
  (bK _) aF ER ?_
 rintro⟨k,z⟩ hk
 dsimp only at hk
 match k,hk with
 | 0,_=>
  refine BH ?_
  refine ae ?_
  refine VG (VV (fun Fr w hF hw _=>yP Fr w line (vO Fr w) (fun _ _=>vO _ _)) Z ?_)
  refine ae ?_
  refine VG (VY 27 false Z Ac ?_)
  refine au ?_
  refine VG (VV (fun Fr w hF hw _=>yP Fr w _ (vO Fr w) (fun _ _=>vO _ _)) Z ?_)
  refine au ?_
  refine VG (VY 32 false Z Ac ?_)
  refine au ?_
  refine VG (VV (fun Fr w hF hw _=>vO Fr w) Z ?_)
  refine si ?_
  refine VG (VI (LB (pv:=[]) vQ Z Z Z ym Z) ?_)
  refine VG (VB (vs:=vQ) Z fun z=>?_)
  refine ae ?_
  refine u5 ?_
  refine ae ?_
  exact⟨(1,z),Nat.le_succ 1,xM 1,aF,(aZ [1,0]).ah⟩
 | 1,_=>
  refine BH ?_
  refine ae ?_
  refine VG (VV (fun Fr w hF hw hS=>yP Fr w line (tZ Fr w (hS.ar 1 Z) Z) (fun hF hk=>tZ _ _ (Gv (hS.ar 1 Z) hF hk) Z)) Z ?_)
  refine ae ?_
  refine VG (VY 27 false Z Ac ?_)
  refine au ?_
  refine VG (VV (fun Fr w hF hw hS=>yP Fr w _ (tZ Fr w (hS.ar 1 Z) Z) (fun hF hk=>tZ _ _ (Gv (hS.ar 1 Z) hF hk) Z)) Z ?_)
  refine au ?_
  refine VG (VY 32 false Z Ac ?_)
  refine au ?_
  refine VG (VV (fun Fr w hF hw hS=>tZ Fr w (hS.ar 1 Z) (u:=.pointer none) Z) Z ?_)
  refine si ?_
  refine VG (VI (LB (pv:=[]) vQ Z Z Z ym Z) ?_)
  refine VG (VB (vs:=vQ) Z fun z2=>?_)
  refine ae ?_
  refine u5 ?_
  refine ae ?_
  exact⟨(2,z2),NR _,nQ,aF,(aZ [1,0]).ah⟩
 | 2,_=>
  refine ae ?_
  refine r_ ?_
  refine ae ?_
  refine VG (VL 0 (c.cells ca cc) Z Z Z Z ?_)
  refine VG (VK (Lc:=[]) (fun Fr w hF hs _=>Ha Fr w c (lS hq hF hs) hcc) Z Z ?_)
  intro v L1 hv
  by_cases hf:c=ct c
  ·rw[if_pos hf] at hv
   obtain⟨d,q,D,hD,rfl,rfl⟩:=hv
   refine ae ?_
   refine VG (VL 2 (c.cells ca cc) Z Z Z Z ?_)
   refine LZ ?_
   rw[show jz c=0 from if_pos hf]
   refine ae ?_
   refine VG (VY 48 true Z Z ?_)
   refine au ?_
   refine VG (VY 55 true Z Z ?_)
   refine au ?_
   refine Bm ?_
   refine au ?_
   exact uU
  ·rw[if_neg hf] at hv
   obtain⟨rfl,rfl⟩:=hv
   refine ae ?_
   refine VG (VL 0 (c.cells ca cc) Z Z Z Z ?_)
   refine LZ ?_
   rw[show jz c=2 from if_neg hf]
   refine ae ?_
   refine VG (VY 48 true Z Z ?_)
   refine au ?_
   refine VG (VY 55 true Z Z ?_)
   refine au ?_
   refine Bm ?_
   refine au ?_
   exact uU
end Cl
namespace Vg
open Go Go.ChangeShapes Go.WideShapes Go.ChangeAt Go.RowKit
theorem J7{H:Type}{enc:TypeId×Value→H}{P:Program}(hl:laidOutB P=true){W W':World}(hb:Below W.heap.size W W'):
  ∀{ts:List TypeId} {vs:List Value} {ds:List (DataW H)} {ps:List MemPlace},(∀t∈ts,P.readableRec t=true∧t<P.types.size) →
   DataW.TrodAll enc P W 0 (fun _=>true) true ts vs ds ps→DataW.TrodAll enc P W' 0 (fun b=>decide (b<W.heap.size)) true ts vs ds ps
 | [],vs,ds,ps,_,h=>by
  obtain⟨rfl,rfl,rfl⟩:=trodAll_nil h
  exact trodAll_mk0
 | t::ts,vs,ds,ps,ht,h=>by
  obtain⟨v,vs',d,ds',p,q,rfl,rfl,rfl,h0,r0⟩:=trodAll_cons h
  have lt0:∀x∈p,x.block<W.heap.size:=by obtain⟨m,hm⟩:=h0;exact DataW.trod_lt m _ _ _ hm
  have h1:=ht t yf
  exact trodAll_cons_mk (Below.trod hl h1.1 h1.2 h0 hb lt0) (J7 hl hb (fun t h=>ht t ya) r0)
theorem J8{H:Type}{enc:TypeId×Value→H}{P:Program}{W:World}{b:Nat}{sp:Nat→Bool}{hd:Bool}:
  ∀{ts:List TypeId} {vs:List Value} {ds:List (DataW H)} {ps:List MemPlace},DataW.TrodAll enc P W b sp hd ts vs ds ps→ds.length=ts.length
 | [],vs,ds,ps,h=>by
  obtain⟨rfl,rfl,rfl⟩:=trodAll_nil h
  rfl
 | t::ts,vs,ds,ps,h=>by
  obtain⟨v,vs',d,ds',p,q,rfl,rfl,rfl,h0,r0⟩:=trodAll_cons h
  simp[J8 r0]
theorem PY{H:Type}{enc:TypeId×Value→H}{P:Program}{f:Func}{s:ChangeSpec}(hl:laidOutB P=true)(hts:∀t∈f.params.toList,P.readableRec t=true∧t<P.types.size)
  (hv:s.vars=[]) {tb:TypeId} (hres:f.resultTypes=#[tb]) (hbool:P.underlying tb=some .bool)
  (hfn:∀ds:List (DataW H),ds.length=f.params.toList.length→s.fn H (ds ++ [])={ results:=[.lit (.bool true)],args:=ds })
  {W W':World} {args:Array Value} {ds gs:List (DataW H)} {before:List MemPlace} (hW:DataW.Whole enc P f.params.toList s.vars false W args.toList ds gs before) (bel:Below W.heap.size W W'):
  s.post enc P f false true false false W args (.bool true) W':=by
 have hW':=hW
 obtain⟨p,q,hA,hV,rfl,_,_⟩:=hW
 rw[hv] at hV
 obtain⟨rfl,rfl⟩:=trodVars_none hV
 have e:=hfn ds (J8 hA)
 refine⟨ds,[],p ++ [],[],p,[],hW',?_,?_,?_,bel.frame _,fun h=>by cases h⟩
 ·rw[e,hres];exact trodAll_mk1 (shut_bool hbool _)
 ·rw[e];exact J7 hl bel hts hA
 ·rw[e,hv];rfl
end Vg
namespace Vg
open Go Go.ChangeShapes Go.WideShapes Go.ChangeAt Go.RowKit
section
variable {H:Type} (enc:TypeId×Value→H) (P:Program) (w:World) (base:Nat) (spare:Nat→Bool) (held:Bool)
def p_(t:TypeId)(v:Value):Prop:=∃fuel x,DataW.trod enc P w base spare held fuel t [v]=some x
def sH(rec:TypeId→Option (List TypeId)):List Field→Nat→Option (List TypeId)
 | [],_=>some []
 | f::fs,off=>if f.offset=off then match rec f.type with
   | some l=>if P.cellsOf f.type=l.length then (sH rec fs (off+l.length)).map (l ++ ·) else none
   | none=>none
  else none
def rG:Nat→TypeId→Option (List TypeId)
 | 0,_=>none
 | n+1,t=>match P.underlying t with
  | some (.struct fs)=>match sH P (rG n) fs.toList 0 with
   | some l=>if P.cellsOf t=l.length then some l else none
   | none=>none
  | some (.int _)=>some [t]
  | some .bool=>some [t]
  | some .string=>some [t]
  | some (.slice _)=>some [t]
  | some (.pointer _)=>some [t]
  | _=>none
end
section
variable {H:Type} {enc:TypeId×Value→H} {P:Program} {w:World} {base:Nat} {spare:Nat→Bool} {held:Bool}
theorem p_.int{t:TypeId}{v:Value}{k:IntKind}(h:p_ enc P w base spare held t v)(ht:P.underlying t=some (.int k)):∃n,v=.int k n∧(Lit.int k n).wf=true:=by
 obtain⟨fuel,x,h⟩:=h
 obtain⟨n,e,_,hw⟩:=DataW.trod_int ht h
 exact⟨n,(List.cons.inj e).1,hw⟩
theorem Hy{rec:TypeId→Option (List TypeId)}{cs:List Value}{n:Nat}
  (hrec:∀(t:TypeId) (ls:List TypeId),rec t=some ls→∀(cs:List Value) x,DataW.trod enc P w base spare held n t cs=some x→cs.length=ls.length∧∀(i:Nat) (v:Value) (u:TypeId),cs[i]?=some v→ls[i]?=some u→p_ enc P w base spare held u v):
  ∀(fs:List Field) (off:Nat) (ls:List TypeId),sH P rec fs off=some ls→(∀f∈fs,∃y,DataW.trod enc P w base spare held n f.type ((cs.drop f.offset).take (P.cellsOf f.type))=some y) →
   ∀(i:Nat) (v:Value) (u:TypeId),cs[off+i]?=some v→ls[i]?=some u→p_ enc P w base spare held u v
 | [],off,ls,h,_,i,v,u,_,hu=>by
  obtain rfl:ls=[]:=by simpa[sH] using h.symm
  simp at hu
 | f::fs,off,ls,h,hf,i,v,u,hv,hu=>by
  simp only[sH] at h
  split at h
  ·rename_i hoff
   split at h
   ·rename_i l hl
    split at h
    ·rename_i hc
     cases hr:sH P rec fs (off+l.length) with
     | none=>rw[hr] at h;cases h
     | some ls'=>
      rw[hr] at h
      obtain rfl:l++ls'=ls:=by simpa using h
      obtain⟨y,hy⟩:=hf f yf
      obtain⟨h1,h2⟩:=hrec f.type l hl _ y hy
      by_cases hi:i<l.length
      ·refine h2 i v u ?_ (by rwa[tJ hi] at hu)
       rw[p3,if_pos yd,qZ,hoff];exact hv
      ·rw[vp yd] at hu
       refine Hy hrec fs (off+l.length) ls' hr (fun g hg=>hf g (by simp[hg])) (i-l.length) v u ?_ hu
       rw[←hv];congr 1;omega
    ·cases h
   ·cases h
  ·cases h
theorem CA:∀(n:Nat) (t:TypeId) (ls:List TypeId),rG P n t=some ls→∀(fuel:Nat) (cs:List Value) x,DataW.trod enc P w base spare held fuel t cs=some x →
  cs.length=ls.length∧∀(i:Nat) (v:Value) (u:TypeId),cs[i]?=some v→ls[i]?=some u→p_ enc P w base spare held u v
 | 0,t,ls,h,_,_,_,_=>by simp[rG] at h
 | n+1,t,ls,h,fuel,cs,x,hx=>by
  have one:∀v,cs=[v]→ls=[t]→cs.length=ls.length∧∀(i:Nat) (v:Value) (u:TypeId),cs[i]?=some v→ls[i]?=some u→p_ enc P w base spare held u v:=by
   intro v h1 h2
   subst h1;subst h2
   refine⟨rfl,fun i v' u hv hu=>?_⟩
   match i,hv,hu with
   | 0,hv,hu=>
    obtain rfl:=jS hv
    obtain rfl:=jS hu
    exact⟨fuel,x,hx⟩
   | i+1,hv,_=>cases hv
  simp only[rG] at h
  split at h
  ·rename_i fs ht
   cases hr:sH P (rG P n) fs.toList 0 with
   | none=>rw[hr] at h;cases h
   | some l=>
    rw[hr] at h
    dsimp only at h
    split at h
    ·rename_i hc
     obtain rfl:=jS h
     obtain⟨xs,m,_,_,hl,hlen,hfs⟩:=DataW.trod_struct ht hx
     refine⟨hl.trans hc,fun i v u hv hu=>?_⟩
     refine Hy (n:=m) (cs:=cs) (fun t ls h1 cs x h2=>CA n t ls h1 m cs x h2) fs.toList 0 l hr (fun f hf=>?_) i v u (by rwa[bZ]) hu
     obtain⟨j,hj⟩:=vq hf
     have hj':fs[j]?=some f:=by simpa using hj
     have hjl:j<xs.length:=by
      have:=(pY.1 hj').1
      omega
     exact⟨xs[j],by rw[hfs j f hj',GE hjl]⟩
    ·cases h
  ·rename_i k ht
   obtain⟨a,e,_⟩:=DataW.trod_int ht hx
   exact tA
  ·rename_i ht
   obtain⟨a,e,_⟩:=DataW.trod_bool ht hx
   exact tA
  ·rename_i ht
   obtain⟨a,e,_⟩:=DataW.trod_string ht hx
   exact tA
  ·rename_i e ht
   rcases DataW.trod_slice ht hx with ⟨e,_⟩ | ⟨_,_,_,_,_,_,_,e,_⟩
   ·exact tA
   ·exact tA
  ·rename_i e ht
   rcases DataW.trod_pointer ht hx with ⟨e,_⟩ | ⟨_,_,_,_,_,e,_⟩
   ·exact tA
   ·exact tA
  ·cases h
theorem GL{w:World}{a:Addr}{v:Value}(h:w.cell? a=some v):a.block<w.heap.size:=by
 unfold World.cell? at h
 cases hb:w.heap[a.block]? with
 | none=>simp[hb] at h
 | some o=>exact(pY.1 hb).1
theorem Rv{α:Type}(cells:α→List Value)(φ:α→Prop){t e:TypeId}{n:Nat}{ls:List TypeId}(ht:P.underlying t=some (.slice e))(hf:rG P n e=some ls)(hce:P.cellsOf e=ls.length)(hpos:0<ls.length)
  (hrow:∀cs,cs.length=ls.length→(∀(i:Nat) (v:Value) (u:TypeId),cs[i]?=some v→ls[i]?=some u→p_ enc P w base spare held u v)→∃x,cs=cells x∧φ x)
  {fuel:Nat} {v:Value} {x:DataW H×List MemPlace} (h:DataW.trod enc P w base spare held fuel t [v]=some x):
  ∃(a:Option Addr) (tc:Nat) (l:List α),v=.slice a l.length tc∧(l.length≤tc∧l.length≤maxLen)∧(∀x∈l,φ x)∧(l≠[]→∃b off,a=some ⟨b,off,none⟩∧b<w.heap.size∧∀i x,l[i]?=some x→∀j v,(cells x)[j]?=some v→w.cell? ⟨b,off+i*ls.length+j,none⟩=some v):=by
 rcases Go.Deep.open_slice ht h with ⟨e,_⟩ | ⟨a',len,cap,m,n',D,Pl,e,_,hle,hcm,hm,_,hx⟩
 ·exact⟨none,0,[],(List.cons.inj e).1,⟨bK _,bK _⟩,fun x hx=>by simp at hx,fun h=>absurd Z h⟩
 ·have hlm:len≤m:=by rw[hm];split<;>omega
  rw[hce] at hx
  have key:∀i,i<len→∃y:α,φ y∧(cells y).length=ls.length∧∀j v,(cells y)[j]?=some v→w.cell? ((a'.add (i*ls.length)).add j)=some v:=by
   intro i hi
   obtain⟨cs',h1,h2⟩:=hx i yd
   obtain⟨_,hl,hc⟩:=World.cells?_some h1
   obtain⟨h3,h4⟩:=CA n _ ls hf _ _ _ h2
   obtain⟨y,rfl,hy⟩:=hrow cs' h3 h4
   refine⟨y,hy,h3,fun j v hv=>?_⟩
   have hj:j<ls.length:=by have:=(cH.1 hv).1;omega
   rw[hc j hj,hv]
  have build:∀k,k≤len→∃l:List α,l.length=k∧∀i x,l[i]?=some x→φ x∧(cells x).length=ls.length∧∀j v,(cells x)[j]?=some v→w.cell? ((a'.add (i*ls.length)).add j)=some v:=by
   intro k
   induction k with
   | zero=>intro _;exact⟨[],rfl,fun i x hx=>by simp at hx⟩
   | succ k ih=>
    intro hk
    obtain⟨l,hl,hall⟩:=ih yd
    obtain⟨y,hy⟩:=key k yd
    refine⟨l ++ [y],by simp[hl],fun i x hx=>?_⟩
    by_cases hi:i<l.length
    ·rw[tJ hi] at hx;exact hall i x hx
    ·rw[vp yd] at hx
     have hi2:i=k:=by
      have:=(cH.1 hx).1
      simp at this;omega
     subst hi2
     rw[hl,Nat.sub_self] at hx
     obtain rfl:=jS hx
     exact hy
  obtain⟨l,hl,hall⟩:=build len (NR _)
  subst hl
  refine⟨some a',cap,l,(List.cons.inj e).1,⟨by omega,by omega⟩,fun x hx=>?_,fun hne=>?_⟩
  ·obtain⟨i,hi⟩:=vq hx
   exact(hall i x hi).1
  obtain⟨ab,ao,asp⟩:=a'
  cases l with
  | nil=>exact absurd rfl hne
  | cons y l=>
   obtain⟨_,h5,h6⟩:=hall 0 y rfl
   have h0:=h6 0 _ (GE yd)
   have hsp:asp=none:=by simpa[Addr.add] using World.cell?_spot h0
   subst hsp
   refine⟨ab,ao,Z,by simpa[Addr.add] using GL h0,fun i x hx j v hv=>?_⟩
   have:=(hall i x hx).2.2 j v hv
   rwa[Addr.add_mid,Addr.add_mid] at this
end
end Vg
namespace Adm
open Go Vg Go.ChangeShapes Go.WideShapes Go.ChangeAt Go.RowKit Sched Conf
theorem NY:rG Tryz.prog 3 24=some [3,3,3,22,3,3,3,3,3,3,3,3]:=by kernel_rfl
theorem Py:rG Tryz.prog 1 3=some [3]:=by kernel_rfl
section
variable {H:Type} {enc:TypeId×Value→H} {w:World} {base:Nat} {spare:Nat→Bool} {held:Bool}
theorem Qd{v:Value}(h:p_ enc Tryz.prog w base spare held 22 v):∃a tc l,v=.slice a (l:List Int).length tc∧l.length≤tc∧fT (fun b=>b<w.heap.size) w a l:=by
 obtain⟨fuel,x,hf⟩:=h
 obtain⟨a,tc,l,e,h1,h2,h3⟩:=Rv (α:=Int) (fun x=>[.int .i64 x]) (fun _=>True) Tryz.underlying22 Py ym yn (fun cs hl hc=>by
  match cs,hl,hc with
  | [c],_,hc=>
   obtain⟨n,rfl,_⟩:=(hc 0 c _ rfl rfl).int Tryz.underlying3
   exact⟨n,Z,trivial⟩) hf
 refine⟨a,tc,l,e,h1.1,⟨fun hne=>?_⟩⟩
 obtain⟨b,off,h4,h5,h6⟩:=h3 hne
 refine⟨b,off,h4,h5,fun i v hv=>?_⟩
 have:=h6 i v hv 0 _ rfl
 simpa using this
theorem Qc{cs:List Value}(hl:cs.length=12)(h3:∀(i:Nat) (v:Value) (u:TypeId),cs[i]?=some v→([3,3,3,22,3,3,3,3,3,3,3,3]:List TypeId)[i]?=some u→p_ enc Tryz.prog w base spare held u v):
  ∃(c:bn) (a:Option Addr) (cap:Nat),cs=c.cells a cap∧c.qs.length≤cap∧fT (fun b=>b<w.heap.size) w a c.qs:=by
 match cs,hl,h3 with
 | [c0,c1,c2,c3,c4,c5,c6,c7,c8,c9,c10,c11],_,h3=>
 obtain⟨n0,rfl,_⟩:=(h3 0 c0 _ rfl rfl).int Tryz.underlying3
 obtain⟨n1,rfl,_⟩:=(h3 1 c1 _ rfl rfl).int Tryz.underlying3
 obtain⟨n2,rfl,_⟩:=(h3 2 c2 _ rfl rfl).int Tryz.underlying3
 obtain⟨a3,cap3,l3,rfl,hc3,hq3⟩:=Qd (h3 3 c3 _ rfl rfl)
 obtain⟨n4,rfl,_⟩:=(h3 4 c4 _ rfl rfl).int Tryz.underlying3
 obtain⟨n5,rfl,_⟩:=(h3 5 c5 _ rfl rfl).int Tryz.underlying3
 obtain⟨n6,rfl,_⟩:=(h3 6 c6 _ rfl rfl).int Tryz.underlying3
 obtain⟨n7,rfl,_⟩:=(h3 7 c7 _ rfl rfl).int Tryz.underlying3
 obtain⟨n8,rfl,_⟩:=(h3 8 c8 _ rfl rfl).int Tryz.underlying3
 obtain⟨n9,rfl,_⟩:=(h3 9 c9 _ rfl rfl).int Tryz.underlying3
 obtain⟨n10,rfl,_⟩:=(h3 10 c10 _ rfl rfl).int Tryz.underlying3
 obtain⟨n11,rfl,_⟩:=(h3 11 c11 _ rfl rfl).int Tryz.underlying3
 exact⟨⟨n0,n1,n2,l3,n4,n5,n6,n7,n8,n9,n10,n11⟩,a3,cap3,Z,hc3,hq3⟩
theorem Rs{P:Program}{r:Reach}{t:TypeId}{v:Value}{fs:Array Field}(ht:P.underlying t=some (.struct fs))(h:Value.okWide P w r base t v):∃cs:List Value,v=.agg cs.toArray:=by
 unfold Value.okWide at h
 rw[ht] at h
 obtain⟨cs,h,_⟩:=h
 exact⟨cs.toList,by rw[h]⟩
theorem Ru{base0:Nat}{v:Value}{d:DataW H}{ps:List MemPlace}(hval:Value.okWide Tryz.prog w .any base0 24 v)(h:DataW.Trod enc Tryz.prog w base spare held 24 v d ps):
  ∃(c:bn) (a:Option Addr) (cap:Nat),v=.agg (c.cells a cap).toArray∧c.qs.length≤cap∧fT (fun b=>b<w.heap.size) w a c.qs:=by
 obtain⟨cs,rfl⟩:=Rs Tryz.underlying24 hval
 obtain⟨fuel,hf⟩:=h
 obtain⟨h1,h2⟩:=CA 3 _ _ NY fuel cs _ hf
 obtain⟨c,a,cap,rfl,h3,h4⟩:=Qc h1 h2
 exact⟨c,a,cap,Z,h3,h4⟩
end
end Adm
namespace Vg
open Go Go.ChangeShapes Go.WideShapes Go.ChangeAt Go.RowKit
theorem PN{P:Program}{W:World}{x:String×DataW Unit}{l:List (String×DataW Unit)}(h:laidMet P (x::l) W):laidMet P l W:=by
 obtain⟨ps,⟨g,t,cs,fuel,p,q,_,_,_,_,hr,rfl⟩,hn,hall⟩:=h
 exact⟨q,hr,(gy.1 hn).2.1,fun b off h=>hall b off (fL.2 (.inr h))⟩
theorem Xr{P:Program}{W:World}{laid:List (String×DataW Unit)}{nm:String}{k:IntKind}{zs:List Int}{g:Nat}{t e:TypeId}{n:Nat}(i:Nat)(hh:(laid.all fun x=>x.2.handleName?.isNone)=true)
  (hm:laid[i]?=some (nm,Lib.tabData k zs)) (hg:P.globalNamed nm=some g) (hty:(P.globals[g]?).map (·.type)=some t) (ht:P.underlying t=some (.array n e)) (he:P.underlying e=some (.int k)) (hce:P.cellsOf e=1) (hct:P.cellsOf t=n)
  (h:laidMetH P laid W):sv P (fun b=>b<W.heap.size) W nm k zs:=by
 rw[MakeChecks.laidMetH_plain _ _ _ hh] at h
 have key:∀{l:List (String×DataW Unit)} {i:Nat},laidMet P l W→l[i]?=some (nm,Lib.tabData k zs)→Lib.TabIs P W nm k zs:=by
  intro l
  induction l with
  | nil=>intro i _ hm;simp at hm
  | cons x l ih=>
   intro i hv hm
   cases i with
   | zero=>
    obtain rfl:=jS hm
    exact Lib.tabIs_of_head hg hty ht he hce hct hv
   | succ i=>exact ih (PN hv) (by simpa using hm)
 have ht2:=key h hm
 refine⟨⟨g,hg,?_⟩,ht2⟩
 unfold Lib.TabIs World.var? at ht2
 rw[hg] at ht2
 simp only[js] at ht2
 rcases Nat.lt_or_ge g W.heap.size with h' | h'
 ·exact h'
 ·rw[Array.getElem?_eq_none h'] at ht2;simp at ht2
end Vg
namespace Vg
open Go Go.ChangeShapes Go.WideShapes Go.ChangeAt Go.RowKit
theorem PZ{H:Type}{enc:TypeId×Value→H}{C:Checked}{os:Os}{f:FuncId}{fn:Func}{s:ChangeSpec}{conds:List PathCond}{laid:List (String×DataW Unit)}
  (own:ownKnob C.prog.godebug=none) (started:os.Started) (noInit:C.prog.inits.idxOf? f=none) (hfn:C.prog.funcs[f]?=some fn)
  (witness:∃(w:World) (tape:Tape) (i:Input),w.os=os∧(w.forCall tape i).Shaped C.prog∧i.vars=[]∧Input.okWide C.prog (w.forCall tape i) .any w.heap.size f i ∧
   ((s.pre enc C.prog fn conds false (w.forCall tape i).memory i.args∧laidMetH C.prog laid (w.forCall tape i).memory)∧sizedMet enc C.prog fn (OpenSpec.ofChange s) false (w.forCall tape i).memory i.args) ∧
   ({}:Assume).holds C.prog (lone (Frame.enter C.prog f i.args .normal) [] (w.forCall tape i)))
  (hl:laidOutB C.prog=true) (hts:∀t∈fn.params.toList,C.prog.readableRec t=true∧t<C.prog.types.size)
  (hv:s.vars=[]) {tb:TypeId} (hres:fn.resultTypes=#[tb]) (hbool:C.prog.underlying tb=some .bool)
  (hs:∀ds:List (DataW H),ds.length=fn.params.toList.length→s.fn H (ds ++ [])={ results:=[.lit (.bool true)],args:=ds })
  (walk:∀(W:World) (base:Nat) (args:Array Value) (ds:List (DataW H)) (ps:List MemPlace),laidMetH C.prog laid W→W.ShapedOpen C.prog →
   (∀(j:Nat) t v,fn.params[j]?=some t→args[j]?=some v→Value.okWide C.prog W .any base t v) →
   DataW.TrodAll enc C.prog W 0 (fun _=>true) true fn.params.toList args.toList ds ps→W.noneFrozen ps →
   (DataW.weightsEach C.prog fn.params.toList ds).all (·≤reachBytes)=true →
   aq C.prog f args.toList (fun b=>b<W.heap.size) W [] (fun v _=>v=.bool true)):
  ReturnsInHanded {} C os f .any (fun w args=>(s.pre enc C.prog fn conds false w args∧laidMetH C.prog laid w)∧sizedMet enc C.prog fn (OpenSpec.ofChange s) false w args) (s.post enc C.prog fn false true false false):=by
 refine returnsInHanded_of_calls own started noInit witness ?_
 intro w tape i _ hsh _ hok hpre _
 obtain⟨_,_,_,fn',hfn',_,_,_,_,hval⟩:=hok
 obtain rfl:fn'=fn:=jS (hfn'.symm.trans hfn)
 obtain⟨⟨⟨ds,gs,before,hw,hc⟩,hL⟩,hz⟩:=hpre
 have hwt:(DataW.weightsEach C.prog (fn'.params.toList++s.plain.varTypes C.prog) (ds++gs)).all (·≤reachBytes)=true:=hz.weights hw
 have hW:=DataW.Whole.of_heap (w':=w.forCall tape i) (by rfl) hw
 have hL:laidMetH C.prog laid (w.forCall tape i):=hL.of_heap (by rfl)
 generalize w.forCall tape i=W at hW hL hval hsh ⊢
 have hW2:=hW
 obtain⟨p,q,hA,hV,rfl,hfz,_⟩:=hW2
 rw[hv] at hV
 obtain⟨rfl,rfl⟩:=trodVars_none hV
 have hvt:s.plain.varTypes C.prog=[]:=by simp[ChangeSpec.plain,hv,DataSpec.varTypes]
 rw[hvt] at hwt
 simp only[bA] at hwt hfz
 have T:=walk W w.heap.size i.args ds p hL hsh hval hA hfz hwt
 have:=T.calls (fun _ h=>h) Sat.nil
 simp only[Array.toArray_toList] at this
 refine Calls.mono this fun e W' ⟨v,L',he,h1,_,hk⟩=>?_
 subst he;subst h1
 exact ChangeSpec.post_blind (PY hl hts hv hres hbool hs hW hk.below)
end Vg
namespace Scr
open Go Vg Go.ChangeShapes Go.WideShapes Go.ChangeAt Go.RowKit Api LibC
set_option maxRecDepth 100000
theorem RC:ownKnob Tryz.prog.godebug=none:=by kernel_rfl
theorem PO:laidOutB Tryz.prog=true:=by kernel_rfl
def ui:List (String×DataW Unit):=Rows.deskNoneRow.laid
theorem Oq(os:Os)(args:Array Value):laidMetH Tryz.prog ui ((World.laidAll Tryz.prog os ui).forCall (fun _ _=>0) ⟨#[],args,[]⟩).memory:=by
 rw[MakeChecks.laidMetH_plain _ _ _ ym]
 exact laidMet_laidAll args ym ym
theorem Ph{W:World}(h:laidMetH Tryz.prog ui W)(hsh:W.ShapedOpen Tryz.prog):iE (fun b=>b<W.heap.size) W:=by
 obtain⟨m,hm⟩:=Tryz.P5.s1_3 W hsh
 have hb:∀{b:Nat} {v:Value},W.cell? ⟨b,0,none⟩=some v→b<W.heap.size:=fun {b v} hc=>GL hc
 exact⟨Xr (g:=6) 2 ym ym ym ym Tryz.underlying383 Tryz.underlying283 ym ym h,⟨hb hm,m,hm⟩⟩
theorem Rw{H:Type}{enc:TypeId×Value→H}{w:World}{base base0:Nat}{spare:Nat→Bool}{held:Bool}{v:Value}{d:DataW H}{ps:List MemPlace}(hval:Value.okWide Tryz.prog w .any base0 9 v)(h:DataW.Trod enc Tryz.prog w base spare held 9 v d ps):
  ∃s,v=.string s∧s.size≤9223372036854775807:=by
 have hv:∃s,v=.string s:=okWide_string Tryz.underlying9 hval
 obtain⟨s,rfl⟩:=hv
 obtain⟨fuel,hf⟩:=h
 obtain⟨z,e,_,hs⟩:=DataW.trod_string Tryz.underlying9 hf
 have e2:Value.string s=.string z:=(List.cons.inj e).1
 cases e2
 have hm:maxLen≤9223372036854775807:=by decide
 exact⟨s,Z,by omega⟩
end Scr
set_option maxRecDepth 100000
namespace Cl
open Go Vg Go.ChangeShapes Go.WideShapes Go.ChangeAt Go.RowKit Sched Conf Api LibC
theorem Om(os:Os)(started:os.Started)(H:Type)(enc:TypeId×Value→H):
  ReturnsInHanded {} Tryz.checked os 3 .any (fun w args=>(Rows.deskNoneSpec.pre enc Tryz.prog Tryz.f3 Rows.deskNoneRow.domain false w args∧laidMetH Tryz.prog Scr.ui w)∧sizedMet enc Tryz.prog Tryz.f3 (OpenSpec.ofChange Rows.deskNoneSpec) false w args) (Rows.deskNoneSpec.post enc Tryz.prog Tryz.f3 false true false false):=by
 refine PZ (C:=Tryz.checked) Scr.RC started ym Tryz.func3
  (ChangeSpec.witness_shaped (enc:=enc) (C:=Tryz.checked) (os:=os) (X:=fun w _=>laidMetH Tryz.prog Scr.ui w) false (World.laidAll Tryz.prog os Scr.ui) #[.agg #[.int .i64 0,.int .i64 0,.int .i64 0,.slice none 0 0,.int .i64 0,.int .i64 0,.int .i64 0,.int .i64 0,.int .i64 0,.int .i64 0,.int .i64 0,.int .i64 0],.string ⟨#[]⟩] 8 (World.laidAll_os _ _ _) (World.shaped_of_ZipB ym ym) ym ym ym (Scr.Oq os _))
  Scr.PO (by rw[Tryz.params3];simp;repeat' constructor;all_goals first | kernel_rfl | exact of_decide_eq_true ym) rfl rfl Tryz.underlying4
  (fun ds h=>by
   rw[Tryz.params3] at h
   match ds,h with
   | [d1,d2],_=>rfl) ?_
 intro W base args ds ps hL hsh hval hA _ _
 have hG:=Scr.Ph hL hsh
 rw[Tryz.params3] at hA hval
 obtain⟨v0,vs0,d0,ds0,p0,q0,hargs,rfl,rfl,h0,r0⟩:=trodAll_cons hA
 obtain⟨v1,vs1,d1,ds1,p1,q1,rfl,rfl,rfl,h1,r1⟩:=trodAll_cons r0
 obtain⟨rfl,rfl,rfl⟩:=trodAll_nil r1
 obtain rfl:args=#[v0,v1]:=by cases args;simp_all
 obtain⟨c,ca,cc,rfl,hcc,hq⟩:=Adm.Ru (hval 0 24 v0 rfl rfl) h0
 obtain⟨line,rfl,_⟩:=Scr.Rw (hval 1 9 v1 rfl rfl) h1
 have T:=Od (fun b=>b<W.heap.size) W c hq hcc line hG
 exact⟨T.yK,fun hl hs=>Calls.mono (T.calls hl hs) fun e W' ⟨v,L',h1,h2,h3,h4⟩=>⟨v,L',h1,h2.1,h3,h4⟩⟩
theorem XI{a b:Bool}(h:a=true)(g:b=true):(a&&b)=true:=by rw[h,g];rfl
theorem Oj:joinedFacts Tryz.prog 3 Tryz.f3 Rows.deskNoneSpec Rows.deskNoneRow=true:=by
 unfold joinedFacts
 repeat' (with_reducible refine XI ?_ ?_)
 all_goals (as_aux_lemma=>kernel_rfl)
theorem Ol:Rows.DeskNoneSaid:=
 OpenClaim.holds_of_wide 3 Tryz.f3 rfl rfl rfl rfl rfl rfl rfl ⟨rfl,rfl,rfl,rfl,rfl⟩ rfl rfl rfl rfl rfl (by as_aux_lemma=>kernel_rfl) Tryz.func3 Oj
  (of_decide_eq_true (by as_aux_lemma=>kernel_rfl)) (by as_aux_lemma=>unfold Func.isWrapper;first | (rw[if_pos yo];kernel_rfl) | (rw[if_neg yo];exact⟨rfl,rfl⟩))
  (fun os started H enc _=>Om os started H enc)
end Cl
end Go.Proofs.YtbmakdofbejlnaaGreatDoor
