/- Texts of the proof, put together and shortened. No condition. -/
import Derived.Test.YtkgfhabealjjpaaGreatZh2
set_option maxRecDepth 100000
set_option maxHeartbeats 16000000
set_option linter.unusedVariables false
set_option linter.unusedSectionVars false
set_option linter.unusedSimpArgs false
namespace Go.Proofs.YtkgfhabealjjpaaGreat
variable (Fr : Nat → Prop) (w : World)
namespace Rep
open Go Vg T Api Kv Ch Lg Rd Win Adm
attribute [local irreducible] VO VC VA
abbrev bQ:=Int×ay
def kT:jv:=(none,0,0)
def rG(s:bQ):List Value:=.int .i64 s.1::cM s.2 kT
abbrev gJ:TypeId:=183
abbrev CM:TypeId:=190
abbrev df:TypeId:=107
def xi(b:Nat)(S:List bQ)(x:Option Addr×Nat):List HP:=[pt b [.slice x.1 S.length x.2] CM,aA gJ 30 x.1 S.length x.2 (flat rG S)]
def aZ(b:Nat)(S:List bQ):HP:=hex fun x=>cR (xi b S x)
theorem ba.out(b:Nat)(S:List bQ):ba (ι:=Option Addr×Nat) (aZ b S) (fun _=>True) (fun x=>xi b S x):=fun w ids ⟨x,h⟩ hn=>⟨x,trivial,ids,h,hn,fun _ h=>h⟩
theorem aa.out{b:Nat}{S:List bQ}{L M:List HP}(x:Option Addr×Nat)(h:aa L (xi b S x++M)):aa L (aZ b S::M):=
 aa.ex (f:=fun x=>cR (xi b S x)) x (aa.sep (Ls:=xi b S x) h)
def ed(b:Nat):Value:=gk 97 [.pointer (some ⟨b,0,none⟩)] []
theorem si(b:Nat)(S:List bQ)(hS:S.length≤1000000)(to_:Int)(f:ay):az Tryz.prog 97 [.pointer (some ⟨b,0,none⟩),.int .i64 to_,.agg (cM f kT).toArray] Fr w [aZ b S] (fun v L=>v=.tuple #[]∧L=[aZ b (S ++ [(to_,f)])]):=by
 refine TF 18 Tryz.func97 Z ym aD Z Z ?_
 refine CS (CG (VG (VB (vs:=cM f kT) Z fun fb=>VG (VN ?_))))
 refine VC.bJ 1 Z (ba.out b S) ?_
 rintro⟨a,c⟩ -
 show VC _ _ _ [pt b [.slice a S.length c] CM,aA gJ 30 a S.length c (flat rG S),pt fb (cM f kT) cC] _
 refine CD (ts 0 8 (.only 8 (.only 9 (ts 10 2 (.only 12 .nil))))) ym yr ?_
 refine bt ?_
 refine AG (VA.dQ 2 (cM f kT) Z Z Z Z Z ?_)
 refine AG (AI Z (LB (pv:=[(0,.int .i64 to_),(1,.agg (cM f kT).toArray)]) (rG (to_,f)) Z Z Z ym Z) ?_)
 refine AG (AO (aQ.buildSlice (n:=1) (pv:=[(0,.agg (rG (to_,f)).toArray)]) (cells:=rG (to_,f)) Z Z Z Z yo (ji Z Z Z)) Z ?_ ?_)
 ·rintro _ _ ⟨nb,rfl,rfl⟩
  exact yu
 rintro _ _ ⟨nb,rfl,rfl⟩
 refine AG (AO (aQ.append (m:=1) (news:=rG (to_,f)) 2 Z Z Z Z Z Z Z (fv.pt 0 Z Z Z) Z (AE (k:=1000001) yd yo) yd) Z ?_ ?_)
 ·rintro _ _ ⟨a1,c1,rfl,hc1,rfl⟩
  exact yu
 rintro _ _ ⟨a1,c1,rfl,hc1,rfl⟩
 refine iL ?_
 refine AG (VA.st 2 (cs':=[.slice a1 (S.length+1) c1]) Z Z Z Z Z (hZ Z) Z Z yu ?_)
 refine iL ?_
 refine aq.void Z (aa.out (S:=S ++ [(to_,f)]) (a1,c1) ?_).ah ⟨rfl,Z⟩
 unfold xi
 rw[a_,jU,lZ,sv,bK]
 exact(bm [2,0])
structure av where
 id:Int
 bC:Int
 cap:Int
 iJ:Int
 ch:aW
 since:Int
 whole:Bool
 log:List bd
 an:bz
 aI:aO
 aK:e9
 start:Int
 base:Int
 linked:Bool
 dW:Int
structure mY where
 a:Option Addr
 c:Nat
 lp:Nat
 wp:Nat
 ap:Nat
 rp:Nat
def bx(R:av)(x:mY):List Value:=[.int .i64 R.id,.int .i64 R.bC,.int .i64 R.cap,.int .i64 R.iJ,.int .i64 R.ch.ar,.slice x.a R.ch.ms.length x.c,.int .i64 R.ch.drain,.int .i64 R.since,.bool R.whole,
 .pointer (some ⟨x.lp,0,none⟩),.pointer (some ⟨x.wp,0,none⟩),.pointer (some ⟨x.ap,0,none⟩),.pointer (some ⟨x.rp,0,none⟩),.int .i64 R.start,.int .i64 R.base,.bool R.linked,.int .i64 R.dW]
def vr(p:Nat)(R:av)(x:mY):List HP:=[pt p (bx R x) df,aA aU 2 x.a R.ch.ms.length x.c (flat aH R.ch.ms),bM x.lp R.log,bG x.wp R.an,bo x.ap R.aI,bH x.rp R.aK]
def bp(p:Nat)(R:av):HP:=hex fun x=>cR (vr p R x)
theorem ba.rep(p:Nat)(R:av):ba (ι:=mY) (bp p R) (fun _=>True) (fun x=>vr p R x):=fun w ids ⟨x,h⟩ hn=>⟨x,trivial,ids,h,hn,fun _ h=>h⟩
theorem aa.rep{p:Nat}{R:av}{L M:List HP}(x:mY)(h:aa L (vr p R x++M)):aa L (bp p R::M):=
 aa.ex (f:=fun x=>cR (vr p R x)) x (aa.sep (Ls:=vr p R x) h)
structure gL(Fr:Nat→Prop)(w:World)(p:Nat)(R:av)(x:mY):Prop where
 aC:bu Fr w p (bx R x)
 mem:aV aH 2 Fr w x.a R.ch.ms
 log:a8 Fr [bM x.lp R.log] w
 an:bu Fr w x.wp R.an.cells
 aI:a8 Fr [bo x.ap R.aI] w
 aK:a8 Fr [bH x.rp R.aK] w
theorem gL.oS{Fr:Nat→Prop}{w:World}{L:List HP}{p:Nat}{R:av}{x:mY}(h:a8 Fr L w)(i:Nat)(h0:L[i]?=some (pt p (bx R x) df))(h1:L[i+1]?=some (aA aU 2 x.a R.ch.ms.length x.c (flat aH R.ch.ms)))
  (h2:L[i+2]?=some (bM x.lp R.log)) (h3:L[i+3]?=some (bG x.wp R.an)) (h4:L[i+4]?=some (bo x.ap R.aI)) (h5:L[i+5]?=some (bH x.rp R.aK)):gL Fr w p R x:=
 ⟨h.aC i h0,aV.aA cn (h.at_ _ h1),h.at_ _ h2,h.aC _ h3,h.at_ _ h4,h.at_ _ h5⟩
theorem gL.vg{Fr:Nat→Prop}{w:World}{p:Nat}{R:av}(h:a8 Fr [bp p R] w):∃x,gL Fr w p R x:=by
 obtain⟨x,h⟩:=h.ex
 exact⟨x,gL.oS h.sep 0 Z Z Z Z Z Z⟩
theorem gL.of{X:Cx}{p:Nat}{R:av}{x:mY}(h:gL X.Fr X.w0 p R x){Fr':Nat→Prop}{w:World}{L:List HP}(hF:∀b,X.Fr b→Fr' b)(hs:St X L w):gL Fr' w p R x:=
 ⟨h.aC.of hF hs,aV.of h.mem hF hs,h.log.of hF hs,h.an.of hF hs,h.aI.of hF hs,h.aK.of hF hs⟩
structure kj(c:aW):Prop where
 len:c.ms.length≤1000
section
variable {p:Nat} {R:av} {x:mY} {b:Nat} {S:List bQ}
theorem tZ(h:bu Fr w p (bx R x)):az Tryz.prog 81 [.pointer (some ⟨p,0,none⟩)] Fr w [] (fun v L=>v=.bool true∧L=[]):=by
 refine TF 12 Tryz.func81 Z ym aD Z Z ?_
 refine aj ?_
 refine VG (VO.split 5 rfl rfl (fun _=>?_) (fun h=>by cases h))
 refine oA ?_
 exact vM
def av.qh(R:av):Bool:=decide (0<R.since)
theorem KH(h:bu Fr w p (bx R x)):az Tryz.prog 156 [.pointer (some ⟨p,0,none⟩)] Fr w [] (fun v L=>v=.bool R.qh∧L=[]):=by
 refine TF 8 Tryz.func156 Z ym aD Z Z ?_
 refine oA ?_
 exact vM
def av.jl(R:av)(f:ay):Bool:=f.ar == R.ch.ar
theorem KM(h:bu Fr w p (bx R x))(f:ay)(m:jv):az Tryz.prog 187 [.pointer (some ⟨p,0,none⟩),.agg (cM f m).toArray] Fr w [] (fun v L=>v=.bool (R.jl f)∧L=[]):=by
 refine TF 13 Tryz.func187 Z ym aD Z Z ?_
 refine CS (CG (VG (VB (vs:=cM f m) Z fun fb=>VG (VN ?_))))
 refine CS (CD (ts 0 9 .nil) ym yr ?_)
 refine DN ?_
 exact CR (aq.bool 4 Z Z Z aa.nil.ah ⟨rfl,Z⟩)
def oO(from_ nb:Int):Bool:=decide (0≤nb)&&(from_ == nb)
theorem FH(f n:Int):az Tryz.prog 188 [.int .i64 f,.int .i64 n] Fr w [] (fun v L=>v=.bool (oO f n)∧L=[]):=by
 refine TF 12 Tryz.func188 Z ym aD Z Z ?_
 refine aj ?_
 by_cases h1:0≤n
 ·refine VG (VY 7 true Z (DT h1) ?_)
  refine bW ?_
  exact CR (aq.bool 4 Z Z (by rw[oO,DT h1];rfl) ER ⟨rfl,Z⟩)
 ·refine VG (VY 7 false Z (DF h1) ?_)
  refine bW ?_
  exact CR (aq.bool 4 Z Z (by rw[oO,DF h1];rfl) ER ⟨rfl,Z⟩)
def av.mm(R:av):Int:=An R.ch R.id
def av.cq(R:av):Int:=Ad R.ch R.id
theorem CY(h:bu Fr w p (bx R x))(hm:aV aH 2 Fr w x.a R.ch.ms)(hc:kj R.ch):az Tryz.prog 189 [.pointer (some ⟨p,0,none⟩)] Fr w [] (fun v L=>v=.int .i64 R.mm∧L=[]):=by
 have hcl:=hc.len
 refine TF 12 Tryz.func189 Z ym aD Z Z ?_
 refine mA ?_
 refine CS (CD (ts 0 8 (.only 8 (.take 9 .nil))) ym yr ?_)
 refine rL ?_
 refine DO ?_
 refine rL ?_
 refine AG (AR (fun Fr w hF hs hS=>Ch.CY Fr w (hm.of hF hs) yd R.id) Z Z D6 ?_)
 refine bt ?_
 exact mB
theorem sH(h:bu Fr w p (bx R x))(hm:aV aH 2 Fr w x.a R.ch.ms)(hc:kj R.ch):az Tryz.prog 165 [.pointer (some ⟨p,0,none⟩)] Fr w [] (fun v L=>v=.int .i64 R.cq∧L=[]):=by
 have hcl:=hc.len
 refine TF 12 Tryz.func165 Z ym aD Z Z ?_
 refine mA ?_
 refine CS (CD (ts 0 8 (.only 8 (.take 9 .nil))) ym yr ?_)
 refine rL ?_
 refine DO ?_
 refine rL ?_
 refine AG (AR (fun Fr w hF hs hS=>Ch.sH Fr w (hm.of hF hs) yd R.id) Z Z D6 ?_)
 refine bt ?_
 exact mB
def av.oe(R:av):Bool:=R.qh&&(tS R.ch == R.id)
def av.vH(R:av):Bool:=R.qh&&(vI R.ch == R.id)
def av.iP(R:av):Bool:=R.qh&&(R.ch.drain == R.id)
theorem zK(h:bu Fr w p (bx R x))(hm:aV aH 2 Fr w x.a R.ch.ms)(hc:kj R.ch):az Tryz.prog 100 [.pointer (some ⟨p,0,none⟩)] Fr w [] (fun v L=>v=.bool R.oe∧L=[]):=by
 have hcl:=hc.len
 refine TF 17 Tryz.func100 Z ym aD Z Z ?_
 refine mA ?_
 refine OV ?_
 refine HM ?_
 refine bt ?_
 cases hi:R.qh with
 | true=>
  refine AG (AY 5 true Z Z ?_)
  refine uA ?_
  refine DO ?_
  refine uA ?_
  refine AG (AR (fun Fr w hF hs hS=>Ch.zK Fr w (hm.of hF hs) yd) Z Z D6 ?_)
  refine ee ?_
  exact CR (aq.bool 2 Z Z (by rw[av.oe,hi];rfl) ER ⟨rfl,Z⟩)
 | false=>
  refine AG (AY 5 false Z Z ?_)
  refine uA ?_
  refine Eb ?_
  exact CR (aq.bool 2 Z Z (by rw[av.oe,hi];rfl) ER ⟨rfl,Z⟩)
theorem AJ(h:bu Fr w p (bx R x))(hm:aV aH 2 Fr w x.a R.ch.ms)(hc:kj R.ch):az Tryz.prog 225 [.pointer (some ⟨p,0,none⟩)] Fr w [] (fun v L=>v=.bool R.vH∧L=[]):=by
 have hcl:=hc.len
 refine TF 17 Tryz.func225 Z ym aD Z Z ?_
 refine mA ?_
 refine OV ?_
 refine HM ?_
 refine bt ?_
 cases hi:R.qh with
 | true=>
  refine AG (AY 5 true Z Z ?_)
  refine uA ?_
  refine DO ?_
  refine uA ?_
  refine AG (AR (fun Fr w hF hs hS=>Ch.AJ Fr w (hm.of hF hs) yd) Z Z D6 ?_)
  refine ee ?_
  exact CR (aq.bool 2 Z Z (by rw[av.vH,hi];rfl) ER ⟨rfl,Z⟩)
 | false=>
  refine AG (AY 5 false Z Z ?_)
  refine uA ?_
  refine Eb ?_
  exact CR (aq.bool 2 Z Z (by rw[av.vH,hi];rfl) ER ⟨rfl,Z⟩)
theorem BW(h:bu Fr w p (bx R x)):az Tryz.prog 101 [.pointer (some ⟨p,0,none⟩)] Fr w [] (fun v L=>v=.bool R.iP∧L=[]):=by
 refine TF 17 Tryz.func101 Z ym aD Z Z ?_
 refine mA ?_
 refine CS (CD (.take 0 (.only 1 (ts 2 13 .nil))) ym yr ?_)
 refine HM ?_
 refine bt ?_
 cases hi:R.qh with
 | true=>
  refine AG (AY 5 true Z Z ?_)
  refine uA ?_
  exact CR (aq.bool 2 Z Z (by rw[av.iP,hi];rfl) ER ⟨rfl,Z⟩)
 | false=>
  refine AG (AY 5 false Z Z ?_)
  refine uA ?_
  exact CR (aq.bool 2 Z Z (by rw[av.iP,hi];rfl) ER ⟨rfl,Z⟩)
end
end Rep
namespace Rep
open Go Vg T Api Kv Ch Lg Rd Win Adm
attribute [local irreducible] VO VC VA
def nF(aF seq br:Int)(r:iq):ay:={ ay.zero with kind:=2,aF:=aF,seq:=seq,br:=br,res:=r }
def iY(ar:Int)(f:ay)(reason:Int):ay:={ ay.zero with kind:=3,ar:=ar,aF:=f.aF,seq:=f.seq,br:=f.br,reason:=reason }
def BE(ar i g h:Int):ay:={ ay.zero with kind:=5,ar:=ar,index:=i,tR:=g,dW:=h }
def zb(ar i:Int):ay:={ ay.zero with kind:=6,ar:=ar,index:=i }
def tH(ar i:Int):ay:={ ay.zero with kind:=11,ar:=ar,index:=i }
section
variable {p:Nat} {R:av} {x:mY} {b:Nat} {S:List bQ}
theorem GN(hS:S.length≤1000000)(aF seq br:Int)(hc0:0≤aF)(hc1:aF≤1000000)(r:iq):az Tryz.prog 194 [.int .i64 aF,.int .i64 seq,.int .i64 br,.agg (bb r).toArray,ed b] Fr w [aZ b S]
  (fun v L=>v=.tuple #[]∧L=[aZ b (S ++ [(32+aF,nF aF seq br r)])]):=by
 refine TF 19 Tryz.func194 Z ym aD Z Z ?_
 refine CS (CG (VG (VB (vs:=bb r) Z fun rb=>?_)))
 refine ta ?_
 refine VG (VL 0 (bb r) Z Z Z Z ?_)
 refine VG (VI (LB (pv:=[(0,.int .i64 2),(2,.int .i64 aF),(3,.int .i64 seq),(4,.int .i64 br),(8,.agg (bb r).toArray)]) (cM (nF aF seq br r) kT) Z Z Z ym Z) ?_)
 refine VG (VO.mJ 1 Z Z (fun Fr w hF hs _=>si Fr w b S hS (32+aF) (nF aF seq br r)) Z (ψ:=fun v H=>v=.tuple #[]∧H=aZ b (S ++ [(32+aF,nF aF seq br r)])) yy ?_)
 rintro _ _ ⟨rfl,rfl⟩
 refine aj ?_
 exact HN
theorem vq(h:bu Fr w p (bx R x))(hS:S.length≤1000000)(f:ay)(m:jv)(hc0:0≤f.aF)(hc1:f.aF≤1000000)(reason:Int):az Tryz.prog 99 [.pointer (some ⟨p,0,none⟩),.agg (cM f m).toArray,.int .i64 reason,ed b] Fr w [aZ b S]
  (fun v L=>v=.tuple #[]∧L=[aZ b (S ++ [(32+f.aF,iY R.ch.ar f reason)])]):=by
 refine TF 26 Tryz.func99 Z ym aD Z Z ?_
 refine CS (CG (VG (VB (vs:=cM f m) Z fun fb=>VG (VN ?_))))
 refine CD (ts 0 17 (.only 17 .nil)) ym yr ?_
 refine DN ?_
 refine rM ?_
 refine DN ?_
 refine AG (AI Z (LB (pv:=[(0,.int .i64 3),(1,.int .i64 R.ch.ar),(2,.int .i64 f.aF),(3,.int .i64 f.seq),(4,.int .i64 f.br),(9,.int .i64 reason)]) (cM (iY R.ch.ar f reason) kT) Z Z Z ym Z) ?_)
 refine AG (VA.mJ 1 Z Z (fun Fr w hF hs _=>si Fr w b S hS (32+f.aF) (iY R.ch.ar f reason)) Z Z (ψ:=fun v H=>v=.tuple #[]∧H=aZ b (S ++ [(32+f.aF,iY R.ch.ar f reason)])) yy ?_ ?_)
 ·rintro _ _ ⟨rfl,rfl⟩
  exact(by(try refine Pd.st ?_);(repeat(first|exact Pd.nil|exact Pd.fnil|refine Pd.inner ?_|refine Pd.skip yr ?_|refine zf (zo 0 Z Z) ?_|refine zf (zm 0 Z Z) ?_|refine zf (ax.aC (ax.aC h Z) Z) ?_|refine zf ((ax.aC h Z)) ?_|refine zc (zo 0 Z Z) ?_|refine zc (zm 0 Z Z) ?_|refine zc (ax.aC (ax.aC h Z) Z) ?_|refine zc ((ax.aC h Z)) ?_)))
 rintro _ _ ⟨rfl,rfl⟩
 refine bt ?_
 exact HN
def av.eZ(R:av):List bQ:=if R.mm<0 then [] else [(R.mm,BE R.ch.ar R.an.done (if R.iP then R.an.last else R.an.done+R.an.cap) R.an.last)]
theorem Cb(h:gL Fr w p R x)(hc:kj R.ch)(hw:R.an.Ok)(hS:S.length≤1000000):az Tryz.prog 168 [.pointer (some ⟨p,0,none⟩),ed b] Fr w [aZ b S] (fun v L=>v=.tuple #[]∧L=[aZ b (S++R.eZ)]):=by
 have hb:=h.aC
 have w0:=hw.dL
 refine TF 42 Tryz.func168 Z ym aD Z Z ?_
 refine aj ?_
 refine VG (VV (fun Fr w hF hs _=>Rep.CY Fr w (h.of hF hs).aC (h.of hF hs).mem hc) Z ?_)
 refine aj ?_
 refine CP Z (fun h1=>?_) (fun h1=>CK ?_)
 ·exact CR (aq.void Z ER ⟨rfl,by rw[av.eZ,if_pos h1,bK]⟩)
 refine kD ?_
 refine VG (VV (fun Fr w hF hs _=>Win.CJ Fr w (h.of hF hs).an hw) Z ?_)
 refine VG (VN (CS ?_))
 refine VC.dX (σ:=Unit) (fun _=>[(0,pV p),(1,ed b),(4,.int .i64 R.mm),(5,.int .i64 (if R.iP then R.an.last else R.an.done+R.an.cap))]) (fun _=>[aZ b S]) (fun _=>True) ?_ ?_
 ·refine aj ?_
  refine VG (VV (fun Fr w hF hs _=>BW Fr w (h.of hF hs).aC) Z ?_)
  refine aj ?_
  refine CC Z (fun hd=>?_) (fun hd=>CK ?_)
  ·refine kD ?_
   refine VG (VV (fun Fr w hF hs _=>Win.pk Fr w (h.of hF hs).an w0) Z ?_)
   refine aj ?_
   exact OW
  ·exact OW
 rintro _ -
 refine CD (ts 0 11 (ts 12 5 (.only 11 (.only 17 (.take 18 (.only 19 .nil)))))) ym yr ?_
 refine A0 ?_
 refine AG (AR (fun Fr w hF hs hS=>Win.BV Fr w (h.of hF hs).an w0) Z Z yx ?_)
 refine AG (AR (fun Fr w hF hs hS=>Win.pk Fr w (h.of hF hs).an w0) Z Z yx ?_)
 refine AG (AI Z (LB (pv:=[(0,.int .i64 5),(1,.int .i64 R.ch.ar),(12,.int .i64 R.an.done),(13,.int .i64 (if R.iP then R.an.last else R.an.done+R.an.cap)),(14,.int .i64 R.an.last)]) (cM (BE R.ch.ar R.an.done (if R.iP then R.an.last else R.an.done+R.an.cap) R.an.last) kT) Z Z Z ym Z) ?_)
 refine AG (VA.mJ 0 Z Z (fun Fr w hF hs _=>si Fr w b S hS R.mm (BE R.ch.ar R.an.done (if R.iP then R.an.last else R.an.done+R.an.cap) R.an.last)) Z Z (ψ:=fun v H=>v=.tuple #[]∧H=aZ b (S ++ [(R.mm,BE R.ch.ar R.an.done (if R.iP then R.an.last else R.an.done+R.an.cap) R.an.last)])) yy ?_ ?_)
 ·rintro _ _ ⟨rfl,rfl⟩
  exact yx
 rintro _ _ ⟨rfl,rfl⟩
 refine bt ?_
 exact aq.void Z ER ⟨rfl,by rw[av.eZ,if_neg h1];rfl⟩
def av.gC(R:av):List bQ:=if R.whole=true∧0≤R.cq then [(R.cq,zb R.ch.ar R.start)] else []
theorem Hd(h:gL Fr w p R x)(hc:kj R.ch)(hS:S.length≤1000000):az Tryz.prog 169 [.pointer (some ⟨p,0,none⟩),ed b] Fr w [aZ b S] (fun v L=>v=.tuple #[]∧L=[aZ b (S++R.gC)]):=by
 have hb:=h.aC
 refine TF 28 Tryz.func169 Z ym aD Z Z ?_
 refine aj ?_
 refine VG (VV (fun Fr w hF hs _=>Rep.sH Fr w (h.of hF hs).aC (h.of hF hs).mem hc) Z ?_)
 refine kD ?_
 cases hwh:R.whole with
 | false=>
  refine VG (VY 11 false Z Z ?_)
  refine sZ ?_
  refine js ?_
  exact aq.void Z ER ⟨rfl,by rw[av.gC,if_neg (by rw[hwh];simp),bK]⟩
 | true=>
  refine VG (VY 11 true Z Z ?_)
  refine sZ ?_
  refine CP Z (fun h1=>?_) (fun h1=>CK ?_)
  ·refine CD (ts 0 12 (.only 12 .nil)) ym yr ?_
   refine A0 ?_
   refine AG (AI Z (LB (pv:=[(0,.int .i64 6),(1,.int .i64 R.ch.ar),(12,.int .i64 R.start)]) (cM (zb R.ch.ar R.start) kT) Z Z Z ym Z) ?_)
   refine AG (VA.mJ 0 Z Z (fun Fr w hF hs _=>si Fr w b S hS R.cq (zb R.ch.ar R.start)) Z Z (ψ:=fun v H=>v=.tuple #[]∧H=aZ b (S ++ [(R.cq,zb R.ch.ar R.start)])) yy ?_ ?_)
   ·rintro _ _ ⟨rfl,rfl⟩
    exact yx
   rintro _ _ ⟨rfl,rfl⟩
   refine bt ?_
   exact aq.void Z ER ⟨rfl,by rw[av.gC,if_pos ⟨hwh,h1⟩];rfl⟩
  ·exact aq.void Z ER ⟨rfl,by rw[av.gC,if_neg (fun h=>h1 h.2),bK]⟩
def av.ky(R:av):List bQ:=[(16,tH R.ch.ar (if R.whole then 1 else 0))]
theorem NH(hb:bu Fr w p (bx R x))(hS:S.length≤1000000):az Tryz.prog 167 [.pointer (some ⟨p,0,none⟩),ed b] Fr w [aZ b S] (fun v L=>v=.tuple #[]∧L=[aZ b (S++R.ky)]):=by
 refine TF 19 Tryz.func167 Z ym aD Z Z ?_
 refine kD ?_
 refine VG (VI (LB (pv:=[(0,.int .i64 11),(1,.int .i64 R.ch.ar)]) (cM (tH R.ch.ar 0) kT) Z Z Z ym Z) ?_)
 refine VG (VO.alloc Z fun fb=>?_)
 refine VG (VT (vs:=cM (tH R.ch.ar 0) kT) 0 Z Z Z Z (NR _) Z Z Z ?_)
 refine VG (VN (CS ?_))
 refine VC.dX (σ:=Unit) (fun _=>[(1,ed b),(4,pV fb)]) (fun _=>[pt fb (cM (tH R.ch.ar (if R.whole then 1 else 0)) kT) cC,aZ b S]) (fun _=>True) ?_ ?_
 ·refine kD ?_
  refine CC Z (fun hd=>?_) (fun hd=>CK ?_)
  ·refine aj ?_
   refine VG (VO.st 0 (cs':=cM (tH R.ch.ar 1) kT) Z Z Z Z (hZ Z) Z Z ?_)
   refine aj ?_
   exact⟨(),trivial,aP,by rw[hd];exact ER⟩
  ·exact⟨(),trivial,aP,by rw[hd];exact ER⟩
 rintro _ -
 refine aj ?_
 refine VG (VL 0 (cM (tH R.ch.ar (if R.whole then 1 else 0)) kT) Z Z Z Z ?_)
 refine VG (VO.mJ 1 Z Z (fun Fr w hF hs _=>si Fr w b S hS 16 (tH R.ch.ar (if R.whole then 1 else 0))) Z (ψ:=fun v H=>v=.tuple #[]∧H=aZ b (S++R.ky)) yy ?_)
 rintro _ _ ⟨rfl,rfl⟩
 refine aj ?_
 exact HN
end
end Rep
namespace Rep
open Go Vg T Api Kv Ch Lg Rd Win Adm
attribute [local irreducible] VO VC VA
structure av.Ok(R:av):Prop where
 ch:kj R.ch
 an:R.an.Ok
 last:R.an.last=R.log.length
 ku:∀e∈R.log,0≤e.aF∧e.aF<6
 kR:∀e∈R.log,1≤e.index∧e.index≤R.log.length
 ie:1≤R.aK.cap
 ig:R.aK.cap≤16
 rl:(R.aK.l.length:Int)≤R.aK.cap
 kW:0≤R.aK.last
 lM:R.aK.last≤100000000
 jn:∀y∈R.aK.l,0≤y.f.aF∧y.f.aF≤1000
 calls:R.aI.Calls
 wf:R.aI.Wf
theorem Ua(es:List bd)(c:Int):fo es c=(0,0)∨∃e∈es,fo es c=(e.seq,e.index)∧e.aF=c:=by
 have:∀(es:List bd) (p:Int×Int),es.foldl (tW c) p=p∨∃e∈es,es.foldl (tW c) p=(e.seq,e.index)∧e.aF=c:=by
  intro es
  induction es with
  | nil=>intro p;exact .inl rfl
  | cons e es ih=>
   intro p
   rw[oZ]
   rcases ih (tW c p e) with h | ⟨d,hd,h,h2⟩
   ·rw[h]
    unfold tW
    split
    ·exact .inr ⟨e,by simp,Z,by assumption⟩
    ·exact .inl rfl
   ·exact .inr ⟨d,by simp[hd],h,h2⟩
 exact this es (0,0)
theorem av.Ok.Uf{R:av}(h:R.Ok)(c:Int):0≤(ib R.log c).2∧(ib R.log c).2≤R.log.length:=by
 unfold ib
 split
 ·rcases Ua R.log c with h1 | ⟨e,he,h1,_⟩
  ·rw[h1];exact⟨cd _,by simp⟩
  ·rw[h1];have:=h.kR e he;exact⟨by show 0≤e.index;omega,this.2⟩
 ·exact⟨cd _,by simp⟩
def gG(p:Nat)(R:av)(x:mY)(b:Nat)(S:List bQ):List HP:=[pt p (bx R x) df,aA aU 2 x.a R.ch.ms.length x.c (flat aH R.ch.ms),bM x.lp R.log,bG x.wp R.an,bo x.ap R.aI,bH x.rp R.aK,aZ b S]
theorem nD{p:Nat}{R:av}{x:mY}{b:Nat}{S:List bQ}:aa (gG p R x b S) [bp p R,aZ b S]:=aa.rep x (bm [0,0,0,0,0,0,0])
def GM(R:av)(i:Int):bQ:=(32+((dJ R.log i).getD gv).aF,nF ((dJ R.log i).getD gv).aF ((dJ R.log i).getD gv).seq 0 ((dJ (bN R.log).2 i).getD cF))
def nE(R:av)(k:Nat):List bQ:=(List.range k).map fun j=>GM R (R.an.done+1+(j:Nat))
def av.ir(R:av):List bQ:=if R.vH then nE R (R.an.last-R.an.done).toNat else []
def av.bL(R:av):av:=if R.vH then { R with an:=R.an.gp R.an.last } else R
section
variable {p:Nat} {R:av} {b:Nat} {S:List bQ}
theorem Fa(ok:R.Ok)(hS:S.length≤900000):az Tryz.prog 164 [.pointer (some ⟨p,0,none⟩),ed b] Fr w [bp p R,aZ b S] (fun v L=>v=.tuple #[]∧L=[bp p R.bL,aZ b (S++R.ir)]):=by
 have w0:=ok.an.dL
 have d0:=ok.an.lD;have d1:=ok.an.jg;have d2:=ok.an.jY
 refine TF 62 Tryz.func164 Z ym aD Z Z ?_
 refine xR ?_
 rintro x -
 show VC _ _ _ (gG p R x b S) _
 unfold gG
 refine aj ?_
 refine OX ?_
 refine aj ?_
 refine VC.fQ Z (fun ht=>?_) (fun ht=>CK ?_)
 ·exact CR (aq.void Z nD.ah ⟨rfl,by rw[av.bL,av.ir,ht];simp⟩)
 refine aj ?_
 refine OY ?_
 refine aj ?_
 refine OZ ?_
 refine aj ?_
 refine VG (VQ 3 Z (fun Fr w hF hs hS=>Win.BH Fr w ok.an R.an.last) Z (ψ:=fun v H=>v=.bool (R.an.lT R.an.last)∧H=bG x.wp (R.an.gp R.an.last)) yy ?_)
 rintro _ _ ⟨rfl,rfl⟩
 refine jJ ?_
 refine VC.loop (σ:=Nat) (fun k=>[(0,pV p),(1,ed b),(5,.int .i64 R.an.last),(6,.int .i64 (R.an.done+1+(k:Nat)))])
  (fun k=>[pt p (bx R x) df,aA aU 2 x.a R.ch.ms.length x.c (flat aH R.ch.ms),bM x.lp R.log,bG x.wp (R.an.gp R.an.last),bo x.ap R.aI,bH x.rp R.aK,aZ b (S++nE R k)])
  (fun k=>k≤(R.an.last-R.an.done).toNat) (fun k=>(R.an.last-R.an.done).toNat-k) 0
  (bU _) (SC rfl (SC rfl (SC rfl (Sub.int rfl yf (SN _))))) (by rw[show nE R 0=[] from rfl,bK];exact ER) ?_
 intro k hk
 have hrl:(nE R k).length=k:=by simp[nE]
 refine aj ?_
 refine CP Z (fun h1=>CK ?_) (fun h1=>CX ?_)
 ·obtain⟨j,e,hj1,hj2,hj3,hj4⟩:=BM (l:=R.log) (i:=R.an.done+1+(k:Nat)) yd (by have:=ok.last;omega)
  have hcl:=ok.ku e (ME hj3)
  refine aj ?_
  refine VG (VV (fun Fr w hF hs hS=>Lg.za Fr w (hS.at_ 2 Z) (R.an.done+1+(k:Nat)) yd yd) Z ?_)
  refine aj ?_
  refine VG (VO.alloc Z fun eb=>?_)
  refine VG (VT (vs:=bZ ((dJ R.log (R.an.done+1+(k:Nat))).getD gv)) 0 Z Z Z Z (NR _) Z Z Z ?_)
  refine dz ?_
  refine VG (VV (fun Fr w hF hs hS=>Lg.MU Fr w (hS.at_ 3 Z) (R.an.done+1+(k:Nat)) yd yd) Z ?_)
  refine dz ?_
  refine VG (VO.alloc Z fun rb=>?_)
  refine VG (VT (vs:=bb ((dJ (bN R.log).2 (R.an.done+1+(k:Nat))).getD cF)) 0 Z Z Z Z (NR _) Z Z Z ?_)
  refine dz ?_
  refine VG (VL 0 (bb ((dJ (bN R.log).2 (R.an.done+1+(k:Nat))).getD cF)) Z Z Z Z ?_)
  refine VG (VQ 8 Z (fun Fr w hF hs hS=>GN Fr w (by rw[a_,hrl];omega) ((dJ R.log (R.an.done+1+(k:Nat))).getD gv).aF ((dJ R.log (R.an.done+1+(k:Nat))).getD gv).seq 0 (by rw[hj4];exact hcl.1) (by rw[hj4];have:=hcl.2;show e.aF≤_;omega) ((dJ (bN R.log).2 (R.an.done+1+(k:Nat))).getD cF)) Z (ψ:=fun v H=>v=.tuple #[]∧H=aZ b (S++nE R k ++ [GM R (R.an.done+1+(k:Nat))])) yy ?_)
  rintro _ _ ⟨rfl,rfl⟩
  refine jJ ?_
  refine⟨k+1,by omega,by dsimp only;omega,SC Z (SC Z (SC Z (Sub.int Z (by push_cast;omega) (SN _)))),?_⟩
  dsimp only
  rw[show nE R (k+1)=nE R k ++ [GM R (R.an.done+1+(k:Nat))] by simp[nE,v8],←eL]
  exact(bm [2,2,2,2,2,2,2]).ah
 ·obtain rfl:k=(R.an.last-R.an.done).toNat:=by omega
  exact aq.void Z (aa.rep (R:={ R with an:=R.an.gp R.an.last }) x (IP 0 Z (IP 0 Z (IP 0 Z (IP 0 Z (IP 0 Z (IP 0 Z (IP 0 Z aa.nil)))))))).ah ⟨rfl,by rw[av.bL,av.ir,ht];simp⟩
def av.pd(R:av):Bool:=R.qh&&(!R.whole&&(decide (R.base≠-1)&&decide (R.base≤R.an.last)))
def av.fx(R:av):av:=if R.pd then { R with whole:=true,start:=R.an.last } else R
def av.jQ(R:av):List bQ:=if R.pd then R.fx.gC else []
theorem Jn(ok:R.Ok)(hS:S.length≤900000):az Tryz.prog 192 [.pointer (some ⟨p,0,none⟩),ed b] Fr w [bp p R,aZ b S] (fun v L=>v=.tuple #[]∧L=[bp p R.fx,aZ b (S++R.jQ)]):=by
 have w0:=ok.an.dL
 refine TF 46 Tryz.func192 Z ym aD Z Z ?_
 refine xR ?_
 rintro x -
 show VC _ _ _ (gG p R x b S) _
 refine CS (CS ?_)
 have S3:∀{E:Env} {t:Bool},Vg.look E 31=some (.bool t)→t=(!R.pd)→Vg.look E 0=some (.pointer (some ⟨p,0,none⟩))→Vg.look E 1=some (ed b)→Sub [(0,pV p),(1,ed b),(31,.bool (!R.pd))] E:=fun h0 h1 h2 h3=>SC h2 (SC h3 (Sub.bl h0 h1 (SN _)))
 refine VC.dX (σ:=Unit) (fun _=>[(0,pV p),(1,ed b),(31,.bool (!R.pd))]) (fun _=>gG p R x b S) (fun _=>True) ?_ ?_
 ·refine CD (.take 0 (.only 1 (ts 2 19 (ts 22 4 (.only 21 (ts 26 2 .nil)))))) ym yr ?_
  refine AG (AR (fun Fr w hF hs hS=>KH Fr w (gL.oS hS 0 Z Z Z Z Z Z).aC) Z Z yu ?_)
  refine bt ?_
  cases h1:R.qh with
  | false=>
   refine AG (AY 7 true Z Z ?_)
   refine ee ?_
   refine AG (AY 13 true Z Z ?_)
   refine ee ?_
   refine AG (AY 20 true Z Z ?_)
   refine vS ?_
   exact⟨(),trivial,S3 Z (by rw[av.pd,h1];rfl) Z Z,ER⟩
  | true=>
  refine AG (AY 7 false Z Z ?_)
  refine ee ?_
  cases h2:R.whole with
  | true=>
   refine AG (AY 13 true Z Z ?_)
   refine ee ?_
   refine AG (AY 20 true Z Z ?_)
   refine vS ?_
   exact⟨(),trivial,S3 Z (by rw[av.pd,h1,h2];rfl) Z Z,ER⟩
  | false=>
  have q8:(bx R x)[0+8]?=some (.bool false):=by show some (Value.bool R.whole)=_;rw[h2]
  refine AG (AY 13 false Z Z ?_)
  refine ee ?_
  by_cases h3:R.base=-1
  ·refine AG (AY 20 true Z (by simp[h3]) ?_)
   refine vS ?_
   exact⟨(),trivial,S3 Z (by rw[av.pd,h1,h2,h3];rfl) Z Z,ER⟩
  refine AG (AY 20 false Z (by simp[h3]) ?_)
  refine ee ?_
  refine AG (AR (fun Fr w hF hs hS=>Win.pk Fr w (gL.oS hS 0 Z Z Z Z Z Z).an w0) Z Z (by(try refine Pd.st ?_);(repeat(first|exact Pd.nil|exact Pd.fnil|refine Pd.inner ?_|refine Pd.skip yr ?_|refine zf (zo 0 Z Z) ?_|refine zf (zm 0 Z Z) ?_|refine zf (ax.aC (ax.one 0 Z q8) Z) ?_|refine zf ((ax.one 0 Z q8)) ?_|refine zc (zo 0 Z Z) ?_|refine zc (zm 0 Z Z) ?_|refine zc (ax.aC (ax.one 0 Z q8) Z) ?_|refine zc ((ax.one 0 Z q8)) ?_))) ?_)
  refine ee ?_
  exact⟨(),trivial,S3 Z (by
   rw[av.pd,h1,h2,DT (show R.base≠-1 from h3)]
   by_cases h4:R.an.last<R.base
   ·rw[DT h4,DF (show ¬R.base≤R.an.last by omega)];rfl
   ·rw[DF h4,DT (show R.base≤R.an.last by omega)];rfl) rfl rfl,ER⟩
 rintro _ -
 refine VC.fQ Z (fun hb=>?_) (fun hb=>CK ?_)
 ·exact CR (aq.void Z nD.ah ⟨rfl,by rw[av.fx,av.jQ,hb];simp⟩)
 have hbR:R.fx={ R with whole:=true,start:=R.an.last }:=by rw[av.fx,hb];rfl
 have hbM:R.jQ=R.fx.gC:=by rw[av.jQ,hb];rfl
 unfold gG
 refine aj ?_
 refine VG (VO.st 0 (cs':=bx { R with whole:=true } x) Z Z Z Z (hZ Z) Z Z ?_)
 refine aj ?_
 refine OZ ?_
 refine VG (VO.st 0 (cs':=bx { R with whole:=true,start:=R.an.last } x) Z Z Z Z (hZ Z) Z Z ?_)
 refine aj ?_
 refine VG (VQ 6 Z (fun Fr w hF hs hS=>Hd (R:={ R with whole:=true,start:=R.an.last }) Fr w (gL.oS hS 0 Z Z Z Z Z Z) ok.ch yd) Z (ψ:=fun v H=>v=.tuple #[]∧H=aZ b (S++av.gC { R with whole:=true,start:=R.an.last })) yy ?_)
 rintro _ _ ⟨rfl,rfl⟩
 refine aj ?_
 exact aq.void Z (nD (R:={ R with whole:=true,start:=R.an.last }) (x:=x)).ah ⟨rfl,by rw[hbM,hbR]⟩
end
end Rep
namespace Rep
open Go Vg T Api Kv Ch Lg Rd Win Adm
attribute [local irreducible] VO VC VA
def d_(R:av)(f:ay)(now:Int):Int×iq×aO:=
 if R.aI.may f=false then (10,cF,R.aI)
 else if R.aI.wx f.aF f.seq f.br=true then (7,cF,R.aI)
 else if R.jl f=false then (5,cF,R.aI)
 else if R.oe=false then (4,cF,R.aI)
 else if R.whole=false then (8,cF,R.aI)
 else if R.iP=true then (3,cF,R.aI)
 else if f.seq=(ib R.log f.aF).1∧R.an.done<(ib R.log f.aF).2 then (6,cF,R.aI)
 else if f.seq=(ib R.log f.aF).1 then (0,(dJ (bN R.log).2 (ib R.log f.aF).2).getD cF,R.aI)
 else if f.seq<(ib R.log f.aF).1 then (7,cF,R.aI)
 else if 4096≤R.log.length then (1,cF,R.aI)
 else ((R.aI.iy f now).1,cF,(R.aI.iy f now).2)
section
variable {p:Nat} {R:av}
theorem T4(ok:R.Ok)(f:ay)(m:jv)(hmm:mE Fr w m)(now:Int):az Tryz.prog 240 [.pointer (some ⟨p,0,none⟩),.agg (aY (f,m)).toArray,.int .i64 now] Fr w [bp p R]
  (fun v L=>v=.tuple #[.int .i64 (d_ R f now).1,.agg (bb (d_ R f now).2.1).toArray]∧L=[bp p { R with aI:=(d_ R f now).2.2 }]):=by
 have w0:=ok.an.dL
 refine TF 116 Tryz.func240 Z ym aD Z Z ?_
 refine CS (CG (VG (VB (vs:=aY (f,m)) Z fun fb=>?_)))
 refine VG (VO.alloc Z fun rb=>VG (VN ?_))
 refine VC.bJ 2 Z (ba.rep p R) ?_
 rintro x -
 have fin:∀{X:Cx} {fn:Func} {E:Env} (z:Int) (rr:iq) (A':aO),fn.results=#[.tmp 6,.cell 7 ij]→bS X.tab ij=some T.t131→Vg.look E 6=some (.int .i64 z)→Vg.look E 7=some (.pointer (some ⟨rb,0,none⟩))→d_ R f now=(z,rr,A') →
   aq X fn (fun v L=>v=.tuple #[.int .i64 (d_ R f now).1,.agg (bb (d_ R f now).2.1).toArray]∧L=[bp p { R with aI:=(d_ R f now).2.2 }]) E [pt p (bx R x) df,aA aU 2 x.a R.ch.ms.length x.c (flat aH R.ch.ms),bM x.lp R.log,bG x.wp R.an,bo x.ap A',bH x.rp R.aK,pt rb (bb rr) ij,pt fb (aY (f,m)) cC]:=fun z rr A' hr hT h4 h5 hj=>
  aq.abw 6 7 hr h4 h5 hT (ax.many (ds:=bb rr) 6 rfl rfl) (aa.rep (R:={ R with aI:=A' }) x (IP 0 rfl (IP 0 rfl (IP 0 rfl (IP 0 rfl (IP 0 rfl (IP 0 rfl aa.nil))))))).ah ⟨by rw[hj],by rw[hj]⟩
 show VC _ _ _ [pt p (bx R x) df,aA aU 2 x.a R.ch.ms.length x.c (flat aH R.ch.ms),bM x.lp R.log,bG x.wp R.an,bo x.ap R.aI,bH x.rp R.aK,pt rb (bb cF) ij,pt fb (aY (f,m)) cC] _
 refine uv ?_
 refine CS (CD (ts 0 5 (.only 5 (ts 6 2 .nil))) ym yr ?_)
 refine uB ?_
 refine AG (VA.dQ 7 (aY (f,m)) Z Z Z Z Z ?_)
 refine AG (AR (fun Fr w hF hs hS=>Ab Fr w (f,m) (hS.at_ 4 Z)) Z Z yu ?_)
 refine bt ?_
 refine VC.fQ Z (fun h1=>?_) (fun h1=>?_)
 ·refine th ?_
  exact CR (fin 10 cF R.aI Z Z Z Z (by rw[d_,if_pos h1]))
 have k1:¬R.aI.may f=false:=by rw[h1];simp
 refine CS (CD (ts 0 10 (.only 10 (.take 11 .nil))) ym yr ?_)
 refine uB ?_
 refine AG (AR (fun Fr w hF hs hS=>Jg Fr w f.aF f.seq f.br (hS.at_ 4 Z)) Z Z yu ?_)
 refine bt ?_
 refine CC Z (fun h2=>?_) (fun h2=>?_)
 ·refine th ?_
  exact CR (fin 7 cF R.aI Z Z Z Z (by rw[d_,if_neg k1,if_pos h2]))
 have k2:¬R.aI.wx f.aF f.seq f.br=true:=by rw[h2];simp
 refine vP ?_
 refine VG (VL 7 (aY (f,m)) Z Z Z Z ?_)
 refine VG (VV (fun Fr w hF hs hS=>KM Fr w (hS.aC 0 Z) f m) Z ?_)
 refine aj ?_
 refine VC.fQ Z (fun h3=>?_) (fun h3=>?_)
 ·refine th ?_
  exact CR (fin 5 cF R.aI Z Z Z Z (by rw[d_,if_neg k1,if_neg k2,if_pos h3]))
 have k3:¬R.jl f=false:=by rw[h3];simp
 refine aj ?_
 refine VG (VV (fun Fr w hF hs hS=>zK Fr w (hS.aC 0 Z) (aV.aA cn (hS.at_ 1 Z)) ok.ch) Z ?_)
 refine aj ?_
 refine VC.fQ Z (fun h4=>?_) (fun h4=>?_)
 ·refine th ?_
  exact CR (fin 4 cF R.aI Z Z Z Z (by rw[d_,if_neg k1,if_neg k2,if_neg k3,if_pos h4]))
 have k4:¬R.oe=false:=by rw[h4];simp
 refine aj ?_
 refine VC.fQ Z (fun h5=>?_) (fun h5=>?_)
 ·refine th ?_
  exact CR (fin 8 cF R.aI Z Z Z Z (by rw[d_,if_neg k1,if_neg k2,if_neg k3,if_neg k4,if_pos h5]))
 have k5:¬R.whole=false:=by rw[h5];simp
 refine aj ?_
 refine VG (VV (fun Fr w hF hs hS=>BW Fr w (hS.aC 0 Z)) Z ?_)
 refine aj ?_
 refine CC Z (fun h6=>?_) (fun h6=>CK ?_)
 ·refine th ?_
  exact CR (fin 3 cF R.aI Z Z Z Z (by rw[d_,if_neg k1,if_neg k2,if_neg k3,if_neg k4,if_neg k5,if_pos h6]))
 have k6:¬R.iP=true:=by rw[h6];simp
 refine CS (CD (ts 0 6 (.only 6 (ts 7 5 .nil))) ym yr ?_)
 refine uB ?_
 refine AG (AR (fun Fr w hF hs hS=>Lg.pk Fr w (hS.at_ 2 Z) f.aF) Z Z yu ?_)
 refine bt ?_
 refine uv ?_
 have hi2:=ok.Uf f.aF
 have hl1:=ok.last;have hl2:=ok.an.jY
 refine CS ?_
 refine VC.dX (σ:=Unit) (fun _=>[(0,pV p),(2,.int .i64 now),(4,pV fb),(6,.int .i64 0),(7,pV rb),(8,.int .i64 (ib R.log f.aF).1),(9,.int .i64 (ib R.log f.aF).2),(64,.bool ((f.seq == (ib R.log f.aF).1)&&decide (R.an.done<(ib R.log f.aF).2)))])
  (fun _=>[pt p (bx R x) df,aA aU 2 x.a R.ch.ms.length x.c (flat aH R.ch.ms),bM x.lp R.log,bG x.wp R.an,bo x.ap R.aI,bH x.rp R.aK,pt rb (bb cF) ij,pt fb (aY (f,m)) cC]) (fun _=>True) ?_ ?_
 ·refine vP ?_
  cases h7:(f.seq == (ib R.log f.aF).1) with
  | false=>
   refine VG (VY 69 false Z h7 ?_)
   refine bW ?_
   exact O2
  | true=>
   refine VG (VY 69 true Z h7 ?_)
   refine bW ?_
   refine OY ?_
   refine bW ?_
   exact O2
 rintro _ -
 refine CC Z (fun h7=>?_) (fun h7=>?_)
 ·have k7:f.seq=(ib R.log f.aF).1∧R.an.done<(ib R.log f.aF).2:=by simpa using h7
  refine th ?_
  exact CR (fin 6 cF R.aI Z Z Z Z (by rw[d_,if_neg k1,if_neg k2,if_neg k3,if_neg k4,if_neg k5,if_neg k6,if_pos k7]))
 have k7:¬(f.seq=(ib R.log f.aF).1∧R.an.done<(ib R.log f.aF).2):=fun h=>by rw[DT h.2,h.1] at h7;simp at h7
 refine vP ?_
 refine CE Z (fun h8=>?_) (fun h8=>?_)
 ·refine aj ?_
  refine VG (VV (fun Fr w hF hs hS=>Lg.MU Fr w (hS.at_ 2 Z) (ib R.log f.aF).2 yd yd) Z ?_)
  refine aj ?_
  refine VG (VT (vs:=bb ((dJ (bN R.log).2 (ib R.log f.aF).2).getD cF)) 6 Z Z Z Z (NR _) Z Z Z (VG (VN ?_)))
  refine O0 ?_
  refine AG (VA.dQ 6 (bb ((dJ (bN R.log).2 (ib R.log f.aF).2).getD cF)) Z Z Z Z Z ?_)
  refine bt ?_
  refine AG (AT (vs:=bb ((dJ (bN R.log).2 (ib R.log f.aF).2).getD cF)) 6 Z Z Z Z Z (NR _) Z Z Z yu ?_)
  refine bt ?_
  exact CR (fin 0 ((dJ (bN R.log).2 (ib R.log f.aF).2).getD cF) R.aI Z Z Z Z (by rw[d_,if_neg k1,if_neg k2,if_neg k3,if_neg k4,if_neg k5,if_neg k6,if_neg k7,if_pos h8]))
 refine vP ?_
 refine CP Z (fun h9=>?_) (fun h9=>?_)
 ·refine th ?_
  exact CR (fin 7 cF R.aI Z Z Z Z (by rw[d_,if_neg k1,if_neg k2,if_neg k3,if_neg k4,if_neg k5,if_neg k6,if_neg k7,if_neg h8,if_pos h9]))
 refine aj ?_
 refine VG (VV (fun Fr w hF hs hS=>Lg.kP Fr w (hS.at_ 2 Z)) Z ?_)
 refine aj ?_
 refine CP Z (fun h10=>?_) (fun h10=>CK ?_)
 ·refine th ?_
  exact CR (fin 1 cF R.aI Z Z Z Z (by rw[d_,if_neg k1,if_neg k2,if_neg k3,if_neg k4,if_neg k5,if_neg k6,if_neg k7,if_neg h8,if_neg h9,if_pos yd]))
 refine CS (CD (ts 0 6 (.take 7 (.only 6 (.take 8 (.only 9 .nil))))) ym yr ?_)
 refine uB ?_
 refine AG (VA.dQ 7 (aY (f,m)) Z Z Z Z Z ?_)
 refine bt ?_
 refine O1 ?_
 refine AG (AQ 4 Z (fun Fr w hF hs hS=>CJ Fr w x.ap R.aI (f,m) (hmm.of hF hs) now) Z Z (ψ:=fun v H=>v=.int .i64 (R.aI.iy f now).1∧H=bo x.ap (R.aI.iy f now).2) yy ?_ ?_)
 ·rintro _ _ ⟨rfl,rfl⟩
  exact yu
 rintro _ _ ⟨rfl,rfl⟩
 refine Qz ?_
 exact CR (fin (R.aI.iy f now).1 cF (R.aI.iy f now).2 Z Z Z Z (by rw[d_,if_neg k1,if_neg k2,if_neg k3,if_neg k4,if_neg k5,if_neg k6,if_neg k7,if_neg h8,if_neg h9,if_neg yd]))
end
end Rep
namespace Rep
open Go Vg T Api Kv Ch Lg Rd Win Adm
attribute [local irreducible] VO VC VA
def lf(R:av)(f:ay)(now:Int):av×List bQ:=
 if (d_ R f now).2.1.code≠0 then ({ R with aI:=(d_ R f now).2.2 },[(32+f.aF,nF f.aF f.seq f.br (d_ R f now).2.1)])
 else if (d_ R f now).1=0 then ({ R with aI:=(d_ R f now).2.2 },[])
 else if (d_ R f now).1≠6∧(d_ R f now).1≠10 then ({ R with aI:=((d_ R f now).2.2.cU f.aF f.seq f.br).2 },[(32+f.aF,iY R.ch.ar f (d_ R f now).1)])
 else ({ R with aI:=(d_ R f now).2.2 },[(32+f.aF,iY R.ch.ar f (d_ R f now).1)])
section
variable {p:Nat} {R:av} {b:Nat} {S:List bQ}
theorem abP(ok:R.Ok)(hS:S.length≤900000)(f:ay)(m:jv)(hmm:mE Fr w m)(now:Int)(hc0:0≤f.aF)(hc1:f.aF≤1000):az Tryz.prog 185 [.pointer (some ⟨p,0,none⟩),.agg (aY (f,m)).toArray,.int .i64 now,ed b] Fr w [bp p R,aZ b S]
  (fun v L=>v=.tuple #[]∧L=[bp p (lf R f now).1,aZ b (S++(lf R f now).2)]):=by
 refine TF 53 Tryz.func185 Z ym aD Z Z ?_
 refine CS (CG (VG (VB (vs:=aY (f,m)) Z fun fb=>?_)))
 refine aj ?_
 refine VG (VL 0 (aY (f,m)) Z Z Z Z ?_)
 refine VG (VQ 1 Z (fun Fr w hF hs hS=>T4 Fr w ok f m (hmm.of hF hs) now) Z (ψ:=fun v H=>v=.tuple #[.int .i64 (d_ R f now).1,.agg (bb (d_ R f now).2.1).toArray]∧H=bp p { R with aI:=(d_ R f now).2.2 }) yy ?_)
 rintro _ _ ⟨rfl,rfl⟩
 refine VO.bJ 1 Z (ba.rep p _) ?_
 rintro x -
 obtain⟨⟨z,rr,A⟩,hj⟩:∃j,d_ R f now=j:=⟨_,rfl⟩
 rw[hj]
 have hu:lf R f now=(if rr.code≠0 then ({ R with aI:=A },[(32+f.aF,nF f.aF f.seq f.br rr)])
   else if z=0 then ({ R with aI:=A },[])
   else if z≠6∧z≠10 then ({ R with aI:=(A.cU f.aF f.seq f.br).2 },[(32+f.aF,iY R.ch.ar f z)])
   else ({ R with aI:=A },[(32+f.aF,iY R.ch.ar f z)])):=by rw[lf,hj]
 show VO _ _ _ _ _ [pt p (bx R x) df,aA aU 2 x.a R.ch.ms.length x.c (flat aH R.ch.ms),bM x.lp R.log,bG x.wp R.an,bo x.ap A,bH x.rp R.aK,pt fb (aY (f,m)) cC,aZ b S] _
 refine aj ?_
 refine VG (VO.alloc Z fun rb=>?_)
 refine aj ?_
 refine VG (VT (vs:=bb rr) 0 Z Z Z Z (NR _) Z Z Z ?_)
 refine aj ?_
 refine VC.dH Z (fun h1=>?_) (fun h1=>CK ?_)
 ·refine vP ?_
  refine VG (VL 0 (bb rr) Z Z Z Z ?_)
  refine VG (VQ 8 Z (fun Fr w hF hs _=>GN Fr w yd f.aF f.seq f.br hc0 yd rr) Z (ψ:=fun v H=>v=.tuple #[]∧H=aZ b (S ++ [(32+f.aF,nF f.aF f.seq f.br rr)])) yy ?_)
  rintro _ _ ⟨rfl,rfl⟩
  refine aj ?_
  exact CR (aq.void Z (aa.rep (R:={ R with aI:=A }) x (IP 1 Z (IP 1 Z (IP 1 Z (IP 1 Z (IP 1 Z (IP 1 Z (IP 2 Z aa.nil)))))))).ah ⟨rfl,by rw[hu,if_pos h1]⟩)
 refine aj ?_
 refine CE Z (fun h2=>?_) (fun h2=>CK ?_)
 ·exact CR (aq.void Z (aa.rep (R:={ R with aI:=A }) x (IP 1 Z (IP 1 Z (IP 1 Z (IP 1 Z (IP 1 Z (IP 1 Z (IP 2 Z aa.nil)))))))).ah ⟨rfl,by rw[hu,if_neg (fun h=>h h1),if_pos h2,bK]⟩)
 refine CS ?_
 refine VC.dX (σ:=aO) (fun _=>[(0,pV p),(3,ed b),(5,pV fb),(8,.int .i64 z)])
  (fun A'=>[pt p (bx R x) df,aA aU 2 x.a R.ch.ms.length x.c (flat aH R.ch.ms),bM x.lp R.log,bG x.wp R.an,bo x.ap A',bH x.rp R.aK,pt fb (aY (f,m)) cC,aZ b S]) (fun A'=>A'=if z≠6∧z≠10 then (A.cU f.aF f.seq f.br).2 else A) ?_ ?_
 ·refine aj ?_
  by_cases h3:z=6
  ·refine VG (VY 33 false Z (by simp[h3]) ?_)
   refine tf ?_
   exact⟨A,by rw[if_neg (fun h=>h.1 h3)],aP,(bm [1,1,1,1,1,1,1,1]).ah⟩
  ·refine VG (VY 33 true Z (by simp[h3]) ?_)
   refine bW ?_
   refine VC.dH Z (fun h4=>?_) (fun h4=>CK ?_)
   ·refine CD (ts 0 10 (.only 10 .nil)) ym yr ?_
    refine uB ?_
    refine AG (AQ 5 Z (fun Fr w hF hs hS=>BR Fr w x.ap A f.aF f.seq f.br) Z Z (ψ:=fun v H=>v=.int .i64 (A.cU f.aF f.seq f.br).1∧H=bo x.ap (A.cU f.aF f.seq f.br).2) yy ?_ ?_)
    ·rintro _ _ ⟨rfl,rfl⟩
     exact yu
    rintro _ _ ⟨rfl,rfl⟩
    refine bt ?_
    exact⟨(A.cU f.aF f.seq f.br).2,by rw[if_pos ⟨h3,h4⟩],aP,(bm [1,1,1,1,1,1,1,1]).ah⟩
   ·exact⟨A,by rw[if_neg (fun h=>h.2 h4)],aP,(bm [1,1,1,1,1,1,1,1]).ah⟩
 rintro A' hA'
 refine aj ?_
 refine VG (VL 6 (aY (f,m)) Z Z Z Z ?_)
 refine aj ?_
 refine VG (VQ 7 Z (fun Fr w hF hs hS=>vq Fr w (hS.aC 0 Z) yd f m hc0 yd z) Z (ψ:=fun v H=>v=.tuple #[]∧H=aZ b (S ++ [(32+f.aF,iY R.ch.ar f z)])) yy ?_)
 rintro _ _ ⟨rfl,rfl⟩
 refine aj ?_
 exact aq.void Z (aa.rep (R:={ R with aI:=A' }) x (IP 0 Z (IP 0 Z (IP 0 Z (IP 0 Z (IP 0 Z (IP 0 Z (IP 1 Z aa.nil)))))))).ah ⟨rfl,by
  rw[hu,if_neg (fun h=>h h1),if_neg h2,hA']
  split<;>rfl⟩
def ox(R:av)(f:ay)(now:Int):Int:=
 if R.jl f=false then 5 else if R.vH=false then 4 else if R.whole=false then 8 else if f.deadline<now then 2 else if R.iJ≤R.aK.l.length then 1 else 0
def nk(ar id:Int):ay:={ ay.zero with kind:=9,ar:=ar,index:=id }
def kV(R:av)(f:ay)(now:Int):av×List bQ:=
 if ox R f now≠0 then (R,[(32+f.aF,iY R.ch.ar f (ox R f now))])
 else ({ R with aK:=R.aK.put f (l9 (bN R.log).1 f.op.key R.log.length) },[(16,nk R.ch.ar (R.aK.last+1))])
theorem C6(ok:R.Ok)(hmost:R.iJ=R.aK.cap)(hS:S.length≤900000)(f:ay){ma:Option Addr}{mc:Nat}{ms:List aR}(hm:aV aH 2 Fr w ma ms)(hml:ms.length≤1000000)(now:Int)(hc0:0≤f.aF)(hc1:f.aF≤1000):az Tryz.prog 184 [.pointer (some ⟨p,0,none⟩),.agg (cM f (ma,ms.length,mc)).toArray,.int .i64 now,ed b] Fr w [bp p R,aZ b S]
  (fun v L=>v=.tuple #[]∧L=[bp p (kV R f now).1,aZ b (S++(kV R f now).2)]):=by
 refine TF 75 Tryz.func184 Z ym aD Z Z ?_
 refine CS (CG (VG (VB (vs:=cM f (ma,ms.length,mc)) Z fun fb=>VG (VN ?_))))
 refine DP ?_
 rintro x -
 show VC _ _ _ [pt p (bx R x) df,aA aU 2 x.a R.ch.ms.length x.c (flat aH R.ch.ms),bM x.lp R.log,bG x.wp R.an,bo x.ap R.aI,bH x.rp R.aK,pt fb (cM f (ma,ms.length,mc)) cC,aZ b S] _
 have hlen:R.aK.l.length≤16:=by have:=ok.rl;have:=ok.ig;omega
 refine CS (CG (VG (VN (CS ?_))))
 have S4:∀{E:Env} {z:Int},Vg.look E 8=some (.int .i64 z)→z=ox R f now→Vg.look E 0=some (.pointer (some ⟨p,0,none⟩))→Vg.look E 3=some (ed b)→Vg.look E 5=some (.pointer (some ⟨fb,0,none⟩))→Sub [(0,pV p),(3,ed b),(5,pV fb),(8,.int .i64 (ox R f now))] E:=fun h0 h1 h2 h3 h4=>SC h2 (SC h3 (SC h4 (Sub.int h0 h1 (SN _))))
 refine VC.dX (σ:=Unit) (fun _=>[(0,pV p),(3,ed b),(5,pV fb),(8,.int .i64 (ox R f now))])
  (fun _=>[pt p (bx R x) df,aA aU 2 x.a R.ch.ms.length x.c (flat aH R.ch.ms),bM x.lp R.log,bG x.wp R.an,bo x.ap R.aI,bH x.rp R.aK,pt fb (cM f (ma,ms.length,mc)) cC,aZ b S]) (fun _=>True) ?_ ?_
 ·refine VC.block ?_
  refine aj ?_
  refine VG (VL 6 (cM f (ma,ms.length,mc)) Z Z Z Z ?_)
  refine A5 ?_
  refine aj ?_
  refine VC.fQ Z (fun h1=>?_) (fun h1=>?_)
  ·refine aj ?_
   exact⟨(),trivial,S4 Z (by rw[ox,if_pos h1]) Z Z Z,ER⟩
  have k1:¬R.jl f=false:=by rw[h1];simp
  refine aj ?_
  refine OX ?_
  refine aj ?_
  refine VC.fQ Z (fun h2=>?_) (fun h2=>?_)
  ·refine aj ?_
   exact⟨(),trivial,S4 Z (by rw[ox,if_neg k1,if_pos h2]) Z Z Z,ER⟩
  have k2:¬R.vH=false:=by rw[h2];simp
  refine aj ?_
  refine VC.fQ Z (fun h3=>?_) (fun h3=>?_)
  ·refine aj ?_
   exact⟨(),trivial,S4 Z (by rw[ox,if_neg k1,if_neg k2,if_pos h3]) Z Z Z,ER⟩
  have k3:¬R.whole=false:=by rw[h3];simp
  refine O3 ?_
  refine CP Z (fun h4=>?_) (fun h4=>?_)
  ·refine aj ?_
   exact⟨(),trivial,S4 Z (by rw[ox,if_neg k1,if_neg k2,if_neg k3,if_pos h4]) Z Z Z,ER⟩
  refine CS (CD (ts 0 4 (ts 5 4 (.only 4 (ts 9 2 .nil)))) ym yr ?_)
  refine qE ?_
  refine AG (AR (fun Fr w hF hs hS=>Rd.kP Fr w (hS.at_ 5 Z) ok.ie) Z Z yu ?_)
  refine bt ?_
  refine CP Z (fun h5=>?_) (fun h5=>CK ?_)
  ·refine aj ?_
   exact⟨(),trivial,S4 Z (by rw[ox,if_neg k1,if_neg k2,if_neg k3,if_neg h4,if_pos h5]) Z Z Z,ER⟩
  ·exact⟨(),trivial,S4 Z (by rw[ox,if_neg k1,if_neg k2,if_neg k3,if_neg h4,if_neg h5]) Z Z Z,ER⟩
 rintro _ -
 refine aj ?_
 refine VC.dH Z (fun hr=>?_) (fun hr=>CK ?_)
 ·refine aj ?_
  refine VG (VL 6 (cM f (ma,ms.length,mc)) Z Z Z Z ?_)
  refine aj ?_
  refine VG (VQ 7 Z (fun Fr w hF hs hS=>vq Fr w (hS.aC 0 Z) yd f (ma,ms.length,mc) hc0 yd (ox R f now)) Z (ψ:=fun v H=>v=.tuple #[]∧H=aZ b (S ++ [(32+f.aF,iY R.ch.ar f (ox R f now))])) yy ?_)
  rintro _ _ ⟨rfl,rfl⟩
  refine aj ?_
  exact CR (aq.void Z (aa.rep x (IP 0 Z (IP 0 Z (IP 0 Z (IP 0 Z (IP 0 Z (IP 0 Z (IP 1 Z aa.nil)))))))).ah ⟨rfl,by rw[kV,if_pos hr]⟩)
 have hnf:(R.aK.l.length:Int)<R.aK.cap:=by
  rw[←hmost]
  unfold ox at hr
  split at hr
  ·cases hr
  split at hr
  ·cases hr
  split at hr
  ·cases hr
  split at hr
  ·cases hr
  split at hr
  ·cases hr
  ·omega
 refine CS (CD (ts 0 12 (.only 12 (.only 13 (ts 14 5 .nil)))) ym yr ?_)
 refine qE ?_
 refine AG (VA.dQ 6 (cM f (ma,ms.length,mc)) Z Z Z Z Z ?_)
 refine qE ?_
 refine AG (AR (fun Fr w hF hs hS=>Lg.Cm Fr w (hS.at_ 2 Z) f.op.key) Z Z yu ?_)
 refine AG (AQ 5 Z (fun Fr w hF hs hS=>Rd.WW Fr w x.rp R.aK ok.ie ok.ig ok.kW (by have:=ok.lM;omega) f (hm.of hF hs) hml (l9 (bN R.log).1 f.op.key R.log.length)) Z Z (ψ:=fun v H=>v=.tuple #[.int .i64 (R.aK.last+1),.int .i64 0]∧H=bH x.rp (R.aK.put f (l9 (bN R.log).1 f.op.key R.log.length))) (fun v L h=>⟨_,h.2,by rw[h.1,if_pos hnf],Z⟩) ?_ ?_)
 ·rintro _ _ ⟨rfl,rfl⟩
  exact yu
 rintro _ _ ⟨rfl,rfl⟩
 refine uG ?_
 refine VG (VI (LB (pv:=[(0,.int .i64 9),(1,.int .i64 R.ch.ar),(12,.int .i64 (R.aK.last+1))]) (cM (nk R.ch.ar (R.aK.last+1)) kT) Z Z Z ym Z) ?_)
 refine VG (VO.mJ 7 Z Z (fun Fr w hF hs _=>si Fr w b S yd 16 (nk R.ch.ar (R.aK.last+1))) Z (ψ:=fun v H=>v=.tuple #[]∧H=aZ b (S ++ [(16,nk R.ch.ar (R.aK.last+1))])) yy ?_)
 rintro _ _ ⟨rfl,rfl⟩
 refine aj ?_
 exact aq.void Z (aa.rep (R:={ R with aK:=R.aK.put f (l9 (bN R.log).1 f.op.key R.log.length) }) x (IP 0 Z (IP 0 Z (IP 0 Z (IP 0 Z (IP 0 Z (IP 0 Z (IP 1 Z aa.nil)))))))).ah ⟨rfl,by rw[kV,if_neg (fun h=>h hr)]⟩
end
end Rep
namespace Rep
open Go Vg T Api Kv Ch Lg Rd Win Adm
attribute [local irreducible] VO VC VA
theorem I2{W:bz}(h:W.Ok)(i:Int):(W.gp i).Ok:=by
 unfold bz.gp
 split
 ·rename_i hb
  simp only[bz.lT,dN,decide_eq_true_eq] at hb
  have:=h.lD
  exact⟨h.dL,h.fO,by show 0≤i;omega,hb.2,h.jY,h.ik,h.AA,h.u3,h.u4⟩
 ·exact h
theorem BG(W:bz)(i:Int):(W.gp i).last=W.last:=by unfold bz.gp;split<;>rfl
theorem wQ{R:av}(h:R.Ok):R.bL.Ok:=by
 unfold av.bL
 split
 ·exact⟨h.ch,I2 h.an _,by rw[BG];exact h.last,h.ku,h.kR,h.ie,h.ig,h.rl,h.kW,h.lM,h.jn,h.calls,h.wf⟩
 ·exact h
theorem EE{R:av}(h:R.Ok):R.fx.Ok:=by
 unfold av.fx
 split
 ·exact O4
 ·exact h
def dY(R:av)(e:bd):av:={ R with log:=R.log ++ [e],an:={ R.an with last:=R.an.last+1 } }
theorem UC{es:List bd}{e:bd}(h:gP es e=0):ng e=false∧es.length<4096∧e.index=es.length+1∧(fo es e.aF).1<e.seq:=by
 unfold gP at h
 split at h
 ·cases h
 rename_i h1
 split at h
 ·cases h
 rename_i h2
 split at h
 ·cases h
 rename_i h3
 split at h
 ·cases h
 rename_i h4
 exact⟨by simpa using h1,by omega,by omega,by omega⟩
theorem Q5{e:bd}(h:ng e=false):0≤e.aF∧e.aF<6∧1≤e.seq:=by
 simp only[ng,Eh,decide_eq_false_iff_not] at h
 omega
theorem ui{R:av}(h:R.Ok){e:bd}(he:gP R.log e=0)(hr:R.an.room=true):(dY R e).Ok:=by
 obtain⟨b1,b2,b3,b4⟩:=UC he
 have hc:=Q5 b1
 simp only[bz.room,dN,decide_eq_true_eq] at hr
 have hw:=h.an
 have hl:=h.last
 refine⟨h.ch,⟨hw.dL,hw.fO,hw.lD,?_,?_,hw.ik,?_,hw.u3,hw.u4⟩,?_,?_,?_,h.ie,h.ig,h.rl,h.kW,h.lM,h.jn,h.calls,h.wf⟩
 ·have:=hw.jg;show R.an.done≤R.an.last+1;omega
 ·show R.an.last+1≤4096;omega
 ·have:=hw.AA;show R.an.bO≤R.an.last+1;omega
 ·show R.an.last+1=(R.log ++ [e]).length;rw[a_,hl];simp
 ·intro y hy
  rcases ez.1 hy with hy | hy
  ·exact h.ku y hy
  ·obtain rfl:=eA.1 hy;exact⟨hc.1,hc.2.1⟩
 ·intro y hy
  show _∧y.index≤(R.log ++ [e]).length
  rw[a_]
  rcases ez.1 hy with hy | hy
  ·have:=h.kR y hy;exact⟨this.1,by simp;omega⟩
  ·obtain rfl:=eA.1 hy;exact⟨by omega,by simp;omega⟩
theorem Xe(R:av)(k:Nat):(nE R k).length=k:=by simp[nE]
theorem zw{R:av}(h:R.Ok):R.ir.length≤4096:=by
 unfold av.ir
 split
 ·rw[Xe];have:=h.an.jY;have:=h.an.lD;omega
 ·simp
theorem EA(R:av):R.gC.length≤1:=by unfold av.gC;split<;>simp
theorem ED(R:av):R.jQ.length≤1:=by
 unfold av.jQ
 split
 ·exact EA _
 ·simp
theorem zI(R:av):R.eZ.length≤1:=by unfold av.eZ;split<;>simp
def re(R:av)(e:bd):Bool:=(e.index == R.an.last+1)&&decide (0<max (min (R.an.done+R.an.cap) 4096-R.an.last) 0)
theorem B7{R:av}{e:bd}(h:re R e=true):R.an.room=true:=by
 simp only[re,dN,decide_eq_true_eq] at h
 simp only[bz.room,dN,decide_eq_true_eq]
 omega
def jk(R:av)(e:bd):av×List bQ:=
 if re R e=true∧gP R.log e=0 then ((dY R e).bL.fx,(dY R e).ir++(dY R e).bL.jQ++(dY R e).bL.fx.eZ)
 else (R,R.eZ)
section
variable {p:Nat} {R:av} {b:Nat} {S:List bQ}
theorem Th(ok:R.Ok)(hS:S.length≤800000)(e:bd)(hi1:-9223372036854775808≤e.index)(hi2:e.index≤9223372036854775807):az Tryz.prog 190 [.pointer (some ⟨p,0,none⟩),.agg (bZ e).toArray,ed b] Fr w [bp p R,aZ b S]
  (fun v L=>v=.tuple #[]∧L=[bp p (jk R e).1,aZ b (S++(jk R e).2)]):=by
 have w0:=ok.an.dL
 have w1:=ok.an.jY;have w2:=ok.an.lD;have w3:=ok.an.jg
 refine TF 50 Tryz.func190 Z ym aD Z Z ?_
 refine CS (CG (VG (VB (vs:=bZ e) Z fun eb=>VG (VN ?_))))
 refine CS ?_
 refine VC.dX (σ:=av×List bQ) (fun _=>[(0,pV p),(2,ed b)]) (fun y=>[bp p y.1,aZ b (S++y.2)]) (fun y=>y.1.Ok∧y.2.length≤10000∧jk R e=(y.1,y.2++y.1.eZ)) ?_ ?_
 ·refine DP ?_
  rintro x -
  show VC _ _ _ [pt p (bx R x) df,aA aU 2 x.a R.ch.ms.length x.c (flat aH R.ch.ms),bM x.lp R.log,bG x.wp R.an,bo x.ap R.aI,bH x.rp R.aK,pt eb (bZ e) gN,aZ b S] _
  have shut:∀{X:Cx} {T:List bQ},dq X [pt p (bx R x) df,aA aU 2 x.a R.ch.ms.length x.c (flat aH R.ch.ms),bM x.lp R.log,bG x.wp R.an,bo x.ap R.aI,bH x.rp R.aK,pt eb (bZ e) gN,aZ b T] [bp p R,aZ b T]:=
   (aa.rep x (bm [0,0,0,0,0,0,1])).ah
  have none_:¬(re R e=true∧gP R.log e=0)→R.Ok∧([]:List bQ).length≤10000∧jk R e=(R,[]++R.eZ):=fun h=>⟨ok,by simp,by rw[jk,if_neg h];rfl⟩
  refine CS (CD (ts 0 6 (.only 6 (ts 7 7 (.only 14 (ts 15 2 .nil))))) ym yr ?_)
  refine qE ?_
  refine AG (AR (fun Fr w hF hs hS=>Win.pk Fr w (hS.aC 3 Z) w0) Z Z yu ?_)
  refine rM ?_
  refine bt ?_
  cases h1:(e.index == R.an.last+1) with
  | false=>
   refine AG (AY 17 false Z h1 ?_)
   refine vS ?_
   refine js ?_
   exact⟨(R,[]),none_ (fun h=>by rw[re,h1] at h;exact absurd h.1 yf),aP,by dsimp only;rw[bK];exact shut⟩
  | true=>
  refine AG (AY 17 true Z h1 ?_)
  (repeat(first|refine yG (yN ?_)|refine yG (yD 0 rfl rfl rfl rfl rfl ?_)|refine yG (yD 1 rfl rfl rfl rfl rfl ?_)|refine yG (yD 2 rfl rfl rfl rfl rfl ?_)|refine yG (yD 3 rfl rfl rfl rfl rfl ?_)|refine yG (yD 4 rfl rfl rfl rfl rfl ?_)|refine yG (yD 5 rfl rfl rfl rfl rfl ?_)|refine yG (yD 6 rfl rfl rfl rfl rfl ?_)|refine yG (yU rfl rfl rfl rfl ?_)))
  refine AG (AR (fun Fr w hF hs hS=>Win.free_spec Fr w (hS.aC 3 Z) ok.an) Z Z yu ?_)
  refine ee ?_
  refine CP Z (fun h2=>?_) (fun h2=>CK ?_)
  rotate_left
  ·exact⟨(R,[]),none_ (fun h=>by rw[re,h1,DF h2] at h;exact absurd h.1 yf),aP,by dsimp only;rw[bK];exact shut⟩
  have hfb:re R e=true:=by rw[re,h1,DT h2];rfl
  refine CS ?_
  refine VC.dX (σ:=Nat) (fun rb=>[(0,pV p),(2,ed b),(7,.int .i64 (gP R.log e))]) (fun rb=>[pt rb (bb (oo R.log e)) ij,pt p (bx R x) df,aA aU 2 x.a R.ch.ms.length x.c (flat aH R.ch.ms),bM x.lp (kQ R.log e),bG x.wp R.an,bo x.ap R.aI,bH x.rp R.aK,pt eb (bZ e) gN,aZ b S]) (fun _=>True) ?_ ?_
  ·refine O5 ?_
   refine qE ?_
   refine AG (VA.dQ 6 (bZ e) Z Z Z Z Z ?_)
   refine AG (VA.two Z Z Z Z Z (aQ.oJ (ψ:=fun v H=>v=.tuple #[.agg (bb (oo R.log e)).toArray,.int .i64 (gP R.log e)]∧H=bM x.lp (kQ R.log e)) 2 Z (fun Fr w hF hs hS=>Lg.BK Fr w x.lp R.log e) Z yy) Z Z Z (aQ.alloc Z) ?_ ?_ ?_ ?_)
   ·rintro _ _ ⟨_,⟨rfl,rfl⟩,rfl⟩
    exact yu
   ·rintro _ _ ⟨rb,rfl,rfl⟩
    exact yu
   ·rintro _ _ ⟨_,⟨rfl,rfl⟩,rfl⟩
    refine bt ?_
    refine AG (AO (aQ.alloc Z) Z ?_ ?_)
    ·rintro _ _ ⟨rb,rfl,rfl⟩
     exact yu
    rintro _ _ ⟨rb,rfl,rfl⟩
    refine AG (AT (vs:=bb (oo R.log e)) 0 Z Z Z Z Z (NR _) Z Z Z yu ?_)
    exact Ec
   ·rintro _ _ ⟨rb,rfl,rfl⟩
    refine AG (AO (aQ.oJ (ψ:=fun v H=>v=.tuple #[.agg (bb (oo R.log e)).toArray,.int .i64 (gP R.log e)]∧H=bM x.lp (kQ R.log e)) 3 Z (fun Fr w hF hs hS=>Lg.BK Fr w x.lp R.log e) Z yy) Z ?_ ?_)
    ·rintro _ _ ⟨_,⟨rfl,rfl⟩,rfl⟩
     exact yu
    rintro _ _ ⟨_,⟨rfl,rfl⟩,rfl⟩
    refine bt ?_
    refine AG (AT (vs:=bb (oo R.log e)) 0 Z Z Z Z Z (NR _) Z Z Z yu ?_)
    exact Ec
  rintro rb -
  refine aj ?_
  refine CE Z (fun h3=>?_) (fun h3=>CK ?_)
  rotate_left
  ·have hla:kQ R.log e=R.log:=by rw[kQ,if_neg h3]
   rw[hla]
   exact⟨(R,[]),none_ (fun h=>h3 h.2),aP,by
    dsimp only;rw[bK]
    exact(aa.rep x (bm [1,1,1,1,1,1,2])).ah⟩
  have hla:kQ R.log e=R.log ++ [e]:=by rw[kQ,if_pos h3]
  have hroom:=B7 hfb
  have okp:=ui ok h3 hroom
  rw[hla]
  refine dz ?_
  refine VG (VQ 4 Z (fun Fr w hF hs hS=>Win.vo Fr w ok.an hroom) Z (ψ:=fun v H=>v=.bool true∧H=bG x.wp { R.an with last:=R.an.last+1 }) yy ?_)
  rintro _ _ ⟨rfl,rfl⟩
  refine VO.ah (L':=[bp p (dY R e),aZ b S]) (aa.rep (R:=dY R e) x (bm [1,1,1,1,1,1,2])).ah ?_
  refine aj ?_
  refine VG (VK (Lc:=[bp p (dY R e),aZ b S]) (Lr:=[]) (fun Fr w hF hs hS=>Fa Fr w okp yd) Z Z ?_)
  rintro _ _ ⟨rfl,rfl⟩
  have fl:=zw okp
  refine aj ?_
  refine VG (VK (Lc:=[bp p (dY R e).bL,aZ b (S++(dY R e).ir)]) (Lr:=[]) (fun Fr w hF hs hS=>Jn Fr w (wQ okp) yp) Z Z ?_)
  rintro _ _ ⟨rfl,rfl⟩
  have bl:=ED (dY R e).bL
  refine aj ?_
  refine⟨((dY R e).bL.fx,(dY R e).ir++(dY R e).bL.jQ),⟨EE (wQ okp),by dsimp only;rw[a_];omega,by rw[jk,if_pos ⟨hfb,h3⟩]⟩,aP,?_⟩
  dsimp only
  rw[eL]
  exact ER
 rintro⟨R',T⟩ ⟨ok',hT,hf⟩
 dsimp only at ok' hT hf ⊢
 refine VC.bJ 0 Z (ba.rep p R') ?_
 rintro x -
 show VC _ _ _ (gG p R' x b (S++T)) _
 unfold gG
 refine aj ?_
 refine VG (VQ 6 Z (fun Fr w hF hs hS=>Cb Fr w (gL.oS hS 0 Z Z Z Z Z Z) ok'.ch ok'.an yp) Z (ψ:=fun v H=>v=.tuple #[]∧H=aZ b (S++T++R'.eZ)) yy ?_)
 rintro _ _ ⟨rfl,rfl⟩
 refine aj ?_
 exact aq.void Z (nD (R:=R') (x:=x)).ah ⟨rfl,by rw[hf,eL]⟩
end
end Rep
namespace Rep
open Go Vg T Api Kv Ch Lg Rd Win Adm
attribute [local irreducible] VO VC VA
def gq(R:av)(f:ay):av:=if R.linked then { R with dW:=max R.dW f.dW } else { R with linked:=true,dW:=f.dW,an:={ R.an with bO:=min (max f.dW 0) R.an.last } }
def eN(R:av)(f:ay):av:={ gq R f with an:={ (gq R f).an with jA:=max (gq R f).an.jA (min f.tR 4112) } }
def gU(R:av)(f:ay):av×List bQ:=
 ({ eN R f with an:=(eN R f).an.gp f.index },if (eN R f).an.lT f.index then av.eZ { eN R f with an:=(eN R f).an.gp f.index } else [])
theorem IY{R:av}(h:R.Ok)(f:ay):(gq R f).Ok:=by
 unfold gq
 split
 ·exact O4
 ·have hw:=h.an
  refine⟨h.ch,⟨hw.dL,hw.fO,hw.lD,hw.jg,hw.jY,?_,?_,hw.u3,hw.u4⟩,h.last,h.ku,h.kR,h.ie,h.ig,h.rl,h.kW,h.lM,h.jn,h.calls,h.wf⟩
  ·show 0≤min (max f.dW 0) R.an.last
   have:=hw.lD;have:=hw.jg;omega
  ·show min (max f.dW 0) R.an.last≤R.an.last;omega
theorem IZ{R:av}(h:R.Ok)(f:ay):(eN R f).Ok:=by
 have h1:=IY h f
 have hw:=h1.an
 unfold eN
 refine⟨h1.ch,⟨hw.dL,hw.fO,hw.lD,hw.jg,hw.jY,hw.ik,hw.AA,?_,?_⟩,h1.last,h1.ku,h1.kR,h1.ie,h1.ig,h1.rl,h1.kW,h1.lM,h1.jn,h1.calls,h1.wf⟩
 ·show 0≤max (gq R f).an.jA (min f.tR 4112);have:=hw.u3;omega
 ·show max (gq R f).an.jA (min f.tR 4112)≤4112;have:=hw.u4;omega
theorem I1{R:av}(h:R.Ok)(f:ay):(gU R f).1.Ok:=by
 have h2:=IZ h f
 exact⟨h2.ch,I2 h2.an _,by show((eN R f).an.gp f.index).last=_;rw[BG];exact h2.last,h2.ku,h2.kR,h2.ie,h2.ig,h2.rl,h2.kW,h2.lM,h2.jn,h2.calls,h2.wf⟩
section
variable {p:Nat} {R:av} {b:Nat} {S:List bQ}
theorem BH(ok:R.Ok)(hS:S.length≤800000)(f:ay)(m:jv):az Tryz.prog 191 [.pointer (some ⟨p,0,none⟩),.agg (cM f m).toArray,ed b] Fr w [bp p R,aZ b S]
  (fun v L=>v=.tuple #[]∧L=[bp p (gU R f).1,aZ b (S++(gU R f).2)]):=by
 have ok1:=IY ok f
 have ok2:=IZ ok f
 refine TF 52 Tryz.func191 Z ym aD Z Z ?_
 refine CS (CG (VG (VB (vs:=cM f m) Z fun fb=>VG (VN ?_))))
 refine DP ?_
 rintro x -
 show VC _ _ _ [pt p (bx R x) df,aA aU 2 x.a R.ch.ms.length x.c (flat aH R.ch.ms),bM x.lp R.log,bG x.wp R.an,bo x.ap R.aI,bH x.rp R.aK,pt fb (cM f m) cC,aZ b S] _
 refine CS ?_
 refine VC.dX (σ:=Unit) (fun _=>[(0,pV p),(2,ed b),(4,pV fb)]) (fun _=>[pt p (bx (gq R f) x) df,aA aU 2 x.a R.ch.ms.length x.c (flat aH R.ch.ms),bM x.lp R.log,bG x.wp (gq R f).an,bo x.ap R.aI,bH x.rp R.aK,pt fb (cM f m) cC,aZ b S]) (fun _=>True) ?_ ?_
 ·refine aj ?_
  cases hl:R.linked with
  | true=>
   have e:gq R f={ R with dW:=max R.dW f.dW }:=by rw[gq,hl];rfl
   refine mz ?_
   refine CD (ts 0 10 (.only 10 .nil)) ym yr ?_
   refine qE ?_
   refine AG (VA.st 0 (cs':=bx { R with dW:=if R.dW<f.dW then f.dW else R.dW } x) Z Z Z Z Z (hZ Z) Z Z yu ?_)
   refine bt ?_
   exact⟨(),trivial,aP,by rw[e,show max R.dW f.dW=(if R.dW<f.dW then f.dW else R.dW) by split<;>omega];exact ER⟩
  | false=>
   have e:gq R f={ R with linked:=true,dW:=f.dW,an:={ R.an with bO:=min (max f.dW 0) R.an.last } }:=by rw[gq,hl];rfl
   refine qC ?_
   refine CS (CD (ts 0 6 (.only 6 (ts 7 2 (.only 9 .nil)))) ym yr ?_)
   refine qE ?_
   refine AG (VA.st 0 (cs':=bx { R with linked:=true } x) Z Z Z Z Z (hZ Z) Z Z yu ?_)
   refine qE ?_
   refine AG (VA.st 0 (cs':=bx { R with linked:=true,dW:=f.dW } x) Z Z Z Z Z (hZ Z) Z Z yu ?_)
   refine bt ?_
   refine DK ?_
   refine qE ?_
   refine AG (AQ 3 Z (fun Fr w hF hs hS=>Win.Jd Fr w ok.an f.dW) Z Z (ψ:=fun v H=>v=.tuple #[]∧H=bG x.wp { R.an with bO:=min (max f.dW 0) R.an.last }) yy ?_ ?_)
   ·rintro _ _ ⟨rfl,rfl⟩
    exact yu
   rintro _ _ ⟨rfl,rfl⟩
   refine bt ?_
   exact⟨(),trivial,aP,by rw[e];exact ER⟩
 rintro _ -
 have e1:(gq R f).ch=R.ch∧(gq R f).log=R.log∧(gq R f).aI=R.aI∧(gq R f).aK=R.aK:=by unfold gq;split<;>exact⟨rfl,rfl,rfl,rfl⟩
 refine DD ?_
 refine qE ?_
 refine AG (AQ 3 Z (fun Fr w hF hs hS=>Win.TA Fr w ok1.an f.tR) Z Z (ψ:=fun v H=>v=.tuple #[]∧H=bG x.wp (eN R f).an) yy ?_ ?_)
 ·rintro _ _ ⟨rfl,rfl⟩
  exact yu
 rintro _ _ ⟨rfl,rfl⟩
 refine bt ?_
 refine DD ?_
 refine qE ?_
 refine AG (AQ 3 Z (fun Fr w hF hs hS=>Win.BH Fr w ok2.an f.index) Z Z (ψ:=fun v H=>v=.bool ((eN R f).an.lT f.index)∧H=bG x.wp ((eN R f).an.gp f.index)) yy ?_ ?_)
 ·rintro _ _ ⟨rfl,rfl⟩
  exact yu
 rintro _ _ ⟨rfl,rfl⟩
 refine bt ?_
 have oka:=I1 ok f
 have hrep:vr p (gU R f).1 x=[pt p (bx (gq R f) x) df,aA aU 2 x.a R.ch.ms.length x.c (flat aH R.ch.ms),bM x.lp R.log,bG x.wp ((eN R f).an.gp f.index),bo x.ap R.aI,bH x.rp R.aK]:=by
  show [pt p (bx (gq R f) x) df,aA aU 2 x.a (gq R f).ch.ms.length x.c (flat aH (gq R f).ch.ms),bM x.lp (gq R f).log,_,bo x.ap (gq R f).aI,bH x.rp (gq R f).aK]=_
  rw[e1.1,e1.2.1,e1.2.2.1,e1.2.2.2];rfl
 refine CN (L':=vr p (gU R f).1 x ++ [aZ b S]) (by rw[hrep];exact(bm [0,0,0,0,0,0,1]).ah) ?_
 refine CC Z (fun hb=>?_) (fun hb=>CK ?_)
 ·refine aj ?_
  refine VG (VQ 6 Z (fun Fr w hF hs hS=>Cb (R:=(gU R f).1) Fr w (gL.oS hS 0 Z Z Z Z Z Z) oka.ch oka.an yd) Z (ψ:=fun v H=>v=.tuple #[]∧H=aZ b (S++(gU R f).1.eZ)) yy ?_)
  rintro _ _ ⟨rfl,rfl⟩
  refine aj ?_
  exact aq.void Z (nD (R:=(gU R f).1) (x:=x)).ah ⟨rfl,by rw[show(gU R f).2=(gU R f).1.eZ by rw[gU,hb];rfl]⟩
 ·exact aq.void Z (nD (R:=(gU R f).1) (x:=x)).ah ⟨rfl,by rw[show(gU R f).2=[] by rw[gU,hb];rfl,bK]⟩
def q9(ar:Int)(e:bd):ay:={ ay.zero with kind:=4,ar:=ar,entry:=e }
def cE(R:av):Nat→bz×List bQ
 | 0=>(R.an,[])
 | k+1=>((cE R k).1.next,(cE R k).2 ++ [(R.cq,q9 R.ch.ar ((dJ R.log ((cE R k).1.bO+1)).getD gv))])
def fg(R:av):Nat:=(min R.an.last R.an.jA-R.an.bO).toNat
def pz(R:av):av×List bQ:=({ R with an:=(cE R (fg R)).1 },(cE R (fg R)).2)
theorem vj(R:av):∀k,k≤fg R→(cE R k).1={ R.an with bO:=R.an.bO+k }
 | 0,_=>by simp[cE]
 | k+1,h=>by
  unfold fg at h
  rw[cE,vj R k (by unfold fg;omega)]
  have hb:({ R.an with bO:=R.an.bO+k }:bz).kA=true:=by simp only[bz.kA,dN,decide_eq_true_eq];omega
  rw[bz.next,if_pos hb]
  have:R.an.bO+(k:Int)+1=R.an.bO+((k+1:Nat):Int):=by push_cast;omega
  show bz.mk _ _ _ (R.an.bO+(k:Int)+1) _=bz.mk _ _ _ (R.an.bO+((k+1:Nat):Int)) _
  rw[this]
theorem xj(R:av):∀k,(cE R k).2.length=k
 | 0=>rfl
 | k+1=>by rw[cE,a_,xj R k];rfl
theorem L9{W:bz}(h:W.Ok):W.next.Ok:=by
 unfold bz.next
 split
 ·rename_i hb
  simp only[bz.kA,dN,decide_eq_true_eq] at hb
  have:=h.ik
  exact⟨h.dL,h.fO,h.lD,h.jg,h.jY,by show 0≤W.bO+1;omega,by show W.bO+1≤W.last;omega,h.u3,h.u4⟩
 ·exact h
theorem Gp{R:av}(h:R.Ok):∀k,(cE R k).1.Ok
 | 0=>h.an
 | k+1=>L9 (Gp h k)
end
section
variable {p:Nat} {R:av} {b:Nat} {S:List bQ}
theorem Gr(ok:R.Ok)(hS:S.length≤800000):az Tryz.prog 105 [.pointer (some ⟨p,0,none⟩),ed b] Fr w [bp p R,aZ b S]
  (fun v L=>v=.tuple #[]∧L=[bp p (pz R).1,aZ b (S++(pz R).2)]):=by
 have w1:=ok.an.jY;have w2:=ok.an.ik;have w3:=ok.an.AA;have w4:=ok.an.u4;have w5:=ok.an.u3
 have hlast:=ok.last
 have hK:fg R≤4096:=by unfold fg;omega
 refine TF 47 Tryz.func105 Z ym aD Z Z ?_
 refine xR ?_
 rintro x -
 show VC _ _ _ (gG p R x b S) _
 unfold gG
 refine aj ?_
 refine O6 ?_
 refine aj ?_
 have hnx:∀k,k≤fg R→((cE R k).1.kA=decide (k<fg R)):=fun k hk=>by
  rw[vj R k hk]
  unfold fg at hk ⊢
  simp only[bz.kA]
  by_cases h:(R.an.bO+(k:Int)<R.an.last)∧(R.an.bO+(k:Int)<R.an.jA)
  ·rw[DT h.1,DT h.2,DT yd];rfl
  ·rw[DF (show ¬k<(min R.an.last R.an.jA-R.an.bO).toNat by omega)]
   by_cases h1:R.an.bO+(k:Int)<R.an.last
   ·rw[DT h1,DF (fun h2=>h ⟨h1,h2⟩)];rfl
   ·rw[DF h1];rfl
 refine VG (VQ 3 Z (fun Fr w hF hs hS=>Win.sH Fr w ok.an) Z (ψ:=fun v H=>v=.tuple #[.int .i64 (if R.an.kA then R.an.bO+1 else 0),.bool R.an.kA]∧H=bG x.wp R.an.next) yy ?_)
 rintro _ _ ⟨rfl,rfl⟩
 refine aj ?_
 refine VC.loop (σ:=Nat) (fun k=>[(0,pV p),(1,ed b),(4,.int .i64 R.cq),(5,.int .i64 (if (cE R k).1.kA then (cE R k).1.bO+1 else 0)),(6,.bool (cE R k).1.kA)])
  (fun k=>[pt p (bx R x) df,aA aU 2 x.a R.ch.ms.length x.c (flat aH R.ch.ms),bM x.lp R.log,bG x.wp (cE R k).1.next,bo x.ap R.aI,bH x.rp R.aK,aZ b (S++(cE R k).2)])
  (fun k=>k≤fg R) (fun k=>fg R-k) 0
  (bU _) aP (by rw[show(cE R 0).2=[] from rfl,bK];exact ER) ?_
 intro k hk
 have hnk:=hnx k hk
 have hwk:=vj R k hk
 have hpl:=xj R k
 have hok:=Gp ok k
 refine aj ?_
 refine CC Z (fun h1=>CK ?_) (fun h1=>CX ?_)
 ·have hk2:k<fg R:=by rw[h1] at hnk;exact of_decide_eq_true hnk.symm
  have hs1:(cE R k).1.bO=R.an.bO+k:=by rw[hwk]
  have hbd:R.an.bO+(k:Int)<R.an.last:=by unfold fg at hk2;omega
  have hwk2:(cE R (k+1)).1=(cE R k).1.next:=rfl
  rw[h1]
  obtain⟨j,e,hj1,hj2,hj3,hj4⟩:=BM (l:=R.log) (i:=(cE R k).1.bO+1) yd yd
  refine uv ?_
  refine aj ?_
  refine VG (VV (fun Fr w hF hs hS=>Lg.za Fr w (hS.at_ 2 Z) ((cE R k).1.bO+1) yd yd) Z ?_)
  refine aj ?_
  refine VG (VO.alloc Z fun eb=>?_)
  refine VG (VT (vs:=bZ ((dJ R.log ((cE R k).1.bO+1)).getD gv)) 0 Z Z Z Z (NR _) Z Z Z (VG (VN ?_)))
  refine CD (ts 0 9 (.only 9 .nil)) ym yr ?_
  refine fK ?_
  refine AG (VA.dQ 0 (bZ ((dJ R.log ((cE R k).1.bO+1)).getD gv)) Z Z Z Z Z ?_)
  refine AG (AI Z (LB (pv:=[(0,.int .i64 4),(1,.int .i64 R.ch.ar),(10,.agg (bZ ((dJ R.log ((cE R k).1.bO+1)).getD gv)).toArray)]) (cM (q9 R.ch.ar ((dJ R.log ((cE R k).1.bO+1)).getD gv)) kT) Z Z Z ym Z) ?_)
  refine AG (VA.mJ 7 Z Z (fun Fr w hF hs _=>si Fr w b (S++(cE R k).2) yp R.cq (q9 R.ch.ar ((dJ R.log ((cE R k).1.bO+1)).getD gv))) Z Z (ψ:=fun v H=>v=.tuple #[]∧H=aZ b (S++(cE R k).2 ++ [(R.cq,q9 R.ch.ar ((dJ R.log ((cE R k).1.bO+1)).getD gv))])) yy ?_ ?_)
  ·rintro _ _ ⟨rfl,rfl⟩
   exact yu
  rintro _ _ ⟨rfl,rfl⟩
  refine bt ?_
  refine dz ?_
  refine VG (VQ 4 Z (fun Fr w hF hs hS=>Win.sH Fr w (L9 hok)) Z (ψ:=fun v H=>v=.tuple #[.int .i64 (if (cE R (k+1)).1.kA then (cE R (k+1)).1.bO+1 else 0),.bool (cE R (k+1)).1.kA]∧H=bG x.wp (cE R (k+1)).1.next) yy ?_)
  rintro _ _ ⟨rfl,rfl⟩
  refine aj ?_
  refine⟨k+1,hk2,by dsimp only;omega,aP,?_⟩
  dsimp only
  rw[show(cE R (k+1)).2=(cE R k).2 ++ [(R.cq,q9 R.ch.ar ((dJ R.log ((cE R k).1.bO+1)).getD gv))] from rfl,←eL]
  exact(bm [1,1,1,1,1,1,1]).ah
 ·have hk2:k=fg R:=by
   rw[h1] at hnk
   have:¬k<fg R:=of_decide_eq_false hnk.symm
   omega
  have hwn:(cE R k).1.next=(cE R k).1:=by rw[bz.next,h1];rfl
  rw[hwn,hk2]
  exact aq.void Z (aa.rep (R:=(pz R).1) x (IP 0 Z (IP 0 Z (IP 0 Z (IP 0 Z (IP 0 Z (IP 0 Z (IP 0 Z aa.nil)))))))).ah ⟨rfl,Z⟩
end
end Rep
namespace Rep
open Go Vg T Api Kv Ch Lg Rd Win Adm Sched
attribute [local irreducible] VO VC VA
def refs(ar:Int)(gs:List ay)(reason:Int):List bQ:=gs.map fun f=>(32+f.aF,iY ar f reason)
def db(R:av)(now:Int):ay:=(dd (R.aI.ff now).aL).1
def rq(R:av)(now:Int):Bool:=(dd (R.aI.ff now).aL).2.1
def eG(R:av)(now:Int):bd:=⟨R.log.length+1,(db R now).aF,(db R now).seq,(db R now).op⟩
def j_(R:av)(now:Int):av:={ R with aI:=R.aI.cq now }
def ey(R:av)(now:Int):av×List bQ×Bool:=
 if rq R now=false then (j_ R now,refs R.ch.ar (R.aI.aL.cQ now) 2,false)
 else if gP R.log (eG R now)≠0 then ({ R with aI:=((R.aI.cq now).cU (db R now).aF (db R now).seq (db R now).br).2 },refs R.ch.ar (R.aI.aL.cQ now) 2 ++ [(32+(db R now).aF,iY R.ch.ar (db R now) 7)],true)
 else ((dY (j_ R now) (eG R now)).bL,refs R.ch.ar (R.aI.aL.cQ now) 2++(dY (j_ R now) (eG R now)).ir,true)
theorem CF{R:av}(h:R.Ok)(now:Int):(j_ R now).Ok:=⟨h.ch,h.an,h.last,h.ku,h.kR,h.ie,h.ig,h.rl,h.kW,h.lM,h.jn,Vw h.wf h.calls now,Vy h.wf now⟩
theorem Je{A:aO}(h:A.Calls)(k s t:Int):(A.cU k s t).2.Calls:=by
 have e:(A.cU k s t).2.aL=A.aL∧(A.cU k s t).2.bC=A.bC:=by
  unfold aO.cU
  split
  ·exact⟨by show(A.jd k s t).aL=_;unfold aO.jd;split<;>rfl,Ey A k s t⟩
  ·exact⟨rfl,Z⟩
 unfold aO.Calls
 rw[e.1,e.2];exact h
theorem yW{R:av}(h:R.Ok){A:aO}(hC:A.Calls)(hW:A.Wf):({ R with aI:=A }:av).Ok:=⟨h.ch,h.an,h.last,h.ku,h.kR,h.ie,h.ig,h.rl,h.kW,h.lM,h.jn,hC,hW⟩
theorem AD{R:av}(h:R.Ok)(hr:R.an.room=true)(now:Int):(ey R now).1.Ok:=by
 have hn:=CF h now
 unfold ey
 split
 ·exact hn
 split
 ·exact yW h (Je hn.calls _ _ _) (hn.wf.cU _ _ _)
 ·rename_i h2
  exact wQ (ui hn IA hr)
theorem B'{R:av}(h:R.Ok)(now:Int):(R.aI.aL.cQ now).length≤64:=by
 have:=aM.Wf.E' h.wf.aL R.aI.aL.cls.length now
 rw[lj] at this;exact this
theorem Vx{R:av}(h:R.Ok)(now:Int)(ho:rq R now=true):0≤(db R now).aF∧(db R now).aF<6:=by
 obtain⟨h1,h2,h3⟩:=p_ h.wf now
 obtain⟨k,q,e1,e2⟩:=xl h1.aL ho
 have hc:=zu h.wf h.calls now _ (ME e1) (db R now) (by simp[db])
 have:=h.wf.c1
 exact⟨hc.1.1,by have:=hc.1.2;rw[h2] at this;omega⟩
section
variable {p:Nat} {R:av} {b:Nat} {S:List bQ}
theorem XC(ok:R.Ok)(hr:R.an.room=true)(hS:S.length≤800000)(now:Int):az Tryz.prog 104 [.pointer (some ⟨p,0,none⟩),.int .i64 now,ed b] Fr w [bp p R,aZ b S]
  (fun v L=>v=.bool (ey R now).2.2∧L=[bp p (ey R now).1,aZ b (S++(ey R now).2.1)]):=by
 have hg64:=B' ok now
 have hn:=CF ok now
 have hgc:=zF ok.calls now
 have hc6:=ok.wf.c1
 refine TF 85 Tryz.func104 Z ym aD Z Z ?_
 refine xR ?_
 rintro x -
 show VC _ _ _ (gG p R x b S) _
 unfold gG
 refine aj ?_
 refine VO.ah (L':=[bo x.ap R.aI,pt p (bx R x) df,aA aU 2 x.a R.ch.ms.length x.c (flat aH R.ch.ms),bM x.lp R.log,bG x.wp R.an,bH x.rp R.aK,aZ b S]) (bm [4,0,0,0,0,0,0]).ah ?_
 refine VG (VK (Lc:=[bo x.ap R.aI]) (fun Fr w hF hs hS=>Adm.sH Fr w x.ap R.aI now ok.wf ok.calls) Z Z ?_)
 rintro _ _ ⟨r,m,rok,hrx,rfl,rfl⟩
 show VO _ _ _ _ _ [r.h 181,bo x.ap (R.aI.cq now),pt p (bx R x) df,aA aU 2 x.a R.ch.ms.length x.c (flat aH R.ch.ms),bM x.lp R.log,bG x.wp R.an,bH x.rp R.aK,aZ b S] _
 refine aj ?_
 refine VG (VO.alloc Z fun fb=>?_)
 refine VG (VT (vs:=aY (db R now,m)) 0 Z Z Z Z (NR _) Z Z Z ?_)
 have hrv:r.v=.slice r.addr r.xs.length r.cap:=rfl
 rw[hrv]
 refine aj ?_
 refine VC.loop (σ:=Nat) (fun i=>[(0,pV p),(2,ed b),(7,pV fb),(8,.bool (rq R now)),(25,.slice r.addr r.xs.length r.cap),(26,.int .i64 r.xs.length),(27,.int .i64 i)])
  (fun i=>[pt fb (aY (db R now,m)) cC,r.h cC,bo x.ap (R.aI.cq now),pt p (bx R x) df,aA aU 2 x.a R.ch.ms.length x.c (flat aH R.ch.ms),bM x.lp R.log,bG x.wp R.an,bH x.rp R.aK,aZ b (S++refs R.ch.ar ((R.aI.aL.cQ now).take i) 2)])
  (fun i=>i≤r.xs.length) (fun i=>r.xs.length-i) 0
  (bU _) aP (by rw[r6,show refs R.ch.ar [] 2=[] from rfl,bK];exact ER) ?_
 intro i hi
 have hxl:r.xs.length=(R.aI.aL.cQ now).length:=by rw[←hrx];simp
 refine aj ?_
 refine CP Z (fun h1=>CK ?_) (fun h1=>CX ?_)
 ·have hi2:i<r.xs.length:=by omega
  obtain⟨g,hg⟩:∃g,r.xs[i]?=some g:=⟨_,GE hi2⟩
  have hgg:(R.aI.aL.cQ now)[i]?=some g.1:=by rw[←hrx,eh,hg];rfl
  have hcl:=hgc g.1 (ME hgg)
  obtain⟨gb,go,r1,r2,hrd⟩:=rok.ld (t:=cC) hg rfl
  rw[r2]
  refine uE ?_
  refine HO ?_
  refine VG (VO.alloc Z fun tb=>?_)
  refine VG (VT (vs:=aY g) 0 Z Z Z Z (NR _) Z Z Z ?_)
  refine aj ?_
  refine VG (VL 0 (aY g) Z Z Z Z ?_)
  refine VG (VQ 9 Z (fun Fr w hF hs hS=>vq Fr w (hS.aC 4 Z) P9 g.1 g.2 hcl.1.1 (by have:=hcl.1.2;omega) 2) Z (ψ:=fun v H=>v=.tuple #[]∧H=aZ b (S++refs R.ch.ar ((R.aI.aL.cQ now).take i) 2 ++ [(32+g.1.aF,iY R.ch.ar g.1 2)])) yy ?_)
  rintro _ _ ⟨rfl,rfl⟩
  refine jJ ?_
  refine⟨i+1,hi2,by dsimp only;omega,aP,?_⟩
  dsimp only
  rw[show refs R.ch.ar ((R.aI.aL.cQ now).take (i+1)) 2=refs R.ch.ar ((R.aI.aL.cQ now).take i) 2 ++ [(32+g.1.aF,iY R.ch.ar g.1 2)] by rw[jb,hgg];simp[refs],←eL]
  exact(bm [1,1,1,1,1,1,1,1,1]).ah
 ·obtain rfl:i=r.xs.length:=by omega
  rw[hxl,lj]
  have hrl:(refs R.ch.ar (R.aI.aL.cQ now) 2).length≤64:=by rw[refs,cW];exact hg64
  refine aj ?_
  refine VC.fQ Z (fun ho=>?_) (fun ho=>CK ?_)
  ·refine aj ?_
   exact CR (aq.tmp 6 Z Z (aa.rep (R:=j_ R now) x (IP 3 Z (IP 3 Z (IP 3 Z (IP 3 Z (IP 2 Z (IP 2 Z (IP 2 Z aa.nil)))))))).ah ⟨by rw[ey,if_pos ho],by rw[ey,if_pos ho]⟩)
  have hno:¬rq R now=false:=by rw[ho];simp
  have hcf:=Vx ok now ho
  have w1:=ok.an.jY;have hla:=ok.last
  refine CS ?_
  refine VC.dX (σ:=Nat) (fun eb=>[(0,pV p),(2,ed b),(7,pV fb),(12,pV eb)]) (fun eb=>[pt eb (bZ (eG R now)) gN,pt fb (aY (db R now,m)) cC,r.h cC,bo x.ap (R.aI.cq now),pt p (bx R x) df,aA aU 2 x.a R.ch.ms.length x.c (flat aH R.ch.ms),bM x.lp R.log,bG x.wp R.an,bH x.rp R.aK,aZ b (S++refs R.ch.ar (R.aI.aL.cQ now) 2)]) (fun _=>True) ?_ ?_
  ·refine CD (ts 0 4 (ts 6 6 (.two 4 13 (.take 5 (.take 12 (.only 13 (.only 14 .nil)))) (.only 4 (.take 5 (.take 12 (.only 14 .nil))))))) ym yr ?_
   refine iL ?_
   refine AG (VA.dQ 0 (db R now).op.cells Z Z Z Z Z ?_)
   refine AG (VA.two Z Z Z Z Z (aQ.dK (φ:=fun v=>v=.int .i64 R.log.length) (fun Fr w hF hs hS=>Lg.kP Fr w (hS.at_ 5 Z)) Z) Z Z Z (aQ.alloc Z) ?_ ?_ ?_ ?_)
   ·rintro _ _ ⟨rfl,rfl⟩
    exact yu
   ·rintro _ _ ⟨eb,rfl,rfl⟩
    exact yu
   ·rintro _ _ ⟨rfl,rfl⟩
    refine rM ?_
    refine O7 ?_
    refine AG (AO (aQ.alloc Z) Z ?_ ?_)
    ·rintro _ _ ⟨eb,rfl,rfl⟩
     exact yu
    rintro _ _ ⟨eb,rfl,rfl⟩
    refine AG (AT (vs:=bZ (eG R now)) 0 Z Z Z Z Z (NR _) Z Z Z yu ?_)
    refine bt ?_
    exact⟨eb,trivial,aP,ER⟩
   ·rintro _ _ ⟨eb,rfl,rfl⟩
    refine AG (AO (aQ.dK (φ:=fun v=>v=.int .i64 R.log.length) (fun Fr w hF hs hS=>Lg.kP Fr w (hS.at_ 6 Z)) Z) Z ?_ ?_)
    ·rintro _ _ ⟨rfl,rfl⟩
     exact yu
    rintro _ _ ⟨rfl,rfl⟩
    refine rM ?_
    refine O7 ?_
    refine AG (AT (vs:=bZ (eG R now)) 0 Z Z Z Z Z (NR _) Z Z Z yu ?_)
    refine bt ?_
    exact⟨eb,trivial,aP,ER⟩
  rintro eb -
  refine CS (CS ?_)
  refine VC.dX (σ:=Nat) (fun rb=>[(0,pV p),(2,ed b),(7,pV fb),(14,.int .i64 (gP R.log (eG R now)))]) (fun rb=>[pt rb (bb (oo R.log (eG R now))) ij,pt eb (bZ (eG R now)) gN,pt fb (aY (db R now,m)) cC,r.h cC,bo x.ap (R.aI.cq now),pt p (bx R x) df,aA aU 2 x.a R.ch.ms.length x.c (flat aH R.ch.ms),bM x.lp (kQ R.log (eG R now)),bG x.wp R.an,bH x.rp R.aK,aZ b (S++refs R.ch.ar (R.aI.aL.cQ now) 2)]) (fun _=>True) ?_ ?_
  ·refine O5 ?_
   refine rN ?_
   refine AG (VA.dQ 0 (bZ (eG R now)) Z Z Z Z Z ?_)
   refine AG (VA.two Z Z Z Z Z (aQ.oJ (ψ:=fun v H=>v=.tuple #[.agg (bb (oo R.log (eG R now))).toArray,.int .i64 (gP R.log (eG R now))]∧H=bM x.lp (kQ R.log (eG R now))) 6 Z (fun Fr w hF hs hS=>Lg.BK Fr w x.lp R.log (eG R now)) Z yy) Z Z Z (aQ.alloc Z) ?_ ?_ ?_ ?_)
   ·rintro _ _ ⟨_,⟨rfl,rfl⟩,rfl⟩
    exact yu
   ·rintro _ _ ⟨rb,rfl,rfl⟩
    exact yu
   ·rintro _ _ ⟨_,⟨rfl,rfl⟩,rfl⟩
    refine bt ?_
    refine AG (AO (aQ.alloc Z) Z ?_ ?_)
    ·rintro _ _ ⟨rb,rfl,rfl⟩
     exact yu
    rintro _ _ ⟨rb,rfl,rfl⟩
    refine O8 ?_
    exact Ec
   ·rintro _ _ ⟨rb,rfl,rfl⟩
    refine AG (AO (aQ.oJ (ψ:=fun v H=>v=.tuple #[.agg (bb (oo R.log (eG R now))).toArray,.int .i64 (gP R.log (eG R now))]∧H=bM x.lp (kQ R.log (eG R now))) 7 Z (fun Fr w hF hs hS=>Lg.BK Fr w x.lp R.log (eG R now)) Z yy) Z ?_ ?_)
    ·rintro _ _ ⟨_,⟨rfl,rfl⟩,rfl⟩
     exact yu
    rintro _ _ ⟨_,⟨rfl,rfl⟩,rfl⟩
    refine bt ?_
    refine O8 ?_
    exact Ec
  rintro rb -
  refine aj ?_
  refine VC.dH Z (fun he=>?_) (fun he=>CK ?_)
  ·have hap:kQ R.log (eG R now)=R.log:=by rw[kQ,if_neg he]
   rw[hap]
   refine HD ?_
   refine mC ?_
   refine AG (AQ 4 Z (fun Fr w hF hs hS=>BR Fr w x.ap (R.aI.cq now) (db R now).aF (db R now).seq (db R now).br) Z Z (ψ:=fun v H=>H=bo x.ap ((R.aI.cq now).cU (db R now).aF (db R now).seq (db R now).br).2) (fun v L h=>⟨_,h.2,Z⟩) ?_ ?_)
   ·rintro _ _ rfl
    exact yu
   rintro _ _ rfl
   refine uG ?_
   refine VG (VL 2 (aY (db R now,m)) Z Z Z Z ?_)
   refine VG (VQ 10 Z (fun Fr w hF hs hS=>vq Fr w (hS.aC 5 Z) yp (db R now) m hcf.1 yd 7) Z (ψ:=fun v H=>v=.tuple #[]∧H=aZ b (S++refs R.ch.ar (R.aI.aL.cQ now) 2 ++ [(32+(db R now).aF,iY R.ch.ar (db R now) 7)])) yy ?_)
   rintro _ _ ⟨rfl,rfl⟩
   refine aj ?_
   exact CR (aq.tmp 6 Z Z (aa.rep (R:={ R with aI:=((R.aI.cq now).cU (db R now).aF (db R now).seq (db R now).br).2 }) x (IP 5 Z (IP 5 Z (IP 5 Z (IP 5 Z (IP 4 Z (IP 4 Z (IP 4 Z aa.nil)))))))).ah ⟨by rw[ey,if_neg hno,if_pos he],by rw[ey,if_neg hno,if_pos he,←eL]⟩)
  have hap:kQ R.log (eG R now)=R.log ++ [eG R now]:=by rw[kQ,if_pos he]
  rw[hap]
  have okp:=ui hn (e:=eG R now) he hr
  refine DE ?_
  refine VG (VQ 8 Z (fun Fr w hF hs hS=>Win.vo Fr w ok.an hr) Z (ψ:=fun v H=>v=.bool true∧H=bG x.wp { R.an with last:=R.an.last+1 }) yy ?_)
  rintro _ _ ⟨rfl,rfl⟩
  refine VO.ah (L':=[bp p (dY (j_ R now) (eG R now)),aZ b (S++refs R.ch.ar (R.aI.aL.cQ now) 2)]) (aa.rep (R:=dY (j_ R now) (eG R now)) x (bm [5,5,5,5,4,4,4])).ah ?_
  refine aj ?_
  refine VG (VK (Lc:=[bp p (dY (j_ R now) (eG R now)),aZ b (S++refs R.ch.ar (R.aI.aL.cQ now) 2)]) (Lr:=[]) (fun Fr w hF hs hS=>Fa Fr w okp yp) Z Z ?_)
  rintro _ _ ⟨rfl,rfl⟩
  refine aj ?_
  exact CR (aq.tmp 6 Z Z ER ⟨by rw[ey,if_neg hno,if_neg (fun h=>h he)],by rw[ey,if_neg hno,if_neg (fun h=>h he),←eL];rfl⟩)
end
end Rep
namespace Rep
open Go Vg T Api Kv Ch Lg Rd Win Adm Sched
attribute [local irreducible] VO VC VA
def jF(qs:List (List ay)):Nat:=(qs.map List.length).sum
def cu(A:aO):Nat:=jF A.aL.qs
theorem Hh:∀{qs:List (List ay)} {k:Nat} {f:ay} {q:List ay},qs[k]?=some (f::q)→jF (qs.set k q)+1=jF qs
 | [],k,f,q,h=>by simp at h
 | x::qs,0,f,q,h=>by
  simp only[qJ,Option.some.injEq] at h
  subst h
  simp[jF];omega
 | x::qs,k+1,f,q,h=>by
  have ih:=Hh (qs:=qs) (k:=k) (f:=f) (q:=q) yc
  simp only[jF,tu,gA,pP] at ih ⊢
  omega
theorem NP(p:ay→Bool):∀qs:List (List ay),jF (qs.map fun q=>q.filter p)≤jF qs
 | []=>NR _
 | x::qs=>by
  have ih:=NP p qs
  have:=pO p x
  simp only[jF,gA,pP] at ih ⊢
  omega
theorem abA{R:av}(h:R.Ok)(now:Int)(ho:rq R now=true):cu (R.aI.cq now)<cu R.aI:=by
 obtain⟨h1,h2,h3⟩:=p_ h.wf now
 obtain⟨k,q,e1,e2⟩:=xl h1.aL ho
 have e3:(R.aI.cq now).aL=(dd (R.aI.ff now).aL).2.2:=by
  unfold aO.cq
  split<;>rfl
 have h4:=Hh e1
 have h5:=NP (stay now) R.aI.aL.qs
 rw[←E8,←h3] at h5
 unfold cu
 rw[e3,e2]
 omega
theorem abz{R:av}(h:R.Ok):cu R.aI≤64:=by
 have:=aM.Wf.tQ h.wf.aL R.aI.aL.cls.length
 rw[lj,List.length_flatMap] at this
 show((R.aI.aL.cls.map cG.q).map List.length).sum≤64
 rw[mV];exact this
theorem XE{R:av}(h:R.Ok)(now:Int)(ho:(ey R now).2.2=true):cu (ey R now).1.aI<cu R.aI:=by
 unfold ey at ho ⊢
 split at ho
 ·cases ho
 ·rename_i h1
  have hn:=abA h now (by simpa using h1)
  rw[if_neg h1]
  split
  ·have e:((R.aI.cq now).cU (db R now).aF (db R now).seq (db R now).br).2.aL=(R.aI.cq now).aL:=by
    unfold aO.cU
    split
    ·show((R.aI.cq now).jd _ _ _).aL=_;unfold aO.jd;split<;>rfl
    ·rfl
   show cu ((R.aI.cq now).cU _ _ _).2<_
   unfold cu at hn ⊢
   rw[e];exact hn
  ·have e:(dY (j_ R now) (eG R now)).bL.aI=R.aI.cq now:=by unfold av.bL;split<;>rfl
   show cu (dY (j_ R now) (eG R now)).bL.aI<_
   rw[e];exact hn
theorem Nj{R:av}(h:R.Ok)(hr:R.an.room=true)(now:Int):(ey R now).2.1.length≤4200:=by
 have hg:(refs R.ch.ar (R.aI.aL.cQ now) 2).length≤64:=by rw[refs,cW];exact B' h now
 unfold ey
 split
 ·show(refs _ _ _).length≤4200;omega
 split
 ·show(refs R.ch.ar (R.aI.aL.cQ now) 2 ++ [(32+(db R now).aF,iY R.ch.ar (db R now) 7)]).length≤4200;rw[a_];simp;omega
 ·rename_i h2
  have:=zw (ui (CF h now) (e:=eG R now) IA hr)
  show(refs R.ch.ar (R.aI.aL.cQ now) 2++(dY (j_ R now) (eG R now)).ir).length≤4200
  rw[a_];omega
def gz(now:Int):Nat→av→av×List bQ
 | 0,R=>(R,[])
 | k+1,R=>if R.an.room=true then
   if (ey R now).2.2=true then ((gz now k (ey R now).1).1,(ey R now).2.1++(gz now k (ey R now).1).2)
   else ((ey R now).1,(ey R now).2.1)
  else (R,[])
def h_(R:av)(now:Int):av:={ R with aK:={ R.aK with l:=R.aK.l.filter (nt now) } }
def gj(R:av)(now:Int):List bQ:=refs R.ch.ar ((R.aK.l.filter (fun y=>!nt now y)).map sh.f) 2
def uo(R:av):Bool:=R.oe&&(R.whole && !R.iP)
def step2(R:av)(now:Int):av×List bQ:=if uo (h_ R now) then gz now 65 (h_ R now) else (h_ R now,[])
def dS(R:av)(now:Int):av×List bQ:=if (step2 R now).1.linked then pz (step2 R now).1 else ((step2 R now).1,[])
def dx(R:av)(now:Int):av×List bQ:=((dS R now).1,gj R now++(step2 R now).2++(dS R now).2)
theorem zt{R:av}(h:R.Ok)(now:Int):(h_ R now).Ok:=⟨h.ch,h.an,h.last,h.ku,h.kR,h.ie,h.ig,by
 have:=h.rl;have h2:=pO (nt now) R.aK.l
 show((R.aK.l.filter (nt now)).length:Int)≤R.aK.cap;omega,h.kW,h.lM,fun y hy=>h.jn y (iC.1 hy).1,h.calls,h.wf⟩
theorem Ng(now:Int):∀(k:Nat) {R:av},R.Ok→(gz now k R).1.Ok
 | 0,R,h=>h
 | k+1,R,h=>by
  rw[gz]
  split
  ·rename_i hr
   split
   ·exact Ng now k (AD h hr now)
   ·exact AD h hr now
  ·exact h
theorem G4(now:Int):∀(k:Nat) {R:av},R.Ok→(gz now k R).2.length≤k*4200
 | 0,R,h=>NR _
 | k+1,R,h=>by
  rw[gz]
  split
  ·rename_i hr
   have h1:=Nj h hr now
   split
   ·have:=G4 now k (AD h hr now)
    rw[a_];omega
   ·show(ey R now).2.1.length≤_;omega
  ·simp
theorem Wm{R:av}(h:R.Ok):(pz R).1.Ok:=by
 have hw:=Gp h (fg R)
 have e:=vj R (fg R) (NR _)
 exact⟨h.ch,hw,by show(cE R (fg R)).1.last=_;rw[e];exact h.last,h.ku,h.kR,h.ie,h.ig,h.rl,h.kW,h.lM,h.jn,h.calls,h.wf⟩
theorem xw{R:av}(h:R.Ok)(now:Int):(step2 R now).1.Ok:=by
 unfold step2
 split
 ·exact Ng now 65 (zt h now)
 ·exact zt h now
theorem X4{R:av}(h:R.Ok)(now:Int):(dx R now).1.Ok:=by
 show(dS R now).1.Ok
 unfold dS
 split
 ·exact Wm (xw h now)
 ·exact xw h now
section
variable {p:Nat} {R:av}
def bO(S:List bQ)(v:Value)(L:List HP)(H:List HP):Prop:=∃a c,v=.slice a S.length c∧L=H ++ [aA gJ 30 a S.length c (flat rG S)]
theorem Yb(ok:R.Ok)(now:Int):az Tryz.prog 56 [.pointer (some ⟨p,0,none⟩),.int .i64 now] Fr w [bp p R]
  (fun v L=>bO (dx R now).2 v L [bp p (dx R now).1]):=by
 have hrl:R.aK.l.length≤16:=by have:=ok.rl;have:=ok.ig;omega
 have ok1:=zt ok now
 have ok2:=xw ok now
 refine TF 72 Tryz.func56 Z ym aD Z Z ?_
 refine xR ?_
 rintro x -
 show VC _ _ _ [pt p (bx R x) df,aA aU 2 x.a R.ch.ms.length x.c (flat aH R.ch.ms),bM x.lp R.log,bG x.wp R.an,bo x.ap R.aI,bH x.rp R.aK] _
 refine aj ?_
 refine HQ ?_
 refine rS ?_
 refine VG (VO.alloc Z fun ob=>?_)
 refine aj ?_
 refine HR ?_
 refine dz ?_
 refine VO.ah (L':=[bH x.rp R.aK,pt p (bx R x) df,aA aU 2 x.a R.ch.ms.length x.c (flat aH R.ch.ms),bM x.lp R.log,bG x.wp R.an,bo x.ap R.aI,aZ ob []]) (IP 6 Z (IP 1 Z (IP 1 Z (IP 1 Z (IP 1 Z (IP 1 Z (aa.out (none,0) (IP 0 Z (aa.dM aa.nil))))))))).ah ?_
 refine VG (VK (Lc:=[bH x.rp R.aK]) (fun Fr w hF hs hS=>Rd.wN Fr w ok.ie yd now) Z Z ?_)
 rintro _ _ ⟨ga,gc,rows,hrows,rfl,rfl⟩
 have hrowl:rows.length≤16:=by
  have:=congrArg List.length hrows
  rw[cW] at this
  have h2:=pO (fun y=>!nt now y) R.aK.l
  omega
 show VO _ _ _ _ _ [bH x.rp (h_ R now).aK,aA eU 34 ga rows.length gc (flat dw rows),pt p (bx R x) df,aA aU 2 x.a R.ch.ms.length x.c (flat aH R.ch.ms),bM x.lp R.log,bG x.wp R.an,bo x.ap R.aI,aZ ob []] _
 refine VO.bJ 1 Z (ba.rl eU ga gc rows Ar) ?_
 rintro r ⟨rok,hrv,hrx⟩
 show VO _ _ _ _ _ [r.h eU,bH x.rp (h_ R now).aK,pt p (bx R x) df,aA aU 2 x.a R.ch.ms.length x.c (flat aH R.ch.ms),bM x.lp R.log,bG x.wp R.an,bo x.ap R.aI,aZ ob []] _
 refine aj ?_
 have hexp:∀i,i≤rows.length→((rows.take i).map fun y=>y.1.f).length=i:=fun i hi=>by simp;omega
 refine VC.loop (σ:=Nat) (fun i=>[(0,pV p),(1,.int .i64 now),(5,pV ob),(6,ed ob),(18,.slice ga rows.length gc),(19,.int .i64 rows.length),(20,.int .i64 i)])
  (fun i=>[r.h eU,bH x.rp (h_ R now).aK,pt p (bx R x) df,aA aU 2 x.a R.ch.ms.length x.c (flat aH R.ch.ms),bM x.lp R.log,bG x.wp R.an,bo x.ap R.aI,aZ ob (refs R.ch.ar ((rows.take i).map fun y=>y.1.f) 2)])
  (fun i=>i≤rows.length) (fun i=>rows.length-i) 0
  (bU _) aP ER ?_
 intro i hi
 refine aj ?_
 refine CP Z (fun h1=>CK ?_) (fun h1=>CX ?_)
 ·have hi2:i<rows.length:=by omega
  obtain⟨g,hg⟩:∃g,rows[i]?=some g:=⟨_,GE hi2⟩
  have hgm:g.1∈R.aK.l:=by
   have h2:g.1∈rows.map Prod.fst:=bP.2 ⟨g,ME hg,rfl⟩
   rw[hrows] at h2
   exact(iC.1 h2).1
  have hcl:=ok.jn g.1 hgm
  obtain⟨gb,go,r1,r2,hrd⟩:=rok.ld (t:=eU) (hrx▸hg) rfl
  obtain rfl:ga=some ⟨gb,go,none⟩:=by rw[RL.v,r2,hrx] at hrv;injection hrv with e1;exact e1.symm
  refine uE ?_
  refine HS ?_
  refine VG (VO.alloc Z fun tb=>?_)
  refine HT ?_
  refine aj ?_
  refine VG (VL 0 (cM g.1.f g.2) Z Z Z Z ?_)
  refine VG (VQ 8 Z (fun Fr w hF hs hS=>vq Fr w (hS.aC 3 Z) (by rw[refs,cW,hexp i yd];omega) g.1.f g.2 hcl.1 yd 2) Z (ψ:=fun v H=>v=.tuple #[]∧H=aZ ob (refs R.ch.ar ((rows.take i).map fun y=>y.1.f) 2 ++ [(32+g.1.f.aF,iY R.ch.ar g.1.f 2)])) yy ?_)
  rintro _ _ ⟨rfl,rfl⟩
  refine jJ ?_
  refine⟨i+1,hi2,by dsimp only;omega,aP,?_⟩
  dsimp only
  rw[show refs R.ch.ar ((rows.take (i+1)).map fun y=>y.1.f) 2=refs R.ch.ar ((rows.take i).map fun y=>y.1.f) 2 ++ [(32+g.1.f.aF,iY R.ch.ar g.1.f 2)] by rw[jb,hg];simp[refs]]
  exact(bm [1,1,1,1,1,1,1,1]).ah
 obtain rfl:i=rows.length:=by omega
 rw[lj]
 have hes:refs R.ch.ar (rows.map fun y=>y.1.f) 2=gj R now:=by
  unfold gj
  rw[←hrows,mV];rfl
 have hel:(gj R now).length≤16:=by rw[←hes,refs,cW,cW];exact hrowl
 rw[hes]
 refine CN (L':=[bp p (h_ R now),aZ ob (gj R now)]) (aa.rep (R:=h_ R now) x (bm [2,2,2,2,2,1,1])).ah ?_
 have hl2:(step2 R now).2.length≤273000:=by
  unfold step2
  split
  ·have:=G4 now 65 ok1;omega
  ·simp
 refine CS ?_
 refine VC.dX (σ:=Unit) (fun _=>[(0,pV p),(5,pV ob),(6,ed ob)]) (fun _=>[bp p (step2 R now).1,aZ ob (gj R now++(step2 R now).2)]) (fun _=>True) ?_ ?_
 ·have no:uo (h_ R now)=false→∀{X:Cx} {y:mY},dq X (gG p (h_ R now) y ob (gj R now)) [bp p (step2 R now).1,aZ ob (gj R now++(step2 R now).2)]:=fun h {X} {y}=>by
   have e:step2 R now=(h_ R now,[]):=by rw[step2,h];rfl
   rw[e,bK];exact nD.ah
  refine VC.bJ 0 Z (ba.rep p (h_ R now)) ?_
  rintro x2 -
  show VC _ _ _ (gG p (h_ R now) x2 ob (gj R now)) _
  refine aj ?_
  refine VG (VV (fun Fr w hF hs hS=>zK Fr w (gL.oS hS 0 Z Z Z Z Z Z).aC (gL.oS hS 0 Z Z Z Z Z Z).mem ok1.ch) Z ?_)
  refine aj ?_
  cases h1:(h_ R now).oe with
  | false=>
   refine VG (VY 32 false Z Z ?_)
   refine bW ?_
   refine VG (VY 38 false Z Z ?_)
   refine tf ?_
   exact⟨(),trivial,aP,no (by rw[uo,h1];rfl)⟩
  | true=>
  refine VG (VY 32 true Z Z ?_)
  refine bW ?_
  cases h2:R.whole with
  | false=>
   refine VG (VY 38 false Z h2 ?_)
   refine tf ?_
   exact⟨(),trivial,aP,no (by rw[uo,h1];show(true&&(R.whole&&_))=false;rw[h2];rfl)⟩
  | true=>
  refine VG (VY 38 true Z h2 ?_)
  refine bW ?_
  refine VG (VV (fun Fr w hF hs hS=>BW Fr w (gL.oS hS 0 Z Z Z Z Z Z).aC) Z ?_)
  refine bW ?_
  refine VC.fQ Z (fun h3=>?_) (fun h3=>CK ?_)
  rotate_left
  ·exact⟨(),trivial,aP,no (by rw[uo,h1,h3];show(true&&(R.whole&&_))=false;rw[h2];rfl)⟩
  have hsb:uo (h_ R now)=true:=by rw[uo,h1,h3];show(true&&(R.whole&&_))=true;rw[h2];rfl
  have he2:step2 R now=gz now 65 (h_ R now):=by rw[step2,hsb];rfl
  have ht:=abz ok1
  refine CN (L':=[bp p (h_ R now),aZ ob (gj R now)]) nD.ah ?_
  refine aj ?_
  refine VC.loop (σ:=Nat×av×List bQ) (fun _=>[(0,pV p),(1,.int .i64 now),(5,pV ob),(6,ed ob)]) (fun y=>[bp p y.2.1,aZ ob (gj R now++y.2.2)])
   (fun y=>y.2.1.Ok∧cu y.2.1.aI<y.1∧y.2.2.length+y.1*4200≤273000∧gz now 65 (h_ R now)=((gz now y.1 y.2.1).1,y.2.2++(gz now y.1 y.2.1).2)) (fun y=>y.1) (65,h_ R now,[])
   ⟨ok1,by dsimp only;omega,by simp,rfl⟩ aP (by dsimp only;rw[bK];exact ER) ?_
  rintro⟨k,Q,T⟩ ⟨okQ,htQ,hlT,hlp⟩
  dsimp only at okQ htQ hlT hlp ⊢
  obtain⟨k,rfl⟩:∃j,k=j+1:=⟨k-1,by omega⟩
  have q1:=okQ.an.jY;have q2:=okQ.last
  refine VC.bJ 0 Z (ba.rep p Q) ?_
  rintro x3 -
  show VC _ _ _ (gG p Q x3 ob (gj R now++T)) _
  unfold gG
  refine aj ?_
  refine VG (VV (fun Fr w hF hs hS=>Win.free_spec Fr w (hS.aC 3 Z) okQ.an) Z ?_)
  refine aj ?_
  by_cases hroom:Q.an.room=true
  ·have hr2:Q.an.last<Q.an.done+Q.an.cap∧Q.an.last<4096:=by simpa[bz.room] using hroom
   refine VG (VY 49 true Z (DT yd) ?_)
   refine bW ?_
   refine VG (VV (fun Fr w hF hs hS=>Lg.kP Fr w (hS.at_ 2 Z)) Z ?_)
   refine bW ?_
   refine VG (VY 57 true Z (DT yd) ?_)
   refine bW ?_
   refine VO.ah (L':=[bp p Q,aZ ob (gj R now++T)]) (nD (x:=x3)).ah ?_
   refine VG (VK (Lc:=[bp p Q,aZ ob (gj R now++T)]) (Lr:=[]) (fun Fr w hF hs hS=>XC Fr w okQ hroom yp now) Z Z ?_)
   rintro _ _ ⟨rfl,rfl⟩
   have hss:=Nj okQ hroom now
   refine bW ?_
   refine CC Z (fun hs=>CK ?_) (fun hs=>CX ?_)
   ·have hst:=XE okQ now hs
    refine aj ?_
    refine CK ?_
    refine⟨(k,(ey Q now).1,T++(ey Q now).2.1),⟨AD okQ hroom now,by dsimp only;omega,by dsimp only;rw[a_];omega,?_⟩,by dsimp only;omega,aP,?_⟩
    ·dsimp only
     rw[hlp,gz,if_pos hroom,if_pos hs,eL]
    ·dsimp only;rw[←eL];exact ER
   ·refine⟨(),trivial,aP,?_⟩
    rw[he2,hlp,gz,if_pos hroom,if_neg (by rw[hs];simp),←eL]
    exact ER
  ·have hr2:¬(0<max (min (Q.an.done+Q.an.cap) 4096-Q.an.last) 0):=fun h=>hroom (by simp only[bz.room,dN,decide_eq_true_eq];omega)
   refine VG (VY 49 false Z (DF hr2) ?_)
   refine bW ?_
   refine VG (VY 57 false Z Z ?_)
   refine bW ?_
   refine VC.kM Z (CX ?_)
   refine⟨(),trivial,aP,?_⟩
   rw[he2,hlp,gz,if_neg hroom,bK]
   exact(nD (x:=x3)).ah
 rintro _ -
 refine CS ?_
 refine VC.dX (σ:=Unit) (fun _=>[(5,pV ob)]) (fun _=>[bp p (dx R now).1,aZ ob (dx R now).2]) (fun _=>True) ?_ ?_
 ·refine VC.bJ 0 Z (ba.rep p (step2 R now).1) ?_
  rintro x2 -
  show VC _ _ _ (gG p (step2 R now).1 x2 ob (gj R now++(step2 R now).2)) _
  unfold gG
  refine aj ?_
  refine CC Z (fun hk=>?_) (fun hk=>CK ?_)
  ·have e3:dS R now=pz (step2 R now).1:=by rw[dS,hk];rfl
   refine CN (L':=[bp p (step2 R now).1,aZ ob (gj R now++(step2 R now).2)]) (nD (x:=x2)).ah ?_
   refine aj ?_
   refine VG (VK (Lc:=[bp p (step2 R now).1,aZ ob (gj R now++(step2 R now).2)]) (Lr:=[]) (fun Fr w hF hs hS=>Gr Fr w ok2 yp) Z Z ?_)
   rintro _ _ ⟨rfl,rfl⟩
   refine aj ?_
   exact⟨(),trivial,aP,by show dq _ _ [bp p (dS R now).1,aZ ob (gj R now++(step2 R now).2++(dS R now).2)];rw[e3];exact ER⟩
  ·have e3:dS R now=((step2 R now).1,[]):=by rw[dS,hk];rfl
   exact⟨(),trivial,aP,by show dq _ _ [bp p (dS R now).1,aZ ob (gj R now++(step2 R now).2++(dS R now).2)];rw[e3,bK];exact(nD (x:=x2)).ah⟩
 rintro _ -
 refine VC.bJ 1 Z (ba.out ob _) ?_
 rintro⟨a,c⟩ -
 show VC _ _ _ [pt ob [.slice a (dx R now).2.length c] CM,aA gJ 30 a (dx R now).2.length c (flat rG (dx R now).2),bp p (dx R now).1] _
 refine aj ?_
 exact CR (aq.tmp 4 Z Z (IP 2 Z (IP 1 Z aa.nil)).ah ⟨a,c,Z,Z⟩)
end
end Rep
namespace Rep
open Go Vg T Api Kv Ch Lg Rd Win Adm Sched
attribute [local irreducible] VO VC VA
theorem RU{c:aW}{a:Option Addr}{cap:Nat}(h:aV aH 2 Fr w a c.ms)(hl:c.ms.length≤1000000):az Tryz.prog 82 [.agg (c.cells a cap).toArray] Fr w []
  (fun v L=>∃a' c',v=.agg (c.cells a' c').toArray∧L=[aA aU 2 a' c.ms.length c' (flat aH c.ms)]):=by
 refine TF 8 Tryz.func82 Z ym aD Z Z ?_
 refine CS (CG (VG (VB (vs:=c.cells a cap) Z (fun b=>VG (VO.alloc Z fun d=>VG (VN ?_))))))
 refine dz ?_
 refine O9 ?_
 refine VG (VO.append (m:=c.ms.length) (news:=flat aH c.ms) 0 Z Z Z Z Z Z Z (aV.row cn h) (qd vc _) P_ yd fun a' c' _=>?_)
 rw[di,nN]
 refine aj ?_
 refine VG (VO.st 2 (cs':=c.cells a' c') Z Z Z Z uC Z Z (VG (VN ?_)))
 refine CS (CG (VG (VL 2 (c.cells a' c') Z Z Z Z (VG (VT (vs:=c.cells a' c') (cs':=c.cells a' c') 1 Z Z Z Z (NR _) Z Z Z (VG (VN ?_)))))))
 exact HU
def iU:Int:=9223372036854775807
def kN(R:av)(c:aW):av:={ R with aI:=R.aI.ff iU,aK:={ R.aK with l:=[] },ch:=c }
def fD(R:av)(c:aW):Bool:=(cm c R.id).2&&decide ((cm c R.id).1≠R.since)
def nz(R:av)(c:aW):Bool:=!(cm c R.id).2||decide ((cm c R.id).1≠R.since)
def iQ(R:av)(c:aW):av:={ kN R c with log:=if fD R c then [] else R.log,an:=if fD R c then bz.new R.cap else R.an }
def pZ(R:av)(c:aW):av:={ iQ R c with whole:=if nz R c then false else R.whole }
def cI(R:av)(c:aW):av:={ pZ R c with since:=(cm c R.id).1,linked:=false,dW:=0,base:=-1,an:={ (iQ R c).an with bO:=(iQ R c).an.last,jA:=0 } }
def cH(R:av)(c:aW):av:=if (cI R c).whole then { cI R c with start:=(cI R c).an.last } else cI R c
def oL(R:av)(c:aW):List bQ:=refs c.ar (R.aI.aL.cQ iU) 9++refs c.ar (R.aK.l.map sh.f) 9
def iI(R:av)(c:aW):av×List bQ:=((cH R c).bL,oL R c++(cH R c).ir++(cH R c).bL.eZ++(cH R c).bL.gC++(cH R c).bL.ky)
theorem Sv{R:av}(h:R.Ok){c:aW}(hc:kj c):(kN R c).Ok:=⟨hc,h.an,h.last,h.ku,h.kR,h.ie,h.ig,by show(0:Int)≤_;have:=h.ie;exact uJ yo this,h.kW,h.lM,fun y hy=>absurd hy (oE),(by
  obtain⟨h1,h2,h3⟩:=p_ h.wf iU
  intro q hq g hg
  have:=zu h.wf h.calls iU q hq g hg
  exact this),(p_ h.wf iU).1⟩
theorem Ka{R:av}(h:R.Ok){c:aW}(hc:kj c)(h0:1≤R.cap)(h1:R.cap≤16):(iQ R c).Ok:=by
 have k:=Sv h hc
 refine⟨hc,?_,?_,?_,?_,k.ie,k.ig,k.rl,k.kW,k.lM,k.jn,k.calls,k.wf⟩
 ·show(if fD R c then bz.new R.cap else R.an).Ok;split;exact bz.CB h0 h1;exact h.an
 ·show(if fD R c then bz.new R.cap else R.an).last=((if fD R c then [] else R.log).length:Int);split;rfl;exact h.last
 ·show ∀e∈(if fD R c then [] else R.log),_;split;exact fun e he=>absurd he oE;exact h.ku
 ·show ∀e∈(if fD R c then [] else R.log),1≤e.index∧e.index≤((if fD R c then [] else R.log).length:Int);split;exact fun e he=>absurd he oE;exact h.kR
theorem Kb{R:av}(h:R.Ok){c:aW}(hc:kj c)(h0:1≤R.cap)(h1:R.cap≤16):(cI R c).Ok:=by
 have k:=Ka h hc h0 h1
 have w:=k.an
 exact⟨hc,⟨w.dL,w.fO,w.lD,w.jg,w.jY,by have:=w.lD;have:=w.jg;show 0≤(iQ R c).an.last;omega,cd _,cd _,(by decide:(0:Int)≤4112)⟩,k.last,k.ku,k.kR,k.ie,k.ig,k.rl,k.kW,k.lM,k.jn,k.calls,k.wf⟩
theorem BY{R:av}(h:R.Ok){c:aW}(hc:kj c)(h0:1≤R.cap)(h1:R.cap≤16):(cH R c).Ok:=by
 have k:=Kb h hc h0 h1
 unfold cH
 split
 ·exact⟨k.ch,k.an,k.last,k.ku,k.kR,k.ie,k.ig,k.rl,k.kW,k.lM,k.jn,k.calls,k.wf⟩
 ·exact k
theorem Sz{R:av}(h:R.Ok){c:aW}(hc:kj c)(h0:1≤R.cap)(h1:R.cap≤16):(iI R c).1.Ok:=wQ (BY h hc h0 h1)
section
variable {p:Nat} {R:av} {b:Nat} {S:List bQ} {c:aW} {a:Option Addr} {cap:Nat}
theorem SD(ok:R.Ok)(hc0:1≤R.cap)(hc1:R.cap≤16)(hS:S.length≤800000)(hm:aV aH 2 Fr w a c.ms)(hc:kj c):az Tryz.prog 186 [.pointer (some ⟨p,0,none⟩),.agg (c.cells a cap).toArray,ed b] Fr w [bp p R,aZ b S]
  (fun v L=>v=.tuple #[]∧L=[bp p (iI R c).1,aZ b (S++(iI R c).2)]):=by
 have hg64:=B' ok iU
 have hgc:=zF ok.calls iU
 have hrl:=ok.rl;have hrc:=ok.ig
 have hcl:=hc.len
 have ok2:=Ka ok hc hc0 hc1
 have ok4:=Kb ok hc hc0 hc1
 have ok5:=BY ok hc hc0 hc1
 refine TF 143 Tryz.func186 Z ym aD Z Z ?_
 refine CS (CG (VG (VB (vs:=c.cells a cap) Z fun cb=>VG (VN ?_))))
 refine DP ?_
 rintro x -
 refine CN (L':=[bo x.ap R.aI,pt p (bx R x) df,aA aU 2 x.a R.ch.ms.length x.c (flat aH R.ch.ms),bM x.lp R.log,bG x.wp R.an,bH x.rp R.aK,pt cb (c.cells a cap) dP,aZ b S]) (bm [4,0,0,0,0,0,0,0]).ah ?_
 refine CS ?_
 refine CD (ts 0 4 (ts 5 4 (.only 4 (.only 9 (ts 10 2 .nil))))) ym yr ?_
 refine fK ?_
 refine AG (AO (OC (Lc:=[bo x.ap R.aI]) (R:=Fy x.ap (R.aI.ff iU) (R.aI.aL.cQ iU)) Z (.refl _) (fun Fr w hF hs hS=>Adm.Fo Fr w x.ap R.aI ok.calls)) Z ?_ ?_)
 ·rintro _ _ ⟨_,⟨r,rok,hrx,rfl,rfl⟩,rfl⟩
  exact yu
 rintro _ _ ⟨_,⟨r,rok,hrx,rfl,rfl⟩,rfl⟩
 refine jt ?_
 refine VA.ah (L':=[bH x.rp R.aK,r.h cC,bo x.ap (R.aI.ff iU),pt p (bx R x) df,aA aU 2 x.a R.ch.ms.length x.c (flat aH R.ch.ms),bM x.lp R.log,bG x.wp R.an,pt cb (c.cells a cap) dP,aZ b S]) (bm [6,0,0,0,0,0,0,0,0]).ah ?_
 refine AG (AO (OC (Lc:=[bH x.rp R.aK]) (R:=fun v L=>∃a c rows,rows.map Prod.fst=R.aK.l∧v=.slice a rows.length c∧L=[bH x.rp { R.aK with l:=[] },aA eU 34 a rows.length c (flat dw rows)]) Z (.refl _) (fun Fr w hF hs hS=>Rd.Fo Fr w ok.ie yd)) Z ?_ ?_)
 ·rintro _ _ ⟨_,⟨ga,gc,rows,hrows,rfl,rfl⟩,rfl⟩
  exact yu
 rintro _ _ ⟨_,⟨ga,gc,rows,hrows,rfl,rfl⟩,rfl⟩
 have hrowl:rows.length≤16:=by
  have:=congrArg List.length hrows
  rw[cW] at this
  omega
 have hrv:r.v=.slice r.addr r.xs.length r.cap:=rfl
 rw[hrv]
 refine rN ?_
 show VC _ _ _ [bH x.rp (kN R c).aK,aA eU 34 ga rows.length gc (flat dw rows),r.h cC,bo x.ap (kN R c).aI,pt p (bx R x) df,aA aU 2 x.a R.ch.ms.length x.c (flat aH R.ch.ms),bM x.lp R.log,bG x.wp R.an,pt cb (c.cells a cap) dP,aZ b S] _
 refine sX ?_
 refine aj ?_
 refine VG (VL 8 (c.cells a cap) Z Z Z Z ?_)
 refine O_ ?_
 rintro _ _ ⟨a',c',rfl,rfl⟩
 refine VG (VT (vs:=c.cells a' c') (cs':=bx (kN R c) { x with a:=a',c:=c' }) 5 Z Z Z Z (by show 4+3≤17;omega) Z Z Z ?_)
 refine lg ?_
 refine CN (L':=[pt p (bx (kN R c) { x with a:=a',c:=c' }) df,aA aU 2 a' c.ms.length c' (flat aH c.ms),bM x.lp R.log,bG x.wp R.an,bo x.ap (kN R c).aI,bH x.rp (kN R c).aK,aA eU 34 ga rows.length gc (flat dw rows),r.h cC,aZ b S]) (bm [5,0,5,5,3,0,0,0,2]).ah ?_
 refine CS (CD (ts 0 8 (.only 8 (ts 9 5 .nil))) ym yr ?_)
 refine bt ?_
 refine AG (VA.dQ 0 (c.cells a' c') Z Z Z Z Z ?_)
 refine bt ?_
 refine AG (AR (fun Fr w hF hs hS=>Ch.G9 Fr w (aV.aA cn (hS.at_ 1 Z)) yd R.id) Z Z yu ?_)
 refine bt ?_
 have hE:∀{E:Env} {s:mY},True:=fun {_} {_}=>trivial
 refine CS ?_
 refine VC.dX (σ:=mY) (fun _=>[(0,pV p),(2,ed b),(6,.slice r.addr r.xs.length r.cap),(7,.slice ga rows.length gc),(8,.int .i64 (cm c R.id).1),(9,.bool (cm c R.id).2)])
  (fun y=>[pt p (bx (iQ R c) y) df,aA aU 2 y.a c.ms.length y.c (flat aH c.ms),bM y.lp (iQ R c).log,bG y.wp (iQ R c).an,bo y.ap (kN R c).aI,bH y.rp (kN R c).aK,aA eU 34 ga rows.length gc (flat dw rows),r.h cC,aZ b S]) (fun _=>True) ?_ ?_
 ·have S6:∀{E:Env},Vg.look E 0=some (.pointer (some ⟨p,0,none⟩))→Vg.look E 2=some (ed b)→Vg.look E 6=some (.slice r.addr r.xs.length r.cap)→Vg.look E 7=some (.slice ga rows.length gc)→Vg.look E 8=some (.int .i64 (cm c R.id).1)→Vg.look E 9=some (.bool (cm c R.id).2) →
    Sub [(0,pV p),(2,ed b),(6,.slice r.addr r.xs.length r.cap),(7,.slice ga rows.length gc),(8,.int .i64 (cm c R.id).1),(9,.bool (cm c R.id).2)] E:=fun h0 h1 h2 h3 h4 h5=>SC h0 (SC h1 (SC h2 (SC h3 (SC h4 (SC h5 (SN _))))))
  have no:fD R c=false→∀{X:Cx},dq X [pt p (bx (kN R c) { x with a:=a',c:=c' }) df,aA aU 2 a' c.ms.length c' (flat aH c.ms),bM x.lp R.log,bG x.wp R.an,bo x.ap (kN R c).aI,bH x.rp (kN R c).aK,aA eU 34 ga rows.length gc (flat dw rows),r.h cC,aZ b S]
    [pt p (bx (iQ R c) { x with a:=a',c:=c' }) df,aA aU 2 a' c.ms.length c' (flat aH c.ms),bM x.lp (iQ R c).log,bG x.wp (iQ R c).an,bo x.ap (kN R c).aI,bH x.rp (kN R c).aK,aA eU 34 ga rows.length gc (flat dw rows),r.h cC,aZ b S]:=fun h {X}=>by
   rw[show(iQ R c).log=R.log by show(if fD R c then [] else R.log)=_;rw[h];rfl,show(iQ R c).an=R.an by show(if fD R c then bz.new R.cap else R.an)=_;rw[h];rfl]
   exact ER
  refine aj ?_
  by_cases h1:(cm c R.id).2=true
  rotate_left
  ·have h1:(cm c R.id).2=false:=by simpa using h1
   refine VG (VY 42 false Z h1 ?_)
   refine tf ?_
   exact⟨{ x with a:=a',c:=c' },trivial,S6 Z Z Z Z Z Z,no (by rw[fD,h1];rfl)⟩
  refine VG (VY 42 true Z h1 ?_)
  refine bW ?_
  refine VC.dH (i:=(cm c R.id).1) (j:=R.since) Z (fun h2=>?_) (fun h2=>CK ?_)
  rotate_left
  ·exact⟨{ x with a:=a',c:=c' },trivial,S6 Z Z Z Z Z Z,no (by rw[fD,h1,h2];simp)⟩
  refine aj ?_
  refine VG (VK (Lc:=[]) (fun Fr w _ _ _=>Lg.lK Fr w) Z Z ?_)
  rintro _ _ ⟨lp,rfl,rfl⟩
  refine VG (VO.st 1 (cs':=bx (kN R c) { x with a:=a',c:=c',lp:=lp }) Z Z Z Z (by show 9<17;omega) Z Z ?_)
  refine dz ?_
  refine VG (VK (Lc:=[]) (fun Fr w _ _ _=>Win.lK Fr w hc0 hc1) Z Z ?_)
  rintro _ _ ⟨wp,rfl,rfl⟩
  refine aj ?_
  refine VG (VO.st 2 (cs':=bx (kN R c) { x with a:=a',c:=c',lp:=lp,wp:=wp }) Z Z Z Z (by show 10<17;omega) Z Z ?_)
  refine aj ?_
  have hn:fD R c=true:=by rw[fD,h1,DT h2];rfl
  refine⟨{ x with a:=a',c:=c',lp:=lp,wp:=wp },trivial,S6 Z Z Z Z Z Z,?_⟩
  rw[show(iQ R c).log=[] by show(if fD R c then [] else R.log)=_;rw[hn];rfl,show(iQ R c).an=bz.new R.cap by show(if fD R c then bz.new R.cap else R.an)=_;rw[hn];rfl]
  exact(bm [2,2,1,0,2,2,2,2,2]).ah
 rintro y -
 have ewhole:(iQ R c).whole=R.whole:=rfl
 refine CS ?_
 refine VC.dX (σ:=Unit) (fun _=>[(0,pV p),(2,ed b),(6,.slice r.addr r.xs.length r.cap),(7,.slice ga rows.length gc),(8,.int .i64 (cm c R.id).1)])
  (fun _=>[pt p (bx (pZ R c) y) df,aA aU 2 y.a c.ms.length y.c (flat aH c.ms),bM y.lp (iQ R c).log,bG y.wp (iQ R c).an,bo y.ap (kN R c).aI,bH y.rp (kN R c).aK,aA eU 34 ga rows.length gc (flat dw rows),r.h cC,aZ b S]) (fun _=>True) ?_ ?_
 ·have S5:∀{E:Env},Vg.look E 0=some (.pointer (some ⟨p,0,none⟩))→Vg.look E 2=some (ed b)→Vg.look E 6=some (.slice r.addr r.xs.length r.cap)→Vg.look E 7=some (.slice ga rows.length gc)→Vg.look E 8=some (.int .i64 (cm c R.id).1) →
    Sub [(0,pV p),(2,ed b),(6,.slice r.addr r.xs.length r.cap),(7,.slice ga rows.length gc),(8,.int .i64 (cm c R.id).1)] E:=fun h0 h1 h2 h3 h4=>SC h0 (SC h1 (SC h2 (SC h3 (SC h4 (SN _)))))
  have yes:nz R c=true→bx (pZ R c) y=bx { iQ R c with whole:=false } y:=fun h=>by
   rw[show pZ R c={ iQ R c with whole:=false } by unfold pZ;rw[h];rfl]
  have no:nz R c=false→bx (pZ R c) y=bx (iQ R c) y:=fun h=>by
   rw[show pZ R c=iQ R c by unfold pZ;rw[h];rfl]
  refine aj ?_
  by_cases h1:(cm c R.id).2=true
  rotate_left
  ·have h1:(cm c R.id).2=false:=by simpa using h1
   refine VG (VY 67 true Z (by rw[h1];rfl) ?_)
   refine rR ?_
   refine O' ?_
   refine aj ?_
   refine⟨(),trivial,S5 Z Z Z Z Z,?_⟩
   dsimp only
   rw[yes (by rw[nz,h1];rfl)]
   exact ER
  refine VG (VY 67 false Z (by rw[h1];rfl) ?_)
  refine bW ?_
  refine VC.dH (i:=(cm c R.id).1) (j:=R.since) Z (fun h2=>?_) (fun h2=>CK ?_)
  ·refine aj ?_
   refine O' ?_
   refine aj ?_
   refine⟨(),trivial,S5 Z Z Z Z Z,?_⟩
   dsimp only
   rw[yes (by rw[nz,h1,DT h2];rfl)]
   exact ER
  ·refine⟨(),trivial,S5 Z Z Z Z Z,?_⟩
   dsimp only
   rw[no (by rw[nz,h1,h2];simp)]
   exact ER
 rintro _ -
 refine aj ?_
 refine VG (VO.st 0 (cs':=bx { pZ R c with since:=(cm c R.id).1 } y) Z Z Z Z (by show 7<17;omega) Z Z ?_)
 refine lg ?_
 refine aj ?_
 refine VG (VO.st 0 (cs':=bx { pZ R c with since:=(cm c R.id).1,linked:=false } y) Z Z Z Z (by show 15<17;omega) Z Z ?_)
 refine aj ?_
 refine VG (VO.st 0 (cs':=bx { pZ R c with since:=(cm c R.id).1,linked:=false,dW:=0 } y) Z Z Z Z (by show 16<17;omega) Z Z ?_)
 refine aj ?_
 refine VG (VO.st 0 (cs':=bx (cI R c) y) Z Z Z Z (by show 14<17;omega) Z Z ?_)
 refine aj ?_
 refine VG (VQ 3 Z (fun Fr w hF hs hS=>Win.Xd Fr w ok2.an) Z (ψ:=fun v H=>v=.tuple #[]∧H=bG y.wp (cI R c).an) yy ?_)
 rintro _ _ ⟨rfl,rfl⟩
 refine lg ?_
 show VC _ _ _ [pt p (bx (cI R c) y) df,aA aU 2 y.a c.ms.length y.c (flat aH c.ms),bM y.lp (cI R c).log,bG y.wp (cI R c).an,bo y.ap (cI R c).aI,bH y.rp (cI R c).aK,aA eU 34 ga rows.length gc (flat dw rows),r.h cC,aZ b S] _
 have q0:=ok4.an.dL
 refine CS ?_
 refine VC.dX (σ:=Unit) (fun _=>[(0,pV p),(2,ed b),(6,.slice r.addr r.xs.length r.cap),(7,.slice ga rows.length gc)])
  (fun _=>[pt p (bx (cH R c) y) df,aA aU 2 y.a c.ms.length y.c (flat aH c.ms),bM y.lp (cH R c).log,bG y.wp (cH R c).an,bo y.ap (cH R c).aI,bH y.rp (cH R c).aK,aA eU 34 ga rows.length gc (flat dw rows),r.h cC,aZ b S]) (fun _=>True) ?_ ?_
 ·refine aj ?_
  refine CC Z (fun h1=>?_) (fun h1=>CK ?_)
  ·have e5:cH R c={ cI R c with start:=(cI R c).an.last }:=by rw[cH,if_pos h1]
   refine aj ?_
   refine VG (VV (fun Fr w hF hs hS=>Win.pk Fr w (hS.aC 3 Z) q0) Z ?_)
   refine aj ?_
   refine VG (VO.st 0 (cs':=bx { cI R c with start:=(cI R c).an.last } y) Z Z Z Z (by show 13<17;omega) Z Z ?_)
   refine aj ?_
   refine⟨(),trivial,aP,?_⟩
   dsimp only
   rw[e5];exact ER
  ·have e5:cH R c=cI R c:=by rw[cH,if_neg s9]
   refine⟨(),trivial,aP,?_⟩
   dsimp only
   rw[e5];exact ER
 rintro _ -
 have hch:(cH R c).ch=c:=by unfold cH;split<;>rfl
 have hhp:∀S':List bQ,[pt p (bx (cH R c) y) df,aA aU 2 y.a c.ms.length y.c (flat aH c.ms),bM y.lp (cH R c).log,bG y.wp (cH R c).an,bo y.ap (cH R c).aI,bH y.rp (cH R c).aK,aA eU 34 ga rows.length gc (flat dw rows),r.h cC,aZ b S']
  = [pt p (bx (cH R c) y) df,aA aU 2 y.a (cH R c).ch.ms.length y.c (flat aH (cH R c).ch.ms),bM y.lp (cH R c).log,bG y.wp (cH R c).an,bo y.ap (cH R c).aI,bH y.rp (cH R c).aK,aA eU 34 ga rows.length gc (flat dw rows),r.h cC,aZ b S']:=fun S'=>by rw[hch]
 rw[hhp]
 generalize hR5:cH R c=R5 at *
 refine aj ?_
 refine VC.loop (σ:=Nat) (fun i=>[(0,pV p),(2,ed b),(7,.slice ga rows.length gc),(108,.slice r.addr r.xs.length r.cap),(109,.int .i64 r.xs.length),(110,.int .i64 i)])
  (fun i=>[pt p (bx R5 y) df,aA aU 2 y.a R5.ch.ms.length y.c (flat aH R5.ch.ms),bM y.lp R5.log,bG y.wp R5.an,bo y.ap R5.aI,bH y.rp R5.aK,aA eU 34 ga rows.length gc (flat dw rows),r.h cC,aZ b (S++refs c.ar ((R.aI.aL.cQ iU).take i) 9)])
  (fun i=>i≤r.xs.length) (fun i=>r.xs.length-i) 0
  (bU _) aP (by rw[r6,show refs c.ar [] 9=[] from rfl,bK];exact ER) ?_
 intro i hi
 have hxl:r.xs.length=(R.aI.aL.cQ iU).length:=by rw[←hrx];simp
 refine aj ?_
 refine CP Z (fun h1=>CK ?_) (fun h1=>CX ?_)
 ·have hi2:i<r.xs.length:=by omega
  obtain⟨g,hg⟩:∃g,r.xs[i]?=some g:=⟨_,GE hi2⟩
  have hgg:(R.aI.aL.cQ iU)[i]?=some g.1:=by rw[←hrx,eh,hg];rfl
  have hcg:=hgc g.1 (ME hgg)
  have hc6:=ok.wf.c1
  obtain⟨gb,go,r1,r2,hrd⟩:=rok.ld (t:=cC) hg rfl
  rw[r2]
  refine uE ?_
  refine VG (VO.load Z Z ((hrd 7 Z).1 _ Z Z) ?_)
  refine VG (VO.alloc Z fun tb=>?_)
  refine VG (VT (vs:=aY g) 0 Z Z Z Z (NR _) Z Z Z ?_)
  refine aj ?_
  refine VG (VL 0 (aY g) Z Z Z Z ?_)
  refine VG (VQ 9 Z (fun Fr w hF hs hS=>vq Fr w (hS.aC 1 Z) P9 g.1 g.2 hcg.1.1 (by have:=hcg.1.2;omega) 9) Z (ψ:=fun v H=>v=.tuple #[]∧H=aZ b (S++refs c.ar ((R.aI.aL.cQ iU).take i) 9 ++ [(32+g.1.aF,iY c.ar g.1 9)])) Qa ?_)
  rintro _ _ ⟨rfl,rfl⟩
  refine jJ ?_
  refine⟨i+1,hi2,by dsimp only;omega,aP,?_⟩
  dsimp only
  rw[show refs c.ar ((R.aI.aL.cQ iU).take (i+1)) 9=refs c.ar ((R.aI.aL.cQ iU).take i) 9 ++ [(32+g.1.aF,iY c.ar g.1 9)] by rw[jb,hgg];simp[refs],←eL]
  exact(bm [1,1,1,1,1,1,1,1,1]).ah
 obtain rfl:i=r.xs.length:=by omega
 rw[hxl,lj]
 have hrl1:(refs c.ar (R.aI.aL.cQ iU) 9).length≤64:=by rw[refs,cW];exact hg64
 generalize hS1:S++refs c.ar (R.aI.aL.cQ iU) 9=S1
 have hS1l:S1.length≤800064:=by rw[←hS1,a_];omega
 refine VC.bJ 6 Z (ba.rl eU ga gc rows Ar) ?_
 rintro q ⟨qok,hqv,hqx⟩
 show VC _ _ _ [q.h eU,pt p (bx R5 y) df,aA aU 2 y.a R5.ch.ms.length y.c (flat aH R5.ch.ms),bM y.lp R5.log,bG y.wp R5.an,bo y.ap R5.aI,bH y.rp R5.aK,r.h cC,aZ b S1] _
 refine aj ?_
 have hexp:∀i,i≤rows.length→((rows.take i).map fun y=>y.1.f).length=i:=fun i hi=>by simp;omega
 refine VC.loop (σ:=Nat) (fun i=>[(0,pV p),(2,ed b),(119,.slice ga rows.length gc),(120,.int .i64 rows.length),(121,.int .i64 i)])
  (fun i=>[q.h eU,pt p (bx R5 y) df,aA aU 2 y.a R5.ch.ms.length y.c (flat aH R5.ch.ms),bM y.lp R5.log,bG y.wp R5.an,bo y.ap R5.aI,bH y.rp R5.aK,aZ b (S1++refs c.ar ((rows.take i).map fun y=>y.1.f) 9)])
  (fun i=>i≤rows.length) (fun i=>rows.length-i) 0
  (bU _) aP (by
   rw[r6,show refs c.ar (List.map (fun y=>y.1.f) ([]:List qO)) 9=[] from rfl,bK]
   exact(bm [0,0,0,0,0,0,0,1]).ah) ?_
 intro i hi
 refine aj ?_
 refine CP Z (fun h1=>CK ?_) (fun h1=>CX ?_)
 ·have hi2:i<rows.length:=by omega
  obtain⟨g,hg⟩:∃g,rows[i]?=some g:=⟨_,GE hi2⟩
  have hgm:g.1∈R.aK.l:=by
   rw[←hrows]
   exact bP.2 ⟨g,ME hg,Z⟩
  have hcg:=ok.jn g.1 hgm
  obtain⟨gb,go,r1,r2,hrd⟩:=qok.ld (t:=eU) (hqx▸hg) rfl
  obtain rfl:ga=some ⟨gb,go,none⟩:=by rw[RL.v,r2,hqx] at hqv;injection hqv with e1;exact e1.symm
  refine uE ?_
  refine HS ?_
  refine VG (VO.alloc Z fun tb=>?_)
  refine HT ?_
  refine aj ?_
  refine VG (VL 0 (cM g.1.f g.2) Z Z Z Z ?_)
  refine VG (VQ 8 Z (fun Fr w hF hs hS=>vq Fr w (hS.aC 2 Z) (by rw[a_,refs,cW,hexp i yd];omega) g.1.f g.2 hcg.1 yd 9) Z (ψ:=fun v H=>v=.tuple #[]∧H=aZ b (S1++refs c.ar ((rows.take i).map fun y=>y.1.f) 9 ++ [(32+g.1.f.aF,iY c.ar g.1.f 9)])) Qa ?_)
  rintro _ _ ⟨rfl,rfl⟩
  refine jJ ?_
  refine⟨i+1,hi2,by dsimp only;omega,aP,?_⟩
  dsimp only
  rw[show refs c.ar ((rows.take (i+1)).map fun y=>y.1.f) 9=refs c.ar ((rows.take i).map fun y=>y.1.f) 9 ++ [(32+g.1.f.aF,iY c.ar g.1.f 9)] by rw[jb,hg];simp[refs],←eL]
  exact(bm [1,1,1,1,1,1,1,1]).ah
 obtain rfl:i=rows.length:=by omega
 rw[lj]
 have hes:S1++refs c.ar (rows.map fun y=>y.1.f) 9=S++oL R c:=by
  rw[←hS1,oL,←hrows,mV,eL];rfl
 have hel:(S++oL R c).length≤800080:=by rw[←hes,a_,refs,cW,cW];omega
 rw[hes]
 refine CN (L':=[bp p R5,aZ b (S++oL R c)]) (aa.rep (R:=R5) y (bm [1,1,1,1,1,1,1])).ah ?_
 generalize hS2:S++oL R c=S2 at *
 refine aj ?_
 refine VG (VK (Lc:=[bp p R5,aZ b S2]) (Lr:=[]) (fun Fr w hF hs hS=>Fa Fr w ok5 yd) Z Z ?_)
 rintro _ _ ⟨rfl,rfl⟩
 have fl:=zw ok5
 have okf:=wQ ok5
 refine aj ?_
 refine VO.bJ 0 Z (ba.rep p R5.bL) ?_
 rintro y2 -
 show VO _ _ _ _ _ (gG p R5.bL y2 b (S2++R5.ir)) _
 unfold gG
 refine aj ?_
 refine VG (VQ 6 Z (fun Fr w hF hs hS=>Cb Fr w (gL.oS hS 0 Z Z Z Z Z Z) okf.ch okf.an yp) Z (ψ:=fun v H=>v=.tuple #[]∧H=aZ b (S2++R5.ir++R5.bL.eZ)) yy ?_)
 rintro _ _ ⟨rfl,rfl⟩
 have gl:R5.bL.eZ.length≤1:=by unfold av.eZ;split<;>simp
 refine aj ?_
 refine VG (VQ 6 Z (fun Fr w hF hs hS=>Hd Fr w (gL.oS hS 0 Z Z Z Z Z Z) okf.ch (by rw[a_,a_];omega)) Z (ψ:=fun v H=>v=.tuple #[]∧H=aZ b (S2++R5.ir++R5.bL.eZ++R5.bL.gC)) yy ?_)
 rintro _ _ ⟨rfl,rfl⟩
 have bl:R5.bL.gC.length≤1:=by unfold av.gC;split<;>simp
 refine aj ?_
 refine VG (VQ 6 Z (fun Fr w hF hs hS=>NH Fr w (hS.aC 0 Z) (by rw[a_,a_,a_];omega)) Z (ψ:=fun v H=>v=.tuple #[]∧H=aZ b (S2++R5.ir++R5.bL.eZ++R5.bL.gC++R5.bL.ky)) yy ?_)
 rintro _ _ ⟨rfl,rfl⟩
 refine aj ?_
 refine aq.void Z (nD (R:=R5.bL) (x:=y2)).ah ⟨rfl,?_⟩
 simp only[iI,hR5,←hS2,eL]
end
end Rep
namespace Rep
open Go Vg T Api Kv Ch Lg Rd Win Adm Sched Conf
attribute [local irreducible] VO VC VA
def jj(n:Nat):List aR:=(List.range n).map fun(i:Nat)=>((i:Int),(1:Int))
theorem uU(n:Nat):(jj n).length=n:=by simp[jj]
theorem S9(n:Nat):jj (n+1)=jj n ++ [((n:Int),(1:Int))]:=by simp[jj,v8]
def b_(c:bh):aW:=⟨1,jj c.chain.toNat,-1⟩
def qU:aW:=⟨0,[],0⟩
theorem lX{c:bh}(h:c=bI c):(1≤c.nodes∧c.nodes≤6)∧(1≤c.chain∧c.chain≤c.nodes)∧(1≤c.gZ∧c.gZ≤16)∧(1≤c.reads∧c.reads≤16)∧(1≤c.bC∧c.bC≤6):=by
 have e1:c.nodes=aG c.nodes 1 6:=congrArg bh.nodes h
 have e2:c.chain=aG c.chain 1 (aG c.nodes 1 6):=congrArg bh.chain h
 have e3:c.gZ=aG c.gZ 1 16:=congrArg bh.gZ h
 have e4:c.reads=aG c.reads 1 16:=congrArg bh.reads h
 have e5:c.bC=aG c.bC 1 6:=congrArg bh.bC h
 have n1:=mN (x:=c.nodes) (lo:=1) (hi:=6) yo
 have n2:=mN (x:=c.chain) (lo:=1) (hi:=aG c.nodes 1 6) n1.1
 have n3:=mN (x:=c.gZ) (lo:=1) (hi:=16) yo
 have n4:=mN (x:=c.reads) (lo:=1) (hi:=16) yo
 have n5:=mN (x:=c.bC) (lo:=1) (hi:=6) yo
 omega
theorem Kq(c:bh)(a:Option Addr)(cap:Nat)(hq:iD Fr w a c.qs)(ha:oG a)(hcap:c.qs.length≤cap):az Tryz.prog 46 [.agg (c.cells a cap).toArray] Fr w []
  (fun v L=>if c=bI c then ∃a' c',v=.tuple #[.agg ((b_ c).cells a' c').toArray,.int .i64 0]∧L=[aA aU 2 a' (b_ c).ms.length c' (flat aH (b_ c).ms)] else v=.tuple #[.agg (qU.cells none 0).toArray,.int .i64 2]∧L=[]):=by
 refine TF 27 Tryz.func46 Z ym aD Z Z ?_
 refine CS (CG (VG (VB (vs:=c.cells a cap) Z fun x=>VG (VO.alloc Z fun d=>?_))))
 refine dz ?_
 refine ux ?_
 refine VG (VV (fun Fr w hF hs _=>Conf.iG Fr w c a cap (oh hq hF hs) ha hcap) Z ?_)
 refine aj ?_
 refine VC.dH Z (fun h1=>?_) (fun h1=>CK ?_)
 ·have hc:¬c=bI c:=fun e=>h1 (by rw[nY,if_pos e])
  have hc2:nY c=2:=by rw[nY,if_neg hc]
  refine aj ?_
  refine VG (VI (LB (pv:=[]) (qU.cells none 0) Z Z Z ym Z) ?_)
  refine aj ?_
  refine HV ?_
  refine aj ?_
  refine CR (aq.dB 2 3 Z Z Z (ax.many 0 Z Z) Z aa.nil.ah ?_)
  rw[if_neg hc,hc2];exact⟨rfl,rfl⟩
 have hc:c=bI c:=by
  apply Decidable.byContradiction
  intro hc
  rw[nY,if_neg hc] at h1
  cases h1
 have hb:=lX hc
 refine aj ?_
 refine VG (VI (LB (pv:=[(0,.int .i64 1),(2,.int .i64 (-1))]) [.int .i64 1,.slice none 0 0,.int .i64 (-1)] Z Z Z ym Z) ?_)
 refine aj ?_
 refine VG (VT (vs:=[.int .i64 1,.slice none 0 0,.int .i64 (-1)]) (cs':=[.int .i64 1,.slice none 0 0,.int .i64 (-1)]) 0 Z Z Z Z (NR _) Z Z Z ?_)
 refine dz ?_
 refine VC.loop (σ:=Nat×Option Addr×Nat) (fun y=>[(2,pV d),(14,.int .i64 c.chain),(15,.int .i64 y.1)])
  (fun y=>[aA aU 2 y.2.1 y.1 y.2.2 (flat aH (jj y.1)),pt d [.int .i64 1,.slice y.2.1 y.1 y.2.2,.int .i64 (-1)] dP])
  (fun y=>(y.1:Int)≤c.chain) (fun y=>c.chain.toNat-y.1) (0,none,0)
  f_ aP (aa.dM (IP 0 rfl aa.nil)).ah ?_
 rintro⟨i,a',c'⟩ hi
 dsimp only at hi ⊢
 refine aj ?_
 refine CP Z (fun h1=>CK ?_) (fun h1=>CX ?_)
 ·refine dz ?_
  refine VG (VI (LB (pv:=[(0,.int .i64 i),(1,.int .i64 1)]) (aH ((i:Int),1)) Z Z Z ym Z) ?_)
  refine VG (VO.buildSlice (n:=1) (pv:=[(0,.agg (aH ((i:Int),1)).toArray)]) (aH ((i:Int),1)) Z Z Z Z yo (ji Z Z Z) fun nb=>?_)
  refine VG (VO.append (m:=1) (news:=aH ((i:Int),1)) 1 Z Z Z Z Z Z Z (fv.pt 0 Z Z Z) Z (AE (k:=101) yd yo) yd fun a2 c2 hc2=>?_)
  refine aj ?_
  refine VG (VO.st 2 (cs':=[.int .i64 1,.slice a2 (i+1) c2,.int .i64 (-1)]) Z Z Z Z uC Z Z ?_)
  refine jJ ?_
  refine⟨(i+1,a2,c2),by dsimp only;omega,by dsimp only;omega,aP,?_⟩
  dsimp only
  rw[S9,jU,lZ,sv,bK]
  exact(bm [0,1]).ah
 ·obtain rfl:i=c.chain.toNat:=by omega
  have e0:(b_ c).ms.length=c.chain.toNat:=uU _
  have e1:(b_ c).cells a' c'=[.int .i64 1,.slice a' c.chain.toNat c',.int .i64 (-1)]:=by rw[aW.cells,e0];rfl
  refine aj ?_
  refine VG (VL 1 [.int .i64 1,.slice a' c.chain.toNat c',.int .i64 (-1)] Z Z Z Z ?_)
  refine VG (VT (vs:=[.int .i64 1,.slice a' c.chain.toNat c',.int .i64 (-1)]) (cs':=[.int .i64 1,.slice a' c.chain.toNat c',.int .i64 (-1)]) 1 Z Z Z Z (NR _) Z Z Z ?_)
  refine aj ?_
  refine CR (aq.dB 2 3 Z Z Z (ax.many 1 Z Z) Z (IP 0 Z aa.nil).ah ?_)
  rw[if_pos hc,e0];exact⟨a',c',by rw[e1];rfl,rfl⟩
def iW(c:bh)(id:Int):av:={ id:=id,bC:=c.bC,cap:=c.gZ,iJ:=c.reads,ch:=qU,since:=0,whole:=false,log:=[],an:=bz.new c.gZ,aI:=ou c,aK:=e9.new c.reads,start:=-1,base:=-1,linked:=false,dW:=0 }
def cj(c:bh)(id:Int)(blank:Bool):av:=
 if blank then iW c id else if (cm (b_ c) id).2 then { iW c id with ch:=b_ c,since:=(cm (b_ c) id).1,whole:=true,start:=0 } else { iW c id with ch:=b_ c }
def sG(c:bh)(id:Int):Prop:=c=bI c∧0≤id∧id<c.nodes
instance (c:bh) (id:Int):Decidable (sG c id):=by unfold sG;infer_instance
theorem F3{c:bh}(h:c=bI c)(id:Int){C:aW}(hC:kj C)(s t:Int)(wh:Bool):({ iW c id with ch:=C,since:=s,whole:=wh,start:=t }:av).Ok:=by
 have hb:=lX h
 refine⟨hC,bz.CB hb.2.2.1.1 hb.2.2.1.2,Z,fun e he=>absurd he oE,fun e he=>absurd he oE,hb.2.2.2.1.1,hb.2.2.2.1.2,?_,cd _,(by decide:(0:Int)≤100000000),fun e he=>absurd he oE,Vr c,LW h⟩
 show(0:Int)≤c.reads;omega
theorem Kp{c:bh}(h:c=bI c):kj (b_ c):=⟨by have hb:=lX h;show(jj _).length≤1000;rw[uU];omega⟩
theorem Vu{c:bh}(h:c=bI c)(id:Int)(blank:Bool):(cj c id blank).Ok:=by
 unfold cj
 split
 ·exact F3 h id ⟨by decide⟩ 0 (-1) false
 split
 ·exact F3 h id (Kp h) _ 0 true
 ·exact F3 h id (Kp h) 0 (-1) false
def Ax(R:av)(a:Option Addr)(c:Nat)(l w d r:Value):List Value:=[.int .i64 R.id,.int .i64 R.bC,.int .i64 R.cap,.int .i64 R.iJ,.int .i64 R.ch.ar,.slice a R.ch.ms.length c,.int .i64 R.ch.drain,.int .i64 R.since,.bool R.whole,
 l,w,d,r,.int .i64 R.start,.int .i64 R.base,.bool R.linked,.int .i64 R.dW]
abbrev vn(b:Nat):Value:=.pointer (some ⟨b,0,none⟩)
theorem lK(c:bh)(a:Option Addr)(cap:Nat)(hq:iD Fr w a c.qs)(ha:oG a)(hcap:c.qs.length≤cap)(id:Int)(blank:Bool):az Tryz.prog 22 [.agg (c.cells a cap).toArray,.int .i64 id,.bool blank] Fr w []
  (fun v L=>if sG c id then ∃p,v=.tuple #[.pointer (some ⟨p,0,none⟩),.int .i64 0]∧L=[bp p (cj c id blank)] else v=.tuple #[.pointer none,.int .i64 2]∧L=[]):=by
 refine TF 93 Tryz.func22 Z ym aD Z Z ?_
 refine CS (CG (VG (VB (vs:=c.cells a cap) Z fun x=>?_)))
 refine uF ?_
 refine VG (VK (Lc:=[]) (fun Fr w hF hs _=>Kq Fr w c a cap (oh hq hF hs) ha hcap) Z Z ?_)
 intro v L hv
 by_cases hc:c=bI c
 rotate_left
 ·rw[if_neg hc] at hv
  obtain⟨rfl,rfl⟩:=hv
  have hno:¬sG c id:=fun h=>hc h.1
  refine aj ?_
  refine VG (VO.alloc Z fun d=>?_)
  refine HV ?_
  refine aj ?_
  refine VG (VY 20 true Z Z ?_)
  refine bW ?_
  refine VG (VY 24 true Z Z ?_)
  refine rR ?_
  refine HW ?_
  rw[if_neg hno];exact⟨rfl,rfl⟩
 rw[if_pos hc] at hv
 obtain⟨a1,c1,rfl,rfl⟩:=hv
 have hb:=lX hc
 have hfl:(b_ c).ms.length≤6:=by show(jj _).length≤6;rw[uU];omega
 refine aj ?_
 refine VG (VO.alloc Z fun d=>?_)
 refine VG (VT (vs:=(b_ c).cells a1 c1) (cs':=(b_ c).cells a1 c1) 0 Z Z Z Z (NR _) Z Z Z ?_)
 refine aj ?_
 refine VG (VY 20 false Z Z ?_)
 refine bW ?_
 by_cases h0:id<0
 ·have hno:¬sG c id:=fun h=>by have:=h.2.1;omega
  refine VG (VY 24 true Z (DT h0) ?_)
  refine rR ?_
  refine HW ?_
  rw[if_neg hno];exact⟨rfl,rfl⟩
 refine VG (VY 24 false Z (DF h0) ?_)
 refine jG ?_
 refine CP Z (fun h1=>?_) (fun h1=>CK ?_)
 ·have hno:¬sG c id:=fun h=>by have:=h.2.2;omega
  refine aj ?_
  refine HW ?_
  rw[if_neg hno];exact⟨rfl,rfl⟩
 have hyes:sG c id:=⟨hc,by omega,by omega⟩
 show VC _ _ _ [pt d ((b_ c).cells a1 c1) dP,aA aU 2 a1 (b_ c).ms.length c1 (flat aH (b_ c).ms),pt x (c.cells a cap) _] _
 refine gK ?_
 refine VG (VI (LB (pv:=[(0,.int .i64 id),(1,.int .i64 c.bC),(2,.int .i64 c.gZ),(3,.int .i64 c.reads),(11,.int .i64 (-1)),(12,.int .i64 (-1))]) (Ax (iW c id) none 0 (.pointer none) (.pointer none) (.pointer none) (.pointer none)) Z Z Z ym Z) ?_)
 refine VG (VB (vs:=Ax (iW c id) none 0 (.pointer none) (.pointer none) (.pointer none) (.pointer none)) Z fun p=>?_)
 refine aj ?_
 refine VG (VK (Lc:=[]) (fun Fr w _ _ _=>Lg.lK Fr w) Z Z ?_)
 rintro _ _ ⟨lp,rfl,rfl⟩
 refine aj ?_
 refine VG (VO.st 1 (cs':=Ax (iW c id) none 0 (vn lp) (.pointer none) (.pointer none) (.pointer none)) Z Z Z Z (by show 9<17;omega) Z Z ?_)
 refine oB ?_
 refine VG (VK (Lc:=[]) (fun Fr w _ _ _=>Win.lK Fr w hb.2.2.1.1 hb.2.2.1.2) Z Z ?_)
 rintro _ _ ⟨wp,rfl,rfl⟩
 refine aj ?_
 refine VG (VO.st 2 (cs':=Ax (iW c id) none 0 (vn lp) (vn wp) (.pointer none) (.pointer none)) Z Z Z Z (by show 10<17;omega) Z Z ?_)
 refine aj ?_
 refine VG (VL 5 (c.cells a cap) Z Z Z Z ?_)
 refine VG (VK (Lc:=[]) (fun Fr w hF hs _=>Adm.lK Fr w c a cap (oh hq hF hs) ha hcap) Z Z ?_)
 intro v L hv
 rw[if_pos hc] at hv
 obtain⟨ap,rfl,rfl⟩:=hv
 refine aj ?_
 refine VG (VO.st 3 (cs':=Ax (iW c id) none 0 (vn lp) (vn wp) (vn ap) (.pointer none)) Z Z Z Z (by show 11<17;omega) Z Z ?_)
 refine O3 ?_
 refine VG (VK (Lc:=[]) (fun Fr w _ _ _=>Rd.lK Fr w hb.2.2.2.1.1 hb.2.2.2.1.2) Z Z ?_)
 rintro _ _ ⟨rp,rfl,rfl⟩
 refine aj ?_
 refine VG (VO.st 4 (cs':=bx (iW c id) ⟨none,0,lp,wp,ap,rp⟩) Z Z Z Z (by show 12<17;omega) Z Z ?_)
 refine aj ?_
 refine CN (L':=[pt p (bx (iW c id) ⟨none,0,lp,wp,ap,rp⟩) df,bM lp [],bG wp (bz.new c.gZ),bo ap (ou c),bH rp (e9.new c.reads),pt d ((b_ c).cells a1 c1) dP,aA aU 2 a1 (b_ c).ms.length c1 (flat aH (b_ c).ms)]) (bm [4,3,2,1,0,0,0]).ah ?_
 refine CC Z (fun hbl=>?_) (fun hbl=>CK ?_)
 ·refine aj ?_
  refine CR (aq.dh 6 7 Z Z Z (L':=[bp p (cj c id blank)]) ?_ Qb)
  rw[show cj c id blank=iW c id by rw[cj,if_pos hbl]]
  exact(aa.rep (R:=iW c id) ⟨none,0,lp,wp,ap,rp⟩ (IP 0 Z (aa.dM (bm [0,0,0,0])))).ah
 refine aj ?_
 refine VG (VL 5 ((b_ c).cells a1 c1) Z Z Z Z ?_)
 refine aj ?_
 refine VG (VT (vs:=(b_ c).cells a1 c1) (cs':=bx { iW c id with ch:=b_ c } ⟨a1,c1,lp,wp,ap,rp⟩) 0 Z Z Z Z (by show 4+3≤17;omega) Z Z Z ?_)
 refine aj ?_
 refine VG (VL 5 ((b_ c).cells a1 c1) Z Z Z Z ?_)
 refine aj ?_
 refine VG (VV (fun Fr w hF hs hS=>Ch.G9 Fr w (aV.aA cn (hS.at_ 6 Z)) yd id) Z ?_)
 refine aj ?_
 refine VC.dX (σ:=Unit) (fun _=>[(10,vn p)]) (fun _=>[bp p (cj c id blank)]) (fun _=>True) ?_ ?_
 ·refine CC Z (fun hs=>?_) (fun hs=>CK ?_)
  ·refine aj ?_
   refine VG (VO.st 0 (cs':=bx { iW c id with ch:=b_ c,since:=(cm (b_ c) id).1 } ⟨a1,c1,lp,wp,ap,rp⟩) Z Z Z Z (by show 7<17;omega) Z Z ?_)
   refine aj ?_
   refine VG (VO.st 0 (cs':=bx { iW c id with ch:=b_ c,since:=(cm (b_ c) id).1,whole:=true } ⟨a1,c1,lp,wp,ap,rp⟩) Z Z Z Z P' Z Z ?_)
   refine aj ?_
   refine VG (VO.st 0 (cs':=bx { iW c id with ch:=b_ c,since:=(cm (b_ c) id).1,whole:=true,start:=0 } ⟨a1,c1,lp,wp,ap,rp⟩) Z Z Z Z (by show 13<17;omega) Z Z ?_)
   refine aj ?_
   refine⟨(),trivial,aP,?_⟩
   dsimp only
   rw[show cj c id blank={ iW c id with ch:=b_ c,since:=(cm (b_ c) id).1,whole:=true,start:=0 } by rw[cj,if_neg (by rw[hbl];simp),if_pos hs]]
   exact(aa.rep (R:={ iW c id with ch:=b_ c,since:=(cm (b_ c) id).1,whole:=true,start:=0 }) ⟨a1,c1,lp,wp,ap,rp⟩ (bm [0,5,0,0,0,0])).ah
  ·refine⟨(),trivial,aP,?_⟩
   dsimp only
   rw[show cj c id blank={ iW c id with ch:=b_ c } by rw[cj,if_neg (by rw[hbl];simp),if_neg (by rw[hs];simp)]]
   exact(aa.rep (R:={ iW c id with ch:=b_ c }) ⟨a1,c1,lp,wp,ap,rp⟩ (bm [0,5,0,0,0,0])).ah
 rintro _ -
 refine aj ?_
 exact CR (aq.dh 6 7 Z Z Z ER Qb)
end Rep
namespace Rep
open Go Vg T Api Kv Ch Lg Rd Win Adm Sched Conf
attribute [local irreducible] VO VC VA
structure av.Fit(R:av):Prop where
 ok:R.Ok
 iJ:R.iJ=R.aK.cap
 dL:1≤R.cap
 fO:R.cap≤16
 cl:R.bC≤6
theorem CA{c:bh}(h:c=bI c)(id:Int)(blank:Bool):(cj c id blank).Fit:=by
 have hb:=lX h
 have ho:=Vu h id blank
 unfold cj at ho ⊢
 split
 ·rename_i h1;rw[if_pos h1] at ho;exact⟨ho,rfl,hb.2.2.1.1,hb.2.2.1.2,hb.2.2.2.2.2⟩
 ·rename_i h1;rw[if_neg h1] at ho
  split
  ·rename_i h2;rw[if_pos h2] at ho;exact⟨ho,rfl,hb.2.2.1.1,hb.2.2.1.2,hb.2.2.2.2.2⟩
  ·rename_i h2;rw[if_neg h2] at ho;exact⟨ho,rfl,hb.2.2.1.1,hb.2.2.1.2,hb.2.2.2.2.2⟩
def sM(o:bB):Bool:=decide (o.kind=1)&&decide (dD o=0)
def l8(f:ay)(ms:List aR):aW:=⟨f.dV,ms,f.drain⟩
def qy(R:av)(i:Int):av:={ R with aK:={ R.aK with l:=R.aK.l.filter (k_ i) } }
def qz(R:av)(i:Int):List bQ:=(R.aK.l.filter fun y=>!k_ i y).map fun y=>(32+y.f.aF,nF y.f.aF y.f.seq y.f.br y.r)
def jP(R:av)(i:Int):av:={ R with base:=max i (-1) }
def ct(R:av)(from_:Int)(f:ay)(ms:List aR)(now:Int):av×List bQ:=
 if f.kind=1 then (if f.aF<0 then (R,[]) else if R.bC≤f.aF then (R,[]) else if sM f.op=true then kV R f now else lf R f now)
 else if f.kind=8 then (if (from_=16∧e_ (l8 f ms)=0)∧R.ch.ar<f.dV then iI R (l8 f ms) else (R,[]))
 else if f.kind=4 then (if R.jl f=true∧oO from_ R.mm=true then jk R f.entry else (R,[]))
 else if f.kind=5 then (if R.jl f=true∧oO from_ R.cq=true then gU R f else (R,[]))
 else if f.kind=6 then (if R.jl f=true∧oO from_ R.mm=true then ((jP R f.index).fx,(jP R f.index).jQ) else (R,[]))
 else if f.kind=10 then (if R.jl f=true∧from_=16 then (qy R f.index,qz R f.index) else (R,[]))
 else (R,[])
theorem FI(R:av)(f:ay)(now:Int):(d_ R f now).2.2=R.aI∨(d_ R f now).2.2=(R.aI.iy f now).2:=by
 unfold d_
 repeat' split
 all_goals first | exact .inl rfl | exact .inr rfl
theorem abN{R:av}(h:R.Ok)(f:ay)(now:Int):(lf R f now).1.Ok:=by
 have hj:(d_ R f now).2.2.Calls∧(d_ R f now).2.2.Wf:=by
  rcases FI R f now with e | e
  ·rw[e];exact⟨h.calls,h.wf⟩
  ·rw[e];exact⟨V4 h.calls f now,V7 h.wf f now⟩
 unfold lf
 split
 ·exact yW h hj.1 hj.2
 split
 ·exact yW h hj.1 hj.2
 split
 ·exact yW h (Je hj.1 _ _ _) (hj.2.cU _ _ _)
 ·exact yW h hj.1 hj.2
theorem W_{R:av}(h:R.Ok)(hr:R.aK.last<100000000)(f:ay)(now:Int)(h0:0≤f.aF)(h1:f.aF≤1000):(kV R f now).1.Ok:=by
 unfold kV
 split
 ·exact h
 ·have e:({ R with aK:=R.aK.put f (l9 (bN R.log).1 f.op.key R.log.length) }:av).Ok:=by
   have a0:=h.ie;have a1:=h.kW;have a2:=h.rl
   unfold e9.put
   split
   ·rename_i hl
    exact⟨h.ch,h.an,h.last,h.ku,h.kR,h.ie,h.ig,by show((R.aK.l ++ [_]).length:Int)≤R.aK.cap;rw[a_];simp;omega,by show 0≤R.aK.last+1;omega,by show R.aK.last+1≤_;omega,fun y hy=>by
     rcases ez.1 hy with h2 | h2
     ·exact h.jn y h2
     ·rw[eA.1 h2];exact⟨h0,h1⟩,h.calls,h.wf⟩
   ·exact h
  exact e
theorem Yl{R:av}(h:R.Ok)(i:Int):(qy R i).Ok:=⟨h.ch,h.an,h.last,h.ku,h.kR,h.ie,h.ig,by
 have:=h.rl;have h2:=pO (k_ i) R.aK.l
 show((R.aK.l.filter (k_ i)).length:Int)≤R.aK.cap;omega,h.kW,h.lM,fun y hy=>h.jn y (iC.1 hy).1,h.calls,h.wf⟩
theorem Jh{R:av}(h:R.Ok)(i:Int):(jP R i).Ok:=⟨h.ch,h.an,h.last,h.ku,h.kR,h.ie,h.ig,h.rl,h.kW,h.lM,h.jn,h.calls,h.wf⟩
theorem Tf{R:av}(h:R.Ok)(e:bd):(jk R e).1.Ok:=by
 unfold jk
 split
 ·rename_i h1;exact EE (wQ (ui h h1.2 (B7 h1.1)))
 ·exact h
theorem zg{c:aW}(h:e_ c=0):c.ms.length≤6:=by
 have:kL c=true:=by
  unfold e_ at h
  by_cases hc:kL c=true
  ·exact hc
  ·rw[if_neg hc] at h;cases h
 simp only[kL,tT,dN,decide_eq_true_eq] at this
 omega
theorem aa3{R:av}(h:R.Fit)(hr:R.aK.last<100000000)(from_:Int)(f:ay)(ms:List aR)(now:Int):(ct R from_ f ms now).1.Ok:=by
 have hcl:=h.cl
 unfold ct
 split
 ·split
  ·exact h.ok
  split
  ·exact h.ok
  rename_i h1 h2
  split
  ·exact W_ h.ok hr f now yd yd
  ·exact abN h.ok f now
 split
 ·split
  ·rename_i h1;exact Sz h.ok ⟨by have:=zg h1.1.2;omega⟩ h.dL h.fO
  ·exact h.ok
 split
 ·split
  ·exact Tf h.ok _
  ·exact h.ok
 split
 ·split
  ·exact I1 h.ok f
  ·exact h.ok
 split
 ·split
  ·exact EE (Jh h.ok _)
  ·exact h.ok
 split
 ·split
  ·exact Yl h.ok _
  ·exact h.ok
 ·exact h.ok
structure gT(R Q:av):Prop where
 id:Q.id=R.id
 bC:Q.bC=R.bC
 cap:Q.cap=R.cap
 iJ:Q.iJ=R.iJ
 GG:Q.aK.cap=R.aK.cap
theorem gT.refl(R:av):gT R R:=⟨rfl,rfl,rfl,rfl,rfl⟩
theorem gT.trans{R Q P:av}(h:gT R Q)(k:gT Q P):gT R P:=⟨k.id.trans h.id,k.bC.trans h.bC,k.cap.trans h.cap,k.iJ.trans h.iJ,k.GG.trans h.GG⟩
theorem av.Fit.stays{R Q:av}(h:R.Fit)(k:gT R Q)(ok:Q.Ok):Q.Fit:=⟨ok,by rw[k.iJ,k.GG];exact h.iJ,by rw[k.cap];exact h.dL,by rw[k.cap];exact h.fO,by rw[k.bC];exact h.cl⟩
theorem Fb(R:av):gT R R.bL:=by unfold av.bL;split<;>exact⟨rfl,rfl,rfl,rfl,rfl⟩
theorem Jo(R:av):gT R R.fx:=by unfold av.fx;split<;>exact⟨rfl,rfl,rfl,rfl,rfl⟩
theorem SE(R:av)(c:aW):gT R (iI R c).1:=by
 refine gT.trans (Q:=cH R c) ?_ (Fb _)
 unfold cH;split<;>exact⟨rfl,rfl,rfl,rfl,rfl⟩
theorem WU(r:e9)(f:ay)(x:iq):(r.put f x).cap=r.cap:=by unfold e9.put;split<;>rfl
theorem aa5(R:av)(from_:Int)(f:ay)(ms:List aR)(now:Int):gT R (ct R from_ f ms now).1:=by
 have r:=gT.refl R
 unfold ct
 split
 ·split
  ·exact r
  split
  ·exact r
  split
  ·unfold kV;split
   ·exact r
   ·exact⟨rfl,Z,Z,Z,WU _ _ _⟩
  ·unfold lf;repeat' split
   all_goals exact⟨rfl,rfl,rfl,rfl,rfl⟩
 split
 ·split
  ·exact SE _ _
  ·exact r
 split
 ·split
  ·unfold jk;split
   ·exact gT.trans (Q:=(dY R f.entry).bL) (gT.trans (Q:=dY R f.entry) ⟨rfl,Z,Z,Z,Z⟩ (Fb _)) (Jo _)
   ·exact r
  ·exact r
 split
 ·split
  ·unfold gU eN gq;dsimp only;split<;>exact⟨rfl,rfl,rfl,rfl,rfl⟩
  ·exact r
 split
 ·split
  ·exact gT.trans (Q:=jP R f.index) ⟨rfl,Z,Z,Z,Z⟩ (Jo _)
  ·exact r
 split
 ·split
  ·exact xS
  ·exact r
 ·exact r
theorem Wn(R:av):gT R (pz R).1:=⟨rfl,rfl,rfl,rfl,rfl⟩
theorem Nk(R:av)(now:Int):gT R (ey R now).1:=by
 unfold ey
 split
 ·exact xS
 split
 ·exact xS
 ·exact gT.trans (Q:=dY (j_ R now) (eG R now)) ⟨rfl,Z,Z,Z,Z⟩ (Fb _)
theorem Lb(now:Int):∀(k:Nat) (R:av),gT R (gz now k R).1
 | 0,R=>gT.refl R
 | k+1,R=>by
  rw[gz]
  split
  ·split
   ·exact(Nk R now).trans (Lb now k _)
   ·exact Nk R now
  ·exact gT.refl R
theorem Yc(R:av)(now:Int):gT R (dx R now).1:=by
 have h2:gT R (step2 R now).1:=by
  unfold step2;split
  ·exact gT.trans (Q:=h_ R now) ⟨rfl,Z,Z,Z,Z⟩ (Lb now 65 _)
  ·exact xS
 show gT R (dS R now).1
 unfold dS;split
 ·exact h2.trans (Wn _)
 ·exact h2
theorem NG{R:av}(h:R.Fit)(hr:R.aK.last<100000000)(from_:Int)(f:ay)(ms:List aR)(now:Int):(ct R from_ f ms now).1.Fit:=h.stays (aa5 R from_ f ms now) (aa3 h hr from_ f ms now)
theorem X1{R:av}(h:R.Fit)(now:Int):(dx R now).1.Fit:=h.stays (Yc R now) (X4 h.ok now)
end Rep
namespace Rep
open Go Vg T Api Kv Ch Lg Rd Win Adm Sched Conf
attribute [local irreducible] VO VC VA
section
variable {p:Nat} {R:av}
theorem AK(fit:R.Fit)(hlast:R.aK.last<100000000)(from_:Int)(f:ay){ma:Option Addr}{mc:Nat}{ms:List aR}(hm:aV aH 2 Fr w ma ms)(hml:ms.length≤1000000)(now:Int)
  (hi1:-9223372036854775808≤f.entry.index) (hi2:f.entry.index≤9223372036854775807):az Tryz.prog 118 [.pointer (some ⟨p,0,none⟩),.int .i64 from_,.agg (cM f (ma,ms.length,mc)).toArray,.int .i64 now] Fr w [bp p R]
  (fun v L=>bO (ct R from_ f ms now).2 v L [bp p (ct R from_ f ms now).1]):=by
 have ok:=fit.ok
 have hcl6:=fit.cl
 have hrl:R.aK.l.length≤16:=by have:=ok.rl;have:=ok.ig;omega
 refine TF 160 Tryz.func118 Z ym aD Z Z ?_
 refine CS (CG (VG (VB (vs:=cM f (ma,ms.length,mc)) Z fun fb=>?_)))
 refine aj ?_
 refine VO.bJ 1 Z (ba.rep p R) ?_
 rintro x -
 show VO _ _ _ _ _ [pt p (bx R x) df,aA aU 2 x.a R.ch.ms.length x.c (flat aH R.ch.ms),bM x.lp R.log,bG x.wp R.an,bo x.ap R.aI,bH x.rp R.aK,pt fb (cM f (ma,ms.length,mc)) cC] _
 refine HQ ?_
 refine rS ?_
 refine VG (VO.alloc Z fun ob=>?_)
 refine aj ?_
 refine HR ?_
 refine lg ?_
 refine CN (L':=[pt p (bx R x) df,aA aU 2 x.a R.ch.ms.length x.c (flat aH R.ch.ms),bM x.lp R.log,bG x.wp R.an,bo x.ap R.aI,bH x.rp R.aK,aZ ob [],pt fb (cM f (ma,ms.length,mc)) cC]) (IP 1 Z (IP 1 Z (IP 1 Z (IP 1 Z (IP 1 Z (IP 1 Z (aa.out (none,0) (IP 0 Z (aa.dM (IP 0 Z aa.nil)))))))))).ah ?_
 refine CS ?_
 refine VC.dX (σ:=Unit) (fun _=>[(9,pV ob)]) (fun _=>[bp p (ct R from_ f ms now).1,aZ ob (ct R from_ f ms now).2]) (fun _=>True) ?_ ?_
 rotate_left
 ·rintro _ -
  refine VC.bJ 1 Z (ba.out ob _) ?_
  rintro⟨a,c⟩ -
  show VC _ _ _ [pt ob [.slice a (ct R from_ f ms now).2.length c] CM,aA gJ 30 a (ct R from_ f ms now).2.length c (flat rG (ct R from_ f ms now).2),bp p (ct R from_ f ms now).1] _
  refine aj ?_
  exact CR (aq.tmp 8 Z Z (IP 2 Z (IP 1 Z aa.nil)).ah ⟨a,c,Z,Z⟩)
 have shut:∀{X:Cx},dq X [pt p (bx R x) df,aA aU 2 x.a R.ch.ms.length x.c (flat aH R.ch.ms),bM x.lp R.log,bG x.wp R.an,bo x.ap R.aI,bH x.rp R.aK,aZ ob [],pt fb (cM f (ma,ms.length,mc)) cC] [bp p R,aZ ob []]:=fun {X}=>
  (aa.rep x (bm [0,0,0,0,0,0,0])).ah
 have none_:ct R from_ f ms now=(R,[])→∀{X:Cx},dq X [pt p (bx R x) df,aA aU 2 x.a R.ch.ms.length x.c (flat aH R.ch.ms),bM x.lp R.log,bG x.wp R.an,bo x.ap R.aI,bH x.rp R.aK,aZ ob [],pt fb (cM f (ma,ms.length,mc)) cC] [bp p (ct R from_ f ms now).1,aZ ob (ct R from_ f ms now).2]:=fun h {X}=>by
  rw[h];exact shut
 refine vP ?_
 refine CE (i:=f.kind) (j:=1) Z (fun k1=>?_) (fun k1=>?_)
 ·have hT:ct R from_ f ms now=(if f.aF<0 then (R,[]) else if R.bC≤f.aF then (R,[]) else if sM f.op=true then kV R f now else lf R f now):=by rw[ct,if_pos k1]
  refine CS ?_
  refine CS ?_
  refine CD (ts 0 12 .nil) ym yr ?_
  refine uB ?_
  by_cases h1:f.aF<0
  ·refine AG (AY 24 true Z (DT h1) ?_)
   refine s8 ?_
   refine VC.nj Z (CX ?_)
   exact⟨(),trivial,aP,none_ (by rw[hT,if_pos h1])⟩
  refine AG (AY 24 false Z (DF h1) ?_)
  refine s8 ?_
  refine CP (p:=R.bC≤f.aF) Z (fun h2=>CX ?_) (fun h2=>CK ?_)
  ·exact⟨(),trivial,aP,none_ (by rw[hT,if_neg h1,if_pos h2])⟩
  rw[if_neg h1,if_neg h2] at hT
  refine aj ?_
  refine VG (VL 7 f.op.cells Z Z Z Z ?_)
  refine VG (VV (fun Fr w hF hs hS=>Kv.Aw Fr w f.op) Z ?_)
  refine aj ?_
  refine CC Z (fun h3=>?_) (fun h3=>?_)
  ·have h3:sM f.op=true:=h3
   rw[if_pos h3] at hT
   refine vT ?_
   refine A6 ?_
   refine VG (VK (Lc:=[bp p R,aZ ob []]) (Lr:=[]) (fun Fr w hF hs hS=>C6 Fr w ok fit.iJ IB f (hm.of hF hs) hml now yd yd) Z Z ?_)
   rintro _ _ ⟨rfl,rfl⟩
   refine aj ?_
   refine⟨(),trivial,aP,?_⟩
   rw[hT];exact ER
  ·have h3:¬sM f.op=true:=fun h=>by rw[show sM f.op=false from h3] at h;cases h
   rw[if_neg h3] at hT
   refine vT ?_
   refine A6 ?_
   refine VG (VK (Lc:=[bp p R,aZ ob []]) (Lr:=[]) (fun Fr w hF hs hS=>abP Fr w ok IB f (ma,ms.length,mc) ⟨ms,Z,hml,aV.of hm hF hs⟩ now yd yd) Z Z ?_)
   rintro _ _ ⟨rfl,rfl⟩
   refine aj ?_
   refine⟨(),trivial,aP,?_⟩
   rw[hT];exact ER
 refine CS ?_
 refine aj ?_
 refine CE (i:=f.kind) (j:=8) Z (fun k2=>?_) (fun k2=>?_)
 ·have hT:ct R from_ f ms now=(if (from_=16∧e_ (l8 f ms)=0)∧R.ch.ar<f.dV then iI R (l8 f ms) else (R,[])):=by rw[ct,if_neg k1,if_pos k2]
  refine CS ?_
  refine CD (ts 0 5 (.only 5 (ts 6 13 .nil))) ym yr ?_
  refine uB ?_
  by_cases h1:from_=16
  rotate_left
  ·rw[if_neg (fun h=>h1 h.1.1)] at hT
   refine AG (AY 50 false Z yg ?_)
   refine s8 ?_
   refine pH ?_
   refine s8 ?_
   refine AG (AY 56 false Z Z ?_)
   refine s8 ?_
   refine js ?_
   exact qF
  refine AG (AY 50 true Z yg ?_)
  refine s8 ?_
  refine AG (VA.dQ 7 ((l8 f ms).cells ma mc) Z Z Z Z Z ?_)
  refine AG (AR (fun Fr w hF hs hS=>Ch.iG Fr w (c:=l8 f ms) (hm.of hF hs) IC) Z Z yu ?_)
  refine s8 ?_
  by_cases h2:e_ (l8 f ms)=0
  rotate_left
  ·rw[if_neg (fun h=>h2 h.1.2)] at hT
   refine AG (AY 56 false Z yj ?_)
   refine s8 ?_
   refine js ?_
   exact qF
  refine AG (AY 56 true Z yj ?_)
  refine s8 ?_
  refine CP (p:=R.ch.ar<f.dV) Z (fun h3=>?_) (fun h3=>CK ?_)
  ·rw[if_pos ⟨⟨h1,h2⟩,h3⟩] at hT
   have hcs:kj (l8 f ms):=⟨by have:=zg h2;omega⟩
   refine aj ?_
   refine VG (VL 7 ((l8 f ms).cells ma mc) Z Z Z Z ?_)
   refine A6 ?_
   refine aj ?_
   refine VG (VK (Lc:=[bp p R,aZ ob []]) (Lr:=[]) (fun Fr w hF hs hS=>SD Fr w ok fit.dL fit.fO ID (c:=l8 f ms) (hm.of hF hs) hcs) Z Z ?_)
   rintro _ _ ⟨rfl,rfl⟩
   refine aj ?_
   refine⟨(),trivial,aP,?_⟩
   rw[hT];exact ER
  ·rw[if_neg (fun h=>h3 h.2)] at hT
   exact qF
 refine CS ?_
 refine aj ?_
 refine CE (i:=f.kind) (j:=4) Z (fun k3=>?_) (fun k3=>?_)
 ·have hT:ct R from_ f ms now=(if R.jl f=true∧oO from_ R.mm=true then jk R f.entry else (R,[])):=by rw[ct,if_neg k1,if_neg k2,if_pos k3]
  refine vT ?_
  refine A5 ?_
  refine aj ?_
  by_cases h1:R.jl f=true
  rotate_left
  ·rw[if_neg (fun h=>h1 h.1)] at hT
   have h1:R.jl f=false:=by simpa using h1
   refine VG (VY 77 false Z h1 ?_)
   refine tf ?_
   exact qF
  refine VG (VY 77 true Z h1 ?_)
  refine bW ?_
  refine Pa ?_
  refine bW ?_
  refine VG (VO.lW (fun Fr w=>FH Fr w from_ R.mm) Z ?_)
  refine bW ?_
  refine CC Z (fun h2=>?_) (fun h2=>CK ?_)
  ·rw[if_pos ⟨h1,h2⟩] at hT
   refine aj ?_
   refine VG (VL 7 (bZ f.entry) Z Z Z Z ?_)
   refine A6 ?_
   refine aj ?_
   refine VG (VK (Lc:=[bp p R,aZ ob []]) (Lr:=[]) (fun Fr w hF hs hS=>Th Fr w ok ID f.entry hi1 hi2) Z Z ?_)
   rintro _ _ ⟨rfl,rfl⟩
   refine aj ?_
   refine⟨(),trivial,aP,?_⟩
   rw[hT];exact ER
  ·rw[if_neg (fun h=>by have:=h.2;rw[h2] at this;cases this)] at hT
   exact qF
 refine CS ?_
 refine aj ?_
 refine CE (i:=f.kind) (j:=5) Z (fun k4=>?_) (fun k4=>?_)
 ·have hT:ct R from_ f ms now=(if R.jl f=true∧oO from_ R.cq=true then gU R f else (R,[])):=by rw[ct,if_neg k1,if_neg k2,if_neg k3,if_pos k4]
  refine vT ?_
  refine A5 ?_
  refine aj ?_
  by_cases h1:R.jl f=true
  rotate_left
  ·rw[if_neg (fun h=>h1 h.1)] at hT
   have h1:R.jl f=false:=by simpa using h1
   refine VG (VY 93 false Z h1 ?_)
   refine tf ?_
   exact qF
  refine VG (VY 93 true Z h1 ?_)
  refine bW ?_
  refine O6 ?_
  refine bW ?_
  refine VG (VO.lW (fun Fr w=>FH Fr w from_ R.cq) Z ?_)
  refine bW ?_
  refine CC Z (fun h2=>?_) (fun h2=>CK ?_)
  ·rw[if_pos ⟨h1,h2⟩] at hT
   refine vT ?_
   refine A6 ?_
   refine aj ?_
   refine VG (VK (Lc:=[bp p R,aZ ob []]) (Lr:=[]) (fun Fr w hF hs hS=>BH Fr w ok ID f _) Z Z ?_)
   rintro _ _ ⟨rfl,rfl⟩
   refine aj ?_
   refine⟨(),trivial,aP,?_⟩
   rw[hT];exact ER
  ·rw[if_neg (fun h=>by have:=h.2;rw[h2] at this;cases this)] at hT
   exact qF
 refine CS ?_
 refine aj ?_
 refine CE (i:=f.kind) (j:=6) Z (fun k5=>?_) (fun k5=>?_)
 ·have hT:ct R from_ f ms now=(if R.jl f=true∧oO from_ R.mm=true then ((jP R f.index).fx,(jP R f.index).jQ) else (R,[])):=by rw[ct,if_neg k1,if_neg k2,if_neg k3,if_neg k4,if_pos k5]
  refine vT ?_
  refine A5 ?_
  refine aj ?_
  by_cases h1:R.jl f=true
  rotate_left
  ·rw[if_neg (fun h=>h1 h.1)] at hT
   have h1:R.jl f=false:=by simpa using h1
   refine VG (VY 108 false Z h1 ?_)
   refine tf ?_
   exact qF
  refine VG (VY 108 true Z h1 ?_)
  refine bW ?_
  refine Pa ?_
  refine bW ?_
  refine VG (VO.lW (fun Fr w=>FH Fr w from_ R.mm) Z ?_)
  refine bW ?_
  refine CC Z (fun h2=>?_) (fun h2=>CK ?_)
  ·rw[if_pos ⟨h1,h2⟩] at hT
   have okb:=Jh ok f.index
   refine vP ?_
   refine VG (VO.st 0 (cs':=bx (jP R f.index) x) Z Z Z Z (by show 14<17;omega) (by
    rw[show(if f.index < -1 then (-1:Int) else f.index)=max f.index (-1) by split<;>omega]
    rfl) rfl ?_)
   refine aj ?_
   refine VO.ah (L':=[bp p (jP R f.index),aZ ob []]) (aa.rep (R:=jP R f.index) x (bm [0,0,0,0,0,0,0])).ah ?_
   refine VG (VK (Lc:=[bp p (jP R f.index),aZ ob []]) (Lr:=[]) (fun Fr w hF hs hS=>Jn Fr w okb IB) Z Z ?_)
   rintro _ _ ⟨rfl,rfl⟩
   refine aj ?_
   refine⟨(),trivial,aP,?_⟩
   rw[hT];exact ER
  ·rw[if_neg (fun h=>by have:=h.2;rw[h2] at this;cases this)] at hT
   exact qF
 refine CS ?_
 refine aj ?_
 refine CE (i:=f.kind) (j:=10) Z (fun k6=>?_) (fun k6=>CK ?_)
 rotate_left
 ·exact⟨(),trivial,aP,none_ (by rw[ct,if_neg k1,if_neg k2,if_neg k3,if_neg k4,if_neg k5,if_neg k6])⟩
 have hT:ct R from_ f ms now=(if R.jl f=true∧from_=16 then (qy R f.index,qz R f.index) else (R,[])):=by rw[ct,if_neg k1,if_neg k2,if_neg k3,if_neg k4,if_neg k5,if_pos k6]
 refine vT ?_
 refine A5 ?_
 refine aj ?_
 by_cases h1:R.jl f=true
 rotate_left
 ·rw[if_neg (fun h=>h1 h.1)] at hT
  have h1:R.jl f=false:=by simpa using h1
  refine VG (VY 128 false Z h1 ?_)
  refine tf ?_
  exact qF
 refine VG (VY 128 true Z h1 ?_)
 refine bW ?_
 refine CE (i:=from_) (j:=16) Z (fun h2=>?_) (fun h2=>CK ?_)
 rotate_left
 ·rw[if_neg (fun h=>h2 h.2)] at hT
  exact qF
 rw[if_pos ⟨h1,h2⟩] at hT
 refine CN (L':=[bH x.rp R.aK,pt p (bx R x) df,aA aU 2 x.a R.ch.ms.length x.c (flat aH R.ch.ms),bM x.lp R.log,bG x.wp R.an,bo x.ap R.aI,aZ ob [],pt fb (cM f (ma,ms.length,mc)) cC]) (bm [5,0,0,0,0,0,0,0]).ah ?_
 refine CS ?_
 refine CD (ts 0 6 (.take 8 (.only 6 (.take 7 .nil)))) ym yr ?_
 refine uB ?_
 refine AG (AO (OC (Lc:=[bH x.rp R.aK]) (R:=fun v L=>∃a c rows,rows.map Prod.fst=R.aK.l.filter (fun x=>!k_ f.index x)∧v=.slice a rows.length c∧L=[bH x.rp { R.aK with l:=R.aK.l.filter (k_ f.index) },aA eU 34 a rows.length c (flat dw rows)]) Z (.refl _) (fun Fr w hF hs hS=>Rd.Yn Fr w ok.ie yd f.index)) Z ?_ ?_)
 ·rintro _ _ ⟨_,⟨ga,gc,rows,hrows,rfl,rfl⟩,rfl⟩
  exact yu
 rintro _ _ ⟨_,⟨ga,gc,rows,hrows,rfl,rfl⟩,rfl⟩
 (repeat(first|refine yG (yN ?_)|refine yG (yD 0 rfl rfl rfl rfl rfl ?_)|refine yG (yD 1 rfl rfl rfl rfl rfl ?_)|refine yG (yD 2 rfl rfl rfl rfl rfl ?_)|refine yG (yD 3 rfl rfl rfl rfl rfl ?_)|refine yG (yD 4 rfl rfl rfl rfl rfl ?_)|refine yG (yD 5 rfl rfl rfl rfl rfl ?_)|refine yG (yD 6 rfl rfl rfl rfl rfl ?_)|refine yG (yD 7 rfl rfl rfl rfl rfl ?_)|refine yG (yD 8 rfl rfl rfl rfl rfl ?_)))
 have hrowl:rows.length≤16:=by
  have:=congrArg List.length hrows
  rw[cW] at this
  have h2:=pO (fun y=>!k_ f.index y) R.aK.l
  omega
 show VC _ _ _ [bH x.rp (qy R f.index).aK,aA eU 34 ga rows.length gc (flat dw rows),pt p (bx R x) df,aA aU 2 x.a R.ch.ms.length x.c (flat aH R.ch.ms),bM x.lp R.log,bG x.wp R.an,bo x.ap R.aI,aZ ob [],pt fb (cM f (ma,ms.length,mc)) cC] _
 refine VC.bJ 1 Z (ba.rl eU ga gc rows Ar) ?_
 rintro r ⟨rok,hrv,hrx⟩
 show VC _ _ _ [r.h eU,bH x.rp (qy R f.index).aK,pt p (bx R x) df,aA aU 2 x.a R.ch.ms.length x.c (flat aH R.ch.ms),bM x.lp R.log,bG x.wp R.an,bo x.ap R.aI,aZ ob [],pt fb (cM f (ma,ms.length,mc)) cC] _
 have hexp:∀i,i≤rows.length→(rows.take i).length=i:=fun i hi=>by simp;omega
 refine VC.block ?_
 refine VC.loop (σ:=Nat) (fun i=>[(0,pV p),(9,pV ob),(10,ed ob),(138,.slice ga rows.length gc),(139,.int .i64 rows.length),(140,.int .i64 i)])
  (fun i=>[r.h eU,bH x.rp (qy R f.index).aK,pt p (bx R x) df,aA aU 2 x.a R.ch.ms.length x.c (flat aH R.ch.ms),bM x.lp R.log,bG x.wp R.an,bo x.ap R.aI,aZ ob ((rows.take i).map fun y=>(32+y.1.f.aF,nF y.1.f.aF y.1.f.seq y.1.f.br y.1.r))])
  (fun i=>i≤rows.length) (fun i=>rows.length-i) 0
  (bU _) aP (bm [0,0,0,0,0,0,0,0]).ah ?_
 intro i hi
 refine aj ?_
 refine CP Z (fun h1=>CK ?_) (fun h1=>CX ?_)
 ·have hi2:i<rows.length:=by omega
  obtain⟨g,hg⟩:∃g,rows[i]?=some g:=⟨_,GE hi2⟩
  have hgm:g.1∈R.aK.l:=by
   have h2:g.1∈rows.map Prod.fst:=bP.2 ⟨g,ME hg,rfl⟩
   rw[hrows] at h2
   exact(iC.1 h2).1
  have hcg:=ok.jn g.1 hgm
  obtain⟨gb,go,r1,r2,hrd⟩:=rok.ld (t:=eU) (hrx▸hg) rfl
  obtain rfl:ga=some ⟨gb,go,none⟩:=by rw[RL.v,r2,hrx] at hrv;injection hrv with e1;exact e1.symm
  refine uE ?_
  refine HS ?_
  refine VG (VO.alloc Z fun tb=>?_)
  refine HT ?_
  refine aj ?_
  refine VG (VL 0 (bb g.1.r) Z Z Z Z ?_)
  refine aj ?_
  refine VG (VQ 8 Z (fun Fr w hF hs hS=>GN Fr w (by rw[cW,hexp i yd];omega) g.1.f.aF g.1.f.seq g.1.f.br hcg.1 yd g.1.r) Z (ψ:=fun v H=>v=.tuple #[]∧H=aZ ob ((rows.take i).map (fun y=>(32+y.1.f.aF,nF y.1.f.aF y.1.f.seq y.1.f.br y.1.r)) ++ [(32+g.1.f.aF,nF g.1.f.aF g.1.f.seq g.1.f.br g.1.r)])) yy ?_)
  rintro _ _ ⟨rfl,rfl⟩
  refine jJ ?_
  refine⟨i+1,hi2,by dsimp only;omega,aP,?_⟩
  dsimp only
  rw[jb,hg,Option.toList_some,hU,List.map_singleton]
  exact(bm [1,1,1,1,1,1,1,1]).ah
 obtain rfl:i=rows.length:=by omega
 rw[lj]
 have hes:(rows.map fun y=>((32+y.1.f.aF,nF y.1.f.aF y.1.f.seq y.1.f.br y.1.r):bQ))=qz R f.index:=by
  unfold qz
  rw[←hrows,mV];rfl
 rw[hes]
 refine⟨(),trivial,aP,?_⟩
 rw[hT]
 exact(aa.rep (R:=qy R f.index) x (bm [2,2,2,2,2,1,1])).ah
end
end Rep
namespace Rep
open Go Vg T Api Kv Ch Lg Rd Win Adm Sched Conf
attribute [local irreducible] VO VC VA
section
variable {p:Nat} {R:av}
theorem acd(h:a8 Fr [bp p R] w):az Tryz.prog 79 [.pointer (some ⟨p,0,none⟩)] Fr w [] (fun v L=>v=.bool R.whole∧L=[]):=by
 obtain⟨x,hx⟩:=gL.vg h
 have hb:=hx.aC
 refine TF 11 Tryz.func79 Z ym aD Z Z ?_
 refine aj ?_
 refine VG (VV (fun Fr w hF hs _=>tZ Fr w (hb.of hF hs)) Z ?_)
 refine aj ?_
 refine VG (VY 5 true Z Z ?_)
 refine sZ ?_
 exact vM
theorem MZ(h:a8 Fr [bp p R] w):az Tryz.prog 68 [.pointer (some ⟨p,0,none⟩)] Fr w [] (fun v L=>v=.int .i64 R.since∧L=[]):=by
 obtain⟨x,hx⟩:=gL.vg h
 have hb:=hx.aC
 refine TF 10 Tryz.func68 Z ym aD Z Z ?_
 refine aj ?_
 refine VG (VV (fun Fr w hF hs _=>tZ Fr w (hb.of hF hs)) Z (VG (VN (VC.kM Z (CK ?_)))))
 refine kD ?_
 exact vL
theorem UE(ok:R.Ok)(h:a8 Fr [bp p R] w):az Tryz.prog 71 [.pointer (some ⟨p,0,none⟩)] Fr w [] (fun v L=>∃q,v=.pointer (some ⟨q,0,none⟩)∧L=[bM q R.log]):=by
 obtain⟨x,hx⟩:=gL.vg h
 have hb:=hx.aC
 have hl:=hx.log
 have h1:=ok.last;have h2:=ok.an.jY
 refine TF 11 Tryz.func71 Z ym aD Z Z ?_
 refine aj ?_
 refine VG (VV (fun Fr w hF hs _=>tZ Fr w (hb.of hF hs)) Z (VG (VN (VC.kM Z (CK ?_)))))
 refine kD ?_
 refine VG (VK (Lc:=[]) (fun Fr w hF hs _=>Lg.zn Fr w (hl.of hF hs) yd) Z Z ?_)
 rintro _ _ ⟨q,rfl,rfl⟩
 exact IN
theorem Oi(ok:R.Ok)(h:a8 Fr [bp p R] w):az Tryz.prog 69 [.pointer (some ⟨p,0,none⟩)] Fr w [] (fun v L=>∃q,v=.pointer (some ⟨q,0,none⟩)∧L=[bG q R.an]):=by
 obtain⟨x,hx⟩:=gL.vg h
 have hb:=hx.aC
 have hl:=hx.an
 refine TF 11 Tryz.func69 Z ym aD Z Z ?_
 refine aj ?_
 refine VG (VV (fun Fr w hF hs _=>tZ Fr w (hb.of hF hs)) Z (VG (VN (VC.kM Z (CK ?_)))))
 refine kD ?_
 refine VG (VK (Lc:=[]) (fun Fr w hF hs _=>Win.zn Fr w (hl.of hF hs) ok.an.dL) Z Z ?_)
 rintro _ _ ⟨q,rfl,rfl⟩
 exact IN
theorem EN(ok:R.Ok)(h:a8 Fr [bp p R] w):az Tryz.prog 40 [.pointer (some ⟨p,0,none⟩)] Fr w [] (fun v L=>∃a c,v=.agg (R.ch.cells a c).toArray∧L=[aA aU 2 a R.ch.ms.length c (flat aH R.ch.ms)]):=by
 obtain⟨x,hx⟩:=gL.vg h
 have hb:=hx.aC
 have hm:=hx.mem
 have hl:=ok.ch.len
 refine TF 12 Tryz.func40 Z ym aD Z Z ?_
 refine CS (CG (VG (VO.alloc Z fun d=>?_)))
 refine aj ?_
 refine VG (VV (fun Fr w hF hs _=>tZ Fr w (hb.of hF hs)) Z (VG (VN (VC.kM Z (CK ?_)))))
 refine aj ?_
 refine VG (VO.load Z Z (ax.jR (ds:=R.ch.cells x.a x.c) hb Z) ?_)
 refine O_ ?_
 rintro _ _ ⟨a',c',rfl,rfl⟩
 refine VG (VT (vs:=R.ch.cells a' c') (cs':=R.ch.cells a' c') 1 Z Z Z Z (NR _) Z Z Z ?_)
 refine aj ?_
 exact HU
theorem Xb(ok:R.Ok)(h:a8 Fr [bp p R] w):az Tryz.prog 85 [.pointer (some ⟨p,0,none⟩)] Fr w [] (fun v L=>v=.int .i64 R.aK.l.length∧L=[]):=by
 obtain⟨x,hx⟩:=gL.vg h
 have hb:=hx.aC
 have hl:=hx.aK
 refine TF 11 Tryz.func85 Z ym aD Z Z ?_
 refine aj ?_
 refine VG (VV (fun Fr w hF hs _=>tZ Fr w (hb.of hF hs)) Z (VG (VN (VC.kM Z (CK ?_)))))
 refine kD ?_
 refine VG (VV (fun Fr w hF hs _=>Rd.kP Fr w (hl.of hF hs) ok.ie) Z ?_)
 refine aj ?_
 exact vL
theorem aca(h:a8 Fr [bp p R] w)(k:Int):az Tryz.prog 83 [.pointer (some ⟨p,0,none⟩),.int .i64 k] Fr w [] (fun v L=>v=.int .i64 (R.aI.aL.sD k)∧L=[]):=by
 obtain⟨x,hx⟩:=gL.vg h
 have hb:=hx.aC
 have hl:=hx.aI
 refine TF 14 Tryz.func83 Z ym aD Z Z ?_
 refine aj ?_
 refine VG (VV (fun Fr w hF hs _=>tZ Fr w (hb.of hF hs)) Z (VG (VN (VC.kM Z (CK ?_)))))
 refine kD ?_
 refine VG (VV (fun Fr w hF hs _=>Adm.kP Fr w k (hl.of hF hs)) Z ?_)
 refine aj ?_
 exact CR (aq.int 4 Z Z Z ER ⟨rfl,Z⟩)
def qX(ar:Int):ay:={ ay.zero with kind:=12,ar:=ar }
def eK(R:av):av:=if R.linked then { R with an:={ R.an with bO:=min (max R.dW 0) R.an.last } } else R
def gY(R:av):av×List bQ:=(eK R,R.ky++R.eZ++R.gC++(if (!R.aK.l.isEmpty)=true then [(16,nk R.ch.ar R.aK.om)] else [])++(if R.iP=true∧R.an.done=R.an.last then [(16,qX R.ch.ar)] else []))
theorem NJ{R:av}(h:R.Ok):(eK R).Ok:=by
 unfold eK
 split
 ·have hw:=h.an
  refine⟨h.ch,⟨hw.dL,hw.fO,hw.lD,hw.jg,hw.jY,?_,?_,hw.u3,hw.u4⟩,h.last,h.ku,h.kR,h.ie,h.ig,h.rl,h.kW,h.lM,h.jn,h.calls,h.wf⟩
  ·show 0≤min (max R.dW 0) R.an.last
   have:=hw.lD;have:=hw.jg;omega
  ·show min (max R.dW 0) R.an.last≤R.an.last;omega
 ·exact h
theorem abq(R:av):gT R (gY R).1:=by
 show gT R (eK R)
 unfold eK;split<;>exact⟨rfl,rfl,rfl,rfl,rfl⟩
theorem abk{R:av}(h:R.Fit):(gY R).1.Fit:=h.stays (abq R) (NJ h.ok)
theorem abp(ok:R.Ok)(now:Int):az Tryz.prog 106 [.pointer (some ⟨p,0,none⟩),.int .i64 now] Fr w [bp p R]
  (fun v L=>bO (gY R).2 v L [bp p (gY R).1]):=by
 have hrl:R.aK.l.length≤16:=by have:=ok.rl;have:=ok.ig;omega
 have gl:R.eZ.length≤1:=by unfold av.eZ;split<;>simp
 have bl:R.gC.length≤1:=by unfold av.gC;split<;>simp
 have ml:R.ky.length=1:=rfl
 refine TF 78 Tryz.func106 Z ym aD Z Z ?_
 refine xR ?_
 rintro x -
 show VC _ _ _ [pt p (bx R x) df,aA aU 2 x.a R.ch.ms.length x.c (flat aH R.ch.ms),bM x.lp R.log,bG x.wp R.an,bo x.ap R.aI,bH x.rp R.aK] _
 refine aj ?_
 refine HQ ?_
 refine rS ?_
 refine VG (VO.alloc Z fun ob=>?_)
 refine aj ?_
 refine HR ?_
 refine aj ?_
 refine VO.ah (L':=gG p R x ob []) (IP 1 Z (IP 1 Z (IP 1 Z (IP 1 Z (IP 1 Z (IP 1 Z (aa.out (none,0) (IP 0 Z (aa.dM aa.nil))))))))).ah ?_
 unfold gG
 refine VG (VQ 6 Z (fun Fr w hF hs hS=>NH Fr w (hS.aC 0 Z) (by show 0≤1000000;omega)) Z (ψ:=fun v H=>v=.tuple #[]∧H=aZ ob ([]++R.ky)) yy ?_)
 rintro _ _ ⟨rfl,rfl⟩
 refine aj ?_
 refine VG (VQ 6 Z (fun Fr w hF hs hS=>Cb Fr w (gL.oS hS 0 Z Z Z Z Z Z) ok.ch ok.an (by rw[nN];omega)) Z (ψ:=fun v H=>v=.tuple #[]∧H=aZ ob (R.ky++R.eZ)) yy ?_)
 rintro _ _ ⟨rfl,rfl⟩
 refine aj ?_
 refine VG (VQ 6 Z (fun Fr w hF hs hS=>Hd Fr w (gL.oS hS 0 Z Z Z Z Z Z) ok.ch yp) Z (ψ:=fun v H=>v=.tuple #[]∧H=aZ ob (R.ky++R.eZ++R.gC)) yy ?_)
 rintro _ _ ⟨rfl,rfl⟩
 generalize hS1:R.ky++R.eZ++R.gC=S1
 have hS1l:S1.length≤3:=by rw[←hS1,a_,a_];omega
 refine lg ?_
 show VC _ _ _ (gG p R x ob S1) _
 have R2e:∀(y:mY) (S:List bQ),gG p (eK R) y ob S=[pt p (bx (eK R) y) df,aA aU 2 y.a (eK R).ch.ms.length y.c (flat aH (eK R).ch.ms),bM y.lp (eK R).log,bG y.wp (eK R).an,bo y.ap (eK R).aI,bH y.rp (eK R).aK,aZ ob S]:=fun _ _=>rfl
 refine CS ?_
 refine VC.dX (σ:=Unit) (fun _=>[(0,pV p),(5,pV ob),(6,ed ob)]) (fun _=>gG p (eK R) x ob S1) (fun _=>True) ?_ ?_
 ·unfold gG
  refine aj ?_
  refine CC Z (fun h1=>?_) (fun h1=>CK ?_)
  ·have e:eK R={ R with an:={ R.an with bO:=min (max R.dW 0) R.an.last } }:=by rw[eK,if_pos h1]
   refine CD (ts 0 8 (.only 8 .nil)) ym yr ?_
   refine bt ?_
   refine AG (AQ 3 Z (fun Fr w hF hs hS=>Win.Jd Fr w ok.an R.dW) Z Z (ψ:=fun v H=>v=.tuple #[]∧H=bG x.wp { R.an with bO:=min (max R.dW 0) R.an.last }) yy ?_ ?_)
   ·rintro _ _ ⟨rfl,rfl⟩
    exact yu
   rintro _ _ ⟨rfl,rfl⟩
   refine bt ?_
   refine⟨(),trivial,aP,?_⟩
   rw[e];exact ER
  ·have e:eK R=R:=by rw[eK,if_neg s9]
   refine⟨(),trivial,aP,?_⟩
   rw[e];exact ER
 rintro _ -
 have et:(eK R).aK=R.aK∧(eK R).ch=R.ch∧(eK R).iP=R.iP∧(eK R).an.done=R.an.done∧(eK R).an.last=R.an.last:=by unfold eK;split<;>exact⟨rfl,rfl,rfl,rfl,rfl⟩
 have okt:=NJ ok
 have htk:gY R=(eK R,S1++(if (!(eK R).aK.l.isEmpty)=true then [(16,nk (eK R).ch.ar (eK R).aK.om)] else [])++(if (eK R).iP=true∧(eK R).an.done=(eK R).an.last then [(16,qX (eK R).ch.ar)] else [])):=by
  rw[et.1,et.2.1,et.2.2.1,et.2.2.2.1,et.2.2.2.2,←hS1];rfl
 rw[htk]
 have hrt:(eK R).aK.l.length≤16:=by rw[et.1];exact hrl
 generalize eK R=Q at *
 refine CS ?_
 refine VC.dX (σ:=Unit) (fun _=>[(0,pV p),(5,pV ob),(6,ed ob)]) (fun _=>gG p Q x ob (S1++(if (!Q.aK.l.isEmpty)=true then [(16,nk Q.ch.ar Q.aK.om)] else []))) (fun _=>True) ?_ ?_
 ·unfold gG
  refine aj ?_
  refine VG (VV (fun Fr w hF hs hS=>Rd.pk Fr w (hS.at_ 5 Z) okt.ie yd) Z ?_)
  refine aj ?_
  refine CC Z (fun h1=>?_) (fun h1=>CK ?_)
  ·refine aj ?_
   refine VG (VI (LB (pv:=[(0,.int .i64 9),(1,.int .i64 Q.ch.ar),(12,.int .i64 Q.aK.om)]) (cM (nk Q.ch.ar Q.aK.om) kT) Z Z Z ym Z) ?_)
   refine VG (VO.mJ 6 Z Z (fun Fr w hF hs _=>si Fr w ob S1 yd 16 (nk Q.ch.ar Q.aK.om)) Z (ψ:=fun v H=>v=.tuple #[]∧H=aZ ob (S1 ++ [(16,nk Q.ch.ar Q.aK.om)])) yy ?_)
   rintro _ _ ⟨rfl,rfl⟩
   refine aj ?_
   refine⟨(),trivial,aP,?_⟩
   rw[if_pos h1];exact ER
  ·refine⟨(),trivial,aP,?_⟩
   rw[if_neg s9,bK];exact ER
 rintro _ -
 generalize hS2:S1++(if (!Q.aK.l.isEmpty)=true then [(16,nk Q.ch.ar Q.aK.om)] else [])=S2
 have hS2l:S2.length≤4:=by rw[←hS2,a_];split<;>simp<;>omega
 refine CS ?_
 refine VC.dX (σ:=Unit) (fun _=>[(5,pV ob)]) (fun _=>[bp p Q,aZ ob (S2++(if Q.iP=true∧Q.an.done=Q.an.last then [(16,qX Q.ch.ar)] else []))]) (fun _=>True) ?_ ?_
 ·unfold gG
  have no:¬(Q.iP=true∧Q.an.done=Q.an.last)→∀{X:Cx},dq X (gG p Q x ob S2) [bp p Q,aZ ob (S2++(if Q.iP=true∧Q.an.done=Q.an.last then [(16,qX Q.ch.ar)] else []))]:=fun h {X}=>by
   rw[if_neg h,bK];exact nD.ah
  refine CS ?_
  refine CD (ts 0 1 (.only 1 (ts 2 5 (ts 8 4 (.only 7 (.only 12 (ts 13 2 .nil))))))) ym yr ?_
  refine bt ?_
  refine AG (AR (fun Fr w hF hs hS=>BW Fr w (hS.aC 0 Z)) Z Z yu ?_)
  refine bt ?_
  by_cases h1:Q.iP=true
  rotate_left
  ·have h1':Q.iP=false:=by simpa using h1
   refine AG (AY 55 false Z h1' ?_)
   refine vS ?_
   refine Eb ?_
   refine js ?_
   exact⟨(),trivial,aP,no (fun h=>h1 h.1)⟩
  refine AG (AY 55 true Z h1 ?_)
  refine ee ?_
  refine AG (AR (fun Fr w hF hs hS=>Win.BV Fr w (hS.aC 3 Z) okt.an.dL) Z Z yu ?_)
  refine ee ?_
  refine AG (AR (fun Fr w hF hs hS=>Win.pk Fr w (hS.aC 3 Z) okt.an.dL) Z Z yu ?_)
  refine ee ?_
  refine CE (i:=Q.an.done) (j:=Q.an.last) Z (fun h2=>?_) (fun h2=>CK ?_)
  ·refine aj ?_
   refine VG (VI (LB (pv:=[(0,.int .i64 12),(1,.int .i64 Q.ch.ar)]) (cM (qX Q.ch.ar) kT) Z Z Z ym Z) ?_)
   refine VG (VO.mJ 6 Z Z (fun Fr w hF hs _=>si Fr w ob S2 yd 16 (qX Q.ch.ar)) Z (ψ:=fun v H=>v=.tuple #[]∧H=aZ ob (S2 ++ [(16,qX Q.ch.ar)])) yy ?_)
   rintro _ _ ⟨rfl,rfl⟩
   refine aj ?_
   refine⟨(),trivial,aP,?_⟩
   rw[if_pos ⟨h1,h2⟩];exact(nD (x:=x)).ah
  ·exact⟨(),trivial,aP,no (fun h=>h2 h.2)⟩
 rintro _ -
 refine VC.bJ 1 Z (ba.out ob _) ?_
 rintro⟨a,c⟩ -
 refine aj ?_
 exact CR (aq.tmp 4 Z Z (IP 2 Z (IP 1 Z aa.nil)).ah ⟨a,c,Z,Z⟩)
end
end Rep
namespace Rep
open Go Vg T Api Kv Ch Lg Rd Win Adm Sched Conf
attribute [local irreducible] VO VC VA
def qq(aF seq br ar:Int):ay:={ ay.zero with kind:=1,ar:=ar,aF:=aF,seq:=seq,br:=br,deadline:=9,op:=⟨2,⟨#[107]⟩,⟨#[118]⟩,0⟩ }
end Rep
namespace Cl
open Go Vg T Api Ch Conf Rep
abbrev cz:=Int×ay×List aR
def ek(S:List bQ):List cz:=S.map fun x=>(x.1,x.2,[])
def Gl:bB:=⟨0,⟨#[]⟩,⟨#[]⟩,0⟩
def bA(n:Int):Int:=min (max n 0) 1099511627776
def iF(c:aW):ay:={ ay.zero with kind:=8,dV:=c.ar,drain:=c.drain }
def gu(c:aW)(to:Int):cz:=(to,iF c,c.ms)
def ia(c:aW):Int:=if e_ c≠0∨c.ar=1099511627776 then 2 else 0
def lH(c:aW)(n:Int):Int:=if placeOf c.ms n<0 then 4 else if c.ms.length=1 then 72 else 0
def fX:aW:=⟨0,[],0⟩
def e8(c:aW)(n:Int):aW×Int:=
 if ia c≠0 then (fX,2) else if ow n=false then (fX,2) else if 0≤placeOf c.ms n then (fX,62)
 else (⟨c.ar+1,c.ms ++ [(n,c.ar+1)],c.drain⟩,0)
def im(c:aW)(n:Int):aW×Int:=
 if ia c≠0 then (fX,2) else if lH c n≠0 then (fX,lH c n)
 else (⟨c.ar+1,c.ms.eraseIdx (placeOf c.ms n).toNat,if c.drain=n then -1 else c.drain⟩,0)
def gh(c:aW)(n:Int):aW×Int:=
 if ia c≠0 then (fX,2) else if lH c n≠0 then (fX,lH c n) else if c.drain≠-1 then (fX,62)
 else (⟨c.ar+1,c.ms,n⟩,0)
structure eM where
 cap:Int
 fE:Int
 tokens:Int
 tick:Int
 since:Int
def pe:Nat→eM→eM
 | 0,b=>b
 | k+1,b=>if b.tokens<b.cap∧b.since+b.fE≤b.tick then pe k { b with tokens:=b.tokens+1,since:=b.since+b.fE } else b
def eM.at(b:eM)(now:Int):eM:={ b with tick:=min (max now b.tick) 1099511627776 }
def eM.full(b:eM):eM:=if b.tokens=b.cap then { b with since:=b.tick } else b
def eM.lV(b:eM)(now:Int):eM:=(pe 17 (b.at now)).full
def eM.take(b:eM)(now:Int):eM×Bool:=
 if (b.lV now).tokens=0 then (b.lV now,false) else ({ b.lV now with tokens:=(b.lV now).tokens-1 },true)
def wW(tries iJ:Int):Int:=
 if tries<1 then 0 else if 7<tries then min (max iJ 0) 64 else min ((2 ^ (tries-1).toNat:Nat):Int) (min (max iJ 0) 64)
structure fu where
 kind:Int
 reason:Int
 res:iq
def cF:iq:=⟨0,⟨#[]⟩,0,0⟩
structure aN where
 id:Int
 cls:Int
 timeout:Int
 gr:Int
 tok:eM
 ch:aW
 out:Option (Option fu)
 eR:Int
 since:Int
 Dp:Int
 unsure:Bool
 seq:Int
 tries:Int
 cl:Int
 deadline:Int
 op:bB
def mh(c:bh)(id:Int):aN:=⟨id,c.qs.length,c.timeout,c.gr,⟨c.gr,c.fE,c.gr,0,0⟩,fX,none,0,0,0,false,0,0,0,0,Gl⟩
def qQ:List cz:=[(16,{ ay.zero with kind:=7 },[])]
def Av(o:bB):Bool:=decide (o.kind=1)&&decide (dD o=0)
def aN.ask(s:aN)(now:Int):aN×List cz:=({ s with eR:=1,since:=now },qQ)
def lA(s:aN):ay:={ ay.zero with kind:=1,ar:=s.ch.ar,aF:=s.id,seq:=s.seq,br:=s.tries,cls:=s.cl,deadline:=s.deadline,op:=s.op }
def aN.to(s:aN):Int:=if Av s.op then vI s.ch else tS s.ch
def aN.mR(s:aN)(now:Int):aN:={ s with tries:=s.tries+1,eR:=2,since:=now }
def aN.br(s:aN)(now:Int):aN×List cz:=(s.mR now,[((s.mR now).to,lA (s.mR now),[])])
def Nr(o:Option (Option fu))(x:fu):Option (Option fu):=match o with
 | some none=>some (some x)
 | o=>o
def aN.end_(s:aN)(o:fu):aN:={ s with out:=Nr s.out o,eR:=0 }
def aN.giveUp(s:aN)(reason:Int):aN×List cz:=(s.end_ (if s.unsure then ⟨3,0,cF⟩ else ⟨2,reason,cF⟩),qQ)
def aN.CQ(s:aN)(now:Int):aN:={ s with eR:=3,Dp:=now+wW s.tries 64 }
def aN.rH(s:aN)(now:Int):aN:={ s with tok:=(s.tok.take now).1 }
def aN.fR(s:aN)(reason now:Int):aN×List cz:=
 if s.gr<s.tries∨s.deadline<now then s.giveUp reason
 else if (s.tok.take now).2 then ((s.rH now).CQ now,[]) else (s.rH now).giveUp reason
def aN.begun(s:aN)(o:bB)(cl deadline:Int):aN:={ s with out:=some none,seq:=s.seq+1,tries:=0,unsure:=false,op:=o,cl:=cl,deadline:=deadline }
def aN.gD(s:aN)(o:bB)(cl deadline:Int):Int:=
 if s.eR≠0 then 63 else if dD o≠0∨cl<0∨s.cls≤cl∨deadline<0∨1099511627776<deadline then 2 else 0
def aN.call(s:aN)(o:bB)(cl deadline now:Int):aN×List cz:=
 if s.gD o cl deadline≠0 then (s,[]) else if 0<s.ch.ar then (s.begun o cl deadline).br (bA now) else (s.begun o cl deadline).ask (bA now)
def aN.refused(s:aN)(reason now:Int):aN×List cz:=
 if reason=6∨reason=5∨reason=7 then ({ s with unsure:=true }:aN).fR reason now
 else if reason=2∨reason=10 then s.giveUp reason else s.fR reason now
def aN.take(s:aN)(f:ay)(ms:List aR)(now:Int):aN×List cz:=
 if f.kind=8 then
  if e_ ⟨f.dV,ms,f.drain⟩≠0∨f.dV<s.ch.ar then (s,[])
  else if s.eR=1 then ({ s with ch:=⟨f.dV,ms,f.drain⟩ }:aN).br (bA now) else ({ s with ch:=⟨f.dV,ms,f.drain⟩ },[])
 else if f.kind=2 then if s.eR≠0∧f.aF=s.id∧f.seq=s.seq then (s.end_ ⟨1,0,f.res⟩,[]) else (s,[])
 else if f.kind=3 then if s.eR=2∧f.aF=s.id∧f.seq=s.seq∧f.br=s.tries then s.refused f.reason (bA now) else (s,[])
 else (s,[])
def aN.tick(s:aN)(now:Int):aN×List cz:=
 if s.eR=2 then if s.timeout≤bA now-s.since then ({ s with unsure:=true }:aN).fR 0 (bA now) else (s,[])
 else if s.eR=1 then if bA now-s.since<s.timeout then (s,[]) else if s.deadline<bA now then s.giveUp 2 else s.ask (bA now)
 else if s.eR=3 then if s.Dp≤bA now then s.ask (bA now) else (s,[])
 else (s,[])
def aN.outcome(s:aN):Option fu:=s.out.getD none
structure aE where
 nodes:Int
 fI:Int
 ch:aW
 heard:List Int
 whole:List Bool
def qm(c:bh):aE:=⟨c.nodes,c.fI,b_ c,List.replicate 6 0,(List.range 6).map fun(i:Nat)=>decide ((i:Int)<c.chain)⟩
def aE.rK(m:aE)(n:Int):Bool:=(m.whole[n.toNat]?).getD false
def aE.rj(m:aE)(n:Int):Int:=(m.heard[n.toNat]?).getD 0
def aE.mf(m:aE)(n:Int):Bool:=m.ch.ms.any fun x=>!decide (x.1=n)&&m.rK x.1
def aE.isNode(m:aE)(n:Int):Bool:=decide (0≤n)&&decide (n<m.nodes)
def aE.all(m:aE):List cz:=(List.range m.nodes.toNat).map fun(n:Nat)=>gu m.ch (n:Int)
def aE.kB(m:aE)(n:Int):Int:=(im m.ch n).2
def aE.gone(m:aE)(n:Int):aE:={ m with ch:=(im m.ch n).1,whole:=m.whole.set n.toNat false }
def aE.out(m:aE)(n:Int):aE:=if m.kB n≠0 then m else m.gone n
def pB(ar index:Int):ay:={ ay.zero with kind:=10,ar:=ar,index:=index }
def aE.iv(m:aE)(from_ now:Int):aE:={ m with heard:=m.heard.set from_.toNat (bA now) }
def aE.vK(m:aE)(from_:Int):aE:={ m with whole:=m.whole.set from_.toNat true }
def aE.take(m:aE)(from_:Int)(f:ay)(now:Int):aE×List cz:=
 if f.kind=7 then (m,[gu m.ch from_])
 else if m.isNode from_=false then (m,[])
 else if f.kind=11 then
  if f.ar≠m.ch.ar then (m.iv from_ now,[gu m.ch from_])
  else if f.index=1∧(cm m.ch from_).2=true then ((m.iv from_ now).vK from_,[]) else (m.iv from_ now,[])
 else if f.kind=9 then
  if f.ar≠m.ch.ar then (m,[gu m.ch from_]) else if vI m.ch=from_ then (m,[(from_,pB f.ar f.index,[])]) else (m,[])
 else if f.kind=12 then
  if (f.ar=m.ch.ar∧m.ch.drain=from_)∧m.mf from_=true∧m.kB from_=0 then (m.gone from_,(m.gone from_).all) else (m,[])
 else (m,[])
def aE.late(m:aE)(now n:Int):Bool:=decide (m.fI<now-m.rj n)&&(m.mf n&&decide (m.kB n=0))
def aE.watch(now:Int):List aR→aE×Bool→aE×Bool
 | [],x=>x
 | y::l,x=>aE.watch now l (if x.1.late now y.1 then (x.1.gone y.1,true) else x)
def aE.tick(m:aE)(now:Int):aE×List cz:=
 ((aE.watch (bA now) m.ch.ms (m,false)).1,if (aE.watch (bA now) m.ch.ms (m,false)).2 then (aE.watch (bA now) m.ch.ms (m,false)).1.all else [])
def aE.qj(m:aE)(n:Int):Int:=if (cm m.ch n).2=false then 4 else if m.mf n=false then 72 else 0
def aE.eQ(m:aE)(n:Int):aE×List cz×Int:=
 if m.qj n≠0 then (m,[],m.qj n) else if m.kB n≠0 then (m,[],m.kB n) else (m.gone n,(m.gone n).all,0)
def aE.fC(m:aE)(n now:Int):aE:={ m with ch:=(e8 m.ch n).1,whole:=m.whole.set n.toNat false,heard:=m.heard.set n.toNat (bA now) }
def aE.join(m:aE)(n now:Int):aE×List cz×Int:=
 if m.isNode n=false then (m,[],2) else if (e8 m.ch n).2≠0 then (m,[],(e8 m.ch n).2) else (m.fC n now,(m.fC n now).all,0)
def aE.iH(m:aE)(n:Int):aE:={ m with ch:=(gh m.ch n).1 }
def aE.drain(m:aE)(n:Int):aE×List cz×Int:=
 if m.qj n≠0 then (m,[],m.qj n) else if (gh m.ch n).2≠0 then (m,[],(gh m.ch n).2) else (m.iH n,(m.iH n).all,0)
structure RecM where
 aF:Int
 seq:Int
 op:bB
 from_:Int
 to:Int
 out:fu
def Mo:fu:=⟨0,0,cF⟩
structure bE where
 bq:List RecM
 events:Int
 last:List Int
def ud:bE:=⟨[],0,List.replicate 6 0⟩
def bE.fo(h:bE)(c:Int):Option (Nat×RecM):=
 if c<0∨6≤c∨(h.last[c.toNat]?).getD 0=0 then none
 else (h.bq[((h.last[c.toNat]?).getD 0).toNat-1]?).map fun r=>(((h.last[c.toNat]?).getD 0).toNat-1,r)
def bE.gD(h:bE)(c seq:Int)(o:bB):Int:=
 if c<0∨6≤c∨seq<1∨dD o≠0 then 2
 else match h.fo c with
  | none=>0
  | some (_,r)=>if r.to<0 then 63 else if seq≤r.seq then 70 else 0
def bE.call(h:bE)(c seq:Int)(o:bB):bE:=
 if h.gD c seq o≠0 then h
 else ⟨h.bq ++ [⟨c,seq,o,h.events,-1,Mo⟩],h.events+1,h.last.set c.toNat ((h.bq.length:Int)+1)⟩
def bE.end_(h:bE)(c seq:Int)(o:fu):bE:=
 if o.kind≠1∧o.kind≠2∧o.kind≠3 then h
 else match h.fo c with
  | none=>h
  | some (i,r)=>if r.seq≠seq∨0≤r.to then h else { h with bq:=h.bq.set i { r with to:=h.events,out:=o },events:=h.events+1 }
abbrev bj:=Int×Int
structure aT where
 cap:Int
 aX:List (bj×List ByteArray)
def aT.list(l:aT)(p:bj):List ByteArray:=(bF l.aX p).getD []
def iN(a:Int):Bool:=(decide (0≤a)&&decide (a<6))||(decide (a=16)||(decide (32≤a)&&decide (a<38)))
def aT.kX(l:aT)(p:bj)(t:ByteArray):Int:=
 if iN p.1=false∨iN p.2=false∨p.1=p.2 then 2 else if 512<t.size then 3 else if l.cap≤(l.list p).length then 60 else 0
def aT.send(l:aT)(p:bj)(t:ByteArray):aT:=if l.kX p t≠0 then l else { l with aX:=bV l.aX p (l.list p ++ [t]) }
def aT.find(l:aT)(p:bj)(i:Int):Option ByteArray:=if i<0 then none else (l.list p)[i.toNat]?
def aT.dy(l:aT)(p:bj)(i:Int):aT:=
 if ((l.list p).eraseIdx i.toNat).length=0 then { l with aX:=eO (bV l.aX p ((l.list p).eraseIdx i.toNat)) p } else { l with aX:=bV l.aX p ((l.list p).eraseIdx i.toNat) }
def aT.drop(l:aT)(p:bj)(i:Int):aT×Int:=if l.find p i=none then (l,4) else (l.dy p i,0)
def aT.double(l:aT)(p:bj)(i:Int):aT×Int:=match l.find p i with
 | none=>(l,4)
 | some t=>(l.send p t,l.kX p t)
end Cl
namespace Cl
open Go Vg T Api
attribute [local irreducible] VO VC VA
abbrev nH:TypeId:=286
abbrev sJ:TypeId:=133
def dR(o:fu):List Value:=[.int .i64 o.kind,.int .i64 o.reason,.int .i64 o.res.code,.string o.res.value,.int .i64 o.res.version,.int .i64 o.res.at_]
def mj:fu:=⟨0,0,⟨0,⟨#[]⟩,0,0⟩⟩
def qw(d k s:Int)(o:fu):List Value:=[.bool true,.int .u32 d,.int .i32 k,.int .u32 0,.int .u32 s]++dR o
def oW:Option fu→List Value
 | none=>qw 0 0 0 mj
 | some o=>qw 1 0 1 o
theorem XV:az Tryz.prog 146 [] Fr w [] (fun v L=>∃p,v=.pointer (some ⟨p,0,none⟩)∧L=[pt p (oW none) nH]):=by
 refine TF 3 Tryz.func146 Z ym aD Z Z ?_
 refine ae ?_
 refine VG (VI (LB (pv:=[(0,.bool true)]) (oW none) Z Z Z ym Z) ?_)
 refine VG (VB (vs:=oW none) Z fun q=>?_)
 refine ae ?_
 exact CR (aq.tmp 0 Z Z ER ⟨q,Z,Z⟩)
theorem Hc{p:Nat}{d k s:Int}{o:fu}(h:bu Fr w p (qw d k s o)):az Tryz.prog 197 [.pointer (some ⟨p,0,none⟩)] Fr w [] (fun v L=>v=.bool false∧L=[]):=by
 refine TF 12 Tryz.func197 Z ym aD Z Z ?_
 refine yC ?_
 refine jH ?_
 exact mB
section
variable {X:Cx} {e:Env} {L:List HP}
theorem aQ.QN{k:IntKind}{f:FuncId}{fn:Func}{x:Operand}{tys:Array TypeId}{b off:Nat}{n:Int}(h:Ext X.P f fn (Extern.Atomic.loadT (.int k)))(hx:ev e x=some (.pointer (some ⟨b,off,none⟩)))
  (hr:∀w,St X L w→w.cell? ⟨b,off,none⟩=some (.int k n)):aQ X (.call ⟨.value (.func f),#[x],tys⟩) e L (fun v L'=>v=.int k n∧L'=L):=fun a w ha hw dst ty pos after guard=>by
 refine .inl ⟨_,w,L,?_,⟨rfl,Z⟩,hw⟩
 rw[Kg]
 have:(#[x]:Array Operand).map a.eval=#[.pointer (some ⟨b,off,none⟩)]:=by simp[ha.ev hx]
 rw[this]
 exact run_call_load h.at_ h.nm h.nb h.nn k h.ex (hr w hw)
theorem aQ.QO{k:IntKind}{f:FuncId}{fn:Func}{x y:Operand}{tys:Array TypeId}{b off t:Nat}{m:Int}{u:Value}{cs:List Value}(i:Nat)(h:Ext X.P f fn Extern.Atomic.storeT)(hx:ev e x=some (.pointer (some ⟨b,off,none⟩)))
  (hy:ev e y=some (.int k m)) (hL:L[i]?=some (pt b cs t)) (hc:cs[off]?=some u):
  aQ X (.call ⟨.value (.func f),#[x,y],tys⟩) e L (fun v L'=>v=.tuple #[]∧L'=L.set i (pt b (cs.set off (.int k m)) t)):=fun a w ha hw dst ty pos after guard=>by
 obtain⟨h0,_⟩:=hw.sj hL
 refine .inl ⟨_,_,_,?_,⟨rfl,Z⟩,hw.set hL⟩
 rw[Kg]
 have:(#[x,y]:Array Operand).map a.eval=#[.pointer (some ⟨b,off,none⟩),.int k m]:=by simp[ha.ev hx,ha.ev hy]
 rw[this,←G5 h0]
 exact run_call_store h.at_ h.nm h.nb h.nn h.ex (by rw[cell_of_row w b off cs.toArray t (0,0) h0];simpa using hc) (frozen_of_row w b off cs.toArray t h0)
end
theorem SM:Ext Tryz.prog 248 Tryz.f248 (Extern.Atomic.loadT (.int .u32)):=⟨Tryz.func248,by kernel_rfl,by kernel_rfl,by kernel_rfl,by kernel_rfl⟩
theorem SO:Ext Tryz.prog 287 Tryz.f287 Extern.Atomic.storeT:=⟨Tryz.func287,by kernel_rfl,by kernel_rfl,by kernel_rfl,by kernel_rfl⟩
theorem Et{p off:Nat}{cs:List Value}{n:Int}(h:bu Fr w p cs)(hn:cs[off]?=some (.int .u32 n)):az Tryz.prog 198 [.pointer (some ⟨p,off,none⟩)] Fr w [] (fun v L=>v=.bool (n != 0)∧L=[]):=by
 obtain⟨hf,t,fz,ht⟩:=h
 refine TF 8 Tryz.func198 Z ym aD Z Z ?_
 refine ae ?_
 refine VG (VO.ue (v:=.int .u32 n) (aQ.QN (X:=⟨Tryz.prog,tab,aD,8,Fr,w⟩) SM Z (fun w' hw=>?_)) ?_)
 ·have hb:w'.heap[p]?=some (.cells cs.toArray t fz):=(hw.cS.block p hf).trans ht
  have:=cell_of_row w' p off cs.toArray t fz hb
  rw[this];simpa using hn
 refine ae ?_
 exact mB
theorem Q1(b:Bool):az Tryz.prog 288 [.bool b] Fr w [] (fun v L=>v=.int .u32 (if b then 1 else 0)∧L=[]):=by
 refine TF 4 Tryz.func288 Z ym aD Z Z ?_
 refine ae ?_
 refine CC Z (fun h=>?_) (fun h=>CK ?_)
 ·subst h
  refine ae ?_
  exact mB
 ·subst h
  refine ae ?_
  exact mB
theorem Q0{p off:Nat}{T:TypeId}{cs:List Value}{u:Value}(b:Bool)(hu:cs[off]?=some u):az Tryz.prog 283 [.pointer (some ⟨p,off,none⟩),.bool b] Fr w [pt p cs T] (fun v L=>v=.tuple #[]∧L=[pt p (cs.set off (.int .u32 (if b then 1 else 0))) T]):=by
 refine TF 10 Tryz.func283 Z ym aD Z Z ?_
 refine CD (ts 0 4 (.only 4 (.only 5 .nil))) ym yr ?_
 refine dp ?_
 refine AG (AR (fun Fr w hF hs hS=>Q1 Fr w b) Z Z yu ?_)
 refine AG (AO (aQ.QO (k:=.u32) 0 SO rfl rfl rfl hu) rfl (fun v L' g=>by obtain⟨rfl,rfl⟩:=g;exact mU) ?_)
 rintro _ _ ⟨rfl,rfl⟩
 refine dp ?_
 exact vN
theorem XQ{p:Nat}(o:Option fu)(h:bu Fr w p (oW o)):az Tryz.prog 120 [.pointer (some ⟨p,0,none⟩)] Fr w [] (fun v L=>v=.tuple #[.agg (dR (o.getD mj)).toArray,.bool o.isSome]∧L=[]):=by
 refine TF 18 Tryz.func120 Z ym aD Z Z ?_
 refine CS (CG (VG (VO.alloc Z fun b2=>?_)))
 refine aw ?_
 cases o with
 | none=>
  refine VG (VV (fun Fr w hF hw _=>Hc Fr w (d:=0) (k:=0) (s:=0) (o:=mj) (h.of hF hw)) Z ?_)
  refine aw ?_
  refine VG (VY 6 false Z Z ?_)
  refine aw ?_
  refine VG (VV (fun Fr w hF hw _=>Et Fr w (h.of hF hw) Z) Z ?_)
  refine kE ?_
  refine VG (VI (LB (pv:=[]) (dR mj) Z Z Z ym Z) ?_)
  refine Pb ?_
  refine aw ?_
  exact Pc
 | some o=>
  refine VG (VV (fun Fr w hF hw _=>Hc Fr w (d:=1) (k:=0) (s:=1) (o:=o) (h.of hF hw)) Z ?_)
  refine aw ?_
  refine VG (VY 6 false Z Z ?_)
  refine aw ?_
  refine VG (VV (fun Fr w hF hw _=>Et Fr w (h.of hF hw) Z) Z ?_)
  refine kh ?_
  refine aw ?_
  refine VG (VO.load Z Z (ax.jR (ds:=dR o) h Z) ?_)
  refine VG (VT (vs:=dR o) (cs':=dR o) 0 Z Z Z Z (NR _) Z Z Z ?_)
  refine aw ?_
  exact CR (aq.dB 2 3 Z Z Z (ax.many (ds:=dR o) 0 Z Z) Z aa.nil.ah ⟨rfl,Z⟩)
theorem XH{p b2 b3 b5:Nat}{o o0:fu}{d k:Int}:az Tryz.prog 282 [.pointer (some ⟨b3,0,none⟩),.pointer (some ⟨b2,0,none⟩),.pointer (some ⟨b5,0,none⟩)] Fr w
  [pt p (qw d k 0 o0) nH,pt b2 [.pointer (some ⟨p,0,none⟩)] 118,pt b3 (dR o) sJ,pt b5 [.bool false] 4]
  (fun v L=>v=.tuple #[]∧L=[pt p (qw d k 1 o) nH,pt b2 [.pointer (some ⟨p,0,none⟩)] 118,pt b3 (dR o) sJ,pt b5 [.bool true] 4]):=by
 refine TF 11 Tryz.func282 Z ym aD Z Z ?_
 refine CS (CG (VG (VO.ld 1 Z Z Z Z ?_)))
 refine VG (VL 2 (dR o) Z Z Z Z ?_)
 refine VG (VT (vs:=dR o) (cs':=qw d k 0 o) 0 Z Z Z Z (NR _) Z Z Z ?_)
 refine ae ?_
 refine xP ?_
 refine ae ?_
 refine VG (VK (Lc:=[pt p (qw d k 0 o) nH]) (fun Fr w hF hw _=>Q0 Fr w (off:=4) true Z) Z Z ?_)
 rintro _ _ ⟨rfl,rfl⟩
 refine ae ?_
 refine VG (VO.st 3 (cs':=[.bool true]) Z Z Z Z r8 Z Z ?_)
 refine ae ?_
 exact vN
end Cl
namespace Cl
open Go Vg T Api
theorem MK(w:World):(callFunc 294 #[]).run Tryz.prog w=.ok (.value (.tuple #[])) w:=run_call_mark0 Tryz.func294 ym ym ym .disable ym w
theorem ML(w:World):(callFunc 296 #[]).run Tryz.prog w=.ok (.value (.tuple #[])) w:=run_call_mark0 Tryz.func296 ym ym ym .enable ym w
theorem W3(a:Addr)(w:World):(callFunc 297 #[.pointer (some a)]).run Tryz.prog w=.ok (.value (.tuple #[])) w:=run_call_marked Tryz.func297 ym ym ym .acquire ym a w
theorem W4(a:Addr)(w:World):(callFunc 299 #[.pointer (some a)]).run Tryz.prog w=.ok (.value (.tuple #[])) w:=run_call_marked Tryz.func299 ym ym ym .releaseMerge ym a w
theorem Yh(a:Addr)(x:Value)(u:FrameMode)(w:World)(hc:w.cell? a=some x)(hz:w.frozen? a=false):
  CallsD Tryz.prog 283 #[.pointer (some a),.bool true] u w fun e u' w'=>u'=u∧(e=.returned (.tuple #[])∧w'=w.drew.setCell a (.int .u32 1)):=by
 have hc':w.drew.cell? a=some x:=by go_simp
 have hz':w.drew.frozen? a=false:=by go_simp
 have hst:=run_call_store (P:=Tryz.prog) Tryz.func287 ym ym ym ym (k:=.u32) (y:=1) hc' hz'
 go_enter_d Tryz.func283,Tryz.ntmps283
 go_wp2
 go_region_calls
 all_goals (go_end0;exact⟨rfl,rfl⟩)
theorem abL(a:Addr)(u:FrameMode)(w:World)(hc:w.cell? a=some (.int .i32 1))(hz:w.frozen? a=false):
  CallsD Tryz.prog 291 #[.pointer (some a)] u w fun e u' w'=>u'=u∧(e=.returned (.tuple #[])∧w'=w.setCell a (.int .i32 0)):=by
 have hd:=MK
 have he:=ML
 have hr:=W4
 have hadd:=run_call_add (P:=Tryz.prog) Tryz.func300 ym ym ym .i32 ym (y:=-1) (s:=0) hc hz (by simp[go_sem];rfl)
 have hcv:=run_convert_to_unsafe (P:=Tryz.prog) (src:=358) (dst:=362) Tryz.underlying358 Tryz.underlying362 ym hc
 go_enter_d Tryz.func291,Tryz.ntmps291
 go_wp2
 go_end0
 go_wp2
 go_end0
 exact⟨rfl,Z⟩
theorem UB(a:Addr)(w:World)(hc:w.cell? a=some (.int .i32 0))(hz:w.frozen? a=false):
  Calls Tryz.prog 290 #[.pointer (some a)] w fun e w'=>e=.returned (.tuple #[])∧w'=w.setCell a (.int .i32 1):=by
 have hd:=MK
 have he:=ML
 have ha:=W3
 have hcas:=run_call_cas_hit (P:=Tryz.prog) Tryz.func295 ym ym ym .i32 ym (y:=1) hc hz
 have hc':(w.setCell a (.int .i32 1)).cell? a=some (.int .i32 1):=World.cell?_setCell_same w a _ hc
 have hcv:=run_convert_to_unsafe (P:=Tryz.prog) (src:=358) (dst:=362) Tryz.underlying358 Tryz.underlying362 ym hc'
 go_enter Tryz.func290,Tryz.ntmps290
 go_wp2
 first | go_end0 | (simp only[Exit.inBlock,Exit.then];refine bodyPost_ret (results_none rfl _ _ _) rfl ?_) | refine bodyPost_ret (results_none rfl _ _ _) rfl ?_
 go_wp2
 go_end0
 exact⟨rfl,Z⟩
end Cl
namespace Cl
open Go Vg T Api
abbrev Di:TypeId:=118
def sR(p b2 b3 b5:Nat)(d k s:Int)(o0 o:fu)(f:Bool):List HP:=[pt p (qw d k s o0) nH,pt b2 [.pointer (some ⟨p,0,none⟩)] Di,pt b3 (dR o) sJ,pt b5 [.bool f] 4]
theorem Ay{Fr:Nat→Prop}{L:List HP}{w:World}{b t:Nat}{cs:List Value}(h:Sat Fr (pt b cs t::L) w):w.heap[b]?=some (.cells cs.toArray t (0,0))∧¬Fr b:=by
 obtain⟨F,⟨i,G,rfl,⟨rfl,hi⟩,hG⟩,hn,hb⟩:=h
 exact⟨hi,(hb b yf).1⟩
theorem GW{Fr:Nat→Prop}{L:List HP}{w:World}{b t off:Nat}{cs:List Value}{v:Value}(hlow:∀x,Fr x→x<w.heap.size)(h:Sat Fr (pt b cs t::L) w):
  Sat Fr (pt b (cs.set off v) t::L) (w.setCell ⟨b,off,none⟩ v)∧dG Fr w (w.setCell ⟨b,off,none⟩ v):=by
 obtain⟨h0,hf⟩:=Ay h
 have hst:St (X:=⟨Tryz.prog,tab,aD,0,Fr,w⟩) (pt b cs t::L) w:=⟨h,dG.refl _ _,hlow⟩
 have:=hst.set (i:=0) (cs':=cs.set off v) rfl
 rw[←G5 h0] at this
 exact⟨this.sat,this.cS⟩
theorem zQ{Fr:Nat→Prop}{w w':World}(hlow:∀x,Fr x→x<w.heap.size)(h:dG Fr w w'):∀x,Fr x→x<w'.heap.size:=fun x hx=>we (hlow x hx) h.size
theorem BU{w:World}{b t off:Nat}{cs:List Value}{v:Value}(h:w.heap[b]?=some (.cells cs.toArray t (0,0)))(hv:cs[off]?=some v):w.cell? ⟨b,off,none⟩=some v:=by
 rw[cell_of_row w b off cs.toArray t (0,0) h];simpa using hv
theorem Ft{w:World}{b t off:Nat}{cs:List Value}(h:w.heap[b]?=some (.cells cs.toArray t (0,0))):w.frozen? ⟨b,off,none⟩=false:=frozen_of_row w b off cs.toArray t h
theorem Sj{p b2 b3 b5:Nat}{o0 o:fu}:az Tryz.prog 286 [.pointer (some ⟨p,1,none⟩),gk 282 [] [.pointer (some ⟨b3,0,none⟩),.pointer (some ⟨b2,0,none⟩),.pointer (some ⟨b5,0,none⟩)]] Fr w
  (sR p b2 b3 b5 0 0 0 o0 o false) (fun v L=>v=.tuple #[]∧L=sR p b2 b3 b5 1 0 1 o o true):=by
 refine⟨⟨_,Tryz.func286,by kernel_rfl,by kernel_rfl⟩,fun hlow hsat=>?_⟩
 show Calls _ _ #[.pointer (some ⟨p,1,none⟩),.func (.func 282) #[] #[.pointer (some ⟨b3,0,none⟩),.pointer (some ⟨b2,0,none⟩),.pointer (some ⟨b5,0,none⟩)]] w _
 obtain⟨h0,hf⟩:=Ay hsat
 obtain⟨hs1,hk1⟩:=GW (off:=2) (v:=.int .i32 1) hlow hsat
 have hlow1:=zQ hlow hk1
 have hs1':Sat Fr (sR p b2 b3 b5 0 1 0 o0 o false) (w.setCell ⟨p,2,none⟩ (.int .i32 1)):=hs1
 have hset:=(XH Fr (w.setCell ⟨p,2,none⟩ (.int .i32 1)) (p:=p) (b2:=b2) (b3:=b3) (b5:=b5) (o:=o) (o0:=o0) (d:=0) (k:=1)).calls hlow1 hs1'
 have h01:=(Ay hs1).1
 have hl:=run_call_load (P:=Tryz.prog) Tryz.func248 ym ym ym .u32 ym (w:=w.setCell ⟨p,2,none⟩ (.int .i32 1)) (a:=⟨p,1,none⟩) (x:=0) (BU h01 rfl)
 have hnot:∀(x:Bool) (w:World),(Op.unary .not (.bool x)).run Tryz.prog w=.ok (.bool (!x)) w:=fun _ _=>rfl
 go_enter_defers Tryz.func286,Tryz.ntmps286
 go_wp2_with (go_at_call 290;refine(UB ⟨p,2,none⟩ _ (BU h0 rfl) (Ft h0)).mono ?_;rintro e w' ⟨rfl,rfl⟩)
 go_wp2_with (first | (go_at_call 282;refine hset.mono ?_;rintro e w' ⟨v,L',rfl,⟨rfl,rfl⟩,hs2,hk2⟩) | (go_at_call 198;go_in))
 have hs2':Sat Fr (pt p (qw 0 1 1 o) nH :: [pt b2 [.pointer (some ⟨p,0,none⟩)] Di,pt b3 (dR o) sJ,pt b5 [.bool true] 4]) w':=hs2
 have hlow2:=zQ hlow1 hk2
 have h02:=(Ay hs2').1
 have hs3:Sat Fr (pt p (qw 0 1 1 o) nH :: [pt b2 [.pointer (some ⟨p,0,none⟩)] Di,pt b3 (dR o) sJ,pt b5 [.bool true] 4]) w'.drew:=hs2'.heap rfl
 have hk3:dG Fr w' w'.drew:=dG.drew _ _
 obtain⟨hs4,hk4⟩:=GW (off:=1) (v:=.int .u32 1) (zQ hlow2 hk3) hs3
 have h04:=(Ay hs4).1
 obtain⟨hs5,hk5⟩:=GW (off:=2) (v:=.int .i32 0) (zQ (zQ hlow2 hk3) hk4) hs4
 refine leaves_cons (f:=283) (args:=#[.pointer (some ⟨p,1,none⟩),.bool true]) yf (by simp[go_sem]) ?_
 refine(Yh ⟨p,1,none⟩ (.int .u32 0) .returning _ (BU h02 Z) (Ft h02)).mono ?_
 rintro e u' w'' ⟨rfl,rfl,rfl⟩
 refine leaves_cons (f:=291) (args:=#[.pointer (some ⟨p,2,none⟩)]) (by simp[settle]) (by simp[go_sem]) ?_
 refine(abL ⟨p,2,none⟩ _ _ (BU h04 Z) (Ft h04)).mono ?_
 rintro e u' w'' ⟨rfl,rfl,rfl⟩
 have hres:∃v L',Ending.returned (.tuple #[])=Ending.returned v∧(v=.tuple #[]∧L'=sR p b2 b3 b5 1 0 1 o o true)∧Sat Fr L' ((w'.drew.setCell ⟨p,1,none⟩ (.int .u32 1)).setCell ⟨p,2,none⟩ (.int .i32 0))∧dG Fr w ((w'.drew.setCell ⟨p,1,none⟩ (.int .u32 1)).setCell ⟨p,2,none⟩ (.int .i32 0)):=
  ⟨_,_,rfl,⟨rfl,rfl⟩,hs5,(((hk1.trans hk2).trans hk3).trans hk4).trans hk5⟩
 simpa[Leaves,settle,results,Tryz.results286] using hres
end Cl
namespace Vg
open Go
section
variable {X:Cx} {e:Env} {L:List HP}
theorem Cj{T:TypeId}{x y:Operand}{s:ByteArray}{b:UInt8}{k:IntKind}{j:Int}{tt:TI}(i:Nat)(hx:ev e x=some (.string s))(hy:ev e y=some (.int k j))(hT:bS X.tab T=some tt)(hu:tt.aJ=.string)
  (hj:j=i) (hb:s.data.toList[i]?=some b):fN X (.index T x y) e (.int .u8 (b.toNat:Int)):=by
 intro a ha dst ty pos after guard w
 have hund:=Dl (X.ok.look hT) hu
 subst hj
 have hb2:s[i]?=some b:=by
  have:s.data[i]?=some b:=by simpa using hb
  obtain⟨h1,h2⟩:=rW.1 this
  rw[getElem?_pos s i h1]
  exact congrArg some h2
 simp[execOp,ha.ev hx,ha.ev hy,Instr.index,asIntOf,run_underlying hund,hb2]
end
end Vg
namespace Vg
open Go
section
variable {α:Type} {c:α→List Value} {n:Nat}
def q_(a:Option Addr)(cap lo sz:Nat):Option Addr:=a.map fun q=>if cap=lo then q else q.add (lo*sz)
theorem KX{X:Cx}{e:Env}{T:TypeId}{x y:Operand}{tt te:TI}{el len cap:Nat}{a:Option Addr}{k:IntKind}{j:Int}(lo:Nat)(hx:ev e x=some (.slice a len cap))(hy:ev e y=some (.int k j))
  (hT:bS X.tab T=some tt) (hu:tt.aJ=.slice el) (hE:bS X.tab el=some te) (hlo:j=lo) (h1:lo≤len) (h2:len≤cap):
  fN X (.slice T x (some y) none none) e (.slice (q_ a cap lo te.size) (len-lo) (cap-lo)):=by
 intro ac hac dst ty pos after guard w
 have hd:=qB (X.ok.look hT) hu
 obtain⟨i2,hi2,hs2,_,_⟩:=(X.ok.look hE).og
 subst hlo
 cases a with
 | none=>simp[execOp,hac.ev hx,hac.ev hy,Instr.sliceAt,Instr.slice,Instr.sliceBounds,Instr.sliceBound,asIntOf,run_underlying hd,h1,h2,mu hi2,q_]
 | some a=>
  by_cases h:cap=lo
  ·subst h
   simp[execOp,hac.ev hx,hac.ev hy,Instr.sliceAt,Instr.slice,Instr.sliceBounds,Instr.sliceBound,asIntOf,run_underlying hd,h1,h2,mu hi2,q_]
  ·simp[execOp,hac.ev hx,hac.ev hy,Instr.sliceAt,Instr.slice,Instr.sliceBounds,Instr.sliceBound,asIntOf,run_underlying hd,h1,h2,mu hi2,q_,hs2,h]
end
end Vg
namespace Vg
open Go
section
variable {X:Cx} {e:Env}
theorem FN{T:TypeId}{x y:Operand}{tt:TI}{s:ByteArray}{k:IntKind}{j:Int}(lo:Nat)(hx:ev e x=some (.string s))(hy:ev e y=some (.int k j))
  (hT:bS X.tab T=some tt) (hu:tt.aJ=.string) (hj:j=lo) (hl:lo≤s.size):fN X (.slice T x (some y) none none) e (.string (s.extract lo s.size)):=by
 intro a ha dst ty pos after guard w
 have hd:=Dl (X.ok.look hT) hu
 subst hj
 simp[execOp,ha.ev hx,ha.ev hy,Instr.sliceAt,Instr.slice,Instr.sliceBounds,Instr.sliceBound,asIntOf,run_underlying hd,hl]
theorem K1{T:TypeId}{x y:Operand}{tt:TI}{s:ByteArray}{k:IntKind}{j:Int}(hi:Nat)(hx:ev e x=some (.string s))(hy:ev e y=some (.int k j))
  (hT:bS X.tab T=some tt) (hu:tt.aJ=.string) (hj:j=hi) (hl:hi≤s.size):fN X (.slice T x none (some y) none) e (.string (s.extract 0 hi)):=by
 intro a ha dst ty pos after guard w
 have hd:=Dl (X.ok.look hT) hu
 subst hj
 simp[execOp,ha.ev hx,ha.ev hy,Instr.sliceAt,Instr.slice,Instr.sliceBounds,Instr.sliceBound,asIntOf,run_underlying hd,hl]
theorem K2{xt yt:TypeId}{x y:Operand}{a n:Nat}{k j:IntKind}(z:Int)(hx:ev e x=some (.int j (a:Int)))(hy:ev e y=some (.int k (n:Int)))(hn:n≤j.bits)(hz:j.wrap (((a*2 ^ n:Nat)):Int)=z):fN X (.binOp .shl xt x y yt) e (.int j z):=by
 intro a' ha dst ty pos after guard w
 have h8:min ((n:Int).toNat) j.bits=n:=Bw hn
 have h2:(a:Int)*2 ^ n=((a*2 ^ n:Nat):Int):=by simp
 have h:Op.shift .shl j (a:Int) k (n:Int)=pure (.int j z):=by
  unfold Op.shift
  rw[if_neg yd,h8]
  simp only[h2]
  rw[hz]
 simp only[execOp,ha.ev hx,ha.ev hy]
 show((do eqGuard .shl xt x y (.int j a) (.int k n);Op.shift .shl j a k n:Sem Value) >>= fun v=>pure (Next.value v)).run X.P w=_
 rw[h];rfl
theorem Ux{xt yt:TypeId}{x y:Operand}{a n:Nat}{k j:IntKind}(hx:ev e x=some (.int j (a:Int)))(hy:ev e y=some (.int k (n:Int)))(hn:n≤j.bits):fN X (.binOp .shr xt x y yt) e (.int j ((a / 2 ^ n:Nat):Int)):=by
 intro a' ha dst ty pos after guard w
 have h8:min ((n:Int).toNat) j.bits=n:=Bw hn
 have h2:((2:Int) ^ n)=((2 ^ n:Nat):Int):=by simp
 have hd:(a:Int).fdiv (2 ^ n)=((a / 2 ^ n:Nat):Int):=by
  rw[h2,Int.fdiv_eq_ediv_of_nonneg _ (Int.natCast_nonneg _)];rfl
 have h:Op.shift .shr j (a:Int) k (n:Int)=pure (.int j ((a / 2 ^ n:Nat):Int)):=by
  unfold Op.shift
  rw[if_neg yd,h8]
  simp only[hd]
 simp only[execOp,ha.ev hx,ha.ev hy]
 show((do eqGuard .shr xt x y (.int j a) (.int k n);Op.shift .shr j a k n:Sem Value) >>= fun v=>pure (Next.value v)).run X.P w=_
 rw[h];rfl
theorem wrap_u64{n:Int}(h0:0≤n)(h1:n<18446744073709551616):IntKind.u64.wrap n=n:=by
 simp[IntKind.wrap,IntKind.bits,IntKind.signed];omega
theorem Uw{xt yt:TypeId}{x y:Operand}{a b:Nat}(hx:ev e x=some (.int .u64 (a:Int)))(hy:ev e y=some (.int .u64 (b:Int)))(ha:a<18446744073709551616)(hb:b<18446744073709551616):fN X (.binOp .or xt x y yt) e (.int .u64 ((a ||| b:Nat):Int)):=by
 intro a' hag dst ty pos after guard w
 have hlt:a ||| b<18446744073709551616:=by
  have:a ||| b<2 ^ 64:=Nat.or_lt_two_pow (by simpa using ha) (by simpa using hb)
  simpa using this
 have f1:∀c:Nat,c<18446744073709551616→(BitVec.ofInt 64 (c:Int)).toNat=c:=fun c hc=>by simp;omega
 have h:Op.intBits .or .u64 (a:Int) (b:Int)=pure (.int .u64 ((a ||| b:Nat):Int)):=by
  have e1:(BitVec.ofInt 64 (a:Int) ||| BitVec.ofInt 64 (b:Int)).toNat=a ||| b:=by rw[BitVec.toNat_or,f1 a ha,f1 b hb]
  have e2:IntKind.u64.wrap ((BitVec.ofInt 64 (a:Int) ||| BitVec.ofInt 64 (b:Int)).toNat:Int)=((a ||| b:Nat):Int):=by rw[e1];exact wrap_u64 yd yd
  show(pure (.int .u64 (IntKind.u64.wrap ((BitVec.ofInt 64 (a:Int) ||| BitVec.ofInt 64 (b:Int)).toNat:Int))):Sem Value)=_
  rw[e2]
 simp only[execOp,hag.ev hx,hag.ev hy]
 show((do eqGuard .or xt x y (.int .u64 a) (.int .u64 b);Op.intBits .or .u64 a b:Sem Value) >>= fun v=>pure (Next.value v)).run X.P w=_
 rw[h];rfl
end
theorem Uy{X:Cx}{e:Env}{T:TypeId}{x y z u:Operand}{tt te:TI}{el len cap:Nat}{a:Option Addr}{k k' k'':IntKind}{i j m:Int}(lo hi mx:Nat)(hx:ev e x=some (.slice a len cap))(hy:ev e y=some (.int k i))(hz:ev e z=some (.int k' j))(hw:ev e u=some (.int k'' m))
  (hT:bS X.tab T=some tt) (hu:tt.aJ=.slice el) (hE:bS X.tab el=some te) (hlo:i=lo) (hhi:j=hi) (hmx:m=mx) (h1:lo≤hi) (h2:hi≤mx) (h3:mx≤cap):
  fN X (.slice T x (some y) (some z) (some u)) e (.slice (if mx=lo then a else a.map (·.add (lo*te.size))) (hi-lo) (mx-lo)):=by
 intro ac ha dst ty pos after guard w
 have hd:=qB (X.ok.look hT) hu
 obtain⟨i2,hi2,hs2,_,_⟩:=(X.ok.look hE).og
 subst hlo;subst hhi;subst hmx
 simp[execOp,ha.ev hx,ha.ev hy,ha.ev hz,ha.ev hw,Instr.sliceAt,Instr.slice,Instr.sliceBounds,Instr.sliceBound,asIntOf,run_underlying hd,h1,h2,h3,mu hi2,hs2]
theorem aQ.I'{X:Cx}{e:Env}{L:List HP}{t el esz n cap m g:Nat}{tt te:TI}{x y:Operand}{cs news:List Value}{v:Value}(i:Nat)
  (hx:ev e x=some (.slice (some ⟨g,0,none⟩) n cap)) (hy:ev e y=some v) (hL:L[i]?=some (pt g cs el)) (hT:bS X.tab t=some tt) (hu:tt.aJ=.slice el) (hE:bS X.tab el=some te) (hesz:te.size=esz)
  (hr:fv X L v esz m news) (h1:news.all Value.oneCell'=true) (hroom:n+m≤cap) (hfit:n*esz+news.length≤cs.length):
  aQ X (.call ⟨.builtin .append,#[x,y],#[t,t]⟩) e L (fun u L'=>u=.slice (some ⟨g,0,none⟩) (n+m) cap∧L'=L.set i (pt g (dT cs (n*esz) news) el)):=by
 intro ac w ha hw dst ty pos after guard
 have hund:=qB (X.ok.look hT) hu
 have hok:=X.ok.look hE
 obtain⟨ti,hi,hsz,hbt,hz⟩:=hok.og
 have hexec:∀u w',(Builtin.append_ #[t,t] ty #[.slice (some ⟨g,0,none⟩) n cap,v]).run X.P w=.ok u w' →
   (execOp ac.eval ⟨dst,.call ⟨.builtin .append,#[x,y],#[t,t]⟩,ty,pos,after,guard⟩).run X.P w=.ok (.value u) w':=fun u w' h=>by
  simp[execOp,resolve,invoke,builtin,ha.ev hx,ha.ev hy,h]
 obtain⟨h0,hf⟩:=hw.sj hL
 obtain⟨hnl,hrd⟩:=hr
 rcases hrd with ⟨d,c,rfl,rfl⟩ | ⟨b,off,c,rfl,hrg⟩
 ·have hn0:news=[]:=iz (by simpa using hnl)
  subst hn0
  refine .inl ⟨_,w,_,hexec _ _ (M3 hund hi (some ⟨g,0,none⟩) d n cap c yd ty),⟨rfl,Z⟩,?_⟩
  rw[Hq]
  have hset:L.set i (pt g cs el)=L:=by
   refine pN fun j=>?_
   by_cases e:i=j
   ·subst e;rw[iM (bY.1 hL).1,hL]
   ·rw[kG e]
  rw[hset];exact hw
 ·have hnews:∀j u,news[j]?=some u→w.cell? ((⟨b,off,none⟩:Addr).add j)=some u:=fun j u hj=>by rw[Addr.add_mid];exact hrg w hw j u hj
  have h1':∀u∈news,u.oneCell'=true:=lh.1 h1
  have hrun:=run_append_room (P:=X.P) w t ty el ti hund hi g n cap _ h0 ⟨b,off,none⟩ m c news (by rw[hsz,hesz];exact hnl) hnews h1' hroom (by rw[hsz,hesz];simpa using hfit)
  have e2:cs.toArray.toList.take (n*ti.size)++news++cs.toArray.toList.drop (n*ti.size+news.length)=dT cs (n*esz) news:=by rw[hsz,hesz];rfl
  rw[e2] at hrun
  have e3:w.setRow g (dT cs (n*esz) news).toArray=eu w g (.cells (dT cs (n*esz) news).toArray el (0,0)):=by
   unfold World.setRow eu
   have hlt:=(rW.1 h0).1
   refine congrArg (fun h=>({ w with heap:=h }:World)) (vW fun j=>?_)
   rw[vX,Array.getElem?_setIfInBounds]
   by_cases e:g=j
   ·subst e;rw[if_pos rfl,if_pos rfl,if_pos hlt,h0];rfl
   ·rw[if_neg e,if_neg e]
  rw[e3] at hrun
  exact .inl ⟨_,_,_,hexec _ _ hrun,⟨rfl,Z⟩,hw.set hL⟩
section
variable {α:Type} {c:α→List Value} {n:Nat}
theorem erase_eq(l:List α)(i:Nat):l.eraseIdx i=l.take i++l.drop (i+1):=List.eraseIdx_eq_take_drop_succ l i
theorem J1(h:∀a,(c a).length=n){l:List α}{i:Nat}(hi:i<l.length)(rest:List Value):∃z,z.length=n∧dT (flat c l++rest) (i*n) (flat c (l.drop (i+1)))=flat c (l.eraseIdx i)++(z++rest):=by
 obtain⟨x,hx⟩:∃x,l[i]?=some x:=⟨_,GE hi⟩
 have hd:l.drop i=x::l.drop (i+1):=by
  obtain⟨h1,h2⟩:=bY.1 hx
  rw[Bo h1,h2]
 have hl:flat c l=flat c (l.take i)++(c x++flat c (l.drop (i+1))):=by rw[←lZ,←hd,←jU,List.take_append_drop]
 have ha:(flat c (l.take i)).length=i*n:=by rw[fA h,kH];congr 1;omega
 refine⟨(c x++flat c (l.drop (i+1))).drop (flat c (l.drop (i+1))).length,by rw[r4,a_,h];omega,?_⟩
 rw[erase_eq,jU,hl]
 generalize flat c (l.take i)=A at ha
 generalize flat c (l.drop (i+1))=D
 unfold dT
 have e1:(A++(c x++D)++rest).take (i*n)=A:=by rw[eL];exact wb ha
 have e2:(A++(c x++D)++rest).drop (i*n+D.length)=(c x++D).drop D.length++rest:=by
  rw[←ha,←List.drop_drop,eL,List.drop_left' rfl,List.drop_append_of_le_length yp]
 rw[e1,e2,eL]
theorem Ot{A z zs rest:List Value}{k:Nat}(hA:A.length=k)(hz:zs.length=z.length):dT (A++(z++rest)) k zs=A++(zs++rest):=by
 unfold dT
 subst hA
 rw[wb rfl,List.drop_append,hz]
 simp
end
theorem aa.Dh{L M:List HP}{el esz b n:Nat}{cs:List Value}(hc:cs.length=n*esz)(h:aa L (pt b cs el::M)):aa L (aA el esz (some ⟨b,0,none⟩) n n cs::M):=by
 have:=aa.sl (L:=L) (M:=M) (el:=el) (b:=b) (rest:=[]) (cap:=n) hc (NR _) (by rw[bK];exact hc) (by rw[bK];exact h)
 exact this
theorem Wb{n b:Nat}(hb:b<256):(n*256) ||| b=n*256+b:=by
 have h:n*256=n <<< 8:=by rw[Nat.shiftLeft_eq]
 rw[h,Nat.shiftLeft_add_eq_or_of_lt (by simpa using hb)]
end Vg
namespace Cl
open Go Vg T Api
attribute [local irreducible] VO VC VA
theorem V9{p b2 b3 b5:Nat}{o0 o:fu}:az Tryz.prog 281 [.pointer (some ⟨p,1,none⟩),gk 282 [] [.pointer (some ⟨b3,0,none⟩),.pointer (some ⟨b2,0,none⟩),.pointer (some ⟨b5,0,none⟩)]] Fr w
  (sR p b2 b3 b5 0 0 0 o0 o false) (fun v L=>v=.tuple #[]∧L=sR p b2 b3 b5 1 0 1 o o true):=by
 refine TF 12 Tryz.func281 Z ym aD Z Z ?_
 refine ae ?_
 refine VG (VV (fun Fr w hF hw hS=>Et Fr w (n:=0) (hS.aC 0 Z) Z) Z ?_)
 refine vU ?_
 refine VG (VK (Lc:=sR p b2 b3 b5 0 0 0 o0 o false) (Lr:=[]) (fun Fr w hF hw _=>Sj Fr w) Z (bK _).symm ?_)
 rintro _ _ ⟨rfl,rfl⟩
 refine ae ?_
 exact aq.void Z ER ⟨rfl,bK _⟩
theorem X0{p:Nat}{o:fu}(h1:1≤o.kind)(h2:o.kind≤3):az Tryz.prog 264 [.pointer (some ⟨p,0,none⟩),.agg (dR o).toArray] Fr w [pt p (oW none) nH] (fun v L=>v=.bool true∧L=[pt p (oW (some o)) nH]):=by
 refine TF 24 Tryz.func264 Z ym aD Z Z ?_
 refine CS (CG (VG (VO.EG Z fun b2=>VG (VB (vs:=dR o) Z fun b3=>VG (VN ?_)))))
 refine g_ ?_
 refine VG (VV (fun Fr w hF hw hS=>Hc Fr w (p:=p) (d:=0) (k:=0) (s:=0) (o:=mj) (hS.aC 2 Z)) Z ?_)
 refine aw ?_
 refine xN ?_
 refine bW ?_
 refine VG (VY 13 false Z (DF yd) ?_)
 refine bW ?_
 refine CP (p:=3<o.kind) Z (fun h=>absurd h yd) (fun h=>CK ?_)
 refine aw ?_
 refine VG (VO.alloc Z fun b5=>?_)
 refine VG (VO.st 0 (cs':=[.bool false]) Z Z Z Z r8 Z Z ?_)
 refine jG ?_
 refine VG (VI (wX (u:=[]) (v:=[.pointer (some ⟨b3,0,none⟩),.pointer (some ⟨b2,0,none⟩),.pointer (some ⟨b5,0,none⟩)]) Z Z) ?_)
 refine VO.ah (L':=sR p b2 b3 b5 0 0 0 mj o false) (bm [3,2,1,0]).ah ?_
 refine VG (VK (Lc:=sR p b2 b3 b5 0 0 0 mj o false) (Lr:=[]) (fun Fr w hF hw _=>V9 Fr w) Z (bK _).symm ?_)
 rintro _ _ ⟨rfl,rfl⟩
 show VO _ _ _ _ _ [pt p (qw 1 0 1 o) nH,pt b2 [.pointer (some ⟨p,0,none⟩)] Di,pt b3 (dR o) sJ,pt b5 [.bool true] 4] _
 refine aw ?_
 refine VG (VO.ld 3 Z Z Z Z ?_)
 refine aw ?_
 exact CR (aq.tmp 4 Z Z (IP 0 Z aa.nil).ah ⟨rfl,Z⟩)
abbrev gg:TypeId:=177
def eI(b:eM):List Value:=[.int .i64 b.cap,.int .i64 b.fE,.int .i64 b.tokens,.int .i64 b.tick,.int .i64 b.since]
structure eM.Ok(b:eM):Prop where
 c0:0≤b.cap
 c1:b.cap≤16
 r0:1≤b.fE
 r1:b.fE≤1099511627776
 t0:0≤b.tokens
 t1:b.tokens≤b.cap
 k0:0≤b.tick
 k1:b.tick≤1099511627776
 s0:0≤b.since
 s1:b.since≤b.tick
theorem eM.Ok.at(b:eM)(h:b.Ok)(now:Int):(b.at now).Ok:=by
 have:=h.k0
 have:=h.k1
 have:=h.s1
 exact⟨h.c0,h.c1,h.r0,h.r1,h.t0,h.t1,by show 0≤min (max now b.tick) _;omega,by show min (max now b.tick) _≤_;omega,h.s0,by show b.since≤min (max now b.tick) _;omega⟩
theorem Jv:∀(k:Nat) {b:eM},b.Ok→(pe k b).Ok
 | 0,_,h=>h
 | k+1,b,h=>by
  rw[pe]
  split
  ·rename_i hc
   have:=h.t0
   have:=h.s0
   have:=h.r0
   exact Jv k ⟨h.c0,h.c1,h.r0,h.r1,by show 0≤b.tokens+1;omega,by show b.tokens+1≤b.cap;omega,h.k0,h.k1,by show 0≤b.since+b.fE;omega,hc.2⟩
  ·exact h
theorem eM.Ok.full{b:eM}(h:b.Ok):b.full.Ok:=by
 unfold eM.full
 split
 ·exact⟨h.c0,h.c1,h.r0,h.r1,h.t0,h.t1,h.k0,h.k1,h.k0,cd _⟩
 ·exact h
theorem eM.Ok.lV{b:eM}(h:b.Ok)(now:Int):(b.lV now).Ok:=(Jv 17 (eM.Ok.at b h now)).full
theorem eM.Ok.take{b:eM}(h:b.Ok)(now:Int):(b.take now).1.Ok:=by
 have k:=h.lV now
 unfold eM.take
 split
 ·exact k
 ·rename_i hn
  have:=k.t0
  have:=k.t1
  exact⟨k.c0,k.c1,k.r0,k.r1,by show 0≤(b.lV now).tokens-1;omega,by show(b.lV now).tokens-1≤(b.lV now).cap;omega,k.k0,k.k1,k.s0,k.s1⟩
theorem Ri{k:Nat}{b:eM}(h:¬(b.tokens<b.cap∧b.since+b.fE≤b.tick)):pe k b=b:=by
 cases k with
 | zero=>rfl
 | succ k=>rw[pe,if_neg h]
section
variable {p:Nat}
theorem Q_{b:eM}(ok:b.Ok)(now:Int):az Tryz.prog 280 [.pointer (some ⟨p,0,none⟩),.int .i64 now] Fr w [pt p (eI b) gg] (fun v L=>v=.tuple #[]∧L=[pt p (eI (b.lV now)) gg]):=by
 have ok0:=eM.Ok.at b ok now
 refine TF 73 Tryz.func280 Z ym aD Z Z ?_
 refine CS (CG (VG (VO.ld 0 Z Z Z Z ?_)))
 refine VG (VO.st 0 (cs':=eI (b.at now)) Z Z Z Z (by show 3<5;omega) (by show [_,_,_,_,_]=eI _;unfold eI eM.at;congr 4;show Value.int _ _=Value.int _ _;congr 1;dsimp only;repeat' split;all_goals omega) Z (VG (VN ?_)))
 unfold eM.lV
 generalize hb0:b.at now=b0 at ok0
 refine CS (VC.dX (σ:=eM) (fun _=>[(0,pV p)]) (fun x=>[pt p (eI x) gg]) (fun x=>x.Ok∧x=pe 17 b0) ?_ ?_)
 ·refine VC.block ?_
  refine VC.loop (σ:=Nat×eM) (fun x=>[(0,pV p)]) (fun x=>[pt p (eI x.2) gg]) (fun x=>x.2.Ok∧pe x.1 x.2=pe 17 b0∧(x.2.cap-x.2.tokens).toNat≤x.1) (fun x=>x.1) (17,b0)
   ⟨ok0,rfl,by have:=ok0.c1;have:=ok0.t0;dsimp only;omega⟩ aP ER ?_
  rintro⟨k,x⟩ ⟨okx,hk,hn⟩
  dsimp only at okx hk hn ⊢
  have:=okx.c0
  have:=okx.c1
  have:=okx.r0
  have:=okx.r1
  have:=okx.t0
  have:=okx.t1
  have:=okx.k0
  have:=okx.k1
  have:=okx.s0
  have:=okx.s1
  have fin:¬(x.tokens<x.cap∧x.since+x.fE≤x.tick)→x=pe 17 b0:=fun h=>by rw[←hk,Ri h]
  refine ae ?_
  refine CD (ts 0 25 .nil) ym yr ?_
  refine ee ?_
  by_cases h1:x.tokens<x.cap
  rotate_left
  ·refine AG (AY 23 false Z (DF h1) ?_)
   refine ee ?_
   refine VC.kM Z (CX ?_)
   exact⟨x,⟨okx,fin fun h=>h1 h.1⟩,aP,ER⟩
  refine AG (AY 23 true Z (DT h1) ?_)
  refine ee ?_
  refine rM ?_
  refine ee ?_
  refine CP (p:=x.since+x.fE≤x.tick) Z (fun h2=>CK ?_) (fun h2=>CX ?_)
  rotate_left
  ·exact⟨x,⟨okx,fin fun h=>h2 h.2⟩,aP,ER⟩
  obtain⟨j,rfl⟩:∃j,k=j+1:=⟨k-1,by omega⟩
  rw[pe,if_pos ⟨h1,h2⟩] at hk
  refine aj ?_
  refine Bk ?_
  refine VG (VO.st 0 (cs':=eI { x with tokens:=x.tokens+1 }) Z Z Z Z (by show 2<5;omega) Z Z ?_)
  refine ae ?_
  refine CD (ts 0 11 (.only 11 .nil)) ym yr ?_
  refine bt ?_
  refine AG (AP Z Z Z f_ f_ ?_)
  refine bt ?_
  refine AG (VA.st 0 (cs':=eI { x with tokens:=x.tokens+1,since:=x.since+x.fE }) Z Z Z Z Z (by show 4<5;omega) Z Z yu ?_)
  refine dp ?_
  exact⟨(j,{ x with tokens:=x.tokens+1,since:=x.since+x.fE }),⟨⟨okx.c0,okx.c1,okx.r0,okx.r1,by dsimp only;omega,by dsimp only;omega,okx.k0,okx.k1,by dsimp only;omega,h2⟩,hk,by dsimp only;omega⟩,by dsimp only;omega,aP,ER⟩
 rintro x ⟨okx,rfl⟩
 generalize pe 17 b0=x at okx
 unfold eM.full
 refine ae ?_
 refine CD (ts 0 9 .nil) ym yr ?_
 refine bt ?_
 refine CE Z (fun h3=>?_) (fun h3=>CK ?_)
 ·rw[if_pos h3]
  refine aj ?_
  refine VG (VO.st 0 (cs':=eI { x with since:=x.tick }) Z Z Z Z (by show 4<5;omega) Z Z ?_)
  refine ae ?_
  exact vN
 ·rw[if_neg h3]
  exact vN
theorem Rg{b:eM}(ok:b.Ok)(h:bu Fr w p (eI b)):az Tryz.prog 279 [.pointer (some ⟨p,0,none⟩)] Fr w [] (fun v L=>v=.bool false∧L=[]):=by
 have:=ok.r0
 refine TF 12 Tryz.func279 Z ym aD Z Z ?_
 refine yC ?_
 refine jH ?_
 exact CR (aq.bool (b:=false) 2 Z Z (beq_eq_false_iff_ne.2 yd) ER ⟨rfl,Z⟩)
theorem Rj{b:eM}(ok:b.Ok)(now:Int):az Tryz.prog 229 [.pointer (some ⟨p,0,none⟩),.int .i64 now] Fr w [pt p (eI b) gg] (fun v L=>v=.bool (b.take now).2∧L=[pt p (eI (b.take now).1) gg]):=by
 have ok1:=ok.lV now
 have:=ok1.t0
 have:=ok1.t1
 have:=ok1.c1
 have left:∀(Fr:Nat→Prop) (w:World),az Tryz.prog 263 [.pointer (some ⟨p,0,none⟩),.int .i64 now] Fr w [pt p (eI b) gg] (fun v L=>v=.int .i64 (b.lV now).tokens∧L=[pt p (eI (b.lV now)) gg]):=by
  intro Fr w
  refine TF 14 Tryz.func263 Z ym aD Z Z ?_
  refine ae ?_
  refine VG (VV (fun Fr w hF hw hS=>Rg Fr w ok (hS.aC 0 Z)) Z ?_)
  refine pK ?_
  refine VG (VK (Lc:=[pt p (eI b) gg]) (fun Fr w hF hw _=>Q_ Fr w ok now) Z Z ?_)
  rintro _ _ ⟨rfl,rfl⟩
  refine Ee ?_
  refine ae ?_
  exact xT
 unfold eM.take
 refine TF 16 Tryz.func229 Z ym aD Z Z ?_
 refine ae ?_
 refine VG (VK (Lc:=[pt p (eI b) gg]) (fun Fr w hF hw _=>left Fr w) Z Z ?_)
 rintro _ _ ⟨rfl,rfl⟩
 refine ae ?_
 refine CE Z (fun h1=>?_) (fun h1=>CK ?_)
 ·rw[if_pos h1]
  refine ae ?_
  exact xT
 rw[if_neg h1]
 refine Ee ?_
 refine qD ?_
 refine ae ?_
 refine VG (VO.st 0 (cs':=eI { b.lV now with tokens:=(b.lV now).tokens-1 }) Z Z Z Z (by show 2<5;omega) Z Z ?_)
 refine ae ?_
 exact xT
theorem Tq(t m:Int):0≤wW t m∧wW t m≤64:=by
 unfold wW
 split
 ·omega
 split
 ·omega
 ·have:(0:Int)≤((2 ^ (t-1).toNat:Nat):Int):=Int.natCast_nonneg _
  omega
theorem Tr(t m:Int):az Tryz.prog 230 [.int .i64 t,.int .i64 m] Fr w [] (fun v L=>v=.int .i64 (wW t m)∧L=[]):=by
 unfold wW
 refine TF 18 Tryz.func230 Z ym aD Z Z ?_
 refine ae ?_
 refine CP (p:=t<1) Z (fun h1=>?_) (fun h1=>CK ?_)
 ·rw[if_pos h1]
  refine ae ?_
  exact xT
 rw[if_neg h1]
 refine ae ?_
 refine CP (p:=7<t) Z (fun h2=>?_) (fun h2=>CK ?_)
 ·rw[if_pos h2]
  refine ae ?_
  exact CR (aq.int 4 Z Z (by repeat' split;all_goals omega) ER ⟨rfl,Z⟩)
 rw[if_neg h2]
 refine ae ?_
 refine qD ?_
 obtain⟨n,hn⟩:∃n:Nat,t-1=n:=⟨(t-1).toNat,by omega⟩
 have hp:2 ^ n≤64:=by
  have:2 ^ n≤2 ^ 6:=By yo yd
  exact this
 rw[hn,dZ]
 refine VG (VI (K2 (a:=1) (n:=n) ((2 ^ n:Nat):Int) Z Z (by show n≤64;omega) (by rw[Nat.one_mul];generalize 2 ^ n=m at hp;exact i64_in _ yd yd)) ?_)
 generalize 2 ^ n=m at hp
 refine ae ?_
 exact CR (aq.int 4 Z Z (by repeat' split;all_goals omega) ER ⟨rfl,Z⟩)
end
end Cl
namespace Cl
open Go Vg T Api Ch
attribute [local irreducible] VO VC VA
def fU(s:ByteArray):List Value:=[.string s]
theorem rI(s:ByteArray):(fU s).length=1:=rfl
theorem NX(s:ByteArray):(fU s).all Value.oneCell'=true:=rfl
theorem UX{a:Option Addr}{cap:Nat}{l:List aR}(h:aV aH 2 Fr w a l)(hl:l.length≤1000000):az Tryz.prog 247 [.slice a l.length cap] Fr w [] (fun v L=>∃a' cap',v=.slice a' l.length cap'∧L=[aA aU 2 a' l.length cap' (flat aH l)]):=by
 refine TF 8 Tryz.func247 Z ym aD Z Z ?_
 cases a with
 | none=>
  obtain rfl:l=[]:=by
   cases l with
   | nil=>rfl
   | cons x l=>obtain⟨b,o,h1,_⟩:=h.at_ yf;cases h1
  refine rT ?_
  exact A1
 | some a=>
  refine kg ?_
  refine CS (CG (VG (VO.buildSlice (n:=0) (pv:=[]) [] Z Z Z Z yo Z fun b=>?_)))
  refine HF ?_
  refine VG (VO.append (m:=l.length) (news:=flat aH l) 0 Z Z Z Z Z Z Z (aV.row cn h) (qd vc _) D0 yd fun a' c' _=>?_)
  rw[di,nN]
  refine aj ?_
  exact A2
theorem UY{a:Option Addr}{cap:Nat}{l:List aR}{i:Nat}(hi:i<l.length)(hl:l.length≤1000000):az Tryz.prog 232 [.slice a l.length cap,.int .i64 (i:Int),.int .i64 ((i:Int)+1)] Fr w [aA aU 2 a l.length cap (flat aH l)]
  (fun v L=>∃a' cap',v=.slice a' (l.eraseIdx i).length cap'∧L=[aA aU 2 a' (l.eraseIdx i).length cap' (flat aH (l.eraseIdx i))]):=by
 have hel:(l.eraseIdx i).length=l.length-1:=by rw[List.length_eraseIdx,if_pos hi]
 refine TF 33 Tryz.func232 Z ym aD Z Z ?_
 refine mA ?_
 refine VC.bJ 0 Z (ba.sl _ _ _ _ _ _) ?_
 rintro(_ | ⟨sb,rest⟩) ⟨hx1,hx2,hx3⟩
 ·obtain⟨_,h0,_⟩:=hx3
  omega
 obtain⟨rfl,hx4⟩:=hx3
 have hcl:(flat aH l++rest).length=cap*2:=by simpa using hx4
 have hfl:=fA cn l
 have hcap:l.length≤cap:=by
  rw[a_,hfl] at hcl
  exact Nat.le_of_mul_le_mul_right yd (by decide:0<2)
 obtain⟨z,hz,hwr⟩:=J1 cn hi rest
 have hdl:(l.drop (i+1)).length=l.length-(i+1):=r4
 have hdf:(flat aH (l.drop (i+1))).length=(l.length-(i+1))*2:=by rw[fA cn,hdl]
 dsimp only
 refine ae ?_
 refine Pe ?_
 refine ae ?_
 refine CE Z (fun h=>absurd h yd) (fun h=>CK ?_)
 refine ae ?_
 refine HX ?_
 refine dp ?_
 refine AG (AI Z (FL i Z Z Z Z Z Z yd) ?_)
 refine dp ?_
 refine AG (AI Z (KX (i+1) Z Z Z Z Z Z yd yd) ?_)
 refine AG (AO (aQ.I' (n:=i) (m:=l.length-(i+1)) (news:=flat aH (l.drop (i+1))) 0 rfl rfl rfl rfl rfl rfl rfl ?_ (qd vc _) yd ?_) rfl (fun v L' g=>by obtain⟨rfl,rfl⟩:=g;exact mU) ?_)
 ·by_cases hm:l.length=i+1
  ·have e:l.drop (i+1)=[]:=iz yd
   rw[e,show l.length-(i+1)=0 from by omega]
   exact fv.nil
  ·have hne:¬cap=i+1:=by omega
   have hfa:q_ (some ⟨sb,0,none⟩) cap (i+1) 2=some ⟨sb,0+(i+1)*2,none⟩:=by unfold q_;simp[hne,Addr.add_mid]
   show fv _ _ (.slice (q_ (some ⟨sb,0,none⟩) cap (i+1) 2) _ _) _ _ _
   rw[hfa]
   refine fv.pt 0 Z ?_ hdf
   show((flat aH l++rest).drop (0+(i+1)*2)).take ((l.length-(i+1))*2)=_
   rw[di,B2 cn _ _ _ yd,wb hdf]
 ·show i*2+(flat aH (l.drop (i+1))).length≤(flat aH l++rest).length
  rw[hdf,a_,hfl,←qK]
  exact pQ (r7 _ yd) (Nat.le_add_right _ _)
 rintro _ _ ⟨rfl,rfl⟩
 rw[show i+(l.length-(i+1))=l.length-1 from by omega]
 show VA _ _ _ _ _ _ [pt sb (dT (flat aH l++rest) (i*2) (flat aH (l.drop (i+1)))) aU] _
 rw[hwr]
 refine oC ?_
 refine Pf ?_
 rw[show l.length-(l.length-1)=1 from by omega]
 have hzz:(aH (0,0)).length=z.length:=by rw[hz];rfl
 refine VG (VO.ue (L':=[pt sb (flat aH (l.eraseIdx i)++((aH (0,0))++rest)) aU]) ((aQ.clear 0 Z Z Z Z Z yo ?_ Z).mono fun v L' g=>⟨g.1,by
  rw[g.2]
  show [pt sb (dT (flat aH (l.eraseIdx i)++(z++rest)) (0+(l.length-1)*2) (aH (0,0))) aU]=_
  rw[Ot (by rw[fA cn,hel];omega) hzz]⟩) ?_)
 ·show 0+(l.length-1)*2+1*2≤(flat aH (l.eraseIdx i)++(z++rest)).length
  rw[a_,a_,fA cn,hel,hz];omega
 refine ae ?_
 refine CR (aq.tmp 6 Z Z (L':=[aA aU 2 (some ⟨sb,0,none⟩) (l.length-1) cap (flat aH (l.eraseIdx i))]) (aa.sl (by rw[fA cn,hel]) yd ?_ aa.refl).ah Qc)
 rw[a_,a_,fA cn,hel,hzz,hz]
 rw[a_,hfl] at hcl
 have:(l.length-1)*2+2=l.length*2:=by rw[←yO];congr 1;omega
 omega
theorem abb{a:Option Addr}{cap:Nat}{l:List ByteArray}(h:aV fU 1 Fr w a l)(hl:l.length≤1000000):az Tryz.prog 75 [.slice a l.length cap] Fr w [] (fun v L=>∃a' cap',v=.slice a' l.length cap'∧L=[aA 9 1 a' l.length cap' (flat fU l)]):=by
 refine TF 8 Tryz.func75 Z ym aD Z Z ?_
 cases a with
 | none=>
  obtain rfl:l=[]:=by
   cases l with
   | nil=>rfl
   | cons x l=>obtain⟨b,o,h1,_⟩:=h.at_ yf;cases h1
  refine rT ?_
  exact A1
 | some a=>
  refine kg ?_
  refine CS (CG (VG (VO.buildSlice (n:=0) (pv:=[]) [] Z Z Z Z yo Z fun b=>?_)))
  refine VO.ah (L':=[aA 9 1 (some ⟨b,0,none⟩) 0 0 []]) (aa.sl (M:=[]) (cs:=[]) (rest:=[]) Z (NR _) Z (aa.refl (L:=[pt b [] 9]))).ah ?_
  refine VG (VO.append (m:=l.length) (news:=flat fU l) 0 Z Z Z Z Z Z Z (aV.row rI h) (qd NX _) D0 yd fun a' c' _=>?_)
  rw[di,nN]
  refine aj ?_
  exact A2
theorem abc{a:Option Addr}{cap:Nat}{l:List ByteArray}{i:Nat}(hi:i<l.length)(hl:l.length≤1000000):az Tryz.prog 176 [.slice a l.length cap,.int .i64 (i:Int),.int .i64 ((i:Int)+1)] Fr w [aA 9 1 a l.length cap (flat fU l)]
  (fun v L=>∃a' cap',v=.slice a' (l.eraseIdx i).length cap'∧L=[aA 9 1 a' (l.eraseIdx i).length cap' (flat fU (l.eraseIdx i))]):=by
 have hel:(l.eraseIdx i).length=l.length-1:=by rw[List.length_eraseIdx,if_pos hi]
 refine TF 33 Tryz.func176 Z ym aD Z Z ?_
 refine mA ?_
 refine VC.bJ 0 Z (ba.sl _ _ _ _ _ _) ?_
 rintro(_ | ⟨sb,rest⟩) ⟨hx1,hx2,hx3⟩
 ·obtain⟨_,h0,_⟩:=hx3
  omega
 obtain⟨rfl,hx4⟩:=hx3
 have hcl:(flat fU l++rest).length=cap*1:=by simpa using hx4
 have hfl:=fA rI l
 have hcap:l.length≤cap:=by
  rw[a_,hfl] at hcl
  exact Nat.le_of_mul_le_mul_right yd (by decide:0<1)
 obtain⟨z,hz,hwr⟩:=J1 rI hi rest
 have hdl:(l.drop (i+1)).length=l.length-(i+1):=r4
 have hdf:(flat fU (l.drop (i+1))).length=(l.length-(i+1))*1:=by rw[fA rI,hdl]
 dsimp only
 refine ae ?_
 refine Pe ?_
 refine ae ?_
 refine CE Z (fun h=>absurd h yd) (fun h=>CK ?_)
 refine ae ?_
 refine HX ?_
 refine dp ?_
 refine AG (AI Z (FL i Z Z Z Z Z Z yd) ?_)
 refine dp ?_
 refine AG (AI Z (KX (i+1) Z Z Z Z Z Z yd yd) ?_)
 refine AG (AO (aQ.I' (n:=i) (m:=l.length-(i+1)) (news:=flat fU (l.drop (i+1))) 0 rfl rfl rfl rfl rfl rfl rfl ?_ (qd NX _) yd ?_) rfl (fun v L' g=>by obtain⟨rfl,rfl⟩:=g;exact mU) ?_)
 ·by_cases hm:l.length=i+1
  ·have e:l.drop (i+1)=[]:=iz yd
   rw[e,show l.length-(i+1)=0 from by omega]
   exact fv.nil
  ·have hne:¬cap=i+1:=by omega
   have hfa:q_ (some ⟨sb,0,none⟩) cap (i+1) 1=some ⟨sb,0+(i+1)*1,none⟩:=by unfold q_;simp[hne,Addr.add_mid]
   show fv _ _ (.slice (q_ (some ⟨sb,0,none⟩) cap (i+1) 1) _ _) _ _ _
   rw[hfa]
   refine fv.pt 0 Z ?_ hdf
   show((flat fU l++rest).drop (0+(i+1)*1)).take ((l.length-(i+1))*1)=_
   rw[di,B2 rI _ _ _ yd,wb hdf]
 ·show i*1+(flat fU (l.drop (i+1))).length≤(flat fU l++rest).length
  rw[hdf,a_,hfl,←qK]
  exact pQ (r7 _ yd) (Nat.le_add_right _ _)
 rintro _ _ ⟨rfl,rfl⟩
 rw[show i+(l.length-(i+1))=l.length-1 from by omega]
 show VA _ _ _ _ _ _ [pt sb (dT (flat fU l++rest) (i*1) (flat fU (l.drop (i+1)))) 9] _
 rw[hwr]
 refine oC ?_
 refine Pf ?_
 rw[show l.length-(l.length-1)=1 from by omega]
 have hzz:(fU ⟨#[]⟩).length=z.length:=by rw[hz];rfl
 refine VG (VO.ue (L':=[pt sb (flat fU (l.eraseIdx i)++((fU ⟨#[]⟩)++rest)) 9]) ((aQ.clear 0 Z Z Z Z Z yo ?_ Z).mono fun v L' g=>⟨g.1,by
  rw[g.2]
  show [pt sb (dT (flat fU (l.eraseIdx i)++(z++rest)) (0+(l.length-1)*1) (fU ⟨#[]⟩)) 9]=_
  rw[Ot (by rw[fA rI,hel];omega) hzz]⟩) ?_)
 ·show 0+(l.length-1)*1+1*1≤(flat fU (l.eraseIdx i)++(z++rest)).length
  rw[a_,a_,fA rI,hel,hz];omega
 refine ae ?_
 refine CR (aq.tmp 6 Z Z (L':=[aA 9 1 (some ⟨sb,0,none⟩) (l.length-1) cap (flat fU (l.eraseIdx i))]) (aa.sl (by rw[fA rI,hel]) yd ?_ aa.refl).ah Qc)
 rw[a_,a_,fA rI,hel,hzz,hz]
 rw[a_,hfl] at hcl
 have:(l.length-1)*1+1=l.length*1:=by rw[←yO];congr 1;omega
 omega
end Cl
namespace Cl
open Go Vg T Api
attribute [local irreducible] VO VC VA
abbrev ze:TypeId:=5
def jS(b:UInt8):List Value:=[.int .u8 (b.toNat:Int)]
theorem EH(b:UInt8):(jS b).length=1:=rfl
theorem Tb(l:Bs):flat jS l=l.map fun c=>Value.int .u8 (c.toNat:Int):=by
 induction l with
 | nil=>rfl
 | cons b l ih=>rw[lZ,ih];rfl
theorem Fh(l:Bs):(flat jS l).length=l.length:=by rw[fA EH];omega
theorem wrap_u8(n:Nat):IntKind.u8.wrap (n:Int)=((UInt8.ofNat n).toNat:Int):=by
 simp[IntKind.wrap,IntKind.bits,IntKind.signed,UInt8.toNat_ofNat']
theorem AV{n:Nat}(h:n<18446744073709551616):IntKind.u64.wrap (n:Int)=(n:Int):=wrap_u64 yd yd
theorem Jw{l:Bs}{rest:List Value}{i:Nat}{v:UInt8}(h:l[i]?=some v):(flat jS l++rest)[0+i*1]?=some (.int .u8 (v.toNat:Int)):=by
 have:=qe EH (j:=0) h rfl rest
 rw[di];exact this
theorem Jx{l:Bs}{rest:List Value}{i:Nat}{v:UInt8}(h:i<l.length):(flat jS l++rest).set (0+i*1) (.int .u8 (v.toNat:Int))=flat jS (l.set i v)++rest:=by
 obtain⟨u,hu⟩:∃u,l[i]?=some u:=⟨_,GE h⟩
 have:=wV EH (a':=v) (j:=0) hu yo rfl rest
 rw[di];exact this
structure wu(cs ds:Bs)(i:Nat):Prop where
 len:ds.length=cs.length
 at_:∀k,k<cs.length→ds[k]?=if k<i∨cs.length-i≤k then cs[cs.length-1-k]? else cs[k]?
theorem wu.done{cs ds:Bs}{i:Nat}(h:wu cs ds i)(hi:cs.length≤2*i+1):ds=cs.reverse:=by
 refine pN fun k=>?_
 by_cases hk:k<cs.length
 ·rw[h.at_ k hk,List.getElem?_reverse hk]
  split
  ·rfl
  ·congr 1;omega
 ·rw[lO (by rw[h.len];omega),lO (by rw[List.length_reverse];omega)]
theorem wu.next{cs ds:Bs}{i:Nat}{x y:UInt8}(h:wu cs ds i)(hi:2*i+1<cs.length)(hx:ds[i]?=some x)(hy:ds[cs.length-1-i]?=some y):wu cs ((ds.set i y).set (cs.length-1-i) x) (i+1):=by
 have hl:=h.len
 refine⟨by simp[hl],fun k hk=>?_⟩
 have e1:cs[i]?=some x:=by rw[←hx,h.at_ i yd,if_neg yd]
 have e2:cs[cs.length-1-i]?=some y:=by rw[←hy,h.at_ _ yd,if_neg yd]
 by_cases h1:k=cs.length-1-i
 ·subst h1
  rw[iM ye,if_pos yd,show cs.length-1-(cs.length-1-i)=i from by omega,e1]
 rw[kG yd]
 by_cases h2:k=i
 ·subst h2
  rw[iM yd,if_pos yd,e2]
 rw[kG yd,h.at_ k hk]
 by_cases h3:k<i∨cs.length-i≤k
 ·rw[if_pos h3,if_pos yd]
 ·rw[if_neg h3,if_neg yd]
theorem Xk(b n cap:Nat)(cs:Bs)(rest:List Value)(hn:cs.length=n)(h0:1≤n)(h1:n≤1000):
  az Tryz.prog 254 [.slice (some ⟨b,0,none⟩) n cap] Fr w [pt b (flat jS cs++rest) ze] (fun v L=>v=.tuple #[]∧L=[pt b (flat jS cs.reverse++rest) ze]):=by
 refine TF 28 Tryz.func254 Z ym aD Z Z ?_
 refine ae ?_
 refine qD ?_
 refine ae ?_
 refine VC.loop (σ:=Nat×Bs) (fun s=>[(0,.slice (some ⟨b,0,none⟩) n cap),(2,.int .i64 (s.1:Int)),(3,.int .i64 ((n:Int)-1-s.1))]) (fun s=>[pt b (flat jS s.2++rest) ze]) (fun s=>wu cs s.2 s.1∧s.1≤n) (fun s=>n-s.1) (0,cs)
  (by refine⟨⟨rfl,fun k hk=>?_⟩,bU _⟩;rw[if_neg yd]) (SC rfl (SC rfl (Sub.int rfl f_ (SN _)))) ER ?_
 rintro⟨i,ds⟩ ⟨hR,hi⟩
 have hl:ds.length=n:=by rw[hR.len,hn]
 dsimp only
 refine ae ?_
 refine CP (p:=(i:Int)<(n:Int)-1-i) Z (fun h2=>CK ?_) (fun h2=>CX ?_)
 rotate_left
 ·have hd:=hR.done yd
  subst hd
  refine ae ?_
  exact vN
 obtain⟨x,hx⟩:∃x,ds[i]?=some x:=⟨_,GE yd⟩
 obtain⟨y,hy⟩:∃y,ds[n-1-i]?=some y:=⟨_,GE yd⟩
 have hj:(n:Int)-1-i=((n-1-i:Nat):Int):=by omega
 have hcap:n≤n:=NR _
 rw[hj]
 refine ae ?_
 refine CD (ts 0 13 (.only 13 (.take 14 (.only 15 .nil)))) ym yr ?_
 refine dp ?_
 refine AG (AI Z (fp (n-1-i) Z Z Z Z Z Z yd) ?_)
 refine AG (VA.ld 0 Z Z Z Z (Jw (i:=n-1-i) hy) ?_)
 refine dp ?_
 refine AG (AI Z (fp i Z Z Z Z Z Z yd) ?_)
 refine AG (VA.ld 0 Z Z Z Z (Jw (i:=i) hx) ?_)
 refine dp ?_
 refine AG (AI Z (fp i Z Z Z Z Z Z yd) ?_)
 refine AG (VA.st 0 (cs':=flat jS (ds.set i y)++rest) Z Z Z Z Z (by show 0+i*1<_;rw[a_,Fh];omega) (Jx (i:=i) yd) Z yu ?_)
 refine dp ?_
 refine AG (AI Z (fp (n-1-i) Z Z Z Z Z Z yd) ?_)
 refine AG (VA.st 0 (cs':=flat jS ((ds.set i y).set (n-1-i) x)++rest) Z Z Z Z Z (by show 0+(n-1-i)*1<_;rw[a_,Fh,iB];omega) (Jx (i:=n-1-i) (by rw[iB];omega)) Z yu ?_)
 refine oC ?_
 refine pF ?_
 refine qD ?_
 refine ae ?_
 refine⟨(i+1,(ds.set i y).set (n-1-i) x),⟨?_,by omega⟩,by dsimp only;omega,SC Z (SC Z (Sub.int Z f_ (SN _))),ER⟩
 subst hn
 exact hR.next yd hx hy
end Cl
namespace Cl
open Go Vg T Api
attribute [local irreducible] VO VC VA
theorem ofNat_mod(n:Nat):UInt8.ofNat (n % 256)=UInt8.ofNat n:=by apply UInt8.toNat_inj.1;simp[UInt8.toNat_ofNat']
theorem Un:∀k,kp k 0=[]
 | 0=>rfl
 | k+1=>by rw[kp,if_pos rfl]
theorem Ew(l:Bs)(k:Nat):(bT l).extract k (bT l).size=bT (l.drop k):=by
 rw[iO];exact ByteArray.ext (by simp[bT,r5])
theorem Jc(l:Bs)(k:Nat):(bT l).extract 0 k=bT (l.take k):=ByteArray.ext (by simp[bT])
theorem Rl(a b:ByteArray):(a.toList == b.toList)=decide (a=b):=by
 by_cases h:a=b
 ·subst h;simp
 ·have:a.toList≠b.toList:=fun e=>h (by
   rw[ByteArray.toList_eq,ByteArray.toList_eq] at e
   exact ByteArray.ext (nK.1 e))
  rw[DF h];simpa using this
theorem qR(a b:Bs):((bT a).toList == (bT b).toList)=decide (a=b):=by
 rw[Rl]
 by_cases h:a=b
 ·rw[DT h,DT (congrArg bT h)]
 ·rw[DF h,DF fun k=>h (Q2 k)]
theorem Ra{r:Bs}{j:Nat}{b:UInt8}(h:r[j]?=some b):kK (r.take (j+1))=kK (r.take j)*256+b.toNat:=by
 rw[jb,h,←Ji];rfl
theorem Jl{r:Bs}{j:Nat}(h:j≤8):kK (r.take j)<256 ^ j:=by
 have:=Jk (r.take j)
 exact we this (By yo Ix)
theorem WC{j:Nat}(h:j≤7):256 ^ j≤72057594037927936:=by
 have:256 ^ j≤256 ^ 7:=By yo h
 exact this
theorem WD{j:Nat}(h:j≤8):256 ^ j≤18446744073709551616:=by
 have:256 ^ j≤256 ^ 8:=By yo h
 exact this
theorem Gc(n:Nat)(hn:n<18446744073709551616):az Tryz.prog 214 [.int .u64 n] Fr w [] (fun v L=>v=.string (bT (mP n))∧L=[]):=by
 refine TF 30 Tryz.func214 Z ym aD Z Z ?_
 refine ae ?_
 refine CP (p:=(n:Int)≤247) Z (fun h=>?_) (fun h=>CK ?_)
 ·refine ae ?_
  refine VG (VI (rm ((UInt8.ofNat n).toNat:Int) Z Z Z Z Z (wrap_u8 n)) ?_)
  refine VG (VO.buildSlice (pv:=[(0,.int .u8 ((UInt8.ofNat n).toNat:Int))]) (jS (UInt8.ofNat n)) Z Z Z Z yo Z fun b=>?_)
  refine VG (VO.ue (aQ.str (bs:=[UInt8.ofNat n]) 0 Z Z Z Z Z Z Z Z Z Z) ?_)
  refine ae ?_
  exact CR (aq.tmp 2 Z Z aa.nil.ah ⟨by rw[mP,if_pos yd];rfl,Z⟩)
 refine ae ?_
 refine VC.loop (σ:=Bs×Nat×Option Addr×Nat) (fun s=>[(0,.int .u64 (s.2.1:Int)),(3,.slice s.2.2.1 s.1.length s.2.2.2)]) (fun s=>[aA ze 1 s.2.2.1 s.1.length s.2.2.2 (flat jS s.1)]) (fun s=>kp 8 n=s.1++kp (8-s.1.length) s.2.1∧s.1.length≤8∧s.2.1<256 ^ (8-s.1.length)) (fun s=>8-s.1.length) ([],n,none,0)
  ⟨rfl,bU _,hn⟩ aP (aa.dM aa.nil).ah ?_
 rintro⟨done,cur,a,c⟩ ⟨hJ,hl,hc⟩
 dsimp only at hJ hl hc ⊢
 refine ae ?_
 refine CP (p:=0<(cur:Int)) Z (fun h2=>CK ?_) (fun h2=>CX ?_)
 ·obtain⟨k,hk⟩:∃k,8-done.length=k+1:=⟨8-done.length-1,by
   by_cases h8:done.length=8
   ·rw[h8] at hc;simp at hc;omega
   ·omega⟩
  have hu:kp (k+1) cur=UInt8.ofNat cur::kp k (cur / 256):=by rw[kp,if_neg yd,ofNat_mod]
  rw[hk] at hc
  rw[hk,hu] at hJ
  refine ae ?_
  refine VG (VI (rm ((UInt8.ofNat cur).toNat:Int) Z Z Z Z Z (wrap_u8 cur)) ?_)
  refine VG (VO.buildSlice (pv:=[(0,.int .u8 ((UInt8.ofNat cur).toNat:Int))]) (jS (UInt8.ofNat cur)) Z Z Z Z yo Z fun b=>?_)
  refine VG (VO.append (m:=1) (news:=jS (UInt8.ofNat cur)) 1 Z Z Z Z Z Z Z (fv.pt 0 Z Z Z) Z Qd yd fun a2 c2 hc2=>?_)
  refine ae ?_
  refine VG (VI (Ux (n:=8) Z Z yo) ?_)
  refine ae ?_
  have hL:(done ++ [UInt8.ofNat cur]).length=done.length+1:=by simp
  refine⟨(done ++ [UInt8.ofNat cur],cur / 2 ^ 8,a2,c2),⟨?_,by dsimp only;omega,?_⟩,by dsimp only;omega,SC Z (SC (by dsimp only;rw[hL];rfl) (SN _)),?_⟩
  ·dsimp only
   rw[hJ,hL,show 8-(done.length+1)=k from by omega,eL];rfl
  ·dsimp only
   rw[hL,show 8-(done.length+1)=k from by omega]
   rw[Nat.pow_succ] at hc
   exact Nat.div_lt_of_lt_mul (by rw[Nat.mul_comm];exact hc)
  ·dsimp only
   rw[hL,jU]
   exact(IP 0 Z aa.nil).ah
 obtain rfl:cur=0:=by omega
 rw[Un,bK] at hJ
 refine ae ?_
 refine pF ?_
 refine VG (VI (rm ((UInt8.ofNat (247+done.length)).toNat:Int) Z Z Z Z Z (wrap_u8 (247+done.length))) ?_)
 generalize hz:UInt8.ofNat (247+done.length)=z
 refine VG (VO.buildSlice (pv:=[(0,.int .u8 (z.toNat:Int))]) (jS z) Z Z Z Z yo Z fun b=>?_)
 refine VG (VO.append (m:=1) (news:=jS z) 1 Z Z Z Z Z Z Z (fv.pt 0 Z Z Z) Z Qd yd fun a2 c2 hc2=>?_)
 refine ae ?_
 rw[show flat jS done++jS z=flat jS (done ++ [z]) from by rw[jU];rfl]
 refine VO.bJ 0 Z (ba.sl _ _ _ _ _ _) ?_
 rintro(_ | ⟨sb,rest⟩) ⟨hx1,hx2,hx3⟩
 ·obtain⟨_,h0,_⟩:=hx3
  omega
 obtain⟨rfl,hx4⟩:=hx3
 dsimp only
 refine ae ?_
 refine VG (VQ 0 Z (fun Fr w hF hw _=>Xk Fr w sb (done.length+1) c2 (done ++ [z]) rest yf yd yd) Z (ψ:=fun v H=>v=.tuple #[]∧H=pt sb (flat jS (done ++ [z]).reverse++rest) ze) yy ?_)
 rintro _ _ ⟨rfl,rfl⟩
 refine ae ?_
 refine VG (VO.ue (aQ.str (bs:=(done ++ [z]).reverse) 0 Z Z Z Z Z Z Z Z yf (by rw[←Tb,wb (by rw[Fh];simp)])) ?_)
 refine ae ?_
 exact CR (aq.tmp 2 Z Z aa.nil.ah ⟨by rw[mP,if_neg yd,hJ,hz,List.reverse_append];rfl,Z⟩)
theorem np(n:Int):az Tryz.prog 150 [.int .i64 n] Fr w [] (fun v L=>v=.string (bT (cZ n))∧L=[]):=by
 refine TF 13 Tryz.func150 Z ym aD Z Z ?_
 refine ae ?_
 by_cases h1:n < -1
 ·refine VG (VY 5 true Z (DT h1) ?_)
  refine qH ?_
  exact CR (aq.tmp 2 Z Z ER ⟨by rw[cZ,if_pos (.inl h1)];rfl,Z⟩)
 refine VG (VY 5 false Z (DF h1) ?_)
 refine aw ?_
 refine CP (p:=1099511627776<n) Z (fun h2=>?_) (fun h2=>CK ?_)
 ·refine ae ?_
  exact CR (aq.tmp 2 Z Z ER ⟨by rw[cZ,if_pos (.inr h2)];rfl,Z⟩)
 refine ae ?_
 refine pF ?_
 refine VG (VI (rm (((n+1).toNat:Nat):Int) Z Z Z Z Z (by rw[wrap_u64 yd yd];omega)) ?_)
 refine VG (VV (fun Fr w hF hw _=>Gc Fr w (n+1).toNat yd) Z ?_)
 refine ae ?_
 exact CR (aq.tmp 2 Z Z ER ⟨by rw[cZ,if_neg yd],Z⟩)
theorem He(s:ByteArray)(hs:s.size≤1000000):az Tryz.prog 216 [.string s] Fr w [] (fun v L=>v=.string (bT (nJ (sB s)))∧L=[]):=by
 have hl:(mP s.size).length≤9:=by
  unfold mP
  split
  ·simp
  ·have:=Ci 8 s.size;simp;omega
 refine TF 9 Tryz.func216 Z ym aD Z Z ?_
 refine ae ?_
 refine VG (VI (rm (s.size:Int) Z Z Z Z Z (AV yd)) ?_)
 refine VG (VV (fun Fr w hF hw _=>Gc Fr w s.size yd) Z ?_)
 refine ae ?_
 refine VG (VI (sE Z Z (by rw[iO];omega)) ?_)
 refine ae ?_
 exact CR (aq.tmp 2 Z Z ER ⟨by rw[nJ,mI,BP,um],Z⟩)
end Cl
namespace Cl
open Go Vg T Api
attribute [local irreducible] VO VC VA
theorem aq.t3{X:Cx}{fn:Func}{R:Value→List HP→Prop}{e:Env}{L:List HP}(t u r:Nat)(h:fn.results=#[.tmp t,.tmp u,.tmp r]){v x y:Value}(hv:Vg.look e t=some v)(hx:Vg.look e u=some x)(hy:Vg.look e r=some y){L':List HP}(he:dq X L L')(hR:R (.tuple #[v,x,y]) L'):aq X fn R e L:=
 ⟨_,L',⟨fun a w ha hw=>by
  have h1:=ha.at_ t _ hv
  have h2:=ha.at_ u _ hx
  have h3:=ha.at_ r _ hy
  simp only[yK] at h1 h2 h3
  simp[results,h,h1,h2,h3]⟩,he,hR⟩
def GH:Option (Nat×Bs)→Value
 | some (n,r)=>.tuple #[.int .u64 n,.string (bT r),.bool true]
 | none=>.tuple #[.int .u64 0,.string (bT []),.bool false]
def N0:Option (Int×Bs)→Value
 | some (n,r)=>.tuple #[.int .i64 n,.string (bT r),.bool true]
 | none=>.tuple #[.int .i64 0,.string (bT []),.bool false]
def JY:Option (Bs×Bs)→Value
 | some (n,r)=>.tuple #[.string (bT n),.string (bT r),.bool true]
 | none=>.tuple #[.string (bT []),.string (bT []),.bool false]
theorem C6(s:Bs)(hs:s.length≤1000000):az Tryz.prog 265 [.string (bT s)] Fr w [] (fun v L=>v=GH (mq s)∧L=[]):=by
 refine TF 48 Tryz.func265 Z ym aD Z Z ?_
 refine ae ?_
 refine CC Z (fun h=>?_) (fun h=>CK ?_)
 ·have h:s=[]:=by rw[show(ByteArray.mk #[])=bT [] from rfl,qR] at h;exact of_decide_eq_true h
  subst h
  refine ae ?_
  exact CR (aq.t3 2 3 4 Z Z Z Z ER ⟨rfl,Z⟩)
 have h:s≠[]:=by rw[show(ByteArray.mk #[])=bT [] from rfl,qR] at h;exact of_decide_eq_false h
 obtain⟨c,r,rfl⟩:∃c r,s=c::r:=by cases s with
  | nil=>exact absurd rfl h
  | cons c r=>exact⟨c,r,rfl⟩
 have hc:c.toNat<256:=c.toNat_lt
 rw[iA] at hs
 have hsz:(bT (c::r)).size=r.length+1:=by rw[iO];rfl
 refine ae ?_
 refine VG (VI (Cj (b:=c) 0 Z Z Z Z Z Z) ?_)
 refine ae ?_
 refine CP (p:=(c.toNat:Int)≤247) Z (fun h2=>?_) (fun h2=>CK ?_)
 ·refine ae ?_
  refine CD (ts 0 8 .nil) ym yr ?_
  refine dp ?_
  refine AG (AI Z (Cj (b:=c) 0 Z Z Z Z Z Z) ?_)
  refine AG (AI Z (rm (c.toNat:Int) Z Z Z Z Z (AV yd)) ?_)
  refine dp ?_
  refine AG (AI Z (FN 1 Z Z Z Z Z (by rw[hsz];omega)) ?_)
  refine dp ?_
  exact CR (aq.t3 2 3 4 Z Z Z Z ER ⟨by rw[mq,if_pos yd,Ew];rfl,Z⟩)
 obtain⟨k,hk⟩:∃k,c.toNat-247=k:=⟨_,rfl⟩
 have hk1:1≤k:=by omega
 have hk8:k≤8:=by omega
 refine ae ?_
 refine VG (VI (Cj (b:=c) 0 Z Z Z Z Z Z) ?_)
 refine VG (VI (rm (c.toNat:Int) Z Z Z Z Z (i64_in _ yd yd)) ?_)
 refine pF ?_
 refine qD ?_
 rw[show(1:Int)+c.toNat-247=((k+1:Nat):Int) from by omega]
 refine ae ?_
 have hr:mq (c::r)=if r.length<k then none else if mP (kK (r.take k))=c::r.take k then some (kK (r.take k),r.drop k) else none:=by
  rw[mq,if_neg yd,hk]
 refine CP (p:=((bT (c::r)).size:Int)<((k+1:Nat):Int)) Z (fun h3=>?_) (fun h3=>CK ?_)
 ·rw[hsz] at h3
  refine ae ?_
  exact CR (aq.t3 2 3 4 Z Z Z Z ER ⟨by rw[hr,if_pos yd];rfl,Z⟩)
 rw[hsz] at h3
 rw[if_neg yd] at hr
 refine ae ?_
 refine VC.loop (σ:=Nat) (fun j=>[(0,.string (bT (c::r))),(5,.int .i64 ((k+1:Nat):Int)),(6,.int .i64 ((j+1:Nat):Int)),(2,.int .u64 ((kK (r.take j):Nat):Int))]) (fun _=>[]) (fun j=>j≤k) (fun j=>k-j) 0
  (bU _) (SC rfl (SC rfl (SC rfl (Sub.int rfl (by rw[r6];rfl) (SN _))))) ER ?_
 intro j hj
 refine ae ?_
 refine CP (p:=((j+1:Nat):Int)<((k+1:Nat):Int)) Z (fun h4=>CK ?_) (fun h4=>CX ?_)
 ·obtain⟨b,hb⟩:∃b,r[j]?=some b:=⟨_,GE yd⟩
  have h256:b.toNat<256:=b.toNat_lt
  have hlt:=Jl (r:=r) (j:=j) yd
  have hp:=WC (j:=j) yd
  have hsh:kK (r.take j)*2 ^ 8<18446744073709551616:=by omega
  refine ae ?_
  refine VG (VI (K2 (n:=8) ((kK (r.take j)*2 ^ 8:Nat):Int) Z Z yo (AV hsh)) ?_)
  refine ae ?_
  refine VG (VI (Cj (b:=b) (j+1) Z Z Z Z Z hb) ?_)
  refine VG (VI (rm (b.toNat:Int) Z Z Z Z Z (AV yd)) ?_)
  refine VG (VI (Uw Z Z hsh yd) ?_)
  refine fL ?_
  refine⟨j+1,by omega,by dsimp only;omega,SC Z (SC Z (Sub.int Z yd (Sub.int Z (by rw[Ra hb,show(2:Nat) ^ 8=256 from Z,Wb h256]) (SN _)))),ER⟩
 obtain rfl:j=k:=by omega
 have hlt:=Jl (r:=r) (j:=j) hk8
 have hp:=WD (j:=j) hk8
 refine ae ?_
 refine CD (ts 0 1 (ts 2 3 (.only 1 (.take 5 .nil)))) ym yr ?_
 refine dp ?_
 refine AG (AI Z (K1 (j+1) Z Z Z Z Z (by rw[hsz];omega)) ?_)
 refine AG (AR (fun Fr w hF hs hS=>Gc Fr w (kK (r.take j)) yd) Z Z yu ?_)
 refine dp ?_
 rw[Jc]
 refine VC.fQ Z (fun h5=>?_) (fun h5=>CK ?_)
 ·have h5:¬mP (kK (r.take j))=c::r.take j:=by rw[qR] at h5;exact of_decide_eq_false h5
  refine ae ?_
  exact CR (aq.t3 2 3 4 Z Z Z Z ER ⟨by rw[hr,if_neg h5];rfl,Z⟩)
 have h5:mP (kK (r.take j))=c::r.take j:=by rw[qR] at h5;exact of_decide_eq_true h5
 refine ae ?_
 refine CD (ts 0 7 .nil) ym yr ?_
 refine dp ?_
 refine AG (AI Z (FN (j+1) Z Z Z Z Z (by rw[hsz];omega)) ?_)
 refine dp ?_
 exact CR (aq.t3 2 3 4 Z Z Z Z ER ⟨by rw[hr,if_pos h5,Ew];rfl,Z⟩)
theorem Dm(s:Bs)(hs:s.length≤1000000):az Tryz.prog 233 [.string (bT s)] Fr w [] (fun v L=>v=N0 (cw s)∧L=[]):=by
 refine TF 22 Tryz.func233 Z ym aD Z Z ?_
 refine ae ?_
 cases hr:mq s with
 | none=>
  refine Pg ?_
  refine aw ?_
  refine VG (VY 14 true Z Z ?_)
  refine qH ?_
  exact CR (aq.t3 2 3 4 Z Z Z Z ER ⟨by rw[cw,hr];rfl,Z⟩)
 | some x=>
  obtain⟨u,r⟩:=x
  have hu:=MO hr
  refine Ph ?_
  refine aw ?_
  refine VG (VY 14 false Z Z ?_)
  refine aw ?_
  refine CP (p:=(1099511627777:Int)<(u:Int)) Z (fun h2=>?_) (fun h2=>CK ?_)
  ·refine ae ?_
   exact CR (aq.t3 2 3 4 Z Z Z Z ER ⟨by rw[cw,hr];dsimp only;rw[if_pos yd];rfl,Z⟩)
  refine ae ?_
  refine VG (VI (rm (u:Int) Z Z Z Z Z (i64_in _ yd yd)) ?_)
  refine qD ?_
  refine ae ?_
  exact CR (aq.t3 2 3 4 Z Z Z Z ER ⟨by rw[cw,hr];dsimp only;rw[if_neg yd];rfl,Z⟩)
theorem R9(s:Bs)(hs:s.length≤1000000):az Tryz.prog 235 [.string (bT s)] Fr w [] (fun v L=>v=JY (jf s)∧L=[]):=by
 refine TF 27 Tryz.func235 Z ym aD Z Z ?_
 refine ae ?_
 cases hr:mq s with
 | none=>
  refine Pg ?_
  refine aw ?_
  refine VG (VY 14 true Z Z ?_)
  refine qH ?_
  exact CR (aq.t3 2 3 4 Z Z Z Z ER ⟨by rw[jf,hr];rfl,Z⟩)
 | some x=>
  obtain⟨u,r⟩:=x
  have hu:=MO hr
  have hrl:=GK hr
  have hsz:(bT r).size=r.length:=iO r
  refine Ph ?_
  refine aw ?_
  refine VG (VY 14 false Z Z ?_)
  refine aw ?_
  refine VG (VI (rm ((bT r).size:Int) Z Z Z Z Z (AV yd)) ?_)
  refine aw ?_
  refine CP (p:=((bT r).size:Int)<(u:Int)) Z (fun h2=>?_) (fun h2=>CK ?_)
  ·refine ae ?_
   exact CR (aq.t3 2 3 4 Z Z Z Z ER ⟨by rw[jf,hr];dsimp only;rw[if_pos yd];rfl,Z⟩)
  refine ae ?_
  refine CD (ts 0 9 .nil) ym yr ?_
  refine dp ?_
  refine AG (AI Z (K1 u Z Z Z Z Z yd) ?_)
  refine dp ?_
  refine AG (AI Z (FN u Z Z Z Z Z yd) ?_)
  refine dp ?_
  exact CR (aq.t3 2 3 4 Z Z Z Z ER ⟨by rw[jf,hr];dsimp only;rw[if_neg yd,Ew,Jc];rfl,Z⟩)
end Cl
namespace Cl
open Go Vg T Api
attribute [local irreducible] VO VC VA
theorem Mk(n:Nat):(mP n).length≤9:=by
 unfold mP
 split
 ·simp
 ·have:=Ci 8 n;simp;omega
theorem gO(n:Int):(cZ n).length≤9:=by
 unfold cZ
 split
 ·exact bU _
 ·exact Mk _
theorem xB(s:Bs):(nJ s).length≤9+s.length:=by
 have:=Mk s.length
 rw[nJ,a_];omega
theorem Ml{o:bB}(h:dD o=0):o.key.size≤16∧o.value.size≤64:=by
 unfold dD at h
 split at h
 ·exact absurd h yo
 split at h
 ·exact absurd h yo
 rename_i h2
 simp[qn] at h2
 omega
theorem Gj{o:bB}(h:dD o=0):(py o).length≤116:=by
 obtain⟨h1,h2⟩:=Ml h
 have a:=gO o.kind
 have b:=xB (sB o.key)
 have c:=xB (sB o.value)
 have d:=gO o.version
 rw[um] at b c
 unfold py
 simp only[a_]
 have e:(if mS o.kind=true then nJ (sB o.value) else []).length≤73:=by split<;>first | omega | simp
 have f:(if o.kind=4 then cZ o.version else []).length≤9:=by split<;>first | omega | simp
 omega
theorem Mn(o:bB):az Tryz.prog 215 [.agg o.cells.toArray] Fr w [] (fun v L=>v=.tuple #[.string (bT (if dD o=0 then py o else [])),.int .i64 (dD o)]∧L=[]):=by
 refine TF 35 Tryz.func215 Z ym aD Z Z ?_
 refine CS (CG (VG (VB (vs:=o.cells) Z fun b=>VG (VN ?_))))
 refine ae ?_
 refine VG (VL 0 o.cells Z Z Z Z ?_)
 refine VG (VV (fun Fr w hF hw _=>Api.iG Fr w o) Z ?_)
 refine ae ?_
 refine VC.dH Z (fun h=>?_) (fun h=>CK ?_)
 ·refine ae ?_
  exact CR (aq.dh 2 3 Z Z Z aa.nil.ah ⟨by rw[if_neg h];rfl,Z⟩)
 rw[if_pos h,h]
 obtain⟨hk,hv⟩:=Ml h
 have l1:=gO o.kind
 have l2:=xB (sB o.key)
 have l3:=xB (sB o.value)
 have l4:=gO o.version
 rw[um] at l2 l3
 refine ae ?_
 refine CD (ts 0 2 (ts 3 2 (.only 2 (.only 5 (ts 6 2 .nil))))) ym yr ?_
 refine bt ?_
 refine AG (AR (fun Fr w hF hs hS=>np Fr w o.kind) Z Z yu ?_)
 refine AG (AR (fun Fr w hF hs hS=>He Fr w o.key yd) Z Z yu ?_)
 refine A7 ?_
 rw[←mI]
 refine uG ?_
 refine VG (VV (fun Fr w hF hw _=>Ds Fr w o.kind) Z ?_)
 refine aj ?_
 refine VC.dX (σ:=Bs) (fun s=>[(1,pV b),(5,.string (bT s))]) (fun _=>[pt b o.cells 35]) (fun s=>s=cZ o.kind++nJ (sB o.key)++(if mS o.kind=true then nJ (sB o.value) else [])) ?_ ?_
 ·refine CC Z (fun h2=>?_) (fun h2=>CK ?_)
  ·refine aj ?_
   refine VG (VV (fun Fr w hF hw _=>He Fr w o.value yd) Z ?_)
   refine VG (VI (sE Z Z (by rw[iO,iO,a_];omega)) ?_)
   rw[←mI]
   refine aj ?_
   exact⟨_,by rw[show mS o.kind=true from h2,if_pos rfl],SC Z (SC Z (SN _)),ER⟩
  ·exact⟨_,by rw[show mS o.kind=false from h2,if_neg yo,bK],SC Z (SC Z (SN _)),ER⟩
 rintro s rfl
 have e:(if mS o.kind=true then nJ (sB o.value) else []).length≤73:=by split<;>first | omega | simp
 refine aj ?_
 refine VC.dX (σ:=Bs) (fun s=>[(1,pV b),(5,.string (bT s))]) (fun _=>[pt b o.cells 35]) (fun s=>s=py o) ?_ ?_
 ·refine CE Z (fun h2=>?_) (fun h2=>CK ?_)
  ·refine aj ?_
   refine VG (VV (fun Fr w hF hw _=>np Fr w o.version) Z ?_)
   refine DQ ?_
   rw[←mI]
   refine aj ?_
   exact⟨_,by rw[py,if_pos h2],SC Z (SC Z (SN _)),ER⟩
  ·exact⟨_,by rw[py,if_neg h2,bK],SC Z (SC Z (SN _)),ER⟩
 rintro s rfl
 refine aj ?_
 exact CR (aq.dh 2 3 Z Z Z aa.nil.ah ⟨rfl,Z⟩)
end Cl
namespace Cl
open Go Vg T Api
attribute [local irreducible] VO VC VA
theorem R8{s a r:Bs}(h:jf s=some (a,r)):a.length≤s.length∧r.length≤s.length:=by
 unfold jf at h
 cases hr:mq s with
 | none=>rw[hr] at h;cases h
 | some x=>
  obtain⟨n,q⟩:=x
  have:=GK hr
  rw[hr] at h
  dsimp only at h
  split at h
  ·cases h
  ·simp only[Option.some.injEq,Prod.mk.injEq] at h
   obtain⟨rfl,rfl⟩:=h
   rw[kH,r4];omega
def g1(s:Bs):Option (bB×Bs):=(cw s).map fun x=>(⟨x.1,bT [],bT [],0⟩,x.2)
def g2(s:Bs):Option (bB×Bs):=(g1 s).bind fun x=>(jf x.2).map fun y=>({ x.1 with key:=bT y.1 },y.2)
def g3(s:Bs):Option (bB×Bs):=(g2 s).bind fun x=>if mS x.1.kind=true then (jf x.2).map fun y=>({ x.1 with value:=bT y.1 },y.2) else some x
def g4(s:Bs):Option (bB×Bs):=(g3 s).bind fun x=>if x.1.kind=4 then (cw x.2).map fun y=>({ x.1 with version:=y.1 },y.2) else some x
theorem B8(s:Bs):rf s=(g4 s).bind fun x=>if x.2=[]∧dD x.1=0 then some x.1 else none:=by
 unfold rf g4 g3 g2 g1
 cases h1:cw s with
 | none=>rfl
 | some x=>
  obtain⟨k,r⟩:=x
  simp only[nO,mD]
  cases h2:jf r with
  | none=>rfl
  | some y=>
   obtain⟨key,r2⟩:=y
   simp only[nO,mD]
   by_cases hv:mS k=true
   ·simp only[hv,if_true]
    cases h3:jf r2 with
    | none=>rfl
    | some z=>
     obtain⟨val,r3⟩:=z
     simp only[nO,mD]
     by_cases h4:k=4
     ·simp only[h4,if_true]
      cases h5:cw r3 with
      | none=>rfl
      | some u=>simp only[nO,mD]
     ·simp only[h4,if_false,mD]
   ·simp only[hv,if_false,Bool.false_eq_true,mD]
    by_cases h4:k=4
    ·exact absurd (by subst h4;rfl) hv
    ·simp only[h4,if_false,mD]
structure GI(o:Option (bB×Bs))(n:Nat)(x:bB×Bs×Bool):Prop where
 len:x.2.1.length≤n
 KJ:if x.2.2=true then o=some (x.1,x.2.1) else o=none
theorem GI.yes{o:Option (bB×Bs)}{n:Nat}{p:bB}{r:Bs}(h:o=some (p,r))(hl:r.length≤n):GI o n (p,r,true):=⟨hl,h⟩
theorem GI.no{o:Option (bB×Bs)}{n:Nat}{p:bB}{r:Bs}(h:o=none)(hl:r.length≤n):GI o n (p,r,false):=⟨hl,h⟩
theorem GI.t{o:Option (bB×Bs)}{n:Nat}{p:bB}{r:Bs}(h:GI o n (p,r,true)):o=some (p,r):=h.KJ
theorem GI.f{o:Option (bB×Bs)}{n:Nat}{p:bB}{r:Bs}(h:GI o n (p,r,false)):o=none:=h.KJ
abbrev Ai:TypeId:=35
def zA:Option bB→Value
 | some o=>.tuple #[.agg o.cells.toArray,.int .i64 0]
 | none=>.tuple #[.agg (bB.cells ⟨0,bT [],bT [],0⟩).toArray,.int .i64 10]
theorem Dk(s:Bs):∃k r ok,N0 (cw s)=.tuple #[.int .i64 k,.string (bT r),.bool ok]∧r.length≤s.length∧(ok=true→cw s=some (k,r))∧(ok=false→cw s=none):=by
 cases h:cw s with
 | none=>exact⟨0,[],false,rfl,bU _,fun h=>(pM h).elim,fun _=>rfl⟩
 | some x=>exact⟨x.1,x.2,true,rfl,by have:=(abK (n:=x.1) (r:=x.2) h).2.2;omega,fun _=>rfl,fun h=>(pM h.symm).elim⟩
theorem EX(s:Bs):∃a r ok,JY (jf s)=.tuple #[.string (bT a),.string (bT r),.bool ok]∧r.length≤s.length∧(ok=true→jf s=some (a,r))∧(ok=false→jf s=none):=by
 cases h:jf s with
 | none=>exact⟨[],[],false,rfl,bU _,fun h=>(pM h).elim,fun _=>rfl⟩
 | some x=>exact⟨x.1,x.2,true,rfl,(R8 (a:=x.1) (r:=x.2) h).2,fun _=>rfl,fun h=>(pM h.symm).elim⟩
abbrev gE(b2 b4:Nat)(x:bB×Bs×Bool):Env:=[(2,pV b2),(4,pV b4),(6,.string (bT x.2.1)),(7,.bool x.2.2)]
abbrev gH(b2 b4:Nat)(x:bB×Bs×Bool):List HP:=[pt b4 x.1.cells Ai,pt b2 (bB.cells ⟨0,bT [],bT [],0⟩) Ai]
theorem GI.mk'{o:Option (bB×Bs)}{n:Nat}{p:bB}{r:Bs}{ok:Bool}(hl:r.length≤n)(h1:ok=true→o=some (p,r))(h2:ok=false→o=none):GI o n (p,r,ok):=by
 cases ok with
 | true=>exact GI.yes (h1 rfl) hl
 | false=>exact GI.no (h2 rfl) hl
theorem CL(s:Bs)(hs:s.length≤1000000):az Tryz.prog 234 [.string (bT s)] Fr w [] (fun v L=>v=zA (rf s)∧L=[]):=by
 refine TF 63 Tryz.func234 Z ym aD Z Z ?_
 refine CS (CG (VG (VO.alloc Z fun b2=>?_)))
 refine ae ?_
 refine VG (VO.alloc Z fun b4=>?_)
 refine ae ?_
 obtain⟨k,r,ok,hv,hrl,hk1,hk2⟩:=Dk s
 refine VG (VV (fun Fr w hF hw _=>hv▸Dm Fr w s hs) Z ?_)
 refine aw ?_
 refine VG (VO.st 0 (cs':=bB.cells ⟨k,bT [],bT [],0⟩) Z Z Z Z (by show 0<4;omega) Z Z ?_)
 refine aw ?_
 have hI:GI (g1 s) s.length (⟨k,bT [],bT [],0⟩,r,ok):=GI.mk' hrl (fun h=>by rw[g1,hk1 h];rfl) (fun h=>by rw[g1,hk2 h];rfl)
 clear hk1 hk2 hv
 refine VC.dX (gE b2 b4) (gH b2 b4) (GI (g2 s) s.length) ?_ ?_
 ·refine CC Z (fun h=>?_) (fun h=>CK ?_)
  ·subst h
   obtain⟨a,q,ok,hv,hql,hk1,hk2⟩:=EX r
   refine aw ?_
   refine HY ?_
   refine aw ?_
   refine VG (VO.st 0 (cs':=bB.cells ⟨k,bT a,bT [],0⟩) Z Z Z Z (by show 1<4;omega) Z Z ?_)
   refine aw ?_
   refine⟨(⟨k,bT a,bT [],0⟩,q,ok),GI.mk' yd (fun h=>by rw[g2,hI.t];show(jf r).map _=_;rw[hk1 h];rfl) (fun h=>by rw[g2,hI.t];show(jf r).map _=_;rw[hk2 h];rfl),aP,ER⟩
  ·subst h
   exact⟨(⟨k,bT [],bT [],0⟩,r,false),GI.no (by rw[g2,hI.f];rfl) hrl,aP,ER⟩
 clear hI hrl
 rintro⟨p,r,ok⟩ hI
 refine CS (VC.dX (gE b2 b4) (gH b2 b4) (GI (g3 s) s.length) ?_ ?_)
 ·cases ok with
  | false=>
   refine aw ?_
   refine VG (VY 25 false Z Z ?_)
   refine kh ?_
   exact⟨(p,r,false),GI.no (by rw[g3,hI.f];rfl) hI.len,aP,ER⟩
  | true=>
   have hrl:r.length≤s.length:=hI.len
   refine aw ?_
   refine VG (VY 25 true Z Z ?_)
   refine bW ?_
   refine VG (VV (fun Fr w hF hw _=>Ds Fr w p.kind) Z ?_)
   refine aw ?_
   refine CC Z (fun h=>?_) (fun h=>CK ?_)
   ·obtain⟨a,q,ok,hv,hql,hk1,hk2⟩:=EX r
    have e:g3 s=(jf r).map fun y=>({ p with value:=bT y.1 },y.2):=by rw[g3,hI.t];exact if_pos h
    refine aw ?_
    refine HY ?_
    refine aw ?_
    refine VG (VO.st 0 (cs':=bB.cells { p with value:=bT a }) Z Z Z Z (by show 2<4;omega) Z Z ?_)
    refine aw ?_
    exact⟨({ p with value:=bT a },q,ok),GI.mk' yd (fun h=>by rw[e,hk1 h];rfl) (fun h=>by rw[e,hk2 h];rfl),aP,ER⟩
   ·exact⟨(p,r,true),GI.yes (by rw[g3,hI.t];exact if_neg (by rw[show mS p.kind=false from h];decide)) hrl,aP,ER⟩
 clear hI
 clear p r ok
 rintro⟨p,r,ok⟩ hI
 refine CS (VC.dX (gE b2 b4) (gH b2 b4) (GI (g4 s) s.length) ?_ ?_)
 ·cases ok with
  | false=>
   refine aw ?_
   refine VG (VY 38 false Z Z ?_)
   refine kh ?_
   exact⟨(p,r,false),GI.no (by rw[g4,hI.f];rfl) hI.len,aP,ER⟩
  | true=>
   have hrl:r.length≤s.length:=hI.len
   refine aw ?_
   refine VG (VY 38 true Z Z ?_)
   refine bW ?_
   refine CE Z (fun h=>?_) (fun h=>CK ?_)
   ·obtain⟨k,q,ok,hv,hql,hk1,hk2⟩:=Dk r
    have e:g4 s=(cw r).map fun y=>({ p with version:=y.1 },y.2):=by rw[g4,hI.t];exact if_pos h
    refine aw ?_
    refine VG (VV (fun Fr w hF hw _=>hv▸Dm Fr w r yd) Z ?_)
    refine aw ?_
    refine VG (VO.st 0 (cs':=bB.cells { p with version:=k }) Z Z Z Z (by show 3<4;omega) Z Z ?_)
    refine aw ?_
    exact⟨({ p with version:=k },q,ok),GI.mk' yd (fun h=>by rw[e,hk1 h];rfl) (fun h=>by rw[e,hk2 h];rfl),aP,ER⟩
   ·exact⟨(p,r,true),GI.yes (by rw[g4,hI.t];exact if_neg h) hrl,aP,ER⟩
 clear hI
 clear p r ok
 rintro⟨p,r,ok⟩ hI
 refine aw ?_
 cases ok with
 | false=>
  refine VG (VY 52 true Z Z ?_)
  refine aw ?_
  refine VG (VY 56 true Z Z ?_)
  refine kE ?_
  refine HZ ?_
  refine H0 ?_
  refine aw ?_
  exact CR (aq.dB 2 3 Z Z Z (ax.many (ds:=bB.cells ⟨0,bT [],bT [],0⟩) 1 Z Z) Z aa.nil.ah ⟨by rw[B8,hI.f];rfl,Z⟩)
 | true=>
 refine VG (VY 52 false Z Z ?_)
 refine aw ?_
 by_cases hr:r=[]
 rotate_left
 ·refine VG (VY 56 true Z (by rw[show(ByteArray.mk #[])=bT [] from Z,qR,DF hr];rfl) ?_)
  refine kE ?_
  refine HZ ?_
  refine H0 ?_
  refine aw ?_
  exact CR (aq.dB 2 3 Z Z Z (ax.many (ds:=bB.cells ⟨0,bT [],bT [],0⟩) 1 Z Z) Z aa.nil.ah ⟨by rw[B8,hI.t,mD,if_neg (fun h=>hr h.1)];rfl,Z⟩)
 refine VG (VY 56 false Z (by rw[show(ByteArray.mk #[])=bT [] from Z,qR,DT hr];rfl) ?_)
 refine bW ?_
 refine VG (VL 0 p.cells Z Z Z Z ?_)
 refine VG (VV (fun Fr w hF hw _=>Api.iG Fr w p) Z ?_)
 refine aw ?_
 refine VC.dH Z (fun hc=>?_) (fun hc=>CK ?_)
 ·refine aw ?_
  refine HZ ?_
  refine H0 ?_
  refine aw ?_
  exact CR (aq.dB 2 3 Z Z Z (ax.many (ds:=bB.cells ⟨0,bT [],bT [],0⟩) 1 Z Z) Z aa.nil.ah ⟨by rw[B8,hI.t,mD,if_neg (fun h=>hc h.2)];rfl,Z⟩)
 refine bW ?_
 refine VG (VL 0 p.cells Z Z Z Z ?_)
 refine VG (VT (vs:=p.cells) (cs':=p.cells) 1 Z Z Z Z (NR _) Z Z Z ?_)
 refine aw ?_
 exact CR (aq.dB 2 3 Z Z Z (ax.many (ds:=p.cells) 1 Z Z) Z aa.nil.ah ⟨by rw[B8,hI.t,mD,if_pos ⟨hr,hc⟩];rfl,Z⟩)
end Cl
namespace Cl
open Go Vg T Api Ch
attribute [local irreducible] VO VC VA
theorem RD{c:aW}(h:e_ c=0):kL c=true:=by
 unfold e_ at h
 by_cases hc:kL c=true
 ·exact hc
 ·rw[if_neg hc] at h;exact absurd h yo
theorem qV{c:aW}(h:e_ c=0):1≤c.ms.length∧c.ms.length≤6∧1≤c.ar∧c.ar≤1099511627776:=by
 have:=RD h
 simp[kL,tT] at this
 omega
def t_(m:aR):Bs:=cZ m.1++cZ m.2
theorem U1(m:aR):(t_ m).length≤18:=by
 have:=gO m.1
 have:=gO m.2
 rw[t_,a_];omega
theorem Cu:∀ms:List aR,(ms.flatMap t_).length≤18*ms.length
 | []=>NR _
 | m::ms=>by
  have:=U1 m
  have:=Cu ms
  rw[uL,a_,iA];omega
theorem RC{c:aW}(h:e_ c=0):(wB c).length≤135:=by
 obtain⟨h1,h2,_⟩:=qV h
 have a:=gO c.ar
 have b:=gO (c.ms.length:Int)
 have d:=gO c.drain
 have m:=Cu c.ms
 show(cZ c.ar++cZ c.ms.length++c.ms.flatMap t_++cZ c.drain).length≤_
 simp only[a_];omega
theorem RY{c:aW}{a:Option Addr}{cap:Nat}(h:aV aH 2 Fr w a c.ms)(hl:c.ms.length≤1000000):az Tryz.prog 217 [.agg (c.cells a cap).toArray] Fr w [] (fun v L=>v=.tuple #[.string (bT (if e_ c=0 then wB c else [])),.int .i64 (e_ c)]∧L=[]):=by
 refine TF 43 Tryz.func217 Z ym aD Z Z ?_
 refine CS (CG (VG (VB (vs:=c.cells a cap) Z fun b=>VG (VN ?_))))
 refine ae ?_
 refine Hv ?_
 refine VG (VV (fun Fr w hF hw _=>Ch.iG Fr w (h.of hF hw) yd) Z ?_)
 refine ae ?_
 refine VC.dH Z (fun h2=>?_) (fun h2=>CK ?_)
 ·refine ae ?_
  exact CR (aq.dh 2 3 Z Z Z aa.nil.ah ⟨by rw[if_neg h2];rfl,Z⟩)
 rw[if_pos h2,h2]
 obtain⟨h3,h4,_⟩:=qV h2
 have l1:=gO c.ar
 have l2:=gO (c.ms.length:Int)
 have l3:=gO c.drain
 have l4:=Cu c.ms
 refine ae ?_
 refine CD (ts 0 2 (ts 3 3 (.only 2 (.only 6 (ts 7 2 .nil))))) ym yr ?_
 refine bt ?_
 refine AG (AR (fun Fr w hF hs hS=>np Fr w c.ar) Z Z yu ?_)
 refine AG (AR (fun Fr w hF hs hS=>np Fr w c.ms.length) Z Z yu ?_)
 refine A7 ?_
 rw[←mI]
 refine uG ?_
 refine VC.loop (σ:=Nat) (fun k=>[(1,pV b),(22,.slice a c.ms.length cap),(23,.int .i64 c.ms.length),(24,.int .i64 (k:Int)),(5,.string (bT (cZ c.ar++cZ c.ms.length++(c.ms.take k).flatMap t_)))]) (fun _=>[pt b (c.cells a cap) dP]) (fun k=>k≤c.ms.length) (fun k=>c.ms.length-k) 0
  (bU _) (SC rfl (SC rfl (SC rfl (SC rfl (SC Qe (SN _)))))) ER ?_
 rintro k hk
 refine ae ?_
 refine CP (p:=(k:Int)<c.ms.length) Z (fun h5=>CK ?_) (fun h5=>CX ?_)
 ·obtain⟨m,hm⟩:∃m,c.ms[k]?=some m:=⟨_,GE yd⟩
  obtain⟨mb,mo,hma,ra,rc⟩:=aV.rd (X:=⟨Tryz.prog,tab,aD,43,Fr,w⟩) h hm
  subst hma
  have e:(c.ms.take (k+1)).flatMap t_=(c.ms.take k).flatMap t_++(cZ m.1++cZ m.2):=by rw[jb,hm,List.flatMap_append];simp[t_]
  have l5:=Cu (c.ms.take k)
  rw[kH] at l5
  have l6:=gO m.1
  have l7:=gO m.2
  refine pL ?_
  refine uw ?_
  refine VG (VO.alloc Z fun b7=>?_)
  refine VG (VT (vs:=aH m) (cs':=aH m) 0 Z Z Z Z (NR _) Z Z Z ?_)
  refine ae ?_
  refine CD (ts 0 3 (ts 4 2 (.only 3 (.only 6 (ts 7 3 .nil))))) ym yr ?_
  refine bt ?_
  refine AG (AR (fun Fr w hF hs hS=>np Fr w m.1) Z Z yu ?_)
  refine AG (AR (fun Fr w hF hs hS=>np Fr w m.2) Z Z yu ?_)
  refine A7 ?_
  refine AG (AI Z (sE Z Z (by rw[ByteArray.size_append,iO,iO,iO];simp only[a_];omega)) ?_)
  rw[←mI,←mI]
  refine bt ?_
  refine fL ?_
  refine⟨k+1,by omega,by dsimp only;omega,SC Z (SC Z (SC Z (Sub.int Z yd (SC Qf (SN _))))),(IP 1 Z aa.nil).ah⟩
 obtain rfl:k=c.ms.length:=by omega
 rw[lj]
 refine aj ?_
 refine VG (VV (fun Fr w hF hw _=>np Fr w c.drain) Z ?_)
 refine DQ ?_
 rw[←mI]
 refine aj ?_
 exact CR (aq.dh 2 3 Z Z Z aa.nil.ah ⟨rfl,Z⟩)
end Cl
namespace Cl
open Go Vg T Api Ch
attribute [local irreducible] VO VC VA
def mL(c:aW):aW×Int:=if ia c≠0 then (fX,2) else (⟨c.ar+1,c.ms,c.drain⟩,0)
def zh(r:aW×Int)(v:Value)(L:List HP):Prop:=∃a c,v=.tuple #[.agg (r.1.cells a c).toArray,.int .i64 r.2]∧L=[aA aU 2 a r.1.ms.length c (flat aH r.1.ms)]
theorem B6{c:aW}(h:ia c=0):e_ c=0∧c.ar≠1099511627776:=by
 unfold ia at h
 split at h
 ·exact absurd h yo
 ·rename_i k
  exact⟨Classical.byContradiction fun e=>k (.inl e),fun e=>k (.inr e)⟩
section
variable {c:aW} {a:Option Addr} {cap:Nat}
theorem Tp(h:aV aH 2 Fr w a c.ms)(hl:c.ms.length≤1000000):az Tryz.prog 195 [.agg (c.cells a cap).toArray] Fr w [] (zh (mL c)):=by
 refine TF 22 Tryz.func195 Z ym aD Z Z ?_
 refine CS (CG (VG (VB (vs:=c.cells a cap) Z fun b=>VG (VO.alloc Z fun b2=>?_))))
 refine ae ?_
 refine ux ?_
 refine VG (VV (fun Fr w hF hw _=>Ch.iG Fr w (h.of hF hw) yd) Z ?_)
 refine aw ?_
 have bad:∀{X:Cx} {E:Env} {fn:Func} {ti:TI} {L:List HP},fn.results=#[.cell 2 dP,.tmp 3]→Vg.look E 2=some (.pointer (some ⟨b2,0,none⟩))→Vg.look E 3=some (.int .i64 2)→bS X.tab dP=some ti→ti.aJ.agg=true→ti.size=3→ia c≠0→aq X fn (zh (mL c)) E (pt b2 (fX.cells none 0) dP::L):=fun h1 h2 h3 h4 h5 h6 h7=>
  aq.dB 2 3 h1 h2 h4 (ax.many (ds:=fX.cells none 0) 0 rfl (by rw[h6];rfl) (by rw[h6];rfl) h5) h3 (aa.dM aa.nil).ah (by rw[mL,if_pos h7];exact⟨none,0,rfl,rfl⟩)
 by_cases h1:e_ c=0
 rotate_left
 ·have hf:ia c≠0:=by rw[ia,if_pos (.inl h1)];decide
  refine VG (VY 7 true Z (by rw[bne_iff_ne];exact h1) ?_)
  refine kE ?_
  refine Pj ?_
  refine Pk ?_
  refine aw ?_
  exact CR (bad Z Z Z Z Z Z hf)
 obtain⟨g1,g2,g3,g4⟩:=qV h1
 refine VG (VY 7 false Z (by rw[bne_eq_false_iff_eq];exact h1) ?_)
 refine g_ ?_
 refine CE Z (fun h2=>?_) (fun h2=>CK ?_)
 ·have hf:ia c≠0:=by rw[ia,if_pos (.inr h2)];decide
  refine tj ?_
  refine Pk ?_
  refine aw ?_
  exact CR (bad Z Z Z Z Z Z hf)
 have hf:ia c=0:=by rw[ia,if_neg (by simp[h1,h2])]
 refine aw ?_
 refine CD (ts 0 5 (ts 6 2 (.only 5 (.take 8 (.only 9 (.take 10 .nil)))))) ym yr ?_
 refine fK ?_
 refine rM ?_
 refine fK ?_
 refine AG (AO (OC (Lc:=[]) (Lr:=[pt b2 (fX.cells none 0) dP,pt b (c.cells a cap) dP]) rfl (.refl _) (fun Fr w hF hs hS=>UX Fr w (h.of hF hs) hl)) rfl (fun v L' g=>by obtain⟨_,⟨_,_,rfl,rfl⟩,rfl⟩:=g;exact mU) ?_)
 rintro _ _ ⟨_,⟨ma,mc,rfl,rfl⟩,rfl⟩
 refine AG (AI Z (LB (pv:=[(0,.int .i64 (c.ar+1)),(1,.slice ma c.ms.length mc),(2,.int .i64 c.drain)]) ((aW.mk (c.ar+1) c.ms c.drain).cells ma mc) Z Z Z ym Z) ?_)
 refine AG (AT (vs:=(aW.mk (c.ar+1) c.ms c.drain).cells ma mc) (cs':=(aW.mk (c.ar+1) c.ms c.drain).cells ma mc) 1 Z Z Z Z Z (NR _) Z Z Z yu ?_)
 refine dp ?_
 exact CR (aq.dB 2 3 Z Z Z (ax.many (ds:=(aW.mk (c.ar+1) c.ms c.drain).cells ma mc) 1 Z Z) Z (L':=[aA aU 2 ma c.ms.length mc (flat aH c.ms)]) (IP 0 Z aa.nil).ah (by rw[mL,if_neg D7];exact⟨ma,mc,Z,Z⟩))
theorem Ur(h:aV aH 2 Fr w a c.ms)(hl:c.ms.length≤1000000)(n:Int):az Tryz.prog 196 [.agg (c.cells a cap).toArray,.int .i64 n] Fr w []
  (fun v L=>v=.tuple #[.int .i64 (if lH c n≠0 then 0 else placeOf c.ms n),.int .i64 (lH c n)]∧L=[]):=by
 refine TF 19 Tryz.func196 Z ym aD Z Z ?_
 refine CS (CG (VG (VB (vs:=c.cells a cap) Z fun b=>?_)))
 refine ae ?_
 refine Hv ?_
 refine AW ?_
 rintro _ _ ⟨pb,rfl,rfl⟩
 refine ae ?_
 refine DA ?_
 refine ae ?_
 refine CP Z (fun h1=>?_) (fun h1=>?_)
 ·refine ae ?_
  exact CR (aq.dh 4 5 Z Z Z aa.nil.ah ⟨by rw[lH,if_pos h1];rfl,Z⟩)
 refine ae ?_
 refine xP ?_
 refine ae ?_
 refine CE Z (fun h2=>?_) (fun h2=>CK ?_)
 ·have h2:c.ms.length=1:=by omega
  refine ae ?_
  exact CR (aq.dh 4 5 Z Z Z aa.nil.ah ⟨by rw[lH,if_neg h1,if_pos h2];rfl,Z⟩)
 have h2:¬c.ms.length=1:=by omega
 refine ae ?_
 exact CR (aq.dh 4 5 Z Z Z aa.nil.ah ⟨by rw[lH,if_neg h1,if_neg h2];rfl,Z⟩)
end
end Cl
namespace Cl
open Go Vg T Api Ch
attribute [local irreducible] VO VC VA
def EY(ep:Int)(a:Value)(dr:Int):List Value:=[.int .i64 ep,a,.int .i64 dr]
section
variable {c:aW} {a:Option Addr} {cap:Nat}
theorem acg(h:aV aH 2 Fr w a c.ms)(hl:c.ms.length≤1000000)(n:Int):az Tryz.prog 182 [.agg (c.cells a cap).toArray,.int .i64 n] Fr w [] (zh (e8 c n)):=by
 have hpl:=ug c.ms n
 refine TF 38 Tryz.func182 Z ym aD Z Z ?_
 refine CS (CG (VG (VB (vs:=c.cells a cap) Z fun b=>VG (VO.alloc Z fun b4=>?_))))
 refine ae ?_
 refine ux ?_
 refine H2 ?_
 rintro _ _ ⟨ma,mc,rfl,rfl⟩
 by_cases hf:ia c=0
 rotate_left
 ·have hf2:mL c=(fX,2):=by rw[mL,if_pos hf]
  rw[hf2]
  refine aw ?_
  refine H3 ?_
  refine aw ?_
  refine VC.dH Z (fun _=>?_) (fun e=>absurd e yo)
  refine tj ?_
  refine aw ?_
  refine vV ?_
  exact CR (aq.dB 4 5 Z Z Z (ax.many (ds:=fX.cells none 0) 1 Z Z) Z (L':=[aA aU 2 none 0 0 (flat aH [])]) (aa.dM aa.nil).ah (by rw[e8,if_pos hf];exact⟨none,0,Z,Z⟩))
 have hf2:mL c=(⟨c.ar+1,c.ms,c.drain⟩,0):=by rw[mL,if_neg D7]
 obtain⟨hce,hep⟩:=B6 hf
 obtain⟨g1,g2,g3,g4⟩:=qV hce
 have hM:¬ia c≠0:=by rw[hf];decide
 rw[hf2]
 refine aw ?_
 refine H4 ?_
 refine aw ?_
 refine VC.dH Z (fun e=>absurd Z e) (fun _=>?_)
 refine aw ?_
 refine VG (VV (fun Fr w hF hw _=>Ch.Mh Fr w n) Z ?_)
 refine aw ?_
 refine VC.fQ Z (fun h2=>?_) (fun h2=>?_)
 ·refine tj ?_
  refine vV ?_
  exact CR (aq.dB 4 5 Z Z Z (ax.many (ds:=fX.cells none 0) 1 Z Z) Z (L':=[aA aU 2 none 0 0 (flat aH [])]) (aa.dM aa.nil).ah (by rw[e8,if_neg hM,if_pos h2];exact⟨none,0,Z,Z⟩))
 refine IK ?_
 refine AW ?_
 rintro _ _ ⟨pb,rfl,rfl⟩
 refine aw ?_
 refine DA ?_
 refine aw ?_
 refine CP (p:=0≤placeOf c.ms n) Z (fun h3=>?_) (fun h3=>CK ?_)
 ·refine tj ?_
  refine VG (VT (vs:=fX.cells none 0) (cs':=fX.cells none 0) 2 Z Z Z Z (NR _) Z Z Z ?_)
  refine aw ?_
  exact CR (aq.dB 4 5 Z Z Z (ax.many (ds:=fX.cells none 0) 2 Z Z) Z (L':=[aA aU 2 none 0 0 (flat aH [])]) (aa.dM aa.nil).ah (by rw[e8,if_neg hM,if_neg D8,if_pos h3];exact⟨none,0,Z,Z⟩))
 refine jG ?_
 refine VG (VI (LB (pv:=[(0,.int .i64 n),(1,.int .i64 (c.ar+1))]) (aH (n,c.ar+1)) Z Z Z ym Z) ?_)
 refine VG (VO.buildSlice (pv:=[(0,.agg (aH (n,c.ar+1)).toArray)]) (aH (n,c.ar+1)) Z Z Z Z yo (ji Z Z Z) fun sb=>?_)
 refine VG (VO.append (m:=1) (news:=aH (n,c.ar+1)) 2 Z Z Z Z Z Z Z (fv.pt 0 Z Z Z) Z (by show(c.ms.length+1)*16≤_;omega) (by show c.ms.length+1≤_;omega) fun a2 c2 hc2=>?_)
 have hlen:(c.ms ++ [(n,c.ar+1)]).length=c.ms.length+1:=by simp
 have hcc:EY (c.ar+1) (.slice a2 (c.ms.length+1) c2) c.drain=(aW.mk (c.ar+1) (c.ms ++ [(n,c.ar+1)]) c.drain).cells a2 c2:=by unfold EY aW.cells;rw[hlen]
 refine aw ?_
 refine VG (VO.st 3 (cs':=EY (c.ar+1) (.slice a2 (c.ms.length+1) c2) c.drain) Z Z Z Z uC Z Z ?_)
 rw[hcc]
 refine aw ?_
 refine VG (VL 3 ((aW.mk (c.ar+1) (c.ms ++ [(n,c.ar+1)]) c.drain).cells a2 c2) Z Z Z Z ?_)
 refine VG (VT (vs:=(aW.mk (c.ar+1) (c.ms ++ [(n,c.ar+1)]) c.drain).cells a2 c2) (cs':=(aW.mk (c.ar+1) (c.ms ++ [(n,c.ar+1)]) c.drain).cells a2 c2) 3 Z Z Z Z (NR _) Z Z Z ?_)
 refine aw ?_
 have hW:e8 c n=(⟨c.ar+1,c.ms ++ [(n,c.ar+1)],c.drain⟩,0):=by rw[e8,if_neg hM,if_neg D8,if_neg h3]
 exact CR (aq.dB 4 5 Z Z Z (ax.many (ds:=(aW.mk (c.ar+1) (c.ms ++ [(n,c.ar+1)]) c.drain).cells a2 c2) 3 Z Z) Z (L':=[aA aU 2 a2 (c.ms ++ [(n,c.ar+1)]).length c2 (flat aH (c.ms ++ [(n,c.ar+1)]))]) (by rw[hlen,jU];exact(IP 0 Z aa.nil).ah) Qg)
theorem aci(h:aV aH 2 Fr w a c.ms)(hl:c.ms.length≤1000000)(n:Int):az Tryz.prog 174 [.agg (c.cells a cap).toArray,.int .i64 n] Fr w [] (zh (im c n)):=by
 have hpl:=ug c.ms n
 refine TF 39 Tryz.func174 Z ym aD Z Z ?_
 refine CS (CG (VG (VB (vs:=c.cells a cap) Z fun b=>VG (VO.alloc Z fun b4=>?_))))
 refine ae ?_
 refine ux ?_
 refine H2 ?_
 rintro _ _ ⟨ma,mc,rfl,rfl⟩
 by_cases hf:ia c=0
 rotate_left
 ·have hf2:mL c=(fX,2):=by rw[mL,if_pos hf]
  rw[hf2]
  refine aw ?_
  refine H3 ?_
  refine aw ?_
  refine VC.dH Z (fun _=>?_) (fun e=>absurd e yo)
  refine tj ?_
  refine aw ?_
  refine vV ?_
  exact CR (aq.dB 4 5 Z Z Z (ax.many (ds:=fX.cells none 0) 1 Z Z) Z (L':=[aA aU 2 none 0 0 (flat aH [])]) (aa.dM aa.nil).ah (by rw[im,if_pos hf];exact⟨none,0,Z,Z⟩))
 have hf2:mL c=(⟨c.ar+1,c.ms,c.drain⟩,0):=by rw[mL,if_neg D7]
 obtain⟨hce,hep⟩:=B6 hf
 obtain⟨g1,g2,g3,g4⟩:=qV hce
 have hM:¬ia c≠0:=by rw[hf];decide
 rw[hf2]
 refine aw ?_
 refine H4 ?_
 refine aw ?_
 refine VC.dH Z (fun e=>absurd Z e) (fun _=>CK ?_)
 refine IK ?_
 refine Pm ?_
 by_cases hlv:lH c n=0
 rotate_left
 ·rw[if_pos hlv]
  refine aw ?_
  refine VC.dH Z (fun _=>?_) (fun e=>absurd e hlv)
  refine tj ?_
  refine aw ?_
  refine vV ?_
  exact CR (aq.dB 4 5 Z Z Z (ax.many (ds:=fX.cells none 0) 1 Z Z) Z (L':=[aA aU 2 none 0 0 (flat aH [])]) (aa.dM aa.nil).ah (by rw[im,if_neg hM,if_pos hlv];exact⟨none,0,Z,Z⟩))
 have hpp:¬placeOf c.ms n<0∧¬c.ms.length=1:=by
  unfold lH at hlv
  by_cases p:placeOf c.ms n<0
  ·rw[if_pos p] at hlv;exact absurd hlv yo
  ·refine⟨p,fun e=>?_⟩
   rw[if_neg p,if_pos e] at hlv;exact absurd hlv yo
 obtain⟨i,hi,hil⟩:∃i:Nat,placeOf c.ms n=i∧i<c.ms.length:=by
  rcases hpl with e | ⟨i,m,e,h2,_⟩
  ·omega
  ·exact⟨i,e,h2⟩
 rw[if_neg Bj,hi]
 refine aw ?_
 refine VC.dH Z (fun e=>absurd hlv e) (fun _=>CK ?_)
 refine g_ ?_
 refine pF ?_
 refine VG (VK (Lc:=[aA aU 2 ma c.ms.length mc (flat aH c.ms)]) (fun Fr w hF hw _=>UY Fr w (l:=c.ms) hil yd) Z Z ?_)
 rintro _ _ ⟨a2,c2,rfl,rfl⟩
 refine aw ?_
 refine VG (VO.st 1 (cs':=(aW.mk (c.ar+1) (c.ms.eraseIdx i) c.drain).cells a2 c2) Z Z Z Z uC Z Z (VG (VN ?_)))
 refine CS (VC.dX (σ:=Int) (fun d=>[(4,pV b4)]) (fun d=>[aA aU 2 a2 (c.ms.eraseIdx i).length c2 (flat aH (c.ms.eraseIdx i)),pt b4 ((aW.mk (c.ar+1) (c.ms.eraseIdx i) d).cells a2 c2) dP]) (fun d=>d=if c.drain=n then -1 else c.drain) ?_ ?_)
 ·refine g_ ?_
  refine CE Z (fun h5=>?_) (fun h5=>CK ?_)
  ·refine aw ?_
   refine VG (VO.st 1 (cs':=(aW.mk (c.ar+1) (c.ms.eraseIdx i) (-1)).cells a2 c2) Z Z Z Z D1 Z Z ?_)
   refine aw ?_
   exact⟨-1,by rw[if_pos h5],aP,(bm [0,0]).ah⟩
  ·exact⟨c.drain,by rw[if_neg h5],aP,(bm [0,0]).ah⟩
 rintro d hd
 have hW:im c n=(⟨c.ar+1,c.ms.eraseIdx i,d⟩,0):=by rw[im,if_neg hM,if_neg Bj,hi,hd];rfl
 refine aw ?_
 refine VG (VL 1 ((aW.mk (c.ar+1) (c.ms.eraseIdx i) d).cells a2 c2) Z Z Z Z ?_)
 refine VG (VT (vs:=(aW.mk (c.ar+1) (c.ms.eraseIdx i) d).cells a2 c2) (cs':=(aW.mk (c.ar+1) (c.ms.eraseIdx i) d).cells a2 c2) 1 Z Z Z Z (NR _) Z Z Z ?_)
 refine aw ?_
 exact CR (aq.dB 4 5 Z Z Z (ax.many (ds:=(aW.mk (c.ar+1) (c.ms.eraseIdx i) d).cells a2 c2) 1 Z Z) Z (L':=[aA aU 2 a2 (c.ms.eraseIdx i).length c2 (flat aH (c.ms.eraseIdx i))]) (IP 0 Z aa.nil).ah Qg)
theorem Sp(h:aV aH 2 Fr w a c.ms)(hl:c.ms.length≤1000000)(n:Int):az Tryz.prog 119 [.agg (c.cells a cap).toArray,.int .i64 n] Fr w [] (zh (gh c n)):=by
 have hpl:=ug c.ms n
 refine TF 32 Tryz.func119 Z ym aD Z Z ?_
 refine CS (CG (VG (VB (vs:=c.cells a cap) Z fun b=>VG (VO.alloc Z fun b4=>?_))))
 refine ae ?_
 refine ux ?_
 refine H2 ?_
 rintro _ _ ⟨ma,mc,rfl,rfl⟩
 by_cases hf:ia c=0
 rotate_left
 ·have hf2:mL c=(fX,2):=by rw[mL,if_pos hf]
  rw[hf2]
  refine aw ?_
  refine H3 ?_
  refine aw ?_
  refine VC.dH Z (fun _=>?_) (fun e=>absurd e yo)
  refine tj ?_
  refine aw ?_
  refine vV ?_
  exact CR (aq.dB 4 5 Z Z Z (ax.many (ds:=fX.cells none 0) 1 Z Z) Z (L':=[aA aU 2 none 0 0 (flat aH [])]) (aa.dM aa.nil).ah (by rw[gh,if_pos hf];exact⟨none,0,Z,Z⟩))
 have hf2:mL c=(⟨c.ar+1,c.ms,c.drain⟩,0):=by rw[mL,if_neg D7]
 obtain⟨hce,hep⟩:=B6 hf
 obtain⟨g1,g2,g3,g4⟩:=qV hce
 have hM:¬ia c≠0:=by rw[hf];decide
 rw[hf2]
 refine aw ?_
 refine H4 ?_
 refine aw ?_
 refine VC.dH Z (fun e=>absurd Z e) (fun _=>CK ?_)
 refine IK ?_
 refine Pm ?_
 by_cases hlv:lH c n=0
 rotate_left
 ·rw[if_pos hlv]
  refine aw ?_
  refine VC.dH Z (fun _=>?_) (fun e=>absurd e hlv)
  refine tj ?_
  refine aw ?_
  refine vV ?_
  exact CR (aq.dB 4 5 Z Z Z (ax.many (ds:=fX.cells none 0) 1 Z Z) Z (L':=[aA aU 2 none 0 0 (flat aH [])]) (aa.dM aa.nil).ah (by rw[gh,if_neg hM,if_pos hlv];exact⟨none,0,Z,Z⟩))
 rw[if_neg Bj]
 refine aw ?_
 refine VC.dH Z (fun e=>absurd hlv e) (fun _=>CK ?_)
 refine aw ?_
 refine VG (VO.ld 2 Z Z Z Z ?_)
 refine aw ?_
 refine VC.dH Z (fun h5=>?_) (fun h5=>CK ?_)
 ·refine tj ?_
  refine vV ?_
  exact CR (aq.dB 4 5 Z Z Z (ax.many (ds:=fX.cells none 0) 1 Z Z) Z (L':=[aA aU 2 none 0 0 (flat aH [])]) (aa.dM aa.nil).ah (by rw[gh,if_neg hM,if_neg Bj,if_pos h5];exact⟨none,0,Z,Z⟩))
 have hW:gh c n=(⟨c.ar+1,c.ms,n⟩,0):=by rw[gh,if_neg hM,if_neg Bj,if_neg yd]
 refine aw ?_
 refine VG (VO.st 1 (cs':=(aW.mk (c.ar+1) c.ms n).cells ma mc) Z Z Z Z D1 Z Z ?_)
 refine aw ?_
 refine VG (VL 1 ((aW.mk (c.ar+1) c.ms n).cells ma mc) Z Z Z Z ?_)
 refine VG (VT (vs:=(aW.mk (c.ar+1) c.ms n).cells ma mc) (cs':=(aW.mk (c.ar+1) c.ms n).cells ma mc) 1 Z Z Z Z (NR _) Z Z Z ?_)
 refine aw ?_
 exact CR (aq.dB 4 5 Z Z Z (ax.many (ds:=(aW.mk (c.ar+1) c.ms n).cells ma mc) 1 Z Z) Z (L':=[aA aU 2 ma c.ms.length mc (flat aH c.ms)]) (IP 0 Z aa.nil).ah (by rw[hW];exact⟨ma,mc,Z,Z⟩))
end
end Cl
namespace Cl
open Go Vg T Api Ch Rep
attribute [local irreducible] VO VC VA
abbrev kx:TypeId:=75
def ko(m:aE):List Value:=m.heard.map (Value.int .i64)
def pE(m:aE):List Value:=m.whole.map Value.bool
def c_(m:aE)(a:Option Addr)(c:Nat):List Value:=[.int .i64 m.nodes,.int .i64 m.fI]++m.ch.cells a c++ko m++pE m
structure aE.Ok(m:aE):Prop where
 n0:1≤m.nodes
 n1:m.nodes≤6
 p0:0≤m.fI
 p1:m.fI≤1000000
 ml:m.ch.ms.length≤7
 mr:∀x∈m.ch.ms,0≤x.1∧x.1<6
 hl:m.heard.length=6
 wl:m.whole.length=6
 hr:∀x∈m.heard,0≤x∧x≤1099511627776
abbrev gM:=cz×(Option Addr×Nat)
def dF(x:gM):List Value:=.int .i64 x.1.1::x.1.2.1.cells (x.2.1,x.1.2.2.length,x.2.2)
theorem Db(x:gM):(dF x).length=30:=rfl
def iV(x:gM):HP:=aA aU 2 x.2.1 x.1.2.2.length x.2.2 (flat aH x.1.2.2)
def nG(S:List cz)(v:Value)(L:List HP)(H:List HP):Prop:=∃(X:List gM) (a:Option Addr) (c:Nat),X.map Prod.fst=S∧v=.slice a X.length c∧L=H++(aA gJ 30 a X.length c (flat dF X)::X.map iV)
theorem Ly{c:aW}{a:Option Addr}{cap:Nat}(h:aV aH 2 Fr w a c.ms)(hl:c.ms.length≤1000000):az Tryz.prog 28 [.agg (c.cells a cap).toArray] Fr w []
  (fun v L=>∃a' c',v=.agg (c.cells a' c').toArray∧L=[aA aU 2 a' c.ms.length c' (flat aH c.ms)]):=by
 refine TF 8 Tryz.func28 Z ym aD Z Z ?_
 refine CS (CG (VG (VB (vs:=c.cells a cap) Z (fun b=>VG (VO.alloc Z fun d=>VG (VN ?_))))))
 refine dz ?_
 refine O9 ?_
 refine VG (VO.append (m:=c.ms.length) (news:=flat aH c.ms) 0 Z Z Z Z Z Z Z (aV.row cn h) (qd vc _) P_ yd fun a' c' _=>?_)
 rw[di,nN]
 refine aj ?_
 refine VG (VO.st 2 (cs':=c.cells a' c') Z Z Z Z uC Z Z (VG (VN ?_)))
 refine CS (CG (VG (VL 2 (c.cells a' c') Z Z Z Z (VG (VT (vs:=c.cells a' c') (cs':=c.cells a' c') 1 Z Z Z Z (NR _) Z Z Z (VG (VN ?_)))))))
 exact HU
theorem F1(n:Int):az Tryz.prog 108 [.int .i64 n] Fr w [] (fun v L=>v=.int .i64 (bA n)∧L=[]):=by
 refine TF 6 Tryz.func108 Z ym aD Z Z ?_
 refine ae ?_
 exact CR (aq.int 2 Z Z Qh ER ⟨rfl,Z⟩)
section
variable {p:Nat} {M:aE} {a:Option Addr} {c:Nat}
theorem LK(ok:M.Ok)(h:bu Fr w p (c_ M a c)):az Tryz.prog 27 [.pointer (some ⟨p,0,none⟩)] Fr w [] (fun v L=>v=.bool true∧L=[]):=by
 have:=ok.n0
 refine TF 12 Tryz.func27 Z ym aD Z Z ?_
 refine Ef ?_
 refine jH ?_
 exact CR (aq.bool (b:=true) 2 Z Z (DT yd) ER ⟨rfl,Z⟩)
theorem LH(h:bu Fr w p (c_ M a c))(n:Int):az Tryz.prog 181 [.pointer (some ⟨p,0,none⟩),.int .i64 n] Fr w [] (fun v L=>v=.bool (M.isNode n)∧L=[]):=by
 refine TF 15 Tryz.func181 Z ym aD Z Z ?_
 refine aw ?_
 by_cases h1:0≤n
 ·refine VG (VY 7 true Z (DT h1) ?_)
  refine jH ?_
  exact CR (aq.bool 4 Z Z (by rw[aE.isNode,DT h1];rfl) ER ⟨rfl,Z⟩)
 ·refine VG (VY 7 false Z (DF h1) ?_)
  refine aw ?_
  exact CR (aq.bool 4 Z Z (by rw[aE.isNode,DF h1];rfl) ER ⟨rfl,Z⟩)
theorem UQ:((c_ M a c).drop 2).take 3=M.ch.cells a c:=rfl
theorem LL(ok:M.Ok)(h:bu Fr w p (c_ M a c))(hm:aV aH 2 Fr w a M.ch.ms)(n:Int):az Tryz.prog 116 [.pointer (some ⟨p,0,none⟩),.int .i64 n] Fr w [] (fun v L=>v=.bool (cm M.ch n).2∧L=[]):=by
 have hl:=ok.ml
 refine TF 17 Tryz.func116 Z ym aD Z Z ?_
 refine aw ?_
 refine H5 ?_
 refine aw ?_
 refine VG (VV (fun Fr w hF hw _=>G9 Fr w (hm.of hF hw) yd n) Z ?_)
 refine aw ?_
 exact xT
theorem FW(ok:M.Ok)(h:bu Fr w p (c_ M a c))(hm:aV aH 2 Fr w a M.ch.ms)(to:Int):az Tryz.prog 175 [.pointer (some ⟨p,0,none⟩),.int .i64 to] Fr w []
  (fun v L=>∃g,v=.agg (dF (gu M.ch to,g)).toArray∧L=[iV (gu M.ch to,g)]):=by
 have hl:=ok.ml
 refine TF 13 Tryz.func175 Z ym aD Z Z ?_
 refine CS (CG (VG (VO.alloc Z fun d=>?_)))
 refine aw ?_
 refine H5 ?_
 refine Pn ?_
 rintro _ _ ⟨ma,mc,rfl,rfl⟩
 refine VG (VI (LB (pv:=[(0,.int .i64 8),(11,.agg (M.ch.cells ma mc).toArray)]) ((iF M.ch).cells (ma,M.ch.ms.length,mc)) Z Z Z ym Z) ?_)
 refine VG (VI (LB (pv:=[(0,.int .i64 to),(1,.agg ((iF M.ch).cells (ma,M.ch.ms.length,mc)).toArray)]) (dF (gu M.ch to,(ma,mc))) Z Z Z ym Z) ?_)
 refine VG (VT (vs:=dF (gu M.ch to,(ma,mc))) (cs':=dF (gu M.ch to,(ma,mc))) 1 Z Z Z Z (NR _) Z Z Z ?_)
 refine aw ?_
 exact CR (aq.cell 4 Z Z Z (ax.many 1 Z Z) (IP 0 Z aa.nil).ah ⟨(ma,mc),Z,Z⟩)
theorem u_(ok:M.Ok):(c_ M a c).length=17:=by
 show(_::_::_::_::_::(ko M++pE M)).length=17
 simp[ko,pE,ok.hl,ok.wl]
theorem UT(ok:M.Ok){k:Nat}{b:Bool}(h:M.whole[k]?=some b):(c_ M a c)[11+k]?=some (.bool b):=by
 have hh:(ko M).length=6:=by simp[ko,ok.hl]
 show(_::_::_::_::_::(ko M++pE M))[11+k]?=_
 rw[show 11+k=(6+k)+1+1+1+1+1 from by omega]
 simp only[rY]
 rw[qI yd,hh,show 6+k-6=k from by omega,pE,eh,h];rfl
theorem Lo(ok:M.Ok){k:Nat}{b:Int}(h:M.heard[k]?=some b):(c_ M a c)[5+k]?=some (.int .i64 b):=by
 have hk:=(bY.1 h).1
 rw[ok.hl] at hk
 have hh:(ko M).length=6:=by simp[ko,ok.hl]
 show(_::_::_::_::_::(ko M++pE M))[5+k]?=_
 rw[show 5+k=k+1+1+1+1+1 from by omega]
 simp only[rY]
 rw[nL yd,ko,eh,h];rfl
theorem Cr(ok:M.Ok){k:Nat}(hk:k<6)(b:Bool):(c_ M a c).set (11+k) (.bool b)=c_ { M with whole:=M.whole.set k b } a c:=by
 have hh:(ko M).length=6:=by simp[ko,ok.hl]
 show(_::_::_::_::_::(ko M++pE M)).set (11+k) _=_::_::_::_::_::(ko M++pE { M with whole:=M.whole.set k b })
 rw[show 11+k=(6+k)+1+1+1+1+1 from by omega]
 simp only[tu]
 rw[List.set_append_right _ _ yd,hh,show 6+k-6=k from by omega,pE,pE,iZ]
theorem Lp(ok:M.Ok){k:Nat}(hk:k<6)(b:Int):(c_ M a c).set (5+k) (.int .i64 b)=c_ { M with heard:=M.heard.set k b } a c:=by
 have hh:(ko M).length=6:=by simp[ko,ok.hl]
 show(_::_::_::_::_::(ko M++pE M)).set (5+k) _=_::_::_::_::_::(ko { M with heard:=M.heard.set k b } ++ pE M)
 rw[show 5+k=k+1+1+1+1+1 from by omega]
 simp only[tu]
 rw[List.set_append_left _ _ yd,ko,ko,iZ]
theorem aE.Ok.Dx(ok:M.Ok){n:Int}(h:0≤n∧n<6):∃k:Nat,n=k∧k<6∧M.whole[k]?=some (M.rK n):=by
 obtain⟨k,rfl⟩:∃k:Nat,n=k:=⟨n.toNat,by omega⟩
 refine⟨k,Z,by omega,?_⟩
 have hk:k<M.whole.length:=by rw[ok.wl];omega
 unfold aE.rK
 rw[dZ,GE hk];rfl
theorem aE.Ok.TP(ok:M.Ok){n:Int}(h:0≤n∧n<6):∃k:Nat,n=k∧k<6∧M.heard[k]?=some (M.rj n)∧0≤M.rj n∧M.rj n≤1099511627776:=by
 obtain⟨k,rfl⟩:∃k:Nat,n=k:=⟨n.toNat,by omega⟩
 have hk:k<M.heard.length:=by rw[ok.hl];omega
 have e:M.heard[k]?=some (M.rj (k:Int)):=by
  unfold aE.rj
  rw[dZ,GE hk];rfl
 exact⟨k,Z,by omega,e,ok.hr _ (ME e)⟩
theorem FY(ok:M.Ok)(h:bu Fr w p (c_ M a c))(hm:aV aH 2 Fr w a M.ch.ms)(n:Int):az Tryz.prog 109 [.pointer (some ⟨p,0,none⟩),.int .i64 n] Fr w [] (fun v L=>v=.bool (M.mf n)∧L=[]):=by
 have hl:=ok.ml
 refine TF 31 Tryz.func109 Z ym aD Z Z ?_
 refine oA ?_
 refine VC.loop (σ:=Nat) (fun k=>[(0,pV p),(1,.int .i64 n),(11,.slice a M.ch.ms.length c),(12,.int .i64 M.ch.ms.length),(13,.int .i64 (k:Int))]) (fun _=>[]) (fun k=>k≤M.ch.ms.length∧(M.ch.ms.take k).any (fun x=>!decide (x.1=n)&&M.rK x.1)=false) (fun k=>M.ch.ms.length-k) 0
  ⟨bU _,by rw[r6];rfl⟩ aP ER ?_
 rintro k ⟨hk,hno⟩
 refine ae ?_
 refine CP (p:=(k:Int)<M.ch.ms.length) Z (fun h1=>CK ?_) (fun h1=>CX ?_)
 rotate_left
 ·rw[r5 yd] at hno
  refine ae ?_
  exact CR (aq.tmp 4 Z Z aa.nil.ah ⟨by rw[aE.mf,hno],Z⟩)
 obtain⟨x,hx⟩:∃x,M.ch.ms[k]?=some x:=⟨_,GE yd⟩
 obtain⟨xb,xo,hxa,ra,rc⟩:=aV.rd (X:=⟨Tryz.prog,tab,aD,31,Fr,w⟩) hm hx
 subst hxa
 obtain⟨j,hj,hj6,hw⟩:=ok.Dx (ok.mr x (ME hx))
 have next:(!decide (x.1=n)&&M.rK x.1)=false→(M.ch.ms.take (k+1)).any (fun x=>!decide (x.1=n)&&M.rK x.1)=false:=fun e=>by
  rw[jb,hx,List.any_append,hno];simpa using e
 refine pL ?_
 refine uw ?_
 refine VG (VO.alloc Z fun b6=>?_)
 refine DR ?_
 refine ae ?_
 refine CD (ts 0 13 .nil) ym yr ?_
 refine ee ?_
 by_cases h2:x.1=n
 ·refine AG (AY 21 false Z (by rw[bne_eq_false_iff_eq];exact h2) ?_)
  refine ee ?_
  refine js ?_
  refine fL ?_
  exact⟨k+1,⟨by omega,next (by rw[DT h2];rfl)⟩,by dsimp only;omega,SC Z (SC Z (SC Z (SC Z (Sub.int Z yd (SN _))))),aa.nil.ah⟩
 refine AG (AY 21 true Z (by rw[bne_iff_ne];exact h2) ?_)
 refine ee ?_
 refine AG (AI Z (kq j Z Z Z Z Z hj yd) ?_)
 refine AG (VA.load Z Z Z (ax.aC h (v:=.bool (M.rK x.1)) (by show(c_ M _ c)[11+j*1]?=_;rw[tw];exact UT ok hw)) ?_)
 refine ee ?_
 refine CC Z (fun h3=>?_) (fun h3=>CK ?_)
 ·refine ae ?_
  refine CR (aq.tmp 4 Z Z aa.nil.ah ⟨?_,Z⟩)
  have:M.mf n=true:=by
   rw[aE.mf,Bn]
   exact⟨x,ME hx,by rw[DF h2,h3];rfl⟩
  rw[this]
 refine fL ?_
 exact⟨k+1,⟨by omega,next (by rw[h3,ki])⟩,by dsimp only;omega,SC Z (SC Z (SC Z (SC Z (Sub.int Z yd (SN _))))),aa.nil.ah⟩
theorem wP{n k b M:Nat}(h:n≤k)(hk:k*b≤M):n*b≤M:=pQ (r7 b h) hk
theorem aa.last{H:HP}{L:List HP}:aa (H::L) (L ++ [H]):=aa.perm (by simpa using(jL (l₁:=[H]) (l₂:=L)))
theorem z_(ok:M.Ok)(h:bu Fr w p (c_ M a c))(hm:aV aH 2 Fr w a M.ch.ms):az Tryz.prog 111 [.pointer (some ⟨p,0,none⟩)] Fr w [] (fun v L=>nG M.all v L []):=by
 have hn0:=ok.n0
 have hn1:=ok.n1
 refine TF 20 Tryz.func111 Z ym aD Z Z ?_
 refine ae ?_
 refine VC.loop (σ:=List gM×Option Addr×Nat) (fun x=>[(0,pV p),(3,.slice x.2.1 x.1.length x.2.2),(4,.int .i64 x.1.length)]) (fun x=>aA gJ 30 x.2.1 x.1.length x.2.2 (flat dF x.1)::x.1.map iV) (fun x=>x.1.length≤M.nodes.toNat∧x.1.map Prod.fst=(List.range x.1.length).map fun(n:Nat)=>gu M.ch (n:Int)) (fun x=>M.nodes.toNat-x.1.length) ([],none,0)
  ⟨bU _,rfl⟩ aP (aa.dM aa.nil).ah ?_
 rintro⟨X,sa,sc⟩ ⟨hk,hX⟩
 dsimp only at hk hX ⊢
 refine oA ?_
 refine CP (p:=(X.length:Int)<M.nodes) Z (fun h1=>CK ?_) (fun h1=>CX ?_)
 rotate_left
 ·refine ae ?_
  refine CR (aq.tmp 2 Z Z ER ⟨X,sa,sc,?_,Z,Z⟩)
  rw[hX,aE.all,show M.nodes.toNat=X.length from by omega]
 refine ae ?_
 refine VG (VK (Lc:=[]) (fun Fr w hF hw _=>FW Fr w ok (h.of hF hw) (hm.of hF hw) X.length) Z Z ?_)
 rintro _ _ ⟨g,rfl,rfl⟩
 refine VG (VO.buildSlice (pv:=[(0,.agg (dF (gu M.ch X.length,g)).toArray)]) (dF (gu M.ch X.length,g)) Z Z Z Z yo (ji Z Z Z) fun sb=>?_)
 refine VG (VO.append (m:=1) (news:=dF (gu M.ch X.length,g)) 2 Z Z Z Z Z Z Z (fv.pt 0 Z Z Z) Z (wP (k:=1000) yd yo) yd fun a2 c2 hc2=>?_)
 refine fL ?_
 have hlen:(X ++ [(gu M.ch X.length,g)]).length=X.length+1:=by simp
 refine⟨(X ++ [(gu M.ch X.length,g)],a2,c2),⟨by dsimp only;omega,?_⟩,by dsimp only;omega,SC Z (SC (by dsimp only;rw[hlen];rfl) (Sub.int Z f_ (SN _))),?_⟩
 ·dsimp only
  rw[hlen,hU,hX,v8,hU];rfl
 ·dsimp only
  rw[hlen,jU,hU]
  exact(aa.cons (aa.tl.trans aa.last)).ah
end
end Cl
namespace Cl
open Go Vg T Api Ch Rep
attribute [local irreducible] VO VC VA
def nw(p:Nat)(M:aE)(a:Option Addr)(c:Nat):List HP:=[pt p (c_ M a c) kx,aA aU 2 a M.ch.ms.length c (flat aH M.ch.ms)]
def cJ(p:Nat)(M:aE):HP:=hex fun x:Option Addr×Nat=>cR (nw p M x.1 x.2)
theorem ba.au(p:Nat)(M:aE):ba (ι:=Option Addr×Nat) (cJ p M) (fun _=>True) (fun x=>nw p M x.1 x.2):=fun w ids ⟨x,h⟩ hn=>⟨x,trivial,ids,h,hn,fun _ h=>h⟩
theorem aa.au{p:Nat}{M:aE}{L K:List HP}(x:Option Addr×Nat)(h:aa L (nw p M x.1 x.2++K)):aa L (cJ p M::K):=aa.ex (f:=fun x:Option Addr×Nat=>cR (nw p M x.1 x.2)) x (aa.sep h)
theorem aa.E1{R A:List HP}:aa (R++A) A:=aa.app (M:=[]) aa.nil aa.refl
theorem uP{p:Nat}{M:aE}{a:Option Addr}{c:Nat}{A R:List HP}:aa (A++(nw p M a c++R)) (cJ p M::A):=
 (aa.perm jL).trans (aa.au (a,c) ((aa.of_eq (eL _ _ _)).trans (aa.app aa.refl aa.E1)))
theorem zx{α:Type}(c:α→List Value)(x:α):flat c [x]=c x:=by simp[flat]
theorem Gi{p:Nat}{M:aE}{a:Option Addr}{c:Nat}{x:gM}{sb:Nat}{R:List HP}:aa (pt sb (dF x) gJ::iV x::(nw p M a c++R)) (cJ p M::aA gJ 30 (some ⟨sb,0,none⟩) 1 1 (flat dF [x]) :: [x].map iV):=by
 rw[zx]
 exact(aa.Dh (n:=1) (by rw[Db]) (aa.refl (L:=pt sb (dF x) gJ::iV x::(nw p M a c++R)))).trans (uP (A:=[_,_]))
theorem ry{p:Nat}{M:aE}{a:Option Addr}{c:Nat}{R:List HP}:aa (nw p M a c++R) (cJ p M::aA gJ 30 none 0 0 (flat dF [])::([]:List gM).map iV):=
 (aa.dM (aa.refl (L:=nw p M a c++R))).trans (uP (A:=[aA gJ 30 none 0 0 []]))
theorem xv{v:Value}{L H:List HP}(hv:v=.slice none 0 0)(hL:L=H++(aA gJ 30 none 0 0 (flat dF [])::([]:List gM).map iV)):nG [] v L H:=⟨[],none,0,rfl,hv,hL⟩
theorem Df{v:Value}{L H:List HP}{x:gM}{sb:Nat}(hv:v=.slice (some ⟨sb,0,none⟩) 1 1)(hL:L=H++(aA gJ 30 (some ⟨sb,0,none⟩) 1 1 (flat dF [x]) :: [x].map iV)):nG [x.1] v L H:=⟨[x],some ⟨sb,0,none⟩,1,rfl,hv,hL⟩
theorem vl{ms:List aR}{n:Int}(h:0≤placeOf ms n):∃(i:Nat) (m:aR),placeOf ms n=i∧i<ms.length∧ms[i]?=some m∧m.1=n:=by
 rcases ug ms n with e | h
 ·omega
 ·exact h
theorem zZ{c:aW}{n:Int}(h:lH c n=0):0≤placeOf c.ms n∧c.ms.length≠1:=by
 unfold lH at h
 by_cases p:placeOf c.ms n<0
 ·rw[if_pos p] at h;exact absurd h yo
 ·refine⟨by omega,fun e=>?_⟩
  rw[if_neg p,if_pos e] at h;exact absurd h yo
theorem xK{c:aW}{n:Int}(h:(im c n).2=0):ia c=0∧lH c n=0∧im c n=(⟨c.ar+1,c.ms.eraseIdx (placeOf c.ms n).toNat,if c.drain=n then -1 else c.drain⟩,0):=by
 unfold im at h ⊢
 by_cases h1:ia c≠0
 ·rw[if_pos h1] at h;exact absurd h yo
 rw[if_neg h1] at h ⊢
 by_cases h2:lH c n≠0
 ·rw[if_pos h2] at h;exact absurd h h2
 rw[if_neg h2]
 exact⟨vY.1 h1,vY.1 h2,Z⟩
theorem xJ{c:aW}{n:Int}(h:(e8 c n).2=0):ia c=0∧ow n=true∧placeOf c.ms n<0∧e8 c n=(⟨c.ar+1,c.ms ++ [(n,c.ar+1)],c.drain⟩,0):=by
 unfold e8 at h ⊢
 by_cases h1:ia c≠0
 ·rw[if_pos h1] at h;exact absurd h yo
 rw[if_neg h1] at h ⊢
 by_cases h2:ow n=false
 ·rw[if_pos h2] at h;exact absurd h yo
 rw[if_neg h2] at h ⊢
 by_cases h3:0≤placeOf c.ms n
 ·rw[if_pos h3] at h;exact absurd h yo
 rw[if_neg h3]
 exact⟨vY.1 h1,by simpa using h2,by omega,Z⟩
theorem zr{c:aW}{n:Int}(h:(gh c n).2=0):ia c=0∧lH c n=0∧c.drain=-1∧gh c n=(⟨c.ar+1,c.ms,n⟩,0):=by
 unfold gh at h ⊢
 by_cases h1:ia c≠0
 ·rw[if_pos h1] at h;exact absurd h yo
 rw[if_neg h1] at h ⊢
 by_cases h2:lH c n≠0
 ·rw[if_pos h2] at h;exact absurd h h2
 rw[if_neg h2] at h ⊢
 by_cases h3:c.drain≠-1
 ·rw[if_pos h3] at h;exact absurd h yo
 rw[if_neg h3]
 exact⟨vY.1 h1,vY.1 h2,vY.1 h3,Z⟩
theorem aE.Ok.place{M:aE}(ok:M.Ok){n:Int}(h:0≤placeOf M.ch.ms n):0≤n∧n<6:=by
 obtain⟨i,m,_,_,h2,rfl⟩:=vl h
 exact ok.mr m (ME h2)
theorem aE.Ok.gone{M:aE}(ok:M.Ok){n:Int}(h:M.kB n=0):(M.gone n).Ok:=by
 obtain⟨_,_,e⟩:=xK h
 have e1:(M.gone n).ch=⟨M.ch.ar+1,M.ch.ms.eraseIdx (placeOf M.ch.ms n).toNat,if M.ch.drain=n then -1 else M.ch.drain⟩:=by show(im M.ch n).1=_;rw[e]
 refine⟨ok.n0,ok.n1,ok.p0,ok.p1,?_,?_,ok.hl,by show(M.whole.set _ _).length=6;rw[iB,ok.wl],ok.hr⟩
 ·rw[e1];exact pQ (List.length_eraseIdx_le _ _) ok.ml
 ·rw[e1];exact fun x hx=>ok.mr x (List.mem_of_mem_eraseIdx hx)
theorem aE.Ok.out{M:aE}(ok:M.Ok)(n:Int):(M.out n).Ok:=by
 unfold aE.out
 split
 ·exact ok
 ·rename_i h;exact ok.gone (vY.1 h)
theorem sS(n:Int):0≤bA n∧bA n≤1099511627776:=by unfold bA;omega
theorem aE.Ok.iv{M:aE}(ok:M.Ok)(n now:Int):(M.iv n now).Ok:=
 ⟨ok.n0,ok.n1,ok.p0,ok.p1,ok.ml,ok.mr,by show(M.heard.set _ _).length=6;rw[iB,ok.hl],ok.wl,fun x hx=>by
  rcases lP hx with h | h
  ·exact ok.hr x h
  ·rw[h];exact sS now⟩
theorem aE.Ok.vK{M:aE}(ok:M.Ok)(n:Int):(M.vK n).Ok:=
 ⟨ok.n0,ok.n1,ok.p0,ok.p1,ok.ml,ok.mr,ok.hl,by show(M.whole.set _ _).length=6;rw[iB,ok.wl],ok.hr⟩
theorem aE.Ok.take{M:aE}(ok:M.Ok)(from_:Int)(f:ay)(now:Int):(M.take from_ f now).1.Ok:=by
 unfold aE.take
 split
 ·exact ok
 split
 ·exact ok
 split
 ·split
  ·exact ok.iv _ _
  split
  ·exact(ok.iv _ _).vK _
  ·exact ok.iv _ _
 split
 ·split
  ·exact ok
  split<;>exact ok
 split
 ·split
  ·rename_i h;exact ok.gone h.2.2
  ·exact ok
 ·exact ok
section
variable {p:Nat} {M:aE}
theorem FZ(ok:M.Ok)(n:Int):az Tryz.prog 110 [.pointer (some ⟨p,0,none⟩),.int .i64 n] Fr w [cJ p M] (fun v L=>v=.int .i64 (M.kB n)∧L=[cJ p (M.out n)]):=by
 have hl:=ok.ml
 refine TF 28 Tryz.func110 Z ym aD Z Z ?_
 refine A8 ?_
 rintro⟨a,c⟩ -
 show VC _ _ _ (nw p M a c) _
 unfold nw
 refine aj ?_
 refine A9 ?_
 refine aj ?_
 refine VG (VK (Lc:=[]) (fun Fr w hF hw hS=>aci Fr w (c:=M.ch) (aV.aA cn (hS.at_ 1 Z)) yd n) Z Z ?_)
 rintro _ _ ⟨wa,wc,rfl,rfl⟩
 refine aw ?_
 refine VG (VO.alloc Z fun b5=>?_)
 refine VG (VT (vs:=(im M.ch n).1.cells wa wc) (cs':=(im M.ch n).1.cells wa wc) 0 Z Z Z Z (NR _) Z Z Z ?_)
 refine aw ?_
 refine VC.dH Z (fun he=>?_) (fun he=>CK ?_)
 ·refine aw ?_
  exact CR (aq.tmp 4 Z Z (aa.au (a,c) (IP 2 Z (IP 2 Z aa.nil))).ah ⟨rfl,by rw[aE.out,if_pos (show M.kB n≠0 from he)]⟩)
 obtain⟨hf,hlv,hW⟩:=xK he
 obtain⟨k,hk,hk6,_⟩:=ok.Dx (ok.place (zZ hlv).1)
 have ok1:=ok.gone he
 refine aw ?_
 refine VG (VL 0 ((im M.ch n).1.cells wa wc) Z Z Z Z ?_)
 refine aw ?_
 refine VG (VT (vs:=(im M.ch n).1.cells wa wc) (cs':=c_ { M with ch:=(im M.ch n).1 } wa wc) 2 Z Z Z Z IE Z Z Z ?_)
 refine aw ?_
 have ok2:({ M with ch:=(im M.ch n).1 }:aE).Ok:=⟨ok1.n0,ok1.n1,ok1.p0,ok1.p1,ok1.ml,ok1.mr,ok.hl,ok.wl,ok.hr⟩
 have hg:c_ (M.gone n) wa wc=c_ { ({ M with ch:=(im M.ch n).1 }:aE) with whole:=M.whole.set k false } wa wc:=by rw[aE.gone,show n.toNat=k from by omega]
 refine VG (VI (kq k Z Z Z Z Z hk hk6) ?_)
 refine VG (VO.st 2 (cs':=c_ (M.gone n) wa wc) Z Z Z Z (by show 0+11+k*1<_;rw[u_ ok2];omega) (by rw[hg,←Cr ok2 hk6];show _=(c_ _ wa wc).set (11+k) _;rw[show 11+k=0+11+k*1 from by omega];rfl) Z ?_)
 refine aw ?_
 exact CR (aq.int 4 Z Z he.symm (aa.au (M:=M.gone n) (wa,wc) (IP 2 Z (IP 1 Z aa.nil))).ah ⟨rfl,by rw[aE.out,if_neg (by rw[show M.kB n=0 from he];decide)]⟩)
end
end Cl
end Go.Proofs.YtkgfhabealjjpaaGreat
