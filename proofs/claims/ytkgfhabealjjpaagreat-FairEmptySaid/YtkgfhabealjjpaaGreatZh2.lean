/- Texts of the proof, put together and shortened. No condition. -/
import Derived.Test.YtkgfhabealjjpaaGreatZh1
set_option maxRecDepth 100000
set_option maxHeartbeats 16000000
set_option linter.unusedVariables false
set_option linter.unusedSectionVars false
set_option linter.unusedSimpArgs false
namespace Go.Proofs.YtkgfhabealjjpaaGreat
variable (Fr : Nat → Prop) (w : World)
namespace Win
open Go Vg T Api
attribute [local irreducible] VO VC VA
structure bz where
 cap:Int
 last:Int
 done:Int
 bO:Int
 jA:Int
def bz.cells(W:bz):List Value:=[.int .i64 W.cap,.int .i64 W.last,.int .i64 W.done,.int .i64 W.bO,.int .i64 W.jA]
abbrev ace:TypeId:=162
def bG(p:Nat)(W:bz):HP:=pt p W.cells ace
structure bz.Ok(W:bz):Prop where
 dL:1≤W.cap
 fO:W.cap≤16
 lD:0≤W.done
 jg:W.done≤W.last
 jY:W.last≤4096
 ik:0≤W.bO
 AA:W.bO≤W.last
 u3:0≤W.jA
 u4:W.jA≤4112
section
variable {p:Nat} {W:bz}
theorem gy(h:bu Fr w p W.cells)(hc:1≤W.cap):az Tryz.prog 124 [.pointer (some ⟨p,0,none⟩)] Fr w [] (fun v L=>v=.bool false∧L=[]):=by
 refine TF 12 Tryz.func124 Z ym aD Z Z ?_
 refine aj ?_
 refine VG (VO.split 5 rfl rfl (fun h=>by cases h) (fun _=>?_))
 refine oA ?_
 exact CR (aq.bool 2 Z Z ye ER ⟨rfl,Z⟩)
theorem pk(h:bu Fr w p W.cells)(hc:1≤W.cap):az Tryz.prog 84 [.pointer (some ⟨p,0,none⟩)] Fr w [] (fun v L=>v=.int .i64 W.last∧L=[]):=by
 refine TF 9 Tryz.func84 Z ym aD Z Z ?_
 refine aj ?_
 refine Hx ?_
 refine kg ?_
 refine oA ?_
 exact vL
theorem BV(h:bu Fr w p W.cells)(hc:1≤W.cap):az Tryz.prog 70 [.pointer (some ⟨p,0,none⟩)] Fr w [] (fun v L=>v=.int .i64 W.done∧L=[]):=by
 refine TF 9 Tryz.func70 Z ym aD Z Z ?_
 refine aj ?_
 refine Hx ?_
 refine kg ?_
 refine oA ?_
 exact vL
theorem CJ(h:bu Fr w p W.cells)(ok:W.Ok):az Tryz.prog 158 [.pointer (some ⟨p,0,none⟩)] Fr w [] (fun v L=>v=.int .i64 (W.done+W.cap)∧L=[]):=by
 have o1:=ok.dL;have o2:=ok.fO;have o3:=ok.lD;have o4:=ok.jg;have o5:=ok.jY
 refine TF 14 Tryz.func158 Z ym aD Z Z ?_
 refine aj ?_
 refine VG (VV (fun Fr w hF hs _=>gy Fr w (h.of hF hs) o1) Z ?_)
 refine kg ?_
 refine CS (CD (ts 0 10 .nil) ym yr ?_)
 refine rL ?_
 refine rM ?_
 refine bt ?_
 exact vL
theorem free_spec(h:bu Fr w p W.cells)(ok:W.Ok):az Tryz.prog 102 [.pointer (some ⟨p,0,none⟩)] Fr w [] (fun v L=>v=.int .i64 (max (min (W.done+W.cap) 4096-W.last) 0)∧L=[]):=by
 have o1:=ok.dL;have o2:=ok.fO;have o3:=ok.lD;have o4:=ok.jg;have o5:=ok.jY
 refine TF 14 Tryz.func102 Z ym aD Z Z ?_
 refine aj ?_
 refine VG (VV (fun Fr w hF hs _=>gy Fr w (h.of hF hs) o1) Z ?_)
 refine kg ?_
 refine CS (CD (.take 0 (ts 3 4 (.only 1 (.take 2 (ts 7 3 .nil))))) ym yr ?_)
 refine rL ?_
 refine AG (AR (fun Fr w hF hs hS=>CJ Fr w (h.of hF hs) ok) Z Z (by(try refine Pd.st ?_);(repeat(first|exact Pd.nil|exact Pd.fnil|refine Pd.inner ?_|refine Pd.skip yr ?_|refine zf (ax.aC (ax.aC h Z) Z) ?_|refine zf ((ax.aC h Z)) ?_|refine zc (ax.aC (ax.aC h Z) Z) ?_|refine zc ((ax.aC h Z)) ?_))) ?_)
 refine rL ?_
 refine AG (VA.xz Z Z Z (by split<;>omega) (by split<;>omega) ?_)
 refine bt ?_
 exact CR (aq.int 2 Z Z (by simp only[Int.min_def,Int.max_def];repeat' split<;>omega) ER ⟨rfl,Z⟩)
def bz.room(W:bz):Bool:=decide (W.last<W.done+W.cap)&&decide (W.last<4096)
theorem vo(ok:W.Ok)(hr:W.room=true):az Tryz.prog 163 [.pointer (some ⟨p,0,none⟩)] Fr w [bG p W] (fun v L=>v=.bool true∧L=[bG p { W with last:=W.last+1 }]):=by
 have o1:=ok.dL;have o2:=ok.fO;have o3:=ok.lD;have o4:=ok.jg;have o5:=ok.jY
 have hr1:W.last<W.done+W.cap∧W.last<4096:=by simpa[bz.room] using hr
 refine TF 13 Tryz.func163 Z ym aD Z Z ?_
 unfold bG
 refine aj ?_
 refine VG (VV (fun Fr w hF hs hS=>free_spec Fr w (hS.aC 0 Z) ok) Z ?_)
 refine aj ?_
 refine CC (t:=false) (by simp only[Vg.ev,Vg.look];simp[Int.min_def,Int.max_def];split<;>constructor<;>omega) (fun hh=>by cases hh) (fun _=>CK ?_)
 refine ta ?_
 refine VG (VO.st 0 (cs':=({ W with last:=W.last+1 }:bz).cells) Z Z Z Z (hZ Z) Z Z ?_)
 refine aj ?_
 exact vM
def bz.lT(W:bz)(i:Int):Bool:=decide (W.done<i)&&decide (i≤W.last)
def bz.gp(W:bz)(i:Int):bz:=if W.lT i then { W with done:=i } else W
theorem BH(ok:W.Ok)(i:Int):az Tryz.prog 226 [.pointer (some ⟨p,0,none⟩),.int .i64 i] Fr w [bG p W] (fun v L=>v=.bool (W.lT i)∧L=[bG p (W.gp i)]):=by
 have o1:=ok.dL
 refine TF 27 Tryz.func226 Z ym aD Z Z ?_
 unfold bG
 refine aj ?_
 refine DB ?_
 refine aj ?_
 refine VG (VY 7 false Z Z ?_)
 refine bW ?_
 by_cases h1:i≤W.done
 ·have hb:W.lT i=false:=by simp[bz.lT];omega
  refine VG (VY 15 true Z (DT h1) ?_)
  refine rR ?_
  exact Hy
 ·refine VG (VY 15 false Z (DF h1) ?_)
  refine bW ?_
  refine CP Z (fun h2=>?_) (fun h2=>CK ?_)
  ·have hb:W.lT i=false:=by simp[bz.lT];omega
   refine aj ?_
   exact Hy
  ·have hb:W.lT i=true:=by simp[bz.lT];omega
   refine aj ?_
   refine VG (VO.st 0 (cs':=({ W with done:=i }:bz).cells) Z Z Z Z (hZ Z) Z Z ?_)
   refine aj ?_
   exact Hy
theorem TA(ok:W.Ok)(g:Int):az Tryz.prog 245 [.pointer (some ⟨p,0,none⟩),.int .i64 g] Fr w [bG p W] (fun v L=>v=.tuple #[]∧L=[bG p { W with jA:=max W.jA (min g 4112) }]):=by
 have o1:=ok.dL
 refine TF 16 Tryz.func245 Z ym aD Z Z ?_
 unfold bG
 refine aj ?_
 refine DB ?_
 refine rS ?_
 refine VG (VO.st 0 (cs':=({ W with jA:=if W.jA<(if 4112<g then 4112 else g) then (if 4112<g then 4112 else g) else W.jA }:bz).cells) Z Z Z Z (hZ Z) Z Z ?_)
 refine aj ?_
 exact aq.void Z ER ⟨rfl,by rw[show max W.jA (min g 4112)=(if W.jA<(if 4112<g then 4112 else g) then (if 4112<g then 4112 else g) else W.jA) by split<;>split<;>omega];rfl⟩
theorem Jd(ok:W.Ok)(g:Int):az Tryz.prog 170 [.pointer (some ⟨p,0,none⟩),.int .i64 g] Fr w [bG p W] (fun v L=>v=.tuple #[]∧L=[bG p { W with bO:=min (max g 0) W.last }]):=by
 have o1:=ok.dL
 refine TF 16 Tryz.func170 Z ym aD Z Z ?_
 unfold bG
 refine aj ?_
 refine DB ?_
 refine rS ?_
 refine VG (VO.st 0 (cs':=({ W with bO:=if W.last<(if g<0 then 0 else g) then W.last else (if g<0 then 0 else g) }:bz).cells) Z Z Z Z (hZ Z) Z Z ?_)
 refine aj ?_
 exact aq.void Z ER ⟨rfl,by rw[show min (max g 0) W.last=(if W.last<(if g<0 then 0 else g) then W.last else (if g<0 then 0 else g)) by split<;>split<;>omega];rfl⟩
theorem Xd(ok:W.Ok):az Tryz.prog 243 [.pointer (some ⟨p,0,none⟩)] Fr w [bG p W] (fun v L=>v=.tuple #[]∧L=[bG p { W with bO:=W.last,jA:=0 }]):=by
 have o1:=ok.dL
 refine TF 14 Tryz.func243 Z ym aD Z Z ?_
 unfold bG
 refine aj ?_
 refine DB ?_
 refine rS ?_
 refine VG (VO.st 0 (cs':=({ W with bO:=W.last }:bz).cells) Z Z Z Z (hZ Z) Z Z ?_)
 refine aj ?_
 refine VG (VO.st 0 (cs':=({ W with bO:=W.last,jA:=0 }:bz).cells) Z Z Z Z (hZ Z) Z Z ?_)
 refine aj ?_
 exact vN
def bz.kA(W:bz):Bool:=decide (W.bO<W.last)&&decide (W.bO<W.jA)
def bz.next(W:bz):bz:=if W.kA then { W with bO:=W.bO+1 } else W
theorem sH(ok:W.Ok):az Tryz.prog 166 [.pointer (some ⟨p,0,none⟩)] Fr w [bG p W] (fun v L=>v=.tuple #[.int .i64 (if W.kA then W.bO+1 else 0),.bool W.kA]∧L=[bG p W.next]):=by
 have o1:=ok.dL;have o2:=ok.ik;have o3:=ok.AA;have o4:=ok.jY
 refine TF 39 Tryz.func166 Z ym aD Z Z ?_
 unfold bG
 refine mA ?_
 refine CS (CS (CD (.take 0 (.only 1 (ts 2 22 .nil))) ym yr ?_))
 refine bt ?_
 refine AG (AR (fun Fr w hF hs hS=>gy Fr w (hS.aC 0 Z) o1) Z Z yu ?_)
 refine bt ?_
 refine AG (AY 6 false Z Z ?_)
 refine ee ?_
 by_cases h1:W.last≤W.bO
 ·have hb:W.kA=false:=by simp[bz.kA];omega
  refine AG (AY 17 true Z (DT h1) ?_)
  refine ee ?_
  refine Ea ?_
  exact Hz
 ·refine AG (AY 17 false Z (DF h1) ?_)
  refine ee ?_
  refine CP Z (fun h2=>?_) (fun h2=>CK ?_)
  ·have hb:W.kA=false:=by simp[bz.kA];omega
   refine aj ?_
   exact Hz
  ·have hb:W.kA=true:=by simp[bz.kA];omega
   refine ta ?_
   refine VG (VO.st 0 (cs':=({ W with bO:=W.bO+1 }:bz).cells) Z Z Z Z (hZ Z) Z Z ?_)
   refine aj ?_
   exact Hz
theorem zn(h:bu Fr w p W.cells)(hc:1≤W.cap):az Tryz.prog 123 [.pointer (some ⟨p,0,none⟩)] Fr w [] (fun v L=>∃q,v=.pointer (some ⟨q,0,none⟩)∧L=[bG q W]):=by
 refine TF 9 Tryz.func123 Z ym aD Z Z ?_
 refine aj ?_
 refine Hx ?_
 refine rS ?_
 refine VG (VO.load Z Z (ax.jR (ds:=W.cells) h Z) ?_)
 refine VG (VO.alloc Z fun q=>?_)
 refine VG (VT (vs:=W.cells) 0 Z Z Z Z (NR _) Z Z Z ?_)
 exact IN
end
def bz.new(cap:Int):bz:=⟨cap,0,0,0,0⟩
theorem lK{c:Int}(h0:1≤c)(h1:c≤16):az Tryz.prog 48 [.int .i64 c,.int .i64 0,.int .i64 0] Fr w [] (fun v L=>∃q,v=.tuple #[.pointer (some ⟨q,0,none⟩),.int .i64 0]∧L=[bG q (bz.new c)]):=by
 refine TF 33 Tryz.func48 Z ym aD Z Z ?_
 refine aj ?_
 refine VG (VY 10 false Z (DF yd) ?_)
 refine bW ?_
 refine VG (VY 14 false Z (DF yd) ?_)
 refine bW ?_
 refine VG (VY 18 false Z Z ?_)
 refine bW ?_
 refine VG (VY 23 false Z Z ?_)
 refine tf ?_
 refine aj ?_
 refine VG (VI (LB (pv:=[(0,.int .i64 c),(1,.int .i64 0),(2,.int .i64 0),(3,.int .i64 0)]) (bz.new c).cells Z Z Z ym Z) ?_)
 refine VG (VB (vs:=(bz.new c).cells) Z fun q=>?_)
 refine aj ?_
 exact CR (aq.dh 6 7 Z Z Z ER ⟨q,Z,Z⟩)
theorem bz.CB{c:Int}(h0:1≤c)(h1:c≤16):(bz.new c).Ok:=⟨h0,h1,cd _,cd _,(by decide:(0:Int)≤4096),cd _,cd _,cd _,(by decide:(0:Int)≤4112)⟩
end Win
namespace Kv
open Go Vg T Api
attribute [local irreducible] VO VC VA
abbrev lQ:=List (ByteArray×(ByteArray×Int))
def nX(x:ByteArray×Int):Value:=.agg ([.string x.1,.int .i64 x.2]:List Value).toArray
def bb(r:iq):List Value:=[.int .i64 r.code,.string r.value,.int .i64 r.version,.int .i64 r.at_]
def jC:ByteArray:=⟨#[]⟩
def cF:iq:=⟨0,jC,0,0⟩
def iT(p:Nat)(S:lQ):HP:=hex fun b:Nat=>cR [pt p [.map (some b)] 228,fZ kZ nX b S]
theorem FK{Fr:Nat→Prop}{w:World}{p:Nat}{S:lQ}(h:a8 Fr [iT p S] w):∃b,bu Fr w p [.map (some b)]∧qM Fr w kZ nX b S:=by
 obtain⟨b,hb⟩:=h.ex
 have hs:=hb.sep
 exact⟨b,hs.aC 0 Z,hs.Aa 1 Z⟩
theorem ba.kv(p:Nat)(S:lQ):ba (ι:=Nat) (iT p S) (fun _=>True) (fun b=>[pt p [.map (some b)] 228,fZ kZ nX b S]):=fun w ids ⟨b,h⟩ hn=>⟨b,trivial,ids,h,hn,fun _ h=>h⟩
theorem aa.kv{L M:List HP}{p b:Nat}{S:lQ}(h:aa L (pt p [.map (some b)] 228::fZ kZ nX b S::M)):aa L (iT p S::M):=
 aa.ex (f:=fun b:Nat=>cR [pt p [.map (some b)] 228,fZ kZ nX b S]) b (aa.sep (Ls:=[pt p [.map (some b)] 228,fZ kZ nX b S]) h)
theorem a8.kv{Fr:Nat→Prop}{L:List HP}{w:World}{p b:Nat}{S:lQ}(h:a8 Fr L w)(i j:Nat)(hi:L[i]?=some (pt p [.map (some b)] 228))(hj:L[j]?=some (fZ kZ nX b S)):a8 Fr [iT p S] w:=by
 obtain⟨F,hs,hf⟩:=h
 obtain⟨ids1,s1,m1⟩:=hs.get hi
 obtain⟨ids2,s2,m2⟩:=hs.get hj
 refine⟨ids1++ids2,⟨ids1++ids2,[],by simp,⟨b,ids1,ids2,Z,s1,ids2,[],by simp,s2,Z⟩,Z⟩,fun c hc=>?_⟩
 rcases ez.1 hc with hc | hc
 ·exact hf c (m1 c hc)
 ·exact hf c (m2 c hc)
theorem Cf:kJ Tryz.prog 9 kZ:=kJ.string Tryz.underlying9
def l9(S:lQ)(k:ByteArray)(at_:Int):iq:=match bF S k with
 | none=>⟨2,jC,0,at_⟩
 | some (v,n)=>⟨1,v,n,at_⟩
def jX(S:lQ)(i:Int)(o:bB):lQ×iq:=
 if i<1∨4096<i∨dD o≠0 then (S,cF)
 else if o.kind=1 then (S,l9 S o.key i)
 else if o.kind=3 then match bF S o.key with
  | none=>(S,⟨2,jC,0,i⟩)
  | some _=>(eO S o.key,⟨1,jC,0,i⟩)
 else if o.kind=4∧((bF S o.key).getD (jC,0)).2≠o.version then (S,⟨3,((bF S o.key).getD (jC,0)).1,((bF S o.key).getD (jC,0)).2,i⟩)
 else (bV S o.key (o.value,i),⟨1,jC,i,i⟩)
theorem Aw(o:bB):az Tryz.prog 183 [.agg o.cells.toArray] Fr w [] (fun v L=>v=.bool (decide (o.kind=1)&&decide (dD o=0))∧L=[]):=by
 refine TF 11 Tryz.func183 Z ym aD Z Z ?_
 refine CS (CG (VG (VB (vs:=o.cells) Z (fun b=>VG (VN ?_)))))
 refine aj ?_
 refine VG (VO.split 6 Z Z (fun h1=>?_) (fun h1=>?_))
 ·have h1:o.kind=1:=eq_of_beq h1
  refine VG (VL 0 o.cells Z Z Z Z ?_)
  refine HA ?_
  refine aj ?_
  exact CR (aq.bool 2 Z Z (by simp[h1];rfl) aa.nil.ah ⟨rfl,Z⟩)
 ·have h1:o.kind≠1:=ne_of_beq_false h1
  refine aj ?_
  exact CR (aq.bool 2 Z Z yg aa.nil.ah ⟨rfl,Z⟩)
theorem lK:az Tryz.prog 89 [] Fr w [] (fun v L=>∃p,v=.pointer (some ⟨p,0,none⟩)∧L=[iT p []]):=by
 refine TF 4 Tryz.func89 Z ym aD Z Z ?_
 refine aj ?_
 refine VG (VO.vi (aQ.makeMap kZ nX) ?_)
 rintro _ _ ⟨b,rfl,rfl⟩
 refine aj ?_
 refine VG (VI (LB (pv:=[(0,.map (some b))]) [.map (some b)] Z Z Z ym Z) ?_)
 refine VG (VB (vs:=[.map (some b)]) Z fun p=>?_)
 refine aj ?_
 exact CR (aq.tmp 0 Z Z (aa.kv aa.refl).ah ⟨p,Z,Z⟩)
theorem gy{p:Nat}{S:lQ}(h:a8 Fr [iT p S] w):az Tryz.prog 249 [.pointer (some ⟨p,0,none⟩)] Fr w [] (fun v L=>v=.bool false∧L=[]):=by
 obtain⟨b,hp,hm⟩:=FK h
 refine TF 12 Tryz.func249 Z ym aD Z Z ?_
 refine DC ?_
 refine OE ?_
 refine DC ?_
 refine VG (VI (KY Tryz.underlying226 Z Z) ?_)
 refine aj ?_
 exact mB
theorem Cm{p:Nat}{S:lQ}(h:a8 Fr [iT p S] w)(k:ByteArray)(n:Int):
  az Tryz.prog 262 [.pointer (some ⟨p,0,none⟩),.string k,.int .i64 n] Fr w [] (fun v L=>v=.agg (bb (l9 S k n)).toArray∧L=[]):=by
 obtain⟨b,hp,hm⟩:=FK h
 refine TF 31 Tryz.func262 Z ym aD Z Z ?_
 refine aj ?_
 refine VG (VO.alloc Z fun r=>?_)
 refine aj ?_
 refine HB ?_
 refine kg ?_
 refine DC ?_
 refine VG (VO.ue (aQ.lookup Cf Tryz.underlying226 Z Z (a:=k) Z (dA.aC hm)) ?_)
 cases hg:bF S k with
 | none=>
  refine aj ?_
  refine VG (VO.alloc Z fun q=>?_)
  refine VG (VT (vs:=[.string jC,.int .i64 0]) 0 Z Z Z Z (NR _) Z Z Z ?_)
  refine rT ?_
  refine VG (VI (LB (pv:=[(0,.int .i64 2),(3,.int .i64 n)]) (bb ⟨2,jC,0,n⟩) Z Z Z ym Z) ?_)
  refine VG (VT (vs:=bb ⟨2,jC,0,n⟩) 1 Z Z Z Z (NR _) Z Z Z ?_)
  refine aj ?_
  exact CR (aq.cell 6 Z Z Z (ax.many (ds:=bb ⟨2,jC,0,n⟩) 1 Z Z) aa.nil.ah ⟨by rw[l9,hg],Z⟩)
 | some x=>
  obtain⟨v,m⟩:=x
  refine aj ?_
  refine VG (VO.alloc Z fun q=>?_)
  refine VG (VT (vs:=[.string v,.int .i64 m]) 0 Z Z Z Z (NR _) Z Z Z ?_)
  refine rS ?_
  refine VG (VI (LB (pv:=[(0,.int .i64 1),(1,.string v),(2,.int .i64 m),(3,.int .i64 n)]) (bb ⟨1,v,m,n⟩) Z Z Z ym Z) ?_)
  refine VG (VT (vs:=bb ⟨1,v,m,n⟩) 1 Z Z Z Z (NR _) Z Z Z ?_)
  refine aj ?_
  exact CR (aq.cell 6 Z Z Z (ax.many (ds:=bb ⟨1,v,m,n⟩) 1 Z Z) aa.nil.ah ⟨by rw[l9,hg],Z⟩)
theorem QZ(p:Nat)(S:lQ)(i:Int)(o:bB):
  az Tryz.prog 221 [.pointer (some ⟨p,0,none⟩),.int .i64 i,.agg o.cells.toArray] Fr w [iT p S] (fun v L=>v=.agg (bb (jX S i o).2).toArray∧L=[iT p (jX S i o).1]):=by
 refine TF 96 Tryz.func221 Z ym aD Z Z ?_
 refine aj ?_
 refine VG (VB (vs:=o.cells) Z fun ob=>?_)
 refine VG (VO.alloc Z fun r=>?_)
 refine VG (VN (CS ?_))
 refine VC.meet (σ:=Bool) (fun t=>[(0,pV p),(1,.int .i64 i),(5,pV ob),(6,pV r),(23,.bool t)]) (fun _=>[pt r (bb cF) 131,pt ob o.cells 35,iT p S]) (fun t=>t=true↔(i<1∨4096<i∨dD o≠0)) ?_ ?_
 ·refine CG ?_
  refine aj ?_
  refine VG (VV (fun Fr w hF hs hS=>gy Fr w (hS.at_ 2 Z)) Z ?_)
  refine aj ?_
  refine VG (VY 11 false Z Z ?_)
  refine aj ?_
  refine VG (VO.split 15 Z Z (fun h1=>?_) (fun h1=>?_))
  ·have h1:=of_decide_eq_true h1
   refine aj ?_
   refine VG (VY 19 true Z Z ?_)
   refine VG (VN ⟨true,by simp[h1],aP,ER⟩)
  have h1:=of_decide_eq_false h1
  refine aj ?_
  refine VG (VO.split 19 Z Z (fun h2=>?_) (fun h2=>?_))
  ·have h2:=of_decide_eq_true h2
   refine aj ?_
   exact⟨true,by simp[h2],aP,ER⟩
  have h2:=of_decide_eq_false h2
  refine VG (VL 1 o.cells Z Z Z Z ?_)
  refine HA ?_
  refine aj ?_
  exact⟨_,by simp[h1,h2],SC Z (SC Z (SC Z (SC Z (SC Z (SN _))))),ER⟩
 intro t ht
 refine CC Z (fun h=>?_) (fun h=>CK ?_)
 ·have hb:=ht.1 h
  have e1:jX S i o=(S,cF):=by rw[jX,if_pos hb]
  refine x_ ?_
  refine HC ?_
  refine aj ?_
  exact CR (aq.cell 6 Z Z Z (ax.many (ds:=bb cF) 0 Z Z) (IP 2 Z aa.nil).ah ⟨by rw[e1],by rw[e1]⟩)
 have hb:¬(i<1∨4096<i∨dD o≠0):=fun h'=>by rw[ht.2 h'] at h;cases h
 refine VC.bJ 2 Z (ba.kv p S) ?_
 intro b _
 generalize hx:(bF S o.key).getD (jC,0)=x
 refine VC.meet (σ:=Nat) (fun q=>[(0,pV p),(1,.int .i64 i),(5,pV ob),(6,pV r),(7,pV q),(8,.bool (bF S o.key).isSome)])
  (fun q=>[pt q [.string x.1,.int .i64 x.2] 331,pt p [.map (some b)] 228,fZ kZ nX b S,pt r (bb cF) 131,pt ob o.cells 35]) (fun _=>True) ?_ ?_
 ·refine CD (ts 0 10 (.only 10 (.only 11 (.take 12 .nil)))) ym yr ?_
  refine iL ?_
  refine AG (VA.lookup Cf Tryz.underlying226 Z Z Z (a:=o.key) Z (dA.one 1 Z) ?_)
  have hv:((bF S o.key).map nX).getD T.t331.zero=nX x:=by rw[←hx];cases bF S o.key<;>rfl
  rw[hv]
  refine iL ?_
  refine AG (AO (aQ.alloc Z) Z ?_ ?_)
  ·rintro v L' ⟨q,rfl,rfl⟩
   exact yv
  rintro v L' ⟨q,rfl,rfl⟩
  refine AG (AT (vs:=[.string x.1,.int .i64 x.2]) 0 Z Z Z Z Z (NR _) Z Z Z yv ?_)
  refine iL ?_
  exact⟨q,trivial,aP,ER⟩
 intro q _
 have hres:∀(R:iq) {e:Env} {M:List HP} {S':lQ},Vg.look e 6=some (.pointer (some ⟨r,0,none⟩))→jX S i o=(S',R)→aa M (pt p [.map (some b)] 228::fZ kZ nX b S' :: [])→M[3]?=some (pt r (bb R) 131) →
   aq ⟨Tryz.prog,tab,aD,96,Fr,w⟩ Tryz.f221 (fun v L=>v=.agg (bb (jX S i o).2).toArray∧L=[iT p (jX S i o).1]) e M:=by
  intro R e M S' h6 hk hi hM
  exact aq.cell 6 Z h6 Z (ax.many (ds:=bb R) 3 hM Z) (aa.kv hi).ah ⟨by rw[hk],by rw[hk]⟩
 refine VC.meet (σ:=Unit) (fun _=>[(0,pV p),(1,.int .i64 i),(5,pV ob),(6,pV r)]) (fun _=>[pt q [.string x.1,.int .i64 x.2] 331,pt p [.map (some b)] 228,fZ kZ nX b S,pt r (bb cF) 131,pt ob o.cells 35]) (fun _=>o.kind≠1∧o.kind≠3∧¬(o.kind=4∧x.2≠o.version)) (VC.block ?_) ?_
 case refine_2=>
  rintro _ ⟨h1,h2,h3⟩
  refine HD ?_
  refine rN ?_
  refine AG (AI Z (LB (pv:=[(0,.string o.value),(1,.int .i64 i)]) [.string o.value,.int .i64 i] Z Z Z ym Z) ?_)
  refine AG (AO (aQ.mapUpdate (d:=nX) (u:=(o.value,i)) 2 Cf Tryz.underlying226 (a:=o.key) Z Z Z Z) Z ?_ ?_)
  ·rintro v L' ⟨rfl,rfl⟩
   exact yv
  rintro v L' ⟨rfl,rfl⟩
  refine AG (AN ?_)
  refine aj ?_
  refine VG (VI (LB (pv:=[(0,.int .i64 1),(2,.int .i64 i),(3,.int .i64 i)]) (bb ⟨1,jC,i,i⟩) Z Z Z ym Z) ?_)
  refine VG (VT (vs:=bb ⟨1,jC,i,i⟩) 3 Z Z Z Z (NR _) Z Z Z ?_)
  refine aj ?_
  exact CR (hres ⟨1,jC,i,i⟩ Z (by rw[jX,if_neg hb,if_neg h1,if_neg h2,hx,if_neg h3]) (bm [1,1]) Z)
 refine oB ?_
 refine CE Z (fun h1=>?_) (fun h1=>?_)
 ·refine oB ?_
  refine VG (VV (fun Fr w hF hs hS=>Cm Fr w (a8.kv hS 1 2 Z Z) o.key i) Z ?_)
  refine VG (VT (vs:=bb (l9 S o.key i)) 3 Z Z Z Z (NR _) Z Z Z ?_)
  refine aj ?_
  exact CR (hres (l9 S o.key i) Z (by rw[jX,if_neg hb,if_pos h1]) (bm [1,1]) Z)
 ·refine oB ?_
  refine VG (VO.split 48 Z Z (fun h2=>?_) (fun h2=>?_))
  ·have h2:o.kind=3:=eq_of_beq h2
   refine oB ?_
   cases hg:bF S o.key with
   | none=>
    refine Ea ?_
    refine VG (VI (LB (pv:=[(0,.int .i64 2),(3,.int .i64 i)]) (bb ⟨2,jC,0,i⟩) Z Z Z ym Z) ?_)
    refine VG (VT (vs:=bb ⟨2,jC,0,i⟩) 3 Z Z Z Z (NR _) Z Z Z ?_)
    refine aj ?_
    exact CR (hres ⟨2,jC,0,i⟩ Z yw (bm [1,1]) Z)
   | some y=>
    refine qC ?_
    refine oB ?_
    refine CC Z (fun _=>?_) (fun h=>absurd h2 (ne_of_beq_false h))
    refine DD ?_
    refine rN ?_
    refine AG (AO (aQ.delete 2 Cf Tryz.underlying226 (a:=o.key) Z Z Z) Z ?_ ?_)
    ·rintro v L' ⟨rfl,rfl⟩
     exact yv
    rintro v L' ⟨rfl,rfl⟩
    refine AG (AN ?_)
    refine aj ?_
    refine VG (VI (LB (pv:=[(0,.int .i64 1),(3,.int .i64 i)]) (bb ⟨1,jC,0,i⟩) Z Z Z ym Z) ?_)
    refine VG (VT (vs:=bb ⟨1,jC,0,i⟩) 3 Z Z Z Z (NR _) Z Z Z ?_)
    refine aj ?_
    exact CR (hres ⟨1,jC,0,i⟩ Z yw (bm [1,1]) Z)
  have h2:o.kind≠3:=ne_of_beq_false h2
  refine oB ?_
  refine qC ?_
  refine oB ?_
  refine CC Z (fun h=>absurd (eq_of_beq h) h2) (fun _=>?_)
  refine oB ?_
  refine VG (VO.split 70 Z Z (fun h3=>?_) (fun h3=>?_))
  ·have h3:o.kind=4:=eq_of_beq h3
   refine oB ?_
   refine CC Z (fun h4=>?_) (fun h4=>?_)
   ·have h4:x.2≠o.version:=by simpa using h4
    refine oB ?_
    refine VG (VI (LB (pv:=[(0,.int .i64 3),(1,.string x.1),(2,.int .i64 x.2),(3,.int .i64 i)]) (bb ⟨3,x.1,x.2,i⟩) Z Z Z ym Z) ?_)
    refine VG (VT (vs:=bb ⟨3,x.1,x.2,i⟩) 3 Z Z Z Z (NR _) Z Z Z ?_)
    refine aj ?_
    exact CR (hres ⟨3,x.1,x.2,i⟩ Z (by rw[jX,if_neg hb,if_neg h1,if_neg h2,hx,if_pos ⟨h3,h4⟩]) (bm [1,1]) Z)
   ·have h4:x.2=o.version:=by simpa using h4
    exact CK ⟨(),⟨h1,h2,fun h=>h.2 h4⟩,aP,ER⟩
  ·have h3:o.kind≠4:=ne_of_beq_false h3
   refine oB ?_
   exact VC.kM Z (CK ⟨(),⟨h1,h2,fun h=>h3 h.1⟩,aP,ER⟩)
end Kv
namespace Lg
open Go Vg T Api Kv
attribute [local irreducible] VO VC VA
abbrev gN:TypeId:=139
abbrev ij:TypeId:=131
abbrev tY:TypeId:=160
def bZ(e:bd):List Value:=[.int .i64 e.index,.int .i64 e.aF,.int .i64 e.seq,.int .i64 e.op.kind,.string e.op.key,.string e.op.value,.int .i64 e.op.version]
theorem Kc(e:bd):(bZ e).length=7:=rfl
theorem Sx(e:bd):(bZ e).all Value.oneCell'=true:=rfl
theorem MS(r:iq):(bb r).length=4:=rfl
theorem Xg(r:iq):(bb r).all Value.oneCell'=true:=rfl
def gv:bd:=⟨0,0,0,Gk⟩
def zX(x:lQ×List iq)(e:bd):lQ×List iq:=((jX x.1 e.index e.op).1,x.2 ++ [(jX x.1 e.index e.op).2])
def bN(es:List bd):lQ×List iq:=es.foldl zX ([],[])
theorem FQ(es:List bd)(e:bd):bN (es ++ [e])=zX (bN es) e:=by simp[bN]
theorem FP(es:List bd):(bN es).2.length=es.length:=by
 have:∀(es:List bd) (x:lQ×List iq),(es.foldl zX x).2.length=x.2.length+es.length:=by
  intro es
  induction es with
  | nil=>intro x;rfl
  | cons e es ih=>intro x;rw[oZ,ih];simp[zX];omega
 have h:=this es ([],[])
 simpa[bN] using h
def tW(c:Int)(p:Int×Int)(e:bd):Int×Int:=if e.aF=c then (e.seq,e.index) else p
def fo(es:List bd)(c:Int):Int×Int:=es.foldl (tW c) (0,0)
theorem Ub(es:List bd)(e:bd)(c:Int):fo (es ++ [e]) c=if e.aF=c then (e.seq,e.index) else fo es c:=by simp[fo,tW]
def l_(es:List bd):List Value:=(List.range 6).flatMap fun c=>[.int .i64 (fo es (c:Nat)).1,.int .i64 (fo es (c:Nat)).2]
theorem KR{es:List bd}{c:Nat}(h:c<6):(l_ es)[c*2]?=some (.int .i64 (fo es (c:Nat)).1)∧(l_ es)[c*2+1]?=some (.int .i64 (fo es (c:Nat)).2):=by
 match c,h with
 | 0,_=>exact⟨rfl,rfl⟩
 | 1,_=>exact⟨rfl,rfl⟩
 | 2,_=>exact⟨rfl,rfl⟩
 | 3,_=>exact⟨rfl,rfl⟩
 | 4,_=>exact⟨rfl,rfl⟩
 | 5,_=>exact⟨rfl,rfl⟩
 | c+6,h=>omega
structure lu where
 sp:Nat
 a1:Option Addr
 c1:Nat
 a2:Option Addr
 c2:Nat
def kr(es:List bd)(x:lu):List Value:=.pointer (some ⟨x.sp,0,none⟩) :: .slice x.a1 es.length x.c1 :: .slice x.a2 (bN es).2.length x.c2::l_ es
def tX(p:Nat)(es:List bd)(x:lu):List HP:=[pt p (kr es x) tY,iT x.sp (bN es).1,aA gN 7 x.a1 es.length x.c1 (flat bZ es),aA ij 4 x.a2 (bN es).2.length x.c2 (flat bb (bN es).2)]
def bM(p:Nat)(es:List bd):HP:=hex fun x=>cR (tX p es x)
structure tA(Fr:Nat→Prop)(w:World)(p:Nat)(es:List bd)(x:lu):Prop where
 aC:bu Fr w p (kr es x)
 kv:a8 Fr [iT x.sp (bN es).1] w
 Kf:aV bZ 7 Fr w x.a1 es
 MT:aV bb 4 Fr w x.a2 (bN es).2
theorem tA.of{Fr:Nat→Prop}{w:World}{p:Nat}{es:List bd}(h:a8 Fr [bM p es] w):∃x,tA Fr w p es x:=by
 obtain⟨x,h⟩:=h.ex
 have h:=h.sep
 exact⟨x,h.aC 0 Z,h.at_ 1 Z,aV.aA Kc (h.at_ 2 Z),aV.aA MS (h.at_ 3 Z)⟩
theorem ba.log(p:Nat)(es:List bd):ba (ι:=lu) (bM p es) (fun _=>True) (fun x=>tX p es x):=fun w ids ⟨x,h⟩ hn=>⟨x,trivial,ids,h,hn,fun _ h=>h⟩
theorem aa.log{p:Nat}{es:List bd}{L M:List HP}(x:lu)(h:aa L (tX p es x++M)):aa L (bM p es::M):=
 aa.ex (f:=fun x=>cR (tX p es x)) x (aa.sep (Ls:=tX p es x) h)
theorem lK:az Tryz.prog 47 [] Fr w [] (fun v L=>∃p,v=.pointer (some ⟨p,0,none⟩)∧L=[bM p []]):=by
 refine TF 4 Tryz.func47 Z ym aD Z Z ?_
 refine aj ?_
 refine VG (VK (Lc:=[]) (fun Fr w hF hw _=>Kv.lK Fr w) Z Z ?_)
 rintro _ _ ⟨q,rfl,rfl⟩
 refine VG (VI (LB (pv:=[(0,pV q)]) (kr [] ⟨q,none,0,none,0⟩) Z Z Z ym Z) ?_)
 refine VG (VB (vs:=kr [] ⟨q,none,0,none,0⟩) Z fun p=>?_)
 refine aj ?_
 exact CR (aq.tmp 0 Z Z (aa.log ⟨q,none,0,none,0⟩ (IP 0 Z (IP 0 Z (aa.dM (aa.dM aa.nil))))).ah ⟨p,Z,Z⟩)
section
variable {p:Nat} {es:List bd}
theorem gy{q:Nat}{cs:List Value}(h:bu Fr w p (.pointer (some ⟨q,0,none⟩)::cs)):az Tryz.prog 159 [.pointer (some ⟨p,0,none⟩)] Fr w [] (fun v L=>v=.bool false∧L=[]):=by
 refine TF 12 Tryz.func159 Z ym aD Z Z ?_
 refine aj ?_
 refine VG (VO.split 5 rfl rfl (fun h=>by cases h) (fun _=>?_))
 refine oA ?_
 exact vM
theorem kP(h:a8 Fr [bM p es] w):az Tryz.prog 103 [.pointer (some ⟨p,0,none⟩)] Fr w [] (fun v L=>v=.int .i64 es.length∧L=[]):=by
 obtain⟨x,hx⟩:=tA.of h
 have hb:=hx.aC
 unfold kr at hb
 refine TF 10 Tryz.func103 Z ym aD Z Z ?_
 refine aj ?_
 refine VG (VV (fun Fr w hF hs _=>gy Fr w (hb.of hF hs)) Z ?_)
 refine kg ?_
 refine kD ?_
 exact vL
def dJ{α:Type}(l:List α)(i:Int):Option α:=if 1≤i then l[(i-1).toNat]? else none
theorem BL{α:Type}{l:List α}{i:Int}(h:i<1∨(l.length:Int)<i):dJ l i=none:=by
 unfold dJ
 split
 ·exact lO yd
 ·rfl
theorem BM{α:Type}{l:List α}{i:Int}(h0:1≤i)(h1:i≤l.length):∃(k:Nat) (x:α),i=k+1∧k<l.length∧l[k]?=some x∧dJ l i=some x:=by
 refine⟨(i-1).toNat,_,by omega,by omega,GE yd,?_⟩
 rw[dJ,if_pos h0,GE yd]
theorem za(h:a8 Fr [bM p es] w)(i:Int)(hi0:-9223372036854775808<i)(hi1:i≤9223372036854775807):az Tryz.prog 72 [.pointer (some ⟨p,0,none⟩),.int .i64 i] Fr w []
  (fun v L=>v=.tuple #[.agg (bZ ((dJ es i).getD gv)).toArray,.bool (dJ es i).isSome]∧L=[]):=by
 obtain⟨x,hx⟩:=tA.of h
 have hb:=hx.aC
 unfold kr at hb
 refine TF 23 Tryz.func72 Z ym aD Z Z ?_
 refine CS (CG (VG (VO.alloc Z fun rb=>?_)))
 refine aj ?_
 by_cases h0:i<1
 ·refine VG (VY 8 true Z (DT h0) ?_)
  refine rR ?_
  refine VG (VI (LB (pv:=[]) (bZ gv) Z Z Z ym Z) ?_)
  refine VG (VT (vs:=bZ gv) 0 Z Z Z Z (NR _) Z Z Z ?_)
  refine aj ?_
  exact CR (aq.dB 4 5 Z Z Z (ax.many (ds:=bZ gv) 0 Z Z) Z aa.nil.ah ⟨by rw[BL (.inl h0)];rfl,Z⟩)
 ·refine VG (VY 8 false Z (DF h0) ?_)
  refine bW ?_
  refine VG (VV (fun Fr w hF hs hS=>kP Fr w (h.of hF hs)) Z ?_)
  refine bW ?_
  refine CP Z (fun h1=>?_) (fun h1=>CK ?_)
  ·refine aj ?_
   refine VG (VI (LB (pv:=[]) (bZ gv) Z Z Z ym Z) ?_)
   refine VG (VT (vs:=bZ gv) 0 Z Z Z Z (NR _) Z Z Z ?_)
   refine aj ?_
   exact CR (aq.dB 4 5 Z Z Z (ax.many (ds:=bZ gv) 0 Z Z) Z aa.nil.ah ⟨by rw[BL (.inr h1)];rfl,Z⟩)
  ·obtain⟨k,e,rfl,hk,he,hat⟩:=BM (l:=es) (i:=i) yd yd
   obtain⟨eb,eo,hea,ra,rc⟩:=aV.rd (X:=⟨Tryz.prog,tab,aD,23,Fr,w⟩) hx.Kf he
   rw[hea] at hb
   refine kD ?_
   refine qD ?_
   refine VG (VI (fp k Z Z Z Z Z yd hk) ?_)
   refine uw ?_
   refine VG (VT (vs:=bZ e) 0 Z Z Z Z (NR _) Z Z Z ?_)
   refine aj ?_
   exact CR (aq.dB 4 5 Z Z Z (ax.many (ds:=bZ e) 0 Z Z) Z aa.nil.ah ⟨by rw[hat];rfl,Z⟩)
theorem MU(h:a8 Fr [bM p es] w)(i:Int)(hi0:-9223372036854775808<i)(hi1:i≤9223372036854775807):az Tryz.prog 227 [.pointer (some ⟨p,0,none⟩),.int .i64 i] Fr w []
  (fun v L=>v=.tuple #[.agg (bb ((dJ (bN es).2 i).getD cF)).toArray,.bool (dJ (bN es).2 i).isSome]∧L=[]):=by
 obtain⟨x,hx⟩:=tA.of h
 have hb:=hx.aC
 unfold kr at hb
 have hrl:=FP es
 refine TF 23 Tryz.func227 Z ym aD Z Z ?_
 refine CS (CG (VG (VO.alloc Z fun rb=>?_)))
 refine aj ?_
 by_cases h0:i<1
 ·refine VG (VY 8 true Z (DT h0) ?_)
  refine rR ?_
  refine OF ?_
  refine HC ?_
  refine aj ?_
  exact CR (aq.dB 4 5 Z Z Z (ax.many (ds:=bb cF) 0 Z Z) Z aa.nil.ah ⟨by rw[BL (.inl h0)];rfl,Z⟩)
 ·refine VG (VY 8 false Z (DF h0) ?_)
  refine bW ?_
  refine VG (VV (fun Fr w hF hs hS=>kP Fr w (h.of hF hs)) Z ?_)
  refine bW ?_
  refine CP Z (fun h1=>?_) (fun h1=>CK ?_)
  ·refine x_ ?_
   refine HC ?_
   refine aj ?_
   exact CR (aq.dB 4 5 Z Z Z (ax.many (ds:=bb cF) 0 Z Z) Z aa.nil.ah ⟨by rw[BL (.inr (by rw[hrl];exact h1))];rfl,Z⟩)
  ·obtain⟨k,e,rfl,hk,he,hat⟩:=BM (l:=(bN es).2) (i:=i) yd yd
   obtain⟨eb,eo,hea,ra,rc⟩:=aV.rd (X:=⟨Tryz.prog,tab,aD,23,Fr,w⟩) hx.MT he
   rw[hea] at hb
   refine kD ?_
   refine qD ?_
   refine VG (VI (fp k Z Z Z Z Z yd hk) ?_)
   refine uw ?_
   refine VG (VT (vs:=bb e) 0 Z Z Z Z (NR _) Z Z Z ?_)
   refine aj ?_
   exact CR (aq.dB 4 5 Z Z Z (ax.many (ds:=bb e) 0 Z Z) Z aa.nil.ah ⟨by rw[hat];rfl,Z⟩)
def ib(es:List bd)(c:Int):Int×Int:=if 0≤c∧c<6 then fo es c else (0,0)
theorem pk(h:a8 Fr [bM p es] w)(c:Int):az Tryz.prog 271 [.pointer (some ⟨p,0,none⟩),.int .i64 c] Fr w []
  (fun v L=>v=.tuple #[.int .i64 (ib es c).1,.int .i64 (ib es c).2]∧L=[]):=by
 obtain⟨x,hx⟩:=tA.of h
 have hb:=hx.aC
 unfold kr at hb
 refine TF 30 Tryz.func271 Z ym aD Z Z ?_
 refine aj ?_
 refine HE ?_
 refine aj ?_
 refine xN ?_
 refine bW ?_
 by_cases h0:c<0
 ·refine VG (VY 12 true Z (DT h0) ?_)
  refine rR ?_
  exact CR (aq.dh 4 5 Z Z Z ER ⟨by rw[ib,if_neg yd],Z⟩)
 ·refine VG (VY 12 false Z (DF h0) ?_)
  refine bW ?_
  refine CP Z (fun h1=>?_) (fun h1=>CK ?_)
  ·refine aj ?_
   exact CR (aq.dh 4 5 Z Z Z ER ⟨by rw[ib,if_neg yd],Z⟩)
  ·obtain⟨k,rfl⟩:∃k:Nat,c=k:=⟨c.toNat,by omega⟩
   obtain⟨l1,l2⟩:=KR (es:=es) (c:=k) yd
   have q1:(kr es x)[0+3+k*2+0]?=some (.int .i64 (fo es (k:Nat)).1):=by rw[show 0+3+k*2+0=k*2+3 by omega];exact l1
   have q2:(kr es x)[0+3+k*2+1]?=some (.int .i64 (fo es (k:Nat)).2):=by rw[show 0+3+k*2+1=k*2+1+3 by omega];exact l2
   refine CS (CD (ts 0 16 .nil) ym yr ?_)
   refine bt ?_
   refine AG (AI Z (kq k Z Z Z Z Z Z yd) ?_)
   refine bt ?_
   refine AG (VA.load Z Z Z (ax.aC hx.aC q1) ?_)
   refine bt ?_
   refine AG (AI Z (kq k Z Z Z Z Z Z yd) ?_)
   refine bt ?_
   refine AG (VA.load Z Z Z (ax.aC hx.aC q2) ?_)
   refine bt ?_
   exact CR (aq.dh 4 5 Z Z Z ER ⟨by rw[ib,if_pos yd],Z⟩)
theorem Cm(h:a8 Fr [bM p es] w)(k:ByteArray):az Tryz.prog 239 [.pointer (some ⟨p,0,none⟩),.string k] Fr w []
  (fun v L=>v=.agg (bb (l9 (bN es).1 k es.length)).toArray∧L=[]):=by
 obtain⟨x,hx⟩:=tA.of h
 have hb:=hx.aC
 unfold kr at hb
 refine TF 19 Tryz.func239 Z ym aD Z Z ?_
 refine CS (CG (VG (VO.alloc Z fun rb=>?_)))
 refine aj ?_
 refine HE ?_
 refine kg ?_
 refine CS (CD (ts 0 10 (.only 10 (.only 11 .nil))) ym yr ?_)
 refine A0 ?_
 refine AG (AR (fun Fr w hF hs hS=>Kv.Cm Fr w (hx.kv.of hF hs) k es.length) Z Z yx ?_)
 refine AG (AT (vs:=bb (l9 (bN es).1 k es.length)) 0 Z Z Z Z Z (NR _) Z Z Z (by(try refine Pd.st ?_);(repeat(first|exact Pd.nil|exact Pd.fnil|refine Pd.inner ?_|refine Pd.skip yr ?_|refine zf (zo 0 Z Z) ?_|refine zf (zm 0 Z Z) ?_|refine zf (ax.aC (ax.aC hb Z) Z) ?_|refine zf ((ax.aC hb Z)) ?_|refine zc (zo 0 Z Z) ?_|refine zc (zm 0 Z Z) ?_|refine zc (ax.aC (ax.aC hb Z) Z) ?_|refine zc ((ax.aC hb Z)) ?_))) ?_)
 refine bt ?_
 exact CR (aq.cell 4 Z Z Z (ax.many (ds:=bb (l9 (bN es).1 k es.length)) 0 Z Z) aa.nil.ah ⟨rfl,Z⟩)
end
end Lg
namespace Lg
open Go Vg T Api Kv
attribute [local irreducible] VO VC VA
def sM(o:bB):Bool:=decide (o.kind=1)&&decide (dD o=0)
def ng(e:bd):Bool:=decide (e.aF<0)||decide (6≤e.aF)||decide (e.seq<1)||(decide (dD e.op≠0)||sM e.op)
def gP(es:List bd)(e:bd):Int:=
 if ng e then 2 else if (4096:Int)≤es.length then 60 else if e.index≠es.length+1 then 70 else if e.seq≤(fo es e.aF).1 then 71 else 0
def kQ(es:List bd)(e:bd):List bd:=if gP es e=0 then es ++ [e] else es
def oo(es:List bd)(e:bd):iq:=if gP es e=0 then (jX (bN es).1 e.index e.op).2 else cF
theorem Ug{es:List bd}{e:bd}{c:Nat}(h:c<6)(hc:e.aF=c)(x y z:Value):
  dT (x::y::z::l_ es) (0+3+c*2) [.int .i64 e.seq,.int .i64 e.index]=x::y::z::l_ (es ++ [e]):=by
 unfold l_
 simp only[Ub,hc]
 match c,h with
 | 0,_=>rfl
 | 1,_=>rfl
 | 2,_=>rfl
 | 3,_=>rfl
 | 4,_=>rfl
 | 5,_=>rfl
 | c+6,h=>omega
theorem BK(p:Nat)(es:List bd)(e:bd):az Tryz.prog 161 [.pointer (some ⟨p,0,none⟩),.agg (bZ e).toArray] Fr w [bM p es]
  (fun v L=>v=.tuple #[.agg (bb (oo es e)).toArray,.int .i64 (gP es e)]∧L=[bM p (kQ es e)]):=by
 refine TF 107 Tryz.func161 Z ym aD Z Z ?_
 refine CS (CG (VG (VB (vs:=bZ e) Z fun eb=>VG (VO.alloc Z fun rb=>?_))))
 refine VG (VN (CS (VC.block ?_)))
 refine VC.bJ 2 Z (ba.log p es) ?_
 rintro x -
 have hrl:=FP es
 unfold tX
 show VC _ _ _ [pt p (kr es x) tY,iT x.sp (bN es).1,aA gN 7 x.a1 es.length x.c1 (flat bZ es),aA ij 4 x.a2 (bN es).2.length x.c2 (flat bb (bN es).2),pt rb (bb cF) ij,pt eb (bZ e) gN] _
 have back:∀{X:Cx},dq X [pt p (kr es x) tY,iT x.sp (bN es).1,aA gN 7 x.a1 es.length x.c1 (flat bZ es),aA ij 4 x.a2 (bN es).2.length x.c2 (flat bb (bN es).2),pt rb (bb cF) ij,pt eb (bZ e) gN] [bM p es]:=
  (aa.log x (bm [0,0,0,0])).ah
 refine aj ?_
 refine VG (VV (fun Fr w hF hs hS=>gy Fr w (hS.aC 0 Z)) Z ?_)
 refine aj ?_
 refine qC ?_
 refine CS ?_
 refine VC.dX (σ:=Unit) (fun _=>[(0,pV p),(3,pV eb),(4,pV rb),(10,.bool (ng e))]) (fun _=>[pt p (kr es x) tY,iT x.sp (bN es).1,aA gN 7 x.a1 es.length x.c1 (flat bZ es),aA ij 4 x.a2 (bN es).2.length x.c2 (flat bb (bN es).2),pt rb (bb cF) ij,pt eb (bZ e) gN]) (fun _=>True) ?_ ?_
 ·refine DE ?_
  by_cases h1:e.aF<0
  ·have hb:ng e=true:=by simp[ng,h1]
   refine VG (VY 14 true Z (DT h1) ?_)
   refine uy ?_
   refine VG (VY 19 true Z Z ?_)
   refine uy ?_
   refine VC.nj Z (CK ?_)
   exact⟨(),trivial,by rw[hb];exact aP,ER⟩
  refine VG (VY 14 false Z (DF h1) ?_)
  refine uy ?_
  by_cases h2:6≤e.aF
  ·have hb:ng e=true:=by simp[ng,h2]
   refine VG (VY 19 true Z (DT h2) ?_)
   refine uy ?_
   refine VC.nj Z (CK ?_)
   exact⟨(),trivial,by rw[hb];exact aP,ER⟩
  refine VG (VY 19 false Z (DF h2) ?_)
  refine uy ?_
  refine CP Z (fun h3=>CK ?_) (fun h3=>?_)
  ·have hb:ng e=true:=by simp[ng,h3]
   exact⟨(),trivial,SC Z (SC Z (SC Z (Sub.bl Z (by simp[hb,h3]) (SN _)))),ER⟩
  ·have hb:ng e=(decide (dD e.op≠0)||sM e.op):=by simp[ng,h1,h2,h3]
   refine DE ?_
   refine VG (VL 5 e.op.cells Z Z Z Z ?_)
   refine VG (VO.lW (fun Fr w=>iG Fr w e.op) Z ?_)
   refine DE ?_
   by_cases h4:dD e.op=0
   ·refine VG (VY 28 false Z (by simp[h4]) ?_)
    refine uy ?_
    refine VG (VL 5 e.op.cells Z Z Z Z ?_)
    refine VG (VO.lW (fun Fr w=>Kv.Aw Fr w e.op) Z ?_)
    refine uy ?_
    exact⟨(),trivial,SC Z (SC Z (SC Z (Sub.bl Z (by rw[hb];simp[sM,h4]) (SN _)))),ER⟩
   ·refine VG (VY 28 true Z (by simp[h4]) ?_)
    refine uy ?_
    exact⟨(),trivial,SC Z (SC Z (SC Z (Sub.bl Z (by rw[hb,DT (show dD e.op≠0 from h4)];rfl) (SN _)))),ER⟩
 rintro _ -
 have fin:∀{X:Cx} {fn:Func} {E:Env} (z:Int),fn.results=#[.cell 4 ij,.tmp 5]→gP es e=z→z≠0→bS X.tab ij=some T.t131→Vg.look E 4=some (.pointer (some ⟨rb,0,none⟩))→Vg.look E 5=some (.int .i64 z) →
   aq X fn (fun v L=>v=.tuple #[.agg (bb (oo es e)).toArray,.int .i64 (gP es e)]∧L=[bM p (kQ es e)]) E [pt p (kr es x) tY,iT x.sp (bN es).1,aA gN 7 x.a1 es.length x.c1 (flat bZ es),aA ij 4 x.a2 (bN es).2.length x.c2 (flat bb (bN es).2),pt rb (bb cF) ij,pt eb (bZ e) gN]:=fun z hr hz hne hT h4 h5=>
  aq.dB 4 5 hr h4 hT (ax.many (ds:=bb cF) 4 rfl rfl) h5 back ⟨by rw[oo,if_neg (by rw[hz];exact hne),hz],by rw[kQ,if_neg (by rw[hz];exact hne)]⟩
 refine CC Z (fun hb=>?_) (fun hb=>?_)
 ·refine x_ ?_
  refine DG ?_
  refine aj ?_
  exact CR (fin 2 Z (by rw[gP,if_pos hb]) yo Z Z Z)
 refine aj ?_
 refine CP Z (fun h5=>?_) (fun h5=>?_)
 ·refine x_ ?_
  refine DG ?_
  refine aj ?_
  exact CR (fin 60 Z (by rw[gP,hb,if_neg yf,if_pos h5]) yo Z Z Z)
 refine CS (CD (ts 0 10 .nil) ym yr ?_)
 refine mC ?_
 refine rM ?_
 refine mC ?_
 refine VC.dH Z (fun h6=>?_) (fun h6=>?_)
 ·refine x_ ?_
  refine DG ?_
  refine aj ?_
  exact CR (fin 70 Z (by rw[gP,hb,if_neg yf,if_neg h5,if_pos h6]) yo Z Z Z)
 have hcl:∃c:Nat,c<6∧e.aF=c:=by
  have:¬e.aF<0∧¬6≤e.aF:=by simp[ng] at hb;omega
  exact⟨e.aF.toNat,by omega,by omega⟩
 obtain⟨c,hc6,hcc⟩:=hcl
 obtain⟨l1,l2⟩:=KR (es:=es) (c:=c) hc6
 have q1:(kr es x)[0+3+c*2+0]?=some (.int .i64 (fo es e.aF).1):=by rw[show 0+3+c*2+0=c*2+3 by omega,hcc];exact l1
 refine CS (CD (ts 0 12 .nil) ym yr ?_)
 refine mC ?_
 refine AG (AI Z (kq c Z Z Z Z Z hcc hc6) ?_)
 refine mC ?_
 refine AG (VA.load Z Z Z (ax.one 0 Z q1) ?_)
 refine mC ?_
 refine CP Z (fun h7=>?_) (fun h7=>CK ?_)
 ·refine x_ ?_
  refine DG ?_
  refine aj ?_
  exact CR (fin 71 Z (by rw[gP,hb,if_neg yf,if_neg h5,if_neg yd,if_pos h7]) yo Z Z Z)
 have hz:gP es e=0:=by rw[gP,hb,if_neg yf,if_neg h5,if_neg yd,if_neg h7]
 have hll:(bN (es ++ [e])).2.length=(bN es).2.length+1:=by rw[FQ];simp[zX]
 have hrr:oo es e=(jX (bN es).1 e.index e.op).2:=by rw[oo,if_pos hz]
 have happ:kQ es e=es ++ [e]:=by rw[kQ,if_pos hz]
 have hst1:(bN (es ++ [e])).1=(jX (bN es).1 e.index e.op).1:=by rw[FQ];rfl
 have hst2:(bN (es ++ [e])).2=(bN es).2 ++ [(jX (bN es).1 e.index e.op).2]:=by rw[FQ];rfl
 refine CS (CD (ts 0 8 (.only 8 (.only 9 .nil))) ym yr ?_)
 refine mC ?_
 refine AG (VA.dQ 5 e.op.cells Z Z Z Z Z ?_)
 refine AG (AQ 1 Z (fun Fr w hF hs hS=>Kv.QZ Fr w x.sp (bN es).1 e.index e.op) Z Z (ψ:=fun v H=>v=.agg (bb (jX (bN es).1 e.index e.op).2).toArray∧H=iT x.sp (jX (bN es).1 e.index e.op).1) yy ?_ ?_)
 ·rintro _ _ ⟨rfl,rfl⟩
  exact yu
 rintro _ _ ⟨rfl,rfl⟩
 generalize (jX (bN es).1 e.index e.op).2=rr at hrr hst2 ⊢
 generalize (jX (bN es).1 e.index e.op).1=S' at hst1 ⊢
 refine AG (AT (vs:=bb rr) 4 Z Z Z Z Z (NR _) Z Z Z yu ?_)
 refine mC ?_
 refine OG ?_
 refine mC ?_
 refine AG (VA.dQ 5 (bZ e) Z Z Z Z Z ?_)
 refine AG (AO (aQ.buildSlice (n:=1) (pv:=[(0,.agg (bZ e).toArray)]) (cells:=bZ e) Z Z Z Z yo (ji Z Z Z)) Z ?_ ?_)
 ·rintro _ _ ⟨nb,rfl,rfl⟩
  exact yu
 rintro _ _ ⟨nb,rfl,rfl⟩
 refine AG (AO (aQ.append (m:=1) (news:=bZ e) 3 Z Z Z Z Z Z Z (fv.pt 0 Z Z Z) Z (by show(es.length+1)*72≤_;omega) yd) Z ?_ ?_)
 ·rintro _ _ ⟨a1,c1,rfl,hc1,rfl⟩
  exact yu
 rintro _ _ ⟨a1,c1,rfl,hc1,rfl⟩
 refine mC ?_
 refine AG (VA.st 2 (cs':=.pointer (some ⟨x.sp,0,none⟩) :: .slice a1 (es.length+1) c1 :: .slice x.a2 (bN es).2.length x.c2::l_ es) Z Z Z Z Z (hZ Z) Z Z yu ?_)
 refine mC ?_
 refine CN (L':=[pt p (.pointer (some ⟨x.sp,0,none⟩) :: .slice a1 (es.length+1) c1 :: .slice x.a2 (bN es).2.length x.c2::l_ es) tY,iT x.sp S',aA gN 7 a1 (es.length+1) c1 (flat bZ es++bZ e),aA ij 4 x.a2 (bN es).2.length x.c2 (flat bb (bN es).2),pt rb (bb rr) ij,pt eb (bZ e) gN]) (bm [2,2,0,1,1,1]).ah ?_
 refine OG ?_
 refine mC ?_
 refine AG (VA.dQ 4 (bb rr) Z Z Z Z Z ?_)
 refine AG (AO (aQ.buildSlice (n:=1) (pv:=[(0,.agg (bb rr).toArray)]) (cells:=bb rr) Z Z Z Z yo (ji Z Z Z)) Z ?_ ?_)
 ·rintro _ _ ⟨nb,rfl,rfl⟩
  exact yu
 rintro _ _ ⟨nb,rfl,rfl⟩
 refine AG (AO (aQ.append (m:=1) (news:=bb rr) 4 Z Z Z Z Z Z Z (fv.pt 0 Z Z Z) Z (by show((bN es).2.length+1)*40≤_;omega) yd) Z ?_ ?_)
 ·rintro _ _ ⟨a2,c2,rfl,hc2,rfl⟩
  exact yu
 rintro _ _ ⟨a2,c2,rfl,hc2,rfl⟩
 refine mC ?_
 refine AG (VA.st 2 (cs':=.pointer (some ⟨x.sp,0,none⟩) :: .slice a1 (es.length+1) c1 :: .slice a2 ((bN es).2.length+1) c2::l_ es) Z Z Z Z Z (hZ Z) Z Z yu ?_)
 refine mC ?_
 refine CN (L':=[pt p (.pointer (some ⟨x.sp,0,none⟩) :: .slice a1 (es.length+1) c1 :: .slice a2 ((bN es).2.length+1) c2::l_ es) tY,iT x.sp S',aA gN 7 a1 (es.length+1) c1 (flat bZ es++bZ e),aA ij 4 a2 ((bN es).2.length+1) c2 (flat bb (bN es).2++bb rr),pt rb (bb rr) ij,pt eb (bZ e) gN]) (bm [2,2,2,0,1,1]).ah ?_
 refine CS (CD (ts 0 11 (.only 11 .nil)) ym yr ?_)
 refine mC ?_
 refine AG (AI Z (LB (pv:=[(0,.int .i64 e.seq),(1,.int .i64 e.index)]) [.int .i64 e.seq,.int .i64 e.index] Z Z Z ym Z) ?_)
 refine mC ?_
 refine AG (AI Z (kq c Z Z Z Z Z hcc hc6) ?_)
 refine AG (AT (vs:=[.int .i64 e.seq,.int .i64 e.index]) 0 Z Z Z Z Z (by show 0+3+c*2+2≤15;omega) (Ug hc6 hcc _ _ _) Z Z yu ?_)
 refine mC ?_
 refine aj ?_
 refine VG (VL 4 (bb rr) Z Z Z Z ?_)
 refine VG (VT (vs:=bb rr) 4 Z Z Z Z (NR _) Z Z Z ?_)
 refine aj ?_
 have hfin:tX p (es ++ [e]) ⟨x.sp,a1,c1,a2,c2⟩=[pt p (.pointer (some ⟨x.sp,0,none⟩) :: .slice a1 (es.length+1) c1 :: .slice a2 ((bN es).2.length+1) c2::l_ (es ++ [e])) tY,iT x.sp S',aA gN 7 a1 (es.length+1) c1 (flat bZ es++bZ e),aA ij 4 a2 ((bN es).2.length+1) c2 (flat bb (bN es).2++bb rr)]:=by
  unfold tX kr
  rw[hll,hst1,hst2,a_,jU,jU,lZ,sv,lZ,sv,bK,bK];rfl
 exact CR (aq.dB 4 5 Z Z Z (ax.many (ds:=bb rr) 4 Z Z) Z (aa.log ⟨x.sp,a1,c1,a2,c2⟩ (by rw[hfin];exact IP 0 Z (IP 0 Z (IP 0 Z (IP 0 Z aa.nil))))).ah ⟨by rw[hrr,hz],by rw[happ]⟩)
end Lg
end Go.Proofs.YtkgfhabealjjpaaGreat
namespace Go.Proofs
open Go.Shelf
def Tryz.RP : Go.Shelf.Ren := ⟨fun | 5 => 250 | 7 => 274 | n => n, fun | 23 => 226 | 25 => 9 | 3 => 331 | 4 => 4 | 20 => 20 | n => n, fun | n => n⟩
theorem Tryz.RO : Go.Proofs.SlLaysW.n5 Tryz.prog Tryz.RP := {
  mixed := by kernel_rfl
  f5 := ⟨Tryz.f250.name, by decide, Tryz.func250.trans (congrArg some (by kernel_rfl))⟩
  f7 := Tryz.func274.trans (congrArg some (by kernel_rfl))
  t4 := Tryz.underlying4
  a4 := Tryz.isAgg4
  z4 := Tryz.sizeOf4
  v4 := Tryz.zeroValue4
  t20 := Tryz.underlying20
  a20 := Tryz.isAgg20
  z20 := Tryz.sizeOf20
  v20 := Tryz.zeroValue20
  t23 := Tryz.underlying226
  a23 := Tryz.isAgg226
  z23 := Tryz.sizeOf226
  v23 := Tryz.zeroValue226 }
end Go.Proofs
namespace Go.Proofs.YtkgfhabealjjpaaGreat
variable (Fr : Nat → Prop) (w : World)
namespace Kv
open Go Vg T Api Go.Shelf
attribute [local irreducible] VO VC VA
theorem Rq:tz Tryz.prog 250:=⟨_,Tryz.func250,by kernel_rfl,by kernel_rfl⟩
theorem EU{κ α:Type}{c:κ→Value}{d:α→Value}{b:Nat}{xs:List (κ×α)}(Fr:Nat→Prop)(w:World)(h:qM Fr w c d b xs):
  az Tryz.prog 250 [.map (some b)] Fr w [] (fun v L=>∃b',v=.map (some b')∧L=[fZ c d b' xs]):=
 ⟨Rq,fun hl hs=>by
  obtain⟨es,clock,h1,h2,h3⟩:=h.at_
  exact Calls.mono (AnyW.maps_Clone Tryz.RO b es clock w h1) fun e w' ⟨h4,h5⟩=>⟨_,_,h4,⟨_,Z,Z⟩,by
   subst h5
   exact⟨Sat.alloc hl _ (fZ c d w.heap.size xs) ⟨rfl,es,clock,heap_alloc_new w _,h2,h3⟩ Sat.nil,dG.alloc hl _⟩⟩⟩
theorem zn{p:Nat}{S:lQ}(h:a8 Fr [iT p S] w):
  az Tryz.prog 199 [.pointer (some ⟨p,0,none⟩)] Fr w [] (fun v L=>∃p',v=.pointer (some ⟨p',0,none⟩)∧L=[iT p' S]):=by
 obtain⟨b,hp,hm⟩:=FK h
 refine TF 12 Tryz.func199 Z ym aD Z Z ?_
 refine aj ?_
 refine HB ?_
 refine kg ?_
 refine DC ?_
 refine VG (VK (Lc:=[]) (fun Fr w hF hs hS=>EU Fr w (hm.of hF hs)) Z Z ?_)
 rintro _ _ ⟨b',rfl,rfl⟩
 refine aj ?_
 refine VG (VI (LB (pv:=[(0,.map (some b'))]) [.map (some b')] Z Z Z ym Z) ?_)
 refine VG (VB (vs:=[.map (some b')]) Z fun p'=>?_)
 refine aj ?_
 exact CR (aq.tmp 2 Z Z (aa.kv aa.refl).ah ⟨p',Z,Z⟩)
end Kv
namespace Lg
open Go Vg T Api Kv
attribute [local irreducible] VO VC VA
theorem RN{a:Option Addr}{cap:Nat}{l:List bd}(h:aV bZ 7 Fr w a l)(hl:l.length≤1000000):
  az Tryz.prog 200 [.slice a l.length cap] Fr w [] (fun v L=>∃a' c',v=.slice a' l.length c'∧L=[aA gN 7 a' l.length c' (flat bZ l)]):=by
 refine TF 8 Tryz.func200 Z ym aD Z Z ?_
 cases a with
 | none=>
  obtain rfl:l=[]:=by
   cases l with
   | nil=>rfl
   | cons x l=>obtain⟨b,o,h1,_⟩:=h.at_ yf;cases h1
  refine rT ?_
  exact A1
 | some a=>
  refine kg ?_
  refine CS (CG (VG (VO.buildSlice (n:=0) (pv:=[]) [] Z Z Z Z yo Z fun b=>?_)))
  refine VO.ah (L':=[aA gN 7 (some ⟨b,0,none⟩) 0 0 []]) (aa.sl (M:=[]) (cs:=[]) (rest:=[]) Z (NR _) Z (aa.refl (L:=[pt b [] gN]))).ah ?_
  refine VG (VO.append (m:=l.length) (news:=flat bZ l) 0 Z Z Z Z Z Z Z (aV.row Kc h) (qd Sx l) (by show(0+l.length)*72≤_;omega) yd fun a' c' _=>?_)
  rw[di,nN]
  refine aj ?_
  exact A2
theorem RQ{a:Option Addr}{cap:Nat}{l:List iq}(h:aV bb 4 Fr w a l)(hl:l.length≤1000000):
  az Tryz.prog 201 [.slice a l.length cap] Fr w [] (fun v L=>∃a' c',v=.slice a' l.length c'∧L=[aA ij 4 a' l.length c' (flat bb l)]):=by
 refine TF 8 Tryz.func201 Z ym aD Z Z ?_
 cases a with
 | none=>
  obtain rfl:l=[]:=by
   cases l with
   | nil=>rfl
   | cons x l=>obtain⟨b,o,h1,_⟩:=h.at_ yf;cases h1
  refine rT ?_
  exact A1
 | some a=>
  refine kg ?_
  refine CS (CG (VG (VO.buildSlice (n:=0) (pv:=[]) [] Z Z Z Z yo Z fun b=>?_)))
  refine VO.ah (L':=[aA ij 4 (some ⟨b,0,none⟩) 0 0 []]) (aa.sl (M:=[]) (cs:=[]) (rest:=[]) Z (NR _) Z (aa.refl (L:=[pt b [] ij]))).ah ?_
  refine VG (VO.append (m:=l.length) (news:=flat bb l) 0 Z Z Z Z Z Z Z (aV.row MS h) (qd Xg l) (by show(0+l.length)*40≤_;omega) yd fun a' c' _=>?_)
  rw[di,nN]
  refine aj ?_
  exact A2
theorem zn{p:Nat}{es:List bd}(h:a8 Fr [bM p es] w)(hl:es.length≤1000000):az Tryz.prog 125 [.pointer (some ⟨p,0,none⟩)] Fr w [] (fun v L=>∃q,v=.pointer (some ⟨q,0,none⟩)∧L=[bM q es]):=by
 obtain⟨x,hx⟩:=tA.of h
 have hb:=hx.aC
 unfold kr at hb
 have hrl:=FP es
 refine TF 26 Tryz.func125 Z ym aD Z Z ?_
 refine aj ?_
 refine HE ?_
 refine kg ?_
 refine CS (CD (ts 0 4 (ts 5 4 (ts 10 4 (ts 15 4 (.only 4 (.only 9 (.only 14 (.take 19 (.only 20 (.take 21 .nil)))))))))) ym yr ?_)
 refine A0 ?_
 refine AG (VA.load Z Z Z (ax.jR (ds:=l_ es) hb Z) ?_)
 refine AG (AO (OC (Lc:=[]) (R:=fun v L=>∃p',v=.pointer (some ⟨p',0,none⟩)∧L=[iT p' (bN es).1]) Z (.refl _) (fun Fr w hF hs hS=>Kv.zn Fr w (hx.kv.of hF hs))) Z ?_ ?_)
 ·rintro _ _ ⟨_,⟨q,rfl,rfl⟩,rfl⟩
  exact yz
 rintro _ _ ⟨_,⟨q,rfl,rfl⟩,rfl⟩
 refine AG (AO (OC (Lc:=[]) (R:=fun v L=>∃a' c',v=.slice a' es.length c'∧L=[aA gN 7 a' es.length c' (flat bZ es)]) Z (.refl _) (fun Fr w hF hs hS=>RN Fr w (hx.Kf.of hF hs) hl)) Z ?_ ?_)
 ·rintro _ _ ⟨_,⟨a1,c1,rfl,rfl⟩,rfl⟩
  exact yz
 rintro _ _ ⟨_,⟨a1,c1,rfl,rfl⟩,rfl⟩
 refine AG (AO (OC (Lc:=[]) (R:=fun v L=>∃a' c',v=.slice a' (bN es).2.length c'∧L=[aA ij 4 a' (bN es).2.length c' (flat bb (bN es).2)]) Z (.refl _) (fun Fr w hF hs hS=>RQ Fr w (hx.MT.of hF hs) yd)) Z ?_ ?_)
 ·rintro _ _ ⟨_,⟨a2,c2,rfl,rfl⟩,rfl⟩
  exact yz
 rintro _ _ ⟨_,⟨a2,c2,rfl,rfl⟩,rfl⟩
 refine AG (AI Z (LB (pv:=[(0,pV q),(1,.slice a1 es.length c1),(2,.slice a2 (bN es).2.length c2),(3,.agg (l_ es).toArray)]) (kr es ⟨q,a1,c1,a2,c2⟩) Z Z Z ym Z) ?_)
 refine AG (AO (aQ.box (vs:=kr es ⟨q,a1,c1,a2,c2⟩) Z Z) Z ?_ ?_)
 ·rintro _ _ ⟨pb,rfl,rfl⟩
  exact yz
 rintro _ _ ⟨pb,rfl,rfl⟩
 refine bt ?_
 exact CR (aq.tmp 2 Z Z (aa.log ⟨q,a1,c1,a2,c2⟩ (IP 0 Z (IP 2 Z (IP 1 Z (IP 0 Z aa.nil))))).ah ⟨pb,Z,Z⟩)
end Lg
namespace Rd
open Go Vg T Api Kv Ch
attribute [local irreducible] VO VC VA
theorem AE{n k b M:Nat}(h:n≤k)(hk:k*b≤M):n*b≤M:=pQ (r7 b h) hk
def cM(f:ay)(m:jv):List Value:=f.cells m
abbrev cC:TypeId:=181
structure sh where
 id:Int
 f:ay
 r:iq
abbrev qO:=sh×jv
def dw(x:qO):List Value:=.int .i64 x.1.id::(cM x.1.f x.2++bb x.1.r)
theorem Ar(x:qO):(dw x).length=34:=rfl
abbrev eU:TypeId:=194
abbrev Au:TypeId:=173
structure e9 where
 cap:Int
 last:Int
 l:List sh
structure wo where
 a:Option Addr
 c:Nat
 rows:List qO
def sL(R:e9)(x:wo):List Value:=[.int .i64 R.cap,.int .i64 R.last,.slice x.a x.rows.length x.c]
def uk(p:Nat)(R:e9)(x:wo):List HP:=[pt p (sL R x) Au,aA eU 34 x.a x.rows.length x.c (flat dw x.rows)]
def wm(R:e9)(x:wo):Prop:=x.rows.map Prod.fst=R.l
def bH(p:Nat)(R:e9):HP:=hex fun x=>cR (kO (wm R x)::uk p R x)
structure BA(Fr:Nat→Prop)(w:World)(p:Nat)(R:e9)(x:wo):Prop where
 ok:wm R x
 aC:bu Fr w p (sL R x)
 rows:aV dw 34 Fr w x.a x.rows
theorem BA.of{Fr:Nat→Prop}{w:World}{p:Nat}{R:e9}(h:a8 Fr [bH p R] w):∃x,BA Fr w p R x:=by
 obtain⟨x,h⟩:=h.ex
 have h:=h.sep
 exact⟨x,h.pure 0 Z,h.aC 1 Z,aV.aA Ar (h.at_ 2 Z)⟩
theorem ba.aK(p:Nat)(R:e9):ba (bH p R) (fun x=>wm R x) (fun x=>uk p R x):=by
 rintro w ids ⟨s,h⟩ hn
 obtain⟨F,G,rfl,⟨rfl,h1⟩,h2⟩:=h
 exact DH
theorem aa.aK{p:Nat}{R:e9}{L M:List HP}(x:wo)(hs:wm R x)(h:aa L (uk p R x++M)):aa L (bH p R::M):=
 aa.ex x (aa.sep (aa.trans h (aa.app (L:=uk p R x) (M:=_::uk p R x) (aa.pure hs aa.refl) aa.refl)))
theorem wm.len{R:e9}{x:wo}(h:wm R x):x.rows.length=R.l.length:=by rw[←h];simp
def e9.new(cap:Int):e9:=⟨cap,0,[]⟩
theorem lK{c:Int}(h0:1≤c)(h1:c≤16):az Tryz.prog 50 [.int .i64 c] Fr w [] (fun v L=>∃q,v=.tuple #[.pointer (some ⟨q,0,none⟩),.int .i64 0]∧L=[bH q (e9.new c)]):=by
 refine TF 13 Tryz.func50 Z ym aD Z Z ?_
 refine aj ?_
 refine VG (VY 6 false Z (DF yd) ?_)
 refine bW ?_
 refine CP Z (fun h=>by omega) (fun _=>CK ?_)
 refine aj ?_
 refine VG (VI (LB (pv:=[(0,.int .i64 c)]) (sL (e9.new c) ⟨none,0,[]⟩) Z Z Z ym Z) ?_)
 refine VG (VB (vs:=sL (e9.new c) ⟨none,0,[]⟩) Z fun q=>?_)
 refine aj ?_
 exact CR (aq.dh 2 3 Z Z Z (aa.aK (R:=e9.new c) ⟨none,0,[]⟩ Z (IP 0 Z (aa.dM aa.nil))).ah ⟨q,Z,Z⟩)
section
variable {p:Nat} {R:e9}
theorem gy{c:Int}{cs:List Value}(h:bu Fr w p (.int .i64 c::cs))(hc:1≤c):az Tryz.prog 209 [.pointer (some ⟨p,0,none⟩)] Fr w [] (fun v L=>v=.bool false∧L=[]):=by
 refine TF 12 Tryz.func209 Z ym aD Z Z ?_
 refine aj ?_
 refine VG (VO.split 5 rfl rfl (fun h=>by cases h) (fun _=>?_))
 refine oA ?_
 exact CR (aq.bool 2 Z Z ye ER ⟨rfl,Z⟩)
theorem kP(h:a8 Fr [bH p R] w)(hc:1≤R.cap):az Tryz.prog 137 [.pointer (some ⟨p,0,none⟩)] Fr w [] (fun v L=>v=.int .i64 R.l.length∧L=[]):=by
 obtain⟨x,hx⟩:=BA.of h
 have hb:=hx.aC
 have hlen:=hx.ok.len
 refine TF 10 Tryz.func137 Z ym aD Z Z ?_
 refine aj ?_
 refine VG (VV (fun Fr w hF hs _=>gy Fr w (hb.of hF hs) hc) Z ?_)
 refine kg ?_
 refine kD ?_
 exact CR (aq.int 2 Z Z (by rw[hlen]) ER ⟨rfl,Z⟩)
def e9.om(R:e9):Int:=match R.l.getLast? with
 | some x=>x.id
 | none=>0
theorem pk(h:a8 Fr [bH p R] w)(hc:1≤R.cap)(hl:R.l.length≤1000000):az Tryz.prog 171 [.pointer (some ⟨p,0,none⟩)] Fr w [] (fun v L=>v=.tuple #[.int .i64 R.om,.bool (!R.l.isEmpty)]∧L=[]):=by
 obtain⟨x,hx⟩:=BA.of h
 have hb:=hx.aC
 have hlen:=hx.ok.len
 refine TF 20 Tryz.func171 Z ym aD Z Z ?_
 refine aj ?_
 refine VG (VV (fun Fr w hF hs _=>kP Fr w (h.of hF hs) hc) Z ?_)
 refine aj ?_
 refine CE Z (fun h1=>?_) (fun h1=>CK ?_)
 ·have h0:R.l=[]:=iz yd
  refine aj ?_
  exact CR (aq.dh 2 3 Z Z Z ER ⟨by rw[e9.om,h0];rfl,Z⟩)
 ·have hpos:0<x.rows.length:=by omega
  obtain⟨y,hy⟩:∃y,x.rows[x.rows.length-1]?=some y:=⟨_,GE yd⟩
  have hgl:R.l.getLast?=some y.1:=by rw[v7,←hx.ok,eh,cW,hy];rfl
  obtain⟨eb,eo,hea,ra,rc⟩:=aV.rd (X:=⟨Tryz.prog,tab,aD,20,Fr,w⟩) hx.rows hy
  have hb2:bu Fr w p [.int .i64 R.cap,.int .i64 R.last,.slice (some ⟨eb,eo,none⟩) x.rows.length x.c]:=by rw[←hea];exact hb
  refine CS (CD (ts 0 15 .nil) ym yr ?_)
  (repeat(first|refine yG (yN ?_)|refine yG (yE rfl rfl rfl (ax.aC hb2 rfl) ?_)))
  refine xM ?_
  refine AG (AI Z (fp (x.rows.length-1) Z Z Z Z Z yd yd) ?_)
  refine bt ?_
  refine AG (VA.load Z Z Z (rc _ _ 0 _ Z Z) ?_)
  refine bt ?_
  exact CR (aq.dh 2 3 Z Z Z ER ⟨by
   rw[e9.om,hgl]
   cases hR:R.l with
   | nil=>exfalso;apply h1;rw[hR];rfl
   | cons _ _=>rfl,rfl⟩)
end
theorem EU{a:Option Addr}{cap:Nat}{l:List aR}(h:aV aH 2 Fr w a l)(hl:l.length≤1000000):
  az Tryz.prog 247 [.slice a l.length cap] Fr w [] (fun v L=>∃a' c',v=.slice a' l.length c'∧L=[aA aU 2 a' l.length c' (flat aH l)]):=by
 refine TF 8 Tryz.func247 Z ym aD Z Z ?_
 cases a with
 | none=>
  obtain rfl:l=[]:=by
   cases l with
   | nil=>rfl
   | cons x l=>obtain⟨b,o,h1,_⟩:=h.at_ yf;cases h1
  refine rT ?_
  exact A1
 | some a=>
  refine kg ?_
  refine CS (CG (VG (VO.buildSlice (n:=0) (pv:=[]) [] Z Z Z Z yo Z fun b=>?_)))
  refine HF ?_
  refine VG (VO.append (m:=l.length) (news:=flat aH l) 0 Z Z Z Z Z Z Z (aV.row cn h) (qd vc _) D0 yd fun a' c' _=>?_)
  rw[di,nN]
  refine aj ?_
  exact A2
theorem CO(f:ay){a:Option Addr}{cap:Nat}{ms:List aR}(h:aV aH 2 Fr w a ms)(hl:ms.length≤1000000):az Tryz.prog 268 [.agg (cM f (a,ms.length,cap)).toArray] Fr w [] (fun v L=>(∃m,v=.agg (cM f m).toArray)∧L=[]):=by
 refine TF 10 Tryz.func268 Z ym aD Z Z ?_
 refine CS (CG (VG (VB (vs:=cM f (a,ms.length,cap)) Z (fun b=>VG (VO.alloc Z fun c=>VG (VN ?_))))))
 refine dz ?_
 refine VG (VK (Lc:=[]) (fun Fr w hF hs _=>EU Fr w (h.of hF hs) hl) Z Z ?_)
 rintro _ _ ⟨a',c',rfl,rfl⟩
 refine VG (VO.st 2 (cs':=cM f (a',ms.length,c')) Z Z Z Z (by show 24<29;omega) Z Z (VG (VN ?_)))
 refine CS (CG (VG (VL 2 (cM f (a',ms.length,c')) Z Z Z Z (VG (VT (vs:=cM f (a',ms.length,c')) (cs':=cM f (a',ms.length,c')) 1 Z Z Z Z (NR _) Z Z Z (VG (VN ?_)))))))
 exact CR (aq.cell 2 Z Z Z (ax.many 1 Z Z) aa.nil.ah ⟨⟨_,Z⟩,Z⟩)
def e9.put(R:e9)(f:ay)(r:iq):e9:=if (R.l.length:Int)<R.cap then { R with last:=R.last+1,l:=R.l ++ [⟨R.last+1,f,r⟩] } else R
theorem WW(p:Nat)(R:e9)(hc:1≤R.cap)(hc1:R.cap≤16)(h0:0≤R.last)(h1:R.last≤1000000000)(f:ay){a:Option Addr}{cap:Nat}{ms:List aR}(h:aV aH 2 Fr w a ms)(hl:ms.length≤1000000)(r:iq):
  az Tryz.prog 238 [.pointer (some ⟨p,0,none⟩),.agg (cM f (a,ms.length,cap)).toArray,.agg (bb r).toArray] Fr w [bH p R]
   (fun v L=>v=(if (R.l.length:Int)<R.cap then .tuple #[.int .i64 (R.last+1),.int .i64 0] else .tuple #[.int .i64 0,.int .i64 60])∧L=[bH p (R.put f r)]):=by
 refine TF 50 Tryz.func238 Z ym aD Z Z ?_
 refine CS (CG (VG (VB (vs:=cM f (a,ms.length,cap)) Z fun fb=>VG (VB (vs:=bb r) Z fun rb=>VG (VN ?_)))))
 refine VC.bJ 2 Z (ba.aK p R) ?_
 rintro x hx
 have hlen:=hx.len
 unfold uk
 show VC _ _ _ [pt p (sL R x) Au,aA eU 34 x.a x.rows.length x.c (flat dw x.rows),pt rb (bb r) 131,pt fb (cM f (a,ms.length,cap)) cC] _
 refine aj ?_
 refine VG (VV (fun Fr w hF hs hS=>gy Fr w (hS.aC 0 Z) hc) Z ?_)
 refine aj ?_
 refine qC ?_
 refine CS (CD (ts 0 11 .nil) ym yr ?_)
 refine bt ?_
 by_cases hfull:(R.l.length:Int)<R.cap
 ·refine CP Z (fun h=>by omega) (fun _=>CK ?_)
  refine ta ?_
  refine VG (VO.st 0 (cs':=[.int .i64 R.cap,.int .i64 (R.last+1),.slice x.a x.rows.length x.c]) Z Z Z Z (hZ Z) Z Z ?_)
  refine lg ?_
  refine CS (CD (ts 0 10 (.take 11 (.only 10 (.take 12 (.only 13 (.only 14 (ts 15 2 (.only 17 .nil)))))))) ym yr ?_)
  refine bt ?_
  refine AG (VA.dQ 3 (cM f (a,ms.length,cap)) Z Z Z Z Z ?_)
  refine AG (VA.dQ 2 (bb r) Z Z Z Z Z ?_)
  refine AG (VA.dK (φ:=fun v=>∃m,v=.agg (cM f m).toArray) (fun Fr w hF hs hS=>CO Fr w f (h.of hF hs) hl) Z Z yu ?_)
  rintro _ ⟨m,rfl⟩
  refine AG (AI Z (LB (pv:=[(0,.int .i64 (R.last+1)),(1,.agg (cM f m).toArray),(2,.agg (bb r).toArray)]) (dw (⟨R.last+1,f,r⟩,m)) Z Z Z ym Z) ?_)
  refine AG (AO (aQ.buildSlice (n:=1) (pv:=[(0,.agg (dw (⟨R.last+1,f,r⟩,m)).toArray)]) (cells:=dw (⟨R.last+1,f,r⟩,m)) Z Z Z Z yo (ji Z Z Z)) Z ?_ ?_)
  ·rintro _ _ ⟨nb,rfl,rfl⟩
   exact yu
  rintro _ _ ⟨nb,rfl,rfl⟩
  refine AG (AO (aQ.append (m:=1) (news:=dw (⟨R.last+1,f,r⟩,m)) 2 Z Z Z Z Z Z Z (fv.pt 0 Z Z Z) Z (AE (k:=101) yd yo) yd) Z ?_ ?_)
  ·rintro _ _ ⟨a1,c1,rfl,hc1,rfl⟩
   exact yu
  rintro _ _ ⟨a1,c1,rfl,hc1,rfl⟩
  refine rN ?_
  refine AG (VA.st 2 (cs':=[.int .i64 R.cap,.int .i64 (R.last+1),.slice a1 (x.rows.length+1) c1]) Z Z Z Z Z (hZ Z) Z Z yu ?_)
  refine rN ?_
  refine gK ?_
  have hput:R.put f r={ R with last:=R.last+1,l:=R.l ++ [⟨R.last+1,f,r⟩] }:=by rw[e9.put,if_pos hfull]
  refine CR (aq.dh 6 7 Z Z Z (aa.aK ⟨a1,c1,x.rows ++ [(⟨R.last+1,f,r⟩,m)]⟩ (R:=R.put f r) ?_ ?_).ah ⟨by rw[if_pos hfull],Z⟩)
  ·rw[hput];show List.map _ _=_;rw[hU,hx];rfl
  ·rw[hput]
   unfold uk sL
   rw[a_,jU,lZ,sv,bK]
   exact(bm [2,0])
 ·refine CP Z (fun h=>?_) (fun h=>by omega)
  have hput:R.put f r=R:=by rw[e9.put,if_neg hfull]
  refine aj ?_
  exact CR (aq.dh 6 7 Z Z Z (aa.aK x hx (IP 0 Z (IP 0 Z aa.nil))).ah ⟨by rw[if_neg hfull],by rw[hput]⟩)
end Rd
namespace Vg
open Go
section
variable {tB:TypeId}
end
theorem RL.Ok.ld{α:Type}{c:α→List Value}{n t:Nat}{r:RL α}(h:r.Ok c n){k:Nat}{x:α}(hx:r.xs[k]?=some x)(hc:(c x).length=n):∃b off,r.aC=some b∧r.addr=some ⟨b,off,Option.none⟩ ∧
  ∀{X:Cx} {L:List HP} (i:Nat),L[i]?=some (r.h t)→(∀ti:TI,n=ti.size→ti.aJ.agg=true→ax X L ti b (off+k*n) (.agg (c x).toArray)) ∧
   ∀(ti:TI) (j:Nat) (v:Value),ti.aJ.agg=false→(c x)[j]?=some v→ax X L ti b (off+k*n+j) v:=by
 obtain⟨b,off,h1,h2,h3⟩:=h.nth hx
 refine⟨b,off,h1,h2,fun {X L} i hL=>?_⟩
 rw[RL.FA h1] at hL
 refine⟨fun ti hn ha=>ax.many i hL (by rw[←hn];exact h3) (by rw[hc,hn]) ha,fun ti j v ha hv=>ax.one i hL ?_ ha⟩
 rw[←h3,tq] at hv
 split at hv
 ·rw[rZ] at hv;exact hv
 ·cases hv
end Vg
namespace Rd
open Go Vg T Api Kv Ch
attribute [local irreducible] VO VC VA
theorem Jr{Fr Fr':Nat→Prop}{w w':World}{b:Nat}{cs:List Value}(h:bu Fr w b cs)(hF:∀b,Fr b→Fr' b)(hk:dG Fr w w'):bu Fr' w' b cs:=by
 obtain⟨t,fz,ht⟩:=h.at_
 exact⟨hF b h.fr,t,fz,by rw[hk.block b h.fr];exact ht⟩
theorem AK(p:Nat)(R:e9)(hc:1≤R.cap)(hl:R.l.length≤100)(g:FuncId)(capt:List Value)(st:sh→Bool)
  (hg:∀Fr' w',(∀b,Fr b→Fr' b)→dG Fr w w'→∀row:qO,az Tryz.prog g (.agg (dw row).toArray::capt) Fr' w' [] (fun v L=>v=.bool (st row.1)∧L=[])):
  az Tryz.prog 154 [.pointer (some ⟨p,0,none⟩),gk g [] capt] Fr w [bH p R]
   (fun v L=>∃a c rows,rows.map Prod.fst=R.l.filter (fun x=>!st x)∧v=.slice a rows.length c∧L=[bH p { R with l:=R.l.filter st },aA eU 34 a rows.length c (flat dw rows)]):=by
 refine TF 37 Tryz.func154 Z ym aD Z Z ?_
 refine VC.bJ 0 Z (ba.aK p R) ?_
 rintro x hx
 have hlen:=hx.len
 unfold uk
 show VC _ _ _ [pt p (sL R x) Au,aA eU 34 x.a x.rows.length x.c (flat dw x.rows)] _
 refine aj ?_
 refine VG (VV (fun Fr w hF hs hS=>gy Fr w (hS.aC 0 Z) hc) Z ?_)
 refine kg ?_
 refine VC.bJ 1 Z (ba.rl eU x.a x.c x.rows Ar) ?_
 rintro r ⟨rok,hrv,hrx⟩
 show VC _ _ _ [r.h eU,pt p (sL R x) Au] _
 refine dz ?_
 refine VC.loop (σ:=Nat×List qO×List qO×(Option Addr×Nat)×(Option Addr×Nat)) (fun y=>[(0,pV p),(1,gk g [] capt),(5,.slice y.2.2.2.1.1 y.2.1.length y.2.2.2.1.2),(6,.slice y.2.2.2.2.1 y.2.2.1.length y.2.2.2.2.2),(14,.slice x.a x.rows.length x.c),(15,.int .i64 x.rows.length),(16,.int .i64 y.1)])
  (fun y=>[aA eU 34 y.2.2.2.1.1 y.2.1.length y.2.2.2.1.2 (flat dw y.2.1),aA eU 34 y.2.2.2.2.1 y.2.2.1.length y.2.2.2.2.2 (flat dw y.2.2.1),pt p (sL R x) Au,r.h eU])
  (fun y=>y.1≤x.rows.length∧y.2.1.map Prod.fst=(R.l.take y.1).filter st∧y.2.2.1.map Prod.fst=(R.l.take y.1).filter (fun z=>!st z)∧y.2.1.length≤y.1∧y.2.2.1.length≤y.1) (fun y=>x.rows.length-y.1) (0,[],[],(none,0),(none,0))
  ⟨bU _,rfl,rfl,NR _,NR _⟩ aP (aa.dM (aa.dM (bm [1,0]))).ah ?_
 rintro⟨i,K,D,⟨ak,ck⟩,⟨ag,cg⟩⟩ ⟨hi,hK,hD,hKl,hDl⟩
 dsimp only at hi hK hD hKl hDl ⊢
 refine aj ?_
 refine CP Z (fun h1=>CK ?_) (fun h1=>CX ?_)
 ·have hi2:i<x.rows.length:=by omega
  obtain⟨row,hrow⟩:∃row,x.rows[i]?=some row:=⟨_,GE hi2⟩
  have hli:R.l[i]?=some row.1:=by rw[←hx,eh,hrow];rfl
  have htk:R.l.take (i+1)=R.l.take i ++ [row.1]:=by rw[jb,hli];rfl
  obtain⟨rb,ro,r1,r2,hrd⟩:=rok.ld (t:=eU) (hrx▸hrow) rfl
  have hxa:x.a=some ⟨rb,ro,none⟩:=by rw[RL.v,r2,hrx] at hrv;injection hrv with e1;exact e1.symm
  rw[hxa]
  refine uE ?_
  refine VG (VO.load Z Z ((hrd 3 Z).1 _ Z Z) ?_)
  refine VG (VO.alloc Z fun tb=>?_)
  refine VG (VT (vs:=dw row) 0 Z Z Z Z (NR _) Z Z Z ?_)
  refine IT ?_
  refine VG (VO.wz (u:=.bool (st row.1)) Z (fun Fr w hF hs hS=>hg Fr w hF hs.cS row) Z ?_)
  refine aj ?_
  refine CC Z (fun hst=>?_) (fun hst=>?_)
  ·refine IT ?_
   refine VG (VO.buildSlice (n:=1) (pv:=[(0,.agg (dw row).toArray)]) (dw row) Z Z Z Z yo (ji Z Z Z) fun nb=>?_)
   refine VG (VO.append (m:=1) (news:=dw row) 2 Z Z Z Z Z Z Z (fv.pt 0 Z Z Z) Z (AE (k:=201) yd yo) yd fun a2 c2 hc2=>?_)
   refine jJ ?_
   have hL:(K ++ [row]).length=K.length+1:=by simp
   have hF:flat dw (K ++ [row])=flat dw K++dw row:=by simp[jU,lZ,sv]
   refine⟨(i+1,K ++ [row],D,(a2,c2),(ag,cg)),⟨hi2,?_,?_,by dsimp only;rw[hL];omega,by dsimp only;omega⟩,by dsimp only;omega,SC Z (SC Z (SC (by rw[hL];rfl) aP)),?_⟩
   ·dsimp only;rw[hU,hK,htk,tp];simp[hst]
   ·dsimp only;rw[hD,htk,tp];simp[hst]
   ·dsimp only;rw[hL,hF];exact(bm [0,2,2,2]).ah
  ·refine IT ?_
   refine VG (VO.buildSlice (n:=1) (pv:=[(0,.agg (dw row).toArray)]) (dw row) Z Z Z Z yo (ji Z Z Z) fun nb=>?_)
   refine VG (VO.append (m:=1) (news:=dw row) 3 Z Z Z Z Z Z Z (fv.pt 0 Z Z Z) Z (AE (k:=201) yd yo) yd fun a2 c2 hc2=>?_)
   refine jJ ?_
   have hL:(D ++ [row]).length=D.length+1:=by simp
   have hF:flat dw (D ++ [row])=flat dw D++dw row:=by simp[jU,lZ,sv]
   refine⟨(i+1,K,D ++ [row],(ak,ck),(a2,c2)),⟨hi2,?_,?_,by dsimp only;omega,by dsimp only;rw[hL];omega⟩,by dsimp only;omega,SC Z (SC Z (SC Z (SC (by rw[hL];rfl) aP))),?_⟩
   ·dsimp only;rw[hK,htk,tp];simp[hst]
   ·dsimp only;rw[hU,hD,htk,tp];simp[hst]
   ·dsimp only;rw[hL,hF];exact(bm [3,0,2,2]).ah
 ·obtain rfl:i=x.rows.length:=by omega
  rw[hlen,lj] at hK hD
  refine aj ?_
  refine VG (VO.st 2 (cs':=[.int .i64 R.cap,.int .i64 R.last,.slice ak K.length ck]) Z Z Z Z (hZ Z) Z Z ?_)
  refine aj ?_
  exact CR (aq.tmp 4 Z Z (aa.aK (R:={ R with l:=R.l.filter st }) ⟨ak,ck,K⟩ hK (IP 2 Z (IP 0 Z (IP 0 Z aa.nil)))).ah ⟨ag,cg,D,hD,Z,Z⟩)
section
variable {p:Nat} {R:e9}
def k_(id:Int)(x:sh):Bool:=decide (id<x.id)
def nt(now:Int)(x:sh):Bool:=decide (now≤x.f.deadline)
theorem Yk{b:Nat}{id:Int}(hb:bu Fr w b [.int .i64 id])(row:qO):az Tryz.prog 246 [.agg (dw row).toArray,.pointer (some ⟨b,0,none⟩)] Fr w [] (fun v L=>v=.bool (k_ id row.1)∧L=[]):=by
 refine TF 8 Tryz.func246 Z ym aD Z Z ?_
 refine CS (CG (VG (VB (vs:=dw row) Z fun rb=>?_)))
 refine OH ?_
 exact CR (aq.tmp 3 Z Z aa.nil.ah ⟨rfl,Z⟩)
theorem SL{b:Nat}{now:Int}(hb:bu Fr w b [.int .i64 now])(row:qO):az Tryz.prog 155 [.agg (dw row).toArray,.pointer (some ⟨b,0,none⟩)] Fr w [] (fun v L=>v=.bool (nt now row.1)∧L=[]):=by
 refine TF 9 Tryz.func155 Z ym aD Z Z ?_
 refine CS (CG (VG (VB (vs:=dw row) Z fun rb=>?_)))
 refine OH ?_
 exact CR (aq.tmp 3 Z Z aa.nil.ah ⟨rfl,Z⟩)
theorem Td(row:qO):az Tryz.prog 273 [.agg (dw row).toArray] Fr w [] (fun v L=>v=.bool false∧L=[]):=by
 refine TF 3 Tryz.func273 Z ym aD Z Z ?_
 refine CS (CG (VG (VB (vs:=dw row) Z fun rb=>?_)))
 refine aj ?_
 exact sW
theorem Yn(hc:1≤R.cap)(hl:R.l.length≤100)(id:Int):az Tryz.prog 193 [.pointer (some ⟨p,0,none⟩),.int .i64 id] Fr w [bH p R]
   (fun v L=>∃a c rows,rows.map Prod.fst=R.l.filter (fun x=>!k_ id x)∧v=.slice a rows.length c∧L=[bH p { R with l:=R.l.filter (k_ id) },aA eU 34 a rows.length c (flat dw rows)]):=by
 refine TF 8 Tryz.func193 Z ym aD Z Z ?_
 refine CS (CG (VG (VO.vi (aQ.box (vs:=[.int .i64 id]) Z Z) ?_)))
 rintro _ _ ⟨b,rfl,rfl⟩
 refine aj ?_
 refine Hu ?_
 refine VO.ah (L':=[bH p R,pt b [.int .i64 id] 3]) (bm [1,0]).ah ?_
 refine VG (VK (Lc:=[bH p R]) (fun Fr w hF hw hS=>AK Fr w p R hc hl 246 [.pointer (some ⟨b,0,none⟩)] (k_ id) (fun Fr' w' hF' hk row=>Yk Fr' w' (Jr (hS.aC 0 Z) hF' hk) row)) Z Z ?_)
 rintro _ _ ⟨a,c,rows,h1,rfl,rfl⟩
 refine aj ?_
 exact OI
theorem wN(hc:1≤R.cap)(hl:R.l.length≤100)(now:Int):az Tryz.prog 98 [.pointer (some ⟨p,0,none⟩),.int .i64 now] Fr w [bH p R]
   (fun v L=>∃a c rows,rows.map Prod.fst=R.l.filter (fun x=>!nt now x)∧v=.slice a rows.length c∧L=[bH p { R with l:=R.l.filter (nt now) },aA eU 34 a rows.length c (flat dw rows)]):=by
 refine TF 8 Tryz.func98 Z ym aD Z Z ?_
 refine CS (CG (VG (VO.vi (aQ.box (vs:=[.int .i64 now]) Z Z) ?_)))
 rintro _ _ ⟨b,rfl,rfl⟩
 refine aj ?_
 refine Hu ?_
 refine VO.ah (L':=[bH p R,pt b [.int .i64 now] 3]) (bm [1,0]).ah ?_
 refine VG (VK (Lc:=[bH p R]) (fun Fr w hF hw hS=>AK Fr w p R hc hl 155 [.pointer (some ⟨b,0,none⟩)] (nt now) (fun Fr' w' hF' hk row=>SL Fr' w' (Jr (hS.aC 0 Z) hF' hk) row)) Z Z ?_)
 rintro _ _ ⟨a,c,rows,h1,rfl,rfl⟩
 refine aj ?_
 exact OI
theorem Fo(hc:1≤R.cap)(hl:R.l.length≤100):az Tryz.prog 242 [.pointer (some ⟨p,0,none⟩)] Fr w [bH p R]
   (fun v L=>∃a c rows,rows.map Prod.fst=R.l∧v=.slice a rows.length c∧L=[bH p { R with l:=[] },aA eU 34 a rows.length c (flat dw rows)]):=by
 refine TF 5 Tryz.func242 Z ym aD Z Z ?_
 refine aj ?_
 refine VG (VK (Lc:=[bH p R]) (fun Fr w hF hw hS=>AK Fr w p R hc hl 273 [] (fun _=>false) (fun Fr' w' hF' hk row=>Td Fr' w' row)) Z Z ?_)
 rintro _ _ ⟨a,c,rows,h1,rfl,rfl⟩
 refine aj ?_
 refine CR (aq.tmp 2 Z Z ER ⟨a,c,rows,?_,Z,?_⟩)
 ·rw[h1];simp
 ·rw[show R.l.filter (fun _=>false)=[] from List.filter_eq_nil_iff.2 yf];rfl
end
end Rd
namespace Ring
open Go Vg T Api
attribute [local irreducible] VO VC VA
theorem EV(m:jv)(h:mE Fr w m):az Tryz.prog 247 [.slice m.1 m.2.1 m.2.2] Fr w [] (fun v L=>∃m':jv,v=.slice m'.1 m'.2.1 m'.2.2∧L=[jZ m']):=by
 obtain⟨a,n,c⟩:=m
 obtain⟨l,hl,hl2,h⟩:=h
 dsimp only at hl h ⊢
 subst hl
 have key:∀(a':Option Addr) (c':Nat),aa [aA aU 2 a' l.length c' (flat aH l)] [jZ (a',l.length,c')]:=fun a' c'=>
  aa.ex (f:=fun ms:List aR=>cR [kO (ms.length=l.length∧ms.length≤1000000),aA aU 2 a' l.length c' (flat aH ms)]) l (aa.sep (Ls:=[kO _,aA aU 2 a' l.length c' (flat aH l)]) (aa.pure ⟨rfl,hl2⟩ aa.refl))
 refine TF 8 Tryz.func247 Z ym aD Z Z ?_
 cases a with
 | none=>
  obtain rfl:l=[]:=by
   cases l with
   | nil=>rfl
   | cons x l=>obtain⟨b,o,h1,_⟩:=h.at_ yf;cases h1
  refine rT ?_
  exact CR (aq.tmp 2 Z Z (aa.FX aa.nil).ah ⟨(none,0,0),Z,Z⟩)
 | some a=>
  refine kg ?_
  refine CS (CG (VG (VO.buildSlice (n:=0) (pv:=[]) [] Z Z Z Z yo Z fun b=>?_)))
  refine HF ?_
  refine VG (VO.append (m:=l.length) (news:=flat aH l) 0 Z Z Z Z Z Z Z (aV.row cn h) (qd vc _) D0 yd fun a' c' _=>?_)
  rw[di,nN]
  refine aj ?_
  exact CR (aq.tmp 2 Z Z (key a' c').ah ⟨(a',l.length,c'),Z,Z⟩)
theorem CO(p:FM)(h:mE Fr w p.2):az Tryz.prog 285 [.agg (aY p).toArray] Fr w [] (fun v L=>∃m,v=.agg (aY (p.1,m)).toArray∧L=[jZ m]):=by
 refine TF 10 Tryz.func285 Z ym aD Z Z ?_
 refine CS (CG (VG (VB (vs:=aY p) Z (fun b=>VG (VO.alloc Z fun c=>VG (VN ?_))))))
 refine dz ?_
 refine VG (VK (Lc:=[]) (fun Fr w hF hs _=>EV Fr w p.2 (h.of hF hs)) Z Z ?_)
 rintro _ _ ⟨m,rfl,rfl⟩
 refine VG (VO.st 2 (cs':=aY (p.1,m)) Z Z Z Z (by show 24<29;omega) Z Z (VG (VN ?_)))
 refine CS (CG (VG (VL 2 (aY (p.1,m)) Z Z Z Z (VG (VT (vs:=aY (p.1,m)) (cs':=aY (p.1,m)) 1 Z Z Z Z (NR _) Z Z Z (VG (VN ?_)))))))
 exact CR (aq.cell 2 Z Z Z (ax.many 1 Z Z) (IP 0 Z aa.nil).ah ⟨m,Z,Z⟩)
structure tC where
 pb:Nat
 pl:List FM
 first:Nat
structure mZ(q:List ay)(cap:Nat)(s:tC):Prop where
 len:s.pl.length=cap
 dL:1≤cap
 fO:cap≤64
 first:s.first<cap
 C3:q.length≤cap
 at_:∀i,i<q.length→(s.pl[(s.first+i) % cap]?).map Prod.fst=q[i]?
def xp(q:List ay)(cap:Nat)(s:tC):List Value:=[.slice (some ⟨s.pb,0,none⟩) cap cap,.int .i64 s.first,.int .i64 q.length]
def rD(p:Nat)(q:List ay)(cap:Nat)(s:tC):List HP:=pt p (xp q cap s) 295::pt s.pb (flat aY s.pl) 181::s.pl.map fun r=>jZ r.2
def dE(p:Nat)(q:List ay)(cap:Nat):HP:=hex fun s=>cR (kO (mZ q cap s)::rD p q cap s)
structure BB(Fr:Nat→Prop)(w:World)(p:Nat)(q:List ay)(cap:Nat)(s:tC):Prop where
 ok:mZ q cap s
 ring:bu Fr w p (xp q cap s)
 Wr:bu Fr w s.pb (flat aY s.pl)
 mem:∀(i:Nat) (r:FM),s.pl[i]?=some r→mE Fr w r.2
theorem BB.of{Fr:Nat→Prop}{w:World}{p:Nat}{q:List ay}{cap:Nat}(h:a8 Fr [dE p q cap] w):∃s,BB Fr w p q cap s:=by
 obtain⟨s,h⟩:=h.ex
 have h:=h.sep
 exact⟨s,h.pure 0 Z,h.aC 1 Z,h.aC 2 Z,fun i r hr=>mE.sat (h.at_ (i+3) (Ve hr))⟩
theorem ba.ring(p:Nat)(q:List ay)(cap:Nat):ba (dE p q cap) (fun s=>mZ q cap s) (fun s=>rD p q cap s):=by
 rintro w ids ⟨s,h⟩ hn
 obtain⟨F,G,rfl,⟨rfl,h1⟩,h2⟩:=h
 exact DH
theorem aa.ring{p:Nat}{q:List ay}{cap:Nat}{L M:List HP}(s:tC)(hs:mZ q cap s)(h:aa L (rD p q cap s++M)):aa L (dE p q cap::M):=
 aa.ex s (aa.sep (aa.trans h (aa.app (L:=rD p q cap s) (M:=_::rD p q cap s) (aa.pure hs aa.refl) aa.refl)))
theorem gy{p:Nat}{a:Addr}{n c:Nat}{cs:List Value}(h:bu Fr w p (.slice (some a) n c::cs)):az Tryz.prog 275 [.pointer (some ⟨p,0,none⟩)] Fr w [] (fun v L=>v=.bool false∧L=[]):=by
 refine TF 12 Tryz.func275 Z ym aD Z Z ?_
 refine aj ?_
 refine VG (VO.split 5 rfl rfl (fun h=>by cases h) (fun _=>?_))
 refine oA ?_
 exact vM
theorem Gu{p pb first cap:Nat}{cs:List Value}(i:Nat)(h:bu Fr w p (.slice (some ⟨pb,0,none⟩) cap cap :: .int .i64 first::cs))(hc:1≤cap)(h1:first≤1000)(h2:i≤1000):
  az Tryz.prog 278 [.pointer (some ⟨p,0,none⟩),.int .i64 i] Fr w [] (fun v L=>v=.int .i64 ((first+i) % cap:Nat)∧L=[]):=by
 refine TF 17 Tryz.func278 Z ym aD Z Z ?_
 refine aj ?_
 refine CD (ts 0 13 .nil) ym ym ?_
 refine rL ?_
 refine AG (AP Z Z Z ?_ ?_ ?_)
 ·omega
 ·omega
 refine rL ?_
 refine AG (AI Z (K0 Z Z ?_ ?_) ?_)
 ·omega
 ·omega
 refine bt ?_
 exact CR (aq.int 4 Z Z (by push_cast;rfl) ER ⟨rfl,Z⟩)
theorem kP{p:Nat}{q:List ay}{cap:Nat}(h:a8 Fr [dE p q cap] w):az Tryz.prog 253 [.pointer (some ⟨p,0,none⟩)] Fr w [] (fun v L=>v=.int .i64 q.length∧L=[]):=by
 obtain⟨s,h⟩:=BB.of h
 have hb:=h.ring
 refine TF 9 Tryz.func253 Z ym aD Z Z ?_
 refine aj ?_
 refine VG (VV (fun Fr w hF hs _=>gy Fr w (hb.of hF hs)) Z ?_)
 refine kg ?_
 refine kD ?_
 exact vL
theorem mZ.place{q:List ay}{cap:Nat}{s:tC}(h:mZ q cap s){i:Nat}(hi:i<q.length):∃p:FM,s.pl[(s.first+i) % cap]?=some p∧q[i]?=some p.1:=by
 have h1:=h.at_ i hi
 have h2:(s.first+i) % cap<s.pl.length:=by rw[h.len];exact wi _ h.dL
 refine⟨_,GE h2,?_⟩
 rw[←h1,GE h2];rfl
def atR(q:List ay)(i:Nat)(v:Value)(L:List HP):Prop:=match q[i]? with
 | some f=>∃m,v=.tuple #[.agg (aY (f,m)).toArray,.bool true]∧L=[jZ m]
 | none=>v=.tuple #[.agg (aY fB).toArray,.bool false]∧L=[]
theorem za{p:Nat}{q:List ay}{cap:Nat}(i:Nat)(h:a8 Fr [dE p q cap] w):az Tryz.prog 277 [.pointer (some ⟨p,0,none⟩),.int .i64 i] Fr w [] (atR q i):=by
 obtain⟨s,h⟩:=BB.of h
 have hb:=h.ring
 have hp:=h.Wr
 refine TF 31 Tryz.func277 Z ym aD Z Z ?_
 refine CS (CG (VG (VO.alloc Z fun b=>VG (VN ?_))))
 refine aj ?_
 refine VG (VV (fun Fr w hF hs _=>gy Fr w (hb.of hF hs)) Z (VG (VY 8 false Z Z ?_)))
 refine aj ?_
 refine VG (VY 12 false Z (DF yd) ?_)
 refine kD ?_
 refine CP Z (fun h1=>?_) (fun h1=>?_)
 ·refine CS (CG (VG (VI (LB (pv:=[]) (aY fB) Z Z Z Z Z) (VG (VT (vs:=aY fB) (cs':=aY fB) 0 Z Z Z Z (NR _) Z Z Z (VG (VN ?_)))))))
  refine CR (aq.dB 4 5 Z Z Z (ax.many 0 Z Z) Z aa.nil.ah ?_)
  have h1:q.length≤i:=by omega
  simp only[atR,lO h1]
  exact⟨rfl,trivial⟩
 ·have h1:i<q.length:=by omega
  have hq:=h.ok.C3
  have hc:=h.ok.fO
  have hf:=h.ok.first
  obtain⟨f,hf1,hf2⟩:=h.ok.place h1
  have hlt:(s.first+i) % cap<cap:=wi _ h.ok.dL
  refine CK ?_
  refine CS (CD (ts 0 6 (.only 6 (ts 7 2 (.only 9 (.only 10 (.take 11 .nil)))))) ym ym ?_)
  refine A0 ?_
  refine AG (VA.dK (fun Fr w hF hs _=>Gu Fr w i (hb.of hF hs) h.ok.dL yd yd) Z Z (Pd.cons (ax.aC hb Z) Pd.nil).st ?_)
  rintro _ rfl
  refine AG (AI Z (fp ((s.first+i) % cap) Z Z Z Z Z Z hlt) ?_)
  have hrow:((flat aY s.pl).drop (0+(s.first+i) % cap*29)).take 29=aY f:=by
   have:=ph uW hf1 []
   rwa[bK,←di (_*29)] at this
  refine AG (VA.load Z Z Z (ax.jR hp hrow) ?_)
  refine AG (AO (OC (Lc:=[]) (R:=fun v L=>∃m,v=.agg (aY (f.1,m)).toArray∧L=[jZ m]) Z (.refl _) (fun Fr w hF hs _=>CO Fr w f ((h.mem _ _ hf1).of hF hs))) Z ?_ ?_)
  ·rintro _ _ ⟨_,⟨m,rfl,rfl⟩,rfl⟩
   exact P4
  rintro _ _ ⟨_,⟨m,rfl,rfl⟩,rfl⟩
  refine AG (AT (vs:=aY (f.1,m)) (cs':=aY (f.1,m)) 1 Z Z Z Z Z (NR _) Z Z Z P4 ?_)
  refine bt ?_
  refine CR (aq.dB 4 5 Z Z Z (ax.many 1 Z Z) Z (L':=[jZ m]) (IP 0 Z aa.nil).ah ?_)
  simp only[atR,hf2]
  exact⟨m,Z,Z⟩
theorem Ky{p:Nat}{q:List ay}{cap:Nat}(h:a8 Fr [dE p q cap] w):az Tryz.prog 258 [.pointer (some ⟨p,0,none⟩)] Fr w [] (atR q 0):=by
 refine TF 8 Tryz.func258 Z ym aD Z Z ?_
 refine CS (CG (VG (VO.alloc Z fun b=>VG (VN ?_))))
 refine aj ?_
 refine VG (VK (Lc:=[]) (R:=atR q 0) (fun Fr w hF hs _=>za Fr w 0 (h.of hF hs)) Z Z ?_)
 intro v L hv
 unfold atR at hv
 cases hq:q[0]? with
 | some f=>
  rw[hq] at hv
  obtain⟨m,rfl,rfl⟩:=hv
  refine OJ ?_
  refine CR (aq.dB 2 3 Z Z Z (ax.many 1 Z Z) Z (L':=[jZ m]) (IP 0 Z aa.nil).ah ?_)
  simp only[atR,hq]
  exact⟨m,Z,Z⟩
 | none=>
  rw[hq] at hv
  obtain⟨rfl,rfl⟩:=hv
  refine OK ?_
  refine CR (aq.dB 2 3 Z Z Z (ax.many 0 Z Z) Z aa.nil.ah ?_)
  simp only[atR,hq]
  exact⟨rfl,trivial⟩
theorem LM{a i j c:Nat}(h1:i<j)(h2:j<c):(a+i) % c≠(a+j) % c:=fun h=>by
 have:=Nat.sub_mod_eq_zero_of_mod_eq h.symm
 rw[show a+j-(a+i)=j-i from by omega,Nat.mod_eq_of_lt yd] at this
 omega
theorem mZ.push{q:List ay}{cap:Nat}{s:tC}(h:mZ q cap s)(hq:q.length<cap)(f:ay)(m:yR):mZ (q ++ [f]) cap { s with pl:=s.pl.set ((s.first+q.length) % cap) (f,m) }:=by
 have hlt:(s.first+q.length) % cap<s.pl.length:=by rw[h.len];exact wi _ h.dL
 refine⟨by simpa using h.len,h.dL,h.fO,h.first,by simp;omega,fun i hi=>?_⟩
 simp only[a_,Ej] at hi
 by_cases hi2:i<q.length
 ·rw[nL hi2,kG (fun e=>LM hi2 hq e.symm)]
  exact h.at_ i hi2
 ·have:i=q.length:=by omega
  subst this
  rw[iM hlt];simp
theorem mZ.pop{f:ay}{q:List ay}{cap:Nat}{s:tC}(h:mZ (f::q) cap s)(z:FM):mZ q cap { s with first:=(s.first+1) % cap,pl:=s.pl.set s.first z }:=by
 have hq:=h.C3
 simp only[iA] at hq
 refine⟨by simpa using h.len,h.dL,h.fO,wi _ h.dL,by omega,fun i hi=>?_⟩
 have h1:=h.at_ (i+1) yk
 have h2:((s.first+1) % cap+i) % cap=(s.first+(i+1)) % cap:=by rw[Nat.mod_add_mod];congr 1;omega
 have h3:s.first≠(s.first+(i+1)) % cap:=fun e=>by
  have:=LM (a:=s.first) (i:=0) (j:=i+1) (c:=cap) yd yd
  rw[yM,Nat.mod_eq_of_lt h.first] at this
  exact this e
 simp only
 rw[h2,kG h3,h1];rfl
def MB(p:Nat)(q:List ay)(cap:Nat)(f:ay)(v:Value)(L:List HP):Prop:=v=.bool (decide (q.length<cap))∧L=[dE p (if q.length<cap then q ++ [f] else q) cap]
theorem vo(p:Nat)(q:List ay)(cap:Nat)(f:FM)(hm:mE Fr w f.2):az Tryz.prog 276 [.pointer (some ⟨p,0,none⟩),.agg (aY f).toArray] Fr w [dE p q cap] (MB p q cap f.1):=by
 refine TF 39 Tryz.func276 Z ym aD Z Z ?_
 refine CS (CG (VG (VB (vs:=aY f) Z fun b=>VG (VN ?_))))
 refine VC.bJ 1 Z (ba.ring p q cap) fun s h=>?_
 refine CN (L':=pt b (aY f) 181::rD p q cap s) (aa.perm jL).ah ?_
 have hq:=h.C3
 have hc:=h.fO
 have hf:=h.first
 refine aj ?_
 refine CD (.take 0 (.only 1 (ts 2 12 .nil))) ym ym ?_
 refine AG (VA.dK (fun Fr w hF _ hs=>gy Fr w (hs.aC 1 Z)) Z Z Pd.nil.st ?_)
 rintro _ rfl
 refine AG (AY 7 false Z Z ?_)
 refine fK ?_
 refine CE Z (fun h1=>?_) (fun h1=>?_)
 ·refine aj ?_
  have h1:¬q.length<cap:=by omega
  exact CR (aq.bool 4 Z Z Z (aa.trans aa.tl (aa.ring s h (aa.of_eq (bK _).symm))).ah ⟨by simp[h1],by simp[h1]⟩)
 ·have h1:q.length<cap:=by omega
  have hlt:(s.first+q.length) % cap<cap:=wi _ h.dL
  refine CK ?_
  refine CS (CD (ts 0 9 (.take 10 (.only 9 (.only 11 (.take 12 (.only 13 .nil)))))) ym ym ?_)
  refine fK ?_
  refine AG (VA.dQ 0 (aY f) Z Z Z Z Z ?_)
  refine AG (VA.dK (fun Fr w hF _ hs=>Gu Fr w q.length (hs.aC 1 Z) h.dL yd yd) Z Z yu ?_)
  rintro _ rfl
  refine AG (AO (OC (Lc:=[]) (R:=fun v L=>∃m,v=.agg (aY (f.1,m)).toArray∧L=[jZ m]) Z (.refl _) (fun Fr w hF hs _=>CO Fr w f (hm.of hF hs))) Z ?_ ?_)
  ·rintro _ _ ⟨_,⟨m,rfl,rfl⟩,rfl⟩
   exact yu
  rintro _ _ ⟨_,⟨m,rfl,rfl⟩,rfl⟩
  refine AG (AI Z (fp ((s.first+q.length) % cap) Z Z Z Z Z Z hlt) ?_)
  have hw:=wU uW (f.1,m) [] (i:=(s.first+q.length) % cap) (l:=s.pl) (by rw[h.len];exact hlt)
  rw[bK,bK,←di (_*29)] at hw
  refine AG (AT (vs:=aY (f.1,m)) 3 Z Z Z Z Z ?_ hw Z Z yu ?_)
  ·rw[fA uW,h.len,uW];show 0+(s.first+q.length) % cap*29+29≤cap*29;omega
  refine jt ?_
  refine gK ?_
  refine VG (VP Z Z ?_ ?_ ?_)
  ·omega
  ·omega
  refine HG ?_
  refine aj ?_
  refine CR (aq.bool 4 Z Z Z (L':=[dE p (q ++ [f.1]) cap]) ?_ ⟨by simp[h1],by simp[h1]⟩)
  have e:xp (q ++ [f.1]) cap { s with pl:=s.pl.set ((s.first+q.length) % cap) (f.1,m) }=[.slice (some ⟨s.pb,0,none⟩) cap cap,.int .i64 s.first,.int .i64 ((q.length:Int)+1)]:=by simp[xp]
  refine(aa.ring _ (h.push h1 f.1 m) ?_).ah
  unfold rD
  rw[e,bK]
  refine IP 2 Z (IP 2 Z ?_)
  exact aa.trans (IP 0 Z aa.tl) (LJ (x:=(f.1,m)) (by rw[h.len];exact hlt))
def uh(p:Nat)(cap:Nat):List ay→Value→List HP→Prop
 | [],v,L=>v=.tuple #[.agg (aY fB).toArray,.bool false]∧L=[dE p [] cap]
 | f::q,v,L=>∃m,v=.tuple #[.agg (aY (f,m)).toArray,.bool true]∧L=[jZ m,dE p q cap]
theorem CW(p:Nat)(q:List ay)(cap:Nat):az Tryz.prog 261 [.pointer (some ⟨p,0,none⟩)] Fr w [dE p q cap] (uh p cap q):=by
 refine TF 39 Tryz.func261 Z ym aD Z Z ?_
 refine CS (CG (VG (VO.alloc Z fun b=>VG (VN ?_))))
 refine aj ?_
 refine VG (VK (Lc:=[]) (R:=atR q 0) (fun Fr w hF hw hs=>Ky Fr w (hs.at_ 1 Z)) Z Z ?_)
 intro v L hv
 unfold atR at hv
 cases q with
 | nil=>
  simp only[List.getElem?_nil] at hv
  obtain⟨rfl,rfl⟩:=hv
  refine OK ?_
  refine aj ?_
  refine mz ?_
  refine CS (CG (VG (VI (LB (pv:=[]) (aY fB) Z Z Z Z Z) (VG (VT (vs:=aY fB) (cs':=aY fB) 0 Z Z Z Z (NR _) Z Z Z (VG (VN ?_)))))))
  exact CR (aq.dB 2 3 Z Z Z (ax.many 0 Z Z) Z (aa.app (L:=[_]) (M:=[]) (L':=[_]) (M':=[_]) aa.nil aa.refl).ah ⟨rfl,Z⟩)
 | cons f q=>
  simp only[qJ] at hv
  obtain⟨m,rfl,rfl⟩:=hv
  refine OJ ?_
  refine kg ?_
  refine VC.bJ 2 Z (ba.ring p (f::q) cap) fun s h=>?_
  refine CN (L':=jZ m::pt b (aY (f,m)) 181::rD p (f::q) cap s) (aa.perm jL).ah ?_
  have hq:=h.C3
  have hc:=h.fO
  have hf:=h.first
  have hc0:=h.dL
  refine CS (CD (ts 0 14 (.only 14 .nil)) ym ym ?_)
  refine jt ?_
  refine AG (AP Z Z Z ?_ ?_ ?_)
  ·omega
  ·omega
  refine jt ?_
  refine AG (AI Z (K3 s.first (s.first+1) Z Z Z Z Z Z Z (by push_cast;rfl) yd yd yd) ?_)
  have hw:=wU uW fB [] (i:=s.first) (l:=s.pl) (by rw[h.len];exact hf)
  rw[bK,bK,←di (_*29)] at hw
  refine AG (AO (aQ.clear 3 Z Z Z Z Z yd ?_ Z) Z ?_ ?_)
  ·rw[fA uW,h.len];show 0+s.first*29+(s.first+1-s.first)*29≤cap*29;omega
  ·rintro _ _ ⟨rfl,rfl⟩
   exact yu
  rintro _ _ ⟨rfl,rfl⟩
  have hz:(List.replicate (s.first+1-s.first) T.t181.zs).flatten=aY fB:=by rw[show s.first+1-s.first=1 from by omega];rfl
  have hw2:dT (flat aY s.pl) (0+s.first*T.t181.size) (List.replicate (s.first+1-s.first) T.t181.zs).flatten=flat aY (s.pl.set s.first fB):=by rw[hz];exact hw
  rw[hw2]
  refine jt ?_
  refine gK ?_
  refine VG (VV (fun Fr w hF _ hs=>Gu Fr w 1 (hs.aC 2 Z) hc0 yd yd) Z ?_)
  refine VG (VO.st 2 Z Z Z Z uC Z Z (VG (VN ?_)))
  refine gK ?_
  refine VG (VO.xz Z Z ?_ ?_ ?_)
  ·omega
  ·omega
  refine HG ?_
  refine gK ?_
  refine VG (VL 1 (aY (f,m)) Z Z Z Z (VG (VT (vs:=aY (f,m)) (cs':=aY (f,m)) 1 Z Z Z Z (NR _) Z Z Z (VG (VN ?_)))))
  refine CR (aq.dB 2 3 Z Z Z (ax.many 1 Z Z) Z (L':=[jZ m,dE p q cap]) ?_ ⟨m,Z,Z⟩)
  refine(IP 0 Z (aa.ring _ (h.pop fB) ?_)).ah
  have e:xp q cap { s with first:=(s.first+1) % cap,pl:=s.pl.set s.first fB }=[.slice (some ⟨s.pb,0,none⟩) cap cap,.int .i64 ((s.first+1) % cap:Nat),.int .i64 (((f::q).length:Int)-1)]:=by simp[xp]
  unfold rD
  rw[e,bK]
  refine IP 1 Z (IP 1 Z ?_)
  exact aa.trans (aa.trans aa.tl (aa.FX aa.refl)) (LJ (x:=fB) (by rw[h.len];exact hf))
theorem az.drop{P:Program}{f:FuncId}{args:List Value}{Fr:Nat→Prop}{w:World}{L:List HP}{R R':Value→List HP→Prop}(h:az P f args Fr w L R)(hi:∀v L',R v L'→∃L2,R' v L2∧aa L' L2):az P f args Fr w L R':=
 ⟨h.BT,fun hl hs=>Calls.mono (h.calls hl hs) fun e w' ⟨v,L',h1,h2,h3,h4⟩=>by
  obtain⟨L2,h5,h6⟩:=hi v L' h2
  obtain⟨F,hs,hn,hb⟩:=h3
  obtain⟨F',hs',hn',hb'⟩:=h6 w' F hs hn
  exact⟨v,L2,h1,h5,⟨F',hs',hn',fun b hb2=>hb b (hb' b hb2)⟩,h4⟩⟩
theorem aQ.Rm{X:Cx}{e:Env}{L:List HP}{f:FuncId}{args:Array Operand}{tys:Array TypeId}{vals:List Value}{H:HP}{R:Value→List HP→Prop}{ψ:Value→HP→HP→Prop}(i:Nat)
  (hL:L[i]?=some H) (ht:∀Fr' w,(∀b,X.Fr b→Fr' b)→St X L w→a8 Fr' (L.eraseIdx i) w→az X.P f vals Fr' w [H] R) (hargs:fy e args.toList=some vals)
  (hR:∀v L1,R v L1→∃M H',L1=[M,H']∧ψ v M H'):
  aQ X (.call ⟨.value (.func f),args,tys⟩) e L (fun v L'=>∃M H',ψ v M H'∧L'=M::L.set i H'):=by
 intro a w ha hw dst ty pos after guard
 have hi:i<L.length:=(bY.1 hL).1
 have key:∀v w' L',(∃L1,R v L1∧L'=L1++L.eraseIdx i)→St X L' w'→∃L'',(∃M H',ψ v M H'∧L''=M::L.set i H')∧St X L'' w':=by
  rintro v w' _ ⟨L1,h1,rfl⟩ hs
  obtain⟨M,H',rfl,hψ⟩:=hR v L1 h1
  have hp:(H'::L.eraseIdx i).Perm (L.set i H'):=by
   have:=oT (L:=L.set i H') (i:=i) (H:=H') (iM hi)
   rw[List.eraseIdx_set_eq] at this
   exact this.symm
  exact⟨_,⟨M,H',hψ,Z⟩,(aa.perm (hp.cons M)).ah w' hs⟩
 rcases OC (R:=R) hargs (Lc:=[H]) (Lr:=L.eraseIdx i) (oT hL) ht a w ha hw dst ty pos after guard with ⟨v,w',L',h1,h2,h3⟩ | ⟨w',L',h1,h2,h3⟩ | ⟨f,args,h1,h2⟩
 ·obtain⟨L'',h4,h5⟩:=key _ _ _ h2 h3
  exact .inl ⟨v,w',L'',h1,h4,h5⟩
 ·obtain⟨L'',h4,h5⟩:=key _ _ _ h2 h3
  exact .inr (.inl ⟨w',L'',h1,h4,h5⟩)
 ·refine .inr (.inr ⟨f,args,h1,Calls.mono h2 fun en w' ⟨v,L',h3,h4,h5⟩=>?_⟩)
  obtain⟨L'',h6,h7⟩:=key _ _ _ h4 h5
  exact⟨v,L'',h3,h6,h7⟩
def BO(q:List ay)(i:Nat)(v:Value):Prop:=match q[i]? with
 | some f=>∃m,v=.tuple #[.agg (aY (f,m)).toArray,.bool true]
 | none=>v=.tuple #[.agg (aY fB).toArray,.bool false]
theorem To{p:Nat}{q:List ay}{cap:Nat}(h:a8 Fr [dE p q cap] w):az Tryz.prog 258 [.pointer (some ⟨p,0,none⟩)] Fr w [] (fun v L=>BO q 0 v∧L=[]):=
 az.drop (Ky Fr w h) fun v L h=>by
  unfold atR at h;unfold BO
  cases hq:q[0]? with
  | some f=>rw[hq] at h;obtain⟨m,rfl,rfl⟩:=h;exact⟨[],⟨⟨m,rfl⟩,rfl⟩,aa.nil⟩
  | none=>rw[hq] at h;obtain⟨rfl,rfl⟩:=h;exact⟨[],⟨rfl,rfl⟩,aa.nil⟩
def Ww(p:Nat)(cap:Nat):List ay→Value→List HP→Prop
 | [],v,L=>v=.tuple #[.agg (aY fB).toArray,.bool false]∧L=[dE p [] cap]
 | f::q,v,L=>(∃m,v=.tuple #[.agg (aY (f,m)).toArray,.bool true])∧L=[dE p q cap]
theorem WA(p:Nat)(q:List ay)(cap:Nat):az Tryz.prog 261 [.pointer (some ⟨p,0,none⟩)] Fr w [dE p q cap] (Ww p cap q):=
 az.drop (CW Fr w p q cap) fun v L h=>by
  cases q with
  | nil=>exact⟨L,h,aa.refl⟩
  | cons f q=>obtain⟨m,rfl,rfl⟩:=h;exact⟨_,⟨⟨m,rfl⟩,rfl⟩,aa.tl⟩
theorem mZ.new(cap:Nat)(h0:1≤cap)(h1:cap≤64)(b:Nat):mZ [] cap ⟨b,List.replicate cap fB,0⟩:=
 ⟨by simp,h0,h1,h0,by simp,fun i hi=>by simp at hi⟩
theorem lK(cap:Nat)(h0:1≤cap)(h1:cap≤64):az Tryz.prog 141 [.int .i64 cap] Fr w [] (fun v L=>∃p,v=.tuple #[.pointer (some ⟨p,0,none⟩),.int .i64 0]∧L=[dE p [] cap]):=by
 refine TF 14 Tryz.func141 Z ym aD Z Z ?_
 refine aj ?_
 refine VG (VY 6 false Z (DF yd) ?_)
 refine aj ?_
 refine CP Z (fun h=>absurd h yd) (fun _=>CK ?_)
 refine CS (CG (VG (VO.makeSlice cap Z Z Z Z Z Z Z yd ?_ fun b=>?_)))
 ·show 288*cap≤_;omega
 refine VG (VI (LB [.slice (some ⟨b,0,none⟩) cap cap,.int .i64 0,.int .i64 0] Z Z Z Z Z) (VG (VB (vs:=[.slice (some ⟨b,0,none⟩) cap cap,.int .i64 0,.int .i64 0]) Z fun p=>VG (VN ?_))))
 refine CR (aq.dh 2 3 Z Z Z ?_ ⟨p,Z,Z⟩)
 exact(aa.ring (M:=[]) ⟨b,List.replicate cap fB,0⟩ (mZ.new cap h0 h1 b) (by
  have:flat aY (List.replicate cap fB)=(List.replicate cap T.t181.zs).flatten:=(Kt cap fB).symm
  unfold rD
  simp only[this,List.map_replicate,bK]
  refine IP 0 Z (IP 0 Z ?_)
  have:∀n:Nat,aa [] (List.replicate n (jZ fB.2)):=fun n=>by
   induction n with
   | zero=>exact aa.nil
   | succ n ih=>exact aa.FX ih
  exact this cap)).ah
end Ring
namespace Sched
open Go Vg T Api Ring
attribute [local irreducible] VO VC VA
structure cG where
 q:List ay
 mQ:Int
 dm:Int
 served:Int
structure aM where
 cls:List cG
 cap:Nat
 bw:Nat
 fresh:Bool
def aM.jE(S:aM)(k:Nat)(c:cG):aM:={ S with cls:=S.cls.set k c }
def aM.idle(S:aM):Bool:=S.cls.all fun c=>c.q.isEmpty
structure cG.Wf(c:cG):Prop where
 q0:96≤c.mQ
 q1:c.mQ≤65536
 c0:0≤c.dm
 c1:c.dm≤c.mQ+95
 s0:0≤c.served
 s1:c.served≤4611686018427387904
structure aM.Wf(S:aM):Prop where
 n0:1≤S.cls.length
 n1:S.cls.length≤4
 dL:1≤S.cap
 fO:S.cap≤16
 bw:S.bw<S.cls.length
 cls:∀c∈S.cls,c.Wf
 qs:∀c∈S.cls,c.q.length≤S.cap
 low:∀k c,S.cls[k]?=some c→(k=S.bw→S.fresh=true)→c.dm≤95
abbrev Row:=Nat×cG
def cY(r:Row):List Value:=[.pointer (some ⟨r.1,0,none⟩),.int .i64 r.2.mQ,.int .i64 r.2.dm,.int .i64 r.2.served]
theorem wE(r:Row):(cY r).length=4:=rfl
structure mF where
 cb:Nat
 qT:Nat
 rest:List Value
 rows:List Row
structure lS(S:aM)(s:mF):Prop where
 wf:S.Wf
 rows:s.rows.map Prod.snd=S.cls
 cap:s.rows.length≤s.qT
def sO(S:aM)(s:mF):List Value:=[.slice (some ⟨s.cb,0,none⟩) s.rows.length s.qT,.int .i64 S.bw,.bool S.fresh]
def ke(p:Nat)(S:aM)(s:mF):List HP:=pt p (sO S s) 231::pt s.cb (flat cY s.rows++s.rest) 236::s.rows.map fun r=>dE r.1 r.2.q S.cap
def gI(p:Nat)(S:aM):HP:=hex fun s=>cR (kO (lS S s)::ke p S s)
structure BC(Fr:Nat→Prop)(w:World)(p:Nat)(S:aM)(s:mF):Prop where
 ok:lS S s
 aL:bu Fr w p (sO S s)
 cls:bu Fr w s.cb (flat cY s.rows++s.rest)
 ring:∀(k:Nat) (r:Row),s.rows[k]?=some r→a8 Fr [dE r.1 r.2.q S.cap] w
theorem BC.of{Fr:Nat→Prop}{w:World}{p:Nat}{S:aM}(h:a8 Fr [gI p S] w):∃s,BC Fr w p S s:=by
 obtain⟨s,h⟩:=h.ex
 have h:=h.sep
 exact⟨s,h.pure 0 Z,h.aC 1 Z,h.aC 2 Z,fun k r hr=>h.at_ (k+3) D2⟩
theorem ba.aL(p:Nat)(S:aM):ba (gI p S) (fun s=>lS S s) (fun s=>ke p S s):=by
 rintro w ids ⟨s,h⟩ hn
 obtain⟨F,G,rfl,⟨rfl,h1⟩,h2⟩:=h
 exact DH
theorem aa.aL{p:Nat}{S:aM}{L M:List HP}(s:mF)(hs:lS S s)(h:aa L (ke p S s++M)):aa L (gI p S::M):=
 aa.ex s (aa.sep (aa.trans h (aa.app (L:=ke p S s) (M:=_::ke p S s) (aa.pure hs aa.refl) aa.refl)))
theorem lS.len{S:aM}{s:mF}(h:lS S s):s.rows.length=S.cls.length:=by rw[←h.rows,cW]
theorem lS.row{S:aM}{s:mF}(h:lS S s){k:Nat}(hk:k<S.cls.length):∃p c,s.rows[k]?=some (p,c)∧S.cls[k]?=some c:=by
 have hk':k<s.rows.length:=by rw[h.len];exact hk
 refine⟨s.rows[k].1,s.rows[k].2,by simp[GE hk'],?_⟩
 rw[←h.rows,eh,GE hk'];rfl
theorem gy{p:Nat}{a:Option Addr}{n c:Nat}{cs:List Value}(h:bu Fr w p (.slice a n c::cs)):az Tryz.prog 256 [.pointer (some ⟨p,0,none⟩)] Fr w [] (fun v L=>v=.bool (decide (n=0))∧L=[]):=by
 refine TF 13 Tryz.func256 Z ym aD Z Z ?_
 refine aj ?_
 refine VG (VO.split 5 rfl rfl (fun h=>by cases h) (fun _=>?_))
 refine oA ?_
 exact CR (aq.bool 2 rfl rfl (by cases n<;>rfl) ER ⟨rfl,rfl⟩)
theorem rh{p n c:Nat}{a:Option Addr}{cs:List Value}(i:Int)(h:bu Fr w p (.slice a n c::cs)):az Tryz.prog 252 [.pointer (some ⟨p,0,none⟩),.int .i64 i] Fr w [] (fun v L=>v=.bool (decide (0≤i∧i<n))∧L=[]):=by
 refine TF 21 Tryz.func252 Z ym aD Z Z ?_
 refine aj ?_
 refine VG (VV (fun Fr w hF hs _=>gy Fr w (h.of hF hs)) Z (VG (VO.split 8 Z Z (fun h1=>?_) (fun h1=>?_))))
 ·have h1:n≠0:=by simpa using h1
  refine VG (VO.split 12 Z Z (fun h2=>?_) (fun h2=>?_))
  ·have h2:=of_decide_eq_true h2
   refine oA ?_
   exact CR (aq.bool 4 Z Z yj ER ⟨rfl,Z⟩)
  ·have h2:=of_decide_eq_false h2
   refine aj ?_
   exact CR (aq.bool 4 Z Z yj ER ⟨rfl,Z⟩)
 ·have h1:n=0:=by simpa using h1
  refine VG (VY 12 false Z Z ?_)
  refine aj ?_
  exact CR (aq.bool 4 Z Z (by symm;apply DF;omega) ER ⟨rfl,Z⟩)
def aM.at_(S:aM)(i:Int):Option cG:=if 0≤i then S.cls[i.toNat]? else none
def aM.sD(S:aM)(i:Int):Int:=match S.at_ i with
 | some c=>c.q.length
 | none=>0
theorem aM.Ev(S:aM)(k:Nat):S.at_ k=S.cls[k]?:=by simp[aM.at_]
theorem aM.Jb{S:aM}{i:Int}(h:¬(0≤i∧i<S.cls.length)):S.at_ i=none:=by
 unfold aM.at_;split
 ·rw[lO];omega
 ·rfl
theorem wF{rows:List Row}{k j:Nat}{r:Row}{v:Value}(hr:rows[k]?=some r)(hj:(cY r)[j]?=some v)(rest:List Value):(flat cY rows++rest)[k*4+j]?=some v:=qe wE hr hj rest
theorem kP{p:Nat}{S:aM}(i:Int)(h:a8 Fr [gI p S] w):az Tryz.prog 208 [.pointer (some ⟨p,0,none⟩),.int .i64 i] Fr w [] (fun v L=>v=.int .i64 (S.sD i)∧L=[]):=by
 obtain⟨s,h⟩:=BC.of h
 have hb:=h.aL
 have hn:=h.ok.len
 refine TF 18 Tryz.func208 Z ym aD Z Z ?_
 refine aj ?_
 refine VG (VV (fun Fr w hF hs _=>rh Fr w i (hb.of hF hs)) Z (VG (VN ?_)))
 refine VC.fQ Z (fun h1=>?_) (fun h1=>?_)
 ·have h1:=of_decide_eq_false h1
  refine aj ?_
  exact CR (aq.int 4 Z Z (by simp only[aM.sD,aM.Jb (hn▸h1)]) ER ⟨rfl,Z⟩)
 ·have h1:=of_decide_eq_true h1
  obtain⟨k,rfl⟩:=tk h1.1
  have hk:k<S.cls.length:=by omega
  obtain⟨q,c,hr,hc⟩:=h.ok.row hk
  refine CK ?_
  refine kD ?_
  refine xO ?_
  refine VG (VO.load Z Z (ax.aC h.cls (by rw[di];exact wF (j:=0) hr Z _)) ?_)
  refine OL ?_
  exact CR (aq.int 4 Z Z (by simp[aM.sD,aM.Ev,hc]) ER ⟨rfl,Z⟩)
theorem Gr{p:Nat}{a:Addr}{n c t:Nat}{f:Bool}(hn:1≤n)(ht:t≤1000):
  az Tryz.prog 259 [.pointer (some ⟨p,0,none⟩)] Fr w [pt p [.slice (some a) n c,.int .i64 t,.bool f] 231]
   (fun v L=>v=.tuple #[]∧L=[pt p [.slice (some a) n c,.int .i64 ((t+1) % n:Nat),.bool true] 231]):=by
 refine TF 19 Tryz.func259 Z ym aD Z Z ?_
 refine CS ?_
 refine CD (ts 0 14 (.only 14 .nil)) ym ym ?_
 refine bt ?_
 refine AG (AP Z Z Z ?_ ?_ ?_)
 ·omega
 ·omega
 refine bt ?_
 refine AG (AI Z (K0 Z Z ?_ ?_) ?_)
 ·omega
 ·omega
 refine AG (VA.st 0 Z Z Z Z Z uC Z Z yu ?_)
 refine uG ?_
 refine VG (VO.st 0 Z Z Z Z D1 Z Z (VG (VN ?_)))
 exact aq.void Z ER ⟨rfl,by push_cast;rfl⟩
theorem FC{p:Nat}{S:aM}(h:a8 Fr [gI p S] w):az Tryz.prog 257 [.pointer (some ⟨p,0,none⟩)] Fr w [] (fun v L=>v=.bool S.idle∧L=[]):=by
 obtain⟨s,h⟩:=BC.of h
 have hb:=h.aL
 have hn:=h.ok.len
 have hn4:=h.ok.wf.n1
 refine TF 19 Tryz.func257 Z ym aD Z Z ?_
 refine kD ?_
 refine VC.loop (fun k:Nat=>[(8,.slice (some ⟨s.cb,0,none⟩) s.rows.length s.qT),(9,.int .i64 s.rows.length),(10,.int .i64 k)]) (fun _=>[]) (fun k=>k≤S.cls.length∧∀j,j<k→∀c,S.cls[j]?=some c→c.q=[]) (fun k=>4-k) 0 ⟨bU _,fun j hj=>by omega⟩ aP ER ?_
 rintro k ⟨hk,hall⟩
 refine aj ?_
 refine CP Z (fun h1=>?_) (fun h1=>?_)
 ·have hk2:k<S.cls.length:=by omega
  obtain⟨q,c,hr,hc⟩:=h.ok.row hk2
  have hrow:((flat cY s.rows++s.rest).drop (0+k*4)).take 4=cY (q,c):=by rw[di];exact ph wE hr _
  refine yJ ?_
  refine xO ?_
  refine VG (VO.load Z Z (ax.jR h.cls hrow) (VG (VO.alloc Z fun b=>VG (VT (vs:=cY (q,c)) (cs':=cY (q,c)) 0 Z Z Z Z (NR _) Z Z Z (VG (VN ?_))))))
  refine aj ?_
  refine OL ?_
  refine CP Z (fun h2=>?_) (fun h2=>?_)
  ·refine aj ?_
   refine CR (aq.bool 2 Z Z ?_ aa.nil.ah ⟨rfl,Z⟩)
   symm
   rw[aM.idle,tm]
   refine⟨c,ME hc,?_⟩
   have:0<(c.q.length:Int):=h2
   cases hq:c.q with
   | nil=>rw[hq] at this;simp at this
   | cons _ _=>simp
  ·refine yJ ?_
   refine VG (VP Z Z ?_ ?_ ?_)
   ·omega
   ·omega
   refine aj ?_
   refine⟨k+1,⟨by omega,fun j hj c' hc'=>?_⟩,by dsimp only;omega,aP,aa.nil.ah⟩
   by_cases hjk:j=k
   ·subst hjk
    rw[hc] at hc';cases hc'
    have h2:¬0<(c.q.length:Int):=h2
    exact iz yd
   ·exact hall j yd c' hc'
 ·have hk2:k=S.cls.length:=by omega
  subst hk2
  refine CX ?_
  refine aj ?_
  refine CR (aq.bool 2 Z Z ?_ aa.nil.ah ⟨rfl,Z⟩)
  symm
  rw[aM.idle,lh]
  intro c hc
  obtain⟨j,hj⟩:=oD hc
  rw[hall j (bY.1 hj).1 c hj];rfl
def aM.fq(S:aM)(f:ay):Int×aM:=
 match S.at_ f.cls with
 | none=>(2,S)
 | some c=>if dD f.op≠0 then (2,S) else if c.q.length<S.cap then (0,S.jE f.cls.toNat { c with q:=c.q ++ [f] }) else (60,S)
theorem XM{α β:Type}{g:α→β}{l:List α}{k:Nat}{a:α}:(l.map g).set k (g a)=(l.set k a).map g:=by rw[iZ]
theorem lS.jE{S:aM}{s:mF}(h:lS S s){k q:Nat}{c c':cG}(hr:s.rows[k]?=some (q,c))(hw:(S.jE k c').Wf):lS (S.jE k c') { s with rows:=s.rows.set k (q,c') }:=
 ⟨hw,by simp[aM.jE,←h.rows,iZ],by simpa using h.cap⟩
theorem aM.Wf.set{S:aM}(h:S.Wf){k:Nat}{c c':cG}(hc:S.cls[k]?=some c)(hw:c'.Wf)(hq:c'.q.length≤S.cap)(hl:(k=S.bw→S.fresh=true)→c'.dm≤95):(S.jE k c').Wf:=by
 have hk:=(bY.1 hc).1
 refine⟨by simpa[aM.jE] using h.n0,by simpa[aM.jE] using h.n1,h.dL,h.fO,by simpa[aM.jE] using h.bw,fun x hx=>?_,fun x hx=>?_,fun j x hx hj=>?_⟩
 ·rcases lP hx with hx | rfl
  ·exact h.cls x hx
  ·exact hw
 ·rcases lP hx with hx | rfl
  ·exact h.qs x hx
  ·exact hq
 ·by_cases hjk:k=j
  ·subst hjk
   simp only[aM.jE,iM hk,Option.some.injEq] at hx
   subst hx;exact hl hj
  ·simp only[aM.jE,kG hjk] at hx
   exact h.low j x hx hj
theorem Ks{l:List Row}{k:Nat}{a b:Row}(h:cY a=cY b):flat cY (l.set k a)=flat cY (l.set k b):=by simp[flat,iZ,h]
theorem Fi{l:List Row}{k:Nat}{a b:Row}(ha:l[k]?=some a)(h:cY a=cY b):flat cY l=flat cY (l.set k b):=by
 rw[←Ks h]
 have hk:=(bY.1 ha)
 rw[show l.set k a=l from by rw[←hk.2];simp]
theorem xr{p:Nat}{S:aM}{s:mF}(h:lS S s):aa (ke p S s) [gI p S]:=aa.aL (M:=[]) s h (aa.of_eq (bK _).symm)
theorem Nb{p k q:Nat}{S:aM}{s:mF}{c c':cG}(hr:s.rows[k]?=some (q,c))(hcs:cY (q,c)=cY (q,c')):
  pt p (sO S s) 231::pt s.cb (flat cY s.rows++s.rest) 236::(s.rows.map fun r=>dE r.1 r.2.q S.cap).set k (dE q c'.q S.cap)=ke p (S.jE k c') { s with rows:=s.rows.set k (q,c') }:=by
 simp only[ke,sO,iB,←Fi hr hcs,iZ];rfl
theorem vo(p:Nat)(S:aM)(f:FM)(hm:mE Fr w f.2):az Tryz.prog 289 [.pointer (some ⟨p,0,none⟩),.agg (aY f).toArray] Fr w [gI p S] (fun v L=>v=.int .i64 (S.fq f.1).1∧L=[gI p (S.fq f.1).2]):=by
 refine TF 33 Tryz.func289 Z ym aD Z Z ?_
 refine CS (CG (VG (VB (vs:=aY f) Z fun b=>VG (VN ?_))))
 refine VC.bJ 1 Z (ba.aL p S) fun s h=>?_
 refine CN (L':=pt b (aY f) 181::ke p S s) (aa.perm jL).ah ?_
 have hn:=h.len
 have hn0:=h.wf.n0
 have hn4:=h.wf.n1
 have out:∀{X:Cx},dq X (pt b (aY f) 181::ke p S s) [gI p S]:=fun {X}=>(aa.trans aa.tl (xr h)).ah
 refine aj ?_
 refine VG (VV (fun Fr w hF _ hs=>gy Fr w (hs.aC 1 Z)) Z (VG (VN ?_)))
 refine CP Z (fun h0=>by omega) (fun _=>?_)
 refine dz ?_
 refine VG (VV (fun Fr w hF _ hs=>rh Fr w f.1.cls (hs.aC 1 Z)) Z (VG (VO.split 14 Z Z (fun h1=>?_) (fun h1=>?_))))
 ·have h1:¬(0≤f.1.cls∧f.1.cls<s.rows.length):=fun hx=>by simp[hx] at h1
  refine rT ?_
  have e:S.fq f.1=(2,S):=by simp only[aM.fq,aM.Jb (hn▸h1)]
  exact CR (aq.int 4 Z Z Z out ⟨by rw[e],by rw[e]⟩)
 ·have h1:0≤f.1.cls∧f.1.cls<s.rows.length:=by simpa using h1
  obtain⟨k,hfk⟩:=tk h1.1
  have hk:k<S.cls.length:=by omega
  obtain⟨q,c,hr,hc⟩:=h.row hk
  have hat:S.at_ f.1.cls=some c:=by rw[hfk,aM.Ev,hc]
  refine aj ?_
  refine VG (VL 0 f.1.op.cells Z Z Z Z ?_)
  refine VG (VO.lW (fun Fr w=>iG Fr w f.1.op) Z (VG (VN ?_)))
  refine VC.dH Z (fun h2=>?_) (fun h2=>?_)
  ·refine aj ?_
   have e:S.fq f.1=(2,S):=by simp only[aM.fq,hat,if_pos h2]
   exact CR (aq.int 4 Z Z Z out ⟨by rw[e],by rw[e]⟩)
  ·have h2':¬dD f.1.op≠0:=fun hx=>hx h2
   have hcell:(flat cY s.rows++s.rest)[0+k*4]?=some (.pointer (some ⟨q,0,none⟩)):=by rw[di];exact wF (j:=0) hr rfl _
   refine CS (CD (ts 0 10 (.only 10 (ts 11 2 .nil))) ym ym ?_)
   refine fK ?_
   refine AG (AI Z (fp k Z Z Z Z Z hfk yd) ?_)
   refine AG (VA.ld 2 Z Z Z Z hcell (AG (VA.dQ 0 (aY f) Z Z Z Z Z ?_)))
   refine AG (AQ (k+3) (H:=dE q c.q S.cap) (R:=MB q c.q S.cap f.1) (ψ:=fun v H=>v=.bool (decide (c.q.length<S.cap))∧H=dE q (if c.q.length<S.cap then c.q ++ [f.1] else c.q) S.cap) D2 (fun Fr w hF hs _=>Ring.vo Fr w q c.q S.cap f (hm.of hF hs)) Z Z (fun v L1 ⟨h3,h4⟩=>⟨_,h4,h3,Z⟩) ?_ ?_)
   ·rintro _ _ ⟨rfl,rfl⟩
    exact(by(try refine Pd.st ?_);(repeat(first|exact Pd.nil|exact Pd.fnil|refine Pd.inner ?_|refine Pd.skip yr ?_|refine zf (zo 0 Z Z) ?_|refine zf (zo 1 Z Z) ?_|refine zf (zm 0 Z Z) ?_|refine zf (zm 1 Z Z) ?_|refine zf (ax.aC (ax.one 2 Z hcell) Z) ?_|refine zf ((ax.one 2 Z hcell)) ?_|refine zc (zo 0 Z Z) ?_|refine zc (zo 1 Z Z) ?_|refine zc (zm 0 Z Z) ?_|refine zc (zm 1 Z Z) ?_|refine zc (ax.aC (ax.one 2 Z hcell) Z) ?_|refine zc ((ax.one 2 Z hcell)) ?_)))
   rintro _ _ ⟨rfl,rfl⟩
   refine bt ?_
   refine VC.fQ Z (fun h3=>?_) (fun h3=>?_)
   ·have h3:¬c.q.length<S.cap:=of_decide_eq_false h3
    refine aj ?_
    have e:S.fq f.1=(60,S):=by simp only[aM.fq,hat,if_neg h2',if_neg h3]
    refine CR (aq.int 4 Z Z Z ?_ ⟨by rw[e],by rw[e]⟩)
    rw[if_neg h3]
    have e2:S.jE k c=S:=by simp only[aM.jE];rw[show S.cls.set k c=S.cls from by rw[←(bY.1 hc).2];simp]
    have e3:s.rows.set k (q,c)=s.rows:=by rw[←(bY.1 hr).2];simp
    have e4:=Nb (p:=p) (S:=S) hr (c':=c) rfl
    rw[e2,e3] at e4
    exact(aa.trans aa.tl (aa.trans (aa.of_eq e4) (xr h))).ah
   ·have h3:c.q.length<S.cap:=of_decide_eq_true h3
    refine yJ ?_
    have e:S.fq f.1=(0,S.jE k { c with q:=c.q ++ [f.1] }):=by simp only[aM.fq,hat,if_neg h2',if_pos h3];rw[hfk,dZ]
    refine CR (aq.int 4 Z Z Z ?_ ⟨by rw[e],by rw[e]⟩)
    rw[if_pos h3]
    have hw:(S.jE k { c with q:=c.q ++ [f.1] }).Wf:=h.wf.set hc ⟨(h.wf.cls c (ME hc)).q0,(h.wf.cls c (ME hc)).q1,(h.wf.cls c (ME hc)).c0,(h.wf.cls c (ME hc)).c1,(h.wf.cls c (ME hc)).s0,(h.wf.cls c (ME hc)).s1⟩ ye (h.wf.low k c hc)
    exact(aa.trans aa.tl (aa.trans (aa.of_eq (Nb (p:=p) hr (c':={ c with q:=c.q ++ [f.1] }) Z)) (xr (h.jE hr hw)))).ah
def aM.sQ(a:Int):Int:=if 4611686018427387904<a then 4611686018427387904 else a
def cG.c0(c:cG):cG:={ c with dm:=0 }
def cG.c1(c:cG)(fr:Bool):cG:={ c with dm:=if fr then c.dm+c.mQ else c.dm }
def cG.c2(c:cG)(fr:Bool)(f:ay)(q:List ay):cG:=⟨q,c.mQ,if q=[] then 0 else (c.c1 fr).dm-gm f.op,aM.sQ (c.served+gm f.op)⟩
def aM.iX:Nat→aM→Option (ay×aM)
 | 0,_=>none
 | n+1,S=>match S.cls[S.bw]? with
  | none=>none
  | some c=>match c.q with
   | []=>iX n ⟨S.cls.set S.bw c.c0,S.cap,(S.bw+1) % S.cls.length,true⟩
   | f::q=>if (c.c1 S.fresh).dm<gm f.op then iX n ⟨S.cls.set S.bw (c.c1 S.fresh),S.cap,(S.bw+1) % S.cls.length,true⟩
    else some (f,if q=[] then ⟨S.cls.set S.bw (c.c2 S.fresh f q),S.cap,(S.bw+1) % S.cls.length,true⟩ else ⟨S.cls.set S.bw (c.c2 S.fresh f q),S.cap,S.bw,false⟩)
theorem Ag(o:bB):0≤gm o∧gm o≤96:=by
 unfold gm
 split
 ·rename_i h
  have hl:qn o=false:=by
   cases hl:qn o with
   | false=>rfl
   | true=>unfold dD at h;rw[hl] at h;split at h<;>simp at h
  have hk:o.key.size≤16∧o.value.size≤64:=by simp[qn] at hl;omega
  omega
 ·omega
theorem aM.Wf.sT{S:aM}(h:S.Wf){c':cG}(hw:c'.Wf)(hq:c'.q.length≤S.cap)(hl:c'.dm≤95):aM.Wf ⟨S.cls.set S.bw c',S.cap,(S.bw+1) % S.cls.length,true⟩:=by
 have hn:=h.n0
 refine⟨by simpa using h.n0,by simpa using h.n1,h.dL,h.fO,by simpa using wi _ hn,fun x hx=>?_,fun x hx=>?_,fun j x hx _=>?_⟩
 ·rcases lP hx with hx | rfl
  ·exact h.cls x hx
  ·exact hw
 ·rcases lP hx with hx | rfl
  ·exact h.qs x hx
  ·exact hq
 ·by_cases hjk:S.bw=j
  ·subst hjk
   simp only[iM h.bw,Option.some.injEq] at hx
   subst hx;exact hl
  ·simp only[kG hjk] at hx
   exact h.low j x hx (fun e=>absurd e.symm hjk)
theorem aM.Wf.stays{S:aM}(h:S.Wf){c':cG}(hw:c'.Wf)(hq:c'.q.length≤S.cap):aM.Wf ⟨S.cls.set S.bw c',S.cap,S.bw,false⟩:=by
 refine⟨by simpa using h.n0,by simpa using h.n1,h.dL,h.fO,by simpa using h.bw,fun x hx=>?_,fun x hx=>?_,fun j x hx hj=>?_⟩
 ·rcases lP hx with hx | rfl
  ·exact h.cls x hx
  ·exact hw
 ·rcases lP hx with hx | rfl
  ·exact h.qs x hx
  ·exact hq
 ·have hjk:S.bw≠j:=fun e=>by simpa using hj e.symm
  simp only[kG hjk] at hx
  exact h.low j x hx (fun e=>absurd e.symm hjk)
theorem cG.Wf.empty{c:cG}(h:c.Wf):c.c0.Wf:=⟨h.q0,h.q1,cd _,by have:=h.q0;show(0:Int)≤c.mQ+95;omega,h.s0,h.s1⟩
theorem aM.Wf.c1{S:aM}(h:S.Wf){c:cG}(hc:S.cls[S.bw]?=some c):(c.c1 S.fresh).Wf:=by
 have hw:=h.cls c (ME hc)
 have hl:=h.low S.bw c hc
 have h1:=hw.q0;have h2:=hw.c0;have h3:=hw.c1
 refine⟨hw.q0,hw.q1,?_,?_,hw.s0,hw.s1⟩
 ·show(0:Int)≤if S.fresh then c.dm+c.mQ else c.dm
  split<;>omega
 ·show(if S.fresh then c.dm+c.mQ else c.dm)≤c.mQ+95
  split
  ·rename_i hf
   have:=hl (fun _=>hf)
   omega
  ·omega
theorem aM.Wf.c2{S:aM}(h:S.Wf){c:cG}(hc:S.cls[S.bw]?=some c){f:ay}{q:List ay}(hq:c.q=f::q)(hcost:¬(c.c1 S.fresh).dm<gm f.op):(c.c2 S.fresh f q).Wf∧(c.c2 S.fresh f q).q.length≤S.cap:=by
 have hw:=h.c1 hc
 have hb:=Ag f.op
 have hqs:=h.qs c (ME hc)
 have h3:=hw.c1;have h4:0≤c.served:=hw.s0;have h5:=hw.q0
 have h3':(c.c1 S.fresh).dm≤c.mQ+95:=h3
 have h5':96≤c.mQ:=h5
 refine⟨⟨hw.q0,hw.q1,?_,?_,?_,?_⟩,?_⟩
 ·show(0:Int)≤if q=[] then 0 else (c.c1 S.fresh).dm-gm f.op
  split<;>omega
 ·show(if q=[] then 0 else (c.c1 S.fresh).dm-gm f.op)≤c.mQ+95
  split<;>omega
 ·show(0:Int)≤aM.sQ (c.served+gm f.op)
  unfold aM.sQ;split<;>omega
 ·show aM.sQ (c.served+gm f.op)≤_
  unfold aM.sQ;split<;>omega
 ·rw[hq] at hqs;simp at hqs;show q.length≤S.cap;omega
theorem B3{rows:List Row}{k j:Nat}{r r':Row}{v:Value}(hr:rows[k]?=some r)(hj:j<4)(hc:(cY r).set j v=cY r')(rest:List Value):(flat cY rows++rest).set (0+k*4+j) v=flat cY (rows.set k r')++rest:=by
 rw[di];exact wV wE hr hj hc rest
theorem Fj{rows:List Row}{k j:Nat}{r r':Row}{v:Value}(hk:k<rows.length)(hj:j<4)(hc:(cY r).set j v=cY r')(rest:List Value):(flat cY (rows.set k r)++rest).set (0+k*4+j) v=flat cY (rows.set k r')++rest:=by
 rw[B3 (iM hk) hj hc,v_]
theorem MX{rows:List Row}{k q cap:Nat}{c:cG}(hr:rows[k]?=some (q,c)):(rows.map fun r=>dE r.1 r.2.q cap)=(rows.map fun r=>dE r.1 r.2.q cap).set k (dE q c.q cap):=by
 rw[show dE q c.q cap=(fun r:Row=>dE r.1 r.2.q cap) (q,c) from rfl,XM,show rows.set k (q,c)=rows from by rw[←(bY.1 hr).2];simp]
theorem Az{p k q t n:Nat}{S:aM}{s:mF}{c cA c':cG}{fr:Bool}{x:Int}(hr:s.rows[k]?=some (q,c))(hcs:cY (q,cA)=cY (q,c'))(hx:x=t)(hn:n=s.rows.length):
  pt p [.slice (some ⟨s.cb,0,none⟩) n s.qT,.int .i64 x,.bool fr] 231::pt s.cb (flat cY (s.rows.set k (q,cA))++s.rest) 236::(s.rows.map fun r=>dE r.1 r.2.q S.cap).set k (dE q c'.q S.cap)=ke p ⟨S.cls.set k c',S.cap,t,fr⟩ { s with rows:=s.rows.set k (q,c') }:=by
 subst hx;subst hn
 simp only[ke,sO,iB,Ks hcs,iZ]
theorem Nc{p k q t n:Nat}{S:aM}{s:mF}{c cA c':cG}{fr:Bool}{x:Int}(hr:s.rows[k]?=some (q,c))(hcs:cY (q,cA)=cY (q,c'))(hq:c'.q=c.q)(hx:x=t)(hn:n=s.rows.length):
  pt p [.slice (some ⟨s.cb,0,none⟩) n s.qT,.int .i64 x,.bool fr] 231::pt s.cb (flat cY (s.rows.set k (q,cA))++s.rest) 236::(s.rows.map fun r=>dE r.1 r.2.q S.cap)=ke p ⟨S.cls.set k c',S.cap,t,fr⟩ { s with rows:=s.rows.set k (q,c') }:=by
 rw[←Az hr hcs hx hn,hq,←MX hr]
theorem lS.C8{S:aM}{s:mF}(h:lS S s){k q:Nat}{c c':cG}{t:Nat}{fr:Bool}(hr:s.rows[k]?=some (q,c))(hw:aM.Wf ⟨S.cls.set k c',S.cap,t,fr⟩):lS ⟨S.cls.set k c',S.cap,t,fr⟩ { s with rows:=s.rows.set k (q,c') }:=
 ⟨hw,by simp[←h.rows,iZ],by simpa using h.cap⟩
def Wl(p cb n c t:Nat):HP:=pt p [.slice (some ⟨cb,0,none⟩) n c,.int .i64 ((t+1) % n:Nat),.bool true] 231
theorem CW(p:Nat)(S0:aM)(N:Nat)(f:ay)(S1:aM)(hp:S0.iX N=some (f,S1))(hi:S0.idle=false):
  az Tryz.prog 220 [.pointer (some ⟨p,0,none⟩)] Fr w [gI p S0] (fun v L=>(∃m,v=.tuple #[.agg (aY (f,m)).toArray,.bool true])∧L=[gI p S1]):=by
 refine TF 107 Tryz.func220 Z ym aD Z Z ?_
 refine CS (CG (VG (VO.alloc Z fun b=>VG (VN ?_))))
 refine VC.bJ 1 Z (ba.aL p S0) fun s0 h0=>?_
 refine CN (L':=pt b (aY fB) 181::ke p S0 s0) (aa.perm jL).ah ?_
 refine aj ?_
 refine VG (VV (fun Fr w hF _ hs=>gy Fr w (hs.aC 1 Z)) Z ?_)
 refine VG (VY 10 false Z (DF P5) ?_)
 refine aj ?_
 refine OM ?_
 refine CC rfl (fun h=>by rw[hi] at h;cases h) (fun _=>CK ?_)
 refine CS (VC.label (CS (VC.block ?_)))
 refine VC.loop (σ:=Nat×aM×mF) (fun _=>[(0,pV p),(2,pV b)]) (fun x=>pt b (aY fB) 181::ke p x.2.1 x.2.2) (fun x=>lS x.2.1 x.2.2∧x.2.1.iX x.1=some (f,S1)) (fun x=>x.1) (N,S0,s0) ⟨h0,hp⟩ aP ER ?_
 clear hp
 rintro⟨N,S,s⟩ ⟨h,hp⟩
 dsimp only at h hp ⊢
 have hn:=h.len
 have hn0:=h.wf.n0
 have hn4:=h.wf.n1
 have ht:=h.wf.bw
 obtain⟨q,c,hr,hc⟩:=h.row ht
 have hcell:∀{j:Nat} {v:Value},(cY (q,c))[j]?=some v→(flat cY s.rows++s.rest)[0+S.bw*4+j]?=some v:=fun {j v} hj=>by rw[di];exact wF hr hj _
 cases N with
 | zero=>simp[aM.iX] at hp
 | succ N=>
 simp only[aM.iX,hc] at hp
 refine aj ?_
 refine CD (ts 0 10 .nil) ym ym ?_
 refine fK ?_
 refine AG (AI Z (fp S.bw Z Z Z Z Z Z yd) ?_)
 refine uG ?_
 refine DI ?_
 refine VG (VO.dK (φ:=BO c.q 0) (fun Fr w hF _ hs=>To (cap:=S.cap) Fr w (hs.at_ (S.bw+3) D2)) Z ?_)
 intro v hv
 unfold BO at hv
 cases hq:c.q with
 | nil=>
  simp only[hq] at hp
  simp only[hq,List.getElem?_nil] at hv
  subst hv
  refine VG (VO.alloc Z fun b5=>VG (VT (vs:=aY fB) (cs':=aY fB) 0 Z Z Z Z (NR _) Z Z Z (VG (VN ?_))))
  refine rT ?_
  have hwf:=h.wf.sT (c':=c.c0) (h.wf.cls c (ME hc)).empty (h.wf.qs c (ME hc)) D3
  refine VG (VO.st 3 Z Z Z Z (by rw[a_,fA wE];show 0+S.bw*4+2<_;omega) (B3 hr yd (r':=(q,c.c0)) Z s.rest) Z (VG (VN ?_)))
  refine aj ?_
  refine HH ?_
  rintro _ _ ⟨rfl,rfl⟩
  refine VG (VN (CX ⟨(N,_,_),⟨h.C8 hr hwf,hp⟩,Nat.lt_succ_self N,aP,?_⟩))
  refine(aa.trans aa.tl (aa.cons (aa.of_eq ?_))).ah
  exact Nc (c':=c.c0) hr Z Z (by rw[hn]) rfl
 | cons g q'=>
  simp only[hq] at hp
  simp only[hq,qJ] at hv
  obtain⟨m,rfl⟩:=hv
  have hlen:∀(l:List Row),l.length=s.rows.length→∀j,j<4→0+S.bw*4+j<(flat cY l++s.rest).length:=fun l hl j hj=>by rw[a_,fA wE,hl];omega
  refine VG (VO.alloc Z fun b5=>VG (VT (vs:=aY (g,m)) (cs':=aY (g,m)) 0 Z Z Z Z (NR _) Z Z Z (VG (VN ?_))))
  refine kg ?_
  refine VC.meet (σ:=Unit) (fun _=>[(0,pV p),(2,pV b),(4,.pointer (some ⟨s.cb,0+S.bw*4,none⟩)),(5,pV b5)])
   (fun _=>pt b5 (aY (g,m)) 181::pt b (aY fB) 181::pt p [.slice (some ⟨s.cb,0,none⟩) s.rows.length s.qT,.int .i64 S.bw,.bool false] 231::pt s.cb (flat cY (s.rows.set S.bw (q,c.c1 S.fresh))++s.rest) 236::s.rows.map fun r=>dE r.1 r.2.q S.cap) (fun _=>True) ?_ ?_
  ·refine CS (CG (VG (VO.ld 2 Z Z Z Z (VG (VN ?_)))))
   refine CC (t:=S.fresh) Z (fun hf=>?_) (fun hf=>CK ⟨(),trivial,aP,dq.of_eq ?_⟩)
   ·refine CS (CD (ts 0 11 (.only 11 .nil)) ym ym ?_)
    have hwc:=h.wf.cls c (ME hc)
    have:=hwc.q0;have:=hwc.q1;have:=hwc.c0;have:=hwc.c1
    refine AG (VA.ld 3 Z Z Z Z (hcell (j:=2) Z) (AG (VA.ld 3 Z Z Z Z (hcell (j:=1) Z) ?_)))
    refine AG (AP Z Z Z ?_ ?_ ?_)
    ·dsimp only;omega
    ·dsimp only;omega
    refine AG (VA.st 3 Z Z Z Z Z (hlen _ Z 2 yd) (B3 hr yd (r':=(q,c.c1 S.fresh)) (by rw[hf];rfl) s.rest) Z yu ?_)
    refine uG ?_
    refine HG ?_
    exact⟨(),trivial,aP,ER⟩
   ·unfold ke sO
    rw[hf,←Fi hr (b:=(q,c.c1 false)) rfl]
    rfl
  intro _ _
  have hk:S.bw<s.rows.length:=by omega
  have hr1:(s.rows.set S.bw (q,c.c1 S.fresh))[S.bw]?=some (q,c.c1 S.fresh):=iM hk
  have hcell1:∀{j:Nat} {v:Value},(cY (q,c.c1 S.fresh))[j]?=some v→(flat cY (s.rows.set S.bw (q,c.c1 S.fresh))++s.rest)[0+S.bw*4+j]?=some v:=fun {j v} hj=>by rw[di];exact wF hr1 hj _
  have hcost:=Ag g.op
  have hw1:=h.wf.c1 hc
  have:=hw1.q0;have:=hw1.q1;have hc0:=hw1.c0;have hc1:=hw1.c1;have hs0:0≤c.served:=hw1.s0;have hs1:c.served≤4611686018427387904:=hw1.s1
  refine aj ?_
  refine VG (VL 0 g.op.cells Z Z Z Z (VG (VO.lW (fun Fr w=>RV Fr w g.op) Z (VG (VN ?_)))))
  refine aj ?_
  refine VG (VO.ld 3 Z Z Z (hcell1 (j:=2) Z) (VG (VN ?_)))
  refine CP Z (fun hlt=>?_) (fun hlt=>CK ?_)
  ·have hlt:(c.c1 S.fresh).dm<gm g.op:=hlt
   rw[if_pos hlt] at hp
   have hwf:=h.wf.sT (c':=c.c1 S.fresh) hw1 (h.wf.qs c (ME hc)) yd
   refine aj ?_
   refine HH ?_
   rintro _ _ ⟨rfl,rfl⟩
   refine VG (VN (CX ⟨(N,_,_),⟨h.C8 hr hwf,hp⟩,Nat.lt_succ_self N,aP,?_⟩))
   refine(aa.trans aa.tl (aa.cons (aa.of_eq ?_))).ah
   exact Nc (c':=c.c1 S.fresh) hr Z Z (by rw[hn]) rfl
  ·have hlt:¬(c.c1 S.fresh).dm<gm g.op:=hlt
   rw[if_neg hlt] at hp
   obtain⟨hwf2,hq2⟩:=h.wf.c2 hc hq hlt
   refine aj ?_
   refine VG (VO.ld 3 Z Z Z (hcell1 (j:=0) Z) ?_)
   refine VG (VQ (S.bw+4) (H:=dE q c.q S.cap) (ψ:=fun v H=>(∃m,v=.tuple #[.agg (aY (g,m)).toArray,.bool true])∧H=dE q q' S.cap) (by simp[hr]) (fun Fr w _ _ _=>Ring.WA Fr w q c.q S.cap) Z (fun v L1 h1=>by rw[hq] at h1;exact⟨_,h1.2,h1.1,Z⟩) ?_)
   rintro _ _ ⟨⟨m',rfl⟩,rfl⟩
   refine VG (VT (vs:=aY (g,m')) (cs':=aY (g,m')) 1 Z Z Z Z (NR _) Z Z Z (VG (VN ?_)))
   refine aj ?_
   refine VG (VO.ld 3 Z Z Z (hcell1 (j:=2) Z) ?_)
   refine VG (VO.xz Z Z ?_ ?_ ?_)
   ·dsimp only;omega
   ·dsimp only;omega
   refine VG (VO.st 3 Z Z Z Z (hlen _ yf 2 yd) (Fj hk yd (r':=(q,{ c with dm:=(c.c1 S.fresh).dm-gm g.op })) Z s.rest) Z (VG (VN ?_)))
   have hr2:∀c':cG,(s.rows.set S.bw (q,c'))[S.bw]?=some (q,c'):=fun c'=>iM hk
   have hcell2:∀{c':cG} {j:Nat} {v:Value},(cY (q,c'))[j]?=some v→(flat cY (s.rows.set S.bw (q,c'))++s.rest)[0+S.bw*4+j]?=some v:=fun {c' j v} hj=>by rw[di];exact wF (hr2 c') hj _
   refine aj ?_
   refine VG (VO.ld 3 Z Z Z (hcell2 (j:=3) Z) ?_)
   refine VG (VP Z Z ?_ ?_ ?_)
   ·dsimp only;omega
   ·dsimp only;omega
   refine VG (VO.st 3 Z Z Z Z (hlen _ yf 3 yd) (Fj hk yd (r':=(q,{ c with dm:=(c.c1 S.fresh).dm-gm g.op,served:=aM.sQ (c.served+gm g.op) })) Z s.rest) Z (VG (VN ?_)))
   refine aj ?_
   refine VG (VO.ld 3 Z Z Z (hcell2 (j:=0) Z) ?_)
   refine VG (VV (fun Fr w hF _ hs=>Ring.kP (q:=q') (cap:=S.cap) Fr w (hs.at_ (S.bw+4) (by simp[hk]))) Z (VG (VN ?_)))
   refine CE Z (fun hz=>?_) (fun hz=>CK (CX ?_))
   ·have hz:q'=[]:=iz yd
    rw[if_pos hz] at hp
    cases hp
    have hcr:(c.c2 S.fresh f q').dm=0:=by show(if q'=[] then 0 else (c.c1 S.fresh).dm-gm f.op)=0;rw[if_pos hz]
    have hwf:=h.wf.sT hwf2 hq2 (by rw[hcr];omega)
    refine aj ?_
    refine VG (VO.st 3 Z Z Z Z (hlen _ yf 2 yd) (Fj hk yd (r':=(q,{ c with dm:=0,served:=aM.sQ (c.served+gm f.op) })) Z s.rest) Z (VG (VN ?_)))
    refine aj ?_
    refine HH ?_
    rintro _ _ ⟨rfl,rfl⟩
    refine VG (VN (CX ?_))
    refine aj ?_
    refine VG (VL 1 (aY (f,m')) Z Z Z Z (VG (VT (vs:=aY (f,m')) (cs':=aY (f,m')) 1 Z Z Z Z (NR _) Z Z Z (VG (VN ?_)))))
    refine CR (aq.dB 2 3 Z Z Z (ax.many 1 Z Z) Z ?_ ⟨⟨m',Z⟩,Z⟩)
    have e:=Az (p:=p) (S:=S) (cA:={ c with dm:=0,served:=aM.sQ (c.served+gm f.op) }) (c':=c.c2 S.fresh f q') (fr:=true) hr D4 (show(((S.bw+1) % s.rows.length:Nat):Int)=((S.bw+1) % S.cls.length:Nat) by rw[hn]) rfl
    exact ON
   ·have hz:q'≠[]:=fun e=>hz (by simp[e])
    rw[if_neg hz] at hp
    cases hp
    have hcr:(c.c2 S.fresh f q').dm=(c.c1 S.fresh).dm-gm f.op:=by show(if q'=[] then 0 else (c.c1 S.fresh).dm-gm f.op)=_;rw[if_neg hz]
    have hwf:=h.wf.stays hwf2 hq2
    refine aj ?_
    refine VG (VL 1 (aY (f,m')) Z Z Z Z (VG (VT (vs:=aY (f,m')) (cs':=aY (f,m')) 1 Z Z Z Z (NR _) Z Z Z (VG (VN ?_)))))
    refine CR (aq.dB 2 3 Z Z Z (ax.many 1 Z Z) Z ?_ ⟨⟨m',Z⟩,Z⟩)
    have e:=Az (p:=p) (S:=S) (cA:={ c with dm:=(c.c1 S.fresh).dm-gm f.op,served:=aM.sQ (c.served+gm f.op) }) (c':=c.c2 S.fresh f q') (fr:=false) hr D4 (rfl:((S.bw:Nat):Int)=(S.bw:Nat)) rfl
    exact ON
end Sched
namespace Sched
open Go Vg T Api Ring
attribute [local irreducible] VO VC VA
def zy(a:Option Addr)(c:Nat)(gs:List FM):HP:=aA 181 29 a gs.length c (flat aY gs)
theorem Tl(a:Option Addr)(c:Nat)(gs:List FM)(g:FM):aA 181 29 a (gs.length+1) c (flat aY gs++aY g)=zy a c (gs ++ [g]):=by
 simp[zy,jU,lZ,sv]
theorem aM.Wf.tQ{S:aM}(h:S.Wf)(i:Nat):((S.cls.take i).flatMap cG.q).length≤64:=by
 have hq:=h.qs;have hn:=h.n1;have hc:=h.fO
 have:∀(l:List cG),(∀c∈l,c.q.length≤16)→(l.flatMap cG.q).length≤l.length*16:=by
  intro l
  induction l with
  | nil=>intro _;simp
  | cons c l ih=>intro hl;rw[uL,a_,iA];have:=hl c yf;have:=ih (fun c hc=>hl c (by simp[hc]));omega
 have h2:=this (S.cls.take i) (fun c hc=>by have:=hq c (List.mem_of_mem_take hc);omega)
 have:(S.cls.take i).length≤4:=by rw[kH];omega
 omega
def gone(now:Int)(f:ay):Bool:=decide (f.deadline<now)
def stay(now:Int)(f:ay):Bool:=!gone now f
def cG.oM(now:Int)(c:cG):cG:=⟨c.q.filter (stay now),c.mQ,if c.q.filter (stay now)=[] then 0 else c.dm,c.served⟩
def aM.cQ(S:aM)(now:Int):List ay:=S.cls.flatMap fun c=>c.q.filter (gone now)
def aM.km(S:aM)(now:Int):aM:={ S with cls:=S.cls.map (cG.oM now) }
theorem cG.Wf.exp{c:cG}(h:c.Wf)(now:Int):(c.oM now).Wf:=by
 have:=h.q0;have:=h.c0;have:=h.c1
 refine⟨h.q0,h.q1,?_,?_,h.s0,h.s1⟩
 ·show(0:Int)≤if _ then 0 else c.dm
  split<;>omega
 ·show(if _ then 0 else c.dm)≤c.mQ+95
  split<;>omega
abbrev IV:=Nat×aM×mF×Option Addr×Nat×List FM
structure IU(S0:aM)(now:Int)(s0:mF)(x:IV):Prop where
 le:x.1≤S0.cls.length
 ok:lS x.2.1 x.2.2.1
 cls:∀k,x.2.1.cls[k]?=(S0.cls[k]?).map (if k<x.1 then cG.oM now else id)
 cap:x.2.1.cap=S0.cap
 bw:x.2.1.bw=S0.bw
 fresh:x.2.1.fresh=S0.fresh
 cb:x.2.2.1.cb=s0.cb
 qT:x.2.2.1.qT=s0.qT
 rows:x.2.2.1.rows.length=s0.rows.length
 room:x.2.2.2.2.2.length≤x.2.2.2.2.1
 gs:x.2.2.2.2.2.map Prod.fst=(S0.cls.take x.1).flatMap fun c=>c.q.filter (gone now)
structure QI(cl:cG)(now:Int)(gs0:List ay)(x:Nat×List ay×Option Addr×Nat×List FM):Prop where
 le:x.1≤cl.q.length
 cur:x.2.1=cl.q.drop x.1++(cl.q.take x.1).filter (stay now)
 room:x.2.2.2.2.length≤x.2.2.2.1
 gs:x.2.2.2.2.map Prod.fst=gs0++(cl.q.take x.1).filter (gone now)
theorem aM.Wf.E'{S:aM}(h:S.Wf)(i:Nat)(now:Int):((S.cls.take i).flatMap fun c=>c.q.filter (gone now)).length≤64:=by
 have hq:=h.qs;have hn:=h.n1;have hc:=h.fO
 have:∀(l:List cG),(∀c∈l,c.q.length≤16)→(l.flatMap fun c=>c.q.filter (gone now)).length≤l.length*16:=by
  intro l
  induction l with
  | nil=>intro _;simp
  | cons c l ih=>intro hl;rw[uL,a_,iA];have:=hl c yf;have:=ih (fun c hc=>hl c (by simp[hc]));have:=pO (gone now) c.q;omega
 have h2:=this (S.cls.take i) (fun c hc=>by have:=hq c (List.mem_of_mem_take hc);omega)
 have:(S.cls.take i).length≤4:=by rw[kH];omega
 omega
theorem wN(p:Nat)(S0:aM)(now:Int):
  az Tryz.prog 255 [.pointer (some ⟨p,0,none⟩),.int .i64 now] Fr w [gI p S0] (fun v L=>∃a c gs,gs.map Prod.fst=S0.cQ now∧v=.slice a gs.length c∧L=[gI p (S0.km now),zy a c gs]):=by
 refine TF 67 Tryz.func255 Z ym aD Z Z ?_
 refine VC.bJ 0 Z (ba.aL p S0) fun s0 h0=>?_
 refine CN (L':=ke p S0 s0) (aa.of_eq (bK _)).ah ?_
 have hn:=h0.len
 have hn0:=h0.wf.n0
 have hn4:=h0.wf.n1
 refine aj ?_
 refine VG (VV (fun Fr w hF _ hs=>gy Fr w (hs.aC 0 Z)) Z (VG (VN ?_)))
 refine CP Z (fun h=>by omega) (fun _=>CK ?_)
 refine aj ?_
 refine VC.loop (σ:=IV) (fun x=>[(0,pV p),(1,.int .i64 now),(5,.slice x.2.2.2.1 x.2.2.2.2.2.length x.2.2.2.2.1),(16,.int .i64 s0.rows.length),(17,.int .i64 x.1)]) (fun x=>zy x.2.2.2.1 x.2.2.2.2.1 x.2.2.2.2.2::ke p x.2.1 x.2.2.1) (IU S0 now s0) (fun x=>4-x.1) (0,S0,s0,none,0,[]) ⟨bU _,h0,fun k=>by simp,Z,Z,Z,Z,Z,Z,NR _,Z⟩ aP (aa.dM aa.refl).ah ?_
 rintro⟨i,S,s,a,c,gs⟩ ⟨hi,h,hcls,hcap,hturn,hfresh,hcb,hccap,hrows,hroom,hgs⟩
 dsimp only at hi h hcls hcap hturn hfresh hcb hccap hrows hroom hgs ⊢
 refine aj ?_
 refine CP Z (fun h1=>?_) (fun h1=>?_)
 ·have hk0:i<S0.cls.length:=by omega
  obtain⟨c0,hc0⟩:∃c0,S0.cls[i]?=some c0:=⟨_,GE hk0⟩
  have hc0':S.cls[i]?=some c0:=by rw[hcls i,hc0,if_neg (Nat.lt_irrefl i)];rfl
  have hk:i<S.cls.length:=(bY.1 hc0').1
  obtain⟨q,cl,hr,hc⟩:=h.row hk
  obtain rfl:cl=c0:=by rw[hc] at hc0';exact oF hc0'
  have hql:=h.wf.qs cl (ME hc)
  have hcap16:=h.wf.fO
  have hki:i<s.rows.length:=by omega
  have hcell:∀{j:Nat} {v:Value},(cY (q,cl))[j]?=some v→(flat cY s.rows++s.rest)[0+i*4+j]?=some v:=fun {j v} hj=>by rw[di];exact wF hr hj _
  refine CK ?_
  refine dz ?_
  refine VG (VI (fp i Z Z Z Z Z Z hki) ?_)
  refine dz ?_
  refine DI ?_
  refine VG (VV (fun Fr w hF _ hs=>Ring.kP (q:=cl.q) (cap:=S.cap) Fr w (hs.at_ (i+3) D2)) Z (VG (VN ?_)))
  refine aj ?_
  refine VC.loop (σ:=Nat×List ay×Option Addr×Nat×List FM) (fun x=>[(0,pV p),(1,.int .i64 now),(5,.slice x.2.2.1 x.2.2.2.2.length x.2.2.2.1),(7,.pointer (some ⟨s.cb,0+i*4,none⟩)),(16,.int .i64 s0.rows.length),(17,.int .i64 i),(30,.int .i64 cl.q.length),(31,.int .i64 x.1)]) (fun x=>zy x.2.2.1 x.2.2.2.1 x.2.2.2.2::pt p (sO S s) 231::pt s.cb (flat cY s.rows++s.rest) 236::(s.rows.map fun r=>dE r.1 r.2.q S.cap).set i (dE q x.2.1 S.cap)) (QI cl now ((S0.cls.take i).flatMap fun c=>c.q.filter (gone now))) (fun x=>16-x.1) (0,cl.q,a,c,gs) ⟨bU _,by simp,hroom,by simpa using hgs⟩ aP (dq.of_eq (by dsimp only;rw[←MX hr];rfl)) ?_
  rintro⟨j,cur,a,c,gs⟩ ⟨hj,hcur,hroom,hgs⟩
  dsimp only at hj hcur hroom hgs ⊢
  have hfew:=h0.wf.E' i now
  have hgl:gs.length≤80:=by
   have:=congrArg List.length hgs
   have h3:=pO (gone now) (cl.q.take j)
   have h4:=Br j cl.q
   rw[cW,a_] at this
   omega
  have hrl:(s.rows.map fun r=>dE r.1 r.2.q S.cap).length=s.rows.length:=by simp
  refine aj ?_
  refine CP Z (fun h2=>?_) (fun h2=>?_)
  ·have hj2:j<cl.q.length:=by omega
   have hf:=GE hj2
   have hdrop:cl.q.drop j=cl.q[j]::cl.q.drop (j+1):=Bo hj2
   generalize cl.q[j]=f at hf hdrop
   have htake:cl.q.take (j+1)=cl.q.take j ++ [f]:=by rw[jb,hf];rfl
   have hcur2:cur=f::(cl.q.drop (j+1)++(cl.q.take j).filter (stay now)):=by rw[hcur,hdrop];rfl
   refine yJ ?_
   refine DI ?_
   refine VG (VO.op rfl rfl rfl (aQ.Rm (i+3) (H:=dE q cur S.cap) (R:=Ring.uh q S.cap cur) (ψ:=fun v M H=>(∃m,v=.tuple #[.agg (aY (f,m)).toArray,.bool true]∧M=jZ m)∧H=dE q (cl.q.drop (j+1)++(cl.q.take j).filter (stay now)) S.cap) (by simp[hki]) (fun Fr w _ _ _=>Ring.CW Fr w q cur S.cap) rfl (fun v L1 h1=>by rw[hcur2] at h1;obtain⟨m,h2,h3⟩:=h1;exact⟨_,_,h3,⟨m,h2,rfl⟩,rfl⟩)) ?_)
   rintro _ _ ⟨_,_,⟨⟨m,rfl,rfl⟩,rfl⟩,rfl⟩
   refine VG (VO.alloc Z fun b8=>VG (VT (vs:=aY (f,m)) (cs':=aY (f,m)) 0 Z Z Z Z (NR _) Z Z Z (VG (VN ?_))))
   refine aj ?_
   refine CP Z (fun h3=>?_) (fun h3=>?_)
   ·have h3:f.deadline<now:=h3
    have hg:gone now f=true:=by simp[gone,h3]
    have hs:stay now f=false:=by simp[stay,hg]
    refine aj ?_
    refine VG (VL 0 (aY (f,m)) Z Z Z Z ?_)
    refine VG (VO.buildSlice (n:=1) (pv:=[(0,.agg (aY (f,m)).toArray)]) (aY (f,m)) Z Z Z Z yo (ji Z Z Z) fun nb=>?_)
    refine VG (VO.append (m:=1) (news:=aY (f,m)) 3 Z Z Z Z Z Z Z (fv.pt 0 Z Z Z) Z (by show(gs.length+1)*288≤_;omega) yd fun a' c' hc'=>VG (VN ?_))
    refine jJ ?_
    have hL:(gs ++ [(f,m)]).length=gs.length+1:=by simp
    refine⟨(j+1,cl.q.drop (j+1)++(cl.q.take j).filter (stay now),a',c',gs ++ [(f,m)]),⟨hj2,by dsimp only;rw[htake,tp];simp[hs],by dsimp only;rw[hL];exact hc',?_⟩,by dsimp only;omega,SC Z (SC Z (SC (by rw[hL];rfl) aP)),?_⟩
    ·dsimp only;rw[hU,hgs,htake,tp,eL];simp[hg]
    ·dsimp only
     rw[←Tl]
     refine(aa.cons (aa.trans aa.tl (aa.trans aa.tl (aa.trans aa.tl (aa.of_eq ?_))))).ah
     show _::_::((s.rows.map fun r=>dE r.1 r.2.q S.cap).set i (dE q cur S.cap)).set i _=_
     rw[v_]
   ·have h3:¬f.deadline<now:=h3
    have hg:gone now f=false:=by simp[gone];omega
    have hs:stay now f=true:=by simp[stay,hg]
    have hlt:(cl.q.drop (j+1)++(cl.q.take j).filter (stay now)).length<S.cap:=by
     have h4:=pO (stay now) (cl.q.take j)
     have h5:=Br j cl.q
     rw[a_,r4]
     omega
    refine CD (ts 0 5 (.only 5 .nil)) ym ym ?_
    have hc3:(flat cY s.rows++s.rest)[0+i*4]?=some (.pointer (some ⟨q,0,none⟩)):=hcell (j:=0) rfl
    refine AG (VA.ld 4 Z Z Z Z hc3 (AG (VA.dQ 0 (aY (f,m)) Z Z Z Z Z ?_)))
    refine AG (AQ (i+5) (H:=dE q (cl.q.drop (j+1)++(cl.q.take j).filter (stay now)) S.cap) (ψ:=fun v H=>H=dE q (cl.q.drop (j+1)++(cl.q.take j).filter (stay now) ++ [f]) S.cap) (by simp[hki]) (fun Fr w _ _ hS=>Ring.vo Fr w q _ S.cap (f,m) (mE.sat (hS.at_ 1 Z))) Z Z (fun v L1 h1=>⟨_,h1.2,by rw[if_pos hlt]⟩) ?_ ?_)
    ·rintro _ _ rfl
     exact(by(try refine Pd.st ?_);(repeat(first|exact Pd.nil|exact Pd.fnil|refine Pd.inner ?_|refine Pd.skip yr ?_|refine zf (zo 0 Z Z) ?_|refine zf (zo 1 Z Z) ?_|refine zf (zm 0 Z Z) ?_|refine zf (zm 1 Z Z) ?_|refine zf (ax.aC (ax.one 4 Z hc3) Z) ?_|refine zf ((ax.one 4 Z hc3)) ?_|refine zc (zo 0 Z Z) ?_|refine zc (zo 1 Z Z) ?_|refine zc (zm 0 Z Z) ?_|refine zc (zm 1 Z Z) ?_|refine zc (ax.aC (ax.one 4 Z hc3) Z) ?_|refine zc ((ax.one 4 Z hc3)) ?_)))
    rintro _ _ rfl
    refine bt ?_
    refine jJ ?_
    refine⟨(j+1,cl.q.drop (j+1)++(cl.q.take j).filter (stay now) ++ [f],a,c,gs),⟨hj2,by dsimp only;rw[htake,tp,eL];simp[hs],hroom,by dsimp only;rw[hgs,htake,tp];simp[hg]⟩,by dsimp only;omega,aP,?_⟩
    refine(aa.trans aa.tl (aa.trans aa.tl (aa.cons (aa.of_eq ?_)))).ah
    show _::_::(((s.rows.map fun r=>dE r.1 r.2.q S.cap).set i (dE q cur S.cap)).set i _).set i _=_
    rw[v_,v_]
  ·have hj2:j=cl.q.length:=by omega
   subst hj2
   rw[lj] at hgs
   have hcur3:cur=cl.q.filter (stay now):=by rw[hcur];simp
   subst hcur3
   have hle2:=pO (stay now) cl.q
   have hwf':aM.Wf ⟨S.cls.set i (cl.oM now),S.cap,S.bw,S.fresh⟩:=h.wf.set hc ((h.wf.cls cl (ME hc)).exp now) (by show(cl.q.filter (stay now)).length≤S.cap;omega) (fun hl=>by
    have:=h.wf.low i cl hc hl
    show(if cl.q.filter (stay now)=[] then 0 else cl.dm)≤95
    split<;>omega)
   have hnext:IU S0 now s0 (i+1,⟨S.cls.set i (cl.oM now),S.cap,S.bw,S.fresh⟩,{ s with rows:=s.rows.set i (q,cl.oM now) },a,c,gs):=by
    refine⟨hk0,h.C8 hr hwf',fun k=>?_,hcap,hturn,hfresh,hcb,hccap,by simpa using hrows,hroom,?_⟩
    ·dsimp only
     by_cases hik:i=k
     ·subst hik
      rw[iM hk,hc0,if_pos (Nat.lt_succ_self i)];rfl
     ·rw[kG hik,hcls k]
      congr 1
      by_cases h9:k<i
      ·rw[if_pos h9,if_pos yd]
      ·rw[if_neg h9,if_neg yd]
    ·dsimp only;rw[hgs,jb,hc0,List.flatMap_append];simp
   refine CX ?_
   refine aj ?_
   refine DI ?_
   refine VG (VV (fun Fr w hF _ hs=>Ring.kP (q:=cl.q.filter (stay now)) (cap:=S.cap) Fr w (hs.at_ (i+3) (by simp[hki]))) Z (VG (VN ?_)))
   refine CE Z (fun hz=>?_) (fun hz=>CK ?_)
   ·have hz:cl.q.filter (stay now)=[]:=iz yd
    have hcr:(cl.oM now).dm=0:=by show(if cl.q.filter (stay now)=[] then 0 else cl.dm)=0;rw[if_pos hz]
    refine aj ?_
    refine VG (VO.st 2 Z Z Z Z (by rw[a_,fA wE];show 0+i*4+2<_;omega) (B3 hr yd (r':=(q,cl.c0)) Z s.rest) Z (VG (VN ?_)))
    refine jJ ?_
    refine⟨_,hnext,by dsimp only;omega,SC Z (SC Z (SC Z (SC Z (SC Z (SN _))))),(aa.cons (aa.of_eq ?_)).ah⟩
    exact Az (cA:=cl.c0) (c':=cl.oM now) hr D4 Z rfl
   ·have hz:cl.q.filter (stay now)≠[]:=fun e=>hz Bh
    have hcr:(cl.oM now).dm=cl.dm:=by show(if cl.q.filter (stay now)=[] then 0 else cl.dm)=_;rw[if_neg hz]
    refine jJ ?_
    refine⟨_,hnext,by dsimp only;omega,SC Z (SC Z (SC Z (SC Z (SC Z (SN _))))),(aa.cons (aa.of_eq ?_)).ah⟩
    rw[Fi hr (b:=(q,cl)) rfl]
    exact Az (cA:=cl) (c':=cl.oM now) hr D4 Z rfl
 ·have hk:i=S0.cls.length:=by omega
  subst hk
  rw[lj] at hgs
  refine CX ?_
  refine aj ?_
  have e:S=S0.km now:=by
   obtain⟨cls,cap,bw,fresh⟩:=S
   dsimp only at hcls hcap hturn hfresh
   subst hcap;subst hturn;subst hfresh
   show aM.mk _ _ _ _=aM.mk _ _ _ _
   congr 1
   apply pN
   intro k
   rw[hcls k,eh]
   by_cases h9:k<S0.cls.length
   ·rw[if_pos h9]
   ·rw[lO yd];rfl
  subst e
  refine CR (aq.tmp 4 Z Z (aa.trans (aa.perm (jL (l₁:=[_]))) (aa.app (xr h) aa.refl)).ah ⟨a,c,gs,hgs,Z,Z⟩)
end Sched
namespace Sched
open Go Vg T Api Ring
attribute [local irreducible] VO VC VA
structure iD(Fr:Nat→Prop)(w:World)(a:Option Addr)(qs:List Int):Prop where
 at_:qs≠[]→∃b off,a=some ⟨b,off,none⟩∧Fr b∧∀i v,qs[i]?=some v→w.cell? ⟨b,off+i,none⟩=some (.int .i64 v)
def rC(q:Int):Bool:=decide (96≤q)&&decide (q≤65536)
def ov(qs:List Int)(cap:Int):Bool:=decide (1≤qs.length)&&decide (qs.length≤4)&&decide (1≤cap)&&decide (cap≤16)&&qs.all rC
def ni(q:Int):cG:=⟨[],q,0,0⟩
def aM.new(qs:List Int)(cap:Int):aM:=⟨qs.map ni,cap.toNat,0,true⟩
theorem aM.L5{qs:List Int}{cap:Int}(h:ov qs cap=true):(aM.new qs cap).Wf:=by
 simp only[ov,dN,decide_eq_true_eq,lh,rC] at h
 obtain⟨⟨⟨⟨h1,h2⟩,h3⟩,h4⟩,h5⟩:=h
 refine⟨by simpa[aM.new] using h1,by simpa[aM.new] using h2,by simp[aM.new];omega,by simp[aM.new];omega,by simp[aM.new];omega,fun c hc=>?_,fun c hc=>?_,fun k c hc _=>?_⟩
 ·obtain⟨q,hq,rfl⟩:=bP.1 hc
  have:=h5 q hq
  exact⟨this.1,this.2,cd _,by show(0:Int)≤q+95;omega,cd _,by show(0:Int)≤_;omega⟩
 ·obtain⟨q,hq,rfl⟩:=bP.1 hc
  simp[ni]
 ·obtain⟨q,hq,rfl⟩:=bP.1 (ME hc)
  show(0:Int)≤95;omega
abbrev Bz:=Nat×Option Addr×Nat×List Row
def LX(p:Nat)(cap:Nat)(x:Bz):List HP:=pt p [.slice x.2.1 x.1 x.2.2.1,.int .i64 0,.bool true] 231::aA 236 4 x.2.1 x.1 x.2.2.1 (flat cY x.2.2.2)::x.2.2.2.map fun r=>dE r.1 r.2.q cap
def cj(qs:List Int)(cap:Int)(v:Value)(L:List HP):Prop:=if ov qs cap=true then ∃p,v=.tuple #[.pointer (some ⟨p,0,none⟩),.int .i64 0]∧L=[gI p (aM.new qs cap)] else v=.tuple #[.pointer none,.int .i64 2]∧L=[]
theorem cj.bad{X:Cx}{e:Env}{L:List HP}{qs:List Int}{cap:Int}(h:ov qs cap=false)(h4:Vg.look e 4=some (.pointer none))(h5:Vg.look e 5=some (.int .i64 2)):Vg.aq X Tryz.f90 (cj qs cap) e L:=
 aq.dh 4 5 rfl h4 h5 aa.nil.ah (by unfold cj;rw[if_neg (by rw[h];simp)];exact⟨rfl,rfl⟩)
structure En(qs:List Int)(x:Bz):Prop where
 le:x.1≤qs.length
 room:x.1≤x.2.2.1
 rows:x.2.2.2.map Prod.snd=(qs.take x.1).map ni
 ok:(qs.take x.1).all rC=true
theorem En.len{qs:List Int}{x:Bz}(h:En qs x):x.2.2.2.length=x.1:=by
 have:=congrArg List.length h.rows
 have h2:=h.le
 simp only[cW,kH] at this
 omega
theorem lK(a:Option Addr)(qc:Nat)(qs:List Int)(cap:Int)(hq:iD Fr w a qs):
  az Tryz.prog 90 [.slice a qs.length qc,.int .i64 cap] Fr w [] (cj qs cap):=by
 refine TF 62 Tryz.func90 Z ym aD Z Z ?_
 refine aj ?_
 refine VG (VO.split 13 Z Z (fun h1=>?_) (fun h1=>VG (VO.split 18 Z Z (fun h2=>?_) (fun h2=>VG (VO.split 22 Z Z (fun h3=>?_) (fun h3=>?_))))))
 ·have h1:=of_decide_eq_true h1
  refine VG (VY 18 true Z Z (VG (VY 22 true Z Z (VG (VN (VC.nj Z ?_))))))
  refine aj ?_
  refine CR (cj.bad ?_ Z Z)
  have:¬(1≤qs.length):=by omega
  simp[ov,this]
 ·have h2:=of_decide_eq_true h2
  refine VG (VY 22 true Z Z (VG (VN (VC.nj Z ?_))))
  refine aj ?_
  refine CR (cj.bad ?_ Z Z)
  have:¬(qs.length≤4):=by omega
  simp[ov,this]
 ·have h3:=of_decide_eq_true h3
  refine VG (VN (VC.nj Z ?_))
  refine aj ?_
  refine CR (cj.bad ?_ Z Z)
  have:¬(1≤cap):=by omega
  simp[ov,this]
 have h1:=of_decide_eq_false h1
 have h2:=of_decide_eq_false h2
 have h3:=of_decide_eq_false h3
 refine aj ?_
 refine CP Z (fun h4=>?_) (fun h4=>CK ?_)
 ·refine aj ?_
  refine CR (cj.bad ?_ Z Z)
  have:¬(cap≤16):=by omega
  simp[ov,this]
 obtain⟨cp,rfl⟩:=tk (show 0≤cap by omega)
 obtain⟨b,off,ha,hF,hcell⟩:=hq.at_ (fun e=>by rw[e] at h1;simp at h1)
 subst ha
 refine CS (CG (VG (VI (LB [.slice none 0 0,.int .i64 0,.bool true] Z Z Z Z Z) (VG (VB (vs:=[.slice none 0 0,.int .i64 0,.bool true]) Z fun p=>VG (VN ?_))))))
 refine aj ?_
 refine VC.loop (σ:=Bz) (fun x=>[(0,.slice (some ⟨b,off,none⟩) qs.length qc),(1,.int .i64 cp),(4,pV p),(28,.slice (some ⟨b,off,none⟩) qs.length qc),(29,.int .i64 qs.length),(30,.int .i64 x.1)]) (LX p cp) (En qs) (fun x=>4-x.1) (0,none,0,[]) ⟨bU _,NR _,Z,Z⟩ aP ?_ ?_
 ·exact(aa.cons (aa.dM aa.refl)).ah
 rintro⟨i,a,c,rows⟩ hI
 have hle:=hI.le;have hroom:=hI.room;have hlen:=hI.len;have hrows:=hI.rows;have hok:=hI.ok
 dsimp only at hle hroom hlen hrows hok ⊢
 refine aj ?_
 refine CP Z (fun h5=>?_) (fun h5=>?_)
 ·have h5:i<qs.length:=by omega
  have hqi:=GE h5
  have hmem:qs[i]∈qs:=yL h5
  have htake:qs.take (i+1)=qs.take i ++ [qs[i]]:=by rw[jb,hqi];rfl
  generalize hqv:qs[i]=q at hqi hmem htake
  have hbad:rC q=false→ov qs cp=false:=fun h=>by
   have:qs.all rC=false:=tm.2 ⟨q,hmem,by simp[h]⟩
   simp[ov,this]
  refine yJ ?_
  refine VG (VI (fp i Z Z Z Z Z Z h5) ?_)
  refine VG (VO.load Z Z (ax.rd (v:=.int .i64 q) hF (by show w.cell? ⟨b,off+i*1,none⟩=_;rw[tw];exact hcell i _ hqi)) (VG (VN ?_)))
  refine CS (CS (CG (VG (VO.split 36 Z Z (fun h6=>?_) (fun h6=>?_)))))
  ·have h6:=of_decide_eq_true h6
   refine VG (VN (VC.nj Z ?_))
   refine aj ?_
   refine CR (cj.bad (hbad ?_) Z Z)
   have:¬96≤q:=by omega
   simp[rC,this]
  have h6:=of_decide_eq_false h6
  refine VG (VN (CP Z (fun h7=>?_) (fun h7=>CK ?_)))
  ·refine aj ?_
   refine CR (cj.bad (hbad ?_) Z Z)
   have:¬q≤65536:=by omega
   simp[rC,this]
  refine aj ?_
  refine VG (VO.Jy Z (fun Fr w=>Ring.lK Fr w cp yd yd) ?_)
  rintro _ _ ⟨r,rfl,rfl⟩
  refine aj ?_
  refine VC.dH Z (fun h=>absurd Z h) (fun _=>CK ?_)
  refine CG ?_
  refine xP ?_
  refine VG (VI (LB (pv:=[(0,pV r),(1,.int .i64 q)]) (cY (r,ni q)) Z Z Z Z Z) ?_)
  refine VG (VO.buildSlice (n:=1) (pv:=[(0,.agg (cY (r,ni q)).toArray)]) (cY (r,ni q)) Z Z Z Z yo (ji Z Z Z) fun nb=>?_)
  refine VG (VO.append (m:=1) (news:=cY (r,ni q)) 3 Z Z Z Z Z Z Z (fv.pt 0 Z Z Z) Z (by show(i+1)*32≤_;omega) yd fun a' c' hc'=>?_)
  refine VG (VO.st 3 Z Z Z Z (by show 0<3;omega) Z Z (VG (VN ?_)))
  refine aj ?_
  refine VG (VP Z Z ?_ ?_ ?_)
  ·omega
  ·omega
  refine aj ?_
  refine⟨(i+1,a',c',rows ++ [(r,ni q)]),⟨h5,hc',?_,?_⟩,by dsimp only;omega,aP,?_⟩
  ·dsimp only;rw[hU,hrows,htake,hU];rfl
  ·dsimp only;rw[htake,List.all_append,hok];simp[rC];omega
  ·have e1:aa (dE r [] cp::rows.map fun r:Row=>dE r.1 r.2.q cp) ((rows ++ [(r,ni q)]).map fun r:Row=>dE r.1 r.2.q cp):=by
    rw[hU]
    exact aa.perm (jL (l₁:=[dE r [] cp]))
   have e2:flat cY rows++cY (r,ni q)=flat cY (rows ++ [(r,ni q)]):=by simp[jU,lZ,sv]
   rw[e2]
   refine(IP 3 Z ?_).ah
   exact IP 0 Z (aa.trans aa.tl e1)
 ·have h5:i=qs.length:=by omega
  subst h5
  have hnew:ov qs cp=true:=by
   rw[lj] at hok
   simp only[ov,hok,Bool.and_true,dN,decide_eq_true_eq]
   omega
  refine CX ?_
  refine aj ?_
  refine VC.bJ 1 Z (ba.sl _ _ _ _ _ _) fun x hx=>?_
  obtain⟨hx1,hx2,hx3⟩:=hx
  cases x with
  | none=>exact absurd hx3.2.1 yd
  | some y=>
   obtain⟨cb,rest⟩:=y
   obtain⟨rfl,hx3⟩:=hx3
   refine CR (aq.dh 4 5 Z Z Z (L':=[gI p (aM.new qs cp)]) ?_ (by unfold cj;rw[if_pos hnew];exact⟨p,Z,Z⟩))
   rw[lj] at hrows
   refine(aa.aL (M:=[]) ⟨cb,c,rest,rows⟩ ⟨aM.L5 hnew,hrows,by dsimp only;omega⟩ ?_).ah
   have e:sO (aM.new qs cp) ⟨cb,c,rest,rows⟩=[.slice (some ⟨cb,0,none⟩) qs.length c,.int .i64 0,.bool true]:=by simp[sO,aM.new,hlen]
   unfold ke
   rw[e]
   refine IP 1 Z ?_
   exact aa.of_eq (by simp[LX,aM.new])
end Sched
namespace Sched
open Go Vg T Api Ring
attribute [local irreducible] VO VC VA
def aM.qs(S:aM):List (List ay):=S.cls.map cG.q
theorem aM.GC{S:aM}{k:Nat}{c:cG}(h:S.cls[k]?=some c):S.qs[k]?=some c.q:=by simp[aM.qs,h]
theorem Uz{α:Type}{l:List α}{k:Nat}{a:α}(h:l[k]?=some a):l.set k a=l:=by rw[←(bY.1 h).2];simp
theorem GD{S:aM}{k:Nat}{c:cG}(hc:S.cls[k]?=some c){c':cG}(h:c'.q=c.q):(S.cls.set k c').map cG.q=S.qs:=by
 rw[iZ,h];exact Uz (by simp[hc])
theorem Gx{S:aM}{c:cG}(hc:S.cls[S.bw]?=some c)(N:Nat):S.iX (N+1)=match c.q with
   | []=>aM.iX N ⟨S.cls.set S.bw c.c0,S.cap,(S.bw+1) % S.cls.length,true⟩
   | f::q=>if (c.c1 S.fresh).dm<gm f.op then aM.iX N ⟨S.cls.set S.bw (c.c1 S.fresh),S.cap,(S.bw+1) % S.cls.length,true⟩
    else some (f,if q=[] then ⟨S.cls.set S.bw (c.c2 S.fresh f q),S.cap,(S.bw+1) % S.cls.length,true⟩ else ⟨S.cls.set S.bw (c.c2 S.fresh f q),S.cap,S.bw,false⟩):=by
 simp only[aM.iX,hc]
 all_goals (cases c.q<;>rfl)
theorem Gw:∀{N:Nat} {S S1:aM} {f:ay},S.Wf→S.iX N=some (f,S1)→∃k q,S.qs[k]?=some (f::q)∧S1.qs=S.qs.set k q∧S1.cap=S.cap∧S1.Wf
 | 0,S,S1,f,_,h=>by simp[aM.iX] at h
 | N+1,S,S1,f,hw,h=>by
  obtain⟨c,hc⟩:∃c,S.cls[S.bw]?=some c:=⟨_,GE hw.bw⟩
  have hcw:=hw.cls c (ME hc)
  have hql:=hw.qs c (ME hc)
  have same:∀c':cG,c'.q=c.q→(S.cls.set S.bw c').map cG.q=S.qs:=fun c' h'=>GD hc h'
  rw[Gx hc] at h
  cases hq:c.q with
  | nil=>
   simp only[hq] at h
   have hw':=hw.sT (c':=c.c0) hcw.empty hql D3
   obtain⟨k,q,h1,h2,h3,h4⟩:=Gw hw' h
   have e:aM.qs ⟨S.cls.set S.bw c.c0,S.cap,(S.bw+1) % S.cls.length,true⟩=S.qs:=same c.c0 rfl
   rw[e] at h1 h2
   exact⟨k,q,h1,h2,h3,h4⟩
  | cons g q'=>
   simp only[hq] at h
   have hcost:=Ag g.op
   have hw1:=hw.c1 hc
   by_cases hlt:(c.c1 S.fresh).dm<gm g.op
   ·rw[if_pos hlt] at h
    have hw':=hw.sT (c':=c.c1 S.fresh) hw1 hql yd
    obtain⟨k,q,h1,h2,h3,h4⟩:=Gw hw' h
    have e:aM.qs ⟨S.cls.set S.bw (c.c1 S.fresh),S.cap,(S.bw+1) % S.cls.length,true⟩=S.qs:=same (c.c1 S.fresh) rfl
    rw[e] at h1 h2
    exact⟨k,q,h1,h2,h3,h4⟩
   ·rw[if_neg hlt] at h
    obtain⟨hw2,hq2⟩:=hw.c2 hc hq hlt
    simp only[Option.some.injEq,Prod.mk.injEq] at h
    obtain⟨rfl,h⟩:=h
    refine⟨S.bw,q',by rw[aM.GC hc,hq],?_⟩
    by_cases hz:q'=[]
    ·rw[if_pos hz] at h
     subst h
     have hcr:(c.c2 S.fresh g q').dm=0:=by show(if q'=[] then 0 else (c.c1 S.fresh).dm-gm g.op)=0;rw[if_pos hz]
     exact⟨by simp only[aM.qs,iZ];rfl,Z,hw.sT hw2 hq2 (by rw[hcr];omega)⟩
    ·rw[if_neg hz] at h
     subst h
     exact⟨by simp only[aM.qs,iZ];rfl,Z,hw.stays hw2 hq2⟩
theorem xk:∀{N:Nat} {S:aM} {r:ay×aM} (M:Nat),S.iX N=some r→S.iX (N+M)=some r
 | 0,S,r,M,h=>by simp[aM.iX] at h
 | N+1,S,r,M,h=>by
  rw[show N+1+M=(N+M)+1 from by omega]
  simp only[aM.iX] at h ⊢
  cases hc:S.cls[S.bw]? with
  | none=>simp[hc] at h
  | some c=>
   simp only[hc] at h ⊢
   cases hq:c.q with
   | nil=>simp only[hq] at h ⊢;exact xk M h
   | cons g q'=>
    simp only[hq] at h ⊢
    by_cases hlt:(c.c1 S.fresh).dm<gm g.op
    ·rw[if_pos hlt] at h ⊢;exact xk M h
    ·rw[if_neg hlt] at h ⊢;exact h
theorem Mu:∀(d:Nat) {S:aM},S.Wf→S.fresh=true→(∃x,S.qs[(S.bw+d) % S.cls.length]?=some x∧x≠[])→∃r,S.iX (d+1)=some r
 | d,S,hw,hf,⟨x,hx,hne⟩=>by
  obtain⟨c,hc⟩:∃c,S.cls[S.bw]?=some c:=⟨_,GE hw.bw⟩
  have hcw:=hw.cls c (ME hc)
  have hql:=hw.qs c (ME hc)
  rw[Gx hc]
  cases hq:c.q with
  | cons g q'=>
   have hcost:=Ag g.op
   have h1:=hcw.q0;have h2:=hcw.c0
   have hlt:¬(c.c1 S.fresh).dm<gm g.op:=by
    show ¬(if S.fresh then c.dm+c.mQ else c.dm)<_
    rw[hf,if_pos rfl];omega
   simp only[if_neg hlt]
   exact⟨_,Z⟩
  | nil=>
   cases d with
   | zero=>
    rw[yM,Nat.mod_eq_of_lt hw.bw,aM.GC hc] at hx
    rw[←oF hx] at hne
    exact absurd hq hne
   | succ d=>
    have hw':=hw.sT (c':=c.c0) hcw.empty hql D3
    refine Mu d hw' Z ⟨x,?_,hne⟩
    have e:aM.qs ⟨S.cls.set S.bw c.c0,S.cap,(S.bw+1) % S.cls.length,true⟩=S.qs:=GD hc rfl
    rw[e,←hx]
    congr 1
    simp only[iB]
    rw[Nat.mod_add_mod]
    congr 1;omega
theorem Mv{S:aM}(hw:S.Wf)(hi:S.idle=false):∃f S1,S.iX 9=some (f,S1):=by
 have hn4:=hw.n1
 have key:∀{T:aM},T.Wf→T.fresh=true→T.qs=S.qs→∃r,T.iX 4=some r:=by
  intro T hT hf hqs
  obtain⟨c,hc,hne⟩:=tm.1 hi
  obtain⟨j,hj⟩:=oD hc
  have hTn:T.cls.length=S.cls.length:=by have:=congrArg List.length hqs;simpa[aM.qs] using this
  have hjn:=(bY.1 hj).1
  have ht:=hT.bw
  have hx:T.qs[j]?=some c.q:=by rw[hqs,aM.GC hj]
  have hne':c.q≠[]:=fun e=>hne Bh
  let d:=(j+T.cls.length-T.bw) % T.cls.length
  have hd:d<T.cls.length:=wi _ hT.n0
  have hdj:(T.bw+d) % T.cls.length=j:=by
   show(T.bw+(j+T.cls.length-T.bw) % T.cls.length) % T.cls.length=j
   rw[Nat.add_mod_mod,show T.bw+(j+T.cls.length-T.bw)=j+T.cls.length from by omega,Nat.add_mod_right]
   exact Nat.mod_eq_of_lt yd
  obtain⟨r,hr⟩:=Mu d hT hf ⟨c.q,by rw[hdj];exact hx,hne'⟩
  refine⟨r,?_⟩
  have:=xk (3-d) hr
  rwa[show d+1+(3-d)=4 from by omega] at this
 have up:∀{T:aM} {r:ay×aM},T.iX 4=some r→T.iX 9=some r:=fun h=>xk 5 h
 cases hf:S.fresh with
 | true=>
  obtain⟨r,hr⟩:=key hw hf rfl
  exact⟨r.1,r.2,up hr⟩
 | false=>
  obtain⟨c,hc⟩:∃c,S.cls[S.bw]?=some c:=⟨_,GE hw.bw⟩
  have hcw:=hw.cls c (ME hc)
  have hql:=hw.qs c (ME hc)
  have same:∀c':cG,c'.q=c.q→(S.cls.set S.bw c').map cG.q=S.qs:=fun c' h'=>GD hc h'
  rw[Gx (N:=8) hc]
  cases hq:c.q with
  | nil=>
   have hw':=hw.sT (c':=c.c0) hcw.empty hql D3
   obtain⟨r,hr⟩:=key hw' rfl (same c.c0 rfl)
   exact⟨r.1,r.2,xk 4 hr⟩
  | cons g q'=>
   have hcost:=Ag g.op
   by_cases hlt:(c.c1 S.fresh).dm<gm g.op
   ·have hw':=hw.sT (c':=c.c1 S.fresh) (hw.c1 hc) hql yd
    obtain⟨r,hr⟩:=key hw' rfl (same (c.c1 S.fresh) rfl)
    simp only[if_pos hlt]
    exact⟨r.1,r.2,xk 4 hr⟩
   ·simp only[if_neg hlt]
    exact⟨_,_,Z⟩
def aM.nB(S:aM):Option (ay×aM):=if S.idle then none else S.iX 9
def uh(p:Nat)(S:aM)(v:Value)(L:List HP):Prop:=match S.nB with
 | none=>v=.tuple #[.agg (aY fB).toArray,.bool false]∧L=[gI p S]
 | some r=>(∃m,v=.tuple #[.agg (aY (r.1,m)).toArray,.bool true])∧L=[gI p r.2]
theorem Wz(p:Nat)(S:aM)(hi:S.idle=true):
  az Tryz.prog 220 [.pointer (some ⟨p,0,none⟩)] Fr w [gI p S] (fun v L=>v=.tuple #[.agg (aY fB).toArray,.bool false]∧L=[gI p S]):=by
 refine TF 107 Tryz.func220 Z ym aD Z Z ?_
 refine CS (CG (VG (VO.alloc Z fun b=>VG (VN ?_))))
 refine VC.bJ 1 Z (ba.aL p S) fun s0 h0=>?_
 refine CN (L':=pt b (aY fB) 181::ke p S s0) (aa.perm jL).ah ?_
 refine aj ?_
 refine VG (VV (fun Fr w hF _ hs=>gy Fr w (hs.aC 1 Z)) Z ?_)
 refine VG (VY 10 false Z (DF P5) ?_)
 refine aj ?_
 refine OM ?_
 refine CC rfl (fun _=>?_) (fun h=>by rw[hi] at h;cases h)
 refine CS (CG (VG (VI (LB (pv:=[]) (aY fB) Z Z Z Z Z) (VG (VT (vs:=aY fB) (cs':=aY fB) 0 Z Z Z Z (NR _) Z Z Z (VG (VN ?_)))))))
 exact CR (aq.dB 2 3 Z Z Z (ax.many 0 Z Z) Z (aa.trans aa.tl (xr h0)).ah ⟨rfl,Z⟩)
theorem Wx(p:Nat)(S:aM)(hw:S.Wf):az Tryz.prog 220 [.pointer (some ⟨p,0,none⟩)] Fr w [gI p S] (uh p S):=by
 cases hi:S.idle with
 | true=>
  have:=Wz Fr w p S hi
  unfold uh aM.nB
  simpa only[hi,if_true] using this
 | false=>
  obtain⟨f,S1,h⟩:=Mv hw hi
  have:=CW Fr w p S 9 f S1 h hi
  unfold uh aM.nB
  simpa only[hi,h,if_neg (by simp:¬false=true)] using this
theorem Gy{S S1:aM}{f:ay}(hw:S.Wf)(h:S.nB=some (f,S1)):∃k q,S.qs[k]?=some (f::q)∧S1.qs=S.qs.set k q∧S1.cap=S.cap∧S1.Wf:=by
 unfold aM.nB at h
 split at h
 ·cases h
 ·exact Gw hw h
theorem Ws{S:aM}(hw:S.Wf)(h:S.nB=none):S.idle=true:=by
 unfold aM.nB at h
 split at h
 ·assumption
 ·rename_i hi
  obtain⟨f,S1,h2⟩:=Mv hw yk
  rw[h2] at h;cases h
theorem GB{S:aM}(hw:S.Wf)(f:ay):(S.fq f).2.Wf:=by
 unfold aM.fq
 cases ha:S.at_ f.cls with
 | none=>exact hw
 | some c=>
  dsimp only
  split
  ·exact hw
  ·split
   ·rename_i hlt
    unfold aM.at_ at ha
    split at ha
    ·have hcw:=hw.cls c (ME ha)
     exact hw.set ha ⟨hcw.q0,hcw.q1,hcw.c0,hcw.c1,hcw.s0,hcw.s1⟩ ye (hw.low _ c ha)
    ·cases ha
   ·exact hw
theorem WO{S:aM}{f:ay}{k:Nat}{c:cG}(hk:f.cls=k)(hc:S.cls[k]?=some c)(ho:dD f.op=0):
  S.fq f=if c.q.length<S.cap then (0,S.jE k { c with q:=c.q ++ [f] }) else (60,S):=by
 unfold aM.fq
 rw[hk,aM.Ev,hc]
 dsimp only
 rw[if_neg (fun h=>h ho),dZ]
theorem WS{S:aM}{f:ay}{k:Nat}{q:List ay}(hk:f.cls=k)(hc:S.qs[k]?=some q)(ho:dD f.op=0):
  (S.fq f).1=(if q.length<S.cap then 0 else 60)∧(S.fq f).2.qs=(if q.length<S.cap then S.qs.set k (q ++ [f]) else S.qs)∧(S.fq f).2.cap=S.cap:=by
 unfold aM.qs at hc
 rw[eh] at hc
 cases hcl:S.cls[k]? with
 | none=>rw[hcl] at hc;cases hc
 | some c=>
  rw[hcl] at hc
  obtain rfl:c.q=q:=oF hc
  rw[WO hk hcl ho]
  split
  ·exact⟨rfl,by simp[aM.qs,aM.jE,iZ],Z⟩
  ·exact⟨rfl,Z,Z⟩
theorem E8(S:aM)(now:Int):(S.km now).qs=S.qs.map fun q=>q.filter (stay now):=by simp[aM.qs,aM.km,cG.oM,Function.comp_def]
theorem KC(S:aM)(now:Int):S.cQ now=S.qs.flatMap fun q=>q.filter (gone now):=by simp[aM.qs,aM.cQ,List.flatMap_map]
theorem Ki{S:aM}(hw:S.Wf)(now:Int):(S.km now).Wf:=by
 refine⟨by simpa[aM.km] using hw.n0,by simpa[aM.km] using hw.n1,hw.dL,hw.fO,by simpa[aM.km] using hw.bw,fun x hx=>?_,fun x hx=>?_,fun k x hx hl=>?_⟩
 ·obtain⟨c,hc,rfl⟩:=bP.1 hx
  exact(hw.cls c hc).exp now
 ·obtain⟨c,hc,rfl⟩:=bP.1 hx
  have:=hw.qs c hc
  have:=pO (stay now) c.q
  show(c.q.filter (stay now)).length≤S.cap
  omega
 ·simp only[aM.km,eh] at hx
  cases hc:S.cls[k]? with
  | none=>rw[hc] at hx;cases hx
  | some c=>
   rw[hc] at hx
   obtain rfl:c.oM now=x:=oF hx
   have:=hw.low k c hc hl
   show(if c.q.filter (stay now)=[] then 0 else c.dm)≤95
   split<;>omega
end Sched
namespace Conf
open Go Api Vg T Sched
attribute [local irreducible] VO VC VA
def eD(qs:List Int):List Value:=qs.map fun q=>.int .i64 q
def lG(a:Option Addr)(cap:Nat)(qs:List Int):HP:=aA 3 1 a qs.length cap (eD qs)
theorem zM(qs:List Int):(eD qs).length=qs.length:=by simp[eD]
theorem TR(qs:List Int):(eD qs).all Value.oneCell'=true:=by
 rw[lh]
 intro v hv
 obtain⟨q,_,rfl⟩:=bP.1 hv
 rfl
theorem EK{w w':World}{b off:Nat}{v:Value}(hb:w'.heap[b]?=w.heap[b]?)(h:w.cell? ⟨b,off,none⟩=some v):w'.cell? ⟨b,off,none⟩=some v:=by
 rw[←h];unfold World.cell?;rw[hb]
theorem oh{X:Cx}{a:Option Addr}{qs:List Int}(h:iD X.Fr X.w0 a qs){Fr':Nat→Prop}(hF:∀b,X.Fr b→Fr' b){w:World}{L:List HP}(hw:St X L w):iD Fr' w a qs:=⟨fun hne=>by
 obtain⟨b,off,h1,h2,h3⟩:=h.at_ hne
 exact⟨b,off,h1,hF b h2,fun i v hv=>EK (hw.cS.block b h2) (h3 i v hv)⟩⟩
theorem uY{Fr:Nat→Prop}{w:World}{a:Option Addr}{c:Nat}{qs:List Int}(h:a8 Fr [lG a c qs] w):iD Fr w a qs:=by
 refine⟨fun hne=>?_⟩
 obtain⟨F,⟨i,G,rfl,hs,rfl⟩,hF⟩:=h
 obtain⟨hc,⟨rfl,h0,_,_⟩ | ⟨b,rest,rfl,rfl,hn,hr,hh⟩⟩:=hs
 ·exact absurd (iz h0) hne
 ·refine⟨b,0,Z,hF b yf,fun i v hv=>?_⟩
  rw[di,cell_of_row w b i (eD qs++rest).toArray _ _ hh]
  have hi:=(bY.1 hv).1
  have:(eD qs++rest)[i]?=some (.int .i64 v):=by
   rw[nL (by simpa[eD] using hi),eD,eh,hv];rfl
  simpa using this
theorem TU{Fr:Nat→Prop}{w:World}{a:Option Addr}{qs:List Int}(h:iD Fr w a qs)(n:Nat):iD Fr w a (qs.take n):=by
 refine⟨fun hne=>?_⟩
 obtain⟨b,off,h1,h2,h3⟩:=h.at_ (fun e=>hne (by rw[e];simp))
 refine⟨b,off,h1,h2,fun i v hv=>h3 i v ?_⟩
 rw[tq] at hv
 split at hv
 ·exact hv
 ·cases hv
def oG(_:Option Addr):Prop:=True
structure bh where
 nodes:Int
 chain:Int
 bC:Int
 qs:List Int
 queue:Int
 gZ:Int
 reads:Int
 link:Int
 fI:Int
 timeout:Int
 gr:Int
 fE:Int
deriving DecidableEq
def bh.cells(c:bh)(a:Option Addr)(cap:Nat):List Value:=[.int .i64 c.nodes,.int .i64 c.chain,.int .i64 c.bC,.slice a c.qs.length cap,.int .i64 c.queue,.int .i64 c.gZ,.int .i64 c.reads,.int .i64 c.link,.int .i64 c.fI,.int .i64 c.timeout,.int .i64 c.gr,.int .i64 c.fE]
def aG(x lo hi:Int):Int:=if (if hi<x then hi else x)<lo then lo else if hi<x then hi else x
theorem mN{x lo hi:Int}(h:lo≤hi):lo≤aG x lo hi∧aG x lo hi≤hi:=by
 unfold aG;split<;>split<;>omega
theorem uc{x lo hi:Int}(h1:lo≤x)(h2:x≤hi):aG x lo hi=x:=by
 unfold aG;rw[if_neg yd,if_neg yd]
theorem Vq(x lo hi:Int):(if lo<(if hi<x then hi else x) then (if hi<x then hi else x) else lo)=aG x lo hi:=by
 unfold aG;split<;>split<;>omega
def kC(q:Int):Int:=aG q 96 65536
def eJ(qs:List Int):List Int:=if qs.take 4=[] then [96] else qs.take 4
def ft(qs:List Int):List Int:=(eJ qs).map kC
def bI(c:bh):bh:=⟨aG c.nodes 1 6,aG c.chain 1 (aG c.nodes 1 6),aG c.bC 1 6,ft c.qs,aG c.queue 1 16,aG c.gZ 1 16,aG c.reads 1 16,aG c.link 4 64,aG c.fI 4 64,aG c.timeout 4 64,aG c.gr 0 16,aG c.fE 1 1099511627776⟩
theorem MF(qs:List Int):1≤(eJ qs).length∧(eJ qs).length≤4:=by
 unfold eJ
 split
 ·simp
 ·rename_i h
  have:=Br 4 qs
  refine⟨?_,this⟩
  cases hq:qs.take 4 with
  | nil=>exact absurd hq h
  | cons _ _=>simp
theorem Ao(qs:List Int):1≤(ft qs).length∧(ft qs).length≤4:=by
 have:=MF qs
 simpa[ft] using this
theorem RG(x lo hi:Int):az Tryz.prog 139 [.int .i64 x,.int .i64 lo,.int .i64 hi] Fr w [] (fun v L=>v=.int .i64 (aG x lo hi)∧L=[]):=by
 refine TF 12 Tryz.func139 Z ym aD Z Z ?_
 refine aj ?_
 exact CR (aq.int 6 Z Z Z ER ⟨rfl,Z⟩)
theorem pf{b off t:Nat}{cs:List Value}{x:Int}(lo hi:Int)(hx:cs[off]?=some (.int .i64 x)):
  az Tryz.prog 138 [.pointer (some ⟨b,off,none⟩),.int .i64 lo,.int .i64 hi] Fr w [pt b cs t] (fun v L=>v=.tuple #[]∧L=[pt b (cs.set off (.int .i64 (aG x lo hi))) t]):=by
 refine TF 14 Tryz.func138 Z ym aD Z Z ?_
 refine CG ?_
 refine VG (VO.ld 0 Z Z Z hx ?_)
 refine VG (VO.lW (fun Fr w=>RG Fr w x lo hi) Z ?_)
 refine VG (VO.st 0 Z Z Z Z (bY.1 hx).1 Z Z (VG (VN ?_)))
 exact vN
theorem EV(a:Option Addr)(cap:Nat)(qs:List Int)(hq:iD Fr w a qs)(hl:qs.length≤1000):az Tryz.prog 140 [.slice a qs.length cap] Fr w []
  (fun v L=>∃a' cap',v=.slice a' qs.length cap'∧L=[lG a' cap' qs]):=by
 refine TF 8 Tryz.func140 Z ym aD Z Z ?_
 cases ha:a with
 | none=>
  have hnil:qs=[]:=by
   cases hqs:qs with
   | nil=>rfl
   | cons x xs=>
    obtain⟨b,off,h1,_⟩:=hq.at_ (by rw[hqs];simp)
    rw[ha] at h1;cases h1
  subst hnil
  refine rT ?_
  exact CR (aq.tmp 2 Z Z (aa.dM aa.refl).ah ⟨none,0,Z,Z⟩)
 | some ad=>
  refine rS ?_
  refine VG (VO.buildSlice (n:=0) (pv:=[]) [] Z Z Z Z yo Z fun nb=>?_)
  refine VO.ah (L':=[aA 3 1 (some ⟨nb,0,none⟩) 0 0 []]) (aa.sl (cs:=[]) (rest:=[]) Z (NR _) Z aa.refl).ah ?_
  refine VG (VO.append (m:=qs.length) (news:=eD qs) 0 Z Z Z Z Z Z Z ?_ (TR qs) (by show(0+qs.length)*8≤_;omega) yd fun a' c' hc'=>VG (VN ?_))
  ·by_cases hne:qs=[]
   ·subst hne
    exact⟨rfl,.inl ⟨some ad,cap,Z,Z⟩⟩
   ·obtain⟨b,off,h1,h2,h3⟩:=hq.at_ hne
    rw[ha] at h1
    cases h1
    refine⟨by simp[eD],.inr ⟨b,off,cap,Z,fun w' hw' j v hv=>?_⟩⟩
    rw[eD,eh] at hv
    cases hj:qs[j]? with
    | none=>rw[hj] at hv;cases hv
    | some x=>
     rw[hj] at hv
     obtain rfl:=oF hv
     exact EK (hw'.cS.block b h2) (h3 j x hj)
  ·exact CR (aq.tmp 2 Z Z (aa.of_eq (by rw[di];rfl)).ah ⟨a',c',by rw[di],Z⟩)
theorem SH(a b:Option Addr)(ca cb:Nat)(qs ps:List Int)(hq:iD Fr w a qs)(hp:iD Fr w b ps)(hl:ps.length≤1000):az Tryz.prog 88 [.slice a qs.length ca,.slice b ps.length cb] Fr w []
  (fun v L=>v=.bool (decide (qs=ps))∧L=[]):=by
 refine TF 26 Tryz.func88 Z ym aD Z Z ?_
 refine aj ?_
 refine VC.dH Z (fun h1=>?_) (fun h1=>CK ?_)
 ·refine aj ?_
  exact CR (aq.bool 4 Z Z (by symm;apply DF;intro e;exact h1 mT) ER ⟨rfl,Z⟩)
 have h1:qs.length=ps.length:=by omega
 refine aj ?_
 refine VC.loop (σ:=Nat) (fun i=>[(0,.slice a qs.length ca),(1,.slice b ps.length cb),(12,.int .i64 qs.length),(13,.int .i64 i)]) (fun _=>[]) (fun i=>i≤qs.length∧∀j,j<i→qs[j]?=ps[j]?) (fun i=>qs.length-i) 0 ⟨bU _,fun j hj=>by omega⟩ aP ER ?_
 rintro i ⟨hi,hall⟩
 refine aj ?_
 refine CP Z (fun h2=>CK ?_) (fun h2=>CX ?_)
 ·have hi1:i<qs.length:=by omega
  have hi2:i<ps.length:=by omega
  obtain⟨qb,qo,rfl,hFq,hcq⟩:=hq.at_ (fun e=>by rw[e] at hi1;simp at hi1)
  obtain⟨pb,po,rfl,hFp,hcp⟩:=hp.at_ (fun e=>by rw[e] at hi2;simp at hi2)
  have e1:=GE hi1
  have e2:=GE hi2
  generalize qs[i]=x at e1
  generalize ps[i]=y at e2
  refine uv ?_
  refine mA ?_
  refine CS (CD (ts 0 9 .nil) ym yr ?_)
  refine bt ?_
  refine AG (AI Z (fp i Z Z Z Z Z Z hi1) ?_)
  refine AG (VA.load Z Z Z (ax.rd (v:=.int .i64 x) hFq (by show w.cell? ⟨qb,qo+i*1,none⟩=_;rw[tw];exact hcq i x e1)) ?_)
  refine bt ?_
  refine AG (AI Z (fp i Z Z Z Z Z Z hi2) ?_)
  refine AG (VA.load Z Z Z (ax.rd (v:=.int .i64 y) hFp (by show w.cell? ⟨pb,po+i*1,none⟩=_;rw[tw];exact hcp i y e2)) ?_)
  refine bt ?_
  refine VC.dH Z (fun h3=>?_) (fun h3=>CK ?_)
  ·refine aj ?_
   exact CR (aq.bool 4 Z Z (by symm;apply DF;intro e;rw[e,e2] at e1;exact h3 (oF e1).symm) ER ⟨rfl,Z⟩)
  refine jJ ?_
  refine⟨i+1,⟨hi1,fun j hj=>?_⟩,by dsimp only;omega,aP,ER⟩
  by_cases hji:j=i
  ·subst hji;rw[e1,e2,h3]
  ·exact hall j yd
 ·have hi1:i=qs.length:=by omega
  subst hi1
  refine aj ?_
  refine CR (aq.bool 4 Z Z (by
   symm;apply DT
   apply pN
   intro j
   by_cases hj:j<qs.length
   ·exact hall j hj
   ·rw[lO yd,lO yd]) ER ⟨rfl,rfl⟩)
def ny(qs:List Int)(i:Nat):List Int:=(qs.take i).map kC++qs.drop i
theorem Va(qs:List Int)(i:Nat):(ny qs i).length=qs.length:=by simp[ny];omega
theorem U'{qs:List Int}{i:Nat}{x:Int}(h:qs[i]?=some x):(ny qs i)[i]?=some x:=by
 have hi:=(bY.1 h).1
 rw[ny,qI ye]
 simp only[cW,kH,rZ]
 rw[←h];congr 1;omega
theorem Vb{qs:List Int}{i:Nat}{x:Int}(h:qs[i]?=some x):(ny qs i).set i (kC x)=ny qs (i+1):=by
 have hi:=(bY.1 h).1
 rw[ny,ny,jb,h,List.set_append_right _ _ ye]
 have h2:qs.drop i=x::qs.drop (i+1):=by
  rw[Bo hi,(bY.1 h).2]
 rw[h2]
 have h3:i-((qs.take i).map kC).length=0:=by simp;omega
 rw[h3];simp
theorem Ta(c:bh)(a:Option Addr)(cap:Nat)(hq:iD Fr w a c.qs)(ha:oG a)(hcap:c.qs.length≤cap):az Tryz.prog 87 [.agg (c.cells a cap).toArray] Fr w []
  (fun v L=>∃a' cap',oG a'∧(bI c).qs.length≤cap'∧v=.agg ((bI c).cells a' cap').toArray∧L=[lG a' cap' (bI c).qs]):=by
 refine TF 69 Tryz.func87 Z ym aD Z Z ?_
 refine CS (CG (VG (VB (vs:=c.cells a cap) Z fun x=>VG (VO.alloc Z fun r=>VG (VN ?_)))))
 obtain⟨c0,c1,c2,qs,c4,c5,c6,c7,c8,c9,c10,c11⟩:=c
 dsimp only at hq hcap
 refine mA ?_
 refine sX ?_
 refine VG (VO.pg 1 (ψ:=fun v H=>H=pt x [.int .i64 (aG c0 1 6),.int .i64 c1,.int .i64 c2,.slice a qs.length cap,.int .i64 c4,.int .i64 c5,.int .i64 c6,.int .i64 c7,.int .i64 c8,.int .i64 c9,.int .i64 c10,.int .i64 c11] 24) Z Z (fun Fr w _ _ _=>pf Fr w _ _ Z) Z (fun v L1 h=>⟨_,h.2,Z⟩) ?_)
 rintro _ _ rfl
 refine tg ?_
 refine xP ?_
 refine VG (VO.pg 1 (ψ:=fun v H=>H=pt x [.int .i64 (aG c0 1 6),.int .i64 (aG c1 1 (aG c0 1 6)),.int .i64 c2,.slice a qs.length cap,.int .i64 c4,.int .i64 c5,.int .i64 c6,.int .i64 c7,.int .i64 c8,.int .i64 c9,.int .i64 c10,.int .i64 c11] 24) Z Z (fun Fr w _ _ _=>pf Fr w _ _ Z) Z (fun v L1 h=>⟨_,h.2,Z⟩) ?_)
 rintro _ _ rfl
 refine tg ?_
 refine VG (VO.pg 1 (ψ:=fun v H=>H=pt x [.int .i64 (aG c0 1 6),.int .i64 (aG c1 1 (aG c0 1 6)),.int .i64 (aG c2 1 6),.slice a qs.length cap,.int .i64 c4,.int .i64 c5,.int .i64 c6,.int .i64 c7,.int .i64 c8,.int .i64 c9,.int .i64 c10,.int .i64 c11] 24) Z Z (fun Fr w _ _ _=>pf Fr w _ _ Z) Z (fun v L1 h=>⟨_,h.2,Z⟩) ?_)
 rintro _ _ rfl
 refine lg ?_
 have ht4:=Br 4 qs
 refine CS (CG (VG (VO.ld 1 Z Z Z Z (VG (VO.ld 1 Z Z Z Z ?_)))))
 refine VG (VI (FL (qs.take 4).length Z Z Z Z Z (by rw[kH];split<;>omega) Ix) ?_)
 refine VG (VK (Lc:=[]) (fun Fr w hF hs _=>EV Fr w a cap (qs.take 4) (TU (oh hq hF hs) 4) yd) Z Z ?_)
 rintro _ _ ⟨a1,fO,rfl,rfl⟩
 refine VG (VO.st 2 Z Z Z Z Bi Z Z (VG (VN ?_)))
 have hf1:=MF qs
 refine VC.meet (σ:=Nat×Nat×List Value) (fun _=>[(1,pV x),(2,pV r),(3,.func (.func 138) #[] #[])])
  (fun y=>[pt y.1 (eD (eJ qs)++y.2.2) 3,pt r T.t24.zs 24,pt x [.int .i64 (aG c0 1 6),.int .i64 (aG c1 1 (aG c0 1 6)),.int .i64 (aG c2 1 6),.slice (some ⟨y.1,0,none⟩) (eJ qs).length y.2.1,.int .i64 c4,.int .i64 c5,.int .i64 c6,.int .i64 c7,.int .i64 c8,.int .i64 c9,.int .i64 c10,.int .i64 c11] 24]) (fun y=>(eJ qs).length≤y.2.1∧(eD (eJ qs)++y.2.2).length=y.2.1) ?_ ?_
 ·refine CS (CG (VG (VO.ld 2 Z Z Z Z (VG (VN ?_)))))
  refine CE Z (fun hz=>?_) (fun hz=>?_)
  ·have hz:qs.take 4=[]:=iz yd
   have hqf:eJ qs=[96]:=by unfold eJ;rw[if_pos hz]
   refine CG (VG (VO.buildSlice (n:=1) (pv:=[(0,.int .i64 96)]) [.int .i64 96] Z Z Z Z yo Z fun nb=>?_))
   refine VG (VO.st 3 Z Z Z Z Bi Z Z (VG (VN ?_)))
   refine⟨(nb,1,[]),⟨by rw[hqf];exact NR 1,by rw[hqf];rfl⟩,aP,?_⟩
   rw[hqf]
   exact(aa.cons aa.tl).ah
  ·have hz:¬qs.take 4=[]:=fun e=>hz Bh
   have hqf:eJ qs=qs.take 4:=by unfold eJ;rw[if_neg hz]
   refine VC.bJ 0 Z (ba.sl 3 1 a1 (qs.take 4).length fO (eD (qs.take 4))) fun y hy=>CK ?_
   obtain⟨h1,h2,h3⟩:=hy
   cases y with
   | none=>
    obtain⟨_,h5,_⟩:=h3
    exact absurd (iz h5) hz
   | some y=>
    obtain⟨b1,rest⟩:=y
    obtain⟨rfl,h4⟩:=h3
    refine⟨(b1,fO,rest),⟨by rw[hqf];exact h2,by rw[hqf];simpa using h4⟩,aP,?_⟩
    rw[hqf]
    exact ER
 rintro⟨qb,qcap,rest⟩ ⟨hqc,hrest⟩
 dsimp only at hqc hrest ⊢
 refine gK ?_
 refine VC.loop (σ:=Nat) (fun i=>[(1,pV x),(2,pV r),(3,.func (.func 138) #[] #[]),(33,.int .i64 (eJ qs).length),(34,.int .i64 i)])
  (fun i=>[pt qb (eD (ny (eJ qs) i)++rest) 3,pt r T.t24.zs 24,pt x [.int .i64 (aG c0 1 6),.int .i64 (aG c1 1 (aG c0 1 6)),.int .i64 (aG c2 1 6),.slice (some ⟨qb,0,none⟩) (eJ qs).length qcap,.int .i64 c4,.int .i64 c5,.int .i64 c6,.int .i64 c7,.int .i64 c8,.int .i64 c9,.int .i64 c10,.int .i64 c11] 24]) (fun i=>i≤(eJ qs).length) (fun i=>4-i) 0 (bU _) aP ER ?_
 intro i hi
 refine aj ?_
 refine CP Z (fun h1=>CK ?_) (fun h1=>CX ?_)
 ·have hi2:i<(eJ qs).length:=by omega
  have hy:=GE hi2
  generalize (eJ qs)[i]=y at hy
  have hc:(eD (ny (eJ qs) i)++rest)[0+i*1]?=some (.int .i64 y):=by
   rw[di,tw,nL P6,eD,eh,U' hy];rfl
  have hset:(eD (ny (eJ qs) i)++rest).set (0+i*1) (.int .i64 (aG y 96 65536))=eD (ny (eJ qs) (i+1))++rest:=by
   rw[di,tw,List.set_append_left _ _ P6,eD,←Vb hy,eD,iZ];rfl
  refine gK ?_
  refine OB ?_
  refine VG (VO.pg 0 (ψ:=fun v H=>H=pt qb (eD (ny (eJ qs) (i+1))++rest) 3) Z Z (fun Fr w _ _ _=>pf Fr w _ _ hc) Z (fun v L1 h=>⟨_,h.2,by rw[hset]⟩) ?_)
  rintro _ _ rfl
  refine lg ?_
  refine jJ ?_
  exact⟨i+1,hi2,by dsimp only;omega,aP,ER⟩
 have hi2:i=(eJ qs).length:=by omega
 subst hi2
 refine sX ?_
 refine VG (VO.pg 2 (ψ:=fun v H=>H=pt x [.int .i64 (aG c0 1 6),.int .i64 (aG c1 1 (aG c0 1 6)),.int .i64 (aG c2 1 6),.slice (some ⟨qb,0,none⟩) (eJ qs).length qcap,.int .i64 (aG c4 1 16),.int .i64 c5,.int .i64 c6,.int .i64 c7,.int .i64 c8,.int .i64 c9,.int .i64 c10,.int .i64 c11] 24) Z Z (fun Fr w _ _ _=>pf Fr w _ _ Z) Z (fun v L1 h=>⟨_,h.2,Z⟩) ?_)
 rintro _ _ rfl
 refine tg ?_
 refine VG (VO.pg 2 (ψ:=fun v H=>H=pt x [.int .i64 (aG c0 1 6),.int .i64 (aG c1 1 (aG c0 1 6)),.int .i64 (aG c2 1 6),.slice (some ⟨qb,0,none⟩) (eJ qs).length qcap,.int .i64 (aG c4 1 16),.int .i64 (aG c5 1 16),.int .i64 c6,.int .i64 c7,.int .i64 c8,.int .i64 c9,.int .i64 c10,.int .i64 c11] 24) Z Z (fun Fr w _ _ _=>pf Fr w _ _ Z) Z (fun v L1 h=>⟨_,h.2,Z⟩) ?_)
 rintro _ _ rfl
 refine tg ?_
 refine VG (VO.pg 2 (ψ:=fun v H=>H=pt x [.int .i64 (aG c0 1 6),.int .i64 (aG c1 1 (aG c0 1 6)),.int .i64 (aG c2 1 6),.slice (some ⟨qb,0,none⟩) (eJ qs).length qcap,.int .i64 (aG c4 1 16),.int .i64 (aG c5 1 16),.int .i64 (aG c6 1 16),.int .i64 c7,.int .i64 c8,.int .i64 c9,.int .i64 c10,.int .i64 c11] 24) Z Z (fun Fr w _ _ _=>pf Fr w _ _ Z) Z (fun v L1 h=>⟨_,h.2,Z⟩) ?_)
 rintro _ _ rfl
 refine tg ?_
 refine VG (VO.pg 2 (ψ:=fun v H=>H=pt x [.int .i64 (aG c0 1 6),.int .i64 (aG c1 1 (aG c0 1 6)),.int .i64 (aG c2 1 6),.slice (some ⟨qb,0,none⟩) (eJ qs).length qcap,.int .i64 (aG c4 1 16),.int .i64 (aG c5 1 16),.int .i64 (aG c6 1 16),.int .i64 (aG c7 4 64),.int .i64 c8,.int .i64 c9,.int .i64 c10,.int .i64 c11] 24) Z Z (fun Fr w _ _ _=>pf Fr w _ _ Z) Z (fun v L1 h=>⟨_,h.2,Z⟩) ?_)
 rintro _ _ rfl
 refine tg ?_
 refine VG (VO.pg 2 (ψ:=fun v H=>H=pt x [.int .i64 (aG c0 1 6),.int .i64 (aG c1 1 (aG c0 1 6)),.int .i64 (aG c2 1 6),.slice (some ⟨qb,0,none⟩) (eJ qs).length qcap,.int .i64 (aG c4 1 16),.int .i64 (aG c5 1 16),.int .i64 (aG c6 1 16),.int .i64 (aG c7 4 64),.int .i64 (aG c8 4 64),.int .i64 c9,.int .i64 c10,.int .i64 c11] 24) Z Z (fun Fr w _ _ _=>pf Fr w _ _ Z) Z (fun v L1 h=>⟨_,h.2,Z⟩) ?_)
 rintro _ _ rfl
 refine tg ?_
 refine VG (VO.pg 2 (ψ:=fun v H=>H=pt x [.int .i64 (aG c0 1 6),.int .i64 (aG c1 1 (aG c0 1 6)),.int .i64 (aG c2 1 6),.slice (some ⟨qb,0,none⟩) (eJ qs).length qcap,.int .i64 (aG c4 1 16),.int .i64 (aG c5 1 16),.int .i64 (aG c6 1 16),.int .i64 (aG c7 4 64),.int .i64 (aG c8 4 64),.int .i64 (aG c9 4 64),.int .i64 c10,.int .i64 c11] 24) Z Z (fun Fr w _ _ _=>pf Fr w _ _ Z) Z (fun v L1 h=>⟨_,h.2,Z⟩) ?_)
 rintro _ _ rfl
 refine tg ?_
 refine VG (VO.pg 2 (ψ:=fun v H=>H=pt x [.int .i64 (aG c0 1 6),.int .i64 (aG c1 1 (aG c0 1 6)),.int .i64 (aG c2 1 6),.slice (some ⟨qb,0,none⟩) (eJ qs).length qcap,.int .i64 (aG c4 1 16),.int .i64 (aG c5 1 16),.int .i64 (aG c6 1 16),.int .i64 (aG c7 4 64),.int .i64 (aG c8 4 64),.int .i64 (aG c9 4 64),.int .i64 (aG c10 0 16),.int .i64 c11] 24) Z Z (fun Fr w _ _ _=>pf Fr w _ _ Z) Z (fun v L1 h=>⟨_,h.2,Z⟩) ?_)
 rintro _ _ rfl
 refine tg ?_
 refine VG (VO.pg 2 (ψ:=fun v H=>H=pt x [.int .i64 (aG c0 1 6),.int .i64 (aG c1 1 (aG c0 1 6)),.int .i64 (aG c2 1 6),.slice (some ⟨qb,0,none⟩) (eJ qs).length qcap,.int .i64 (aG c4 1 16),.int .i64 (aG c5 1 16),.int .i64 (aG c6 1 16),.int .i64 (aG c7 4 64),.int .i64 (aG c8 4 64),.int .i64 (aG c9 4 64),.int .i64 (aG c10 0 16),.int .i64 (aG c11 1 1099511627776)] 24) Z Z (fun Fr w _ _ _=>pf Fr w _ _ Z) Z (fun v L1 h=>⟨_,h.2,Z⟩) ?_)
 rintro _ _ rfl
 refine lg ?_
 have hmix:ny (eJ qs) (eJ qs).length=ft qs:=by simp[ny,ft]
 have hql:(eJ qs).length=(ft qs).length:=by simp[ft]
 rw[hmix]
 refine CS (CG (VG (VL 2 [.int .i64 (aG c0 1 6),.int .i64 (aG c1 1 (aG c0 1 6)),.int .i64 (aG c2 1 6),.slice (some ⟨qb,0,none⟩) (eJ qs).length qcap,.int .i64 (aG c4 1 16),.int .i64 (aG c5 1 16),.int .i64 (aG c6 1 16),.int .i64 (aG c7 4 64),.int .i64 (aG c8 4 64),.int .i64 (aG c9 4 64),.int .i64 (aG c10 0 16),.int .i64 (aG c11 1 1099511627776)] Z Z Z Z ?_)))
 refine VG (VT (vs:=[.int .i64 (aG c0 1 6),.int .i64 (aG c1 1 (aG c0 1 6)),.int .i64 (aG c2 1 6),.slice (some ⟨qb,0,none⟩) (eJ qs).length qcap,.int .i64 (aG c4 1 16),.int .i64 (aG c5 1 16),.int .i64 (aG c6 1 16),.int .i64 (aG c7 4 64),.int .i64 (aG c8 4 64),.int .i64 (aG c9 4 64),.int .i64 (aG c10 0 16),.int .i64 (aG c11 1 1099511627776)]) (cs':=[.int .i64 (aG c0 1 6),.int .i64 (aG c1 1 (aG c0 1 6)),.int .i64 (aG c2 1 6),.slice (some ⟨qb,0,none⟩) (eJ qs).length qcap,.int .i64 (aG c4 1 16),.int .i64 (aG c5 1 16),.int .i64 (aG c6 1 16),.int .i64 (aG c7 4 64),.int .i64 (aG c8 4 64),.int .i64 (aG c9 4 64),.int .i64 (aG c10 0 16),.int .i64 (aG c11 1 1099511627776)]) 1 Z Z Z Z (NR _) Z Z Z (VG (VN ?_)))
 refine CR (aq.cell 2 Z Z Z (ax.many 1 Z Z) (L':=[lG (some ⟨qb,0,none⟩) qcap (ft qs)]) ?_ ⟨some ⟨qb,0,none⟩,qcap,trivial,by show(ft qs).length≤_;omega,?_,Z⟩)
 ·refine(aa.sl (b:=qb) (rest:=rest) (by rw[zM,tw]) yd (by rw[←hrest,tw,a_,a_,zM,zM,hql]) (aa.app (L:=[_]) (M:=[_]) aa.refl aa.nil)).ah
 ·rw[hql];rfl
end Conf
namespace Conf
open Go Api Vg T Sched
attribute [local irreducible] VO VC VA
def nY(c:bh):Int:=if c=bI c then 0 else 2
theorem JV{c d:bh}(h0:c.nodes=d.nodes)(h1:c.chain=d.chain)(h2:c.bC=d.bC)(h3:c.qs=d.qs)(h4:c.queue=d.queue)(h5:c.gZ=d.gZ)(h6:c.reads=d.reads)(h7:c.link=d.link)(h8:c.fI=d.fI)(h9:c.timeout=d.timeout)(h10:c.gr=d.gr)(h11:c.fE=d.fE):c=d:=by
 cases c;cases d;simp_all
theorem iG(c:bh)(a:Option Addr)(cap:Nat)(hq:iD Fr w a c.qs)(ha:oG a)(hcap:c.qs.length≤cap):az Tryz.prog 45 [.agg (c.cells a cap).toArray] Fr w []
  (fun v L=>v=.int .i64 (nY c)∧L=[]):=by
 refine TF 91 Tryz.func45 Z ym aD Z Z ?_
 refine CS (CG (VG (VB (vs:=c.cells a cap) Z fun x=>VG (VN ?_))))
 refine CS (CG (VG (VL 0 (c.cells a cap) Z Z Z Z ?_)))
 refine VG (VK (Lc:=[]) (fun Fr w hF hs _=>Ta Fr w c a cap (oh hq hF hs) ha hcap) Z Z ?_)
 rintro _ _ ⟨a',cap',ha',hcap',rfl,rfl⟩
 refine VG (VO.alloc Z fun f=>VG (VT (vs:=(bI c).cells a' cap') (cs':=(bI c).cells a' cap') 0 Z Z Z Z (NR _) Z Z Z (VG (VN ?_))))
 refine VC.meet (σ:=Bool) (fun b=>[(4,.bool b)]) (fun _=>[]) (fun b=>b=decide (c=bI c)) ?_ ?_
 rotate_left
 ·rintro b rfl
  refine CS (CS (CG (VG (VN ?_))))
  refine VC.fQ Z (fun h=>?_) (fun h=>CK ?_)
  ·have h:=of_decide_eq_false h
   refine aj ?_
   exact CR (aq.int 2 Z Z (by rw[nY,if_neg h]) ER ⟨rfl,Z⟩)
  ·have h:=of_decide_eq_true h
   refine aj ?_
   exact CR (aq.int 2 Z Z (by rw[nY,if_pos h]) ER ⟨rfl,Z⟩)
 refine CG ?_
 refine pG ?_
 refine VG (VO.split 12 Z Z (fun h0=>?_) (fun h0=>?_))
 rotate_left
 ·refine VG (VY 19 false Z Z ?_)
  refine VG (VY 26 false Z Z ?_)
  refine VG (VY 33 false Z Z ?_)
  refine xL ?_
  refine A3 ?_
  refine yA ?_
  refine VG (VN ⟨false,?_,aP,aa.nil.ah⟩)
  show false=decide _;symm;apply DF;intro e
  exact(beq_eq_false_iff_ne.1 h0) (congrArg bh.nodes e)
 refine pG ?_
 refine VG (VO.split 19 Z Z (fun h1=>?_) (fun h1=>?_))
 rotate_left
 ·refine VG (VY 26 false Z Z ?_)
  refine VG (VY 33 false Z Z ?_)
  refine xL ?_
  refine A3 ?_
  refine yA ?_
  refine VG (VN ⟨false,?_,aP,aa.nil.ah⟩)
  show false=decide _;symm;apply DF;intro e
  exact(beq_eq_false_iff_ne.1 h1) (congrArg bh.chain e)
 refine pG ?_
 refine VG (VO.split 26 Z Z (fun h2=>?_) (fun h2=>?_))
 rotate_left
 ·refine VG (VY 33 false Z Z ?_)
  refine xL ?_
  refine A3 ?_
  refine yA ?_
  refine VG (VN ⟨false,?_,aP,aa.nil.ah⟩)
  show false=decide _;symm;apply DF;intro e
  exact(beq_eq_false_iff_ne.1 h2) (congrArg bh.bC e)
 refine pG ?_
 refine VG (VV (fun Fr w hF hs h2=>SH Fr w a a' cap cap' c.qs (bI c).qs (oh hq hF hs) (uY (h2.at_ 1 Z)) (by have:=(Ao c.qs).2;show(ft c.qs).length≤1000;omega)) Z ?_)
 refine VG (VO.split 33 Z Z (fun h3=>?_) (fun h3=>?_))
 rotate_left
 ·refine xL ?_
  refine A3 ?_
  refine yA ?_
  refine VG (VN ⟨false,?_,aP,aa.nil.ah⟩)
  show false=decide _;symm;apply DF;intro e
  exact(of_decide_eq_false h3) (congrArg bh.qs e)
 refine pG ?_
 refine VG (VO.split 40 Z Z (fun h4=>?_) (fun h4=>?_))
 rotate_left
 ·refine A3 ?_
  refine yA ?_
  refine VG (VN ⟨false,?_,aP,aa.nil.ah⟩)
  show false=decide _;symm;apply DF;intro e
  exact(beq_eq_false_iff_ne.1 h4) (congrArg bh.queue e)
 refine pG ?_
 refine VG (VO.split 47 Z Z (fun h5=>?_) (fun h5=>?_))
 rotate_left
 ·refine yA ?_
  refine VG (VN ⟨false,?_,aP,aa.nil.ah⟩)
  show false=decide _;symm;apply DF;intro e
  exact(beq_eq_false_iff_ne.1 h5) (congrArg bh.gZ e)
 refine pG ?_
 refine VG (VO.split 54 Z Z (fun h6=>?_) (fun h6=>?_))
 rotate_left
 ·refine QF ?_
  refine VG (VN ⟨false,?_,aP,aa.nil.ah⟩)
  show false=decide _;symm;apply DF;intro e
  exact(beq_eq_false_iff_ne.1 h6) (congrArg bh.reads e)
 refine pG ?_
 refine VG (VO.split 61 Z Z (fun h7=>?_) (fun h7=>?_))
 rotate_left
 ·refine QC ?_
  refine VG (VN ⟨false,?_,aP,aa.nil.ah⟩)
  show false=decide _;symm;apply DF;intro e
  exact(beq_eq_false_iff_ne.1 h7) (congrArg bh.link e)
 refine pG ?_
 refine VG (VO.split 68 Z Z (fun h8=>?_) (fun h8=>?_))
 rotate_left
 ·refine QA ?_
  refine VG (VN ⟨false,?_,aP,aa.nil.ah⟩)
  show false=decide _;symm;apply DF;intro e
  exact(beq_eq_false_iff_ne.1 h8) (congrArg bh.fI e)
 refine pG ?_
 refine VG (VO.split 75 Z Z (fun h9=>?_) (fun h9=>?_))
 rotate_left
 ·refine OO ?_
  refine VG (VN ⟨false,?_,aP,aa.nil.ah⟩)
  show false=decide _;symm;apply DF;intro e
  exact(beq_eq_false_iff_ne.1 h9) (congrArg bh.timeout e)
 refine pG ?_
 refine VG (VO.split 82 Z Z (fun h10=>?_) (fun h10=>?_))
 rotate_left
 ·refine VG (VN ⟨false,?_,aP,aa.nil.ah⟩)
  show false=decide _;symm;apply DF;intro e
  exact(beq_eq_false_iff_ne.1 h10) (congrArg bh.gr e)
 refine pG ?_
 refine VG (VN ⟨(c.fE == (bI c).fE),?_,aP,aa.nil.ah⟩)
 show(c.fE == (bI c).fE)=decide _
 rw[Bool.eq_iff_iff,beq_iff_eq,decide_eq_true_iff]
 refine⟨fun h11=>JV (eq_of_beq h0) (eq_of_beq h1) (eq_of_beq h2) (of_decide_eq_true h3) (eq_of_beq h4) (eq_of_beq h5) (eq_of_beq h6) (eq_of_beq h7) (eq_of_beq h8) (eq_of_beq h9) (eq_of_beq h10) h11,fun e=>congrArg bh.fE e⟩
theorem jD(x lo hi:Int):az Tryz.prog 44 [.int .i64 x,.int .i64 lo,.int .i64 hi] Fr w [] (fun v L=>v=.int .i64 (aG x lo hi)∧L=[]):=by
 refine TF 12 Tryz.func44 Z ym aD Z Z ?_
 refine aj ?_
 exact CR (aq.int 6 Z Z (Vq x lo hi) ER ⟨rfl,Z⟩)
theorem Uu{X:Cx}(hX:X.tab=tab){e:Env}{parts:Array (Nat×Operand)}{x0 x1 x2 x4 x5 x6 x7 x8 x9 x10 x11:Int}
  (hp:od e parts.toList=some [(0,.int .i64 x0),(1,.int .i64 x1),(2,.int .i64 x2),(4,.int .i64 x4),(5,.int .i64 x5),(6,.int .i64 x6),(7,.int .i64 x7),(8,.int .i64 x8),(9,.int .i64 x9),(10,.int .i64 x10),(11,.int .i64 x11)]):
  fN X (.build 24 parts) e (.agg ([.int .i64 x0,.int .i64 x1,.int .i64 x2,.slice none 0 0,.int .i64 x4,.int .i64 x5,.int .i64 x6,.int .i64 x7,.int .i64 x8,.int .i64 x9,.int .i64 x10,.int .i64 x11]:List Value).toArray):=
 LB _ (by rw[hX];rfl) rfl hp ym rfl
theorem ba.I5(el esz:Nat)(a:Option Addr)(n cap:Nat)(cs:List Value):ba (ι:=Unit) (aA el esz a n cap cs) (fun _=>oG a) (fun _=>[aA el esz a n cap cs]):=by
 intro w ids h hn
 exact⟨(),trivial,ids,⟨ids,[],by simp,h,Z⟩,hn,fun b h=>h⟩
structure QJ(qs:List Int)(x:Nat×Option Addr×Nat):Prop where
 le:x.1≤(qs.take 4).length
 room:x.1≤x.2.2
theorem MW(c:bh)(a:Option Addr)(cap:Nat)(hq:iD Fr w a c.qs):az Tryz.prog 17 [.agg (c.cells a cap).toArray] Fr w []
  (fun v L=>∃a' cap',oG a'∧(bI c).qs.length≤cap'∧v=.agg ((bI c).cells a' cap').toArray∧L=[lG a' cap' (bI c).qs]):=by
 refine TF 74 Tryz.func17 Z ym aD Z Z ?_
 refine CS (CG (VG (VB (vs:=c.cells a cap) Z fun x=>VG (VO.alloc Z fun r=>VG (VN ?_)))))
 refine CS (CG (VG (VO.ld 1 Z Z Z Z ?_)))
 refine VG (VO.lW (fun Fr w=>jD Fr w c.nodes 1 6) Z (VG (VN ?_)))
 refine VC.meet (σ:=Nat) (fun d=>[(1,pV x),(2,pV r),(4,pV d)])
  (fun d=>[pt d [.int .i64 (aG c.nodes 1 6),.int .i64 (aG c.chain 1 (aG c.nodes 1 6)),.int .i64 (aG c.bC 1 6),.slice none 0 0,.int .i64 (aG c.queue 1 16),.int .i64 (aG c.gZ 1 16),.int .i64 (aG c.reads 1 16),.int .i64 (aG c.link 4 64),.int .i64 (aG c.fI 4 64),.int .i64 (aG c.timeout 4 64),.int .i64 (aG c.gr 0 16),.int .i64 (aG c.fE 1 1099511627776)] 24,pt r T.t24.zs 24,pt x (c.cells a cap) 24]) (fun _=>True) ?_ ?_
 ·refine CD (.take 0 (.take 1 (.take 2 (.take 3 (.take 5 (.take 6 (.take 8 (.take 9 (.take 11 (.take 12 (.take 14 (.take 15 (.take 17 (.take 18 (.take 20 (.take 21 (.take 23 (.take 24 (.take 26 (.take 27 (.take 29 (.take 30 (.two 4 33 (.two 7 33 (.two 10 33 (.two 13 33 (.two 16 33 (.two 19 33 (.two 22 33 (.two 25 33 (.two 28 33 (.two 31 33 (.take 32 (.only 33 (.only 34 .nil))) (.only 31 (.take 32 (.only 34 .nil)))) (.only 28 (.only 31 (.take 32 (.only 34 .nil))))) (.only 25 (.only 28 (.only 31 (.take 32 (.only 34 .nil)))))) (.only 22 (.only 25 (.only 28 (.only 31 (.take 32 (.only 34 .nil))))))) (.only 19 (.only 22 (.only 25 (.only 28 (.only 31 (.take 32 (.only 34 .nil)))))))) (.only 16 (.only 19 (.only 22 (.only 25 (.only 28 (.only 31 (.take 32 (.only 34 .nil))))))))) (.only 13 (.only 16 (.only 19 (.only 22 (.only 25 (.only 28 (.only 31 (.take 32 (.only 34 .nil)))))))))) (.only 10 (.only 13 (.only 16 (.only 19 (.only 22 (.only 25 (.only 28 (.only 31 (.take 32 (.only 34 .nil))))))))))) (.only 7 (.only 10 (.only 13 (.only 16 (.only 19 (.only 22 (.only 25 (.only 28 (.only 31 (.take 32 (.only 34 .nil)))))))))))) (.only 4 (.only 7 (.only 10 (.only 13 (.only 16 (.only 19 (.only 22 (.only 25 (.only 28 (.only 31 (.take 32 (.only 34 .nil))))))))))))))))))))))))))))))))))) ym yr ?_
  refine fK ?_
  refine VA.T6 (cond:=fun L'=>pt x (c.cells a cap) 24∈L') (fun S hS=>?_) (fun L' hL'=>?_)
  rotate_left
  ·obtain⟨i,hi⟩:=oD hL'
   exact(by(try refine Pd.st ?_);(repeat(first|exact Pd.nil|exact Pd.fnil|refine Pd.inner ?_|refine Pd.skip yr ?_|refine zf (ax.aC (ax.one i hi Z) Z) ?_|refine zf ((ax.one i hi Z)) ?_|refine zc (ax.aC (ax.one i hi Z) Z) ?_|refine zc ((ax.one i hi Z)) ?_)))
  refine AG (VA.two rfl rfl rfl rfl rfl (aQ.dK (φ:=fun v=>v=.int .i64 (aG c.chain 1 (aG c.nodes 1 6))) (fun Fr w _ _ _=>jD Fr w _ _ _) rfl) rfl rfl rfl (aQ.alloc rfl) (fun v L' h=>by obtain⟨_,rfl⟩:=h;exact Pd.st rQ) (fun v L' h=>by obtain⟨d,_,rfl⟩:=h;exact Pd.st jI) ?_ ?_)
  rotate_left
  ·rintro _ _ ⟨d,rfl,rfl⟩
   refine AG (AO (aQ.dK (φ:=fun v=>v=.int .i64 (aG c.chain 1 (aG c.nodes 1 6))) (fun Fr w _ _ _=>jD Fr w _ _ _) rfl) rfl (fun v L' h=>by obtain⟨_,rfl⟩:=h;exact jI) ?_)
   rintro _ _ ⟨rfl,rfl⟩
   refine OP ?_
   rintro _ _ ⟨rfl,rfl⟩
   refine HJ ?_
   rintro _ _ ⟨rfl,rfl⟩
   refine DJ ?_
   rintro _ _ ⟨rfl,rfl⟩
   refine A4 ?_
   rintro _ _ ⟨rfl,rfl⟩
   refine xQ ?_
   rintro _ _ ⟨rfl,rfl⟩
   refine vO ?_
   rintro _ _ ⟨rfl,rfl⟩
   refine uz ?_
   rintro _ _ ⟨rfl,rfl⟩
   refine sY ?_
   rintro _ _ ⟨rfl,rfl⟩
   refine rO ?_
   rintro _ _ ⟨rfl,rfl⟩
   exact rU
  rintro _ _ ⟨rfl,rfl⟩
  refine AG (VA.two rfl rfl rfl rfl rfl (aQ.dK (φ:=fun v=>v=.int .i64 (aG c.bC 1 6)) (fun Fr w _ _ _=>jD Fr w _ _ _) rfl) rfl rfl rfl (aQ.alloc rfl) (fun v L' h=>by obtain⟨_,rfl⟩:=h;exact Pd.st rQ) (fun v L' h=>by obtain⟨d,_,rfl⟩:=h;exact Pd.st jI) ?_ ?_)
  rotate_left
  ·rintro _ _ ⟨d,rfl,rfl⟩
   refine OP ?_
   rintro _ _ ⟨rfl,rfl⟩
   refine HJ ?_
   rintro _ _ ⟨rfl,rfl⟩
   refine DJ ?_
   rintro _ _ ⟨rfl,rfl⟩
   refine A4 ?_
   rintro _ _ ⟨rfl,rfl⟩
   refine xQ ?_
   rintro _ _ ⟨rfl,rfl⟩
   refine vO ?_
   rintro _ _ ⟨rfl,rfl⟩
   refine uz ?_
   rintro _ _ ⟨rfl,rfl⟩
   refine sY ?_
   rintro _ _ ⟨rfl,rfl⟩
   refine rO ?_
   rintro _ _ ⟨rfl,rfl⟩
   exact rU
  rintro _ _ ⟨rfl,rfl⟩
  refine AG (VA.two rfl rfl rfl rfl rfl (aQ.dK (φ:=fun v=>v=.int .i64 (aG c.queue 1 16)) (fun Fr w _ _ _=>jD Fr w _ _ _) rfl) rfl rfl rfl (aQ.alloc rfl) (fun v L' h=>by obtain⟨_,rfl⟩:=h;exact Pd.st rQ) (fun v L' h=>by obtain⟨d,_,rfl⟩:=h;exact Pd.st jI) ?_ ?_)
  rotate_left
  ·rintro _ _ ⟨d,rfl,rfl⟩
   refine HJ ?_
   rintro _ _ ⟨rfl,rfl⟩
   refine DJ ?_
   rintro _ _ ⟨rfl,rfl⟩
   refine A4 ?_
   rintro _ _ ⟨rfl,rfl⟩
   refine xQ ?_
   rintro _ _ ⟨rfl,rfl⟩
   refine vO ?_
   rintro _ _ ⟨rfl,rfl⟩
   refine uz ?_
   rintro _ _ ⟨rfl,rfl⟩
   refine sY ?_
   rintro _ _ ⟨rfl,rfl⟩
   refine rO ?_
   rintro _ _ ⟨rfl,rfl⟩
   exact rU
  rintro _ _ ⟨rfl,rfl⟩
  refine AG (VA.two rfl rfl rfl rfl rfl (aQ.dK (φ:=fun v=>v=.int .i64 (aG c.gZ 1 16)) (fun Fr w _ _ _=>jD Fr w _ _ _) rfl) rfl rfl rfl (aQ.alloc rfl) (fun v L' h=>by obtain⟨_,rfl⟩:=h;exact Pd.st rQ) (fun v L' h=>by obtain⟨d,_,rfl⟩:=h;exact Pd.st jI) ?_ ?_)
  rotate_left
  ·rintro _ _ ⟨d,rfl,rfl⟩
   refine DJ ?_
   rintro _ _ ⟨rfl,rfl⟩
   refine A4 ?_
   rintro _ _ ⟨rfl,rfl⟩
   refine xQ ?_
   rintro _ _ ⟨rfl,rfl⟩
   refine vO ?_
   rintro _ _ ⟨rfl,rfl⟩
   refine uz ?_
   rintro _ _ ⟨rfl,rfl⟩
   refine sY ?_
   rintro _ _ ⟨rfl,rfl⟩
   refine rO ?_
   rintro _ _ ⟨rfl,rfl⟩
   exact rU
  rintro _ _ ⟨rfl,rfl⟩
  refine AG (VA.two rfl rfl rfl rfl rfl (aQ.dK (φ:=fun v=>v=.int .i64 (aG c.reads 1 16)) (fun Fr w _ _ _=>jD Fr w _ _ _) rfl) rfl rfl rfl (aQ.alloc rfl) (fun v L' h=>by obtain⟨_,rfl⟩:=h;exact Pd.st rQ) (fun v L' h=>by obtain⟨d,_,rfl⟩:=h;exact Pd.st jI) ?_ ?_)
  rotate_left
  ·rintro _ _ ⟨d,rfl,rfl⟩
   refine A4 ?_
   rintro _ _ ⟨rfl,rfl⟩
   refine xQ ?_
   rintro _ _ ⟨rfl,rfl⟩
   refine vO ?_
   rintro _ _ ⟨rfl,rfl⟩
   refine uz ?_
   rintro _ _ ⟨rfl,rfl⟩
   refine sY ?_
   rintro _ _ ⟨rfl,rfl⟩
   refine rO ?_
   rintro _ _ ⟨rfl,rfl⟩
   exact rU
  rintro _ _ ⟨rfl,rfl⟩
  refine AG (VA.two rfl rfl rfl rfl rfl (aQ.dK (φ:=fun v=>v=.int .i64 (aG c.link 4 64)) (fun Fr w _ _ _=>jD Fr w _ _ _) rfl) rfl rfl rfl (aQ.alloc rfl) (fun v L' h=>by obtain⟨_,rfl⟩:=h;exact Pd.st rQ) (fun v L' h=>by obtain⟨d,_,rfl⟩:=h;exact Pd.st jI) ?_ ?_)
  rotate_left
  ·rintro _ _ ⟨d,rfl,rfl⟩
   refine xQ ?_
   rintro _ _ ⟨rfl,rfl⟩
   refine vO ?_
   rintro _ _ ⟨rfl,rfl⟩
   refine uz ?_
   rintro _ _ ⟨rfl,rfl⟩
   refine sY ?_
   rintro _ _ ⟨rfl,rfl⟩
   refine rO ?_
   rintro _ _ ⟨rfl,rfl⟩
   exact rU
  rintro _ _ ⟨rfl,rfl⟩
  refine AG (VA.two rfl rfl rfl rfl rfl (aQ.dK (φ:=fun v=>v=.int .i64 (aG c.fI 4 64)) (fun Fr w _ _ _=>jD Fr w _ _ _) rfl) rfl rfl rfl (aQ.alloc rfl) (fun v L' h=>by obtain⟨_,rfl⟩:=h;exact Pd.st rQ) (fun v L' h=>by obtain⟨d,_,rfl⟩:=h;exact Pd.st jI) ?_ ?_)
  rotate_left
  ·rintro _ _ ⟨d,rfl,rfl⟩
   refine vO ?_
   rintro _ _ ⟨rfl,rfl⟩
   refine uz ?_
   rintro _ _ ⟨rfl,rfl⟩
   refine sY ?_
   rintro _ _ ⟨rfl,rfl⟩
   refine rO ?_
   rintro _ _ ⟨rfl,rfl⟩
   exact rU
  rintro _ _ ⟨rfl,rfl⟩
  refine AG (VA.two rfl rfl rfl rfl rfl (aQ.dK (φ:=fun v=>v=.int .i64 (aG c.timeout 4 64)) (fun Fr w _ _ _=>jD Fr w _ _ _) rfl) rfl rfl rfl (aQ.alloc rfl) (fun v L' h=>by obtain⟨_,rfl⟩:=h;exact Pd.st rQ) (fun v L' h=>by obtain⟨d,_,rfl⟩:=h;exact Pd.st jI) ?_ ?_)
  rotate_left
  ·rintro _ _ ⟨d,rfl,rfl⟩
   refine uz ?_
   rintro _ _ ⟨rfl,rfl⟩
   refine sY ?_
   rintro _ _ ⟨rfl,rfl⟩
   refine rO ?_
   rintro _ _ ⟨rfl,rfl⟩
   exact rU
  rintro _ _ ⟨rfl,rfl⟩
  refine AG (VA.two rfl rfl rfl rfl rfl (aQ.dK (φ:=fun v=>v=.int .i64 (aG c.gr 0 16)) (fun Fr w _ _ _=>jD Fr w _ _ _) rfl) rfl rfl rfl (aQ.alloc rfl) (fun v L' h=>by obtain⟨_,rfl⟩:=h;exact Pd.st rQ) (fun v L' h=>by obtain⟨d,_,rfl⟩:=h;exact Pd.st jI) ?_ ?_)
  rotate_left
  ·rintro _ _ ⟨d,rfl,rfl⟩
   refine sY ?_
   rintro _ _ ⟨rfl,rfl⟩
   refine rO ?_
   rintro _ _ ⟨rfl,rfl⟩
   exact rU
  rintro _ _ ⟨rfl,rfl⟩
  refine AG (VA.two rfl rfl rfl rfl rfl (aQ.dK (φ:=fun v=>v=.int .i64 (aG c.fE 1 1099511627776)) (fun Fr w _ _ _=>jD Fr w _ _ _) rfl) rfl rfl rfl (aQ.alloc rfl) (fun v L' h=>by obtain⟨_,rfl⟩:=h;exact Pd.st rQ) (fun v L' h=>by obtain⟨d,_,rfl⟩:=h;exact Pd.st jI) ?_ ?_)
  rotate_left
  ·rintro _ _ ⟨d,rfl,rfl⟩
   refine rO ?_
   rintro _ _ ⟨rfl,rfl⟩
   exact rU
  rintro _ _ ⟨rfl,rfl⟩
  refine OQ ?_
  refine AG (AO (aQ.alloc rfl) rfl (fun v L' h=>by obtain⟨d,_,rfl⟩:=h;exact jI) ?_)
  rintro _ _ ⟨d,rfl,rfl⟩
  refine OR ?_
  exact OS
 rintro d _
 have ht4:=Br 4 c.qs
 have htl:(c.qs.take 4).length=if c.qs.length≤4 then c.qs.length else 4:=by rw[kH];split<;>omega
 refine VC.meet (σ:=Option Addr×Nat) (fun _=>[(1,pV x),(2,pV r),(4,pV d)])
  (fun y=>[aA 3 1 y.1 (c.qs.take 4).length y.2 (eD ((c.qs.take 4).map kC)),pt d [.int .i64 (aG c.nodes 1 6),.int .i64 (aG c.chain 1 (aG c.nodes 1 6)),.int .i64 (aG c.bC 1 6),.slice y.1 (c.qs.take 4).length y.2,.int .i64 (aG c.queue 1 16),.int .i64 (aG c.gZ 1 16),.int .i64 (aG c.reads 1 16),.int .i64 (aG c.link 4 64),.int .i64 (aG c.fI 4 64),.int .i64 (aG c.timeout 4 64),.int .i64 (aG c.gr 0 16),.int .i64 (aG c.fE 1 1099511627776)] 24,pt r T.t24.zs 24]) (fun y=>(c.qs.take 4).length≤y.2) ?_ ?_
 ·refine CS (CG (VG (VN (VC.block ?_))))
  refine VC.loop (σ:=Nat×Option Addr×Nat) (fun y=>[(1,pV x),(2,pV r),(4,pV d),(5,.int .i64 y.1)])
   (fun y=>[aA 3 1 y.2.1 y.1 y.2.2 (eD ((c.qs.take y.1).map kC)),pt d [.int .i64 (aG c.nodes 1 6),.int .i64 (aG c.chain 1 (aG c.nodes 1 6)),.int .i64 (aG c.bC 1 6),.slice y.2.1 y.1 y.2.2,.int .i64 (aG c.queue 1 16),.int .i64 (aG c.gZ 1 16),.int .i64 (aG c.reads 1 16),.int .i64 (aG c.link 4 64),.int .i64 (aG c.fI 4 64),.int .i64 (aG c.timeout 4 64),.int .i64 (aG c.gr 0 16),.int .i64 (aG c.fE 1 1099511627776)] 24,pt r T.t24.zs 24,pt x (c.cells a cap) 24]) (QJ c.qs) (fun y=>4-y.1) (0,none,0) ⟨bU _,NR _⟩ aP (aa.dM aa.refl).ah ?_
  rintro⟨i,ai,ci⟩ ⟨hi,hroom⟩
  dsimp only at hi hroom ⊢
  refine CS (CS (CG (VG (VO.ld 3 Z Z Z Z ?_))))
  refine VG (VO.split 47 Z Z (fun h1=>?_) (fun h1=>VG (VN (VC.kM Z (CX ?_)))))
  rotate_left
  ·have h1:=of_decide_eq_false h1
   have hi2:i=(c.qs.take 4).length:=by rw[htl] at hi ⊢;split at hi<;>split<;>omega
   have hi3:c.qs.take i=c.qs.take 4:=by rw[hi2,kH];rw[List.take_eq_take_iff];omega
   refine⟨(ai,ci),by rw[←hi2];exact hroom,aP,?_⟩
   dsimp only
   rw[←hi2,←hi3]
   exact(aa.app (L:=[_,_,_]) (M:=[_,_,_]) aa.refl aa.nil).ah
  have h1:=of_decide_eq_true h1
  refine VG (VN (CP Z (fun h2=>CK ?_) (fun h2=>CX ?_)))
  rotate_left
  ·have hi2:i=(c.qs.take 4).length:=by rw[htl] at hi ⊢;split at hi<;>split<;>omega
   have hi3:c.qs.take i=c.qs.take 4:=by rw[hi2,kH];rw[List.take_eq_take_iff];omega
   refine⟨(ai,ci),by rw[←hi2];exact hroom,aP,?_⟩
   dsimp only
   rw[←hi2,←hi3]
   exact(aa.app (L:=[_,_,_]) (M:=[_,_,_]) aa.refl aa.nil).ah
  have hiq:i<c.qs.length:=by omega
  obtain⟨qb,qo,hqa,hFq,hcq⟩:=hq.at_ (fun e=>by rw[e] at hiq;simp at hiq)
  have hy:=GE hiq
  generalize c.qs[i]=y at hy
  have hsl:some (Value.slice a c.qs.length cap)=some (Value.slice (some ⟨qb,qo,none⟩) c.qs.length cap):=by rw[hqa]
  have htk:c.qs.take (i+1)=c.qs.take i ++ [y]:=by rw[jb,hy];rfl
  have hcell:w.cell? ⟨qb,qo+i*1,none⟩=some (.int .i64 y):=by rw[tw];exact hcq i y hy
  have PQ:∀{L:List HP},ax (⟨Tryz.prog,tab,aD,74,Fr,w⟩:Cx) L T.t3 qb (qo+i*T.t3.size) (.int .i64 y):=ax.rd hFq hcell
  refine CS (VC.block (CD (ts 0 7 (.only 7 (.only 8 (.only 9 (.take 10 (.only 11 .nil)))))) ym yr ?_))
  refine iL ?_
  refine AG (AI Z (fp i hsl Z Z Z Z Z hiq) ?_)
  refine AG (VA.load Z Z Z (ax.rd (v:=.int .i64 y) hFq hcell) ?_)
  refine AG (VA.dK (φ:=fun v=>v=.int .i64 (kC y)) (fun Fr w _ _ _=>jD Fr w _ _ _) Z Z (by(try refine Pd.st ?_);(repeat(first|exact Pd.nil|exact Pd.fnil|refine Pd.inner ?_|refine Pd.skip yr ?_|refine zf (zo 0 Z Z) ?_|refine zf (zo 1 Z Z) ?_|refine zf (zo 2 Z Z) ?_|refine zf (zo 3 Z Z) ?_|refine zf (zm 0 Z Z) ?_|refine zf (zm 1 Z Z) ?_|refine zf (zm 2 Z Z) ?_|refine zf (zm 3 Z Z) ?_|refine zf (ax.aC PQ Z) ?_|refine zf (PQ) ?_|refine zc (zo 0 Z Z) ?_|refine zc (zo 1 Z Z) ?_|refine zc (zo 2 Z Z) ?_|refine zc (zo 3 Z Z) ?_|refine zc (zm 0 Z Z) ?_|refine zc (zm 1 Z Z) ?_|refine zc (zm 2 Z Z) ?_|refine zc (zm 3 Z Z) ?_|refine zc (ax.aC PQ Z) ?_|refine zc (PQ) ?_))) ?_)
  rintro _ rfl
  refine AG (AO (aQ.buildSlice (n:=1) (pv:=[(0,.int .i64 (kC y))]) (cells:=[.int .i64 (kC y)]) Z Z Z Z yo Z) Z ?_ ?_)
  ·rintro _ _ ⟨nb,rfl,rfl⟩
   exact Iy
  rintro _ _ ⟨nb,rfl,rfl⟩
  refine AG (AO (aQ.append (m:=1) (news:=[.int .i64 (kC y)]) 1 Z Z Z Z Z Z Z (fv.pt 0 Z Z Z) Z (by show(i+1)*8≤_;omega) yd) Z ?_ ?_)
  ·rintro _ _ ⟨a2,c2,rfl,hc2,rfl⟩
   exact Iy
  rintro _ _ ⟨a2,c2,rfl,hc2,rfl⟩
  refine rN ?_
  refine AG (VA.st 2 Z Z Z Z Z Bi Z Z Iy (AG (AN ?_)))
  refine jJ ?_
  refine⟨(i+1,a2,c2),⟨by rw[htl];split<;>omega,hc2⟩,by dsimp only;omega,aP,?_⟩
  dsimp only
  rw[htk]
  have e:eD ((c.qs.take i ++ [y]).map kC)=eD ((c.qs.take i).map kC) ++ [.int .i64 (kC y)]:=by simp[eD]
  rw[e]
  exact(aa.cons aa.tl).ah
 rintro⟨ai,ci⟩ hroom
 dsimp only at hroom ⊢
 have hf1:=Ao c.qs
 refine VC.meet (σ:=Option Addr×Nat) (fun _=>[(2,pV r),(4,pV d)])
  (fun y=>[lG y.1 y.2 (ft c.qs),pt d ((bI c).cells y.1 y.2) 24,pt r T.t24.zs 24]) (fun y=>(ft c.qs).length≤y.2∧oG y.1) ?_ ?_
 ·refine CS (CG (VG (VO.ld 1 Z Z Z Z (VG (VN ?_)))))
  refine CE Z (fun hz=>?_) (fun hz=>?_)
  ·have hz:c.qs.take 4=[]:=iz yd
   have hqf:ft c.qs=[96]:=by unfold ft eJ;rw[if_pos hz];rfl
   refine CG (VG (VO.ld 1 Z Z Z Z ?_))
   refine VG (VO.buildSlice (n:=1) (pv:=[(0,.int .i64 96)]) [.int .i64 96] Z Z Z Z yo Z fun nb=>?_)
   refine VG (VO.append (m:=1) (news:=[.int .i64 96]) 1 Z Z Z Z Z Z Z (fv.pt 0 Z Z Z) Z (by show((c.qs.take 4).length+1)*8≤_;omega) yd fun a2 c2 hc2=>?_)
   refine VO.bJ 0 Z (ba.I5 _ _ _ _ _ _) fun _ had=>?_
   refine VG (VO.st 2 Z Z Z Z Bi Z Z (VG (VN ?_)))
   have e1:eD ((c.qs.take 4).map kC) ++ [.int .i64 96]=eD (ft c.qs):=by rw[hqf,hz];rfl
   have e2:(c.qs.take 4).length+1=(ft c.qs).length:=by rw[hqf,hz];rfl
   refine⟨(a2,c2),⟨by rw[←e2];exact hc2,had⟩,aP,?_⟩
   rw[e1,e2]
   exact(aa.cons aa.tl).ah
  ·have hz:¬c.qs.take 4=[]:=fun e=>hz Bh
   have hqf:ft c.qs=(c.qs.take 4).map kC:=by unfold ft eJ;rw[if_neg hz]
   refine VC.bJ 0 Z (ba.I5 _ _ _ _ _ _) fun _ had=>CK ?_
   have e1:eD ((c.qs.take 4).map kC)=eD (ft c.qs):=by rw[hqf]
   have e2:(c.qs.take 4).length=(ft c.qs).length:=by rw[hqf,cW]
   refine⟨(ai,ci),⟨by rw[←e2];exact hroom,had⟩,aP,?_⟩
   rw[e1,e2]
   exact ER
 rintro⟨af,cf⟩ ⟨hcf,haf⟩
 dsimp only at hcf haf ⊢
 refine CS (CG (VG (VL 1 ((bI c).cells af cf) Z Z Z Z ?_)))
 refine VG (VT (vs:=(bI c).cells af cf) (cs':=(bI c).cells af cf) 2 Z Z Z Z (NR _) Z Z Z (VG (VN ?_)))
 exact CR (aq.cell 2 Z Z Z (ax.many 2 Z Z) (L':=[lG af cf (ft c.qs)]) (aa.app (L:=[_]) (M:=[_]) aa.refl aa.nil).ah ⟨af,cf,haf,hcf,Z,Z⟩)
end Conf
namespace Adm
open Go Vg T Api Sched Conf
attribute [local irreducible] VO VC VA
abbrev sf:=Int×Int
def uO(t u:sf):Bool:=decide (t.1<u.1)||((t.1 == u.1)&&decide (t.2<u.2))
def kU(n:Int):Bool:=decide (1≤n)&&decide (n≤1099511627776)
structure aO where
 aL:aM
 bC:Int
 marks:List sf
 waits:List Int
def aO.has(A:aO)(k:Int):Bool:=decide (0≤k∧k<A.bC)
def aO.mark(A:aO)(k:Int):sf:=(A.marks[k.toNat]?).getD (0,0)
def aO.wt(A:aO)(k:Int):Int:=(A.waits[k.toNat]?).getD 0
def aO.wx(A:aO)(k s t:Int):Bool:=A.has k && !uO (A.mark k) (s,t)
def aO.rF(A:aO)(k:Int)(m:sf):aO:={ A with marks:=A.marks.set k.toNat m }
def aO.il(A:aO)(k:Int)(n:Int):aO:={ A with waits:=A.waits.set k.toNat n }
def aO.jd(A:aO)(k s t:Int):aO:=if uO (A.mark k) (s,t) then A.rF k (s,t) else A
def aO.cU(A:aO)(k s t:Int):Int×aO:=if A.has k&&kU s&&kU t then (0,A.jd k s t) else (2,A)
structure aO.Wf(A:aO):Prop where
 aL:A.aL.Wf
 c0:1≤A.bC
 c1:A.bC≤6
 marks:A.marks.length=6
 waits:A.waits.length=6
def kS(m:sf):List Value:=[.int .i64 m.1,.int .i64 m.2]
theorem u9(m:sf):(kS m).length=2:=rfl
def fW(A:aO)(sp:Nat):List Value:=.pointer (some ⟨sp,0,none⟩) :: .int .i64 A.bC :: .int .i64 A.aL.cls.length::(flat kS A.marks++eD A.waits)
def pU(p:Nat)(A:aO)(sp:Nat):List HP:=[pt p (fW A sp) 170,gI sp A.aL]
def bo(p:Nat)(A:aO):HP:=hex fun sp=>cR (kO A.Wf::pU p A sp)
theorem ba.aI(p:Nat)(A:aO):ba (bo p A) (fun _=>A.Wf) (fun sp=>pU p A sp):=by
 rintro w ids ⟨s,h⟩ hn
 obtain⟨F,G,rfl,⟨rfl,h1⟩,h2⟩:=h
 exact DH
theorem pW{p:Nat}{A:aO}{L:List HP}(sp:Nat)(hs:A.Wf)(h:aa L (pU p A sp)):aa L [bo p A]:=
 aa.ex sp (aa.sep (aa.trans h (aa.of_eq (bK _).symm |>.trans (aa.pure hs aa.refl))))
structure uN(Fr:Nat→Prop)(w:World)(p:Nat)(A:aO)(sp:Nat):Prop where
 wf:A.Wf
 y_:bu Fr w p (fW A sp)
 aL:a8 Fr [gI sp A.aL] w
theorem uN.of{Fr:Nat→Prop}{w:World}{p:Nat}{A:aO}(h:a8 Fr [bo p A] w):∃sp,uN Fr w p A sp:=by
 obtain⟨s,h⟩:=h.ex
 have h:=h.sep
 exact⟨s,h.pure 0 Z,h.aC 1 Z,h.at_ 2 Z⟩
theorem w9{A:aO}(h:A.Wf){sp k:Nat}(hk:k<6):((fW A sp).drop (0+3+k*2)).take 2=kS (A.mark k):=by
 have hk2:k<A.marks.length:=by rw[h.marks];exact hk
 have h1:A.marks[k]?=some (A.mark k):=by rw[aO.mark,dZ,GE hk2];rfl
 have:=ph u9 h1 (eD A.waits)
 rw[←this,show 0+3+k*2=k*2+1+1+1 from by omega]
 rfl
theorem UP{A:aO}(h:A.Wf){sp k:Nat}(hk:k<6)(m:sf):dT (fW A sp) (0+3+k*2) (kS m)=fW (A.rF k m) sp:=by
 have hk2:k<A.marks.length:=by rw[h.marks];exact hk
 have:=wU u9 m (eD A.waits) hk2
 show dT (_::_::_::(flat kS A.marks++eD A.waits)) (0+3+k*2) (kS m)=_::_::_::(flat kS (A.marks.set ((k:Int).toNat) m)++eD A.waits)
 rw[dZ,←this,show 0+3+k*2=k*2+1+1+1 from by omega]
 simp only[dT,List.take_succ_cons,rX,u9]
 rw[show k*2+1+1+1+2=k*2+2+1+1+1 from by omega]
 simp only[List.drop_succ_cons]
 rfl
theorem Es{A:aO}(h:A.Wf)(sp:Nat):(fW A sp).length=21:=by
 simp[fW,fA u9,h.marks,zM,h.waits]
theorem aco{A:aO}(h:A.Wf){sp k:Nat}(hk:k<6):(fW A sp)[0+15+k*1]?=some (.int .i64 (A.wt k)):=by
 have hk2:k<A.waits.length:=by rw[h.waits];exact hk
 have h1:A.waits[k]?=some (A.wt k):=by rw[aO.wt,dZ,GE hk2];rfl
 rw[show 0+15+k*1=(12+k)+1+1+1 from by omega]
 simp only[fW,rY]
 rw[qI P7,fA u9,h.marks,show 12+k-6*2=k from by omega,eD,eh,h1];rfl
theorem Hs{A:aO}(h:A.Wf){sp k:Nat}(hk:k<6)(n:Int):(fW A sp).set (0+15+k*1) (.int .i64 n)=fW (A.il k n) sp:=by
 rw[show 0+15+k*1=(12+k)+1+1+1 from by omega]
 simp only[fW,tu,aO.il,dZ]
 rw[List.set_append_right _ _ P7,fA u9,h.marks,show 12+k-6*2=k from by omega]
 simp[eD,iZ]
theorem aO.Wf.rF{A:aO}(h:A.Wf)(k:Int)(m:sf):(A.rF k m).Wf:=⟨h.aL,h.c0,h.c1,by simpa[aO.rF] using h.marks,h.waits⟩
theorem aO.Wf.il{A:aO}(h:A.Wf)(k:Int)(n:Int):(A.il k n).Wf:=⟨h.aL,h.c0,h.c1,h.marks,by simpa[aO.il] using h.waits⟩
theorem aO.Wf.jd{A:aO}(h:A.Wf)(k s t:Int):(A.jd k s t).Wf:=by
 unfold aO.jd;split
 ·exact h.rF k _
 ·exact h
theorem aO.Wf.cU{A:aO}(h:A.Wf)(k s t:Int):(A.cU k s t).2.Wf:=by
 unfold aO.cU;split
 ·exact h.jd k s t
 ·exact h
theorem gy{p:Nat}{a:Addr}{cs:List Value}(h:bu Fr w p (.pointer (some a)::cs)):az Tryz.prog 207 [.pointer (some ⟨p,0,none⟩)] Fr w [] (fun v L=>v=.bool false∧L=[]):=by
 refine TF 12 Tryz.func207 Z ym aD Z Z ?_
 refine aj ?_
 refine VG (VO.split 5 rfl rfl (fun h=>by cases h) (fun _=>?_))
 refine oA ?_
 exact vM
theorem rh{p sp:Nat}{A:aO}(k:Int)(h:bu Fr w p (fW A sp)):az Tryz.prog 222 [.pointer (some ⟨p,0,none⟩),.int .i64 k] Fr w [] (fun v L=>v=.bool (A.has k)∧L=[]):=by
 refine TF 20 Tryz.func222 Z ym aD Z Z ?_
 refine aj ?_
 refine HB ?_
 refine VG (VY 8 true Z Z ?_)
 refine VG (VO.split 12 Z Z (fun h2=>?_) (fun h2=>?_))
 ·have h2:=of_decide_eq_true h2
  refine oA ?_
  exact CR (aq.bool 4 Z Z (by simp[aO.has,h2]) ER ⟨rfl,Z⟩)
 ·have h2:=of_decide_eq_false h2
  refine aj ?_
  exact CR (aq.bool 4 Z Z (by simp[aO.has,h2]) ER ⟨rfl,Z⟩)
theorem CI(n:Int):az Tryz.prog 223 [.int .i64 n] Fr w [] (fun v L=>v=.bool (kU n)∧L=[]):=by
 refine TF 9 Tryz.func223 Z ym aD Z Z ?_
 refine aj ?_
 refine VG (VO.split 5 Z Z (fun h2=>?_) (fun h2=>?_))
 ·have h2:=of_decide_eq_true h2
  refine aj ?_
  exact CR (aq.bool 2 Z Z (by simp[kU,h2]) ER ⟨rfl,Z⟩)
 ·have h2:=of_decide_eq_false h2
  refine aj ?_
  exact CR (aq.bool 2 Z Z (by simp[kU,h2]) ER ⟨rfl,Z⟩)
theorem I9(t u:sf):az Tryz.prog 224 [.agg (kS t).toArray,.agg (kS u).toArray] Fr w [] (fun v L=>v=.bool (uO t u)∧L=[]):=by
 refine TF 24 Tryz.func224 Z ym aD Z Z ?_
 refine CS (CG (VG (VB (vs:=kS t) Z fun b1=>VG (VB (vs:=kS u) Z fun b2=>VG (VN ?_)))))
 refine dz ?_
 refine VG (VO.split 10 Z Z (fun h1=>?_) (fun h1=>?_))
 ·refine VG (VO.vh Z Z Z (VG (VO.vh Z Z Z (VG (VO.vh Z Z Z (VG (VO.vh Z Z Z (VG (VO.vh Z Z Z ?_)))))))))
  refine aj ?_
  exact CR (aq.bool 4 Z Z (by simp only[uO,h1];rfl) aa.nil.ah ⟨rfl,Z⟩)
 ·refine dz ?_
  refine VG (VO.split 16 Z Z (fun h2=>?_) (fun h2=>?_))
  ·refine dz ?_
   exact CR (aq.bool 4 Z Z (by simp only[uO,h1,h2,Bool.false_or,uH]) aa.nil.ah ⟨rfl,Z⟩)
  ·refine dz ?_
   exact CR (aq.bool 4 Z Z (by simp only[uO,h1,h2,Bool.false_or,kF]) aa.nil.ah ⟨rfl,Z⟩)
theorem Jg{p:Nat}{A:aO}(k s t:Int)(h:a8 Fr [bo p A] w):az Tryz.prog 270 [.pointer (some ⟨p,0,none⟩),.int .i64 k,.int .i64 s,.int .i64 t] Fr w [] (fun v L=>v=.bool (A.wx k s t)∧L=[]):=by
 obtain⟨sp,h⟩:=uN.of h
 have hb:=h.y_
 refine TF 25 Tryz.func270 Z ym aD Z Z ?_
 refine aj ?_
 refine VG (VV (fun Fr w hF hs _=>rh Fr w k (hb.of hF hs)) Z ?_)
 refine VG (VO.split 12 Z Z (fun h1=>?_) (fun h1=>?_))
 ·have hk:=of_decide_eq_true h1
  obtain⟨n,rfl⟩:=tk hk.1
  have hn:n<6:=by have:=h.wf.c1;omega
  refine VG (VI (kq n Z Z Z Z Z Z hn) ?_)
  refine VG (VO.load Z Z (v:=.agg (kS (A.mark n)).toArray) (ax.jR hb (w9 h.wf hn)) ?_)
  refine OT ?_
  refine VG (VO.lW (fun Fr w=>I9 Fr w (A.mark n) (s,t)) Z ?_)
  refine aj ?_
  exact CR (aq.bool 8 Z Z (by simp only[aO.wx,h1,uH]) ER ⟨rfl,Z⟩)
 ·refine aj ?_
  exact CR (aq.bool 8 Z Z (by simp only[aO.wx,h1,kF]) ER ⟨rfl,Z⟩)
theorem BR(p:Nat)(A:aO)(k s t:Int):az Tryz.prog 162 [.pointer (some ⟨p,0,none⟩),.int .i64 k,.int .i64 s,.int .i64 t] Fr w [bo p A] (fun v L=>v=.int .i64 (A.cU k s t).1∧L=[bo p (A.cU k s t).2]):=by
 refine TF 45 Tryz.func162 Z ym aD Z Z ?_
 refine VC.bJ 0 Z (ba.aI p A) fun sp h=>?_
 refine CN (L':=pU p A sp) (aa.of_eq (bK _)).ah ?_
 have out:∀{X:Cx},dq X (pU p A sp) [bo p A]:=fun {X}=>(pW sp h aa.refl).ah
 refine aj ?_
 refine VG (VV (fun Fr w hF _ hs=>gy Fr w (hs.aC 0 Z)) Z (VG (VN (VC.kM Z ?_))))
 refine aj ?_
 refine VG (VV (fun Fr w hF _ hs=>rh Fr w k (hs.aC 0 Z)) Z (VG (VO.split 18 Z Z (fun h1=>?_) (fun h1=>?_))))
 ·have h1:A.has k=false:=by simpa using h1
  have e:A.cU k s t=(2,A):=by simp[aO.cU,h1]
  refine VG (VY 23 true Z Z (VG (VN (VC.nj Z ?_))))
  refine aj ?_
  exact HK
 have h1:A.has k=true:=by simpa using h1
 refine VG (VO.lW (fun Fr w=>CI Fr w s) Z (VG (VO.split 23 Z Z (fun h2=>?_) (fun h2=>?_))))
 ·have h2:kU s=false:=by simpa using h2
  have e:A.cU k s t=(2,A):=by simp[aO.cU,h2]
  refine VG (VN (VC.nj Z ?_))
  refine aj ?_
  exact HK
 have h2:kU s=true:=by simpa using h2
 refine VG (VO.lW (fun Fr w=>CI Fr w t) Z (VG (VN ?_)))
 refine VC.fQ Z (fun h3=>?_) (fun h3=>CK ?_)
 ·have e:A.cU k s t=(2,A):=by simp[aO.cU,h3]
  refine aj ?_
  exact HK
 have e:A.cU k s t=(0,A.jd k s t):=by simp[aO.cU,h1,h2,h3]
 have hk:=of_decide_eq_true h1
 obtain⟨n,rfl⟩:=tk hk.1
 have hn:n<6:=by have:=h.c1;omega
 have hlen:=Es h sp
 refine aj ?_
 refine OT ?_
 refine VG (VO.alloc Z fun m=>VG (VT (vs:=kS (s,t)) (cs':=kS (s,t)) 0 Z Z Z Z (NR _) Z Z Z (VG (VN ?_))))
 refine CS (CS (CD (ts 0 7 (.only 7 .nil)) ym yr ?_))
 refine AG (AI Z (kq n Z Z Z Z Z Z hn) ?_)
 refine AG (VA.dQ 1 (kS (A.mark n)) Z Z Z Z (w9 h hn) ?_)
 refine AG (VA.dQ 0 (kS (s,t)) Z Z Z Z Z ?_)
 refine AG (VA.dK (φ:=fun v=>v=.bool (uO (A.mark n) (s,t))) (fun Fr w _ _ _=>I9 Fr w _ _) Z Z (by(try refine Pd.st ?_);(repeat(first|exact Pd.nil|exact Pd.fnil|refine Pd.inner ?_|refine Pd.skip yr ?_|refine zf (zo 0 Z Z) ?_|refine zf (zo 1 Z Z) ?_|refine zf (zm 0 Z Z) ?_|refine zf (zm 1 Z Z) ?_|refine zf (ax.aC (ax.many 1 Z (w9 h hn)) Z) ?_|refine zf ((ax.many 1 Z (w9 h hn))) ?_|refine zc (zo 0 Z Z) ?_|refine zc (zo 1 Z Z) ?_|refine zc (zm 0 Z Z) ?_|refine zc (zm 1 Z Z) ?_|refine zc (ax.aC (ax.many 1 Z (w9 h hn)) Z) ?_|refine zc ((ax.many 1 Z (w9 h hn))) ?_))) ?_)
 rintro _ rfl
 refine bt ?_
 refine CC Z (fun h4=>?_) (fun h4=>CK ?_)
 ·have e2:A.jd n s t=A.rF n (s,t):=by unfold aO.jd;rw[if_pos h4]
  refine DK ?_
  refine AG (VA.dQ 0 (kS (s,t)) Z Z Z Z Z ?_)
  refine AG (AI Z (kq n Z Z Z Z Z Z hn) ?_)
  refine AG (AT (vs:=kS (s,t)) (cs':=fW (A.rF n (s,t)) sp) 1 Z Z Z Z Z (by rw[hlen];show 0+3+n*2+2≤21;omega) (UP h hn (s,t)) Z Z yu (AG (AN ?_)))
  refine aj ?_
  exact CR (aq.int 8 Z Z mT (L':=[bo p (A.rF n (s,t))]) (aa.trans aa.tl (pW sp (h.rF n _) aa.refl)).ah ⟨rfl,by rw[e,e2]⟩)
 ·have e2:A.jd n s t=A:=by unfold aO.jd;rw[if_neg (by rw[h4];simp)]
  refine aj ?_
  exact CR (aq.int 8 Z Z mT (L':=[bo p A]) (aa.trans aa.tl (pW sp h aa.refl)).ah ⟨rfl,by rw[e,e2]⟩)
theorem kP{p:Nat}{A:aO}(k:Int)(h:a8 Fr [bo p A] w):az Tryz.prog 136 [.pointer (some ⟨p,0,none⟩),.int .i64 k] Fr w [] (fun v L=>v=.int .i64 (A.aL.sD k)∧L=[]):=by
 obtain⟨sp,h⟩:=uN.of h
 have hb:=h.y_
 have hsch:=h.aL
 refine TF 13 Tryz.func136 Z ym aD Z Z ?_
 refine aj ?_
 refine VG (VV (fun Fr w hF hs _=>gy Fr w (hb.of hF hs)) Z (VG (VN (VC.kM Z (CK ?_)))))
 refine kD ?_
 refine VG (VV (fun Fr w hF hs _=>Sched.kP Fr w k (hsch.of hF hs)) Z (VG (VN ?_)))
 exact CR (aq.int 4 Z Z Z ER ⟨rfl,Z⟩)
end Adm
namespace Adm
open Go Vg T Api Sched Conf
attribute [local irreducible] VO VC VA
def vp(o:bB):Bool:=(o.kind == 1)&&(dD o == 0)
theorem Aw(o:bB):az Tryz.prog 183 [.agg o.cells.toArray] Fr w [] (fun v L=>v=.bool (vp o)∧L=[]):=by
 refine TF 11 Tryz.func183 Z ym aD Z Z ?_
 refine CS (CG (VG (VB (vs:=o.cells) Z fun b=>VG (VN ?_))))
 refine aj ?_
 refine VG (VO.split 6 Z Z (fun h1=>?_) (fun h1=>?_))
 ·refine VG (VL 0 o.cells Z Z Z Z ?_)
  refine HA ?_
  refine aj ?_
  exact CR (aq.bool 2 Z Z (by simp only[vp,h1,uH]) aa.nil.ah ⟨rfl,Z⟩)
 ·refine aj ?_
  exact CR (aq.bool 2 Z Z (by simp only[vp,h1,kF]) aa.nil.ah ⟨rfl,Z⟩)
def aO.may(A:aO)(f:ay):Bool:=A.has f.aF&&(f.kind == 1)&&kU f.seq&&kU f.br&&decide (0≤f.cls)&&decide (f.cls<A.aL.cls.length)&&decide (0≤f.deadline)&&decide (f.deadline≤1099511627776)&&(dD f.op == 0) && !vp f.op
theorem Ab{p:Nat}{A:aO}(f:FM)(h:a8 Fr [bo p A] w):az Tryz.prog 269 [.pointer (some ⟨p,0,none⟩),.agg (aY f).toArray] Fr w [] (fun v L=>v=.bool (A.may f.1)∧L=[]):=by
 obtain⟨sp,h⟩:=uN.of h
 have hb:=h.y_
 refine TF 60 Tryz.func269 Z ym aD Z Z ?_
 refine CS (CG (VG (VB (vs:=aY f) Z fun b=>VG (VN ?_))))
 refine VC.meet (σ:=Bool) (fun b=>[(4,.bool b)]) (fun _=>[]) (fun b=>b=A.may f.1) ?_ ?_
 rotate_left
 ·rintro b rfl
  exact CR (aq.bool 4 Z Z Z ER ⟨rfl,Z⟩)
 refine CD (ts 0 3 (.only 3 (ts 4 8 (.only 12 (ts 13 4 (.only 17 (ts 18 28 (.only 46 (ts 47 5 (.only 52 (ts 53 3 .nil))))))))))) ym yr ?_
 refine bt ?_
 refine AG (VA.dK (φ:=fun v=>v=.bool (A.has f.1.aF)) (fun Fr w hF hs _=>rh Fr w f.1.aF (hb.of hF hs)) Z Z yu ?_)
 rintro _ rfl
 refine oX ?_
 refine AG (VA.split 9 Z Z (fun h0=>?_) (fun h0=>?_))
 rotate_left
 ·refine AG (AY 14 false Z Z ?_)
  refine pH ?_
  refine AG (AY 19 false Z Z ?_)
  refine pH ?_
  refine AG (AY 24 false Z Z ?_)
  refine Ed ?_
  refine yB ?_
  exact⟨false,(by show false=aO.may A f.1;rw[aO.may];simp only[show(A.has f.1.aF)=false from h0,ki,kF]),aP,aa.nil.ah⟩
 refine oX ?_
 refine AG (VA.split 14 Z Z (fun h1=>?_) (fun h1=>?_))
 rotate_left
 ·refine pH ?_
  refine AG (AY 19 false Z Z ?_)
  refine pH ?_
  refine AG (AY 24 false Z Z ?_)
  refine Ed ?_
  refine yB ?_
  exact⟨false,(by show false=aO.may A f.1;rw[aO.may];simp only[show(f.1.kind == 1)=false from h1,ki,kF]),aP,aa.nil.ah⟩
 refine oX ?_
 refine AG (VA.dK (φ:=fun v=>v=.bool (kU f.1.seq)) (fun Fr w _ _ _=>CI Fr w _) Z Z D5 ?_)
 rintro _ rfl
 refine oX ?_
 refine AG (VA.split 19 Z Z (fun h2=>?_) (fun h2=>?_))
 rotate_left
 ·refine pH ?_
  refine AG (AY 24 false Z Z ?_)
  refine Ed ?_
  refine yB ?_
  exact⟨false,(by show false=aO.may A f.1;rw[aO.may];simp only[show(kU f.1.seq)=false from h2,ki,kF]),aP,aa.nil.ah⟩
 refine oX ?_
 refine AG (VA.dK (φ:=fun v=>v=.bool (kU f.1.br)) (fun Fr w _ _ _=>CI Fr w _) Z Z D5 ?_)
 rintro _ rfl
 refine oX ?_
 refine AG (VA.split 24 Z Z (fun h3=>?_) (fun h3=>?_))
 rotate_left
 ·refine Ed ?_
  refine yB ?_
  exact⟨false,(by show false=aO.may A f.1;rw[aO.may];simp only[show(kU f.1.br)=false from h3,ki,kF]),aP,aa.nil.ah⟩
 refine oX ?_
 refine AG (VA.split 29 Z Z (fun h4=>?_) (fun h4=>?_))
 rotate_left
 ·refine OU ?_
  refine yB ?_
  exact⟨false,(by show false=aO.may A f.1;rw[aO.may];simp only[show(decide (0≤f.1.cls))=false from h4,ki,kF]),aP,aa.nil.ah⟩
 refine oX ?_
 refine AG (VA.split 38 Z Z (fun h5=>?_) (fun h5=>?_))
 rotate_left
 ·refine yB ?_
  exact⟨false,(by show false=aO.may A f.1;rw[aO.may];simp only[show(decide (f.1.cls<A.aL.cls.length))=false from h5,ki,kF]),aP,aa.nil.ah⟩
 refine oX ?_
 refine AG (VA.split 43 Z Z (fun h6=>?_) (fun h6=>?_))
 rotate_left
 ·refine QG ?_
  exact⟨false,(by show false=aO.may A f.1;rw[aO.may];simp only[show(decide (0≤f.1.deadline))=false from h6,ki,kF]),aP,aa.nil.ah⟩
 refine oX ?_
 refine AG (VA.split 48 Z Z (fun h7=>?_) (fun h7=>?_))
 rotate_left
 ·refine QE ?_
  exact⟨false,(by show false=aO.may A f.1;rw[aO.may];simp only[show(decide (f.1.deadline≤1099511627776))=false from h7,ki,kF]),aP,aa.nil.ah⟩
 refine oX ?_
 refine AG (VA.dQ 0 f.1.op.cells Z Z Z Z Z ?_)
 refine AG (VA.dK (φ:=fun v=>v=.int .i64 (dD f.1.op)) (fun Fr w _ _ _=>iG Fr w _) Z Z D5 ?_)
 rintro _ rfl
 refine oX ?_
 refine AG (VA.split 54 Z Z (fun h8=>?_) (fun h8=>?_))
 rotate_left
 ·refine QB ?_
  exact⟨false,(by show false=aO.may A f.1;rw[aO.may];simp only[show(dD f.1.op == 0)=false from h8,ki,kF]),aP,aa.nil.ah⟩
 refine oX ?_
 refine AG (VA.dQ 0 f.1.op.cells Z Z Z Z Z ?_)
 refine AG (VA.dK (φ:=fun v=>v=.bool (vp f.1.op)) (fun Fr w _ _ _=>Aw Fr w _) Z Z D5 ?_)
 rintro _ rfl
 refine bt ?_
 refine⟨!vp f.1.op,?_,aP,aa.nil.ah⟩
 show(!vp f.1.op)=aO.may A f.1
 rw[aO.may]
 simp only[show(A.has f.1.aF)=true from h0,show(f.1.kind == 1)=true from h1,show(kU f.1.seq)=true from h2,show(kU f.1.br)=true from h3,show(decide (0≤f.1.cls))=true from h4,show(decide (f.1.cls<A.aL.cls.length))=true from h5,show(decide (0≤f.1.deadline))=true from h6,show(decide (f.1.deadline≤1099511627776))=true from h7,show(dD f.1.op == 0)=true from h8,uH,Bool.and_true]
end Adm
namespace Adm
open Go Vg T Api Sched Conf
attribute [local irreducible] VO VC VA
theorem QW{Fr:Nat→Prop}{w:World}{p sp:Nat}{A:aO}(h:A.Wf)(hs:a8 Fr (pU p A sp) w):a8 Fr [bo p A] w:=a8.shut (φ:=fun _=>A.Wf) (Ls:=fun sp=>pU p A sp) sp h hs
theorem WR(S:aM)(f:ay):(S.fq f).2.cls.length=S.cls.length:=by
 unfold aM.fq
 split
 ·rfl
 ·split
  ·rfl
  ·split
   ·simp[aM.jE]
   ·rfl
def ou(c:bh):aO:=⟨aM.new c.qs c.queue,c.bC,List.replicate 6 (0,0),List.replicate 6 0⟩
theorem JW{c:bh}(h:c=bI c):ov c.qs c.queue=true∧1≤c.bC∧c.bC≤6:=by
 have h1:c.qs=ft c.qs:=congrArg bh.qs h
 have h2:c.queue=aG c.queue 1 16:=congrArg bh.queue h
 have h3:c.bC=aG c.bC 1 6:=congrArg bh.bC h
 have h4:=Ao c.qs
 have h5:=mN (x:=c.queue) (lo:=1) (hi:=16) yd
 have h6:=mN (x:=c.bC) (lo:=1) (hi:=6) yd
 rw[←h1] at h4
 rw[←h2] at h5
 rw[←h3] at h6
 refine⟨?_,h6⟩
 have h7:c.qs.all rC=true:=by
  rw[lh]
  intro q hq
  rw[h1] at hq
  obtain⟨x,_,rfl⟩:=bP.1 hq
  have:=mN (x:=x) (lo:=96) (hi:=65536) yd
  simp[rC,kC,this]
 simp[ov,h4,h5,h7]
theorem LW{c:bh}(h:c=bI c):(ou c).Wf:=by
 obtain⟨h1,h2,h3⟩:=JW h
 exact⟨aM.L5 h1,h2,h3,Z,Z⟩
theorem lK(c:bh)(a:Option Addr)(cap:Nat)(hq:iD Fr w a c.qs)(ha:oG a)(hcap:c.qs.length≤cap):az Tryz.prog 49 [.agg (c.cells a cap).toArray] Fr w []
  (fun v L=>if c=bI c then ∃p,v=.tuple #[.pointer (some ⟨p,0,none⟩),.int .i64 0]∧L=[bo p (ou c)] else v=.tuple #[.pointer none,.int .i64 2]∧L=[]):=by
 refine TF 30 Tryz.func49 Z ym aD Z Z ?_
 refine CS (CG (VG (VB (vs:=c.cells a cap) Z fun x=>VG (VN ?_))))
 refine uF ?_
 refine VG (VV (fun Fr w hF hs _=>iG Fr w c a cap (oh hq hF hs) ha hcap) Z (VG (VN ?_)))
 refine aj ?_
 refine VC.dH Z (fun h1=>?_) (fun h1=>CK ?_)
 ·have hc:¬c=bI c:=fun e=>h1 (by rw[nY,if_pos e])
  have hc2:nY c=2:=by rw[nY,if_neg hc]
  refine aj ?_
  refine CR (aq.dh 2 3 Z Z Z aa.nil.ah ?_)
  rw[if_neg hc,hc2];exact⟨rfl,rfl⟩
 have hc:c=bI c:=by
  apply Decidable.byContradiction
  intro hc
  rw[nY,if_neg hc] at h1
  cases h1
 obtain⟨hok,hc0,hc1⟩:=JW hc
 refine aj ?_
 refine VG (VK (Lc:=[]) (fun Fr w hF hs _=>Sched.lK Fr w a cap c.qs c.queue (oh hq hF hs)) Z Z ?_)
 intro v L hv
 unfold cj at hv
 rw[if_pos hok] at hv
 obtain⟨sp,rfl,rfl⟩:=hv
 refine aj ?_
 refine VC.dH Z (fun h=>absurd Z h) (fun _=>CK ?_)
 refine dz ?_
 refine VG (VI (LB (pv:=[(0,pV sp),(1,.int .i64 c.bC),(2,.int .i64 c.qs.length)]) (fW (ou c) sp) Z Z Z (by
  have e:(ou c).aL.cls.length=c.qs.length:=by simp[ou,aM.new]
  simp only[fW,e]
  rfl) rfl) ?_)
 refine VG (VB (vs:=fW (ou c) sp) Z fun p=>VG (VN ?_))
 refine CR (aq.dh 2 3 Z Z Z (L':=[bo p (ou c)]) (pW sp (LW hc) (aa.app (L:=[_,_]) (M:=[_,_]) aa.refl aa.nil)).ah ?_)
 rw[if_pos hc];exact⟨p,rfl,rfl⟩
def aO.fG(A:aO)(S:aM):aO:={ A with aL:=S }
def aO.dI(A:aO)(f:ay)(now:Int):Int×aO:=
 if A.wx f.aF f.seq f.br then (7,A) else if A.wt f.aF=f.seq then (6,A) else if A.wt f.aF≠0 then (1,A) else if f.deadline<now then (2,A)
 else if (A.aL.fq f).1≠0 then (1,A.fG (A.aL.fq f).2) else (0,(A.fG (A.aL.fq f).2).il f.aF f.seq)
def aO.iy(A:aO)(f:ay)(now:Int):Int×aO:=
 if A.may f then if (A.dI f now).1≠0∧(A.dI f now).1≠6 then ((A.dI f now).1,((A.dI f now).2.cU f.aF f.seq f.br).2) else A.dI f now else (10,A)
theorem aO.Wf.fG{A:aO}(h:A.Wf){S:aM}(hS:S.Wf):(A.fG S).Wf:=⟨hS,h.c0,h.c1,h.marks,h.waits⟩
theorem aO.Wf.dI{A:aO}(h:A.Wf)(f:ay)(now:Int):(A.dI f now).2.Wf:=by
 unfold aO.dI
 repeat' split
 all_goals first | exact h | exact h.fG (GB h.aL f) | exact(h.fG (GB h.aL f)).il _ _
theorem Lx{A:aO}{f:ay}(h:A.may f=true):A.has f.aF=true∧kU f.seq=true∧kU f.br=true:=by
 simp only[aO.may,dN] at h
 exact⟨h.1.1.1.1.1.1.1.1.1,h.1.1.1.1.1.1.1.2,h.1.1.1.1.1.1.2⟩
theorem TD{A:aO}(h:A.Wf){k:Int}(hk:A.has k=true):∃n:Nat,k=n∧n<6:=by
 have hk:=of_decide_eq_true hk
 obtain⟨n,rfl⟩:=tk hk.1
 have:=h.c1
 exact⟨n,Z,by omega⟩
theorem I4{A:aO}(f:ay)(sp:Nat):fW A sp=fW (A.fG (A.aL.fq f).2) sp:=by
 simp only[fW,aO.fG,WR]
theorem ab'(p:Nat)(A:aO)(f:FM)(hmm:mE Fr w f.2)(now:Int)(hm:A.may f.1=true):az Tryz.prog 284 [.pointer (some ⟨p,0,none⟩),.agg (aY f).toArray,.int .i64 now] Fr w [bo p A] (fun v L=>v=.int .i64 (A.dI f.1 now).1∧L=[bo p (A.dI f.1 now).2]):=by
 refine TF 53 Tryz.func284 Z ym aD Z Z ?_
 refine CS (CG (VG (VB (vs:=aY f) Z fun b=>VG (VN ?_))))
 refine VC.bJ 1 Z (ba.aI p A) fun sp h=>?_
 refine CN (L':=pt b (aY f) 181::pU p A sp) (aa.perm jL).ah ?_
 obtain⟨hhas,hnum,hnum2⟩:=Lx hm
 obtain⟨n,hcl,hn⟩:=TD h hhas
 have hwt:A.wt f.1.aF=A.wt n:=by rw[hcl]
 have out:∀{X:Cx},dq X (pt b (aY f) 181::pU p A sp) [bo p A]:=fun {X}=>(aa.trans aa.tl (pW sp h aa.refl)).ah
 refine CS (CD (ts 0 8 .nil) ym yr ?_)
 refine fK ?_
 refine DL ?_
 refine AG (VA.ld 1 Z Z Z Z (aco h hn) ?_)
 refine bt ?_
 refine dz ?_
 refine VG (VV (fun Fr w hF _ hs=>Jg Fr w f.1.aF f.1.seq f.1.br (QW h hs.tail)) Z (VG (VN ?_)))
 refine CC Z (fun h1=>?_) (fun h1=>?_)
 ·have e:A.dI f.1 now=(7,A):=by unfold aO.dI;rw[if_pos h1]
  refine aj ?_
  exact DM
 refine dz ?_
 refine CE Z (fun h2=>?_) (fun h2=>?_)
 ·have e:A.dI f.1 now=(6,A):=by unfold aO.dI;rw[if_neg s9,if_pos (hwt.trans h2)]
  refine aj ?_
  exact DM
 refine dz ?_
 refine VC.dH Z (fun h3=>?_) (fun h3=>?_)
 ·have e:A.dI f.1 now=(1,A):=by unfold aO.dI;rw[if_neg s9,if_neg Iz,if_pos (by rw[hwt];exact h3)]
  refine aj ?_
  exact DM
 refine dz ?_
 refine CP Z (fun h4=>?_) (fun h4=>?_)
 ·have e:A.dI f.1 now=(2,A):=by unfold aO.dI;rw[if_neg s9,if_neg Iz,if_neg (by rw[hwt];exact fun x=>x h3),if_pos h4]
  refine aj ?_
  exact DM
 have e0:A.dI f.1 now=if (A.aL.fq f.1).1≠0 then (1,A.fG (A.aL.fq f.1).2) else (0,(A.fG (A.aL.fq f.1).2).il f.1.aF f.1.seq):=by
  unfold aO.dI;rw[if_neg s9,if_neg Iz,if_neg (by rw[hwt];exact fun x=>x h3),if_neg h4]
 have hwf:=h.fG (GB h.aL f.1)
 refine CS (CD (ts 0 5 (.only 5 (ts 6 2 .nil))) ym yr ?_)
 refine fK ?_
 refine AG (VA.dQ 0 (aY f) Z Z Z Z Z ?_)
 refine AG (AQ 2 (ψ:=fun v H=>v=.int .i64 (A.aL.fq f.1).1∧H=gI sp (A.aL.fq f.1).2) Z (fun Fr w hF hs _=>Sched.vo Fr w sp A.aL f (hmm.of hF hs)) Z Z (fun v L1 h=>⟨_,h.2,h.1,Z⟩) ?_ ?_)
 ·rintro _ _ ⟨rfl,rfl⟩
  exact yu
 rintro _ _ ⟨rfl,rfl⟩
 refine bt ?_
 refine VC.dH Z (fun h5=>?_) (fun h5=>CK ?_)
 ·have e:A.dI f.1 now=(1,A.fG (A.aL.fq f.1).2):=by rw[e0,if_pos h5]
  refine aj ?_
  refine CR (aq.int 6 Z Z mT (aa.trans aa.tl (pW sp hwf (aa.of_eq ?_))).ah ⟨rfl,by rw[e]⟩)
  rw[pU,I4 f.1 sp];rfl
 have e:A.dI f.1 now=(0,(A.fG (A.aL.fq f.1).2).il n f.1.seq):=by rw[e0,if_neg (fun x=>x h5),hcl]
 refine CS (CD (ts 0 8 (.only 8 .nil)) ym yr ?_)
 refine fK ?_
 refine DL ?_
 refine AG (VA.st 1 Z Z Z Z Z P8 (cs':=fW ((A.fG (A.aL.fq f.1).2).il n f.1.seq) sp) (by rw[I4 f.1 sp];exact Hs hwf hn f.1.seq) Z yu ?_)
 refine uG ?_
 exact CR (aq.int 6 Z Z mT (aa.trans aa.tl (pW sp (hwf.il n f.1.seq) (aa.of_eq Z))).ah ⟨rfl,by rw[e]⟩)
theorem CJ(p:Nat)(A:aO)(f:FM)(hmm:mE Fr w f.2)(now:Int):az Tryz.prog 272 [.pointer (some ⟨p,0,none⟩),.agg (aY f).toArray,.int .i64 now] Fr w [bo p A] (fun v L=>v=.int .i64 (A.iy f.1 now).1∧L=[bo p (A.iy f.1 now).2]):=by
 refine TF 31 Tryz.func272 Z ym aD Z Z ?_
 refine CS (CG (VG (VB (vs:=aY f) Z fun b=>VG (VN ?_))))
 refine aj ?_
 refine VG (VL 0 (aY f) Z Z Z Z ?_)
 refine VG (VV (fun Fr w hF _ hs=>Ab Fr w f (hs.at_ 1 Z)) Z (VG (VN ?_)))
 refine VC.fQ Z (fun h1=>?_) (fun h1=>CK ?_)
 ·have e:A.iy f.1 now=(10,A):=by unfold aO.iy;rw[if_neg s9]
  refine aj ?_
  exact CR (aq.int 6 Z Z mT (L':=[bo p A]) aa.tl.ah ⟨rfl,by rw[e]⟩)
 refine aj ?_
 refine VG (VL 0 (aY f) Z Z Z Z ?_)
 refine VG (VQ 1 (ψ:=fun v H=>v=.int .i64 (A.dI f.1 now).1∧H=bo p (A.dI f.1 now).2) Z (fun Fr w hF hs _=>ab' Fr w p A f (hmm.of hF hs) now h1) Z (fun v L1 h=>⟨_,h.2,h.1,Z⟩) ?_)
 rintro _ _ ⟨rfl,rfl⟩
 have e0:A.iy f.1 now=if (A.dI f.1 now).1≠0∧(A.dI f.1 now).1≠6 then ((A.dI f.1 now).1,((A.dI f.1 now).2.cU f.1.aF f.1.seq f.1.br).2) else A.dI f.1 now:=by unfold aO.iy;rw[if_pos h1]
 refine aj ?_
 refine VG (VO.split 18 Z Z (fun h2=>?_) (fun h2=>?_))
 ·have h2:(A.dI f.1 now).1≠0:=by simpa using h2
  refine VG (VN (VC.dH Z (fun h3=>?_) (fun h3=>CK ?_)))
  ·have e:A.iy f.1 now=((A.dI f.1 now).1,((A.dI f.1 now).2.cU f.1.aF f.1.seq f.1.br).2):=by rw[e0,if_pos ⟨h2,h3⟩]
   refine aj ?_
   refine VG (VQ 1 (ψ:=fun v H=>H=bo p ((A.dI f.1 now).2.cU f.1.aF f.1.seq f.1.br).2) Z (fun Fr w _ _ _=>BR Fr w p _ _ _ _) Z (fun v L1 h=>⟨_,h.2,Z⟩) ?_)
   rintro _ _ rfl
   refine aj ?_
   exact HL
  ·have e:A.iy f.1 now=A.dI f.1 now:=by rw[e0,if_neg (fun x=>x.2 h3)]
   refine aj ?_
   exact HL
 ·have h2:(A.dI f.1 now).1=0:=by simpa using h2
  have e:A.iy f.1 now=A.dI f.1 now:=by rw[e0,if_neg (fun x=>x.1 h2)]
  refine rS ?_
  exact HL
end Adm
namespace Sched
open Go Vg T Api
def dd(S:aM):ay×Bool×aM:=match S.nB with
 | some r=>(r.1,true,r.2)
 | none=>(ay.zero,false,S)
theorem Wv{p:Nat}{S:aM}{v:Value}{L:List HP}(h:uh p S v L):∃H,L=[H]∧(∃m,v=.tuple #[.agg (aY ((dd S).1,m)).toArray,.bool (dd S).2.1])∧H=gI p (dd S).2.2:=by
 unfold uh at h;unfold dd
 cases hp:S.nB with
 | none=>rw[hp] at h;exact⟨_,h.2,⟨(none,0,0),h.1⟩,rfl⟩
 | some r=>rw[hp] at h;exact⟨_,h.2,h.1,rfl⟩
theorem Gz{S:aM}(h:S.Wf):(dd S).2.2.Wf:=by
 unfold dd
 cases hp:S.nB with
 | none=>exact h
 | some r=>obtain⟨f,S1⟩:=r;obtain⟨_,_,_,_,_,hw⟩:=Gy h hp;exact hw
theorem Wt{S:aM}(h:S.Wf):(dd S).2.2.cls.length=S.cls.length:=by
 unfold dd
 cases hp:S.nB with
 | none=>rfl
 | some r=>
  obtain⟨f,S1⟩:=r
  obtain⟨_,_,_,h2,_,_⟩:=Gy h hp
  have:=congrArg List.length h2
  simpa[aM.qs] using this
theorem xl{S:aM}(h:S.Wf)(ho:(dd S).2.1=true):∃k q,S.qs[k]?=some ((dd S).1::q)∧(dd S).2.2.qs=S.qs.set k q:=by
 unfold dd at ho ⊢
 cases hp:S.nB with
 | none=>rw[hp] at ho;cases ho
 | some r=>
  obtain⟨f,S1⟩:=r
  obtain⟨k,q,h1,h2,_,_⟩:=Gy h hp
  exact⟨k,q,h1,h2⟩
theorem Wu{S:aM}(h:S.Wf)(ho:(dd S).2.1=false):S.idle=true∧(dd S).2.2=S:=by
 unfold dd at ho ⊢
 cases hp:S.nB with
 | none=>exact⟨Ws h hp,rfl⟩
 | some r=>rw[hp] at ho;cases ho
end Sched
namespace Adm
open Go Vg T Api Sched Conf
attribute [local irreducible] VO VC VA
def mi(n:Int)(f:ay):Prop:=(0≤f.aF∧f.aF<n)∧kU f.seq=true∧kU f.br=true
def aO.Calls(A:aO):Prop:=∀q∈A.aL.qs,∀f∈q,mi A.bC f
def aO.out(A:aO)(f:ay):aO:=(A.il f.aF 0).jd f.aF f.seq f.br
def aO.oN(A:aO)(l:List ay):aO:=l.foldl aO.out A
def aO.ff(A:aO)(now:Int):aO:=(A.fG (A.aL.km now)).oN (A.aL.cQ now)
theorem aO.Wf.out{A:aO}(h:A.Wf)(f:ay):(A.out f).Wf:=(h.il _ _).jd _ _ _
theorem Ey(A:aO)(k s t:Int):(A.jd k s t).bC=A.bC:=by unfold aO.jd;split<;>rfl
theorem Ez(A:aO)(k s t:Int):(A.jd k s t).aL=A.aL:=by unfold aO.jd;split<;>rfl
theorem Wd(A:aO)(f:ay):(A.out f).bC=A.bC:=by rw[aO.out,Ey];rfl
theorem Mp(A:aO)(f:ay):(A.out f).aL=A.aL:=by rw[aO.out,Ez];rfl
theorem E6:∀(l:List ay) {A:aO},A.Wf→(A.oN l).Wf∧(A.oN l).bC=A.bC∧(A.oN l).aL=A.aL
 | [],A,h=>⟨h,rfl,rfl⟩
 | f::l,A,h=>by
  have:=E6 l (h.out f)
  rw[Wd,Mp] at this
  exact this
theorem SI(A:aO)(l:List ay)(f:ay):A.oN (l ++ [f])=(A.oN l).out f:=by simp[aO.oN]
theorem SJ(S:aM)(now:Int):(S.km now).cls.length=S.cls.length:=by simp[aM.km]
theorem p_{A:aO}(h:A.Wf)(now:Int):(A.ff now).Wf∧(A.ff now).bC=A.bC∧(A.ff now).aL=A.aL.km now:=
 E6 _ (h.fG (Ki h.aL now))
theorem zF{A:aO}(hc:A.Calls)(now:Int):∀f∈A.aL.cQ now,mi A.bC f:=fun f hf=>by
 rw[KC] at hf
 obtain⟨q,hq,hf⟩:=List.mem_flatMap.1 hf
 exact hc q hq f (iC.1 hf).1
theorem Q8{A:aO}{f:ay}(h:mi A.bC f):(A.cU f.aF f.seq f.br)=(0,A.jd f.aF f.seq f.br):=by
 have h1:A.has f.aF=true:=by simp[aO.has,h.1]
 simp[aO.cU,h1,h.2.1,h.2.2]
theorem QU{A:aO}(now:Int)(sp:Nat):fW A sp=fW (A.fG (A.aL.km now)) sp:=by
 simp only[fW,aO.fG,SJ]
def Fy(p:Nat)(A:aO)(gs:List ay)(v:Value)(L:List HP):Prop:=∃r:RL FM,r.Ok aY 29∧r.xs.map Prod.fst=gs∧v=r.v∧L=[r.h 181,bo p A]
theorem wN(p:Nat)(A:aO)(now:Int)(hC:A.Calls):az Tryz.prog 219 [.pointer (some ⟨p,0,none⟩),.int .i64 now] Fr w [bo p A] (Fy p (A.ff now) (A.aL.cQ now)):=by
 refine TF 36 Tryz.func219 Z ym aD Z Z ?_
 refine VC.bJ 0 Z (ba.aI p A) fun sp h=>?_
 refine CN (L':=pU p A sp) (aa.of_eq (bK _)).ah ?_
 have hwf:=h.fG (Ki h.aL now)
 refine mA ?_
 refine VC.meet (σ:=RL FM) (fun r=>[(0,pV p),(5,r.v)]) (fun r=>[r.h 181,bo p (A.fG (A.aL.km now))]) (fun r=>r.Ok aY 29∧r.xs.map Prod.fst=A.aL.cQ now) ?_ ?_
 ·refine aj ?_
  refine VO.ah (L':=[gI sp A.aL,pt p (fW A sp) 170]) (aa.perm (List.Perm.swap _ _ _)).ah ?_
  refine VG (VK (Lc:=[gI sp A.aL]) (fun Fr w _ _ _=>Sched.wN Fr w sp A.aL now) Z Z ?_)
  rintro _ _ ⟨a,c,gs,hgs,rfl,rfl⟩
  refine VO.bJ 1 Z (ba.rl _ a c gs uW) fun r ⟨hok,hv,hx⟩=>?_
  refine VG (VN ⟨r,⟨hok,by rw[hx,hgs]⟩,SC Z (SC (by rw[hv];rfl) (SN _)),?_⟩)
  refine(aa.cons (pW sp hwf ?_)).ah
  show aa [gI sp (A.aL.km now),pt p (fW A sp) 170] _
  rw[QU now sp]
  exact aa.perm (List.Perm.swap _ _ _)
 rintro r ⟨hok,hgs⟩
 have hgok:=zF hC now
 have hfew:=h.aL.E' A.aL.cls.length now
 rw[lj] at hfew
 have hl:r.xs.length≤64:=by
  have:=congrArg List.length hgs
  rw[cW] at this
  rw[this];exact hfew
 refine aj ?_
 refine VC.loop (σ:=Nat) (fun i=>[(0,pV p),(5,r.v),(14,r.v),(15,.int .i64 r.xs.length),(16,.int .i64 i)]) (fun i=>[r.h 181,bo p ((A.fG (A.aL.km now)).oN ((A.aL.cQ now).take i))]) (fun i=>i≤r.xs.length) (fun i=>r.xs.length-i) 0 (bU _) aP ER ?_
 intro i hi
 refine aj ?_
 refine CP Z (fun h1=>CK ?_) (fun h1=>CX ?_)
 ·have hi2:i<r.xs.length:=by omega
  obtain⟨⟨f,m⟩,hx⟩:∃x,r.xs[i]?=some x:=⟨_,GE hi2⟩
  obtain⟨bk,off,hbk,had,hrow⟩:=hok.nth hx
  have hg:(A.aL.cQ now)[i]?=some f:=by rw[←hgs,eh,hx];rfl
  have hf:=hgok f (ME hg)
  have htake:(A.aL.cQ now).take (i+1)=(A.aL.cQ now).take i ++ [f]:=by rw[jb,hg];rfl
  obtain⟨hAwf,hAc,hAs⟩:=E6 ((A.aL.cQ now).take i) hwf
  have hnext:(A.fG (A.aL.km now)).oN ((A.aL.cQ now).take (i+1))=((A.fG (A.aL.km now)).oN ((A.aL.cQ now).take i)).out f:=by rw[htake,SI]
  generalize hB:(A.fG (A.aL.km now)).oN ((A.aL.cQ now).take i)=B at hAwf hAc hAs ⊢
  have hBc:B.bC=A.bC:=hAc
  obtain⟨n,hcl⟩:=tk hf.1.1
  have hn:n<6:=by have:=hf.1.2;have:=h.c1;omega
  have hv:r.v=.slice (some ⟨bk,off,none⟩) r.xs.length r.cap:=by rw[RL.v,had]
  have hv':some r.v=some (.slice (some ⟨bk,off,none⟩) r.xs.length r.cap):=by rw[hv]
  refine VC.bJ 1 Z (ba.aI p B) fun sp2 h2=>?_
  refine CN (L':=pt p (fW B sp2) 170::gI sp2 B.aL::r.h 181 :: []) ER ?_
  rw[RL.FA hbk]
  refine uv ?_
  refine sX ?_
  refine VG (VI (fp i hv' Z Z Z Z Z hi2) ?_)
  refine VG (VO.load Z Z (v:=.agg (aY (f,m)).toArray) (ax.many 2 Z hrow) ?_)
  refine VG (VO.alloc Z fun b7=>VG (VT (vs:=aY (f,m)) (cs':=aY (f,m)) 0 Z Z Z Z (NR _) Z Z Z (VG (VN ?_))))
  refine DD ?_
  refine bt ?_
  refine DL ?_
  refine AG (VA.st 1 Z Z Z Z Z (by rw[Es h2];show 0+15+n*1<21;omega) (cs':=fW (B.il n 0) sp2) (Hs h2 hn 0) Z yu (AG (AN ?_)))
  refine CG ?_
  refine VO.ah (L':=[pt b7 (aY (f,m)) 181,bo p (B.il n 0),pt bk r.cells 181]) (aa.cons (aa.trans (aa.perm (jL (l₁:=[_,_]) (l₂:=[_]))) (aa.trans (aa.cons (pW sp2 (h2.il n 0) aa.refl)) (aa.perm (List.Perm.swap _ _ _))))).ah ?_
  refine VG (VO.ld 0 Z Z Z Z (VG (VO.ld 0 Z Z Z Z (VG (VO.ld 0 Z Z Z Z ?_)))))
  refine VG (VQ 1 (ψ:=fun v H=>H=bo p (B.out f)) Z (fun Fr w _ _ _=>BR Fr w p (B.il n 0) _ _ _) Z (fun v L1 h=>⟨_,h.2,?_⟩) ?_)
  ·have e:B.il n 0=B.il f.aF 0:=by rw[hcl]
   have:=Q8 (A:=B.il f.aF 0) (f:=f) (by show mi B.bC f;rw[hBc];exact hf)
   rw[e]
   show bo p ((B.il f.aF 0).cU f.aF f.seq f.br).2=_
   rw[this];rfl
  rintro _ _ rfl
  refine lg ?_
  refine jJ ?_
  refine⟨i+1,hi2,by dsimp only;omega,aP,?_⟩
  dsimp only
  rw[hnext,hB]
  exact(aa.trans aa.tl (aa.perm (List.Perm.swap _ _ _))).ah
 ·have hi2:i=r.xs.length:=by omega
  subst hi2
  have e:(A.aL.cQ now).take r.xs.length=A.aL.cQ now:=by rw[r5];rw[←hgs];simp
  rw[e]
  refine aj ?_
  exact CR (aq.tmp 4 Z Z ER ⟨r,hok,hgs,Z,Z⟩)
def aO.cq(A:aO)(now:Int):aO:=
 if (dd (A.ff now).aL).2.1 then ((A.ff now).fG (dd (A.ff now).aL).2.2).il (dd (A.ff now).aL).1.aF 0 else (A.ff now).fG (dd (A.ff now).aL).2.2
theorem zu{A:aO}(h:A.Wf)(hC:A.Calls)(now:Int):(A.ff now).Calls:=by
 obtain⟨_,h2,h3⟩:=p_ h now
 intro q hq f hf
 rw[h3,E8] at hq
 obtain⟨q0,hq0,rfl⟩:=bP.1 hq
 rw[h2]
 exact hC q0 hq0 f (iC.1 hf).1
theorem QV{A:aO}{S:aM}(hl:S.cls.length=A.aL.cls.length)(sp:Nat):fW A sp=fW (A.fG S) sp:=by
 simp only[fW,aO.fG,hl]
theorem Vy{A:aO}(h:A.Wf)(now:Int):(A.cq now).Wf:=by
 obtain⟨h1,_,_⟩:=p_ h now
 unfold aO.cq
 split
 ·exact(h1.fG (Gz h1.aL)).il _ _
 ·exact h1.fG (Gz h1.aL)
def L7(p:Nat)(A:aO)(now:Int)(v:Value)(L:List HP):Prop:=∃(r:RL FM) (m:yR),r.Ok aY 29∧r.xs.map Prod.fst=A.aL.cQ now∧v=.tuple #[.agg (aY ((dd (A.ff now).aL).1,m)).toArray,.bool (dd (A.ff now).aL).2.1,r.v]∧L=[r.h 181,bo p (A.cq now)]
theorem sH(p:Nat)(A:aO)(now:Int)(hw:A.Wf)(hC:A.Calls):az Tryz.prog 160 [.pointer (some ⟨p,0,none⟩),.int .i64 now] Fr w [bo p A] (L7 p A now):=by
 refine TF 31 Tryz.func160 Z ym aD Z Z ?_
 refine CS (CG (VG (VO.alloc Z fun b=>VG (VN ?_))))
 refine aj ?_
 refine VG (VV (u:=.bool false) (fun Fr w hF _ hs=>by
  obtain⟨sp,h⟩:=uN.of (hs.at_ 1 rfl)
  exact gy Fr w h.y_) Z (VG (VN (VC.kM Z (CK ?_)))))
 refine aj ?_
 refine VO.ah (L':=[bo p A,pt b (aY fB) 181]) (aa.perm (List.Perm.swap _ _ _)).ah ?_
 refine VG (VK (Lc:=[bo p A]) (fun Fr w _ _ _=>wN Fr w p A now hC) Z Z ?_)
 rintro _ _ ⟨r,hok,hgs,rfl,rfl⟩
 obtain⟨hE,hEc,hEs⟩:=p_ hw now
 have hEC:=zu hw hC now
 have hnext:A.cq now=if (dd (A.ff now).aL).2.1 then ((A.ff now).fG (dd (A.ff now).aL).2.2).il (dd (A.ff now).aL).1.aF 0 else (A.ff now).fG (dd (A.ff now).aL).2.2:=rfl
 have hR:∀(m:yR),L7 p A now (.tuple #[.agg (aY ((dd (A.ff now).aL).1,m)).toArray,.bool (dd (A.ff now).aL).2.1,r.v]) [r.h 181,bo p (A.cq now)]:=fun m=>⟨r,m,hok,hgs,rfl,rfl⟩
 rw[hnext] at hR
 clear hnext
 generalize A.ff now=B at hE hEc hEs hEC hR ⊢
 refine lg ?_
 refine VC.bJ 1 Z (ba.aI p B) fun sp h=>?_
 refine CN (L':=[pt p (fW B sp) 170,gI sp B.aL,r.h 181,pt b (aY fB) 181]) ER ?_
 refine aj ?_
 refine VG (VQ 1 (ψ:=fun v H=>(∃m,v=.tuple #[.agg (aY ((dd B.aL).1,m)).toArray,.bool (dd B.aL).2.1])∧H=gI sp (dd B.aL).2.2) Z (fun Fr w _ _ _=>Sched.Wx Fr w sp B.aL h.aL) Z (fun v L1 h=>Wv h) ?_)
 rintro _ _ ⟨⟨m,rfl⟩,rfl⟩
 refine VG (VT (vs:=aY ((dd B.aL).1,m)) (cs':=aY ((dd B.aL).1,m)) 3 Z Z Z Z (NR _) Z Z Z (VG (VN ?_)))
 have hS1:=Gz h.aL
 have hwf:=h.fG hS1
 have hcs:=QV (Wt h.aL) sp
 refine aj ?_
 refine CC Z (fun h1=>?_) (fun h1=>CK ?_)
 ·obtain⟨k,q,hk,_⟩:=xl h.aL h1
  have hf:mi B.bC (dd B.aL).1:=hEC _ (ME hk) _ yf
  obtain⟨n,hcl⟩:=tk hf.1.1
  have hn:n<6:=by have:=hf.1.2;have:=h.c1;omega
  rw[if_pos h1,hcl] at hR
  refine DK ?_
  refine iL ?_
  refine DL ?_
  refine AG (VA.st 0 Z Z Z Z Z P8 (cs':=fW ((B.fG (dd B.aL).2.2).il n 0) sp) (by rw[hcs];exact Hs hwf hn 0) Z yu (AG (AN ?_)))
  refine sX ?_
  refine VG (VL 3 (aY ((dd B.aL).1,m)) Z Z Z Z (VG (VT (vs:=aY ((dd B.aL).1,m)) (cs':=aY ((dd B.aL).1,m)) 3 Z Z Z Z (NR _) Z Z Z (VG (VN ?_)))))
  refine CR (aq.JE 4 5 6 Z Z Z (ax.many 3 Z Z) Z Z (L':=[r.h 181,bo p ((B.fG (dd B.aL).2.2).il n 0)]) ?_ (hR m))
  exact(IP 2 Z (pW sp (hwf.il n 0) (aa.app (L:=[_,_]) (M:=[_,_]) aa.refl aa.nil))).ah
 ·rw[if_neg s9] at hR
  refine sX ?_
  refine VG (VL 3 (aY ((dd B.aL).1,m)) Z Z Z Z (VG (VT (vs:=aY ((dd B.aL).1,m)) (cs':=aY ((dd B.aL).1,m)) 3 Z Z Z Z (NR _) Z Z Z (VG (VN ?_)))))
  refine CR (aq.JE 4 5 6 Z Z Z (ax.many 3 Z Z) Z Z (L':=[r.h 181,bo p (B.fG (dd B.aL).2.2)]) ?_ (hR m))
  rw[hcs]
  exact(IP 2 Z (pW sp hwf (aa.app (L:=[_,_]) (M:=[_,_]) aa.refl aa.nil))).ah
theorem Fo(p:Nat)(A:aO)(hC:A.Calls):az Tryz.prog 241 [.pointer (some ⟨p,0,none⟩)] Fr w [bo p A] (Fy p (A.ff 9223372036854775807) (A.aL.cQ 9223372036854775807)):=by
 refine TF 7 Tryz.func241 Z ym aD Z Z ?_
 refine aj ?_
 refine VG (VV (u:=.bool false) (fun Fr w hF _ hs=>by
  obtain⟨sp,h⟩:=uN.of (hs.at_ 0 rfl)
  exact gy Fr w h.y_) Z (VG (VN (VC.kM Z (CK ?_)))))
 refine aj ?_
 refine VG (VK (Lc:=[bo p A]) (fun Fr w _ _ _=>wN Fr w p A _ hC) Z Z ?_)
 rintro _ _ ⟨r,hok,hgs,rfl,rfl⟩
 refine lg ?_
 exact CR (aq.tmp 2 Z Z ER ⟨r,hok,hgs,Z,Z⟩)
end Adm
namespace Adm
open Go Vg T Api Sched Conf
attribute [local irreducible] VO VC VA
theorem V7{A:aO}(h:A.Wf)(f:ay)(now:Int):(A.iy f now).2.Wf:=by
 unfold aO.iy
 repeat' split
 all_goals first | exact h | exact(h.dI f now).cU _ _ _ | exact h.dI f now
theorem Q6(A:aO)(k s t:Int):(A.cU k s t).2.bC=A.bC:=by unfold aO.cU;split;exact Ey _ _ _ _;rfl
theorem Q7(A:aO)(k s t:Int):(A.cU k s t).2.aL=A.aL:=by unfold aO.cU;split;exact Ez _ _ _ _;rfl
theorem Od(A:aO)(f:ay)(now:Int):(A.dI f now).2.bC=A.bC:=by
 unfold aO.dI
 repeat' split
 all_goals rfl
theorem V5(A:aO)(f:ay)(now:Int):(A.iy f now).2.bC=A.bC:=by
 unfold aO.iy
 repeat' split
 all_goals first | rfl | (rw[Q6];exact Od A f now) | exact Od A f now
theorem ab_(A:aO)(f:ay)(now:Int):(A.dI f now).2.aL=A.aL∨(A.dI f now).2.aL=(A.aL.fq f).2:=by
 unfold aO.dI
 repeat' split
 all_goals first | exact .inl rfl | exact .inr rfl
theorem UU{A:aO}{f:ay}(h:A.may f=true):(∃k:Nat,f.cls=k∧k<A.aL.cls.length)∧dD f.op=0:=by
 simp only[aO.may,dN,decide_eq_true_eq,beq_iff_eq] at h
 obtain⟨n,hn⟩:=tk h.1.1.1.1.1.2
 exact⟨⟨n,hn,by have:=h.1.1.1.1.2;omega⟩,h.1.2⟩
theorem WQ{n:Int}{S:aM}{f:ay}(hC:∀q∈S.qs,∀g∈q,mi n g)(hf:mi n f){k:Nat}(hk:f.cls=k)(hlt:k<S.cls.length)(ho:dD f.op=0):∀q∈(S.fq f).2.qs,∀g∈q,mi n g:=by
 have hc:S.qs[k]?=some (S.cls[k].q):=by simp[aM.qs,GE hlt]
 obtain⟨_,h2,_⟩:=WS hk hc ho
 rw[h2]
 split
 ·intro q hq g hg
  rcases lP hq with hq | rfl
  ·exact hC q hq g hg
  ·rcases ez.1 hg with hg | hg
   ·exact hC _ (ME hc) g hg
   ·obtain rfl:=eA.1 hg;exact hf
 ·exact hC
theorem V4{A:aO}(hC:A.Calls)(f:ay)(now:Int):(A.iy f now).2.Calls:=by
 intro q hq g hg
 rw[V5]
 have key:A.may f=true→∀q∈(A.dI f now).2.aL.qs,∀g∈q,mi A.bC g:=fun hm=>by
  obtain⟨⟨k,hk,hlt⟩,ho⟩:=UU hm
  obtain⟨h1,h2,h3⟩:=Lx hm
  rcases ab_ A f now with e | e
  ·rw[e];exact hC
  ·rw[e];exact WQ hC ⟨of_decide_eq_true h1,h2,h3⟩ hk hlt ho
 unfold aO.iy at hq
 split at hq
 ·rename_i hm
  split at hq
  ·rw[Q7] at hq;exact key hm q hq g hg
  ·exact key hm q hq g hg
 ·exact hC q hq g hg
theorem Wy{n:Int}{S:aM}(h:S.Wf)(hC:∀q∈S.qs,∀g∈q,mi n g):∀q∈(dd S).2.2.qs,∀g∈q,mi n g:=by
 cases ho:(dd S).2.1 with
 | true=>
  obtain⟨k,q,h1,h2⟩:=xl h ho
  rw[h2]
  intro q' hq' g hg
  rcases lP hq' with hq' | rfl
  ·exact hC q' hq' g hg
  ·exact hC _ (ME h1) g (i_ _ hg)
 | false=>rw[(Wu h ho).2];exact hC
theorem Vw{A:aO}(h:A.Wf)(hC:A.Calls)(now:Int):(A.cq now).Calls:=by
 obtain⟨h1,h2,h3⟩:=p_ h now
 have:=Wy h1.aL (zu h hC now)
 unfold aO.cq
 split<;>exact this
theorem Vr(c:bh):(ou c).Calls:=by
 intro q hq g hg
 simp only[ou,aM.qs,aM.new,mV,bP] at hq
 obtain⟨x,_,rfl⟩:=hq
 simp[ni] at hg
theorem px{x lo hi:Int}(h:lo≤hi):aG (aG x lo hi) lo hi=aG x lo hi:=uc (mN h).1 (mN h).2
theorem WX(qs:List Int):ft (ft qs)=ft qs:=by
 have h:=Ao qs
 have h1:eJ (ft qs)=ft qs:=by
  have e:(ft qs).take 4=ft qs:=r5 h.2
  unfold eJ
  rw[e,if_neg]
  intro e2;rw[e2] at h;simp at h
 have h2:(ft qs).map kC=ft qs:=by
  have:∀x∈ft qs,kC x=x:=fun x hx=>by
   obtain⟨y,_,rfl⟩:=bP.1 hx
   exact px yd
  rw[List.map_congr_left this];simp
 show(eJ (ft qs)).map kC=ft qs
 rw[h1,h2]
theorem S_(c:bh):bI c=bI (bI c):=by
 have hn:=mN (x:=c.nodes) (lo:=1) (hi:=6) yd
 have e1:=px (x:=c.nodes) (lo:=1) (hi:=6) yd
 have e2:aG (aG c.chain 1 (aG c.nodes 1 6)) 1 (aG (aG c.nodes 1 6) 1 6)=aG c.chain 1 (aG c.nodes 1 6):=by rw[e1];exact px hn.1
 simp only[bI,bh.mk.injEq]
 exact⟨e1.symm,e2.symm,(px yd).symm,(WX _).symm,(px yd).symm,(px yd).symm,(px yd).symm,(px yd).symm,(px yd).symm,(px yd).symm,(px yd).symm,(px yd).symm⟩
end Adm
end Go.Proofs.YtkgfhabealjjpaaGreat
