/- Texts of the proof, put together and shortened. No condition. -/
import Derived.Test.YtkgfhabealjjpaaGreatDoorZi1
set_option maxRecDepth 100000
set_option maxHeartbeats 16000000
set_option linter.unusedVariables false
set_option linter.unusedSectionVars false
set_option linter.unusedSimpArgs false
namespace Go.Proofs.YtkgfhabealjjpaaGreatDoor
variable (Fr : Nat → Prop) (w : World)
namespace Kv
open Go Vg T Api
attribute [local irreducible] VO VC VA
abbrev lX:=List (ByteArray×(ByteArray×Int))
def nS(x:ByteArray×Int):Value:=.agg ([.string x.1,.int .i64 x.2]:List Value).toArray
def bg(r:ik):List Value:=[.int .i64 r.code,.string r.value,.int .i64 r.version,.int .i64 r.at_]
def jt:ByteArray:=⟨#[]⟩
def cw:ik:=⟨0,jt,0,0⟩
def iK(p:Nat)(S:lX):HP:=hex fun b:Nat=>bF [pt p [.map (some b)] 231,fG kU nS b S]
theorem FX{Fr:Nat→Prop}{w:World}{p:Nat}{S:lX}(h:a_ Fr [iK p S] w):∃b,bq Fr w p [.map (some b)]∧qk Fr w kU nS b S:=by
 obtain⟨b,hb⟩:=h.ex
 have hs:=hb.sep
 exact⟨b,hs.aA 0 Z,hs.w9 1 Z⟩
theorem bd.kv(p:Nat)(S:lX):bd (ι:=Nat) (iK p S) (fun _=>True) (fun b=>[pt p [.map (some b)] 231,fG kU nS b S]):=fun w ids ⟨b,h⟩ hn=>⟨b,trivial,ids,h,hn,fun _ h=>h⟩
theorem aa.kv{L M:List HP}{p b:Nat}{S:lX}(h:aa L (pt p [.map (some b)] 231::fG kU nS b S::M)):aa L (iK p S::M):=
 aa.ex (f:=fun b:Nat=>bF [pt p [.map (some b)] 231,fG kU nS b S]) b (aa.sep (Ls:=[pt p [.map (some b)] 231,fG kU nS b S]) h)
theorem a_.kv{Fr:Nat→Prop}{L:List HP}{w:World}{p b:Nat}{S:lX}(h:a_ Fr L w)(i j:Nat)(hi:L[i]?=some (pt p [.map (some b)] 231))(hj:L[j]?=some (fG kU nS b S)):a_ Fr [iK p S] w:=by
 obtain⟨F,hs,hf⟩:=h
 obtain⟨ids1,s1,m1⟩:=hs.get hi
 obtain⟨ids2,s2,m2⟩:=hs.get hj
 refine⟨ids1++ids2,⟨ids1++ids2,[],by simp,⟨b,ids1,ids2,Z,s1,ids2,[],by simp,s2,Z⟩,Z⟩,fun c hc=>?_⟩
 rcases eP.1 hc with hc | hc
 ·exact hf c (m1 c hc)
 ·exact hf c (m2 c hc)
theorem Cn:ky Tryz.prog 9 kU:=ky.string Tryz.underlying9
def nw(S:lX)(k:ByteArray)(at_:Int):ik:=match bX S k with
 | none=>⟨2,jt,0,at_⟩
 | some (v,n)=>⟨1,v,n,at_⟩
def jL(S:lX)(i:Int)(o:bw):lX×ik:=
 if i<1∨4096<i∨dv o≠0 then (S,cw)
 else if o.kind=1 then (S,nw S o.key i)
 else if o.kind=3 then match bX S o.key with
  | none=>(S,⟨2,jt,0,i⟩)
  | some _=>(gx S o.key,⟨1,jt,0,i⟩)
 else if o.kind=4∧((bX S o.key).getD (jt,0)).2≠o.version then (S,⟨3,((bX S o.key).getD (jt,0)).1,((bX S o.key).getD (jt,0)).2,i⟩)
 else (cS S o.key (o.value,i),⟨1,jt,i,i⟩)
theorem Av(o:bw):ax Tryz.prog 178 [.agg o.cells.toArray] Fr w [] (fun v L=>v=.bool (decide (o.kind=1)&&decide (dv o=0))∧L=[]):=by
 refine TF 11 Tryz.func178 Z yp aC Z Z ?_
 refine CS (CG (VG (VB (vs:=o.cells) Z (fun b=>VG (VN ?_)))))
 refine al ?_
 refine VG (VO.split 6 Z Z (fun h1=>?_) (fun h1=>?_))
 ·have h1:o.kind=1:=eq_of_beq h1
  refine VG (VL 0 o.cells Z Z Z Z ?_)
  refine HC ?_
  refine al ?_
  exact CR (an.bool 2 Z Z (by simp[h1];rfl) aa.nil.aj ⟨rfl,Z⟩)
 ·have h1:o.kind≠1:=ne_of_beq_false h1
  refine al ?_
  exact CR (an.bool 2 Z Z yj aa.nil.aj ⟨rfl,Z⟩)
theorem lK:ax Tryz.prog 90 [] Fr w [] (fun v L=>∃p,v=.pointer (some ⟨p,0,none⟩)∧L=[iK p []]):=by
 refine TF 4 Tryz.func90 Z yp aC Z Z ?_
 refine al ?_
 refine VG (VO.vv (aK.makeMap kU nS) ?_)
 rintro _ _ ⟨b,rfl,rfl⟩
 refine al ?_
 refine VG (VI (LB (pv:=[(0,.map (some b))]) [.map (some b)] Z Z Z yp Z) ?_)
 refine VG (VB (vs:=[.map (some b)]) Z fun p=>?_)
 refine al ?_
 exact CR (an.tmp 0 Z Z (aa.kv aa.refl).aj ⟨p,Z,Z⟩)
theorem fO{p:Nat}{S:lX}(h:a_ Fr [iK p S] w):ax Tryz.prog 196 [.pointer (some ⟨p,0,none⟩)] Fr w [] (fun v L=>v=.bool false∧L=[]):=by
 obtain⟨b,hp,hm⟩:=FX h
 refine TF 12 Tryz.func196 Z yp aC Z Z ?_
 refine DV ?_
 refine AZ ?_
 refine DV ?_
 refine VG (VI (KZ Tryz.underlying229 Z Z) ?_)
 refine al ?_
 exact o_
theorem Cs{p:Nat}{S:lX}(h:a_ Fr [iK p S] w)(k:ByteArray)(n:Int):
  ax Tryz.prog 270 [.pointer (some ⟨p,0,none⟩),.string k,.int .i64 n] Fr w [] (fun v L=>v=.agg (bg (nw S k n)).toArray∧L=[]):=by
 obtain⟨b,hp,hm⟩:=FX h
 refine TF 31 Tryz.func270 Z yp aC Z Z ?_
 refine al ?_
 refine VG (VO.alloc Z fun r=>?_)
 refine al ?_
 refine HD ?_
 refine jR ?_
 refine DV ?_
 refine VG (VO.sV (aK.lookup Cn Tryz.underlying229 Z Z (a:=k) Z (di.aA hm)) ?_)
 cases hg:bX S k with
 | none=>
  refine al ?_
  refine VG (VO.alloc Z fun q=>?_)
  refine VG (VT (vs:=[.string jt,.int .i64 0]) 0 Z Z Z Z (NR _) Z Z Z ?_)
  refine sg ?_
  refine VG (VI (LB (pv:=[(0,.int .i64 2),(3,.int .i64 n)]) (bg ⟨2,jt,0,n⟩) Z Z Z yp Z) ?_)
  refine VG (VT (vs:=bg ⟨2,jt,0,n⟩) 1 Z Z Z Z (NR _) Z Z Z ?_)
  refine al ?_
  exact CR (an.cell 6 Z Z Z (aw.many (ds:=bg ⟨2,jt,0,n⟩) 1 Z Z) aa.nil.aj ⟨by rw[nw,hg],Z⟩)
 | some x=>
  obtain⟨v,m⟩:=x
  refine al ?_
  refine VG (VO.alloc Z fun q=>?_)
  refine VG (VT (vs:=[.string v,.int .i64 m]) 0 Z Z Z Z (NR _) Z Z Z ?_)
  refine sf ?_
  refine VG (VI (LB (pv:=[(0,.int .i64 1),(1,.string v),(2,.int .i64 m),(3,.int .i64 n)]) (bg ⟨1,v,m,n⟩) Z Z Z yp Z) ?_)
  refine VG (VT (vs:=bg ⟨1,v,m,n⟩) 1 Z Z Z Z (NR _) Z Z Z ?_)
  refine al ?_
  exact CR (an.cell 6 Z Z Z (aw.many (ds:=bg ⟨1,v,m,n⟩) 1 Z Z) aa.nil.aj ⟨by rw[nw,hg],Z⟩)
theorem Ql(p:Nat)(S:lX)(i:Int)(o:bw):
  ax Tryz.prog 223 [.pointer (some ⟨p,0,none⟩),.int .i64 i,.agg o.cells.toArray] Fr w [iK p S] (fun v L=>v=.agg (bg (jL S i o).2).toArray∧L=[iK p (jL S i o).1]):=by
 refine TF 96 Tryz.func223 Z yp aC Z Z ?_
 refine al ?_
 refine VG (VB (vs:=o.cells) Z fun ob=>?_)
 refine VG (VO.alloc Z fun r=>?_)
 refine VG (VN (CS ?_))
 refine VC.meet (σ:=Bool) (fun t=>[(0,pV p),(1,.int .i64 i),(5,pV ob),(6,pV r),(23,.bool t)]) (fun _=>[pt r (bg cw) 141,pt ob o.cells 36,iK p S]) (fun t=>t=true↔(i<1∨4096<i∨dv o≠0)) ?_ ?_
 ·refine CG ?_
  refine al ?_
  refine VG (VV (fun Fr w hF hs hS=>fO Fr w (hS.at_ 2 Z)) Z ?_)
  refine al ?_
  refine VG (VY 11 false Z Z ?_)
  refine al ?_
  refine VG (VO.split 15 Z Z (fun h1=>?_) (fun h1=>?_))
  ·have h1:=of_decide_eq_true h1
   refine al ?_
   refine VG (VY 19 true Z Z ?_)
   refine VG (VN ⟨true,by simp[h1],aH,ER⟩)
  have h1:=of_decide_eq_false h1
  refine al ?_
  refine VG (VO.split 19 Z Z (fun h2=>?_) (fun h2=>?_))
  ·have h2:=of_decide_eq_true h2
   refine al ?_
   exact⟨true,by simp[h2],aH,ER⟩
  have h2:=of_decide_eq_false h2
  refine VG (VL 1 o.cells Z Z Z Z ?_)
  refine HC ?_
  refine al ?_
  exact⟨_,by simp[h1,h2],SC Z (SC Z (SC Z (SC Z (SC Z (SN _))))),ER⟩
 intro t ht
 refine CC Z (fun h=>?_) (fun h=>CK ?_)
 ·have hb:=ht.1 h
  have e1:jL S i o=(S,cw):=by rw[jL,if_pos hb]
  refine yL ?_
  refine HE ?_
  refine al ?_
  exact CR (an.cell 6 Z Z Z (aw.many (ds:=bg cw) 0 Z Z) (IP 2 Z aa.nil).aj ⟨by rw[e1],by rw[e1]⟩)
 have hb:¬(i<1∨4096<i∨dv o≠0):=fun h'=>by rw[ht.2 h'] at h;cases h
 refine VC.bz 2 Z (bd.kv p S) ?_
 intro b _
 generalize hx:(bX S o.key).getD (jt,0)=x
 refine VC.meet (σ:=Nat) (fun q=>[(0,pV p),(1,.int .i64 i),(5,pV ob),(6,pV r),(7,pV q),(8,.bool (bX S o.key).isSome)])
  (fun q=>[pt q [.string x.1,.int .i64 x.2] 292,pt p [.map (some b)] 231,fG kU nS b S,pt r (bg cw) 141,pt ob o.cells 36]) (fun _=>True) ?_ ?_
 ·refine CD (ts 0 10 (.only 10 (.only 11 (.take 12 .nil)))) yp yr ?_
  refine iB ?_
  refine AG (VA.lookup Cn Tryz.underlying229 Z Z Z (a:=o.key) Z (di.one 1 Z) ?_)
  have hv:((bX S o.key).map nS).getD T.t292.zero=nS x:=by rw[←hx];cases bX S o.key<;>rfl
  rw[hv]
  refine iB ?_
  refine AG (AO (aK.alloc Z) Z ?_ ?_)
  ·rintro v L' ⟨q,rfl,rfl⟩
   exact yv
  rintro v L' ⟨q,rfl,rfl⟩
  refine AG (AT (vs:=[.string x.1,.int .i64 x.2]) 0 Z Z Z Z Z (NR _) Z Z Z yv ?_)
  refine iB ?_
  exact⟨q,trivial,aH,ER⟩
 intro q _
 have hres:∀(R:ik) {e:Env} {M:List HP} {S':lX},Vg.look e 6=some (.pointer (some ⟨r,0,none⟩))→jL S i o=(S',R)→aa M (pt p [.map (some b)] 231::fG kU nS b S' :: [])→M[3]?=some (pt r (bg R) 141) →
   an ⟨Tryz.prog,tab,aC,96,Fr,w⟩ Tryz.f223 (fun v L=>v=.agg (bg (jL S i o).2).toArray∧L=[iK p (jL S i o).1]) e M:=by
  intro R e M S' h6 hk hi hM
  exact an.cell 6 Z h6 Z (aw.many (ds:=bg R) 3 hM Z) (aa.kv hi).aj ⟨by rw[hk],by rw[hk]⟩
 refine VC.meet (σ:=Unit) (fun _=>[(0,pV p),(1,.int .i64 i),(5,pV ob),(6,pV r)]) (fun _=>[pt q [.string x.1,.int .i64 x.2] 292,pt p [.map (some b)] 231,fG kU nS b S,pt r (bg cw) 141,pt ob o.cells 36]) (fun _=>o.kind≠1∧o.kind≠3∧¬(o.kind=4∧x.2≠o.version)) (VC.block ?_) ?_
 case refine_2=>
  rintro _ ⟨h1,h2,h3⟩
  refine HF ?_
  refine r6 ?_
  refine AG (AI Z (LB (pv:=[(0,.string o.value),(1,.int .i64 i)]) [.string o.value,.int .i64 i] Z Z Z yp Z) ?_)
  refine AG (AO (aK.mapUpdate (d:=nS) (u:=(o.value,i)) 2 Cn Tryz.underlying229 (a:=o.key) Z Z Z Z) Z ?_ ?_)
  ·rintro v L' ⟨rfl,rfl⟩
   exact yv
  rintro v L' ⟨rfl,rfl⟩
  refine AG (AN ?_)
  refine al ?_
  refine VG (VI (LB (pv:=[(0,.int .i64 1),(2,.int .i64 i),(3,.int .i64 i)]) (bg ⟨1,jt,i,i⟩) Z Z Z yp Z) ?_)
  refine VG (VT (vs:=bg ⟨1,jt,i,i⟩) 3 Z Z Z Z (NR _) Z Z Z ?_)
  refine al ?_
  exact CR (hres ⟨1,jt,i,i⟩ Z (by rw[jL,if_neg hb,if_neg h1,if_neg h2,hx,if_neg h3]) (bb [1,1]) Z)
 refine ox ?_
 refine CE Z (fun h1=>?_) (fun h1=>?_)
 ·refine ox ?_
  refine VG (VV (fun Fr w hF hs hS=>Cs Fr w (a_.kv hS 1 2 Z Z) o.key i) Z ?_)
  refine VG (VT (vs:=bg (nw S o.key i)) 3 Z Z Z Z (NR _) Z Z Z ?_)
  refine al ?_
  exact CR (hres (nw S o.key i) Z (by rw[jL,if_neg hb,if_pos h1]) (bb [1,1]) Z)
 ·refine ox ?_
  refine VG (VO.split 48 Z Z (fun h2=>?_) (fun h2=>?_))
  ·have h2:o.kind=3:=eq_of_beq h2
   refine ox ?_
   cases hg:bX S o.key with
   | none=>
    refine Ez ?_
    refine VG (VI (LB (pv:=[(0,.int .i64 2),(3,.int .i64 i)]) (bg ⟨2,jt,0,i⟩) Z Z Z yp Z) ?_)
    refine VG (VT (vs:=bg ⟨2,jt,0,i⟩) 3 Z Z Z Z (NR _) Z Z Z ?_)
    refine al ?_
    exact CR (hres ⟨2,jt,0,i⟩ Z yw (bb [1,1]) Z)
   | some y=>
    refine vM ?_
    refine ox ?_
    refine CC Z (fun _=>?_) (fun h=>absurd h2 (ne_of_beq_false h))
    refine DW ?_
    refine r6 ?_
    refine AG (AO (aK.delete 2 Cn Tryz.underlying229 (a:=o.key) Z Z Z) Z ?_ ?_)
    ·rintro v L' ⟨rfl,rfl⟩
     exact yv
    rintro v L' ⟨rfl,rfl⟩
    refine AG (AN ?_)
    refine al ?_
    refine VG (VI (LB (pv:=[(0,.int .i64 1),(3,.int .i64 i)]) (bg ⟨1,jt,0,i⟩) Z Z Z yp Z) ?_)
    refine VG (VT (vs:=bg ⟨1,jt,0,i⟩) 3 Z Z Z Z (NR _) Z Z Z ?_)
    refine al ?_
    exact CR (hres ⟨1,jt,0,i⟩ Z yw (bb [1,1]) Z)
  have h2:o.kind≠3:=ne_of_beq_false h2
  refine ox ?_
  refine vM ?_
  refine ox ?_
  refine CC Z (fun h=>absurd (eq_of_beq h) h2) (fun _=>?_)
  refine ox ?_
  refine VG (VO.split 70 Z Z (fun h3=>?_) (fun h3=>?_))
  ·have h3:o.kind=4:=eq_of_beq h3
   refine ox ?_
   refine CC Z (fun h4=>?_) (fun h4=>?_)
   ·have h4:x.2≠o.version:=by simpa using h4
    refine ox ?_
    refine VG (VI (LB (pv:=[(0,.int .i64 3),(1,.string x.1),(2,.int .i64 x.2),(3,.int .i64 i)]) (bg ⟨3,x.1,x.2,i⟩) Z Z Z yp Z) ?_)
    refine VG (VT (vs:=bg ⟨3,x.1,x.2,i⟩) 3 Z Z Z Z (NR _) Z Z Z ?_)
    refine al ?_
    exact CR (hres ⟨3,x.1,x.2,i⟩ Z (by rw[jL,if_neg hb,if_neg h1,if_neg h2,hx,if_pos ⟨h3,h4⟩]) (bb [1,1]) Z)
   ·have h4:x.2=o.version:=by simpa using h4
    exact CK ⟨(),⟨h1,h2,fun h=>h.2 h4⟩,aH,ER⟩
  ·have h3:o.kind≠4:=ne_of_beq_false h3
   refine ox ?_
   exact VC.mh Z (CK ⟨(),⟨h1,h2,fun h=>h3 h.1⟩,aH,ER⟩)
end Kv
namespace Lg
open Go Vg T Api Kv
attribute [local irreducible] VO VC VA
abbrev dK:TypeId:=55
abbrev gV:TypeId:=141
abbrev ud:TypeId:=159
def bm(e:bf):List Value:=[.int .i64 e.index,.int .i64 e.aL,.int .i64 e.seq,.int .i64 e.op.kind,.string e.op.key,.string e.op.value,.int .i64 e.op.version]
theorem qt(e:bf):(bm e).length=7:=rfl
theorem Kb(e:bf):(bm e).all Value.oneCell'=true:=rfl
theorem Mu(r:ik):(bg r).length=4:=rfl
theorem Wv(r:ik):(bg r).all Value.oneCell'=true:=rfl
def iI:bf:=⟨0,0,0,GA⟩
def Ab(x:lX×List ik)(e:bf):lX×List ik:=((jL x.1 e.index e.op).1,x.2 ++ [(jL x.1 e.index e.op).2])
def bN(es:List bf):lX×List ik:=es.foldl Ab ([],[])
theorem F5(es:List bf)(e:bf):bN (es ++ [e])=Ab (bN es) e:=by simp[bN]
theorem F4(es:List bf):(bN es).2.length=es.length:=by
 have:∀(es:List bf) (x:lX×List ik),(es.foldl Ab x).2.length=x.2.length+es.length:=by
  intro es
  induction es with
  | nil=>intro x;rfl
  | cons e es ih=>intro x;rw[qW,ih];simp[Ab];omega
 have h:=this es ([],[])
 simpa[bN] using h
def w6(c:Int)(p:Int×Int)(e:bf):Int×Int:=if e.aL=c then (e.seq,e.index) else p
def fT(es:List bf)(c:Int):Int×Int:=es.foldl (w6 c) (0,0)
theorem Tn(es:List bf)(e:bf)(c:Int):fT (es ++ [e]) c=if e.aL=c then (e.seq,e.index) else fT es c:=by simp[fT,w6]
def mq(es:List bf):List Value:=(List.range 6).flatMap fun c=>[.int .i64 (fT es (c:Nat)).1,.int .i64 (fT es (c:Nat)).2]
theorem KS{es:List bf}{c:Nat}(h:c<6):(mq es)[c*2]?=some (.int .i64 (fT es (c:Nat)).1)∧(mq es)[c*2+1]?=some (.int .i64 (fT es (c:Nat)).2):=by
 match c,h with
 | 0,_=>exact⟨rfl,rfl⟩
 | 1,_=>exact⟨rfl,rfl⟩
 | 2,_=>exact⟨rfl,rfl⟩
 | 3,_=>exact⟨rfl,rfl⟩
 | 4,_=>exact⟨rfl,rfl⟩
 | 5,_=>exact⟨rfl,rfl⟩
 | c+6,h=>omega
structure ze where
 sp:Nat
 a1:Option Addr
 c1:Nat
 a2:Option Addr
 c2:Nat
def j_(es:List bf)(x:ze):List Value:=.pointer (some ⟨x.sp,0,none⟩) :: .slice x.a1 es.length x.c1 :: .slice x.a2 (bN es).2.length x.c2::mq es
def uc(p:Nat)(es:List bf)(x:ze):List HP:=[pt p (j_ es x) ud,iK x.sp (bN es).1,aq dK 7 x.a1 es.length x.c1 (flat bm es),aq gV 4 x.a2 (bN es).2.length x.c2 (flat bg (bN es).2)]
def bL(p:Nat)(es:List bf):HP:=hex fun x=>bF (uc p es x)
structure sC(Fr:Nat→Prop)(w:World)(p:Nat)(es:List bf)(x:ze):Prop where
 aA:bq Fr w p (j_ es x)
 kv:a_ Fr [iK x.sp (bN es).1] w
 Fq:aT bm 7 Fr w x.a1 es
 Mv:aT bg 4 Fr w x.a2 (bN es).2
theorem sC.of{Fr:Nat→Prop}{w:World}{p:Nat}{es:List bf}(h:a_ Fr [bL p es] w):∃x,sC Fr w p es x:=by
 obtain⟨x,h⟩:=h.ex
 have h:=h.sep
 exact⟨x,h.aA 0 Z,h.at_ 1 Z,aT.aq qt (h.at_ 2 Z),aT.aq Mu (h.at_ 3 Z)⟩
theorem bd.log(p:Nat)(es:List bf):bd (ι:=ze) (bL p es) (fun _=>True) (fun x=>uc p es x):=fun w ids ⟨x,h⟩ hn=>⟨x,trivial,ids,h,hn,fun _ h=>h⟩
theorem aa.log{p:Nat}{es:List bf}{L M:List HP}(x:ze)(h:aa L (uc p es x++M)):aa L (bL p es::M):=
 aa.ex (f:=fun x=>bF (uc p es x)) x (aa.sep (Ls:=uc p es x) h)
theorem lK:ax Tryz.prog 44 [] Fr w [] (fun v L=>∃p,v=.pointer (some ⟨p,0,none⟩)∧L=[bL p []]):=by
 refine TF 4 Tryz.func44 Z yp aC Z Z ?_
 refine al ?_
 refine VG (VK (Lc:=[]) (fun Fr w hF hw _=>Kv.lK Fr w) Z Z ?_)
 rintro _ _ ⟨q,rfl,rfl⟩
 refine VG (VI (LB (pv:=[(0,pV q)]) (j_ [] ⟨q,none,0,none,0⟩) Z Z Z yp Z) ?_)
 refine VG (VB (vs:=j_ [] ⟨q,none,0,none,0⟩) Z fun p=>?_)
 refine al ?_
 exact CR (an.tmp 0 Z Z (aa.log ⟨q,none,0,none,0⟩ (IP 0 Z (IP 0 Z (aa.cK (aa.cK aa.nil))))).aj ⟨p,Z,Z⟩)
section
variable {p:Nat} {es:List bf}
theorem fO{q:Nat}{cs:List Value}(h:bq Fr w p (.pointer (some ⟨q,0,none⟩)::cs)):ax Tryz.prog 74 [.pointer (some ⟨p,0,none⟩)] Fr w [] (fun v L=>v=.bool false∧L=[]):=by
 refine TF 12 Tryz.func74 Z yp aC Z Z ?_
 refine al ?_
 refine VG (VO.split 5 rfl rfl (fun h=>by cases h) (fun _=>?_))
 refine ow ?_
 exact xQ
theorem kJ(h:a_ Fr [bL p es] w):ax Tryz.prog 102 [.pointer (some ⟨p,0,none⟩)] Fr w [] (fun v L=>v=.int .i64 es.length∧L=[]):=by
 obtain⟨x,hx⟩:=sC.of h
 have hb:=hx.aA
 unfold j_ at hb
 refine TF 10 Tryz.func102 Z yp aC Z Z ?_
 refine al ?_
 refine VG (VV (fun Fr w hF hs _=>fO Fr w (hb.of hF hs)) Z ?_)
 refine jR ?_
 refine kl ?_
 exact vN
def eQ{α:Type}(l:List α)(i:Int):Option α:=if 1≤i then l[(i-1).toNat]? else none
theorem BO{α:Type}{l:List α}{i:Int}(h:i<1∨(l.length:Int)<i):eQ l i=none:=by
 unfold eQ
 split
 ·exact kr yg
 ·rfl
theorem BP{α:Type}{l:List α}{i:Int}(h0:1≤i)(h1:i≤l.length):∃(k:Nat) (x:α),i=k+1∧k<l.length∧l[k]?=some x∧eQ l i=some x:=by
 refine⟨(i-1).toNat,_,by omega,by omega,GE yg,?_⟩
 rw[eQ,if_pos h0,GE yg]
theorem zn(h:a_ Fr [bL p es] w)(i:Int)(hi0:-9223372036854775808<i)(hi1:i≤9223372036854775807):ax Tryz.prog 64 [.pointer (some ⟨p,0,none⟩),.int .i64 i] Fr w []
  (fun v L=>v=.tuple #[.agg (bm ((eQ es i).getD iI)).toArray,.bool (eQ es i).isSome]∧L=[]):=by
 obtain⟨x,hx⟩:=sC.of h
 have hb:=hx.aA
 unfold j_ at hb
 refine TF 23 Tryz.func64 Z yp aC Z Z ?_
 refine CS (CG (VG (VO.alloc Z fun rb=>?_)))
 refine al ?_
 by_cases h0:i<1
 ·refine VG (VY 8 true Z (DT h0) ?_)
  refine sd ?_
  refine VG (VI (LB (pv:=[]) (bm iI) Z Z Z yp Z) ?_)
  refine VG (VT (vs:=bm iI) 0 Z Z Z Z (NR _) Z Z Z ?_)
  refine al ?_
  exact CR (an.dt 4 5 Z Z Z (aw.many (ds:=bm iI) 0 Z Z) Z aa.nil.aj ⟨by rw[BO (.inl h0)];rfl,Z⟩)
 ·refine VG (VY 8 false Z (DF h0) ?_)
  refine bG ?_
  refine VG (VV (fun Fr w hF hs hS=>kJ Fr w (h.of hF hs)) Z ?_)
  refine bG ?_
  refine CP Z (fun h1=>?_) (fun h1=>CK ?_)
  ·refine al ?_
   refine VG (VI (LB (pv:=[]) (bm iI) Z Z Z yp Z) ?_)
   refine VG (VT (vs:=bm iI) 0 Z Z Z Z (NR _) Z Z Z ?_)
   refine al ?_
   exact CR (an.dt 4 5 Z Z Z (aw.many (ds:=bm iI) 0 Z Z) Z aa.nil.aj ⟨by rw[BO (.inr h1)];rfl,Z⟩)
  ·obtain⟨k,e,rfl,hk,he,hat⟩:=BP (l:=es) (i:=i) yg yg
   obtain⟨eb,eo,hea,ra,rc⟩:=aT.rd (X:=⟨Tryz.prog,tab,aC,23,Fr,w⟩) hx.Fq he
   rw[hea] at hb
   refine kl ?_
   refine pZ ?_
   refine VG (VI (eE k Z Z Z Z Z yg hk) ?_)
   refine uB ?_
   refine VG (VT (vs:=bm e) 0 Z Z Z Z (NR _) Z Z Z ?_)
   refine al ?_
   exact CR (an.dt 4 5 Z Z Z (aw.many (ds:=bm e) 0 Z Z) Z aa.nil.aj ⟨by rw[hat];rfl,Z⟩)
theorem Mw(h:a_ Fr [bL p es] w)(i:Int)(hi0:-9223372036854775808<i)(hi1:i≤9223372036854775807):ax Tryz.prog 229 [.pointer (some ⟨p,0,none⟩),.int .i64 i] Fr w []
  (fun v L=>v=.tuple #[.agg (bg ((eQ (bN es).2 i).getD cw)).toArray,.bool (eQ (bN es).2 i).isSome]∧L=[]):=by
 obtain⟨x,hx⟩:=sC.of h
 have hb:=hx.aA
 unfold j_ at hb
 have hrl:=F4 es
 refine TF 23 Tryz.func229 Z yp aC Z Z ?_
 refine CS (CG (VG (VO.alloc Z fun rb=>?_)))
 refine al ?_
 by_cases h0:i<1
 ·refine VG (VY 8 true Z (DT h0) ?_)
  refine sd ?_
  refine N4 ?_
  refine HE ?_
  refine al ?_
  exact CR (an.dt 4 5 Z Z Z (aw.many (ds:=bg cw) 0 Z Z) Z aa.nil.aj ⟨by rw[BO (.inl h0)];rfl,Z⟩)
 ·refine VG (VY 8 false Z (DF h0) ?_)
  refine bG ?_
  refine VG (VV (fun Fr w hF hs hS=>kJ Fr w (h.of hF hs)) Z ?_)
  refine bG ?_
  refine CP Z (fun h1=>?_) (fun h1=>CK ?_)
  ·refine yL ?_
   refine HE ?_
   refine al ?_
   exact CR (an.dt 4 5 Z Z Z (aw.many (ds:=bg cw) 0 Z Z) Z aa.nil.aj ⟨by rw[BO (.inr (by rw[hrl];exact h1))];rfl,Z⟩)
  ·obtain⟨k,e,rfl,hk,he,hat⟩:=BP (l:=(bN es).2) (i:=i) yg yg
   obtain⟨eb,eo,hea,ra,rc⟩:=aT.rd (X:=⟨Tryz.prog,tab,aC,23,Fr,w⟩) hx.Mv he
   rw[hea] at hb
   refine kl ?_
   refine pZ ?_
   refine VG (VI (eE k Z Z Z Z Z yg hk) ?_)
   refine uB ?_
   refine VG (VT (vs:=bg e) 0 Z Z Z Z (NR _) Z Z Z ?_)
   refine al ?_
   exact CR (an.dt 4 5 Z Z Z (aw.many (ds:=bg e) 0 Z Z) Z aa.nil.aj ⟨by rw[hat];rfl,Z⟩)
def gT(es:List bf)(c:Int):Int×Int:=if 0≤c∧c<6 then fT es c else (0,0)
theorem qz(h:a_ Fr [bL p es] w)(c:Int):ax Tryz.prog 279 [.pointer (some ⟨p,0,none⟩),.int .i64 c] Fr w []
  (fun v L=>v=.tuple #[.int .i64 (gT es c).1,.int .i64 (gT es c).2]∧L=[]):=by
 obtain⟨x,hx⟩:=sC.of h
 have hb:=hx.aA
 unfold j_ at hb
 refine TF 30 Tryz.func279 Z yp aC Z Z ?_
 refine al ?_
 refine HG ?_
 refine al ?_
 refine VG (VY 8 false Z Z ?_)
 refine bG ?_
 by_cases h0:c<0
 ·refine VG (VY 12 true Z (DT h0) ?_)
  refine sd ?_
  exact CR (an.cV 4 5 Z Z Z ER ⟨by rw[gT,if_neg yg],Z⟩)
 ·refine VG (VY 12 false Z (DF h0) ?_)
  refine bG ?_
  refine CP Z (fun h1=>?_) (fun h1=>CK ?_)
  ·refine al ?_
   exact CR (an.cV 4 5 Z Z Z ER ⟨by rw[gT,if_neg yg],Z⟩)
  ·obtain⟨k,rfl⟩:∃k:Nat,c=k:=⟨c.toNat,by omega⟩
   obtain⟨l1,l2⟩:=KS (es:=es) (c:=k) yg
   have q1:(j_ es x)[0+3+k*2+0]?=some (.int .i64 (fT es (k:Nat)).1):=by rw[show 0+3+k*2+0=k*2+3 by omega];exact l1
   have q2:(j_ es x)[0+3+k*2+1]?=some (.int .i64 (fT es (k:Nat)).2):=by rw[show 0+3+k*2+1=k*2+1+3 by omega];exact l2
   refine CS (CD (ts 0 16 .nil) yp yr ?_)
   refine bp ?_
   refine AG (AI Z (iL k Z Z Z Z Z Z yg) ?_)
   refine bp ?_
   refine AG (VA.load Z Z Z (aw.aA hx.aA q1) ?_)
   refine bp ?_
   refine AG (AI Z (iL k Z Z Z Z Z Z yg) ?_)
   refine bp ?_
   refine AG (VA.load Z Z Z (aw.aA hx.aA q2) ?_)
   refine bp ?_
   exact CR (an.cV 4 5 Z Z Z ER ⟨by rw[gT,if_pos yg],Z⟩)
theorem Cs(h:a_ Fr [bL p es] w)(k:ByteArray):ax Tryz.prog 241 [.pointer (some ⟨p,0,none⟩),.string k] Fr w []
  (fun v L=>v=.agg (bg (nw (bN es).1 k es.length)).toArray∧L=[]):=by
 obtain⟨x,hx⟩:=sC.of h
 have hb:=hx.aA
 unfold j_ at hb
 refine TF 19 Tryz.func241 Z yp aC Z Z ?_
 refine CS (CG (VG (VO.alloc Z fun rb=>?_)))
 refine al ?_
 refine HG ?_
 refine jR ?_
 refine CS (CD (ts 0 10 (.only 10 (.only 11 .nil))) yp yr ?_)
 refine A0 ?_
 refine AG (AR (fun Fr w hF hs hS=>Kv.Cs Fr w (hx.kv.of hF hs) k es.length) Z Z yx ?_)
 refine AG (AT (vs:=bg (nw (bN es).1 k es.length)) 0 Z Z Z Z Z (NR _) Z Z Z (by(try refine Pd.st ?_);(repeat(first|exact Pd.nil|exact Pd.fnil|refine Pd.inner ?_|refine Pd.skip yr ?_|refine zf (zo 0 Z Z) ?_|refine zf (zm 0 Z Z) ?_|refine zf (aw.aA (aw.aA hb Z) Z) ?_|refine zf ((aw.aA hb Z)) ?_|refine zc (zo 0 Z Z) ?_|refine zc (zm 0 Z Z) ?_|refine zc (aw.aA (aw.aA hb Z) Z) ?_|refine zc ((aw.aA hb Z)) ?_))) ?_)
 refine bp ?_
 exact CR (an.cell 4 Z Z Z (aw.many (ds:=bg (nw (bN es).1 k es.length)) 0 Z Z) aa.nil.aj ⟨rfl,Z⟩)
end
end Lg
namespace Vg
open Go Go.MapKept
def eU(P:Program)(t:TypeId)(d0:Nat)(u v:Value)(r:Bool):Prop:=∀d,d0≤d→∀w:World,(Op.equalIn (d+1) t u v).run P w=.ok r w
theorem eU.int{P:Program}{t:TypeId}{k j:IntKind}(ht:P.underlying t=some (.int k))(a b:Int):eU P t 0 (.int j a) (.int j b) (decide (a=b)):=fun d _ w=>by
 rw[Op.equalIn,Sem.run_bind,run_underlying ht]
 simp;rfl
theorem eU.str{P:Program}{t:TypeId}(ht:P.underlying t=some .string)(a b:ByteArray):eU P t 0 (.string a) (.string b) (decide (a=b)):=fun d _ w=>by
 rw[Op.equalIn,Sem.run_bind,run_underlying ht]
 have:(a == b)=decide (a=b):=by
  by_cases h:a=b
  ·subst h;rw[(bytes_beq a a).2 rfl];simp
  ·rw[DF h]
   cases hb:a == b
   ·rfl
   ·exact absurd ((bytes_beq a b).1 hb) h
 simp[this]
def hU(P:Program)(d0:Nat)(xs ys:List Value)(fs:List Field)(r:Bool):Prop:=∀d,d0≤d→∀w:World,(Op.eqFields (d+1) xs.toArray ys.toArray fs).run P w=.ok r w
theorem hU.nil{P:Program}{xs ys:List Value}:hU P 0 xs ys [] true:=fun d _ w=>rfl
theorem hU.cons{P:Program}{d0 d1:Nat}{xs ys:List Value}{f:Field}{fs:List Field}{r s:Bool}{u v:Value}(hn:f.name ≠ "_")(hx:∀w:World,(part f.type xs.toArray f.offset).run P w=.ok u w)(hy:∀w:World,(part f.type ys.toArray f.offset).run P w=.ok v w)
  (h:eU P f.type d0 u v r) (hs:hU P d1 xs ys fs s):hU P (max d0 d1) xs ys (f::fs) (r&&s):=fun d hd w=>by
 unfold Op.eqFields
 rw[if_pos hn]
 simp only[Sem.run_bind,hx,hy,Result.andThen_ok,h d yg w]
 cases r
 ·simp
 ·simpa using hs d yg w
theorem pO{P:Program}{t:TypeId}{cs:List Value}{off:Nat}{v:Value}{ti:TI}(ht:aN P t ti)(ha:ti.aE.agg=false)(hv:cs[off]?=some v)(w:World):(part t cs.toArray off).run P w=.ok v w:=by
 unfold part
 rw[Sem.run_bind,ht.ES,ha]
 have:cs.toArray[off]?=some v:=by simpa using hv
 simp[this]
theorem Vr{P:Program}{t:TypeId}{cs ds:List Value}{off:Nat}{ti:TI}(ht:aN P t ti)(ha:ti.aE.agg=true)(hv:(cs.drop off).take ti.size=ds)(w:World):(part t cs.toArray off).run P w=.ok (.agg ds.toArray) w:=by
 obtain⟨i,hi,hs,_,_⟩:=ht.nt
 unfold part
 rw[Sem.run_bind,ht.ES,ha]
 simp[lN hi,hs]
 exact hv
theorem eU.st{P:Program}{t:TypeId}{d0:Nat}{xs ys:List Value}{r:Bool}{fs:Array Field}(ht:P.underlying t=some (.struct fs))(hp:P.stoodInHeld t=false)(h:hU P d0 xs ys fs.toList r):eU P t (d0+1) (.agg xs.toArray) (.agg ys.toArray) r:=fun d hd w=>by
 have hf:P.fieldsOf t=fs:=by unfold Program.fieldsOf;rw[ht]
 rw[run_equalIn_struct w d t _ _ (by rw[hf];exact ht) hp,hf]
 obtain⟨k,rfl⟩:∃k,d=k+1:=⟨d-1,by omega⟩
 exact h k yg w
theorem eU.eq{P:Program}{t:TypeId}{d0:Nat}{u v:Value}{r s:Bool}(h:eU P t d0 u v r)(e:r=s):eU P t d0 u v s:=e▸h
theorem eU.run{P:Program}{t:TypeId}{d0:Nat}{u v:Value}{r:Bool}(h:eU P t d0 u v r)(hd:d0≤9999)(w:World):(Op.equal t u v).run P w=.ok r w:=by
 unfold Op.equal
 exact h 9999 hd w
theorem VC.bZ{X:Cx}{σ:Type}(E:σ→Env)(H:σ→List HP)(I:σ→Prop){b c:Code}{e:Env}{L:List HP}{Q:Exit→Env→List HP→Prop}
  (hb:VC X b e L (Lu X E H I Q)) (hc:∀s,I s→VC X c (E s) (H s) Q):VC X b e L (MX X c Q):=
 hb.mono fun x e' L' h=>by
  cases x with
  | normal=>
   obtain⟨s,hI,hE,hH⟩:=h
   exact((hc s hI).aj hH).sub hE
  | exit id=>exact h
  | goto l=>exact h
  | ret=>exact h
  | panic ch=>exact h
  | outgrown=>exact h
end Vg
namespace Lg
open Go Vg T Api Kv
attribute [local irreducible] VO VC VA
def sZ(o:bw):Bool:=decide (o.kind=1)&&decide (dv o=0)
def nQ(e:bf):Bool:=decide (e.aL<0)||decide (6≤e.aL)||decide (e.seq<1)||(decide (dv e.op≠0)||sZ e.op)
def ir(es:List bf)(e:bf):Int:=
 if nQ e then 2 else if (4096:Int)≤es.length then 60 else if e.index≠es.length+1 then 70 else if e.seq≤(fT es e.aL).1 then 71 else 0
def kK(es:List bf)(e:bf):List bf:=if ir es e=0 then es ++ [e] else es
def oc(es:List bf)(e:bf):ik:=if ir es e=0 then (jL (bN es).1 e.index e.op).2 else cw
theorem Ts{es:List bf}{e:bf}{c:Nat}(h:c<6)(hc:e.aL=c)(x y z:Value):
  dM (x::y::z::mq es) (0+3+c*2) [.int .i64 e.seq,.int .i64 e.index]=x::y::z::mq (es ++ [e]):=by
 unfold mq
 simp only[Tn,hc]
 match c,h with
 | 0,_=>rfl
 | 1,_=>rfl
 | 2,_=>rfl
 | 3,_=>rfl
 | 4,_=>rfl
 | 5,_=>rfl
 | c+6,h=>omega
theorem BM(p:Nat)(es:List bf)(e:bf):ax Tryz.prog 155 [.pointer (some ⟨p,0,none⟩),.agg (bm e).toArray] Fr w [bL p es]
  (fun v L=>v=.tuple #[.agg (bg (oc es e)).toArray,.int .i64 (ir es e)]∧L=[bL p (kK es e)]):=by
 refine TF 107 Tryz.func155 Z yp aC Z Z ?_
 refine CS (CG (VG (VB (vs:=bm e) Z fun eb=>VG (VO.alloc Z fun rb=>?_))))
 refine VG (VN (CS (VC.block ?_)))
 refine VC.bz 2 Z (bd.log p es) ?_
 rintro x -
 have hrl:=F4 es
 unfold uc
 show VC _ _ _ [pt p (j_ es x) ud,iK x.sp (bN es).1,aq dK 7 x.a1 es.length x.c1 (flat bm es),aq gV 4 x.a2 (bN es).2.length x.c2 (flat bg (bN es).2),pt rb (bg cw) gV,pt eb (bm e) dK] _
 have back:∀{X:Cx},dd X [pt p (j_ es x) ud,iK x.sp (bN es).1,aq dK 7 x.a1 es.length x.c1 (flat bm es),aq gV 4 x.a2 (bN es).2.length x.c2 (flat bg (bN es).2),pt rb (bg cw) gV,pt eb (bm e) dK] [bL p es]:=
  (aa.log x (bb [0,0,0,0])).aj
 refine al ?_
 refine VG (VV (fun Fr w hF hs hS=>fO Fr w (hS.aA 0 Z)) Z ?_)
 refine al ?_
 refine vM ?_
 refine CS ?_
 refine VC.bZ (σ:=Unit) (fun _=>[(0,pV p),(3,pV eb),(4,pV rb),(10,.bool (nQ e))]) (fun _=>[pt p (j_ es x) ud,iK x.sp (bN es).1,aq dK 7 x.a1 es.length x.c1 (flat bm es),aq gV 4 x.a2 (bN es).2.length x.c2 (flat bg (bN es).2),pt rb (bg cw) gV,pt eb (bm e) dK]) (fun _=>True) ?_ ?_
 ·refine DX ?_
  by_cases h1:e.aL<0
  ·have hb:nQ e=true:=by simp[nQ,h1]
   refine VG (VY 14 true Z (DT h1) ?_)
   refine tq ?_
   refine VG (VY 19 true Z Z ?_)
   refine tq ?_
   refine VC.mi Z (CK ?_)
   exact⟨(),trivial,by rw[hb];exact aH,ER⟩
  refine VG (VY 14 false Z (DF h1) ?_)
  refine tq ?_
  by_cases h2:6≤e.aL
  ·have hb:nQ e=true:=by simp[nQ,h2]
   refine VG (VY 19 true Z (DT h2) ?_)
   refine tq ?_
   refine VC.mi Z (CK ?_)
   exact⟨(),trivial,by rw[hb];exact aH,ER⟩
  refine VG (VY 19 false Z (DF h2) ?_)
  refine tq ?_
  refine CP Z (fun h3=>CK ?_) (fun h3=>?_)
  ·have hb:nQ e=true:=by simp[nQ,h3]
   exact⟨(),trivial,SC Z (SC Z (SC Z (Sub.bl Z (by simp[hb,h3]) (SN _)))),ER⟩
  ·have hb:nQ e=(decide (dv e.op≠0)||sZ e.op):=by simp[nQ,h1,h2,h3]
   refine DX ?_
   refine VG (VL 5 e.op.cells Z Z Z Z ?_)
   refine VG (VO.mf (fun Fr w=>gv Fr w e.op) Z ?_)
   refine DX ?_
   by_cases h4:dv e.op=0
   ·refine VG (VY 28 false Z (by simp[h4]) ?_)
    refine tq ?_
    refine VG (VL 5 e.op.cells Z Z Z Z ?_)
    refine VG (VO.mf (fun Fr w=>Kv.Av Fr w e.op) Z ?_)
    refine tq ?_
    exact⟨(),trivial,SC Z (SC Z (SC Z (Sub.bl Z (by rw[hb];simp[sZ,h4]) (SN _)))),ER⟩
   ·refine VG (VY 28 true Z (by simp[h4]) ?_)
    refine tq ?_
    exact⟨(),trivial,SC Z (SC Z (SC Z (Sub.bl Z (by rw[hb,DT (show dv e.op≠0 from h4)];rfl) (SN _)))),ER⟩
 rintro _ -
 have fin:∀{X:Cx} {fn:Func} {E:Env} (z:Int),fn.results=#[.cell 4 gV,.tmp 5]→ir es e=z→z≠0→bR X.tab gV=some T.t141→Vg.look E 4=some (.pointer (some ⟨rb,0,none⟩))→Vg.look E 5=some (.int .i64 z) →
   an X fn (fun v L=>v=.tuple #[.agg (bg (oc es e)).toArray,.int .i64 (ir es e)]∧L=[bL p (kK es e)]) E [pt p (j_ es x) ud,iK x.sp (bN es).1,aq dK 7 x.a1 es.length x.c1 (flat bm es),aq gV 4 x.a2 (bN es).2.length x.c2 (flat bg (bN es).2),pt rb (bg cw) gV,pt eb (bm e) dK]:=fun z hr hz hne hT h4 h5=>
  an.dt 4 5 hr h4 hT (aw.many (ds:=bg cw) 4 rfl rfl) h5 back ⟨by rw[oc,if_neg (by rw[hz];exact hne),hz],by rw[kK,if_neg (by rw[hz];exact hne)]⟩
 refine CC Z (fun hb=>?_) (fun hb=>?_)
 ·refine yL ?_
  refine DY ?_
  refine al ?_
  exact CR (fin 2 Z (by rw[ir,if_pos hb]) yy Z Z Z)
 refine al ?_
 refine CP Z (fun h5=>?_) (fun h5=>?_)
 ·refine yL ?_
  refine DY ?_
  refine al ?_
  exact CR (fin 60 Z (by rw[ir,hb,if_neg yi,if_pos h5]) yy Z Z Z)
 refine CS (CD (ts 0 10 .nil) yp yr ?_)
 refine mB ?_
 refine pY ?_
 refine mB ?_
 refine VC.dp Z (fun h6=>?_) (fun h6=>?_)
 ·refine yL ?_
  refine DY ?_
  refine al ?_
  exact CR (fin 70 Z (by rw[ir,hb,if_neg yi,if_neg h5,if_pos h6]) yy Z Z Z)
 have hcl:∃c:Nat,c<6∧e.aL=c:=by
  have:¬e.aL<0∧¬6≤e.aL:=by simp[nQ] at hb;omega
  exact⟨e.aL.toNat,by omega,by omega⟩
 obtain⟨c,hc6,hcc⟩:=hcl
 obtain⟨l1,l2⟩:=KS (es:=es) (c:=c) hc6
 have q1:(j_ es x)[0+3+c*2+0]?=some (.int .i64 (fT es e.aL).1):=by rw[show 0+3+c*2+0=c*2+3 by omega,hcc];exact l1
 refine CS (CD (ts 0 12 .nil) yp yr ?_)
 refine mB ?_
 refine AG (AI Z (iL c Z Z Z Z Z hcc hc6) ?_)
 refine mB ?_
 refine AG (VA.load Z Z Z (aw.one 0 Z q1) ?_)
 refine mB ?_
 refine CP Z (fun h7=>?_) (fun h7=>CK ?_)
 ·refine yL ?_
  refine DY ?_
  refine al ?_
  exact CR (fin 71 Z (by rw[ir,hb,if_neg yi,if_neg h5,if_neg yg,if_pos h7]) yy Z Z Z)
 have hz:ir es e=0:=by rw[ir,hb,if_neg yi,if_neg h5,if_neg yg,if_neg h7]
 have hll:(bN (es ++ [e])).2.length=(bN es).2.length+1:=by rw[F5];simp[Ab]
 have hrr:oc es e=(jL (bN es).1 e.index e.op).2:=by rw[oc,if_pos hz]
 have happ:kK es e=es ++ [e]:=by rw[kK,if_pos hz]
 have hst1:(bN (es ++ [e])).1=(jL (bN es).1 e.index e.op).1:=by rw[F5];rfl
 have hst2:(bN (es ++ [e])).2=(bN es).2 ++ [(jL (bN es).1 e.index e.op).2]:=by rw[F5];rfl
 refine CS (CD (ts 0 8 (.only 8 (.only 9 .nil))) yp yr ?_)
 refine mB ?_
 refine AG (VA.dE 5 e.op.cells Z Z Z Z Z ?_)
 refine AG (AQ 1 Z (fun Fr w hF hs hS=>Kv.Ql Fr w x.sp (bN es).1 e.index e.op) Z Z (ψ:=fun v H=>v=.agg (bg (jL (bN es).1 e.index e.op).2).toArray∧H=iK x.sp (jL (bN es).1 e.index e.op).1) yz ?_ ?_)
 ·rintro _ _ ⟨rfl,rfl⟩
  exact yu
 rintro _ _ ⟨rfl,rfl⟩
 generalize (jL (bN es).1 e.index e.op).2=rr at hrr hst2 ⊢
 generalize (jL (bN es).1 e.index e.op).1=S' at hst1 ⊢
 refine AG (AT (vs:=bg rr) 4 Z Z Z Z Z (NR _) Z Z Z yu ?_)
 refine mB ?_
 refine N5 ?_
 refine mB ?_
 refine AG (VA.dE 5 (bm e) Z Z Z Z Z ?_)
 refine AG (AO (aK.buildSlice (n:=1) (pv:=[(0,.agg (bm e).toArray)]) (cells:=bm e) Z Z Z Z yy (eY Z Z Z)) Z ?_ ?_)
 ·rintro _ _ ⟨nb,rfl,rfl⟩
  exact yu
 rintro _ _ ⟨nb,rfl,rfl⟩
 refine AG (AO (aK.append (m:=1) (news:=bm e) 3 Z Z Z Z Z Z Z (dm.pt 0 Z Z Z) Z (by show(es.length+1)*72≤_;omega) yg) Z ?_ ?_)
 ·rintro _ _ ⟨a1,c1,rfl,hc1,rfl⟩
  exact yu
 rintro _ _ ⟨a1,c1,rfl,hc1,rfl⟩
 refine mB ?_
 refine AG (VA.st 2 (cs':=.pointer (some ⟨x.sp,0,none⟩) :: .slice a1 (es.length+1) c1 :: .slice x.a2 (bN es).2.length x.c2::mq es) Z Z Z Z Z (g_ Z) Z Z yu ?_)
 refine mB ?_
 refine CN (L':=[pt p (.pointer (some ⟨x.sp,0,none⟩) :: .slice a1 (es.length+1) c1 :: .slice x.a2 (bN es).2.length x.c2::mq es) ud,iK x.sp S',aq dK 7 a1 (es.length+1) c1 (flat bm es++bm e),aq gV 4 x.a2 (bN es).2.length x.c2 (flat bg (bN es).2),pt rb (bg rr) gV,pt eb (bm e) dK]) (bb [2,2,0,1,1,1]).aj ?_
 refine N5 ?_
 refine mB ?_
 refine AG (VA.dE 4 (bg rr) Z Z Z Z Z ?_)
 refine AG (AO (aK.buildSlice (n:=1) (pv:=[(0,.agg (bg rr).toArray)]) (cells:=bg rr) Z Z Z Z yy (eY Z Z Z)) Z ?_ ?_)
 ·rintro _ _ ⟨nb,rfl,rfl⟩
  exact yu
 rintro _ _ ⟨nb,rfl,rfl⟩
 refine AG (AO (aK.append (m:=1) (news:=bg rr) 4 Z Z Z Z Z Z Z (dm.pt 0 Z Z Z) Z (by show((bN es).2.length+1)*40≤_;omega) yg) Z ?_ ?_)
 ·rintro _ _ ⟨a2,c2,rfl,hc2,rfl⟩
  exact yu
 rintro _ _ ⟨a2,c2,rfl,hc2,rfl⟩
 refine mB ?_
 refine AG (VA.st 2 (cs':=.pointer (some ⟨x.sp,0,none⟩) :: .slice a1 (es.length+1) c1 :: .slice a2 ((bN es).2.length+1) c2::mq es) Z Z Z Z Z (g_ Z) Z Z yu ?_)
 refine mB ?_
 refine CN (L':=[pt p (.pointer (some ⟨x.sp,0,none⟩) :: .slice a1 (es.length+1) c1 :: .slice a2 ((bN es).2.length+1) c2::mq es) ud,iK x.sp S',aq dK 7 a1 (es.length+1) c1 (flat bm es++bm e),aq gV 4 a2 ((bN es).2.length+1) c2 (flat bg (bN es).2++bg rr),pt rb (bg rr) gV,pt eb (bm e) dK]) (bb [2,2,2,0,1,1]).aj ?_
 refine CS (CD (ts 0 11 (.only 11 .nil)) yp yr ?_)
 refine mB ?_
 refine AG (AI Z (LB (pv:=[(0,.int .i64 e.seq),(1,.int .i64 e.index)]) [.int .i64 e.seq,.int .i64 e.index] Z Z Z yp Z) ?_)
 refine mB ?_
 refine AG (AI Z (iL c Z Z Z Z Z hcc hc6) ?_)
 refine AG (AT (vs:=[.int .i64 e.seq,.int .i64 e.index]) 0 Z Z Z Z Z (by show 0+3+c*2+2≤15;omega) (Ts hc6 hcc _ _ _) Z Z yu ?_)
 refine mB ?_
 refine al ?_
 refine VG (VL 4 (bg rr) Z Z Z Z ?_)
 refine VG (VT (vs:=bg rr) 4 Z Z Z Z (NR _) Z Z Z ?_)
 refine al ?_
 have hfin:uc p (es ++ [e]) ⟨x.sp,a1,c1,a2,c2⟩=[pt p (.pointer (some ⟨x.sp,0,none⟩) :: .slice a1 (es.length+1) c1 :: .slice a2 ((bN es).2.length+1) c2::mq (es ++ [e])) ud,iK x.sp S',aq dK 7 a1 (es.length+1) c1 (flat bm es++bm e),aq gV 4 a2 ((bN es).2.length+1) c2 (flat bg (bN es).2++bg rr)]:=by
  unfold uc j_
  rw[hll,hst1,hst2,a8,fu,fu,lz,sM,lz,sM,br,br];rfl
 exact CR (an.dt 4 5 Z Z Z (aw.many (ds:=bg rr) 4 Z Z) Z (aa.log ⟨x.sp,a1,c1,a2,c2⟩ (by rw[hfin];exact IP 0 Z (IP 0 Z (IP 0 Z (IP 0 Z aa.nil))))).aj ⟨by rw[hrr,hz],by rw[happ]⟩)
end Lg
end Go.Proofs.YtkgfhabealjjpaaGreatDoor
namespace Go.Proofs
open Go.Shelf
def Tryz.Tw : Go.Shelf.Ren := ⟨fun | 171 => 42 | 243 => 89 | 246 => 136 | 283 => 208 | 284 => 209 | 285 => 210 | 286 => 211 | 129 => 207 | 317 => 259 | 318 => 260 | 319 => 261 | 320 => 262 | 337 => 283 | 338 => 284 | n => n, fun | 3 => 3 | 9 => 9 | 2 => 2 | 4 => 4 | 171 => 303 | 0 => 0 | 53 => 302 | 37 => 305 | 5 => 5 | 173 => 306 | 212 => 350 | 51 => 279 | 20 => 20 | 213 => 351 | 46 => 223 | 232 => 371 | 233 => 372 | n => n, fun | 17 => 1 | 18 => 2 | 19 => 3 | n => n⟩
theorem Tryz.Tv : Go.Proofs.LaysM.n171 Tryz.prog Tryz.Tw := {
  mixed := by kernel_rfl
  f129 := Tryz.func207.trans (congrArg some (by kernel_rfl))
  f171 := Tryz.func42.trans (congrArg some (by kernel_rfl))
  f243 := Tryz.func89.trans (congrArg some (by kernel_rfl))
  f246 := Tryz.func136.trans (congrArg some (by kernel_rfl))
  f283 := Tryz.func208.trans (congrArg some (by kernel_rfl))
  f284 := Tryz.func209.trans (congrArg some (by kernel_rfl))
  f285 := Tryz.func210.trans (congrArg some (by kernel_rfl))
  f286 := Tryz.func211.trans (congrArg some (by kernel_rfl))
  f317 := Tryz.func259.trans (congrArg some (by kernel_rfl))
  f318 := Tryz.func260.trans (congrArg some (by kernel_rfl))
  f319 := Tryz.func261.trans (congrArg some (by kernel_rfl))
  f320 := Tryz.func262.trans (congrArg some (by kernel_rfl))
  f337 := Tryz.func283.trans (congrArg some (by kernel_rfl))
  f338 := Tryz.func284.trans (congrArg some (by kernel_rfl))
  t0 := Tryz.underlying0
  a0 := Tryz.isAgg0
  z0 := Tryz.sizeOf0
  v0 := Tryz.zeroValue0
  t2 := Tryz.underlying2
  a2 := Tryz.isAgg2
  z2 := Tryz.sizeOf2
  v2 := Tryz.zeroValue2
  t3 := Tryz.underlying3
  a3 := Tryz.isAgg3
  z3 := Tryz.sizeOf3
  v3 := Tryz.zeroValue3
  t4 := Tryz.underlying4
  a4 := Tryz.isAgg4
  z4 := Tryz.sizeOf4
  v4 := Tryz.zeroValue4
  t5 := Tryz.underlying5
  a5 := Tryz.isAgg5
  z5 := Tryz.sizeOf5
  v5 := Tryz.zeroValue5
  t9 := Tryz.underlying9
  a9 := Tryz.isAgg9
  z9 := Tryz.sizeOf9
  v9 := Tryz.zeroValue9
  t20 := Tryz.underlying20
  a20 := Tryz.isAgg20
  z20 := Tryz.sizeOf20
  v20 := Tryz.zeroValue20
  t37 := Tryz.underlying305
  a37 := Tryz.isAgg305
  z37 := Tryz.sizeOf305
  v37 := Tryz.zeroValue305
  t46 := Tryz.underlying223
  a46 := Tryz.isAgg223
  z46 := Tryz.sizeOf223
  v46 := Tryz.zeroValue223
  t51 := Tryz.underlying279
  a51 := Tryz.isAgg279
  z51 := Tryz.sizeOf279
  v51 := Tryz.zeroValue279
  t53 := Tryz.underlying302
  a53 := Tryz.isAgg302
  z53 := Tryz.sizeOf302
  v53 := Tryz.zeroValue302
  t171 := Tryz.underlying303
  a171 := Tryz.isAgg303
  z171 := Tryz.sizeOf303
  v171 := Tryz.zeroValue303
  t173 := Tryz.underlying306
  a173 := Tryz.isAgg306
  z173 := Tryz.sizeOf306
  v173 := Tryz.zeroValue306
  t212 := Tryz.underlying350
  a212 := Tryz.isAgg350
  z212 := Tryz.sizeOf350
  v212 := Tryz.zeroValue350
  t213 := Tryz.underlying351
  a213 := Tryz.isAgg351
  z213 := Tryz.sizeOf351
  t232 := Tryz.underlying371
  a232 := Tryz.isAgg371
  z232 := Tryz.sizeOf371
  v232 := Tryz.zeroValue371
  t233 := Tryz.underlying372
  a233 := Tryz.isAgg372
  z233 := Tryz.sizeOf372
  v233 := Tryz.zeroValue372
  g17 := by kernel_rfl
  g18 := by kernel_rfl
  g19 := by kernel_rfl
  i0 := by kernel_rfl
  i2 := by kernel_rfl
  i3 := by kernel_rfl
  i4 := by kernel_rfl
  i5 := by kernel_rfl
  i9 := by kernel_rfl
  i20 := by kernel_rfl
  i37 := by kernel_rfl
  i46 := by kernel_rfl
  i51 := by kernel_rfl
  i53 := by kernel_rfl
  i171 := by kernel_rfl
  i173 := by kernel_rfl
  i212 := by kernel_rfl
  i232 := by kernel_rfl
  i233 := by kernel_rfl
  m17 := by kernel_rfl
  m18 := by kernel_rfl
  m19 := by kernel_rfl }
def Tryz.Q6 : Go.Shelf.Ren := ⟨fun | 5 => 197 | 7 => 253 | n => n, fun | 23 => 229 | 25 => 9 | 3 => 292 | 4 => 4 | 20 => 20 | n => n, fun | n => n⟩
theorem Tryz.Q5 : Go.Proofs.SlLaysW.n5 Tryz.prog Tryz.Q6 := {
  mixed := by kernel_rfl
  f5 := ⟨Tryz.f197.name, by decide, Tryz.func197.trans (congrArg some (by kernel_rfl))⟩
  f7 := Tryz.func253.trans (congrArg some (by kernel_rfl))
  t4 := Tryz.underlying4
  a4 := Tryz.isAgg4
  z4 := Tryz.sizeOf4
  v4 := Tryz.zeroValue4
  t20 := Tryz.underlying20
  a20 := Tryz.isAgg20
  z20 := Tryz.sizeOf20
  v20 := Tryz.zeroValue20
  t23 := Tryz.underlying229
  a23 := Tryz.isAgg229
  z23 := Tryz.sizeOf229
  v23 := Tryz.zeroValue229 }
end Go.Proofs
namespace Go.Proofs.YtkgfhabealjjpaaGreatDoor
variable (Fr : Nat → Prop) (w : World)
namespace Kv
open Go Vg T Api Go.Shelf
attribute [local irreducible] VO VC VA
theorem QK:sw Tryz.prog 197:=⟨_,Tryz.func197,by kernel_rfl,by kernel_rfl⟩
theorem Ff{κ α:Type}{c:κ→Value}{d:α→Value}{b:Nat}{xs:List (κ×α)}(Fr:Nat→Prop)(w:World)(h:qk Fr w c d b xs):
  ax Tryz.prog 197 [.map (some b)] Fr w [] (fun v L=>∃b',v=.map (some b')∧L=[fG c d b' xs]):=
 ⟨QK,fun hl hs=>by
  obtain⟨es,clock,h1,h2,h3⟩:=h.at_
  exact Calls.mono (AnyW.maps_Clone Tryz.Q5 b es clock w h1) fun e w' ⟨h4,h5⟩=>⟨_,_,h4,⟨_,Z,Z⟩,by
   subst h5
   exact⟨Sat.alloc hl _ (fG c d w.heap.size xs) ⟨rfl,es,clock,heap_alloc_new w _,h2,h3⟩ Sat.nil,eL.alloc hl _⟩⟩⟩
theorem zw{p:Nat}{S:lX}(h:a_ Fr [iK p S] w):
  ax Tryz.prog 126 [.pointer (some ⟨p,0,none⟩)] Fr w [] (fun v L=>∃p',v=.pointer (some ⟨p',0,none⟩)∧L=[iK p' S]):=by
 obtain⟨b,hp,hm⟩:=FX h
 refine TF 12 Tryz.func126 Z yp aC Z Z ?_
 refine al ?_
 refine HD ?_
 refine jR ?_
 refine DV ?_
 refine VG (VK (Lc:=[]) (fun Fr w hF hs hS=>Ff Fr w (hm.of hF hs)) Z Z ?_)
 rintro _ _ ⟨b',rfl,rfl⟩
 refine al ?_
 refine VG (VI (LB (pv:=[(0,.map (some b'))]) [.map (some b')] Z Z Z yp Z) ?_)
 refine VG (VB (vs:=[.map (some b')]) Z fun p'=>?_)
 refine al ?_
 exact CR (an.tmp 2 Z Z (aa.kv aa.refl).aj ⟨p',Z,Z⟩)
end Kv
namespace Lg
open Go Vg T Api Kv
attribute [local irreducible] VO VC VA
theorem JP{a:Option Addr}{cap:Nat}{l:List bf}(h:aT bm 7 Fr w a l)(hl:l.length≤1000000):
  ax Tryz.prog 75 [.slice a l.length cap] Fr w [] (fun v L=>∃a' c',v=.slice a' l.length c'∧L=[aq dK 7 a' l.length c' (flat bm l)]):=by
 refine TF 8 Tryz.func75 Z yp aC Z Z ?_
 cases a with
 | none=>
  obtain rfl:l=[]:=by
   cases l with
   | nil=>rfl
   | cons x l=>obtain⟨b,o,h1,_⟩:=h.at_ yi;cases h1
  refine sg ?_
  exact A1
 | some a=>
  refine jR ?_
  refine CS (CG (VG (VO.buildSlice (n:=0) (pv:=[]) [] Z Z Z Z yy Z fun b=>?_)))
  refine VO.aj (L':=[aq dK 7 (some ⟨b,0,none⟩) 0 0 []]) (aa.sl (M:=[]) (cs:=[]) (rest:=[]) Z (NR _) Z (aa.refl (L:=[pt b [] dK]))).aj ?_
  refine VG (VO.append (m:=l.length) (news:=flat bm l) 0 Z Z Z Z Z Z Z (aT.row qt h) (nZ Kb l) (by show(0+l.length)*72≤_;omega) yg fun a' c' _=>?_)
  rw[cj,mZ]
  refine al ?_
  exact xR
theorem Q7{a:Option Addr}{cap:Nat}{l:List ik}(h:aT bg 4 Fr w a l)(hl:l.length≤1000000):
  ax Tryz.prog 127 [.slice a l.length cap] Fr w [] (fun v L=>∃a' c',v=.slice a' l.length c'∧L=[aq gV 4 a' l.length c' (flat bg l)]):=by
 refine TF 8 Tryz.func127 Z yp aC Z Z ?_
 cases a with
 | none=>
  obtain rfl:l=[]:=by
   cases l with
   | nil=>rfl
   | cons x l=>obtain⟨b,o,h1,_⟩:=h.at_ yi;cases h1
  refine sg ?_
  exact A1
 | some a=>
  refine jR ?_
  refine CS (CG (VG (VO.buildSlice (n:=0) (pv:=[]) [] Z Z Z Z yy Z fun b=>?_)))
  refine VO.aj (L':=[aq gV 4 (some ⟨b,0,none⟩) 0 0 []]) (aa.sl (M:=[]) (cs:=[]) (rest:=[]) Z (NR _) Z (aa.refl (L:=[pt b [] gV]))).aj ?_
  refine VG (VO.append (m:=l.length) (news:=flat bg l) 0 Z Z Z Z Z Z Z (aT.row Mu h) (nZ Wv l) (by show(0+l.length)*40≤_;omega) yg fun a' c' _=>?_)
  rw[cj,mZ]
  refine al ?_
  exact xR
theorem zw{p:Nat}{es:List bf}(h:a_ Fr [bL p es] w)(hl:es.length≤1000000):ax Tryz.prog 73 [.pointer (some ⟨p,0,none⟩)] Fr w [] (fun v L=>∃q,v=.pointer (some ⟨q,0,none⟩)∧L=[bL q es]):=by
 obtain⟨x,hx⟩:=sC.of h
 have hb:=hx.aA
 unfold j_ at hb
 have hrl:=F4 es
 refine TF 26 Tryz.func73 Z yp aC Z Z ?_
 refine al ?_
 refine HG ?_
 refine jR ?_
 refine CS (CD (ts 0 4 (ts 5 4 (ts 10 4 (ts 15 4 (.only 4 (.only 9 (.only 14 (.take 19 (.only 20 (.take 21 .nil)))))))))) yp yr ?_)
 refine A0 ?_
 refine AG (VA.load Z Z Z (aw.jF (ds:=mq es) hb Z) ?_)
 refine AG (AO (OC (Lc:=[]) (R:=fun v L=>∃p',v=.pointer (some ⟨p',0,none⟩)∧L=[iK p' (bN es).1]) Z (.refl _) (fun Fr w hF hs hS=>Kv.zw Fr w (hx.kv.of hF hs))) Z ?_ ?_)
 ·rintro _ _ ⟨_,⟨q,rfl,rfl⟩,rfl⟩
  exact El
 rintro _ _ ⟨_,⟨q,rfl,rfl⟩,rfl⟩
 refine AG (AO (OC (Lc:=[]) (R:=fun v L=>∃a' c',v=.slice a' es.length c'∧L=[aq dK 7 a' es.length c' (flat bm es)]) Z (.refl _) (fun Fr w hF hs hS=>JP Fr w (hx.Fq.of hF hs) hl)) Z ?_ ?_)
 ·rintro _ _ ⟨_,⟨a1,c1,rfl,rfl⟩,rfl⟩
  exact El
 rintro _ _ ⟨_,⟨a1,c1,rfl,rfl⟩,rfl⟩
 refine AG (AO (OC (Lc:=[]) (R:=fun v L=>∃a' c',v=.slice a' (bN es).2.length c'∧L=[aq gV 4 a' (bN es).2.length c' (flat bg (bN es).2)]) Z (.refl _) (fun Fr w hF hs hS=>Q7 Fr w (hx.Mv.of hF hs) yg)) Z ?_ ?_)
 ·rintro _ _ ⟨_,⟨a2,c2,rfl,rfl⟩,rfl⟩
  exact El
 rintro _ _ ⟨_,⟨a2,c2,rfl,rfl⟩,rfl⟩
 refine AG (AI Z (LB (pv:=[(0,pV q),(1,.slice a1 es.length c1),(2,.slice a2 (bN es).2.length c2),(3,.agg (mq es).toArray)]) (j_ es ⟨q,a1,c1,a2,c2⟩) Z Z Z yp Z) ?_)
 refine AG (AO (aK.box (vs:=j_ es ⟨q,a1,c1,a2,c2⟩) Z Z) Z ?_ ?_)
 ·rintro _ _ ⟨pb,rfl,rfl⟩
  exact El
 rintro _ _ ⟨pb,rfl,rfl⟩
 refine bp ?_
 exact CR (an.tmp 2 Z Z (aa.log ⟨q,a1,c1,a2,c2⟩ (IP 0 Z (IP 2 Z (IP 1 Z (IP 0 Z aa.nil))))).aj ⟨pb,Z,Z⟩)
end Lg
namespace Ch
open Go Vg T Api
attribute [local irreducible] VO VC VA
abbrev cM:TypeId:=41
structure aV where
 ar:Int
 ms:List aS
 drain:Int
def aV.cells(c:aV)(a:Option Addr)(cap:Nat):List Value:=[.int .i64 c.ar,.slice a c.ms.length cap,.int .i64 c.drain]
def placeOf(ms:List aS)(n:Int):Int:=match ms.findIdx? (fun m=>decide (m.1=n)) with
 | some i=>i
 | none=>-1
theorem Md{ms:List aS}{n:Int}{i:Nat}{m:aS}(hm:ms[i]?=some m)(h:m.1=n)(hno:∀j m,j<i→ms[j]?=some m→m.1≠n):placeOf ms n=i:=by
 obtain⟨h1,h2⟩:=bP.1 hm
 have:ms.findIdx? (fun m=>decide (m.1=n))=some i:=by
  rw[List.findIdx?_eq_some_iff_getElem]
  refine⟨h1,by rw[h2];simp[h],fun j hj=>?_⟩
  have:=hno j _ hj (GE yg)
  simpa using this
 rw[placeOf,this]
theorem Vy{ms:List aS}{n:Int}(hno:∀j m,j<ms.length→ms[j]?=some m→m.1≠n):placeOf ms n=-1:=by
 have:ms.findIdx? (fun m=>decide (m.1=n))=none:=by
  rw[List.findIdx?_eq_none_iff]
  intro m hm
  obtain⟨j,h1,h2⟩:=List.getElem_of_mem hm
  have:=hno j m h1 (by rw[GE h1,h2])
  simpa using this
 rw[placeOf,this]
theorem uj(ms:List aS)(n:Int):placeOf ms n=-1∨∃(i:Nat) (m:aS),placeOf ms n=i∧i<ms.length∧ms[i]?=some m∧m.1=n:=by
 unfold placeOf
 cases h:ms.findIdx? (fun m=>decide (m.1=n)) with
 | none=>exact .inl rfl
 | some i=>
  obtain⟨h1,h2,_⟩:=List.findIdx?_eq_some_iff_getElem.1 h
  exact .inr ⟨i,ms[i],Z,h1,GE h1,by simpa using h2⟩
section
variable {c:aV} {a:Option Addr} {cap:Nat}
theorem CU{b:Nat}(hb:bq Fr w b (c.cells a cap))(h:aT aD 2 Fr w a c.ms)(hl:c.ms.length≤9223372036854775807)(n:Int):
  ax Tryz.prog 82 [.int .i64 n,.pointer (some ⟨b,0,none⟩)] Fr w [] (fun v L=>v=.int .i64 (placeOf c.ms n)∧L=[]):=by
 refine TF 20 Tryz.func82 Z yp aC Z Z ?_
 refine kl ?_
 refine VC.loop (σ:=Nat) (fun i=>[(0,.int .i64 n),(1,pV b),(7,.slice a c.ms.length cap),(8,.int .i64 c.ms.length),(9,.int .i64 i)]) (fun _=>[]) (fun i=>i≤c.ms.length∧∀j m,j<i→c.ms[j]?=some m→m.1≠n) (fun i=>c.ms.length-i) 0
  ⟨bH _,fun j m hj=>by omega⟩ aH ER ?_
 rintro i ⟨hi,hno⟩
 refine al ?_
 refine CP Z (fun h1=>CK ?_) (fun h1=>CX ?_)
 ·have hi2:i<c.ms.length:=by omega
  obtain⟨m,hm⟩:∃m,c.ms[i]?=some m:=⟨_,GE hi2⟩
  obtain⟨mb,mo,hma,ra,rc⟩:=aT.rd (X:=⟨Tryz.prog,tab,aC,20,Fr,w⟩) h hm
  subst hma
  refine uH ?_
  refine uB ?_
  refine VG (VO.alloc Z fun xb=>?_)
  refine VG (VT (vs:=aD m) 0 Z Z Z Z (NR _) Z Z Z ?_)
  refine al ?_
  refine CE Z (fun h2=>?_) (fun h2=>CK ?_)
  ·refine al ?_
   exact CR (an.tmp 3 Z Z aa.nil.aj ⟨by rw[Md hm h2 hno],Z⟩)
  ·refine jC ?_
   exact⟨i+1,⟨hi2,fun j m' hj hm'=>by
    by_cases hji:j=i
    ·subst hji;rw[hm] at hm';cases hm';exact h2
    ·exact hno j m' yg hm'⟩,by dsimp only;omega,aH,aa.nil.aj⟩
 ·obtain rfl:i=c.ms.length:=by omega
  refine al ?_
  exact CR (an.tmp 3 Z Z aa.nil.aj ⟨by rw[Vy hno],Z⟩)
theorem Me:ax Tryz.prog 37 [.agg (c.cells a cap).toArray] Fr w [] (fun v L=>∃b,v=f_ 82 [] [.pointer (some ⟨b,0,none⟩)]∧L=[pt b (c.cells a cap) cM]):=by
 refine TF 4 Tryz.func37 Z yp aC Z Z ?_
 refine CS (CG (VG (VB (vs:=c.cells a cap) Z fun b=>?_)))
 refine al ?_
 refine HH ?_
 refine al ?_
 exact CR (an.tmp 2 Z Z ER ⟨b,Z,Z⟩)
def oT(n:Int):Bool:=decide (0≤n)&&decide (n<6)
theorem LW(n:Int):ax Tryz.prog 83 [.int .i64 n] Fr w [] (fun v L=>v=.bool (oT n)∧L=[]):=by
 refine TF 9 Tryz.func83 Z yp aC Z Z ?_
 refine al ?_
 by_cases h1:0≤n
 ·refine VG (VY 5 true Z (DT h1) ?_)
  refine bG ?_
  exact CR (an.bool 2 Z Z (by simp[oT,h1]) ER ⟨rfl,Z⟩)
 ·refine VG (VY 5 false Z (DF h1) ?_)
  refine bG ?_
  exact CR (an.bool 2 Z Z (by simp[oT,h1]) ER ⟨rfl,Z⟩)
def qB(c:aV)(i:Nat):Bool:=match c.ms[i]? with
 | some m=>oT m.1&&(decide (placeOf c.ms m.1=i)&&(decide (1≤m.2)&&decide (m.2≤c.ar)))
 | none=>true
def ua(c:aV):Bool:=decide (1≤c.ar)&&(decide (c.ar≤1099511627776)&&(decide (1≤c.ms.length)&&decide (c.ms.length≤6)))
def wP(c:aV):Bool:=decide (c.drain=-1)||decide (0≤placeOf c.ms c.drain)
def lh(c:aV):Bool:=ua c&&((List.range c.ms.length).all (qB c)&&wP c)
def eN(c:aV):Int:=if lh c then 0 else 2
theorem gv(h:aT aD 2 Fr w a c.ms)(hl:c.ms.length≤9223372036854775807):ax Tryz.prog 38 [.agg (c.cells a cap).toArray] Fr w [] (fun v L=>v=.int .i64 (eN c)∧L=[]):=by
 refine TF 71 Tryz.func38 Z yp aC Z Z ?_
 refine CS (CG (VG (VB (vs:=c.cells a cap) Z fun b=>?_)))
 refine VG (VN (CS (CS ?_)))
 refine VC.bZ (σ:=Unit) (fun _=>[(1,pV b),(25,.bool (!ua c))]) (fun _=>[pt b (c.cells a cap) cM]) (fun _=>True) ?_ ?_
 ·refine al ?_
  by_cases h1:c.ar<1
  ·refine VG (VY 9 true Z (DT h1) ?_)
   refine bG ?_
   refine VG (VY 14 true Z Z ?_)
   refine bG ?_
   refine VG (VY 20 true Z Z ?_)
   refine bG ?_
   exact N7
  refine VG (VY 9 false Z (DF h1) ?_)
  refine bG ?_
  by_cases h2:1099511627776<c.ar
  ·refine VG (VY 14 true Z (DT h2) ?_)
   refine bG ?_
   refine VG (VY 20 true Z Z ?_)
   refine bG ?_
   exact N7
  refine VG (VY 14 false Z (DF h2) ?_)
  refine bG ?_
  by_cases h3:(c.ms.length:Int)<1
  ·refine VG (VY 20 true Z (DT h3) ?_)
   refine bG ?_
   exact⟨(),trivial,SC Z (Sub.bl Z (by rw[ua,DF (show ¬1≤c.ms.length by omega)];simp) (SN _)),ER⟩
  refine VG (VY 20 false Z (DF h3) ?_)
  refine bG ?_
  refine⟨(),trivial,SC Z (Sub.bl Z ?_ (SN _)),ER⟩
  have e1:decide (1≤c.ar)=true:=DT yg
  have e2:decide (c.ar≤1099511627776)=true:=DT yg
  have e3:decide (1≤c.ms.length)=true:=DT yg
  rw[ua,e1,e2,e3]
  by_cases h4:6<(c.ms.length:Int)
  ·rw[DT h4,DF (show ¬c.ms.length≤6 by omega)];rfl
  ·rw[DF h4,DT (show c.ms.length≤6 by omega)];rfl
 rintro _ -
 refine VC.fq Z (fun hh=>?_) (fun hh=>CK ?_)
 ·refine al ?_
  exact CR (an.tmp 2 Z Z aa.nil.aj ⟨by rw[eN,lh,hh];rfl,Z⟩)
 refine uI ?_
 refine A2 ?_
 rintro _ _ ⟨pb,rfl,rfl⟩
 refine dF ?_
 have hmv:∀(i:Nat),qB c i=false→i<c.ms.length→lh c=false:=fun i h1 h2=>by
  have:(List.range c.ms.length).all (qB c)=false:=by
   rw[yT];exact⟨i,tG.2 h2,by rw[h1];simp⟩
  rw[lh,this];simp
 refine VC.loop (σ:=Nat) (fun i=>[(1,pV b),(3,f_ 82 [] [.pointer (some ⟨pb,0,none⟩)]),(29,.slice a c.ms.length cap),(30,.int .i64 c.ms.length),(31,.int .i64 i)]) (fun _=>[pt pb (c.cells a cap) cM,pt b (c.cells a cap) cM]) (fun i=>i≤c.ms.length∧(List.range i).all (qB c)=true) (fun i=>c.ms.length-i) 0
  ⟨bH _,rfl⟩ aH ER ?_
 rintro i ⟨hi,hall⟩
 refine al ?_
 refine CP Z (fun h1=>CK ?_) (fun h1=>CX ?_)
 ·have hi2:i<c.ms.length:=by omega
  obtain⟨m,hm⟩:∃m,c.ms[i]?=some m:=⟨_,GE hi2⟩
  have hmo:qB c i=(oT m.1&&(decide (placeOf c.ms m.1=i)&&(decide (1≤m.2)&&decide (m.2≤c.ar)))):=by rw[qB,hm]
  obtain⟨mb,mo,hma,ra,rc⟩:=aT.rd (X:=⟨Tryz.prog,tab,aC,71,Fr,w⟩) h hm
  subst hma
  refine uH ?_
  refine uB ?_
  refine VG (VO.alloc Z fun xb=>?_)
  refine VG (VT (vs:=aD m) 0 Z Z Z Z (NR _) Z Z Z (VG (VN ?_)))
  refine CS ?_
  refine VC.bZ (σ:=Unit) (fun _=>[(1,pV b),(3,f_ 82 [] [.pointer (some ⟨pb,0,none⟩)]),(29,.slice (some ⟨mb,mo,none⟩) c.ms.length cap),(30,.int .i64 c.ms.length),(31,.int .i64 i),(59,.bool (!qB c i))]) (fun _=>[pt pb (c.cells (some ⟨mb,mo,none⟩) cap) cM,pt b (c.cells (some ⟨mb,mo,none⟩) cap) cM]) (fun _=>True) ?_ ?_
  ·have S3:∀{E:Env} {t:Bool},Vg.look E 59=some (.bool t)→t=(!qB c i)→Vg.look E 1=some (.pointer (some ⟨b,0,none⟩))→Vg.look E 3=some (f_ 82 [] [.pointer (some ⟨pb,0,none⟩)])→Vg.look E 29=some (.slice (some ⟨mb,mo,none⟩) c.ms.length cap)→Vg.look E 30=some (.int .i64 c.ms.length)→Vg.look E 31=some (.int .i64 i) →
     Sub [(1,pV b),(3,f_ 82 [] [.pointer (some ⟨pb,0,none⟩)]),(29,.slice (some ⟨mb,mo,none⟩) c.ms.length cap),(30,.int .i64 c.ms.length),(31,.int .i64 i),(59,.bool (!qB c i))] E:=fun h0 h1 h2 h3 h4 h5 h6=>SC h2 (SC h3 (SC h4 (SC h5 (SC h6 (Sub.bl h0 h1 (SN _))))))
   refine jA ?_
   refine VG (VO.mf (fun Fr w=>LW Fr w m.1) Z ?_)
   refine jA ?_
   cases hn:oT m.1 with
   | false=>
    refine xS ?_
    refine gO ?_
    refine VG (VY 48 true Z Z ?_)
    refine gO ?_
    refine VG (VY 53 true Z Z ?_)
    refine gO ?_
    exact⟨(),trivial,S3 Z (by rw[hmo,hn];rfl) Z Z Z Z Z,(bb [1,1]).aj⟩
   | true=>
   refine xT ?_
   refine gO ?_
   refine VG (VO.wG (u:=.int .i64 (placeOf c.ms m.1)) Z (fun Fr w hF hs hS=>CU Fr w (hS.aA 1 Z) (h.of hF hs) hl m.1) Z ?_)
   refine gO ?_
   by_cases h2:placeOf c.ms m.1=i
   ·refine VG (VY 48 false Z ym ?_)
    refine gO ?_
    by_cases h3:m.2<1
    ·refine VG (VY 53 true Z (DT h3) ?_)
     refine gO ?_
     exact⟨(),trivial,S3 Z (by rw[hmo,DF (show ¬1≤m.2 by omega)];simp) Z Z Z Z Z,(bb [1,1]).aj⟩
    refine VG (VY 53 false Z (DF h3) ?_)
    refine gO ?_
    exact⟨(),trivial,S3 Z (by
     rw[hmo,hn,DT h2,DT (show 1≤m.2 by omega)]
     by_cases h4:c.ar<m.2
     ·rw[DT h4,DF (show ¬m.2≤c.ar by omega)];rfl
     ·rw[DF h4,DT (show m.2≤c.ar by omega)];rfl) rfl rfl rfl rfl rfl,(bb [1,1]).aj⟩
   ·refine VG (VY 48 true Z ym ?_)
    refine gO ?_
    refine VG (VY 53 true Z Z ?_)
    refine gO ?_
    exact⟨(),trivial,S3 Z (by rw[hmo,DF h2];simp) Z Z Z Z Z,(bb [1,1]).aj⟩
  rintro _ -
  refine VC.fq Z (fun hb=>?_) (fun hb=>CK ?_)
  ·refine al ?_
   exact CR (an.tmp 2 Z Z aa.nil.aj ⟨by rw[eN,hmv i hb hi2];rfl,Z⟩)
  ·refine jC ?_
   exact⟨i+1,⟨hi2,by rw[tH,List.all_append,hall];simp[hb]⟩,by dsimp only;omega,aH,ER⟩
 ·obtain rfl:i=c.ms.length:=by omega
  have hce:eN c=if wP c then 0 else 2:=by rw[eN,lh,hh,hall];simp
  refine dF ?_
  by_cases hd:c.drain=-1
  ·refine VG (VY 64 false Z (by simp[hd]) ?_)
   refine dG ?_
   refine fV ?_
   refine al ?_
   exact CR (an.tmp 2 Z Z aa.nil.aj ⟨by rw[hce,wP,DT hd];rfl,Z⟩)
  ·refine VG (VY 64 true Z (by simp[hd]) ?_)
   refine dG ?_
   refine VG (VO.wG (u:=.int .i64 (placeOf c.ms c.drain)) Z (fun Fr w hF hs hS=>CU Fr w (hS.aA 0 Z) (h.of hF hs) hl c.drain) Z ?_)
   refine dG ?_
   refine CP Z (fun h5=>?_) (fun h5=>CK ?_)
   ·refine al ?_
    exact CR (an.tmp 2 Z Z aa.nil.aj ⟨by rw[hce,wP,DF hd,DF yg];rfl,Z⟩)
   ·refine al ?_
    exact CR (an.tmp 2 Z Z aa.nil.aj ⟨by rw[hce,wP,DT (show 0≤placeOf c.ms c.drain by omega)];simp,Z⟩)
def pK(c:aV)(i:Int):Int:=if lh c∧0≤i∧i<c.ms.length then ((c.ms[i.toNat]?).getD (0,0)).1 else -1
theorem Cy(h:aT aD 2 Fr w a c.ms)(hl:c.ms.length≤9223372036854775807)(i:Int):ax Tryz.prog 220 [.agg (c.cells a cap).toArray,.int .i64 i] Fr w [] (fun v L=>v=.int .i64 (pK c i)∧L=[]):=by
 refine TF 25 Tryz.func220 Z yp aC Z Z ?_
 refine CS (CG (VG (VB (vs:=c.cells a cap) Z fun b=>?_)))
 refine uI ?_
 refine VG (VV (fun Fr w hF hs hS=>gv Fr w (h.of hF hs) hl) Z ?_)
 refine al ?_
 cases hc:lh c with
 | false=>
  refine VG (VY 8 true Z Em ?_)
  refine bG ?_
  refine VG (VY 12 true Z Z ?_)
  refine sd ?_
  exact CR (an.tmp 4 Z Z aa.nil.aj ⟨by rw[pK,if_neg (by rw[hc];simp)],Z⟩)
 | true=>
 refine VG (VY 8 false Z Em ?_)
 refine bG ?_
 by_cases h1:i<0
 ·refine VG (VY 12 true Z (DT h1) ?_)
  refine sd ?_
  exact CR (an.tmp 4 Z Z aa.nil.aj ⟨by rw[pK,if_neg yg],Z⟩)
 refine VG (VY 12 false Z (DF h1) ?_)
 refine bG ?_
 refine CP Z (fun h2=>?_) (fun h2=>CK ?_)
 ·refine al ?_
  exact CR (an.tmp 4 Z Z aa.nil.aj ⟨by rw[pK,if_neg yg],Z⟩)
 ·obtain⟨k,rfl⟩:∃k:Nat,i=k:=⟨i.toNat,by omega⟩
  have hk:k<c.ms.length:=by omega
  obtain⟨m,hm⟩:∃m,c.ms[k]?=some m:=⟨_,GE hk⟩
  obtain⟨mb,mo,hma,ra,rc⟩:=aT.rd (X:=⟨Tryz.prog,tab,aC,25,Fr,w⟩) h hm
  subst hma
  refine al ?_
  refine A3 ?_
  refine al ?_
  refine xU ?_
  refine al ?_
  exact CR (an.tmp 4 Z Z aa.nil.aj ⟨by rw[pK,if_pos ⟨hc,by omega,by omega⟩,ea,hm];rfl,Z⟩)
def t_(c:aV):Int:=pK c 0
def vL(c:aV):Int:=pK c (c.ms.length-1)
def CI(c:aV)(n:Int):Int:=if placeOf c.ms n<0 then -1 else pK c (placeOf c.ms n+1)
def Ao(c:aV)(n:Int):Int:=pK c (placeOf c.ms n-1)
def bU(c:aV)(n:Int):Int×Bool:=if lh c∧0≤placeOf c.ms n then (((c.ms[(placeOf c.ms n).toNat]?).getD (0,0)).2,true) else (0,false)
theorem zP(h:aT aD 2 Fr w a c.ms)(hl:c.ms.length≤9223372036854775807):ax Tryz.prog 152 [.agg (c.cells a cap).toArray] Fr w [] (fun v L=>v=.int .i64 (t_ c)∧L=[]):=by
 refine TF 5 Tryz.func152 Z yp aC Z Z ?_
 refine CS (CG (VG (VB (vs:=c.cells a cap) Z fun b=>?_)))
 refine uI ?_
 refine VG (VV (fun Fr w hF hs hS=>Cy Fr w (h.of hF hs) hl 0) Z ?_)
 refine al ?_
 exact qS
theorem AJ(h:aT aD 2 Fr w a c.ms)(hl:c.ms.length≤9223372036854775807):ax Tryz.prog 213 [.agg (c.cells a cap).toArray] Fr w [] (fun v L=>v=.int .i64 (vL c)∧L=[]):=by
 refine TF 9 Tryz.func213 Z yp aC Z Z ?_
 refine CS (CG (VG (VB (vs:=c.cells a cap) Z fun b=>?_)))
 refine uI ?_
 refine al ?_
 refine pZ ?_
 refine VG (VV (fun Fr w hF hs hS=>Cy Fr w (h.of hF hs) hl (c.ms.length-1)) Z ?_)
 refine al ?_
 exact qS
theorem sU(h:aT aD 2 Fr w a c.ms)(hl:c.ms.length≤1000000)(n:Int):ax Tryz.prog 230 [.agg (c.cells a cap).toArray,.int .i64 n] Fr w [] (fun v L=>v=.int .i64 (CI c n)∧L=[]):=by
 have hp:=uj c.ms n
 refine TF 16 Tryz.func230 Z yp aC Z Z ?_
 refine CS (CG (VG (VB (vs:=c.cells a cap) Z fun b=>?_)))
 refine uI ?_
 refine A2 ?_
 rintro _ _ ⟨pb,rfl,rfl⟩
 refine al ?_
 refine DZ ?_
 refine al ?_
 refine CP Z (fun h1=>?_) (fun h1=>CK ?_)
 ·refine al ?_
  exact CR (an.tmp 4 Z Z aa.nil.aj ⟨by rw[CI,if_pos h1],Z⟩)
 ·have hpl:placeOf c.ms n<1000000:=by
   rcases hp with hp | ⟨i,m,h2,h3,_⟩<;>omega
  refine al ?_
  refine vP ?_
  refine uG ?_
  refine VG (VV (fun Fr w hF hs hS=>Cy Fr w (h.of hF hs) yg (placeOf c.ms n+1)) Z ?_)
  refine al ?_
  exact CR (an.tmp 4 Z Z aa.nil.aj ⟨by rw[CI,if_neg h1],Z⟩)
theorem C0(h:aT aD 2 Fr w a c.ms)(hl:c.ms.length≤1000000)(n:Int):ax Tryz.prog 246 [.agg (c.cells a cap).toArray,.int .i64 n] Fr w [] (fun v L=>v=.int .i64 (Ao c n)∧L=[]):=by
 have hp:=uj c.ms n
 have hpl:-1≤placeOf c.ms n∧placeOf c.ms n<1000000:=by
  rcases hp with hp | ⟨i,m,h2,h3,_⟩<;>omega
 refine TF 12 Tryz.func246 Z yp aC Z Z ?_
 refine CS (CG (VG (VB (vs:=c.cells a cap) Z fun b=>VG ?_)))
 refine gm ?_
 refine CS (CD (.take 0 (.take 1 (.take 3 (.only 2 (.only 4 (.take 5 (.only 6 (.take 7 .nil)))))))) yp yr ?_)
 refine AG (VA.dE 0 (c.cells a cap) Z Z Z Z Z ?_)
 refine AG (VA.dE 0 (c.cells a cap) Z Z Z Z Z ?_)
 refine bp ?_
 refine AG (AO (OC (Lc:=[]) (R:=fun v L=>∃b,v=f_ 82 [] [.pointer (some ⟨b,0,none⟩)]∧L=[pt b (c.cells a cap) cM]) Z (.refl _) (fun Fr w hF hs hS=>Me Fr w)) Z ?_ ?_)
 ·rintro _ _ ⟨_,⟨pb,rfl,rfl⟩,rfl⟩
  exact yu
 rintro _ _ ⟨_,⟨pb,rfl,rfl⟩,rfl⟩
 refine AG (VA.wG (u:=.int .i64 (placeOf c.ms n)) Z (fun Fr w hF hs hS=>CU Fr w (hS.aA 0 Z) (h.of hF hs) yg n) Z Z yu ?_)
 refine xV ?_
 refine AG (AR (fun Fr w hF hs hS=>Cy Fr w (h.of hF hs) yg (placeOf c.ms n-1)) Z Z yu ?_)
 refine bp ?_
 exact CR (an.tmp 4 Z Z aa.nil.aj ⟨rfl,Z⟩)
theorem Dg(h:aT aD 2 Fr w a c.ms)(hl:c.ms.length≤1000000)(n:Int):ax Tryz.prog 10 [.agg (c.cells a cap).toArray,.int .i64 n] Fr w [] (fun v L=>v=.tuple #[.int .i64 (bU c n).1,.bool (bU c n).2]∧L=[]):=by
 have hp:=uj c.ms n
 refine TF 24 Tryz.func10 Z yp aC Z Z ?_
 refine CS (CG (VG (VB (vs:=c.cells a cap) Z fun b=>?_)))
 refine uI ?_
 refine A2 ?_
 rintro _ _ ⟨pb,rfl,rfl⟩
 refine al ?_
 refine DZ ?_
 refine al ?_
 refine vP ?_
 refine VG (VV (fun Fr w hF hs hS=>gv Fr w (h.of hF hs) yg) Z ?_)
 refine al ?_
 cases hc:lh c with
 | false=>
  refine VG (VY 14 true Z Em ?_)
  refine sd ?_
  exact CR (an.cV 4 5 Z Z Z aa.nil.aj ⟨by rw[bU,if_neg (by rw[hc];simp)],Z⟩)
 | true=>
 refine VG (VY 14 false Z Em ?_)
 refine bG ?_
 refine CP Z (fun h1=>?_) (fun h1=>CK ?_)
 ·refine al ?_
  exact CR (an.cV 4 5 Z Z Z aa.nil.aj ⟨by rw[bU,if_neg yg],Z⟩)
 ·rcases hp with hp | ⟨k,m,h2,h3,h4,h5⟩
  ·omega
  obtain⟨mb,mo,hma,ra,rc⟩:=aT.rd (X:=⟨Tryz.prog,tab,aC,24,Fr,w⟩) h h4
  subst hma
  refine dF ?_
  refine VG (VI (eE k Z Z Z Z Z h2 h3) ?_)
  refine dF ?_
  refine VG (VD Z Z (rc _ _ 1 _ Z Z) ?_)
  refine al ?_
  exact CR (an.cV 4 5 Z Z Z aa.nil.aj ⟨by rw[bU,if_pos ⟨hc,by omega⟩,h2,ea,h4];rfl,Z⟩)
end
end Ch
namespace Rd
open Go Vg T Api Kv Ch
attribute [local irreducible] VO VC VA
theorem kk{n k b M:Nat}(h:n≤k)(hk:k*b≤M):n*b≤M:=ph (sv b h) hk
def cF(f:aB)(m:jk):List Value:=f.cells m
abbrev cq:TypeId:=188
structure uU where
 id:Int
 f:aB
 r:ik
abbrev q_:=uU×jk
def dq(x:q_):List Value:=.int .i64 x.1.id::(cF x.1.f x.2++bg x.1.r)
theorem Ap(x:q_):(dq x).length=34:=rfl
abbrev eJ:TypeId:=201
abbrev Ar:TypeId:=182
structure eW where
 cap:Int
 last:Int
 l:List uU
structure wB where
 a:Option Addr
 c:Nat
 rows:List q_
def sY(R:eW)(x:wB):List Value:=[.int .i64 R.cap,.int .i64 R.last,.slice x.a x.rows.length x.c]
def uo(p:Nat)(R:eW)(x:wB):List HP:=[pt p (sY R x) Ar,aq eJ 34 x.a x.rows.length x.c (flat dq x.rows)]
def wA(R:eW)(x:wB):Prop:=x.rows.map Prod.fst=R.l
def bC(p:Nat)(R:eW):HP:=hex fun x=>bF (kI (wA R x)::uo p R x)
structure BD(Fr:Nat→Prop)(w:World)(p:Nat)(R:eW)(x:wB):Prop where
 ok:wA R x
 aA:bq Fr w p (sY R x)
 rows:aT dq 34 Fr w x.a x.rows
theorem BD.of{Fr:Nat→Prop}{w:World}{p:Nat}{R:eW}(h:a_ Fr [bC p R] w):∃x,BD Fr w p R x:=by
 obtain⟨x,h⟩:=h.ex
 have h:=h.sep
 exact⟨x,h.pure 0 Z,h.aA 1 Z,aT.aq Ap (h.at_ 2 Z)⟩
theorem bd.aQ(p:Nat)(R:eW):bd (bC p R) (fun x=>wA R x) (fun x=>uo p R x):=by
 rintro w ids ⟨s,h⟩ hn
 obtain⟨F,G,rfl,⟨rfl,h1⟩,h2⟩:=h
 exact D0
theorem aa.aQ{p:Nat}{R:eW}{L M:List HP}(x:wB)(hs:wA R x)(h:aa L (uo p R x++M)):aa L (bC p R::M):=
 aa.ex x (aa.sep (aa.trans h (aa.app (L:=uo p R x) (M:=_::uo p R x) (aa.pure hs aa.refl) aa.refl)))
theorem wA.len{R:eW}{x:wB}(h:wA R x):x.rows.length=R.l.length:=by rw[←h];simp
def eW.new(cap:Int):eW:=⟨cap,0,[]⟩
theorem lK{c:Int}(h0:1≤c)(h1:c≤16):ax Tryz.prog 47 [.int .i64 c] Fr w [] (fun v L=>∃q,v=.tuple #[.pointer (some ⟨q,0,none⟩),.int .i64 0]∧L=[bC q (eW.new c)]):=by
 refine TF 13 Tryz.func47 Z yp aC Z Z ?_
 refine al ?_
 refine VG (VY 6 false Z (DF yg) ?_)
 refine bG ?_
 refine CP Z (fun h=>by omega) (fun _=>CK ?_)
 refine al ?_
 refine VG (VI (LB (pv:=[(0,.int .i64 c)]) (sY (eW.new c) ⟨none,0,[]⟩) Z Z Z yp Z) ?_)
 refine VG (VB (vs:=sY (eW.new c) ⟨none,0,[]⟩) Z fun q=>?_)
 refine al ?_
 exact CR (an.cV 2 3 Z Z Z (aa.aQ (R:=eW.new c) ⟨none,0,[]⟩ Z (IP 0 Z (aa.cK aa.nil))).aj ⟨q,Z,Z⟩)
section
variable {p:Nat} {R:eW}
theorem fO{c:Int}{cs:List Value}(h:bq Fr w p (.int .i64 c::cs))(hc:1≤c):ax Tryz.prog 123 [.pointer (some ⟨p,0,none⟩)] Fr w [] (fun v L=>v=.bool false∧L=[]):=by
 refine TF 12 Tryz.func123 Z yp aC Z Z ?_
 refine al ?_
 refine VG (VO.split 5 rfl rfl (fun h=>by cases h) (fun _=>?_))
 refine ow ?_
 exact CR (an.bool 2 Z Z yh ER ⟨rfl,Z⟩)
theorem kJ(h:a_ Fr [bC p R] w)(hc:1≤R.cap):ax Tryz.prog 70 [.pointer (some ⟨p,0,none⟩)] Fr w [] (fun v L=>v=.int .i64 R.l.length∧L=[]):=by
 obtain⟨x,hx⟩:=BD.of h
 have hb:=hx.aA
 have hlen:=hx.ok.len
 refine TF 10 Tryz.func70 Z yp aC Z Z ?_
 refine al ?_
 refine VG (VV (fun Fr w hF hs _=>fO Fr w (hb.of hF hs) hc) Z ?_)
 refine jR ?_
 refine kl ?_
 exact CR (an.int 2 Z Z (by rw[hlen]) ER ⟨rfl,Z⟩)
def eW.pH(R:eW):Int:=match R.l.getLast? with
 | some x=>x.id
 | none=>0
theorem qz(h:a_ Fr [bC p R] w)(hc:1≤R.cap)(hl:R.l.length≤1000000):ax Tryz.prog 165 [.pointer (some ⟨p,0,none⟩)] Fr w [] (fun v L=>v=.tuple #[.int .i64 R.pH,.bool (!R.l.isEmpty)]∧L=[]):=by
 obtain⟨x,hx⟩:=BD.of h
 have hb:=hx.aA
 have hlen:=hx.ok.len
 refine TF 20 Tryz.func165 Z yp aC Z Z ?_
 refine al ?_
 refine VG (VV (fun Fr w hF hs _=>kJ Fr w (h.of hF hs) hc) Z ?_)
 refine al ?_
 refine CE Z (fun h1=>?_) (fun h1=>CK ?_)
 ·have h0:R.l=[]:=iC yg
  refine al ?_
  exact CR (an.cV 2 3 Z Z Z ER ⟨by rw[eW.pH,h0];rfl,Z⟩)
 ·have hpos:0<x.rows.length:=by omega
  obtain⟨y,hy⟩:∃y,x.rows[x.rows.length-1]?=some y:=⟨_,GE yg⟩
  have hgl:R.l.getLast?=some y.1:=by rw[yW,←hx.ok,dH,cY,hy];rfl
  obtain⟨eb,eo,hea,ra,rc⟩:=aT.rd (X:=⟨Tryz.prog,tab,aC,20,Fr,w⟩) hx.rows hy
  have hb2:bq Fr w p [.int .i64 R.cap,.int .i64 R.last,.slice (some ⟨eb,eo,none⟩) x.rows.length x.c]:=by rw[←hea];exact hb
  refine CS (CD (ts 0 15 .nil) yp yr ?_)
  (repeat(first|refine yG (yN ?_)|refine yG (yE rfl rfl rfl (aw.aA hb2 rfl) ?_)))
  refine xV ?_
  refine AG (AI Z (eE (x.rows.length-1) Z Z Z Z Z yg yg) ?_)
  refine bp ?_
  refine AG (VA.load Z Z Z (rc _ _ 0 _ Z Z) ?_)
  refine bp ?_
  exact CR (an.cV 2 3 Z Z Z ER ⟨by
   rw[eW.pH,hgl]
   cases hR:R.l with
   | nil=>exfalso;apply h1;rw[hR];rfl
   | cons _ _=>rfl,rfl⟩)
end
theorem Ff{a:Option Addr}{cap:Nat}{l:List aS}(h:aT aD 2 Fr w a l)(hl:l.length≤1000000):
  ax Tryz.prog 249 [.slice a l.length cap] Fr w [] (fun v L=>∃a' c',v=.slice a' l.length c'∧L=[aq aP 2 a' l.length c' (flat aD l)]):=by
 refine TF 8 Tryz.func249 Z yp aC Z Z ?_
 cases a with
 | none=>
  obtain rfl:l=[]:=by
   cases l with
   | nil=>rfl
   | cons x l=>obtain⟨b,o,h1,_⟩:=h.at_ yi;cases h1
  refine sg ?_
  exact A1
 | some a=>
  refine jR ?_
  refine CS (CG (VG (VO.buildSlice (n:=0) (pv:=[]) [] Z Z Z Z yy Z fun b=>?_)))
  refine HJ ?_
  refine VG (VO.append (m:=l.length) (news:=flat aD l) 0 Z Z Z Z Z Z Z (aT.row cu h) (nZ vq _) En yg fun a' c' _=>?_)
  rw[cj,mZ]
  refine al ?_
  exact xR
theorem CQ(f:aB){a:Option Addr}{cap:Nat}{ms:List aS}(h:aT aD 2 Fr w a ms)(hl:ms.length≤1000000):ax Tryz.prog 276 [.agg (cF f (a,ms.length,cap)).toArray] Fr w [] (fun v L=>(∃m,v=.agg (cF f m).toArray)∧L=[]):=by
 refine TF 10 Tryz.func276 Z yp aC Z Z ?_
 refine CS (CG (VG (VB (vs:=cF f (a,ms.length,cap)) Z (fun b=>VG (VO.alloc Z fun c=>VG (VN ?_))))))
 refine dF ?_
 refine VG (VK (Lc:=[]) (fun Fr w hF hs _=>Ff Fr w (h.of hF hs) hl) Z Z ?_)
 rintro _ _ ⟨a',c',rfl,rfl⟩
 refine VG (VO.st 2 (cs':=cF f (a',ms.length,c')) Z Z Z Z (by show 24<29;omega) Z Z (VG (VN ?_)))
 refine CS (CG (VG (VL 2 (cF f (a',ms.length,c')) Z Z Z Z (VG (VT (vs:=cF f (a',ms.length,c')) (cs':=cF f (a',ms.length,c')) 1 Z Z Z Z (NR _) Z Z Z (VG (VN ?_)))))))
 exact CR (an.cell 2 Z Z Z (aw.many 1 Z Z) aa.nil.aj ⟨⟨_,Z⟩,Z⟩)
def eW.put(R:eW)(f:aB)(r:ik):eW:=if (R.l.length:Int)<R.cap then { R with last:=R.last+1,l:=R.l ++ [⟨R.last+1,f,r⟩] } else R
theorem Wg(p:Nat)(R:eW)(hc:1≤R.cap)(hc1:R.cap≤16)(h0:0≤R.last)(h1:R.last≤1000000000)(f:aB){a:Option Addr}{cap:Nat}{ms:List aS}(h:aT aD 2 Fr w a ms)(hl:ms.length≤1000000)(r:ik):
  ax Tryz.prog 240 [.pointer (some ⟨p,0,none⟩),.agg (cF f (a,ms.length,cap)).toArray,.agg (bg r).toArray] Fr w [bC p R]
   (fun v L=>v=(if (R.l.length:Int)<R.cap then .tuple #[.int .i64 (R.last+1),.int .i64 0] else .tuple #[.int .i64 0,.int .i64 60])∧L=[bC p (R.put f r)]):=by
 refine TF 50 Tryz.func240 Z yp aC Z Z ?_
 refine CS (CG (VG (VB (vs:=cF f (a,ms.length,cap)) Z fun fb=>VG (VB (vs:=bg r) Z fun rb=>VG (VN ?_)))))
 refine VC.bz 2 Z (bd.aQ p R) ?_
 rintro x hx
 have hlen:=hx.len
 unfold uo
 show VC _ _ _ [pt p (sY R x) Ar,aq eJ 34 x.a x.rows.length x.c (flat dq x.rows),pt rb (bg r) 141,pt fb (cF f (a,ms.length,cap)) cq] _
 refine al ?_
 refine VG (VV (fun Fr w hF hs hS=>fO Fr w (hS.aA 0 Z) hc) Z ?_)
 refine al ?_
 refine vM ?_
 refine CS (CD (ts 0 11 .nil) yp yr ?_)
 refine bp ?_
 by_cases hfull:(R.l.length:Int)<R.cap
 ·refine CP Z (fun h=>by omega) (fun _=>CK ?_)
  refine uG ?_
  refine VG (VO.st 0 (cs':=[.int .i64 R.cap,.int .i64 (R.last+1),.slice x.a x.rows.length x.c]) Z Z Z Z (g_ Z) Z Z ?_)
  refine gm ?_
  refine CS (CD (ts 0 10 (.take 11 (.only 10 (.take 12 (.only 13 (.only 14 (ts 15 2 (.only 17 .nil)))))))) yp yr ?_)
  refine bp ?_
  refine AG (VA.dE 3 (cF f (a,ms.length,cap)) Z Z Z Z Z ?_)
  refine AG (VA.dE 2 (bg r) Z Z Z Z Z ?_)
  refine AG (VA.eB (φ:=fun v=>∃m,v=.agg (cF f m).toArray) (fun Fr w hF hs hS=>CQ Fr w f (h.of hF hs) hl) Z Z yu ?_)
  rintro _ ⟨m,rfl⟩
  refine AG (AI Z (LB (pv:=[(0,.int .i64 (R.last+1)),(1,.agg (cF f m).toArray),(2,.agg (bg r).toArray)]) (dq (⟨R.last+1,f,r⟩,m)) Z Z Z yp Z) ?_)
  refine AG (AO (aK.buildSlice (n:=1) (pv:=[(0,.agg (dq (⟨R.last+1,f,r⟩,m)).toArray)]) (cells:=dq (⟨R.last+1,f,r⟩,m)) Z Z Z Z yy (eY Z Z Z)) Z ?_ ?_)
  ·rintro _ _ ⟨nb,rfl,rfl⟩
   exact yu
  rintro _ _ ⟨nb,rfl,rfl⟩
  refine AG (AO (aK.append (m:=1) (news:=dq (⟨R.last+1,f,r⟩,m)) 2 Z Z Z Z Z Z Z (dm.pt 0 Z Z Z) Z (kk (k:=101) yg yy) yg) Z ?_ ?_)
  ·rintro _ _ ⟨a1,c1,rfl,hc1,rfl⟩
   exact yu
  rintro _ _ ⟨a1,c1,rfl,hc1,rfl⟩
  refine r6 ?_
  refine AG (VA.st 2 (cs':=[.int .i64 R.cap,.int .i64 (R.last+1),.slice a1 (x.rows.length+1) c1]) Z Z Z Z Z (g_ Z) Z Z yu ?_)
  refine r6 ?_
  refine jA ?_
  have hput:R.put f r={ R with last:=R.last+1,l:=R.l ++ [⟨R.last+1,f,r⟩] }:=by rw[eW.put,if_pos hfull]
  refine CR (an.cV 6 7 Z Z Z (aa.aQ ⟨a1,c1,x.rows ++ [(⟨R.last+1,f,r⟩,m)]⟩ (R:=R.put f r) ?_ ?_).aj ⟨by rw[if_pos hfull],Z⟩)
  ·rw[hput];show List.map _ _=_;rw[gn,hx];rfl
  ·rw[hput]
   unfold uo sY
   rw[a8,fu,lz,sM,br]
   exact(bb [2,0])
 ·refine CP Z (fun h=>?_) (fun h=>by omega)
  have hput:R.put f r=R:=by rw[eW.put,if_neg hfull]
  refine al ?_
  exact CR (an.cV 6 7 Z Z Z (aa.aQ x hx (IP 0 Z (IP 0 Z aa.nil))).aj ⟨by rw[if_neg hfull],by rw[hput]⟩)
end Rd
namespace Vg
open Go
structure Ext(P:Program)(f:FuncId)(fn:Func)(g:Array Value→Sem Value):Prop where
 at_:P.funcs[f]?=some fn
 nm:(fn.name == "runtime.NumGoroutine")=false
 nb:fn.body.isNone=true
 nn:Extern.findNext fn=none
 ex:Extern.find fn=some g
theorem Ke(a:Act)(f:FuncId)(args:Array Operand)(tys:Array TypeId)(dst:Option Tmp)(ty:TypeId)(pos:String)(after:Array Edge)(guard:Option (Nat×Bool)):
  execOp a.eval ⟨dst,.call ⟨.value (.func f),args,tys⟩,ty,pos,after,guard⟩=callFunc f (args.map a.eval):=by
 have ef:a.eval (.func f)=.func (.func f) #[] #[]:=rfl
 unfold execOp
 simp[resolve,Deferred.ofValue,invoke,ef]
section
variable {X:Cx} {e:Env} {L:List HP}
end
theorem Th{Fr:Nat→Prop}{B:Nat}{w w':World}(hF:∀b,Fr b→b<B)(h:RowKit.Below B w w')(hd:sA w w'):eL Fr w w':=⟨h.os,h.tape,h.output,h.size,fun b hb=>h.block b (hF b hb),hd⟩
theorem ax.U5{P:Program}{f:FuncId}{args:List Value}{Fr:Nat→Prop}{w:World}{u:Value}(hc:sw P f)(h:Calls P f args.toArray w fun e w'=>e=.returned u∧RowKit.Below w.heap.size w w'∧sA w w'):
  ax P f args Fr w [] (fun v L=>v=u∧L=[]):=
 ⟨hc,fun hl _=>Calls.mono h fun e w' ⟨h1,h2⟩=>⟨u,[],h1,⟨rfl,rfl⟩,Sat.nil,Th hl h2.1 h2.2⟩⟩
theorem ax.U6{P:Program}{f:FuncId}{args:List Value}{Fr:Nat→Prop}{w:World}{u:Value}(hc:sw P f)(h:Calls P f args.toArray w fun e w'=>e=.returned u∧∃k os,w'=Sort.grow (w.drewN k) os):
  ax P f args Fr w [] (fun v L=>v=u∧L=[]):=
 ax.U5 hc (Calls.mono h fun e w' ⟨h1,k,os,h2⟩=>⟨h1,by
  subst h2
  exact⟨⟨rfl,Z,Z,by show w.heap.size≤(w.heap++os).size;rw[Array.size_append];omega,fun j hj=>by
   show(w.heap++os)[j]?=w.heap[j]?
   rw[Bn,if_pos hj]⟩,sA.up (Nat.le_add_right _ _)⟩⟩)
structure wD(P:Program)(Fr:Nat→Prop)(w:World)(nm:String)(k:IntKind)(zs:List Int):Prop where
 fr:∃g,P.globalNamed nm=some g∧Fr g
 is:Lib.TabIs P w nm k zs
theorem wD.cP{P:Program}{Fr Fr':Nat→Prop}{w w':World}{nm:String}{k:IntKind}{zs:List Int}(h:wD P Fr w nm k zs)(hF:∀b,Fr b→Fr' b)(hk:eL Fr w w'):wD P Fr' w' nm k zs:=by
 obtain⟨⟨g,hg,hf⟩,hi⟩:=h
 refine⟨⟨g,hg,hF g hf⟩,?_⟩
 unfold Lib.TabIs World.var? at hi ⊢
 rw[hg] at hi ⊢
 simp only[jS] at hi ⊢
 rw[hk.block g hf];exact hi
section
variable {X:Cx} {ops:Array Oper} {G:GS} {l:List Oper} {pl:iE} {S:kA} {e:Env} {L:List HP} {K:Env→List HP→Prop}
  {dst:Option Tmp} {ty:TypeId} {pos:String} {after:Array Edge} {guard:Option (Nat×Bool)}
end
end Vg
namespace Vg
open Go
section
variable {tB:TypeId}
end
theorem RL.Ok.ld{α:Type}{c:α→List Value}{n t:Nat}{r:RL α}(h:r.Ok c n){k:Nat}{x:α}(hx:r.xs[k]?=some x)(hc:(c x).length=n):∃b off,r.aA=some b∧r.addr=some ⟨b,off,Option.none⟩ ∧
  ∀{X:Cx} {L:List HP} (i:Nat),L[i]?=some (r.h t)→(∀ti:TI,n=ti.size→ti.aE.agg=true→aw X L ti b (off+k*n) (.agg (c x).toArray)) ∧
   ∀(ti:TI) (j:Nat) (v:Value),ti.aE.agg=false→(c x)[j]?=some v→aw X L ti b (off+k*n+j) v:=by
 obtain⟨b,off,h1,h2,h3⟩:=h.nth hx
 refine⟨b,off,h1,h2,fun {X L} i hL=>?_⟩
 rw[RL.KA h1] at hL
 refine⟨fun ti hn ha=>aw.many i hL (by rw[←hn];exact h3) (by rw[hc,hn]) ha,fun ti j v ha hv=>aw.one i hL ?_ ha⟩
 rw[←h3,ss] at hv
 split at hv
 ·rw[qY] at hv;exact hv
 ·cases hv
end Vg
namespace Rd
open Go Vg T Api Kv Ch
attribute [local irreducible] VO VC VA
theorem Jp{Fr Fr':Nat→Prop}{w w':World}{b:Nat}{cs:List Value}(h:bq Fr w b cs)(hF:∀b,Fr b→Fr' b)(hk:eL Fr w w'):bq Fr' w' b cs:=by
 obtain⟨t,fz,ht⟩:=h.at_
 exact⟨hF b h.fr,t,fz,by rw[hk.block b h.fr];exact ht⟩
theorem AK(p:Nat)(R:eW)(hc:1≤R.cap)(hl:R.l.length≤100)(g:FuncId)(capt:List Value)(st:uU→Bool)
  (hg:∀Fr' w',(∀b,Fr b→Fr' b)→eL Fr w w'→∀row:q_,ax Tryz.prog g (.agg (dq row).toArray::capt) Fr' w' [] (fun v L=>v=.bool (st row.1)∧L=[])):
  ax Tryz.prog 149 [.pointer (some ⟨p,0,none⟩),f_ g [] capt] Fr w [bC p R]
   (fun v L=>∃a c rows,rows.map Prod.fst=R.l.filter (fun x=>!st x)∧v=.slice a rows.length c∧L=[bC p { R with l:=R.l.filter st },aq eJ 34 a rows.length c (flat dq rows)]):=by
 refine TF 37 Tryz.func149 Z yp aC Z Z ?_
 refine VC.bz 0 Z (bd.aQ p R) ?_
 rintro x hx
 have hlen:=hx.len
 unfold uo
 show VC _ _ _ [pt p (sY R x) Ar,aq eJ 34 x.a x.rows.length x.c (flat dq x.rows)] _
 refine al ?_
 refine VG (VV (fun Fr w hF hs hS=>fO Fr w (hS.aA 0 Z) hc) Z ?_)
 refine jR ?_
 refine VC.bz 1 Z (bd.rl eJ x.a x.c x.rows Ap) ?_
 rintro r ⟨rok,hrv,hrx⟩
 show VC _ _ _ [r.h eJ,pt p (sY R x) Ar] _
 refine dF ?_
 refine VC.loop (σ:=Nat×List q_×List q_×(Option Addr×Nat)×(Option Addr×Nat)) (fun y=>[(0,pV p),(1,f_ g [] capt),(5,.slice y.2.2.2.1.1 y.2.1.length y.2.2.2.1.2),(6,.slice y.2.2.2.2.1 y.2.2.1.length y.2.2.2.2.2),(14,.slice x.a x.rows.length x.c),(15,.int .i64 x.rows.length),(16,.int .i64 y.1)])
  (fun y=>[aq eJ 34 y.2.2.2.1.1 y.2.1.length y.2.2.2.1.2 (flat dq y.2.1),aq eJ 34 y.2.2.2.2.1 y.2.2.1.length y.2.2.2.2.2 (flat dq y.2.2.1),pt p (sY R x) Ar,r.h eJ])
  (fun y=>y.1≤x.rows.length∧y.2.1.map Prod.fst=(R.l.take y.1).filter st∧y.2.2.1.map Prod.fst=(R.l.take y.1).filter (fun z=>!st z)∧y.2.1.length≤y.1∧y.2.2.1.length≤y.1) (fun y=>x.rows.length-y.1) (0,[],[],(none,0),(none,0))
  ⟨bH _,rfl,rfl,NR _,NR _⟩ aH (aa.cK (aa.cK (bb [1,0]))).aj ?_
 rintro⟨i,K,D,⟨ak,ck⟩,⟨ag,cg⟩⟩ ⟨hi,hK,hD,hKl,hDl⟩
 dsimp only at hi hK hD hKl hDl ⊢
 refine al ?_
 refine CP Z (fun h1=>CK ?_) (fun h1=>CX ?_)
 ·have hi2:i<x.rows.length:=by omega
  obtain⟨row,hrow⟩:∃row,x.rows[i]?=some row:=⟨_,GE hi2⟩
  have hli:R.l[i]?=some row.1:=by rw[←hx,dH,hrow];rfl
  have htk:R.l.take (i+1)=R.l.take i ++ [row.1]:=by rw[fX,hli];rfl
  obtain⟨rb,ro,r1,r2,hrd⟩:=rok.ld (t:=eJ) (hrx▸hrow) rfl
  have hxa:x.a=some ⟨rb,ro,none⟩:=by rw[RL.v,r2,hrx] at hrv;injection hrv with e1;exact e1.symm
  rw[hxa]
  refine uH ?_
  refine VG (VD Z Z ((hrd 3 Z).1 _ Z Z) ?_)
  refine VG (VO.alloc Z fun tb=>?_)
  refine VG (VT (vs:=dq row) 0 Z Z Z Z (NR _) Z Z Z ?_)
  refine IM ?_
  refine VG (VO.wG (u:=.bool (st row.1)) Z (fun Fr w hF hs hS=>hg Fr w hF hs.cP row) Z ?_)
  refine al ?_
  refine CC Z (fun hst=>?_) (fun hst=>?_)
  ·refine IM ?_
   refine VG (VO.buildSlice (n:=1) (pv:=[(0,.agg (dq row).toArray)]) (dq row) Z Z Z Z yy (eY Z Z Z) fun nb=>?_)
   refine VG (VO.append (m:=1) (news:=dq row) 2 Z Z Z Z Z Z Z (dm.pt 0 Z Z Z) Z (kk (k:=201) yg yy) yg fun a2 c2 hc2=>?_)
   refine jC ?_
   have hL:(K ++ [row]).length=K.length+1:=by simp
   have hF:flat dq (K ++ [row])=flat dq K++dq row:=by simp[fu,lz,sM]
   refine⟨(i+1,K ++ [row],D,(a2,c2),(ag,cg)),⟨hi2,?_,?_,by dsimp only;rw[hL];omega,by dsimp only;omega⟩,by dsimp only;omega,SC Z (SC Z (SC (by rw[hL];rfl) aH)),?_⟩
   ·dsimp only;rw[gn,hK,htk,uN];simp[hst]
   ·dsimp only;rw[hD,htk,uN];simp[hst]
   ·dsimp only;rw[hL,hF];exact(bb [0,2,2,2]).aj
  ·refine IM ?_
   refine VG (VO.buildSlice (n:=1) (pv:=[(0,.agg (dq row).toArray)]) (dq row) Z Z Z Z yy (eY Z Z Z) fun nb=>?_)
   refine VG (VO.append (m:=1) (news:=dq row) 3 Z Z Z Z Z Z Z (dm.pt 0 Z Z Z) Z (kk (k:=201) yg yy) yg fun a2 c2 hc2=>?_)
   refine jC ?_
   have hL:(D ++ [row]).length=D.length+1:=by simp
   have hF:flat dq (D ++ [row])=flat dq D++dq row:=by simp[fu,lz,sM]
   refine⟨(i+1,K,D ++ [row],(ak,ck),(a2,c2)),⟨hi2,?_,?_,by dsimp only;omega,by dsimp only;rw[hL];omega⟩,by dsimp only;omega,SC Z (SC Z (SC Z (SC (by rw[hL];rfl) aH))),?_⟩
   ·dsimp only;rw[hK,htk,uN];simp[hst]
   ·dsimp only;rw[gn,hD,htk,uN];simp[hst]
   ·dsimp only;rw[hL,hF];exact(bb [3,0,2,2]).aj
 ·obtain rfl:i=x.rows.length:=by omega
  rw[hlen,iT] at hK hD
  refine al ?_
  refine VG (VO.st 2 (cs':=[.int .i64 R.cap,.int .i64 R.last,.slice ak K.length ck]) Z Z Z Z (g_ Z) Z Z ?_)
  refine al ?_
  exact CR (an.tmp 4 Z Z (aa.aQ (R:={ R with l:=R.l.filter st }) ⟨ak,ck,K⟩ hK (IP 2 Z (IP 0 Z (IP 0 Z aa.nil)))).aj ⟨ag,cg,D,hD,Z,Z⟩)
section
variable {p:Nat} {R:eW}
def o8(id:Int)(x:uU):Bool:=decide (id<x.id)
def rI(now:Int)(x:uU):Bool:=decide (now≤x.f.deadline)
theorem Xz{b:Nat}{id:Int}(hb:bq Fr w b [.int .i64 id])(row:q_):ax Tryz.prog 248 [.agg (dq row).toArray,.pointer (some ⟨b,0,none⟩)] Fr w [] (fun v L=>v=.bool (o8 id row.1)∧L=[]):=by
 refine TF 8 Tryz.func248 Z yp aC Z Z ?_
 refine CS (CG (VG (VB (vs:=dq row) Z fun rb=>?_)))
 refine N8 ?_
 exact CR (an.tmp 3 Z Z aa.nil.aj ⟨rfl,Z⟩)
theorem RS{b:Nat}{now:Int}(hb:bq Fr w b [.int .i64 now])(row:q_):ax Tryz.prog 150 [.agg (dq row).toArray,.pointer (some ⟨b,0,none⟩)] Fr w [] (fun v L=>v=.bool (rI now row.1)∧L=[]):=by
 refine TF 9 Tryz.func150 Z yp aC Z Z ?_
 refine CS (CG (VG (VB (vs:=dq row) Z fun rb=>?_)))
 refine N8 ?_
 exact CR (an.tmp 3 Z Z aa.nil.aj ⟨rfl,Z⟩)
theorem R_(row:q_):ax Tryz.prog 281 [.agg (dq row).toArray] Fr w [] (fun v L=>v=.bool false∧L=[]):=by
 refine TF 3 Tryz.func281 Z yp aC Z Z ?_
 refine CS (CG (VG (VB (vs:=dq row) Z fun rb=>?_)))
 refine al ?_
 exact qS
theorem XB(hc:1≤R.cap)(hl:R.l.length≤100)(id:Int):ax Tryz.prog 188 [.pointer (some ⟨p,0,none⟩),.int .i64 id] Fr w [bC p R]
   (fun v L=>∃a c rows,rows.map Prod.fst=R.l.filter (fun x=>!o8 id x)∧v=.slice a rows.length c∧L=[bC p { R with l:=R.l.filter (o8 id) },aq eJ 34 a rows.length c (flat dq rows)]):=by
 refine TF 8 Tryz.func188 Z yp aC Z Z ?_
 refine CS (CG (VG (VO.vv (aK.box (vs:=[.int .i64 id]) Z Z) ?_)))
 rintro _ _ ⟨b,rfl,rfl⟩
 refine al ?_
 refine HH ?_
 refine VO.aj (L':=[bC p R,pt b [.int .i64 id] 3]) (bb [1,0]).aj ?_
 refine VG (VK (Lc:=[bC p R]) (fun Fr w hF hw hS=>AK Fr w p R hc hl 248 [.pointer (some ⟨b,0,none⟩)] (o8 id) (fun Fr' w' hF' hk row=>Xz Fr' w' (Jp (hS.aA 0 Z) hF' hk) row)) Z Z ?_)
 rintro _ _ ⟨a,c,rows,h1,rfl,rfl⟩
 refine al ?_
 exact N9
theorem wQ(hc:1≤R.cap)(hl:R.l.length≤100)(now:Int):ax Tryz.prog 97 [.pointer (some ⟨p,0,none⟩),.int .i64 now] Fr w [bC p R]
   (fun v L=>∃a c rows,rows.map Prod.fst=R.l.filter (fun x=>!rI now x)∧v=.slice a rows.length c∧L=[bC p { R with l:=R.l.filter (rI now) },aq eJ 34 a rows.length c (flat dq rows)]):=by
 refine TF 8 Tryz.func97 Z yp aC Z Z ?_
 refine CS (CG (VG (VO.vv (aK.box (vs:=[.int .i64 now]) Z Z) ?_)))
 rintro _ _ ⟨b,rfl,rfl⟩
 refine al ?_
 refine HH ?_
 refine VO.aj (L':=[bC p R,pt b [.int .i64 now] 3]) (bb [1,0]).aj ?_
 refine VG (VK (Lc:=[bC p R]) (fun Fr w hF hw hS=>AK Fr w p R hc hl 150 [.pointer (some ⟨b,0,none⟩)] (rI now) (fun Fr' w' hF' hk row=>RS Fr' w' (Jp (hS.aA 0 Z) hF' hk) row)) Z Z ?_)
 rintro _ _ ⟨a,c,rows,h1,rfl,rfl⟩
 refine al ?_
 exact N9
theorem FF(hc:1≤R.cap)(hl:R.l.length≤100):ax Tryz.prog 244 [.pointer (some ⟨p,0,none⟩)] Fr w [bC p R]
   (fun v L=>∃a c rows,rows.map Prod.fst=R.l∧v=.slice a rows.length c∧L=[bC p { R with l:=[] },aq eJ 34 a rows.length c (flat dq rows)]):=by
 refine TF 5 Tryz.func244 Z yp aC Z Z ?_
 refine al ?_
 refine VG (VK (Lc:=[bC p R]) (fun Fr w hF hw hS=>AK Fr w p R hc hl 281 [] (fun _=>false) (fun Fr' w' hF' hk row=>R_ Fr' w' row)) Z Z ?_)
 rintro _ _ ⟨a,c,rows,h1,rfl,rfl⟩
 refine al ?_
 refine CR (an.tmp 2 Z Z ER ⟨a,c,rows,?_,Z,?_⟩)
 ·rw[h1];simp
 ·rw[show R.l.filter (fun _=>false)=[] from List.filter_eq_nil_iff.2 yi];rfl
end
end Rd
namespace Ring
open Go Vg T Api
attribute [local irreducible] VO VC VA
theorem Fg(m:jk)(h:mC Fr w m):ax Tryz.prog 249 [.slice m.1 m.2.1 m.2.2] Fr w [] (fun v L=>∃m':jk,v=.slice m'.1 m'.2.1 m'.2.2∧L=[jM m']):=by
 obtain⟨a,n,c⟩:=m
 obtain⟨l,hl,hl2,h⟩:=h
 dsimp only at hl h ⊢
 subst hl
 have key:∀(a':Option Addr) (c':Nat),aa [aq aP 2 a' l.length c' (flat aD l)] [jM (a',l.length,c')]:=fun a' c'=>
  aa.ex (f:=fun ms:List aS=>bF [kI (ms.length=l.length∧ms.length≤1000000),aq aP 2 a' l.length c' (flat aD ms)]) l (aa.sep (Ls:=[kI _,aq aP 2 a' l.length c' (flat aD l)]) (aa.pure ⟨rfl,hl2⟩ aa.refl))
 refine TF 8 Tryz.func249 Z yp aC Z Z ?_
 cases a with
 | none=>
  obtain rfl:l=[]:=by
   cases l with
   | nil=>rfl
   | cons x l=>obtain⟨b,o,h1,_⟩:=h.at_ yi;cases h1
  refine sg ?_
  exact CR (an.tmp 2 Z Z (aa.Gc aa.nil).aj ⟨(none,0,0),Z,Z⟩)
 | some a=>
  refine jR ?_
  refine CS (CG (VG (VO.buildSlice (n:=0) (pv:=[]) [] Z Z Z Z yy Z fun b=>?_)))
  refine HJ ?_
  refine VG (VO.append (m:=l.length) (news:=flat aD l) 0 Z Z Z Z Z Z Z (aT.row cu h) (nZ vq _) En yg fun a' c' _=>?_)
  rw[cj,mZ]
  refine al ?_
  exact CR (an.tmp 2 Z Z (key a' c').aj ⟨(a',l.length,c'),Z,Z⟩)
theorem CQ(p:FM)(h:mC Fr w p.2):ax Tryz.prog 294 [.agg (aY p).toArray] Fr w [] (fun v L=>∃m,v=.agg (aY (p.1,m)).toArray∧L=[jM m]):=by
 refine TF 10 Tryz.func294 Z yp aC Z Z ?_
 refine CS (CG (VG (VB (vs:=aY p) Z (fun b=>VG (VO.alloc Z fun c=>VG (VN ?_))))))
 refine dF ?_
 refine VG (VK (Lc:=[]) (fun Fr w hF hs _=>Fg Fr w p.2 (h.of hF hs)) Z Z ?_)
 rintro _ _ ⟨m,rfl,rfl⟩
 refine VG (VO.st 2 (cs':=aY (p.1,m)) Z Z Z Z (by show 24<29;omega) Z Z (VG (VN ?_)))
 refine CS (CG (VG (VL 2 (aY (p.1,m)) Z Z Z Z (VG (VT (vs:=aY (p.1,m)) (cs':=aY (p.1,m)) 1 Z Z Z Z (NR _) Z Z Z (VG (VN ?_)))))))
 exact CR (an.cell 2 Z Z Z (aw.many 1 Z Z) (IP 0 Z aa.nil).aj ⟨m,Z,Z⟩)
structure tK where
 pb:Nat
 pl:List FM
 first:Nat
structure ni(q:List aB)(cap:Nat)(s:tK):Prop where
 len:s.pl.length=cap
 dO:1≤cap
 fM:cap≤64
 first:s.first<cap
 C3:q.length≤cap
 at_:∀i,i<q.length→(s.pl[(s.first+i) % cap]?).map Prod.fst=q[i]?
def xx(q:List aB)(cap:Nat)(s:tK):List Value:=[.slice (some ⟨s.pb,0,none⟩) cap cap,.int .i64 s.first,.int .i64 q.length]
def rS(p:Nat)(q:List aB)(cap:Nat)(s:tK):List HP:=pt p (xx q cap s) 309::pt s.pb (flat aY s.pl) 188::s.pl.map fun r=>jM r.2
def dx(p:Nat)(q:List aB)(cap:Nat):HP:=hex fun s=>bF (kI (ni q cap s)::rS p q cap s)
structure BE(Fr:Nat→Prop)(w:World)(p:Nat)(q:List aB)(cap:Nat)(s:tK):Prop where
 ok:ni q cap s
 ring:bq Fr w p (xx q cap s)
 places:bq Fr w s.pb (flat aY s.pl)
 mem:∀(i:Nat) (r:FM),s.pl[i]?=some r→mC Fr w r.2
theorem BE.of{Fr:Nat→Prop}{w:World}{p:Nat}{q:List aB}{cap:Nat}(h:a_ Fr [dx p q cap] w):∃s,BE Fr w p q cap s:=by
 obtain⟨s,h⟩:=h.ex
 have h:=h.sep
 exact⟨s,h.pure 0 Z,h.aA 1 Z,h.aA 2 Z,fun i r hr=>mC.sat (h.at_ (i+3) (Uu hr))⟩
theorem bd.ring(p:Nat)(q:List aB)(cap:Nat):bd (dx p q cap) (fun s=>ni q cap s) (fun s=>rS p q cap s):=by
 rintro w ids ⟨s,h⟩ hn
 obtain⟨F,G,rfl,⟨rfl,h1⟩,h2⟩:=h
 exact D0
theorem aa.ring{p:Nat}{q:List aB}{cap:Nat}{L M:List HP}(s:tK)(hs:ni q cap s)(h:aa L (rS p q cap s++M)):aa L (dx p q cap::M):=
 aa.ex s (aa.sep (aa.trans h (aa.app (L:=rS p q cap s) (M:=_::rS p q cap s) (aa.pure hs aa.refl) aa.refl)))
theorem fO{p:Nat}{a:Addr}{n c:Nat}{cs:List Value}(h:bq Fr w p (.slice (some a) n c::cs)):ax Tryz.prog 252 [.pointer (some ⟨p,0,none⟩)] Fr w [] (fun v L=>v=.bool false∧L=[]):=by
 refine TF 12 Tryz.func252 Z yp aC Z Z ?_
 refine al ?_
 refine VG (VO.split 5 rfl rfl (fun h=>by cases h) (fun _=>?_))
 refine ow ?_
 exact xQ
theorem GL{p pb first cap:Nat}{cs:List Value}(i:Nat)(h:bq Fr w p (.slice (some ⟨pb,0,none⟩) cap cap :: .int .i64 first::cs))(hc:1≤cap)(h1:first≤1000)(h2:i≤1000):
  ax Tryz.prog 287 [.pointer (some ⟨p,0,none⟩),.int .i64 i] Fr w [] (fun v L=>v=.int .i64 ((first+i) % cap:Nat)∧L=[]):=by
 refine TF 17 Tryz.func287 Z yp aC Z Z ?_
 refine al ?_
 refine CD (ts 0 13 .nil) yp yp ?_
 refine r5 ?_
 refine AG (AP Z Z Z ?_ ?_ ?_)
 ·omega
 ·omega
 refine r5 ?_
 refine AG (AI Z (zZ Z Z ?_ ?_) ?_)
 ·omega
 ·omega
 refine bp ?_
 exact CR (an.int 4 Z Z (by push_cast;rfl) ER ⟨rfl,Z⟩)
theorem kJ{p:Nat}{q:List aB}{cap:Nat}(h:a_ Fr [dx p q cap] w):ax Tryz.prog 195 [.pointer (some ⟨p,0,none⟩)] Fr w [] (fun v L=>v=.int .i64 q.length∧L=[]):=by
 obtain⟨s,h⟩:=BE.of h
 have hb:=h.ring
 refine TF 9 Tryz.func195 Z yp aC Z Z ?_
 refine al ?_
 refine VG (VV (fun Fr w hF hs _=>fO Fr w (hb.of hF hs)) Z ?_)
 refine jR ?_
 refine kl ?_
 exact vN
theorem ni.place{q:List aB}{cap:Nat}{s:tK}(h:ni q cap s){i:Nat}(hi:i<q.length):∃p:FM,s.pl[(s.first+i) % cap]?=some p∧q[i]?=some p.1:=by
 have h1:=h.at_ i hi
 have h2:(s.first+i) % cap<s.pl.length:=by rw[h.len];exact wx _ h.dO
 refine⟨_,GE h2,?_⟩
 rw[←h1,GE h2];rfl
def atR(q:List aB)(i:Nat)(v:Value)(L:List HP):Prop:=match q[i]? with
 | some f=>∃m,v=.tuple #[.agg (aY (f,m)).toArray,.bool true]∧L=[jM m]
 | none=>v=.tuple #[.agg (aY eZ).toArray,.bool false]∧L=[]
theorem zn{p:Nat}{q:List aB}{cap:Nat}(i:Nat)(h:a_ Fr [dx p q cap] w):ax Tryz.prog 286 [.pointer (some ⟨p,0,none⟩),.int .i64 i] Fr w [] (atR q i):=by
 obtain⟨s,h⟩:=BE.of h
 have hb:=h.ring
 have hp:=h.places
 refine TF 31 Tryz.func286 Z yp aC Z Z ?_
 refine CS (CG (VG (VO.alloc Z fun b=>VG (VN ?_))))
 refine al ?_
 refine VG (VV (fun Fr w hF hs _=>fO Fr w (hb.of hF hs)) Z (VG (VY 8 false Z Z ?_)))
 refine al ?_
 refine VG (VY 12 false Z (DF yg) ?_)
 refine kl ?_
 refine CP Z (fun h1=>?_) (fun h1=>?_)
 ·refine CS (CG (VG (VI (LB (pv:=[]) (aY eZ) Z Z Z Z Z) (VG (VT (vs:=aY eZ) (cs':=aY eZ) 0 Z Z Z Z (NR _) Z Z Z (VG (VN ?_)))))))
  refine CR (an.dt 4 5 Z Z Z (aw.many 0 Z Z) Z aa.nil.aj ?_)
  have h1:q.length≤i:=by omega
  simp only[atR,kr h1]
  exact⟨rfl,trivial⟩
 ·have h1:i<q.length:=by omega
  have hq:=h.ok.C3
  have hc:=h.ok.fM
  have hf:=h.ok.first
  obtain⟨f,hf1,hf2⟩:=h.ok.place h1
  have hlt:(s.first+i) % cap<cap:=wx _ h.ok.dO
  refine CK ?_
  refine CS (CD (ts 0 6 (.only 6 (ts 7 2 (.only 9 (.only 10 (.take 11 .nil)))))) yp yp ?_)
  refine A0 ?_
  refine AG (VA.eB (fun Fr w hF hs _=>GL Fr w i (hb.of hF hs) h.ok.dO yg yg) Z Z (Pd.cons (aw.aA hb Z) Pd.nil).st ?_)
  rintro _ rfl
  refine AG (AI Z (eE ((s.first+i) % cap) Z Z Z Z Z Z hlt) ?_)
  have hrow:((flat aY s.pl).drop (0+(s.first+i) % cap*29)).take 29=aY f:=by
   have:=oO vc hf1 []
   rwa[br,←cj (_*29)] at this
  refine AG (VA.load Z Z Z (aw.jF hp hrow) ?_)
  refine AG (AO (OC (Lc:=[]) (R:=fun v L=>∃m,v=.agg (aY (f.1,m)).toArray∧L=[jM m]) Z (.refl _) (fun Fr w hF hs _=>CQ Fr w f ((h.mem _ _ hf1).of hF hs))) Z ?_ ?_)
  ·rintro _ _ ⟨_,⟨m,rfl,rfl⟩,rfl⟩
   exact Pp
  rintro _ _ ⟨_,⟨m,rfl,rfl⟩,rfl⟩
  refine AG (AT (vs:=aY (f.1,m)) (cs':=aY (f.1,m)) 1 Z Z Z Z Z (NR _) Z Z Z Pp ?_)
  refine bp ?_
  refine CR (an.dt 4 5 Z Z Z (aw.many 1 Z Z) Z (L':=[jM m]) (IP 0 Z aa.nil).aj ?_)
  simp only[atR,hf2]
  exact⟨m,Z,Z⟩
theorem Kw{p:Nat}{q:List aB}{cap:Nat}(h:a_ Fr [dx p q cap] w):ax Tryz.prog 266 [.pointer (some ⟨p,0,none⟩)] Fr w [] (atR q 0):=by
 refine TF 8 Tryz.func266 Z yp aC Z Z ?_
 refine CS (CG (VG (VO.alloc Z fun b=>VG (VN ?_))))
 refine al ?_
 refine VG (VK (Lc:=[]) (R:=atR q 0) (fun Fr w hF hs _=>zn Fr w 0 (h.of hF hs)) Z Z ?_)
 intro v L hv
 unfold atR at hv
 cases hq:q[0]? with
 | some f=>
  rw[hq] at hv
  obtain⟨m,rfl,rfl⟩:=hv
  refine N_ ?_
  refine CR (an.dt 2 3 Z Z Z (aw.many 1 Z Z) Z (L':=[jM m]) (IP 0 Z aa.nil).aj ?_)
  simp only[atR,hq]
  exact⟨m,Z,Z⟩
 | none=>
  rw[hq] at hv
  obtain⟨rfl,rfl⟩:=hv
  refine N' ?_
  refine CR (an.dt 2 3 Z Z Z (aw.many 0 Z Z) Z aa.nil.aj ?_)
  simp only[atR,hq]
  exact⟨rfl,trivial⟩
theorem LD{a i j c:Nat}(h1:i<j)(h2:j<c):(a+i) % c≠(a+j) % c:=fun h=>by
 have:=Nat.sub_mod_eq_zero_of_mod_eq h.symm
 rw[show a+j-(a+i)=j-i from by omega,Nat.mod_eq_of_lt yg] at this
 omega
theorem ni.push{q:List aB}{cap:Nat}{s:tK}(h:ni q cap s)(hq:q.length<cap)(f:aB)(m:zg):ni (q ++ [f]) cap { s with pl:=s.pl.set ((s.first+q.length) % cap) (f,m) }:=by
 have hlt:(s.first+q.length) % cap<s.pl.length:=by rw[h.len];exact wx _ h.dO
 refine⟨by simpa using h.len,h.dO,h.fM,h.first,by simp;omega,fun i hi=>?_⟩
 simp only[a8,Bw] at hi
 by_cases hi2:i<q.length
 ·rw[nL hi2,lU (fun e=>LD hi2 hq e.symm)]
  exact h.at_ i hi2
 ·have:i=q.length:=by omega
  subst this
  rw[iR hlt];simp
theorem ni.pop{f:aB}{q:List aB}{cap:Nat}{s:tK}(h:ni (f::q) cap s)(z:FM):ni q cap { s with first:=(s.first+1) % cap,pl:=s.pl.set s.first z }:=by
 have hq:=h.C3
 simp only[ku] at hq
 refine⟨by simpa using h.len,h.dO,h.fM,wx _ h.dO,by omega,fun i hi=>?_⟩
 have h1:=h.at_ (i+1) yn
 have h2:((s.first+1) % cap+i) % cap=(s.first+(i+1)) % cap:=by rw[Nat.mod_add_mod];congr 1;omega
 have h3:s.first≠(s.first+(i+1)) % cap:=fun e=>by
  have:=LD (a:=s.first) (i:=0) (j:=i+1) (c:=cap) yg yg
  rw[wm,Nat.mod_eq_of_lt h.first] at this
  exact this e
 simp only
 rw[h2,lU h3,h1];rfl
def Mj(p:Nat)(q:List aB)(cap:Nat)(f:aB)(v:Value)(L:List HP):Prop:=v=.bool (decide (q.length<cap))∧L=[dx p (if q.length<cap then q ++ [f] else q) cap]
theorem vB(p:Nat)(q:List aB)(cap:Nat)(f:FM)(hm:mC Fr w f.2):ax Tryz.prog 285 [.pointer (some ⟨p,0,none⟩),.agg (aY f).toArray] Fr w [dx p q cap] (Mj p q cap f.1):=by
 refine TF 39 Tryz.func285 Z yp aC Z Z ?_
 refine CS (CG (VG (VB (vs:=aY f) Z fun b=>VG (VN ?_))))
 refine VC.bz 1 Z (bd.ring p q cap) fun s h=>?_
 refine CN (L':=pt b (aY f) 188::rS p q cap s) (aa.perm lV).aj ?_
 have hq:=h.C3
 have hc:=h.fM
 have hf:=h.first
 refine al ?_
 refine CD (.take 0 (.only 1 (ts 2 12 .nil))) yp yp ?_
 refine AG (VA.eB (fun Fr w hF _ hs=>fO Fr w (hs.aA 1 Z)) Z Z Pd.nil.st ?_)
 rintro _ rfl
 refine AG (AY 7 false Z Z ?_)
 refine fj ?_
 refine CE Z (fun h1=>?_) (fun h1=>?_)
 ·refine al ?_
  have h1:¬q.length<cap:=by omega
  exact CR (an.bool 4 Z Z Z (aa.trans aa.tl (aa.ring s h (aa.of_eq (br _).symm))).aj ⟨by simp[h1],by simp[h1]⟩)
 ·have h1:q.length<cap:=by omega
  have hlt:(s.first+q.length) % cap<cap:=wx _ h.dO
  refine CK ?_
  refine CS (CD (ts 0 9 (.take 10 (.only 9 (.only 11 (.take 12 (.only 13 .nil)))))) yp yp ?_)
  refine fj ?_
  refine AG (VA.dE 0 (aY f) Z Z Z Z Z ?_)
  refine AG (VA.eB (fun Fr w hF _ hs=>GL Fr w q.length (hs.aA 1 Z) h.dO yg yg) Z Z yu ?_)
  rintro _ rfl
  refine AG (AO (OC (Lc:=[]) (R:=fun v L=>∃m,v=.agg (aY (f.1,m)).toArray∧L=[jM m]) Z (.refl _) (fun Fr w hF hs _=>CQ Fr w f (hm.of hF hs))) Z ?_ ?_)
  ·rintro _ _ ⟨_,⟨m,rfl,rfl⟩,rfl⟩
   exact yu
  rintro _ _ ⟨_,⟨m,rfl,rfl⟩,rfl⟩
  refine AG (AI Z (eE ((s.first+q.length) % cap) Z Z Z Z Z Z hlt) ?_)
  have hw:=wW vc (f.1,m) [] (i:=(s.first+q.length) % cap) (l:=s.pl) (by rw[h.len];exact hlt)
  rw[br,br,←cj (_*29)] at hw
  refine AG (AT (vs:=aY (f.1,m)) 3 Z Z Z Z Z ?_ hw Z Z yu ?_)
  ·rw[eu vc,h.len,vc];show 0+(s.first+q.length) % cap*29+29≤cap*29;omega
  refine jh ?_
  refine jA ?_
  refine VG (VP Z Z ?_ ?_ ?_)
  ·omega
  ·omega
  refine HK ?_
  refine al ?_
  refine CR (an.bool 4 Z Z Z (L':=[dx p (q ++ [f.1]) cap]) ?_ ⟨by simp[h1],by simp[h1]⟩)
  have e:xx (q ++ [f.1]) cap { s with pl:=s.pl.set ((s.first+q.length) % cap) (f.1,m) }=[.slice (some ⟨s.pb,0,none⟩) cap cap,.int .i64 s.first,.int .i64 ((q.length:Int)+1)]:=by simp[xx]
  refine(aa.ring _ (h.push h1 f.1 m) ?_).aj
  unfold rS
  rw[e,br]
  refine IP 2 Z (IP 2 Z ?_)
  exact aa.trans (IP 0 Z aa.tl) (Lz (x:=(f.1,m)) (by rw[h.len];exact hlt))
def uk(p:Nat)(cap:Nat):List aB→Value→List HP→Prop
 | [],v,L=>v=.tuple #[.agg (aY eZ).toArray,.bool false]∧L=[dx p [] cap]
 | f::q,v,L=>∃m,v=.tuple #[.agg (aY (f,m)).toArray,.bool true]∧L=[jM m,dx p q cap]
theorem CY(p:Nat)(q:List aB)(cap:Nat):ax Tryz.prog 269 [.pointer (some ⟨p,0,none⟩)] Fr w [dx p q cap] (uk p cap q):=by
 refine TF 39 Tryz.func269 Z yp aC Z Z ?_
 refine CS (CG (VG (VO.alloc Z fun b=>VG (VN ?_))))
 refine al ?_
 refine VG (VK (Lc:=[]) (R:=atR q 0) (fun Fr w hF hw hs=>Kw Fr w (hs.at_ 1 Z)) Z Z ?_)
 intro v L hv
 unfold atR at hv
 cases q with
 | nil=>
  simp only[List.getElem?_nil] at hv
  obtain⟨rfl,rfl⟩:=hv
  refine N' ?_
  refine al ?_
  refine lR ?_
  refine CS (CG (VG (VI (LB (pv:=[]) (aY eZ) Z Z Z Z Z) (VG (VT (vs:=aY eZ) (cs':=aY eZ) 0 Z Z Z Z (NR _) Z Z Z (VG (VN ?_)))))))
  exact CR (an.dt 2 3 Z Z Z (aw.many 0 Z Z) Z (aa.app (L:=[_]) (M:=[]) (L':=[_]) (M':=[_]) aa.nil aa.refl).aj ⟨rfl,Z⟩)
 | cons f q=>
  simp only[uP] at hv
  obtain⟨m,rfl,rfl⟩:=hv
  refine N_ ?_
  refine jR ?_
  refine VC.bz 2 Z (bd.ring p (f::q) cap) fun s h=>?_
  refine CN (L':=jM m::pt b (aY (f,m)) 188::rS p (f::q) cap s) (aa.perm lV).aj ?_
  have hq:=h.C3
  have hc:=h.fM
  have hf:=h.first
  have hc0:=h.dO
  refine CS (CD (ts 0 14 (.only 14 .nil)) yp yp ?_)
  refine jh ?_
  refine AG (AP Z Z Z ?_ ?_ ?_)
  ·omega
  ·omega
  refine jh ?_
  refine AG (AI Z (K3 s.first (s.first+1) Z Z Z Z Z Z Z (by push_cast;rfl) yg yg yg) ?_)
  have hw:=wW vc eZ [] (i:=s.first) (l:=s.pl) (by rw[h.len];exact hf)
  rw[br,br,←cj (_*29)] at hw
  refine AG (AO (aK.clear 3 Z Z Z Z Z yg ?_ Z) Z ?_ ?_)
  ·rw[eu vc,h.len];show 0+s.first*29+(s.first+1-s.first)*29≤cap*29;omega
  ·rintro _ _ ⟨rfl,rfl⟩
   exact yu
  rintro _ _ ⟨rfl,rfl⟩
  have hz:(List.replicate (s.first+1-s.first) T.t188.zs).flatten=aY eZ:=by rw[show s.first+1-s.first=1 from by omega];rfl
  have hw2:dM (flat aY s.pl) (0+s.first*T.t188.size) (List.replicate (s.first+1-s.first) T.t188.zs).flatten=flat aY (s.pl.set s.first eZ):=by rw[hz];exact hw
  rw[hw2]
  refine jh ?_
  refine jA ?_
  refine VG (VV (fun Fr w hF _ hs=>GL Fr w 1 (hs.aA 2 Z) hc0 yg yg) Z ?_)
  refine VG (VO.st 2 Z Z Z Z uF Z Z (VG (VN ?_)))
  refine jA ?_
  refine VG (VO.xH Z Z ?_ ?_ ?_)
  ·omega
  ·omega
  refine HK ?_
  refine jA ?_
  refine VG (VL 1 (aY (f,m)) Z Z Z Z (VG (VT (vs:=aY (f,m)) (cs':=aY (f,m)) 1 Z Z Z Z (NR _) Z Z Z (VG (VN ?_)))))
  refine CR (an.dt 2 3 Z Z Z (aw.many 1 Z Z) Z (L':=[jM m,dx p q cap]) ?_ ⟨m,Z,Z⟩)
  refine(IP 0 Z (aa.ring _ (h.pop eZ) ?_)).aj
  have e:xx q cap { s with first:=(s.first+1) % cap,pl:=s.pl.set s.first eZ }=[.slice (some ⟨s.pb,0,none⟩) cap cap,.int .i64 ((s.first+1) % cap:Nat),.int .i64 (((f::q).length:Int)-1)]:=by simp[xx]
  unfold rS
  rw[e,br]
  refine IP 1 Z (IP 1 Z ?_)
  exact aa.trans (aa.trans aa.tl (aa.Gc aa.refl)) (Lz (x:=eZ) (by rw[h.len];exact hf))
theorem ax.drop{P:Program}{f:FuncId}{args:List Value}{Fr:Nat→Prop}{w:World}{L:List HP}{R R':Value→List HP→Prop}(h:ax P f args Fr w L R)(hi:∀v L',R v L'→∃L2,R' v L2∧aa L' L2):ax P f args Fr w L R':=
 ⟨h.BV,fun hl hs=>Calls.mono (h.calls hl hs) fun e w' ⟨v,L',h1,h2,h3,h4⟩=>by
  obtain⟨L2,h5,h6⟩:=hi v L' h2
  obtain⟨F,hs,hn,hb⟩:=h3
  obtain⟨F',hs',hn',hb'⟩:=h6 w' F hs hn
  exact⟨v,L2,h1,h5,⟨F',hs',hn',fun b hb2=>hb b (hb' b hb2)⟩,h4⟩⟩
theorem aK.QH{X:Cx}{e:Env}{L:List HP}{f:FuncId}{args:Array Operand}{tys:Array TypeId}{vals:List Value}{H:HP}{R:Value→List HP→Prop}{ψ:Value→HP→HP→Prop}(i:Nat)
  (hL:L[i]?=some H) (ht:∀Fr' w,(∀b,X.Fr b→Fr' b)→St X L w→a_ Fr' (L.eraseIdx i) w→ax X.P f vals Fr' w [H] R) (hargs:ft e args.toList=some vals)
  (hR:∀v L1,R v L1→∃M H',L1=[M,H']∧ψ v M H'):
  aK X (.call ⟨.value (.func f),args,tys⟩) e L (fun v L'=>∃M H',ψ v M H'∧L'=M::L.set i H'):=by
 intro a w ha hw dst ty pos after guard
 have hi:i<L.length:=(bP.1 hL).1
 have key:∀v w' L',(∃L1,R v L1∧L'=L1++L.eraseIdx i)→St X L' w'→∃L'',(∃M H',ψ v M H'∧L''=M::L.set i H')∧St X L'' w':=by
  rintro v w' _ ⟨L1,h1,rfl⟩ hs
  obtain⟨M,H',rfl,hψ⟩:=hR v L1 h1
  have hp:(H'::L.eraseIdx i).Perm (L.set i H'):=by
   have:=oW (L:=L.set i H') (i:=i) (H:=H') (iR hi)
   rw[List.eraseIdx_set_eq] at this
   exact this.symm
  exact⟨_,⟨M,H',hψ,Z⟩,(aa.perm (hp.cons M)).aj w' hs⟩
 rcases OC (R:=R) hargs (Lc:=[H]) (Lr:=L.eraseIdx i) (oW hL) ht a w ha hw dst ty pos after guard with ⟨v,w',L',h1,h2,h3⟩ | ⟨w',L',h1,h2,h3⟩ | ⟨f,args,h1,h2⟩
 ·obtain⟨L'',h4,h5⟩:=key _ _ _ h2 h3
  exact .inl ⟨v,w',L'',h1,h4,h5⟩
 ·obtain⟨L'',h4,h5⟩:=key _ _ _ h2 h3
  exact .inr (.inl ⟨w',L'',h1,h4,h5⟩)
 ·refine .inr (.inr ⟨f,args,h1,Calls.mono h2 fun en w' ⟨v,L',h3,h4,h5⟩=>?_⟩)
  obtain⟨L'',h6,h7⟩:=key _ _ _ h4 h5
  exact⟨v,L'',h3,h6,h7⟩
def BR(q:List aB)(i:Nat)(v:Value):Prop:=match q[i]? with
 | some f=>∃m,v=.tuple #[.agg (aY (f,m)).toArray,.bool true]
 | none=>v=.tuple #[.agg (aY eZ).toArray,.bool false]
theorem Sp{p:Nat}{q:List aB}{cap:Nat}(h:a_ Fr [dx p q cap] w):ax Tryz.prog 266 [.pointer (some ⟨p,0,none⟩)] Fr w [] (fun v L=>BR q 0 v∧L=[]):=
 ax.drop (Kw Fr w h) fun v L h=>by
  unfold atR at h;unfold BR
  cases hq:q[0]? with
  | some f=>rw[hq] at h;obtain⟨m,rfl,rfl⟩:=h;exact⟨[],⟨⟨m,rfl⟩,rfl⟩,aa.nil⟩
  | none=>rw[hq] at h;obtain⟨rfl,rfl⟩:=h;exact⟨[],⟨rfl,rfl⟩,aa.nil⟩
def VJ(p:Nat)(cap:Nat):List aB→Value→List HP→Prop
 | [],v,L=>v=.tuple #[.agg (aY eZ).toArray,.bool false]∧L=[dx p [] cap]
 | f::q,v,L=>(∃m,v=.tuple #[.agg (aY (f,m)).toArray,.bool true])∧L=[dx p q cap]
theorem VU(p:Nat)(q:List aB)(cap:Nat):ax Tryz.prog 269 [.pointer (some ⟨p,0,none⟩)] Fr w [dx p q cap] (VJ p cap q):=
 ax.drop (CY Fr w p q cap) fun v L h=>by
  cases q with
  | nil=>exact⟨L,h,aa.refl⟩
  | cons f q=>obtain⟨m,rfl,rfl⟩:=h;exact⟨_,⟨⟨m,rfl⟩,rfl⟩,aa.tl⟩
theorem ni.new(cap:Nat)(h0:1≤cap)(h1:cap≤64)(b:Nat):ni [] cap ⟨b,List.replicate cap eZ,0⟩:=
 ⟨by simp,h0,h1,h0,by simp,fun i hi=>by simp at hi⟩
theorem lK(cap:Nat)(h0:1≤cap)(h1:cap≤64):ax Tryz.prog 137 [.int .i64 cap] Fr w [] (fun v L=>∃p,v=.tuple #[.pointer (some ⟨p,0,none⟩),.int .i64 0]∧L=[dx p [] cap]):=by
 refine TF 14 Tryz.func137 Z yp aC Z Z ?_
 refine al ?_
 refine VG (VY 6 false Z (DF yg) ?_)
 refine al ?_
 refine CP Z (fun h=>absurd h yg) (fun _=>CK ?_)
 refine CS (CG (VG (VO.makeSlice cap Z Z Z Z Z Z Z yg ?_ fun b=>?_)))
 ·show 288*cap≤_;omega
 refine VG (VI (LB [.slice (some ⟨b,0,none⟩) cap cap,.int .i64 0,.int .i64 0] Z Z Z Z Z) (VG (VB (vs:=[.slice (some ⟨b,0,none⟩) cap cap,.int .i64 0,.int .i64 0]) Z fun p=>VG (VN ?_))))
 refine CR (an.cV 2 3 Z Z Z ?_ ⟨p,Z,Z⟩)
 exact(aa.ring (M:=[]) ⟨b,List.replicate cap eZ,0⟩ (ni.new cap h0 h1 b) (by
  have:flat aY (List.replicate cap eZ)=(List.replicate cap T.t188.zs).flatten:=(Ks cap eZ).symm
  unfold rS
  simp only[this,List.map_replicate,br]
  refine IP 0 Z (IP 0 Z ?_)
  have:∀n:Nat,aa [] (List.replicate n (jM eZ.2)):=fun n=>by
   induction n with
   | zero=>exact aa.nil
   | succ n ih=>exact aa.Gc ih
  exact this cap)).aj
end Ring
namespace Sched
open Go Vg T Api Ring
attribute [local irreducible] VO VC VA
structure cL where
 q:List aB
 mS:Int
 c_:Int
 served:Int
structure aJ where
 cls:List cL
 cap:Nat
 bt:Nat
 fresh:Bool
def aJ.kj(S:aJ)(k:Nat)(c:cL):aJ:={ S with cls:=S.cls.set k c }
def aJ.idle(S:aJ):Bool:=S.cls.all fun c=>c.q.isEmpty
structure cL.Wf(c:cL):Prop where
 q0:96≤c.mS
 q1:c.mS≤65536
 c0:0≤c.c_
 c1:c.c_≤c.mS+95
 s0:0≤c.served
 s1:c.served≤4611686018427387904
structure aJ.Wf(S:aJ):Prop where
 n0:1≤S.cls.length
 n1:S.cls.length≤4
 dO:1≤S.cap
 fM:S.cap≤16
 bt:S.bt<S.cls.length
 cls:∀c∈S.cls,c.Wf
 qs:∀c∈S.cls,c.q.length≤S.cap
 low:∀k c,S.cls[k]?=some c→(k=S.bt→S.fresh=true)→c.c_≤95
abbrev Row:=Nat×cL
def cN(r:Row):List Value:=[.pointer (some ⟨r.1,0,none⟩),.int .i64 r.2.mS,.int .i64 r.2.c_,.int .i64 r.2.served]
theorem wM(r:Row):(cN r).length=4:=rfl
structure mD where
 cb:Nat
 rk:Nat
 rest:List Value
 rows:List Row
structure lZ(S:aJ)(s:mD):Prop where
 wf:S.Wf
 rows:s.rows.map Prod.snd=S.cls
 cap:s.rows.length≤s.rk
def s8(S:aJ)(s:mD):List Value:=[.slice (some ⟨s.cb,0,none⟩) s.rows.length s.rk,.int .i64 S.bt,.bool S.fresh]
def jP(p:Nat)(S:aJ)(s:mD):List HP:=pt p (s8 S s) 234::pt s.cb (flat cN s.rows++s.rest) 239::s.rows.map fun r=>dx r.1 r.2.q S.cap
def gj(p:Nat)(S:aJ):HP:=hex fun s=>bF (kI (lZ S s)::jP p S s)
structure BF(Fr:Nat→Prop)(w:World)(p:Nat)(S:aJ)(s:mD):Prop where
 ok:lZ S s
 aM:bq Fr w p (s8 S s)
 cls:bq Fr w s.cb (flat cN s.rows++s.rest)
 ring:∀(k:Nat) (r:Row),s.rows[k]?=some r→a_ Fr [dx r.1 r.2.q S.cap] w
theorem BF.of{Fr:Nat→Prop}{w:World}{p:Nat}{S:aJ}(h:a_ Fr [gj p S] w):∃s,BF Fr w p S s:=by
 obtain⟨s,h⟩:=h.ex
 have h:=h.sep
 exact⟨s,h.pure 0 Z,h.aA 1 Z,h.aA 2 Z,fun k r hr=>h.at_ (k+3) Ep⟩
theorem bd.aM(p:Nat)(S:aJ):bd (gj p S) (fun s=>lZ S s) (fun s=>jP p S s):=by
 rintro w ids ⟨s,h⟩ hn
 obtain⟨F,G,rfl,⟨rfl,h1⟩,h2⟩:=h
 exact D0
theorem aa.aM{p:Nat}{S:aJ}{L M:List HP}(s:mD)(hs:lZ S s)(h:aa L (jP p S s++M)):aa L (gj p S::M):=
 aa.ex s (aa.sep (aa.trans h (aa.app (L:=jP p S s) (M:=_::jP p S s) (aa.pure hs aa.refl) aa.refl)))
theorem lZ.len{S:aJ}{s:mD}(h:lZ S s):s.rows.length=S.cls.length:=by rw[←h.rows,cY]
theorem lZ.row{S:aJ}{s:mD}(h:lZ S s){k:Nat}(hk:k<S.cls.length):∃p c,s.rows[k]?=some (p,c)∧S.cls[k]?=some c:=by
 have hk':k<s.rows.length:=by rw[h.len];exact hk
 refine⟨s.rows[k].1,s.rows[k].2,by simp[GE hk'],?_⟩
 rw[←h.rows,dH,GE hk'];rfl
theorem fO{p:Nat}{a:Option Addr}{n c:Nat}{cs:List Value}(h:bq Fr w p (.slice a n c::cs)):ax Tryz.prog 251 [.pointer (some ⟨p,0,none⟩)] Fr w [] (fun v L=>v=.bool (decide (n=0))∧L=[]):=by
 refine TF 13 Tryz.func251 Z yp aC Z Z ?_
 refine al ?_
 refine VG (VO.split 5 rfl rfl (fun h=>by cases h) (fun _=>?_))
 refine ow ?_
 exact CR (an.bool 2 rfl rfl (by cases n<;>rfl) ER ⟨rfl,rfl⟩)
theorem wY{p n c:Nat}{a:Option Addr}{cs:List Value}(i:Int)(h:bq Fr w p (.slice a n c::cs)):ax Tryz.prog 194 [.pointer (some ⟨p,0,none⟩),.int .i64 i] Fr w [] (fun v L=>v=.bool (decide (0≤i∧i<n))∧L=[]):=by
 refine TF 21 Tryz.func194 Z yp aC Z Z ?_
 refine al ?_
 refine VG (VV (fun Fr w hF hs _=>fO Fr w (h.of hF hs)) Z (VG (VO.split 8 Z Z (fun h1=>?_) (fun h1=>?_))))
 ·have h1:n≠0:=by simpa using h1
  refine VG (VO.split 12 Z Z (fun h2=>?_) (fun h2=>?_))
  ·have h2:=of_decide_eq_true h2
   refine ow ?_
   exact CR (an.bool 4 Z Z ym ER ⟨rfl,Z⟩)
  ·have h2:=of_decide_eq_false h2
   refine al ?_
   exact CR (an.bool 4 Z Z ym ER ⟨rfl,Z⟩)
 ·have h1:n=0:=by simpa using h1
  refine VG (VY 12 false Z Z ?_)
  refine al ?_
  exact CR (an.bool 4 Z Z (by symm;apply DF;omega) ER ⟨rfl,Z⟩)
def aJ.at_(S:aJ)(i:Int):Option cL:=if 0≤i then S.cls[i.toNat]? else none
def aJ.oR(S:aJ)(i:Int):Int:=match S.at_ i with
 | some c=>c.q.length
 | none=>0
theorem aJ.EU(S:aJ)(k:Nat):S.at_ k=S.cls[k]?:=by simp[aJ.at_]
theorem aJ.Jb{S:aJ}{i:Int}(h:¬(0≤i∧i<S.cls.length)):S.at_ i=none:=by
 unfold aJ.at_;split
 ·rw[kr];omega
 ·rfl
theorem wN{rows:List Row}{k j:Nat}{r:Row}{v:Value}(hr:rows[k]?=some r)(hj:(cN r)[j]?=some v)(rest:List Value):(flat cN rows++rest)[k*4+j]?=some v:=oN wM hr hj rest
theorem kJ{p:Nat}{S:aJ}(i:Int)(h:a_ Fr [gj p S] w):ax Tryz.prog 125 [.pointer (some ⟨p,0,none⟩),.int .i64 i] Fr w [] (fun v L=>v=.int .i64 (S.oR i)∧L=[]):=by
 obtain⟨s,h⟩:=BF.of h
 have hb:=h.aM
 have hn:=h.ok.len
 refine TF 18 Tryz.func125 Z yp aC Z Z ?_
 refine al ?_
 refine VG (VV (fun Fr w hF hs _=>wY Fr w i (hb.of hF hs)) Z (VG (VN ?_)))
 refine VC.fq Z (fun h1=>?_) (fun h1=>?_)
 ·have h1:=of_decide_eq_false h1
  refine al ?_
  exact CR (an.int 4 Z Z (by simp only[aJ.oR,aJ.Jb (hn▸h1)]) ER ⟨rfl,Z⟩)
 ·have h1:=of_decide_eq_true h1
  obtain⟨k,rfl⟩:=tE h1.1
  have hk:k<S.cls.length:=by omega
  obtain⟨q,c,hr,hc⟩:=h.ok.row hk
  refine CK ?_
  refine kl ?_
  refine xW ?_
  refine VG (VD Z Z (aw.aA h.cls (by rw[cj];exact wN (j:=0) hr Z _)) ?_)
  refine Oa ?_
  exact CR (an.int 4 Z Z (by simp[aJ.oR,aJ.EU,hc]) ER ⟨rfl,Z⟩)
theorem GH{p:Nat}{a:Addr}{n c t:Nat}{f:Bool}(hn:1≤n)(ht:t≤1000):
  ax Tryz.prog 267 [.pointer (some ⟨p,0,none⟩)] Fr w [pt p [.slice (some a) n c,.int .i64 t,.bool f] 234]
   (fun v L=>v=.tuple #[]∧L=[pt p [.slice (some a) n c,.int .i64 ((t+1) % n:Nat),.bool true] 234]):=by
 refine TF 19 Tryz.func267 Z yp aC Z Z ?_
 refine CS ?_
 refine CD (ts 0 14 (.only 14 .nil)) yp yp ?_
 refine bp ?_
 refine AG (AP Z Z Z ?_ ?_ ?_)
 ·omega
 ·omega
 refine bp ?_
 refine AG (AI Z (zZ Z Z ?_ ?_) ?_)
 ·omega
 ·omega
 refine AG (VA.st 0 Z Z Z Z Z uF Z Z yu ?_)
 refine uJ ?_
 refine VG (VO.st 0 Z Z Z Z Eo Z Z (VG (VN ?_)))
 exact an.void Z ER ⟨rfl,by push_cast;rfl⟩
theorem SY{p:Nat}{S:aJ}(h:a_ Fr [gj p S] w):ax Tryz.prog 265 [.pointer (some ⟨p,0,none⟩)] Fr w [] (fun v L=>v=.bool S.idle∧L=[]):=by
 obtain⟨s,h⟩:=BF.of h
 have hb:=h.aM
 have hn:=h.ok.len
 have hn4:=h.ok.wf.n1
 refine TF 19 Tryz.func265 Z yp aC Z Z ?_
 refine kl ?_
 refine VC.loop (fun k:Nat=>[(8,.slice (some ⟨s.cb,0,none⟩) s.rows.length s.rk),(9,.int .i64 s.rows.length),(10,.int .i64 k)]) (fun _=>[]) (fun k=>k≤S.cls.length∧∀j,j<k→∀c,S.cls[j]?=some c→c.q=[]) (fun k=>4-k) 0 ⟨bH _,fun j hj=>by omega⟩ aH ER ?_
 rintro k ⟨hk,hall⟩
 refine al ?_
 refine CP Z (fun h1=>?_) (fun h1=>?_)
 ·have hk2:k<S.cls.length:=by omega
  obtain⟨q,c,hr,hc⟩:=h.ok.row hk2
  have hrow:((flat cN s.rows++s.rest).drop (0+k*4)).take 4=cN (q,c):=by rw[cj];exact oO wM hr _
  refine yR ?_
  refine xW ?_
  refine VG (VD Z Z (aw.jF h.cls hrow) (VG (VO.alloc Z fun b=>VG (VT (vs:=cN (q,c)) (cs':=cN (q,c)) 0 Z Z Z Z (NR _) Z Z Z (VG (VN ?_))))))
  refine al ?_
  refine Oa ?_
  refine CP Z (fun h2=>?_) (fun h2=>?_)
  ·refine al ?_
   refine CR (an.bool 2 Z Z ?_ aa.nil.aj ⟨rfl,Z⟩)
   symm
   rw[aJ.idle,yT]
   refine⟨c,ME hc,?_⟩
   have:0<(c.q.length:Int):=h2
   cases hq:c.q with
   | nil=>rw[hq] at this;simp at this
   | cons _ _=>simp
  ·refine yR ?_
   refine VG (VP Z Z ?_ ?_ ?_)
   ·omega
   ·omega
   refine al ?_
   refine⟨k+1,⟨by omega,fun j hj c' hc'=>?_⟩,by dsimp only;omega,aH,aa.nil.aj⟩
   by_cases hjk:j=k
   ·subst hjk
    rw[hc] at hc';cases hc'
    have h2:¬0<(c.q.length:Int):=h2
    exact iC yg
   ·exact hall j yg c' hc'
 ·have hk2:k=S.cls.length:=by omega
  subst hk2
  refine CX ?_
  refine al ?_
  refine CR (an.bool 2 Z Z ?_ aa.nil.aj ⟨rfl,Z⟩)
  symm
  rw[aJ.idle,nK]
  intro c hc
  obtain⟨j,hj⟩:=nM hc
  rw[hall j (bP.1 hj).1 c hj];rfl
def aJ.fg(S:aJ)(f:aB):Int×aJ:=
 match S.at_ f.cls with
 | none=>(2,S)
 | some c=>if dv f.op≠0 then (2,S) else if c.q.length<S.cap then (0,S.kj f.cls.toNat { c with q:=c.q ++ [f] }) else (60,S)
theorem W5{α β:Type}{g:α→β}{l:List α}{k:Nat}{a:α}:(l.map g).set k (g a)=(l.set k a).map g:=by rw[gZ]
theorem lZ.kj{S:aJ}{s:mD}(h:lZ S s){k q:Nat}{c c':cL}(hr:s.rows[k]?=some (q,c))(hw:(S.kj k c').Wf):lZ (S.kj k c') { s with rows:=s.rows.set k (q,c') }:=
 ⟨hw,by simp[aJ.kj,←h.rows,gZ],by simpa using h.cap⟩
theorem aJ.Wf.set{S:aJ}(h:S.Wf){k:Nat}{c c':cL}(hc:S.cls[k]?=some c)(hw:c'.Wf)(hq:c'.q.length≤S.cap)(hl:(k=S.bt→S.fresh=true)→c'.c_≤95):(S.kj k c').Wf:=by
 have hk:=(bP.1 hc).1
 refine⟨by simpa[aJ.kj] using h.n0,by simpa[aJ.kj] using h.n1,h.dO,h.fM,by simpa[aJ.kj] using h.bt,fun x hx=>?_,fun x hx=>?_,fun j x hx hj=>?_⟩
 ·rcases kx hx with hx | rfl
  ·exact h.cls x hx
  ·exact hw
 ·rcases kx hx with hx | rfl
  ·exact h.qs x hx
  ·exact hq
 ·by_cases hjk:k=j
  ·subst hjk
   simp only[aJ.kj,iR hk,Option.some.injEq] at hx
   subst hx;exact hl hj
  ·simp only[aJ.kj,lU hjk] at hx
   exact h.low j x hx hj
theorem Kr{l:List Row}{k:Nat}{a b:Row}(h:cN a=cN b):flat cN (l.set k a)=flat cN (l.set k b):=by simp[flat,gZ,h]
theorem wV{l:List Row}{k:Nat}{a b:Row}(ha:l[k]?=some a)(h:cN a=cN b):flat cN l=flat cN (l.set k b):=by
 rw[←Kr h]
 have hk:=(bP.1 ha)
 rw[show l.set k a=l from by rw[←hk.2];simp]
theorem xz{p:Nat}{S:aJ}{s:mD}(h:lZ S s):aa (jP p S s) [gj p S]:=aa.aM (M:=[]) s h (aa.of_eq (br _).symm)
theorem MQ{p k q:Nat}{S:aJ}{s:mD}{c c':cL}(hr:s.rows[k]?=some (q,c))(hcs:cN (q,c)=cN (q,c')):
  pt p (s8 S s) 234::pt s.cb (flat cN s.rows++s.rest) 239::(s.rows.map fun r=>dx r.1 r.2.q S.cap).set k (dx q c'.q S.cap)=jP p (S.kj k c') { s with rows:=s.rows.set k (q,c') }:=by
 simp only[jP,s8,fW,←wV hr hcs,gZ];rfl
theorem vB(p:Nat)(S:aJ)(f:FM)(hm:mC Fr w f.2):ax Tryz.prog 298 [.pointer (some ⟨p,0,none⟩),.agg (aY f).toArray] Fr w [gj p S] (fun v L=>v=.int .i64 (S.fg f.1).1∧L=[gj p (S.fg f.1).2]):=by
 refine TF 33 Tryz.func298 Z yp aC Z Z ?_
 refine CS (CG (VG (VB (vs:=aY f) Z fun b=>VG (VN ?_))))
 refine VC.bz 1 Z (bd.aM p S) fun s h=>?_
 refine CN (L':=pt b (aY f) 188::jP p S s) (aa.perm lV).aj ?_
 have hn:=h.len
 have hn0:=h.wf.n0
 have hn4:=h.wf.n1
 have out:∀{X:Cx},dd X (pt b (aY f) 188::jP p S s) [gj p S]:=fun {X}=>(aa.trans aa.tl (xz h)).aj
 refine al ?_
 refine VG (VV (fun Fr w hF _ hs=>fO Fr w (hs.aA 1 Z)) Z (VG (VN ?_)))
 refine CP Z (fun h0=>by omega) (fun _=>?_)
 refine dF ?_
 refine VG (VV (fun Fr w hF _ hs=>wY Fr w f.1.cls (hs.aA 1 Z)) Z (VG (VO.split 14 Z Z (fun h1=>?_) (fun h1=>?_))))
 ·have h1:¬(0≤f.1.cls∧f.1.cls<s.rows.length):=fun hx=>by simp[hx] at h1
  refine sg ?_
  have e:S.fg f.1=(2,S):=by simp only[aJ.fg,aJ.Jb (hn▸h1)]
  exact CR (an.int 4 Z Z Z out ⟨by rw[e],by rw[e]⟩)
 ·have h1:0≤f.1.cls∧f.1.cls<s.rows.length:=by simpa using h1
  obtain⟨k,hfk⟩:=tE h1.1
  have hk:k<S.cls.length:=by omega
  obtain⟨q,c,hr,hc⟩:=h.row hk
  have hat:S.at_ f.1.cls=some c:=by rw[hfk,aJ.EU,hc]
  refine al ?_
  refine VG (VL 0 f.1.op.cells Z Z Z Z ?_)
  refine VG (VO.mf (fun Fr w=>gv Fr w f.1.op) Z (VG (VN ?_)))
  refine VC.dp Z (fun h2=>?_) (fun h2=>?_)
  ·refine al ?_
   have e:S.fg f.1=(2,S):=by simp only[aJ.fg,hat,if_pos h2]
   exact CR (an.int 4 Z Z Z out ⟨by rw[e],by rw[e]⟩)
  ·have h2':¬dv f.1.op≠0:=fun hx=>hx h2
   have hcell:(flat cN s.rows++s.rest)[0+k*4]?=some (.pointer (some ⟨q,0,none⟩)):=by rw[cj];exact wN (j:=0) hr rfl _
   refine CS (CD (ts 0 10 (.only 10 (ts 11 2 .nil))) yp yp ?_)
   refine fj ?_
   refine AG (AI Z (eE k Z Z Z Z Z hfk yg) ?_)
   refine AG (VA.ld 2 Z Z Z Z hcell (AG (VA.dE 0 (aY f) Z Z Z Z Z ?_)))
   refine AG (AQ (k+3) (H:=dx q c.q S.cap) (R:=Mj q c.q S.cap f.1) (ψ:=fun v H=>v=.bool (decide (c.q.length<S.cap))∧H=dx q (if c.q.length<S.cap then c.q ++ [f.1] else c.q) S.cap) Ep (fun Fr w hF hs _=>Ring.vB Fr w q c.q S.cap f (hm.of hF hs)) Z Z (fun v L1 ⟨h3,h4⟩=>⟨_,h4,h3,Z⟩) ?_ ?_)
   ·rintro _ _ ⟨rfl,rfl⟩
    exact(by(try refine Pd.st ?_);(repeat(first|exact Pd.nil|exact Pd.fnil|refine Pd.inner ?_|refine Pd.skip yr ?_|refine zf (zo 0 Z Z) ?_|refine zf (zo 1 Z Z) ?_|refine zf (zm 0 Z Z) ?_|refine zf (zm 1 Z Z) ?_|refine zf (aw.aA (aw.one 2 Z hcell) Z) ?_|refine zf ((aw.one 2 Z hcell)) ?_|refine zc (zo 0 Z Z) ?_|refine zc (zo 1 Z Z) ?_|refine zc (zm 0 Z Z) ?_|refine zc (zm 1 Z Z) ?_|refine zc (aw.aA (aw.one 2 Z hcell) Z) ?_|refine zc ((aw.one 2 Z hcell)) ?_)))
   rintro _ _ ⟨rfl,rfl⟩
   refine bp ?_
   refine VC.fq Z (fun h3=>?_) (fun h3=>?_)
   ·have h3:¬c.q.length<S.cap:=of_decide_eq_false h3
    refine al ?_
    have e:S.fg f.1=(60,S):=by simp only[aJ.fg,hat,if_neg h2',if_neg h3]
    refine CR (an.int 4 Z Z Z ?_ ⟨by rw[e],by rw[e]⟩)
    rw[if_neg h3]
    have e2:S.kj k c=S:=by simp only[aJ.kj];rw[show S.cls.set k c=S.cls from by rw[←(bP.1 hc).2];simp]
    have e3:s.rows.set k (q,c)=s.rows:=by rw[←(bP.1 hr).2];simp
    have e4:=MQ (p:=p) (S:=S) hr (c':=c) rfl
    rw[e2,e3] at e4
    exact(aa.trans aa.tl (aa.trans (aa.of_eq e4) (xz h))).aj
   ·have h3:c.q.length<S.cap:=of_decide_eq_true h3
    refine yR ?_
    have e:S.fg f.1=(0,S.kj k { c with q:=c.q ++ [f.1] }):=by simp only[aJ.fg,hat,if_neg h2',if_pos h3];rw[hfk,ea]
    refine CR (an.int 4 Z Z Z ?_ ⟨by rw[e],by rw[e]⟩)
    rw[if_pos h3]
    have hw:(S.kj k { c with q:=c.q ++ [f.1] }).Wf:=h.wf.set hc ⟨(h.wf.cls c (ME hc)).q0,(h.wf.cls c (ME hc)).q1,(h.wf.cls c (ME hc)).c0,(h.wf.cls c (ME hc)).c1,(h.wf.cls c (ME hc)).s0,(h.wf.cls c (ME hc)).s1⟩ yh (h.wf.low k c hc)
    exact(aa.trans aa.tl (aa.trans (aa.of_eq (MQ (p:=p) hr (c':={ c with q:=c.q ++ [f.1] }) Z)) (xz (h.kj hr hw)))).aj
def aJ.s_(a:Int):Int:=if 4611686018427387904<a then 4611686018427387904 else a
def cL.c0(c:cL):cL:={ c with c_:=0 }
def cL.c1(c:cL)(fr:Bool):cL:={ c with c_:=if fr then c.c_+c.mS else c.c_ }
def cL.c2(c:cL)(fr:Bool)(f:aB)(q:List aB):cL:=⟨q,c.mS,if q=[] then 0 else (c.c1 fr).c_-fP f.op,aJ.s_ (c.served+fP f.op)⟩
def aJ.iO:Nat→aJ→Option (aB×aJ)
 | 0,_=>none
 | n+1,S=>match S.cls[S.bt]? with
  | none=>none
  | some c=>match c.q with
   | []=>iO n ⟨S.cls.set S.bt c.c0,S.cap,(S.bt+1) % S.cls.length,true⟩
   | f::q=>if (c.c1 S.fresh).c_<fP f.op then iO n ⟨S.cls.set S.bt (c.c1 S.fresh),S.cap,(S.bt+1) % S.cls.length,true⟩
    else some (f,if q=[] then ⟨S.cls.set S.bt (c.c2 S.fresh f q),S.cap,(S.bt+1) % S.cls.length,true⟩ else ⟨S.cls.set S.bt (c.c2 S.fresh f q),S.cap,S.bt,false⟩)
theorem Aj(o:bw):0≤fP o∧fP o≤96:=by
 unfold fP
 split
 ·rename_i h
  have hl:qH o=false:=by
   cases hl:qH o with
   | false=>rfl
   | true=>unfold dv at h;rw[hl] at h;split at h<;>simp at h
  have hk:o.key.size≤16∧o.value.size≤64:=by simp[qH] at hl;omega
  omega
 ·omega
theorem aJ.Wf.th{S:aJ}(h:S.Wf){c':cL}(hw:c'.Wf)(hq:c'.q.length≤S.cap)(hl:c'.c_≤95):aJ.Wf ⟨S.cls.set S.bt c',S.cap,(S.bt+1) % S.cls.length,true⟩:=by
 have hn:=h.n0
 refine⟨by simpa using h.n0,by simpa using h.n1,h.dO,h.fM,by simpa using wx _ hn,fun x hx=>?_,fun x hx=>?_,fun j x hx _=>?_⟩
 ·rcases kx hx with hx | rfl
  ·exact h.cls x hx
  ·exact hw
 ·rcases kx hx with hx | rfl
  ·exact h.qs x hx
  ·exact hq
 ·by_cases hjk:S.bt=j
  ·subst hjk
   simp only[iR h.bt,Option.some.injEq] at hx
   subst hx;exact hl
  ·simp only[lU hjk] at hx
   exact h.low j x hx (fun e=>absurd e.symm hjk)
theorem aJ.Wf.stays{S:aJ}(h:S.Wf){c':cL}(hw:c'.Wf)(hq:c'.q.length≤S.cap):aJ.Wf ⟨S.cls.set S.bt c',S.cap,S.bt,false⟩:=by
 refine⟨by simpa using h.n0,by simpa using h.n1,h.dO,h.fM,by simpa using h.bt,fun x hx=>?_,fun x hx=>?_,fun j x hx hj=>?_⟩
 ·rcases kx hx with hx | rfl
  ·exact h.cls x hx
  ·exact hw
 ·rcases kx hx with hx | rfl
  ·exact h.qs x hx
  ·exact hq
 ·have hjk:S.bt≠j:=fun e=>by simpa using hj e.symm
  simp only[lU hjk] at hx
  exact h.low j x hx (fun e=>absurd e.symm hjk)
theorem cL.Wf.empty{c:cL}(h:c.Wf):c.c0.Wf:=⟨h.q0,h.q1,e_ _,by have:=h.q0;show(0:Int)≤c.mS+95;omega,h.s0,h.s1⟩
theorem aJ.Wf.c1{S:aJ}(h:S.Wf){c:cL}(hc:S.cls[S.bt]?=some c):(c.c1 S.fresh).Wf:=by
 have hw:=h.cls c (ME hc)
 have hl:=h.low S.bt c hc
 have h1:=hw.q0;have h2:=hw.c0;have h3:=hw.c1
 refine⟨hw.q0,hw.q1,?_,?_,hw.s0,hw.s1⟩
 ·show(0:Int)≤if S.fresh then c.c_+c.mS else c.c_
  split<;>omega
 ·show(if S.fresh then c.c_+c.mS else c.c_)≤c.mS+95
  split
  ·rename_i hf
   have:=hl (fun _=>hf)
   omega
  ·omega
theorem aJ.Wf.c2{S:aJ}(h:S.Wf){c:cL}(hc:S.cls[S.bt]?=some c){f:aB}{q:List aB}(hq:c.q=f::q)(hcost:¬(c.c1 S.fresh).c_<fP f.op):(c.c2 S.fresh f q).Wf∧(c.c2 S.fresh f q).q.length≤S.cap:=by
 have hw:=h.c1 hc
 have hb:=Aj f.op
 have hqs:=h.qs c (ME hc)
 have h3:=hw.c1;have h4:0≤c.served:=hw.s0;have h5:=hw.q0
 have h3':(c.c1 S.fresh).c_≤c.mS+95:=h3
 have h5':96≤c.mS:=h5
 refine⟨⟨hw.q0,hw.q1,?_,?_,?_,?_⟩,?_⟩
 ·show(0:Int)≤if q=[] then 0 else (c.c1 S.fresh).c_-fP f.op
  split<;>omega
 ·show(if q=[] then 0 else (c.c1 S.fresh).c_-fP f.op)≤c.mS+95
  split<;>omega
 ·show(0:Int)≤aJ.s_ (c.served+fP f.op)
  unfold aJ.s_;split<;>omega
 ·show aJ.s_ (c.served+fP f.op)≤_
  unfold aJ.s_;split<;>omega
 ·rw[hq] at hqs;simp at hqs;show q.length≤S.cap;omega
theorem B'{rows:List Row}{k j:Nat}{r r':Row}{v:Value}(hr:rows[k]?=some r)(hj:j<4)(hc:(cN r).set j v=cN r')(rest:List Value):(flat cN rows++rest).set (0+k*4+j) v=flat cN (rows.set k r')++rest:=by
 rw[cj];exact u_ wM hr hj hc rest
theorem FC{rows:List Row}{k j:Nat}{r r':Row}{v:Value}(hk:k<rows.length)(hj:j<4)(hc:(cN r).set j v=cN r')(rest:List Value):(flat cN (rows.set k r)++rest).set (0+k*4+j) v=flat cN (rows.set k r')++rest:=by
 rw[B' (iR hk) hj hc,wj]
theorem My{rows:List Row}{k q cap:Nat}{c:cL}(hr:rows[k]?=some (q,c)):(rows.map fun r=>dx r.1 r.2.q cap)=(rows.map fun r=>dx r.1 r.2.q cap).set k (dx q c.q cap):=by
 rw[show dx q c.q cap=(fun r:Row=>dx r.1 r.2.q cap) (q,c) from rfl,W5,show rows.set k (q,c)=rows from by rw[←(bP.1 hr).2];simp]
theorem Ay{p k q t n:Nat}{S:aJ}{s:mD}{c cA c':cL}{fr:Bool}{x:Int}(hr:s.rows[k]?=some (q,c))(hcs:cN (q,cA)=cN (q,c'))(hx:x=t)(hn:n=s.rows.length):
  pt p [.slice (some ⟨s.cb,0,none⟩) n s.rk,.int .i64 x,.bool fr] 234::pt s.cb (flat cN (s.rows.set k (q,cA))++s.rest) 239::(s.rows.map fun r=>dx r.1 r.2.q S.cap).set k (dx q c'.q S.cap)=jP p ⟨S.cls.set k c',S.cap,t,fr⟩ { s with rows:=s.rows.set k (q,c') }:=by
 subst hx;subst hn
 simp only[jP,s8,fW,Kr hcs,gZ]
theorem MR{p k q t n:Nat}{S:aJ}{s:mD}{c cA c':cL}{fr:Bool}{x:Int}(hr:s.rows[k]?=some (q,c))(hcs:cN (q,cA)=cN (q,c'))(hq:c'.q=c.q)(hx:x=t)(hn:n=s.rows.length):
  pt p [.slice (some ⟨s.cb,0,none⟩) n s.rk,.int .i64 x,.bool fr] 234::pt s.cb (flat cN (s.rows.set k (q,cA))++s.rest) 239::(s.rows.map fun r=>dx r.1 r.2.q S.cap)=jP p ⟨S.cls.set k c',S.cap,t,fr⟩ { s with rows:=s.rows.set k (q,c') }:=by
 rw[←Ay hr hcs hx hn,hq,←My hr]
theorem lZ.C6{S:aJ}{s:mD}(h:lZ S s){k q:Nat}{c c':cL}{t:Nat}{fr:Bool}(hr:s.rows[k]?=some (q,c))(hw:aJ.Wf ⟨S.cls.set k c',S.cap,t,fr⟩):lZ ⟨S.cls.set k c',S.cap,t,fr⟩ { s with rows:=s.rows.set k (q,c') }:=
 ⟨hw,by simp[←h.rows,gZ],by simpa using h.cap⟩
def Vt(p cb n c t:Nat):HP:=pt p [.slice (some ⟨cb,0,none⟩) n c,.int .i64 ((t+1) % n:Nat),.bool true] 234
theorem CY(p:Nat)(S0:aJ)(N:Nat)(f:aB)(S1:aJ)(hp:S0.iO N=some (f,S1))(hi:S0.idle=false):
  ax Tryz.prog 222 [.pointer (some ⟨p,0,none⟩)] Fr w [gj p S0] (fun v L=>(∃m,v=.tuple #[.agg (aY (f,m)).toArray,.bool true])∧L=[gj p S1]):=by
 refine TF 107 Tryz.func222 Z yp aC Z Z ?_
 refine CS (CG (VG (VO.alloc Z fun b=>VG (VN ?_))))
 refine VC.bz 1 Z (bd.aM p S0) fun s0 h0=>?_
 refine CN (L':=pt b (aY eZ) 188::jP p S0 s0) (aa.perm lV).aj ?_
 refine al ?_
 refine VG (VV (fun Fr w hF _ hs=>fO Fr w (hs.aA 1 Z)) Z ?_)
 refine VG (VY 10 false Z (DF Pq) ?_)
 refine al ?_
 refine Ob ?_
 refine CC rfl (fun h=>by rw[hi] at h;cases h) (fun _=>CK ?_)
 refine CS (VC.label (CS (VC.block ?_)))
 refine VC.loop (σ:=Nat×aJ×mD) (fun _=>[(0,pV p),(2,pV b)]) (fun x=>pt b (aY eZ) 188::jP p x.2.1 x.2.2) (fun x=>lZ x.2.1 x.2.2∧x.2.1.iO x.1=some (f,S1)) (fun x=>x.1) (N,S0,s0) ⟨h0,hp⟩ aH ER ?_
 clear hp
 rintro⟨N,S,s⟩ ⟨h,hp⟩
 dsimp only at h hp ⊢
 have hn:=h.len
 have hn0:=h.wf.n0
 have hn4:=h.wf.n1
 have ht:=h.wf.bt
 obtain⟨q,c,hr,hc⟩:=h.row ht
 have hcell:∀{j:Nat} {v:Value},(cN (q,c))[j]?=some v→(flat cN s.rows++s.rest)[0+S.bt*4+j]?=some v:=fun {j v} hj=>by rw[cj];exact wN hr hj _
 cases N with
 | zero=>simp[aJ.iO] at hp
 | succ N=>
 simp only[aJ.iO,hc] at hp
 refine al ?_
 refine CD (ts 0 10 .nil) yp yp ?_
 refine fj ?_
 refine AG (AI Z (eE S.bt Z Z Z Z Z Z yg) ?_)
 refine uJ ?_
 refine D1 ?_
 refine VG (VO.eB (φ:=BR c.q 0) (fun Fr w hF _ hs=>Sp (cap:=S.cap) Fr w (hs.at_ (S.bt+3) Ep)) Z ?_)
 intro v hv
 unfold BR at hv
 cases hq:c.q with
 | nil=>
  simp only[hq] at hp
  simp only[hq,List.getElem?_nil] at hv
  subst hv
  refine VG (VO.alloc Z fun b5=>VG (VT (vs:=aY eZ) (cs':=aY eZ) 0 Z Z Z Z (NR _) Z Z Z (VG (VN ?_))))
  refine sg ?_
  have hwf:=h.wf.th (c':=c.c0) (h.wf.cls c (ME hc)).empty (h.wf.qs c (ME hc)) Er
  refine VG (VO.st 3 Z Z Z Z (by rw[a8,eu wM];show 0+S.bt*4+2<_;omega) (B' hr yg (r':=(q,c.c0)) Z s.rest) Z (VG (VN ?_)))
  refine al ?_
  refine HL ?_
  rintro _ _ ⟨rfl,rfl⟩
  refine VG (VN (CX ⟨(N,_,_),⟨h.C6 hr hwf,hp⟩,Nat.lt_succ_self N,aH,?_⟩))
  refine(aa.trans aa.tl (aa.cons (aa.of_eq ?_))).aj
  exact MR (c':=c.c0) hr Z Z (by rw[hn]) rfl
 | cons g q'=>
  simp only[hq] at hp
  simp only[hq,uP] at hv
  obtain⟨m,rfl⟩:=hv
  have hlen:∀(l:List Row),l.length=s.rows.length→∀j,j<4→0+S.bt*4+j<(flat cN l++s.rest).length:=fun l hl j hj=>by rw[a8,eu wM,hl];omega
  refine VG (VO.alloc Z fun b5=>VG (VT (vs:=aY (g,m)) (cs':=aY (g,m)) 0 Z Z Z Z (NR _) Z Z Z (VG (VN ?_))))
  refine jR ?_
  refine VC.meet (σ:=Unit) (fun _=>[(0,pV p),(2,pV b),(4,.pointer (some ⟨s.cb,0+S.bt*4,none⟩)),(5,pV b5)])
   (fun _=>pt b5 (aY (g,m)) 188::pt b (aY eZ) 188::pt p [.slice (some ⟨s.cb,0,none⟩) s.rows.length s.rk,.int .i64 S.bt,.bool false] 234::pt s.cb (flat cN (s.rows.set S.bt (q,c.c1 S.fresh))++s.rest) 239::s.rows.map fun r=>dx r.1 r.2.q S.cap) (fun _=>True) ?_ ?_
  ·refine CS (CG (VG (VO.ld 2 Z Z Z Z (VG (VN ?_)))))
   refine CC (t:=S.fresh) Z (fun hf=>?_) (fun hf=>CK ⟨(),trivial,aH,dd.of_eq ?_⟩)
   ·refine CS (CD (ts 0 11 (.only 11 .nil)) yp yp ?_)
    have hwc:=h.wf.cls c (ME hc)
    have:=hwc.q0;have:=hwc.q1;have:=hwc.c0;have:=hwc.c1
    refine AG (VA.ld 3 Z Z Z Z (hcell (j:=2) Z) (AG (VA.ld 3 Z Z Z Z (hcell (j:=1) Z) ?_)))
    refine AG (AP Z Z Z ?_ ?_ ?_)
    ·dsimp only;omega
    ·dsimp only;omega
    refine AG (VA.st 3 Z Z Z Z Z (hlen _ Z 2 yg) (B' hr yg (r':=(q,c.c1 S.fresh)) (by rw[hf];rfl) s.rest) Z yu ?_)
    refine uJ ?_
    refine HK ?_
    exact⟨(),trivial,aH,ER⟩
   ·unfold jP s8
    rw[hf,←wV hr (b:=(q,c.c1 false)) rfl]
    rfl
  intro _ _
  have hk:S.bt<s.rows.length:=by omega
  have hr1:(s.rows.set S.bt (q,c.c1 S.fresh))[S.bt]?=some (q,c.c1 S.fresh):=iR hk
  have hcell1:∀{j:Nat} {v:Value},(cN (q,c.c1 S.fresh))[j]?=some v→(flat cN (s.rows.set S.bt (q,c.c1 S.fresh))++s.rest)[0+S.bt*4+j]?=some v:=fun {j v} hj=>by rw[cj];exact wN hr1 hj _
  have hcost:=Aj g.op
  have hw1:=h.wf.c1 hc
  have:=hw1.q0;have:=hw1.q1;have hc0:=hw1.c0;have hc1:=hw1.c1;have hs0:0≤c.served:=hw1.s0;have hs1:c.served≤4611686018427387904:=hw1.s1
  refine al ?_
  refine VG (VL 0 g.op.cells Z Z Z Z (VG (VO.mf (fun Fr w=>Rc Fr w g.op) Z (VG (VN ?_)))))
  refine al ?_
  refine VG (VO.ld 3 Z Z Z (hcell1 (j:=2) Z) (VG (VN ?_)))
  refine CP Z (fun hlt=>?_) (fun hlt=>CK ?_)
  ·have hlt:(c.c1 S.fresh).c_<fP g.op:=hlt
   rw[if_pos hlt] at hp
   have hwf:=h.wf.th (c':=c.c1 S.fresh) hw1 (h.wf.qs c (ME hc)) yg
   refine al ?_
   refine HL ?_
   rintro _ _ ⟨rfl,rfl⟩
   refine VG (VN (CX ⟨(N,_,_),⟨h.C6 hr hwf,hp⟩,Nat.lt_succ_self N,aH,?_⟩))
   refine(aa.trans aa.tl (aa.cons (aa.of_eq ?_))).aj
   exact MR (c':=c.c1 S.fresh) hr Z Z (by rw[hn]) rfl
  ·have hlt:¬(c.c1 S.fresh).c_<fP g.op:=hlt
   rw[if_neg hlt] at hp
   obtain⟨hwf2,hq2⟩:=h.wf.c2 hc hq hlt
   refine al ?_
   refine VG (VO.ld 3 Z Z Z (hcell1 (j:=0) Z) ?_)
   refine VG (VQ (S.bt+4) (H:=dx q c.q S.cap) (ψ:=fun v H=>(∃m,v=.tuple #[.agg (aY (g,m)).toArray,.bool true])∧H=dx q q' S.cap) (by simp[hr]) (fun Fr w _ _ _=>Ring.VU Fr w q c.q S.cap) Z (fun v L1 h1=>by rw[hq] at h1;exact⟨_,h1.2,h1.1,Z⟩) ?_)
   rintro _ _ ⟨⟨m',rfl⟩,rfl⟩
   refine VG (VT (vs:=aY (g,m')) (cs':=aY (g,m')) 1 Z Z Z Z (NR _) Z Z Z (VG (VN ?_)))
   refine al ?_
   refine VG (VO.ld 3 Z Z Z (hcell1 (j:=2) Z) ?_)
   refine VG (VO.xH Z Z ?_ ?_ ?_)
   ·dsimp only;omega
   ·dsimp only;omega
   refine VG (VO.st 3 Z Z Z Z (hlen _ yi 2 yg) (FC hk yg (r':=(q,{ c with c_:=(c.c1 S.fresh).c_-fP g.op })) Z s.rest) Z (VG (VN ?_)))
   have hr2:∀c':cL,(s.rows.set S.bt (q,c'))[S.bt]?=some (q,c'):=fun c'=>iR hk
   have hcell2:∀{c':cL} {j:Nat} {v:Value},(cN (q,c'))[j]?=some v→(flat cN (s.rows.set S.bt (q,c'))++s.rest)[0+S.bt*4+j]?=some v:=fun {c' j v} hj=>by rw[cj];exact wN (hr2 c') hj _
   refine al ?_
   refine VG (VO.ld 3 Z Z Z (hcell2 (j:=3) Z) ?_)
   refine VG (VP Z Z ?_ ?_ ?_)
   ·dsimp only;omega
   ·dsimp only;omega
   refine VG (VO.st 3 Z Z Z Z (hlen _ yi 3 yg) (FC hk yg (r':=(q,{ c with c_:=(c.c1 S.fresh).c_-fP g.op,served:=aJ.s_ (c.served+fP g.op) })) Z s.rest) Z (VG (VN ?_)))
   refine al ?_
   refine VG (VO.ld 3 Z Z Z (hcell2 (j:=0) Z) ?_)
   refine VG (VV (fun Fr w hF _ hs=>Ring.kJ (q:=q') (cap:=S.cap) Fr w (hs.at_ (S.bt+4) (by simp[hk]))) Z (VG (VN ?_)))
   refine CE Z (fun hz=>?_) (fun hz=>CK (CX ?_))
   ·have hz:q'=[]:=iC yg
    rw[if_pos hz] at hp
    cases hp
    have hcr:(c.c2 S.fresh f q').c_=0:=by show(if q'=[] then 0 else (c.c1 S.fresh).c_-fP f.op)=0;rw[if_pos hz]
    have hwf:=h.wf.th hwf2 hq2 (by rw[hcr];omega)
    refine al ?_
    refine VG (VO.st 3 Z Z Z Z (hlen _ yi 2 yg) (FC hk yg (r':=(q,{ c with c_:=0,served:=aJ.s_ (c.served+fP f.op) })) Z s.rest) Z (VG (VN ?_)))
    refine al ?_
    refine HL ?_
    rintro _ _ ⟨rfl,rfl⟩
    refine VG (VN (CX ?_))
    refine al ?_
    refine VG (VL 1 (aY (f,m')) Z Z Z Z (VG (VT (vs:=aY (f,m')) (cs':=aY (f,m')) 1 Z Z Z Z (NR _) Z Z Z (VG (VN ?_)))))
    refine CR (an.dt 2 3 Z Z Z (aw.many 1 Z Z) Z ?_ ⟨⟨m',Z⟩,Z⟩)
    have e:=Ay (p:=p) (S:=S) (cA:={ c with c_:=0,served:=aJ.s_ (c.served+fP f.op) }) (c':=c.c2 S.fresh f q') (fr:=true) hr Es (show(((S.bt+1) % s.rows.length:Nat):Int)=((S.bt+1) % S.cls.length:Nat) by rw[hn]) rfl
    exact Oc
   ·have hz:q'≠[]:=fun e=>hz (by simp[e])
    rw[if_neg hz] at hp
    cases hp
    have hcr:(c.c2 S.fresh f q').c_=(c.c1 S.fresh).c_-fP f.op:=by show(if q'=[] then 0 else (c.c1 S.fresh).c_-fP f.op)=_;rw[if_neg hz]
    have hwf:=h.wf.stays hwf2 hq2
    refine al ?_
    refine VG (VL 1 (aY (f,m')) Z Z Z Z (VG (VT (vs:=aY (f,m')) (cs':=aY (f,m')) 1 Z Z Z Z (NR _) Z Z Z (VG (VN ?_)))))
    refine CR (an.dt 2 3 Z Z Z (aw.many 1 Z Z) Z ?_ ⟨⟨m',Z⟩,Z⟩)
    have e:=Ay (p:=p) (S:=S) (cA:={ c with c_:=(c.c1 S.fresh).c_-fP f.op,served:=aJ.s_ (c.served+fP f.op) }) (c':=c.c2 S.fresh f q') (fr:=false) hr Es (rfl:((S.bt:Nat):Int)=(S.bt:Nat)) rfl
    exact Oc
end Sched
namespace Sched
open Go Vg T Api Ring
attribute [local irreducible] VO VC VA
def zH(a:Option Addr)(c:Nat)(gs:List FM):HP:=aq 188 29 a gs.length c (flat aY gs)
theorem Sl(a:Option Addr)(c:Nat)(gs:List FM)(g:FM):aq 188 29 a (gs.length+1) c (flat aY gs++aY g)=zH a c (gs ++ [g]):=by
 simp[zH,fu,lz,sM]
theorem aJ.Wf.jq{S:aJ}(h:S.Wf)(i:Nat):((S.cls.take i).flatMap cL.q).length≤64:=by
 have hq:=h.qs;have hn:=h.n1;have hc:=h.fM
 have:∀(l:List cL),(∀c∈l,c.q.length≤16)→(l.flatMap cL.q).length≤l.length*16:=by
  intro l
  induction l with
  | nil=>intro _;simp
  | cons c l ih=>intro hl;rw[uO,a8,ku];have:=hl c yi;have:=ih (fun c hc=>hl c (by simp[hc]));omega
 have h2:=this (S.cls.take i) (fun c hc=>by have:=hq c (List.mem_of_mem_take hc);omega)
 have:(S.cls.take i).length≤4:=by rw[jj];omega
 omega
def gone(now:Int)(f:aB):Bool:=decide (f.deadline<now)
def stay(now:Int)(f:aB):Bool:=!gone now f
def cL.pE(now:Int)(c:cL):cL:=⟨c.q.filter (stay now),c.mS,if c.q.filter (stay now)=[] then 0 else c.c_,c.served⟩
def aJ.dD(S:aJ)(now:Int):List aB:=S.cls.flatMap fun c=>c.q.filter (gone now)
def aJ.jW(S:aJ)(now:Int):aJ:={ S with cls:=S.cls.map (cL.pE now) }
theorem cL.Wf.exp{c:cL}(h:c.Wf)(now:Int):(c.pE now).Wf:=by
 have:=h.q0;have:=h.c0;have:=h.c1
 refine⟨h.q0,h.q1,?_,?_,h.s0,h.s1⟩
 ·show(0:Int)≤if _ then 0 else c.c_
  split<;>omega
 ·show(if _ then 0 else c.c_)≤c.mS+95
  split<;>omega
abbrev IV:=Nat×aJ×mD×Option Addr×Nat×List FM
structure IU(S0:aJ)(now:Int)(s0:mD)(x:IV):Prop where
 le:x.1≤S0.cls.length
 ok:lZ x.2.1 x.2.2.1
 cls:∀k,x.2.1.cls[k]?=(S0.cls[k]?).map (if k<x.1 then cL.pE now else id)
 cap:x.2.1.cap=S0.cap
 bt:x.2.1.bt=S0.bt
 fresh:x.2.1.fresh=S0.fresh
 cb:x.2.2.1.cb=s0.cb
 rk:x.2.2.1.rk=s0.rk
 rows:x.2.2.1.rows.length=s0.rows.length
 room:x.2.2.2.2.2.length≤x.2.2.2.2.1
 gs:x.2.2.2.2.2.map Prod.fst=(S0.cls.take x.1).flatMap fun c=>c.q.filter (gone now)
structure P5(cl:cL)(now:Int)(gs0:List aB)(x:Nat×List aB×Option Addr×Nat×List FM):Prop where
 le:x.1≤cl.q.length
 cur:x.2.1=cl.q.drop x.1++(cl.q.take x.1).filter (stay now)
 room:x.2.2.2.2.length≤x.2.2.2.1
 gs:x.2.2.2.2.map Prod.fst=gs0++(cl.q.take x.1).filter (gone now)
theorem aJ.Wf.Fv{S:aJ}(h:S.Wf)(i:Nat)(now:Int):((S.cls.take i).flatMap fun c=>c.q.filter (gone now)).length≤64:=by
 have hq:=h.qs;have hn:=h.n1;have hc:=h.fM
 have:∀(l:List cL),(∀c∈l,c.q.length≤16)→(l.flatMap fun c=>c.q.filter (gone now)).length≤l.length*16:=by
  intro l
  induction l with
  | nil=>intro _;simp
  | cons c l ih=>intro hl;rw[uO,a8,ku];have:=hl c yi;have:=ih (fun c hc=>hl c (by simp[hc]));have:=qf (gone now) c.q;omega
 have h2:=this (S.cls.take i) (fun c hc=>by have:=hq c (List.mem_of_mem_take hc);omega)
 have:(S.cls.take i).length≤4:=by rw[jj];omega
 omega
theorem wQ(p:Nat)(S0:aJ)(now:Int):
  ax Tryz.prog 264 [.pointer (some ⟨p,0,none⟩),.int .i64 now] Fr w [gj p S0] (fun v L=>∃a c gs,gs.map Prod.fst=S0.dD now∧v=.slice a gs.length c∧L=[gj p (S0.jW now),zH a c gs]):=by
 refine TF 67 Tryz.func264 Z yp aC Z Z ?_
 refine VC.bz 0 Z (bd.aM p S0) fun s0 h0=>?_
 refine CN (L':=jP p S0 s0) (aa.of_eq (br _)).aj ?_
 have hn:=h0.len
 have hn0:=h0.wf.n0
 have hn4:=h0.wf.n1
 refine al ?_
 refine VG (VV (fun Fr w hF _ hs=>fO Fr w (hs.aA 0 Z)) Z (VG (VN ?_)))
 refine CP Z (fun h=>by omega) (fun _=>CK ?_)
 refine al ?_
 refine VC.loop (σ:=IV) (fun x=>[(0,pV p),(1,.int .i64 now),(5,.slice x.2.2.2.1 x.2.2.2.2.2.length x.2.2.2.2.1),(16,.int .i64 s0.rows.length),(17,.int .i64 x.1)]) (fun x=>zH x.2.2.2.1 x.2.2.2.2.1 x.2.2.2.2.2::jP p x.2.1 x.2.2.1) (IU S0 now s0) (fun x=>4-x.1) (0,S0,s0,none,0,[]) ⟨bH _,h0,fun k=>by simp,Z,Z,Z,Z,Z,Z,NR _,Z⟩ aH (aa.cK aa.refl).aj ?_
 rintro⟨i,S,s,a,c,gs⟩ ⟨hi,h,hcls,hcap,hturn,hfresh,hcb,hccap,hrows,hroom,hgs⟩
 dsimp only at hi h hcls hcap hturn hfresh hcb hccap hrows hroom hgs ⊢
 refine al ?_
 refine CP Z (fun h1=>?_) (fun h1=>?_)
 ·have hk0:i<S0.cls.length:=by omega
  obtain⟨c0,hc0⟩:∃c0,S0.cls[i]?=some c0:=⟨_,GE hk0⟩
  have hc0':S.cls[i]?=some c0:=by rw[hcls i,hc0,if_neg (za i)];rfl
  have hk:i<S.cls.length:=(bP.1 hc0').1
  obtain⟨q,cl,hr,hc⟩:=h.row hk
  obtain rfl:cl=c0:=by rw[hc] at hc0';exact ij hc0'
  have hql:=h.wf.qs cl (ME hc)
  have hcap16:=h.wf.fM
  have hki:i<s.rows.length:=by omega
  have hcell:∀{j:Nat} {v:Value},(cN (q,cl))[j]?=some v→(flat cN s.rows++s.rest)[0+i*4+j]?=some v:=fun {j v} hj=>by rw[cj];exact wN hr hj _
  refine CK ?_
  refine dF ?_
  refine VG (VI (eE i Z Z Z Z Z Z hki) ?_)
  refine dF ?_
  refine D1 ?_
  refine VG (VV (fun Fr w hF _ hs=>Ring.kJ (q:=cl.q) (cap:=S.cap) Fr w (hs.at_ (i+3) Ep)) Z (VG (VN ?_)))
  refine al ?_
  refine VC.loop (σ:=Nat×List aB×Option Addr×Nat×List FM) (fun x=>[(0,pV p),(1,.int .i64 now),(5,.slice x.2.2.1 x.2.2.2.2.length x.2.2.2.1),(7,.pointer (some ⟨s.cb,0+i*4,none⟩)),(16,.int .i64 s0.rows.length),(17,.int .i64 i),(30,.int .i64 cl.q.length),(31,.int .i64 x.1)]) (fun x=>zH x.2.2.1 x.2.2.2.1 x.2.2.2.2::pt p (s8 S s) 234::pt s.cb (flat cN s.rows++s.rest) 239::(s.rows.map fun r=>dx r.1 r.2.q S.cap).set i (dx q x.2.1 S.cap)) (P5 cl now ((S0.cls.take i).flatMap fun c=>c.q.filter (gone now))) (fun x=>16-x.1) (0,cl.q,a,c,gs) ⟨bH _,by simp,hroom,by simpa using hgs⟩ aH (dd.of_eq (by dsimp only;rw[←My hr];rfl)) ?_
  rintro⟨j,cur,a,c,gs⟩ ⟨hj,hcur,hroom,hgs⟩
  dsimp only at hj hcur hroom hgs ⊢
  have hfew:=h0.wf.Fv i now
  have hgl:gs.length≤80:=by
   have:=congrArg List.length hgs
   have h3:=qf (gone now) (cl.q.take j)
   have h4:=yX j cl.q
   rw[cY,a8] at this
   omega
  have hrl:(s.rows.map fun r=>dx r.1 r.2.q S.cap).length=s.rows.length:=by simp
  refine al ?_
  refine CP Z (fun h2=>?_) (fun h2=>?_)
  ·have hj2:j<cl.q.length:=by omega
   have hf:=GE hj2
   have hdrop:cl.q.drop j=cl.q[j]::cl.q.drop (j+1):=Bu hj2
   generalize cl.q[j]=f at hf hdrop
   have htake:cl.q.take (j+1)=cl.q.take j ++ [f]:=by rw[fX,hf];rfl
   have hcur2:cur=f::(cl.q.drop (j+1)++(cl.q.take j).filter (stay now)):=by rw[hcur,hdrop];rfl
   refine yR ?_
   refine D1 ?_
   refine VG (VO.op rfl rfl rfl (aK.QH (i+3) (H:=dx q cur S.cap) (R:=Ring.uk q S.cap cur) (ψ:=fun v M H=>(∃m,v=.tuple #[.agg (aY (f,m)).toArray,.bool true]∧M=jM m)∧H=dx q (cl.q.drop (j+1)++(cl.q.take j).filter (stay now)) S.cap) (by simp[hki]) (fun Fr w _ _ _=>Ring.CY Fr w q cur S.cap) rfl (fun v L1 h1=>by rw[hcur2] at h1;obtain⟨m,h2,h3⟩:=h1;exact⟨_,_,h3,⟨m,h2,rfl⟩,rfl⟩)) ?_)
   rintro _ _ ⟨_,_,⟨⟨m,rfl,rfl⟩,rfl⟩,rfl⟩
   refine VG (VO.alloc Z fun b8=>VG (VT (vs:=aY (f,m)) (cs':=aY (f,m)) 0 Z Z Z Z (NR _) Z Z Z (VG (VN ?_))))
   refine al ?_
   refine CP Z (fun h3=>?_) (fun h3=>?_)
   ·have h3:f.deadline<now:=h3
    have hg:gone now f=true:=by simp[gone,h3]
    have hs:stay now f=false:=by simp[stay,hg]
    refine al ?_
    refine VG (VL 0 (aY (f,m)) Z Z Z Z ?_)
    refine VG (VO.buildSlice (n:=1) (pv:=[(0,.agg (aY (f,m)).toArray)]) (aY (f,m)) Z Z Z Z yy (eY Z Z Z) fun nb=>?_)
    refine VG (VO.append (m:=1) (news:=aY (f,m)) 3 Z Z Z Z Z Z Z (dm.pt 0 Z Z Z) Z (by show(gs.length+1)*288≤_;omega) yg fun a' c' hc'=>VG (VN ?_))
    refine jC ?_
    have hL:(gs ++ [(f,m)]).length=gs.length+1:=by simp
    refine⟨(j+1,cl.q.drop (j+1)++(cl.q.take j).filter (stay now),a',c',gs ++ [(f,m)]),⟨hj2,by dsimp only;rw[htake,uN];simp[hs],by dsimp only;rw[hL];exact hc',?_⟩,by dsimp only;omega,SC Z (SC Z (SC (by rw[hL];rfl) aH)),?_⟩
    ·dsimp only;rw[gn,hgs,htake,uN,ed];simp[hg]
    ·dsimp only
     rw[←Sl]
     refine(aa.cons (aa.trans aa.tl (aa.trans aa.tl (aa.trans aa.tl (aa.of_eq ?_))))).aj
     show _::_::((s.rows.map fun r=>dx r.1 r.2.q S.cap).set i (dx q cur S.cap)).set i _=_
     rw[wj]
   ·have h3:¬f.deadline<now:=h3
    have hg:gone now f=false:=by simp[gone];omega
    have hs:stay now f=true:=by simp[stay,hg]
    have hlt:(cl.q.drop (j+1)++(cl.q.take j).filter (stay now)).length<S.cap:=by
     have h4:=qf (stay now) (cl.q.take j)
     have h5:=yX j cl.q
     rw[a8,su]
     omega
    refine CD (ts 0 5 (.only 5 .nil)) yp yp ?_
    have hc3:(flat cN s.rows++s.rest)[0+i*4]?=some (.pointer (some ⟨q,0,none⟩)):=hcell (j:=0) rfl
    refine AG (VA.ld 4 Z Z Z Z hc3 (AG (VA.dE 0 (aY (f,m)) Z Z Z Z Z ?_)))
    refine AG (AQ (i+5) (H:=dx q (cl.q.drop (j+1)++(cl.q.take j).filter (stay now)) S.cap) (ψ:=fun v H=>H=dx q (cl.q.drop (j+1)++(cl.q.take j).filter (stay now) ++ [f]) S.cap) (by simp[hki]) (fun Fr w _ _ hS=>Ring.vB Fr w q _ S.cap (f,m) (mC.sat (hS.at_ 1 Z))) Z Z (fun v L1 h1=>⟨_,h1.2,by rw[if_pos hlt]⟩) ?_ ?_)
    ·rintro _ _ rfl
     exact(by(try refine Pd.st ?_);(repeat(first|exact Pd.nil|exact Pd.fnil|refine Pd.inner ?_|refine Pd.skip yr ?_|refine zf (zo 0 Z Z) ?_|refine zf (zo 1 Z Z) ?_|refine zf (zm 0 Z Z) ?_|refine zf (zm 1 Z Z) ?_|refine zf (aw.aA (aw.one 4 Z hc3) Z) ?_|refine zf ((aw.one 4 Z hc3)) ?_|refine zc (zo 0 Z Z) ?_|refine zc (zo 1 Z Z) ?_|refine zc (zm 0 Z Z) ?_|refine zc (zm 1 Z Z) ?_|refine zc (aw.aA (aw.one 4 Z hc3) Z) ?_|refine zc ((aw.one 4 Z hc3)) ?_)))
    rintro _ _ rfl
    refine bp ?_
    refine jC ?_
    refine⟨(j+1,cl.q.drop (j+1)++(cl.q.take j).filter (stay now) ++ [f],a,c,gs),⟨hj2,by dsimp only;rw[htake,uN,ed];simp[hs],hroom,by dsimp only;rw[hgs,htake,uN];simp[hg]⟩,by dsimp only;omega,aH,?_⟩
    refine(aa.trans aa.tl (aa.trans aa.tl (aa.cons (aa.of_eq ?_)))).aj
    show _::_::(((s.rows.map fun r=>dx r.1 r.2.q S.cap).set i (dx q cur S.cap)).set i _).set i _=_
    rw[wj,wj]
  ·have hj2:j=cl.q.length:=by omega
   subst hj2
   rw[iT] at hgs
   have hcur3:cur=cl.q.filter (stay now):=by rw[hcur];simp
   subst hcur3
   have hle2:=qf (stay now) cl.q
   have hwf':aJ.Wf ⟨S.cls.set i (cl.pE now),S.cap,S.bt,S.fresh⟩:=h.wf.set hc ((h.wf.cls cl (ME hc)).exp now) (by show(cl.q.filter (stay now)).length≤S.cap;omega) (fun hl=>by
    have:=h.wf.low i cl hc hl
    show(if cl.q.filter (stay now)=[] then 0 else cl.c_)≤95
    split<;>omega)
   have hnext:IU S0 now s0 (i+1,⟨S.cls.set i (cl.pE now),S.cap,S.bt,S.fresh⟩,{ s with rows:=s.rows.set i (q,cl.pE now) },a,c,gs):=by
    refine⟨hk0,h.C6 hr hwf',fun k=>?_,hcap,hturn,hfresh,hcb,hccap,by simpa using hrows,hroom,?_⟩
    ·dsimp only
     by_cases hik:i=k
     ·subst hik
      rw[iR hk,hc0,if_pos (Nat.lt_succ_self i)];rfl
     ·rw[lU hik,hcls k]
      congr 1
      by_cases h9:k<i
      ·rw[if_pos h9,if_pos yg]
      ·rw[if_neg h9,if_neg yg]
    ·dsimp only;rw[hgs,fX,hc0,wg];simp
   refine CX ?_
   refine al ?_
   refine D1 ?_
   refine VG (VV (fun Fr w hF _ hs=>Ring.kJ (q:=cl.q.filter (stay now)) (cap:=S.cap) Fr w (hs.at_ (i+3) (by simp[hki]))) Z (VG (VN ?_)))
   refine CE Z (fun hz=>?_) (fun hz=>CK ?_)
   ·have hz:cl.q.filter (stay now)=[]:=iC yg
    have hcr:(cl.pE now).c_=0:=by show(if cl.q.filter (stay now)=[] then 0 else cl.c_)=0;rw[if_pos hz]
    refine al ?_
    refine VG (VO.st 2 Z Z Z Z (by rw[a8,eu wM];show 0+i*4+2<_;omega) (B' hr yg (r':=(q,cl.c0)) Z s.rest) Z (VG (VN ?_)))
    refine jC ?_
    refine⟨_,hnext,by dsimp only;omega,SC Z (SC Z (SC Z (SC Z (SC Z (SN _))))),(aa.cons (aa.of_eq ?_)).aj⟩
    exact Ay (cA:=cl.c0) (c':=cl.pE now) hr Es Z rfl
   ·have hz:cl.q.filter (stay now)≠[]:=fun e=>hz Bj
    have hcr:(cl.pE now).c_=cl.c_:=by show(if cl.q.filter (stay now)=[] then 0 else cl.c_)=_;rw[if_neg hz]
    refine jC ?_
    refine⟨_,hnext,by dsimp only;omega,SC Z (SC Z (SC Z (SC Z (SC Z (SN _))))),(aa.cons (aa.of_eq ?_)).aj⟩
    rw[wV hr (b:=(q,cl)) rfl]
    exact Ay (cA:=cl) (c':=cl.pE now) hr Es Z rfl
 ·have hk:i=S0.cls.length:=by omega
  subst hk
  rw[iT] at hgs
  refine CX ?_
  refine al ?_
  have e:S=S0.jW now:=by
   obtain⟨cls,cap,bt,fresh⟩:=S
   dsimp only at hcls hcap hturn hfresh
   subst hcap;subst hturn;subst hfresh
   show aJ.mk _ _ _ _=aJ.mk _ _ _ _
   congr 1
   apply qe
   intro k
   rw[hcls k,dH]
   by_cases h9:k<S0.cls.length
   ·rw[if_pos h9]
   ·rw[kr yg];rfl
  subst e
  refine CR (an.tmp 4 Z Z (aa.trans (aa.perm (lV (l₁:=[_]))) (aa.app (xz h) aa.refl)).aj ⟨a,c,gs,hgs,Z,Z⟩)
end Sched
namespace Sched
open Go Vg T Api Ring
attribute [local irreducible] VO VC VA
structure gp(Fr:Nat→Prop)(w:World)(a:Option Addr)(qs:List Int):Prop where
 at_:qs≠[]→∃b off,a=some ⟨b,off,none⟩∧Fr b∧∀i v,qs[i]?=some v→w.cell? ⟨b,off+i,none⟩=some (.int .i64 v)
def rR(q:Int):Bool:=decide (96≤q)&&decide (q≤65536)
def og(qs:List Int)(cap:Int):Bool:=decide (1≤qs.length)&&decide (qs.length≤4)&&decide (1≤cap)&&decide (cap≤16)&&qs.all rR
def pA(q:Int):cL:=⟨[],q,0,0⟩
def aJ.new(qs:List Int)(cap:Int):aJ:=⟨qs.map pA,cap.toNat,0,true⟩
theorem aJ.LM{qs:List Int}{cap:Int}(h:og qs cap=true):(aJ.new qs cap).Wf:=by
 simp only[og,eG,decide_eq_true_eq,nK,rR] at h
 obtain⟨⟨⟨⟨h1,h2⟩,h3⟩,h4⟩,h5⟩:=h
 refine⟨by simpa[aJ.new] using h1,by simpa[aJ.new] using h2,by simp[aJ.new];omega,by simp[aJ.new];omega,by simp[aJ.new];omega,fun c hc=>?_,fun c hc=>?_,fun k c hc _=>?_⟩
 ·obtain⟨q,hq,rfl⟩:=cy.1 hc
  have:=h5 q hq
  exact⟨this.1,this.2,e_ _,by show(0:Int)≤q+95;omega,e_ _,by show(0:Int)≤_;omega⟩
 ·obtain⟨q,hq,rfl⟩:=cy.1 hc
  simp[pA]
 ·obtain⟨q,hq,rfl⟩:=cy.1 (ME hc)
  show(0:Int)≤95;omega
abbrev BB:=Nat×Option Addr×Nat×List Row
def LJ(p:Nat)(cap:Nat)(x:BB):List HP:=pt p [.slice x.2.1 x.1 x.2.2.1,.int .i64 0,.bool true] 234::aq 239 4 x.2.1 x.1 x.2.2.1 (flat cN x.2.2.2)::x.2.2.2.map fun r=>dx r.1 r.2.q cap
def cJ(qs:List Int)(cap:Int)(v:Value)(L:List HP):Prop:=if og qs cap=true then ∃p,v=.tuple #[.pointer (some ⟨p,0,none⟩),.int .i64 0]∧L=[gj p (aJ.new qs cap)] else v=.tuple #[.pointer none,.int .i64 2]∧L=[]
theorem cJ.bad{X:Cx}{e:Env}{L:List HP}{qs:List Int}{cap:Int}(h:og qs cap=false)(h4:Vg.look e 4=some (.pointer none))(h5:Vg.look e 5=some (.int .i64 2)):Vg.an X Tryz.f91 (cJ qs cap) e L:=
 an.cV 4 5 rfl h4 h5 aa.nil.aj (by unfold cJ;rw[if_neg (by rw[h];simp)];exact⟨rfl,rfl⟩)
structure EM(qs:List Int)(x:BB):Prop where
 le:x.1≤qs.length
 room:x.1≤x.2.2.1
 rows:x.2.2.2.map Prod.snd=(qs.take x.1).map pA
 ok:(qs.take x.1).all rR=true
theorem EM.len{qs:List Int}{x:BB}(h:EM qs x):x.2.2.2.length=x.1:=by
 have:=congrArg List.length h.rows
 have h2:=h.le
 simp only[cY,jj] at this
 omega
theorem lK(a:Option Addr)(qc:Nat)(qs:List Int)(cap:Int)(hq:gp Fr w a qs):
  ax Tryz.prog 91 [.slice a qs.length qc,.int .i64 cap] Fr w [] (cJ qs cap):=by
 refine TF 62 Tryz.func91 Z yp aC Z Z ?_
 refine al ?_
 refine VG (VO.split 13 Z Z (fun h1=>?_) (fun h1=>VG (VO.split 18 Z Z (fun h2=>?_) (fun h2=>VG (VO.split 22 Z Z (fun h3=>?_) (fun h3=>?_))))))
 ·have h1:=of_decide_eq_true h1
  refine VG (VY 18 true Z Z (VG (VY 22 true Z Z (VG (VN (VC.mi Z ?_))))))
  refine al ?_
  refine CR (cJ.bad ?_ Z Z)
  have:¬(1≤qs.length):=by omega
  simp[og,this]
 ·have h2:=of_decide_eq_true h2
  refine VG (VY 22 true Z Z (VG (VN (VC.mi Z ?_))))
  refine al ?_
  refine CR (cJ.bad ?_ Z Z)
  have:¬(qs.length≤4):=by omega
  simp[og,this]
 ·have h3:=of_decide_eq_true h3
  refine VG (VN (VC.mi Z ?_))
  refine al ?_
  refine CR (cJ.bad ?_ Z Z)
  have:¬(1≤cap):=by omega
  simp[og,this]
 have h1:=of_decide_eq_false h1
 have h2:=of_decide_eq_false h2
 have h3:=of_decide_eq_false h3
 refine al ?_
 refine CP Z (fun h4=>?_) (fun h4=>CK ?_)
 ·refine al ?_
  refine CR (cJ.bad ?_ Z Z)
  have:¬(cap≤16):=by omega
  simp[og,this]
 obtain⟨cp,rfl⟩:=tE (show 0≤cap by omega)
 obtain⟨b,off,ha,hF,hcell⟩:=hq.at_ (fun e=>by rw[e] at h1;simp at h1)
 subst ha
 refine CS (CG (VG (VI (LB [.slice none 0 0,.int .i64 0,.bool true] Z Z Z Z Z) (VG (VB (vs:=[.slice none 0 0,.int .i64 0,.bool true]) Z fun p=>VG (VN ?_))))))
 refine al ?_
 refine VC.loop (σ:=BB) (fun x=>[(0,.slice (some ⟨b,off,none⟩) qs.length qc),(1,.int .i64 cp),(4,pV p),(28,.slice (some ⟨b,off,none⟩) qs.length qc),(29,.int .i64 qs.length),(30,.int .i64 x.1)]) (LJ p cp) (EM qs) (fun x=>4-x.1) (0,none,0,[]) ⟨bH _,NR _,Z,Z⟩ aH ?_ ?_
 ·exact(aa.cons (aa.cK aa.refl)).aj
 rintro⟨i,a,c,rows⟩ hI
 have hle:=hI.le;have hroom:=hI.room;have hlen:=hI.len;have hrows:=hI.rows;have hok:=hI.ok
 dsimp only at hle hroom hlen hrows hok ⊢
 refine al ?_
 refine CP Z (fun h5=>?_) (fun h5=>?_)
 ·have h5:i<qs.length:=by omega
  have hqi:=GE h5
  have hmem:qs[i]∈qs:=List.getElem_mem h5
  have htake:qs.take (i+1)=qs.take i ++ [qs[i]]:=by rw[fX,hqi];rfl
  generalize hqv:qs[i]=q at hqi hmem htake
  have hbad:rR q=false→og qs cp=false:=fun h=>by
   have:qs.all rR=false:=yT.2 ⟨q,hmem,by simp[h]⟩
   simp[og,this]
  refine yR ?_
  refine VG (VI (eE i Z Z Z Z Z Z h5) ?_)
  refine VG (VD Z Z (aw.rd (v:=.int .i64 q) hF (by show w.cell? ⟨b,off+i*1,none⟩=_;rw[pj];exact hcell i _ hqi)) (VG (VN ?_)))
  refine CS (CS (CG (VG (VO.split 36 Z Z (fun h6=>?_) (fun h6=>?_)))))
  ·have h6:=of_decide_eq_true h6
   refine VG (VN (VC.mi Z ?_))
   refine al ?_
   refine CR (cJ.bad (hbad ?_) Z Z)
   have:¬96≤q:=by omega
   simp[rR,this]
  have h6:=of_decide_eq_false h6
  refine VG (VN (CP Z (fun h7=>?_) (fun h7=>CK ?_)))
  ·refine al ?_
   refine CR (cJ.bad (hbad ?_) Z Z)
   have:¬q≤65536:=by omega
   simp[rR,this]
  refine al ?_
  refine VG (VO.Jw Z (fun Fr w=>Ring.lK Fr w cp yg yg) ?_)
  rintro _ _ ⟨r,rfl,rfl⟩
  refine al ?_
  refine VC.dp Z (fun h=>absurd Z h) (fun _=>CK ?_)
  refine CG ?_
  refine vQ ?_
  refine VG (VI (LB (pv:=[(0,pV r),(1,.int .i64 q)]) (cN (r,pA q)) Z Z Z Z Z) ?_)
  refine VG (VO.buildSlice (n:=1) (pv:=[(0,.agg (cN (r,pA q)).toArray)]) (cN (r,pA q)) Z Z Z Z yy (eY Z Z Z) fun nb=>?_)
  refine VG (VO.append (m:=1) (news:=cN (r,pA q)) 3 Z Z Z Z Z Z Z (dm.pt 0 Z Z Z) Z (by show(i+1)*32≤_;omega) yg fun a' c' hc'=>?_)
  refine VG (VO.st 3 Z Z Z Z (by show 0<3;omega) Z Z (VG (VN ?_)))
  refine al ?_
  refine VG (VP Z Z ?_ ?_ ?_)
  ·omega
  ·omega
  refine al ?_
  refine⟨(i+1,a',c',rows ++ [(r,pA q)]),⟨h5,hc',?_,?_⟩,by dsimp only;omega,aH,?_⟩
  ·dsimp only;rw[gn,hrows,htake,gn];rfl
  ·dsimp only;rw[htake,List.all_append,hok];simp[rR];omega
  ·have e1:aa (dx r [] cp::rows.map fun r:Row=>dx r.1 r.2.q cp) ((rows ++ [(r,pA q)]).map fun r:Row=>dx r.1 r.2.q cp):=by
    rw[gn]
    exact aa.perm (lV (l₁:=[dx r [] cp]))
   have e2:flat cN rows++cN (r,pA q)=flat cN (rows ++ [(r,pA q)]):=by simp[fu,lz,sM]
   rw[e2]
   refine(IP 3 Z ?_).aj
   exact IP 0 Z (aa.trans aa.tl e1)
 ·have h5:i=qs.length:=by omega
  subst h5
  have hnew:og qs cp=true:=by
   rw[iT] at hok
   simp only[og,hok,Bool.and_true,eG,decide_eq_true_eq]
   omega
  refine CX ?_
  refine al ?_
  refine VC.bz 1 Z (bd.sl _ _ _ _ _ _) fun x hx=>?_
  obtain⟨hx1,hx2,hx3⟩:=hx
  cases x with
  | none=>exact absurd hx3.2.1 yg
  | some y=>
   obtain⟨cb,rest⟩:=y
   obtain⟨rfl,hx3⟩:=hx3
   refine CR (an.cV 4 5 Z Z Z (L':=[gj p (aJ.new qs cp)]) ?_ (by unfold cJ;rw[if_pos hnew];exact⟨p,Z,Z⟩))
   rw[iT] at hrows
   refine(aa.aM (M:=[]) ⟨cb,c,rest,rows⟩ ⟨aJ.LM hnew,hrows,by dsimp only;omega⟩ ?_).aj
   have e:s8 (aJ.new qs cp) ⟨cb,c,rest,rows⟩=[.slice (some ⟨cb,0,none⟩) qs.length c,.int .i64 0,.bool true]:=by simp[s8,aJ.new,hlen]
   unfold jP
   rw[e]
   refine IP 1 Z ?_
   exact aa.of_eq (by simp[LJ,aJ.new])
end Sched
namespace Sched
open Go Vg T Api Ring
attribute [local irreducible] VO VC VA
def aJ.qs(S:aJ):List (List aB):=S.cls.map cL.q
theorem aJ.GX{S:aJ}{k:Nat}{c:cL}(h:S.cls[k]?=some c):S.qs[k]?=some c.q:=by simp[aJ.qs,h]
theorem TO{α:Type}{l:List α}{k:Nat}{a:α}(h:l[k]?=some a):l.set k a=l:=by rw[←(bP.1 h).2];simp
theorem GY{S:aJ}{k:Nat}{c:cL}(hc:S.cls[k]?=some c){c':cL}(h:c'.q=c.q):(S.cls.set k c').map cL.q=S.qs:=by
 rw[gZ,h];exact TO (by simp[hc])
theorem GO{S:aJ}{c:cL}(hc:S.cls[S.bt]?=some c)(N:Nat):S.iO (N+1)=match c.q with
   | []=>aJ.iO N ⟨S.cls.set S.bt c.c0,S.cap,(S.bt+1) % S.cls.length,true⟩
   | f::q=>if (c.c1 S.fresh).c_<fP f.op then aJ.iO N ⟨S.cls.set S.bt (c.c1 S.fresh),S.cap,(S.bt+1) % S.cls.length,true⟩
    else some (f,if q=[] then ⟨S.cls.set S.bt (c.c2 S.fresh f q),S.cap,(S.bt+1) % S.cls.length,true⟩ else ⟨S.cls.set S.bt (c.c2 S.fresh f q),S.cap,S.bt,false⟩):=by
 simp only[aJ.iO,hc]
 all_goals (cases c.q<;>rfl)
theorem GN:∀{N:Nat} {S S1:aJ} {f:aB},S.Wf→S.iO N=some (f,S1)→∃k q,S.qs[k]?=some (f::q)∧S1.qs=S.qs.set k q∧S1.cap=S.cap∧S1.Wf
 | 0,S,S1,f,_,h=>by simp[aJ.iO] at h
 | N+1,S,S1,f,hw,h=>by
  obtain⟨c,hc⟩:∃c,S.cls[S.bt]?=some c:=⟨_,GE hw.bt⟩
  have hcw:=hw.cls c (ME hc)
  have hql:=hw.qs c (ME hc)
  have same:∀c':cL,c'.q=c.q→(S.cls.set S.bt c').map cL.q=S.qs:=fun c' h'=>GY hc h'
  rw[GO hc] at h
  cases hq:c.q with
  | nil=>
   simp only[hq] at h
   have hw':=hw.th (c':=c.c0) hcw.empty hql Er
   obtain⟨k,q,h1,h2,h3,h4⟩:=GN hw' h
   have e:aJ.qs ⟨S.cls.set S.bt c.c0,S.cap,(S.bt+1) % S.cls.length,true⟩=S.qs:=same c.c0 rfl
   rw[e] at h1 h2
   exact⟨k,q,h1,h2,h3,h4⟩
  | cons g q'=>
   simp only[hq] at h
   have hcost:=Aj g.op
   have hw1:=hw.c1 hc
   by_cases hlt:(c.c1 S.fresh).c_<fP g.op
   ·rw[if_pos hlt] at h
    have hw':=hw.th (c':=c.c1 S.fresh) hw1 hql yg
    obtain⟨k,q,h1,h2,h3,h4⟩:=GN hw' h
    have e:aJ.qs ⟨S.cls.set S.bt (c.c1 S.fresh),S.cap,(S.bt+1) % S.cls.length,true⟩=S.qs:=same (c.c1 S.fresh) rfl
    rw[e] at h1 h2
    exact⟨k,q,h1,h2,h3,h4⟩
   ·rw[if_neg hlt] at h
    obtain⟨hw2,hq2⟩:=hw.c2 hc hq hlt
    simp only[Option.some.injEq,Prod.mk.injEq] at h
    obtain⟨rfl,h⟩:=h
    refine⟨S.bt,q',by rw[aJ.GX hc,hq],?_⟩
    by_cases hz:q'=[]
    ·rw[if_pos hz] at h
     subst h
     have hcr:(c.c2 S.fresh g q').c_=0:=by show(if q'=[] then 0 else (c.c1 S.fresh).c_-fP g.op)=0;rw[if_pos hz]
     exact⟨by simp only[aJ.qs,gZ];rfl,Z,hw.th hw2 hq2 (by rw[hcr];omega)⟩
    ·rw[if_neg hz] at h
     subst h
     exact⟨by simp only[aJ.qs,gZ];rfl,Z,hw.stays hw2 hq2⟩
theorem xr:∀{N:Nat} {S:aJ} {r:aB×aJ} (M:Nat),S.iO N=some r→S.iO (N+M)=some r
 | 0,S,r,M,h=>by simp[aJ.iO] at h
 | N+1,S,r,M,h=>by
  rw[show N+1+M=(N+M)+1 from by omega]
  simp only[aJ.iO] at h ⊢
  cases hc:S.cls[S.bt]? with
  | none=>simp[hc] at h
  | some c=>
   simp only[hc] at h ⊢
   cases hq:c.q with
   | nil=>simp only[hq] at h ⊢;exact xr M h
   | cons g q'=>
    simp only[hq] at h ⊢
    by_cases hlt:(c.c1 S.fresh).c_<fP g.op
    ·rw[if_pos hlt] at h ⊢;exact xr M h
    ·rw[if_neg hlt] at h ⊢;exact h
theorem Mf:∀(d:Nat) {S:aJ},S.Wf→S.fresh=true→(∃x,S.qs[(S.bt+d) % S.cls.length]?=some x∧x≠[])→∃r,S.iO (d+1)=some r
 | d,S,hw,hf,⟨x,hx,hne⟩=>by
  obtain⟨c,hc⟩:∃c,S.cls[S.bt]?=some c:=⟨_,GE hw.bt⟩
  have hcw:=hw.cls c (ME hc)
  have hql:=hw.qs c (ME hc)
  rw[GO hc]
  cases hq:c.q with
  | cons g q'=>
   have hcost:=Aj g.op
   have h1:=hcw.q0;have h2:=hcw.c0
   have hlt:¬(c.c1 S.fresh).c_<fP g.op:=by
    show ¬(if S.fresh then c.c_+c.mS else c.c_)<_
    rw[hf,if_pos rfl];omega
   simp only[if_neg hlt]
   exact⟨_,Z⟩
  | nil=>
   cases d with
   | zero=>
    rw[wm,Nat.mod_eq_of_lt hw.bt,aJ.GX hc] at hx
    rw[←ij hx] at hne
    exact absurd hq hne
   | succ d=>
    have hw':=hw.th (c':=c.c0) hcw.empty hql Er
    refine Mf d hw' Z ⟨x,?_,hne⟩
    have e:aJ.qs ⟨S.cls.set S.bt c.c0,S.cap,(S.bt+1) % S.cls.length,true⟩=S.qs:=GY hc rfl
    rw[e,←hx]
    congr 1
    simp only[fW]
    rw[Nat.mod_add_mod]
    congr 1;omega
theorem Mg{S:aJ}(hw:S.Wf)(hi:S.idle=false):∃f S1,S.iO 9=some (f,S1):=by
 have hn4:=hw.n1
 have key:∀{T:aJ},T.Wf→T.fresh=true→T.qs=S.qs→∃r,T.iO 4=some r:=by
  intro T hT hf hqs
  obtain⟨c,hc,hne⟩:=yT.1 hi
  obtain⟨j,hj⟩:=nM hc
  have hTn:T.cls.length=S.cls.length:=by have:=congrArg List.length hqs;simpa[aJ.qs] using this
  have hjn:=(bP.1 hj).1
  have ht:=hT.bt
  have hx:T.qs[j]?=some c.q:=by rw[hqs,aJ.GX hj]
  have hne':c.q≠[]:=fun e=>hne Bj
  let d:=(j+T.cls.length-T.bt) % T.cls.length
  have hd:d<T.cls.length:=wx _ hT.n0
  have hdj:(T.bt+d) % T.cls.length=j:=by
   show(T.bt+(j+T.cls.length-T.bt) % T.cls.length) % T.cls.length=j
   rw[Nat.add_mod_mod,show T.bt+(j+T.cls.length-T.bt)=j+T.cls.length from by omega,Nat.add_mod_right]
   exact Nat.mod_eq_of_lt yg
  obtain⟨r,hr⟩:=Mf d hT hf ⟨c.q,by rw[hdj];exact hx,hne'⟩
  refine⟨r,?_⟩
  have:=xr (3-d) hr
  rwa[show d+1+(3-d)=4 from by omega] at this
 have up:∀{T:aJ} {r:aB×aJ},T.iO 4=some r→T.iO 9=some r:=fun h=>xr 5 h
 cases hf:S.fresh with
 | true=>
  obtain⟨r,hr⟩:=key hw hf rfl
  exact⟨r.1,r.2,up hr⟩
 | false=>
  obtain⟨c,hc⟩:∃c,S.cls[S.bt]?=some c:=⟨_,GE hw.bt⟩
  have hcw:=hw.cls c (ME hc)
  have hql:=hw.qs c (ME hc)
  have same:∀c':cL,c'.q=c.q→(S.cls.set S.bt c').map cL.q=S.qs:=fun c' h'=>GY hc h'
  rw[GO (N:=8) hc]
  cases hq:c.q with
  | nil=>
   have hw':=hw.th (c':=c.c0) hcw.empty hql Er
   obtain⟨r,hr⟩:=key hw' rfl (same c.c0 rfl)
   exact⟨r.1,r.2,xr 4 hr⟩
  | cons g q'=>
   have hcost:=Aj g.op
   by_cases hlt:(c.c1 S.fresh).c_<fP g.op
   ·have hw':=hw.th (c':=c.c1 S.fresh) (hw.c1 hc) hql yg
    obtain⟨r,hr⟩:=key hw' rfl (same (c.c1 S.fresh) rfl)
    simp only[if_pos hlt]
    exact⟨r.1,r.2,xr 4 hr⟩
   ·simp only[if_neg hlt]
    exact⟨_,_,Z⟩
def aJ.oo(S:aJ):Option (aB×aJ):=if S.idle then none else S.iO 9
def uk(p:Nat)(S:aJ)(v:Value)(L:List HP):Prop:=match S.oo with
 | none=>v=.tuple #[.agg (aY eZ).toArray,.bool false]∧L=[gj p S]
 | some r=>(∃m,v=.tuple #[.agg (aY (r.1,m)).toArray,.bool true])∧L=[gj p r.2]
theorem VS(p:Nat)(S:aJ)(hi:S.idle=true):
  ax Tryz.prog 222 [.pointer (some ⟨p,0,none⟩)] Fr w [gj p S] (fun v L=>v=.tuple #[.agg (aY eZ).toArray,.bool false]∧L=[gj p S]):=by
 refine TF 107 Tryz.func222 Z yp aC Z Z ?_
 refine CS (CG (VG (VO.alloc Z fun b=>VG (VN ?_))))
 refine VC.bz 1 Z (bd.aM p S) fun s0 h0=>?_
 refine CN (L':=pt b (aY eZ) 188::jP p S s0) (aa.perm lV).aj ?_
 refine al ?_
 refine VG (VV (fun Fr w hF _ hs=>fO Fr w (hs.aA 1 Z)) Z ?_)
 refine VG (VY 10 false Z (DF Pq) ?_)
 refine al ?_
 refine Ob ?_
 refine CC rfl (fun _=>?_) (fun h=>by rw[hi] at h;cases h)
 refine CS (CG (VG (VI (LB (pv:=[]) (aY eZ) Z Z Z Z Z) (VG (VT (vs:=aY eZ) (cs':=aY eZ) 0 Z Z Z Z (NR _) Z Z Z (VG (VN ?_)))))))
 exact CR (an.dt 2 3 Z Z Z (aw.many 0 Z Z) Z (aa.trans aa.tl (xz h0)).aj ⟨rfl,Z⟩)
theorem VM(p:Nat)(S:aJ)(hw:S.Wf):ax Tryz.prog 222 [.pointer (some ⟨p,0,none⟩)] Fr w [gj p S] (uk p S):=by
 cases hi:S.idle with
 | true=>
  have:=VS Fr w p S hi
  unfold uk aJ.oo
  simpa only[hi,if_true] using this
 | false=>
  obtain⟨f,S1,h⟩:=Mg hw hi
  have:=CY Fr w p S 9 f S1 h hi
  unfold uk aJ.oo
  simpa only[hi,h,if_neg (by simp:¬false=true)] using this
theorem GP{S S1:aJ}{f:aB}(hw:S.Wf)(h:S.oo=some (f,S1)):∃k q,S.qs[k]?=some (f::q)∧S1.qs=S.qs.set k q∧S1.cap=S.cap∧S1.Wf:=by
 unfold aJ.oo at h
 split at h
 ·cases h
 ·exact GN hw h
theorem Vz{S:aJ}(hw:S.Wf)(h:S.oo=none):S.idle=true:=by
 unfold aJ.oo at h
 split at h
 ·assumption
 ·rename_i hi
  obtain⟨f,S1,h2⟩:=Mg hw yn
  rw[h2] at h;cases h
theorem GV{S:aJ}(hw:S.Wf)(f:aB):(S.fg f).2.Wf:=by
 unfold aJ.fg
 cases ha:S.at_ f.cls with
 | none=>exact hw
 | some c=>
  dsimp only
  split
  ·exact hw
  ·split
   ·rename_i hlt
    unfold aJ.at_ at ha
    split at ha
    ·have hcw:=hw.cls c (ME ha)
     exact hw.set ha ⟨hcw.q0,hcw.q1,hcw.c0,hcw.c1,hcw.s0,hcw.s1⟩ yh (hw.low _ c ha)
    ·cases ha
   ·exact hw
theorem V'{S:aJ}{f:aB}{k:Nat}{c:cL}(hk:f.cls=k)(hc:S.cls[k]?=some c)(ho:dv f.op=0):
  S.fg f=if c.q.length<S.cap then (0,S.kj k { c with q:=c.q ++ [f] }) else (60,S):=by
 unfold aJ.fg
 rw[hk,aJ.EU,hc]
 dsimp only
 rw[if_neg (fun h=>h ho),ea]
theorem Wc{S:aJ}{f:aB}{k:Nat}{q:List aB}(hk:f.cls=k)(hc:S.qs[k]?=some q)(ho:dv f.op=0):
  (S.fg f).1=(if q.length<S.cap then 0 else 60)∧(S.fg f).2.qs=(if q.length<S.cap then S.qs.set k (q ++ [f]) else S.qs)∧(S.fg f).2.cap=S.cap:=by
 unfold aJ.qs at hc
 rw[dH] at hc
 cases hcl:S.cls[k]? with
 | none=>rw[hcl] at hc;cases hc
 | some c=>
  rw[hcl] at hc
  obtain rfl:c.q=q:=ij hc
  rw[V' hk hcl ho]
  split
  ·exact⟨rfl,by simp[aJ.qs,aJ.kj,gZ],Z⟩
  ·exact⟨rfl,Z,Z⟩
theorem Kg(S:aJ)(now:Int):(S.jW now).qs=S.qs.map fun q=>q.filter (stay now):=by simp[aJ.qs,aJ.jW,cL.pE,Function.comp_def]
theorem SD(S:aJ)(now:Int):S.dD now=S.qs.flatMap fun q=>q.filter (gone now):=by simp[aJ.qs,aJ.dD,List.flatMap_map]
theorem Kh{S:aJ}(hw:S.Wf)(now:Int):(S.jW now).Wf:=by
 refine⟨by simpa[aJ.jW] using hw.n0,by simpa[aJ.jW] using hw.n1,hw.dO,hw.fM,by simpa[aJ.jW] using hw.bt,fun x hx=>?_,fun x hx=>?_,fun k x hx hl=>?_⟩
 ·obtain⟨c,hc,rfl⟩:=cy.1 hx
  exact(hw.cls c hc).exp now
 ·obtain⟨c,hc,rfl⟩:=cy.1 hx
  have:=hw.qs c hc
  have:=qf (stay now) c.q
  show(c.q.filter (stay now)).length≤S.cap
  omega
 ·simp only[aJ.jW,dH] at hx
  cases hc:S.cls[k]? with
  | none=>rw[hc] at hx;cases hx
  | some c=>
   rw[hc] at hx
   obtain rfl:c.pE now=x:=ij hx
   have:=hw.low k c hc hl
   show(if c.q.filter (stay now)=[] then 0 else c.c_)≤95
   split<;>omega
end Sched
namespace Conf
open Go Api Vg T Sched
attribute [local irreducible] VO VC VA
def bV(qs:List Int):List Value:=qs.map fun q=>.int .i64 q
def iq(a:Option Addr)(cap:Nat)(qs:List Int):HP:=aq 3 1 a qs.length cap (bV qs)
theorem zQ(qs:List Int):(bV qs).length=qs.length:=by simp[bV]
theorem SZ(qs:List Int):(bV qs).all Value.oneCell'=true:=by
 rw[nK]
 intro v hv
 obtain⟨q,_,rfl⟩:=cy.1 hv
 rfl
theorem E7{w w':World}{b off:Nat}{v:Value}(hb:w'.heap[b]?=w.heap[b]?)(h:w.cell? ⟨b,off,none⟩=some v):w'.cell? ⟨b,off,none⟩=some v:=by
 rw[←h];unfold World.cell?;rw[hb]
theorem pG{X:Cx}{a:Option Addr}{qs:List Int}(h:gp X.Fr X.w0 a qs){Fr':Nat→Prop}(hF:∀b,X.Fr b→Fr' b){w:World}{L:List HP}(hw:St X L w):gp Fr' w a qs:=⟨fun hne=>by
 obtain⟨b,off,h1,h2,h3⟩:=h.at_ hne
 exact⟨b,off,h1,hF b h2,fun i v hv=>E7 (hw.cP.block b h2) (h3 i v hv)⟩⟩
theorem rG{Fr:Nat→Prop}{w:World}{a:Option Addr}{c:Nat}{qs:List Int}(h:a_ Fr [iq a c qs] w):gp Fr w a qs:=by
 refine⟨fun hne=>?_⟩
 obtain⟨F,⟨i,G,rfl,hs,rfl⟩,hF⟩:=h
 obtain⟨hc,⟨rfl,h0,_,_⟩ | ⟨b,rest,rfl,rfl,hn,hr,hh⟩⟩:=hs
 ·exact absurd (iC h0) hne
 ·refine⟨b,0,Z,hF b yi,fun i v hv=>?_⟩
  rw[cj,cell_of_row w b i (bV qs++rest).toArray _ _ hh]
  have hi:=(bP.1 hv).1
  have:(bV qs++rest)[i]?=some (.int .i64 v):=by
   rw[nL (by simpa[bV] using hi),bV,dH,hv];rfl
  simpa using this
theorem S_{Fr:Nat→Prop}{w:World}{a:Option Addr}{qs:List Int}(h:gp Fr w a qs)(n:Nat):gp Fr w a (qs.take n):=by
 refine⟨fun hne=>?_⟩
 obtain⟨b,off,h1,h2,h3⟩:=h.at_ (fun e=>hne (by rw[e];simp))
 refine⟨b,off,h1,h2,fun i v hv=>h3 i v ?_⟩
 rw[ss] at hv
 split at hv
 ·exact hv
 ·cases hv
def pk(_:Option Addr):Prop:=True
structure ba where
 nodes:Int
 chain:Int
 bK:Int
 qs:List Int
 queue:Int
 gY:Int
 reads:Int
 link:Int
 fQ:Int
 timeout:Int
 gI:Int
 fh:Int
deriving DecidableEq
def ba.cells(c:ba)(a:Option Addr)(cap:Nat):List Value:=[.int .i64 c.nodes,.int .i64 c.chain,.int .i64 c.bK,.slice a c.qs.length cap,.int .i64 c.queue,.int .i64 c.gY,.int .i64 c.reads,.int .i64 c.link,.int .i64 c.fQ,.int .i64 c.timeout,.int .i64 c.gI,.int .i64 c.fh]
def aF(x lo hi:Int):Int:=if (if hi<x then hi else x)<lo then lo else if hi<x then hi else x
theorem kc{x lo hi:Int}(h:lo≤hi):lo≤aF x lo hi∧aF x lo hi≤hi:=by
 unfold aF;split<;>split<;>omega
theorem UF{x lo hi:Int}(h1:lo≤x)(h2:x≤hi):aF x lo hi=x:=by
 unfold aF;rw[if_neg yg,if_neg yg]
theorem UE(x lo hi:Int):(if lo<(if hi<x then hi else x) then (if hi<x then hi else x) else lo)=aF x lo hi:=by
 unfold aF;split<;>split<;>omega
def kg(q:Int):Int:=aF q 96 65536
def eC(qs:List Int):List Int:=if qs.take 4=[] then [96] else qs.take 4
def eI(qs:List Int):List Int:=(eC qs).map kg
def bh(c:ba):ba:=⟨aF c.nodes 1 6,aF c.chain 1 (aF c.nodes 1 6),aF c.bK 1 6,eI c.qs,aF c.queue 1 16,aF c.gY 1 16,aF c.reads 1 16,aF c.link 4 64,aF c.fQ 4 64,aF c.timeout 4 64,aF c.gI 0 16,aF c.fh 1 1099511627776⟩
theorem Mk(qs:List Int):1≤(eC qs).length∧(eC qs).length≤4:=by
 unfold eC
 split
 ·simp
 ·rename_i h
  have:=yX 4 qs
  refine⟨?_,this⟩
  cases hq:qs.take 4 with
  | nil=>exact absurd hq h
  | cons _ _=>simp
theorem sX(qs:List Int):1≤(eI qs).length∧(eI qs).length≤4:=by
 have:=Mk qs
 simpa[eI] using this
theorem Q1(x lo hi:Int):ax Tryz.prog 133 [.int .i64 x,.int .i64 lo,.int .i64 hi] Fr w [] (fun v L=>v=.int .i64 (aF x lo hi)∧L=[]):=by
 refine TF 12 Tryz.func133 Z yp aC Z Z ?_
 refine al ?_
 exact CR (an.int 6 Z Z Z ER ⟨rfl,Z⟩)
theorem px{b off t:Nat}{cs:List Value}{x:Int}(lo hi:Int)(hx:cs[off]?=some (.int .i64 x)):
  ax Tryz.prog 132 [.pointer (some ⟨b,off,none⟩),.int .i64 lo,.int .i64 hi] Fr w [pt b cs t] (fun v L=>v=.tuple #[]∧L=[pt b (cs.set off (.int .i64 (aF x lo hi))) t]):=by
 refine TF 14 Tryz.func132 Z yp aC Z Z ?_
 refine CG ?_
 refine VG (VO.ld 0 Z Z Z hx ?_)
 refine VG (VO.mf (fun Fr w=>Q1 Fr w x lo hi) Z ?_)
 refine VG (VO.st 0 Z Z Z Z (bP.1 hx).1 Z Z (VG (VN ?_)))
 exact vO
theorem Fg(a:Option Addr)(cap:Nat)(qs:List Int)(hq:gp Fr w a qs)(hl:qs.length≤1000):ax Tryz.prog 134 [.slice a qs.length cap] Fr w []
  (fun v L=>∃a' cap',v=.slice a' qs.length cap'∧L=[iq a' cap' qs]):=by
 refine TF 8 Tryz.func134 Z yp aC Z Z ?_
 cases ha:a with
 | none=>
  have hnil:qs=[]:=by
   cases hqs:qs with
   | nil=>rfl
   | cons x xs=>
    obtain⟨b,off,h1,_⟩:=hq.at_ (by rw[hqs];simp)
    rw[ha] at h1;cases h1
  subst hnil
  refine sg ?_
  exact CR (an.tmp 2 Z Z (aa.cK aa.refl).aj ⟨none,0,Z,Z⟩)
 | some ad=>
  refine sf ?_
  refine VG (VO.buildSlice (n:=0) (pv:=[]) [] Z Z Z Z yy Z fun nb=>?_)
  refine VO.aj (L':=[aq 3 1 (some ⟨nb,0,none⟩) 0 0 []]) (aa.sl (cs:=[]) (rest:=[]) Z (NR _) Z aa.refl).aj ?_
  refine VG (VO.append (m:=qs.length) (news:=bV qs) 0 Z Z Z Z Z Z Z ?_ (SZ qs) (by show(0+qs.length)*8≤_;omega) yg fun a' c' hc'=>VG (VN ?_))
  ·by_cases hne:qs=[]
   ·subst hne
    exact⟨rfl,.inl ⟨some ad,cap,Z,Z⟩⟩
   ·obtain⟨b,off,h1,h2,h3⟩:=hq.at_ hne
    rw[ha] at h1
    cases h1
    refine⟨by simp[bV],.inr ⟨b,off,cap,Z,fun w' hw' j v hv=>?_⟩⟩
    rw[bV,dH] at hv
    cases hj:qs[j]? with
    | none=>rw[hj] at hv;cases hv
    | some x=>
     rw[hj] at hv
     obtain rfl:=ij hv
     exact E7 (hw'.cP.block b h2) (h3 j x hj)
  ·exact CR (an.tmp 2 Z Z (aa.of_eq (by rw[cj];rfl)).aj ⟨a',c',by rw[cj],Z⟩)
theorem RP(a b:Option Addr)(ca cb:Nat)(qs ps:List Int)(hq:gp Fr w a qs)(hp:gp Fr w b ps)(hl:ps.length≤1000):ax Tryz.prog 85 [.slice a qs.length ca,.slice b ps.length cb] Fr w []
  (fun v L=>v=.bool (decide (qs=ps))∧L=[]):=by
 refine TF 26 Tryz.func85 Z yp aC Z Z ?_
 refine al ?_
 refine VC.dp Z (fun h1=>?_) (fun h1=>CK ?_)
 ·refine al ?_
  exact CR (an.bool 4 Z Z (by symm;apply DF;intro e;exact h1 mW) ER ⟨rfl,Z⟩)
 have h1:qs.length=ps.length:=by omega
 refine al ?_
 refine VC.loop (σ:=Nat) (fun i=>[(0,.slice a qs.length ca),(1,.slice b ps.length cb),(12,.int .i64 qs.length),(13,.int .i64 i)]) (fun _=>[]) (fun i=>i≤qs.length∧∀j,j<i→qs[j]?=ps[j]?) (fun i=>qs.length-i) 0 ⟨bH _,fun j hj=>by omega⟩ aH ER ?_
 rintro i ⟨hi,hall⟩
 refine al ?_
 refine CP Z (fun h2=>CK ?_) (fun h2=>CX ?_)
 ·have hi1:i<qs.length:=by omega
  have hi2:i<ps.length:=by omega
  obtain⟨qb,qo,rfl,hFq,hcq⟩:=hq.at_ (fun e=>by rw[e] at hi1;simp at hi1)
  obtain⟨pb,po,rfl,hFp,hcp⟩:=hp.at_ (fun e=>by rw[e] at hi2;simp at hi2)
  have e1:=GE hi1
  have e2:=GE hi2
  generalize qs[i]=x at e1
  generalize ps[i]=y at e2
  refine tm ?_
  refine jz ?_
  refine CS (CD (ts 0 9 .nil) yp yr ?_)
  refine bp ?_
  refine AG (AI Z (eE i Z Z Z Z Z Z hi1) ?_)
  refine AG (VA.load Z Z Z (aw.rd (v:=.int .i64 x) hFq (by show w.cell? ⟨qb,qo+i*1,none⟩=_;rw[pj];exact hcq i x e1)) ?_)
  refine bp ?_
  refine AG (AI Z (eE i Z Z Z Z Z Z hi2) ?_)
  refine AG (VA.load Z Z Z (aw.rd (v:=.int .i64 y) hFp (by show w.cell? ⟨pb,po+i*1,none⟩=_;rw[pj];exact hcp i y e2)) ?_)
  refine bp ?_
  refine VC.dp Z (fun h3=>?_) (fun h3=>CK ?_)
  ·refine al ?_
   exact CR (an.bool 4 Z Z (by symm;apply DF;intro e;rw[e,e2] at e1;exact h3 (ij e1).symm) ER ⟨rfl,Z⟩)
  refine jC ?_
  refine⟨i+1,⟨hi1,fun j hj=>?_⟩,by dsimp only;omega,aH,ER⟩
  by_cases hji:j=i
  ·subst hji;rw[e1,e2,h3]
  ·exact hall j yg
 ·have hi1:i=qs.length:=by omega
  subst hi1
  refine al ?_
  refine CR (an.bool 4 Z Z (by
   symm;apply DT
   apply qe
   intro j
   by_cases hj:j<qs.length
   ·exact hall j hj
   ·rw[kr yg,kr yg]) ER ⟨rfl,rfl⟩)
def nB(qs:List Int)(i:Nat):List Int:=(qs.take i).map kg++qs.drop i
theorem Uq(qs:List Int)(i:Nat):(nB qs i).length=qs.length:=by simp[nB];omega
theorem Up{qs:List Int}{i:Nat}{x:Int}(h:qs[i]?=some x):(nB qs i)[i]?=some x:=by
 have hi:=(bP.1 h).1
 rw[nB,qX yh]
 simp only[cY,jj,qY]
 rw[←h];congr 1;omega
theorem Ur{qs:List Int}{i:Nat}{x:Int}(h:qs[i]?=some x):(nB qs i).set i (kg x)=nB qs (i+1):=by
 have hi:=(bP.1 h).1
 rw[nB,nB,fX,h,List.set_append_right _ _ yh]
 have h2:qs.drop i=x::qs.drop (i+1):=by
  rw[Bu hi,(bP.1 h).2]
 rw[h2]
 have h3:i-((qs.take i).map kg).length=0:=by simp;omega
 rw[h3];simp
theorem R7(c:ba)(a:Option Addr)(cap:Nat)(hq:gp Fr w a c.qs)(ha:pk a)(hcap:c.qs.length≤cap):ax Tryz.prog 84 [.agg (c.cells a cap).toArray] Fr w []
  (fun v L=>∃a' cap',pk a'∧(bh c).qs.length≤cap'∧v=.agg ((bh c).cells a' cap').toArray∧L=[iq a' cap' (bh c).qs]):=by
 refine TF 69 Tryz.func84 Z yp aC Z Z ?_
 refine CS (CG (VG (VB (vs:=c.cells a cap) Z fun x=>VG (VO.alloc Z fun r=>VG (VN ?_)))))
 obtain⟨c0,c1,c2,qs,c4,c5,c6,c7,c8,c9,c10,c11⟩:=c
 dsimp only at hq hcap
 refine jz ?_
 refine mV ?_
 refine VG (VO.py 1 (ψ:=fun v H=>H=pt x [.int .i64 (aF c0 1 6),.int .i64 c1,.int .i64 c2,.slice a qs.length cap,.int .i64 c4,.int .i64 c5,.int .i64 c6,.int .i64 c7,.int .i64 c8,.int .i64 c9,.int .i64 c10,.int .i64 c11] 24) Z Z (fun Fr w _ _ _=>px Fr w _ _ Z) Z (fun v L1 h=>⟨_,h.2,Z⟩) ?_)
 rintro _ _ rfl
 refine tA ?_
 refine vQ ?_
 refine VG (VO.py 1 (ψ:=fun v H=>H=pt x [.int .i64 (aF c0 1 6),.int .i64 (aF c1 1 (aF c0 1 6)),.int .i64 c2,.slice a qs.length cap,.int .i64 c4,.int .i64 c5,.int .i64 c6,.int .i64 c7,.int .i64 c8,.int .i64 c9,.int .i64 c10,.int .i64 c11] 24) Z Z (fun Fr w _ _ _=>px Fr w _ _ Z) Z (fun v L1 h=>⟨_,h.2,Z⟩) ?_)
 rintro _ _ rfl
 refine tA ?_
 refine VG (VO.py 1 (ψ:=fun v H=>H=pt x [.int .i64 (aF c0 1 6),.int .i64 (aF c1 1 (aF c0 1 6)),.int .i64 (aF c2 1 6),.slice a qs.length cap,.int .i64 c4,.int .i64 c5,.int .i64 c6,.int .i64 c7,.int .i64 c8,.int .i64 c9,.int .i64 c10,.int .i64 c11] 24) Z Z (fun Fr w _ _ _=>px Fr w _ _ Z) Z (fun v L1 h=>⟨_,h.2,Z⟩) ?_)
 rintro _ _ rfl
 refine gm ?_
 have ht4:=yX 4 qs
 refine CS (CG (VG (VO.ld 1 Z Z Z Z (VG (VO.ld 1 Z Z Z Z ?_)))))
 refine VG (VI (FZ (qs.take 4).length Z Z Z Z Z (by rw[jj];split<;>omega) Ix) ?_)
 refine VG (VK (Lc:=[]) (fun Fr w hF hs _=>Fg Fr w a cap (qs.take 4) (S_ (pG hq hF hs) 4) yg) Z Z ?_)
 rintro _ _ ⟨a1,fM,rfl,rfl⟩
 refine VG (VO.st 2 Z Z Z Z Bk Z Z (VG (VN ?_)))
 have hf1:=Mk qs
 refine VC.meet (σ:=Nat×Nat×List Value) (fun _=>[(1,pV x),(2,pV r),(3,.func (.func 132) #[] #[])])
  (fun y=>[pt y.1 (bV (eC qs)++y.2.2) 3,pt r T.t24.zs 24,pt x [.int .i64 (aF c0 1 6),.int .i64 (aF c1 1 (aF c0 1 6)),.int .i64 (aF c2 1 6),.slice (some ⟨y.1,0,none⟩) (eC qs).length y.2.1,.int .i64 c4,.int .i64 c5,.int .i64 c6,.int .i64 c7,.int .i64 c8,.int .i64 c9,.int .i64 c10,.int .i64 c11] 24]) (fun y=>(eC qs).length≤y.2.1∧(bV (eC qs)++y.2.2).length=y.2.1) ?_ ?_
 ·refine CS (CG (VG (VO.ld 2 Z Z Z Z (VG (VN ?_)))))
  refine CE Z (fun hz=>?_) (fun hz=>?_)
  ·have hz:qs.take 4=[]:=iC yg
   have hqf:eC qs=[96]:=by unfold eC;rw[if_pos hz]
   refine CG (VG (VO.buildSlice (n:=1) (pv:=[(0,.int .i64 96)]) [.int .i64 96] Z Z Z Z yy Z fun nb=>?_))
   refine VG (VO.st 3 Z Z Z Z Bk Z Z (VG (VN ?_)))
   refine⟨(nb,1,[]),⟨by rw[hqf];exact NR 1,by rw[hqf];rfl⟩,aH,?_⟩
   rw[hqf]
   exact(aa.cons aa.tl).aj
  ·have hz:¬qs.take 4=[]:=fun e=>hz Bj
   have hqf:eC qs=qs.take 4:=by unfold eC;rw[if_neg hz]
   refine VC.bz 0 Z (bd.sl 3 1 a1 (qs.take 4).length fM (bV (qs.take 4))) fun y hy=>CK ?_
   obtain⟨h1,h2,h3⟩:=hy
   cases y with
   | none=>
    obtain⟨_,h5,_⟩:=h3
    exact absurd (iC h5) hz
   | some y=>
    obtain⟨b1,rest⟩:=y
    obtain⟨rfl,h4⟩:=h3
    refine⟨(b1,fM,rest),⟨by rw[hqf];exact h2,by rw[hqf];simpa using h4⟩,aH,?_⟩
    rw[hqf]
    exact ER
 rintro⟨qb,qcap,rest⟩ ⟨hqc,hrest⟩
 dsimp only at hqc hrest ⊢
 refine jA ?_
 refine VC.loop (σ:=Nat) (fun i=>[(1,pV x),(2,pV r),(3,.func (.func 132) #[] #[]),(33,.int .i64 (eC qs).length),(34,.int .i64 i)])
  (fun i=>[pt qb (bV (nB (eC qs) i)++rest) 3,pt r T.t24.zs 24,pt x [.int .i64 (aF c0 1 6),.int .i64 (aF c1 1 (aF c0 1 6)),.int .i64 (aF c2 1 6),.slice (some ⟨qb,0,none⟩) (eC qs).length qcap,.int .i64 c4,.int .i64 c5,.int .i64 c6,.int .i64 c7,.int .i64 c8,.int .i64 c9,.int .i64 c10,.int .i64 c11] 24]) (fun i=>i≤(eC qs).length) (fun i=>4-i) 0 (bH _) aH ER ?_
 intro i hi
 refine al ?_
 refine CP Z (fun h1=>CK ?_) (fun h1=>CX ?_)
 ·have hi2:i<(eC qs).length:=by omega
  have hy:=GE hi2
  generalize (eC qs)[i]=y at hy
  have hc:(bV (nB (eC qs) i)++rest)[0+i*1]?=some (.int .i64 y):=by
   rw[cj,pj,nL Pr,bV,dH,Up hy];rfl
  have hset:(bV (nB (eC qs) i)++rest).set (0+i*1) (.int .i64 (aF y 96 65536))=bV (nB (eC qs) (i+1))++rest:=by
   rw[cj,pj,List.set_append_left _ _ Pr,bV,←Ur hy,bV,gZ];rfl
  refine jA ?_
  refine N6 ?_
  refine VG (VO.py 0 (ψ:=fun v H=>H=pt qb (bV (nB (eC qs) (i+1))++rest) 3) Z Z (fun Fr w _ _ _=>px Fr w _ _ hc) Z (fun v L1 h=>⟨_,h.2,by rw[hset]⟩) ?_)
  rintro _ _ rfl
  refine gm ?_
  refine jC ?_
  exact⟨i+1,hi2,by dsimp only;omega,aH,ER⟩
 have hi2:i=(eC qs).length:=by omega
 subst hi2
 refine mV ?_
 refine VG (VO.py 2 (ψ:=fun v H=>H=pt x [.int .i64 (aF c0 1 6),.int .i64 (aF c1 1 (aF c0 1 6)),.int .i64 (aF c2 1 6),.slice (some ⟨qb,0,none⟩) (eC qs).length qcap,.int .i64 (aF c4 1 16),.int .i64 c5,.int .i64 c6,.int .i64 c7,.int .i64 c8,.int .i64 c9,.int .i64 c10,.int .i64 c11] 24) Z Z (fun Fr w _ _ _=>px Fr w _ _ Z) Z (fun v L1 h=>⟨_,h.2,Z⟩) ?_)
 rintro _ _ rfl
 refine tA ?_
 refine VG (VO.py 2 (ψ:=fun v H=>H=pt x [.int .i64 (aF c0 1 6),.int .i64 (aF c1 1 (aF c0 1 6)),.int .i64 (aF c2 1 6),.slice (some ⟨qb,0,none⟩) (eC qs).length qcap,.int .i64 (aF c4 1 16),.int .i64 (aF c5 1 16),.int .i64 c6,.int .i64 c7,.int .i64 c8,.int .i64 c9,.int .i64 c10,.int .i64 c11] 24) Z Z (fun Fr w _ _ _=>px Fr w _ _ Z) Z (fun v L1 h=>⟨_,h.2,Z⟩) ?_)
 rintro _ _ rfl
 refine tA ?_
 refine VG (VO.py 2 (ψ:=fun v H=>H=pt x [.int .i64 (aF c0 1 6),.int .i64 (aF c1 1 (aF c0 1 6)),.int .i64 (aF c2 1 6),.slice (some ⟨qb,0,none⟩) (eC qs).length qcap,.int .i64 (aF c4 1 16),.int .i64 (aF c5 1 16),.int .i64 (aF c6 1 16),.int .i64 c7,.int .i64 c8,.int .i64 c9,.int .i64 c10,.int .i64 c11] 24) Z Z (fun Fr w _ _ _=>px Fr w _ _ Z) Z (fun v L1 h=>⟨_,h.2,Z⟩) ?_)
 rintro _ _ rfl
 refine tA ?_
 refine VG (VO.py 2 (ψ:=fun v H=>H=pt x [.int .i64 (aF c0 1 6),.int .i64 (aF c1 1 (aF c0 1 6)),.int .i64 (aF c2 1 6),.slice (some ⟨qb,0,none⟩) (eC qs).length qcap,.int .i64 (aF c4 1 16),.int .i64 (aF c5 1 16),.int .i64 (aF c6 1 16),.int .i64 (aF c7 4 64),.int .i64 c8,.int .i64 c9,.int .i64 c10,.int .i64 c11] 24) Z Z (fun Fr w _ _ _=>px Fr w _ _ Z) Z (fun v L1 h=>⟨_,h.2,Z⟩) ?_)
 rintro _ _ rfl
 refine tA ?_
 refine VG (VO.py 2 (ψ:=fun v H=>H=pt x [.int .i64 (aF c0 1 6),.int .i64 (aF c1 1 (aF c0 1 6)),.int .i64 (aF c2 1 6),.slice (some ⟨qb,0,none⟩) (eC qs).length qcap,.int .i64 (aF c4 1 16),.int .i64 (aF c5 1 16),.int .i64 (aF c6 1 16),.int .i64 (aF c7 4 64),.int .i64 (aF c8 4 64),.int .i64 c9,.int .i64 c10,.int .i64 c11] 24) Z Z (fun Fr w _ _ _=>px Fr w _ _ Z) Z (fun v L1 h=>⟨_,h.2,Z⟩) ?_)
 rintro _ _ rfl
 refine tA ?_
 refine VG (VO.py 2 (ψ:=fun v H=>H=pt x [.int .i64 (aF c0 1 6),.int .i64 (aF c1 1 (aF c0 1 6)),.int .i64 (aF c2 1 6),.slice (some ⟨qb,0,none⟩) (eC qs).length qcap,.int .i64 (aF c4 1 16),.int .i64 (aF c5 1 16),.int .i64 (aF c6 1 16),.int .i64 (aF c7 4 64),.int .i64 (aF c8 4 64),.int .i64 (aF c9 4 64),.int .i64 c10,.int .i64 c11] 24) Z Z (fun Fr w _ _ _=>px Fr w _ _ Z) Z (fun v L1 h=>⟨_,h.2,Z⟩) ?_)
 rintro _ _ rfl
 refine tA ?_
 refine VG (VO.py 2 (ψ:=fun v H=>H=pt x [.int .i64 (aF c0 1 6),.int .i64 (aF c1 1 (aF c0 1 6)),.int .i64 (aF c2 1 6),.slice (some ⟨qb,0,none⟩) (eC qs).length qcap,.int .i64 (aF c4 1 16),.int .i64 (aF c5 1 16),.int .i64 (aF c6 1 16),.int .i64 (aF c7 4 64),.int .i64 (aF c8 4 64),.int .i64 (aF c9 4 64),.int .i64 (aF c10 0 16),.int .i64 c11] 24) Z Z (fun Fr w _ _ _=>px Fr w _ _ Z) Z (fun v L1 h=>⟨_,h.2,Z⟩) ?_)
 rintro _ _ rfl
 refine tA ?_
 refine VG (VO.py 2 (ψ:=fun v H=>H=pt x [.int .i64 (aF c0 1 6),.int .i64 (aF c1 1 (aF c0 1 6)),.int .i64 (aF c2 1 6),.slice (some ⟨qb,0,none⟩) (eC qs).length qcap,.int .i64 (aF c4 1 16),.int .i64 (aF c5 1 16),.int .i64 (aF c6 1 16),.int .i64 (aF c7 4 64),.int .i64 (aF c8 4 64),.int .i64 (aF c9 4 64),.int .i64 (aF c10 0 16),.int .i64 (aF c11 1 1099511627776)] 24) Z Z (fun Fr w _ _ _=>px Fr w _ _ Z) Z (fun v L1 h=>⟨_,h.2,Z⟩) ?_)
 rintro _ _ rfl
 refine gm ?_
 have hmix:nB (eC qs) (eC qs).length=eI qs:=by simp[nB,eI]
 have hql:(eC qs).length=(eI qs).length:=by simp[eI]
 rw[hmix]
 refine CS (CG (VG (VL 2 [.int .i64 (aF c0 1 6),.int .i64 (aF c1 1 (aF c0 1 6)),.int .i64 (aF c2 1 6),.slice (some ⟨qb,0,none⟩) (eC qs).length qcap,.int .i64 (aF c4 1 16),.int .i64 (aF c5 1 16),.int .i64 (aF c6 1 16),.int .i64 (aF c7 4 64),.int .i64 (aF c8 4 64),.int .i64 (aF c9 4 64),.int .i64 (aF c10 0 16),.int .i64 (aF c11 1 1099511627776)] Z Z Z Z ?_)))
 refine VG (VT (vs:=[.int .i64 (aF c0 1 6),.int .i64 (aF c1 1 (aF c0 1 6)),.int .i64 (aF c2 1 6),.slice (some ⟨qb,0,none⟩) (eC qs).length qcap,.int .i64 (aF c4 1 16),.int .i64 (aF c5 1 16),.int .i64 (aF c6 1 16),.int .i64 (aF c7 4 64),.int .i64 (aF c8 4 64),.int .i64 (aF c9 4 64),.int .i64 (aF c10 0 16),.int .i64 (aF c11 1 1099511627776)]) (cs':=[.int .i64 (aF c0 1 6),.int .i64 (aF c1 1 (aF c0 1 6)),.int .i64 (aF c2 1 6),.slice (some ⟨qb,0,none⟩) (eC qs).length qcap,.int .i64 (aF c4 1 16),.int .i64 (aF c5 1 16),.int .i64 (aF c6 1 16),.int .i64 (aF c7 4 64),.int .i64 (aF c8 4 64),.int .i64 (aF c9 4 64),.int .i64 (aF c10 0 16),.int .i64 (aF c11 1 1099511627776)]) 1 Z Z Z Z (NR _) Z Z Z (VG (VN ?_)))
 refine CR (an.cell 2 Z Z Z (aw.many 1 Z Z) (L':=[iq (some ⟨qb,0,none⟩) qcap (eI qs)]) ?_ ⟨some ⟨qb,0,none⟩,qcap,trivial,by show(eI qs).length≤_;omega,?_,Z⟩)
 ·refine(aa.sl (b:=qb) (rest:=rest) (by rw[zQ,pj]) yg (by rw[←hrest,pj,a8,a8,zQ,zQ,hql]) (aa.app (L:=[_]) (M:=[_]) aa.refl aa.nil)).aj
 ·rw[hql];rfl
end Conf
namespace Conf
open Go Api Vg T Sched
attribute [local irreducible] VO VC VA
def mI(c:ba):Int:=if c=bh c then 0 else 2
theorem Q_{c d:ba}(h0:c.nodes=d.nodes)(h1:c.chain=d.chain)(h2:c.bK=d.bK)(h3:c.qs=d.qs)(h4:c.queue=d.queue)(h5:c.gY=d.gY)(h6:c.reads=d.reads)(h7:c.link=d.link)(h8:c.fQ=d.fQ)(h9:c.timeout=d.timeout)(h10:c.gI=d.gI)(h11:c.fh=d.fh):c=d:=by
 cases c;cases d;simp_all
theorem gv(c:ba)(a:Option Addr)(cap:Nat)(hq:gp Fr w a c.qs)(ha:pk a)(hcap:c.qs.length≤cap):ax Tryz.prog 39 [.agg (c.cells a cap).toArray] Fr w []
  (fun v L=>v=.int .i64 (mI c)∧L=[]):=by
 refine TF 91 Tryz.func39 Z yp aC Z Z ?_
 refine CS (CG (VG (VB (vs:=c.cells a cap) Z fun x=>VG (VN ?_))))
 refine CS (CG (VG (VL 0 (c.cells a cap) Z Z Z Z ?_)))
 refine VG (VK (Lc:=[]) (fun Fr w hF hs _=>R7 Fr w c a cap (pG hq hF hs) ha hcap) Z Z ?_)
 rintro _ _ ⟨a',cap',ha',hcap',rfl,rfl⟩
 refine VG (VO.alloc Z fun f=>VG (VT (vs:=(bh c).cells a' cap') (cs':=(bh c).cells a' cap') 0 Z Z Z Z (NR _) Z Z Z (VG (VN ?_))))
 refine VC.meet (σ:=Bool) (fun b=>[(4,.bool b)]) (fun _=>[]) (fun b=>b=decide (c=bh c)) ?_ ?_
 rotate_left
 ·rintro b rfl
  refine CS (CS (CG (VG (VN ?_))))
  refine VC.fq Z (fun h=>?_) (fun h=>CK ?_)
  ·have h:=of_decide_eq_false h
   refine al ?_
   exact CR (an.int 2 Z Z (by rw[mI,if_neg h]) ER ⟨rfl,Z⟩)
  ·have h:=of_decide_eq_true h
   refine al ?_
   exact CR (an.int 2 Z Z (by rw[mI,if_pos h]) ER ⟨rfl,Z⟩)
 refine CG ?_
 refine p5 ?_
 refine VG (VO.split 12 Z Z (fun h0=>?_) (fun h0=>?_))
 rotate_left
 ·refine VG (VY 19 false Z Z ?_)
  refine VG (VY 26 false Z Z ?_)
  refine VG (VY 33 false Z Z ?_)
  refine xT ?_
  refine A4 ?_
  refine yM ?_
  refine VG (VN ⟨false,?_,aH,aa.nil.aj⟩)
  show false=decide _;symm;apply DF;intro e
  exact(beq_eq_false_iff_ne.1 h0) (congrArg ba.nodes e)
 refine p5 ?_
 refine VG (VO.split 19 Z Z (fun h1=>?_) (fun h1=>?_))
 rotate_left
 ·refine VG (VY 26 false Z Z ?_)
  refine VG (VY 33 false Z Z ?_)
  refine xT ?_
  refine A4 ?_
  refine yM ?_
  refine VG (VN ⟨false,?_,aH,aa.nil.aj⟩)
  show false=decide _;symm;apply DF;intro e
  exact(beq_eq_false_iff_ne.1 h1) (congrArg ba.chain e)
 refine p5 ?_
 refine VG (VO.split 26 Z Z (fun h2=>?_) (fun h2=>?_))
 rotate_left
 ·refine VG (VY 33 false Z Z ?_)
  refine xT ?_
  refine A4 ?_
  refine yM ?_
  refine VG (VN ⟨false,?_,aH,aa.nil.aj⟩)
  show false=decide _;symm;apply DF;intro e
  exact(beq_eq_false_iff_ne.1 h2) (congrArg ba.bK e)
 refine p5 ?_
 refine VG (VV (fun Fr w hF hs h2=>RP Fr w a a' cap cap' c.qs (bh c).qs (pG hq hF hs) (rG (h2.at_ 1 Z)) (by have:=(sX c.qs).2;show(eI c.qs).length≤1000;omega)) Z ?_)
 refine VG (VO.split 33 Z Z (fun h3=>?_) (fun h3=>?_))
 rotate_left
 ·refine xT ?_
  refine A4 ?_
  refine yM ?_
  refine VG (VN ⟨false,?_,aH,aa.nil.aj⟩)
  show false=decide _;symm;apply DF;intro e
  exact(of_decide_eq_false h3) (congrArg ba.qs e)
 refine p5 ?_
 refine VG (VO.split 40 Z Z (fun h4=>?_) (fun h4=>?_))
 rotate_left
 ·refine A4 ?_
  refine yM ?_
  refine VG (VN ⟨false,?_,aH,aa.nil.aj⟩)
  show false=decide _;symm;apply DF;intro e
  exact(beq_eq_false_iff_ne.1 h4) (congrArg ba.queue e)
 refine p5 ?_
 refine VG (VO.split 47 Z Z (fun h5=>?_) (fun h5=>?_))
 rotate_left
 ·refine yM ?_
  refine VG (VN ⟨false,?_,aH,aa.nil.aj⟩)
  show false=decide _;symm;apply DF;intro e
  exact(beq_eq_false_iff_ne.1 h5) (congrArg ba.gY e)
 refine p5 ?_
 refine VG (VO.split 54 Z Z (fun h6=>?_) (fun h6=>?_))
 rotate_left
 ·refine P3 ?_
  refine VG (VN ⟨false,?_,aH,aa.nil.aj⟩)
  show false=decide _;symm;apply DF;intro e
  exact(beq_eq_false_iff_ne.1 h6) (congrArg ba.reads e)
 refine p5 ?_
 refine VG (VO.split 61 Z Z (fun h7=>?_) (fun h7=>?_))
 rotate_left
 ·refine P1 ?_
  refine VG (VN ⟨false,?_,aH,aa.nil.aj⟩)
  show false=decide _;symm;apply DF;intro e
  exact(beq_eq_false_iff_ne.1 h7) (congrArg ba.link e)
 refine p5 ?_
 refine VG (VO.split 68 Z Z (fun h8=>?_) (fun h8=>?_))
 rotate_left
 ·refine PZ ?_
  refine VG (VN ⟨false,?_,aH,aa.nil.aj⟩)
  show false=decide _;symm;apply DF;intro e
  exact(beq_eq_false_iff_ne.1 h8) (congrArg ba.fQ e)
 refine p5 ?_
 refine VG (VO.split 75 Z Z (fun h9=>?_) (fun h9=>?_))
 rotate_left
 ·refine Od ?_
  refine VG (VN ⟨false,?_,aH,aa.nil.aj⟩)
  show false=decide _;symm;apply DF;intro e
  exact(beq_eq_false_iff_ne.1 h9) (congrArg ba.timeout e)
 refine p5 ?_
 refine VG (VO.split 82 Z Z (fun h10=>?_) (fun h10=>?_))
 rotate_left
 ·refine VG (VN ⟨false,?_,aH,aa.nil.aj⟩)
  show false=decide _;symm;apply DF;intro e
  exact(beq_eq_false_iff_ne.1 h10) (congrArg ba.gI e)
 refine p5 ?_
 refine VG (VN ⟨(c.fh == (bh c).fh),?_,aH,aa.nil.aj⟩)
 show(c.fh == (bh c).fh)=decide _
 rw[Bool.eq_iff_iff,beq_iff_eq,decide_eq_true_iff]
 refine⟨fun h11=>Q_ (eq_of_beq h0) (eq_of_beq h1) (eq_of_beq h2) (of_decide_eq_true h3) (eq_of_beq h4) (eq_of_beq h5) (eq_of_beq h6) (eq_of_beq h7) (eq_of_beq h8) (eq_of_beq h9) (eq_of_beq h10) h11,fun e=>congrArg ba.fh e⟩
theorem ju(x lo hi:Int):ax Tryz.prog 13 [.int .i64 x,.int .i64 lo,.int .i64 hi] Fr w [] (fun v L=>v=.int .i64 (aF x lo hi)∧L=[]):=by
 refine TF 12 Tryz.func13 Z yp aC Z Z ?_
 refine al ?_
 exact CR (an.int 6 Z Z (UE x lo hi) ER ⟨rfl,Z⟩)
theorem TJ{X:Cx}(hX:X.tab=tab){e:Env}{parts:Array (Nat×Operand)}{x0 x1 x2 x4 x5 x6 x7 x8 x9 x10 x11:Int}
  (hp:nY e parts.toList=some [(0,.int .i64 x0),(1,.int .i64 x1),(2,.int .i64 x2),(4,.int .i64 x4),(5,.int .i64 x5),(6,.int .i64 x6),(7,.int .i64 x7),(8,.int .i64 x8),(9,.int .i64 x9),(10,.int .i64 x10),(11,.int .i64 x11)]):
  fo X (.build 24 parts) e (.agg ([.int .i64 x0,.int .i64 x1,.int .i64 x2,.slice none 0 0,.int .i64 x4,.int .i64 x5,.int .i64 x6,.int .i64 x7,.int .i64 x8,.int .i64 x9,.int .i64 x10,.int .i64 x11]:List Value).toArray):=
 LB _ (by rw[hX];rfl) rfl hp yp rfl
theorem bd.I7(el esz:Nat)(a:Option Addr)(n cap:Nat)(cs:List Value):bd (ι:=Unit) (aq el esz a n cap cs) (fun _=>pk a) (fun _=>[aq el esz a n cap cs]):=by
 intro w ids h hn
 exact⟨(),trivial,ids,⟨ids,[],by simp,h,Z⟩,hn,fun b h=>h⟩
structure P6(qs:List Int)(x:Nat×Option Addr×Nat):Prop where
 le:x.1≤(qs.take 4).length
 room:x.1≤x.2.2
theorem Mx(c:ba)(a:Option Addr)(cap:Nat)(hq:gp Fr w a c.qs):ax Tryz.prog 6 [.agg (c.cells a cap).toArray] Fr w []
  (fun v L=>∃a' cap',pk a'∧(bh c).qs.length≤cap'∧v=.agg ((bh c).cells a' cap').toArray∧L=[iq a' cap' (bh c).qs]):=by
 refine TF 74 Tryz.func6 Z yp aC Z Z ?_
 refine CS (CG (VG (VB (vs:=c.cells a cap) Z fun x=>VG (VO.alloc Z fun r=>VG (VN ?_)))))
 refine CS (CG (VG (VO.ld 1 Z Z Z Z ?_)))
 refine VG (VO.mf (fun Fr w=>ju Fr w c.nodes 1 6) Z (VG (VN ?_)))
 refine VC.meet (σ:=Nat) (fun d=>[(1,pV x),(2,pV r),(4,pV d)])
  (fun d=>[pt d [.int .i64 (aF c.nodes 1 6),.int .i64 (aF c.chain 1 (aF c.nodes 1 6)),.int .i64 (aF c.bK 1 6),.slice none 0 0,.int .i64 (aF c.queue 1 16),.int .i64 (aF c.gY 1 16),.int .i64 (aF c.reads 1 16),.int .i64 (aF c.link 4 64),.int .i64 (aF c.fQ 4 64),.int .i64 (aF c.timeout 4 64),.int .i64 (aF c.gI 0 16),.int .i64 (aF c.fh 1 1099511627776)] 24,pt r T.t24.zs 24,pt x (c.cells a cap) 24]) (fun _=>True) ?_ ?_
 ·refine CD (.take 0 (.take 1 (.take 2 (.take 3 (.take 5 (.take 6 (.take 8 (.take 9 (.take 11 (.take 12 (.take 14 (.take 15 (.take 17 (.take 18 (.take 20 (.take 21 (.take 23 (.take 24 (.take 26 (.take 27 (.take 29 (.take 30 (.two 4 33 (.two 7 33 (.two 10 33 (.two 13 33 (.two 16 33 (.two 19 33 (.two 22 33 (.two 25 33 (.two 28 33 (.two 31 33 (.take 32 (.only 33 (.only 34 .nil))) (.only 31 (.take 32 (.only 34 .nil)))) (.only 28 (.only 31 (.take 32 (.only 34 .nil))))) (.only 25 (.only 28 (.only 31 (.take 32 (.only 34 .nil)))))) (.only 22 (.only 25 (.only 28 (.only 31 (.take 32 (.only 34 .nil))))))) (.only 19 (.only 22 (.only 25 (.only 28 (.only 31 (.take 32 (.only 34 .nil)))))))) (.only 16 (.only 19 (.only 22 (.only 25 (.only 28 (.only 31 (.take 32 (.only 34 .nil))))))))) (.only 13 (.only 16 (.only 19 (.only 22 (.only 25 (.only 28 (.only 31 (.take 32 (.only 34 .nil)))))))))) (.only 10 (.only 13 (.only 16 (.only 19 (.only 22 (.only 25 (.only 28 (.only 31 (.take 32 (.only 34 .nil))))))))))) (.only 7 (.only 10 (.only 13 (.only 16 (.only 19 (.only 22 (.only 25 (.only 28 (.only 31 (.take 32 (.only 34 .nil)))))))))))) (.only 4 (.only 7 (.only 10 (.only 13 (.only 16 (.only 19 (.only 22 (.only 25 (.only 28 (.only 31 (.take 32 (.only 34 .nil))))))))))))))))))))))))))))))))))) yp yr ?_
  refine fj ?_
  refine VA.Tg (cond:=fun L'=>pt x (c.cells a cap) 24∈L') (fun S hS=>?_) (fun L' hL'=>?_)
  rotate_left
  ·obtain⟨i,hi⟩:=nM hL'
   exact(by(try refine Pd.st ?_);(repeat(first|exact Pd.nil|exact Pd.fnil|refine Pd.inner ?_|refine Pd.skip yr ?_|refine zf (aw.aA (aw.one i hi Z) Z) ?_|refine zf ((aw.one i hi Z)) ?_|refine zc (aw.aA (aw.one i hi Z) Z) ?_|refine zc ((aw.one i hi Z)) ?_)))
  refine AG (VA.two rfl rfl rfl rfl rfl (aK.eB (φ:=fun v=>v=.int .i64 (aF c.chain 1 (aF c.nodes 1 6))) (fun Fr w _ _ _=>ju Fr w _ _ _) rfl) rfl rfl rfl (aK.alloc rfl) (fun v L' h=>by obtain⟨_,rfl⟩:=h;exact Pd.st r8) (fun v L' h=>by obtain⟨d,_,rfl⟩:=h;exact Pd.st jB) ?_ ?_)
  rotate_left
  ·rintro _ _ ⟨d,rfl,rfl⟩
   refine AG (AO (aK.eB (φ:=fun v=>v=.int .i64 (aF c.chain 1 (aF c.nodes 1 6))) (fun Fr w _ _ _=>ju Fr w _ _ _) rfl) rfl (fun v L' h=>by obtain⟨_,rfl⟩:=h;exact jB) ?_)
   rintro _ _ ⟨rfl,rfl⟩
   refine Oe ?_
   rintro _ _ ⟨rfl,rfl⟩
   refine HN ?_
   rintro _ _ ⟨rfl,rfl⟩
   refine D2 ?_
   rintro _ _ ⟨rfl,rfl⟩
   refine A5 ?_
   rintro _ _ ⟨rfl,rfl⟩
   refine xX ?_
   rintro _ _ ⟨rfl,rfl⟩
   refine vR ?_
   rintro _ _ ⟨rfl,rfl⟩
   refine uC ?_
   rintro _ _ ⟨rfl,rfl⟩
   refine tr ?_
   rintro _ _ ⟨rfl,rfl⟩
   refine r7 ?_
   rintro _ _ ⟨rfl,rfl⟩
   exact sj
  rintro _ _ ⟨rfl,rfl⟩
  refine AG (VA.two rfl rfl rfl rfl rfl (aK.eB (φ:=fun v=>v=.int .i64 (aF c.bK 1 6)) (fun Fr w _ _ _=>ju Fr w _ _ _) rfl) rfl rfl rfl (aK.alloc rfl) (fun v L' h=>by obtain⟨_,rfl⟩:=h;exact Pd.st r8) (fun v L' h=>by obtain⟨d,_,rfl⟩:=h;exact Pd.st jB) ?_ ?_)
  rotate_left
  ·rintro _ _ ⟨d,rfl,rfl⟩
   refine Oe ?_
   rintro _ _ ⟨rfl,rfl⟩
   refine HN ?_
   rintro _ _ ⟨rfl,rfl⟩
   refine D2 ?_
   rintro _ _ ⟨rfl,rfl⟩
   refine A5 ?_
   rintro _ _ ⟨rfl,rfl⟩
   refine xX ?_
   rintro _ _ ⟨rfl,rfl⟩
   refine vR ?_
   rintro _ _ ⟨rfl,rfl⟩
   refine uC ?_
   rintro _ _ ⟨rfl,rfl⟩
   refine tr ?_
   rintro _ _ ⟨rfl,rfl⟩
   refine r7 ?_
   rintro _ _ ⟨rfl,rfl⟩
   exact sj
  rintro _ _ ⟨rfl,rfl⟩
  refine AG (VA.two rfl rfl rfl rfl rfl (aK.eB (φ:=fun v=>v=.int .i64 (aF c.queue 1 16)) (fun Fr w _ _ _=>ju Fr w _ _ _) rfl) rfl rfl rfl (aK.alloc rfl) (fun v L' h=>by obtain⟨_,rfl⟩:=h;exact Pd.st r8) (fun v L' h=>by obtain⟨d,_,rfl⟩:=h;exact Pd.st jB) ?_ ?_)
  rotate_left
  ·rintro _ _ ⟨d,rfl,rfl⟩
   refine HN ?_
   rintro _ _ ⟨rfl,rfl⟩
   refine D2 ?_
   rintro _ _ ⟨rfl,rfl⟩
   refine A5 ?_
   rintro _ _ ⟨rfl,rfl⟩
   refine xX ?_
   rintro _ _ ⟨rfl,rfl⟩
   refine vR ?_
   rintro _ _ ⟨rfl,rfl⟩
   refine uC ?_
   rintro _ _ ⟨rfl,rfl⟩
   refine tr ?_
   rintro _ _ ⟨rfl,rfl⟩
   refine r7 ?_
   rintro _ _ ⟨rfl,rfl⟩
   exact sj
  rintro _ _ ⟨rfl,rfl⟩
  refine AG (VA.two rfl rfl rfl rfl rfl (aK.eB (φ:=fun v=>v=.int .i64 (aF c.gY 1 16)) (fun Fr w _ _ _=>ju Fr w _ _ _) rfl) rfl rfl rfl (aK.alloc rfl) (fun v L' h=>by obtain⟨_,rfl⟩:=h;exact Pd.st r8) (fun v L' h=>by obtain⟨d,_,rfl⟩:=h;exact Pd.st jB) ?_ ?_)
  rotate_left
  ·rintro _ _ ⟨d,rfl,rfl⟩
   refine D2 ?_
   rintro _ _ ⟨rfl,rfl⟩
   refine A5 ?_
   rintro _ _ ⟨rfl,rfl⟩
   refine xX ?_
   rintro _ _ ⟨rfl,rfl⟩
   refine vR ?_
   rintro _ _ ⟨rfl,rfl⟩
   refine uC ?_
   rintro _ _ ⟨rfl,rfl⟩
   refine tr ?_
   rintro _ _ ⟨rfl,rfl⟩
   refine r7 ?_
   rintro _ _ ⟨rfl,rfl⟩
   exact sj
  rintro _ _ ⟨rfl,rfl⟩
  refine AG (VA.two rfl rfl rfl rfl rfl (aK.eB (φ:=fun v=>v=.int .i64 (aF c.reads 1 16)) (fun Fr w _ _ _=>ju Fr w _ _ _) rfl) rfl rfl rfl (aK.alloc rfl) (fun v L' h=>by obtain⟨_,rfl⟩:=h;exact Pd.st r8) (fun v L' h=>by obtain⟨d,_,rfl⟩:=h;exact Pd.st jB) ?_ ?_)
  rotate_left
  ·rintro _ _ ⟨d,rfl,rfl⟩
   refine A5 ?_
   rintro _ _ ⟨rfl,rfl⟩
   refine xX ?_
   rintro _ _ ⟨rfl,rfl⟩
   refine vR ?_
   rintro _ _ ⟨rfl,rfl⟩
   refine uC ?_
   rintro _ _ ⟨rfl,rfl⟩
   refine tr ?_
   rintro _ _ ⟨rfl,rfl⟩
   refine r7 ?_
   rintro _ _ ⟨rfl,rfl⟩
   exact sj
  rintro _ _ ⟨rfl,rfl⟩
  refine AG (VA.two rfl rfl rfl rfl rfl (aK.eB (φ:=fun v=>v=.int .i64 (aF c.link 4 64)) (fun Fr w _ _ _=>ju Fr w _ _ _) rfl) rfl rfl rfl (aK.alloc rfl) (fun v L' h=>by obtain⟨_,rfl⟩:=h;exact Pd.st r8) (fun v L' h=>by obtain⟨d,_,rfl⟩:=h;exact Pd.st jB) ?_ ?_)
  rotate_left
  ·rintro _ _ ⟨d,rfl,rfl⟩
   refine xX ?_
   rintro _ _ ⟨rfl,rfl⟩
   refine vR ?_
   rintro _ _ ⟨rfl,rfl⟩
   refine uC ?_
   rintro _ _ ⟨rfl,rfl⟩
   refine tr ?_
   rintro _ _ ⟨rfl,rfl⟩
   refine r7 ?_
   rintro _ _ ⟨rfl,rfl⟩
   exact sj
  rintro _ _ ⟨rfl,rfl⟩
  refine AG (VA.two rfl rfl rfl rfl rfl (aK.eB (φ:=fun v=>v=.int .i64 (aF c.fQ 4 64)) (fun Fr w _ _ _=>ju Fr w _ _ _) rfl) rfl rfl rfl (aK.alloc rfl) (fun v L' h=>by obtain⟨_,rfl⟩:=h;exact Pd.st r8) (fun v L' h=>by obtain⟨d,_,rfl⟩:=h;exact Pd.st jB) ?_ ?_)
  rotate_left
  ·rintro _ _ ⟨d,rfl,rfl⟩
   refine vR ?_
   rintro _ _ ⟨rfl,rfl⟩
   refine uC ?_
   rintro _ _ ⟨rfl,rfl⟩
   refine tr ?_
   rintro _ _ ⟨rfl,rfl⟩
   refine r7 ?_
   rintro _ _ ⟨rfl,rfl⟩
   exact sj
  rintro _ _ ⟨rfl,rfl⟩
  refine AG (VA.two rfl rfl rfl rfl rfl (aK.eB (φ:=fun v=>v=.int .i64 (aF c.timeout 4 64)) (fun Fr w _ _ _=>ju Fr w _ _ _) rfl) rfl rfl rfl (aK.alloc rfl) (fun v L' h=>by obtain⟨_,rfl⟩:=h;exact Pd.st r8) (fun v L' h=>by obtain⟨d,_,rfl⟩:=h;exact Pd.st jB) ?_ ?_)
  rotate_left
  ·rintro _ _ ⟨d,rfl,rfl⟩
   refine uC ?_
   rintro _ _ ⟨rfl,rfl⟩
   refine tr ?_
   rintro _ _ ⟨rfl,rfl⟩
   refine r7 ?_
   rintro _ _ ⟨rfl,rfl⟩
   exact sj
  rintro _ _ ⟨rfl,rfl⟩
  refine AG (VA.two rfl rfl rfl rfl rfl (aK.eB (φ:=fun v=>v=.int .i64 (aF c.gI 0 16)) (fun Fr w _ _ _=>ju Fr w _ _ _) rfl) rfl rfl rfl (aK.alloc rfl) (fun v L' h=>by obtain⟨_,rfl⟩:=h;exact Pd.st r8) (fun v L' h=>by obtain⟨d,_,rfl⟩:=h;exact Pd.st jB) ?_ ?_)
  rotate_left
  ·rintro _ _ ⟨d,rfl,rfl⟩
   refine tr ?_
   rintro _ _ ⟨rfl,rfl⟩
   refine r7 ?_
   rintro _ _ ⟨rfl,rfl⟩
   exact sj
  rintro _ _ ⟨rfl,rfl⟩
  refine AG (VA.two rfl rfl rfl rfl rfl (aK.eB (φ:=fun v=>v=.int .i64 (aF c.fh 1 1099511627776)) (fun Fr w _ _ _=>ju Fr w _ _ _) rfl) rfl rfl rfl (aK.alloc rfl) (fun v L' h=>by obtain⟨_,rfl⟩:=h;exact Pd.st r8) (fun v L' h=>by obtain⟨d,_,rfl⟩:=h;exact Pd.st jB) ?_ ?_)
  rotate_left
  ·rintro _ _ ⟨d,rfl,rfl⟩
   refine r7 ?_
   rintro _ _ ⟨rfl,rfl⟩
   exact sj
  rintro _ _ ⟨rfl,rfl⟩
  refine Of ?_
  refine AG (AO (aK.alloc rfl) rfl (fun v L' h=>by obtain⟨d,_,rfl⟩:=h;exact jB) ?_)
  rintro _ _ ⟨d,rfl,rfl⟩
  refine Og ?_
  exact Oh
 rintro d _
 have ht4:=yX 4 c.qs
 have htl:(c.qs.take 4).length=if c.qs.length≤4 then c.qs.length else 4:=by rw[jj];split<;>omega
 refine VC.meet (σ:=Option Addr×Nat) (fun _=>[(1,pV x),(2,pV r),(4,pV d)])
  (fun y=>[aq 3 1 y.1 (c.qs.take 4).length y.2 (bV ((c.qs.take 4).map kg)),pt d [.int .i64 (aF c.nodes 1 6),.int .i64 (aF c.chain 1 (aF c.nodes 1 6)),.int .i64 (aF c.bK 1 6),.slice y.1 (c.qs.take 4).length y.2,.int .i64 (aF c.queue 1 16),.int .i64 (aF c.gY 1 16),.int .i64 (aF c.reads 1 16),.int .i64 (aF c.link 4 64),.int .i64 (aF c.fQ 4 64),.int .i64 (aF c.timeout 4 64),.int .i64 (aF c.gI 0 16),.int .i64 (aF c.fh 1 1099511627776)] 24,pt r T.t24.zs 24]) (fun y=>(c.qs.take 4).length≤y.2) ?_ ?_
 ·refine CS (CG (VG (VN (VC.block ?_))))
  refine VC.loop (σ:=Nat×Option Addr×Nat) (fun y=>[(1,pV x),(2,pV r),(4,pV d),(5,.int .i64 y.1)])
   (fun y=>[aq 3 1 y.2.1 y.1 y.2.2 (bV ((c.qs.take y.1).map kg)),pt d [.int .i64 (aF c.nodes 1 6),.int .i64 (aF c.chain 1 (aF c.nodes 1 6)),.int .i64 (aF c.bK 1 6),.slice y.2.1 y.1 y.2.2,.int .i64 (aF c.queue 1 16),.int .i64 (aF c.gY 1 16),.int .i64 (aF c.reads 1 16),.int .i64 (aF c.link 4 64),.int .i64 (aF c.fQ 4 64),.int .i64 (aF c.timeout 4 64),.int .i64 (aF c.gI 0 16),.int .i64 (aF c.fh 1 1099511627776)] 24,pt r T.t24.zs 24,pt x (c.cells a cap) 24]) (P6 c.qs) (fun y=>4-y.1) (0,none,0) ⟨bH _,NR _⟩ aH (aa.cK aa.refl).aj ?_
  rintro⟨i,ai,ci⟩ ⟨hi,hroom⟩
  dsimp only at hi hroom ⊢
  refine CS (CS (CG (VG (VO.ld 3 Z Z Z Z ?_))))
  refine VG (VO.split 47 Z Z (fun h1=>?_) (fun h1=>VG (VN (VC.mh Z (CX ?_)))))
  rotate_left
  ·have h1:=of_decide_eq_false h1
   have hi2:i=(c.qs.take 4).length:=by rw[htl] at hi ⊢;split at hi<;>split<;>omega
   have hi3:c.qs.take i=c.qs.take 4:=by rw[hi2,jj];rw[List.take_eq_take_iff];omega
   refine⟨(ai,ci),by rw[←hi2];exact hroom,aH,?_⟩
   dsimp only
   rw[←hi2,←hi3]
   exact(aa.app (L:=[_,_,_]) (M:=[_,_,_]) aa.refl aa.nil).aj
  have h1:=of_decide_eq_true h1
  refine VG (VN (CP Z (fun h2=>CK ?_) (fun h2=>CX ?_)))
  rotate_left
  ·have hi2:i=(c.qs.take 4).length:=by rw[htl] at hi ⊢;split at hi<;>split<;>omega
   have hi3:c.qs.take i=c.qs.take 4:=by rw[hi2,jj];rw[List.take_eq_take_iff];omega
   refine⟨(ai,ci),by rw[←hi2];exact hroom,aH,?_⟩
   dsimp only
   rw[←hi2,←hi3]
   exact(aa.app (L:=[_,_,_]) (M:=[_,_,_]) aa.refl aa.nil).aj
  have hiq:i<c.qs.length:=by omega
  obtain⟨qb,qo,hqa,hFq,hcq⟩:=hq.at_ (fun e=>by rw[e] at hiq;simp at hiq)
  have hy:=GE hiq
  generalize c.qs[i]=y at hy
  have hsl:some (Value.slice a c.qs.length cap)=some (Value.slice (some ⟨qb,qo,none⟩) c.qs.length cap):=by rw[hqa]
  have htk:c.qs.take (i+1)=c.qs.take i ++ [y]:=by rw[fX,hy];rfl
  have hcell:w.cell? ⟨qb,qo+i*1,none⟩=some (.int .i64 y):=by rw[pj];exact hcq i y hy
  have PQ:∀{L:List HP},aw (⟨Tryz.prog,tab,aC,74,Fr,w⟩:Cx) L T.t3 qb (qo+i*T.t3.size) (.int .i64 y):=aw.rd hFq hcell
  refine CS (VC.block (CD (ts 0 7 (.only 7 (.only 8 (.only 9 (.take 10 (.only 11 .nil)))))) yp yr ?_))
  refine iB ?_
  refine AG (AI Z (eE i hsl Z Z Z Z Z hiq) ?_)
  refine AG (VA.load Z Z Z (aw.rd (v:=.int .i64 y) hFq hcell) ?_)
  refine AG (VA.eB (φ:=fun v=>v=.int .i64 (kg y)) (fun Fr w _ _ _=>ju Fr w _ _ _) Z Z (by(try refine Pd.st ?_);(repeat(first|exact Pd.nil|exact Pd.fnil|refine Pd.inner ?_|refine Pd.skip yr ?_|refine zf (zo 0 Z Z) ?_|refine zf (zo 1 Z Z) ?_|refine zf (zo 2 Z Z) ?_|refine zf (zo 3 Z Z) ?_|refine zf (zm 0 Z Z) ?_|refine zf (zm 1 Z Z) ?_|refine zf (zm 2 Z Z) ?_|refine zf (zm 3 Z Z) ?_|refine zf (aw.aA PQ Z) ?_|refine zf (PQ) ?_|refine zc (zo 0 Z Z) ?_|refine zc (zo 1 Z Z) ?_|refine zc (zo 2 Z Z) ?_|refine zc (zo 3 Z Z) ?_|refine zc (zm 0 Z Z) ?_|refine zc (zm 1 Z Z) ?_|refine zc (zm 2 Z Z) ?_|refine zc (zm 3 Z Z) ?_|refine zc (aw.aA PQ Z) ?_|refine zc (PQ) ?_))) ?_)
  rintro _ rfl
  refine AG (AO (aK.buildSlice (n:=1) (pv:=[(0,.int .i64 (kg y))]) (cells:=[.int .i64 (kg y)]) Z Z Z Z yy Z) Z ?_ ?_)
  ·rintro _ _ ⟨nb,rfl,rfl⟩
   exact Iy
  rintro _ _ ⟨nb,rfl,rfl⟩
  refine AG (AO (aK.append (m:=1) (news:=[.int .i64 (kg y)]) 1 Z Z Z Z Z Z Z (dm.pt 0 Z Z Z) Z (by show(i+1)*8≤_;omega) yg) Z ?_ ?_)
  ·rintro _ _ ⟨a2,c2,rfl,hc2,rfl⟩
   exact Iy
  rintro _ _ ⟨a2,c2,rfl,hc2,rfl⟩
  refine r6 ?_
  refine AG (VA.st 2 Z Z Z Z Z Bk Z Z Iy (AG (AN ?_)))
  refine jC ?_
  refine⟨(i+1,a2,c2),⟨by rw[htl];split<;>omega,hc2⟩,by dsimp only;omega,aH,?_⟩
  dsimp only
  rw[htk]
  have e:bV ((c.qs.take i ++ [y]).map kg)=bV ((c.qs.take i).map kg) ++ [.int .i64 (kg y)]:=by simp[bV]
  rw[e]
  exact(aa.cons aa.tl).aj
 rintro⟨ai,ci⟩ hroom
 dsimp only at hroom ⊢
 have hf1:=sX c.qs
 refine VC.meet (σ:=Option Addr×Nat) (fun _=>[(2,pV r),(4,pV d)])
  (fun y=>[iq y.1 y.2 (eI c.qs),pt d ((bh c).cells y.1 y.2) 24,pt r T.t24.zs 24]) (fun y=>(eI c.qs).length≤y.2∧pk y.1) ?_ ?_
 ·refine CS (CG (VG (VO.ld 1 Z Z Z Z (VG (VN ?_)))))
  refine CE Z (fun hz=>?_) (fun hz=>?_)
  ·have hz:c.qs.take 4=[]:=iC yg
   have hqf:eI c.qs=[96]:=by unfold eI eC;rw[if_pos hz];rfl
   refine CG (VG (VO.ld 1 Z Z Z Z ?_))
   refine VG (VO.buildSlice (n:=1) (pv:=[(0,.int .i64 96)]) [.int .i64 96] Z Z Z Z yy Z fun nb=>?_)
   refine VG (VO.append (m:=1) (news:=[.int .i64 96]) 1 Z Z Z Z Z Z Z (dm.pt 0 Z Z Z) Z (by show((c.qs.take 4).length+1)*8≤_;omega) yg fun a2 c2 hc2=>?_)
   refine VO.bz 0 Z (bd.I7 _ _ _ _ _ _) fun _ had=>?_
   refine VG (VO.st 2 Z Z Z Z Bk Z Z (VG (VN ?_)))
   have e1:bV ((c.qs.take 4).map kg) ++ [.int .i64 96]=bV (eI c.qs):=by rw[hqf,hz];rfl
   have e2:(c.qs.take 4).length+1=(eI c.qs).length:=by rw[hqf,hz];rfl
   refine⟨(a2,c2),⟨by rw[←e2];exact hc2,had⟩,aH,?_⟩
   rw[e1,e2]
   exact(aa.cons aa.tl).aj
  ·have hz:¬c.qs.take 4=[]:=fun e=>hz Bj
   have hqf:eI c.qs=(c.qs.take 4).map kg:=by unfold eI eC;rw[if_neg hz]
   refine VC.bz 0 Z (bd.I7 _ _ _ _ _ _) fun _ had=>CK ?_
   have e1:bV ((c.qs.take 4).map kg)=bV (eI c.qs):=by rw[hqf]
   have e2:(c.qs.take 4).length=(eI c.qs).length:=by rw[hqf,cY]
   refine⟨(ai,ci),⟨by rw[←e2];exact hroom,had⟩,aH,?_⟩
   rw[e1,e2]
   exact ER
 rintro⟨af,cf⟩ ⟨hcf,haf⟩
 dsimp only at hcf haf ⊢
 refine CS (CG (VG (VL 1 ((bh c).cells af cf) Z Z Z Z ?_)))
 refine VG (VT (vs:=(bh c).cells af cf) (cs':=(bh c).cells af cf) 2 Z Z Z Z (NR _) Z Z Z (VG (VN ?_)))
 exact CR (an.cell 2 Z Z Z (aw.many 2 Z Z) (L':=[iq af cf (eI c.qs)]) (aa.app (L:=[_]) (M:=[_]) aa.refl aa.nil).aj ⟨af,cf,haf,hcf,Z,Z⟩)
end Conf
namespace Adm
open Go Vg T Api Sched Conf
attribute [local irreducible] VO VC VA
abbrev sE:=Int×Int
def uY(t u:sE):Bool:=decide (t.1<u.1)||((t.1 == u.1)&&decide (t.2<u.2))
def kQ(n:Int):Bool:=decide (1≤n)&&decide (n≤1099511627776)
structure aO where
 aM:aJ
 bK:Int
 marks:List sE
 waits:List Int
def aO.has(A:aO)(k:Int):Bool:=decide (0≤k∧k<A.bK)
def aO.mark(A:aO)(k:Int):sE:=(A.marks[k.toNat]?).getD (0,0)
def aO.wt(A:aO)(k:Int):Int:=(A.waits[k.toNat]?).getD 0
def aO.wF(A:aO)(k s t:Int):Bool:=A.has k && !uY (A.mark k) (s,t)
def aO.rU(A:aO)(k:Int)(m:sE):aO:={ A with marks:=A.marks.set k.toNat m }
def aO.gW(A:aO)(k:Int)(n:Int):aO:={ A with waits:=A.waits.set k.toNat n }
def aO.jE(A:aO)(k s t:Int):aO:=if uY (A.mark k) (s,t) then A.rU k (s,t) else A
def aO.dB(A:aO)(k s t:Int):Int×aO:=if A.has k&&kQ s&&kQ t then (0,A.jE k s t) else (2,A)
structure aO.Wf(A:aO):Prop where
 aM:A.aM.Wf
 c0:1≤A.bK
 c1:A.bK≤6
 marks:A.marks.length=6
 waits:A.waits.length=6
def kN(m:sE):List Value:=[.int .i64 m.1,.int .i64 m.2]
theorem vo(m:sE):(kN m).length=2:=rfl
def fD(A:aO)(sp:Nat):List Value:=.pointer (some ⟨sp,0,none⟩) :: .int .i64 A.bK :: .int .i64 A.aM.cls.length::(flat kN A.marks++bV A.waits)
def qm(p:Nat)(A:aO)(sp:Nat):List HP:=[pt p (fD A sp) 179,gj sp A.aM]
def bj(p:Nat)(A:aO):HP:=hex fun sp=>bF (kI A.Wf::qm p A sp)
theorem bd.aR(p:Nat)(A:aO):bd (bj p A) (fun _=>A.Wf) (fun sp=>qm p A sp):=by
 rintro w ids ⟨s,h⟩ hn
 obtain⟨F,G,rfl,⟨rfl,h1⟩,h2⟩:=h
 exact D0
theorem qn{p:Nat}{A:aO}{L:List HP}(sp:Nat)(hs:A.Wf)(h:aa L (qm p A sp)):aa L [bj p A]:=
 aa.ex sp (aa.sep (aa.trans h (aa.of_eq (br _).symm |>.trans (aa.pure hs aa.refl))))
structure uT(Fr:Nat→Prop)(w:World)(p:Nat)(A:aO)(sp:Nat):Prop where
 wf:A.Wf
 zl:bq Fr w p (fD A sp)
 aM:a_ Fr [gj sp A.aM] w
theorem uT.of{Fr:Nat→Prop}{w:World}{p:Nat}{A:aO}(h:a_ Fr [bj p A] w):∃sp,uT Fr w p A sp:=by
 obtain⟨s,h⟩:=h.ex
 have h:=h.sep
 exact⟨s,h.pure 0 Z,h.aA 1 Z,h.at_ 2 Z⟩
theorem w_{A:aO}(h:A.Wf){sp k:Nat}(hk:k<6):((fD A sp).drop (0+3+k*2)).take 2=kN (A.mark k):=by
 have hk2:k<A.marks.length:=by rw[h.marks];exact hk
 have h1:A.marks[k]?=some (A.mark k):=by rw[aO.mark,ea,GE hk2];rfl
 have:=oO vo h1 (bV A.waits)
 rw[←this,show 0+3+k*2=k*2+1+1+1 from by omega]
 rfl
theorem T6{A:aO}(h:A.Wf){sp k:Nat}(hk:k<6)(m:sE):dM (fD A sp) (0+3+k*2) (kN m)=fD (A.rU k m) sp:=by
 have hk2:k<A.marks.length:=by rw[h.marks];exact hk
 have:=wW vo m (bV A.waits) hk2
 show dM (_::_::_::(flat kN A.marks++bV A.waits)) (0+3+k*2) (kN m)=_::_::_::(flat kN (A.marks.set ((k:Int).toNat) m)++bV A.waits)
 rw[ea,←this,show 0+3+k*2=k*2+1+1+1 from by omega]
 simp only[dM,List.take_succ_cons,uM,vo]
 rw[show k*2+1+1+1+2=k*2+2+1+1+1 from by omega]
 simp only[List.drop_succ_cons]
 rfl
theorem EP{A:aO}(h:A.Wf)(sp:Nat):(fD A sp).length=21:=by
 simp[fD,eu vo,h.marks,zQ,h.waits]
theorem abK{A:aO}(h:A.Wf){sp k:Nat}(hk:k<6):(fD A sp)[0+15+k*1]?=some (.int .i64 (A.wt k)):=by
 have hk2:k<A.waits.length:=by rw[h.waits];exact hk
 have h1:A.waits[k]?=some (A.wt k):=by rw[aO.wt,ea,GE hk2];rfl
 rw[show 0+15+k*1=(12+k)+1+1+1 from by omega]
 simp only[fD,sr]
 rw[qX Ps,eu vo,h.marks,show 12+k-6*2=k from by omega,bV,dH,h1];rfl
theorem Hy{A:aO}(h:A.Wf){sp k:Nat}(hk:k<6)(n:Int):(fD A sp).set (0+15+k*1) (.int .i64 n)=fD (A.gW k n) sp:=by
 rw[show 0+15+k*1=(12+k)+1+1+1 from by omega]
 simp only[fD,y_,aO.gW,ea]
 rw[List.set_append_right _ _ Ps,eu vo,h.marks,show 12+k-6*2=k from by omega]
 simp[bV,gZ]
theorem aO.Wf.rU{A:aO}(h:A.Wf)(k:Int)(m:sE):(A.rU k m).Wf:=⟨h.aM,h.c0,h.c1,by simpa[aO.rU] using h.marks,h.waits⟩
theorem aO.Wf.gW{A:aO}(h:A.Wf)(k:Int)(n:Int):(A.gW k n).Wf:=⟨h.aM,h.c0,h.c1,h.marks,by simpa[aO.gW] using h.waits⟩
theorem aO.Wf.jE{A:aO}(h:A.Wf)(k s t:Int):(A.jE k s t).Wf:=by
 unfold aO.jE;split
 ·exact h.rU k _
 ·exact h
theorem aO.Wf.dB{A:aO}(h:A.Wf)(k s t:Int):(A.dB k s t).2.Wf:=by
 unfold aO.dB;split
 ·exact h.jE k s t
 ·exact h
theorem fO{p:Nat}{a:Addr}{cs:List Value}(h:bq Fr w p (.pointer (some a)::cs)):ax Tryz.prog 124 [.pointer (some ⟨p,0,none⟩)] Fr w [] (fun v L=>v=.bool false∧L=[]):=by
 refine TF 12 Tryz.func124 Z yp aC Z Z ?_
 refine al ?_
 refine VG (VO.split 5 rfl rfl (fun h=>by cases h) (fun _=>?_))
 refine ow ?_
 exact xQ
theorem wY{p sp:Nat}{A:aO}(k:Int)(h:bq Fr w p (fD A sp)):ax Tryz.prog 224 [.pointer (some ⟨p,0,none⟩),.int .i64 k] Fr w [] (fun v L=>v=.bool (A.has k)∧L=[]):=by
 refine TF 20 Tryz.func224 Z yp aC Z Z ?_
 refine al ?_
 refine HD ?_
 refine VG (VY 8 true Z Z ?_)
 refine VG (VO.split 12 Z Z (fun h2=>?_) (fun h2=>?_))
 ·have h2:=of_decide_eq_true h2
  refine ow ?_
  exact CR (an.bool 4 Z Z (by simp[aO.has,h2]) ER ⟨rfl,Z⟩)
 ·have h2:=of_decide_eq_false h2
  refine al ?_
  exact CR (an.bool 4 Z Z (by simp[aO.has,h2]) ER ⟨rfl,Z⟩)
theorem CJ(n:Int):ax Tryz.prog 225 [.int .i64 n] Fr w [] (fun v L=>v=.bool (kQ n)∧L=[]):=by
 refine TF 9 Tryz.func225 Z yp aC Z Z ?_
 refine al ?_
 refine VG (VO.split 5 Z Z (fun h2=>?_) (fun h2=>?_))
 ·have h2:=of_decide_eq_true h2
  refine al ?_
  exact CR (an.bool 2 Z Z (by simp[kQ,h2]) ER ⟨rfl,Z⟩)
 ·have h2:=of_decide_eq_false h2
  refine al ?_
  exact CR (an.bool 2 Z Z (by simp[kQ,h2]) ER ⟨rfl,Z⟩)
theorem I8(t u:sE):ax Tryz.prog 226 [.agg (kN t).toArray,.agg (kN u).toArray] Fr w [] (fun v L=>v=.bool (uY t u)∧L=[]):=by
 refine TF 24 Tryz.func226 Z yp aC Z Z ?_
 refine CS (CG (VG (VB (vs:=kN t) Z fun b1=>VG (VB (vs:=kN u) Z fun b2=>VG (VN ?_)))))
 refine dF ?_
 refine VG (VO.split 10 Z Z (fun h1=>?_) (fun h1=>?_))
 ·refine VG (VO.rO Z Z Z (VG (VO.rO Z Z Z (VG (VO.rO Z Z Z (VG (VO.rO Z Z Z (VG (VO.rO Z Z Z ?_)))))))))
  refine al ?_
  exact CR (an.bool 4 Z Z (by simp only[uY,h1];rfl) aa.nil.aj ⟨rfl,Z⟩)
 ·refine dF ?_
  refine VG (VO.split 16 Z Z (fun h2=>?_) (fun h2=>?_))
  ·refine dF ?_
   exact CR (an.bool 4 Z Z (by simp only[uY,h1,h2,Bool.false_or,yS]) aa.nil.aj ⟨rfl,Z⟩)
  ·refine dF ?_
   exact CR (an.bool 4 Z Z (by simp only[uY,h1,h2,Bool.false_or,oA]) aa.nil.aj ⟨rfl,Z⟩)
theorem Jg{p:Nat}{A:aO}(k s t:Int)(h:a_ Fr [bj p A] w):ax Tryz.prog 278 [.pointer (some ⟨p,0,none⟩),.int .i64 k,.int .i64 s,.int .i64 t] Fr w [] (fun v L=>v=.bool (A.wF k s t)∧L=[]):=by
 obtain⟨sp,h⟩:=uT.of h
 have hb:=h.zl
 refine TF 25 Tryz.func278 Z yp aC Z Z ?_
 refine al ?_
 refine VG (VV (fun Fr w hF hs _=>wY Fr w k (hb.of hF hs)) Z ?_)
 refine VG (VO.split 12 Z Z (fun h1=>?_) (fun h1=>?_))
 ·have hk:=of_decide_eq_true h1
  obtain⟨n,rfl⟩:=tE hk.1
  have hn:n<6:=by have:=h.wf.c1;omega
  refine VG (VI (iL n Z Z Z Z Z Z hn) ?_)
  refine VG (VD Z Z (v:=.agg (kN (A.mark n)).toArray) (aw.jF hb (w_ h.wf hn)) ?_)
  refine Oi ?_
  refine VG (VO.mf (fun Fr w=>I8 Fr w (A.mark n) (s,t)) Z ?_)
  refine al ?_
  exact CR (an.bool 8 Z Z (by simp only[aO.wF,h1,yS]) ER ⟨rfl,Z⟩)
 ·refine al ?_
  exact CR (an.bool 8 Z Z (by simp only[aO.wF,h1,oA]) ER ⟨rfl,Z⟩)
theorem BT(p:Nat)(A:aO)(k s t:Int):ax Tryz.prog 156 [.pointer (some ⟨p,0,none⟩),.int .i64 k,.int .i64 s,.int .i64 t] Fr w [bj p A] (fun v L=>v=.int .i64 (A.dB k s t).1∧L=[bj p (A.dB k s t).2]):=by
 refine TF 45 Tryz.func156 Z yp aC Z Z ?_
 refine VC.bz 0 Z (bd.aR p A) fun sp h=>?_
 refine CN (L':=qm p A sp) (aa.of_eq (br _)).aj ?_
 have out:∀{X:Cx},dd X (qm p A sp) [bj p A]:=fun {X}=>(qn sp h aa.refl).aj
 refine al ?_
 refine VG (VV (fun Fr w hF _ hs=>fO Fr w (hs.aA 0 Z)) Z (VG (VN (VC.mh Z ?_))))
 refine al ?_
 refine VG (VV (fun Fr w hF _ hs=>wY Fr w k (hs.aA 0 Z)) Z (VG (VO.split 18 Z Z (fun h1=>?_) (fun h1=>?_))))
 ·have h1:A.has k=false:=by simpa using h1
  have e:A.dB k s t=(2,A):=by simp[aO.dB,h1]
  refine VG (VY 23 true Z Z (VG (VN (VC.mi Z ?_))))
  refine al ?_
  exact HO
 have h1:A.has k=true:=by simpa using h1
 refine VG (VO.mf (fun Fr w=>CJ Fr w s) Z (VG (VO.split 23 Z Z (fun h2=>?_) (fun h2=>?_))))
 ·have h2:kQ s=false:=by simpa using h2
  have e:A.dB k s t=(2,A):=by simp[aO.dB,h2]
  refine VG (VN (VC.mi Z ?_))
  refine al ?_
  exact HO
 have h2:kQ s=true:=by simpa using h2
 refine VG (VO.mf (fun Fr w=>CJ Fr w t) Z (VG (VN ?_)))
 refine VC.fq Z (fun h3=>?_) (fun h3=>CK ?_)
 ·have e:A.dB k s t=(2,A):=by simp[aO.dB,h3]
  refine al ?_
  exact HO
 have e:A.dB k s t=(0,A.jE k s t):=by simp[aO.dB,h1,h2,h3]
 have hk:=of_decide_eq_true h1
 obtain⟨n,rfl⟩:=tE hk.1
 have hn:n<6:=by have:=h.c1;omega
 have hlen:=EP h sp
 refine al ?_
 refine Oi ?_
 refine VG (VO.alloc Z fun m=>VG (VT (vs:=kN (s,t)) (cs':=kN (s,t)) 0 Z Z Z Z (NR _) Z Z Z (VG (VN ?_))))
 refine CS (CS (CD (ts 0 7 (.only 7 .nil)) yp yr ?_))
 refine AG (AI Z (iL n Z Z Z Z Z Z hn) ?_)
 refine AG (VA.dE 1 (kN (A.mark n)) Z Z Z Z (w_ h hn) ?_)
 refine AG (VA.dE 0 (kN (s,t)) Z Z Z Z Z ?_)
 refine AG (VA.eB (φ:=fun v=>v=.bool (uY (A.mark n) (s,t))) (fun Fr w _ _ _=>I8 Fr w _ _) Z Z (by(try refine Pd.st ?_);(repeat(first|exact Pd.nil|exact Pd.fnil|refine Pd.inner ?_|refine Pd.skip yr ?_|refine zf (zo 0 Z Z) ?_|refine zf (zo 1 Z Z) ?_|refine zf (zm 0 Z Z) ?_|refine zf (zm 1 Z Z) ?_|refine zf (aw.aA (aw.many 1 Z (w_ h hn)) Z) ?_|refine zf ((aw.many 1 Z (w_ h hn))) ?_|refine zc (zo 0 Z Z) ?_|refine zc (zo 1 Z Z) ?_|refine zc (zm 0 Z Z) ?_|refine zc (zm 1 Z Z) ?_|refine zc (aw.aA (aw.many 1 Z (w_ h hn)) Z) ?_|refine zc ((aw.many 1 Z (w_ h hn))) ?_))) ?_)
 rintro _ rfl
 refine bp ?_
 refine CC Z (fun h4=>?_) (fun h4=>CK ?_)
 ·have e2:A.jE n s t=A.rU n (s,t):=by unfold aO.jE;rw[if_pos h4]
  refine D3 ?_
  refine AG (VA.dE 0 (kN (s,t)) Z Z Z Z Z ?_)
  refine AG (AI Z (iL n Z Z Z Z Z Z hn) ?_)
  refine AG (AT (vs:=kN (s,t)) (cs':=fD (A.rU n (s,t)) sp) 1 Z Z Z Z Z (by rw[hlen];show 0+3+n*2+2≤21;omega) (T6 h hn (s,t)) Z Z yu (AG (AN ?_)))
  refine al ?_
  exact CR (an.int 8 Z Z mW (L':=[bj p (A.rU n (s,t))]) (aa.trans aa.tl (qn sp (h.rU n _) aa.refl)).aj ⟨rfl,by rw[e,e2]⟩)
 ·have e2:A.jE n s t=A:=by unfold aO.jE;rw[if_neg (by rw[h4];simp)]
  refine al ?_
  exact CR (an.int 8 Z Z mW (L':=[bj p A]) (aa.trans aa.tl (qn sp h aa.refl)).aj ⟨rfl,by rw[e,e2]⟩)
theorem kJ{p:Nat}{A:aO}(k:Int)(h:a_ Fr [bj p A] w):ax Tryz.prog 72 [.pointer (some ⟨p,0,none⟩),.int .i64 k] Fr w [] (fun v L=>v=.int .i64 (A.aM.oR k)∧L=[]):=by
 obtain⟨sp,h⟩:=uT.of h
 have hb:=h.zl
 have hsch:=h.aM
 refine TF 13 Tryz.func72 Z yp aC Z Z ?_
 refine al ?_
 refine VG (VV (fun Fr w hF hs _=>fO Fr w (hb.of hF hs)) Z (VG (VN (VC.mh Z (CK ?_)))))
 refine kl ?_
 refine VG (VV (fun Fr w hF hs _=>Sched.kJ Fr w k (hsch.of hF hs)) Z (VG (VN ?_)))
 exact CR (an.int 4 Z Z Z ER ⟨rfl,Z⟩)
end Adm
namespace Adm
open Go Vg T Api Sched Conf
attribute [local irreducible] VO VC VA
def vC(o:bw):Bool:=(o.kind == 1)&&(dv o == 0)
theorem Av(o:bw):ax Tryz.prog 178 [.agg o.cells.toArray] Fr w [] (fun v L=>v=.bool (vC o)∧L=[]):=by
 refine TF 11 Tryz.func178 Z yp aC Z Z ?_
 refine CS (CG (VG (VB (vs:=o.cells) Z fun b=>VG (VN ?_))))
 refine al ?_
 refine VG (VO.split 6 Z Z (fun h1=>?_) (fun h1=>?_))
 ·refine VG (VL 0 o.cells Z Z Z Z ?_)
  refine HC ?_
  refine al ?_
  exact CR (an.bool 2 Z Z (by simp only[vC,h1,yS]) aa.nil.aj ⟨rfl,Z⟩)
 ·refine al ?_
  exact CR (an.bool 2 Z Z (by simp only[vC,h1,oA]) aa.nil.aj ⟨rfl,Z⟩)
def aO.may(A:aO)(f:aB):Bool:=A.has f.aL&&(f.kind == 1)&&kQ f.seq&&kQ f.bD&&decide (0≤f.cls)&&decide (f.cls<A.aM.cls.length)&&decide (0≤f.deadline)&&decide (f.deadline≤1099511627776)&&(dv f.op == 0) && !vC f.op
theorem Ah{p:Nat}{A:aO}(f:FM)(h:a_ Fr [bj p A] w):ax Tryz.prog 277 [.pointer (some ⟨p,0,none⟩),.agg (aY f).toArray] Fr w [] (fun v L=>v=.bool (A.may f.1)∧L=[]):=by
 obtain⟨sp,h⟩:=uT.of h
 have hb:=h.zl
 refine TF 60 Tryz.func277 Z yp aC Z Z ?_
 refine CS (CG (VG (VB (vs:=aY f) Z fun b=>VG (VN ?_))))
 refine VC.meet (σ:=Bool) (fun b=>[(4,.bool b)]) (fun _=>[]) (fun b=>b=A.may f.1) ?_ ?_
 rotate_left
 ·rintro b rfl
  exact CR (an.bool 4 Z Z Z ER ⟨rfl,Z⟩)
 refine CD (ts 0 3 (.only 3 (ts 4 8 (.only 12 (ts 13 4 (.only 17 (ts 18 28 (.only 46 (ts 47 5 (.only 52 (ts 53 3 .nil))))))))))) yp yr ?_
 refine bp ?_
 refine AG (VA.eB (φ:=fun v=>v=.bool (A.has f.1.aL)) (fun Fr w hF hs _=>wY Fr w f.1.aL (hb.of hF hs)) Z Z yu ?_)
 rintro _ rfl
 refine pd ?_
 refine AG (VA.split 9 Z Z (fun h0=>?_) (fun h0=>?_))
 rotate_left
 ·refine AG (AY 14 false Z Z ?_)
  refine p6 ?_
  refine AG (AY 19 false Z Z ?_)
  refine p6 ?_
  refine AG (AY 24 false Z Z ?_)
  refine ED ?_
  refine yO ?_
  exact⟨false,(by show false=aO.may A f.1;rw[aO.may];simp only[show(A.has f.1.aL)=false from h0,mX,oA]),aH,aa.nil.aj⟩
 refine pd ?_
 refine AG (VA.split 14 Z Z (fun h1=>?_) (fun h1=>?_))
 rotate_left
 ·refine p6 ?_
  refine AG (AY 19 false Z Z ?_)
  refine p6 ?_
  refine AG (AY 24 false Z Z ?_)
  refine ED ?_
  refine yO ?_
  exact⟨false,(by show false=aO.may A f.1;rw[aO.may];simp only[show(f.1.kind == 1)=false from h1,mX,oA]),aH,aa.nil.aj⟩
 refine pd ?_
 refine AG (VA.eB (φ:=fun v=>v=.bool (kQ f.1.seq)) (fun Fr w _ _ _=>CJ Fr w _) Z Z Et ?_)
 rintro _ rfl
 refine pd ?_
 refine AG (VA.split 19 Z Z (fun h2=>?_) (fun h2=>?_))
 rotate_left
 ·refine p6 ?_
  refine AG (AY 24 false Z Z ?_)
  refine ED ?_
  refine yO ?_
  exact⟨false,(by show false=aO.may A f.1;rw[aO.may];simp only[show(kQ f.1.seq)=false from h2,mX,oA]),aH,aa.nil.aj⟩
 refine pd ?_
 refine AG (VA.eB (φ:=fun v=>v=.bool (kQ f.1.bD)) (fun Fr w _ _ _=>CJ Fr w _) Z Z Et ?_)
 rintro _ rfl
 refine pd ?_
 refine AG (VA.split 24 Z Z (fun h3=>?_) (fun h3=>?_))
 rotate_left
 ·refine ED ?_
  refine yO ?_
  exact⟨false,(by show false=aO.may A f.1;rw[aO.may];simp only[show(kQ f.1.bD)=false from h3,mX,oA]),aH,aa.nil.aj⟩
 refine pd ?_
 refine AG (VA.split 29 Z Z (fun h4=>?_) (fun h4=>?_))
 rotate_left
 ·refine Oj ?_
  refine yO ?_
  exact⟨false,(by show false=aO.may A f.1;rw[aO.may];simp only[show(decide (0≤f.1.cls))=false from h4,mX,oA]),aH,aa.nil.aj⟩
 refine pd ?_
 refine AG (VA.split 38 Z Z (fun h5=>?_) (fun h5=>?_))
 rotate_left
 ·refine yO ?_
  exact⟨false,(by show false=aO.may A f.1;rw[aO.may];simp only[show(decide (f.1.cls<A.aM.cls.length))=false from h5,mX,oA]),aH,aa.nil.aj⟩
 refine pd ?_
 refine AG (VA.split 43 Z Z (fun h6=>?_) (fun h6=>?_))
 rotate_left
 ·refine P4 ?_
  exact⟨false,(by show false=aO.may A f.1;rw[aO.may];simp only[show(decide (0≤f.1.deadline))=false from h6,mX,oA]),aH,aa.nil.aj⟩
 refine pd ?_
 refine AG (VA.split 48 Z Z (fun h7=>?_) (fun h7=>?_))
 rotate_left
 ·refine P2 ?_
  exact⟨false,(by show false=aO.may A f.1;rw[aO.may];simp only[show(decide (f.1.deadline≤1099511627776))=false from h7,mX,oA]),aH,aa.nil.aj⟩
 refine pd ?_
 refine AG (VA.dE 0 f.1.op.cells Z Z Z Z Z ?_)
 refine AG (VA.eB (φ:=fun v=>v=.int .i64 (dv f.1.op)) (fun Fr w _ _ _=>gv Fr w _) Z Z Et ?_)
 rintro _ rfl
 refine pd ?_
 refine AG (VA.split 54 Z Z (fun h8=>?_) (fun h8=>?_))
 rotate_left
 ·refine P0 ?_
  exact⟨false,(by show false=aO.may A f.1;rw[aO.may];simp only[show(dv f.1.op == 0)=false from h8,mX,oA]),aH,aa.nil.aj⟩
 refine pd ?_
 refine AG (VA.dE 0 f.1.op.cells Z Z Z Z Z ?_)
 refine AG (VA.eB (φ:=fun v=>v=.bool (vC f.1.op)) (fun Fr w _ _ _=>Av Fr w _) Z Z Et ?_)
 rintro _ rfl
 refine bp ?_
 refine⟨!vC f.1.op,?_,aH,aa.nil.aj⟩
 show(!vC f.1.op)=aO.may A f.1
 rw[aO.may]
 simp only[show(A.has f.1.aL)=true from h0,show(f.1.kind == 1)=true from h1,show(kQ f.1.seq)=true from h2,show(kQ f.1.bD)=true from h3,show(decide (0≤f.1.cls))=true from h4,show(decide (f.1.cls<A.aM.cls.length))=true from h5,show(decide (0≤f.1.deadline))=true from h6,show(decide (f.1.deadline≤1099511627776))=true from h7,show(dv f.1.op == 0)=true from h8,yS,Bool.and_true]
end Adm
namespace Adm
open Go Vg T Api Sched Conf
attribute [local irreducible] VO VC VA
theorem Qd{Fr:Nat→Prop}{w:World}{p sp:Nat}{A:aO}(h:A.Wf)(hs:a_ Fr (qm p A sp) w):a_ Fr [bj p A] w:=a_.shut (φ:=fun _=>A.Wf) (Ls:=fun sp=>qm p A sp) sp h hs
theorem Wb(S:aJ)(f:aB):(S.fg f).2.cls.length=S.cls.length:=by
 unfold aJ.fg
 split
 ·rfl
 ·split
  ·rfl
  ·split
   ·simp[aJ.kj]
   ·rfl
def qC(c:ba):aO:=⟨aJ.new c.qs c.queue,c.bK,List.replicate 6 (0,0),List.replicate 6 0⟩
theorem JV{c:ba}(h:c=bh c):og c.qs c.queue=true∧1≤c.bK∧c.bK≤6:=by
 have h1:c.qs=eI c.qs:=congrArg ba.qs h
 have h2:c.queue=aF c.queue 1 16:=congrArg ba.queue h
 have h3:c.bK=aF c.bK 1 6:=congrArg ba.bK h
 have h4:=sX c.qs
 have h5:=kc (x:=c.queue) (lo:=1) (hi:=16) yg
 have h6:=kc (x:=c.bK) (lo:=1) (hi:=6) yg
 rw[←h1] at h4
 rw[←h2] at h5
 rw[←h3] at h6
 refine⟨?_,h6⟩
 have h7:c.qs.all rR=true:=by
  rw[nK]
  intro q hq
  rw[h1] at hq
  obtain⟨x,_,rfl⟩:=cy.1 hq
  have:=kc (x:=x) (lo:=96) (hi:=65536) yg
  simp[rR,kg,this]
 simp[og,h4,h5,h7]
theorem LG{c:ba}(h:c=bh c):(qC c).Wf:=by
 obtain⟨h1,h2,h3⟩:=JV h
 exact⟨aJ.LM h1,h2,h3,Z,Z⟩
theorem lK(c:ba)(a:Option Addr)(cap:Nat)(hq:gp Fr w a c.qs)(ha:pk a)(hcap:c.qs.length≤cap):ax Tryz.prog 46 [.agg (c.cells a cap).toArray] Fr w []
  (fun v L=>if c=bh c then ∃p,v=.tuple #[.pointer (some ⟨p,0,none⟩),.int .i64 0]∧L=[bj p (qC c)] else v=.tuple #[.pointer none,.int .i64 2]∧L=[]):=by
 refine TF 30 Tryz.func46 Z yp aC Z Z ?_
 refine CS (CG (VG (VB (vs:=c.cells a cap) Z fun x=>VG (VN ?_))))
 refine uI ?_
 refine VG (VV (fun Fr w hF hs _=>gv Fr w c a cap (pG hq hF hs) ha hcap) Z (VG (VN ?_)))
 refine al ?_
 refine VC.dp Z (fun h1=>?_) (fun h1=>CK ?_)
 ·have hc:¬c=bh c:=fun e=>h1 (by rw[mI,if_pos e])
  have hc2:mI c=2:=by rw[mI,if_neg hc]
  refine al ?_
  refine CR (an.cV 2 3 Z Z Z aa.nil.aj ?_)
  rw[if_neg hc,hc2];exact⟨rfl,rfl⟩
 have hc:c=bh c:=by
  apply Decidable.byContradiction
  intro hc
  rw[mI,if_neg hc] at h1
  cases h1
 obtain⟨hok,hc0,hc1⟩:=JV hc
 refine al ?_
 refine VG (VK (Lc:=[]) (fun Fr w hF hs _=>Sched.lK Fr w a cap c.qs c.queue (pG hq hF hs)) Z Z ?_)
 intro v L hv
 unfold cJ at hv
 rw[if_pos hok] at hv
 obtain⟨sp,rfl,rfl⟩:=hv
 refine al ?_
 refine VC.dp Z (fun h=>absurd Z h) (fun _=>CK ?_)
 refine dF ?_
 refine VG (VI (LB (pv:=[(0,pV sp),(1,.int .i64 c.bK),(2,.int .i64 c.qs.length)]) (fD (qC c) sp) Z Z Z (by
  have e:(qC c).aM.cls.length=c.qs.length:=by simp[qC,aJ.new]
  simp only[fD,e]
  rfl) rfl) ?_)
 refine VG (VB (vs:=fD (qC c) sp) Z fun p=>VG (VN ?_))
 refine CR (an.cV 2 3 Z Z Z (L':=[bj p (qC c)]) (qn sp (LG hc) (aa.app (L:=[_,_]) (M:=[_,_]) aa.refl aa.nil)).aj ?_)
 rw[if_pos hc];exact⟨p,rfl,rfl⟩
def aO.e9(A:aO)(S:aJ):aO:={ A with aM:=S }
def aO.dT(A:aO)(f:aB)(now:Int):Int×aO:=
 if A.wF f.aL f.seq f.bD then (7,A) else if A.wt f.aL=f.seq then (6,A) else if A.wt f.aL≠0 then (1,A) else if f.deadline<now then (2,A)
 else if (A.aM.fg f).1≠0 then (1,A.e9 (A.aM.fg f).2) else (0,(A.e9 (A.aM.fg f).2).gW f.aL f.seq)
def aO.iN(A:aO)(f:aB)(now:Int):Int×aO:=
 if A.may f then if (A.dT f now).1≠0∧(A.dT f now).1≠6 then ((A.dT f now).1,((A.dT f now).2.dB f.aL f.seq f.bD).2) else A.dT f now else (10,A)
theorem aO.Wf.e9{A:aO}(h:A.Wf){S:aJ}(hS:S.Wf):(A.e9 S).Wf:=⟨hS,h.c0,h.c1,h.marks,h.waits⟩
theorem aO.Wf.dT{A:aO}(h:A.Wf)(f:aB)(now:Int):(A.dT f now).2.Wf:=by
 unfold aO.dT
 repeat' split
 all_goals first | exact h | exact h.e9 (GV h.aM f) | exact(h.e9 (GV h.aM f)).gW _ _
theorem Lq{A:aO}{f:aB}(h:A.may f=true):A.has f.aL=true∧kQ f.seq=true∧kQ f.bD=true:=by
 simp only[aO.may,eG] at h
 exact⟨h.1.1.1.1.1.1.1.1.1,h.1.1.1.1.1.1.1.2,h.1.1.1.1.1.1.2⟩
theorem SJ{A:aO}(h:A.Wf){k:Int}(hk:A.has k=true):∃n:Nat,k=n∧n<6:=by
 have hk:=of_decide_eq_true hk
 obtain⟨n,rfl⟩:=tE hk.1
 have:=h.c1
 exact⟨n,Z,by omega⟩
theorem I6{A:aO}(f:aB)(sp:Nat):fD A sp=fD (A.e9 (A.aM.fg f).2) sp:=by
 simp only[fD,aO.e9,Wb]
theorem abx(p:Nat)(A:aO)(f:FM)(hmm:mC Fr w f.2)(now:Int)(hm:A.may f.1=true):ax Tryz.prog 293 [.pointer (some ⟨p,0,none⟩),.agg (aY f).toArray,.int .i64 now] Fr w [bj p A] (fun v L=>v=.int .i64 (A.dT f.1 now).1∧L=[bj p (A.dT f.1 now).2]):=by
 refine TF 53 Tryz.func293 Z yp aC Z Z ?_
 refine CS (CG (VG (VB (vs:=aY f) Z fun b=>VG (VN ?_))))
 refine VC.bz 1 Z (bd.aR p A) fun sp h=>?_
 refine CN (L':=pt b (aY f) 188::qm p A sp) (aa.perm lV).aj ?_
 obtain⟨hhas,hnum,hnum2⟩:=Lq hm
 obtain⟨n,hcl,hn⟩:=SJ h hhas
 have hwt:A.wt f.1.aL=A.wt n:=by rw[hcl]
 have out:∀{X:Cx},dd X (pt b (aY f) 188::qm p A sp) [bj p A]:=fun {X}=>(aa.trans aa.tl (qn sp h aa.refl)).aj
 refine CS (CD (ts 0 8 .nil) yp yr ?_)
 refine fj ?_
 refine D4 ?_
 refine AG (VA.ld 1 Z Z Z Z (abK h hn) ?_)
 refine bp ?_
 refine dF ?_
 refine VG (VV (fun Fr w hF _ hs=>Jg Fr w f.1.aL f.1.seq f.1.bD (Qd h hs.tail)) Z (VG (VN ?_)))
 refine CC Z (fun h1=>?_) (fun h1=>?_)
 ·have e:A.dT f.1 now=(7,A):=by unfold aO.dT;rw[if_pos h1]
  refine al ?_
  exact D5
 refine dF ?_
 refine CE Z (fun h2=>?_) (fun h2=>?_)
 ·have e:A.dT f.1 now=(6,A):=by unfold aO.dT;rw[if_neg tw,if_pos (hwt.trans h2)]
  refine al ?_
  exact D5
 refine dF ?_
 refine VC.dp Z (fun h3=>?_) (fun h3=>?_)
 ·have e:A.dT f.1 now=(1,A):=by unfold aO.dT;rw[if_neg tw,if_neg Iz,if_pos (by rw[hwt];exact h3)]
  refine al ?_
  exact D5
 refine dF ?_
 refine CP Z (fun h4=>?_) (fun h4=>?_)
 ·have e:A.dT f.1 now=(2,A):=by unfold aO.dT;rw[if_neg tw,if_neg Iz,if_neg (by rw[hwt];exact fun x=>x h3),if_pos h4]
  refine al ?_
  exact D5
 have e0:A.dT f.1 now=if (A.aM.fg f.1).1≠0 then (1,A.e9 (A.aM.fg f.1).2) else (0,(A.e9 (A.aM.fg f.1).2).gW f.1.aL f.1.seq):=by
  unfold aO.dT;rw[if_neg tw,if_neg Iz,if_neg (by rw[hwt];exact fun x=>x h3),if_neg h4]
 have hwf:=h.e9 (GV h.aM f.1)
 refine CS (CD (ts 0 5 (.only 5 (ts 6 2 .nil))) yp yr ?_)
 refine fj ?_
 refine AG (VA.dE 0 (aY f) Z Z Z Z Z ?_)
 refine AG (AQ 2 (ψ:=fun v H=>v=.int .i64 (A.aM.fg f.1).1∧H=gj sp (A.aM.fg f.1).2) Z (fun Fr w hF hs _=>Sched.vB Fr w sp A.aM f (hmm.of hF hs)) Z Z (fun v L1 h=>⟨_,h.2,h.1,Z⟩) ?_ ?_)
 ·rintro _ _ ⟨rfl,rfl⟩
  exact yu
 rintro _ _ ⟨rfl,rfl⟩
 refine bp ?_
 refine VC.dp Z (fun h5=>?_) (fun h5=>CK ?_)
 ·have e:A.dT f.1 now=(1,A.e9 (A.aM.fg f.1).2):=by rw[e0,if_pos h5]
  refine al ?_
  refine CR (an.int 6 Z Z mW (aa.trans aa.tl (qn sp hwf (aa.of_eq ?_))).aj ⟨rfl,by rw[e]⟩)
  rw[qm,I6 f.1 sp];rfl
 have e:A.dT f.1 now=(0,(A.e9 (A.aM.fg f.1).2).gW n f.1.seq):=by rw[e0,if_neg (fun x=>x h5),hcl]
 refine CS (CD (ts 0 8 (.only 8 .nil)) yp yr ?_)
 refine fj ?_
 refine D4 ?_
 refine AG (VA.st 1 Z Z Z Z Z Pt (cs':=fD ((A.e9 (A.aM.fg f.1).2).gW n f.1.seq) sp) (by rw[I6 f.1 sp];exact Hy hwf hn f.1.seq) Z yu ?_)
 refine uJ ?_
 exact CR (an.int 6 Z Z mW (aa.trans aa.tl (qn sp (hwf.gW n f.1.seq) (aa.of_eq Z))).aj ⟨rfl,by rw[e]⟩)
theorem CL(p:Nat)(A:aO)(f:FM)(hmm:mC Fr w f.2)(now:Int):ax Tryz.prog 280 [.pointer (some ⟨p,0,none⟩),.agg (aY f).toArray,.int .i64 now] Fr w [bj p A] (fun v L=>v=.int .i64 (A.iN f.1 now).1∧L=[bj p (A.iN f.1 now).2]):=by
 refine TF 31 Tryz.func280 Z yp aC Z Z ?_
 refine CS (CG (VG (VB (vs:=aY f) Z fun b=>VG (VN ?_))))
 refine al ?_
 refine VG (VL 0 (aY f) Z Z Z Z ?_)
 refine VG (VV (fun Fr w hF _ hs=>Ah Fr w f (hs.at_ 1 Z)) Z (VG (VN ?_)))
 refine VC.fq Z (fun h1=>?_) (fun h1=>CK ?_)
 ·have e:A.iN f.1 now=(10,A):=by unfold aO.iN;rw[if_neg tw]
  refine al ?_
  exact CR (an.int 6 Z Z mW (L':=[bj p A]) aa.tl.aj ⟨rfl,by rw[e]⟩)
 refine al ?_
 refine VG (VL 0 (aY f) Z Z Z Z ?_)
 refine VG (VQ 1 (ψ:=fun v H=>v=.int .i64 (A.dT f.1 now).1∧H=bj p (A.dT f.1 now).2) Z (fun Fr w hF hs _=>abx Fr w p A f (hmm.of hF hs) now h1) Z (fun v L1 h=>⟨_,h.2,h.1,Z⟩) ?_)
 rintro _ _ ⟨rfl,rfl⟩
 have e0:A.iN f.1 now=if (A.dT f.1 now).1≠0∧(A.dT f.1 now).1≠6 then ((A.dT f.1 now).1,((A.dT f.1 now).2.dB f.1.aL f.1.seq f.1.bD).2) else A.dT f.1 now:=by unfold aO.iN;rw[if_pos h1]
 refine al ?_
 refine VG (VO.split 18 Z Z (fun h2=>?_) (fun h2=>?_))
 ·have h2:(A.dT f.1 now).1≠0:=by simpa using h2
  refine VG (VN (VC.dp Z (fun h3=>?_) (fun h3=>CK ?_)))
  ·have e:A.iN f.1 now=((A.dT f.1 now).1,((A.dT f.1 now).2.dB f.1.aL f.1.seq f.1.bD).2):=by rw[e0,if_pos ⟨h2,h3⟩]
   refine al ?_
   refine VG (VQ 1 (ψ:=fun v H=>H=bj p ((A.dT f.1 now).2.dB f.1.aL f.1.seq f.1.bD).2) Z (fun Fr w _ _ _=>BT Fr w p _ _ _ _) Z (fun v L1 h=>⟨_,h.2,Z⟩) ?_)
   rintro _ _ rfl
   refine al ?_
   exact HQ
  ·have e:A.iN f.1 now=A.dT f.1 now:=by rw[e0,if_neg (fun x=>x.2 h3)]
   refine al ?_
   exact HQ
 ·have h2:(A.dT f.1 now).1=0:=by simpa using h2
  have e:A.iN f.1 now=A.dT f.1 now:=by rw[e0,if_neg (fun x=>x.1 h2)]
  refine sf ?_
  exact HQ
end Adm
namespace Sched
open Go Vg T Api
def dw(S:aJ):aB×Bool×aJ:=match S.oo with
 | some r=>(r.1,true,r.2)
 | none=>(aB.zero,false,S)
theorem VH{p:Nat}{S:aJ}{v:Value}{L:List HP}(h:uk p S v L):∃H,L=[H]∧(∃m,v=.tuple #[.agg (aY ((dw S).1,m)).toArray,.bool (dw S).2.1])∧H=gj p (dw S).2.2:=by
 unfold uk at h;unfold dw
 cases hp:S.oo with
 | none=>rw[hp] at h;exact⟨_,h.2,⟨(none,0,0),h.1⟩,rfl⟩
 | some r=>rw[hp] at h;exact⟨_,h.2,h.1,rfl⟩
theorem GQ{S:aJ}(h:S.Wf):(dw S).2.2.Wf:=by
 unfold dw
 cases hp:S.oo with
 | none=>exact h
 | some r=>obtain⟨f,S1⟩:=r;obtain⟨_,_,_,_,_,hw⟩:=GP h hp;exact hw
theorem VE{S:aJ}(h:S.Wf):(dw S).2.2.cls.length=S.cls.length:=by
 unfold dw
 cases hp:S.oo with
 | none=>rfl
 | some r=>
  obtain⟨f,S1⟩:=r
  obtain⟨_,_,_,h2,_,_⟩:=GP h hp
  have:=congrArg List.length h2
  simpa[aJ.qs] using this
theorem CW{S:aJ}(h:S.Wf)(ho:(dw S).2.1=true):∃k q,S.qs[k]?=some ((dw S).1::q)∧(dw S).2.2.qs=S.qs.set k q:=by
 unfold dw at ho ⊢
 cases hp:S.oo with
 | none=>rw[hp] at ho;cases ho
 | some r=>
  obtain⟨f,S1⟩:=r
  obtain⟨k,q,h1,h2,_,_⟩:=GP h hp
  exact⟨k,q,h1,h2⟩
theorem VF{S:aJ}(h:S.Wf)(ho:(dw S).2.1=false):S.idle=true∧(dw S).2.2=S:=by
 unfold dw at ho ⊢
 cases hp:S.oo with
 | none=>exact⟨Vz h hp,rfl⟩
 | some r=>rw[hp] at ho;cases ho
end Sched
namespace Adm
open Go Vg T Api Sched Conf
attribute [local irreducible] VO VC VA
def qG(n:Int)(f:aB):Prop:=(0≤f.aL∧f.aL<n)∧kQ f.seq=true∧kQ f.bD=true
def aO.Calls(A:aO):Prop:=∀q∈A.aM.qs,∀f∈q,qG A.bK f
def aO.out(A:aO)(f:aB):aO:=(A.gW f.aL 0).jE f.aL f.seq f.bD
def aO.oM(A:aO)(l:List aB):aO:=l.foldl aO.out A
def aO.fF(A:aO)(now:Int):aO:=(A.e9 (A.aM.jW now)).oM (A.aM.dD now)
theorem aO.Wf.out{A:aO}(h:A.Wf)(f:aB):(A.out f).Wf:=(h.gW _ _).jE _ _ _
theorem EX(A:aO)(k s t:Int):(A.jE k s t).bK=A.bK:=by unfold aO.jE;split<;>rfl
theorem EY(A:aO)(k s t:Int):(A.jE k s t).aM=A.aM:=by unfold aO.jE;split<;>rfl
theorem Vl(A:aO)(f:aB):(A.out f).bK=A.bK:=by rw[aO.out,EX];rfl
theorem L9(A:aO)(f:aB):(A.out f).aM=A.aM:=by rw[aO.out,EY];rfl
theorem Ft:∀(l:List aB) {A:aO},A.Wf→(A.oM l).Wf∧(A.oM l).bK=A.bK∧(A.oM l).aM=A.aM
 | [],A,h=>⟨h,rfl,rfl⟩
 | f::l,A,h=>by
  have:=Ft l (h.out f)
  rw[Vl,L9] at this
  exact this
theorem RQ(A:aO)(l:List aB)(f:aB):A.oM (l ++ [f])=(A.oM l).out f:=by simp[aO.oM]
theorem RR(S:aJ)(now:Int):(S.jW now).cls.length=S.cls.length:=by simp[aJ.jW]
theorem tW{A:aO}(h:A.Wf)(now:Int):(A.fF now).Wf∧(A.fF now).bK=A.bK∧(A.fF now).aM=A.aM.jW now:=
 Ft _ (h.e9 (Kh h.aM now))
theorem FO{A:aO}(hc:A.Calls)(now:Int):∀f∈A.aM.dD now,qG A.bK f:=fun f hf=>by
 rw[SD] at hf
 obtain⟨q,hq,hf⟩:=yZ.1 hf
 exact hc q hq f (iS.1 hf).1
theorem Qt{A:aO}{f:aB}(h:qG A.bK f):(A.dB f.aL f.seq f.bD)=(0,A.jE f.aL f.seq f.bD):=by
 have h1:A.has f.aL=true:=by simp[aO.has,h.1]
 simp[aO.dB,h1,h.2.1,h.2.2]
theorem Qb{A:aO}(now:Int)(sp:Nat):fD A sp=fD (A.e9 (A.aM.jW now)) sp:=by
 simp only[fD,aO.e9,RR]
def FN(p:Nat)(A:aO)(gs:List aB)(v:Value)(L:List HP):Prop:=∃r:RL FM,r.Ok aY 29∧r.xs.map Prod.fst=gs∧v=r.v∧L=[r.h 188,bj p A]
theorem wQ(p:Nat)(A:aO)(now:Int)(hC:A.Calls):ax Tryz.prog 221 [.pointer (some ⟨p,0,none⟩),.int .i64 now] Fr w [bj p A] (FN p (A.fF now) (A.aM.dD now)):=by
 refine TF 36 Tryz.func221 Z yp aC Z Z ?_
 refine VC.bz 0 Z (bd.aR p A) fun sp h=>?_
 refine CN (L':=qm p A sp) (aa.of_eq (br _)).aj ?_
 have hwf:=h.e9 (Kh h.aM now)
 refine jz ?_
 refine VC.meet (σ:=RL FM) (fun r=>[(0,pV p),(5,r.v)]) (fun r=>[r.h 188,bj p (A.e9 (A.aM.jW now))]) (fun r=>r.Ok aY 29∧r.xs.map Prod.fst=A.aM.dD now) ?_ ?_
 ·refine al ?_
  refine VO.aj (L':=[gj sp A.aM,pt p (fD A sp) 179]) (aa.perm (List.Perm.swap _ _ _)).aj ?_
  refine VG (VK (Lc:=[gj sp A.aM]) (fun Fr w _ _ _=>Sched.wQ Fr w sp A.aM now) Z Z ?_)
  rintro _ _ ⟨a,c,gs,hgs,rfl,rfl⟩
  refine VO.bz 1 Z (bd.rl _ a c gs vc) fun r ⟨hok,hv,hx⟩=>?_
  refine VG (VN ⟨r,⟨hok,by rw[hx,hgs]⟩,SC Z (SC (by rw[hv];rfl) (SN _)),?_⟩)
  refine(aa.cons (qn sp hwf ?_)).aj
  show aa [gj sp (A.aM.jW now),pt p (fD A sp) 179] _
  rw[Qb now sp]
  exact aa.perm (List.Perm.swap _ _ _)
 rintro r ⟨hok,hgs⟩
 have hgok:=FO hC now
 have hfew:=h.aM.Fv A.aM.cls.length now
 rw[iT] at hfew
 have hl:r.xs.length≤64:=by
  have:=congrArg List.length hgs
  rw[cY] at this
  rw[this];exact hfew
 refine al ?_
 refine VC.loop (σ:=Nat) (fun i=>[(0,pV p),(5,r.v),(14,r.v),(15,.int .i64 r.xs.length),(16,.int .i64 i)]) (fun i=>[r.h 188,bj p ((A.e9 (A.aM.jW now)).oM ((A.aM.dD now).take i))]) (fun i=>i≤r.xs.length) (fun i=>r.xs.length-i) 0 (bH _) aH ER ?_
 intro i hi
 refine al ?_
 refine CP Z (fun h1=>CK ?_) (fun h1=>CX ?_)
 ·have hi2:i<r.xs.length:=by omega
  obtain⟨⟨f,m⟩,hx⟩:∃x,r.xs[i]?=some x:=⟨_,GE hi2⟩
  obtain⟨bk,off,hbk,had,hrow⟩:=hok.nth hx
  have hg:(A.aM.dD now)[i]?=some f:=by rw[←hgs,dH,hx];rfl
  have hf:=hgok f (ME hg)
  have htake:(A.aM.dD now).take (i+1)=(A.aM.dD now).take i ++ [f]:=by rw[fX,hg];rfl
  obtain⟨hAwf,hAc,hAs⟩:=Ft ((A.aM.dD now).take i) hwf
  have hnext:(A.e9 (A.aM.jW now)).oM ((A.aM.dD now).take (i+1))=((A.e9 (A.aM.jW now)).oM ((A.aM.dD now).take i)).out f:=by rw[htake,RQ]
  generalize hB:(A.e9 (A.aM.jW now)).oM ((A.aM.dD now).take i)=B at hAwf hAc hAs ⊢
  have hBc:B.bK=A.bK:=hAc
  obtain⟨n,hcl⟩:=tE hf.1.1
  have hn:n<6:=by have:=hf.1.2;have:=h.c1;omega
  have hv:r.v=.slice (some ⟨bk,off,none⟩) r.xs.length r.cap:=by rw[RL.v,had]
  have hv':some r.v=some (.slice (some ⟨bk,off,none⟩) r.xs.length r.cap):=by rw[hv]
  refine VC.bz 1 Z (bd.aR p B) fun xC h2=>?_
  refine CN (L':=pt p (fD B xC) 179::gj xC B.aM::r.h 188 :: []) ER ?_
  rw[RL.KA hbk]
  refine tm ?_
  refine mV ?_
  refine VG (VI (eE i hv' Z Z Z Z Z hi2) ?_)
  refine VG (VD Z Z (v:=.agg (aY (f,m)).toArray) (aw.many 2 Z hrow) ?_)
  refine VG (VO.alloc Z fun b7=>VG (VT (vs:=aY (f,m)) (cs':=aY (f,m)) 0 Z Z Z Z (NR _) Z Z Z (VG (VN ?_))))
  refine DW ?_
  refine bp ?_
  refine D4 ?_
  refine AG (VA.st 1 Z Z Z Z Z (by rw[EP h2];show 0+15+n*1<21;omega) (cs':=fD (B.gW n 0) xC) (Hy h2 hn 0) Z yu (AG (AN ?_)))
  refine CG ?_
  refine VO.aj (L':=[pt b7 (aY (f,m)) 188,bj p (B.gW n 0),pt bk r.cells 188]) (aa.cons (aa.trans (aa.perm (lV (l₁:=[_,_]) (l₂:=[_]))) (aa.trans (aa.cons (qn xC (h2.gW n 0) aa.refl)) (aa.perm (List.Perm.swap _ _ _))))).aj ?_
  refine VG (VO.ld 0 Z Z Z Z (VG (VO.ld 0 Z Z Z Z (VG (VO.ld 0 Z Z Z Z ?_)))))
  refine VG (VQ 1 (ψ:=fun v H=>H=bj p (B.out f)) Z (fun Fr w _ _ _=>BT Fr w p (B.gW n 0) _ _ _) Z (fun v L1 h=>⟨_,h.2,?_⟩) ?_)
  ·have e:B.gW n 0=B.gW f.aL 0:=by rw[hcl]
   have:=Qt (A:=B.gW f.aL 0) (f:=f) (by show qG B.bK f;rw[hBc];exact hf)
   rw[e]
   show bj p ((B.gW f.aL 0).dB f.aL f.seq f.bD).2=_
   rw[this];rfl
  rintro _ _ rfl
  refine gm ?_
  refine jC ?_
  refine⟨i+1,hi2,by dsimp only;omega,aH,?_⟩
  dsimp only
  rw[hnext,hB]
  exact(aa.trans aa.tl (aa.perm (List.Perm.swap _ _ _))).aj
 ·have hi2:i=r.xs.length:=by omega
  subst hi2
  have e:(A.aM.dD now).take r.xs.length=A.aM.dD now:=by rw[qg];rw[←hgs];simp
  rw[e]
  refine al ?_
  exact CR (an.tmp 4 Z Z ER ⟨r,hok,hgs,Z,Z⟩)
def aO.dX(A:aO)(now:Int):aO:=
 if (dw (A.fF now).aM).2.1 then ((A.fF now).e9 (dw (A.fF now).aM).2.2).gW (dw (A.fF now).aM).1.aL 0 else (A.fF now).e9 (dw (A.fF now).aM).2.2
theorem B7{A:aO}(h:A.Wf)(hC:A.Calls)(now:Int):(A.fF now).Calls:=by
 obtain⟨_,h2,h3⟩:=tW h now
 intro q hq f hf
 rw[h3,Kg] at hq
 obtain⟨q0,hq0,rfl⟩:=cy.1 hq
 rw[h2]
 exact hC q0 hq0 f (iS.1 hf).1
theorem Qc{A:aO}{S:aJ}(hl:S.cls.length=A.aM.cls.length)(sp:Nat):fD A sp=fD (A.e9 S) sp:=by
 simp only[fD,aO.e9,hl]
theorem UL{A:aO}(h:A.Wf)(now:Int):(A.dX now).Wf:=by
 obtain⟨h1,_,_⟩:=tW h now
 unfold aO.dX
 split
 ·exact(h1.e9 (GQ h1.aM)).gW _ _
 ·exact h1.e9 (GQ h1.aM)
def LO(p:Nat)(A:aO)(now:Int)(v:Value)(L:List HP):Prop:=∃(r:RL FM) (m:zg),r.Ok aY 29∧r.xs.map Prod.fst=A.aM.dD now∧v=.tuple #[.agg (aY ((dw (A.fF now).aM).1,m)).toArray,.bool (dw (A.fF now).aM).2.1,r.v]∧L=[r.h 188,bj p (A.dX now)]
theorem sU(p:Nat)(A:aO)(now:Int)(hw:A.Wf)(hC:A.Calls):ax Tryz.prog 154 [.pointer (some ⟨p,0,none⟩),.int .i64 now] Fr w [bj p A] (LO p A now):=by
 refine TF 31 Tryz.func154 Z yp aC Z Z ?_
 refine CS (CG (VG (VO.alloc Z fun b=>VG (VN ?_))))
 refine al ?_
 refine VG (VV (u:=.bool false) (fun Fr w hF _ hs=>by
  obtain⟨sp,h⟩:=uT.of (hs.at_ 1 rfl)
  exact fO Fr w h.zl) Z (VG (VN (VC.mh Z (CK ?_)))))
 refine al ?_
 refine VO.aj (L':=[bj p A,pt b (aY eZ) 188]) (aa.perm (List.Perm.swap _ _ _)).aj ?_
 refine VG (VK (Lc:=[bj p A]) (fun Fr w _ _ _=>wQ Fr w p A now hC) Z Z ?_)
 rintro _ _ ⟨r,hok,hgs,rfl,rfl⟩
 obtain⟨hE,hEc,hEs⟩:=tW hw now
 have hEC:=B7 hw hC now
 have hnext:A.dX now=if (dw (A.fF now).aM).2.1 then ((A.fF now).e9 (dw (A.fF now).aM).2.2).gW (dw (A.fF now).aM).1.aL 0 else (A.fF now).e9 (dw (A.fF now).aM).2.2:=rfl
 have hR:∀(m:zg),LO p A now (.tuple #[.agg (aY ((dw (A.fF now).aM).1,m)).toArray,.bool (dw (A.fF now).aM).2.1,r.v]) [r.h 188,bj p (A.dX now)]:=fun m=>⟨r,m,hok,hgs,rfl,rfl⟩
 rw[hnext] at hR
 clear hnext
 generalize A.fF now=B at hE hEc hEs hEC hR ⊢
 refine gm ?_
 refine VC.bz 1 Z (bd.aR p B) fun sp h=>?_
 refine CN (L':=[pt p (fD B sp) 179,gj sp B.aM,r.h 188,pt b (aY eZ) 188]) ER ?_
 refine al ?_
 refine VG (VQ 1 (ψ:=fun v H=>(∃m,v=.tuple #[.agg (aY ((dw B.aM).1,m)).toArray,.bool (dw B.aM).2.1])∧H=gj sp (dw B.aM).2.2) Z (fun Fr w _ _ _=>Sched.VM Fr w sp B.aM h.aM) Z (fun v L1 h=>VH h) ?_)
 rintro _ _ ⟨⟨m,rfl⟩,rfl⟩
 refine VG (VT (vs:=aY ((dw B.aM).1,m)) (cs':=aY ((dw B.aM).1,m)) 3 Z Z Z Z (NR _) Z Z Z (VG (VN ?_)))
 have hS1:=GQ h.aM
 have hwf:=h.e9 hS1
 have hcs:=Qc (VE h.aM) sp
 refine al ?_
 refine CC Z (fun h1=>?_) (fun h1=>CK ?_)
 ·obtain⟨k,q,hk,_⟩:=CW h.aM h1
  have hf:qG B.bK (dw B.aM).1:=hEC _ (ME hk) _ yi
  obtain⟨n,hcl⟩:=tE hf.1.1
  have hn:n<6:=by have:=hf.1.2;have:=h.c1;omega
  rw[if_pos h1,hcl] at hR
  refine D3 ?_
  refine iB ?_
  refine D4 ?_
  refine AG (VA.st 0 Z Z Z Z Z Pt (cs':=fD ((B.e9 (dw B.aM).2.2).gW n 0) sp) (by rw[hcs];exact Hy hwf hn 0) Z yu (AG (AN ?_)))
  refine mV ?_
  refine VG (VL 3 (aY ((dw B.aM).1,m)) Z Z Z Z (VG (VT (vs:=aY ((dw B.aM).1,m)) (cs':=aY ((dw B.aM).1,m)) 3 Z Z Z Z (NR _) Z Z Z (VG (VN ?_)))))
  refine CR (an.JD 4 5 6 Z Z Z (aw.many 3 Z Z) Z Z (L':=[r.h 188,bj p ((B.e9 (dw B.aM).2.2).gW n 0)]) ?_ (hR m))
  exact(IP 2 Z (qn sp (hwf.gW n 0) (aa.app (L:=[_,_]) (M:=[_,_]) aa.refl aa.nil))).aj
 ·rw[if_neg tw] at hR
  refine mV ?_
  refine VG (VL 3 (aY ((dw B.aM).1,m)) Z Z Z Z (VG (VT (vs:=aY ((dw B.aM).1,m)) (cs':=aY ((dw B.aM).1,m)) 3 Z Z Z Z (NR _) Z Z Z (VG (VN ?_)))))
  refine CR (an.JD 4 5 6 Z Z Z (aw.many 3 Z Z) Z Z (L':=[r.h 188,bj p (B.e9 (dw B.aM).2.2)]) ?_ (hR m))
  rw[hcs]
  exact(IP 2 Z (qn sp hwf (aa.app (L:=[_,_]) (M:=[_,_]) aa.refl aa.nil))).aj
theorem FF(p:Nat)(A:aO)(hC:A.Calls):ax Tryz.prog 243 [.pointer (some ⟨p,0,none⟩)] Fr w [bj p A] (FN p (A.fF 9223372036854775807) (A.aM.dD 9223372036854775807)):=by
 refine TF 7 Tryz.func243 Z yp aC Z Z ?_
 refine al ?_
 refine VG (VV (u:=.bool false) (fun Fr w hF _ hs=>by
  obtain⟨sp,h⟩:=uT.of (hs.at_ 0 rfl)
  exact fO Fr w h.zl) Z (VG (VN (VC.mh Z (CK ?_)))))
 refine al ?_
 refine VG (VK (Lc:=[bj p A]) (fun Fr w _ _ _=>wQ Fr w p A _ hC) Z Z ?_)
 rintro _ _ ⟨r,hok,hgs,rfl,rfl⟩
 refine gm ?_
 exact CR (an.tmp 2 Z Z ER ⟨r,hok,hgs,Z,Z⟩)
end Adm
namespace Adm
open Go Vg T Api Sched Conf
attribute [local irreducible] VO VC VA
theorem U'{A:aO}(h:A.Wf)(f:aB)(now:Int):(A.iN f now).2.Wf:=by
 unfold aO.iN
 repeat' split
 all_goals first | exact h | exact(h.dT f now).dB _ _ _ | exact h.dT f now
theorem Qr(A:aO)(k s t:Int):(A.dB k s t).2.bK=A.bK:=by unfold aO.dB;split;exact EX _ _ _ _;rfl
theorem Qs(A:aO)(k s t:Int):(A.dB k s t).2.aM=A.aM:=by unfold aO.dB;split;exact EY _ _ _ _;rfl
theorem NK(A:aO)(f:aB)(now:Int):(A.dT f now).2.bK=A.bK:=by
 unfold aO.dT
 repeat' split
 all_goals rfl
theorem U_(A:aO)(f:aB)(now:Int):(A.iN f now).2.bK=A.bK:=by
 unfold aO.iN
 repeat' split
 all_goals first | rfl | (rw[Qr];exact NK A f now) | exact NK A f now
theorem abw(A:aO)(f:aB)(now:Int):(A.dT f now).2.aM=A.aM∨(A.dT f now).2.aM=(A.aM.fg f).2:=by
 unfold aO.dT
 repeat' split
 all_goals first | exact .inl rfl | exact .inr rfl
theorem T'{A:aO}{f:aB}(h:A.may f=true):(∃k:Nat,f.cls=k∧k<A.aM.cls.length)∧dv f.op=0:=by
 simp only[aO.may,eG,decide_eq_true_eq,beq_iff_eq] at h
 obtain⟨n,hn⟩:=tE h.1.1.1.1.1.2
 exact⟨⟨n,hn,by have:=h.1.1.1.1.2;omega⟩,h.1.2⟩
theorem Wa{n:Int}{S:aJ}{f:aB}(hC:∀q∈S.qs,∀g∈q,qG n g)(hf:qG n f){k:Nat}(hk:f.cls=k)(hlt:k<S.cls.length)(ho:dv f.op=0):∀q∈(S.fg f).2.qs,∀g∈q,qG n g:=by
 have hc:S.qs[k]?=some (S.cls[k].q):=by simp[aJ.qs,GE hlt]
 obtain⟨_,h2,_⟩:=Wc hk hc ho
 rw[h2]
 split
 ·intro q hq g hg
  rcases kx hq with hq | rfl
  ·exact hC q hq g hg
  ·rcases eP.1 hg with hg | hg
   ·exact hC _ (ME hc) g hg
   ·obtain rfl:=fe.1 hg;exact hf
 ·exact hC
theorem U9{A:aO}(hC:A.Calls)(f:aB)(now:Int):(A.iN f now).2.Calls:=by
 intro q hq g hg
 rw[U_]
 have key:A.may f=true→∀q∈(A.dT f now).2.aM.qs,∀g∈q,qG A.bK g:=fun hm=>by
  obtain⟨⟨k,hk,hlt⟩,ho⟩:=T' hm
  obtain⟨h1,h2,h3⟩:=Lq hm
  rcases abw A f now with e | e
  ·rw[e];exact hC
  ·rw[e];exact Wa hC ⟨of_decide_eq_true h1,h2,h3⟩ hk hlt ho
 unfold aO.iN at hq
 split at hq
 ·rename_i hm
  split at hq
  ·rw[Qs] at hq;exact key hm q hq g hg
  ·exact key hm q hq g hg
 ·exact hC q hq g hg
theorem VR{n:Int}{S:aJ}(h:S.Wf)(hC:∀q∈S.qs,∀g∈q,qG n g):∀q∈(dw S).2.2.qs,∀g∈q,qG n g:=by
 cases ho:(dw S).2.1 with
 | true=>
  obtain⟨k,q,h1,h2⟩:=CW h ho
  rw[h2]
  intro q' hq' g hg
  rcases kx hq' with hq' | rfl
  ·exact hC q' hq' g hg
  ·exact hC _ (ME h1) g (kW _ hg)
 | false=>rw[(VF h ho).2];exact hC
theorem UJ{A:aO}(h:A.Wf)(hC:A.Calls)(now:Int):(A.dX now).Calls:=by
 obtain⟨h1,h2,h3⟩:=tW h now
 have:=VR h1.aM (B7 h hC now)
 unfold aO.dX
 split<;>exact this
theorem UG(c:ba):(qC c).Calls:=by
 intro q hq g hg
 simp only[qC,aJ.qs,aJ.new,mY,cy] at hq
 obtain⟨x,_,rfl⟩:=hq
 simp[pA] at hg
theorem pM{x lo hi:Int}(h:lo≤hi):aF (aF x lo hi) lo hi=aF x lo hi:=UF (kc h).1 (kc h).2
theorem Wh(qs:List Int):eI (eI qs)=eI qs:=by
 have h:=sX qs
 have h1:eC (eI qs)=eI qs:=by
  have e:(eI qs).take 4=eI qs:=qg h.2
  unfold eC
  rw[e,if_neg]
  intro e2;rw[e2] at h;simp at h
 have h2:(eI qs).map kg=eI qs:=by
  have:∀x∈eI qs,kg x=x:=fun x hx=>by
   obtain⟨y,_,rfl⟩:=cy.1 hx
   exact pM yg
  rw[List.map_congr_left this];simp
 show(eC (eI qs)).map kg=eI qs
 rw[h1,h2]
theorem R6(c:ba):bh c=bh (bh c):=by
 have hn:=kc (x:=c.nodes) (lo:=1) (hi:=6) yg
 have e1:=pM (x:=c.nodes) (lo:=1) (hi:=6) yg
 have e2:aF (aF c.chain 1 (aF c.nodes 1 6)) 1 (aF (aF c.nodes 1 6) 1 6)=aF c.chain 1 (aF c.nodes 1 6):=by rw[e1];exact pM hn.1
 simp only[bh,ba.mk.injEq]
 exact⟨e1.symm,e2.symm,(pM yg).symm,(Wh _).symm,(pM yg).symm,(pM yg).symm,(pM yg).symm,(pM yg).symm,(pM yg).symm,(pM yg).symm,(pM yg).symm,(pM yg).symm⟩
end Adm
end Go.Proofs.YtkgfhabealjjpaaGreatDoor
