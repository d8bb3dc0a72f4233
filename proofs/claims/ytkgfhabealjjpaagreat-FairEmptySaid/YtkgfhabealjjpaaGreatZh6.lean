/- Texts of the proof, put together and shortened. No condition. -/
import Derived.Test.YtkgfhabealjjpaaGreatZh5
set_option maxRecDepth 100000
set_option maxHeartbeats 16000000
set_option linter.unusedVariables false
set_option linter.unusedSectionVars false
set_option linter.unusedSimpArgs false
namespace Go.Proofs.YtkgfhabealjjpaaGreat
variable (Fr : Nat → Prop) (w : World)
namespace Cl
open Go Vg T Api Ch Rep Conf Lg Rd Win Kv Adm Sched
def wK(q k:Int):Int:=if q=16 then 2 else if 32≤q then 1 else if k=1 then 4 else if k=4 then 3 else 1
theorem xG(q k:Int):1≤wK q k:=by
 unfold wK
 repeat' split
 all_goals decide
def wT(q:Int)(t:ByteArray):Int:=match getM (sB t) with
 | none=>1
 | some x=>wK q x.1.kind
theorem Dw(q:Int)(t:ByteArray):1≤wT q t:=by
 unfold wT
 split
 ·decide
 ·exact xG _ _
def wL(q:Int)(l:List ByteArray):Int:=(l.map (wT q)).sum
theorem vJ(q:Int)(t:ByteArray)(l:List ByteArray):wL q (t::l)=wT q t+wL q l:=by unfold wL;rw[gA,pP]
theorem N9(q:Int):∀l:List ByteArray,(l.length:Int)≤wL q l
 | []=>cd _
 | t::l=>by
  have h:=N9 q l
  have h1:=Dw q t
  rw[vJ,iA]
  push_cast;omega
theorem ab7(q:Int)(l m:List ByteArray):wL q (l++m)=wL q l+wL q m:=by
 induction l with
 | nil=>show wL q m=0+wL q m;omega
 | cons t l ih=>rw[rX,vJ,vJ,ih];omega
theorem N_(q:Int):∀{l:List ByteArray} {i:Nat} {t:ByteArray},l[i]?=some t→wL q (l.eraseIdx i)=wL q l-wT q t
 | [],i,t,h=>by cases h
 | x::l,0,t,h=>by
  cases h
  rw[List.eraseIdx_cons_zero,vJ];omega
 | x::l,i+1,t,h=>by
  rw[List.eraseIdx_cons_succ,vJ,vJ,N_ q (l:=l) (i:=i) h];omega
def wM:List (bj×List ByteArray)→Int
 | []=>0
 | x::m=>wL x.1.2 x.2+wM m
theorem N':∀m,0≤wM m
 | []=>cd _
 | x::m=>by
  have h:=N' m
  have h1:=N9 x.1.2 x.2
  show 0≤wL x.1.2 x.2+wM m
  omega
theorem Hm(p:bj)(l:List ByteArray):∀m,wM (bV m p l)=wM m-wL p.2 ((bF m p).getD [])+wL p.2 l
 | []=>by
  show wL p.2 l+0=0-wL p.2 []+wL p.2 l
  have:wL p.2 []=0:=rfl
  omega
 | (k,v)::m=>by
  have ih:=Hm p l m
  unfold bV bF
  split
  ·rename_i e
   subst e
   show wL k.2 l+wM m=wL k.2 v+wM m-wL k.2 v+wL k.2 l
   omega
  ·show wL k.2 v+wM (bV m p l)=wL k.2 v+wM m-wL p.2 ((bF m p).getD [])+wL p.2 l
   omega
theorem Oa(p:bj):∀m,wM (eO m p)=wM m-wL p.2 ((bF m p).getD [])
 | []=>by
  show(0:Int)=0-wL p.2 []
  have:wL p.2 []=0:=rfl
  omega
 | (k,v)::m=>by
  have ih:=Oa p m
  unfold eO bF
  split
  ·rename_i e
   subst e
   show wM m=wL k.2 v+wM m-wL k.2 v
   omega
  ·show wL k.2 v+wM (eO m p)=wL k.2 v+wM m-wL p.2 ((bF m p).getD [])
   omega
def aT.wg(S:aT):Int:=wM S.aX
theorem GZ(S:aT)(p:bj)(t:ByteArray):(S.send p t).wg≤S.wg+wT p.2 t:=by
 have:=Dw p.2 t
 unfold aT.send
 split
 ·omega
 ·show wM (bV S.aX p (S.list p ++ [t]))≤wM S.aX+wT p.2 t
  rw[Hm,ab7]
  have e:wL p.2 [t]=wT p.2 t:=by rw[vJ];show wT p.2 t+0=_;omega
  unfold aT.list
  omega
theorem Ol{S:aT}{p:bj}{i:Int}{t:ByteArray}(h:S.find p i=some t):(S.dy p i).wg=S.wg-wT p.2 t:=by
 unfold aT.find at h
 split at h
 ·cases h
 have e1:wM (bV S.aX p ((S.list p).eraseIdx i.toNat))=wM S.aX-wT p.2 t:=by
  rw[Hm,N_ p.2 h]
  unfold aT.list
  omega
 unfold aT.dy
 split
 ·rename_i h0
  show wM (eO (bV S.aX p _) p)=wM S.aX-wT p.2 t
  rw[Oa,e1]
  have hg:bF (bV S.aX p ((S.list p).eraseIdx i.toNat)) p=some ((S.list p).eraseIdx i.toNat):=by rw[w6,if_pos rfl]
  rw[hg]
  have hz:(S.list p).eraseIdx i.toNat=[]:=by
   first | exact iz yd | simpa using h0
  show wM S.aX-wT p.2 t-wL p.2 ((S.list p).eraseIdx i.toNat)=_
  rw[hz]
  show _-(0:Int)=_
  omega
 ·exact e1
def wS(S:List cz):Int:=(S.map fun s=>wK s.1 s.2.1.kind).sum
theorem AS(s:cz)(S:List cz):wS (s::S)=wK s.1 s.2.1.kind+wS S:=by unfold wS;rw[gA,pP]
theorem MD{f:ay}{ms:List aR}{t:Bs}(h:qq f ms=some t)(q:Int):wT q (bT t)≤wK q f.kind:=by
 unfold wT
 rw[GV]
 split
 ·exact xG _ _
 ·rename_i x hx
  obtain⟨g,ms'⟩:=x
  rw[(MC h hx).kind]
  exact cd _
theorem Mz(from_:Int):∀(l:List cz) (S:aT),(bD from_ S l).wg≤S.wg+wS l
 | [],S=>by show S.wg≤S.wg+0;omega
 | s::l,S=>by
  have h:=Mz from_ l (ic from_ S s)
  have h1:(ic from_ S s).wg≤S.wg+wK s.1 s.2.1.kind:=by
   unfold ic
   split
   ·have:=xG s.1 s.2.1.kind;omega
   ·rename_i t ht
    have:=GZ S (from_,s.1) (bT t)
    have:=MD ht s.1
    dsimp only at *
    omega
  rw[AS]
  show(bD from_ (ic from_ S s) l).wg≤_
  omega
end Cl
namespace Cl
open Go Vg T Api Ch Rep Conf Lg Rd Win Kv Adm Sched
theorem Du{q k:Int}(h:32≤q):wK q k=1:=by unfold wK;rw[if_neg yd,if_pos h]
def wR(S:List bQ):Int:=(S.map fun s=>wK s.1 s.2.kind).sum
theorem xH(s:bQ)(S:List bQ):wR (s::S)=wK s.1 s.2.kind+wR S:=by unfold wR;rw[gA,pP]
theorem lN(S T:List bQ):wR (S++T)=wR S+wR T:=by
 induction S with
 | nil=>show wR T=0+wR T;omega
 | cons s S ih=>rw[rX,xH,xH,ih];omega
theorem xI:∀{S:List bQ},(∀s∈S,32≤s.1)→wR S=S.length
 | [],_=>rfl
 | s::S,h=>by
  rw[xH,Du (h s (mW ..)),xI fun x hx=>h x (i_ _ hx),iA]
  push_cast;omega
theorem MR{n e r:Int}{gs:List ay}(h:∀f∈gs,mi n f):wR (refs e gs r)=gs.length:=by
 rw[xI,refs,cW]
 intro s hs
 obtain⟨f,hf,rfl⟩:=bP.1 hs
 have:=(h f hf).1.1
 show 32≤32+f.aF
 omega
theorem Kl(now:Int):∀q:List ay,(q.filter (gone now)).length+(q.filter (stay now)).length=q.length
 | []=>rfl
 | f::q=>by
  have ih:=Kl now q
  rw[uK,uK]
  unfold stay at ih ⊢
  cases gone now f
  ·simp;omega
  ·simp;omega
theorem NS(now:Int):∀qs:List (List ay),(qs.flatMap fun q=>q.filter (gone now)).length+jF (qs.map fun q=>q.filter (stay now))=jF qs
 | []=>rfl
 | q::qs=>by
  have ih:=NS now qs
  have h:=Kl now q
  rw[uL,a_]
  simp only[jF,gA,pP] at ih ⊢
  omega
theorem L_(A:aO)(now:Int):(A.cq now).aL=(dd (A.ff now).aL).2.2:=by
 unfold aO.cq
 split<;>rfl
theorem Hi{R:av}(h:R.Ok)(now:Int):(R.aI.aL.cQ now).length+jF (R.aI.ff now).aL.qs=cu R.aI:=by
 obtain⟨h1,h2,h3⟩:=p_ h.wf now
 rw[h3,E8,KC]
 exact NS now _
theorem abB{R:av}(h:R.Ok)(now:Int)(ho:rq R now=true):(R.aI.aL.cQ now).length+cu (R.aI.cq now)+1=cu R.aI:=by
 obtain⟨h1,h2,h3⟩:=p_ h.wf now
 obtain⟨k,q,e1,e2⟩:=xl h1.aL ho
 have h4:=Hh e1
 have h5:=Hi h now
 have e:cu (R.aI.cq now)=jF (dd (R.aI.ff now).aL).2.2.qs:=by unfold cu;rw[L_]
 rw[e,e2]
 omega
theorem abC{R:av}(h:R.Ok)(now:Int)(ho:rq R now=false):(R.aI.aL.cQ now).length+cu (R.aI.cq now)=cu R.aI:=by
 have h5:=Hi h now
 have e:cu (R.aI.cq now)=jF (dd (R.aI.ff now).aL).2.2.qs:=by unfold cu;rw[L_]
 have e2:(dd (R.aI.ff now).aL).2.2=(R.aI.ff now).aL:=by
  unfold rq at ho
  unfold dd at ho ⊢
  split at ho
  ·cases ho
  ·rfl
 rw[e,e2]
 omega
def eF(R:av):Int:=cu R.aI+R.aK.l.length+(R.an.last-R.an.done)
theorem Xf{R:av}(h:R.Ok)(k:Nat):wR (nE R k)=k:=by
 rw[xI,nE,cW,tr]
 intro s hs
 obtain⟨j,hj,rfl⟩:=bP.1 hs
 show 32≤32+((dJ R.log _).getD gv).aF
 have:0≤((dJ R.log (R.an.done+1+(j:Nat))).getD gv).aF:=by
  cases he:dJ R.log (R.an.done+1+(j:Nat)) with
  | none=>exact cd _
  | some e=>exact(h.ku e (by unfold dJ at he;split at he<;>first | exact ME he | cases he)).1
 omega
theorem Fe{R:av}(h:R.Ok)(hl:R.an.done≤R.an.last):eF R.bL+wR R.ir≤eF R:=by
 unfold av.bL av.ir
 split
 ·rw[Xf h]
  unfold eF
  show(cu R.aI:Int)+R.aK.l.length+((R.an.gp R.an.last).last-(R.an.gp R.an.last).done)+((R.an.last-R.an.done).toNat:Int)≤_
  have e1:=BG R.an R.an.last
  have e2:R.an.last≤(R.an.gp R.an.last).done:=by
   unfold bz.gp
   split
   ·exact cd _
   ·rename_i hb
    by_cases h1:R.an.done<R.an.last
    ·exact absurd (by unfold bz.lT;simp;omega) hb
    ·omega
  omega
 ·show eF R+0≤eF R
  omega
theorem XF{R:av}(h:R.Ok)(hr:R.an.room=true)(now:Int):eF (ey R now).1+wR (ey R now).2.1≤eF R:=by
 have hg:wR (refs R.ch.ar (R.aI.aL.cQ now) 2)=((R.aI.aL.cQ now).length:Int):=MR (zF h.calls now)
 unfold ey
 split
 ·rename_i h1
  have:=abC h now h1
  show(cu (R.aI.cq now):Int)+R.aK.l.length+(R.an.last-R.an.done)+wR (refs R.ch.ar (R.aI.aL.cQ now) 2)≤(cu R.aI:Int)+R.aK.l.length+(R.an.last-R.an.done)
  omega
 rename_i h1
 have ho:rq R now=true:=by simpa using h1
 have hn:=abB h now ho
 split
 ·have e:((R.aI.cq now).cU (db R now).aF (db R now).seq (db R now).br).2.aL=(R.aI.cq now).aL:=by
   unfold aO.cU
   split
   ·show((R.aI.cq now).jd _ _ _).aL=_;unfold aO.jd;split<;>rfl
   ·rfl
  have e2:cu ((R.aI.cq now).cU (db R now).aF (db R now).seq (db R now).br).2=cu (R.aI.cq now):=by unfold cu;rw[e]
  have e3:0≤(db R now).aF:=by
   obtain⟨h1',h2,h3⟩:=p_ h.wf now
   obtain⟨k,q,e1,_⟩:=xl h1'.aL ho
   exact(zu h.wf h.calls now _ (ME e1) _ (mW ..)).1.1
  show(cu ((R.aI.cq now).cU (db R now).aF (db R now).seq (db R now).br).2:Int)+R.aK.l.length+(R.an.last-R.an.done)+wR (refs R.ch.ar (R.aI.aL.cQ now) 2 ++ [(32+(db R now).aF,iY R.ch.ar (db R now) 7)])≤(cu R.aI:Int)+R.aK.l.length+(R.an.last-R.an.done)
  rw[lN,hg,xH,Du (by show(32:Int)≤32+(db R now).aF;omega),e2]
  show _+(_+(1+(0:Int)))≤_
  omega
 ·rename_i h2
  have hp:=ui (CF h now) (e:=eG R now) IA hr
  have hf:=Fe hp (by have:=h.an.jg;show R.an.done≤R.an.last+1;omega)
  show eF (dY (j_ R now) (eG R now)).bL+wR (refs R.ch.ar (R.aI.aL.cQ now) 2++(dY (j_ R now) (eG R now)).ir)≤_
  rw[lN,hg]
  have e4:eF (dY (j_ R now) (eG R now))=(cu (R.aI.cq now):Int)+R.aK.l.length+(R.an.last+1-R.an.done):=rfl
  have e5:eF R=(cu R.aI:Int)+R.aK.l.length+(R.an.last-R.an.done):=rfl
  omega
theorem Nh(now:Int):∀(k:Nat) {R:av},R.Ok→eF (gz now k R).1+wR (gz now k R).2≤eF R
 | 0,R,h=>by show eF R+0≤eF R;omega
 | k+1,R,h=>by
  rw[gz]
  split
  ·rename_i hr
   have h1:=XF h hr now
   split
   ·have h2:=Nh now k (AD h hr now)
    rw[lN];dsimp only;omega
   ·exact h1
  ·show eF R+0≤eF R;omega
theorem K4(now:Int):∀l:List sh,(l.filter (nt now)).length+(l.filter fun y=>!nt now y).length=l.length
 | []=>rfl
 | f::q=>by
  have ih:=K4 now q
  rw[uK,uK]
  cases nt now f
  ·simp;omega
  ·simp;omega
theorem SK{R:av}(h:R.Ok)(now:Int):eF (h_ R now)+wR (gj R now)≤eF R:=by
 have h1:=K4 now R.aK.l
 have e:wR (gj R now)=((R.aK.l.filter fun y=>!nt now y).length:Int):=by
  unfold gj
  rw[xI,refs,cW,cW]
  intro s hs
  obtain⟨f,hf,rfl⟩:=bP.1 hs
  obtain⟨y,hy,rfl⟩:=bP.1 hf
  have:=(h.jn y (iC.1 hy).1).1
  show 32≤32+y.f.aF
  omega
 show(cu R.aI:Int)+((R.aK.l.filter (nt now)).length:Nat)+(R.an.last-R.an.done)+wR (gj R now)≤(cu R.aI:Int)+R.aK.l.length+(R.an.last-R.an.done)
 omega
theorem Nw{R:av}(h:R.Ok)(now:Int):eF (step2 R now).1+wR (gj R now++(step2 R now).2)≤eF R:=by
 have h1:=SK h now
 rw[lN]
 unfold step2
 split
 ·have:=Nh now 65 (zt h now)
  omega
 ·show eF (h_ R now)+(wR (gj R now)+0)≤_
  omega
end Cl
namespace Cl
open Go Vg T Api Ch Rep Conf Lg Rd Win Kv Adm Sched
theorem LA(c:aW)(i:Int):oq c i≠16:=by
 unfold oq
 split
 ·rename_i h
  have hx:c.ms[i.toNat]?=some c.ms[i.toNat]:=GE yd
  rw[hx]
  have h1:=h.1
  unfold kL at h1
  simp only[dN,lh] at h1
  have h2:=h1.2.1 i.toNat (o6.2 yd)
  unfold pq at h2
  rw[hx] at h2
  simp only[dN,ow,decide_eq_true_eq] at h2
  show(c.ms[i.toNat]).1≠16
  omega
 ·decide
theorem WL(R:av):R.mm≠16:=LA _ _
theorem L8(R:av):R.cq≠16:=by
 unfold av.cq Ad
 split
 ·decide
 ·exact LA _ _
theorem AM{q k:Int}(h:q≠16)(h1:k≠1)(h4:k≠4):wK q k=1:=by
 unfold wK
 repeat' split
 all_goals first | rfl | contradiction
theorem sU(q:Int)(f:ay):wR [(q,f)]=wK q f.kind:=by rw[xH];show wK q f.kind+(0:Int)=_;omega
theorem zJ(R:av):wR R.eZ≤1:=by
 unfold av.eZ
 split
 ·decide
 ·rw[sU,AM (WL R) (by show(5:Int)≠1;decide) (by show(5:Int)≠4;decide)];decide
theorem EB(R:av):wR R.gC≤1:=by
 unfold av.gC
 split
 ·rw[sU,AM (L8 R) (by show(6:Int)≠1;decide) (by show(6:Int)≠4;decide)];decide
 ·decide
theorem Lq(R:av):wR R.ky=2:=by unfold av.ky;rw[sU];rfl
def cT(R:av):Int:=eF R+(if R.whole=true then 0 else 1)
theorem LS{R Q:av}(h:Q.whole=R.whole){a:Int}(k:eF Q+a≤eF R):cT Q+a≤cT R:=by
 unfold cT;rw[h];omega
theorem Jp(R:av):cT R.fx+wR R.jQ≤cT R:=by
 unfold av.fx av.jQ
 cases hb:R.pd with
 | false=>show cT R+0≤cT R;omega
 | true=>
  have hw:R.whole=false:=by
   have:=hb
   unfold av.pd at this
   simp only[dN] at this
   simpa using this.2.1
  have h1:=EB R.fx
  have e:cT R=eF R+1:=by unfold cT;rw[hw];rfl
  rw[if_pos rfl,if_pos rfl]
  show eF R+0+wR R.fx.gC≤cT R
  omega
theorem QS(W:bz)(i:Int):W.done≤(W.gp i).done∧(W.lT i=true→W.done+1≤(W.gp i).done):=by
 unfold bz.gp
 split
 ·rename_i h
  have h2:=h
  unfold bz.lT at h2
  simp at h2
  exact⟨by show W.done≤i;omega,fun _=>by show W.done+1≤i;omega⟩
 ·rename_i h
  exact⟨cd _,fun k=>absurd k h⟩
theorem QP(R:av)(f:ay):(eN R f).an.last=R.an.last∧(eN R f).an.done=R.an.done∧(eN R f).aI=R.aI∧(eN R f).aK=R.aK∧(eN R f).whole=R.whole:=by
 unfold eN gq
 split<;>exact⟨rfl,rfl,rfl,rfl,rfl⟩
theorem QR(R:av)(f:ay):cT (gU R f).1+wR (gU R f).2≤cT R:=by
 obtain⟨h1,h2,h3,h4,h5⟩:=QP R f
 refine LS (Q:=(gU R f).1) h5 ?_
 have hl:=BG (eN R f).an f.index
 obtain⟨hd,hd2⟩:=QS (eN R f).an f.index
 have e:eF (gU R f).1=(cu R.aI:Int)+R.aK.l.length+(((eN R f).an.gp f.index).last-((eN R f).an.gp f.index).done):=by
  show(cu (eN R f).aI:Int)+(eN R f).aK.l.length+_=_
  rw[h3,h4];rfl
 have e2:eF R=(cu R.aI:Int)+R.aK.l.length+(R.an.last-R.an.done):=rfl
 have hw:wR (gU R f).2≤if (eN R f).an.lT f.index=true then 1 else 0:=by
  unfold gU
  dsimp only
  split
  ·exact zJ _
  ·decide
 split at hw
 ·rename_i hb
  have:=hd2 hb
  omega
 ·omega
theorem S7{R:av}(h:R.Ok)(hl:R.an.done≤R.an.last):cT R.bL+wR R.ir≤cT R:=LS (by unfold av.bL;split<;>rfl) (Fe h hl)
theorem Tg{R:av}(h:R.Ok)(hl:R.an.done≤R.an.last)(e:bd)(hp:re R e=true→gP R.log e=0→(dY R e).Ok):cT (jk R e).1+wR (jk R e).2≤cT R+2:=by
 unfold jk
 split
 ·rename_i hc
  have h1:=S7 (hp hc.1 hc.2) (by show R.an.done≤R.an.last+1;omega)
  have h2:=Jp (dY R e).bL
  have h3:=zJ (dY R e).bL.fx
  have e1:cT (dY R e)=cT R+1:=by
   unfold cT eF
   show(cu R.aI:Int)+R.aK.l.length+(R.an.last+1-R.an.done)+(if R.whole=true then 0 else 1)=_
   omega
  show cT (dY R e).bL.fx+wR ((dY R e).ir++(dY R e).bL.jQ++(dY R e).bL.fx.eZ)≤_
  rw[lN,lN]
  omega
 ·have:=zJ R
  show cT R+wR R.eZ≤_
  omega
theorem WV(D:e9)(f:ay)(r:iq):(D.put f r).l.length≤D.l.length+1:=by
 unfold e9.put
 split
 ·show(D.l ++ [_]).length≤_
  rw[a_];exact NR _
 ·exact tv _
theorem Xa(R:av){f:ay}(hf:0≤f.aF)(now:Int):cT (kV R f now).1+wR (kV R f now).2≤cT R+3:=by
 unfold kV
 split
 ·show cT R+wR [(32+f.aF,_)]≤_
  rw[sU,Du yd];omega
 ·have h:=WV R.aK f (l9 (bN R.log).1 f.op.key R.log.length)
  generalize R.aK.put f (l9 (bN R.log).1 f.op.key R.log.length)=T at h ⊢
  show cT { R with aK:=T } + wR [((16:Int),nk R.ch.ar (R.aK.last+1))]≤_
  rw[sU]
  show(cu R.aI:Int)+(T.l.length:Nat)+(R.an.last-R.an.done)+(if R.whole=true then 0 else 1)+2≤(cu R.aI:Int)+R.aK.l.length+(R.an.last-R.an.done)+(if R.whole=true then 0 else 1)+3
  omega
theorem NQ:∀{qs:List (List ay)} {k:Nat} {q:List ay} (f:ay),qs[k]?=some q→jF (qs.set k (q ++ [f]))=jF qs+1
 | [],k,q,f,h=>by simp at h
 | x::qs,0,q,f,h=>by
  simp only[qJ,Option.some.injEq] at h
  subst h
  simp[jF];omega
 | x::qs,k+1,q,f,h=>by
  have ih:=NQ (qs:=qs) (k:=k) (q:=q) f yc
  simp only[jF,tu,gA,pP] at ih ⊢
  omega
theorem WT(S:aM)(f:ay):jF (S.fq f).2.qs≤jF S.qs+1:=by
 unfold aM.fq
 split
 ·exact tv _
 rename_i c hc
 split
 ·exact tv _
 split
 ·have hk:S.cls[f.cls.toNat]?=some c:=by
   unfold aM.at_ at hc
   split at hc
   ·exact hc
   ·cases hc
  have e:(S.jE f.cls.toNat { c with q:=c.q ++ [f] }).qs=S.qs.set f.cls.toNat (c.q ++ [f]):=by
   show(S.cls.set f.cls.toNat { c with q:=c.q ++ [f] }).map cG.q=(S.cls.map cG.q).set _ _
   rw[iZ]
  show jF (S.jE f.cls.toNat { c with q:=c.q ++ [f] }).qs≤_
  rw[e,NQ f (by show(S.cls.map cG.q)[_]?=_;rw[eh,hk];rfl)]
  exact NR _
 ·exact tv _
theorem Jf(A:aO)(c s t:Int):cu (A.cU c s t).2=cu A:=by
 unfold cu
 rw[BQ]
theorem V6(A:aO)(f:ay)(now:Int):cu (A.iy f now).2≤cu A+1:=by
 have hw:cu (A.dI f now).2≤cu A+1:=by
  unfold aO.dI
  repeat' split
  all_goals first | exact tv _ | exact WT A.aL f
 unfold aO.iy
 split
 ·split
  ·show cu ((A.dI f now).2.cU _ _ _).2≤_
   rw[Jf];exact hw
  ·exact hw
 ·exact tv _
theorem T5(R:av)(f:ay)(now:Int):cu (d_ R f now).2.2≤cu R.aI+1:=by
 rcases FI R f now with e | e
 ·rw[e];exact tv _
 ·rw[e];exact V6 _ _ _
theorem LR(R:av){A:aO}(h:cu A≤cu R.aI+1):cT { R with aI:=A }≤cT R+1:=by
 show(cu A:Int)+R.aK.l.length+(R.an.last-R.an.done)+(if R.whole=true then 0 else 1)≤(cu R.aI:Int)+R.aK.l.length+(R.an.last-R.an.done)+(if R.whole=true then 0 else 1)+1
 omega
theorem abO(R:av){f:ay}(hf:0≤f.aF)(now:Int):cT (lf R f now).1+wR (lf R f now).2≤cT R+3:=by
 have hj:=T5 R f now
 have h1:=LR R hj
 have h2:=LR R (A:=((d_ R f now).2.2.cU f.aF f.seq f.br).2) (by rw[Jf];exact hj)
 have hc (g:ay):wR [(32+f.aF,g)]=1:=by rw[sU,Du yd]
 unfold lf
 split
 ·show cT { R with aI:=(d_ R f now).2.2 } + wR [(32+f.aF,_)]≤_
  rw[hc];omega
 split
 ·show cT { R with aI:=(d_ R f now).2.2 } + 0≤_
  omega
 split
 ·show cT { R with aI:=((d_ R f now).2.2.cU f.aF f.seq f.br).2 } + wR [(32+f.aF,_)]≤_
  rw[hc];omega
 ·show cT { R with aI:=(d_ R f now).2.2 } + wR [(32+f.aF,_)]≤_
  rw[hc];omega
end Cl
namespace Cl
open Go Vg T Api Ch Rep Conf Lg Rd Win Kv Adm Sched
theorem Sw{R:av}(h:R.Ok)(c:aW):eF (cH R c)+(R.aI.aL.cQ iU).length+R.aK.l.length≤eF R:=by
 have h1:=Hi h iU
 have h2:=h.an.jg
 have e:eF (cH R c)=((jF (R.aI.ff iU).aL.qs:Nat):Int)+0+((if fD R c then bz.new R.cap else R.an).last-(if fD R c then bz.new R.cap else R.an).done):=by
  unfold cH
  split<;>rfl
 have e2:eF R=(cu R.aI:Int)+R.aK.l.length+(R.an.last-R.an.done):=rfl
 have e3:(if fD R c then bz.new R.cap else R.an).last-(if fD R c then bz.new R.cap else R.an).done≤R.an.last-R.an.done:=by
  split
  ·show(0:Int)-0≤_;omega
  ·exact cd _
 omega
theorem Sy{R:av}(h:R.Ok)(c:aW):wR (oL R c)=(R.aI.aL.cQ iU).length+R.aK.l.length:=by
 unfold oL
 rw[lN,MR (zF h.calls iU),xI,refs,cW,cW]
 intro s hs
 obtain⟨f,hf,rfl⟩:=bP.1 hs
 obtain⟨y,hy,rfl⟩:=bP.1 hf
 have:=(h.jn y hy).1
 show 32≤32+y.f.aF
 omega
def eP(E:Int)(R:av):Int:=cT R+5*(E-R.ch.ar)
theorem xe{E:Int}{R Q:av}(h:Q.ch=R.ch){a b:Int}(k:cT Q+a≤cT R+b):eP E Q+a≤eP E R+b:=by
 unfold eP;rw[h];omega
theorem Kd{R:av}(h:R.Ok){c:aW}(hc:kj c)(h0:1≤R.cap)(h1:R.cap≤16)(E:Int):eP E (iI R c).1+wR (iI R c).2≤cT R+5+5*(E-c.ar):=by
 have hk:=BY h hc h0 h1
 have a1:=Sw h c
 have a2:=Sy h c
 have a3:=Fe hk hk.an.jg
 have a4:=zJ (cH R c).bL
 have a5:=EB (cH R c).bL
 have a6:=Lq (cH R c).bL
 have e:(iI R c).1.ch.ar=c.ar:=by
  show(cH R c).bL.ch.ar=c.ar
  unfold av.bL cH
  repeat' split
  all_goals rfl
 have b1:cT (cH R c).bL≤eF (cH R c).bL+1:=by unfold cT;split<;>omega
 have b2:eF R≤cT R:=by unfold cT;split<;>omega
 unfold eP
 rw[e]
 show cT (cH R c).bL+5*(E-c.ar)+wR (oL R c++(cH R c).ir++(cH R c).bL.eZ++(cH R c).bL.gC++(cH R c).bL.ky)≤_
 rw[lN,lN,lN,lN]
 omega
theorem SA{R:av}(h:R.Ok){c:aW}(hc:kj c)(h0:1≤R.cap)(h1:R.cap≤16)(E:Int)(he:R.ch.ar<c.ar):eP E (iI R c).1+wR (iI R c).2≤eP E R:=by
 have:=Kd h hc h0 h1 E
 have e:eP E R=cT R+5*(E-R.ch.ar):=rfl
 omega
theorem ND(i:Int):∀l:List sh,(l.filter (k_ i)).length+(l.filter fun y=>!k_ i y).length=l.length
 | []=>rfl
 | f::q=>by
  have ih:=ND i q
  rw[uK,uK]
  cases k_ i f
  ·simp;omega
  ·simp;omega
theorem Ym{R:av}(h:R.Ok)(i:Int):cT (qy R i)+wR (qz R i)≤cT R:=by
 have h1:=ND i R.aK.l
 have e:wR (qz R i)=((R.aK.l.filter fun y=>!k_ i y).length:Int):=by
  unfold qz
  rw[xI,cW]
  intro s hs
  obtain⟨y,hy,rfl⟩:=bP.1 hs
  have:=(h.jn y (iC.1 hy).1).1
  show 32≤32+y.f.aF
  omega
 rw[e]
 show(cu R.aI:Int)+((R.aK.l.filter (k_ i)).length:Nat)+(R.an.last-R.an.done)+(if R.whole=true then 0 else 1)+_≤(cu R.aI:Int)+R.aK.l.length+(R.an.last-R.an.done)+(if R.whole=true then 0 else 1)
 omega
theorem Jm(R:av):R.fx.ch=R.ch:=by unfold av.fx;split<;>rfl
theorem SZ(R:av):R.bL.ch=R.ch:=by unfold av.bL;split<;>rfl
theorem Te(R:av)(e:bd):(jk R e).1.ch=R.ch:=by
 unfold jk
 split
 ·show(dY R e).bL.fx.ch=_
  rw[Jm,SZ];rfl
 ·rfl
theorem W9(R:av)(f:ay)(now:Int):(kV R f now).1.ch=R.ch:=by unfold kV;split<;>rfl
theorem abM(R:av)(f:ay)(now:Int):(lf R f now).1.ch=R.ch:=by
 unfold lf
 repeat' split
 all_goals rfl
theorem QQ(R:av)(f:ay):(gU R f).1.ch=R.ch:=by show(eN R f).ch=R.ch;unfold eN gq;split<;>rfl
theorem aa4{R:av}(h:R.Ok)(h0:1≤R.cap)(h1:R.cap≤16)(from_:Int)(f:ay)(ms:List aR)(now E:Int){q:Int}(hq:q<16)(hch:e_ (l8 f ms)=0→kj (l8 f ms)):eP E (ct R from_ f ms now).1+wR (ct R from_ f ms now).2+1≤eP E R+wK q f.kind:=by
 have hw:∀{k:Int},f.kind=k→wK q f.kind=if k=1 then 4 else if k=4 then 3 else 1:=by
  intro k hk
  unfold wK
  rw[if_neg yd,if_neg yd,hk]
 have h1k:=xG q f.kind
 have hz:eP E R+wR ([]:List bQ)+1≤eP E R+wK q f.kind:=by show eP E R+0+1≤_;omega
 unfold ct
 split
 ·rename_i hk
  have e:=hw hk
  rw[if_pos rfl] at e
  split
  ·exact hz
  rename_i h2
  split
  ·exact hz
  split
  ·have:=xe (E:=E) (W9 R f now) (Xa R (f:=f) yd now)
   omega
  ·have:=xe (E:=E) (abM R f now) (abO R (f:=f) yd now)
   omega
 split
 ·split
  ·rename_i hc
   have:=SA h (hch hc.1.2) h0 h1 E hc.2
   omega
  ·exact hz
 split
 ·rename_i hk
  have e:=hw hk
  rw[if_neg yo,if_pos rfl] at e
  split
  ·have:=xe (E:=E) (Te R f.entry) (Tg h h.an.jg f.entry fun h2 h3=>ui h h3 (B7 h2))
   omega
  ·exact hz
 split
 ·split
  ·have:=xe (E:=E) (a:=wR (gU R f).2) (b:=0) (QQ R f) (by have:=QR R f;omega)
   omega
  ·exact hz
 split
 ·split
  ·have:=xe (E:=E) (R:=R) (Q:=(jP R f.index).fx) (a:=wR (jP R f.index).jQ) (b:=0) (Jm _) (by
    have h2:=Jp (jP R f.index)
    have h3:cT (jP R f.index)=cT R:=rfl
    omega)
   show eP E (jP R f.index).fx+wR (jP R f.index).jQ+1≤_
   omega
  ·exact hz
 split
 ·split
  ·have:=xe (E:=E) (R:=R) (Q:=qy R f.index) (a:=wR (qz R f.index)) (b:=0) rfl (by have:=Ym h f.index;omega)
   show eP E (qy R f.index)+wR (qz R f.index)+1≤_
   omega
  ·exact hz
 ·exact hz
end Cl
namespace Cl
open Go Vg T Api Ch Rep Conf Lg Rd Win Kv Adm Sched
def uf(d:Int):Int:=if d=1 then 6 else if d=2 then 2 else 0
def aN.wg(s:aN):Int:=uf s.eR
theorem CT(d:Int):0≤uf d:=by
 unfold uf
 repeat' split
 all_goals decide
theorem Dv(q:Int)(f:ay)(ms:List aR):wS [(q,f,ms)]=wK q f.kind:=by rw[AS];show wK q f.kind+(0:Int)=_;omega
theorem N8(q k:Int):wK q k≤4:=by
 unfold wK
 repeat' split
 all_goals decide
theorem Eu:wS qQ=2:=by unfold qQ;rw[Dv];rfl
theorem B_(s:aN)(r:Int):(s.giveUp r).1.wg+wS (s.giveUp r).2=2:=by
 show 0+wS qQ=2
 rw[Eu];rfl
theorem Fx(s:aN)(r now:Int):(s.fR r now).1.wg+wS (s.fR r now).2≤2:=by
 unfold aN.fR
 split
 ·rw[B_];decide
 split
 ·show(0:Int)+0≤2;decide
 ·rw[B_];decide
theorem Xc(s:aN)(r now:Int):(s.refused r now).1.wg+wS (s.refused r now).2≤2:=by
 unfold aN.refused
 split
 ·exact Fx _ _ _
 split
 ·rw[B_];decide
 ·exact Fx _ _ _
theorem NW(s:aN)(now:Int):(s.br now).1.wg+wS (s.br now).2≤6:=by
 have h:=N8 (s.mR now).to (lA (s.mR now)).kind
 show 2+wS [((s.mR now).to,lA (s.mR now),[])]≤6
 rw[Dv];omega
theorem aa1(s:aN)(f:ay)(ms:List aR)(now:Int):(s.take f ms now).1.wg+wS (s.take f ms now).2≤s.wg:=by
 have hz:s.wg+wS []≤s.wg:=by show s.wg+0≤s.wg;omega
 have h0:=CT s.eR
 unfold aN.take
 split
 ·split
  ·exact hz
  split
  ·rename_i hd
   have:=NW ({ s with ch:=⟨f.dV,ms,f.drain⟩ }:aN) (bA now)
   have e:s.wg=6:=by unfold aN.wg;rw[hd];rfl
   omega
  ·exact hz
 split
 ·split
  ·show(0:Int)+0≤uf s.eR
   omega
  ·exact hz
 split
 ·split
  ·rename_i hd
   have:=Xc s f.reason (bA now)
   have e:s.wg=2:=by unfold aN.wg;rw[hd.1];rfl
   omega
  ·exact hz
 ·exact hz
theorem abg(s:aN)(now:Int):(s.tick now).1.wg+wS (s.tick now).2≤s.wg+8:=by
 have hz:s.wg+wS []≤s.wg+8:=by show s.wg+0≤s.wg+8;omega
 have h0:=CT s.eR
 have ha (t:aN):(t.ask (bA now)).1.wg+wS (t.ask (bA now)).2=8:=by show 6+wS qQ=8;rw[Eu];rfl
 have hs:s.wg=uf s.eR:=rfl
 unfold aN.tick
 split
 ·split
  ·have:=Fx ({ s with unsure:=true }:aN) 0 (bA now)
   omega
  ·exact hz
 split
 ·split
  ·exact hz
  split
  ·rw[B_];omega
  ·rw[ha];omega
 split
 ·split
  ·rw[ha];omega
  ·exact hz
 ·exact hz
theorem Rn(s:aN)(o:bB)(cl d now:Int):(s.call o cl d now).1.wg+wS (s.call o cl d now).2≤s.wg+8:=by
 have h0:=CT s.eR
 have hs:s.wg=uf s.eR:=rfl
 unfold aN.call
 split
 ·show s.wg+0≤_;omega
 split
 ·have:=NW (s.begun o cl d) (bA now);omega
 ·show 6+wS qQ≤_
  rw[Eu];omega
end Cl
namespace Cl
open Go Vg T Api Ch Rep Conf Lg Rd Win Kv Adm Sched
def kl(m:aE):Int:=if m.ch.drain=-1 then 0 else 1
def aE.top(m:aE):Int:=m.ch.ar+kl m
def aE.wg(m:aE):Int:=6*kl m
theorem zp(m:aE):0≤kl m∧kl m≤1:=by unfold kl;split<;>decide
theorem Ob:∀{S:List cz},(∀s∈S,wK s.1 s.2.1.kind=1)→wS S=S.length
 | [],_=>rfl
 | s::S,h=>by
  rw[AS,h s (mW ..),Ob fun x hx=>h x (i_ _ hx),iA]
  push_cast;omega
theorem yZ{m:aE}(h:m.nodes≤6):wS m.all≤6:=by
 have e:wS m.all=(m.all.length:Int):=Ob fun s hs=>by
  unfold aE.all at hs
  obtain⟨n,hn,rfl⟩:=bP.1 hs
  have:=o6.1 hn
  exact AM (by show(n:Int)≠16;omega) (by show(8:Int)≠1;decide) (by show(8:Int)≠4;decide)
 rw[e]
 unfold aE.all
 rw[cW,tr];omega
theorem Rz(c:aW){q:Int}(h:q≠16):wS [gu c q]=1:=by
 unfold gu
 rw[Dv,AM h (by show(8:Int)≠1;decide) (by show(8:Int)≠4;decide)]
theorem Fz{m:aE}{n:Int}(h:m.kB n=0):(m.gone n).ch.ar=m.ch.ar+1∧(m.gone n).ch.drain=if m.ch.drain=n then -1 else m.ch.drain:=by
 unfold aE.kB at h
 show(im m.ch n).1.ar=_∧(im m.ch n).1.drain=_
 unfold im at h ⊢
 split at h
 ·cases h
 rename_i h1
 split at h
 ·rename_i h2;exact absurd h h2
 rename_i h2
 rw[if_neg h1,if_neg h2]
 exact⟨rfl,Z⟩
theorem aa2{m:aE}(hn:m.nodes≤6){from_:Int}(hf:from_≠16)(f:ay)(now:Int)(h0:m.isNode from_=true→from_≠-1):(m.take from_ f now).1.top=m.top∧(m.take from_ f now).1.wg+wS (m.take from_ f now).2≤m.wg+1:=by
 have hz:m.top=m.top∧m.wg+wS []≤m.wg+1:=⟨rfl,by show m.wg+0≤_;omega⟩
 have hc:=Rz m.ch hf
 have hc1:m.top=m.top∧m.wg+wS [gu m.ch from_]≤m.wg+1:=⟨rfl,by omega⟩
 unfold aE.take
 split
 ·exact hc1
 split
 ·exact hz
 rename_i hnode
 split
 ·split
  ·exact hc1
  split
  ·exact hz
  ·exact hz
 split
 ·split
  ·exact hc1
  split
  ·refine⟨rfl,?_⟩
   rw[Dv,AM hf (by show(10:Int)≠1;decide) (by show(10:Int)≠4;decide)]
   exact cd _
  ·exact hz
 split
 ·split
  ·rename_i h
   obtain⟨h1,h2⟩:=Fz h.2.2
   have hd:m.ch.drain=from_:=h.1.2
   have hne:from_≠-1:=h0 (by simpa using hnode)
   rw[if_pos hd] at h2
   have e1:kl m=1:=by unfold kl;rw[if_neg (by rw[hd];exact hne)]
   have e2:kl (m.gone from_)=0:=by unfold kl;rw[if_pos h2]
   have ha:=yZ (m:=m.gone from_) hn
   refine⟨?_,?_⟩
   ·show(m.gone from_).ch.ar+kl (m.gone from_)=m.ch.ar+kl m
    omega
   ·show 6*kl (m.gone from_)+wS (m.gone from_).all≤6*kl m+1
    omega
  ·exact hz
 ·exact hz
theorem Gq(R:av):∀k,wR (cE R k).2≤3*k
 | 0=>by show(0:Int)≤3*((0:Nat):Int);decide
 | k+1=>by
  have ih:=Gq R k
  show wR ((cE R k).2 ++ [(R.cq,q9 R.ch.ar ((dJ R.log ((cE R k).1.bO+1)).getD gv))])≤_
  rw[lN,sU]
  have:wK R.cq (q9 R.ch.ar ((dJ R.log ((cE R k).1.bO+1)).getD gv)).kind≤3:=by
   have:=L8 R
   show wK R.cq 4≤3
   unfold wK
   rw[if_neg this]
   split<;>decide
  push_cast;omega
theorem Mr{R:av}(h:R.Ok):eF (pz R).1=eF R∧wR (pz R).2≤3*R.log.length:=by
 have e:=vj R (fg R) (NR _)
 refine⟨?_,?_⟩
 ·show(cu R.aI:Int)+R.aK.l.length+((cE R (fg R)).1.last-(cE R (fg R)).1.done)=_
  rw[e];rfl
 ·have h1:=Gq R (fg R)
  have h2:((fg R:Nat):Int)≤R.an.last:=by
   have:=h.an.ik;have:=h.an.lD;have:=h.an.jg
   unfold fg;omega
  have h3:=h.last
  show wR (cE R (fg R)).2≤_
  omega
theorem xj(R:av):∀k,(cE R k).2.length=k
 | 0=>rfl
 | k+1=>by
  have ih:=xj R k
  show((cE R k).2 ++ [(R.cq,q9 R.ch.ar ((dJ R.log ((cE R k).1.bO+1)).getD gv))]).length=_
  rw[a_,ih];rfl
theorem Wp{R:av}(h:R.Ok):wR (pz R).2-(pz R).2.length≤2*R.log.length:=by
 have h1:=Gq R (fg R)
 have h2:((fg R:Nat):Int)≤R.an.last:=by
  have:=h.an.ik;have:=h.an.lD;have:=h.an.jg
  unfold fg;omega
 have h3:=h.last
 have h4:=xj R (fg R)
 show wR (cE R (fg R)).2-((cE R (fg R)).2.length:Int)≤_
 rw[h4]
 omega
theorem XG(R:av)(now:Int):(ey R now).1.whole=R.whole∧(ey R now).1.ch=R.ch:=by
 unfold ey
 split
 ·exact⟨rfl,Z⟩
 split
 ·exact⟨rfl,Z⟩
 ·show(dY (j_ R now) (eG R now)).bL.whole=_∧(dY (j_ R now) (eG R now)).bL.ch=_
  unfold av.bL
  split<;>exact⟨rfl,rfl⟩
theorem Ni(now:Int):∀(k:Nat) (R:av),(gz now k R).1.whole=R.whole∧(gz now k R).1.ch=R.ch
 | 0,R=>⟨rfl,rfl⟩
 | k+1,R=>by
  have h:=XG R now
  rw[gz]
  split
  ·split
   ·have h2:=Ni now k (ey R now).1
    exact⟨h2.1.trans h.1,h2.2.trans h.2⟩
   ·exact h
  ·exact⟨rfl,Z⟩
theorem Nx(R:av)(now:Int):(step2 R now).1.whole=R.whole∧(step2 R now).1.ch=R.ch:=by
 unfold step2
 split
 ·exact Ni now 65 (h_ R now)
 ·exact⟨rfl,Z⟩
theorem X7{R:av}(h:R.Ok)(now E:Int):eP E (dx R now).1+wR (dx R now).2≤eP E R+3*(dx R now).1.log.length:=by
 have h2:=Nw h now
 obtain⟨w1,w2⟩:=Nx R now
 have ok2:=xw h now
 obtain⟨p1,p2⟩:=Mr ok2
 show eP E (dS R now).1+wR (gj R now++(step2 R now).2++(dS R now).2)≤eP E R+3*(dS R now).1.log.length
 rw[lN]
 have e:eF (dS R now).1=eF (step2 R now).1∧(dS R now).1.whole=R.whole∧(dS R now).1.ch=R.ch∧(dS R now).1.log=(step2 R now).1.log∧wR (dS R now).2≤3*(step2 R now).1.log.length:=by
  unfold dS
  split
  ·exact⟨p1,w1,w2,Z,p2⟩
  ·exact⟨rfl,w1,w2,Z,by show(0:Int)≤_;omega⟩
 obtain⟨e1,e2,e3,e4,e5⟩:=e
 unfold eP cT
 rw[e1,e2,e3,e4]
 omega
theorem X6{R:av}(h:R.Ok)(now E:Int):eP E (dx R now).1+wR (dx R now).2-(dx R now).2.length≤eP E R+2*(dx R now).1.log.length:=by
 have h2:=Nw h now
 obtain⟨w1,w2⟩:=Nx R now
 have ok2:=xw h now
 obtain⟨p1,p2⟩:=Mr ok2
 have p3:=Wp ok2
 show eP E (dS R now).1+wR (gj R now++(step2 R now).2++(dS R now).2)-((gj R now++(step2 R now).2++(dS R now).2).length:Int)≤eP E R+2*(dS R now).1.log.length
 rw[lN,a_ (bs:=(dS R now).2)]
 have e:eF (dS R now).1=eF (step2 R now).1∧(dS R now).1.whole=R.whole∧(dS R now).1.ch=R.ch∧(dS R now).1.log=(step2 R now).1.log∧wR (dS R now).2-(dS R now).2.length≤2*(step2 R now).1.log.length:=by
  unfold dS
  split
  ·exact⟨p1,w1,w2,Z,p3⟩
  ·exact⟨rfl,w1,w2,Z,by show(0:Int)-((0:Nat):Int)≤_;omega⟩
 obtain⟨e1,e2,e3,e4,e5⟩:=e
 unfold eP cT
 rw[e1,e2,e3,e4]
 push_cast
 omega
theorem abl(R:av)(now E:Int):eP E (gY R).1+wR (gY R).2≤eP E R+8:=by
 have h1:=Lq R
 have h2:=zJ R
 have h3:=EB R
 have e:eP E (gY R).1=eP E R:=by
  show eP E (eK R)=eP E R
  unfold eK
  split<;>rfl
 rw[e]
 show eP E R+wR (R.ky++R.eZ++R.gC++(if (!R.aK.l.isEmpty)=true then [(16,nk R.ch.ar R.aK.om)] else [])++(if R.iP=true∧R.an.done=R.an.last then [(16,qX R.ch.ar)] else []))≤_
 rw[lN,lN,lN,lN]
 have h4:wR (if (!R.aK.l.isEmpty)=true then [(16,nk R.ch.ar R.aK.om)] else [])≤2:=by
  split
  ·rw[sU];exact cd _
  ·decide
 have h5:wR (if R.iP=true∧R.an.done=R.an.last then [(16,qX R.ch.ar)] else [])≤2:=by
  split
  ·rw[sU];exact cd _
  ·decide
 omega
end Cl
namespace Cl
open Go Vg T Api Ch Rep Conf Lg Rd Win Kv Adm Sched
theorem Af:∀S:List bQ,wS (ek S)=wR S
 | []=>rfl
 | s::S=>by
  have ih:=Af S
  show wS ((s.1,s.2,[])::ek S)=_
  rw[AS,xH,ih]
def qk(E:Int):Option av→Int
 | some R=>eP E R
 | none=>0
def eT(E:Int)(l:List (Option av)):Int:=(l.map (qk E)).sum
theorem Cz(E:Int)(x:Option av):∀{l:List (Option av)} {k:Nat} {o:Option av},l[k]?=some o→eT E (l.set k x)=eT E l-qk E o+qk E x
 | [],k,o,h=>by simp at h
 | y::l,0,o,h=>by
  simp only[qJ,Option.some.injEq] at h
  subst h
  simp only[eT,List.set_cons_zero,gA,pP];omega
 | y::l,k+1,o,h=>by
  have ih:=Cz E x (l:=l) (k:=k) (o:=o) yc
  simp only[eT,tu,gA,pP] at ih ⊢
  omega
def fP(l:List aN):Int:=(l.map aN.wg).sum
theorem JH(x:aN):∀{l:List aN} {k:Nat} {o:aN},l[k]?=some o→fP (l.set k x)=fP l-o.wg+x.wg
 | [],k,o,h=>by simp at h
 | y::l,0,o,h=>by
  simp only[qJ,Option.some.injEq] at h
  subst h
  simp only[fP,List.set_cons_zero,gA,pP];omega
 | y::l,k+1,o,h=>by
  have ih:=JH x (l:=l) (k:=k) (o:=o) yc
  simp only[fP,tu,gA,pP] at ih ⊢
  omega
def al.wg(C:al):Int:=C.aB.wg+eT C.au.top C.nodes+fP C.bg+C.au.wg
theorem rB(C:al)(n:Int)(S:List cz):(C.post n S).wg≤C.wg+wS S:=by
 have:=Mz n S C.aB
 show(bD n C.aB S).wg+eT C.au.top C.nodes+fP C.bg+C.au.wg≤C.aB.wg+eT C.au.top C.nodes+fP C.bg+C.au.wg+wS S
 omega
theorem Ae{C:al}{n:Int}{R:av}(h:C.node n=some R):0≤n∧C.nodes[n.toNat]?=some (some R):=by
 unfold al.node at h
 split at h
 ·cases h
 ·cases he:C.nodes[n.toNat]? with
  | none=>rw[he] at h;cases h
  | some o=>rw[he] at h;exact⟨by omega,by rw[show o=some R from h]⟩
theorem RI{C:al}{n:Int}{s:aN}(h:C.du n=some s):0≤n∧C.bg[n.toNat]?=some s:=by
 unfold al.du at h
 split at h
 ·cases h
 ·exact⟨by omega,h⟩
theorem G7{C:al}{n:Int}{R:av}(h:C.node n=some R)(Q:av):(C.setNode n (some Q)).wg=C.wg-eP C.au.top R+eP C.au.top Q:=by
 have e:=Cz C.au.top (some Q) (Ae h).2
 show C.aB.wg+eT C.au.top (C.nodes.set n.toNat (some Q))+fP C.bg+C.au.wg=C.aB.wg+eT C.au.top C.nodes+fP C.bg+C.au.wg-eP C.au.top R+eP C.au.top Q
 rw[e]
 show _+(_-eP C.au.top R+eP C.au.top Q)+_+_=_
 omega
theorem G6{C:al}{n:Int}{s:aN}(h:C.du n=some s)(x:aN):(C.gR n x).wg=C.wg-s.wg+x.wg:=by
 have e:=JH x (RI h).2
 show C.aB.wg+eT C.au.top C.nodes+fP (C.bg.set n.toNat x)+C.au.wg=C.aB.wg+eT C.au.top C.nodes+fP C.bg+C.au.wg-s.wg+x.wg
 omega
structure tF(C:al):Prop where
 n:∀R,some R∈C.nodes→R.Fit
 l:C.nodes.length≤6
 m:C.au.nodes≤6
theorem aba{C:al}(h:tF C){from_ to:Int}(hf:to=16→from_≠16)(f:ay)(ms:List aR):(C.fJ from_ to f ms).wg+1≤C.wg+wK to f.kind:=by
 have h1:=xG to f.kind
 unfold al.fJ
 split
 ·rename_i ht
  obtain⟨e,k⟩:=aa2 h.m (hf ht) f C.now (fun hn=>by
   unfold aE.isNode at hn
   simp only[dN,decide_eq_true_eq] at hn
   omega)
  have hp:=rB ({ C with au:=(C.au.take from_ f C.now).1 }:al) to (C.au.take from_ f C.now).2
  have hw:({ C with au:=(C.au.take from_ f C.now).1 }:al).wg=C.wg-C.au.wg+(C.au.take from_ f C.now).1.wg:=by
   show C.aB.wg+eT (C.au.take from_ f C.now).1.top C.nodes+fP C.bg+(C.au.take from_ f C.now).1.wg=C.aB.wg+eT C.au.top C.nodes+fP C.bg+C.au.wg-C.au.wg+(C.au.take from_ f C.now).1.wg
   rw[e];omega
  have h2:wK to f.kind=2:=by rw[ht];rfl
  omega
 ·split
  ·rename_i r hr
   obtain⟨a0,a1⟩:=Ae hr
   have hlt:to.toNat<C.nodes.length:=(bY.1 a1).1
   have hl:=h.l
   have hF:=h.n r (ME a1)
   have ht:=aa4 hF.ok hF.dL hF.fO from_ f ms C.now C.au.top (q:=to) yd (fun hc=>⟨by have:=zg hc;omega⟩)
   have hp:=rB (C.setNode to (some (ct r from_ f ms C.now).1)) to (ek (ct r from_ f ms C.now).2)
   rw[Af] at hp
   have hs:=G7 hr (ct r from_ f ms C.now).1
   omega
  ·split
   ·rename_i s hs
    have ht:=aa1 s f ms C.now
    have hp:=rB (C.gR (to-32) (s.take f ms C.now).1) to (s.take f ms C.now).2
    have hs:=G6 hs (s.take f ms C.now).1
    omega
   ·omega
theorem J4{C:al}(h:tF C){p:bj}{i:Int}{t:ByteArray}(hp:p.2=16→p.1≠16)(ht:C.aB.find p i=some t):(C.fj p i).1.wg+1≤C.wg:=by
 unfold al.fj
 rw[ht]
 have hw:({ C with aB:=C.aB.dy p i }:al).wg=C.wg-wT p.2 t:=by
  have:=Ol ht
  show(C.aB.dy p i).wg+eT C.au.top C.nodes+fP C.bg+C.au.wg=C.aB.wg+eT C.au.top C.nodes+fP C.bg+C.au.wg-wT p.2 t
  omega
 show(({ C with aB:=C.aB.dy p i }:al).iu p.1 p.2 t).wg+1≤C.wg
 unfold al.iu
 have h1:=Dw p.2 t
 cases hg:getM (sB t) with
 | none=>
  show({ C with aB:=C.aB.dy p i }:al).wg+1≤C.wg
  omega
 | some x=>
  have e:wT p.2 t=wK p.2 x.1.kind:=by unfold wT;rw[hg]
  have:=aba (C:=({ C with aB:=C.aB.dy p i }:al)) ⟨h.n,h.l,h.m⟩ hp x.1 x.2
  show(({ C with aB:=C.aB.dy p i }:al).fJ p.1 p.2 x.1 x.2).wg+1≤C.wg
  omega
end Cl
namespace Cl
open Go Vg T Api Ch Rep Conf Lg Rd Win Kv Adm Sched
theorem LQ{R:av}(h:R.Ok):0≤cT R:=by
 have:=h.an.jg
 unfold cT eF
 split<;>omega
theorem LU{E:Int}:∀{l:List (Option av)},(∀R,some R∈l→R.Ok∧R.ch.ar≤E)→0≤eT E l
 | [],_=>cd _
 | o::l,h=>by
  have ih:=LU (E:=E) (l:=l) fun R hR=>h R (i_ _ hR)
  have h1:0≤qk E o:=by
   cases o with
   | none=>exact cd _
   | some R=>
    have h2:=h R (mW ..)
    have:=LQ h2.1
    show 0≤cT R+5*(E-R.ch.ar)
    omega
  have e:eT E (o::l)=qk E o+eT E l:=rfl
  omega
theorem JG:∀l:List aN,0≤fP l
 | []=>cd _
 | s::l=>by
  have ih:=JG l
  have:=CT s.eR
  have e:fP (s::l)=uf s.eR+fP l:=rfl
  omega
theorem al.Oc{C:al}(h:∀R,some R∈C.nodes→R.Ok∧R.ch.ar≤C.au.top):C.aB.wg≤C.wg:=by
 have h1:=LU h
 have h2:=JG C.bg
 have h3:=(zp C.au).1
 show C.aB.wg≤C.aB.wg+eT C.au.top C.nodes+fP C.bg+6*kl C.au
 omega
theorem al.w_0{C:al}(h:∀R,some R∈C.nodes→R.Ok∧R.ch.ar≤C.au.top):0≤C.wg:=uJ (N' _) (al.Oc h)
theorem Rr{C:al}(s:cB):(C.call s).1.wg≤C.wg+8:=by
 unfold al.call
 split
 ·show C.wg≤_;omega
 ·rename_i x hx
  split
  ·show C.wg≤_;omega
  ·have h1:=Rn x s.op s.b (C.dead s.c) C.now
   have h2:=G6 hx (x.call s.op s.b (C.dead s.c) C.now).1
   have h3:=rB ({ C.gR s.a (x.call s.op s.b (C.dead s.c) C.now).1 with his:=C.his.call s.a (x.call s.op s.b (C.dead s.c) C.now).1.seq s.op }:al) (32+s.a) (x.call s.op s.b (C.dead s.c) C.now).2
   have e:({ C.gR s.a (x.call s.op s.b (C.dead s.c) C.now).1 with his:=C.his.call s.a (x.call s.op s.b (C.dead s.c) C.now).1.seq s.op }:al).wg=(C.gR s.a (x.call s.op s.b (C.dead s.c) C.now).1).wg:=rfl
   show(({ C.gR s.a (x.call s.op s.b (C.dead s.c) C.now).1 with his:=C.his.call s.a (x.call s.op s.b (C.dead s.c) C.now).1.seq s.op }:al).post (32+s.a) (x.call s.op s.b (C.dead s.c) C.now).2).wg≤_
   omega
theorem abi(C:al)(n:Nat):(C.bA n).wg≤C.wg+8:=by
 unfold al.bA
 split
 ·omega
 ·rename_i r hr
  have hn:C.node (n:Int)=some r:=by
   unfold al.node
   rw[if_neg yd,dZ];exact hr
  have h1:=abl r C.now C.au.top
  have h2:=G7 hn (gY r).1
  have h3:=rB (C.setNode n (some (gY r).1)) n (ek (gY r).2)
  rw[Af] at h3
  omega
theorem abd(C:al)(n:Nat):(C.eV n).wg≤C.wg+8:=by
 unfold al.eV
 split
 ·omega
 ·rename_i s hs
  have hn:C.du (n:Int)=some s:=by
   unfold al.du
   rw[if_neg yd,dZ];exact hs
  have h1:=abg s C.now
  have h2:=G6 hn (s.tick C.now).1
  have h3:=rB (C.gR n (s.tick C.now).1) (32+n) (s.tick C.now).2
  omega
theorem Fs{g:al→Nat→al}(hg:∀C n,(g C n).wg≤C.wg+8):∀(l:List Nat) (C:al),(l.foldl g C).wg≤C.wg+8*l.length
 | [],C=>by show C.wg≤C.wg+8*((0:Nat):Int);omega
 | n::l,C=>by
  have h1:=hg C n
  have h2:=Fs hg l (g C n)
  rw[oZ,iA]
  push_cast;omega
theorem abh(C:al)(n:Nat):(C.bA n).bg=C.bg:=by unfold al.bA;split<;>rfl
theorem Kw:∀(l:List Nat) (C:al),(l.foldl al.bA C).bg=C.bg
 | [],C=>rfl
 | n::l,C=>by rw[oZ,Kw l,abh]
theorem abn(C:al):C.tick.wg≤C.wg+8*C.nodes.length+8*C.bg.length:=by
 unfold al.tick
 have h1:=Fs abi (List.range C.nodes.length) ({ C with now:=min (C.now+1) 1099511627776 }:al)
 have h2:=Fs abd (List.range C.bg.length) ((List.range C.nodes.length).foldl al.bA ({ C with now:=min (C.now+1) 1099511627776 }:al))
 have e:({ C with now:=min (C.now+1) 1099511627776 }:al).wg=C.wg:=rfl
 have e2:=Kw (List.range C.nodes.length) ({ C with now:=min (C.now+1) 1099511627776 }:al)
 rw[tr] at h1 h2
 show((List.range ((List.range C.nodes.length).foldl al.bA ({ C with now:=min (C.now+1) 1099511627776 }:al)).bg.length).foldl al.eV ((List.range C.nodes.length).foldl al.bA ({ C with now:=min (C.now+1) 1099511627776 }:al))).wg≤_
 rw[e2]
 show((List.range C.bg.length).foldl al.eV _).wg≤_
 omega
end Cl
namespace Cl
open Go Vg T Api Ch Rep Conf Lg Rd Win Kv Adm Sched
theorem LV{E D:Int}(d:Int)(h:D≤E+d)(h0:0≤d):∀l:List (Option av),eT D l≤eT E l+5*d*l.length
 | []=>by show(0:Int)≤0+5*d*((0:Nat):Int);omega
 | o::l=>by
  have ih:=LV d h h0 l
  have e1:eT D (o::l)=qk D o+eT D l:=rfl
  have e2:eT E (o::l)=qk E o+eT E l:=rfl
  have e3:qk D o≤qk E o+5*d:=by
   cases o with
   | none=>show(0:Int)≤0+5*d;omega
   | some R=>show cT R+5*(D-R.ch.ar)≤cT R+5*(E-R.ch.ar)+5*d;omega
  have e4:5*d*((o::l).length:Int)=5*d*(l.length:Int)+5*d:=by
   rw[iA];push_cast;rw[Int.mul_add,Int.mul_one]
  omega
theorem Cq{C:al}{m:aE}(d:Int)(h:m.top≤C.au.top+d)(h0:0≤d)(S:List cz):(({ C with au:=m }:al).post 16 S).wg≤C.wg+5*d*C.nodes.length+(m.wg-C.au.wg)+wS S:=by
 have h1:=rB ({ C with au:=m }:al) 16 S
 have h2:=LV d h h0 C.nodes
 have e:({ C with au:=m }:al).wg=C.aB.wg+eT m.top C.nodes+fP C.bg+m.wg:=rfl
 have e2:C.wg=C.aB.wg+eT C.au.top C.nodes+fP C.bg+C.au.wg:=rfl
 omega
theorem Ca{m:aE}{n:Int}(h:m.kB n=0):(m.gone n).top≤m.top+1∧(m.gone n).wg≤m.wg:=by
 obtain⟨h1,h2⟩:=Fz h
 have hd:kl (m.gone n)≤kl m:=by
  unfold kl
  rw[h2]
  repeat' split
  all_goals first | decide | omega
 unfold aE.top aE.wg
 omega
theorem Yo{C:al}(h:tF C)(n:Int):(({ C with au:=(C.au.eQ n).1 }:al).post 16 (C.au.eQ n).2.1).wg≤C.wg+5*C.nodes.length+6:=by
 unfold aE.eQ
 split
 ·show C.wg≤_;omega
 split
 ·show C.wg≤_;omega
 ·rename_i h1
  obtain⟨a,b⟩:=Ca (m:=C.au) (n:=n) yd
  have:=Cq (C:=C) (m:=C.au.gone n) 1 a yo (C.au.gone n).all
  have ha:=yZ (m:=C.au.gone n) h.m
  show(({ C with au:=C.au.gone n }:al).post 16 (C.au.gone n).all).wg≤_
  omega
theorem Sn{C:al}(h:tF C)(n:Int):(({ C with au:=(C.au.drain n).1 }:al).post 16 (C.au.drain n).2.1).wg≤C.wg+10*C.nodes.length+12:=by
 unfold aE.drain
 split
 ·show C.wg≤_;omega
 split
 ·show C.wg≤_;omega
 ·rename_i h1
  have he:(C.au.iH n).ch.ar=C.au.ch.ar+1:=by
   show(gh C.au.ch n).1.ar=_
   have h2:(gh C.au.ch n).2=0:=by omega
   unfold gh at h2 ⊢
   split at h2
   ·cases h2
   rename_i k1
   split at h2
   ·rename_i k2;exact absurd h2 k2
   rename_i k2
   split at h2
   ·cases h2
   rename_i k3
   rw[if_neg k1,if_neg k2,if_neg k3]
  have hd:=zp (C.au.iH n)
  have hd2:=zp C.au
  have:=Cq (C:=C) (m:=C.au.iH n) 2 (by unfold aE.top;omega) yo (C.au.iH n).all
  have ha:=yZ (m:=C.au.iH n) h.m
  have hw:(C.au.iH n).wg-C.au.wg≤6:=by unfold aE.wg;omega
  show(({ C with au:=C.au.iH n }:al).post 16 (C.au.iH n).all).wg≤_
  omega
theorem Og(now:Int):∀(l:List aR) (x:aE×Bool),(aE.watch now l x).1.top≤x.1.top+l.length∧(aE.watch now l x).1.wg≤x.1.wg∧(aE.watch now l x).1.nodes=x.1.nodes
 | [],x=>⟨by show x.1.top≤x.1.top+((0:Nat):Int);omega,cd _,rfl⟩
 | y::l,x=>by
  have ih:=Og now l (if x.1.late now y.1 then (x.1.gone y.1,true) else x)
  have hs:(if x.1.late now y.1 then (x.1.gone y.1,true) else x).1.top≤x.1.top+1∧(if x.1.late now y.1 then (x.1.gone y.1,true) else x).1.wg≤x.1.wg∧(if x.1.late now y.1 then (x.1.gone y.1,true) else x).1.nodes=x.1.nodes:=by
   split
   ·rename_i hl
    unfold aE.late at hl
    simp only[dN,decide_eq_true_eq] at hl
    exact⟨(Ca hl.2.2).1,(Ca hl.2.2).2,Z⟩
   ·exact⟨by omega,cd _,Z⟩
  obtain⟨i1,i2,i3⟩:=ih
  obtain⟨s1,s2,s3⟩:=hs
  show(aE.watch now l (if x.1.late now y.1 then (x.1.gone y.1,true) else x)).1.top≤_∧(aE.watch now l (if x.1.late now y.1 then (x.1.gone y.1,true) else x)).1.wg≤_∧(aE.watch now l (if x.1.late now y.1 then (x.1.gone y.1,true) else x)).1.nodes=_
  refine⟨?_,by omega,by rw[i3,s3]⟩
  rw[iA]
  push_cast;omega
theorem Sq(C:al)(p:bj)(i:Int):({ C with aB:=(C.aB.drop p i).1 }:al).wg≤C.wg:=by
 have hd:(C.aB.drop p i).1.wg≤C.aB.wg:=by
  unfold aT.drop
  cases hf:C.aB.find p i with
  | none=>exact cd _
  | some t=>
   have:=Ol hf
   have:=Dw p.2 t
   rw[if_neg yf]
   show(C.aB.dy p i).wg≤_
   omega
 show(C.aB.drop p i).1.wg+eT C.au.top C.nodes+fP C.bg+C.au.wg≤C.aB.wg+eT C.au.top C.nodes+fP C.bg+C.au.wg
 omega
theorem ab8(q:Int)(t:ByteArray):wT q t≤4:=by
 unfold wT
 split
 ·decide
 ·exact N8 _ _
theorem Sk(C:al)(p:bj)(i:Int):({ C with aB:=(C.aB.double p i).1 }:al).wg≤C.wg+4:=by
 have hd:(C.aB.double p i).1.wg≤C.aB.wg+4:=by
  unfold aT.double
  split
  ·show C.aB.wg≤_;omega
  ·rename_i t ht
   have:=GZ C.aB p t
   have:=ab8 p.2 t
   show(C.aB.send p t).wg≤_
   omega
 show(C.aB.double p i).1.wg+eT C.au.top C.nodes+fP C.bg+C.au.wg≤C.aB.wg+eT C.au.top C.nodes+fP C.bg+C.au.wg+4
 omega
end Cl
namespace Cl
open Go Vg T Api Ch Rep Conf Lg Rd Win Kv Adm Sched
theorem cO.E_{C:al}{g:Gh}(h:cO C g){R:av}(hR:some R∈C.nodes):R.ch.ar≤C.au.top:=by
 obtain⟨n,hn⟩:=oD hR
 obtain⟨e,he,h1⟩:=(h.jB n R hn).ch
 have hl:e<g.H.length:=(bY.1 h1).1
 have ht:=h.m.top
 rw[v7] at ht
 have:=h.m.gi.fY.ep _ _ ht
 have hd:=(zp C.au).1
 unfold aE.top
 omega
theorem cO.UM{C:al}{g:Gh}(h:cO C g)(hF:tF C):C.aB.wg≤C.wg:=al.Oc fun R hR=>⟨(hF.n R hR).ok,h.E_ hR⟩
theorem cO.R0{C:al}{g:Gh}(h:cO C g)(hF:tF C){n:Int}{R:av}(hn:C.node n=some R):(C.setNode n none).wg≤C.wg:=by
 have hm:=ME (Ae hn).2
 have h1:=LQ (hF.n R hm).ok
 have h2:=h.E_ hm
 have e:=Cz C.au.top none (Ae hn).2
 have e2:qk C.au.top (some R)=cT R+5*(C.au.top-R.ch.ar):=rfl
 have e3:qk C.au.top none=0:=rfl
 show C.aB.wg+eT C.au.top (C.nodes.set n.toNat none)+fP C.bg+C.au.wg≤C.aB.wg+eT C.au.top C.nodes+fP C.bg+C.au.wg
 omega
end Cl
namespace Cl
open Go Vg T Api Ch Rep Conf Lg Rd Win Kv Adm Sched
inductive eH:aT→aT→Prop
 | refl (l:aT):eH l l
 | send {l m:aT} (h:eH l m) (p:bj) (t:ByteArray):eH l (m.send p t)
theorem eH.trans{a b c:aT}(h:eH a b)(k:eH b c):eH a c:=by
 induction k with
 | refl=>exact h
 | send k p t ih=>exact ih.send p t
theorem eH.bD(from_:Int):∀(S:List cz) (l:aT),eH l (Cl.bD from_ l S)
 | [],l=>.refl l
 | s::S,l=>by
  have h1:eH l (ic from_ l s):=by
   unfold ic
   split
   ·exact .refl l
   ·exact(eH.refl l).send _ _
  exact h1.trans (eH.bD from_ S (ic from_ l s))
def nM:List (bj×List ByteArray)→Int
 | []=>0
 | x::m=>x.2.length+nM m
def aT.n(S:aT):Int:=nM S.aX
theorem LN:∀m,0≤nM m
 | []=>cd _
 | x::m=>by
  have h:=LN m
  show 0≤(x.2.length:Int)+nM m
  omega
theorem F2(p:bj)(l:List ByteArray):∀m,nM (bV m p l)=nM m-((bF m p).getD []).length+l.length
 | []=>by
  show(l.length:Int)+0=0-(([]:List ByteArray).length:Int)+l.length
  rw[List.length_nil]
  omega
 | (k,v)::m=>by
  have ih:=F2 p l m
  unfold bV bF
  split
  ·show(l.length:Int)+nM m=v.length+nM m-v.length+l.length
   omega
  ·show(v.length:Int)+nM (bV m p l)=v.length+nM m-((bF m p).getD []).length+l.length
   omega
theorem LO(p:bj):∀m,nM (eO m p)=nM m-((bF m p).getD []).length
 | []=>by
  show(0:Int)=0-(([]:List ByteArray).length:Int)
  rw[List.length_nil]
  omega
 | (k,v)::m=>by
  have ih:=LO p m
  unfold eO bF
  split
  ·show nM m=v.length+nM m-v.length
   omega
  ·show(v.length:Int)+nM (eO m p)=v.length+nM m-((bF m p).getD []).length
   omega
theorem Dc(S:aT)(p:bj)(t:ByteArray):S.send p t=S∨((S.send p t).n=S.n+1∧p.1≠p.2∧(S.send p t).aX=bV S.aX p (S.list p ++ [t])):=by
 unfold aT.send
 split
 ·exact .inl rfl
 ·rename_i h
  have h0:S.kX p t=0:=by omega
  refine .inr ⟨?_,?_,Z⟩
  ·show nM (bV S.aX p (S.list p ++ [t]))=nM S.aX+1
   rw[F2,a_,Ej]
   unfold aT.list
   push_cast;omega
  ·unfold aT.kX at h0
   split at h0
   ·cases h0
   ·rename_i g
    exact fun e=>g (.inr (.inr e))
theorem eH.n{l m:aT}(h:eH l m):l.n≤m.n:=by
 induction h with
 | refl=>exact cd _
 | @send m h p t ih=>
  rcases Dc m p t with e | e
  ·rw[e];exact ih
  ·omega
theorem ach{S:aT}{p:bj}{i:Int}{t:ByteArray}(h:S.find p i=some t):(S.dy p i).n=S.n-1:=by
 unfold aT.find at h
 split at h
 ·cases h
 have hl:=(bY.1 h).1
 have e1:nM (bV S.aX p ((S.list p).eraseIdx i.toNat))=nM S.aX-1:=by
  rw[F2,List.length_eraseIdx_of_lt hl]
  unfold aT.list at hl ⊢
  omega
 unfold aT.dy
 split
 ·rename_i h0
  show nM (eO (bV S.aX p _) p)=nM S.aX-1
  rw[LO,e1]
  have hg:bF (bV S.aX p ((S.list p).eraseIdx i.toNat)) p=some ((S.list p).eraseIdx i.toNat):=by rw[w6,if_pos rfl]
  rw[hg]
  show nM S.aX-1-((((S.list p).eraseIdx i.toNat).length:Nat):Int)=_
  omega
 ·exact e1
theorem My(from_:Int):∀(l:List cz) (S:aT),(bD from_ S l).wg-(bD from_ S l).n≤S.wg-S.n+wS l-l.length
 | [],S=>by show S.wg-S.n≤S.wg-S.n+0-((0:Nat):Int);omega
 | s::l,S=>by
  have h:=My from_ l (ic from_ S s)
  have h1:(ic from_ S s).wg-(ic from_ S s).n≤S.wg-S.n+wK s.1 s.2.1.kind-1:=by
   have:=xG s.1 s.2.1.kind
   unfold ic
   split
   ·omega
   ·rename_i t ht
    have h2:=GZ S (from_,s.1) (bT t)
    have h3:=MD ht s.1
    dsimp only at h2
    rcases Dc S (from_,s.1) (bT t) with e | e
    ·rw[e];omega
    ·omega
  rw[AS,iA]
  show(bD from_ (ic from_ S s) l).wg-(bD from_ (ic from_ S s) l).n≤_
  push_cast
  omega
def nU(S:aT):Prop:=∀p l,bF S.aX p=some l→p.1≠p.2∧l≠[]
theorem nU.send{S:aT}(h:nU S)(p:bj)(t:ByteArray):nU (S.send p t):=by
 rcases Dc S p t with e | ⟨_,e,e2⟩
 ·rw[e];exact h
 ·intro q l hl
  rw[e2,w6] at hl
  split at hl
  ·rename_i e3
   subst e3
   cases hl
   exact⟨e,by simp⟩
  ·exact h q l hl
theorem eH.wY{l m:aT}(h:eH l m)(k:nU l):nU m:=by
 induction h with
 | refl=>exact k
 | send h p t ih=>exact ih.send p t
theorem nU.dy{S:aT}(h:nU S)(ok:S.Ok){p:bj}{i:Int}{t:ByteArray}(hf:S.find p i=some t):nU (S.dy p i):=by
 unfold aT.find at hf
 split at hf
 ·cases hf
 have hp:p.1≠p.2:=by
  unfold aT.list at hf
  cases hg:bF S.aX p with
  | none=>rw[hg] at hf;cases hf
  | some l=>exact(h p l hg).1
 unfold aT.dy
 split
 ·intro q l hl
  have hk:bF (eO (bV S.aX p ((S.list p).eraseIdx i.toNat)) p) q=some l:=hl
  clear hl
  rw[UI (Ll ok.nd p _)] at hk
  split at hk
  ·cases hk
  ·rename_i hq
   rw[w6,if_neg hq] at hk
   exact h q l hk
 ·rename_i h0
  intro q l hl
  have hk:bF (bV S.aX p ((S.list p).eraseIdx i.toNat)) q=some l:=hl
  clear hl
  rw[w6] at hk
  split at hk
  ·rename_i e
   subst e
   obtain rfl:=oF hk
   exact⟨hp,fun e=>h0 Bh⟩
  ·exact h q l hk
theorem KL{p:bj}:∀{m:List (bj×List ByteArray)},p∈m.map Prod.fst→∃l,bF m p=some l
 | [],h=>absurd h yf
 | (k,v)::m,h=>by
  unfold bF
  split
  ·exact⟨v,Z⟩
  ·rename_i hk
   refine KL ?_
   rw[gA] at h
   rcases jK.1 h with e | e
   ·exact absurd e.symm hk
   ·exact e
theorem nU.SX{S:aT}(h:nU S){p:bj}(hp:p∈S.aX.map Prod.fst):∃t,S.find p 0=some t∧p.1≠p.2:=by
 obtain⟨l,hl⟩:=KL hp
 obtain⟨h1,h2⟩:=h p l hl
 cases l with
 | nil=>exact absurd rfl h2
 | cons t l=>
  refine⟨t,?_,h1⟩
  unfold aT.find aT.list
  rw[if_neg yo,hl]
  rfl
theorem Mx(from_:Int):∀(l:List cz) {S:aT},(∀x∈S.aX,x.1.1=from_)→∀x∈(bD from_ S l).aX,x.1.1=from_
 | [],_,h=>h
 | s::l,S,h=>by
  refine Mx from_ l (S:=ic from_ S s) ?_
  unfold ic
  split
  ·exact h
  ·rename_i t ht
   rcases Dc S (from_,s.1) (bT t) with e | ⟨_,_,e⟩
   ·rw[e];exact h
   ·rw[e]
    intro x hx
    rcases w7 hx with h1 | h1
    ·exact h x h1
    ·rw[h1]
section
variable (C:al)
theorem abj(n:Nat):eH C.aB (C.bA n).aB:=by
 unfold al.bA
 split
 ·exact .refl _
 ·exact eH.bD _ _ _
theorem abf(n:Nat):eH C.aB (C.eV n).aB:=by
 unfold al.eV
 split
 ·exact .refl _
 ·exact eH.bD _ _ _
theorem Fq{g:al→Nat→al}(hg:∀C n,eH C.aB (g C n).aB):∀(l:List Nat) (C:al),eH C.aB (l.foldl g C).aB
 | [],C=>.refl _
 | n::l,C=>(hg C n).trans (Fq hg l (g C n))
theorem NL:eH C.aB C.tick.aB:=by
 unfold al.tick
 have h1:=Fq abj (List.range C.nodes.length) ({ C with now:=min (C.now+1) 1099511627776 }:al)
 exact h1.trans (Fq abf _ _)
theorem aa'(from_ to:Int)(f:ay)(ms:List aR):eH C.aB (C.fJ from_ to f ms).aB:=by
 unfold al.fJ
 split
 ·exact eH.bD _ _ _
 split
 ·exact eH.bD _ _ _
 split
 ·exact eH.bD _ _ _
 ·exact .refl _
theorem Tz(from_ to:Int)(t:ByteArray):eH C.aB (C.iu from_ to t).aB:=by
 unfold al.iu
 split
 ·exact aa' C _ _ _ _
 ·exact .refl _
theorem J2{p:bj}{i:Int}{t:ByteArray}(h:C.aB.find p i=some t):eH (C.aB.dy p i) (C.fj p i).1.aB:=by
 unfold al.fj
 rw[h]
 exact Tz ({ C with aB:=C.aB.dy p i }:al) _ _ _
theorem Q3(n:Int):eH C.aB (C.back n).aB:=by
 unfold al.back
 split
 ·exact eH.bD _ _ _
 ·exact .refl _
theorem T1(n:Int):eH C.aB (C.join n).1.aB:=by
 unfold al.join
 dsimp only
 split
 ·exact .refl _
 ·exact(Q3 ({ C with au:=(C.au.join n C.now).1 }:al) n).trans (eH.bD _ _ _)
theorem Ru(s:cB):eH C.aB (C.call s).1.aB:=by
 unfold al.call
 split
 ·exact .refl _
 split
 ·exact .refl _
 ·exact eH.bD _ _ _
theorem Ya{s:cB}(h4:s.kind≠4)(h5:s.kind≠5):eH C.aB (C.step s).1.aB:=by
 by_cases k1:s.kind=1
 ·rw[vw C k1];exact Ru C s
 by_cases k2:s.kind=2
 ·rw[vz C k2]
  split
  ·exact .refl _
  ·exact eH.bD _ _ _
 by_cases k3:s.kind=3
 ·rw[vA C k3];exact NL C
 by_cases k6:s.kind=6
 ·rw[vC C k6]
  show eH C.aB (C.aB.double (s.a,s.b) s.c).1
  unfold aT.double
  split
  ·exact .refl _
  ·exact(eH.refl _).send _ _
 by_cases k7:s.kind=7
 ·rw[vD C k7]
  split
  ·exact .refl _
  ·exact .refl _
 by_cases k8:s.kind=8
 ·rw[vE C k8];exact eH.bD _ _ _
 by_cases k9:s.kind=9
 ·rw[vF C k9];exact T1 C s.a
 by_cases k10:s.kind=10
 ·rw[vx C k10];exact eH.bD _ _ _
 by_cases iS:s.kind=11
 ·rw[vy C iS];exact eH.bD _ _ _
 ·rw[vG C fun j h1 h2=>by
   rcases(by omega:j=1∨j=2∨j=3∨j=4∨j=5∨j=6∨j=7∨j=8∨j=9∨j=10∨j=11) with rfl | rfl | rfl | rfl | rfl | rfl | rfl | rfl | rfl | rfl | rfl<;>assumption]
  exact .refl _
theorem X_{C:al}(ok:C.aB.Ok)(h:nU C.aB)(s:cB):nU (C.step s).1.aB:=by
 by_cases k4:s.kind=4
 ·rw[ur C k4]
  cases hf:C.aB.find (s.a,s.b) s.c with
  | none=>
   unfold al.fj
   rw[hf];exact h
  | some t=>exact(J2 C hf).wY (h.dy ok hf)
 by_cases k5:s.kind=5
 ·rw[vB C k5]
  show nU (C.aB.drop (s.a,s.b) s.c).1
  unfold aT.drop
  cases hf:C.aB.find (s.a,s.b) s.c with
  | none=>exact h
  | some t=>rw[if_neg yf];exact h.dy ok hf
 ·exact(Ya C k4 k5).wY h
end
end Cl
namespace Cl
open Go Vg T Api Ch Rep Conf Lg Rd Win Kv Adm Sched
structure jO(m m':aE)(d:Nat):Prop where
 ep:m.ch.ar≤m'.ch.ar
 ms:m'.ch.ms.length≤m.ch.ms.length+d
namespace jO
theorem refl{m m':aE}(h:m'.ch=m.ch)(d:Nat):jO m m' d:=⟨by rw[h];exact cd _,by rw[h];omega⟩
theorem gone{m:aE}{n:Int}(h:m.kB n=0):(m.gone n).ch.ar=m.ch.ar+1∧(m.gone n).ch.ms.length+1=m.ch.ms.length:=by
 refine⟨(Fz h).1,?_⟩
 obtain⟨_,h2,h3⟩:=xK h
 obtain⟨i,x,e,hi,_⟩:=vl (zZ h2).1
 show(im m.ch n).1.ms.length+1=_
 rw[h3]
 show(m.ch.ms.eraseIdx (placeOf m.ch.ms n).toNat).length+1=_
 rw[e,dZ,List.length_eraseIdx_of_lt hi]
 omega
theorem out{m:aE}{n:Int}(h:m.kB n=0):jO m (m.gone n) 0:=by
 obtain⟨a,b⟩:=gone h
 exact⟨by omega,by omega⟩
theorem take(m:aE)(from_:Int)(f:ay)(now:Int):jO m (m.take from_ f now).1 0:=by
 unfold aE.take
 split
 ·exact rP
 split
 ·exact rP
 split
 ·split
  ·exact rP
  split
  ·exact rP
  ·exact rP
 split
 ·split
  ·exact rP
  split
  ·exact rP
  ·exact rP
 split
 ·split
  ·rename_i h
   exact out h.2.2
  ·exact rP
 ·exact rP
theorem eQ(m:aE)(n:Int):jO m (m.eQ n).1 0:=by
 unfold aE.eQ
 split
 ·exact refl Z 0
 split
 ·exact refl Z 0
 ·exact out yd
theorem drain(m:aE)(n:Int):jO m (m.drain n).1 0:=by
 unfold aE.drain
 split
 ·exact refl Z 0
 split
 ·exact refl Z 0
 ·have h:=(zr (c:=m.ch) (n:=n) yd).2.2.2
  refine⟨?_,?_⟩
  ·show _≤(gh m.ch n).1.ar
   rw[h];show _≤m.ch.ar+1;omega
  ·show(gh m.ch n).1.ms.length≤_
   rw[h];exact NR _
theorem join(m:aE)(n now:Int):jO m (m.join n now).1 1:=by
 unfold aE.join
 split
 ·exact refl Z 1
 split
 ·exact refl Z 1
 ·have h:=(xJ (c:=m.ch) (n:=n) yd).2.2.2
  refine⟨?_,?_⟩
  ·show _≤(e8 m.ch n).1.ar
   rw[h];show _≤m.ch.ar+1;omega
  ·show(e8 m.ch n).1.ms.length≤_
   rw[h]
   show(m.ch.ms ++ [(n,m.ch.ar+1)]).length≤_
   rw[a_,Ej]
   exact NR _
end jO
theorem Hn(now:Int):∀(l:List aR) (x:aE×Bool),(aE.watch now l x).1.top+(aE.watch now l x).1.ch.ms.length≤x.1.top+x.1.ch.ms.length∧(aE.watch now l x).1.ch.ms.length≤x.1.ch.ms.length∧x.1.ch.ar≤(aE.watch now l x).1.ch.ar∧((aE.watch now l x).2=true→x.2=true∨((aE.watch now l x).1.ch.ms.length+1≤x.1.ch.ms.length∧x.1.ch.ar+1≤(aE.watch now l x).1.ch.ar))
 | [],x=>⟨cd _,NR _,cd _,fun h=>.inl h⟩
 | y::l,x=>by
  obtain⟨i1,i2,i3,i4⟩:=Hn now l (if x.1.late now y.1 then (x.1.gone y.1,true) else x)
  show(aE.watch now l (if x.1.late now y.1 then (x.1.gone y.1,true) else x)).1.top+(aE.watch now l (if x.1.late now y.1 then (x.1.gone y.1,true) else x)).1.ch.ms.length≤_∧(aE.watch now l (if x.1.late now y.1 then (x.1.gone y.1,true) else x)).1.ch.ms.length≤_∧_≤(aE.watch now l (if x.1.late now y.1 then (x.1.gone y.1,true) else x)).1.ch.ar∧((aE.watch now l (if x.1.late now y.1 then (x.1.gone y.1,true) else x)).2=true→_∨((aE.watch now l (if x.1.late now y.1 then (x.1.gone y.1,true) else x)).1.ch.ms.length+1≤_∧_≤(aE.watch now l (if x.1.late now y.1 then (x.1.gone y.1,true) else x)).1.ch.ar))
  by_cases hl:x.1.late now y.1=true
  ·rw[if_pos hl] at i1 i2 i3 i4 ⊢
   unfold aE.late at hl
   simp only[dN,decide_eq_true_eq] at hl
   obtain⟨a,b⟩:=jO.gone hl.2.2
   have c:=(Ca hl.2.2).1
   dsimp only at i1 i2 i3
   exact⟨by omega,by omega,by omega,fun _=>.inr ⟨by omega,by omega⟩⟩
  ·rw[if_neg hl] at i1 i2 i3 i4 ⊢
   exact⟨i1,i2,i3,i4⟩
theorem jO.tick(m:aE)(now:Int):jO m (m.tick now).1 0:=by
 obtain⟨_,b,c,_⟩:=Hn (bA now) m.ch.ms (m,false)
 exact⟨c,b⟩
section
variable (C:al)
theorem aa9(from_ to:Int)(f:ay)(ms:List aR):jO C.au (C.fJ from_ to f ms).au 0:=by
 unfold al.fJ
 split
 ·exact jO.take _ _ _ _
 split
 ·exact .refl Z 0
 split<;>exact .refl rfl 0
theorem Sc(p:bj)(i:Int):jO C.au (C.fj p i).1.au 0:=by
 unfold al.fj
 split
 ·exact .refl Z 0
 ·rename_i t ht
  show jO C.au (al.iu _ _ _ _).au 0
  unfold al.iu
  split
  ·exact aa9 ({ C with aB:=C.aB.dy p i }:al) _ _ _ _
  ·exact .refl Z 0
theorem abo:C.tick.now=min (C.now+1) 1099511627776:=by
 have h1:∀(l:List Nat) (D:al),(l.foldl al.bA D).now=D.now:=by
  intro l
  induction l with
  | nil=>intro D;rfl
  | cons x l ih=>intro D;rw[oZ,ih,(NK D x).2.2.1]
 have h2:∀(l:List Nat) (D:al),(l.foldl al.eV D).now=D.now:=by
  intro l
  induction l with
  | nil=>intro D;rfl
  | cons x l ih=>intro D;rw[oZ,ih,(abe D x).2.2.1]
 unfold al.tick
 rw[h2,h1]
theorem aa_(from_ to:Int)(f:ay)(ms:List aR):(C.fJ from_ to f ms).now=C.now:=by
 unfold al.fJ
 split
 ·rfl
 split
 ·rfl
 split<;>rfl
theorem Sd(p:bj)(i:Int):(C.fj p i).1.now=C.now:=by
 unfold al.fj
 split
 ·rfl
 ·show(al.iu _ _ _ _).now=_
  unfold al.iu
  split
  ·exact aa_ ({ C with aB:=C.aB.dy p i }:al) _ _ _ _
  ·rfl
theorem xx(s:cB):jO C.au (C.step s).1.au (if s.kind=9 then 1 else 0)∧(C.step s).1.now=if s.kind=3 then min (C.now+1) 1099511627776 else C.now:=by
 by_cases k1:s.kind=1
 ·rw[vw C k1,if_neg yd,if_neg yd]
  unfold al.call
  split
  ·exact⟨.refl Z _,Z⟩
  split<;>exact⟨.refl rfl _,rfl⟩
 by_cases k2:s.kind=2
 ·rw[vz C k2,if_neg yd,if_neg yd]
  cases C.node s.a<;>exact⟨.refl rfl _,rfl⟩
 by_cases k3:s.kind=3
 ·rw[vA C k3,if_neg yd,if_pos k3]
  exact⟨.refl (by show C.tick.au.ch=_;rw[Hf]) _,abo C⟩
 rw[if_neg k3]
 by_cases k4:s.kind=4
 ·rw[ur C k4,if_neg yd]
  exact⟨Sc C _ _,Sd C _ _⟩
 by_cases k5:s.kind=5
 ·rw[vB C k5,if_neg yd];exact⟨.refl rfl _,rfl⟩
 by_cases k6:s.kind=6
 ·rw[vC C k6,if_neg yd];exact⟨.refl rfl _,rfl⟩
 by_cases k7:s.kind=7
 ·rw[if_neg (show ¬s.kind=9 by omega),vD C k7]
  split<;>exact⟨.refl rfl _,rfl⟩
 by_cases k8:s.kind=8
 ·rw[vE C k8,if_neg yd];exact⟨jO.eQ _ _,rfl⟩
 by_cases k9:s.kind=9
 ·rw[vF C k9,if_pos k9]
  unfold al.join
  dsimp only
  split
  ·exact⟨.refl Z _,Z⟩
  ·refine⟨?_,?_⟩
   ·show jO C.au (({ C with au:=(C.au.join s.a C.now).1 }:al).back s.a).au 1
    rw[(Ex s.a).2]
    exact jO.join _ _ _
   ·show(({ C with au:=(C.au.join s.a C.now).1 }:al).back s.a).now=_
    unfold al.back
    split<;>rfl
 rw[if_neg k9]
 by_cases k10:s.kind=10
 ·rw[vx C k10];exact⟨jO.drain _ _,rfl⟩
 by_cases iS:s.kind=11
 ·rw[vy C iS];exact⟨jO.tick _ _,rfl⟩
 ·rw[vG C fun j h1 h2=>by
   rcases(by omega:j=1∨j=2∨j=3∨j=4∨j=5∨j=6∨j=7∨j=8∨j=9∨j=10∨j=11) with rfl | rfl | rfl | rfl | rfl | rfl | rfl | rfl | rfl | rfl | rfl<;>assumption]
  exact⟨.refl Z _,Z⟩
end
def al.W(C:al):Int:=C.wg+26*C.au.ch.ms.length
theorem Vv(c:bh):cu (ou c)=0:=by
 show((((c.qs.map ni).map cG.q).map List.length).sum)=0
 induction c.qs with
 | nil=>rfl
 | cons q l ih=>rw[gA,gA,gA,pP,ih];rfl
theorem L0(c:bh)(n:Int)(b:Bool):cT (Rep.cj c n b)≤1∧(Rep.cj c n b).ch.ar=if b=true then 0 else 1:=by
 have e:∀R:av,R.aI=ou c→R.aK=e9.new c.reads→R.an=bz.new c.gZ→cT R≤1:=by
  intro R h1 h2 h3
  unfold cT eF
  rw[h1,h2,h3,Vv]
  show(0:Int)+0+(0-0)+_≤1
  split<;>decide
 unfold Rep.cj
 split
 ·exact⟨e _ Z Z Z,Z⟩
 ·split<;>exact⟨e _ rfl rfl rfl,rfl⟩
theorem gn.EP{g:Gh}{M:aE}(h:gn g M):e_ M.ch=0∧0<M.ch.ar:=by
 obtain⟨e,q1,q2,q3,q4⟩:=h.at_
 obtain⟨k,kz,_⟩:=h.z
 have he1:1≤e:=h.gi.fY.pos (by rw[←q4] at kz;exact kz)
 exact⟨zi.2 (h.gi.fY.ok e _ q2 he1),by omega⟩
theorem Q4{C:al}(hc:C.cP=bI C.cP)(hv:e_ C.au.ch=0)(h1:0<C.au.ch.ar)(n:Int):(C.back n).wg≤C.wg+11:=by
 unfold al.back
 split
 ·rename_i hu
  have hf:=CA hc n true
  obtain⟨w1,w2⟩:=L0 C.cP n true
  rw[if_pos rfl] at w2
  generalize Rep.cj C.cP n true=R at hf w1 w2
  have hn:0≤n∧C.nodes[n.toNat]?=some none:=by
   unfold al.jr at hu
   split at hu
   ·cases hu
   ·rename_i h2
    split at hu
    ·rename_i h3
     have hlt:n.toNat<C.nodes.length:=by omega
     refine⟨by omega,?_⟩
     unfold al.node at h3
     rw[if_neg yd,GE hlt] at h3
     rw[GE hlt]
     cases hx:C.nodes[n.toNat] with
     | none=>rfl
     | some x=>rw[hx] at h3;cases h3
    ·cases hu
  have ef:l8 (iF C.au.ch) C.au.ch.ms=C.au.ch:=rfl
  have er:ct R 16 (iF C.au.ch) C.au.ch.ms C.now=iI R C.au.ch:=by
   unfold ct
   rw[if_neg (show ¬(iF C.au.ch).kind=1 from fun e0=>by cases e0),if_pos (show(iF C.au.ch).kind=8 from rfl),ef,if_pos ⟨⟨rfl,hv⟩,by show R.ch.ar<C.au.ch.ar;omega⟩]
  rw[er]
  have key:=Kd hf.ok (c:=C.au.ch) ⟨by have:=zg hv;omega⟩ hf.dL hf.fO C.au.top
  have ht:C.au.top≤C.au.ch.ar+1:=by
   have:=(zp C.au).2
   unfold aE.top
   omega
  have hp:=rB (C.setNode n (some (iI R C.au.ch).1)) n (ek (iI R C.au.ch).2)
  rw[Af] at hp
  have hs:(C.setNode n (some (iI R C.au.ch).1)).wg=C.wg+eP C.au.top (iI R C.au.ch).1:=by
   have:=Cz C.au.top (some (iI R C.au.ch).1) hn.2
   show C.aB.wg+eT C.au.top (C.nodes.set n.toNat (some (iI R C.au.ch).1))+fP C.bg+C.au.wg=C.aB.wg+eT C.au.top C.nodes+fP C.bg+C.au.wg+_
   rw[this]
   show _+(_-0+eP C.au.top (iI R C.au.ch).1)+_+_=_
   omega
  dsimp only
  omega
 ·omega
theorem T0{C:al}{g:Gh}(h:cO C g)(hF:tF C)(hc:C.cP=bI C.cP)(n:Int):(C.join n).1.wg≤C.wg+5*C.nodes.length+17:=by
 unfold al.join
 dsimp only
 split
 ·show C.wg≤_;omega
 ·rename_i hj
  have hj:(C.au.join n C.now).2.2=0:=by omega
  unfold aE.join at hj ⊢
  split at hj
  ·cases hj
  split at hj
  ·rename_i h1;exact absurd hj h1
  rename_i h1 h2
  rw[if_neg h1,if_neg h2]
  have h2:(e8 C.au.ch n).2=0:=by omega
  obtain⟨k1,k2,k3⟩:=h.m.fC C.now h2
  obtain⟨v1,v2⟩:=k1.EP
  have hw:=(xJ h2).2.2.2
  have e1:(C.au.fC n C.now).ch.ar=C.au.ch.ar+1:=by
   show(e8 C.au.ch n).1.ar=_
   rw[hw]
  have e2:(C.au.fC n C.now).ch.drain=C.au.ch.drain:=by
   show(e8 C.au.ch n).1.drain=_
   rw[hw]
  have e3:kl (C.au.fC n C.now)=kl C.au:=by unfold kl;rw[e2]
  have a1:=Cq (C:=C) (m:=C.au.fC n C.now) 1 (by unfold aE.top;omega) yo []
  have a2:=Q4 (C:=({ C with au:=C.au.fC n C.now }:al)) hc v1 v2 n
  have a3:=yZ (m:=C.au.fC n C.now) hF.m
  have a4:=rB (({ C with au:=C.au.fC n C.now }:al).back n) 16 (C.au.fC n C.now).all
  have e4:(C.au.fC n C.now).wg=C.au.wg:=by unfold aE.wg;rw[e3]
  have e5:(({ C with au:=C.au.fC n C.now }:al).post 16 []).wg=({ C with au:=C.au.fC n C.now }:al).wg:=rfl
  have e6:wS []=0:=rfl
  dsimp only at a2 a4 ⊢
  omega
end Cl
namespace Cl
open Go Vg T Api Ch Rep Conf Lg Rd Win Kv Adm Sched
structure gd(k:Nat)(C:al):Prop where
 Da:∃g,cO C g
 seq:cX k C
 wY:nU C.aB
 nl:C.nodes.length≤4
 cl:C.bg.length≤3
namespace gd
variable {k b e:Nat} {C:al}
theorem fit(h:gd k C)(ok:C.Ok b e):tF C:=⟨ok.fit,by have:=h.nl;omega,ok.au.n1⟩
theorem Ny(h:gd k C)(ok:C.Ok b e)(hb:b<99000)(he:e<899000)(s:cB):gd (k+if s.kind=1 then 1 else 0) (C.bf s).1:=by
 obtain⟨g,hg⟩:=h.Da
 have ok2:=ok.bf yd yd s
 have hk:=(EZ (C:=C) s).1
 refine⟨hg.bf s,?_,?_,?_,?_⟩
 ·have:=h.seq.bf s
  by_cases k1:s.kind=1
  ·rw[if_pos k1] at this ⊢
   exact this
  ·rw[if_neg k1] at this ⊢
   rwa[uI] at this
 ·exact X_ ok.aB h.wY s
 ·rw[ok2.nl,hk,←ok.nl];exact h.nl
 ·rw[ok2.cl,hk,←ok.cl];exact h.cl
theorem AH(h:gd k C)(ok:C.Ok b e)(hb:b<99000)(he:e<899000){s:cB}(hs:s.kind≠1):gd k (C.bf s).1:=by
 have:=h.Ny ok hb he s
 rwa[if_neg hs] at this
theorem w0(h:gd k C)(ok:C.Ok b e):C.aB.wg≤C.wg∧0≤C.wg:=by
 obtain⟨g,hg⟩:=h.Da
 exact⟨hg.UM (h.fit ok),al.w_0 fun R hR=>⟨((h.fit ok).n R hR).ok,hg.E_ hR⟩⟩
theorem UF(h:gd k C){R:av}(hR:some R∈C.nodes):(R.log.length:Int)≤k:=h.seq.UD hR
theorem Mi(h:gd k C)(ok:C.Ok b e)(hb:b<99000)(he:e<899000){s:cB}(hs:s.kind=2):(C.bf s).1.W≤C.W+(if s.a<4 then 3*k else 0)∧(C.bf s).1.W-(C.bf s).1.aB.n≤C.W-C.aB.n+(if s.a<4 then 2*k else 0):=by
 have h2:=h.AH ok hb he (s:=s) yd
 have hl:=h.nl
 have e1:(C.bf s).1.W=(C.step s).1.W:=rfl
 have e2:(C.bf s).1.aB=(C.step s).1.aB:=rfl
 have hlogs:∀R,some R∈(C.step s).1.nodes→(R.log.length:Int)≤k:=fun R hR=>h2.UF hR
 rw[e1,e2]
 clear e1 e2 h2
 rw[vz C hs] at hlogs ⊢
 cases hn:C.node s.a with
 | none=>
  dsimp only
  split<;>omega
 | some R=>
  rw[hn] at hlogs
  dsimp only at hlogs ⊢
  obtain⟨a0,a1⟩:=Ae hn
  have hlt:s.a.toNat<C.nodes.length:=(bY.1 a1).1
  rw[if_pos yd,if_pos yd]
  have hg:=hlogs (dx R C.now).1 (by
   show _∈C.nodes.set s.a.toNat (some (dx R C.now).1)
   exact ME (iM hlt))
  have hF:=(h.fit ok).n R (ME a1)
  have u1:=X7 hF.ok C.now C.au.top
  have u2:=X6 hF.ok C.now C.au.top
  have s1:=G7 hn (dx R C.now).1
  have s2:=rB (C.setNode s.a (some (dx R C.now).1)) s.a (ek (dx R C.now).2)
  have s3:=My s.a (ek (dx R C.now).2) C.aB
  rw[Af] at s2 s3
  have s4:(ek (dx R C.now).2).length=(dx R C.now).2.length:=by unfold ek;rw[cW]
  rw[s4] at s3
  have e3:((C.setNode s.a (some (dx R C.now).1)).post s.a (ek (dx R C.now).2)).wg=(bD s.a C.aB (ek (dx R C.now).2)).wg+eT C.au.top (C.nodes.set s.a.toNat (some (dx R C.now).1))+fP C.bg+C.au.wg:=rfl
  have e4:(C.setNode s.a (some (dx R C.now).1)).wg=C.aB.wg+eT C.au.top (C.nodes.set s.a.toNat (some (dx R C.now).1))+fP C.bg+C.au.wg:=rfl
  refine⟨?_,?_⟩
  ·show((C.setNode s.a (some (dx R C.now).1)).post s.a (ek (dx R C.now).2)).wg+26*(C.au.ch.ms.length:Int)≤C.wg+26*(C.au.ch.ms.length:Int)+_
   omega
  ·show((C.setNode s.a (some (dx R C.now).1)).post s.a (ek (dx R C.now).2)).wg+26*(C.au.ch.ms.length:Int)-(bD s.a C.aB (ek (dx R C.now).2)).n≤C.wg+26*(C.au.ch.ms.length:Int)-C.aB.n+_
   omega
theorem NM(h:gd k C){s:cB}(hs:s.kind=3):(C.bf s).1.W≤C.W+56∧(C.bf s).1.W-(C.bf s).1.aB.n≤C.W-C.aB.n+56:=by
 have h1:=h.nl
 have h2:=h.cl
 have h3:=abn C
 have h4:=(NL C).n
 have e1:(C.bf s).1.W=(C.step s).1.W:=rfl
 have e2:(C.bf s).1.aB=(C.step s).1.aB:=rfl
 rw[e1,e2,vA C hs]
 have e3:C.tick.W=C.tick.wg+26*(C.au.ch.ms.length:Int):=by
  show C.tick.wg+26*(C.tick.au.ch.ms.length:Int)=_
  rw[Hf]
 have e4:C.W=C.wg+26*(C.au.ch.ms.length:Int):=rfl
 dsimp only
 omega
theorem Of(h:gd k C)(ok:C.Ok b e){s:cB}(hs:s.kind=11):(C.bf s).1.W≤C.W∧(C.aB.aX=[]→(∀x∈(C.bf s).1.aB.aX,x.1.1=16)∧((C.bf s).1.aB.aX≠[]→C.au.ch.ar+1≤(C.bf s).1.au.ch.ar)):=by
 have h1:=h.nl
 obtain⟨a,b,c,d⟩:=Hn (bA C.now) C.au.ch.ms (C.au,false)
 have w2:=(Og (bA C.now) C.au.ch.ms (C.au,false)).2
 have e1:(C.bf s).1.W=(C.step s).1.W:=rfl
 have e2:(C.bf s).1.aB=(C.step s).1.aB:=rfl
 have e3:(C.bf s).1.au=(C.step s).1.au:=rfl
 rw[e1,e2,e3,vy C hs]
 dsimp only
 have hm:=Cq (C:=C) (m:=(C.au.tick C.now).1) (C.au.ch.ms.length-(C.au.tick C.now).1.ch.ms.length:Nat) (by
  show(aE.watch (bA C.now) C.au.ch.ms (C.au,false)).1.top≤C.au.top+((C.au.ch.ms.length-(aE.watch (bA C.now) C.au.ch.ms (C.au,false)).1.ch.ms.length:Nat):Int)
  dsimp only at a b
  omega) yd (C.au.tick C.now).2
 have hms:(C.au.tick C.now).1.ch.ms.length≤C.au.ch.ms.length:=b
 have hw:(C.au.tick C.now).1.wg≤C.au.wg:=w2.1
 have hs2:(C.au.tick C.now).2=[]∨(wS (C.au.tick C.now).2≤6∧(C.au.tick C.now).1.ch.ms.length+1≤C.au.ch.ms.length∧C.au.ch.ar+1≤(C.au.tick C.now).1.ch.ar):=by
  unfold aE.tick
  dsimp only
  split
  ·rename_i hf
   rcases d hf with g | g
   ·cases g
   ·exact .inr ⟨yZ (by rw[w2.2];exact ok.au.n1),g⟩
  ·exact .inl rfl
 generalize hD:C.au.ch.ms.length-(C.au.tick C.now).1.ch.ms.length=D at hm
 have hmul:5*(D:Int)*C.nodes.length≤20*D:=by
  have:5*(D:Int)*(C.nodes.length:Int)≤5*(D:Int)*4:=Int.mul_le_mul_of_nonneg_left yd yd
  omega
 refine⟨?_,fun hl=>⟨Mx 16 _ fun x hx=>?_,fun hne=>?_⟩⟩
 ·show(({ C with au:=(C.au.tick C.now).1 }:al).post 16 (C.au.tick C.now).2).wg+26*((C.au.tick C.now).1.ch.ms.length:Int)≤C.wg+26*(C.au.ch.ms.length:Int)
  rcases hs2 with e | e
  ·rw[e] at hm ⊢
   have e6:wS []=0:=rfl
   omega
  ·omega
 ·have hx:x∈C.aB.aX:=hx
  rw[hl] at hx;cases hx
 ·rcases hs2 with e | e
  ·rw[e] at hne
   exact absurd hl hne
  ·exact e.2.2
theorem cost(h:gd k C)(ok:C.Ok b e)(hb:b<99000)(he:e<899000)(s:cB):(C.bf s).1.W≤C.W+(if s.kind=1 then 8 else max 64 (3*k)):=by
 obtain⟨g,hg⟩:=h.Da
 have hF:=h.fit ok
 have hl:=h.nl
 have hcl:=h.cl
 have e1:(C.bf s).1.W=(C.step s).1.W:=rfl
 have eW:C.W=C.wg+26*(C.au.ch.ms.length:Int):=rfl
 have hmv:=(xx C s).1.ms
 have eS:(C.step s).1.W=(C.step s).1.wg+26*((C.step s).1.au.ch.ms.length:Int):=rfl
 by_cases k1:s.kind=1
 ·rw[if_pos k1]
  rw[if_neg yd] at hmv
  have:(C.step s).1.wg≤C.wg+8:=by rw[vw C k1];exact Rr s
  omega
 rw[if_neg k1]
 by_cases k2:s.kind=2
 ·have:=(h.Mi ok hb he k2).1
  split at this<;>omega
 by_cases k3:s.kind=3
 ·have:=(h.NM k3).1
  omega
 by_cases iS:s.kind=11
 ·have:=(h.Of ok iS).1
  omega
 by_cases k9:s.kind=9
 ·rw[if_pos k9] at hmv
  have:(C.step s).1.wg≤C.wg+5*C.nodes.length+17:=by rw[vF C k9];exact T0 hg hF ok.cf s.a
  omega
 rw[if_neg k9] at hmv
 have key:(C.step s).1.wg≤C.wg+52:=by
  by_cases k4:s.kind=4
  ·rw[ur C k4]
   cases hf:C.aB.find (s.a,s.b) s.c with
   | none=>
    unfold al.fj
    rw[hf]
    dsimp only
    omega
   | some t=>
    have hp:(s.a,s.b).1≠(s.a,s.b).2:=by
     unfold aT.find at hf
     split at hf
     ·cases hf
     unfold aT.list at hf
     cases hg:bF C.aB.aX (s.a,s.b) with
     | none=>rw[hg] at hf;cases hf
     | some l=>exact(h.wY _ l hg).1
    have:=J4 hF (p:=(s.a,s.b)) (fun e1 e2=>hp (by rw[e2];exact e1.symm)) hf
    omega
  by_cases k5:s.kind=5
  ·rw[vB C k5]
   have:=Sq C (s.a,s.b) s.c
   dsimp only at this ⊢
   omega
  by_cases k6:s.kind=6
  ·rw[vC C k6]
   have:=Sk C (s.a,s.b) s.c
   dsimp only at this ⊢
   omega
  by_cases k7:s.kind=7
  ·rw[vD C k7]
   split
   ·dsimp only;omega
   ·rename_i hu
    obtain⟨_,R,_,_,hR⟩:=Dq (C:=C) (n:=s.a) yd
    have:=hg.R0 hF hR
    dsimp only at this ⊢
    omega
  by_cases k8:s.kind=8
  ·rw[vE C k8]
   have:=Yo hF s.a
   dsimp only at this ⊢
   omega
  by_cases k10:s.kind=10
  ·rw[vx C k10]
   have:=Sn hF s.a
   dsimp only at this ⊢
   omega
  ·rw[vG C fun j h1 h2=>by
    rcases(by omega:j=1∨j=2∨j=3∨j=4∨j=5∨j=6∨j=7∨j=8∨j=9∨j=10∨j=11) with rfl | rfl | rfl | rfl | rfl | rfl | rfl | rfl | rfl | rfl | rfl<;>assumption]
   dsimp only
   omega
 omega
theorem new{F:bh}(hF:F=bI F)(n4:F.nodes≤4)(c3:F.bC≤3):gd 0 (mO F)∧(mO F).W≤110:=by
 have hb:=lX hF
 have hnl:(mO F).nodes.length≤4:=by
  show((List.range F.nodes.toNat).map fun(n:Nat)=>some (Rep.cj F n false)).length≤4
  rw[cW,tr];omega
 refine⟨⟨⟨_,cO.new hF⟩,cX.new F,fun p l hl=>(by cases hl),hnl,?_⟩,?_⟩
 ·show((List.range F.bC.toNat).map fun(n:Nat)=>mh F n).length≤3
  rw[cW,tr];omega
 ·have h1:∀l:List Nat,eT 1 (l.map fun(n:Nat)=>some (Rep.cj F n false))≤l.length:=by
   intro l
   induction l with
   | nil=>exact cd _
   | cons n l ih=>
    obtain⟨w1,w2⟩:=L0 F n false
    rw[if_neg yo] at w2
    rw[gA]
    show(cT (Rep.cj F n false)+5*(1-(Rep.cj F n false).ch.ar))+eT 1 (l.map fun(n:Nat)=>some (Rep.cj F n false))≤_
    rw[w2,iA]
    push_cast
    omega
  have h2:∀l:List Nat,fP (l.map fun(n:Nat)=>mh F n)=0:=by
   intro l
   induction l with
   | nil=>rfl
   | cons n l ih=>
    rw[gA]
    show uf 0+fP (l.map fun(n:Nat)=>mh F n)=0
    rw[ih];rfl
  have h3:=h1 (List.range F.nodes.toNat)
  have h4:=h2 (List.range F.bC.toNat)
  rw[tr] at h3
  have h5:(jj F.chain.toNat).length=F.chain.toNat:=by unfold jj;simp
  show(0:Int)+eT 1 ((List.range F.nodes.toNat).map fun(n:Nat)=>some (Rep.cj F n false))+fP ((List.range F.bC.toNat).map fun(n:Nat)=>mh F n)+6*0+26*((jj F.chain.toNat).length:Int)≤110
  rw[h4,h5]
  omega
end gd
end Cl
namespace Cl
open Go Vg T Api Ch Rep Conf Lg Rd Win Kv Adm Sched
section
variable {k b e:Nat} {C0 C:al} {m0 m:Int}
theorem gd.Se(h:gd k C)(ok:C.Ok b e)(hb:b<99000)(he:e<899000){p:bj}(hp:p∈C.aB.aX.map Prod.fst):
  gd k (C.bf (fF p)).1∧(C.bf (fF p)).1.W+1≤C.W∧(C.bf (fF p)).1.W-(C.bf (fF p)).1.aB.n≤C.W-C.aB.n∧C.au.ch.ar≤(C.bf (fF p)).1.au.ch.ar∧(C.bf (fF p)).1.now=C.now:=by
 obtain⟨t,ht,hne⟩:=h.wY.SX hp
 obtain⟨mv,hn⟩:=xx C (fF p)
 rw[if_neg (by show(4:Int)≠9;decide)] at mv
 rw[if_neg (by show(4:Int)≠3;decide)] at hn
 have hs:C.step (fF p)=C.fj p 0:=ur C rfl
 have e1:(C.bf (fF p)).1.W=(C.step (fF p)).1.W:=rfl
 have e2:(C.bf (fF p)).1.aB=(C.step (fF p)).1.aB:=rfl
 have h1:=J4 (h.fit ok) (p:=p) (fun e1 e2=>hne (by rw[e1,e2])) ht
 have h2:=(J2 C ht).n
 have h3:=ach ht
 have h4:=mv.ms
 have e3:(C.step (fF p)).1.W=(C.step (fF p)).1.wg+26*((C.step (fF p)).1.au.ch.ms.length:Int):=rfl
 have e4:C.W=C.wg+26*(C.au.ch.ms.length:Int):=rfl
 refine⟨h.AH ok hb he (by show(4:Int)≠1;decide),?_,?_,mv.ep,hn⟩
 ·rw[e1,e3]
  rw[hs] at h4 ⊢
  omega
 ·rw[e1,e2,e3]
  rw[hs] at h4 ⊢
  omega
theorem jx.fe(h0:gd k C0)(ok:C0.Ok b e)(hb:b<90000)(he:e<800000):∀{j:Nat} {C:al} {m:Int},jx C0 m0 j C m→j≤4096 →
  gd k C∧C.W+j≤C0.W∧C.W-C.aB.n≤C0.W-C0.aB.n∧C0.au.ch.ar≤C.au.ch.ar∧C.now=C0.now
 | _,_,_,.nil,_=>⟨h0,by omega,by omega,by omega,rfl⟩
 | _,_,_,.snoc (k:=j) (C:=C) p hp,hj=>by
  obtain⟨a1,a2,a3,a4,a5⟩:=jx.fe h0 ok hb he p yd
  have ok2:=p.ok ok hb he yd
  obtain⟨b1,b2,b3,b4,b5⟩:=a1.Se ok2 yd yd hp
  exact⟨b1,by push_cast;omega,by omega,by omega,b5.trans a5⟩
theorem gd.W0(h:gd k C)(ok:C.Ok b e):0≤C.W:=by
 have:=(h.w0 ok).2
 show 0≤C.wg+26*(C.au.ch.ms.length:Int)
 omega
theorem nS.fe(h0:gd k C0)(ok:C0.Ok b e)(hb:b<90000)(he:e<800000)(hW:C0.W≤4095)(d:nS C0 m0 C m):
  gd k C∧C.aB.aX=[]∧C.W≤C0.W-C0.aB.n∧C0.au.ch.ar≤C.au.ch.ar∧C.now=C0.now:=by
 obtain⟨j,hj,p,hd⟩:=d
 obtain⟨a1,a2,a3,a4,a5⟩:=p.fe h0 ok hb he hj
 have hW0:=a1.W0 (p.ok ok hb he hj)
 have hm:C.aB.aX=[]:=by
  rcases hd with hd | hd
  ·omega
  ·exact hd
 have hn:C.aB.n=0:=by unfold aT.n;rw[hm];rfl
 exact⟨a1,hm,by omega,a4,a5⟩
def four(n:Nat):Nat:=if n≤4 then n else 4
theorem Nz(h:gd k C)(ok:C.Ok b e)(hb:b<90000)(he:e<800000):∀n:Nat,n≤6 →
  gd k (my n C)∧(my n C).W≤C.W+3*(k*four n:Nat)∧(my n C).W-(my n C).aB.n≤C.W-C.aB.n+2*(k*four n:Nat)∧C.au.ch.ar≤(my n C).au.ch.ar∧(my n C).now=C.now
 | 0,_=>⟨h,by show C.W≤C.W+3*((k*0:Nat):Int);omega,by show C.W-C.aB.n≤C.W-C.aB.n+2*((k*0:Nat):Int);omega,cd _,rfl⟩
 | n+1,hn=>by
  obtain⟨a1,a2,a3,a4,a5⟩:=Nz h ok hb he n yd
  have ok2:=xy ok hb he n yd
  have s1:=a1.Mi ok2 yd yd (s:=fh 2 n 0) rfl
  obtain⟨mv,hno⟩:=xx (my n C) (fh 2 n 0)
  rw[if_neg (by show(2:Int)≠3;decide)] at hno
  have hf:((k*four (n+1):Nat):Int)=(k*four n:Nat)+(if ((n:Nat):Int)<4 then (k:Int) else 0):=by
   unfold four
   by_cases h4:n<4
   ·rw[if_pos (show n+1≤4 by omega),if_pos (show n≤4 by omega),if_pos (show(n:Int)<4 by omega),Nat.mul_succ]
    push_cast;rfl
   ·rw[if_neg (show ¬n+1≤4 by omega),if_neg (show ¬(n:Int)<4 by omega)]
    have:(if n≤4 then n else 4)=4:=by split<;>omega
    rw[this]
    omega
  have ea:(fh 2 (n:Int) 0).a=n:=rfl
  rw[ea] at s1
  refine⟨a1.AH ok2 yd yd (by show(2:Int)≠1;decide),?_,?_,uJ a4 mv.ep,hno.trans a5⟩
  ·show((my n C).bf (fh 2 n 0)).1.W≤_
   rw[hf]
   split at s1<;>omega
  ·show((my n C).bf (fh 2 n 0)).1.W-((my n C).bf (fh 2 n 0)).1.aB.n≤_
   rw[hf]
   split at s1<;>omega
theorem U_(h:gd k C)(ok:C.Ok b e)(hb:b<80000)(he:e<700000)(hm:C.aB.aX=[]):
  gd k (oQ C)∧(oQ C).W≤C.W+56+12*k∧(oQ C).W-(oQ C).aB.n≤C.W+56+8*k∧C.au.ch.ar≤(oQ C).au.ch.ar∧(oQ C).now=min (C.now+1) 1099511627776∧(oQ C).Ok (b+10) (e+100):=by
 have hn:C.aB.n=0:=by unfold aT.n;rw[hm];rfl
 have t1:=h.AH ok yd yd (s:=fh 3 0 0) (by show(3:Int)≠1;decide)
 obtain⟨t2,t3⟩:=h.NM (s:=fh 3 0 0) rfl
 obtain⟨mv,t4⟩:=xx C (fh 3 0 0)
 rw[if_pos (show(fh 3 0 0).kind=3 from rfl)] at t4
 have okT:=(ok.bf yd yd (fh 3 0 0)).mono (b':=b+1) (e':=e+7) yd yd
 have t5:C.au.ch.ar≤(C.bf (fh 3 0 0)).1.au.ch.ar:=mv.ep
 have t6:(C.bf (fh 3 0 0)).1.now=min (C.now+1) 1099511627776:=t4
 have hmid:oQ C=my 6 (C.bf (fh 3 0 0)).1:=rfl
 rw[hmid]
 generalize (C.bf (fh 3 0 0)).1=D at t1 t2 t3 okT t5 t6
 obtain⟨a1,a2,a3,a4,a5⟩:=Nz t1 okT yd yd 6 (NR _)
 have okM:=xy okT yd yd 6 (NR _)
 have ef:four 6=4:=rfl
 rw[ef] at a2 a3
 push_cast at a2 a3
 exact⟨a1,by omega,by omega,by omega,a5.trans t6,okM.mono yd yd⟩
theorem tD.fe(h:gd k C0)(ok:C0.Ok b e)(hb:b<70000)(he:e<600000)(hW:C0.W+56+12*k≤4095)(r:tD C0 C m):
  gd k C∧C.W≤C0.W+56+8*k∧(∀x∈C.aB.aX,x.1.1=16)∧(C.aB.aX≠[]→C0.au.ch.ar<C.au.ch.ar)∧C.now=min (C0.now+1) 1099511627776∧C.Ok (b+8300) (e+58100):=by
 obtain⟨C1,m1,C2,d1,d2,rfl⟩:=r
 obtain⟨a1,a2,a3,a4,a5⟩:=d1.fe h ok yd yd yd
 have hn0:0≤C0.aB.n:=LN _
 have ok1:=d1.ok ok yd yd
 obtain⟨b1,b2,b3,b4,b5,b6⟩:=U_ a1 ok1 yd yd a2
 obtain⟨c1,c2,c3,c4,c5⟩:=d2.fe b1 b6 yd yd yd
 have ok2:=d2.ok b6 yd yd
 obtain⟨w1,w2⟩:=c1.Of ok2 (s:=fh 11 0 0) rfl
 obtain⟨w3,w4⟩:=w2 c2
 obtain⟨mv,hno⟩:=xx C2 (fh 11 0 0)
 rw[if_neg (by show(11:Int)≠3;decide)] at hno
 refine⟨c1.AH ok2 yd yd (by show(11:Int)≠1;decide),by omega,w3,fun hne=>?_,?_,(ok2.bf yd yd _).mono yd yd⟩
 ·have:=w4 hne
  omega
 ·show(C2.step (fh 11 0 0)).1.now=_
  rw[hno,c5,b5,a5]
end
def r9(i:Nat)(C:al):Prop:=∃k j:Nat,k+j=i∧gd k C∧C.W≤((110+8*k+j*max 64 (3*k):Nat):Int)
theorem r9.new{F:bh}(hF:F=bI F)(n4:F.nodes≤4)(c3:F.bC≤3):r9 0 (mO F):=by
 obtain⟨h1,h2⟩:=gd.new hF n4 c3
 exact⟨0,0,Z,h1,by simpa using h2⟩
theorem r9.bf{i b e:Nat}{C:al}(h:r9 i C)(ok:C.Ok b e)(hb:b<99000)(he:e<899000)(s:cB):r9 (i+1) (C.bf s).1:=by
 obtain⟨k,j,hi,hf,hw⟩:=h
 have hc:=hf.cost ok hb he s
 have h2:=hf.Ny ok hb he s
 by_cases k1:s.kind=1
 ·rw[if_pos k1] at hc h2
  refine⟨k+1,j,by omega,h2,?_⟩
  have:j*max 64 (3*k)≤j*max 64 (3*(k+1)):=Nat.mul_le_mul_left _ yd
  omega
 ·rw[if_neg k1] at hc h2
  refine⟨k,j+1,by omega,h2,?_⟩
  have:(j+1)*max 64 (3*k)=j*max 64 (3*k)+max 64 (3*k):=yO ..
  omega
def yS(k r:Nat)(C:al):Prop:=gd k C∧C.W+((r*(56+8*k)+4*k:Nat):Int)≤4095
theorem r9.fin{i:Nat}{C:al}(h:r9 i C)(hi:i≤50):∃k,yS k 5 C:=by
 obtain⟨k,j,hk,hf,hw⟩:=h
 refine⟨k,hf,?_⟩
 have h1:∀k<51,110+8*k+(50-k)*max 64 (3*k)+(5*(56+8*k)+4*k)≤4095:=by decide
 have h2:=h1 k yd
 have h3:j*max 64 (3*k)≤(50-k)*max 64 (3*k):=r7 _ yd
 omega
theorem yS.round{k r b e:Nat}{C0 C:al}{m:Int}(h:yS k (r+1) C0)(ok:C0.Ok b e)(hb:b<70000)(he:e<600000)(d:tD C0 C m):
  yS k r C∧(∀x∈C.aB.aX,x.1.1=16)∧(C.aB.aX≠[]→C0.au.ch.ar<C.au.ch.ar)∧C.now=min (C0.now+1) 1099511627776∧C.Ok (b+8300) (e+58100):=by
 obtain⟨hf,hw⟩:=h
 have e1:(r+1)*(56+8*k)=r*(56+8*k)+(56+8*k):=yO ..
 rw[e1] at hw
 have hr:0≤r*(56+8*k):=bU _
 obtain⟨a1,a2,a3,a4,a5,a6⟩:=d.fe hf ok hb he yd
 exact⟨⟨a1,by omega⟩,a3,a4,a5,a6⟩
theorem Xh{C:al}{g:Gh}(h:cO C g)(hm:∀x∈C.au.ch.ms,0≤x.1)(hr:oU C=true):tI C=true:=by
 unfold oU at hr
 simp only[dN,decide_eq_true_eq,lh] at hr
 obtain⟨k,k1,_⟩:=h.m.z
 unfold tI
 refine Bn.2 ⟨k,k1,?_⟩
 have h1:=hr.2.1 k k1
 unfold ua at h1
 simp only[dN] at h1
 have h2:=hm k k1
 have h3:=hr.1
 rw[h1.1,DF yd]
 rfl
end Cl
namespace Cl
open Go Vg T Api Ch Rep Conf Lg Rd Sched
attribute [local irreducible] VO VC VA
def mn(a b:Int):Int:=if b<a then b else a
def mw(F:bh):bh:=⟨mn F.nodes 4,mn F.chain (mn F.nodes 4),mn F.bC 3,F.qs,F.queue,F.gZ,F.reads,F.link,mn F.fI 8,mn F.timeout 8,mn F.gr 2,mn F.fE 8⟩
theorem XT{F:bh}(h:F=bI F):mw F=bI (mw F):=by
 obtain⟨⟨b1,b2⟩,⟨b3,b4⟩,⟨b5,b6⟩,⟨b7,b8⟩,⟨b9,b10⟩⟩:=lX h
 obtain⟨⟨p1,p2⟩,⟨p3,p4⟩,⟨p5,p6⟩,⟨p7,p8⟩,⟨p9,p10⟩,-⟩:=wH h
 have e1:F.qs=ft F.qs:=congrArg bh.qs h
 have e2:F.queue=aG F.queue 1 16:=congrArg bh.queue h
 have e3:F.gZ=aG F.gZ 1 16:=congrArg bh.gZ h
 have e4:F.reads=aG F.reads 1 16:=congrArg bh.reads h
 have e5:F.link=aG F.link 4 64:=congrArg bh.link h
 have en:aG (mn F.nodes 4) 1 6=mn F.nodes 4:=by
  apply uc<;>unfold mn<;>split<;>omega
 apply JV
 ·exact en.symm
 ·show mn F.chain (mn F.nodes 4)=aG (mn F.chain (mn F.nodes 4)) 1 (aG (mn F.nodes 4) 1 6)
  rw[en]
  symm
  apply uc<;>unfold mn<;>repeat' split
  all_goals omega
 ·symm;apply uc<;>show _≤_<;>unfold mw mn<;>dsimp only<;>split<;>omega
 ·exact e1
 ·exact e2
 ·exact e3
 ·exact e4
 ·exact e5
 ·symm;apply uc<;>show _≤_<;>unfold mw mn<;>dsimp only<;>split<;>omega
 ·symm;apply uc<;>show _≤_<;>unfold mw mn<;>dsimp only<;>split<;>omega
 ·symm;apply uc<;>show _≤_<;>unfold mw mn<;>dsimp only<;>split<;>omega
 ·symm;apply uc<;>show _≤_<;>unfold mw mn<;>dsimp only<;>split<;>omega
theorem XU(c:bh)(a:Option Addr)(cap:Nat)(hq:iD Fr w a c.qs):az Tryz.prog 7 [.agg (c.cells a cap).toArray] Fr w []
  (fun v L=>∃a' cap',oG a'∧(mw (bI c)).qs.length≤cap'∧v=.agg ((mw (bI c)).cells a' cap').toArray∧L=[lG a' cap' (mw (bI c)).qs]):=by
 refine TF 36 Tryz.func7 Z ym aD Z Z ?_
 refine CS (CG (VG (VB (vs:=c.cells a cap) Z fun b1=>VG (VO.alloc Z fun b2=>?_))))
 refine ae ?_
 refine ux ?_
 refine VG (VK (Lc:=[]) (fun Fr w hF hw hS=>MW Fr w c a cap (oh hq hF hw)) Z Z ?_)
 rintro _ _ ⟨fa,fc,hfa,hfc,rfl,rfl⟩
 generalize bI c=F at hfc
 refine VG (VT (vs:=F.cells fa fc) (cs':=F.cells fa fc) 2 Z Z Z Z (NR _) Z Z Z ?_)
 refine gK ?_
 refine VG (VO.st 2 Z Z Z Z (by show 0<12;decide) Z Z ?_)
 refine gK ?_
 refine VG (VO.st 2 Z Z Z Z (by show 2<12;decide) Z Z ?_)
 refine gK ?_
 refine VG (VO.st 2 Z Z Z Z (by show 1<12;decide) Z Z ?_)
 refine gK ?_
 refine VG (VO.st 2 Z Z Z Z (by show 8<12;decide) Z Z ?_)
 refine gK ?_
 refine VG (VO.st 2 Z Z Z Z (by show 9<12;decide) Z Z ?_)
 refine gK ?_
 refine VG (VO.st 2 Z Z Z Z (by show 11<12;decide) Z Z ?_)
 refine gK ?_
 refine VG (VO.st 2 Z Z Z Z (by show 10<12;decide) Z Z ?_)
 refine ae ?_
 refine VG (VL 2 ((mw F).cells fa fc) Z Z Z Z ?_)
 refine VG (VT (vs:=(mw F).cells fa fc) (cs':=(mw F).cells fa fc) 1 Z Z Z Z (NR _) Z Z Z ?_)
 refine ae ?_
 exact CR (aq.cell 2 Z Z Z (ax.many 1 Z Z) (IP 0 Z aa.nil).ah ⟨fa,fc,hfa,hfc,Z,Z⟩)
end Cl
namespace Cl
open Go Vg T Api Ch Rep Conf Lg Rd Sched
attribute [local irreducible] VO VC VA
theorem KV{X:Cx}{e:Env}{S f:Nat}{x:Operand}{flds:Array Field}{fl:Field}{cs:List Value}{ti:TI}{v:Value}(hS:X.P.underlying S=some (.struct flds))(hf:flds[f]?=some fl)(hx:ev e x=some (.agg cs.toArray))(ht:bS X.tab fl.type=some ti)(ha:ti.aJ.agg=false)(hv:cs[fl.offset]?=some v):
  fN X (.field S x f) e v:=by
 intro ac hac dst ty pos after guard w
 have h:(Instr.field S (.agg cs.toArray) f).run X.P w=.ok v w:=by
  have h1:=rz (P:=X.P) (X.ok.look ht) ha hv w
  unfold Instr.field
  rw[Sem.run_bind,run_underlying hS]
  simp[hf,asAgg,h1]
 simp[execOp,hac.ev hx,h]
theorem SP(c:bh)(ca:Option Addr)(cc:Nat)(hq:iD Fr w ca c.qs)(hcc:c.qs.length≤cc){la:Option Addr}{ap1:Nat}{l:List cB}(hr:aV cB.cells 8 Fr w la l)(hll:l.length≤9223372036854775807):
  az Tryz.prog 3 [.agg (c.cells ca cc).toArray,.slice la l.length ap1] Fr w [] (fun v L=>v=.bool true∧L=[]):=by
 have fin:∀{L:List HP},dq ⟨Tryz.prog,tab,aD,99,Fr,w⟩ L []:=aa.nil.ah
 refine TF 99 Tryz.func3 Z ym aD Z Z ?_
 refine CS (CG (VG (VB (vs:=c.cells ca cc) Z fun b3=>?_)))
 refine aj ?_
 by_cases h20:(20:Int)<c.qs.length
 ·refine VG (VY 17 true Z (DT h20) ?_)
  refine qH ?_
  refine Iv ?_
  exact IQ
 refine VG (VY 17 false Z (DF h20) ?_)
 refine ae ?_
 refine VG (VV (fun Fr w hF hw hS=>TB Fr w (hr.of hF hw) hll 50) Z ?_)
 refine ae ?_
 refine CC Z (fun hg=>?_) (fun hg=>CK ?_)
 ·refine ae ?_
  refine Iv ?_
  exact IQ
 have hl50:l.length≤50:=by
  unfold zH at hg
  simp only[Eh,decide_eq_false_iff_not] at hg
  omega
 refine ae ?_
 refine VG (VL 0 (c.cells ca cc) Z Z Z Z ?_)
 refine VG (VK (Lc:=[]) (fun Fr w hF hw hS=>XU Fr w c ca cc (oh hq hF hw)) Z Z ?_)
 rintro _ _ ⟨fa,fc,hfa,hfc,rfl,rfl⟩
 have hF:=XT (Adm.S_ c)
 have hsm:(mw (bI c)).nodes≤4∧(mw (bI c)).bC≤3:=by
  unfold mw mn
  dsimp only
  refine⟨?_,?_⟩<;>split<;>omega
 generalize mw (bI c)=F at hF hfc hsm
 refine VG (VK (Lc:=[]) (fun Fr w hF' hw hS=>N2 Fr w F (uY (hS.at_ 0 Z)) hfc) Z Z ?_)
 intro v L1 g
 rw[if_pos hF] at g
 obtain⟨p,rfl,rfl⟩:=g
 refine pK ?_
 refine VC.loop (σ:=Nat×al) (fun s=>[(1,.slice la l.length ap1),(5,pV p),(7,.int .i64 (s.1:Int))]) (fun s=>[cV p s.2]) (fun s=>s.1≤l.length∧tE F s.2 s.1∧r9 s.1 s.2∧0≤s.2.now∧s.2.now≤s.1) (fun s=>l.length-s.1) (0,mO F)
  ⟨bU _,tE.new hF,r9.new hF hsm.1 hsm.2,cd _,cd _⟩ aP (IP 0 rfl aa.nil).ah ?_
 rintro⟨i,C⟩ ⟨hi,hRC,hB,hn0,hn1⟩
 dsimp only at hi hRC hB hn0 hn1 ⊢
 refine ae ?_
 refine CP (p:=(i:Int)<l.length) Z (fun h1=>CK ?_) (fun h1=>CX ?_)
 ·have hil:i<l.length:=by omega
  have hx:l[i]?=some l[i]:=GE hil
  generalize l[i]=s at hx
  obtain⟨sb,so,rfl,ra,rc⟩:=aV.rd (X:=⟨Tryz.prog,tab,aD,99,Fr,w⟩) hr hx
  have hno:=(xx C s).2
  refine ae ?_
  refine VG (VI (fp i Z Z Z Z Z Z hil) ?_)
  refine uw ?_
  refine VG (VQ 0 Z (fun Fr w hF' hs hS=>NY Fr w hRC.ok yd yd s) Z (ψ:=fun v H=>v=.int .i64 (C.bf s).2∧H=cV p (C.bf s).1) yy ?_)
  rintro _ _ ⟨rfl,rfl⟩
  refine fL ?_
  have hnow:(C.bf s).1.now=(C.step s).1.now:=rfl
  exact⟨(i+1,(C.bf s).1),⟨hil,hRC.bf yd s,hB.bf hRC.ok yd yd s,by rw[hnow,hno];split<;>omega,by rw[hnow,hno];dsimp only;split<;>omega⟩,by dsimp only;omega,SC Z (SC Z (Sub.int Z f_ (SN _))),ER⟩
 obtain⟨k,hRd⟩:=hB.fin yd
 refine ae ?_
 refine VC.loop (σ:=Nat×al) (fun s=>[(5,pV p),(8,.int .i64 (s.1:Int))]) (fun s=>[cV p s.2]) (fun s=>s.1≤5∧yS k (5-s.1) s.2∧s.2.Ok (60+8300*s.1) (420+58100*s.1)∧0≤s.2.now∧s.2.now≤60+s.1) (fun s=>5-s.1) (0,C)
  ⟨bU _,hRd,hRC.ok.mono yd yd,hn0,by dsimp only;omega⟩ aP ER ?_
 clear hRd hRC hB hn0 hn1 hi
 rintro⟨r,C⟩ ⟨hr5,hRd,ok,hn0,hn1⟩
 dsimp only at hr5 hRd ok hn0 hn1 ⊢
 refine ae ?_
 refine CP (p:=(r:Int)<5) Z (fun h2=>CK ?_) (fun h2=>CX ?_)
 rotate_left
 ·refine ae ?_
  refine Iv ?_
  exact IQ
 rw[show 5-r=(4-r)+1 by omega] at hRd
 refine uv ?_
 refine Be ?_
 rintro y fit
 refine ae ?_
 refine VG (VV (fun Fr w hF' hw hS=>Hj Fr w (y:=y) (C:=C) (hS.aC 0 Z)) Z ?_)
 refine VG (VK (Lc:=[]) (fun Fr w hF' hw hS=>Dt Fr w ok.au (hS.at_ 2 Z)) Z Z ?_)
 rintro _ _ ⟨ma,mc,rfl,rfl⟩
 refine VG (VI (KV Tryz.underlying40 Z Z Z Z Z) ?_)
 refine aw ?_
 refine VO.ah (L':=[cV p C]) (aa.trans aa.tail (nZ (R:=[]) fit)).ah ?_
 refine VG (VV (fun Fr w hF' hw hS=>Hl Fr w (hS.at_ 0 Z)) Z ?_)
 refine ae ?_
 refine VG (VQ 0 Z (fun Fr w hF' hs hS=>MY Fr w ok yd yd) Z (ψ:=fun v H=>∃D m,tD C D m∧v=.int .i64 m∧H=cV p D) (fun v L h=>by
  obtain⟨D,m,h1,h2,h3⟩:=h
  exact⟨_,h3,D,m,h1,h2,Z⟩) ?_)
 rintro _ _ ⟨D,m,hR,rfl,rfl⟩
 obtain⟨hRd2,hfrom,hep,hnow,ok2⟩:=hRd.round ok yd yd hR
 have hcl:=Kk ok2.aB ok2.mH
 refine ae ?_
 refine VG (VK (Lc:=[]) (fun Fr w hF' hw hS=>K_ Fr w ok2.aB (hS.at_ 0 Z)) Z Z ?_)
 rintro _ _ ⟨q,ml,hml,rfl,rfl⟩
 refine VG (VK (Lc:=[]) (fun Fr w hF' hw hS=>La Fr w (S:=⟨D.aB.cap,ml⟩) Qt (hS.at_ 0 Z)) Z Z ?_)
 rintro _ _ ⟨prs,pa,pc,hprs,rfl,rfl⟩
 have hpm:prs.Perm (D.aB.aX.map Prod.fst):=hprs.trans (hml.map _)
 have hplen:prs.length≤100000:=by
  have:=hpm.length_eq
  rw[cW] at this
  omega
 refine ae ?_
 refine CN (L':=[aA kc 2 pa prs.length pc (flat d' prs),cV p D]) (aa.cons aa.tail).ah ?_
 refine VC.bJ 0 Z (ba.rl kc pa pc prs sK) ?_
 rintro⟨xa,xc,xb,xcs,xs⟩ ⟨rok,rv,rx⟩
 dsimp only at rx
 subst rx
 injection rv with e1 _ e3
 subst e1 e3
 refine VC.loop (σ:=Nat) (fun j=>[(5,pV p),(8,.int .i64 (r:Int)),(9,.int .i64 C.au.ch.ar),(10,.int .i64 C.now),(11,.slice xa xs.length xc),(12,.int .i64 (j:Int))]) (fun _=>[RL.h kc ⟨xa,xc,xb,xcs,xs⟩,cV p D]) (fun j=>j≤xs.length) (fun j=>xs.length-j) 0
  (bU _) aP ER ?_
 rintro j hj
 refine ae ?_
 refine CP (p:=(j:Int)<xs.length) Z (fun h3=>CK ?_) (fun h3=>CX ?_)
 rotate_left
 ·refine ae ?_
  refine VG (VV (fun Fr w hF' hw hS=>Hl Fr w (hS.at_ 1 Z)) Z ?_)
  refine fL ?_
  refine VG (VY 82 false Z ye ?_)
  refine aw ?_
  have hra:oU D=true→tI D=true:=by
   obtain⟨g,hg⟩:=hRd2.1.Da
   exact Xh hg fun x hx=>(ok2.au.mr x hx).1
  cases hal:tI D with
  | false=>
   have hre:oU D=false:=by
    cases hre:oU D with
    | false=>rfl
    | true=>rw[hra hre] at hal;cases hal
   refine Bg ?_
   refine aw ?_
   refine Bg ?_
   refine aw ?_
   refine VG (VY 89 false Z Z ?_)
   refine aw ?_
   refine VG (VV (fun Fr w hF' hw hS=>by have:=GO Fr w ok2 (hS.at_ 1 Z);rw[hre] at this;exact this) Z ?_)
   refine aw ?_
   refine VG (VY 92 false Z Z ?_)
   refine kh ?_
   refine fL ?_
   exact Iw
  | true=>
   refine Bg ?_
   refine aw ?_
   refine Bg ?_
   refine aw ?_
   refine VG (VY 89 false Z Z ?_)
   refine aw ?_
   refine VG (VV (fun Fr w hF' hw hS=>GO Fr w ok2 (hS.at_ 1 Z)) Z ?_)
   refine aw ?_
   cases hre:oU D with
   | true=>
    refine VG (VY 92 true Z Z ?_)
    refine aw ?_
    refine Bg ?_
    refine kh ?_
    refine fL ?_
    exact Iw
   | false=>
    refine VG (VY 92 false Z Z ?_)
    refine kh ?_
    refine fL ?_
    exact Iw
 have hjl:j<xs.length:=by omega
 have hxp:xs[j]?=some xs[j]:=GE hjl
 have hpin:xs[j]∈D.aB.aX.map Prod.fst:=hpm.mem_iff.1 (yL hjl)
 generalize xs[j]=pr at hxp hpin
 obtain⟨x,hx,hx1⟩:=bP.1 hpin
 have h16:pr.1=16:=by rw[←hx1];exact hfrom x hx
 have hlt:=hep (List.ne_nil_of_mem hx)
 obtain⟨tb',tof,htb,hta,hrd⟩:=RL.Ok.ld (t:=kc) (k:=j) (x:=pr) rok hxp (sK pr)
 dsimp only at hta
 subst hta
 refine ae ?_
 refine VG (VI (fp j Z Z Z Z Z Z hjl) ?_)
 refine VG (VI (kq 0 Z Z Z Z Z Z yo) ?_)
 refine VG (VO.load Z Z ((hrd 0 Z).2 _ 0 (.int .i64 pr.1) Z Z) ?_)
 rw[h16]
 refine ae ?_
 refine VG (VY 69 false Z Z ?_)
 refine VO.ah (L':=[cV p D,RL.h kc ⟨some ⟨tb',tof,none⟩,xc,xb,xcs,xs⟩]) (aa.perm (List.Perm.swap _ _ _)).ah ?_
 refine VG (VO.bJ 0 Z (ba.sn p D) ?_)
 rintro y2 fit2
 refine aw ?_
 refine VG (VV (fun Fr w hF' hw hS=>Hj Fr w (y:=y2) (C:=D) (hS.aC 0 Z)) Z ?_)
 refine aw ?_
 refine VG (VK (Lc:=[]) (fun Fr w hF' hw hS=>Dt Fr w ok2.au (hS.at_ 2 Z)) Z Z ?_)
 rintro _ _ ⟨ma2,mc2,rfl,rfl⟩
 refine VG (VI (KV Tryz.underlying40 Z Z Z Z Z) ?_)
 refine aw ?_
 refine CE Z (fun h=>absurd h yd) (fun _=>CK ?_)
 refine fL ?_
 exact⟨j+1,hjl,by dsimp only;omega,SC Z (SC Z (SC Z (SC Z (SC Z (Sub.int Z yd (SN _)))))),(aa.trans aa.tail (aa.trans (aa.app (L:=eY p D y2) (M:=[cV p D]) (aa.trans (aa.of_eq (bK _).symm) (nZ (R:=[]) fit2)) (aa.refl (L:=[RL.h kc ⟨some ⟨tb',tof,none⟩,xc,xb,xcs,xs⟩]))) (aa.perm (List.Perm.swap _ _ _)))).ah⟩
end Cl
namespace Vg
open Go Go.ChangeShapes Go.WideShapes Go.ChangeAt Go.RowKit
theorem NT{H:Type}{enc:TypeId×Value→H}{P:Program}(hl:laidOutB P=true){W W':World}(hb:Below W.heap.size W W'):
  ∀{ts:List TypeId} {vs:List Value} {ds:List (DataW H)} {ps:List MemPlace},(∀t∈ts,P.readableRec t=true∧t<P.types.size) →
   DataW.TrodAll enc P W 0 (fun _=>true) true ts vs ds ps→DataW.TrodAll enc P W' 0 (fun b=>decide (b<W.heap.size)) true ts vs ds ps
 | [],vs,ds,ps,_,h=>by
  obtain⟨rfl,rfl,rfl⟩:=trodAll_nil h
  exact trodAll_mk0
 | t::ts,vs,ds,ps,ht,h=>by
  obtain⟨v,vs',d,ds',p,q,rfl,rfl,rfl,h0,r0⟩:=trodAll_cons h
  have lt0:∀x∈p,x.block<W.heap.size:=by obtain⟨m,hm⟩:=h0;exact DataW.trod_lt m _ _ _ hm
  have h1:=ht t yf
  exact trodAll_cons_mk (Below.trod hl h1.1 h1.2 h0 hb lt0) (NT hl hb (fun t h=>ht t ya) r0)
theorem NU{H:Type}{enc:TypeId×Value→H}{P:Program}{W:World}{b:Nat}{sp:Nat→Bool}{hd:Bool}:
  ∀{ts:List TypeId} {vs:List Value} {ds:List (DataW H)} {ps:List MemPlace},DataW.TrodAll enc P W b sp hd ts vs ds ps→ds.length=ts.length
 | [],vs,ds,ps,h=>by
  obtain⟨rfl,rfl,rfl⟩:=trodAll_nil h
  rfl
 | t::ts,vs,ds,ps,h=>by
  obtain⟨v,vs',d,ds',p,q,rfl,rfl,rfl,h0,r0⟩:=trodAll_cons h
  simp[NU r0]
theorem Uh{H:Type}{enc:TypeId×Value→H}{P:Program}{f:Func}{s:ChangeSpec}(hl:laidOutB P=true)(hts:∀t∈f.params.toList,P.readableRec t=true∧t<P.types.size)
  (hv:s.vars=[]) {tb:TypeId} (hres:f.resultTypes=#[tb]) (hbool:P.underlying tb=some .bool)
  (hfn:∀ds:List (DataW H),ds.length=f.params.toList.length→s.fn H (ds ++ [])={ results:=[.lit (.bool true)],args:=ds })
  {W W':World} {args:Array Value} {ds gs:List (DataW H)} {before:List MemPlace} (hW:DataW.Whole enc P f.params.toList s.vars false W args.toList ds gs before) (bel:Below W.heap.size W W'):
  s.post enc P f false true false false W args (.bool true) W':=by
 have hW':=hW
 obtain⟨p,q,hA,hV,rfl,_,_⟩:=hW
 rw[hv] at hV
 obtain⟨rfl,rfl⟩:=trodVars_none hV
 have e:=hfn ds (NU hA)
 refine⟨ds,[],p ++ [],[],p,[],hW',?_,?_,?_,bel.frame _,fun h=>by cases h⟩
 ·rw[e,hres];exact trodAll_mk1 (shut_bool hbool _)
 ·rw[e];exact NT hl bel hts hA
 ·rw[e,hv];rfl
theorem Ui{H:Type}{enc:TypeId×Value→H}{C:Checked}{os:Os}{f:FuncId}{fn:Func}{s:ChangeSpec}{conds:List PathCond}
  (own:ownKnob C.prog.godebug=none) (started:os.Started) (noInit:C.prog.inits.idxOf? f=none) (hfn:C.prog.funcs[f]?=some fn)
  (witness:∃(w:World) (tape:Tape) (i:Input),w.os=os∧(w.forCall tape i).Shaped C.prog∧i.vars=[]∧Input.okWide C.prog (w.forCall tape i) .any w.heap.size f i ∧
   s.pre6 enc C.prog fn conds false (w.forCall tape i).memory i.args∧({}:Assume).holds C.prog (lone (Frame.enter C.prog f i.args .normal) [] (w.forCall tape i)))
  (hl:laidOutB C.prog=true) (hts:∀t∈fn.params.toList,C.prog.readableRec t=true∧t<C.prog.types.size)
  (hv:s.vars=[]) {tb:TypeId} (hres:fn.resultTypes=#[tb]) (hbool:C.prog.underlying tb=some .bool)
  (hs:∀ds:List (DataW H),ds.length=fn.params.toList.length→s.fn H (ds ++ [])={ results:=[.lit (.bool true)],args:=ds })
  (walk:∀(W:World) (base:Nat) (args:Array Value) (ds:List (DataW H)) (ps:List MemPlace),
   (∀(j:Nat) t v,fn.params[j]?=some t→args[j]?=some v→Value.okWide C.prog W .any base t v) →
   DataW.TrodAll enc C.prog W 0 (fun _=>true) true fn.params.toList args.toList ds ps→W.noneFrozen ps →
   (DataW.weightsEach C.prog fn.params.toList ds).all (·≤reachBytes)=true →
   az C.prog f args.toList (fun b=>b<W.heap.size) W [] (fun v _=>v=.bool true)):
  ReturnsInHanded {} C os f .any (s.pre6 enc C.prog fn conds false) (s.post enc C.prog fn false true false false):=by
 refine returnsInHanded_of_change_sized own started noInit hfn witness fun W base args ds gs before hval hW _ hwt _=>?_
 have hW2:=hW
 obtain⟨p,q,hA,hV,rfl,hfz,_⟩:=hW2
 rw[hv] at hV
 obtain⟨rfl,rfl⟩:=trodVars_none hV
 have hvt:s.plain.varTypes C.prog=[]:=by simp[ChangeSpec.plain,hv,DataSpec.varTypes]
 rw[hvt] at hwt
 simp only[bK] at hwt hfz
 have T:=walk W base args ds p hval hA hfz hwt
 have:=T.calls (fun _ h=>h) Sat.nil
 simp only[Array.toArray_toList] at this
 exact Calls.mono this fun e W' ⟨v,L',he,h1,_,hk⟩=>⟨v,he,by subst h1;exact Uh hl hts hv hres hbool hs hW hk.below⟩
end Vg
namespace Vg
open Go Go.ChangeShapes Go.WideShapes Go.ChangeAt Go.RowKit
section
variable {H:Type} (enc:TypeId×Value→H) (P:Program) (w:World) (base:Nat) (spare:Nat→Bool) (held:Bool)
def o9(t:TypeId)(v:Value):Prop:=∃fuel x,DataW.trod enc P w base spare held fuel t [v]=some x
def uV(rec:TypeId→Option (List TypeId)):List Field→Nat→Option (List TypeId)
 | [],_=>some []
 | f::fs,off=>if f.offset=off then match rec f.type with
   | some l=>if P.cellsOf f.type=l.length then (uV rec fs (off+l.length)).map (l ++ ·) else none
   | none=>none
  else none
def su:Nat→TypeId→Option (List TypeId)
 | 0,_=>none
 | n+1,t=>match P.underlying t with
  | some (.struct fs)=>match uV P (su n) fs.toList 0 with
   | some l=>if P.cellsOf t=l.length then some l else none
   | none=>none
  | some (.int _)=>some [t]
  | some .bool=>some [t]
  | some .string=>some [t]
  | some (.slice _)=>some [t]
  | some (.pointer _)=>some [t]
  | _=>none
end
section
variable {H:Type} {enc:TypeId×Value→H} {P:Program} {w:World} {base:Nat} {spare:Nat→Bool} {held:Bool}
theorem o9.int{t:TypeId}{v:Value}{k:IntKind}(h:o9 enc P w base spare held t v)(ht:P.underlying t=some (.int k)):∃n,v=.int k n∧(Lit.int k n).wf=true:=by
 obtain⟨fuel,x,h⟩:=h
 obtain⟨n,e,_,hw⟩:=DataW.trod_int ht h
 exact⟨n,(List.cons.inj e).1,hw⟩
theorem o9.str{t:TypeId}{v:Value}(h:o9 enc P w base spare held t v)(ht:P.underlying t=some .string):∃s,v=.string s∧s.size≤maxLen:=by
 obtain⟨fuel,x,h⟩:=h
 obtain⟨n,e,_,hs⟩:=DataW.trod_string ht h
 exact⟨n,(List.cons.inj e).1,hs⟩
theorem Kr{rec:TypeId→Option (List TypeId)}{cs:List Value}{n:Nat}
  (hrec:∀(t:TypeId) (ls:List TypeId),rec t=some ls→∀(cs:List Value) x,DataW.trod enc P w base spare held n t cs=some x→cs.length=ls.length∧∀(i:Nat) (v:Value) (u:TypeId),cs[i]?=some v→ls[i]?=some u→o9 enc P w base spare held u v):
  ∀(fs:List Field) (off:Nat) (ls:List TypeId),uV P rec fs off=some ls→(∀f∈fs,∃y,DataW.trod enc P w base spare held n f.type ((cs.drop f.offset).take (P.cellsOf f.type))=some y) →
   ∀(i:Nat) (v:Value) (u:TypeId),cs[off+i]?=some v→ls[i]?=some u→o9 enc P w base spare held u v
 | [],off,ls,h,_,i,v,u,_,hu=>by
  obtain rfl:ls=[]:=by simpa[uV] using h.symm
  simp at hu
 | f::fs,off,ls,h,hf,i,v,u,hv,hu=>by
  simp only[uV] at h
  split at h
  ·rename_i hoff
   split at h
   ·rename_i l hl
    split at h
    ·rename_i hc
     cases hr:uV P rec fs (off+l.length) with
     | none=>rw[hr] at h;cases h
     | some ls'=>
      rw[hr] at h
      obtain rfl:l++ls'=ls:=by simpa using h
      obtain⟨y,hy⟩:=hf f yf
      obtain⟨h1,h2⟩:=hrec f.type l hl _ y hy
      by_cases hi:i<l.length
      ·refine h2 i v u ?_ (by rwa[nL hi] at hu)
       rw[tq,if_pos yd,rZ,hoff];exact hv
      ·rw[qI yd] at hu
       refine Kr hrec fs (off+l.length) ls' hr (fun g hg=>hf g (by simp[hg])) (i-l.length) v u ?_ hu
       rw[←hv];congr 1;omega
    ·cases h
   ·cases h
  ·cases h
theorem Fg:∀(n:Nat) (t:TypeId) (ls:List TypeId),su P n t=some ls→∀(fuel:Nat) (cs:List Value) x,DataW.trod enc P w base spare held fuel t cs=some x →
  cs.length=ls.length∧∀(i:Nat) (v:Value) (u:TypeId),cs[i]?=some v→ls[i]?=some u→o9 enc P w base spare held u v
 | 0,t,ls,h,_,_,_,_=>by simp[su] at h
 | n+1,t,ls,h,fuel,cs,x,hx=>by
  have one:∀v,cs=[v]→ls=[t]→cs.length=ls.length∧∀(i:Nat) (v:Value) (u:TypeId),cs[i]?=some v→ls[i]?=some u→o9 enc P w base spare held u v:=by
   intro v h1 h2
   subst h1;subst h2
   refine⟨rfl,fun i v' u hv hu=>?_⟩
   match i,hv,hu with
   | 0,hv,hu=>
    obtain rfl:=oF hv
    obtain rfl:=oF hu
    exact⟨fuel,x,hx⟩
   | i+1,hv,_=>cases hv
  simp only[su] at h
  split at h
  ·rename_i fs ht
   cases hr:uV P (su P n) fs.toList 0 with
   | none=>rw[hr] at h;cases h
   | some l=>
    rw[hr] at h
    dsimp only at h
    split at h
    ·rename_i hc
     obtain rfl:=oF h
     obtain⟨xs,m,_,_,hl,hlen,hfs⟩:=DataW.trod_struct ht hx
     refine⟨hl.trans hc,fun i v u hv hu=>?_⟩
     refine Kr (n:=m) (cs:=cs) (fun t ls h1 cs x h2=>Fg n t ls h1 m cs x h2) fs.toList 0 l hr (fun f hf=>?_) i v u (by rwa[di]) hu
     obtain⟨j,hj⟩:=oD hf
     have hj':fs[j]?=some f:=by simpa using hj
     have hjl:j<xs.length:=by
      have:=(rW.1 hj').1
      omega
     exact⟨xs[j],by rw[hfs j f hj',GE hjl]⟩
    ·cases h
  ·rename_i k ht
   obtain⟨a,e,_⟩:=DataW.trod_int ht hx
   exact vR
  ·rename_i ht
   obtain⟨a,e,_⟩:=DataW.trod_bool ht hx
   exact vR
  ·rename_i ht
   obtain⟨a,e,_⟩:=DataW.trod_string ht hx
   exact vR
  ·rename_i e ht
   rcases DataW.trod_slice ht hx with ⟨e,_⟩ | ⟨_,_,_,_,_,_,_,e,_⟩
   ·exact vR
   ·exact vR
  ·rename_i e ht
   rcases DataW.trod_pointer ht hx with ⟨e,_⟩ | ⟨_,_,_,_,_,e,_⟩
   ·exact vR
   ·exact vR
  ·cases h
theorem Ry{w:World}{a:Addr}{v:Value}(h:w.cell? a=some v):a.block<w.heap.size:=by
 unfold World.cell? at h
 cases hb:w.heap[a.block]? with
 | none=>simp[hb] at h
 | some o=>exact(rW.1 hb).1
theorem Mm{α:Type}(cells:α→List Value)(φ:α→Prop){t e:TypeId}{n:Nat}{ls:List TypeId}(ht:P.underlying t=some (.slice e))(hf:su P n e=some ls)(hce:P.cellsOf e=ls.length)(hpos:0<ls.length)
  (hrow:∀cs,cs.length=ls.length→(∀(i:Nat) (v:Value) (u:TypeId),cs[i]?=some v→ls[i]?=some u→o9 enc P w base spare held u v)→∃x,cs=cells x∧φ x)
  {fuel:Nat} {v:Value} {x:DataW H×List MemPlace} (h:DataW.trod enc P w base spare held fuel t [v]=some x):
  ∃(a:Option Addr) (tc:Nat) (l:List α),v=.slice a l.length tc∧(l.length≤tc∧l.length≤maxLen)∧(∀x∈l,φ x)∧(l≠[]→∃b off,a=some ⟨b,off,none⟩∧b<w.heap.size∧∀i x,l[i]?=some x→∀j v,(cells x)[j]?=some v→w.cell? ⟨b,off+i*ls.length+j,none⟩=some v):=by
 rcases Go.Deep.open_slice ht h with ⟨e,_⟩ | ⟨a',len,cap,m,n',D,Pl,e,_,hle,hcm,hm,_,hx⟩
 ·exact⟨none,0,[],(List.cons.inj e).1,⟨bU _,bU _⟩,fun x hx=>by simp at hx,fun h=>absurd Z h⟩
 ·have hlm:len≤m:=by rw[hm];split<;>omega
  rw[hce] at hx
  have key:∀i,i<len→∃y:α,φ y∧(cells y).length=ls.length∧∀j v,(cells y)[j]?=some v→w.cell? ((a'.add (i*ls.length)).add j)=some v:=by
   intro i hi
   obtain⟨cs',h1,h2⟩:=hx i yd
   obtain⟨_,hl,hc⟩:=World.cells?_some h1
   obtain⟨h3,h4⟩:=Fg n _ ls hf _ _ _ h2
   obtain⟨y,rfl,hy⟩:=hrow cs' h3 h4
   refine⟨y,hy,h3,fun j v hv=>?_⟩
   have hj:j<ls.length:=by have:=(bY.1 hv).1;omega
   rw[hc j hj,hv]
  have build:∀k,k≤len→∃l:List α,l.length=k∧∀i x,l[i]?=some x→φ x∧(cells x).length=ls.length∧∀j v,(cells x)[j]?=some v→w.cell? ((a'.add (i*ls.length)).add j)=some v:=by
   intro k
   induction k with
   | zero=>intro _;exact⟨[],rfl,fun i x hx=>by simp at hx⟩
   | succ k ih=>
    intro hk
    obtain⟨l,hl,hall⟩:=ih yd
    obtain⟨y,hy⟩:=key k yd
    refine⟨l ++ [y],by simp[hl],fun i x hx=>?_⟩
    by_cases hi:i<l.length
    ·rw[nL hi] at hx;exact hall i x hx
    ·rw[qI yd] at hx
     have hi2:i=k:=by
      have:=(bY.1 hx).1
      simp at this;omega
     subst hi2
     rw[hl,Nat.sub_self] at hx
     obtain rfl:=oF hx
     exact hy
  obtain⟨l,hl,hall⟩:=build len (NR _)
  subst hl
  refine⟨some a',cap,l,(List.cons.inj e).1,⟨by omega,by omega⟩,fun x hx=>?_,fun hne=>?_⟩
  ·obtain⟨i,hi⟩:=oD hx
   exact(hall i x hi).1
  obtain⟨ab,ao,asp⟩:=a'
  cases l with
  | nil=>exact absurd rfl hne
  | cons y l=>
   obtain⟨_,h5,h6⟩:=hall 0 y rfl
   have h0:=h6 0 _ (GE yd)
   have hsp:asp=none:=by simpa[Addr.add] using World.cell?_spot h0
   subst hsp
   refine⟨ab,ao,Z,by simpa[Addr.add] using Ry h0,fun i x hx j v hv=>?_⟩
   have:=(hall i x hx).2.2 j v hv
   rwa[Addr.add_mid,Addr.add_mid] at this
end
end Vg
namespace Adm
open Go Vg Go.ChangeShapes Go.WideShapes Go.ChangeAt Go.RowKit Sched Conf
theorem RT:su Tryz.prog 3 24=some [3,3,3,22,3,3,3,3,3,3,3,3]:=by kernel_rfl
theorem TS:su Tryz.prog 1 3=some [3]:=by kernel_rfl
section
variable {H:Type} {enc:TypeId×Value→H} {w:World} {base:Nat} {spare:Nat→Bool} {held:Bool}
theorem Uq{v:Value}(h:o9 enc Tryz.prog w base spare held 22 v):∃a tc l,v=.slice a (l:List Int).length tc∧l.length≤tc∧iD (fun b=>b<w.heap.size) w a l:=by
 obtain⟨fuel,x,hf⟩:=h
 obtain⟨a,tc,l,e,h1,h2,h3⟩:=Mm (α:=Int) (fun x=>[.int .i64 x]) (fun _=>True) Tryz.underlying22 TS ym yo (fun cs hl hc=>by
  match cs,hl,hc with
  | [c],_,hc=>
   obtain⟨n,rfl,_⟩:=(hc 0 c _ rfl rfl).int Tryz.underlying3
   exact⟨n,Z,trivial⟩) hf
 refine⟨a,tc,l,e,h1.1,⟨fun hne=>?_⟩⟩
 obtain⟨b,off,h4,h5,h6⟩:=h3 hne
 refine⟨b,off,h4,h5,fun i v hv=>?_⟩
 have:=h6 i v hv 0 _ rfl
 simpa using this
theorem Uo{cs:List Value}(hl:cs.length=12)(h3:∀(i:Nat) (v:Value) (u:TypeId),cs[i]?=some v→([3,3,3,22,3,3,3,3,3,3,3,3]:List TypeId)[i]?=some u→o9 enc Tryz.prog w base spare held u v):
  ∃(c:bh) (a:Option Addr) (cap:Nat),cs=c.cells a cap∧c.qs.length≤cap∧iD (fun b=>b<w.heap.size) w a c.qs:=by
 match cs,hl,h3 with
 | [c0,c1,c2,c3,c4,c5,c6,c7,c8,c9,c10,c11],_,h3=>
 obtain⟨n0,rfl,_⟩:=(h3 0 c0 _ rfl rfl).int Tryz.underlying3
 obtain⟨n1,rfl,_⟩:=(h3 1 c1 _ rfl rfl).int Tryz.underlying3
 obtain⟨n2,rfl,_⟩:=(h3 2 c2 _ rfl rfl).int Tryz.underlying3
 obtain⟨a3,cap3,l3,rfl,hc3,hq3⟩:=Uq (h3 3 c3 _ rfl rfl)
 obtain⟨n4,rfl,_⟩:=(h3 4 c4 _ rfl rfl).int Tryz.underlying3
 obtain⟨n5,rfl,_⟩:=(h3 5 c5 _ rfl rfl).int Tryz.underlying3
 obtain⟨n6,rfl,_⟩:=(h3 6 c6 _ rfl rfl).int Tryz.underlying3
 obtain⟨n7,rfl,_⟩:=(h3 7 c7 _ rfl rfl).int Tryz.underlying3
 obtain⟨n8,rfl,_⟩:=(h3 8 c8 _ rfl rfl).int Tryz.underlying3
 obtain⟨n9,rfl,_⟩:=(h3 9 c9 _ rfl rfl).int Tryz.underlying3
 obtain⟨n10,rfl,_⟩:=(h3 10 c10 _ rfl rfl).int Tryz.underlying3
 obtain⟨n11,rfl,_⟩:=(h3 11 c11 _ rfl rfl).int Tryz.underlying3
 exact⟨⟨n0,n1,n2,l3,n4,n5,n6,n7,n8,n9,n10,n11⟩,a3,cap3,Z,hc3,hq3⟩
theorem V8{P:Program}{r:Reach}{t:TypeId}{v:Value}{fs:Array Field}(ht:P.underlying t=some (.struct fs))(h:Value.okWide P w r base t v):∃cs:List Value,v=.agg cs.toArray:=by
 unfold Value.okWide at h
 rw[ht] at h
 obtain⟨cs,h,_⟩:=h
 exact⟨cs.toList,by rw[h]⟩
theorem V'{base0:Nat}{v:Value}{d:DataW H}{ps:List MemPlace}(hval:Value.okWide Tryz.prog w .any base0 24 v)(h:DataW.Trod enc Tryz.prog w base spare held 24 v d ps):
  ∃(c:bh) (a:Option Addr) (cap:Nat),v=.agg (c.cells a cap).toArray∧c.qs.length≤cap∧iD (fun b=>b<w.heap.size) w a c.qs:=by
 obtain⟨cs,rfl⟩:=V8 Tryz.underlying24 hval
 obtain⟨fuel,hf⟩:=h
 obtain⟨h1,h2⟩:=Fg 3 _ _ RT fuel cs _ hf
 obtain⟨c,a,cap,rfl,h3,h4⟩:=Uo h1 h2
 exact⟨c,a,cap,Z,h3,h4⟩
end
end Adm
namespace Cl
open Go Vg Go.ChangeShapes Go.WideShapes Go.ChangeAt Go.RowKit Sched Conf Adm Api
def J5:List TypeId:=[3,3,3,3,3,9,9,3]
theorem Sf:su Tryz.prog 5 37=some J5:=by kernel_rfl
section
variable {H:Type} {enc:TypeId×Value→H} {w:World} {base:Nat} {spare:Nat→Bool} {held:Bool}
theorem Up{cs:List Value}(hl:cs.length=8)
  (h3:∀(i:Nat) (v:Value) (u:TypeId),cs[i]?=some v→J5[i]?=some u→o9 enc Tryz.prog w base spare held u v):∃x:cB,cs=x.cells∧True:=by
 match cs,hl,h3 with
 | [c1,c2,c3,c4,c5,c6,c7,c8],_,h3=>
 obtain⟨n1,rfl,_⟩:=(h3 0 c1 _ rfl rfl).int Tryz.underlying3
 obtain⟨n2,rfl,_⟩:=(h3 1 c2 _ rfl rfl).int Tryz.underlying3
 obtain⟨n3,rfl,_⟩:=(h3 2 c3 _ rfl rfl).int Tryz.underlying3
 obtain⟨n4,rfl,_⟩:=(h3 3 c4 _ rfl rfl).int Tryz.underlying3
 obtain⟨n5,rfl,_⟩:=(h3 4 c5 _ rfl rfl).int Tryz.underlying3
 obtain⟨s6,rfl,_⟩:=(h3 5 c6 _ rfl rfl).str Tryz.underlying9
 obtain⟨s7,rfl,_⟩:=(h3 6 c7 _ rfl rfl).str Tryz.underlying9
 obtain⟨n8,rfl,_⟩:=(h3 7 c8 _ rfl rfl).int Tryz.underlying3
 exact⟨⟨n1,n2,n3,n4,⟨n5,s6,s7,n8⟩⟩,Z,trivial⟩
theorem Wa{base0:Nat}{v:Value}{d:DataW H}{ps:List MemPlace}(hval:Value.okWide Tryz.prog w .any base0 25 v)(h:DataW.Trod enc Tryz.prog w base spare held 25 v d ps):
  ∃(a:Option Addr) (tc:Nat) (l:List cB),v=.slice a l.length tc∧l.length≤9223372036854775807∧aV cB.cells 8 (fun b=>b<w.heap.size) w a l:=by
 obtain⟨a0,n0,c0,rfl⟩:=okWide_slice Tryz.underlying25 hval
 obtain⟨fuel,hf⟩:=h
 obtain⟨a,tc,l,e,h1,h2,h3⟩:=Mm (α:=cB) cB.cells (fun _=>True) Tryz.underlying25 Sf ym yo (fun cs hl hc=>Up hl hc) hf
 have hm:maxLen≤9223372036854775807:=by decide
 exact⟨a,tc,l,e,by omega,⟨h3⟩⟩
end
end Cl
end Go.Proofs.YtkgfhabealjjpaaGreat
