/- Texts of the proof, put together and shortened. No condition. -/
import Derived.Test.YtkgfhabealjjpaaGreatDoorZi5
set_option maxRecDepth 100000
set_option maxHeartbeats 16000000
set_option linter.unusedVariables false
set_option linter.unusedSectionVars false
set_option linter.unusedSimpArgs false
namespace Go.Proofs.YtkgfhabealjjpaaGreatDoor
variable (Fr : Nat → Prop) (w : World)
namespace Cl
open Go Vg T Api Ch Rep Conf Lg Rd Au
attribute [local irreducible] VO VC VA
abbrev ia:TypeId:=50
abbrev mA:TypeId:=46
abbrev qQ:TypeId:=51
abbrev vg:TypeId:=3
def C7(x:cZ):List HP:=[aq aP 2 x.ma x.n.ch.ms.length x.mc (flat aD x.n.ch.ms),aq vg 1 x.wa x.n.waits.length x.wc (bV x.n.waits),aq dK 7 x.la x.n.log.length x.lc (flat bm x.n.log)]
def gh(x:cZ):HP:=bF (C7 x)
def Hu(V:fC):List HP:=[aq aP 2 V.ma V.ch.ms.length V.mc (flat aD V.ch.ms),aq ia 9 V.na V.rows.length V.nc (flat bI V.rows),bF (V.rows.map gh),aq dK 7 V.da V.done.length V.dc (flat bm V.done),aq qQ 3 V.xa V.mail.length V.xc (flat je V.mail)]
structure zh(x:cZ):Prop where
 jN:x.n.ch.ms.length≤1000
 wl:x.n.waits.length≤1000
 ll:x.n.log.length≤5000
structure tM(V:fC):Prop where
 each:∀x∈V.rows,zh x
 jN:V.ch.ms.length≤1000
 rl:V.rows.length≤1000
 dl:V.done.length≤5000
 xl:V.mail.length≤5000
theorem MC{Fr:Nat→Prop}{w:World}{rows:List cZ}(f:∀x∈rows,zh x)(h:a_ Fr [bF (rows.map gh)] w):∀x∈rows,wy Fr w x:=fun x hx=>by
 obtain⟨i,hi⟩:=List.mem_iff_getElem?.1 hx
 have h5:a_ Fr [gh x] w:=(h.sep).at_ i (by rw[dH,hi];rfl)
 have h6:=h5.sep
 have g:=f x hx
 exact⟨aT.aq cu (h6.at_ 0 Z),rG (h6.at_ 1 Z),aT.aq qt (h6.at_ 2 Z),g.jN,g.wl,g.ll⟩
theorem abv{Fr:Nat→Prop}{w:World}{V:fC}(f:tM V)(h0:a_ Fr [aq aP 2 V.ma V.ch.ms.length V.mc (flat aD V.ch.ms)] w)(h1:a_ Fr [aq ia 9 V.na V.rows.length V.nc (flat bI V.rows)] w)(h2:a_ Fr [bF (V.rows.map gh)] w)(h3:a_ Fr [aq dK 7 V.da V.done.length V.dc (flat bm V.done)] w)(h4:a_ Fr [aq qQ 3 V.xa V.mail.length V.xc (flat je V.mail)] w):uX Fr w V:=by
 exact⟨aT.aq cu h0,aT.aq u3 h1,MC f.each h2,aT.aq qt h3,aT.aq Nt h4,f.jN,f.rl,f.dl,f.xl⟩
theorem NJ{Fr:Nat→Prop}{w:World}{V:fC}{nb:Nat}{rest:List Value}(f:tM V)(hn:V.na=some ⟨nb,0,none⟩)(h0:a_ Fr [aq aP 2 V.ma V.ch.ms.length V.mc (flat aD V.ch.ms)] w)(h1:bq Fr w nb (flat bI V.rows++rest))(h2:a_ Fr [bF (V.rows.map gh)] w)(h3:a_ Fr [aq dK 7 V.da V.done.length V.dc (flat bm V.done)] w)(h4:a_ Fr [aq qQ 3 V.xa V.mail.length V.xc (flat je V.mail)] w):uX Fr w V:=by
 refine⟨aT.aq cu h0,?_,MC f.each h2,aT.aq qt h3,aT.aq Nt h4,f.jN,f.rl,f.dl,f.xl⟩
 rw[hn]
 refine aT.aA h1 fun i x hx=>?_
 rw[cj]
 exact oO u3 hx rest
theorem bd.C9{α:Type}{c:α→List Value}{n:Nat}(el:Nat)(a:Option Addr)(cap:Nat)(xs:List α)(hne:xs≠[]):bd (ι:=Nat×List Value) (aq el n a xs.length cap (flat c xs)) (fun y=>a=some ⟨y.1,0,none⟩∧xs.length≤cap∧(flat c xs++y.2).length=cap*n) (fun y=>[pt y.1 (flat c xs++y.2) el]):=by
 intro w ids h hn
 obtain⟨y,hy,ids',h1,h2,h3⟩:=bd.sl el n a xs.length cap (flat c xs) w ids h hn
 cases y with
 | none=>obtain⟨_,_,_,h,_⟩:=hy;exact absurd (iC h) hne
 | some y=>
  obtain⟨b,rest⟩:=y
  obtain⟨_,h6,h7,h8⟩:=hy
  exact⟨(b,rest),⟨h7,h6,h8⟩,ids',h1,h2,h3⟩
theorem RM{q:Nat}{l:List bf}(hl:l.length≤1000000)(h:a_ Fr [bL q l] w):ax Tryz.prog 32 [.pointer (some ⟨q,0,none⟩)] Fr w [] (fun v L=>∃a c,v=.slice a l.length c∧L=[aq dK 7 a l.length c (flat bm l)]):=by
 obtain⟨x,hx⟩:=sC.of h
 have hb:=hx.aA
 refine TF 10 Tryz.func32 Z yp aC Z Z ?_
 refine bG ?_
 refine VG (VV (fun Fr w hF hs _=>Lg.fO Fr w (hb.of hF hs)) Z ?_)
 refine p9 ?_
 refine vS ?_
 refine VG (VK (Lc:=[]) (fun Fr w hF hs _=>JP (l:=l) Fr w (hx.Fq.of hF hs) hl) Z Z ?_)
 rintro _ _ ⟨a,c,rfl,rfl⟩
 refine bG ?_
 exact CR (an.tmp 2 Z Z ER ⟨a,c,Z,Z⟩)
section
variable {p:Nat} {C:az} {y:fJ} {b e:Nat}
theorem UN{Fr:Nat→Prop}{w:World}(hy:a_ Fr (fp p C y) w){k q:Nat}{r:ay}(h:y.nr[k]?=some (some (q,r))):a_ Fr [bo q r] w:=by
 refine((hy.at_ 8 Z).sep).at_ k ?_
 rw[dH,h];rfl
theorem UO{n:Int}{r:ay}(h:C.node n=some r):some r∈C.nodes:=by
 unfold az.node at h
 split at h
 ·cases h
 ·cases hx:C.nodes[n.toNat]? with
  | none=>rw[hx] at h;cases h
  | some x=>
   rw[hx] at h
   obtain rfl:x=some r:=h
   exact ME hx
def wv(r:ay)(n:Nat):List Int:=(List.range n).map fun(k:Nat)=>r.aR.aM.oR k
theorem NW(r:ay)(n:Nat):(wv r n).length=n:=by simp[wv]
theorem NX(r:ay)(n:Nat):wv r (n+1)=wv r n ++ [r.aR.aM.oR (n:Nat)]:=by simp[wv,tH]
def xw(r:ay)(i n:Nat)(ma:Option Addr)(mc:Nat)(wa:Option Addr)(wc:Nat):cZ:=⟨⟨i,r.since,r.au.done,r.aQ.l.length,r.ch,wv r n,[]⟩,ma,mc,wa,wc,none,0⟩
def xf(r:ay)(i:Nat)(ma:Option Addr)(mc:Nat)(wa:Option Addr)(wc:Nat)(la:Option Addr)(lc:Nat):cZ:=⟨vF r i,ma,mc,wa,wc,la,lc⟩
def s5(C:az)(i:Nat):List dA:=(C.nodes.zipIdx.take i).filterMap s4
theorem WA{C:az}{i:Nat}(h:C.nodes.length≤i):s5 C i=gM C:=by
 unfold s5 gM
 rw[qg (by rw[yY];exact h)]
theorem WB{C:az}{i:Nat}(h:C.node (i:Int)=none):s5 C (i+1)=s5 C i:=by
 unfold s5
 rw[fX,List.filterMap_append]
 unfold az.node at h
 rw[if_neg yg,ea] at h
 rw[List.getElem?_zipIdx]
 cases hx:C.nodes[i]? with
 | none=>exact br _
 | some x=>
  rw[hx] at h
  obtain rfl:x=none:=h
  exact br _
theorem WC{C:az}{i:Nat}{r:ay}(h:C.node (i:Int)=some r):s5 C (i+1)=s5 C i ++ [vF r i]:=by
 unfold s5
 rw[fX,List.filterMap_append]
 unfold az.node at h
 rw[if_neg yg,ea] at h
 rw[List.getElem?_zipIdx]
 cases hx:C.nodes[i]? with
 | none=>rw[hx] at h;cases h
 | some x=>
  rw[hx] at h
  obtain rfl:x=some r:=h
  show _ ++ [vF r (0+i)]=_
  rw[cj]
def tj(ch:aV)(a:Option Addr)(c n:Nat)(na:Option Addr)(nc:Nat):List Value:=[.int .i64 ch.ar,.slice a ch.ms.length c,.int .i64 ch.drain,.slice na n nc,.slice none 0 0,.slice none 0 0]
def C8(r:ay)(i n:Nat)(ma:Option Addr)(mc:Nat)(wa:Option Addr)(wc b5:Nat):List HP:=[aq vg 1 wa (wv r n).length wc (bV (wv r n)),pt b5 (bI (xw r i n ma mc wa wc)) ia,aq aP 2 ma r.ch.ms.length mc (flat aD r.ch.ms)]
end
end Cl
namespace Cl
open Go Vg T Api Ch Rep Conf Lg Rd Au
attribute [local irreducible] VO VC VA
theorem S9(l:List Int)(x:Int):bV (l ++ [x])=bV l ++ [.int .i64 x]:=by simp[bV]
def jx(C:az)(q:bE):l8:=(q.1,q.2,((C.aU.list q).length:Int))
section
variable {p:Nat} {C:az} {b e:Nat}
theorem L3(ok:C.Ok b e)(hlog:∀r,some r∈C.nodes→r.log.length≤5000)(h:a_ Fr [ek p C] w):
  ax Tryz.prog 9 [.pointer (some ⟨p,0,none⟩)] Fr w [] (fun v L=>∃(V:fC) (qs:List bE),qs.Perm (C.aU.mail.map Prod.fst)∧V.v=gN C (qs.map (jx C))∧tM V∧v=.agg (ez V).toArray∧L=Hu V):=by
 obtain⟨y,fit,hy⟩:=BZ h
 have hml:=ok.aG.ml
 have hnl:C.nodes.length≤6:=by
  have:=ok.nl
  have:=kG ok.cf
  omega
 have hcl:=Kk ok.aU ok.l9
 refine TF 90 Tryz.func9 Z yp aC Z Z ?_
 refine CS (CG (VG (VO.alloc Z fun d=>?_)))
 refine av ?_
 refine Pm ?_
 refine yP ?_
 refine Pm ?_
 refine VG (VK (Lc:=[]) (fun Fr w hF hw hS=>NF Fr w ok.aG ((hy.at_ 2 Z).of hF hw)) Z Z ?_)
 rintro _ _ ⟨a,c,rfl,rfl⟩
 refine av ?_
 refine VG (VT (vs:=C.aG.ch.cells a c) (cs':=tj C.aG.ch a c 0 none 0) 1 Z Z Z Z (by show 0+3≤6;omega) Z Z Z ?_)
 refine gm ?_
 refine CN (L':=[pt d (tj C.aG.ch a c 0 none 0) mA,aq ia 9 none 0 0 [],bF (([]:List cZ).map gh),aq aP 2 a C.aG.ch.ms.length c (flat aD C.aG.ch.ms)]) (IP 1 Z (aa.cK (aa.sep (Ls:=[]) (IP 0 Z aa.nil)))).aj ?_
 refine av ?_
 refine VC.loop (σ:=Nat×List cZ×Option Addr×Nat) (fun s=>[(0,pV p),(2,pV d),(3,.int .i64 (s.1:Int))]) (fun s=>[pt d (tj C.aG.ch a c s.2.1.length s.2.2.1 s.2.2.2) mA,aq ia 9 s.2.2.1 s.2.1.length s.2.2.2 (flat bI s.2.1),bF (s.2.1.map gh),aq aP 2 a C.aG.ch.ms.length c (flat aD C.aG.ch.ms)]) (fun s=>s.1≤6∧s.2.1.map cZ.n=s5 C s.1∧s.2.1.length≤s.1∧∀x∈s.2.1,zh x) (fun s=>6-s.1) (0,[],none,0)
  ⟨by decide,rfl,NR _,fun x hx=>(by cases hx)⟩ aH ER ?_
 rintro⟨i,rows,na,nc⟩ ⟨hi,hrows,hrl,hfew⟩
 dsimp only at hi hrows hrl hfew ⊢
 refine av ?_
 refine CP (p:=(i:Int)<6) Z (fun h2=>CK ?_) (fun h2=>CX ?_)
 ·refine Bi ?_
  refine av ?_
  refine VG (VO.eB (fun Fr w hF hw hS=>aa' Fr w fit ((hy.aA 0 Z).of hF hw) ((hy.aA 3 Z).of hF hw)) Z ?_)
  intro v hv
  cases hn:C.node (i:Int) with
  | none=>
   rw[hn] at hv
   obtain rfl:v=.pointer none:=hv
   refine av ?_
   refine VC.mi Z (CX ?_)
   refine sh ?_
   exact⟨(i+1,rows,na,nc),⟨by dsimp only;omega,by dsimp only;rw[hrows,WB hn],by dsimp only;omega,hfew⟩,by dsimp only;omega,SC Z (SC Z (Sub.int Z fB (SN _))),ER⟩
  | some r=>
   rw[hn] at hv
   obtain⟨k,q,-,hk,rfl⟩:∃k q,(i:Int)=(k:Nat)∧y.nr[k]?=some (some (q,r))∧v=.pointer (some ⟨q,0,none⟩):=hv
   have hr:=UN hy hk
   have hrm:=UO hn
   have okr:=(ok.fit r hrm).ok
   have hll:=hlog r hrm
   have hms:=okr.ch.len
   have hrr:=okr.rl
   have hr16:=okr.gA
   refine yP ?_
   refine VG (VV (fun Fr w hF hw hS=>MF Fr w (hr.of hF hw)) Z ?_)
   refine av ?_
   refine VG (VK (Lc:=[]) (fun Fr w hF hw hS=>NN Fr w okr (hr.of hF hw)) Z Z ?_)
   rintro _ _ ⟨wq,rfl,rfl⟩
   refine av ?_
   refine VG (VV (fun Fr w hF hw hS=>Win.zx Fr w (W:=r.au) (hS.aA 0 Z) okr.au.dO) Z ?_)
   refine av ?_
   refine VG (VV (fun Fr w hF hw hS=>Ws Fr w okr (hr.of hF hw)) Z ?_)
   refine av ?_
   refine VG (VK (Lc:=[]) (fun Fr w hF hw hS=>JF Fr w okr (hr.of hF hw)) Z Z ?_)
   rintro _ _ ⟨ma,mc,rfl,rfl⟩
   refine VG (VI (LB (pv:=[(0,.int .i64 i),(1,.int .i64 r.since),(2,.int .i64 r.au.done),(3,.int .i64 r.aQ.l.length),(4,.agg (r.ch.cells ma mc).toArray)]) (bI (xw r i 0 ma mc none 0)) Z Z Z yp Z) ?_)
   refine VG (VO.alloc Z fun b5=>?_)
   refine VG (VT (vs:=bI (xw r i 0 ma mc none 0)) (cs':=bI (xw r i 0 ma mc none 0)) 0 Z Z Z Z (NR _) Z Z Z ?_)
   refine gm ?_
   refine CN (L':=C8 r i 0 ma mc none 0 b5 ++ [pt d (tj C.aG.ch a c rows.length na nc) mA,aq ia 9 na rows.length nc (flat bI rows),bF (rows.map gh),aq aP 2 a C.aG.ch.ms.length c (flat aD C.aG.ch.ms)]) (aa.cK (bb [0,0,1,1,1,1])).aj ?_
   refine av ?_
   refine VC.loop (σ:=Nat×Option Addr×Nat) (fun t=>[(0,pV p),(2,pV d),(3,.int .i64 (i:Int)),(4,pV q),(5,pV b5),(6,.int .i64 (t.1:Int))]) (fun t=>C8 r i t.1 ma mc t.2.1 t.2.2 b5 ++ [pt d (tj C.aG.ch a c rows.length na nc) mA,aq ia 9 na rows.length nc (flat bI rows),bF (rows.map gh),aq aP 2 a C.aG.ch.ms.length c (flat aD C.aG.ch.ms)]) (fun t=>t.1≤4) (fun t=>4-t.1) (0,none,0)
    yy aH ER ?_
   rintro⟨n,wa,wc⟩ hn4
   dsimp only at hn4 ⊢
   refine av ?_
   refine CP (p:=(n:Int)<4) Z (fun h3=>CK ?_) (fun h3=>CX ?_)
   ·have hwl:(xw r i n ma mc wa wc).n.waits.length=n:=NW r n
    refine tm ?_
    refine CD (ts 0 4 (.only 4 (.only 5 (.only 6 (.take 7 (.only 8 .nil)))))) yp yr ?_
    refine ko ?_
    refine AG (AR (fun Fr w hF hs hS=>aby Fr w (hr.of hF hs) (n:Int)) Z Z yu ?_)
    refine AG (AO (aK.buildSlice (n:=1) (pv:=[(0,.int .i64 (r.aR.aM.oR (n:Int)))]) (cells:=[.int .i64 (r.aR.aM.oR (n:Int))]) rfl rfl rfl rfl yy (eY rfl rfl rfl)) rfl (fun v L' g=>by obtain⟨nb,rfl,rfl⟩:=g;exact kp) ?_)
    rintro v L' ⟨q2,rfl,rfl⟩
    refine AG (AO (aK.append (m:=1) (news:=[.int .i64 (r.aR.aM.oR (n:Int))]) 1 rfl rfl rfl rfl rfl rfl rfl (dm.pt 0 rfl rfl rfl) rfl (by rw[hwl];exact kk (k:=100) yg yy) (by rw[hwl];omega)) rfl (fun v L' g=>by obtain⟨a2,c2,rfl,hc2,rfl⟩:=g;exact kp) ?_)
    rintro v L' ⟨a2,c2,rfl,hc2,rfl⟩
    refine xZ ?_
    refine AG (VA.st 2 (cs':=bI (xw r i (n+1) ma mc a2 c2)) Z Z Z Z Z (by show 7<9;omega) (by show _=bI (xw r i (n+1) ma mc a2 c2);unfold xw;rw[NX];simp[bI]) Z yu ?_)
    refine cn ?_
    refine CN (L':=C8 r i (n+1) ma mc a2 c2 b5 ++ [pt d (tj C.aG.ch a c rows.length na nc) mA,aq ia 9 na rows.length nc (flat bI rows),bF (rows.map gh),aq aP 2 a C.aG.ch.ms.length c (flat aD C.aG.ch.ms)]) (by
     refine aa.aj ?_
     unfold C8
     rw[NX,S9,a8]
     exact(bb [0,1,1,1,1,1,1])) ?_
    refine sh ?_
    exact⟨(n+1,a2,c2),by dsimp only;omega,by dsimp only;omega,SC Z (SC Z (SC Z (SC Z (SC Z (Sub.int Z fB (SN _)))))),ER⟩
   obtain rfl:n=4:=by omega
   refine av ?_
   refine VG (VK (Lc:=[]) (fun Fr w hF hw hS=>K6 Fr w okr (hr.of hF hw)) Z Z ?_)
   rintro _ _ ⟨lq,rfl,rfl⟩
   refine VG (VK (Lc:=[]) (fun Fr w hF hw hS=>RM Fr w yg (hS.at_ 0 Z)) Z Z ?_)
   rintro _ _ ⟨la,lc,rfl,rfl⟩
   refine av ?_
   refine VG (VO.st 3 (cs':=bI (xf r i ma mc wa wc la lc)) Z Z Z Z (by show 8<9;omega) Z Z ?_)
   refine tq ?_
   refine VG (VL 3 (bI (xf r i ma mc wa wc la lc)) Z Z Z Z ?_)
   refine VO.aj (L':=aq ia 9 na rows.length nc (flat bI rows) :: [aq dK 7 la r.log.length lc (flat bm r.log),aq vg 1 wa (wv r 4).length wc (bV (wv r 4)),aq aP 2 ma r.ch.ms.length mc (flat aD r.ch.ms),pt d (tj C.aG.ch a c rows.length na nc) mA,bF (rows.map gh),aq aP 2 a C.aG.ch.ms.length c (flat aD C.aG.ch.ms)]) (bb [6,0,1,2,2,2,2]).aj ?_
   refine VG (VO.buildSlice (n:=1) (pv:=[(0,.agg (bI (xf r i ma mc wa wc la lc)).toArray)]) (bI (xf r i ma mc wa wc la lc)) Z Z Z Z yy (eY Z Z Z) fun nb=>?_)
   refine VG (VO.append (m:=1) (news:=bI (xf r i ma mc wa wc la lc)) 1 Z Z Z Z Z Z Z (dm.pt 0 Z Z Z) Z (kk (k:=100) yg yy) yg fun na2 nc2 _=>?_)
   refine av ?_
   refine VG (VO.st 5 (cs':=tj C.aG.ch a c (rows.length+1) na2 nc2) Z Z Z Z (by show 3<6;omega) Z Z ?_)
   refine gm ?_
   refine CN (L':=[pt d (tj C.aG.ch a c (rows ++ [xf r i ma mc wa wc la lc]).length na2 nc2) mA,aq ia 9 na2 (rows ++ [xf r i ma mc wa wc la lc]).length nc2 (flat bI (rows ++ [xf r i ma mc wa wc la lc])),bF ((rows ++ [xf r i ma mc wa wc la lc]).map gh),aq aP 2 a C.aG.ch.ms.length c (flat aD C.aG.ch.ms)]) (by
    refine aa.aj ?_
    rw[a8,fu]
    refine IP 5 Z (IP 0 Z ?_)
    refine aa.trans ?_ (aa.trans (F8 (f:=gh) (l:=rows) (x:=xf r i ma mc wa wc la lc) (A:=[aq aP 2 a C.aG.ch.ms.length c (flat aD C.aG.ch.ms)])) aa.refl)
    exact aa.sep (Ls:=C7 (xf r i ma mc wa wc la lc)) (bb [3,2,1,1,1])) ?_
   refine sh ?_
   refine⟨(i+1,rows ++ [xf r i ma mc wa wc la lc],na2,nc2),⟨by dsimp only;omega,by dsimp only;rw[gn,hrows,WC hn];rfl,by dsimp only;rw[a8,Bw];omega,fun x hx=>?_⟩,by dsimp only;omega,SC Z (SC Z (Sub.int Z fB (SN _))),ER⟩
   rcases eP.1 hx with hx | hx
   ·exact hfew x hx
   ·rw[fe.1 hx]
    exact⟨hms,by show(wv r 4).length≤1000;rw[NW];decide,hll⟩
 obtain rfl:i=6:=by omega
 rw[WA hnl] at hrows
 refine av ?_
 refine VG (VK (Lc:=[]) (fun Fr w hF hw hS=>aa4 Fr w ok.dn (h.of hF hw)) Z Z ?_)
 rintro _ _ ⟨da,dc,rfl,rfl⟩
 refine av ?_
 refine VG (VO.st 1 (cs':=[.int .i64 C.aG.ch.ar,.slice a C.aG.ch.ms.length c,.int .i64 C.aG.ch.drain,.slice na rows.length nc,.slice da C.done.length dc,.slice none 0 0]) Z Z Z Z (by show 4<6;omega) Z Z ?_)
 refine av ?_
 refine VG (VK (Lc:=[]) (fun Fr w hF hw hS=>TT Fr w ok.aU (h.of hF hw)) Z Z ?_)
 rintro _ _ ⟨l2,ml,hmlp,rfl,rfl⟩
 refine av ?_
 refine VG (VK (Lc:=[]) (fun Fr w hF hw hS=>TU Fr w (S:=⟨C.aU.cap,ml⟩) (by have:=hmlp.length_eq;dsimp only;omega) (hS.at_ 0 Z)) Z Z ?_)
 rintro _ _ ⟨prs,pa,pc,hprs,rfl,rfl⟩
 have hpm:prs.Perm (C.aU.mail.map Prod.fst):=hprs.trans (hmlp.map _)
 have hpl:prs.length≤1444:=by
  have:=hpm.length_eq
  rw[cY] at this
  omega
 refine av ?_
 refine CN (L':=[aq mQ 2 pa prs.length pc (flat dS prs),aq qQ 3 none 0 0 [],pt d [.int .i64 C.aG.ch.ar,.slice a C.aG.ch.ms.length c,.int .i64 C.aG.ch.drain,.slice na rows.length nc,.slice da C.done.length dc,.slice none 0 0] mA,cH l2 ⟨C.aU.cap,ml⟩,aq dK 7 da C.done.length dc (flat bm C.done),aq ia 9 na rows.length nc (flat bI rows),bF (rows.map gh),aq aP 2 a C.aG.ch.ms.length c (flat aD C.aG.ch.ms)]) (IP 0 Z (aa.cK (bb [2,0,0,0,0,0]))).aj ?_
 refine VC.bz 0 Z (bd.rl mQ pa pc prs vy) ?_
 rintro⟨xa,xc,xb,xcs,xs⟩ ⟨rok,rv,rx⟩
 dsimp only at rx
 subst rx
 injection rv with e1 _ e3
 subst e1 e3
 refine VC.loop (σ:=Nat×Option Addr×Nat) (fun s=>[(2,pV d),(7,pV l2),(66,.slice xa xs.length xc),(67,.int .i64 xs.length),(68,.int .i64 (s.1:Int))]) (fun s=>[RL.h mQ ⟨xa,xc,xb,xcs,xs⟩,aq qQ 3 s.2.1 ((xs.take s.1).map (jx C)).length s.2.2 (flat je ((xs.take s.1).map (jx C))),pt d [.int .i64 C.aG.ch.ar,.slice a C.aG.ch.ms.length c,.int .i64 C.aG.ch.drain,.slice na rows.length nc,.slice da C.done.length dc,.slice s.2.1 ((xs.take s.1).map (jx C)).length s.2.2] mA,cH l2 ⟨C.aU.cap,ml⟩,aq dK 7 da C.done.length dc (flat bm C.done),aq ia 9 na rows.length nc (flat bI rows),bF (rows.map gh),aq aP 2 a C.aG.ch.ms.length c (flat aD C.aG.ch.ms)]) (fun s=>s.1≤xs.length) (fun s=>xs.length-s.1) (0,none,0)
  (bH _) aH ER ?_
 rintro⟨j,ta,tc⟩ hj
 dsimp only at hj ⊢
 refine av ?_
 refine CP (p:=(j:Int)<xs.length) Z (fun h3=>CK ?_) (fun h3=>CX ?_)
 rotate_left
 ·obtain rfl:j=xs.length:=by omega
  rw[iT]
  let V:fC:=⟨C.aG.ch,a,c,rows,na,nc,C.done,da,dc,xs.map (jx C),ta,tc⟩
  refine av ?_
  refine VG (VL 2 (ez V) Z Z Z Z ?_)
  refine VG (VT (vs:=ez V) (cs':=ez V) 2 Z Z Z Z (NR _) Z Z Z ?_)
  refine av ?_
  refine CR (an.cell 2 Z Z Z (aw.many 2 Z Z) (L':=Hu V) (IP 7 Z (IP 5 Z (IP 5 Z (IP 4 Z (IP 1 Z aa.nil))))).aj ⟨V,xs,hpm,?_,⟨hfew,by show C.aG.ch.ms.length≤1000;omega,by show rows.length≤1000;omega,by have:=ok.dn;show C.done.length≤5000;omega,by show(xs.map (jx C)).length≤5000;rw[cY];omega⟩,Z,Z⟩)
  show(⟨C.aG.ch,rows.map cZ.n,C.done,xs.map (jx C)⟩:dz)=⟨C.aG.ch,gM C,C.done,xs.map (jx C)⟩
  rw[hrows]
 have hjl:j<xs.length:=by omega
 have hxp:xs[j]?=some xs[j]:=GE hjl
 generalize xs[j]=pr at hxp
 have htk:(xs.take (j+1)).map (jx C)=(xs.take j).map (jx C) ++ [jx C pr]:=by
  rw[fX,hxp,gn];rfl
 have hlist:(⟨C.aU.cap,ml⟩:aX).list pr=C.aU.list pr:=Rb ok.aU hmlp pr
 have hlk:((xs.take j).map (jx C)).length=j:=by rw[cY,jj];omega
 obtain⟨tb',tof,htb,hta,hrd⟩:=RL.Ok.ld (t:=mQ) (k:=j) (x:=pr) rok hxp (vy pr)
 dsimp only at hta
 subst hta
 refine Bi ?_
 refine av ?_
 refine VG (VI (eE j Z Z Z Z Z Z hjl) ?_)
 refine A7 ?_
 refine VG (VO.alloc Z fun b9=>?_)
 refine VG (VT (vs:=dS pr) (cs':=dS pr) 0 Z Z Z Z (NR _) Z Z Z ?_)
 refine gm ?_
 refine CD (ts 0 11 (.only 11 (.take 12 (.only 13 (.only 14 (.take 15 (.only 16 .nil))))))) yp yr ?_
 refine tv ?_
 refine Ej ?_
 refine tv ?_
 refine yF ?_
 refine tv ?_
 refine Ej ?_
 refine tv ?_
 refine yF ?_
 refine tv ?_
 refine AG (AR (fun Fr w hF hs hS=>by have:=TS Fr w (S:=⟨C.aU.cap,ml⟩) (hS.at_ 4 Z) pr.1 pr.2;rw[show(⟨C.aU.cap,ml⟩:aX).list (pr.1,pr.2)=C.aU.list pr from hlist] at this;exact this) Z Z yu ?_)
 refine AG (AI Z (FY (pv:=[(0,.int .i64 pr.1),(1,.int .i64 pr.2),(2,.int .i64 ((C.aU.list pr).length:Int))]) (je (jx C pr)) Z Z Z Z Z) ?_)
 refine AG (AO (aK.buildSlice (n:=1) (pv:=[(0,.agg (je (jx C pr)).toArray)]) (cells:=je (jx C pr)) rfl rfl rfl rfl yy (eY rfl rfl rfl)) rfl (fun v L' g=>by obtain⟨nb,rfl,rfl⟩:=g;exact kp) ?_)
 rintro v L' ⟨q2,rfl,rfl⟩
 refine AG (AO (aK.append (m:=1) (news:=je (jx C pr)) 3 rfl rfl rfl rfl rfl rfl rfl (dm.pt 0 rfl rfl rfl) rfl (by rw[hlk];exact kk (k:=2000) yg yy) (by rw[hlk];omega)) rfl (fun v L' g=>by obtain⟨a2,c2,rfl,hc2,rfl⟩:=g;exact kp) ?_)
 rintro v L' ⟨a2,c2,rfl,hc2,rfl⟩
 (repeat(first|refine yG (yN ?_)|refine yG (yD 0 rfl rfl rfl rfl rfl ?_)|refine yG (yD 1 rfl rfl rfl rfl rfl ?_)|refine yG (yD 2 rfl rfl rfl rfl rfl ?_)|refine yG (yD 3 rfl rfl rfl rfl rfl ?_)|refine yG (yD 4 rfl rfl rfl rfl rfl ?_)|refine yG (yU rfl rfl rfl rfl ?_)))
 refine AG (VA.st 4 (cs':=[.int .i64 C.aG.ch.ar,.slice a C.aG.ch.ms.length c,.int .i64 C.aG.ch.drain,.slice na rows.length nc,.slice da C.done.length dc,.slice a2 ((xs.take (j+1)).map (jx C)).length c2]) Z Z Z Z Z (by show 5<6;omega) (by rw[htk,a8];rfl) Z yu ?_)
 refine cn ?_
 refine CN (L':=[RL.h mQ ⟨some ⟨tb',tof,none⟩,xc,xb,xcs,xs⟩,aq qQ 3 a2 ((xs.take (j+1)).map (jx C)).length c2 (flat je ((xs.take (j+1)).map (jx C))),pt d [.int .i64 C.aG.ch.ar,.slice a C.aG.ch.ms.length c,.int .i64 C.aG.ch.drain,.slice na rows.length nc,.slice da C.done.length dc,.slice a2 ((xs.take (j+1)).map (jx C)).length c2] mA,cH l2 ⟨C.aU.cap,ml⟩,aq dK 7 da C.done.length dc (flat bm C.done),aq ia 9 na rows.length nc (flat bI rows),bF (rows.map gh),aq aP 2 a C.aG.ch.ms.length c (flat aD C.aG.ch.ms)]) (by
  rw[htk,a8,fu]
  exact aa.aj (bb [3,0,2,2,2,2,2,2])) ?_
 refine sh ?_
 exact⟨(j+1,a2,c2),hjl,by dsimp only;omega,SC Z (SC Z (SC Z (SC Z (Sub.int Z fB (SN _))))),ER⟩
end
end Cl
namespace Cl
open Go Vg T Api Ch Rep Conf Lg Rd Sched
def zC:ba:=⟨0,0,0,[],0,0,0,0,0,0,0,0⟩
theorem J5:bh zC=bh (bh zC):=by decide +kernel
def zK(l:List dU)(iu:Int):Bool:=l.any (fun s=>decide (200<s.op.key.size)||decide (200<s.op.value.size))||decide (iu<l.length)
attribute [local irreducible] VO VC VA
theorem SF{a:Option Addr}{cap:Nat}{l:List dU}(h:aT dU.cells 8 Fr w a l)(hl:l.length≤9223372036854775807)(iu:Int):ax Tryz.prog 4 [.slice a l.length cap,.int .i64 iu] Fr w [] (fun v L=>v=.bool (zK l iu)∧L=[]):=by
 refine TF 34 Tryz.func4 Z yp aC Z Z ?_
 refine ae ?_
 refine VC.loop (σ:=Nat) (fun k=>[(0,.slice a l.length cap),(1,.int .i64 iu),(5,.int .i64 (k:Int))]) (fun _=>[]) (fun k=>k≤l.length∧(l.take k).any (fun s=>decide (200<s.op.key.size)||decide (200<s.op.value.size))=false) (fun k=>l.length-k) 0
  ⟨bH _,rfl⟩ aH ER ?_
 rintro k ⟨hk,hno⟩
 refine ae ?_
 refine CP (p:=(k:Int)<l.length) Z (fun h1=>CK ?_) (fun h1=>CX ?_)
 rotate_left
 ·obtain rfl:k=l.length:=by omega
  rw[iT] at hno
  refine ae ?_
  exact CR (an.bool 4 Z Z (by unfold zK;rw[hno,Bool.false_or]) ER ⟨rfl,Z⟩)
 have hkl:k<l.length:=by omega
 have hx:l[k]?=some l[k]:=GE hkl
 generalize l[k]=s at hx
 obtain⟨xb,xo,rfl,ra,rc⟩:=aT.rd (X:=⟨Tryz.prog,tab,aC,34,Fr,w⟩) h hx
 have hnx:(l.take (k+1)).any (fun s=>decide (200<s.op.key.size)||decide (200<s.op.value.size))=(decide (200<s.op.key.size)||decide (200<s.op.value.size)):=by
  rw[fX,hx,List.any_append,hno];simp
 have hall:(decide (200<s.op.key.size)||decide (200<s.op.value.size))=true→zK l iu=true:=fun g=>by
  unfold zK
  rw[List.any_eq_true.2 ⟨s,ME hx,g⟩];rfl
 refine ae ?_
 refine Eh ?_
 refine ae ?_
 refine VG (VD Z Z (rc _ _ 5 (.string s.op.key) Z Z) ?_)
 refine ae ?_
 by_cases k1:200<s.op.key.size
 ·refine VG (VY 20 true Z (DT yg) ?_)
  refine oy ?_
  exact CR (an.tmp 4 Z Z ER ⟨by rw[hall (by simp[k1])],Z⟩)
 refine VG (VY 20 false Z (DF yg) ?_)
 refine ae ?_
 refine Eh ?_
 refine ae ?_
 refine VG (VD Z Z (rc _ _ 6 (.string s.op.value) Z Z) ?_)
 refine ae ?_
 refine CP (p:=(200:Int)<s.op.value.size) Z (fun k2=>?_) (fun k2=>CK ?_)
 ·refine ae ?_
  exact CR (an.tmp 4 Z Z ER ⟨by rw[hall yh],Z⟩)
 refine gC ?_
 exact⟨k+1,⟨by omega,by rw[hnx];simp;omega⟩,by dsimp only;omega,SC Z (SC Z (Sub.int Z yg (SN _))),ER⟩
end Cl
namespace LibC
open Go Vg T Go.Shelf
def nj(Fr:Nat→Prop)(w:World):Prop:=wD Tryz.prog Fr w "internal/strconv.uint64pow10" .u64 Lib.pow10Tab
theorem nj.st{X:Cx}{L:List HP}(hP:X.P=Tryz.prog)(h:nj X.Fr X.w0){Fr':Nat→Prop}{w:World}(hF:∀b,X.Fr b→Fr' b)(hw:St X L w):nj Fr' w:=wD.cP h hF hw.cP
theorem QM:sw Tryz.prog 42:=⟨_,Tryz.func42,by kernel_rfl,by kernel_rfl⟩
def oh(n:Int):ByteArray:=⟨(Lib.itoa n).toArray⟩
theorem KI(n:Int)(h0:-9223372036854775808≤n)(h1:n≤9223372036854775807)(ht:nj Fr w):
  ax Tryz.prog 42 [.int .i64 n] Fr w [] (fun v L=>v=.string (oh n)∧L=[]):=
 ax.U6 QM (Any.strconv_Itoa Tryz.Tv n h0 h1 w ht.is)
end LibC
namespace Au
open Go Vg T Api LibC
attribute [local irreducible] VO VC VA
def AV:Nat→List UInt8
 | 1=>[99,104,97,105,110]
 | 2=>[101,112,111,99,104]
 | 3=>[97,104,101,97,100]
 | 4=>[100,111,110,101]
 | 5=>[111,114,100,101,114]
 | 6=>[108,111,103]
 | 7=>[113,117,101,117,101]
 | 8=>[114,101,97,100,115]
 | 9=>[109,97,105,108]
 | _=>[]
def lP(n:Nat):ByteArray:=⟨(AV n).toArray⟩
def DP:List Value:=(List.range 10).map fun n=>.string (lP n)
def oI(Fr:Nat→Prop)(w:World):Prop:=bq Fr w 0 DP
theorem oI.st{X:Cx}{L:List HP}(h:oI X.Fr X.w0){Fr':Nat→Prop}{w:World}(hF:∀b,X.Fr b→Fr' b)(hw:St X L w):oI Fr' w:=bq.of h hF hw
theorem AW{n:Nat}(h:n<10):DP[0+n*1]?=some (.string (lP n)):=by
 rw[cj,pj]
 unfold DP
 rw[dH,List.getElem?_range h];rfl
theorem abD(n:Nat):(lP n).size≤5:=by
 unfold lP AV
 split<;>decide
def ux(f:FindM):ByteArray:=if 1≤f.1∧f.1≤9 then lP f.1.toNat++⟨#[32]⟩++oh f.2.1++⟨#[32]⟩++oh f.2.2 else ⟨#[]⟩
def wZ(n:Int):Prop:=-9223372036854775808≤n∧n≤9223372036854775807
theorem LZ{n:Int}(h:wZ n):(oh n).size≤21:=by
 have:=Lib.itoa_length_le n h.1 h.2
 show(Lib.itoa n).toArray.size≤21
 rw[List.size_toArray];omega
theorem uy(f:FindM)(h1:wZ f.2.1)(h2:wZ f.2.2)(hT:nj Fr w)(hW:oI Fr w):
  ax Tryz.prog 12 [.agg (bB f).toArray] Fr w [] (fun v L=>v=.string (ux f)∧L=[]):=by
 refine TF 25 Tryz.func12 Z yp aC Z Z ?_
 refine CS (CG (VG (VB (vs:=bB f) Z fun b1=>VG (VN ?_))))
 refine CS (CS ?_)
 refine VC.bZ (σ:=Bool) (fun b=>[(1,pV b1),(10,.bool b)]) (fun _=>[pt b1 (bB f) 59]) (fun b=>b=true↔¬(1≤f.1∧f.1≤9)) ?_ ?_
 ·refine CG ?_
  refine bG ?_
  by_cases g1:f.1<1
  ·refine VG (VY 6 true Z (DT g1) ?_)
   refine bG ?_
   exact⟨true,⟨fun _=>by omega,fun _=>rfl⟩,aH,ER⟩
  ·refine VG (VY 6 false Z (DF g1) ?_)
   refine bG ?_
   exact⟨decide (9<f.1),⟨fun h=>by have:=of_decide_eq_true h;omega,fun h=>DT yg⟩,aH,ER⟩
 rintro b hb
 refine CC Z (fun hbt=>?_) (fun hbf=>CK ?_)
 ·rw[show ux f=⟨#[]⟩ from if_neg (hb.1 hbt)]
  refine bG ?_
  exact qS
 have hc:1≤f.1∧f.1≤9:=EI fun h=>by rw[hb.2 h] at hbf;cases hbf
 rw[show ux f=lP f.1.toNat++⟨#[32]⟩++oh f.2.1++⟨#[32]⟩++oh f.2.2 from if_pos hc]
 obtain⟨n,hn⟩:∃n:Nat,f.1=n:=⟨f.1.toNat,by omega⟩
 have hn2:f.1.toNat=n:=by omega
 rw[hn2]
 have hn3:n<10:=by omega
 have s0:=abD n
 have s1:=LZ h1
 have s2:=LZ h2
 have e1:(lP n++(⟨#[32]⟩:ByteArray)).size=(lP n).size+1:=by rw[uL];rfl
 have e2:(lP n++(⟨#[32]⟩:ByteArray)++oh f.2.1).size=(lP n).size+1+(oh f.2.1).size:=by rw[uL,e1]
 have e3:(lP n++(⟨#[32]⟩:ByteArray)++oh f.2.1++⟨#[32]⟩).size=(lP n).size+1+(oh f.2.1).size+1:=by rw[uL,e2];rfl
 refine CS (CD (ts 0 7 (ts 10 2 (.only 7 (ts 8 2 (.only 12 (ts 13 2 .nil)))))) yp yr ?_)
 refine cW ?_
 refine AG (AI Z (iL n Z (by show some (Value.int .i64 f.1)=_;rw[hn]) Z Z Z Z yg) ?_)
 refine AG (VA.load Z Z Z (aw.aA hW (AW hn3)) ?_)
 refine AG (AI Z (oS Z Z (by show(lP n).size+1≤_;omega)) ?_)
 refine cW ?_
 refine AG (AR (fun Fr w hF hs _=>KI Fr w f.2.1 h1.1 h1.2 (nj.st Z hT hF hs)) Z Z PT ?_)
 refine AG (AI Z (oS Z Z (by rw[e1];omega)) ?_)
 refine AG (AI Z (oS Z Z (by rw[e2];show _+1≤_;omega)) ?_)
 refine AG (AR (fun Fr w hF hs _=>KI Fr w f.2.2 h2.1 h2.2 (nj.st Z hT hF hs)) Z Z PT ?_)
 refine AG (AI Z (oS Z Z (by rw[e3];omega)) ?_)
 refine cn ?_
 exact qS
end Au
namespace Cl
open Go Vg T Api Ch Rep Conf Lg Rd Au LibC
attribute [local irreducible] VO VC VA
deriving instance DecidableEq for dA
def GW:az:=rL (bh zC)
def qN(d:Int):dA:=⟨0,1,d,0,bM (bh zC),[0,0,0,0],[]⟩
theorem Wk:gM GW=[qN 0]:=by decide +kernel
theorem Wi:jm (bh zC) ⟨bM (bh zC),[qN 0],[],[]⟩=[]:=by decide +kernel
theorem Wj:jm (bh zC) ⟨bM (bh zC),[qN 1],[],[]⟩=[((4,0,1):FindM)]:=by decide +kernel
theorem SH:Tryz.prog.eqGuardType Tryz.prog.depth 59=false:=by kernel_rfl
theorem aaX:ux (4,0,1)=⟨#[100,111,110,101,32,48,32,49]⟩:=by decide +kernel
theorem aaY:ux (0,0,0)=⟨#[]⟩:=by decide +kernel
theorem aaZ:ux (9,16,-1)=⟨#[109,97,105,108,32,49,54,32,45,49]⟩:=by decide +kernel
theorem Xt:Tryz.prog.stoodInHeld 59=false:=by kernel_rfl
def RV(a b:FindM):Bool:=decide (a.1=b.1)&&(decide (a.2.1=b.2.1)&&(decide (a.2.2=b.2.2)&&true))
theorem RX(a b:FindM)(w:World):(Op.equal 59 (.agg (bB a).toArray) (.agg (bB b).toArray)).run Tryz.prog w=.ok (RV a b) w:=by
 have hi:∀(cs:List Value) (j:Nat) (n:Int),cs[j]?=some (.int .i64 n)→∀w:World,(part 3 cs.toArray j).run Tryz.prog w=.ok (.int .i64 n) w:=fun cs j n h w=>pO (oH.look aC (t:=3) (ti:=T.t3) rfl) rfl h w
 refine eU.run (eU.st Tryz.underlying59 Xt (hU.cons yy (hi _ _ _ Z) (hi _ _ _ Z) (eU.int Tryz.underlying3 a.1 b.1) (hU.cons yy (hi _ _ _ Z) (hi _ _ _ Z) (eU.int Tryz.underlying3 a.2.1 b.2.1) (hU.cons yy (hi _ _ _ Z) (hi _ _ _ Z) (eU.int Tryz.underlying3 a.2.2 b.2.2) hU.nil)))) yy w
abbrev tY:TypeId:=59
theorem Wl(hT:nj Fr w)(hW:oI Fr w):ax Tryz.prog 5 [] Fr w [] (fun v L=>v=.bool true∧L=[]):=by
 refine TF 64 Tryz.func5 Z yp aC Z Z ?_
 refine av ?_
 refine VG (VI (LB (pv:=[]) (zC.cells none 0) Z Z Z Z Z) ?_)
 refine VG (VK (Lc:=[]) (fun Fr w _ _ _=>Mx Fr w zC none 0 ⟨fun h=>absurd Z h⟩) Z Z ?_)
 rintro _ _ ⟨qa,qc,hqa,hqc,rfl,rfl⟩
 refine av ?_
 refine VG (VO.alloc Z fun b1=>?_)
 refine VG (VT (vs:=(bh zC).cells qa qc) (cs':=(bh zC).cells qa qc) 0 Z Z Z Z (NR _) Z Z Z ?_)
 refine av ?_
 refine VG (VL 0 ((bh zC).cells qa qc) Z Z Z Z ?_)
 refine VG (VK (Lc:=[]) (fun Fr w _ _ hS=>NB Fr w (bh zC) (rG (hS.at_ 1 Z)) hqc) Z Z ?_)
 intro v L1 g
 rw[if_pos J5] at g
 obtain⟨p,rfl,rfl⟩:=g
 refine av ?_
 refine VG (VK (Lc:=[]) (fun Fr w _ _ hS=>L3 (C:=GW) (b:=0) (e:=0) Fr w (LH J5) (fun r hr=>by
  obtain⟨n,_,e⟩:=cy.1 (show some r∈(List.range (bh zC).nodes.toNat).map fun(n:Nat)=>some (Rep.cJ (bh zC) n false) from hr)
  cases e
  have:(Rep.cJ (bh zC) n false).log=[]:=by
   unfold Rep.cJ
   split
   ·rfl
   split<;>rfl
  rw[this];exact bH _) (hS.at_ 0 rfl)) rfl rfl ?_)
 rintro _ _ ⟨⟨ch,ma,mc,rows,na,nc,dn,da,dc,mail,xa,xc⟩,qs,hqs,hV,hf,rfl,rfl⟩
 obtain rfl:qs=[]:=List.Perm.eq_nil hqs
 have hV:(⟨ch,rows.map cZ.n,dn,mail⟩:dz)=⟨bM (bh zC),gM GW,[],[]⟩:=hV
 rw[Wk] at hV
 injection hV with e1 e2 e3 e4
 subst e1 e3 e4
 obtain⟨x,rfl,hx⟩:∃x:cZ,rows=[x]∧x.n=qN 0:=by
  cases rows with
  | nil=>cases e2
  | cons x l=>
   cases l with
   | nil=>exact⟨x,rfl,(tF e2).1⟩
   | cons y l=>cases (tF e2).2
 clear e2
 obtain⟨n,ra,rc,wa,wc,la,lc⟩:=x
 dsimp only at hx
 subst hx
 let V:fC:=⟨bM (bh zC),ma,mc,[⟨qN 0,ra,rc,wa,wc,la,lc⟩],na,nc,[],da,dc,[],xa,xc⟩
 refine av ?_
 refine VG (VO.alloc Z fun b4=>?_)
 refine VG (VT (vs:=ez V) (cs':=ez V) 0 Z Z Z Z (NR _) Z Z Z ?_)
 refine gm ?_
 refine CN (L':=pt b4 (ez V) mA::pt b1 ((bh zC).cells qa qc) nW::iq qa qc (bh zC).qs::Hu V) (bb [0,6,6,0,0,0,0,0]).aj ?_
 refine av ?_
 refine VG (VY 17 false Z Z ?_)
 refine VG (VL 1 ((bh zC).cells qa qc) Z Z Z Z ?_)
 refine VG (VL 0 (ez V) Z Z Z Z ?_)
 refine VG (VK (Lc:=[]) (fun Fr w _ _ hS=>by
  have:=gv Fr w (c:=bh zC) (rG (hS.at_ 2 rfl)) hqa hqc (V:=V) (abv hf (hS.at_ 3 rfl) (hS.at_ 4 rfl) (hS.at_ 5 rfl) (hS.at_ 6 rfl) (hS.at_ 7 rfl))
  rw[show jm (bh zC) (fC.v V)=[] from Wi] at this
  exact this) Z Z ?_)
 rintro _ _ ⟨fa,fc,rfl,rfl⟩
 refine bG ?_
 refine VG (VY 24 false Z Z ?_)
 refine dG ?_
 refine fV ?_
 refine CN (L':=aq ia 9 na 1 nc (flat bI [⟨qN 0,ra,rc,wa,wc,la,lc⟩]) :: [pt b4 (ez V) mA,pt b1 ((bh zC).cells qa qc) nW,iq qa qc (bh zC).qs,aq aP 2 ma (bM (bh zC)).ms.length mc (flat aD (bM (bh zC)).ms),bF ([(⟨qN 0,ra,rc,wa,wc,la,lc⟩:cZ)].map gh),aq dK 7 da 0 dc (flat bm []),aq qQ 3 xa 0 xc (flat je [])]) (bb [5,1,1,1,1,1,1,1]).aj ?_
 refine VC.bz 0 Z (bd.C9 (c:=bI) (n:=9) ia na nc [⟨qN 0,ra,rc,wa,wc,la,lc⟩] (List.cons_ne_nil _ _)) ?_
 rintro⟨nb,rest⟩ ⟨rfl,_,_⟩
 dsimp only
 let V1:fC:=⟨bM (bh zC),ma,mc,[⟨qN 1,ra,rc,wa,wc,la,lc⟩],some ⟨nb,0,none⟩,nc,[],da,dc,[],xa,xc⟩
 have hf1:tM V1:=⟨fun x hx=>by
  obtain rfl:=fe.1 hx
  have:=hf.each _ (fe.2 rfl)
  exact⟨this.jN,this.wl,this.ll⟩,hf.jN,hf.rl,hf.dl,hf.xl⟩
 refine dG ?_
 refine Iu ?_
 refine av ?_
 refine VG (VO.st 0 (cs':=flat bI [⟨qN 1,ra,rc,wa,wc,la,lc⟩]++rest) Z Z Z Z (by show 2<(flat bI _++rest).length;rw[a8,eu u3];show 2<9+_;omega) Z Z ?_)
 refine av ?_
 refine VG (VL 2 ((bh zC).cells qa qc) Z Z Z Z ?_)
 refine VG (VL 1 (ez V1) Z Z Z Z ?_)
 refine VG (VK (Lc:=[]) (fun Fr w _ _ hS=>by
  have:=gv Fr w (c:=bh zC) (rG (hS.at_ 3 rfl)) hqa hqc (V:=V1) (NJ (nb:=nb) (rest:=rest) hf1 rfl (hS.at_ 4 rfl) (hS.aA 0 rfl) (hS.at_ 5 rfl) (hS.at_ 6 rfl) (hS.at_ 7 rfl))
  rw[show jm (bh zC) (fC.v V1)=[((4,0,1):FindM)] from Wj] at this
  exact this) Z Z ?_)
 rintro _ _ ⟨ga,gc,rfl,rfl⟩
 refine VG (VO.bz 0 Z (bd.C9 (c:=bB) (n:=3) tY ga gc [(4,0,1)] (List.cons_ne_nil _ _)) ?_)
 rintro⟨lb,lr⟩ ⟨rfl,_,_⟩
 dsimp only
 refine av ?_
 refine xS ?_
 refine av ?_
 refine Iu ?_
 refine VG (VL 0 (bB (4,0,1)) Z Z Z Z ?_)
 refine VG (VI (LB (pv:=[(0,.int .i64 4),(1,.int .i64 0),(2,.int .i64 1)]) (bB (4,0,1)) Z Z Z Z Z) ?_)
 refine VG (VI (KW SH Z Z (RX (4,0,1) (4,0,1))) ?_)
 refine av ?_
 refine VG (VY 47 true Z Z ?_)
 refine av ?_
 refine Iu ?_
 refine VG (VL 0 (bB (4,0,1)) Z Z Z Z ?_)
 refine VG (VV (fun Fr w hF hs _=>by have:=Au.uy Fr w (4,0,1) yI yI (nj.st Z hT hF hs) (oI.st hW hF hs);rw[aaX] at this;exact this) Z ?_)
 refine av ?_
 refine VG (VY 54 true Z yr ?_)
 refine av ?_
 refine VG (VI (LB (pv:=[]) (bB (0,0,0)) Z Z Z Z Z) ?_)
 refine VG (VV (fun Fr w hF hs _=>by have:=Au.uy Fr w (0,0,0) yI yI (nj.st Z hT hF hs) (oI.st hW hF hs);rw[aaY] at this;exact this) Z ?_)
 refine av ?_
 refine VG (VY 59 true Z yr ?_)
 refine av ?_
 refine VG (VI (LB (pv:=[(0,.int .i64 9),(1,.int .i64 16),(2,.int .i64 (-1))]) (bB (9,16,-1)) Z Z Z Z Z) ?_)
 refine VG (VV (fun Fr w hF hs _=>by have:=Au.uy Fr w (9,16,-1) yI yI (nj.st Z hT hF hs) (oI.st hW hF hs);rw[aaZ] at this;exact this) Z ?_)
 refine av ?_
 exact CR (an.bool 0 Z Z yr aa.nil.aj ⟨rfl,Z⟩)
end Cl
namespace Cl
open Go Vg T Api Ch Rep Conf Lg Rd Au
def db(x:Int):Prop:=-1000000000000000≤x∧x≤1000000000000000
structure BC(n:dA):Prop where
 id:db n.id
 ep:db n.ch.ar
 dn:db n.done
 rd:db n.ki
 ll:n.log.length≤5000
structure tJ(v:dz):Prop where
 nd:∀n∈v.nodes,BC n
 ml:∀m∈v.mail,db m.1∧db m.2.1
theorem UW{c:ba}{ch:aV}{n:dA}(hq:c.qs.length≤1000)(h:BC n){f:FindM}(hf:f∈gG c ch n):db f.2.1∧db f.2.2:=by
 unfold gG eM kC np at hf
 simp only[eP,mw] at hf
 have hl:=h.ll
 rcases hf with ((((hf | hf) | hf) | hf) | hf)
 ·rw[hf.2];exact⟨h.id,h.ep⟩
 ·rw[hf.2]
  refine⟨h.id,?_⟩
  show db (n.log.length:Int)
  unfold db;omega
 ·rw[hf.2];exact⟨h.id,h.dn⟩
 ·unfold fU at hf
  obtain⟨i,hi,hf⟩:=yZ.1 hf
  have:=tG.1 hi
  split at hf
  ·rw[mw] at hf
   rw[hf.2]
   refine⟨h.id,?_⟩
   show db (i:Int)
   unfold db;omega
  ·cases hf
 ·rw[hf.2];exact⟨h.id,h.rd⟩
theorem UY{v:dz}(h:tJ v){m:aS}{s:rf}(hs:(∀f∈s.1,db f.2.1∧db f.2.2)):∀f∈(Au.stepT v s m).1,db f.2.1∧db f.2.2:=by
 intro f hf
 unfold Au.stepT at hf
 split at hf
 ·rename_i n hn
  split at hf
  ·have hnm:=h.nd n (List.mem_of_find?_eq_some hn)
   have hl:=hnm.ll
   simp only[eP] at hf
   rcases hf with (hf | hf) | hf
   ·exact hs f hf
   ·unfold iP at hf
    split at hf
    ·rename_i a ha
     rw[mw] at hf
     rw[hf.2]
     refine⟨hnm.id,?_⟩
     have:=(xn n.log a.log).1
     show db ((dY n.log a.log:Nat):Int)
     unfold db;omega
    ·cases hf
   ·unfold jd at hf
    rw[mw] at hf
    rw[hf.2]
    refine⟨hnm.id,?_⟩
    have:=(xn n.log v.done).1
    show db ((dY n.log v.done:Nat):Int)
    unfold db;omega
  ·exact hs f hf
 ·exact hs f hf
theorem L0{v:dz}(h:tJ v):∀(ms:List aS) {s:rf},(∀f∈s.1,db f.2.1∧db f.2.2)→∀f∈(ms.foldl (Au.stepT v) s).1,db f.2.1∧db f.2.2
 | [],_,hs=>hs
 | m::ms,s,hs=>L0 h ms (UY h hs)
theorem UX{c:ba}(hc:c=bh c)(hq:c.qs.length≤1000){v:dz}(h:tJ v):∀f∈jm c v,db f.2.1∧db f.2.2:=by
 intro f hf
 rw[xe hc] at hf
 rcases hf with hf | ⟨n,hn,hf⟩ | ⟨_,hf⟩ | ⟨m,hm,_,rfl⟩
 ·unfold nT at hf
  rw[mw] at hf
  rw[hf.2]
  exact⟨by show db 0;unfold db;omega,by show db 0;unfold db;omega⟩
 ·exact UW hq (h.nd n hn) hf
 ·exact L0 h _ (fun f hf=>by cases hf) f hf
 ·exact h.ml m hm
def mL(want id:Int)(f:FindM):Bool:=decide (f.1=want)&&(decide (f.2.1=id)||decide (want=9))
theorem Found.SU{F:ba}{v:dz}{want id:Int}(h:Found F v want id):(jm F v).any (mL want id)=true:=by
 obtain⟨f,hf,h1,h2⟩:=h.any
 refine List.any_eq_true.2 ⟨f,hf,?_⟩
 unfold mL
 rw[DT h1,yS,Br,decide_eq_true_eq,decide_eq_true_eq]
 exact h2
theorem aaV{C:az}(nd:(C.aU.mail.map Prod.fst).Nodup){qs:List bE}(h:qs.Perm (C.aU.mail.map Prod.fst)):∀m∈qs.map (fun q=>((q.1,q.2,((C.aU.list q).length:Int)):l8)),∃x∈C.aU.mail,m.2.2=x.2.length∧m.1=x.1.1∧m.2.1=x.1.2:=by
 intro m hm
 obtain⟨q,hq,rfl⟩:=cy.1 hm
 obtain⟨x,hx,rfl⟩:=cy.1 (h.mem_iff.1 hq)
 refine⟨x,hx,?_,Z,Z⟩
 have:bX C.aU.mail x.1=some x.2:=Lh nd hx
 show((((bX C.aU.mail x.1).getD []).length:Nat):Int)=_
 rw[this];rfl
end Cl
namespace Cl
open Go Vg T Api Ch Rep Conf Lg Rd Au
structure tL where
 x:cZ
 mail:List l8
 xa:Option Addr
 xc:Nat
 want:Int
def nI(V:fC)(k:Nat)(s:tL):fC:=⟨V.ch,V.ma,V.mc,V.rows.set k s.x,V.na,V.nc,V.done,V.da,V.dc,s.mail,s.xa,s.xc⟩
def xD(V:fC)(k nb vb cb ct:Nat)(rest cc:List Value)(qh:HP)(s:tL):List HP:=[pt vb (ez (nI V k s)) mA,pt nb (flat bI (V.rows.set k s.x)++rest) ia,bF ((V.rows.set k s.x).map gh),aq aP 2 V.ma V.ch.ms.length V.mc (flat aD V.ch.ms),aq dK 7 V.da V.done.length V.dc (flat bm V.done),aq qQ 3 s.xa s.mail.length s.xc (flat je s.mail),pt cb cc ct,qh]
structure uW(F:ba)(V:fC)(k:Nat)(id:Int)(s:tL):Prop where
 found:Found F (nI V k s).v s.want id
 jq:tM (nI V k s)
 num:tJ (nI V k s).v
 id:s.x.n.id=id
 want:1≤s.want∧s.want≤9
theorem Ho(V:fC)(k:Nat)(s:tL):ez (nI V k s)=[.int .i64 V.ch.ar,.slice V.ma V.ch.ms.length V.mc,.int .i64 V.ch.drain,.slice V.na V.rows.length V.nc,.slice V.da V.done.length V.dc,.slice s.xa s.mail.length s.xc]:=by
 unfold ez nI
 rw[fW]
section
variable {F:ba} {C:az} {V:fC} {ml:List l8} {k:Nat} {x:cZ}
theorem AD(hV:V.v=gN C ml)(hx:V.rows[k]?=some x):(gM C)[k]?=some x.n:=by
 have e:V.rows.map cZ.n=gM C:=congrArg dz.nodes hV
 rw[←e,dH,hx];rfl
theorem AE(hV:V.v=gN C ml)(s:tL)(hm:s.mail=V.mail):(nI V k s).v=uv (gN C ml) k s.x.n:=by
 have e:V.rows.map cZ.n=gM C:=congrArg dz.nodes hV
 have e2:V.mail=ml:=congrArg dz.mail hV
 have e3:V.ch=C.aG.ch:=congrArg dz.ch hV
 have e4:V.done=C.done:=congrArg dz.done hV
 show(⟨V.ch,(V.rows.set k s.x).map cZ.n,V.done,s.mail⟩:dz)=⟨C.aG.ch,(gM C).set k s.x.n,C.done,ml⟩
 rw[gZ,e,hm,e2,e3,e4]
theorem Xh(hV:V.v=gN C ml)(hx:V.rows[k]?=some x)(t:l8)(xa:Option Addr)(xc:Nat)(want:Int):(nI V k ⟨x,V.mail ++ [t],xa,xc,want⟩).v=gN C (ml ++ [t]):=by
 have e:V.rows.map cZ.n=gM C:=congrArg dz.nodes hV
 have e2:V.mail=ml:=congrArg dz.mail hV
 have e3:V.ch=C.aG.ch:=congrArg dz.ch hV
 have e4:V.done=C.done:=congrArg dz.done hV
 show(⟨V.ch,(V.rows.set k x).map cZ.n,V.done,V.mail ++ [t]⟩:dz)=⟨C.aG.ch,gM C,C.done,ml ++ [t]⟩
 rw[AB hx,e,e2,e3,e4]
theorem xE(f:tM V){s:tL}(hx:zh s.x)(hm:s.mail.length≤5000):tM (nI V k s):=by
 refine⟨fun y hy=>?_,f.jN,by show(V.rows.set k s.x).length≤1000;rw[fW];exact f.rl,f.dl,hm⟩
 rcases kx (show y∈V.rows.set k s.x from hy) with h | h
 ·exact f.each y h
 ·rw[h];exact hx
theorem xF(f:tJ V.v){s:tL}(hx:BC s.x.n)(hm:∀m∈s.mail,db m.1∧db m.2.1):tJ (nI V k s).v:=by
 refine⟨fun n hn=>?_,hm⟩
 obtain⟨y,hy,rfl⟩:=cy.1 (show n∈(V.rows.set k s.x).map cZ.n from hn)
 rcases kx hy with h | h
 ·exact f.nd _ (List.mem_map_of_mem h)
 ·rw[h];exact hx
theorem UZ{b e:Nat}{g:Gh}(ok:C.Ok b e)(hg:cR C g)(hV:V.v=gN C ml)(hml:∀m∈ml,∃z∈C.aU.mail,m.2.2=z.2.length∧m.1=z.1.1∧m.2.1=z.1.2):tJ V.v:=by
 obtain⟨v,q1,q2,q3,q4⟩:=hg.m.at_
 obtain⟨z,z1,_⟩:=hg.m.z
 have hv1:1≤v:=hg.m.gi.eR.pos IH
 have hv:=hg.m.gi.eR.ok v _ q2 hv1
 have he2:=hv.e2
 have hnl:C.nodes.length≤6:=by
  have:=ok.nl
  have:=kG ok.cf
  omega
 rw[hV]
 refine⟨fun n hn=>?_,fun m hm=>?_⟩
 ·obtain⟨j,r,h1,rfl⟩:=vG (show n∈gM C from hn)
  obtain⟨u,u1,u2⟩:=(hg.oe j r h1).ch
  have ul:=(bP.1 u2).1
  have okr:=(ok.fit r (ME h1)).ok
  have hj:=(bP.1 h1).1
  have:=okr.au.i_
  have:=okr.au.ln
  have:=okr.au.lu
  have:=okr.last
  have:=okr.rl
  have:=okr.gA
  refine⟨?_,?_,?_,?_,?_⟩
  ·show db (j:Int);unfold db;omega
  ·show db r.ch.ar;unfold db;omega
  ·show db r.au.done;unfold db;omega
  ·show db (r.aQ.l.length:Int);unfold db;omega
  ·show r.log.length≤5000;omega
 ·obtain⟨z,hz,_,h1,h2⟩:=hml m hm
  obtain⟨a1,a2⟩:=ok.l9 z hz
  rw[h1,h2]
  have hb:∀a,h_ a=true→db a:=fun a ha=>by
   unfold h_ at ha
   simp only[Br,eG,decide_eq_true_eq] at ha
   unfold db;omega
  exact⟨hb _ a1,hb _ a2⟩
variable (hF:F=bh F) (h:rh F (gN C ml)) (hV:V.v=gN C ml) (hx:V.rows[k]?=some x) (jq:tM V) (num:tJ V.v)
include hF h hV hx jq num
theorem vJ:BC x.n∧zh x:=⟨num.nd _ (List.mem_map_of_mem (ME hx)),jq.each _ (ME hx)⟩
theorem Xc:uW F V k x.n.id ⟨{ x with n:=Dk x.n },V.mail,V.xa,V.xc,4⟩:=by
 obtain⟨hn,hr⟩:=vJ hF h hV hx jq num
 refine⟨?_,xE jq ⟨hr.jN,hr.wl,hr.ll⟩ jq.xl,xF num ⟨hn.id,hn.ep,?_,hn.rd,hn.ll⟩ num.ml,Z,by dsimp only;omega⟩
 ·rw[AE hV _ rfl];exact Sd hF h (AD hV hx)
 ·have:=hn.ll
  show db ((x.n.log.length:Int)+1)
  unfold db;omega
theorem Xd{q:Nat}(hq:q<F.qs.length)(hw:q<x.n.waits.length)(hwl:F.queue≤1000):uW F V k x.n.id ⟨{ x with n:=xG F q x.n },V.mail,V.xa,V.xc,7⟩:=by
 obtain⟨hn,hr⟩:=vJ hF h hV hx jq num
 refine⟨?_,xE jq ⟨hr.jN,by show(x.n.waits.set q (F.queue+1)).length≤1000;rw[fW];exact hr.wl,hr.ll⟩ jq.xl,xF num ⟨hn.id,hn.ep,hn.dn,hn.rd,hn.ll⟩ num.ml,Z,by dsimp only;omega⟩
 rw[AE hV _ rfl];exact Se hF h (AD hV hx) hq hw
theorem xC(h0:0≤F.reads)(h1:F.reads≤1000):uW F V k x.n.id ⟨{ x with n:=Dl F x.n },V.mail,V.xa,V.xc,8⟩:=by
 obtain⟨hn,hr⟩:=vJ hF h hV hx jq num
 refine⟨?_,xE jq ⟨hr.jN,hr.wl,hr.ll⟩ jq.xl,xF num ⟨hn.id,hn.ep,hn.dn,?_,hn.ll⟩ num.ml,Z,by dsimp only;omega⟩
 ·rw[AE hV _ rfl];exact Sf hF h (AD hV hx)
 ·show db (F.reads+1)
  unfold db;omega
theorem Xe(xa:Option Addr)(xc:Nat)(hm:V.mail.length≤4000):uW F V k x.n.id ⟨x,V.mail ++ [(1,2,F.link+1)],xa,xc,9⟩:=by
 obtain⟨hn,hr⟩:=vJ hF h hV hx jq num
 refine⟨?_,xE jq hr (by show(V.mail ++ [_]).length≤5000;rw[a8,Bw];omega),xF num hn fun m hmm=>?_,Z,by dsimp only;omega⟩
 ·rw[Xh hV hx];exact Sg (x:=x.n) hF h
 ·rcases eP.1 hmm with g | g
  ·exact num.ml m g
  ·rw[fe.1 g]
   exact⟨by show db 1;unfold db;omega,by show db 2;unfold db;omega⟩
theorem Xf(he:db (C.aG.ch.ar+1)):uW F V k x.n.id ⟨{ x with n:=Dm C.aG.ch.ar x.n },V.mail,V.xa,V.xc,2⟩:=by
 obtain⟨hn,hr⟩:=vJ hF h hV hx jq num
 refine⟨?_,xE jq ⟨hr.jN,hr.wl,hr.ll⟩ jq.xl,xF num ⟨hn.id,he,hn.dn,hn.rd,hn.ll⟩ num.ml,Z,by dsimp only;omega⟩
 rw[AE hV _ rfl];exact Sh hF h (AD hV hx)
theorem Xg(hm:(x.n.id,x.n.since)∈C.aG.ch.ms)(hl:0<x.n.log.length)(hd:0<C.done.length):uW F V k x.n.id ⟨{ x with n:=o7 x.n },V.mail,V.xa,V.xc,6⟩:=by
 obtain⟨hn,hr⟩:=vJ hF h hV hx jq num
 refine⟨?_,xE jq ⟨hr.jN,hr.wl,by show(AF x.n.log).length≤5000;rw[Dn];exact hr.ll⟩ jq.xl,xF num ⟨hn.id,hn.ep,hn.dn,hn.rd,by show(AF x.n.log).length≤5000;rw[Dn];exact hn.ll⟩ num.ml,Z,by dsimp only;omega⟩
 rw[AE hV _ rfl];exact Sj hF h (AD hV hx) hm hl hd
end
end Cl
namespace Cl
open Go Vg T Api Ch Rep Conf Lg Rd Au LibC
attribute [local irreducible] VO VC VA
theorem bd.ints(el:Nat)(a:Option Addr)(cap:Nat)(qs:List Int)(hne:0<qs.length):bd (ι:=Nat×List Value) (aq el 1 a qs.length cap (bV qs)) (fun y=>a=some ⟨y.1,0,none⟩∧qs.length≤cap∧(bV qs++y.2).length=cap*1) (fun y=>[pt y.1 (bV qs++y.2) el]):=by
 intro w ids h hn
 obtain⟨y,hy,ids',h1,h2,h3⟩:=bd.sl el 1 a qs.length cap (bV qs) w ids h hn
 cases y with
 | none=>obtain⟨_,_,_,h,_⟩:=hy;omega
 | some y=>
  obtain⟨b,rest⟩:=y
  obtain⟨_,h6,h7,h8⟩:=hy
  exact⟨(b,rest),⟨h7,h6,h8⟩,ids',h1,h2,h3⟩
theorem ints_set{ws:List Int}{q:Nat}(hq:q<ws.length)(v:Int)(rest:List Value):(bV ws++rest).set (0+q*1) (.int .i64 v)=bV (ws.set q v)++rest:=by
 rw[cj,pj,List.set_append_left _ _ (by simpa[bV] using hq)]
 simp[bV,gZ]
abbrev DE:TypeId:=26
def GU(V:fC)(nb vb cb hb:Nat)(rest cc:List Value)(qh:HP)(h0 h1:Int):List HP:=[pt nb (flat bI V.rows++rest) ia,pt vb (ez V) mA,bF (V.rows.map gh),aq aP 2 V.ma V.ch.ms.length V.mc (flat aD V.ch.ms),aq dK 7 V.da V.done.length V.dc (flat bm V.done),aq qQ 3 V.xa V.mail.length V.xc (flat je V.mail),pt cb cc nW,qh,pt hb [.int .u8 h0,.int .u8 h1] DE]
theorem Hn{V:fC}{k nb vb cb hb:Nat}{rest cc:List Value}{qh:HP}{h0 h1:Int}{x x':cZ}(hx:V.rows[k]?=some x)(hr:gh x'=gh x)(want:Int):
  aa (pt nb (flat bI (V.rows.set k x')++rest) ia::(GU V nb vb cb hb rest cc qh h0 h1).tail) (xD V k nb vb cb nW rest cc qh ⟨x',V.mail,V.xa,V.xc,want⟩):=by
 have e:(V.rows.set k x').map gh=V.rows.map gh:=by
  rw[gZ,hr]
  exact AB (by rw[dH,hx];rfl)
 have e2:=Ho V k ⟨x',V.mail,V.xa,V.xc,want⟩
 unfold xD
 rw[e,e2]
 exact(bb [1,0,0,0,0,0,0,0])
theorem pQ{V:fC}{k:Nat}{x:cZ}(hx:V.rows[k]?=some x){j:Nat}{v:Value}(hj:(bI x)[j]?=some v)(rest:List Value):(flat bI V.rows++rest)[0+k*9+j]?=some v:=by
 rw[cj];exact oN u3 hx hj rest
theorem G_{V:fC}{k:Nat}{x x':cZ}(hx:V.rows[k]?=some x){j:Nat}(hj:j<9){v:Value}(hc:(bI x).set j v=bI x')(rest:List Value):(flat bI V.rows++rest).set (0+k*9+j) v=flat bI (V.rows.set k x')++rest:=by
 rw[cj];exact u_ u3 hx hj hc rest
theorem G9{V:fC}{k:Nat}(hk:k<V.rows.length){j:Nat}(hj:j<9)(rest:List Value):0+k*9+j<(flat bI V.rows++rest).length:=by
 rw[a8,eu u3];omega
theorem wV{V:fC}{k:Nat}{x x':cZ}(hx:V.rows[k]?=some x)(hc:bI x'=bI x):flat bI (V.rows.set k x')=flat bI V.rows:=by
 unfold flat
 rw[gZ,hc]
 rw[AB (by rw[dH,hx];rfl)]
def CZ(V:fC)(nb vb cb hb:Nat)(rest cc:List Value)(qh:HP)(h0 h1:Int):List HP:=[pt nb (flat bI V.rows++rest) ia,pt vb (ez V) mA,aq aP 2 V.ma V.ch.ms.length V.mc (flat aD V.ch.ms),aq dK 7 V.da V.done.length V.dc (flat bm V.done),aq qQ 3 V.xa V.mail.length V.xc (flat je V.mail),pt cb cc nW,qh,pt hb [.int .u8 h0,.int .u8 h1] DE]
theorem MB{V:fC}{k nb vb cb hb:Nat}{rest cc:List Value}{qh:HP}{h0 h1:Int}{x:cZ}(hx:V.rows[k]?=some x):
  aa (GU V nb vb cb hb rest cc qh h0 h1) (aq vg 1 x.wa x.n.waits.length x.wc (bV x.n.waits)::aq dK 7 x.la x.n.log.length x.lc (flat bm x.n.log)::aq aP 2 x.ma x.n.ch.ms.length x.mc (flat aD x.n.ch.ms)::bF ((V.rows.eraseIdx k).map gh)::CZ V nb vb cb hb rest cc qh h0 h1):=
 aa.trans (M:=bF (V.rows.map gh)::CZ V nb vb cb hb rest cc qh h0 h1) (IP 2 rfl aa.refl) (aa.trans (Ag (f:=gh) hx) (aa.AM (Ls:=C7 x) (IP 1 rfl (IP 1 rfl (IP 0 rfl aa.refl)))))
theorem MA{V:fC}{k nb vb cb hb:Nat}{rest cc:List Value}{qh:HP}{h0 h1:Int}(hk:k<V.rows.length)(x':cZ)(want:Int):
  aa (aq vg 1 x'.wa x'.n.waits.length x'.wc (bV x'.n.waits)::aq dK 7 x'.la x'.n.log.length x'.lc (flat bm x'.n.log)::aq aP 2 x'.ma x'.n.ch.ms.length x'.mc (flat aD x'.n.ch.ms)::bF ((V.rows.eraseIdx k).map gh)::pt nb (flat bI (V.rows.set k x')++rest) ia::(CZ V nb vb cb hb rest cc qh h0 h1).tail) (xD V k nb vb cb nW rest cc qh ⟨x',V.mail,V.xa,V.xc,want⟩):=by
 have e2:=Ho V k ⟨x',V.mail,V.xa,V.xc,want⟩
 unfold xD
 rw[e2]
 refine aa.trans (M:=bF ((V.rows.set k x').map gh)::pt nb (flat bI (V.rows.set k x')++rest) ia::(CZ V nb vb cb hb rest cc qh h0 h1).tail) ?_ (bb [2,1,0,0,0,0,0,0])
 refine aa.trans ?_ (Af (f:=gh) hk x')
 exact aa.sep (Ls:=C7 x') (IP 2 Z (IP 0 Z (IP 0 Z aa.refl)))
end Cl
namespace Cl
open Go Vg T Api Ch Rep Conf Lg Rd Au LibC Sched
attribute [local irreducible] VO VC VA
theorem Nb{n:Int}(h:db n):wZ n:=by unfold wZ;have:=h.1;have:=h.2;omega
theorem Nk{f:FindM}(h:1≤f.1∧f.1≤9):(!((ux f).toList == (⟨#[]⟩:ByteArray).toList))=true:=by
 unfold ux
 rw[if_pos h]
 cases hh:((lP f.1.toNat++⟨#[32]⟩++oh f.2.1++⟨#[32]⟩++oh f.2.2).toList == (⟨#[]⟩:ByteArray).toList) with
 | false=>rfl
 | true=>
  exfalso
  have e:=eq_of_beq hh
  rw[ByteArray.toList_eq,ByteArray.toList_eq] at e
  have e2:=congrArg List.length e
  rw[Array.length_toList,Array.length_toList] at e2
  have e3:(lP f.1.toNat++(⟨#[32]⟩:ByteArray)++oh f.2.1++⟨#[32]⟩++oh f.2.2).size=0:=e2
  rw[uL,uL,uL,uL] at e3
  have e4:(⟨#[32]⟩:ByteArray).size=1:=rfl
  omega
theorem Qn(c:ba)(ca:Option Addr)(cc:Nat)(hq:gp Fr w ca c.qs)(hcc:c.qs.length≤cc){la:Option Addr}{ap1:Nat}{l:List dU}(hr:aT dU.cells 8 Fr w la l)(hll:l.length≤9223372036854775807)(h0 h1:Int)(h00:0≤h0)(h01:h0≤255)(h10:0≤h1)(h11:h1≤255)(hT:nj Fr w)(hW:oI Fr w):
  ax Tryz.prog 3 [.agg (c.cells ca cc).toArray,.slice la l.length ap1,.agg #[.int .u8 h0,.int .u8 h1]] Fr w [] (fun v L=>v=.bool true∧L=[]):=by
 have fin:∀{L:List HP},dd ⟨Tryz.prog,tab,aC,240,Fr,w⟩ L []:=aa.nil.aj
 refine TF 240 Tryz.func3 Z yp aC Z Z ?_
 refine CS (CG (VG (VB (vs:=c.cells ca cc) Z fun cb=>?_)))
 refine VG (VB (vs:=[.int .u8 h0,.int .u8 h1]) Z fun hb=>?_)
 refine dF ?_
 by_cases h20:(20:Int)<c.qs.length
 ·refine VG (VY 23 true Z (DT h20) ?_)
  refine oy ?_
  exact uK
 refine VG (VY 23 false Z (DF h20) ?_)
 refine ae ?_
 refine VG (VV (fun Fr w hF hw hS=>SF Fr w (hr.of hF hw) hll 60) Z ?_)
 refine ae ?_
 refine CC Z (fun hg=>?_) (fun hg=>CK ?_)
 ·refine ae ?_
  exact uK
 have hl60:l.length≤60:=by
  unfold zK at hg
  simp only[EH,decide_eq_false_iff_not] at hg
  omega
 refine ae ?_
 refine VG (VL 1 (c.cells ca cc) Z Z Z Z ?_)
 refine VG (VK (Lc:=[]) (fun Fr w hF hw hS=>Mx Fr w c ca cc (pG hq hF hw)) Z Z ?_)
 rintro _ _ ⟨fa,fc,hfa,hfc,rfl,rfl⟩
 have hF:=Adm.R6 c
 generalize bh c=F at hF hfc
 have hcb:=kG hF
 have hcb2:=wO hF
 refine VG (VT (vs:=F.cells fa fc) (cs':=F.cells fa fc) 2 Z Z Z Z (NR _) Z Z Z ?_)
 refine ae ?_
 refine VG (VL 2 (F.cells fa fc) Z Z Z Z ?_)
 refine VG (VK (Lc:=[]) (fun Fr w hF' hw hS=>NB Fr w F (rG (hS.at_ 0 Z)) hfc) Z Z ?_)
 intro v L1 g
 rw[if_pos hF] at g
 obtain⟨p,rfl,rfl⟩:=g
 refine si ?_
 refine VC.loop (σ:=Nat×az) (fun s=>[(1,.slice la l.length ap1),(3,pV cb),(5,pV hb),(7,pV p),(9,.int .i64 (s.1:Int))]) (fun s=>[ek p s.2,iq fa fc F.qs,pt hb [.int .u8 h0,.int .u8 h1] DE,pt cb (F.cells fa fc) nW]) (fun s=>s.1≤l.length∧uV F s.2 s.1∧dh F s.2∧∃g,cR s.2 g) (fun s=>l.length-s.1) (0,rL F)
  ⟨bH _,uV.new hF,dh.new hF,_,cR.new hF⟩ aH ER ?_
 rintro⟨i,C⟩ ⟨hi,hRC,hcap,g,hsaf⟩
 dsimp only at hi hRC hcap hsaf ⊢
 refine ae ?_
 refine CP (p:=(i:Int)<l.length) Z (fun hlt=>CK ?_) (fun hlt=>CX ?_)
 ·have hil:i<l.length:=by omega
  have hx:l[i]?=some l[i]:=GE hil
  generalize l[i]=s at hx
  obtain⟨sb,so,rfl,ra,rc⟩:=aT.rd (X:=⟨Tryz.prog,tab,aC,240,Fr,w⟩) hr hx
  refine ae ?_
  refine VG (VI (eE i Z Z Z Z Z Z hil) ?_)
  refine uB ?_
  refine VG (VQ 0 Z (fun Fr w hF' hs hS=>aa3 Fr w hRC.ok yg yg s) Z (ψ:=fun v H=>v=.int .i64 (C.jV s).2∧H=ek p (C.jV s).1) yz ?_)
  rintro _ _ ⟨rfl,rfl⟩
  refine gC ?_
  exact⟨(i+1,(C.jV s).1),⟨hil,hRC.jV yg s,hcap.jV s,hsaf.jV s⟩,by dsimp only;omega,SC Z (SC Z (SC Z (SC Z (Sub.int Z fB (SN _))))),ER⟩
 have ok:=hRC.ok
 have hcf:=hRC.cf
 have hcl:=Kk ok.aU ok.l9
 refine ae ?_
 refine VG (VK (Lc:=[]) (fun Fr w hF' hw hS=>L3 Fr w ok (fun r hr=>by
  have okr:=(ok.fit r hr).ok
  have:=okr.au.i_
  have:=okr.last
  omega) (hS.at_ 0 rfl)) rfl rfl ?_)
 rintro _ _ ⟨V,qs,hqs,hV,hf,rfl,rfl⟩
 have hml:=aaV ok.aU.nd hqs
 have hnum:=UZ ok hsaf hV hml
 have hfine:=hsaf.R2 hcap ok (mail:=qs.map (jx C)) (fun m hm=>by
  obtain⟨z,hz,hz1,_⟩:=hml m hm
  exact⟨z,hz,hz1⟩)
 have hmlen:V.mail.length≤1444:=by
  have e:V.mail=qs.map (jx C):=congrArg dz.mail hV
  have:=hqs.length_eq
  rw[cY] at this
  rw[e,cY]
  omega
 have hdone:V.done=C.done:=congrArg dz.done hV
 have hch:V.ch=C.aG.ch:=congrArg dz.ch hV
 have hwait:∀x∈V.rows,x.n.waits.length=4:=fun x hx=>by
  have e:V.rows.map cZ.n=gM C:=congrArg dz.nodes hV
  have hm:x.n∈gM C:=by rw[←e];exact List.mem_map_of_mem hx
  obtain⟨j,r,_,e2⟩:=vG hm
  rw[e2]
  simp[vF]
 refine VG (VO.alloc Z fun vb=>?_)
 refine VG (VT (vs:=ez V) (cs':=ez V) 0 Z Z Z Z (NR _) Z Z Z ?_)
 refine al ?_
 refine CE Z (fun h3=>?_) (fun h3=>CK ?_)
 ·refine ae ?_
  exact uK
 refine CN (L':=aq ia 9 V.na V.rows.length V.nc (flat bI V.rows) :: [pt vb (ez V) mA,bF (V.rows.map gh),aq aP 2 V.ma V.ch.ms.length V.mc (flat aD V.ch.ms),aq dK 7 V.da V.done.length V.dc (flat bm V.done),aq qQ 3 V.xa V.mail.length V.xc (flat je V.mail),pt cb (F.cells fa fc) nW,iq fa fc F.qs,pt hb [.int .u8 h0,.int .u8 h1] DE]) (bb [2,0,1,0,0,0,3,1,1]).aj ?_
 refine VC.bz 0 Z (bd.C9 (c:=bI) (n:=9) ia V.na V.nc V.rows (fun e=>h3 Bj)) ?_
 rintro⟨nb,rest⟩ ⟨hna,_,_⟩
 dsimp only
 show VC _ _ _ (GU V nb vb cb hb rest (F.cells fa fc) (iq fa fc F.qs) h0 h1) _
 have hrl:=hf.rl
 have hr0:0<V.rows.length:=by omega
 obtain⟨k,hk,hkl⟩:∃k:Nat,h1 % (V.rows.length:Int)=k∧k<V.rows.length:=by
  have a1:=Int.emod_nonneg h1 (show(V.rows.length:Int)≠0 by omega)
  have a2:=Int.emod_lt_of_pos h1 (show(0:Int)<V.rows.length by omega)
  exact⟨(h1 % (V.rows.length:Int)).toNat,by omega,by omega⟩
 have hx:V.rows[k]?=some V.rows[k]:=GE hkl
 generalize V.rows[k]=x at hx
 have hxm:=ME hx
 have hw4:=hwait x hxm
 obtain⟨hnx,hrx⟩:=vJ hF hfine hV hx hf hnum
 have hrll:=hrx.ll
 have hvna:∀{X:Cx} {L:List HP},L[1]?=some (pt vb (ez V) mA)→aw X L t42 vb (0+3) (.slice (some ⟨nb,0,none⟩) V.rows.length V.nc):=fun hL=>aw.one 1 hL (by rw[←hna];rfl)
 refine CS (CD (ts 0 11 .nil) yp yr ?_)
 refine cn ?_
 refine AG (yE Z Z Z (hvna Z) ?_)
 refine cn ?_
 refine yF ?_
 (repeat(first|refine yG (yN ?_)|refine yG (yD 0 rfl rfl rfl rfl rfl ?_)|refine yG (yD 1 rfl rfl rfl rfl rfl ?_)|refine yG (yD 2 rfl rfl rfl rfl rfl ?_)|refine yG (yD 3 rfl rfl rfl rfl rfl ?_)|refine yG (yD 4 rfl rfl rfl rfl rfl ?_)|refine yG (yD 5 rfl rfl rfl rfl rfl ?_)|refine yG (yD 6 rfl rfl rfl rfl rfl ?_)|refine yG (yD 7 rfl rfl rfl rfl rfl ?_)|refine yG (yD 8 rfl rfl rfl rfl rfl ?_)|refine yG (yU rfl rfl rfl rfl ?_)))
 refine AG (AI Z (pI h1 Z Z Z Z Z (i64_in _ yg yg)) ?_)
 refine cn ?_
 refine AG (yE Z Z Z (hvna Z) ?_)
 refine cn ?_
 refine AG (AI Z (zZ Z Z h10 yg) ?_)
 rw[hk]
 refine cn ?_
 refine Is ?_
 refine cn ?_
 refine jz ?_
 refine CS (VC.bZ (σ:=tL) (fun s=>[(3,pV cb),(10,pV vb),(11,.pointer (some ⟨nb,0+k*9,none⟩)),(12,.int .i64 s.want)]) (fun s=>xD V k nb vb cb nW rest (F.cells fa fc) (iq fa fc F.qs) s) (fun s=>uW F V k x.n.id s) ?_ ?_)
 ·refine ae ?_
  refine VG (VI (iL 0 Z Z Z Z Z Z yy) ?_)
  refine VG (VO.ld 8 Z Z Z Z ?_)
  refine VG (VI (zZ Z Z h00 yy) ?_)
  have hm6:h0 % 6=0∨h0 % 6=1∨h0 % 6=2∨h0 % 6=3∨h0 % 6=4∨h0 % 6=5:=by omega
  rcases hm6 with e6 | e6 | e6 | e6 | e6 | e6
  ·rw[e6]
   refine vY ?_
   refine VG (VO.ld 0 Z Z Z (pQ hx (j:=8) Z rest) ?_)
   refine gC ?_
   refine VG (VO.st 0 (cs':=flat bI (V.rows.set k { x with n:=Dk x.n })++rest) Z Z Z Z (G9 hkl yy rest) (G_ hx yy Z rest) Z ?_)
   refine ae ?_
   exact⟨_,Xc hF hfine hV hx hf hnum,SC Z (SC Z (SC Z (SC Z (SN _)))),(Hn (x':={ x with n:=Dk x.n }) hx Z 4).aj⟩
  ·rw[e6]
   refine r9 ?_
   refine r_ ?_
   refine jz ?_
   refine CS (CS (CD (ts 0 9 .nil) yp yr ?_))
   refine cn ?_
   refine AG (VA.ld 0 Z Z Z Z (pQ hx (j:=7) Z rest) ?_)
   refine HU ?_
   have hql:=Conf.sX F.qs
   rw[←show F.qs=eI F.qs from congrArg ba.qs hF] at hql
   refine CP (p:=(x.n.waits.length:Int)<F.qs.length) Z (fun h=>absurd h yg) (fun _=>CK ?_)
   refine CN (MB hx).aj ?_
   refine VC.bz 0 Z (bd.ints vg x.wa x.wc x.n.waits yg) ?_
   rintro⟨wb,wrest⟩ ⟨hwa,hwc,hwl⟩
   dsimp only
   obtain⟨q,hq1,hq2⟩:∃q:Nat,h1 % (F.qs.length:Int)=q∧q<F.qs.length:=by
    have a1:=Int.emod_nonneg h1 (show(F.qs.length:Int)≠0 by omega)
    have a2:=Int.emod_lt_of_pos h1 (show(0:Int)<F.qs.length by omega)
    exact⟨(h1 % (F.qs.length:Int)).toNat,by omega,by omega⟩
   have hqu:1≤F.queue∧F.queue≤16:=by
    have e:F.queue=aF F.queue 1 16:=congrArg ba.queue hF
    have h2:=kc (x:=F.queue) (lo:=1) (hi:=16) yy
    rw[←e] at h2
    exact h2
   refine CD (ts 0 15 (.only 15 .nil)) yp yr ?_
   refine cn ?_
   refine AG (VA.ld 4 Z Z Z Z (pQ hx (j:=7) (v:=.slice (some ⟨wb,0,none⟩) x.n.waits.length x.wc) (by rw[←hwa];rfl) rest) ?_)
   refine cn ?_
   refine yF ?_
   refine AG (VA.ld 11 Z Z Z Z Z ?_)
   refine AG (AI Z (pI h1 Z Z Z Z Z (i64_in _ yg yg)) ?_)
   refine cn ?_
   refine AG (VA.ld 9 Z Z Z Z Z ?_)
   refine cn ?_
   refine AG (AI Z (zZ Z Z h10 yg) ?_)
   rw[hq1]
   refine cn ?_
   refine AG (VA.ld 9 Z Z Z Z Z ?_)
   refine pY ?_
   refine AG (AI Z (eE q Z Z Z Z Z Z yg) ?_)
   refine AG (VA.st 0 (cs':=bV (x.n.waits.set q (F.queue+1))++wrest) Z Z Z Z Z (by show 0+q*1<(bV x.n.waits++wrest).length;rw[cj,pj,a8];have:(bV x.n.waits).length=x.n.waits.length:=(by simp[bV]);omega) (ints_set yg _ _) Z yu ?_)
   refine cn ?_
   refine⟨_,Xd hF hfine hV hx hf hnum hq2 yg yg,SC Z (SC Z (SC Z (SC Z (SN _)))),(aa.trans ?_ (MA (V:=V) (nb:=nb) (vb:=vb) (cb:=cb) (hb:=hb) (rest:=rest) (cc:=F.cells fa fc) (qh:=iq fa fc F.qs) (h0:=h0) (h1:=h1) hkl { x with n:=xG F q x.n } 7)).aj⟩
   rw[wV hx (x':={ x with n:=xG F q x.n }) (by show bI _=bI _;unfold bI xG;rw[fW])]
   dsimp only
   rw[hwa]
   have hlen:(bV (x.n.waits.set q (F.queue+1))++wrest).length=x.wc*1:=by
    rw[←hwl,a8,a8]
    simp[bV]
   show aa _ (aq vg 1 (some ⟨wb,0,none⟩) (x.n.waits.set q (F.queue+1)).length x.wc (bV (x.n.waits.set q (F.queue+1)))::_)
   exact aa.sl (by simp[bV]) (by rw[fW];exact hwc) hlen (IP 0 Z aa.refl)
  ·rw[e6]
   refine yK ?_
   refine r_ ?_
   have hqr:1≤F.reads∧F.reads≤16:=hcb.2.2.2.1
   refine CD (ts 0 7 (.only 7 .nil)) yp yr ?_
   refine HU ?_
   refine pY ?_
   refine cn ?_
   refine AG (VA.st 0 (cs':=flat bI (V.rows.set k { x with n:=Dl F x.n })++rest) Z Z Z Z Z (G9 hkl yy rest) (G_ hx yy Z rest) Z yu ?_)
   refine cn ?_
   exact⟨_,xC hF hfine hV hx hf hnum yg yg,SC Z (SC Z (SC Z (SC Z (SN _)))),(Hn (x':={ x with n:=Dl F x.n }) hx Z 8).aj⟩
  ·rw[e6]
   refine yK ?_
   refine r9 ?_
   refine r_ ?_
   have hql2:4≤F.link∧F.link≤64:=by
    have e:F.link=aF F.link 4 64:=congrArg ba.link hF
    have h2:=kc (x:=F.link) (lo:=4) (hi:=64) yy
    rw[←e] at h2
    exact h2
   refine HT ?_
   refine tp ?_
   refine VG (VI (FY (pv:=[(0,.int .i64 1),(1,.int .i64 2),(2,.int .i64 (F.link+1))]) (je (1,2,F.link+1)) Z Z Z Z Z) ?_)
   refine VG (VO.buildSlice (n:=1) (pv:=[(0,.agg (je (1,2,F.link+1)).toArray)]) (je (1,2,F.link+1)) Z Z Z Z yy (eY Z Z Z) fun bs=>?_)
   refine VG (VO.append (m:=1) (news:=je (1,2,F.link+1)) 6 Z Z Z Z Z Z Z (dm.pt 0 Z Z Z) Z (kk (k:=2000) yg yy) yg fun a2 c2 _=>?_)
   refine ae ?_
   refine VG (VO.st 3 (cs':=ez (nI V k ⟨x,V.mail ++ [(1,2,F.link+1)],a2,c2,9⟩)) Z Z Z Z (by show 5<6;decide) (by rw[Ho];dsimp only;rw[a8];rfl) Z ?_)
   refine ae ?_
   refine⟨_,Xe hF hfine hV hx hf hnum a2 c2 yg,SC Z (SC Z (SC Z (SC Z (SN _)))),?_⟩
   refine aa.aj ?_
   unfold xD
   dsimp only
   rw[AB hx]
   rw[a8,fu]
   exact(bb [3,2,2,2,2,0,1,1])
  ·rw[e6]
   refine yK ?_
   refine yK ?_
   refine r_ ?_
   refine CD (ts 0 9 (.only 9 .nil)) yp yr ?_
   refine ko ?_
   have hep:db (V.ch.ar+1)∧0≤V.ch.ar:=by
    obtain⟨v,q1,q2,q3,q4⟩:=hsaf.m.at_
    obtain⟨z,z1,_⟩:=hsaf.m.z
    have hv1:1≤v:=hsaf.m.gi.eR.pos IH
    have hv:=(hsaf.m.gi.eR.ok v _ q2 hv1).e2
    rw[hch]
    unfold db
    omega
   refine AG (AP Z Z Z (by have:=hep.1.1;omega) (by have:=hep.1.2;omega) ?_)
   rw[hch] at hep ⊢
   refine cn ?_
   refine AG (VA.st 0 (cs':=flat bI (V.rows.set k { x with n:=Dm C.aG.ch.ar x.n })++rest) Z Z Z Z Z (G9 hkl yy rest) (G_ hx yy Z rest) Z yu ?_)
   refine cn ?_
   exact⟨_,Xf hF hfine hV hx hf hnum hep.1,SC Z (SC Z (SC Z (SC Z (SN _)))),(Hn (x':={ x with n:=Dm C.aG.ch.ar x.n }) hx Z 2).aj⟩
  ·rw[e6]
   refine yK ?_
   refine yK ?_
   refine r9 ?_
   have hmsl:=hf.jN
   refine CS (CD (ts 0 6 (.only 6 (ts 7 5 .nil))) yp yr ?_)
   refine cn ?_
   refine AG (VA.dE 1 (V.ch.cells V.ma V.mc) Z Z Z Z Z ?_)
   refine cn ?_
   refine AG (VA.ld 0 Z Z Z Z (pQ hx (j:=0) Z rest) ?_)
   refine AG (AR (fun Fr w hF' hs hS=>Dg Fr w (c:=V.ch) (aT.aq cu (hS.at_ 3 Z)) yg x.n.id) Z Z (by(try refine Pd.st ?_);(repeat(first|exact Pd.nil|exact Pd.fnil|refine Pd.inner ?_|refine Pd.skip yr ?_|refine zf (zo 0 Z Z) ?_|refine zf (zo 1 Z Z) ?_|refine zf (zo 2 Z Z) ?_|refine zf (zm 0 Z Z) ?_|refine zf (zm 1 Z Z) ?_|refine zf (zm 2 Z Z) ?_|refine zf (aw.aA (aw.one 0 Z (pQ hx (j:=0) Z rest)) Z) ?_|refine zf ((aw.one 0 Z (pQ hx (j:=0) Z rest))) ?_|refine zc (zo 0 Z Z) ?_|refine zc (zo 1 Z Z) ?_|refine zc (zo 2 Z Z) ?_|refine zc (zm 0 Z Z) ?_|refine zc (zm 1 Z Z) ?_|refine zc (zm 2 Z Z) ?_|refine zc (aw.aA (aw.one 0 Z (pQ hx (j:=0) Z rest)) Z) ?_|refine zc ((aw.one 0 Z (pQ hx (j:=0) Z rest))) ?_))) ?_)
   refine cn ?_
   cases hin:(bU V.ch x.n.id).2 with
   | false=>
    refine ae ?_
    refine VG (VY 81 true Z Z ?_)
    refine av ?_
    refine VG (VY 89 true Z Z ?_)
    refine av ?_
    refine VG (VY 97 true Z Z ?_)
    refine oy ?_
    exact uK
   | true=>
   refine ae ?_
   refine VG (VY 81 false Z Z ?_)
   refine ae ?_
   refine VG (VO.ld 0 Z Z Z (pQ hx (j:=1) Z rest) ?_)
   by_cases hs1:(bU V.ch x.n.id).1=x.n.since
   rotate_left
   ·refine av ?_
    refine VG (VY 89 true Z (by simpa using hs1) ?_)
    refine av ?_
    refine VG (VY 97 true Z Z ?_)
    refine oy ?_
    exact uK
   refine av ?_
   refine VG (VY 89 false Z (by simpa using hs1) ?_)
   refine av ?_
   refine VG (VO.ld 0 Z Z Z (pQ hx (j:=8) Z rest) ?_)
   by_cases hl0:(x.n.log.length:Int)=0
   ·refine av ?_
    refine VG (VY 97 true Z (DT hl0) ?_)
    refine oy ?_
    exact uK
   refine av ?_
   refine VG (VY 97 false Z (DF hl0) ?_)
   refine dG ?_
   refine CE Z (fun hd0=>?_) (fun hd0=>CK ?_)
   ·refine ae ?_
    exact uK
   have hmem:(x.n.id,x.n.since)∈C.aG.ch.ms:=by
    rw[←hch,←hs1]
    exact Dh hin
   obtain⟨y0,ys,hlog⟩:∃y ys,x.n.log=y::ys:=by
    cases hl:x.n.log with
    | nil=>rw[hl] at hl0;exact absurd rfl hl0
    | cons y ys=>exact⟨y,ys,rfl⟩
   have hsl:(o7 x.n).log={ y0 with seq:=xP y0.seq } :: ys:=by
    show AF x.n.log=_
    rw[hlog];rfl
   refine CN (aa.trans (MB hx) (aa.perm (List.Perm.swap _ _ _))).aj ?_
   refine VC.bz 0 Z (bd.C9 (c:=bm) (n:=7) dK x.la x.lc x.n.log (by rw[hlog];exact List.cons_ne_nil _ _)) ?_
   rintro⟨lb,lrest⟩ ⟨hla,hlc,hll2⟩
   dsimp only
   have hlv:(bI x)[8]?=some (.slice (some ⟨lb,0,none⟩) x.n.log.length x.lc):=by rw[←hla];rfl
   have hcell:(flat bm x.n.log++lrest)[0+0*7+2]?=some (.int .i64 y0.seq):=by rw[hlog];rfl
   refine CD (ts 0 15 (.only 15 .nil)) yp yr ?_
   refine cn ?_
   refine AG (VA.ld 4 Z Z Z Z (pQ hx (j:=8) hlv rest) ?_)
   refine cn ?_
   refine AG (VA.ld 4 Z Z Z Z (pQ hx (j:=8) hlv rest) ?_)
   refine AG (AI Z (eE 0 Z Z Z Z Z Z yg) ?_)
   refine cn ?_
   refine AG (VA.ld 0 Z Z Z Z hcell ?_)
   refine AG (VA.arith (xP y0.seq) Z Z Z Z ?_)
   refine cn ?_
   refine AG (AI Z (eE 0 Z Z Z Z Z Z yg) ?_)
   refine cn ?_
   refine AG (VA.st 0 (cs':=flat bm (o7 x.n).log++lrest) Z Z Z Z Z (by rw[a8,eu qt];show 0+0*7+2<_;omega) (by rw[hsl,hlog];rfl) Z yu ?_)
   refine cn ?_
   refine⟨_,Xg hF hfine hV hx hf hnum hmem yg (by rw[←hdone];omega),SC Z (SC Z (SC Z (SC Z (SN _)))),(aa.trans ?_ (MA (V:=V) (nb:=nb) (vb:=vb) (cb:=cb) (hb:=hb) (rest:=rest) (cc:=F.cells fa fc) (qh:=iq fa fc F.qs) (h0:=h0) (h1:=h1) hkl { x with n:=o7 x.n } 6)).aj⟩
   have hl5:(o7 x.n).log.length=x.n.log.length:=Dn _
   rw[wV hx (x':={ x with n:=o7 x.n }) (by show bI _=bI _;unfold bI;dsimp only;rw[hl5];rfl)]
   dsimp only
   rw[hla]
   refine aa.trans (aa.perm (List.Perm.swap _ _ _)) (aa.cons ?_)
   exact aa.sl (eu qt _) (by rw[hl5];exact hlc) (by rw[←hll2,a8,a8,eu qt,eu qt,hl5]) (IP 0 Z aa.refl)
 ·rintro⟨x2,mail2,xa2,xc2,want⟩ ⟨hfound,hfew2,hnum2,hid2,hwant⟩
  dsimp only at hfound hfew2 hnum2 hid2 hwant ⊢
  have hset:(V.rows.set k x2)[k]?=some x2:=iR hkl
  have hnaud:=UX hF PU hnum2
  have hall:=hfound.all
  have hany:=hfound.SU
  refine ae ?_
  refine VG (VL 6 (F.cells fa fc) Z Z Z Z ?_)
  refine VG (VL 0 (ez (nI V k ⟨x2,mail2,xa2,xc2,want⟩)) Z Z Z Z ?_)
  refine VG (VK (Lc:=[]) (fun Fr w hF' hw hS=>Au.gv Fr w (c:=F) (rG (hS.at_ 7 Z)) hfa hfc (V:=nI V k ⟨x2,mail2,xa2,xc2,want⟩) (NJ (nb:=nb) (rest:=rest) hfew2 hna (hS.at_ 3 Z) (hS.aA 1 Z) (hS.at_ 2 Z) (hS.at_ 4 Z) (hS.at_ 5 Z))) Z Z ?_)
  rintro _ _ ⟨ga,gc,rfl,rfl⟩
  have hlenA:(jm F (nI V k ⟨x2,mail2,xa2,xc2,want⟩).v).length≤1011001:=by
   unfold jm
   rw[if_pos hF]
   exact JI PU (by show((V.rows.set k x2).map cZ.n).length≤1000;rw[cY];exact hfew2.rl) hfew2.jN hfew2.xl
  generalize jm F (nI V k ⟨x2,mail2,xa2,xc2,want⟩).v=A at hnaud hall hany hlenA
  refine ae ?_
  refine CN (L':=[aq tY 3 ga A.length gc (flat bB A),pt nb (flat bI (V.rows.set k x2)++rest) ia]) (bb [0,1]).aj ?_
  refine VC.bz 0 Z (bd.rl tY ga gc A wS) ?_
  rintro⟨ya,yc,yb,ycs,ys⟩ ⟨rok,rv,rx⟩
  dsimp only at rx
  subst rx
  injection rv with e1 _ e3
  subst e1 e3
  refine VC.loop (σ:=Nat) (fun i=>[(11,.pointer (some ⟨nb,0+k*9,none⟩)),(12,.int .i64 want),(15,.slice ya ys.length yc),(16,.bool ((ys.take i).any (mL want x.n.id))),(17,.int .i64 (i:Int))]) (fun _=>[RL.h tY ⟨ya,yc,yb,ycs,ys⟩,pt nb (flat bI (V.rows.set k x2)++rest) ia]) (fun i=>i≤ys.length) (fun i=>ys.length-i) 0
   (bH _) aH ER ?_
  rintro i hi
  refine ae ?_
  refine CP (p:=(i:Int)<ys.length) Z (fun hlt=>CK ?_) (fun hlt=>CX ?_)
  rotate_left
  ·obtain rfl:i=ys.length:=by omega
   rw[iT,hany]
   refine ae ?_
   refine VG (VY 237 true Z Z ?_)
   refine ae ?_
   exact uK
  have hil:i<ys.length:=by omega
  have hyx:ys[i]?=some ys[i]:=GE hil
  generalize ys[i]=f at hyx
  have hfm:=ME hyx
  have hfc:=hall f hfm
  have hfn:=hnaud f hfm
  have hnext:(ys.take (i+1)).any (mL want x.n.id)=((ys.take i).any (mL want x.n.id)||mL want x.n.id f):=by
   rw[fX,hyx,List.any_append]
   simp
  obtain⟨tb',tof,htb,hta,hrd⟩:=RL.Ok.ld (t:=tY) (k:=i) (x:=f) rok hyx (wS f)
  dsimp only at hta
  subst hta
  refine Bi ?_
  refine av ?_
  refine VG (VI (eE i Z Z Z Z Z Z hil) ?_)
  refine A7 ?_
  refine VG (VO.alloc Z fun fb=>?_)
  refine VG (VT (vs:=bB f) (cs':=bB f) 0 Z Z Z Z (NR _) Z Z Z ?_)
  refine gm ?_
  refine CS ?_
  refine VC.bZ (σ:=Unit) (fun _=>[(11,.pointer (some ⟨nb,0+k*9,none⟩)),(12,.int .i64 want),(15,.slice (some ⟨tb',tof,none⟩) ys.length yc),(16,.bool ((ys.take (i+1)).any (mL want x.n.id))),(17,.int .i64 (i:Int)),(18,pV fb)]) (fun _=>[pt fb (bB f) tY,RL.h tY ⟨some ⟨tb',tof,none⟩,yc,yb,ycs,ys⟩,pt nb (flat bI (V.rows.set k x2)++rest) ia]) (fun _=>True) ?_ ?_
  ·have hidc:(flat bI (V.rows.set k x2)++rest)[0+k*9+0]?=some (.int .i64 x.n.id):=by
    rw[cj]
    exact oN (j:=0) u3 hset (by show some (Value.int .i64 x2.n.id)=_;rw[hid2]) rest
   cases hA:(ys.take i).any (mL want x.n.id) with
   | true=>
    rw[hA,Bool.true_or] at hnext
    refine CD (ts 0 26 .nil) yp yr ?_
    refine cn ?_
    refine AG (AY 198 true Z Z ?_)
    refine cn ?_
    exact Iv
   | false=>
    rw[hA,Bool.false_or] at hnext
    by_cases hw:f.1=want
    rotate_left
    ·have hno:mL want x.n.id f=false:=by unfold mL;rw[DF hw];rfl
     rw[hno] at hnext
     refine CD (ts 0 26 .nil) yp yr ?_
     refine EC ?_
     refine cW ?_
     refine AG (AY 203 false Z (DF hw) ?_)
     refine cW ?_
     refine AG (AY 216 false Z Z ?_)
     refine cW ?_
     exact Iv
    by_cases hn:f.2.1=x.n.id
    ·have hyes:mL want x.n.id f=true:=by unfold mL;rw[DT hw,DT hn];rfl
     rw[hyes] at hnext
     have htx:=Nk (f:=f) (by rw[hw];exact hwant)
     refine CD (ts 0 21 (.only 21 (ts 22 4 .nil))) yp yr ?_
     refine EC ?_
     refine IN ?_
     refine IQ ?_
     refine cW ?_
     refine AG (AY 211 true Z (DT hn) ?_)
     refine cW ?_
     refine AG (AY 216 true Z Z ?_)
     refine cW ?_
     refine AG (VA.dE 0 (bB f) Z Z Z Z Z ?_)
     refine Pn ?_
     refine cW ?_
     exact Po
    by_cases hw9:want=9
    rotate_left
    ·have hno:mL want x.n.id f=false:=by unfold mL;rw[DF hn,DF hw9,Bool.or_false,mX]
     rw[hno] at hnext
     refine CD (ts 0 26 .nil) yp yr ?_
     refine EC ?_
     refine IN ?_
     refine IQ ?_
     refine cW ?_
     refine AG (AY 211 false Z (DF hn) ?_)
     refine cW ?_
     refine AG (AY 216 false Z (DF hw9) ?_)
     refine cW ?_
     exact Iv
    ·have hyes:mL want x.n.id f=true:=by unfold mL;rw[DT hw,DT hw9,Bool.or_true];rfl
     rw[hyes] at hnext
     have htx:=Nk (f:=f) (by rw[hw];exact hwant)
     refine CD (ts 0 21 (.only 21 (ts 22 4 .nil))) yp yr ?_
     refine EC ?_
     refine IN ?_
     refine IQ ?_
     refine cW ?_
     refine AG (AY 211 false Z (DF hn) ?_)
     refine cW ?_
     refine AG (AY 216 true Z (DT hw9) ?_)
     refine cW ?_
     refine AG (VA.dE 0 (bB f) Z Z Z Z Z ?_)
     refine Pn ?_
     refine cW ?_
     exact Po
  rintro _ -
  refine al ?_
  have hcode:f.1=want∨f.1=5∨f.1=3:=hfc
  by_cases hw:f.1=want
  ·refine VG (VY 226 false Z (by simpa using hw) ?_)
   refine bG ?_
   refine VG (VY 231 false Z Z ?_)
   refine p9 ?_
   refine gC ?_
   exact Iw
  refine VG (VY 226 true Z (by simpa using hw) ?_)
  refine bG ?_
  by_cases h5:f.1=5
  ·refine VG (VY 231 false Z (by simpa using h5) ?_)
   refine p9 ?_
   refine gC ?_
   exact Iw
  refine VG (VY 231 true Z (by simpa using h5) ?_)
  refine bG ?_
  refine VC.dp Z (fun h=>absurd (show f.1=3 by omega) h) (fun _=>CK ?_)
  refine gC ?_
  exact Iw
end Cl
namespace Vg
open Go Go.ChangeShapes Go.WideShapes Go.ChangeAt Go.RowKit
theorem Nu{H:Type}{enc:TypeId×Value→H}{P:Program}(hl:laidOutB P=true){W W':World}(hb:Below W.heap.size W W'):
  ∀{ts:List TypeId} {vs:List Value} {ds:List (DataW H)} {ps:List MemPlace},(∀t∈ts,P.readableRec t=true∧t<P.types.size) →
   DataW.TrodAll enc P W 0 (fun _=>true) true ts vs ds ps→DataW.TrodAll enc P W' 0 (fun b=>decide (b<W.heap.size)) true ts vs ds ps
 | [],vs,ds,ps,_,h=>by
  obtain⟨rfl,rfl,rfl⟩:=trodAll_nil h
  exact trodAll_mk0
 | t::ts,vs,ds,ps,ht,h=>by
  obtain⟨v,vs',d,ds',p,q,rfl,rfl,rfl,h0,r0⟩:=trodAll_cons h
  have lt0:∀x∈p,x.block<W.heap.size:=by obtain⟨m,hm⟩:=h0;exact DataW.trod_lt m _ _ _ hm
  have h1:=ht t yi
  exact trodAll_cons_mk (Below.trod hl h1.1 h1.2 h0 hb lt0) (Nu hl hb (fun t h=>ht t yf) r0)
theorem Nv{H:Type}{enc:TypeId×Value→H}{P:Program}{W:World}{b:Nat}{sp:Nat→Bool}{hd:Bool}:
  ∀{ts:List TypeId} {vs:List Value} {ds:List (DataW H)} {ps:List MemPlace},DataW.TrodAll enc P W b sp hd ts vs ds ps→ds.length=ts.length
 | [],vs,ds,ps,h=>by
  obtain⟨rfl,rfl,rfl⟩:=trodAll_nil h
  rfl
 | t::ts,vs,ds,ps,h=>by
  obtain⟨v,vs',d,ds',p,q,rfl,rfl,rfl,h0,r0⟩:=trodAll_cons h
  simp[Nv r0]
theorem Tt{H:Type}{enc:TypeId×Value→H}{P:Program}{f:Func}{s:ChangeSpec}(hl:laidOutB P=true)(hts:∀t∈f.params.toList,P.readableRec t=true∧t<P.types.size)
  (hv:s.vars=[]) {tb:TypeId} (hres:f.resultTypes=#[tb]) (hbool:P.underlying tb=some .bool)
  (hfn:∀ds:List (DataW H),ds.length=f.params.toList.length→s.fn H (ds ++ [])={ results:=[.lit (.bool true)],args:=ds })
  {W W':World} {args:Array Value} {ds gs:List (DataW H)} {before:List MemPlace} (hW:DataW.Whole enc P f.params.toList s.vars false W args.toList ds gs before) (bel:Below W.heap.size W W'):
  s.post enc P f false true false false W args (.bool true) W':=by
 have hW':=hW
 obtain⟨p,q,hA,hV,rfl,_,_⟩:=hW
 rw[hv] at hV
 obtain⟨rfl,rfl⟩:=trodVars_none hV
 have e:=hfn ds (Nv hA)
 refine⟨ds,[],p ++ [],[],p,[],hW',?_,?_,?_,bel.frame _,fun h=>by cases h⟩
 ·rw[e,hres];exact trodAll_mk1 (shut_bool hbool _)
 ·rw[e];exact Nu hl bel hts hA
 ·rw[e,hv];rfl
end Vg
namespace Vg
open Go Go.ChangeShapes Go.WideShapes Go.ChangeAt Go.RowKit
theorem KM{P:Program}{W:World}{x:String×DataW Unit}{l:List (String×DataW Unit)}(h:laidMet P (x::l) W):laidMet P l W:=by
 obtain⟨ps,⟨g,t,cs,fuel,p,q,_,_,_,_,hr,rfl⟩,hn,hall⟩:=h
 exact⟨q,hr,(nN.1 hn).2.1,fun b off h=>hall b off (eP.2 (.inr h))⟩
theorem aaw{P:Program}{W:World}{laid:List (String×DataW Unit)}{nm:String}{k:IntKind}{zs:List Int}{g:Nat}{t e:TypeId}{n:Nat}(i:Nat)(hh:(laid.all fun x=>x.2.handleName?.isNone)=true)
  (hm:laid[i]?=some (nm,Lib.tabData k zs)) (hg:P.globalNamed nm=some g) (hty:(P.globals[g]?).map (·.type)=some t) (ht:P.underlying t=some (.array n e)) (he:P.underlying e=some (.int k)) (hce:P.cellsOf e=1) (hct:P.cellsOf t=n)
  (h:laidMetH P laid W):wD P (fun b=>b<W.heap.size) W nm k zs:=by
 rw[MakeChecks.laidMetH_plain _ _ _ hh] at h
 have key:∀{l:List (String×DataW Unit)} {i:Nat},laidMet P l W→l[i]?=some (nm,Lib.tabData k zs)→Lib.TabIs P W nm k zs:=by
  intro l
  induction l with
  | nil=>intro i _ hm;simp at hm
  | cons x l ih=>
   intro i hv hm
   cases i with
   | zero=>
    obtain rfl:=ij hm
    exact Lib.tabIs_of_head hg hty ht he hce hct hv
   | succ i=>exact ih (KM hv) (by simpa using hm)
 have ht2:=key h hm
 refine⟨⟨g,hg,?_⟩,ht2⟩
 unfold Lib.TabIs World.var? at ht2
 rw[hg] at ht2
 simp only[jS] at ht2
 rcases Nat.lt_or_ge g W.heap.size with h' | h'
 ·exact h'
 ·rw[Array.getElem?_eq_none h'] at ht2;simp at ht2
end Vg
namespace Vg
open Go Go.ChangeShapes Go.WideShapes Go.ChangeAt Go.RowKit
theorem Tu{H:Type}{enc:TypeId×Value→H}{C:Checked}{os:Os}{f:FuncId}{fn:Func}{s:ChangeSpec}{conds:List PathCond}{laid:List (String×DataW Unit)}
  (own:ownKnob C.prog.godebug=none) (started:os.Started) (noInit:C.prog.inits.idxOf? f=none) (hfn:C.prog.funcs[f]?=some fn)
  (witness:∃(w:World) (tape:Tape) (i:Input),w.os=os∧(w.forCall tape i).Shaped C.prog∧i.vars=[]∧Input.okWide C.prog (w.forCall tape i) .any w.heap.size f i ∧
   ((s.pre enc C.prog fn conds false (w.forCall tape i).memory i.args∧laidMetH C.prog laid (w.forCall tape i).memory)∧sizedMet enc C.prog fn (OpenSpec.ofChange s) false (w.forCall tape i).memory i.args) ∧
   ({}:Assume).holds C.prog (lone (Frame.enter C.prog f i.args .normal) [] (w.forCall tape i)))
  (hl:laidOutB C.prog=true) (hts:∀t∈fn.params.toList,C.prog.readableRec t=true∧t<C.prog.types.size)
  (hv:s.vars=[]) {tb:TypeId} (hres:fn.resultTypes=#[tb]) (hbool:C.prog.underlying tb=some .bool)
  (hs:∀ds:List (DataW H),ds.length=fn.params.toList.length→s.fn H (ds ++ [])={ results:=[.lit (.bool true)],args:=ds })
  (walk:∀(W:World) (base:Nat) (args:Array Value) (ds:List (DataW H)) (ps:List MemPlace),laidMetH C.prog laid W→W.ShapedOpen C.prog →
   (∀(j:Nat) t v,fn.params[j]?=some t→args[j]?=some v→Value.okWide C.prog W .any base t v) →
   DataW.TrodAll enc C.prog W 0 (fun _=>true) true fn.params.toList args.toList ds ps→W.noneFrozen ps →
   (DataW.weightsEach C.prog fn.params.toList ds).all (·≤reachBytes)=true →
   ax C.prog f args.toList (fun b=>b<W.heap.size) W [] (fun v _=>v=.bool true)):
  ReturnsInHanded {} C os f .any (fun w args=>(s.pre enc C.prog fn conds false w args∧laidMetH C.prog laid w)∧sizedMet enc C.prog fn (OpenSpec.ofChange s) false w args) (s.post enc C.prog fn false true false false):=by
 refine returnsInHanded_of_calls own started noInit witness ?_
 intro w tape i _ hsh _ hok hpre _
 obtain⟨_,_,_,fn',hfn',_,_,_,_,hval⟩:=hok
 obtain rfl:fn'=fn:=ij (hfn'.symm.trans hfn)
 obtain⟨⟨⟨ds,gs,before,hw,hc⟩,hL⟩,hz⟩:=hpre
 have hwt:(DataW.weightsEach C.prog (fn'.params.toList++s.plain.varTypes C.prog) (ds++gs)).all (·≤reachBytes)=true:=hz.weights hw
 have hW:=DataW.Whole.of_heap (w':=w.forCall tape i) (by rfl) hw
 have hL:laidMetH C.prog laid (w.forCall tape i):=hL.of_heap (by rfl)
 generalize w.forCall tape i=W at hW hL hval hsh ⊢
 have hW2:=hW
 obtain⟨p,q,hA,hV,rfl,hfz,_⟩:=hW2
 rw[hv] at hV
 obtain⟨rfl,rfl⟩:=trodVars_none hV
 have hvt:s.plain.varTypes C.prog=[]:=by simp[ChangeSpec.plain,hv,DataSpec.varTypes]
 rw[hvt] at hwt
 simp only[br] at hwt hfz
 have T:=walk W w.heap.size i.args ds p hL hsh hval hA hfz hwt
 have:=T.calls (fun _ h=>h) Sat.nil
 simp only[Array.toArray_toList] at this
 refine Calls.mono this fun e W' ⟨v,L',he,h1,_,hk⟩=>?_
 subst he;subst h1
 exact ChangeSpec.post_blind (Tt hl hts hv hres hbool hs hW hk.below)
end Vg
namespace Vg
open Go Go.ChangeShapes Go.WideShapes Go.ChangeAt Go.RowKit
theorem K4{k:IntKind}:∀{n:Nat} (l:List Value),l.length=n→(∀i,i<n→∃z,l[i]?=some (.int k z)∧(Lit.int k z).wf=true)→∃zs:List Int,l=zs.map (fun z=>Value.int k z)∧zs.length=n∧∀z∈zs,(Lit.int k z).wf=true
 | 0,l,h,_=>⟨[],iC h,rfl,fun z hz=>by cases hz⟩
 | n+1,[],h,_=>by simp at h
 | n+1,a::l,h,hk=>by
  obtain⟨z,h1,h2⟩:=hk 0 yg
  obtain rfl:a=.int k z:=ij h1
  obtain⟨zs,e1,e2,e3⟩:=K4 (n:=n) l ye (fun i hi=>by
   obtain⟨z',h3,h4⟩:=hk (i+1) yg
   exact⟨z',by simpa using h3,h4⟩)
  refine⟨z::zs,by rw[e1];rfl,by simp[e2],fun y hy=>?_⟩
  rcases iD.1 hy with rfl | hy
  ·exact h2
  ·exact e3 y hy
section
variable {H:Type} {enc:TypeId×Value→H} {P:Program} {w:World} {base:Nat} {spare:Nat→Bool} {held:Bool}
theorem Ve{r:Reach}{b0 n:Nat}{t e:TypeId}{k:IntKind}{v:Value}{d:DataW H}{ps:List MemPlace}(ht:P.underlying t=some (.array n e))(he:P.underlying e=some (.int k))(hc:P.cellsOf t=n)(hce:P.cellsOf e=1)
  (hval:Value.okWide P w r b0 t v) (hd:DataW.Trod enc P w base spare held t v d ps):
  ∃zs:List Int,v=.agg (zs.map fun z=>Value.int k z).toArray∧zs.length=n∧∀z∈zs,(Lit.int k z).wf=true:=by
 have h1:∃cs,v=.agg cs∧cs.size=P.cellsOf t:=by
  unfold Value.okWide at hval
  rw[ht] at hval
  obtain⟨cs,h1,h2,_⟩:=hval
  exact⟨cs,h1,h2⟩
 obtain⟨cs,rfl,hs⟩:=h1
 obtain⟨fuel,hf⟩:=hd
 obtain⟨xs,m,_,_,hlen,hxs,hall⟩:=DataW.trod_array ht hf
 rw[hce] at hall
 rw[hc] at hlen
 have hcs:(Value.cells (.agg cs)).toList=cs.toList:=rfl
 rw[hcs] at hlen hall
 have key:∀i,i<n→∃z,cs.toList[i]?=some (.int k z)∧(Lit.int k z).wf=true:=by
  intro i hi
  have h:=hall i hi
  rw[GE (show i<xs.length by omega)] at h
  obtain⟨z,h2,_,h3⟩:=DataW.trod_int he h
  refine⟨z,?_,h3⟩
  have:=congrArg (fun l:List Value=>l[0]?) h2
  simpa[ss,qY] using this
 obtain⟨zs,h1,h2,h3⟩:=K4 cs.toList hlen key
 exact⟨zs,by rw[←h1],h2,h3⟩
end
end Vg
namespace Vg
open Go Go.ChangeShapes Go.WideShapes Go.ChangeAt Go.RowKit
section
variable {H:Type} (enc:TypeId×Value→H) (P:Program) (w:World) (base:Nat) (spare:Nat→Bool) (held:Bool)
def pn(t:TypeId)(v:Value):Prop:=∃fuel x,DataW.trod enc P w base spare held fuel t [v]=some x
def u9(rec:TypeId→Option (List TypeId)):List Field→Nat→Option (List TypeId)
 | [],_=>some []
 | f::fs,off=>if f.offset=off then match rec f.type with
   | some l=>if P.cellsOf f.type=l.length then (u9 rec fs (off+l.length)).map (l ++ ·) else none
   | none=>none
  else none
def sL:Nat→TypeId→Option (List TypeId)
 | 0,_=>none
 | n+1,t=>match P.underlying t with
  | some (.struct fs)=>match u9 P (sL n) fs.toList 0 with
   | some l=>if P.cellsOf t=l.length then some l else none
   | none=>none
  | some (.int _)=>some [t]
  | some .bool=>some [t]
  | some .string=>some [t]
  | some (.slice _)=>some [t]
  | some (.pointer _)=>some [t]
  | _=>none
end
section
variable {H:Type} {enc:TypeId×Value→H} {P:Program} {w:World} {base:Nat} {spare:Nat→Bool} {held:Bool}
theorem pn.int{t:TypeId}{v:Value}{k:IntKind}(h:pn enc P w base spare held t v)(ht:P.underlying t=some (.int k)):∃n,v=.int k n∧(Lit.int k n).wf=true:=by
 obtain⟨fuel,x,h⟩:=h
 obtain⟨n,e,_,hw⟩:=DataW.trod_int ht h
 exact⟨n,(tF e).1,hw⟩
theorem pn.str{t:TypeId}{v:Value}(h:pn enc P w base spare held t v)(ht:P.underlying t=some .string):∃s,v=.string s∧s.size≤maxLen:=by
 obtain⟨fuel,x,h⟩:=h
 obtain⟨n,e,_,hs⟩:=DataW.trod_string ht h
 exact⟨n,(tF e).1,hs⟩
theorem Kq{rec:TypeId→Option (List TypeId)}{cs:List Value}{n:Nat}
  (hrec:∀(t:TypeId) (ls:List TypeId),rec t=some ls→∀(cs:List Value) x,DataW.trod enc P w base spare held n t cs=some x→cs.length=ls.length∧∀(i:Nat) (v:Value) (u:TypeId),cs[i]?=some v→ls[i]?=some u→pn enc P w base spare held u v):
  ∀(fs:List Field) (off:Nat) (ls:List TypeId),u9 P rec fs off=some ls→(∀f∈fs,∃y,DataW.trod enc P w base spare held n f.type ((cs.drop f.offset).take (P.cellsOf f.type))=some y) →
   ∀(i:Nat) (v:Value) (u:TypeId),cs[off+i]?=some v→ls[i]?=some u→pn enc P w base spare held u v
 | [],off,ls,h,_,i,v,u,_,hu=>by
  obtain rfl:ls=[]:=by simpa[u9] using h.symm
  simp at hu
 | f::fs,off,ls,h,hf,i,v,u,hv,hu=>by
  simp only[u9] at h
  split at h
  ·rename_i hoff
   split at h
   ·rename_i l hl
    split at h
    ·rename_i hc
     cases hr:u9 P rec fs (off+l.length) with
     | none=>rw[hr] at h;cases h
     | some ls'=>
      rw[hr] at h
      obtain rfl:l++ls'=ls:=by simpa using h
      obtain⟨y,hy⟩:=hf f yi
      obtain⟨h1,h2⟩:=hrec f.type l hl _ y hy
      by_cases hi:i<l.length
      ·refine h2 i v u ?_ (by rwa[nL hi] at hu)
       rw[ss,if_pos yg,qY,hoff];exact hv
      ·rw[qX yg] at hu
       refine Kq hrec fs (off+l.length) ls' hr (fun g hg=>hf g (by simp[hg])) (i-l.length) v u ?_ hu
       rw[←hv];congr 1;omega
    ·cases h
   ·cases h
  ·cases h
theorem Fz:∀(n:Nat) (t:TypeId) (ls:List TypeId),sL P n t=some ls→∀(fuel:Nat) (cs:List Value) x,DataW.trod enc P w base spare held fuel t cs=some x →
  cs.length=ls.length∧∀(i:Nat) (v:Value) (u:TypeId),cs[i]?=some v→ls[i]?=some u→pn enc P w base spare held u v
 | 0,t,ls,h,_,_,_,_=>by simp[sL] at h
 | n+1,t,ls,h,fuel,cs,x,hx=>by
  have one:∀v,cs=[v]→ls=[t]→cs.length=ls.length∧∀(i:Nat) (v:Value) (u:TypeId),cs[i]?=some v→ls[i]?=some u→pn enc P w base spare held u v:=by
   intro v h1 h2
   subst h1;subst h2
   refine⟨rfl,fun i v' u hv hu=>?_⟩
   match i,hv,hu with
   | 0,hv,hu=>
    obtain rfl:=ij hv
    obtain rfl:=ij hu
    exact⟨fuel,x,hx⟩
   | i+1,hv,_=>cases hv
  simp only[sL] at h
  split at h
  ·rename_i fs ht
   cases hr:u9 P (sL P n) fs.toList 0 with
   | none=>rw[hr] at h;cases h
   | some l=>
    rw[hr] at h
    dsimp only at h
    split at h
    ·rename_i hc
     obtain rfl:=ij h
     obtain⟨xs,m,_,_,hl,hlen,hfs⟩:=DataW.trod_struct ht hx
     refine⟨hl.trans hc,fun i v u hv hu=>?_⟩
     refine Kq (n:=m) (cs:=cs) (fun t ls h1 cs x h2=>Fz n t ls h1 m cs x h2) fs.toList 0 l hr (fun f hf=>?_) i v u (by rwa[cj]) hu
     obtain⟨j,hj⟩:=nM hf
     have hj':fs[j]?=some f:=by simpa using hj
     have hjl:j<xs.length:=by
      have:=(sn.1 hj').1
      omega
     exact⟨xs[j],by rw[hfs j f hj',GE hjl]⟩
    ·cases h
  ·rename_i k ht
   obtain⟨a,e,_⟩:=DataW.trod_int ht hx
   exact vV
  ·rename_i ht
   obtain⟨a,e,_⟩:=DataW.trod_bool ht hx
   exact vV
  ·rename_i ht
   obtain⟨a,e,_⟩:=DataW.trod_string ht hx
   exact vV
  ·rename_i e ht
   rcases DataW.trod_slice ht hx with ⟨e,_⟩ | ⟨_,_,_,_,_,_,_,e,_⟩
   ·exact vV
   ·exact vV
  ·rename_i e ht
   rcases DataW.trod_pointer ht hx with ⟨e,_⟩ | ⟨_,_,_,_,_,e,_⟩
   ·exact vV
   ·exact vV
  ·cases h
theorem QR{w:World}{a:Addr}{v:Value}(h:w.cell? a=some v):a.block<w.heap.size:=by
 unfold World.cell? at h
 cases hb:w.heap[a.block]? with
 | none=>simp[hb] at h
 | some o=>exact(sn.1 hb).1
theorem L6{α:Type}(cells:α→List Value)(φ:α→Prop){t e:TypeId}{n:Nat}{ls:List TypeId}(ht:P.underlying t=some (.slice e))(hf:sL P n e=some ls)(hce:P.cellsOf e=ls.length)(hpos:0<ls.length)
  (hrow:∀cs,cs.length=ls.length→(∀(i:Nat) (v:Value) (u:TypeId),cs[i]?=some v→ls[i]?=some u→pn enc P w base spare held u v)→∃x,cs=cells x∧φ x)
  {fuel:Nat} {v:Value} {x:DataW H×List MemPlace} (h:DataW.trod enc P w base spare held fuel t [v]=some x):
  ∃(a:Option Addr) (tc:Nat) (l:List α),v=.slice a l.length tc∧(l.length≤tc∧l.length≤maxLen)∧(∀x∈l,φ x)∧(l≠[]→∃b off,a=some ⟨b,off,none⟩∧b<w.heap.size∧∀i x,l[i]?=some x→∀j v,(cells x)[j]?=some v→w.cell? ⟨b,off+i*ls.length+j,none⟩=some v):=by
 rcases Go.Deep.open_slice ht h with ⟨e,_⟩ | ⟨a',len,cap,m,n',D,Pl,e,_,hle,hcm,hm,_,hx⟩
 ·exact⟨none,0,[],(tF e).1,⟨bH _,bH _⟩,fun x hx=>by simp at hx,fun h=>absurd Z h⟩
 ·have hlm:len≤m:=by rw[hm];split<;>omega
  rw[hce] at hx
  have key:∀i,i<len→∃y:α,φ y∧(cells y).length=ls.length∧∀j v,(cells y)[j]?=some v→w.cell? ((a'.add (i*ls.length)).add j)=some v:=by
   intro i hi
   obtain⟨cs',h1,h2⟩:=hx i yg
   obtain⟨_,hl,hc⟩:=World.cells?_some h1
   obtain⟨h3,h4⟩:=Fz n _ ls hf _ _ _ h2
   obtain⟨y,rfl,hy⟩:=hrow cs' h3 h4
   refine⟨y,hy,h3,fun j v hv=>?_⟩
   have hj:j<ls.length:=by have:=(bP.1 hv).1;omega
   rw[hc j hj,hv]
  have build:∀k,k≤len→∃l:List α,l.length=k∧∀i x,l[i]?=some x→φ x∧(cells x).length=ls.length∧∀j v,(cells x)[j]?=some v→w.cell? ((a'.add (i*ls.length)).add j)=some v:=by
   intro k
   induction k with
   | zero=>intro _;exact⟨[],rfl,fun i x hx=>by simp at hx⟩
   | succ k ih=>
    intro hk
    obtain⟨l,hl,hall⟩:=ih yg
    obtain⟨y,hy⟩:=key k yg
    refine⟨l ++ [y],by simp[hl],fun i x hx=>?_⟩
    by_cases hi:i<l.length
    ·rw[nL hi] at hx;exact hall i x hx
    ·rw[qX yg] at hx
     have hi2:i=k:=by
      have:=(bP.1 hx).1
      simp at this;omega
     subst hi2
     rw[hl,Nat.sub_self] at hx
     obtain rfl:=ij hx
     exact hy
  obtain⟨l,hl,hall⟩:=build len (NR _)
  subst hl
  refine⟨some a',cap,l,(tF e).1,⟨by omega,by omega⟩,fun x hx=>?_,fun hne=>?_⟩
  ·obtain⟨i,hi⟩:=nM hx
   exact(hall i x hi).1
  obtain⟨ab,ao,asp⟩:=a'
  cases l with
  | nil=>exact absurd rfl hne
  | cons y l=>
   obtain⟨_,h5,h6⟩:=hall 0 y rfl
   have h0:=h6 0 _ (GE yg)
   have hsp:asp=none:=by simpa[Addr.add] using World.cell?_spot h0
   subst hsp
   refine⟨ab,ao,Z,by simpa[Addr.add] using QR h0,fun i x hx j v hv=>?_⟩
   have:=(hall i x hx).2.2 j v hv
   rwa[Addr.add_mid,Addr.add_mid] at this
end
end Vg
namespace Au
open Go Vg Go.ChangeShapes Go.WideShapes Go.ChangeAt Go.RowKit Api LibC
set_option maxRecDepth 100000
theorem Vn:ownKnob Tryz.prog.godebug=none:=by kernel_rfl
theorem Tl:laidOutB Tryz.prog=true:=by kernel_rfl
def rH:List (String×DataW Unit):=Rows.auditFindsRow.laid
theorem Rv(os:Os)(args:Array Value):laidMetH Tryz.prog rH ((World.laidAll Tryz.prog os rH).forCall (fun _ _=>0) ⟨#[],args,[]⟩).memory:=by
 rw[MakeChecks.laidMetH_plain _ _ _ yp]
 exact laidMet_laidAll args yp yp
theorem KN{P:Program}{W:World}:∀{l:List (String×DataW Unit)} {i:Nat} {nm:String} {d:DataW Unit},laidMet P l W→l[i]?=some (nm,d) →
  ∃g t cs fuel p,P.globalNamed nm=some g∧(P.globals[g]?).map (·.type)=some t∧W.var? P nm=some cs∧DataW.trod (fun _=>()) P W 0 (fun _=>true) false fuel t cs.toList=some (d,p)
 | [],i,nm,d,_,h=>by simp at h
 | x::l,0,nm,d,hm,h=>by
  obtain rfl:=ij h
  obtain⟨ps,⟨g,t,cs,fuel,p,q,h1,h2,h3,h4,_,_⟩,_⟩:=hm
  exact⟨g,t,cs,fuel,p,h1,h2,h3,h4⟩
 | x::l,i+1,nm,d,hm,h=>KN (KM hm) ye
theorem abh{P:Program}{W:World}{nm:String}{g:Nat}{cs:Array Value}(hg:P.globalNamed nm=some g)(h:W.var? P nm=some cs):g<W.heap.size∧∃t fz,W.heap[g]?=some (.cells cs t fz):=by
 unfold World.var? at h
 rw[hg] at h
 simp only[jS] at h
 cases hh:W.heap[g]? with
 | none=>rw[hh] at h;cases h
 | some o=>
  rw[hh] at h
  refine⟨(sn.1 hh).1,?_⟩
  cases o<;>simp at h
  subst h
  exact⟨_,_,Z⟩
theorem abE:(Rows.laid_fairway_audit_words:DataW Unit)=.agg ((List.range 10).map fun n=>.lit (.string (AV n))):=rfl
theorem abF{W:World}(hL:laidMet Tryz.prog rH W):oI (fun b=>b<W.heap.size) W:=by
 obtain⟨g',t,cs,fuel,p,h1,h2,h3,h4⟩:=KN hL (show rH[3]?=some ("fairway/audit.words",Rows.laid_fairway_audit_words) from rfl)
 obtain rfl:g'=0:=ij (h1.symm.trans yp)
 obtain rfl:t=103:=ij (h2.symm.trans yp)
 obtain⟨xs,m,_,e,hl,hxl,hall⟩:=DataW.trod_array Tryz.underlying103 h4
 have hce:Tryz.prog.cellsOf 9=1:=by kernel_rfl
 have hct:Tryz.prog.cellsOf 103=10:=by kernel_rfl
 rw[hct] at hl
 rw[hce] at hall
 have e1:(Rows.laid_fairway_audit_words:DataW Unit)=.agg (xs.map (·.1)):=(Prod.mk.inj e).1
 rw[abE] at e1
 have e2:((List.range 10).map fun n=>(DataW.lit (.string (AV n)):DataW Unit))=xs.map (·.1):=by injection e1
 obtain⟨hlt,tt,fz,hh⟩:=abh h1 h3
 have hflat:cs.toList=DP:=by
  have:=FB (c:=fun n:Nat=>[Value.string (lP n)]) (n:=1) (xs:=List.range 10) (cells:=cs.toList) (off:=0) (fun i k hk=>by
   have hi:i<10:=by have:=(bP.1 hk).1;simpa using this
   have e3:=congrArg (fun l=>l[i]?) e2
   simp only[dH,hk,ng] at e3
   cases hx:xs[i]? with
   | none=>rw[hx] at e3;cases e3
   | some x=>
    rw[hx] at e3
    have h5:=hall i hi
    rw[hx] at h5
    rw[cj]
    obtain⟨s0,q0,k0,_⟩:=DataW.trod_string Tryz.underlying9 h5
    subst k0
    have e4:=ij e3
    have e4:(DataW.lit (.string (AV k)):DataW Unit)=DataW.lit (.string s0.data.toList):=e4
    injection e4 with e5
    injection e5 with e6
    rw[q0]
    show [Value.string s0]=[Value.string (lP k)]
    unfold lP
    rw[e6])
  rw[List.drop_zero,show(List.range 10).length*1=10 from rfl,qg yg] at this
  exact this
 exact⟨hlt,tt,fz,by rw[←hflat];simpa using hh⟩
theorem SB{W:World}(h:laidMetH Tryz.prog rH W):nj (fun b=>b<W.heap.size) W∧oI (fun b=>b<W.heap.size) W:=by
 have hp:laidMet Tryz.prog rH W:=Eq.mp (MakeChecks.laidMetH_plain Tryz.prog rH W yp) h
 exact⟨aaw (g:=1) 2 yp yp yp yp Tryz.underlying350 Tryz.underlying302 yp yp h,abF hp⟩
end Au
namespace Adm
open Go Vg Go.ChangeShapes Go.WideShapes Go.ChangeAt Go.RowKit Sched Conf
theorem Q9:sL Tryz.prog 3 24=some [3,3,3,22,3,3,3,3,3,3,3,3]:=by kernel_rfl
theorem S7:sL Tryz.prog 1 3=some [3]:=by kernel_rfl
theorem DM{a:Int}(w:(Lit.int .u8 a).wf=true):0≤a∧a≤255:=by
 simp[Lit.wf,IntKind.min,IntKind.max,IntKind.signed,IntKind.bits] at w;omega
section
variable {H:Type} {enc:TypeId×Value→H} {w:World} {base:Nat} {spare:Nat→Bool} {held:Bool}
theorem TG{v:Value}(h:pn enc Tryz.prog w base spare held 22 v):∃a tc l,v=.slice a (l:List Int).length tc∧l.length≤tc∧gp (fun b=>b<w.heap.size) w a l:=by
 obtain⟨fuel,x,hf⟩:=h
 obtain⟨a,tc,l,e,h1,h2,h3⟩:=L6 (α:=Int) (fun x=>[.int .i64 x]) (fun _=>True) Tryz.underlying22 S7 yp yy (fun cs hl hc=>by
  match cs,hl,hc with
  | [c],_,hc=>
   obtain⟨n,rfl,_⟩:=(hc 0 c _ rfl rfl).int Tryz.underlying3
   exact⟨n,Z,trivial⟩) hf
 refine⟨a,tc,l,e,h1.1,⟨fun hne=>?_⟩⟩
 obtain⟨b,off,h4,h5,h6⟩:=h3 hne
 refine⟨b,off,h4,h5,fun i v hv=>?_⟩
 have:=h6 i v hv 0 _ rfl
 simpa using this
theorem TD{cs:List Value}(hl:cs.length=12)(h3:∀(i:Nat) (v:Value) (u:TypeId),cs[i]?=some v→([3,3,3,22,3,3,3,3,3,3,3,3]:List TypeId)[i]?=some u→pn enc Tryz.prog w base spare held u v):
  ∃(c:ba) (a:Option Addr) (cap:Nat),cs=c.cells a cap∧c.qs.length≤cap∧gp (fun b=>b<w.heap.size) w a c.qs:=by
 match cs,hl,h3 with
 | [c0,c1,c2,c3,c4,c5,c6,c7,c8,c9,c10,c11],_,h3=>
 obtain⟨n0,rfl,_⟩:=(h3 0 c0 _ rfl rfl).int Tryz.underlying3
 obtain⟨n1,rfl,_⟩:=(h3 1 c1 _ rfl rfl).int Tryz.underlying3
 obtain⟨n2,rfl,_⟩:=(h3 2 c2 _ rfl rfl).int Tryz.underlying3
 obtain⟨a3,cap3,l3,rfl,hc3,hq3⟩:=TG (h3 3 c3 _ rfl rfl)
 obtain⟨n4,rfl,_⟩:=(h3 4 c4 _ rfl rfl).int Tryz.underlying3
 obtain⟨n5,rfl,_⟩:=(h3 5 c5 _ rfl rfl).int Tryz.underlying3
 obtain⟨n6,rfl,_⟩:=(h3 6 c6 _ rfl rfl).int Tryz.underlying3
 obtain⟨n7,rfl,_⟩:=(h3 7 c7 _ rfl rfl).int Tryz.underlying3
 obtain⟨n8,rfl,_⟩:=(h3 8 c8 _ rfl rfl).int Tryz.underlying3
 obtain⟨n9,rfl,_⟩:=(h3 9 c9 _ rfl rfl).int Tryz.underlying3
 obtain⟨n10,rfl,_⟩:=(h3 10 c10 _ rfl rfl).int Tryz.underlying3
 obtain⟨n11,rfl,_⟩:=(h3 11 c11 _ rfl rfl).int Tryz.underlying3
 exact⟨⟨n0,n1,n2,l3,n4,n5,n6,n7,n8,n9,n10,n11⟩,a3,cap3,Z,hc3,hq3⟩
theorem Va{P:Program}{r:Reach}{t:TypeId}{v:Value}{fs:Array Field}(ht:P.underlying t=some (.struct fs))(h:Value.okWide P w r base t v):∃cs:List Value,v=.agg cs.toArray:=by
 unfold Value.okWide at h
 rw[ht] at h
 obtain⟨cs,h,_⟩:=h
 exact⟨cs.toList,by rw[h]⟩
theorem Vf{base0:Nat}{v:Value}{d:DataW H}{ps:List MemPlace}(hval:Value.okWide Tryz.prog w .any base0 24 v)(h:DataW.Trod enc Tryz.prog w base spare held 24 v d ps):
  ∃(c:ba) (a:Option Addr) (cap:Nat),v=.agg (c.cells a cap).toArray∧c.qs.length≤cap∧gp (fun b=>b<w.heap.size) w a c.qs:=by
 obtain⟨cs,rfl⟩:=Va Tryz.underlying24 hval
 obtain⟨fuel,hf⟩:=h
 obtain⟨h1,h2⟩:=Fz 3 _ _ Q9 fuel cs _ hf
 obtain⟨c,a,cap,rfl,h3,h4⟩:=TD h1 h2
 exact⟨c,a,cap,Z,h3,h4⟩
end
end Adm
namespace Cl
open Go Vg Go.ChangeShapes Go.WideShapes Go.ChangeAt Go.RowKit Sched Conf Adm Api
def J2:List TypeId:=[3,3,3,3,3,9,9,3]
theorem Rs:sL Tryz.prog 5 38=some J2:=by kernel_rfl
section
variable {H:Type} {enc:TypeId×Value→H} {w:World} {base:Nat} {spare:Nat→Bool} {held:Bool}
theorem TE{cs:List Value}(hl:cs.length=8)
  (h3:∀(i:Nat) (v:Value) (u:TypeId),cs[i]?=some v→J2[i]?=some u→pn enc Tryz.prog w base spare held u v):∃x:dU,cs=x.cells∧True:=by
 match cs,hl,h3 with
 | [c1,c2,c3,c4,c5,c6,c7,c8],_,h3=>
 obtain⟨n1,rfl,_⟩:=(h3 0 c1 _ rfl rfl).int Tryz.underlying3
 obtain⟨n2,rfl,_⟩:=(h3 1 c2 _ rfl rfl).int Tryz.underlying3
 obtain⟨n3,rfl,_⟩:=(h3 2 c3 _ rfl rfl).int Tryz.underlying3
 obtain⟨n4,rfl,_⟩:=(h3 3 c4 _ rfl rfl).int Tryz.underlying3
 obtain⟨n5,rfl,_⟩:=(h3 4 c5 _ rfl rfl).int Tryz.underlying3
 obtain⟨s6,rfl,_⟩:=(h3 5 c6 _ rfl rfl).str Tryz.underlying9
 obtain⟨s7,rfl,_⟩:=(h3 6 c7 _ rfl rfl).str Tryz.underlying9
 obtain⟨n8,rfl,_⟩:=(h3 7 c8 _ rfl rfl).int Tryz.underlying3
 exact⟨⟨n1,n2,n3,n4,⟨n5,s6,s7,n8⟩⟩,Z,trivial⟩
theorem Vh{base0:Nat}{v:Value}{d:DataW H}{ps:List MemPlace}(hval:Value.okWide Tryz.prog w .any base0 25 v)(h:DataW.Trod enc Tryz.prog w base spare held 25 v d ps):
  ∃(a:Option Addr) (tc:Nat) (l:List dU),v=.slice a l.length tc∧l.length≤9223372036854775807∧aT dU.cells 8 (fun b=>b<w.heap.size) w a l:=by
 obtain⟨a0,n0,c0,rfl⟩:=okWide_slice Tryz.underlying25 hval
 obtain⟨fuel,hf⟩:=h
 obtain⟨a,tc,l,e,h1,h2,h3⟩:=L6 (α:=dU) dU.cells (fun _=>True) Tryz.underlying25 Rs yp yy (fun cs hl hc=>TE hl hc) hf
 have hm:maxLen≤9223372036854775807:=by decide
 exact⟨a,tc,l,e,by omega,⟨h3⟩⟩
end
end Cl
end Go.Proofs.YtkgfhabealjjpaaGreatDoor
