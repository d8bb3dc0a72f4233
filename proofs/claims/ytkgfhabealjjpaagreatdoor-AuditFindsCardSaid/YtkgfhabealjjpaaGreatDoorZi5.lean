/- Texts of the proof, put together and shortened. No condition. -/
import Derived.Test.YtkgfhabealjjpaaGreatDoorZi4
set_option maxRecDepth 100000
set_option maxHeartbeats 16000000
set_option linter.unusedVariables false
set_option linter.unusedSectionVars false
set_option linter.unusedSimpArgs false
namespace Go.Proofs.YtkgfhabealjjpaaGreatDoor
variable (Fr : Nat → Prop) (w : World)
namespace Cl
open Go Vg T Api Ch Rep
attribute [local irreducible] VO VC VA
theorem CF:∀{l m:List Nat},l.Nodup→(∀x∈l,x∈m)→l.length≤m.length
 | [],m,_,_=>bH _
 | x::l,m,hn,hs=>by
  have hx:=hs x qZ
  have h1:=List.nodup_cons.1 hn
  have:=CF (l:=l) (m:=m.erase x) h1.2 (fun y hy=>(List.mem_erase_of_ne (fun e=>h1.1 (by rw[←e];exact hy))).2 (hs y (kW _ hy)))
  have h2:=List.length_erase_of_mem hx
  have h3:0<m.length:=List.length_pos_of_mem hx
  rw[ku];omega
theorem lf.len{κ α:Type}{c:κ→Value}{d:α→Value}{xs:List (κ×α)}{es:Array MapEntry}{k:Nat}{J:ql κ α}(h:nP c d xs es k)(ok:lf c d xs es J):J.length≤xs.length:=by
 have h1:=CF (m:=es.toList.map (·.born)) ok.nd (fun x hx=>by
  obtain⟨z,hz,rfl⟩:=cy.1 hx
  exact cy.2 ⟨z.1,(h.kv (ok.sub z hz)).1,Z⟩)
 rw[cY,cY,h.len] at h1
 exact h1
theorem lf.keys{κ α:Type}{c:κ→Value}{d:α→Value}{xs:List (κ×α)}{es:Array MapEntry}{k:Nat}{J:ql κ α}(h:nP c d xs es k)(ok:lf c d xs es J):((J.map Prod.snd).map Prod.fst).Nodup:=by
 rw[mY]
 refine uR.2 ((uR.1 ok.nd).imp_of_mem fun {z1 z2} h1 h2 hne e=>hne ?_)
 obtain⟨a1,_,a2,_⟩:=h.kv (ok.sub z1 h1)
 obtain⟨b1,_,b2,_⟩:=h.kv (ok.sub z2 h2)
 rw[FR h.st.2.2 a1 b1 (by rw[a2,b2];exact congrArg c e)]
theorem Li{κ α:Type}[DecidableEq κ]{a:κ}(u:α):∀{l:List (κ×α)},a∉l.map Prod.fst→cS l a u=l ++ [(a,u)]
 | [],_=>rfl
 | (k,v)::r,h=>by
  simp only[kV,iD,not_or] at h
  unfold cS
  rw[if_neg (fun e=>h.1 e.symm),Li u h.2];rfl
theorem RW(S:aX)(q:bE)(i:Int):∃x y t,tX S q i=.tuple #[.agg (eO x y t).toArray,.int .i64 (S.drop q i).2]:=by
 cases hf:S.find q i with
 | none=>exact⟨_,_,_,by rw[wT hf,Fk hf]⟩
 | some t=>exact⟨_,_,_,by rw[zz hf,Fm hf]⟩
section
variable {p:Nat} {S:aX} {b:Nat} {X:List lY}
theorem TA(ok:S.Ok)(x y i:Int):ax Tryz.prog 56 [.pointer (some ⟨p,0,none⟩),.int .i64 x,.int .i64 y,.int .i64 i] Fr w [cH p S]
  (fun v L=>v=.int .i64 (S.drop (x,y) i).2∧L=[cH p (S.drop (x,y) i).1]):=by
 refine TF 20 Tryz.func56 Z yp aC Z Z ?_
 refine ae ?_
 refine VG (VK (Lc:=[cH p S]) (Lr:=[]) (fun Fr w hF hw _=>KT Fr w ok x y i) Z Z ?_)
 rintro _ _ ⟨rfl,rfl⟩
 obtain⟨x',y',t',e⟩:=RW S (x,y) i
 rw[e]
 refine ae ?_
 refine VG (VO.alloc Z fun rb=>?_)
 refine VG (VT (vs:=eO x' y' t') (cs':=eO x' y' t') 0 Z Z Z Z (NR _) Z Z Z ?_)
 refine ae ?_
 exact CR (an.tmp 8 Z Z (IP 1 Z aa.nil).aj ⟨rfl,Z⟩)
theorem J6{q:bE}{i:Int}(h:S.find q i=none):S.double q i=(S,4):=by unfold aX.double;rw[h]
theorem J7{q:bE}{i:Int}{t:ByteArray}(h:S.find q i=some t):S.double q i=(S.send q t,S.kS q t):=by unfold aX.double;rw[h]
theorem aX.Ok.double(ok:S.Ok)(q:bE)(i:Int):(S.double q i).1.Ok:=by
 unfold aX.double
 split
 ·exact ok
 ·exact ok.send _ _
theorem Tz(ok:S.Ok)(x y i:Int):ax Tryz.prog 57 [.pointer (some ⟨p,0,none⟩),.int .i64 x,.int .i64 y,.int .i64 i] Fr w [cH p S]
  (fun v L=>v=.int .i64 (S.double (x,y) i).2∧L=[cH p (S.double (x,y) i).1]):=by
 refine TF 25 Tryz.func57 Z yp aC Z Z ?_
 refine VC.bz 0 Z (bd.aU p S) ?_
 rintro⟨b,X⟩ hX
 dsimp only at hX
 refine Ik ?_
 refine ae ?_
 refine VG (VV (fun Fr w hF hw hS=>KU Fr w ok (hS.aA 0 Z) (hS.w9 1 Z) (F1 (A:=[_,_]) hS) hX x y i) Z ?_)
 refine VO.aj (L':=[cH p S]) (aa.aU (K:=[]) b X hX (by rw[br];exact aa.refl)).aj ?_
 cases hf:S.find (x,y) i with
 | none=>
  rw[wT hf]
  refine ae ?_
  refine VG (VO.alloc Z fun rb=>?_)
  refine yC ?_
  refine vY ?_
  exact CR (an.tmp 8 Z Z (IP 1 Z aa.nil).aj ⟨by rw[J6 hf],by rw[J6 hf]⟩)
 | some t=>
  rw[zz hf]
  refine ae ?_
  refine VG (VO.alloc Z fun rb=>?_)
  refine Im ?_
  refine si ?_
  refine VG (VL 0 (eO x y t) Z Z Z Z ?_)
  refine VO.aj (L':=[cH p S,pt rb (eO x y t) lJ]) (IP 1 Z aa.refl).aj ?_
  refine VG (VK (Lc:=[cH p S]) (Lr:=[pt rb (eO x y t) lJ]) (fun Fr w hF hw _=>La Fr w ok x y t) Z Z ?_)
  rintro _ _ ⟨rfl,rfl⟩
  refine ae ?_
  exact CR (an.tmp 8 Z Z (IP 0 Z aa.nil).aj ⟨by rw[J7 hf],by rw[J7 hf]⟩)
theorem Tx(ok:S.Ok)(h:bq Fr w p (mN S b))(hm:qk Fr w fN iQ b X)(hr:∀z∈X,aT fx 1 Fr w z.2.2.1 z.2.1)(hX:il X=S.mail):ax Tryz.prog 76 [.pointer (some ⟨p,0,none⟩)] Fr w [] (fun v L=>∃q m,m.Perm S.mail∧v=.pointer (some ⟨q,0,none⟩)∧L=[cH q ⟨S.cap,m⟩]):=by
 obtain⟨es,clock,g1,g2,g3⟩:=hm.at_
 have hz:nP fN iQ X es clock:=⟨g2,g3⟩
 have hXe:∀z∈X,z.2.1.length≤64:=fun z hz=>by
  have:=ok.each (z.1,z.2.1) (by rw[←hX];exact cy.2 ⟨z,hz,rfl⟩)
  exact this
 refine TF 33 Tryz.func76 Z yp aC Z Z ?_
 refine av ?_
 refine Ef ?_
 refine lS ?_
 refine ji ?_
 refine VG (VO.vv (aK.makeMap fN iQ) ?_)
 rintro _ _ ⟨m,rfl,rfl⟩
 refine VG (VI (LB (pv:=[(0,.int .i64 S.cap),(1,.map (some m))]) (mN S m) Z Z Z yp Z) ?_)
 refine VG (VB (vs:=mN S m) Z fun q=>?_)
 refine ji ?_
 refine O8 ?_
 rintro _ _ ⟨it,rfl,rfl⟩
 refine gm ?_
 refine VC.block ?_
 refine VC.loop (σ:=ql bE zd×List lY) (fun s=>[(3,pV q),(19,pV it)]) (fun s=>ub it b clock s.1::pt q (mN S m) vl::fG fN iQ m s.2::s.2.map jf) (fun s=>lf fN iQ X es s.1∧il s.2=il (s.1.map Prod.snd)) (fun s=>X.length-s.1.length) ([],[])
  ⟨lf.nil,rfl⟩ aH ER ?_
 rintro⟨J,Y⟩ ⟨hJ,hY⟩
 dsimp only at hJ hY ⊢
 refine ae ?_
 refine O9 ?_
 rintro v L' (⟨rfl,rfl,hp⟩ | ⟨z,rfl,z1,z2,hok,rfl⟩)
 ·refine ae ?_
  refine EG ?_
  refine CR (an.tmp 2 Z Z (L':=[cH q ⟨S.cap,il Y⟩]) ?_ ⟨q,il Y,?_,Z,Z⟩)
  ·exact(aa.aU (S:=⟨S.cap,il Y⟩) (K:=[]) m Y Z (by rw[br];exact aa.app (L:=[_]) (M:=[]) aa.nil aa.refl)).aj
  ·rw[hY,←hX];exact hp.map _
 ·refine ae ?_
  refine VC.mi Z (CK ?_)
  refine ae ?_
  refine O_ ?_
  refine ae ?_
  refine VG (VO.alloc Z fun kb=>?_)
  refine O' ?_
  refine ae ?_
  refine CD (ts 0 6 (.only 6 (.only 7 .nil))) yp yr ?_
  refine jh ?_
  refine AG (VA.dE 0 [.int .i64 z.2.1.1,.int .i64 z.2.1.2] Z Z Z Z Z ?_)
  refine jh ?_
  have hzl:=hXe _ z1
  refine AG (AO (OC (Lc:=[]) rfl (.refl _) (fun Fr w hF hs _=>aaC (a:=z.2.2.2.1) (cap:=z.2.2.2.2) Fr w ((hr _ z1).of hF hs) yg)) rfl (fun v L' g=>by obtain⟨_,⟨a1,c1,rfl,rfl⟩,rfl⟩:=g;exact(by(try refine Pd.st ?_);(repeat(first|exact Pd.nil|exact Pd.fnil|refine Pd.inner ?_|refine Pd.skip yr ?_|refine zf (zo 0 rfl rfl) ?_|refine zf (zo 1 rfl rfl) ?_|refine zf (zo 2 rfl rfl) ?_|refine zf (zo 3 rfl rfl) ?_|refine zf (zo 4 rfl rfl) ?_|refine zf (zo 5 rfl rfl) ?_|refine zf (zo 6 rfl rfl) ?_|refine zf (zo 7 rfl rfl) ?_|refine zf (zo 8 rfl rfl) ?_|refine zf (zm 0 rfl rfl) ?_|refine zf (zm 1 rfl rfl) ?_|refine zf (zm 2 rfl rfl) ?_|refine zf (zm 3 rfl rfl) ?_|refine zf (zm 4 rfl rfl) ?_|refine zf (zm 5 rfl rfl) ?_|refine zf (zm 6 rfl rfl) ?_|refine zf (zm 7 rfl rfl) ?_|refine zf (zm 8 rfl rfl) ?_|refine zc (zo 0 rfl rfl) ?_|refine zc (zo 1 rfl rfl) ?_|refine zc (zo 2 rfl rfl) ?_|refine zc (zo 3 rfl rfl) ?_|refine zc (zo 4 rfl rfl) ?_|refine zc (zo 5 rfl rfl) ?_|refine zc (zo 6 rfl rfl) ?_|refine zc (zo 7 rfl rfl) ?_|refine zc (zo 8 rfl rfl) ?_|refine zc (zm 0 rfl rfl) ?_|refine zc (zm 1 rfl rfl) ?_|refine zc (zm 2 rfl rfl) ?_|refine zc (zm 3 rfl rfl) ?_|refine zc (zm 4 rfl rfl) ?_|refine zc (zm 5 rfl rfl) ?_|refine zc (zm 6 rfl rfl) ?_|refine zc (zm 7 rfl rfl) ?_|refine zc (zm 8 rfl rfl) ?_|refine Pd.lx (di.one 0 rfl) ?_|refine Pd.lx (di.one 1 rfl) ?_|refine Pd.lx (di.one 2 rfl) ?_|refine Pd.lx (di.one 3 rfl) ?_|refine Pd.lx (di.one 4 rfl) ?_|refine Pd.lx (di.one 5 rfl) ?_|refine Pd.lx (di.one 6 rfl) ?_|refine Pd.lx (di.one 7 rfl) ?_|refine Pd.lx (di.one 8 rfl) ?_|refine Pd.consM (di.one 0 rfl) ?_|refine Pd.consM (di.one 1 rfl) ?_|refine Pd.consM (di.one 2 rfl) ?_|refine Pd.consM (di.one 3 rfl) ?_|refine Pd.consM (di.one 4 rfl) ?_|refine Pd.consM (di.one 5 rfl) ?_|refine Pd.consM (di.one 6 rfl) ?_|refine Pd.consM (di.one 7 rfl) ?_|refine Pd.consM (di.one 8 rfl) ?_)))) ?_)
  rintro _ _ ⟨_,⟨a1,c1,rfl,rfl⟩,rfl⟩
  refine AG (AO (aK.mapUpdate 4 (c:=fN) (d:=iQ) (xs:=Y) (a:=z.2.1) (u:=(z.2.2.1,(a1,c1))) sQ Tryz.underlying114 Z Z Z Z) Z ?_ ?_)
  ·rintro _ _ ⟨rfl,rfl⟩
   exact yv
  rintro _ _ ⟨rfl,rfl⟩
  refine cX ?_
  have hnk:z.2.1∉Y.map Prod.fst:=fun hh=>by
   have e1:Y.map Prod.fst=(J.map Prod.snd).map Prod.fst:=by
    have:=congrArg (List.map Prod.fst) hY
    unfold il at this
    rw[mY,mY] at this
    exact this
   rw[e1] at hh
   have:=lf.keys hz hok
   rw[gn,gn] at this
   exact(nN.1 this).2.2 _ hh _ (fe.2 Z) rfl
  have b2:=lf.len hz hok
  rw[a8] at b2
  refine⟨(J ++ [z],Y ++ [(z.2.1,(z.2.2.1,(a1,c1)))]),⟨hok,by show il (Y++_)=il ((J ++ [z]).map Prod.snd);rw[il,gn,gn,il,gn];exact congrArg (· ++ _) hY⟩,by show X.length-(J ++ [z]).length<X.length-J.length;rw[a8];simp at b2 ⊢;omega,aH,?_⟩
  dsimp only
  rw[Li _ hnk,gn]
  refine aa.aj ?_
  refine IP 2 Z (IP 2 Z (IP 2 Z ?_))
  exact(aa.perm (lV (l₁:=[_,_]) (l₂:=Y.map jf))).trans (aa.app aa.refl (IP 0 Z aa.nil))
end
end Cl
namespace Cl
open Go Vg T Api Ch Conf Rep
structure dU where
 kind:Int
 a:Int
 b:Int
 c:Int
 op:bw
structure az where
 de:ba
 now:Int
 aG:aI
 nodes:List (Option ay)
 d_:List aW
 aU:aX
 bO:bx
 done:List bf
def rL(c:ba):az:=⟨c,0,qF c,(List.range c.nodes.toNat).map fun(n:Nat)=>some (cJ c n false),(List.range c.bK.toNat).map fun(n:Nat)=>qD c n,⟨c.link,[]⟩,uh,[]⟩
def oX(from_:Int)(l:aX)(s:dJ):aX:=match rQ s.2.1 s.2.2 with
 | none=>l
 | some t=>l.send (from_,s.1) (bT t)
def b_(from_:Int)(l:aX)(S:List dJ):aX:=S.foldl (oX from_) l
def az.post(C:az)(from_:Int)(S:List dJ):az:={ C with aU:=b_ from_ C.aU S }
def az.node(C:az)(n:Int):Option ay:=if n<0 then none else (C.nodes[n.toNat]?).getD none
def az.jy(C:az)(n:Int):Int:=if n<0∨(C.nodes.length:Int)≤n then 4 else if (C.node n).isNone then 61 else 0
def az.setNode(C:az)(n:Int)(r:Option ay):az:={ C with nodes:=C.nodes.set n.toNat r }
def az.eS(C:az)(n:Int):Option aW:=if n<0 then none else C.d_[n.toNat]?
def az.jv(C:az)(n:Int)(s:aW):az:={ C with d_:=C.d_.set n.toNat s }
def az.dead(C:az)(c:Int):Int:=min (C.now+min (max c 0) 1099511627776) 1099511627776
def az.call(C:az)(s:dU):az×Int:=match C.eS s.a with
 | none=>(C,4)
 | some x=>
  if x.fZ s.op s.b (C.dead s.c)≠0 then (C,x.fZ s.op s.b (C.dead s.c))
  else
   let y:=x.call s.op s.b (C.dead s.c) C.now
   (({ C.jv s.a y.1 with bO:=C.bO.call s.a y.1.seq s.op }:az).post (32+s.a) y.2,0)
def az.bY(C:az)(n:Nat):az:=match (C.nodes[n]?).getD none with
 | none=>C
 | some r=>(C.setNode n (some (jQ r).1)).post n (gy (jQ r).2)
def az.gX(C:az)(n:Nat):az:=match C.d_[n]? with
 | none=>C
 | some s=>(C.jv n (s.tick C.now).1).post (32+n) (s.tick C.now).2
def az.tick(C:az):az:=
 let C:={ C with now:=min (C.now+1) 1099511627776 }
 let C:=(List.range C.nodes.length).foldl az.bY C
 (List.range C.d_.length).foldl az.gX C
def az.ig(C:az)(from_ to:Int)(f:aB)(ms:List aS):az:=
 if to=16 then ({ C with aG:=(C.aG.take from_ f C.now).1 }).post to (C.aG.take from_ f C.now).2
 else match C.node to with
  | some r=>(C.setNode to (some (cU r from_ f ms C.now).1)).post to (gy (cU r from_ f ms C.now).2)
  | none=>match C.eS (to-32) with
   | some s=>(C.jv (to-32) (s.take f ms C.now).1).post to (s.take f ms C.now).2
   | none=>C
def az.lE(C:az)(from_ to:Int)(t:ByteArray):az:=match getM (sB t) with
 | some (f,ms)=>C.ig from_ to f ms
 | none=>C
def az.ib(C:az)(p:bE)(i:Int):az×Int:=match C.aU.find p i with
 | none=>(C,4)
 | some t=>(({ C with aU:=C.aU.fA p i }:az).lE p.1 p.2 t,0)
def az.back(C:az)(n:Int):az:=
 if C.jy n=61 then
  let r:=cU (cJ C.de n true) 16 (jH C.aG.ch) C.aG.ch.ms C.now
  (C.setNode n (some r.1)).post n (gy r.2)
 else C
def az.join(C:az)(n:Int):az×Int:=
 let j:=C.aG.join n C.now
 if j.2.2≠0 then (C,j.2.2) else ((({ C with aG:=j.1 }:az).back n).post 16 j.2.1,0)
def az.step(C:az)(s:dU):az×Int:=
 if s.kind=1 then C.call s
 else if s.kind=2 then match C.node s.a with
  | none=>(C,C.jy s.a)
  | some r=>((C.setNode s.a (some (iA r C.now).1)).post s.a (gy (iA r C.now).2),0)
 else if s.kind=3 then (C.tick,0)
 else if s.kind=4 then C.ib (s.a,s.b) s.c
 else if s.kind=5 then ({ C with aU:=(C.aU.drop (s.a,s.b) s.c).1 },(C.aU.drop (s.a,s.b) s.c).2)
 else if s.kind=6 then ({ C with aU:=(C.aU.double (s.a,s.b) s.c).1 },(C.aU.double (s.a,s.b) s.c).2)
 else if s.kind=7 then if C.jy s.a≠0 then (C,C.jy s.a) else (C.setNode s.a none,0)
 else if s.kind=8 then (({ C with aG:=(C.aG.fI s.a).1 }:az).post 16 (C.aG.fI s.a).2.1,(C.aG.fI s.a).2.2)
 else if s.kind=9 then C.join s.a
 else if s.kind=10 then (({ C with aG:=(C.aG.drain s.a).1 }:az).post 16 (C.aG.drain s.a).2.1,(C.aG.drain s.a).2.2)
 else if s.kind=11 then (({ C with aG:=(C.aG.tick C.now).1 }:az).post 16 (C.aG.tick C.now).2,0)
 else (C,2)
def nX(h:bx)(x:aW×Nat):bx:=match x.1.outcome with
 | none=>h
 | some o=>h.end_ (x.2:Int) x.1.seq o
def vi(ms:List aS):Int:=match ms.getLast? with
 | none=>-1
 | some m=>m.1
def iW(d:List bf)(x:Option ay×Nat):List bf:=match x.1 with
 | none=>d
 | some r=>if r.since=0∨r.ch.ms.length=0∨vi r.ch.ms≠x.2∨r.au.done≤d.length then d else d++(r.log.take r.au.done.toNat).drop d.length
def az.behind(C:az):az:={ C with bO:=C.d_.zipIdx.foldl nX C.bO,done:=C.nodes.zipIdx.foldl iW C.done }
def az.jV(C:az)(s:dU):az×Int:=((C.step s).1.behind,(C.step s).2)
end Cl
namespace Cl
open Go Vg T Api Ch Rep Conf Lg
attribute [local irreducible] VO VC VA
abbrev sJ:TypeId:=72
abbrev rT:TypeId:=75
abbrev sK:TypeId:=78
abbrev kZ:=Option (Nat×ay)
abbrev oC:=Nat×aW
def Gm:kZ→Value
 | none=>.pointer none
 | some x=>.pointer (some ⟨x.1,0,none⟩)
def ja(x:kZ):List Value:=[Gm x]
theorem Gl(x:kZ):(ja x).length=1:=rfl
def jO:kZ→HP
 | none=>kI True
 | some x=>bo x.1 x.2
def nU(x:oC):List Value:=[.pointer (some ⟨x.1,0,none⟩)]
theorem Q2(x:oC):(nU x).length=1:=rfl
def oL(x:oC):HP:=bQ x.1 x.2
structure fJ where
 qa:Option Addr
 qc:Nat
 mp:Nat
 nb:Nat
 nc:Nat
 nx:List Value
 nr:List kZ
 cb:Nat
 cc:Nat
 cx:List Value
 cr:List oC
 lp:Nat
 hp:Nat
 da:Option Addr
 dc:Nat
def jn(C:az)(y:fJ):List Value:=C.de.cells y.qa y.qc ++ [.int .i64 C.now,.pointer (some ⟨y.mp,0,none⟩),.slice (some ⟨y.nb,0,none⟩) y.nr.length y.nc,.slice (some ⟨y.cb,0,none⟩) y.cr.length y.cc,.pointer (some ⟨y.lp,0,none⟩),.pointer (some ⟨y.hp,0,none⟩),.slice y.da C.done.length y.dc]
def fp(p:Nat)(C:az)(y:fJ):List HP:=[pt p (jn C y) sJ,iq y.qa y.qc C.de.qs,cC y.mp C.aG,pt y.nb (flat ja y.nr++y.nx) rT,pt y.cb (flat nU y.cr++y.cx) sK,cH y.lp C.aU,jr y.hp C.bO,aq dK 7 y.da C.done.length y.dc (flat bm C.done),bF (y.nr.map jO),bF (y.cr.map oL)]
structure fY(C:az)(y:fJ):Prop where
 nr:y.nr.map (Option.map Prod.snd)=C.nodes
 cr:y.cr.map Prod.snd=C.d_
 qc:C.de.qs.length≤y.qc
def ek(p:Nat)(C:az):HP:=hex fun y:fJ=>bF (kI (fY C y)::fp p C y)
theorem bd.tQ(p:Nat)(C:az):bd (ι:=fJ) (ek p C) (fun y=>fY C y) (fun y=>fp p C y):=fun w ids ⟨x,h⟩ hn=>by
 obtain⟨i1,i2,rfl,⟨rfl,h1⟩,h2⟩:=h
 exact⟨x,h1,i2,h2,hn,fun _ h=>h⟩
theorem aa.tQ{p:Nat}{C:az}{L K:List HP}(y:fJ)(hy:fY C y)(h:aa L (fp p C y++K)):aa L (ek p C::K):=aa.ex (f:=fun y:fJ=>bF (kI (fY C y)::fp p C y)) y (aa.sep (aa.pure hy h))
theorem BZ{Fr:Nat→Prop}{w:World}{p:Nat}{C:az}(h:a_ Fr [ek p C] w):∃y,fY C y∧a_ Fr (fp p C y) w:=by
 obtain⟨y,hy⟩:=h.ex
 have hs:=hy.sep
 exact⟨y,hs.pure 0 Z,a_.tail hs⟩
def aX.kX(S:aX):Prop:=∀x∈S.mail,h_ x.1.1=true∧h_ x.1.2=true
structure az.Ok(C:az)(b e:Nat):Prop where
 cf:C.de=bh C.de
 n0:0≤C.now
 n1:C.now≤1099511627776
 aG:C.aG.Ok
 nl:C.nodes.length=C.de.nodes.toNat
 cl:C.d_.length=C.de.bK.toNat
 aU:C.aU.Ok
 bO:C.bO.Ok
 fit:∀r,some r∈C.nodes→r.Fit
 last:∀r,some r∈C.nodes→r.aQ.last≤b
 mg:∀s∈C.d_,s.Ok
 seq:∀s∈C.d_,s.seq≤b
 rc:C.bO.bn.length≤b
 ev:C.bO.events≤e
 dn:C.done.length≤4096
 l9:C.aU.kX
section
variable {p:Nat} {C:az} {y:fJ}
theorem Ny(h:bq Fr w p (jn C y)):ax Tryz.prog 19 [.pointer (some ⟨p,0,none⟩)] Fr w [] (fun v L=>v=.bool true∧L=[]):=by
 refine TF 12 Tryz.func19 Z yp aC Z Z ?_
 refine EF ?_
 refine ji ?_
 exact o_
theorem xi(fit:fY C y):y.nr.length=C.nodes.length:=by rw[←fit.nr,cY]
theorem wK(fit:fY C y):y.cr.length=C.d_.length:=by rw[←fit.cr,cY]
theorem xh(fit:fY C y){k:Nat}{x:kZ}(h:y.nr[k]?=some x):C.node (k:Int)=x.map Prod.snd∧C.nodes[k]?=some (x.map Prod.snd):=by
 have:C.nodes[k]?=some (x.map Prod.snd):=by rw[←fit.nr,dH,h];rfl
 refine⟨?_,this⟩
 unfold az.node
 rw[if_neg yg,ea,this];rfl
theorem BX(fit:fY C y){k:Nat}{x:oC}(h:y.cr[k]?=some x):C.eS (k:Int)=some x.2∧C.d_[k]?=some x.2:=by
 have:C.d_[k]?=some x.2:=by rw[←fit.cr,dH,h];rfl
 refine⟨?_,this⟩
 unfold az.eS
 rw[if_neg yg,ea,this]
theorem rM{l:List kZ}{k:Nat}{x:kZ}{r:List Value}(h:l[k]?=some x):(flat ja l++r)[0+k*1]?=some (Gm x):=by rw[cj];exact oN (j:=0) Gl h rfl r
theorem BY{l:List oC}{k:Nat}{x:oC}{r:List Value}(h:l[k]?=some x):(flat nU l++r)[0+k*1]?=some (.pointer (some ⟨x.1,0,none⟩)):=by rw[cj];exact oN (j:=0) Q2 h rfl r
theorem DK(fit:fY C y)(h:bq Fr w p (jn C y))(hr:bq Fr w y.nb (flat ja y.nr++y.nx))(n:Int):ax Tryz.prog 50 [.pointer (some ⟨p,0,none⟩),.int .i64 n] Fr w [] (fun v L=>v=.int .i64 (C.jy n)∧L=[]):=by
 have hl:=xi fit
 refine TF 26 Tryz.func50 Z yp aC Z Z ?_
 refine av ?_
 by_cases h0:n<0
 ·refine VG (VY 8 true Z (DT h0) ?_)
  refine ji ?_
  refine lR ?_
  refine av ?_
  exact CR (an.tmp 4 Z Z ER ⟨by rw[az.jy,if_pos (.inl h0)],Z⟩)
 obtain⟨k,rfl⟩:∃k:Nat,n=k:=⟨n.toNat,by omega⟩
 refine VG (VY 8 false Z (DF h0) ?_)
 refine ji ?_
 refine CP (p:=(y.nr.length:Int)≤k) Z (fun h1=>?_) (fun h1=>?_)
 ·refine av ?_
  exact CR (an.tmp 4 Z Z ER ⟨by rw[az.jy,if_pos (.inr yg)],Z⟩)
 have hk:k<y.nr.length:=by omega
 have hk2:y.nr[k]?=some y.nr[k]:=GE hk
 generalize y.nr[k]=x at hk2
 obtain⟨e1,e2⟩:=xh fit hk2
 have hu:C.jy (k:Int)=if x.isNone then 61 else 0:=by
  unfold az.jy
  rw[if_neg yg,e1]
  cases x<;>rfl
 refine ji ?_
 refine A3 ?_
 refine VG (VD Z Z (aw.aA hr (rM hk2)) ?_)
 cases x with
 | none=>
  refine kq ?_
  exact CR (an.tmp 4 Z Z ER ⟨by rw[hu];rfl,Z⟩)
 | some z=>
  show VO _ _ _ _ (bW (some 24) (.pointer (some ⟨z.1,0,none⟩)) _) _ _
  refine yP ?_
  exact CR (an.tmp 4 Z Z ER ⟨by rw[hu];rfl,Z⟩)
end
end Cl
namespace Cl
open Go Vg T Api Ch Rep Conf Lg
attribute [local irreducible] VO VC VA
structure mE(Fr:Nat→Prop)(w:World)(a:Option Addr)(X:List gr):Prop where
 rows:aT dy 30 Fr w a X
 Un:∀x∈X,aT aD 2 Fr w x.2.1 x.1.2.2
 len:X.length≤1000000
 ml:∀x∈X,x.1.2.2.length≤1000000
theorem WQ{Fr:Nat→Prop}{w:World}{A:List HP}{a:Option Addr}{c:Nat}{X:List gr}(h:a_ Fr (aq gk 30 a X.length c (flat dy X)::(X.map iM++A)) w)(hl:X.length≤1000000)(hm:∀x∈X.map Prod.fst,x.2.2.length≤1000000):mE Fr w a X:=
 ⟨aT.aq Db (h.at_ 0 rfl),fun x hx=>by
  obtain⟨i,hi,rfl⟩:=List.getElem_of_mem hx
  exact aT.aq cu (h.at_ (1+i) (by rw[show 1+i=i+1 from by omega,sr,nL (by rw[cY];exact hi),dH,GE hi];rfl)),hl,fun x hx=>hm x.1 (cy.2 ⟨x,hx,Z⟩)⟩
theorem VX(from_:Int)(l:aX)(S:List dJ)(s:dJ):b_ from_ l (S ++ [s])=oX from_ (b_ from_ l S) s:=by unfold b_;rw[Bv];rfl
theorem aX.Ok.oX{S:aX}(ok:S.Ok)(from_:Int)(s:dJ):(Cl.oX from_ S s).Ok:=by
 unfold Cl.oX
 split
 ·exact ok
 ·exact ok.send _ _
theorem aX.Ok.b_(from_:Int):∀(l:List dJ) {S:aX},S.Ok→(Cl.b_ from_ S l).Ok
 | [],_,ok=>ok
 | s::l,S,ok=>aX.Ok.b_ from_ l (ok.oX from_ s)
theorem WO(x:gr):((dy x).drop 1).take 29=x.1.2.1.cells (x.2.1,x.1.2.2.length,x.2.2):=rfl
theorem pW{p:Nat}{C:az}{y:fJ}{S:aX}(h:bq Fr w p (jn C y))(ok:S.Ok)(from_:Int){a:Option Addr}{c:Nat}{X:List gr}(hX:mE Fr w a X):ax Tryz.prog 51 [.pointer (some ⟨p,0,none⟩),.int .i64 from_,.slice a X.length c] Fr w [cH y.lp S]
  (fun v L=>v=.tuple #[]∧L=[cH y.lp (b_ from_ S (X.map Prod.fst))]):=by
 have hlen:=hX.len
 refine TF 35 Tryz.func51 Z yp aC Z Z ?_
 refine av ?_
 refine VC.loop (σ:=Nat) (fun k=>[(0,pV p),(1,.int .i64 from_),(10,.slice a X.length c),(11,.int .i64 X.length),(12,.int .i64 (k:Int))]) (fun k=>[cH y.lp (b_ from_ S ((X.take k).map Prod.fst))]) (fun k=>k≤X.length) (fun k=>X.length-k) 0
  (bH _) aH ER ?_
 rintro k hk
 refine av ?_
 refine CP (p:=(k:Int)<X.length) Z (fun h1=>CK ?_) (fun h1=>CX ?_)
 rotate_left
 ·obtain rfl:k=X.length:=by omega
  exact an.void Z ER ⟨rfl,by rw[iT]⟩
 have hkl:k<X.length:=by omega
 have hx:X[k]?=some X[k]:=GE hkl
 have hxm:X[k]∈X:=List.getElem_mem hkl
 generalize X[k]=x at hx hxm
 obtain⟨xb,xo,rfl,ra,rc⟩:=aT.rd (X:=⟨Tryz.prog,tab,aC,35,Fr,w⟩) hX.rows hx
 have okk:(b_ from_ S ((X.take k).map Prod.fst)).Ok:=aX.Ok.b_ from_ _ ok
 have htk:(X.take (k+1)).map Prod.fst=(X.take k).map Prod.fst ++ [x.1]:=by
  rw[fX,hx,gn];rfl
 have hxml:=hX.ml x hxm
 refine av ?_
 refine Eh ?_
 refine uB ?_
 refine VG (VO.alloc Z fun sb=>?_)
 refine VG (VT (vs:=dy x) (cs':=dy x) 0 Z Z Z Z (NR _) Z Z Z ?_)
 refine av ?_
 refine VG (VL 0 (x.1.2.1.cells (x.2.1,x.1.2.2.length,x.2.2)) Z Z Z (WO x) ?_)
 refine VG (VO.eB (φ:=Ku (rQ x.1.2.1 x.1.2.2)) (fun Fr w hF hw _=>Sk Fr w ((hX.Un x hxm).of hF hw) hxml) Z ?_)
 intro v hv
 have fin:∀S',S'=oX from_ (b_ from_ S ((X.take k).map Prod.fst)) x.1→S'=b_ from_ S ((X.take (k+1)).map Prod.fst):=fun S' h=>by rw[htk,VX,h]
 cases hp:rQ x.1.2.1 x.1.2.2 with
 | none=>
  rw[hp] at hv
  obtain⟨e,he,rfl⟩:=hv
  have h1:=fin (b_ from_ S ((X.take k).map Prod.fst)) (by unfold oX;rw[hp])
  refine av ?_
  refine CE Z (fun k0=>absurd k0 he) (fun _=>CK ?_)
  refine sh ?_
  exact Pa
 | some t=>
  rw[hp] at hv
  obtain rfl:=hv
  have h1:=fin ((b_ from_ S ((X.take k).map Prod.fst)).send (from_,x.1.1) (bT t)) (by unfold oX;rw[hp])
  refine kq ?_
  refine CD (ts 0 9 (.only 9 .nil)) yp yr ?_
  refine D6 ?_
  refine AG (AI Z (LB (pv:=[(0,.int .i64 from_),(1,.int .i64 x.1.1),(2,.string (bT t))]) (eO from_ x.1.1 (bT t)) Z Z Z yp Z) ?_)
  refine AG (AQ 1 Z (fun Fr w hF hs hS=>La Fr w okk from_ x.1.1 (bT t)) Z Z (ψ:=fun v H=>v=.int .i64 ((b_ from_ S ((X.take k).map Prod.fst)).kS (from_,x.1.1) (bT t))∧H=cH y.lp ((b_ from_ S ((X.take k).map Prod.fst)).send (from_,x.1.1) (bT t))) yz ?_ ?_)
  ·rintro _ _ ⟨rfl,rfl⟩
   exact(by(try refine Pd.st ?_);(repeat(first|exact Pd.nil|exact Pd.fnil|refine Pd.inner ?_|refine Pd.skip yr ?_|refine zf (zo 0 Z Z) ?_|refine zf (zo 1 Z Z) ?_|refine zf (zm 0 Z Z) ?_|refine zf (zm 1 Z Z) ?_|refine zf (aw.aA h Z) ?_|refine zf (h) ?_|refine zc (zo 0 Z Z) ?_|refine zc (zo 1 Z Z) ?_|refine zc (zm 0 Z Z) ?_|refine zc (zm 1 Z Z) ?_|refine zc (aw.aA h Z) ?_|refine zc (h) ?_)))
  rintro _ _ ⟨rfl,rfl⟩
  refine cX ?_
  refine sh ?_
  exact Pa
end Cl
namespace Cl
open Go Vg T Api Ch Rep Conf Lg Rd
attribute [local irreducible] VO VC VA
theorem G6(e:Int)(l:List aB)(r:Int):(refs e l r).length=l.length:=by rw[refs,cY]
theorem Xn{R:ay}(h:R.Ok)(now:Int):(iA R now).2.length≤300000:=by
 have h1:(iY R now).length≤16:=by
  unfold iY
  rw[G6,cY]
  have:=qf (fun y=>!rI now y) R.aQ.l
  have:=h.rl
  have:=h.gA
  omega
 have h2:(step2 R now).2.length≤65*4200:=by
  unfold step2
  split
  ·exact Hh now 65 (B6 h now)
  ·simp
 have h3:(iz R now).2.length≤4200:=by
  unfold iz
  split
  ·show(dR _ _).2.length≤_
   have ok2:=(DC h now).au
   have:=ok2.i_
   have:=ok2.iy
   rw[GF]
   unfold iw
   omega
  ·simp
 show List.length (_++_++_)≤_
 rw[a8,a8]
 omega
theorem AL(R:ay):(jQ R).2.length≤5:=by
 have gl:=zO R
 have bl:=E0 R
 have ml:R.nA.length=1:=rfl
 have x1:(if (!R.aQ.l.isEmpty)=true then [((16:Int),pC R.ch.ar R.aQ.pH)] else []).length≤1:=by split<;>simp
 have x2:(if R.jo=true∧R.au.done=R.au.last then [((16:Int),tU R.ch.ar)] else []).length≤1:=by split<;>simp
 show List.length (_++_++_++_++_)≤_
 rw[a8,a8,a8,a8]
 omega
theorem RI{R:ay}(h:R.Fit){c:aV}(hc:lW c):(pD R c).2.length≤5000:=by
 have h1:(ry R c).length≤80:=by
  unfold ry
  rw[a8,G6,G6,cY]
  have:=Cf h.ok kO
  have:=h.ok.rl
  have:=h.ok.gA
  omega
 have h2:=zA (Fp h.ok hc h.dO h.fM)
 have h3:=zO (dP R c).df
 have h4:=E0 (dP R c).df
 have h5:(dP R c).df.nA.length=1:=rfl
 show List.length (_++_++_++_++_)≤_
 rw[a8,a8,a8,a8]
 omega
theorem xJ{R:ay}(h:R.Fit)(from_:Int)(f:aB)(ms:List aS)(now:Int):(cU R from_ f ms now).2.length≤5000:=by
 unfold cU
 split
 ·split
  ·simp
  split
  ·simp
  split
  ·unfold oY;split<;>simp
  ·unfold o9;split<;>(try split)<;>(try split)<;>simp
 split
 ·split
  ·rename_i h1;exact RI h ⟨by have:=E_ h1.1.2;omega⟩
  ·simp
 split
 ·split
  ·unfold mn
   have g1:=zO R
   have g2:=zO (fH R f.entry).df.iG
   have g3:=E2 (fH R f.entry).df
   split
   ·rename_i h1
    have g4:=zA (xv h.ok (e:=f.entry) h1.2 (FJ h1.1))
    show List.length (_++_++_)≤_
    rw[a8,a8]
    omega
   ·show R.fR.length≤_;omega
  ·simp
 split
 ·split
  ·show(if _ then _ else _:List cm).length≤_
   split
   ·have:=zO { hZ R f with au:=(hZ R f).au.jl f.index };omega
   ·simp
  ·simp
 split
 ·split
  ·have:=E2 (nq R f.index);show(ay.nR _).length≤_;omega
  ·simp
 split
 ·split
  ·show(xI R f.index).length≤_
   unfold xI
   rw[cY]
   have:=qf (fun y=>!o8 f.index y) R.aQ.l
   have:=h.ok.rl
   have:=h.ok.gA
   omega
  ·simp
 ·simp
theorem U3(S:List cm):(gy S).length=S.length:=cY ..
theorem U4(S:List cm):∀x∈gy S,x.2.2.length≤7:=fun x hx=>by
 obtain⟨y,_,rfl⟩:=cy.1 hx
 exact bH _
structure ff(S:List dJ):Prop where
 n:S.length≤300000
 m:∀x∈S,x.2.2.length≤7
theorem ff.of{S:List cm}(h:S.length≤300000):ff (gy S):=⟨by rw[U3];exact h,U4 S⟩
theorem ff.nil:ff []:=⟨by decide,fun _ h=>absurd h oB⟩
theorem ff.one{to:Int}{f:aB}{ms:List aS}(h:ms.length≤7):ff [(to,f,ms)]:=⟨by show 1≤300000;omega,fun x hx=>by rw[fe.1 hx];exact h⟩
theorem aI.Ok.zk{M:aI}(ok:M.Ok):ff M.all:=⟨by have:=ok.n1;unfold aI.all;rw[cY,List.length_range];omega,fun x hx=>by
 obtain⟨n,_,rfl⟩:=cy.1 hx
 exact ok.ml⟩
theorem aI.Ok.xJ{M:aI}(ok:M.Ok)(from_:Int)(f:aB)(now:Int):ff (M.take from_ f now).2:=by
 have c1:∀n,ff [gP M.ch n]:=fun n=>ff.one ok.ml
 have c2:∀n,(M.ic n now).ch=M.ch:=fun _=>rfl
 unfold aI.take
 split
 ·exact c1 _
 split
 ·exact .nil
 split
 ·split
  ·exact c1 _
  split<;>exact .nil
 split
 ·split
  ·exact c1 _
  split
  ·exact ff.one (bH _)
  ·exact .nil
 split
 ·split
  ·rename_i h;exact(ok.gone h.2.2).zk
  ·exact .nil
 ·exact .nil
theorem aI.Ok.AL{M:aI}(ok:M.Ok)(now:Int):ff (M.tick now).2:=by
 have:=(ok.tick now).zk
 unfold aI.tick at this ⊢
 dsimp only at this ⊢
 split
 ·exact this
 ·exact .nil
theorem aI.Ok.Nh{M:aI}(ok:M.Ok)(n:Int):ff (M.fI n).2.1∧(M.fI n).1.Ok:=by
 unfold aI.fI
 split
 ·exact⟨.nil,ok⟩
 split
 ·exact⟨.nil,ok⟩
 ·rename_i h
  have:=ok.gone (n:=n) ye
  exact⟨this.zk,this⟩
theorem aI.Ok.J9{M:aI}(ok:M.Ok)(n:Int):ff (M.drain n).2.1∧(M.drain n).1.Ok:=by
 unfold aI.drain
 split
 ·exact⟨.nil,ok⟩
 split
 ·exact⟨.nil,ok⟩
 ·rename_i h
  have:=ok.mj (n:=n) ye
  exact⟨this.zk,this⟩
theorem aI.Ok.KJ{M:aI}(ok:M.Ok)(n now:Int):ff (M.join n now).2.1∧(M.join n now).1.Ok:=by
 unfold aI.join
 split
 ·exact⟨.nil,ok⟩
 split
 ·exact⟨.nil,ok⟩
 ·rename_i h
  have:=ok.iJ (n:=n) ye now
  exact⟨this.zk,this⟩
theorem u0:ff BN:=ff.one (bH _)
theorem Nw(s:aW)(now:Int):ff (s.bD now).2:=ff.one (bH _)
theorem FK(s:aW)(r now:Int):ff (s.im r now).2:=by
 unfold aW.im aW.giveUp
 split
 ·exact u0
 split
 ·exact .nil
 ·exact u0
theorem aW.QL(s:aW)(o:bw)(cl d now:Int):ff (s.call o cl d now).2:=by
 unfold aW.call
 split
 ·exact .nil
 split
 ·exact Nw _ _
 ·exact u0
theorem aW.AL(s:aW)(now:Int):ff (s.tick now).2:=by
 unfold aW.tick
 split
 ·split
  ·exact FK _ _ _
  ·exact .nil
 split
 ·split
  ·exact .nil
  split
  ·exact u0
  ·exact u0
 split
 ·split
  ·exact u0
  ·exact .nil
 ·exact .nil
theorem aW.xJ(s:aW)(f:aB)(ms:List aS)(now:Int):ff (s.take f ms now).2:=by
 unfold aW.take
 split
 ·split
  ·exact .nil
  split
  ·exact Nw _ _
  ·exact .nil
 split
 ·split<;>exact .nil
 split
 ·split
  ·unfold aW.refused
   split
   ·exact FK _ _ _
   split
   ·exact u0
   ·exact FK _ _ _
  ·exact .nil
 ·exact .nil
def WW(a:Option Addr)(c:Nat)(X:List gr):HP:=bF (aq gk 30 a X.length c (flat dy X)::X.map iM)
def qK(H:HP)(a:Option Addr)(c:Nat)(X:List gr):HP:=bF [H,WW a c X]
def P8(S:List dJ)(H:HP)(v:Value)(K:HP):Prop:=∃(X:List gr) (a:Option Addr) (c:Nat),X.map Prod.fst=S∧v=.slice a X.length c∧K=qK H a c X
def P9(S:List dJ)(e:Int)(H:HP)(v:Value)(K:HP):Prop:=∃(X:List gr) (a:Option Addr) (c:Nat),X.map Prod.fst=S∧v=.tuple #[.slice a X.length c,.int .i64 e]∧K=qK H a c X
def re(S:List dJ)(H:HP)(v:Value)(L:List HP):Prop:=∃K,L=[K]∧P8 S H v K
def zi(S:List dJ)(e:Int)(H:HP)(v:Value)(L:List HP):Prop:=∃K,L=[K]∧P9 S e H v K
theorem mE.at_{Fr:Nat→Prop}{w:World}{L:List HP}{a:Option Addr}{c:Nat}{X:List gr}{S:List dJ}(i:Nat){H:HP}(h:a_ Fr L w)(hL:L[i]?=some (qK H a c X))(hX:X.map Prod.fst=S)(hS:ff S):mE Fr w a X:=by
 subst hX
 have hh:=(((h.at_ i hL).sep).at_ 1 rfl).sep
 have hn:=hS.n
 rw[cY] at hn
 exact WQ (A:=[]) (c:=c) Ey yg (fun x hx=>by have:=hS.m x hx;omega)
def pT(S:List cm):List gr:=S.map fun x=>((x.1,x.2,[]),(none,0))
theorem aaQ(S:List cm):(pT S).map Prod.fst=gy S:=by unfold pT gy;rw[mY];rfl
theorem Nn(S:List cm):(pT S).length=S.length:=cY ..
theorem aaP(S:List cm):flat dy (pT S)=flat rV S:=by
 unfold flat pT
 rw[mY]
 rfl
theorem No{L:List HP}:∀(S:List cm),aa L ((pT S).map iM)
 | []=>aa.nil
 | s::S=>by
  show aa L (aq aP 2 none 0 0 []::(pT S).map iM)
  exact aa.cK (No S)
theorem Hf{S:List cm}{v:Value}{L:List HP}{H:HP}(h:bS S v L [H]):∃L2,re (gy S) H v L2∧aa L L2:=by
 obtain⟨a,c,rfl,rfl⟩:=h
 refine⟨[qK H a c (pT S)],⟨_,Z,pT S,a,c,aaQ S,by rw[Nn],Z⟩,aa.sep (aa.cons (aa.sep ?_))⟩
 show aa [_] ((aq gk 30 a (pT S).length c (flat dy (pT S))::List.map iM (pT S)) ++ [])
 rw[br,Nn,aaP]
 exact aa.cons (No S)
theorem Dc{S:List dJ}{v:Value}{L:List HP}{H:HP}(h:nG S v L [H]):∃L2,re S H v L2∧aa L L2:=by
 obtain⟨X,a,c,e,rfl,rfl⟩:=h
 exact Pb
theorem aa.tail{H:HP}{L:List HP}:aa (H::L) L:=aa.app (L:=[H]) (M:=[]) aa.nil aa.refl
theorem vI{H:HP}{a:Option Addr}{c:Nat}{X:List gr}{L:List HP}:aa (qK H a c X::L) (H::L):=aa.AM (aa.cons aa.tail)
theorem Dd{S:List dJ}{e:Int}{v:Value}{L:List HP}{H:HP}(h:xA S e v L [H]):∃L2,zi S e H v L2∧aa L L2:=by
 obtain⟨X,a,c,e,rfl,rfl⟩:=h
 exact Pb
section
variable {α:Type} {f:α→HP} {l:List α} {k:Nat} {x:α}
theorem Ag{A:List HP}(h:l[k]?=some x):aa (bF (l.map f)::A) (f x::bF ((l.eraseIdx k).map f)::A):=by
 have e1:(l.map f)[k]?=some (f x):=by rw[dH,h];rfl
 have e2:(l.map f).eraseIdx k=(l.eraseIdx k).map f:=(map_eraseIdx f l k).symm
 refine aa.AM (aa.trans (aa.app (M:=f x::(l.eraseIdx k).map f) (aa.perm ?_) aa.refl) ?_)
 ·have:=oW e1
  rwa[e2] at this
 ·exact aa.cons (aa.sep aa.refl)
theorem Af{A:List HP}(h:k<l.length)(y:α):aa (f y::bF ((l.eraseIdx k).map f)::A) (bF ((l.set k y).map f)::A):=by
 have e3:((l.set k y).map f)[k]?=some (f y):=by rw[dH,iR h];rfl
 have e4:((l.set k y).map f).eraseIdx k=(l.eraseIdx k).map f:=by rw[gZ,List.eraseIdx_set_eq,map_eraseIdx]
 have hp:=(oW e3).symm
 rw[e4] at hp
 refine aa.sep ?_
 refine aa.trans (M:=(f y::(l.eraseIdx k).map f)++A) (aa.cons (aa.AM aa.refl)) ?_
 exact aa.app (aa.perm hp) aa.refl
end
end Cl
namespace Cl
open Go Vg T Api Ch Rep Conf Lg Rd
attribute [local irreducible] VO VC VA
theorem KR(R:ay)(from_:Int)(f:aB)(ms:List aS)(now:Int):(cU R from_ f ms now).1.aQ.last≤R.aQ.last+1:=by
 have h:∀Q:ay,Q.aQ.last=R.aQ.last→Q.aQ.last≤R.aQ.last+1:=fun Q h=>by omega
 unfold cU
 split
 ·split
  ·exact h _ rfl
  split
  ·exact h _ rfl
  split
  ·unfold oY
   split
   ·exact h _ rfl
   ·show(R.aQ.put _ _).last≤_
    unfold eW.put;split
    ·exact e_ _
    ·omega
  ·refine h _ ?_
   unfold o9
   split
   ·rfl
   split
   ·rfl
   split<;>rfl
 split
 ·split
  ·refine h _ ?_
   show(Rep.dP R (n_ f ms)).df.aQ.last=_
   unfold ay.df
   split<;>(unfold Rep.dP;split<;>rfl)
  ·exact h _ rfl
 split
 ·split
  ·refine h _ ?_
   unfold mn
   split
   ·show(Rep.fH R f.entry).df.iG.aQ.last=_
    unfold ay.iG
    split<;>(unfold ay.df;split<;>rfl)
   ·rfl
  ·exact h _ rfl
 split
 ·split
  ·refine h _ ?_
   show(Rep.hZ R f).aQ.last=_
   unfold Rep.hZ Rep.gu;dsimp only;split<;>rfl
  ·exact h _ rfl
 split
 ·split
  ·refine h _ ?_;unfold ay.iG;split<;>rfl
  ·exact h _ rfl
 split
 ·split<;>exact h _ rfl
 ·exact h _ rfl
theorem Tp(R:ay)(now:Int):(iA R now).1.aQ.last=R.aQ.last:=by
 have hs:∀R:ay,(fi R now).1.aQ=R.aQ:=fun R=>by
  unfold fi
  split
  ·rfl
  split
  ·rfl
  ·unfold ay.df;split<;>rfl
 have hl:∀(k:Nat) (R:ay),(jc now k R).1.aQ=R.aQ:=by
  intro k
  induction k with
  | zero=>intro R;rfl
  | succ k ih=>
   intro R
   unfold jc
   split
   ·split
    ·rw[ih,hs]
    ·exact hs R
   ·rfl
 have h2:(step2 R now).1.aQ.last=R.aQ.last:=by
  unfold Rep.step2
  split
  ·rw[hl];rfl
  ·rfl
 show(iz R now).1.aQ.last=_
 unfold iz
 split
 ·exact h2
 ·exact h2
theorem Tq(R:ay):(jQ R).1.aQ.last=R.aQ.last:=by
 show(eK R).aQ.last=_
 unfold eK;split<;>rfl
theorem FL(s:aW)(r now:Int):(s.im r now).1.seq=s.seq:=by
 unfold aW.im aW.giveUp aW.CT aW.rW
 split
 ·rfl
 split<;>rfl
theorem Rl(s:aW)(now:Int):(s.tick now).1.seq=s.seq:=by
 unfold aW.tick
 split
 ·split
  ·exact FL _ _ _
  ·rfl
 split
 ·split
  ·rfl
  split<;>rfl
 split
 ·split<;>rfl
 ·rfl
theorem Rj(s:aW)(f:aB)(ms:List aS)(now:Int):(s.take f ms now).1.seq=s.seq:=by
 unfold aW.take
 split
 ·split
  ·rfl
  split<;>rfl
 split
 ·split<;>rfl
 split
 ·split
  ·unfold aW.refused
   split
   ·exact FL _ _ _
   split
   ·rfl
   ·exact FL _ _ _
  ·rfl
 ·rfl
theorem JC(s:aW)(o:bw)(cl d now:Int):(s.call o cl d now).1.seq≤s.seq+1:=by
 unfold aW.call
 split
 ·show s.seq≤_;omega
 split<;>exact e_ _
theorem SK(S:bx)(c seq:Int)(o:bw):(S.call c seq o).bn.length≤S.bn.length+1∧(S.call c seq o).events≤S.events+1:=by
 unfold bx.call
 split
 ·exact⟨by omega,by omega⟩
 ·exact⟨by simp,e_ _⟩
theorem KB(S:bx)(c seq:Int)(o:eV):(S.end_ c seq o).bn.length=S.bn.length∧(S.end_ c seq o).events≤S.events+1:=by
 unfold bx.end_
 split
 ·exact⟨rfl,by omega⟩
 split
 ·exact⟨rfl,by omega⟩
 split
 ·exact⟨rfl,by omega⟩
 ·exact⟨fW,e_ _⟩
theorem ue{κ α:Type}[DecidableEq κ]{a:κ}{v:α}:∀{l:List (κ×α)},bX l a=some v→(a,v)∈l
 | [],h=>by cases h
 | (k,u)::r,h=>by
  simp only[bX] at h
  split at h
  ·rename_i e;cases h;rw[e];exact qZ ..
  ·exact kW _ (ue h)
theorem Cu{κ α:Type}[DecidableEq κ]{a:κ}:∀{l:List (κ×α)} {x:κ×α},x∈gx l a→x∈l
 | [],x,h=>by cases h
 | (k,u)::r,x,h=>by
  simp only[gx] at h
  split at h
  ·exact kW _ h
  ·rcases iD.1 h with h | h
   ·rw[h];exact qZ ..
   ·exact kW _ (Cu h)
namespace aX.kX
variable {S:aX}
theorem put(h:S.kX){p:bE}(h1:h_ p.1=true)(h2:h_ p.2=true)(l:List ByteArray):({ S with mail:=cS S.mail p l }:aX).kX:=fun x hx=>by
 rcases Ac hx with h3 | h3
 ·exact h x h3
 ·rw[h3];exact⟨h1,h2⟩
theorem send(h:S.kX)(p:bE)(t:ByteArray):(S.send p t).kX:=by
 unfold aX.send
 split
 ·exact h
 ·rename_i h0
  have h0:S.kS p t=0:=by simpa using h0
  have:¬(h_ p.1=false∨h_ p.2=false∨p.1=p.2):=fun g=>by unfold aX.kS at h0;rw[if_pos g] at h0;cases h0
  exact h.put (by cases hh:h_ p.1<;>simp_all) (by cases hh:h_ p.2<;>simp_all) _
theorem found(h:S.kX){p:bE}{i:Int}{t:ByteArray}(hf:S.find p i=some t):h_ p.1=true∧h_ p.2=true:=by
 unfold aX.find aX.list at hf
 split at hf
 ·cases hf
 ·cases hg:bX S.mail p with
  | none=>rw[hg] at hf;cases hf
  | some l=>exact h _ (ue hg)
theorem fA(h:S.kX){p:bE}{i:Int}{t:ByteArray}(hf:S.find p i=some t):(S.fA p i).kX:=by
 have:=h.found hf
 unfold aX.fA
 split
 ·exact fun x hx=>(h.put this.1 this.2 _) x (Cu hx)
 ·exact h.put this.1 this.2 _
theorem drop(h:S.kX)(p:bE)(i:Int):(S.drop p i).1.kX:=by
 unfold aX.drop
 split
 ·exact h
 ·rename_i hf
  cases hg:S.find p i with
  | none=>exact absurd hg hf
  | some t=>exact h.fA hg
theorem double(h:S.kX)(p:bE)(i:Int):(S.double p i).1.kX:=by
 unfold aX.double
 split
 ·exact h
 ·exact h.send _ _
theorem b_(h:S.kX)(from_:Int)(l:List dJ):(Cl.b_ from_ S l).kX:=by
 unfold Cl.b_
 induction l generalizing S with
 | nil=>exact h
 | cons s l ih=>
  refine ih ?_
  unfold oX
  split
  ·exact h
  ·exact h.send _ _
end aX.kX
theorem tN{a:Int}(h:h_ a=true):0≤a∧a<38:=by
 unfold h_ at h
 simp only[Br,eG,decide_eq_true_eq] at h
 omega
namespace az.Ok
variable {C:az} {b e:Nat}
theorem mono(h:C.Ok b e){b' e':Nat}(hb:b≤b')(he:e≤e'):C.Ok b' e' where
 cf:=h.cf
 n0:=h.n0
 n1:=h.n1
 aG:=h.aG
 nl:=h.nl
 cl:=h.cl
 aU:=h.aU
 bO:=h.bO
 fit:=h.fit
 last r hr:=by have:=h.last r hr;omega
 mg:=h.mg
 seq s hs:=by have:=h.seq s hs;omega
 rc:=ph h.rc hb
 ev:=by have:=h.ev;omega
 dn:=h.dn
 l9:=h.l9
theorem ny(h:C.Ok b e){l:aX}(hl:l.Ok)(ha:l.kX):({ C with aU:=l }:az).Ok b e:=⟨h.cf,h.n0,h.n1,h.aG,h.nl,h.cl,hl,h.bO,h.fit,h.last,h.mg,h.seq,h.rc,h.ev,h.dn,ha⟩
theorem uf(h:C.Ok b e){m:aI}(hm:m.Ok):({ C with aG:=m }:az).Ok b e:=⟨h.cf,h.n0,h.n1,hm,h.nl,h.cl,h.aU,h.bO,h.fit,h.last,h.mg,h.seq,h.rc,h.ev,h.dn,h.l9⟩
theorem at_(h:C.Ok b e):({ C with now:=min (C.now+1) 1099511627776 }:az).Ok b e:=⟨h.cf,by show 0≤min (C.now+1) 1099511627776;have:=h.n0;omega,by show min (C.now+1) 1099511627776≤1099511627776;omega,h.aG,h.nl,h.cl,h.aU,h.bO,h.fit,h.last,h.mg,h.seq,h.rc,h.ev,h.dn,h.l9⟩
theorem post(h:C.Ok b e)(from_:Int)(S:List dJ):(C.post from_ S).Ok b e:=h.ny (h.aU.b_ from_ S) (h.l9.b_ from_ S)
theorem setNode(h:C.Ok b e)(n:Int){x:Option ay}(hx:∀r,x=some r→r.Fit∧r.aQ.last≤b):(C.setNode n x).Ok b e:=⟨h.cf,h.n0,h.n1,h.aG,by show(C.nodes.set _ _).length=_;rw[fW];exact h.nl,h.cl,h.aU,h.bO,fun r hr=>by
 rcases kx hr with h1 | h1
 ·exact h.fit r h1
 ·exact(hx r h1.symm).1,fun r hr=>by
 rcases kx hr with h1 | h1
 ·exact h.last r h1
 ·exact(hx r h1.symm).2,h.mg,h.seq,h.rc,h.ev,h.dn,h.l9⟩
theorem node1(h:C.Ok b e)(n:Int){r:ay}(h1:r.Fit)(h2:r.aQ.last≤b):(C.setNode n (some r)).Ok b e:=h.setNode n fun r' e=>by cases e;exact⟨h1,h2⟩
theorem UQ(h:C.Ok b e)(n:Int):(C.setNode n none).Ok b e:=h.setNode n fun r' e=>by cases e
theorem jv(h:C.Ok b e)(n:Int){s:aW}(h1:s.Ok)(h2:s.seq≤b):(C.jv n s).Ok b e:=⟨h.cf,h.n0,h.n1,h.aG,h.nl,by show(C.d_.set _ _).length=_;rw[fW];exact h.cl,h.aU,h.bO,h.fit,h.last,fun x hx=>by
 rcases kx hx with g | g
 ·exact h.mg x g
 ·rw[g];exact h1,fun x hx=>by
 rcases kx hx with g | g
 ·exact h.seq x g
 ·rw[g];exact h2,h.rc,h.ev,h.dn,h.l9⟩
theorem KD(h:C.Ok b e){H:bx}(h1:H.Ok)(h2:H.bn.length≤b)(h3:H.events≤e):({ C with bO:=H }:az).Ok b e:=⟨h.cf,h.n0,h.n1,h.aG,h.nl,h.cl,h.aU,h1,h.fit,h.last,h.mg,h.seq,h2,h3,h.dn,h.l9⟩
theorem up(h:C.Ok b e){n:Int}{r:ay}(hn:C.node n=some r):some r∈C.nodes:=by
 unfold az.node at hn
 split at hn
 ·cases hn
 ·cases hx:C.nodes[n.toNat]? with
  | none=>rw[hx] at hn;cases hn
  | some x=>rw[hx] at hn;obtain rfl:x=some r:=hn;exact ME hx
theorem NC(h:C.Ok b e){n:Int}{s:aW}(hn:C.eS n=some s):s∈C.d_:=by
 unfold az.eS at hn
 split at hn
 ·cases hn
 ·exact ME hn
theorem bY(h:C.Ok b e)(n:Nat):(C.bY n).Ok b e:=by
 unfold az.bY
 split
 ·exact h
 ·rename_i r hr
  have hm:some r∈C.nodes:=by
   cases hx:C.nodes[n]? with
   | none=>rw[hx] at hr;cases hr
   | some x=>rw[hx] at hr;obtain rfl:x=some r:=hr;exact ME hx
  exact(h.node1 n (aaF (h.fit r hm)) (by rw[Tq];exact h.last r hm)).post _ _
theorem gX(h:C.Ok b e)(n:Nat):(C.gX n).Ok b e:=by
 unfold az.gX
 split
 ·exact h
 ·rename_i s hs
  have hm:s∈C.d_:=ME hs
  exact(h.jv n ((h.mg s hm).tick C.now) (by rw[Rl];exact h.seq s hm)).post _ _
theorem xM(h:C.Ok b e)(l:List Nat):(l.foldl az.bY C).Ok b e:=by
 induction l generalizing C with
 | nil=>exact h
 | cons x l ih=>exact ih (h.bY x)
theorem xL(h:C.Ok b e)(l:List Nat):(l.foldl az.gX C).Ok b e:=by
 induction l generalizing C with
 | nil=>exact h
 | cons x l ih=>exact ih (h.gX x)
theorem tick(h:C.Ok b e):C.tick.Ok b e:=(h.at_.xM _).xL _
theorem ig(h:C.Ok b e)(hb:b<100000000)(from_ to:Int)(f:aB)(ms:List aS):(C.ig from_ to f ms).Ok (b+1) e:=by
 have h':=h.mono (b':=b+1) yg (NR e)
 unfold az.ig
 split
 ·exact(h'.uf (h.aG.take _ _ _)).post _ _
 split
 ·rename_i r hr
  have hm:=h.up hr
  have hl:=h.last r hm
  exact(h'.node1 _ (Ni (h.fit r hm) yg _ _ _ _) (by have:=KR r from_ f ms C.now;omega)).post _ _
 split
 ·rename_i s hs
  have hm:=h.NC hs
  exact(h'.jv _ ((h.mg s hm).take f ms C.now) (by rw[Rj];exact h'.seq s hm)).post _ _
 ·exact h'
theorem lE(h:C.Ok b e)(hb:b<100000000)(from_ to:Int)(t:ByteArray):(C.lE from_ to t).Ok (b+1) e:=by
 unfold az.lE
 split
 ·exact h.ig hb _ _ _ _
 ·exact h.mono yg (NR e)
theorem Kn{l:aX}{p:bE}{i:Int}{t:ByteArray}(h:l.find p i=some t):l.fA p i=(l.drop p i).1:=by
 unfold aX.drop
 rw[if_neg (by rw[h];intro g;cases g)]
theorem ib(h:C.Ok b e)(hb:b<100000000)(p:bE)(i:Int):(C.ib p i).1.Ok (b+1) e:=by
 unfold az.ib
 split
 ·exact h.mono yg (NR e)
 ·rename_i t ht
  have:(C.aU.fA p i).Ok:=by rw[Kn ht];exact h.aU.drop p i
  exact(h.ny this (h.l9.fA ht)).lE hb _ _ _
theorem back(h:C.Ok b e)(hb:b<100000000)(n:Int):(C.back n).Ok (b+1) e:=by
 have h':=h.mono (b':=b+1) yg (NR e)
 unfold az.back
 split
 ·have hf:=Gj h.cf n true
  have hl:(cJ C.de n true).aQ.last=0:=by
   unfold cJ;split
   ·rfl
   split<;>rfl
  exact(h'.node1 _ (Ni hf yg _ _ _ _) (by have:=KR (cJ C.de n true) 16 (jH C.aG.ch) C.aG.ch.ms C.now;omega)).post _ _
 ·exact h'
theorem join(h:C.Ok b e)(hb:b<100000000)(n:Int):(C.join n).1.Ok (b+1) e:=by
 unfold az.join
 dsimp only
 split
 ·exact h.mono yg (NR e)
 ·exact((h.uf (h.aG.KJ n C.now).2).back hb n).post _ _
theorem call(h:C.Ok b e)(hb:b<100000)(he:e<1000000)(s:dU):(C.call s).1.Ok (b+1) (e+1):=by
 have h':=h.mono (b':=b+1) (e':=e+1) yg yg
 unfold az.call
 split
 ·exact h'
 ·rename_i x hx
  have hm:=h.NC hx
  split
  ·exact h'
  ·have h1:=h.rc
   have h2:=h.ev
   have h3:=h.seq x hm
   have h4:=JC x s.op s.b (C.dead s.c) C.now
   have h5:=SK C.bO s.a (x.call s.op s.b (C.dead s.c) C.now).1.seq s.op
   exact((h'.jv s.a ((h.mg x hm).call _ _ _ _) yg).KD (h.bO.call yg yg s.a (x.call s.op s.b (C.dead s.c) C.now).1.seq s.op) yg yg).post _ _
theorem step(h:C.Ok b e)(hb:b<100000)(he:e<1000000)(s:dU):(C.step s).1.Ok (b+1) (e+1):=by
 have h':=h.mono (b':=b+1) (e':=e+1) yg yg
 have up1:∀{D:az},D.Ok (b+1) e→D.Ok (b+1) (e+1):=fun g=>g.mono (NR _) yg
 unfold az.step
 by_cases k1:s.kind=1
 ·rw[if_pos k1]
  exact h.call hb he s
 rw[if_neg k1]
 by_cases k2:s.kind=2
 ·rw[if_pos k2]
  split
  ·exact h'
  ·rename_i r hr
   have hm:=h.up hr
   exact(h'.node1 _ (Xj (h.fit r hm) C.now) (by rw[Tp];exact h'.last r hm)).post _ _
 rw[if_neg k2]
 by_cases k3:s.kind=3
 ·rw[if_pos k3]
  exact h'.tick
 rw[if_neg k3]
 by_cases k4:s.kind=4
 ·rw[if_pos k4]
  exact up1 (h.ib yg _ _)
 rw[if_neg k4]
 by_cases k5:s.kind=5
 ·rw[if_pos k5]
  exact h'.ny (h.aU.drop _ _) (h.l9.drop _ _)
 rw[if_neg k5]
 by_cases k6:s.kind=6
 ·rw[if_pos k6]
  exact h'.ny (h.aU.double _ _) (h.l9.double _ _)
 rw[if_neg k6]
 by_cases k7:s.kind=7
 ·rw[if_pos k7]
  split
  ·exact h'
  ·exact h'.UQ _
 rw[if_neg k7]
 by_cases k8:s.kind=8
 ·rw[if_pos k8]
  exact(h'.uf (h.aG.Nh s.a).2).post _ _
 rw[if_neg k8]
 by_cases k9:s.kind=9
 ·rw[if_pos k9]
  exact up1 (h.join yg s.a)
 rw[if_neg k9]
 by_cases k10:s.kind=10
 ·rw[if_pos k10]
  exact(h'.uf (h.aG.J9 s.a).2).post _ _
 rw[if_neg k10]
 by_cases lG:s.kind=11
 ·rw[if_pos lG]
  exact(h'.uf (h.aG.tick C.now)).post _ _
 rw[if_neg lG]
 exact h'
theorem Fo{H:bx}(h:H.Ok):∀(l:List (aW×Nat)),H.events+l.length<10000000→(l.foldl nX H).Ok∧(l.foldl nX H).bn.length=H.bn.length∧(l.foldl nX H).events≤H.events+l.length
 | [],_=>⟨h,rfl,by simp⟩
 | x::l,hl=>by
  rw[ku] at hl
  rw[qW,ku]
  have key:∃K,nX H x=K∧K.Ok∧K.bn.length=H.bn.length∧K.events≤H.events+1:=by
   unfold nX
   split
   ·exact⟨_,Z,h,Z,by omega⟩
   ·rename_i o ho
    exact⟨_,Z,h.end_ yg _ _ o,(KB H _ _ o).1,(KB H _ _ o).2⟩
  obtain⟨K,e1,e2,e3,e4⟩:=key
  rw[e1]
  have:=Fo e2 l yg
  exact⟨this.1,by rw[this.2.1,e3],by have:=this.2.2;omega⟩
theorem Rt{d:List bf}{x:Option ay×Nat}(hd:d.length≤4096)(hx:∀r,x.1=some r→r.Fit):(iW d x).length≤4096:=by
 unfold iW
 split
 ·exact hd
 ·rename_i r hr
  split
  ·exact hd
  ·have hf:=(hx r hr).ok
   have:=hf.au.i_
   have:=hf.au.lu
   rw[a8,su,jj]
   omega
theorem J4{l:List (Option ay×Nat)}{d:List bf}(hd:d.length≤4096)(hx:∀x∈l,∀r,x.1=some r→r.Fit):(l.foldl iW d).length≤4096:=by
 induction l generalizing d with
 | nil=>exact hd
 | cons x l ih=>exact ih (Rt hd (hx x yi)) (fun y hy=>hx y (by simp[hy]))
theorem d_(h:C.Ok b e):C.d_.length≤6:=by
 have:=kG h.cf
 rw[h.cl]
 omega
theorem Gs(h:C.Ok b e):C.nodes.length≤6:=by
 have:=kG h.cf
 rw[h.nl]
 omega
theorem behind(h:C.Ok b e)(he:e<1000000):C.behind.Ok b (e+6):=by
 have hc:=h.d_
 have h2:=h.ev
 have key:=Fo h.bO C.d_.zipIdx (by rw[yY];omega)
 rw[yY] at key
 have h':=(h.mono (b':=b) (e':=e+6) (NR b) yg).KD key.1 (by rw[key.2.1];exact h.rc) (by have:=key.2.2;omega)
 exact⟨h'.cf,h'.n0,h'.n1,h'.aG,h'.nl,h'.cl,h'.aU,h'.bO,h'.fit,h'.last,h'.mg,h'.seq,h'.rc,h'.ev,J4 h.dn fun x hx r hr=>h.fit r (by
  have:x.1∈C.nodes:=by
   have:=List.mem_zipIdx' (x:=x.1) (i:=x.2) hx
   exact ME (by rw[GE this.1,←this.2])
  rw[hr] at this;exact this),h'.l9⟩
theorem jV(h:C.Ok b e)(hb:b<100000)(he:e<900000)(s:dU):(C.jV s).1.Ok (b+1) (e+7):=(h.step hb yg s).behind yg
end az.Ok
theorem LH{c:ba}(h:c=bh c):(rL c).Ok 0 0:=by
 have hb:=kG h
 have hb2:=wO h
 have hM:(qF c).Ok:=LK c h▸LL h _
 exact⟨h,e_ _,by show(0:Int)≤_;decide,hM,by simp[rL],by simp[rL],⟨by show 1≤c.link;omega,hb2.2.2.2.2.1.2,fun x hx=>absurd hx oB,List.nodup_nil⟩,
  ⟨by show 0≤1000000;omega,by show(0:Int)≤0;decide,by show(0:Int)≤10000000;decide,rfl,fun x hx=>by rw[List.eq_of_mem_replicate hx];exact⟨e_ _,e_ _⟩⟩,fun r hr=>by
   obtain⟨n,_,e⟩:=cy.1 hr
   cases e;exact Gj h _ _,fun r hr=>by
   obtain⟨n,_,e⟩:=cy.1 hr
   cases e
   have:(cJ c n false).aQ.last=0:=by
    unfold cJ;split
    ·rfl
    split<;>rfl
   omega,fun s hs=>by
   obtain⟨n,_,rfl⟩:=cy.1 hs
   exact UH h n,fun s hs=>by
   obtain⟨n,_,rfl⟩:=cy.1 hs
   exact e_ _,bH _,e_ _,bH _,fun x hx=>absurd hx oB⟩
end Cl
namespace Cl
open Go Vg T Api Ch Rep Conf Lg Rd
attribute [local irreducible] VO VC VA
section
variable {p:Nat} {C:az} {y:fJ}
def tT(p:Nat)(C:az)(y:fJ)(k:Nat)(l:aX):List HP:=[pt p (jn C y) sJ,iq y.qa y.qc C.de.qs,cC y.mp C.aG,pt y.nb (flat ja y.nr++y.nx) rT,pt y.cb (flat nU y.cr++y.cx) sK,cH y.lp l,jr y.hp C.bO,aq dK 7 y.da C.done.length y.dc (flat bm C.done),bF ((y.nr.eraseIdx k).map jO),bF (y.cr.map oL)]
def tP(p:Nat)(C:az)(y:fJ)(k:Nat)(l:aX)(h:bx):List HP:=[pt p (jn C y) sJ,iq y.qa y.qc C.de.qs,cC y.mp C.aG,pt y.nb (flat ja y.nr++y.nx) rT,pt y.cb (flat nU y.cr++y.cx) sK,cH y.lp l,jr y.hp h,aq dK 7 y.da C.done.length y.dc (flat bm C.done),bF (y.nr.map jO),bF ((y.cr.eraseIdx k).map oL)]
def tS(p:Nat)(C:az)(y:fJ)(l:aX):List HP:=[pt p (jn C y) sJ,iq y.qa y.qc C.de.qs,pt y.nb (flat ja y.nr++y.nx) rT,pt y.cb (flat nU y.cr++y.cx) sK,cH y.lp l,jr y.hp C.bO,aq dK 7 y.da C.done.length y.dc (flat bm C.done),bF (y.nr.map jO),bF (y.cr.map oL)]
def fJ.node(y:fJ)(k:Nat)(x:kZ):fJ:={ y with nr:=y.nr.set k x }
def fJ.eS(y:fJ)(k:Nat)(x:oC):fJ:={ y with cr:=y.cr.set k x }
theorem Gr{k q:Nat}{r:ay}(h:y.nr[k]?=some (some (q,r))):aa (fp p C y) (bo q r::tT p C y k C.aU):=
 aa.trans (IP 8 rfl aa.refl) (aa.trans (Ag (f:=jO) h) (aa.cons (IP 1 rfl (IP 1 rfl (IP 1 rfl (IP 1 rfl (IP 1 rfl (IP 1 rfl (IP 1 rfl (IP 1 rfl aa.refl))))))))))
theorem Fb{k q:Nat}{s:aW}(h:y.cr[k]?=some (q,s)):aa (fp p C y) (bQ q s::tP p C y k C.aU C.bO):=
 aa.trans (IP 9 rfl aa.refl) (aa.trans (Ag (f:=oL) h) (aa.cons (IP 1 rfl (IP 1 rfl (IP 1 rfl (IP 1 rfl (IP 1 rfl (IP 1 rfl (IP 1 rfl (IP 1 rfl (IP 1 rfl aa.refl)))))))))))
theorem F9:aa (fp p C y) (cC y.mp C.aG::tS p C y C.aU):=IP 2 rfl aa.refl
theorem LR{l:List kZ}{k q:Nat}{r r':ay}(h:l[k]?=some (some (q,r))):flat ja (l.set k (some (q,r')))=flat ja l:=by
 have hk:=(bP.1 h).1
 unfold flat
 rw[gZ]
 congr 1
 apply qe
 intro j
 rw[wi]
 split
 ·rename_i e;subst e
  rw[if_pos (by rw[cY];exact hk),dH,h];rfl
 ·rfl
theorem Q4{l:List oC}{k q:Nat}{s s':aW}(h:l[k]?=some (q,s)):flat nU (l.set k (q,s'))=flat nU l:=by
 have hk:=(bP.1 h).1
 unfold flat
 rw[gZ]
 congr 1
 apply qe
 intro j
 rw[wi]
 split
 ·rename_i e;subst e
  rw[if_pos (by rw[cY];exact hk),dH,h];rfl
 ·rfl
theorem Gp(fit:fY C y)(k:Nat)(x:kZ)(l:aX):fY ({ C.setNode k (x.map Prod.snd) with aU:=l }:az) (y.node k x):=
 ⟨by show(y.nr.set k x).map _=C.nodes.set k _;rw[gZ,fit.nr],fit.cr,fit.qc⟩
theorem JK(fit:fY C y)(k:Nat)(x:oC)(l:aX)(h:bx):fY ({ C.jv k x.2 with aU:=l,bO:=h }:az) (y.eS k x):=
 ⟨fit.nr,by show(y.cr.set k x).map _=C.d_.set k _;rw[gZ,fit.cr],fit.qc⟩
theorem Gn(C':az){k:Nat}{x:kZ}(h1:C'.de=C.de)(h2:C'.now=C.now)(h3:C'.done=C.done):jn C' (y.node k x)=jn C y:=by
 unfold jn fJ.node
 rw[h1,h2,h3]
 dsimp only
 rw[fW]
theorem Q3(C':az){k:Nat}{x:oC}(h1:C'.de=C.de)(h2:C'.now=C.now)(h3:C'.done=C.done):jn C' (y.eS k x)=jn C y:=by
 unfold jn fJ.eS
 rw[h1,h2,h3]
 dsimp only
 rw[fW]
theorem LU{k q:Nat}{r r':ay}{l:aX}(h:y.nr[k]?=some (some (q,r))):aa (bo q r'::tT p C y k l) (fp p ({ C.setNode k (some r') with aU:=l }:az) (y.node k (some (q,r')))):=by
 have hk:=(bP.1 h).1
 have e1:=Gn (C:=C) (y:=y) (k:=k) (x:=some (q,r')) ({ C.setNode k (some r') with aU:=l }:az) rfl rfl rfl
 have e2:=LR (r':=r') h
 unfold fp
 rw[e1]
 show aa _ [_,_,_,pt y.nb (flat ja (y.nr.set k (some (q,r')))++y.nx) rT,_,_,_,_,bF ((y.nr.set k (some (q,r'))).map jO),_]
 rw[e2]
 refine aa.trans (M:=bo q r'::bF ((y.nr.eraseIdx k).map jO)::_) (aa.cons (IP 8 Z aa.refl)) (aa.trans (Af (f:=jO) hk (some (q,r'))) ?_)
 exact IP 1 Z (IP 1 Z (IP 1 Z (IP 1 Z (IP 1 Z (IP 1 Z (IP 1 Z (IP 1 Z aa.refl)))))))
theorem JL{k q:Nat}{s s':aW}{l:aX}{hi:bx}(h:y.cr[k]?=some (q,s)):aa (bQ q s'::tP p C y k l hi) (fp p ({ C.jv k s' with aU:=l,bO:=hi }:az) (y.eS k (q,s'))):=by
 have hk:=(bP.1 h).1
 have e1:=Q3 (C:=C) (y:=y) (k:=k) (x:=(q,s')) ({ C.jv k s' with aU:=l,bO:=hi }:az) rfl rfl rfl
 have e2:=Q4 (s':=s') h
 unfold fp
 rw[e1]
 show aa _ [_,_,_,_,pt y.cb (flat nU (y.cr.set k (q,s'))++y.cx) sK,_,_,_,_,bF ((y.cr.set k (q,s')).map oL)]
 rw[e2]
 refine aa.trans (M:=bQ q s'::bF ((y.cr.eraseIdx k).map oL)::_) (aa.cons (IP 9 Z aa.refl)) (aa.trans (Af (f:=oL) hk (q,s')) ?_)
 exact IP 1 Z (IP 1 Z (IP 1 Z (IP 1 Z (IP 1 Z (IP 1 Z (IP 1 Z (IP 1 Z (IP 1 Z aa.refl))))))))
theorem T8{m:aI}{l:aX}:aa (cC y.mp m::tS p C y l) (fp p ({ C with aG:=m,aU:=l }:az) y):=IP 1 rfl (IP 1 rfl aa.refl)
theorem pB(fit:fY C y){R:List HP}:aa (fp p C y++R) [ek p C]:=aa.tQ (K:=[]) y fit (by rw[br];exact aa.trans (aa.app (M:=fp p C y) (M':=[]) aa.refl aa.nil) (aa.of_eq (br _)))
theorem LV(fit:fY C y){k q:Nat}{r r':ay}{l:aX}{a:Option Addr}{c:Nat}{X:List gr}(h:y.nr[k]?=some (some (q,r))){R:List HP}:aa (qK (bo q r') a c X::(tT p C y k l++R)) [ek p ({ C.setNode k (some r') with aU:=l }:az)]:=
 aa.trans vI (aa.trans (aa.app (L:=bo q r'::tT p C y k l) (LU h) aa.refl) (pB (Gp fit k (some (q,r')) l)))
theorem Fe(fit:fY C y){k q:Nat}{s s':aW}{l:aX}{hi:bx}{a:Option Addr}{c:Nat}{X:List gr}(h:y.cr[k]?=some (q,s)){R:List HP}:aa (qK (bQ q s') a c X::(tP p C y k l hi++R)) [ek p ({ C.jv k s' with aU:=l,bO:=hi }:az)]:=
 aa.trans vI (aa.trans (aa.app (L:=bQ q s'::tP p C y k l hi) (JL h) aa.refl) (pB (JK fit k (q,s') l hi)))
theorem xd(fit:fY C y){m:aI}{l:aX}{a:Option Addr}{c:Nat}{X:List gr}{R:List HP}:aa (qK (cC y.mp m) a c X::(tS p C y l++R)) [ek p ({ C with aG:=m,aU:=l }:az)]:=
 aa.trans vI (aa.trans (aa.app (L:=cC y.mp m::tS p C y l) T8 aa.refl) (pB (C:=({ C with aG:=m,aU:=l }:az)) ⟨fit.nr,fit.cr,fit.qc⟩))
end
section
variable {q:Nat}
theorem abr{r:ay}(ok:r.Ok)(now:Int):ax Tryz.prog 52 [.pointer (some ⟨q,0,none⟩),.int .i64 now] Fr w [bo q r] (fun v L=>re (gy (iA r now).2) (bo q (iA r now).1) v L):=Go.Proofs.YtkgfhabealjjpaaGreatDoor.Ring.ax.drop (Xp Fr w ok now) fun _ _ h=>Hf h
theorem abu{r:ay}(ok:r.Ok)(now:Int):ax Tryz.prog 105 [.pointer (some ⟨q,0,none⟩),.int .i64 now] Fr w [bo q r] (fun v L=>re (gy (jQ r).2) (bo q (jQ r).1) v L):=Go.Proofs.YtkgfhabealjjpaaGreatDoor.Ring.ax.drop (aaI Fr w ok now) fun _ _ h=>Hf h
theorem NH{r:ay}(fit:r.Fit)(hlast:r.aQ.last<100000000)(from_:Int)(f:aB){ma:Option Addr}{mc:Nat}{ms:List aS}(hm:aT aD 2 Fr w ma ms)(hml:ms.length≤1000000)(now:Int)
  (hi1:-9223372036854775808≤f.entry.index) (hi2:f.entry.index≤9223372036854775807):ax Tryz.prog 117 [.pointer (some ⟨q,0,none⟩),.int .i64 from_,.agg (f.cells (ma,ms.length,mc)).toArray,.int .i64 now] Fr w [bo q r] (fun v L=>re (gy (cU r from_ f ms now).2) (bo q (cU r from_ f ms now).1) v L):=
 Go.Proofs.YtkgfhabealjjpaaGreatDoor.Ring.ax.drop (AK Fr w fit hlast from_ f hm hml now hi1 hi2) fun _ _ h=>Hf h
theorem abo{M:aI}(ok:M.Ok)(from_:Int)(f:aB)(g:jk)(now:Int):ax Tryz.prog 174 [.pointer (some ⟨q,0,none⟩),.int .i64 from_,.agg (f.cells g).toArray,.int .i64 now] Fr w [cC q M] (fun v L=>re (M.take from_ f now).2 (cC q (M.take from_ f now).1) v L):=Go.Proofs.YtkgfhabealjjpaaGreatDoor.Ring.ax.drop (UA Fr w ok from_ f g now) fun _ _ h=>Dc h
theorem abp{M:aI}(ok:M.Ok)(now:Int):ax Tryz.prog 54 [.pointer (some ⟨q,0,none⟩),.int .i64 now] Fr w [cC q M] (fun v L=>re (M.tick now).2 (cC q (M.tick now).1) v L):=Go.Proofs.YtkgfhabealjjpaaGreatDoor.Ring.ax.drop (UC Fr w ok now) fun _ _ h=>Dc h
theorem abt{M:aI}(ok:M.Ok)(n:Int):ax Tryz.prog 58 [.pointer (some ⟨q,0,none⟩),.int .i64 n] Fr w [cC q M] (fun v L=>zi (M.fI n).2.1 (M.fI n).2.2 (cC q (M.fI n).1) v L):=Go.Proofs.YtkgfhabealjjpaaGreatDoor.Ring.ax.drop (Uy Fr w ok n) fun _ _ h=>Dd h
theorem abl{M:aI}(ok:M.Ok)(n:Int):ax Tryz.prog 60 [.pointer (some ⟨q,0,none⟩),.int .i64 n] Fr w [cC q M] (fun v L=>zi (M.drain n).2.1 (M.drain n).2.2 (cC q (M.drain n).1) v L):=Go.Proofs.YtkgfhabealjjpaaGreatDoor.Ring.ax.drop (Ud Fr w ok n) fun _ _ h=>Dd h
theorem abn{M:aI}(ok:M.Ok)(n now:Int):ax Tryz.prog 116 [.pointer (some ⟨q,0,none⟩),.int .i64 n,.int .i64 now] Fr w [cC q M] (fun v L=>zi (M.join n now).2.1 (M.join n now).2.2 (cC q (M.join n now).1) v L):=Go.Proofs.YtkgfhabealjjpaaGreatDoor.Ring.ax.drop (Us Fr w ok n now) fun _ _ h=>Dd h
theorem abj{S:aW}(ok:S.Ok)(f:aB){ma:Option Addr}{mc:Nat}{ms:List aS}(hm:aT aD 2 Fr w ma ms)(hml:ms.length≤1000000)(now:Int):ax Tryz.prog 239 [.pointer (some ⟨q,0,none⟩),.agg (f.cells (ma,ms.length,mc)).toArray,.int .i64 now] Fr w [bQ q S] (fun v L=>re (S.take f ms now).2 (bQ q (S.take f ms now).1) v L):=Go.Proofs.YtkgfhabealjjpaaGreatDoor.Ring.ax.drop (Rk Fr w ok f hm hml now) fun _ _ h=>Dc h
theorem abk{S:aW}(ok:S.Ok)(now:Int):ax Tryz.prog 106 [.pointer (some ⟨q,0,none⟩),.int .i64 now] Fr w [bQ q S] (fun v L=>re (S.tick now).2 (bQ q (S.tick now).1) v L):=Go.Proofs.YtkgfhabealjjpaaGreatDoor.Ring.ax.drop (Rm Fr w ok now) fun _ _ h=>Dc h
theorem abi{S:aW}(ok:S.Ok)(hq:S.seq≤1000000000)(o:bw)(cl d now:Int):ax Tryz.prog 92 [.pointer (some ⟨q,0,none⟩),.agg o.cells.toArray,.int .i64 cl,.int .i64 d,.int .i64 now] Fr w [bQ q S] (fun v L=>zi (S.call o cl d now).2 (S.fZ o cl d) (bQ q (S.call o cl d now).1) v L):=Go.Proofs.YtkgfhabealjjpaaGreatDoor.Ring.ax.drop (QQ Fr w ok hq o cl d now) fun _ _ h=>Dd h
theorem JO{Fr:Nat→Prop}{w:World}{S:aW}(h:a_ Fr [bQ q S] w):∃y,bq Fr w q (du S y)∧∀x,S.out=some x→bq Fr w y.b (o6 x):=by
 obtain⟨y,hy⟩:=h.ex
 have hs:=hy.sep
 refine⟨y,hs.aA 0 Z,fun x hx=>?_⟩
 have hb:=hs.at_ 3 rfl
 rw[hx] at hb
 exact hb.aA 0 rfl
theorem NG{S:aW}(ok:S.Ok)(h:a_ Fr [bQ q S] w):ax Tryz.prog 63 [.pointer (some ⟨q,0,none⟩)] Fr w [] (fun v L=>v=.int .i64 S.seq∧L=[]):=by
 obtain⟨y,h1,_⟩:=JO h
 exact Ri Fr w ok h1
theorem abq{S:aW}(ok:S.Ok)(h:a_ Fr [bQ q S] w):ax Tryz.prog 61 [.pointer (some ⟨q,0,none⟩)] Fr w [] (fun v L=>v=GB S.outcome∧L=[]):=by
 obtain⟨y,h1,h2⟩:=JO h
 exact Re Fr w ok h1 h2
end
theorem AB{α:Type}{l:List α}{k:Nat}{x:α}(h:l[k]?=some x):l.set k x=l:=by
 apply qe
 intro j
 rw[wi]
 split
 ·rename_i e;subst e
  rw[if_pos (bP.1 h).1,h]
 ·rfl
end Cl
namespace Cl
open Go Vg T Api Ch Rep Conf Lg Rd
theorem Cj{n:Int}(h:gd n=true):0≤n∧n≤1099511627776:=by unfold gd at h;simpa using h
theorem FU:∀(l:List Int) (r:Bs),(∀n∈l,gd n=true)→gL l.length (l.flatMap cO++r)=some (l,r)
 | [],r,_=>rfl
 | n::l,r,h=>by
  have hn:=Cj (h n (qZ ..))
  rw[uO,ed,ku]
  unfold gL
  rw[rZ yg hn.2]
  dsimp only
  rw[FU l r fun m hm=>h m (kW _ hm)]
theorem Vd{o:bw}(h:dv o=0):(1≤o.kind∧o.kind≤4)∧o.key.size≤64∧o.value.size≤64∧(mU o.kind=false→o.value.size=0)∧(o.kind≠4→o.version=0)∧(o.kind=4→0≤o.version∧o.version≤1099511627776):=by
 unfold dv at h
 split at h
 ·cases h
 split at h
 ·cases h
 rename_i hb hl
 simp only[oU,qH,Br,eG,Bool.not_eq_true',EH,decide_eq_true_eq,decide_eq_false_iff_not,not_or,not_and] at hb hl
 obtain⟨⟨⟨⟨⟨⟨a1,a2⟩,a3⟩,a4⟩,a5⟩,a6⟩,a7⟩:=hb
 refine⟨⟨by omega,by omega⟩,by omega,by omega,fun hv=>?_,fun h4=>?_,fun h4=>⟨by omega,by omega⟩⟩
 ·unfold mU at hv
  simp only[EH,decide_eq_false_iff_not] at hv
  by_cases hz:o.value.size=0
  ·exact hz
  ·exact absurd hv (by simpa using a7 hz)
 ·by_cases hz:o.version=0
  ·exact hz
  ·exact absurd h4 (by simpa using a6 hz)
theorem Ky{o:bw}(h:dv o=0):rC (pN o)=some o:=by
 obtain⟨⟨k1,k2⟩,hk,hv,h1,h2,h3⟩:=Vd h
 unfold rC pN
 rw[ed,ed,rZ yg yg]
 dsimp only
 rw[J0 _ _ (by rw[uq];omega)]
 dsimp only
 have hval:(if mU o.kind then iV ((if mU o.kind then nJ (sB o.value) else [])++(if o.kind=4 then cO o.version else [])) else some ([],(if mU o.kind then nJ (sB o.value) else [])++(if o.kind=4 then cO o.version else [])))=some (sB o.value,if o.kind=4 then cO o.version else []):=by
  cases hb:mU o.kind with
  | true=>exact J0 _ _ (by rw[uq];omega)
  | false=>
   have:sB o.value=[]:=iC (by rw[uq];exact h1 hb)
   rw[this];rfl
 rw[hval]
 dsimp only
 have hver:(if o.kind=4 then cd (if o.kind=4 then cO o.version else []) else some (0,if o.kind=4 then cO o.version else []))=some (o.version,[]):=by
  by_cases h4:o.kind=4
  ·have:=h3 h4
   rw[if_pos h4,if_pos h4]
   have:=rZ (n:=o.version) yg yg []
   rwa[br] at this
  ·rw[if_neg h4,if_neg h4,h2 h4]
 rw[hver]
 dsimp only
 rw[BS,BS,if_pos ⟨rfl,h⟩]
end Cl
namespace Cl
open Go Vg T Api Ch Rep Conf Lg Rd
structure dN(c:aV):Prop where
 e1:1≤c.ar
 e2:c.ar≤1099511627776
 l1:1≤c.ms.length
 l2:c.ms.length≤6
 nd:(c.ms.map Prod.fst).Nodup
 mr:∀m∈c.ms,(0≤m.1∧m.1<6)∧1≤m.2∧m.2≤c.ar
 dr:c.drain=-1∨c.drain∈c.ms.map Prod.fst
theorem CV{ms:List aS}(hn:(ms.map Prod.fst).Nodup){i:Nat}{m:aS}(hm:ms[i]?=some m):placeOf ms m.1=i:=by
 refine Md hm Z fun j m' hj hm' he=>?_
 have h1:(ms.map Prod.fst)[j]?=some m.1:=by rw[dH,hm',←he];rfl
 have h2:(ms.map Prod.fst)[i]?=some m.1:=by rw[dH,hm];rfl
 have hi:=(bP.1 h2).1
 have:=(List.getElem?_inj (by rw[cY] at hi ⊢;omega:j<(ms.map Prod.fst).length) hn).1 (h1.trans h2.symm)
 omega
theorem Am{ms:List aS}{n:Int}:placeOf ms n<0↔n∉ms.map Prod.fst:=by
 rcases uj ms n with h | ⟨i,m,h1,h2,h3,h4⟩
 ·rw[h]
  refine⟨fun _ hm=>?_,fun _=>by decide⟩
  obtain⟨m,hm2,rfl⟩:=cy.1 hm
  unfold placeOf at h
  cases hf:ms.findIdx? (fun x=>decide (x.1=m.1)) with
  | none=>
   have:=List.findIdx?_eq_none_iff.1 hf m hm2
   simp at this
  | some i=>rw[hf] at h;exact absurd h (by show ¬((i:Int)=-1);omega)
 ·rw[h1]
  refine⟨fun h=>by omega,fun h=>absurd (cy.2 ⟨m,ME h3,h4⟩) h⟩
theorem zv{c:aV}:eN c=0↔dN c:=by
 have e0:eN c=0↔lh c=true:=by unfold eN;split<;>simp_all
 rw[e0]
 unfold lh ua wP
 simp only[eG,Br,decide_eq_true_eq,nK,tG]
 constructor
 ·rintro⟨⟨a,b,c1,d⟩,h,hd⟩
  have hm:∀(i:Nat) (m:aS),c.ms[i]?=some m→(0≤m.1∧m.1<6)∧placeOf c.ms m.1=i∧1≤m.2∧m.2≤c.ar:=fun i m hi=>by
   have:=h i (bP.1 hi).1
   unfold qB oT at this
   rw[hi] at this
   simpa using this
  refine⟨a,b,c1,d,?_,fun m hm'=>?_,?_⟩
  ·unfold List.Nodup
   rw[List.pairwise_iff_getElem]
   intro i j hi hj hij he
   rw[cY] at hi hj
   rw[yV,yV] at he
   have h1:=(hm i _ (GE hi)).2.1
   have h2:=(hm j _ (GE hj)).2.1
   rw[he] at h1
   omega
  ·obtain⟨i,hi⟩:=nM hm'
   have:=hm i m hi
   exact⟨this.1,this.2.2⟩
  ·rcases hd with hd | hd
   ·exact .inl hd
   ·refine .inr ?_
    by_cases hx:c.drain∈c.ms.map Prod.fst
    ·exact hx
    ·have:=Am.2 hx;omega
 ·intro h
  refine⟨⟨h.e1,h.e2,h.l1,h.l2⟩,fun i hi=>?_,?_⟩
  ·have hi':c.ms[i]?=some c.ms[i]:=GE hi
   unfold qB oT
   rw[hi']
   have:=h.mr _ (ME hi')
   simp only[eG,decide_eq_true_eq]
   exact⟨this.1,CV h.nd hi',this.2⟩
  ·rcases h.dr with hd | hd
   ·exact .inl hd
   ·refine .inr ?_
    by_cases hx:placeOf c.ms c.drain<0
    ·exact absurd hd (Am.1 hx)
    ·omega
theorem RY{l:List Int}(hn:l.Nodup)(hr:∀x∈l,0≤x∧x<6):l.length≤6:=by
 have h1:(l.map Int.toNat).Nodup:=by
  unfold List.Nodup at hn ⊢
  rw[uR]
  refine hn.imp_of_mem fun {a b} ha hb h e=>h ?_
  have:=hr a ha
  have:=hr b hb
  omega
 have:=CF (m:=List.range 6) h1 fun x hx=>by
  obtain⟨a,ha,rfl⟩:=cy.1 hx
  have:=hr a ha
  rw[tG]
  omega
 rw[cY,List.length_range] at this
 exact this
theorem FI{c:aV}(h:gS c=0):dN c∧c.ar<1099511627776:=by
 unfold gS at h
 split at h
 ·cases h
 ·rename_i h1
  have h2:eN c=0:=by
   by_cases hx:eN c=0
   ·exact hx
   ·exact absurd (.inl hx) h1
  have hv:=zv.1 h2
  have:=hv.e2
  refine⟨hv,?_⟩
  by_cases hx:c.ar=1099511627776
  ·exact absurd (.inr hx) h1
  ·omega
theorem dN.NP{c:aV}{n:Int}(h:(fy c n).2=0):dN (fy c n).1:=by
 obtain⟨h1,h2,h3,h4⟩:=DO h
 obtain⟨v,hlt⟩:=FI h1
 have hn:0≤n∧n<6:=by unfold oT at h2;simpa using h2
 have hno:=Am.1 h3
 rw[h4]
 have hnd:((c.ms ++ [(n,c.ar+1)]).map Prod.fst).Nodup:=by
  rw[gn,nN]
  refine⟨v.nd,by simp,fun a ha b hb=>?_⟩
  simp at hb
  rw[hb]
  intro e;rw[e] at ha;exact hno ha
 have:=v.e1
 have hmr:∀m∈c.ms ++ [(n,c.ar+1)],(0≤m.1∧m.1<6)∧1≤m.2∧m.2≤c.ar+1:=fun m hm=>by
  rcases eP.1 hm with hm | hm
  ·have:=v.mr m hm;exact⟨this.1,this.2.1,by omega⟩
  ·rw[fe.1 hm];exact⟨hn,by show 1≤c.ar+1;omega,e_ _⟩
 refine⟨by show 1≤c.ar+1;omega,by show c.ar+1≤_;omega,by show 1≤(c.ms ++ [_]).length;simp,?_,hnd,hmr,?_⟩
 ·show(c.ms ++ [(n,c.ar+1)]).length≤6
  have:=RY hnd fun x hx=>by
   obtain⟨m,hm,rfl⟩:=cy.1 hx
   exact(hmr m hm).1
  rwa[cY] at this
 ·rcases v.dr with hd | hd
  ·exact .inl hd
  ·exact .inr (by show c.drain∈(c.ms ++ [_]).map Prod.fst;rw[gn];exact eP.2 (.inl hd))
theorem dN.fA{c:aV}{n:Int}(h:(jg c n).2=0):dN (jg c n).1:=by
 obtain⟨h1,h2,h4⟩:=AU h
 obtain⟨v,hlt⟩:=FI h1
 obtain⟨hp,hl⟩:=Ct h2
 obtain⟨i,m,h5,h6,h7,h8⟩:=xq hp
 rw[h4,h5]
 have:=v.e1
 have:=v.l1
 have:=v.l2
 have hs:(c.ms.eraseIdx i).Sublist c.ms:=EJ ..
 have hlen:(c.ms.eraseIdx i).length=c.ms.length-1:=List.length_eraseIdx_of_lt h6
 show dN ⟨c.ar+1,c.ms.eraseIdx i,if c.drain=n then -1 else c.drain⟩
 refine⟨by show 1≤c.ar+1;omega,by show c.ar+1≤_;omega,by show 1≤(c.ms.eraseIdx i).length;omega,by show(c.ms.eraseIdx i).length≤6;omega,(hs.map _).nodup v.nd,fun m hm=>by
  have:=v.mr m (hs.subset hm)
  exact⟨this.1,this.2.1,by show m.2≤c.ar+1;omega⟩,?_⟩
 show(if c.drain=n then -1 else c.drain)=-1∨(if c.drain=n then -1 else c.drain)∈(c.ms.eraseIdx i).map Prod.fst
 split
 ·exact .inl rfl
 ·rename_i hd
  rcases v.dr with h | h
  ·exact .inl h
  ·refine .inr ?_
   obtain⟨m',hm',he⟩:=cy.1 h
   obtain⟨j,hj⟩:=nM hm'
   rw[←he]
   refine cy.2 ⟨m',?_,Z⟩
   rw[List.mem_eraseIdx_iff_getElem?]
   refine⟨j,fun e=>hd ?_,hj⟩
   rw[e,h7] at hj
   cases hj
   rw[←he,h8]
theorem dN.J8{c:aV}{n:Int}(h:(gR c n).2=0):dN (gR c n).1:=by
 obtain⟨h1,h2,h3,h4⟩:=B0 h
 obtain⟨v,hlt⟩:=FI h1
 obtain⟨hp,hl⟩:=Ct h2
 rw[h4]
 have:=v.e1
 refine⟨by show 1≤c.ar+1;omega,by show c.ar+1≤_;omega,v.l1,v.l2,v.nd,fun m hm=>by
  have:=v.mr m hm
  exact⟨this.1,this.2.1,by show m.2≤c.ar+1;omega⟩,.inr ?_⟩
 show n∈c.ms.map Prod.fst
 by_cases hx:n∈c.ms.map Prod.fst
 ·exact hx
 ·have:=Am.2 hx;omega
theorem dN.gone{M:aI}{n:Int}(h:M.nD n=0):dN (M.gone n).ch:=dN.fA h
theorem NM{now:Int}:∀(l:List aS) (x:aI×Bool),dN x.1.ch→dN (aI.watch now l x).1.ch
 | [],_,h=>h
 | y::l,x,h=>by
  rw[aI.watch]
  refine NM l _ ?_
  split
  ·rename_i hl
   unfold aI.late at hl
   simp only[eG,decide_eq_true_eq] at hl
   exact dN.gone hl.2.2
  ·exact h
theorem UB{M:aI}(h:dN M.ch)(from_:Int)(f:aB)(now:Int):dN (M.take from_ f now).1.ch:=by
 unfold aI.take
 split
 ·exact h
 split
 ·exact h
 split
 ·split
  ·exact h
  split<;>exact h
 split
 ·split
  ·exact h
  split<;>exact h
 split
 ·split
  ·rename_i hh;exact dN.gone hh.2.2
  ·exact h
 ·exact h
theorem Uz{M:aI}(h:dN M.ch)(n:Int):dN (M.fI n).1.ch:=by
 unfold aI.fI
 split
 ·exact h
 split
 ·exact h
 ·rename_i hh;exact dN.gone Ey
theorem Ue{M:aI}(h:dN M.ch)(n:Int):dN (M.drain n).1.ch:=by
 unfold aI.drain
 split
 ·exact h
 split
 ·exact h
 ·rename_i hh;exact dN.J8 Ey
theorem Ut{M:aI}(h:dN M.ch)(n now:Int):dN (M.join n now).1.ch:=by
 unfold aI.join
 split
 ·exact h
 split
 ·exact h
 ·rename_i hh;exact dN.NP Ey
theorem Fy{c:ba}(h:c=bh c):dN (bM c):=by
 have hb:=kG h
 have hm:(bM c).ms=jX c.chain.toNat:=rfl
 refine⟨e_ _,by show(1:Int)≤_;decide,by rw[hm,u7];omega,by rw[hm,u7];omega,?_,fun m hx=>?_,.inl Z⟩
 ·rw[hm]
  unfold jX List.Nodup
  rw[mY,uR]
  refine List.nodup_range.imp fun {a b} h e=>h ?_
  have e:((a:Nat):Int)=(b:Nat):=e
  omega
 ·rw[hm] at hx
  unfold jX at hx
  obtain⟨i,hi,rfl⟩:=cy.1 hx
  have:=tG.1 hi
  exact⟨⟨by show(0:Int)≤i;omega,by show(i:Int)<6;omega⟩,e_ _,e_ _⟩
end Cl
namespace Cl
open Go Vg T Api Ch Rep Conf Lg Rd
theorem M7:∀(os:List Nat) (f:aB) (ns:List Int),(oZ f os ns).kind=f.kind
 | [],f,ns=>by cases ns<;>rfl
 | o::os,f,[]=>rfl
 | o::os,f,n::ns=>by
  show(oZ (uu f o n) os ns).kind=_
  rw[M7 os]
  unfold uu
  split<;>rfl
theorem Wq{f:aB}{s:Bs}{g:aB}{ms:List aS}(h:nE f s=some (g,ms)):g.kind=f.kind:=by
 unfold nE at h
 repeat' split at h
 all_goals first | (cases h;rfl) | cases h
theorem Lx:∀ms:List aS,pL (ms.flatMap fun m=>[m.1,m.2])=ms
 | []=>rfl
 | m::ms=>by
  show(m.1,m.2)::pL (ms.flatMap fun m=>[m.1,m.2])=m::ms
  rw[Lx ms]
theorem Ug(ms:List aS):(ms.flatMap fun m=>[m.1,m.2]).length=2*ms.length:=by
 induction ms with
 | nil=>rfl
 | cons m ms ih=>
  show(m.1::m.2::ms.flatMap fun m=>[m.1,m.2]).length=_
  rw[ku,ku,ih,ku];omega
theorem Uo(ms:List aS):ms.flatMap (fun m=>cO m.1++cO m.2)=(ms.flatMap fun m=>[m.1,m.2]).flatMap cO:=by
 induction ms with
 | nil=>rfl
 | cons m ms ih=>
  rw[uO,uO,wg,ih]
  simp
theorem Sx{c:aV}(h:eN c=0):jJ (wI c)=some c:=by
 have v:=zv.1 h
 have v1:=v.e1
 have v2:=v.e2
 have v3:=v.l1
 have v4:=v.l2
 have hd:-1≤c.drain∧c.drain≤1099511627776:=by
  rcases v.dr with hd | hd
  ·rw[hd];decide
  ·obtain⟨m,hm,he⟩:=cy.1 hd
   have:=(v.mr m hm).1
   omega
 unfold jJ wI
 rw[ed,ed,rZ yg v2]
 dsimp only
 rw[rZ yg yg]
 dsimp only
 rw[if_neg yg,ea,Uo,←Ug,FU _ _ fun n hn=>by
  obtain⟨m,hm,hx⟩:=yZ.1 hn
  have:=v.mr m hm
  simp only[iD,oB,or_false] at hx
  unfold gd
  rcases hx with rfl | rfl<;>simp<;>omega]
 dsimp only
 have e:=rZ (n:=c.drain) hd.1 hd.2 []
 rw[br] at e
 rw[e]
 dsimp only
 rw[Lx,if_pos ⟨rfl,h⟩]
structure IT(f:aB)(ms:List aS)(g:aB)(ms':List aS):Prop where
 kind:g.kind=f.kind
 k1:f.kind=1→g.aL=f.aL∧g.seq=f.seq
 k4:f.kind=4→g.ar=f.ar∧g.entry=f.entry
 k6:f.kind=6∨f.kind=11→g.ar=f.ar∧g.index=f.index
 k8:f.kind=8→g.dW=f.dW∧ms'=ms∧g.drain=f.drain
theorem Wd{f:aB}{ms:List aS}{t:Bs}(h:rQ f ms=some t){g:aB}{ms':List aS}(hg:getM t=some (g,ms')):IT f ms g ms':=by
 unfold rQ at h
 split at h
 rotate_left
 ·cases h
 rename_i hm
 split at h
 ·cases h
 rename_i hlen
 cases h
 unfold getM at hg
 rw[if_neg hlen] at hg
 unfold mv at hm
 simp only[eG,decide_eq_true_eq,nK] at hm
 obtain⟨hk,hn,hb⟩:=hm
 have e1:um f ms=cO f.kind++(((fv f.kind).map (ie f)).flatMap cO++l_ f ms):=by
  unfold um
  rw[ed,List.flatMap_map]
 rw[e1,rZ yg yg] at hg
 dsimp only at hg
 have e2:=FU ((fv f.kind).map (ie f)) (l_ f ms) (fun n hx=>by
  obtain⟨o,ho,rfl⟩:=cy.1 hx
  exact hn o ho)
 rw[cY] at e2
 rw[e2] at hg
 dsimp only at hg
 split at hg
 ·cases hg
 rename_i g1 ms1 hr
 split at hg
 rotate_left
 ·cases hg
 cases hg
 have hkind:g.kind=f.kind:=by rw[Wq hr,M7]
 refine⟨hkind,fun k=>?_,fun k=>?_,fun k=>?_,fun k=>?_⟩
 ·unfold pJ at hb
  rw[if_pos k] at hb
  have hb:=of_decide_eq_true hb
  have eo:fv f.kind=[1,2,3,4,5,6]:=by rw[k];rfl
  have eb:l_ f ms=pN f.op:=by unfold l_;rw[if_pos k]
  rw[eo,eb] at hr
  have es:oZ { aB.zero with kind:=f.kind } [1,2,3,4,5,6] ([1,2,3,4,5,6].map (ie f))={ aB.zero with kind:=f.kind,ar:=f.ar,aL:=f.aL,seq:=f.seq,bD:=f.bD,cls:=f.cls,deadline:=f.deadline }:=rfl
  rw[es] at hr
  unfold nE at hr
  dsimp only at hr
  rw[if_pos k,Ky hb] at hr
  cases hr
  exact⟨rfl,Z⟩
 ·unfold pJ at hb
  rw[if_neg yg,if_neg yg,if_pos k] at hb
  simp only[eG,decide_eq_true_eq] at hb
  obtain⟨⟨b1,b2,b3⟩,b4⟩:=hb
  have b1:=Cj b1
  have b2:=Cj b2
  have b3:=Cj b3
  have eo:fv f.kind=[1]:=by rw[k];rfl
  have eb:l_ f ms=cO f.entry.index++(cO f.entry.aL++(cO f.entry.seq++pN f.entry.op)):=by
   unfold l_
   rw[if_neg yg,if_neg yg,if_pos k,ed,ed]
  rw[eo,eb] at hr
  have es:oZ { aB.zero with kind:=f.kind } [1] ([1].map (ie f))={ aB.zero with kind:=f.kind,ar:=f.ar }:=rfl
  rw[es] at hr
  unfold nE at hr
  dsimp only at hr
  rw[if_neg yg,if_neg yg,if_pos k,rZ yg b1.2] at hr
  dsimp only at hr
  rw[rZ yg b2.2] at hr
  dsimp only at hr
  rw[rZ yg b3.2] at hr
  dsimp only at hr
  rw[Ky b4] at hr
  cases hr
  exact⟨rfl,Z⟩
 ·have eo:fv f.kind=[1,26]:=by rcases k with k | k<;>rw[k]<;>rfl
  have eb:l_ f ms=[]:=by
   unfold l_
   rw[if_neg yg,if_neg yg,if_neg yg,if_neg yg]
  rw[eo,eb] at hr
  have es:oZ { aB.zero with kind:=f.kind } [1,26] ([1,26].map (ie f))={ aB.zero with kind:=f.kind,ar:=f.ar,index:=f.index }:=rfl
  rw[es] at hr
  unfold nE at hr
  dsimp only at hr
  rw[if_neg yg,if_neg yg,if_neg yg,if_neg yg,if_pos rfl] at hr
  cases hr
  exact⟨rfl,Z⟩
 ·unfold pJ at hb
  rw[if_neg yg,if_neg yg,if_neg yg,if_pos k] at hb
  have hb:=of_decide_eq_true hb
  have eo:fv f.kind=[]:=by rw[k];rfl
  have eb:l_ f ms=wI ⟨f.dW,ms,f.drain⟩:=by
   unfold l_
   rw[if_neg yg,if_neg yg,if_neg yg,if_pos k]
  rw[eo,eb] at hr
  have es:oZ { aB.zero with kind:=f.kind } [] (([]:List Nat).map (ie f))={ aB.zero with kind:=f.kind }:=rfl
  rw[es] at hr
  unfold nE at hr
  dsimp only at hr
  rw[if_neg yg,if_neg yg,if_neg yg,if_pos k,Sx hb] at hr
  cases hr
  exact⟨rfl,Z,Z⟩
end Cl
namespace Cl
open Go Vg T Api Ch Rep Conf Lg Rd
theorem vw{a b:aS}:∀{l:List aS} {i j:Nat},l[i]?=some a→l[j]?=some b→i<j→[a,b].Sublist l
 | [],i,j,h,_,_=>by cases h
 | x::l,0,0,_,_,h=>absurd h (za 0)
 | x::l,0,j+1,h1,h2,_=>by
  cases h1
  exact(List.singleton_sublist.2 (ME (show l[j]?=some b from h2))).cons_cons _
 | x::l,i+1,0,_,_,h=>absurd h yg
 | x::l,i+1,j+1,h1,h2,h=>(vw (l:=l) (i:=i) (j:=j) h1 h2 yg).cons _
theorem GC{a b:aS}:∀{l:List aS},[a,b].Sublist l→∃i j:Nat,i<j∧l[i]?=some a∧l[j]?=some b
 | [],h=>by cases h
 | x::l,h=>by
  cases h with
  | cons _ h=>
   obtain⟨i,j,h1,h2,h3⟩:=GC h
   exact⟨i+1,j+1,by omega,h2,h3⟩
  | cons_cons _ h=>
   obtain⟨j,hj⟩:=nM (List.singleton_sublist.1 h)
   exact⟨0,j+1,by omega,Z,hj⟩
theorem L_{a b:aS}{l r:List aS}(h:[a,b].Sublist (l++r))(hb:b∉r):[a,b].Sublist l:=by
 obtain⟨x,y,h1,h2,h3⟩:=List.sublist_append_iff.1 h
 cases y with
 | nil=>rw[br] at h1;rw[h1];exact h2
 | cons z y=>
  exfalso
  have hm:b∈z::y:=by
   have e:(x++z::y).getLast?=some b:=by rw[←h1];rfl
   rw[List.getLast?_append] at e
   have e2:(z::y).getLast?=some b:=by
    cases hz:(z::y).getLast? with
    | none=>simp at hz
    | some u=>rw[hz] at e;exact e
   exact EL e2
  exact hb (h3.subset hm)
theorem US{l:List aS}(h:(l.map Prod.fst).Nodup):l.Nodup:=by
 unfold List.Nodup at h ⊢
 rw[uR] at h
 exact h.imp fun {a b} hh e=>hh mW
theorem LX{l:List aS}(h:l.Nodup){i j:Nat}{a:aS}(hi:l[i]?=some a)(hj:l[j]?=some a):i=j:=
 (List.getElem?_inj (bP.1 hi).1 h).1 (hi.trans hj.symm)
structure sF(c c':aV):Prop where
 ep:c'.ar=c.ar+1
 ok:dN c'
 parts:∃l r,c'.ms=l++r∧l.Sublist c.ms∧∀k∈r,c.ar<k.2
structure nO(H:List aV):Prop where
 zero:H[0]?=some rm
 ep:∀(e:Nat) (c:aV),H[e]?=some c→c.ar=e
 ok:∀(e:Nat) (c:aV),H[e]?=some c→1≤e→dN c
 ext:∀(e e':Nat) (c c':aV),e≤e'→H[e]?=some c→H[e']?=some c'→∃l r,c'.ms=l++r∧l.Sublist c.ms∧∀k∈r,(e:Int)<k.2
def gJ(H:List aV)(e:Nat):List aS:=((H[e]?).map aV.ms).getD []
theorem qp{H:List aV}{e:Nat}{c:aV}(h:H[e]?=some c):gJ H e=c.ms:=by unfold gJ;rw[h];rfl
theorem u5{H:List aV}{e:Nat}{k:aS}(h:k∈gJ H e):∃c,H[e]?=some c∧k∈c.ms:=by
 unfold gJ at h
 cases hc:H[e]? with
 | none=>rw[hc] at h;cases h
 | some c=>rw[hc] at h;exact⟨c,rfl,h⟩
theorem Fa{H H':List aV}(h:H <+: H'){e:Nat}(he:e<H.length):gJ H' e=gJ H e:=by
 obtain⟨t,rfl⟩:=h
 unfold gJ
 rw[nL he]
theorem wJ{H:List aV}{e:Nat}{k:aS}(h:k∈gJ H e):e<H.length:=by
 obtain⟨c,hc,_⟩:=u5 h
 exact(bP.1 hc).1
theorem QY{H H':List aV}(h:H <+: H'){e:Nat}{k:aS}(hk:k∈gJ H e):k∈gJ H' e:=by
 rw[Fa h (wJ hk)];exact hk
namespace nO
variable {H:List aV}
theorem pos(h:nO H){e:Nat}{k:aS}(hk:k∈gJ H e):1≤e:=by
 cases e with
 | zero=>
  rw[qp h.zero] at hk
  cases hk
 | succ e=>omega
theorem since(h:nO H){e:Nat}{k:aS}(hk:k∈gJ H e):1≤k.2∧k.2≤e:=by
 obtain⟨c,hc,hm⟩:=u5 hk
 have v:=(h.ok e c hc (h.pos hk)).mr k hm
 have:=h.ep e c hc
 omega
theorem node(h:nO H){e:Nat}{k:aS}(hk:k∈gJ H e):0≤k.1∧k.1<6:=by
 obtain⟨c,hc,hm⟩:=u5 hk
 exact((h.ok e c hc (h.pos hk)).mr k hm).1
theorem nodup(h:nO H)(e:Nat):(gJ H e).Nodup:=by
 cases hc:H[e]? with
 | none=>unfold gJ;rw[hc];exact List.nodup_nil
 | some c=>
  rw[qp hc]
  cases e with
  | zero=>rw[h.zero] at hc;cases hc;exact List.nodup_nil
  | succ e=>exact US (h.ok _ c hc yg).nd
theorem one(h:nO H){e:Nat}{n s s':Int}(h1:(n,s)∈gJ H e)(h2:(n,s')∈gJ H e):s=s':=by
 obtain⟨c,hc,hm⟩:=u5 h1
 rw[qp hc] at h2
 have v:=(h.ok e c hc (h.pos h1)).nd
 obtain⟨i,hi⟩:=nM hm
 obtain⟨j,hj⟩:=nM h2
 have e1:=CV v hi
 have e2:=CV v hj
 dsimp only at e1 e2
 have:i=j:=by omega
 subst this
 rw[hi] at hj
 cases hj;rfl
theorem ord(h:nO H){e e':Nat}(he:e≤e'){a b:aS}(hp:[a,b].Sublist (gJ H e'))(hb:b∈gJ H e):[a,b].Sublist (gJ H e):=by
 have hb':b∈gJ H e':=hp.subset yi
 obtain⟨c',hc',_⟩:=u5 hb'
 obtain⟨c,hc,_⟩:=u5 hb
 obtain⟨l,r,h1,h2,h3⟩:=h.ext e e' c c' he hc hc'
 rw[qp hc',h1] at hp
 rw[qp hc]
 exact(L_ hp fun hr=>by have:=h3 b hr;have:=h.since hb;omega).trans h2
theorem rK(h:nO H){e e' e'':Nat}(h1:e≤e')(h2:e'≤e''){k:aS}(hk:k.2≤e)(hk'':k∈gJ H e''):k∈gJ H e':=by
 have hl:=wJ hk''
 have hc':H[e']?=some H[e']:=GE yg
 obtain⟨c'',hc'',hm⟩:=u5 hk''
 obtain⟨l,r,g1,g2,g3⟩:=h.ext e' e'' _ c'' h2 hc' hc''
 rw[qp hc']
 rw[g1] at hm
 rcases eP.1 hm with hm | hm
 ·exact g2.subset hm
 ·have:=g3 k hm;omega
theorem push(h:nO H){c c':aV}(hl:H.getLast?=some c)(hn:sF c c'):nO (H ++ [c']):=by
 have hlen:0<H.length:=by
  cases H with
  | nil=>cases hl
  | cons x H=>exact Nat.succ_pos _
 have hc:H[H.length-1]?=some c:=by rw[←yW];exact hl
 have hep:=h.ep _ c hc
 have hold:∀{e:Nat} {x:aV},(H ++ [c'])[e]?=some x→(e<H.length∧H[e]?=some x)∨(e=H.length∧x=c'):=fun {e x} hx=>by
  by_cases he:e<H.length
  ·rw[nL he] at hx;exact .inl ⟨he,hx⟩
  ·rw[qX yg] at hx
   by_cases e0:e-H.length=0
   ·rw[e0] at hx
    cases hx
    exact .inr ⟨by omega,Z⟩
   ·rw[kr PL] at hx
    cases hx
 obtain⟨l0,r0,p1,p2,p3⟩:=hn.parts
 refine⟨?_,fun e x hx=>?_,fun e x hx h1=>?_,fun e e' x x' he hx hx'=>?_⟩
 ·rw[nL hlen];exact h.zero
 ·rcases hold hx with ⟨_,hx⟩ | ⟨rfl,rfl⟩
  ·exact h.ep e x hx
  ·rw[hn.ep,hep];omega
 ·rcases hold hx with ⟨_,hx⟩ | ⟨rfl,rfl⟩
  ·exact h.ok e x hx h1
  ·exact hn.ok
 ·rcases hold hx' with ⟨hl',hx'⟩ | ⟨rfl,rfl⟩
  ·rw[nL yg] at hx
   exact h.ext e e' x x' he hx hx'
  ·rcases hold hx with ⟨hl',hx⟩ | ⟨rfl,rfl⟩
   ·obtain⟨l,r,g1,g2,g3⟩:=h.ext e (H.length-1) x c yg hx hc
    rw[g1] at p2
    obtain⟨l1,l2,q1,q2,q3⟩:=List.sublist_append_iff.1 p2
    refine⟨l1,l2++r0,by rw[p1,q1,ed],q2.trans g2,fun k hk=>?_⟩
    rcases eP.1 hk with hk | hk
    ·exact g3 k (q3.subset hk)
    ·have:=p3 k hk;omega
   ·exact⟨x.ms,[],(br _).symm,List.Sublist.refl _,fun k hk=>by cases hk⟩
end nO
theorem U1{c:aV}{n:Int}(h:(fy c n).2=0):sF c (fy c n).1:=by
 have v:=dN.NP h
 obtain⟨h1,h2,h3,h4⟩:=DO h
 rw[h4] at v ⊢
 exact⟨rfl,v,c.ms,[(n,c.ar+1)],Z,List.Sublist.refl _,fun k hk=>by rw[fe.1 hk];show c.ar<c.ar+1;omega⟩
theorem U2{c:aV}{n:Int}(h:(jg c n).2=0):sF c (jg c n).1:=by
 have v:=dN.fA h
 obtain⟨h1,h2,h4⟩:=AU h
 rw[h4] at v ⊢
 exact⟨rfl,v,_,[],(br _).symm,EJ ..,fun k hk=>by cases hk⟩
theorem U0{c:aV}{n:Int}(h:(gR c n).2=0):sF c (gR c n).1:=by
 have v:=dN.J8 h
 obtain⟨h1,h2,h3,h4⟩:=B0 h
 rw[h4] at v ⊢
 exact⟨rfl,v,c.ms,[],(br _).symm,List.Sublist.refl _,fun k hk=>by cases hk⟩
theorem Lv{c:aV}{i:Int}(h:0≤pK c i):0≤i∧∃m,c.ms[i.toNat]?=some m∧m.1=pK c i:=by
 unfold pK at h ⊢
 split at h
 ·rename_i hh
  rw[if_pos hh]
  obtain⟨_,h0,h1⟩:=hh
  have hx:c.ms[i.toNat]?=some c.ms[i.toNat]:=GE yg
  exact⟨h0,_,hx,by rw[hx];rfl⟩
 ·exact absurd h yy
theorem V9{c:aV}{n:Int}(h:0≤Ao c n):∃(i:Nat) (s s':Int),c.ms[i]?=some (Ao c n,s')∧c.ms[i+1]?=some (n,s):=by
 unfold Ao at h ⊢
 obtain⟨h0,m,hm,he⟩:=Lv h
 obtain⟨i,m',h5,h6,h7,h8⟩:=xq (ms:=c.ms) (n:=n) yg
 refine⟨(placeOf c.ms n-1).toNat,m'.2,m.2,by rw[←he];exact hm,?_⟩
 rw[show(placeOf c.ms n-1).toNat+1=i by omega,h7,←h8]
theorem SM{c:aV}{n:Int}(hn:0≤n)(h:t_ c=n):∃s,c.ms[0]?=some (n,s):=by
 unfold t_ at h
 obtain⟨_,m,hm,he⟩:=Lv (c:=c) (i:=0) yg
 exact⟨m.2,by rw[←h,←he];exact hm⟩
theorem Na{c:aV}{n:Int}(h:(bU c n).1≠0):(n,(bU c n).1)∈c.ms:=by
 unfold bU at h ⊢
 split at h
 ·rename_i hh
  rw[if_pos hh]
  obtain⟨i,m,h5,h6,h7,h8⟩:=xq hh.2
  have e:c.ms[(placeOf c.ms n).toNat]?=some m:=by rw[h5,ea];exact h7
  dsimp only
  rw[e]
  show(n,m.2)∈c.ms
  rw[←h8]
  exact ME h7
 ·exact absurd Z h
theorem Hj{c:aV}(v:dN c){n s:Int}(h:(n,s)∈c.ms):bU c n=(s,true):=by
 obtain⟨i,hi⟩:=nM h
 have hp:=CV v.nd hi
 dsimp only at hp
 have ho:lh c=true:=by
  have:=zv.2 v
  unfold eN at this
  split at this
  ·assumption
  ·cases this
 unfold bU
 rw[if_pos ⟨ho,by omega⟩,hp,ea,hi]
 rfl
theorem W8{c:aV}(v:dN c){n:Int}(h:(bU c n).1=0)(s:Int):(n,s)∉c.ms:=fun hm=>by
 rw[Hj v hm] at h
 have:=(v.mr _ hm).2.1
 dsimp only at h this
 omega
end Cl
namespace Cl
open Go Vg T Api Ch Rep Conf Lg Rd
structure Gh where
 H:List aV
 V:aS→Nat
 G:aS→List bf
 F:Nat→aS→List bf
def Gh.ch(g:Gh)(e:Nat):List aS:=gJ g.H e
def Gh.X(g:Gh)(e:Nat)(k:aS):List bf:=if e<g.V k then g.F e k else g.G k
def Gh.app(g:Gh)(k:aS)(x:bf):Gh:={ g with G:=fun k'=>if k'=k then g.G k ++ [x] else g.G k' }
def Gh.aj(g:Gh)(k:aS)(v:Nat):Gh:={ g with V:=fun k'=>if k'=k then v else g.V k',F:=fun e k'=>if k'=k∧g.V k≤e then g.G k else g.F e k' }
def Gh.ext(g:Gh)(c:aV):Gh:={ g with H:=g.H ++ [c] }
structure ee(g:Gh):Prop where
 eR:nO g.H
 P:∀(e:Nat) (a b:aS),[a,b].Sublist (g.ch e)→g.X e b <+: g.X e a
 mono:∀(e e':Nat) (k:aS),e≤e'→g.X e k <+: g.X e' k
 xO:∀k:aS,(g.H.length:Int)≤k.2→g.V k=0
 vt:∀k:aS,g.V k<g.H.length
 nil:∀k:aS,g.V k=0→g.G k=[]
structure Gh.Le(g g':Gh):Prop where
 H:g.H <+: g'.H
 V:∀k,g.V k≤g'.V k
 X:∀e k,g.X e k <+: g'.X e k
 fz:∀e k,e<g.V k→g'.X e k=g.X e k
theorem Gh.Le.refl(g:Gh):g.Le g:=⟨m_ _,fun _=>NR _,fun _ _=>m_ _,fun _ _ _=>rfl⟩
theorem Gh.Le.trans{a b c:Gh}(h:a.Le b)(k:b.Le c):a.Le c:=⟨h.H.trans k.H,fun x=>ph (h.V x) (k.V x),fun e x=>(h.X e x).trans (k.X e x),fun e x hx=>(k.fz e x (wu hx (h.V x))).trans (h.fz e x hx)⟩
theorem Gh.nk{g:Gh}{e:Nat}{k:aS}(h:g.V k≤e):g.X e k=g.G k:=by unfold Gh.X;rw[if_neg yg]
theorem Gh.Le.G{g g':Gh}(h:g.Le g')(k:aS):g.G k <+: g'.G k:=by
 have:=h.X (max (g.V k) (g'.V k)) k
 rwa[Gh.nk yg,Gh.nk yg] at this
theorem Gh.Le.ch{g g':Gh}(h:g.Le g'){e:Nat}(he:e<g.H.length):g'.ch e=g.ch e:=Fa h.H he
def oE(g:Gh)(e:Nat)(L:List bf):Prop:=∃p∈g.ch e,e<g.V p∧g.X e p <+: L
theorem oE.up{g g':Gh}(h:g.Le g'){e:Nat}{L L':List bf}(c:oE g e L)(hL:L <+: L'):oE g' e L':=by
 obtain⟨p,h1,h2,h3⟩:=c
 exact⟨p,QY h.H h1,wu h2 (h.V p),by rw[h.fz e p h2];exact h3.trans hL⟩
theorem oE.le{g:Gh}{e:Nat}{L L':List bf}(c:oE g e L)(hL:L <+: L'):oE g e L':=c.up (Gh.Le.refl g) hL
def EW(g:Gh)(k:aS):Prop:=∀e:Nat,1≤e→(e:Int)<k.2→oE g e (g.G k)
theorem EW.up{g g':Gh}(h:g.Le g'){k:aS}(c:EW g k):EW g' k:=fun e h1 h2=>(c e h1 h2).up h (h.G k)
def At(L:List bf)(x:bf):Prop:=1≤x.index∧L[(x.index-1).toNat]?=some x
theorem V7{L L':List bf}(h:L <+: L'){i:Nat}{x:bf}(hx:L[i]?=some x):L'[i]?=some x:=by
 obtain⟨t,rfl⟩:=h
 rw[nL (bP.1 hx).1]
 exact hx
theorem At.up{L L':List bf}{x:bf}(h:At L x)(hL:L <+: L'):At L' x:=⟨h.1,V7 hL h.2⟩
theorem Mi{L L':List bf}(h:L <+: L'){i:Nat}(hi:i≤L.length):L'.take i=L.take i:=by
 obtain⟨t,rfl⟩:=h
 rw[List.take_append_of_le_length hi]
theorem V8{L L':List bf}(h:L <+: L'){x:bf}(hx:L'[L.length]?=some x):L ++ [x] <+: L':=by
 obtain⟨t,rfl⟩:=h
 rw[qX (NR _),Nat.sub_self] at hx
 cases t with
 | nil=>cases hx
 | cons y t=>cases hx;exact⟨t,by simp⟩
def tI(g:Gh)(v:Nat)(p:aS)(i:Int):Prop:=0≤i→i.toNat≤(g.X v p).length∧∀e:Nat,1≤e→e<v→oE g e ((g.X v p).take i.toNat)
theorem tI.up{g g':Gh}(h:g.Le g'){v:Nat}{p:aS}{i:Int}(b:tI g v p i):tI g' v p i:=fun h0=>by
 obtain⟨h1,h2⟩:=b h0
 have hX:=h.X v p
 refine⟨ph h1 hX.length_le,fun e h3 h4=>?_⟩
 rw[Mi hX h1]
 exact(h2 e h3 h4).up h (m_ _)
theorem IY{g:Gh}{k:aS}{v:Nat}(hv:g.V k≤v)(e:Nat)(k':aS):(g.aj k v).X e k'=g.X e k':=by
 unfold Gh.X Gh.aj
 dsimp only
 by_cases hk:k'=k
 ·subst hk
  simp only[if_true,true_and]
  by_cases h1:e<g.V k'
  ·rw[if_pos h1,if_pos yg,if_neg yg]
  ·rw[if_neg h1]
   by_cases h2:e<v
   ·rw[if_pos h2,if_pos yg]
   ·rw[if_neg h2]
 ·simp only[hk,if_false,false_and]
theorem ee.aj{g:Gh}(h:ee g){k:aS}{v:Nat}(hv:g.V k≤v)(hk:k∈g.ch v):ee (g.aj k v)∧g.Le (g.aj k v):=by
 have hX:=fun e k'=>IY hv e k'
 have hl:v<g.H.length:=wJ hk
 refine⟨⟨h.eR,fun e a b hp=>by rw[hX,hX];exact h.P e a b hp,fun e e' k' he=>by rw[hX,hX];exact h.mono e e' k' he,fun k' hk'=>?_,fun k'=>?_,fun k' hk'=>?_⟩,⟨m_ _,fun k'=>?_,fun e k'=>by rw[hX];exact m_ _,fun e k' _=>hX e k'⟩⟩
 ·show(if k'=k then v else g.V k')=0
  split
  ·rename_i e
   subst e
   have:=h.eR.since hk
   have hk'':(g.H.length:Int)≤k'.2:=hk'
   omega
  ·exact h.xO k' hk'
 ·show(if k'=k then v else g.V k')<g.H.length
  split
  ·exact hl
  ·exact h.vt k'
 ·have hk':(if k'=k then v else g.V k')=0:=hk'
  show g.G k'=[]
  split at hk'
  ·rename_i e
   subst e
   exact h.nil k' yg
  ·exact h.nil k' hk'
 ·show g.V k'≤(if k'=k then v else g.V k')
  split
  ·rename_i e;rw[e];exact hv
  ·exact NR _
theorem wE{g:Gh}{k:aS}{x:bf}(e:Nat)(k':aS):(g.app k x).X e k'=if k'=k∧g.V k≤e then g.G k ++ [x] else g.X e k':=by
 unfold Gh.X Gh.app
 dsimp only
 by_cases hk:k'=k
 ·subst hk
  by_cases h1:e<g.V k'
  ·rw[if_pos h1,if_neg yg,if_pos h1]
  ·rw[if_neg h1,if_pos rfl,if_pos ⟨rfl,by omega⟩]
 ·simp only[hk,if_false,false_and]
theorem ee.app{g:Gh}(h:ee g){k:aS}{x:bf}(hk:k∈g.ch (g.V k))
  (hx:(∀a,¬[a,k].Sublist (g.ch (g.V k)))∨(∃(p:aS) (i:Nat),(g.ch (g.V k))[i]?=some p∧(g.ch (g.V k))[i+1]?=some k∧(g.X (g.V k) p)[(g.G k).length]?=some x)):ee (g.app k x)∧g.Le (g.app k x):=by
 have hup:∀(e:Nat) (k':aS),g.X e k' <+: (g.app k x).X e k':=fun e k'=>by
  rw[wE]
  split
  ·rename_i hh
   rw[hh.1,Gh.nk hh.2]
   exact List.prefix_append _ _
  ·exact m_ _
 have hv0:=h.eR.pos hk
 have hks:=h.eR.since hk
 refine⟨⟨h.eR,fun e a b hp=>?_,fun e e' k' he=>?_,h.xO,h.vt,fun k' hk'=>?_⟩,⟨m_ _,fun k'=>NR _,hup,fun e k' he=>?_⟩⟩
 ·have hp:[a,b].Sublist (g.ch e):=hp
  have hPe:=h.P e a b hp
  rw[wE (k':=b)]
  split
  ·rename_i hh
   obtain⟨rfl,hve⟩:=hh
   have hab:a≠b:=fun e0=>by
    subst e0
    have:=h.eR.nodup e
    exact absurd (hp.nodup this) yi
   rw[wE,if_neg fun hh=>hab hh.1]
   have hp2:[a,b].Sublist (g.ch (g.V b)):=h.eR.ord hve hp hk
   rcases hx with hx | ⟨p,i,hi1,hi2,hx⟩
   ·exact absurd hp2 (hx a)
   ·have hpb:[p,b].Sublist (g.ch (g.V b)):=vw hi1 hi2 yg
    have e1:=h.P _ p b hpb
    rw[Gh.nk (NR _)] at e1
    have e2:=V8 e1 hx
    obtain⟨j1,j2,hj,hj1,hj2⟩:=GC hp2
    have:j2=i+1:=LX (h.eR.nodup _) hj2 hi2
    have e3:g.X (g.V b) p <+: g.X (g.V b) a:=by
     by_cases hji:j1=i
     ·subst hji
      rw[hi1] at hj1
      cases hj1
      exact m_ _
     ·exact h.P _ a p (vw hj1 hi1 yg)
    exact(e2.trans e3).trans (h.mono _ _ a hve)
  ·exact hPe.trans (hup e a)
 ·rw[wE,wE]
  by_cases hh:k'=k∧g.V k≤e
  ·rw[if_pos hh,if_pos ⟨hh.1,by omega⟩]
   exact m_ _
  ·rw[if_neg hh]
   split
   ·rename_i h2
    have:=h.mono e e' k' he
    rw[h2.1,Gh.nk h2.2] at this
    rw[h2.1]
    exact this.trans (List.prefix_append _ _)
   ·exact h.mono e e' k' he
 ·have hk':g.V k'=0:=hk'
  show(if k'=k then g.G k ++ [x] else g.G k')=[]
  split
  ·rename_i e
   rw[e] at hk'
   omega
  ·exact h.nil k' hk'
 ·rw[wE,if_neg fun hh=>by rw[hh.1] at he;omega]
theorem ee.ext{g:Gh}(h:ee g){c c':aV}(hl:g.H.getLast?=some c)(hn:sF c c'):ee (g.ext c')∧g.Le (g.ext c'):=by
 have hlen:0<g.H.length:=by
  cases hH:g.H with
  | nil=>rw[hH] at hl;cases hl
  | cons x H=>exact Nat.succ_pos _
 have hc:g.H[g.H.length-1]?=some c:=by rw[←yW];exact hl
 have hep:=h.eR.ep _ c hc
 have hlen':(g.ext c').H.length=g.H.length+1:=by
  show(g.H ++ [c']).length=_
  rw[a8];rfl
 refine⟨⟨h.eR.push hl hn,fun e a b hp=>?_,h.mono,fun k hk=>h.xO k (by rw[hlen'] at hk;omega),fun k=>by rw[hlen'];exact Nat.lt_succ_of_lt (h.vt k),h.nil⟩,⟨List.prefix_append _ _,fun _=>NR _,fun _ _=>m_ _,fun _ _ _=>rfl⟩⟩
 show g.X e b <+: g.X e a
 have hp:[a,b].Sublist (gJ (g.H ++ [c']) e):=hp
 by_cases he:e<g.H.length
 ·rw[Fa (List.prefix_append _ _) he] at hp
  exact h.P e a b hp
 have hb:b∈gJ (g.H ++ [c']) e:=hp.subset yi
 have hee:e=g.H.length:=by
  have:=wJ hb
  rw[a8,Bw] at this
  omega
 subst hee
 have e1:gJ (g.H ++ [c']) g.H.length=c'.ms:=qp (by rw[qX (NR _),Nat.sub_self];rfl)
 obtain⟨l,r,p1,p2,p3⟩:=hn.parts
 rw[e1,p1] at hp
 by_cases hbr:b∈r
 ·have hv:=h.xO b (by have:=p3 b hbr;omega)
  rw[Gh.nk yg,h.nil b hv]
  exact List.nil_prefix
 ·have hp2:[a,b].Sublist (g.ch (g.H.length-1)):=by
   unfold Gh.ch
   rw[qp hc]
   exact(L_ hp hbr).trans p2
  have:=h.P _ a b hp2
  have va:=h.vt a
  have vb:=h.vt b
  rwa[Gh.nk yg,Gh.nk yg] at this ⊢
theorem ee.JX{g:Gh}(h:ee g){p:aS}(hp:p∈g.ch (g.H.length-1))(hw:EW g p){e:Nat}{t:aS}(ht:(g.ch e).getLast?=some t):g.X e t <+: g.G p:=by
 have htm:t∈g.ch e:=EL ht
 have hel:=wJ htm
 have htop:∀{q:aS},q∈g.ch e→g.X e t <+: g.X e q:=fun {q} hq=>by
  obtain⟨i,hi⟩:=nM hq
  rw[yW] at ht
  by_cases hj:i=(g.ch e).length-1
  ·subst hj
   rw[ht] at hi
   cases hi
   exact m_ _
  ·exact h.P e q t (vw hi ht (by have:=(bP.1 hi).1;omega))
 have hGp:∀e,g.X e p <+: g.G p:=fun e=>by
  have:=h.mono e (max e (g.V p)) p yg
  rwa[Gh.nk (e:=max e (g.V p)) yg] at this
 by_cases hs:p.2≤e
 ·exact(htop (h.eR.rK (NR _) yg hs hp)).trans (hGp e)
 ·obtain⟨q,h1,_,h3⟩:=hw e (h.eR.pos htm) yg
  exact(htop h1).trans h3
end Cl
namespace Cl
open Go Vg T Api Ch Rep Conf Lg Rd
structure fK(g:Gh)(p:Int)(f:aB)(ms:List aS):Prop where
 k8:f.kind=8→p=16→∃e:Nat,f.dW=e∧g.H[e]?=some (n_ f ms)
 k4:f.kind=4→f.ar<g.H.length∧∀s:Int,(p,s)∈g.ch f.ar.toNat→At (g.X f.ar.toNat (p,s)) f.entry
 k6:f.kind=6→f.ar<g.H.length∧∀s:Int,(p,s)∈g.ch f.ar.toNat→tI g f.ar.toNat (p,s) f.index
 lG:f.kind=11→f.ar<g.H.length∧(f.index=1→∀s:Int,(p,s)∈g.ch f.ar.toNat→EW g (p,s))
theorem od{g:Gh}{p:Int}{f:aB}{ms:List aS}(k:Int)(hk:f.kind=k)(h:k≠4∧k≠6∧k≠8∧k≠11):fK g p f ms:=
 ⟨fun e=>absurd (hk.symm.trans e) h.2.2.1,fun e=>absurd (hk.symm.trans e) h.1,fun e=>absurd (hk.symm.trans e) h.2.1,fun e=>absurd (hk.symm.trans e) h.2.2.2⟩
theorem ee.pos{g:Gh}(h:ee g):0<g.H.length:=(bP.1 h.eR.zero).1
theorem fK.up{g g':Gh}(h0:0<g.H.length)(h:g.Le g'){p:Int}{f:aB}{ms:List aS}(m:fK g p f ms):fK g' p f ms:=by
 have hl:∀{n:Int},n<g.H.length→n<g'.H.length:=fun {n} hn=>by have:=h.H.length_le;omega
 have hch:∀{n:Int} {k:aS},n<g.H.length→k∈g'.ch n.toNat→k∈g.ch n.toNat:=fun {n k} hn hk=>by
  rw[h.ch yg] at hk;exact hk
 refine⟨fun k hp=>?_,fun k=>?_,fun k=>?_,fun k=>?_⟩
 ·obtain⟨e,h1,h2⟩:=m.k8 k hp
  obtain⟨t,ht⟩:=h.H
  exact⟨e,h1,by rw[←ht,nL (bP.1 h2).1];exact h2⟩
 ·obtain⟨h1,h2⟩:=m.k4 k
  exact⟨hl h1,fun s hs=>(h2 s (hch h1 hs)).up (h.X _ _)⟩
 ·obtain⟨h1,h2⟩:=m.k6 k
  exact⟨hl h1,fun s hs=>(h2 s (hch h1 hs)).up h⟩
 ·obtain⟨h1,h2⟩:=m.lG k
  exact⟨hl h1,fun hi s hs=>(h2 hi s (hch h1 hs)).up h⟩
theorem fK.back{g:Gh}{p:Int}{f:aB}{ms:List aS}(m:fK g p f ms){f':aB}{ms':List aS}(b:IT f ms f' ms'):fK g p f' ms':=by
 refine⟨fun k hp=>?_,fun k=>?_,fun k=>?_,fun k=>?_⟩
 ·rw[b.kind] at k
  obtain⟨h1,h2,h3⟩:=b.k8 k
  obtain⟨e,h4,h5⟩:=m.k8 k hp
  exact⟨e,by rw[h1];exact h4,by rw[h5];unfold n_;rw[h1,h2,h3]⟩
 ·rw[b.kind] at k
  obtain⟨h1,h2⟩:=b.k4 k
  rw[h1,h2];exact m.k4 k
 ·rw[b.kind] at k
  obtain⟨h1,h2⟩:=b.k6 (.inl k)
  rw[h1,h2];exact m.k6 k
 ·rw[b.kind] at k
  obtain⟨h1,h2⟩:=b.k6 (.inr k)
  rw[h1,h2];exact m.lG k
structure cD(g:Gh)(n:Nat)(R:ay):Prop where
 id:R.id=n
 ch:∃e:Nat,R.ch.ar=e∧g.H[e]?=some R.ch
 since:R.since=(bU R.ch R.id).1
 live:R.since≠0→g.V (n,R.since)=R.ch.ar.toNat∧g.G (n,R.since)=R.log
 rP:∀s:Int,g.V (n,s)≠0→s≠R.since→s≤R.ch.ar∧((n:Int),s)∉g.ch R.ch.ar.toNat
 ix:∀(i:Nat) (x:bf),R.log[i]?=some x→x.index=i+1
 wh:R.whole=true→R.since≠0∧R.start.toNat≤R.log.length∧∀e:Nat,1≤e→(e:Int)<R.ch.ar→oE g e (R.log.take R.start.toNat)
 bs:0≤R.base→R.since≠0→∃p:aS,[p,((n:Int),R.since)].Sublist (g.ch R.ch.ar.toNat)∧tI g R.ch.ar.toNat p R.base
 b1:-1≤R.base
 la:R.au.last=R.log.length
 se:0≤R.au.bS
theorem pre_some{H H':List aV}(h:H <+: H'){e:Nat}{c:aV}(hc:H[e]?=some c):H'[e]?=some c:=by
 obtain⟨t,rfl⟩:=h
 rw[nL (bP.1 hc).1]
 exact hc
namespace cD
variable {g:Gh} {n:Nat} {R:ay}
theorem view(h:cD g n R):R.ch.ar.toNat<g.H.length∧0≤R.ch.ar∧g.ch R.ch.ar.toNat=R.ch.ms:=by
 obtain⟨e,h1,h2⟩:=h.ch
 rw[h1,ea]
 exact⟨(bP.1 h2).1,by omega,qp h2⟩
theorem mem(h:cD g n R)(hs:R.since≠0):((n:Int),R.since)∈g.ch R.ch.ar.toNat:=by
 rw[h.view.2.2]
 have:=h.since
 rw[this] at hs
 have:=Na hs
 rwa[←h.since,h.id] at this
theorem up{g':Gh}(l:g.Le g')(hv:∀s:Int,g'.V (n,s)=g.V (n,s)∧g'.G (n,s)=g.G (n,s))(h:cD g n R):cD g' n R:=by
 have hw:=h.view
 have hch:=l.ch hw.1
 refine⟨h.id,?_,h.since,fun hs=>?_,fun s hs hn=>?_,h.ix,fun w=>?_,fun b hs=>?_,h.b1,h.la,h.se⟩
 ·obtain⟨e,h1,h2⟩:=h.ch
  exact⟨e,h1,pre_some l.H h2⟩
 ·rw[(hv _).1,(hv _).2];exact h.live hs
 ·rw[(hv _).1] at hs
  rw[hch]
  exact h.rP s hs hn
 ·obtain⟨h1,h2,h3⟩:=h.wh w
  exact⟨h1,h2,fun e g1 g2=>(h3 e g1 g2).up l (m_ _)⟩
 ·obtain⟨p,h1,h2⟩:=h.bs b hs
  exact⟨p,by rw[hch];exact h1,h2.up l⟩
theorem same(h:cD g n R){Q:ay}(h1:Q.id=R.id)(h2:Q.ch=R.ch)(h3:Q.since=R.since)(h4:Q.whole=R.whole)(h5:Q.log=R.log)(h6:Q.start=R.start)(h7:Q.base=R.base)(h8:Q.au.last=R.au.last)(h9:0≤Q.au.bS):cD g n Q:=by
 refine⟨h1.trans h.id,by rw[h2];exact h.ch,by rw[h3,h2,h1];exact h.since,by rw[h3,h2,h5];exact h.live,by rw[h2,h3];exact h.rP,by rw[h5];exact h.ix,by rw[h4,h3,h2,h5,h6];exact h.wh,by rw[h7,h3,h2];exact h.bs,by rw[h7];exact h.b1,by rw[h8,h5];exact h.la,h9⟩
theorem is(h:cD g n R)(hg:ee g){s:Int}(hm:((n:Int),s)∈g.ch R.ch.ar.toNat):s=R.since∧R.since≠0:=by
 have h0:=hg.eR.since hm
 have hp:=hg.eR.pos hm
 have hw:=h.view
 obtain⟨e,h1,h2⟩:=h.ch
 have v:=hg.eR.ok e _ h2 yg
 rw[hw.2.2] at hm
 have:=Hj v hm
 have hs:R.since=s:=by rw[h.since,h.id,this]
 exact⟨hs.symm,by rw[hs];dsimp only at h0;omega⟩
theorem top(h:cD g n R)(hs:R.since≠0):g.X R.ch.ar.toNat (n,R.since)=R.log:=by
 obtain⟨h1,h2⟩:=h.live hs
 rw[Gh.nk yg,h2]
theorem ew(h:cD g n R)(hg:ee g)(w:R.whole=true):EW g (n,R.since):=fun e h1 h2=>by
 obtain⟨w1,w2,w3⟩:=h.wh w
 have hm:=h.mem w1
 have:=hg.eR.since hm
 have hw:=h.view
 dsimp only at this h2
 rw[(h.live w1).2]
 exact(w3 e h1 yg).le (By _ _)
theorem alive(h:cD g n R)(hg:ee g):fK g n (tO R.ch.ar (if R.whole then 1 else 0)) []:=by
 refine⟨fun k=>p8,fun k=>p8,fun k=>p8,fun _=>⟨by have:=h.view;show R.ch.ar<_;omega,fun hi s hs=>?_⟩⟩
 have hi:(if R.whole then (1:Int) else 0)=1:=hi
 have hs:((n:Int),s)∈g.ch R.ch.ar.toNat:=hs
 split at hi
 ·rename_i w
  rw[(h.is hg hs).1]
  exact h.ew hg w
 ·cases hi
theorem base(h:cD g n R)(hg:ee g)(w:R.whole=true):fK g n (zp R.ch.ar R.start) []:=by
 refine⟨fun k=>p8,fun k=>p8,fun _=>⟨by have:=h.view;show R.ch.ar<_;omega,fun s hs=>?_⟩,fun k=>p8⟩
 have hs:((n:Int),s)∈g.ch R.ch.ar.toNat:=hs
 show tI g R.ch.ar.toNat (n,s) R.start
 obtain⟨e1,hne⟩:=h.is hg hs
 obtain⟨w1,w2,w3⟩:=h.wh w
 have hw:=h.view
 rw[e1]
 intro _
 rw[h.top hne]
 exact⟨w2,fun e h1 h2=>w3 e h1 yg⟩
theorem fwd(h:cD g n R)(hg:ee g){i:Int}(h1:1≤i)(h2:i≤R.au.last):fK g n (vf R.ch.ar ((eQ R.log i).getD iI)) []:=by
 refine⟨fun k=>p8,fun _=>⟨by have:=h.view;show R.ch.ar<_;omega,fun s hs=>?_⟩,fun k=>p8,fun k=>p8⟩
 have hs:((n:Int),s)∈g.ch R.ch.ar.toNat:=hs
 show At (g.X R.ch.ar.toNat (n,s)) ((eQ R.log i).getD iI)
 obtain⟨e1,hne⟩:=h.is hg hs
 rw[e1,h.top hne]
 have hl:=h.la
 have hx:R.log[(i-1).toNat]?=some R.log[(i-1).toNat]:=GE yg
 have hi:=h.ix _ _ hx
 have ha:eQ R.log i=some R.log[(i-1).toNat]:=by unfold eQ;rw[if_pos h1];exact hx
 rw[ha]
 exact⟨by show 1≤R.log[(i-1).toNat].index;omega,by
  show R.log[(R.log[(i-1).toNat].index-1).toNat]?=some R.log[(i-1).toNat]
  rw[show(R.log[(i-1).toNat].index-1).toNat=(i-1).toNat by omega];exact hx⟩
theorem zM(h:cD g n R):∀s∈R.fR,fK g n s.2 []:=fun s hs=>by
 unfold ay.fR at hs
 split at hs
 ·cases hs
 ·rw[fe.1 hs];exact od 5 rfl yy
theorem E1(h:cD g n R)(hg:ee g):∀s∈R.iU,fK g n s.2 []:=fun s hs=>by
 unfold ay.iU at hs
 split at hs
 ·rename_i hh
  rw[fe.1 hs];exact h.base hg hh.1
 ·cases hs
theorem told(h:cD g n R)(hg:ee g):∀s∈R.nA,fK g n s.2 []:=fun s hs=>by
 rw[fe.1 hs];exact h.alive hg
end cD
theorem Gf(g:Gh)(n:Nat)(R:ay):∀s∈R.ly,fK g n s.2 []:=fun s hs=>by
 unfold ay.ly at hs
 split at hs
 ·unfold pP at hs
  obtain⟨j,_,rfl⟩:=cy.1 hs
  exact od 2 Z yy
 ·cases hs
theorem CB(g:Gh)(n:Nat)(e:Int)(l:List aB)(r:Int):∀s∈refs e l r,fK g n s.2 []:=fun s hs=>by
 unfold refs at hs
 obtain⟨f,_,rfl⟩:=cy.1 hs
 exact od 3 Z yy
structure eh(g:Gh)(n:Nat)(R:ay)(S:List cm)(g':Gh):Prop where
 gi:ee g'
 le:g.Le g'
 H:g'.H=g.H
 qI:∀k:aS,k.1≠n→g'.V k=g.V k∧g'.G k=g.G k
 nd:cD g' n R
 snd:∀s∈S,fK g' n s.2 []
namespace eh
variable {g g1 g2:Gh} {n:Nat} {R Q:ay} {S T:List cm}
theorem stay(hg:ee g)(h:cD g n R)(hS:∀s∈S,fK g n s.2 []):eh g n R S g:=⟨hg,Gh.Le.refl g,rfl,fun _ _=>⟨rfl,rfl⟩,h,hS⟩
theorem trans(h:eh g n R S g1)(k:eh g1 n Q T g2):eh g n Q (S++T) g2:=⟨k.gi,h.le.trans k.le,k.H.trans h.H,fun x hx=>⟨(k.qI x hx).1.trans (h.qI x hx).1,(k.qI x hx).2.trans (h.qI x hx).2⟩,k.nd,fun s hs=>by
 rcases eP.1 hs with hs | hs
 ·exact(h.snd s hs).up h.gi.pos k.le
 ·exact k.snd s hs⟩
theorem more(h:eh g n R S g1)(hT:∀s∈T,fK g1 n s.2 []):eh g n R (S++T) g1:=h.trans (stay h.gi h.nd hT)
theorem pre(h:eh g n R S g1)(hT:∀s∈T,fK g n s.2 []):eh g n R (T++S) g1:=⟨h.gi,h.le,h.H,h.qI,h.nd,fun s hs=>by
 rcases eP.1 hs with hs | hs
 ·exact(hT s hs).up (by rw[←h.H];exact h.gi.pos) h.le
 ·exact h.snd s hs⟩
theorem to(h:eh g n R S g1){Q:ay}(hq:cD g1 n Q):eh g n Q S g1:=⟨h.gi,h.le,h.H,h.qI,hq,h.snd⟩
end eh
end Cl
namespace Cl
open Go Vg T Api Ch Rep Conf Lg Rd Win
theorem BI(W:bJ)(i:Int):(W.jl i).last=W.last∧(W.jl i).bS=W.bS:=by unfold bJ.jl;split<;>exact⟨rfl,rfl⟩
theorem Dh{c:aV}{n:Int}(h:(bU c n).2=true):(n,(bU c n).1)∈c.ms:=by
 unfold bU at h ⊢
 split at h
 ·rename_i hh
  rw[if_pos hh]
  obtain⟨i,m,h5,h6,h7,h8⟩:=xq hh.2
  have e:c.ms[(placeOf c.ms n).toNat]?=some m:=by rw[h5,ea];exact h7
  dsimp only
  rw[e]
  show(n,m.2)∈c.ms
  rw[←h8]
  exact ME h7
 ·cases h
theorem M_{c:aV}{n:Int}(h:(bU c n).2=false):(bU c n).1=0:=by
 unfold bU at h ⊢
 split at h
 ·cases h
 ·rename_i hh
  rw[if_neg hh]
section
variable {g:Gh} {n:Nat} {R:ay}
theorem cD.finish(h:cD g n R):cD g n R.df:=by
 unfold ay.df
 split
 ·exact h.same Z Z Z Z Z Z Z (BI _ _).1 (by show 0≤(R.au.jl R.au.last).bS;rw[(BI _ _).2];exact h.se)
 ·exact h
theorem cD.u4(h:cD g n R)(hg:ee g):cD g n R.iG:=by
 unfold ay.iG
 split
 rotate_left
 ·exact h
 rename_i hb
 unfold ay.rj ay.qy at hb
 simp only[eG,decide_eq_true_eq,Bool.not_eq_true'] at hb
 obtain⟨b1,b2,b3,b4⟩:=hb
 have:=h.b1
 obtain⟨p,hp,hB⟩:=h.bs yg yg
 obtain⟨h1,h2⟩:=hB yg
 have hP:=hg.P _ p _ hp
 rw[h.top yg] at hP
 have hl:=h.la
 refine⟨h.id,h.ch,h.since,h.live,h.rP,h.ix,fun _=>⟨by show R.since≠0;omega,by show R.au.last.toNat≤R.log.length;omega,fun e g1 g2=>?_⟩,h.bs,h.b1,h.la,h.se⟩
 show oE g e (R.log.take R.au.last.toNat)
 rw[qg yg]
 have g2:(e:Int)<R.ch.ar:=g2
 have:=h2 e g1 yg
 rw[Mi hP yg] at this
 exact this.le (By _ _)
theorem cD.Jo(h:cD g n R)(hg:ee g):∀s∈R.nR,fK g n s.2 []:=fun s hs=>by
 unfold ay.nR at hs
 split at hs
 ·exact(h.u4 hg).E1 hg s hs
 ·cases hs
theorem cD.app(h:cD g n R)(hg:ee g)(hs:R.since≠0){x:bf}(hi:x.index=R.log.length+1)
  (hx:(∀a,¬[a,((n:Int),R.since)].Sublist (g.ch R.ch.ar.toNat))∨(∃(p:aS) (i:Nat),(g.ch R.ch.ar.toNat)[i]?=some p∧(g.ch R.ch.ar.toNat)[i+1]?=some ((n:Int),R.since)∧(g.X R.ch.ar.toNat p)[R.log.length]?=some x)):∃g',eh g n (fH R x) [] g':=by
 have hm:=h.mem hs
 obtain⟨hV,hG⟩:=h.live hs
 rw[←hV] at hm hx
 rw[←hG] at hx
 obtain⟨k1,k2⟩:=hg.app hm hx
 refine⟨_,k1,k2,rfl,fun k hk=>⟨rfl,?_⟩,?_,fun s hs=>by cases hs⟩
 ·show(if k=((n:Int),R.since) then _ else g.G k)=g.G k
  rw[if_neg fun e=>hk mW]
 ·refine⟨h.id,h.ch,h.since,fun _=>⟨hV,?_⟩,h.rP,fun i y hy=>?_,fun w=>?_,fun b hs=>?_,h.b1,?_,h.se⟩
  ·show(if ((n:Int),R.since)=((n:Int),R.since) then g.G ((n:Int),R.since) ++ [x] else _)=R.log ++ [x]
   rw[if_pos rfl,hG]
  ·have hy:(R.log ++ [x])[i]?=some y:=hy
   by_cases hil:i<R.log.length
   ·rw[nL hil] at hy
    exact h.ix i y hy
   ·rw[qX yg] at hy
    by_cases h0:i-R.log.length=0
    ·rw[h0] at hy
     cases hy
     rw[hi];omega
    ·rw[kr PL] at hy
     cases hy
  ·obtain⟨w1,w2,w3⟩:=h.wh w
   refine⟨w1,by show R.start.toNat≤(R.log ++ [x]).length;rw[a8];omega,fun e g1 g2=>?_⟩
   show oE _ e ((R.log ++ [x]).take R.start.toNat)
   rw[List.take_append_of_le_length w2]
   exact(w3 e g1 g2).up k2 (m_ _)
  ·obtain⟨p,g1,g2⟩:=h.bs b hs
   exact⟨p,g1,g2.up k2⟩
  ·show R.au.last+1=((R.log ++ [x]).length:Int)
   rw[a8,h.la];rfl
theorem cD.first(h:cD g n R)(hg:ee g)(hh:R.oa=true):R.since≠0∧∀a,¬[a,((n:Int),R.since)].Sublist (g.ch R.ch.ar.toNat):=by
 unfold ay.oa ay.qy at hh
 simp only[eG,decide_eq_true_eq,beq_iff_eq] at hh
 obtain⟨h1,h2⟩:=hh
 rw[h.id] at h2
 obtain⟨s,hs⟩:=SM yg h2
 refine⟨by omega,fun a hp=>?_⟩
 rw[h.view.2.2] at hp
 have hm:=ME hs
 rw[←h.view.2.2] at hm
 obtain⟨e1,_⟩:=h.is hg hm
 obtain⟨i,j,hij,_,hj⟩:=GC hp
 rw[e1] at hs
 have hnd:=hg.eR.nodup R.ch.ar.toNat
 rw[show gJ g.H R.ch.ar.toNat=R.ch.ms from h.view.2.2] at hnd
 have:=LX hnd hj hs
 omega
end
theorem WY{g:Gh}{n:Nat}{R:ay}(hg:ee g)(h:cD g n R)(hh:R.oa=true)(now:Int):∃g',eh g n (fi R now).1 (fi R now).2.1 g'∧(fi R now).1.oa=true:=by
 have hA:cD g n (mO R now):=h.same rfl rfl rfl rfl rfl rfl rfl rfl h.se
 have hr:=CB g n R.ch.ar (R.aR.aM.dD now) 2
 unfold fi
 split
 ·exact⟨g,eh.stay hg hA hr,hh⟩
 split
 ·have q:cD g n { R with aR:=((R.aR.dX now).dB (eF R now).aL (eF R now).seq (eF R now).bD).2 }:=h.same rfl rfl rfl rfl rfl rfl rfl rfl h.se
  exact⟨g,(eh.stay hg q hr).more (fun s hs=>by rw[fe.1 hs];exact od 3 Z yy),hh⟩
 ·obtain⟨f1,f2⟩:=hA.first hg hh
  obtain⟨g',k⟩:=hA.app hg f1 (x:=e7 R now) rfl (.inl f2)
  have z:=(k.to k.nd.finish).more (Gf g' n (fH (mO R now) (e7 R now)))
  refine⟨g',z.pre hr,?_⟩
  have e:∀Q:ay,Q.df.oa=Q.oa:=fun Q=>by unfold ay.df;split<;>rfl
  rw[e];exact hh
theorem K_(now:Int){n:Nat}:∀(k:Nat) {g:Gh} {R:ay},ee g→cD g n R→R.oa=true→∃g',eh g n (jc now k R).1 (jc now k R).2 g'
 | 0,g,R,hg,h,_=>⟨g,eh.stay hg h fun s hs=>by cases hs⟩
 | k+1,g,R,hg,h,hh=>by
  unfold jc
  split
  ·obtain⟨g1,t1,h1⟩:=WY hg h hh now
   split
   ·obtain⟨g2,t2⟩:=K_ now k t1.gi t1.nd h1
    exact⟨g2,t1.trans t2⟩
   ·exact⟨g1,t1⟩
  ·exact⟨g,eh.stay hg h fun s hs=>by cases hs⟩
theorem Vw{g:Gh}{n:Nat}{R:ay}(hg:ee g)(h:cD g n R):∀s∈(ui R).2,fK g n s.2 []:=by
 have key:∀k,k≤iw R→∀s∈(dR R k).2,fK g n s.2 []:=by
  intro k
  induction k with
  | zero=>intro _ s hs;cases hs
  | succ k ih=>
   intro hk s hs
   have hs:s∈(dR R k).2 ++ [(R.dX,vf R.ch.ar ((eQ R.log ((dR R k).1.bS+1)).getD iI))]:=hs
   rcases eP.1 hs with hs | hs
   ·exact ih yg s hs
   ·rw[fe.1 hs,xp R k yg]
    have hse:=h.se
    unfold iw at hk
    exact h.fwd hg (by show 1≤R.au.bS+k+1;omega) (by show R.au.bS+k+1≤R.au.last;omega)
 exact key _ (NR _)
theorem Xr{g:Gh}{n:Nat}{R:ay}(hg:ee g)(h:cD g n R)(now:Int):∃g',eh g n (iA R now).1 (iA R now).2 g':=by
 have hE:cD g n (iX R now):=h.same rfl rfl rfl rfl rfl rfl rfl rfl h.se
 have hr:∀s∈iY R now,fK g n s.2 []:=CB g n R.ch.ar _ 2
 have h2:∃g',eh g n (step2 R now).1 (step2 R now).2 g':=by
  unfold Rep.step2
  split
  ·rename_i hs
   unfold ur at hs
   simp only[eG] at hs
   exact K_ now 65 hg hE hs.1
  ·exact⟨g,eh.stay hg hE fun s hs=>by cases hs⟩
 obtain⟨g',t⟩:=h2
 refine⟨g',?_⟩
 have h3:eh g n (iz R now).1 ((step2 R now).2++(iz R now).2) g':=by
  unfold Rep.iz
  split
  ·have e:=xp (step2 R now).1 (iw (step2 R now).1) (NR _)
   refine(t.to ?_).more (Vw t.gi t.nd)
   refine t.nd.same Z Z Z Z Z Z Z ?_ ?_
   ·show(dR (step2 R now).1 (iw (step2 R now).1)).1.last=_
    rw[e]
   ·show 0≤(dR (step2 R now).1 (iw (step2 R now).1)).1.bS
    rw[e]
    have:=t.nd.se
    show 0≤(step2 R now).1.au.bS+_
    omega
  ·exact t.more fun s hs=>by cases hs
 have:=h3.pre hr
 show eh g n (iz R now).1 (iY R now++(step2 R now).2++(iz R now).2) g'
 rwa[ed]
theorem aaK{g:Gh}{n:Nat}{R:ay}(hg:ee g)(h:cD g n R):eh g n (jQ R).1 (jQ R).2 g:=by
 have hl:=h.la
 have h1:cD g n (eK R):=by
  unfold eK
  split
  ·exact h.same Z Z Z Z Z Z Z Z (by show 0≤min (max R.dQ 0) R.au.last;omega)
  ·exact h
 refine eh.stay hg h1 fun s hs=>?_
 have hs:s∈R.nA++R.fR++R.iU++_++_:=hs
 simp only[eP] at hs
 rcases hs with (((hs | hs) | hs) | hs) | hs
 ·exact h.told hg s hs
 ·exact h.zM s hs
 ·exact h.E1 hg s hs
 ·split at hs
  ·rw[fe.1 hs];exact od 9 rfl yy
  ·cases hs
 ·split at hs
  ·rw[fe.1 hs];exact od 12 rfl yy
  ·cases hs
theorem Kd{g:Gh}(hg:ee g){n:Nat}{R:ay}{c:aV}{e v0:Nat}(hid:R.id=n)(he:g.H[e]?=some c)(h1:1≤e)(hv:v0≤e)
  (hl:R.since≠0→g.V (n,R.since)=v0∧g.G (n,R.since)=R.log∧R.since≤v0) (hix:∀(i:Nat) (x:bf),R.log[i]?=some x→x.index=i+1)
  (hw:R.whole=true→R.since≠0∧∀e':Nat,1≤e'→e'<v0→oE g e' (R.log.take R.start.toNat))
  (h0:∀s:Int,g.V (n,s)≠0→s≤e) (hn:∀s:Int,((n:Int),s)∈g.ch e→s≠R.since→g.V (n,s)=0) (la:R.au.last=R.log.length):
  ∃g',eh g n (pD R c).1 (pD R c).2 g':=by
 have v:=hg.eR.ok e c he h1
 have ve:=hg.eR.ep e c he
 have hch:g.ch e=c.ms:=qp he
 suffices key:∃g',ee g'∧g.Le g'∧g'.H=g.H∧(∀k:aS,k.1≠n→g'.V k=g.V k∧g'.G k=g.G k)∧cD g' n (dP R c) by
  obtain⟨g',k1,k2,k3,k4,k5⟩:=key
  refine⟨g',k1,k2,k3,k4,k5.finish,fun s hs=>?_⟩
  have hs:s∈ry R c++(dP R c).ly++(dP R c).df.fR++(dP R c).df.iU++(dP R c).df.nA:=hs
  unfold ry at hs
  simp only[eP] at hs
  rcases hs with ((((hs | hs) | hs) | hs) | hs) | hs
  ·exact CB g' n _ _ _ s hs
  ·exact CB g' n _ _ _ s hs
  ·exact Gf g' n _ s hs
  ·exact k5.finish.zM s hs
  ·exact k5.finish.E1 k1 s hs
  ·exact k5.finish.told k1 s hs
 have e5:dP R c={ cE R c with start:=if (cE R c).whole then (cE R c).au.last else (cE R c).start }:=by
  unfold dP
  split<;>rfl
 have hid':R.id=n:=hid
 have hse:∀g':Gh,0≤(iH R c).au.last:=fun _=>by
  show 0≤(if gf R c then bJ.new R.cap else R.au).last
  split
  ·exact e_ 0
  ·omega
 rw[e5]
 cases hin:(bU c n).2 with
 | false=>
  have hz:=M_ hin
  have hnl:gf R c=false:=by unfold gf;rw[hid,hin];rfl
  have hnw:nC R c=true:=by unfold nC;rw[hid,hin];rfl
  have w0:(cE R c).whole=false:=by
   show(if nC R c then false else R.whole)=false
   rw[hnw];rfl
  have l0:(cE R c).log=R.log:=by
   show(if gf R c then [] else R.log)=R.log
   rw[hnl];rfl
  have s0:(cE R c).since=0:=by
   show(bU c R.id).1=0
   rw[hid,hz]
  refine⟨g,hg,Gh.Le.refl g,Z,fun _ _=>⟨rfl,Z⟩,hid,⟨e,ve,he⟩,Z,fun hs=>absurd s0 hs,fun s hs hne=>⟨?_,?_⟩,?_,fun w=>?_,fun b=>absurd b IF,e_ _,?_,?_⟩
  ·show s≤c.ar
   have:=h0 s hs
   omega
  ·show((n:Int),s)∉g.ch c.ar.toNat
   rw[ve,ea,hch]
   exact W8 v hz s
  ·show ∀(i:Nat) (x:bf),(cE R c).log[i]?=some x→_
   rw[l0];exact hix
  ·have w:(cE R c).whole=true:=w
   rw[w0] at w;cases w
  ·show(if gf R c then bJ.new R.cap else R.au).last=((cE R c).log.length:Int)
   rw[l0,hnl];exact la
  ·exact hse g
 | true=>
  have hm:=Dh hin
  obtain⟨s,hse0⟩:∃s,(bU c n).1=s:=⟨_,rfl⟩
  rw[hse0] at hm
  have hm':((n:Int),s)∈g.ch e:=by rw[hch];exact hm
  have hs1:=hg.eR.since hm'
  dsimp only at hs1
  have s0:(cE R c).since=s:=by
   show(bU c R.id).1=s
   rw[hid,hse0]
  have hVe:g.V (n,s)≤e:=by
   by_cases hh:s=R.since
   ·rw[hh,(hl yg).1];exact hv
   ·rw[hn s hm' hh];exact bH _
  obtain⟨k1,k2⟩:=hg.aj hVe hm'
  have hVs:(g.aj ((n:Int),s) e).V (n,s)=e:=by
   show(if ((n:Int),s)=((n:Int),s) then e else _)=e
   rw[if_pos rfl]
  have qI:∀k:aS,k≠((n:Int),s)→(g.aj ((n:Int),s) e).V k=g.V k∧(g.aj ((n:Int),s) e).G k=g.G k:=fun k hk=>by
   refine⟨?_,Z⟩
   show(if k=((n:Int),s) then e else g.V k)=g.V k
   rw[if_neg hk]
  have rP:∀s':Int,(g.aj ((n:Int),s) e).V (n,s')≠0→s'≠s→s'≤c.ar∧((n:Int),s')∉g.ch c.ar.toNat:=fun s' hs' hne=>by
   rw[(qI (n,s') fun e0=>hne (congrArg Prod.snd e0)).1] at hs'
   refine⟨by have:=h0 s' hs';omega,fun hm2=>hne ?_⟩
   rw[ve,ea] at hm2
   exact hg.eR.one hm2 hm'
  by_cases hh:s=R.since
  ·have hnl:gf R c=false:=by unfold gf;rw[hid,hse0,hh];simp
   have hnw:nC R c=false:=by unfold nC;rw[hid,hse0,hin,hh];simp
   have w0:(cE R c).whole=R.whole:=by
    show(if nC R c then false else R.whole)=R.whole
    rw[hnw];rfl
   have l0:(cE R c).log=R.log:=by
    show(if gf R c then [] else R.log)=R.log
    rw[hnl];rfl
   have n0:(cE R c).au.last=R.log.length:=by
    show(if gf R c then bJ.new R.cap else R.au).last=_
    rw[hnl];exact la
   obtain⟨l1,l2,l3⟩:=hl yg
   refine⟨_,k1,k2,Z,fun k hk=>qI k fun e0=>hk (by rw[e0]),hid,⟨e,ve,he⟩,Z,fun _=>⟨?_,?_⟩,?_,?_,fun w=>?_,fun b=>absurd b IF,e_ _,?_,?_⟩
   ·show(g.aj ((n:Int),s) e).V (n,(cE R c).since)=c.ar.toNat
    rw[s0,hVs,ve,ea]
   ·show g.G (n,(cE R c).since)=(cE R c).log
    rw[s0,l0,hh,l2]
   ·show ∀s':Int,(g.aj ((n:Int),s) e).V (n,s')≠0→s'≠(cE R c).since→_
    rw[s0];exact rP
   ·show ∀(i:Nat) (x:bf),(cE R c).log[i]?=some x→_
    rw[l0];exact hix
   ·have w:(cE R c).whole=true:=w
    rw[w0] at w
    obtain⟨_,w2⟩:=hw w
    have est:(if (cE R c).whole then (cE R c).au.last else (cE R c).start)=(R.log.length:Int):=by rw[w0,w,if_pos rfl,n0]
    refine⟨by show(cE R c).since≠0;rw[s0];omega,?_,fun e' g1 g2=>?_⟩
    ·show(if (cE R c).whole then (cE R c).au.last else (cE R c).start).toNat≤(cE R c).log.length
     rw[est,l0];omega
    ·show oE _ e' ((cE R c).log.take (if (cE R c).whole then (cE R c).au.last else (cE R c).start).toNat)
     rw[est,l0,ea,iT]
     have g2:(e':Int)<c.ar:=g2
     by_cases hlt:e'<v0
     ·exact(w2 e' g1 hlt).up k2 (By _ _)
     ·refine⟨((n:Int),s),?_,by rw[hVs];omega,?_⟩
      ·exact hg.eR.rK (NR _) (by omega:e'≤e) fB hm'
      ·rw[IY hVe,Gh.nk (by rw[hh,l1];omega),hh,l2]
       exact m_ _
   ·show(cE R c).au.last=((cE R c).log.length:Int)
    rw[n0,l0]
   ·exact hse g
  ·have hnl:gf R c=true:=by unfold gf;rw[hid,hse0,hin];simp[hh]
   have hnw:nC R c=true:=by unfold nC;rw[hid,hse0,hin];simp[hh]
   have w0:(cE R c).whole=false:=by
    show(if nC R c then false else R.whole)=false
    rw[hnw];rfl
   have l0:(cE R c).log=[]:=by
    show(if gf R c then [] else R.log)=[]
    rw[hnl];rfl
   refine⟨_,k1,k2,Z,fun k hk=>qI k fun e0=>hk (by rw[e0]),hid,⟨e,ve,he⟩,Z,fun _=>⟨?_,?_⟩,?_,?_,fun w=>?_,fun b=>absurd b IF,e_ _,?_,?_⟩
   ·show(g.aj ((n:Int),s) e).V (n,(cE R c).since)=c.ar.toNat
    rw[s0,hVs,ve,ea]
   ·show g.G (n,(cE R c).since)=(cE R c).log
    rw[s0,l0]
    exact hg.nil _ (hn s hm' hh)
   ·show ∀s':Int,(g.aj ((n:Int),s) e).V (n,s')≠0→s'≠(cE R c).since→_
    rw[s0];exact rP
   ·show ∀(i:Nat) (x:bf),(cE R c).log[i]?=some x→_
    rw[l0];intro i x hx;cases hx
   ·have w:(cE R c).whole=true:=w
    rw[w0] at w;cases w
   ·show(if gf R c then bJ.new R.cap else R.au).last=((cE R c).log.length:Int)
    rw[l0,hnl];rfl
   ·exact hse g
end Cl
namespace Cl
open Go Vg T Api Ch Rep Conf Lg Rd Win Kv Adm
section
variable {g:Gh} {n:Nat} {R:ay}
theorem cD.ahead(h:cD g n R)(hg:ee g){from_:Int}(hp:oP from_ R.mR=true):R.since≠0∧∃(i:Nat) (s':Int),(g.ch R.ch.ar.toNat)[i]?=some (from_,s')∧(g.ch R.ch.ar.toNat)[i+1]?=some ((n:Int),R.since):=by
 unfold oP at hp
 simp only[eG,decide_eq_true_eq,beq_iff_eq] at hp
 obtain⟨h1,h2⟩:=hp
 unfold ay.mR at h1 h2
 obtain⟨i,s,s',h3,h4⟩:=V9 h1
 rw[←h2] at h3
 rw[h.id] at h4
 rw[←h.view.2.2] at h3 h4
 obtain⟨e1,e2⟩:=h.is hg (ME h4)
 rw[e1] at h4
 exact⟨e2,i,s',h3,h4⟩
theorem Sc(h:cD g n R)(hg:ee g){from_:Int}(hp:oP from_ R.mR=true){x:bf}(hx:∀s:Int,(from_,s)∈g.ch R.ch.ar.toNat→At (g.X R.ch.ar.toNat (from_,s)) x):∃g',eh g n (mn R x).1 (mn R x).2 g':=by
 unfold mn
 split
 ·rename_i hh
  obtain⟨h1,i,s',h3,h4⟩:=h.ahead hg hp
  have ha:=hx s' (ME h3)
  have hb:=hh.1
  unfold sN at hb
  simp only[eG,beq_iff_eq] at hb
  have hi:x.index=R.log.length+1:=by rw[hb.1,h.la]
  obtain⟨g',k⟩:=h.app hg h1 hi (.inr ⟨(from_,s'),i,h3,h4,by
   have:=ha.2
   rw[hi] at this
   rwa[show((R.log.length:Int)+1-1).toNat=R.log.length by omega] at this⟩)
  have f:=k.nd.finish
  refine⟨g',(((k.to (f.u4 k.gi)).more (Gf g' n (fH R x))).more (f.Jo k.gi)).more ((f.u4 k.gi).zM)⟩
 ·exact⟨g,eh.stay hg h h.zM⟩
theorem Qa(h:cD g n R)(hg:ee g)(f:aB):∃g',eh g n (kB R f).1 (kB R f).2 g':=by
 have hl:=h.la
 have h1:cD g n (hZ R f):=by
  unfold Rep.hZ Rep.gu
  dsimp only
  split
  ·exact h.same Z Z Z Z Z Z Z Z h.se
  ·exact h.same Z Z Z Z Z Z Z Z (by show 0≤min (max f.dQ 0) R.au.last;omega)
 have h2:cD g n { hZ R f with au:=(hZ R f).au.jl f.index }:=h1.same rfl rfl rfl rfl rfl rfl rfl (BI _ _).1 (by rw[(BI _ _).2];exact h1.se)
 refine⟨g,eh.stay hg h2 fun s hs=>?_⟩
 have hs:s∈(if (hZ R f).au.oJ f.index then ay.fR { hZ R f with au:=(hZ R f).au.jl f.index } else []):=hs
 split at hs
 ·exact h2.zM s hs
 ·cases hs
theorem Qu(h:cD g n R)(hg:ee g){from_:Int}(hp:oP from_ R.mR=true){i:Int}(hx:∀s:Int,(from_,s)∈g.ch R.ch.ar.toNat→tI g R.ch.ar.toNat (from_,s) i):eh g n (nq R i).iG (nq R i).nR g:=by
 obtain⟨h1,j,s',h3,h4⟩:=h.ahead hg hp
 have hb:cD g n (nq R i):=by
  refine⟨h.id,h.ch,h.since,h.live,h.rP,h.ix,h.wh,fun b _=>⟨(from_,s'),vw h3 h4 yg,?_⟩,by show -1≤max i (-1);omega,h.la,h.se⟩
  have b:0≤max i (-1):=b
  show tI g R.ch.ar.toNat (from_,s') (max i (-1))
  rw[show max i (-1)=i by omega]
  exact hx s' (ME h3)
 exact eh.stay hg (hb.u4 hg) (hb.Jo hg)
theorem aaz(h:cD g n R)(hg:ee g)(from_:Int){f:aB}{ms:List aS}(hM:fK g from_ f ms)(now:Int):∃g',eh g n (cU R from_ f ms now).1 (cU R from_ f ms now).2 g':=by
 have z:eh g n R [] g:=eh.stay hg h fun s hs=>by cases hs
 have kn:∀{f:aB},R.iZ f=true→f.ar.toNat=R.ch.ar.toNat:=fun {f} hk=>by
  unfold ay.iZ at hk
  rw[beq_iff_eq.1 hk]
 unfold cU
 split
 ·split
  ·exact⟨g,z⟩
  split
  ·exact⟨g,z⟩
  split
  ·unfold oY
   split
   ·exact⟨g,eh.stay hg h fun s hs=>by rw[fe.1 hs];exact od 3 Z yy⟩
   ·have q:cD g n { R with aQ:=R.aQ.put f (nw (bN R.log).1 f.op.key R.log.length) }:=h.same rfl rfl rfl rfl rfl rfl rfl rfl h.se
    exact⟨g,eh.stay hg q fun s hs=>by rw[fe.1 hs];exact od 9 Z yy⟩
  ·have q:∀A:aO,cD g n { R with aR:=A }:=fun A=>h.same rfl rfl rfl rfl rfl rfl rfl rfl h.se
   unfold o9
   split
   ·exact⟨g,eh.stay hg (q _) fun s hs=>by rw[fe.1 hs];exact od 2 Z yy⟩
   split
   ·exact⟨g,eh.stay hg (q _) fun s hs=>by cases hs⟩
   split
   ·exact Pc
   ·exact Pc
 split
 ·rename_i k8
  split
  ·rename_i hh
   obtain⟨⟨h16,hce⟩,hlt⟩:=hh
   obtain⟨e,he1,he2⟩:=hM.k8 k8 h16
   have hw:=h.view
   have hv0:R.ch.ar.toNat≤e:=by omega
   have hsv:R.since≠0→R.since≤R.ch.ar:=fun hs=>by
    have:=hg.eR.since (h.mem hs)
    dsimp only at this
    omega
   refine Kd hg h.id he2 yg hv0 (fun hs=>⟨(h.live hs).1,(h.live hs).2,by have:=hsv hs;omega⟩) h.ix (fun w=>?_) (fun s hs=>?_) (fun s hm hne=>?_) h.la
   ·obtain⟨w1,w2,w3⟩:=h.wh w
    exact⟨w1,fun e' g1 g2=>w3 e' g1 yg⟩
   ·by_cases hh:s=R.since
    ·by_cases h0:R.since=0
     ·omega
     ·have:=hsv h0;omega
    ·have:=(h.rP s hs hh).1
     omega
   ·by_cases hz:g.V (n,s)=0
    ·exact hz
    ·obtain⟨p1,p2⟩:=h.rP s hz hne
     exact absurd (hg.eR.rK (NR _) hv0 fB hm) p2
  ·exact⟨g,z⟩
 split
 ·rename_i k4
  split
  ·rename_i hh
   have m:=(hM.k4 k4).2
   rw[kn hh.1] at m
   exact Sc h hg hh.2 m
  ·exact⟨g,z⟩
 split
 ·split
  ·exact Qa h hg f
  ·exact⟨g,z⟩
 split
 ·rename_i k6
  split
  ·rename_i hh
   have m:=(hM.k6 k6).2
   rw[kn hh.1] at m
   exact⟨g,Qu h hg hh.2 m⟩
  ·exact⟨g,z⟩
 split
 ·split
  ·have q:cD g n (uw R f.index):=h.same rfl rfl rfl rfl rfl rfl rfl rfl h.se
   refine⟨g,eh.stay hg q fun s hs=>?_⟩
   have hs:s∈(R.aQ.l.filter fun y=>!o8 f.index y).map fun y=>(32+y.f.aL,ot y.f.aL y.f.seq y.f.bD y.r):=hs
   obtain⟨y,_,rfl⟩:=cy.1 hs
   exact od 2 Z yy
  ·exact⟨g,z⟩
 ·exact⟨g,z⟩
end
structure gq(g:Gh)(M:aI):Prop where
 gi:ee g
 top:g.H.getLast?=some M.ch
 kw:∀k∈M.ch.ms,M.r4 k.1=true→EW g k
 z:∃k∈M.ch.ms,EW g k
structure Ext(g g':Gh):Prop where
 le:g.Le g'
 V:∀k,g'.V k=g.V k
 G:∀k,g'.G k=g.G k
theorem Ext.refl(g:Gh):Ext g g:=⟨Gh.Le.refl g,fun _=>rfl,fun _=>rfl⟩
theorem Ext.trans{a b c:Gh}(h:Ext a b)(k:Ext b c):Ext a c:=⟨h.le.trans k.le,fun x=>(k.V x).trans (h.V x),fun x=>(k.G x).trans (h.G x)⟩
def EO(g:Gh)(S:List dJ):Prop:=∀s∈S,fK g 16 s.2.1 s.2.2
structure sD(g:Gh)(M:aI)(S:List dJ)(g':Gh):Prop where
 i:gq g' M
 x:Ext g g'
 s:EO g' S
namespace gq
variable {g:Gh} {M:aI}
theorem at_(h:gq g M):∃e:Nat,e+1=g.H.length∧g.H[e]?=some M.ch∧M.ch.ar=e∧g.ch e=M.ch.ms:=by
 have hp:=h.gi.pos
 have ht:=h.top
 rw[yW] at ht
 exact⟨g.H.length-1,by omega,ht,h.gi.eR.ep _ _ ht,qp ht⟩
theorem cfg(h:gq g M)(to:Int):fK g 16 (gP M.ch to).2.1 (gP M.ch to).2.2:=by
 obtain⟨e,h1,h2,h3,_⟩:=h.at_
 exact⟨fun _ _=>⟨e,h3,h2⟩,fun k=>p8,fun k=>p8,fun k=>p8⟩
theorem all(h:gq g M):EO g M.all:=fun s hs=>by
 obtain⟨n,_,rfl⟩:=cy.1 hs
 exact h.cfg n
theorem stay(h:gq g M){S:List dJ}(hS:EO g S):∃g',sD g M S g':=⟨g,h,Ext.refl g,hS⟩
theorem none(h:gq g M):∃g',sD g M [] g':=h.stay fun s hs=>by cases hs
theorem one(h:gq g M)(to:Int):∃g',sD g M [gP M.ch to] g':=h.stay fun s hs=>by rw[fe.1 hs];exact h.cfg to
theorem to(h:gq g M){Q:aI}(hn:sF M.ch Q.ch)(hk:∀k∈Q.ch.ms,Q.r4 k.1=true→k∈M.ch.ms∧M.r4 k.1=true)(hz:∃k∈Q.ch.ms,EW g k):gq (g.ext Q.ch) Q∧Ext g (g.ext Q.ch):=by
 obtain⟨k1,k2⟩:=h.gi.ext h.top hn
 refine⟨⟨k1,by show(g.H ++ [Q.ch]).getLast?=_;simp,fun k hk1 hk2=>?_,?_⟩,k2,fun _=>rfl,fun _=>rfl⟩
 ·obtain⟨q1,q2⟩:=hk k hk1 hk2
  exact(h.kw k q1 q2).up k2
 ·obtain⟨k,q1,q2⟩:=hz
  exact⟨k,q1,q2.up k2⟩
theorem M9{l:List Bool}{n m:Int}(h:((l.set n.toNat false)[m.toNat]?).getD false=true):(l[m.toNat]?).getD false=true:=by
 rw[wi] at h
 split at h
 ·split at h<;>cases h
 ·exact h
theorem gone(h:gq g M){n:Int}(h1:M.mu n=true)(h2:M.nD n=0):gq (g.ext (M.gone n).ch) (M.gone n)∧Ext g (g.ext (M.gone n).ch):=by
 have hn:sF M.ch (M.gone n).ch:=U2 h2
 obtain⟨_,_,h4⟩:=AU h2
 have hms:(M.gone n).ch.ms=M.ch.ms.eraseIdx (placeOf M.ch.ms n).toNat:=by
  show(jg M.ch n).1.ms=_
  rw[h4]
 refine h.to hn (fun k k1 k2=>?_) ?_
 ·rw[hms] at k1
  exact⟨(EJ ..).subset k1,M9 k2⟩
 ·unfold aI.mu at h1
  obtain⟨x,hx,hb⟩:=List.any_eq_true.1 h1
  simp only[eG,Bool.not_eq_true',decide_eq_false_iff_not] at hb
  refine⟨x,?_,h.kw x hx hb.2⟩
  rw[hms,List.mem_eraseIdx_iff_getElem?]
  obtain⟨j,hj⟩:=nM hx
  refine⟨j,fun e=>hb.1 ?_,hj⟩
  obtain⟨i,m,h5,h6,h7,h8⟩:=xq (ms:=M.ch.ms) (n:=n) (Ct (by assumption)).1
  rw[h5,ea] at e
  rw[e,h7] at hj
  cases hj
  exact h8
theorem Kz(h:gq g M){n:Int}(h1:M.mu n=true)(h2:M.nD n=0):∃g',sD g (M.gone n) (M.gone n).all g':=by
 obtain⟨k1,k2⟩:=h.gone h1 h2
 exact⟨_,k1,k2,k1.all⟩
theorem take(h:gq g M)(from_:Int){f:aB}{ms:List aS}(hM:fK g from_ f ms)(now:Int):∃g',sD g (M.take from_ f now).1 (M.take from_ f now).2 g':=by
 have hd:gq g (M.ic from_ now):=⟨h.gi,h.top,h.kw,h.z⟩
 unfold aI.take
 split
 ·exact h.one from_
 split
 ·exact h.none
 split
 ·rename_i lG
  split
  ·exact hd.one from_
  split
  ·rename_i he hh
   have he:f.ar=M.ch.ar:=by omega
   refine gq.none ⟨h.gi,h.top,fun k k1 k2=>?_,h.z⟩
   have k2:(((M.whole.set from_.toNat true)[k.1.toNat]?).getD false)=true:=k2
   have k1:k∈M.ch.ms:=k1
   by_cases hk:k.1=from_
   ·obtain⟨e,_,_,q3,q4⟩:=h.at_
    have:=(hM.lG lG).2 hh.1 k.2
    rw[he,q3,ea,q4,←hk] at this
    exact this k1
   ·have hne:from_.toNat≠k.1.toNat:=by
     have hnb:=hh.2
     intro e0
     have hm:=Dh hnb
     obtain⟨e,_,q2,q3,q4⟩:=h.at_
     rw[←q4] at hm k1
     have a1:=h.gi.eR.node hm
     have a2:=h.gi.eR.node k1
     dsimp only at a1
     omega
    rw[lU hne] at k2
    exact h.kw k k1 k2
  ·exact hd.none
 split
 ·split
  ·exact h.one from_
  split
  ·exact h.stay fun s hs=>by rw[fe.1 hs];exact od 10 Z yy
  ·exact h.none
 split
 ·split
  ·rename_i hh;exact h.Kz hh.2.1 hh.2.2
  ·exact h.none
 ·exact h.none
theorem watch(now:Int):∀(l:List aS) (x:aI×Bool) {g:Gh},gq g x.1→∃g',gq g' (aI.watch now l x).1∧Ext g g'
 | [],x,g,h=>⟨g,h,Ext.refl g⟩
 | y::l,x,g,h=>by
  rw[aI.watch]
  split
  ·rename_i hl
   unfold aI.late at hl
   simp only[eG,decide_eq_true_eq] at hl
   obtain⟨k1,k2⟩:=h.gone hl.2.1 hl.2.2
   obtain⟨g',k3,k4⟩:=watch now l (x.1.gone y.1,true) k1
   exact⟨g',k3,k2.trans k4⟩
  ·exact watch now l x h
theorem tick(h:gq g M)(now:Int):∃g',sD g (M.tick now).1 (M.tick now).2 g':=by
 obtain⟨g',k1,k2⟩:=watch (bY now) M.ch.ms (M,false) h
 refine⟨g',k1,k2,fun s hs=>?_⟩
 have hs:s∈(if (aI.watch (bY now) M.ch.ms (M,false)).2 then (aI.watch (bY now) M.ch.ms (M,false)).1.all else []):=hs
 split at hs
 ·exact k1.all s hs
 ·cases hs
theorem fI(h:gq g M)(n:Int):∃g',sD g (M.fI n).1 (M.fI n).2.1 g':=by
 unfold aI.fI
 split
 ·exact h.none
 split
 ·exact h.none
 ·rename_i h1 h2
  refine h.Kz ?_ yg
  unfold aI.qA at h1
  split at h1
  ·exact absurd yy h1
  split at h1
  ·exact absurd yy h1
  ·rename_i hh;simpa using hh
theorem drain(h:gq g M)(n:Int):∃g',sD g (M.drain n).1 (M.drain n).2.1 g':=by
 unfold aI.drain
 split
 ·exact h.none
 split
 ·exact h.none
 ·rename_i h1 h2
  have h2:(gR M.ch n).2=0:=by omega
  have hn:sF M.ch (M.mj n).ch:=U0 h2
  obtain⟨_,_,_,h4⟩:=B0 h2
  have hms:(M.mj n).ch.ms=M.ch.ms:=by
   show(gR M.ch n).1.ms=_
   rw[h4]
  obtain⟨k1,k2⟩:=h.to hn (fun k k1 k2=>⟨by rw[←hms];exact k1,k2⟩) (by rw[hms];exact h.z)
  exact⟨_,k1,k2,k1.all⟩
theorem iJ(h:gq g M){n:Int}(now:Int)(h2:(fy M.ch n).2=0):gq (g.ext (M.iJ n now).ch) (M.iJ n now)∧Ext g (g.ext (M.iJ n now).ch)∧∀s:Int,(n,s)∈(M.iJ n now).ch.ms→g.V (n,s)=0:=by
 have hn:sF M.ch (M.iJ n now).ch:=U1 h2
 obtain⟨_,_,h3,h4⟩:=DO h2
 obtain⟨e,q1,q2,q3,q4⟩:=h.at_
 have hms:(M.iJ n now).ch.ms=M.ch.ms ++ [(n,M.ch.ar+1)]:=by
  show(fy M.ch n).1.ms=_
  rw[h4]
 obtain⟨k1,k2⟩:=h.to hn (fun k k1 k2=>by
  rw[hms] at k1
  rcases eP.1 k1 with k1 | k1
  ·exact⟨k1,M9 k2⟩
  ·rw[fe.1 k1] at k2
   have k2:(((M.whole.set n.toNat false)[n.toNat]?).getD false)=true:=k2
   rw[wi] at k2
   split at k2
   ·split at k2<;>cases k2
   ·rename_i hh;exact absurd rfl hh) (by
  obtain⟨k,a1,a2⟩:=h.z
  exact⟨k,by rw[hms];exact eP.2 (.inl a1),a2⟩)
 refine⟨k1,k2,fun s hs=>?_⟩
 rw[hms] at hs
 rcases eP.1 hs with hs | hs
 ·exact absurd (cy.2 ⟨_,hs,Z⟩) (Am.1 h3)
 ·have:=congrArg Prod.snd (fe.1 hs)
  dsimp only at this
  exact h.gi.xO _ fB
end gq
end Cl
namespace Cl
open Go Vg T Api Ch Rep Conf Lg Rd
attribute [local irreducible] VO VC VA
abbrev jU:TypeId:=38
def dU.cells(s:dU):List Value:=[.int .i64 s.kind,.int .i64 s.a,.int .i64 s.b,.int .i64 s.c]++s.op.cells
theorem Rq(C:az)(c:Int):C.dead c=if 1099511627776<C.now+(if 1099511627776<(if c<0 then 0 else c) then 1099511627776 else (if c<0 then 0 else c)) then 1099511627776 else C.now+(if 1099511627776<(if c<0 then 0 else c) then 1099511627776 else (if c<0 then 0 else c)):=by
 unfold az.dead
 repeat' split
 all_goals omega
section
variable {p:Nat} {C:az} {b e:Nat}
theorem aa1(ok:C.Ok b e)(hb:b<100000)(he:e<1000000)(s:dU):ax Tryz.prog 49 [.pointer (some ⟨p,0,none⟩),.agg s.cells.toArray] Fr w [ek p C]
  (fun v L=>v=.int .i64 (C.call s).2∧L=[ek p (C.call s).1]):=by
 obtain⟨kd,sa,sx,sc,op⟩:=s
 have hcl:=ok.d_
 have hev:=ok.ev
 have hn0:=ok.n0
 have hn1:=ok.n1
 refine TF 74 Tryz.func49 Z yp aC Z Z ?_
 refine CS (CG (VG (VB (vs:=(⟨kd,sa,sx,sc,op⟩:dU).cells) Z fun sb=>VO.bz 1 Z (bd.tQ p C) ?_)))
 rintro y fit
 have hln:=wK fit
 refine VO.aj (L':=pt sb (⟨kd,sa,sx,sc,op⟩:dU).cells jU::fp p C y) (IP 10 Z aa.refl).aj ?_
 refine ae ?_
 refine CD (ts 0 13 .nil) yp yr ?_
 refine fj ?_
 by_cases h0:sa<0
 ·have hc:C.eS sa=none:=by unfold az.eS;rw[if_pos h0]
  have hr:C.call ⟨kd,sa,sx,sc,op⟩=(C,4):=by unfold az.call;dsimp only;rw[hc]
  refine AG (AY 12 true Z (DT h0) ?_)
  refine ko ?_
  refine lR ?_
  refine ae ?_
  exact Pe
 obtain⟨k,rfl⟩:∃k:Nat,sa=k:=⟨sa.toNat,by omega⟩
 refine AG (AY 12 false Z (DF h0) ?_)
 refine fj ?_
 refine CP (p:=(y.cr.length:Int)≤k) Z (fun h1=>?_) (fun h1=>CK ?_)
 ·have hc:C.eS (k:Int)=none:=by
   unfold az.eS
   rw[if_neg h0,ea,kr yg]
  have hr:C.call ⟨kd,k,sx,sc,op⟩=(C,4):=by unfold az.call;dsimp only;rw[hc]
  refine ae ?_
  exact Pe
 have hk:k<y.cr.length:=by omega
 have hx2:y.cr[k]?=some y.cr[k]:=GE hk
 generalize y.cr[k]=z at hx2
 obtain⟨q,x⟩:=z
 obtain⟨hcx,hcs⟩:=BX fit hx2
 have hm:x∈C.d_:=ME hcs
 have hsq:=ok.seq x hm
 have okx:=ok.mg x hm
 have okc:=okx.call op sx (C.dead sc) C.now
 have hrc:=ok.rc
 have fw:ff (x.call op sx (C.dead sc) C.now).2:=aW.QL x op sx (C.dead sc) C.now
 have hr0:x.fZ op sx (C.dead sc)≠0→C.call ⟨kd,k,sx,sc,op⟩=(C,x.fZ op sx (C.dead sc)):=fun h=>by
  unfold az.call;dsimp only;rw[hcx];dsimp only;rw[if_pos h]
 have hr1:x.fZ op sx (C.dead sc)=0→C.call ⟨kd,k,sx,sc,op⟩=(({ C.jv k (x.call op sx (C.dead sc) C.now).1 with bO:=C.bO.call k (x.call op sx (C.dead sc) C.now).1.seq op,aU:=b_ (32+k) C.aU (x.call op sx (C.dead sc) C.now).2 }:az),0):=fun h=>by
  unfold az.call;dsimp only;rw[hcx];dsimp only;rw[if_neg cG];rfl
 refine CS (CD (ts 0 9 .nil) yp yr ?_)
 refine fj ?_
 refine AG (AI Z (eE k Z Z Z Z Z Z hk) ?_)
 refine AG (yE Z Z Z (aw.one 5 Z (BY hx2)) ?_)
 refine fj ?_
 refine CS (CD (ts 0 11 .nil) yp yr ?_)
 refine fj ?_
 refine pY ?_
 refine fj ?_
 refine CN (L':=pt sb (⟨kd,k,sx,sc,op⟩:dU).cells jU::bQ q x::tP p C y k C.aU C.bO) (aa.cons (Fb hx2)).aj ?_
 refine ae ?_
 refine CD (ts 0 10 (.only 10 (ts 11 5 .nil))) yp yr ?_
 refine jh ?_
 refine AG (VA.dE 0 op.cells Z Z Z Z Z ?_)
 refine jh ?_
 refine AG (AQ 1 Z (fun Fr w hF hs hS=>abi Fr w okx yg op sx (C.dead sc) C.now) Z (by rw[Rq];rfl) pe ?_ ?_)
 ·rintro _ _ ⟨X,a,c,hX,rfl,rfl⟩
  exact IG
 rintro _ _ ⟨X,a,c,hX,rfl,rfl⟩
 refine jh ?_
 refine ae ?_
 refine VC.dp Z (fun k1=>?_) (fun k1=>CK ?_)
 ·refine ae ?_
  refine CR (an.tmp 4 Z Z (aa.tail.trans (Fe (R:=[]) fit hx2)).aj ⟨by rw[hr0 k1],?_⟩)
  rw[hr0 k1,(wH rfl k1).1]
  have:C.jv (k:Int) x=C:=by unfold az.jv;rw[ea,AB hcs]
  rw[this]
 have hr:=hr1 tx
 have hss:=JC x op sx (C.dead sc) C.now
 generalize x.call op sx (C.dead sc) C.now=X2 at hX okc fw hr hss
 obtain⟨x',S'⟩:=X2
 dsimp only at hX okc fw hr hss ⊢
 refine CS (CD (ts 0 7 (ts 8 2 (.only 7 (.only 10 .nil)))) yp yr ?_)
 refine jh ?_
 refine AG (VA.dE 0 op.cells Z Z Z Z Z ?_)
 refine AG (AR (fun Fr w hF hw hS=>NG Fr w okc (((hS.at_ 1 Z).sep).at_ 0 Z)) Z Z IG ?_)
 refine AG (AQ 8 Z (fun Fr w hF hs hS=>SL Fr w ok.bO yg k x'.seq op) Z Z (ψ:=fun v H=>v=.int .i64 (C.bO.fZ k x'.seq op)∧H=jr y.hp (C.bO.call k x'.seq op)) yz ?_ ?_)
 ·rintro _ _ ⟨rfl,rfl⟩
  exact IG
 rintro _ _ ⟨rfl,rfl⟩
 refine jh ?_
 refine jA ?_
 refine VG (VP Z Z fB fB ?_)
 refine jA ?_
 refine VG (VQ 7 Z (fun Fr w hF hs hS=>pW Fr w (hS.aA 2 Z) ok.aU (32+k) (mE.at_ 1 hS Z hX fw)) Z (ψ:=fun v H=>v=.tuple #[]∧H=cH y.lp (b_ (32+k) C.aU (X.map Prod.fst))) yz ?_)
 rintro _ _ ⟨rfl,rfl⟩
 refine jA ?_
 rw[hX]
 exact CR (an.tmp 4 Z Z ((aa.tail (H:=pt sb _ jU)).trans (Fe (p:=p) (R:=[]) (s':=x') (hi:=C.bO.call k x'.seq op) (l:=b_ (32+k) C.aU S') (a:=a) (c:=c) (X:=X) fit hx2)).aj ⟨by rw[hr],by rw[hr]⟩)
end
end Cl
namespace Cl
open Go Vg T Api Ch Rep Conf Lg Rd
attribute [local irreducible] VO VC VA
section
variable {p:Nat} {C:az} {b e:Nat}
theorem fold_succ{α:Type}(f:α→Nat→α)(x:α)(k:Nat):(List.range (k+1)).foldl f x=f ((List.range k).foldl f x) k:=by
 rw[tH,Bv];rfl
theorem aaE(C:az)(n:Nat):(C.bY n).nodes.length=C.nodes.length∧(C.bY n).d_=C.d_∧(C.bY n).now=C.now∧(C.bY n).de=C.de∧(C.bY n).done=C.done:=by
 unfold az.bY
 split
 ·exact⟨rfl,Z,Z,Z,Z⟩
 ·exact⟨fW,Z,Z,Z,Z⟩
theorem abf(ok:C.Ok b e):ax Tryz.prog 53 [.pointer (some ⟨p,0,none⟩)] Fr w [ek p C]
  (fun v L=>v=.tuple #[]∧L=[ek p C.tick]):=by
 have hcl:=ok.d_
 have hnd:=ok.Gs
 have hn0:=ok.n0
 have hn1:=ok.n1
 refine TF 58 Tryz.func53 Z yp aC Z Z ?_
 refine Ei ?_
 rintro y fit
 refine Io ?_
 have hln:=wK fit
 have hnn:=xi fit
 have hmin:min (C.now+1) 1099511627776=if 1099511627776<C.now+1 then 1099511627776 else C.now+1:=by split<;>omega
 generalize hC1:({ C with now:=min (C.now+1) 1099511627776 }:az)=C1
 have ok1:C1.Ok b e:=hC1▸ok.at_
 have fit1:fY C1 y:=hC1▸⟨fit.nr,fit.cr,fit.qc⟩
 have hnn1:C1.nodes.length=C.nodes.length:=by rw[←hC1]
 have hcc1:C1.d_.length=C.d_.length:=by rw[←hC1]
 refine jC ?_
 refine VG (VO.st 0 (cs':=jn C1 y) Z Z Z Z (by show 12<19;omega) (by rw[←hC1,hmin];rfl) Z ?_)
 refine VO.aj (L':=fp p C1 y) (aa.of_eq (by rw[←hC1];rfl)).aj ?_
 refine al ?_
 have hT:C.tick=(List.range C1.d_.length).foldl az.gX ((List.range C1.nodes.length).foldl az.bY C1):=by
  unfold az.tick
  dsimp only
  rw[hC1,←hnn1]
  have:∀(k:Nat),((List.range k).foldl az.bY C1).d_.length=C1.d_.length:=by
   intro k
   induction k with
   | zero=>rfl
   | succ k ih=>rw[fold_succ,(aaE _ _).2.1,ih]
  rw[this]
 refine VC.loop (σ:=Nat×List kZ) (fun s=>[(0,pV p),(18,.slice (some ⟨y.nb,0,none⟩) y.nr.length y.nc),(19,.int .i64 y.nr.length),(20,.int .i64 (s.1:Int))])
  (fun s=>fp p ((List.range s.1).foldl az.bY C1) { y with nr:=s.2 })
  (fun s=>s.1≤y.nr.length∧s.2.length=y.nr.length∧fY ((List.range s.1).foldl az.bY C1) { y with nr:=s.2 }) (fun s=>y.nr.length-s.1) (0,y.nr)
  ⟨bH _,rfl,fit1⟩ aH ER ?_
 rintro⟨k,nr⟩ ⟨hk0,hnl,fk⟩
 dsimp only at hk0 hnl fk
 have okk:=ok1.xM (List.range k)
 have hsu:=fold_succ az.bY C1 k
 generalize hD:(List.range k).foldl az.bY C1=D at okk hsu fk
 refine ae ?_
 refine CP (p:=(k:Int)<y.nr.length) Z (fun h1=>CK ?_) (fun h1=>CX ?_)
 ·have hkl:k<nr.length:=by omega
  have hx2:nr[k]?=some nr[k]:=GE hkl
  generalize nr[k]=z at hx2
  obtain⟨hnx,hns⟩:=xh fk (k:=k) (x:=z) hx2
  refine p_ ?_
  refine VG (VD Z Z (aw.one 3 Z (rM hx2)) ?_)
  cases z with
  | none=>
   have e1:D.bY k=D:=by unfold az.bY;rw[hns];rfl
   refine tz ?_
   refine gC ?_
   exact⟨(k+1,nr),⟨by dsimp only;omega,hnl,by rw[hsu,e1];exact fk⟩,by dsimp only;omega,SC Z (SC Z (SC Z (Sub.int Z yg (SN _)))),by dsimp only;rw[hsu,e1];exact ER⟩
  | some z=>
   obtain⟨q,r⟩:=z
   have hm:some r∈D.nodes:=ME hns
   have e1:D.bY k=({ D.setNode k (some (jQ r).1) with aU:=b_ k D.aU (gy (jQ r).2) }:az):=by unfold az.bY;rw[hns];rfl
   have fw:ff (gy (jQ r).2):=ff.of (by have:=AL r;omega)
   show VO _ _ _ _ (bW (some 24) (.pointer (some ⟨q,0,none⟩)) _) _ _
   refine r_ ?_
   refine CN (L':=bo q r::tT p D { y with nr:=nr } k D.aU) (Gr hx2).aj ?_
   refine dF ?_
   refine VG (VQ 0 Z (fun Fr w hF hs hS=>abu Fr w (okk.fit r hm).ok D.now) Z pe ?_)
   rintro _ _ ⟨X,a,c,hX,rfl,rfl⟩
   refine dF ?_
   refine VG (VQ 6 Z (fun Fr w hF hs hS=>pW Fr w (hS.aA 1 Z) okk.aU k (mE.at_ 0 hS Z hX fw)) Z (ψ:=fun v H=>v=.tuple #[]∧H=cH y.lp (b_ k D.aU (X.map Prod.fst))) yz ?_)
   rintro _ _ ⟨rfl,rfl⟩
   rw[hX]
   refine gC ?_
   refine⟨(k+1,nr.set k (some (q,(jQ r).1))),⟨by dsimp only;omega,by dsimp only;rw[fW];exact hnl,by dsimp only;rw[hsu,e1];exact Gp fk k (some (q,(jQ r).1)) _⟩,by dsimp only;omega,SC Z (SC Z (SC Z (Sub.int Z yg (SN _)))),?_⟩
   dsimp only
   rw[hsu,e1]
   exact(aa.trans vI (LU (y:={ y with nr:=nr }) (r':=(jQ r).1) (l:=b_ k D.aU (gy (jQ r).2)) hx2)).aj
 have hkn:k=C1.nodes.length:=by omega
 rw[hkn] at hD
 rw[hD] at hT
 clear hsu
 subst hkn
 have hDc:D.d_.length=C1.d_.length:=by have h:=wK fk;dsimp only at h;omega
 refine al ?_
 refine VC.loop (σ:=Nat×List oC) (fun s=>[(0,pV p),(40,.slice (some ⟨y.cb,0,none⟩) y.cr.length y.cc),(41,.int .i64 y.cr.length),(42,.int .i64 (s.1:Int))])
  (fun s=>fp p ((List.range s.1).foldl az.gX D) { y with nr:=nr,cr:=s.2 })
  (fun s=>s.1≤y.cr.length∧s.2.length=y.cr.length∧fY ((List.range s.1).foldl az.gX D) { y with nr:=nr,cr:=s.2 }) (fun s=>y.cr.length-s.1) (0,y.cr)
  ⟨bH _,rfl,fk⟩ aH ER ?_
 rintro⟨k,cr⟩ ⟨hk0,hcr,fk⟩
 dsimp only at hk0 hcr fk
 have okk:=okk.xL (List.range k)
 have hsu:=fold_succ az.gX D k
 generalize hE:(List.range k).foldl az.gX D=E at okk hsu fk
 refine ae ?_
 refine CP (p:=(k:Int)<y.cr.length) Z (fun h1=>CK ?_) (fun h1=>CX ?_)
 rotate_left
 ·have hkn:k=C1.d_.length:=by omega
  have:C.tick=E:=by rw[hT,←hE,hkn]
  exact an.void Z (pB (R:=[]) fk).aj ⟨rfl,by rw[this]⟩
 have hkl:k<cr.length:=by omega
 have hx2:cr[k]?=some cr[k]:=GE hkl
 generalize cr[k]=z at hx2
 obtain⟨q,s⟩:=z
 obtain⟨hnx,hns⟩:=BX fk (k:=k) (x:=(q,s)) hx2
 have hm:s∈E.d_:=ME hns
 have e1:E.gX k=({ E.jv k (s.tick E.now).1 with aU:=b_ (32+k) E.aU (s.tick E.now).2,bO:=E.bO }:az):=by unfold az.gX;rw[hns];rfl
 have fw:ff (s.tick E.now).2:=aW.AL s E.now
 refine p_ ?_
 refine VG (VD Z Z (aw.one 4 Z (BY hx2)) ?_)
 refine Bm ?_
 refine VO.aj (L':=bQ q s::tP p E { y with nr:=nr,cr:=cr } k E.aU E.bO) (Fb hx2).aj ?_
 refine dF ?_
 refine VG (VQ 0 Z (fun Fr w hF hs hS=>abk Fr w (okk.mg s hm) E.now) Z pe ?_)
 rintro _ _ ⟨X,a,c,hX,rfl,rfl⟩
 refine dF ?_
 refine VG (VQ 6 Z (fun Fr w hF hs hS=>pW Fr w (hS.aA 1 Z) okk.aU (32+k) (mE.at_ 0 hS Z hX fw)) Z (ψ:=fun v H=>v=.tuple #[]∧H=cH y.lp (b_ (32+k) E.aU (X.map Prod.fst))) yz ?_)
 rintro _ _ ⟨rfl,rfl⟩
 rw[hX]
 refine gC ?_
 refine⟨(k+1,cr.set k (q,(s.tick E.now).1)),⟨by dsimp only;omega,by dsimp only;rw[fW];exact hcr,by dsimp only;rw[hsu,e1];exact JK fk k (q,(s.tick E.now).1) _ _⟩,by dsimp only;omega,SC Z (SC Z (SC Z (Sub.int Z yg (SN _)))),?_⟩
 dsimp only
 rw[hsu,e1]
 exact(aa.trans vI (JL (y:={ y with nr:=nr,cr:=cr }) (s':=(s.tick E.now).1) (l:=b_ (32+k) E.aU (s.tick E.now).2) (hi:=E.bO) hx2)).aj
end
end Cl
namespace Cl
open Go Vg T Api Ch Rep Conf Lg Rd
attribute [local irreducible] VO VC VA
theorem W4(f:aB)(o:Nat)(n:Int):(uu f o n).entry=f.entry:=by unfold uu;split<;>rfl
theorem M6:∀(os:List Nat) (ns:List Int) (f:aB),(oZ f os ns).entry=f.entry
 | o::os,n::ns,f=>by
  show(oZ (uu f o n) os ns).entry=_
  rw[M6 os ns,W4]
 | [],_,_=>rfl
 | _::_,[],_=>rfl
theorem Wp{f:aB}{s:Bs}{y:aB×List aS}(h:nE f s=some y):y.1.kind=f.kind∧(f.kind≠4→y.1.entry=f.entry):=by
 unfold nE at h
 repeat' split at h
 all_goals first | (cases h;done) | (cases h;exact⟨rfl,fun _=>rfl⟩) | (cases h;exact⟨rfl,fun k=>absurd (by assumption) k⟩)
theorem Sz{s:Bs}{f:aB}{ms:List aS}(h:getM s=some (f,ms)):ms.length≤6∧0≤f.entry.index∧f.entry.index≤1099511627776:=by
 unfold getM at h
 split at h
 ·cases h
 split at h
 ·cases h
 split at h
 ·cases h
 split at h
 ·cases h
 ·rename_i k r hk _ l r2 hl _ f' ms' hr
  split at h
  ·rename_i hm
   cases h
   refine⟨Mt hr,?_⟩
   have he:=Wp hr
   by_cases h4:f.kind=4
   ·unfold mv pJ at hm
    simp only[h4,eG] at hm
    have hm:=hm.2.2
    simp[gd] at hm
    exact hm.1.1
   ·have:=he.2 (by rw[←he.1];exact h4)
    rw[this,M6]
    exact⟨by show(0:Int)≤0;decide,by show(0:Int)≤1099511627776;decide⟩
  ·cases h
section
variable {p:Nat} {C:az} {y:fJ} {b e:Nat}
def qP(y:fJ)(to:Int):Value:=
 if to=16 then f_ 174 [.pointer (some ⟨y.mp,0,none⟩)] []
 else match (if to<0 then none else (y.nr[to.toNat]?).getD none) with
  | some z=>f_ 117 [.pointer (some ⟨z.1,0,none⟩)] []
  | none=>match (if to<32 then none else y.cr[(to-32).toNat]?) with
   | some z=>f_ 175 [.agg #[.pointer (some ⟨z.1,0,none⟩)]] []
   | none=>.nilFunc
theorem abe(fit:fY C y)(h:bq Fr w p (jn C y))(hr:bq Fr w y.nb (flat ja y.nr++y.nx))(hc:bq Fr w y.cb (flat nU y.cr++y.cx)){to:Int}(h0:0≤to)(h1:to<38):ax Tryz.prog 113 [.pointer (some ⟨p,0,none⟩),.int .i64 to] Fr w [] (fun v L=>v=qP y to∧L=[]):=by
 have hln:=wK fit
 have hnn:=xi fit
 obtain⟨k,rfl⟩:∃k:Nat,to=k:=⟨to.toNat,by omega⟩
 refine TF 50 Tryz.func113 Z yp aC Z Z ?_
 refine av ?_
 refine pZ ?_
 refine av ?_
 refine CP (p:=(k:Int)=16) Z (fun e1=>?_) (fun e1=>?_)
 ·refine ji ?_
  refine IL ?_
  exact CR (an.tmp 4 Z Z ER ⟨by rw[qP,if_pos e1],Z⟩)
 refine av ?_
 refine VG (VV (fun Fr w hF hw hS=>DK Fr w fit (h.of hF hw) (hr.of hF hw) k) Z ?_)
 have hu:∀z:kZ,(y.nr[k]?).getD none=z→C.jy (k:Int)=if y.nr.length≤k then 4 else if z.isNone then 61 else 0:=fun z hz=>by
  unfold az.jy
  by_cases hk:k<y.nr.length
  ·have hx:=GE hk
   rw[hx] at hz
   rw[if_neg (show ¬((k:Int)<0∨(C.nodes.length:Int)≤k) by omega),if_neg (show ¬y.nr.length≤k by omega),(xh fit hx).1,←hz]
   cases y.nr[k]<;>rfl
  ·rw[if_pos (.inr yg),if_pos yg]
 by_cases hx:∃q r,y.nr[k]?=some (some (q,r))
 ·obtain⟨q,r,hx⟩:=hx
  have hk:=(bP.1 hx).1
  have hu2:=hu (some (q,r)) (by rw[hx];rfl)
  rw[if_neg yg] at hu2
  rw[hu2]
  refine yJ ?_
  refine ji ?_
  refine A3 ?_
  refine VG (VD Z Z (aw.aA hr (rM hx)) ?_)
  refine av ?_
  refine IL ?_
  exact CR (an.tmp 4 Z Z ER ⟨by rw[qP,if_neg e1,if_neg yg,ea,hx];rfl,Z⟩)
 have hno:(y.nr[k]?).getD none=none:=by
  cases hz:y.nr[k]? with
  | none=>rfl
  | some z=>
   cases z with
   | none=>rfl
   | some z=>exact absurd ⟨z.1,z.2,hz⟩ hx
 have hu3:C.jy (k:Int)≠0:=by rw[hu none hno];split<;>decide
 have et:qP y k=match (if (k:Int)<32 then none else y.cr[((k:Int)-32).toNat]?) with
   | some z=>f_ 175 [.agg #[.pointer (some ⟨z.1,0,none⟩)]] []
   | none=>.nilFunc:=by rw[qP,if_neg e1,if_neg yg,ea,hno]
 rw[et]
 refine av ?_
 refine CE Z (fun k0=>absurd k0 hu3) (fun _=>?_)
 refine av ?_
 by_cases h32:(k:Int)<32
 ·refine VG (VY 32 false Z (DF yg) ?_)
  refine ji ?_
  refine fV ?_
  refine av ?_
  exact CR (an.tmp 4 Z Z ER ⟨by rw[if_pos h32],Z⟩)
 obtain⟨j,rfl⟩:∃j:Nat,k=32+j:=⟨k-32,by omega⟩
 refine VG (VY 32 true Z (DT yg) ?_)
 refine ji ?_
 refine CP (p:=(((32+j:Nat):Int)-32)<(y.cr.length:Int)) Z (fun h2=>?_) (fun h2=>CK ?_)
 ·have hj:j<y.cr.length:=by omega
  have hx2:y.cr[j]?=some y.cr[j]:=GE hj
  generalize y.cr[j]=z at hx2
  have ej:((32+j:Nat):Int)-32=(j:Int):=by omega
  rw[ej]
  refine ji ?_
  refine VG (VI (eE j Z Z Z Z Z Z hj) ?_)
  refine VG (VD Z Z (aw.aA hc (BY hx2)) ?_)
  refine av ?_
  refine VG (VI (LB (pv:=[(0,.pointer (some ⟨z.1,0,none⟩))]) [.pointer (some ⟨z.1,0,none⟩)] Z Z Z yp Z) ?_)
  refine IL ?_
  exact CR (an.tmp 4 Z Z ER ⟨by rw[if_neg h32,ea,hx2],Z⟩)
 ·refine av ?_
  exact CR (an.tmp 4 Z Z ER ⟨by rw[if_neg h32,kr yg],Z⟩)
theorem abc{q:Nat}{S:aW}(ok:S.Ok)(from_:Int)(f:aB){ma:Option Addr}{mc:Nat}{ms:List aS}(hm:aT aD 2 Fr w ma ms)(hml:ms.length≤1000000)(now:Int):ax Tryz.prog 175 [.agg #[.pointer (some ⟨q,0,none⟩)],.int .i64 from_,.agg (f.cells (ma,ms.length,mc)).toArray,.int .i64 now] Fr w [bQ q S] (fun v L=>re (S.take f ms now).2 (bQ q (S.take f ms now).1) v L):=by
 refine TF 14 Tryz.func175 Z yp aC Z Z ?_
 refine CS (CG (VG (VB (vs:=[.pointer (some ⟨q,0,none⟩)]) Z fun s1=>VG (VB (vs:=f.cells (ma,ms.length,mc)) Z fun fb=>?_))))
 refine dF ?_
 refine Ij ?_
 refine dF ?_
 refine VG (VQ 2 Z (fun Fr w hF hw hS=>abj Fr w ok f (hm.of hF hw) hml now) Z pe ?_)
 rintro _ _ ⟨X,a,c,hX,rfl,rfl⟩
 refine dF ?_
 exact CR (an.tmp 8 Z Z (aa.tail.trans aa.tail).aj ⟨_,Z,X,a,c,hX,Z,Z⟩)
end
end Cl
namespace Cl
open Go Vg T Api Ch Rep Conf Lg Rd
attribute [local irreducible] VO VC VA
theorem WH{P:Program}{ty:Nat}{ps rs:Array TypeId}{vd:Bool}(hund:P.underlying ty=some (.func ps rs vd)){v:Value}{r:Bool}(hv:(v=.nilFunc∧r=true)∨∃f a c,v=.func f a c∧r=false)(w:World):(Op.equal ty v .nilFunc).run P w=.ok r w:=by
 unfold Op.equal
 show(Op.equalIn (9999+1) ty v .nilFunc).run P w=_
 rw[Op.equalIn,Sem.run_bind,run_underlying hund]
 rcases hv with ⟨rfl,rfl⟩ | ⟨f,a,c,rfl,rfl⟩<;>rfl
theorem K0{X:Cx}{e:Env}{T yt:TypeId}{x:Operand}{v:Value}{ps rs:Array TypeId}{vd:Bool}(r:Bool)(hT:X.P.underlying T=some (.func ps rs vd))(hx:ev e x=some v)(hv:(v=.nilFunc∧r=false)∨∃f a c,v=.func f a c∧r=true):
  fo X (.binOp .neq T x (.const .nilFunc) yt) e (.bool r):=by
 intro a' ha dst ty pos after guard w
 have hq:=WH hT (v:=v) (r:=!r) (by rcases hv with ⟨h1,h2⟩ | ⟨f,a,c,h1,h2⟩<;>simp[h1,h2]) w
 simp only[execOp,ha.ev hx]
 have h:(do eqGuard .neq T x (.const .nilFunc) v .nilFunc;binOp .neq T v .nilFunc:Sem Value).run X.P w=.ok (.bool r) w:=by
  have hg:(eqGuard .neq T x (.const .nilFunc) v .nilFunc).run X.P w=.ok () w:=by
   rcases hv with ⟨rfl,_⟩ | ⟨f,a,c,rfl,_⟩<;>rfl
  rw[Sem.run_bind,hg,Result.andThen_ok]
  have hb:binOp .neq T v .nilFunc=(do pure (.bool (!(←Op.equal T v .nilFunc))):Sem Value):=by
   rcases hv with ⟨rfl,_⟩ | ⟨f,a,c,rfl,_⟩<;>rfl
  rw[hb,Sem.run_bind,hq]
  cases r<;>rfl
 rw[Sem.run_bind]
 show((do eqGuard .neq T x (.const .nilFunc) v .nilFunc;binOp .neq T v .nilFunc:Sem Value).run X.P w).andThen _=_
 rw[h];rfl
section
variable {p:Nat} {C:az} {b e:Nat}
theorem aaL{y:fJ}:qP y 16=f_ 174 [.pointer (some ⟨y.mp,0,none⟩)] []:=rfl
theorem aaM{y:fJ}{k q:Nat}{r:ay}(h1:(k:Int)≠16)(h:y.nr[k]?=some (some (q,r))):qP y k=f_ 117 [.pointer (some ⟨q,0,none⟩)] []:=by
 rw[qP,if_neg h1,if_neg yg,ea,h];rfl
theorem aaN{y:fJ}{k:Nat}(h1:(k:Int)≠16)(h:∀q r,y.nr[k]?≠some (some (q,r))):qP y k=match (if (k:Int)<32 then none else y.cr[((k:Int)-32).toNat]?) with
   | some z=>f_ 175 [.agg #[.pointer (some ⟨z.1,0,none⟩)]] []
   | none=>.nilFunc:=by
 have hno:(y.nr[k]?).getD none=none:=by
  cases hz:y.nr[k]? with
  | none=>rfl
  | some z=>
   cases z with
   | none=>rfl
   | some z=>exact absurd hz (h z.1 z.2)
 rw[qP,if_neg h1,if_neg yg,ea,hno]<;>rfl
theorem UR{y:fJ}(fit:fY C y){k:Nat}(h:∀q r,y.nr[k]?≠some (some (q,r))):C.node (k:Int)=none:=by
 unfold az.node
 rw[if_neg yg,ea,←fit.nr,dH]
 cases hz:y.nr[k]? with
 | none=>rfl
 | some z=>
  cases z with
  | none=>rfl
  | some z=>exact absurd hz (h z.1 z.2)
theorem aa2(ok:C.Ok b e)(hb:b<100000000)(x to i:Int):ax Tryz.prog 55 [.pointer (some ⟨p,0,none⟩),.int .i64 x,.int .i64 to,.int .i64 i] Fr w [ek p C]
  (fun v L=>v=.int .i64 (C.ib (x,to) i).2∧L=[ek p (C.ib (x,to) i).1]):=by
 have hcl:=ok.d_
 have hnd:=ok.Gs
 refine TF 57 Tryz.func55 Z yp aC Z Z ?_
 refine Ei ?_
 rintro y fit
 refine Io ?_
 have hln:=wK fit
 have hnn:=xi fit
 refine al ?_
 refine VG (VQ 5 Z (fun Fr w hF hw hS=>KT Fr w ok.aU x to i) Z (ψ:=fun v H=>v=tX C.aU (x,to) i∧H=cH y.lp (C.aU.drop (x,to) i).1) yz ?_)
 rintro _ _ ⟨rfl,rfl⟩
 cases hf:C.aU.find (x,to) i with
 | none=>
  have hr:C.ib (x,to) i=(C,4):=by unfold az.ib;rw[hf]
  rw[wT hf,Fk hf]
  refine ae ?_
  refine VG (VO.alloc Z fun mb=>?_)
  refine yC ?_
  refine vY ?_
  exact CR (an.tmp 8 Z Z (aa.trans (aa.tail (H:=pt mb _ lJ)) (pB (C:=C) (p:=p) (R:=[]) fit)).aj ⟨by rw[hr],by rw[hr]⟩)
 | some t=>
 obtain⟨ha1,ha2⟩:=ok.l9.found hf
 obtain⟨hx0,hx1⟩:=tN ha1
 obtain⟨ht0,ht1⟩:=tN ha2
 obtain⟨k,rfl⟩:∃k:Nat,to=k:=⟨to.toNat,by dsimp only at ht0;omega⟩
 dsimp only at ht0 ht1 hx0 hx1
 rw[zz hf,Fm hf]
 generalize hD:({ C with aU:=C.aU.fA (x,k) i }:az)=D
 have okd:D.Ok b e:=hD▸ok.ny (by rw[az.Ok.Kn hf];exact ok.aU.drop _ _) (ok.l9.fA hf)
 have fitd:fY D y:=hD▸⟨fit.nr,fit.cr,fit.qc⟩
 obtain⟨s,rfl⟩:∃s,t=bT s:=⟨sB t,(BS t).symm⟩
 have hr:C.ib (x,k) i=(D.lE x k (bT s),0):=by unfold az.ib;rw[hf];dsimp only;rw[hD]
 have hgot:D.lE x k (bT s)=match getM s with
   | some (f,ms)=>D.ig x k f ms
   | none=>D:=by unfold az.lE;rw[MP]<;>rfl
 refine VO.aj (L':=fp p D y) (aa.of_eq (by rw[←hD];rfl)).aj ?_
 refine ae ?_
 refine VG (VO.alloc Z fun mb=>?_)
 refine VG (VT (vs:=eO x k (bT s)) (cs':=eO x k (bT s)) 0 Z Z Z Z (NR _) Z Z Z ?_)
 refine tz ?_
 refine al ?_
 refine VG (VK (Lc:=[]) (fun Fr w hF hw hS=>R0 Fr w (s:=s)) Z Z ?_)
 intro v L1 hv
 cases hg:getM s with
 | none=>
  rw[hg] at hv hgot
  obtain⟨rfl,rfl⟩:=hv
  dsimp only at hgot
  refine ae ?_
  refine VG (VO.alloc Z fun fb=>?_)
  refine Ii ?_
  refine ae ?_
  refine dF ?_
  refine Pf ?_
  refine ae ?_
  refine xT ?_
  refine lS ?_
  refine ae ?_
  exact CR (an.tmp 8 Z Z (aa.trans (aa.tail (H:=pt fb _ cq)) (aa.trans (aa.tail (H:=pt mb _ lJ)) (pB (C:=D) (p:=p) (R:=[]) fitd))).aj ⟨by rw[hr],by rw[hr,hgot]⟩)
 | some fm=>
 obtain⟨f,ms⟩:=fm
 rw[hg] at hv hgot
 obtain⟨ma,mc,rfl,rfl⟩:=hv
 dsimp only at hgot
 rw[hgot] at hr
 obtain⟨hm6,hi0,hi1⟩:=Sz hg
 refine ae ?_
 refine VG (VO.alloc Z fun fb=>?_)
 refine VG (VT (vs:=f.cells (ma,ms.length,mc)) (cs':=f.cells (ma,ms.length,mc)) 0 Z Z Z Z (NR _) Z Z Z ?_)
 refine VO.aj (L':=pt fb (f.cells (ma,ms.length,mc)) cq::pt mb (eO x k (bT s)) lJ::(fp p D y ++ [aq aP 2 ma ms.length mc (flat aD ms)])) (by refine aa.aj ?_;refine IP 0 Z ?_;refine IP 1 Z ?_;exact aa.last (L:=fp p D y)) ?_
 refine ae ?_
 refine dF ?_
 refine Pf ?_
 by_cases h16:(k:Int)=16
 ·have hk16:k=16:=by omega
  subst hk16
  have ht:D.ig x (16:Nat) f ms=({ D with aG:=(D.aG.take x f D.now).1,aU:=b_ (16:Nat) D.aU (D.aG.take x f D.now).2 }:az):=by
   unfold az.ig
   rw[if_pos yy];rfl
  rw[ht] at hr
  have fw:=okd.aG.xJ x f D.now
  rw[show qP y (16:Nat)=_ from aaL]
  refine ae ?_
  refine xS ?_
  refine ae ?_
  refine Ip ?_
  refine r_ ?_
  refine CN (L':=pt fb (f.cells (ma,ms.length,mc)) cq::pt mb (eO x (16:Nat) (bT s)) lJ::cC y.mp D.aG::(tS p D y D.aU ++ [aq aP 2 ma ms.length mc (flat aD ms)])) (aa.cons (aa.cons (aa.app (M:=cC y.mp D.aG::tS p D y D.aU) F9 aa.refl))).aj ?_
  refine Iq ?_
  refine iB ?_
  refine Ir ?_
  refine iB ?_
  refine AG (VA.mH 2 Z Z (fun Fr w hF hs hS=>abo Fr w okd.aG x f (ma,ms.length,mc) D.now) Z Z pe ?_ ?_)
  ·rintro _ _ ⟨X,a,c,hX,rfl,rfl⟩
   exact yH
  rintro _ _ ⟨X,a,c,hX,rfl,rfl⟩
  refine AG (AQ 7 Z (fun Fr w hF hs hS=>pW Fr w (hS.aA 3 Z) okd.aU (16:Nat) (mE.at_ 2 hS Z hX fw)) Z Z (ψ:=fun v H=>v=.tuple #[]∧H=cH y.lp (b_ (16:Nat) D.aU (X.map Prod.fst))) yz ?_ ?_)
  ·rintro _ _ ⟨rfl,rfl⟩
   exact yH
  rintro _ _ ⟨rfl,rfl⟩
  refine pf ?_
  rw[hX]
  exact CR (an.tmp 8 Z Z (aa.trans (aa.tail (H:=pt fb _ cq)) (aa.trans (aa.tail (H:=pt mb _ lJ)) (xd (p:=p) (m:=(D.aG.take x f D.now).1) (l:=b_ (16:Nat) D.aU (D.aG.take x f D.now).2) (a:=a) (c:=c) (X:=X) (R:=[aq aP 2 ma ms.length mc (flat aD ms)]) fitd))).aj ⟨by rw[hr],by rw[hr]⟩)
 by_cases hx:∃q r,y.nr[k]?=some (some (q,r))
 ·obtain⟨q,r,hx⟩:=hx
  obtain⟨hn1,hn2⟩:=xh fitd hx
  have hmr:some r∈D.nodes:=ME hn2
  have hfit:=okd.fit r hmr
  have hlr:=okd.last r hmr
  have ht:D.ig x k f ms=({ D.setNode k (some (cU r x f ms D.now).1) with aU:=b_ k D.aU (gy (cU r x f ms D.now).2) }:az):=by
   unfold az.ig
   rw[if_neg h16,hn1];rfl
  rw[ht] at hr
  have fw:ff (gy (cU r x f ms D.now).2):=ff.of (by have:=xJ hfit x f ms D.now;omega)
  rw[aaM h16 hx]
  refine ae ?_
  refine xS ?_
  refine ae ?_
  refine Ip ?_
  refine r_ ?_
  refine CN (L':=pt fb (f.cells (ma,ms.length,mc)) cq::pt mb (eO x k (bT s)) lJ::bo q r::(tT p D y k D.aU ++ [aq aP 2 ma ms.length mc (flat aD ms)])) (aa.cons (aa.cons (aa.app (M:=bo q r::tT p D y k D.aU) (Gr hx) aa.refl))).aj ?_
  refine Iq ?_
  refine iB ?_
  refine Ir ?_
  refine iB ?_
  refine AG (VA.mH 2 Z Z (fun Fr w hF hs hS=>NH Fr w hfit yg x f (aT.aq cu (hS.at_ 12 Z)) yg D.now yg yg) Z Z pe ?_ ?_)
  ·rintro _ _ ⟨X,a,c,hX,rfl,rfl⟩
   exact yH
  rintro _ _ ⟨X,a,c,hX,rfl,rfl⟩
  refine AG (AQ 8 Z (fun Fr w hF hs hS=>pW Fr w (hS.aA 3 Z) okd.aU k (mE.at_ 2 hS Z hX fw)) Z Z (ψ:=fun v H=>v=.tuple #[]∧H=cH y.lp (b_ k D.aU (X.map Prod.fst))) yz ?_ ?_)
  ·rintro _ _ ⟨rfl,rfl⟩
   exact yH
  rintro _ _ ⟨rfl,rfl⟩
  refine pf ?_
  rw[hX]
  exact CR (an.tmp 8 Z Z (aa.trans (aa.tail (H:=pt fb _ cq)) (aa.trans (aa.tail (H:=pt mb _ lJ)) (LV (p:=p) (r':=(cU r x f ms D.now).1) (l:=b_ k D.aU (gy (cU r x f ms D.now).2)) (a:=a) (c:=c) (X:=X) (R:=[aq aP 2 ma ms.length mc (flat aD ms)]) fitd hx))).aj ⟨by rw[hr],by rw[hr]⟩)
 have hx:∀q r,y.nr[k]?≠some (some (q,r)):=fun q r h=>hx ⟨q,r,h⟩
 have hnone:=UR fitd hx
 rw[aaN h16 hx]
 by_cases hc:∃j q z,k=32+j∧y.cr[j]?=some (q,z)
 ·obtain⟨j,q,z,rfl,hz⟩:=hc
  obtain⟨hn1,hn2⟩:=BX fitd hz
  have ej:((32+j:Nat):Int)-32=(j:Int):=by omega
  have hmz:z∈D.d_:=ME hn2
  have okz:=okd.mg z hmz
  have ht:D.ig x (32+j:Nat) f ms=({ D.jv j (z.take f ms D.now).1 with aU:=b_ (32+j:Nat) D.aU (z.take f ms D.now).2,bO:=D.bO }:az):=by
   unfold az.ig
   rw[if_neg h16,hnone,ej,hn1];rfl
  rw[ht] at hr
  have fw:ff (z.take f ms D.now).2:=aW.xJ z f ms D.now
  rw[if_neg yg,ej,ea,hz]
  refine ae ?_
  refine xS ?_
  refine ae ?_
  refine Ip ?_
  refine r_ ?_
  refine CN (L':=pt fb (f.cells (ma,ms.length,mc)) cq::pt mb (eO x (32+j:Nat) (bT s)) lJ::bQ q z::(tP p D y j D.aU D.bO ++ [aq aP 2 ma ms.length mc (flat aD ms)])) (aa.cons (aa.cons (aa.app (M:=bQ q z::tP p D y j D.aU D.bO) (Fb hz) aa.refl))).aj ?_
  refine Iq ?_
  refine iB ?_
  refine Ir ?_
  refine iB ?_
  refine AG (VA.mH 2 Z Z (fun Fr w hF hs hS=>abc Fr w okz x f (aT.aq cu (hS.at_ 12 Z)) yg D.now) Z Z pe ?_ ?_)
  ·rintro _ _ ⟨X,a,c,hX,rfl,rfl⟩
   exact yH
  rintro _ _ ⟨X,a,c,hX,rfl,rfl⟩
  refine AG (AQ 8 Z (fun Fr w hF hs hS=>pW Fr w (hS.aA 3 Z) okd.aU (32+j:Nat) (mE.at_ 2 hS Z hX fw)) Z Z (ψ:=fun v H=>v=.tuple #[]∧H=cH y.lp (b_ (32+j:Nat) D.aU (X.map Prod.fst))) yz ?_ ?_)
  ·rintro _ _ ⟨rfl,rfl⟩
   exact yH
  rintro _ _ ⟨rfl,rfl⟩
  refine pf ?_
  rw[hX]
  exact CR (an.tmp 8 Z Z (aa.trans (aa.tail (H:=pt fb _ cq)) (aa.trans (aa.tail (H:=pt mb _ lJ)) (Fe (p:=p) (s':=(z.take f ms D.now).1) (hi:=D.bO) (l:=b_ (32+j:Nat) D.aU (z.take f ms D.now).2) (a:=a) (c:=c) (X:=X) (R:=[aq aP 2 ma ms.length mc (flat aD ms)]) fitd hz))).aj ⟨by rw[hr],by rw[hr]⟩)
 have hcn:D.eS ((k:Int)-32)=none∧(if (k:Int)<32 then none else y.cr[((k:Int)-32).toNat]?)=none:=by
  by_cases h32:(k:Int)<32
  ·exact⟨by unfold az.eS;rw[if_pos yg],if_pos h32⟩
  obtain⟨j,rfl⟩:∃j:Nat,k=32+j:=⟨k-32,by omega⟩
  have ej:((32+j:Nat):Int)-32=(j:Int):=by omega
  have hz:y.cr[j]?=none:=by
   cases hz:y.cr[j]? with
   | none=>rfl
   | some z=>exact absurd ⟨j,z.1,z.2,rfl,hz⟩ hc
  rw[ej,if_neg h32,ea,hz]
  refine⟨?_,Z⟩
  unfold az.eS
  rw[if_neg yg,ea,←fitd.cr,dH,hz];rfl
 have ht:D.ig x k f ms=D:=by
  unfold az.ig
  rw[if_neg h16,hnone,hcn.1]
 rw[ht] at hr
 rw[hcn.2]
 refine ae ?_
 refine xS ?_
 refine ae ?_
 refine VG (VI (K0 false Tryz.underlying211 Z (.inl ⟨rfl,Z⟩)) ?_)
 refine si ?_
 exact CR (an.tmp 8 Z Z (aa.trans (aa.tail (H:=pt fb _ cq)) (aa.trans (aa.tail (H:=pt mb _ lJ)) (pB (C:=D) (p:=p) (R:=[aq aP 2 ma ms.length mc (flat aD ms)]) fitd))).aj ⟨by rw[hr],by rw[hr]⟩)
end
end Cl
namespace Cl
open Go Vg T Api Ch Rep Conf Lg Rd
attribute [local irreducible] VO VC VA
theorem T9{Fr:Nat→Prop}{w:World}{q:Nat}{M:aI}(h:a_ Fr [cC q M] w):∃a c,bq Fr w q (cQ M a c)∧aT aD 2 Fr w a M.ch.ms:=by
 obtain⟨y,hy⟩:=h.ex
 have hs:=hy.sep
 exact⟨y.1,y.2,hs.aA 0 Z,aT.aq cu (hs.at_ 1 Z)⟩
theorem NF{q:Nat}{M:aI}(ok:M.Ok)(h:a_ Fr [cC q M] w):ax Tryz.prog 23 [.pointer (some ⟨q,0,none⟩)] Fr w []
  (fun v L=>∃a' c',v=.agg (M.ch.cells a' c').toArray∧L=[aq aP 2 a' M.ch.ms.length c' (flat aD M.ch.ms)]):=by
 obtain⟨a,c,h1,h2⟩:=T9 h
 exact Ua Fr w ok h1 h2
theorem Td{M:aI}{n now:Int}(h:(M.join n now).2.2≠0):(M.join n now).1=M:=by
 unfold aI.join at h ⊢
 split
 ·rfl
 ·rename_i h1
  rw[if_neg h1] at h
  split
  ·rfl
  ·rename_i h2;rw[if_neg h2] at h;exact absurd rfl h
section
variable {p:Nat} {C:az} {y:fJ} {b e:Nat}
theorem UP{l:List kZ}{k q:Nat}{r r':ay}(hk:k<l.length):flat ja (l.set k (some (q,r)))=flat ja (l.set k (some (q,r'))):=by
 have h:(l.set k (some (q,r)))[k]?=some (some (q,r)):=iR hk
 have:=LR (r':=r') h
 rw[wj] at this
 exact this.symm
theorem LS{l:List kZ}{k:Nat}(x:kZ)(hk:k<l.length)(rest:List Value):(flat ja l++rest).set (0+k*1) (Gm x)=flat ja (l.set k x)++rest:=by
 rw[cj]
 have hz:l[k]?=some l[k]:=GE hk
 exact u_ (j:=0) Gl hz (uS) (by cases l[k]<;>rfl) rest
theorem Te(fit:fY C y){k q:Nat}(hk:k<y.nr.length){r r':ay}{m:aI}{l:aX}{a a':Option Addr}{c c':Nat}{X X':List gr}:aa (qK (bo q r') a c X::qK (cC y.mp m) a' c' X' :: [pt p (jn C y) sJ,iq y.qa y.qc C.de.qs,pt y.nb (flat ja (y.nr.set k (some (q,r)))++y.nx) rT,pt y.cb (flat nU y.cr++y.cx) sK,cH y.lp l,jr y.hp C.bO,aq dK 7 y.da C.done.length y.dc (flat bm C.done),bF (y.nr.map jO),bF (y.cr.map oL)])
  [ek p ({ ({ C with aG:=m }:az).setNode k (some r') with aU:=l }:az)]:=by
 rw[UP (r':=r') hk]
 have e1:=Gn (C:=C) (y:=y) (k:=k) (x:=some (q,r')) ({ ({ C with aG:=m }:az).setNode k (some r') with aU:=l }:az) rfl rfl rfl
 have hz:y.nr[k]?=some y.nr[k]:=GE hk
 refine aa.trans vI ?_
 refine aa.trans (aa.cons vI) ?_
 refine aa.trans (IP 9 Z aa.refl) ?_
 refine aa.trans (Ag (f:=jO) hz) ?_
 refine aa.trans aa.tail ?_
 refine aa.trans (M:=bo q r'::bF ((y.nr.eraseIdx k).map jO)::_) (IP 1 Z (IP 0 Z aa.refl)) ?_
 refine aa.trans (Af (f:=jO) hk (some (q,r'))) ?_
 have fit':fY ({ ({ C with aG:=m }:az).setNode k (some r') with aU:=l }:az) (y.node k (some (q,r'))):=Gp (C:={ C with aG:=m }) ⟨fit.nr,fit.cr,fit.qc⟩ k (some (q,r')) l
 refine aa.tQ (K:=[]) _ fit' ?_
 unfold fp
 rw[e1]
 exact(bb [2,2,1,1,1,1,1,1,0,0])
theorem aa5(ok:C.Ok b e)(hb:b<100000000)(n:Int):ax Tryz.prog 59 [.pointer (some ⟨p,0,none⟩),.int .i64 n] Fr w [ek p C]
  (fun v L=>v=.int .i64 (C.join n).2∧L=[ek p (C.join n).1]):=by
 refine TF 65 Tryz.func59 Z yp aC Z Z ?_
 refine Ei ?_
 rintro y fit
 refine CN (L':=cC y.mp C.aG::tS p C y C.aU) ((aa.of_eq (br _)).trans F9).aj ?_
 have hnn:=xi fit
 have hjb:=Td (M:=C.aG) (n:=n) (now:=C.now)
 have hjf:=ok.aG.KJ n C.now
 have hr0:(C.aG.join n C.now).2.2≠0→C.join n=(C,(C.aG.join n C.now).2.2):=fun h=>by unfold az.join;dsimp only;rw[if_pos h]
 have hr1:(C.aG.join n C.now).2.2=0→C.join n=((({ C with aG:=(C.aG.join n C.now).1 }:az).back n).post 16 (C.aG.join n C.now).2.1,0):=fun h=>by unfold az.join;dsimp only;rw[if_neg cG]
 refine ae ?_
 refine CD (ts 0 9 (.only 9 (ts 10 5 .nil))) yp yr ?_
 refine fj ?_
 refine AG (AQ 0 Z (fun Fr w hF hs hS=>abn Fr w ok.aG n C.now) Z Z pe ?_ ?_)
 ·rintro _ _ ⟨X,a,c,hX,rfl,rfl⟩
  exact yu
 rintro _ _ ⟨X,a,c,hX,rfl,rfl⟩
 generalize C.aG.join n C.now=J at hjb hjf hr0 hr1 hX
 obtain⟨m,S,er⟩:=J
 dsimp only at hjb hjf hr0 hr1 hX ⊢
 obtain⟨fw,okm⟩:=hjf
 refine fj ?_
 refine ae ?_
 refine VC.dp Z (fun k1=>?_) (fun k1=>CK ?_)
 ·refine ae ?_
  exact CR (an.tmp 4 Z Z (xd (p:=p) (C:=C) (m:=m) (l:=C.aU) (a:=a) (c:=c) (X:=X) (R:=[]) fit).aj ⟨by rw[hr0 k1],by rw[hr0 k1,hjb k1]⟩)
 have hr:=hr1 tx
 refine CS (CS (CG ?_))
 refine ae ?_
 refine VG (VV (fun Fr w hF hw hS=>DK Fr w fit (hS.aA 1 Z) (hS.aA 3 Z) n) Z ?_)
 refine ae ?_
 have hbk:({ C with aG:=m }:az).back n=if C.jy n=61 then (({ C with aG:=m }:az).setNode n (some (cU (cJ C.de n true) 16 (jH m.ch) m.ch.ms C.now).1)).post n (gy (cU (cJ C.de n true) 16 (jH m.ch) m.ch.ms C.now).2) else ({ C with aG:=m }:az):=rfl
 refine CE Z (fun h61=>?_) (fun h61=>CK ?_)
 rotate_left
 ·rw[hbk,if_neg h61] at hr
  refine mV ?_
  refine ae ?_
  refine VG (VQ 5 Z (fun Fr w hF hs hS=>pW Fr w (hS.aA 1 Z) ok.aU 16 (mE.at_ 0 hS Z hX fw)) Z (ψ:=fun v H=>v=.tuple #[]∧H=cH y.lp (b_ 16 C.aU (X.map Prod.fst))) yz ?_)
  rintro _ _ ⟨rfl,rfl⟩
  rw[hX]
  refine ae ?_
  exact CR (an.tmp 4 Z Z (xd (p:=p) (C:=C) (m:=m) (l:=b_ 16 C.aU S) (a:=a) (c:=c) (X:=X) (R:=[]) fit).aj ⟨by rw[hr],by rw[hr];rfl⟩)
 rw[hbk,if_pos h61] at hr
 obtain⟨k,rfl,hk,hkn⟩:∃k:Nat,n=k∧k<y.nr.length∧y.nr[k]?=some none:=by
  have hu:=h61
  unfold az.jy at hu
  split at hu
  ·cases hu
  ·rename_i h1
   split at hu
   ·rename_i h2
    have hk:n.toNat<y.nr.length:=by omega
    have en:n=(n.toNat:Int):=by omega
    have hz:y.nr[n.toNat]?=some y.nr[n.toNat]:=GE hk
    refine⟨n.toNat,en,hk,?_⟩
    have:=(xh fit hz).1
    rw[←en] at this
    rw[this] at h2
    rw[hz]
    cases hq:y.nr[n.toNat] with
    | none=>rfl
    | some v=>rw[hq] at h2;cases h2
   ·cases hu
 have hnl:=ok.nl
 have hnb:=kG ok.cf
 have hok:sT C.de (k:Int):=⟨ok.cf,by omega,by omega⟩
 have hfit:=Gj ok.cf (k:Int) true
 have hlast:(cJ C.de (k:Int) true).aQ.last=0:=by
  unfold cJ;split
  ·rfl
  split<;>rfl
 have hml:=okm.ml
 have hei:(jH m.ch).entry.index=0:=rfl
 refine dF ?_
 refine VG (VL 1 (C.de.cells y.qa y.qc) Z Z Z Z ?_)
 refine dF ?_
 refine VG (VK (Lc:=[]) (fun Fr w hF hw hS=>Rep.lK Fr w C.de y.qa y.qc (rG (hS.at_ 2 Z)) trivial fit.qc k true) Z Z ?_)
 intro v L hv
 rw[if_pos hok] at hv
 obtain⟨q,rfl,rfl⟩:=hv
 generalize cJ C.de (k:Int) true=r0 at hfit hlast hr
 have fw2:ff (gy (cU r0 16 (jH m.ch) m.ch.ms C.now).2):=ff.of (by have:=xJ hfit 16 (jH m.ch) m.ch.ms C.now;omega)
 have okl2:=aX.Ok.b_ (k:Int) (gy (cU r0 16 (jH m.ch) m.ch.ms C.now).2) ok.aU
 refine ae ?_
 refine jA ?_
 refine A3 ?_
 refine VG (VO.st 4 (cs':=flat ja (y.nr.set k (some (q,r0)))++y.nx) Z Z Z Z PM (LS (some (q,r0)) hk y.nx) Z ?_)
 refine ae ?_
 refine jA ?_
 refine VG (VK (Lc:=[]) (fun Fr w hF hw hS=>NF Fr w okm (((hS.at_ 1 Z).sep).at_ 0 Z)) Z Z ?_)
 rintro _ _ ⟨ma,mc,rfl,rfl⟩
 refine ae ?_
 refine VG (VI (LB (pv:=[(0,.int .i64 8),(11,.agg (m.ch.cells ma mc).toArray)]) ((jH m.ch).cells (ma,m.ch.ms.length,mc)) Z Z Z yp Z) ?_)
 refine VG (VO.alloc Z fun fb=>?_)
 refine VG (VT (vs:=(jH m.ch).cells (ma,m.ch.ms.length,mc)) (cs':=(jH m.ch).cells (ma,m.ch.ms.length,mc)) 0 Z Z Z Z (NR _) Z Z Z ?_)
 refine ae ?_
 refine CD (ts 0 8 (.only 8 (.only 9 .nil))) yp yr ?_
 refine r6 ?_
 refine AG (VA.dE 0 ((jH m.ch).cells (ma,m.ch.ms.length,mc)) Z Z Z Z Z ?_)
 refine r6 ?_
 refine AG (AQ 2 Z (fun Fr w hF hs hS=>NH Fr w hfit yg 16 (jH m.ch) (aT.aq cu (hS.at_ 1 Z)) yg C.now yg yg) Z Z pe ?_ ?_)
 ·rintro _ _ ⟨X2,a2,c2,hX2,rfl,rfl⟩
  exact PN
 rintro _ _ ⟨X2,a2,c2,hX2,rfl,rfl⟩
 generalize cU r0 16 (jH m.ch) m.ch.ms C.now=T at hr fw2 okl2 hX2
 refine AG (AQ 8 Z (fun Fr w hF hs hS=>pW Fr w (hS.aA 4 Z) ok.aU k (mE.at_ 2 hS Z hX2 fw2)) Z Z (ψ:=fun v H=>v=.tuple #[]∧H=cH y.lp (b_ k C.aU (X2.map Prod.fst))) yz ?_ ?_)
 ·rintro _ _ ⟨rfl,rfl⟩
  exact PN
 rintro _ _ ⟨rfl,rfl⟩
 rw[hX2]
 refine pf ?_
 refine VG (VQ 8 Z (fun Fr w hF hs hS=>pW Fr w (hS.aA 4 Z) okl2 16 (mE.at_ 3 hS Z hX fw)) Z (ψ:=fun v H=>v=.tuple #[]∧H=cH y.lp (b_ 16 (b_ k C.aU (gy T.2)) (X.map Prod.fst))) yz ?_)
 rintro _ _ ⟨rfl,rfl⟩
 rw[hX]
 refine ae ?_
 exact CR (an.tmp 4 Z Z (aa.trans (aa.tail (H:=pt fb _ cq)) (aa.trans (aa.tail (H:=aq aP 2 ma _ mc _)) (Te (p:=p) (C:=C) (r:=r0) (r':=T.1) (m:=m) (l:=b_ 16 (b_ k C.aU (gy T.2)) S) (a:=a2) (c:=c2) (X:=X2) (a':=a) (c':=c) (X':=X) fit hk))).aj ⟨by rw[hr],by rw[hr];rfl⟩)
end
end Cl
namespace Cl
open Go Vg T Api Ch Rep Conf Lg Rd
attribute [local irreducible] VO VC VA
theorem PX{α β:Type}(f:β→α×Nat→β)(x:β){l:List α}{k:Nat}{a:α}(h:l[k]?=some a):(l.zipIdx.take (k+1)).foldl f x=f ((l.zipIdx.take k).foldl f x) (a,k):=by
 have:l.zipIdx[k]?=some (a,k):=by rw[List.getElem?_zipIdx,h];simp
 rw[fX,this,Bv]
 rfl
theorem PW{α β:Type}(f:β→α×Nat→β)(x:β)(l:List α):(l.zipIdx.take l.length).foldl f x=l.zipIdx.foldl f x:=by
 rw[qg (by rw[yY];exact NR _)]
section
variable {p:Nat} {C:az} {b e:Nat}
theorem aa0(ok:C.Ok b e)(he:e<1000000):ax Tryz.prog 21 [.pointer (some ⟨p,0,none⟩)] Fr w [ek p C]
  (fun v L=>v=.tuple #[]∧L=[ek p C.behind]):=by
 have hcl:=ok.d_
 have hnd:=ok.Gs
 have hev:=ok.ev
 have hdn:=ok.dn
 refine TF 115 Tryz.func21 Z yp aC Z Z ?_
 refine Ei ?_
 rintro y fit
 refine Io ?_
 have hln:=wK fit
 have hnn:=xi fit
 refine al ?_
 refine VC.loop (σ:=Nat) (fun k=>[(0,pV p),(17,.slice (some ⟨y.cb,0,none⟩) y.cr.length y.cc),(18,.int .i64 y.cr.length),(19,.int .i64 (k:Int))])
  (fun k=>fp p ({ C with bO:=(C.d_.zipIdx.take k).foldl nX C.bO }:az) y) (fun k=>k≤y.cr.length) (fun k=>y.cr.length-k) 0
  (bH _) aH ER ?_
 rintro k hk0
 have hH:=az.Ok.Fo ok.bO (C.d_.zipIdx.take k) (by rw[jj,yY];omega)
 rw[jj,yY] at hH
 obtain⟨okh,-,hhe⟩:=hH
 refine ae ?_
 refine CP (p:=(k:Int)<y.cr.length) Z (fun h1=>CK ?_) (fun h1=>CX ?_)
 ·have hkl:k<y.cr.length:=by omega
  have hx2:y.cr[k]?=some y.cr[k]:=GE hkl
  generalize y.cr[k]=z at hx2
  obtain⟨q,s⟩:=z
  obtain⟨hnx,hns⟩:=BX fit (k:=k) (x:=(q,s)) hx2
  have hm:s∈C.d_:=ME hns
  have hsu:=PX nX C.bO hns
  generalize (C.d_.zipIdx.take k).foldl nX C.bO=H at okh hhe hsu
  have hcp:(y.cr.map oL)[k]?=some (bQ q s):=by rw[dH,hx2];rfl
  refine p_ ?_
  refine VG (VD Z Z (aw.one 4 Z (BY hx2)) ?_)
  refine ae ?_
  refine VG (VV (fun Fr w hF hw hS=>abq Fr w (ok.mg s hm) (((hS.at_ 9 Z).sep).at_ k hcp)) Z ?_)
  unfold GB
  generalize ho:s.outcome=o
  refine ae ?_
  refine VG (VO.alloc Z fun ob=>?_)
  refine VG (VT (vs:=dL (o.getD my)) (cs':=dL (o.getD my)) 0 Z Z Z Z (NR _) Z Z Z ?_)
  refine ae ?_
  cases o with
  | none=>
   have e1:nX H (s,k)=H:=by unfold nX;dsimp only;rw[ho]
   refine fV ?_
   refine gC ?_
   exact Pg
  | some o=>
   have e1:nX H (s,k)=H.end_ k s.seq o:=by unfold nX;dsimp only;rw[ho]
   refine lR ?_
   refine CD (ts 0 6 (ts 7 1 (.only 6 (.only 8 .nil)))) yp yr ?_
   refine fj ?_
   refine AG (VA.dE 0 (dL o) Z Z Z Z Z ?_)
   refine AG (AR (fun Fr w hF hw hS=>NG Fr w (ok.mg s hm) (((hS.at_ 10 Z).sep).at_ k hcp)) Z Z PO ?_)
   refine AG (AQ 7 Z (fun Fr w hF hs hS=>SQ Fr w okh yg k s.seq o) Z Z (ψ:=fun v K=>v=.int .i64 (H.ru k s.seq o)∧K=jr y.hp (H.end_ k s.seq o)) yz ?_ ?_)
   ·rintro _ _ ⟨rfl,rfl⟩
    exact PO
   rintro _ _ ⟨rfl,rfl⟩
   refine cX ?_
   refine gC ?_
   exact Pg
 have hkn:k=C.d_.length:=by omega
 subst hkn
 rw[PW]
 generalize hH2:C.d_.zipIdx.foldl nX C.bO=H
 clear okh hhe
 refine al ?_
 refine VC.loop (σ:=Nat×Option Addr×Nat) (fun s=>[(0,pV p),(43,.slice (some ⟨y.nb,0,none⟩) y.nr.length y.nc),(44,.int .i64 y.nr.length),(45,.int .i64 (s.1:Int))])
  (fun s=>fp p ({ C with bO:=H,done:=(C.nodes.zipIdx.take s.1).foldl iW C.done }:az) { y with da:=s.2.1,dc:=s.2.2 }) (fun s=>s.1≤y.nr.length) (fun s=>y.nr.length-s.1) (0,y.da,y.dc)
  (bH _) aH ER ?_
 rintro⟨k,da,dc⟩ hk0
 dsimp only at hk0
 have hdk:((C.nodes.zipIdx.take k).foldl iW C.done).length≤4096:=az.Ok.J4 hdn fun x hx r hr=>ok.fit r (by
  have:=List.mem_zipIdx' (x:=x.1) (i:=x.2) (List.mem_of_mem_take hx)
  rw[←hr]
  exact ME (by rw[GE this.1,←this.2]))
 refine ae ?_
 refine CP (p:=(k:Int)<y.nr.length) Z (fun h1=>CK ?_) (fun h1=>CX ?_)
 rotate_left
 ·have hkn:k=C.nodes.length:=by omega
  subst hkn
  have hfin:C.behind=({ C with bO:=H,done:=(C.nodes.zipIdx.take C.nodes.length).foldl iW C.done }:az):=by rw[PW,←hH2];rfl
  exact an.void Z (pB (p:=p) (C:=({ C with bO:=H,done:=(C.nodes.zipIdx.take C.nodes.length).foldl iW C.done }:az)) (y:={ y with da:=da,dc:=dc }) (R:=[]) ⟨fit.nr,fit.cr,fit.qc⟩).aj ⟨rfl,by rw[hfin]⟩
 have hkl:k<y.nr.length:=by omega
 have hx2:y.nr[k]?=some y.nr[k]:=GE hkl
 generalize y.nr[k]=z at hx2
 obtain⟨hnx,hns⟩:=xh fit (k:=k) (x:=z) hx2
 have hsu:=PX iW C.done hns
 generalize (C.nodes.zipIdx.take k).foldl iW C.done=d at hdk hsu
 refine CS (VC.bZ (σ:=Option Addr×Nat) (fun _=>[(0,pV p),(43,.slice (some ⟨y.nb,0,none⟩) y.nr.length y.nc),(44,.int .i64 y.nr.length),(45,.int .i64 (k:Int))])
  (fun s=>fp p ({ C with bO:=H,done:=(C.nodes.zipIdx.take (k+1)).foldl iW C.done }:az) { y with da:=s.1,dc:=s.2 }) (fun _=>True) ?_ ?_)
 rotate_left
 ·rintro⟨da',dc'⟩ -
  refine gC ?_
  exact⟨(k+1,da',dc'),by dsimp only;omega,by dsimp only;omega,SC Z (SC Z (SC Z (Sub.int Z yg (SN _)))),ER⟩
 have stay:iW d (z.map Prod.snd,k)=d→fp p ({ C with bO:=H,done:=(C.nodes.zipIdx.take (k+1)).foldl iW C.done }:az) { y with da:=da,dc:=dc }=fp p ({ C with bO:=H,done:=d }:az) { y with da:=da,dc:=dc }:=fun h=>by rw[hsu,h]
 refine p_ ?_
 refine VG (VD Z Z (aw.one 3 Z (rM hx2)) ?_)
 cases z with
 | none=>
  refine ae ?_
  refine VG (VY 52 true Z Z ?_)
  refine yJ ?_
  refine CX ?_
  exact⟨(da,dc),trivial,aH,by dsimp only;rw[stay rfl];exact ER⟩
 | some z=>
 obtain⟨q,r⟩:=z
 have hm:some r∈C.nodes:=ME hns
 have okr:=(ok.fit r hm).ok
 have hcp:(y.nr.map jO)[k]?=some (bo q r):=by rw[dH,hx2];rfl
 have hdN:iW d (some r,k)=if r.since=0∨r.ch.ms.length=0∨vi r.ch.ms≠k∨r.au.done≤d.length then d else d++(r.log.take r.au.done.toNat).drop d.length:=rfl
 show VO _ _ _ _ (bW (some 49) (.pointer (some ⟨q,0,none⟩)) _) _ _
 refine ae ?_
 refine VG (VY 52 false Z Z ?_)
 refine av ?_
 refine VG (VV (fun Fr w hF hw hS=>MF Fr w (((hS.at_ 8 Z).sep).at_ k hcp)) Z ?_)
 refine ae ?_
 refine CP (p:=r.since=0) Z (fun k1=>?_) (fun k1=>CK ?_)
 ·refine CX ?_
  exact⟨(da,dc),trivial,aH,by dsimp only;rw[stay (by show iW d (some r,k)=d;rw[hdN,if_pos (.inl k1)])];exact ER⟩
 refine ae ?_
 refine VG (VK (Lc:=[]) (fun Fr w hF hw hS=>Rep.JF Fr w okr (((hS.at_ 8 Z).sep).at_ k hcp)) Z Z ?_)
 rintro _ _ ⟨ma,mc,rfl,rfl⟩
 refine VO.bz 0 Z (bd.rl aP ma mc r.ch.ms cu) ?_
 rintro⟨ra,rc,rb,rcs,rxs⟩ ⟨rok,rv,rx⟩
 dsimp only at rx
 subst rx
 injection rv with e1 _ e3
 subst e1 e3
 refine ae ?_
 refine VG (VI (KX (v:=.slice ra r.ch.ms.length rc) Tryz.underlying41 Z Z (fun w=>pO (oH.look aC (t:=39) (ti:=T.t39) Z) Z Z w)) ?_)
 refine ae ?_
 by_cases k2:r.ch.ms.length=0
 ·refine VG (VY 63 true Z (DT yg) ?_)
  refine yJ ?_
  refine CX ?_
  exact⟨(da,dc),trivial,aH,by dsimp only;rw[stay (by show iW d (some r,k)=d;rw[hdN,if_pos (.inr (.inl k2))])];exact aa.tail.aj⟩
 have hml:=okr.ch.len
 have hlm:r.ch.ms[r.ch.ms.length-1]?=some r.ch.ms[r.ch.ms.length-1]:=GE yg
 generalize r.ch.ms[r.ch.ms.length-1]=lm at hlm
 have hlq:vi r.ch.ms=lm.1:=by unfold vi;rw[yW,hlm]
 obtain⟨tb,tof,htb,hta,hrd⟩:=RL.Ok.ld (t:=aP) (k:=r.ch.ms.length-1) (x:=lm) rok hlm (cu lm)
 dsimp only at hta
 subst hta
 refine VG (VY 63 false Z (DF yg) ?_)
 refine av ?_
 refine pZ ?_
 rw[show((r.ch.ms.length:Int)-1)=((r.ch.ms.length-1:Nat):Int) by omega]
 refine VG (VI (eE (r.ch.ms.length-1) Z Z Z Z Z Z yg) ?_)
 refine ae ?_
 refine VG (VD Z Z ((hrd 0 Z).2 _ 0 (.int .i64 lm.1) Z Z) ?_)
 refine ae ?_
 refine VC.dp Z (fun k3=>?_) (fun k3=>CK ?_)
 ·refine CX ?_
  exact⟨(da,dc),trivial,aH,by dsimp only;rw[stay (by show iW d (some r,k)=d;rw[hdN,if_pos (.inr (.inr (.inl (by rw[hlq];exact k3))))])];exact aa.tail.aj⟩
 refine ae ?_
 refine VG (VK (Lc:=[]) (fun Fr w hF hw hS=>NN Fr w okr (((hS.at_ 9 Z).sep).at_ k hcp)) Z Z ?_)
 rintro _ _ ⟨wq,rfl,rfl⟩
 refine VG (VV (fun Fr w hF hw hS=>Win.zx Fr w (hS.aA 0 Z) okr.au.dO) Z ?_)
 refine ae ?_
 refine jA ?_
 refine CP (p:=r.au.done≤(d.length:Int)) Z (fun k4=>?_) (fun k4=>CK ?_)
 ·refine CX ?_
  exact⟨(da,dc),trivial,aH,by dsimp only;rw[stay (by show iW d (some r,k)=d;rw[hdN,if_pos (.inr (.inr (.inr k4)))])];exact(aa.trans aa.tail aa.tail).aj⟩
 have hd1:=okr.au.lu
 have hd2:=okr.last
 have hd3:=okr.au.i_
 have hdE:iW d (some r,k)=d++(r.log.drop d.length).take (r.au.done.toNat-d.length):=by
  rw[hdN,if_neg (by rw[hlq];omega),List.drop_take]
 refine ae ?_
 refine VG (VK (Lc:=[]) (fun Fr w hF hw hS=>K6 Fr w okr (((hS.at_ 10 Z).sep).at_ k hcp)) Z Z ?_)
 rintro _ _ ⟨lq,rfl,rfl⟩
 refine ae ?_
 refine Ig ?_
 refine VG (VP Z Z fB fB ?_)
 refine ae ?_
 refine VC.loop (σ:=Nat×Option Addr×Nat) (fun s=>[(0,pV p),(9,.int .i64 r.au.done),(10,pV lq),(11,.int .i64 ((d.length:Int)+1+(s.1:Int))),(43,.slice (some ⟨y.nb,0,none⟩) y.nr.length y.nc),(44,.int .i64 y.nr.length),(45,.int .i64 (k:Int))])
  (fun s=>bL lq r.log::fp p ({ C with bO:=H,done:=d++(r.log.drop d.length).take s.1 }:az) { y with da:=s.2.1,dc:=s.2.2 }) (fun s=>(d.length:Int)+s.1≤r.au.done) (fun s=>(r.au.done-d.length).toNat-s.1) (0,da,dc)
  fB (SC rfl (SC rfl (SC rfl (Sub.int rfl fB aH)))) (by dsimp only;rw[qi,br];exact(aa.cons (aa.trans aa.tail aa.tail)).aj) ?_
 rintro⟨j,da',dc'⟩ hj
 dsimp only at hj ⊢
 refine ae ?_
 refine CP (p:=(d.length:Int)+1+j≤r.au.done) Z (fun k5=>CK ?_) (fun k5=>CX ?_)
 rotate_left
 ·have hjj:j=r.au.done.toNat-d.length:=by omega
  subst hjj
  exact⟨(da',dc'),trivial,aH,by dsimp only;rw[hsu];show dd _ _ (fp p ({ C with bO:=H,done:=iW d (some r,k) }:az) _);rw[hdE];exact aa.tail.aj⟩
 have hle:r.log[d.length+j]?=some r.log[d.length+j]:=GE yg
 generalize r.log[d.length+j]=e0 at hle
 have hat:eQ r.log ((d.length:Int)+1+j)=some e0:=by
  unfold eQ
  rw[if_pos yg,←hle]
  congr 1
  omega
 have htk:d++(r.log.drop d.length).take (j+1)=(d++(r.log.drop d.length).take j) ++ [e0]:=by
  rw[fX,qY,hle,ed]
  rfl
 have hDl:(d++(r.log.drop d.length).take j).length≤10000:=by
  rw[a8,jj,su];omega
 generalize hDD:d++(r.log.drop d.length).take j=D at htk hDl
 refine ae ?_
 refine VG (VV (fun Fr w hF hw hS=>Lg.zn Fr w (hS.at_ 0 Z) ((d.length:Int)+1+j) yg yg) Z ?_)
 rw[hat]
 refine ae ?_
 refine VG (VO.alloc Z fun eb=>?_)
 refine VG (VT (vs:=bm e0) (cs':=bm e0) 0 Z Z Z Z (NR _) Z Z Z ?_)
 refine r_ ?_
 refine CD (ts 0 6 (.only 6 (.only 7 (ts 8 2 (.only 10 .nil))))) yp yr ?_
 refine jh ?_
 refine AG (VA.dE 0 (bm e0) Z Z Z Z Z ?_)
 refine AG (AO (aK.buildSlice (n:=1) (pv:=[(0,.agg (bm e0).toArray)]) (cells:=bm e0) rfl rfl rfl rfl yy (eY rfl rfl rfl)) rfl (fun v L' g=>by obtain⟨nb,rfl,rfl⟩:=g;exact(by(try refine Pd.st ?_);(repeat(first|exact Pd.nil|exact Pd.fnil|refine Pd.inner ?_|refine Pd.skip yr ?_|refine zf (zo 0 rfl rfl) ?_|refine zf (zo 1 rfl rfl) ?_|refine zf (zo 2 rfl rfl) ?_|refine zf (zo 3 rfl rfl) ?_|refine zf (zm 0 rfl rfl) ?_|refine zf (zm 1 rfl rfl) ?_|refine zf (zm 2 rfl rfl) ?_|refine zf (zm 3 rfl rfl) ?_|refine zf (aw.aA (aw.many 1 rfl rfl) rfl) ?_|refine zf ((aw.many 1 rfl rfl)) ?_|refine zc (zo 0 rfl rfl) ?_|refine zc (zo 1 rfl rfl) ?_|refine zc (zo 2 rfl rfl) ?_|refine zc (zo 3 rfl rfl) ?_|refine zc (zm 0 rfl rfl) ?_|refine zc (zm 1 rfl rfl) ?_|refine zc (zm 2 rfl rfl) ?_|refine zc (zm 3 rfl rfl) ?_|refine zc (aw.aA (aw.many 1 rfl rfl) rfl) ?_|refine zc ((aw.many 1 rfl rfl)) ?_)))) ?_)
 rintro _ _ ⟨nb,rfl,rfl⟩
 refine AG (AO (aK.append (m:=1) (news:=bm e0) 10 rfl rfl rfl rfl rfl rfl rfl (dm.pt 0 rfl rfl rfl) rfl (u6 (k:=20000) fB yy) fB) rfl (fun v L' g=>by obtain⟨a2,c2,rfl,hc2,rfl⟩:=g;exact(by(try refine Pd.st ?_);(repeat(first|exact Pd.nil|exact Pd.fnil|refine Pd.inner ?_|refine Pd.skip yr ?_|refine zf (zo 0 rfl rfl) ?_|refine zf (zo 1 rfl rfl) ?_|refine zf (zo 2 rfl rfl) ?_|refine zf (zo 3 rfl rfl) ?_|refine zf (zo 4 rfl rfl) ?_|refine zf (zm 0 rfl rfl) ?_|refine zf (zm 1 rfl rfl) ?_|refine zf (zm 2 rfl rfl) ?_|refine zf (zm 3 rfl rfl) ?_|refine zf (zm 4 rfl rfl) ?_|refine zf (aw.aA (aw.many 2 rfl rfl) rfl) ?_|refine zf ((aw.many 2 rfl rfl)) ?_|refine zc (zo 0 rfl rfl) ?_|refine zc (zo 1 rfl rfl) ?_|refine zc (zo 2 rfl rfl) ?_|refine zc (zo 3 rfl rfl) ?_|refine zc (zo 4 rfl rfl) ?_|refine zc (zm 0 rfl rfl) ?_|refine zc (zm 1 rfl rfl) ?_|refine zc (zm 2 rfl rfl) ?_|refine zc (zm 3 rfl rfl) ?_|refine zc (zm 4 rfl rfl) ?_|refine zc (aw.aA (aw.many 2 rfl rfl) rfl) ?_|refine zc ((aw.many 2 rfl rfl)) ?_)))) ?_)
 rintro _ _ ⟨a2,c2,rfl,hc2,rfl⟩
 refine r6 ?_
 refine AG (VA.st 4 (cs':=jn ({ C with bO:=H,done:=D ++ [e0] }:az) { y with da:=a2,dc:=c2 }) Z Z Z Z Z (by show 18<19;omega) (by unfold jn;dsimp only;rw[a8];rfl) Z (by(try refine Pd.st ?_);(repeat(first|exact Pd.nil|exact Pd.fnil|refine Pd.inner ?_|refine Pd.skip yr ?_|refine zf (zo 0 Z Z) ?_|refine zf (zo 1 Z Z) ?_|refine zf (zo 2 Z Z) ?_|refine zf (zo 3 Z Z) ?_|refine zf (zo 4 Z Z) ?_|refine zf (zm 0 Z Z) ?_|refine zf (zm 1 Z Z) ?_|refine zf (zm 2 Z Z) ?_|refine zf (zm 3 Z Z) ?_|refine zf (zm 4 Z Z) ?_|refine zf (aw.aA (aw.many 2 Z Z) Z) ?_|refine zf ((aw.many 2 Z Z)) ?_|refine zc (zo 0 Z Z) ?_|refine zc (zo 1 Z Z) ?_|refine zc (zo 2 Z Z) ?_|refine zc (zo 3 Z Z) ?_|refine zc (zo 4 Z Z) ?_|refine zc (zm 0 Z Z) ?_|refine zc (zm 1 Z Z) ?_|refine zc (zm 2 Z Z) ?_|refine zc (zm 3 Z Z) ?_|refine zc (zm 4 Z Z) ?_|refine zc (aw.aA (aw.many 2 Z Z) Z) ?_|refine zc ((aw.many 2 Z Z)) ?_))) ?_)
 refine cX ?_
 refine gC ?_
 refine⟨(j+1,a2,c2),by dsimp only;omega,by dsimp only;omega,SC Z (SC Z (SC Z (Sub.int Z yg aH))),?_⟩
 dsimp only
 rw[htk]
 refine aa.aj ?_
 refine IP 3 Z (IP 3 Z (IP 3 Z (IP 3 Z (IP 3 Z (IP 3 Z (IP 3 Z (IP 3 Z ?_)))))))
 rw[fu,a8]
 exact(bb [0,2,2])
end
end Cl
namespace Cl
open Go Vg T Api Ch Rep Conf Lg Rd
attribute [local irreducible] VO VC VA
theorem Dq(C:az){s:dU}(h:s.kind=1):C.step s=C.call s:=by
 unfold az.step
 rw[if_pos h]
theorem Dt(C:az){s:dU}(h:s.kind=2):C.step s=match C.node s.a with
  | none=>(C,C.jy s.a)
  | some r=>((C.setNode s.a (some (iA r C.now).1)).post s.a (gy (iA r C.now).2),0):=by
 unfold az.step
 rw[if_neg cG,if_pos h]<;>rfl
theorem Du(C:az){s:dU}(h:s.kind=3):C.step s=(C.tick,0):=by
 unfold az.step
 rw[if_neg cG,if_neg cG,if_pos h]
theorem Dv(C:az){s:dU}(h:s.kind=4):C.step s=C.ib (s.a,s.b) s.c:=by
 unfold az.step
 rw[if_neg cG,if_neg cG,if_neg cG,if_pos h]
theorem Dw(C:az){s:dU}(h:s.kind=5):C.step s=({ C with aU:=(C.aU.drop (s.a,s.b) s.c).1 },(C.aU.drop (s.a,s.b) s.c).2):=by
 unfold az.step
 rw[if_neg cG,if_neg cG,if_neg cG,if_neg cG,if_pos h]
theorem Dx(C:az){s:dU}(h:s.kind=6):C.step s=({ C with aU:=(C.aU.double (s.a,s.b) s.c).1 },(C.aU.double (s.a,s.b) s.c).2):=by
 unfold az.step
 rw[if_neg cG,if_neg cG,if_neg cG,if_neg cG,if_neg cG,if_pos h]
theorem Dy(C:az){s:dU}(h:s.kind=7):C.step s=if C.jy s.a≠0 then (C,C.jy s.a) else (C.setNode s.a none,0):=by
 unfold az.step
 rw[if_neg cG,if_neg cG,if_neg cG,if_neg cG,if_neg cG,if_neg cG,if_pos h]
theorem Dz(C:az){s:dU}(h:s.kind=8):C.step s=(({ C with aG:=(C.aG.fI s.a).1 }:az).post 16 (C.aG.fI s.a).2.1,(C.aG.fI s.a).2.2):=by
 unfold az.step
 rw[if_neg cG,if_neg cG,if_neg cG,if_neg cG,if_neg cG,if_neg cG,if_neg cG,if_pos h]
theorem DA(C:az){s:dU}(h:s.kind=9):C.step s=C.join s.a:=by
 unfold az.step
 rw[if_neg cG,if_neg cG,if_neg cG,if_neg cG,if_neg cG,if_neg cG,if_neg cG,if_neg cG,if_pos h]
theorem Dr(C:az){s:dU}(h:s.kind=10):C.step s=(({ C with aG:=(C.aG.drain s.a).1 }:az).post 16 (C.aG.drain s.a).2.1,(C.aG.drain s.a).2.2):=by
 unfold az.step
 rw[if_neg cG,if_neg cG,if_neg cG,if_neg cG,if_neg cG,if_neg cG,if_neg cG,if_neg cG,if_neg cG,if_pos h]
theorem Ds(C:az){s:dU}(h:s.kind=11):C.step s=(({ C with aG:=(C.aG.tick C.now).1 }:az).post 16 (C.aG.tick C.now).2,0):=by
 unfold az.step
 rw[if_neg cG,if_neg cG,if_neg cG,if_neg cG,if_neg cG,if_neg cG,if_neg cG,if_neg cG,if_neg cG,if_neg cG,if_pos h]
theorem DB(C:az){s:dU}(h:∀k:Nat,1≤k→k≤11→s.kind≠k):C.step s=(C,2):=by
 unfold az.step
 rw[if_neg (show ¬s.kind=1 from h 1 yy yy),if_neg (show ¬s.kind=2 from h 2 yy yy),if_neg (show ¬s.kind=3 from h 3 yy yy),if_neg (show ¬s.kind=4 from h 4 yy yy),if_neg (show ¬s.kind=5 from h 5 yy yy),if_neg (show ¬s.kind=6 from h 6 yy yy),if_neg (show ¬s.kind=7 from h 7 yy yy),if_neg (show ¬s.kind=8 from h 8 yy yy),if_neg (show ¬s.kind=9 from h 9 yy yy),if_neg (show ¬s.kind=10 from h 10 yy yy),if_neg (show ¬s.kind=11 from h 11 yy yy)]
theorem Ht{C:az}{n:Int}(h:C.jy n=0):∃(k:Nat) (r:ay),n=k∧C.nodes[k]?=some (some r)∧C.node n=some r:=by
 unfold az.jy at h
 split at h
 ·cases h
 ·rename_i h1
  split at h
  ·cases h
  ·rename_i h2
   cases hn:C.node n with
   | none=>rw[hn] at h2;exact absurd rfl h2
   | some r=>
    refine⟨n.toNat,r,by omega,?_,Z⟩
    unfold az.node at hn
    rw[if_neg yg] at hn
    cases hx:C.nodes[n.toNat]? with
    | none=>rw[hx] at hn;cases hn
    | some x=>rw[hx] at hn;obtain rfl:x=some r:=hn;rfl
theorem ND{C:az}{n:Int}(h:C.jy n≠0):C.node n=none:=by
 unfold az.jy at h
 split at h
 ·rename_i h1
  unfold az.node
  split
  ·rfl
  ·rw[kr yg];rfl
 ·split at h
  ·rename_i h2
   cases hn:C.node n with
   | none=>rfl
   | some r=>rw[hn] at h2;cases h2
  ·exact absurd Z h
section
variable {p:Nat} {C:az} {y:fJ} {b e:Nat}
theorem Gq(fit:fY C y){k:Nat}{r:ay}(h:C.nodes[k]?=some (some r)):∃q,y.nr[k]?=some (some (q,r)):=by
 rw[←fit.nr,dH] at h
 cases hz:y.nr[k]? with
 | none=>rw[hz] at h;cases h
 | some z=>
  rw[hz] at h
  cases z with
  | none=>cases h
  | some z=>cases h;exact⟨z.1,rfl⟩
theorem Rg(fit:fY C y){k:Nat}(hk:k<y.nr.length){R:List HP}:aa ([pt p (jn C y) sJ,iq y.qa y.qc C.de.qs,cC y.mp C.aG,pt y.nb (flat ja (y.nr.set k none)++y.nx) rT,pt y.cb (flat nU y.cr++y.cx) sK,cH y.lp C.aU,jr y.hp C.bO,aq dK 7 y.da C.done.length y.dc (flat bm C.done),bF (y.nr.map jO),bF (y.cr.map oL)]++R) [ek p (C.setNode k none)]:=by
 have hz:y.nr[k]?=some y.nr[k]:=GE hk
 have e1:=Gn (C:=C) (y:=y) (k:=k) (x:=none) (C.setNode k none) rfl rfl rfl
 refine aa.trans (aa.app (M:=_) (M':=[]) (IP 8 Z aa.refl) aa.nil) ?_
 refine aa.trans (aa.of_eq (br _)) ?_
 refine aa.trans (Ag (f:=jO) hz) ?_
 refine aa.trans aa.tail ?_
 refine aa.trans (M:=jO none::bF ((y.nr.eraseIdx k).map jO)::_) (aa.pure trivial aa.refl) ?_
 refine aa.trans (Af (f:=jO) hk none) ?_
 refine aa.tQ (K:=[]) (y.node k none) ⟨by show(y.nr.set k none).map _=C.nodes.set k none;rw[gZ,fit.nr];rfl,fit.cr,fit.qc⟩ ?_
 unfold fp
 rw[e1]
 exact(bb [1,1,1,1,1,1,1,1,0,0])
theorem abd(ok:C.Ok b e)(hb:b<100000)(he:e<1000000)(s:dU):ax Tryz.prog 20 [.pointer (some ⟨p,0,none⟩),.agg s.cells.toArray] Fr w [ek p C]
  (fun v L=>v=.int .i64 (C.step s).2∧L=[ek p (C.step s).1]):=by
 refine TF 151 Tryz.func20 Z yp aC Z Z ?_
 refine CS (CG (VG (VB (vs:=s.cells) Z fun sb=>?_)))
 have bz:∀{c:Code} {e:Env} {Q:Exit→Env→List HP→Prop},(∀y,fY C y→VC ⟨Tryz.prog,tab,aC,151,Fr,w⟩ c e (pt sb s.cells jU::fp p C y) Q)→VC ⟨Tryz.prog,tab,aC,151,Fr,w⟩ c e [pt sb s.cells jU,ek p C] Q:=fun h=>by
  refine VC.bz 1 Z (bd.tQ p C) ?_
  rintro y fit
  exact CN (IP 10 Z aa.refl).aj (h y fit)
 refine al ?_
 refine CP (p:=s.kind=1) Z (fun h=>?_) (fun h1=>?_)
 ·have hr:=Dq C h
  refine ae ?_
  refine VG (VL 0 s.cells Z Z Z Z ?_)
  refine VG (VQ 1 Z (fun Fr w hF hs hS=>aa1 Fr w ok hb he s) Z (ψ:=fun v H=>v=.int .i64 (C.call s).2∧H=ek p (C.call s).1) yz ?_)
  rintro _ _ ⟨rfl,rfl⟩
  refine ae ?_
  exact CR (an.tmp 4 Z Z (aa.tail (H:=pt sb _ jU) (L:=[ek p (C.call s).1])).aj ⟨by rw[hr],by rw[hr]⟩)
 refine ae ?_
 refine CP (p:=s.kind=2) Z (fun h=>?_) (fun h2=>?_)
 ·have hr:=Dt C h
  refine bz fun y fit=>?_
  refine al ?_
  refine Ph ?_
  refine ae ?_
  refine VC.dp Z (fun k1=>?_) (fun k1=>CK ?_)
  ·rw[ND k1] at hr
   refine ae ?_
   exact Pj
  obtain⟨k,r,hk,hkr,hnr⟩:=Ht (C:=C) (n:=s.a) tx
  obtain⟨q,hx⟩:=Gq fit hkr
  have hkl:=(bP.1 hx).1
  have hm:some r∈C.nodes:=ME hkr
  have okr:=(ok.fit r hm).ok
  have fw:ff (gy (iA r C.now).2):=ff.of (Xn okr C.now)
  rw[hnr] at hr
  dsimp only at hr
  obtain⟨kd,sa,sx,sc,op⟩:=s
  dsimp only at hk hr k1
  subst hk
  refine CN (L':=pt sb (⟨kd,k,sx,sc,op⟩:dU).cells jU::bo q r::tT p C y k C.aU) (aa.cons (Gr hx)).aj ?_
  refine CD (ts 0 15 (.only 15 (.only 16 .nil))) yp yr ?_
  refine jh ?_
  refine Is ?_
  refine AG (yE Z Z Z (aw.one 5 Z (rM hx)) ?_)
  refine jh ?_
  refine AG (AQ 1 Z (fun Fr w hF hs hS=>abr Fr w okr C.now) Z Z pe ?_ ?_)
  ·rintro _ _ ⟨X,a,c,hX,rfl,rfl⟩
   exact PR
  rintro _ _ ⟨X,a,c,hX,rfl,rfl⟩
  refine AG (AQ 7 Z (fun Fr w hF hs hS=>pW Fr w (hS.aA 2 Z) ok.aU k (mE.at_ 1 hS Z hX fw)) Z Z (ψ:=fun v H=>v=.tuple #[]∧H=cH y.lp (b_ k C.aU (X.map Prod.fst))) yz ?_ ?_)
  ·rintro _ _ ⟨rfl,rfl⟩
   exact PR
  rintro _ _ ⟨rfl,rfl⟩
  rw[hX]
  refine pf ?_
  exact CR (an.tmp 4 Z Z (aa.trans (aa.tail (H:=pt sb _ jU)) (LV (p:=p) (r':=(iA r C.now).1) (l:=b_ k C.aU (gy (iA r C.now).2)) (a:=a) (c:=c) (X:=X) (R:=[]) fit hx)).aj ⟨by rw[hr],by rw[hr];rfl⟩)
 refine ae ?_
 refine CP (p:=s.kind=3) Z (fun h=>?_) (fun h3=>?_)
 ·have hr:=Du C h
  refine ae ?_
  refine VG (VQ 1 Z (fun Fr w hF hs hS=>abf Fr w ok) Z (ψ:=fun v H=>v=.tuple #[]∧H=ek p C.tick) yz ?_)
  rintro _ _ ⟨rfl,rfl⟩
  refine ae ?_
  exact CR (an.tmp 4 Z Z (aa.tail (H:=pt sb _ jU) (L:=[ek p C.tick])).aj ⟨by rw[hr],by rw[hr]⟩)
 refine ae ?_
 refine CP (p:=s.kind=11) Z (fun h=>?_) (fun h11=>?_)
 ·have hr:=Ds C h
  refine bz fun y fit=>?_
  refine It ?_
  have fw:=ok.aG.AL C.now
  refine CD (ts 0 9 (.only 9 (.only 10 .nil))) yp yr ?_
  refine jh ?_
  refine AG (AQ 1 Z (fun Fr w hF hs hS=>abp Fr w ok.aG C.now) Z Z pe ?_ ?_)
  ·rintro _ _ ⟨X,a,c,hX,rfl,rfl⟩
   exact yu
  rintro _ _ ⟨X,a,c,hX,rfl,rfl⟩
  refine AG (AQ 6 Z (fun Fr w hF hs hS=>pW Fr w (hS.aA 2 Z) ok.aU 16 (mE.at_ 1 hS Z hX fw)) Z Z (ψ:=fun v H=>v=.tuple #[]∧H=cH y.lp (b_ 16 C.aU (X.map Prod.fst))) yz ?_ ?_)
  ·rintro _ _ ⟨rfl,rfl⟩
   exact yu
  rintro _ _ ⟨rfl,rfl⟩
  rw[hX]
  refine pf ?_
  exact CR (an.tmp 4 Z Z (aa.trans (aa.tail (H:=pt sb _ jU)) (xd (p:=p) (C:=C) (m:=(C.aG.tick C.now).1) (l:=b_ 16 C.aU (C.aG.tick C.now).2) (a:=a) (c:=c) (X:=X) (R:=[]) fit)).aj ⟨by rw[hr],by rw[hr];rfl⟩)
 refine ae ?_
 refine CP (p:=s.kind=4) Z (fun h=>?_) (fun h4=>?_)
 ·have hr:=Dv C h
  refine al ?_
  refine VG (VQ 1 Z (fun Fr w hF hs hS=>aa2 Fr w ok yg s.a s.b s.c) Z (ψ:=fun v H=>v=.int .i64 (C.ib (s.a,s.b) s.c).2∧H=ek p (C.ib (s.a,s.b) s.c).1) yz ?_)
  rintro _ _ ⟨rfl,rfl⟩
  refine ae ?_
  exact CR (an.tmp 4 Z Z (aa.tail (H:=pt sb _ jU) (L:=[ek p (C.ib (s.a,s.b) s.c).1])).aj ⟨by rw[hr],by rw[hr]⟩)
 refine ae ?_
 refine CP (p:=s.kind=5) Z (fun h=>?_) (fun h5=>?_)
 ·have hr:=Dw C h
  refine bz fun y fit=>?_
  refine ae ?_
  refine CD (ts 0 10 (.only 10 (ts 11 1 .nil))) yp yr ?_
  refine fj ?_
  refine AG (AQ 6 Z (fun Fr w hF hs hS=>TA Fr w ok.aU s.a s.b s.c) Z Z (ψ:=fun v H=>v=.int .i64 (C.aU.drop (s.a,s.b) s.c).2∧H=cH y.lp (C.aU.drop (s.a,s.b) s.c).1) yz ?_ ?_)
  ·rintro _ _ ⟨rfl,rfl⟩
   exact yu
  rintro _ _ ⟨rfl,rfl⟩
  refine fj ?_
  refine ae ?_
  exact CR (an.tmp 4 Z Z (aa.trans (aa.tail (H:=pt sb _ jU)) (pB (p:=p) (C:=({ C with aU:=(C.aU.drop (s.a,s.b) s.c).1 }:az)) (y:=y) (R:=[]) ⟨fit.nr,fit.cr,fit.qc⟩)).aj ⟨by rw[hr],by rw[hr]⟩)
 refine ae ?_
 refine CP (p:=s.kind=6) Z (fun h=>?_) (fun h6=>?_)
 ·have hr:=Dx C h
  refine bz fun y fit=>?_
  refine ae ?_
  refine CD (ts 0 10 (.only 10 (ts 11 1 .nil))) yp yr ?_
  refine fj ?_
  refine AG (AQ 6 Z (fun Fr w hF hs hS=>Tz Fr w ok.aU s.a s.b s.c) Z Z (ψ:=fun v H=>v=.int .i64 (C.aU.double (s.a,s.b) s.c).2∧H=cH y.lp (C.aU.double (s.a,s.b) s.c).1) yz ?_ ?_)
  ·rintro _ _ ⟨rfl,rfl⟩
   exact yu
  rintro _ _ ⟨rfl,rfl⟩
  refine fj ?_
  refine ae ?_
  exact CR (an.tmp 4 Z Z (aa.trans (aa.tail (H:=pt sb _ jU)) (pB (p:=p) (C:=({ C with aU:=(C.aU.double (s.a,s.b) s.c).1 }:az)) (y:=y) (R:=[]) ⟨fit.nr,fit.cr,fit.qc⟩)).aj ⟨by rw[hr],by rw[hr]⟩)
 refine ae ?_
 refine CP (p:=s.kind=7) Z (fun h=>?_) (fun h7=>?_)
 ·have hr:=Dy C h
  refine bz fun y fit=>?_
  refine al ?_
  refine Ph ?_
  refine ae ?_
  refine VC.dp Z (fun k1=>?_) (fun k1=>CK ?_)
  ·rw[if_pos k1] at hr
   refine ae ?_
   exact Pj
  rw[if_neg (fun g=>g tx)] at hr
  obtain⟨k,r,hk,hkr,hnr⟩:=Ht (C:=C) (n:=s.a) tx
  obtain⟨q,hx⟩:=Gq fit hkr
  have hkl:=(bP.1 hx).1
  obtain⟨kd,sa,sx,sc,op⟩:=s
  dsimp only at hk hr k1
  subst hk
  refine CD (ts 0 7 (.only 7 .nil)) yp yr ?_
  refine fj ?_
  refine Is ?_
  refine AG (VA.st 4 (cs':=flat ja (y.nr.set k none)++y.nx) Z Z Z Z Z PM (LS none hkl y.nx) Z yu ?_)
  refine pf ?_
  exact CR (an.tmp 4 Z Z (aa.trans (aa.tail (H:=pt sb _ jU)) (Rg (p:=p) (C:=C) (R:=[]) fit hkl)).aj ⟨by rw[hr],by rw[hr]⟩)
 refine ae ?_
 refine CP (p:=s.kind=8) Z (fun h=>?_) (fun h8=>?_)
 ·have hr:=Dz C h
  refine bz fun y fit=>?_
  refine It ?_
  have fw:=(ok.aG.Nh s.a).1
  refine ae ?_
  refine CD (ts 0 6 (.only 6 (ts 7 5 .nil))) yp yr ?_
  refine jh ?_
  refine AG (AQ 1 Z (fun Fr w hF hs hS=>abt Fr w ok.aG s.a) Z Z pe ?_ ?_)
  ·rintro _ _ ⟨X,a,c,hX,rfl,rfl⟩
   exact yu
  rintro _ _ ⟨X,a,c,hX,rfl,rfl⟩
  refine jh ?_
  refine ae ?_
  refine Pk ?_
  rintro _ _ ⟨rfl,rfl⟩
  rw[hX]
  refine ae ?_
  exact CR (an.tmp 4 Z Z (aa.trans (aa.tail (H:=pt sb _ jU)) (xd (p:=p) (C:=C) (m:=(C.aG.fI s.a).1) (l:=b_ 16 C.aU (C.aG.fI s.a).2.1) (a:=a) (c:=c) (X:=X) (R:=[]) fit)).aj ⟨by rw[hr],by rw[hr];rfl⟩)
 refine ae ?_
 refine CP (p:=s.kind=9) Z (fun h=>?_) (fun h9=>?_)
 ·have hr:=DA C h
  refine al ?_
  refine VG (VQ 1 Z (fun Fr w hF hs hS=>aa5 Fr w ok yg s.a) Z (ψ:=fun v H=>v=.int .i64 (C.join s.a).2∧H=ek p (C.join s.a).1) yz ?_)
  rintro _ _ ⟨rfl,rfl⟩
  refine ae ?_
  exact CR (an.tmp 4 Z Z (aa.tail (H:=pt sb _ jU) (L:=[ek p (C.join s.a).1])).aj ⟨by rw[hr],by rw[hr]⟩)
 refine ae ?_
 refine CP (p:=s.kind=10) Z (fun h=>?_) (fun h10=>?_)
 ·have hr:=Dr C h
  refine bz fun y fit=>?_
  refine It ?_
  have fw:=(ok.aG.J9 s.a).1
  refine ae ?_
  refine CD (ts 0 6 (.only 6 (ts 7 5 .nil))) yp yr ?_
  refine jh ?_
  refine AG (AQ 1 Z (fun Fr w hF hs hS=>abl Fr w ok.aG s.a) Z Z pe ?_ ?_)
  ·rintro _ _ ⟨X,a,c,hX,rfl,rfl⟩
   exact yu
  rintro _ _ ⟨X,a,c,hX,rfl,rfl⟩
  refine jh ?_
  refine ae ?_
  refine Pk ?_
  rintro _ _ ⟨rfl,rfl⟩
  rw[hX]
  refine ae ?_
  exact CR (an.tmp 4 Z Z (aa.trans (aa.tail (H:=pt sb _ jU)) (xd (p:=p) (C:=C) (m:=(C.aG.drain s.a).1) (l:=b_ 16 C.aU (C.aG.drain s.a).2.1) (a:=a) (c:=c) (X:=X) (R:=[]) fit)).aj ⟨by rw[hr],by rw[hr];rfl⟩)
 refine ae ?_
 have hr:=DB C (s:=s) (fun k k1 k2=>by
  rcases(by omega:k=1∨k=2∨k=3∨k=4∨k=5∨k=6∨k=7∨k=8∨k=9∨k=10∨k=11) with rfl | rfl | rfl | rfl | rfl | rfl | rfl | rfl | rfl | rfl | rfl<;>assumption)
 exact CR (an.tmp 4 Z Z aa.tail.aj ⟨by rw[hr],by rw[hr]⟩)
end
end Cl
namespace Cl
open Go Vg T Api Ch Rep Conf Lg Rd Win Kv Adm
def wz(g:Gh)(p:Int)(t:ByteArray):Prop:=∀(f:aB) (ms:List aS),getM (sB t)=some (f,ms)→fK g p f ms
def jD(g:Gh)(S:aX):Prop:=∀x∈S.mail,∀t∈x.2,wz g x.1.1 t
namespace jD
variable {g:Gh} {S:aX}
theorem up{g':Gh}(h0:0<g.H.length)(l:g.Le g')(h:jD g S):jD g' S:=fun x hx t ht f ms hf=>(h x hx t ht f ms hf).up h0 l
theorem list(h:jD g S){p:bE}:∀t∈S.list p,wz g p.1 t:=fun t ht=>by
 unfold aX.list at ht
 cases hg:bX S.mail p with
 | none=>rw[hg] at ht;cases ht
 | some l=>rw[hg] at ht;exact h _ (ue hg) t ht
theorem put(h:jD g S){p:bE}{l:List ByteArray}(hl:∀t∈l,wz g p.1 t):jD g { S with mail:=cS S.mail p l }:=fun x hx=>by
 rcases Ac hx with h3 | h3
 ·exact h x h3
 ·rw[h3];exact hl
theorem send(h:jD g S){p:bE}{t:ByteArray}(ht:wz g p.1 t):jD g (S.send p t):=by
 unfold aX.send
 split
 ·exact h
 ·refine h.put fun u hu=>?_
  rcases eP.1 hu with hu | hu
  ·exact h.list u hu
  ·rw[fe.1 hu];exact ht
theorem found(h:jD g S){p:bE}{i:Int}{t:ByteArray}(hf:S.find p i=some t):wz g p.1 t:=by
 unfold aX.find at hf
 split at hf
 ·cases hf
 ·exact h.list t (ME hf)
theorem fA(h:jD g S)(p:bE)(i:Int):jD g (S.fA p i):=by
 have h':jD g { S with mail:=cS S.mail p ((S.list p).eraseIdx i.toNat) }:=h.put fun u hu=>h.list u (List.mem_of_mem_eraseIdx hu)
 unfold aX.fA
 split
 ·exact fun x hx=>h' x (Cu hx)
 ·exact h'
theorem drop(h:jD g S)(p:bE)(i:Int):jD g (S.drop p i).1:=by
 unfold aX.drop
 split
 ·exact h
 ·exact h.fA p i
theorem double(h:jD g S)(p:bE)(i:Int):jD g (S.double p i).1:=by
 unfold aX.double
 cases hf:S.find p i with
 | none=>exact h
 | some t=>exact h.send (h.found hf)
theorem b_(h:jD g S){from_:Int}{l:List dJ}(hl:∀s∈l,fK g from_ s.2.1 s.2.2):jD g (Cl.b_ from_ S l):=by
 unfold Cl.b_
 induction l generalizing S with
 | nil=>exact h
 | cons s l ih=>
  refine ih ?_ fun x hx=>hl x (kW _ hx)
  unfold oX
  split
  ·exact h
  ·rename_i t ht
   exact h.send fun f ms hf=>(hl s (qZ ..)).back (Wd ht (by rw[MP] at hf;exact hf))
end jD
def oD(S:List dJ):Prop:=∀s∈S,s.2.1.kind=1∨s.2.1.kind=7
namespace oD
theorem nil:oD []:=fun s hs=>by cases hs
theorem ask:oD BN:=fun s hs=>.inr (by rw[fe.1 hs])
theorem im(s:aW)(r now:Int):oD (s.im r now).2:=by
 unfold aW.im
 split
 ·exact ask
 split
 ·exact nil
 ·exact ask
theorem bD(s:aW)(now:Int):oD (s.bD now).2:=fun x hx=>.inl (by rw[fe.1 hx];rfl)
theorem call(s:aW)(o:bw)(cl d now:Int):oD (s.call o cl d now).2:=by
 unfold aW.call
 split
 ·exact nil
 split
 ·exact bD _ _
 ·exact ask
theorem take(s:aW)(f:aB)(ms:List aS)(now:Int):oD (s.take f ms now).2:=by
 unfold aW.take
 split
 ·split
  ·exact nil
  split
  ·exact bD _ _
  ·exact nil
 split
 ·split
  ·exact nil
  ·exact nil
 split
 ·split
  ·unfold aW.refused
   split
   ·exact im _ _ _
   split
   ·exact ask
   ·exact im _ _ _
  ·exact nil
 ·exact nil
theorem tick(s:aW)(now:Int):oD (s.tick now).2:=by
 unfold aW.tick
 split
 ·split
  ·exact im _ _ _
  ·exact nil
 split
 ·split
  ·exact nil
  split
  ·exact ask
  ·exact ask
 split
 ·split
  ·exact ask
  ·exact nil
 ·exact nil
theorem msg{S:List dJ}(h:oD S)(g:Gh)(p:Int):∀s∈S,fK g p s.2.1 s.2.2:=fun s hs=>by
 rcases h s hs with k | k
 ·exact od 1 k yy
 ·exact od 7 k yy
end oD
def sy(g:Gh)(d:List bf):Prop:=d=[]∨∃(e:Nat) (t:aS),(g.ch e).getLast?=some t∧d <+: g.X e t
theorem sy.up{g g':Gh}(l:g.Le g'){d:List bf}(h:sy g d):sy g' d:=by
 rcases h with h | ⟨e,t,h1,h2⟩
 ·exact .inl h
 ·refine .inr ⟨e,t,?_,h2.trans (l.X e t)⟩
  rw[l.ch (wJ (EL h1))]
  exact h1
theorem sy.JW{g:Gh}(hg:ee g){p:aS}(hp:p∈g.ch (g.H.length-1))(hw:EW g p){d:List bf}(h:sy g d):d <+: g.G p:=by
 rcases h with h | ⟨e,t,h1,h2⟩
 ·rw[h];exact List.nil_prefix
 ·exact h2.trans (hg.JX hp hw h1)
structure cR(C:az)(g:Gh):Prop where
 m:gq g C.aG
 oe:∀(n:Nat) (R:ay),C.nodes[n]?=some (some R)→cD g n R
 mail:jD g C.aU
 done:sy g C.done
theorem gq.up{g g':Gh}{M:aI}(h:gq g M)(hg:ee g')(l:g.Le g')(hH:g'.H=g.H):gq g' M:=⟨hg,by rw[hH];exact h.top,fun k k1 k2=>(h.kw k k1 k2).up l,by
 obtain⟨k,k1,k2⟩:=h.z
 exact⟨k,k1,k2.up l⟩⟩
namespace cR
variable {C:az} {g g':Gh}
theorem xg(h:cR C g){n:Int}{R:ay}(hn:C.node n=some R):0≤n∧cD g n.toNat R:=by
 unfold az.node at hn
 split at hn
 ·cases hn
 ·cases hx:C.nodes[n.toNat]? with
  | none=>rw[hx] at hn;cases hn
  | some x=>
   rw[hx] at hn
   obtain rfl:x=some R:=hn
   exact⟨by omega,h.oe _ _ hx⟩
theorem ny(h:cR C g){l:aX}(hl:jD g l):cR { C with aU:=l } g:=⟨h.m,h.oe,hl,h.done⟩
theorem post(h:cR C g){n:Int}{S:List dJ}(hS:∀s∈S,fK g n s.2.1 s.2.2):cR (C.post n S) g:=h.ny (h.mail.b_ hS)
theorem node(h:cR C g){n:Int}(h0:0≤n){Q:ay}{S:List cm}(t:eh g n.toNat Q S g'):cR ((C.setNode n (some Q)).post n (gy S)) g':=by
 have hs:cR (C.setNode n (some Q)) g':=by
  refine⟨h.m.up t.gi t.le t.H,fun m R hm=>?_,h.mail.up h.m.gi.pos t.le,h.done.up t.le⟩
  have hm:(C.nodes.set n.toNat (some Q))[m]?=some (some R):=hm
  rw[wi] at hm
  split at hm
  ·rename_i e
   split at hm
   ·cases hm
    rw[←e];exact t.nd
   ·cases hm
  ·rename_i hne
   exact(h.oe m R hm).up t.le fun s=>t.qI _ fB
 refine hs.post fun s hs=>?_
 unfold gy at hs
 obtain⟨x,hx,rfl⟩:=cy.1 hs
 have:=t.snd x hx
 rwa[Int.toNat_of_nonneg h0] at this
theorem uf(h:cR C g){M:aI}(hm:gq g' M)(x:Ext g g'):cR { C with aG:=M } g':=
 ⟨hm,fun n R hn=>(h.oe n R hn).up x.le fun s=>⟨x.V _,x.G _⟩,h.mail.up h.m.gi.pos x.le,h.done.up x.le⟩
theorem ka(h:cR C g){M:aI}{S:List dJ}(t:sD g M S g'):cR (({ C with aG:=M }:az).post 16 S) g':=(h.uf t.i t.x).post t.s
theorem eS(h:cR C g)(n:Int)(s:aW):cR (C.jv n s) g:=⟨h.m,h.oe,h.mail,h.done⟩
theorem bY(h:cR C g)(n:Nat):cR (C.bY n) g:=by
 unfold az.bY
 split
 ·exact h
 ·rename_i r hr
  have hm:C.nodes[n]?=some (some r):=by
   cases hx:C.nodes[n]? with
   | none=>rw[hx] at hr;cases hr
   | some x=>rw[hx] at hr;obtain rfl:x=some r:=hr;rfl
  have t:=aaK h.m.gi (h.oe n r hm)
  exact h.node (n:=(n:Int)) yg (by rw[ea];exact t)
theorem gX(h:cR C g)(n:Nat):cR (C.gX n) g:=by
 unfold az.gX
 split
 ·exact h
 ·exact(h.eS n _).post ((oD.tick _ _).msg g _)
theorem xM(h:cR C g)(l:List Nat):cR (l.foldl az.bY C) g:=by
 induction l generalizing C with
 | nil=>exact h
 | cons x l ih=>exact ih (h.bY x)
theorem xL(h:cR C g)(l:List Nat):cR (l.foldl az.gX C) g:=by
 induction l generalizing C with
 | nil=>exact h
 | cons x l ih=>exact ih (h.gX x)
theorem tick(h:cR C g):cR C.tick g:=by
 have h':cR ({ C with now:=min (C.now+1) 1099511627776 }:az) g:=⟨h.m,h.oe,h.mail,h.done⟩
 exact(h'.xM _).xL _
theorem ig(h:cR C g){from_:Int}(to:Int){f:aB}{ms:List aS}(hM:fK g from_ f ms):∃g',cR (C.ig from_ to f ms) g':=by
 unfold az.ig
 split
 ·rename_i e
  rw[e]
  obtain⟨g',t⟩:=h.m.take from_ hM C.now
  exact⟨g',h.ka t⟩
 split
 ·rename_i r hr
  obtain⟨h0,hN⟩:=h.xg hr
  obtain⟨g',t⟩:=aaz hN h.m.gi from_ hM C.now
  exact⟨g',h.node h0 t⟩
 split
 ·exact⟨g,(h.eS _ _).post ((oD.take _ _ _ _).msg g _)⟩
 ·exact⟨g,h⟩
theorem lE(h:cR C g){from_:Int}(to:Int){t:ByteArray}(ht:wz g from_ t):∃g',cR (C.lE from_ to t) g':=by
 unfold az.lE
 split
 ·rename_i f ms hf
  exact h.ig to (ht f ms hf)
 ·exact⟨g,h⟩
theorem ib(h:cR C g)(p:bE)(i:Int):∃g',cR (C.ib p i).1 g':=by
 unfold az.ib
 split
 ·exact⟨g,h⟩
 ·rename_i t ht
  exact(h.ny (h.mail.fA p i)).lE p.2 (h.mail.found ht)
theorem back(h:cR C g)(n:Int)(hv:∀s:Int,(n,s)∈C.aG.ch.ms→g.V (n,s)=0):∃g',cR (C.back n) g'∧g.Le g'∧g'.H=g.H∧(C.back n).aG=C.aG:=by
 unfold az.back
 split
 ·rename_i hu
  have h0:0≤n:=by
   unfold az.jy at hu
   split at hu
   ·cases hu
   ·omega
  obtain⟨e,q1,q2,q3,q4⟩:=h.m.at_
  obtain⟨k,kz,_⟩:=h.m.z
  have he1:1≤e:=h.m.gi.eR.pos (by rw[←q4] at kz;exact kz)
  have v:=h.m.gi.eR.ok e _ q2 he1
  have er:cU (cJ C.de n true) 16 (jH C.aG.ch) C.aG.ch.ms C.now=pD (cJ C.de n true) C.aG.ch:=by
   have ef:n_ (jH C.aG.ch) C.aG.ch.ms=C.aG.ch:=rfl
   unfold cU
   rw[if_neg (show ¬(jH C.aG.ch).kind=1 from fun e0=>by cases e0),if_pos (show(jH C.aG.ch).kind=8 from rfl),ef,if_pos ⟨⟨rfl,zv.2 v⟩,by show(0:Int)<C.aG.ch.ar;omega⟩]
  have hR:cJ C.de n true=iv C.de n:=rfl
  obtain⟨g',t⟩:=Kd (R:=cJ C.de n true) (v0:=0) (n:=n.toNat) h.m.gi (by rw[hR];show n=_;omega) q2 he1 (bH _) (fun hs=>absurd rfl hs) (fun i x hx=>by cases hx) (fun w=>by cases w) (fun s hs=>by
   by_cases hh:s≤e
   ·exact hh
   ·exact absurd (h.m.gi.xO _ fB) hs) (fun s hs _=>by
   rw[Int.toNat_of_nonneg h0] at hs ⊢
   rw[q4] at hs
   exact hv s hs) rfl
  rw[er]
  exact⟨g',h.node h0 t,t.le,t.H,Z⟩
 ·exact⟨g,h,Gh.Le.refl g,Z,Z⟩
theorem join(h:cR C g)(n:Int):∃g',cR (C.join n).1 g':=by
 unfold az.join
 dsimp only
 split
 ·exact⟨g,h⟩
 ·rename_i hj
  have hj:(C.aG.join n C.now).2.2=0:=by omega
  unfold aI.join at hj ⊢
  split at hj
  ·cases hj
  split at hj
  ·rename_i h1;exact absurd hj h1
  rename_i h1 h2
  rw[if_neg h1,if_neg h2]
  have h2:(fy C.aG.ch n).2=0:=by omega
  obtain⟨k1,k2,k3⟩:=h.m.iJ C.now h2
  obtain⟨g',b1,b2,b3,b4⟩:=(h.uf k1 k2).back n fun s hs=>by rw[k2.V];exact k3 s hs
  refine⟨g',b1.post fun s hs=>?_⟩
  exact(k1.all s hs).up k1.gi.pos b2
theorem call(h:cR C g)(s:dU):cR (C.call s).1 g:=by
 unfold az.call
 split
 ·exact h
 rename_i x hx
 split
 ·exact h
 ·have h2:cR ({ C.jv s.a (x.call s.op s.b (C.dead s.c) C.now).1 with bO:=C.bO.call s.a (x.call s.op s.b (C.dead s.c) C.now).1.seq s.op }:az) g:=⟨h.m,h.oe,h.mail,h.done⟩
  exact h2.post ((oD.call _ _ _ _ _).msg g _)
theorem step(h:cR C g)(s:dU):∃g',cR (C.step s).1 g':=by
 by_cases k1:s.kind=1
 ·rw[Dq C k1];exact⟨g,h.call s⟩
 by_cases k2:s.kind=2
 ·rw[Dt C k2]
  cases hr:C.node s.a with
  | none=>exact⟨g,h⟩
  | some r=>
   obtain⟨h0,hN⟩:=h.xg hr
   obtain⟨g',t⟩:=Xr h.m.gi hN C.now
   exact⟨g',h.node h0 t⟩
 by_cases k3:s.kind=3
 ·rw[Du C k3];exact⟨g,h.tick⟩
 by_cases k4:s.kind=4
 ·rw[Dv C k4];exact h.ib _ _
 by_cases k5:s.kind=5
 ·rw[Dw C k5];exact⟨g,h.ny (h.mail.drop _ _)⟩
 by_cases k6:s.kind=6
 ·rw[Dx C k6];exact⟨g,h.ny (h.mail.double _ _)⟩
 by_cases k7:s.kind=7
 ·rw[Dy C k7]
  split
  ·exact⟨g,h⟩
  ·refine⟨g,h.m,fun n R hn=>?_,h.mail,h.done⟩
   have hn:(C.nodes.set s.a.toNat none)[n]?=some (some R):=hn
   rw[wi] at hn
   split at hn
   ·split at hn<;>cases hn
   ·exact h.oe n R hn
 by_cases k8:s.kind=8
 ·rw[Dz C k8]
  obtain⟨g',t⟩:=h.m.fI s.a
  exact⟨g',h.ka t⟩
 by_cases k9:s.kind=9
 ·rw[DA C k9];exact h.join s.a
 by_cases k10:s.kind=10
 ·rw[Dr C k10]
  obtain⟨g',t⟩:=h.m.drain s.a
  exact⟨g',h.ka t⟩
 by_cases lG:s.kind=11
 ·rw[Ds C lG]
  obtain⟨g',t⟩:=h.m.tick C.now
  exact⟨g',h.ka t⟩
 ·rw[DB C fun j h1 h2=>by
   rcases(by omega:j=1∨j=2∨j=3∨j=4∨j=5∨j=6∨j=7∨j=8∨j=9∨j=10∨j=11) with rfl | rfl | rfl | rfl | rfl | rfl | rfl | rfl | rfl | rfl | rfl<;>assumption]
  exact⟨g,h⟩
theorem NO(h:cR C g):∃p,p∈g.ch (g.H.length-1)∧EW g p∧p∈C.aG.ch.ms:=by
 obtain⟨k,k1,k2⟩:=h.m.z
 obtain⟨e,q1,_,_,q4⟩:=h.m.at_
 exact⟨k,by rw[show g.H.length-1=e by omega,q4];exact k1,k2,k1⟩
theorem Ru{g:Gh}(hg:ee g){p:aS}(hp:p∈g.ch (g.H.length-1))(hw:EW g p){d:List bf}(hd:sy g d){x:Option ay×Nat}(hx:∀r,x.1=some r→cD g x.2 r):sy g (iW d x):=by
 unfold iW
 split
 ·exact hd
 ·rename_i r hr
  split
  ·exact hd
  ·rename_i hc
   have hN:=hx r hr
   have h0:r.since≠0:=fun e=>hc (.inl e)
   have h2:vi r.ch.ms=x.2:=by
    by_cases hh:vi r.ch.ms=x.2
    ·exact hh
    ·exact absurd (.inr (.inr (.inl hh))) hc
   have hlast:(g.ch r.ch.ar.toNat).getLast?=some ((x.2:Int),r.since):=by
    rw[hN.view.2.2]
    unfold vi at h2
    cases hm:r.ch.ms.getLast? with
    | none=>rw[hm] at h2;dsimp only at h2;omega
    | some m=>
     rw[hm] at h2
     dsimp only at h2
     have hmm:=EL hm
     have e0:m=((x.2:Int),m.2):=by rw[←h2]
     rw[←hN.view.2.2,e0] at hmm
     rw[e0,(hN.is hg hmm).1]
   have hX:=hN.top h0
   have c1:=hd.JW hg hp hw
   have c2:=hg.JX hp hw hlast
   rw[hX] at c2
   have c3:=(By r.au.done.toNat r.log).trans c2
   generalize hT:r.log.take r.au.done.toNat=T at c3
   by_cases hl:d.length≤T.length
   ·have hpre:=List.prefix_of_prefix_length_le c1 c3 hl
    obtain⟨u,hu⟩:=hpre
    have:d++T.drop d.length=T:=by
     rw[←hu,List.drop_left]
    rw[this]
    exact .inr ⟨_,_,hlast,by rw[hX,←hT];exact By _ _⟩
   ·rw[List.drop_eq_nil_of_le yg,br]
    exact hd
theorem behind(h:cR C g):cR C.behind g:=by
 obtain⟨p,hp,hw,_⟩:=h.NO
 refine⟨h.m,h.oe,h.mail,?_⟩
 show sy g (C.nodes.zipIdx.foldl iW C.done)
 have hz:∀x∈C.nodes.zipIdx,∀r,x.1=some r→cD g x.2 r:=fun x hx r hr=>by
  have:=List.mem_zipIdx hx
  obtain⟨_,h2,h3⟩:=this
  refine h.oe x.2 r ?_
  rw[←hr,h3,GE yg]
  simp
 generalize C.nodes.zipIdx=l at hz
 have hd:=h.done
 generalize C.done=d at hd
 induction l generalizing d with
 | nil=>exact hd
 | cons x l ih=>exact ih (fun y hy=>hz y (kW _ hy)) _ (Ru h.m.gi hp hw hd (hz x qZ))
theorem jV(h:cR C g)(s:dU):∃g',cR (C.jV s).1 g':=by
 obtain⟨g',k⟩:=h.step s
 exact⟨g',k.behind⟩
theorem agree(h:cR C g){n:Int}{R:ay}(hn:C.node n=some R)(hm:(n,R.since)∈C.aG.ch.ms):C.done <+: R.log∨R.log <+: C.done:=by
 obtain⟨h0,hN⟩:=h.xg hn
 obtain⟨p,hp,hw,_⟩:=h.NO
 have c1:=h.done.JW h.m.gi hp hw
 obtain⟨e,q1,q2,q3,q4⟩:=h.m.at_
 have he:g.H.length-1=e:=by omega
 rw[he] at hp
 have hm':(n,R.since)∈g.ch e:=by rw[q4];exact hm
 have hs:=h.m.gi.eR.since hm'
 dsimp only at hs
 have hG:g.G (n,R.since)=R.log:=by
  have:=(hN.live yg).2
  rwa[Int.toNat_of_nonneg h0] at this
 have vt:=fun k=>h.m.gi.vt k
 have key:p=(n,R.since)∨[p,(n,R.since)].Sublist (g.ch e)∨[(n,R.since),p].Sublist (g.ch e):=by
  obtain⟨i,hi⟩:=nM hp
  obtain⟨j,hj⟩:=nM hm'
  rcases Nat.lt_trichotomy i j with hij | hij | hij
  ·exact .inr (.inl (vw hi hj hij))
  ·rw[hij] at hi;rw[hi] at hj;exact .inl (ij hj)
  ·exact .inr (.inr (vw hj hi hij))
 have v1:=vt p
 have v2:=vt (n,R.since)
 rcases key with k | k | k
 ·rw[k,hG] at c1;exact .inl c1
 ·have:=h.m.gi.P e _ _ k
  rw[Gh.nk yg,Gh.nk yg,hG] at this
  rcases Nat.le_total C.done.length R.log.length with hl | hl
  ·exact .inl (List.prefix_of_prefix_length_le c1 this hl)
  ·exact .inr (List.prefix_of_prefix_length_le this c1 hl)
 ·have:=h.m.gi.P e _ _ k
  rw[Gh.nk yg,Gh.nk yg,hG] at this
  exact .inl (c1.trans this)
end cR
end Cl
namespace Cl
open Go Vg T Api Ch Rep Conf Lg Rd Win Kv Adm
def zI(F:ba):Gh:=⟨[rm,bM F],fun k=>if k∈(bM F).ms then 1 else 0,fun _=>[],fun _ _=>[]⟩
theorem Ce(F:ba)(e:Nat)(k:aS):(zI F).X e k=[]:=by
 unfold Gh.X
 split<;>rfl
theorem B9{F:ba}{k:aS}(h:k∈(bM F).ms):k.2=1:=by
 have h:k∈jX F.chain.toNat:=h
 unfold jX at h
 obtain⟨i,_,rfl⟩:=cy.1 h
 rfl
theorem QZ{F:ba}(hF:F=bh F):nO [rm,bM F]:=by
 have h0:nO [rm]:=by
  refine⟨rfl,fun e c hc=>?_,fun e c hc h1=>?_,fun e e' c c' he hc hc'=>?_⟩
  ·cases e with
   | zero=>cases hc;rfl
   | succ e=>cases hc
  ·cases e with
   | zero=>omega
   | succ e=>cases hc
  ·cases e' with
   | zero=>
    cases hc'
    exact⟨[],[],rfl,List.nil_sublist _,fun k hk=>by cases hk⟩
   | succ e'=>cases hc'
 have:=h0.push (c:=rm) (c':=bM F) rfl ⟨rfl,Fy hF,[],(bM F).ms,rfl,List.nil_sublist _,fun k hk=>by rw[B9 hk];decide⟩
 exact this
theorem SA{F:ba}(hF:F=bh F):ee (zI F):=by
 refine⟨QZ hF,fun e a b _=>by rw[Ce,Ce];exact m_ _,fun e e' k _=>by rw[Ce,Ce];exact m_ _,fun k hk=>?_,fun k=>?_,fun _ _=>rfl⟩
 ·show(if k∈(bM F).ms then 1 else 0)=0
  rw[if_neg]
  intro hm
  have:=B9 hm
  have hk:(2:Int)≤k.2:=hk
  omega
 ·show(if k∈(bM F).ms then 1 else 0)<2
  split<;>omega
theorem UD{F:ba}(hF:F=bh F)(n:Nat):cD (zI F) n (cJ F n false):=by
 have hv:=Fy hF
 have key:∀R:ay,R.id=n→R.ch=bM F→R.since=(bU (bM F) n).1→R.log=[]→R.base=-1→R.au=bJ.new F.gY→(R.whole=true→R.since≠0∧R.start=0)→cD (zI F) n R:=by
  intro R h1 h2 h3 h4 h5 h6 h7
  have hm:R.since≠0→((n:Int),R.since)∈(bM F).ms:=fun hs=>by
   rw[h3] at hs ⊢
   exact Na hs
  refine⟨h1,⟨1,by rw[h2];rfl,by rw[h2];rfl⟩,by rw[h3,h2,h1],fun hs=>⟨?_,h4.symm⟩,fun s hs hne=>?_,fun i x hx=>(by rw[h4] at hx;cases hx),fun w=>?_,fun b=>(by rw[h5] at b;exact absurd b yy),(by rw[h5];decide),(by rw[h6,h4];rfl),(by rw[h6];exact e_ _)⟩
  ·show(if ((n:Int),R.since)∈(bM F).ms then 1 else 0)=R.ch.ar.toNat
   rw[if_pos (hm hs),h2];rfl
  ·exfalso
   have hs:(if ((n:Int),s)∈(bM F).ms then 1 else 0)≠0:=hs
   split at hs
   ·rename_i hh
    apply hne
    rw[h3,Hj hv hh]
   ·exact hs rfl
  ·obtain⟨w1,w2⟩:=h7 w
   refine⟨w1,by rw[w2];exact bH _,fun e g1 g2=>?_⟩
   rw[h2] at g2
   have g2:(e:Int)<1:=g2
   omega
 cases hin:(bU (bM F) n).2 with
 | true=>
  have e:cJ F n false={ iv F n with ch:=bM F,since:=(bU (bM F) n).1,whole:=true,start:=0 }:=by
   unfold cJ
   rw[if_neg yy,if_pos hin]
  rw[e]
  refine key _ Z Z Z Z Z Z fun _=>⟨?_,Z⟩
  have:=B9 (Dh hin)
  dsimp only at this ⊢
  omega
 | false=>
  have e:cJ F n false={ iv F n with ch:=bM F }:=by
   unfold cJ
   rw[if_neg yy,if_neg (by rw[hin];decide)]
  rw[e]
  exact key _ rfl rfl (M_ hin).symm rfl rfl rfl fun w=>by cases w
theorem cR.new{F:ba}(hF:F=bh F):cR (rL F) (zI F):=by
 have hb:=kG hF
 refine⟨⟨SA hF,Z,fun k hk _ e h1 h2=>?_,?_⟩,fun n R hn=>?_,fun x hx=>absurd hx oB,.inl Z⟩
 ·rw[B9 hk] at h2;omega
 ·refine⟨(0,1),?_,fun e h1 h2=>by dsimp only at h2;omega⟩
  show((0:Int),(1:Int))∈jX F.chain.toNat
  unfold jX
  exact cy.2 ⟨0,tG.2 yg,Z⟩
 ·have hn:((List.range F.nodes.toNat).map fun(n:Nat)=>some (cJ F n false))[n]?=some (some R):=hn
  rw[dH] at hn
  cases hx:(List.range F.nodes.toNat)[n]? with
  | none=>rw[hx] at hn;cases hn
  | some m=>
   rw[hx] at hn
   cases hn
   obtain⟨h1,h2⟩:=bP.1 hx
   rw[List.getElem_range] at h2
   subst h2
   exact UD hF n
end Cl
namespace Cl
open Go Vg T Api Ch Rep Conf Lg Rd Win Kv Adm Sched
theorem GM:∀{N:Nat} {S S1:aJ} {f:aB},S.iO N=some (f,S1)→S1.cap=S.cap
 | 0,S,S1,f,h=>by cases h
 | N+1,S,S1,f,h=>by
  unfold aJ.iO at h
  split at h
  ·cases h
  split at h
  ·have:=GM h
   exact this
  split at h
  ·have:=GM h
   exact this
  ·cases h
   split<;>rfl
theorem Mh(S:aJ):(dw S).2.2.cap=S.cap:=by
 unfold dw
 split
 ·rename_i f S1 h
  unfold aJ.oo at h
  split at h
  ·cases h
  ·exact GM h
 ·rfl
theorem Kf:∀(l:List aB) (A:aO),(A.oM l).aM=A.aM
 | [],A=>rfl
 | f::l,A=>by
  show((A.out f).oM l).aM=A.aM
  rw[Kf l,L9]
theorem B5(A:aO)(now:Int):(A.fF now).aM.cap=A.aM.cap:=by
 unfold aO.fF
 rw[Kf];rfl
theorem EZ(A:aO)(k s t:Int):(A.dB k s t).2.aM=A.aM:=by
 unfold aO.dB
 split
 ·exact EY ..
 ·rfl
theorem LN(A:aO)(now:Int):(A.dX now).aM.cap=A.aM.cap:=by
 unfold aO.dX
 split
 ·show(dw (A.fF now).aM).2.2.cap=_
  rw[Mh,B5]
 ·show(dw (A.fF now).aM).2.2.cap=_
  rw[Mh,B5]
theorem V_(S:aJ)(f:aB):(S.fg f).2.cap=S.cap:=by
 unfold aJ.fg
 repeat' split
 all_goals rfl
theorem U8(A:aO)(f:aB)(now:Int):(A.iN f now).2.aM.cap=A.aM.cap:=by
 have hw:(A.dT f now).2.aM.cap=A.aM.cap:=by
  unfold aO.dT
  repeat' split
  all_goals first | rfl | exact V_ _ _
 unfold aO.iN
 split
 ·split
  ·show((A.dT f now).2.dB _ _ _).2.aM.cap=_
   rw[EZ];exact hw
  ·exact hw
 ·rfl
structure dI(q m:Int)(R:ay):Prop where
 q:(R.aR.aM.cap:Int)=q
 m:R.aQ.cap=m
section
variable {q m:Int} {R:ay}
theorem dI.same(h:dI q m R){Q:ay}(h1:Q.aR.aM.cap=R.aR.aM.cap)(h2:Q.aQ.cap=R.aQ.cap):dI q m Q:=⟨by rw[h1];exact h.q,h2.trans h.m⟩
theorem dI.finish(h:dI q m R):dI q m R.df:=by unfold ay.df;split<;>exact h.same rfl rfl
theorem dI.u4(h:dI q m R):dI q m R.iG:=by unfold ay.iG;split<;>exact h.same rfl rfl
theorem dI.enter(h:dI q m R)(c:aV):dI q m (pD R c).1:=by
 have h5:dI q m (dP R c):=by
  unfold Rep.dP
  split
  ·exact h.same (B5 _ _) rfl
  ·exact h.same (B5 _ _) rfl
 exact h5.finish
theorem Cm(R:ay)(f:aB)(now:Int):(eH R f now).2.2.aM.cap=R.aR.aM.cap:=by
 rcases KK R f now with e | e
 ·rw[e]
 ·rw[e];exact U8 _ _ _
theorem dI.take(h:dI q m R)(from_:Int)(f:aB)(ms:List aS)(now:Int):dI q m (cU R from_ f ms now).1:=by
 unfold cU
 split
 ·split
  ·exact h
  split
  ·exact h
  split
  ·unfold oY
   split
   ·exact h
   ·refine h.same Z ?_
    show(R.aQ.put _ _).cap=_
    unfold eW.put
    split<;>rfl
  ·unfold o9
   split
   ·exact h.same (Cm R f now) rfl
   split
   ·exact h.same (Cm R f now) rfl
   split
   ·refine h.same ?_ rfl
    show(((eH R f now).2.2.dB _ _ _).2).aM.cap=_
    rw[EZ];exact Cm R f now
   ·exact h.same (Cm R f now) rfl
 split
 ·split
  ·exact h.enter _
  ·exact h
 split
 ·split
  ·unfold mn
   split
   ·have h1:dI q m (fH R f.entry):=h.same rfl rfl
    exact h1.finish.u4
   ·exact h
  ·exact h
 split
 ·split
  ·have h2:dI q m (hZ R f):=by
    unfold Rep.hZ Rep.gu
    dsimp only
    split<;>exact h.same rfl rfl
   exact h2.same Z rfl
  ·exact h
 split
 ·split
  ·have h2:dI q m (nq R f.index):=h.same rfl rfl
   exact h2.u4
  ·exact h
 split
 ·split
  ·exact h.same Z rfl
  ·exact h
 ·exact h
theorem dI.serve(h:dI q m R)(now:Int):dI q m (fi R now).1:=by
 have h1:dI q m (mO R now):=h.same (LN _ _) rfl
 unfold fi
 split
 ·exact h1
 split
 ·refine h.same ?_ rfl
  show(((R.aR.dX now).dB _ _ _).2).aM.cap=_
  rw[EZ];exact LN _ _
 ·have h2:dI q m (fH (mO R now) (e7 R now)):=h1.same rfl rfl
  exact h2.finish
theorem dI.loop(now:Int):∀(k:Nat) {R:ay},dI q m R→dI q m (jc now k R).1
 | 0,R,h=>h
 | k+1,R,h=>by
  unfold jc
  split
  ·split
   ·exact dI.loop now k (h.serve now)
   ·exact h.serve now
  ·exact h
theorem dI.step(h:dI q m R)(now:Int):dI q m (iA R now).1:=by
 have h1:dI q m (iX R now):=h.same rfl rfl
 have h2:dI q m (step2 R now).1:=by
  unfold Rep.step2
  split
  ·exact h1.loop now 65
  ·exact h1
 show dI q m (iz R now).1
 unfold Rep.iz
 split
 ·exact h2.same Z rfl
 ·exact h2
theorem dI.tick(h:dI q m R):dI q m (jQ R).1:=by
 show dI q m (eK R)
 unfold eK
 split<;>exact h.same rfl rfl
theorem dI.new{F:ba}(hq:0≤F.queue)(n:Int)(b:Bool):dI F.queue F.reads (Rep.cJ F n b):=by
 have h0:dI F.queue F.reads (iv F n):=⟨Int.toNat_of_nonneg hq,rfl⟩
 unfold Rep.cJ
 split
 ·exact h0
 split
 ·exact h0.same Z rfl
 ·exact h0.same Z rfl
end
theorem MW(S:aX)(p:bE)(t:ByteArray):(S.send p t).cap=S.cap:=by unfold aX.send;split<;>rfl
theorem NQ(S:aX)(p:bE)(i:Int):(S.fA p i).cap=S.cap:=by unfold aX.fA;split<;>rfl
theorem RB(S:aX)(p:bE)(i:Int):(S.drop p i).1.cap=S.cap:=by
 unfold aX.drop
 split
 ·rfl
 ·exact NQ S p i
theorem Rx(S:aX)(p:bE)(i:Int):(S.double p i).1.cap=S.cap:=by
 unfold aX.double
 split
 ·rfl
 ·exact MW S p _
theorem VW(from_:Int)(l:List dJ)(S:aX):(b_ from_ S l).cap=S.cap:=by
 unfold b_
 induction l generalizing S with
 | nil=>rfl
 | cons s l ih=>
  rw[qW,ih]
  unfold oX
  split
  ·rfl
  ·exact MW _ _ _
def kY(S:aX):Prop:=∀x∈S.mail,(x.2.length:Int)≤S.cap
namespace kY
variable {S:aX}
theorem list(h:kY S)(h0:1≤S.cap)(p:bE):((S.list p).length:Int)≤S.cap:=by
 unfold aX.list
 cases hg:bX S.mail p with
 | none=>show((0:Nat):Int)≤_;omega
 | some l=>exact h _ (ue hg)
theorem put(h:kY S){p:bE}{l:List ByteArray}(hl:(l.length:Int)≤S.cap):kY { S with mail:=cS S.mail p l }:=fun x hx=>by
 rcases Ac hx with h3 | h3
 ·exact h x h3
 ·rw[h3];exact hl
theorem send(h:kY S)(p:bE)(t:ByteArray):kY (S.send p t):=by
 unfold aX.send
 split
 ·exact h
 ·rename_i he
  refine h.put ?_
  have he:S.kS p t=0:=by omega
  unfold aX.kS at he
  split at he
  ·cases he
  split at he
  ·cases he
  split at he
  ·cases he
  ·rw[a8,Bw];push_cast;omega
theorem fA(h:kY S)(h0:1≤S.cap)(p:bE)(i:Int):kY (S.fA p i):=by
 have h':kY { S with mail:=cS S.mail p ((S.list p).eraseIdx i.toNat) }:=h.put (by
  have h1:=h.list h0 p
  have h2:((S.list p).eraseIdx i.toNat).length≤(S.list p).length:=(EJ ..).length_le
  omega)
 unfold aX.fA
 split
 ·exact fun x hx=>h' x (Cu hx)
 ·exact h'
theorem drop(h:kY S)(h0:1≤S.cap)(p:bE)(i:Int):kY (S.drop p i).1:=by
 unfold aX.drop
 split
 ·exact h
 ·exact h.fA h0 p i
theorem double(h:kY S)(p:bE)(i:Int):kY (S.double p i).1:=by
 unfold aX.double
 split
 ·exact h
 ·exact h.send _ _
theorem b_(h:kY S)(from_:Int)(l:List dJ):kY (Cl.b_ from_ S l):=by
 unfold Cl.b_
 induction l generalizing S with
 | nil=>exact h
 | cons s l ih=>
  refine ih ?_
  unfold oX
  split
  ·exact h
  ·exact h.send _ _
end kY
structure dh(F:ba)(C:az):Prop where
 cf:C.de=F
 cap:C.aU.cap=F.link
 l0:1≤F.link∧0≤F.queue
 mail:kY C.aU
 inv:∀r,some r∈C.nodes→dI F.queue F.reads r
namespace dh
variable {F:ba} {C:az}
theorem c0(h:dh F C):1≤C.aU.cap:=by rw[h.cap];exact h.l0.1
theorem ny(h:dh F C){l:aX}(h1:l.cap=C.aU.cap)(h2:kY l):dh F { C with aU:=l }:=⟨h.cf,h1.trans h.cap,h.l0,h2,h.inv⟩
theorem post(h:dh F C)(n:Int)(S:List dJ):dh F (C.post n S):=h.ny (VW ..) (h.mail.b_ n S)
theorem setNode(h:dh F C)(n:Int){x:Option ay}(hx:∀r,x=some r→dI F.queue F.reads r):dh F (C.setNode n x):=⟨h.cf,h.cap,h.l0,h.mail,fun r hr=>by
 rcases kx hr with h1 | h1
 ·exact h.inv r h1
 ·exact hx r h1.symm⟩
theorem node1(h:dh F C)(n:Int){r:ay}(hr:dI F.queue F.reads r):dh F (C.setNode n (some r)):=h.setNode n fun _ e=>by cases e;exact hr
theorem any(h:dh F C){D:az}(h1:D.de=C.de)(h2:D.aU=C.aU)(h3:D.nodes=C.nodes):dh F D:=⟨h1.trans h.cf,by rw[h2];exact h.cap,h.l0,by rw[h2];exact h.mail,by rw[h3];exact h.inv⟩
theorem xg(h:dh F C){n:Int}{r:ay}(hn:C.node n=some r):dI F.queue F.reads r:=by
 unfold az.node at hn
 split at hn
 ·cases hn
 ·cases hx:C.nodes[n.toNat]? with
  | none=>rw[hx] at hn;cases hn
  | some x=>
   rw[hx] at hn
   obtain rfl:x=some r:=hn
   exact h.inv r (ME hx)
theorem bY(h:dh F C)(n:Nat):dh F (C.bY n):=by
 unfold az.bY
 split
 ·exact h
 ·rename_i r hr
  have hm:some r∈C.nodes:=by
   cases hx:C.nodes[n]? with
   | none=>rw[hx] at hr;cases hr
   | some x=>rw[hx] at hr;obtain rfl:x=some r:=hr;exact ME hx
  exact(h.node1 n (h.inv r hm).tick).post _ _
theorem gX(h:dh F C)(n:Nat):dh F (C.gX n):=by
 unfold az.gX
 split
 ·exact h
 ·exact(h.any Z Z Z:dh F (C.jv _ _)).post _ _
theorem xM(h:dh F C)(l:List Nat):dh F (l.foldl az.bY C):=by
 induction l generalizing C with
 | nil=>exact h
 | cons x l ih=>exact ih (h.bY x)
theorem xL(h:dh F C)(l:List Nat):dh F (l.foldl az.gX C):=by
 induction l generalizing C with
 | nil=>exact h
 | cons x l ih=>exact ih (h.gX x)
theorem tick(h:dh F C):dh F C.tick:=
 ((h.any rfl rfl rfl:dh F ({ C with now:=min (C.now+1) 1099511627776 }:az)).xM _).xL _
theorem ig(h:dh F C)(from_ to:Int)(f:aB)(ms:List aS):dh F (C.ig from_ to f ms):=by
 unfold az.ig
 split
 ·exact(h.any Z Z Z:dh F ({ C with aG:=(C.aG.take from_ f C.now).1 }:az)).post _ _
 split
 ·rename_i r hr
  exact(h.node1 _ ((h.xg hr).take _ _ _ _)).post _ _
 split
 ·exact(h.any Z Z Z:dh F (C.jv _ _)).post _ _
 ·exact h
theorem ib(h:dh F C)(p:bE)(i:Int):dh F (C.ib p i).1:=by
 unfold az.ib
 split
 ·exact h
 ·have h1:=h.ny (NQ C.aU p i) (h.mail.fA h.c0 p i)
  show dh F (az.lE _ _ _ _)
  unfold az.lE
  split
  ·exact h1.ig _ _ _ _
  ·exact h1
theorem back(h:dh F C)(n:Int):dh F (C.back n):=by
 unfold az.back
 split
 ·exact(h.node1 _ ((show dI F.queue F.reads (Rep.cJ C.de n true) by rw[h.cf];exact dI.new h.l0.2 n true).take _ _ _ _)).post _ _
 ·exact h
theorem join(h:dh F C)(n:Int):dh F (C.join n).1:=by
 unfold az.join
 dsimp only
 split
 ·exact h
 ·exact((h.any Z Z Z:dh F ({ C with aG:=(C.aG.join n C.now).1 }:az)).back n).post _ _
theorem call(h:dh F C)(s:dU):dh F (C.call s).1:=by
 unfold az.call
 split
 ·exact h
 rename_i x hx
 split
 ·exact h
 ·have h2:dh F ({ C.jv s.a (x.call s.op s.b (C.dead s.c) C.now).1 with bO:=C.bO.call s.a (x.call s.op s.b (C.dead s.c) C.now).1.seq s.op }:az):=h.any rfl rfl rfl
  exact h2.post _ _
theorem step(h:dh F C)(s:dU):dh F (C.step s).1:=by
 by_cases k1:s.kind=1
 ·rw[Dq C k1];exact h.call s
 by_cases k2:s.kind=2
 ·rw[Dt C k2]
  cases hr:C.node s.a with
  | none=>exact h
  | some r=>exact(h.node1 _ ((h.xg hr).step C.now)).post _ _
 by_cases k3:s.kind=3
 ·rw[Du C k3];exact h.tick
 by_cases k4:s.kind=4
 ·rw[Dv C k4];exact h.ib _ _
 by_cases k5:s.kind=5
 ·rw[Dw C k5];exact h.ny (RB ..) (h.mail.drop h.c0 _ _)
 by_cases k6:s.kind=6
 ·rw[Dx C k6];exact h.ny (Rx ..) (h.mail.double _ _)
 by_cases k7:s.kind=7
 ·rw[Dy C k7]
  split
  ·exact h
  ·exact h.setNode _ fun r e=>by cases e
 by_cases k8:s.kind=8
 ·rw[Dz C k8];exact(h.any rfl rfl rfl:dh F ({ C with aG:=(C.aG.fI s.a).1 }:az)).post _ _
 by_cases k9:s.kind=9
 ·rw[DA C k9];exact h.join s.a
 by_cases k10:s.kind=10
 ·rw[Dr C k10];exact(h.any rfl rfl rfl:dh F ({ C with aG:=(C.aG.drain s.a).1 }:az)).post _ _
 by_cases lG:s.kind=11
 ·rw[Ds C lG];exact(h.any rfl rfl rfl:dh F ({ C with aG:=(C.aG.tick C.now).1 }:az)).post _ _
 ·rw[DB C fun j h1 h2=>by
   rcases(by omega:j=1∨j=2∨j=3∨j=4∨j=5∨j=6∨j=7∨j=8∨j=9∨j=10∨j=11) with rfl | rfl | rfl | rfl | rfl | rfl | rfl | rfl | rfl | rfl | rfl<;>assumption]
  exact h
theorem jV(h:dh F C)(s:dU):dh F (C.jV s).1:=(h.step s).any rfl rfl rfl
theorem new(hF:F=bh F):dh F (rL F):=by
 have e2:F.queue=aF F.queue 1 16:=congrArg ba.queue hF
 have e5:F.link=aF F.link 4 64:=congrArg ba.link hF
 have n2:=kc (x:=F.queue) (lo:=1) (hi:=16) yy
 have n5:=kc (x:=F.link) (lo:=4) (hi:=64) yy
 refine⟨rfl,Z,⟨by omega,by omega⟩,fun x hx=>absurd hx oB,fun r hr=>?_⟩
 obtain⟨n,_,e⟩:=cy.1 hr
 cases e;exact dI.new yg _ _
end dh
end Cl
namespace Cl
open Go Vg T Api Ch Rep Conf Lg Rd Win Kv Adm Sched Au
def vF(r:ay)(n:Nat):dA:=⟨n,r.since,r.au.done,r.aQ.l.length,r.ch,(List.range 4).map fun(k:Nat)=>r.aR.aM.oR k,r.log⟩
def s4(x:Option ay×Nat):Option dA:=x.1.map fun r=>vF r x.2
def gM(C:az):List dA:=C.nodes.zipIdx.filterMap s4
def gN(C:az)(mail:List l8):dz:=⟨C.aG.ch,gM C,C.done,mail⟩
theorem vG{C:az}{x:dA}(h:x∈gM C):∃(n:Nat) (r:ay),C.nodes[n]?=some (some r)∧x=vF r n:=by
 obtain⟨y,hy,hx⟩:=List.mem_filterMap.1 h
 unfold s4 at hx
 obtain⟨r,hr,rfl⟩:=Option.map_eq_some_iff.1 hx
 have:=List.mem_zipIdx hy
 obtain⟨_,h2,h3⟩:=this
 refine⟨y.2,r,?_,Z⟩
 rw[←hr,h3,GE yg]
 simp
theorem MD:∀(l:List (Option ay)) (k:Nat),(∀x∈(l.zipIdx k).filterMap s4,(k:Int)≤x.id)∧(((l.zipIdx k).filterMap s4).map dA.id).Pairwise (· < ·)
 | [],k=>⟨fun x hx=>(by cases hx),List.Pairwise.nil⟩
 | a::l,k=>by
  obtain⟨h1,h2⟩:=MD l (k+1)
  cases a with
  | none=>
   have e:(((none:Option ay)::l).zipIdx k).filterMap s4=(l.zipIdx (k+1)).filterMap s4:=rfl
   rw[e]
   exact⟨fun x hx=>by have:=h1 x hx;omega,h2⟩
  | some r=>
   have e:((some r::l).zipIdx k).filterMap s4=vF r k::(l.zipIdx (k+1)).filterMap s4:=rfl
   rw[e]
   refine⟨fun x hx=>?_,?_⟩
   ·rcases iD.1 hx with rfl | hx
    ·exact e_ _
    ·have:=h1 x hx;omega
   ·rw[kV,List.pairwise_cons]
    refine⟨fun y hy=>?_,h2⟩
    obtain⟨x,hx,rfl⟩:=cy.1 hy
    have:=h1 x hx
    show(k:Int)<x.id
    omega
theorem WD(C:az){i j:Nat}{x y:dA}(hi:(gM C)[i]?=some x)(hj:(gM C)[j]?=some y)(h:x.id=y.id):i=j:=by
 have hp:((gM C).map dA.id).Pairwise (· < ·):=(MD C.nodes 0).2
 rw[List.pairwise_iff_getElem] at hp
 have hi':=bP.1 hi
 have hj':=bP.1 hj
 obtain⟨i1,i2⟩:=hi'
 obtain⟨j1,j2⟩:=hj'
 rcases Nat.lt_trichotomy i j with k | k | k
 ·have:=hp i j (by rw[cY];exact i1) (by rw[cY];exact j1) k
  rw[yV,yV] at this
  rw[i2,j2] at this
  omega
 ·exact k
 ·have:=hp j i (by rw[cY];exact j1) (by rw[cY];exact i1) k
  rw[yV,yV] at this
  rw[i2,j2] at this
  omega
theorem WR(C:az){k:Nat}{x y:dA}(hk:(gM C)[k]?=some x)(hy:y.id=x.id):mT ((gM C).set k y) y.id=some y:=by
 unfold mT
 have hkl:=(bP.1 hk).1
 rw[List.find?_eq_some_iff_getElem]
 refine⟨by simp,k,by rw[fW];exact hkl,by rw[List.getElem_set_self],fun j hj=>?_⟩
 rw[List.getElem_set_ne yg]
 have hjx:(gM C)[j]?=some (gM C)[j]:=GE yg
 simp only[Bool.not_eq_true',beq_eq_false_iff_ne]
 intro e
 have:=WD C hjx hk (by rw[e,hy])
 omega
theorem cR.R2{F:ba}{C:az}{g:Gh}(h:cR C g)(hc:dh F C){b e:Nat}(ok:C.Ok b e){mail:List l8}(hm:∀m∈mail,∃x∈C.aU.mail,m.2.2=x.2.length):rh F (gN C mail):=by
 obtain⟨v,q1,q2,q3,q4⟩:=h.m.at_
 obtain⟨z,z1,_⟩:=h.m.z
 have hv1:1≤v:=h.m.gi.eR.pos IH
 have hv:=h.m.gi.eR.ok v _ q2 hv1
 refine⟨?_,fun n hn=>?_,fun n hn=>?_,fun n hn q hq=>?_,fun n hn=>?_,fun n hn hmem=>?_,fun m hm'=>?_⟩
 ·unfold qx
  rw[beq_iff_eq]
  exact zv.2 hv
 ·obtain⟨k,r,h1,rfl⟩:=vG hn
  obtain⟨u,u1,u2⟩:=(h.oe k r h1).ch
  have ul:=(bP.1 u2).1
  show ¬(C.aG.ch.ar<r.ch.ar∨r.ch.ar=C.aG.ch.ar∧r.ch≠C.aG.ch)
  rintro(hh | ⟨hh,hne⟩)
  ·omega
  ·have:u=v:=by omega
   subst this
   rw[u2] at q2
   exact hne (ij q2)
 ·obtain⟨k,r,h1,rfl⟩:=vG hn
  have hw:=(ok.fit r (ME h1)).ok.au
  have hl:=(h.oe k r h1).la
  have d0:=hw.ln
  have d1:=hw.lu
  show 0≤r.au.done∧r.au.done≤(r.log.length:Int)
  omega
 ·obtain⟨k,r,h1,rfl⟩:=vG hn
  have hw:=(ok.fit r (ME h1)).ok.wf.aM
  have hk:=(hc.inv r (ME h1)).q
  have hq:q∈(List.range 4).map fun(k:Nat)=>r.aR.aM.oR k:=hq
  obtain⟨i,_,rfl⟩:=cy.1 hq
  unfold aJ.oR aJ.at_
  rw[if_pos yg]
  split
  ·rename_i c hcc
   have:=hw.qs c (ME hcc)
   omega
  ·omega
 ·obtain⟨k,r,h1,rfl⟩:=vG hn
  have hw:=(ok.fit r (ME h1)).ok.rl
  have hk:=(hc.inv r (ME h1)).m
  show(r.aQ.l.length:Int)≤F.reads
  omega
 ·obtain⟨k,r,h1,rfl⟩:=vG hn
  have hnode:C.node (k:Int)=some r:=by
   unfold az.node
   rw[if_neg yg,ea,h1]
   rfl
  exact(h.agree hnode hmem).symm
 ·obtain⟨x,hx,hl⟩:=hm m hm'
  have:=hc.mail x hx
  have:=hc.cap
  omega
end Cl
namespace Cl
open Go Vg T Api Ch Rep Conf Lg Rd Win Kv Adm Sched Au
def Dk(x:dA):dA:={ x with done:=(x.log.length:Int)+1 }
def xG(F:ba)(q:Nat)(x:dA):dA:={ x with waits:=x.waits.set q (F.queue+1) }
def Dl(F:ba)(x:dA):dA:={ x with ki:=F.reads+1 }
def Dm(e:Int)(x:dA):dA:={ x with ch:={ x.ch with ar:=e+1 } }
def xP(s:Int):Int:=IntKind.i64.wrap (s+1)
theorem abG(s:Int):xP s≠s:=by
 unfold xP
 simp[IntKind.wrap,IntKind.bits,IntKind.signed]
 omega
def AF(l:List bf):List bf:=match l with
 | []=>[]
 | y::l=>{ y with seq:=xP y.seq } :: l
def o7(x:dA):dA:={ x with log:=AF x.log }
structure Found(F:ba)(v:dz)(want id:Int):Prop where
 all:∀f∈jm F v,codeOk want f
 any:∃f∈jm F v,f.1=want∧(f.2.1=id∨want=9)
section
variable {F:ba} {C:az} {ml:List l8} {k:Nat} {x:dA}
theorem I_{ch:aV}{n:dA}{f:FindM}(h:f∈eM F ch n):f∈gG F ch n:=uQ _ (uQ _ h)
theorem Sd(hF:F=bh F)(h:rh F (gN C ml))(hk:(gM C)[k]?=some x):Found F (uv (gN C ml) k (Dk x)) 4 x.id:=by
 have hx:x∈(gN C ml).nodes:=ME hk
 refine⟨spoilt hF h (fun f hf=>?_) (.inr (h.lg x hx)),⟨(4,x.id,(x.log.length:Int)+1),Dp hF (bP.1 hk).1 (I_ ?_),Z,.inl Z⟩⟩
 ·rcases vr hf with ⟨_,q⟩ | q | ⟨e,_⟩ | ⟨_,q,q1,q2⟩ | ⟨_,q⟩
  ·exact absurd q (h.ep x hx)
  ·exact .inr (.inr q)
  ·exact .inl e
  ·have:=h.qu x hx q q1;omega
  ·have:=h.rd x hx
   have q:F.reads<x.ki:=q
   omega
 ·unfold eM
  refine Bx _ (mw.2 ⟨.inr ?_,Z⟩)
  show(x.log.length:Int)<(x.log.length:Int)+1
  omega
theorem Se(hF:F=bh F)(h:rh F (gN C ml))(hk:(gM C)[k]?=some x){q:Nat}(hq:q<F.qs.length)(hw:q<x.waits.length):Found F (uv (gN C ml) k (xG F q x)) 7 x.id:=by
 have hx:x∈(gN C ml).nodes:=ME hk
 refine⟨spoilt hF h (fun f hf=>?_) (.inr (h.lg x hx)),⟨(7,x.id,(q:Int)),Dp hF (bP.1 hk).1 (uQ _ (Bx _ ?_)),Z,.inl Z⟩⟩
 ·rcases vr hf with ⟨_,q⟩ | q | ⟨_,q⟩ | ⟨e,_⟩ | ⟨_,q⟩
  ·exact absurd q (h.ep x hx)
  ·exact .inr (.inr q)
  ·have:=h.dn x hx
   have q:x.done<0∨(x.log.length:Int)<x.done:=q
   omega
  ·exact .inl e
  ·have:=h.rd x hx
   have q:F.reads<x.ki:=q
   omega
 ·unfold fU
  refine yZ.2 ⟨q,tG.2 hq,?_⟩
  have e:(xG F q x).waits[q]?=some (F.queue+1):=iR hw
  rw[e]
  exact mw.2 ⟨by omega,Z⟩
theorem Sf(hF:F=bh F)(h:rh F (gN C ml))(hk:(gM C)[k]?=some x):Found F (uv (gN C ml) k (Dl F x)) 8 x.id:=by
 have hx:x∈(gN C ml).nodes:=ME hk
 refine⟨spoilt hF h (fun f hf=>?_) (.inr (h.lg x hx)),⟨(8,x.id,F.reads+1),Dp hF (bP.1 hk).1 (Bx _ (mw.2 ⟨?_,Z⟩)),Z,.inl Z⟩⟩
 ·rcases vr hf with ⟨_,q⟩ | q | ⟨_,q⟩ | ⟨_,q,q1,q2⟩ | ⟨e,_⟩
  ·exact absurd q (h.ep x hx)
  ·exact .inr (.inr q)
  ·have:=h.dn x hx
   have q:x.done<0∨(x.log.length:Int)<x.done:=q
   omega
  ·have:=h.qu x hx q q1;omega
  ·exact .inl e
 ·show F.reads<F.reads+1
  omega
theorem Sg(hF:F=bh F)(h:rh F (gN C ml)):Found F (gN C (ml ++ [(1,2,F.link+1)])) 9 x.id:=
 ⟨T2 hF h (1,2,F.link+1),⟨_,T3 (v:=gN C ml) hF (t:=(1,2,F.link+1)) fB,rfl,.inr rfl⟩⟩
theorem Sh(hF:F=bh F)(h:rh F (gN C ml))(hk:(gM C)[k]?=some x):Found F (uv (gN C ml) k (Dm C.aG.ch.ar x)) 2 x.id:=by
 have hx:x∈(gN C ml).nodes:=ME hk
 refine⟨spoilt hF h (fun f hf=>?_) (.inr (h.lg x hx)),⟨(2,x.id,C.aG.ch.ar+1),Dp hF (bP.1 hk).1 (I_ ?_),Z,.inl Z⟩⟩
 ·rcases vr hf with ⟨e,_⟩ | q | ⟨_,q⟩ | ⟨_,q,q1,q2⟩ | ⟨_,q⟩
  ·exact .inl e
  ·exact .inr (.inr q)
  ·have:=h.dn x hx
   have q:x.done<0∨(x.log.length:Int)<x.done:=q
   omega
  ·have:=h.qu x hx q q1;omega
  ·have:=h.rd x hx
   have q:F.reads<x.ki:=q
   omega
 ·unfold eM kC np
  refine uQ _ (uQ _ (mw.2 ⟨.inl ?_,Z⟩))
  show C.aG.ch.ar<C.aG.ch.ar+1
  omega
theorem Dn(l:List bf):(AF l).length=l.length:=by cases l<;>rfl
theorem Sj(hF:F=bh F)(h:rh F (gN C ml))(hk:(gM C)[k]?=some x)(hm:(x.id,x.since)∈C.aG.ch.ms)(hl:0<x.log.length)(hd:0<C.done.length):Found F (uv (gN C ml) k (o7 x)) 6 x.id:=by
 have hx:x∈(gN C ml).nodes:=ME hk
 have hlen:(o7 x).log.length=x.log.length:=Dn _
 refine⟨spoilt hF h (fun f hf=>?_) (.inl Z),⟨(6,x.id,0),?_,Z,.inl Z⟩⟩
 ·rcases vr hf with ⟨_,q⟩ | q | ⟨_,q⟩ | ⟨_,q,q1,q2⟩ | ⟨_,q⟩
  ·exact absurd q (h.ep x hx)
  ·exact .inr (.inr q)
  ·rw[hlen] at q
   have:=h.dn x hx
   have q:x.done<0∨(x.log.length:Int)<x.done:=q
   omega
  ·have:=h.qu x hx q q1;omega
  ·have:=h.rd x hx
   have q:F.reads<x.ki:=q
   omega
 ·rw[xe hF]
  refine .inr (.inr (.inl ⟨h.FP,?_⟩))
  refine Np (m:=(x.id,x.since)) (n:=o7 x) (WR C hk (y:=o7 x) Z) Z ?_ hm
  show((6,x.id,0):FindM)∈jd (o7 x) C.done
  have hp:dY (o7 x).log C.done=0:=by
   cases hxl:x.log with
   | nil=>rw[hxl] at hl;exact absurd hl (za 0)
   | cons y l=>
    cases hdl:C.done with
    | nil=>rw[hdl] at hd;exact absurd hd (za 0)
    | cons z d=>
     have hyz:y=z:=by
      have:=h.lg x hx hm
      rw[hxl] at this
      have this:(y::l) <+: C.done∨C.done <+: (y::l):=this
      rw[hdl] at this
      rcases this with ⟨t,ht⟩ | ⟨t,ht⟩
      ·exact(tF ht).1
      ·exact(tF ht).1.symm
     unfold o7
     rw[hxl]
     show(if ({ y with seq:=xP y.seq }:bf)=z then _ else 0)=0
     rw[if_neg]
     intro e
     have:=congrArg bf.seq e
     rw[hyz] at this
     exact abG _ this
  unfold jd
  rw[hp]
  refine mw.2 ⟨⟨by rw[hlen];exact hl,hd⟩,Z⟩
end
end Cl
namespace Cl
open Go Vg T Api Ch Rep Conf Lg Rd
attribute [local irreducible] VO VC VA
instance aca:DecidableEq aV:=fun a b=>decidable_of_iff (a.ar=b.ar∧a.ms=b.ms∧a.drain=b.drain) ⟨fun⟨h1,h2,h3⟩=>by cases a;cases b;simp_all,fun h=>by subst h;exact⟨rfl,rfl,rfl⟩⟩
def sR(m k:aS):Bool:=decide (m.1=k.1)&&(decide (m.2=k.2)&&true)
theorem Ga(m k:aS):sR m k=true↔m=k:=by
 obtain⟨m1,m2⟩:=m;obtain⟨k1,k2⟩:=k
 simp[sR]
end Cl
namespace Cl
open Go Vg T Api
attribute [local irreducible] VO VC VA
def nV(x y:Int):Int:=if x<y then -1 else if y<x then 1 else 0
def vz(p q:bE):Int:=if nV p.1 q.1≠0 then nV p.1 q.1 else nV p.2 q.2
def dS(p:bE):List Value:=[.int .i64 p.1,.int .i64 p.2]
theorem vy(p:bE):(dS p).length=2:=rfl
theorem V3(p:bE):(dS p).all Value.oneCell'=true:=rfl
theorem LF(x:Int):ax Tryz.prog 131 [.int .i64 x] Fr w [] (fun v L=>v=.bool false∧L=[]):=by
 refine TF 6 Tryz.func131 Z yp aC Z Z ?_
 refine av ?_
 exact CR (an.bool 2 Z Z yi ER ⟨rfl,Z⟩)
theorem JS(x y:Int):ax Tryz.prog 81 [.int .i64 x,.int .i64 y] Fr w [] (fun v L=>v=.int .i64 (nV x y)∧L=[]):=by
 refine TF 20 Tryz.func81 Z yp aC Z Z ?_
 refine av ?_
 refine VG (VV (fun Fr w _ _ _=>LF Fr w x) Z ?_)
 refine av ?_
 refine VG (VV (fun Fr w _ _ _=>LF Fr w y) Z ?_)
 refine lS ?_
 refine yP ?_
 refine CP (p:=x<y) Z (fun h=>?_) (fun h=>CK ?_)
 ·refine av ?_
  exact CR (an.tmp 4 Z Z ER ⟨by rw[nV,if_pos h],Z⟩)
 refine av ?_
 refine CP (p:=y<x) Z (fun h2=>?_) (fun h2=>CK ?_)
 ·refine av ?_
  exact CR (an.tmp 4 Z Z ER ⟨by rw[nV,if_neg h,if_pos h2],Z⟩)
 refine av ?_
 exact CR (an.tmp 4 Z Z ER ⟨by rw[nV,if_neg h,if_neg h2],Z⟩)
theorem Vk{sb:Nat}(a b:Int)(h:bq Fr w sb [.int .i64 a,.int .i64 b]):ax Tryz.prog 80 [.slice (some ⟨sb,0,none⟩) 2 2] Fr w [] (fun v L=>v=.int .i64 (if a≠0 then a else b)∧L=[]):=by
 refine TF 18 Tryz.func80 Z yp aC Z Z ?_
 refine av ?_
 refine VC.loop (σ:=Nat) (fun k=>[(3,.int .i64 0),(6,.slice (some ⟨sb,0,none⟩) 2 2),(7,.int .i64 2),(8,.int .i64 (k:Int))]) (fun _=>[]) (fun k=>k≤2∧(0<k→a=0)∧(1<k→b=0)) (fun k=>2-k) 0
  ⟨by omega,by omega,by omega⟩ aH ER ?_
 rintro k ⟨hk,ha,hb⟩
 refine av ?_
 refine CP (p:=(k:Int)<2) Z (fun h1=>CK ?_) (fun h1=>CX ?_)
 rotate_left
 ·have h2:k=2:=by omega
  have ha:=ha yg
  have hb:=hb yg
  refine av ?_
  exact CR (an.tmp 2 Z Z ER ⟨by rw[if_neg yg,hb],Z⟩)
 have hv:∃z:Int,([.int .i64 a,.int .i64 b]:List Value)[0+k*1]?=some (.int .i64 z)∧(k=0→z=a)∧(k=1→z=b):=by
  rcases(by omega:k=0∨k=1) with rfl | rfl
  ·exact⟨a,Z,fun _=>rfl,fun h=>by omega⟩
  ·exact⟨b,Z,fun h=>by omega,fun _=>rfl⟩
 obtain⟨z,hz,z0,z1⟩:=hv
 refine av ?_
 refine xW ?_
 refine VG (VD Z Z (aw.aA h hz) ?_)
 refine av ?_
 refine VC.dp Z (fun k1=>?_) (fun k1=>CK ?_)
 ·refine av ?_
  refine CR (an.tmp 2 Z Z ER ⟨?_,Z⟩)
  rcases(by omega:k=0∨k=1) with h0 | h0
  ·rw[←z0 h0,if_pos k1]
  ·rw[if_neg (by have:=ha yg;omega),z1 h0]
 refine sh ?_
 have k2:z=0:=by simpa using k1
 exact⟨k+1,⟨by omega,fun _=>by
  by_cases h0:k=0
  ·rw[←z0 h0];exact k2
  ·exact ha yg,fun _=>by rw[←z1 yg];exact k2⟩,by dsimp only;omega,SC Z (SC Z (SC Z (Sub.int Z yg (SN _)))),ER⟩
theorem Vp(p q:bE):ax Tryz.prog 79 [.agg (dS p).toArray,.agg (dS q).toArray] Fr w [] (fun v L=>v=.int .i64 (vz p q)∧L=[]):=by
 refine TF 17 Tryz.func79 Z yp aC Z Z ?_
 refine CS (CG (VG (VB (vs:=dS p) Z fun b2=>VG (VB (vs:=dS q) Z fun b3=>?_))))
 refine ae ?_
 refine CD (ts 0 4 (ts 5 4 (.only 4 (.only 9 (.only 10 (.only 11 (ts 12 1 .nil))))))) yp yr ?_
 refine Ej ?_
 refine fj ?_
 refine Ej ?_
 refine fj ?_
 refine yF ?_
 refine fj ?_
 refine yF ?_
 refine fj ?_
 refine AG (AR (fun Fr w hF hw hS=>JS Fr w p.1 q.1) Z Z yu ?_)
 refine AG (AR (fun Fr w hF hw hS=>JS Fr w p.2 q.2) Z Z yu ?_)
 refine AG (AO (aK.buildSlice (n:=2) (pv:=[(0,.int .i64 (nV p.1 q.1)),(1,.int .i64 (nV p.2 q.2))]) (cells:=[.int .i64 (nV p.1 q.1),.int .i64 (nV p.2 q.2)]) rfl rfl rfl rfl yy rfl) rfl (fun v L' g=>by obtain⟨nb,rfl,rfl⟩:=g;exact kp) ?_)
 rintro _ _ ⟨nb,rfl,rfl⟩
 refine AG (AR (fun Fr w hF hw hS=>Vk Fr w (nV p.1 q.1) (nV p.2 q.2) (hS.aA 0 Z)) Z Z yu ?_)
 refine pf ?_
 exact CR (an.tmp 4 Z Z aa.nil.aj ⟨rfl,Z⟩)
theorem Tj{w w':World}(h:eL (fun b=>b<w.heap.size) w w'):∃q os,w'=Sort.grow (w.drewN q) os:=by
 refine⟨w'.drawn-w.drawn,w'.heap.extract w.heap.size w'.heap.size,?_⟩
 have hs:=h.size
 have hh:w'.heap=w.heap++w'.heap.extract w.heap.size w'.heap.size:=by
  apply v7
  intro i
  rw[Bn]
  split
  ·rename_i hi;exact h.block i hi
  ·rename_i hi
   rw[Array.getElem?_extract]
   split
   ·congr 1;omega
   ·rw[Array.getElem?_eq_none yg]
 have hd:w'.drawn=w.drawn+(w'.drawn-w.drawn):=by have:=h.drawn;omega
 have e1:=h.os
 have e2:=h.tape
 have e3:=h.output
 generalize w'.drawn-w.drawn=q at hd
 generalize w'.heap.extract w.heap.size w'.heap.size=os at hh
 obtain⟨a,b,c,d,e⟩:=w'
 dsimp only at hh hd e1 e2 e3
 subst hh hd e1 e2 e3
 rfl
theorem Vo(p q:bE)(W:World):Calls Tryz.prog 79 #[.agg (dS p).toArray,.agg (dS q).toArray] W fun e w'=>e=.returned (.int .i64 (vz p q))∧∃n os,w'=Sort.grow (W.drewN n) os:=
 Calls.mono ((Vp (fun b=>b<W.heap.size) W p q).calls (fun _ h=>h) Sat.nil) fun e w' ⟨v,L',h1,h2,_,h4⟩=>⟨by rw[h1,h2.1],Tj h4⟩
end Cl
end Go.Proofs.YtkgfhabealjjpaaGreatDoor
namespace Go.Proofs
open Go.Shelf
def Tryz.Xa : Go.Shelf.Ren := ⟨fun | 6 => 78 | 15 => 130 | 14 => 129 | 28 => 206 | 29 => 207 | 20 => 198 | 21 => 199 | 22 => 200 | 23 => 201 | 24 => 202 | 25 => 203 | 26 => 204 | 27 => 205 | 46 => 254 | 47 => 255 | 48 => 256 | 49 => 257 | 50 => 258 | 57 => 282 | n => n, fun | 22 => 92 | 24 => 94 | 25 => 164 | 3 => 3 | 39 => 223 | 0 => 0 | 53 => 279 | 55 => 302 | 4 => 4 | 46 => 295 | 45 => 294 | 50 => 52 | 5 => 5 | 9 => 9 | 66 => 344 | 70 => 224 | 76 => 366 | 77 => 363 | n => n, fun | n => n⟩
theorem Tryz.Nc : Go.Proofs.SlLaysF0.n6 Tryz.prog Tryz.Xa := {
  mixed := by kernel_rfl
  f6 := ⟨Tryz.f78.name, by decide, Tryz.func78.trans (congrArg some (by kernel_rfl))⟩
  f14 := ⟨Tryz.f129.name, by decide, Tryz.func129.trans (congrArg some (by kernel_rfl))⟩
  f15 := Tryz.func130.trans (congrArg some (by kernel_rfl))
  f20 := ⟨Tryz.f198.name, by decide, Tryz.func198.trans (congrArg some (by kernel_rfl))⟩
  f21 := ⟨Tryz.f199.name, by decide, Tryz.func199.trans (congrArg some (by kernel_rfl))⟩
  f22 := ⟨Tryz.f200.name, by decide, Tryz.func200.trans (congrArg some (by kernel_rfl))⟩
  f23 := ⟨Tryz.f201.name, by decide, Tryz.func201.trans (congrArg some (by kernel_rfl))⟩
  f24 := ⟨Tryz.f202.name, by decide, Tryz.func202.trans (congrArg some (by kernel_rfl))⟩
  f25 := ⟨Tryz.f203.name, by decide, Tryz.func203.trans (congrArg some (by kernel_rfl))⟩
  f26 := ⟨Tryz.f204.name, by decide, Tryz.func204.trans (congrArg some (by kernel_rfl))⟩
  f27 := ⟨Tryz.f205.name, by decide, Tryz.func205.trans (congrArg some (by kernel_rfl))⟩
  f28 := Tryz.func206.trans (congrArg some (by kernel_rfl))
  f29 := Tryz.func207.trans (congrArg some (by kernel_rfl))
  f46 := ⟨Tryz.f254.name, by decide, Tryz.func254.trans (congrArg some (by kernel_rfl))⟩
  f47 := Tryz.func255.trans (congrArg some (by kernel_rfl))
  f48 := Tryz.func256.trans (congrArg some (by kernel_rfl))
  f49 := ⟨Tryz.f257.name, by decide, Tryz.func257.trans (congrArg some (by kernel_rfl))⟩
  f50 := ⟨Tryz.f258.name, by decide, Tryz.func258.trans (congrArg some (by kernel_rfl))⟩
  f57 := ⟨Tryz.f282.name, by decide, Tryz.func282.trans (congrArg some (by kernel_rfl))⟩
  t0 := Tryz.underlying0
  a0 := Tryz.isAgg0
  z0 := Tryz.sizeOf0
  v0 := Tryz.zeroValue0
  t3 := Tryz.underlying3
  a3 := Tryz.isAgg3
  z3 := Tryz.sizeOf3
  v3 := Tryz.zeroValue3
  t4 := Tryz.underlying4
  a4 := Tryz.isAgg4
  z4 := Tryz.sizeOf4
  v4 := Tryz.zeroValue4
  t5 := Tryz.underlying5
  a5 := Tryz.isAgg5
  z5 := Tryz.sizeOf5
  v5 := Tryz.zeroValue5
  t9 := Tryz.underlying9
  a9 := Tryz.isAgg9
  z9 := Tryz.sizeOf9
  v9 := Tryz.zeroValue9
  t22 := Tryz.underlying92
  a22 := Tryz.isAgg92
  z22 := Tryz.sizeOf92
  v22 := Tryz.zeroValue92
  t25 := Tryz.underlying164
  a25 := Tryz.isAgg164
  z25 := Tryz.sizeOf164
  v25 := Tryz.zeroValue164
  t39 := Tryz.underlying223
  a39 := Tryz.isAgg223
  z39 := Tryz.sizeOf223
  v39 := Tryz.zeroValue223
  t45 := Tryz.underlying294
  a45 := Tryz.isAgg294
  z45 := Tryz.sizeOf294
  v45 := Tryz.zeroValue294
  t46 := Tryz.underlying295
  a46 := Tryz.isAgg295
  z46 := Tryz.sizeOf295
  v46 := Tryz.zeroValue295
  t50 := Tryz.underlying52
  a50 := Tryz.isAgg52
  z50 := Tryz.sizeOf52
  v50 := Tryz.zeroValue52
  t53 := Tryz.underlying279
  a53 := Tryz.isAgg279
  z53 := Tryz.sizeOf279
  v53 := Tryz.zeroValue279
  t55 := Tryz.underlying302
  a55 := Tryz.isAgg302
  z55 := Tryz.sizeOf302
  v55 := Tryz.zeroValue302
  t66 := Tryz.underlying344
  a66 := Tryz.isAgg344
  z66 := Tryz.sizeOf344
  v66 := Tryz.zeroValue344
  t70 := Tryz.underlying224
  a70 := Tryz.isAgg224
  z70 := Tryz.sizeOf224
  v70 := Tryz.zeroValue224
  t76 := Tryz.underlying366
  a76 := Tryz.isAgg366
  z76 := Tryz.sizeOf366
  v76 := Tryz.zeroValue366
  t77 := Tryz.underlying363
  a77 := Tryz.isAgg363
  z77 := Tryz.sizeOf363
  v77 := Tryz.zeroValue363 }
end Go.Proofs
namespace Go.Proofs.YtkgfhabealjjpaaGreatDoor
variable (Fr : Nat → Prop) (w : World)
namespace Cl
open Go Vg T Api Go.Shelf Go.Sort
attribute [local irreducible] VO VC VA
theorem QO:sw Tryz.prog 78:=⟨_,Tryz.func78,by kernel_rfl,by kernel_rfl⟩
theorem GR(x y:bE):ltOf vz x y=decide (x.1<y.1∨x.1=y.1∧x.2<y.2):=by
 unfold ltOf vz nV
 by_cases h1:x.1<y.1
 ·simp[h1]
 ·by_cases h2:y.1<x.1
  ·have:x.1≠y.1:=by omega
   simp[h1,h2,this]
  ·have:x.1=y.1:=by omega
   by_cases h3:x.2<y.2
   ·simp[this,h3]
   ·by_cases h4:y.2<x.2<;>simp[this,h3,h4]
theorem V6:SWO (ltOf vz) where
 irrefl x:=by rw[GR];simp
 trans x y z h1 h2:=by rw[GR] at *;simp at *;omega
 ntrans x y z h1 h2:=by rw[GR] at *;simp at *;omega
abbrev mQ:TypeId:=94
theorem V5(aA off size:Nat)(w:World):CmpLays Tryz.prog 79 #[] dS 2 vz aA off size w:=fun m os dk _ x y=>Vo x y _
theorem V4:∀args w,(callFunc 79 args).run Tryz.prog w=.ok (.enter 79 args) w:=enters_of Tryz.func79 yp rfl
theorem SO(w:World)(b n:Nat)(d:Array bE)(os:Array Obj)(x:Nat)(hx:x<w.heap.size)(hne:x≠b):(sortWorldK dS 2 w b 0 n d os).heap[x]?=w.heap[x]?:=by
 show(((w.heap.modify b _)++os:Array Obj))[x]?=_
 rw[Bn,if_pos PS,v_,if_neg (fun e=>hne e.symm)]
theorem SP{w:World}{b n:Nat}{d:Array bE}{os:Array Obj}{cs:Array Value}{el:TypeId}(hb:w.heap[b]?=some (.cells cs el (0,0))):(sortWorldK dS 2 w b 0 n d os).heap[b]?=some (.cells (putCells id 0 (flatK dS 2 d) cs) el (0,0)):=by
 have hx:=(sn.1 hb).1
 show(((w.heap.modify b _)++os:Array Obj))[b]?=_
 rw[Bn,if_pos PS,v_,if_pos rfl,hb]
 rfl
theorem FD(l:List bE)(rest:List Value)(j:Nat)(hj:j<l.length*2):(flat dS l++rest)[j]?=some ((dS (l.toArray)[j / 2]!)[j % 2]!):=by
 have hi:j / 2<l.length:=by omega
 have hx:l[j / 2]?=some l[j / 2]:=GE hi
 have hc:(dS l[j / 2])[j % 2]?=some ((dS l[j / 2])[j % 2]!):=by
  rcases(by omega:j % 2=0∨j % 2=1) with h | h<;>rw[h]<;>rfl
 have:=oN vy hx hc rest
 rw[show j / 2*2+j % 2=j by omega] at this
 rw[this]
 have e:(l.toArray)[j / 2]! = l[j / 2]:=by simp[hi]
 rw[e]
theorem Xb{a:Option Addr}{cap:Nat}{l:List bE}(hl:l.length≤1000000):ax Tryz.prog 78 [.slice a l.length cap,.func (.func 79) #[] #[]] Fr w [aq mQ 2 a l.length cap (flat dS l)]
  (fun v L=>v=.tuple #[]∧∃m:List bE,m.Perm l∧L=[aq mQ 2 a l.length cap (flat dS m)]):=
 ⟨QO,fun hlow hs=>by
  obtain⟨F,⟨ids,G,rfl,⟨hc,hh⟩,hG⟩,hn,hbd⟩:=hs
  obtain rfl:G=[]:=hG
  rcases hh with ⟨rfl,h0,rfl,rfl⟩ | ⟨b,rest,rfl,rfl,hcap,hr,hb⟩
  ·have hc0:=AnyF.slices_SortFunc_none Tryz.Nc none 0 (.func (.func 79) #[] #[]) w
   obtain rfl:l=[]:=iC h0
   refine Calls.mono hc0 fun e w' ⟨h1,h2⟩=>?_
   subst h2
   exact⟨_,[aq mQ 2 none 0 0 (flat dS [])],h1,⟨rfl,[],.nil,rfl⟩,⟨[],⟨[],[],rfl,⟨rfl,.inl ⟨rfl,rfl,rfl,rfl⟩⟩,rfl⟩,.nil,fun _ h=>by cases h⟩,eL.refl _ _⟩
  ·have hbl:b<w.heap.size:=(hbd b yi).2
   have hnF:¬Fr b:=(hbd b yi).1
   have hH:HoldsK dS 2 w b 0 l.toArray:=fun j hj=>by
    rw[size_flatK] at hj
    have hj2:j<l.length*2:=by simpa using hj
    refine⟨?_,?_⟩
    ·rw[cj,get_flatK dS 2 _ j hj]
     show w.cell? ⟨b,j,none⟩=some ((dS (l.toArray)[j / 2]!)[j % 2]!)
     rw[cell_of_row w b j (flat dS l++rest).toArray mQ (0,0) hb]
     simpa using FD l rest j hj2
    ·exact frozen_of_row w b (0+j) (flat dS l++rest).toArray mQ hb
   have hc0:=AnyQ.slices_SortFunc Tryz.Nc 2 Tryz.isAgg94 Tryz.sizeOf94 dS vy (fun x=>by intro v hv;exact nK.1 (V3 x) v hv) vz V6 79 #[] b 0 cap l.toArray w V4 (V5 b 0 _ w) hH hbl yh
   refine Calls.mono hc0 fun e w' ⟨h1,d,n,os,hp,_,h2⟩=>?_
   subst h2
   have hds:d.size=l.length:=by have:=hp.1;simpa using this
   have hpm:d.toList.Perm l:=by
    have h3:=hp.2.2
    have e1:l.toArray.size=d.size:=by rw[hds];simp
    rw[Array.extract_eq_self_of_le yg,Array.extract_eq_self_of_le (NR _)] at h3
    exact h3
   have hm2:[aq mQ 2 (some ⟨b,0,none⟩) l.length cap (flat dS d.toList)]=[aq mQ 2 (some ⟨b,0,none⟩) l.length cap (flat dS d.toList)]:=rfl
   refine⟨_,_,h1,⟨rfl,d.toList,hpm,Z⟩,⟨[b],⟨[b],[],Z,⟨by rw[eu vy];simp[hds],.inr ⟨b,(putCells id 0 (flatK dS 2 d) (flat dS l++rest).toArray).toList.drop (l.length*2),Z,Z,hcap,?_,?_⟩⟩,Z⟩,hn,fun x hx=>⟨(hbd x hx).1,?_⟩⟩,?_⟩
   ·rw[a8,eu vy,su]
    simp only[Array.length_toList]
    have e1:(putCells id 0 (flatK dS 2 d) (flat dS l++rest).toArray).size=cap*2:=by
     unfold putCells
     rw[Array.size_mapIdx,List.size_toArray,hr]
    rw[e1]
    have:l.length*2≤cap*2:=sv 2 hcap
    simp[hds];omega
   ·rw[SP hb]
    congr 2
    apply v7
    intro j
    conv=>rhs;rw[List.getElem?_toArray]
    have hsz:(flatK dS 2 d).size=l.length*2:=by rw[size_flatK,hds]
    by_cases hj:j<l.length*2
    ·have e1:=FD d.toList ((putCells id 0 (flatK dS 2 d) (flat dS l++rest).toArray).toList.drop (l.length*2)) j (by simpa[hds] using hj)
     rw[e1]
     have e2:=FD l rest j hj
     unfold putCells
     rw[Array.getElem?_mapIdx,List.getElem?_toArray,e2]
     simp only[ng]
     rw[if_pos ⟨bH _,by omega⟩,Nat.sub_zero,get_flatK dS 2 _ j (by rw[hds];exact hj)]
     simp
    ·have hlf:(flat dS d.toList).length=l.length*2:=by rw[eu vy];simp[hds]
     rw[qX yg,hlf,qY,Bp]
     congr 1
     omega
   ·show x<(((w.heap.modify b _)++os:Array Obj)).size
    rw[Array.size_append,Array.size_modify]
    have:=(hbd x hx).2
    omega
   ·refine⟨rfl,Z,Z,?_,fun x hx=>SO w b n d os x (hlow x hx) (fun e=>hnF (e▸hx)),Nat.le_add_right _ _⟩
    show w.heap.size≤(((w.heap.modify b _)++os:Array Obj)).size
    rw[Array.size_append,Array.size_modify]
    omega⟩
end Cl
namespace Cl
open Go Vg T Api Ch Rep Conf Lg Rd
attribute [local irreducible] VO VC VA
section
variable {p:Nat} {S:aX} {b:Nat} {X:List lY}
theorem Vq(hml:S.mail.length≤100000)(h:bq Fr w p (mN S b))(hm:qk Fr w fN iQ b X)(hX:il X=S.mail):ax Tryz.prog 35 [.pointer (some ⟨p,0,none⟩)] Fr w [] (fun v L=>∃(l:List bE) (a:Option Addr) (c:Nat),l.Perm (S.mail.map Prod.fst)∧v=.slice a l.length c∧L=[aq mQ 2 a l.length c (flat dS l)]):=by
 obtain⟨es,clock,g1,g2,g3⟩:=hm.at_
 have hz:nP fN iQ X es clock:=⟨g2,g3⟩
 have hXl:X.length=S.mail.length:=by rw[←hX];exact(cY ..).symm
 refine TF 27 Tryz.func35 Z yp aC Z Z ?_
 refine av ?_
 refine Ef ?_
 refine lS ?_
 refine ji ?_
 refine O8 ?_
 rintro _ _ ⟨q,rfl,rfl⟩
 refine gm ?_
 refine VC.block ?_
 refine VC.loop (σ:=ql bE zd×List bE×Option Addr×Nat) (fun s=>[(11,pV q),(3,.slice s.2.2.1 s.2.1.length s.2.2.2)]) (fun s=>[ub q b clock s.1,aq mQ 2 s.2.2.1 s.2.1.length s.2.2.2 (flat dS s.2.1)]) (fun s=>lf fN iQ X es s.1∧s.2.1=s.1.map fun z=>z.2.1) (fun s=>X.length-s.1.length) ([],[],none,0)
  ⟨lf.nil,rfl⟩ aH (IP 0 rfl (aa.cK aa.nil)).aj ?_
 rintro⟨J,l,a,c⟩ ⟨hJ,hlJ⟩
 dsimp only at hJ hlJ ⊢
 have b2:=lf.len hz hJ
 have hlL:l.length=J.length:=by rw[hlJ,cY]
 refine ae ?_
 refine O9 ?_
 rintro v L' (⟨rfl,rfl,hp⟩ | ⟨z,rfl,z1,z2,hok,rfl⟩)
 ·refine ae ?_
  refine EG ?_
  refine VG (VQ 1 rfl (fun Fr w hF hs hS=>Xb Fr w (a:=a) (cap:=c) (l:=l) yg) rfl (ψ:=fun v H=>∃m:List bE,m.Perm l∧v=.tuple #[]∧H=aq mQ 2 a l.length c (flat dS m)) (fun v L h=>by obtain⟨h1,m,h2,h3⟩:=h;exact⟨_,h3,m,h2,h1,rfl⟩) ?_)
  rintro _ _ ⟨m,hm2,rfl,rfl⟩
  refine ae ?_
  have hk:l.Perm (S.mail.map Prod.fst):=by
   have h1:=hp.map fun x:lY=>x.1
   rw[mY] at h1
   rw[hlJ,←hX]
   unfold il
   rw[mY]
   exact h1
  exact CR (an.tmp 2 Z Z (IP 1 Z aa.nil).aj ⟨m,a,c,hm2.trans hk,by rw[hm2.length_eq],by rw[hm2.length_eq]⟩)
 ·refine ae ?_
  refine VC.mi Z (CK ?_)
  refine ae ?_
  refine O_ ?_
  have b3:=lf.len hz hok
  rw[a8] at b3
  simp at b3
  refine ae ?_
  refine VG (VO.alloc Z fun kb=>?_)
  refine O' ?_
  refine al ?_
  refine VG (VI (FY (pv:=[(0,.int .i64 z.2.1.1),(1,.int .i64 z.2.1.2)]) (dS z.2.1) Z Z Z Z Z) ?_)
  refine VG (VO.buildSlice (n:=1) (pv:=[(0,.agg (dS z.2.1).toArray)]) (dS z.2.1) Z Z Z Z yy (eY Z Z Z) fun nb=>?_)
  refine VG (VO.append (m:=1) (news:=dS z.2.1) 3 Z Z Z Z Z Z Z (dm.pt 0 Z Z Z) Z (u6 (k:=1000000) yg yy) yg fun a2 c2 _=>?_)
  refine ae ?_
  have hlen:(l ++ [z.2.1]).length=l.length+1:=by simp
  refine⟨(J ++ [z],l ++ [z.2.1],a2,c2),⟨hok,by dsimp only;rw[gn,hlJ];rfl⟩,by show X.length-(J ++ [z]).length<X.length-J.length;rw[a8];simp;omega,SC Z (SC (by dsimp only;rw[hlen];rfl) (SN _)),?_⟩
  dsimp only
  rw[hlen,fu]
  exact(bb [3,0]).aj
end
end Cl
namespace Cl
open Go Vg T Api Ch Rep Conf Lg Rd
theorem Vx{l m:List (bE×List ByteArray)}(h:m.Perm l)(hn:(l.map Prod.fst).Nodup)(p:bE):bX m p=bX l p:=by
 have hm:(m.map Prod.fst).Nodup:=(h.map Prod.fst).nodup_iff.2 hn
 cases hg:bX l p with
 | some v=>exact Lh hm (h.mem_iff.2 (ue hg))
 | none=>
  rw[TX] at hg ⊢
  exact fun x hx=>hg x (h.mem_iff.1 hx)
section
variable {C:az} {b e:Nat} {k:Int}
theorem aaH:C.tick.aG=C.aG:=by
 have h1:∀(l:List Nat) {D:az},(l.foldl az.bY D).aG=D.aG:=by
  intro l
  induction l with
  | nil=>exact rfl
  | cons x l ih=>
   intro D
   rw[qW,ih]
   unfold az.bY
   split<;>rfl
 have h2:∀(l:List Nat) {D:az},(l.foldl az.gX D).aG=D.aG:=by
  intro l
  induction l with
  | nil=>exact rfl
  | cons x l ih=>
   intro D
   rw[qW,ih]
   unfold az.gX
   split<;>rfl
 exact(h2 _).trans (h1 _)
theorem aaA(hv:dN C.aG.ch)(from_ to:Int)(f:aB)(ms:List aS):dN (C.ig from_ to f ms).aG.ch:=by
 unfold az.ig
 split
 ·exact UB hv _ _ _
 split
 ·exact hv
 split
 ·exact hv
 ·exact hv
theorem Rr(hv:dN C.aG.ch)(p:bE)(i:Int):dN (C.ib p i).1.aG.ch:=by
 unfold az.ib
 split
 ·exact hv
 ·show dN (az.lE _ _ _ _).aG.ch
  unfold az.lE
  split
  ·exact aaA (C:=({ C with aU:=C.aU.fA p i }:az)) hv _ _ _ _
  ·exact hv
end
end Cl
namespace Cl
open Go Vg T Api Ch Rep Conf Lg Rd
section
variable {C:az} {b e:Nat} {k:Int}
theorem aaG:C.tick.de=C.de:=by
 have h1:∀(l:List Nat) {D:az},(l.foldl az.bY D).de=D.de:=by
  intro l
  induction l with
  | nil=>exact rfl
  | cons x l ih=>
   intro D
   rw[qW,ih]
   unfold az.bY
   split<;>rfl
 have h2:∀(l:List Nat) {D:az},(l.foldl az.gX D).de=D.de:=by
  intro l
  induction l with
  | nil=>exact rfl
  | cons x l ih=>
   intro D
   rw[qW,ih]
   unfold az.gX
   split<;>rfl
 exact(h2 _).trans (h1 _)
theorem aaB(from_ to:Int)(f:aB)(ms:List aS):(C.ig from_ to f ms).de=C.de:=by
 unfold az.ig
 split
 ·rfl
 split
 ·rfl
 split<;>rfl
theorem Jd(n:Int):(C.back n).de=C.de∧(C.back n).aG=C.aG:=by
 unfold az.back
 split<;>exact⟨rfl,rfl⟩
theorem Xo(s:dU):(C.step s).1.de=C.de∧(dN C.aG.ch→dN (C.step s).1.aG.ch):=by
 by_cases k1:s.kind=1
 ·rw[Dq C k1]
  unfold az.call
  split
  ·exact⟨rfl,fun h=>h⟩
  split<;>exact⟨rfl,fun h=>h⟩
 by_cases k2:s.kind=2
 ·rw[Dt C k2]
  cases C.node s.a<;>exact⟨rfl,fun h=>h⟩
 by_cases k3:s.kind=3
 ·rw[Du C k3]
  exact⟨aaG,fun h=>by show dN C.tick.aG.ch;rw[aaH];exact h⟩
 by_cases k4:s.kind=4
 ·rw[Dv C k4]
  refine⟨?_,fun h=>Rr h _ _⟩
  unfold az.ib
  split
  ·rfl
  ·show(az.lE _ _ _ _).de=_
   unfold az.lE
   split
   ·exact aaB _ _ _ _
   ·rfl
 by_cases k5:s.kind=5
 ·rw[Dw C k5];exact⟨rfl,fun h=>h⟩
 by_cases k6:s.kind=6
 ·rw[Dx C k6];exact⟨rfl,fun h=>h⟩
 by_cases k7:s.kind=7
 ·rw[Dy C k7]
  split<;>exact⟨rfl,fun h=>h⟩
 by_cases k8:s.kind=8
 ·rw[Dz C k8];exact⟨rfl,fun h=>Uz h _⟩
 by_cases k9:s.kind=9
 ·rw[DA C k9]
  unfold az.join
  dsimp only
  split
  ·exact⟨rfl,fun h=>h⟩
  ·refine⟨(Jd (C:=({ C with aG:=(C.aG.join s.a C.now).1 }:az)) s.a).1,fun h=>?_⟩
   show dN (({ C with aG:=(C.aG.join s.a C.now).1 }:az).back s.a).aG.ch
   rw[(Jd (C:=({ C with aG:=(C.aG.join s.a C.now).1 }:az)) s.a).2]
   exact Ut h _ _
 by_cases k10:s.kind=10
 ·rw[Dr C k10];exact⟨rfl,fun h=>Ue h _⟩
 by_cases lG:s.kind=11
 ·rw[Ds C lG];exact⟨rfl,fun h=>NM _ _ h⟩
 ·rw[DB C fun j h1 h2=>by
   rcases(by omega:j=1∨j=2∨j=3∨j=4∨j=5∨j=6∨j=7∨j=8∨j=9∨j=10∨j=11) with rfl | rfl | rfl | rfl | rfl | rfl | rfl | rfl | rfl | rfl | rfl<;>assumption]
  exact⟨rfl,fun h=>h⟩
theorem J3(s:dU):(C.jV s).1.de=C.de∧(dN C.aG.ch→dN (C.jV s).1.aG.ch):=Xo s
structure uV(F:ba)(C:az)(i:Nat):Prop where
 ok:C.Ok i (7*i)
 cf:C.de=F
 Q0:dN C.aG.ch
theorem uV.jV{F:ba}{C:az}{i:Nat}(h:uV F C i)(hi:i<100000)(s:dU):uV F (C.jV s).1 (i+1):=
 ⟨(h.ok.jV yg yg s).mono (NR _) yg,(J3 s).1.trans h.cf,(J3 s).2 h.Q0⟩
theorem uV.new{F:ba}(h:F=bh F):uV F (rL F) 0:=⟨LH h,rfl,Fy h⟩
theorem Rb{S:aX}(ok:S.Ok){m:List (bE×List ByteArray)}(h:m.Perm S.mail)(p:bE):(⟨S.cap,m⟩:aX).list p=S.list p:=by
 unfold aX.list
 rw[Vx h ok.nd]
theorem Kk{S:aX}(ok:S.Ok)(ha:S.kX):S.mail.length≤1444:=by
 have h1:((S.mail.map Prod.fst).map fun p:bE=>p.1.toNat*38+p.2.toNat).Nodup:=by
  have hn:=ok.nd
  unfold List.Nodup at hn ⊢
  rw[uR]
  refine hn.imp_of_mem fun {a b} hma hmb h e=>h ?_
  obtain⟨x,hx,rfl⟩:=cy.1 hma
  obtain⟨z,hz,rfl⟩:=cy.1 hmb
  have x1:=tN (ha x hx).1
  have x2:=tN (ha x hx).2
  have z1:=tN (ha z hz).1
  have z2:=tN (ha z hz).2
  have:x.1.1=z.1.1∧x.1.2=z.1.2:=by omega
  exact Prod.ext this.1 this.2
 have:=CF (m:=List.range 1444) h1 fun n hn=>by
  obtain⟨q,hq,rfl⟩:=cy.1 hn
  obtain⟨x,hx,rfl⟩:=cy.1 hq
  have x1:=tN (ha x hx).1
  have x2:=tN (ha x hx).2
  rw[tG]
  omega
 rw[cY,cY,List.length_range] at this
 exact this
end
end Cl
namespace Cl
open Go Vg T Api Ch Rep Conf Lg Rd
attribute [local irreducible] VO VC VA
section
variable {p:Nat} {C:az} {y:fJ} {b e:Nat}
theorem T1(h:a_ Fr [ek p C] w):ax Tryz.prog 19 [.pointer (some ⟨p,0,none⟩)] Fr w [] (fun v L=>v=.bool true∧L=[]):=by
 obtain⟨y,fit,hy⟩:=BZ h
 exact Ny Fr w (hy.aA 0 Z)
theorem aa3(ok:C.Ok b e)(hb:b<100000)(he:e<900000)(s:dU):ax Tryz.prog 8 [.pointer (some ⟨p,0,none⟩),.agg s.cells.toArray] Fr w [ek p C]
  (fun v L=>v=.int .i64 (C.jV s).2∧L=[ek p (C.jV s).1]):=by
 have ok2:=ok.step hb yg s
 refine TF 15 Tryz.func8 Z yp aC Z Z ?_
 refine CS (CG (VG (VB (vs:=s.cells) Z fun sb=>?_)))
 refine ae ?_
 refine VG (VV (fun Fr w hF hw hS=>T1 Fr w (hS.at_ 1 Z)) Z ?_)
 refine si ?_
 refine VG (VL 0 s.cells Z Z Z Z ?_)
 refine VG (VQ 1 Z (fun Fr w hF hs hS=>abd Fr w ok hb yg s) Z (ψ:=fun v H=>v=.int .i64 (C.step s).2∧H=ek p (C.step s).1) yz ?_)
 rintro _ _ ⟨rfl,rfl⟩
 refine ae ?_
 refine VG (VQ 1 Z (fun Fr w hF hs hS=>aa0 Fr w ok2 yg) Z (ψ:=fun v H=>v=.tuple #[]∧H=ek p (C.step s).1.behind) yz ?_)
 rintro _ _ ⟨rfl,rfl⟩
 refine ae ?_
 exact CR (an.tmp 4 Z Z (aa.tail (H:=pt sb _ jU) (L:=[ek p (C.jV s).1])).aj ⟨rfl,Z⟩)
theorem aa7(hb:bq Fr w p (jn C y)):ax Tryz.prog 22 [.pointer (some ⟨p,0,none⟩)] Fr w [] (fun v L=>v=.pointer (some ⟨y.mp,0,none⟩)∧L=[]):=by
 refine TF 10 Tryz.func22 Z yp aC Z Z ?_
 refine av ?_
 refine Ek ?_
 refine lS ?_
 refine vS ?_
 exact o_
theorem F3{Fr:Nat→Prop}{w:World}{q:Nat}{S:aX}(h:a_ Fr [cH q S] w):∃b X,il X=S.mail∧a_ Fr (Aa q S b X) w:=by
 obtain⟨⟨b,X⟩,hx⟩:=h.ex
 have hs:=hx.sep
 exact⟨b,X,hs.pure 0 Z,hs.tail⟩
theorem aa6(ok:C.aU.Ok)(hb:bq Fr w p (jn C y))(hl:a_ Fr [cH y.lp C.aU] w):ax Tryz.prog 34 [.pointer (some ⟨p,0,none⟩)] Fr w [] (fun v L=>∃q m,m.Perm C.aU.mail∧v=.pointer (some ⟨q,0,none⟩)∧L=[cH q ⟨C.aU.cap,m⟩]):=by
 obtain⟨lb,X,hX,hs⟩:=F3 hl
 have h1:=hs.aA 0 rfl
 have h2:=hs.w9 1 rfl
 have h3:=F1 (A:=[_,_]) hs
 refine TF 11 Tryz.func34 Z yp aC Z Z ?_
 refine av ?_
 refine Ek ?_
 refine lS ?_
 refine vS ?_
 refine VG (VK (Lc:=[]) (fun Fr w hF hw _=>Tx Fr w ok (h1.of hF hw) ⟨hF _ h2.fr,h2.at_.loc (hw.cP.block _ h2.fr)⟩ (fun z hz=>(h3 z hz).of hF hw) hX) Z Z ?_)
 rintro _ _ ⟨q,m,hm,rfl,rfl⟩
 refine av ?_
 exact CR (an.tmp 2 Z Z ER ⟨q,m,hm,Z,Z⟩)
theorem aa'(fit:fY C y)(hb:bq Fr w p (jn C y))(hr:bq Fr w y.nb (flat ja y.nr++y.nx)){n:Int}:ax Tryz.prog 24 [.pointer (some ⟨p,0,none⟩),.int .i64 n] Fr w []
  (fun v L=>(match C.node n with
   | none=>v=.pointer none
   | some r=>∃k q,n=(k:Nat)∧y.nr[k]?=some (some (q,r))∧v=.pointer (some ⟨q,0,none⟩))∧L=[]):=by
 refine TF 21 Tryz.func24 Z yp aC Z Z ?_
 refine av ?_
 refine Ek ?_
 refine av ?_
 refine VG (VY 8 false Z Z ?_)
 refine av ?_
 refine VG (VV (fun Fr w hF hs _=>DK Fr w fit (hb.of hF hs) (hr.of hF hs) n) Z ?_)
 refine av ?_
 refine VC.dp Z (fun k1=>?_) (fun k1=>CK ?_)
 ·refine av ?_
  exact CR (an.tmp 4 Z Z ER ⟨by rw[ND k1],Z⟩)
 obtain⟨k,r,rfl,hkr,hnr⟩:=Ht (C:=C) (n:=n) tx
 obtain⟨q,hx⟩:=Gq fit hkr
 have hkl:=(bP.1 hx).1
 refine vS ?_
 refine Eh ?_
 refine VG (VD Z Z (aw.aA hr (rM hx)) ?_)
 refine av ?_
 exact CR (an.tmp 4 Z Z ER ⟨by rw[hnr];exact⟨k,q,Z,hx,Z⟩,Z⟩)
theorem aa4(hl:C.done.length≤4096)(h:a_ Fr [ek p C] w):ax Tryz.prog 33 [.pointer (some ⟨p,0,none⟩)] Fr w [] (fun v L=>∃a c,v=.slice a C.done.length c∧L=[aq dK 7 a C.done.length c (flat bm C.done)]):=by
 obtain⟨y,fit,hy⟩:=BZ h
 have hb:=hy.aA 0 rfl
 have hd:aT bm 7 Fr w y.da C.done:=aT.aq qt (hy.at_ 7 rfl)
 refine TF 11 Tryz.func33 Z yp aC Z Z ?_
 refine av ?_
 refine Ek ?_
 refine lS ?_
 refine vS ?_
 refine VO.aj (L':=[aq dK 7 none 0 0 []]) (aa.cK aa.nil).aj ?_
 refine VG (VO.append (m:=C.done.length) (news:=flat bm C.done) 0 Z Z Z Z Z Z Z (aT.row qt hd) (nZ Kb _) (u6 (k:=5000) yg yy) yg fun a' c' _=>?_)
 rw[cj,mZ]
 refine av ?_
 exact xR
end
section
variable {u:Value}
end
end Cl
namespace Cl
open Go Vg T Api Ch Rep Conf Lg Rd Sched
attribute [local irreducible] VO VC VA
theorem S8{X:Cx}{L:List HP}{a:Option Addr}{cap:Nat}{qs:List Int}(hq:gp X.Fr X.w0 a qs)(hne:qs≠[]):dm X L (.slice a qs.length cap) 1 qs.length (bV qs):=by
 obtain⟨b,off,rfl,h2,h3⟩:=hq.at_ hne
 refine⟨by simp[bV],.inr ⟨b,off,cap,Z,fun w' hw' j v hv=>?_⟩⟩
 rw[bV,dH] at hv
 cases hj:qs[j]? with
 | none=>rw[hj] at hv;cases hv
 | some x=>
  rw[hj] at hv
  obtain rfl:=ij hv
  exact E7 (hw'.cP.block b h2) (h3 j x hj)
theorem F8{α:Type}{f:α→HP}{l:List α}{x:α}{A:List HP}:aa (f x::bF (l.map f)::A) (bF ((l ++ [x]).map f)::A):=by
 refine aa.sep (aa.trans (M:=bF (l.map f)::f x::A) (aa.perm (.swap _ _ _)) (aa.AM (aa.of_eq ?_)))
 simp
abbrev nW:TypeId:=24
def tR(c:ba)(qa:Option Addr)(qc m:Nat)(nv cv lv:Value)(h:Nat):List Value:=c.cells qa qc ++ [.int .i64 0,.pointer (some ⟨m,0,none⟩),nv,cv,lv,.pointer (some ⟨h,0,none⟩),.slice none 0 0]
theorem NB(c:ba){qa:Option Addr}{qc:Nat}(hq:gp Fr w qa c.qs)(hqc:c.qs.length≤qc):
  ax Tryz.prog 7 [.agg (c.cells qa qc).toArray] Fr w [] (fun v L=>if c=bh c then ∃p,v=.tuple #[.pointer (some ⟨p,0,none⟩),.int .i64 0]∧L=[ek p (rL c)] else v=.tuple #[.pointer none,.int .i64 2]∧L=[]):=by
 refine TF 83 Tryz.func7 Z yp aC Z Z ?_
 refine CS (CG (VG (VB (vs:=c.cells qa qc) Z fun b1=>VG (VN ?_))))
 refine IJ ?_
 refine VG (VK (Lc:=[]) (fun Fr w hF hs _=>Uv Fr w c (pG hq hF hs) trivial hqc) Z Z ?_)
 intro v L1 hv
 by_cases hf:c=bh c
 rotate_left
 ·rw[if_neg hf] at hv
  obtain⟨rfl,rfl⟩:=hv
  refine vY ?_
  exact CR (an.cV 2 3 Z Z Z aa.nil.aj PG)
 rw[if_pos hf] at hv
 obtain⟨m,rfl,rfl⟩:=hv
 have hb:=kG hf
 have hb2:=wO hf
 refine tz ?_
 refine dF ?_
 refine VO.aj (L':=aq 3 1 none 0 0 [] :: [cC m (qF c),pt b1 (c.cells qa qc) nW]) (aa.cK aa.refl).aj ?_
 refine VG (VO.append (m:=c.qs.length) (news:=bV c.qs) 0 Z Z Z Z Z Z Z (S8 hq (by intro h0;rw[h0] at hb2;exact absurd hb2.2.2.2.2.2.1 yy)) (by unfold bV;rw[List.all_map];exact nK.2 fun _ _=>rfl) (u6 (k:=100) yg yy) yg fun qa2 qc2 hqc2=>?_)
 rw[cj,mZ] at *
 refine ae ?_
 refine VG (VO.st 2 (cs':=c.cells qa2 qc2) Z Z Z Z Bk Z Z ?_)
 refine gm ?_
 show VC _ _ _ [iq qa2 qc2 c.qs,cC m (qF c),pt b1 (c.cells qa2 qc2) nW] _
 refine CS ?_
 refine CD (ts 0 2 (.only 2 (.take 3 (.only 4 (.take 5 .nil))))) yp yr ?_
 refine AG (VA.dE 2 (c.cells qa2 qc2) Z Z Z Z Z ?_)
 refine cn ?_
 refine AG (AO (OC (Lc:=[]) rfl (.refl _) (fun Fr w _ _ _=>SV Fr w)) rfl (fun v L' g=>by obtain⟨_,⟨h,rfl,rfl⟩,rfl⟩:=g;exact(by(try refine Pd.st ?_);(repeat(first|exact Pd.nil|exact Pd.fnil|refine Pd.inner ?_|refine Pd.skip yr ?_|refine zf (zo 0 rfl rfl) ?_|refine zf (zo 1 rfl rfl) ?_|refine zf (zo 2 rfl rfl) ?_|refine zf (zo 3 rfl rfl) ?_|refine zf (zm 0 rfl rfl) ?_|refine zf (zm 1 rfl rfl) ?_|refine zf (zm 2 rfl rfl) ?_|refine zf (zm 3 rfl rfl) ?_|refine zf (aw.aA (aw.many 3 rfl rfl) rfl) ?_|refine zf ((aw.many 3 rfl rfl)) ?_|refine zc (zo 0 rfl rfl) ?_|refine zc (zo 1 rfl rfl) ?_|refine zc (zo 2 rfl rfl) ?_|refine zc (zo 3 rfl rfl) ?_|refine zc (zm 0 rfl rfl) ?_|refine zc (zm 1 rfl rfl) ?_|refine zc (zm 2 rfl rfl) ?_|refine zc (zm 3 rfl rfl) ?_|refine zc (aw.aA (aw.many 3 rfl rfl) rfl) ?_|refine zc ((aw.many 3 rfl rfl)) ?_)))) ?_)
 rintro v L' ⟨_,⟨h,rfl,rfl⟩,rfl⟩
 refine AG (AI Z (LB (pv:=[(0,.agg (c.cells qa2 qc2).toArray),(2,pV m),(6,pV h)]) (tR c qa2 qc2 m (.slice none 0 0) (.slice none 0 0) (.pointer none) h) Z Z Z yp Z) ?_)
 refine AG (AO (aK.box (vs:=tR c qa2 qc2 m (.slice none 0 0) (.slice none 0 0) (.pointer none) h) rfl rfl) rfl (fun v L' g=>by obtain⟨p,rfl,rfl⟩:=g;exact(by(try refine Pd.st ?_);(repeat(first|exact Pd.nil|exact Pd.fnil|refine Pd.inner ?_|refine Pd.skip yr ?_|refine zf (zo 0 rfl rfl) ?_|refine zf (zo 1 rfl rfl) ?_|refine zf (zo 2 rfl rfl) ?_|refine zf (zo 3 rfl rfl) ?_|refine zf (zo 4 rfl rfl) ?_|refine zf (zm 0 rfl rfl) ?_|refine zf (zm 1 rfl rfl) ?_|refine zf (zm 2 rfl rfl) ?_|refine zf (zm 3 rfl rfl) ?_|refine zf (zm 4 rfl rfl) ?_|refine zf (aw.aA (aw.many 4 rfl rfl) rfl) ?_|refine zf ((aw.many 4 rfl rfl)) ?_|refine zc (zo 0 rfl rfl) ?_|refine zc (zo 1 rfl rfl) ?_|refine zc (zo 2 rfl rfl) ?_|refine zc (zo 3 rfl rfl) ?_|refine zc (zo 4 rfl rfl) ?_|refine zc (zm 0 rfl rfl) ?_|refine zc (zm 1 rfl rfl) ?_|refine zc (zm 2 rfl rfl) ?_|refine zc (zm 3 rfl rfl) ?_|refine zc (zm 4 rfl rfl) ?_|refine zc (aw.aA (aw.many 4 rfl rfl) rfl) ?_|refine zc ((aw.many 4 rfl rfl)) ?_)))) ?_)
 rintro v L' ⟨p,rfl,rfl⟩
 refine cn ?_
 refine ox ?_
 refine VG (VK (Lc:=[]) (fun Fr w _ _ _=>TP Fr w (n:=c.link) yg yg) Z Z ?_)
 rintro _ _ ⟨l,rfl,rfl⟩
 refine ae ?_
 refine VG (VO.st 1 (cs':=tR c qa2 qc2 m (.slice none 0 0) (.slice none 0 0) (.pointer (some ⟨l,0,none⟩)) h) Z Z Z Z (by show 16<19;omega) Z Z ?_)
 refine gm ?_
 refine CN (L':=[pt p (tR c qa2 qc2 m (.slice none 0 0) (.slice none 0 0) (.pointer (some ⟨l,0,none⟩)) h) sJ,pt b1 (c.cells qa2 qc2) nW,iq qa2 qc2 c.qs,cH l ⟨c.link,[]⟩,jr h uh,cC m (qF c)]) (bb [1,4,2,0,0,0]).aj ?_
 refine ae ?_
 refine VC.loop (σ:=List kZ×Option Addr×Nat) (fun s=>[(1,pV b1),(6,pV p),(7,.int .i64 s.1.length)])
  (fun s=>[pt p (tR c qa2 qc2 m (.slice s.2.1 s.1.length s.2.2) (.slice none 0 0) (.pointer (some ⟨l,0,none⟩)) h) sJ,pt b1 (c.cells qa2 qc2) nW,iq qa2 qc2 c.qs,cH l ⟨c.link,[]⟩,jr h uh,cC m (qF c),aq rT 1 s.2.1 s.1.length s.2.2 (flat ja s.1),bF (s.1.map jO)])
  (fun s=>s.1.length≤c.nodes.toNat∧s.1.map (Option.map Prod.snd)=(List.range s.1.length).map fun(n:Nat)=>some (cJ c n false)) (fun s=>c.nodes.toNat-s.1.length) ([],none,0)
  ⟨bH _,rfl⟩ aH (IP 0 rfl (IP 0 rfl (IP 0 rfl (IP 0 rfl (IP 0 rfl (IP 0 rfl (aa.cK (aa.sep aa.nil)))))))).aj ?_
 rintro⟨nr,na,nc⟩ ⟨hn1,hn2⟩
 dsimp only at hn1 hn2 ⊢
 refine dF ?_
 refine CP (p:=(nr.length:Int)<c.nodes) Z (fun h1=>CK ?_) (fun h1=>CX ?_)
 ·refine Bi ?_
  refine VG (VL 1 (c.cells qa2 qc2) Z Z Z Z ?_)
  refine ae ?_
  refine VG (VK (Lc:=[]) (fun Fr w hF hs hS=>Rep.lK Fr w c qa2 qc2 (rG (hS.at_ 2 Z)) trivial hqc2 nr.length false) Z Z ?_)
  rintro v L1 g
  rw[if_pos (show sT c (nr.length:Int) from⟨hf,by omega,h1⟩)] at g
  obtain⟨r,rfl,rfl⟩:=g
  refine ae ?_
  refine jA ?_
  refine VG (VO.buildSlice (n:=1) (pv:=[(0,pV r)]) [.pointer (some ⟨r,0,none⟩)] Z Z Z Z yy (eY Z Z Z) fun nb=>?_)
  refine VG (VO.append (m:=1) (news:=[.pointer (some ⟨r,0,none⟩)]) 8 Z Z Z Z Z Z Z (dm.pt 0 Z Z Z) Z (u6 (k:=100) yg yy) yg fun na2 nc2 hnc=>?_)
  refine ae ?_
  refine VG (VO.st 3 (cs':=tR c qa2 qc2 m (.slice na2 (nr.length+1) nc2) (.slice none 0 0) (.pointer (some ⟨l,0,none⟩)) h) Z Z Z Z (by show 14<19;omega) Z Z ?_)
  refine gC ?_
  have hlen:(nr ++ [some (r,cJ c nr.length false)]).length=nr.length+1:=by simp
  refine⟨(nr ++ [some (r,cJ c nr.length false)],na2,nc2),⟨by dsimp only;omega,?_⟩,by dsimp only;omega,SC Z (SC Z (Sub.int Z fB (SN _))),?_⟩
  ·dsimp only
   rw[hlen,tH,gn,gn,hn2];rfl
  ·dsimp only
   rw[hlen,fu]
   refine aa.aj ?_
   refine IP 3 Z (IP 3 Z (IP 3 Z (IP 3 Z (IP 3 Z (IP 3 Z (IP 0 Z ?_))))))
   exact aa.trans aa.tail (F8 (f:=jO) (x:=some (r,cJ c nr.length false)))
 have hnl:nr.length=c.nodes.toNat:=by omega
 refine ae ?_
 refine VC.loop (σ:=List oC×Option Addr×Nat) (fun s=>[(1,pV b1),(6,pV p),(10,.int .i64 s.1.length)])
  (fun s=>[pt p (tR c qa2 qc2 m (.slice na nr.length nc) (.slice s.2.1 s.1.length s.2.2) (.pointer (some ⟨l,0,none⟩)) h) sJ,pt b1 (c.cells qa2 qc2) nW,iq qa2 qc2 c.qs,cH l ⟨c.link,[]⟩,jr h uh,cC m (qF c),aq rT 1 na nr.length nc (flat ja nr),bF (nr.map jO),aq sK 1 s.2.1 s.1.length s.2.2 (flat nU s.1),bF (s.1.map oL)])
  (fun s=>s.1.length≤c.bK.toNat∧s.1.map Prod.snd=(List.range s.1.length).map fun(n:Nat)=>qD c n) (fun s=>c.bK.toNat-s.1.length) ([],none,0)
  ⟨bH _,rfl⟩ aH (IP 0 rfl (IP 0 rfl (IP 0 rfl (IP 0 rfl (IP 0 rfl (IP 0 rfl (IP 0 rfl (IP 0 rfl (aa.cK (aa.sep aa.nil)))))))))).aj ?_
 rintro⟨cr,ca,cc⟩ ⟨hm1,hm2⟩
 dsimp only at hm1 hm2 ⊢
 refine dF ?_
 refine CP (p:=(cr.length:Int)<c.bK) Z (fun h1=>CK ?_) (fun h1=>CX ?_)
 ·refine Bi ?_
  refine VG (VL 1 (c.cells qa2 qc2) Z Z Z Z ?_)
  refine ae ?_
  refine VG (VK (Lc:=[]) (fun Fr w hF hs hS=>Q8 Fr w c (rG (hS.at_ 2 Z)) trivial hqc2 cr.length) Z Z ?_)
  rintro v L1 g
  rw[if_pos (show qE c (cr.length:Int)=0 from by unfold qE;rw[if_pos ⟨hf,by omega,h1⟩])] at g
  obtain⟨r,rfl,rfl⟩:=g
  refine ae ?_
  refine jA ?_
  refine VG (VO.buildSlice (n:=1) (pv:=[(0,pV r)]) [.pointer (some ⟨r,0,none⟩)] Z Z Z Z yy (eY Z Z Z) fun nb=>?_)
  refine VG (VO.append (m:=1) (news:=[.pointer (some ⟨r,0,none⟩)]) 10 Z Z Z Z Z Z Z (dm.pt 0 Z Z Z) Z (u6 (k:=100) yg yy) yg fun ca2 cc2 hcc=>?_)
  refine ae ?_
  refine VG (VO.st 3 (cs':=tR c qa2 qc2 m (.slice na nr.length nc) (.slice ca2 (cr.length+1) cc2) (.pointer (some ⟨l,0,none⟩)) h) Z Z Z Z (by show 15<19;omega) Z Z ?_)
  refine gC ?_
  have hlen:(cr ++ [(r,qD c cr.length)]).length=cr.length+1:=by simp
  refine⟨(cr ++ [(r,qD c cr.length)],ca2,cc2),⟨by dsimp only;omega,?_⟩,by dsimp only;omega,SC Z (SC Z (Sub.int Z fB (SN _))),?_⟩
  ·dsimp only
   rw[hlen,tH,gn,gn,hm2];rfl
  ·dsimp only
   rw[hlen,fu]
   refine aa.aj ?_
   refine IP 3 Z (IP 3 Z (IP 3 Z (IP 3 Z (IP 3 Z (IP 3 Z (IP 3 Z (IP 3 Z (IP 0 Z ?_))))))))
   exact aa.trans aa.tail (F8 (f:=oL) (x:=(r,qD c cr.length)))
 have hml:cr.length=c.bK.toNat:=by omega
 refine VC.bz 6 Z (bd.sl rT 1 na nr.length nc (flat ja nr)) ?_
 rintro(_ | ⟨nb,nx⟩) ⟨-,-,hn⟩
 ·exact absurd hn.2.1 yg
 obtain⟨rfl,hnx⟩:=hn
 refine VC.bz 8 Z (bd.sl sK 1 ca cr.length cc (flat nU cr)) ?_
 rintro(_ | ⟨cb,cx⟩) ⟨-,-,hc⟩
 ·exact absurd hc.2.1 yg
 obtain⟨rfl,hcx⟩:=hc
 refine ae ?_
 refine CR (an.cV 2 3 Z Z Z (L':=[ek p (rL c)]) (aa.tQ (K:=[]) ⟨qa2,qc2,m,nb,nc,nx,nr,cb,cc,cx,cr,l,h,none,0⟩ ⟨by rw[hn2,hnl];rfl,by rw[hm2,hml];rfl,hqc2⟩ ?_).aj (by rw[if_pos hf];exact⟨p,Z,Z⟩))
 exact IP 2 Z (IP 3 Z (IP 5 Z (IP 1 Z (IP 0 Z (IP 1 Z (IP 1 Z (aa.cK (bb [1,1]))))))))
end Cl
namespace Cl
open Go Vg T Api Ch Rep Conf Lg Rd
attribute [local irreducible] VO VC VA
section
variable {p:Nat} {C:az} {y:fJ} {b e:Nat}
theorem TT(ok:C.aU.Ok)(h:a_ Fr [ek p C] w):ax Tryz.prog 34 [.pointer (some ⟨p,0,none⟩)] Fr w [] (fun v L=>∃q m,m.Perm C.aU.mail∧v=.pointer (some ⟨q,0,none⟩)∧L=[cH q ⟨C.aU.cap,m⟩]):=by
 obtain⟨y,fit,hy⟩:=BZ h
 exact aa6 Fr w ok (hy.aA 0 Z) (hy.at_ 5 Z)
theorem TS{q:Nat}{S:aX}(h:a_ Fr [cH q S] w)(x z:Int):ax Tryz.prog 36 [.pointer (some ⟨q,0,none⟩),.int .i64 x,.int .i64 z] Fr w [] (fun v L=>v=.int .i64 (S.list (x,z)).length∧L=[]):=by
 obtain⟨lb,X,hX,hs⟩:=F3 h
 exact Ty Fr w (hs.aA 0 Z) (hs.w9 1 Z) hX x z
theorem TU{q:Nat}{S:aX}(hml:S.mail.length≤100000)(h:a_ Fr [cH q S] w):ax Tryz.prog 35 [.pointer (some ⟨q,0,none⟩)] Fr w [] (fun v L=>∃(l:List bE) (a:Option Addr) (c:Nat),l.Perm (S.mail.map Prod.fst)∧v=.slice a l.length c∧L=[aq mQ 2 a l.length c (flat dS l)]):=by
 obtain⟨lb,X,hX,hs⟩:=F3 h
 exact Vq Fr w hml (hs.aA 0 Z) (hs.w9 1 Z) hX
end
end Cl
end Go.Proofs.YtkgfhabealjjpaaGreatDoor
