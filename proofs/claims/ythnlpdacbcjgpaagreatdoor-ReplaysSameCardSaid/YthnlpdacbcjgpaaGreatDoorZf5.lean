/- Texts of the proof, put together and shortened. No condition. -/
import Derived.Test.YthnlpdacbcjgpaaGreatDoorZf4
set_option maxRecDepth 100000
set_option maxHeartbeats 16000000
set_option linter.unusedVariables false
set_option linter.unusedSectionVars false
set_option linter.unusedSimpArgs false
namespace Go.Proofs.YthnlpdacbcjgpaaGreatDoor
variable (Fr : Nat → Prop) (w : World)
namespace Vg
open Go Go.MapKept
def wU(k:Int×Int):Value:=.agg ([.int .i64 k.1,.int .i64 k.2]:List Value).toArray
theorem iB.ii{P:Program}{t ti:TypeId}{f g:Field}{Ti:TI}(ht:P.underlying t=some (.struct #[f,g]))(hp:P.stoodInHeld t=false)(hf:f.name ≠ "_")(hg:g.name ≠ "_")(hf2:f.type=ti)(hg2:g.type=ti)(hfo:f.offset=0)(hgo:g.offset=1)
  (hi:P.underlying ti=some (.int .i64)) (hTi:az P ti Ti) (ha:Ti.aU.agg=false):iB P t wU where
 inj:=fun a b h=>by
  obtain⟨a1,a2⟩:=a;obtain⟨b1,b2⟩:=b
  simp[wU] at h
  rw[h.1,h.2]
 check:=fun e a w=>by
  have h1:(part ti ([.int .i64 a.1,.int .i64 a.2]:List Value).toArray 0).run P w=.ok (.int .i64 a.1) w:=pT hTi ha rfl w
  have h2:(part ti ([.int .i64 a.1,.int .i64 a.2]:List Value).toArray 1).run P w=.ok (.int .i64 a.2) w:=pT hTi ha rfl w
  have c1:(Instr.checkKey e (9998+1) ti (.int .i64 a.1)).run P w=.ok () w:=run_checkKey hi (by rfl) e 9998
  have c2:(Instr.checkKey e (9998+1) ti (.int .i64 a.2)).run P w=.ok () w:=run_checkKey hi (by rfl) e 9998
  show(Instr.checkKey e (9999+1) t (wU a)).run P w=_
  unfold Instr.checkKey
  rw[Sem.run_bind,run_underlying ht]
  simp only[Result.andThen_ok,wU]
  rw[←Array.forIn_toList]
  simp[hf,hg,hf2,hg2,hfo,hgo,h1,h2,Sem.run_bind,Result.andThen]
  rw[show(9999:Nat)=9998+1 from rfl,c1]
  simp[Result.andThen,h2,c2]
 find:=fun {α} d a xs es hes w=>by
  unfold Instr.findKey
  rw[Sem.run_bind,run_underlying ht]
  simp only[Result.andThen_ok]
  have hnow:∀(l:List MapEntry) (ys:List ((Int×Int)×α)) (i:Nat),l.map (fun e=>(e.key,e.val))=ys.map (fun x=>(wU x.1,d x.2))→(l≠[]→Instr.findNow (.struct #[f,g]) (wU a) l i=none):=by
   intro l ys i hl hne
   cases l with
   | nil=>exact absurd rfl hne
   | cons e r=>rfl
  have heq:∀(a b:Int×Int) (w:World),(Op.equal t (wU a) (wU b)).run P w=.ok (decide (a=b)) w:=fun a b w=>by
   have hx1:∀w:World,(part f.type ([.int .i64 a.1,.int .i64 a.2]:List Value).toArray f.offset).run P w=.ok (.int .i64 a.1) w:=fun w=>by rw[hf2,hfo];exact pT hTi ha rfl w
   have hx2:∀w:World,(part g.type ([.int .i64 a.1,.int .i64 a.2]:List Value).toArray g.offset).run P w=.ok (.int .i64 a.2) w:=fun w=>by rw[hg2,hgo];exact pT hTi ha rfl w
   have hy1:∀w:World,(part f.type ([.int .i64 b.1,.int .i64 b.2]:List Value).toArray f.offset).run P w=.ok (.int .i64 b.1) w:=fun w=>by rw[hf2,hfo];exact pT hTi ha rfl w
   have hy2:∀w:World,(part g.type ([.int .i64 b.1,.int .i64 b.2]:List Value).toArray g.offset).run P w=.ok (.int .i64 b.2) w:=fun w=>by rw[hg2,hgo];exact pT hTi ha rfl w
   refine uv.run (uv.eq (uv.st ht hp (qT.cons hf hx1 hy1 (hf2▸uv.int hi a.1 b.1) (qT.cons hg hx2 hy2 (hg2▸uv.int hi a.2 b.2) qT.nil))) ?_) yp w
   obtain⟨a1,a2⟩:=a;obtain⟨b1,b2⟩:=b
   by_cases h1:a1=b1<;>by_cases h2:a2=b2<;>simp[h1,h2]
  cases es with
  | nil=>
   cases xs with
   | nil=>rfl
   | cons _ _=>cases hes
  | cons e r=>
   rw[hnow (e::r) xs 0 hes yf]
   exact pR heq d a xs (e::r) 0 hes w
 bits:=fun a=>by simp[wU,Instr.sameBits]
theorem NT{l:List MapEntry}(hn:(l.map (·.born)).Nodup):∀{j:Nat} {m:MapEntry},l[j]?=some m→l.findIdx? (fun e=>(e.born:Int) == (m.born:Int))=some j:=by
 induction l with
 | nil=>intro j m h;cases h
 | cons a r ih=>
  intro j m h
  simp only[ZX,List.nodup_cons] at hn
  rw[List.findIdx?_cons]
  cases j with
  | zero=>
   simp only[List.getElem?_cons_zero,Option.some.injEq] at h
   subst h
   simp
  | succ j=>
   simp only[Z'] at h
   have hne:((a.born:Int) == (m.born:Int))=false:=by
    rw[beq_eq_false_iff_ne]
    intro e
    exact hn.1 (Zv.2 ⟨m,ME h,(Int.ofNat.inj e).symm⟩)
   rw[hne,ih hn.2 h];rfl
theorem Cu{es:Array MapEntry}(hn:(es.toList.map (·.born)).Nodup){j:Nat}{m:MapEntry}(h:es[j]?=some m):es.findIdx? (fun e=>(e.born:Int) == (m.born:Int))=some j:=by
 have:=NT hn (j:=j) (m:=m) yc
 cases es
 simpa using this
theorem Cv(es:Array MapEntry)(m:MapEntry)(f:MapEntry→MapEntry):(es.push m).modify es.size f=es.push (f m):=by
 apply Array.ext_getElem?
 intro i
 rw[Array.getElem?_modify,Array.getElem?_push,Array.getElem?_push]
 by_cases h:es.size=i
 ·subst h;simp
 ·rw[if_neg h,if_neg (fun k=>h k.symm),if_neg (fun k=>h k.symm)]
theorem Au(es:Array MapEntry)(j:Nat)(k v:Value):(es.modify j fun e=>{ e with key:=k }).modify j (fun e=>{ e with val:=v })=es.modify j fun e=>{ e with key:=k,val:=v }:=by
 apply Array.ext_getElem?
 intro i
 simp only[Array.getElem?_modify]
 by_cases h:j=i
 ·subst h;simp;rfl
 ·simp[h]
def Fx{κ α:Type}[DecidableEq κ](c:κ→Value)(d:α→Value)(b:Nat)(xs:List (κ×α))(a:κ)(st:Nat):HP:=
 ⟨fun ids w=>ids=[b]∧∃(es:Array MapEntry) (clock j:Nat),w.heap[b]?=some (.map es clock)∧es.findIdx? (fun e=>(e.born:Int) == (st:Int))=some j ∧
   ∀u,(es.modify j fun e=>{ e with val:=d u }).toList.map (fun e=>(e.key,e.val))=(eE xs a u).map (fun x=>(c x.1,d x.2))∧Stamped (es.modify j fun e=>{ e with val:=d u }) clock,
  fun _ _ _ h hs=>⟨hs.1,by
   obtain⟨es,k,j,h1,h2⟩:=hs.2
   exact⟨es,k,j,(h b yb).trans h1,h2⟩⟩⟩
section
variable {X:Cx} {κ α:Type} [DecidableEq κ] {c:κ→Value} {d:α→Value} {b:Nat} {xs:List (κ×α)} {e:Env} {L:List HP} {T kt et:TypeId} {te:TI} {x y z:Operand}
theorem a8.mapEntry(i:Nat)(K:iB X.P kt c)(hT:X.P.underlying T=some (.map kt et))(hE:aM X.tab et=some te){a:κ}(hx:ev e x=some (.map (some b)))(hk:ev e y=some (c a))(hL:L[i]?=some (gL c d b xs)):
  a8 X (.mapEntry T x y) e L (fun v L'=>∃st:Nat,v=.tuple #[((dP xs a).map d).getD te.zero,.int .i64 st]∧L'=L.set i (Fx c d b xs a st)):=fun ac w ha hw dst ty pos after guard=>by
 obtain⟨⟨es,clock,h1,h2,h3⟩,hf⟩:=hw.E3 hL
 have hfi:=K.find d a xs es.toList h2 w
 have hids:∀ids w,(gL c d b xs).sat ids w→ids=[b]:=fun _ _ h=>h.1
 have P:=fun u=>E4 K a u h2 h3
 cases hl:iU xs a 0 with
 | none=>
  obtain⟨hg,_⟩:=gZ hl
  rw[hl] at hfi
  have hz:=ko (X.ok.look hE) (w:=w)
  refine .inl ⟨_,bB w b (.map (es.push { key:=c a,val:=te.zero,born:=clock }) (clock+1)),_,?_,⟨clock,Z,Z⟩,hw.uq hL hids h1 hf ⟨rfl,_,_,es.size,eH h1,?_,fun u=>?_⟩⟩
  ·have:(Instr.mapEntry T (.map (some b)) (c a)).run X.P w=.ok (.tuple #[te.zero,.int .i64 clock]) (bB w b (.map (es.push { key:=c a,val:=te.zero,born:=clock }) (clock+1))):=by
    simp[Instr.mapEntry,run_underlying hT,MapKept.run_getObj_map h1,K.check,hfi,hz,MapKept.run_setObj_map _ h1,Result.andThen,bB,goInt]
   simp only[execOp,ha.ev hx,ha.ev hk,hg]
   rw[Sem.run_bind,this];rfl
  ·have hk:∀x∈es.toList,x.key≠c a:=fun m hm he=>by
    have:(m.key,m.val)∈es.toList.map (fun e=>(e.key,e.val)):=Zv.2 ⟨m,hm,rfl⟩
    rw[h2] at this
    obtain⟨x,hx,hx2⟩:=Zv.1 this
    have e2:c x.1=m.key:=congrArg Prod.fst hx2
    exact(gZ hl).2.1 x hx (K.inj _ _ (e2.trans he))
   exact Cu (m:={ key:=c a,val:=te.zero,born:=clock }) (stamped_push h3 (val:=te.zero) hk).2.1 yf
  ·rw[Cv]
   exact(P u).2 hl
 | some p=>
  obtain⟨j,v⟩:=p
  obtain⟨_,hj,hg,_⟩:=jb hl
  rw[Nat.sub_zero] at hj
  obtain⟨m,hm',hmk,_⟩:=Du h2 hj
  have hm:es[j]?=some m:=by simpa using hm'
  rw[hl] at hfi
  have hst:=stamped_modify h3 j (fun e=>{ e with key:=c a }) (fun _ _=>rfl) (fun e _ he=>by rw[hm] at he;cases he;exact hmk.symm)
  have hat:(es.modify j fun e=>{ e with key:=c a })[j]?=some { m with key:=c a }:=by rw[Array.getElem?_modify,if_pos rfl,hm];rfl
  refine .inl ⟨_,bB w b (.map (es.modify j fun e=>{ e with key:=c a }) clock),_,?_,⟨m.born,Z,Z⟩,hw.uq hL hids h1 hf ⟨rfl,_,_,j,eH h1,Cu (m:={ m with key:=c a }) hst.2.1 hat,fun u=>?_⟩⟩
  ·have:(Instr.mapEntry T (.map (some b)) (c a)).run X.P w=.ok (.tuple #[d v,.int .i64 m.born]) (bB w b (.map (es.modify j fun e=>{ e with key:=c a }) clock)):=by
    simp[Instr.mapEntry,run_underlying hT,MapKept.run_getObj_map h1,K.check,hfi,hm,hmk,qQ K,MapKept.run_setObj_map _ h1,Result.andThen,bB,goInt]
   simp only[execOp,ha.ev hx,ha.ev hk,hg]
   rw[Sem.run_bind,this];rfl
  ·rw[Au]
   obtain⟨_,_,_,q1,q2⟩:=(P u).1 hl
   exact⟨q1,q2⟩
theorem a8.G6(i:Nat)(K:iB X.P kt c)(hT:X.P.underlying T=some (.map kt et))(hE:aM X.tab et=some te)(v0:Value){a:κ}(hx:ev e x=some (.map (some b)))(hk:ev e y=some (c a))(hL:L[i]?=some (gL c d b xs))(hv:((dP xs a).map d).getD te.zero=v0):
  a8 X (.mapEntry T x y) e L (fun v L'=>∃st:Nat,v=.tuple #[v0,.int .i64 st]∧L'=L.set i (Fx c d b xs a st)):=hv▸a8.mapEntry i K hT hE hx hk hL
theorem a8.entryStore(i:Nat){a:κ}{u:α}{st:Nat}(hx:ev e x=some (.map (some b)))(hs:ev e y=some (.int .i64 st))(hv:ev e z=some (d u))(hL:L[i]?=some (Fx c d b xs a st)):
  a8 X (.entryStore T x y z) e L (fun v L'=>v=undef∧L'=L.set i (gL c d b (eE xs a u))):=fun ac w ha hw dst ty pos after guard=>by
 obtain⟨F,hs1,_,hb⟩:=hw.sat
 obtain⟨ids,hp,hm⟩:=hs1.get hL
 obtain⟨rfl,es,clock,j,h1,h2,h3⟩:=hp
 have hf:=(hb b (hm b yf)).1
 have hids:∀ids w,(Fx c d b xs a st).sat ids w→ids=[b]:=fun _ _ h=>h.1
 obtain⟨q1,q2⟩:=h3 u
 refine .inr (.inl ⟨bB w b (.map (es.modify j fun e=>{ e with val:=d u }) clock),_,?_,⟨rfl,Z⟩,hw.uq hL hids h1 hf ⟨rfl,_,_,eH h1,q1,q2⟩⟩)
 have:(Instr.entryStore T (.map (some b)) (.int .i64 st) (d u)).run X.P w=.ok () (bB w b (.map (es.modify j fun e=>{ e with val:=d u }) clock)):=by
  simp[Instr.entryStore,MapKept.run_getObj_map h1,asInt,asIntOf,h2,MapKept.run_setObj_map _ h1,Result.andThen,bB]
 simp only[execOp,ha.ev hx,ha.ev hs,ha.ev hv]
 rw[Sem.run_bind,this];rfl
end
end Vg
namespace Cl
open Go Vg T Api Ch
attribute [local irreducible] VO VC VA
theorem fp:∀(k:Nat) (s:Bs),fQ (k+1) s=(fQ k s).bind fun p=>(aW p.2).map fun u=>(p.1 ++ [u.1],u.2)
 | 0,s=>by
  rw[fQ,fQ]
  cases h:aW s with
  | none=>simp[h]
  | some x=>simp[h,fQ]
 | k+1,s=>by
  rw[fQ,fQ]
  cases h:aW s with
  | none=>rfl
  | some x=>
   dsimp only
   rw[fp k x.2]
   cases h2:fQ k x.2 with
   | none=>rfl
   | some y=>
    simp only[ZJ]
    cases h3:aW y.2 with
    | none=>rfl
    | some z=>rfl
theorem qJ{s:Bs}{k:Nat}(h:fQ k s=none):∀j,fQ (k+j) s=none
 | 0=>h
 | j+1=>by rw[←Nat.add_assoc,fp,qJ h j];rfl
theorem tE{a b:Int}:∀(k:Nat) (l:List Int),l.length=2*k→lD (l ++ [a,b])=lD l ++ [(a,b)]
 | 0,l,h=>by
  obtain rfl:l=[]:=ZH h
  rfl
 | k+1,l,h=>by
  match l,h with
  | x::y::l,h=>
   rw[Z2,Z2,lD,lD,tE k l (by simp at h;omega),Z2]
  | [x],h=>simp at h;omega
  | [],h=>simp at h
theorem Jm{ms:List bG}{k:Nat}{m:bG}(h:ms[k]?=some m):(flat ax ms)[0+k*2]?=some (.int .i64 m.1):=by
 have:=fD aF (j:=0) h rfl []
 rw[Zi] at this
 rw[Zl];exact this
theorem Jn{ms:List bG}{k:Nat}{m:bG}(h:ms[k]?=some m):(flat ax ms)[0+k*2+1]?=some (.int .i64 m.2):=by
 have:=fD aF (j:=1) h rfl []
 rw[Zi] at this
 rw[Zl];exact this
theorem Jo{ms:List bG}{k:Nat}{m:bG}(x:Int)(h:ms[k]?=some m):(flat ax ms).set (0+k*2) (.int .i64 x)=flat ax (ms.set k (x,m.2)):=by
 have:=gy aF (j:=0) (a':=(x,m.2)) h yp rfl []
 rw[Zi,Zi] at this
 rw[Zl];exact this
theorem Jp{ms:List bG}{k:Nat}{m:bG}(x:Int)(h:ms[k]?=some m):(flat ax ms).set (0+k*2+1) (.int .i64 x)=flat ax (ms.set k (m.1,x)):=by
 have:=gy aF (j:=1) (a':=(m.1,x)) h yp rfl []
 rw[Zi,Zi] at this
 rw[Zl];exact this
structure Wm(ok:Bool)(r:Bs)(ok':Bool)(k:Int)(q:Bs):Prop where
 len:q.length≤r.length
 t:ok'=true→ok=true∧aW r=some (k,q)
 f:ok'=false→ok=false∨aW r=none
abbrev Jq:TypeId:=4
abbrev vI:TypeId:=9
def tw(pb okb rb:Nat)(T:TypeId)(cs:List Value)(ok:Bool)(r:Bs):List HP:=[pt pb cs T,pt okb [.bool ok] Jq,pt rb [.string (bT r)] vI]
theorem mH{pb off okb rb:Nat}{T:TypeId}{cs:List Value}{ok:Bool}{r:Bs}{k0:Int}(h0:cs[off]?=some (.int .i64 k0))(hr:r.length≤1000000):
  aH Tryz.prog 285 [.pointer (some ⟨pb,off,none⟩),.pointer (some ⟨okb,0,none⟩),.pointer (some ⟨rb,0,none⟩)] Fr w (tw pb okb rb T cs ok r)
   (fun v L=>v=.tuple #[]∧∃k q ok',Wm ok r ok' k q∧L=tw pb okb rb T (cs.set off (.int .i64 k)) ok' q):=by
 have hlt:off<cs.length:=(Zk.1 h0).1
 have hself:cs.set off (.int .i64 k0)=cs:=by
  refine Z8 fun j=>?_
  by_cases h:off=j
  ·subst h;rw[ZG hlt,h0]
  ·rw[ZN h]
 unfold tw
 refine TF 13 Tryz.func285 Z yn ah Z Z ?_
 refine CS (CG (VG (VO.ld 1 Z Z Z Z ?_)))
 refine aq ?_
 refine CC Z (fun h=>?_) (fun h=>CK ?_)
 rotate_left
 ·exact ay.void rfl ER ⟨rfl,k0,r,ok,⟨NR _,fun h2=>(by rw[h] at h2;cases h2),fun _=>.inl h⟩,by rw[hself]⟩
 subst h
 obtain⟨k,q,ok',hv,hql,hk1,hk2⟩:=An r
 refine aq ?_
 refine VG (VO.ld 2 Z Z Z Z ?_)
 refine VG (VV (fun Fr w hF hw _=>hv▸nB Fr w r hr) Z ?_)
 refine aq ?_
 refine VG (VO.st 0 (cs':=cs.set off (.int .i64 k)) Z Z Z Z hlt Z Z ?_)
 refine VG (VO.st 2 (cs':=[.string (bT q)]) Z Z Z Z ZV Z Z ?_)
 refine VG (VO.st 1 (cs':=[.bool ok']) Z Z Z Z ZV Z Z ?_)
 refine aq ?_
 exact ay.void Z ER ⟨rfl,k,q,ok',⟨hql,fun h=>⟨rfl,hk1 h⟩,fun h=>.inr (hk2 h)⟩,Z⟩
structure LI(n:Nat)(r0:Bs)(N:Nat)(x:Nat×List bG×Bs×Bool):Prop where
 k:x.1≤n
 ms:x.2.1.length=n
 len:x.2.2.1.length≤N
 t:x.2.2.2=true→∃l,fQ (2*x.1) r0=some (l,x.2.2.1)∧x.2.1.take x.1=lD l∧l.length=2*x.1
 f:x.2.2.2=false→fQ (2*n) r0=none
theorem LI.next{n N k:Nat}{r0 r q p:Bs}{ms:List bG}{ok ok1 ok2:Bool}{a b:Int}{m:bG}(h:LI n r0 N (k,ms,r,ok))(hk:k<n)(h1:Wm ok r ok1 a q)(h2:Wm ok1 q ok2 b p):LI n r0 N (k+1,ms.set k (a,b),p,ok2):=by
 have hl:=h.ms
 have hlen:=h.len
 have l1:=h1.len
 have l2:=h2.len
 dsimp only at hl hlen
 have step:∀l,fQ (2*k) r0=some (l,r)→fQ (2*k+1) r0=(aW r).map fun u=>(l ++ [u.1],u.2):=fun l hl=>by rw[fp,hl];rfl
 refine⟨hk,by simp[hl],by dsimp only;omega,fun e=>?_,fun e=>?_⟩
 ·obtain⟨e1,u2⟩:=h2.t e
  obtain⟨e0,u1⟩:=h1.t e1
  obtain⟨l,hi,ht,hll⟩:=h.t e0
  dsimp only at hi ht hll ⊢
  refine⟨l ++ [a,b],?_,?_,by simp[hll];omega⟩
  ·rw[show 2*(k+1)=2*k+1+1 from by omega,fp,step l hi,u1]
   simp[u2]
  ·rw[tE k l hll,←ht,Zu,ZG yd,List.take_set_of_le (NR _)];rfl
 ·show fQ (2*n) r0=none
  have two:∀j,2*k+j≤2*n→fQ (2*k+j) r0=none→fQ (2*n) r0=none:=fun j hj hn=>by
   have:=qJ hn (2*n-(2*k+j))
   rwa[show 2*k+j+(2*n-(2*k+j))=2*n from by omega] at this
  by_cases e0:ok=true
  rotate_left
  ·exact h.f (by simpa using e0)
  obtain⟨l,hi,_,_⟩:=h.t e0
  by_cases e1:ok1=true
  rotate_left
  ·rcases h1.f (by simpa using e1) with g | g
   ·rw[g] at e0;cases e0
   ·exact two 1 yd (by rw[step l hi,g];rfl)
  ·obtain⟨_,u1⟩:=h1.t e1
   rcases h2.f e with g | g
   ·rw[g] at e1;cases e1
   ·exact two 2 yd (by rw[fp,step l hi,u1];simp[g])
end Cl
namespace Cl
open Go Vg T Api Ch
attribute [local irreducible] VO VC VA
def oa:List Value:=[.int .i64 0,.slice none 0 0,.int .i64 0]
def Zb(o:Option dL)(v:Value)(L:List HP):Prop:=match o with
 | some c=>∃a cap,v=.tuple #[.agg (c.cells a cap).toArray,.int .i64 0]∧L=[aJ aG 2 a c.ms.length cap (flat ax c.ms)]
 | none=>v=.tuple #[.agg oa.toArray,.int .i64 10]∧L=[]
theorem Cw{s:Bs}(h:aW s=none):iC s=none:=by unfold iC;rw[h]
theorem Cy{s r:Bs}{k:Int}(h:aW s=some (k,r))(h2:aW r=none):iC s=none:=by unfold iC;rw[h];dsimp only;rw[h2]
theorem tF{s r q:Bs}{k z:Int}(h:aW s=some (k,r))(h2:aW r=some (z,q))(h3:z<1∨6<z):iC s=none:=by unfold iC;rw[h];dsimp only;rw[h2];dsimp only;rw[if_pos h3]
theorem Ew{s r q:Bs}{k:Int}{n:Nat}(h:aW s=some (k,r))(h2:aW r=some ((n:Int),q))(h3:1≤n∧n≤6):iC s=match fQ (2*n) q with
   | none=>none
   | some (l,r)=>match aW r with
    | none=>none
    | some (dr,r)=>if r=[]∧se ⟨k,lD l,dr⟩=0 then some ⟨k,lD l,dr⟩ else none:=by
 unfold iC;rw[h];dsimp only;rw[h2];dsimp only;rw[if_neg yd];rfl
abbrev Jr:TypeId:=3
def dC(ep:Int)(a:Value)(dr:Int):List Value:=[.int .i64 ep,a,.int .i64 dr]
theorem G7(s:Bs)(hs:s.length≤1000000):aH Tryz.prog 249 [.string (bT s)] Fr w [] (Zb (iC s)):=by
 refine TF 68 Tryz.func249 Z yn ah Z Z ?_
 refine CS (CG (VG (VO.alloc Z fun b2=>?_)))
 refine aq ?_
 refine VG (VO.alloc Z fun b4=>?_)
 refine aq ?_
 refine VG (VO.alloc Z fun b5=>?_)
 refine VG (VO.alloc Z fun b6=>?_)
 refine VG (VO.alloc Z fun b7=>?_)
 refine VG (VO.st 2 (cs':=[.string (bT s)]) Z Z Z Z ZV Z Z ?_)
 refine VG (VO.st 1 (cs':=[.bool true]) Z Z Z Z ZV Z Z ?_)
 refine VG (VO.st 0 (cs':=[.int .i64 0]) Z Z Z Z ZV Z Z ?_)
 refine aq ?_
 refine VG (VI (fE (u:=[]) (v:=[.pointer (some ⟨b6,0,none⟩),.pointer (some ⟨b5,0,none⟩)]) Z Z) ?_)
 refine aq ?_
 refine VO.ar (L':=tw b4 b6 b5 kK (dC 0 (.slice none 0 0) 0) true s ++ [pt b7 [.int .i64 0] Jr,pt b2 oa kK]) (dG [3,1,1,0,0]).ar ?_
 refine VG (VO.jK (Lc:=tw b4 b6 b5 kK (dC 0 (.slice none 0 0) 0) true s) (Lr:=[pt b7 [.int .i64 0] Jr,pt b2 oa kK]) Z (fun Fr w hF hw _=>mH Fr w (k0:=0) Z hs) Z Z ?_)
 rintro _ _ ⟨rfl,k1,r1,ok1,i1,rfl⟩
 have n1:=i1.len
 refine aq ?_
 refine VO.ar (L':=tw b7 b6 b5 Jr [.int .i64 0] ok1 r1 ++ [pt b4 (dC k1 (.slice none 0 0) 0) kK,pt b2 oa kK]) (dG [3,1,1,0,0]).ar ?_
 refine VG (VO.jK (Lc:=tw b7 b6 b5 Jr [.int .i64 0] ok1 r1) (Lr:=[pt b4 (dC k1 (.slice none 0 0) 0) kK,pt b2 oa kK]) Z (fun Fr w hF hw _=>mH Fr w (k0:=0) Z yd) Z Z ?_)
 rintro _ _ ⟨rfl,z,r2,ok2,i2,rfl⟩
 have n2:=i2.len
 show VO _ _ _ _ _ [pt b7 [.int .i64 z] Jr,pt b6 [.bool ok2] Jq,pt b5 [.string (bT r2)] vI,pt b4 (dC k1 (.slice none 0 0) 0) kK,pt b2 oa kK] _
 refine aq ?_
 refine QZ ?_
 cases ok2 with
 | false=>
  have hn:iC s=none:=by
   by_cases e1:ok1=true
   ·obtain⟨_,u1⟩:=i1.t e1
    rcases i2.f rfl with g | g
    ·rw[g] at e1;cases e1
    ·exact Cy u1 g
   ·rcases i1.f (by simpa using e1) with g | g
    ·cases g
    ·exact Cw g
  refine aK ?_
  refine VG (VY 19 true Z Z ?_)
  refine aK ?_
  refine VG (VY 23 true Z Z ?_)
  refine HL ?_
  refine Rc ?_
  exact Q5
 | true=>
 obtain⟨e1,u2⟩:=i2.t rfl
 obtain⟨_,u1⟩:=i1.t e1
 clear i1 i2
 refine aK ?_
 refine VG (VY 19 false Z Z ?_)
 refine eP ?_
 by_cases h1:z<1
 ·have hn:iC s=none:=tF u1 u2 (.inl h1)
  refine VG (VY 23 true Z (DT h1) ?_)
  refine HL ?_
  refine Rc ?_
  exact Q5
 refine VG (VY 23 false Z (DF h1) ?_)
 refine eP ?_
 refine CP (p:=6<z) Z (fun h2=>?_) (fun h2=>CK ?_)
 ·have hn:iC s=none:=tF u1 u2 (.inr h2)
  refine aq ?_
  refine Rc ?_
  exact Q5
 obtain⟨n,rfl⟩:∃n:Nat,z=n:=⟨z.toNat,by omega⟩
 have hG:=Ew u1 u2 yd
 clear u1 u2 e1
 refine an ?_
 refine VG (VO.makeSlice n Z Z Z Z Z Z Z yd (by show 16*n≤_;omega) fun mb=>?_)
 rw[show(List.replicate n T.t113.zs).flatten=flat ax (List.replicate n (0,0)) from oq (c:=ax) n (0,0)]
 refine aq ?_
 refine VG (VO.st 4 (cs':=dC k1 (.slice (some ⟨mb,0,none⟩) n n) 0) Z Z Z Z Om Z Z ?_)
 refine Dd ?_
 refine VC.loop (σ:=Nat×List bG×Bs×Bool) (fun x=>[(2,pV b2),(4,pV b4),(5,pV b5),(6,pV b6),(8,pS 285 [] [.pointer (some ⟨b6,0,none⟩),.pointer (some ⟨b5,0,none⟩)]),(33,.int .i64 n),(34,.int .i64 (x.1:Int))])
  (fun x=>[pt mb (flat ax x.2.1) aG,pt b6 [.bool x.2.2.2] Jq,pt b5 [.string (bT x.2.2.1)] vI,pt b4 (dC k1 (.slice (some ⟨mb,0,none⟩) n n) 0) kK,pt b2 oa kK]) (LI n r2 s.length) (fun x=>n-x.1) (0,List.replicate n (0,0),r2,true)
  ⟨Zj _,by simp,by dsimp only;omega,fun _=>⟨[],rfl,rfl,rfl⟩,fun h=>(Z5 h.symm).elim⟩ bd (dG [0,1,1,1,1]).ar ?_
 rintro⟨k,ms,r,ok⟩ hI
 have hk:=hI.k
 have hml:=hI.ms
 have hrl:=hI.len
 dsimp only at hk hml hrl ⊢
 refine aq ?_
 refine CP (p:=(k:Int)<n) Z (fun h3=>CK ?_) (fun h3=>CX ?_)
 ·obtain⟨m,hm⟩:∃m,ms[k]?=some m:=⟨_,GE yd⟩
  refine Vk ?_
  refine Ty ?_
  refine aq ?_
  refine VG (VO.jK (Lc:=tw mb b6 b5 aG (flat ax ms) ok r) (Lr:=[pt b4 (dC k1 (.slice (some ⟨mb,0,none⟩) n n) 0) kK,pt b2 oa kK]) Z (fun Fr w hF hw _=>mH Fr w (Jm hm) yd) Z Z ?_)
  rintro _ _ ⟨rfl,x,q,ok1,i1,rfl⟩
  have n1:=i1.len
  rw[Jo x hm]
  have hm2:(ms.set k (x,m.2))[k]?=some (x,m.2):=ZG yd
  show VO _ _ _ _ _ [pt mb (flat ax (ms.set k (x,m.2))) aG,pt b6 [.bool ok1] Jq,pt b5 [.string (bT q)] vI,pt b4 (dC k1 (.slice (some ⟨mb,0,none⟩) n n) 0) kK,pt b2 oa kK] _
  refine Vk ?_
  refine Ty ?_
  refine aq ?_
  refine VG (VO.jK (Lc:=tw mb b6 b5 aG (flat ax (ms.set k (x,m.2))) ok1 q) (Lr:=[pt b4 (dC k1 (.slice (some ⟨mb,0,none⟩) n n) 0) kK,pt b2 oa kK]) Z (fun Fr w hF hw _=>mH Fr w (Jn hm2) yd) Z Z ?_)
  rintro _ _ ⟨rfl,y,p,ok2,i2,rfl⟩
  rw[Jp y hm2,List.set_set]
  refine qO ?_
  exact⟨(k+1,ms.set k (x,y),p,ok2),hI.next (m:=m) yd i1 i2,by dsimp only;omega,SC Z (SC Z (SC Z (SC Z (SC Z (SC Z (Sub.int Z tL (SN _))))))),ER⟩
 obtain rfl:k=n:=by omega
 refine aq ?_
 refine VO.ar (L':=tw b4 b6 b5 kK (dC k1 (.slice (some ⟨mb,0,none⟩) k k) 0) ok r ++ [pt mb (flat ax ms) aG,pt b2 oa kK]) (dG [3,1,1,0,0]).ar ?_
 refine VG (VO.jK (Lc:=tw b4 b6 b5 kK (dC k1 (.slice (some ⟨mb,0,none⟩) k k) 0) ok r) (Lr:=[pt mb (flat ax ms) aG,pt b2 oa kK]) Z (fun Fr w hF hw _=>mH Fr w (off:=2) (k0:=0) Z yd) Z Z ?_)
 rintro _ _ ⟨rfl,dr,q,ok3,i3,rfl⟩
 have n3:=i3.len
 show VO _ _ _ _ _ [pt b4 (dC k1 (.slice (some ⟨mb,0,none⟩) k k) dr) kK,pt b6 [.bool ok3] Jq,pt b5 [.string (bT q)] vI,pt mb (flat ax ms) aG,pt b2 oa kK] _
 refine aq ?_
 refine QZ ?_
 cases ok3 with
 | false=>
  have hn:iC s=none:=by
   rw[hG]
   by_cases e1:ok=true
   ·obtain⟨l,hl,_,_⟩:=hI.t e1
    dsimp only at hl
    rw[hl]
    rcases i3.f rfl with g | g
    ·rw[g] at e1;cases e1
    ·dsimp only;rw[g]
   ·rw[hI.f (by simpa using e1)]
  refine aK ?_
  refine VG (VY 57 true Z Z ?_)
  refine aK ?_
  refine VG (VY 61 true Z Z ?_)
  refine HL ?_
  refine Rc ?_
  exact Q5
 | true=>
 obtain⟨e1,u1⟩:=i3.t rfl
 obtain⟨l,hl,ht,hll⟩:=hI.t e1
 dsimp only at hl ht hll
 rw[hl] at hG
 dsimp only at hG
 rw[u1] at hG
 dsimp only at hG
 rw[Z3 yd] at ht
 rw[←ht] at hG
 refine aK ?_
 refine Rx ?_
 refine pP ?_
 by_cases hq:q=[]
 rotate_left
 ·have hn:iC s=none:=by rw[hG,if_neg (fun h=>hq h.1)]
  refine VG (VY 61 true Z (by rw[show(ByteArray.mk #[])=bT [] from Z,p7,DF hq];rfl) ?_)
  refine HL ?_
  refine Rc ?_
  exact Q5
 refine VG (VY 61 false Z (by rw[show(ByteArray.mk #[])=bT [] from Z,p7,DT hq];rfl) ?_)
 refine aK ?_
 have hdc:dC k1 (.slice (some ⟨mb,0,none⟩) k k) dr=(dL.mk k1 ms dr).cells (some ⟨mb,0,none⟩) k:=by unfold dC dL.cells;rw[hml]
 rw[hdc]
 refine Yh ?_
 refine VG (VV (fun Fr w hF hw hS=>Ch.bm Fr w (aI.aP (off:=0) (hS.aP 3 Z) (fun i x hx=>by have:=fC aF hx [];rw[Zi] at this;rw[Zl];exact this)) (by rw[hml];omega)) Z ?_)
 refine aK ?_
 refine VC.bp Z (fun hc=>?_) (fun hc=>CK ?_)
 ·have hn:iC s=none:=by rw[hG,if_neg (fun h=>hc h.2)]
  refine aq ?_
  refine Rc ?_
  exact Q5
 rw[if_pos ⟨hq,hc⟩] at hG
 refine aK ?_
 refine Yh ?_
 refine VG (VT (vs:=(dL.mk k1 ms dr).cells (some ⟨mb,0,none⟩) k) (cs':=(dL.mk k1 ms dr).cells (some ⟨mb,0,none⟩) k) 4 Z Z Z Z (NR _) Z Z Z ?_)
 refine aK ?_
 refine CR (ay.aT 2 3 Z Z Z (aE.many (ds:=(dL.mk k1 ms dr).cells (some ⟨mb,0,none⟩) k) 4 Z Z) Z (L':=[aJ aG 2 (some ⟨mb,0,none⟩) ms.length k (flat ax ms)]) ?_ (by rw[hG];exact⟨_,_,Z,Z⟩))
 have hsl:ae [pt mb (flat ax ms ++ []) aG] [aJ aG 2 (some ⟨mb,0,none⟩) ms.length k (flat ax ms)]:=ae.sl (bo aF ms) yd (by rw[Zi,bo aF];omega) ae.refl
 rw[Zi] at hsl
 exact((IP 3 Z ae.nil).trans hsl).ar
end Cl
namespace Cl
open Go Vg T Api Ch
attribute [local irreducible] VO VC VA
abbrev iT:TypeId:=204
abbrev wV:TypeId:=100
def rU(fb:Nat)(o:Nat):List Value:=[.pointer (some ⟨fb,o,none⟩)]
theorem nG(fb o:Nat):(rU fb o).length=1:=rfl
abbrev Qz(n:Int):List Value:=[.int .i64 n]
theorem o_{a:Option Addr}{c:Nat}{ns:List Int}(h:aI Qz 1 Fr w a ns)(hl:ns.length≤1000):aH Tryz.prog 223 [.slice a ns.length c] Fr w [] (fun v L=>v=.bool (ns.all s_)∧L=[]):=by
 refine TF 18 Tryz.func223 Z yn ah Z Z ?_
 refine aq ?_
 refine VC.loop (σ:=Nat) (fun k=>[(5,.slice a ns.length c),(6,.int .i64 ns.length),(7,.int .i64 (k:Int))]) (fun _=>[]) (fun k=>k≤ns.length∧(ns.take k).all s_=true) (fun k=>ns.length-k) 0
  ⟨Zj _,by rw[Z0];rfl⟩ bd ER ?_
 rintro k ⟨hk,hall⟩
 refine aq ?_
 refine CP (p:=(k:Int)<ns.length) Z (fun h1=>CK ?_) (fun h1=>CX ?_)
 rotate_left
 ·rw[Z3 yd] at hall
  refine aq ?_
  exact CR (ay.tmp 2 Z Z ER ⟨by rw[hall],Z⟩)
 obtain⟨x,hx⟩:∃x,ns[k]?=some x:=⟨_,GE yd⟩
 obtain⟨xb,xo,hxa,ra,rc⟩:=aI.rd (X:=⟨Tryz.prog,tab,ah,18,Fr,w⟩) h hx
 subst hxa
 have bad:s_ x=false→ns.all s_=false:=fun hb=>by
  rw[List.all_eq_false]
  exact⟨x,ME hx,by rw[hb];decide⟩
 refine HA ?_
 refine VG (VO.load Z Z (rc _ _ 0 _ Z Z) ?_)
 refine aq ?_
 by_cases h2:x<0
 ·refine VG (VY 13 true Z (DT h2) ?_)
  refine HL ?_
  exact CR (ay.tmp 2 Z Z ER ⟨by rw[bad (DF yd)],Z⟩)
 refine VG (VY 13 false Z (DF h2) ?_)
 refine aK ?_
 refine CP (p:=1099511627776<x) Z (fun h3=>?_) (fun h3=>CK ?_)
 ·refine aq ?_
  exact CR (ay.tmp 2 Z Z ER ⟨by rw[bad (DF yd)],Z⟩)
 refine qO ?_
 refine⟨k+1,⟨by omega,?_⟩,by dsimp only;omega,SC Z (SC Z (Sub.int Z yd (SN _))),ER⟩
 rw[Zu,hx,List.all_append,hall]
 have:s_ x=true:=DT yd
 simp[this]
def YK(fb:Nat)(os:List Nat)(v:Value)(L:List HP):Prop:=∃a c,v=.slice a os.length c∧L=[aJ wV 1 a os.length c (flat (rU fb) os)]
theorem nH{fb:Nat}{f:aa}{g:kL}(h:eQ Fr w fb (f.cells g)):aH Tryz.prog 155 [.pointer (some ⟨fb,0,none⟩)] Fr w [] (YK fb (iR f.kind)):=by
 have fin:∀{X:Cx} {E:Env} {fn:Func} {b:Nat} (os:List Nat),fn.results=#[.tmp 2]→Vg.look E 2=some (.slice (some ⟨b,0,none⟩) os.length os.length)→iR f.kind=os→ay X fn (YK fb (iR f.kind)) E [pt b (flat (rU fb) os) wV]:=fun os h1 h2 h3=>
  ay.tmp 2 h1 h2 (ae.Uf (by rw[bo (nG fb)]) ae.refl).ar (by rw[h3];exact⟨_,_,rfl,rfl⟩)
 refine TF 92 Tryz.func155 Z yn ah Z Z ?_
 refine aq ?_
 refine VG (VO.load Z Z (aE.aP h Z) ?_)
 refine aq ?_
 refine CE Z (fun h1=>?_) (fun h1=>?_)
 ·refine aq ?_
  refine CD (ts 0 18 (.only 18 (.take 19 .nil))) yn yr ?_
  refine ji ?_
  refine AG (AO (a8.buildSlice (n:=6) (pv:=[(0,.pointer (some ⟨fb,1,none⟩)),(1,.pointer (some ⟨fb,2,none⟩)),(2,.pointer (some ⟨fb,3,none⟩)),(3,.pointer (some ⟨fb,4,none⟩)),(4,.pointer (some ⟨fb,5,none⟩)),(5,.pointer (some ⟨fb,6,none⟩))]) (cells:=flat (rU fb) [1,2,3,4,5,6]) rfl rfl rfl rfl yp rfl) rfl (fun v L' g=>by obtain⟨b,rfl,rfl⟩:=g;exact Dg) ?_)
  rintro _ _ ⟨b,rfl,rfl⟩
  refine ji ?_
  exact CR (fin [1,2,3,4,5,6] Z Z (by rw[h1];rfl))
 refine aq ?_
 refine CE Z (fun h2=>?_) (fun h2=>?_)
 ·refine aq ?_
  refine CD (ts 0 9 (.only 9 (.take 10 .nil))) yn yr ?_
  refine ji ?_
  refine AG (AO (a8.buildSlice (n:=3) (pv:=[(0,.pointer (some ⟨fb,2,none⟩)),(1,.pointer (some ⟨fb,3,none⟩)),(2,.pointer (some ⟨fb,4,none⟩))]) (cells:=flat (rU fb) [2,3,4]) rfl rfl rfl rfl yp rfl) rfl (fun v L' g=>by obtain⟨b,rfl,rfl⟩:=g;exact Dg) ?_)
  rintro _ _ ⟨b,rfl,rfl⟩
  refine ji ?_
  exact CR (fin [2,3,4] Z Z (by rw[h2];rfl))
 refine aq ?_
 refine CE Z (fun h3=>?_) (fun h3=>?_)
 ·refine aq ?_
  refine CD (ts 0 15 (.only 15 (.take 16 .nil))) yn yr ?_
  refine ji ?_
  refine AG (AO (a8.buildSlice (n:=5) (pv:=[(0,.pointer (some ⟨fb,1,none⟩)),(1,.pointer (some ⟨fb,2,none⟩)),(2,.pointer (some ⟨fb,3,none⟩)),(3,.pointer (some ⟨fb,4,none⟩)),(4,.pointer (some ⟨fb,15,none⟩))]) (cells:=flat (rU fb) [1,2,3,4,15]) rfl rfl rfl rfl yp rfl) rfl (fun v L' g=>by obtain⟨b,rfl,rfl⟩:=g;exact Dg) ?_)
  rintro _ _ ⟨b,rfl,rfl⟩
  refine ji ?_
  exact CR (fin [1,2,3,4,15] Z Z (by rw[h3];rfl))
 refine CS (VC.cq (σ:=Bool) (fun x=>[(0,pV fb),(6,.int .i64 f.kind),(58,.bool x)]) (fun _=>[]) (fun x=>x=(decide (f.kind=4)||decide (f.kind=12))) ?_ ?_)
 ·refine aq ?_
  refine CE Z (fun h4=>CK ?_) (fun h4=>?_)
  ·exact⟨true,by rw[DT h4];rfl,SC Z (SC Z (Sub.bl Z (by rw[h4];rfl) (SN _))),ER⟩
  ·refine aq ?_
   exact⟨decide (f.kind=12),by rw[DF h4];rfl,SC Z (SC Z (Sub.bl Z Z (SN _))),ER⟩
 rintro x hx
 refine aq ?_
 refine CC Z (fun h4=>?_) (fun h4=>?_)
 ·have hk:f.kind=4∨f.kind=12:=by rw[hx] at h4;simpa using h4
  refine aq ?_
  refine VG (VO.buildSlice (n:=1) (pv:=[(0,.pointer (some ⟨fb,1,none⟩))]) (flat (rU fb) [1]) Z Z Z Z yp Z fun b=>?_)
  refine aq ?_
  exact CR (fin [1] rfl rfl (by rcases hk with e | e<;>rw[e]<;>rfl))
 have hk:f.kind≠4∧f.kind≠12:=by rw[hx] at h4;simpa using h4
 refine aq ?_
 refine CE Z (fun h5=>?_) (fun h5=>?_)
 ·refine aq ?_
  refine CD (ts 0 12 (.only 12 (.take 13 .nil))) yn yr ?_
  refine ji ?_
  refine AG (AO (a8.buildSlice (n:=4) (pv:=[(0,.pointer (some ⟨fb,1,none⟩)),(1,.pointer (some ⟨fb,26,none⟩)),(2,.pointer (some ⟨fb,27,none⟩)),(3,.pointer (some ⟨fb,28,none⟩))]) (cells:=flat (rU fb) [1,26,27,28]) rfl rfl rfl rfl yp rfl) rfl (fun v L' g=>by obtain⟨b,rfl,rfl⟩:=g;exact Dg) ?_)
  rintro _ _ ⟨b,rfl,rfl⟩
  refine ji ?_
  exact CR (fin [1,26,27,28] Z Z (by rw[h5];rfl))
 refine CS (VC.cq (σ:=Bool) (fun x=>[(0,pV fb),(6,.int .i64 f.kind),(80,.bool x)]) (fun _=>[]) (fun x=>x=true↔(f.kind=6∨f.kind=9∨f.kind=10∨f.kind=11)) ?_ ?_)
 ·refine aq ?_
  refine CE Z (fun h6=>CK ?_) (fun h6=>?_)
  ·exact⟨true,by simp[h6],SC Z (SC Z (Sub.bl Z (by rw[h6];rfl) (SN _))),ER⟩
  refine aq ?_
  refine CE Z (fun h7=>CK ?_) (fun h7=>?_)
  ·exact⟨true,by simp[h7],SC Z (SC Z (Sub.bl Z (by rw[h7];rfl) (SN _))),ER⟩
  refine aq ?_
  refine CE Z (fun h8=>CK ?_) (fun h8=>?_)
  ·exact⟨true,by simp[h8],SC Z (SC Z (Sub.bl Z (by rw[h8];rfl) (SN _))),ER⟩
  refine aq ?_
  exact⟨decide (f.kind=11),by simp[h6,h7,h8],SC Z (SC Z (Sub.bl Z Z (SN _))),ER⟩
 rintro y hy
 refine aq ?_
 refine CC Z (fun h6=>?_) (fun h6=>CK ?_)
 ·have hk2:=hy.1 h6
  refine aq ?_
  refine U7 ?_
  refine ji ?_
  refine AG (AO (a8.buildSlice (n:=2) (pv:=[(0,.pointer (some ⟨fb,1,none⟩)),(1,.pointer (some ⟨fb,26,none⟩))]) (cells:=flat (rU fb) [1,26]) rfl rfl rfl rfl yp rfl) rfl (fun v L' g=>by obtain⟨b,rfl,rfl⟩:=g;exact Dg) ?_)
  rintro _ _ ⟨b,rfl,rfl⟩
  refine ji ?_
  exact CR (fin [1,26] rfl rfl (by rcases hk2 with e | e | e | e<;>rw[e]<;>rfl))
 have hk2:¬(f.kind=6∨f.kind=9∨f.kind=10∨f.kind=11):=fun k=>by rw[hy.2 k] at h6;cases h6
 have ho:iR f.kind=[]:=by
  unfold iR
  rw[if_neg h1,if_neg h2,if_neg h3,if_neg yd,if_neg h5,if_neg hk2]
 refine aq ?_
 exact CR (ay.tmp 2 Z Z (ae.bY ae.nil).ar (by rw[ho];exact⟨_,_,Z,Z⟩))
end Cl
namespace Cl
open Go Vg T Api Ch
attribute [local irreducible] VO VC VA
theorem vJ(f:aa)(g:kL){o:Nat}(h:qX o=true):(f.cells g)[o]?=some (.int .i64 (lY f o)):=by
 have hm:o∈[1,2,3,4,5,6,15,26,27,28]:=by unfold qX at h;exact of_decide_eq_true h
 simp only[Zt,ZO,or_false] at hm
 rcases hm with rfl | rfl | rfl | rfl | rfl | rfl | rfl | rfl | rfl | rfl<;>rfl
theorem Wn{Fr:Nat→Prop}{w:World}{b:Nat}{ns:List Int}(h:eQ Fr w b (flat Qz ns)):aI Qz 1 Fr w (some ⟨b,0,none⟩) ns:=
 aI.aP (off:=0) h fun i x hx=>by
  have:=fC (c:=Qz) (n:=1) (fun _=>rfl) hx []
  rw[Zi] at this
  rw[Zl];exact this
def NU(r:jC):List Value:=[.int .i64 r.code,.string r.value,.int .i64 r.version,.int .i64 r.at_]
def NV(e:aY):List Value:=[.int .i64 e.index,.int .i64 e.aj,.int .i64 e.seq,.int .i64 e.op.kind,.string e.op.key,.string e.op.value,.int .i64 e.op.version]
theorem oG{f:aa}{a:Option Addr}{cap:Nat}{ms:List bG}(h:aI ax 2 Fr w a ms)(hl:ms.length≤1000000):aH Tryz.prog 153 [.agg (f.cells (a,ms.length,cap)).toArray] Fr w [] (fun v L=>v=.bool (pK f ms)∧L=[]):=by
 generalize hfc:f.cells (a,ms.length,cap)=fc
 have hch:(fc.drop 23).take 3=dL.cells ⟨f.bU,ms,f.drain⟩ a cap:=by rw[←hfc];rfl
 have hop:(fc.drop 7).take 4=f.op.cells:=by rw[←hfc];rfl
 have hkd:fc[0]?=some (.int .i64 f.kind):=by rw[←hfc];rfl
 refine TF 86 Tryz.func153 Z yn ah Z Z ?_
 refine CS (CG (VG (VB (vs:=fc) Z fun b=>VG (VN ?_))))
 refine aq ?_
 refine VG (VO.ld 0 Z Z Z hkd ?_)
 refine aq ?_
 by_cases h1:f.kind<1
 ·refine VG (VY 10 true Z (DT h1) ?_)
  refine HL ?_
  exact CR (ay.tmp 2 Z Z ae.nil.ar ⟨by rw[pK,DF yd];rfl,Z⟩)
 refine VG (VY 10 false Z (DF h1) ?_)
 refine aK ?_
 refine VG (VO.ld 0 Z Z Z hkd ?_)
 refine aK ?_
 refine CP (p:=12<f.kind) Z (fun h2=>?_) (fun h2=>CK ?_)
 ·refine aq ?_
  exact CR (ay.tmp 2 Z Z ae.nil.ar ⟨by rw[pK,DF yd];rfl,Z⟩)
 have hM:pK f ms=((iR f.kind).all (fun o=>s_ (lY f o))&&zh f ms):=by rw[pK,DT yd];rfl
 refine aq ?_
 refine VG (VK (Lc:=[]) (fun Fr w hF hw hS=>nH Fr w (fb:=b) (f:=f) (g:=(a,ms.length,cap)) (by rw[hfc];exact hS.aP 0 Z)) Z Z ?_)
 rintro _ _ ⟨na,nc,rfl,rfl⟩
 refine aq ?_
 generalize hos:iR f.kind=os at hM
 have hof:∀o∈os,qX o=true:=fun o ho=>zg f.kind o (by rw[hos];exact ho)
 have hol:os.length≤6:=by rw[←hos];exact uw _
 refine VC.e7 0 Z (aV.rl wV na nc os (nG b)) ?_
 rintro⟨ra,rc,rb,rcs,rxs⟩ ⟨rok,rv,rx⟩
 dsimp only at rx
 subst rx
 injection rv with e1 _ e3
 subst e1 e3
 refine VC.loop (σ:=Nat) (fun k=>[(1,pV b),(15,.slice ra rxs.length rc),(16,.int .i64 rxs.length),(17,.int .i64 (k:Int))]) (fun _=>[RL.h wV ⟨ra,rc,rb,rcs,rxs⟩,pt b fc iT]) (fun k=>k≤rxs.length∧(rxs.take k).all (fun o=>s_ (lY f o))=true) (fun k=>rxs.length-k) 0
  ⟨Zj _,by rw[Z0];rfl⟩ bd ER ?_
 rintro k ⟨hk,hall⟩
 refine aq ?_
 refine CP (p:=(k:Int)<rxs.length) Z (fun h3=>CK ?_) (fun h3=>CX ?_)
 ·obtain⟨o,ho⟩:∃o,rxs[k]?=some o:=⟨_,GE yd⟩
  have hoo:=hof o (ME ho)
  have hcell:fc[o]?=some (.int .i64 (lY f o)):=by rw[←hfc];exact vJ f _ hoo
  obtain⟨tb,tof,htb,hta,hrd⟩:=RL.Ok.ld (t:=wV) (k:=k) (x:=o) rok ho (nG b o)
  dsimp only at hta
  subst hta
  refine HA ?_
  refine VG (VO.load Z Z ((hrd 0 Z).2 _ 0 _ Z Z) ?_)
  refine aq ?_
  refine VG (VO.ld 1 Z Z Z hcell ?_)
  refine VG (VO.buildSlice (n:=1) (pv:=[(0,.int .i64 (lY f o))]) (flat Qz [lY f o]) Z Z Z Z yp Z fun sb=>?_)
  refine VG (VV (fun Fr w hF hw hS=>o_ Fr w (ns:=[lY f o]) (Wn (hS.aP 0 Z)) (Zo Z)) Z ?_)
  refine aq ?_
  have e:[lY f o].all s_=s_ (lY f o):=by simp
  refine VC.dT Z (fun h4=>?_) (fun h4=>CK ?_)
  ·rw[e] at h4
   refine aq ?_
   exact CR (ay.tmp 2 Z Z ae.nil.ar ⟨by rw[hM,List.all_eq_false.2 ⟨o,ME ho,by rw[h4];decide⟩];rfl,Z⟩)
  rw[e] at h4
  refine qO ?_
  refine⟨k+1,⟨by omega,?_⟩,by dsimp only;omega,SC Z (SC Z (SC Z (Sub.int Z yd (SN _)))),(dG [1,1]).ar⟩
  rw[Zu,ho,List.all_append,hall]
  simp[h4]
 rw[Z3 yd] at hall
 rw[hall,Bool.true_and] at hM
 clear rok hall hk h3 hol hof hos
 rw[hM]
 unfold zh
 refine aq ?_
 refine VG (VO.ld 1 Z Z Z hkd ?_)
 refine aq ?_
 refine CE Z (fun k1=>?_) (fun k1=>?_)
 ·rw[if_pos k1]
  refine aq ?_
  refine VG (VL 1 f.op.cells Z Z Z hop ?_)
  refine VG (VV (fun Fr w hF hw hS=>Api.bm Fr w f.op) Z ?_)
  refine aq ?_
  exact Kf
 rw[if_neg k1]
 refine aq ?_
 refine CE Z (fun k2=>?_) (fun k2=>?_)
 ·rw[if_pos k2]
  refine aq ?_
  refine VG (VL 1 (NU f.res) Z Z Z Th ?_)
  refine VG (VO.alloc Z fun rb2=>?_)
  refine Yi ?_
  refine an ?_
  by_cases g1:1≤f.res.code
  rotate_left
  ·refine VG (VY 43 false Z (DF g1) ?_)
   refine aK ?_
   refine VG (VY 48 false Z Z ?_)
   refine aK ?_
   refine UJ ?_
   refine aK ?_
   exact CR (ay.tmp 2 Z Z ae.nil.ar ⟨by rw[DF g1];rfl,Z⟩)
  refine VG (VY 43 true Z (DT g1) ?_)
  refine eP ?_
  by_cases g2:f.res.code≤3
  rotate_left
  ·refine VG (VY 48 false Z (DF g2) ?_)
   refine aK ?_
   refine UJ ?_
   refine aK ?_
   exact CR (ay.tmp 2 Z Z ae.nil.ar ⟨by rw[DF g2,ZU];rfl,Z⟩)
  refine VG (VY 48 true Z (DT g2) ?_)
  refine eP ?_
  by_cases g3:f.res.value.size≤64
  rotate_left
  ·refine VG (VY 54 false Z (DF yd) ?_)
   refine aK ?_
   exact CR (ay.tmp 2 Z Z ae.nil.ar ⟨by rw[DF g3,ZU];rfl,Z⟩)
  refine VG (VY 54 true Z (DT yd) ?_)
  refine eP ?_
  refine VG (VO.buildSlice (n:=2) (pv:=[(0,.int .i64 f.res.version),(1,.int .i64 f.res.at_)]) (flat Qz [f.res.version,f.res.at_]) Z Z Z Z yp Z fun sb=>?_)
  refine VG (VV (fun Fr w hF hw hS=>o_ Fr w (ns:=[f.res.version,f.res.at_]) (Wn (hS.aP 0 Z)) (Zo Z)) Z ?_)
  refine aK ?_
  exact CR (ay.tmp 2 Z Z ae.nil.ar ⟨by rw[DT g1,DT g2,DT g3];simp,Z⟩)
 rw[if_neg k2]
 refine aq ?_
 refine CE Z (fun k4=>?_) (fun k4=>?_)
 ·rw[if_pos k4]
  refine aq ?_
  refine VG (VL 1 (NV f.entry) Z Z Z Th ?_)
  refine VG (VO.alloc Z fun eb=>?_)
  refine Yj ?_
  refine an ?_
  refine VG (VO.buildSlice (n:=3) (pv:=[(0,.int .i64 f.entry.index),(1,.int .i64 f.entry.aj),(2,.int .i64 f.entry.seq)]) (flat Qz [f.entry.index,f.entry.aj,f.entry.seq]) Z Z Z Z yp Z fun sb=>?_)
  refine VG (VV (fun Fr w hF hw hS=>o_ Fr w (ns:=[f.entry.index,f.entry.aj,f.entry.seq]) (Wn (hS.aP 0 Z)) (Zo Z)) Z ?_)
  have e3:[f.entry.index,f.entry.aj,f.entry.seq].all s_=(s_ f.entry.index&&(s_ f.entry.aj&&s_ f.entry.seq)):=by simp
  rw[e3]
  generalize (s_ f.entry.index&&(s_ f.entry.aj&&s_ f.entry.seq))=x
  refine aK ?_
  cases x with
  | false=>
   refine VG (VY 74 false Z Z ?_)
   refine aK ?_
   exact Kf
  | true=>
  refine VG (VY 74 true Z Z ?_)
  refine aK ?_
  refine VG (VL 1 f.entry.op.cells Z Z Z Z ?_)
  refine VG (VV (fun Fr w hF hw hS=>Api.bm Fr w f.entry.op) Z ?_)
  refine aK ?_
  exact Kf
 rw[if_neg k4]
 refine aq ?_
 refine CE Z (fun k8=>?_) (fun k8=>CK ?_)
 ·rw[if_pos k8]
  refine aq ?_
  refine VG (VL 1 (dL.cells ⟨f.bU,ms,f.drain⟩ a cap) Z Z Z hch ?_)
  refine VG (VV (fun Fr w hF hw hS=>Ch.bm Fr w (c:=⟨f.bU,ms,f.drain⟩) (h.of hF hw) Um) Z ?_)
  refine aq ?_
  exact Kf
 rw[if_neg k8]
 refine aq ?_
 exact Kf
end Cl
namespace Cl
open Go Vg T Api Ch
attribute [local irreducible] VO VC VA
theorem ue{f:aa}{ms:List bG}(h:pK f ms=true):zh f ms=true:=by
 unfold pK at h
 simp only[Zx] at h
 exact h.2.2
theorem OV{f:aa}{ms:List bG}(h:pK f ms=true)(k:f.kind=1):aZ f.op=0:=by
 have:=ue h
 rw[zh,if_pos k] at this
 exact of_decide_eq_true this
theorem OW{f:aa}{ms:List bG}(h:pK f ms=true)(k:f.kind=2):f.res.value.size≤64:=by
 have:=ue h
 rw[zh,if_neg yd,if_pos k] at this
 simp only[Zx,decide_eq_true_eq] at this
 omega
theorem OX{f:aa}{ms:List bG}(h:pK f ms=true)(k:f.kind=4):aZ f.entry.op=0∧s_ f.entry.index=true∧s_ f.entry.aj=true∧s_ f.entry.seq=true:=by
 have:=ue h
 rw[zh,if_neg yd,if_neg yd,if_pos k] at this
 simp only[Zx,decide_eq_true_eq] at this
 exact⟨this.2,this.1.1,this.1.2.1,this.1.2.2⟩
theorem OY{f:aa}{ms:List bG}(h:pK f ms=true)(k:f.kind=8):se ⟨f.bU,ms,f.drain⟩=0:=by
 have:=ue h
 rw[zh,if_neg yd,if_neg yd,if_neg yd,if_pos k] at this
 exact of_decide_eq_true this
theorem NW{f:aa}{ms:List bG}(h:pK f ms=true):(Dw f ms).length≤200:=by
 unfold Dw
 split
 ·rename_i k
  have:=Am (OV h k);omega
 split
 ·rename_i k
  have:=OW h k
  have a:=bI f.res.code
  have b:=kh (sB f.res.value)
  have c:=bI f.res.version
  have d:=bI f.res.at_
  rw[uu] at b
  simp only[Zh];omega
 split
 ·rename_i k
  have:=Am (OX h k).1
  have a:=bI f.entry.index
  have b:=bI f.entry.aj
  have c:=bI f.entry.seq
  simp only[Zh];omega
 split
 ·rename_i k
  have:=NK (OY h k);omega
 ·exact Zj _
theorem Cz{f:aa}{a:Option Addr}{cap:Nat}{ms:List bG}(h:aI ax 2 Fr w a ms)(hl:ms.length≤1000000)(hm:pK f ms=true):aH Tryz.prog 156 [.agg (f.cells (a,ms.length,cap)).toArray] Fr w [] (fun v L=>v=.string (bT (Dw f ms))∧L=[]):=by
 generalize hfc:f.cells (a,ms.length,cap)=fc
 have hch:(fc.drop 23).take 3=dL.cells ⟨f.bU,ms,f.drain⟩ a cap:=by rw[←hfc];rfl
 have hop:(fc.drop 7).take 4=f.op.cells:=by rw[←hfc];rfl
 have hkd:fc[0]?=some (.int .i64 f.kind):=by rw[←hfc];rfl
 refine TF 66 Tryz.func156 Z yn ah Z Z ?_
 refine CS (CG (VG (VB (vs:=fc) Z fun b=>VG (VN ?_))))
 refine CS (CS (CG (VG (VO.ld 0 Z Z Z hkd (VG (VN ?_))))))
 refine VC.cq (σ:=Unit) (fun _=>[(2,.string (bT (Dw f ms)))]) (fun _=>[]) (fun _=>True) ?_ ?_
 rotate_left
 ·rintro⟨⟩ _
  refine aq ?_
  exact Kf
 unfold Dw
 refine aq ?_
 refine CE Z (fun k1=>?_) (fun k1=>?_)
 ·have ho:=OV hm k1
  rw[if_pos k1]
  refine aq ?_
  refine VG (VL 0 f.op.cells Z Z Z hop ?_)
  refine VG (VV (fun Fr w hF hw hS=>xU Fr w f.op) Z ?_)
  rw[if_pos ho]
  refine aq ?_
  exact RF
 rw[if_neg k1]
 refine aq ?_
 refine CE Z (fun k2=>?_) (fun k2=>?_)
 ·have hv:=OW hm k2
  have l1:=bI f.res.code
  have l2:=kh (sB f.res.value)
  have l3:=bI f.res.version
  have l4:=bI f.res.at_
  rw[uu] at l2
  rw[if_pos k2]
  refine aq ?_
  refine VG (VL 0 (NU f.res) Z Z Z Th ?_)
  refine VG (VO.alloc Z fun rb=>?_)
  refine Yi ?_
  refine aq ?_
  refine CD (ts 0 2 (ts 3 2 (ts 7 2 (ts 11 2 (.only 2 (.only 5 (.take 6 (.only 9 (.take 10 (.only 13 (ts 14 2 .nil))))))))))) yn yr ?_
  refine eT ?_
  refine AG (AR (fun Fr w hF hs hS=>eO Fr w f.res.code) Z Z yu ?_)
  refine AG (AR (fun Fr w hF hs hS=>ke Fr w f.res.value yd) Z Z yu ?_)
  refine RB ?_
  refine AG (AR (fun Fr w hF hs hS=>eO Fr w f.res.version) Z Z yu ?_)
  refine AG (AI Z (cm Z Z WO) ?_)
  refine AG (AR (fun Fr w hF hs hS=>eO Fr w f.res.at_) Z Z yu ?_)
  refine AG (AI Z (cm Z Z WK) ?_)
  rw[←gM,←gM,←gM]
  refine eT ?_
  exact RF
 rw[if_neg k2]
 refine aq ?_
 refine CE Z (fun k4=>?_) (fun k4=>?_)
 ·have ho:=(OX hm k4).1
  have l1:=bI f.entry.index
  have l2:=bI f.entry.aj
  have l3:=bI f.entry.seq
  have l4:=Am ho
  rw[if_pos k4]
  refine aq ?_
  refine VG (VL 0 (NV f.entry) Z Z Z Th ?_)
  refine VG (VO.alloc Z fun eb=>?_)
  refine Yj ?_
  refine aq ?_
  refine VG (VL 0 f.entry.op.cells Z Z Z Z ?_)
  refine VG (VV (fun Fr w hF hw hS=>xU Fr w f.entry.op) Z ?_)
  rw[if_pos ho]
  refine aq ?_
  refine CD (ts 0 2 (ts 3 2 (ts 7 2 (.take 11 (.only 2 (.only 5 (.take 6 (.only 9 (.take 10 (ts 12 2 .nil)))))))))) yn yr ?_
  refine eT ?_
  refine AG (AR (fun Fr w hF hs hS=>eO Fr w f.entry.index) Z Z yu ?_)
  refine AG (AR (fun Fr w hF hs hS=>eO Fr w f.entry.aj) Z Z yu ?_)
  refine RB ?_
  refine AG (AR (fun Fr w hF hs hS=>eO Fr w f.entry.seq) Z Z yu ?_)
  refine AG (AI Z (cm Z Z WO) ?_)
  refine AG (AI Z (cm Z Z WK) ?_)
  rw[←gM,←gM,←gM]
  refine eT ?_
  exact RF
 rw[if_neg k4]
 refine aq ?_
 refine CE Z (fun k8=>?_) (fun k8=>CK ?_)
 ·have hc:=OY hm k8
  rw[if_pos k8]
  refine aq ?_
  refine VG (VL 0 (dL.cells ⟨f.bU,ms,f.drain⟩ a cap) Z Z Z hch ?_)
  refine VG (VV (fun Fr w hF hw hS=>GW Fr w (c:=⟨f.bU,ms,f.drain⟩) (h.of hF hw) hl) Z ?_)
  rw[if_pos hc]
  refine aq ?_
  exact RF
 rw[if_neg k8]
 exact RF
end Cl
namespace Cl
open Go Vg T Api Ch
attribute [local irreducible] VO VC VA
def YL(o:Option Bs)(v:Value):Prop:=match o with
 | some t=>v=.tuple #[.string (bT t),.int .i64 0]
 | none=>∃e,e≠0∧v=.tuple #[.string (bT []),.int .i64 e]
theorem qK(f:aa):∀os:List Nat,(os.flatMap (fun o=>fO (lY f o))).length≤9*os.length
 | []=>NR _
 | o::os=>by
  have:=bI (lY f o)
  have:=qK f os
  rw[List.flatMap_cons,Zh,Zs];omega
theorem G8{f:aa}{a:Option Addr}{cap:Nat}{ms:List bG}(h:aI ax 2 Fr w a ms)(hl:ms.length≤1000000):aH Tryz.prog 92 [.agg (f.cells (a,ms.length,cap)).toArray] Fr w [] (fun v L=>YL (Ba f ms) v∧L=[]):=by
 refine TF 34 Tryz.func92 Z yn ah Z Z ?_
 refine CS (CG (VG (VB (vs:=f.cells (a,ms.length,cap)) Z fun b=>VG (VN ?_))))
 refine aq ?_
 refine VG (VL 0 (f.cells (a,ms.length,cap)) Z Z Z Z ?_)
 refine VG (VV (fun Fr w hF hw hS=>oG Fr w (h.of hF hw) hl) Z ?_)
 refine aq ?_
 refine VC.dT Z (fun hm=>?_) (fun hm=>CK ?_)
 ·refine aq ?_
  exact CR (ay.cU 2 3 Z Z Z ae.nil.ar ⟨by rw[Ba,if_neg (by rw[hm];decide)];exact⟨2,by decide,Z⟩,Z⟩)
 have hP:Ba f ms=if 512<(F9 f ms).length then none else some (F9 f ms):=by rw[Ba,if_pos hm]
 have lb:=NW hm
 have lk:=bI f.kind
 refine an ?_
 refine VG (VV (fun Fr w hF hw hS=>eO Fr w f.kind) Z ?_)
 refine aq ?_
 refine VG (VK (Lc:=[]) (fun Fr w hF hw hS=>nH Fr w (fb:=b) (f:=f) (g:=(a,ms.length,cap)) (hS.aP 0 Z)) Z Z ?_)
 rintro _ _ ⟨na,nc,rfl,rfl⟩
 refine aq ?_
 have hpb:F9 f ms=(fO f.kind++(iR f.kind).flatMap (fun o=>fO (lY f o)))++Dw f ms:=rfl
 generalize hos:iR f.kind=os at hpb
 have hof:∀o∈os,qX o=true:=fun o ho=>zg f.kind o (by rw[hos];exact ho)
 have hol:os.length≤6:=by rw[←hos];exact uw _
 refine VC.e7 0 Z (aV.rl wV na nc os (nG b)) ?_
 rintro⟨ra,rc,rb,rcs,rxs⟩ ⟨rok,rv,rx⟩
 dsimp only at rx
 subst rx
 injection rv with e1 _ e3
 subst e1 e3
 refine VC.loop (σ:=Nat) (fun k=>[(1,pV b),(13,.slice ra rxs.length rc),(14,.int .i64 rxs.length),(15,.int .i64 (k:Int)),(4,.string (bT (fO f.kind++(rxs.take k).flatMap (fun o=>fO (lY f o)))))]) (fun _=>[RL.h wV ⟨ra,rc,rb,rcs,rxs⟩,pt b (f.cells (a,ms.length,cap)) iT]) (fun k=>k≤rxs.length) (fun k=>rxs.length-k) 0
  (Zj _) (SC rfl (SC rfl (SC rfl (SC rfl (SC WQ (SN _)))))) ER ?_
 rintro k hk
 refine aq ?_
 refine CP (p:=(k:Int)<rxs.length) Z (fun h3=>CK ?_) (fun h3=>CX ?_)
 ·obtain⟨o,ho⟩:∃o,rxs[k]?=some o:=⟨_,GE yd⟩
  have hoo:=hof o (ME ho)
  have lo:=bI (lY f o)
  have lt:=qK f (rxs.take k)
  rw[Zw] at lt
  have e:(rxs.take (k+1)).flatMap (fun o=>fO (lY f o))=(rxs.take k).flatMap (fun o=>fO (lY f o))++fO (lY f o):=by rw[Zu,ho,List.flatMap_append];simp
  obtain⟨tb,tof,htb,hta,hrd⟩:=RL.Ok.ld (t:=wV) (k:=k) (x:=o) rok ho (nG b o)
  dsimp only at hta
  subst hta
  refine HA ?_
  refine VG (VO.load Z Z ((hrd 0 Z).2 _ 0 _ Z Z) ?_)
  refine aq ?_
  refine VG (VO.ld 1 Z Z Z (vJ f _ hoo) ?_)
  refine VG (VV (fun Fr w hF hw hS=>eO Fr w (lY f o)) Z ?_)
  refine TP ?_
  rw[←gM]
  refine qO ?_
  exact⟨k+1,by omega,by dsimp only;omega,SC Z (SC Z (SC Z (Sub.int Z yd (SC WV (SN _))))),ER⟩
 obtain rfl:k=rxs.length:=by omega
 have lt:=qK f rxs
 rw[ZF]
 refine aq ?_
 refine VG (VL 1 (f.cells (a,ms.length,cap)) Z Z Z Z ?_)
 refine VG (VV (fun Fr w hF hw hS=>Cz Fr w (h.of hF hw) hl hm) Z ?_)
 refine TP ?_
 rw[←gM,←hpb]
 refine aq ?_
 refine CP (p:=(512:Int)<(bT (F9 f ms)).size) Z (fun h4=>?_) (fun h4=>CK ?_)
 ·rw[di] at h4
  refine aq ?_
  exact CR (ay.cU 2 3 Z Z Z ae.nil.ar ⟨by rw[hP,if_pos yd];exact⟨3,by decide,Z⟩,Z⟩)
 rw[di] at h4
 refine aq ?_
 exact CR (ay.cU 2 3 Z Z Z ae.nil.ar ⟨by rw[hP,if_neg yd];exact Z,Z⟩)
def jJ:List Value→List Nat→List Int→List Value
 | cs,o::os,k::ks=>jJ (cs.set o (.int .i64 k)) os ks
 | cs,_,_=>cs
theorem tG{o:Nat}{x:Int}:∀{os:List Nat} {ks:List Int} {cs:List Value},os.length=ks.length→jJ cs (os ++ [o]) (ks ++ [x])=(jJ cs os ks).set o (.int .i64 x)
 | [],[],cs,_=>rfl
 | a::os,b::ks,cs,h=>tG (os:=os) (ks:=ks) yc
 | [],_::_,_,h=>by simp at h
 | _::_,[],_,h=>by simp at h
def pA(v:Option Value):Prop:=∃n,v=some (.int .i64 n)
theorem vK{o:Nat}:∀{os:List Nat} {ks:List Int} {cs:List Value},pA cs[o]?→pA (jJ cs os ks)[o]?
 | a::os,b::ks,cs,h=>vK (os:=os) (ks:=ks) (by
   by_cases e:a=o
   ·subst e
    obtain⟨n,hn⟩:=h
    exact⟨b,by rw[ZG (Zk.1 hn).1]⟩
   ·rw[ZN e];exact h)
 | [],_,_,h=>h
 | _::_,[],_,h=>h
theorem Js{cs:List Value}{o:Nat}{v:Value}(h:cs[o]?=some v):cs.set o v=cs:=by
 refine Z8 fun j=>?_
 by_cases e:o=j
 ·subst e;rw[ZG (Zk.1 h).1,h]
 ·rw[ZN e]
structure NI(os:List Nat)(s:Bs)(k:Nat)(x:List Int×Bs×Bool):Prop where
 le:k≤os.length
 ks:x.1.length=k
 len:x.2.1.length≤s.length
 t:x.2.2=true→fQ k s=some (x.1,x.2.1)
 f:x.2.2=false→fQ os.length s=none
def Zc(fb:Nat)(T:TypeId)(cs:List Value)(os:List Nat)(s:Bs)(v:Value)(L:List HP):Prop:=
 ∃x:List Int×Bs×Bool,NI os s os.length x∧v=.tuple #[.string (bT x.2.1),.bool x.2.2]∧L=[pt fb (jJ cs os x.1) T]
theorem mI{s:Bs}(hs:s.length≤1000000){fb:Nat}{T:TypeId}{cs:List Value}{os:List Nat}(hol:os.length≤1000)(ho:∀o∈os,pA cs[o]?){a:Option Addr}{c:Nat}(h:aI (rU fb) 1 Fr w a os):
  aH Tryz.prog 183 [.string (bT s),.slice a os.length c] Fr w [pt fb cs T] (Zc fb T cs os s):=by
 refine TF 27 Tryz.func183 Z yn ah Z Z ?_
 refine aq ?_
 refine VC.loop (σ:=Nat×List Int×Bs×Bool) (fun x=>[(9,.slice a os.length c),(10,.int .i64 os.length),(11,.int .i64 (x.1:Int)),(4,.string (bT x.2.2.1)),(5,.bool x.2.2.2)]) (fun x=>[pt fb (jJ cs (os.take x.1) x.2.1) T]) (fun x=>NI os s x.1 x.2) (fun x=>os.length-x.1) (0,[],s,true)
  ⟨Zj _,rfl,NR _,fun _=>rfl,fun h=>(Z5 h.symm).elim⟩ bd (by rw[Z0];exact ER) ?_
 rintro⟨k,ks,r,ok⟩ hI
 have hk:=hI.le
 have hkl:=hI.ks
 have hrl:=hI.len
 dsimp only at hk hkl hrl ⊢
 refine aq ?_
 refine CP (p:=(k:Int)<os.length) Z (fun h3=>CK ?_) (fun h3=>CX ?_)
 rotate_left
 ·obtain rfl:k=os.length:=by omega
  rw[ZF]
  refine aq ?_
  exact CR (ay.cU 4 5 Z Z Z ER ⟨(ks,r,ok),hI,Z,Z⟩)
 obtain⟨o,hoo⟩:∃o,os[k]?=some o:=⟨_,GE yd⟩
 obtain⟨xb,xo,hxa,ra,rc⟩:=aI.rd (X:=⟨Tryz.prog,tab,ah,27,Fr,w⟩) h hoo
 subst hxa
 obtain⟨n0,hn0⟩:=vK (os:=os.take k) (ks:=ks) (ho o (ME hoo))
 have hlt:=(Zk.1 hn0).1
 have htk:os.take (k+1)=os.take k ++ [o]:=by rw[Zu,hoo];rfl
 have hsn:∀x:Int,jJ cs (os.take (k+1)) (ks ++ [x])=(jJ cs (os.take k) ks).set o (.int .i64 x):=fun x=>by rw[htk,tG Ta]
 refine CS (VC.cq (σ:=List Int×Bs×Bool) (fun x=>[(9,.slice (some ⟨xb,xo,none⟩) os.length c),(10,.int .i64 os.length),(11,.int .i64 (k:Int)),(4,.string (bT x.2.1)),(5,.bool x.2.2)]) (fun x=>[pt fb (jJ cs (os.take (k+1)) x.1) T]) (fun x=>NI os s (k+1) x) ?_ ?_)
 ·refine HA ?_
  refine VG (VO.load Z Z (rc _ _ 0 _ Z Z) ?_)
  refine aq ?_
  refine CC Z (fun h=>?_) (fun h=>CK ?_)
  ·subst h
   have ht:=hI.t rfl
   dsimp only at ht
   obtain⟨x,q,ok,hv,hql,hk1,hk2⟩:=An r
   refine aq ?_
   refine VG (VV (fun Fr w hF hw _=>hv▸nB Fr w r yd) Z ?_)
   refine aq ?_
   refine VG (VO.st 0 (cs':=(jJ cs (os.take k) ks).set o (.int .i64 x)) Z Z Z Z hlt Z Z ?_)
   refine aq ?_
   refine⟨(ks ++ [x],q,ok),⟨by omega,by simp[hkl],by dsimp only;omega,fun h=>?_,fun h=>?_⟩,bd,by dsimp only;rw[hsn];exact ER⟩
   ·rw[fp,ht];simp[hk1 h]
   ·have:fQ (k+1) s=none:=by rw[fp,ht];simp[hk2 h]
    have:=qJ this (os.length-(k+1))
    rwa[show k+1+(os.length-(k+1))=os.length from by omega] at this
  ·subst h
   exact⟨(ks ++ [n0],r,false),⟨by omega,by simp[hkl],hrl,fun h=>(Z5 h).elim,fun _=>hI.f Z⟩,bd,by dsimp only;rw[hsn,Js hn0];exact ER⟩
 rintro⟨ks2,r2,ok2⟩ hI2
 refine qO ?_
 exact⟨(k+1,ks2,r2,ok2),hI2,by dsimp only;omega,SC Z (SC Z (Sub.int Z tL bd)),ER⟩
end Cl
namespace Cl
open Go Vg T Api Ch
attribute [local irreducible] VO VC VA
def NX(fb:Nat)(f:aa)(ms:List bG)(L:List HP):Prop:=∃a cap,L=[pt fb (f.cells (a,ms.length,cap)) iT,aJ aG 2 a ms.length cap (flat ax ms)]
def Zd(fb:Nat)(o:Option (aa×List bG))(v:Value)(L:List HP):Prop:=match o with
 | some x=>v=.bool true∧NX fb x.1 x.2 L
 | none=>v=.bool false∧L=[]
abbrev IQ:=Int×Bs×Bool×List HP
structure AV(fb:Nat)(o:Option (aa×List bG))(x:IQ):Prop where
 yes:x.2.2.1=true→x.1=0→x.2.1=[]→∃y,o=some y∧NX fb y.1 y.2 x.2.2.2
 no:¬(x.2.2.1=true∧x.1=0∧x.2.1=[])→o=none
theorem AV.ok{fb:Nat}{o:Option (aa×List bG)}{f:aa}{ms:List bG}{L:List HP}(h:o=some (f,ms))(hL:NX fb f ms L):AV fb o (0,[],true,L):=⟨fun _ _ _=>⟨_,h,hL⟩,fun k=>absurd ⟨rfl,rfl,rfl⟩ k⟩
theorem AV.bad{fb:Nat}{o:Option (aa×List bG)}{e:Int}{r:Bs}{ok:Bool}{L:List HP}(h:o=none)(hb:¬(ok=true∧e=0∧r=[])):AV fb o (e,r,ok,L):=⟨fun h1 h2 h3=>absurd ⟨h1,h2,h3⟩ hb,fun _=>h⟩
def cS:kL:=(none,0,0)
theorem Fy{fb:Nat}{f:aa}:NX fb f [] [pt fb (f.cells cS) iT,aJ aG 2 none 0 0 (flat ax [])]:=⟨none,0,rfl⟩
theorem NY{X:Cx}{fb:Nat}{f:aa}{L:List HP}(h:ae L [pt fb (f.cells cS) iT]):jj X L [pt fb (f.cells cS) iT,aJ aG 2 none 0 0 (flat ax [])]:=
 ((h.trans (ae.bY ae.refl)).trans (IP 1 rfl ae.refl)).ar
theorem Wo{cs:List Value}:∀o∈([]:List Nat),pA cs[o]?:=fun o ho=>by cases ho
theorem NZ{cs:List Value}{a:Nat}{l:List Nat}(h:pA cs[a]?)(hl:∀o∈l,pA cs[o]?):∀o∈a::l,pA cs[o]?:=fun o ho=>by
 rcases Zt.1 ho with rfl | ho
 ·exact h
 ·exact hl o ho
theorem N0{cs:List Value}{a:Nat}(h:pA cs[a]?):∀o∈[a],pA cs[o]?:=NZ h Wo
theorem Fz{s:Bs}:fQ 1 s=(aW s).map fun x=>([x.1],x.2):=by
 rw[fQ]
 cases aW s with
 | none=>rfl
 | some x=>rfl
theorem Ug{Fr:Nat→Prop}{w:World}{b fb:Nat}{os:List Nat}(h:eQ Fr w b (flat (rU fb) os)):aI (rU fb) 1 Fr w (some ⟨b,0,none⟩) os:=
 aI.aP (off:=0) h fun i x hx=>by
  have:=fC (nG fb) hx []
  rw[Zi] at this
  rw[Zl];exact this
theorem Ex{s:Bs}(hs:s.length≤1000000){fb:Nat}{f:aa}:aH Tryz.prog 184 [.pointer (some ⟨fb,0,none⟩),.string (bT s)] Fr w [pt fb (f.cells cS) iT] (Zd fb (qY f s)):=by
 refine TF 110 Tryz.func184 Z yn ah Z Z ?_
 refine Dc ?_
 refine Dc ?_
 refine Dc ?_
 refine CS (CS (CG (VG (VO.ld 0 Z Z Z Z (VG (VN ?_))))))
 refine VC.cq (σ:=IQ) (fun x=>[(5,.int .i64 x.1),(6,.string (bT x.2.1)),(7,.bool x.2.2.1)]) (fun x=>x.2.2.2) (AV fb (qY f s)) ?_ ?_
 rotate_left
 ·rintro⟨e,r,ok,L⟩ hE
  refine aq ?_
  cases ok with
  | false=>
   refine VG (VY 102 false Z Z ?_)
   refine aK ?_
   refine VG (VY 106 false Z Z ?_)
   refine aK ?_
   exact CR (ay.tmp 4 Z Z ae.nil.ar (by rw[hE.no (fun h=>Z5 h.1)];exact⟨rfl,Z⟩))
  | true=>
  refine VG (VY 102 true Z Z ?_)
  refine aK ?_
  by_cases he:e=0
  rotate_left
  ·refine VG (VY 106 false Z (beq_eq_false_iff_ne.2 he) ?_)
   refine aK ?_
   exact CR (ay.tmp 4 Z Z ae.nil.ar (by rw[hE.no (fun h=>he h.2.1)];exact⟨rfl,Z⟩))
  refine VG (VY 106 true Z (beq_iff_eq.2 he) ?_)
  refine aK ?_
  by_cases hr:r=[]
  rotate_left
  ·exact CR (ay.bool (b:=false) 4 Z Z (by rw[show(ByteArray.mk #[])=bT [] from Z,p7];exact DF hr) ae.nil.ar (by rw[hE.no (fun h=>hr h.2.2)];exact⟨rfl,Z⟩))
  obtain⟨y,hy,hL⟩:=hE.yes rfl he hr
  exact CR (ay.bool (b:=true) 4 Z Z (by rw[show(ByteArray.mk #[])=bT [] from Z,p7];exact DT hr) ER (by rw[hy];exact⟨rfl,hL⟩))
 have nf:∀{e:Int} {r:Bs},¬(false=true∧e=0∧r=[]):=fun h=>Z5 h.1
 have n10:∀{r:Bs},¬(true=true∧(10:Int)=0∧r=[]):=fun h=>absurd h.2.1 yp
 unfold qY
 refine aq ?_
 refine CE Z (fun k1=>?_) (fun k1=>?_)
 ·rw[if_pos k1]
  refine aq ?_
  cases hg:Bb s with
  | none=>
   refine VG (VV (u:=SB none) (fun Fr w hF hw _=>hg▸pC Fr w s hs) Z ?_)
   refine aK ?_
   refine VG (VT (vs:=e8.cells ⟨0,bT [],bT [],0⟩) (cs':=({ f with op:=⟨0,bT [],bT [],0⟩ }:aa).cells cS) 0 Z Z Z Z (by show 7+4≤29;omega) Z Z Z ?_)
   refine aK ?_
   exact Vl
  | some o=>
   refine VG (VV (u:=SB (some o)) (fun Fr w hF hw _=>hg▸pC Fr w s hs) Z ?_)
   refine aK ?_
   refine VG (VT (vs:=o.cells) (cs':=({ f with op:=o }:aa).cells cS) 0 Z Z Z Z (by show 7+4≤29;omega) Z Z Z ?_)
   refine aK ?_
   exact⟨(0,[],true,_),AV.ok Z Fy,bd,NY ae.refl⟩
 rw[if_neg k1]
 refine aq ?_
 refine CE Z (fun k2=>?_) (fun k2=>?_)
 ·rw[if_pos k2]
  refine aq ?_
  refine VG (VO.buildSlice (n:=1) (pv:=[(0,.pointer (some ⟨fb,11,none⟩))]) (flat (rU fb) [11]) Z Z Z Z yp Z fun sb=>?_)
  refine VO.ar (L':=[pt fb (f.cells cS) iT] ++ [pt sb (flat (rU fb) [11]) wV]) (dG [1,0]).ar ?_
  refine VG (VK (Lc:=[pt fb (f.cells cS) iT]) (fun Fr w hF hw hS=>mI Fr w (os:=[11]) hs yp (N0 ⟨_,Z⟩) (Ug (hS.aP 0 Z))) Z Z ?_)
  rintro _ _ ⟨⟨ks,r,ok⟩,hI,rfl,rfl⟩
  have hl:=hI.len
  have h1:=hI.ks
  have ht:=hI.t
  have hf:=hI.f
  dsimp only at hl h1 ht hf
  obtain⟨code,rfl⟩:∃x,ks=[x]:=by
   match ks,h1 with
   | [x],_=>exact⟨x,rfl⟩
  show VO _ _ _ _ _ [pt fb (({ f with res:={ f.res with code:=code } }:aa).cells cS) iT,pt sb (flat (rU fb) [11]) wV] _
  rw[show([11]:List Nat).length=1 from rfl,Fz] at ht hf
  refine aK ?_
  cases ok with
  | false=>
   have hu:aW s=none:=by simpa using hf rfl
   refine FU ?_
   refine r_ ?_
   exact⟨(0,r,false,[]),AV.bad (by rw[hu]) nf,bd,ae.nil.ar⟩
  | true=>
  have hu:aW s=some (code,r):=by
   have:=ht rfl
   cases hx:aW s with
   | none=>rw[hx] at this;cases this
   | some x=>rw[hx] at this;simp at this;rw[←this.1,←this.2]
  refine wm ?_
  obtain⟨val,q,ok2,hv,hql,hc1,hc2⟩:=Ei r
  refine aK ?_
  refine U8 ?_
  refine aK ?_
  refine VG (VO.st 0 (cs':=({ f with res:={ f.res with code:=code,value:=bT val } }:aa).cells cS) Z Z Z Z (by show 12<29;omega) Z Z ?_)
  refine aK ?_
  rw[hu]
  dsimp only
  cases ok2 with
  | false=>
   refine r_ ?_
   exact⟨(0,q,false,[]),AV.bad (by rw[hc2 rfl]) nf,bd,ae.nil.ar⟩
  | true=>
  rw[hc1 rfl]
  dsimp only
  refine Rb ?_
  refine CD (ts 0 9 (.only 9 (.only 10 (ts 11 5 .nil)))) yn yr ?_
  refine ji ?_
  refine AG (AO (a8.buildSlice (n:=2) (pv:=[(0,.pointer (some ⟨fb,13,none⟩)),(1,.pointer (some ⟨fb,14,none⟩))]) (cells:=flat (rU fb) [13,14]) rfl rfl rfl rfl yp rfl) rfl (fun v L' g=>by obtain⟨b,rfl,rfl⟩:=g;exact Dg) ?_)
  rintro _ _ ⟨sc,rfl,rfl⟩
  refine AG (AO (OC (Lc:=[pt fb (({ f with res:={ f.res with code:=code,value:=bT val } }:aa).cells cS) iT]) (Lr:=[pt sc (flat (rU fb) [13,14]) wV,pt sb (flat (rU fb) [11]) wV]) rfl (.swap _ _ _) (fun Fr w hF hw hS=>mI Fr w (s:=q) (os:=[13,14]) yd (Zo rfl) (NZ ⟨_,rfl⟩ (N0 ⟨_,rfl⟩)) (Ug (hS.aP 0 rfl)))) rfl (fun v L' g=>by obtain⟨_,⟨x,_,rfl,rfl⟩,rfl⟩:=g;exact Dg) ?_)
  rintro _ _ ⟨_,⟨⟨ks,r3,ok3⟩,hI3,rfl,rfl⟩,rfl⟩
  have h3l:=hI3.len
  have h31:=hI3.ks
  have h3t:=hI3.t
  have h3f:=hI3.f
  dsimp only at h3l h31 h3t h3f
  obtain⟨ver,at_,rfl⟩:∃x y,ks=[x,y]:=by
   match ks,h31 with
   | [x,y],_=>exact⟨x,y,rfl⟩
  rw[show([13,14]:List Nat).length=1+1 from rfl,fp,Fz] at h3t h3f
  refine ji ?_
  cases h5:aW q with
  | none=>
   have hko:ok3=false:=by
    cases ok3 with
    | false=>rfl
    | true=>have:=h3t rfl;rw[h5] at this;cases this
   subst hko
   exact⟨(0,r3,false,[]),AV.bad Z nf,bd,ae.nil.ar⟩
  | some x5=>
  obtain⟨v5,q5⟩:=x5
  dsimp only
  rw[h5] at h3t h3f
  simp only[ZS,ZJ] at h3t h3f
  cases h6:aW q5 with
  | none=>
   have hko:ok3=false:=by
    cases ok3 with
    | false=>rfl
    | true=>have:=h3t rfl;rw[h6] at this;cases this
   subst hko
   exact⟨(0,r3,false,[]),AV.bad Z nf,bd,ae.nil.ar⟩
  | some x6=>
  obtain⟨v6,q6⟩:=x6
  dsimp only
  rw[h6] at h3t h3f
  simp only[ZS] at h3t h3f
  have hko:ok3=true:=by
   cases ok3 with
   | true=>rfl
   | false=>have:=h3f rfl;cases this
  subst hko
  have h7:=h3t rfl
  simp only[Option.some.injEq,Prod.mk.injEq,Z2,ZI,List.cons.injEq,and_true] at h7
  obtain⟨⟨rfl,rfl⟩,rfl⟩:=h7
  by_cases hq:q6=[]
  ·subst hq
   exact⟨(0,[],true,_),AV.ok (if_pos Z) Fy,bd,NY (IP 0 Z ae.nil)⟩
  ·exact⟨(0,q6,true,[]),AV.bad (if_neg hq) (fun h=>hq h.2.2),bd,ae.nil.ar⟩
 rw[if_neg k2]
 refine aq ?_
 refine CE Z (fun k4=>?_) (fun k4=>?_)
 ·rw[if_pos k4]
  refine aq ?_
  refine CD (ts 0 13 (.only 13 (.only 14 (ts 15 5 .nil)))) yn yr ?_
  refine ji ?_
  refine AG (AO (a8.buildSlice (n:=3) (pv:=[(0,.pointer (some ⟨fb,16,none⟩)),(1,.pointer (some ⟨fb,17,none⟩)),(2,.pointer (some ⟨fb,18,none⟩))]) (cells:=flat (rU fb) [16,17,18]) rfl rfl rfl rfl yp rfl) rfl (fun v L' g=>by obtain⟨b,rfl,rfl⟩:=g;exact Dg) ?_)
  rintro _ _ ⟨sc,rfl,rfl⟩
  refine AG (AO (OC (Lc:=[pt fb (f.cells cS) iT]) (Lr:=[pt sc (flat (rU fb) [16,17,18]) wV]) rfl (.swap _ _ _) (fun Fr w hF hw hS=>mI Fr w (s:=s) (os:=[16,17,18]) hs (Zo rfl) (NZ ⟨_,rfl⟩ (NZ ⟨_,rfl⟩ (N0 ⟨_,rfl⟩))) (Ug (hS.aP 0 rfl)))) rfl (fun v L' g=>by obtain⟨_,⟨x,_,rfl,rfl⟩,rfl⟩:=g;exact Dg) ?_)
  rintro _ _ ⟨_,⟨⟨ks,r3,ok3⟩,hI3,rfl,rfl⟩,rfl⟩
  have h3l:=hI3.len
  have h31:=hI3.ks
  have h3t:=hI3.t
  have h3f:=hI3.f
  dsimp only at h3l h31 h3t h3f
  obtain⟨ix,cl,sq,rfl⟩:∃x y z,ks=[x,y,z]:=by
   match ks,h31 with
   | [x,y,z],_=>exact⟨x,y,z,rfl⟩
  rw[show([16,17,18]:List Nat).length=1+1+1 from rfl,fp,fp,Fz] at h3t h3f
  show VA _ _ _ _ _ _ [pt fb (({ f with entry:={ f.entry with index:=ix,aj:=cl,seq:=sq } }:aa).cells cS) iT,pt sc (flat (rU fb) [16,17,18]) wV] _
  refine Hz ?_
  cases ok3 with
  | false=>
   have hn:(match aW s with
    | none=>none
    | some (i,r)=>match aW r with
     | none=>none
     | some (c,r)=>match aW r with
      | none=>none
      | some (q,r)=>match Bb r with
       | none=>none
       | some o=>some (({ f with entry:=⟨i,c,q,o⟩ }:aa),([]:List bG)))=none:=by
    have:=h3f rfl
    cases a1:aW s with
    | none=>rfl
    | some x=>
     rw[a1] at this
     simp only[ZS,ZJ] at this
     dsimp only
     cases a2:aW x.2 with
     | none=>rfl
     | some y=>
      rw[a2] at this
      simp only[ZS,ZJ] at this
      dsimp only
      cases a3:aW y.2 with
      | none=>rfl
      | some z=>rw[a3] at this;cases this
   refine r_ ?_
   exact⟨(0,r3,false,[]),AV.bad hn nf,bd,ae.nil.ar⟩
  | true=>
  have h7:=h3t rfl
  cases a1:aW s with
  | none=>rw[a1] at h7;cases h7
  | some x=>
  rw[a1] at h7
  simp only[ZS,ZJ] at h7
  obtain⟨x1,x2⟩:=x
  dsimp only at h7 ⊢
  cases a2:aW x2 with
  | none=>rw[a2] at h7;cases h7
  | some y=>
  rw[a2] at h7
  simp only[ZS,ZJ] at h7
  obtain⟨y1,y2⟩:=y
  dsimp only at h7 ⊢
  cases a3:aW y2 with
  | none=>rw[a3] at h7;cases h7
  | some z=>
  obtain⟨z1,z2⟩:=z
  rw[a3] at h7
  simp only[ZS,Option.some.injEq,Prod.mk.injEq,Z2,ZI,List.cons.injEq,and_true] at h7
  obtain⟨⟨rfl,rfl,rfl⟩,rfl⟩:=h7
  dsimp only
  refine Rb ?_
  cases hg:Bb z2 with
  | none=>
   refine VG (VV (u:=SB none) (fun Fr w hF hw _=>hg▸pC Fr w z2 yd) Z ?_)
   refine aK ?_
   refine VG (VT (vs:=e8.cells ⟨0,bT [],bT [],0⟩) (cs':=({ f with entry:=⟨x1,y1,z1,⟨0,bT [],bT [],0⟩⟩ }:aa).cells cS) 0 Z Z Z Z (by show 19+4≤29;omega) Z Z Z ?_)
   refine aK ?_
   exact Vl
  | some o=>
   refine VG (VV (u:=SB (some o)) (fun Fr w hF hw _=>hg▸pC Fr w z2 yd) Z ?_)
   refine aK ?_
   refine VG (VT (vs:=o.cells) (cs':=({ f with entry:=⟨x1,y1,z1,o⟩ }:aa).cells cS) 0 Z Z Z Z (by show 19+4≤29;omega) Z Z Z ?_)
   refine aK ?_
   exact⟨(0,[],true,_),AV.ok Z Fy,bd,NY (IP 0 Z ae.nil)⟩
 rw[if_neg k4]
 refine aq ?_
 refine CE Z (fun k8=>?_) (fun k8=>CK ?_)
 ·rw[if_pos k8]
  refine aq ?_
  refine VG (VK (Lc:=[]) (fun Fr w hF hw hS=>G7 Fr w s hs) Z Z ?_)
  cases hg:iC s with
  | none=>
   rintro _ _ ⟨rfl,rfl⟩
   refine aK ?_
   refine VG (VT (vs:=oa) (cs':=({ f with bU:=0,drain:=0 }:aa).cells cS) 0 Z Z Z Z (by show 23+3≤29;omega) Z Z Z ?_)
   refine aK ?_
   exact Vl
  | some c=>
   rintro _ _ ⟨ma,mc,rfl,rfl⟩
   refine aK ?_
   refine VG (VT (vs:=c.cells ma mc) (cs':=({ f with bU:=c.al,drain:=c.drain }:aa).cells (ma,c.ms.length,mc)) 1 Z Z Z Z (by show 23+3≤29;omega) Z Z Z ?_)
   refine aK ?_
   exact⟨(0,[],true,_),AV.ok Z ⟨ma,mc,Z⟩,bd,(dG [1,0]).ar⟩
 rw[if_neg k8]
 by_cases hq:s=[]
 ·subst hq
  exact⟨(0,[],true,_),AV.ok (if_pos Z) Fy,bd,NY ae.refl⟩
 ·exact⟨(0,s,true,[]),AV.bad (if_neg hq) (fun h=>hq h.2.2),bd,ae.nil.ar⟩
end Cl
namespace Cl
open Go Vg T Api Ch
attribute [local irreducible] VO VC VA
theorem Ey(f:aa)(g:kL){o:Nat}(n:Int)(h:qX o=true):(f.cells g).set o (.int .i64 n)=(F8 f o n).cells g:=by
 have hm:o∈[1,2,3,4,5,6,15,26,27,28]:=by unfold qX at h;exact of_decide_eq_true h
 simp only[Zt,ZO,or_false] at hm
 rcases hm with rfl | rfl | rfl | rfl | rfl | rfl | rfl | rfl | rfl | rfl<;>rfl
theorem tH(g:kL):∀(os:List Nat) (ks:List Int) (f:aa),(∀o∈os,qX o=true)→jJ (f.cells g) os ks=(ux f os ks).cells g
 | o::os,k::ks,f,h=>by
  show jJ ((f.cells g).set o (.int .i64 k)) os ks=(ux (F8 f o k) os ks).cells g
  rw[Ey f g k (h o (Z_ ..)),tH g os ks _ fun o ho=>h o (ZK _ ho)]
 | [],_,_,_=>rfl
 | _::_,[],_,_=>rfl
theorem Jt{s:Bs}{c:dL}(h:iC s=some c):se c=0:=by
 unfold iC at h
 repeat' split at h
 all_goals first | cases h;done | skip
 all_goals simp only[Option.some.injEq] at h
 all_goals subst h
 all_goals rename_i hh
 all_goals exact hh.2
theorem CA{f:aa}{s:Bs}{y:aa×List bG}(h:qY f s=some y):y.2.length≤6:=by
 unfold qY at h
 by_cases k1:f.kind=1
 ·rw[if_pos k1] at h
  split at h
  ·cases h
  ·cases h;exact Zj _
 rw[if_neg k1] at h
 by_cases k2:f.kind=2
 ·rw[if_pos k2] at h
  repeat' split at h
  all_goals first | (cases h;done) | (cases h;exact Zj _)
 rw[if_neg k2] at h
 by_cases k4:f.kind=4
 ·rw[if_pos k4] at h
  repeat' split at h
  all_goals first | (cases h;done) | (cases h;exact Zj _)
 rw[if_neg k4] at h
 by_cases k8:f.kind=8
 ·rw[if_pos k8] at h
  split at h
  ·cases h
  ·rename_i c hc
   cases h
   have:=jl (Jt hc)
   exact this.2.1
 rw[if_neg k8] at h
 split at h
 ·cases h;exact Zj _
 ·cases h
def Ze(o:Option (aa×List bG))(v:Value)(L:List HP):Prop:=match o with
 | some x=>∃a cap,v=.tuple #[.agg (x.1.cells (a,x.2.length,cap)).toArray,.int .i64 0]∧L=[aJ aG 2 a x.2.length cap (flat ax x.2)]
 | none=>v=.tuple #[.agg (aa.zero.cells cS).toArray,.int .i64 10]∧L=[]
theorem G9{s:Bs}:aH Tryz.prog 113 [.string (bT s)] Fr w [] (Ze (getM s)):=by
 refine TF 39 Tryz.func113 Z yn ah Z Z ?_
 refine CS (CG (VG (VO.alloc Z fun b2=>?_)))
 refine aq ?_
 refine CP (p:=(512:Int)<(bT s).size) Z (fun h1=>?_) (fun h1=>CK ?_)
 ·rw[di] at h1
  refine aq ?_
  refine RG ?_
  refine Vm ?_
  refine aK ?_
  exact CR (ay.aT 2 3 Z Z Z (aE.many (ds:=aa.zero.cells cS) 0 Z Z) Z ae.nil.ar (by rw[show getM s=none from(by rw[getM,if_pos yd])];exact⟨rfl,Z⟩))
 rw[di] at h1
 have hs:s.length≤1000000:=by omega
 have hG:getM s=_:=if_neg yd
 refine aq ?_
 refine VG (VO.alloc Z fun b4=>?_)
 refine aq ?_
 refine VG (VO.buildSlice (n:=1) (pv:=[(0,pV b4)]) (flat (rU b4) [0]) Z Z Z Z yp Z fun sb=>?_)
 refine VO.ar (L':=[pt b4 (aa.zero.cells cS) iT] ++ [pt b2 (aa.zero.cells cS) iT,pt sb (flat (rU b4) [0]) wV]) (dG [1,1,0]).ar ?_
 refine VG (VK (Lc:=[pt b4 (aa.zero.cells cS) iT]) (fun Fr w hF hw hS=>mI Fr w (os:=[0]) hs (Zo Z) (N0 ⟨_,Z⟩) (Ug (hS.aP 1 Z))) Z Z ?_)
 rintro _ _ ⟨⟨ks,r,ok⟩,hI,rfl,rfl⟩
 have hl:=hI.len
 have hk1:=hI.ks
 have ht:=hI.t
 have hf:=hI.f
 dsimp only at hl hk1 ht hf
 obtain⟨k,rfl⟩:∃x,ks=[x]:=by
  match ks,hk1 with
  | [x],_=>exact⟨x,rfl⟩
 rw[show([0]:List Nat).length=1 from rfl,Fz] at ht hf
 show VO _ _ _ _ _ [pt b4 (({ aa.zero with kind:=k }:aa).cells cS) iT,pt b2 (aa.zero.cells cS) iT,pt sb (flat (rU b4) [0]) wV] _
 refine aK ?_
 cases ok with
 | false=>
  have hu:aW s=none:=by simpa using hf rfl
  rw[hu] at hG
  refine FU ?_
  refine VG (VY 27 true Z Z ?_)
  refine aK ?_
  refine VG (VY 32 true Z Z ?_)
  refine wv ?_
  refine RG ?_
  refine Yk ?_
  refine aK ?_
  exact Yl
 | true=>
 have hu:aW s=some (k,r):=by
  have:=ht rfl
  cases hx:aW s with
  | none=>rw[hx] at this;cases this
  | some x=>rw[hx] at this;simp at this;rw[←this.1,←this.2]
 rw[hu] at hG
 dsimp only at hG
 clear ht hf hI hk1
 have hof:∀o∈iR k,qX o=true:=fun o ho=>zg k o ho
 have hol:=uw k
 refine Rb ?_
 refine VG (VK (Lc:=[]) (fun Fr w hF hw hS=>nH Fr w (fb:=b4) (f:={ aa.zero with kind:=k }) (g:=cS) (hS.aP 0 Z)) Z Z ?_)
 rintro _ _ ⟨na,nc,rfl,rfl⟩
 show VO _ _ _ _ _ [aJ wV 1 na (iR k).length nc (flat (rU b4) (iR k)),pt b4 (({ aa.zero with kind:=k }:aa).cells cS) iT,pt b2 (aa.zero.cells cS) iT,pt sb (flat (rU b4) [0]) wV] _
 refine VO.ar (L':=[pt b4 (({ aa.zero with kind:=k }:aa).cells cS) iT] ++ [pt b2 (aa.zero.cells cS) iT,aJ wV 1 na (iR k).length nc (flat (rU b4) (iR k))]) (dG [1,1,0]).ar ?_
 refine VG (VK (Lc:=[pt b4 (({ aa.zero with kind:=k }:aa).cells cS) iT]) (fun Fr w hF hw hS=>mI Fr w (s:=r) (os:=iR k) yd yd (fun o ho=>⟨_,vJ _ _ (hof o ho)⟩) (aI.aJ (nG b4) (hS.at_ 1 Z))) Z Z ?_)
 rintro _ _ ⟨⟨ks,r2,ok2⟩,hI,rfl,rfl⟩
 have hl2:=hI.len
 have ht:=hI.t
 have hf:=hI.f
 dsimp only at hl2 ht hf
 rw[tH _ _ _ _ hof]
 generalize hF2:ux ({ aa.zero with kind:=k }:aa) (iR k) ks=F
 show VO _ _ _ _ _ [pt b4 (F.cells cS) iT,pt b2 (aa.zero.cells cS) iT,aJ wV 1 na (iR k).length nc (flat (rU b4) (iR k))] _
 refine aK ?_
 cases ok2 with
 | false=>
  rw[hf rfl] at hG
  refine VG (VY 27 true Z Z ?_)
  refine aK ?_
  refine VG (VY 32 true Z Z ?_)
  refine wv ?_
  refine RG ?_
  refine Yk ?_
  refine aK ?_
  exact Yl
 | true=>
 rw[ht rfl] at hG
 dsimp only at hG
 rw[hF2] at hG
 refine VG (VY 27 false Z Z ?_)
 refine aK ?_
 refine VG (VK (Lc:=[pt b4 (F.cells cS) iT]) (fun Fr w hF hw hS=>Ex Fr w (s:=r2) (f:=F) yd) Z Z ?_)
 cases hR:qY F r2 with
 | none=>
  rw[hR] at hG
  rintro _ _ ⟨rfl,rfl⟩
  refine aK ?_
  refine VG (VY 32 true Z Z ?_)
  refine wv ?_
  refine RG ?_
  refine Vm ?_
  refine aK ?_
  exact CR (ay.aT 2 3 Z Z Z (aE.many (ds:=aa.zero.cells cS) 0 Z Z) Z ae.nil.ar Uj)
 | some y=>
 have hms:=CA hR
 obtain⟨f,ms⟩:=y
 rw[hR] at hG
 dsimp only at hG hms
 rintro _ _ ⟨rfl,ma,mc,rfl⟩
 show VO _ _ _ _ _ [pt b4 (f.cells (ma,ms.length,mc)) iT,aJ aG 2 ma ms.length mc (flat ax ms),pt b2 (aa.zero.cells cS) iT,aJ wV 1 na (iR k).length nc (flat (rU b4) (iR k))] _
 refine aK ?_
 refine VG (VY 32 false Z Z ?_)
 refine aK ?_
 refine Vn ?_
 refine VG (VV (fun Fr w hF hw hS=>oG Fr w (f:=f) (ms:=ms) (aI.aJ aF (hS.at_ 1 Z)) yd) Z ?_)
 refine aK ?_
 refine VC.dT Z (fun h5=>?_) (fun h5=>CK ?_)
 ·rw[if_neg (by rw[h5];decide)] at hG
  refine aK ?_
  refine RG ?_
  refine VG (VT (vs:=aa.zero.cells cS) (cs':=aa.zero.cells cS) 2 Z Z Z Z (NR _) Z Z Z ?_)
  refine aK ?_
  exact CR (ay.aT 2 3 Z Z Z (aE.many (ds:=aa.zero.cells cS) 2 Z Z) Z ae.nil.ar Uj)
 rw[if_pos h5] at hG
 refine aK ?_
 refine Vn ?_
 refine VG (VT (vs:=f.cells (ma,ms.length,mc)) (cs':=f.cells (ma,ms.length,mc)) 2 Z Z Z Z (NR _) Z Z Z ?_)
 refine aK ?_
 exact CR (ay.aT 2 3 Z Z Z (aE.many (ds:=f.cells (ma,ms.length,mc)) 2 Z Z) Z (L':=[aJ aG 2 ma ms.length mc (flat ax ms)]) (IP 1 Z ae.nil).ar (by rw[hG];exact⟨_,_,Z,Z⟩))
end Cl
namespace Cl
open Go Vg T Api Ch Rep
attribute [local irreducible] VO VC VA
abbrev G_:TypeId:=119
abbrev iY:TypeId:=210
abbrev SK:TypeId:=271
abbrev Wp:=List ByteArray×(Option Addr×Nat)
abbrev FA:=oe×Wp
theorem Ez:iB Tryz.prog SK wU:=iB.ii Tryz.underlying271 yn yp yp rfl rfl rfl rfl Tryz.underlying3 (ah.look (t:=3) rfl) rfl
def Ha(v:Wp):Value:=.slice v.2.1 v.1.length v.2.2
def wW(x:FA):HP:=aJ vI 1 x.2.2.1 x.2.1.length x.2.2.2 (flat qN x.2.1)
def wX(S:ba)(b:Nat):List Value:=[.int .i64 S.cap,.map (some b)]
def N1(p:Nat)(S:ba)(b:Nat)(X:List FA):List HP:=pt p (wX S b) G_::gL wU Ha b X::X.map wW
def J'(X:List FA):List (oe×List ByteArray):=X.map fun x=>(x.1,x.2.1)
def eG(p:Nat)(S:ba):HP:=hex fun y:Nat×List FA=>cT (gm (J' y.2=S.fX)::N1 p S y.1 y.2)
theorem aV.cB(p:Nat)(S:ba):aV (ι:=Nat×List FA) (eG p S) (fun y=>J' y.2=S.fX) (fun y=>N1 p S y.1 y.2):=fun w ids ⟨x,h⟩ hn=>by
 obtain⟨i1,i2,rfl,⟨rfl,h1⟩,h2⟩:=h
 exact⟨x,h1,i2,h2,hn,fun _ h=>h⟩
theorem ae.cB{p:Nat}{S:ba}{L K:List HP}(b:Nat)(X:List FA)(hX:J' X=S.fX)(h:ae L (N1 p S b X++K)):ae L (eG p S::K):=ae.ex (f:=fun y:Nat×List FA=>cT (gm (J' y.2=S.fX)::N1 p S y.1 y.2)) (b,X) (ae.sep (ae.pure hX h))
structure ba.Ok(S:ba):Prop where
 c0:1≤S.cap
 c1:S.cap≤64
 each:∀x∈S.fX,x.2.length≤64
 nd:(S.fX.map Prod.fst).Nodup
theorem vL{κ α β:Type}[DecidableEq κ](f:α→β)(a:κ):∀l:List (κ×α),dP (l.map fun x=>(x.1,f x.2)) a=(dP l a).map f
 | []=>rfl
 | (k,v)::r=>by
  simp only[ZX,dP]
  split
  ·rfl
  ·exact vL f a r
theorem vM{κ α β:Type}[DecidableEq κ](f:α→β)(a:κ)(u:α):∀l:List (κ×α),(eE l a u).map (fun x=>(x.1,f x.2))=eE (l.map fun x=>(x.1,f x.2)) a (f u)
 | []=>rfl
 | (k,v)::r=>by
  simp only[ZX,eE]
  split
  ·rfl
  ·simp only[ZX,vM f a u r]
theorem CB{κ α β:Type}[DecidableEq κ](f:α→β)(a:κ):∀l:List (κ×α),(iA l a).map (fun x=>(x.1,f x.2))=iA (l.map fun x=>(x.1,f x.2)) a
 | []=>rfl
 | (k,v)::r=>by
  simp only[ZX,iA]
  split
  ·rfl
  ·simp only[ZX,CB f a r]
theorem FB(X:List FA)(p:oe):∃(old:List ByteArray) (a:Option Addr) (c:Nat) (R:List HP),old=(dP (J' X) p).getD []∧((dP X p).map Ha).getD (.slice none 0 0)=.slice a old.length c ∧
  ae (X.map wW) (aJ vI 1 a old.length c (flat qN old)::R)∧(∀v:Wp,ae (aJ vI 1 v.2.1 v.1.length v.2.2 (flat qN v.1)::R) ((eE X p v).map wW))∧ae R ((iA X p).map wW):=by
 have eg:dP (J' X) p=(dP X p).map Prod.fst:=vL Prod.fst p X
 cases hl:iU X p 0 with
 | none=>
  obtain⟨h1,h2,h3,h4⟩:=gZ hl
  refine⟨[],none,0,X.map wW,by rw[eg,h1];rfl,by rw[h1];rfl,ae.bY ae.refl,fun v=>?_,by rw[h4];exact ae.refl⟩
  rw[h3 v,ZL]
  exact ae.perm (ZM (l₁:=[wW (p,v)]))
 | some q=>
  obtain⟨j,v0⟩:=q
  obtain⟨_,h2,h3,h4,h5⟩:=jb hl
  rw[Nat.sub_zero] at h2 h4 h5
  have e1:(X.map wW)[j]?=some (wW (p,v0)):=by rw[Zn,h2];rfl
  have e2:(X.map wW).eraseIdx j=(X.eraseIdx j).map wW:=(map_eraseIdx wW X j).symm
  have hj:j<X.length:=(Zk.1 h2).1
  refine⟨v0.1,v0.2.1,v0.2.2,(X.map wW).eraseIdx j,by rw[eg,h3];rfl,by rw[h3];rfl,ae.perm (bJ e1),fun v=>?_,by rw[h5,e2];exact ae.refl⟩
  rw[h4 v]
  have e3:((X.set j (p,v)).map wW)[j]?=some (wW (p,v)):=by rw[Zn,ZG hj];rfl
  have e4:((X.set j (p,v)).map wW).eraseIdx j=(X.map wW).eraseIdx j:=by rw[ZE,List.eraseIdx_set_eq]
  refine ae.perm ?_
  have:=(bJ e3).symm
  rw[e4] at this
  exact this
section
variable {p:Nat} {S:ba} {b:Nat} {X:List FA}
theorem vN(h:eQ Fr w p (wX S b)):aH Tryz.prog 157 [.pointer (some ⟨p,0,none⟩)] Fr w [] (fun v L=>v=.bool false∧L=[]):=by
 refine TF 12 Tryz.func157 Z yn ah Z Z ?_
 refine aK ?_
 refine Rs ?_
 refine yS ?_
 refine VG (VI (qR Tryz.underlying117 Z Z) ?_)
 refine aK ?_
 exact EX
theorem Hb{n:Int}(h0:1≤n)(h1:n≤64):aH Tryz.prog 31 [.int .i64 n] Fr w [] (fun v L=>∃p,v=.tuple #[.pointer (some ⟨p,0,none⟩),.int .i64 0]∧L=[eG p ⟨n,[]⟩]):=by
 refine TF 14 Tryz.func31 Z yn ah Z Z ?_
 refine aq ?_
 refine VG (VY 6 false Z (DF yd) ?_)
 refine aK ?_
 refine CP (p:=64<n) Z (fun h=>absurd h yd) (fun h=>CK ?_)
 refine aK ?_
 refine VG (VO.OI (a8.makeMap wU Ha) ?_)
 rintro _ _ ⟨m,rfl,rfl⟩
 refine VG (VI (LB (pv:=[(0,.int .i64 n),(1,.map (some m))]) (wX ⟨n,[]⟩ m) Z Z Z yn Z) ?_)
 refine VG (VB (vs:=wX ⟨n,[]⟩ m) Z fun q=>?_)
 refine aK ?_
 exact CR (ay.cU 2 3 Z Z Z (ae.cB (S:=⟨n,[]⟩) (K:=[]) m [] Z ae.refl).ar ⟨q,Z,Z⟩)
theorem rV(n:Int):aH Tryz.prog 158 [.int .i64 n] Fr w [] (fun v L=>v=.bool (jS n)∧L=[]):=by
 unfold jS
 refine TF 21 Tryz.func158 Z yn ah Z Z ?_
 refine aK ?_
 by_cases h0:0≤n
 ·refine VG (VY 5 true Z (DT h0) ?_)
  refine aK ?_
  by_cases h6:n<6
  ·refine VG (VY 9 true Z (DT h6) ?_)
   refine aK ?_
   refine VG (VY 13 true Z Z ?_)
   refine aK ?_
   exact CR (ay.bool 2 Z Z (by simp[h0,h6]) ER ⟨rfl,Z⟩)
  refine VG (VY 9 false Z (DF h6) ?_)
  refine aK ?_
  by_cases h16:n=16
  ·refine VG (VY 13 true Z (beq_iff_eq.2 h16) ?_)
   refine aK ?_
   exact CR (ay.bool 2 Z Z (by simp[h16]) ER ⟨rfl,Z⟩)
  refine VG (VY 13 false Z (beq_eq_false_iff_ne.2 h16) ?_)
  refine aK ?_
  by_cases h32:32≤n
  ·refine VG (VY 16 true Z (DT h32) ?_)
   refine aK ?_
   exact CR (ay.bool 2 Z Z (by simp[h0,h6,h16,h32]) ER ⟨rfl,Z⟩)
  refine VG (VY 16 false Z (DF h32) ?_)
  refine aK ?_
  exact CR (ay.bool 2 Z Z (by simp[h0,h6,h16,h32]) ER ⟨rfl,Z⟩)
 refine VG (VY 5 false Z (DF h0) ?_)
 refine aK ?_
 refine VG (VY 9 false Z Z ?_)
 refine aK ?_
 refine VG (VY 13 false Z (beq_eq_false_iff_ne.2 yd) ?_)
 refine aK ?_
 refine VG (VY 16 false Z (DF yd) ?_)
 refine aK ?_
 exact CR (ay.bool 2 Z Z ye ER ⟨rfl,Z⟩)
theorem a8.rW{Zx0:Cx}{κ α:Type}[DecidableEq κ]{c:κ→Value}{d:α→Value}{b:Nat}{xs:List (κ×α)}{e:Env}{L:List HP}{T kt et:TypeId}{te:TI}{x y:Operand}(K:iB Zx0.P kt c)(hT:Zx0.P.underlying T=some (.map kt et))(hE:aM Zx0.tab et=some te){a:κ}(v:Value)(hx:ev e x=some (.map (some b)))(hk:ev e y=some (c a))(hM:pJ Zx0 L c d b xs)(hv:((dP xs a).map d).getD te.zero=v):
  a8 Zx0 (.lookup T x y false) e L (fun u L'=>u=v∧L'=L):=hv▸a8.lookup (ok:=false) K hT hE hx hk hM
theorem VA.rW{Zx0:Cx}{κ α:Type}[DecidableEq κ]{c:κ→Value}{d:α→Value}{b:Nat}{xs:List (κ×α)}{ops:Array Oper}{G:GS}{pl:iZ}{S:lA}{e:Env}{L:List HP}{Q:Env→List HP→Prop}{dst:Option Tmp}{ty:TypeId}{pos:String}{after:Array Edge}{guard:Option (Nat×Bool)}
  {i:Nat} {T kt et:TypeId} {te:TI} {x y:Operand} {a:κ} (KO:iB Zx0.P kt c) (hT:Zx0.P.underlying T=some (.map kt et)) (hE:aM Zx0.tab et=some te) (v:Value)
  (hi:ops.toList[i]?=some ⟨dst,.lookup T x y false,ty,pos,after,guard⟩) (hx:ev e x=some (.map (some b))) (hk:ev e y=some (c a)) (hM:pJ Zx0 L c d b xs) (hv:((dP xs a).map d).getD te.zero=v)
  (hn:VA Zx0 ops G pl ((i,nN c d b xs)::S) (cC dst v e) L Q)
  (hg:gP ops G guard=some true:=by rfl) (hd:bA Zx0.n dst=true:=by rfl) (hf:br G dst=true:=by rfl):VA Zx0 ops G (.take i pl) S e L Q:=
 VA.lookup (ok:=false) KO hT hE hi hx hk hM (by subst hv;exact hn) hg hd hf
end
end Cl
namespace Cl
open Go Vg T Api Ch Rep
attribute [local irreducible] VO VC VA
def dw(x y:Int)(t:ByteArray):List Value:=[.int .i64 x,.int .i64 y,.string t]
theorem pa{S:ba}(ok:S.Ok)(p:oe):(S.list p).length≤64:=by
 unfold ba.list
 cases h:dP S.fX p with
 | none=>exact Zj _
 | some v=>exact ok.each _ (ot h)
theorem vO{κ α:Type}[DecidableEq κ]{a:κ}{u:α}:∀{l:List (κ×α)} {x:κ×α},x∈eE l a u→x∈l∨x=(a,u)
 | [],x,h=>.inr (by simpa[eE] using h)
 | (k,v)::r,x,h=>by
  unfold eE at h
  split at h
  ·rename_i hk
   rcases Zt.1 h with h | h
   ·right;rw[h,hk]
   ·left;exact ZK _ h
  ·rcases Zt.1 h with h | h
   ·left;rw[h];exact Z_
   ·rcases vO h with h | h
    ·left;exact ZK _ h
    ·right;exact h
theorem ba.Ok.put{S:ba}(ok:S.Ok)(p:oe){l:List ByteArray}(h:l.length≤64):({ S with fX:=eE S.fX p l }:ba).Ok:=
 ⟨ok.c0,ok.c1,fun x hx=>(vO hx).elim (ok.each x) (fun e=>by rw[e];exact h),Dr ok.nd _ _⟩
theorem ba.Ok.del{S:ba}(ok:S.Ok)(p:oe):({ S with fX:=iA S.fX p }:ba).Ok:=
 ⟨ok.c0,ok.c1,fun x hx=>ok.each x ((A8 _ _).mem hx),Ds ok.nd _⟩
theorem ba.Ok.send{S:ba}(ok:S.Ok)(p:oe)(t:ByteArray):(S.send p t).Ok:=by
 unfold ba.send
 split
 ·exact ok
 rename_i h
 refine ok.put p ?_
 have:=pa ok p
 have:=ok.c1
 rw[Zh]
 have h0:S.ju p t=0:=by simpa using h
 unfold ba.ju at h0
 split at h0
 ·cases h0
 split at h0
 ·cases h0
 split at h0
 ·cases h0
 ·simp;omega
section
variable {p:Nat} {S:ba} {b:Nat} {X:List FA}
theorem Av{x y:Int}{t:ByteArray}(h:jS x=false∨jS y=false∨x=y):S.ju (x,y) t=2:=by unfold ba.ju;exact if_pos h
theorem N2{x y:Int}{t:ByteArray}(h:¬(jS x=false∨jS y=false∨x=y)):S.ju (x,y) t=if 512<t.size then 3 else if S.cap≤(S.list (x,y)).length then 60 else 0:=by unfold ba.ju;exact if_neg h
theorem Ju{q:oe}{t:ByteArray}{e:Int}(h:S.ju q t=e)(he:e≠0):S.send q t=S:=by unfold ba.send;rw[h,if_pos he]
theorem vP(ok:S.Ok)(x y:Int)(t:ByteArray):aH Tryz.prog 93 [.pointer (some ⟨p,0,none⟩),.agg (dw x y t).toArray] Fr w [eG p S]
  (fun v L=>v=.int .i64 (S.ju (x,y) t)∧L=[eG p (S.send (x,y) t)]):=by
 have hll:=pa ok (x,y)
 have hc1:=ok.c1
 refine TF 62 Tryz.func93 Z yn ah Z Z ?_
 refine VC.e7 0 Z (aV.cB p S) ?_
 rintro⟨b,X⟩ hX
 dsimp only at hX
 refine Vo ?_
 obtain⟨old,a,c,R,e1,e2,e3,e4,e5⟩:=FB X (x,y)
 have eo:old=S.list (x,y):=by rw[e1,hX];rfl
 refine CS (CG (VG (VB (vs:=dw x y t) Z fun mb=>?_)))
 refine T7 ?_
 refine T7 ?_
 refine aq ?_
 refine Vp ?_
 refine VG (VO.alloc Z fun kb=>?_)
 refine Ym ?_
 show VO _ _ _ _ _ (pt kb [.int .i64 x,.int .i64 y] SK::pt mb (dw x y t) iY::pt p (wX S b) G_::gL wU Ha b X::X.map wW) _
 have fin:jj ⟨Tryz.prog,tab,ah,62,Fr,w⟩ (pt kb [.int .i64 x,.int .i64 y] SK::pt mb (dw x y t) iY::pt p (wX S b) G_::gL wU Ha b X::X.map wW) [eG p S]:=
  (ae.cB (K:=[]) b X hX (by rw[Zi];exact IP 2 rfl (IP 2 rfl (ae.app (L:=[_,_]) (M:=[]) ae.nil ae.refl)))).ar
 refine aq ?_
 refine VG (VV (fun Fr w hF hw hS=>vN Fr w (hS.aP 2 Z)) Z ?_)
 refine aq ?_
 refine HF ?_
 refine wu ?_
 refine VG (VV (fun Fr w hF hw hS=>rV Fr w x) Z ?_)
 refine wu ?_
 by_cases k1:jS x=true
 rotate_left
 ·have hE:=Av (S:=S) (x:=x) (y:=y) (t:=t) (.inl On)
  refine VG (VY 19 true Z On ?_)
  refine wu ?_
  refine VG (VY 25 true Z Z ?_)
  refine wu ?_
  refine wm ?_
  refine aK ?_
  exact RH
 refine VG (VY 19 false Z On ?_)
 refine wu ?_
 refine VG (VV (fun Fr w hF hw hS=>rV Fr w y) Z ?_)
 refine wu ?_
 by_cases k2:jS y=true
 rotate_left
 ·have hE:=Av (S:=S) (x:=x) (y:=y) (t:=t) (.inr (.inl (by simpa using k2)))
  refine VG (VY 25 true Z (by simpa using k2) ?_)
  refine wu ?_
  refine wm ?_
  refine aK ?_
  exact RH
 refine VG (VY 25 false Z (by simpa using k2) ?_)
 refine wu ?_
 refine CE Z (fun k3=>?_) (fun k3=>?_)
 ·have hE:=Av (S:=S) (x:=x) (y:=y) (t:=t) (.inr (.inr k3))
  refine aK ?_
  exact RH
 have hN:=N2 (S:=S) (t:=t) (by rintro(h | h | h);rw[k1] at h;cases h;rw[k2] at h;cases h;exact k3 h:¬(jS x=false∨jS y=false∨x=y))
 refine wu ?_
 refine CP (p:=512<(t.size:Int)) Z (fun k4=>?_) (fun k4=>?_)
 ·have hE:S.ju (x,y) t=3:=by rw[hN,if_pos yd]
  refine aK ?_
  exact RH
 refine aK ?_
 refine CD (ts 0 13 .nil) yn yr ?_
 refine sg ?_
 refine AG (VA.kn 0 [.int .i64 x,.int .i64 y] Z Z Z Z Z ?_)
 refine AG (VA.rW (a:=(x,y)) Ez Tryz.underlying117 Z (.slice a old.length c) Z Z Z (pJ.one 3 Z) e2 ?_)
 refine sg ?_
 refine CP (p:=S.cap≤(old.length:Int)) Z (fun k5=>?_) (fun k5=>CK ?_)
 ·have hE:S.ju (x,y) t=60:=by rw[hN,if_neg yd,←eo,if_pos k5]
  refine aK ?_
  exact RH
 have hE:S.ju (x,y) t=0:=by rw[hN,if_neg yd,←eo,if_neg k5]
 have en:(old ++ [t]).length=old.length+1:=by rw[Zh];rfl
 refine CN (L':=aJ vI 1 a old.length c (flat qN old)::pt kb [.int .i64 x,.int .i64 y] SK::pt mb (dw x y t) iY::pt p (wX S b) G_::gL wU Ha b X::R) ?_ ?_
 ·refine((ae.app (L:=[_,_,_,_]) (M:=[_,_,_,_]) ae.refl e3).trans (IP 4 Z ae.refl)).ar
 refine aq ?_
 refine CD (ts 0 7 (.only 7 (.only 8 (ts 9 1 (ts 11 1 (.only 10 (.only 12 .nil))))))) yn yr ?_
 refine tM ?_
 refine RI ?_
 refine tM ?_
 refine AG (AO (a8.buildSlice (n:=1) (pv:=[(0,.string t)]) (cells:=qN t) Z Z Z Z yp (bM Z Z Z)) Z ?_ ?_)
 ·rintro _ _ ⟨nb,rfl,rfl⟩
  exact yv
 rintro _ _ ⟨nb,rfl,rfl⟩
 refine AG (AO (a8.G6 5 Ez Tryz.underlying117 Z (.slice a old.length c) (a:=(x,y)) Z Z Z e2) Z ?_ ?_)
 ·rintro _ _ ⟨st,rfl,rfl⟩
  exact yv
 rintro _ _ ⟨st,rfl,rfl⟩
 refine tM ?_
 refine AG (AO (a8.append (m:=1) (news:=qN t) 1 Z Z Z Z Z Z Z (dq.pt 0 Z Z Z) Z (by show(old.length+1)*16≤_;omega) yd) Z ?_ ?_)
 ·rintro _ _ ⟨a1,c1,rfl,hc1,rfl⟩
  exact yv
 rintro _ _ ⟨a1,c1,rfl,hc1,rfl⟩
 refine tM ?_
 refine AG (AO (a8.entryStore 5 (c:=wU) (d:=Ha) (xs:=X) (a:=(x,y)) (u:=(old ++ [t],(a1,c1))) Z Z (by show some (Value.slice a1 (old.length+1) c1)=some (.slice a1 (old ++ [t]).length c1);rw[en]) Z) Z ?_ ?_)
 ·rintro _ _ ⟨rfl,rfl⟩
  exact yv
 rintro _ _ ⟨rfl,rfl⟩
 refine Hz ?_
 refine CR (ay.tmp 4 Z Z (L':=[eG p (S.send (x,y) t)]) ?_ ⟨by rw[hE],Z⟩)
 have es:S.send (x,y) t={ S with fX:=eE S.fX (x,y) (old ++ [t]) }:=by unfold ba.send;rw[hE,if_neg yp,eo]
 rw[es]
 refine(ae.cB (S:={ S with fX:=eE S.fX (x,y) (old ++ [t]) }) (K:=[]) b (eE X (x,y) (old ++ [t],(a1,c1))) (by show J' _=eE S.fX (x,y) (old ++ [t]);rw[←hX];exact vM Prod.fst _ _ _) ?_).ar
 rw[Zi]
 refine IP 4 Z (IP 4 Z ?_)
 have e4':=e4 (old ++ [t],(a1,c1))
 dsimp only at e4'
 rw[bf,vC,en] at e4'
 exact(ae.app (L:=[_]) (L':=_) (M:=[_]) ae.refl (ae.app (L:=[_,_,_]) (M:=[]) ae.nil ae.refl)).trans e4'
end
end Cl
namespace Cl
open Go Vg T Api Ch Rep
attribute [local irreducible] VO VC VA
def OZ(S:ba)(p:oe)(i:Int):Value:=match S.find p i with
 | none=>.tuple #[.agg (dw 0 0 ⟨#[]⟩).toArray,.int .i64 4]
 | some t=>.tuple #[.agg (dw p.1 p.2 t).toArray,.int .i64 0]
theorem mJ{S:ba}{p:oe}{i:Int}(h:S.find p i=none):OZ S p i=.tuple #[.agg (dw 0 0 ⟨#[]⟩).toArray,.int .i64 4]:=by unfold OZ;rw[h]
theorem pc{S:ba}{p:oe}{i:Int}{t:ByteArray}(h:S.find p i=some t):OZ S p i=.tuple #[.agg (dw p.1 p.2 t).toArray,.int .i64 0]:=by unfold OZ;rw[h]
theorem CF{κ α:Type}[DecidableEq κ](a:κ)(u:α):∀l:List (κ×α),iA (eE l a u) a=iA l a
 | []=>by simp[eE,iA]
 | (k,v)::r=>by
  unfold eE
  by_cases h:k=a
  ·rw[if_pos h];simp[iA,h]
  ·rw[if_neg h];simp[iA,h,CF a u r]
theorem FC{Fr:Nat→Prop}{w:World}{A:List HP}{X:List FA}(h:aL Fr (A++X.map wW) w):∀z∈X,aI qN 1 Fr w z.2.2.1 z.2.1:=fun z hz=>by
 obtain⟨i,hi,rfl⟩:=List.getElem_of_mem hz
 exact aI.aJ jW (h.at_ (A.length+i) (by rw[List.getElem?_append_right yd,Nat.add_sub_cancel_left,Zn,GE hi];rfl))
section
variable {p:Nat} {S:ba} {b:Nat} {X:List FA}
theorem vQ(ok:S.Ok)(h:eQ Fr w p (wX S b))(hm:ou Fr w wU Ha b X)(hr:∀z∈X,aI qN 1 Fr w z.2.2.1 z.2.1)(hX:J' X=S.fX)(x y i:Int):aH Tryz.prog 115 [.pointer (some ⟨p,0,none⟩),.int .i64 x,.int .i64 y,.int .i64 i] Fr w [] (fun v L=>v=OZ S (x,y) i∧L=[]):=by
 have hll:=pa ok (x,y)
 have eg:dP S.fX (x,y)=(dP X (x,y)).map Prod.fst:=by rw[←hX];exact vL Prod.fst _ X
 obtain⟨l,a,c,e1,e2,e3⟩:∃(l:List ByteArray) (a:Option Addr) (c:Nat),S.list (x,y)=l∧((dP X (x,y)).map Ha).getD (.slice none 0 0)=.slice a l.length c∧aI qN 1 Fr w a l:=by
  unfold ba.list
  rw[eg]
  cases hg:dP X (x,y) with
  | none=>exact⟨[],none,0,rfl,rfl,aI.nil⟩
  | some v=>exact⟨v.1,v.2.1,v.2.2,rfl,rfl,hr _ (ot hg)⟩
 have hf:S.find (x,y) i=if i<0 then none else l[i.toNat]?:=by unfold ba.find;rw[e1]
 rw[e1] at hll
 refine TF 38 Tryz.func115 Z yn ah Z Z ?_
 refine CS (CG (VG (VO.alloc Z fun rb=>?_)))
 refine aK ?_
 refine VG (VV (fun Fr w hF hw _=>vN Fr w (h.of hF hw)) Z ?_)
 refine J6 ?_
 refine yS ?_
 refine Vp ?_
 refine VG (VO.wo (a8.rW Ez Tryz.underlying117 Z (a:=(x,y)) (.slice a l.length c) Z Z (pJ.aP hm) e2) ?_)
 refine aK ?_
 by_cases h0:i<0
 ·refine VG (VY 24 true Z (DT h0) ?_)
  refine wv ?_
  refine Vq ?_
  refine Q6 ?_
  refine aK ?_
  exact CR (ay.aT 8 9 Z Z Z (aE.many (ds:=dw 0 0 ⟨#[]⟩) 0 Z Z) Z ae.nil.ar ⟨(mJ (by rw[hf,if_pos h0])).symm,Z⟩)
 obtain⟨k,rfl⟩:∃k:Nat,i=k:=⟨i.toNat,by omega⟩
 rw[if_neg h0,Zp] at hf
 refine VG (VY 24 false Z (DF h0) ?_)
 refine aK ?_
 refine CP (p:=(l.length:Int)≤k) Z (fun h1=>?_) (fun h1=>CK ?_)
 ·refine aK ?_
  refine Vq ?_
  refine Q6 ?_
  refine aK ?_
  exact CR (ay.aT 8 9 Z Z Z (aE.many (ds:=dw 0 0 ⟨#[]⟩) 0 Z Z) Z ae.nil.ar ⟨(mJ (by rw[hf,Z4 yd])).symm,Z⟩)
 have hk:k<l.length:=by omega
 have hk2:l[k]?=some l[k]:=GE hk
 generalize l[k]=t at hk2
 obtain⟨tb,toQ,rfl,_,hrd⟩:=aI.rd (X:=⟨Tryz.prog,tab,ah,38,Fr,w⟩) e3 hk2
 refine aK ?_
 refine Rr ?_
 refine VG (VO.load Z Z (hrd _ _ 0 _ Z Z) ?_)
 refine aK ?_
 refine VG (VI (LB (pv:=[(0,.int .i64 x),(1,.int .i64 y),(2,.string t)]) (dw x y t) Z Z Z yn Z) ?_)
 refine Vr ?_
 refine aK ?_
 exact CR (ay.aT 8 9 Z Z Z (aE.many (ds:=dw x y t) 0 Z Z) Z ae.nil.ar ⟨(pc (by rw[hf,hk2])).symm,Z⟩)
end
end Cl
namespace Cl
open Go Vg T Api Ch Rep
attribute [local irreducible] VO VC VA
theorem N3{S:ba}{q:oe}{i:Int}{t:ByteArray}(h:S.find q i=some t):∃k:Nat,i=k∧k<(S.list q).length∧(S.list q)[k]?=some t:=by
 unfold ba.find at h
 split at h
 ·cases h
 ·exact⟨i.toNat,by omega,(Zk.1 h).1,h⟩
theorem sT{S:ba}{q:oe}{i:Int}(h:S.find q i=none):S.drop q i=(S,4):=by unfold ba.drop;rw[if_pos h]
theorem sU{S:ba}{q:oe}{i:Int}{t:ByteArray}(h:S.find q i=some t):S.drop q i=(S.eR q i,0):=by unfold ba.drop;rw[if_neg (by rw[h];intro e;cases e)]
theorem ba.Ok.drop{S:ba}(ok:S.Ok)(q:oe)(i:Int):(S.drop q i).1.Ok:=by
 unfold ba.drop
 split
 ·exact ok
 show(S.eR q i).Ok
 have hl:=pa ok q
 have hl2:((S.list q).eraseIdx i.toNat).length≤64:=ZQ (List.length_eraseIdx_le _ _) hl
 unfold ba.eR
 split
 ·exact ba.Ok.del (ok.put q hl2) q
 ·exact ok.put q hl2
section
variable {p:Nat} {S:ba} {b:Nat} {X:List FA}
theorem p9(ok:S.Ok)(x y i:Int):aH Tryz.prog 112 [.pointer (some ⟨p,0,none⟩),.int .i64 x,.int .i64 y,.int .i64 i] Fr w [eG p S]
  (fun v L=>v=OZ S (x,y) i∧L=[eG p (S.drop (x,y) i).1]):=by
 have hll:=pa ok (x,y)
 refine TF 55 Tryz.func112 Z yn ah Z Z ?_
 refine VC.e7 0 Z (aV.cB p S) ?_
 rintro⟨b,X⟩ hX
 dsimp only at hX
 refine Vo ?_
 obtain⟨old,a,c,R,e1,e2,e3,e4,e5⟩:=FB X (x,y)
 have eo:old=S.list (x,y):=by rw[e1,hX];rfl
 refine CS (CG (VG (VO.alloc Z fun rb=>?_)))
 refine aq ?_
 refine VG (VV (fun Fr w hF hw hS=>vQ Fr w ok (hS.aP 1 Z) (hS.Dt 2 Z) (FC (A:=[_,_,_]) hS) hX x y i) Z ?_)
 cases hf:S.find (x,y) i with
 | none=>
  rw[mJ hf]
  refine aq ?_
  refine Q6 ?_
  refine Pf ?_
  refine Vq ?_
  refine Q6 ?_
  refine aq ?_
  refine CR (ay.aT 8 9 Z Z Z (aE.many (ds:=dw 0 0 ⟨#[]⟩) 0 Z Z) Z (L':=[eG p S]) ?_ ⟨rfl,by rw[sT hf]⟩)
  exact(ae.cB (K:=[]) b X hX (by rw[Zi];exact IP 1 Z (IP 1 Z (ae.app (L:=[_]) (M:=[]) ae.nil ae.refl)))).ar
 | some t=>
  obtain⟨k,rfl,hk,hkt⟩:=N3 hf
  rw[←eo] at hk hkt
  rw[pc hf]
  refine aq ?_
  refine Vr ?_
  refine EY ?_
  refine Vp ?_
  refine VG (VO.alloc Z fun kb=>?_)
  refine Ym ?_
  refine VO.ar (L':=aJ vI 1 a old.length c (flat qN old)::pt kb [.int .i64 x,.int .i64 y] SK::pt rb (dw x y t) iY::pt p (wX S b) G_::gL wU Ha b X::R) ?_ ?_
  ·exact((ae.app (L:=[_,_,_,_]) (M:=[_,_,_,_]) ae.refl e3).trans (IP 4 Z ae.refl)).ar
  have hlo:old.length≤64:=by rw[eo];exact hll
  refine aq ?_
  refine CD (ts 0 14 (.only 14 (.only 15 .nil))) yn yr ?_
  refine tM ?_
  refine RI ?_
  refine tM ?_
  refine RI ?_
  refine AG (VA.rW (a:=(x,y)) Ez Tryz.underlying117 Z (.slice a old.length c) Z Z Z (pJ.one 4 Z) e2 ?_)
  refine tM ?_
  refine HI ?_
  refine AG (AQ 0 rfl (fun Fr w hF hs hS=>Ai (a:=a) (cap:=c) Fr w hk yd) rfl rfl (ψ:=fun v H=>∃a' cap',v=.slice a' (old.eraseIdx k).length cap'∧H=aJ vI 1 a' (old.eraseIdx k).length cap' (flat qN (old.eraseIdx k))) (fun v L h=>by obtain⟨a',c',h1,h2⟩:=h;exact⟨_,h2,a',c',h1,rfl⟩) ?_ ?_)
  ·rintro _ _ ⟨a1,c1,rfl,rfl⟩
   exact yv
  rintro _ _ ⟨a1,c1,rfl,rfl⟩
  refine AG (AO (a8.mapUpdate 4 (c:=wU) (d:=Ha) (xs:=X) (a:=(x,y)) (u:=(old.eraseIdx k,(a1,c1))) Ez Tryz.underlying117 Z Z Z Z) Z ?_ ?_)
  ·rintro _ _ ⟨rfl,rfl⟩
   exact yv
  rintro _ _ ⟨rfl,rfl⟩
  refine ji ?_
  have ew:S.eR (x,y) k=if (old.eraseIdx k).length=0 then { S with fX:=iA (eE S.fX (x,y) (old.eraseIdx k)) (x,y) } else { S with fX:=eE S.fX (x,y) (old.eraseIdx k) }:=by unfold ba.eR;rw[←eo,Zp]
  have eX:J' (eE X (x,y) (old.eraseIdx k,(a1,c1)))=eE S.fX (x,y) (old.eraseIdx k):=by rw[←hX];exact vM Prod.fst _ _ _
  refine CS (VC.cq (σ:=Unit) (fun _=>[(8,pV rb)]) (fun _=>[eG p (S.eR (x,y) k),pt rb (dw x y t) iY]) (fun _=>True) ?_ ?_)
  ·refine CS (CD (ts 0 8 .nil) yn yr ?_)
   refine tM ?_
   refine RI ?_
   refine AG (VA.rW (a:=(x,y)) Ez Tryz.underlying117 Z (.slice a1 (old.eraseIdx k).length c1) Z Z Z (pJ.one 4 Z) (by rw[HR,if_pos rfl];rfl) ?_)
   refine tM ?_
   refine CE (i:=((old.eraseIdx k).length:Int)) (j:=0) Z (fun k0=>?_) (fun k0=>CK ?_)
   ·refine CD (ts 0 5 (.only 5 .nil)) yn yr ?_
    refine tM ?_
    refine RI ?_
    refine AG (AO (a8.delete 4 (c:=wU) (d:=Ha) (xs:=eE X (x,y) (old.eraseIdx k,(a1,c1))) (a:=(x,y)) Ez Tryz.underlying117 Z Z Z) Z ?_ ?_)
    ·rintro _ _ ⟨rfl,rfl⟩
     exact yv
    rintro _ _ ⟨rfl,rfl⟩
    refine ji ?_
    refine⟨(),trivial,bd,?_⟩
    rw[ew,if_pos yd]
    refine(ae.cB (S:={ S with fX:=iA (eE S.fX (x,y) (old.eraseIdx k)) (x,y) }) b (iA (eE X (x,y) (old.eraseIdx k,(a1,c1))) (x,y)) (by show J' _=iA (eE S.fX (x,y) (old.eraseIdx k)) (x,y);rw[←eX];exact CB Prod.fst _ _) ?_).ar
    refine IP 3 Z (IP 3 Z ?_)
    refine(ae.perm (ZM (l₁:=[_,_,_]) (l₂:=R))).trans (ae.app ?_ (IP 2 Z ae.nil))
    rw[CF]
    exact e5
   ·refine⟨(),trivial,bd,?_⟩
    rw[ew,if_neg yd]
    refine(ae.cB (S:={ S with fX:=eE S.fX (x,y) (old.eraseIdx k) }) b (eE X (x,y) (old.eraseIdx k,(a1,c1))) eX ?_).ar
    refine IP 3 Z (IP 3 Z ?_)
    refine ae.trans (M:=[pt rb (dw x y t) iY]++(eE X (x,y) (old.eraseIdx k,(a1,c1))).map wW) (IP 2 Z ?_) (ae.perm ZM)
    exact(ae.app (L:=[_]) (L':=_) (M:=[_]) ae.refl (ae.app (L:=[_]) (M:=[]) ae.nil ae.refl)).trans (e4 (old.eraseIdx k,(a1,c1)))
  rintro - -
  refine aq ?_
  refine VG (VL 1 (dw x y t) Z Z Z Z ?_)
  refine VG (VT (vs:=dw x y t) (cs':=dw x y t) 1 Z Z Z Z (NR _) Z Z Z ?_)
  refine aq ?_
  exact CR (ay.aT 8 9 Z Z Z (aE.many (ds:=dw x y t) 1 Z Z) Z (L':=[eG p (S.eR (x,y) k)]) (IP 0 Z ae.nil).ar ⟨rfl,by rw[sU hf]⟩)
end
end Cl
namespace Cl
open Go Vg T Api Ch Rep
attribute [local irreducible] VO VC VA
theorem QA(S:ba)(q:oe)(i:Int):∃x y t,OZ S q i=.tuple #[.agg (dw x y t).toArray,.int .i64 (S.drop q i).2]:=by
 cases hf:S.find q i with
 | none=>exact⟨_,_,_,by rw[mJ hf,sT hf]⟩
 | some t=>exact⟨_,_,_,by rw[pc hf,sU hf]⟩
section
variable {p:Nat} {S:ba} {b:Nat} {X:List FA}
theorem EA(ok:S.Ok)(x y i:Int):aH Tryz.prog 64 [.pointer (some ⟨p,0,none⟩),.int .i64 x,.int .i64 y,.int .i64 i] Fr w [eG p S]
  (fun v L=>v=.int .i64 (S.drop (x,y) i).2∧L=[eG p (S.drop (x,y) i).1]):=by
 refine TF 20 Tryz.func64 Z yn ah Z Z ?_
 refine aq ?_
 refine VG (VK (Lc:=[eG p S]) (Lr:=[]) (fun Fr w hF hw _=>p9 Fr w ok x y i) Z Z ?_)
 rintro _ _ ⟨rfl,rfl⟩
 obtain⟨x',y',t',e⟩:=QA S (x,y) i
 rw[e]
 refine aq ?_
 refine VG (VO.alloc Z fun rb=>?_)
 refine VG (VT (vs:=dw x' y' t') (cs':=dw x' y' t') 0 Z Z Z Z (NR _) Z Z Z ?_)
 refine aq ?_
 exact CR (ay.tmp 8 Z Z (IP 1 Z ae.nil).ar ⟨rfl,Z⟩)
theorem tI{q:oe}{i:Int}(h:S.find q i=none):S.double q i=(S,4):=by unfold ba.double;rw[h]
theorem tJ{q:oe}{i:Int}{t:ByteArray}(h:S.find q i=some t):S.double q i=(S.send q t,S.ju q t):=by unfold ba.double;rw[h]
theorem ba.Ok.double(ok:S.Ok)(q:oe)(i:Int):(S.double q i).1.Ok:=by
 unfold ba.double
 split
 ·exact ok
 ·exact ok.send _ _
theorem Aw(ok:S.Ok)(x y i:Int):aH Tryz.prog 65 [.pointer (some ⟨p,0,none⟩),.int .i64 x,.int .i64 y,.int .i64 i] Fr w [eG p S]
  (fun v L=>v=.int .i64 (S.double (x,y) i).2∧L=[eG p (S.double (x,y) i).1]):=by
 refine TF 25 Tryz.func65 Z yn ah Z Z ?_
 refine VC.e7 0 Z (aV.cB p S) ?_
 rintro⟨b,X⟩ hX
 dsimp only at hX
 refine Vo ?_
 refine aq ?_
 refine VG (VV (fun Fr w hF hw hS=>vQ Fr w ok (hS.aP 0 Z) (hS.Dt 1 Z) (FC (A:=[_,_]) hS) hX x y i) Z ?_)
 refine VO.ar (L':=[eG p S]) (ae.cB (K:=[]) b X hX (by rw[Zi];exact ae.refl)).ar ?_
 cases hf:S.find (x,y) i with
 | none=>
  rw[mJ hf]
  refine aq ?_
  refine VG (VO.alloc Z fun rb=>?_)
  refine Q6 ?_
  refine Pf ?_
  exact CR (ay.tmp 8 Z Z (IP 1 Z ae.nil).ar ⟨by rw[tI hf],by rw[tI hf]⟩)
 | some t=>
  rw[pc hf]
  refine aq ?_
  refine VG (VO.alloc Z fun rb=>?_)
  refine Vr ?_
  refine EY ?_
  refine VG (VL 0 (dw x y t) Z Z Z Z ?_)
  refine VO.ar (L':=[eG p S,pt rb (dw x y t) iY]) (IP 1 Z ae.refl).ar ?_
  refine VG (VK (Lc:=[eG p S]) (Lr:=[pt rb (dw x y t) iY]) (fun Fr w hF hw _=>vP Fr w ok x y t) Z Z ?_)
  rintro _ _ ⟨rfl,rfl⟩
  refine aq ?_
  exact CR (ay.tmp 8 Z Z (IP 0 Z ae.nil).ar ⟨by rw[tJ hf],by rw[tJ hf]⟩)
end
end Cl
namespace Cl
open Go Vg T Api Ch Rep Conf Lg
attribute [local irreducible] VO VC VA
abbrev Ax:TypeId:=84
abbrev Ka:TypeId:=87
abbrev N4:TypeId:=90
abbrev Ay:=Option (Nat×au)
abbrev FD:=Nat×aN
def QB:Ay→Value
 | none=>.pointer none
 | some x=>.pointer (some ⟨x.1,0,none⟩)
def kN(x:Ay):List Value:=[QB x]
theorem vR(x:Ay):(kN x).length=1:=rfl
def kO:Ay→HP
 | none=>gm True
 | some x=>bz x.1 x.2
def rX(x:FD):List Value:=[.pointer (some ⟨x.1,0,none⟩)]
theorem Jv(x:FD):(rX x).length=1:=rfl
def rY(x:FD):HP:=cw x.1 x.2
structure iy where
 qa:Option Addr
 qc:Nat
 mp:Nat
 nb:Nat
 nc:Nat
 nx:List Value
 nr:List Ay
 cb:Nat
 cc:Nat
 cx:List Value
 cr:List FD
 lp:Nat
 hp:Nat
 da:Option Addr
 dc:Nat
def nI(C:av)(y:iy):List Value:=C.iS.cells y.qa y.qc ++ [.int .i64 C.now,.pointer (some ⟨y.mp,0,none⟩),.slice (some ⟨y.nb,0,none⟩) y.nr.length y.nc,.slice (some ⟨y.cb,0,none⟩) y.cr.length y.cc,.pointer (some ⟨y.lp,0,none⟩),.pointer (some ⟨y.hp,0,none⟩),.slice y.da C.done.length y.dc]
def gO(p:Nat)(C:av)(y:iy):List HP:=[pt p (nI C y) Ax,mg y.qa y.qc C.iS.qs,dh y.mp C.dk,pt y.nb (flat kN y.nr++y.nx) Ka,pt y.cb (flat rX y.cr++y.cx) N4,eG y.lp C.cB,kJ y.hp C.gx,aJ iE 7 y.da C.done.length y.dc (flat cL C.done),cT (y.nr.map kO),cT (y.cr.map rY)]
structure dx(C:av)(y:iy):Prop where
 nr:y.nr.map (Option.map Prod.snd)=C.nodes
 cr:y.cr.map Prod.snd=C.ff
 qc:C.iS.qs.length≤y.qc
def eY(p:Nat)(C:av):HP:=hex fun y:iy=>cT (gm (dx C y)::gO p C y)
theorem aV.O0(p:Nat)(C:av):aV (ι:=iy) (eY p C) (fun y=>dx C y) (fun y=>gO p C y):=fun w ids ⟨x,h⟩ hn=>by
 obtain⟨i1,i2,rfl,⟨rfl,h1⟩,h2⟩:=h
 exact⟨x,h1,i2,h2,hn,fun _ h=>h⟩
theorem ae.O0{p:Nat}{C:av}{L K:List HP}(y:iy)(hy:dx C y)(h:ae L (gO p C y++K)):ae L (eY p C::K):=ae.ex (f:=fun y:iy=>cT (gm (dx C y)::gO p C y)) y (ae.sep (ae.pure hy h))
theorem QC{Fr:Nat→Prop}{w:World}{p:Nat}{C:av}(h:aL Fr [eY p C] w):∃y,dx C y∧aL Fr (gO p C y) w:=by
 obtain⟨y,hy⟩:=h.ex
 have hs:=hy.sep
 exact⟨y,hs.pure 0 Z,aL.tail hs⟩
def ba.CH(S:ba):Prop:=∀x∈S.fX,jS x.1.1=true∧jS x.1.2=true
structure av.Ok(C:av)(b e:Nat):Prop where
 cf:C.iS=dy C.iS
 n0:0≤C.now
 n1:C.now≤1099511627776
 dk:C.dk.Ok
 nl:C.nodes.length=C.iS.nodes.toNat
 cl:C.ff.length=C.iS.aB.toNat
 cB:C.cB.Ok
 gx:C.gx.Ok
 fit:∀r,some r∈C.nodes→r.Fit
 last:∀r,some r∈C.nodes→r.bC.last≤b
 CI:∀s∈C.ff,s.Ok
 seq:∀s∈C.ff,s.seq≤b
 rc:C.gx.bw.length≤b
 ev:C.gx.events≤e
 dn:C.done.length≤4096
 FE:C.cB.CH
section
variable {p:Nat} {C:av} {y:iy}
theorem EB(h:eQ Fr w p (nI C y)):aH Tryz.prog 37 [.pointer (some ⟨p,0,none⟩)] Fr w [] (fun v L=>v=.bool true∧L=[]):=by
 refine TF 12 Tryz.func37 Z yn ah Z Z ?_
 refine T9 ?_
 refine yS ?_
 exact EX
theorem mK(fit:dx C y):y.nr.length=C.nodes.length:=by rw[←fit.nr,Zm]
theorem pE(fit:dx C y):y.cr.length=C.ff.length:=by rw[←fit.cr,Zm]
theorem pF(fit:dx C y){k:Nat}{x:Ay}(h:y.nr[k]?=some x):C.node (k:Int)=x.map Prod.snd∧C.nodes[k]?=some (x.map Prod.snd):=by
 have:C.nodes[k]?=some (x.map Prod.snd):=by rw[←fit.nr,Zn,h];rfl
 refine⟨?_,this⟩
 unfold av.node
 rw[if_neg yd,Zp,this];rfl
theorem Az(fit:dx C y){k:Nat}{x:FD}(h:y.cr[k]?=some x):C.pz (k:Int)=some x.2∧C.ff[k]?=some x.2:=by
 have:C.ff[k]?=some x.2:=by rw[←fit.cr,Zn,h];rfl
 refine⟨?_,this⟩
 unfold av.pz
 rw[if_neg yd,Zp,this]
theorem iQ{l:List Ay}{k:Nat}{x:Ay}{r:List Value}(h:l[k]?=some x):(flat kN l++r)[0+k*1]?=some (QB x):=by rw[Zl];exact fD (j:=0) vR h rfl r
theorem rZ{l:List FD}{k:Nat}{x:FD}{r:List Value}(h:l[k]?=some x):(flat rX l++r)[0+k*1]?=some (.pointer (some ⟨x.1,0,none⟩)):=by rw[Zl];exact fD (j:=0) Jv h rfl r
theorem AA(fit:dx C y)(h:eQ Fr w p (nI C y))(hr:eQ Fr w y.nb (flat kN y.nr++y.nx))(n:Int):aH Tryz.prog 58 [.pointer (some ⟨p,0,none⟩),.int .i64 n] Fr w [] (fun v L=>v=.int .i64 (C.u9 n)∧L=[]):=by
 have hl:=mK fit
 refine TF 26 Tryz.func58 Z yn ah Z Z ?_
 refine aK ?_
 by_cases h0:n<0
 ·refine VG (VY 8 true Z (DT h0) ?_)
  refine yS ?_
  refine wm ?_
  refine aK ?_
  exact CR (ay.tmp 4 Z Z ER ⟨by rw[av.u9,if_pos (.inl h0)],Z⟩)
 obtain⟨k,rfl⟩:∃k:Nat,n=k:=⟨n.toNat,by omega⟩
 refine VG (VY 8 false Z (DF h0) ?_)
 refine yS ?_
 refine CP (p:=(y.nr.length:Int)≤k) Z (fun h1=>?_) (fun h1=>?_)
 ·refine aK ?_
  exact CR (ay.tmp 4 Z Z ER ⟨by rw[av.u9,if_pos (.inr yd)],Z⟩)
 have hk:k<y.nr.length:=by omega
 have hk2:y.nr[k]?=some y.nr[k]:=GE hk
 generalize y.nr[k]=x at hk2
 obtain⟨e1,e2⟩:=pF fit hk2
 have hu:C.u9 (k:Int)=if x.isNone then 61 else 0:=by
  unfold av.u9
  rw[if_neg yd,e1]
  cases x<;>rfl
 refine yS ?_
 refine Rr ?_
 refine VG (VO.load Z Z (aE.aP hr (iQ hk2)) ?_)
 cases x with
 | none=>
  refine wv ?_
  exact CR (ay.tmp 4 Z Z ER ⟨by rw[hu];rfl,Z⟩)
 | some z=>
  show VO _ _ _ _ (cC (some 24) (.pointer (some ⟨z.1,0,none⟩)) _) _ _
  refine J6 ?_
  refine aK ?_
  exact CR (ay.tmp 4 Z Z ER ⟨by rw[hu];rfl,Z⟩)
end
end Cl
namespace Cl
open Go Vg T Api Ch Rep Conf Lg
attribute [local irreducible] VO VC VA
structure pO(Fr:Nat→Prop)(w:World)(a:Option Addr)(X:List rO):Prop where
 rows:aI jI 30 Fr w a X
 Wq:∀x∈X,aI ax 2 Fr w x.2.1 x.1.2.2
 len:X.length≤1000000
 ml:∀x∈X,x.1.2.2.length≤1000000
theorem SL{Fr:Nat→Prop}{w:World}{A:List HP}{a:Option Addr}{c:Nat}{X:List rO}(h:aL Fr (aJ iv 30 a X.length c (flat jI X)::(X.map jX++A)) w)(hl:X.length≤1000000)(hm:∀x∈X.map Prod.fst,x.2.2.length≤1000000):pO Fr w a X:=
 ⟨aI.aJ ud (h.at_ 0 rfl),fun x hx=>by
  obtain⟨i,hi,rfl⟩:=List.getElem_of_mem hx
  exact aI.aJ aF (h.at_ (1+i) (by rw[show 1+i=i+1 from by omega,Z',List.getElem?_append_left (by rw[Zm];exact hi),Zn,GE hi];rfl)),hl,fun x hx=>hm x.1 (Zv.2 ⟨x,hx,Z⟩)⟩
theorem EC(from_:Int)(l:ba)(S:List nY)(s:nY):bW from_ l (S ++ [s])=pY from_ (bW from_ l S) s:=by unfold bW;rw[List.foldl_append];rfl
theorem ba.Ok.pY{S:ba}(ok:S.Ok)(from_:Int)(s:nY):(Cl.pY from_ S s).Ok:=by
 unfold Cl.pY
 split
 ·exact ok
 ·exact ok.send _ _
theorem ba.Ok.bW(from_:Int):∀(l:List nY) {S:ba},S.Ok→(Cl.bW from_ S l).Ok
 | [],_,ok=>ok
 | s::l,S,ok=>ba.Ok.bW from_ l (ok.pY from_ s)
theorem Jw(x:rO):((jI x).drop 1).take 29=x.1.2.1.cells (x.2.1,x.1.2.2.length,x.2.2):=rfl
theorem ee{p:Nat}{C:av}{y:iy}{S:ba}(h:eQ Fr w p (nI C y))(ok:S.Ok)(from_:Int){a:Option Addr}{c:Nat}{X:List rO}(hX:pO Fr w a X):aH Tryz.prog 59 [.pointer (some ⟨p,0,none⟩),.int .i64 from_,.slice a X.length c] Fr w [eG y.lp S]
  (fun v L=>v=.tuple #[]∧L=[eG y.lp (bW from_ S (X.map Prod.fst))]):=by
 have hlen:=hX.len
 refine TF 35 Tryz.func59 Z yn ah Z Z ?_
 refine aK ?_
 refine VC.loop (σ:=Nat) (fun k=>[(0,pV p),(1,.int .i64 from_),(10,.slice a X.length c),(11,.int .i64 X.length),(12,.int .i64 (k:Int))]) (fun k=>[eG y.lp (bW from_ S ((X.take k).map Prod.fst))]) (fun k=>k≤X.length) (fun k=>X.length-k) 0
  (Zj _) bd ER ?_
 rintro k hk
 refine aK ?_
 refine CP (p:=(k:Int)<X.length) Z (fun h1=>CK ?_) (fun h1=>CX ?_)
 rotate_left
 ·obtain rfl:k=X.length:=by omega
  exact ay.void Z ER ⟨rfl,by rw[ZF]⟩
 have hkl:k<X.length:=by omega
 have hx:X[k]?=some X[k]:=GE hkl
 have hxm:X[k]∈X:=List.getElem_mem hkl
 generalize X[k]=x at hx hxm
 obtain⟨xb,xo,rfl,ra,rc⟩:=aI.rd (X:=⟨Tryz.prog,tab,ah,35,Fr,w⟩) hX.rows hx
 have okk:(bW from_ S ((X.take k).map Prod.fst)).Ok:=ba.Ok.bW from_ _ ok
 have htk:(X.take (k+1)).map Prod.fst=(X.take k).map Prod.fst ++ [x.1]:=by
  rw[Zu,hx,ZL];rfl
 have hxml:=hX.ml x hxm
 refine aK ?_
 refine Vs ?_
 refine HG ?_
 refine VG (VO.alloc Z fun sb=>?_)
 refine VG (VT (vs:=jI x) (cs':=jI x) 0 Z Z Z Z (NR _) Z Z Z ?_)
 refine aK ?_
 refine VG (VL 0 (x.1.2.1.cells (x.2.1,x.1.2.2.length,x.2.2)) Z Z Z (Jw x) ?_)
 refine VG (VO.c_ (φ:=YL (Ba x.1.2.1 x.1.2.2)) (fun Fr w hF hw _=>G8 Fr w ((hX.Wq x hxm).of hF hw) hxml) Z ?_)
 intro v hv
 have fin:∀S',S'=pY from_ (bW from_ S ((X.take k).map Prod.fst)) x.1→S'=bW from_ S ((X.take (k+1)).map Prod.fst):=fun S' h=>by rw[htk,EC,h]
 cases hp:Ba x.1.2.1 x.1.2.2 with
 | none=>
  rw[hp] at hv
  obtain⟨e,he,rfl⟩:=hv
  have h1:=fin (bW from_ S ((X.take k).map Prod.fst)) (by unfold pY;rw[hp])
  refine aK ?_
  refine CE Z (fun k0=>absurd k0 he) (fun _=>CK ?_)
  refine aK ?_
  refine JY ?_
  refine aK ?_
  exact Yn
 | some t=>
  rw[hp] at hv
  obtain rfl:=hv
  have h1:=fin ((bW from_ S ((X.take k).map Prod.fst)).send (from_,x.1.1) (bT t)) (by unfold pY;rw[hp])
  refine wv ?_
  refine CD (ts 0 9 (.only 9 .nil)) yn yr ?_
  refine TE ?_
  refine AG (AI Z (LB (pv:=[(0,.int .i64 from_),(1,.int .i64 x.1.1),(2,.string (bT t))]) (dw from_ x.1.1 (bT t)) Z Z Z yn Z) ?_)
  refine AG (AQ 1 Z (fun Fr w hF hs hS=>vP Fr w okk from_ x.1.1 (bT t)) Z Z (ψ:=fun v H=>v=.int .i64 ((bW from_ S ((X.take k).map Prod.fst)).ju (from_,x.1.1) (bT t))∧H=eG y.lp ((bW from_ S ((X.take k).map Prod.fst)).send (from_,x.1.1) (bT t))) yy ?_ ?_)
  ·rintro _ _ ⟨rfl,rfl⟩
   exact(by(try refine Pd.st ?_);(repeat(first|exact Pd.nil|exact Pd.fnil|refine Pd.inner ?_|refine Pd.skip yr ?_|refine zf (zo 0 Z Z) ?_|refine zf (zo 1 Z Z) ?_|refine zf (zm 0 Z Z) ?_|refine zf (zm 1 Z Z) ?_|refine zf (aE.aP h Z) ?_|refine zf (h) ?_|refine zc (zo 0 Z Z) ?_|refine zc (zo 1 Z Z) ?_|refine zc (zm 0 Z Z) ?_|refine zc (zm 1 Z Z) ?_|refine zc (aE.aP h Z) ?_|refine zc (h) ?_)))
  rintro _ _ ⟨rfl,rfl⟩
  refine ji ?_
  refine aK ?_
  refine JY ?_
  refine aK ?_
  exact Yn
end Cl
namespace Cl
open Go Vg T Api Ch Rep Conf Lg Rd
attribute [local irreducible] VO VC VA
theorem vS(e:Int)(l:List aa)(r:Int):(refs e l r).length=l.length:=by rw[refs,Zm]
theorem Jx{R:au}(h:R.Ok)(now:Int):(gK R now).2.length≤300000:=by
 have h1:(lJ R now).length≤16:=by
  unfold lJ
  rw[vS,Zm]
  have:=Z1 (fun y=>!pW now y) R.bC.l
  have:=h.rl
  have:=h.sG
  omega
 have h2:(step2 R now).2.length≤65*4200:=by
  unfold step2
  split
  ·exact lK now 65 (tW h now)
  ·simp
 have h3:(iV R now).2.length≤4200:=by
  unfold iV
  split
  ·show(cX _ _).2.length≤_
   have ok2:=(rC h now).win
   have:=ok2.gS
   have:=ok2.fY
   rw[sI]
   unfold il
   omega
  ·simp
 show List.length (_++_++_)≤_
 rw[Zh,Zh]
 omega
theorem pd(R:au):(iW R).2.length≤5:=by
 have gl:=ky R
 have bl:=sH R
 have ml:R.gX.length=1:=rfl
 have x1:(if (!R.bC.l.isEmpty)=true then [((16:Int),fZ R.ch.al R.bC.nP)] else []).length≤1:=by split<;>simp
 have x2:(if R.dD=true∧R.win.done=R.win.last then [((16:Int),js R.ch.al)] else []).length≤1:=by split<;>simp
 show List.length (_++_++_++_++_)≤_
 rw[Zh,Zh,Zh,Zh]
 omega
theorem Hc{R:au}(h:R.Fit){c:dL}(hc:BA c):(oO R c).2.length≤5000:=by
 have h1:(BJ R c).length≤80:=by
  unfold BJ
  rw[Zh,vS,vS,Zm]
  have:=rA h.ok nk
  have:=h.ok.rl
  have:=h.ok.sG
  omega
 have h2:=jq (zO h.ok hc h.eS h.gR)
 have h3:=ky (f_ R c).bg
 have h4:=sH (f_ R c).bg
 have h5:(f_ R c).bg.gX.length=1:=rfl
 show List.length (_++_++_++_++_)≤_
 rw[Zh,Zh,Zh,Zh]
 omega
theorem mL{R:au}(h:R.Fit)(from_:Int)(f:aa)(ms:List bG)(now:Int):(cz R from_ f ms now).2.length≤5000:=by
 unfold cz
 split
 ·split
  ·simp
  split
  ·simp
  split
  ·unfold eJ;split<;>simp
  ·unfold iM;split<;>(try split)<;>(try split)<;>simp
 split
 ·split
  ·rename_i h1;exact Hc h ⟨by have:=zT h1.1.2;omega⟩
  ·simp
 split
 ·split
  ·unfold fI
   have g1:=ky R
   have g2:=ky (fq R f.entry).bg.eF
   have g3:=oJ (fq R f.entry).bg
   split
   ·rename_i h1
    have g4:=jq (mm h.ok (e:=f.entry) h1.2 (uP h1.1))
    show List.length (_++_++_)≤_
    rw[Zh,Zh]
    omega
   ·show R.dU.length≤_;omega
  ·simp
 split
 ·split
  ·show(if _ then _ else _:List dd).length≤_
   split
   ·have:=ky { oK R f with win:=(oK R f).win.Df f.index };omega
   ·simp
  ·simp
 split
 ·split
  ·have:=oJ (oP R f.index);show(au.iL _).length≤_;omega
  ·simp
 split
 ·split
  ·show(xv R f.index).length≤_
   unfold xv
   rw[Zm]
   have:=Z1 (fun y=>!jD f.index y) R.bC.l
   have:=h.ok.rl
   have:=h.ok.sG
   omega
  ·simp
 ·simp
theorem N5(S:List dd):(sJ S).length=S.length:=Zm ..
theorem QE(S:List dd):∀x∈sJ S,x.2.2.length≤7:=fun x hx=>by
 obtain⟨y,_,rfl⟩:=Zv.1 hx
 exact Zj _
structure gw(S:List nY):Prop where
 n:S.length≤300000
 m:∀x∈S,x.2.2.length≤7
theorem gw.of{S:List dd}(h:S.length≤300000):gw (sJ S):=⟨by rw[N5];exact h,QE S⟩
theorem gw.nil:gw []:=⟨by decide,fun _ h=>absurd h ZO⟩
theorem gw.one{toQ:Int}{f:aa}{ms:List bG}(h:ms.length≤7):gw [(toQ,f,ms)]:=⟨by show 1≤300000;omega,fun x hx=>by rw[ZC.1 hx];exact h⟩
theorem aC.Ok.r4{M:aC}(ok:M.Ok):gw M.all:=⟨by have:=ok.n1;unfold aC.all;rw[Zm,List.length_range];omega,fun x hx=>by
 obtain⟨n,_,rfl⟩:=Zv.1 hx
 exact ok.ml⟩
theorem aC.Ok.mL{M:aC}(ok:M.Ok)(from_:Int)(f:aa)(now:Int):gw (M.take from_ f now).2:=by
 have c1:∀n,gw [jR M.ch n]:=fun n=>gw.one ok.ml
 have c2:∀n,(M.cV n now).ch=M.ch:=fun _=>rfl
 unfold aC.take
 split
 ·exact c1 _
 split
 ·exact .nil
 split
 ·split
  ·exact c1 _
  split<;>exact .nil
 split
 ·split
  ·exact c1 _
  split
  ·exact gw.one (Zj _)
  ·exact .nil
 split
 ·split
  ·rename_i h;exact(ok.gone h.2.2).r4
  ·exact .nil
 ·exact .nil
theorem aC.Ok.pd{M:aC}(ok:M.Ok)(now:Int):gw (M.tick now).2:=by
 have:=(ok.tick now).r4
 unfold aC.tick at this ⊢
 dsimp only at this ⊢
 split
 ·exact this
 ·exact .nil
theorem aC.Ok.tK{M:aC}(ok:M.Ok)(n:Int):gw (M.cW n).2.1∧(M.cW n).1.Ok:=by
 unfold aC.cW
 split
 ·exact⟨.nil,ok⟩
 split
 ·exact⟨.nil,ok⟩
 ·rename_i h
  have:=ok.gone (n:=n) yc
  exact⟨this.r4,this⟩
theorem aC.Ok.xZ{M:aC}(ok:M.Ok)(n:Int):gw (M.drain n).2.1∧(M.drain n).1.Ok:=by
 unfold aC.drain
 split
 ·exact⟨.nil,ok⟩
 split
 ·exact⟨.nil,ok⟩
 ·rename_i h
  have:=ok.fW (n:=n) yc
  exact⟨this.r4,this⟩
theorem aC.Ok.CJ{M:aC}(ok:M.Ok)(n now:Int):gw (M.join n now).2.1∧(M.join n now).1.Ok:=by
 unfold aC.join
 split
 ·exact⟨.nil,ok⟩
 split
 ·exact⟨.nil,ok⟩
 ·rename_i h
  have:=ok.gN (n:=n) yc now
  exact⟨this.r4,this⟩
theorem nJ:gw Qf:=gw.one (Zj _)
theorem FF(s:aN)(now:Int):gw (s.cn now).2:=gw.one (Zj _)
theorem vT(s:aN)(r now:Int):gw (s.nu r now).2:=by
 unfold aN.nu aN.giveUp
 split
 ·exact nJ
 split
 ·exact .nil
 ·exact nJ
theorem aN.Jy(s:aN)(o:e8)(cl d now:Int):gw (s.call o cl d now).2:=by
 unfold aN.call
 split
 ·exact .nil
 split
 ·exact FF _ _
 ·exact nJ
theorem aN.pd(s:aN)(now:Int):gw (s.tick now).2:=by
 unfold aN.tick
 split
 ·split
  ·exact vT _ _ _
  ·exact .nil
 split
 ·split
  ·exact .nil
  split
  ·exact nJ
  ·exact nJ
 split
 ·split
  ·exact nJ
  ·exact .nil
 ·exact .nil
theorem aN.mL(s:aN)(f:aa)(ms:List bG)(now:Int):gw (s.take f ms now).2:=by
 unfold aN.take
 split
 ·split
  ·exact .nil
  split
  ·exact FF _ _
  ·exact .nil
 split
 ·split<;>exact .nil
 split
 ·split
  ·unfold aN.refused
   split
   ·exact vT _ _ _
   split
   ·exact nJ
   ·exact vT _ _ _
  ·exact .nil
 ·exact .nil
def SM(a:Option Addr)(c:Nat)(X:List rO):HP:=cT (aJ iv 30 a X.length c (flat jI X)::X.map jX)
def pf(H:HP)(a:Option Addr)(c:Nat)(X:List rO):HP:=cT [H,SM a c X]
def QF(S:List nY)(H:HP)(v:Value)(K:HP):Prop:=∃(X:List rO) (a:Option Addr) (c:Nat),X.map Prod.fst=S∧v=.slice a X.length c∧K=pf H a c X
def QG(S:List nY)(e:Int)(H:HP)(v:Value)(K:HP):Prop:=∃(X:List rO) (a:Option Addr) (c:Nat),X.map Prod.fst=S∧v=.tuple #[.slice a X.length c,.int .i64 e]∧K=pf H a c X
def p_(S:List nY)(H:HP)(v:Value)(L:List HP):Prop:=∃K,L=[K]∧QF S H v K
def CL(S:List nY)(e:Int)(H:HP)(v:Value)(L:List HP):Prop:=∃K,L=[K]∧QG S e H v K
theorem pO.at_{Fr:Nat→Prop}{w:World}{L:List HP}{a:Option Addr}{c:Nat}{X:List rO}{S:List nY}(i:Nat){H:HP}(h:aL Fr L w)(hL:L[i]?=some (pf H a c X))(hX:X.map Prod.fst=S)(hS:gw S):pO Fr w a X:=by
 subst hX
 have hh:=(((h.at_ i hL).sep).at_ 1 rfl).sep
 have hn:=hS.n
 rw[Zm] at hn
 exact SL (A:=[]) (c:=c) (by simpa using hh) yd (fun x hx=>by have:=hS.m x hx;omega)
def HE(S:List dd):List rO:=S.map fun x=>((x.1,x.2,[]),(none,0))
theorem N6(S:List dd):(HE S).map Prod.fst=sJ S:=by unfold HE sJ;rw[List.map_map];rfl
theorem FG(S:List dd):(HE S).length=S.length:=Zm ..
theorem Jz(S:List dd):flat jI (HE S)=flat wH S:=by
 unfold flat HE
 rw[List.map_map]
 rfl
theorem CM{L:List HP}:∀(S:List dd),ae L ((HE S).map jX)
 | []=>ae.nil
 | s::S=>by
  show ae L (aJ aG 2 none 0 0 []::(HE S).map jX)
  exact ae.bY (CM S)
theorem vU{S:List dd}{v:Value}{L:List HP}{H:HP}(h:dp S v L [H]):∃L2,p_ (sJ S) H v L2∧ae L L2:=by
 obtain⟨a,c,rfl,rfl⟩:=h
 refine⟨[pf H a c (HE S)],⟨_,Z,HE S,a,c,N6 S,by rw[FG],Z⟩,ae.sep (ae.cons (ae.sep ?_))⟩
 show ae [_] ((aJ iv 30 a (HE S).length c (flat jI (HE S))::List.map jX (HE S)) ++ [])
 rw[Zi,FG,Jz]
 exact ae.cons (CM S)
theorem pG{S:List nY}{v:Value}{L:List HP}{H:HP}(h:kG S v L [H]):∃L2,p_ S H v L2∧ae L L2:=by
 obtain⟨X,a,c,e,rfl,rfl⟩:=h
 exact Yo
theorem ae.tail{H:HP}{L:List HP}:ae (H::L) L:=ae.app (L:=[H]) (M:=[]) ae.nil ae.refl
theorem ia{H:HP}{a:Option Addr}{c:Nat}{X:List rO}{L:List HP}:ae (pf H a c X::L) (H::L):=ae.E2 (ae.cons ae.tail)
theorem pH{S:List nY}{e:Int}{v:Value}{L:List HP}{H:HP}(h:xV S e v L [H]):∃L2,CL S e H v L2∧ae L L2:=by
 obtain⟨X,a,c,e,rfl,rfl⟩:=h
 exact Yo
section
variable {α:Type} {f:α→HP} {l:List α} {k:Nat} {x:α}
theorem pI{A:List HP}(h:l[k]?=some x):ae (cT (l.map f)::A) (f x::cT ((l.eraseIdx k).map f)::A):=by
 have e1:(l.map f)[k]?=some (f x):=by rw[Zn,h];rfl
 have e2:(l.map f).eraseIdx k=(l.eraseIdx k).map f:=(map_eraseIdx f l k).symm
 refine ae.E2 (ae.trans (ae.app (M:=f x::(l.eraseIdx k).map f) (ae.perm ?_) ae.refl) ?_)
 ·have:=bJ e1
  rwa[e2] at this
 ·exact ae.cons (ae.sep ae.refl)
theorem r5{A:List HP}(h:k<l.length)(y:α):ae (f y::cT ((l.eraseIdx k).map f)::A) (cT ((l.set k y).map f)::A):=by
 have e3:((l.set k y).map f)[k]?=some (f y):=by rw[Zn,ZG h];rfl
 have e4:((l.set k y).map f).eraseIdx k=(l.eraseIdx k).map f:=by rw[ZE,List.eraseIdx_set_eq,map_eraseIdx]
 have hp:=(bJ e3).symm
 rw[e4] at hp
 refine ae.sep ?_
 refine ae.trans (M:=(f y::(l.eraseIdx k).map f)++A) (ae.cons (ae.E2 ae.refl)) ?_
 exact ae.app (ae.perm hp) ae.refl
end
end Cl
namespace Cl
open Go Vg T Api Ch Rep Conf Lg Rd
attribute [local irreducible] VO VC VA
theorem x_(R:au)(from_:Int)(f:aa)(ms:List bG)(now:Int):(cz R from_ f ms now).1.bC.last≤R.bC.last+1:=by
 have h:∀Q:au,Q.bC.last=R.bC.last→Q.bC.last≤R.bC.last+1:=fun Q h=>by omega
 unfold cz
 split
 ·split
  ·exact h _ rfl
  split
  ·exact h _ rfl
  split
  ·unfold eJ
   split
   ·exact h _ rfl
   ·show(R.bC.put _ _).last≤_
    unfold gq.put;split
    ·exact Zz _
    ·omega
  ·refine h _ ?_
   unfold iM
   split
   ·rfl
   split
   ·rfl
   split<;>rfl
 split
 ·split
  ·refine h _ ?_
   show(Rep.f_ R (u0 f ms)).bg.bC.last=_
   unfold au.bg
   split<;>(unfold Rep.f_;split<;>rfl)
  ·exact h _ rfl
 split
 ·split
  ·refine h _ ?_
   unfold fI
   split
   ·show(Rep.fq R f.entry).bg.eF.bC.last=_
    unfold au.eF
    split<;>(unfold au.bg;split<;>rfl)
   ·rfl
  ·exact h _ rfl
 split
 ·split
  ·refine h _ ?_
   show(Rep.oK R f).bC.last=_
   unfold Rep.oK Rep.jh;dsimp only;split<;>rfl
  ·exact h _ rfl
 split
 ·split
  ·refine h _ ?_;unfold au.eF;split<;>rfl
  ·exact h _ rfl
 split
 ·split<;>exact h _ rfl
 ·exact h _ rfl
theorem Hd(R:au)(now:Int):(gK R now).1.bC.last=R.bC.last:=by
 have hs:∀R:au,(dv R now).1.bC=R.bC:=fun R=>by
  unfold dv
  split
  ·rfl
  split
  ·rfl
  ·unfold au.bg;split<;>rfl
 have hl:∀(k:Nat) (R:au),(cP now k R).1.bC=R.bC:=by
  intro k
  induction k with
  | zero=>intro R;rfl
  | succ k ih=>
   intro R
   unfold cP
   split
   ·split
    ·rw[ih,hs]
    ·exact hs R
   ·rfl
 have h2:(step2 R now).1.bC.last=R.bC.last:=by
  unfold Rep.step2
  split
  ·rw[hl];rfl
  ·rfl
 show(iV R now).1.bC.last=_
 unfold iV
 split
 ·exact h2
 ·exact h2
theorem He(R:au):(iW R).1.bC.last=R.bC.last:=by
 show(dO R).bC.last=_
 unfold dO;split<;>rfl
theorem vV(s:aN)(r now:Int):(s.nu r now).1.seq=s.seq:=by
 unfold aN.nu aN.giveUp aN.Fg aN.wI
 split
 ·rfl
 split<;>rfl
theorem Hf(s:aN)(now:Int):(s.tick now).1.seq=s.seq:=by
 unfold aN.tick
 split
 ·split
  ·exact vV _ _ _
  ·rfl
 split
 ·split
  ·rfl
  split<;>rfl
 split
 ·split<;>rfl
 ·rfl
theorem Hg(s:aN)(f:aa)(ms:List bG)(now:Int):(s.take f ms now).1.seq=s.seq:=by
 unfold aN.take
 split
 ·split
  ·rfl
  split<;>rfl
 split
 ·split<;>rfl
 split
 ·split
  ·unfold aN.refused
   split
   ·exact vV _ _ _
   split
   ·rfl
   ·exact vV _ _ _
  ·rfl
 ·rfl
theorem yA(s:aN)(o:e8)(cl d now:Int):(s.call o cl d now).1.seq≤s.seq+1:=by
 unfold aN.call
 split
 ·show s.seq≤_;omega
 split<;>exact Zz _
theorem Hh(S:bK)(c seq:Int)(o:e8):(S.call c seq o).bw.length≤S.bw.length+1∧(S.call c seq o).events≤S.events+1:=by
 unfold bK.call
 split
 ·exact⟨by omega,by omega⟩
 ·exact⟨by simp,Zz _⟩
theorem CO(S:bK)(c seq:Int)(o:gk):(S.end_ c seq o).bw.length=S.bw.length∧(S.end_ c seq o).events≤S.events+1:=by
 unfold bK.end_
 split
 ·exact⟨rfl,by omega⟩
 split
 ·exact⟨rfl,by omega⟩
 split
 ·exact⟨rfl,by omega⟩
 ·exact⟨ZB,Zz _⟩
theorem ot{κ α:Type}[DecidableEq κ]{a:κ}{v:α}:∀{l:List (κ×α)},dP l a=some v→(a,v)∈l
 | [],h=>by cases h
 | (k,u)::r,h=>by
  simp only[dP] at h
  split at h
  ·rename_i e;cases h;rw[e];exact Z_ ..
  ·exact ZK _ (ot h)
theorem CQ{κ α:Type}[DecidableEq κ]{a:κ}:∀{l:List (κ×α)} {x:κ×α},x∈iA l a→x∈l
 | [],x,h=>by cases h
 | (k,u)::r,x,h=>by
  simp only[iA] at h
  split at h
  ·exact ZK _ h
  ·rcases Zt.1 h with h | h
   ·rw[h];exact Z_ ..
   ·exact ZK _ (CQ h)
namespace ba.CH
variable {S:ba}
theorem put(h:S.CH){p:oe}(h1:jS p.1=true)(h2:jS p.2=true)(l:List ByteArray):({ S with fX:=eE S.fX p l }:ba).CH:=fun x hx=>by
 rcases vO hx with h3 | h3
 ·exact h x h3
 ·rw[h3];exact⟨h1,h2⟩
theorem send(h:S.CH)(p:oe)(t:ByteArray):(S.send p t).CH:=by
 unfold ba.send
 split
 ·exact h
 ·rename_i h0
  have h0:S.ju p t=0:=by simpa using h0
  have:¬(jS p.1=false∨jS p.2=false∨p.1=p.2):=fun g=>by unfold ba.ju at h0;rw[if_pos g] at h0;cases h0
  exact h.put (by cases hh:jS p.1<;>simp_all) (by cases hh:jS p.2<;>simp_all) _
theorem found(h:S.CH){p:oe}{i:Int}{t:ByteArray}(hf:S.find p i=some t):jS p.1=true∧jS p.2=true:=by
 unfold ba.find ba.list at hf
 split at hf
 ·cases hf
 ·cases hg:dP S.fX p with
  | none=>rw[hg] at hf;cases hf
  | some l=>exact h _ (ot hg)
theorem eR(h:S.CH){p:oe}{i:Int}{t:ByteArray}(hf:S.find p i=some t):(S.eR p i).CH:=by
 have:=h.found hf
 unfold ba.eR
 split
 ·exact fun x hx=>(h.put this.1 this.2 _) x (CQ hx)
 ·exact h.put this.1 this.2 _
theorem drop(h:S.CH)(p:oe)(i:Int):(S.drop p i).1.CH:=by
 unfold ba.drop
 split
 ·exact h
 ·rename_i hf
  cases hg:S.find p i with
  | none=>exact absurd hg hf
  | some t=>exact h.eR hg
theorem double(h:S.CH)(p:oe)(i:Int):(S.double p i).1.CH:=by
 unfold ba.double
 split
 ·exact h
 ·exact h.send _ _
theorem bW(h:S.CH)(from_:Int)(l:List nY):(Cl.bW from_ S l).CH:=by
 unfold Cl.bW
 induction l generalizing S with
 | nil=>exact h
 | cons s l ih=>
  refine ih ?_
  unfold pY
  split
  ·exact h
  ·exact h.send _ _
end ba.CH
theorem O1{a:Int}(h:jS a=true):0≤a∧a<38:=by
 unfold jS at h
 simp only[Bool.or_eq_true,Zx,decide_eq_true_eq] at h
 omega
namespace av.Ok
variable {C:av} {b e:Nat}
theorem mono(h:C.Ok b e){b' e':Nat}(hb:b≤b')(he:e≤e'):C.Ok b' e' where
 cf:=h.cf
 n0:=h.n0
 n1:=h.n1
 dk:=h.dk
 nl:=h.nl
 cl:=h.cl
 cB:=h.cB
 gx:=h.gx
 fit:=h.fit
 last r hr:=by have:=h.last r hr;omega
 CI:=h.CI
 seq s hs:=by have:=h.seq s hs;omega
 rc:=ZQ h.rc hb
 ev:=by have:=h.ev;omega
 dn:=h.dn
 FE:=h.FE
theorem CT(h:C.Ok b e){l:ba}(hl:l.Ok)(ha:l.CH):({ C with cB:=l }:av).Ok b e:=⟨h.cf,h.n0,h.n1,h.dk,h.nl,h.cl,hl,h.gx,h.fit,h.last,h.CI,h.seq,h.rc,h.ev,h.dn,ha⟩
theorem vW(h:C.Ok b e){m:aC}(hm:m.Ok):({ C with dk:=m }:av).Ok b e:=⟨h.cf,h.n0,h.n1,hm,h.nl,h.cl,h.cB,h.gx,h.fit,h.last,h.CI,h.seq,h.rc,h.ev,h.dn,h.FE⟩
theorem at_(h:C.Ok b e):({ C with now:=min (C.now+1) 1099511627776 }:av).Ok b e:=⟨h.cf,by show 0≤min (C.now+1) 1099511627776;have:=h.n0;omega,by show min (C.now+1) 1099511627776≤1099511627776;omega,h.dk,h.nl,h.cl,h.cB,h.gx,h.fit,h.last,h.CI,h.seq,h.rc,h.ev,h.dn,h.FE⟩
theorem post(h:C.Ok b e)(from_:Int)(S:List nY):(C.post from_ S).Ok b e:=h.CT (h.cB.bW from_ S) (h.FE.bW from_ S)
theorem setNode(h:C.Ok b e)(n:Int){x:Option au}(hx:∀r,x=some r→r.Fit∧r.bC.last≤b):(C.setNode n x).Ok b e:=⟨h.cf,h.n0,h.n1,h.dk,by show(C.nodes.set _ _).length=_;rw[ZB];exact h.nl,h.cl,h.cB,h.gx,fun r hr=>by
 rcases ZT hr with h1 | h1
 ·exact h.fit r h1
 ·exact(hx r h1.symm).1,fun r hr=>by
 rcases ZT hr with h1 | h1
 ·exact h.last r h1
 ·exact(hx r h1.symm).2,h.CI,h.seq,h.rc,h.ev,h.dn,h.FE⟩
theorem node1(h:C.Ok b e)(n:Int){r:au}(h1:r.Fit)(h2:r.bC.last≤b):(C.setNode n (some r)).Ok b e:=h.setNode n fun r' e=>by cases e;exact⟨h1,h2⟩
theorem SO(h:C.Ok b e)(n:Int):(C.setNode n none).Ok b e:=h.setNode n fun r' e=>by cases e
theorem gv(h:C.Ok b e)(n:Int){s:aN}(h1:s.Ok)(h2:s.seq≤b):(C.gv n s).Ok b e:=⟨h.cf,h.n0,h.n1,h.dk,h.nl,by show(C.ff.set _ _).length=_;rw[ZB];exact h.cl,h.cB,h.gx,h.fit,h.last,fun x hx=>by
 rcases ZT hx with g | g
 ·exact h.CI x g
 ·rw[g];exact h1,fun x hx=>by
 rcases ZT hx with g | g
 ·exact h.seq x g
 ·rw[g];exact h2,h.rc,h.ev,h.dn,h.FE⟩
theorem SP(h:C.Ok b e){H:bK}(h1:H.Ok)(h2:H.bw.length≤b)(h3:H.events≤e):({ C with gx:=H }:av).Ok b e:=⟨h.cf,h.n0,h.n1,h.dk,h.nl,h.cl,h.cB,h1,h.fit,h.last,h.CI,h.seq,h2,h3,h.dn,h.FE⟩
theorem up(h:C.Ok b e){n:Int}{r:au}(hn:C.node n=some r):some r∈C.nodes:=by
 unfold av.node at hn
 split at hn
 ·cases hn
 ·cases hx:C.nodes[n.toNat]? with
  | none=>rw[hx] at hn;cases hn
  | some x=>rw[hx] at hn;obtain rfl:x=some r:=hn;exact ME hx
theorem YM(h:C.Ok b e){n:Int}{s:aN}(hn:C.pz n=some s):s∈C.ff:=by
 unfold av.pz at hn
 split at hn
 ·cases hn
 ·exact ME hn
theorem cu(h:C.Ok b e)(n:Nat):(C.cu n).Ok b e:=by
 unfold av.cu
 split
 ·exact h
 ·rename_i r hr
  have hm:some r∈C.nodes:=by
   cases hx:C.nodes[n]? with
   | none=>rw[hx] at hr;cases hr
   | some x=>rw[hx] at hr;obtain rfl:x=some r:=hr;exact ME hx
  exact(h.node1 n (Gv (h.fit r hm)) (by rw[He];exact h.last r hm)).post _ _
theorem mn(h:C.Ok b e)(n:Nat):(C.mn n).Ok b e:=by
 unfold av.mn
 split
 ·exact h
 ·rename_i s hs
  have hm:s∈C.ff:=ME hs
  exact(h.gv n ((h.CI s hm).tick C.now) (by rw[Hf];exact h.seq s hm)).post _ _
theorem JA(h:C.Ok b e)(l:List Nat):(l.foldl av.cu C).Ok b e:=by
 induction l generalizing C with
 | nil=>exact h
 | cons x l ih=>exact ih (h.cu x)
theorem JB(h:C.Ok b e)(l:List Nat):(l.foldl av.mn C).Ok b e:=by
 induction l generalizing C with
 | nil=>exact h
 | cons x l ih=>exact ih (h.mn x)
theorem tick(h:C.Ok b e):C.tick.Ok b e:=(h.at_.JA _).JB _
theorem lh(h:C.Ok b e)(hb:b<100000000)(from_ toQ:Int)(f:aa)(ms:List bG):(C.lh from_ toQ f ms).Ok (b+1) e:=by
 have h':=h.mono (b':=b+1) yd (NR e)
 unfold av.lh
 split
 ·exact(h'.vW (h.dk.take _ _ _)).post _ _
 split
 ·rename_i r hr
  have hm:=h.up hr
  have hl:=h.last r hm
  exact(h'.node1 _ (xw (h.fit r hm) yd _ _ _ _) (by have:=x_ r from_ f ms C.now;omega)).post _ _
 split
 ·rename_i s hs
  have hm:=h.YM hs
  exact(h'.gv _ ((h.CI s hm).take f ms C.now) (by rw[Hg];exact h'.seq s hm)).post _ _
 ·exact h'
theorem OO(h:C.Ok b e)(hb:b<100000000)(from_ toQ:Int)(t:ByteArray):(C.OO from_ toQ t).Ok (b+1) e:=by
 unfold av.OO
 split
 ·exact h.lh hb _ _ _ _
 ·exact h.mono yd (NR e)
theorem r6{l:ba}{p:oe}{i:Int}{t:ByteArray}(h:l.find p i=some t):l.eR p i=(l.drop p i).1:=by
 unfold ba.drop
 rw[if_neg (by rw[h];intro g;cases g)]
theorem fB(h:C.Ok b e)(hb:b<100000000)(p:oe)(i:Int):(C.fB p i).1.Ok (b+1) e:=by
 unfold av.fB
 split
 ·exact h.mono yd (NR e)
 ·rename_i t ht
  have:(C.cB.eR p i).Ok:=by rw[r6 ht];exact h.cB.drop p i
  exact(h.CT this (h.FE.eR ht)).OO hb _ _ _
theorem back(h:C.Ok b e)(hb:b<100000000)(n:Int):(C.back n).Ok (b+1) e:=by
 have h':=h.mono (b':=b+1) yd (NR e)
 unfold av.back
 split
 ·have hf:=uZ h.cf n true
  have hl:(fu C.iS n true).bC.last=0:=by
   unfold fu;split
   ·rfl
   split<;>rfl
  exact(h'.node1 _ (xw hf yd _ _ _ _) (by have:=x_ (fu C.iS n true) 16 (oQ C.dk.ch) C.dk.ch.ms C.now;omega)).post _ _
 ·exact h'
theorem join(h:C.Ok b e)(hb:b<100000000)(n:Int):(C.join n).1.Ok (b+1) e:=by
 unfold av.join
 dsimp only
 split
 ·exact h.mono yd (NR e)
 ·exact((h.vW (h.dk.CJ n C.now).2).back hb n).post _ _
theorem call(h:C.Ok b e)(hb:b<100000)(he:e<1000000)(s:gi):(C.call s).1.Ok (b+1) (e+1):=by
 have h':=h.mono (b':=b+1) (e':=e+1) yd yd
 unfold av.call
 split
 ·exact h'
 ·rename_i x hx
  have hm:=h.YM hx
  split
  ·exact h'
  ·have h1:=h.rc
   have h2:=h.ev
   have h3:=h.seq x hm
   have h4:=yA x s.op s.b (C.dead s.c) C.now
   have h5:=Hh C.gx s.a (x.call s.op s.b (C.dead s.c) C.now).1.seq s.op
   exact((h'.gv s.a ((h.CI x hm).call _ _ _ _) yd).SP (h.gx.call yd yd s.a (x.call s.op s.b (C.dead s.c) C.now).1.seq s.op) yd yd).post _ _
theorem step(h:C.Ok b e)(hb:b<100000)(he:e<1000000)(s:gi):(C.step s).1.Ok (b+1) (e+1):=by
 have h':=h.mono (b':=b+1) (e':=e+1) yd yd
 have up1:∀{D:av},D.Ok (b+1) e→D.Ok (b+1) (e+1):=fun g=>g.mono (NR _) yd
 unfold av.step
 by_cases k1:s.kind=1
 ·rw[if_pos k1]
  exact h.call hb he s
 rw[if_neg k1]
 by_cases k2:s.kind=2
 ·rw[if_pos k2]
  split
  ·exact h'
  ·rename_i r hr
   have hm:=h.up hr
   exact(h'.node1 _ (Gu (h.fit r hm) C.now) (by rw[Hd];exact h'.last r hm)).post _ _
 rw[if_neg k2]
 by_cases k3:s.kind=3
 ·rw[if_pos k3]
  exact h'.tick
 rw[if_neg k3]
 by_cases k4:s.kind=4
 ·rw[if_pos k4]
  exact up1 (h.fB yd _ _)
 rw[if_neg k4]
 by_cases k5:s.kind=5
 ·rw[if_pos k5]
  exact h'.CT (h.cB.drop _ _) (h.FE.drop _ _)
 rw[if_neg k5]
 by_cases k6:s.kind=6
 ·rw[if_pos k6]
  exact h'.CT (h.cB.double _ _) (h.FE.double _ _)
 rw[if_neg k6]
 by_cases k7:s.kind=7
 ·rw[if_pos k7]
  split
  ·exact h'
  ·exact h'.SO _
 rw[if_neg k7]
 by_cases k8:s.kind=8
 ·rw[if_pos k8]
  exact(h'.vW (h.dk.tK s.a).2).post _ _
 rw[if_neg k8]
 by_cases k9:s.kind=9
 ·rw[if_pos k9]
  exact up1 (h.join yd s.a)
 rw[if_neg k9]
 by_cases k10:s.kind=10
 ·rw[if_pos k10]
  exact(h'.vW (h.dk.xZ s.a).2).post _ _
 rw[if_neg k10]
 by_cases k11:s.kind=11
 ·rw[if_pos k11]
  exact(h'.vW (h.dk.tick C.now)).post _ _
 rw[if_neg k11]
 exact h'
theorem JC{H:bK}(h:H.Ok):∀(l:List (aN×Nat)),H.events+l.length<10000000→(l.foldl rE H).Ok∧(l.foldl rE H).bw.length=H.bw.length∧(l.foldl rE H).events≤H.events+l.length
 | [],_=>⟨h,rfl,by simp⟩
 | x::l,hl=>by
  rw[Zs] at hl
  rw[List.foldl_cons,Zs]
  have key:∃K,rE H x=K∧K.Ok∧K.bw.length=H.bw.length∧K.events≤H.events+1:=by
   unfold rE
   split
   ·exact⟨_,Z,h,Z,by omega⟩
   ·rename_i o ho
    exact⟨_,Z,h.end_ yd _ _ o,(CO H _ _ o).1,(CO H _ _ o).2⟩
  obtain⟨K,e1,e2,e3,e4⟩:=key
  rw[e1]
  have:=JC e2 l yd
  exact⟨this.1,by rw[this.2.1,e3],by have:=this.2.2;omega⟩
theorem Hi{d:List aY}{x:Option au×Nat}(hd:d.length≤4096)(hx:∀r,x.1=some r→r.Fit):(im d x).length≤4096:=by
 unfold im
 split
 ·exact hd
 ·rename_i r hr
  split
  ·exact hd
  ·have hf:=(hx r hr).ok
   have:=hf.win.gS
   have:=hf.win.jM
   rw[Zh,Z7,Zw]
   omega
theorem JD{l:List (Option au×Nat)}{d:List aY}(hd:d.length≤4096)(hx:∀x∈l,∀r,x.1=some r→r.Fit):(l.foldl im d).length≤4096:=by
 induction l generalizing d with
 | nil=>exact hd
 | cons x l ih=>exact ih (Hi hd (hx x yf)) (fun y hy=>hx y (by simp[hy]))
theorem ff(h:C.Ok b e):C.ff.length≤6:=by
 have:=cN h.cf
 rw[h.cl]
 omega
theorem QH(h:C.Ok b e):C.nodes.length≤6:=by
 have:=cN h.cf
 rw[h.nl]
 omega
theorem behind(h:C.Ok b e)(he:e<1000000):C.behind.Ok b (e+6):=by
 have hc:=h.ff
 have h2:=h.ev
 have key:=JC h.gx C.ff.zipIdx (by rw[List.length_zipIdx];omega)
 rw[List.length_zipIdx] at key
 have h':=(h.mono (b':=b) (e':=e+6) (NR b) yd).SP key.1 (by rw[key.2.1];exact h.rc) (by have:=key.2.2;omega)
 exact⟨h'.cf,h'.n0,h'.n1,h'.dk,h'.nl,h'.cl,h'.cB,h'.gx,h'.fit,h'.last,h'.CI,h'.seq,h'.rc,h'.ev,JD h.dn fun x hx r hr=>h.fit r (by
  have:x.1∈C.nodes:=by
   have:=List.mem_zipIdx' (x:=x.1) (i:=x.2) hx
   exact ME (by rw[GE this.1,←this.2])
  rw[hr] at this;exact this),h'.FE⟩
theorem lP(h:C.Ok b e)(hb:b<100000)(he:e<900000)(s:gi):(C.lP s).1.Ok (b+1) (e+7):=(h.step hb yd s).behind yd
end av.Ok
theorem FH{c:aX}(h:c=dy c):(gd c).Ok 0 0:=by
 have hb:=cN h
 have hb2:=iO h
 have hM:(u6 c).Ok:=Fu c h▸Cq h _
 exact⟨h,Zz _,by show(0:Int)≤_;decide,hM,by simp[gd],by simp[gd],⟨by show 1≤c.link;omega,hb2.2.2.2.2.1.2,fun x hx=>absurd hx ZO,List.nodup_nil⟩,
  ⟨by show 0≤1000000;omega,by show(0:Int)≤0;decide,by show(0:Int)≤10000000;decide,rfl,fun x hx=>by rw[List.eq_of_mem_replicate hx];exact⟨Zz _,Zz _⟩⟩,fun r hr=>by
   obtain⟨n,_,e⟩:=Zv.1 hr
   cases e;exact uZ h _ _,fun r hr=>by
   obtain⟨n,_,e⟩:=Zv.1 hr
   cases e
   have:(fu c n false).bC.last=0:=by
    unfold fu;split
    ·rfl
    split<;>rfl
   omega,fun s hs=>by
   obtain⟨n,_,rfl⟩:=Zv.1 hs
   exact Jj h n,fun s hs=>by
   obtain⟨n,_,rfl⟩:=Zv.1 hs
   exact Zz _,Zj _,Zz _,Zj _,fun x hx=>absurd hx ZO⟩
end Cl
namespace Cl
open Go Vg T Api Ch Rep Conf Lg Rd
attribute [local irreducible] VO VC VA
section
variable {p:Nat} {C:av} {y:iy}
def O2(p:Nat)(C:av)(y:iy)(k:Nat)(l:ba):List HP:=[pt p (nI C y) Ax,mg y.qa y.qc C.iS.qs,dh y.mp C.dk,pt y.nb (flat kN y.nr++y.nx) Ka,pt y.cb (flat rX y.cr++y.cx) N4,eG y.lp l,kJ y.hp C.gx,aJ iE 7 y.da C.done.length y.dc (flat cL C.done),cT ((y.nr.eraseIdx k).map kO),cT (y.cr.map rY)]
def O3(p:Nat)(C:av)(y:iy)(k:Nat)(l:ba)(h:bK):List HP:=[pt p (nI C y) Ax,mg y.qa y.qc C.iS.qs,dh y.mp C.dk,pt y.nb (flat kN y.nr++y.nx) Ka,pt y.cb (flat rX y.cr++y.cx) N4,eG y.lp l,kJ y.hp h,aJ iE 7 y.da C.done.length y.dc (flat cL C.done),cT (y.nr.map kO),cT ((y.cr.eraseIdx k).map rY)]
def O4(p:Nat)(C:av)(y:iy)(l:ba):List HP:=[pt p (nI C y) Ax,mg y.qa y.qc C.iS.qs,pt y.nb (flat kN y.nr++y.nx) Ka,pt y.cb (flat rX y.cr++y.cx) N4,eG y.lp l,kJ y.hp C.gx,aJ iE 7 y.da C.done.length y.dc (flat cL C.done),cT (y.nr.map kO),cT (y.cr.map rY)]
def iy.node(y:iy)(k:Nat)(x:Ay):iy:={ y with nr:=y.nr.set k x }
def iy.pz(y:iy)(k:Nat)(x:FD):iy:={ y with cr:=y.cr.set k x }
theorem vX{k q:Nat}{r:au}(h:y.nr[k]?=some (some (q,r))):ae (gO p C y) (bz q r::O2 p C y k C.cB):=
 ae.trans (IP 8 rfl ae.refl) (ae.trans (pI (f:=kO) h) (ae.cons (IP 1 rfl (IP 1 rfl (IP 1 rfl (IP 1 rfl (IP 1 rfl (IP 1 rfl (IP 1 rfl (IP 1 rfl ae.refl))))))))))
theorem AB{k q:Nat}{s:aN}(h:y.cr[k]?=some (q,s)):ae (gO p C y) (cw q s::O3 p C y k C.cB C.gx):=
 ae.trans (IP 9 rfl ae.refl) (ae.trans (pI (f:=rY) h) (ae.cons (IP 1 rfl (IP 1 rfl (IP 1 rfl (IP 1 rfl (IP 1 rfl (IP 1 rfl (IP 1 rfl (IP 1 rfl (IP 1 rfl ae.refl)))))))))))
theorem AD:ae (gO p C y) (dh y.mp C.dk::O4 p C y C.cB):=IP 2 rfl ae.refl
theorem CU{l:List Ay}{k q:Nat}{r r':au}(h:l[k]?=some (some (q,r))):flat kN (l.set k (some (q,r')))=flat kN l:=by
 have hk:=(Zk.1 h).1
 unfold flat
 rw[ZE]
 congr 1
 apply Z8
 intro j
 rw[List.getElem?_set]
 split
 ·rename_i e;subst e
  rw[if_pos (by rw[Zm];exact hk),Zn,h];rfl
 ·rfl
theorem JE{l:List FD}{k q:Nat}{s s':aN}(h:l[k]?=some (q,s)):flat rX (l.set k (q,s'))=flat rX l:=by
 have hk:=(Zk.1 h).1
 unfold flat
 rw[ZE]
 congr 1
 apply Z8
 intro j
 rw[List.getElem?_set]
 split
 ·rename_i e;subst e
  rw[if_pos (by rw[Zm];exact hk),Zn,h];rfl
 ·rfl
theorem vY(fit:dx C y)(k:Nat)(x:Ay)(l:ba):dx ({ C.setNode k (x.map Prod.snd) with cB:=l }:av) (y.node k x):=
 ⟨by show(y.nr.set k x).map _=C.nodes.set k _;rw[ZE,fit.nr],fit.cr,fit.qc⟩
theorem FI(fit:dx C y)(k:Nat)(x:FD)(l:ba)(h:bK):dx ({ C.gv k x.2 with cB:=l,gx:=h }:av) (y.pz k x):=
 ⟨fit.nr,by show(y.cr.set k x).map _=C.ff.set k _;rw[ZE,fit.cr],fit.qc⟩
theorem qL(C':av){k:Nat}{x:Ay}(h1:C'.iS=C.iS)(h2:C'.now=C.now)(h3:C'.done=C.done):nI C' (y.node k x)=nI C y:=by
 unfold nI iy.node
 rw[h1,h2,h3]
 dsimp only
 rw[ZB]
theorem Hj(C':av){k:Nat}{x:FD}(h1:C'.iS=C.iS)(h2:C'.now=C.now)(h3:C'.done=C.done):nI C' (y.pz k x)=nI C y:=by
 unfold nI iy.pz
 rw[h1,h2,h3]
 dsimp only
 rw[ZB]
theorem FJ{k q:Nat}{r r':au}{l:ba}(h:y.nr[k]?=some (some (q,r))):ae (bz q r'::O2 p C y k l) (gO p ({ C.setNode k (some r') with cB:=l }:av) (y.node k (some (q,r')))):=by
 have hk:=(Zk.1 h).1
 have e1:=qL (C:=C) (y:=y) (k:=k) (x:=some (q,r')) ({ C.setNode k (some r') with cB:=l }:av) rfl rfl rfl
 have e2:=CU (r':=r') h
 unfold gO
 rw[e1]
 show ae _ [_,_,_,pt y.nb (flat kN (y.nr.set k (some (q,r')))++y.nx) Ka,_,_,_,_,cT ((y.nr.set k (some (q,r'))).map kO),_]
 rw[e2]
 refine ae.trans (M:=bz q r'::cT ((y.nr.eraseIdx k).map kO)::_) (ae.cons (IP 8 Z ae.refl)) (ae.trans (r5 (f:=kO) hk (some (q,r'))) ?_)
 exact IP 1 Z (IP 1 Z (IP 1 Z (IP 1 Z (IP 1 Z (IP 1 Z (IP 1 Z (IP 1 Z ae.refl)))))))
theorem JF{k q:Nat}{s s':aN}{l:ba}{hi:bK}(h:y.cr[k]?=some (q,s)):ae (cw q s'::O3 p C y k l hi) (gO p ({ C.gv k s' with cB:=l,gx:=hi }:av) (y.pz k (q,s'))):=by
 have hk:=(Zk.1 h).1
 have e1:=Hj (C:=C) (y:=y) (k:=k) (x:=(q,s')) ({ C.gv k s' with cB:=l,gx:=hi }:av) rfl rfl rfl
 have e2:=JE (s':=s') h
 unfold gO
 rw[e1]
 show ae _ [_,_,_,_,pt y.cb (flat rX (y.cr.set k (q,s'))++y.cx) N4,_,_,_,_,cT ((y.cr.set k (q,s')).map rY)]
 rw[e2]
 refine ae.trans (M:=cw q s'::cT ((y.cr.eraseIdx k).map rY)::_) (ae.cons (IP 9 Z ae.refl)) (ae.trans (r5 (f:=rY) hk (q,s')) ?_)
 exact IP 1 Z (IP 1 Z (IP 1 Z (IP 1 Z (IP 1 Z (IP 1 Z (IP 1 Z (IP 1 Z (IP 1 Z ae.refl))))))))
theorem QI{m:aC}{l:ba}:ae (dh y.mp m::O4 p C y l) (gO p ({ C with dk:=m,cB:=l }:av) y):=IP 1 rfl (IP 1 rfl ae.refl)
theorem gf(fit:dx C y){R:List HP}:ae (gO p C y++R) [eY p C]:=ae.O0 (K:=[]) y fit (by rw[Zi];exact ae.trans (ae.app (M:=gO p C y) (M':=[]) ae.refl ae.nil) (ae.of_eq (Zi _)))
theorem yB(fit:dx C y){k q:Nat}{r r':au}{l:ba}{a:Option Addr}{c:Nat}{X:List rO}(h:y.nr[k]?=some (some (q,r))){R:List HP}:ae (pf (bz q r') a c X::(O2 p C y k l++R)) [eY p ({ C.setNode k (some r') with cB:=l }:av)]:=
 ae.trans ia (ae.trans (ae.app (L:=bz q r'::O2 p C y k l) (FJ h) ae.refl) (gf (vY fit k (some (q,r')) l)))
theorem vZ(fit:dx C y){k q:Nat}{s s':aN}{l:ba}{hi:bK}{a:Option Addr}{c:Nat}{X:List rO}(h:y.cr[k]?=some (q,s)){R:List HP}:ae (pf (cw q s') a c X::(O3 p C y k l hi++R)) [eY p ({ C.gv k s' with cB:=l,gx:=hi }:av)]:=
 ae.trans ia (ae.trans (ae.app (L:=cw q s'::O3 p C y k l hi) (JF h) ae.refl) (gf (FI fit k (q,s') l hi)))
theorem mM(fit:dx C y){m:aC}{l:ba}{a:Option Addr}{c:Nat}{X:List rO}{R:List HP}:ae (pf (dh y.mp m) a c X::(O4 p C y l++R)) [eY p ({ C with dk:=m,cB:=l }:av)]:=
 ae.trans ia (ae.trans (ae.app (L:=dh y.mp m::O4 p C y l) QI ae.refl) (gf (C:=({ C with dk:=m,cB:=l }:av)) ⟨fit.nr,fit.cr,fit.qc⟩))
end
section
variable {q:Nat}
theorem ED{r:au}(ok:r.Ok)(now:Int):aH Tryz.prog 60 [.pointer (some ⟨q,0,none⟩),.int .i64 now] Fr w [bz q r] (fun v L=>p_ (sJ (gK r now).2) (bz q (gK r now).1) v L):=Go.Proofs.YthnlpdacbcjgpaaGreatDoor.Ring.aH.drop (Gr Fr w ok now) fun _ _ h=>vU h
theorem EE{r:au}(ok:r.Ok)(now:Int):aH Tryz.prog 104 [.pointer (some ⟨q,0,none⟩),.int .i64 now] Fr w [bz q r] (fun v L=>p_ (sJ (iW r).2) (bz q (iW r).1) v L):=Go.Proofs.YthnlpdacbcjgpaaGreatDoor.Ring.aH.drop (Gw Fr w ok now) fun _ _ h=>vU h
theorem v7{r:au}(fit:r.Fit)(hlast:r.bC.last<100000000)(from_:Int)(f:aa){ma:Option Addr}{mc:Nat}{ms:List bG}(hm:aI ax 2 Fr w ma ms)(hml:ms.length≤1000000)(now:Int)
  (hi1:-9223372036854775808≤f.entry.index) (hi2:f.entry.index≤9223372036854775807):aH Tryz.prog 119 [.pointer (some ⟨q,0,none⟩),.int .i64 from_,.agg (f.cells (ma,ms.length,mc)).toArray,.int .i64 now] Fr w [bz q r] (fun v L=>p_ (sJ (cz r from_ f ms now).2) (bz q (cz r from_ f ms now).1) v L):=
 Go.Proofs.YthnlpdacbcjgpaaGreatDoor.Ring.aH.drop (l8 Fr w fit hlast from_ f hm hml now hi1 hi2) fun _ _ h=>vU h
theorem CV{M:aC}(ok:M.Ok)(from_:Int)(f:aa)(g:kL)(now:Int):aH Tryz.prog 185 [.pointer (some ⟨q,0,none⟩),.int .i64 from_,.agg (f.cells g).toArray,.int .i64 now] Fr w [dh q M] (fun v L=>p_ (M.take from_ f now).2 (dh q (M.take from_ f now).1) v L):=Go.Proofs.YthnlpdacbcjgpaaGreatDoor.Ring.aH.drop (Ek Fr w ok from_ f g now) fun _ _ h=>pG h
theorem CW{M:aC}(ok:M.Ok)(now:Int):aH Tryz.prog 62 [.pointer (some ⟨q,0,none⟩),.int .i64 now] Fr w [dh q M] (fun v L=>p_ (M.tick now).2 (dh q (M.tick now).1) v L):=Go.Proofs.YthnlpdacbcjgpaaGreatDoor.Ring.aH.drop (El Fr w ok now) fun _ _ h=>pG h
theorem wY{M:aC}(ok:M.Ok)(n:Int):aH Tryz.prog 66 [.pointer (some ⟨q,0,none⟩),.int .i64 n] Fr w [dh q M] (fun v L=>CL (M.cW n).2.1 (M.cW n).2.2 (dh q (M.cW n).1) v L):=Go.Proofs.YthnlpdacbcjgpaaGreatDoor.Ring.aH.drop (wN Fr w ok n) fun _ _ h=>pH h
theorem CY{M:aC}(ok:M.Ok)(n:Int):aH Tryz.prog 68 [.pointer (some ⟨q,0,none⟩),.int .i64 n] Fr w [dh q M] (fun v L=>CL (M.drain n).2.1 (M.drain n).2.2 (dh q (M.drain n).1) v L):=Go.Proofs.YthnlpdacbcjgpaaGreatDoor.Ring.aH.drop (Co Fr w ok n) fun _ _ h=>pH h
theorem EF{M:aC}(ok:M.Ok)(n now:Int):aH Tryz.prog 117 [.pointer (some ⟨q,0,none⟩),.int .i64 n,.int .i64 now] Fr w [dh q M] (fun v L=>CL (M.join n now).2.1 (M.join n now).2.2 (dh q (M.join n now).1) v L):=Go.Proofs.YthnlpdacbcjgpaaGreatDoor.Ring.aH.drop (Em Fr w ok n now) fun _ _ h=>pH h
theorem CZ{S:aN}(ok:S.Ok)(f:aa){ma:Option Addr}{mc:Nat}{ms:List bG}(hm:aI ax 2 Fr w ma ms)(hml:ms.length≤1000000)(now:Int):aH Tryz.prog 250 [.pointer (some ⟨q,0,none⟩),.agg (f.cells (ma,ms.length,mc)).toArray,.int .i64 now] Fr w [cw q S] (fun v L=>p_ (S.take f ms now).2 (cw q (S.take f ms now).1) v L):=Go.Proofs.YthnlpdacbcjgpaaGreatDoor.Ring.aH.drop (Ep Fr w ok f hm hml now) fun _ _ h=>pG h
theorem C0{S:aN}(ok:S.Ok)(now:Int):aH Tryz.prog 105 [.pointer (some ⟨q,0,none⟩),.int .i64 now] Fr w [cw q S] (fun v L=>p_ (S.tick now).2 (cw q (S.tick now).1) v L):=Go.Proofs.YthnlpdacbcjgpaaGreatDoor.Ring.aH.drop (Er Fr w ok now) fun _ _ h=>pG h
theorem C2{S:aN}(ok:S.Ok)(hq:S.seq≤1000000000)(o:e8)(cl d now:Int):aH Tryz.prog 90 [.pointer (some ⟨q,0,none⟩),.agg o.cells.toArray,.int .i64 cl,.int .i64 d,.int .i64 now] Fr w [cw q S] (fun v L=>CL (S.call o cl d now).2 (S.eU o cl d) (cw q (S.call o cl d now).1) v L):=Go.Proofs.YthnlpdacbcjgpaaGreatDoor.Ring.aH.drop (Es Fr w ok hq o cl d now) fun _ _ h=>pH h
theorem FK{Fr:Nat→Prop}{w:World}{S:aN}(h:aL Fr [cw q S] w):∃y,eQ Fr w q (ed S y)∧∀x,S.out=some x→eQ Fr w y.b (sP x):=by
 obtain⟨y,hy⟩:=h.ex
 have hs:=hy.sep
 refine⟨y,hs.aP 0 Z,fun x hx=>?_⟩
 have hb:=hs.at_ 3 rfl
 rw[hx] at hb
 exact hb.aP 0 rfl
theorem yC{S:aN}(ok:S.Ok)(h:aL Fr [cw q S] w):aH Tryz.prog 71 [.pointer (some ⟨q,0,none⟩)] Fr w [] (fun v L=>v=.int .i64 S.seq∧L=[]):=by
 obtain⟨y,h1,_⟩:=FK h
 exact G0 Fr w ok h1
theorem wZ{S:aN}(ok:S.Ok)(h:aL Fr [cw q S] w):aH Tryz.prog 69 [.pointer (some ⟨q,0,none⟩)] Fr w [] (fun v L=>v=Qw S.outcome∧L=[]):=by
 obtain⟨y,h1,h2⟩:=FK h
 exact wQ Fr w ok h1 h2
end
theorem JG{α:Type}{l:List α}{k:Nat}{x:α}(h:l[k]?=some x):l.set k x=l:=by
 apply Z8
 intro j
 rw[List.getElem?_set]
 split
 ·rename_i e;subst e
  rw[if_pos (Zk.1 h).1,h]
 ·rfl
end Cl
namespace Cl
open Go Vg T Api Ch Rep Conf Lg Rd
attribute [local irreducible] VO VC VA
abbrev yF:TypeId:=33
def gi.cells(s:gi):List Value:=[.int .i64 s.kind,.int .i64 s.a,.int .i64 s.b,.int .i64 s.c]++s.op.cells
theorem N7(C:av)(c:Int):C.dead c=if 1099511627776<C.now+(if 1099511627776<(if c<0 then 0 else c) then 1099511627776 else (if c<0 then 0 else c)) then 1099511627776 else C.now+(if 1099511627776<(if c<0 then 0 else c) then 1099511627776 else (if c<0 then 0 else c)):=by
 unfold av.dead
 repeat' split
 all_goals omega
section
variable {p:Nat} {C:av} {b e:Nat}
theorem EG(ok:C.Ok b e)(hb:b<100000)(he:e<1000000)(s:gi):aH Tryz.prog 57 [.pointer (some ⟨p,0,none⟩),.agg s.cells.toArray] Fr w [eY p C]
  (fun v L=>v=.int .i64 (C.call s).2∧L=[eY p (C.call s).1]):=by
 obtain⟨kd,sa,sx,sc,op⟩:=s
 have hcl:=ok.ff
 have hev:=ok.ev
 have hn0:=ok.n0
 have hn1:=ok.n1
 refine TF 74 Tryz.func57 Z yn ah Z Z ?_
 refine CS (CG (VG (VB (vs:=(⟨kd,sa,sx,sc,op⟩:gi).cells) Z fun sb=>VO.e7 1 Z (aV.O0 p C) ?_)))
 rintro y fit
 have hln:=pE fit
 refine VO.ar (L':=pt sb (⟨kd,sa,sx,sc,op⟩:gi).cells yF::gO p C y) (IP 10 Z ae.refl).ar ?_
 refine aq ?_
 refine CD (ts 0 13 .nil) yn yr ?_
 refine qe ?_
 by_cases h0:sa<0
 ·have hc:C.pz sa=none:=by unfold av.pz;rw[if_pos h0]
  have hr:C.call ⟨kd,sa,sx,sc,op⟩=(C,4):=by unfold av.call;dsimp only;rw[hc]
  refine AG (AY 12 true Z (DT h0) ?_)
  refine FT ?_
  refine Rb ?_
  exact Yp
 obtain⟨k,rfl⟩:∃k:Nat,sa=k:=⟨sa.toNat,by omega⟩
 refine AG (AY 12 false Z (DF h0) ?_)
 refine qe ?_
 refine CP (p:=(y.cr.length:Int)≤k) Z (fun h1=>?_) (fun h1=>CK ?_)
 ·have hc:C.pz (k:Int)=none:=by
   unfold av.pz
   rw[if_neg h0,Zp,Z4 yd]
  have hr:C.call ⟨kd,k,sx,sc,op⟩=(C,4):=by unfold av.call;dsimp only;rw[hc]
  refine aq ?_
  exact Yp
 have hk:k<y.cr.length:=by omega
 have hx2:y.cr[k]?=some y.cr[k]:=GE hk
 generalize y.cr[k]=z at hx2
 obtain⟨q,x⟩:=z
 obtain⟨hcx,hcs⟩:=Az fit hx2
 have hm:x∈C.ff:=ME hcs
 have hsq:=ok.seq x hm
 have okx:=ok.CI x hm
 have okc:=okx.call op sx (C.dead sc) C.now
 have hrc:=ok.rc
 have fw:gw (x.call op sx (C.dead sc) C.now).2:=aN.Jy x op sx (C.dead sc) C.now
 have hr0:x.eU op sx (C.dead sc)≠0→C.call ⟨kd,k,sx,sc,op⟩=(C,x.eU op sx (C.dead sc)):=fun h=>by
  unfold av.call;dsimp only;rw[hcx];dsimp only;rw[if_pos h]
 have hr1:x.eU op sx (C.dead sc)=0→C.call ⟨kd,k,sx,sc,op⟩=(({ C.gv k (x.call op sx (C.dead sc) C.now).1 with gx:=C.gx.call k (x.call op sx (C.dead sc) C.now).1.seq op,cB:=bW (32+k) C.cB (x.call op sx (C.dead sc) C.now).2 }:av),0):=fun h=>by
  unfold av.call;dsimp only;rw[hcx];dsimp only;rw[if_neg ir];rfl
 refine CS (CD (ts 0 9 .nil) yn yr ?_)
 refine qe ?_
 refine AG (AI Z (a_ k Z Z Z Z Z Z hk) ?_)
 refine AG (yE Z Z Z (aE.one 5 Z (rZ hx2)) ?_)
 refine qe ?_
 refine CS (CD (ts 0 11 .nil) yn yr ?_)
 refine qe ?_
 refine HI ?_
 refine qe ?_
 refine CN (L':=pt sb (⟨kd,k,sx,sc,op⟩:gi).cells yF::cw q x::O3 p C y k C.cB C.gx) (ae.cons (AB hx2)).ar ?_
 refine aq ?_
 refine CD (ts 0 10 (.only 10 (ts 11 5 .nil))) yn yr ?_
 refine sg ?_
 refine AG (VA.kn 0 op.cells Z Z Z Z Z ?_)
 refine sg ?_
 refine AG (AQ 1 Z (fun Fr w hF hs hS=>C2 Fr w okx yd op sx (C.dead sc) C.now) Z (by rw[N7];rfl) FQ ?_ ?_)
 ·rintro _ _ ⟨X,a,c,hX,rfl,rfl⟩
  exact Ui
 rintro _ _ ⟨X,a,c,hX,rfl,rfl⟩
 refine sg ?_
 refine aq ?_
 refine VC.bp Z (fun k1=>?_) (fun k1=>CK ?_)
 ·refine aq ?_
  refine CR (ay.tmp 4 Z Z (ae.tail.trans (vZ (R:=[]) fit hx2)).ar ⟨by rw[hr0 k1],?_⟩)
  rw[hr0 k1,(mF rfl k1).1]
  have:C.gv (k:Int) x=C:=by unfold av.gv;rw[Zp,JG hcs]
  rw[this]
 have hr:=hr1 On
 have hss:=yA x op sx (C.dead sc) C.now
 generalize x.call op sx (C.dead sc) C.now=X2 at hX okc fw hr hss
 obtain⟨x',S'⟩:=X2
 dsimp only at hX okc fw hr hss ⊢
 refine CS (CD (ts 0 7 (ts 8 2 (.only 7 (.only 10 .nil)))) yn yr ?_)
 refine sg ?_
 refine AG (VA.kn 0 op.cells Z Z Z Z Z ?_)
 refine AG (AR (fun Fr w hF hw hS=>yC Fr w okc (((hS.at_ 1 Z).sep).at_ 0 Z)) Z Z Ui ?_)
 refine AG (AQ 8 Z (fun Fr w hF hs hS=>Ev Fr w ok.gx yd k x'.seq op) Z Z (ψ:=fun v H=>v=.int .i64 (C.gx.eU k x'.seq op)∧H=kJ y.hp (C.gx.call k x'.seq op)) yy ?_ ?_)
 ·rintro _ _ ⟨rfl,rfl⟩
  exact Ui
 rintro _ _ ⟨rfl,rfl⟩
 refine sg ?_
 refine sf ?_
 refine VG (VP Z Z tL tL ?_)
 refine sf ?_
 refine VG (VQ 7 Z (fun Fr w hF hs hS=>ee Fr w (hS.aP 2 Z) ok.cB (32+k) (pO.at_ 1 hS Z hX fw)) Z (ψ:=fun v H=>v=.tuple #[]∧H=eG y.lp (bW (32+k) C.cB (X.map Prod.fst))) yy ?_)
 rintro _ _ ⟨rfl,rfl⟩
 refine sf ?_
 rw[hX]
 exact CR (ay.tmp 4 Z Z ((ae.tail (H:=pt sb _ yF)).trans (vZ (p:=p) (R:=[]) (s':=x') (hi:=C.gx.call k x'.seq op) (l:=bW (32+k) C.cB S') (a:=a) (c:=c) (X:=X) fit hx2)).ar ⟨by rw[hr],by rw[hr]⟩)
end
end Cl
namespace Cl
open Go Vg T Api Ch Rep Conf Lg Rd
attribute [local irreducible] VO VC VA
section
variable {p:Nat} {C:av} {b e:Nat}
theorem fold_succ{α:Type}(f:α→Nat→α)(x:α)(k:Nat):(List.range (k+1)).foldl f x=f ((List.range k).foldl f x) k:=by
 rw[List.range_succ,List.foldl_append];rfl
theorem Hk(C:av)(n:Nat):(C.cu n).nodes.length=C.nodes.length∧(C.cu n).ff=C.ff∧(C.cu n).now=C.now∧(C.cu n).iS=C.iS∧(C.cu n).done=C.done:=by
 unfold av.cu
 split
 ·exact⟨rfl,Z,Z,Z,Z⟩
 ·exact⟨ZB,Z,Z,Z,Z⟩
theorem EH(ok:C.Ok b e):aH Tryz.prog 61 [.pointer (some ⟨p,0,none⟩)] Fr w [eY p C]
  (fun v L=>v=.tuple #[]∧L=[eY p C.tick]):=by
 have hcl:=ok.ff
 have hnd:=ok.QH
 have hn0:=ok.n0
 have hn1:=ok.n1
 refine TF 58 Tryz.func61 Z yn ah Z Z ?_
 refine TV ?_
 rintro y fit
 refine Vt ?_
 have hln:=pE fit
 have hnn:=mK fit
 have hmin:min (C.now+1) 1099511627776=if 1099511627776<C.now+1 then 1099511627776 else C.now+1:=by split<;>omega
 generalize hC1:({ C with now:=min (C.now+1) 1099511627776 }:av)=C1
 have ok1:C1.Ok b e:=hC1▸ok.at_
 have fit1:dx C1 y:=hC1▸⟨fit.nr,fit.cr,fit.qc⟩
 have hnn1:C1.nodes.length=C.nodes.length:=by rw[←hC1]
 have hcc1:C1.ff.length=C.ff.length:=by rw[←hC1]
 refine sd ?_
 refine VG (VO.st 0 (cs':=nI C1 y) Z Z Z Z (by show 12<19;omega) (by rw[←hC1,hmin];rfl) Z ?_)
 refine VO.ar (L':=gO p C1 y) (ae.of_eq (by rw[←hC1];rfl)).ar ?_
 refine an ?_
 have hT:C.tick=(List.range C1.ff.length).foldl av.mn ((List.range C1.nodes.length).foldl av.cu C1):=by
  unfold av.tick
  dsimp only
  rw[hC1,←hnn1]
  have:∀(k:Nat),((List.range k).foldl av.cu C1).ff.length=C1.ff.length:=by
   intro k
   induction k with
   | zero=>rfl
   | succ k ih=>rw[fold_succ,(Hk _ _).2.1,ih]
  rw[this]
 refine VC.loop (σ:=Nat×List Ay) (fun s=>[(0,pV p),(18,.slice (some ⟨y.nb,0,none⟩) y.nr.length y.nc),(19,.int .i64 y.nr.length),(20,.int .i64 (s.1:Int))])
  (fun s=>gO p ((List.range s.1).foldl av.cu C1) { y with nr:=s.2 })
  (fun s=>s.1≤y.nr.length∧s.2.length=y.nr.length∧dx ((List.range s.1).foldl av.cu C1) { y with nr:=s.2 }) (fun s=>y.nr.length-s.1) (0,y.nr)
  ⟨Zj _,rfl,fit1⟩ bd ER ?_
 rintro⟨k,nr⟩ ⟨hk0,hnl,fk⟩
 dsimp only at hk0 hnl fk
 have okk:=ok1.JA (List.range k)
 have hsu:=fold_succ av.cu C1 k
 generalize hD:(List.range k).foldl av.cu C1=D at okk hsu fk
 refine aq ?_
 refine CP (p:=(k:Int)<y.nr.length) Z (fun h1=>CK ?_) (fun h1=>CX ?_)
 ·have hkl:k<nr.length:=by omega
  have hx2:nr[k]?=some nr[k]:=GE hkl
  generalize nr[k]=z at hx2
  obtain⟨hnx,hns⟩:=pF fk (k:=k) (x:=z) hx2
  refine HA ?_
  refine VG (VO.load Z Z (aE.one 3 Z (iQ hx2)) ?_)
  cases z with
  | none=>
   have e1:D.cu k=D:=by unfold av.cu;rw[hns];rfl
   refine Oz ?_
   refine qO ?_
   exact⟨(k+1,nr),⟨by dsimp only;omega,hnl,by rw[hsu,e1];exact fk⟩,by dsimp only;omega,SC Z (SC Z (SC Z (Sub.int Z yd (SN _)))),by dsimp only;rw[hsu,e1];exact ER⟩
  | some z=>
   obtain⟨q,r⟩:=z
   have hm:some r∈D.nodes:=ME hns
   have e1:D.cu k=({ D.setNode k (some (iW r).1) with cB:=bW k D.cB (sJ (iW r).2) }:av):=by unfold av.cu;rw[hns];rfl
   have fw:gw (sJ (iW r).2):=gw.of (by have:=pd r;omega)
   show VO _ _ _ _ (cC (some 24) (.pointer (some ⟨q,0,none⟩)) _) _ _
   refine Pa ?_
   refine CN (L':=bz q r::O2 p D { y with nr:=nr } k D.cB) (vX hx2).ar ?_
   refine jA ?_
   refine VG (VQ 0 Z (fun Fr w hF hs hS=>EE Fr w (okk.fit r hm).ok D.now) Z FQ ?_)
   rintro _ _ ⟨X,a,c,hX,rfl,rfl⟩
   refine jA ?_
   refine VG (VQ 6 Z (fun Fr w hF hs hS=>ee Fr w (hS.aP 1 Z) okk.cB k (pO.at_ 0 hS Z hX fw)) Z (ψ:=fun v H=>v=.tuple #[]∧H=eG y.lp (bW k D.cB (X.map Prod.fst))) yy ?_)
   rintro _ _ ⟨rfl,rfl⟩
   rw[hX]
   refine qO ?_
   refine⟨(k+1,nr.set k (some (q,(iW r).1))),⟨by dsimp only;omega,by dsimp only;rw[ZB];exact hnl,by dsimp only;rw[hsu,e1];exact vY fk k (some (q,(iW r).1)) _⟩,by dsimp only;omega,SC Z (SC Z (SC Z (Sub.int Z yd (SN _)))),?_⟩
   dsimp only
   rw[hsu,e1]
   exact(ae.trans ia (FJ (y:={ y with nr:=nr }) (r':=(iW r).1) (l:=bW k D.cB (sJ (iW r).2)) hx2)).ar
 have hkn:k=C1.nodes.length:=by omega
 rw[hkn] at hD
 rw[hD] at hT
 clear hsu
 subst hkn
 have hDc:D.ff.length=C1.ff.length:=by have h:=pE fk;dsimp only at h;omega
 refine an ?_
 refine VC.loop (σ:=Nat×List FD) (fun s=>[(0,pV p),(40,.slice (some ⟨y.cb,0,none⟩) y.cr.length y.cc),(41,.int .i64 y.cr.length),(42,.int .i64 (s.1:Int))])
  (fun s=>gO p ((List.range s.1).foldl av.mn D) { y with nr:=nr,cr:=s.2 })
  (fun s=>s.1≤y.cr.length∧s.2.length=y.cr.length∧dx ((List.range s.1).foldl av.mn D) { y with nr:=nr,cr:=s.2 }) (fun s=>y.cr.length-s.1) (0,y.cr)
  ⟨Zj _,rfl,fk⟩ bd ER ?_
 rintro⟨k,cr⟩ ⟨hk0,hcr,fk⟩
 dsimp only at hk0 hcr fk
 have okk:=okk.JB (List.range k)
 have hsu:=fold_succ av.mn D k
 generalize hE:(List.range k).foldl av.mn D=E at okk hsu fk
 refine aq ?_
 refine CP (p:=(k:Int)<y.cr.length) Z (fun h1=>CK ?_) (fun h1=>CX ?_)
 rotate_left
 ·have hkn:k=C1.ff.length:=by omega
  have:C.tick=E:=by rw[hT,←hE,hkn]
  exact ay.void Z (gf (R:=[]) fk).ar ⟨rfl,by rw[this]⟩
 have hkl:k<cr.length:=by omega
 have hx2:cr[k]?=some cr[k]:=GE hkl
 generalize cr[k]=z at hx2
 obtain⟨q,s⟩:=z
 obtain⟨hnx,hns⟩:=Az fk (k:=k) (x:=(q,s)) hx2
 have hm:s∈E.ff:=ME hns
 have e1:E.mn k=({ E.gv k (s.tick E.now).1 with cB:=bW (32+k) E.cB (s.tick E.now).2,gx:=E.gx }:av):=by unfold av.mn;rw[hns];rfl
 have fw:gw (s.tick E.now).2:=aN.pd s E.now
 refine HA ?_
 refine VG (VO.load Z Z (aE.one 4 Z (rZ hx2)) ?_)
 refine RM ?_
 refine VO.ar (L':=cw q s::O3 p E { y with nr:=nr,cr:=cr } k E.cB E.gx) (AB hx2).ar ?_
 refine jA ?_
 refine VG (VQ 0 Z (fun Fr w hF hs hS=>C0 Fr w (okk.CI s hm) E.now) Z FQ ?_)
 rintro _ _ ⟨X,a,c,hX,rfl,rfl⟩
 refine jA ?_
 refine VG (VQ 6 Z (fun Fr w hF hs hS=>ee Fr w (hS.aP 1 Z) okk.cB (32+k) (pO.at_ 0 hS Z hX fw)) Z (ψ:=fun v H=>v=.tuple #[]∧H=eG y.lp (bW (32+k) E.cB (X.map Prod.fst))) yy ?_)
 rintro _ _ ⟨rfl,rfl⟩
 rw[hX]
 refine qO ?_
 refine⟨(k+1,cr.set k (q,(s.tick E.now).1)),⟨by dsimp only;omega,by dsimp only;rw[ZB];exact hcr,by dsimp only;rw[hsu,e1];exact FI fk k (q,(s.tick E.now).1) _ _⟩,by dsimp only;omega,SC Z (SC Z (SC Z (Sub.int Z yd (SN _)))),?_⟩
 dsimp only
 rw[hsu,e1]
 exact(ae.trans ia (JF (y:={ y with nr:=nr,cr:=cr }) (s':=(s.tick E.now).1) (l:=bW (32+k) E.cB (s.tick E.now).2) (hi:=E.gx) hx2)).ar
end
end Cl
namespace Cl
open Go Vg T Api Ch Rep Conf Lg Rd
attribute [local irreducible] VO VC VA
theorem JH(f:aa)(o:Nat)(n:Int):(F8 f o n).entry=f.entry:=by unfold F8;split<;>rfl
theorem yH:∀(os:List Nat) (ns:List Int) (f:aa),(ux f os ns).entry=f.entry
 | o::os,n::ns,f=>by
  show(ux (F8 f o n) os ns).entry=_
  rw[yH os ns,JH]
 | [],_,_=>rfl
 | _::_,[],_=>rfl
theorem Hl{f:aa}{s:Bs}{y:aa×List bG}(h:qY f s=some y):y.1.kind=f.kind∧(f.kind≠4→y.1.entry=f.entry):=by
 unfold qY at h
 repeat' split at h
 all_goals first | (cases h;done) | (cases h;exact⟨rfl,fun _=>rfl⟩) | (cases h;exact⟨rfl,fun k=>absurd (by assumption) k⟩)
theorem QJ{s:Bs}{f:aa}{ms:List bG}(h:getM s=some (f,ms)):ms.length≤6∧0≤f.entry.index∧f.entry.index≤1099511627776:=by
 unfold getM at h
 split at h
 ·cases h
 split at h
 ·cases h
 split at h
 ·cases h
 split at h
 ·cases h
 ·rename_i k r hk _ l r2 hl _ f' ms' hr
  split at h
  ·rename_i hm
   cases h
   refine⟨CA hr,?_⟩
   have he:=Hl hr
   by_cases h4:f.kind=4
   ·unfold pK zh at hm
    simp only[h4,Zx] at hm
    have hm:=hm.2.2
    simp[s_] at hm
    exact hm.1.1
   ·have:=he.2 (by rw[←he.1];exact h4)
    rw[this,yH]
    exact⟨by show(0:Int)≤0;decide,by show(0:Int)≤1099511627776;decide⟩
  ·cases h
section
variable {p:Nat} {C:av} {y:iy} {b e:Nat}
def JI(y:iy)(toQ:Int):Value:=
 if toQ=16 then pS 185 [.pointer (some ⟨y.mp,0,none⟩)] []
 else match (if toQ<0 then none else (y.nr[toQ.toNat]?).getD none) with
  | some z=>pS 119 [.pointer (some ⟨z.1,0,none⟩)] []
  | none=>match (if toQ<32 then none else y.cr[(toQ-32).toNat]?) with
   | some z=>pS 186 [.agg #[.pointer (some ⟨z.1,0,none⟩)]] []
   | none=>.nilFunc
theorem C3(fit:dx C y)(h:eQ Fr w p (nI C y))(hr:eQ Fr w y.nb (flat kN y.nr++y.nx))(hc:eQ Fr w y.cb (flat rX y.cr++y.cx)){toQ:Int}(h0:0≤toQ)(h1:toQ<38):aH Tryz.prog 114 [.pointer (some ⟨p,0,none⟩),.int .i64 toQ] Fr w [] (fun v L=>v=JI y toQ∧L=[]):=by
 have hln:=pE fit
 have hnn:=mK fit
 obtain⟨k,rfl⟩:∃k:Nat,toQ=k:=⟨toQ.toNat,by omega⟩
 refine TF 50 Tryz.func114 Z yn ah Z Z ?_
 refine aK ?_
 refine HH ?_
 refine aK ?_
 refine CP (p:=(k:Int)=16) Z (fun e1=>?_) (fun e1=>?_)
 ·refine yS ?_
  refine VJ ?_
  exact CR (ay.tmp 4 Z Z ER ⟨by rw[JI,if_pos e1],Z⟩)
 refine aK ?_
 refine VG (VV (fun Fr w hF hw hS=>AA Fr w fit (h.of hF hw) (hr.of hF hw) k) Z ?_)
 have hu:∀z:Ay,(y.nr[k]?).getD none=z→C.u9 (k:Int)=if y.nr.length≤k then 4 else if z.isNone then 61 else 0:=fun z hz=>by
  unfold av.u9
  by_cases hk:k<y.nr.length
  ·have hx:=GE hk
   rw[hx] at hz
   rw[if_neg (show ¬((k:Int)<0∨(C.nodes.length:Int)≤k) by omega),if_neg (show ¬y.nr.length≤k by omega),(pF fit hx).1,←hz]
   cases y.nr[k]<;>rfl
  ·rw[if_pos (.inr yd),if_pos yd]
 by_cases hx:∃q r,y.nr[k]?=some (some (q,r))
 ·obtain⟨q,r,hx⟩:=hx
  have hk:=(Zk.1 hx).1
  have hu2:=hu (some (q,r)) (by rw[hx];rfl)
  rw[if_neg yd] at hu2
  rw[hu2]
  refine Ki ?_
  refine yS ?_
  refine Rr ?_
  refine VG (VO.load Z Z (aE.aP hr (iQ hx)) ?_)
  refine aK ?_
  refine VJ ?_
  exact CR (ay.tmp 4 Z Z ER ⟨by rw[JI,if_neg e1,if_neg yd,Zp,hx];rfl,Z⟩)
 have hno:(y.nr[k]?).getD none=none:=by
  cases hz:y.nr[k]? with
  | none=>rfl
  | some z=>
   cases z with
   | none=>rfl
   | some z=>exact absurd ⟨z.1,z.2,hz⟩ hx
 have hu3:C.u9 (k:Int)≠0:=by rw[hu none hno];split<;>decide
 have et:JI y k=match (if (k:Int)<32 then none else y.cr[((k:Int)-32).toNat]?) with
   | some z=>pS 186 [.agg #[.pointer (some ⟨z.1,0,none⟩)]] []
   | none=>.nilFunc:=by rw[JI,if_neg e1,if_neg yd,Zp,hno]
 rw[et]
 refine aK ?_
 refine CE Z (fun k0=>absurd k0 hu3) (fun _=>?_)
 refine aK ?_
 by_cases h32:(k:Int)<32
 ·refine VG (VY 32 false Z (DF yd) ?_)
  refine yS ?_
  refine r_ ?_
  refine aK ?_
  exact CR (ay.tmp 4 Z Z ER ⟨by rw[if_pos h32],Z⟩)
 obtain⟨j,rfl⟩:∃j:Nat,k=32+j:=⟨k-32,by omega⟩
 refine VG (VY 32 true Z (DT yd) ?_)
 refine yS ?_
 refine CP (p:=(((32+j:Nat):Int)-32)<(y.cr.length:Int)) Z (fun h2=>?_) (fun h2=>CK ?_)
 ·have hj:j<y.cr.length:=by omega
  have hx2:y.cr[j]?=some y.cr[j]:=GE hj
  generalize y.cr[j]=z at hx2
  have ej:((32+j:Nat):Int)-32=(j:Int):=by omega
  rw[ej]
  refine yS ?_
  refine VG (VI (a_ j Z Z Z Z Z Z hj) ?_)
  refine VG (VO.load Z Z (aE.aP hc (rZ hx2)) ?_)
  refine aK ?_
  refine VG (VI (LB (pv:=[(0,.pointer (some ⟨z.1,0,none⟩))]) [.pointer (some ⟨z.1,0,none⟩)] Z Z Z yn Z) ?_)
  refine VJ ?_
  exact CR (ay.tmp 4 Z Z ER ⟨by rw[if_neg h32,Zp,hx2],Z⟩)
 ·refine aK ?_
  exact CR (ay.tmp 4 Z Z ER ⟨by rw[if_neg h32,Z4 yd],Z⟩)
theorem EI{q:Nat}{S:aN}(ok:S.Ok)(from_:Int)(f:aa){ma:Option Addr}{mc:Nat}{ms:List bG}(hm:aI ax 2 Fr w ma ms)(hml:ms.length≤1000000)(now:Int):aH Tryz.prog 186 [.agg #[.pointer (some ⟨q,0,none⟩)],.int .i64 from_,.agg (f.cells (ma,ms.length,mc)).toArray,.int .i64 now] Fr w [cw q S] (fun v L=>p_ (S.take f ms now).2 (cw q (S.take f ms now).1) v L):=by
 refine TF 14 Tryz.func186 Z yn ah Z Z ?_
 refine CS (CG (VG (VB (vs:=[.pointer (some ⟨q,0,none⟩)]) Z fun s1=>VG (VB (vs:=f.cells (ma,ms.length,mc)) Z fun fb=>?_))))
 refine jA ?_
 refine Vn ?_
 refine jA ?_
 refine VG (VQ 2 Z (fun Fr w hF hw hS=>CZ Fr w ok f (hm.of hF hw) hml now) Z FQ ?_)
 rintro _ _ ⟨X,a,c,hX,rfl,rfl⟩
 refine jA ?_
 exact CR (ay.tmp 8 Z Z (ae.tail.trans ae.tail).ar ⟨_,Z,X,a,c,hX,Z,Z⟩)
end
end Cl
namespace Cl
open Go Vg T Api Ch Rep Conf Lg Rd
attribute [local irreducible] VO VC VA
theorem Hm{P:Program}{ty:Nat}{ps rs:Array TypeId}{vd:Bool}(hund:P.underlying ty=some (.func ps rs vd)){v:Value}{r:Bool}(hv:(v=.nilFunc∧r=true)∨∃f a c,v=.func f a c∧r=false)(w:World):(Op.equal ty v .nilFunc).run P w=.ok r w:=by
 unfold Op.equal
 show(Op.equalIn (9999+1) ty v .nilFunc).run P w=_
 rw[Op.equalIn,Sem.run_bind,run_underlying hund]
 rcases hv with ⟨rfl,rfl⟩ | ⟨f,a,c,rfl,rfl⟩<;>rfl
theorem v8{X:Cx}{e:Env}{T yt:TypeId}{x:Operand}{v:Value}{ps rs:Array TypeId}{vd:Bool}(r:Bool)(hT:X.P.underlying T=some (.func ps rs vd))(hx:ev e x=some v)(hv:(v=.nilFunc∧r=false)∨∃f a c,v=.func f a c∧r=true):
  dm X (.binOp .neq T x (.const .nilFunc) yt) e (.bool r):=by
 intro a' ha dst ty pos after guard w
 have hq:=Hm hT (v:=v) (r:=!r) (by rcases hv with ⟨h1,h2⟩ | ⟨f,a,c,h1,h2⟩<;>simp[h1,h2]) w
 simp only[execOp,ha.ev hx]
 have h:(do eqGuard .neq T x (.const .nilFunc) v .nilFunc;binOp .neq T v .nilFunc:Sem Value).run X.P w=.ok (.bool r) w:=by
  have hg:(eqGuard .neq T x (.const .nilFunc) v .nilFunc).run X.P w=.ok () w:=by
   rcases hv with ⟨rfl,_⟩ | ⟨f,a,c,rfl,_⟩<;>rfl
  rw[Sem.run_bind,hg,Result.andThen_ok]
  have hb:binOp .neq T v .nilFunc=(do pure (.bool (!(←Op.equal T v .nilFunc))):Sem Value):=by
   rcases hv with ⟨rfl,_⟩ | ⟨f,a,c,rfl,_⟩<;>rfl
  rw[hb,Sem.run_bind,hq]
  cases r<;>rfl
 rw[Sem.run_bind]
 show((do eqGuard .neq T x (.const .nilFunc) v .nilFunc;binOp .neq T v .nilFunc:Sem Value).run X.P w).andThen _=_
 rw[h];rfl
section
variable {p:Nat} {C:av} {b e:Nat}
theorem QK{y:iy}:JI y 16=pS 185 [.pointer (some ⟨y.mp,0,none⟩)] []:=rfl
theorem N8{y:iy}{k q:Nat}{r:au}(h1:(k:Int)≠16)(h:y.nr[k]?=some (some (q,r))):JI y k=pS 119 [.pointer (some ⟨q,0,none⟩)] []:=by
 rw[JI,if_neg h1,if_neg yd,Zp,h];rfl
theorem N9{y:iy}{k:Nat}(h1:(k:Int)≠16)(h:∀q r,y.nr[k]?≠some (some (q,r))):JI y k=match (if (k:Int)<32 then none else y.cr[((k:Int)-32).toNat]?) with
   | some z=>pS 186 [.agg #[.pointer (some ⟨z.1,0,none⟩)]] []
   | none=>.nilFunc:=by
 have hno:(y.nr[k]?).getD none=none:=by
  cases hz:y.nr[k]? with
  | none=>rfl
  | some z=>
   cases z with
   | none=>rfl
   | some z=>exact absurd hz (h z.1 z.2)
 rw[JI,if_neg h1,if_neg yd,Zp,hno]<;>rfl
theorem Hn{y:iy}(fit:dx C y){k:Nat}(h:∀q r,y.nr[k]?≠some (some (q,r))):C.node (k:Int)=none:=by
 unfold av.node
 rw[if_neg yd,Zp,←fit.nr,Zn]
 cases hz:y.nr[k]? with
 | none=>rfl
 | some z=>
  cases z with
  | none=>rfl
  | some z=>exact absurd hz (h z.1 z.2)
theorem w6(ok:C.Ok b e)(hb:b<100000000)(x toQ i:Int):aH Tryz.prog 63 [.pointer (some ⟨p,0,none⟩),.int .i64 x,.int .i64 toQ,.int .i64 i] Fr w [eY p C]
  (fun v L=>v=.int .i64 (C.fB (x,toQ) i).2∧L=[eY p (C.fB (x,toQ) i).1]):=by
 have hcl:=ok.ff
 have hnd:=ok.QH
 refine TF 57 Tryz.func63 Z yn ah Z Z ?_
 refine TV ?_
 rintro y fit
 refine Vt ?_
 have hln:=pE fit
 have hnn:=mK fit
 refine an ?_
 refine VG (VQ 5 Z (fun Fr w hF hw hS=>p9 Fr w ok.cB x toQ i) Z (ψ:=fun v H=>v=OZ C.cB (x,toQ) i∧H=eG y.lp (C.cB.drop (x,toQ) i).1) yy ?_)
 rintro _ _ ⟨rfl,rfl⟩
 cases hf:C.cB.find (x,toQ) i with
 | none=>
  have hr:C.fB (x,toQ) i=(C,4):=by unfold av.fB;rw[hf]
  rw[mJ hf,sT hf]
  refine aq ?_
  refine VG (VO.alloc Z fun mb=>?_)
  refine Q6 ?_
  refine Pf ?_
  exact CR (ay.tmp 8 Z Z (ae.trans (ae.tail (H:=pt mb _ iY)) (gf (C:=C) (p:=p) (R:=[]) fit)).ar ⟨by rw[hr],by rw[hr]⟩)
 | some t=>
 obtain⟨ha1,ha2⟩:=ok.FE.found hf
 obtain⟨hx0,hx1⟩:=O1 ha1
 obtain⟨ht0,ht1⟩:=O1 ha2
 obtain⟨k,rfl⟩:∃k:Nat,toQ=k:=⟨toQ.toNat,by dsimp only at ht0;omega⟩
 dsimp only at ht0 ht1 hx0 hx1
 rw[pc hf,sU hf]
 generalize hD:({ C with cB:=C.cB.eR (x,k) i }:av)=D
 have okd:D.Ok b e:=hD▸ok.CT (by rw[av.Ok.r6 hf];exact ok.cB.drop _ _) (ok.FE.eR hf)
 have fitd:dx D y:=hD▸⟨fit.nr,fit.cr,fit.qc⟩
 obtain⟨s,rfl⟩:∃s,t=bT s:=⟨sB t,(OJ t).symm⟩
 have hr:C.fB (x,k) i=(D.OO x k (bT s),0):=by unfold av.fB;rw[hf];dsimp only;rw[hD]
 have hgot:D.OO x k (bT s)=match getM s with
   | some (f,ms)=>D.lh x k f ms
   | none=>D:=by unfold av.OO;rw[R9]<;>rfl
 refine VO.ar (L':=gO p D y) (ae.of_eq (by rw[←hD];rfl)).ar ?_
 refine aq ?_
 refine VG (VO.alloc Z fun mb=>?_)
 refine VG (VT (vs:=dw x k (bT s)) (cs':=dw x k (bT s)) 0 Z Z Z Z (NR _) Z Z Z ?_)
 refine Oz ?_
 refine an ?_
 refine VG (VK (Lc:=[]) (fun Fr w hF hw hS=>G9 Fr w (s:=s)) Z Z ?_)
 intro v L1 hv
 cases hg:getM s with
 | none=>
  rw[hg] at hv hgot
  obtain⟨rfl,rfl⟩:=hv
  dsimp only at hgot
  refine aq ?_
  refine VG (VO.alloc Z fun fb=>?_)
  refine Vm ?_
  refine aq ?_
  refine jA ?_
  refine Yq ?_
  refine aq ?_
  refine QV ?_
  refine aK ?_
  refine FU ?_
  exact CR (ay.tmp 8 Z Z (ae.trans (ae.tail (H:=pt fb _ g_)) (ae.trans (ae.tail (H:=pt mb _ iY)) (gf (C:=D) (p:=p) (R:=[]) fitd))).ar ⟨by rw[hr],by rw[hr,hgot]⟩)
 | some fm=>
 obtain⟨f,ms⟩:=fm
 rw[hg] at hv hgot
 obtain⟨ma,mc,rfl,rfl⟩:=hv
 dsimp only at hgot
 rw[hgot] at hr
 obtain⟨hm6,hi0,hi1⟩:=QJ hg
 refine aq ?_
 refine VG (VO.alloc Z fun fb=>?_)
 refine VG (VT (vs:=f.cells (ma,ms.length,mc)) (cs':=f.cells (ma,ms.length,mc)) 0 Z Z Z Z (NR _) Z Z Z ?_)
 refine VO.ar (L':=pt fb (f.cells (ma,ms.length,mc)) g_::pt mb (dw x k (bT s)) iY::(gO p D y ++ [aJ aG 2 ma ms.length mc (flat ax ms)])) (by refine ae.ar ?_;refine IP 0 Z ?_;refine IP 1 Z ?_;exact ae.last (L:=gO p D y)) ?_
 refine aq ?_
 refine jA ?_
 refine Yq ?_
 by_cases h16:(k:Int)=16
 ·have hk16:k=16:=by omega
  subst hk16
  have ht:D.lh x (16:Nat) f ms=({ D with dk:=(D.dk.take x f D.now).1,cB:=bW (16:Nat) D.cB (D.dk.take x f D.now).2 }:av):=by
   unfold av.lh
   rw[if_pos yp];rfl
  rw[ht] at hr
  have fw:=okd.dk.mL x f D.now
  rw[show JI y (16:Nat)=_ from QK]
  refine aq ?_
  refine Rq ?_
  refine aq ?_
  refine Vu ?_
  refine Pa ?_
  refine CN (L':=pt fb (f.cells (ma,ms.length,mc)) g_::pt mb (dw x (16:Nat) (bT s)) iY::dh y.mp D.dk::(O4 p D y D.cB ++ [aJ aG 2 ma ms.length mc (flat ax ms)])) (ae.cons (ae.cons (ae.app (M:=dh y.mp D.dk::O4 p D y D.cB) AD ae.refl))).ar ?_
  refine Vv ?_
  refine tM ?_
  refine Vw ?_
  refine tM ?_
  refine AG (VA.fx 2 Z Z (fun Fr w hF hs hS=>CV Fr w okd.dk x f (ma,ms.length,mc) D.now) Z Z FQ ?_ ?_)
  ·rintro _ _ ⟨X,a,c,hX,rfl,rfl⟩
   exact QU
  rintro _ _ ⟨X,a,c,hX,rfl,rfl⟩
  refine AG (AQ 7 Z (fun Fr w hF hs hS=>ee Fr w (hS.aP 3 Z) okd.cB (16:Nat) (pO.at_ 2 hS Z hX fw)) Z Z (ψ:=fun v H=>v=.tuple #[]∧H=eG y.lp (bW (16:Nat) D.cB (X.map Prod.fst))) yy ?_ ?_)
  ·rintro _ _ ⟨rfl,rfl⟩
   exact QU
  rintro _ _ ⟨rfl,rfl⟩
  refine Hz ?_
  rw[hX]
  exact CR (ay.tmp 8 Z Z (ae.trans (ae.tail (H:=pt fb _ g_)) (ae.trans (ae.tail (H:=pt mb _ iY)) (mM (p:=p) (m:=(D.dk.take x f D.now).1) (l:=bW (16:Nat) D.cB (D.dk.take x f D.now).2) (a:=a) (c:=c) (X:=X) (R:=[aJ aG 2 ma ms.length mc (flat ax ms)]) fitd))).ar ⟨by rw[hr],by rw[hr]⟩)
 by_cases hx:∃q r,y.nr[k]?=some (some (q,r))
 ·obtain⟨q,r,hx⟩:=hx
  obtain⟨hn1,hn2⟩:=pF fitd hx
  have hmr:some r∈D.nodes:=ME hn2
  have hfit:=okd.fit r hmr
  have hlr:=okd.last r hmr
  have ht:D.lh x k f ms=({ D.setNode k (some (cz r x f ms D.now).1) with cB:=bW k D.cB (sJ (cz r x f ms D.now).2) }:av):=by
   unfold av.lh
   rw[if_neg h16,hn1];rfl
  rw[ht] at hr
  have fw:gw (sJ (cz r x f ms D.now).2):=gw.of (by have:=mL hfit x f ms D.now;omega)
  rw[N8 h16 hx]
  refine aq ?_
  refine Rq ?_
  refine aq ?_
  refine Vu ?_
  refine Pa ?_
  refine CN (L':=pt fb (f.cells (ma,ms.length,mc)) g_::pt mb (dw x k (bT s)) iY::bz q r::(O2 p D y k D.cB ++ [aJ aG 2 ma ms.length mc (flat ax ms)])) (ae.cons (ae.cons (ae.app (M:=bz q r::O2 p D y k D.cB) (vX hx) ae.refl))).ar ?_
  refine Vv ?_
  refine tM ?_
  refine Vw ?_
  refine tM ?_
  refine AG (VA.fx 2 Z Z (fun Fr w hF hs hS=>v7 Fr w hfit yd x f (aI.aJ aF (hS.at_ 12 Z)) yd D.now yd yd) Z Z FQ ?_ ?_)
  ·rintro _ _ ⟨X,a,c,hX,rfl,rfl⟩
   exact QU
  rintro _ _ ⟨X,a,c,hX,rfl,rfl⟩
  refine AG (AQ 8 Z (fun Fr w hF hs hS=>ee Fr w (hS.aP 3 Z) okd.cB k (pO.at_ 2 hS Z hX fw)) Z Z (ψ:=fun v H=>v=.tuple #[]∧H=eG y.lp (bW k D.cB (X.map Prod.fst))) yy ?_ ?_)
  ·rintro _ _ ⟨rfl,rfl⟩
   exact QU
  rintro _ _ ⟨rfl,rfl⟩
  refine Hz ?_
  rw[hX]
  exact CR (ay.tmp 8 Z Z (ae.trans (ae.tail (H:=pt fb _ g_)) (ae.trans (ae.tail (H:=pt mb _ iY)) (yB (p:=p) (r':=(cz r x f ms D.now).1) (l:=bW k D.cB (sJ (cz r x f ms D.now).2)) (a:=a) (c:=c) (X:=X) (R:=[aJ aG 2 ma ms.length mc (flat ax ms)]) fitd hx))).ar ⟨by rw[hr],by rw[hr]⟩)
 have hx:∀q r,y.nr[k]?≠some (some (q,r)):=fun q r h=>hx ⟨q,r,h⟩
 have hnone:=Hn fitd hx
 rw[N9 h16 hx]
 by_cases hc:∃j q z,k=32+j∧y.cr[j]?=some (q,z)
 ·obtain⟨j,q,z,rfl,hz⟩:=hc
  obtain⟨hn1,hn2⟩:=Az fitd hz
  have ej:((32+j:Nat):Int)-32=(j:Int):=by omega
  have hmz:z∈D.ff:=ME hn2
  have okz:=okd.CI z hmz
  have ht:D.lh x (32+j:Nat) f ms=({ D.gv j (z.take f ms D.now).1 with cB:=bW (32+j:Nat) D.cB (z.take f ms D.now).2,gx:=D.gx }:av):=by
   unfold av.lh
   rw[if_neg h16,hnone,ej,hn1];rfl
  rw[ht] at hr
  have fw:gw (z.take f ms D.now).2:=aN.mL z f ms D.now
  rw[if_neg yd,ej,Zp,hz]
  refine aq ?_
  refine Rq ?_
  refine aq ?_
  refine Vu ?_
  refine Pa ?_
  refine CN (L':=pt fb (f.cells (ma,ms.length,mc)) g_::pt mb (dw x (32+j:Nat) (bT s)) iY::cw q z::(O3 p D y j D.cB D.gx ++ [aJ aG 2 ma ms.length mc (flat ax ms)])) (ae.cons (ae.cons (ae.app (M:=cw q z::O3 p D y j D.cB D.gx) (AB hz) ae.refl))).ar ?_
  refine Vv ?_
  refine tM ?_
  refine Vw ?_
  refine tM ?_
  refine AG (VA.fx 2 Z Z (fun Fr w hF hs hS=>EI Fr w okz x f (aI.aJ aF (hS.at_ 12 Z)) yd D.now) Z Z FQ ?_ ?_)
  ·rintro _ _ ⟨X,a,c,hX,rfl,rfl⟩
   exact QU
  rintro _ _ ⟨X,a,c,hX,rfl,rfl⟩
  refine AG (AQ 8 Z (fun Fr w hF hs hS=>ee Fr w (hS.aP 3 Z) okd.cB (32+j:Nat) (pO.at_ 2 hS Z hX fw)) Z Z (ψ:=fun v H=>v=.tuple #[]∧H=eG y.lp (bW (32+j:Nat) D.cB (X.map Prod.fst))) yy ?_ ?_)
  ·rintro _ _ ⟨rfl,rfl⟩
   exact QU
  rintro _ _ ⟨rfl,rfl⟩
  refine Hz ?_
  rw[hX]
  exact CR (ay.tmp 8 Z Z (ae.trans (ae.tail (H:=pt fb _ g_)) (ae.trans (ae.tail (H:=pt mb _ iY)) (vZ (p:=p) (s':=(z.take f ms D.now).1) (hi:=D.gx) (l:=bW (32+j:Nat) D.cB (z.take f ms D.now).2) (a:=a) (c:=c) (X:=X) (R:=[aJ aG 2 ma ms.length mc (flat ax ms)]) fitd hz))).ar ⟨by rw[hr],by rw[hr]⟩)
 have hcn:D.pz ((k:Int)-32)=none∧(if (k:Int)<32 then none else y.cr[((k:Int)-32).toNat]?)=none:=by
  by_cases h32:(k:Int)<32
  ·exact⟨by unfold av.pz;rw[if_pos yd],if_pos h32⟩
  obtain⟨j,rfl⟩:∃j:Nat,k=32+j:=⟨k-32,by omega⟩
  have ej:((32+j:Nat):Int)-32=(j:Int):=by omega
  have hz:y.cr[j]?=none:=by
   cases hz:y.cr[j]? with
   | none=>rfl
   | some z=>exact absurd ⟨j,z.1,z.2,rfl,hz⟩ hc
  rw[ej,if_neg h32,Zp,hz]
  refine⟨?_,Z⟩
  unfold av.pz
  rw[if_neg yd,Zp,←fitd.cr,Zn,hz];rfl
 have ht:D.lh x k f ms=D:=by
  unfold av.lh
  rw[if_neg h16,hnone,hcn.1]
 rw[ht] at hr
 rw[hcn.2]
 refine aq ?_
 refine Rq ?_
 refine aq ?_
 refine VG (VI (v8 false Tryz.underlying227 Z (.inl ⟨rfl,Z⟩)) ?_)
 refine EY ?_
 exact CR (ay.tmp 8 Z Z (ae.trans (ae.tail (H:=pt fb _ g_)) (ae.trans (ae.tail (H:=pt mb _ iY)) (gf (C:=D) (p:=p) (R:=[aJ aG 2 ma ms.length mc (flat ax ms)]) fitd))).ar ⟨by rw[hr],by rw[hr]⟩)
end
end Cl
namespace Cl
open Go Vg T Api Ch Rep Conf Lg Rd
attribute [local irreducible] VO VC VA
theorem N_{Fr:Nat→Prop}{w:World}{q:Nat}{M:aC}(h:aL Fr [dh q M] w):∃a c,eQ Fr w q (bR M a c)∧aI ax 2 Fr w a M.ch.ms:=by
 obtain⟨y,hy⟩:=h.ex
 have hs:=hy.sep
 exact⟨y.1,y.2,hs.aP 0 Z,aI.aJ aF (hs.at_ 1 Z)⟩
theorem C4{q:Nat}{M:aC}(ok:M.Ok)(h:aL Fr [dh q M] w):aH Tryz.prog 118 [.pointer (some ⟨q,0,none⟩)] Fr w []
  (fun v L=>∃a' c',v=.agg (M.ch.cells a' c').toArray∧L=[aJ aG 2 a' M.ch.ms.length c' (flat ax M.ch.ms)]):=by
 obtain⟨a,c,h1,h2⟩:=N_ h
 exact Cp Fr w ok h1 h2
theorem JJ{M:aC}{n now:Int}(h:(M.join n now).2.2≠0):(M.join n now).1=M:=by
 unfold aC.join at h ⊢
 split
 ·rfl
 ·rename_i h1
  rw[if_neg h1] at h
  split
  ·rfl
  ·rename_i h2;rw[if_neg h2] at h;exact absurd rfl h
section
variable {p:Nat} {C:av} {y:iy} {b e:Nat}
theorem N'{l:List Ay}{k q:Nat}{r r':au}(hk:k<l.length):flat kN (l.set k (some (q,r)))=flat kN (l.set k (some (q,r'))):=by
 have h:(l.set k (some (q,r)))[k]?=some (some (q,r)):=ZG hk
 have:=CU (r':=r') h
 rw[List.set_set] at this
 exact this.symm
theorem yI{l:List Ay}{k:Nat}(x:Ay)(hk:k<l.length)(rest:List Value):(flat kN l++rest).set (0+k*1) (QB x)=flat kN (l.set k x)++rest:=by
 rw[Zl]
 have hz:l[k]?=some l[k]:=GE hk
 exact gy (j:=0) vR hz (ZV) (by cases l[k]<;>rfl) rest
theorem Ho(fit:dx C y){k q:Nat}(hk:k<y.nr.length){r r':au}{m:aC}{l:ba}{a a':Option Addr}{c c':Nat}{X X':List rO}:ae (pf (bz q r') a c X::pf (dh y.mp m) a' c' X' :: [pt p (nI C y) Ax,mg y.qa y.qc C.iS.qs,pt y.nb (flat kN (y.nr.set k (some (q,r)))++y.nx) Ka,pt y.cb (flat rX y.cr++y.cx) N4,eG y.lp l,kJ y.hp C.gx,aJ iE 7 y.da C.done.length y.dc (flat cL C.done),cT (y.nr.map kO),cT (y.cr.map rY)])
  [eY p ({ ({ C with dk:=m }:av).setNode k (some r') with cB:=l }:av)]:=by
 rw[N' (r':=r') hk]
 have e1:=qL (C:=C) (y:=y) (k:=k) (x:=some (q,r')) ({ ({ C with dk:=m }:av).setNode k (some r') with cB:=l }:av) rfl rfl rfl
 have hz:y.nr[k]?=some y.nr[k]:=GE hk
 refine ae.trans ia ?_
 refine ae.trans (ae.cons ia) ?_
 refine ae.trans (IP 9 Z ae.refl) ?_
 refine ae.trans (pI (f:=kO) hz) ?_
 refine ae.trans ae.tail ?_
 refine ae.trans (M:=bz q r'::cT ((y.nr.eraseIdx k).map kO)::_) (IP 1 Z (IP 0 Z ae.refl)) ?_
 refine ae.trans (r5 (f:=kO) hk (some (q,r'))) ?_
 have fit':dx ({ ({ C with dk:=m }:av).setNode k (some r') with cB:=l }:av) (y.node k (some (q,r'))):=vY (C:={ C with dk:=m }) ⟨fit.nr,fit.cr,fit.qc⟩ k (some (q,r')) l
 refine ae.O0 (K:=[]) _ fit' ?_
 unfold gO
 rw[e1]
 exact(dG [2,2,1,1,1,1,1,1,0,0])
theorem EJ(ok:C.Ok b e)(hb:b<100000000)(n:Int):aH Tryz.prog 67 [.pointer (some ⟨p,0,none⟩),.int .i64 n] Fr w [eY p C]
  (fun v L=>v=.int .i64 (C.join n).2∧L=[eY p (C.join n).1]):=by
 refine TF 65 Tryz.func67 Z yn ah Z Z ?_
 refine TV ?_
 rintro y fit
 refine CN (L':=dh y.mp C.dk::O4 p C y C.cB) ((ae.of_eq (Zi _)).trans AD).ar ?_
 have hnn:=mK fit
 have hjb:=JJ (M:=C.dk) (n:=n) (now:=C.now)
 have hjf:=ok.dk.CJ n C.now
 have hr0:(C.dk.join n C.now).2.2≠0→C.join n=(C,(C.dk.join n C.now).2.2):=fun h=>by unfold av.join;dsimp only;rw[if_pos h]
 have hr1:(C.dk.join n C.now).2.2=0→C.join n=((({ C with dk:=(C.dk.join n C.now).1 }:av).back n).post 16 (C.dk.join n C.now).2.1,0):=fun h=>by unfold av.join;dsimp only;rw[if_neg ir]
 refine aq ?_
 refine CD (ts 0 9 (.only 9 (ts 10 5 .nil))) yn yr ?_
 refine qe ?_
 refine AG (AQ 0 Z (fun Fr w hF hs hS=>EF Fr w ok.dk n C.now) Z Z FQ ?_ ?_)
 ·rintro _ _ ⟨X,a,c,hX,rfl,rfl⟩
  exact yu
 rintro _ _ ⟨X,a,c,hX,rfl,rfl⟩
 generalize C.dk.join n C.now=J at hjb hjf hr0 hr1 hX
 obtain⟨m,S,er⟩:=J
 dsimp only at hjb hjf hr0 hr1 hX ⊢
 obtain⟨fw,okm⟩:=hjf
 refine qe ?_
 refine aq ?_
 refine VC.bp Z (fun k1=>?_) (fun k1=>CK ?_)
 ·refine aq ?_
  exact CR (ay.tmp 4 Z Z (mM (p:=p) (C:=C) (m:=m) (l:=C.cB) (a:=a) (c:=c) (X:=X) (R:=[]) fit).ar ⟨by rw[hr0 k1],by rw[hr0 k1,hjb k1]⟩)
 have hr:=hr1 On
 refine CS (CS (CG ?_))
 refine aq ?_
 refine VG (VV (fun Fr w hF hw hS=>AA Fr w fit (hS.aP 1 Z) (hS.aP 3 Z) n) Z ?_)
 refine aq ?_
 have hbk:({ C with dk:=m }:av).back n=if C.u9 n=61 then (({ C with dk:=m }:av).setNode n (some (cz (fu C.iS n true) 16 (oQ m.ch) m.ch.ms C.now).1)).post n (sJ (cz (fu C.iS n true) 16 (oQ m.ch) m.ch.ms C.now).2) else ({ C with dk:=m }:av):=rfl
 refine CE Z (fun h61=>?_) (fun h61=>CK ?_)
 rotate_left
 ·rw[hbk,if_neg h61] at hr
  refine CS (CG ?_)
  refine aq ?_
  refine VG (VQ 5 Z (fun Fr w hF hs hS=>ee Fr w (hS.aP 1 Z) ok.cB 16 (pO.at_ 0 hS Z hX fw)) Z (ψ:=fun v H=>v=.tuple #[]∧H=eG y.lp (bW 16 C.cB (X.map Prod.fst))) yy ?_)
  rintro _ _ ⟨rfl,rfl⟩
  rw[hX]
  refine aq ?_
  exact CR (ay.tmp 4 Z Z (mM (p:=p) (C:=C) (m:=m) (l:=bW 16 C.cB S) (a:=a) (c:=c) (X:=X) (R:=[]) fit).ar ⟨by rw[hr],by rw[hr];rfl⟩)
 rw[hbk,if_pos h61] at hr
 obtain⟨k,rfl,hk,hkn⟩:∃k:Nat,n=k∧k<y.nr.length∧y.nr[k]?=some none:=by
  have hu:=h61
  unfold av.u9 at hu
  split at hu
  ·cases hu
  ·rename_i h1
   split at hu
   ·rename_i h2
    have hk:n.toNat<y.nr.length:=by omega
    have en:n=(n.toNat:Int):=by omega
    have hz:y.nr[n.toNat]?=some y.nr[n.toNat]:=GE hk
    refine⟨n.toNat,en,hk,?_⟩
    have:=(pF fit hz).1
    rw[←en] at this
    rw[this] at h2
    rw[hz]
    cases hq:y.nr[n.toNat] with
    | none=>rfl
    | some v=>rw[hq] at h2;cases h2
   ·cases hu
 have hnl:=ok.nl
 have hnb:=cN ok.cf
 have hok:nq C.iS (k:Int):=⟨ok.cf,by omega,by omega⟩
 have hfit:=uZ ok.cf (k:Int) true
 have hlast:(fu C.iS (k:Int) true).bC.last=0:=by
  unfold fu;split
  ·rfl
  split<;>rfl
 have hml:=okm.ml
 have hei:(oQ m.ch).entry.index=0:=rfl
 refine jA ?_
 refine VG (VL 1 (C.iS.cells y.qa y.qc) Z Z Z Z ?_)
 refine jA ?_
 refine VG (VK (Lc:=[]) (fun Fr w hF hw hS=>Rep.dH Fr w C.iS y.qa y.qc (gA (hS.at_ 2 Z)) trivial fit.qc k true) Z Z ?_)
 intro v L hv
 rw[if_pos hok] at hv
 obtain⟨q,rfl,rfl⟩:=hv
 generalize fu C.iS (k:Int) true=r0 at hfit hlast hr
 have fw2:gw (sJ (cz r0 16 (oQ m.ch) m.ch.ms C.now).2):=gw.of (by have:=mL hfit 16 (oQ m.ch) m.ch.ms C.now;omega)
 have okl2:=ba.Ok.bW (k:Int) (sJ (cz r0 16 (oQ m.ch) m.ch.ms C.now).2) ok.cB
 refine aq ?_
 refine sf ?_
 refine Rr ?_
 refine VG (VO.st 4 (cs':=flat kN (y.nr.set k (some (q,r0)))++y.nx) Z Z Z Z WM (yI (some (q,r0)) hk y.nx) Z ?_)
 refine aq ?_
 refine sf ?_
 refine VG (VK (Lc:=[]) (fun Fr w hF hw hS=>C4 Fr w okm (((hS.at_ 1 Z).sep).at_ 0 Z)) Z Z ?_)
 rintro _ _ ⟨ma,mc,rfl,rfl⟩
 refine aq ?_
 refine VG (VI (LB (pv:=[(0,.int .i64 8),(11,.agg (m.ch.cells ma mc).toArray)]) ((oQ m.ch).cells (ma,m.ch.ms.length,mc)) Z Z Z yn Z) ?_)
 refine VG (VO.alloc Z fun fb=>?_)
 refine VG (VT (vs:=(oQ m.ch).cells (ma,m.ch.ms.length,mc)) (cs':=(oQ m.ch).cells (ma,m.ch.ms.length,mc)) 0 Z Z Z Z (NR _) Z Z Z ?_)
 refine aq ?_
 refine CD (ts 0 8 (.only 8 (.only 9 .nil))) yn yr ?_
 refine J0 ?_
 refine AG (VA.kn 0 ((oQ m.ch).cells (ma,m.ch.ms.length,mc)) Z Z Z Z Z ?_)
 refine J0 ?_
 refine AG (AQ 2 Z (fun Fr w hF hs hS=>v7 Fr w hfit yd 16 (oQ m.ch) (aI.aJ aF (hS.at_ 1 Z)) yd C.now yd yd) Z Z FQ ?_ ?_)
 ·rintro _ _ ⟨X2,a2,c2,hX2,rfl,rfl⟩
  exact WG
 rintro _ _ ⟨X2,a2,c2,hX2,rfl,rfl⟩
 generalize cz r0 16 (oQ m.ch) m.ch.ms C.now=T at hr fw2 okl2 hX2
 refine AG (AQ 8 Z (fun Fr w hF hs hS=>ee Fr w (hS.aP 4 Z) ok.cB k (pO.at_ 2 hS Z hX2 fw2)) Z Z (ψ:=fun v H=>v=.tuple #[]∧H=eG y.lp (bW k C.cB (X2.map Prod.fst))) yy ?_ ?_)
 ·rintro _ _ ⟨rfl,rfl⟩
  exact WG
 rintro _ _ ⟨rfl,rfl⟩
 rw[hX2]
 refine Hz ?_
 refine VG (VQ 8 Z (fun Fr w hF hs hS=>ee Fr w (hS.aP 4 Z) okl2 16 (pO.at_ 3 hS Z hX fw)) Z (ψ:=fun v H=>v=.tuple #[]∧H=eG y.lp (bW 16 (bW k C.cB (sJ T.2)) (X.map Prod.fst))) yy ?_)
 rintro _ _ ⟨rfl,rfl⟩
 rw[hX]
 refine aq ?_
 exact CR (ay.tmp 4 Z Z (ae.trans (ae.tail (H:=pt fb _ g_)) (ae.trans (ae.tail (H:=aJ aG 2 ma _ mc _)) (Ho (p:=p) (C:=C) (r:=r0) (r':=T.1) (m:=m) (l:=bW 16 (bW k C.cB (sJ T.2)) S) (a:=a2) (c:=c2) (X:=X2) (a':=a) (c':=c) (X':=X) fit hk))).ar ⟨by rw[hr],by rw[hr];rfl⟩)
end
end Cl
namespace Cl
open Go Vg T Api Ch Rep Conf Lg Rd
attribute [local irreducible] VO VC VA
theorem C5{α β:Type}(f:β→α×Nat→β)(x:β){l:List α}{k:Nat}{a:α}(h:l[k]?=some a):(l.zipIdx.take (k+1)).foldl f x=f ((l.zipIdx.take k).foldl f x) (a,k):=by
 have:l.zipIdx[k]?=some (a,k):=by rw[List.getElem?_zipIdx,h];simp
 rw[Zu,this,List.foldl_append]
 rfl
theorem FL{α β:Type}(f:β→α×Nat→β)(x:β)(l:List α):(l.zipIdx.take l.length).foldl f x=l.zipIdx.foldl f x:=by
 rw[Z3 (by rw[List.length_zipIdx];exact NR _)]
section
variable {p:Nat} {C:av} {b e:Nat}
theorem AE(ok:C.Ok b e)(he:e<1000000):aH Tryz.prog 39 [.pointer (some ⟨p,0,none⟩)] Fr w [eY p C]
  (fun v L=>v=.tuple #[]∧L=[eY p C.behind]):=by
 have hcl:=ok.ff
 have hnd:=ok.QH
 have hev:=ok.ev
 have hdn:=ok.dn
 refine TF 115 Tryz.func39 Z yn ah Z Z ?_
 refine TV ?_
 rintro y fit
 refine Vt ?_
 have hln:=pE fit
 have hnn:=mK fit
 refine an ?_
 refine VC.loop (σ:=Nat) (fun k=>[(0,pV p),(17,.slice (some ⟨y.cb,0,none⟩) y.cr.length y.cc),(18,.int .i64 y.cr.length),(19,.int .i64 (k:Int))])
  (fun k=>gO p ({ C with gx:=(C.ff.zipIdx.take k).foldl rE C.gx }:av) y) (fun k=>k≤y.cr.length) (fun k=>y.cr.length-k) 0
  (Zj _) bd ER ?_
 rintro k hk0
 have hH:=av.Ok.JC ok.gx (C.ff.zipIdx.take k) (by rw[Zw,List.length_zipIdx];omega)
 rw[Zw,List.length_zipIdx] at hH
 obtain⟨okh,-,hhe⟩:=hH
 refine aq ?_
 refine CP (p:=(k:Int)<y.cr.length) Z (fun h1=>CK ?_) (fun h1=>CX ?_)
 ·have hkl:k<y.cr.length:=by omega
  have hx2:y.cr[k]?=some y.cr[k]:=GE hkl
  generalize y.cr[k]=z at hx2
  obtain⟨q,s⟩:=z
  obtain⟨hnx,hns⟩:=Az fit (k:=k) (x:=(q,s)) hx2
  have hm:s∈C.ff:=ME hns
  have hsu:=C5 rE C.gx hns
  generalize (C.ff.zipIdx.take k).foldl rE C.gx=H at okh hhe hsu
  have hcp:(y.cr.map rY)[k]?=some (cw q s):=by rw[Zn,hx2];rfl
  refine HA ?_
  refine VG (VO.load Z Z (aE.one 4 Z (rZ hx2)) ?_)
  refine aq ?_
  refine VG (VV (fun Fr w hF hw hS=>wZ Fr w (ok.CI s hm) (((hS.at_ 9 Z).sep).at_ k hcp)) Z ?_)
  unfold Qw
  generalize ho:s.outcome=o
  refine aq ?_
  refine VG (VO.alloc Z fun ob=>?_)
  refine VG (VT (vs:=eK (o.getD jy)) (cs':=eK (o.getD jy)) 0 Z Z Z Z (NR _) Z Z Z ?_)
  refine aq ?_
  cases o with
  | none=>
   have e1:rE H (s,k)=H:=by unfold rE;dsimp only;rw[ho]
   refine r_ ?_
   refine qO ?_
   exact Yr
  | some o=>
   have e1:rE H (s,k)=H.end_ k s.seq o:=by unfold rE;dsimp only;rw[ho]
   refine wm ?_
   refine CD (ts 0 6 (ts 7 1 (.only 6 (.only 8 .nil)))) yn yr ?_
   refine qe ?_
   refine AG (VA.kn 0 (eK o) Z Z Z Z Z ?_)
   refine AG (AR (fun Fr w hF hw hS=>yC Fr w (ok.CI s hm) (((hS.at_ 10 Z).sep).at_ k hcp)) Z Z WI ?_)
   refine AG (AQ 7 Z (fun Fr w hF hs hS=>G5 Fr w okh yd k s.seq o) Z Z (ψ:=fun v K=>v=.int .i64 (H.wT k s.seq o)∧K=kJ y.hp (H.end_ k s.seq o)) yy ?_ ?_)
   ·rintro _ _ ⟨rfl,rfl⟩
    exact WI
   rintro _ _ ⟨rfl,rfl⟩
   refine ji ?_
   refine qO ?_
   exact Yr
 have hkn:k=C.ff.length:=by omega
 subst hkn
 rw[FL]
 generalize hH2:C.ff.zipIdx.foldl rE C.gx=H
 clear okh hhe
 refine an ?_
 refine VC.loop (σ:=Nat×Option Addr×Nat) (fun s=>[(0,pV p),(43,.slice (some ⟨y.nb,0,none⟩) y.nr.length y.nc),(44,.int .i64 y.nr.length),(45,.int .i64 (s.1:Int))])
  (fun s=>gO p ({ C with gx:=H,done:=(C.nodes.zipIdx.take s.1).foldl im C.done }:av) { y with da:=s.2.1,dc:=s.2.2 }) (fun s=>s.1≤y.nr.length) (fun s=>y.nr.length-s.1) (0,y.da,y.dc)
  (Zj _) bd ER ?_
 rintro⟨k,da,dc⟩ hk0
 dsimp only at hk0
 have hdk:((C.nodes.zipIdx.take k).foldl im C.done).length≤4096:=av.Ok.JD hdn fun x hx r hr=>ok.fit r (by
  have:=List.mem_zipIdx' (x:=x.1) (i:=x.2) (List.mem_of_mem_take hx)
  rw[←hr]
  exact ME (by rw[GE this.1,←this.2]))
 refine aq ?_
 refine CP (p:=(k:Int)<y.nr.length) Z (fun h1=>CK ?_) (fun h1=>CX ?_)
 rotate_left
 ·have hkn:k=C.nodes.length:=by omega
  subst hkn
  have hfin:C.behind=({ C with gx:=H,done:=(C.nodes.zipIdx.take C.nodes.length).foldl im C.done }:av):=by rw[FL,←hH2];rfl
  exact ay.void Z (gf (p:=p) (C:=({ C with gx:=H,done:=(C.nodes.zipIdx.take C.nodes.length).foldl im C.done }:av)) (y:={ y with da:=da,dc:=dc }) (R:=[]) ⟨fit.nr,fit.cr,fit.qc⟩).ar ⟨rfl,by rw[hfin]⟩
 have hkl:k<y.nr.length:=by omega
 have hx2:y.nr[k]?=some y.nr[k]:=GE hkl
 generalize y.nr[k]=z at hx2
 obtain⟨hnx,hns⟩:=pF fit (k:=k) (x:=z) hx2
 have hsu:=C5 im C.done hns
 generalize (C.nodes.zipIdx.take k).foldl im C.done=d at hdk hsu
 refine CS (VC.cq (σ:=Option Addr×Nat) (fun _=>[(0,pV p),(43,.slice (some ⟨y.nb,0,none⟩) y.nr.length y.nc),(44,.int .i64 y.nr.length),(45,.int .i64 (k:Int))])
  (fun s=>gO p ({ C with gx:=H,done:=(C.nodes.zipIdx.take (k+1)).foldl im C.done }:av) { y with da:=s.1,dc:=s.2 }) (fun _=>True) ?_ ?_)
 rotate_left
 ·rintro⟨da',dc'⟩ -
  refine qO ?_
  exact⟨(k+1,da',dc'),by dsimp only;omega,by dsimp only;omega,SC Z (SC Z (SC Z (Sub.int Z yd (SN _)))),ER⟩
 have stay:im d (z.map Prod.snd,k)=d→gO p ({ C with gx:=H,done:=(C.nodes.zipIdx.take (k+1)).foldl im C.done }:av) { y with da:=da,dc:=dc }=gO p ({ C with gx:=H,done:=d }:av) { y with da:=da,dc:=dc }:=fun h=>by rw[hsu,h]
 refine HA ?_
 refine VG (VO.load Z Z (aE.one 3 Z (iQ hx2)) ?_)
 cases z with
 | none=>
  refine aq ?_
  refine VG (VY 52 true Z Z ?_)
  refine Ki ?_
  refine CX ?_
  exact⟨(da,dc),trivial,bd,by dsimp only;rw[stay rfl];exact ER⟩
 | some z=>
 obtain⟨q,r⟩:=z
 have hm:some r∈C.nodes:=ME hns
 have okr:=(ok.fit r hm).ok
 have hcp:(y.nr.map kO)[k]?=some (bz q r):=by rw[Zn,hx2];rfl
 have hdN:im d (some r,k)=if r.since=0∨r.ch.ms.length=0∨tX r.ch.ms≠k∨r.win.done≤d.length then d else d++(r.log.take r.win.done.toNat).drop d.length:=rfl
 show VO _ _ _ _ (cC (some 49) (.pointer (some ⟨q,0,none⟩)) _) _ _
 refine aq ?_
 refine VG (VY 52 false Z Z ?_)
 refine aK ?_
 refine VG (VV (fun Fr w hF hw hS=>BN Fr w (((hS.at_ 8 Z).sep).at_ k hcp)) Z ?_)
 refine aq ?_
 refine CP (p:=r.since=0) Z (fun k1=>?_) (fun k1=>CK ?_)
 ·refine CX ?_
  exact⟨(da,dc),trivial,bd,by dsimp only;rw[stay (by show im d (some r,k)=d;rw[hdN,if_pos (.inl k1)])];exact ER⟩
 refine aq ?_
 refine VG (VK (Lc:=[]) (fun Fr w hF hw hS=>Rep.DY Fr w okr (((hS.at_ 8 Z).sep).at_ k hcp)) Z Z ?_)
 rintro _ _ ⟨ma,mc,rfl,rfl⟩
 refine VO.e7 0 Z (aV.rl aG ma mc r.ch.ms aF) ?_
 rintro⟨ra,rc,rb,rcs,rxs⟩ ⟨rok,rv,rx⟩
 dsimp only at rx
 subst rx
 injection rv with e1 _ e3
 subst e1 e3
 refine aq ?_
 refine VG (VI (xW (v:=.slice ra r.ch.ms.length rc) Tryz.underlying105 Z Z (fun w=>pT (nK.look ah (t:=103) (ti:=T.t103) Z) Z Z w)) ?_)
 refine aq ?_
 by_cases k2:r.ch.ms.length=0
 ·refine VG (VY 63 true Z (DT yd) ?_)
  refine Ki ?_
  refine CX ?_
  exact⟨(da,dc),trivial,bd,by dsimp only;rw[stay (by show im d (some r,k)=d;rw[hdN,if_pos (.inr (.inl k2))])];exact ae.tail.ar⟩
 have hml:=okr.ch.len
 have hlm:r.ch.ms[r.ch.ms.length-1]?=some r.ch.ms[r.ch.ms.length-1]:=GE yd
 generalize r.ch.ms[r.ch.ms.length-1]=lm at hlm
 have hlq:tX r.ch.ms=lm.1:=by unfold tX;rw[List.getLast?_eq_getElem?,hlm]
 obtain⟨tb,tof,htb,hta,hrd⟩:=RL.Ok.ld (t:=aG) (k:=r.ch.ms.length-1) (x:=lm) rok hlm (aF lm)
 dsimp only at hta
 subst hta
 refine VG (VY 63 false Z (DF yd) ?_)
 refine aK ?_
 refine HH ?_
 rw[show((r.ch.ms.length:Int)-1)=((r.ch.ms.length-1:Nat):Int) by omega]
 refine VG (VI (a_ (r.ch.ms.length-1) Z Z Z Z Z Z yd) ?_)
 refine aq ?_
 refine VG (VO.load Z Z ((hrd 0 Z).2 _ 0 (.int .i64 lm.1) Z Z) ?_)
 refine aq ?_
 refine VC.bp Z (fun k3=>?_) (fun k3=>CK ?_)
 ·refine CX ?_
  exact⟨(da,dc),trivial,bd,by dsimp only;rw[stay (by show im d (some r,k)=d;rw[hdN,if_pos (.inr (.inr (.inl (by rw[hlq];exact k3))))])];exact ae.tail.ar⟩
 refine aq ?_
 refine VG (VK (Lc:=[]) (fun Fr w hF hw hS=>BO Fr w okr (((hS.at_ 9 Z).sep).at_ k hcp)) Z Z ?_)
 rintro _ _ ⟨wq,rfl,rfl⟩
 refine VG (VV (fun Fr w hF hw hS=>Win.pq Fr w (hS.aP 0 Z) okr.win.eS) Z ?_)
 refine aq ?_
 refine sf ?_
 refine CP (p:=r.win.done≤(d.length:Int)) Z (fun k4=>?_) (fun k4=>CK ?_)
 ·refine CX ?_
  exact⟨(da,dc),trivial,bd,by dsimp only;rw[stay (by show im d (some r,k)=d;rw[hdN,if_pos (.inr (.inr (.inr k4)))])];exact(ae.trans ae.tail ae.tail).ar⟩
 have hd1:=okr.win.jM
 have hd2:=okr.last
 have hd3:=okr.win.gS
 have hdE:im d (some r,k)=d++(r.log.drop d.length).take (r.win.done.toNat-d.length):=by
  rw[hdN,if_neg (by rw[hlq];omega),List.drop_take]
 refine aq ?_
 refine VG (VK (Lc:=[]) (fun Fr w hF hw hS=>IF Fr w okr (((hS.at_ 10 Z).sep).at_ k hcp)) Z Z ?_)
 rintro _ _ ⟨lq,rfl,rfl⟩
 refine aq ?_
 refine Vk ?_
 refine VG (VP Z Z tL tL ?_)
 refine aq ?_
 refine VC.loop (σ:=Nat×Option Addr×Nat) (fun s=>[(0,pV p),(9,.int .i64 r.win.done),(10,pV lq),(11,.int .i64 ((d.length:Int)+1+(s.1:Int))),(43,.slice (some ⟨y.nb,0,none⟩) y.nr.length y.nc),(44,.int .i64 y.nr.length),(45,.int .i64 (k:Int))])
  (fun s=>b9 lq r.log::gO p ({ C with gx:=H,done:=d++(r.log.drop d.length).take s.1 }:av) { y with da:=s.2.1,dc:=s.2.2 }) (fun s=>(d.length:Int)+s.1≤r.win.done) (fun s=>(r.win.done-d.length).toNat-s.1) (0,da,dc)
  tL (SC rfl (SC rfl (SC rfl (Sub.int rfl tL bd)))) (by dsimp only;rw[Z0,Zi];exact(ae.cons (ae.trans ae.tail ae.tail)).ar) ?_
 rintro⟨j,da',dc'⟩ hj
 dsimp only at hj ⊢
 refine aq ?_
 refine CP (p:=(d.length:Int)+1+j≤r.win.done) Z (fun k5=>CK ?_) (fun k5=>CX ?_)
 rotate_left
 ·have hjj:j=r.win.done.toNat-d.length:=by omega
  subst hjj
  exact⟨(da',dc'),trivial,bd,by dsimp only;rw[hsu];show jj _ _ (gO p ({ C with gx:=H,done:=im d (some r,k) }:av) _);rw[hdE];exact ae.tail.ar⟩
 have hle:r.log[d.length+j]?=some r.log[d.length+j]:=GE yd
 generalize r.log[d.length+j]=e0 at hle
 have hat:pL r.log ((d.length:Int)+1+j)=some e0:=by
  unfold pL
  rw[if_pos yd,←hle]
  congr 1
  omega
 have htk:d++(r.log.drop d.length).take (j+1)=(d++(r.log.drop d.length).take j) ++ [e0]:=by
  rw[Zu,List.getElem?_drop,hle,Zr]
  rfl
 have hDl:(d++(r.log.drop d.length).take j).length≤10000:=by
  rw[Zh,Zw,Z7];omega
 generalize hDD:d++(r.log.drop d.length).take j=D at htk hDl
 refine aq ?_
 refine VG (VV (fun Fr w hF hw hS=>Lg.rf Fr w (hS.at_ 0 Z) ((d.length:Int)+1+j) yd yd) Z ?_)
 rw[hat]
 refine aq ?_
 refine VG (VO.alloc Z fun eb=>?_)
 refine VG (VT (vs:=cL e0) (cs':=cL e0) 0 Z Z Z Z (NR _) Z Z Z ?_)
 refine Pa ?_
 refine CD (ts 0 6 (.only 6 (.only 7 (ts 8 2 (.only 10 .nil))))) yn yr ?_
 refine sg ?_
 refine AG (VA.kn 0 (cL e0) Z Z Z Z Z ?_)
 refine AG (AO (a8.buildSlice (n:=1) (pv:=[(0,.agg (cL e0).toArray)]) (cells:=cL e0) rfl rfl rfl rfl yp (bM rfl rfl rfl)) rfl (fun v L' g=>by obtain⟨nb,rfl,rfl⟩:=g;exact(by(try refine Pd.st ?_);(repeat(first|exact Pd.nil|exact Pd.fnil|refine Pd.inner ?_|refine Pd.skip yr ?_|refine zf (zo 0 rfl rfl) ?_|refine zf (zo 1 rfl rfl) ?_|refine zf (zo 2 rfl rfl) ?_|refine zf (zo 3 rfl rfl) ?_|refine zf (zm 0 rfl rfl) ?_|refine zf (zm 1 rfl rfl) ?_|refine zf (zm 2 rfl rfl) ?_|refine zf (zm 3 rfl rfl) ?_|refine zf (aE.aP (aE.many 1 rfl rfl) rfl) ?_|refine zf ((aE.many 1 rfl rfl)) ?_|refine zc (zo 0 rfl rfl) ?_|refine zc (zo 1 rfl rfl) ?_|refine zc (zo 2 rfl rfl) ?_|refine zc (zo 3 rfl rfl) ?_|refine zc (zm 0 rfl rfl) ?_|refine zc (zm 1 rfl rfl) ?_|refine zc (zm 2 rfl rfl) ?_|refine zc (zm 3 rfl rfl) ?_|refine zc (aE.aP (aE.many 1 rfl rfl) rfl) ?_|refine zc ((aE.many 1 rfl rfl)) ?_)))) ?_)
 rintro _ _ ⟨nb,rfl,rfl⟩
 refine AG (AO (a8.append (m:=1) (news:=cL e0) 10 rfl rfl rfl rfl rfl rfl rfl (dq.pt 0 rfl rfl rfl) rfl (ki (k:=20000) tL yp) tL) rfl (fun v L' g=>by obtain⟨a2,c2,rfl,hc2,rfl⟩:=g;exact(by(try refine Pd.st ?_);(repeat(first|exact Pd.nil|exact Pd.fnil|refine Pd.inner ?_|refine Pd.skip yr ?_|refine zf (zo 0 rfl rfl) ?_|refine zf (zo 1 rfl rfl) ?_|refine zf (zo 2 rfl rfl) ?_|refine zf (zo 3 rfl rfl) ?_|refine zf (zo 4 rfl rfl) ?_|refine zf (zm 0 rfl rfl) ?_|refine zf (zm 1 rfl rfl) ?_|refine zf (zm 2 rfl rfl) ?_|refine zf (zm 3 rfl rfl) ?_|refine zf (zm 4 rfl rfl) ?_|refine zf (aE.aP (aE.many 2 rfl rfl) rfl) ?_|refine zf ((aE.many 2 rfl rfl)) ?_|refine zc (zo 0 rfl rfl) ?_|refine zc (zo 1 rfl rfl) ?_|refine zc (zo 2 rfl rfl) ?_|refine zc (zo 3 rfl rfl) ?_|refine zc (zo 4 rfl rfl) ?_|refine zc (zm 0 rfl rfl) ?_|refine zc (zm 1 rfl rfl) ?_|refine zc (zm 2 rfl rfl) ?_|refine zc (zm 3 rfl rfl) ?_|refine zc (zm 4 rfl rfl) ?_|refine zc (aE.aP (aE.many 2 rfl rfl) rfl) ?_|refine zc ((aE.many 2 rfl rfl)) ?_)))) ?_)
 rintro _ _ ⟨a2,c2,rfl,hc2,rfl⟩
 refine J0 ?_
 refine AG (VA.st 4 (cs':=nI ({ C with gx:=H,done:=D ++ [e0] }:av) { y with da:=a2,dc:=c2 }) Z Z Z Z Z (by show 18<19;omega) (by unfold nI;dsimp only;rw[Zh];rfl) Z (by(try refine Pd.st ?_);(repeat(first|exact Pd.nil|exact Pd.fnil|refine Pd.inner ?_|refine Pd.skip yr ?_|refine zf (zo 0 Z Z) ?_|refine zf (zo 1 Z Z) ?_|refine zf (zo 2 Z Z) ?_|refine zf (zo 3 Z Z) ?_|refine zf (zo 4 Z Z) ?_|refine zf (zm 0 Z Z) ?_|refine zf (zm 1 Z Z) ?_|refine zf (zm 2 Z Z) ?_|refine zf (zm 3 Z Z) ?_|refine zf (zm 4 Z Z) ?_|refine zf (aE.aP (aE.many 2 Z Z) Z) ?_|refine zf ((aE.many 2 Z Z)) ?_|refine zc (zo 0 Z Z) ?_|refine zc (zo 1 Z Z) ?_|refine zc (zo 2 Z Z) ?_|refine zc (zo 3 Z Z) ?_|refine zc (zo 4 Z Z) ?_|refine zc (zm 0 Z Z) ?_|refine zc (zm 1 Z Z) ?_|refine zc (zm 2 Z Z) ?_|refine zc (zm 3 Z Z) ?_|refine zc (zm 4 Z Z) ?_|refine zc (aE.aP (aE.many 2 Z Z) Z) ?_|refine zc ((aE.many 2 Z Z)) ?_))) ?_)
 refine ji ?_
 refine qO ?_
 refine⟨(j+1,a2,c2),by dsimp only;omega,by dsimp only;omega,SC Z (SC Z (SC Z (Sub.int Z yd bd))),?_⟩
 dsimp only
 rw[htk]
 refine ae.ar ?_
 refine IP 3 Z (IP 3 Z (IP 3 Z (IP 3 Z (IP 3 Z (IP 3 Z (IP 3 Z (IP 3 Z ?_)))))))
 rw[bf,Zh]
 exact(dG [0,2,2])
end
end Cl
namespace Cl
open Go Vg T Api Ch Rep Conf Lg Rd
attribute [local irreducible] VO VC VA
theorem Wr(C:av){s:gi}(h:s.kind=1):C.step s=C.call s:=by
 unfold av.step
 rw[if_pos h]
theorem Ws(C:av){s:gi}(h:s.kind=2):C.step s=match C.node s.a with
  | none=>(C,C.u9 s.a)
  | some r=>((C.setNode s.a (some (gK r C.now).1)).post s.a (sJ (gK r C.now).2),0):=by
 unfold av.step
 rw[if_neg ir,if_pos h]<;>rfl
theorem Wt(C:av){s:gi}(h:s.kind=3):C.step s=(C.tick,0):=by
 unfold av.step
 rw[if_neg ir,if_neg ir,if_pos h]
theorem Wu(C:av){s:gi}(h:s.kind=4):C.step s=C.fB (s.a,s.b) s.c:=by
 unfold av.step
 rw[if_neg ir,if_neg ir,if_neg ir,if_pos h]
theorem Wv(C:av){s:gi}(h:s.kind=5):C.step s=({ C with cB:=(C.cB.drop (s.a,s.b) s.c).1 },(C.cB.drop (s.a,s.b) s.c).2):=by
 unfold av.step
 rw[if_neg ir,if_neg ir,if_neg ir,if_neg ir,if_pos h]
theorem Ww(C:av){s:gi}(h:s.kind=6):C.step s=({ C with cB:=(C.cB.double (s.a,s.b) s.c).1 },(C.cB.double (s.a,s.b) s.c).2):=by
 unfold av.step
 rw[if_neg ir,if_neg ir,if_neg ir,if_neg ir,if_neg ir,if_pos h]
theorem Wx(C:av){s:gi}(h:s.kind=7):C.step s=if C.u9 s.a≠0 then (C,C.u9 s.a) else (C.setNode s.a none,0):=by
 unfold av.step
 rw[if_neg ir,if_neg ir,if_neg ir,if_neg ir,if_neg ir,if_neg ir,if_pos h]
theorem Wy(C:av){s:gi}(h:s.kind=8):C.step s=(({ C with dk:=(C.dk.cW s.a).1 }:av).post 16 (C.dk.cW s.a).2.1,(C.dk.cW s.a).2.2):=by
 unfold av.step
 rw[if_neg ir,if_neg ir,if_neg ir,if_neg ir,if_neg ir,if_neg ir,if_neg ir,if_pos h]
theorem Wz(C:av){s:gi}(h:s.kind=9):C.step s=C.join s.a:=by
 unfold av.step
 rw[if_neg ir,if_neg ir,if_neg ir,if_neg ir,if_neg ir,if_neg ir,if_neg ir,if_neg ir,if_pos h]
theorem SQ(C:av){s:gi}(h:s.kind=10):C.step s=(({ C with dk:=(C.dk.drain s.a).1 }:av).post 16 (C.dk.drain s.a).2.1,(C.dk.drain s.a).2.2):=by
 unfold av.step
 rw[if_neg ir,if_neg ir,if_neg ir,if_neg ir,if_neg ir,if_neg ir,if_neg ir,if_neg ir,if_neg ir,if_pos h]
theorem SR(C:av){s:gi}(h:s.kind=11):C.step s=(({ C with dk:=(C.dk.tick C.now).1 }:av).post 16 (C.dk.tick C.now).2,0):=by
 unfold av.step
 rw[if_neg ir,if_neg ir,if_neg ir,if_neg ir,if_neg ir,if_neg ir,if_neg ir,if_neg ir,if_neg ir,if_neg ir,if_pos h]
theorem SS(C:av){s:gi}(h:∀k:Nat,1≤k→k≤11→s.kind≠k):C.step s=(C,2):=by
 unfold av.step
 rw[if_neg (show ¬s.kind=1 from h 1 yp yp),if_neg (show ¬s.kind=2 from h 2 yp yp),if_neg (show ¬s.kind=3 from h 3 yp yp),if_neg (show ¬s.kind=4 from h 4 yp yp),if_neg (show ¬s.kind=5 from h 5 yp yp),if_neg (show ¬s.kind=6 from h 6 yp yp),if_neg (show ¬s.kind=7 from h 7 yp yp),if_neg (show ¬s.kind=8 from h 8 yp yp),if_neg (show ¬s.kind=9 from h 9 yp yp),if_neg (show ¬s.kind=10 from h 10 yp yp),if_neg (show ¬s.kind=11 from h 11 yp yp)]
theorem SU{C:av}{n:Int}(h:C.u9 n=0):∃(k:Nat) (r:au),n=k∧C.nodes[k]?=some (some r)∧C.node n=some r:=by
 unfold av.u9 at h
 split at h
 ·cases h
 ·rename_i h1
  split at h
  ·cases h
  ·rename_i h2
   cases hn:C.node n with
   | none=>rw[hn] at h2;exact absurd rfl h2
   | some r=>
    refine⟨n.toNat,r,by omega,?_,Z⟩
    unfold av.node at hn
    rw[if_neg yd] at hn
    cases hx:C.nodes[n.toNat]? with
    | none=>rw[hx] at hn;cases hn
    | some x=>rw[hx] at hn;obtain rfl:x=some r:=hn;rfl
theorem SV{C:av}{n:Int}(h:C.u9 n≠0):C.node n=none:=by
 unfold av.u9 at h
 split at h
 ·rename_i h1
  unfold av.node
  split
  ·rfl
  ·rw[Z4 yd];rfl
 ·split at h
  ·rename_i h2
   cases hn:C.node n with
   | none=>rfl
   | some r=>rw[hn] at h2;cases h2
  ·exact absurd Z h
section
variable {p:Nat} {C:av} {y:iy} {b e:Nat}
theorem FN(fit:dx C y){k:Nat}{r:au}(h:C.nodes[k]?=some (some r)):∃q,y.nr[k]?=some (some (q,r)):=by
 rw[←fit.nr,Zn] at h
 cases hz:y.nr[k]? with
 | none=>rw[hz] at h;cases h
 | some z=>
  rw[hz] at h
  cases z with
  | none=>cases h
  | some z=>cases h;exact⟨z.1,rfl⟩
theorem EK(fit:dx C y){k:Nat}(hk:k<y.nr.length){R:List HP}:ae ([pt p (nI C y) Ax,mg y.qa y.qc C.iS.qs,dh y.mp C.dk,pt y.nb (flat kN (y.nr.set k none)++y.nx) Ka,pt y.cb (flat rX y.cr++y.cx) N4,eG y.lp C.cB,kJ y.hp C.gx,aJ iE 7 y.da C.done.length y.dc (flat cL C.done),cT (y.nr.map kO),cT (y.cr.map rY)]++R) [eY p (C.setNode k none)]:=by
 have hz:y.nr[k]?=some y.nr[k]:=GE hk
 have e1:=qL (C:=C) (y:=y) (k:=k) (x:=none) (C.setNode k none) rfl rfl rfl
 refine ae.trans (ae.app (M:=_) (M':=[]) (IP 8 Z ae.refl) ae.nil) ?_
 refine ae.trans (ae.of_eq (Zi _)) ?_
 refine ae.trans (pI (f:=kO) hz) ?_
 refine ae.trans ae.tail ?_
 refine ae.trans (M:=kO none::cT ((y.nr.eraseIdx k).map kO)::_) (ae.pure trivial ae.refl) ?_
 refine ae.trans (r5 (f:=kO) hk none) ?_
 refine ae.O0 (K:=[]) (y.node k none) ⟨by show(y.nr.set k none).map _=C.nodes.set k none;rw[ZE,fit.nr];rfl,fit.cr,fit.qc⟩ ?_
 unfold gO
 rw[e1]
 exact(dG [1,1,1,1,1,1,1,1,0,0])
theorem EL(ok:C.Ok b e)(hb:b<100000)(he:e<1000000)(s:gi):aH Tryz.prog 38 [.pointer (some ⟨p,0,none⟩),.agg s.cells.toArray] Fr w [eY p C]
  (fun v L=>v=.int .i64 (C.step s).2∧L=[eY p (C.step s).1]):=by
 refine TF 151 Tryz.func38 Z yn ah Z Z ?_
 refine CS (CG (VG (VB (vs:=s.cells) Z fun sb=>?_)))
 have e7:∀{c:Code} {e:Env} {Q:Exit→Env→List HP→Prop},(∀y,dx C y→VC ⟨Tryz.prog,tab,ah,151,Fr,w⟩ c e (pt sb s.cells yF::gO p C y) Q)→VC ⟨Tryz.prog,tab,ah,151,Fr,w⟩ c e [pt sb s.cells yF,eY p C] Q:=fun h=>by
  refine VC.e7 1 Z (aV.O0 p C) ?_
  rintro y fit
  exact CN (IP 10 Z ae.refl).ar (h y fit)
 refine an ?_
 refine CP (p:=s.kind=1) Z (fun h=>?_) (fun h1=>?_)
 ·have hr:=Wr C h
  refine aq ?_
  refine VG (VL 0 s.cells Z Z Z Z ?_)
  refine VG (VQ 1 Z (fun Fr w hF hs hS=>EG Fr w ok hb he s) Z (ψ:=fun v H=>v=.int .i64 (C.call s).2∧H=eY p (C.call s).1) yy ?_)
  rintro _ _ ⟨rfl,rfl⟩
  refine aq ?_
  exact CR (ay.tmp 4 Z Z (ae.tail (H:=pt sb _ yF) (L:=[eY p (C.call s).1])).ar ⟨by rw[hr],by rw[hr]⟩)
 refine aq ?_
 refine CP (p:=s.kind=2) Z (fun h=>?_) (fun h2=>?_)
 ·have hr:=Ws C h
  refine e7 fun y fit=>?_
  refine an ?_
  refine Ys ?_
  refine aq ?_
  refine VC.bp Z (fun k1=>?_) (fun k1=>CK ?_)
  ·rw[SV k1] at hr
   refine aq ?_
   exact Yt
  obtain⟨k,r,hk,hkr,hnr⟩:=SU (C:=C) (n:=s.a) On
  obtain⟨q,hx⟩:=FN fit hkr
  have hkl:=(Zk.1 hx).1
  have hm:some r∈C.nodes:=ME hkr
  have okr:=(ok.fit r hm).ok
  have fw:gw (sJ (gK r C.now).2):=gw.of (Jx okr C.now)
  rw[hnr] at hr
  dsimp only at hr
  obtain⟨kd,sa,sx,sc,op⟩:=s
  dsimp only at hk hr k1
  subst hk
  refine CN (L':=pt sb (⟨kd,k,sx,sc,op⟩:gi).cells yF::bz q r::O2 p C y k C.cB) (ae.cons (vX hx)).ar ?_
  refine CD (ts 0 15 (.only 15 (.only 16 .nil))) yn yr ?_
  refine sg ?_
  refine AG (AI Z (a_ k Z Z Z Z Z Z hkl) ?_)
  refine AG (yE Z Z Z (aE.one 5 Z (iQ hx)) ?_)
  refine sg ?_
  refine AG (AQ 1 Z (fun Fr w hF hs hS=>ED Fr w okr C.now) Z Z FQ ?_ ?_)
  ·rintro _ _ ⟨X,a,c,hX,rfl,rfl⟩
   exact WH
  rintro _ _ ⟨X,a,c,hX,rfl,rfl⟩
  refine AG (AQ 7 Z (fun Fr w hF hs hS=>ee Fr w (hS.aP 2 Z) ok.cB k (pO.at_ 1 hS Z hX fw)) Z Z (ψ:=fun v H=>v=.tuple #[]∧H=eG y.lp (bW k C.cB (X.map Prod.fst))) yy ?_ ?_)
  ·rintro _ _ ⟨rfl,rfl⟩
   exact WH
  rintro _ _ ⟨rfl,rfl⟩
  rw[hX]
  refine Hz ?_
  exact CR (ay.tmp 4 Z Z (ae.trans (ae.tail (H:=pt sb _ yF)) (yB (p:=p) (r':=(gK r C.now).1) (l:=bW k C.cB (sJ (gK r C.now).2)) (a:=a) (c:=c) (X:=X) (R:=[]) fit hx)).ar ⟨by rw[hr],by rw[hr];rfl⟩)
 refine aq ?_
 refine CP (p:=s.kind=3) Z (fun h=>?_) (fun h3=>?_)
 ·have hr:=Wt C h
  refine aq ?_
  refine VG (VQ 1 Z (fun Fr w hF hs hS=>EH Fr w ok) Z (ψ:=fun v H=>v=.tuple #[]∧H=eY p C.tick) yy ?_)
  rintro _ _ ⟨rfl,rfl⟩
  refine aq ?_
  exact CR (ay.tmp 4 Z Z (ae.tail (H:=pt sb _ yF) (L:=[eY p C.tick])).ar ⟨by rw[hr],by rw[hr]⟩)
 refine aq ?_
 refine CP (p:=s.kind=11) Z (fun h=>?_) (fun h11=>?_)
 ·have hr:=SR C h
  refine e7 fun y fit=>?_
  refine Vx ?_
  have fw:=ok.dk.pd C.now
  refine CD (ts 0 9 (.only 9 (.only 10 .nil))) yn yr ?_
  refine sg ?_
  refine AG (AQ 1 Z (fun Fr w hF hs hS=>CW Fr w ok.dk C.now) Z Z FQ ?_ ?_)
  ·rintro _ _ ⟨X,a,c,hX,rfl,rfl⟩
   exact yu
  rintro _ _ ⟨X,a,c,hX,rfl,rfl⟩
  refine AG (AQ 6 Z (fun Fr w hF hs hS=>ee Fr w (hS.aP 2 Z) ok.cB 16 (pO.at_ 1 hS Z hX fw)) Z Z (ψ:=fun v H=>v=.tuple #[]∧H=eG y.lp (bW 16 C.cB (X.map Prod.fst))) yy ?_ ?_)
  ·rintro _ _ ⟨rfl,rfl⟩
   exact yu
  rintro _ _ ⟨rfl,rfl⟩
  rw[hX]
  refine Hz ?_
  exact CR (ay.tmp 4 Z Z (ae.trans (ae.tail (H:=pt sb _ yF)) (mM (p:=p) (C:=C) (m:=(C.dk.tick C.now).1) (l:=bW 16 C.cB (C.dk.tick C.now).2) (a:=a) (c:=c) (X:=X) (R:=[]) fit)).ar ⟨by rw[hr],by rw[hr];rfl⟩)
 refine aq ?_
 refine CP (p:=s.kind=4) Z (fun h=>?_) (fun h4=>?_)
 ·have hr:=Wu C h
  refine an ?_
  refine VG (VQ 1 Z (fun Fr w hF hs hS=>w6 Fr w ok yd s.a s.b s.c) Z (ψ:=fun v H=>v=.int .i64 (C.fB (s.a,s.b) s.c).2∧H=eY p (C.fB (s.a,s.b) s.c).1) yy ?_)
  rintro _ _ ⟨rfl,rfl⟩
  refine aq ?_
  exact CR (ay.tmp 4 Z Z (ae.tail (H:=pt sb _ yF) (L:=[eY p (C.fB (s.a,s.b) s.c).1])).ar ⟨by rw[hr],by rw[hr]⟩)
 refine aq ?_
 refine CP (p:=s.kind=5) Z (fun h=>?_) (fun h5=>?_)
 ·have hr:=Wv C h
  refine e7 fun y fit=>?_
  refine aq ?_
  refine CD (ts 0 10 (.only 10 (ts 11 1 .nil))) yn yr ?_
  refine qe ?_
  refine AG (AQ 6 Z (fun Fr w hF hs hS=>EA Fr w ok.cB s.a s.b s.c) Z Z (ψ:=fun v H=>v=.int .i64 (C.cB.drop (s.a,s.b) s.c).2∧H=eG y.lp (C.cB.drop (s.a,s.b) s.c).1) yy ?_ ?_)
  ·rintro _ _ ⟨rfl,rfl⟩
   exact yu
  rintro _ _ ⟨rfl,rfl⟩
  refine qe ?_
  refine aq ?_
  exact CR (ay.tmp 4 Z Z (ae.trans (ae.tail (H:=pt sb _ yF)) (gf (p:=p) (C:=({ C with cB:=(C.cB.drop (s.a,s.b) s.c).1 }:av)) (y:=y) (R:=[]) ⟨fit.nr,fit.cr,fit.qc⟩)).ar ⟨by rw[hr],by rw[hr]⟩)
 refine aq ?_
 refine CP (p:=s.kind=6) Z (fun h=>?_) (fun h6=>?_)
 ·have hr:=Ww C h
  refine e7 fun y fit=>?_
  refine aq ?_
  refine CD (ts 0 10 (.only 10 (ts 11 1 .nil))) yn yr ?_
  refine qe ?_
  refine AG (AQ 6 Z (fun Fr w hF hs hS=>Aw Fr w ok.cB s.a s.b s.c) Z Z (ψ:=fun v H=>v=.int .i64 (C.cB.double (s.a,s.b) s.c).2∧H=eG y.lp (C.cB.double (s.a,s.b) s.c).1) yy ?_ ?_)
  ·rintro _ _ ⟨rfl,rfl⟩
   exact yu
  rintro _ _ ⟨rfl,rfl⟩
  refine qe ?_
  refine aq ?_
  exact CR (ay.tmp 4 Z Z (ae.trans (ae.tail (H:=pt sb _ yF)) (gf (p:=p) (C:=({ C with cB:=(C.cB.double (s.a,s.b) s.c).1 }:av)) (y:=y) (R:=[]) ⟨fit.nr,fit.cr,fit.qc⟩)).ar ⟨by rw[hr],by rw[hr]⟩)
 refine aq ?_
 refine CP (p:=s.kind=7) Z (fun h=>?_) (fun h7=>?_)
 ·have hr:=Wx C h
  refine e7 fun y fit=>?_
  refine an ?_
  refine Ys ?_
  refine aq ?_
  refine VC.bp Z (fun k1=>?_) (fun k1=>CK ?_)
  ·rw[if_pos k1] at hr
   refine aq ?_
   exact Yt
  rw[if_neg (fun g=>g On)] at hr
  obtain⟨k,r,hk,hkr,hnr⟩:=SU (C:=C) (n:=s.a) On
  obtain⟨q,hx⟩:=FN fit hkr
  have hkl:=(Zk.1 hx).1
  obtain⟨kd,sa,sx,sc,op⟩:=s
  dsimp only at hk hr k1
  subst hk
  refine CD (ts 0 7 (.only 7 .nil)) yn yr ?_
  refine qe ?_
  refine AG (AI Z (a_ k Z Z Z Z Z Z hkl) ?_)
  refine AG (VA.st 4 (cs':=flat kN (y.nr.set k none)++y.nx) Z Z Z Z Z WM (yI none hkl y.nx) Z yu ?_)
  refine Hz ?_
  exact CR (ay.tmp 4 Z Z (ae.trans (ae.tail (H:=pt sb _ yF)) (EK (p:=p) (C:=C) (R:=[]) fit hkl)).ar ⟨by rw[hr],by rw[hr]⟩)
 refine aq ?_
 refine CP (p:=s.kind=8) Z (fun h=>?_) (fun h8=>?_)
 ·have hr:=Wy C h
  refine e7 fun y fit=>?_
  refine Vx ?_
  have fw:=(ok.dk.tK s.a).1
  refine aq ?_
  refine CD (ts 0 6 (.only 6 (ts 7 5 .nil))) yn yr ?_
  refine sg ?_
  refine AG (AQ 1 Z (fun Fr w hF hs hS=>wY Fr w ok.dk s.a) Z Z FQ ?_ ?_)
  ·rintro _ _ ⟨X,a,c,hX,rfl,rfl⟩
   exact yu
  rintro _ _ ⟨X,a,c,hX,rfl,rfl⟩
  refine sg ?_
  refine aq ?_
  refine Yu ?_
  rintro _ _ ⟨rfl,rfl⟩
  rw[hX]
  refine aq ?_
  exact CR (ay.tmp 4 Z Z (ae.trans (ae.tail (H:=pt sb _ yF)) (mM (p:=p) (C:=C) (m:=(C.dk.cW s.a).1) (l:=bW 16 C.cB (C.dk.cW s.a).2.1) (a:=a) (c:=c) (X:=X) (R:=[]) fit)).ar ⟨by rw[hr],by rw[hr];rfl⟩)
 refine aq ?_
 refine CP (p:=s.kind=9) Z (fun h=>?_) (fun h9=>?_)
 ·have hr:=Wz C h
  refine an ?_
  refine VG (VQ 1 Z (fun Fr w hF hs hS=>EJ Fr w ok yd s.a) Z (ψ:=fun v H=>v=.int .i64 (C.join s.a).2∧H=eY p (C.join s.a).1) yy ?_)
  rintro _ _ ⟨rfl,rfl⟩
  refine aq ?_
  exact CR (ay.tmp 4 Z Z (ae.tail (H:=pt sb _ yF) (L:=[eY p (C.join s.a).1])).ar ⟨by rw[hr],by rw[hr]⟩)
 refine aq ?_
 refine CP (p:=s.kind=10) Z (fun h=>?_) (fun h10=>?_)
 ·have hr:=SQ C h
  refine e7 fun y fit=>?_
  refine Vx ?_
  have fw:=(ok.dk.xZ s.a).1
  refine aq ?_
  refine CD (ts 0 6 (.only 6 (ts 7 5 .nil))) yn yr ?_
  refine sg ?_
  refine AG (AQ 1 Z (fun Fr w hF hs hS=>CY Fr w ok.dk s.a) Z Z FQ ?_ ?_)
  ·rintro _ _ ⟨X,a,c,hX,rfl,rfl⟩
   exact yu
  rintro _ _ ⟨X,a,c,hX,rfl,rfl⟩
  refine sg ?_
  refine aq ?_
  refine Yu ?_
  rintro _ _ ⟨rfl,rfl⟩
  rw[hX]
  refine aq ?_
  exact CR (ay.tmp 4 Z Z (ae.trans (ae.tail (H:=pt sb _ yF)) (mM (p:=p) (C:=C) (m:=(C.dk.drain s.a).1) (l:=bW 16 C.cB (C.dk.drain s.a).2.1) (a:=a) (c:=c) (X:=X) (R:=[]) fit)).ar ⟨by rw[hr],by rw[hr];rfl⟩)
 refine aq ?_
 have hr:=SS C (s:=s) (fun k k1 k2=>by
  rcases(by omega:k=1∨k=2∨k=3∨k=4∨k=5∨k=6∨k=7∨k=8∨k=9∨k=10∨k=11) with rfl | rfl | rfl | rfl | rfl | rfl | rfl | rfl | rfl | rfl | rfl<;>assumption)
 exact CR (ay.tmp 4 Z Z ae.tail.ar ⟨by rw[hr],by rw[hr]⟩)
end
end Cl
namespace Cl
open Go Vg T Api Ch Rep Conf Lg Rd
attribute [local irreducible] VO VC VA
section
variable {p:Nat} {C:av} {y:iy} {b e:Nat}
theorem Oa(h:aL Fr [eY p C] w):aH Tryz.prog 37 [.pointer (some ⟨p,0,none⟩)] Fr w [] (fun v L=>v=.bool true∧L=[]):=by
 obtain⟨y,fit,hy⟩:=QC h
 exact EB Fr w (hy.aP 0 Z)
theorem C6(ok:C.Ok b e)(hb:b<100000)(he:e<900000)(s:gi):aH Tryz.prog 21 [.pointer (some ⟨p,0,none⟩),.agg s.cells.toArray] Fr w [eY p C]
  (fun v L=>v=.int .i64 (C.lP s).2∧L=[eY p (C.lP s).1]):=by
 have ok2:=ok.step hb yd s
 refine TF 15 Tryz.func21 Z yn ah Z Z ?_
 refine CS (CG (VG (VB (vs:=s.cells) Z fun sb=>?_)))
 refine aq ?_
 refine VG (VV (fun Fr w hF hw hS=>Oa Fr w (hS.at_ 1 Z)) Z ?_)
 refine EY ?_
 refine VG (VL 0 s.cells Z Z Z Z ?_)
 refine VG (VQ 1 Z (fun Fr w hF hs hS=>EL Fr w ok hb yd s) Z (ψ:=fun v H=>v=.int .i64 (C.step s).2∧H=eY p (C.step s).1) yy ?_)
 rintro _ _ ⟨rfl,rfl⟩
 refine aq ?_
 refine VG (VQ 1 Z (fun Fr w hF hs hS=>AE Fr w ok2 yd) Z (ψ:=fun v H=>v=.tuple #[]∧H=eY p (C.step s).1.behind) yy ?_)
 rintro _ _ ⟨rfl,rfl⟩
 refine aq ?_
 exact CR (ay.tmp 4 Z Z (ae.tail (H:=pt sb _ yF) (L:=[eY p (C.lP s).1])).ar ⟨rfl,Z⟩)
end
section
variable {u:Value}
end
end Cl
namespace Cl
open Go Vg T Api Ch Rep Conf Lg Rd Sched
attribute [local irreducible] VO VC VA
theorem JK{X:Cx}{L:List HP}{a:Option Addr}{cap:Nat}{qs:List Int}(hq:dZ X.Fr X.w0 a qs)(hne:qs≠[]):dq X L (.slice a qs.length cap) 1 qs.length (cR qs):=by
 obtain⟨b,off,rfl,h2,h3⟩:=hq.at_ hne
 refine⟨by simp[cR],.inr ⟨b,off,cap,Z,fun w' hw' j v hv=>?_⟩⟩
 rw[cR,Zn] at hv
 cases hj:qs[j]? with
 | none=>rw[hj] at hv;cases hv
 | some x=>
  rw[hj] at hv
  obtain rfl:=Zy hv
  exact mX (hw'.cJ.block b h2) (h3 j x hj)
theorem yJ{α:Type}{f:α→HP}{l:List α}{x:α}{A:List HP}:ae (f x::cT (l.map f)::A) (cT ((l ++ [x]).map f)::A):=by
 refine ae.sep (ae.trans (M:=cT (l.map f)::f x::A) (ae.perm (.swap _ _ _)) (ae.E2 (ae.of_eq ?_)))
 simp
abbrev AF:TypeId:=24
def C7(c:aX)(qa:Option Addr)(qc m:Nat)(nv cv lv:Value)(h:Nat):List Value:=c.cells qa qc ++ [.int .i64 0,.pointer (some ⟨m,0,none⟩),nv,cv,lv,.pointer (some ⟨h,0,none⟩),.slice none 0 0]
theorem Hp(c:aX){qa:Option Addr}{qc:Nat}(hq:dZ Fr w qa c.qs)(hqc:c.qs.length≤qc):
  aH Tryz.prog 17 [.agg (c.cells qa qc).toArray] Fr w [] (fun v L=>if c=dy c then ∃p,v=.tuple #[.pointer (some ⟨p,0,none⟩),.int .i64 0]∧L=[eY p (gd c)] else v=.tuple #[.pointer none,.int .i64 2]∧L=[]):=by
 refine TF 83 Tryz.func17 Z yn ah Z Z ?_
 refine CS (CG (VG (VB (vs:=c.cells qa qc) Z fun b1=>VG (VN ?_))))
 refine VF ?_
 refine VG (VK (Lc:=[]) (fun Fr w hF hs _=>GZ Fr w c (fT hq hF hs) trivial hqc) Z Z ?_)
 intro v L1 hv
 by_cases hf:c=dy c
 rotate_left
 ·rw[if_neg hf] at hv
  obtain⟨rfl,rfl⟩:=hv
  refine Pf ?_
  exact CR (ay.cU 2 3 Z Z Z ae.nil.ar W3)
 rw[if_pos hf] at hv
 obtain⟨m,rfl,rfl⟩:=hv
 have hb:=cN hf
 have hb2:=iO hf
 refine Oz ?_
 refine jA ?_
 refine VO.ar (L':=aJ 3 1 none 0 0 [] :: [dh m (u6 c),pt b1 (c.cells qa qc) AF]) (ae.bY ae.refl).ar ?_
 refine VG (VO.append (m:=c.qs.length) (news:=cR c.qs) 0 Z Z Z Z Z Z Z (JK hq (by intro h0;rw[h0] at hb2;exact absurd hb2.2.2.2.2.2.1 yp)) (by unfold cR;rw[List.all_map];exact ZR.2 fun _ _=>rfl) (ki (k:=100) yd yp) yd fun qa2 qc2 hqc2=>?_)
 rw[Zl,ZI] at *
 refine aq ?_
 refine VG (VO.st 2 (cs':=c.cells qa2 qc2) Z Z Z Z Rl Z Z ?_)
 refine AM ?_
 show VC _ _ _ [mg qa2 qc2 c.qs,dh m (u6 c),pt b1 (c.cells qa2 qc2) AF] _
 refine CS ?_
 refine CD (ts 0 2 (.only 2 (.take 3 (.only 4 (.take 5 .nil))))) yn yr ?_
 refine AG (VA.kn 2 (c.cells qa2 qc2) Z Z Z Z Z ?_)
 refine oc ?_
 refine AG (AO (OC (Lc:=[]) rfl (.refl _) (fun Fr w _ _ _=>G4 Fr w)) rfl (fun v L' g=>by obtain⟨_,⟨h,rfl,rfl⟩,rfl⟩:=g;exact(by(try refine Pd.st ?_);(repeat(first|exact Pd.nil|exact Pd.fnil|refine Pd.inner ?_|refine Pd.skip yr ?_|refine zf (zo 0 rfl rfl) ?_|refine zf (zo 1 rfl rfl) ?_|refine zf (zo 2 rfl rfl) ?_|refine zf (zo 3 rfl rfl) ?_|refine zf (zm 0 rfl rfl) ?_|refine zf (zm 1 rfl rfl) ?_|refine zf (zm 2 rfl rfl) ?_|refine zf (zm 3 rfl rfl) ?_|refine zf (aE.aP (aE.many 3 rfl rfl) rfl) ?_|refine zf ((aE.many 3 rfl rfl)) ?_|refine zc (zo 0 rfl rfl) ?_|refine zc (zo 1 rfl rfl) ?_|refine zc (zo 2 rfl rfl) ?_|refine zc (zo 3 rfl rfl) ?_|refine zc (zm 0 rfl rfl) ?_|refine zc (zm 1 rfl rfl) ?_|refine zc (zm 2 rfl rfl) ?_|refine zc (zm 3 rfl rfl) ?_|refine zc (aE.aP (aE.many 3 rfl rfl) rfl) ?_|refine zc ((aE.many 3 rfl rfl)) ?_)))) ?_)
 rintro v L' ⟨_,⟨h,rfl,rfl⟩,rfl⟩
 refine AG (AI Z (LB (pv:=[(0,.agg (c.cells qa2 qc2).toArray),(2,pV m),(6,pV h)]) (C7 c qa2 qc2 m (.slice none 0 0) (.slice none 0 0) (.pointer none) h) Z Z Z yn Z) ?_)
 refine AG (AO (a8.box (vs:=C7 c qa2 qc2 m (.slice none 0 0) (.slice none 0 0) (.pointer none) h) rfl rfl) rfl (fun v L' g=>by obtain⟨p,rfl,rfl⟩:=g;exact(by(try refine Pd.st ?_);(repeat(first|exact Pd.nil|exact Pd.fnil|refine Pd.inner ?_|refine Pd.skip yr ?_|refine zf (zo 0 rfl rfl) ?_|refine zf (zo 1 rfl rfl) ?_|refine zf (zo 2 rfl rfl) ?_|refine zf (zo 3 rfl rfl) ?_|refine zf (zo 4 rfl rfl) ?_|refine zf (zm 0 rfl rfl) ?_|refine zf (zm 1 rfl rfl) ?_|refine zf (zm 2 rfl rfl) ?_|refine zf (zm 3 rfl rfl) ?_|refine zf (zm 4 rfl rfl) ?_|refine zf (aE.aP (aE.many 4 rfl rfl) rfl) ?_|refine zf ((aE.many 4 rfl rfl)) ?_|refine zc (zo 0 rfl rfl) ?_|refine zc (zo 1 rfl rfl) ?_|refine zc (zo 2 rfl rfl) ?_|refine zc (zo 3 rfl rfl) ?_|refine zc (zo 4 rfl rfl) ?_|refine zc (zm 0 rfl rfl) ?_|refine zc (zm 1 rfl rfl) ?_|refine zc (zm 2 rfl rfl) ?_|refine zc (zm 3 rfl rfl) ?_|refine zc (zm 4 rfl rfl) ?_|refine zc (aE.aP (aE.many 4 rfl rfl) rfl) ?_|refine zc ((aE.many 4 rfl rfl)) ?_)))) ?_)
 rintro v L' ⟨p,rfl,rfl⟩
 refine oc ?_
 refine Dd ?_
 refine VG (VK (Lc:=[]) (fun Fr w _ _ _=>Hb Fr w (n:=c.link) yd yd) Z Z ?_)
 rintro _ _ ⟨l,rfl,rfl⟩
 refine aq ?_
 refine VG (VO.st 1 (cs':=C7 c qa2 qc2 m (.slice none 0 0) (.slice none 0 0) (.pointer (some ⟨l,0,none⟩)) h) Z Z Z Z (by show 16<19;omega) Z Z ?_)
 refine AM ?_
 refine CN (L':=[pt p (C7 c qa2 qc2 m (.slice none 0 0) (.slice none 0 0) (.pointer (some ⟨l,0,none⟩)) h) Ax,pt b1 (c.cells qa2 qc2) AF,mg qa2 qc2 c.qs,eG l ⟨c.link,[]⟩,kJ h BQ,dh m (u6 c)]) (dG [1,4,2,0,0,0]).ar ?_
 refine aq ?_
 refine VC.loop (σ:=List Ay×Option Addr×Nat) (fun s=>[(1,pV b1),(6,pV p),(7,.int .i64 s.1.length)])
  (fun s=>[pt p (C7 c qa2 qc2 m (.slice s.2.1 s.1.length s.2.2) (.slice none 0 0) (.pointer (some ⟨l,0,none⟩)) h) Ax,pt b1 (c.cells qa2 qc2) AF,mg qa2 qc2 c.qs,eG l ⟨c.link,[]⟩,kJ h BQ,dh m (u6 c),aJ Ka 1 s.2.1 s.1.length s.2.2 (flat kN s.1),cT (s.1.map kO)])
  (fun s=>s.1.length≤c.nodes.toNat∧s.1.map (Option.map Prod.snd)=(List.range s.1.length).map fun(n:Nat)=>some (fu c n false)) (fun s=>c.nodes.toNat-s.1.length) ([],none,0)
  ⟨Zj _,rfl⟩ bd (IP 0 rfl (IP 0 rfl (IP 0 rfl (IP 0 rfl (IP 0 rfl (IP 0 rfl (ae.bY (ae.sep ae.nil)))))))).ar ?_
 rintro⟨nr,na,nc⟩ ⟨hn1,hn2⟩
 dsimp only at hn1 hn2 ⊢
 refine jA ?_
 refine CP (p:=(nr.length:Int)<c.nodes) Z (fun h1=>CK ?_) (fun h1=>CX ?_)
 ·refine CS (VC.block (CS (CG ?_)))
  refine VG (VL 1 (c.cells qa2 qc2) Z Z Z Z ?_)
  refine aq ?_
  refine VG (VK (Lc:=[]) (fun Fr w hF hs hS=>Rep.dH Fr w c qa2 qc2 (gA (hS.at_ 2 Z)) trivial hqc2 nr.length false) Z Z ?_)
  rintro v L1 g
  rw[if_pos (show nq c (nr.length:Int) from⟨hf,by omega,h1⟩)] at g
  obtain⟨r,rfl,rfl⟩:=g
  refine aq ?_
  refine sf ?_
  refine VG (VO.buildSlice (n:=1) (pv:=[(0,pV r)]) [.pointer (some ⟨r,0,none⟩)] Z Z Z Z yp (bM Z Z Z) fun nb=>?_)
  refine VG (VO.append (m:=1) (news:=[.pointer (some ⟨r,0,none⟩)]) 8 Z Z Z Z Z Z Z (dq.pt 0 Z Z Z) Z (ki (k:=100) yd yp) yd fun na2 nc2 hnc=>?_)
  refine aq ?_
  refine VG (VO.st 3 (cs':=C7 c qa2 qc2 m (.slice na2 (nr.length+1) nc2) (.slice none 0 0) (.pointer (some ⟨l,0,none⟩)) h) Z Z Z Z (by show 14<19;omega) Z Z ?_)
  refine qO ?_
  have hlen:(nr ++ [some (r,fu c nr.length false)]).length=nr.length+1:=by simp
  refine⟨(nr ++ [some (r,fu c nr.length false)],na2,nc2),⟨by dsimp only;omega,?_⟩,by dsimp only;omega,SC Z (SC Z (Sub.int Z tL (SN _))),?_⟩
  ·dsimp only
   rw[hlen,List.range_succ,ZL,ZL,hn2];rfl
  ·dsimp only
   rw[hlen,bf]
   refine ae.ar ?_
   refine IP 3 Z (IP 3 Z (IP 3 Z (IP 3 Z (IP 3 Z (IP 3 Z (IP 0 Z ?_))))))
   exact ae.trans ae.tail (yJ (f:=kO) (x:=some (r,fu c nr.length false)))
 have hnl:nr.length=c.nodes.toNat:=by omega
 refine aq ?_
 refine VC.loop (σ:=List FD×Option Addr×Nat) (fun s=>[(1,pV b1),(6,pV p),(10,.int .i64 s.1.length)])
  (fun s=>[pt p (C7 c qa2 qc2 m (.slice na nr.length nc) (.slice s.2.1 s.1.length s.2.2) (.pointer (some ⟨l,0,none⟩)) h) Ax,pt b1 (c.cells qa2 qc2) AF,mg qa2 qc2 c.qs,eG l ⟨c.link,[]⟩,kJ h BQ,dh m (u6 c),aJ Ka 1 na nr.length nc (flat kN nr),cT (nr.map kO),aJ N4 1 s.2.1 s.1.length s.2.2 (flat rX s.1),cT (s.1.map rY)])
  (fun s=>s.1.length≤c.aB.toNat∧s.1.map Prod.snd=(List.range s.1.length).map fun(n:Nat)=>oR c n) (fun s=>c.aB.toNat-s.1.length) ([],none,0)
  ⟨Zj _,rfl⟩ bd (IP 0 rfl (IP 0 rfl (IP 0 rfl (IP 0 rfl (IP 0 rfl (IP 0 rfl (IP 0 rfl (IP 0 rfl (ae.bY (ae.sep ae.nil)))))))))).ar ?_
 rintro⟨cr,ca,cc⟩ ⟨hm1,hm2⟩
 dsimp only at hm1 hm2 ⊢
 refine jA ?_
 refine CP (p:=(cr.length:Int)<c.aB) Z (fun h1=>CK ?_) (fun h1=>CX ?_)
 ·refine CS (VC.block (CS (CG ?_)))
  refine VG (VL 1 (c.cells qa2 qc2) Z Z Z Z ?_)
  refine aq ?_
  refine VG (VK (Lc:=[]) (fun Fr w hF hs hS=>G3 Fr w c (gA (hS.at_ 2 Z)) trivial hqc2 cr.length) Z Z ?_)
  rintro v L1 g
  rw[if_pos (show kI c (cr.length:Int)=0 from by unfold kI;rw[if_pos ⟨hf,by omega,h1⟩])] at g
  obtain⟨r,rfl,rfl⟩:=g
  refine aq ?_
  refine sf ?_
  refine VG (VO.buildSlice (n:=1) (pv:=[(0,pV r)]) [.pointer (some ⟨r,0,none⟩)] Z Z Z Z yp (bM Z Z Z) fun nb=>?_)
  refine VG (VO.append (m:=1) (news:=[.pointer (some ⟨r,0,none⟩)]) 10 Z Z Z Z Z Z Z (dq.pt 0 Z Z Z) Z (ki (k:=100) yd yp) yd fun ca2 cc2 hcc=>?_)
  refine aq ?_
  refine VG (VO.st 3 (cs':=C7 c qa2 qc2 m (.slice na nr.length nc) (.slice ca2 (cr.length+1) cc2) (.pointer (some ⟨l,0,none⟩)) h) Z Z Z Z (by show 15<19;omega) Z Z ?_)
  refine qO ?_
  have hlen:(cr ++ [(r,oR c cr.length)]).length=cr.length+1:=by simp
  refine⟨(cr ++ [(r,oR c cr.length)],ca2,cc2),⟨by dsimp only;omega,?_⟩,by dsimp only;omega,SC Z (SC Z (Sub.int Z tL (SN _))),?_⟩
  ·dsimp only
   rw[hlen,List.range_succ,ZL,ZL,hm2];rfl
  ·dsimp only
   rw[hlen,bf]
   refine ae.ar ?_
   refine IP 3 Z (IP 3 Z (IP 3 Z (IP 3 Z (IP 3 Z (IP 3 Z (IP 3 Z (IP 3 Z (IP 0 Z ?_))))))))
   exact ae.trans ae.tail (yJ (f:=rY) (x:=(r,oR c cr.length)))
 have hml:cr.length=c.aB.toNat:=by omega
 refine VC.e7 6 Z (aV.sl Ka 1 na nr.length nc (flat kN nr)) ?_
 rintro(_ | ⟨nb,nx⟩) ⟨-,-,hn⟩
 ·exact absurd hn.2.1 yd
 obtain⟨rfl,hnx⟩:=hn
 refine VC.e7 8 Z (aV.sl N4 1 ca cr.length cc (flat rX cr)) ?_
 rintro(_ | ⟨cb,cx⟩) ⟨-,-,hc⟩
 ·exact absurd hc.2.1 yd
 obtain⟨rfl,hcx⟩:=hc
 refine aq ?_
 refine CR (ay.cU 2 3 Z Z Z (L':=[eY p (gd c)]) (ae.O0 (K:=[]) ⟨qa2,qc2,m,nb,nc,nx,nr,cb,cc,cx,cr,l,h,none,0⟩ ⟨by rw[hn2,hnl];rfl,by rw[hm2,hml];rfl,hqc2⟩ ?_).ar (by rw[if_pos hf];exact⟨p,Z,Z⟩))
 exact IP 2 Z (IP 3 Z (IP 5 Z (IP 1 Z (IP 0 Z (IP 1 Z (IP 1 Z (ae.bY (dG [1,1]))))))))
end Cl
namespace Cl
open Go Vg T Api Ch Rep Conf Lg Rd Sched
abbrev Kb:TypeId:=5
theorem NB.nil{tB:TypeId}:∀K∈([]:List HP),NB tB K:=fun _ h=>by cases h
theorem NB.cons{tB:TypeId}{H:HP}{L:List HP}(h1:NB tB H)(h2:∀K∈L,NB tB K):∀K∈H::L,NB tB K:=fun K hK=>by
 rcases Zt.1 hK with rfl | hK
 ·exact h1
 ·exact h2 K hK
theorem NB.many{tB:TypeId}{α:Type}{f:α→HP}{l:List α}(h:∀x,NB tB (f x)):∀K∈l.map f,NB tB K:=fun K hK=>by
 obtain⟨x,_,rfl⟩:=Zv.1 hK
 exact h x
theorem QL(p:Nat)(M:aC):NB Kb (dh p M):=NB.ex fun _=>NB.sep (NB.cons (NB.pt yp) (NB.cons (NB.sl yp) NB.nil))
theorem QM(p:Nat)(M:bK):NB Kb (kJ p M):=NB.ex fun _=>NB.sep (NB.cons (NB.pt yp) (NB.cons (NB.sl yp) NB.nil))
theorem QN(p:Nat)(M:ba):NB Kb (eG p M):=NB.ex fun _=>NB.sep (NB.cons NB.pure (NB.cons (NB.pt yp) (NB.cons NB.map (NB.many fun _=>NB.sl yp))))
theorem QO(x:FD):NB Kb (rY x):=NB.ex fun y=>NB.sep (NB.cons (NB.pt yp) (NB.cons (NB.pt yp) (NB.cons (NB.sl yp) (NB.cons (by
 show NB Kb (mC x.2.out y.b)
 cases x.2.out with
 | none=>exact NB.pure
 | some o=>exact NB.pt yp) NB.nil))))
theorem Ob(p:Nat)(q:List aa)(c:Nat):NB Kb (Ring.bZ p q c):=NB.ex fun _=>NB.sep (NB.cons NB.pure (NB.cons (NB.pt yp) (NB.cons (NB.pt yp) (NB.many fun _=>NB.ex fun _=>NB.sep (NB.cons NB.pure (NB.cons (NB.sl yp) NB.nil))))))
theorem QP(p:Nat)(S:aA):NB Kb (iu p S):=NB.ex fun _=>NB.sep (NB.cons NB.pure (NB.cons (NB.pt yp) (NB.cons (NB.pt yp) (NB.many fun _=>Ob _ _ _))))
theorem QQ(p:Nat)(R:au):NB Kb (bz p R):=NB.ex fun _=>NB.sep (NB.cons (NB.pt yp) (NB.cons (NB.sl yp) (NB.cons
 (NB.ex fun _=>NB.sep (NB.cons (NB.pt yp) (NB.cons (NB.ex fun _=>NB.sep (NB.cons (NB.pt yp) (NB.cons NB.map NB.nil))) (NB.cons (NB.sl yp) (NB.cons (NB.sl yp) NB.nil)))))
 (NB.cons (NB.pt yp) (NB.cons (NB.ex fun _=>NB.sep (NB.cons NB.pure (NB.cons (NB.pt yp) (NB.cons (QP _ _) NB.nil))))
 (NB.cons (NB.ex fun _=>NB.sep (NB.cons NB.pure (NB.cons (NB.pt yp) (NB.cons (NB.sl yp) NB.nil)))) NB.nil))))))
theorem QR(x:Ay):NB Kb (kO x):=by
 cases x with
 | none=>exact NB.pure
 | some x=>exact QQ _ _
theorem EM(p:Nat)(C:av):NB Kb (eY p C):=NB.ex fun y=>NB.sep (NB.cons NB.pure (NB.cons (NB.pt yp) (NB.cons (NB.sl yp) (NB.cons (QL _ _) (NB.cons (NB.pt yp) (NB.cons (NB.pt yp) (NB.cons (QN _ _) (NB.cons (QM _ _) (NB.cons (NB.sl yp)
 (NB.cons (NB.sep (NB.many QR)) (NB.cons (NB.sep (NB.many QO)) NB.nil)))))))))))
end Cl
namespace Cl
open Go Vg T Api Ch Rep Conf Lg Rd Sched LibC Scr
def C8(F:aX)(l:List cE)(i:Nat):av:=(l.take i).foldl (fun C d=>(C.lP (lR d)).1) (gd F)
theorem yK{F:aX}{l:List cE}{i:Nat}{d:cE}(h:l[i]?=some d):C8 F l (i+1)=((C8 F l i).lP (lR d)).1:=by
 unfold C8
 rw[Zu,h,List.foldl_append]
 rfl
theorem FO{F:aX}(hF:F=dy F){l:List cE}(hl:l.length≤1000):∀i:Nat,i≤l.length→(C8 F l i).Ok i (7*i)
 | 0,_=>FH hF
 | i+1,hi=>by
  have hx:l[i]?=some l[i]:=GE yd
  rw[yK hx]
  exact((FO hF hl i yd).lP yd yd _).mono (NR _) yd
theorem FP:∀{l:List cE} {C:av} {i:Nat} {d:cE},l[i]?=some d→(gG C l)[i]?=some (d,(((l.take i).foldl (fun C d=>(C.lP (lR d)).1) C).lP (lR d)).2)
 | [],_,_,_,h=>by cases h
 | d'::l,C,0,d,h=>by
  cases h;rfl
 | d'::l,C,i+1,d,h=>by
  have h:l[i]?=some d:=h
  show(gG (C.lP (lR d')).1 l)[i]?=some (d,(((l.take i).foldl (fun C d=>(C.lP (lR d)).1) (C.lP (lR d')).1).lP (lR d)).2)
  exact FP h
theorem Hq{x:List (cE×Int)}{i:Nat}{p:cE×Int}(h:x[i]?=some p):fN (x.take (i+1))=fN (x.take i)++kE p ++ [10]:=by
 unfold fN
 rw[Zu,h]
 simp
theorem yL{p:cE×Int}(h:sO p):(kE p).length≤16523:=by
 obtain⟨h1,h2,h3,h4⟩:=h
 have e:=xC h1
 rw[sN h2,Zh,List.length_singleton] at e
 have:=Lib.itoa_length_le p.2 yd yd
 unfold kE
 rw[Zh,Zh]
 show _+(3+_)≤_
 omega
theorem r7:∀{x:List (cE×Int)},(∀p∈x,sO p)→(fN x).length≤16524*x.length
 | [],_=>by simp[fN]
 | p::x,h=>by
  have h1:=yL (h p Z_)
  have h2:=r7 (x:=x) fun q hq=>h q (ZK _ hq)
  show(kE p ++ [10]++fN x).length≤_
  simp only[Zh,Zs,List.length_nil]
  omega
attribute [local irreducible] VO VC VA
theorem Hr{L:List HP}(hS:aL Fr L w){b t:Nat}(d:cE)(i:Nat)(hi:L[i]?=some (pt b (dR d) t))(hd:d.Ok)(hk:lM d.kind=true)(hG:bX Fr w)(hK:cj Fr w):
  aH Tryz.prog 12 [.slice (some ⟨b,0,none⟩) 1 1] Fr w [] (fun v L=>v=.string (cH (nV d ++ [10]))∧L=[]):=by
 have h1:aI dR 8 Fr w (some ⟨b,0,none⟩) [d]:=aI.aP (hS.aP i hi) fun j x hx=>by
  cases j with
  | zero=>cases hx;rfl
  | succ j=>cases hx
 have h2:=uz (cap:=1) Fr w h1 yf (fun e he=>by rw[ZC.1 he];exact hd) hG.tab hK
 have e:jH [d]=nV d ++ [10]:=by
  rw[←sN hk];simp[jH]
 rw[e] at h2
 exact h2
theorem lx{F:aX}(hF:F=dy F){fa:Option Addr}{fc:Nat}(hq:dZ Fr w fa F.qs)(hfa:sD fa)(hqc:F.qs.length≤fc){a:Option Addr}{cap:Nat}{l:List cE}(h:aI dR 8 Fr w a l)(hl:l.length≤60)(hok:∀d∈l,d.Ok∧lM d.kind=true)(hG:bX Fr w)(hK:cj Fr w):
  aH Tryz.prog 9 [.agg (F.cells fa fc).toArray,.slice a l.length cap] Fr w [] (fun v L=>v=.tuple #[.string (cH (fN (gG (gd F) l))),.int .i64 0]∧L=[]):=by
 have hpo:=tZ (C:=gd F) hok
 have hplen:=r7 hpo
 rw[kF] at hplen
 refine TF 57 Tryz.func9 Z yn ah Z Z ?_
 refine CS (CG (VG (VB (vs:=F.cells fa fc) Z fun b2=>?_)))
 refine aq ?_
 refine TW ?_
 refine VG (VV (fun Fr w hF' hw hS=>by
  have:=bm Fr w F fa fc (fT hq hF' hw) hfa hqc
  rw[hY,if_pos hF] at this
  exact this) Z ?_)
 refine EY ?_
 refine CP (p:=(4096:Int)<l.length) Z (fun h=>absurd h yd) (fun _=>CK ?_)
 refine aq ?_
 refine VC.loop (σ:=Nat) (fun i=>[(1,.slice a l.length cap),(2,pV b2),(19,.slice a l.length cap),(20,.int .i64 l.length),(21,.int .i64 (i:Int))]) (fun _=>[pt b2 (F.cells fa fc) AF]) (fun i=>i≤l.length) (fun i=>l.length-i) 0
  (Zj _) bd ER ?_
 intro i hi
 refine aq ?_
 refine CP (p:=(i:Int)<l.length) Z (fun h1=>CK ?_) (fun h1=>CX ?_)
 ·have hil:i<l.length:=by omega
  have hx:l[i]?=some l[i]:=GE hil
  generalize l[i]=d at hx
  have hd:=hok d (ME hx)
  obtain⟨fb,fo,rfl,ra,rc⟩:=aI.rd (X:=⟨Tryz.prog,tab,ah,57,Fr,w⟩) h hx
  refine aq ?_
  refine TX ?_
  refine HG ?_
  refine VG (VO.alloc Z fun db=>?_)
  refine TL ?_
  refine aq ?_
  refine Rz ?_
  refine VG (VO.buildSlice (n:=1) (pv:=[(0,.agg (dR d).toArray)]) (dR d) Z Z Z Z yp (bM Z Z Z) fun nb=>?_)
  refine Yv ?_
  refine aq ?_
  refine CC Z (fun h2=>?_) (fun h2=>CK ?_)
  ·exfalso
   rw[mq] at h2
   have h2:=congrArg ByteArray.size (of_decide_eq_true h2)
   rw[a7,Zh,List.length_singleton] at h2
   exact absurd h2 (by show ¬_=0;omega)
  refine qO ?_
  exact⟨i+1,hil,by dsimp only;omega,SC Z (SC Z (SC Z (SC Z (Sub.int Z yd (SN _))))),(IP 2 Z ae.nil).ar⟩
 refine aq ?_
 refine TW ?_
 refine Yw ?_
 intro v L1 g
 rw[if_pos hF] at g
 obtain⟨p,rfl,rfl⟩:=g
 refine EY ?_
 refine VG (VO.zl Z fun b hB=>?_)
 refine VO.ar (L':=[jv w.heap.size b (cH []),eY p (gd F)]) (ae.DD hB (dG [0,0])).ar ?_
 refine aq ?_
 refine VC.loop (σ:=Nat) (fun i=>[(8,pV p),(10,pV b),(37,.slice a l.length cap),(38,.int .i64 l.length),(39,.int .i64 (i:Int))]) (fun i=>[jv w.heap.size b (cH (fN ((gG (gd F) l).take i))),eY p (C8 F l i)]) (fun i=>i≤l.length) (fun i=>l.length-i) 0
  (Zj _) bd ER ?_
 intro i hi
 refine aq ?_
 refine CP (p:=(i:Int)<l.length) Z (fun h1=>CK ?_) (fun h1=>CX ?_)
 rotate_left
 ·obtain rfl:i=l.length:=by omega
  have e:(gG (gd F) l).take l.length=gG (gd F) l:=Z3 (Nat.le_of_eq (kF l _))
  rw[e]
  refine aq ?_
  refine VG (VO.text Z 0 Z (dW (EM _ _) hO) Z ?_)
  refine aq ?_
  exact Vy
 have hil:i<l.length:=by omega
 have hx:l[i]?=some l[i]:=GE hil
 generalize l[i]=d at hx
 have hd:=hok d (ME hx)
 have hRC:=FO hF (l:=l) yd i hi
 have hnx:=yK (F:=F) hx
 have hat:(gG (gd F) l)[i]?=some (d,((C8 F l i).lP (lR d)).2):=FP hx
 have hpn:=Hq hat
 have htl:(fN ((gG (gd F) l).take i)).length≤16524*l.length:=by
  have h1:=r7 (x:=(gG (gd F) l).take i) fun p hp=>hpo p (List.mem_of_mem_take hp)
  rw[Zw,kF] at h1
  exact ZQ h1 (Nat.mul_le_mul_left _ yd)
 have hp1:=hpo _ (ME hat)
 have hll:=yL hp1
 have hw:=IH (C8 F l i) (lR d)
 generalize C8 F l i=C at hRC hnx hpn hat hw hp1 hll
 generalize fN ((gG (gd F) l).take i)=tx at hpn htl
 have hlp:kE (d,(C.lP (lR d)).2)=nV d++(tY++Lib.itoa (C.lP (lR d)).2):=rfl
 rw[hlp] at hpn hll
 simp only[Zh] at hll
 obtain⟨fb,fo,rfl,ra,rc⟩:=aI.rd (X:=⟨Tryz.prog,tab,ah,57,Fr,w⟩) h hx
 refine aq ?_
 refine TX ?_
 refine HG ?_
 refine VG (VO.alloc Z fun db=>?_)
 refine TL ?_
 refine aq ?_
 refine Rz ?_
 refine VG (VO.buildSlice (n:=1) (pv:=[(0,.agg (dR d).toArray)]) (dR d) Z Z Z Z yp (bM Z Z Z) fun nb=>?_)
 refine Yv ?_
 refine VG (VV (fun Fr w hF' hw hS=>GO Fr w (nV d) yd) Z ?_)
 refine VG (VO.write Z 2 Z (dW (NB.pt yp) (dW (NB.pt yp) (dW (EM _ _) hO))) S_ Z ?_)
 rw[gF]
 refine aq ?_
 refine VG (VL 1 (dR d) Z Z Z Z ?_)
 refine VG (VQ 3 Z (fun Fr w hF' hs hS=>C6 Fr w hRC yd yd (lR d)) Z (ψ:=fun v H=>v=.int .i64 (C.lP (lR d)).2∧H=eY p (C.lP (lR d)).1) yy ?_)
 rintro _ _ ⟨rfl,rfl⟩
 unfold lQ at hw
 refine VG (VV (fun Fr w hF' hw' hS=>iq Fr w (C.lP (lR d)).2 yd yd (bX.st (X:=⟨Tryz.prog,tab,ah,57,_,_⟩) hG hF' hw').tab) Z ?_)
 refine VG (VI (cm Z Z (by rw[oY,a7];show 3+_≤_;omega)) ?_)
 rw[oY,show(⟨#[32,61,32]⟩:ByteArray)=cH tY from rfl,gF]
 refine VG (VI (cm Z Z WR) ?_)
 rw[kA]
 refine VG (VO.write Z 2 Z (dW (NB.pt yp) (dW (NB.pt yp) (dW (EM _ _) hO))) (by rw[a7,a7];simp only[Zh,List.length_singleton];omega) Z ?_)
 rw[gF]
 refine qO ?_
 refine⟨i+1,hil,by dsimp only;omega,SC Z (SC Z (SC Z (SC Z (Sub.int Z yd (SN _))))),?_⟩
 dsimp only
 rw[hnx,hpn]
 have e:tx++(nV d++(tY++Lib.itoa (C.lP (lR d)).2)) ++ [10]=tx++nV d++(tY++Lib.itoa (C.lP (lR d)).2 ++ [10]):=by simp
 rw[e]
 exact(dG [2,2]).ar
end Cl
namespace Cl
open Go Vg T Api Ch Rep Conf Lg Rd Sched LibC Scr
attribute [local irreducible] VO VC VA
def v_(F:aX)(s:List UInt8):Value:=match eJ (s.length+1) s [] with
 | (true,x)=>.tuple #[.int .i64 (vt (gd F) 0 x),.int .i64 0]
 | (false,x)=>.tuple #[.int .i64 ((x.length:Int)+1),.int .i64 10]
theorem JL{C:av}{x:List (cE×Int)}{i:Nat}{d:cE}{e:Int}(h:x[i]?=some (d,e)):vt C i (x.drop i)=if (C.lP (lR d)).2=e then vt (C.lP (lR d)).1 (i+1) (x.drop (i+1)) else (i:Int)+1:=by
 have hi:=(Zk.1 h).1
 rw[List.drop_eq_getElem_cons hi,show x[i]=(d,e) from(Zk.1 h).2]
 rfl
theorem jz{F:aX}(hF:F=dy F){fa:Option Addr}{fc:Nat}(hq:dZ Fr w fa F.qs)(hfa:sD fa)(hqc:F.qs.length≤fc){s:List UInt8}(hs:s.length≤900000)(hx1:(eJ (s.length+1) s []).2.length≤1000)(hG:bX Fr w)(hK:cj Fr w):
  aH Tryz.prog 11 [.agg (F.cells fa fc).toArray,.string (cH s)] Fr w [] (fun v L=>v=v_ F s∧L=[]):=by
 refine TF 50 Tryz.func11 Z yn ah Z Z ?_
 refine CS (CG (VG (VB (vs:=F.cells fa fc) Z fun b2=>?_)))
 refine aq ?_
 refine TW ?_
 refine VG (VV (fun Fr w hF' hw hS=>by
  have:=bm Fr w F fa fc (fT hq hF' hw) hfa hqc
  rw[hY,if_pos hF] at this
  exact this) Z ?_)
 refine EY ?_
 refine VG (VK (Lc:=[]) (fun Fr w hF' hw hS=>Scr.jf Fr w s hs (bX.st (X:=⟨Tryz.prog,tab,ah,50,_,_⟩) hG hF' hw) (cj.st (X:=⟨Tryz.prog,tab,ah,50,_,_⟩) hK hF' hw)) Z Z ?_)
 rintro v L1 ⟨bb,x,hr,hv⟩
 rw[hr] at hx1
 cases bb with
 | false=>
  obtain⟨rfl,rfl⟩:v=_∧L1=[]:=hv
  refine Pf ?_
  exact CR (ay.cU 4 5 Z Z Z ae.nil.ar ⟨by unfold v_;rw[hr],Z⟩)
 | true=>
 obtain⟨y,rfl,rfl⟩:∃y:D',v=.tuple #[.slice y.a x.length y.c,.slice y.b x.length y.d,.int .i64 0,.int .i64 0]∧L1=[aJ 33 8 y.a x.length y.c (flat dR (x.map Prod.fst)),aJ NF 1 y.b x.length y.d (flat eC (x.map Prod.snd))]:=hv
 have hx1:x.length≤1000:=hx1
 have hfin:v_ F s=.tuple #[.int .i64 (vt (gd F) 0 x),.int .i64 0]:=by unfold v_;rw[hr]
 rw[hfin]
 refine EY ?_
 refine VG (VL 2 (F.cells fa fc) Z Z Z Z ?_)
 refine Yw ?_
 intro v L1 g
 rw[if_pos hF] at g
 obtain⟨p,rfl,rfl⟩:=g
 refine Oz ?_
 obtain⟨x1,hx1e⟩:∃x1,x1=x.map Prod.fst:=⟨_,rfl⟩
 obtain⟨x2,hx2e⟩:∃x2,x2=x.map Prod.snd:=⟨_,rfl⟩
 have hl1:x1.length=x.length:=by rw[hx1e,Zm]
 have hl2:x2.length=x.length:=by rw[hx2e,Zm]
 refine CN (L':=[aJ 33 8 y.a x1.length y.c (flat dR x1),eY p (gd F),aJ NF 1 y.b x2.length y.d (flat eC x2)]) (by
  rw[hl1,hl2,hx1e,hx2e]
  exact(dG [1,0,0]).ar) ?_
 refine VC.e7 0 Z (aV.rl 33 y.a y.c x1 nw) ?_
 rintro⟨xa,xc,xb,xcs,xs⟩ ⟨rok1,rv1,rx1⟩
 refine VC.e7 2 Z (aV.rl NF y.b y.d x2 I3) ?_
 rintro⟨za,zc,zb,zcs,zs⟩ ⟨rok2,rv2,rx2⟩
 dsimp only at rx1 rx2
 subst rx1 rx2
 have e1:y.a=xa∧y.c=xc:=by
  injection rv1 with q1 q2 q3
  exact⟨q1.symm,q3.symm⟩
 have e2:y.b=za∧y.d=zc:=by
  injection rv2 with q1 q2 q3
  exact⟨q1.symm,q3.symm⟩
 rw[e1.1,e1.2,e2.1,e2.2]
 refine aq ?_
 refine VC.loop (σ:=Nat×av) (fun z=>[(7,.slice za x.length zc),(8,pV p),(32,.slice xa x.length xc),(33,.int .i64 x.length),(34,.int .i64 (z.1:Int))]) (fun z=>[eY p z.2,RL.h 33 ⟨xa,xc,xb,xcs,xs⟩,RL.h NF ⟨za,zc,zb,zcs,zs⟩]) (fun z=>z.1≤x.length∧z.2.Ok z.1 (7*z.1)∧vt (gd F) 0 x=vt z.2 z.1 (x.drop z.1)) (fun z=>x.length-z.1) (0,gd F)
  ⟨Zj _,FH hF,rfl⟩ bd (dG [2,1,0]).ar ?_
 rintro⟨i,C⟩ ⟨hi,hC,hJ⟩
 dsimp only at hi hC hJ ⊢
 refine aq ?_
 refine CP (p:=(i:Int)<x.length) Z (fun h1=>CK ?_) (fun h1=>CX ?_)
 rotate_left
 ·obtain rfl:i=x.length:=by omega
  rw[List.drop_length] at hJ
  have hJ:vt (gd F) 0 x=0:=hJ
  rw[hJ]
  refine aq ?_
  exact Vy
 have hil:i<x.length:=by omega
 obtain⟨d,e,hx⟩:∃d e,x[i]?=some (d,e):=⟨_,_,GE hil⟩
 have hxd:xs[i]?=some d:=by rw[hx1e,Zn,hx];rfl
 have hxe:zs[i]?=some e:=by rw[hx2e,Zn,hx];rfl
 rw[JL hx] at hJ
 obtain⟨tb,tof,htb,hta,hrd⟩:=RL.Ok.ld (t:=33) (k:=i) (x:=d) rok1 hxd (nw d)
 obtain⟨ub,uof,hub,hua,hre⟩:=RL.Ok.ld (t:=NF) (k:=i) (x:=e) rok2 hxe (I3 e)
 dsimp only at hta hua
 subst hta hua
 refine aq ?_
 refine TX ?_
 refine VG (VO.load Z Z ((hrd 1 Z).1 _ Z Z) ?_)
 refine VG (VO.alloc Z fun db=>?_)
 refine aq ?_
 refine TL ?_
 refine aq ?_
 refine CD (ts 0 2 (ts 3 4 (.only 2 (ts 7 1 .nil)))) yn yr ?_
 refine oc ?_
 refine AG (VA.kn 0 (dR d) Z Z Z Z Z ?_)
 refine oc ?_
 refine RJ ?_
 refine AG (yE Z Z Z ((hre 3 Z).2 _ 0 (.int .i64 e) Z Z) ?_)
 refine oc ?_
 refine AG (AQ 1 Z (fun Fr w hF' hs hS=>C6 Fr w hC yd yd (lR d)) Z Z (ψ:=fun v H=>v=.int .i64 (C.lP (lR d)).2∧H=eY p (C.lP (lR d)).1) yy ?_ ?_)
 ·rintro v H' ⟨-,rfl⟩
  exact(by(try refine Pd.st ?_);(repeat(first|exact Pd.nil|exact Pd.fnil|refine Pd.inner ?_|refine Pd.skip yr ?_|refine zf (zo 0 Z Z) ?_|refine zf (zm 0 Z Z) ?_|refine zf (aE.aP ((hre 3 Z).2 _ 0 _ Z Z) Z) ?_|refine zf (((hre 3 Z).2 _ 0 _ Z Z)) ?_|refine zc (zo 0 Z Z) ?_|refine zc (zm 0 Z Z) ?_|refine zc (aE.aP ((hre 3 Z).2 _ 0 _ Z Z) Z) ?_|refine zc (((hre 3 Z).2 _ 0 _ Z Z)) ?_)))
 rintro _ _ ⟨rfl,rfl⟩
 refine oc ?_
 refine VC.bp Z (fun hne=>?_) (fun heq=>CK ?_)
 ·rw[if_neg hne] at hJ
  rw[hJ]
  refine qO ?_
  exact Vy
 rw[if_pos heq] at hJ
 refine qO ?_
 exact⟨(i+1,(C.lP (lR d)).1),⟨hil,(hC.lP yd yd _).mono (NR _) yd,hJ⟩,by dsimp only;omega,SC Z (SC Z (SC Z (SC Z (Sub.int Z tL (SN _))))),(dG [1,1,1]).ar⟩
end Cl
namespace Cl
open Go Vg T Api Ch Rep Conf Lg Rd Sched LibC Scr
def zF:aX:=⟨0,0,0,[],0,0,0,0,0,0,0,0⟩
def SW:List cE:=[⟨3,0,0,0,Scr.F4⟩,⟨7,3,0,0,Scr.F4⟩]
def WA:List UInt8:=[116,105,99,107,32,61,32,48,10,99,114,97,115,104,32,51,32,61,32,52,10]
theorem WB:fN (gG (gd (dy zF)) SW)=WA:=by decide +kernel
def Oc:List UInt8:=[116,105,99,107,32,61,32,49,10]
def Od:List UInt8:=[116,105,99,107]
theorem SX:eJ (Oc.length+1) Oc []=(true,[(⟨3,0,0,0,Scr.F4⟩,1)]):=by decide +kernel
theorem SY:eJ (Od.length+1) Od []=(false,[]):=by decide +kernel
theorem WC:dy zF=dy (dy zF):=by decide +kernel
theorem WD:vt (gd (dy zF)) 0 [(⟨3,0,0,0,Scr.F4⟩,1)]=1:=by decide +kernel
theorem JM:∀d∈SW,d.Ok∧lM d.kind=true:=fun d hd=>by
 have i0:Scr.pA 0:=by unfold Scr.pA;decide
 have i3:Scr.pA 3:=by unfold Scr.pA;decide
 have i7:Scr.pA 7:=by unfold Scr.pA;decide
 have z:(cO:ByteArray).size≤1000:=by decide
 simp only[SW,Zt,ZO,or_false] at hd
 rcases hd with rfl | rfl
 ·exact⟨⟨i3,i0,i0,i0,i0,i0,z,z⟩,Z⟩
 ·exact⟨⟨i7,i3,i0,i0,i0,i0,z,z⟩,Z⟩
theorem sV{F:aX}{l:List cE}(hok:∀d∈l,d.Ok∧lM d.kind=true):eJ ((fN (gG (gd F) l)).length+1) (fN (gG (gd F) l)) []=(true,(gG (gd F) l).map fun p=>(df p.1,p.2)):=GK (tZ hok)
theorem we{F:aX}{l:List cE}(hok:∀d∈l,d.Ok∧lM d.kind=true):(eJ ((fN (gG (gd F) l)).length+1) (fN (gG (gd F) l)) []).2.length=l.length:=by
 rw[sV hok,Zm,kF]
theorem wg{F:aX}{l:List cE}(hok:∀d∈l,d.Ok∧lM d.kind=true):v_ F (fN (gG (gd F) l))=.tuple #[.int .i64 0,.int .i64 0]:=by
 unfold v_
 rw[sV hok]
 dsimp only
 rw[B7 l (gd F) 0 fun d hd=>(hok d hd).2]
theorem Oe{F:aX}{l:List cE}(hok:∀d∈l,d.Ok∧lM d.kind=true):(fN (gG (gd F) l)).length≤16524*l.length:=by
 have:=r7 (tZ (C:=gd F) hok)
 rwa[kF] at this
attribute [local irreducible] VO VC VA
theorem EN(hG:bX Fr w)(hK:cj Fr w):aH Tryz.prog 6 [] Fr w [] (fun v L=>v=.bool true∧L=[]):=by
 have e0:=WB
 have e3:=WC
 have e4:=WD
 refine TF 66 Tryz.func6 Z yn ah Z Z ?_
 refine aq ?_
 refine VG (VI (LB (pv:=[]) (zF.cells none 0) Z Z Z Z Z) ?_)
 refine VG (VK (Lc:=[]) (fun Fr w _ _ _=>xq Fr w zF none 0 ⟨fun h=>absurd Z h⟩) Z Z ?_)
 rintro _ _ ⟨fa,fc,hfa,hfc,rfl,rfl⟩
 generalize dy zF=F at e0 e3 e4 hfc
 refine VG (VO.alloc Z fun b1=>?_)
 refine VG (VT (vs:=F.cells fa fc) (cs':=F.cells fa fc) 0 Z Z Z Z (NR _) Z Z Z ?_)
 refine aq ?_
 refine TW ?_
 refine VG (VI (LB (pv:=[(0,.int .i64 3)]) (dR ⟨3,0,0,0,Scr.F4⟩) Z Z Z yn Z) ?_)
 refine VG (VI (LB (pv:=[(0,.int .i64 7),(1,.int .i64 3)]) (dR ⟨7,3,0,0,Scr.F4⟩) Z Z Z yn Z) ?_)
 refine VG (VO.buildSlice (n:=2) (pv:=[(0,.agg (dR ⟨3,0,0,0,Scr.F4⟩).toArray),(1,.agg (dR ⟨7,3,0,0,Scr.F4⟩).toArray)]) (flat dR SW) Z Z Z Z yp yn fun sb=>?_)
 refine VG (VV (fun Fr w hF' hw hS=>by
  have h1:aI dR 8 Fr w (some ⟨sb,0,none⟩) SW:=aI.aP (hS.aP 0 rfl) fun i x hx=>by
   rw[Zl]
   have:=fC nw hx []
   rwa[Zi] at this
  have h2:=lx Fr w e3 (gA (hS.at_ 2 rfl)) hfa hfc (cap:=2) h1 yp JM (bX.st (X:=⟨Tryz.prog,tab,ah,66,_,_⟩) hG hF' hw) (cj.st (X:=⟨Tryz.prog,tab,ah,66,_,_⟩) hK hF' hw)
  rw[e0] at h2
  exact h2) Z ?_)
 refine an ?_
 refine TY ?_
 refine aq ?_
 refine VG (VV (fun Fr w hF' hw hS=>by
  have h2:=jz Fr w e3 (gA (hS.at_ 2 rfl)) hfa hfc (s:=WA) yp (by rw[←e0,we JM];decide) (bX.st (X:=⟨Tryz.prog,tab,ah,66,_,_⟩) hG hF' hw) (cj.st (X:=⟨Tryz.prog,tab,ah,66,_,_⟩) hK hF' hw)
  have h3:v_ F WA=.tuple #[.int .i64 0,.int .i64 0]:=by rw[←e0];exact wg JM
  rw[h3] at h2
  exact h2) Z ?_)
 refine an ?_
 refine TY ?_
 refine VG (VV (fun Fr w hF' hw hS=>by
  have h2:=jz Fr w e3 (gA (hS.at_ 2 rfl)) hfa hfc (s:=Oc) yp (by rw[SX];decide) (bX.st (X:=⟨Tryz.prog,tab,ah,66,_,_⟩) hG hF' hw) (cj.st (X:=⟨Tryz.prog,tab,ah,66,_,_⟩) hK hF' hw)
  have h3:v_ F Oc=.tuple #[.int .i64 1,.int .i64 0]:=by
   unfold v_
   rw[SX]
   dsimp only
   rw[e4]
  rw[h3] at h2
  exact h2) Z ?_)
 refine an ?_
 refine TY ?_
 refine VG (VV (fun Fr w hF' hw hS=>by
  have h2:=jz Fr w e3 (gA (hS.at_ 2 rfl)) hfa hfc (s:=Od) yp (by rw[SY];decide) (bX.st (X:=⟨Tryz.prog,tab,ah,66,_,_⟩) hG hF' hw) (cj.st (X:=⟨Tryz.prog,tab,ah,66,_,_⟩) hK hF' hw)
  have h3:v_ F Od=.tuple #[.int .i64 1,.int .i64 10]:=by
   unfold v_
   rw[SY]
   rfl
  rw[h3] at h2
  exact h2) Z ?_)
 refine aq ?_
 refine VG (VY 38 true Z Up ?_)
 refine aK ?_
 refine VG (VY 42 true Z Z ?_)
 refine aK ?_
 refine VG (VY 46 true Z Z ?_)
 refine aK ?_
 refine VG (VY 50 true Z Z ?_)
 refine aK ?_
 refine VG (VY 54 true Z Z ?_)
 refine aK ?_
 refine VG (VY 58 true Z Z ?_)
 refine aK ?_
 refine VG (VY 62 true Z Z ?_)
 refine aK ?_
 exact CR (ay.tmp 0 Z Z ae.nil.ar ⟨rfl,Z⟩)
end Cl
namespace Cl
open Go Vg T Api Ch Rep Conf Lg Rd Sched
def pg(l:List gi)(iI:Int):Bool:=l.any (fun s=>decide (200<s.op.key.size)||decide (200<s.op.value.size))||decide (iI<l.length)
attribute [local irreducible] VO VC VA
theorem EO{a:Option Addr}{cap:Nat}{l:List gi}(h:aI gi.cells 8 Fr w a l)(hl:l.length≤9223372036854775807)(iI:Int):aH Tryz.prog 5 [.slice a l.length cap,.int .i64 iI] Fr w [] (fun v L=>v=.bool (pg l iI)∧L=[]):=by
 refine TF 34 Tryz.func5 Z yn ah Z Z ?_
 refine aq ?_
 refine VC.loop (σ:=Nat) (fun k=>[(0,.slice a l.length cap),(1,.int .i64 iI),(5,.int .i64 (k:Int))]) (fun _=>[]) (fun k=>k≤l.length∧(l.take k).any (fun s=>decide (200<s.op.key.size)||decide (200<s.op.value.size))=false) (fun k=>l.length-k) 0
  ⟨Zj _,rfl⟩ bd ER ?_
 rintro k ⟨hk,hno⟩
 refine aq ?_
 refine CP (p:=(k:Int)<l.length) Z (fun h1=>CK ?_) (fun h1=>CX ?_)
 rotate_left
 ·obtain rfl:k=l.length:=by omega
  rw[ZF] at hno
  refine aq ?_
  exact CR (ay.bool 4 Z Z (by unfold pg;rw[hno,Bool.false_or]) ER ⟨rfl,Z⟩)
 have hkl:k<l.length:=by omega
 have hx:l[k]?=some l[k]:=GE hkl
 generalize l[k]=s at hx
 obtain⟨xb,xo,rfl,ra,rc⟩:=aI.rd (X:=⟨Tryz.prog,tab,ah,34,Fr,w⟩) h hx
 have hnx:(l.take (k+1)).any (fun s=>decide (200<s.op.key.size)||decide (200<s.op.value.size))=(decide (200<s.op.key.size)||decide (200<s.op.value.size)):=by
  rw[Zu,hx,List.any_append,hno];simp
 have hall:(decide (200<s.op.key.size)||decide (200<s.op.value.size))=true→pg l iI=true:=fun g=>by
  unfold pg
  rw[List.any_eq_true.2 ⟨s,ME hx,g⟩];rfl
 refine aq ?_
 refine Vs ?_
 refine aq ?_
 refine VG (VO.load Z Z (rc _ _ 5 (.string s.op.key) Z Z) ?_)
 refine aq ?_
 by_cases k1:200<s.op.key.size
 ·refine VG (VY 20 true Z (DT yd) ?_)
  refine HL ?_
  exact CR (ay.tmp 4 Z Z ER ⟨by rw[hall (by simp[k1])],Z⟩)
 refine VG (VY 20 false Z (DF yd) ?_)
 refine aq ?_
 refine Vs ?_
 refine aq ?_
 refine VG (VO.load Z Z (rc _ _ 6 (.string s.op.value) Z Z) ?_)
 refine aq ?_
 refine CP (p:=(200:Int)<s.op.value.size) Z (fun k2=>?_) (fun k2=>CK ?_)
 ·refine aq ?_
  exact CR (ay.tmp 4 Z Z ER ⟨by rw[hall ye],Z⟩)
 refine qO ?_
 exact⟨k+1,⟨by omega,by rw[hnx];simp;omega⟩,by dsimp only;omega,SC Z (SC Z (Sub.int Z yd (SN _))),ER⟩
end Cl
namespace Cl
open Go Vg T Api Ch Rep Conf Lg Rd Sched LibC Scr
attribute [local irreducible] VO VC VA
theorem Hs(d:cE):rJ d d=lM d.kind:=by
 unfold rJ
 cases hk:lM d.kind with
 | false=>rfl
 | true=>
  simp only[beq_self_eq_true,Bool.and_self,Bool.true_and,ZR]
  intro c _
  unfold rI
  repeat' split
  all_goals simp[xM]
def ly(l:List cE):List cE:=l.filter fun d=>lM d.kind
theorem EP{l:List cE}{i:Nat}{d:cE}(h:l[i]?=some d):ly (l.take (i+1))=ly (l.take i)++(if lM d.kind then [d] else []):=by
 unfold ly
 rw[Zu,h,List.filter_append]
 cases hk:lM d.kind<;>simp[hk]
theorem Zf{Fr:Nat→Prop}{w:World}{a:Option Addr}{l:List cE}(h:aI dR 8 Fr w a l):aI gi.cells 8 Fr w a (l.map lR):=⟨fun hne=>by
 obtain⟨b,off,h1,h2,h3⟩:=h.at_ fun e=>hne Ro
 refine⟨b,off,h1,h2,fun i x hx=>?_⟩
 rw[Zn] at hx
 cases hd:l[i]? with
 | none=>rw[hd] at hx;cases hx
 | some d=>rw[hd] at hx;cases hx;exact h3 i d hd⟩
theorem C9{a:Option Addr}{cap:Nat}{l:List cE}(h:aI dR 8 Fr w a l)(hl:l.length≤9223372036854775807)(iI:Int):
  aH Tryz.prog 5 [.slice a l.length cap,.int .i64 iI] Fr w [] (fun v L=>v=.bool (pg (l.map lR) iI)∧L=[]):=by
 have:=EO (cap:=cap) Fr w (Zf h) (by rw[Zm];exact hl) iI
 rwa[Zm] at this
theorem yM{l:List cE}{n:Int}(h:pg (l.map lR) n=false):(l.length:Int)≤n∧∀d∈l,d.op.key.size≤200∧d.op.value.size≤200:=by
 unfold pg at h
 simp only[Bool.or_eq_false_iff,decide_eq_false_iff_not,Zm] at h
 refine⟨by omega,fun d hd=>?_⟩
 have:=List.any_eq_false.1 h.1 (lR d) (Zv.2 ⟨d,hd,rfl⟩)
 simp only[Bool.or_eq_true,decide_eq_true_eq,not_or] at this
 exact⟨by have:=this.1;show d.op.key.size≤_;simp only[lR] at this;omega,by have:=this.2;show d.op.value.size≤_;simp only[lR] at this;omega⟩
structure C_(d:cE):Prop where
 kind:Scr.pA d.kind
 a:Scr.pA d.a
 b:Scr.pA d.b
 c:Scr.pA d.c
 J_:Scr.pA d.op.kind
 OP:Scr.pA d.op.version
theorem JN{l:List cE}(hI:∀d∈l,C_ d){n:Int}(h:pg (l.map lR) n=false):∀d∈ly l,d.Ok∧lM d.kind=true:=fun d hd=>by
 obtain⟨h1,h2⟩:=ZA.1 hd
 obtain⟨i1,i2,i3,i4,i5,i6⟩:=hI d h1
 have hg:=(yM h).2 d h1
 exact⟨⟨i1,i2,i3,i4,i5,i6,by omega,by omega⟩,h2⟩
theorem yO(l:List cE):(ly l).length≤l.length:=Z1 _ _
theorem Of(u r:List UInt8):(Scr.cH (u++r)).extract 0 u.length=Scr.cH u:=ByteArray.ext (by simp[Scr.cH])
theorem ES(c:aX)(ca:Option Addr)(cc:Nat)(hq:dZ Fr w ca c.qs)(hcc:c.qs.length≤cc){la:Option Addr}{lc:Nat}{l:List cE}(hr:aI dR 8 Fr w la l)(hll:l.length≤9223372036854775807)(hI:∀d∈l,C_ d)(left:Int)(hn0:0≤left)(hn1:left≤255)(hG:bX Fr w)(hK:cj Fr w):
  aH Tryz.prog 3 [.agg (c.cells ca cc).toArray,.slice la l.length lc,.int .u8 left] Fr w [] (fun v L=>v=.bool true∧L=[]):=by
 have fin:∀{L:List HP},jj ⟨Tryz.prog,tab,ah,183,Fr,w⟩ L []:=ae.nil.ar
 refine TF 183 Tryz.func3 Z yn ah Z Z ?_
 refine CS (CG (VG (VB (vs:=c.cells ca cc) Z fun b3=>?_)))
 refine an ?_
 by_cases h20:(20:Int)<c.qs.length
 ·refine VG (VY 28 true Z (DT h20) ?_)
  refine HL ?_
  refine Vz ?_
  refine aq ?_
  exact CR (ay.tmp 6 Z Z fin ⟨rfl,Z⟩)
 refine VG (VY 28 false Z (DF h20) ?_)
 refine aq ?_
 refine VG (VV (fun Fr w hF hw hS=>C9 Fr w (hr.of hF hw) hll 40) Z ?_)
 refine aq ?_
 refine CC Z (fun hg=>?_) (fun hg=>CK ?_)
 ·refine aq ?_
  refine Vz ?_
  refine aq ?_
  exact CR (ay.tmp 6 Z Z fin ⟨rfl,Z⟩)
 have hl40:(l.length:Int)≤40:=(yM hg).1
 have hok:=JN hI hg
 refine aq ?_
 refine VG (VL 0 (c.cells ca cc) Z Z Z Z ?_)
 refine VG (VK (Lc:=[]) (fun Fr w hF hw hS=>xq Fr w c ca cc (fT hq hF hw)) Z Z ?_)
 rintro _ _ ⟨fa,fc,hfa,hfc,rfl,rfl⟩
 have hF:=Adm.Iv c
 generalize dy c=F at hF hfc
 have hcb:=cN hF
 refine VG (VT (vs:=F.cells fa fc) (cs':=F.cells fa fc) 1 Z Z Z Z (NR _) Z Z Z ?_)
 refine aq ?_
 refine VC.loop (σ:=Nat×Option Addr×Nat) (fun z=>[(1,.slice la l.length lc),(2,.int .u8 left),(3,pV b3),(7,.slice z.2.1 (ly (l.take z.1)).length z.2.2),(8,.int .i64 (z.1:Int))]) (fun z=>[mg fa fc F.qs,pt b3 (F.cells fa fc) AF,aJ 33 8 z.2.1 (ly (l.take z.1)).length z.2.2 (flat dR (ly (l.take z.1)))]) (fun z=>z.1≤l.length) (fun z=>l.length-z.1) (0,none,0)
  (Zj _) bd (IP 0 rfl (IP 0 rfl (ae.bY ae.nil))).ar ?_
 rintro⟨i,ma,mc⟩ hi
 dsimp only at hi ⊢
 refine aq ?_
 refine CP (p:=(i:Int)<l.length) Z (fun h1=>CK ?_) (fun h1=>CX ?_)
 ·have hil:i<l.length:=by omega
  have hx:l[i]?=some l[i]:=GE hil
  generalize l[i]=d at hx
  have hnx:=EP hx
  have hkl:(ly (l.take i)).length≤40:=ZQ (yO _) Ta
  generalize ly (l.take i)=m at hnx hkl
  obtain⟨fb,fo,rfl,ra,rc⟩:=aI.rd (X:=⟨Tryz.prog,tab,ah,183,Fr,w⟩) hr hx
  refine aq ?_
  refine CD (ts 0 8 (.only 8 .nil)) yn yr ?_
  refine oc ?_
  refine RJ ?_
  refine AG (yE Z Z Z (ra _ _ Z Z) ?_)
  refine oc ?_
  refine RJ ?_
  refine AG (yE Z Z Z (ra _ _ Z Z) ?_)
  refine AG (AR (fun Fr w hF' hw hS=>xE Fr w d d (cj.st (X:=⟨Tryz.prog,tab,ah,183,_,_⟩) hK hF' hw)) Z Z (by(try refine Pd.st ?_);(repeat(first|exact Pd.nil|exact Pd.fnil|refine Pd.inner ?_|refine Pd.skip yr ?_|refine zf (aE.aP (ra _ _ Z Z) Z) ?_|refine zf ((ra _ _ Z Z)) ?_|refine zc (aE.aP (ra _ _ Z Z) Z) ?_|refine zc ((ra _ _ Z Z)) ?_))) ?_)
  refine oc ?_
  rw[Hs]
  cases hk:lM d.kind with
  | false=>
   rw[hk,if_neg yp,Zi] at hnx
   refine r_ ?_
   refine qO ?_
   refine⟨(i+1,ma,mc),hil,by dsimp only;omega,?_,?_⟩
   ·dsimp only
    rw[hnx]
    exact SC Z (SC Z (SC Z (SC Z (Sub.int Z yd (SN _)))))
   ·dsimp only
    rw[hnx]
    exact ER
  | true=>
   rw[hk,if_pos rfl] at hnx
   refine Rb ?_
   refine TX ?_
   refine HG ?_
   refine VG (VO.buildSlice (n:=1) (pv:=[(0,.agg (dR d).toArray)]) (dR d) Z Z Z Z yp (bM Z Z Z) fun nb=>?_)
   refine VG (VO.append (m:=1) (news:=dR d) 3 Z Z Z Z Z Z Z (dq.pt 0 Z Z Z) Z (ki (k:=100) yd yp) yd fun a2 c2 hc2=>?_)
   refine qO ?_
   have hL:(m ++ [d]).length=m.length+1:=by simp
   have hFl:flat dR (m ++ [d])=flat dR m++dR d:=by simp[bf,bL,e_]
   refine⟨(i+1,a2,c2),hil,by dsimp only;omega,?_,?_⟩
   ·dsimp only
    rw[hnx,hL]
    exact SC Z (SC Z (SC Z (SC Z (Sub.int Z yd (SN _)))))
   ·dsimp only
    rw[hnx,hL,hFl]
    exact(dG [2,2,0]).ar
 obtain rfl:i=l.length:=by omega
 rw[ZF]
 have hml:(ly l).length≤40:=ZQ (yO _) yd
 generalize ly l=m at hok hml
 clear hg hI hr hll hi h1
 obtain⟨S,hSe⟩:∃S,S=fN (gG (gd F) m):=⟨_,rfl⟩
 have hS1:S.length≤900000:=by
  have:=Oe (F:=F) hok
  rw[←hSe] at this
  omega
 refine aq ?_
 refine VO.e7 2 Z (aV.rl 33 ma mc m nw) ?_
 rintro⟨xa,xc,xb,xcs,xs⟩ ⟨rok,rv,rx⟩
 dsimp only at rx
 have hxs:m=xs:=rx.symm
 injection rv with e1 e2 e3
 subst e1 e3
 subst hxs
 refine VG (VL 2 (F.cells fa fc) Z Z Z Z ?_)
 refine aq ?_
 refine VG (VV (fun Fr w hF' hw hS=>by
  have h2:=lx (cap:=xc) Fr w hF (gA (hS.at_ 1 rfl)) hfa hfc (aI.rl (hS.at_ 0 rfl) rok) yd hok (bX.st (X:=⟨Tryz.prog,tab,ah,183,_,_⟩) hG hF' hw) (cj.st (X:=⟨Tryz.prog,tab,ah,183,_,_⟩) hK hF' hw)
  rw[←hSe] at h2
  exact h2) Z ?_)
 refine aq ?_
 refine VG (VL 2 (F.cells fa fc) Z Z Z Z ?_)
 refine aq ?_
 refine VG (VV (fun Fr w hF' hw hS=>by
  have h2:=lx (cap:=xc) Fr w hF (gA (hS.at_ 1 rfl)) hfa hfc (aI.rl (hS.at_ 0 rfl) rok) yd hok (bX.st (X:=⟨Tryz.prog,tab,ah,183,_,_⟩) hG hF' hw) (cj.st (X:=⟨Tryz.prog,tab,ah,183,_,_⟩) hK hF' hw)
  rw[←hSe] at h2
  exact h2) Z ?_)
 refine aq ?_
 refine VG (VK (Lc:=[]) (fun Fr w hF' hw hS=>Scr.jf Fr w S hS1 (bX.st (X:=⟨Tryz.prog,tab,ah,183,_,_⟩) hG hF' hw) (cj.st (X:=⟨Tryz.prog,tab,ah,183,_,_⟩) hK hF' hw)) Z Z ?_)
 rintro v L1 ⟨bb,x,hr,hv⟩
 have hrb:=sV (F:=F) hok
 rw[←hSe,hr] at hrb
 obtain⟨rfl,hxe⟩:=Prod.mk.inj hrb
 rw[if_pos rfl] at hv
 have hxl:x.length=m.length:=by rw[hxe,Zm,kF]
 have hx1:x.map Prod.fst=m.map df:=by
  rw[hxe,List.map_map]
  have:=congrArg (List.map df) (B6 m (gd F))
  rwa[List.map_map] at this
 rw[hxl,hx1] at hv
 obtain⟨y,rfl,rfl⟩:=hv
 refine aq ?_
 refine VG (VL 4 (F.cells fa fc) Z Z Z Z ?_)
 refine aq ?_
 refine VG (VV (fun Fr w hF' hw hS=>by
  have h2:=jz Fr w hF (gA (hS.at_ 3 rfl)) hfa hfc (s:=S) hS1 (by rw[hSe,we hok];omega) (bX.st (X:=⟨Tryz.prog,tab,ah,183,_,_⟩) hG hF' hw) (cj.st (X:=⟨Tryz.prog,tab,ah,183,_,_⟩) hK hF' hw)
  rw[hSe,wg hok,←hSe] at h2
  exact h2) Z ?_)
 refine aq ?_
 refine VG (VY 84 false Z Z ?_)
 refine aK ?_
 refine VG (VY 88 false Z Z ?_)
 refine aK ?_
 refine VG (VY 93 false Z (by rw[mq];simp) ?_)
 refine aK ?_
 refine VG (VY 97 false Z Z ?_)
 refine aK ?_
 refine VG (VY 104 false Z yf ?_)
 refine aK ?_
 refine VG (VY 111 false Z yf ?_)
 refine aK ?_
 refine VG (VY 115 false Z Z ?_)
 refine J6 ?_
 refine CN (L':=[aJ 33 8 y.a (m.map df).length y.c (flat dR (m.map df)),pt b3 (F.cells fa fc) AF,mg fa fc F.qs,RL.h 33 ⟨xa,xc,xb,xcs,m⟩]) (by
  rw[Zm]
  exact(dG [0,3,2,1]).ar) ?_
 refine VC.e7 0 Z (aV.rl 33 y.a y.c (m.map df) nw) ?_
 rintro⟨ea,ec,eb,ecs,es⟩ ⟨zok,zv,zx⟩
 dsimp only at zx
 have e2:y.a=ea∧y.c=ec:=by
  injection zv with q1 q2 q3
  exact⟨q1.symm,q3.symm⟩
 rw[e2.1,e2.2]
 have hzl:es.length=m.length:=by rw[zx,Zm]
 refine aq ?_
 refine VC.loop (σ:=Nat) (fun i=>[(2,.int .u8 left),(3,pV b3),(7,.slice xa m.length xc),(9,.string (Scr.cH S)),(13,.slice ea m.length ec),(19,.int .i64 (i:Int))]) (fun i=>[RL.h 33 ⟨ea,ec,eb,ecs,es⟩,pt b3 (F.cells fa fc) AF,mg fa fc F.qs,RL.h 33 ⟨xa,xc,xb,xcs,m⟩]) (fun i=>i≤m.length) (fun i=>m.length-i) 0
  (Zj _) bd ER ?_
 intro i hi
 refine aq ?_
 refine CP (p:=(i:Int)<m.length) Z (fun h1=>CK ?_) (fun h1=>CX ?_)
 ·have hil:i<m.length:=by omega
  have hx:m[i]?=some m[i]:=GE hil
  generalize m[i]=d at hx
  have hd:=hok d (ME hx)
  have hz:es[i]?=some (df d):=by rw[zx,Zn,hx];rfl
  obtain⟨tb,tof,htb,hta,hrd⟩:=RL.Ok.ld (t:=33) (k:=i) (x:=d) rok hx (nw d)
  obtain⟨ub,uof,hub,hua,hre⟩:=RL.Ok.ld (t:=33) (k:=i) (x:=df d) zok hz (nw _)
  dsimp only at hta hua
  subst hta hua
  refine aq ?_
  refine CD (ts 0 8 (.only 8 (ts 9 1 .nil))) yn yr ?_
  refine oc ?_
  refine RJ ?_
  refine AG (yE Z Z Z ((hre 0 Z).1 _ Z Z) ?_)
  refine oc ?_
  refine RJ ?_
  refine AG (yE Z Z Z ((hrd 3 Z).1 _ Z Z) ?_)
  refine AG (AR (fun Fr w hF' hw hS=>by
   have h2:=xE Fr w (df d) d (cj.st (X:=⟨Tryz.prog,tab,ah,183,_,_⟩) hK hF' hw)
   rw[GH hd.2] at h2
   exact h2) Z Z (by(try refine Pd.st ?_);(repeat(first|exact Pd.nil|exact Pd.fnil|refine Pd.inner ?_|refine Pd.skip yr ?_|refine zf (aE.aP ((hre 0 Z).1 _ Z Z) Z) ?_|refine zf (aE.aP ((hrd 3 Z).1 _ Z Z) Z) ?_|refine zf (((hre 0 Z).1 _ Z Z)) ?_|refine zf (((hrd 3 Z).1 _ Z Z)) ?_|refine zc (aE.aP ((hre 0 Z).1 _ Z Z) Z) ?_|refine zc (aE.aP ((hrd 3 Z).1 _ Z Z) Z) ?_|refine zc (((hre 0 Z).1 _ Z Z)) ?_|refine zc (((hrd 3 Z).1 _ Z Z)) ?_))) ?_)
  refine oc ?_
  refine r_ ?_
  refine qO ?_
  exact⟨i+1,hil,by dsimp only;omega,SC Z (SC Z (SC Z (SC Z (SC Z (Sub.int Z yd (SN _)))))),ER⟩
 obtain⟨k,hke⟩:∃k:Nat,(k:Int)=left % ((m.length:Int)+1):=⟨(left % ((m.length:Int)+1)).toNat,Int.toNat_of_nonneg (Int.emod_nonneg _ yd)⟩
 have hkm:k≤m.length:=by
  have:=Int.emod_lt_of_pos left (show(0:Int)<(m.length:Int)+1 by omega)
  omega
 refine aq ?_
 refine VG (VI (dX left Z Z Z Z Z (i64_in _ yd yd)) ?_)
 refine JY ?_
 refine VG (VI (pj Z Z hn0 yd) ?_)
 rw[←hke]
 clear hi h1
 have hokk:∀d∈m.take k,d.Ok∧lM d.kind=true:=fun d hd=>hok d (List.mem_of_mem_take hd)
 have hkl:(m.take k).length=k:=by rw[Zw];omega
 obtain⟨U,hUe⟩:∃U,U=fN (gG (gd F) (m.take k)):=⟨_,rfl⟩
 have hSU:S=U++fN ((gG (gd F) m).drop k):=by rw[hSe,hUe,xP,GM]
 have hSl:S.length=U.length+(fN ((gG (gd F) m).drop k)).length:=by rw[hSU,Zh]
 refine aq ?_
 refine CD (ts 0 4 (.only 4 (ts 5 5 .nil))) yn yr ?_
 refine AG (VA.kn 1 (F.cells fa fc) Z Z Z Z Z ?_)
 refine oc ?_
 refine AG (AI Z (mQ k Z Z Z Z Z Z (ZQ hkm rok.room)) ?_)
 refine AG (AR (fun Fr w hF' hw hS=>by
  have h2:=lx (cap:=xc) Fr w hF (gA (hS.at_ 2 rfl)) hfa hfc ((aI.rl (hS.at_ 3 rfl) rok).take k) (by rw[hkl];omega) hokk (bX.st (X:=⟨Tryz.prog,tab,ah,183,_,_⟩) hG hF' hw) (cj.st (X:=⟨Tryz.prog,tab,ah,183,_,_⟩) hK hF' hw)
  rw[←hUe] at h2
  dsimp only at h2
  rw[hkl] at h2
  exact h2) Z Z yu ?_)
 refine oc ?_
 refine aq ?_
 refine TY ?_
 refine aq ?_
 refine VG (VV (fun Fr w hF' hw hS=>by
  have h2:=jz Fr w hF (gA (hS.at_ 2 rfl)) hfa hfc (s:=U) yd (by rw[hUe,we hokk];omega) (bX.st (X:=⟨Tryz.prog,tab,ah,183,_,_⟩) hG hF' hw) (cj.st (X:=⟨Tryz.prog,tab,ah,183,_,_⟩) hK hF' hw)
  rw[hUe,wg hokk,←hUe] at h2
  exact h2) Z ?_)
 refine aq ?_
 refine VG (VY 157 true Z Z ?_)
 refine aK ?_
 refine VG (VY 164 true Z (DT S_) ?_)
 refine aK ?_
 refine VG (VI (vu Z Z Z Z yd S_) ?_)
 rw[a7,Zp,show(Scr.cH S).extract 0 U.length=Scr.cH U by rw[hSU];exact Of _ _]
 refine aK ?_
 refine VG (VY 172 true Z Up ?_)
 refine aK ?_
 refine VG (VY 176 true Z Z ?_)
 refine aK ?_
 refine VG (VY 180 true Z Z ?_)
 refine aK ?_
 refine Vz ?_
 refine aK ?_
 exact CR (ay.tmp 6 Z Z fin ⟨rfl,Z⟩)
end Cl
namespace Vg
open Go Go.ChangeShapes Go.WideShapes Go.ChangeAt Go.RowKit
theorem qd{H:Type}{enc:TypeId×Value→H}{P:Program}(hl:laidOutB P=true){W W':World}(hb:Below W.heap.size W W'):
  ∀{ts:List TypeId} {vs:List Value} {ds:List (DataW H)} {ps:List MemPlace},(∀t∈ts,P.readableRec t=true∧t<P.types.size) →
   DataW.TrodAll enc P W 0 (fun _=>true) true ts vs ds ps→DataW.TrodAll enc P W' 0 (fun b=>decide (b<W.heap.size)) true ts vs ds ps
 | [],vs,ds,ps,_,h=>by
  obtain⟨rfl,rfl,rfl⟩:=trodAll_nil h
  exact trodAll_mk0
 | t::ts,vs,ds,ps,ht,h=>by
  obtain⟨v,vs',d,ds',p,q,rfl,rfl,rfl,h0,r0⟩:=trodAll_cons h
  have lt0:∀x∈p,x.block<W.heap.size:=by obtain⟨m,hm⟩:=h0;exact DataW.trod_lt m _ _ _ hm
  have h1:=ht t yf
  exact trodAll_cons_mk (Below.trod hl h1.1 h1.2 h0 hb lt0) (qd hl hb (fun t h=>ht t ya) r0)
theorem ph{H:Type}{enc:TypeId×Value→H}{P:Program}{W:World}{b:Nat}{sp:Nat→Bool}{hd:Bool}:
  ∀{ts:List TypeId} {vs:List Value} {ds:List (DataW H)} {ps:List MemPlace},DataW.TrodAll enc P W b sp hd ts vs ds ps→ds.length=ts.length
 | [],vs,ds,ps,h=>by
  obtain⟨rfl,rfl,rfl⟩:=trodAll_nil h
  rfl
 | t::ts,vs,ds,ps,h=>by
  obtain⟨v,vs',d,ds',p,q,rfl,rfl,rfl,h0,r0⟩:=trodAll_cons h
  simp[ph r0]
theorem JO{H:Type}{enc:TypeId×Value→H}{P:Program}{f:Func}{s:ChangeSpec}(hl:laidOutB P=true)(hts:∀t∈f.params.toList,P.readableRec t=true∧t<P.types.size)
  (hv:s.vars=[]) {tb:TypeId} (hres:f.resultTypes=#[tb]) (hbool:P.underlying tb=some .bool)
  (hfn:∀ds:List (DataW H),ds.length=f.params.toList.length→s.fn H (ds ++ [])={ results:=[.lit (.bool true)],args:=ds })
  {W W':World} {args:Array Value} {ds gs:List (DataW H)} {before:List MemPlace} (hW:DataW.Whole enc P f.params.toList s.vars false W args.toList ds gs before) (bel:Below W.heap.size W W'):
  s.post enc P f false true false false W args (.bool true) W':=by
 have hW':=hW
 obtain⟨p,q,hA,hV,rfl,_,_⟩:=hW
 rw[hv] at hV
 obtain⟨rfl,rfl⟩:=trodVars_none hV
 have e:=hfn ds (ph hA)
 refine⟨ds,[],p ++ [],[],p,[],hW',?_,?_,?_,bel.frame _,fun h=>by cases h⟩
 ·rw[e,hres];exact trodAll_mk1 (shut_bool hbool _)
 ·rw[e];exact qd hl bel hts hA
 ·rw[e,hv];rfl
end Vg
namespace Vg
open Go Go.ChangeShapes Go.WideShapes Go.ChangeAt Go.RowKit
section
variable {H:Type} (enc:TypeId×Value→H) (P:Program) (w:World) (base:Nat) (spare:Nat→Bool) (held:Bool)
def tT(t:TypeId)(v:Value):Prop:=∃fuel x,DataW.trod enc P w base spare held fuel t [v]=some x
def qM(rec:TypeId→Option (List TypeId)):List Field→Nat→Option (List TypeId)
 | [],_=>some []
 | f::fs,off=>if f.offset=off then match rec f.type with
   | some l=>if P.cellsOf f.type=l.length then (qM rec fs (off+l.length)).map (l ++ ·) else none
   | none=>none
  else none
def r8:Nat→TypeId→Option (List TypeId)
 | 0,_=>none
 | n+1,t=>match P.underlying t with
  | some (.struct fs)=>match qM P (r8 n) fs.toList 0 with
   | some l=>if P.cellsOf t=l.length then some l else none
   | none=>none
  | some (.int _)=>some [t]
  | some .bool=>some [t]
  | some .string=>some [t]
  | some (.slice _)=>some [t]
  | some (.pointer _)=>some [t]
  | _=>none
end
section
variable {H:Type} {enc:TypeId×Value→H} {P:Program} {w:World} {base:Nat} {spare:Nat→Bool} {held:Bool}
theorem tT.int{t:TypeId}{v:Value}{k:IntKind}(h:tT enc P w base spare held t v)(ht:P.underlying t=some (.int k)):∃n,v=.int k n∧(Lit.int k n).wf=true:=by
 obtain⟨fuel,x,h⟩:=h
 obtain⟨n,e,_,hw⟩:=DataW.trod_int ht h
 exact⟨n,(List.cons.inj e).1,hw⟩
theorem tT.str{t:TypeId}{v:Value}(h:tT enc P w base spare held t v)(ht:P.underlying t=some .string):∃s,v=.string s∧s.size≤maxLen:=by
 obtain⟨fuel,x,h⟩:=h
 obtain⟨n,e,_,hs⟩:=DataW.trod_string ht h
 exact⟨n,(List.cons.inj e).1,hs⟩
theorem yP{rec:TypeId→Option (List TypeId)}{cs:List Value}{n:Nat}
  (hrec:∀(t:TypeId) (ls:List TypeId),rec t=some ls→∀(cs:List Value) x,DataW.trod enc P w base spare held n t cs=some x→cs.length=ls.length∧∀(i:Nat) (v:Value) (u:TypeId),cs[i]?=some v→ls[i]?=some u→tT enc P w base spare held u v):
  ∀(fs:List Field) (off:Nat) (ls:List TypeId),qM P rec fs off=some ls→(∀f∈fs,∃y,DataW.trod enc P w base spare held n f.type ((cs.drop f.offset).take (P.cellsOf f.type))=some y) →
   ∀(i:Nat) (v:Value) (u:TypeId),cs[off+i]?=some v→ls[i]?=some u→tT enc P w base spare held u v
 | [],off,ls,h,_,i,v,u,_,hu=>by
  obtain rfl:ls=[]:=by simpa[qM] using h.symm
  simp at hu
 | f::fs,off,ls,h,hf,i,v,u,hv,hu=>by
  simp only[qM] at h
  split at h
  ·rename_i hoff
   split at h
   ·rename_i l hl
    split at h
    ·rename_i hc
     cases hr:qM P rec fs (off+l.length) with
     | none=>rw[hr] at h;cases h
     | some ls'=>
      rw[hr] at h
      obtain rfl:l++ls'=ls:=by simpa using h
      obtain⟨y,hy⟩:=hf f yf
      obtain⟨h1,h2⟩:=hrec f.type l hl _ y hy
      by_cases hi:i<l.length
      ·refine h2 i v u ?_ (by rwa[List.getElem?_append_left hi] at hu)
       rw[List.getElem?_take,if_pos yd,List.getElem?_drop,hoff];exact hv
      ·rw[List.getElem?_append_right yd] at hu
       refine yP hrec fs (off+l.length) ls' hr (fun g hg=>hf g (by simp[hg])) (i-l.length) v u ?_ hu
       rw[←hv];congr 1;omega
    ·cases h
   ·cases h
  ·cases h
theorem wi:∀(n:Nat) (t:TypeId) (ls:List TypeId),r8 P n t=some ls→∀(fuel:Nat) (cs:List Value) x,DataW.trod enc P w base spare held fuel t cs=some x →
  cs.length=ls.length∧∀(i:Nat) (v:Value) (u:TypeId),cs[i]?=some v→ls[i]?=some u→tT enc P w base spare held u v
 | 0,t,ls,h,_,_,_,_=>by simp[r8] at h
 | n+1,t,ls,h,fuel,cs,x,hx=>by
  have one:∀v,cs=[v]→ls=[t]→cs.length=ls.length∧∀(i:Nat) (v:Value) (u:TypeId),cs[i]?=some v→ls[i]?=some u→tT enc P w base spare held u v:=by
   intro v h1 h2
   subst h1;subst h2
   refine⟨rfl,fun i v' u hv hu=>?_⟩
   match i,hv,hu with
   | 0,hv,hu=>
    obtain rfl:=Zy hv
    obtain rfl:=Zy hu
    exact⟨fuel,x,hx⟩
   | i+1,hv,_=>cases hv
  simp only[r8] at h
  split at h
  ·rename_i fs ht
   cases hr:qM P (r8 P n) fs.toList 0 with
   | none=>rw[hr] at h;cases h
   | some l=>
    rw[hr] at h
    dsimp only at h
    split at h
    ·rename_i hc
     obtain rfl:=Zy h
     obtain⟨xs,m,_,_,hl,hlen,hfs⟩:=DataW.trod_struct ht hx
     refine⟨hl.trans hc,fun i v u hv hu=>?_⟩
     refine yP (n:=m) (cs:=cs) (fun t ls h1 cs x h2=>wi n t ls h1 m cs x h2) fs.toList 0 l hr (fun f hf=>?_) i v u (by rwa[Zl]) hu
     obtain⟨j,hj⟩:=List.getElem?_of_mem hf
     have hj':fs[j]?=some f:=by simpa using hj
     have hjl:j<xs.length:=by
      have:=(ZZ.1 hj').1
      omega
     exact⟨xs[j],by rw[hfs j f hj',GE hjl]⟩
    ·cases h
  ·rename_i k ht
   obtain⟨a,e,_⟩:=DataW.trod_int ht hx
   exact O'
  ·rename_i ht
   obtain⟨a,e,_⟩:=DataW.trod_bool ht hx
   exact O'
  ·rename_i ht
   obtain⟨a,e,_⟩:=DataW.trod_string ht hx
   exact O'
  ·rename_i e ht
   rcases DataW.trod_slice ht hx with ⟨e,_⟩ | ⟨_,_,_,_,_,_,_,e,_⟩
   ·exact O'
   ·exact O'
  ·rename_i e ht
   rcases DataW.trod_pointer ht hx with ⟨e,_⟩ | ⟨_,_,_,_,_,e,_⟩
   ·exact O'
   ·exact O'
  ·cases h
theorem wj{w:World}{a:Addr}{v:Value}(h:w.cell? a=some v):a.block<w.heap.size:=by
 unfold World.cell? at h
 cases hb:w.heap[a.block]? with
 | none=>simp[hb] at h
 | some o=>exact(ZZ.1 hb).1
theorem yQ{α:Type}(cells:α→List Value)(φ:α→Prop){t e:TypeId}{n:Nat}{ls:List TypeId}(ht:P.underlying t=some (.slice e))(hf:r8 P n e=some ls)(hce:P.cellsOf e=ls.length)(hpos:0<ls.length)
  (hrow:∀cs,cs.length=ls.length→(∀(i:Nat) (v:Value) (u:TypeId),cs[i]?=some v→ls[i]?=some u→tT enc P w base spare held u v)→∃x,cs=cells x∧φ x)
  {fuel:Nat} {v:Value} {x:DataW H×List MemPlace} (h:DataW.trod enc P w base spare held fuel t [v]=some x):
  ∃(a:Option Addr) (tc:Nat) (l:List α),v=.slice a l.length tc∧(l.length≤tc∧l.length≤maxLen)∧(∀x∈l,φ x)∧(l≠[]→∃b off,a=some ⟨b,off,none⟩∧b<w.heap.size∧∀i x,l[i]?=some x→∀j v,(cells x)[j]?=some v→w.cell? ⟨b,off+i*ls.length+j,none⟩=some v):=by
 rcases Go.Deep.open_slice ht h with ⟨e,_⟩ | ⟨a',len,cap,m,n',D,Pl,e,_,hle,hcm,hm,_,hx⟩
 ·exact⟨none,0,[],(List.cons.inj e).1,⟨Zj _,Zj _⟩,fun x hx=>by simp at hx,fun h=>absurd Z h⟩
 ·have hlm:len≤m:=by rw[hm];split<;>omega
  rw[hce] at hx
  have key:∀i,i<len→∃y:α,φ y∧(cells y).length=ls.length∧∀j v,(cells y)[j]?=some v→w.cell? ((a'.add (i*ls.length)).add j)=some v:=by
   intro i hi
   obtain⟨cs',h1,h2⟩:=hx i yd
   obtain⟨_,hl,hc⟩:=World.cells?_some h1
   obtain⟨h3,h4⟩:=wi n _ ls hf _ _ _ h2
   obtain⟨y,rfl,hy⟩:=hrow cs' h3 h4
   refine⟨y,hy,h3,fun j v hv=>?_⟩
   have hj:j<ls.length:=by have:=(Zk.1 hv).1;omega
   rw[hc j hj,hv]
  have build:∀k,k≤len→∃l:List α,l.length=k∧∀i x,l[i]?=some x→φ x∧(cells x).length=ls.length∧∀j v,(cells x)[j]?=some v→w.cell? ((a'.add (i*ls.length)).add j)=some v:=by
   intro k
   induction k with
   | zero=>intro _;exact⟨[],rfl,fun i x hx=>by simp at hx⟩
   | succ k ih=>
    intro hk
    obtain⟨l,hl,hall⟩:=ih yd
    obtain⟨y,hy⟩:=key k yd
    refine⟨l ++ [y],by simp[hl],fun i x hx=>?_⟩
    by_cases hi:i<l.length
    ·rw[List.getElem?_append_left hi] at hx;exact hall i x hx
    ·rw[List.getElem?_append_right yd] at hx
     have hi2:i=k:=by
      have:=(Zk.1 hx).1
      simp at this;omega
     subst hi2
     rw[hl,Nat.sub_self] at hx
     obtain rfl:=Zy hx
     exact hy
  obtain⟨l,hl,hall⟩:=build len (NR _)
  subst hl
  refine⟨some a',cap,l,(List.cons.inj e).1,⟨by omega,by omega⟩,fun x hx=>?_,fun hne=>?_⟩
  ·obtain⟨i,hi⟩:=List.getElem?_of_mem hx
   exact(hall i x hi).1
  obtain⟨ab,ao,asp⟩:=a'
  cases l with
  | nil=>exact absurd rfl hne
  | cons y l=>
   obtain⟨_,h5,h6⟩:=hall 0 y rfl
   have h0:=h6 0 _ (GE yd)
   have hsp:asp=none:=by simpa[Addr.add] using World.cell?_spot h0
   subst hsp
   refine⟨ab,ao,Z,by simpa[Addr.add] using wj h0,fun i x hx j v hv=>?_⟩
   have:=(hall i x hx).2.2 j v hv
   rwa[Addr.add_mid,Addr.add_mid] at this
end
end Vg
namespace Adm
open Go Vg Go.ChangeShapes Go.WideShapes Go.ChangeAt Go.RowKit Sched Conf
theorem JP:r8 Tryz.prog 3 24=some [3,3,3,22,3,3,3,3,3,3,3,3]:=by kernel_rfl
theorem Og:r8 Tryz.prog 1 3=some [3]:=by kernel_rfl
theorem Oh{a:Int}(w:(Lit.int .u8 a).wf=true):0≤a∧a≤255:=by
 simp[Lit.wf,IntKind.min,IntKind.max,IntKind.signed,IntKind.bits] at w;omega
section
variable {H:Type} {enc:TypeId×Value→H} {w:World} {base:Nat} {spare:Nat→Bool} {held:Bool}
theorem Ht{v:Value}(h:tT enc Tryz.prog w base spare held 22 v):∃a tc l,v=.slice a (l:List Int).length tc∧l.length≤tc∧dZ (fun b=>b<w.heap.size) w a l:=by
 obtain⟨fuel,x,hf⟩:=h
 obtain⟨a,tc,l,e,h1,h2,h3⟩:=yQ (α:=Int) (fun x=>[.int .i64 x]) (fun _=>True) Tryz.underlying22 Og yn yp (fun cs hl hc=>by
  match cs,hl,hc with
  | [c],_,hc=>
   obtain⟨n,rfl,_⟩:=(hc 0 c _ rfl rfl).int Tryz.underlying3
   exact⟨n,Z,trivial⟩) hf
 refine⟨a,tc,l,e,h1.1,⟨fun hne=>?_⟩⟩
 obtain⟨b,off,h4,h5,h6⟩:=h3 hne
 refine⟨b,off,h4,h5,fun i v hv=>?_⟩
 have:=h6 i v hv 0 _ rfl
 simpa using this
theorem Hu{cs:List Value}(hl:cs.length=12)(h3:∀(i:Nat) (v:Value) (u:TypeId),cs[i]?=some v→([3,3,3,22,3,3,3,3,3,3,3,3]:List TypeId)[i]?=some u→tT enc Tryz.prog w base spare held u v):
  ∃(c:aX) (a:Option Addr) (cap:Nat),cs=c.cells a cap∧c.qs.length≤cap∧dZ (fun b=>b<w.heap.size) w a c.qs:=by
 match cs,hl,h3 with
 | [c0,c1,c2,c3,c4,c5,c6,c7,c8,c9,c10,c11],_,h3=>
 obtain⟨n0,rfl,_⟩:=(h3 0 c0 _ rfl rfl).int Tryz.underlying3
 obtain⟨n1,rfl,_⟩:=(h3 1 c1 _ rfl rfl).int Tryz.underlying3
 obtain⟨n2,rfl,_⟩:=(h3 2 c2 _ rfl rfl).int Tryz.underlying3
 obtain⟨a3,cap3,l3,rfl,hc3,hq3⟩:=Ht (h3 3 c3 _ rfl rfl)
 obtain⟨n4,rfl,_⟩:=(h3 4 c4 _ rfl rfl).int Tryz.underlying3
 obtain⟨n5,rfl,_⟩:=(h3 5 c5 _ rfl rfl).int Tryz.underlying3
 obtain⟨n6,rfl,_⟩:=(h3 6 c6 _ rfl rfl).int Tryz.underlying3
 obtain⟨n7,rfl,_⟩:=(h3 7 c7 _ rfl rfl).int Tryz.underlying3
 obtain⟨n8,rfl,_⟩:=(h3 8 c8 _ rfl rfl).int Tryz.underlying3
 obtain⟨n9,rfl,_⟩:=(h3 9 c9 _ rfl rfl).int Tryz.underlying3
 obtain⟨n10,rfl,_⟩:=(h3 10 c10 _ rfl rfl).int Tryz.underlying3
 obtain⟨n11,rfl,_⟩:=(h3 11 c11 _ rfl rfl).int Tryz.underlying3
 exact⟨⟨n0,n1,n2,l3,n4,n5,n6,n7,n8,n9,n10,n11⟩,a3,cap3,Z,hc3,hq3⟩
theorem ET{P:Program}{r:Reach}{t:TypeId}{v:Value}{fs:Array Field}(ht:P.underlying t=some (.struct fs))(h:Value.okWide P w r base t v):∃cs:List Value,v=.agg cs.toArray:=by
 unfold Value.okWide at h
 rw[ht] at h
 obtain⟨cs,h,_⟩:=h
 exact⟨cs.toList,by rw[h]⟩
theorem Hv{base0:Nat}{v:Value}{d:DataW H}{ps:List MemPlace}(hval:Value.okWide Tryz.prog w .any base0 24 v)(h:DataW.Trod enc Tryz.prog w base spare held 24 v d ps):
  ∃(c:aX) (a:Option Addr) (cap:Nat),v=.agg (c.cells a cap).toArray∧c.qs.length≤cap∧dZ (fun b=>b<w.heap.size) w a c.qs:=by
 obtain⟨cs,rfl⟩:=ET Tryz.underlying24 hval
 obtain⟨fuel,hf⟩:=h
 obtain⟨h1,h2⟩:=wi 3 _ _ JP fuel cs _ hf
 obtain⟨c,a,cap,rfl,h3,h4⟩:=Hu h1 h2
 exact⟨c,a,cap,Z,h3,h4⟩
end
end Adm
namespace Vg
open Go Go.ChangeShapes Go.WideShapes Go.ChangeAt Go.RowKit
theorem r9{P:Program}{W:World}{x:String×DataW Unit}{l:List (String×DataW Unit)}(h:laidMet P (x::l) W):laidMet P l W:=by
 obtain⟨ps,⟨g,t,cs,fuel,p,q,_,_,_,_,hr,rfl⟩,hn,hall⟩:=h
 exact⟨q,hr,(ZD.1 hn).2.1,fun b off h=>hall b off (Zq.2 (.inr h))⟩
theorem JQ{P:Program}{W:World}{laid:List (String×DataW Unit)}{nm:String}{k:IntKind}{zs:List Int}{g:Nat}{t e:TypeId}{n:Nat}(i:Nat)(hh:(laid.all fun x=>x.2.handleName?.isNone)=true)
  (hm:laid[i]?=some (nm,Lib.tabData k zs)) (hg:P.globalNamed nm=some g) (hty:(P.globals[g]?).map (·.type)=some t) (ht:P.underlying t=some (.array n e)) (he:P.underlying e=some (.int k)) (hce:P.cellsOf e=1) (hct:P.cellsOf t=n)
  (h:laidMetH P laid W):uB P (fun b=>b<W.heap.size) W nm k zs:=by
 rw[MakeChecks.laidMetH_plain _ _ _ hh] at h
 have key:∀{l:List (String×DataW Unit)} {i:Nat},laidMet P l W→l[i]?=some (nm,Lib.tabData k zs)→Lib.TabIs P W nm k zs:=by
  intro l
  induction l with
  | nil=>intro i _ hm;simp at hm
  | cons x l ih=>
   intro i hv hm
   cases i with
   | zero=>
    obtain rfl:=Zy hm
    exact Lib.tabIs_of_head hg hty ht he hce hct hv
   | succ i=>exact ih (r9 hv) (by simpa using hm)
 have ht2:=key h hm
 refine⟨⟨g,hg,?_⟩,ht2⟩
 unfold Lib.TabIs World.var? at ht2
 rw[hg] at ht2
 simp only[ZJ] at ht2
 rcases Nat.lt_or_ge g W.heap.size with h' | h'
 ·exact h'
 ·rw[Array.getElem?_eq_none h'] at ht2;simp at ht2
end Vg
namespace Vg
open Go Go.ChangeShapes Go.WideShapes Go.ChangeAt Go.RowKit
theorem AH{H:Type}{enc:TypeId×Value→H}{C:Checked}{os:Os}{f:FuncId}{fn:Func}{s:ChangeSpec}{conds:List PathCond}{laid:List (String×DataW Unit)}
  (own:ownKnob C.prog.godebug=none) (started:os.Started) (noInit:C.prog.inits.idxOf? f=none) (hfn:C.prog.funcs[f]?=some fn)
  (witness:∃(w:World) (tape:Tape) (i:Input),w.os=os∧(w.forCall tape i).Shaped C.prog∧i.vars=[]∧Input.okWide C.prog (w.forCall tape i) .any w.heap.size f i ∧
   ((s.pre enc C.prog fn conds false (w.forCall tape i).memory i.args∧laidMetH C.prog laid (w.forCall tape i).memory)∧sizedMet enc C.prog fn (OpenSpec.ofChange s) false (w.forCall tape i).memory i.args) ∧
   ({}:Assume).holds C.prog (lone (Frame.enter C.prog f i.args .normal) [] (w.forCall tape i)))
  (hl:laidOutB C.prog=true) (hts:∀t∈fn.params.toList,C.prog.readableRec t=true∧t<C.prog.types.size)
  (hv:s.vars=[]) {tb:TypeId} (hres:fn.resultTypes=#[tb]) (hbool:C.prog.underlying tb=some .bool)
  (hs:∀ds:List (DataW H),ds.length=fn.params.toList.length→s.fn H (ds ++ [])={ results:=[.lit (.bool true)],args:=ds })
  (walk:∀(W:World) (base:Nat) (args:Array Value) (ds:List (DataW H)) (ps:List MemPlace),laidMetH C.prog laid W→W.ShapedOpen C.prog →
   (∀(j:Nat) t v,fn.params[j]?=some t→args[j]?=some v→Value.okWide C.prog W .any base t v) →
   DataW.TrodAll enc C.prog W 0 (fun _=>true) true fn.params.toList args.toList ds ps→W.noneFrozen ps →
   (DataW.weightsEach C.prog fn.params.toList ds).all (·≤reachBytes)=true →
   aH C.prog f args.toList (fun b=>b<W.heap.size) W [] (fun v _=>v=.bool true)):
  ReturnsInHanded {} C os f .any (fun w args=>(s.pre enc C.prog fn conds false w args∧laidMetH C.prog laid w)∧sizedMet enc C.prog fn (OpenSpec.ofChange s) false w args) (s.post enc C.prog fn false true false false):=by
 refine returnsInHanded_of_calls own started noInit witness ?_
 intro w tape i _ hsh _ hok hpre _
 obtain⟨_,_,_,fn',hfn',_,_,_,_,hval⟩:=hok
 obtain rfl:fn'=fn:=Zy (hfn'.symm.trans hfn)
 obtain⟨⟨⟨ds,gs,before,hw,hc⟩,hL⟩,hz⟩:=hpre
 have hwt:(DataW.weightsEach C.prog (fn'.params.toList++s.plain.varTypes C.prog) (ds++gs)).all (·≤reachBytes)=true:=hz.weights hw
 have hW:=DataW.Whole.of_heap (w':=w.forCall tape i) (by rfl) hw
 have hL:laidMetH C.prog laid (w.forCall tape i):=hL.of_heap (by rfl)
 generalize w.forCall tape i=W at hW hL hval hsh ⊢
 have hW2:=hW
 obtain⟨p,q,hA,hV,rfl,hfz,_⟩:=hW2
 rw[hv] at hV
 obtain⟨rfl,rfl⟩:=trodVars_none hV
 have hvt:s.plain.varTypes C.prog=[]:=by simp[ChangeSpec.plain,hv,DataSpec.varTypes]
 rw[hvt] at hwt
 simp only[Zi] at hwt hfz
 have T:=walk W w.heap.size i.args ds p hL hsh hval hA hfz hwt
 have:=T.calls (fun _ h=>h) Sat.nil
 simp only[Array.toArray_toList] at this
 refine Calls.mono this fun e W' ⟨v,L',he,h1,_,hk⟩=>?_
 subst he;subst h1
 exact ChangeSpec.post_blind (JO hl hts hv hres hbool hs hW hk.below)
end Vg
end Go.Proofs.YthnlpdacbcjgpaaGreatDoor
