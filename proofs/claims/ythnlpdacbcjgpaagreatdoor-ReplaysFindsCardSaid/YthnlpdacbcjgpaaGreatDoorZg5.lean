/- Texts of the proof, put together and shortened. No condition. -/
import Derived.Test.YthnlpdacbcjgpaaGreatDoorZg4
set_option maxRecDepth 100000
set_option maxHeartbeats 16000000
set_option linter.unusedVariables false
set_option linter.unusedSectionVars false
set_option linter.unusedSimpArgs false
namespace Go.Proofs.YthnlpdacbcjgpaaGreatDoor
variable (Fr : Nat → Prop) (w : World)
namespace Vg
open Go Go.MapKept
def xf(k:Int×Int):Value:=.agg ([.int .i64 k.1,.int .i64 k.2]:List Value).toArray
theorem iF.ii{P:Program}{t ti:TypeId}{f g:Field}{Ti:TI}(ht:P.underlying t=some (.struct #[f,g]))(hp:P.stoodInHeld t=false)(hf:f.name ≠ "_")(hg:g.name ≠ "_")(hf2:f.type=ti)(hg2:g.type=ti)(hfo:f.offset=0)(hgo:g.offset=1)
  (hi:P.underlying ti=some (.int .i64)) (hTi:az P ti Ti) (ha:Ti.aU.agg=false):iF P t xf where
 inj:=fun a b h=>by
  obtain⟨a1,a2⟩:=a;obtain⟨b1,b2⟩:=b
  simp[xf] at h
  rw[h.1,h.2]
 check:=fun e a w=>by
  have h1:(part ti ([.int .i64 a.1,.int .i64 a.2]:List Value).toArray 0).run P w=.ok (.int .i64 a.1) w:=pU hTi ha rfl w
  have h2:(part ti ([.int .i64 a.1,.int .i64 a.2]:List Value).toArray 1).run P w=.ok (.int .i64 a.2) w:=pU hTi ha rfl w
  have c1:(Instr.checkKey e (9998+1) ti (.int .i64 a.1)).run P w=.ok () w:=run_checkKey hi (by rfl) e 9998
  have c2:(Instr.checkKey e (9998+1) ti (.int .i64 a.2)).run P w=.ok () w:=run_checkKey hi (by rfl) e 9998
  show(Instr.checkKey e (9999+1) t (xf a)).run P w=_
  unfold Instr.checkKey
  rw[Sem.run_bind,run_underlying ht]
  simp only[Result.andThen_ok,xf]
  rw[←Array.forIn_toList]
  simp[hf,hg,hf2,hg2,hfo,hgo,h1,h2,Sem.run_bind,Result.andThen]
  rw[show(9999:Nat)=9998+1 from rfl,c1]
  simp[Result.andThen,h2,c2]
 find:=fun {α} d a xs es hes w=>by
  unfold Instr.findKey
  rw[Sem.run_bind,run_underlying ht]
  simp only[Result.andThen_ok]
  have hnow:∀(l:List MapEntry) (ys:List ((Int×Int)×α)) (i:Nat),l.map (fun e=>(e.key,e.val))=ys.map (fun x=>(xf x.1,d x.2))→(l≠[]→Instr.findNow (.struct #[f,g]) (xf a) l i=none):=by
   intro l ys i hl hne
   cases l with
   | nil=>exact absurd rfl hne
   | cons e r=>rfl
  have heq:∀(a b:Int×Int) (w:World),(Op.equal t (xf a) (xf b)).run P w=.ok (decide (a=b)) w:=fun a b w=>by
   have hx1:∀w:World,(part f.type ([.int .i64 a.1,.int .i64 a.2]:List Value).toArray f.offset).run P w=.ok (.int .i64 a.1) w:=fun w=>by rw[hf2,hfo];exact pU hTi ha rfl w
   have hx2:∀w:World,(part g.type ([.int .i64 a.1,.int .i64 a.2]:List Value).toArray g.offset).run P w=.ok (.int .i64 a.2) w:=fun w=>by rw[hg2,hgo];exact pU hTi ha rfl w
   have hy1:∀w:World,(part f.type ([.int .i64 b.1,.int .i64 b.2]:List Value).toArray f.offset).run P w=.ok (.int .i64 b.1) w:=fun w=>by rw[hf2,hfo];exact pU hTi ha rfl w
   have hy2:∀w:World,(part g.type ([.int .i64 b.1,.int .i64 b.2]:List Value).toArray g.offset).run P w=.ok (.int .i64 b.2) w:=fun w=>by rw[hg2,hgo];exact pU hTi ha rfl w
   refine uI.run (uI.eq (uI.st ht hp (qZ.cons hf hx1 hy1 (hf2▸uI.int hi a.1 b.1) (qZ.cons hg hx2 hy2 (hg2▸uI.int hi a.2 b.2) qZ.nil))) ?_) yp w
   obtain⟨a1,a2⟩:=a;obtain⟨b1,b2⟩:=b
   by_cases h1:a1=b1<;>by_cases h2:a2=b2<;>simp[h1,h2]
  cases es with
  | nil=>
   cases xs with
   | nil=>rfl
   | cons _ _=>cases hes
  | cons e r=>
   rw[hnow (e::r) xs 0 hes yf]
   exact pS heq d a xs (e::r) 0 hes w
 bits:=fun a=>by simp[xf,Instr.sameBits]
theorem Oh{l:List MapEntry}(hn:(l.map (·.born)).Nodup):∀{j:Nat} {m:MapEntry},l[j]?=some m→l.findIdx? (fun e=>(e.born:Int) == (m.born:Int))=some j:=by
 induction l with
 | nil=>intro j m h;cases h
 | cons a r ih=>
  intro j m h
  simp only[List.map_cons,List.nodup_cons] at hn
  rw[List.findIdx?_cons]
  cases j with
  | zero=>
   simp only[List.getElem?_cons_zero,Option.some.injEq] at h
   subst h
   simp
  | succ j=>
   simp only[List.getElem?_cons_succ] at h
   have hne:((a.born:Int) == (m.born:Int))=false:=by
    rw[beq_eq_false_iff_ne]
    intro e
    exact hn.1 (Z0.2 ⟨m,ME h,(Int.ofNat.inj e).symm⟩)
   rw[hne,ih hn.2 h];rfl
theorem CV{es:Array MapEntry}(hn:(es.toList.map (·.born)).Nodup){j:Nat}{m:MapEntry}(h:es[j]?=some m):es.findIdx? (fun e=>(e.born:Int) == (m.born:Int))=some j:=by
 have:=Oh hn (j:=j) (m:=m) yc
 cases es
 simpa using this
theorem CW(es:Array MapEntry)(m:MapEntry)(f:MapEntry→MapEntry):(es.push m).modify es.size f=es.push (f m):=by
 apply Array.ext_getElem?
 intro i
 rw[Array.getElem?_modify,Array.getElem?_push,Array.getElem?_push]
 by_cases h:es.size=i
 ·subst h;simp
 ·rw[if_neg h,if_neg (fun k=>h k.symm),if_neg (fun k=>h k.symm)]
theorem AZ(es:Array MapEntry)(j:Nat)(k v:Value):(es.modify j fun e=>{ e with key:=k }).modify j (fun e=>{ e with val:=v })=es.modify j fun e=>{ e with key:=k,val:=v }:=by
 apply Array.ext_getElem?
 intro i
 simp only[Array.getElem?_modify]
 by_cases h:j=i
 ·subst h;simp;rfl
 ·simp[h]
def FR{κ α:Type}[DecidableEq κ](c:κ→Value)(d:α→Value)(b:Nat)(xs:List (κ×α))(a:κ)(st:Nat):HP:=
 ⟨fun ids w=>ids=[b]∧∃(es:Array MapEntry) (clock j:Nat),w.heap[b]?=some (.map es clock)∧es.findIdx? (fun e=>(e.born:Int) == (st:Int))=some j ∧
   ∀u,(es.modify j fun e=>{ e with val:=d u }).toList.map (fun e=>(e.key,e.val))=(eI xs a u).map (fun x=>(c x.1,d x.2))∧Stamped (es.modify j fun e=>{ e with val:=d u }) clock,
  fun _ _ _ h hs=>⟨hs.1,by
   obtain⟨es,k,j,h1,h2⟩:=hs.2
   exact⟨es,k,j,(h b yb).trans h1,h2⟩⟩⟩
section
variable {X:Cx} {κ α:Type} [DecidableEq κ] {c:κ→Value} {d:α→Value} {b:Nat} {xs:List (κ×α)} {e:Env} {L:List HP} {T kt et:TypeId} {te:TI} {x y z:Operand}
theorem a8.mapEntry(i:Nat)(K:iF X.P kt c)(hT:X.P.underlying T=some (.map kt et))(hE:aL X.tab et=some te){a:κ}(hx:ev e x=some (.map (some b)))(hk:ev e y=some (c a))(hL:L[i]?=some (gO c d b xs)):
  a8 X (.mapEntry T x y) e L (fun v L'=>∃st:Nat,v=.tuple #[((dT xs a).map d).getD te.zero,.int .i64 st]∧L'=L.set i (FR c d b xs a st)):=fun ac w ha hw dst ty pos after guard=>by
 obtain⟨⟨es,clock,h1,h2,h3⟩,hf⟩:=hw.Fk hL
 have hfi:=K.find d a xs es.toList h2 w
 have hids:∀ids w,(gO c d b xs).sat ids w→ids=[b]:=fun _ _ h=>h.1
 have P:=fun u=>Fm K a u h2 h3
 cases hl:i_ xs a 0 with
 | none=>
  obtain⟨hg,_⟩:=hY hl
  rw[hl] at hfi
  have hz:=kz (X.ok.look hE) (w:=w)
  refine .inl ⟨_,bC w b (.map (es.push { key:=c a,val:=te.zero,born:=clock }) (clock+1)),_,?_,⟨clock,Z,Z⟩,hw.uF hL hids h1 hf ⟨rfl,_,_,es.size,eL h1,?_,fun u=>?_⟩⟩
  ·have:(Instr.mapEntry T (.map (some b)) (c a)).run X.P w=.ok (.tuple #[te.zero,.int .i64 clock]) (bC w b (.map (es.push { key:=c a,val:=te.zero,born:=clock }) (clock+1))):=by
    simp[Instr.mapEntry,run_underlying hT,MapKept.run_getObj_map h1,K.check,hfi,hz,MapKept.run_setObj_map _ h1,Result.andThen,bC,goInt]
   simp only[execOp,ha.ev hx,ha.ev hk,hg]
   rw[Sem.run_bind,this];rfl
  ·have hk:∀x∈es.toList,x.key≠c a:=fun m hm he=>by
    have:(m.key,m.val)∈es.toList.map (fun e=>(e.key,e.val)):=Z0.2 ⟨m,hm,rfl⟩
    rw[h2] at this
    obtain⟨x,hx,hx2⟩:=Z0.1 this
    have e2:c x.1=m.key:=congrArg Prod.fst hx2
    exact(hY hl).2.1 x hx (K.inj _ _ (e2.trans he))
   exact CV (m:={ key:=c a,val:=te.zero,born:=clock }) (stamped_push h3 (val:=te.zero) hk).2.1 yf
  ·rw[CW]
   exact(P u).2 hl
 | some p=>
  obtain⟨j,v⟩:=p
  obtain⟨_,hj,hg,_⟩:=jg hl
  rw[Nat.sub_zero] at hj
  obtain⟨m,hm',hmk,_⟩:=DN h2 hj
  have hm:es[j]?=some m:=by simpa using hm'
  rw[hl] at hfi
  have hst:=stamped_modify h3 j (fun e=>{ e with key:=c a }) (fun _ _=>rfl) (fun e _ he=>by rw[hm] at he;cases he;exact hmk.symm)
  have hat:(es.modify j fun e=>{ e with key:=c a })[j]?=some { m with key:=c a }:=by rw[Array.getElem?_modify,if_pos rfl,hm];rfl
  refine .inl ⟨_,bC w b (.map (es.modify j fun e=>{ e with key:=c a }) clock),_,?_,⟨m.born,Z,Z⟩,hw.uF hL hids h1 hf ⟨rfl,_,_,j,eL h1,CV (m:={ m with key:=c a }) hst.2.1 hat,fun u=>?_⟩⟩
  ·have:(Instr.mapEntry T (.map (some b)) (c a)).run X.P w=.ok (.tuple #[d v,.int .i64 m.born]) (bC w b (.map (es.modify j fun e=>{ e with key:=c a }) clock)):=by
    simp[Instr.mapEntry,run_underlying hT,MapKept.run_getObj_map h1,K.check,hfi,hm,hmk,qW K,MapKept.run_setObj_map _ h1,Result.andThen,bC,goInt]
   simp only[execOp,ha.ev hx,ha.ev hk,hg]
   rw[Sem.run_bind,this];rfl
  ·rw[AZ]
   obtain⟨_,_,_,q1,q2⟩:=(P u).1 hl
   exact⟨q1,q2⟩
theorem a8.Hu(i:Nat)(K:iF X.P kt c)(hT:X.P.underlying T=some (.map kt et))(hE:aL X.tab et=some te)(v0:Value){a:κ}(hx:ev e x=some (.map (some b)))(hk:ev e y=some (c a))(hL:L[i]?=some (gO c d b xs))(hv:((dT xs a).map d).getD te.zero=v0):
  a8 X (.mapEntry T x y) e L (fun v L'=>∃st:Nat,v=.tuple #[v0,.int .i64 st]∧L'=L.set i (FR c d b xs a st)):=hv▸a8.mapEntry i K hT hE hx hk hL
theorem a8.entryStore(i:Nat){a:κ}{u:α}{st:Nat}(hx:ev e x=some (.map (some b)))(hs:ev e y=some (.int .i64 st))(hv:ev e z=some (d u))(hL:L[i]?=some (FR c d b xs a st)):
  a8 X (.entryStore T x y z) e L (fun v L'=>v=undef∧L'=L.set i (gO c d b (eI xs a u))):=fun ac w ha hw dst ty pos after guard=>by
 obtain⟨F,hs1,_,hb⟩:=hw.sat
 obtain⟨ids,hp,hm⟩:=hs1.get hL
 obtain⟨rfl,es,clock,j,h1,h2,h3⟩:=hp
 have hf:=(hb b (hm b yf)).1
 have hids:∀ids w,(FR c d b xs a st).sat ids w→ids=[b]:=fun _ _ h=>h.1
 obtain⟨q1,q2⟩:=h3 u
 refine .inr (.inl ⟨bC w b (.map (es.modify j fun e=>{ e with val:=d u }) clock),_,?_,⟨rfl,Z⟩,hw.uF hL hids h1 hf ⟨rfl,_,_,eL h1,q1,q2⟩⟩)
 have:(Instr.entryStore T (.map (some b)) (.int .i64 st) (d u)).run X.P w=.ok () (bC w b (.map (es.modify j fun e=>{ e with val:=d u }) clock)):=by
  simp[Instr.entryStore,MapKept.run_getObj_map h1,asInt,asIntOf,h2,MapKept.run_setObj_map _ h1,Result.andThen,bC]
 simp only[execOp,ha.ev hx,ha.ev hs,ha.ev hv]
 rw[Sem.run_bind,this];rfl
end
end Vg
namespace Cl
open Go Vg T Api Ch
attribute [local irreducible] VO VC VA
theorem fu:∀(k:Nat) (s:Bs),fV (k+1) s=(fV k s).bind fun p=>(aX p.2).map fun u=>(p.1 ++ [u.1],u.2)
 | 0,s=>by
  rw[fV,fV]
  cases h:aX s with
  | none=>simp[h]
  | some x=>simp[h,fV]
 | k+1,s=>by
  rw[fV,fV]
  cases h:aX s with
  | none=>rfl
  | some x=>
   dsimp only
   rw[fu k x.2]
   cases h2:fV k x.2 with
   | none=>rfl
   | some y=>
    simp only[Option.bind_some]
    cases h3:aX y.2 with
    | none=>rfl
    | some z=>rfl
theorem qO{s:Bs}{k:Nat}(h:fV k s=none):∀j,fV (k+j) s=none
 | 0=>h
 | j+1=>by rw[←Nat.add_assoc,fu,qO h j];rfl
theorem tQ{a b:Int}:∀(k:Nat) (l:List Int),l.length=2*k→lI (l ++ [a,b])=lI l ++ [(a,b)]
 | 0,l,h=>by
  obtain rfl:l=[]:=List.eq_nil_of_length_eq_zero h
  rfl
 | k+1,l,h=>by
  match l,h with
  | x::y::l,h=>
   rw[List.cons_append,List.cons_append,lI,lI,tQ k l (by simp at h;omega),List.cons_append]
  | [x],h=>simp at h;omega
  | [],h=>simp at h
theorem JJ{ms:List bI}{k:Nat}{m:bI}(h:ms[k]?=some m):(flat ax ms)[0+k*2]?=some (.int .i64 m.1):=by
 have:=fH aF (j:=0) h rfl []
 rw[ZN] at this
 rw[ZQ];exact this
theorem JK{ms:List bI}{k:Nat}{m:bI}(h:ms[k]?=some m):(flat ax ms)[0+k*2+1]?=some (.int .i64 m.2):=by
 have:=fH aF (j:=1) h rfl []
 rw[ZN] at this
 rw[ZQ];exact this
theorem JL{ms:List bI}{k:Nat}{m:bI}(x:Int)(h:ms[k]?=some m):(flat ax ms).set (0+k*2) (.int .i64 x)=flat ax (ms.set k (x,m.2)):=by
 have:=gF aF (j:=0) (a':=(x,m.2)) h yp rfl []
 rw[ZN,ZN] at this
 rw[ZQ];exact this
theorem JM{ms:List bI}{k:Nat}{m:bI}(x:Int)(h:ms[k]?=some m):(flat ax ms).set (0+k*2+1) (.int .i64 x)=flat ax (ms.set k (m.1,x)):=by
 have:=gF aF (j:=1) (a':=(m.1,x)) h yp rfl []
 rw[ZN,ZN] at this
 rw[ZQ];exact this
structure WO(ok:Bool)(r:Bs)(ok':Bool)(k:Int)(q:Bs):Prop where
 len:q.length≤r.length
 t:ok'=true→ok=true∧aX r=some (k,q)
 f:ok'=false→ok=false∨aX r=none
abbrev JN:TypeId:=4
abbrev vX:TypeId:=9
def tK(pb okb rb:Nat)(T:TypeId)(cs:List Value)(ok:Bool)(r:Bs):List HP:=[pt pb cs T,pt okb [.bool ok] JN,pt rb [.string (bT r)] vX]
theorem mL{pb off okb rb:Nat}{T:TypeId}{cs:List Value}{ok:Bool}{r:Bs}{k0:Int}(h0:cs[off]?=some (.int .i64 k0))(hr:r.length≤1000000):
  aH Tryz.prog 285 [.pointer (some ⟨pb,off,none⟩),.pointer (some ⟨okb,0,none⟩),.pointer (some ⟨rb,0,none⟩)] Fr w (tK pb okb rb T cs ok r)
   (fun v L=>v=.tuple #[]∧∃k q ok',WO ok r ok' k q∧L=tK pb okb rb T (cs.set off (.int .i64 k)) ok' q):=by
 have hlt:off<cs.length:=(ZP.1 h0).1
 have hself:cs.set off (.int .i64 k0)=cs:=by
  refine List.ext_getElem? fun j=>?_
  by_cases h:off=j
  ·subst h;rw[Z9 hlt,h0]
  ·rw[List.getElem?_set_ne h]
 unfold tK
 refine TF 13 Tryz.func285 Z yn ah Z Z ?_
 refine CS (CG (VG (VO.ld 1 Z Z Z Z ?_)))
 refine aq ?_
 refine CC Z (fun h=>?_) (fun h=>CK ?_)
 rotate_left
 ·exact ay.void rfl ER ⟨rfl,k0,r,ok,⟨NR _,fun h2=>(by rw[h] at h2;cases h2),fun _=>.inl h⟩,by rw[hself]⟩
 subst h
 obtain⟨k,q,ok',hv,hql,hk1,hk2⟩:=AL r
 refine aq ?_
 refine VG (VO.ld 2 Z Z Z Z ?_)
 refine VG (VV (fun Fr w hF hw _=>hv▸nD Fr w r hr) Z ?_)
 refine aq ?_
 refine VG (VO.st 0 (cs':=cs.set off (.int .i64 k)) Z Z Z Z hlt Z Z ?_)
 refine VG (VO.st 2 (cs':=[.string (bT q)]) Z Z Z Z Nat.zero_lt_one Z Z ?_)
 refine VG (VO.st 1 (cs':=[.bool ok']) Z Z Z Z Nat.zero_lt_one Z Z ?_)
 refine aq ?_
 exact ay.void Z ER ⟨rfl,k,q,ok',⟨hql,fun h=>⟨rfl,hk1 h⟩,fun h=>.inr (hk2 h)⟩,Z⟩
structure LI(n:Nat)(r0:Bs)(N:Nat)(x:Nat×List bI×Bs×Bool):Prop where
 k:x.1≤n
 ms:x.2.1.length=n
 len:x.2.2.1.length≤N
 t:x.2.2.2=true→∃l,fV (2*x.1) r0=some (l,x.2.2.1)∧x.2.1.take x.1=lI l∧l.length=2*x.1
 f:x.2.2.2=false→fV (2*n) r0=none
theorem LI.next{n N k:Nat}{r0 r q p:Bs}{ms:List bI}{ok ok1 ok2:Bool}{a b:Int}{m:bI}(h:LI n r0 N (k,ms,r,ok))(hk:k<n)(h1:WO ok r ok1 a q)(h2:WO ok1 q ok2 b p):LI n r0 N (k+1,ms.set k (a,b),p,ok2):=by
 have hl:=h.ms
 have hlen:=h.len
 have l1:=h1.len
 have l2:=h2.len
 dsimp only at hl hlen
 have step:∀l,fV (2*k) r0=some (l,r)→fV (2*k+1) r0=(aX r).map fun u=>(l ++ [u.1],u.2):=fun l hl=>by rw[fu,hl];rfl
 refine⟨hk,by simp[hl],by dsimp only;omega,fun e=>?_,fun e=>?_⟩
 ·obtain⟨e1,u2⟩:=h2.t e
  obtain⟨e0,u1⟩:=h1.t e1
  obtain⟨l,hi,ht,hll⟩:=h.t e0
  dsimp only at hi ht hll ⊢
  refine⟨l ++ [a,b],?_,?_,by simp[hll];omega⟩
  ·rw[show 2*(k+1)=2*k+1+1 from by omega,fu,step l hi,u1]
   simp[u2]
  ·rw[tQ k l hll,←ht,ZZ,Z9 yd,List.take_set_of_le (NR _)];rfl
 ·show fV (2*n) r0=none
  have two:∀j,2*k+j≤2*n→fV (2*k+j) r0=none→fV (2*n) r0=none:=fun j hj hn=>by
   have:=qO hn (2*n-(2*k+j))
   rwa[show 2*k+j+(2*n-(2*k+j))=2*n from by omega] at this
  by_cases e0:ok=true
  rotate_left
  ·exact h.f (by simpa using e0)
  obtain⟨l,hi,_,_⟩:=h.t e0
  by_cases e1:ok1=true
  rotate_left
  ·rcases h1.f (by simpa using e1) with g | g
   ·rw[g] at e0;cases e0
   ·exact two 1 yd (by rw[step l hi,g];rfl)
  ·obtain⟨_,u1⟩:=h1.t e1
   rcases h2.f e with g | g
   ·rw[g] at e1;cases e1
   ·exact two 2 yd (by rw[fu,step l hi,u1];simp[g])
end Cl
namespace Cl
open Go Vg T Api Ch
attribute [local irreducible] VO VC VA
def od:List Value:=[.int .i64 0,.slice none 0 0,.int .i64 0]
def ZG(o:Option dO)(v:Value)(L:List HP):Prop:=match o with
 | some c=>∃a cap,v=.tuple #[.agg (c.cells a cap).toArray,.int .i64 0]∧L=[aI aG 2 a c.ms.length cap (flat ax c.ms)]
 | none=>v=.tuple #[.agg od.toArray,.int .i64 10]∧L=[]
theorem CY{s:Bs}(h:aX s=none):iG s=none:=by unfold iG;rw[h]
theorem CZ{s r:Bs}{k:Int}(h:aX s=some (k,r))(h2:aX r=none):iG s=none:=by unfold iG;rw[h];dsimp only;rw[h2]
theorem tR{s r q:Bs}{k z:Int}(h:aX s=some (k,r))(h2:aX r=some (z,q))(h3:z<1∨6<z):iG s=none:=by unfold iG;rw[h];dsimp only;rw[h2];dsimp only;rw[if_pos h3]
theorem EO{s r q:Bs}{k:Int}{n:Nat}(h:aX s=some (k,r))(h2:aX r=some ((n:Int),q))(h3:1≤n∧n≤6):iG s=match fV (2*n) q with
   | none=>none
   | some (l,r)=>match aX r with
    | none=>none
    | some (dr,r)=>if r=[]∧si ⟨k,lI l,dr⟩=0 then some ⟨k,lI l,dr⟩ else none:=by
 unfold iG;rw[h];dsimp only;rw[h2];dsimp only;rw[if_neg yd];rfl
abbrev JO:TypeId:=3
def dC(ep:Int)(a:Value)(dr:Int):List Value:=[.int .i64 ep,a,.int .i64 dr]
theorem Hv(s:Bs)(hs:s.length≤1000000):aH Tryz.prog 249 [.string (bT s)] Fr w [] (ZG (iG s)):=by
 refine TF 68 Tryz.func249 Z yn ah Z Z ?_
 refine CS (CG (VG (VO.alloc Z fun b2=>?_)))
 refine aq ?_
 refine VG (VO.alloc Z fun b4=>?_)
 refine aq ?_
 refine VG (VO.alloc Z fun b5=>?_)
 refine VG (VO.alloc Z fun b6=>?_)
 refine VG (VO.alloc Z fun b7=>?_)
 refine VG (VO.st 2 (cs':=[.string (bT s)]) Z Z Z Z Nat.zero_lt_one Z Z ?_)
 refine VG (VO.st 1 (cs':=[.bool true]) Z Z Z Z Nat.zero_lt_one Z Z ?_)
 refine VG (VO.st 0 (cs':=[.int .i64 0]) Z Z Z Z Nat.zero_lt_one Z Z ?_)
 refine aq ?_
 refine VG (VI (fI (u:=[]) (v:=[.pointer (some ⟨b6,0,none⟩),.pointer (some ⟨b5,0,none⟩)]) Z Z) ?_)
 refine aq ?_
 refine VO.ar (L':=tK b4 b6 b5 kP (dC 0 (.slice none 0 0) 0) true s ++ [pt b7 [.int .i64 0] JO,pt b2 od kP]) (dF [3,1,1,0,0]).ar ?_
 refine VG (VO.jR (Lc:=tK b4 b6 b5 kP (dC 0 (.slice none 0 0) 0) true s) (Lr:=[pt b7 [.int .i64 0] JO,pt b2 od kP]) Z (fun Fr w hF hw _=>mL Fr w (k0:=0) Z hs) Z Z ?_)
 rintro _ _ ⟨rfl,k1,r1,ok1,i1,rfl⟩
 have n1:=i1.len
 refine aq ?_
 refine VO.ar (L':=tK b7 b6 b5 JO [.int .i64 0] ok1 r1 ++ [pt b4 (dC k1 (.slice none 0 0) 0) kP,pt b2 od kP]) (dF [3,1,1,0,0]).ar ?_
 refine VG (VO.jR (Lc:=tK b7 b6 b5 JO [.int .i64 0] ok1 r1) (Lr:=[pt b4 (dC k1 (.slice none 0 0) 0) kP,pt b2 od kP]) Z (fun Fr w hF hw _=>mL Fr w (k0:=0) Z yd) Z Z ?_)
 rintro _ _ ⟨rfl,z,r2,ok2,i2,rfl⟩
 have n2:=i2.len
 show VO _ _ _ _ _ [pt b7 [.int .i64 z] JO,pt b6 [.bool ok2] JN,pt b5 [.string (bT r2)] vX,pt b4 (dC k1 (.slice none 0 0) 0) kP,pt b2 od kP] _
 refine aq ?_
 refine Rp ?_
 cases ok2 with
 | false=>
  have hn:iG s=none:=by
   by_cases e1:ok1=true
   ·obtain⟨_,u1⟩:=i1.t e1
    rcases i2.f rfl with g | g
    ·rw[g] at e1;cases e1
    ·exact CZ u1 g
   ·rcases i1.f (by simpa using e1) with g | g
    ·cases g
    ·exact CY g
  refine aJ ?_
  refine VG (VY 19 true Z Z ?_)
  refine aJ ?_
  refine VG (VY 23 true Z Z ?_)
  refine Ia ?_
  refine RG ?_
  exact Rw
 | true=>
 obtain⟨e1,u2⟩:=i2.t rfl
 obtain⟨_,u1⟩:=i1.t e1
 clear i1 i2
 refine aJ ?_
 refine VG (VY 19 false Z Z ?_)
 refine eR ?_
 by_cases h1:z<1
 ·have hn:iG s=none:=tR u1 u2 (.inl h1)
  refine VG (VY 23 true Z (DT h1) ?_)
  refine Ia ?_
  refine RG ?_
  exact Rw
 refine VG (VY 23 false Z (DF h1) ?_)
 refine eR ?_
 refine CP (p:=6<z) Z (fun h2=>?_) (fun h2=>CK ?_)
 ·have hn:iG s=none:=tR u1 u2 (.inr h2)
  refine aq ?_
  refine RG ?_
  exact Rw
 obtain⟨n,rfl⟩:∃n:Nat,z=n:=⟨z.toNat,by omega⟩
 have hG:=EO u1 u2 yd
 clear u1 u2 e1
 refine an ?_
 refine VG (VO.makeSlice n Z Z Z Z Z Z Z yd (by show 16*n≤_;omega) fun mb=>?_)
 rw[show(List.replicate n T.t113.zs).flatten=flat ax (List.replicate n (0,0)) from ot (c:=ax) n (0,0)]
 refine aq ?_
 refine VG (VO.st 4 (cs':=dC k1 (.slice (some ⟨mb,0,none⟩) n n) 0) Z Z Z Z OQ Z Z ?_)
 refine Dv ?_
 refine VC.loop (σ:=Nat×List bI×Bs×Bool) (fun x=>[(2,pV b2),(4,pV b4),(5,pV b5),(6,pV b6),(8,pT 285 [] [.pointer (some ⟨b6,0,none⟩),.pointer (some ⟨b5,0,none⟩)]),(33,.int .i64 n),(34,.int .i64 (x.1:Int))])
  (fun x=>[pt mb (flat ax x.2.1) aG,pt b6 [.bool x.2.2.2] JN,pt b5 [.string (bT x.2.2.1)] vX,pt b4 (dC k1 (.slice (some ⟨mb,0,none⟩) n n) 0) kP,pt b2 od kP]) (LI n r2 s.length) (fun x=>n-x.1) (0,List.replicate n (0,0),r2,true)
  ⟨ZO _,by simp,by dsimp only;omega,fun _=>⟨[],rfl,rfl,rfl⟩,fun h=>(Bool.false_ne_true h.symm).elim⟩ ba (dF [0,1,1,1,1]).ar ?_
 rintro⟨k,ms,r,ok⟩ hI
 have hk:=hI.k
 have hml:=hI.ms
 have hrl:=hI.len
 dsimp only at hk hml hrl ⊢
 refine aq ?_
 refine CP (p:=(k:Int)<n) Z (fun h3=>CK ?_) (fun h3=>CX ?_)
 ·obtain⟨m,hm⟩:∃m,ms[k]?=some m:=⟨_,GE yd⟩
  refine V1 ?_
  refine T0 ?_
  refine aq ?_
  refine VG (VO.jR (Lc:=tK mb b6 b5 aG (flat ax ms) ok r) (Lr:=[pt b4 (dC k1 (.slice (some ⟨mb,0,none⟩) n n) 0) kP,pt b2 od kP]) Z (fun Fr w hF hw _=>mL Fr w (JJ hm) yd) Z Z ?_)
  rintro _ _ ⟨rfl,x,q,ok1,i1,rfl⟩
  have n1:=i1.len
  rw[JL x hm]
  have hm2:(ms.set k (x,m.2))[k]?=some (x,m.2):=Z9 yd
  show VO _ _ _ _ _ [pt mb (flat ax (ms.set k (x,m.2))) aG,pt b6 [.bool ok1] JN,pt b5 [.string (bT q)] vX,pt b4 (dC k1 (.slice (some ⟨mb,0,none⟩) n n) 0) kP,pt b2 od kP] _
  refine V1 ?_
  refine T0 ?_
  refine aq ?_
  refine VG (VO.jR (Lc:=tK mb b6 b5 aG (flat ax (ms.set k (x,m.2))) ok1 q) (Lr:=[pt b4 (dC k1 (.slice (some ⟨mb,0,none⟩) n n) 0) kP,pt b2 od kP]) Z (fun Fr w hF hw _=>mL Fr w (JK hm2) yd) Z Z ?_)
  rintro _ _ ⟨rfl,y,p,ok2,i2,rfl⟩
  rw[JM y hm2,List.set_set]
  refine qT ?_
  exact⟨(k+1,ms.set k (x,y),p,ok2),hI.next (m:=m) yd i1 i2,by dsimp only;omega,SC Z (SC Z (SC Z (SC Z (SC Z (SC Z (Sub.int Z tZ (SN _))))))),ER⟩
 obtain rfl:k=n:=by omega
 refine aq ?_
 refine VO.ar (L':=tK b4 b6 b5 kP (dC k1 (.slice (some ⟨mb,0,none⟩) k k) 0) ok r ++ [pt mb (flat ax ms) aG,pt b2 od kP]) (dF [3,1,1,0,0]).ar ?_
 refine VG (VO.jR (Lc:=tK b4 b6 b5 kP (dC k1 (.slice (some ⟨mb,0,none⟩) k k) 0) ok r) (Lr:=[pt mb (flat ax ms) aG,pt b2 od kP]) Z (fun Fr w hF hw _=>mL Fr w (off:=2) (k0:=0) Z yd) Z Z ?_)
 rintro _ _ ⟨rfl,dr,q,ok3,i3,rfl⟩
 have n3:=i3.len
 show VO _ _ _ _ _ [pt b4 (dC k1 (.slice (some ⟨mb,0,none⟩) k k) dr) kP,pt b6 [.bool ok3] JN,pt b5 [.string (bT q)] vX,pt mb (flat ax ms) aG,pt b2 od kP] _
 refine aq ?_
 refine Rp ?_
 cases ok3 with
 | false=>
  have hn:iG s=none:=by
   rw[hG]
   by_cases e1:ok=true
   ·obtain⟨l,hl,_,_⟩:=hI.t e1
    dsimp only at hl
    rw[hl]
    rcases i3.f rfl with g | g
    ·rw[g] at e1;cases e1
    ·dsimp only;rw[g]
   ·rw[hI.f (by simpa using e1)]
  refine aJ ?_
  refine VG (VY 57 true Z Z ?_)
  refine aJ ?_
  refine VG (VY 61 true Z Z ?_)
  refine Ia ?_
  refine RG ?_
  exact Rw
 | true=>
 obtain⟨e1,u1⟩:=i3.t rfl
 obtain⟨l,hl,ht,hll⟩:=hI.t e1
 dsimp only at hl ht hll
 rw[hl] at hG
 dsimp only at hG
 rw[u1] at hG
 dsimp only at hG
 rw[List.take_of_length_le yd] at ht
 rw[←ht] at hG
 refine aJ ?_
 refine R1 ?_
 refine pQ ?_
 by_cases hq:q=[]
 rotate_left
 ·have hn:iG s=none:=by rw[hG,if_neg (fun h=>hq h.1)]
  refine VG (VY 61 true Z (by rw[show(ByteArray.mk #[])=bT [] from Z,p9,DF hq];rfl) ?_)
  refine Ia ?_
  refine RG ?_
  exact Rw
 refine VG (VY 61 false Z (by rw[show(ByteArray.mk #[])=bT [] from Z,p9,DT hq];rfl) ?_)
 refine aJ ?_
 have hdc:dC k1 (.slice (some ⟨mb,0,none⟩) k k) dr=(dO.mk k1 ms dr).cells (some ⟨mb,0,none⟩) k:=by unfold dC dO.cells;rw[hml]
 rw[hdc]
 refine YK ?_
 refine VG (VV (fun Fr w hF hw hS=>Ch.bm Fr w (aK.aP (off:=0) (hS.aP 3 Z) (fun i x hx=>by have:=fG aF hx [];rw[ZN] at this;rw[ZQ];exact this)) (by rw[hml];omega)) Z ?_)
 refine aJ ?_
 refine VC.bo Z (fun hc=>?_) (fun hc=>CK ?_)
 ·have hn:iG s=none:=by rw[hG,if_neg (fun h=>hc h.2)]
  refine aq ?_
  refine RG ?_
  exact Rw
 rw[if_pos ⟨hq,hc⟩] at hG
 refine aJ ?_
 refine YK ?_
 refine VG (VT (vs:=(dO.mk k1 ms dr).cells (some ⟨mb,0,none⟩) k) (cs':=(dO.mk k1 ms dr).cells (some ⟨mb,0,none⟩) k) 4 Z Z Z Z (NR _) Z Z Z ?_)
 refine aJ ?_
 refine CR (ay.aT 2 3 Z Z Z (aE.many (ds:=(dO.mk k1 ms dr).cells (some ⟨mb,0,none⟩) k) 4 Z Z) Z (L':=[aI aG 2 (some ⟨mb,0,none⟩) ms.length k (flat ax ms)]) ?_ (by rw[hG];exact⟨_,_,Z,Z⟩))
 have hsl:ae [pt mb (flat ax ms ++ []) aG] [aI aG 2 (some ⟨mb,0,none⟩) ms.length k (flat ax ms)]:=ae.sl (bp aF ms) yd (by rw[ZN,bp aF];omega) ae.refl
 rw[ZN] at hsl
 exact((IP 3 Z ae.nil).trans hsl).ar
end Cl
namespace Cl
open Go Vg T Api Ch
attribute [local irreducible] VO VC VA
abbrev iZ:TypeId:=204
abbrev xg:TypeId:=100
def r4(fb:Nat)(o:Nat):List Value:=[.pointer (some ⟨fb,o,none⟩)]
theorem nI(fb o:Nat):(r4 fb o).length=1:=rfl
abbrev QZ(n:Int):List Value:=[.int .i64 n]
theorem o_{a:Option Addr}{c:Nat}{ns:List Int}(h:aK QZ 1 Fr w a ns)(hl:ns.length≤1000):aH Tryz.prog 223 [.slice a ns.length c] Fr w [] (fun v L=>v=.bool (ns.all tv)∧L=[]):=by
 refine TF 18 Tryz.func223 Z yn ah Z Z ?_
 refine aq ?_
 refine VC.loop (σ:=Nat) (fun k=>[(5,.slice a ns.length c),(6,.int .i64 ns.length),(7,.int .i64 (k:Int))]) (fun _=>[]) (fun k=>k≤ns.length∧(ns.take k).all tv=true) (fun k=>ns.length-k) 0
  ⟨ZO _,by rw[List.take_zero];rfl⟩ ba ER ?_
 rintro k ⟨hk,hall⟩
 refine aq ?_
 refine CP (p:=(k:Int)<ns.length) Z (fun h1=>CK ?_) (fun h1=>CX ?_)
 rotate_left
 ·rw[List.take_of_length_le yd] at hall
  refine aq ?_
  exact CR (ay.tmp 2 Z Z ER ⟨by rw[hall],Z⟩)
 obtain⟨x,hx⟩:∃x,ns[k]?=some x:=⟨_,GE yd⟩
 obtain⟨xb,xo,hxa,ra,rc⟩:=aK.rd (X:=⟨Tryz.prog,tab,ah,18,Fr,w⟩) h hx
 subst hxa
 have bad:tv x=false→ns.all tv=false:=fun hb=>by
  rw[List.all_eq_false]
  exact⟨x,ME hx,by rw[hb];decide⟩
 refine HZ ?_
 refine VG (VO.load Z Z (rc _ _ 0 _ Z Z) ?_)
 refine aq ?_
 by_cases h2:x<0
 ·refine VG (VY 13 true Z (DT h2) ?_)
  refine Ia ?_
  exact CR (ay.tmp 2 Z Z ER ⟨by rw[bad (DF yd)],Z⟩)
 refine VG (VY 13 false Z (DF h2) ?_)
 refine aJ ?_
 refine CP (p:=1099511627776<x) Z (fun h3=>?_) (fun h3=>CK ?_)
 ·refine aq ?_
  exact CR (ay.tmp 2 Z Z ER ⟨by rw[bad (DF yd)],Z⟩)
 refine qT ?_
 refine⟨k+1,⟨by omega,?_⟩,by dsimp only;omega,SC Z (SC Z (Sub.int Z yd (SN _))),ER⟩
 rw[ZZ,hx,List.all_append,hall]
 have:tv x=true:=DT yd
 simp[this]
def Zc(fb:Nat)(os:List Nat)(v:Value)(L:List HP):Prop:=∃a c,v=.slice a os.length c∧L=[aI xg 1 a os.length c (flat (r4 fb) os)]
theorem nJ{fb:Nat}{f:aa}{g:kQ}(h:eS Fr w fb (f.cells g)):aH Tryz.prog 155 [.pointer (some ⟨fb,0,none⟩)] Fr w [] (Zc fb (iX f.kind)):=by
 have fin:∀{X:Cx} {E:Env} {fn:Func} {b:Nat} (os:List Nat),fn.results=#[.tmp 2]→Vg.look E 2=some (.slice (some ⟨b,0,none⟩) os.length os.length)→iX f.kind=os→ay X fn (Zc fb (iX f.kind)) E [pt b (flat (r4 fb) os) xg]:=fun os h1 h2 h3=>
  ay.tmp 2 h1 h2 (ae.UF (by rw[bp (nI fb)]) ae.refl).ar (by rw[h3];exact⟨_,_,rfl,rfl⟩)
 refine TF 92 Tryz.func155 Z yn ah Z Z ?_
 refine aq ?_
 refine VG (VO.load Z Z (aE.aP h Z) ?_)
 refine aq ?_
 refine CE Z (fun h1=>?_) (fun h1=>?_)
 ·refine aq ?_
  refine CD (ts 0 18 (.only 18 (.take 19 .nil))) yn yr ?_
  refine jo ?_
  refine AG (AO (a8.buildSlice (n:=6) (pv:=[(0,.pointer (some ⟨fb,1,none⟩)),(1,.pointer (some ⟨fb,2,none⟩)),(2,.pointer (some ⟨fb,3,none⟩)),(3,.pointer (some ⟨fb,4,none⟩)),(4,.pointer (some ⟨fb,5,none⟩)),(5,.pointer (some ⟨fb,6,none⟩))]) (cells:=flat (r4 fb) [1,2,3,4,5,6]) rfl rfl rfl rfl yp rfl) rfl (fun v L' g=>by obtain⟨b,rfl,rfl⟩:=g;exact Dy) ?_)
  rintro _ _ ⟨b,rfl,rfl⟩
  refine jo ?_
  exact CR (fin [1,2,3,4,5,6] Z Z (by rw[h1];rfl))
 refine aq ?_
 refine CE Z (fun h2=>?_) (fun h2=>?_)
 ·refine aq ?_
  refine CD (ts 0 9 (.only 9 (.take 10 .nil))) yn yr ?_
  refine jo ?_
  refine AG (AO (a8.buildSlice (n:=3) (pv:=[(0,.pointer (some ⟨fb,2,none⟩)),(1,.pointer (some ⟨fb,3,none⟩)),(2,.pointer (some ⟨fb,4,none⟩))]) (cells:=flat (r4 fb) [2,3,4]) rfl rfl rfl rfl yp rfl) rfl (fun v L' g=>by obtain⟨b,rfl,rfl⟩:=g;exact Dy) ?_)
  rintro _ _ ⟨b,rfl,rfl⟩
  refine jo ?_
  exact CR (fin [2,3,4] Z Z (by rw[h2];rfl))
 refine aq ?_
 refine CE Z (fun h3=>?_) (fun h3=>?_)
 ·refine aq ?_
  refine CD (ts 0 15 (.only 15 (.take 16 .nil))) yn yr ?_
  refine jo ?_
  refine AG (AO (a8.buildSlice (n:=5) (pv:=[(0,.pointer (some ⟨fb,1,none⟩)),(1,.pointer (some ⟨fb,2,none⟩)),(2,.pointer (some ⟨fb,3,none⟩)),(3,.pointer (some ⟨fb,4,none⟩)),(4,.pointer (some ⟨fb,15,none⟩))]) (cells:=flat (r4 fb) [1,2,3,4,15]) rfl rfl rfl rfl yp rfl) rfl (fun v L' g=>by obtain⟨b,rfl,rfl⟩:=g;exact Dy) ?_)
  rintro _ _ ⟨b,rfl,rfl⟩
  refine jo ?_
  exact CR (fin [1,2,3,4,15] Z Z (by rw[h3];rfl))
 refine CS (VC.cq (σ:=Bool) (fun x=>[(0,pV fb),(6,.int .i64 f.kind),(58,.bool x)]) (fun _=>[]) (fun x=>x=(decide (f.kind=4)||decide (f.kind=12))) ?_ ?_)
 ·refine aq ?_
  refine CE Z (fun h4=>CK ?_) (fun h4=>?_)
  ·exact⟨true,by rw[DT h4];rfl,SC Z (SC Z (Sub.bl Z (by rw[h4];rfl) (SN _))),ER⟩
  ·refine aq ?_
   exact⟨decide (f.kind=12),by rw[DF h4];rfl,SC Z (SC Z (Sub.bl Z Z (SN _))),ER⟩
 rintro x hx
 refine aq ?_
 refine CC Z (fun h4=>?_) (fun h4=>?_)
 ·have hk:f.kind=4∨f.kind=12:=by rw[hx] at h4;simpa using h4
  refine aq ?_
  refine VG (VO.buildSlice (n:=1) (pv:=[(0,.pointer (some ⟨fb,1,none⟩))]) (flat (r4 fb) [1]) Z Z Z Z yp Z fun b=>?_)
  refine aq ?_
  exact CR (fin [1] rfl rfl (by rcases hk with e | e<;>rw[e]<;>rfl))
 have hk:f.kind≠4∧f.kind≠12:=by rw[hx] at h4;simpa using h4
 refine aq ?_
 refine CE Z (fun h5=>?_) (fun h5=>?_)
 ·refine aq ?_
  refine CD (ts 0 12 (.only 12 (.take 13 .nil))) yn yr ?_
  refine jo ?_
  refine AG (AO (a8.buildSlice (n:=4) (pv:=[(0,.pointer (some ⟨fb,1,none⟩)),(1,.pointer (some ⟨fb,26,none⟩)),(2,.pointer (some ⟨fb,27,none⟩)),(3,.pointer (some ⟨fb,28,none⟩))]) (cells:=flat (r4 fb) [1,26,27,28]) rfl rfl rfl rfl yp rfl) rfl (fun v L' g=>by obtain⟨b,rfl,rfl⟩:=g;exact Dy) ?_)
  rintro _ _ ⟨b,rfl,rfl⟩
  refine jo ?_
  exact CR (fin [1,26,27,28] Z Z (by rw[h5];rfl))
 refine CS (VC.cq (σ:=Bool) (fun x=>[(0,pV fb),(6,.int .i64 f.kind),(80,.bool x)]) (fun _=>[]) (fun x=>x=true↔(f.kind=6∨f.kind=9∨f.kind=10∨f.kind=11)) ?_ ?_)
 ·refine aq ?_
  refine CE Z (fun h6=>CK ?_) (fun h6=>?_)
  ·exact⟨true,by simp[h6],SC Z (SC Z (Sub.bl Z (by rw[h6];rfl) (SN _))),ER⟩
  refine aq ?_
  refine CE Z (fun h7=>CK ?_) (fun h7=>?_)
  ·exact⟨true,by simp[h7],SC Z (SC Z (Sub.bl Z (by rw[h7];rfl) (SN _))),ER⟩
  refine aq ?_
  refine CE Z (fun h8=>CK ?_) (fun h8=>?_)
  ·exact⟨true,by simp[h8],SC Z (SC Z (Sub.bl Z (by rw[h8];rfl) (SN _))),ER⟩
  refine aq ?_
  exact⟨decide (f.kind=11),by simp[h6,h7,h8],SC Z (SC Z (Sub.bl Z Z (SN _))),ER⟩
 rintro y hy
 refine aq ?_
 refine CC Z (fun h6=>?_) (fun h6=>CK ?_)
 ·have hk2:=hy.1 h6
  refine aq ?_
  refine Vx ?_
  refine jo ?_
  refine AG (AO (a8.buildSlice (n:=2) (pv:=[(0,.pointer (some ⟨fb,1,none⟩)),(1,.pointer (some ⟨fb,26,none⟩))]) (cells:=flat (r4 fb) [1,26]) rfl rfl rfl rfl yp rfl) rfl (fun v L' g=>by obtain⟨b,rfl,rfl⟩:=g;exact Dy) ?_)
  rintro _ _ ⟨b,rfl,rfl⟩
  refine jo ?_
  exact CR (fin [1,26] rfl rfl (by rcases hk2 with e | e | e | e<;>rw[e]<;>rfl))
 have hk2:¬(f.kind=6∨f.kind=9∨f.kind=10∨f.kind=11):=fun k=>by rw[hy.2 k] at h6;cases h6
 have ho:iX f.kind=[]:=by
  unfold iX
  rw[if_neg h1,if_neg h2,if_neg h3,if_neg yd,if_neg h5,if_neg hk2]
 refine aq ?_
 exact CR (ay.tmp 2 Z Z (ae.bZ ae.nil).ar (by rw[ho];exact⟨_,_,Z,Z⟩))
end Cl
namespace Cl
open Go Vg T Api Ch
attribute [local irreducible] VO VC VA
theorem vY(f:aa)(g:kQ){o:Nat}(h:rf o=true):(f.cells g)[o]?=some (.int .i64 (l_ f o)):=by
 have hm:o∈[1,2,3,4,5,6,15,26,27,28]:=by unfold rf at h;exact of_decide_eq_true h
 simp only[ZV,List.not_mem_nil,or_false] at hm
 rcases hm with rfl | rfl | rfl | rfl | rfl | rfl | rfl | rfl | rfl | rfl<;>rfl
theorem WQ{Fr:Nat→Prop}{w:World}{b:Nat}{ns:List Int}(h:eS Fr w b (flat QZ ns)):aK QZ 1 Fr w (some ⟨b,0,none⟩) ns:=
 aK.aP (off:=0) h fun i x hx=>by
  have:=fG (c:=QZ) (n:=1) (fun _=>rfl) hx []
  rw[ZN] at this
  rw[ZQ];exact this
def Oi(r:jI):List Value:=[.int .i64 r.code,.string r.value,.int .i64 r.version,.int .i64 r.at_]
def Oj(e:aY):List Value:=[.int .i64 e.index,.int .i64 e.aj,.int .i64 e.seq,.int .i64 e.op.kind,.string e.op.key,.string e.op.value,.int .i64 e.op.version]
theorem oH{f:aa}{a:Option Addr}{cap:Nat}{ms:List bI}(h:aK ax 2 Fr w a ms)(hl:ms.length≤1000000):aH Tryz.prog 153 [.agg (f.cells (a,ms.length,cap)).toArray] Fr w [] (fun v L=>v=.bool (pL f ms)∧L=[]):=by
 generalize hfc:f.cells (a,ms.length,cap)=fc
 have hch:(fc.drop 23).take 3=dO.cells ⟨f.bV,ms,f.drain⟩ a cap:=by rw[←hfc];rfl
 have hop:(fc.drop 7).take 4=f.op.cells:=by rw[←hfc];rfl
 have hkd:fc[0]?=some (.int .i64 f.kind):=by rw[←hfc];rfl
 refine TF 86 Tryz.func153 Z yn ah Z Z ?_
 refine CS (CG (VG (VB (vs:=fc) Z fun b=>VG (VN ?_))))
 refine aq ?_
 refine VG (VO.ld 0 Z Z Z hkd ?_)
 refine aq ?_
 by_cases h1:f.kind<1
 ·refine VG (VY 10 true Z (DT h1) ?_)
  refine Ia ?_
  exact CR (ay.tmp 2 Z Z ae.nil.ar ⟨by rw[pL,DF yd];rfl,Z⟩)
 refine VG (VY 10 false Z (DF h1) ?_)
 refine aJ ?_
 refine VG (VO.ld 0 Z Z Z hkd ?_)
 refine aJ ?_
 refine CP (p:=12<f.kind) Z (fun h2=>?_) (fun h2=>CK ?_)
 ·refine aq ?_
  exact CR (ay.tmp 2 Z Z ae.nil.ar ⟨by rw[pL,DF yd];rfl,Z⟩)
 have hM:pL f ms=((iX f.kind).all (fun o=>tv (l_ f o))&&zM f ms):=by rw[pL,DT yd];rfl
 refine aq ?_
 refine VG (VK (Lc:=[]) (fun Fr w hF hw hS=>nJ Fr w (fb:=b) (f:=f) (g:=(a,ms.length,cap)) (by rw[hfc];exact hS.aP 0 Z)) Z Z ?_)
 rintro _ _ ⟨na,nc,rfl,rfl⟩
 refine aq ?_
 generalize hos:iX f.kind=os at hM
 have hof:∀o∈os,rf o=true:=fun o ho=>zK f.kind o (by rw[hos];exact ho)
 have hol:os.length≤6:=by rw[←hos];exact uJ _
 refine VC.e_ 0 Z (aW.rl xg na nc os (nI b)) ?_
 rintro⟨ra,rc,rb,rcs,rxs⟩ ⟨rok,rv,rx⟩
 dsimp only at rx
 subst rx
 injection rv with e1 _ e3
 subst e1 e3
 refine VC.loop (σ:=Nat) (fun k=>[(1,pV b),(15,.slice ra rxs.length rc),(16,.int .i64 rxs.length),(17,.int .i64 (k:Int))]) (fun _=>[RL.h xg ⟨ra,rc,rb,rcs,rxs⟩,pt b fc iZ]) (fun k=>k≤rxs.length∧(rxs.take k).all (fun o=>tv (l_ f o))=true) (fun k=>rxs.length-k) 0
  ⟨ZO _,by rw[List.take_zero];rfl⟩ ba ER ?_
 rintro k ⟨hk,hall⟩
 refine aq ?_
 refine CP (p:=(k:Int)<rxs.length) Z (fun h3=>CK ?_) (fun h3=>CX ?_)
 ·obtain⟨o,ho⟩:∃o,rxs[k]?=some o:=⟨_,GE yd⟩
  have hoo:=hof o (ME ho)
  have hcell:fc[o]?=some (.int .i64 (l_ f o)):=by rw[←hfc];exact vY f _ hoo
  obtain⟨tb,tof,htb,hta,hrd⟩:=RL.Ok.ld (t:=xg) (k:=k) (x:=o) rok ho (nI b o)
  dsimp only at hta
  subst hta
  refine HZ ?_
  refine VG (VO.load Z Z ((hrd 0 Z).2 _ 0 _ Z Z) ?_)
  refine aq ?_
  refine VG (VO.ld 1 Z Z Z hcell ?_)
  refine VG (VO.buildSlice (n:=1) (pv:=[(0,.int .i64 (l_ f o))]) (flat QZ [l_ f o]) Z Z Z Z yp Z fun sb=>?_)
  refine VG (VV (fun Fr w hF hw hS=>o_ Fr w (ns:=[l_ f o]) (WQ (hS.aP 0 Z)) (ZT Z)) Z ?_)
  refine aq ?_
  have e:[l_ f o].all tv=tv (l_ f o):=by simp
  refine VC.dX Z (fun h4=>?_) (fun h4=>CK ?_)
  ·rw[e] at h4
   refine aq ?_
   exact CR (ay.tmp 2 Z Z ae.nil.ar ⟨by rw[hM,List.all_eq_false.2 ⟨o,ME ho,by rw[h4];decide⟩];rfl,Z⟩)
  rw[e] at h4
  refine qT ?_
  refine⟨k+1,⟨by omega,?_⟩,by dsimp only;omega,SC Z (SC Z (SC Z (Sub.int Z yd (SN _)))),(dF [1,1]).ar⟩
  rw[ZZ,ho,List.all_append,hall]
  simp[h4]
 rw[List.take_of_length_le yd] at hall
 rw[hall,Bool.true_and] at hM
 clear rok hall hk h3 hol hof hos
 rw[hM]
 unfold zM
 refine aq ?_
 refine VG (VO.ld 1 Z Z Z hkd ?_)
 refine aq ?_
 refine CE Z (fun k1=>?_) (fun k1=>?_)
 ·rw[if_pos k1]
  refine aq ?_
  refine VG (VL 1 f.op.cells Z Z Z hop ?_)
  refine VG (VV (fun Fr w hF hw hS=>Api.bm Fr w f.op) Z ?_)
  refine aq ?_
  exact KH
 rw[if_neg k1]
 refine aq ?_
 refine CE Z (fun k2=>?_) (fun k2=>?_)
 ·rw[if_pos k2]
  refine aq ?_
  refine VG (VL 1 (Oi f.res) Z Z Z TK ?_)
  refine VG (VO.alloc Z fun rb2=>?_)
  refine YL ?_
  refine an ?_
  by_cases g1:1≤f.res.code
  rotate_left
  ·refine VG (VY 43 false Z (DF g1) ?_)
   refine aJ ?_
   refine VG (VY 48 false Z Z ?_)
   refine aJ ?_
   refine U' ?_
   refine aJ ?_
   exact CR (ay.tmp 2 Z Z ae.nil.ar ⟨by rw[DF g1];rfl,Z⟩)
  refine VG (VY 43 true Z (DT g1) ?_)
  refine eR ?_
  by_cases g2:f.res.code≤3
  rotate_left
  ·refine VG (VY 48 false Z (DF g2) ?_)
   refine aJ ?_
   refine U' ?_
   refine aJ ?_
   exact CR (ay.tmp 2 Z Z ae.nil.ar ⟨by rw[DF g2,Bool.and_false];rfl,Z⟩)
  refine VG (VY 48 true Z (DT g2) ?_)
  refine eR ?_
  by_cases g3:f.res.value.size≤64
  rotate_left
  ·refine VG (VY 54 false Z (DF yd) ?_)
   refine aJ ?_
   exact CR (ay.tmp 2 Z Z ae.nil.ar ⟨by rw[DF g3,Bool.and_false];rfl,Z⟩)
  refine VG (VY 54 true Z (DT yd) ?_)
  refine eR ?_
  refine VG (VO.buildSlice (n:=2) (pv:=[(0,.int .i64 f.res.version),(1,.int .i64 f.res.at_)]) (flat QZ [f.res.version,f.res.at_]) Z Z Z Z yp Z fun sb=>?_)
  refine VG (VV (fun Fr w hF hw hS=>o_ Fr w (ns:=[f.res.version,f.res.at_]) (WQ (hS.aP 0 Z)) (ZT Z)) Z ?_)
  refine aJ ?_
  exact CR (ay.tmp 2 Z Z ae.nil.ar ⟨by rw[DT g1,DT g2,DT g3];simp,Z⟩)
 rw[if_neg k2]
 refine aq ?_
 refine CE Z (fun k4=>?_) (fun k4=>?_)
 ·rw[if_pos k4]
  refine aq ?_
  refine VG (VL 1 (Oj f.entry) Z Z Z TK ?_)
  refine VG (VO.alloc Z fun eb=>?_)
  refine YM ?_
  refine an ?_
  refine VG (VO.buildSlice (n:=3) (pv:=[(0,.int .i64 f.entry.index),(1,.int .i64 f.entry.aj),(2,.int .i64 f.entry.seq)]) (flat QZ [f.entry.index,f.entry.aj,f.entry.seq]) Z Z Z Z yp Z fun sb=>?_)
  refine VG (VV (fun Fr w hF hw hS=>o_ Fr w (ns:=[f.entry.index,f.entry.aj,f.entry.seq]) (WQ (hS.aP 0 Z)) (ZT Z)) Z ?_)
  have e3:[f.entry.index,f.entry.aj,f.entry.seq].all tv=(tv f.entry.index&&(tv f.entry.aj&&tv f.entry.seq)):=by simp
  rw[e3]
  generalize (tv f.entry.index&&(tv f.entry.aj&&tv f.entry.seq))=x
  refine aJ ?_
  cases x with
  | false=>
   refine VG (VY 74 false Z Z ?_)
   refine aJ ?_
   exact KH
  | true=>
  refine VG (VY 74 true Z Z ?_)
  refine aJ ?_
  refine VG (VL 1 f.entry.op.cells Z Z Z Z ?_)
  refine VG (VV (fun Fr w hF hw hS=>Api.bm Fr w f.entry.op) Z ?_)
  refine aJ ?_
  exact KH
 rw[if_neg k4]
 refine aq ?_
 refine CE Z (fun k8=>?_) (fun k8=>CK ?_)
 ·rw[if_pos k8]
  refine aq ?_
  refine VG (VL 1 (dO.cells ⟨f.bV,ms,f.drain⟩ a cap) Z Z Z hch ?_)
  refine VG (VV (fun Fr w hF hw hS=>Ch.bm Fr w (c:=⟨f.bV,ms,f.drain⟩) (h.of hF hw) UO) Z ?_)
  refine aq ?_
  exact KH
 rw[if_neg k8]
 refine aq ?_
 exact KH
end Cl
namespace Cl
open Go Vg T Api Ch
attribute [local irreducible] VO VC VA
theorem uv{f:aa}{ms:List bI}(h:pL f ms=true):zM f ms=true:=by
 unfold pL at h
 simp only[Z2] at h
 exact h.2.2
theorem Pm{f:aa}{ms:List bI}(h:pL f ms=true)(k:f.kind=1):a6 f.op=0:=by
 have:=uv h
 rw[zM,if_pos k] at this
 exact of_decide_eq_true this
theorem Pn{f:aa}{ms:List bI}(h:pL f ms=true)(k:f.kind=2):f.res.value.size≤64:=by
 have:=uv h
 rw[zM,if_neg yd,if_pos k] at this
 simp only[Z2,decide_eq_true_eq] at this
 omega
theorem Po{f:aa}{ms:List bI}(h:pL f ms=true)(k:f.kind=4):a6 f.entry.op=0∧tv f.entry.index=true∧tv f.entry.aj=true∧tv f.entry.seq=true:=by
 have:=uv h
 rw[zM,if_neg yd,if_neg yd,if_pos k] at this
 simp only[Z2,decide_eq_true_eq] at this
 exact⟨this.2,this.1.1,this.1.2.1,this.1.2.2⟩
theorem Pp{f:aa}{ms:List bI}(h:pL f ms=true)(k:f.kind=8):si ⟨f.bV,ms,f.drain⟩=0:=by
 have:=uv h
 rw[zM,if_neg yd,if_neg yd,if_neg yd,if_pos k] at this
 exact of_decide_eq_true this
theorem Ol{f:aa}{ms:List bI}(h:pL f ms=true):(DP f ms).length≤200:=by
 unfold DP
 split
 ·rename_i k
  have:=AK (Pm h k);omega
 split
 ·rename_i k
  have:=Pn h k
  have a:=bL f.res.code
  have b:=kn (sB f.res.value)
  have c:=bL f.res.version
  have d:=bL f.res.at_
  rw[uH] at b
  simp only[ZM];omega
 split
 ·rename_i k
  have:=AK (Po h k).1
  have a:=bL f.entry.index
  have b:=bL f.entry.aj
  have c:=bL f.entry.seq
  simp only[ZM];omega
 split
 ·rename_i k
  have:=N' (Pp h k);omega
 ·exact ZO _
theorem C0{f:aa}{a:Option Addr}{cap:Nat}{ms:List bI}(h:aK ax 2 Fr w a ms)(hl:ms.length≤1000000)(hm:pL f ms=true):aH Tryz.prog 156 [.agg (f.cells (a,ms.length,cap)).toArray] Fr w [] (fun v L=>v=.string (bT (DP f ms))∧L=[]):=by
 generalize hfc:f.cells (a,ms.length,cap)=fc
 have hch:(fc.drop 23).take 3=dO.cells ⟨f.bV,ms,f.drain⟩ a cap:=by rw[←hfc];rfl
 have hop:(fc.drop 7).take 4=f.op.cells:=by rw[←hfc];rfl
 have hkd:fc[0]?=some (.int .i64 f.kind):=by rw[←hfc];rfl
 refine TF 66 Tryz.func156 Z yn ah Z Z ?_
 refine CS (CG (VG (VB (vs:=fc) Z fun b=>VG (VN ?_))))
 refine CS (CS (CG (VG (VO.ld 0 Z Z Z hkd (VG (VN ?_))))))
 refine VC.cq (σ:=Unit) (fun _=>[(2,.string (bT (DP f ms)))]) (fun _=>[]) (fun _=>True) ?_ ?_
 rotate_left
 ·rintro⟨⟩ _
  refine aq ?_
  exact KH
 unfold DP
 refine aq ?_
 refine CE Z (fun k1=>?_) (fun k1=>?_)
 ·have ho:=Pm hm k1
  rw[if_pos k1]
  refine aq ?_
  refine VG (VL 0 f.op.cells Z Z Z hop ?_)
  refine VG (VV (fun Fr w hF hw hS=>yK Fr w f.op) Z ?_)
  rw[if_pos ho]
  refine aq ?_
  exact R_
 rw[if_neg k1]
 refine aq ?_
 refine CE Z (fun k2=>?_) (fun k2=>?_)
 ·have hv:=Pn hm k2
  have l1:=bL f.res.code
  have l2:=kn (sB f.res.value)
  have l3:=bL f.res.version
  have l4:=bL f.res.at_
  rw[uH] at l2
  rw[if_pos k2]
  refine aq ?_
  refine VG (VL 0 (Oi f.res) Z Z Z TK ?_)
  refine VG (VO.alloc Z fun rb=>?_)
  refine YL ?_
  refine aq ?_
  refine CD (ts 0 2 (ts 3 2 (ts 7 2 (ts 11 2 (.only 2 (.only 5 (.take 6 (.only 9 (.take 10 (.only 13 (ts 14 2 .nil))))))))))) yn yr ?_
  refine eW ?_
  refine AG (AR (fun Fr w hF hs hS=>eQ Fr w f.res.code) Z Z yu ?_)
  refine AG (AR (fun Fr w hF hs hS=>kl Fr w f.res.value yd) Z Z yu ?_)
  refine R6 ?_
  refine AG (AR (fun Fr w hF hs hS=>eQ Fr w f.res.version) Z Z yu ?_)
  refine AG (AI Z (bq Z Z Xf) ?_)
  refine AG (AR (fun Fr w hF hs hS=>eQ Fr w f.res.at_) Z Z yu ?_)
  refine AG (AI Z (bq Z Z Xb) ?_)
  rw[←gP,←gP,←gP]
  refine eW ?_
  exact R_
 rw[if_neg k2]
 refine aq ?_
 refine CE Z (fun k4=>?_) (fun k4=>?_)
 ·have ho:=(Po hm k4).1
  have l1:=bL f.entry.index
  have l2:=bL f.entry.aj
  have l3:=bL f.entry.seq
  have l4:=AK ho
  rw[if_pos k4]
  refine aq ?_
  refine VG (VL 0 (Oj f.entry) Z Z Z TK ?_)
  refine VG (VO.alloc Z fun eb=>?_)
  refine YM ?_
  refine aq ?_
  refine VG (VL 0 f.entry.op.cells Z Z Z Z ?_)
  refine VG (VV (fun Fr w hF hw hS=>yK Fr w f.entry.op) Z ?_)
  rw[if_pos ho]
  refine aq ?_
  refine CD (ts 0 2 (ts 3 2 (ts 7 2 (.take 11 (.only 2 (.only 5 (.take 6 (.only 9 (.take 10 (ts 12 2 .nil)))))))))) yn yr ?_
  refine eW ?_
  refine AG (AR (fun Fr w hF hs hS=>eQ Fr w f.entry.index) Z Z yu ?_)
  refine AG (AR (fun Fr w hF hs hS=>eQ Fr w f.entry.aj) Z Z yu ?_)
  refine R6 ?_
  refine AG (AR (fun Fr w hF hs hS=>eQ Fr w f.entry.seq) Z Z yu ?_)
  refine AG (AI Z (bq Z Z Xf) ?_)
  refine AG (AI Z (bq Z Z Xb) ?_)
  rw[←gP,←gP,←gP]
  refine eW ?_
  exact R_
 rw[if_neg k4]
 refine aq ?_
 refine CE Z (fun k8=>?_) (fun k8=>CK ?_)
 ·have hc:=Pp hm k8
  rw[if_pos k8]
  refine aq ?_
  refine VG (VL 0 (dO.cells ⟨f.bV,ms,f.drain⟩ a cap) Z Z Z hch ?_)
  refine VG (VV (fun Fr w hF hw hS=>Hl Fr w (c:=⟨f.bV,ms,f.drain⟩) (h.of hF hw) hl) Z ?_)
  rw[if_pos hc]
  refine aq ?_
  exact R_
 rw[if_neg k8]
 exact R_
end Cl
namespace Cl
open Go Vg T Api Ch
attribute [local irreducible] VO VC VA
def Zd(o:Option Bs)(v:Value):Prop:=match o with
 | some t=>v=.tuple #[.string (bT t),.int .i64 0]
 | none=>∃e,e≠0∧v=.tuple #[.string (bT []),.int .i64 e]
theorem qP(f:aa):∀os:List Nat,(os.flatMap (fun o=>fT (l_ f o))).length≤9*os.length
 | []=>NR _
 | o::os=>by
  have:=bL (l_ f o)
  have:=qP f os
  rw[List.flatMap_cons,ZM,ZW];omega
theorem Hw{f:aa}{a:Option Addr}{cap:Nat}{ms:List bI}(h:aK ax 2 Fr w a ms)(hl:ms.length≤1000000):aH Tryz.prog 92 [.agg (f.cells (a,ms.length,cap)).toArray] Fr w [] (fun v L=>Zd (Bw f ms) v∧L=[]):=by
 refine TF 34 Tryz.func92 Z yn ah Z Z ?_
 refine CS (CG (VG (VB (vs:=f.cells (a,ms.length,cap)) Z fun b=>VG (VN ?_))))
 refine aq ?_
 refine VG (VL 0 (f.cells (a,ms.length,cap)) Z Z Z Z ?_)
 refine VG (VV (fun Fr w hF hw hS=>oH Fr w (h.of hF hw) hl) Z ?_)
 refine aq ?_
 refine VC.dX Z (fun hm=>?_) (fun hm=>CK ?_)
 ·refine aq ?_
  exact CR (ay.cV 2 3 Z Z Z ae.nil.ar ⟨by rw[Bw,if_neg (by rw[hm];decide)];exact⟨2,by decide,Z⟩,Z⟩)
 have hP:Bw f ms=if 512<(Gv f ms).length then none else some (Gv f ms):=by rw[Bw,if_pos hm]
 have lb:=Ol hm
 have lk:=bL f.kind
 refine an ?_
 refine VG (VV (fun Fr w hF hw hS=>eQ Fr w f.kind) Z ?_)
 refine aq ?_
 refine VG (VK (Lc:=[]) (fun Fr w hF hw hS=>nJ Fr w (fb:=b) (f:=f) (g:=(a,ms.length,cap)) (hS.aP 0 Z)) Z Z ?_)
 rintro _ _ ⟨na,nc,rfl,rfl⟩
 refine aq ?_
 have hpb:Gv f ms=(fT f.kind++(iX f.kind).flatMap (fun o=>fT (l_ f o)))++DP f ms:=rfl
 generalize hos:iX f.kind=os at hpb
 have hof:∀o∈os,rf o=true:=fun o ho=>zK f.kind o (by rw[hos];exact ho)
 have hol:os.length≤6:=by rw[←hos];exact uJ _
 refine VC.e_ 0 Z (aW.rl xg na nc os (nI b)) ?_
 rintro⟨ra,rc,rb,rcs,rxs⟩ ⟨rok,rv,rx⟩
 dsimp only at rx
 subst rx
 injection rv with e1 _ e3
 subst e1 e3
 refine VC.loop (σ:=Nat) (fun k=>[(1,pV b),(13,.slice ra rxs.length rc),(14,.int .i64 rxs.length),(15,.int .i64 (k:Int)),(4,.string (bT (fT f.kind++(rxs.take k).flatMap (fun o=>fT (l_ f o)))))]) (fun _=>[RL.h xg ⟨ra,rc,rb,rcs,rxs⟩,pt b (f.cells (a,ms.length,cap)) iZ]) (fun k=>k≤rxs.length) (fun k=>rxs.length-k) 0
  (ZO _) (SC rfl (SC rfl (SC rfl (SC rfl (SC Xg (SN _)))))) ER ?_
 rintro k hk
 refine aq ?_
 refine CP (p:=(k:Int)<rxs.length) Z (fun h3=>CK ?_) (fun h3=>CX ?_)
 ·obtain⟨o,ho⟩:∃o,rxs[k]?=some o:=⟨_,GE yd⟩
  have hoo:=hof o (ME ho)
  have lo:=bL (l_ f o)
  have lt:=qP f (rxs.take k)
  rw[Z1] at lt
  have e:(rxs.take (k+1)).flatMap (fun o=>fT (l_ f o))=(rxs.take k).flatMap (fun o=>fT (l_ f o))++fT (l_ f o):=by rw[ZZ,ho,List.flatMap_append];simp
  obtain⟨tb,tof,htb,hta,hrd⟩:=RL.Ok.ld (t:=xg) (k:=k) (x:=o) rok ho (nI b o)
  dsimp only at hta
  subst hta
  refine HZ ?_
  refine VG (VO.load Z Z ((hrd 0 Z).2 _ 0 _ Z Z) ?_)
  refine aq ?_
  refine VG (VO.ld 1 Z Z Z (vY f _ hoo) ?_)
  refine VG (VV (fun Fr w hF hw hS=>eQ Fr w (l_ f o)) Z ?_)
  refine Uh ?_
  rw[←gP]
  refine qT ?_
  exact⟨k+1,by omega,by dsimp only;omega,SC Z (SC Z (SC Z (Sub.int Z yd (SC Xl (SN _))))),ER⟩
 obtain rfl:k=rxs.length:=by omega
 have lt:=qP f rxs
 rw[Z']
 refine aq ?_
 refine VG (VL 1 (f.cells (a,ms.length,cap)) Z Z Z Z ?_)
 refine VG (VV (fun Fr w hF hw hS=>C0 Fr w (h.of hF hw) hl hm) Z ?_)
 refine Uh ?_
 rw[←gP,←hpb]
 refine aq ?_
 refine CP (p:=(512:Int)<(bT (Gv f ms)).size) Z (fun h4=>?_) (fun h4=>CK ?_)
 ·rw[dk] at h4
  refine aq ?_
  exact CR (ay.cV 2 3 Z Z Z ae.nil.ar ⟨by rw[hP,if_pos yd];exact⟨3,by decide,Z⟩,Z⟩)
 rw[dk] at h4
 refine aq ?_
 exact CR (ay.cV 2 3 Z Z Z ae.nil.ar ⟨by rw[hP,if_neg yd];exact Z,Z⟩)
def jQ:List Value→List Nat→List Int→List Value
 | cs,o::os,k::ks=>jQ (cs.set o (.int .i64 k)) os ks
 | cs,_,_=>cs
theorem tS{o:Nat}{x:Int}:∀{os:List Nat} {ks:List Int} {cs:List Value},os.length=ks.length→jQ cs (os ++ [o]) (ks ++ [x])=(jQ cs os ks).set o (.int .i64 x)
 | [],[],cs,_=>rfl
 | a::os,b::ks,cs,h=>tS (os:=os) (ks:=ks) yc
 | [],_::_,_,h=>by simp at h
 | _::_,[],_,h=>by simp at h
def pA(v:Option Value):Prop:=∃n,v=some (.int .i64 n)
theorem vZ{o:Nat}:∀{os:List Nat} {ks:List Int} {cs:List Value},pA cs[o]?→pA (jQ cs os ks)[o]?
 | a::os,b::ks,cs,h=>vZ (os:=os) (ks:=ks) (by
   by_cases e:a=o
   ·subst e
    obtain⟨n,hn⟩:=h
    exact⟨b,by rw[Z9 (ZP.1 hn).1]⟩
   ·rw[List.getElem?_set_ne e];exact h)
 | [],_,_,h=>h
 | _::_,[],_,h=>h
theorem JP{cs:List Value}{o:Nat}{v:Value}(h:cs[o]?=some v):cs.set o v=cs:=by
 refine List.ext_getElem? fun j=>?_
 by_cases e:o=j
 ·subst e;rw[Z9 (ZP.1 h).1,h]
 ·rw[List.getElem?_set_ne e]
structure NI(os:List Nat)(s:Bs)(k:Nat)(x:List Int×Bs×Bool):Prop where
 le:k≤os.length
 ks:x.1.length=k
 len:x.2.1.length≤s.length
 t:x.2.2=true→fV k s=some (x.1,x.2.1)
 f:x.2.2=false→fV os.length s=none
def ZH(fb:Nat)(T:TypeId)(cs:List Value)(os:List Nat)(s:Bs)(v:Value)(L:List HP):Prop:=
 ∃x:List Int×Bs×Bool,NI os s os.length x∧v=.tuple #[.string (bT x.2.1),.bool x.2.2]∧L=[pt fb (jQ cs os x.1) T]
theorem mM{s:Bs}(hs:s.length≤1000000){fb:Nat}{T:TypeId}{cs:List Value}{os:List Nat}(hol:os.length≤1000)(ho:∀o∈os,pA cs[o]?){a:Option Addr}{c:Nat}(h:aK (r4 fb) 1 Fr w a os):
  aH Tryz.prog 183 [.string (bT s),.slice a os.length c] Fr w [pt fb cs T] (ZH fb T cs os s):=by
 refine TF 27 Tryz.func183 Z yn ah Z Z ?_
 refine aq ?_
 refine VC.loop (σ:=Nat×List Int×Bs×Bool) (fun x=>[(9,.slice a os.length c),(10,.int .i64 os.length),(11,.int .i64 (x.1:Int)),(4,.string (bT x.2.2.1)),(5,.bool x.2.2.2)]) (fun x=>[pt fb (jQ cs (os.take x.1) x.2.1) T]) (fun x=>NI os s x.1 x.2) (fun x=>os.length-x.1) (0,[],s,true)
  ⟨ZO _,rfl,NR _,fun _=>rfl,fun h=>(Bool.false_ne_true h.symm).elim⟩ ba (by rw[List.take_zero];exact ER) ?_
 rintro⟨k,ks,r,ok⟩ hI
 have hk:=hI.le
 have hkl:=hI.ks
 have hrl:=hI.len
 dsimp only at hk hkl hrl ⊢
 refine aq ?_
 refine CP (p:=(k:Int)<os.length) Z (fun h3=>CK ?_) (fun h3=>CX ?_)
 rotate_left
 ·obtain rfl:k=os.length:=by omega
  rw[Z']
  refine aq ?_
  exact CR (ay.cV 4 5 Z Z Z ER ⟨(ks,r,ok),hI,Z,Z⟩)
 obtain⟨o,hoo⟩:∃o,os[k]?=some o:=⟨_,GE yd⟩
 obtain⟨xb,xo,hxa,ra,rc⟩:=aK.rd (X:=⟨Tryz.prog,tab,ah,27,Fr,w⟩) h hoo
 subst hxa
 obtain⟨n0,hn0⟩:=vZ (os:=os.take k) (ks:=ks) (ho o (ME hoo))
 have hlt:=(ZP.1 hn0).1
 have htk:os.take (k+1)=os.take k ++ [o]:=by rw[ZZ,hoo];rfl
 have hsn:∀x:Int,jQ cs (os.take (k+1)) (ks ++ [x])=(jQ cs (os.take k) ks).set o (.int .i64 x):=fun x=>by rw[htk,tS TC]
 refine CS (VC.cq (σ:=List Int×Bs×Bool) (fun x=>[(9,.slice (some ⟨xb,xo,none⟩) os.length c),(10,.int .i64 os.length),(11,.int .i64 (k:Int)),(4,.string (bT x.2.1)),(5,.bool x.2.2)]) (fun x=>[pt fb (jQ cs (os.take (k+1)) x.1) T]) (fun x=>NI os s (k+1) x) ?_ ?_)
 ·refine HZ ?_
  refine VG (VO.load Z Z (rc _ _ 0 _ Z Z) ?_)
  refine aq ?_
  refine CC Z (fun h=>?_) (fun h=>CK ?_)
  ·subst h
   have ht:=hI.t rfl
   dsimp only at ht
   obtain⟨x,q,ok,hv,hql,hk1,hk2⟩:=AL r
   refine aq ?_
   refine VG (VV (fun Fr w hF hw _=>hv▸nD Fr w r yd) Z ?_)
   refine aq ?_
   refine VG (VO.st 0 (cs':=(jQ cs (os.take k) ks).set o (.int .i64 x)) Z Z Z Z hlt Z Z ?_)
   refine aq ?_
   refine⟨(ks ++ [x],q,ok),⟨by omega,by simp[hkl],by dsimp only;omega,fun h=>?_,fun h=>?_⟩,ba,by dsimp only;rw[hsn];exact ER⟩
   ·rw[fu,ht];simp[hk1 h]
   ·have:fV (k+1) s=none:=by rw[fu,ht];simp[hk2 h]
    have:=qO this (os.length-(k+1))
    rwa[show k+1+(os.length-(k+1))=os.length from by omega] at this
  ·subst h
   exact⟨(ks ++ [n0],r,false),⟨by omega,by simp[hkl],hrl,fun h=>(Bool.false_ne_true h).elim,fun _=>hI.f Z⟩,ba,by dsimp only;rw[hsn,JP hn0];exact ER⟩
 rintro⟨ks2,r2,ok2⟩ hI2
 refine qT ?_
 exact⟨(k+1,ks2,r2,ok2),hI2,by dsimp only;omega,SC Z (SC Z (Sub.int Z tZ ba)),ER⟩
end Cl
namespace Cl
open Go Vg T Api Ch
attribute [local irreducible] VO VC VA
def Om(fb:Nat)(f:aa)(ms:List bI)(L:List HP):Prop:=∃a cap,L=[pt fb (f.cells (a,ms.length,cap)) iZ,aI aG 2 a ms.length cap (flat ax ms)]
def ZI(fb:Nat)(o:Option (aa×List bI))(v:Value)(L:List HP):Prop:=match o with
 | some x=>v=.bool true∧Om fb x.1 x.2 L
 | none=>v=.bool false∧L=[]
abbrev Jd:=Int×Bs×Bool×List HP
structure Bg(fb:Nat)(o:Option (aa×List bI))(x:Jd):Prop where
 yes:x.2.2.1=true→x.1=0→x.2.1=[]→∃y,o=some y∧Om fb y.1 y.2 x.2.2.2
 no:¬(x.2.2.1=true∧x.1=0∧x.2.1=[])→o=none
theorem Bg.ok{fb:Nat}{o:Option (aa×List bI)}{f:aa}{ms:List bI}{L:List HP}(h:o=some (f,ms))(hL:Om fb f ms L):Bg fb o (0,[],true,L):=⟨fun _ _ _=>⟨_,h,hL⟩,fun k=>absurd ⟨rfl,rfl,rfl⟩ k⟩
theorem Bg.bad{fb:Nat}{o:Option (aa×List bI)}{e:Int}{r:Bs}{ok:Bool}{L:List HP}(h:o=none)(hb:¬(ok=true∧e=0∧r=[])):Bg fb o (e,r,ok,L):=⟨fun h1 h2 h3=>absurd ⟨h1,h2,h3⟩ hb,fun _=>h⟩
def cT:kQ:=(none,0,0)
theorem FT{fb:Nat}{f:aa}:Om fb f [] [pt fb (f.cells cT) iZ,aI aG 2 none 0 0 (flat ax [])]:=⟨none,0,rfl⟩
theorem On{X:Cx}{fb:Nat}{f:aa}{L:List HP}(h:ae L [pt fb (f.cells cT) iZ]):jq X L [pt fb (f.cells cT) iZ,aI aG 2 none 0 0 (flat ax [])]:=
 ((h.trans (ae.bZ ae.refl)).trans (IP 1 rfl ae.refl)).ar
theorem WR{cs:List Value}:∀o∈([]:List Nat),pA cs[o]?:=fun o ho=>by cases ho
theorem Oo{cs:List Value}{a:Nat}{l:List Nat}(h:pA cs[a]?)(hl:∀o∈l,pA cs[o]?):∀o∈a::l,pA cs[o]?:=fun o ho=>by
 rcases ZV.1 ho with rfl | ho
 ·exact h
 ·exact hl o ho
theorem Oq{cs:List Value}{a:Nat}(h:pA cs[a]?):∀o∈[a],pA cs[o]?:=Oo h WR
theorem FU{s:Bs}:fV 1 s=(aX s).map fun x=>([x.1],x.2):=by
 rw[fV]
 cases aX s with
 | none=>rfl
 | some x=>rfl
theorem UG{Fr:Nat→Prop}{w:World}{b fb:Nat}{os:List Nat}(h:eS Fr w b (flat (r4 fb) os)):aK (r4 fb) 1 Fr w (some ⟨b,0,none⟩) os:=
 aK.aP (off:=0) h fun i x hx=>by
  have:=fG (nI fb) hx []
  rw[ZN] at this
  rw[ZQ];exact this
theorem EP{s:Bs}(hs:s.length≤1000000){fb:Nat}{f:aa}:aH Tryz.prog 184 [.pointer (some ⟨fb,0,none⟩),.string (bT s)] Fr w [pt fb (f.cells cT) iZ] (ZI fb (rh f s)):=by
 refine TF 110 Tryz.func184 Z yn ah Z Z ?_
 refine Du ?_
 refine Du ?_
 refine Du ?_
 refine CS (CS (CG (VG (VO.ld 0 Z Z Z Z (VG (VN ?_))))))
 refine VC.cq (σ:=Jd) (fun x=>[(5,.int .i64 x.1),(6,.string (bT x.2.1)),(7,.bool x.2.2.1)]) (fun x=>x.2.2.2) (Bg fb (rh f s)) ?_ ?_
 rotate_left
 ·rintro⟨e,r,ok,L⟩ hE
  refine aq ?_
  cases ok with
  | false=>
   refine VG (VY 102 false Z Z ?_)
   refine aJ ?_
   refine VG (VY 106 false Z Z ?_)
   refine aJ ?_
   exact CR (ay.tmp 4 Z Z ae.nil.ar (by rw[hE.no (fun h=>Bool.false_ne_true h.1)];exact⟨rfl,Z⟩))
  | true=>
  refine VG (VY 102 true Z Z ?_)
  refine aJ ?_
  by_cases he:e=0
  rotate_left
  ·refine VG (VY 106 false Z (beq_eq_false_iff_ne.2 he) ?_)
   refine aJ ?_
   exact CR (ay.tmp 4 Z Z ae.nil.ar (by rw[hE.no (fun h=>he h.2.1)];exact⟨rfl,Z⟩))
  refine VG (VY 106 true Z (beq_iff_eq.2 he) ?_)
  refine aJ ?_
  by_cases hr:r=[]
  rotate_left
  ·exact CR (ay.bool (b:=false) 4 Z Z (by rw[show(ByteArray.mk #[])=bT [] from Z,p9];exact DF hr) ae.nil.ar (by rw[hE.no (fun h=>hr h.2.2)];exact⟨rfl,Z⟩))
  obtain⟨y,hy,hL⟩:=hE.yes rfl he hr
  exact CR (ay.bool (b:=true) 4 Z Z (by rw[show(ByteArray.mk #[])=bT [] from Z,p9];exact DT hr) ER (by rw[hy];exact⟨rfl,hL⟩))
 have nf:∀{e:Int} {r:Bs},¬(false=true∧e=0∧r=[]):=fun h=>Bool.false_ne_true h.1
 have n10:∀{r:Bs},¬(true=true∧(10:Int)=0∧r=[]):=fun h=>absurd h.2.1 yp
 unfold rh
 refine aq ?_
 refine CE Z (fun k1=>?_) (fun k1=>?_)
 ·rw[if_pos k1]
  refine aq ?_
  cases hg:Bx s with
  | none=>
   refine VG (VV (u:=Tb none) (fun Fr w hF hw _=>hg▸pD Fr w s hs) Z ?_)
   refine aJ ?_
   refine VG (VT (vs:=fe.cells ⟨0,bT [],bT [],0⟩) (cs':=({ f with op:=⟨0,bT [],bT [],0⟩ }:aa).cells cT) 0 Z Z Z Z (by show 7+4≤29;omega) Z Z Z ?_)
   refine aJ ?_
   exact V3
  | some o=>
   refine VG (VV (u:=Tb (some o)) (fun Fr w hF hw _=>hg▸pD Fr w s hs) Z ?_)
   refine aJ ?_
   refine VG (VT (vs:=o.cells) (cs':=({ f with op:=o }:aa).cells cT) 0 Z Z Z Z (by show 7+4≤29;omega) Z Z Z ?_)
   refine aJ ?_
   exact⟨(0,[],true,_),Bg.ok Z FT,ba,On ae.refl⟩
 rw[if_neg k1]
 refine aq ?_
 refine CE Z (fun k2=>?_) (fun k2=>?_)
 ·rw[if_pos k2]
  refine aq ?_
  refine VG (VO.buildSlice (n:=1) (pv:=[(0,.pointer (some ⟨fb,11,none⟩))]) (flat (r4 fb) [11]) Z Z Z Z yp Z fun sb=>?_)
  refine VO.ar (L':=[pt fb (f.cells cT) iZ] ++ [pt sb (flat (r4 fb) [11]) xg]) (dF [1,0]).ar ?_
  refine VG (VK (Lc:=[pt fb (f.cells cT) iZ]) (fun Fr w hF hw hS=>mM Fr w (os:=[11]) hs yp (Oq ⟨_,Z⟩) (UG (hS.aP 0 Z))) Z Z ?_)
  rintro _ _ ⟨⟨ks,r,ok⟩,hI,rfl,rfl⟩
  have hl:=hI.len
  have h1:=hI.ks
  have ht:=hI.t
  have hf:=hI.f
  dsimp only at hl h1 ht hf
  obtain⟨code,rfl⟩:∃x,ks=[x]:=by
   match ks,h1 with
   | [x],_=>exact⟨x,rfl⟩
  show VO _ _ _ _ _ [pt fb (({ f with res:={ f.res with code:=code } }:aa).cells cT) iZ,pt sb (flat (r4 fb) [11]) xg] _
  rw[show([11]:List Nat).length=1 from rfl,FU] at ht hf
  refine aJ ?_
  cases ok with
  | false=>
   have hu:aX s=none:=by simpa using hf rfl
   refine Gg ?_
   refine sk ?_
   exact⟨(0,r,false,[]),Bg.bad (by rw[hu]) nf,ba,ae.nil.ar⟩
  | true=>
  have hu:aX s=some (code,r):=by
   have:=ht rfl
   cases hx:aX s with
   | none=>rw[hx] at this;cases this
   | some x=>rw[hx] at this;simp at this;rw[←this.1,←this.2]
  refine wF ?_
  obtain⟨val,q,ok2,hv,hql,hc1,hc2⟩:=EB r
  refine aJ ?_
  refine Vy ?_
  refine aJ ?_
  refine VG (VO.st 0 (cs':=({ f with res:={ f.res with code:=code,value:=bT val } }:aa).cells cT) Z Z Z Z (by show 12<29;omega) Z Z ?_)
  refine aJ ?_
  rw[hu]
  dsimp only
  cases ok2 with
  | false=>
   refine sk ?_
   exact⟨(0,q,false,[]),Bg.bad (by rw[hc2 rfl]) nf,ba,ae.nil.ar⟩
  | true=>
  rw[hc1 rfl]
  dsimp only
  refine RF ?_
  refine CD (ts 0 9 (.only 9 (.only 10 (ts 11 5 .nil)))) yn yr ?_
  refine jo ?_
  refine AG (AO (a8.buildSlice (n:=2) (pv:=[(0,.pointer (some ⟨fb,13,none⟩)),(1,.pointer (some ⟨fb,14,none⟩))]) (cells:=flat (r4 fb) [13,14]) rfl rfl rfl rfl yp rfl) rfl (fun v L' g=>by obtain⟨b,rfl,rfl⟩:=g;exact Dy) ?_)
  rintro _ _ ⟨sc,rfl,rfl⟩
  refine AG (AO (OC (Lc:=[pt fb (({ f with res:={ f.res with code:=code,value:=bT val } }:aa).cells cT) iZ]) (Lr:=[pt sc (flat (r4 fb) [13,14]) xg,pt sb (flat (r4 fb) [11]) xg]) rfl (.swap _ _ _) (fun Fr w hF hw hS=>mM Fr w (s:=q) (os:=[13,14]) yd (ZT rfl) (Oo ⟨_,rfl⟩ (Oq ⟨_,rfl⟩)) (UG (hS.aP 0 rfl)))) rfl (fun v L' g=>by obtain⟨_,⟨x,_,rfl,rfl⟩,rfl⟩:=g;exact Dy) ?_)
  rintro _ _ ⟨_,⟨⟨ks,r3,ok3⟩,hI3,rfl,rfl⟩,rfl⟩
  have h3l:=hI3.len
  have h31:=hI3.ks
  have h3t:=hI3.t
  have h3f:=hI3.f
  dsimp only at h3l h31 h3t h3f
  obtain⟨ver,at_,rfl⟩:∃x y,ks=[x,y]:=by
   match ks,h31 with
   | [x,y],_=>exact⟨x,y,rfl⟩
  rw[show([13,14]:List Nat).length=1+1 from rfl,fu,FU] at h3t h3f
  refine jo ?_
  cases h5:aX q with
  | none=>
   have hko:ok3=false:=by
    cases ok3 with
    | false=>rfl
    | true=>have:=h3t rfl;rw[h5] at this;cases this
   subst hko
   exact⟨(0,r3,false,[]),Bg.bad Z nf,ba,ae.nil.ar⟩
  | some x5=>
  obtain⟨v5,q5⟩:=x5
  dsimp only
  rw[h5] at h3t h3f
  simp only[Option.map_some,Option.bind_some] at h3t h3f
  cases h6:aX q5 with
  | none=>
   have hko:ok3=false:=by
    cases ok3 with
    | false=>rfl
    | true=>have:=h3t rfl;rw[h6] at this;cases this
   subst hko
   exact⟨(0,r3,false,[]),Bg.bad Z nf,ba,ae.nil.ar⟩
  | some x6=>
  obtain⟨v6,q6⟩:=x6
  dsimp only
  rw[h6] at h3t h3f
  simp only[Option.map_some] at h3t h3f
  have hko:ok3=true:=by
   cases ok3 with
   | true=>rfl
   | false=>have:=h3f rfl;cases this
  subst hko
  have h7:=h3t rfl
  simp only[Option.some.injEq,Prod.mk.injEq,List.cons_append,List.nil_append,List.cons.injEq,and_true] at h7
  obtain⟨⟨rfl,rfl⟩,rfl⟩:=h7
  by_cases hq:q6=[]
  ·subst hq
   exact⟨(0,[],true,_),Bg.ok (if_pos Z) FT,ba,On (IP 0 Z ae.nil)⟩
  ·exact⟨(0,q6,true,[]),Bg.bad (if_neg hq) (fun h=>hq h.2.2),ba,ae.nil.ar⟩
 rw[if_neg k2]
 refine aq ?_
 refine CE Z (fun k4=>?_) (fun k4=>?_)
 ·rw[if_pos k4]
  refine aq ?_
  refine CD (ts 0 13 (.only 13 (.only 14 (ts 15 5 .nil)))) yn yr ?_
  refine jo ?_
  refine AG (AO (a8.buildSlice (n:=3) (pv:=[(0,.pointer (some ⟨fb,16,none⟩)),(1,.pointer (some ⟨fb,17,none⟩)),(2,.pointer (some ⟨fb,18,none⟩))]) (cells:=flat (r4 fb) [16,17,18]) rfl rfl rfl rfl yp rfl) rfl (fun v L' g=>by obtain⟨b,rfl,rfl⟩:=g;exact Dy) ?_)
  rintro _ _ ⟨sc,rfl,rfl⟩
  refine AG (AO (OC (Lc:=[pt fb (f.cells cT) iZ]) (Lr:=[pt sc (flat (r4 fb) [16,17,18]) xg]) rfl (.swap _ _ _) (fun Fr w hF hw hS=>mM Fr w (s:=s) (os:=[16,17,18]) hs (ZT rfl) (Oo ⟨_,rfl⟩ (Oo ⟨_,rfl⟩ (Oq ⟨_,rfl⟩))) (UG (hS.aP 0 rfl)))) rfl (fun v L' g=>by obtain⟨_,⟨x,_,rfl,rfl⟩,rfl⟩:=g;exact Dy) ?_)
  rintro _ _ ⟨_,⟨⟨ks,r3,ok3⟩,hI3,rfl,rfl⟩,rfl⟩
  have h3l:=hI3.len
  have h31:=hI3.ks
  have h3t:=hI3.t
  have h3f:=hI3.f
  dsimp only at h3l h31 h3t h3f
  obtain⟨ix,cl,sq,rfl⟩:∃x y z,ks=[x,y,z]:=by
   match ks,h31 with
   | [x,y,z],_=>exact⟨x,y,z,rfl⟩
  rw[show([16,17,18]:List Nat).length=1+1+1 from rfl,fu,fu,FU] at h3t h3f
  show VA _ _ _ _ _ _ [pt fb (({ f with entry:={ f.entry with index:=ix,aj:=cl,seq:=sq } }:aa).cells cT) iZ,pt sc (flat (r4 fb) [16,17,18]) xg] _
  refine HY ?_
  cases ok3 with
  | false=>
   have hn:(match aX s with
    | none=>none
    | some (i,r)=>match aX r with
     | none=>none
     | some (c,r)=>match aX r with
      | none=>none
      | some (q,r)=>match Bx r with
       | none=>none
       | some o=>some (({ f with entry:=⟨i,c,q,o⟩ }:aa),([]:List bI)))=none:=by
    have:=h3f rfl
    cases a1:aX s with
    | none=>rfl
    | some x=>
     rw[a1] at this
     simp only[Option.map_some,Option.bind_some] at this
     dsimp only
     cases a2:aX x.2 with
     | none=>rfl
     | some y=>
      rw[a2] at this
      simp only[Option.map_some,Option.bind_some] at this
      dsimp only
      cases a3:aX y.2 with
      | none=>rfl
      | some z=>rw[a3] at this;cases this
   refine sk ?_
   exact⟨(0,r3,false,[]),Bg.bad hn nf,ba,ae.nil.ar⟩
  | true=>
  have h7:=h3t rfl
  cases a1:aX s with
  | none=>rw[a1] at h7;cases h7
  | some x=>
  rw[a1] at h7
  simp only[Option.map_some,Option.bind_some] at h7
  obtain⟨x1,x2⟩:=x
  dsimp only at h7 ⊢
  cases a2:aX x2 with
  | none=>rw[a2] at h7;cases h7
  | some y=>
  rw[a2] at h7
  simp only[Option.map_some,Option.bind_some] at h7
  obtain⟨y1,y2⟩:=y
  dsimp only at h7 ⊢
  cases a3:aX y2 with
  | none=>rw[a3] at h7;cases h7
  | some z=>
  obtain⟨z1,z2⟩:=z
  rw[a3] at h7
  simp only[Option.map_some,Option.some.injEq,Prod.mk.injEq,List.cons_append,List.nil_append,List.cons.injEq,and_true] at h7
  obtain⟨⟨rfl,rfl,rfl⟩,rfl⟩:=h7
  dsimp only
  refine RF ?_
  cases hg:Bx z2 with
  | none=>
   refine VG (VV (u:=Tb none) (fun Fr w hF hw _=>hg▸pD Fr w z2 yd) Z ?_)
   refine aJ ?_
   refine VG (VT (vs:=fe.cells ⟨0,bT [],bT [],0⟩) (cs':=({ f with entry:=⟨x1,y1,z1,⟨0,bT [],bT [],0⟩⟩ }:aa).cells cT) 0 Z Z Z Z (by show 19+4≤29;omega) Z Z Z ?_)
   refine aJ ?_
   exact V3
  | some o=>
   refine VG (VV (u:=Tb (some o)) (fun Fr w hF hw _=>hg▸pD Fr w z2 yd) Z ?_)
   refine aJ ?_
   refine VG (VT (vs:=o.cells) (cs':=({ f with entry:=⟨x1,y1,z1,o⟩ }:aa).cells cT) 0 Z Z Z Z (by show 19+4≤29;omega) Z Z Z ?_)
   refine aJ ?_
   exact⟨(0,[],true,_),Bg.ok Z FT,ba,On (IP 0 Z ae.nil)⟩
 rw[if_neg k4]
 refine aq ?_
 refine CE Z (fun k8=>?_) (fun k8=>CK ?_)
 ·rw[if_pos k8]
  refine aq ?_
  refine VG (VK (Lc:=[]) (fun Fr w hF hw hS=>Hv Fr w s hs) Z Z ?_)
  cases hg:iG s with
  | none=>
   rintro _ _ ⟨rfl,rfl⟩
   refine aJ ?_
   refine VG (VT (vs:=od) (cs':=({ f with bV:=0,drain:=0 }:aa).cells cT) 0 Z Z Z Z (by show 23+3≤29;omega) Z Z Z ?_)
   refine aJ ?_
   exact V3
  | some c=>
   rintro _ _ ⟨ma,mc,rfl,rfl⟩
   refine aJ ?_
   refine VG (VT (vs:=c.cells ma mc) (cs':=({ f with bV:=c.al,drain:=c.drain }:aa).cells (ma,c.ms.length,mc)) 1 Z Z Z Z (by show 23+3≤29;omega) Z Z Z ?_)
   refine aJ ?_
   exact⟨(0,[],true,_),Bg.ok Z ⟨ma,mc,Z⟩,ba,(dF [1,0]).ar⟩
 rw[if_neg k8]
 by_cases hq:s=[]
 ·subst hq
  exact⟨(0,[],true,_),Bg.ok (if_pos Z) FT,ba,On ae.refl⟩
 ·exact⟨(0,s,true,[]),Bg.bad (if_neg hq) (fun h=>hq h.2.2),ba,ae.nil.ar⟩
end Cl
namespace Cl
open Go Vg T Api Ch
attribute [local irreducible] VO VC VA
theorem ES(f:aa)(g:kQ){o:Nat}(n:Int)(h:rf o=true):(f.cells g).set o (.int .i64 n)=(Gu f o n).cells g:=by
 have hm:o∈[1,2,3,4,5,6,15,26,27,28]:=by unfold rf at h;exact of_decide_eq_true h
 simp only[ZV,List.not_mem_nil,or_false] at hm
 rcases hm with rfl | rfl | rfl | rfl | rfl | rfl | rfl | rfl | rfl | rfl<;>rfl
theorem tT(g:kQ):∀(os:List Nat) (ks:List Int) (f:aa),(∀o∈os,rf o=true)→jQ (f.cells g) os ks=(uK f os ks).cells g
 | o::os,k::ks,f,h=>by
  show jQ ((f.cells g).set o (.int .i64 k)) os ks=(uK (Gu f o k) os ks).cells g
  rw[ES f g k (h o (List.mem_cons_self ..)),tT g os ks _ fun o ho=>h o (List.mem_cons_of_mem _ ho)]
 | [],_,_,_=>rfl
 | _::_,[],_,_=>rfl
theorem JQ{s:Bs}{c:dO}(h:iG s=some c):si c=0:=by
 unfold iG at h
 repeat' split at h
 all_goals first | cases h;done | skip
 all_goals simp only[Option.some.injEq] at h
 all_goals subst h
 all_goals rename_i hh
 all_goals exact hh.2
theorem C2{f:aa}{s:Bs}{y:aa×List bI}(h:rh f s=some y):y.2.length≤6:=by
 unfold rh at h
 by_cases k1:f.kind=1
 ·rw[if_pos k1] at h
  split at h
  ·cases h
  ·cases h;exact ZO _
 rw[if_neg k1] at h
 by_cases k2:f.kind=2
 ·rw[if_pos k2] at h
  repeat' split at h
  all_goals first | (cases h;done) | (cases h;exact ZO _)
 rw[if_neg k2] at h
 by_cases k4:f.kind=4
 ·rw[if_pos k4] at h
  repeat' split at h
  all_goals first | (cases h;done) | (cases h;exact ZO _)
 rw[if_neg k4] at h
 by_cases k8:f.kind=8
 ·rw[if_pos k8] at h
  split at h
  ·cases h
  ·rename_i c hc
   cases h
   have:=js (JQ hc)
   exact this.2.1
 rw[if_neg k8] at h
 split at h
 ·cases h;exact ZO _
 ·cases h
def ZJ(o:Option (aa×List bI))(v:Value)(L:List HP):Prop:=match o with
 | some x=>∃a cap,v=.tuple #[.agg (x.1.cells (a,x.2.length,cap)).toArray,.int .i64 0]∧L=[aI aG 2 a x.2.length cap (flat ax x.2)]
 | none=>v=.tuple #[.agg (aa.zero.cells cT).toArray,.int .i64 10]∧L=[]
theorem Hx{s:Bs}:aH Tryz.prog 113 [.string (bT s)] Fr w [] (ZJ (getM s)):=by
 refine TF 39 Tryz.func113 Z yn ah Z Z ?_
 refine CS (CG (VG (VO.alloc Z fun b2=>?_)))
 refine aq ?_
 refine CP (p:=(512:Int)<(bT s).size) Z (fun h1=>?_) (fun h1=>CK ?_)
 ·rw[dk] at h1
  refine aq ?_
  refine Sa ?_
  refine V4 ?_
  refine aJ ?_
  exact CR (ay.aT 2 3 Z Z Z (aE.many (ds:=aa.zero.cells cT) 0 Z Z) Z ae.nil.ar (by rw[show getM s=none from(by rw[getM,if_pos yd])];exact⟨rfl,Z⟩))
 rw[dk] at h1
 have hs:s.length≤1000000:=by omega
 have hG:getM s=_:=if_neg yd
 refine aq ?_
 refine VG (VO.alloc Z fun b4=>?_)
 refine aq ?_
 refine VG (VO.buildSlice (n:=1) (pv:=[(0,pV b4)]) (flat (r4 b4) [0]) Z Z Z Z yp Z fun sb=>?_)
 refine VO.ar (L':=[pt b4 (aa.zero.cells cT) iZ] ++ [pt b2 (aa.zero.cells cT) iZ,pt sb (flat (r4 b4) [0]) xg]) (dF [1,1,0]).ar ?_
 refine VG (VK (Lc:=[pt b4 (aa.zero.cells cT) iZ]) (fun Fr w hF hw hS=>mM Fr w (os:=[0]) hs (ZT Z) (Oq ⟨_,Z⟩) (UG (hS.aP 1 Z))) Z Z ?_)
 rintro _ _ ⟨⟨ks,r,ok⟩,hI,rfl,rfl⟩
 have hl:=hI.len
 have hk1:=hI.ks
 have ht:=hI.t
 have hf:=hI.f
 dsimp only at hl hk1 ht hf
 obtain⟨k,rfl⟩:∃x,ks=[x]:=by
  match ks,hk1 with
  | [x],_=>exact⟨x,rfl⟩
 rw[show([0]:List Nat).length=1 from rfl,FU] at ht hf
 show VO _ _ _ _ _ [pt b4 (({ aa.zero with kind:=k }:aa).cells cT) iZ,pt b2 (aa.zero.cells cT) iZ,pt sb (flat (r4 b4) [0]) xg] _
 refine aJ ?_
 cases ok with
 | false=>
  have hu:aX s=none:=by simpa using hf rfl
  rw[hu] at hG
  refine Gg ?_
  refine VG (VY 27 true Z Z ?_)
  refine aJ ?_
  refine VG (VY 32 true Z Z ?_)
  refine wI ?_
  refine Sa ?_
  refine YN ?_
  refine aJ ?_
  exact YO
 | true=>
 have hu:aX s=some (k,r):=by
  have:=ht rfl
  cases hx:aX s with
  | none=>rw[hx] at this;cases this
  | some x=>rw[hx] at this;simp at this;rw[←this.1,←this.2]
 rw[hu] at hG
 dsimp only at hG
 clear ht hf hI hk1
 have hof:∀o∈iX k,rf o=true:=fun o ho=>zK k o ho
 have hol:=uJ k
 refine RF ?_
 refine VG (VK (Lc:=[]) (fun Fr w hF hw hS=>nJ Fr w (fb:=b4) (f:={ aa.zero with kind:=k }) (g:=cT) (hS.aP 0 Z)) Z Z ?_)
 rintro _ _ ⟨na,nc,rfl,rfl⟩
 show VO _ _ _ _ _ [aI xg 1 na (iX k).length nc (flat (r4 b4) (iX k)),pt b4 (({ aa.zero with kind:=k }:aa).cells cT) iZ,pt b2 (aa.zero.cells cT) iZ,pt sb (flat (r4 b4) [0]) xg] _
 refine VO.ar (L':=[pt b4 (({ aa.zero with kind:=k }:aa).cells cT) iZ] ++ [pt b2 (aa.zero.cells cT) iZ,aI xg 1 na (iX k).length nc (flat (r4 b4) (iX k))]) (dF [1,1,0]).ar ?_
 refine VG (VK (Lc:=[pt b4 (({ aa.zero with kind:=k }:aa).cells cT) iZ]) (fun Fr w hF hw hS=>mM Fr w (s:=r) (os:=iX k) yd yd (fun o ho=>⟨_,vY _ _ (hof o ho)⟩) (aK.aI (nI b4) (hS.at_ 1 Z))) Z Z ?_)
 rintro _ _ ⟨⟨ks,r2,ok2⟩,hI,rfl,rfl⟩
 have hl2:=hI.len
 have ht:=hI.t
 have hf:=hI.f
 dsimp only at hl2 ht hf
 rw[tT _ _ _ _ hof]
 generalize hF2:uK ({ aa.zero with kind:=k }:aa) (iX k) ks=F
 show VO _ _ _ _ _ [pt b4 (F.cells cT) iZ,pt b2 (aa.zero.cells cT) iZ,aI xg 1 na (iX k).length nc (flat (r4 b4) (iX k))] _
 refine aJ ?_
 cases ok2 with
 | false=>
  rw[hf rfl] at hG
  refine VG (VY 27 true Z Z ?_)
  refine aJ ?_
  refine VG (VY 32 true Z Z ?_)
  refine wI ?_
  refine Sa ?_
  refine YN ?_
  refine aJ ?_
  exact YO
 | true=>
 rw[ht rfl] at hG
 dsimp only at hG
 rw[hF2] at hG
 refine VG (VY 27 false Z Z ?_)
 refine aJ ?_
 refine VG (VK (Lc:=[pt b4 (F.cells cT) iZ]) (fun Fr w hF hw hS=>EP Fr w (s:=r2) (f:=F) yd) Z Z ?_)
 cases hR:rh F r2 with
 | none=>
  rw[hR] at hG
  rintro _ _ ⟨rfl,rfl⟩
  refine aJ ?_
  refine VG (VY 32 true Z Z ?_)
  refine wI ?_
  refine Sa ?_
  refine V4 ?_
  refine aJ ?_
  exact CR (ay.aT 2 3 Z Z Z (aE.many (ds:=aa.zero.cells cT) 0 Z Z) Z ae.nil.ar UK)
 | some y=>
 have hms:=C2 hR
 obtain⟨f,ms⟩:=y
 rw[hR] at hG
 dsimp only at hG hms
 rintro _ _ ⟨rfl,ma,mc,rfl⟩
 show VO _ _ _ _ _ [pt b4 (f.cells (ma,ms.length,mc)) iZ,aI aG 2 ma ms.length mc (flat ax ms),pt b2 (aa.zero.cells cT) iZ,aI xg 1 na (iX k).length nc (flat (r4 b4) (iX k))] _
 refine aJ ?_
 refine VG (VY 32 false Z Z ?_)
 refine aJ ?_
 refine V5 ?_
 refine VG (VV (fun Fr w hF hw hS=>oH Fr w (f:=f) (ms:=ms) (aK.aI aF (hS.at_ 1 Z)) yd) Z ?_)
 refine aJ ?_
 refine VC.dX Z (fun h5=>?_) (fun h5=>CK ?_)
 ·rw[if_neg (by rw[h5];decide)] at hG
  refine aJ ?_
  refine Sa ?_
  refine VG (VT (vs:=aa.zero.cells cT) (cs':=aa.zero.cells cT) 2 Z Z Z Z (NR _) Z Z Z ?_)
  refine aJ ?_
  exact CR (ay.aT 2 3 Z Z Z (aE.many (ds:=aa.zero.cells cT) 2 Z Z) Z ae.nil.ar UK)
 rw[if_pos h5] at hG
 refine aJ ?_
 refine V5 ?_
 refine VG (VT (vs:=f.cells (ma,ms.length,mc)) (cs':=f.cells (ma,ms.length,mc)) 2 Z Z Z Z (NR _) Z Z Z ?_)
 refine aJ ?_
 exact CR (ay.aT 2 3 Z Z Z (aE.many (ds:=f.cells (ma,ms.length,mc)) 2 Z Z) Z (L':=[aI aG 2 ma ms.length mc (flat ax ms)]) (IP 1 Z ae.nil).ar (by rw[hG];exact⟨_,_,Z,Z⟩))
end Cl
namespace Cl
open Go Vg T Api Ch Rep
attribute [local irreducible] VO VC VA
abbrev Hy:TypeId:=119
abbrev jc:TypeId:=210
abbrev Tk:TypeId:=271
abbrev WS:=List ByteArray×(Option Addr×Nat)
abbrev FV:=og×WS
theorem ET:iF Tryz.prog Tk xf:=iF.ii Tryz.underlying271 yn yp yp rfl rfl rfl rfl Tryz.underlying3 (ah.look (t:=3) rfl) rfl
def Hz(v:WS):Value:=.slice v.2.1 v.1.length v.2.2
def xh(x:FV):HP:=aI vX 1 x.2.2.1 x.2.1.length x.2.2.2 (flat qU x.2.1)
def xi(S:bd)(b:Nat):List Value:=[.int .i64 S.cap,.map (some b)]
def Ot(p:Nat)(S:bd)(b:Nat)(X:List FV):List HP:=pt p (xi S b) Hy::gO xf Hz b X::X.map xh
def Kz(X:List FV):List (og×List ByteArray):=X.map fun x=>(x.1,x.2.1)
def eK(p:Nat)(S:bd):HP:=hex fun y:Nat×List FV=>cU (gu (Kz y.2=S.gf)::Ot p S y.1 y.2)
theorem aW.cD(p:Nat)(S:bd):aW (ι:=Nat×List FV) (eK p S) (fun y=>Kz y.2=S.gf) (fun y=>Ot p S y.1 y.2):=fun w ids ⟨x,h⟩ hn=>by
 obtain⟨i1,i2,rfl,⟨rfl,h1⟩,h2⟩:=h
 exact⟨x,h1,i2,h2,hn,fun _ h=>h⟩
theorem ae.cD{p:Nat}{S:bd}{L K:List HP}(b:Nat)(X:List FV)(hX:Kz X=S.gf)(h:ae L (Ot p S b X++K)):ae L (eK p S::K):=ae.ex (f:=fun y:Nat×List FV=>cU (gu (Kz y.2=S.gf)::Ot p S y.1 y.2)) (b,X) (ae.sep (ae.pure hX h))
structure bd.Ok(S:bd):Prop where
 c0:1≤S.cap
 c1:S.cap≤64
 each:∀x∈S.gf,x.2.length≤64
 nd:(S.gf.map Prod.fst).Nodup
theorem v7{κ α β:Type}[DecidableEq κ](f:α→β)(a:κ):∀l:List (κ×α),dT (l.map fun x=>(x.1,f x.2)) a=(dT l a).map f
 | []=>rfl
 | (k,v)::r=>by
  simp only[List.map_cons,dT]
  split
  ·rfl
  ·exact v7 f a r
theorem v8{κ α β:Type}[DecidableEq κ](f:α→β)(a:κ)(u:α):∀l:List (κ×α),(eI l a u).map (fun x=>(x.1,f x.2))=eI (l.map fun x=>(x.1,f x.2)) a (f u)
 | []=>rfl
 | (k,v)::r=>by
  simp only[List.map_cons,eI]
  split
  ·rfl
  ·simp only[List.map_cons,v8 f a u r]
theorem C3{κ α β:Type}[DecidableEq κ](f:α→β)(a:κ):∀l:List (κ×α),(iE l a).map (fun x=>(x.1,f x.2))=iE (l.map fun x=>(x.1,f x.2)) a
 | []=>rfl
 | (k,v)::r=>by
  simp only[List.map_cons,iE]
  split
  ·rfl
  ·simp only[List.map_cons,C3 f a r]
theorem FW(X:List FV)(p:og):∃(old:List ByteArray) (a:Option Addr) (c:Nat) (R:List HP),old=(dT (Kz X) p).getD []∧((dT X p).map Hz).getD (.slice none 0 0)=.slice a old.length c ∧
  ae (X.map xh) (aI vX 1 a old.length c (flat qU old)::R)∧(∀v:WS,ae (aI vX 1 v.2.1 v.1.length v.2.2 (flat qU v.1)::R) ((eI X p v).map xh))∧ae R ((iE X p).map xh):=by
 have eg:dT (Kz X) p=(dT X p).map Prod.fst:=v7 Prod.fst p X
 cases hl:i_ X p 0 with
 | none=>
  obtain⟨h1,h2,h3,h4⟩:=hY hl
  refine⟨[],none,0,X.map xh,by rw[eg,h1];rfl,by rw[h1];rfl,ae.bZ ae.refl,fun v=>?_,by rw[h4];exact ae.refl⟩
  rw[h3 v,List.map_append]
  exact ae.perm (List.perm_append_comm (l₁:=[xh (p,v)]))
 | some q=>
  obtain⟨j,v0⟩:=q
  obtain⟨_,h2,h3,h4,h5⟩:=jg hl
  rw[Nat.sub_zero] at h2 h4 h5
  have e1:(X.map xh)[j]?=some (xh (p,v0)):=by rw[ZS,h2];rfl
  have e2:(X.map xh).eraseIdx j=(X.eraseIdx j).map xh:=(map_eraseIdx xh X j).symm
  have hj:j<X.length:=(ZP.1 h2).1
  refine⟨v0.1,v0.2.1,v0.2.2,(X.map xh).eraseIdx j,by rw[eg,h3];rfl,by rw[h3];rfl,ae.perm (bM e1),fun v=>?_,by rw[h5,e2];exact ae.refl⟩
  rw[h4 v]
  have e3:((X.set j (p,v)).map xh)[j]?=some (xh (p,v)):=by rw[ZS,Z9 hj];rfl
  have e4:((X.set j (p,v)).map xh).eraseIdx j=(X.map xh).eraseIdx j:=by rw[Z_,List.eraseIdx_set_eq]
  refine ae.perm ?_
  have:=(bM e3).symm
  rw[e4] at this
  exact this
section
variable {p:Nat} {S:bd} {b:Nat} {X:List FV}
theorem v_(h:eS Fr w p (xi S b)):aH Tryz.prog 157 [.pointer (some ⟨p,0,none⟩)] Fr w [] (fun v L=>v=.bool false∧L=[]):=by
 refine TF 12 Tryz.func157 Z yn ah Z Z ?_
 refine aJ ?_
 refine RW ?_
 refine zn ?_
 refine VG (VI (qX Tryz.underlying117 Z Z) ?_)
 refine aJ ?_
 exact Dz
theorem HA{n:Int}(h0:1≤n)(h1:n≤64):aH Tryz.prog 31 [.int .i64 n] Fr w [] (fun v L=>∃p,v=.tuple #[.pointer (some ⟨p,0,none⟩),.int .i64 0]∧L=[eK p ⟨n,[]⟩]):=by
 refine TF 14 Tryz.func31 Z yn ah Z Z ?_
 refine aq ?_
 refine VG (VY 6 false Z (DF yd) ?_)
 refine aJ ?_
 refine CP (p:=64<n) Z (fun h=>absurd h yd) (fun h=>CK ?_)
 refine aJ ?_
 refine VG (VO.O8 (a8.makeMap xf Hz) ?_)
 rintro _ _ ⟨m,rfl,rfl⟩
 refine VG (VI (LB (pv:=[(0,.int .i64 n),(1,.map (some m))]) (xi ⟨n,[]⟩ m) Z Z Z yn Z) ?_)
 refine VG (VB (vs:=xi ⟨n,[]⟩ m) Z fun q=>?_)
 refine aJ ?_
 exact CR (ay.cV 2 3 Z Z Z (ae.cD (S:=⟨n,[]⟩) (K:=[]) m [] Z ae.refl).ar ⟨q,Z,Z⟩)
theorem r5(n:Int):aH Tryz.prog 158 [.int .i64 n] Fr w [] (fun v L=>v=.bool (jZ n)∧L=[]):=by
 unfold jZ
 refine TF 21 Tryz.func158 Z yn ah Z Z ?_
 refine aJ ?_
 by_cases h0:0≤n
 ·refine VG (VY 5 true Z (DT h0) ?_)
  refine aJ ?_
  by_cases h6:n<6
  ·refine VG (VY 9 true Z (DT h6) ?_)
   refine aJ ?_
   refine VG (VY 13 true Z Z ?_)
   refine aJ ?_
   exact CR (ay.bool 2 Z Z (by simp[h0,h6]) ER ⟨rfl,Z⟩)
  refine VG (VY 9 false Z (DF h6) ?_)
  refine aJ ?_
  by_cases h16:n=16
  ·refine VG (VY 13 true Z (beq_iff_eq.2 h16) ?_)
   refine aJ ?_
   exact CR (ay.bool 2 Z Z (by simp[h16]) ER ⟨rfl,Z⟩)
  refine VG (VY 13 false Z (beq_eq_false_iff_ne.2 h16) ?_)
  refine aJ ?_
  by_cases h32:32≤n
  ·refine VG (VY 16 true Z (DT h32) ?_)
   refine aJ ?_
   exact CR (ay.bool 2 Z Z (by simp[h0,h6,h16,h32]) ER ⟨rfl,Z⟩)
  refine VG (VY 16 false Z (DF h32) ?_)
  refine aJ ?_
  exact CR (ay.bool 2 Z Z (by simp[h0,h6,h16,h32]) ER ⟨rfl,Z⟩)
 refine VG (VY 5 false Z (DF h0) ?_)
 refine aJ ?_
 refine VG (VY 9 false Z Z ?_)
 refine aJ ?_
 refine VG (VY 13 false Z (beq_eq_false_iff_ne.2 yd) ?_)
 refine aJ ?_
 refine VG (VY 16 false Z (DF yd) ?_)
 refine aJ ?_
 exact CR (ay.bool 2 Z Z ye ER ⟨rfl,Z⟩)
theorem a8.r6{Zx0:Cx}{κ α:Type}[DecidableEq κ]{c:κ→Value}{d:α→Value}{b:Nat}{xs:List (κ×α)}{e:Env}{L:List HP}{T kt et:TypeId}{te:TI}{x y:Operand}(K:iF Zx0.P kt c)(hT:Zx0.P.underlying T=some (.map kt et))(hE:aL Zx0.tab et=some te){a:κ}(v:Value)(hx:ev e x=some (.map (some b)))(hk:ev e y=some (c a))(hM:pK Zx0 L c d b xs)(hv:((dT xs a).map d).getD te.zero=v):
  a8 Zx0 (.lookup T x y false) e L (fun u L'=>u=v∧L'=L):=hv▸a8.lookup (ok:=false) K hT hE hx hk hM
theorem VA.r6{Zx0:Cx}{κ α:Type}[DecidableEq κ]{c:κ→Value}{d:α→Value}{b:Nat}{xs:List (κ×α)}{ops:Array Oper}{G:GS}{pl:je}{S:lF}{e:Env}{L:List HP}{Q:Env→List HP→Prop}{dst:Option Tmp}{ty:TypeId}{pos:String}{after:Array Edge}{guard:Option (Nat×Bool)}
  {i:Nat} {T kt et:TypeId} {te:TI} {x y:Operand} {a:κ} (KO:iF Zx0.P kt c) (hT:Zx0.P.underlying T=some (.map kt et)) (hE:aL Zx0.tab et=some te) (v:Value)
  (hi:ops.toList[i]?=some ⟨dst,.lookup T x y false,ty,pos,after,guard⟩) (hx:ev e x=some (.map (some b))) (hk:ev e y=some (c a)) (hM:pK Zx0 L c d b xs) (hv:((dT xs a).map d).getD te.zero=v)
  (hn:VA Zx0 ops G pl ((i,nP c d b xs)::S) (cE dst v e) L Q)
  (hg:gT ops G guard=some true:=by rfl) (hd:bB Zx0.n dst=true:=by rfl) (hf:bt G dst=true:=by rfl):VA Zx0 ops G (.take i pl) S e L Q:=
 VA.lookup (ok:=false) KO hT hE hi hx hk hM (by subst hv;exact hn) hg hd hf
end
end Cl
namespace Cl
open Go Vg T Api Ch Rep
attribute [local irreducible] VO VC VA
def dx(x y:Int)(t:ByteArray):List Value:=[.int .i64 x,.int .i64 y,.string t]
theorem pa{S:bd}(ok:S.Ok)(p:og):(S.list p).length≤64:=by
 unfold bd.list
 cases h:dT S.gf p with
 | none=>exact ZO _
 | some v=>exact ok.each _ (ou h)
theorem we{κ α:Type}[DecidableEq κ]{a:κ}{u:α}:∀{l:List (κ×α)} {x:κ×α},x∈eI l a u→x∈l∨x=(a,u)
 | [],x,h=>.inr (by simpa[eI] using h)
 | (k,v)::r,x,h=>by
  unfold eI at h
  split at h
  ·rename_i hk
   rcases ZV.1 h with h | h
   ·right;rw[h,hk]
   ·left;exact List.mem_cons_of_mem _ h
  ·rcases ZV.1 h with h | h
   ·left;rw[h];exact List.mem_cons_self
   ·rcases we h with h | h
    ·left;exact List.mem_cons_of_mem _ h
    ·right;exact h
theorem bd.Ok.put{S:bd}(ok:S.Ok)(p:og){l:List ByteArray}(h:l.length≤64):({ S with gf:=eI S.gf p l }:bd).Ok:=
 ⟨ok.c0,ok.c1,fun x hx=>(we hx).elim (ok.each x) (fun e=>by rw[e];exact h),DK ok.nd _ _⟩
theorem bd.Ok.del{S:bd}(ok:S.Ok)(p:og):({ S with gf:=iE S.gf p }:bd).Ok:=
 ⟨ok.c0,ok.c1,fun x hx=>ok.each x ((Bt _ _).mem hx),DL ok.nd _⟩
theorem bd.Ok.send{S:bd}(ok:S.Ok)(p:og)(t:ByteArray):(S.send p t).Ok:=by
 unfold bd.send
 split
 ·exact ok
 rename_i h
 refine ok.put p ?_
 have:=pa ok p
 have:=ok.c1
 rw[ZM]
 have h0:S.jB p t=0:=by simpa using h
 unfold bd.jB at h0
 split at h0
 ·cases h0
 split at h0
 ·cases h0
 split at h0
 ·cases h0
 ·simp;omega
section
variable {p:Nat} {S:bd} {b:Nat} {X:List FV}
theorem A0{x y:Int}{t:ByteArray}(h:jZ x=false∨jZ y=false∨x=y):S.jB (x,y) t=2:=by unfold bd.jB;exact if_pos h
theorem Ou{x y:Int}{t:ByteArray}(h:¬(jZ x=false∨jZ y=false∨x=y)):S.jB (x,y) t=if 512<t.size then 3 else if S.cap≤(S.list (x,y)).length then 60 else 0:=by unfold bd.jB;exact if_neg h
theorem JR{q:og}{t:ByteArray}{e:Int}(h:S.jB q t=e)(he:e≠0):S.send q t=S:=by unfold bd.send;rw[h,if_pos he]
theorem wg(ok:S.Ok)(x y:Int)(t:ByteArray):aH Tryz.prog 93 [.pointer (some ⟨p,0,none⟩),.agg (dx x y t).toArray] Fr w [eK p S]
  (fun v L=>v=.int .i64 (S.jB (x,y) t)∧L=[eK p (S.send (x,y) t)]):=by
 have hll:=pa ok (x,y)
 have hc1:=ok.c1
 refine TF 62 Tryz.func93 Z yn ah Z Z ?_
 refine VC.e_ 0 Z (aW.cD p S) ?_
 rintro⟨b,X⟩ hX
 dsimp only at hX
 refine V6 ?_
 obtain⟨old,a,c,R,e1,e2,e3,e4,e5⟩:=FW X (x,y)
 have eo:old=S.list (x,y):=by rw[e1,hX];rfl
 refine CS (CG (VG (VB (vs:=dx x y t) Z fun mb=>?_)))
 refine Uv ?_
 refine Uv ?_
 refine aq ?_
 refine V7 ?_
 refine VG (VO.alloc Z fun kb=>?_)
 refine YP ?_
 show VO _ _ _ _ _ (pt kb [.int .i64 x,.int .i64 y] Tk::pt mb (dx x y t) jc::pt p (xi S b) Hy::gO xf Hz b X::X.map xh) _
 have fin:jq ⟨Tryz.prog,tab,ah,62,Fr,w⟩ (pt kb [.int .i64 x,.int .i64 y] Tk::pt mb (dx x y t) jc::pt p (xi S b) Hy::gO xf Hz b X::X.map xh) [eK p S]:=
  (ae.cD (K:=[]) b X hX (by rw[ZN];exact IP 2 rfl (IP 2 rfl (ae.app (L:=[_,_]) (M:=[]) ae.nil ae.refl)))).ar
 refine aq ?_
 refine VG (VV (fun Fr w hF hw hS=>v_ Fr w (hS.aP 2 Z)) Z ?_)
 refine aq ?_
 refine H5 ?_
 refine wH ?_
 refine VG (VV (fun Fr w hF hw hS=>r5 Fr w x) Z ?_)
 refine wH ?_
 by_cases k1:jZ x=true
 rotate_left
 ·have hE:=A0 (S:=S) (x:=x) (y:=y) (t:=t) (.inl OR)
  refine VG (VY 19 true Z OR ?_)
  refine wH ?_
  refine VG (VY 25 true Z Z ?_)
  refine wH ?_
  refine wF ?_
  refine aJ ?_
  exact Sb
 refine VG (VY 19 false Z OR ?_)
 refine wH ?_
 refine VG (VV (fun Fr w hF hw hS=>r5 Fr w y) Z ?_)
 refine wH ?_
 by_cases k2:jZ y=true
 rotate_left
 ·have hE:=A0 (S:=S) (x:=x) (y:=y) (t:=t) (.inr (.inl (by simpa using k2)))
  refine VG (VY 25 true Z (by simpa using k2) ?_)
  refine wH ?_
  refine wF ?_
  refine aJ ?_
  exact Sb
 refine VG (VY 25 false Z (by simpa using k2) ?_)
 refine wH ?_
 refine CE Z (fun k3=>?_) (fun k3=>?_)
 ·have hE:=A0 (S:=S) (x:=x) (y:=y) (t:=t) (.inr (.inr k3))
  refine aJ ?_
  exact Sb
 have hN:=Ou (S:=S) (t:=t) (by rintro(h | h | h);rw[k1] at h;cases h;rw[k2] at h;cases h;exact k3 h:¬(jZ x=false∨jZ y=false∨x=y))
 refine wH ?_
 refine CP (p:=512<(t.size:Int)) Z (fun k4=>?_) (fun k4=>?_)
 ·have hE:S.jB (x,y) t=3:=by rw[hN,if_pos yd]
  refine aJ ?_
  exact Sb
 refine aJ ?_
 refine CD (ts 0 13 .nil) yn yr ?_
 refine sn ?_
 refine AG (VA.ky 0 [.int .i64 x,.int .i64 y] Z Z Z Z Z ?_)
 refine AG (VA.r6 (a:=(x,y)) ET Tryz.underlying117 Z (.slice a old.length c) Z Z Z (pK.one 3 Z) e2 ?_)
 refine sn ?_
 refine CP (p:=S.cap≤(old.length:Int)) Z (fun k5=>?_) (fun k5=>CK ?_)
 ·have hE:S.jB (x,y) t=60:=by rw[hN,if_neg yd,←eo,if_pos k5]
  refine aJ ?_
  exact Sb
 have hE:S.jB (x,y) t=0:=by rw[hN,if_neg yd,←eo,if_neg k5]
 have en:(old ++ [t]).length=old.length+1:=by rw[ZM];rfl
 refine CN (L':=aI vX 1 a old.length c (flat qU old)::pt kb [.int .i64 x,.int .i64 y] Tk::pt mb (dx x y t) jc::pt p (xi S b) Hy::gO xf Hz b X::R) ?_ ?_
 ·refine((ae.app (L:=[_,_,_,_]) (M:=[_,_,_,_]) ae.refl e3).trans (IP 4 Z ae.refl)).ar
 refine aq ?_
 refine CD (ts 0 7 (.only 7 (.only 8 (ts 9 1 (ts 11 1 (.only 10 (.only 12 .nil))))))) yn yr ?_
 refine t_ ?_
 refine Sc ?_
 refine t_ ?_
 refine AG (AO (a8.buildSlice (n:=1) (pv:=[(0,.string t)]) (cells:=qU t) Z Z Z Z yp (bJ Z Z Z)) Z ?_ ?_)
 ·rintro _ _ ⟨nb,rfl,rfl⟩
  exact yv
 rintro _ _ ⟨nb,rfl,rfl⟩
 refine AG (AO (a8.Hu 5 ET Tryz.underlying117 Z (.slice a old.length c) (a:=(x,y)) Z Z Z e2) Z ?_ ?_)
 ·rintro _ _ ⟨st,rfl,rfl⟩
  exact yv
 rintro _ _ ⟨st,rfl,rfl⟩
 refine t_ ?_
 refine AG (AO (a8.append (m:=1) (news:=qU t) 1 Z Z Z Z Z Z Z (dt.pt 0 Z Z Z) Z (by show(old.length+1)*16≤_;omega) yd) Z ?_ ?_)
 ·rintro _ _ ⟨a1,c1,rfl,hc1,rfl⟩
  exact yv
 rintro _ _ ⟨a1,c1,rfl,hc1,rfl⟩
 refine t_ ?_
 refine AG (AO (a8.entryStore 5 (c:=xf) (d:=Hz) (xs:=X) (a:=(x,y)) (u:=(old ++ [t],(a1,c1))) Z Z (by show some (Value.slice a1 (old.length+1) c1)=some (.slice a1 (old ++ [t]).length c1);rw[en]) Z) Z ?_ ?_)
 ·rintro _ _ ⟨rfl,rfl⟩
  exact yv
 rintro _ _ ⟨rfl,rfl⟩
 refine HY ?_
 refine CR (ay.tmp 4 Z Z (L':=[eK p (S.send (x,y) t)]) ?_ ⟨by rw[hE],Z⟩)
 have es:S.send (x,y) t={ S with gf:=eI S.gf (x,y) (old ++ [t]) }:=by unfold bd.send;rw[hE,if_neg yp,eo]
 rw[es]
 refine(ae.cD (S:={ S with gf:=eI S.gf (x,y) (old ++ [t]) }) (K:=[]) b (eI X (x,y) (old ++ [t],(a1,c1))) (by show Kz _=eI S.gf (x,y) (old ++ [t]);rw[←hX];exact v8 Prod.fst _ _ _) ?_).ar
 rw[ZN]
 refine IP 4 Z (IP 4 Z ?_)
 have e4':=e4 (old ++ [t],(a1,c1))
 dsimp only at e4'
 rw[bf,vR,en] at e4'
 exact(ae.app (L:=[_]) (L':=_) (M:=[_]) ae.refl (ae.app (L:=[_,_,_]) (M:=[]) ae.nil ae.refl)).trans e4'
end
end Cl
namespace Cl
open Go Vg T Api Ch Rep
attribute [local irreducible] VO VC VA
def Pq(S:bd)(p:og)(i:Int):Value:=match S.find p i with
 | none=>.tuple #[.agg (dx 0 0 ⟨#[]⟩).toArray,.int .i64 4]
 | some t=>.tuple #[.agg (dx p.1 p.2 t).toArray,.int .i64 0]
theorem mN{S:bd}{p:og}{i:Int}(h:S.find p i=none):Pq S p i=.tuple #[.agg (dx 0 0 ⟨#[]⟩).toArray,.int .i64 4]:=by unfold Pq;rw[h]
theorem pc{S:bd}{p:og}{i:Int}{t:ByteArray}(h:S.find p i=some t):Pq S p i=.tuple #[.agg (dx p.1 p.2 t).toArray,.int .i64 0]:=by unfold Pq;rw[h]
theorem C4{κ α:Type}[DecidableEq κ](a:κ)(u:α):∀l:List (κ×α),iE (eI l a u) a=iE l a
 | []=>by simp[eI,iE]
 | (k,v)::r=>by
  unfold eI
  by_cases h:k=a
  ·rw[if_pos h];simp[iE,h]
  ·rw[if_neg h];simp[iE,h,C4 a u r]
theorem FX{Fr:Nat→Prop}{w:World}{A:List HP}{X:List FV}(h:aM Fr (A++X.map xh) w):∀z∈X,aK qU 1 Fr w z.2.2.1 z.2.1:=fun z hz=>by
 obtain⟨i,hi,rfl⟩:=List.getElem_of_mem hz
 exact aK.aI kc (h.at_ (A.length+i) (by rw[List.getElem?_append_right yd,Nat.add_sub_cancel_left,ZS,GE hi];rfl))
section
variable {p:Nat} {S:bd} {b:Nat} {X:List FV}
theorem wi(ok:S.Ok)(h:eS Fr w p (xi S b))(hm:ov Fr w xf Hz b X)(hr:∀z∈X,aK qU 1 Fr w z.2.2.1 z.2.1)(hX:Kz X=S.gf)(x y i:Int):aH Tryz.prog 115 [.pointer (some ⟨p,0,none⟩),.int .i64 x,.int .i64 y,.int .i64 i] Fr w [] (fun v L=>v=Pq S (x,y) i∧L=[]):=by
 have hll:=pa ok (x,y)
 have eg:dT S.gf (x,y)=(dT X (x,y)).map Prod.fst:=by rw[←hX];exact v7 Prod.fst _ X
 obtain⟨l,a,c,e1,e2,e3⟩:∃(l:List ByteArray) (a:Option Addr) (c:Nat),S.list (x,y)=l∧((dT X (x,y)).map Hz).getD (.slice none 0 0)=.slice a l.length c∧aK qU 1 Fr w a l:=by
  unfold bd.list
  rw[eg]
  cases hg:dT X (x,y) with
  | none=>exact⟨[],none,0,rfl,rfl,aK.nil⟩
  | some v=>exact⟨v.1,v.2.1,v.2.2,rfl,rfl,hr _ (ou hg)⟩
 have hf:S.find (x,y) i=if i<0 then none else l[i.toNat]?:=by unfold bd.find;rw[e1]
 rw[e1] at hll
 refine TF 38 Tryz.func115 Z yn ah Z Z ?_
 refine CS (CG (VG (VO.alloc Z fun rb=>?_)))
 refine aJ ?_
 refine VG (VV (fun Fr w hF hw _=>v_ Fr w (h.of hF hw)) Z ?_)
 refine KR ?_
 refine zn ?_
 refine V7 ?_
 refine VG (VO.wG (a8.r6 ET Tryz.underlying117 Z (a:=(x,y)) (.slice a l.length c) Z Z (pK.aP hm) e2) ?_)
 refine aJ ?_
 by_cases h0:i<0
 ·refine VG (VY 24 true Z (DT h0) ?_)
  refine wI ?_
  refine V8 ?_
  refine Rx ?_
  refine aJ ?_
  exact CR (ay.aT 8 9 Z Z Z (aE.many (ds:=dx 0 0 ⟨#[]⟩) 0 Z Z) Z ae.nil.ar ⟨(mN (by rw[hf,if_pos h0])).symm,Z⟩)
 obtain⟨k,rfl⟩:∃k:Nat,i=k:=⟨i.toNat,by omega⟩
 rw[if_neg h0,ZU] at hf
 refine VG (VY 24 false Z (DF h0) ?_)
 refine aJ ?_
 refine CP (p:=(l.length:Int)≤k) Z (fun h1=>?_) (fun h1=>CK ?_)
 ·refine aJ ?_
  refine V8 ?_
  refine Rx ?_
  refine aJ ?_
  exact CR (ay.aT 8 9 Z Z Z (aE.many (ds:=dx 0 0 ⟨#[]⟩) 0 Z Z) Z ae.nil.ar ⟨(mN (by rw[hf,List.getElem?_eq_none yd])).symm,Z⟩)
 have hk:k<l.length:=by omega
 have hk2:l[k]?=some l[k]:=GE hk
 generalize l[k]=t at hk2
 obtain⟨tb,toQ,rfl,_,hrd⟩:=aK.rd (X:=⟨Tryz.prog,tab,ah,38,Fr,w⟩) e3 hk2
 refine aJ ?_
 refine RV ?_
 refine VG (VO.load Z Z (hrd _ _ 0 _ Z Z) ?_)
 refine aJ ?_
 refine VG (VI (LB (pv:=[(0,.int .i64 x),(1,.int .i64 y),(2,.string t)]) (dx x y t) Z Z Z yn Z) ?_)
 refine V9 ?_
 refine aJ ?_
 exact CR (ay.aT 8 9 Z Z Z (aE.many (ds:=dx x y t) 0 Z Z) Z ae.nil.ar ⟨(pc (by rw[hf,hk2])).symm,Z⟩)
end
end Cl
namespace Cl
open Go Vg T Api Ch Rep
attribute [local irreducible] VO VC VA
theorem Ov{S:bd}{q:og}{i:Int}{t:ByteArray}(h:S.find q i=some t):∃k:Nat,i=k∧k<(S.list q).length∧(S.list q)[k]?=some t:=by
 unfold bd.find at h
 split at h
 ·cases h
 ·exact⟨i.toNat,by omega,(ZP.1 h).1,h⟩
theorem s9{S:bd}{q:og}{i:Int}(h:S.find q i=none):S.drop q i=(S,4):=by unfold bd.drop;rw[if_pos h]
theorem s_{S:bd}{q:og}{i:Int}{t:ByteArray}(h:S.find q i=some t):S.drop q i=(S.eT q i,0):=by unfold bd.drop;rw[if_neg (by rw[h];intro e;cases e)]
theorem bd.Ok.drop{S:bd}(ok:S.Ok)(q:og)(i:Int):(S.drop q i).1.Ok:=by
 unfold bd.drop
 split
 ·exact ok
 show(S.eT q i).Ok
 have hl:=pa ok q
 have hl2:((S.list q).eraseIdx i.toNat).length≤64:=Nat.le_trans (List.length_eraseIdx_le _ _) hl
 unfold bd.eT
 split
 ·exact bd.Ok.del (ok.put q hl2) q
 ·exact ok.put q hl2
section
variable {p:Nat} {S:bd} {b:Nat} {X:List FV}
theorem qd(ok:S.Ok)(x y i:Int):aH Tryz.prog 112 [.pointer (some ⟨p,0,none⟩),.int .i64 x,.int .i64 y,.int .i64 i] Fr w [eK p S]
  (fun v L=>v=Pq S (x,y) i∧L=[eK p (S.drop (x,y) i).1]):=by
 have hll:=pa ok (x,y)
 refine TF 55 Tryz.func112 Z yn ah Z Z ?_
 refine VC.e_ 0 Z (aW.cD p S) ?_
 rintro⟨b,X⟩ hX
 dsimp only at hX
 refine V6 ?_
 obtain⟨old,a,c,R,e1,e2,e3,e4,e5⟩:=FW X (x,y)
 have eo:old=S.list (x,y):=by rw[e1,hX];rfl
 refine CS (CG (VG (VO.alloc Z fun rb=>?_)))
 refine aq ?_
 refine VG (VV (fun Fr w hF hw hS=>wi Fr w ok (hS.aP 1 Z) (hS.DM 2 Z) (FX (A:=[_,_,_]) hS) hX x y i) Z ?_)
 cases hf:S.find (x,y) i with
 | none=>
  rw[mN hf]
  refine aq ?_
  refine Rx ?_
  refine PI ?_
  refine V8 ?_
  refine Rx ?_
  refine aq ?_
  refine CR (ay.aT 8 9 Z Z Z (aE.many (ds:=dx 0 0 ⟨#[]⟩) 0 Z Z) Z (L':=[eK p S]) ?_ ⟨rfl,by rw[s9 hf]⟩)
  exact(ae.cD (K:=[]) b X hX (by rw[ZN];exact IP 1 Z (IP 1 Z (ae.app (L:=[_]) (M:=[]) ae.nil ae.refl)))).ar
 | some t=>
  obtain⟨k,rfl,hk,hkt⟩:=Ov hf
  rw[←eo] at hk hkt
  rw[pc hf]
  refine aq ?_
  refine V9 ?_
  refine Ff ?_
  refine V7 ?_
  refine VG (VO.alloc Z fun kb=>?_)
  refine YP ?_
  refine VO.ar (L':=aI vX 1 a old.length c (flat qU old)::pt kb [.int .i64 x,.int .i64 y] Tk::pt rb (dx x y t) jc::pt p (xi S b) Hy::gO xf Hz b X::R) ?_ ?_
  ·exact((ae.app (L:=[_,_,_,_]) (M:=[_,_,_,_]) ae.refl e3).trans (IP 4 Z ae.refl)).ar
  have hlo:old.length≤64:=by rw[eo];exact hll
  refine aq ?_
  refine CD (ts 0 14 (.only 14 (.only 15 .nil))) yn yr ?_
  refine t_ ?_
  refine Sc ?_
  refine t_ ?_
  refine Sc ?_
  refine AG (VA.r6 (a:=(x,y)) ET Tryz.underlying117 Z (.slice a old.length c) Z Z Z (pK.one 4 Z) e2 ?_)
  refine t_ ?_
  refine H8 ?_
  refine AG (AQ 0 rfl (fun Fr w hF hs hS=>AE (a:=a) (cap:=c) Fr w hk yd) rfl rfl (ψ:=fun v H=>∃a' cap',v=.slice a' (old.eraseIdx k).length cap'∧H=aI vX 1 a' (old.eraseIdx k).length cap' (flat qU (old.eraseIdx k))) (fun v L h=>by obtain⟨a',c',h1,h2⟩:=h;exact⟨_,h2,a',c',h1,rfl⟩) ?_ ?_)
  ·rintro _ _ ⟨a1,c1,rfl,rfl⟩
   exact yv
  rintro _ _ ⟨a1,c1,rfl,rfl⟩
  refine AG (AO (a8.mapUpdate 4 (c:=xf) (d:=Hz) (xs:=X) (a:=(x,y)) (u:=(old.eraseIdx k,(a1,c1))) ET Tryz.underlying117 Z Z Z Z) Z ?_ ?_)
  ·rintro _ _ ⟨rfl,rfl⟩
   exact yv
  rintro _ _ ⟨rfl,rfl⟩
  refine jo ?_
  have ew:S.eT (x,y) k=if (old.eraseIdx k).length=0 then { S with gf:=iE (eI S.gf (x,y) (old.eraseIdx k)) (x,y) } else { S with gf:=eI S.gf (x,y) (old.eraseIdx k) }:=by unfold bd.eT;rw[←eo,ZU]
  have eX:Kz (eI X (x,y) (old.eraseIdx k,(a1,c1)))=eI S.gf (x,y) (old.eraseIdx k):=by rw[←hX];exact v8 Prod.fst _ _ _
  refine CS (VC.cq (σ:=Unit) (fun _=>[(8,pV rb)]) (fun _=>[eK p (S.eT (x,y) k),pt rb (dx x y t) jc]) (fun _=>True) ?_ ?_)
  ·refine CS (CD (ts 0 8 .nil) yn yr ?_)
   refine t_ ?_
   refine Sc ?_
   refine AG (VA.r6 (a:=(x,y)) ET Tryz.underlying117 Z (.slice a1 (old.eraseIdx k).length c1) Z Z Z (pK.one 4 Z) (by rw[Ih,if_pos rfl];rfl) ?_)
   refine t_ ?_
   refine CE (i:=((old.eraseIdx k).length:Int)) (j:=0) Z (fun k0=>?_) (fun k0=>CK ?_)
   ·refine CD (ts 0 5 (.only 5 .nil)) yn yr ?_
    refine t_ ?_
    refine Sc ?_
    refine AG (AO (a8.delete 4 (c:=xf) (d:=Hz) (xs:=eI X (x,y) (old.eraseIdx k,(a1,c1))) (a:=(x,y)) ET Tryz.underlying117 Z Z Z) Z ?_ ?_)
    ·rintro _ _ ⟨rfl,rfl⟩
     exact yv
    rintro _ _ ⟨rfl,rfl⟩
    refine jo ?_
    refine⟨(),trivial,ba,?_⟩
    rw[ew,if_pos yd]
    refine(ae.cD (S:={ S with gf:=iE (eI S.gf (x,y) (old.eraseIdx k)) (x,y) }) b (iE (eI X (x,y) (old.eraseIdx k,(a1,c1))) (x,y)) (by show Kz _=iE (eI S.gf (x,y) (old.eraseIdx k)) (x,y);rw[←eX];exact C3 Prod.fst _ _) ?_).ar
    refine IP 3 Z (IP 3 Z ?_)
    refine(ae.perm (List.perm_append_comm (l₁:=[_,_,_]) (l₂:=R))).trans (ae.app ?_ (IP 2 Z ae.nil))
    rw[C4]
    exact e5
   ·refine⟨(),trivial,ba,?_⟩
    rw[ew,if_neg yd]
    refine(ae.cD (S:={ S with gf:=eI S.gf (x,y) (old.eraseIdx k) }) b (eI X (x,y) (old.eraseIdx k,(a1,c1))) eX ?_).ar
    refine IP 3 Z (IP 3 Z ?_)
    refine ae.trans (M:=[pt rb (dx x y t) jc]++(eI X (x,y) (old.eraseIdx k,(a1,c1))).map xh) (IP 2 Z ?_) (ae.perm List.perm_append_comm)
    exact(ae.app (L:=[_]) (L':=_) (M:=[_]) ae.refl (ae.app (L:=[_]) (M:=[]) ae.nil ae.refl)).trans (e4 (old.eraseIdx k,(a1,c1)))
  rintro - -
  refine aq ?_
  refine VG (VL 1 (dx x y t) Z Z Z Z ?_)
  refine VG (VT (vs:=dx x y t) (cs':=dx x y t) 1 Z Z Z Z (NR _) Z Z Z ?_)
  refine aq ?_
  exact CR (ay.aT 8 9 Z Z Z (aE.many (ds:=dx x y t) 1 Z Z) Z (L':=[eK p (S.eT (x,y) k)]) (IP 0 Z ae.nil).ar ⟨rfl,by rw[s_ hf]⟩)
end
end Cl
namespace Cl
open Go Vg T Api Ch Rep
attribute [local irreducible] VO VC VA
theorem Q0(S:bd)(q:og)(i:Int):∃x y t,Pq S q i=.tuple #[.agg (dx x y t).toArray,.int .i64 (S.drop q i).2]:=by
 cases hf:S.find q i with
 | none=>exact⟨_,_,_,by rw[mN hf,s9 hf]⟩
 | some t=>exact⟨_,_,_,by rw[pc hf,s_ hf]⟩
section
variable {p:Nat} {S:bd} {b:Nat} {X:List FV}
theorem EU(ok:S.Ok)(x y i:Int):aH Tryz.prog 64 [.pointer (some ⟨p,0,none⟩),.int .i64 x,.int .i64 y,.int .i64 i] Fr w [eK p S]
  (fun v L=>v=.int .i64 (S.drop (x,y) i).2∧L=[eK p (S.drop (x,y) i).1]):=by
 refine TF 20 Tryz.func64 Z yn ah Z Z ?_
 refine aq ?_
 refine VG (VK (Lc:=[eK p S]) (Lr:=[]) (fun Fr w hF hw _=>qd Fr w ok x y i) Z Z ?_)
 rintro _ _ ⟨rfl,rfl⟩
 obtain⟨x',y',t',e⟩:=Q0 S (x,y) i
 rw[e]
 refine aq ?_
 refine VG (VO.alloc Z fun rb=>?_)
 refine VG (VT (vs:=dx x' y' t') (cs':=dx x' y' t') 0 Z Z Z Z (NR _) Z Z Z ?_)
 refine aq ?_
 exact CR (ay.tmp 8 Z Z (IP 1 Z ae.nil).ar ⟨rfl,Z⟩)
theorem tU{q:og}{i:Int}(h:S.find q i=none):S.double q i=(S,4):=by unfold bd.double;rw[h]
theorem tV{q:og}{i:Int}{t:ByteArray}(h:S.find q i=some t):S.double q i=(S.send q t,S.jB q t):=by unfold bd.double;rw[h]
theorem bd.Ok.double(ok:S.Ok)(q:og)(i:Int):(S.double q i).1.Ok:=by
 unfold bd.double
 split
 ·exact ok
 ·exact ok.send _ _
theorem A1(ok:S.Ok)(x y i:Int):aH Tryz.prog 65 [.pointer (some ⟨p,0,none⟩),.int .i64 x,.int .i64 y,.int .i64 i] Fr w [eK p S]
  (fun v L=>v=.int .i64 (S.double (x,y) i).2∧L=[eK p (S.double (x,y) i).1]):=by
 refine TF 25 Tryz.func65 Z yn ah Z Z ?_
 refine VC.e_ 0 Z (aW.cD p S) ?_
 rintro⟨b,X⟩ hX
 dsimp only at hX
 refine V6 ?_
 refine aq ?_
 refine VG (VV (fun Fr w hF hw hS=>wi Fr w ok (hS.aP 0 Z) (hS.DM 1 Z) (FX (A:=[_,_]) hS) hX x y i) Z ?_)
 refine VO.ar (L':=[eK p S]) (ae.cD (K:=[]) b X hX (by rw[ZN];exact ae.refl)).ar ?_
 cases hf:S.find (x,y) i with
 | none=>
  rw[mN hf]
  refine aq ?_
  refine VG (VO.alloc Z fun rb=>?_)
  refine Rx ?_
  refine PI ?_
  exact CR (ay.tmp 8 Z Z (IP 1 Z ae.nil).ar ⟨by rw[tU hf],by rw[tU hf]⟩)
 | some t=>
  rw[pc hf]
  refine aq ?_
  refine VG (VO.alloc Z fun rb=>?_)
  refine V9 ?_
  refine Ff ?_
  refine VG (VL 0 (dx x y t) Z Z Z Z ?_)
  refine VO.ar (L':=[eK p S,pt rb (dx x y t) jc]) (IP 1 Z ae.refl).ar ?_
  refine VG (VK (Lc:=[eK p S]) (Lr:=[pt rb (dx x y t) jc]) (fun Fr w hF hw _=>wg Fr w ok x y t) Z Z ?_)
  rintro _ _ ⟨rfl,rfl⟩
  refine aq ?_
  exact CR (ay.tmp 8 Z Z (IP 0 Z ae.nil).ar ⟨by rw[tV hf],by rw[tV hf]⟩)
end
end Cl
namespace Cl
open Go Vg T Api Ch Rep Conf Lg
attribute [local irreducible] VO VC VA
abbrev A2:TypeId:=84
abbrev KA:TypeId:=87
abbrev Ow:TypeId:=90
abbrev A3:=Option (Nat×au)
abbrev FY:=Nat×aN
def Q1:A3→Value
 | none=>.pointer none
 | some x=>.pointer (some ⟨x.1,0,none⟩)
def kU(x:A3):List Value:=[Q1 x]
theorem wj(x:A3):(kU x).length=1:=rfl
def kV:A3→HP
 | none=>gu True
 | some x=>bA x.1 x.2
def r7(x:FY):List Value:=[.pointer (some ⟨x.1,0,none⟩)]
theorem JS(x:FY):(r7 x).length=1:=rfl
def r8(x:FY):HP:=cz x.1 x.2
structure iC where
 qa:Option Addr
 qc:Nat
 mp:Nat
 nb:Nat
 nc:Nat
 nx:List Value
 nr:List A3
 cb:Nat
 cc:Nat
 cx:List Value
 cr:List FY
 lp:Nat
 hp:Nat
 da:Option Addr
 dc:Nat
def nK(C:av)(y:iC):List Value:=C.iY.cells y.qa y.qc ++ [.int .i64 C.now,.pointer (some ⟨y.mp,0,none⟩),.slice (some ⟨y.nb,0,none⟩) y.nr.length y.nc,.slice (some ⟨y.cb,0,none⟩) y.cr.length y.cc,.pointer (some ⟨y.lp,0,none⟩),.pointer (some ⟨y.hp,0,none⟩),.slice y.da C.done.length y.dc]
def gS(p:Nat)(C:av)(y:iC):List HP:=[pt p (nK C y) A2,lL y.qa y.qc C.iY.qs,di y.mp C.dm,pt y.nb (flat kU y.nr++y.nx) KA,pt y.cb (flat r7 y.cr++y.cx) Ow,eK y.lp C.cD,kN y.hp C.gD,aI iI 7 y.da C.done.length y.dc (flat cM C.done),cU (y.nr.map kV),cU (y.cr.map r8)]
structure dy(C:av)(y:iC):Prop where
 nr:y.nr.map (Option.map Prod.snd)=C.nodes
 cr:y.cr.map Prod.snd=C.fi
 qc:C.iY.qs.length≤y.qc
def e8(p:Nat)(C:av):HP:=hex fun y:iC=>cU (gu (dy C y)::gS p C y)
theorem aW.Pr(p:Nat)(C:av):aW (ι:=iC) (e8 p C) (fun y=>dy C y) (fun y=>gS p C y):=fun w ids ⟨x,h⟩ hn=>by
 obtain⟨i1,i2,rfl,⟨rfl,h1⟩,h2⟩:=h
 exact⟨x,h1,i2,h2,hn,fun _ h=>h⟩
theorem ae.Pr{p:Nat}{C:av}{L K:List HP}(y:iC)(hy:dy C y)(h:ae L (gS p C y++K)):ae L (e8 p C::K):=ae.ex (f:=fun y:iC=>cU (gu (dy C y)::gS p C y)) y (ae.sep (ae.pure hy h))
theorem Q2{Fr:Nat→Prop}{w:World}{p:Nat}{C:av}(h:aM Fr [e8 p C] w):∃y,dy C y∧aM Fr (gS p C y) w:=by
 obtain⟨y,hy⟩:=h.ex
 have hs:=hy.sep
 exact⟨y,hs.pure 0 Z,aM.tail hs⟩
def bd.C5(S:bd):Prop:=∀x∈S.gf,jZ x.1.1=true∧jZ x.1.2=true
structure av.Ok(C:av)(b e:Nat):Prop where
 cf:C.iY=dz C.iY
 n0:0≤C.now
 n1:C.now≤1099511627776
 dm:C.dm.Ok
 nl:C.nodes.length=C.iY.nodes.toNat
 cl:C.fi.length=C.iY.aB.toNat
 cD:C.cD.Ok
 gD:C.gD.Ok
 fit:∀r,some r∈C.nodes→r.Fit
 last:∀r,some r∈C.nodes→r.bD.last≤b
 C6:∀s∈C.fi,s.Ok
 seq:∀s∈C.fi,s.seq≤b
 rc:C.gD.bz.length≤b
 ev:C.gD.events≤e
 dn:C.done.length≤4096
 FZ:C.cD.C5
section
variable {p:Nat} {C:av} {y:iC}
theorem EV(h:eS Fr w p (nK C y)):aH Tryz.prog 37 [.pointer (some ⟨p,0,none⟩)] Fr w [] (fun v L=>v=.bool true∧L=[]):=by
 refine TF 12 Tryz.func37 Z yn ah Z Z ?_
 refine Ux ?_
 refine zn ?_
 exact Dz
theorem mO(fit:dy C y):y.nr.length=C.nodes.length:=by rw[←fit.nr,ZR]
theorem pF(fit:dy C y):y.cr.length=C.fi.length:=by rw[←fit.cr,ZR]
theorem pG(fit:dy C y){k:Nat}{x:A3}(h:y.nr[k]?=some x):C.node (k:Int)=x.map Prod.snd∧C.nodes[k]?=some (x.map Prod.snd):=by
 have:C.nodes[k]?=some (x.map Prod.snd):=by rw[←fit.nr,ZS,h];rfl
 refine⟨?_,this⟩
 unfold av.node
 rw[if_neg yd,ZU,this];rfl
theorem A4(fit:dy C y){k:Nat}{x:FY}(h:y.cr[k]?=some x):C.pz (k:Int)=some x.2∧C.fi[k]?=some x.2:=by
 have:C.fi[k]?=some x.2:=by rw[←fit.cr,ZS,h];rfl
 refine⟨?_,this⟩
 unfold av.pz
 rw[if_neg yd,ZU,this]
theorem iW{l:List A3}{k:Nat}{x:A3}{r:List Value}(h:l[k]?=some x):(flat kU l++r)[0+k*1]?=some (Q1 x):=by rw[ZQ];exact fH (j:=0) wj h rfl r
theorem r9{l:List FY}{k:Nat}{x:FY}{r:List Value}(h:l[k]?=some x):(flat r7 l++r)[0+k*1]?=some (.pointer (some ⟨x.1,0,none⟩)):=by rw[ZQ];exact fH (j:=0) JS h rfl r
theorem A5(fit:dy C y)(h:eS Fr w p (nK C y))(hr:eS Fr w y.nb (flat kU y.nr++y.nx))(n:Int):aH Tryz.prog 58 [.pointer (some ⟨p,0,none⟩),.int .i64 n] Fr w [] (fun v L=>v=.int .i64 (C.vm n)∧L=[]):=by
 have hl:=mO fit
 refine TF 26 Tryz.func58 Z yn ah Z Z ?_
 refine aJ ?_
 by_cases h0:n<0
 ·refine VG (VY 8 true Z (DT h0) ?_)
  refine zn ?_
  refine wF ?_
  refine aJ ?_
  exact CR (ay.tmp 4 Z Z ER ⟨by rw[av.vm,if_pos (.inl h0)],Z⟩)
 obtain⟨k,rfl⟩:∃k:Nat,n=k:=⟨n.toNat,by omega⟩
 refine VG (VY 8 false Z (DF h0) ?_)
 refine zn ?_
 refine CP (p:=(y.nr.length:Int)≤k) Z (fun h1=>?_) (fun h1=>?_)
 ·refine aJ ?_
  exact CR (ay.tmp 4 Z Z ER ⟨by rw[av.vm,if_pos (.inr yd)],Z⟩)
 have hk:k<y.nr.length:=by omega
 have hk2:y.nr[k]?=some y.nr[k]:=GE hk
 generalize y.nr[k]=x at hk2
 obtain⟨e1,e2⟩:=pG fit hk2
 have hu:C.vm (k:Int)=if x.isNone then 61 else 0:=by
  unfold av.vm
  rw[if_neg yd,e1]
  cases x<;>rfl
 refine zn ?_
 refine RV ?_
 refine VG (VO.load Z Z (aE.aP hr (iW hk2)) ?_)
 cases x with
 | none=>
  refine wI ?_
  exact CR (ay.tmp 4 Z Z ER ⟨by rw[hu];rfl,Z⟩)
 | some z=>
  show VO _ _ _ _ (cE (some 24) (.pointer (some ⟨z.1,0,none⟩)) _) _ _
  refine KR ?_
  refine aJ ?_
  exact CR (ay.tmp 4 Z Z ER ⟨by rw[hu];rfl,Z⟩)
end
end Cl
namespace Cl
open Go Vg T Api Ch Rep Conf Lg
attribute [local irreducible] VO VC VA
structure pP(Fr:Nat→Prop)(w:World)(a:Option Addr)(X:List rU):Prop where
 rows:aK jP 30 Fr w a X
 WT:∀x∈X,aK ax 2 Fr w x.2.1 x.1.2.2
 len:X.length≤1000000
 ml:∀x∈X,x.1.2.2.length≤1000000
theorem Tl{Fr:Nat→Prop}{w:World}{A:List HP}{a:Option Addr}{c:Nat}{X:List rU}(h:aM Fr (aI iA 30 a X.length c (flat jP X)::(X.map ke++A)) w)(hl:X.length≤1000000)(hm:∀x∈X.map Prod.fst,x.2.2.length≤1000000):pP Fr w a X:=
 ⟨aK.aI uu (h.at_ 0 rfl),fun x hx=>by
  obtain⟨i,hi,rfl⟩:=List.getElem_of_mem hx
  exact aK.aI aF (h.at_ (1+i) (by rw[show 1+i=i+1 from by omega,List.getElem?_cons_succ,List.getElem?_append_left (by rw[ZR];exact hi),ZS,GE hi];rfl)),hl,fun x hx=>hm x.1 (Z0.2 ⟨x,hx,Z⟩)⟩
theorem EW(from_:Int)(l:bd)(S:List n_)(s:n_):bX from_ l (S ++ [s])=pZ from_ (bX from_ l S) s:=by unfold bX;rw[List.foldl_append];rfl
theorem bd.Ok.pZ{S:bd}(ok:S.Ok)(from_:Int)(s:n_):(Cl.pZ from_ S s).Ok:=by
 unfold Cl.pZ
 split
 ·exact ok
 ·exact ok.send _ _
theorem bd.Ok.bX(from_:Int):∀(l:List n_) {S:bd},S.Ok→(Cl.bX from_ S l).Ok
 | [],_,ok=>ok
 | s::l,S,ok=>bd.Ok.bX from_ l (ok.pZ from_ s)
theorem JT(x:rU):((jP x).drop 1).take 29=x.1.2.1.cells (x.2.1,x.1.2.2.length,x.2.2):=rfl
theorem eu{p:Nat}{C:av}{y:iC}{S:bd}(h:eS Fr w p (nK C y))(ok:S.Ok)(from_:Int){a:Option Addr}{c:Nat}{X:List rU}(hX:pP Fr w a X):aH Tryz.prog 59 [.pointer (some ⟨p,0,none⟩),.int .i64 from_,.slice a X.length c] Fr w [eK y.lp S]
  (fun v L=>v=.tuple #[]∧L=[eK y.lp (bX from_ S (X.map Prod.fst))]):=by
 have hlen:=hX.len
 refine TF 35 Tryz.func59 Z yn ah Z Z ?_
 refine aJ ?_
 refine VC.loop (σ:=Nat) (fun k=>[(0,pV p),(1,.int .i64 from_),(10,.slice a X.length c),(11,.int .i64 X.length),(12,.int .i64 (k:Int))]) (fun k=>[eK y.lp (bX from_ S ((X.take k).map Prod.fst))]) (fun k=>k≤X.length) (fun k=>X.length-k) 0
  (ZO _) ba ER ?_
 rintro k hk
 refine aJ ?_
 refine CP (p:=(k:Int)<X.length) Z (fun h1=>CK ?_) (fun h1=>CX ?_)
 rotate_left
 ·obtain rfl:k=X.length:=by omega
  exact ay.void Z ER ⟨rfl,by rw[Z']⟩
 have hkl:k<X.length:=by omega
 have hx:X[k]?=some X[k]:=GE hkl
 have hxm:X[k]∈X:=List.getElem_mem hkl
 generalize X[k]=x at hx hxm
 obtain⟨xb,xo,rfl,ra,rc⟩:=aK.rd (X:=⟨Tryz.prog,tab,ah,35,Fr,w⟩) hX.rows hx
 have okk:(bX from_ S ((X.take k).map Prod.fst)).Ok:=bd.Ok.bX from_ _ ok
 have htk:(X.take (k+1)).map Prod.fst=(X.take k).map Prod.fst ++ [x.1]:=by
  rw[ZZ,hx,List.map_append];rfl
 have hxml:=hX.ml x hxm
 refine aJ ?_
 refine V_ ?_
 refine H6 ?_
 refine VG (VO.alloc Z fun sb=>?_)
 refine VG (VT (vs:=jP x) (cs':=jP x) 0 Z Z Z Z (NR _) Z Z Z ?_)
 refine aJ ?_
 refine VG (VL 0 (x.1.2.1.cells (x.2.1,x.1.2.2.length,x.2.2)) Z Z Z (JT x) ?_)
 refine VG (VO.de (φ:=Zd (Bw x.1.2.1 x.1.2.2)) (fun Fr w hF hw _=>Hw Fr w ((hX.WT x hxm).of hF hw) hxml) Z ?_)
 intro v hv
 have fin:∀S',S'=pZ from_ (bX from_ S ((X.take k).map Prod.fst)) x.1→S'=bX from_ S ((X.take (k+1)).map Prod.fst):=fun S' h=>by rw[htk,EW,h]
 cases hp:Bw x.1.2.1 x.1.2.2 with
 | none=>
  rw[hp] at hv
  obtain⟨e,he,rfl⟩:=hv
  have h1:=fin (bX from_ S ((X.take k).map Prod.fst)) (by unfold pZ;rw[hp])
  refine aJ ?_
  refine CE Z (fun k0=>absurd k0 he) (fun _=>CK ?_)
  refine aJ ?_
  refine Gd ?_
  refine aJ ?_
  exact YQ
 | some t=>
  rw[hp] at hv
  obtain rfl:=hv
  have h1:=fin ((bX from_ S ((X.take k).map Prod.fst)).send (from_,x.1.1) (bT t)) (by unfold pZ;rw[hp])
  refine wI ?_
  refine CD (ts 0 9 (.only 9 .nil)) yn yr ?_
  refine T_ ?_
  refine AG (AI Z (LB (pv:=[(0,.int .i64 from_),(1,.int .i64 x.1.1),(2,.string (bT t))]) (dx from_ x.1.1 (bT t)) Z Z Z yn Z) ?_)
  refine AG (AQ 1 Z (fun Fr w hF hs hS=>wg Fr w okk from_ x.1.1 (bT t)) Z Z (ψ:=fun v H=>v=.int .i64 ((bX from_ S ((X.take k).map Prod.fst)).jB (from_,x.1.1) (bT t))∧H=eK y.lp ((bX from_ S ((X.take k).map Prod.fst)).send (from_,x.1.1) (bT t))) yy ?_ ?_)
  ·rintro _ _ ⟨rfl,rfl⟩
   exact(by(try refine Pd.st ?_);(repeat(first|exact Pd.nil|exact Pd.fnil|refine Pd.inner ?_|refine Pd.skip yr ?_|refine zf (zo 0 Z Z) ?_|refine zf (zo 1 Z Z) ?_|refine zf (zm 0 Z Z) ?_|refine zf (zm 1 Z Z) ?_|refine zf (aE.aP h Z) ?_|refine zf (h) ?_|refine zc (zo 0 Z Z) ?_|refine zc (zo 1 Z Z) ?_|refine zc (zm 0 Z Z) ?_|refine zc (zm 1 Z Z) ?_|refine zc (aE.aP h Z) ?_|refine zc (h) ?_)))
  rintro _ _ ⟨rfl,rfl⟩
  refine jo ?_
  refine aJ ?_
  refine Gd ?_
  refine aJ ?_
  exact YQ
end Cl
namespace Cl
open Go Vg T Api Ch Rep Conf Lg Rd
attribute [local irreducible] VO VC VA
theorem wk(e:Int)(l:List aa)(r:Int):(refs e l r).length=l.length:=by rw[refs,ZR]
theorem JU{R:au}(h:R.Ok)(now:Int):(gN R now).2.length≤300000:=by
 have h1:(lP R now).length≤16:=by
  unfold lP
  rw[wk,ZR]
  have:=List.length_filter_le (fun y=>!pX now y) R.bD.l
  have:=h.rl
  have:=h.sL
  omega
 have h2:(step2 R now).2.length≤65*4200:=by
  unfold step2
  split
  ·exact lQ now 65 (uk h now)
  ·simp
 have h3:(ja R now).2.length≤4200:=by
  unfold ja
  split
  ·show(cZ _ _).2.length≤_
   have ok2:=(rI h now).win
   have:=ok2.gW
   have:=ok2.gg
   rw[sN]
   unfold iu
   omega
  ·simp
 show List.length (_++_++_)≤_
 rw[ZM,ZM]
 omega
theorem pd(R:au):(jb R).2.length≤5:=by
 have gl:=kE R
 have bl:=sM R
 have ml:R.g_.length=1:=rfl
 have x1:(if (!R.bD.l.isEmpty)=true then [((16:Int),gh R.ch.al R.bD.nR)] else []).length≤1:=by split<;>simp
 have x2:(if R.dG=true∧R.win.done=R.win.last then [((16:Int),jz R.ch.al)] else []).length≤1:=by split<;>simp
 show List.length (_++_++_++_++_)≤_
 rw[ZM,ZM,ZM,ZM]
 omega
theorem HB{R:au}(h:R.Fit){c:dO}(hc:BU c):(oP R c).2.length≤5000:=by
 have h1:(B3 R c).length≤80:=by
  unfold B3
  rw[ZM,wk,wk,ZR]
  have:=rG h.ok nt
  have:=h.ok.rl
  have:=h.ok.sL
  omega
 have h2:=jx (Ai h.ok hc h.eV h.gV)
 have h3:=kE (gi R c).bg
 have h4:=sM (gi R c).bg
 have h5:(gi R c).bg.g_.length=1:=rfl
 show List.length (_++_++_++_++_)≤_
 rw[ZM,ZM,ZM,ZM]
 omega
theorem mP{R:au}(h:R.Fit)(from_:Int)(f:aa)(ms:List bI)(now:Int):(cC R from_ f ms now).2.length≤5000:=by
 unfold cC
 split
 ·split
  ·simp
  split
  ·simp
  split
  ·unfold dR;split<;>simp
  ·unfold iR;split<;>(try split)<;>(try split)<;>simp
 split
 ·split
  ·rename_i h1;exact HB h ⟨by have:=Al h1.1.2;omega⟩
  ·simp
 split
 ·split
  ·unfold fM
   have g1:=kE R
   have g2:=kE (fv R f.entry).bg.eJ
   have g3:=oK (fv R f.entry).bg
   split
   ·rename_i h1
    have g4:=jx (mv h.ok (e:=f.entry) h1.2 (u4 h1.1))
    show List.length (_++_++_)≤_
    rw[ZM,ZM]
    omega
   ·show R.dY.length≤_;omega
  ·simp
 split
 ·split
  ·show(if _ then _ else _:List df).length≤_
   split
   ·have:=kE { oL R f with win:=(oL R f).win.Dx f.index };omega
   ·simp
  ·simp
 split
 ·split
  ·have:=oK (oQ R f.index);show(au.iQ _).length≤_;omega
  ·simp
 split
 ·split
  ·show(xN R f.index).length≤_
   unfold xN
   rw[ZR]
   have:=List.length_filter_le (fun y=>!jJ f.index y) R.bD.l
   have:=h.ok.rl
   have:=h.ok.sL
   omega
  ·simp
 ·simp
theorem Ox(S:List df):(sO S).length=S.length:=ZR ..
theorem Q3(S:List df):∀x∈sO S,x.2.2.length≤7:=fun x hx=>by
 obtain⟨y,_,rfl⟩:=Z0.1 hx
 exact ZO _
structure gC(S:List n_):Prop where
 n:S.length≤300000
 m:∀x∈S,x.2.2.length≤7
theorem gC.of{S:List df}(h:S.length≤300000):gC (sO S):=⟨by rw[Ox];exact h,Q3 S⟩
theorem gC.nil:gC []:=⟨by decide,fun _ h=>absurd h List.not_mem_nil⟩
theorem gC.one{toQ:Int}{f:aa}{ms:List bI}(h:ms.length≤7):gC [(toQ,f,ms)]:=⟨by show 1≤300000;omega,fun x hx=>by rw[Z7.1 hx];exact h⟩
theorem aC.Ok.r_{M:aC}(ok:M.Ok):gC M.all:=⟨by have:=ok.n1;unfold aC.all;rw[ZR,List.length_range];omega,fun x hx=>by
 obtain⟨n,_,rfl⟩:=Z0.1 hx
 exact ok.ml⟩
theorem aC.Ok.mP{M:aC}(ok:M.Ok)(from_:Int)(f:aa)(now:Int):gC (M.take from_ f now).2:=by
 have c1:∀n,gC [jY M.ch n]:=fun n=>gC.one ok.ml
 have c2:∀n,(M.cW n now).ch=M.ch:=fun _=>rfl
 unfold aC.take
 split
 ·exact c1 _
 split
 ·exact .nil
 split
 ·split
  ·exact c1 _
  split<;>exact .nil
 split
 ·split
  ·exact c1 _
  split
  ·exact gC.one (ZO _)
  ·exact .nil
 split
 ·split
  ·rename_i h;exact(ok.gone h.2.2).r_
  ·exact .nil
 ·exact .nil
theorem aC.Ok.pd{M:aC}(ok:M.Ok)(now:Int):gC (M.tick now).2:=by
 have:=(ok.tick now).r_
 unfold aC.tick at this ⊢
 dsimp only at this ⊢
 split
 ·exact this
 ·exact .nil
theorem aC.Ok.tW{M:aC}(ok:M.Ok)(n:Int):gC (M.cX n).2.1∧(M.cX n).1.Ok:=by
 unfold aC.cX
 split
 ·exact⟨.nil,ok⟩
 split
 ·exact⟨.nil,ok⟩
 ·rename_i h
  have:=ok.gone (n:=n) yc
  exact⟨this.r_,this⟩
theorem aC.Ok.yQ{M:aC}(ok:M.Ok)(n:Int):gC (M.drain n).2.1∧(M.drain n).1.Ok:=by
 unfold aC.drain
 split
 ·exact⟨.nil,ok⟩
 split
 ·exact⟨.nil,ok⟩
 ·rename_i h
  have:=ok.gd (n:=n) yc
  exact⟨this.r_,this⟩
theorem aC.Ok.C7{M:aC}(ok:M.Ok)(n now:Int):gC (M.join n now).2.1∧(M.join n now).1.Ok:=by
 unfold aC.join
 split
 ·exact⟨.nil,ok⟩
 split
 ·exact⟨.nil,ok⟩
 ·rename_i h
  have:=ok.gQ (n:=n) yc now
  exact⟨this.r_,this⟩
theorem nL:gC QH:=gC.one (ZO _)
theorem F0(s:aN)(now:Int):gC (s.ct now).2:=gC.one (ZO _)
theorem wm(s:aN)(r now:Int):gC (s.nz r now).2:=by
 unfold aN.nz aN.giveUp
 split
 ·exact nL
 split
 ·exact .nil
 ·exact nL
theorem aN.JV(s:aN)(o:fe)(cl d now:Int):gC (s.call o cl d now).2:=by
 unfold aN.call
 split
 ·exact .nil
 split
 ·exact F0 _ _
 ·exact nL
theorem aN.pd(s:aN)(now:Int):gC (s.tick now).2:=by
 unfold aN.tick
 split
 ·split
  ·exact wm _ _ _
  ·exact .nil
 split
 ·split
  ·exact .nil
  split
  ·exact nL
  ·exact nL
 split
 ·split
  ·exact nL
  ·exact .nil
 ·exact .nil
theorem aN.mP(s:aN)(f:aa)(ms:List bI)(now:Int):gC (s.take f ms now).2:=by
 unfold aN.take
 split
 ·split
  ·exact .nil
  split
  ·exact F0 _ _
  ·exact .nil
 split
 ·split<;>exact .nil
 split
 ·split
  ·unfold aN.refused
   split
   ·exact wm _ _ _
   split
   ·exact nL
   ·exact wm _ _ _
  ·exact .nil
 ·exact .nil
def Tm(a:Option Addr)(c:Nat)(X:List rU):HP:=cU (aI iA 30 a X.length c (flat jP X)::X.map ke)
def pf(H:HP)(a:Option Addr)(c:Nat)(X:List rU):HP:=cU [H,Tm a c X]
def Q4(S:List n_)(H:HP)(v:Value)(K:HP):Prop:=∃(X:List rU) (a:Option Addr) (c:Nat),X.map Prod.fst=S∧v=.slice a X.length c∧K=pf H a c X
def Q5(S:List n_)(e:Int)(H:HP)(v:Value)(K:HP):Prop:=∃(X:List rU) (a:Option Addr) (c:Nat),X.map Prod.fst=S∧v=.tuple #[.slice a X.length c,.int .i64 e]∧K=pf H a c X
def qe(S:List n_)(H:HP)(v:Value)(L:List HP):Prop:=∃K,L=[K]∧Q4 S H v K
def C8(S:List n_)(e:Int)(H:HP)(v:Value)(L:List HP):Prop:=∃K,L=[K]∧Q5 S e H v K
theorem pP.at_{Fr:Nat→Prop}{w:World}{L:List HP}{a:Option Addr}{c:Nat}{X:List rU}{S:List n_}(i:Nat){H:HP}(h:aM Fr L w)(hL:L[i]?=some (pf H a c X))(hX:X.map Prod.fst=S)(hS:gC S):pP Fr w a X:=by
 subst hX
 have hh:=(((h.at_ i hL).sep).at_ 1 rfl).sep
 have hn:=hS.n
 rw[ZR] at hn
 exact Tl (A:=[]) (c:=c) (by simpa using hh) yd (fun x hx=>by have:=hS.m x hx;omega)
def H4(S:List df):List rU:=S.map fun x=>((x.1,x.2,[]),(none,0))
theorem Oy(S:List df):(H4 S).map Prod.fst=sO S:=by unfold H4 sO;rw[List.map_map];rfl
theorem F1(S:List df):(H4 S).length=S.length:=ZR ..
theorem JW(S:List df):flat jP (H4 S)=flat wU S:=by
 unfold flat H4
 rw[List.map_map]
 rfl
theorem C9{L:List HP}:∀(S:List df),ae L ((H4 S).map ke)
 | []=>ae.nil
 | s::S=>by
  show ae L (aI aG 2 none 0 0 []::(H4 S).map ke)
  exact ae.bZ (C9 S)
theorem wo{S:List df}{v:Value}{L:List HP}{H:HP}(h:dq S v L [H]):∃L2,qe (sO S) H v L2∧ae L L2:=by
 obtain⟨a,c,rfl,rfl⟩:=h
 refine⟨[pf H a c (H4 S)],⟨_,Z,H4 S,a,c,Oy S,by rw[F1],Z⟩,ae.sep (ae.cons (ae.sep ?_))⟩
 show ae [_] ((aI iA 30 a (H4 S).length c (flat jP (H4 S))::List.map ke (H4 S)) ++ [])
 rw[ZN,F1,JW]
 exact ae.cons (C9 S)
theorem pH{S:List n_}{v:Value}{L:List HP}{H:HP}(h:kK S v L [H]):∃L2,qe S H v L2∧ae L L2:=by
 obtain⟨X,a,c,e,rfl,rfl⟩:=h
 exact YR
theorem ae.tail{H:HP}{L:List HP}:ae (H::L) L:=ae.app (L:=[H]) (M:=[]) ae.nil ae.refl
theorem ij{H:HP}{a:Option Addr}{c:Nat}{X:List rU}{L:List HP}:ae (pf H a c X::L) (H::L):=ae.Fj (ae.cons ae.tail)
theorem pI{S:List n_}{e:Int}{v:Value}{L:List HP}{H:HP}(h:yL S e v L [H]):∃L2,C8 S e H v L2∧ae L L2:=by
 obtain⟨X,a,c,e,rfl,rfl⟩:=h
 exact YR
section
variable {α:Type} {f:α→HP} {l:List α} {k:Nat} {x:α}
theorem pJ{A:List HP}(h:l[k]?=some x):ae (cU (l.map f)::A) (f x::cU ((l.eraseIdx k).map f)::A):=by
 have e1:(l.map f)[k]?=some (f x):=by rw[ZS,h];rfl
 have e2:(l.map f).eraseIdx k=(l.eraseIdx k).map f:=(map_eraseIdx f l k).symm
 refine ae.Fj (ae.trans (ae.app (M:=f x::(l.eraseIdx k).map f) (ae.perm ?_) ae.refl) ?_)
 ·have:=bM e1
  rwa[e2] at this
 ·exact ae.cons (ae.sep ae.refl)
theorem sd{A:List HP}(h:k<l.length)(y:α):ae (f y::cU ((l.eraseIdx k).map f)::A) (cU ((l.set k y).map f)::A):=by
 have e3:((l.set k y).map f)[k]?=some (f y):=by rw[ZS,Z9 h];rfl
 have e4:((l.set k y).map f).eraseIdx k=(l.eraseIdx k).map f:=by rw[Z_,List.eraseIdx_set_eq,map_eraseIdx]
 have hp:=(bM e3).symm
 rw[e4] at hp
 refine ae.sep ?_
 refine ae.trans (M:=(f y::(l.eraseIdx k).map f)++A) (ae.cons (ae.Fj ae.refl)) ?_
 exact ae.app (ae.perm hp) ae.refl
end
end Cl
namespace Cl
open Go Vg T Api Ch Rep Conf Lg Rd
attribute [local irreducible] VO VC VA
theorem yR(R:au)(from_:Int)(f:aa)(ms:List bI)(now:Int):(cC R from_ f ms now).1.bD.last≤R.bD.last+1:=by
 have h:∀Q:au,Q.bD.last=R.bD.last→Q.bD.last≤R.bD.last+1:=fun Q h=>by omega
 unfold cC
 split
 ·split
  ·exact h _ rfl
  split
  ·exact h _ rfl
  split
  ·unfold dR
   split
   ·exact h _ rfl
   ·show(R.bD.put _ _).last≤_
    unfold gx.put;split
    ·exact Z5 _
    ·omega
  ·refine h _ ?_
   unfold iR
   split
   ·rfl
   split
   ·rfl
   split<;>rfl
 split
 ·split
  ·refine h _ ?_
   show(Rep.gi R (vg f ms)).bg.bD.last=_
   unfold au.bg
   split<;>(unfold Rep.gi;split<;>rfl)
  ·exact h _ rfl
 split
 ·split
  ·refine h _ ?_
   unfold fM
   split
   ·show(Rep.fv R f.entry).bg.eJ.bD.last=_
    unfold au.eJ
    split<;>(unfold au.bg;split<;>rfl)
   ·rfl
  ·exact h _ rfl
 split
 ·split
  ·refine h _ ?_
   show(Rep.oL R f).bD.last=_
   unfold Rep.oL Rep.jm;dsimp only;split<;>rfl
  ·exact h _ rfl
 split
 ·split
  ·refine h _ ?_;unfold au.eJ;split<;>rfl
  ·exact h _ rfl
 split
 ·split<;>exact h _ rfl
 ·exact h _ rfl
theorem HC(R:au)(now:Int):(gN R now).1.bD.last=R.bD.last:=by
 have hs:∀R:au,(dw R now).1.bD=R.bD:=fun R=>by
  unfold dw
  split
  ·rfl
  split
  ·rfl
  ·unfold au.bg;split<;>rfl
 have hl:∀(k:Nat) (R:au),(cQ now k R).1.bD=R.bD:=by
  intro k
  induction k with
  | zero=>intro R;rfl
  | succ k ih=>
   intro R
   unfold cQ
   split
   ·split
    ·rw[ih,hs]
    ·exact hs R
   ·rfl
 have h2:(step2 R now).1.bD.last=R.bD.last:=by
  unfold Rep.step2
  split
  ·rw[hl];rfl
  ·rfl
 show(ja R now).1.bD.last=_
 unfold ja
 split
 ·exact h2
 ·exact h2
theorem HD(R:au):(jb R).1.bD.last=R.bD.last:=by
 show(dS R).bD.last=_
 unfold dS;split<;>rfl
theorem wu(s:aN)(r now:Int):(s.nz r now).1.seq=s.seq:=by
 unfold aN.nz aN.giveUp aN.FA aN.wV
 split
 ·rfl
 split<;>rfl
theorem HE(s:aN)(now:Int):(s.tick now).1.seq=s.seq:=by
 unfold aN.tick
 split
 ·split
  ·exact wu _ _ _
  ·rfl
 split
 ·split
  ·rfl
  split<;>rfl
 split
 ·split<;>rfl
 ·rfl
theorem HF(s:aN)(f:aa)(ms:List bI)(now:Int):(s.take f ms now).1.seq=s.seq:=by
 unfold aN.take
 split
 ·split
  ·rfl
  split<;>rfl
 split
 ·split<;>rfl
 split
 ·split
  ·unfold aN.refused
   split
   ·exact wu _ _ _
   split
   ·rfl
   ·exact wu _ _ _
  ·rfl
 ·rfl
theorem yS(s:aN)(o:fe)(cl d now:Int):(s.call o cl d now).1.seq≤s.seq+1:=by
 unfold aN.call
 split
 ·show s.seq≤_;omega
 split<;>exact Z5 _
theorem HG(S:bN)(c seq:Int)(o:fe):(S.call c seq o).bz.length≤S.bz.length+1∧(S.call c seq o).events≤S.events+1:=by
 unfold bN.call
 split
 ·exact⟨by omega,by omega⟩
 ·exact⟨by simp,Z5 _⟩
theorem C_(S:bN)(c seq:Int)(o:gr):(S.end_ c seq o).bz.length=S.bz.length∧(S.end_ c seq o).events≤S.events+1:=by
 unfold bN.end_
 split
 ·exact⟨rfl,by omega⟩
 split
 ·exact⟨rfl,by omega⟩
 split
 ·exact⟨rfl,by omega⟩
 ·exact⟨Z4,Z5 _⟩
theorem ou{κ α:Type}[DecidableEq κ]{a:κ}{v:α}:∀{l:List (κ×α)},dT l a=some v→(a,v)∈l
 | [],h=>by cases h
 | (k,u)::r,h=>by
  simp only[dT] at h
  split at h
  ·rename_i e;cases h;rw[e];exact List.mem_cons_self ..
  ·exact List.mem_cons_of_mem _ (ou h)
theorem Da{κ α:Type}[DecidableEq κ]{a:κ}:∀{l:List (κ×α)} {x:κ×α},x∈iE l a→x∈l
 | [],x,h=>by cases h
 | (k,u)::r,x,h=>by
  simp only[iE] at h
  split at h
  ·exact List.mem_cons_of_mem _ h
  ·rcases ZV.1 h with h | h
   ·rw[h];exact List.mem_cons_self ..
   ·exact List.mem_cons_of_mem _ (Da h)
namespace bd.C5
variable {S:bd}
theorem put(h:S.C5){p:og}(h1:jZ p.1=true)(h2:jZ p.2=true)(l:List ByteArray):({ S with gf:=eI S.gf p l }:bd).C5:=fun x hx=>by
 rcases we hx with h3 | h3
 ·exact h x h3
 ·rw[h3];exact⟨h1,h2⟩
theorem send(h:S.C5)(p:og)(t:ByteArray):(S.send p t).C5:=by
 unfold bd.send
 split
 ·exact h
 ·rename_i h0
  have h0:S.jB p t=0:=by simpa using h0
  have:¬(jZ p.1=false∨jZ p.2=false∨p.1=p.2):=fun g=>by unfold bd.jB at h0;rw[if_pos g] at h0;cases h0
  exact h.put (by cases hh:jZ p.1<;>simp_all) (by cases hh:jZ p.2<;>simp_all) _
theorem found(h:S.C5){p:og}{i:Int}{t:ByteArray}(hf:S.find p i=some t):jZ p.1=true∧jZ p.2=true:=by
 unfold bd.find bd.list at hf
 split at hf
 ·cases hf
 ·cases hg:dT S.gf p with
  | none=>rw[hg] at hf;cases hf
  | some l=>exact h _ (ou hg)
theorem eT(h:S.C5){p:og}{i:Int}{t:ByteArray}(hf:S.find p i=some t):(S.eT p i).C5:=by
 have:=h.found hf
 unfold bd.eT
 split
 ·exact fun x hx=>(h.put this.1 this.2 _) x (Da hx)
 ·exact h.put this.1 this.2 _
theorem drop(h:S.C5)(p:og)(i:Int):(S.drop p i).1.C5:=by
 unfold bd.drop
 split
 ·exact h
 ·rename_i hf
  cases hg:S.find p i with
  | none=>exact absurd hg hf
  | some t=>exact h.eT hg
theorem double(h:S.C5)(p:og)(i:Int):(S.double p i).1.C5:=by
 unfold bd.double
 split
 ·exact h
 ·exact h.send _ _
theorem bX(h:S.C5)(from_:Int)(l:List n_):(Cl.bX from_ S l).C5:=by
 unfold Cl.bX
 induction l generalizing S with
 | nil=>exact h
 | cons s l ih=>
  refine ih ?_
  unfold pZ
  split
  ·exact h
  ·exact h.send _ _
end bd.C5
theorem Ps{a:Int}(h:jZ a=true):0≤a∧a<38:=by
 unfold jZ at h
 simp only[Bool.or_eq_true,Z2,decide_eq_true_eq] at h
 omega
namespace av.Ok
variable {C:av} {b e:Nat}
theorem mono(h:C.Ok b e){b' e':Nat}(hb:b≤b')(he:e≤e'):C.Ok b' e' where
 cf:=h.cf
 n0:=h.n0
 n1:=h.n1
 dm:=h.dm
 nl:=h.nl
 cl:=h.cl
 cD:=h.cD
 gD:=h.gD
 fit:=h.fit
 last r hr:=by have:=h.last r hr;omega
 C6:=h.C6
 seq s hs:=by have:=h.seq s hs;omega
 rc:=Nat.le_trans h.rc hb
 ev:=by have:=h.ev;omega
 dn:=h.dn
 FZ:=h.FZ
theorem Db(h:C.Ok b e){l:bd}(hl:l.Ok)(ha:l.C5):({ C with cD:=l }:av).Ok b e:=⟨h.cf,h.n0,h.n1,h.dm,h.nl,h.cl,hl,h.gD,h.fit,h.last,h.C6,h.seq,h.rc,h.ev,h.dn,ha⟩
theorem wv(h:C.Ok b e){m:aC}(hm:m.Ok):({ C with dm:=m }:av).Ok b e:=⟨h.cf,h.n0,h.n1,hm,h.nl,h.cl,h.cD,h.gD,h.fit,h.last,h.C6,h.seq,h.rc,h.ev,h.dn,h.FZ⟩
theorem at_(h:C.Ok b e):({ C with now:=min (C.now+1) 1099511627776 }:av).Ok b e:=⟨h.cf,by show 0≤min (C.now+1) 1099511627776;have:=h.n0;omega,by show min (C.now+1) 1099511627776≤1099511627776;omega,h.dm,h.nl,h.cl,h.cD,h.gD,h.fit,h.last,h.C6,h.seq,h.rc,h.ev,h.dn,h.FZ⟩
theorem post(h:C.Ok b e)(from_:Int)(S:List n_):(C.post from_ S).Ok b e:=h.Db (h.cD.bX from_ S) (h.FZ.bX from_ S)
theorem setNode(h:C.Ok b e)(n:Int){x:Option au}(hx:∀r,x=some r→r.Fit∧r.bD.last≤b):(C.setNode n x).Ok b e:=⟨h.cf,h.n0,h.n1,h.dm,by show(C.nodes.set _ _).length=_;rw[Z4];exact h.nl,h.cl,h.cD,h.gD,fun r hr=>by
 rcases List.mem_or_eq_of_mem_set hr with h1 | h1
 ·exact h.fit r h1
 ·exact(hx r h1.symm).1,fun r hr=>by
 rcases List.mem_or_eq_of_mem_set hr with h1 | h1
 ·exact h.last r h1
 ·exact(hx r h1.symm).2,h.C6,h.seq,h.rc,h.ev,h.dn,h.FZ⟩
theorem node1(h:C.Ok b e)(n:Int){r:au}(h1:r.Fit)(h2:r.bD.last≤b):(C.setNode n (some r)).Ok b e:=h.setNode n fun r' e=>by cases e;exact⟨h1,h2⟩
theorem Tn(h:C.Ok b e)(n:Int):(C.setNode n none).Ok b e:=h.setNode n fun r' e=>by cases e
theorem gA(h:C.Ok b e)(n:Int){s:aN}(h1:s.Ok)(h2:s.seq≤b):(C.gA n s).Ok b e:=⟨h.cf,h.n0,h.n1,h.dm,h.nl,by show(C.fi.set _ _).length=_;rw[Z4];exact h.cl,h.cD,h.gD,h.fit,h.last,fun x hx=>by
 rcases List.mem_or_eq_of_mem_set hx with g | g
 ·exact h.C6 x g
 ·rw[g];exact h1,fun x hx=>by
 rcases List.mem_or_eq_of_mem_set hx with g | g
 ·exact h.seq x g
 ·rw[g];exact h2,h.rc,h.ev,h.dn,h.FZ⟩
theorem To(h:C.Ok b e){H:bN}(h1:H.Ok)(h2:H.bz.length≤b)(h3:H.events≤e):({ C with gD:=H }:av).Ok b e:=⟨h.cf,h.n0,h.n1,h.dm,h.nl,h.cl,h.cD,h1,h.fit,h.last,h.C6,h.seq,h2,h3,h.dn,h.FZ⟩
theorem up(h:C.Ok b e){n:Int}{r:au}(hn:C.node n=some r):some r∈C.nodes:=by
 unfold av.node at hn
 split at hn
 ·cases hn
 ·cases hx:C.nodes[n.toNat]? with
  | none=>rw[hx] at hn;cases hn
  | some x=>rw[hx] at hn;obtain rfl:x=some r:=hn;exact ME hx
theorem Ze(h:C.Ok b e){n:Int}{s:aN}(hn:C.pz n=some s):s∈C.fi:=by
 unfold av.pz at hn
 split at hn
 ·cases hn
 ·exact ME hn
theorem cw(h:C.Ok b e)(n:Nat):(C.cw n).Ok b e:=by
 unfold av.cw
 split
 ·exact h
 ·rename_i r hr
  have hm:some r∈C.nodes:=by
   cases hx:C.nodes[n]? with
   | none=>rw[hx] at hr;cases hr
   | some x=>rw[hx] at hr;obtain rfl:x=some r:=hr;exact ME hx
  exact(h.node1 n (GV (h.fit r hm)) (by rw[HD];exact h.last r hm)).post _ _
theorem mw(h:C.Ok b e)(n:Nat):(C.mw n).Ok b e:=by
 unfold av.mw
 split
 ·exact h
 ·rename_i s hs
  have hm:s∈C.fi:=ME hs
  exact(h.gA n ((h.C6 s hm).tick C.now) (by rw[HE];exact h.seq s hm)).post _ _
theorem JX(h:C.Ok b e)(l:List Nat):(l.foldl av.cw C).Ok b e:=by
 induction l generalizing C with
 | nil=>exact h
 | cons x l ih=>exact ih (h.cw x)
theorem JY(h:C.Ok b e)(l:List Nat):(l.foldl av.mw C).Ok b e:=by
 induction l generalizing C with
 | nil=>exact h
 | cons x l ih=>exact ih (h.mw x)
theorem tick(h:C.Ok b e):C.tick.Ok b e:=(h.at_.JX _).JY _
theorem lA(h:C.Ok b e)(hb:b<100000000)(from_ toQ:Int)(f:aa)(ms:List bI):(C.lA from_ toQ f ms).Ok (b+1) e:=by
 have h':=h.mono (b':=b+1) yd (NR e)
 unfold av.lA
 split
 ·exact(h'.wv (h.dm.take _ _ _)).post _ _
 split
 ·rename_i r hr
  have hm:=h.up hr
  have hl:=h.last r hm
  exact(h'.node1 _ (xO (h.fit r hm) yd _ _ _ _) (by have:=yR r from_ f ms C.now;omega)).post _ _
 split
 ·rename_i s hs
  have hm:=h.Ze hs
  exact(h'.gA _ ((h.C6 s hm).take f ms C.now) (by rw[HF];exact h'.seq s hm)).post _ _
 ·exact h'
theorem Pc(h:C.Ok b e)(hb:b<100000000)(from_ toQ:Int)(t:ByteArray):(C.Pc from_ toQ t).Ok (b+1) e:=by
 unfold av.Pc
 split
 ·exact h.lA hb _ _ _ _
 ·exact h.mono yd (NR e)
theorem se{l:bd}{p:og}{i:Int}{t:ByteArray}(h:l.find p i=some t):l.eT p i=(l.drop p i).1:=by
 unfold bd.drop
 rw[if_neg (by rw[h];intro g;cases g)]
theorem fF(h:C.Ok b e)(hb:b<100000000)(p:og)(i:Int):(C.fF p i).1.Ok (b+1) e:=by
 unfold av.fF
 split
 ·exact h.mono yd (NR e)
 ·rename_i t ht
  have:(C.cD.eT p i).Ok:=by rw[se ht];exact h.cD.drop p i
  exact(h.Db this (h.FZ.eT ht)).Pc hb _ _ _
theorem back(h:C.Ok b e)(hb:b<100000000)(n:Int):(C.back n).Ok (b+1) e:=by
 have h':=h.mono (b':=b+1) yd (NR e)
 unfold av.back
 split
 ·have hf:=vf h.cf n true
  have hl:(fy C.iY n true).bD.last=0:=by
   unfold fy;split
   ·rfl
   split<;>rfl
  exact(h'.node1 _ (xO hf yd _ _ _ _) (by have:=yR (fy C.iY n true) 16 (oR C.dm.ch) C.dm.ch.ms C.now;omega)).post _ _
 ·exact h'
theorem join(h:C.Ok b e)(hb:b<100000000)(n:Int):(C.join n).1.Ok (b+1) e:=by
 unfold av.join
 dsimp only
 split
 ·exact h.mono yd (NR e)
 ·exact((h.wv (h.dm.C7 n C.now).2).back hb n).post _ _
theorem call(h:C.Ok b e)(hb:b<100000)(he:e<1000000)(s:gn):(C.call s).1.Ok (b+1) (e+1):=by
 have h':=h.mono (b':=b+1) (e':=e+1) yd yd
 unfold av.call
 split
 ·exact h'
 ·rename_i x hx
  have hm:=h.Ze hx
  split
  ·exact h'
  ·have h1:=h.rc
   have h2:=h.ev
   have h3:=h.seq x hm
   have h4:=yS x s.op s.b (C.dead s.c) C.now
   have h5:=HG C.gD s.a (x.call s.op s.b (C.dead s.c) C.now).1.seq s.op
   exact((h'.gA s.a ((h.C6 x hm).call _ _ _ _) yd).To (h.gD.call yd yd s.a (x.call s.op s.b (C.dead s.c) C.now).1.seq s.op) yd yd).post _ _
theorem step(h:C.Ok b e)(hb:b<100000)(he:e<1000000)(s:gn):(C.step s).1.Ok (b+1) (e+1):=by
 have h':=h.mono (b':=b+1) (e':=e+1) yd yd
 have up1:∀{D:av},D.Ok (b+1) e→D.Ok (b+1) (e+1):=fun g=>g.mono (NR _) yd
 unfold av.step
 by_cases k1:s.kind=1
 ·rw[if_pos k1]
  exact h.call hb he s
 rw[if_neg k1]
 by_cases k2:s.kind=2
 ·rw[if_pos k2]
  split
  ·exact h'
  ·rename_i r hr
   have hm:=h.up hr
   exact(h'.node1 _ (GU (h.fit r hm) C.now) (by rw[HC];exact h'.last r hm)).post _ _
 rw[if_neg k2]
 by_cases k3:s.kind=3
 ·rw[if_pos k3]
  exact h'.tick
 rw[if_neg k3]
 by_cases k4:s.kind=4
 ·rw[if_pos k4]
  exact up1 (h.fF yd _ _)
 rw[if_neg k4]
 by_cases k5:s.kind=5
 ·rw[if_pos k5]
  exact h'.Db (h.cD.drop _ _) (h.FZ.drop _ _)
 rw[if_neg k5]
 by_cases k6:s.kind=6
 ·rw[if_pos k6]
  exact h'.Db (h.cD.double _ _) (h.FZ.double _ _)
 rw[if_neg k6]
 by_cases k7:s.kind=7
 ·rw[if_pos k7]
  split
  ·exact h'
  ·exact h'.Tn _
 rw[if_neg k7]
 by_cases k8:s.kind=8
 ·rw[if_pos k8]
  exact(h'.wv (h.dm.tW s.a).2).post _ _
 rw[if_neg k8]
 by_cases k9:s.kind=9
 ·rw[if_pos k9]
  exact up1 (h.join yd s.a)
 rw[if_neg k9]
 by_cases k10:s.kind=10
 ·rw[if_pos k10]
  exact(h'.wv (h.dm.yQ s.a).2).post _ _
 rw[if_neg k10]
 by_cases k11:s.kind=11
 ·rw[if_pos k11]
  exact(h'.wv (h.dm.tick C.now)).post _ _
 rw[if_neg k11]
 exact h'
theorem JZ{H:bN}(h:H.Ok):∀(l:List (aN×Nat)),H.events+l.length<10000000→(l.foldl rK H).Ok∧(l.foldl rK H).bz.length=H.bz.length∧(l.foldl rK H).events≤H.events+l.length
 | [],_=>⟨h,rfl,by simp⟩
 | x::l,hl=>by
  rw[ZW] at hl
  rw[List.foldl_cons,ZW]
  have key:∃K,rK H x=K∧K.Ok∧K.bz.length=H.bz.length∧K.events≤H.events+1:=by
   unfold rK
   split
   ·exact⟨_,Z,h,Z,by omega⟩
   ·rename_i o ho
    exact⟨_,Z,h.end_ yd _ _ o,(C_ H _ _ o).1,(C_ H _ _ o).2⟩
  obtain⟨K,e1,e2,e3,e4⟩:=key
  rw[e1]
  have:=JZ e2 l yd
  exact⟨this.1,by rw[this.2.1,e3],by have:=this.2.2;omega⟩
theorem HH{d:List aY}{x:Option au×Nat}(hd:d.length≤4096)(hx:∀r,x.1=some r→r.Fit):(iv d x).length≤4096:=by
 unfold iv
 split
 ·exact hd
 ·rename_i r hr
  split
  ·exact hd
  ·have hf:=(hx r hr).ok
   have:=hf.win.gW
   have:=hf.win.jT
   rw[ZM,List.length_drop,Z1]
   omega
theorem J0{l:List (Option au×Nat)}{d:List aY}(hd:d.length≤4096)(hx:∀x∈l,∀r,x.1=some r→r.Fit):(l.foldl iv d).length≤4096:=by
 induction l generalizing d with
 | nil=>exact hd
 | cons x l ih=>exact ih (HH hd (hx x yf)) (fun y hy=>hx y (by simp[hy]))
theorem fi(h:C.Ok b e):C.fi.length≤6:=by
 have:=cP h.cf
 rw[h.cl]
 omega
theorem Q6(h:C.Ok b e):C.nodes.length≤6:=by
 have:=cP h.cf
 rw[h.nl]
 omega
theorem behind(h:C.Ok b e)(he:e<1000000):C.behind.Ok b (e+6):=by
 have hc:=h.fi
 have h2:=h.ev
 have key:=JZ h.gD C.fi.zipIdx (by rw[List.length_zipIdx];omega)
 rw[List.length_zipIdx] at key
 have h':=(h.mono (b':=b) (e':=e+6) (NR b) yd).To key.1 (by rw[key.2.1];exact h.rc) (by have:=key.2.2;omega)
 exact⟨h'.cf,h'.n0,h'.n1,h'.dm,h'.nl,h'.cl,h'.cD,h'.gD,h'.fit,h'.last,h'.C6,h'.seq,h'.rc,h'.ev,J0 h.dn fun x hx r hr=>h.fit r (by
  have:x.1∈C.nodes:=by
   have:=List.mem_zipIdx' (x:=x.1) (i:=x.2) hx
   exact ME (by rw[GE this.1,←this.2])
  rw[hr] at this;exact this),h'.FZ⟩
theorem jM(h:C.Ok b e)(hb:b<100000)(he:e<900000)(s:gn):(C.jM s).1.Ok (b+1) (e+7):=(h.step hb yd s).behind yd
end av.Ok
theorem F2{c:aV}(h:c=dz c):(ei c).Ok 0 0:=by
 have hb:=cP h
 have hb2:=iU h
 have hM:(vk c).Ok:=FO c h▸CO h _
 exact⟨h,Z5 _,by show(0:Int)≤_;decide,hM,by simp[ei],by simp[ei],⟨by show 1≤c.link;omega,hb2.2.2.2.2.1.2,fun x hx=>absurd hx List.not_mem_nil,List.nodup_nil⟩,
  ⟨by show 0≤1000000;omega,by show(0:Int)≤0;decide,by show(0:Int)≤10000000;decide,rfl,fun x hx=>by rw[List.eq_of_mem_replicate hx];exact⟨Z5 _,Z5 _⟩⟩,fun r hr=>by
   obtain⟨n,_,e⟩:=Z0.1 hr
   cases e;exact vf h _ _,fun r hr=>by
   obtain⟨n,_,e⟩:=Z0.1 hr
   cases e
   have:(fy c n false).bD.last=0:=by
    unfold fy;split
    ·rfl
    split<;>rfl
   omega,fun s hs=>by
   obtain⟨n,_,rfl⟩:=Z0.1 hs
   exact JG h n,fun s hs=>by
   obtain⟨n,_,rfl⟩:=Z0.1 hs
   exact Z5 _,ZO _,Z5 _,ZO _,fun x hx=>absurd hx List.not_mem_nil⟩
end Cl
namespace Cl
open Go Vg T Api Ch Rep Conf Lg Rd
attribute [local irreducible] VO VC VA
section
variable {p:Nat} {C:av} {y:iC}
def Pt(p:Nat)(C:av)(y:iC)(k:Nat)(l:bd):List HP:=[pt p (nK C y) A2,lL y.qa y.qc C.iY.qs,di y.mp C.dm,pt y.nb (flat kU y.nr++y.nx) KA,pt y.cb (flat r7 y.cr++y.cx) Ow,eK y.lp l,kN y.hp C.gD,aI iI 7 y.da C.done.length y.dc (flat cM C.done),cU ((y.nr.eraseIdx k).map kV),cU (y.cr.map r8)]
def Pu(p:Nat)(C:av)(y:iC)(k:Nat)(l:bd)(h:bN):List HP:=[pt p (nK C y) A2,lL y.qa y.qc C.iY.qs,di y.mp C.dm,pt y.nb (flat kU y.nr++y.nx) KA,pt y.cb (flat r7 y.cr++y.cx) Ow,eK y.lp l,kN y.hp h,aI iI 7 y.da C.done.length y.dc (flat cM C.done),cU (y.nr.map kV),cU ((y.cr.eraseIdx k).map r8)]
def Pv(p:Nat)(C:av)(y:iC)(l:bd):List HP:=[pt p (nK C y) A2,lL y.qa y.qc C.iY.qs,pt y.nb (flat kU y.nr++y.nx) KA,pt y.cb (flat r7 y.cr++y.cx) Ow,eK y.lp l,kN y.hp C.gD,aI iI 7 y.da C.done.length y.dc (flat cM C.done),cU (y.nr.map kV),cU (y.cr.map r8)]
def iC.node(y:iC)(k:Nat)(x:A3):iC:={ y with nr:=y.nr.set k x }
def iC.pz(y:iC)(k:Nat)(x:FY):iC:={ y with cr:=y.cr.set k x }
theorem wx{k q:Nat}{r:au}(h:y.nr[k]?=some (some (q,r))):ae (gS p C y) (bA q r::Pt p C y k C.cD):=
 ae.trans (IP 8 rfl ae.refl) (ae.trans (pJ (f:=kV) h) (ae.cons (IP 1 rfl (IP 1 rfl (IP 1 rfl (IP 1 rfl (IP 1 rfl (IP 1 rfl (IP 1 rfl (IP 1 rfl ae.refl))))))))))
theorem A6{k q:Nat}{s:aN}(h:y.cr[k]?=some (q,s)):ae (gS p C y) (cz q s::Pu p C y k C.cD C.gD):=
 ae.trans (IP 9 rfl ae.refl) (ae.trans (pJ (f:=r8) h) (ae.cons (IP 1 rfl (IP 1 rfl (IP 1 rfl (IP 1 rfl (IP 1 rfl (IP 1 rfl (IP 1 rfl (IP 1 rfl (IP 1 rfl ae.refl)))))))))))
theorem A7:ae (gS p C y) (di y.mp C.dm::Pv p C y C.cD):=IP 2 rfl ae.refl
theorem Dc{l:List A3}{k q:Nat}{r r':au}(h:l[k]?=some (some (q,r))):flat kU (l.set k (some (q,r')))=flat kU l:=by
 have hk:=(ZP.1 h).1
 unfold flat
 rw[Z_]
 congr 1
 apply List.ext_getElem?
 intro j
 rw[List.getElem?_set]
 split
 ·rename_i e;subst e
  rw[if_pos (by rw[ZR];exact hk),ZS,h];rfl
 ·rfl
theorem J1{l:List FY}{k q:Nat}{s s':aN}(h:l[k]?=some (q,s)):flat r7 (l.set k (q,s'))=flat r7 l:=by
 have hk:=(ZP.1 h).1
 unfold flat
 rw[Z_]
 congr 1
 apply List.ext_getElem?
 intro j
 rw[List.getElem?_set]
 split
 ·rename_i e;subst e
  rw[if_pos (by rw[ZR];exact hk),ZS,h];rfl
 ·rfl
theorem wy(fit:dy C y)(k:Nat)(x:A3)(l:bd):dy ({ C.setNode k (x.map Prod.snd) with cD:=l }:av) (y.node k x):=
 ⟨by show(y.nr.set k x).map _=C.nodes.set k _;rw[Z_,fit.nr],fit.cr,fit.qc⟩
theorem F3(fit:dy C y)(k:Nat)(x:FY)(l:bd)(h:bN):dy ({ C.gA k x.2 with cD:=l,gD:=h }:av) (y.pz k x):=
 ⟨fit.nr,by show(y.cr.set k x).map _=C.fi.set k _;rw[Z_,fit.cr],fit.qc⟩
theorem qQ(C':av){k:Nat}{x:A3}(h1:C'.iY=C.iY)(h2:C'.now=C.now)(h3:C'.done=C.done):nK C' (y.node k x)=nK C y:=by
 unfold nK iC.node
 rw[h1,h2,h3]
 dsimp only
 rw[Z4]
theorem HI(C':av){k:Nat}{x:FY}(h1:C'.iY=C.iY)(h2:C'.now=C.now)(h3:C'.done=C.done):nK C' (y.pz k x)=nK C y:=by
 unfold nK iC.pz
 rw[h1,h2,h3]
 dsimp only
 rw[Z4]
theorem F4{k q:Nat}{r r':au}{l:bd}(h:y.nr[k]?=some (some (q,r))):ae (bA q r'::Pt p C y k l) (gS p ({ C.setNode k (some r') with cD:=l }:av) (y.node k (some (q,r')))):=by
 have hk:=(ZP.1 h).1
 have e1:=qQ (C:=C) (y:=y) (k:=k) (x:=some (q,r')) ({ C.setNode k (some r') with cD:=l }:av) rfl rfl rfl
 have e2:=Dc (r':=r') h
 unfold gS
 rw[e1]
 show ae _ [_,_,_,pt y.nb (flat kU (y.nr.set k (some (q,r')))++y.nx) KA,_,_,_,_,cU ((y.nr.set k (some (q,r'))).map kV),_]
 rw[e2]
 refine ae.trans (M:=bA q r'::cU ((y.nr.eraseIdx k).map kV)::_) (ae.cons (IP 8 Z ae.refl)) (ae.trans (sd (f:=kV) hk (some (q,r'))) ?_)
 exact IP 1 Z (IP 1 Z (IP 1 Z (IP 1 Z (IP 1 Z (IP 1 Z (IP 1 Z (IP 1 Z ae.refl)))))))
theorem J2{k q:Nat}{s s':aN}{l:bd}{hi:bN}(h:y.cr[k]?=some (q,s)):ae (cz q s'::Pu p C y k l hi) (gS p ({ C.gA k s' with cD:=l,gD:=hi }:av) (y.pz k (q,s'))):=by
 have hk:=(ZP.1 h).1
 have e1:=HI (C:=C) (y:=y) (k:=k) (x:=(q,s')) ({ C.gA k s' with cD:=l,gD:=hi }:av) rfl rfl rfl
 have e2:=J1 (s':=s') h
 unfold gS
 rw[e1]
 show ae _ [_,_,_,_,pt y.cb (flat r7 (y.cr.set k (q,s'))++y.cx) Ow,_,_,_,_,cU ((y.cr.set k (q,s')).map r8)]
 rw[e2]
 refine ae.trans (M:=cz q s'::cU ((y.cr.eraseIdx k).map r8)::_) (ae.cons (IP 9 Z ae.refl)) (ae.trans (sd (f:=r8) hk (q,s')) ?_)
 exact IP 1 Z (IP 1 Z (IP 1 Z (IP 1 Z (IP 1 Z (IP 1 Z (IP 1 Z (IP 1 Z (IP 1 Z ae.refl))))))))
theorem Q7{m:aC}{l:bd}:ae (di y.mp m::Pv p C y l) (gS p ({ C with dm:=m,cD:=l }:av) y):=IP 1 rfl (IP 1 rfl ae.refl)
theorem gj(fit:dy C y){R:List HP}:ae (gS p C y++R) [e8 p C]:=ae.Pr (K:=[]) y fit (by rw[ZN];exact ae.trans (ae.app (M:=gS p C y) (M':=[]) ae.refl ae.nil) (ae.of_eq (ZN _)))
theorem yT(fit:dy C y){k q:Nat}{r r':au}{l:bd}{a:Option Addr}{c:Nat}{X:List rU}(h:y.nr[k]?=some (some (q,r))){R:List HP}:ae (pf (bA q r') a c X::(Pt p C y k l++R)) [e8 p ({ C.setNode k (some r') with cD:=l }:av)]:=
 ae.trans ij (ae.trans (ae.app (L:=bA q r'::Pt p C y k l) (F4 h) ae.refl) (gj (wy fit k (some (q,r')) l)))
theorem wz(fit:dy C y){k q:Nat}{s s':aN}{l:bd}{hi:bN}{a:Option Addr}{c:Nat}{X:List rU}(h:y.cr[k]?=some (q,s)){R:List HP}:ae (pf (cz q s') a c X::(Pu p C y k l hi++R)) [e8 p ({ C.gA k s' with cD:=l,gD:=hi }:av)]:=
 ae.trans ij (ae.trans (ae.app (L:=cz q s'::Pu p C y k l hi) (J2 h) ae.refl) (gj (F3 fit k (q,s') l hi)))
theorem mQ(fit:dy C y){m:aC}{l:bd}{a:Option Addr}{c:Nat}{X:List rU}{R:List HP}:ae (pf (di y.mp m) a c X::(Pv p C y l++R)) [e8 p ({ C with dm:=m,cD:=l }:av)]:=
 ae.trans ij (ae.trans (ae.app (L:=di y.mp m::Pv p C y l) Q7 ae.refl) (gj (C:=({ C with dm:=m,cD:=l }:av)) ⟨fit.nr,fit.cr,fit.qc⟩))
end
section
variable {q:Nat}
theorem EX{r:au}(ok:r.Ok)(now:Int):aH Tryz.prog 60 [.pointer (some ⟨q,0,none⟩),.int .i64 now] Fr w [bA q r] (fun v L=>qe (sO (gN r now).2) (bA q (gN r now).1) v L):=Go.Proofs.YthnlpdacbcjgpaaGreatDoor.Ring.aH.drop (GP Fr w ok now) fun _ _ h=>wo h
theorem EY{r:au}(ok:r.Ok)(now:Int):aH Tryz.prog 104 [.pointer (some ⟨q,0,none⟩),.int .i64 now] Fr w [bA q r] (fun v L=>qe (sO (jb r).2) (bA q (jb r).1) v L):=Go.Proofs.YthnlpdacbcjgpaaGreatDoor.Ring.aH.drop (GW Fr w ok now) fun _ _ h=>wo h
theorem wA{r:au}(fit:r.Fit)(hlast:r.bD.last<100000000)(from_:Int)(f:aa){ma:Option Addr}{mc:Nat}{ms:List bI}(hm:aK ax 2 Fr w ma ms)(hml:ms.length≤1000000)(now:Int)
  (hi1:-9223372036854775808≤f.entry.index) (hi2:f.entry.index≤9223372036854775807):aH Tryz.prog 119 [.pointer (some ⟨q,0,none⟩),.int .i64 from_,.agg (f.cells (ma,ms.length,mc)).toArray,.int .i64 now] Fr w [bA q r] (fun v L=>qe (sO (cC r from_ f ms now).2) (bA q (cC r from_ f ms now).1) v L):=
 Go.Proofs.YthnlpdacbcjgpaaGreatDoor.Ring.aH.drop (mg Fr w fit hlast from_ f hm hml now hi1 hi2) fun _ _ h=>wo h
theorem Dd{M:aC}(ok:M.Ok)(from_:Int)(f:aa)(g:kQ)(now:Int):aH Tryz.prog 185 [.pointer (some ⟨q,0,none⟩),.int .i64 from_,.agg (f.cells g).toArray,.int .i64 now] Fr w [di q M] (fun v L=>qe (M.take from_ f now).2 (di q (M.take from_ f now).1) v L):=Go.Proofs.YthnlpdacbcjgpaaGreatDoor.Ring.aH.drop (ED Fr w ok from_ f g now) fun _ _ h=>pH h
theorem De{M:aC}(ok:M.Ok)(now:Int):aH Tryz.prog 62 [.pointer (some ⟨q,0,none⟩),.int .i64 now] Fr w [di q M] (fun v L=>qe (M.tick now).2 (di q (M.tick now).1) v L):=Go.Proofs.YthnlpdacbcjgpaaGreatDoor.Ring.aH.drop (EE Fr w ok now) fun _ _ h=>pH h
theorem xj{M:aC}(ok:M.Ok)(n:Int):aH Tryz.prog 66 [.pointer (some ⟨q,0,none⟩),.int .i64 n] Fr w [di q M] (fun v L=>C8 (M.cX n).2.1 (M.cX n).2.2 (di q (M.cX n).1) v L):=Go.Proofs.YthnlpdacbcjgpaaGreatDoor.Ring.aH.drop (w6 Fr w ok n) fun _ _ h=>pI h
theorem Df{M:aC}(ok:M.Ok)(n:Int):aH Tryz.prog 68 [.pointer (some ⟨q,0,none⟩),.int .i64 n] Fr w [di q M] (fun v L=>C8 (M.drain n).2.1 (M.drain n).2.2 (di q (M.drain n).1) v L):=Go.Proofs.YthnlpdacbcjgpaaGreatDoor.Ring.aH.drop (CL Fr w ok n) fun _ _ h=>pI h
theorem EZ{M:aC}(ok:M.Ok)(n now:Int):aH Tryz.prog 117 [.pointer (some ⟨q,0,none⟩),.int .i64 n,.int .i64 now] Fr w [di q M] (fun v L=>C8 (M.join n now).2.1 (M.join n now).2.2 (di q (M.join n now).1) v L):=Go.Proofs.YthnlpdacbcjgpaaGreatDoor.Ring.aH.drop (EF Fr w ok n now) fun _ _ h=>pI h
theorem Dg{S:aN}(ok:S.Ok)(f:aa){ma:Option Addr}{mc:Nat}{ms:List bI}(hm:aK ax 2 Fr w ma ms)(hml:ms.length≤1000000)(now:Int):aH Tryz.prog 250 [.pointer (some ⟨q,0,none⟩),.agg (f.cells (ma,ms.length,mc)).toArray,.int .i64 now] Fr w [cz q S] (fun v L=>qe (S.take f ms now).2 (cz q (S.take f ms now).1) v L):=Go.Proofs.YthnlpdacbcjgpaaGreatDoor.Ring.aH.drop (EI Fr w ok f hm hml now) fun _ _ h=>pH h
theorem Dh{S:aN}(ok:S.Ok)(now:Int):aH Tryz.prog 105 [.pointer (some ⟨q,0,none⟩),.int .i64 now] Fr w [cz q S] (fun v L=>qe (S.tick now).2 (cz q (S.tick now).1) v L):=Go.Proofs.YthnlpdacbcjgpaaGreatDoor.Ring.aH.drop (EJ Fr w ok now) fun _ _ h=>pH h
theorem Di{S:aN}(ok:S.Ok)(hq:S.seq≤1000000000)(o:fe)(cl d now:Int):aH Tryz.prog 90 [.pointer (some ⟨q,0,none⟩),.agg o.cells.toArray,.int .i64 cl,.int .i64 d,.int .i64 now] Fr w [cz q S] (fun v L=>C8 (S.call o cl d now).2 (S.eY o cl d) (cz q (S.call o cl d now).1) v L):=Go.Proofs.YthnlpdacbcjgpaaGreatDoor.Ring.aH.drop (EK Fr w ok hq o cl d now) fun _ _ h=>pI h
theorem F6{Fr:Nat→Prop}{w:World}{S:aN}(h:aM Fr [cz q S] w):∃y,eS Fr w q (ek S y)∧∀x,S.out=some x→eS Fr w y.b (sZ x):=by
 obtain⟨y,hy⟩:=h.ex
 have hs:=hy.sep
 refine⟨y,hs.aP 0 Z,fun x hx=>?_⟩
 have hb:=hs.at_ 3 rfl
 rw[hx] at hb
 exact hb.aP 0 rfl
theorem yV{S:aN}(ok:S.Ok)(h:aM Fr [cz q S] w):aH Tryz.prog 71 [.pointer (some ⟨q,0,none⟩)] Fr w [] (fun v L=>v=.int .i64 S.seq∧L=[]):=by
 obtain⟨y,h1,_⟩:=F6 h
 exact Hp Fr w ok h1
theorem xk{S:aN}(ok:S.Ok)(h:aM Fr [cz q S] w):aH Tryz.prog 69 [.pointer (some ⟨q,0,none⟩)] Fr w [] (fun v L=>v=QW S.outcome∧L=[]):=by
 obtain⟨y,h1,h2⟩:=F6 h
 exact w_ Fr w ok h1 h2
end
theorem J3{α:Type}{l:List α}{k:Nat}{x:α}(h:l[k]?=some x):l.set k x=l:=by
 apply List.ext_getElem?
 intro j
 rw[List.getElem?_set]
 split
 ·rename_i e;subst e
  rw[if_pos (ZP.1 h).1,h]
 ·rfl
end Cl
namespace Cl
open Go Vg T Api Ch Rep Conf Lg Rd
attribute [local irreducible] VO VC VA
abbrev yW:TypeId:=33
def gn.cells(s:gn):List Value:=[.int .i64 s.kind,.int .i64 s.a,.int .i64 s.b,.int .i64 s.c]++s.op.cells
theorem Oz(C:av)(c:Int):C.dead c=if 1099511627776<C.now+(if 1099511627776<(if c<0 then 0 else c) then 1099511627776 else (if c<0 then 0 else c)) then 1099511627776 else C.now+(if 1099511627776<(if c<0 then 0 else c) then 1099511627776 else (if c<0 then 0 else c)):=by
 unfold av.dead
 repeat' split
 all_goals omega
section
variable {p:Nat} {C:av} {b e:Nat}
theorem E0(ok:C.Ok b e)(hb:b<100000)(he:e<1000000)(s:gn):aH Tryz.prog 57 [.pointer (some ⟨p,0,none⟩),.agg s.cells.toArray] Fr w [e8 p C]
  (fun v L=>v=.int .i64 (C.call s).2∧L=[e8 p (C.call s).1]):=by
 obtain⟨kd,sa,sx,sc,op⟩:=s
 have hcl:=ok.fi
 have hev:=ok.ev
 have hn0:=ok.n0
 have hn1:=ok.n1
 refine TF 74 Tryz.func57 Z yn ah Z Z ?_
 refine CS (CG (VG (VB (vs:=(⟨kd,sa,sx,sc,op⟩:gn).cells) Z fun sb=>VO.e_ 1 Z (aW.Pr p C) ?_)))
 rintro y fit
 have hln:=pF fit
 refine VO.ar (L':=pt sb (⟨kd,sa,sx,sc,op⟩:gn).cells yW::gS p C y) (IP 10 Z ae.refl).ar ?_
 refine aq ?_
 refine CD (ts 0 13 .nil) yn yr ?_
 refine qg ?_
 by_cases h0:sa<0
 ·have hc:C.pz sa=none:=by unfold av.pz;rw[if_pos h0]
  have hr:C.call ⟨kd,sa,sx,sc,op⟩=(C,4):=by unfold av.call;dsimp only;rw[hc]
  refine AG (AY 12 true Z (DT h0) ?_)
  refine Gf ?_
  refine RF ?_
  exact YS
 obtain⟨k,rfl⟩:∃k:Nat,sa=k:=⟨sa.toNat,by omega⟩
 refine AG (AY 12 false Z (DF h0) ?_)
 refine qg ?_
 refine CP (p:=(y.cr.length:Int)≤k) Z (fun h1=>?_) (fun h1=>CK ?_)
 ·have hc:C.pz (k:Int)=none:=by
   unfold av.pz
   rw[if_neg h0,ZU,List.getElem?_eq_none yd]
  have hr:C.call ⟨kd,k,sx,sc,op⟩=(C,4):=by unfold av.call;dsimp only;rw[hc]
  refine aq ?_
  exact YS
 have hk:k<y.cr.length:=by omega
 have hx2:y.cr[k]?=some y.cr[k]:=GE hk
 generalize y.cr[k]=z at hx2
 obtain⟨q,x⟩:=z
 obtain⟨hcx,hcs⟩:=A4 fit hx2
 have hm:x∈C.fi:=ME hcs
 have hsq:=ok.seq x hm
 have okx:=ok.C6 x hm
 have okc:=okx.call op sx (C.dead sc) C.now
 have hrc:=ok.rc
 have fw:gC (x.call op sx (C.dead sc) C.now).2:=aN.JV x op sx (C.dead sc) C.now
 have hr0:x.eY op sx (C.dead sc)≠0→C.call ⟨kd,k,sx,sc,op⟩=(C,x.eY op sx (C.dead sc)):=fun h=>by
  unfold av.call;dsimp only;rw[hcx];dsimp only;rw[if_pos h]
 have hr1:x.eY op sx (C.dead sc)=0→C.call ⟨kd,k,sx,sc,op⟩=(({ C.gA k (x.call op sx (C.dead sc) C.now).1 with gD:=C.gD.call k (x.call op sx (C.dead sc) C.now).1.seq op,cD:=bX (32+k) C.cD (x.call op sx (C.dead sc) C.now).2 }:av),0):=fun h=>by
  unfold av.call;dsimp only;rw[hcx];dsimp only;rw[if_neg iy];rfl
 refine CS (CD (ts 0 9 .nil) yn yr ?_)
 refine qg ?_
 refine AG (AI Z (a_ k Z Z Z Z Z Z hk) ?_)
 refine AG (yE Z Z Z (aE.one 5 Z (r9 hx2)) ?_)
 refine qg ?_
 refine CS (CD (ts 0 11 .nil) yn yr ?_)
 refine qg ?_
 refine H8 ?_
 refine qg ?_
 refine CN (L':=pt sb (⟨kd,k,sx,sc,op⟩:gn).cells yW::cz q x::Pu p C y k C.cD C.gD) (ae.cons (A6 hx2)).ar ?_
 refine aq ?_
 refine CD (ts 0 10 (.only 10 (ts 11 5 .nil))) yn yr ?_
 refine sn ?_
 refine AG (VA.ky 0 op.cells Z Z Z Z Z ?_)
 refine sn ?_
 refine AG (AQ 1 Z (fun Fr w hF hs hS=>Di Fr w okx yd op sx (C.dead sc) C.now) Z (by rw[Oz];rfl) Gc ?_ ?_)
 ·rintro _ _ ⟨X,a,c,hX,rfl,rfl⟩
  exact UJ
 rintro _ _ ⟨X,a,c,hX,rfl,rfl⟩
 refine sn ?_
 refine aq ?_
 refine VC.bo Z (fun k1=>?_) (fun k1=>CK ?_)
 ·refine aq ?_
  refine CR (ay.tmp 4 Z Z (ae.tail.trans (wz (R:=[]) fit hx2)).ar ⟨by rw[hr0 k1],?_⟩)
  rw[hr0 k1,(mJ rfl k1).1]
  have:C.gA (k:Int) x=C:=by unfold av.gA;rw[ZU,J3 hcs]
  rw[this]
 have hr:=hr1 OR
 have hss:=yS x op sx (C.dead sc) C.now
 generalize x.call op sx (C.dead sc) C.now=X2 at hX okc fw hr hss
 obtain⟨x',S'⟩:=X2
 dsimp only at hX okc fw hr hss ⊢
 refine CS (CD (ts 0 7 (ts 8 2 (.only 7 (.only 10 .nil)))) yn yr ?_)
 refine sn ?_
 refine AG (VA.ky 0 op.cells Z Z Z Z Z ?_)
 refine AG (AR (fun Fr w hF hw hS=>yV Fr w okc (((hS.at_ 1 Z).sep).at_ 0 Z)) Z Z UJ ?_)
 refine AG (AQ 8 Z (fun Fr w hF hs hS=>EN Fr w ok.gD yd k x'.seq op) Z Z (ψ:=fun v H=>v=.int .i64 (C.gD.eY k x'.seq op)∧H=kN y.hp (C.gD.call k x'.seq op)) yy ?_ ?_)
 ·rintro _ _ ⟨rfl,rfl⟩
  exact UJ
 rintro _ _ ⟨rfl,rfl⟩
 refine sn ?_
 refine sj ?_
 refine VG (VP Z Z tZ tZ ?_)
 refine sj ?_
 refine VG (VQ 7 Z (fun Fr w hF hs hS=>eu Fr w (hS.aP 2 Z) ok.cD (32+k) (pP.at_ 1 hS Z hX fw)) Z (ψ:=fun v H=>v=.tuple #[]∧H=eK y.lp (bX (32+k) C.cD (X.map Prod.fst))) yy ?_)
 rintro _ _ ⟨rfl,rfl⟩
 refine sj ?_
 rw[hX]
 exact CR (ay.tmp 4 Z Z ((ae.tail (H:=pt sb _ yW)).trans (wz (p:=p) (R:=[]) (s':=x') (hi:=C.gD.call k x'.seq op) (l:=bX (32+k) C.cD S') (a:=a) (c:=c) (X:=X) fit hx2)).ar ⟨by rw[hr],by rw[hr]⟩)
end
end Cl
namespace Cl
open Go Vg T Api Ch Rep Conf Lg Rd
attribute [local irreducible] VO VC VA
section
variable {p:Nat} {C:av} {b e:Nat}
theorem fold_succ{α:Type}(f:α→Nat→α)(x:α)(k:Nat):(List.range (k+1)).foldl f x=f ((List.range k).foldl f x) k:=by
 rw[List.range_succ,List.foldl_append];rfl
theorem HJ(C:av)(n:Nat):(C.cw n).nodes.length=C.nodes.length∧(C.cw n).fi=C.fi∧(C.cw n).now=C.now∧(C.cw n).iY=C.iY∧(C.cw n).done=C.done:=by
 unfold av.cw
 split
 ·exact⟨rfl,Z,Z,Z,Z⟩
 ·exact⟨Z4,Z,Z,Z,Z⟩
theorem E1(ok:C.Ok b e):aH Tryz.prog 61 [.pointer (some ⟨p,0,none⟩)] Fr w [e8 p C]
  (fun v L=>v=.tuple #[]∧L=[e8 p C.tick]):=by
 have hcl:=ok.fi
 have hnd:=ok.Q6
 have hn0:=ok.n0
 have hn1:=ok.n1
 refine TF 58 Tryz.func61 Z yn ah Z Z ?_
 refine Un ?_
 rintro y fit
 refine V' ?_
 have hln:=pF fit
 have hnn:=mO fit
 have hmin:min (C.now+1) 1099511627776=if 1099511627776<C.now+1 then 1099511627776 else C.now+1:=by split<;>omega
 generalize hC1:({ C with now:=min (C.now+1) 1099511627776 }:av)=C1
 have ok1:C1.Ok b e:=hC1▸ok.at_
 have fit1:dy C1 y:=hC1▸⟨fit.nr,fit.cr,fit.qc⟩
 have hnn1:C1.nodes.length=C.nodes.length:=by rw[←hC1]
 have hcc1:C1.fi.length=C.fi.length:=by rw[←hC1]
 refine sh ?_
 refine VG (VO.st 0 (cs':=nK C1 y) Z Z Z Z (by show 12<19;omega) (by rw[←hC1,hmin];rfl) Z ?_)
 refine VO.ar (L':=gS p C1 y) (ae.of_eq (by rw[←hC1];rfl)).ar ?_
 refine an ?_
 have hT:C.tick=(List.range C1.fi.length).foldl av.mw ((List.range C1.nodes.length).foldl av.cw C1):=by
  unfold av.tick
  dsimp only
  rw[hC1,←hnn1]
  have:∀(k:Nat),((List.range k).foldl av.cw C1).fi.length=C1.fi.length:=by
   intro k
   induction k with
   | zero=>rfl
   | succ k ih=>rw[fold_succ,(HJ _ _).2.1,ih]
  rw[this]
 refine VC.loop (σ:=Nat×List A3) (fun s=>[(0,pV p),(18,.slice (some ⟨y.nb,0,none⟩) y.nr.length y.nc),(19,.int .i64 y.nr.length),(20,.int .i64 (s.1:Int))])
  (fun s=>gS p ((List.range s.1).foldl av.cw C1) { y with nr:=s.2 })
  (fun s=>s.1≤y.nr.length∧s.2.length=y.nr.length∧dy ((List.range s.1).foldl av.cw C1) { y with nr:=s.2 }) (fun s=>y.nr.length-s.1) (0,y.nr)
  ⟨ZO _,rfl,fit1⟩ ba ER ?_
 rintro⟨k,nr⟩ ⟨hk0,hnl,fk⟩
 dsimp only at hk0 hnl fk
 have okk:=ok1.JX (List.range k)
 have hsu:=fold_succ av.cw C1 k
 generalize hD:(List.range k).foldl av.cw C1=D at okk hsu fk
 refine aq ?_
 refine CP (p:=(k:Int)<y.nr.length) Z (fun h1=>CK ?_) (fun h1=>CX ?_)
 ·have hkl:k<nr.length:=by omega
  have hx2:nr[k]?=some nr[k]:=GE hkl
  generalize nr[k]=z at hx2
  obtain⟨hnx,hns⟩:=pG fk (k:=k) (x:=z) hx2
  refine HZ ?_
  refine VG (VO.load Z Z (aE.one 3 Z (iW hx2)) ?_)
  cases z with
  | none=>
   have e1:D.cw k=D:=by unfold av.cw;rw[hns];rfl
   refine O0 ?_
   refine qT ?_
   exact⟨(k+1,nr),⟨by dsimp only;omega,hnl,by rw[hsu,e1];exact fk⟩,by dsimp only;omega,SC Z (SC Z (SC Z (Sub.int Z yd (SN _)))),by dsimp only;rw[hsu,e1];exact ER⟩
  | some z=>
   obtain⟨q,r⟩:=z
   have hm:some r∈D.nodes:=ME hns
   have e1:D.cw k=({ D.setNode k (some (jb r).1) with cD:=bX k D.cD (sO (jb r).2) }:av):=by unfold av.cw;rw[hns];rfl
   have fw:gC (sO (jb r).2):=gC.of (by have:=pd r;omega)
   show VO _ _ _ _ (cE (some 24) (.pointer (some ⟨q,0,none⟩)) _) _ _
   refine PE ?_
   refine CN (L':=bA q r::Pt p D { y with nr:=nr } k D.cD) (wx hx2).ar ?_
   refine jd ?_
   refine VG (VQ 0 Z (fun Fr w hF hs hS=>EY Fr w (okk.fit r hm).ok D.now) Z Gc ?_)
   rintro _ _ ⟨X,a,c,hX,rfl,rfl⟩
   refine jd ?_
   refine VG (VQ 6 Z (fun Fr w hF hs hS=>eu Fr w (hS.aP 1 Z) okk.cD k (pP.at_ 0 hS Z hX fw)) Z (ψ:=fun v H=>v=.tuple #[]∧H=eK y.lp (bX k D.cD (X.map Prod.fst))) yy ?_)
   rintro _ _ ⟨rfl,rfl⟩
   rw[hX]
   refine qT ?_
   refine⟨(k+1,nr.set k (some (q,(jb r).1))),⟨by dsimp only;omega,by dsimp only;rw[Z4];exact hnl,by dsimp only;rw[hsu,e1];exact wy fk k (some (q,(jb r).1)) _⟩,by dsimp only;omega,SC Z (SC Z (SC Z (Sub.int Z yd (SN _)))),?_⟩
   dsimp only
   rw[hsu,e1]
   exact(ae.trans ij (F4 (y:={ y with nr:=nr }) (r':=(jb r).1) (l:=bX k D.cD (sO (jb r).2)) hx2)).ar
 have hkn:k=C1.nodes.length:=by omega
 rw[hkn] at hD
 rw[hD] at hT
 clear hsu
 subst hkn
 have hDc:D.fi.length=C1.fi.length:=by have h:=pF fk;dsimp only at h;omega
 refine an ?_
 refine VC.loop (σ:=Nat×List FY) (fun s=>[(0,pV p),(40,.slice (some ⟨y.cb,0,none⟩) y.cr.length y.cc),(41,.int .i64 y.cr.length),(42,.int .i64 (s.1:Int))])
  (fun s=>gS p ((List.range s.1).foldl av.mw D) { y with nr:=nr,cr:=s.2 })
  (fun s=>s.1≤y.cr.length∧s.2.length=y.cr.length∧dy ((List.range s.1).foldl av.mw D) { y with nr:=nr,cr:=s.2 }) (fun s=>y.cr.length-s.1) (0,y.cr)
  ⟨ZO _,rfl,fk⟩ ba ER ?_
 rintro⟨k,cr⟩ ⟨hk0,hcr,fk⟩
 dsimp only at hk0 hcr fk
 have okk:=okk.JY (List.range k)
 have hsu:=fold_succ av.mw D k
 generalize hE:(List.range k).foldl av.mw D=E at okk hsu fk
 refine aq ?_
 refine CP (p:=(k:Int)<y.cr.length) Z (fun h1=>CK ?_) (fun h1=>CX ?_)
 rotate_left
 ·have hkn:k=C1.fi.length:=by omega
  have:C.tick=E:=by rw[hT,←hE,hkn]
  exact ay.void Z (gj (R:=[]) fk).ar ⟨rfl,by rw[this]⟩
 have hkl:k<cr.length:=by omega
 have hx2:cr[k]?=some cr[k]:=GE hkl
 generalize cr[k]=z at hx2
 obtain⟨q,s⟩:=z
 obtain⟨hnx,hns⟩:=A4 fk (k:=k) (x:=(q,s)) hx2
 have hm:s∈E.fi:=ME hns
 have e1:E.mw k=({ E.gA k (s.tick E.now).1 with cD:=bX (32+k) E.cD (s.tick E.now).2,gD:=E.gD }:av):=by unfold av.mw;rw[hns];rfl
 have fw:gC (s.tick E.now).2:=aN.pd s E.now
 refine HZ ?_
 refine VG (VO.load Z Z (aE.one 4 Z (r9 hx2)) ?_)
 refine Rz ?_
 refine VO.ar (L':=cz q s::Pu p E { y with nr:=nr,cr:=cr } k E.cD E.gD) (A6 hx2).ar ?_
 refine jd ?_
 refine VG (VQ 0 Z (fun Fr w hF hs hS=>Dh Fr w (okk.C6 s hm) E.now) Z Gc ?_)
 rintro _ _ ⟨X,a,c,hX,rfl,rfl⟩
 refine jd ?_
 refine VG (VQ 6 Z (fun Fr w hF hs hS=>eu Fr w (hS.aP 1 Z) okk.cD (32+k) (pP.at_ 0 hS Z hX fw)) Z (ψ:=fun v H=>v=.tuple #[]∧H=eK y.lp (bX (32+k) E.cD (X.map Prod.fst))) yy ?_)
 rintro _ _ ⟨rfl,rfl⟩
 rw[hX]
 refine qT ?_
 refine⟨(k+1,cr.set k (q,(s.tick E.now).1)),⟨by dsimp only;omega,by dsimp only;rw[Z4];exact hcr,by dsimp only;rw[hsu,e1];exact F3 fk k (q,(s.tick E.now).1) _ _⟩,by dsimp only;omega,SC Z (SC Z (SC Z (Sub.int Z yd (SN _)))),?_⟩
 dsimp only
 rw[hsu,e1]
 exact(ae.trans ij (J2 (y:={ y with nr:=nr,cr:=cr }) (s':=(s.tick E.now).1) (l:=bX (32+k) E.cD (s.tick E.now).2) (hi:=E.gD) hx2)).ar
end
end Cl
namespace Cl
open Go Vg T Api Ch Rep Conf Lg Rd
attribute [local irreducible] VO VC VA
theorem J4(f:aa)(o:Nat)(n:Int):(Gu f o n).entry=f.entry:=by unfold Gu;split<;>rfl
theorem yX:∀(os:List Nat) (ns:List Int) (f:aa),(uK f os ns).entry=f.entry
 | o::os,n::ns,f=>by
  show(uK (Gu f o n) os ns).entry=_
  rw[yX os ns,J4]
 | [],_,_=>rfl
 | _::_,[],_=>rfl
theorem HK{f:aa}{s:Bs}{y:aa×List bI}(h:rh f s=some y):y.1.kind=f.kind∧(f.kind≠4→y.1.entry=f.entry):=by
 unfold rh at h
 repeat' split at h
 all_goals first | (cases h;done) | (cases h;exact⟨rfl,fun _=>rfl⟩) | (cases h;exact⟨rfl,fun k=>absurd (by assumption) k⟩)
theorem Q8{s:Bs}{f:aa}{ms:List bI}(h:getM s=some (f,ms)):ms.length≤6∧0≤f.entry.index∧f.entry.index≤1099511627776:=by
 unfold getM at h
 split at h
 ·cases h
 split at h
 ·cases h
 split at h
 ·cases h
 split at h
 ·cases h
 ·rename_i k r hk _ l r2 hl _ f' ms' hr
  split at h
  ·rename_i hm
   cases h
   refine⟨C2 hr,?_⟩
   have he:=HK hr
   by_cases h4:f.kind=4
   ·unfold pL zM at hm
    simp only[h4,Z2] at hm
    have hm:=hm.2.2
    simp[tv] at hm
    exact hm.1.1
   ·have:=he.2 (by rw[←he.1];exact h4)
    rw[this,yX]
    exact⟨by show(0:Int)≤0;decide,by show(0:Int)≤1099511627776;decide⟩
  ·cases h
section
variable {p:Nat} {C:av} {y:iC} {b e:Nat}
def J5(y:iC)(toQ:Int):Value:=
 if toQ=16 then pT 185 [.pointer (some ⟨y.mp,0,none⟩)] []
 else match (if toQ<0 then none else (y.nr[toQ.toNat]?).getD none) with
  | some z=>pT 119 [.pointer (some ⟨z.1,0,none⟩)] []
  | none=>match (if toQ<32 then none else y.cr[(toQ-32).toNat]?) with
   | some z=>pT 186 [.agg #[.pointer (some ⟨z.1,0,none⟩)]] []
   | none=>.nilFunc
theorem Dj(fit:dy C y)(h:eS Fr w p (nK C y))(hr:eS Fr w y.nb (flat kU y.nr++y.nx))(hc:eS Fr w y.cb (flat r7 y.cr++y.cx)){toQ:Int}(h0:0≤toQ)(h1:toQ<38):aH Tryz.prog 114 [.pointer (some ⟨p,0,none⟩),.int .i64 toQ] Fr w [] (fun v L=>v=J5 y toQ∧L=[]):=by
 have hln:=pF fit
 have hnn:=mO fit
 obtain⟨k,rfl⟩:∃k:Nat,toQ=k:=⟨toQ.toNat,by omega⟩
 refine TF 50 Tryz.func114 Z yn ah Z Z ?_
 refine aJ ?_
 refine H7 ?_
 refine aJ ?_
 refine CP (p:=(k:Int)=16) Z (fun e1=>?_) (fun e1=>?_)
 ·refine zn ?_
  refine Wl ?_
  exact CR (ay.tmp 4 Z Z ER ⟨by rw[J5,if_pos e1],Z⟩)
 refine aJ ?_
 refine VG (VV (fun Fr w hF hw hS=>A5 Fr w fit (h.of hF hw) (hr.of hF hw) k) Z ?_)
 have hu:∀z:A3,(y.nr[k]?).getD none=z→C.vm (k:Int)=if y.nr.length≤k then 4 else if z.isNone then 61 else 0:=fun z hz=>by
  unfold av.vm
  by_cases hk:k<y.nr.length
  ·have hx:=GE hk
   rw[hx] at hz
   rw[if_neg (show ¬((k:Int)<0∨(C.nodes.length:Int)≤k) by omega),if_neg (show ¬y.nr.length≤k by omega),(pG fit hx).1,←hz]
   cases y.nr[k]<;>rfl
  ·rw[if_pos (.inr yd),if_pos yd]
 by_cases hx:∃q r,y.nr[k]?=some (some (q,r))
 ·obtain⟨q,r,hx⟩:=hx
  have hk:=(ZP.1 hx).1
  have hu2:=hu (some (q,r)) (by rw[hx];rfl)
  rw[if_neg yd] at hu2
  rw[hu2]
  refine KK ?_
  refine zn ?_
  refine RV ?_
  refine VG (VO.load Z Z (aE.aP hr (iW hx)) ?_)
  refine aJ ?_
  refine Wl ?_
  exact CR (ay.tmp 4 Z Z ER ⟨by rw[J5,if_neg e1,if_neg yd,ZU,hx];rfl,Z⟩)
 have hno:(y.nr[k]?).getD none=none:=by
  cases hz:y.nr[k]? with
  | none=>rfl
  | some z=>
   cases z with
   | none=>rfl
   | some z=>exact absurd ⟨z.1,z.2,hz⟩ hx
 have hu3:C.vm (k:Int)≠0:=by rw[hu none hno];split<;>decide
 have et:J5 y k=match (if (k:Int)<32 then none else y.cr[((k:Int)-32).toNat]?) with
   | some z=>pT 186 [.agg #[.pointer (some ⟨z.1,0,none⟩)]] []
   | none=>.nilFunc:=by rw[J5,if_neg e1,if_neg yd,ZU,hno]
 rw[et]
 refine aJ ?_
 refine CE Z (fun k0=>absurd k0 hu3) (fun _=>?_)
 refine aJ ?_
 by_cases h32:(k:Int)<32
 ·refine VG (VY 32 false Z (DF yd) ?_)
  refine zn ?_
  refine sk ?_
  refine aJ ?_
  exact CR (ay.tmp 4 Z Z ER ⟨by rw[if_pos h32],Z⟩)
 obtain⟨j,rfl⟩:∃j:Nat,k=32+j:=⟨k-32,by omega⟩
 refine VG (VY 32 true Z (DT yd) ?_)
 refine zn ?_
 refine CP (p:=(((32+j:Nat):Int)-32)<(y.cr.length:Int)) Z (fun h2=>?_) (fun h2=>CK ?_)
 ·have hj:j<y.cr.length:=by omega
  have hx2:y.cr[j]?=some y.cr[j]:=GE hj
  generalize y.cr[j]=z at hx2
  have ej:((32+j:Nat):Int)-32=(j:Int):=by omega
  rw[ej]
  refine zn ?_
  refine VG (VI (a_ j Z Z Z Z Z Z hj) ?_)
  refine VG (VO.load Z Z (aE.aP hc (r9 hx2)) ?_)
  refine aJ ?_
  refine VG (VI (LB (pv:=[(0,.pointer (some ⟨z.1,0,none⟩))]) [.pointer (some ⟨z.1,0,none⟩)] Z Z Z yn Z) ?_)
  refine Wl ?_
  exact CR (ay.tmp 4 Z Z ER ⟨by rw[if_neg h32,ZU,hx2],Z⟩)
 ·refine aJ ?_
  exact CR (ay.tmp 4 Z Z ER ⟨by rw[if_neg h32,List.getElem?_eq_none yd],Z⟩)
theorem E2{q:Nat}{S:aN}(ok:S.Ok)(from_:Int)(f:aa){ma:Option Addr}{mc:Nat}{ms:List bI}(hm:aK ax 2 Fr w ma ms)(hml:ms.length≤1000000)(now:Int):aH Tryz.prog 186 [.agg #[.pointer (some ⟨q,0,none⟩)],.int .i64 from_,.agg (f.cells (ma,ms.length,mc)).toArray,.int .i64 now] Fr w [cz q S] (fun v L=>qe (S.take f ms now).2 (cz q (S.take f ms now).1) v L):=by
 refine TF 14 Tryz.func186 Z yn ah Z Z ?_
 refine CS (CG (VG (VB (vs:=[.pointer (some ⟨q,0,none⟩)]) Z fun s1=>VG (VB (vs:=f.cells (ma,ms.length,mc)) Z fun fb=>?_))))
 refine jd ?_
 refine V5 ?_
 refine jd ?_
 refine VG (VQ 2 Z (fun Fr w hF hw hS=>Dg Fr w ok f (hm.of hF hw) hml now) Z Gc ?_)
 rintro _ _ ⟨X,a,c,hX,rfl,rfl⟩
 refine jd ?_
 exact CR (ay.tmp 8 Z Z (ae.tail.trans ae.tail).ar ⟨_,Z,X,a,c,hX,Z,Z⟩)
end
end Cl
namespace Cl
open Go Vg T Api Ch Rep Conf Lg Rd
attribute [local irreducible] VO VC VA
theorem HL{P:Program}{ty:Nat}{ps rs:Array TypeId}{vd:Bool}(hund:P.underlying ty=some (.func ps rs vd)){v:Value}{r:Bool}(hv:(v=.nilFunc∧r=true)∨∃f a c,v=.func f a c∧r=false)(w:World):(Op.equal ty v .nilFunc).run P w=.ok r w:=by
 unfold Op.equal
 show(Op.equalIn (9999+1) ty v .nilFunc).run P w=_
 rw[Op.equalIn,Sem.run_bind,run_underlying hund]
 rcases hv with ⟨rfl,rfl⟩ | ⟨f,a,c,rfl,rfl⟩<;>rfl
theorem wB{X:Cx}{e:Env}{T yt:TypeId}{x:Operand}{v:Value}{ps rs:Array TypeId}{vd:Bool}(r:Bool)(hT:X.P.underlying T=some (.func ps rs vd))(hx:ev e x=some v)(hv:(v=.nilFunc∧r=false)∨∃f a c,v=.func f a c∧r=true):
  cY X (.binOp .neq T x (.const .nilFunc) yt) e (.bool r):=by
 intro a' ha dst ty pos after guard w
 have hq:=HL hT (v:=v) (r:=!r) (by rcases hv with ⟨h1,h2⟩ | ⟨f,a,c,h1,h2⟩<;>simp[h1,h2]) w
 simp only[execOp,ha.ev hx]
 have h:(do eqGuard .neq T x (.const .nilFunc) v .nilFunc;binOp .neq T v .nilFunc:Sem Value).run X.P w=.ok (.bool r) w:=by
  have hg:(eqGuard .neq T x (.const .nilFunc) v .nilFunc).run X.P w=.ok () w:=by
   rcases hv with ⟨rfl,_⟩ | ⟨f,a,c,rfl,_⟩<;>rfl
  rw[Sem.run_bind,hg,Result.andThen_ok]
  have hb:binOp .neq T v .nilFunc=(do pure (.bool (!(←Op.equal T v .nilFunc))):Sem Value):=by
   rcases hv with ⟨rfl,_⟩ | ⟨f,a,c,rfl,_⟩<;>rfl
  rw[hb,Sem.run_bind,hq]
  cases r<;>rfl
 rw[Sem.run_bind]
 show((do eqGuard .neq T x (.const .nilFunc) v .nilFunc;binOp .neq T v .nilFunc:Sem Value).run X.P w).andThen _=_
 rw[h];rfl
section
variable {p:Nat} {C:av} {b e:Nat}
theorem Q9{y:iC}:J5 y 16=pT 185 [.pointer (some ⟨y.mp,0,none⟩)] []:=rfl
theorem OA{y:iC}{k q:Nat}{r:au}(h1:(k:Int)≠16)(h:y.nr[k]?=some (some (q,r))):J5 y k=pT 119 [.pointer (some ⟨q,0,none⟩)] []:=by
 rw[J5,if_neg h1,if_neg yd,ZU,h];rfl
theorem OB{y:iC}{k:Nat}(h1:(k:Int)≠16)(h:∀q r,y.nr[k]?≠some (some (q,r))):J5 y k=match (if (k:Int)<32 then none else y.cr[((k:Int)-32).toNat]?) with
   | some z=>pT 186 [.agg #[.pointer (some ⟨z.1,0,none⟩)]] []
   | none=>.nilFunc:=by
 have hno:(y.nr[k]?).getD none=none:=by
  cases hz:y.nr[k]? with
  | none=>rfl
  | some z=>
   cases z with
   | none=>rfl
   | some z=>exact absurd hz (h z.1 z.2)
 rw[J5,if_neg h1,if_neg yd,ZU,hno]<;>rfl
theorem HM{y:iC}(fit:dy C y){k:Nat}(h:∀q r,y.nr[k]?≠some (some (q,r))):C.node (k:Int)=none:=by
 unfold av.node
 rw[if_neg yd,ZU,←fit.nr,ZS]
 cases hz:y.nr[k]? with
 | none=>rfl
 | some z=>
  cases z with
  | none=>rfl
  | some z=>exact absurd hz (h z.1 z.2)
theorem xl(ok:C.Ok b e)(hb:b<100000000)(x toQ i:Int):aH Tryz.prog 63 [.pointer (some ⟨p,0,none⟩),.int .i64 x,.int .i64 toQ,.int .i64 i] Fr w [e8 p C]
  (fun v L=>v=.int .i64 (C.fF (x,toQ) i).2∧L=[e8 p (C.fF (x,toQ) i).1]):=by
 have hcl:=ok.fi
 have hnd:=ok.Q6
 refine TF 57 Tryz.func63 Z yn ah Z Z ?_
 refine Un ?_
 rintro y fit
 refine V' ?_
 have hln:=pF fit
 have hnn:=mO fit
 refine an ?_
 refine VG (VQ 5 Z (fun Fr w hF hw hS=>qd Fr w ok.cD x toQ i) Z (ψ:=fun v H=>v=Pq C.cD (x,toQ) i∧H=eK y.lp (C.cD.drop (x,toQ) i).1) yy ?_)
 rintro _ _ ⟨rfl,rfl⟩
 cases hf:C.cD.find (x,toQ) i with
 | none=>
  have hr:C.fF (x,toQ) i=(C,4):=by unfold av.fF;rw[hf]
  rw[mN hf,s9 hf]
  refine aq ?_
  refine VG (VO.alloc Z fun mb=>?_)
  refine Rx ?_
  refine PI ?_
  exact CR (ay.tmp 8 Z Z (ae.trans (ae.tail (H:=pt mb _ jc)) (gj (C:=C) (p:=p) (R:=[]) fit)).ar ⟨by rw[hr],by rw[hr]⟩)
 | some t=>
 obtain⟨ha1,ha2⟩:=ok.FZ.found hf
 obtain⟨hx0,hx1⟩:=Ps ha1
 obtain⟨ht0,ht1⟩:=Ps ha2
 obtain⟨k,rfl⟩:∃k:Nat,toQ=k:=⟨toQ.toNat,by dsimp only at ht0;omega⟩
 dsimp only at ht0 ht1 hx0 hx1
 rw[pc hf,s_ hf]
 generalize hD:({ C with cD:=C.cD.eT (x,k) i }:av)=D
 have okd:D.Ok b e:=hD▸ok.Db (by rw[av.Ok.se hf];exact ok.cD.drop _ _) (ok.FZ.eT hf)
 have fitd:dy D y:=hD▸⟨fit.nr,fit.cr,fit.qc⟩
 obtain⟨s,rfl⟩:∃s,t=bT s:=⟨sB t,(O9 t).symm⟩
 have hr:C.fF (x,k) i=(D.Pc x k (bT s),0):=by unfold av.fF;rw[hf];dsimp only;rw[hD]
 have hgot:D.Pc x k (bT s)=match getM s with
   | some (f,ms)=>D.lA x k f ms
   | none=>D:=by unfold av.Pc;rw[SA]<;>rfl
 refine VO.ar (L':=gS p D y) (ae.of_eq (by rw[←hD];rfl)).ar ?_
 refine aq ?_
 refine VG (VO.alloc Z fun mb=>?_)
 refine VG (VT (vs:=dx x k (bT s)) (cs':=dx x k (bT s)) 0 Z Z Z Z (NR _) Z Z Z ?_)
 refine O0 ?_
 refine an ?_
 refine VG (VK (Lc:=[]) (fun Fr w hF hw hS=>Hx Fr w (s:=s)) Z Z ?_)
 intro v L1 hv
 cases hg:getM s with
 | none=>
  rw[hg] at hv hgot
  obtain⟨rfl,rfl⟩:=hv
  dsimp only at hgot
  refine aq ?_
  refine VG (VO.alloc Z fun fb=>?_)
  refine V4 ?_
  refine aq ?_
  refine jd ?_
  refine YT ?_
  refine aq ?_
  refine Rl ?_
  refine aJ ?_
  refine Gg ?_
  exact CR (ay.tmp 8 Z Z (ae.trans (ae.tail (H:=pt fb _ hZ)) (ae.trans (ae.tail (H:=pt mb _ jc)) (gj (C:=D) (p:=p) (R:=[]) fitd))).ar ⟨by rw[hr],by rw[hr,hgot]⟩)
 | some fm=>
 obtain⟨f,ms⟩:=fm
 rw[hg] at hv hgot
 obtain⟨ma,mc,rfl,rfl⟩:=hv
 dsimp only at hgot
 rw[hgot] at hr
 obtain⟨hm6,hi0,hi1⟩:=Q8 hg
 refine aq ?_
 refine VG (VO.alloc Z fun fb=>?_)
 refine VG (VT (vs:=f.cells (ma,ms.length,mc)) (cs':=f.cells (ma,ms.length,mc)) 0 Z Z Z Z (NR _) Z Z Z ?_)
 refine VO.ar (L':=pt fb (f.cells (ma,ms.length,mc)) hZ::pt mb (dx x k (bT s)) jc::(gS p D y ++ [aI aG 2 ma ms.length mc (flat ax ms)])) (by refine ae.ar ?_;refine IP 0 Z ?_;refine IP 1 Z ?_;exact ae.last (L:=gS p D y)) ?_
 refine aq ?_
 refine jd ?_
 refine YT ?_
 by_cases h16:(k:Int)=16
 ·have hk16:k=16:=by omega
  subst hk16
  have ht:D.lA x (16:Nat) f ms=({ D with dm:=(D.dm.take x f D.now).1,cD:=bX (16:Nat) D.cD (D.dm.take x f D.now).2 }:av):=by
   unfold av.lA
   rw[if_pos yp];rfl
  rw[ht] at hr
  have fw:=okd.dm.mP x f D.now
  rw[show J5 y (16:Nat)=_ from Q9]
  refine aq ?_
  refine RU ?_
  refine aq ?_
  refine Wa ?_
  refine PE ?_
  refine CN (L':=pt fb (f.cells (ma,ms.length,mc)) hZ::pt mb (dx x (16:Nat) (bT s)) jc::di y.mp D.dm::(Pv p D y D.cD ++ [aI aG 2 ma ms.length mc (flat ax ms)])) (ae.cons (ae.cons (ae.app (M:=di y.mp D.dm::Pv p D y D.cD) A7 ae.refl))).ar ?_
  refine Wb ?_
  refine t_ ?_
  refine Wc ?_
  refine t_ ?_
  refine AG (VA.fC 2 Z Z (fun Fr w hF hs hS=>Dd Fr w okd.dm x f (ma,ms.length,mc) D.now) Z Z Gc ?_ ?_)
  ·rintro _ _ ⟨X,a,c,hX,rfl,rfl⟩
   exact Rk
  rintro _ _ ⟨X,a,c,hX,rfl,rfl⟩
  refine AG (AQ 7 Z (fun Fr w hF hs hS=>eu Fr w (hS.aP 3 Z) okd.cD (16:Nat) (pP.at_ 2 hS Z hX fw)) Z Z (ψ:=fun v H=>v=.tuple #[]∧H=eK y.lp (bX (16:Nat) D.cD (X.map Prod.fst))) yy ?_ ?_)
  ·rintro _ _ ⟨rfl,rfl⟩
   exact Rk
  rintro _ _ ⟨rfl,rfl⟩
  refine HY ?_
  rw[hX]
  exact CR (ay.tmp 8 Z Z (ae.trans (ae.tail (H:=pt fb _ hZ)) (ae.trans (ae.tail (H:=pt mb _ jc)) (mQ (p:=p) (m:=(D.dm.take x f D.now).1) (l:=bX (16:Nat) D.cD (D.dm.take x f D.now).2) (a:=a) (c:=c) (X:=X) (R:=[aI aG 2 ma ms.length mc (flat ax ms)]) fitd))).ar ⟨by rw[hr],by rw[hr]⟩)
 by_cases hx:∃q r,y.nr[k]?=some (some (q,r))
 ·obtain⟨q,r,hx⟩:=hx
  obtain⟨hn1,hn2⟩:=pG fitd hx
  have hmr:some r∈D.nodes:=ME hn2
  have hfit:=okd.fit r hmr
  have hlr:=okd.last r hmr
  have ht:D.lA x k f ms=({ D.setNode k (some (cC r x f ms D.now).1) with cD:=bX k D.cD (sO (cC r x f ms D.now).2) }:av):=by
   unfold av.lA
   rw[if_neg h16,hn1];rfl
  rw[ht] at hr
  have fw:gC (sO (cC r x f ms D.now).2):=gC.of (by have:=mP hfit x f ms D.now;omega)
  rw[OA h16 hx]
  refine aq ?_
  refine RU ?_
  refine aq ?_
  refine Wa ?_
  refine PE ?_
  refine CN (L':=pt fb (f.cells (ma,ms.length,mc)) hZ::pt mb (dx x k (bT s)) jc::bA q r::(Pt p D y k D.cD ++ [aI aG 2 ma ms.length mc (flat ax ms)])) (ae.cons (ae.cons (ae.app (M:=bA q r::Pt p D y k D.cD) (wx hx) ae.refl))).ar ?_
  refine Wb ?_
  refine t_ ?_
  refine Wc ?_
  refine t_ ?_
  refine AG (VA.fC 2 Z Z (fun Fr w hF hs hS=>wA Fr w hfit yd x f (aK.aI aF (hS.at_ 12 Z)) yd D.now yd yd) Z Z Gc ?_ ?_)
  ·rintro _ _ ⟨X,a,c,hX,rfl,rfl⟩
   exact Rk
  rintro _ _ ⟨X,a,c,hX,rfl,rfl⟩
  refine AG (AQ 8 Z (fun Fr w hF hs hS=>eu Fr w (hS.aP 3 Z) okd.cD k (pP.at_ 2 hS Z hX fw)) Z Z (ψ:=fun v H=>v=.tuple #[]∧H=eK y.lp (bX k D.cD (X.map Prod.fst))) yy ?_ ?_)
  ·rintro _ _ ⟨rfl,rfl⟩
   exact Rk
  rintro _ _ ⟨rfl,rfl⟩
  refine HY ?_
  rw[hX]
  exact CR (ay.tmp 8 Z Z (ae.trans (ae.tail (H:=pt fb _ hZ)) (ae.trans (ae.tail (H:=pt mb _ jc)) (yT (p:=p) (r':=(cC r x f ms D.now).1) (l:=bX k D.cD (sO (cC r x f ms D.now).2)) (a:=a) (c:=c) (X:=X) (R:=[aI aG 2 ma ms.length mc (flat ax ms)]) fitd hx))).ar ⟨by rw[hr],by rw[hr]⟩)
 have hx:∀q r,y.nr[k]?≠some (some (q,r)):=fun q r h=>hx ⟨q,r,h⟩
 have hnone:=HM fitd hx
 rw[OB h16 hx]
 by_cases hc:∃j q z,k=32+j∧y.cr[j]?=some (q,z)
 ·obtain⟨j,q,z,rfl,hz⟩:=hc
  obtain⟨hn1,hn2⟩:=A4 fitd hz
  have ej:((32+j:Nat):Int)-32=(j:Int):=by omega
  have hmz:z∈D.fi:=ME hn2
  have okz:=okd.C6 z hmz
  have ht:D.lA x (32+j:Nat) f ms=({ D.gA j (z.take f ms D.now).1 with cD:=bX (32+j:Nat) D.cD (z.take f ms D.now).2,gD:=D.gD }:av):=by
   unfold av.lA
   rw[if_neg h16,hnone,ej,hn1];rfl
  rw[ht] at hr
  have fw:gC (z.take f ms D.now).2:=aN.mP z f ms D.now
  rw[if_neg yd,ej,ZU,hz]
  refine aq ?_
  refine RU ?_
  refine aq ?_
  refine Wa ?_
  refine PE ?_
  refine CN (L':=pt fb (f.cells (ma,ms.length,mc)) hZ::pt mb (dx x (32+j:Nat) (bT s)) jc::cz q z::(Pu p D y j D.cD D.gD ++ [aI aG 2 ma ms.length mc (flat ax ms)])) (ae.cons (ae.cons (ae.app (M:=cz q z::Pu p D y j D.cD D.gD) (A6 hz) ae.refl))).ar ?_
  refine Wb ?_
  refine t_ ?_
  refine Wc ?_
  refine t_ ?_
  refine AG (VA.fC 2 Z Z (fun Fr w hF hs hS=>E2 Fr w okz x f (aK.aI aF (hS.at_ 12 Z)) yd D.now) Z Z Gc ?_ ?_)
  ·rintro _ _ ⟨X,a,c,hX,rfl,rfl⟩
   exact Rk
  rintro _ _ ⟨X,a,c,hX,rfl,rfl⟩
  refine AG (AQ 8 Z (fun Fr w hF hs hS=>eu Fr w (hS.aP 3 Z) okd.cD (32+j:Nat) (pP.at_ 2 hS Z hX fw)) Z Z (ψ:=fun v H=>v=.tuple #[]∧H=eK y.lp (bX (32+j:Nat) D.cD (X.map Prod.fst))) yy ?_ ?_)
  ·rintro _ _ ⟨rfl,rfl⟩
   exact Rk
  rintro _ _ ⟨rfl,rfl⟩
  refine HY ?_
  rw[hX]
  exact CR (ay.tmp 8 Z Z (ae.trans (ae.tail (H:=pt fb _ hZ)) (ae.trans (ae.tail (H:=pt mb _ jc)) (wz (p:=p) (s':=(z.take f ms D.now).1) (hi:=D.gD) (l:=bX (32+j:Nat) D.cD (z.take f ms D.now).2) (a:=a) (c:=c) (X:=X) (R:=[aI aG 2 ma ms.length mc (flat ax ms)]) fitd hz))).ar ⟨by rw[hr],by rw[hr]⟩)
 have hcn:D.pz ((k:Int)-32)=none∧(if (k:Int)<32 then none else y.cr[((k:Int)-32).toNat]?)=none:=by
  by_cases h32:(k:Int)<32
  ·exact⟨by unfold av.pz;rw[if_pos yd],if_pos h32⟩
  obtain⟨j,rfl⟩:∃j:Nat,k=32+j:=⟨k-32,by omega⟩
  have ej:((32+j:Nat):Int)-32=(j:Int):=by omega
  have hz:y.cr[j]?=none:=by
   cases hz:y.cr[j]? with
   | none=>rfl
   | some z=>exact absurd ⟨j,z.1,z.2,rfl,hz⟩ hc
  rw[ej,if_neg h32,ZU,hz]
  refine⟨?_,Z⟩
  unfold av.pz
  rw[if_neg yd,ZU,←fitd.cr,ZS,hz];rfl
 have ht:D.lA x k f ms=D:=by
  unfold av.lA
  rw[if_neg h16,hnone,hcn.1]
 rw[ht] at hr
 rw[hcn.2]
 refine aq ?_
 refine RU ?_
 refine aq ?_
 refine VG (VI (wB false Tryz.underlying227 Z (.inl ⟨rfl,Z⟩)) ?_)
 refine Ff ?_
 exact CR (ay.tmp 8 Z Z (ae.trans (ae.tail (H:=pt fb _ hZ)) (ae.trans (ae.tail (H:=pt mb _ jc)) (gj (C:=D) (p:=p) (R:=[aI aG 2 ma ms.length mc (flat ax ms)]) fitd))).ar ⟨by rw[hr],by rw[hr]⟩)
end
end Cl
namespace Cl
open Go Vg T Api Ch Rep Conf Lg Rd
attribute [local irreducible] VO VC VA
theorem OD{Fr:Nat→Prop}{w:World}{q:Nat}{M:aC}(h:aM Fr [di q M] w):∃a c,eS Fr w q (bU M a c)∧aK ax 2 Fr w a M.ch.ms:=by
 obtain⟨y,hy⟩:=h.ex
 have hs:=hy.sep
 exact⟨y.1,y.2,hs.aP 0 Z,aK.aI aF (hs.at_ 1 Z)⟩
theorem Dk{q:Nat}{M:aC}(ok:M.Ok)(h:aM Fr [di q M] w):aH Tryz.prog 118 [.pointer (some ⟨q,0,none⟩)] Fr w []
  (fun v L=>∃a' c',v=.agg (M.ch.cells a' c').toArray∧L=[aI aG 2 a' M.ch.ms.length c' (flat ax M.ch.ms)]):=by
 obtain⟨a,c,h1,h2⟩:=OD h
 exact CM Fr w ok h1 h2
theorem J6{M:aC}{n now:Int}(h:(M.join n now).2.2≠0):(M.join n now).1=M:=by
 unfold aC.join at h ⊢
 split
 ·rfl
 ·rename_i h1
  rw[if_neg h1] at h
  split
  ·rfl
  ·rename_i h2;rw[if_neg h2] at h;exact absurd rfl h
section
variable {p:Nat} {C:av} {y:iC} {b e:Nat}
theorem OE{l:List A3}{k q:Nat}{r r':au}(hk:k<l.length):flat kU (l.set k (some (q,r)))=flat kU (l.set k (some (q,r'))):=by
 have h:(l.set k (some (q,r)))[k]?=some (some (q,r)):=Z9 hk
 have:=Dc (r':=r') h
 rw[List.set_set] at this
 exact this.symm
theorem yY{l:List A3}{k:Nat}(x:A3)(hk:k<l.length)(rest:List Value):(flat kU l++rest).set (0+k*1) (Q1 x)=flat kU (l.set k x)++rest:=by
 rw[ZQ]
 have hz:l[k]?=some l[k]:=GE hk
 exact gF (j:=0) wj hz (Nat.zero_lt_one) (by cases l[k]<;>rfl) rest
theorem HN(fit:dy C y){k q:Nat}(hk:k<y.nr.length){r r':au}{m:aC}{l:bd}{a a':Option Addr}{c c':Nat}{X X':List rU}:ae (pf (bA q r') a c X::pf (di y.mp m) a' c' X' :: [pt p (nK C y) A2,lL y.qa y.qc C.iY.qs,pt y.nb (flat kU (y.nr.set k (some (q,r)))++y.nx) KA,pt y.cb (flat r7 y.cr++y.cx) Ow,eK y.lp l,kN y.hp C.gD,aI iI 7 y.da C.done.length y.dc (flat cM C.done),cU (y.nr.map kV),cU (y.cr.map r8)])
  [e8 p ({ ({ C with dm:=m }:av).setNode k (some r') with cD:=l }:av)]:=by
 rw[OE (r':=r') hk]
 have e1:=qQ (C:=C) (y:=y) (k:=k) (x:=some (q,r')) ({ ({ C with dm:=m }:av).setNode k (some r') with cD:=l }:av) rfl rfl rfl
 have hz:y.nr[k]?=some y.nr[k]:=GE hk
 refine ae.trans ij ?_
 refine ae.trans (ae.cons ij) ?_
 refine ae.trans (IP 9 Z ae.refl) ?_
 refine ae.trans (pJ (f:=kV) hz) ?_
 refine ae.trans ae.tail ?_
 refine ae.trans (M:=bA q r'::cU ((y.nr.eraseIdx k).map kV)::_) (IP 1 Z (IP 0 Z ae.refl)) ?_
 refine ae.trans (sd (f:=kV) hk (some (q,r'))) ?_
 have fit':dy ({ ({ C with dm:=m }:av).setNode k (some r') with cD:=l }:av) (y.node k (some (q,r'))):=wy (C:={ C with dm:=m }) ⟨fit.nr,fit.cr,fit.qc⟩ k (some (q,r')) l
 refine ae.Pr (K:=[]) _ fit' ?_
 unfold gS
 rw[e1]
 exact(dF [2,2,1,1,1,1,1,1,0,0])
theorem E3(ok:C.Ok b e)(hb:b<100000000)(n:Int):aH Tryz.prog 67 [.pointer (some ⟨p,0,none⟩),.int .i64 n] Fr w [e8 p C]
  (fun v L=>v=.int .i64 (C.join n).2∧L=[e8 p (C.join n).1]):=by
 refine TF 65 Tryz.func67 Z yn ah Z Z ?_
 refine Un ?_
 rintro y fit
 refine CN (L':=di y.mp C.dm::Pv p C y C.cD) ((ae.of_eq (ZN _)).trans A7).ar ?_
 have hnn:=mO fit
 have hjb:=J6 (M:=C.dm) (n:=n) (now:=C.now)
 have hjf:=ok.dm.C7 n C.now
 have hr0:(C.dm.join n C.now).2.2≠0→C.join n=(C,(C.dm.join n C.now).2.2):=fun h=>by unfold av.join;dsimp only;rw[if_pos h]
 have hr1:(C.dm.join n C.now).2.2=0→C.join n=((({ C with dm:=(C.dm.join n C.now).1 }:av).back n).post 16 (C.dm.join n C.now).2.1,0):=fun h=>by unfold av.join;dsimp only;rw[if_neg iy]
 refine aq ?_
 refine CD (ts 0 9 (.only 9 (ts 10 5 .nil))) yn yr ?_
 refine qg ?_
 refine AG (AQ 0 Z (fun Fr w hF hs hS=>EZ Fr w ok.dm n C.now) Z Z Gc ?_ ?_)
 ·rintro _ _ ⟨X,a,c,hX,rfl,rfl⟩
  exact yu
 rintro _ _ ⟨X,a,c,hX,rfl,rfl⟩
 generalize C.dm.join n C.now=J at hjb hjf hr0 hr1 hX
 obtain⟨m,S,er⟩:=J
 dsimp only at hjb hjf hr0 hr1 hX ⊢
 obtain⟨fw,okm⟩:=hjf
 refine qg ?_
 refine aq ?_
 refine VC.bo Z (fun k1=>?_) (fun k1=>CK ?_)
 ·refine aq ?_
  exact CR (ay.tmp 4 Z Z (mQ (p:=p) (C:=C) (m:=m) (l:=C.cD) (a:=a) (c:=c) (X:=X) (R:=[]) fit).ar ⟨by rw[hr0 k1],by rw[hr0 k1,hjb k1]⟩)
 have hr:=hr1 OR
 refine CS (CS (CG ?_))
 refine aq ?_
 refine VG (VV (fun Fr w hF hw hS=>A5 Fr w fit (hS.aP 1 Z) (hS.aP 3 Z) n) Z ?_)
 refine aq ?_
 have hbk:({ C with dm:=m }:av).back n=if C.vm n=61 then (({ C with dm:=m }:av).setNode n (some (cC (fy C.iY n true) 16 (oR m.ch) m.ch.ms C.now).1)).post n (sO (cC (fy C.iY n true) 16 (oR m.ch) m.ch.ms C.now).2) else ({ C with dm:=m }:av):=rfl
 refine CE Z (fun h61=>?_) (fun h61=>CK ?_)
 rotate_left
 ·rw[hbk,if_neg h61] at hr
  refine CS (CG ?_)
  refine aq ?_
  refine VG (VQ 5 Z (fun Fr w hF hs hS=>eu Fr w (hS.aP 1 Z) ok.cD 16 (pP.at_ 0 hS Z hX fw)) Z (ψ:=fun v H=>v=.tuple #[]∧H=eK y.lp (bX 16 C.cD (X.map Prod.fst))) yy ?_)
  rintro _ _ ⟨rfl,rfl⟩
  rw[hX]
  refine aq ?_
  exact CR (ay.tmp 4 Z Z (mQ (p:=p) (C:=C) (m:=m) (l:=bX 16 C.cD S) (a:=a) (c:=c) (X:=X) (R:=[]) fit).ar ⟨by rw[hr],by rw[hr];rfl⟩)
 rw[hbk,if_pos h61] at hr
 obtain⟨k,rfl,hk,hkn⟩:∃k:Nat,n=k∧k<y.nr.length∧y.nr[k]?=some none:=by
  have hu:=h61
  unfold av.vm at hu
  split at hu
  ·cases hu
  ·rename_i h1
   split at hu
   ·rename_i h2
    have hk:n.toNat<y.nr.length:=by omega
    have en:n=(n.toNat:Int):=by omega
    have hz:y.nr[n.toNat]?=some y.nr[n.toNat]:=GE hk
    refine⟨n.toNat,en,hk,?_⟩
    have:=(pG fit hz).1
    rw[←en] at this
    rw[this] at h2
    rw[hz]
    cases hq:y.nr[n.toNat] with
    | none=>rfl
    | some v=>rw[hq] at h2;cases h2
   ·cases hu
 have hnl:=ok.nl
 have hnb:=cP ok.cf
 have hok:nw C.iY (k:Int):=⟨ok.cf,by omega,by omega⟩
 have hfit:=vf ok.cf (k:Int) true
 have hlast:(fy C.iY (k:Int) true).bD.last=0:=by
  unfold fy;split
  ·rfl
  split<;>rfl
 have hml:=okm.ml
 have hei:(oR m.ch).entry.index=0:=rfl
 refine jd ?_
 refine VG (VL 1 (C.iY.cells y.qa y.qc) Z Z Z Z ?_)
 refine jd ?_
 refine VG (VK (Lc:=[]) (fun Fr w hF hw hS=>Rep.dJ Fr w C.iY y.qa y.qc (iL (hS.at_ 2 Z)) trivial fit.qc k true) Z Z ?_)
 intro v L hv
 rw[if_pos hok] at hv
 obtain⟨q,rfl,rfl⟩:=hv
 generalize fy C.iY (k:Int) true=r0 at hfit hlast hr
 have fw2:gC (sO (cC r0 16 (oR m.ch) m.ch.ms C.now).2):=gC.of (by have:=mP hfit 16 (oR m.ch) m.ch.ms C.now;omega)
 have okl2:=bd.Ok.bX (k:Int) (sO (cC r0 16 (oR m.ch) m.ch.ms C.now).2) ok.cD
 refine aq ?_
 refine sj ?_
 refine RV ?_
 refine VG (VO.st 4 (cs':=flat kU (y.nr.set k (some (q,r0)))++y.nx) Z Z Z Z Xd (yY (some (q,r0)) hk y.nx) Z ?_)
 refine aq ?_
 refine sj ?_
 refine VG (VK (Lc:=[]) (fun Fr w hF hw hS=>Dk Fr w okm (((hS.at_ 1 Z).sep).at_ 0 Z)) Z Z ?_)
 rintro _ _ ⟨ma,mc,rfl,rfl⟩
 refine aq ?_
 refine VG (VI (LB (pv:=[(0,.int .i64 8),(11,.agg (m.ch.cells ma mc).toArray)]) ((oR m.ch).cells (ma,m.ch.ms.length,mc)) Z Z Z yn Z) ?_)
 refine VG (VO.alloc Z fun fb=>?_)
 refine VG (VT (vs:=(oR m.ch).cells (ma,m.ch.ms.length,mc)) (cs':=(oR m.ch).cells (ma,m.ch.ms.length,mc)) 0 Z Z Z Z (NR _) Z Z Z ?_)
 refine aq ?_
 refine CD (ts 0 8 (.only 8 (.only 9 .nil))) yn yr ?_
 refine Ko ?_
 refine AG (VA.ky 0 ((oR m.ch).cells (ma,m.ch.ms.length,mc)) Z Z Z Z Z ?_)
 refine Ko ?_
 refine AG (AQ 2 Z (fun Fr w hF hs hS=>wA Fr w hfit yd 16 (oR m.ch) (aK.aI aF (hS.at_ 1 Z)) yd C.now yd yd) Z Z Gc ?_ ?_)
 ·rintro _ _ ⟨X2,a2,c2,hX2,rfl,rfl⟩
  exact W8
 rintro _ _ ⟨X2,a2,c2,hX2,rfl,rfl⟩
 generalize cC r0 16 (oR m.ch) m.ch.ms C.now=T at hr fw2 okl2 hX2
 refine AG (AQ 8 Z (fun Fr w hF hs hS=>eu Fr w (hS.aP 4 Z) ok.cD k (pP.at_ 2 hS Z hX2 fw2)) Z Z (ψ:=fun v H=>v=.tuple #[]∧H=eK y.lp (bX k C.cD (X2.map Prod.fst))) yy ?_ ?_)
 ·rintro _ _ ⟨rfl,rfl⟩
  exact W8
 rintro _ _ ⟨rfl,rfl⟩
 rw[hX2]
 refine HY ?_
 refine VG (VQ 8 Z (fun Fr w hF hs hS=>eu Fr w (hS.aP 4 Z) okl2 16 (pP.at_ 3 hS Z hX fw)) Z (ψ:=fun v H=>v=.tuple #[]∧H=eK y.lp (bX 16 (bX k C.cD (sO T.2)) (X.map Prod.fst))) yy ?_)
 rintro _ _ ⟨rfl,rfl⟩
 rw[hX]
 refine aq ?_
 exact CR (ay.tmp 4 Z Z (ae.trans (ae.tail (H:=pt fb _ hZ)) (ae.trans (ae.tail (H:=aI aG 2 ma _ mc _)) (HN (p:=p) (C:=C) (r:=r0) (r':=T.1) (m:=m) (l:=bX 16 (bX k C.cD (sO T.2)) S) (a:=a2) (c:=c2) (X:=X2) (a':=a) (c':=c) (X':=X) fit hk))).ar ⟨by rw[hr],by rw[hr];rfl⟩)
end
end Cl
namespace Cl
open Go Vg T Api Ch Rep Conf Lg Rd
attribute [local irreducible] VO VC VA
theorem Dl{α β:Type}(f:β→α×Nat→β)(x:β){l:List α}{k:Nat}{a:α}(h:l[k]?=some a):(l.zipIdx.take (k+1)).foldl f x=f ((l.zipIdx.take k).foldl f x) (a,k):=by
 have:l.zipIdx[k]?=some (a,k):=by rw[List.getElem?_zipIdx,h];simp
 rw[ZZ,this,List.foldl_append]
 rfl
theorem F7{α β:Type}(f:β→α×Nat→β)(x:β)(l:List α):(l.zipIdx.take l.length).foldl f x=l.zipIdx.foldl f x:=by
 rw[List.take_of_length_le (by rw[List.length_zipIdx];exact NR _)]
section
variable {p:Nat} {C:av} {b e:Nat}
theorem A8(ok:C.Ok b e)(he:e<1000000):aH Tryz.prog 39 [.pointer (some ⟨p,0,none⟩)] Fr w [e8 p C]
  (fun v L=>v=.tuple #[]∧L=[e8 p C.behind]):=by
 have hcl:=ok.fi
 have hnd:=ok.Q6
 have hev:=ok.ev
 have hdn:=ok.dn
 refine TF 115 Tryz.func39 Z yn ah Z Z ?_
 refine Un ?_
 rintro y fit
 refine V' ?_
 have hln:=pF fit
 have hnn:=mO fit
 refine an ?_
 refine VC.loop (σ:=Nat) (fun k=>[(0,pV p),(17,.slice (some ⟨y.cb,0,none⟩) y.cr.length y.cc),(18,.int .i64 y.cr.length),(19,.int .i64 (k:Int))])
  (fun k=>gS p ({ C with gD:=(C.fi.zipIdx.take k).foldl rK C.gD }:av) y) (fun k=>k≤y.cr.length) (fun k=>y.cr.length-k) 0
  (ZO _) ba ER ?_
 rintro k hk0
 have hH:=av.Ok.JZ ok.gD (C.fi.zipIdx.take k) (by rw[Z1,List.length_zipIdx];omega)
 rw[Z1,List.length_zipIdx] at hH
 obtain⟨okh,-,hhe⟩:=hH
 refine aq ?_
 refine CP (p:=(k:Int)<y.cr.length) Z (fun h1=>CK ?_) (fun h1=>CX ?_)
 ·have hkl:k<y.cr.length:=by omega
  have hx2:y.cr[k]?=some y.cr[k]:=GE hkl
  generalize y.cr[k]=z at hx2
  obtain⟨q,s⟩:=z
  obtain⟨hnx,hns⟩:=A4 fit (k:=k) (x:=(q,s)) hx2
  have hm:s∈C.fi:=ME hns
  have hsu:=Dl rK C.gD hns
  generalize (C.fi.zipIdx.take k).foldl rK C.gD=H at okh hhe hsu
  have hcp:(y.cr.map r8)[k]?=some (cz q s):=by rw[ZS,hx2];rfl
  refine HZ ?_
  refine VG (VO.load Z Z (aE.one 4 Z (r9 hx2)) ?_)
  refine aq ?_
  refine VG (VV (fun Fr w hF hw hS=>xk Fr w (ok.C6 s hm) (((hS.at_ 9 Z).sep).at_ k hcp)) Z ?_)
  unfold QW
  generalize ho:s.outcome=o
  refine aq ?_
  refine VG (VO.alloc Z fun ob=>?_)
  refine VG (VT (vs:=eN (o.getD jF)) (cs':=eN (o.getD jF)) 0 Z Z Z Z (NR _) Z Z Z ?_)
  refine aq ?_
  cases o with
  | none=>
   have e1:rK H (s,k)=H:=by unfold rK;dsimp only;rw[ho]
   refine sk ?_
   refine qT ?_
   exact YU
  | some o=>
   have e1:rK H (s,k)=H.end_ k s.seq o:=by unfold rK;dsimp only;rw[ho]
   refine wF ?_
   refine CD (ts 0 6 (ts 7 1 (.only 6 (.only 8 .nil)))) yn yr ?_
   refine qg ?_
   refine AG (VA.ky 0 (eN o) Z Z Z Z Z ?_)
   refine AG (AR (fun Fr w hF hw hS=>yV Fr w (ok.C6 s hm) (((hS.at_ 10 Z).sep).at_ k hcp)) Z Z W_ ?_)
   refine AG (AQ 7 Z (fun Fr w hF hs hS=>Ht Fr w okh yd k s.seq o) Z Z (ψ:=fun v K=>v=.int .i64 (H.xe k s.seq o)∧K=kN y.hp (H.end_ k s.seq o)) yy ?_ ?_)
   ·rintro _ _ ⟨rfl,rfl⟩
    exact W_
   rintro _ _ ⟨rfl,rfl⟩
   refine jo ?_
   refine qT ?_
   exact YU
 have hkn:k=C.fi.length:=by omega
 subst hkn
 rw[F7]
 generalize hH2:C.fi.zipIdx.foldl rK C.gD=H
 clear okh hhe
 refine an ?_
 refine VC.loop (σ:=Nat×Option Addr×Nat) (fun s=>[(0,pV p),(43,.slice (some ⟨y.nb,0,none⟩) y.nr.length y.nc),(44,.int .i64 y.nr.length),(45,.int .i64 (s.1:Int))])
  (fun s=>gS p ({ C with gD:=H,done:=(C.nodes.zipIdx.take s.1).foldl iv C.done }:av) { y with da:=s.2.1,dc:=s.2.2 }) (fun s=>s.1≤y.nr.length) (fun s=>y.nr.length-s.1) (0,y.da,y.dc)
  (ZO _) ba ER ?_
 rintro⟨k,da,dc⟩ hk0
 dsimp only at hk0
 have hdk:((C.nodes.zipIdx.take k).foldl iv C.done).length≤4096:=av.Ok.J0 hdn fun x hx r hr=>ok.fit r (by
  have:=List.mem_zipIdx' (x:=x.1) (i:=x.2) (List.mem_of_mem_take hx)
  rw[←hr]
  exact ME (by rw[GE this.1,←this.2]))
 refine aq ?_
 refine CP (p:=(k:Int)<y.nr.length) Z (fun h1=>CK ?_) (fun h1=>CX ?_)
 rotate_left
 ·have hkn:k=C.nodes.length:=by omega
  subst hkn
  have hfin:C.behind=({ C with gD:=H,done:=(C.nodes.zipIdx.take C.nodes.length).foldl iv C.done }:av):=by rw[F7,←hH2];rfl
  exact ay.void Z (gj (p:=p) (C:=({ C with gD:=H,done:=(C.nodes.zipIdx.take C.nodes.length).foldl iv C.done }:av)) (y:={ y with da:=da,dc:=dc }) (R:=[]) ⟨fit.nr,fit.cr,fit.qc⟩).ar ⟨rfl,by rw[hfin]⟩
 have hkl:k<y.nr.length:=by omega
 have hx2:y.nr[k]?=some y.nr[k]:=GE hkl
 generalize y.nr[k]=z at hx2
 obtain⟨hnx,hns⟩:=pG fit (k:=k) (x:=z) hx2
 have hsu:=Dl iv C.done hns
 generalize (C.nodes.zipIdx.take k).foldl iv C.done=d at hdk hsu
 refine CS (VC.cq (σ:=Option Addr×Nat) (fun _=>[(0,pV p),(43,.slice (some ⟨y.nb,0,none⟩) y.nr.length y.nc),(44,.int .i64 y.nr.length),(45,.int .i64 (k:Int))])
  (fun s=>gS p ({ C with gD:=H,done:=(C.nodes.zipIdx.take (k+1)).foldl iv C.done }:av) { y with da:=s.1,dc:=s.2 }) (fun _=>True) ?_ ?_)
 rotate_left
 ·rintro⟨da',dc'⟩ -
  refine qT ?_
  exact⟨(k+1,da',dc'),by dsimp only;omega,by dsimp only;omega,SC Z (SC Z (SC Z (Sub.int Z yd (SN _)))),ER⟩
 have stay:iv d (z.map Prod.snd,k)=d→gS p ({ C with gD:=H,done:=(C.nodes.zipIdx.take (k+1)).foldl iv C.done }:av) { y with da:=da,dc:=dc }=gS p ({ C with gD:=H,done:=d }:av) { y with da:=da,dc:=dc }:=fun h=>by rw[hsu,h]
 refine HZ ?_
 refine VG (VO.load Z Z (aE.one 3 Z (iW hx2)) ?_)
 cases z with
 | none=>
  refine aq ?_
  refine VG (VY 52 true Z Z ?_)
  refine KK ?_
  refine CX ?_
  exact⟨(da,dc),trivial,ba,by dsimp only;rw[stay rfl];exact ER⟩
 | some z=>
 obtain⟨q,r⟩:=z
 have hm:some r∈C.nodes:=ME hns
 have okr:=(ok.fit r hm).ok
 have hcp:(y.nr.map kV)[k]?=some (bA q r):=by rw[ZS,hx2];rfl
 have hdN:iv d (some r,k)=if r.since=0∨r.ch.ms.length=0∨um r.ch.ms≠k∨r.win.done≤d.length then d else d++(r.log.take r.win.done.toNat).drop d.length:=rfl
 show VO _ _ _ _ (cE (some 49) (.pointer (some ⟨q,0,none⟩)) _) _ _
 refine aq ?_
 refine VG (VY 52 false Z Z ?_)
 refine aJ ?_
 refine VG (VV (fun Fr w hF hw hS=>B7 Fr w (((hS.at_ 8 Z).sep).at_ k hcp)) Z ?_)
 refine aq ?_
 refine CP (p:=r.since=0) Z (fun k1=>?_) (fun k1=>CK ?_)
 ·refine CX ?_
  exact⟨(da,dc),trivial,ba,by dsimp only;rw[stay (by show iv d (some r,k)=d;rw[hdN,if_pos (.inl k1)])];exact ER⟩
 refine aq ?_
 refine VG (VK (Lc:=[]) (fun Fr w hF hw hS=>Rep.Ee Fr w okr (((hS.at_ 8 Z).sep).at_ k hcp)) Z Z ?_)
 rintro _ _ ⟨ma,mc,rfl,rfl⟩
 refine VO.e_ 0 Z (aW.rl aG ma mc r.ch.ms aF) ?_
 rintro⟨ra,rc,rb,rcs,rxs⟩ ⟨rok,rv,rx⟩
 dsimp only at rx
 subst rx
 injection rv with e1 _ e3
 subst e1 e3
 refine aq ?_
 refine VG (VI (yM (v:=.slice ra r.ch.ms.length rc) Tryz.underlying105 Z Z (fun w=>pU (nM.look ah (t:=103) (ti:=T.t103) Z) Z Z w)) ?_)
 refine aq ?_
 by_cases k2:r.ch.ms.length=0
 ·refine VG (VY 63 true Z (DT yd) ?_)
  refine KK ?_
  refine CX ?_
  exact⟨(da,dc),trivial,ba,by dsimp only;rw[stay (by show iv d (some r,k)=d;rw[hdN,if_pos (.inr (.inl k2))])];exact ae.tail.ar⟩
 have hml:=okr.ch.len
 have hlm:r.ch.ms[r.ch.ms.length-1]?=some r.ch.ms[r.ch.ms.length-1]:=GE yd
 generalize r.ch.ms[r.ch.ms.length-1]=lm at hlm
 have hlq:um r.ch.ms=lm.1:=by unfold um;rw[List.getLast?_eq_getElem?,hlm]
 obtain⟨tb,tof,htb,hta,hrd⟩:=RL.Ok.ld (t:=aG) (k:=r.ch.ms.length-1) (x:=lm) rok hlm (aF lm)
 dsimp only at hta
 subst hta
 refine VG (VY 63 false Z (DF yd) ?_)
 refine aJ ?_
 refine H7 ?_
 rw[show((r.ch.ms.length:Int)-1)=((r.ch.ms.length-1:Nat):Int) by omega]
 refine VG (VI (a_ (r.ch.ms.length-1) Z Z Z Z Z Z yd) ?_)
 refine aq ?_
 refine VG (VO.load Z Z ((hrd 0 Z).2 _ 0 (.int .i64 lm.1) Z Z) ?_)
 refine aq ?_
 refine VC.bo Z (fun k3=>?_) (fun k3=>CK ?_)
 ·refine CX ?_
  exact⟨(da,dc),trivial,ba,by dsimp only;rw[stay (by show iv d (some r,k)=d;rw[hdN,if_pos (.inr (.inr (.inl (by rw[hlq];exact k3))))])];exact ae.tail.ar⟩
 refine aq ?_
 refine VG (VK (Lc:=[]) (fun Fr w hF hw hS=>B8 Fr w okr (((hS.at_ 9 Z).sep).at_ k hcp)) Z Z ?_)
 rintro _ _ ⟨wq,rfl,rfl⟩
 refine VG (VV (fun Fr w hF hw hS=>Win.pq Fr w (hS.aP 0 Z) okr.win.eV) Z ?_)
 refine aq ?_
 refine sj ?_
 refine CP (p:=r.win.done≤(d.length:Int)) Z (fun k4=>?_) (fun k4=>CK ?_)
 ·refine CX ?_
  exact⟨(da,dc),trivial,ba,by dsimp only;rw[stay (by show iv d (some r,k)=d;rw[hdN,if_pos (.inr (.inr (.inr k4)))])];exact(ae.trans ae.tail ae.tail).ar⟩
 have hd1:=okr.win.jT
 have hd2:=okr.last
 have hd3:=okr.win.gW
 have hdE:iv d (some r,k)=d++(r.log.drop d.length).take (r.win.done.toNat-d.length):=by
  rw[hdN,if_neg (by rw[hlq];omega),List.drop_take]
 refine aq ?_
 refine VG (VK (Lc:=[]) (fun Fr w hF hw hS=>I7 Fr w okr (((hS.at_ 10 Z).sep).at_ k hcp)) Z Z ?_)
 rintro _ _ ⟨lq,rfl,rfl⟩
 refine aq ?_
 refine V1 ?_
 refine VG (VP Z Z tZ tZ ?_)
 refine aq ?_
 refine VC.loop (σ:=Nat×Option Addr×Nat) (fun s=>[(0,pV p),(9,.int .i64 r.win.done),(10,pV lq),(11,.int .i64 ((d.length:Int)+1+(s.1:Int))),(43,.slice (some ⟨y.nb,0,none⟩) y.nr.length y.nc),(44,.int .i64 y.nr.length),(45,.int .i64 (k:Int))])
  (fun s=>cd lq r.log::gS p ({ C with gD:=H,done:=d++(r.log.drop d.length).take s.1 }:av) { y with da:=s.2.1,dc:=s.2.2 }) (fun s=>(d.length:Int)+s.1≤r.win.done) (fun s=>(r.win.done-d.length).toNat-s.1) (0,da,dc)
  tZ (SC rfl (SC rfl (SC rfl (Sub.int rfl tZ ba)))) (by dsimp only;rw[List.take_zero,ZN];exact(ae.cons (ae.trans ae.tail ae.tail)).ar) ?_
 rintro⟨j,da',dc'⟩ hj
 dsimp only at hj ⊢
 refine aq ?_
 refine CP (p:=(d.length:Int)+1+j≤r.win.done) Z (fun k5=>CK ?_) (fun k5=>CX ?_)
 rotate_left
 ·have hjj:j=r.win.done.toNat-d.length:=by omega
  subst hjj
  exact⟨(da',dc'),trivial,ba,by dsimp only;rw[hsu];show jq _ _ (gS p ({ C with gD:=H,done:=iv d (some r,k) }:av) _);rw[hdE];exact ae.tail.ar⟩
 have hle:r.log[d.length+j]?=some r.log[d.length+j]:=GE yd
 generalize r.log[d.length+j]=e0 at hle
 have hat:pM r.log ((d.length:Int)+1+j)=some e0:=by
  unfold pM
  rw[if_pos yd,←hle]
  congr 1
  omega
 have htk:d++(r.log.drop d.length).take (j+1)=(d++(r.log.drop d.length).take j) ++ [e0]:=by
  rw[ZZ,List.getElem?_drop,hle,ZX]
  rfl
 have hDl:(d++(r.log.drop d.length).take j).length≤10000:=by
  rw[ZM,Z1,List.length_drop];omega
 generalize hDD:d++(r.log.drop d.length).take j=D at htk hDl
 refine aq ?_
 refine VG (VV (fun Fr w hF hw hS=>Lg.rn Fr w (hS.at_ 0 Z) ((d.length:Int)+1+j) yd yd) Z ?_)
 rw[hat]
 refine aq ?_
 refine VG (VO.alloc Z fun eb=>?_)
 refine VG (VT (vs:=cM e0) (cs':=cM e0) 0 Z Z Z Z (NR _) Z Z Z ?_)
 refine PE ?_
 refine CD (ts 0 6 (.only 6 (.only 7 (ts 8 2 (.only 10 .nil))))) yn yr ?_
 refine sn ?_
 refine AG (VA.ky 0 (cM e0) Z Z Z Z Z ?_)
 refine AG (AO (a8.buildSlice (n:=1) (pv:=[(0,.agg (cM e0).toArray)]) (cells:=cM e0) rfl rfl rfl rfl yp (bJ rfl rfl rfl)) rfl (fun v L' g=>by obtain⟨nb,rfl,rfl⟩:=g;exact(by(try refine Pd.st ?_);(repeat(first|exact Pd.nil|exact Pd.fnil|refine Pd.inner ?_|refine Pd.skip yr ?_|refine zf (zo 0 rfl rfl) ?_|refine zf (zo 1 rfl rfl) ?_|refine zf (zo 2 rfl rfl) ?_|refine zf (zo 3 rfl rfl) ?_|refine zf (zm 0 rfl rfl) ?_|refine zf (zm 1 rfl rfl) ?_|refine zf (zm 2 rfl rfl) ?_|refine zf (zm 3 rfl rfl) ?_|refine zf (aE.aP (aE.many 1 rfl rfl) rfl) ?_|refine zf ((aE.many 1 rfl rfl)) ?_|refine zc (zo 0 rfl rfl) ?_|refine zc (zo 1 rfl rfl) ?_|refine zc (zo 2 rfl rfl) ?_|refine zc (zo 3 rfl rfl) ?_|refine zc (zm 0 rfl rfl) ?_|refine zc (zm 1 rfl rfl) ?_|refine zc (zm 2 rfl rfl) ?_|refine zc (zm 3 rfl rfl) ?_|refine zc (aE.aP (aE.many 1 rfl rfl) rfl) ?_|refine zc ((aE.many 1 rfl rfl)) ?_)))) ?_)
 rintro _ _ ⟨nb,rfl,rfl⟩
 refine AG (AO (a8.append (m:=1) (news:=cM e0) 10 rfl rfl rfl rfl rfl rfl rfl (dt.pt 0 rfl rfl rfl) rfl (ko (k:=20000) tZ yp) tZ) rfl (fun v L' g=>by obtain⟨a2,c2,rfl,hc2,rfl⟩:=g;exact(by(try refine Pd.st ?_);(repeat(first|exact Pd.nil|exact Pd.fnil|refine Pd.inner ?_|refine Pd.skip yr ?_|refine zf (zo 0 rfl rfl) ?_|refine zf (zo 1 rfl rfl) ?_|refine zf (zo 2 rfl rfl) ?_|refine zf (zo 3 rfl rfl) ?_|refine zf (zo 4 rfl rfl) ?_|refine zf (zm 0 rfl rfl) ?_|refine zf (zm 1 rfl rfl) ?_|refine zf (zm 2 rfl rfl) ?_|refine zf (zm 3 rfl rfl) ?_|refine zf (zm 4 rfl rfl) ?_|refine zf (aE.aP (aE.many 2 rfl rfl) rfl) ?_|refine zf ((aE.many 2 rfl rfl)) ?_|refine zc (zo 0 rfl rfl) ?_|refine zc (zo 1 rfl rfl) ?_|refine zc (zo 2 rfl rfl) ?_|refine zc (zo 3 rfl rfl) ?_|refine zc (zo 4 rfl rfl) ?_|refine zc (zm 0 rfl rfl) ?_|refine zc (zm 1 rfl rfl) ?_|refine zc (zm 2 rfl rfl) ?_|refine zc (zm 3 rfl rfl) ?_|refine zc (zm 4 rfl rfl) ?_|refine zc (aE.aP (aE.many 2 rfl rfl) rfl) ?_|refine zc ((aE.many 2 rfl rfl)) ?_)))) ?_)
 rintro _ _ ⟨a2,c2,rfl,hc2,rfl⟩
 refine Ko ?_
 refine AG (VA.st 4 (cs':=nK ({ C with gD:=H,done:=D ++ [e0] }:av) { y with da:=a2,dc:=c2 }) Z Z Z Z Z (by show 18<19;omega) (by unfold nK;dsimp only;rw[ZM];rfl) Z (by(try refine Pd.st ?_);(repeat(first|exact Pd.nil|exact Pd.fnil|refine Pd.inner ?_|refine Pd.skip yr ?_|refine zf (zo 0 Z Z) ?_|refine zf (zo 1 Z Z) ?_|refine zf (zo 2 Z Z) ?_|refine zf (zo 3 Z Z) ?_|refine zf (zo 4 Z Z) ?_|refine zf (zm 0 Z Z) ?_|refine zf (zm 1 Z Z) ?_|refine zf (zm 2 Z Z) ?_|refine zf (zm 3 Z Z) ?_|refine zf (zm 4 Z Z) ?_|refine zf (aE.aP (aE.many 2 Z Z) Z) ?_|refine zf ((aE.many 2 Z Z)) ?_|refine zc (zo 0 Z Z) ?_|refine zc (zo 1 Z Z) ?_|refine zc (zo 2 Z Z) ?_|refine zc (zo 3 Z Z) ?_|refine zc (zo 4 Z Z) ?_|refine zc (zm 0 Z Z) ?_|refine zc (zm 1 Z Z) ?_|refine zc (zm 2 Z Z) ?_|refine zc (zm 3 Z Z) ?_|refine zc (zm 4 Z Z) ?_|refine zc (aE.aP (aE.many 2 Z Z) Z) ?_|refine zc ((aE.many 2 Z Z)) ?_))) ?_)
 refine jo ?_
 refine qT ?_
 refine⟨(j+1,a2,c2),by dsimp only;omega,by dsimp only;omega,SC Z (SC Z (SC Z (Sub.int Z yd ba))),?_⟩
 dsimp only
 rw[htk]
 refine ae.ar ?_
 refine IP 3 Z (IP 3 Z (IP 3 Z (IP 3 Z (IP 3 Z (IP 3 Z (IP 3 Z (IP 3 Z ?_)))))))
 rw[bf,ZM]
 exact(dF [0,2,2])
end
end Cl
namespace Cl
open Go Vg T Api Ch Rep Conf Lg Rd
attribute [local irreducible] VO VC VA
theorem WU(C:av){s:gn}(h:s.kind=1):C.step s=C.call s:=by
 unfold av.step
 rw[if_pos h]
theorem WV(C:av){s:gn}(h:s.kind=2):C.step s=match C.node s.a with
  | none=>(C,C.vm s.a)
  | some r=>((C.setNode s.a (some (gN r C.now).1)).post s.a (sO (gN r C.now).2),0):=by
 unfold av.step
 rw[if_neg iy,if_pos h]<;>rfl
theorem WW(C:av){s:gn}(h:s.kind=3):C.step s=(C.tick,0):=by
 unfold av.step
 rw[if_neg iy,if_neg iy,if_pos h]
theorem WX(C:av){s:gn}(h:s.kind=4):C.step s=C.fF (s.a,s.b) s.c:=by
 unfold av.step
 rw[if_neg iy,if_neg iy,if_neg iy,if_pos h]
theorem WY(C:av){s:gn}(h:s.kind=5):C.step s=({ C with cD:=(C.cD.drop (s.a,s.b) s.c).1 },(C.cD.drop (s.a,s.b) s.c).2):=by
 unfold av.step
 rw[if_neg iy,if_neg iy,if_neg iy,if_neg iy,if_pos h]
theorem WZ(C:av){s:gn}(h:s.kind=6):C.step s=({ C with cD:=(C.cD.double (s.a,s.b) s.c).1 },(C.cD.double (s.a,s.b) s.c).2):=by
 unfold av.step
 rw[if_neg iy,if_neg iy,if_neg iy,if_neg iy,if_neg iy,if_pos h]
theorem W0(C:av){s:gn}(h:s.kind=7):C.step s=if C.vm s.a≠0 then (C,C.vm s.a) else (C.setNode s.a none,0):=by
 unfold av.step
 rw[if_neg iy,if_neg iy,if_neg iy,if_neg iy,if_neg iy,if_neg iy,if_pos h]
theorem W1(C:av){s:gn}(h:s.kind=8):C.step s=(({ C with dm:=(C.dm.cX s.a).1 }:av).post 16 (C.dm.cX s.a).2.1,(C.dm.cX s.a).2.2):=by
 unfold av.step
 rw[if_neg iy,if_neg iy,if_neg iy,if_neg iy,if_neg iy,if_neg iy,if_neg iy,if_pos h]
theorem W2(C:av){s:gn}(h:s.kind=9):C.step s=C.join s.a:=by
 unfold av.step
 rw[if_neg iy,if_neg iy,if_neg iy,if_neg iy,if_neg iy,if_neg iy,if_neg iy,if_neg iy,if_pos h]
theorem Tp(C:av){s:gn}(h:s.kind=10):C.step s=(({ C with dm:=(C.dm.drain s.a).1 }:av).post 16 (C.dm.drain s.a).2.1,(C.dm.drain s.a).2.2):=by
 unfold av.step
 rw[if_neg iy,if_neg iy,if_neg iy,if_neg iy,if_neg iy,if_neg iy,if_neg iy,if_neg iy,if_neg iy,if_pos h]
theorem Tq(C:av){s:gn}(h:s.kind=11):C.step s=(({ C with dm:=(C.dm.tick C.now).1 }:av).post 16 (C.dm.tick C.now).2,0):=by
 unfold av.step
 rw[if_neg iy,if_neg iy,if_neg iy,if_neg iy,if_neg iy,if_neg iy,if_neg iy,if_neg iy,if_neg iy,if_neg iy,if_pos h]
theorem Tr(C:av){s:gn}(h:∀k:Nat,1≤k→k≤11→s.kind≠k):C.step s=(C,2):=by
 unfold av.step
 rw[if_neg (show ¬s.kind=1 from h 1 yp yp),if_neg (show ¬s.kind=2 from h 2 yp yp),if_neg (show ¬s.kind=3 from h 3 yp yp),if_neg (show ¬s.kind=4 from h 4 yp yp),if_neg (show ¬s.kind=5 from h 5 yp yp),if_neg (show ¬s.kind=6 from h 6 yp yp),if_neg (show ¬s.kind=7 from h 7 yp yp),if_neg (show ¬s.kind=8 from h 8 yp yp),if_neg (show ¬s.kind=9 from h 9 yp yp),if_neg (show ¬s.kind=10 from h 10 yp yp),if_neg (show ¬s.kind=11 from h 11 yp yp)]
theorem Ts{C:av}{n:Int}(h:C.vm n=0):∃(k:Nat) (r:au),n=k∧C.nodes[k]?=some (some r)∧C.node n=some r:=by
 unfold av.vm at h
 split at h
 ·cases h
 ·rename_i h1
  split at h
  ·cases h
  ·rename_i h2
   cases hn:C.node n with
   | none=>rw[hn] at h2;exact absurd rfl h2
   | some r=>
    refine⟨n.toNat,r,by omega,?_,Z⟩
    unfold av.node at hn
    rw[if_neg yd] at hn
    cases hx:C.nodes[n.toNat]? with
    | none=>rw[hx] at hn;cases hn
    | some x=>rw[hx] at hn;obtain rfl:x=some r:=hn;rfl
theorem Tt{C:av}{n:Int}(h:C.vm n≠0):C.node n=none:=by
 unfold av.vm at h
 split at h
 ·rename_i h1
  unfold av.node
  split
  ·rfl
  ·rw[List.getElem?_eq_none yd];rfl
 ·split at h
  ·rename_i h2
   cases hn:C.node n with
   | none=>rfl
   | some r=>rw[hn] at h2;cases h2
  ·exact absurd Z h
section
variable {p:Nat} {C:av} {y:iC} {b e:Nat}
theorem F8(fit:dy C y){k:Nat}{r:au}(h:C.nodes[k]?=some (some r)):∃q,y.nr[k]?=some (some (q,r)):=by
 rw[←fit.nr,ZS] at h
 cases hz:y.nr[k]? with
 | none=>rw[hz] at h;cases h
 | some z=>
  rw[hz] at h
  cases z with
  | none=>cases h
  | some z=>cases h;exact⟨z.1,rfl⟩
theorem E4(fit:dy C y){k:Nat}(hk:k<y.nr.length){R:List HP}:ae ([pt p (nK C y) A2,lL y.qa y.qc C.iY.qs,di y.mp C.dm,pt y.nb (flat kU (y.nr.set k none)++y.nx) KA,pt y.cb (flat r7 y.cr++y.cx) Ow,eK y.lp C.cD,kN y.hp C.gD,aI iI 7 y.da C.done.length y.dc (flat cM C.done),cU (y.nr.map kV),cU (y.cr.map r8)]++R) [e8 p (C.setNode k none)]:=by
 have hz:y.nr[k]?=some y.nr[k]:=GE hk
 have e1:=qQ (C:=C) (y:=y) (k:=k) (x:=none) (C.setNode k none) rfl rfl rfl
 refine ae.trans (ae.app (M:=_) (M':=[]) (IP 8 Z ae.refl) ae.nil) ?_
 refine ae.trans (ae.of_eq (ZN _)) ?_
 refine ae.trans (pJ (f:=kV) hz) ?_
 refine ae.trans ae.tail ?_
 refine ae.trans (M:=kV none::cU ((y.nr.eraseIdx k).map kV)::_) (ae.pure trivial ae.refl) ?_
 refine ae.trans (sd (f:=kV) hk none) ?_
 refine ae.Pr (K:=[]) (y.node k none) ⟨by show(y.nr.set k none).map _=C.nodes.set k none;rw[Z_,fit.nr];rfl,fit.cr,fit.qc⟩ ?_
 unfold gS
 rw[e1]
 exact(dF [1,1,1,1,1,1,1,1,0,0])
theorem E5(ok:C.Ok b e)(hb:b<100000)(he:e<1000000)(s:gn):aH Tryz.prog 38 [.pointer (some ⟨p,0,none⟩),.agg s.cells.toArray] Fr w [e8 p C]
  (fun v L=>v=.int .i64 (C.step s).2∧L=[e8 p (C.step s).1]):=by
 refine TF 151 Tryz.func38 Z yn ah Z Z ?_
 refine CS (CG (VG (VB (vs:=s.cells) Z fun sb=>?_)))
 have e_:∀{c:Code} {e:Env} {Q:Exit→Env→List HP→Prop},(∀y,dy C y→VC ⟨Tryz.prog,tab,ah,151,Fr,w⟩ c e (pt sb s.cells yW::gS p C y) Q)→VC ⟨Tryz.prog,tab,ah,151,Fr,w⟩ c e [pt sb s.cells yW,e8 p C] Q:=fun h=>by
  refine VC.e_ 1 Z (aW.Pr p C) ?_
  rintro y fit
  exact CN (IP 10 Z ae.refl).ar (h y fit)
 refine an ?_
 refine CP (p:=s.kind=1) Z (fun h=>?_) (fun h1=>?_)
 ·have hr:=WU C h
  refine aq ?_
  refine VG (VL 0 s.cells Z Z Z Z ?_)
  refine VG (VQ 1 Z (fun Fr w hF hs hS=>E0 Fr w ok hb he s) Z (ψ:=fun v H=>v=.int .i64 (C.call s).2∧H=e8 p (C.call s).1) yy ?_)
  rintro _ _ ⟨rfl,rfl⟩
  refine aq ?_
  exact CR (ay.tmp 4 Z Z (ae.tail (H:=pt sb _ yW) (L:=[e8 p (C.call s).1])).ar ⟨by rw[hr],by rw[hr]⟩)
 refine aq ?_
 refine CP (p:=s.kind=2) Z (fun h=>?_) (fun h2=>?_)
 ·have hr:=WV C h
  refine e_ fun y fit=>?_
  refine an ?_
  refine YV ?_
  refine aq ?_
  refine VC.bo Z (fun k1=>?_) (fun k1=>CK ?_)
  ·rw[Tt k1] at hr
   refine aq ?_
   exact YW
  obtain⟨k,r,hk,hkr,hnr⟩:=Ts (C:=C) (n:=s.a) OR
  obtain⟨q,hx⟩:=F8 fit hkr
  have hkl:=(ZP.1 hx).1
  have hm:some r∈C.nodes:=ME hkr
  have okr:=(ok.fit r hm).ok
  have fw:gC (sO (gN r C.now).2):=gC.of (JU okr C.now)
  rw[hnr] at hr
  dsimp only at hr
  obtain⟨kd,sa,sx,sc,op⟩:=s
  dsimp only at hk hr k1
  subst hk
  refine CN (L':=pt sb (⟨kd,k,sx,sc,op⟩:gn).cells yW::bA q r::Pt p C y k C.cD) (ae.cons (wx hx)).ar ?_
  refine CD (ts 0 15 (.only 15 (.only 16 .nil))) yn yr ?_
  refine sn ?_
  refine AG (AI Z (a_ k Z Z Z Z Z Z hkl) ?_)
  refine AG (yE Z Z Z (aE.one 5 Z (iW hx)) ?_)
  refine sn ?_
  refine AG (AQ 1 Z (fun Fr w hF hs hS=>EX Fr w okr C.now) Z Z Gc ?_ ?_)
  ·rintro _ _ ⟨X,a,c,hX,rfl,rfl⟩
   exact W9
  rintro _ _ ⟨X,a,c,hX,rfl,rfl⟩
  refine AG (AQ 7 Z (fun Fr w hF hs hS=>eu Fr w (hS.aP 2 Z) ok.cD k (pP.at_ 1 hS Z hX fw)) Z Z (ψ:=fun v H=>v=.tuple #[]∧H=eK y.lp (bX k C.cD (X.map Prod.fst))) yy ?_ ?_)
  ·rintro _ _ ⟨rfl,rfl⟩
   exact W9
  rintro _ _ ⟨rfl,rfl⟩
  rw[hX]
  refine HY ?_
  exact CR (ay.tmp 4 Z Z (ae.trans (ae.tail (H:=pt sb _ yW)) (yT (p:=p) (r':=(gN r C.now).1) (l:=bX k C.cD (sO (gN r C.now).2)) (a:=a) (c:=c) (X:=X) (R:=[]) fit hx)).ar ⟨by rw[hr],by rw[hr];rfl⟩)
 refine aq ?_
 refine CP (p:=s.kind=3) Z (fun h=>?_) (fun h3=>?_)
 ·have hr:=WW C h
  refine aq ?_
  refine VG (VQ 1 Z (fun Fr w hF hs hS=>E1 Fr w ok) Z (ψ:=fun v H=>v=.tuple #[]∧H=e8 p C.tick) yy ?_)
  rintro _ _ ⟨rfl,rfl⟩
  refine aq ?_
  exact CR (ay.tmp 4 Z Z (ae.tail (H:=pt sb _ yW) (L:=[e8 p C.tick])).ar ⟨by rw[hr],by rw[hr]⟩)
 refine aq ?_
 refine CP (p:=s.kind=11) Z (fun h=>?_) (fun h11=>?_)
 ·have hr:=Tq C h
  refine e_ fun y fit=>?_
  refine Wd ?_
  have fw:=ok.dm.pd C.now
  refine CD (ts 0 9 (.only 9 (.only 10 .nil))) yn yr ?_
  refine sn ?_
  refine AG (AQ 1 Z (fun Fr w hF hs hS=>De Fr w ok.dm C.now) Z Z Gc ?_ ?_)
  ·rintro _ _ ⟨X,a,c,hX,rfl,rfl⟩
   exact yu
  rintro _ _ ⟨X,a,c,hX,rfl,rfl⟩
  refine AG (AQ 6 Z (fun Fr w hF hs hS=>eu Fr w (hS.aP 2 Z) ok.cD 16 (pP.at_ 1 hS Z hX fw)) Z Z (ψ:=fun v H=>v=.tuple #[]∧H=eK y.lp (bX 16 C.cD (X.map Prod.fst))) yy ?_ ?_)
  ·rintro _ _ ⟨rfl,rfl⟩
   exact yu
  rintro _ _ ⟨rfl,rfl⟩
  rw[hX]
  refine HY ?_
  exact CR (ay.tmp 4 Z Z (ae.trans (ae.tail (H:=pt sb _ yW)) (mQ (p:=p) (C:=C) (m:=(C.dm.tick C.now).1) (l:=bX 16 C.cD (C.dm.tick C.now).2) (a:=a) (c:=c) (X:=X) (R:=[]) fit)).ar ⟨by rw[hr],by rw[hr];rfl⟩)
 refine aq ?_
 refine CP (p:=s.kind=4) Z (fun h=>?_) (fun h4=>?_)
 ·have hr:=WX C h
  refine an ?_
  refine VG (VQ 1 Z (fun Fr w hF hs hS=>xl Fr w ok yd s.a s.b s.c) Z (ψ:=fun v H=>v=.int .i64 (C.fF (s.a,s.b) s.c).2∧H=e8 p (C.fF (s.a,s.b) s.c).1) yy ?_)
  rintro _ _ ⟨rfl,rfl⟩
  refine aq ?_
  exact CR (ay.tmp 4 Z Z (ae.tail (H:=pt sb _ yW) (L:=[e8 p (C.fF (s.a,s.b) s.c).1])).ar ⟨by rw[hr],by rw[hr]⟩)
 refine aq ?_
 refine CP (p:=s.kind=5) Z (fun h=>?_) (fun h5=>?_)
 ·have hr:=WY C h
  refine e_ fun y fit=>?_
  refine aq ?_
  refine CD (ts 0 10 (.only 10 (ts 11 1 .nil))) yn yr ?_
  refine qg ?_
  refine AG (AQ 6 Z (fun Fr w hF hs hS=>EU Fr w ok.cD s.a s.b s.c) Z Z (ψ:=fun v H=>v=.int .i64 (C.cD.drop (s.a,s.b) s.c).2∧H=eK y.lp (C.cD.drop (s.a,s.b) s.c).1) yy ?_ ?_)
  ·rintro _ _ ⟨rfl,rfl⟩
   exact yu
  rintro _ _ ⟨rfl,rfl⟩
  refine qg ?_
  refine aq ?_
  exact CR (ay.tmp 4 Z Z (ae.trans (ae.tail (H:=pt sb _ yW)) (gj (p:=p) (C:=({ C with cD:=(C.cD.drop (s.a,s.b) s.c).1 }:av)) (y:=y) (R:=[]) ⟨fit.nr,fit.cr,fit.qc⟩)).ar ⟨by rw[hr],by rw[hr]⟩)
 refine aq ?_
 refine CP (p:=s.kind=6) Z (fun h=>?_) (fun h6=>?_)
 ·have hr:=WZ C h
  refine e_ fun y fit=>?_
  refine aq ?_
  refine CD (ts 0 10 (.only 10 (ts 11 1 .nil))) yn yr ?_
  refine qg ?_
  refine AG (AQ 6 Z (fun Fr w hF hs hS=>A1 Fr w ok.cD s.a s.b s.c) Z Z (ψ:=fun v H=>v=.int .i64 (C.cD.double (s.a,s.b) s.c).2∧H=eK y.lp (C.cD.double (s.a,s.b) s.c).1) yy ?_ ?_)
  ·rintro _ _ ⟨rfl,rfl⟩
   exact yu
  rintro _ _ ⟨rfl,rfl⟩
  refine qg ?_
  refine aq ?_
  exact CR (ay.tmp 4 Z Z (ae.trans (ae.tail (H:=pt sb _ yW)) (gj (p:=p) (C:=({ C with cD:=(C.cD.double (s.a,s.b) s.c).1 }:av)) (y:=y) (R:=[]) ⟨fit.nr,fit.cr,fit.qc⟩)).ar ⟨by rw[hr],by rw[hr]⟩)
 refine aq ?_
 refine CP (p:=s.kind=7) Z (fun h=>?_) (fun h7=>?_)
 ·have hr:=W0 C h
  refine e_ fun y fit=>?_
  refine an ?_
  refine YV ?_
  refine aq ?_
  refine VC.bo Z (fun k1=>?_) (fun k1=>CK ?_)
  ·rw[if_pos k1] at hr
   refine aq ?_
   exact YW
  rw[if_neg (fun g=>g OR)] at hr
  obtain⟨k,r,hk,hkr,hnr⟩:=Ts (C:=C) (n:=s.a) OR
  obtain⟨q,hx⟩:=F8 fit hkr
  have hkl:=(ZP.1 hx).1
  obtain⟨kd,sa,sx,sc,op⟩:=s
  dsimp only at hk hr k1
  subst hk
  refine CD (ts 0 7 (.only 7 .nil)) yn yr ?_
  refine qg ?_
  refine AG (AI Z (a_ k Z Z Z Z Z Z hkl) ?_)
  refine AG (VA.st 4 (cs':=flat kU (y.nr.set k none)++y.nx) Z Z Z Z Z Xd (yY none hkl y.nx) Z yu ?_)
  refine HY ?_
  exact CR (ay.tmp 4 Z Z (ae.trans (ae.tail (H:=pt sb _ yW)) (E4 (p:=p) (C:=C) (R:=[]) fit hkl)).ar ⟨by rw[hr],by rw[hr]⟩)
 refine aq ?_
 refine CP (p:=s.kind=8) Z (fun h=>?_) (fun h8=>?_)
 ·have hr:=W1 C h
  refine e_ fun y fit=>?_
  refine Wd ?_
  have fw:=(ok.dm.tW s.a).1
  refine aq ?_
  refine CD (ts 0 6 (.only 6 (ts 7 5 .nil))) yn yr ?_
  refine sn ?_
  refine AG (AQ 1 Z (fun Fr w hF hs hS=>xj Fr w ok.dm s.a) Z Z Gc ?_ ?_)
  ·rintro _ _ ⟨X,a,c,hX,rfl,rfl⟩
   exact yu
  rintro _ _ ⟨X,a,c,hX,rfl,rfl⟩
  refine sn ?_
  refine aq ?_
  refine YX ?_
  rintro _ _ ⟨rfl,rfl⟩
  rw[hX]
  refine aq ?_
  exact CR (ay.tmp 4 Z Z (ae.trans (ae.tail (H:=pt sb _ yW)) (mQ (p:=p) (C:=C) (m:=(C.dm.cX s.a).1) (l:=bX 16 C.cD (C.dm.cX s.a).2.1) (a:=a) (c:=c) (X:=X) (R:=[]) fit)).ar ⟨by rw[hr],by rw[hr];rfl⟩)
 refine aq ?_
 refine CP (p:=s.kind=9) Z (fun h=>?_) (fun h9=>?_)
 ·have hr:=W2 C h
  refine an ?_
  refine VG (VQ 1 Z (fun Fr w hF hs hS=>E3 Fr w ok yd s.a) Z (ψ:=fun v H=>v=.int .i64 (C.join s.a).2∧H=e8 p (C.join s.a).1) yy ?_)
  rintro _ _ ⟨rfl,rfl⟩
  refine aq ?_
  exact CR (ay.tmp 4 Z Z (ae.tail (H:=pt sb _ yW) (L:=[e8 p (C.join s.a).1])).ar ⟨by rw[hr],by rw[hr]⟩)
 refine aq ?_
 refine CP (p:=s.kind=10) Z (fun h=>?_) (fun h10=>?_)
 ·have hr:=Tp C h
  refine e_ fun y fit=>?_
  refine Wd ?_
  have fw:=(ok.dm.yQ s.a).1
  refine aq ?_
  refine CD (ts 0 6 (.only 6 (ts 7 5 .nil))) yn yr ?_
  refine sn ?_
  refine AG (AQ 1 Z (fun Fr w hF hs hS=>Df Fr w ok.dm s.a) Z Z Gc ?_ ?_)
  ·rintro _ _ ⟨X,a,c,hX,rfl,rfl⟩
   exact yu
  rintro _ _ ⟨X,a,c,hX,rfl,rfl⟩
  refine sn ?_
  refine aq ?_
  refine YX ?_
  rintro _ _ ⟨rfl,rfl⟩
  rw[hX]
  refine aq ?_
  exact CR (ay.tmp 4 Z Z (ae.trans (ae.tail (H:=pt sb _ yW)) (mQ (p:=p) (C:=C) (m:=(C.dm.drain s.a).1) (l:=bX 16 C.cD (C.dm.drain s.a).2.1) (a:=a) (c:=c) (X:=X) (R:=[]) fit)).ar ⟨by rw[hr],by rw[hr];rfl⟩)
 refine aq ?_
 have hr:=Tr C (s:=s) (fun k k1 k2=>by
  rcases(by omega:k=1∨k=2∨k=3∨k=4∨k=5∨k=6∨k=7∨k=8∨k=9∨k=10∨k=11) with rfl | rfl | rfl | rfl | rfl | rfl | rfl | rfl | rfl | rfl | rfl<;>assumption)
 exact CR (ay.tmp 4 Z Z ae.tail.ar ⟨by rw[hr],by rw[hr]⟩)
end
end Cl
namespace Cl
open Go Vg T Api Ch Rep Conf Lg Rd
attribute [local irreducible] VO VC VA
section
variable {p:Nat} {C:av} {y:iC} {b e:Nat}
theorem OF(h:aM Fr [e8 p C] w):aH Tryz.prog 37 [.pointer (some ⟨p,0,none⟩)] Fr w [] (fun v L=>v=.bool true∧L=[]):=by
 obtain⟨y,fit,hy⟩:=Q2 h
 exact EV Fr w (hy.aP 0 Z)
theorem Dm(ok:C.Ok b e)(hb:b<100000)(he:e<900000)(s:gn):aH Tryz.prog 21 [.pointer (some ⟨p,0,none⟩),.agg s.cells.toArray] Fr w [e8 p C]
  (fun v L=>v=.int .i64 (C.jM s).2∧L=[e8 p (C.jM s).1]):=by
 have ok2:=ok.step hb yd s
 refine TF 15 Tryz.func21 Z yn ah Z Z ?_
 refine CS (CG (VG (VB (vs:=s.cells) Z fun sb=>?_)))
 refine aq ?_
 refine VG (VV (fun Fr w hF hw hS=>OF Fr w (hS.at_ 1 Z)) Z ?_)
 refine Ff ?_
 refine VG (VL 0 s.cells Z Z Z Z ?_)
 refine VG (VQ 1 Z (fun Fr w hF hs hS=>E5 Fr w ok hb yd s) Z (ψ:=fun v H=>v=.int .i64 (C.step s).2∧H=e8 p (C.step s).1) yy ?_)
 rintro _ _ ⟨rfl,rfl⟩
 refine aq ?_
 refine VG (VQ 1 Z (fun Fr w hF hs hS=>A8 Fr w ok2 yd) Z (ψ:=fun v H=>v=.tuple #[]∧H=e8 p (C.step s).1.behind) yy ?_)
 rintro _ _ ⟨rfl,rfl⟩
 refine aq ?_
 exact CR (ay.tmp 4 Z Z (ae.tail (H:=pt sb _ yW) (L:=[e8 p (C.jM s).1])).ar ⟨rfl,Z⟩)
end
section
variable {u:Value}
end
end Cl
namespace Cl
open Go Vg T Api Ch Rep Conf Lg Rd Sched
attribute [local irreducible] VO VC VA
theorem J7{X:Cx}{L:List HP}{a:Option Addr}{cap:Nat}{qs:List Int}(hq:ee X.Fr X.w0 a qs)(hne:qs≠[]):dt X L (.slice a qs.length cap) 1 qs.length (cS qs):=by
 obtain⟨b,off,rfl,h2,h3⟩:=hq.at_ hne
 refine⟨by simp[cS],.inr ⟨b,off,cap,Z,fun w' hw' j v hv=>?_⟩⟩
 rw[cS,ZS] at hv
 cases hj:qs[j]? with
 | none=>rw[hj] at hv;cases hv
 | some x=>
  rw[hj] at hv
  obtain rfl:=Z3 hv
  exact m_ (hw'.cK.block b h2) (h3 j x hj)
theorem yZ{α:Type}{f:α→HP}{l:List α}{x:α}{A:List HP}:ae (f x::cU (l.map f)::A) (cU ((l ++ [x]).map f)::A):=by
 refine ae.sep (ae.trans (M:=cU (l.map f)::f x::A) (ae.perm (.swap _ _ _)) (ae.Fj (ae.of_eq ?_)))
 simp
abbrev xm:TypeId:=24
def Dn(c:aV)(qa:Option Addr)(qc m:Nat)(nv cv lv:Value)(h:Nat):List Value:=c.cells qa qc ++ [.int .i64 0,.pointer (some ⟨m,0,none⟩),nv,cv,lv,.pointer (some ⟨h,0,none⟩),.slice none 0 0]
theorem HO(c:aV){qa:Option Addr}{qc:Nat}(hq:ee Fr w qa c.qs)(hqc:c.qs.length≤qc):
  aH Tryz.prog 17 [.agg (c.cells qa qc).toArray] Fr w [] (fun v L=>if c=dz c then ∃p,v=.tuple #[.pointer (some ⟨p,0,none⟩),.int .i64 0]∧L=[e8 p (ei c)] else v=.tuple #[.pointer none,.int .i64 2]∧L=[]):=by
 refine TF 83 Tryz.func17 Z yn ah Z Z ?_
 refine CS (CG (VG (VB (vs:=c.cells qa qc) Z fun b1=>VG (VN ?_))))
 refine Wi ?_
 refine VG (VK (Lc:=[]) (fun Fr w hF hs _=>Ho Fr w c (fY hq hF hs) trivial hqc) Z Z ?_)
 intro v L1 hv
 by_cases hf:c=dz c
 rotate_left
 ·rw[if_neg hf] at hv
  obtain⟨rfl,rfl⟩:=hv
  refine PI ?_
  exact CR (ay.cV 2 3 Z Z Z ae.nil.ar Xv)
 rw[if_pos hf] at hv
 obtain⟨m,rfl,rfl⟩:=hv
 have hb:=cP hf
 have hb2:=iU hf
 refine O0 ?_
 refine jd ?_
 refine VO.ar (L':=aI 3 1 none 0 0 [] :: [di m (vk c),pt b1 (c.cells qa qc) xm]) (ae.bZ ae.refl).ar ?_
 refine VG (VO.append (m:=c.qs.length) (news:=cS c.qs) 0 Z Z Z Z Z Z Z (J7 hq (by intro h0;rw[h0] at hb2;exact absurd hb2.2.2.2.2.2.1 yp)) (by unfold cS;rw[List.all_map];exact List.all_eq_true.2 fun _ _=>rfl) (ko (k:=100) yd yp) yd fun qa2 qc2 hqc2=>?_)
 rw[ZQ,List.nil_append] at *
 refine aq ?_
 refine VG (VO.st 2 (cs':=c.cells qa2 qc2) Z Z Z Z RP Z Z ?_)
 refine Bd ?_
 show VC _ _ _ [lL qa2 qc2 c.qs,di m (vk c),pt b1 (c.cells qa2 qc2) xm] _
 refine CS ?_
 refine CD (ts 0 2 (.only 2 (.take 3 (.only 4 (.take 5 .nil))))) yn yr ?_
 refine AG (VA.ky 2 (c.cells qa2 qc2) Z Z Z Z Z ?_)
 refine nY ?_
 refine AG (AO (OC (Lc:=[]) rfl (.refl _) (fun Fr w _ _ _=>Hs Fr w)) rfl (fun v L' g=>by obtain⟨_,⟨h,rfl,rfl⟩,rfl⟩:=g;exact(by(try refine Pd.st ?_);(repeat(first|exact Pd.nil|exact Pd.fnil|refine Pd.inner ?_|refine Pd.skip yr ?_|refine zf (zo 0 rfl rfl) ?_|refine zf (zo 1 rfl rfl) ?_|refine zf (zo 2 rfl rfl) ?_|refine zf (zo 3 rfl rfl) ?_|refine zf (zm 0 rfl rfl) ?_|refine zf (zm 1 rfl rfl) ?_|refine zf (zm 2 rfl rfl) ?_|refine zf (zm 3 rfl rfl) ?_|refine zf (aE.aP (aE.many 3 rfl rfl) rfl) ?_|refine zf ((aE.many 3 rfl rfl)) ?_|refine zc (zo 0 rfl rfl) ?_|refine zc (zo 1 rfl rfl) ?_|refine zc (zo 2 rfl rfl) ?_|refine zc (zo 3 rfl rfl) ?_|refine zc (zm 0 rfl rfl) ?_|refine zc (zm 1 rfl rfl) ?_|refine zc (zm 2 rfl rfl) ?_|refine zc (zm 3 rfl rfl) ?_|refine zc (aE.aP (aE.many 3 rfl rfl) rfl) ?_|refine zc ((aE.many 3 rfl rfl)) ?_)))) ?_)
 rintro v L' ⟨_,⟨h,rfl,rfl⟩,rfl⟩
 refine AG (AI Z (LB (pv:=[(0,.agg (c.cells qa2 qc2).toArray),(2,pV m),(6,pV h)]) (Dn c qa2 qc2 m (.slice none 0 0) (.slice none 0 0) (.pointer none) h) Z Z Z yn Z) ?_)
 refine AG (AO (a8.box (vs:=Dn c qa2 qc2 m (.slice none 0 0) (.slice none 0 0) (.pointer none) h) rfl rfl) rfl (fun v L' g=>by obtain⟨p,rfl,rfl⟩:=g;exact(by(try refine Pd.st ?_);(repeat(first|exact Pd.nil|exact Pd.fnil|refine Pd.inner ?_|refine Pd.skip yr ?_|refine zf (zo 0 rfl rfl) ?_|refine zf (zo 1 rfl rfl) ?_|refine zf (zo 2 rfl rfl) ?_|refine zf (zo 3 rfl rfl) ?_|refine zf (zo 4 rfl rfl) ?_|refine zf (zm 0 rfl rfl) ?_|refine zf (zm 1 rfl rfl) ?_|refine zf (zm 2 rfl rfl) ?_|refine zf (zm 3 rfl rfl) ?_|refine zf (zm 4 rfl rfl) ?_|refine zf (aE.aP (aE.many 4 rfl rfl) rfl) ?_|refine zf ((aE.many 4 rfl rfl)) ?_|refine zc (zo 0 rfl rfl) ?_|refine zc (zo 1 rfl rfl) ?_|refine zc (zo 2 rfl rfl) ?_|refine zc (zo 3 rfl rfl) ?_|refine zc (zo 4 rfl rfl) ?_|refine zc (zm 0 rfl rfl) ?_|refine zc (zm 1 rfl rfl) ?_|refine zc (zm 2 rfl rfl) ?_|refine zc (zm 3 rfl rfl) ?_|refine zc (zm 4 rfl rfl) ?_|refine zc (aE.aP (aE.many 4 rfl rfl) rfl) ?_|refine zc ((aE.many 4 rfl rfl)) ?_)))) ?_)
 rintro v L' ⟨p,rfl,rfl⟩
 refine nY ?_
 refine Dv ?_
 refine VG (VK (Lc:=[]) (fun Fr w _ _ _=>HA Fr w (n:=c.link) yd yd) Z Z ?_)
 rintro _ _ ⟨l,rfl,rfl⟩
 refine aq ?_
 refine VG (VO.st 1 (cs':=Dn c qa2 qc2 m (.slice none 0 0) (.slice none 0 0) (.pointer (some ⟨l,0,none⟩)) h) Z Z Z Z (by show 16<19;omega) Z Z ?_)
 refine Bd ?_
 refine CN (L':=[pt p (Dn c qa2 qc2 m (.slice none 0 0) (.slice none 0 0) (.pointer (some ⟨l,0,none⟩)) h) A2,pt b1 (c.cells qa2 qc2) xm,lL qa2 qc2 c.qs,eK l ⟨c.link,[]⟩,kN h B_,di m (vk c)]) (dF [1,4,2,0,0,0]).ar ?_
 refine aq ?_
 refine VC.loop (σ:=List A3×Option Addr×Nat) (fun s=>[(1,pV b1),(6,pV p),(7,.int .i64 s.1.length)])
  (fun s=>[pt p (Dn c qa2 qc2 m (.slice s.2.1 s.1.length s.2.2) (.slice none 0 0) (.pointer (some ⟨l,0,none⟩)) h) A2,pt b1 (c.cells qa2 qc2) xm,lL qa2 qc2 c.qs,eK l ⟨c.link,[]⟩,kN h B_,di m (vk c),aI KA 1 s.2.1 s.1.length s.2.2 (flat kU s.1),cU (s.1.map kV)])
  (fun s=>s.1.length≤c.nodes.toNat∧s.1.map (Option.map Prod.snd)=(List.range s.1.length).map fun(n:Nat)=>some (fy c n false)) (fun s=>c.nodes.toNat-s.1.length) ([],none,0)
  ⟨ZO _,rfl⟩ ba (IP 0 rfl (IP 0 rfl (IP 0 rfl (IP 0 rfl (IP 0 rfl (IP 0 rfl (ae.bZ (ae.sep ae.nil)))))))).ar ?_
 rintro⟨nr,na,nc⟩ ⟨hn1,hn2⟩
 dsimp only at hn1 hn2 ⊢
 refine jd ?_
 refine CP (p:=(nr.length:Int)<c.nodes) Z (fun h1=>CK ?_) (fun h1=>CX ?_)
 ·refine CS (VC.block (CS (CG ?_)))
  refine VG (VL 1 (c.cells qa2 qc2) Z Z Z Z ?_)
  refine aq ?_
  refine VG (VK (Lc:=[]) (fun Fr w hF hs hS=>Rep.dJ Fr w c qa2 qc2 (iL (hS.at_ 2 Z)) trivial hqc2 nr.length false) Z Z ?_)
  rintro v L1 g
  rw[if_pos (show nw c (nr.length:Int) from⟨hf,by omega,h1⟩)] at g
  obtain⟨r,rfl,rfl⟩:=g
  refine aq ?_
  refine sj ?_
  refine VG (VO.buildSlice (n:=1) (pv:=[(0,pV r)]) [.pointer (some ⟨r,0,none⟩)] Z Z Z Z yp (bJ Z Z Z) fun nb=>?_)
  refine VG (VO.append (m:=1) (news:=[.pointer (some ⟨r,0,none⟩)]) 8 Z Z Z Z Z Z Z (dt.pt 0 Z Z Z) Z (ko (k:=100) yd yp) yd fun na2 nc2 hnc=>?_)
  refine aq ?_
  refine VG (VO.st 3 (cs':=Dn c qa2 qc2 m (.slice na2 (nr.length+1) nc2) (.slice none 0 0) (.pointer (some ⟨l,0,none⟩)) h) Z Z Z Z (by show 14<19;omega) Z Z ?_)
  refine qT ?_
  have hlen:(nr ++ [some (r,fy c nr.length false)]).length=nr.length+1:=by simp
  refine⟨(nr ++ [some (r,fy c nr.length false)],na2,nc2),⟨by dsimp only;omega,?_⟩,by dsimp only;omega,SC Z (SC Z (Sub.int Z tZ (SN _))),?_⟩
  ·dsimp only
   rw[hlen,List.range_succ,List.map_append,List.map_append,hn2];rfl
  ·dsimp only
   rw[hlen,bf]
   refine ae.ar ?_
   refine IP 3 Z (IP 3 Z (IP 3 Z (IP 3 Z (IP 3 Z (IP 3 Z (IP 0 Z ?_))))))
   exact ae.trans ae.tail (yZ (f:=kV) (x:=some (r,fy c nr.length false)))
 have hnl:nr.length=c.nodes.toNat:=by omega
 refine aq ?_
 refine VC.loop (σ:=List FY×Option Addr×Nat) (fun s=>[(1,pV b1),(6,pV p),(10,.int .i64 s.1.length)])
  (fun s=>[pt p (Dn c qa2 qc2 m (.slice na nr.length nc) (.slice s.2.1 s.1.length s.2.2) (.pointer (some ⟨l,0,none⟩)) h) A2,pt b1 (c.cells qa2 qc2) xm,lL qa2 qc2 c.qs,eK l ⟨c.link,[]⟩,kN h B_,di m (vk c),aI KA 1 na nr.length nc (flat kU nr),cU (nr.map kV),aI Ow 1 s.2.1 s.1.length s.2.2 (flat r7 s.1),cU (s.1.map r8)])
  (fun s=>s.1.length≤c.aB.toNat∧s.1.map Prod.snd=(List.range s.1.length).map fun(n:Nat)=>oS c n) (fun s=>c.aB.toNat-s.1.length) ([],none,0)
  ⟨ZO _,rfl⟩ ba (IP 0 rfl (IP 0 rfl (IP 0 rfl (IP 0 rfl (IP 0 rfl (IP 0 rfl (IP 0 rfl (IP 0 rfl (ae.bZ (ae.sep ae.nil)))))))))).ar ?_
 rintro⟨cr,ca,cc⟩ ⟨hm1,hm2⟩
 dsimp only at hm1 hm2 ⊢
 refine jd ?_
 refine CP (p:=(cr.length:Int)<c.aB) Z (fun h1=>CK ?_) (fun h1=>CX ?_)
 ·refine CS (VC.block (CS (CG ?_)))
  refine VG (VL 1 (c.cells qa2 qc2) Z Z Z Z ?_)
  refine aq ?_
  refine VG (VK (Lc:=[]) (fun Fr w hF hs hS=>Hr Fr w c (iL (hS.at_ 2 Z)) trivial hqc2 cr.length) Z Z ?_)
  rintro v L1 g
  rw[if_pos (show kM c (cr.length:Int)=0 from by unfold kM;rw[if_pos ⟨hf,by omega,h1⟩])] at g
  obtain⟨r,rfl,rfl⟩:=g
  refine aq ?_
  refine sj ?_
  refine VG (VO.buildSlice (n:=1) (pv:=[(0,pV r)]) [.pointer (some ⟨r,0,none⟩)] Z Z Z Z yp (bJ Z Z Z) fun nb=>?_)
  refine VG (VO.append (m:=1) (news:=[.pointer (some ⟨r,0,none⟩)]) 10 Z Z Z Z Z Z Z (dt.pt 0 Z Z Z) Z (ko (k:=100) yd yp) yd fun ca2 cc2 hcc=>?_)
  refine aq ?_
  refine VG (VO.st 3 (cs':=Dn c qa2 qc2 m (.slice na nr.length nc) (.slice ca2 (cr.length+1) cc2) (.pointer (some ⟨l,0,none⟩)) h) Z Z Z Z (by show 15<19;omega) Z Z ?_)
  refine qT ?_
  have hlen:(cr ++ [(r,oS c cr.length)]).length=cr.length+1:=by simp
  refine⟨(cr ++ [(r,oS c cr.length)],ca2,cc2),⟨by dsimp only;omega,?_⟩,by dsimp only;omega,SC Z (SC Z (Sub.int Z tZ (SN _))),?_⟩
  ·dsimp only
   rw[hlen,List.range_succ,List.map_append,List.map_append,hm2];rfl
  ·dsimp only
   rw[hlen,bf]
   refine ae.ar ?_
   refine IP 3 Z (IP 3 Z (IP 3 Z (IP 3 Z (IP 3 Z (IP 3 Z (IP 3 Z (IP 3 Z (IP 0 Z ?_))))))))
   exact ae.trans ae.tail (yZ (f:=r8) (x:=(r,oS c cr.length)))
 have hml:cr.length=c.aB.toNat:=by omega
 refine VC.e_ 6 Z (aW.sl KA 1 na nr.length nc (flat kU nr)) ?_
 rintro(_ | ⟨nb,nx⟩) ⟨-,-,hn⟩
 ·exact absurd hn.2.1 yd
 obtain⟨rfl,hnx⟩:=hn
 refine VC.e_ 8 Z (aW.sl Ow 1 ca cr.length cc (flat r7 cr)) ?_
 rintro(_ | ⟨cb,cx⟩) ⟨-,-,hc⟩
 ·exact absurd hc.2.1 yd
 obtain⟨rfl,hcx⟩:=hc
 refine aq ?_
 refine CR (ay.cV 2 3 Z Z Z (L':=[e8 p (ei c)]) (ae.Pr (K:=[]) ⟨qa2,qc2,m,nb,nc,nx,nr,cb,cc,cx,cr,l,h,none,0⟩ ⟨by rw[hn2,hnl];rfl,by rw[hm2,hml];rfl,hqc2⟩ ?_).ar (by rw[if_pos hf];exact⟨p,Z,Z⟩))
 exact IP 2 Z (IP 3 Z (IP 5 Z (IP 1 Z (IP 0 Z (IP 1 Z (IP 1 Z (ae.bZ (dF [1,1]))))))))
end Cl
namespace Cl
open Go Vg T Api Ch Rep Conf Lg Rd Sched
abbrev KB:TypeId:=5
theorem NB.nil{tB:TypeId}:∀K∈([]:List HP),NB tB K:=fun _ h=>by cases h
theorem NB.cons{tB:TypeId}{H:HP}{L:List HP}(h1:NB tB H)(h2:∀K∈L,NB tB K):∀K∈H::L,NB tB K:=fun K hK=>by
 rcases ZV.1 hK with rfl | hK
 ·exact h1
 ·exact h2 K hK
theorem NB.many{tB:TypeId}{α:Type}{f:α→HP}{l:List α}(h:∀x,NB tB (f x)):∀K∈l.map f,NB tB K:=fun K hK=>by
 obtain⟨x,_,rfl⟩:=Z0.1 hK
 exact h x
theorem Q_(p:Nat)(M:aC):NB KB (di p M):=NB.ex fun _=>NB.sep (NB.cons (NB.pt yp) (NB.cons (NB.sl yp) NB.nil))
theorem Ra(p:Nat)(M:bN):NB KB (kN p M):=NB.ex fun _=>NB.sep (NB.cons (NB.pt yp) (NB.cons (NB.sl yp) NB.nil))
theorem Rb(p:Nat)(M:bd):NB KB (eK p M):=NB.ex fun _=>NB.sep (NB.cons NB.pure (NB.cons (NB.pt yp) (NB.cons NB.map (NB.many fun _=>NB.sl yp))))
theorem Rc(x:FY):NB KB (r8 x):=NB.ex fun y=>NB.sep (NB.cons (NB.pt yp) (NB.cons (NB.pt yp) (NB.cons (NB.sl yp) (NB.cons (by
 show NB KB (mG x.2.out y.b)
 cases x.2.out with
 | none=>exact NB.pure
 | some o=>exact NB.pt yp) NB.nil))))
theorem OG(p:Nat)(q:List aa)(c:Nat):NB KB (Ring.b_ p q c):=NB.ex fun _=>NB.sep (NB.cons NB.pure (NB.cons (NB.pt yp) (NB.cons (NB.pt yp) (NB.many fun _=>NB.ex fun _=>NB.sep (NB.cons NB.pure (NB.cons (NB.sl yp) NB.nil))))))
theorem Re(p:Nat)(S:aA):NB KB (iz p S):=NB.ex fun _=>NB.sep (NB.cons NB.pure (NB.cons (NB.pt yp) (NB.cons (NB.pt yp) (NB.many fun _=>OG _ _ _))))
theorem Rf(p:Nat)(R:au):NB KB (bA p R):=NB.ex fun _=>NB.sep (NB.cons (NB.pt yp) (NB.cons (NB.sl yp) (NB.cons
 (NB.ex fun _=>NB.sep (NB.cons (NB.pt yp) (NB.cons (NB.ex fun _=>NB.sep (NB.cons (NB.pt yp) (NB.cons NB.map NB.nil))) (NB.cons (NB.sl yp) (NB.cons (NB.sl yp) NB.nil)))))
 (NB.cons (NB.pt yp) (NB.cons (NB.ex fun _=>NB.sep (NB.cons NB.pure (NB.cons (NB.pt yp) (NB.cons (Re _ _) NB.nil))))
 (NB.cons (NB.ex fun _=>NB.sep (NB.cons NB.pure (NB.cons (NB.pt yp) (NB.cons (NB.sl yp) NB.nil)))) NB.nil))))))
theorem Rg(x:A3):NB KB (kV x):=by
 cases x with
 | none=>exact NB.pure
 | some x=>exact Rf _ _
theorem E6(p:Nat)(C:av):NB KB (e8 p C):=NB.ex fun y=>NB.sep (NB.cons NB.pure (NB.cons (NB.pt yp) (NB.cons (NB.sl yp) (NB.cons (Q_ _ _) (NB.cons (NB.pt yp) (NB.cons (NB.pt yp) (NB.cons (Rb _ _) (NB.cons (Ra _ _) (NB.cons (NB.sl yp)
 (NB.cons (NB.sep (NB.many Rg)) (NB.cons (NB.sep (NB.many Rc)) NB.nil)))))))))))
end Cl
namespace Cl
open Go Vg T Api Ch Rep Conf Lg Rd Sched LibC Scr
def Dp(F:aV)(l:List cn)(i:Nat):av:=(l.take i).foldl (fun C d=>(C.jM (ka d)).1) (ei F)
theorem y_{F:aV}{l:List cn}{i:Nat}{d:cn}(h:l[i]?=some d):Dp F l (i+1)=((Dp F l i).jM (ka d)).1:=by
 unfold Dp
 rw[ZZ,h,List.foldl_append]
 rfl
theorem F9{F:aV}(hF:F=dz F){l:List cn}(hl:l.length≤1000):∀i:Nat,i≤l.length→(Dp F l i).Ok i (7*i)
 | 0,_=>F2 hF
 | i+1,hi=>by
  have hx:l[i]?=some l[i]:=GE yd
  rw[y_ hx]
  exact((F9 hF hl i yd).jM yd yd _).mono (NR _) yd
theorem F_:∀{l:List cn} {C:av} {i:Nat} {d:cn},l[i]?=some d→(fA C l)[i]?=some (d,(((l.take i).foldl (fun C d=>(C.jM (ka d)).1) C).jM (ka d)).2)
 | [],_,_,_,h=>by cases h
 | d'::l,C,0,d,h=>by
  cases h;rfl
 | d'::l,C,i+1,d,h=>by
  have h:l[i]?=some d:=h
  show(fA (C.jM (ka d')).1 l)[i]?=some (d,(((l.take i).foldl (fun C d=>(C.jM (ka d)).1) (C.jM (ka d')).1).jM (ka d)).2)
  exact F_ h
theorem zd{x:List (cn×Int)}{i:Nat}{p:cn×Int}(h:x[i]?=some p):dp (x.take (i+1))=dp (x.take i)++fS p ++ [10]:=by
 unfold dp
 rw[ZZ,h]
 simp
theorem ta{p:cn×Int}(h:kJ p):(fS p).length≤16523:=by
 obtain⟨h1,h2,h3,h4⟩:=h
 have e:=xU h1
 rw[sU h2,ZM,List.length_singleton] at e
 have:=Lib.itoa_length_le p.2 yd yd
 unfold fS
 rw[ZM,ZM]
 show _+(3+_)≤_
 omega
theorem pg:∀{x:List (cn×Int)},(∀p∈x,kJ p)→(dp x).length≤16524*x.length
 | [],_=>by simp[dp]
 | p::x,h=>by
  have h1:=ta (h p List.mem_cons_self)
  have h2:=pg (x:=x) fun q hq=>h q (List.mem_cons_of_mem _ hq)
  show(fS p ++ [10]++dp x).length≤_
  simp only[ZM,ZW,List.length_nil]
  omega
attribute [local irreducible] VO VC VA
theorem ze{L:List HP}(hS:aM Fr L w){b t:Nat}(d:cn)(i:Nat)(hi:L[i]?=some (pt b (dV d) t))(hd:d.Ok)(hk:lS d.kind=true)(hG:b9 Fr w)(hK:cy Fr w):
  aH Tryz.prog 12 [.slice (some ⟨b,0,none⟩) 1 1] Fr w [] (fun v L=>v=.string (bY (gp d ++ [10]))∧L=[]):=by
 have h1:aK dV 8 Fr w (some ⟨b,0,none⟩) [d]:=aK.aP (hS.aP i hi) fun j x hx=>by
  cases j with
  | zero=>cases hx;rfl
  | succ j=>cases hx
 have h2:=uM (cap:=1) Fr w h1 yf (fun e he=>by rw[Z7.1 he];exact hd) hG.tab hK
 have e:jO [d]=gp d ++ [10]:=by
  rw[←sU hk];simp[jO]
 rw[e] at h2
 exact h2
theorem tX{F:aV}(hF:F=dz F){fa:Option Addr}{fc:Nat}(hq:ee Fr w fa F.qs)(hfa:sI fa)(hqc:F.qs.length≤fc){a:Option Addr}{cap:Nat}{l:List cn}(h:aK dV 8 Fr w a l)(hl:l.length≤60)(hok:∀d∈l,d.Ok∧lS d.kind=true)(hG:b9 Fr w)(hK:cy Fr w):
  aH Tryz.prog 9 [.agg (F.cells fa fc).toArray,.slice a l.length cap] Fr w [] (fun v L=>v=.tuple #[.string (bY (dp (fA (ei F) l))),.int .i64 0]∧L=[]):=by
 have hpo:=nC (C:=ei F) hok
 have hplen:=pg hpo
 rw[iS] at hplen
 refine TF 57 Tryz.func9 Z yn ah Z Z ?_
 refine CS (CG (VG (VB (vs:=F.cells fa fc) Z fun b2=>?_)))
 refine aq ?_
 refine Uo ?_
 refine VG (VV (fun Fr w hF' hw hS=>by
  have:=bm Fr w F fa fc (fY hq hF' hw) hfa hqc
  rw[ic,if_pos hF] at this
  exact this) Z ?_)
 refine Ff ?_
 refine CP (p:=(4096:Int)<l.length) Z (fun h=>absurd h yd) (fun _=>CK ?_)
 refine aq ?_
 refine VC.loop (σ:=Nat) (fun i=>[(1,.slice a l.length cap),(2,pV b2),(19,.slice a l.length cap),(20,.int .i64 l.length),(21,.int .i64 (i:Int))]) (fun _=>[pt b2 (F.cells fa fc) xm]) (fun i=>i≤l.length) (fun i=>l.length-i) 0
  (ZO _) ba ER ?_
 intro i hi
 refine aq ?_
 refine CP (p:=(i:Int)<l.length) Z (fun h1=>CK ?_) (fun h1=>CX ?_)
 ·have hil:i<l.length:=by omega
  have hx:l[i]?=some l[i]:=GE hil
  generalize l[i]=d at hx
  have hd:=hok d (ME hx)
  obtain⟨fb,fo,rfl,ra,rc⟩:=aK.rd (X:=⟨Tryz.prog,tab,ah,57,Fr,w⟩) h hx
  refine aq ?_
  refine Ry ?_
  refine H6 ?_
  refine VG (VO.alloc Z fun db=>?_)
  refine Ud ?_
  refine aq ?_
  refine R3 ?_
  refine VG (VO.buildSlice (n:=1) (pv:=[(0,.agg (dV d).toArray)]) (dV d) Z Z Z Z yp (bJ Z Z Z) fun nb=>?_)
  refine YY ?_
  refine aq ?_
  refine CC Z (fun h2=>?_) (fun h2=>CK ?_)
  ·exfalso
   rw[my] at h2
   have h2:=congrArg ByteArray.size (of_decide_eq_true h2)
   rw[aQ,ZM,List.length_singleton] at h2
   exact absurd h2 (by show ¬_=0;omega)
  refine qT ?_
  exact⟨i+1,hil,by dsimp only;omega,SC Z (SC Z (SC Z (SC Z (Sub.int Z yd (SN _))))),(IP 2 Z ae.nil).ar⟩
 refine aq ?_
 refine Uo ?_
 refine YZ ?_
 intro v L1 g
 rw[if_pos hF] at g
 obtain⟨p,rfl,rfl⟩:=g
 refine Ff ?_
 refine VG (VO.zT Z fun b hB=>?_)
 refine VO.ar (L':=[jC w.heap.size b (bY []),e8 p (ei F)]) (ae.DX hB (dF [0,0])).ar ?_
 refine aq ?_
 refine VC.loop (σ:=Nat) (fun i=>[(8,pV p),(10,pV b),(37,.slice a l.length cap),(38,.int .i64 l.length),(39,.int .i64 (i:Int))]) (fun i=>[jC w.heap.size b (bY (dp ((fA (ei F) l).take i))),e8 p (Dp F l i)]) (fun i=>i≤l.length) (fun i=>l.length-i) 0
  (ZO _) ba ER ?_
 intro i hi
 refine aq ?_
 refine CP (p:=(i:Int)<l.length) Z (fun h1=>CK ?_) (fun h1=>CX ?_)
 rotate_left
 ·obtain rfl:i=l.length:=by omega
  have e:(fA (ei F) l).take l.length=fA (ei F) l:=List.take_of_length_le (Nat.le_of_eq (iS l _))
  rw[e]
  refine aq ?_
  refine VG (VO.text Z 0 Z (d_ (E6 _ _) h_) Z ?_)
  refine aq ?_
  exact We
 have hil:i<l.length:=by omega
 have hx:l[i]?=some l[i]:=GE hil
 generalize l[i]=d at hx
 have hd:=hok d (ME hx)
 have hRC:=F9 hF (l:=l) yd i hi
 have hnx:=y_ (F:=F) hx
 have hat:(fA (ei F) l)[i]?=some (d,((Dp F l i).jM (ka d)).2):=F_ hx
 have hpn:=zd hat
 have htl:(dp ((fA (ei F) l).take i)).length≤16524*l.length:=by
  have h1:=pg (x:=(fA (ei F) l).take i) fun p hp=>hpo p (List.mem_of_mem_take hp)
  rw[Z1,iS] at h1
  exact Nat.le_trans h1 (Nat.mul_le_mul_left _ yd)
 have hp1:=hpo _ (ME hat)
 have hll:=ta hp1
 have hw:=I9 (Dp F l i) (ka d)
 generalize Dp F l i=C at hRC hnx hpn hat hw hp1 hll
 generalize dp ((fA (ei F) l).take i)=tx at hpn htl
 have hlp:fS (d,(C.jM (ka d)).2)=gp d++(sT++Lib.itoa (C.jM (ka d)).2):=rfl
 rw[hlp] at hpn hll
 simp only[ZM] at hll
 obtain⟨fb,fo,rfl,ra,rc⟩:=aK.rd (X:=⟨Tryz.prog,tab,ah,57,Fr,w⟩) h hx
 refine aq ?_
 refine Ry ?_
 refine H6 ?_
 refine VG (VO.alloc Z fun db=>?_)
 refine Ud ?_
 refine aq ?_
 refine R3 ?_
 refine VG (VO.buildSlice (n:=1) (pv:=[(0,.agg (dV d).toArray)]) (dV d) Z Z Z Z yp (bJ Z Z Z) fun nb=>?_)
 refine YY ?_
 refine VG (VV (fun Fr w hF' hw hS=>Hf Fr w (gp d) yd) Z ?_)
 refine VG (VO.write Z 2 Z (d_ (NB.pt yp) (d_ (NB.pt yp) (d_ (E6 _ _) h_))) UN Z ?_)
 rw[eU]
 refine aq ?_
 refine VG (VL 1 (dV d) Z Z Z Z ?_)
 refine VG (VQ 3 Z (fun Fr w hF' hs hS=>Dm Fr w hRC yd yd (ka d)) Z (ψ:=fun v H=>v=.int .i64 (C.jM (ka d)).2∧H=e8 p (C.jM (ka d)).1) yy ?_)
 rintro _ _ ⟨rfl,rfl⟩
 unfold lV at hw
 refine VG (VV (fun Fr w hF' hw' hS=>iw Fr w (C.jM (ka d)).2 yd yd (b9.st (X:=⟨Tryz.prog,tab,ah,57,_,_⟩) hG hF' hw').tab) Z ?_)
 refine VG (VI (bq Z Z (by rw[oY,aQ];show 3+_≤_;omega)) ?_)
 rw[oY,show(⟨#[32,61,32]⟩:ByteArray)=bY sT from rfl,eU]
 refine VG (VI (bq Z Z Xh) ?_)
 rw[jD]
 refine VG (VO.write Z 2 Z (d_ (NB.pt yp) (d_ (NB.pt yp) (d_ (E6 _ _) h_))) (by rw[aQ,aQ];simp only[ZM,List.length_singleton];omega) Z ?_)
 rw[eU]
 refine qT ?_
 refine⟨i+1,hil,by dsimp only;omega,SC Z (SC Z (SC Z (SC Z (Sub.int Z yd (SN _))))),?_⟩
 dsimp only
 rw[hnx,hpn]
 have e:tx++(gp d++(sT++Lib.itoa (C.jM (ka d)).2)) ++ [10]=tx++gp d++(sT++Lib.itoa (C.jM (ka d)).2 ++ [10]):=by simp
 rw[e]
 exact(dF [2,2]).ar
end Cl
namespace Cl
open Go Vg T Api Ch Rep Conf Lg Rd Sched LibC Scr
attribute [local irreducible] VO VC VA
def qR(F:aV)(s:List UInt8):Value:=match dR (s.length+1) s [] with
 | (true,x)=>.tuple #[.int .i64 (sY (ei F) 0 x),.int .i64 0]
 | (false,x)=>.tuple #[.int .i64 ((x.length:Int)+1),.int .i64 10]
theorem J8{C:av}{x:List (cn×Int)}{i:Nat}{d:cn}{e:Int}(h:x[i]?=some (d,e)):sY C i (x.drop i)=if (C.jM (ka d)).2=e then sY (C.jM (ka d)).1 (i+1) (x.drop (i+1)) else (i:Int)+1:=by
 have hi:=(ZP.1 h).1
 rw[List.drop_eq_getElem_cons hi,show x[i]=(d,e) from(ZP.1 h).2]
 rfl
theorem jG{F:aV}(hF:F=dz F){fa:Option Addr}{fc:Nat}(hq:ee Fr w fa F.qs)(hfa:sI fa)(hqc:F.qs.length≤fc){s:List UInt8}(hs:s.length≤900000)(hx1:(dR (s.length+1) s []).2.length≤1000)(hG:b9 Fr w)(hK:cy Fr w):
  aH Tryz.prog 11 [.agg (F.cells fa fc).toArray,.string (bY s)] Fr w [] (fun v L=>v=qR F s∧L=[]):=by
 refine TF 50 Tryz.func11 Z yn ah Z Z ?_
 refine CS (CG (VG (VB (vs:=F.cells fa fc) Z fun b2=>?_)))
 refine aq ?_
 refine Uo ?_
 refine VG (VV (fun Fr w hF' hw hS=>by
  have:=bm Fr w F fa fc (fY hq hF' hw) hfa hqc
  rw[ic,if_pos hF] at this
  exact this) Z ?_)
 refine Ff ?_
 refine VG (VK (Lc:=[]) (fun Fr w hF' hw hS=>Scr.jk Fr w s hs (b9.st (X:=⟨Tryz.prog,tab,ah,50,_,_⟩) hG hF' hw) (cy.st (X:=⟨Tryz.prog,tab,ah,50,_,_⟩) hK hF' hw)) Z Z ?_)
 rintro v L1 ⟨bb,x,hr,hv⟩
 rw[hr] at hx1
 cases bb with
 | false=>
  obtain⟨rfl,rfl⟩:v=_∧L1=[]:=hv
  refine PI ?_
  exact CR (ay.cV 4 5 Z Z Z ae.nil.ar ⟨by unfold qR;rw[hr],Z⟩)
 | true=>
 obtain⟨y,rfl,rfl⟩:∃y:Es,v=.tuple #[.slice y.a x.length y.c,.slice y.b x.length y.d,.int .i64 0,.int .i64 0]∧L1=[aI 33 8 y.a x.length y.c (flat dV (x.map Prod.fst)),aI FG 1 y.b x.length y.d (flat eC (x.map Prod.snd))]:=hv
 have hx1:x.length≤1000:=hx1
 have hfin:qR F s=.tuple #[.int .i64 (sY (ei F) 0 x),.int .i64 0]:=by unfold qR;rw[hr]
 rw[hfin]
 refine Ff ?_
 refine VG (VL 2 (F.cells fa fc) Z Z Z Z ?_)
 refine YZ ?_
 intro v L1 g
 rw[if_pos hF] at g
 obtain⟨p,rfl,rfl⟩:=g
 refine O0 ?_
 obtain⟨x1,hx1e⟩:∃x1,x1=x.map Prod.fst:=⟨_,rfl⟩
 obtain⟨x2,hx2e⟩:∃x2,x2=x.map Prod.snd:=⟨_,rfl⟩
 have hl1:x1.length=x.length:=by rw[hx1e,ZR]
 have hl2:x2.length=x.length:=by rw[hx2e,ZR]
 refine CN (L':=[aI 33 8 y.a x1.length y.c (flat dV x1),e8 p (ei F),aI FG 1 y.b x2.length y.d (flat eC x2)]) (by
  rw[hl1,hl2,hx1e,hx2e]
  exact(dF [1,0,0]).ar) ?_
 refine VC.e_ 0 Z (aW.rl 33 y.a y.c x1 rO) ?_
 rintro⟨xa,xc,xb,xcs,xs⟩ ⟨rok1,rv1,rx1⟩
 refine VC.e_ 2 Z (aW.rl FG y.b y.d x2 Ay) ?_
 rintro⟨za,zc,zb,zcs,zs⟩ ⟨rok2,rv2,rx2⟩
 dsimp only at rx1 rx2
 subst rx1 rx2
 have e1:y.a=xa∧y.c=xc:=by
  injection rv1 with q1 q2 q3
  exact⟨q1.symm,q3.symm⟩
 have e2:y.b=za∧y.d=zc:=by
  injection rv2 with q1 q2 q3
  exact⟨q1.symm,q3.symm⟩
 rw[e1.1,e1.2,e2.1,e2.2]
 refine aq ?_
 refine VC.loop (σ:=Nat×av) (fun z=>[(7,.slice za x.length zc),(8,pV p),(32,.slice xa x.length xc),(33,.int .i64 x.length),(34,.int .i64 (z.1:Int))]) (fun z=>[e8 p z.2,RL.h 33 ⟨xa,xc,xb,xcs,xs⟩,RL.h FG ⟨za,zc,zb,zcs,zs⟩]) (fun z=>z.1≤x.length∧z.2.Ok z.1 (7*z.1)∧sY (ei F) 0 x=sY z.2 z.1 (x.drop z.1)) (fun z=>x.length-z.1) (0,ei F)
  ⟨ZO _,F2 hF,rfl⟩ ba (dF [2,1,0]).ar ?_
 rintro⟨i,C⟩ ⟨hi,hC,hJ⟩
 dsimp only at hi hC hJ ⊢
 refine aq ?_
 refine CP (p:=(i:Int)<x.length) Z (fun h1=>CK ?_) (fun h1=>CX ?_)
 rotate_left
 ·obtain rfl:i=x.length:=by omega
  rw[List.drop_length] at hJ
  have hJ:sY (ei F) 0 x=0:=hJ
  rw[hJ]
  refine aq ?_
  exact We
 have hil:i<x.length:=by omega
 obtain⟨d,e,hx⟩:∃d e,x[i]?=some (d,e):=⟨_,_,GE hil⟩
 have hxd:xs[i]?=some d:=by rw[hx1e,ZS,hx];rfl
 have hxe:zs[i]?=some e:=by rw[hx2e,ZS,hx];rfl
 rw[J8 hx] at hJ
 obtain⟨tb,tof,htb,hta,hrd⟩:=RL.Ok.ld (t:=33) (k:=i) (x:=d) rok1 hxd (rO d)
 obtain⟨ub,uof,hub,hua,hre⟩:=RL.Ok.ld (t:=FG) (k:=i) (x:=e) rok2 hxe (Ay e)
 dsimp only at hta hua
 subst hta hua
 refine aq ?_
 refine Ry ?_
 refine VG (VO.load Z Z ((hrd 1 Z).1 _ Z Z) ?_)
 refine VG (VO.alloc Z fun db=>?_)
 refine aq ?_
 refine Ud ?_
 refine aq ?_
 refine CD (ts 0 2 (ts 3 4 (.only 2 (ts 7 1 .nil)))) yn yr ?_
 refine nY ?_
 refine AG (VA.ky 0 (dV d) Z Z Z Z Z ?_)
 refine nY ?_
 refine Wg ?_
 refine AG (yE Z Z Z ((hre 3 Z).2 _ 0 (.int .i64 e) Z Z) ?_)
 refine nY ?_
 refine AG (AQ 1 Z (fun Fr w hF' hs hS=>Dm Fr w hC yd yd (ka d)) Z Z (ψ:=fun v H=>v=.int .i64 (C.jM (ka d)).2∧H=e8 p (C.jM (ka d)).1) yy ?_ ?_)
 ·rintro v H' ⟨-,rfl⟩
  exact(by(try refine Pd.st ?_);(repeat(first|exact Pd.nil|exact Pd.fnil|refine Pd.inner ?_|refine Pd.skip yr ?_|refine zf (zo 0 Z Z) ?_|refine zf (zm 0 Z Z) ?_|refine zf (aE.aP ((hre 3 Z).2 _ 0 _ Z Z) Z) ?_|refine zf (((hre 3 Z).2 _ 0 _ Z Z)) ?_|refine zc (zo 0 Z Z) ?_|refine zc (zm 0 Z Z) ?_|refine zc (aE.aP ((hre 3 Z).2 _ 0 _ Z Z) Z) ?_|refine zc (((hre 3 Z).2 _ 0 _ Z Z)) ?_)))
 rintro _ _ ⟨rfl,rfl⟩
 refine nY ?_
 refine VC.bo Z (fun hne=>?_) (fun heq=>CK ?_)
 ·rw[if_neg hne] at hJ
  rw[hJ]
  refine qT ?_
  exact We
 rw[if_pos heq] at hJ
 refine qT ?_
 exact⟨(i+1,(C.jM (ka d)).1),⟨hil,(hC.jM yd yd _).mono (NR _) yd,hJ⟩,by dsimp only;omega,SC Z (SC Z (SC Z (SC Z (Sub.int Z tZ (SN _))))),(dF [1,1,1]).ar⟩
end Cl
namespace Cl
open Go Vg T Api Ch Rep Conf Lg Rd Sched LibC Scr
def zF:aV:=⟨0,0,0,[],0,0,0,0,0,0,0,0⟩
def Tu:List cn:=[⟨3,0,0,0,Scr.Gr⟩,⟨7,3,0,0,Scr.Gr⟩]
def W3:List UInt8:=[116,105,99,107,32,61,32,48,10,99,114,97,115,104,32,51,32,61,32,52,10]
theorem W4:dp (fA (ei (dz zF)) Tu)=W3:=by decide +kernel
def OH:List UInt8:=[116,105,99,107,32,61,32,49,10]
def OI:List UInt8:=[116,105,99,107]
theorem Tv:dR (OH.length+1) OH []=(true,[(⟨3,0,0,0,Scr.Gr⟩,1)]):=by decide +kernel
theorem Tw:dR (OI.length+1) OI []=(false,[]):=by decide +kernel
theorem W5:dz zF=dz (dz zF):=by decide +kernel
theorem W6:sY (ei (dz zF)) 0 [(⟨3,0,0,0,Scr.Gr⟩,1)]=1:=by decide +kernel
theorem J9:∀d∈Tu,d.Ok∧lS d.kind=true:=fun d hd=>by
 have i0:Scr.pA 0:=by unfold Scr.pA;decide
 have i3:Scr.pA 3:=by unfold Scr.pA;decide
 have i7:Scr.pA 7:=by unfold Scr.pA;decide
 have z:(cJ:ByteArray).size≤1000:=by decide
 simp only[Tu,ZV,List.not_mem_nil,or_false] at hd
 rcases hd with rfl | rfl
 ·exact⟨⟨i3,i0,i0,i0,i0,i0,z,z⟩,Z⟩
 ·exact⟨⟨i7,i3,i0,i0,i0,i0,z,z⟩,Z⟩
theorem tf{F:aV}{l:List cn}(hok:∀d∈l,d.Ok∧lS d.kind=true):dR ((dp (fA (ei F) l)).length+1) (dp (fA (ei F) l)) []=(true,(fA (ei F) l).map fun p=>(eG p.1,p.2)):=sW (nC hok)
theorem J_{F:aV}{l:List cn}(hok:∀d∈l,d.Ok∧lS d.kind=true):(dR ((dp (fA (ei F) l)).length+1) (dp (fA (ei F) l)) []).2.length=l.length:=by
 rw[tf hok,ZR,iS]
theorem J'{F:aV}{l:List cn}(hok:∀d∈l,d.Ok∧lS d.kind=true):qR F (dp (fA (ei F) l))=.tuple #[.int .i64 0,.int .i64 0]:=by
 unfold qR
 rw[tf hok]
 dsimp only
 rw[Co l (ei F) 0 fun d hd=>(hok d hd).2]
theorem OJ{F:aV}{l:List cn}(hok:∀d∈l,d.Ok∧lS d.kind=true):(dp (fA (ei F) l)).length≤16524*l.length:=by
 have:=pg (nC (C:=ei F) hok)
 rwa[iS] at this
attribute [local irreducible] VO VC VA
theorem E7(hG:b9 Fr w)(hK:cy Fr w):aH Tryz.prog 6 [] Fr w [] (fun v L=>v=.bool true∧L=[]):=by
 have e0:=W4
 have e3:=W5
 have e4:=W6
 refine TF 66 Tryz.func6 Z yn ah Z Z ?_
 refine aq ?_
 refine VG (VI (LB (pv:=[]) (zF.cells none 0) Z Z Z Z Z) ?_)
 refine VG (VK (Lc:=[]) (fun Fr w _ _ _=>xK Fr w zF none 0 ⟨fun h=>absurd Z h⟩) Z Z ?_)
 rintro _ _ ⟨fa,fc,hfa,hfc,rfl,rfl⟩
 generalize dz zF=F at e0 e3 e4 hfc
 refine VG (VO.alloc Z fun b1=>?_)
 refine VG (VT (vs:=F.cells fa fc) (cs':=F.cells fa fc) 0 Z Z Z Z (NR _) Z Z Z ?_)
 refine aq ?_
 refine Uo ?_
 refine VG (VI (LB (pv:=[(0,.int .i64 3)]) (dV ⟨3,0,0,0,Scr.Gr⟩) Z Z Z yn Z) ?_)
 refine VG (VI (LB (pv:=[(0,.int .i64 7),(1,.int .i64 3)]) (dV ⟨7,3,0,0,Scr.Gr⟩) Z Z Z yn Z) ?_)
 refine VG (VO.buildSlice (n:=2) (pv:=[(0,.agg (dV ⟨3,0,0,0,Scr.Gr⟩).toArray),(1,.agg (dV ⟨7,3,0,0,Scr.Gr⟩).toArray)]) (flat dV Tu) Z Z Z Z yp yn fun sb=>?_)
 refine VG (VV (fun Fr w hF' hw hS=>by
  have h1:aK dV 8 Fr w (some ⟨sb,0,none⟩) Tu:=aK.aP (hS.aP 0 rfl) fun i x hx=>by
   rw[ZQ]
   have:=fG rO hx []
   rwa[ZN] at this
  have h2:=tX Fr w e3 (iL (hS.at_ 2 rfl)) hfa hfc (cap:=2) h1 yp J9 (b9.st (X:=⟨Tryz.prog,tab,ah,66,_,_⟩) hG hF' hw) (cy.st (X:=⟨Tryz.prog,tab,ah,66,_,_⟩) hK hF' hw)
  rw[e0] at h2
  exact h2) Z ?_)
 refine Wj ?_
 refine aq ?_
 refine VG (VV (fun Fr w hF' hw hS=>by
  have h2:=jG Fr w e3 (iL (hS.at_ 2 rfl)) hfa hfc (s:=W3) yp (by rw[←e0,J_ J9];decide) (b9.st (X:=⟨Tryz.prog,tab,ah,66,_,_⟩) hG hF' hw) (cy.st (X:=⟨Tryz.prog,tab,ah,66,_,_⟩) hK hF' hw)
  have h3:qR F W3=.tuple #[.int .i64 0,.int .i64 0]:=by rw[←e0];exact J' J9
  rw[h3] at h2
  exact h2) Z ?_)
 refine Wj ?_
 refine VG (VV (fun Fr w hF' hw hS=>by
  have h2:=jG Fr w e3 (iL (hS.at_ 2 rfl)) hfa hfc (s:=OH) yp (by rw[Tv];decide) (b9.st (X:=⟨Tryz.prog,tab,ah,66,_,_⟩) hG hF' hw) (cy.st (X:=⟨Tryz.prog,tab,ah,66,_,_⟩) hK hF' hw)
  have h3:qR F OH=.tuple #[.int .i64 1,.int .i64 0]:=by
   unfold qR
   rw[Tv]
   dsimp only
   rw[e4]
  rw[h3] at h2
  exact h2) Z ?_)
 refine Wj ?_
 refine VG (VV (fun Fr w hF' hw hS=>by
  have h2:=jG Fr w e3 (iL (hS.at_ 2 rfl)) hfa hfc (s:=OI) yp (by rw[Tw];decide) (b9.st (X:=⟨Tryz.prog,tab,ah,66,_,_⟩) hG hF' hw) (cy.st (X:=⟨Tryz.prog,tab,ah,66,_,_⟩) hK hF' hw)
  have h3:qR F OI=.tuple #[.int .i64 1,.int .i64 10]:=by
   unfold qR
   rw[Tw]
   rfl
  rw[h3] at h2
  exact h2) Z ?_)
 refine aq ?_
 refine VG (VY 38 true Z (by rw[my];exact DT Z) ?_)
 refine aJ ?_
 refine VG (VY 42 true Z Z ?_)
 refine aJ ?_
 refine VG (VY 46 true Z Z ?_)
 refine aJ ?_
 refine VG (VY 50 true Z Z ?_)
 refine aJ ?_
 refine VG (VY 54 true Z Z ?_)
 refine aJ ?_
 refine VG (VY 58 true Z Z ?_)
 refine aJ ?_
 refine VG (VY 62 true Z Z ?_)
 refine aJ ?_
 exact CR (ay.tmp 0 Z Z ae.nil.ar ⟨rfl,Z⟩)
end Cl
namespace Cl
open Go Vg T Api Ch Rep Conf Lg Rd Sched
def ph(l:List gn)(iN:Int):Bool:=l.any (fun s=>decide (200<s.op.key.size)||decide (200<s.op.value.size))||decide (iN<l.length)
attribute [local irreducible] VO VC VA
theorem E8{a:Option Addr}{cap:Nat}{l:List gn}(h:aK gn.cells 8 Fr w a l)(hl:l.length≤9223372036854775807)(iN:Int):aH Tryz.prog 5 [.slice a l.length cap,.int .i64 iN] Fr w [] (fun v L=>v=.bool (ph l iN)∧L=[]):=by
 refine TF 34 Tryz.func5 Z yn ah Z Z ?_
 refine aq ?_
 refine VC.loop (σ:=Nat) (fun k=>[(0,.slice a l.length cap),(1,.int .i64 iN),(5,.int .i64 (k:Int))]) (fun _=>[]) (fun k=>k≤l.length∧(l.take k).any (fun s=>decide (200<s.op.key.size)||decide (200<s.op.value.size))=false) (fun k=>l.length-k) 0
  ⟨ZO _,rfl⟩ ba ER ?_
 rintro k ⟨hk,hno⟩
 refine aq ?_
 refine CP (p:=(k:Int)<l.length) Z (fun h1=>CK ?_) (fun h1=>CX ?_)
 rotate_left
 ·obtain rfl:k=l.length:=by omega
  rw[Z'] at hno
  refine aq ?_
  exact CR (ay.bool 4 Z Z (by unfold ph;rw[hno,Bool.false_or]) ER ⟨rfl,Z⟩)
 have hkl:k<l.length:=by omega
 have hx:l[k]?=some l[k]:=GE hkl
 generalize l[k]=s at hx
 obtain⟨xb,xo,rfl,ra,rc⟩:=aK.rd (X:=⟨Tryz.prog,tab,ah,34,Fr,w⟩) h hx
 have hnx:(l.take (k+1)).any (fun s=>decide (200<s.op.key.size)||decide (200<s.op.value.size))=(decide (200<s.op.key.size)||decide (200<s.op.value.size)):=by
  rw[ZZ,hx,List.any_append,hno];simp
 have hall:(decide (200<s.op.key.size)||decide (200<s.op.value.size))=true→ph l iN=true:=fun g=>by
  unfold ph
  rw[List.any_eq_true.2 ⟨s,ME hx,g⟩];rfl
 refine aq ?_
 refine V_ ?_
 refine aq ?_
 refine VG (VO.load Z Z (rc _ _ 5 (.string s.op.key) Z Z) ?_)
 refine aq ?_
 by_cases k1:200<s.op.key.size
 ·refine VG (VY 20 true Z (DT yd) ?_)
  refine Ia ?_
  exact CR (ay.tmp 4 Z Z ER ⟨by rw[hall (by simp[k1])],Z⟩)
 refine VG (VY 20 false Z (DF yd) ?_)
 refine aq ?_
 refine V_ ?_
 refine aq ?_
 refine VG (VO.load Z Z (rc _ _ 6 (.string s.op.value) Z Z) ?_)
 refine aq ?_
 refine CP (p:=(200:Int)<s.op.value.size) Z (fun k2=>?_) (fun k2=>CK ?_)
 ·refine aq ?_
  exact CR (ay.tmp 4 Z Z ER ⟨by rw[hall ye],Z⟩)
 refine qT ?_
 exact⟨k+1,⟨by omega,by rw[hnx];simp;omega⟩,by dsimp only;omega,SC Z (SC Z (Sub.int Z yd (SN _))),ER⟩
end Cl
namespace Cl
open Go Vg T Api Ch Rep Conf Lg Rd Sched LibC Scr
attribute [local irreducible] VO VC VA
theorem HQ(d:cn):vA d d=lS d.kind:=by
 unfold vA
 cases hk:lS d.kind with
 | false=>rfl
 | true=>
  simp only[beq_self_eq_true,Bool.and_self,Bool.true_and,List.all_eq_true]
  intro c _
  unfold vz
  repeat' split
  all_goals simp[G9]
def lD(l:List cn):List cn:=l.filter fun d=>lS d.kind
theorem E9{l:List cn}{i:Nat}{d:cn}(h:l[i]?=some d):lD (l.take (i+1))=lD (l.take i)++(if lS d.kind then [d] else []):=by
 unfold lD
 rw[ZZ,h,List.filter_append]
 cases hk:lS d.kind<;>simp[hk]
theorem ZK{Fr:Nat→Prop}{w:World}{a:Option Addr}{l:List cn}(h:aK dV 8 Fr w a l):aK gn.cells 8 Fr w a (l.map ka):=⟨fun hne=>by
 obtain⟨b,off,h1,h2,h3⟩:=h.at_ fun e=>hne RS
 refine⟨b,off,h1,h2,fun i x hx=>?_⟩
 rw[ZS] at hx
 cases hd:l[i]? with
 | none=>rw[hd] at hx;cases hx
 | some d=>rw[hd] at hx;cases hx;exact h3 i d hd⟩
theorem Dq{a:Option Addr}{cap:Nat}{l:List cn}(h:aK dV 8 Fr w a l)(hl:l.length≤9223372036854775807)(iN:Int):
  aH Tryz.prog 5 [.slice a l.length cap,.int .i64 iN] Fr w [] (fun v L=>v=.bool (ph (l.map ka) iN)∧L=[]):=by
 have:=E8 (cap:=cap) Fr w (ZK h) (by rw[ZR];exact hl) iN
 rwa[ZR] at this
theorem zg{l:List cn}{n:Int}(h:ph (l.map ka) n=false):(l.length:Int)≤n∧∀d∈l,d.op.key.size≤200∧d.op.value.size≤200:=by
 unfold ph at h
 simp only[Bool.or_eq_false_iff,decide_eq_false_iff_not,ZR] at h
 refine⟨by omega,fun d hd=>?_⟩
 have:=List.any_eq_false.1 h.1 (ka d) (Z0.2 ⟨d,hd,rfl⟩)
 simp only[Bool.or_eq_true,decide_eq_true_eq,not_or] at this
 exact⟨by have:=this.1;show d.op.key.size≤_;simp only[ka] at this;omega,by have:=this.2;show d.op.value.size≤_;simp only[ka] at this;omega⟩
structure Dr(d:cn):Prop where
 kind:Scr.pA d.kind
 a:Scr.pA d.a
 b:Scr.pA d.b
 c:Scr.pA d.c
 Ky:Scr.pA d.op.kind
 Pe:Scr.pA d.op.version
theorem Ka{l:List cn}(hI:∀d∈l,Dr d){n:Int}(h:ph (l.map ka) n=false):∀d∈lD l,d.Ok∧lS d.kind=true:=fun d hd=>by
 obtain⟨h1,h2⟩:=Z6.1 hd
 obtain⟨i1,i2,i3,i4,i5,i6⟩:=hI d h1
 have hg:=(zg h).2 d h1
 exact⟨⟨i1,i2,i3,i4,i5,i6,by omega,by omega⟩,h2⟩
theorem zh(l:List cn):(lD l).length≤l.length:=List.length_filter_le _ _
theorem OK(u r:List UInt8):(Scr.bY (u++r)).extract 0 u.length=Scr.bY u:=ByteArray.ext (by simp[Scr.bY])
theorem OL(u r:List UInt8):(Scr.bY (u++r)).extract u.length (u++r).length=Scr.bY r:=ByteArray.ext (by simp[Scr.bY])
end Cl
namespace Cl
open Go Vg T Api Ch Rep Conf Lg Rd Sched LibC Scr
def tY:ByteArray:=⟨#[48,49,50,51,52,53,54,55,56,57]⟩
def Rh(n:Nat):ByteArray:=if n<10 then tY.extract (n % 10) (n % 10+1) else tY.extract (n / 10 % 10) (n / 10 % 10+1)++tY.extract (n % 10) (n % 10+1)
theorem OM:∀n,n<100→Rh n=Scr.bY (Lib.itoa (n:Int)):=by decide +kernel
def A9(e b:Int):Int:=(e+1+b % 98) % 99
theorem Ga{e b:Int}(h0:0≤e)(h1:e≤99)(h2:0≤b):A9 e b≠e∧0≤A9 e b∧A9 e b≤98:=by unfold A9;omega
def gL(A:List (cn×Int))(k:Nat)(b:Int):List (cn×Int):=match A[k]? with
 | some p=>A.set k (p.1,A9 p.2 b)
 | none=>A
theorem kO(A:List (cn×Int))(k:Nat)(b:Int):(gL A k b).length=A.length:=by
 unfold gL
 split
 ·rw[Z4]
 ·rfl
theorem Gb{A:List (cn×Int)}{k:Nat}{b:Int}{i:Nat}{p:cn×Int}(h:A[i]?=some p):(gL A k b)[i]?=some (p.1,if i=k then A9 p.2 b else p.2):=by
 unfold gL
 by_cases e:i=k
 ·subst e
  rw[h]
  dsimp only
  rw[Z9 (ZP.1 h).1,if_pos rfl]
 ·split
  ·rw[List.getElem?_set_ne (fun g=>e g.symm),h,if_neg e]
  ·rw[h,if_neg e]
theorem A_{A:List (cn×Int)}{k:Nat}{b:Int}(hb:0≤b)(h:∀p∈A,Scr.kJ p):∀p∈gL A k b,Scr.kJ p:=fun p hp=>by
 obtain⟨i,hi,rfl⟩:=List.getElem_of_mem hp
 rw[kO] at hi
 have e:=Gb (k:=k) (b:=b) (GE hi)
 have e2:(gL A k b)[i]=(A[i].1,if i=k then A9 A[i].2 b else A[i].2):=by
  have:=(ZP.1 e)
  exact this.2
 rw[e2]
 obtain⟨g1,g2,g3,g4⟩:=h A[i] (List.getElem_mem hi)
 have g5:=Ga (b:=b) g3 g4 hb
 refine⟨g1,g2,?_,?_⟩
 ·dsimp only;split
  ·exact g5.2.1
  ·exact g3
 ·dsimp only;split
  ·omega
  ·exact g4
theorem Kb{F:aV}{l:List cn}{k:Nat}{b:Int}(hb:0≤b)(hk:k<l.length)(hok:∀d∈l,d.Ok∧lS d.kind=true):qR F (dp (gL (fA (ei F) l) k b))=.tuple #[.int .i64 ((k:Int)+1),.int .i64 0]:=by
 have ha:=nC (C:=ei F) hok
 have hl:=iS l (ei F)
 unfold qR
 rw[sW (A_ hb ha)]
 dsimp only
 have hx:(fA (ei F) l)[k]?=some (fA (ei F) l)[k]:=GE yd
 have hp:=ha _ (ME hx)
 generalize (fA (ei F) l)[k]=p at hx hp
 unfold gL
 rw[hx]
 dsimp only
 rw[yB hx (fun d hd=>(hok d hd).2) (Ga hp.n0 hp.n1 hb).1,ZQ]
theorem Kc{F:aV}{l:List cn}{k:Nat}{b:Int}(hb:0≤b)(hk:k<l.length)(hok:∀d∈l,d.Ok∧lS d.kind=true):
  ∃r,dp (gL (fA (ei F) l) k b)=dp ((gL (fA (ei F) l) k b).take k)++r ∧
   (∃x,dR ((dp ((gL (fA (ei F) l) k b).take k)++63::r).length+1) (dp ((gL (fA (ei F) l) k b).take k)++63::r) []=(false,x)∧x.length=k):=by
 have ha:=A_ (k:=k) hb (nC (C:=ei F) hok)
 have hl:(gL (fA (ei F) l) k b).length=l.length:=by rw[kO,iS]
 generalize gL (fA (ei F) l) k b=A at ha hl
 have hx:A[k]?=some A[k]:=GE yd
 have hp:=ha _ (ME hx)
 have hd:A.drop k=A[k]::A.drop (k+1):=List.drop_eq_getElem_cons yd
 generalize A[k]=p at hx hp hd
 refine⟨dp (A.drop k),(Ha A k).symm,?_⟩
 have e:dp (A.drop k)=fS p++10::dp (A.drop (k+1)):=by
  rw[hd]
  show fS p ++ [10]++dp _=_
  simp
 rw[e]
 exact⟨_,He (fun q hq=>ha q (List.mem_of_mem_take hq)) hp (NR _),by rw[ZR,Z1];omega⟩
attribute [local irreducible] VO VC VA
theorem E_{X:Cx}{e:Env}{t:TypeId}{z x y:Operand}{s:ByteArray}{tt:TI}{i j:Int}{k k':IntKind}(hz:ev e z=some (.string s))(hx:ev e x=some (.int k i))(hy:ev e y=some (.int k' j))(hT:aL X.tab t=some tt)(hu:tt.aU=.string)
  (h0:0≤i) (h1:i≤j) (h2:j≤s.size):cY X (.slice t z (some x) (some y) none) e (.string (s.extract i.toNat j.toNat)):=by
 intro a ha dst ty pos after guard w
 have hund:=hU (X.ok.look hT) hu
 have h:=run_slice_string (P:=X.P) (w:=w) t s k k' i j hund h0 h1 h2
 simp only[execOp,ha.ev hz,ha.ev hx,ha.ev hy,Option.map]
 rw[Sem.run_bind,run_sliceAt_string w t _ _ _ _ hund]
 show((Instr.slice t (.string s) (some (.int k i)) (some (.int k' j)) none).run X.P w).andThen _=_
 rw[h];rfl
theorem xn(n:Nat)(hn:n<100):aH Tryz.prog 13 [.int .i64 n] Fr w [] (fun v L=>v=.string (Scr.bY (Lib.itoa n))∧L=[]):=by
 have e0:=OM n hn
 refine TF 23 Tryz.func13 Z yn ah Z Z ?_
 refine aq ?_
 refine Rs ?_
 refine aq ?_
 refine Rs ?_
 refine Gd ?_
 refine Y0 ?_
 rw[show tY.extract ((n:Int) % 10).toNat ((n:Int) % 10+1).toNat=tY.extract (n % 10) (n % 10+1) by
  rw[show((n:Int) % 10).toNat=n % 10 by omega,show((n:Int) % 10+1).toNat=n % 10+1 by omega]]
 refine aq ?_
 refine CP (p:=(n:Int)<10) Z (fun h1=>?_) (fun h1=>CK ?_)
 ·rw[Rh,if_pos yd] at e0
  refine aq ?_
  exact CR (ay.tmp 2 Z Z ER ⟨by rw[e0],Z⟩)
 rw[Rh,if_neg yd] at e0
 refine aq ?_
 refine VG (VI (xz ((n / 10:Nat):Int) Z Z yd yp Xm) ?_)
 refine Rs ?_
 refine aq ?_
 refine VG (VI (xz ((n / 10:Nat):Int) Z Z yd yp Xm) ?_)
 refine Rs ?_
 refine Gd ?_
 refine Y0 ?_
 rw[show tY.extract (((n / 10:Nat):Int) % 10).toNat (((n / 10:Nat):Int) % 10+1).toNat=tY.extract (n / 10 % 10) (n / 10 % 10+1) by
  rw[show(((n / 10:Nat):Int) % 10).toNat=n / 10 % 10 by omega,show(((n / 10:Nat):Int) % 10+1).toNat=n / 10 % 10+1 by omega]]
 refine aq ?_
 refine VG (VI (bq Z Z (by rw[ByteArray.size_extract,ByteArray.size_extract];omega)) ?_)
 rw[e0]
 refine aq ?_
 exact Dz
end Cl
namespace Cl
open Go Vg T Api Ch Rep Conf Lg Rd Sched LibC Scr
attribute [local irreducible] VO VC VA
abbrev UH:TypeId:=43
def Tx(x y:Int):List Value:=[.int .u8 x,.int .u8 y]
def KC(A:List (cn×Int))(k i:Nat):Nat:=if i≤k then 0 else (dp (A.take k)).length
theorem Ds(c:aV)(ca:Option Addr)(cc:Nat)(hq:ee Fr w ca c.qs)(hcc:c.qs.length≤cc){la:Option Addr}{lc:Nat}{l:List cn}(hr:aK dV 8 Fr w la l)(hll:l.length≤9223372036854775807)(hI:∀d∈l,Dr d)(x y:Int)(hx0:0≤x)(hx1:x≤255)(hy0:0≤y)(hy1:y≤255)(hG:b9 Fr w)(hK:cy Fr w):
  aH Tryz.prog 4 [.agg (c.cells ca cc).toArray,.slice la l.length lc,.agg #[.int .u8 x,.int .u8 y]] Fr w [] (fun v L=>v=.bool true∧L=[]):=by
 have fin:∀{L:List HP},jq ⟨Tryz.prog,tab,ah,182,Fr,w⟩ L []:=ae.nil.ar
 refine TF 182 Tryz.func4 Z yn ah Z Z ?_
 refine CS (CG (VG (VB (vs:=c.cells ca cc) Z fun b3=>VG (VB (vs:=Tx x y) Z fun b5=>?_))))
 refine jd ?_
 by_cases h20:(20:Int)<c.qs.length
 ·refine VG (VY 29 true Z (DT h20) ?_)
  refine Ia ?_
  refine Up ?_
  refine aq ?_
  exact Uq
 refine VG (VY 29 false Z (DF h20) ?_)
 refine aq ?_
 refine VG (VV (fun Fr w hF' hw hS=>Dq Fr w (hr.of hF' hw) hll 30) Z ?_)
 refine aq ?_
 refine CC Z (fun hg=>?_) (fun hg=>CK ?_)
 ·refine aq ?_
  refine Up ?_
  refine aq ?_
  exact Uq
 have hl40:(l.length:Int)≤30:=(zg hg).1
 have hok:=Ka hI hg
 refine aq ?_
 refine VG (VL 1 (c.cells ca cc) Z Z Z Z ?_)
 refine VG (VK (Lc:=[]) (fun Fr w hF' hw hS=>xK Fr w c ca cc (fY hq hF' hw)) Z Z ?_)
 rintro _ _ ⟨fa,fc,hfa,hfc,rfl,rfl⟩
 have hF:=Adm.IW c
 generalize dz c=F at hF hfc
 have hcb:=cP hF
 refine VG (VT (vs:=F.cells fa fc) (cs':=F.cells fa fc) 2 Z Z Z Z (NR _) Z Z Z ?_)
 refine aq ?_
 refine VC.loop (σ:=Nat×Option Addr×Nat) (fun z=>[(1,.slice la l.length lc),(3,pV b3),(5,pV b5),(8,.string ⟨#[]⟩),(9,.int .i64 0),(10,.slice z.2.1 (lD (l.take z.1)).length z.2.2),(11,.int .i64 (z.1:Int))]) (fun z=>[lL fa fc F.qs,pt b5 (Tx x y) UH,pt b3 (F.cells fa fc) xm,aI 33 8 z.2.1 (lD (l.take z.1)).length z.2.2 (flat dV (lD (l.take z.1)))]) (fun z=>z.1≤l.length) (fun z=>l.length-z.1) (0,none,0)
  (ZO _) ba (IP 0 rfl (IP 0 rfl (IP 0 rfl (ae.bZ ae.nil)))).ar ?_
 rintro⟨i,ma,mc⟩ hi
 dsimp only at hi ⊢
 refine aq ?_
 refine CP (p:=(i:Int)<l.length) Z (fun h1=>CK ?_) (fun h1=>CX ?_)
 ·have hil:i<l.length:=by omega
  have hx:l[i]?=some l[i]:=GE hil
  generalize l[i]=d at hx
  have hnx:=E9 hx
  have hkl:(lD (l.take i)).length≤30:=Nat.le_trans (zh _) TC
  generalize lD (l.take i)=m at hnx hkl
  obtain⟨fb,fo,rfl,ra,rc⟩:=aK.rd (X:=⟨Tryz.prog,tab,ah,182,Fr,w⟩) hr hx
  refine aq ?_
  refine CD (ts 0 8 (.only 8 .nil)) yn yr ?_
  refine nY ?_
  refine Wg ?_
  refine AG (yE Z Z Z (ra _ _ Z Z) ?_)
  refine nY ?_
  refine Wg ?_
  refine AG (yE Z Z Z (ra _ _ Z Z) ?_)
  refine AG (AR (fun Fr w hF' hw hS=>G5 Fr w d d (cy.st (X:=⟨Tryz.prog,tab,ah,182,_,_⟩) hK hF' hw)) Z Z (by(try refine Pd.st ?_);(repeat(first|exact Pd.nil|exact Pd.fnil|refine Pd.inner ?_|refine Pd.skip yr ?_|refine zf (aE.aP (ra _ _ Z Z) Z) ?_|refine zf ((ra _ _ Z Z)) ?_|refine zc (aE.aP (ra _ _ Z Z) Z) ?_|refine zc ((ra _ _ Z Z)) ?_))) ?_)
  refine nY ?_
  rw[HQ]
  cases hk:lS d.kind with
  | false=>
   rw[hk,if_neg yp,ZN] at hnx
   refine sk ?_
   refine qT ?_
   refine⟨(i+1,ma,mc),hil,by dsimp only;omega,?_,?_⟩
   ·dsimp only
    rw[hnx]
    exact SC Z (SC Z (SC Z (SC Z (SC Z (SC Z (Sub.int Z yd (SN _)))))))
   ·dsimp only
    rw[hnx]
    exact ER
  | true=>
   rw[hk,if_pos rfl] at hnx
   refine RF ?_
   refine Ry ?_
   refine H6 ?_
   refine VG (VO.buildSlice (n:=1) (pv:=[(0,.agg (dV d).toArray)]) (dV d) Z Z Z Z yp (bJ Z Z Z) fun nb=>?_)
   refine VG (VO.append (m:=1) (news:=dV d) 4 Z Z Z Z Z Z Z (dt.pt 0 Z Z Z) Z (ko (k:=100) yd yp) yd fun a2 c2 hc2=>?_)
   refine qT ?_
   have hL:(m ++ [d]).length=m.length+1:=by simp
   have hFl:flat dV (m ++ [d])=flat dV m++dV d:=by simp[bf,bO,fg]
   refine⟨(i+1,a2,c2),hil,by dsimp only;omega,?_,?_⟩
   ·dsimp only
    rw[hnx,hL]
    exact SC Z (SC Z (SC Z (SC Z (SC Z (SC Z (Sub.int Z yd (SN _)))))))
   ·dsimp only
    rw[hnx,hL,hFl]
    exact(dF [2,2,2,0]).ar
 obtain rfl:i=l.length:=by omega
 rw[Z']
 have hml:(lD l).length≤30:=Nat.le_trans (zh _) yd
 generalize lD l=m at hok hml
 clear hg hI hr hll hi h1
 refine aq ?_
 refine CE Z (fun h0=>?_) (fun h0=>CK ?_)
 ·refine aq ?_
  refine Up ?_
  refine aq ?_
  exact Uq
 have hm0:0<m.length:=by omega
 obtain⟨k,hke⟩:∃k:Nat,(k:Int)=x % (m.length:Int):=⟨(x % (m.length:Int)).toNat,Int.toNat_of_nonneg (Int.emod_nonneg _ yd)⟩
 have hkm:k<m.length:=by
  have:=Int.emod_lt_of_pos x (show(0:Int)<(m.length:Int) by omega)
  omega
 obtain⟨S,hSe⟩:∃S,S=dp (fA (ei F) m):=⟨_,rfl⟩
 have hS1:S.length≤900000:=by
  have:=OJ (F:=F) hok
  rw[←hSe] at this
  omega
 refine aq ?_
 refine VG (VI (bG 0 Z Z Z Z Z Z yp) ?_)
 refine jd ?_
 refine VG (VI (dN x Z Z Z Z Z (i64_in _ yd yd)) ?_)
 refine aq ?_
 refine VG (VI (lY Z Z hx0 yd) ?_)
 rw[←hke]
 refine aq ?_
 refine VO.e_ 3 Z (aW.rl 33 ma mc m rO) ?_
 rintro⟨xa,xc,xb,xcs,xs⟩ ⟨rok,rv,rx⟩
 dsimp only at rx
 have hxs:m=xs:=rx.symm
 injection rv with e1 e2 e3
 subst e1 e3
 subst hxs
 refine VG (VL 3 (F.cells fa fc) Z Z Z Z ?_)
 refine aq ?_
 refine VG (VV (fun Fr w hF' hw hS=>by
  have h2:=tX (cap:=xc) Fr w hF (iL (hS.at_ 1 rfl)) hfa hfc (aK.rl (hS.at_ 0 rfl) rok) yd hok (b9.st (X:=⟨Tryz.prog,tab,ah,182,_,_⟩) hG hF' hw) (cy.st (X:=⟨Tryz.prog,tab,ah,182,_,_⟩) hK hF' hw)
  rw[←hSe] at h2
  exact h2) Z ?_)
 refine aq ?_
 refine VG (VK (Lc:=[]) (fun Fr w hF' hw hS=>Scr.jk Fr w S hS1 (b9.st (X:=⟨Tryz.prog,tab,ah,182,_,_⟩) hG hF' hw) (cy.st (X:=⟨Tryz.prog,tab,ah,182,_,_⟩) hK hF' hw)) Z Z ?_)
 rintro v L1 ⟨bb,z,hr,hv⟩
 have hrb:=tf (F:=F) hok
 rw[←hSe,hr] at hrb
 obtain⟨rfl,hze⟩:=Prod.mk.inj hrb
 rw[if_pos rfl] at hv
 have hpo:=nC (C:=ei F) hok
 have hAl:=iS m (ei F)
 have hAf:=Cn m (ei F)
 have hrp:=Kb (F:=F) hy0 hkm hok
 have hbd:=Kc (F:=F) hy0 hkm hok
 generalize fA (ei F) m=A at hSe hze hpo hAl hAf hrp hbd
 have hAok:=A_ (k:=k) hy0 hpo
 have hRl:=fun i=>pg (x:=(gL A k y).take i) fun p hp=>hAok p (List.mem_of_mem_take hp)
 have hzl:z.length=m.length:=by rw[hze,ZR,hAl]
 have hz2:z.map Prod.snd=A.map Prod.snd:=by rw[hze,List.map_map];rfl
 have hz1:z.map Prod.fst=m.map eG:=by
  rw[hze,List.map_map,←hAf,List.map_map];rfl
 rw[hzl,hz1,hz2] at hv
 obtain⟨y2,rfl,rfl⟩:=hv
 refine aq ?_
 refine VG (VY 83 false Z Z ?_)
 refine aJ ?_
 refine VG (VY 87 false Z Z ?_)
 refine aJ ?_
 refine VC.bo Z (fun h=>absurd Z h) (fun _=>CK ?_)
 refine CN (L':=[aI FG 1 y2.b (A.map Prod.snd).length y2.d (flat eC (A.map Prod.snd)),pt b5 (Tx x y) UH,pt b3 (F.cells fa fc) xm,lL fa fc F.qs,RL.h 33 ⟨xa,xc,xb,xcs,m⟩]) (by
  rw[ZR,hAl]
  exact(dF [1,3,3,2,1]).ar) ?_
 refine VC.e_ 0 Z (aW.rl FG y2.b y2.d (A.map Prod.snd) Ay) ?_
 rintro⟨ea,ec,eb,ecs,es⟩ ⟨zok,zv,zx⟩
 dsimp only at zx
 have e2:y2.b=ea∧y2.d=ec:=by
  injection zv with q1 q2 q3
  exact⟨q1.symm,q3.symm⟩
 rw[e2.1,e2.2]
 have hesl:es.length=m.length:=by rw[zx,ZR,hAl]
 refine aq ?_
 refine VC.loop (σ:=Nat) (fun i=>[(3,pV b3),(5,pV b5),(8,.string (Scr.bY (dp ((gL A k y).take i)))),(9,.int .i64 (KC (gL A k y) k i:Nat)),(10,.slice xa m.length xc),(12,.int .i64 (k:Int)),(15,.slice ea m.length ec),(18,.int .i64 (i:Int))]) (fun i=>[RL.h FG ⟨ea,ec,eb,ecs,es⟩,pt b5 (Tx x y) UH,pt b3 (F.cells fa fc) xm,lL fa fc F.qs,RL.h 33 ⟨xa,xc,xb,xcs,m⟩]) (fun i=>i≤m.length) (fun i=>m.length-i) 0
  (ZO _) (SC rfl (SC rfl (SC rfl (SC (by rw[KC,if_pos (ZO _)];rfl) ba)))) ER ?_
 intro i hi
 refine aq ?_
 refine CP (p:=(i:Int)<m.length) Z (fun h1=>CK ?_) (fun h1=>CX ?_)
 ·have hil:i<m.length:=by omega
  have hx:m[i]?=some m[i]:=GE hil
  generalize m[i]=d at hx
  have hd:=hok d (ME hx)
  obtain⟨e,hA⟩:∃e,A[i]?=some (d,e):=by
   have h1:A[i]?=some A[i]:=GE yd
   refine⟨A[i].2,?_⟩
   have h2:(A.map Prod.fst)[i]?=some A[i].1:=by rw[ZS,h1];rfl
   rw[hAf,hx] at h2
   rw[h1,Z3 h2]
  have hA2:=Gb (k:=k) (b:=y) hA
  dsimp only at hA2
  have hp1:=hpo _ (ME hA)
  have hp2:=hAok _ (ME hA2)
  obtain⟨_,_,n0,n1⟩:=hp1
  have hll:=ta hp2
  obtain⟨_,_,n2,n3⟩:=hp2
  dsimp only at n0 n1 n2 n3
  have hnx:=zd hA2
  have hRi:=hRl i
  rw[Z1,kO,hAl] at hRi
  have hRi:(dp ((gL A k y).take i)).length≤16524*30:=Nat.le_trans hRi (Nat.mul_le_mul_left _ yd)
  have hes:es[i]?=some e:=by rw[zx,ZS,hA];rfl
  obtain⟨tb,tof,htb,hta,hrd⟩:=RL.Ok.ld (t:=33) (k:=i) (x:=d) rok hx (rO d)
  obtain⟨ub,uof,hub,hua,hre⟩:=RL.Ok.ld (t:=FG) (k:=i) (x:=e) zok hes (Ay _)
  dsimp only at hta hua
  subst hta hua
  refine aq ?_
  refine Ry ?_
  refine VG (VO.load Z Z ((hre 0 Z).2 _ 0 (.int .i64 e) Z Z) ?_)
  refine aq ?_
  refine VC.cq (σ:=Unit) (fun _=>[(3,pV b3),(5,pV b5),(8,.string (Scr.bY (dp ((gL A k y).take i)))),(9,.int .i64 (KC (gL A k y) k (i+1):Nat)),(10,.slice (some ⟨tb,tof,none⟩) m.length xc),(12,.int .i64 (k:Int)),(15,.slice (some ⟨ub,uof,none⟩) m.length ec),(18,.int .i64 (i:Int)),(19,.int .i64 (if i=k then A9 e y else e))]) (fun _=>[RL.h FG ⟨some ⟨ub,uof,none⟩,ec,eb,ecs,es⟩,pt b5 (Tx x y) UH,pt b3 (F.cells fa fc) xm,lL fa fc F.qs,RL.h 33 ⟨some ⟨tb,tof,none⟩,xc,xb,xcs,m⟩]) (fun _=>True) ?_ ?_
  ·refine CE Z (fun hik=>?_) (fun hik=>CK ?_)
   ·have hik:i=k:=by omega
    have hat:KC (gL A k y) k (i+1)=(dp ((gL A k y).take i)).length:=by rw[KC,if_neg yd,hik]
    rw[if_pos hik,hat]
    refine qT ?_
    refine VG (VI (bG 1 Z Z Z Z Z Z yp) ?_)
    refine jd ?_
    refine VG (VI (dN y Z Z Z Z Z (i64_in _ yd yd)) ?_)
    refine VG (VI (lY Z Z hy0 yp) ?_)
    refine Gd ?_
    refine Rs ?_
    refine aq ?_
    exact⟨(),trivial,SC Z (SC Z (SC Z (SC (by rw[←aQ];rfl) ba))),ER⟩
   ·have hik:i≠k:=by omega
    have hat:KC (gL A k y) k (i+1)=KC (gL A k y) k i:=by
     unfold KC
     by_cases h:i≤k
     ·rw[if_pos h,if_pos yd]
     ·rw[if_neg h,if_neg yd]
    rw[if_neg hik,hat]
    exact⟨(),trivial,ba,ER⟩
  rintro - -
  generalize (if i=k then A9 e y else e)=n' at hnx n2 n3 hll
  obtain⟨n,rfl⟩:∃n:Nat,n'=(n:Int):=⟨n'.toNat,by omega⟩
  have hlp:fS (d,(n:Int))=gp d++(sT++Lib.itoa n):=rfl
  rw[hlp] at hnx hll
  simp only[ZM] at hll
  generalize dp ((gL A k y).take i)=tx at hnx hRi
  refine aq ?_
  refine Ry ?_
  refine VG (VO.load Z Z ((hrd 4 Z).1 _ Z Z) ?_)
  refine VG (VO.buildSlice (n:=1) (pv:=[(0,.agg (dV d).toArray)]) (dV d) Z Z Z Z yp (bJ Z Z Z) fun nb=>?_)
  refine VG (VV (fun Fr w hF' hw hS=>ze Fr w hS d 0 Z hd.1 hd.2 (b9.st (X:=⟨Tryz.prog,tab,ah,182,_,_⟩) hG hF' hw) (cy.st (X:=⟨Tryz.prog,tab,ah,182,_,_⟩) hK hF' hw)) Z ?_)
  have hsz:(Scr.bY (gp d ++ [10])).size=(gp d).length+1:=by rw[aQ];simp
  refine aq ?_
  refine VG (VY 126 false Z (beq_eq_false_iff_ne.2 KE) ?_)
  refine aJ ?_
  refine CP (p:=(n:Int)<0) Z (fun h=>absurd h yd) (fun _=>CK ?_)
  refine aq ?_
  refine CD (ts 0 9 (.only 9 (ts 10 3 .nil))) yn yr ?_
  refine nY ?_
  refine AG (VA.zp Z Z Z KE KE ?_)
  refine AG (AI Z (qG Z Z Z Z KE KE) ?_)
  rw[show(Scr.bY (gp d ++ [10])).extract 0 (((Scr.bY (gp d ++ [10])).size:Int)-1).toNat=Scr.bY (gp d) by rw[hsz,show(((gp d).length+1:Nat):Int)-1=((gp d).length:Nat) by omega,ZU];exact yC _]
  refine AG (AI Z (bq Z Z UN) ?_)
  rw[eU]
  refine AG (AI Z (bq Z Z (by rw[aQ,ZM];show _+3≤_;omega)) ?_)
  rw[show(⟨#[32,61,32]⟩:ByteArray)=Scr.bY sT from rfl,eU]
  refine nY ?_
  refine AG (AR (fun Fr w hF' hw hS=>xn Fr w n yd) Z Z yu ?_)
  refine AG (AI Z (bq Z Z (by rw[aQ,aQ];simp only[ZM];show _+3+_≤_;omega)) ?_)
  rw[eU]
  refine AG (AI Z (bq Z Z (by rw[aQ];simp only[ZM];show _+3+_+1≤_;omega)) ?_)
  rw[jD]
  refine nY ?_
  refine qT ?_
  refine⟨i+1,hil,by dsimp only;omega,?_,(dF [1,1,1,1,1]).ar⟩
  dsimp only
  rw[hnx]
  exact SC Z (SC Z (SC (by simp only[ZX];rfl) (SC Z (SC Z (SC Z (SC Z (Sub.int Z yd (SN _))))))))
 obtain rfl:i=m.length:=by omega
 have hat:KC (gL A k y) k m.length=(dp ((gL A k y).take k)).length:=by rw[KC,if_neg yd]
 rw[hat,List.take_of_length_le (show(gL A k y).length≤m.length by rw[kO];omega)]
 obtain⟨r,hbe,zz,hb1,hb2⟩:=hbd
 have hTl:=hRl m.length
 rw[List.take_of_length_le (show(gL A k y).length≤m.length by rw[kO];omega),kO,hAl] at hTl
 have hTl:(dp (gL A k y)).length≤16524*30:=Nat.le_trans hTl (Nat.mul_le_mul_left _ yd)
 have hrd1:(dR ((dp (gL A k y)).length+1) (dp (gL A k y)) []).2.length≤1000:=by
  rw[sW hAok]
  dsimp only
  rw[ZR,kO];omega
 generalize dp ((gL A k y).take k)=P at hbe hb1
 generalize dp (gL A k y)=T at hbe hrp hTl hrd1
 have hsl:T.length=P.length+r.length:=by rw[hbe,ZM]
 refine aq ?_
 refine VG (VL 2 (F.cells fa fc) Z Z Z Z ?_)
 refine aq ?_
 refine VG (VV (fun Fr w hF' hw hS=>by
  have h2:=jG Fr w hF (iL (hS.at_ 3 rfl)) hfa hfc (s:=T) yd hrd1 (b9.st (X:=⟨Tryz.prog,tab,ah,182,_,_⟩) hG hF' hw) (cy.st (X:=⟨Tryz.prog,tab,ah,182,_,_⟩) hK hF' hw)
  rw[hrp] at h2
  exact h2) Z ?_)
 refine aq ?_
 refine CD (ts 0 9 (.only 9 (ts 10 5 .nil))) yn yr ?_
 refine AG (VA.ky 2 (F.cells fa fc) Z Z Z Z Z ?_)
 refine nY ?_
 refine AG (AI Z (qG Z Z Z Z yd Pw) ?_)
 rw[ZU,show(Scr.bY T).extract 0 P.length=Scr.bY P by rw[hbe];exact OK _ _]
 refine AG (AI Z (bq Z Z Xr) ?_)
 rw[show(⟨#[63]⟩:ByteArray)=Scr.bY [63] from rfl,eU]
 refine nY ?_
 refine AG (AI Z (vJ Z Z Z Z yd Pw) ?_)
 rw[ZU,show(Scr.bY T).extract P.length (Scr.bY T).size=Scr.bY r by rw[aQ,hbe];exact OL _ _]
 refine AG (AI Z (bq Z Z (by rw[aQ,aQ,ZM];show _+1+_≤_;omega)) ?_)
 rw[eU,show P ++ [63]++r=P++63::r by simp]
 refine AG (AR (fun Fr w hF' hw hS=>by
  have h2:=jG Fr w hF (iL (hS.at_ 3 rfl)) hfa hfc (s:=P++63::r) (by rw[ZM,ZW];omega) (by rw[hb1];dsimp only;omega) (b9.st (X:=⟨Tryz.prog,tab,ah,182,_,_⟩) hG hF' hw) (cy.st (X:=⟨Tryz.prog,tab,ah,182,_,_⟩) hK hF' hw)
  have h3:qR F (P++63::r)=.tuple #[.int .i64 ((k:Int)+1),.int .i64 10]:=by
   unfold qR
   rw[hb1]
   dsimp only
   rw[hb2]
  rw[h3] at h2
  exact h2) Z Z yu ?_)
 refine nY ?_
 refine Rz ?_
 refine aJ ?_
 refine VG (VY 165 true Z yf ?_)
 refine aJ ?_
 refine VG (VY 169 true Z Z ?_)
 refine aJ ?_
 refine Gd ?_
 refine aJ ?_
 refine VG (VY 175 true Z yf ?_)
 refine aJ ?_
 refine VG (VY 179 true Z Z ?_)
 refine aJ ?_
 refine Up ?_
 refine aJ ?_
 exact Uq
end Cl
namespace Vg
open Go Go.ChangeShapes Go.WideShapes Go.ChangeAt Go.RowKit
theorem qf{H:Type}{enc:TypeId×Value→H}{P:Program}(hl:laidOutB P=true){W W':World}(hb:Below W.heap.size W W'):
  ∀{ts:List TypeId} {vs:List Value} {ds:List (DataW H)} {ps:List MemPlace},(∀t∈ts,P.readableRec t=true∧t<P.types.size) →
   DataW.TrodAll enc P W 0 (fun _=>true) true ts vs ds ps→DataW.TrodAll enc P W' 0 (fun b=>decide (b<W.heap.size)) true ts vs ds ps
 | [],vs,ds,ps,_,h=>by
  obtain⟨rfl,rfl,rfl⟩:=trodAll_nil h
  exact trodAll_mk0
 | t::ts,vs,ds,ps,ht,h=>by
  obtain⟨v,vs',d,ds',p,q,rfl,rfl,rfl,h0,r0⟩:=trodAll_cons h
  have lt0:∀x∈p,x.block<W.heap.size:=by obtain⟨m,hm⟩:=h0;exact DataW.trod_lt m _ _ _ hm
  have h1:=ht t yf
  exact trodAll_cons_mk (Below.trod hl h1.1 h1.2 h0 hb lt0) (qf hl hb (fun t h=>ht t ya) r0)
theorem pj{H:Type}{enc:TypeId×Value→H}{P:Program}{W:World}{b:Nat}{sp:Nat→Bool}{hd:Bool}:
  ∀{ts:List TypeId} {vs:List Value} {ds:List (DataW H)} {ps:List MemPlace},DataW.TrodAll enc P W b sp hd ts vs ds ps→ds.length=ts.length
 | [],vs,ds,ps,h=>by
  obtain⟨rfl,rfl,rfl⟩:=trodAll_nil h
  rfl
 | t::ts,vs,ds,ps,h=>by
  obtain⟨v,vs',d,ds',p,q,rfl,rfl,rfl,h0,r0⟩:=trodAll_cons h
  simp[pj r0]
theorem Kd{H:Type}{enc:TypeId×Value→H}{P:Program}{f:Func}{s:ChangeSpec}(hl:laidOutB P=true)(hts:∀t∈f.params.toList,P.readableRec t=true∧t<P.types.size)
  (hv:s.vars=[]) {tb:TypeId} (hres:f.resultTypes=#[tb]) (hbool:P.underlying tb=some .bool)
  (hfn:∀ds:List (DataW H),ds.length=f.params.toList.length→s.fn H (ds ++ [])={ results:=[.lit (.bool true)],args:=ds })
  {W W':World} {args:Array Value} {ds gs:List (DataW H)} {before:List MemPlace} (hW:DataW.Whole enc P f.params.toList s.vars false W args.toList ds gs before) (bel:Below W.heap.size W W'):
  s.post enc P f false true false false W args (.bool true) W':=by
 have hW':=hW
 obtain⟨p,q,hA,hV,rfl,_,_⟩:=hW
 rw[hv] at hV
 obtain⟨rfl,rfl⟩:=trodVars_none hV
 have e:=hfn ds (pj hA)
 refine⟨ds,[],p ++ [],[],p,[],hW',?_,?_,?_,bel.frame _,fun h=>by cases h⟩
 ·rw[e,hres];exact trodAll_mk1 (shut_bool hbool _)
 ·rw[e];exact qf hl bel hts hA
 ·rw[e,hv];rfl
end Vg
namespace Vg
open Go Go.ChangeShapes Go.WideShapes Go.ChangeAt Go.RowKit
theorem zi{k:IntKind}:∀{n:Nat} (l:List Value),l.length=n→(∀i,i<n→∃z,l[i]?=some (.int k z)∧(Lit.int k z).wf=true)→∃zs:List Int,l=zs.map (fun z=>Value.int k z)∧zs.length=n∧∀z∈zs,(Lit.int k z).wf=true
 | 0,l,h,_=>⟨[],List.eq_nil_of_length_eq_zero h,rfl,fun z hz=>by cases hz⟩
 | n+1,[],h,_=>by simp at h
 | n+1,a::l,h,hk=>by
  obtain⟨z,h1,h2⟩:=hk 0 yd
  obtain rfl:a=.int k z:=Z3 h1
  obtain⟨zs,e1,e2,e3⟩:=zi (n:=n) l yc (fun i hi=>by
   obtain⟨z',h3,h4⟩:=hk (i+1) yd
   exact⟨z',by simpa using h3,h4⟩)
  refine⟨z::zs,by rw[e1];rfl,by simp[e2],fun y hy=>?_⟩
  rcases ZV.1 hy with rfl | hy
  ·exact h2
  ·exact e3 y hy
section
variable {H:Type} {enc:TypeId×Value→H} {P:Program} {w:World} {base:Nat} {spare:Nat→Bool} {held:Bool}
theorem xp{r:Reach}{b0 n:Nat}{t e:TypeId}{k:IntKind}{v:Value}{d:DataW H}{ps:List MemPlace}(ht:P.underlying t=some (.array n e))(he:P.underlying e=some (.int k))(hc:P.cellsOf t=n)(hce:P.cellsOf e=1)
  (hval:Value.okWide P w r b0 t v) (hd:DataW.Trod enc P w base spare held t v d ps):
  ∃zs:List Int,v=.agg (zs.map fun z=>Value.int k z).toArray∧zs.length=n∧∀z∈zs,(Lit.int k z).wf=true:=by
 have h1:∃cs,v=.agg cs∧cs.size=P.cellsOf t:=by
  unfold Value.okWide at hval
  rw[ht] at hval
  obtain⟨cs,h1,h2,_⟩:=hval
  exact⟨cs,h1,h2⟩
 obtain⟨cs,rfl,hs⟩:=h1
 obtain⟨fuel,hf⟩:=hd
 obtain⟨xs,m,_,_,hlen,hxs,hall⟩:=DataW.trod_array ht hf
 rw[hce] at hall
 rw[hc] at hlen
 have hcs:(Value.cells (.agg cs)).toList=cs.toList:=rfl
 rw[hcs] at hlen hall
 have key:∀i,i<n→∃z,cs.toList[i]?=some (.int k z)∧(Lit.int k z).wf=true:=by
  intro i hi
  have h:=hall i hi
  rw[GE (show i<xs.length by omega)] at h
  obtain⟨z,h2,_,h3⟩:=DataW.trod_int he h
  refine⟨z,?_,h3⟩
  have:=congrArg (fun l:List Value=>l[0]?) h2
  simpa[List.getElem?_take,List.getElem?_drop] using this
 obtain⟨zs,h1,h2,h3⟩:=zi cs.toList hlen key
 exact⟨zs,by rw[←h1],h2,h3⟩
end
end Vg
end Go.Proofs.YthnlpdacbcjgpaaGreatDoor
