/- Texts of the proof, put together and shortened. No condition. -/
import Derived.Test.YthnlpdacbcjgpaaGreatDoorZg0
set_option maxRecDepth 100000
set_option maxHeartbeats 16000000
set_option linter.unusedVariables false
set_option linter.unusedSectionVars false
set_option linter.unusedSimpArgs false
namespace Go.Proofs.YthnlpdacbcjgpaaGreatDoor
variable (Fr : Nat → Prop) (w : World)
namespace Vg
open Go
abbrev Env:=List (Nat×Value)
def look:Env→Nat→Option Value
 | [],_=>none
 | (s,v)::r,t=>bif Nat.beq s t then some v else look r t
def ev(e:Env):Operand→Option Value
 | .tmp t=>look e t
 | .const v=>some v
 | .global g=>some (.pointer (some ⟨g,0,none⟩))
 | .func f=>some (.func (.func f) #[] #[])
def lE(e:Env):List Operand→Option (List Value)
 | []=>some []
 | x::r=>match ev e x,lE e r with
  | some v,some vs=>some (v::vs)
  | _,_=>none
structure kq(n:Nat)(a:Act)(e:Env):Prop where
 size:a.tmps.size=n
 defers:a.defers=[]
 at_:∀t v,look e t=some v→a.tmps.getD t undef=v
theorem kq.put{n:Nat}{a:Act}{e:Env}(h:kq n a e){d:Nat}(hd:Nat.blt d n=true)(v:Value):kq n (a.put (some d) v) ((d,v)::e):=by
 have hd':d<a.tmps.size:=by rw[h.size];exact Nat.blt_eq.mp hd
 refine⟨by simp[Act.put,h.size],by simp[Act.put,h.defers],fun t u ht=>?_⟩
 simp only[look] at ht
 cases hb:Nat.beq d t
 ·rw[hb] at ht
  have hne:d≠t:=Nat.ne_of_beq_eq_false hb
  have:=h.at_ t u ht
  simpa[Act.put,Array.getElem?_setIfInBounds_ne hne] using this
 ·rw[hb] at ht
  have he:d=t:=Nat.eq_of_beq_eq_true hb
  subst he
  simp only[cond_true,Option.some.injEq] at ht
  subst ht
  simp[Act.put,hd']
def cE(dst:Option Tmp)(v:Value)(e:Env):Env:=
 match dst with
 | some d=>(d,v)::e
 | none=>e
def bB(n:Nat):Option Tmp→Bool
 | some d=>Nat.blt d n
 | none=>true
theorem kq.cE{n:Nat}{a:Act}{e:Env}(h:kq n a e){dst:Option Tmp}(hd:bB n dst=true)(v:Value):kq n (a.put dst v) (cE dst v e):=by
 cases dst with
 | none=>exact h
 | some d=>exact h.put hd v
def Sub(e' e:Env):Prop:=∀t v,look e' t=some v→look e t=some v
theorem Sub.nil(e:Env):Sub [] e:=fun _ _ h=>by cases h
theorem Sub.cons{e' e:Env}{t:Nat}{v:Value}(h:look e t=some v)(hs:Sub e' e):Sub ((t,v)::e') e:=fun s u hu=>by
 simp only[look] at hu
 cases hb:Nat.beq t s
 ·rw[hb] at hu;exact hs s u hu
 ·rw[hb] at hu
  have he:t=s:=Nat.eq_of_beq_eq_true hb
  subst he
  simp only[cond_true,Option.some.injEq] at hu
  subst hu;exact h
theorem ba{e' e:Env}(h:Sub e' e:=by(repeat(first|exact Sub.nil _|refine Sub.cons rfl ?_))):Sub e' e:=h
theorem Sub.int{e' e:Env}{t:Nat}{k:IntKind}{a b:Int}(h:look e t=some (.int k a))(hab:a=b)(hs:Sub e' e):Sub ((t,.int k b)::e') e:=by
 subst hab;exact Sub.cons h hs
theorem kq.sub{n:Nat}{a:Act}{e e':Env}(h:kq n a e)(hs:Sub e' e):kq n a e':=⟨h.size,h.defers,fun t v ht=>h.at_ t v (hs t v ht)⟩
theorem kq.ev{n:Nat}{a:Act}{e:Env}(h:kq n a e){x:Operand}{v:Value}(hx:ev e x=some v):a.eval x=v:=by
 cases x with
 | tmp t=>exact h.at_ t v hx
 | const u=>simpa[Vg.ev,Act.eval] using hx
 | global g=>simpa[Vg.ev,Act.eval] using hx
 | func f=>simpa[Vg.ev,Act.eval] using hx
theorem kq.lE{n:Nat}{a:Act}{e:Env}(h:kq n a e):∀{xs:List Operand} {vs:List Value},lE e xs=some vs→xs.map a.eval=vs
 | [],vs,hx=>by simpa[Vg.lE] using hx
 | x::r,vs,hx=>by
  simp only[Vg.lE] at hx
  split at hx
  ·rename_i v us hv hus
   simp only[Option.some.injEq] at hx
   subst hx
   simp[h.ev hv,kq.lE h hus]
  ·cases hx
structure HP where
 sat:List Nat→World→Prop
 loc:∀ids w w',(∀b∈ids,w'.heap[b]?=w.heap[b]?)→sat ids w→sat ids w'
def dM:List HP→List Nat→World→Prop
 | [],F,_=>F=[]
 | H::L,F,w=>∃i G,F=i++G∧H.sat i w∧dM L G w
theorem dM.loc:∀{L:List HP} {F:List Nat} {w w':World},(∀b∈F,w'.heap[b]?=w.heap[b]?)→dM L F w→dM L F w'
 | [],_,_,_,_,h=>h
 | H::L,F,w,w',hb,⟨i,G,hF,hi,hG⟩=>by
  subst hF
  exact⟨i,G,Z,H.loc i w w' (fun b hb'=>hb b (by simp[hb'])) hi,dM.loc (fun b hb'=>hb b (by simp[hb'])) hG⟩
theorem dM.append:∀{L M:List HP} {F:List Nat} {w:World},dM (L++M) F w↔∃G K,F=G++K∧dM L G w∧dM M K w
 | [],M,F,w=>by
  constructor
  ·intro h;exact⟨[],F,rfl,rfl,h⟩
  ·rintro⟨G,K,rfl,hG,hK⟩;cases hG;exact hK
 | H::L,M,F,w=>by
  simp only[List.cons_append,dM]
  constructor
  ·rintro⟨i,G,rfl,hi,hG⟩
   obtain⟨G1,K,rfl,h1,h2⟩:=dM.append.1 hG
   exact⟨i++G1,K,by simp,⟨i,G1,Z,hi,h1⟩,h2⟩
  ·rintro⟨_,K,rfl,⟨i,G,rfl,hi,hG⟩,hK⟩
   exact⟨i,G++K,by simp,hi,dM.append.2 ⟨G,K,Z,hG,hK⟩⟩
theorem dM.perm{L M:List HP}(hp:L.Perm M):∀{F:List Nat} {w:World},dM L F w→∃G,F.Perm G∧dM M G w:=by
 induction hp with
 | nil=>intro F w h;exact⟨F,.refl _,h⟩
 | cons x _ ih=>
  rintro F w ⟨i,G,rfl,hi,hG⟩
  obtain⟨K,hK,hs⟩:=ih hG
  exact⟨i++K,hK.append_left i,i,K,Z,hi,hs⟩
 | swap x y l=>
  rintro F w ⟨i,G,rfl,hi,j,K,rfl,hj,hK⟩
  refine⟨j++(i++K),?_,j,i++K,Z,hj,i,K,Z,hi,hK⟩
  rw[←ZX,←ZX]
  exact List.Perm.append_right K List.perm_append_comm
 | trans _ _ ih1 ih2=>
  intro F w h
  obtain⟨G,hG,h1⟩:=ih1 h
  obtain⟨K,hK,h2⟩:=ih2 h1
  exact⟨K,hG.trans hK,h2⟩
def Sat(Fr:Nat→Prop)(L:List HP)(w:World):Prop:=∃F,dM L F w∧F.Nodup∧∀b∈F,¬Fr b∧b<w.heap.size
theorem Sat.perm{Fr:Nat→Prop}{L M:List HP}{w:World}(hp:L.Perm M)(h:Sat Fr L w):Sat Fr M w:=by
 obtain⟨F,hs,hn,hb⟩:=h
 obtain⟨G,hG,hs'⟩:=hs.perm hp
 exact⟨G,hs',hG.nodup_iff.1 hn,fun b h=>hb b (hG.mem_iff.2 h)⟩
theorem Sat.nil{Fr:Nat→Prop}{w:World}:Sat Fr [] w:=⟨[],rfl,.nil,fun _ h=>by cases h⟩
theorem Sat.tail{Fr:Nat→Prop}{H:HP}{L:List HP}{w:World}(h:Sat Fr (H::L) w):Sat Fr L w:=by
 obtain⟨F,⟨i,G,rfl,_,hG⟩,hn,hb⟩:=h
 exact⟨G,hG,(Z8.1 hn).2.1,fun b h=>hb b ya⟩
abbrev wJ(_ _:World):Prop:=(0:Nat)≤0
theorem wJ.up{w w':World}(_:w.drawn≤w'.drawn):wJ w w':=NR 0
theorem wJ.any{w w':World}:wJ w w':=NR 0
structure dH(Fr:Nat→Prop)(w w':World):Prop where
 os:w'.os=w.os
 tape:w'.tape=w.tape
 output:w'.output=w.output
 size:w.heap.size≤w'.heap.size
 block:∀b,Fr b→w'.heap[b]?=w.heap[b]?
 drawn:wJ w w'
theorem dH.refl:dH Fr w w:=⟨rfl,rfl,rfl,NR _,fun _ _=>rfl,NR _⟩
theorem dH.trans{Fr:Nat→Prop}{a b c:World}(h:dH Fr a b)(k:dH Fr b c):dH Fr a c:=
 ⟨k.os.trans h.os,k.tape.trans h.tape,k.output.trans h.output,Nat.le_trans h.size k.size,fun b hb=>(k.block b hb).trans (h.block b hb),Nat.le_trans h.drawn k.drawn⟩
theorem dH.mono{Fr Fr':Nat→Prop}{a b:World}(h:dH Fr' a b)(hf:∀x,Fr x→Fr' x):dH Fr a b:=⟨h.os,h.tape,h.output,h.size,fun x hx=>h.block x (hf x hx),h.drawn⟩
theorem dH.drew:dH Fr w { w with drawn:=w.drawn+1 }:=⟨rfl,rfl,rfl,NR _,fun _ _=>rfl,wJ.up (Nat.le_succ _)⟩
theorem dH.alloc{Fr:Nat→Prop}{w:World}(hf:∀b,Fr b→b<w.heap.size)(o:Obj):dH Fr w (w.alloc o):=
 ⟨rfl,rfl,rfl,by simp,fun b hb=>heap_alloc_old w o (h:=hf b hb),NR _⟩
theorem dH.below{w w':World}(h:dH (fun b=>b<w.heap.size) w w'):RowKit.Below w.heap.size w w':=⟨h.os,h.tape,h.output,h.size,h.block⟩
theorem Sat.heap{Fr:Nat→Prop}{L:List HP}{w w':World}(hh:w'.heap=w.heap)(h:Sat Fr L w):Sat Fr L w':=by
 obtain⟨F,hs,hn,hb⟩:=h
 exact⟨F,hs.loc (fun b _=>by rw[hh]),hn,fun b h=>by rw[hh];exact hb b h⟩
theorem Sat.alloc{Fr:Nat→Prop}{L:List HP}{w:World}(hf:∀b,Fr b→b<w.heap.size)(o:Obj)(H:HP)(hH:H.sat [w.heap.size] (w.alloc o))(h:Sat Fr L w):Sat Fr (H::L) (w.alloc o):=by
 obtain⟨F,hs,hn,hb⟩:=h
 refine⟨[w.heap.size]++F,⟨_,F,Z,hH,hs.loc fun b hb'=>heap_alloc_old w o (h:=(hb b hb').2)⟩,?_,?_⟩
 ·rw[Z8]
  refine⟨by simp,hn,fun x hx y hy he=>?_⟩
  simp at hx;subst hx;subst he
  exact Nat.lt_irrefl _ (hb _ hy).2
 ·intro b hb'
  simp only[ZY,Z7] at hb'
  rcases hb' with rfl | hb'
  ·exact⟨fun h=>Nat.lt_irrefl _ (hf _ h),by simp⟩
  ·exact⟨(hb b hb').1,by have:=(hb b hb').2;simp;omega⟩
def pt(b:Nat)(cs:List Value)(t:TypeId):HP:=
 ⟨fun ids w=>ids=[b]∧w.heap[b]?=some (.cells cs.toArray t (0,0)),fun _ _ _ h hs=>⟨hs.1,(h b yb).trans hs.2⟩⟩
def gu(φ:Prop):HP:=⟨fun ids _=>ids=[]∧φ,fun _ _ _ _ h=>h⟩
def hex{α:Type}(f:α→HP):HP:=⟨fun ids w=>∃x,(f x).sat ids w,fun ids w w' hb ⟨x,hx⟩=>⟨x,(f x).loc ids w w' hb hx⟩⟩
def cU(L:List HP):HP:=⟨fun ids w=>dM L ids w,fun _ _ _ hb h=>h.loc hb⟩
inductive Uy where
 | int (k:IntKind) | bool | string | ptr (e:Nat) | slice (e:Nat) | array (len e:Nat) | struct (fs:List (Nat×Nat)) | other
structure TI where
 aU:Uy
 size:Nat
 bytes:Nat
 zero:Value
 zs:List Value:=[zero]
def Uy.agg:Uy→Bool
 | .array _ _=>true
 | .struct _=>true
 | _=>false
def kW(P:Program)(t:Nat):Option Uy:=
 match P.underlying t with
 | some (.int k)=>some (.int k)
 | some .bool=>some .bool
 | some .string=>some .string
 | some (.pointer e)=>some (.ptr e)
 | some (.slice e)=>some (.slice e)
 | some (.array n e)=>some (.array n e)
 | some (.struct fs)=>some (.struct (fs.toList.map fun f=>(f.offset,((P.info? f.type).map (·.size)).getD 0)))
 | some _=>some .other
 | none=>none
structure az(P:Program)(t:Nat)(ti:TI):Prop where
 aU:kW P t=some ti.aU
 info:(P.info? t).map (fun i=>(i.size,i.bytes,i.zero))=some (ti.size,ti.bytes,some ti.zero)
 zero:ti.zero.cells=ti.zs.toArray
 len:ti.zs.length=ti.size
abbrev DB:=List (Nat×TI)
def nM(P:Program)(tab:DB):Prop:=∀p∈tab,az P p.1 p.2
def aL:DB→Nat→Option TI
 | [],_=>none
 | (s,v)::r,t=>bif Nat.beq s t then some v else aL r t
theorem nM.look{P:Program}:∀{tab:DB},nM P tab→∀{t:Nat} {ti:TI},aL tab t=some ti→az P t ti
 | [],_,_,_,h=>by cases h
 | (s,v)::r,ok,t,ti,h=>by
  simp only[aL] at h
  cases hb:Nat.beq s t
  ·rw[hb] at h;exact nM.look (tab:=r) (fun p hp=>ok p (List.mem_cons_of_mem _ hp)) h
  ·rw[hb] at h
   have he:s=t:=Nat.eq_of_beq_eq_true hb
   subst he
   simp only[cond_true,Option.some.injEq] at h
   subst h
   exact ok _ (List.mem_cons_self ..)
structure Cx where
 P:Program
 tab:DB
 ok:nM P tab
 n:Nat
 Fr:Nat→Prop
 w0:World
structure St(X:Cx)(L:List HP)(w:World):Prop where
 sat:Sat X.Fr L w
 cK:dH X.Fr X.w0 w
 low:∀b,X.Fr b→b<X.w0.heap.size
theorem St.nZ{X:Cx}{L:List HP}{w:World}(h:St X L w):∀b,X.Fr b→b<w.heap.size:=fun b hb=>Nat.lt_of_lt_of_le (h.low b hb) h.cK.size
theorem St.heap{X:Cx}{L:List HP}{w w':World}(h:St X L w)(hh:w'.heap=w.heap)(ho:w'.os=w.os)(ht:w'.tape=w.tape)(hu:w'.output=w.output)(hd:wJ w w'):St X L w':=
 ⟨h.sat.heap hh,⟨ho.trans h.cK.os,ht.trans h.cK.tape,hu.trans h.cK.output,by rw[hh];exact h.cK.size,fun b hb=>by rw[hh];exact h.cK.block b hb,Nat.le_trans h.cK.drawn hd⟩,h.low⟩
theorem St.drew{X:Cx}{L:List HP}{w:World}(h:St X L w):St X L { w with drawn:=w.drawn+1 }:=h.heap rfl rfl rfl rfl (wJ.up (Nat.le_succ _))
def jq(X:Cx)(L M:List HP):Prop:=∀w,St X L w→St X M w
abbrev GS:=List (Nat×Bool)
def oh:GS→Nat→Option Bool
 | [],_=>none
 | (s,v)::r,t=>bif Nat.beq s t then some v else oh r t
def Fg(G:GS)(a:Act):Prop:=∀t b,oh G t=some b→a.tmps[t]?=some (.bool b)
def bt(G:GS):Option Tmp→Bool
 | none=>true
 | some d=>match oh G d with
  | none=>true
  | some _=>false
theorem Fg.nil(a:Act):Fg [] a:=fun _ _ h=>by cases h
theorem Fg.put{G:GS}{a:Act}(h:Fg G a){dst:Option Tmp}(hf:bt G dst=true)(v:Value):Fg G (a.put dst v):=fun t b ht=>by
 cases dst with
 | none=>exact h t b ht
 | some d=>
  have hne:d≠t:=fun he=>by subst he;simp[bt,ht] at hf
  simp only[Act.put]
  rw[Array.getElem?_setIfInBounds_ne hne]
  exact h t b ht
def gB:Bool→Bool→Bool
 | true,true=>true
 | false,false=>true
 | _,_=>false
def gT(ops:Array Oper)(G:GS):Option (Nat×Bool)→Option Bool
 | none=>some true
 | some (j,want)=>match ops.toList[j]? with
  | some oj=>match oj.dst with
   | some d=>match oh G d with
    | some b=>some (gB b want)
    | none=>none
   | none=>none
  | none=>none
theorem eO{ops:Array Oper}{G:GS}{a:Act}{o:Oper}{b:Bool}(hG:Fg G a)(h:gT ops G o.guard=some b):Region.wanted o (yielded ops a.tmps)=b:=by
 unfold Region.wanted
 cases hg:o.guard with
 | none=>rw[hg] at h;simpa[gT] using h
 | some jw=>
  obtain⟨j,want⟩:=jw
  rw[hg] at h
  simp only[gT] at h
  cases hj:ops.toList[j]? with
  | none=>rw[hj] at h;cases h
  | some oj=>
   rw[hj] at h
   cases hd:oj.dst with
   | none=>simp[hd] at h
   | some d=>
    simp only[hd] at h
    cases hl:oh G d with
    | none=>rw[hl] at h;cases h
    | some c=>
     rw[hl] at h
     have hy:yielded ops a.tmps j=some c:=by
      unfold yielded
      have hj':ops[j]?=some oj:=by simpa using hj
      simp[hj',hd,hG d c hl]
     simp only[hy]
     cases c<;>cases want<;>simp_all[gB]
def wR(ro:Option Nat):Fence:={ Fence.wide with round:=ro }
def VC(X:Cx)(c:Code)(e:Env)(L:List HP)(Q:Exit→Env→List HP→Prop):Prop:=
 ∀ro a w,kq X.n a e→St X L w→c.wpIn (wR ro) 0 X.P (fun x a' w'=>∃e' L',kq X.n a' e'∧St X L' w'∧Q x e' L') a w
def VO(X:Cx)(ops:Array Oper)(G:GS)(l:List Oper)(e:Env)(L:List HP)(K:Env→List HP→Prop):Prop:=
 ∀(Q':Exit→Act→World→Prop),(∀e' L' a' w',kq X.n a' e'→St X L' w'→K e' L'→Q' .normal a' w') →
  ∀ro a w,kq X.n a e→Fg G a→St X L w→wpListIn (wR ro) 0 X.P ops Q' l a w
def dW(P:Program)(f:FuncId):Prop:=∃fn,P.funcs[f]?=some fn∧fn.body.isNone=false∧(fn.name == "runtime.NumGoroutine")=false
structure aH(P:Program)(f:FuncId)(args:List Value)(Fr:Nat→Prop)(w:World)(L:List HP)(R:Value→List HP→Prop):Prop where
 om:dW P f
 calls:(∀b,Fr b→b<w.heap.size)→Sat Fr L w→Calls P f args.toArray w fun e w'=>∃v L',e=.returned v∧R v L'∧Sat Fr L' w'∧dH Fr w w'
def a8(X:Cx)(op:Op)(e:Env)(L:List HP)(M:Value→List HP→Prop):Prop:=
 ∀a w,kq X.n a e→St X L w→∀dst ty pos after guard,
  (∃v w' L',(execOp a.eval ⟨dst,op,ty,pos,after,guard⟩).run X.P w=.ok (.value v) w'∧M v L'∧St X L' w') ∨
  (∃w' L',(execOp a.eval ⟨dst,op,ty,pos,after,guard⟩).run X.P w=.ok .skip w'∧M undef L'∧St X L' w') ∨
  (∃f args,(execOp a.eval ⟨dst,op,ty,pos,after,guard⟩).run X.P w=.ok (.enter f args) w ∧
   Calls X.P f args w fun en w'=>∃v L',en=.returned v∧M v L'∧St X L' w')
theorem Gh{X:Cx}{op:Op}{e:Env}{L:List HP}{M:Value→List HP→Prop}(h:a8 X op e L M){a:Act}{w:World}(ha:kq X.n a e)(hw:St X L w):∀c,op≠.defer c:=by
 rintro c rfl
 have key:∀dst ty pos after guard x w',(execOp a.eval ⟨dst,.defer c,ty,pos,after,guard⟩).run X.P w=.ok x w'→∃d,x=.defer d:=fun dst ty pos after guard x w' hr=>by
  have e:execOp a.eval ⟨dst,.defer c,ty,pos,after,guard⟩=(do pure (.defer (←resolve a.eval c ty))):=rfl
  rw[e,Sem.run_bind] at hr
  cases h2:(resolve a.eval c ty).run X.P w with
  | ok d w2=>rw[h2] at hr;cases hr;exact⟨d,rfl⟩
  | halt y w2=>rw[h2] at hr;cases hr
 rcases h a w ha hw none 0 "" #[] none with ⟨v,w',L',hr,-⟩ | ⟨w',L',hr,-⟩ | ⟨f,args,hr,-⟩
 ·obtain⟨d,h⟩:=key _ _ _ _ _ _ _ hr;cases h
 ·obtain⟨d,h⟩:=key _ _ _ _ _ _ _ hr;cases h
 ·obtain⟨d,h⟩:=key _ _ _ _ _ _ _ hr;cases h
theorem ux(ro:Option Nat)(ρ:Operand→Value)(o:Oper)(h:∀c,o.op≠.defer c):o.semAt (wR ro).round ρ=execOp ρ o:=by
 cases ro with
 | none=>rfl
 | some l=>exact Oper.semAt_some l ρ o h
theorem Ib{ro:Option Nat}{n:Nat}{P:Program}{f:FuncId}{args:Array Value}{w:World}{R:Ending→World→Prop}(h:Calls P f args w R):CallsIn (wR ro) n P f args w R:=
 show CallsIn Fence.wide n P f args w R from callsIn_wide.2 h
theorem a8.wp{X:Cx}{o:Oper}{e:Env}{L:List HP}{M:Value→List HP→Prop}(h:a8 X o.op e L M){a:Act}{w:World}(ha:kq X.n a e)(hw:St X L w){ro:Option Nat}
  {next:Act→World→Prop} {Q:Exit→Act→World→Prop} (hn:∀v L' w',M v L'→St X L' w'→next (a.put o.dst v) w'):o.wpIn (wR ro) 0 X.P a w next Q:=by
 refine⟨fun _ _=>trivial,?_⟩
 rw[ux ro _ _ (Gh h ha hw)]
 rcases h a w ha hw o.dst o.type o.pos o.after o.guard with ⟨v,w',L',hr,hm,hs⟩ | ⟨w',L',hr,hm,hs⟩ | ⟨f,args,hr,hc⟩
 ·rw[hr];exact hn v L' w' hm hs
 ·rw[hr];exact hn undef L' w' hm hs
 ·rw[hr]
  refine⟨(fun h=>by cases h),Ib (Calls.mono hc fun en w' ⟨v,L',he,hm,hs⟩=>?_)⟩
  subst he
  exact hn v L' w' hm hs
theorem VO.op{X:Cx}{ops:Array Oper}{G:GS}{o:Oper}{l:List Oper}{e:Env}{L:List HP}{K:Env→List HP→Prop}{M:Value→List HP→Prop}
  (hg:gT ops G o.guard=some true) (hd:bB X.n o.dst=true) (hf:bt G o.dst=true) (h:a8 X o.op e L M)
  (hk:∀v L',M v L'→VO X ops G l (cE o.dst v e) L' K):VO X ops G (o::l) e L K:=by
 intro Q' hQ ro a w ha hG hw
 unfold wpListIn
 rw[if_pos (eO hG hg)]
 refine h.wp ha hw fun v L' w' hm hs=>?_
 exact hk v L' hm Q' hQ _ _ _ (ha.cE hd v) (hG.put hf v) hs
theorem VO.off{X:Cx}{ops:Array Oper}{G:GS}{o:Oper}{l:List Oper}{e:Env}{L:List HP}{K:Env→List HP→Prop}
  (hg:gT ops G o.guard=some false) (hd:bB X.n o.dst=true) (hf:bt G o.dst=true)
  (hk:VO X ops G l (cE o.dst undef e) L K):VO X ops G (o::l) e L K:=by
 intro Q' hQ ro a w ha hG hw
 unfold wpListIn
 rw[if_neg (by rw[eO hG hg];simp)]
 exact XA
theorem VO.nil{X:Cx}{ops:Array Oper}{G:GS}{e:Env}{L:List HP}{K:Env→List HP→Prop}(h:K e L):VO X ops G [] e L K:=
 fun _ hQ _ _ _ ha _ hw=>hQ _ _ _ _ ha hw h
theorem VO.split{X:Cx}{ops:Array Oper}{G:GS}{l:List Oper}{e:Env}{L:List HP}{K:Env→List HP→Prop}(d:Nat){b:Bool}(hb:look e d=some (.bool b))(hd:Nat.blt d X.n=true)
  (ht:b=true→VO X ops ((d,true)::G) l ((d,.bool true)::e) L K) (hf:b=false→VO X ops ((d,false)::G) l ((d,.bool false)::e) L K):VO X ops G l e L K:=by
 intro Q' hQ ro a w ha hG hw
 have hs:a.tmps[d]?=some (.bool b):=by
  have:=ha.at_ d _ hb
  have hlt:d<a.tmps.size:=by rw[ha.size];exact Nat.blt_eq.mp hd
  simpa[hlt] using this
 have key:∀c,b=c→kq X.n a ((d,.bool c)::e)∧Fg ((d,c)::G) a:=fun c hc=>by
  subst hc
  refine⟨⟨ha.size,ha.defers,fun t u ht=>?_⟩,fun t u ht=>?_⟩
  ·simp only[look] at ht
   cases hq:Nat.beq d t
   ·rw[hq] at ht;exact ha.at_ t u ht
   ·rw[hq] at ht
    have:=Nat.eq_of_beq_eq_true hq
    subst this
    simp only[cond_true,Option.some.injEq] at ht
    subst ht;exact ha.at_ _ _ hb
  ·simp only[oh] at ht
   cases hq:Nat.beq d t
   ·rw[hq] at ht;exact hG t u ht
   ·rw[hq] at ht
    have:=Nat.eq_of_beq_eq_true hq
    subst this
    simp only[cond_true,Option.some.injEq] at ht
    subst ht;exact hs
 cases b
 ·exact hf Z Q' hQ ro a w (key _ Z).1 (key _ Z).2 hw
 ·exact ht Z Q' hQ ro a w (key _ Z).1 (key _ Z).2 hw
theorem VO.ar{X:Cx}{ops:Array Oper}{G:GS}{l:List Oper}{e:Env}{L L':List HP}{K:Env→List HP→Prop}(hs:jq X L L')(h:VO X ops G l e L' K):VO X ops G l e L K:=
 fun Q' hQ ro a w ha hG hw=>h Q' hQ ro a w ha hG (hs w hw)
theorem VC.mono{X:Cx}{c:Code}{e:Env}{L:List HP}{Q Q':Exit→Env→List HP→Prop}(h:VC X c e L Q)(hq:∀x e L,Q x e L→Q' x e L):VC X c e L Q':=
 fun ro a w ha hw=>wpIn_mono (h ro a w ha hw) fun _ _ _ ⟨e',L',h1,h2,h3⟩=>⟨e',L',h1,h2,hq _ _ _ h3⟩
theorem VC.sub{X:Cx}{c:Code}{e e':Env}{L:List HP}{Q:Exit→Env→List HP→Prop}(hs:Sub e' e)(h:VC X c e' L Q):VC X c e L Q:=
 fun ro a w ha hw=>h ro a w (ha.sub hs) hw
theorem VC.ar{X:Cx}{c:Code}{e:Env}{L L':List HP}{Q:Exit→Env→List HP→Prop}(hs:jq X L L')(h:VC X c e L' Q):VC X c e L Q:=
 fun ro a w ha hw=>h ro a w ha (hs w hw)
def Sd(X:Cx)(c:Code)(Q:Exit→Env→List HP→Prop):Exit→Env→List HP→Prop
 | .normal,e,L=>VC X c e L Q
 | x,e,L=>Q x e L
def Ic(id:Nat)(Q:Exit→Env→List HP→Prop):Exit→Env→List HP→Prop
 | .exit j,e,L=>bif Nat.beq j id then Q .normal e L else Q (.exit j) e L
 | x,e,L=>Q x e L
theorem VC.skip{X:Cx}{e:Env}{L:List HP}{Q:Exit→Env→List HP→Prop}(h:Q .normal e L):VC X .skip e L Q:=fun _ _ _ ha hw=>wpIn_skip ⟨e,L,ha,hw,h⟩
theorem VC.label{X:Cx}{l:Nat}{e:Env}{L:List HP}{Q:Exit→Env→List HP→Prop}(h:Q .normal e L):VC X (.label l) e L Q:=fun _ _ _ ha hw=>wpIn_label ⟨e,L,ha,hw,h⟩
theorem VC.exit{X:Cx}{id:Nat}{e:Env}{L:List HP}{Q:Exit→Env→List HP→Prop}(h:Q (.exit id) e L):VC X (.exit id) e L Q:=fun _ _ _ ha hw=>wpIn_exit ⟨e,L,ha,hw,h⟩
theorem VC.ret{X:Cx}{e:Env}{L:List HP}{Q:Exit→Env→List HP→Prop}(h:Q .ret e L):VC X .ret e L Q:=fun _ _ _ ha hw=>wpIn_ret ⟨e,L,ha,hw,h⟩
theorem VC.seq{X:Cx}{b c:Code}{e:Env}{L:List HP}{Q:Exit→Env→List HP→Prop}(h:VC X b e L (Sd X c Q)):VC X (.seq b c) e L Q:=by
 intro ro a w ha hw
 refine wpIn_seq (wpIn_mono (h ro a w ha hw) fun x a' w' ⟨e',L',h1,h2,h3⟩=>?_)
 cases x with
 | normal=>exact h3 ro a' w' h1 h2
 | exit id=>exact⟨e',L',h1,h2,h3⟩
 | goto l=>exact⟨e',L',h1,h2,h3⟩
 | ret=>exact⟨e',L',h1,h2,h3⟩
 | panic ch=>exact⟨e',L',h1,h2,h3⟩
 | outgrown=>exact⟨e',L',h1,h2,h3⟩
theorem VC.cond{X:Cx}{x:Operand}{b c:Code}{e:Env}{L:List HP}{Q:Exit→Env→List HP→Prop}{t:Bool}(hx:ev e x=some (.bool t))
  (ht:t=true→VC X b e L Q) (hf:t=false→VC X c e L Q):VC X (.cond x b c) e L Q:=
 fun ro a w ha hw=>wpIn_cond_split (ha.ev hx) (fun h=>ht h ro a w ha hw) (fun h=>hf h ro a w ha hw)
theorem VC.block{X:Cx}{id:Nat}{c:Code}{e:Env}{L:List HP}{Q:Exit→Env→List HP→Prop}(h:VC X c e L (Ic id Q)):VC X (.block id c) e L Q:=by
 intro ro a w ha hw
 refine wpIn_block (wpIn_mono (h ro a w ha hw) fun x a' w' ⟨e',L',h1,h2,h3⟩=>?_)
 cases x with
 | exit j=>
  simp only[Exit.inBlock]
  simp only[Ic] at h3
  cases hb:Nat.beq j id
  ·rw[hb] at h3
   rw[if_neg (Nat.ne_of_beq_eq_false hb)]
   exact⟨e',L',h1,h2,h3⟩
  ·rw[hb] at h3
   rw[if_pos (Nat.eq_of_beq_eq_true hb)]
   exact⟨e',L',h1,h2,h3⟩
 | normal=>exact⟨e',L',h1,h2,h3⟩
 | goto l=>exact⟨e',L',h1,h2,h3⟩
 | ret=>exact⟨e',L',h1,h2,h3⟩
 | panic ch=>exact⟨e',L',h1,h2,h3⟩
 | outgrown=>exact⟨e',L',h1,h2,h3⟩
theorem VC.region{X:Cx}{id:Nat}{l:List Oper}{e:Env}{L:List HP}{Q:Exit→Env→List HP→Prop}(h:VO X l.toArray [] l e L (Q .normal)):VC X (.region id l.toArray false) e L Q:=
 fun ro a w ha hw=>wpIn_region_lit (h _ (fun e' L' _ _ h1 h2 h3=>⟨e',L',h1,h2,h3⟩) ro a w ha (Fg.nil a) hw)
def Se(X:Cx){σ:Type}(E:σ→Env)(H:σ→List HP)(I:σ→Prop)(μ:σ→Nat)(s:σ)(Q:Exit→Env→List HP→Prop):Exit→Env→List HP→Prop
 | .normal,e,L=>∃s',I s'∧μ s'<μ s∧Sub (E s') e∧jq X L (H s')
 | x,e,L=>Q x e L
theorem VC.loop{X:Cx}{σ:Type}(E:σ→Env)(H:σ→List HP)(I:σ→Prop)(μ:σ→Nat)(s0:σ){c:Code}{e:Env}{L:List HP}{Q:Exit→Env→List HP→Prop}
  (h0:I s0) (he:Sub (E s0) e) (hl:jq X L (H s0)) (round:∀s,I s→VC X c (E s) (H s) (Se X E H I μ s Q)):VC X (.loop c) e L Q:=by
 intro ro a w ha hw
 refine wpIn_loop_ghost (fun m a w=>∃s,μ s=m∧I s∧kq X.n a (E s)∧St X (H s) w) (μ s0) ⟨s0,Z,h0,ha.sub he,hl _ hw⟩ ?_
 rintro m a w ⟨s,rfl,hI,ha,hw⟩
 refine wpIn_mono (round s hI ro a w ha hw) fun x a' w' ⟨e',L',h1,h2,h3⟩=>?_
 cases x with
 | normal=>
  obtain⟨s',hI',hlt,hE,hH⟩:=h3
  exact⟨μ s',hlt,s',Z,hI',h1.sub hE,hH _ h2⟩
 | exit id=>exact⟨e',L',h1,h2,h3⟩
 | goto l=>exact⟨e',L',h1,h2,h3⟩
 | ret=>exact⟨e',L',h1,h2,h3⟩
 | panic ch=>exact⟨e',L',h1,h2,h3⟩
 | outgrown=>exact⟨e',L',h1,h2,h3⟩
end Vg
namespace Vg
open Go
def Fh:Env→Nat→(Value→Prop)→Prop→Prop
 | [],_,_,kf=>kf
 | (s,v)::r,t,k,kf=>bif Nat.beq s t then k v else Fh r t k kf
theorem uy{k:Value→Prop}{kf:Prop}:∀{e:Env} {t:Nat},Fh e t k kf→(∃v,look e t=some v∧k v)∨kf
 | [],_,h=>.inr h
 | (s,v)::r,t,h=>by
  simp only[Fh] at h
  simp only[look]
  cases hb:Nat.beq s t
  ·rw[hb] at h;exact uy h
  ·rw[hb] at h;exact .inl ⟨v,rfl,h⟩
def Bi(e:Env)(x:Operand)(k:Value→Prop)(kf:Prop):Prop:=
 match x with
 | .tmp t=>Fh e t k kf
 | .const v=>k v
 | .global g=>k (.pointer (some ⟨g,0,none⟩))
 | .func f=>k (.func (.func f) #[] #[])
theorem ey{e:Env}{x:Operand}{k:Value→Prop}{kf:Prop}(h:Bi e x k kf):(∃v,ev e x=some v∧k v)∨kf:=by
 cases x with
 | tmp t=>exact uy h
 | const v=>exact .inl ⟨v,rfl,h⟩
 | global g=>exact .inl ⟨_,rfl,h⟩
 | func f=>exact .inl ⟨_,rfl,h⟩
def O1:DB→Nat→(TI→Prop)→Prop→Prop
 | [],_,_,kf=>kf
 | (s,v)::r,t,k,kf=>bif Nat.beq s t then k v else O1 r t k kf
theorem lX{k:TI→Prop}{kf:Prop}:∀{e:DB} {t:Nat},O1 e t k kf→(∃v,aL e t=some v∧k v)∨kf
 | [],_,h=>.inr h
 | (s,v)::r,t,h=>by
  simp only[O1] at h
  simp only[aL]
  cases hb:Nat.beq s t
  ·rw[hb] at h;exact lX h
  ·rw[hb] at h;exact .inl ⟨v,rfl,h⟩
def DC{α:Type}:List α→Nat→(α→Prop)→Prop→Prop
 | [],_,_,kf=>kf
 | x::_,0,k,_=>k x
 | _::r,n+1,k,kf=>DC r n k kf
theorem kh{α:Type}{k:α→Prop}{kf:Prop}:∀{l:List α} {i:Nat},DC l i k kf→(∃v,l[i]?=some v∧k v)∨kf
 | [],_,h=>.inr h
 | x::r,0,h=>.inl ⟨x,rfl,h⟩
 | x::r,n+1,h=>by simpa using kh (l:=r) (i:=n) h
def cY(X:Cx)(op:Op)(e:Env)(v:Value):Prop:=
 ∀a,kq X.n a e→∀dst ty pos after guard w,(execOp a.eval ⟨dst,op,ty,pos,after,guard⟩).run X.P w=.ok (.value v) w
def Sf(op:BinOp)(a b:Int)(k:Value→Prop)(kf:Prop):Prop:=
 match op with
 | .eql=>k (.bool (a == b))
 | .neq=>k (.bool (a != b))
 | .lss=>k (.bool (decide (a<b)))
 | .leq=>k (.bool (decide (a≤b)))
 | .gtr=>k (.bool (decide (b<a)))
 | .geq=>k (.bool (decide (b≤a)))
 | _=>kf
def DD:IntKind→IntKind→Bool
 | .i64,.i64=>true
 | .u8,.u8=>true
 | .u16,.u16=>true
 | .u64,.u64=>true
 | .i32,.i32=>true
 | .u32,.u32=>true
 | .i8,.i8=>true
 | .i16,.i16=>true
 | _,_=>false
theorem Gi{a b:IntKind}(h:DD a b=true):a=b:=by cases a<;>cases b<;>first | rfl | cases h
def PK(tab:DB)(op:BinOp)(ty:Nat)(x y:Value)(k:Value→Prop)(kf:Prop):Prop:=
 match x,y with
 | .int j a,.int i b=>bif DD j i then Sf op a b k kf else kf
 | .bool a,.bool b=>O1 tab ty (fun ti=>match ti.aU with
   | .bool=>match op with
    | .eql=>k (.bool (a == b))
    | .neq=>k (.bool (!(a == b)))
    | _=>kf
   | _=>kf) kf
 | .string a,.string b=>match op with
   | .eql=>k (.bool (a.toList == b.toList))
   | .neq=>k (.bool (!(a.toList == b.toList)))
   | _=>kf
 | .pointer a,.pointer none=>O1 tab ty (fun ti=>match ti.aU with
   | .ptr _=>match op,a with
    | .eql,none=>k (.bool true)
    | .eql,some _=>k (.bool false)
    | .neq,none=>k (.bool false)
    | .neq,some _=>k (.bool true)
    | _,_=>kf
   | _=>kf) kf
 | .slice a _ _,.slice none _ _=>O1 tab ty (fun ti=>match ti.aU with
   | .slice _=>match op,a with
    | .eql,none=>k (.bool true)
    | .eql,some _=>k (.bool false)
    | .neq,none=>k (.bool false)
    | .neq,some _=>k (.bool true)
    | _,_=>kf
   | _=>kf) kf
 | _,_=>kf
def xv(tab:DB)(e:Env)(op:Op)(k:Value→Prop)(kf:Prop):Prop:=
 match op with
 | .move x=>Bi e x k kf
 | .assign x=>Bi e x k kf
 | .nilCheck x=>Bi e x (fun v=>match v with
   | .pointer (some a)=>k (.pointer (some a))
   | _=>kf) kf
 | .extract x i=>Bi e x (fun v=>match v with
   | .tuple vs=>DC vs.toList i k kf
   | _=>kf) kf
 | .fieldAddr s x f=>Bi e x (fun v=>match v with
   | .pointer (some ⟨b,off,none⟩)=>O1 tab s (fun ti=>match ti.aU with
    | .struct fs=>DC fs f (fun p=>match p with
     | (o,sz)=>bif Nat.beq sz 0 then kf else bif Nat.beq o 0 then k (.pointer (some ⟨b,off,none⟩)) else k (.pointer (some ⟨b,off+o,none⟩))) kf
    | _=>kf) kf
   | _=>kf) kf
 | .binOp op ty x y _=>Bi e x (fun a=>Bi e y (fun b=>PK tab op ty a b k kf) kf) kf
 | .unOp .not _ x=>Bi e x (fun v=>match v with
   | .bool b=>k (.bool (!b))
   | _=>kf) kf
 | .pick c a b=>Bi e c (fun v=>match v with
   | .bool true=>Bi e a k kf
   | .bool false=>Bi e b k kf
   | _=>kf) kf
 | .call ⟨.builtin .len,args,tys⟩=>match args.toList,tys.toList with
   | [x],[t]=>Bi e x (fun v=>O1 tab t (fun ti=>match v with
    | .slice _ n _=>(match ti.aU with
     | .slice _=>k (.int .i64 n)
     | _=>kf)
    | .string s=>(match ti.aU with
     | .string=>k (.int .i64 s.size)
     | _=>kf)
    | _=>kf) kf) kf
   | _,_=>kf
 | .call ⟨.builtin .min,args,_⟩=>match args.toList with
   | [x,y]=>Bi e x (fun u=>Bi e y (fun v=>match u,v with
    | .int i a,.int _ b=>k (.int i (if b<a then b else a))
    | _,_=>kf) kf) kf
   | _=>kf
 | .call ⟨.builtin .max,args,_⟩=>match args.toList with
   | [x,y]=>Bi e x (fun u=>Bi e y (fun v=>match u,v with
    | .int i a,.int _ b=>k (.int i (if a<b then b else a))
    | _,_=>kf) kf) kf
   | _=>kf
 | _=>kf
section
variable {X:Cx} {e:Env} {k:Value→Prop} {kf:Prop}
theorem KT{P:Program}{t:Nat}{ti:TI}(h:az P t ti)(w:World):∃d,P.underlying t=some d∧(underlying t).run P w=.ok d w:=by
 have:=h.aU
 unfold kW at this
 cases hd:P.underlying t with
 | none=>simp[hd] at this
 | some d=>exact⟨d,rfl,run_underlying hd w⟩
theorem dI{P:Program}{t:Nat}{i:TypeInfo}(hi:P.info? t=some i)(w:World):(sizeOf t).run P w=.ok i.size w:=by
 simp[sizeOf,typeInfo,hi]
theorem Bj{P:Program}{S f:Nat}{flds:Array Field}{fl:Field}{i:TypeInfo}(hund:P.underlying S=some (.struct flds))(hf:flds[f]?=some fl)(hi:P.info? fl.type=some i)(hz:i.size≠0)(b off:Nat)(w:World):
  (Instr.fieldAt S (.pointer (some ⟨b,off,none⟩)) f).run P w=.ok (.pointer (some ⟨b,off+fl.offset,none⟩)) w:=by
 simp[Instr.fieldAt,run_underlying hund,hf,Instr.sureAddr,fieldPlace,dI hi,hz,Addr.add_mid]
theorem run_equal_bool{P:Program}{ty:Nat}(hund:P.underlying ty=some .bool)(c d:Bool)(w:World):(Op.equal ty (.bool c) (.bool d)).run P w=.ok (c == d) w:=by
 unfold Op.equal
 show(Op.equalIn (9999+1) ty (.bool c) (.bool d)).run P w=_
 rw[Op.equalIn,Sem.run_bind,run_underlying hund]
 rfl
theorem pR{P:Program}{ty el:Nat}(hund:P.underlying ty=some (.pointer el))(a:Option Addr)(w:World):(Op.equal ty (.pointer a) (.pointer none)).run P w=.ok a.isNone w:=by
 unfold Op.equal
 show(Op.equalIn (9999+1) ty (.pointer a) (.pointer none)).run P w=_
 rw[Op.equalIn,Sem.run_bind,run_underlying hund]
 cases a<;>rfl
theorem nN{P:Program}{ty el:Nat}(hund:P.underlying ty=some (.slice el))(a:Option Addr)(n m i j:Nat)(w:World):(Op.equal ty (.slice a n m) (.slice none i j)).run P w=.ok a.isNone w:=by
 unfold Op.equal
 show(Op.equalIn (9999+1) ty (.slice a n m) (.slice none i j)).run P w=_
 rw[Op.equalIn,Sem.run_bind,run_underlying hund]
 cases a<;>rfl
theorem DE{op:BinOp}{ty:Nat}{x y:Operand}{yt:Nat}{a b:Value}(hx:ev e x=some a)(hy:ev e y=some b)(h:PK X.tab op ty a b k kf):
    (∃v,cY X (.binOp op ty x y yt) e v∧k v)∨kf:=by
  have E:∀v,(∀w,(do eqGuard op ty x y a b;binOp op ty a b:Sem Value).run X.P w=.ok v w)→cY X (.binOp op ty x y yt) e v:=by
    intro v h a' ha dst t pos after guard w
    simp only[execOp,ha.ev hx,ha.ev hy]
    rw[Sem.run_bind,h w]
    rfl
  unfold PK at h
  split at h
  · rename_i j c i d
    cases hk:DD j i
    · rw[hk] at h;exact .inr h
    · rw[hk] at h
      have:=Gi hk
      subst this
      simp only[cond_true] at h
      unfold Sf at h
      split at h
      all_goals first
        | exact .inr h
        | (refine .inl ⟨_,E _ (fun w=>?_),h⟩
           simp[eqGuard,binOp,Op.intCmp])
  · rename_i c d
    rcases lX h with ⟨ti,ht,h⟩ | h
    · split at h
      · rename_i hu
        have hund:X.P.underlying ty=some .bool:=by
          have:=(X.ok.look ht).aU
          rw[hu] at this
          unfold kW at this
          split at this<;>simp_all
        split at h
        · refine .inl ⟨_,E _ (fun w=>?_),h⟩
          show((do pure (.bool (←Op.equal ty (.bool c) (.bool d))):Sem Value)).run X.P w=_
          rw[Sem.run_bind,run_equal_bool hund];rfl
        · refine .inl ⟨_,E _ (fun w=>?_),h⟩
          show((do pure (.bool (!(←Op.equal ty (.bool c) (.bool d)))):Sem Value)).run X.P w=_
          rw[Sem.run_bind,run_equal_bool hund];rfl
        · exact .inr h
      · exact .inr h
    · exact .inr h
  · split at h
    · refine .inl ⟨_,E _ (fun w=>?_),h⟩
      simp[eqGuard,binOp,Op.stringOp]
    · refine .inl ⟨_,E _ (fun w=>?_),h⟩
      simp[eqGuard,binOp,Op.stringOp]
    · exact .inr h
  · rename_i a
    rcases lX h with ⟨ti,ht,h⟩ | h
    · split at h
      · rename_i el hu
        have hund:X.P.underlying ty=some (.pointer el):=by
          have:=(X.ok.look ht).aU
          rw[hu] at this
          unfold kW at this
          split at this<;>simp_all
        have r1:∀w,((do pure (.bool (←Op.equal ty (.pointer a) (.pointer none))):Sem Value)).run X.P w=.ok (.bool a.isNone) w:=fun w=>by
          rw[Sem.run_bind,pR hund];rfl
        have r2:∀w,((do pure (.bool (!(←Op.equal ty (.pointer a) (.pointer none)))):Sem Value)).run X.P w=.ok (.bool (!a.isNone)) w:=fun w=>by
          rw[Sem.run_bind,pR hund];rfl
        split at h
        · exact TM
        · exact TM
        · exact TN
        · exact TN
        · exact .inr h
      · exact .inr h
    · exact .inr h
  · rename_i a n m i j
    rcases lX h with ⟨ti,ht,h⟩ | h
    · split at h
      · rename_i el hu
        have hund:X.P.underlying ty=some (.slice el):=by
          have:=(X.ok.look ht).aU
          rw[hu] at this
          unfold kW at this
          split at this<;>simp_all
        have r1:∀w,((do pure (.bool (←Op.equal ty (.slice a n m) (.slice none i j))):Sem Value)).run X.P w=.ok (.bool a.isNone) w:=fun w=>by
          rw[Sem.run_bind,nN hund];rfl
        have r2:∀w,((do pure (.bool (!(←Op.equal ty (.slice a n m) (.slice none i j)))):Sem Value)).run X.P w=.ok (.bool (!a.isNone)) w:=fun w=>by
          rw[Sem.run_bind,nN hund];rfl
        split at h
        · exact TM
        · exact TM
        · exact TN
        · exact TN
        · exact .inr h
      · exact .inr h
    · exact .inr h
  · exact .inr h
theorem Fi{P:Program}{t:Nat}{d:TypeDesc}(hd:P.underlying t=some d)(w:World)(x v:Value)
  (h:(d=.string∧∃s,x=.string s∧v=.int .i64 s.size)∨((∃el,d=.slice el)∧∃a n c,x=.slice a n c∧v=.int .i64 n)) (r:Nat):
  (Builtin.len_ #[t] r #[x]).run P w=.ok v w:=by
 rcases h with ⟨rfl,s,rfl,rfl⟩ | ⟨⟨el,rfl⟩,a,n,c,rfl,rfl⟩
 ·simp[Builtin.len_,run_underlying hd,goInt]
 ·simp[Builtin.len_,run_underlying hd,goInt]
theorem kX{op:Op}(h:xv X.tab e op k kf):(∃v,cY X op e v∧k v)∨kf:=by
 unfold xv at h
 split at h
 ·rcases ey h with ⟨v,hv,h⟩ | h
  ·exact XB
  ·exact .inr h
 ·rcases ey h with ⟨v,hv,h⟩ | h
  ·exact XB
  ·exact .inr h
 ·rcases ey h with ⟨v,hv,h⟩ | h
  ·split at h
   ·exact XC
   ·exact .inr h
  ·exact .inr h
 ·rcases ey h with ⟨v,hv,h⟩ | h
  ·split at h
   ·rename_i vs _
    rcases kh h with ⟨u,hu,h⟩ | h
    ·refine .inl ⟨u,fun a ha _ _ _ _ _ w=>?_,h⟩
     rw[Array.getElem?_toList] at hu
     simp only[execOp,ha.ev hv,Instr.extract,hu];rfl
    ·exact .inr h
   ·exact .inr h
  ·exact .inr h
 ·rcases ey h with ⟨v,hv,h⟩ | h
  ·split at h
   ·rename_i b off
    rcases lX h with ⟨ti,ht,h⟩ | h
    ·split at h
     ·rename_i fs hu
      rcases kh h with ⟨⟨o,sz⟩,hp,h⟩ | h
      ·dsimp only at h
       cases hz:Nat.beq sz 0
       case true=>rw[hz] at h;exact .inr h
       case false=>
        rw[hz] at h
        have hsz:sz≠0:=Nat.ne_of_beq_eq_false hz
        have hok:=(X.ok.look ht).aU
        rw[hu] at hok
        obtain⟨flds,hund,hfl⟩:∃flds,X.P.underlying _=some (.struct flds)∧flds.toList.map (fun f=>(f.offset,((X.P.info? f.type).map (·.size)).getD 0))=fs:=by
         unfold kW at hok
         split at hok<;>simp at hok
         rename_i fl hfl
         exact⟨fl,hfl,by simpa using hok⟩
        rw[←hfl] at hp
        simp only[ZS,Option.map_eq_some_iff,Prod.mk.injEq] at hp
        obtain⟨f,hf,ho,hsf⟩:=hp
        rw[Array.getElem?_toList] at hf
        have hi:∃i,X.P.info? f.type=some i∧i.size=sz:=by
         cases hq:X.P.info? f.type with
         | none=>simp[hq] at hsf;exact(hsz hsf.symm).elim
         | some i=>exact⟨i,rfl,by simpa[hq] using hsf⟩
        obtain⟨i,hi,hiz⟩:=hi
        have key:=Bj hund hf hi (by rw[hiz];exact hsz) b off
        rw[ho] at key
        simp only[cond_false] at h
        cases hoz:Nat.beq o 0
        ·rw[hoz] at h
         refine .inl ⟨_,fun a ha _ _ _ _ _ w=>?_,h⟩
         simp only[execOp,ha.ev hv,Sem.run_bind,key w];rfl
        ·rw[hoz] at h
         refine .inl ⟨_,fun a ha _ _ _ _ _ w=>?_,h⟩
         have:=Nat.eq_of_beq_eq_true hoz
         subst this
         simp only[execOp,ha.ev hv,Sem.run_bind,key w];rfl
      ·exact .inr h
     ·exact .inr h
    ·exact .inr h
   ·exact .inr h
  ·exact .inr h
 ·rcases ey h with ⟨a,ha,h⟩ | h
  ·rcases ey h with ⟨b,hb,h⟩ | h
   ·exact DE ha hb h
   ·exact .inr h
  ·exact .inr h
 ·rcases ey h with ⟨v,hv,h⟩ | h
  ·split at h
   ·exact XC
   ·exact .inr h
  ·exact .inr h
 ·rcases ey h with ⟨v,hv,h⟩ | h
  ·split at h
   ·rcases ey h with ⟨u,hu,h⟩ | h
    ·exact XD
    ·exact .inr h
   ·rcases ey h with ⟨u,hu,h⟩ | h
    ·exact XD
    ·exact .inr h
   ·exact .inr h
  ·exact .inr h
 ·rename_i args tys
  split at h
  ·rename_i x t hx ht
   have hargs:args=#[x]:=by apply Array.toList_inj.1;simpa using hx
   have htys:tys=#[t]:=by apply Array.toList_inj.1;simpa using ht
   subst hargs;subst htys
   rcases ey h with ⟨v,hv,h⟩ | h
   ·rcases lX h with ⟨ti,htt,h⟩ | h
    ·have hok:=(X.ok.look htt).aU
     split at h
     ·rename_i el n c _
      split at h
      ·rename_i hu
       rw[hu] at hok
       have hund:∃d,X.P.underlying t=some d∧∃el,d=.slice el:=by
        unfold kW at hok
        split at hok<;>simp at hok
        rename_i hd;exact⟨_,hd,_,rfl⟩
       obtain⟨d,hd,hd'⟩:=hund
       refine .inl ⟨_,fun a' ha _ _ _ _ _ w=>?_,h⟩
       have hr:=fun r=>Fi hd w (.slice el n c) (.int .i64 n) (.inr ⟨hd',el,n,c,rfl,rfl⟩) r
       simp[execOp,resolve,invoke,builtin,ha.ev hv,hr]
      ·exact .inr h
     ·rename_i s _
      split at h
      ·rename_i hu
       rw[hu] at hok
       have hund:X.P.underlying t=some .string:=by
        unfold kW at hok
        split at hok<;>simp_all
       refine .inl ⟨_,fun a' ha _ _ _ _ _ w=>?_,h⟩
       have hr:=fun r=>Fi hund w (.string s) (.int .i64 s.size) (.inl ⟨rfl,s,rfl,rfl⟩) r
       simp[execOp,resolve,invoke,builtin,ha.ev hv,hr]
      ·exact .inr h
     ·exact .inr h
    ·exact .inr h
   ·exact .inr h
  ·exact .inr h
 ·rename_i args tys
  split at h
  ·rename_i x y hx
   have hargs:args=#[x,y]:=by apply Array.toList_inj.1;simpa using hx
   subst hargs
   rcases ey h with ⟨u,hu,h⟩ | h
   ·rcases ey h with ⟨v,hv,h⟩ | h
    ·split at h
     ·refine .inl ⟨_,fun a' ha _ _ _ _ _ w=>?_,h⟩
      simp[execOp,resolve,invoke,builtin,ha.ev hv,ha.ev hu,Builtin.min_,Builtin.min2]
     ·exact .inr h
    ·exact .inr h
   ·exact .inr h
  ·exact .inr h
 ·rename_i args tys
  split at h
  ·rename_i x y hx
   have hargs:args=#[x,y]:=by apply Array.toList_inj.1;simpa using hx
   subst hargs
   rcases ey h with ⟨u,hu,h⟩ | h
   ·rcases ey h with ⟨v,hv,h⟩ | h
    ·split at h
     ·refine .inl ⟨_,fun a' ha _ _ _ _ _ w=>?_,h⟩
      simp[execOp,resolve,invoke,builtin,ha.ev hv,ha.ev hu,Builtin.max_,Builtin.max2]
     ·exact .inr h
    ·exact .inr h
   ·exact .inr h
  ·exact .inr h
 ·exact .inr h
theorem cY.Sg{op:Op}{v:Value}{L:List HP}(h:cY X op e v):a8 X op e L (fun u L'=>u=v∧L'=L):=
 fun a w ha hw dst ty pos after guard=>.inl ⟨v,w,L,h a ha dst ty pos after guard w,⟨rfl,rfl⟩,hw⟩
end
def runK(n:Nat)(tab:DB)(ops:List Oper)(G:GS):List Oper→Env→(List Oper→Env→Prop)→Prop
 | [],e,k=>k [] e
 | o::r,e,k=>match o.dst with
  | none=>k (o::r) e
  | some d=>match oh G d,Nat.blt d n with
   | none,true=>match o.guard with
    | none=>xv tab e o.op (fun v=>runK n tab ops G r ((d,v)::e) k) (k (o::r) e)
    | some (j,want)=>DC ops j (fun oj=>match oj.dst with
     | some dj=>match oh G dj with
      | some b=>match gB b want with
       | true=>xv tab e o.op (fun v=>runK n tab ops G r ((d,v)::e) k) (k (o::r) e)
       | false=>runK n tab ops G r ((d,undef)::e) k
      | none=>k (o::r) e
     | none=>k (o::r) e) (k (o::r) e)
   | _,_=>k (o::r) e
theorem qh{X:Cx}{ops:Array Oper}{G:GS}{L:List HP}{K:Env→List HP→Prop}:∀{l:List Oper} {e:Env},
  runK X.n X.tab ops.toList G l e (fun l' e'=>VO X ops G l' e' L K)→VO X ops G l e L K
 | [],e,h=>h
 | o::r,e,h=>by
  unfold runK at h
  split at h
  ·exact h
  ·rename_i d hd
   split at h
   ·rename_i hgl hlt
    have hdst:bB X.n o.dst=true:=by rw[hd];exact hlt
    have hfree:bt G o.dst=true:=by rw[hd];simp[bt,hgl]
    have step:∀{v},gT ops G o.guard=some true→cY X o.op e v→runK X.n X.tab ops.toList G r ((d,v)::e) (fun l' e'=>VO X ops G l' e' L K)→VO X ops G (o::r) e L K:=fun {v} hg hl hk=>by
     refine VO.op hg hdst hfree hl.Sg ?_
     rintro _ _ ⟨rfl,rfl⟩
     rw[hd]
     exact qh hk
    split at h
    ·rename_i hgd
     rcases kX h with ⟨v,hl,hk⟩ | h
     ·exact step (by rw[hgd];rfl) hl hk
     ·exact h
    ·rename_i j want hgd
     rcases kh h with ⟨oj,hj,h⟩ | h
     ·split at h
      ·rename_i dj hdj
       split at h
       ·rename_i b hb
        have hgo:gT ops G o.guard=some (gB b want):=by
         rw[hgd];simp only[gT,hj,hdj,hb]
        split at h
        ·rename_i hbw
         rw[hbw] at hgo
         rcases kX h with ⟨v,hl,hk⟩ | h
         ·exact step hgo hl hk
         ·exact h
        ·rename_i hbw
         rw[hbw] at hgo
         refine VO.off hgo hdst hfree ?_
         rw[hd]
         exact qh h
       ·exact h
      ·exact h
     ·exact h
   ·exact h
end Vg
namespace Vg
open Go
def xw:Nat→List Value→Env
 | _,[]=>[]
 | i,v::r=>(i,v)::xw (i+1) r
theorem uz:∀{l:List Value} {i t:Nat} {v:Value},look (xw i l) t=some v→∃j,t=i+j∧l[j]?=some v
 | [],_,_,_,h=>by cases h
 | x::r,i,t,v,h=>by
  simp only[xw,look] at h
  cases hb:Nat.beq i t
  ·rw[hb] at h
   obtain⟨j,hj,hl⟩:=uz h
   exact⟨j+1,by omega,by simpa using hl⟩
  ·rw[hb] at h
   have:=Nat.eq_of_beq_eq_true hb
   exact⟨0,by omega,by simpa using h⟩
theorem xx{n:Nat}{args:List Value}(h:args.length≤n):kq n ⟨args.toArray++Array.replicate (n-args.toArray.size) undef,[]⟩ (xw 0 args):=by
 refine⟨by simp;omega,Z,fun t v ht=>?_⟩
 obtain⟨j,rfl,hl⟩:=uz ht
 have hj:j<args.length:=(ZP.1 hl).1
 have:args[j]=v:=(ZP.1 hl).2
 simp[Array.getElem?_append,hj,this]
structure Wo(X:Cx)(fn:Func)(e:Env)(L:List HP)(v:Value):Prop where
 run:∀a w,kq X.n a e→St X L w→(results fn a.tmps).run X.P w=.ok v w
def ay(X:Cx)(fn:Func)(R:Value→List HP→Prop)(e:Env)(L:List HP):Prop:=
 ∃v L',Wo X fn e L v∧jq X L L'∧R v L'
def Sh(X:Cx)(fn:Func)(R:Value→List HP→Prop):Exit→Env→List HP→Prop
 | .normal,e,L=>ay X fn R e L
 | .ret,e,L=>ay X fn R e L
 | _,_,_=>False
theorem aH.of{P:Program}{f:FuncId}{fn:Func}{c:Code}{args:List Value}{Fr:Nat→Prop}{w:World}{L:List HP}{R:Value→List HP→Prop}{tab:DB}(n:Nat)
  (hf:P.funcs[f]?=some fn) (hb:fn.body=some c) (hnm:(fn.name == "runtime.NumGoroutine")=false) (ok:nM P tab) (hnt:fn.ntmps=n) (hn:Nat.ble args.length n=true)
  (h:VC ⟨P,tab,ok,n,Fr,w⟩ c (xw 0 args) L (Sh ⟨P,tab,ok,n,Fr,w⟩ fn R)):aH P f args Fr w L R:=by
 subst hnt
 replace hn:=ZT hn
 refine⟨⟨fn,hf,by simp[hb],hnm⟩,fun hlow hs=>?_⟩
 refine calls_of_wp hf hb (wp_mono (wpIn_wide.1 (h none _ w (xx hn) ⟨hs,dH.refl _ _,hlow⟩)) fun x a' w' ⟨e',L',h1,h2,h3⟩=>?_)
 have key:ay ⟨P,tab,ok,fn.ntmps,Fr,w⟩ fn R e' L'→a'.defers=[]∧∃v,(results fn a'.tmps).run P w'=.ok v w'∧∃v1 L1,Ending.returned v=.returned v1∧R v1 L1∧Sat Fr L1 w'∧dH Fr w w':=by
  rintro⟨v,L1,hr,he,hR⟩
  exact⟨h1.defers,v,hr.run a' w' h1 h2,v,L1,Z,hR,(he w' h2).sat,h2.cK⟩
 cases x with
 | normal=>exact key h3
 | ret=>exact key h3
 | exit id=>exact h3.elim
 | goto l=>exact h3.elim
 | panic ch=>exact h3.elim
 | outgrown=>exact h3.elim
theorem ay.tmp{X:Cx}{fn:Func}{R:Value→List HP→Prop}{e:Env}{L:List HP}(t:Nat)(h:fn.results=#[.tmp t]){v:Value}(hv:look e t=some v){L':List HP}(he:jq X L L')(hR:R v L'):ay X fn R e L:=
 ⟨v,L',⟨fun a w ha _=>by rw[results_tmp h,ha.at_ t v hv]⟩,he,hR⟩
theorem ay.cV{X:Cx}{fn:Func}{R:Value→List HP→Prop}{e:Env}{L:List HP}(t u:Nat)(h:fn.results=#[.tmp t,.tmp u]){v x:Value}(hv:look e t=some v)(hx:look e u=some x){L':List HP}(he:jq X L L')(hR:R (.tuple #[v,x]) L'):ay X fn R e L:=
 ⟨_,L',⟨fun a w ha _=>by rw[results_tmp2 h,ha.at_ t v hv,ha.at_ u x hx]⟩,he,hR⟩
theorem ay.void{X:Cx}{fn:Func}{R:Value→List HP→Prop}{e:Env}{L:List HP}(h:fn.results=#[]){L':List HP}(he:jq X L L')(hR:R (.tuple #[]) L'):ay X fn R e L:=
 ⟨_,L',⟨fun a w _ _=>results_none h a.tmps X.P w⟩,he,hR⟩
theorem VC.O2{X:Cx}{x:Operand}{b c:Code}{e:Env}{L:List HP}{Q:Exit→Env→List HP→Prop}{p:Prop}{_:Decidable p}(hx:ev e x=some (.bool (decide p)))
  (ht:p→VC X b e L Q) (hf:¬p→VC X c e L Q):VC X (.cond x b c) e L Q:=
 VC.cond hx (fun h=>ht (of_decide_eq_true h)) (fun h=>hf (of_decide_eq_false h))
theorem VC.O3{X:Cx}{x:Operand}{b c:Code}{e:Env}{L:List HP}{Q:Exit→Env→List HP→Prop}{i j:Int}(hx:ev e x=some (.bool (i == j)))
  (ht:i=j→VC X b e L Q) (hf:i≠j→VC X c e L Q):VC X (.cond x b c) e L Q:=
 VC.cond hx (fun h=>ht yc) (fun h=>hf yc)
theorem VC.bo{X:Cx}{x:Operand}{b c:Code}{e:Env}{L:List HP}{Q:Exit→Env→List HP→Prop}{i j:Int}(hx:ev e x=some (.bool (i != j)))
  (ht:i≠j→VC X b e L Q) (hf:i=j→VC X c e L Q):VC X (.cond x b c) e L Q:=
 VC.cond hx (fun h=>ht yc) (fun h=>hf yc)
theorem VC.dX{X:Cx}{x:Operand}{b c:Code}{e:Env}{L:List HP}{Q:Exit→Env→List HP→Prop}{t:Bool}(hx:ev e x=some (.bool (!t)))
  (ht:t=false→VC X b e L Q) (hf:t=true→VC X c e L Q):VC X (.cond x b c) e L Q:=
 VC.cond hx (fun h=>ht yc) (fun h=>hf yc)
theorem VC.kr{X:Cx}{x:Operand}{b c:Code}{e:Env}{L:List HP}{Q:Exit→Env→List HP→Prop}(hx:ev e x=some (.bool true))
  (ht:VC X b e L Q):VC X (.cond x b c) e L Q:=
 VC.cond hx (fun _=>ht) (fun h=>by cases h)
theorem VC.jt{X:Cx}{x:Operand}{b c:Code}{e:Env}{L:List HP}{Q:Exit→Env→List HP→Prop}(hx:ev e x=some (.bool false))
  (hf:VC X c e L Q):VC X (.cond x b c) e L Q:=
 VC.cond hx (fun h=>by cases h) (fun _=>hf)
theorem ay.int{X:Cx}{fn:Func}{R:Value→List HP→Prop}{e:Env}{L:List HP}(t:Nat)(h:fn.results=#[.tmp t]){k:IntKind}{a b:Int}(hv:look e t=some (.int k a))(hab:a=b){L':List HP}(he:jq X L L')(hR:R (.int k b) L'):ay X fn R e L:=by
 subst hab;exact ay.tmp t h hv he hR
theorem ay.bool{X:Cx}{fn:Func}{R:Value→List HP→Prop}{e:Env}{L:List HP}(t:Nat)(h:fn.results=#[.tmp t]){a b:Bool}(hv:look e t=some (.bool a))(hab:a=b){L':List HP}(he:jq X L L')(hR:R (.bool b) L'):ay X fn R e L:=by
 subst hab;exact ay.tmp t h hv he hR
theorem jq.refl{X:Cx}{L:List HP}:jq X L L:=fun _ h=>h
def O4(X:Cx){σ:Type}(E:σ→Env)(H:σ→List HP)(I:σ→Prop)(Q:Exit→Env→List HP→Prop):Exit→Env→List HP→Prop
 | .normal,e,L=>∃s,I s∧Sub (E s) e∧jq X L (H s)
 | x,e,L=>Q x e L
theorem VC.meet{X:Cx}{σ:Type}(E:σ→Env)(H:σ→List HP)(I:σ→Prop){b c:Code}{e:Env}{L:List HP}{Q:Exit→Env→List HP→Prop}
  (hb:VC X b e L (O4 X E H I Q)) (hc:∀s,I s→VC X c (E s) (H s) Q):VC X (.seq b c) e L Q:=by
 refine VC.seq (hb.mono fun x e' L' h=>?_)
 cases x with
 | normal=>
  obtain⟨s,hI,hE,hH⟩:=h
  exact((hc s hI).ar hH).sub hE
 | exit id=>exact h
 | goto l=>exact h
 | ret=>exact h
 | panic ch=>exact h
 | outgrown=>exact h
def aM(Fr:Nat→Prop)(L:List HP)(w:World):Prop:=∃F,dM L F w∧∀b∈F,Fr b
theorem mS{P:Program}{f:FuncId}(h:dW P f)(vals:Array Value)(w:World):(callFunc f vals).run P w=.ok (.enter f vals) w:=by
 obtain⟨fn,hf,hb,hn⟩:=h
 unfold callFunc
 rw[Sem.run_bind]
 show Result.andThen (.ok P w) _=_
 simp[Result.andThen,hf,hb,hn]
theorem uA{P:Program}{f:FuncId}(h:dW P f)(a:Act)(args:Array Operand)(tys:Array TypeId)(dst:Option Tmp)(ty:TypeId)(pos:String)(after:Array Edge)(guard:Option (Nat×Bool))(w:World):
  (execOp a.eval ⟨dst,.call ⟨.value (.func f),args,tys⟩,ty,pos,after,guard⟩).run P w=.ok (.enter f (args.map a.eval)) w:=by
 have:=mS h (args.map a.eval) w
 simp[execOp,resolve,Deferred.ofValue,Act.eval,invoke]
 exact this
theorem a8.call{X:Cx}{f:FuncId}{args:Array Operand}{tys:Array TypeId}{e:Env}{L Lc Lr:List HP}{vals:List Value}{R:Value→List HP→Prop}
  (hargs:lE e args.toList=some vals) (hp:L.Perm (Lc++Lr))
  (ht:∀Fr' w,(∀b,X.Fr b→Fr' b)→St X L w→aM Fr' Lr w→aH X.P f vals Fr' w Lc R):
  a8 X (.call ⟨.value (.func f),args,tys⟩) e L (fun v L'=>∃L1,R v L1∧L'=L1++Lr):=by
 intro a w ha hw dst ty pos after guard
 obtain⟨F,hs,hnd,hb⟩:=hw.sat.perm hp
 obtain⟨Fc,Fl,rfl,hsc,hsl⟩:=dM.append.1 hs
 have T:=ht (fun b=>X.Fr b∨b∈Fl) w (fun b h=>.inl h) hw ⟨Fl,hsl,fun b h=>.inr h⟩
 have hev:args.map a.eval=vals.toArray:=by
  have:=ha.lE hargs
  apply Array.toList_inj.1
  simpa using this
 refine .inr (.inr ⟨f,vals.toArray,?_,?_⟩)
 ·rw[←hev];exact uA T.om a args tys dst ty pos after guard w
 ·obtain⟨hnc,hnl,hdis⟩:=Z8.1 hnd
  refine Calls.mono (T.calls (fun b h=>?_) ⟨Fc,hsc,hnc,fun b h=>⟨fun h'=>?_,(hb b ya).2⟩⟩) fun en w' ⟨v,L',h1,h2,h3,h4⟩=>?_
  ·rcases h with h | h
   ·exact hw.nZ b h
   ·exact(hb b ya).2
  ·rcases h' with h' | h'
   ·exact(hb b ya).1 h'
   ·exact hdis b h b h' rfl
  ·refine⟨v,L'++Lr,h1,⟨L',h2,Z⟩,⟨?_,hw.cK.trans (h4.mono fun b h=>.inl h),hw.low⟩⟩
   obtain⟨G,hG,hGn,hGb⟩:=h3
   refine⟨G++Fl,dM.append.2 ⟨G,Fl,Z,hG,hsl.loc fun b h=>h4.block b (.inr h)⟩,?_,?_⟩
   ·exact UT
   ·intro b h
    rcases ZY.1 h with h | h
    ·exact UU
    ·exact TO
section
variable {X:Cx} {ops:Array Oper} {G:GS} {l:List Oper} {e:Env} {L:List HP} {K:Env→List HP→Prop}
  {dst:Option Tmp} {ty:TypeId} {pos:String} {after:Array Edge} {guard:Option (Nat×Bool)}
theorem VO.go(h:runK X.n X.tab ops.toList G l e (fun l' e'=>VO X ops G l' e' L K)):VO X ops G l e L K:=qh h
theorem VO.O5{f:FuncId}{args:Array Operand}{tys:Array TypeId}{vals:List Value}{R:Value→List HP→Prop}
  (hargs:lE e args.toList=some vals) (ht:∀Fr' w,aH X.P f vals Fr' w [] R)
  (hk:∀v L1,R v L1→VO X ops G l (cE dst v e) (L1++L) K)
  (hg:gT ops G guard=some true:=by rfl) (hd:bB X.n dst=true:=by rfl) (hf:bt G dst=true:=by rfl):
  VO X ops G (⟨dst,.call ⟨.value (.func f),args,tys⟩,ty,pos,after,guard⟩::l) e L K:=
 VO.op hg hd hf (a8.call hargs (Lc:=[]) (Lr:=L) (.refl _) fun Fr' w _ _ _=>ht Fr' w) fun v L' ⟨L1,h1,h2⟩=>by subst h2;exact hk v L1 h1
theorem VO.ik{f:FuncId}{args:Array Operand}{tys:Array TypeId}{vals:List Value}{u:Value}
  (ht:∀Fr' w,aH X.P f vals Fr' w [] (fun v L=>v=u∧L=[])) (hargs:lE e args.toList=some vals)
  (hk:VO X ops G l (cE dst u e) L K)
  (hg:gT ops G guard=some true:=by rfl) (hd:bB X.n dst=true:=by rfl) (hf:bt G dst=true:=by rfl):
  VO X ops G (⟨dst,.call ⟨.value (.func f),args,tys⟩,ty,pos,after,guard⟩::l) e L K:=
 VO.O5 hargs ht (fun v L1 ⟨h1,h2⟩=>by subst h1;subst h2;exact hk) hg hd hf
theorem VO.yes(d:Nat){b:Bool}(c:Bool)(hb:look e d=some (.bool b))(hc:b=c)(h:VO X ops ((d,c)::G) l ((d,.bool c)::e) L K)(hd:Nat.blt d X.n=true:=by rfl):VO X ops G l e L K:=by
 subst hc
 refine VO.split d hb hd (fun h'=>?_) (fun h'=>?_)
 ·subst h';exact h
 ·subst h';exact h
theorem VO.Bk{op:Op}{v:Value}(h:cY X op e v)(hk:VO X ops G l (cE dst v e) L K)
  (hg:gT ops G guard=some true:=by rfl) (hd:bB X.n dst=true:=by rfl) (hf:bt G dst=true:=by rfl):VO X ops G (⟨dst,op,ty,pos,after,guard⟩::l) e L K:=
 VO.op hg hd hf h.Sg (fun _ _ ⟨h1,h2⟩=>by subst h1;subst h2;exact hk)
theorem VO.arith{op:BinOp}{xt yt:TypeId}{x y:Operand}{k:IntKind}{a b:Int}(z:Int)
  (hx:ev e x=some (.int k a)) (hy:ev e y=some (.int k b))
  (hz:(match op with | .add=>k.wrap (a+b)=z | .sub=>k.wrap (a-b)=z | .mul=>k.wrap (a*b)=z | _=>False))
  (hk:VO X ops G l (cE dst (.int k z) e) L K)
  (hg:gT ops G guard=some true:=by rfl) (hd:bB X.n dst=true:=by rfl) (hf:bt G dst=true:=by rfl):
  VO X ops G (⟨dst,.binOp op xt x y yt,ty,pos,after,guard⟩::l) e L K:=by
 refine VO.op (M:=fun v L'=>v=.int k z∧L'=L) hg hd hf ?_ (fun v L' ⟨h1,h2⟩=>by subst h1;subst h2;exact hk)
 intro a' w ha hw dst ty pos after guard
 refine .inl ⟨_,w,L,?_,⟨rfl,Z⟩,hw⟩
 cases op<;>simp only at hz
 case add=>simp[execOp,ha.ev hx,ha.ev hy,eqGuard,binOp,Op.intArith,hz]
 case sub=>simp[execOp,ha.ev hx,ha.ev hy,eqGuard,binOp,Op.intArith,hz]
 case mul=>simp[execOp,ha.ev hx,ha.ev hy,eqGuard,binOp,Op.intArith,hz]
end
theorem i64_in(n:Int)(h1:-9223372036854775808≤n)(h2:n≤9223372036854775807):IntKind.i64.wrap n=n:=IntWalk.i64_in n ⟨h1,h2⟩
section
variable {X:Cx} {ops:Array Oper} {G:GS} {l:List Oper} {e:Env} {L:List HP} {K:Env→List HP→Prop}
  {dst:Option Tmp} {ty:TypeId} {pos:String} {after:Array Edge} {guard:Option (Nat×Bool)}
theorem VO.add{xt yt:TypeId}{x y:Operand}{a b:Int}(hx:ev e x=some (.int .i64 a))(hy:ev e y=some (.int .i64 b))(h1:-9223372036854775808≤a+b)(h2:a+b≤9223372036854775807)
  (hk:VO X ops G l (cE dst (.int .i64 (a+b)) e) L K)
  (hg:gT ops G guard=some true:=by rfl) (hd:bB X.n dst=true:=by rfl) (hf:bt G dst=true:=by rfl):
  VO X ops G (⟨dst,.binOp .add xt x y yt,ty,pos,after,guard⟩::l) e L K:=VO.arith (a+b) hx hy (i64_in _ h1 h2) hk hg hd hf
theorem VO.zp{xt yt:TypeId}{x y:Operand}{a b:Int}(hx:ev e x=some (.int .i64 a))(hy:ev e y=some (.int .i64 b))(h1:-9223372036854775808≤a-b)(h2:a-b≤9223372036854775807)
  (hk:VO X ops G l (cE dst (.int .i64 (a-b)) e) L K)
  (hg:gT ops G guard=some true:=by rfl) (hd:bB X.n dst=true:=by rfl) (hf:bt G dst=true:=by rfl):
  VO X ops G (⟨dst,.binOp .sub xt x y yt,ty,pos,after,guard⟩::l) e L K:=VO.arith (a-b) hx hy (i64_in _ h1 h2) hk hg hd hf
end
end Vg
namespace Vg
open Go
def ki(cs:List Value)(off:Nat)(vs:List Value):List Value:=cs.take off++vs++cs.drop (off+vs.length)
theorem zr(cs:List Value)(off:Nat):ki cs off []=cs:=by simp[ki]
theorem zt(cs:List Value)(off:Nat)(v:Value)(h:off<cs.length):ki cs off [v]=cs.set off v:=by
 simp[ki,List.set_eq_take_append_cons_drop,h]
theorem Bl{cs vs:List Value}{off:Nat}{v:Value}(h:off+(vs.length+1)≤cs.length):ki (cs.set off v) (off+1) vs=ki cs off (v::vs):=by
 unfold ki
 have h1:off<cs.length:=by omega
 rw[List.set_eq_take_append_cons_drop,if_pos h1]
 have e1:(cs.take off++v::cs.drop (off+1)).take (off+1)=cs.take off ++ [v]:=by
  rw[List.take_append,Z1,Nat.min_eq_left yd,show off+1-off=1 from by omega,List.take_of_length_le ye]
  simp
 have e2:(cs.take off++v::cs.drop (off+1)).drop (off+1+vs.length)=cs.drop (off+(vs.length+1)):=by
  rw[List.drop_append,Z1,Nat.min_eq_left yd,List.drop_of_length_le ye]
  rw[show off+1+vs.length-off=vs.length+1 from by omega]
  simp;congr 1;omega
 rw[e1,e2]
 simp
def bC(w:World)(b:Nat)(o:Obj):World:={ w with heap:=w.heap.setIfInBounds b o }
theorem Bm{w:World}{b:Nat}{o:Obj}(h:w.heap[b]?=some o):bC w b o=w:=by
 unfold bC
 have:w.heap.setIfInBounds b o=w.heap:=by
  apply Array.ext_getElem?
  intro i
  by_cases hi:b=i
  ·subst hi
   have hlt:b<w.heap.size:=(Array.getElem?_eq_some_iff.1 h).1
   rw[Array.getElem?_setIfInBounds_self_of_lt hlt,h]
  ·rw[Array.getElem?_setIfInBounds_ne hi]
 rw[this]
theorem wK(w:World)(b:Nat)(o o':Obj):bC (bC w b o) b o'=bC w b o':=by
 simp[bC]
theorem eL{w:World}{b:Nat}{o o':Obj}(h:w.heap[b]?=some o'):(bC w b o).heap[b]?=some o:=by
 have hlt:b<w.heap.size:=(Array.getElem?_eq_some_iff.1 h).1
 simp[bC,hlt]
theorem ku{w:World}{b c:Nat}{o:Obj}(h:b≠c):(bC w b o).heap[c]?=w.heap[c]?:=by
 simp[bC,Array.getElem?_setIfInBounds_ne h]
theorem oo(w:World)(b:Nat)(o:Obj):(bC w b o).heap.size=w.heap.size:=by simp[bC]
theorem kx{w:World}{b off:Nat}{cs:List Value}{t:TypeId}{v:Value}(h:w.heap[b]?=some (.cells cs.toArray t (0,0))):
  w.setCell ⟨b,off,none⟩ v=bC w b (.cells (cs.set off v).toArray t (0,0)):=by
 have hlt:b<w.heap.size:=(Array.getElem?_eq_some_iff.1 h).1
 have e:(w.setCell ⟨b,off,none⟩ v).heap=w.heap.setIfInBounds b (.cells (cs.set off v).toArray t (0,0)):=by
  apply Array.ext_getElem?
  intro i
  by_cases hi:i=b
  ·subst hi
   rw[heap_setCell_same w i off cs.toArray t v h,Array.getElem?_setIfInBounds_self_of_lt hlt]
   simp
  ·rw[heap_setCell_other w _ i v hi,Array.getElem?_setIfInBounds_ne (Ne.symm hi)]
 have e1:w.setCell ⟨b,off,none⟩ v={ w with heap:=(w.setCell ⟨b,off,none⟩ v).heap }:=rfl
 rw[e1,e];rfl
theorem hO{P:Program}{b t:Nat}:∀(vs:List Value) (i off:Nat) (w:World) (cs:List Value),w.heap[b]?=some (.cells cs.toArray t (0,0)) →
  off+i+vs.length≤cs.length→vs.all Value.oneCell'=true →
  (storeCells ⟨b,off,none⟩ vs i).run P w=.ok () (bC w b (.cells (ki cs (off+i) vs).toArray t (0,0)))
 | [],i,off,w,cs,h,_,_=>by
  rw[zr,Bm h];rfl
 | v::vs,i,off,w,cs,h,hl,h1=>by
  simp only[List.all_cons,Z2] at h1
  have hcell:w.cell? ⟨b,off+i,none⟩=cs[off+i]?:=by rw[cell_of_row w b (off+i) cs.toArray t (0,0) h];simp
  have hlt:off+i<cs.length:=by simp at hl;omega
  have hfz:=frozen_of_row w b (off+i) cs.toArray t h
  have e:(store ((⟨b,off,none⟩:Addr).add i) v).run P w=.ok () (bC w b (.cells (cs.set (off+i) v).toArray t (0,0))):=by
   rw[Addr.add_mid,←kx h]
   have hc:w.cell? ⟨b,off+i,none⟩=some cs[off+i]:=by rw[hcell];simp[hlt]
   have h10:=h1.1
   cases v<;>first
    | (simp[Value.oneCell'] at h10;done)
    | simp[store,Sem.run,hc,hfz]
  unfold storeCells
  rw[Sem.run_bind,e]
  show(storeCells ⟨b,off,none⟩ vs (i+1)).run P _=_
  have hh:(bC w b (.cells (cs.set (off+i) v).toArray t (0,0))).heap[b]?=some (.cells (cs.set (off+i) v).toArray t (0,0)):=eL h
  rw[hO vs (i+1) off _ (cs.set (off+i) v) hh (by simp at hl ⊢;omega) h1.2,wK]
  rw[show off+(i+1)=off+i+1 from by omega,Bl (by simp at hl;omega)]
theorem dM.get:∀{L:List HP} {F:List Nat} {w:World} {i:Nat} {H:HP},dM L F w→L[i]?=some H→∃ids,H.sat ids w∧∀b∈ids,b∈F
 | [],_,_,_,_,_,h=>by simp at h
 | _::L,F,w,0,H,⟨j,G,hF,hj,_⟩,h=>by
  simp only[List.getElem?_cons_zero,Option.some.injEq] at h
  subst h;subst hF
  exact⟨j,hj,fun b hb=>by simp[hb]⟩
 | _::L,F,w,i+1,H,⟨j,G,hF,_,hG⟩,h=>by
  simp only[List.getElem?_cons_succ] at h
  obtain⟨ids,h1,h2⟩:=dM.get hG h
  subst hF
  exact⟨ids,h1,fun b hb=>by simp[h2 b hb]⟩
theorem St.zu{X:Cx}{L:List HP}{w:World}(h:St X L w){i b t:Nat}{cs:List Value}(hL:L[i]?=some (pt b cs t)):
  w.heap[b]?=some (.cells cs.toArray t (0,0))∧¬X.Fr b:=by
 obtain⟨F,hs,_,hb⟩:=h.sat
 obtain⟨ids,h1,h2⟩:=hs.get hL
 obtain⟨rfl,h1⟩:=h1
 exact⟨h1,(hb b (h2 b yf)).1⟩
theorem dM.set:∀{L:List HP} {F:List Nat} {w w':World} {i b t t':Nat} {cs cs':List Value},dM L F w→F.Nodup→L[i]?=some (pt b cs t) →
  w'.heap[b]?=some (.cells cs'.toArray t' (0,0))→(∀c,c≠b→w'.heap[c]?=w.heap[c]?)→dM (L.set i (pt b cs' t')) F w'
 | [],_,_,_,_,_,_,_,_,_,_,_,h,_,_=>by simp at h
 | _::L,F,w,w',0,b,t,t',cs,cs',⟨j,G,hF,hj,hG⟩,hn,h,h1,h2=>by
  simp only[List.getElem?_cons_zero,Option.some.injEq] at h
  subst h;subst hF
  obtain⟨rfl,hj⟩:=hj
  refine⟨[b],G,Z,⟨rfl,h1⟩,hG.loc fun c hc=>h2 c fun he=>?_⟩
  subst he
  simp at hn
  exact hn.1 hc
 | H::L,F,w,w',i+1,b,t,t',cs,cs',⟨j,G,hF,hj,hG⟩,hn,h,h1,h2=>by
  simp only[List.getElem?_cons_succ] at h
  subst hF
  obtain⟨hnj,hnG,hd⟩:=Z8.1 hn
  obtain⟨ids,hp,hm⟩:=hG.get h
  obtain⟨rfl,_⟩:=hp
  have hb:=hm b yf
  exact⟨j,G,Z,H.loc j w w' (fun c hc=>h2 c fun he=>hd c hc b hb he) hj,dM.set hG hnG h h1 h2⟩
theorem St.set{X:Cx}{L:List HP}{w:World}(h:St X L w){i b t:Nat}{cs cs':List Value}(hL:L[i]?=some (pt b cs t)):
  St X (L.set i (pt b cs' t)) (bC w b (.cells cs'.toArray t (0,0))):=by
 obtain⟨h0,hf⟩:=h.zu hL
 obtain⟨F,hs,hn,hb⟩:=h.sat
 refine⟨⟨F,hs.set hn hL (eL h0) (fun c hc=>ku (Ne.symm hc)),hn,fun c hc=>⟨(hb c hc).1,by rw[oo];exact(hb c hc).2⟩⟩,?_,h.low⟩
 exact XE
theorem St.alloc{X:Cx}{L:List HP}{w:World}(h:St X L w)(cs:List Value)(t:Nat):St X (pt w.heap.size cs t::L) (w.alloc (.cells cs.toArray t)):=
 ⟨h.sat.alloc h.nZ _ _ ⟨rfl,heap_alloc_new w _⟩,h.cK.trans (dH.alloc h.nZ _),h.low⟩
def Rd(agg:Bool)(n b off:Nat)(v:Value)(w:World):Prop:=
 match agg with
 | true=>∃cs:List Value,v=.agg cs.toArray∧cs.length=n∧w.rangeAt b off cs
 | false=>w.cell? ⟨b,off,none⟩=some v
theorem az.Sj{P:Program}{t:Nat}{ti:TI}(h:az P t ti)(w:World):(isAgg t).run P w=.ok ti.aU.agg w:=by
 obtain⟨d,hd,hr⟩:=KT h w
 have hu:=h.aU
 unfold Go.isAgg
 rw[Sem.run_bind,hr]
 unfold kW at hu
 rw[hd] at hu
 cases d<;>simp at hu<;>rw[←hu]<;>rfl
theorem az.kY{P:Program}{t:Nat}{ti:TI}(h:az P t ti):∃i,P.info? t=some i∧i.size=ti.size∧i.bytes=ti.bytes∧i.zero=some ti.zero:=by
 have:=h.info
 cases hi:P.info? t with
 | none=>simp[hi] at this
 | some i=>exact⟨i,rfl,by simpa[hi] using this⟩
theorem uB{P:Program}{t:Nat}{ti:TI}(h:az P t ti){b off:Nat}{v:Value}{w:World}(hr:Rd ti.aU.agg ti.size b off v w):
  (Instr.loadAt t (.pointer (some ⟨b,off,none⟩))).run P w=.ok v w:=by
 obtain⟨i,hi,hs,_,_⟩:=h.kY
 have ha:=h.Sj w
 unfold Instr.loadAt
 simp only[Instr.sureAddr,Sem.run_bind,Sem.run_pure,Result.andThen_ok,loadVar,ha]
 cases hg:ti.aU.agg
 ·rw[hg] at hr
  simp only[Rd] at hr
  simp[Go.load,Sem.run,hr]
 ·rw[hg] at hr
  simp only[Rd] at hr
  obtain⟨cs,rfl,hl,hc⟩:=hr
  have hload:(loadCells ⟨b,off,none⟩ cs.length).run P w=.ok cs.toArray w:=
   run_loadCells_list (P:=P) w ⟨b,off,none⟩ cs (fun j v hv=>by rw[Addr.add_mid];exact hc j v hv)
  simp[Sem.run_bind,dI hi,hs,←hl,hload]
def aE(X:Cx)(L:List HP)(ti:TI)(b off:Nat)(v:Value):Prop:=∀w,St X L w→Rd ti.aU.agg ti.size b off v w
theorem zw{w:World}{b t:Nat}{cs:List Value}{fz:Nat×Nat}(h:w.heap[b]?=some (.cells cs.toArray t fz)){off:Nat}{v:Value}{n:Nat}(hv:cs[off]?=some v):Rd false n b off v w:=by
 show w.cell? _=_
 rw[cell_of_row w b off cs.toArray t fz h];simpa using hv
theorem Ie{w:World}{b t:Nat}{cs:List Value}{fz:Nat×Nat}(h:w.heap[b]?=some (.cells cs.toArray t fz)){off n:Nat}{ds:List Value}(hd:(cs.drop off).take n=ds)(hl:ds.length=n):Rd true n b off (.agg ds.toArray) w:=by
 refine⟨ds,Z,hl,fun j v hv=>?_⟩
 rw[cell_of_row w b (off+j) cs.toArray t fz h]
 have hj:j<ds.length:=(ZP.1 hv).1
 rw[←hd] at hv
 rw[List.getElem?_take,if_pos yd,List.getElem?_drop] at hv
 simpa using hv
theorem aE.one{X:Cx}{L:List HP}{ti:TI}{b off t:Nat}{cs:List Value}{v:Value}(i:Nat)(hL:L[i]?=some (pt b cs t))(hv:cs[off]?=some v)(ha:ti.aU.agg=false:=by rfl):aE X L ti b off v:=fun w hw=>by
 rw[ha];exact zw (hw.zu hL).1 hv
theorem aE.many{X:Cx}{L:List HP}{ti:TI}{b off t:Nat}{cs ds:List Value}(i:Nat)(hL:L[i]?=some (pt b cs t))(hd:(cs.drop off).take ti.size=ds)(hl:ds.length=ti.size:=by rfl)(ha:ti.aU.agg=true:=by rfl):aE X L ti b off (.agg ds.toArray):=fun w hw=>by
 rw[ha];exact Ie (hw.zu hL).1 hd hl
theorem aE.ZB{X:Cx}{L:List HP}{ti:TI}{b off t:Nat}{cs:List Value}{fz:Nat×Nat}{v:Value}(hF:X.Fr b)(h0:X.w0.heap[b]?=some (.cells cs.toArray t fz))(hv:cs[off]?=some v)(ha:ti.aU.agg=false:=by rfl):aE X L ti b off v:=fun w hw=>by
 rw[ha];exact zw ((hw.cK.block b hF).trans h0) hv
theorem aE.ZC{X:Cx}{L:List HP}{ti:TI}{b off t:Nat}{cs ds:List Value}{fz:Nat×Nat}(hF:X.Fr b)(h0:X.w0.heap[b]?=some (.cells cs.toArray t fz))(hd:(cs.drop off).take ti.size=ds)(hl:ds.length=ti.size:=by rfl)(ha:ti.aU.agg=true:=by rfl):aE X L ti b off (.agg ds.toArray):=fun w hw=>by
 rw[ha];exact Ie ((hw.cK.block b hF).trans h0) hd hl
theorem aE.rd{X:Cx}{L:List HP}{ti:TI}{b off:Nat}{v:Value}(hF:X.Fr b)(h0:Rd ti.aU.agg ti.size b off v X.w0):aE X L ti b off v:=fun w hw=>by
 have hb:=hw.cK.block b hF
 cases hg:ti.aU.agg
 ·rw[hg] at h0
  show w.cell? _=_
  unfold World.cell?;rw[hb];exact h0
 ·rw[hg] at h0
  obtain⟨cs,h1,h2,h3⟩:=h0
  refine⟨cs,h1,h2,fun j v hv=>?_⟩
  have:=h3 j v hv
  unfold World.cell? at this ⊢;rw[hb];exact this
section
variable {X:Cx} {ops:Array Oper} {G:GS} {l:List Oper} {e:Env} {L:List HP} {K:Env→List HP→Prop}
  {dst:Option Tmp} {ty:TypeId} {pos:String} {after:Array Edge} {guard:Option (Nat×Bool)}
theorem run_load{T:TypeId}{x:Operand}{ti:TI}{b off:Nat}{v:Value}(hx:ev e x=some (.pointer (some ⟨b,off,none⟩)))(hT:aL X.tab T=some ti)
  {a:Act} (ha:kq X.n a e) {w:World} (hr:Rd ti.aU.agg ti.size b off v w) (dst:Option Tmp) (ty:TypeId) (pos:String) (after:Array Edge) (guard:Option (Nat×Bool)):
  (execOp a.eval ⟨dst,.load T x,ty,pos,after,guard⟩).run X.P w=.ok (.value v) w:=by
 simp only[execOp,ha.ev hx]
 rw[Sem.run_bind,uB (X.ok.look hT) hr];rfl
theorem a8.load{T:TypeId}{x:Operand}{ti:TI}{b off:Nat}{v:Value}(hx:ev e x=some (.pointer (some ⟨b,off,none⟩)))(hT:aL X.tab T=some ti)(hr:aE X L ti b off v):
  a8 X (.load T x) e L (fun u L'=>u=v∧L'=L):=fun _ w ha hw dst ty pos after guard=>
 .inl ⟨v,w,L,run_load hx hT ha (hr w hw) dst ty pos after guard,⟨rfl,rfl⟩,hw⟩
theorem VO.load{T:TypeId}{x:Operand}{ti:TI}{b off:Nat}{v:Value}(hx:ev e x=some (.pointer (some ⟨b,off,none⟩)))(hT:aL X.tab T=some ti)(hr:aE X L ti b off v)
  (hk:VO X ops G l (cE dst v e) L K)
  (hg:gT ops G guard=some true:=by rfl) (hd:bB X.n dst=true:=by rfl) (hf:bt G dst=true:=by rfl):
  VO X ops G (⟨dst,.load T x,ty,pos,after,guard⟩::l) e L K:=
 VO.op hg hd hf (a8.load hx hT hr) (fun _ _ ⟨h1,h2⟩=>by subst h1;subst h2;exact hk)
theorem VO.ld{T:TypeId}{x:Operand}{ti:TI}{b off t:Nat}{cs:List Value}{v:Value}(i:Nat)(hx:ev e x=some (.pointer (some ⟨b,off,none⟩)))(hL:L[i]?=some (pt b cs t))(hT:aL X.tab T=some ti)(hv:cs[off]?=some v)
  (hk:VO X ops G l (cE dst v e) L K) (ha:ti.aU.agg=false:=by rfl)
  (hg:gT ops G guard=some true:=by rfl) (hd:bB X.n dst=true:=by rfl) (hf:bt G dst=true:=by rfl):
  VO X ops G (⟨dst,.load T x,ty,pos,after,guard⟩::l) e L K:=VO.load hx hT (aE.one i hL hv ha) hk hg hd hf
theorem VO.ky{T:TypeId}{x:Operand}{ti:TI}{b off t:Nat}{cs:List Value}(i:Nat)(ds:List Value)(hx:ev e x=some (.pointer (some ⟨b,off,none⟩)))(hL:L[i]?=some (pt b cs t))(hT:aL X.tab T=some ti)(hv:(cs.drop off).take ti.size=ds)
  (hk:VO X ops G l (cE dst (.agg ds.toArray) e) L K) (hl:ds.length=ti.size:=by rfl) (ha:ti.aU.agg=true:=by rfl)
  (hg:gT ops G guard=some true:=by rfl) (hd:bB X.n dst=true:=by rfl) (hf:bt G dst=true:=by rfl):
  VO X ops G (⟨dst,.load T x,ty,pos,after,guard⟩::l) e L K:=VO.load hx hT (aE.many i hL hv hl ha) hk hg hd hf
theorem Bn{P:Program}{T:Nat}{ti:TI}(h:az P T ti){w:World}{b off t:Nat}{cs vs:List Value}{v:Value}(hb:w.heap[b]?=some (.cells cs.toArray t (0,0)))(hv:v.cells=vs.toArray)(hs:vs.length=ti.size)(hl:off+vs.length≤cs.length)(h1:vs.all Value.oneCell'=true):
  (Instr.storeAt T (.pointer (some ⟨b,off,none⟩)) v).run P w=.ok () (bC w b (.cells (ki cs off vs).toArray t (0,0))):=by
 obtain⟨i,hi,hsz,_,_⟩:=h.kY
 have hr:=hO (P:=P) vs 0 off w cs hb (by simpa using hl) h1
 simp only[Nat.add_zero] at hr
 have hcs:¬(v.cells.size≠i.size):=by rw[hv,hsz];simp[hs]
 simp[Instr.storeAt,Instr.sureAddr,storeVar,Sem.run_bind,dI hi,hv,hsz,hs,hr]
theorem a8.store{T:TypeId}{x y:Operand}{ti:TI}{b off t:Nat}{cs vs:List Value}{v:Value}(i:Nat)(hx:ev e x=some (.pointer (some ⟨b,off,none⟩)))(hy:ev e y=some v)(hL:L[i]?=some (pt b cs t))
  (hT:aL X.tab T=some ti) (hv:v.cells=vs.toArray) (hs:vs.length=ti.size) (hl:off+vs.length≤cs.length) (h1:vs.all Value.oneCell'=true):
  a8 X (.store T x y) e L (fun u L'=>u=undef∧L'=L.set i (pt b (ki cs off vs) t)):=fun a w ha hw dst ty pos after guard=>by
 refine .inr (.inl ⟨_,_,?_,⟨rfl,Z⟩,hw.set hL⟩)
 simp only[execOp,ha.ev hx,ha.ev hy]
 rw[Sem.run_bind,Bn (X.ok.look hT) (hw.zu hL).1 hv hs hl h1];rfl
theorem VO.st{T:TypeId}{x y:Operand}{ti:TI}{b off t:Nat}{cs cs':List Value}{v:Value}{L':List HP}(i:Nat)(hx:ev e x=some (.pointer (some ⟨b,off,none⟩)))(hy:ev e y=some v)(hL:L[i]?=some (pt b cs t))
  (hT:aL X.tab T=some ti) (hlt:off<cs.length) (hcs:cs.set off v=cs') (hL':L.set i (pt b cs' t)=L')
  (hk:VO X ops G l (cE dst undef e) L' K) (h1:v.oneCell'=true:=by rfl) (hv:v.cells=#[v]:=by rfl) (hsz:ti.size=1:=by rfl)
  (hg:gT ops G guard=some true:=by rfl) (hd:bB X.n dst=true:=by rfl) (hf:bt G dst=true:=by rfl):
  VO X ops G (⟨dst,.store T x y,ty,pos,after,guard⟩::l) e L K:=by
 refine VO.op hg hd hf (a8.store (vs:=[v]) i hx hy hL hT hv (by simp[hsz]) ye yg) (fun _ _ ⟨h3,h4⟩=>?_)
 subst h3;subst h4
 rw[zt cs off v hlt,hcs,hL'];exact hk
theorem VO.Sk{T:TypeId}{x y:Operand}{ti:TI}{b off t:Nat}{cs cs' vs:List Value}{L':List HP}(i:Nat)(hx:ev e x=some (.pointer (some ⟨b,off,none⟩)))(hy:ev e y=some (.agg vs.toArray))(hL:L[i]?=some (pt b cs t))
  (hT:aL X.tab T=some ti) (hl:off+vs.length≤cs.length) (hcs:ki cs off vs=cs') (hL':L.set i (pt b cs' t)=L') (h1:vs.all Value.oneCell'=true)
  (hk:VO X ops G l (cE dst undef e) L' K) (hs:vs.length=ti.size:=by rfl)
  (hg:gT ops G guard=some true:=by rfl) (hd:bB X.n dst=true:=by rfl) (hf:bt G dst=true:=by rfl):
  VO X ops G (⟨dst,.store T x y,ty,pos,after,guard⟩::l) e L K:=by
 refine VO.op hg hd hf (a8.store (vs:=vs) i hx hy hL hT Z hs hl h1) (fun _ _ ⟨h3,h4⟩=>?_)
 subst h3;subst h4
 rw[hcs,hL'];exact hk
theorem kz{P:Program}{t:Nat}{ti:TI}(h:az P t ti)(w:World):(zeroValue t).run P w=.ok ti.zero w:=by
 obtain⟨i,hi,_,_,hz⟩:=h.kY
 simp[zeroValue,typeInfo,hi,hz]
theorem a8.alloc{T:TypeId}{ti:TI}(hT:aL X.tab T=some ti):a8 X (.alloc T) e L (fun u L'=>∃b,u=.pointer (some ⟨b,0,none⟩)∧L'=pt b ti.zs T::L):=fun a w _ hw dst ty pos after guard=>by
 refine .inl ⟨.pointer (some ⟨w.heap.size,0,none⟩),w.alloc (.cells ti.zs.toArray T),pt w.heap.size ti.zs T::L,?_,⟨w.heap.size,Z,Z⟩,hw.alloc ti.zs T⟩
 have h:=X.ok.look hT
 simp[execOp,Instr.alloc,kz h,newVar,newRow,newObj,Sem.run,h.zero]
theorem VO.alloc{T:TypeId}{ti:TI}(hT:aL X.tab T=some ti)(hk:∀b,VO X ops G l (cE dst (.pointer (some ⟨b,0,none⟩)) e) (pt b ti.zs T::L) K)
  (hg:gT ops G guard=some true:=by rfl) (hd:bB X.n dst=true:=by rfl) (hf:bt G dst=true:=by rfl):
  VO X ops G (⟨dst,.alloc T,ty,pos,after,guard⟩::l) e L K:=
 VO.op hg hd hf (a8.alloc hT) (fun _ _ ⟨b,h1,h2⟩=>by subst h1;subst h2;exact hk b)
theorem a8.box{T:TypeId}{x:Operand}{v:Value}{vs:List Value}(hx:ev e x=some v)(hv:v.cells=vs.toArray):a8 X (.box T x) e L (fun u L'=>∃b,u=.pointer (some ⟨b,0,none⟩)∧L'=pt b vs T::L):=fun a w ha hw dst ty pos after guard=>by
 refine .inl ⟨.pointer (some ⟨w.heap.size,0,none⟩),w.alloc (.cells vs.toArray T),pt w.heap.size vs T::L,?_,⟨w.heap.size,Z,Z⟩,hw.alloc vs T⟩
 simp[execOp,Instr.box,ha.ev hx,newVar,newRow,newObj,Sem.run,hv]
theorem VO.Sl{T:TypeId}{x:Operand}{vs:List Value}(hx:ev e x=some (.agg vs.toArray))(hk:∀b,VO X ops G l (cE dst (.pointer (some ⟨b,0,none⟩)) e) (pt b vs T::L) K)
  (hg:gT ops G guard=some true:=by rfl) (hd:bB X.n dst=true:=by rfl) (hf:bt G dst=true:=by rfl):
  VO X ops G (⟨dst,.box T x,ty,pos,after,guard⟩::l) e L K:=
 VO.op hg hd hf (a8.box hx rfl) (fun _ _ ⟨b,h1,h2⟩=>by subst h1;subst h2;exact hk b)
theorem VO.Sm{T:TypeId}{x:Operand}{v:Value}(hx:ev e x=some v)(hk:∀b,VO X ops G l (cE dst (.pointer (some ⟨b,0,none⟩)) e) (pt b [v] T::L) K)(hv:v.cells=#[v]:=by rfl)
  (hg:gT ops G guard=some true:=by rfl) (hd:bB X.n dst=true:=by rfl) (hf:bt G dst=true:=by rfl):
  VO X ops G (⟨dst,.box T x,ty,pos,after,guard⟩::l) e L K:=
 VO.op hg hd hf (a8.box hx hv) (fun _ _ ⟨b,h1,h2⟩=>by subst h1;subst h2;exact hk b)
end
end Vg
namespace Vg
open Go
def waits(ops:Array Oper)(j i:Nat):Bool:=
 match ops[j]? with
 | some o=>o.after.any fun e=>Region.binds .any e&&e.on == i
 | none=>false
theorem Bo{P:Program}{ρ:Operand→Value}{o:Oper}{w w':World}{v:Value}(h:(execOp ρ o).run P w=.ok (.value v) w'):∀c,o.op≠.defer c:=by
 obtain⟨dst,op,ty,pos,after,guard⟩:=o
 rintro c rfl
 have e:execOp ρ ⟨dst,.defer c,ty,pos,after,guard⟩=(do pure (.defer (←resolve ρ c ty))):=rfl
 rw[e,Sem.run_bind] at h
 cases h2:(resolve ρ c ty).run P w with
 | ok d w2=>rw[h2] at h;cases h
 | halt y w2=>rw[h2] at h;cases h
section
variable {P:Program} {ops:Array Oper} {Q:Exit→Act→World→Prop} {ro:Option Nat}
theorem Gj(o:Oper)(hs:∀cs b,o.op≠.select cs b)(a:Act)(dst:Option Tmp)(v:Value)(h:∀d,dst=some d→d∉o.looksAt ops):
  o.semAt (wR ro).round (a.put dst v).eval=o.semAt (wR ro).round a.eval:=by
 by_cases hd:∃c,o.op=.defer c
 ·obtain⟨c,hc⟩:=hd
  have hr:=resolve_congr (ρ:=(a.put dst v).eval) (ρ':=a.eval) c o.type fun x hx=>Act.eval_put fun d hd hxd=>h d hd (by
   subst hxd
   exact List.mem_append_left _ (List.mem_filterMap.2 ⟨.tmp d,by rw[hc];simpa[Op.operands] using hx,Z⟩))
  unfold Oper.semAt
  cases hro:(wR ro).round with
  | none=>exact execOp_put o hs a dst v h
  | some l=>
   rw[hc]
   dsimp only
   rw[hr]
 ·have hn:∀c,o.op≠.defer c:=fun c e=>hd ⟨c,e⟩
  rw[Oper.semAt_eq _ _ o hn,Oper.semAt_eq _ _ o hn,execOp_put o hs a dst v h]
theorem xy{S:World→Prop}{i:Nat}{o:Oper}{v:Value}{a:Act}(hi:ops[i]?=some o)(hy:YieldsIf P ops S o v a)
  {K:Act→World→Prop} {w:World} (hS:S w) (h:K (a.put o.dst v) w):wpOpIn (wR ro) 0 P ops Q i K a w:=by
 unfold wpOpIn
 simp only[hi]
 rcases hy with ⟨hw,hv⟩ | ⟨hw,rfl⟩
 ·simp only[hw,if_true]
  refine⟨fun _ _=>trivial,?_⟩
  rw[ux ro _ o (Bo (hv w hS)),hv w hS]
  exact h
 ·simp only[hw,Bool.false_eq_true,if_false]
  exact⟨fun _ _=>trivial,h⟩
theorem zy{S:World→Prop}{j:Nat}{oi oj:Oper}{v:Value}(hj:ops[j]?=some oj)(hap:oi.apart ops oj=true)
  (hsi:∀cs b,oi.op≠.select cs b) (hsj:∀cs b,oj.op≠.select cs b)
  (hQ:∀c a w,Q (.panic c) (a.put oi.dst v) w→Q (.panic c) a w) {K:Act→World→Prop} {a:Act} {w:World}
  (hy:YieldsIf P ops S oi v a) (h:wpOpIn (wR ro) 0 P ops Q j K (a.put oi.dst v) w):
  wpOpIn (wR ro) 0 P ops Q j (fun a' w'=>YieldsIf P ops S oi v a'∧K (a'.put oi.dst v) w') a w:=by
 obtain⟨h1,h2,h3⟩:=Oper.apart_spec hap
 have cK:∀(a:Act),YieldsIf P ops S oi v a→∀u,YieldsIf P ops S oi v (a.put oj.dst u):=fun a hy u=>
  hy.of_same (execOp_put oi hsi a oj.dst u h3) (wanted_put oi a oj.dst u h3)
 have lD:∀d,YieldsIf P ops S oi v { a with defers:=d::a.defers }:=fun d=>hy.of_same rfl rfl
 unfold wpOpIn at *
 simp only[hj] at *
 rw[wanted_put oj a oi.dst v h1] at h
 split
 ·rename_i hw
  simp only[hw,if_true] at h
  refine⟨fun _ _=>trivial,?_⟩
  have h:=h.2
  rw[Gj oj hsj a oi.dst v h1] at h
  generalize (oj.semAt (wR ro).round a.eval).run P w=r at *
  cases r with
  | ok x w'=>
   cases x<;>simp only[Oper.uponIn] at h ⊢
   case value u=>exact⟨cK a hy u,by rw[←Act.put_comm a v u h2];exact h⟩
   case skip=>exact⟨cK a hy _,by rw[←Act.put_comm a v undef h2];exact h⟩
   case defer d=>
    refine⟨cK _ (lD d) _,?_⟩
    rw[←Act.put_comm _ v undef h2,←Act.put_defers]
    exact h
   case enter f args=>
    refine⟨h.1,CallsIn.mono h.2 fun e w'' he=>?_⟩
    cases e with
    | returned u=>exact⟨cK a hy u,by rw[←Act.put_comm a v u h2];exact he⟩
    | panicked c=>exact hQ _ _ _ he
    | outgrown=>exact he
   case row row args=>exact⟨h.1,RowsIn.mono h.2 fun u w'' he=>⟨cK a hy u,by rw[←Act.put_comm a v u h2];exact he⟩⟩
   case round l f tmps assign body=>
    refine⟨h.1,RoundIn.mono h.2 fun e w'' he=>?_⟩
    cases e with
    | returned u=>exact⟨cK a hy u,by rw[←Act.put_comm a v u h2];exact he⟩
    | panicked c=>exact hQ _ _ _ he
    | outgrown=>exact he
  | halt x w'=>
   cases x<;>simp only[Oper.uponIn] at h ⊢
   case panic u=>exact hQ _ _ _ h
 ·rename_i hw
  simp only[hw] at h
  exact⟨fun _ _=>trivial,cK a hy _,by rw[←Act.put_comm a v undef h2];exact h.2⟩
end
section
variable {P:Program} {ops:Array Oper} {Q:Exit→Act→World→Prop} {ro:Option Nat}
abbrev lF:=List (Nat×(World→Prop))
def mT(ro:Option Nat)(P:Program)(ops:Array Oper)(Q:Exit→Act→World→Prop):Nat→Array Bool→lF→Act→World→Prop
 | 0,listed,_,a,w=>Region.ready .any ops listed=[]∧Q .normal a w
 | fuel+1,listed,S,a,w=>
  (Region.ready .any ops listed=[]→Q .normal a w) ∧
  ∀j∈Region.ready .any ops listed,wpOpIn (wR ro) 0 P ops Q j (fun a' w'=>(∀p∈S,waits ops j p.1=false→p.2 w') ∧
   mT ro P ops Q fuel (listed.setIfInBounds j true) (S.filter fun p=>!waits ops j p.1) a' w') a w
theorem th:∀(fuel:Nat) (listed:Array Bool) (S S':lF) (a:Act) (w:World),(∀p∈S',p∈S)→mT ro P ops Q fuel listed S a w→mT ro P ops Q fuel listed S' a w
 | 0,_,_,_,_,_,_,h=>h
 | fuel+1,_,S,S',_,_,hs,h=>⟨h.1,fun j hj=>wpOpIn_mono (fun a' w' h'=>⟨fun p hp=>h'.1 p (hs p hp),th fuel _ _ _ a' w' (fun p hp=>by
   rw[Z6] at hp ⊢;exact⟨hs p hp.1,hp.2⟩) h'.2⟩) (h.2 j hj)⟩
theorem qi:∀(fuel:Nat) (listed:Array Bool) (S:lF) (a:Act) (w:World),mT ro P ops Q fuel listed S a w→wpAnyIn (wR ro) 0 P .any ops Q fuel listed a w
 | 0,_,_,_,_,h=>h
 | fuel+1,_,_,_,_,h=>⟨h.1,fun j hj=>wpOpIn_mono (fun a' w' h'=>qi fuel _ _ a' w' h'.2) (h.2 j hj)⟩
theorem zA{i:Nat}{oi:Oper}{v:Value}{Si:World→Prop}(hi:ops[i]?=some oi)(hsel:∀(j:Nat) (o:Oper) cs b,ops[j]?=some o→o.op≠.select cs b)
  (hQ:∀c a w,Q (.panic c) (a.put oi.dst v) w→Q (.panic c) a w):
  ∀(fuel:Nat) (listed:Array Bool) (S:lF) (a:Act) (w:World),
   (∀j oj,ops[j]?=some oj→j≠i→listed.getD j true=false→(∀e∈oj.after,Region.binds .any e=true→e.on≠i)→oi.apart ops oj=true) →
   i∈Region.ready .any ops listed→YieldsIf P ops Si oi v a→Si w→(∀p∈S,p.2 w) →
   mT ro P ops Q fuel (listed.setIfInBounds i true) ((i,Si)::S) (a.put oi.dst v) w→mT ro P ops Q (fuel+1) listed S a w:=by
 intro fuel
 induction fuel with
 | zero=>
  intro listed S a w _ hr hy hS hall H
  refine⟨fun h=>(by rw[h] at hr;cases hr),fun j hj=>?_⟩
  by_cases hji:j=i
  ·subst hji;exact xy hi hy hS ⟨fun p hp _=>hall p hp,H⟩
  ·have:=ready_mono hj hji
   rw[H.1] at this
   cases this
 | succ fuel ih=>
  intro listed S a w hfree hr hy hS hall H
  refine⟨fun h=>(by rw[h] at hr;cases hr),fun j hj=>?_⟩
  by_cases hji:j=i
  ·subst hji
   exact xy hi hy hS ⟨fun p hp _=>hall p hp,th _ _ _ _ _ _ (fun p hp=>List.mem_cons_of_mem _ (Z6.1 hp).1) H⟩
  ·have h1:=H.2 j (ready_mono hj hji)
   obtain⟨hjun,oj,hoj,hall'⟩:=mem_ready.1 hj
   have hnot:∀e∈oj.after,Region.binds .any e=true→e.on≠i:=fun e he hb heq=>by
    have h1:=hall' e he hb
    have h0:=(mem_ready.1 hr).1
    rw[heq] at h1
    rcases Nat.lt_or_ge i listed.size with h' | h'
    ·simp[h'] at h0 h1;rw[h0] at h1;cases h1
    ·simp[Array.getElem?_eq_none h'] at h1
   have hwt:waits ops j i=false:=by
    unfold waits;rw[hoj]
    cases hany:oj.after.any fun e=>Region.binds .any e&&e.on == i
    ·exact hany
    ·obtain⟨e,he,hb⟩:=Array.any_eq_true'.1 hany
     simp only[Z2,beq_iff_eq] at hb
     exact(hnot e he hb.1 hb.2).elim
   have h2:=zy hoj (hfree j oj hoj hji hjun hnot) (fun cs b=>hsel i oi cs b hi) (fun cs b=>hsel j oj cs b hoj) hQ hy h1
   have hfree':∀k ok,ops[k]?=some ok→k≠i→(listed.setIfInBounds j true).getD k true=false →
     (∀e∈ok.after,Region.binds .any e=true→e.on≠i)→oi.apart ops ok=true:=fun k ok hk hki hun hno=>by
    refine hfree k ok hk hki ?_ hno
    by_cases hjk:j=k
    ·subst hjk;exact hjun
    ·rw[getD_set_ne true hjk] at hun;exact hun
   refine wpOpIn_mono (fun a' w' h3=>?_) h2
   obtain⟨hy',hst,H'⟩:=h3
   refine⟨fun p hp hq=>hst p (List.mem_cons_of_mem _ hp) hq,?_⟩
   refine ih (listed.setIfInBounds j true) _ a' w' hfree' (ready_mono hr (Ne.symm hji)) hy' (hst (i,Si) (List.mem_cons_self ..) hwt) (fun p hp=>?_) ?_
   ·have:=Z6.1 hp
    exact hst p (List.mem_cons_of_mem _ this.1) (by simpa using this.2)
   ·rw[Array.setIfInBounds_comm _ _ hji]
    rw[List.filter_cons_of_pos (by simp[hwt])] at H'
    exact H'
theorem oq:∀(fuel:Nat) (listed:Array Bool) (S S':lF) (a:Act) (w:World),(∀p∈S',p∈S∨∀w,p.2 w)→mT ro P ops Q fuel listed S a w→mT ro P ops Q fuel listed S' a w
 | 0,_,_,_,_,_,_,h=>h
 | fuel+1,_,S,S',_,_,hs,h=>⟨h.1,fun j hj=>wpOpIn_mono (fun a' w' h'=>⟨fun p hp hq=>(hs p hp).elim (fun h=>h'.1 p h hq) (fun h=>h w'),oq fuel _ _ _ a' w' (fun p hp=>by
   rw[Z6] at hp
   rcases hs p hp.1 with h1 | h1
   ·exact .inl (Z6.2 ⟨h1,hp.2⟩)
   ·exact .inr h1) h'.2⟩) (h.2 j hj)⟩
inductive je where
 | nil
 | take (i:Nat) (p:je)
 | only(i:Nat) (p:je)
 | two (i j:Nat) (p q:je)
 | three (i j m:Nat) (p q r:je)
def je.len:je→Nat
 | .nil=>0
 | .take _ p=>p.len+1
 | .only _ p=>p.len+1
 | .two _ _ p _=>p.len+1
 | .three _ _ _ p _ _=>p.len+1
def ts(i:Nat):Nat→je→je
 | 0,p=>p
 | n+1,p=>.take i (ts (i+1) n p)
def kA(ops:Array Oper):Array Bool→je→Bool
 | listed,.nil=>(Region.ready .any ops listed).isEmpty
 | listed,.take i r=>(Region.ready .any ops listed).contains i&&Region.free .any ops listed i&&kA ops (listed.setIfInBounds i true) r
 | listed,.only i r=>(Region.ready .any ops listed == [i])&&kA ops (listed.setIfInBounds i true) r
 | listed,.two i j p q=>(Region.ready .any ops listed == [i,j])&&kA ops (listed.setIfInBounds i true) p&&kA ops (listed.setIfInBounds j true) q&&Nat.beq p.len q.len
 | listed,.three i j m p q r=>(Region.ready .any ops listed == [i,j,m])&&kA ops (listed.setIfInBounds i true) p&&kA ops (listed.setIfInBounds j true) q&&kA ops (listed.setIfInBounds m true) r&&Nat.beq p.len q.len&&Nat.beq p.len r.len
end
def VA(X:Cx)(ops:Array Oper)(G:GS)(pl:je)(S:lF)(e:Env)(L:List HP)(K:Env→List HP→Prop):Prop:=
 ∀(Q':Exit→Act→World→Prop),(∀c a w,¬Q' (.panic c) a w)→(∀e' L' a' w',kq X.n a' e'→St X L' w'→K e' L'→Q' .normal a' w')→Region.noSelect ops=true →
  ∀ro listed a w,kA ops listed pl=true→kq X.n a e→Fg G a→St X L w→(∀p∈S,p.2 w)→mT ro X.P ops Q' pl.len listed S a w
section
variable {X:Cx} {ops:Array Oper} {G:GS} {pl:je} {S:lF} {e:Env} {L:List HP} {K:Env→List HP→Prop}
theorem VA.nil(h:K e L):VA X ops G .nil S e L K:=by
 intro Q' _ hQ _ ro listed a w hp ha _ hw _
 simp only[kA,List.isEmpty_iff] at hp
 exact⟨hp,hQ _ _ _ _ ha hw h⟩
theorem VA.first{i:Nat}{o:Oper}{v:Value}{Si:World→Prop}(hi:ops.toList[i]?=some o)(hd:bB X.n o.dst=true)(hf:bt G o.dst=true)
  (hy:∀a,kq X.n a e→Fg G a→YieldsIf X.P ops Si o v a) (hS:∀w,St X L w→Si w) (hk:VA X ops G pl ((i,Si)::S) (cE o.dst v e) L K):VA X ops G (.take i pl) S e L K:=by
 intro Q' hp0 hQ hsel ro listed a w hp ha hG hw hall
 simp only[kA,Z2] at hp
 have hi':ops[i]?=some o:=by simpa using hi
 exact zA hi' (Region.noSelect_spec hsel) (fun c a w h=>(hp0 c _ w h).elim) pl.len listed S a w (Region.free_spec hi' hp.1.2) (by simpa using hp.1.1) (hy a ha hG) (hS w hw) hall
  (hk Q' hp0 hQ hsel ro _ _ w hp.2 (ha.cE hd v) (hG.put hf v) hw (fun p h=>by
   rcases ZV.1 h with rfl | h
   ·exact hS w hw
   ·exact hall p h))
theorem VA.pure{i:Nat}{o:Oper}{v:Value}(hi:ops.toList[i]?=some o)(hg:gT ops G o.guard=some true)(hd:bB X.n o.dst=true)(hf:bt G o.dst=true)
  (hl:cY X o.op e v) (hk:VA X ops G pl S (cE o.dst v e) L K):VA X ops G (.take i pl) S e L K:=by
 refine VA.first (Si:=fun _=>True) hi hd hf (fun a ha hG=>.inl ⟨eO hG hg,fun w _=>hl a ha _ _ _ _ _ w⟩) (fun _ _=>trivial) ?_
 intro Q' hp0 hQ hsel ro listed a w hp ha hG hw hall
 have:=hk Q' hp0 hQ hsel ro listed a w hp ha hG hw (fun p h=>hall p (List.mem_cons_of_mem _ h))
 exact oq pl.len listed S _ a w (fun p hp=>by
  rcases ZV.1 hp with rfl | hp
  ·exact .inr fun _=>trivial
  ·exact .inl hp) this
theorem VA.off{i:Nat}{o:Oper}(hi:ops.toList[i]?=some o)(hg:gT ops G o.guard=some false)(hd:bB X.n o.dst=true)(hf:bt G o.dst=true)
  (hk:VA X ops G pl S (cE o.dst undef e) L K):VA X ops G (.take i pl) S e L K:=by
 refine VA.first (Si:=fun _=>True) hi hd hf (fun a ha hG=>.inr ⟨eO hG hg,Z⟩) (fun _ _=>trivial) ?_
 intro Q' hp0 hQ hsel ro listed a w hp ha hG hw hall
 have:=hk Q' hp0 hQ hsel ro listed a w hp ha hG hw (fun p h=>hall p (List.mem_cons_of_mem _ h))
 exact oq pl.len listed S _ a w (fun p hp=>by
  rcases ZV.1 hp with rfl | hp
  ·exact .inr fun _=>trivial
  ·exact .inl hp) this
theorem VA.load{i:Nat}{dst:Option Tmp}{ty:TypeId}{pos:String}{after:Array Edge}{guard:Option (Nat×Bool)}{T:TypeId}{x:Operand}{ti:TI}{b off:Nat}{v:Value}
  (hi:ops.toList[i]?=some ⟨dst,.load T x,ty,pos,after,guard⟩) (hx:ev e x=some (.pointer (some ⟨b,off,none⟩))) (hT:aL X.tab T=some ti) (hr:aE X L ti b off v)
  (hk:VA X ops G pl ((i,Rd ti.aU.agg ti.size b off v)::S) (cE dst v e) L K)
  (hg:gT ops G guard=some true:=by rfl) (hd:bB X.n dst=true:=by rfl) (hf:bt G dst=true:=by rfl):VA X ops G (.take i pl) S e L K:=
 VA.first (Si:=Rd ti.aU.agg ti.size b off v) hi hd hf (fun _ ha hG=>.inl ⟨eO hG hg,fun _ hw=>run_load hx hT ha hw _ _ _ _ _⟩) hr hk
theorem VA.ld{j:Nat}{dst:Option Tmp}{ty:TypeId}{pos:String}{after:Array Edge}{guard:Option (Nat×Bool)}{T:TypeId}{x:Operand}{ti:TI}{b off t:Nat}{cs:List Value}{v:Value}(i:Nat)
  (hi:ops.toList[j]?=some ⟨dst,.load T x,ty,pos,after,guard⟩) (hx:ev e x=some (.pointer (some ⟨b,off,none⟩))) (hL:L[i]?=some (pt b cs t)) (hT:aL X.tab T=some ti) (hv:cs[off]?=some v)
  (hk:VA X ops G pl ((j,Rd ti.aU.agg ti.size b off v)::S) (cE dst v e) L K) (ha:ti.aU.agg=false:=by rfl)
  (hg:gT ops G guard=some true:=by rfl) (hd:bB X.n dst=true:=by rfl) (hf:bt G dst=true:=by rfl):VA X ops G (.take j pl) S e L K:=
 VA.load hi hx hT (aE.one i hL hv ha) hk hg hd hf
theorem VA.ky{j:Nat}{dst:Option Tmp}{ty:TypeId}{pos:String}{after:Array Edge}{guard:Option (Nat×Bool)}{T:TypeId}{x:Operand}{ti:TI}{b off t:Nat}{cs:List Value}(i:Nat)(ds:List Value)
  (hi:ops.toList[j]?=some ⟨dst,.load T x,ty,pos,after,guard⟩) (hx:ev e x=some (.pointer (some ⟨b,off,none⟩))) (hL:L[i]?=some (pt b cs t)) (hT:aL X.tab T=some ti) (hv:(cs.drop off).take ti.size=ds)
  (hk:VA X ops G pl ((j,Rd ti.aU.agg ti.size b off (.agg ds.toArray))::S) (cE dst (.agg ds.toArray) e) L K) (hl:ds.length=ti.size:=by rfl) (ha:ti.aU.agg=true:=by rfl)
  (hg:gT ops G guard=some true:=by rfl) (hd:bB X.n dst=true:=by rfl) (hf:bt G dst=true:=by rfl):VA X ops G (.take j pl) S e L K:=
 VA.load hi hx hT (aE.many i hL hv hl ha) hk hg hd hf
theorem VA.op{i:Nat}{o:Oper}{M:Value→List HP→Prop}(hi:ops.toList[i]?=some o)
  (hg:gT ops G o.guard=some true) (hd:bB X.n o.dst=true) (hf:bt G o.dst=true) (h:a8 X o.op e L M)
  (hst:∀v L',M v L'→∀w,St X L' w→∀p∈S,waits ops i p.1=false→p.2 w)
  (hk:∀v L',M v L'→VA X ops G pl (S.filter fun p=>!waits ops i p.1) (cE o.dst v e) L' K):VA X ops G (.only i pl) S e L K:=by
 intro Q' hp0 hQ hsel ro listed a w hp ha hG hw hall
 simp only[kA,Z2,beq_iff_eq] at hp
 have hi':ops[i]?=some o:=by simpa using hi
 have hpr:=hp.1
 refine⟨fun h0=>yh,fun j hj=>?_⟩
 rw[hpr,Z7] at hj
 subst hj
 unfold wpOpIn
 rw[hi']
 simp only[eO hG hg,if_true]
 refine h.wp ha hw (fun v L' w' hm hs=>⟨fun p hp1 hp2=>hst v L' hm w' hs p hp1 hp2,?_⟩)
 exact hk v L' hm Q' hp0 hQ hsel ro _ _ w' hp.2 (ha.cE hd v) (hG.put hf v) hs (fun p hp1=>hst v L' hm w' hs p (Z6.1 hp1).1 yi)
theorem VA.two{i j:Nat}{oi oj:Oper}{p q:je}{M N:Value→List HP→Prop}(hi:ops.toList[i]?=some oi)(hj:ops.toList[j]?=some oj)
  (hgi:gT ops G oi.guard=some true) (hdi:bB X.n oi.dst=true) (hfi:bt G oi.dst=true) (hi2:a8 X oi.op e L M)
  (hgj:gT ops G oj.guard=some true) (hdj:bB X.n oj.dst=true) (hfj:bt G oj.dst=true) (hj2:a8 X oj.op e L N)
  (hsti:∀v L',M v L'→∀w,St X L' w→∀p∈S,waits ops i p.1=false→p.2 w) (hstj:∀v L',N v L'→∀w,St X L' w→∀p∈S,waits ops j p.1=false→p.2 w)
  (hki:∀v L',M v L'→VA X ops G p (S.filter fun p=>!waits ops i p.1) (cE oi.dst v e) L' K)
  (hkj:∀v L',N v L'→VA X ops G q (S.filter fun p=>!waits ops j p.1) (cE oj.dst v e) L' K):VA X ops G (.two i j p q) S e L K:=by
 intro Q' hp0 hQ hsel ro listed a w hp ha hG hw hall
 simp only[kA,Z2,beq_iff_eq] at hp
 obtain⟨⟨⟨hpr,hpi⟩,hpj⟩,hlen⟩:=hp
 have hlen:=Nat.eq_of_beq_eq_true hlen
 have hi':ops[i]?=some oi:=by simpa using hi
 have hj':ops[j]?=some oj:=by simpa using hj
 refine⟨fun h0=>yh,fun k hk=>?_⟩
 rw[hpr] at hk
 rcases ZV.1 hk with rfl | hk
 ·unfold wpOpIn
  rw[hi']
  simp only[eO hG hgi,if_true]
  refine hi2.wp ha hw (fun v L' w' hm hs=>⟨fun p hp1 hp2=>hsti v L' hm w' hs p hp1 hp2,?_⟩)
  exact hki v L' hm Q' hp0 hQ hsel ro _ _ w' hpi (ha.cE hdi v) (hG.put hfi v) hs (fun p hp1=>hsti v L' hm w' hs p (Z6.1 hp1).1 yi)
 ·rw[Z7] at hk
  subst hk
  unfold wpOpIn
  rw[hj']
  simp only[eO hG hgj,if_true]
  refine hj2.wp ha hw (fun v L' w' hm hs=>⟨fun p hp1 hp2=>hstj v L' hm w' hs p hp1 hp2,?_⟩)
  rw[hlen]
  exact hkj v L' hm Q' hp0 hQ hsel ro _ _ w' hpj (ha.cE hdj v) (hG.put hfj v) hs (fun p hp1=>hstj v L' hm w' hs p (Z6.1 hp1).1 yi)
theorem VA.split(d:Nat){b:Bool}(hb:look e d=some (.bool b))(hd:Nat.blt d X.n=true)
  (ht:b=true→VA X ops ((d,true)::G) pl S ((d,.bool true)::e) L K) (hf:b=false→VA X ops ((d,false)::G) pl S ((d,.bool false)::e) L K):VA X ops G pl S e L K:=by
 intro Q' hp0 hQ hsel ro listed a w hp ha hG hw hall
 have hs:a.tmps[d]?=some (.bool b):=by
  have:=ha.at_ d _ hb
  have hlt:d<a.tmps.size:=by rw[ha.size];exact Nat.blt_eq.mp hd
  simpa[hlt] using this
 have key:∀c,b=c→kq X.n a ((d,.bool c)::e)∧Fg ((d,c)::G) a:=fun c hc=>by
  subst hc
  refine⟨⟨ha.size,ha.defers,fun t u ht=>?_⟩,fun t u ht=>?_⟩
  ·simp only[look] at ht
   cases hq:Nat.beq d t
   ·rw[hq] at ht;exact ha.at_ t u ht
   ·rw[hq] at ht
    have:=Nat.eq_of_beq_eq_true hq
    subst this
    simp only[cond_true,Option.some.injEq] at ht
    subst ht;exact ha.at_ _ _ hb
  ·simp only[oh] at ht
   cases hq:Nat.beq d t
   ·rw[hq] at ht;exact hG t u ht
   ·rw[hq] at ht
    have:=Nat.eq_of_beq_eq_true hq
    subst this
    simp only[cond_true,Option.some.injEq] at ht
    subst ht;exact hs
 cases b
 ·exact hf Z Q' hp0 hQ hsel ro listed a w hp (key _ Z).1 (key _ Z).2 hw hall
 ·exact ht Z Q' hp0 hQ hsel ro listed a w hp (key _ Z).1 (key _ Z).2 hw hall
theorem VA.yes(d:Nat){b:Bool}(c:Bool)(hb:look e d=some (.bool b))(hc:b=c)(h:VA X ops ((d,c)::G) pl S ((d,.bool c)::e) L K)(hd:Nat.blt d X.n=true:=by rfl):VA X ops G pl S e L K:=by
 subst hc
 refine VA.split d hb hd (fun h'=>?_) (fun h'=>?_)
 ·subst h';exact h
 ·subst h';exact h
theorem VA.ar{L':List HP}(hs:jq X L L')(h:VA X ops G pl S e L' K):VA X ops G pl S e L K:=
 fun Q' hp0 hQ hsel ro listed a w hp ha hG hw hall=>h Q' hp0 hQ hsel ro listed a w hp ha hG (hs w hw) hall
end
def Gk(n:Nat)(tab:DB)(ops:List Oper)(G:GS):je→Env→(je→Env→Prop)→Prop
 | .nil,e,k=>k .nil e
 | .only i r,e,k=>k (.only i r) e
 | .two i j p q,e,k=>k (.two i j p q) e
 | .three i j m p q r,e,k=>k (.three i j m p q r) e
 | .take i r,e,k=>DC ops i (fun o=>match o.dst with
  | none=>k (.take i r) e
  | some d=>match oh G d,Nat.blt d n with
   | none,true=>match o.guard with
    | none=>xv tab e o.op (fun v=>Gk n tab ops G r ((d,v)::e) k) (k (.take i r) e)
    | some (j,want)=>DC ops j (fun oj=>match oj.dst with
     | some dj=>match oh G dj with
      | some b=>match gB b want with
       | true=>xv tab e o.op (fun v=>Gk n tab ops G r ((d,v)::e) k) (k (.take i r) e)
       | false=>Gk n tab ops G r ((d,undef)::e) k
      | none=>k (.take i r) e
     | none=>k (.take i r) e) (k (.take i r) e)
   | _,_=>k (.take i r) e) (k (.take i r) e)
theorem VA.go{X:Cx}{ops:Array Oper}{G:GS}{S:lF}{L:List HP}{K:Env→List HP→Prop}:∀{pl:je} {e:Env},
  Gk X.n X.tab ops.toList G pl e (fun pl' e'=>VA X ops G pl' S e' L K)→VA X ops G pl S e L K
 | .nil,e,h=>h
 | .only i r,e,h=>h
 | .two i j p q,e,h=>h
 | .three i j m p q r,e,h=>h
 | .take i r,e,h=>by
  unfold Gk at h
  rcases kh h with ⟨o,ho,h⟩ | h
  case inr=>exact h
  split at h
  ·exact h
  ·rename_i d hd
   split at h
   ·rename_i hgl hlt
    have hdst:bB X.n o.dst=true:=by rw[hd];exact hlt
    have hfree:bt G o.dst=true:=by rw[hd];simp[bt,hgl]
    have step:∀{v},gT ops G o.guard=some true→cY X o.op e v→Gk X.n X.tab ops.toList G r ((d,v)::e) (fun pl' e'=>VA X ops G pl' S e' L K)→VA X ops G (.take i r) S e L K:=fun {v} hg hl hk=>by
     refine VA.pure ho hg hdst hfree hl ?_
     rw[hd]
     exact VA.go hk
    split at h
    ·rename_i hgd
     rcases kX h with ⟨v,hl,hk⟩ | h
     ·exact step (by rw[hgd];rfl) hl hk
     ·exact h
    ·rename_i j want hgd
     rcases kh h with ⟨oj,hj,h⟩ | h
     ·split at h
      ·rename_i dj hdj
       split at h
       ·rename_i b hb
        have hgo:gT ops G o.guard=some (gB b want):=by
         rw[hgd];simp only[gT,hj,hdj,hb]
        split at h
        ·rename_i hbw
         rw[hbw] at hgo
         rcases kX h with ⟨v,hl,hk⟩ | h
         ·exact step hgo hl hk
         ·exact h
        ·rename_i hbw
         rw[hbw] at hgo
         refine VA.off ho hgo hdst hfree ?_
         rw[hd]
         exact VA.go h
       ·exact h
      ·exact h
     ·exact h
   ·exact h
theorem VC.draw{X:Cx}{id:Nat}{l:List Oper}{e:Env}{L:List HP}{Q:Exit→Env→List HP→Prop}(pl:je)(hmix:X.P.follows .mixedOrders=true)
  (hp:(Region.noSelect l.toArray&&Nat.beq pl.len l.length&&kA l.toArray (Array.replicate l.length false) pl)=true)
  (h:VA X l.toArray [] pl [] e L (Q .normal)):VC X (.region id l.toArray true) e L Q:=by
 intro ro a w ha hw
 simp only[Z2] at hp
 have hlen:pl.len=l.length:=Nat.eq_of_beq_eq_true hp.1.2
 refine Code.wpIn_mono (Q:=fun x a' w'=>match x with | .normal=>∃e' L',kq X.n a' e'∧St X L' w'∧Q .normal e' L' | _=>False) (fun x a' w' hx=>?_) (wpIn_region_any hmix ?_)
 ·cases x<;>first | exact hx | exact hx.elim
 ·have:=h (fun x a' w'=>match x with | .normal=>∃e' L',kq X.n a' e'∧St X L' w'∧Q .normal e' L' | _=>False) (fun _ _ _ h=>h) (fun e' L' _ _ h1 h2 h3=>⟨e',L',h1,h2,h3⟩) hp.1.1 ro
   (Array.replicate l.length false) a { w with drawn:=w.drawn+1 } hp.2 ha (Fg.nil a) hw.drew (fun _ h=>by cases h)
  rw[hlen] at this
  have h2:=qi _ _ _ _ _ this
  simpa using h2
end Vg
namespace Vg
open Go
theorem e9{P:Program}{t:Nat}{ti:TI}{el:Nat}(h:az P t ti)(hu:ti.aU=.slice el):P.underlying t=some (.slice el):=by
 have:=h.aU
 rw[hu] at this
 unfold kW at this
 split at this<;>simp_all
theorem Gl{P:Program}{t:Nat}{ti:TI}{n el:Nat}(h:az P t ti)(hu:ti.aU=.array n el):P.underlying t=some (.array n el):=by
 have:=h.aU
 rw[hu] at this
 unfold kW at this
 split at this<;>simp_all
theorem zH{P:Program}{t:Nat}{ti:TI}{k:IntKind}(h:az P t ti)(hu:ti.aU=.int k):P.underlying t=some (.int k):=by
 have:=h.aU
 rw[hu] at this
 unfold kW at this
 split at this<;>simp_all
theorem hU{P:Program}{t:Nat}{ti:TI}(h:az P t ti)(hu:ti.aU=.string):P.underlying t=some .string:=by
 have:=h.aU
 rw[hu] at this
 unfold kW at this
 split at this<;>simp_all
theorem DG{P:Program}{t:Nat}{ti:TI}{fs:List (Nat×Nat)}(h:az P t ti)(hu:ti.aU=.struct fs):
  ∃flds,P.underlying t=some (.struct flds)∧flds.toList.map (fun f=>(f.offset,((P.info? f.type).map (·.size)).getD 0))=fs:=by
 have:=h.aU
 rw[hu] at this
 unfold kW at this
 split at this<;>simp at this
 rename_i fl hfl
 exact⟨fl,hfl,by simpa using this⟩
theorem a_{X:Cx}{e:Env}{T:TypeId}{x y:Operand}{tt te:TI}{el b off len cap:Nat}{k:IntKind}{i:Int}(m:Nat)(hx:ev e x=some (.slice (some ⟨b,off,none⟩) len cap))(hy:ev e y=some (.int k i))
  (hT:aL X.tab T=some tt) (hu:tt.aU=.slice el) (hE:aL X.tab el=some te) (hm:i=m) (hlt:m<len):
  cY X (.indexAddr T x y) e (.pointer (some ⟨b,off+m*te.size,none⟩)):=by
 intro a ha dst ty pos after guard w
 have h1:=e9 (X.ok.look hT) hu
 obtain⟨i2,hi2,hs2,_,_⟩:=(X.ok.look hE).kY
 subst hm
 simp[execOp,ha.ev hx,ha.ev hy,Instr.indexAt,asIntOf,run_underlying h1,hlt,dI hi2,hs2,Addr.add_mid]
theorem bG{X:Cx}{e:Env}{T:TypeId}{x y:Operand}{tt te:TI}{el b off len:Nat}{k:IntKind}{i:Int}(m:Nat)(hx:ev e x=some (.pointer (some ⟨b,off,none⟩)))(hy:ev e y=some (.int k i))
  (hT:aL X.tab T=some tt) (hu:tt.aU=.array len el) (hE:aL X.tab el=some te) (hm:i=m) (hlt:m<len):
  cY X (.indexAddr T x y) e (.pointer (some ⟨b,off+m*te.size,none⟩)):=by
 intro a ha dst ty pos after guard w
 have h1:=Gl (X.ok.look hT) hu
 obtain⟨i2,hi2,hs2,_,_⟩:=(X.ok.look hE).kY
 subst hm
 simp[execOp,ha.ev hx,ha.ev hy,Instr.indexAt,asIntOf,run_underlying h1,hlt,dI hi2,hs2,Addr.add_mid,Instr.sureAddr]
theorem lY{X:Cx}{e:Env}{xt yt:TypeId}{x y:Operand}{k:IntKind}{a b:Int}(hx:ev e x=some (.int k a))(hy:ev e y=some (.int k b))(ha0:0≤a)(hb0:0<b):
  cY X (.binOp .rem xt x y yt) e (.int k (a % b)):=by
 intro a' ha dst ty pos after guard w
 have hb:b≠0:=by omega
 have ht:a.tmod b=a % b:=Int.tmod_eq_emod_of_nonneg ha0
 simp[execOp,ha.ev hx,ha.ev hy,eqGuard,binOp,Op.intDiv,hb,ht]
theorem xz{X:Cx}{e:Env}{xt yt:TypeId}{x y:Operand}{k:IntKind}{a b:Int}(z:Int)(hx:ev e x=some (.int k a))(hy:ev e y=some (.int k b))(ha0:0≤a)(hb0:0<b)(hz:k.wrap (a / b)=z):
  cY X (.binOp .quo xt x y yt) e (.int k z):=by
 intro a' ha dst ty pos after guard w
 have hb:b≠0:=by omega
 have ht:a.tdiv b=a / b:=Int.tdiv_eq_ediv_of_nonneg ha0
 simp[execOp,ha.ev hx,ha.ev hy,eqGuard,binOp,Op.intDiv,hb,ht,hz]
theorem tj{X:Cx}{e:Env}{T:TypeId}{x y z:Operand}{tt te:TI}{el b off len cap:Nat}{k k':IntKind}{i j:Int}(lo hi:Nat)(hx:ev e x=some (.slice (some ⟨b,off,none⟩) len cap))(hy:ev e y=some (.int k i))(hz:ev e z=some (.int k' j))
  (hT:aL X.tab T=some tt) (hu:tt.aU=.slice el) (hE:aL X.tab el=some te) (hlo:i=lo) (hhi:j=hi) (h1:lo≤hi) (h2:hi≤cap) (h3:lo<cap):
  cY X (.slice T x (some y) (some z) none) e (.slice (some ⟨b,off+lo*te.size,none⟩) (hi-lo) (cap-lo)):=by
 intro a ha dst ty pos after guard w
 have hd:=e9 (X.ok.look hT) hu
 obtain⟨i2,hi2,hs2,_,_⟩:=(X.ok.look hE).kY
 subst hlo;subst hhi
 have hne:¬cap=lo:=by omega
 simp[execOp,ha.ev hx,ha.ev hy,ha.ev hz,Instr.sliceAt,Instr.slice,Instr.sliceBounds,Instr.sliceBound,asIntOf,run_underlying hd,h1,h2,dI hi2,hs2,Addr.add_mid,hne]
theorem Bp:∀(vs:List Value) (k off:Nat) (cs:List Value),off+k+vs.length≤cs.length →
  (vs.zipIdx k).foldl (fun(c:Array Value) (x:Value×Nat)=>c.setIfInBounds (off+x.2) x.1) cs.toArray=(ki cs (off+k) vs).toArray
 | [],k,off,cs,_=>by rw[zr];rfl
 | v::vs,k,off,cs,h=>by
  have h':off+k+(vs.length+1)≤cs.length:=by simpa using h
  simp only[List.zipIdx_cons,List.foldl_cons,List.setIfInBounds_toArray]
  rw[Bp vs (k+1) off (cs.set (off+k) v) ye,show off+(k+1)=off+k+1 from by omega,Bl h']
def qV(place:Nat→Option (Nat×Nat)):List Value→List (Nat×Value)→Option (List Value)
 | zs,[]=>some zs
 | zs,(i,v)::r=>match place i with
  | none=>none
  | some (off,size)=>bif Nat.beq v.cells.toList.length size&&Nat.ble (off+size) zs.length then qV place (ki zs off v.cells.toList) r else none
theorem qj{place:Nat→Option (Nat×Nat)}:∀{parts:List (Nat×Value)} {zs cs:List Value},qV place zs parts=some cs→Instr.fill place zs.toArray parts=some cs.toArray
 | [],zs,cs,h=>by simpa[qV,Instr.fill] using h
 | (i,v)::r,zs,cs,h=>by
  simp only[qV] at h
  simp only[Instr.fill]
  cases hp:place i with
  | none=>simp[hp] at h
  | some p=>
   obtain⟨off,size⟩:=p
   rw[hp] at h
   simp only at h ⊢
   cases hb:Nat.beq v.cells.toList.length size&&Nat.ble (off+size) zs.length
   ·rw[hb] at h;cases h
   ·rw[hb] at h
    simp only[cond_true] at h
    simp only[Z2] at hb
    have h1:v.cells.size=size:=by have:=Nat.eq_of_beq_eq_true hb.1;simpa using this
    have h2:off+size≤zs.length:=ZT hb.2
    rw[if_neg (by simp[h1];omega)]
    have:=Bp v.cells.toList 0 off zs ye
    have e:v.cells.zipIdx.foldl (fun cs (x:Value×Nat)=>cs.setIfInBounds (off+x.2) x.1) zs.toArray=(ki zs off v.cells.toList).toArray:=by
     rw[←Array.foldl_toList,Array.toList_zipIdx];simpa using this
    rw[e]
    exact qj h
def H0(e:Env):List (Nat×Operand)→Option (List (Nat×Value))
 | []=>some []
 | (i,x)::r=>match ev e x,H0 e r with
  | some v,some vs=>some ((i,v)::vs)
  | _,_=>none
theorem kq.H0{n:Nat}{a:Act}{e:Env}(h:kq n a e):∀{xs:List (Nat×Operand)} {vs:List (Nat×Value)},H0 e xs=some vs→xs.map (fun p=>(p.1,a.eval p.2))=vs
 | [],vs,hx=>by simpa[Vg.H0] using hx
 | (i,x)::r,vs,hx=>by
  simp only[Vg.H0] at hx
  split at hx
  ·rename_i v us hv hus
   simp only[Option.some.injEq] at hx
   subst hx
   simp[h.ev hv,kq.H0 h hus]
  ·cases hx
theorem nO{P:Program}(w:World):∀(fl:List Field),(∀f∈fl,∃i,P.info? f.type=some i) →
  (fl.mapM fun f=>(do pure (f.offset,←sizeOf f.type):Sem (Nat×Nat))).run P w=.ok (fl.map fun f=>(f.offset,((P.info? f.type).map (·.size)).getD 0)) w
 | [],_=>rfl
 | f::fl,h=>by
  obtain⟨i,hi⟩:=h f yf
  have ih:=nO (P:=P) w fl (fun g hg=>h g (by simp[hg]))
  simp only[List.mapM_cons,Sem.run_bind,dI hi,Result.andThen_ok,Sem.run_pure,ih]
  simp[hi]
theorem tk{X:Cx}{e:Env}{T:TypeId}{parts:Array (Nat×Operand)}{ti:TI}{fs:List (Nat×Nat)}{pv:List (Nat×Value)}(cells:List Value)(hT:aL X.tab T=some ti)(hu:ti.aU=.struct fs)
  (hp:H0 e parts.toList=some pv) (hfill:qV (fun i=>fs[i]?) ti.zs pv=some cells) (hnz:fs.all (fun p=>!Nat.beq p.2 0)=true):cY X (.build T parts) e (.agg cells.toArray):=by
 intro a ha dst ty pos after guard w
 have hok:=X.ok.look hT
 obtain⟨flds,hund,hfl⟩:=DG hok hu
 have hparts:parts.map (fun p=>(p.1,a.eval p.2))=pv.toArray:=by
  apply Array.toList_inj.1
  simpa using ha.H0 hp
 have hinfo:∀f∈flds.toList,∃i,X.P.info? f.type=some i:=fun f hf=>by
  cases hq:X.P.info? f.type with
  | some i=>exact⟨i,rfl⟩
  | none=>
   have hm:(f.offset,((X.P.info? f.type).map (·.size)).getD 0)∈fs:=by
    rw[←hfl];exact Z0.2 ⟨f,hf,rfl⟩
   have:=List.all_eq_true.1 hnz _ hm
   simp[hq] at this
 have hplaces:(flds.mapM fun f=>(do pure (f.offset,←sizeOf f.type):Sem (Nat×Nat))).run X.P w=.ok fs.toArray w:=by
  have h1:=nO (P:=X.P) w flds.toList hinfo
  rw[hfl] at h1
  simp only[bind_pure_comp] at h1
  rw[Array.mapM_eq_mapM_toList]
  simp[h1]
 have hf:=qj hfill
 have hfn:(fun i:Nat=>fs.toArray[i]?)=(fun i:Nat=>fs[i]?):=by funext i;simp
 have hb:(Instr.build T pv.toArray).run X.P w=.ok (.agg cells.toArray) w:=by
  unfold Instr.build
  simp only[Sem.run_bind,kz hok,Result.andThen_ok,run_underlying hund,hplaces,hok.zero]
  simp only[hfn,hf,Sem.run_pure]
 simp only[execOp]
 rw[Sem.run_bind]
 have:(parts.map fun x=>match x with | (i,x)=>(i,a.eval x))=pv.toArray:=hparts
 rw[this,hb];rfl
def aI(el esz:Nat)(a:Option Addr)(n cap:Nat)(cs:List Value):HP:=
 ⟨fun ids w=>cs.length=n*esz∧((a=none∧n=0∧cap=0∧ids=[]) ∨
   ∃b rest,a=some ⟨b,0,none⟩∧ids=[b]∧n≤cap∧(cs++rest).length=cap*esz∧w.heap[b]?=some (.cells (cs++rest).toArray el (0,0))),
  fun ids w w' hb h=>⟨h.1,h.2.imp id fun⟨b,rest,h1,h2,h3,h4,h5⟩=>⟨b,rest,h1,h2,h3,h4,(hb b yj).trans h5⟩⟩⟩
def dt(X:Cx)(L:List HP)(v:Value)(esz m:Nat)(news:List Value):Prop:=
 news.length=m*esz∧((∃a c,v=.slice a m c∧m=0)∨∃b off c,v=.slice (some ⟨b,off,none⟩) m c∧∀w,St X L w→w.rangeAt b off news)
theorem kZ{w:World}{b t:Nat}{cs:List Value}{fz:Nat×Nat}(h:w.heap[b]?=some (.cells cs.toArray t fz)){off n:Nat}{ds:List Value}(hd:(cs.drop off).take n=ds):w.rangeAt b off ds:=fun j v hv=>by
 rw[cell_of_row w b (off+j) cs.toArray t fz h]
 rw[←hd,List.getElem?_take] at hv
 split at hv
 ·rw[List.getElem?_drop] at hv;simpa using hv
 ·cases hv
theorem bM:∀{L:List HP} {i:Nat} {H:HP},L[i]?=some H→L.Perm (H::L.eraseIdx i)
 | [],_,_,h=>by simp at h
 | x::L,0,H,h=>by
  simp only[List.getElem?_cons_zero,Option.some.injEq] at h
  subst h;exact .refl _
 | x::L,i+1,H,h=>by
  simp only[List.getElem?_cons_succ] at h
  exact((bM h).cons x).trans (.swap _ _ _)
theorem ua(zs:Array Value)(n:Nat):(Builtin.zeroCells zs n).size=n*zs.size:=by simp[Builtin.zeroCells]
theorem tm{P:Program}{w:World}{t el:Nat}{i:TypeInfo}(hund:P.underlying t=some (.slice el))(hi:P.info? el=some i)(a d:Option Addr)(n cap c:Nat)(hnc:n≤cap)(r:Nat):
  (Builtin.append_ #[t,t] r #[.slice a n cap,.slice d 0 c]).run P w=.ok (.slice a n cap) w:=by
 cases a<;>cases d<;>simp[Builtin.append_,run_underlying hund,dI hi,Builtin.lenOf,Builtin.firstCells,hnc,storeCells,loadCells,loadCellsFrom]
theorem a8.append{X:Cx}{e:Env}{L:List HP}{t el esz n cap m:Nat}{tt te:TI}{x y:Operand}{a:Option Addr}{cs news:List Value}{v:Value}(i:Nat)
  (hx:ev e x=some (.slice a n cap)) (hy:ev e y=some v) (hL:L[i]?=some (aI el esz a n cap cs)) (hT:aL X.tab t=some tt) (hu:tt.aU=.slice el) (hE:aL X.tab el=some te) (hesz:te.size=esz)
  (hr:dt X L v esz m news) (h1:news.all Value.oneCell'=true) (hb:(n+m)*te.bytes≤140737488355328) (h63:n+m≤9223372036854775807):
  a8 X (.call ⟨.builtin .append,#[x,y],#[t,t]⟩) e L (fun u L'=>∃a' cap',u=.slice a' (n+m) cap'∧n+m≤cap'∧L'=aI el esz a' (n+m) cap' (cs++news)::L.eraseIdx i):=by
 intro ac w ha hw dst ty pos after guard
 have hund:=e9 (X.ok.look hT) hu
 have hok:=X.ok.look hE
 obtain⟨ti,hi,hsz,hbt,hz⟩:=hok.kY
 have hexec:∀u w',(Builtin.append_ #[t,t] ty #[.slice a n cap,v]).run X.P w=.ok u w' →
   (execOp ac.eval ⟨dst,.call ⟨.builtin .append,#[x,y],#[t,t]⟩,ty,pos,after,guard⟩).run X.P w=.ok (.value u) w':=fun u w' h=>by
  simp[execOp,resolve,invoke,builtin,ha.ev hx,ha.ev hy,h]
 obtain⟨F,⟨ids,K,hF,hid,hK⟩,hnd,hbd⟩:=hw.sat.perm (bM hL)
 subst hF
 obtain⟨hnl,hrd⟩:=hr
 obtain⟨hcl,hcase⟩:=hid
 have hlen:(cs++news).length=(n+m)*esz:=by rw[ZM,hcl,hnl,Nat.add_mul]
 obtain⟨hn1,hn2,hdis⟩:=Z8.1 hnd
 have stay:∀ids',HP.sat (aI el esz a n cap cs) ids' w→ids'=ids→m=0→news=[]→St X (aI el esz a (n+m) cap (cs++news)::L.eraseIdx i) w:=by
  rintro ids' hs rfl rfl rfl
  simp only[Nat.add_zero,ZN]
  exact⟨⟨_,⟨ids',K,Z,hs,hK⟩,hnd,hbd⟩,hw.cK,hw.low⟩
 have hncap:n≤cap:=by rcases hcase with ⟨_,rfl,rfl,_⟩ | ⟨b,rest,_,_,h,_⟩<;>omega
 rcases hrd with ⟨d,c,rfl,rfl⟩ | ⟨b,off,c,rfl,hrg⟩
 ·have hn0:news=[]:=List.eq_nil_of_length_eq_zero (by simpa using hnl)
  refine .inl ⟨_,w,_,hexec _ _ (tm hund hi a d n cap c hncap ty),⟨a,cap,Z,by omega,Z⟩,stay ids ⟨hcl,hcase⟩ Z Z hn0⟩
 ·have hnews:∀j u,news[j]?=some u→w.cell? ((⟨b,off,none⟩:Addr).add j)=some u:=fun j u hj=>by rw[Addr.add_mid];exact hrg w hw j u hj
  have h1':∀u∈news,u.oneCell'=true:=List.all_eq_true.1 h1
  have hnl':news.length=m*ti.size:=by rw[hsz,hesz];exact hnl
  have grown:∀old:Nat,old<n+m→St X (aI el esz (some ⟨w.heap.size,0,none⟩) (n+m) (grownCap w (n+m) old el) (cs++news)::L.eraseIdx i)
    (w.drew.alloc (.cells (cs.toArray++news.toArray++Builtin.zeroCells te.zero.cells (grownCap w (n+m) old el-(n+m))) el)):=by
   intro old ho
   have hge:=grownCap_ge w (n+m) old el
   have hw2:St X (L.eraseIdx i) w.drew:=⟨⟨K,dM.loc (w:=w) (w':=w.drew) (fun _ _=>rfl) hK,hn2,fun b hb=>hbd b (by simp[hb])⟩,hw.cK.trans (dH.drew _ _),hw.low⟩
   refine⟨hw2.sat.alloc hw2.nZ _ _ ?_,hw2.cK.trans (dH.alloc hw2.nZ _),hw.low⟩
   refine⟨hlen,.inr ⟨w.heap.size,(Builtin.zeroCells te.zero.cells (grownCap w (n+m) old el-(n+m))).toList,Z,Z,hge,?_,?_⟩⟩
   ·have hzl:te.zero.cells.size=esz:=by rw[hok.zero];simp[hok.len,hesz]
    rw[ZM,hlen,Array.length_toList,ua,hzl,←Nat.add_mul]
    congr 1;omega
   ·have:=heap_alloc_new w.drew (.cells (cs.toArray++news.toArray++Builtin.zeroCells te.zero.cells (grownCap w (n+m) old el-(n+m))) el)
    rw[show(cs++news++(Builtin.zeroCells te.zero.cells (grownCap w (n+m) old el-(n+m))).toList).toArray=cs.toArray++news.toArray++Builtin.zeroCells te.zero.cells (grownCap w (n+m) old el-(n+m)) from by
     apply Array.toList_inj.1;simp]
    exact this
  rcases hcase with ⟨rfl,rfl,rfl,rfl⟩ | ⟨g,rest,rfl,rfl,hnc,hcr,hh⟩
  ·have hcs0:cs=[]:=List.eq_nil_of_length_eq_zero (by simpa using hcl)
   subst hcs0
   by_cases hm:m=0
   ·subst hm
    have hn0:news=[]:=List.eq_nil_of_length_eq_zero (by simpa using hnl)
    refine .inl ⟨.slice none (0+0) 0,w,_,hexec _ _ ?_,⟨none,0,Z,by omega,Z⟩,stay [] ⟨hcl,.inl ⟨rfl,Z,Z,Z⟩⟩ Z Z hn0⟩
    simp[Builtin.append_,run_underlying hund,dI hi,Builtin.lenOf,Builtin.firstCells,loadCells,loadCellsFrom]
   ·have hrun:=run_append_nil (P:=X.P) w t ty el ti te.zero hund hi hz ⟨b,off,none⟩ m c news hnl' hnews yd yd (by rw[hbt];simp only[ZQ] at hb;omega)
    have hg:=grown 0 yd
    simp only[ZQ,List.nil_append,Array.empty_append] at hg ⊢
    exact .inl ⟨_,_,_,hexec _ _ hrun,⟨_,_,Z,grownCap_ge w m 0 el,Z⟩,hg⟩
  ·by_cases hroom:n+m≤cap
   ·have hmul:(n+m)*esz≤cap*esz:=Nat.mul_le_mul_right _ hroom
    have hfit:n*ti.size+news.length≤(cs++rest).toArray.size:=by
     rw[hsz,hesz,hnl];simp only[List.size_toArray];rw[hcr,←Nat.add_mul];exact hmul
    have hrun:=run_append_room (P:=X.P) w t ty el ti hund hi g n cap _ hh ⟨b,off,none⟩ m c news hnl' hnews h1' hroom hfit
    have hnew:(cs++rest).toArray.toList.take (n*ti.size)++news++(cs++rest).toArray.toList.drop (n*ti.size+news.length)=(cs++news)++rest.drop news.length:=by
     simp only[hsz,hesz]
     rw[←hcl]
     simp[List.drop_append]
    rw[hnew] at hrun
    refine .inl ⟨_,_,_,hexec _ _ hrun,⟨some ⟨g,0,none⟩,cap,Z,hroom,Z⟩,?_⟩
    have hgF:¬X.Fr g:=(hbd g yf).1
    have hne:∀x∈K,x≠g:=fun x hx he=>hdis g yf x hx he.symm
    refine⟨⟨[g]++K,⟨[g],K,Z,⟨hlen,.inr ⟨g,rest.drop news.length,Z,Z,hroom,?_,setRow_heap w g _ _ el _ hh⟩⟩,hK.loc fun x hx=>setRow_other w g x _ (hne x hx)⟩,hnd,fun x hx=>⟨(hbd x hx).1,by rw[size_setRow];exact(hbd x hx).2⟩⟩,?_,hw.low⟩
    ·rw[ZM,hlen,List.length_drop]
     rw[ZM,hcl] at hcr
     rw[hnl,Nat.add_mul];rw[Nat.add_mul] at hmul;omega
    ·exact hw.cK.trans ⟨rfl,Z,Z,by rw[size_setRow];exact NR _,fun x hx=>setRow_other w g x _ (fun he=>hgF (he▸hx)),NR _⟩
   ·have holds:∀j u,cs[j]?=some u→w.cell? ((⟨g,0,none⟩:Addr).add j)=some u:=fun j u hj=>by
     rw[Addr.add_mid,cell_of_row w g (0+j) _ el (0,0) hh]
     have hlt:j<cs.length:=(ZP.1 hj).1
     simp[List.getElem?_append,hlt]
     exact(ZP.1 hj).2
    have hrun:=run_append_grow (P:=X.P) w t ty el ti te.zero hund hi hz ⟨g,0,none⟩ n cap cs (by rw[hsz,hesz];exact hcl) holds ⟨b,off,none⟩ m c news hnl' hnews yd yd (growslice_fits yd (by rw[hbt];exact hb))
    exact .inl ⟨_,_,_,hexec _ _ hrun,⟨_,_,Z,grownCap_ge w (n+m) cap el,Z⟩,grown cap yd⟩
end Vg
namespace Vg
open Go
theorem so(n:Nat)(zs:List Value)(s:Nat)(hs:zs.length=s):((Array.range (n*s)).map (zs.toArray[· % zs.toArray.size]!))=((List.replicate n zs).flatten).toArray:=by
 apply Array.toList_inj.1
 simp only[Array.toList_map,Array.toList_range]
 subst hs
 induction n with
 | zero=>simp
 | succ n ih=>
  rw[List.replicate_succ',List.flatten_append,←ih,Nat.succ_mul,List.range_add,List.map_append]
  congr 1
  simp only[List.flatten_cons,List.flatten_nil,ZN,List.map_map]
  apply List.ext_getElem
  ·simp
  ·intro i h1 h2
   simp at h1
   simp[Nat.mul_add_mod_of_lt h1,h1]
structure eS(Fr:Nat→Prop)(w:World)(b:Nat)(cs:List Value):Prop where
 fr:Fr b
 at_:∃t fz,w.heap[b]?=some (.cells cs.toArray t fz)
theorem aM.aP{Fr:Nat→Prop}{L:List HP}{w:World}(h:aM Fr L w)(i:Nat){b t:Nat}{cs:List Value}(hL:L[i]?=some (pt b cs t)):eS Fr w b cs:=by
 obtain⟨F,hs,hf⟩:=h
 obtain⟨ids,⟨rfl,h1⟩,h2⟩:=hs.get hL
 exact⟨hf b (h2 b yf),t,(0,0),h1⟩
theorem eS.cK{X:Cx}{b:Nat}{cs:List Value}(h:eS X.Fr X.w0 b cs){Fr':Nat→Prop}{w:World}{L:List HP}(hF:∀b,X.Fr b→Fr' b)(hw:St X L w):eS Fr' w b cs:=by
 obtain⟨t,fz,ht⟩:=h.at_
 exact⟨hF b h.fr,t,fz,(hw.cK.block b h.fr).trans ht⟩
theorem aE.aP{X:Cx}{L:List HP}{ti:TI}{b off:Nat}{cs:List Value}{v:Value}(h:eS X.Fr X.w0 b cs)(hv:cs[off]?=some v)(ha:ti.aU.agg=false:=by rfl):aE X L ti b off v:=by
 obtain⟨t,fz,ht⟩:=h.at_
 exact aE.ZB h.fr ht hv ha
theorem aE.lG{X:Cx}{L:List HP}{ti:TI}{b off:Nat}{cs ds:List Value}(h:eS X.Fr X.w0 b cs)(hd:(cs.drop off).take ti.size=ds)(hl:ds.length=ti.size:=by rfl)(ha:ti.aU.agg=true:=by rfl):aE X L ti b off (.agg ds.toArray):=by
 obtain⟨t,fz,ht⟩:=h.at_
 exact aE.ZC h.fr ht hd hl ha
theorem dt.pt{X:Cx}{L:List HP}{b off m c esz t:Nat}{cs news:List Value}(i:Nat)(hL:L[i]?=some (pt b cs t))(hn:(cs.drop off).take (m*esz)=news)(hl:news.length=m*esz):dt X L (.slice (some ⟨b,off,none⟩) m c) esz m news:=
 ⟨hl,.inr ⟨b,off,c,rfl,fun _ hw=>kZ (hw.zu hL).1 hn⟩⟩
theorem dt.nil{X:Cx}{L:List HP}{a:Option Addr}{c esz:Nat}:dt X L (.slice a 0 c) esz 0 []:=⟨by simp,.inl ⟨a,c,rfl,rfl⟩⟩
theorem VO.Sn{X:Cx}{ops:Array Oper}{G:GS}{l:List Oper}{e:Env}{L:List HP}{K:Env→List HP→Prop}{ι:Type}(φ:ι→Prop)(M:ι→List HP)(h:∀w,St X L w→∃x,φ x∧St X (M x) w)
  (hk:∀x,φ x→VO X ops G l e (M x) K):VO X ops G l e L K:=fun Q' hQ ro a w ha hG hw=>by
 obtain⟨x,h1,h2⟩:=h w hw
 exact hk x h1 Q' hQ ro a w ha hG h2
theorem VC.Sn{X:Cx}{c:Code}{e:Env}{L:List HP}{Q:Exit→Env→List HP→Prop}{ι:Type}(φ:ι→Prop)(M:ι→List HP)(h:∀w,St X L w→∃x,φ x∧St X (M x) w)
  (hk:∀x,φ x→VC X c e (M x) Q):VC X c e L Q:=fun ro a w ha hw=>by
 obtain⟨x,h1,h2⟩:=h w hw
 exact hk x h1 ro a w ha h2
theorem VA.Sn{X:Cx}{ops:Array Oper}{G:GS}{pl:je}{S:lF}{e:Env}{L:List HP}{K:Env→List HP→Prop}{ι:Type}(φ:ι→Prop)(M:ι→List HP)(h:∀w,St X L w→∃x,φ x∧St X (M x) w)
  (hk:∀x,φ x→VA X ops G pl S e (M x) K):VA X ops G pl S e L K:=fun Q' hp0 hQ hsel ro listed a w hp ha hG hw hall=>by
 obtain⟨x,h1,h2⟩:=h w hw
 exact hk x h1 Q' hp0 hQ hsel ro listed a w hp ha hG h2 hall
def ae(L M:List HP):Prop:=∀w F,dM L F w→F.Nodup→∃F',dM M F' w∧F'.Nodup∧∀b∈F',b∈F
theorem ae.ar{X:Cx}{L M:List HP}(h:ae L M):jq X L M:=fun w hw=>by
 obtain⟨F,hs,hn,hb⟩:=hw.sat
 obtain⟨F',h1,h2,h3⟩:=h w F hs hn
 exact⟨⟨F',h1,h2,fun b hb'=>hb b (h3 b hb')⟩,hw.cK,hw.low⟩
theorem ae.refl{L:List HP}:ae L L:=fun _ F hs hn=>⟨F,hs,hn,fun _ h=>h⟩
theorem ae.trans{L M N:List HP}(h:ae L M)(k:ae M N):ae L N:=fun w F hs hn=>by
 obtain⟨F',h1,h2,h3⟩:=h w F hs hn
 obtain⟨F'',k1,k2,k3⟩:=k w F' h1 h2
 exact⟨F'',k1,k2,fun b hb=>h3 b (k3 b hb)⟩
theorem ae.perm{L M:List HP}(h:L.Perm M):ae L M:=fun w F hs hn=>by
 obtain⟨G,hG,hs'⟩:=hs.perm h
 exact⟨G,hs',hG.nodup_iff.1 hn,fun b hb=>hG.mem_iff.2 hb⟩
theorem ae.nil{L:List HP}:ae L []:=fun _ _ _ _=>⟨[],rfl,.nil,fun _ h=>by cases h⟩
theorem ae.app{L L' M M':List HP}(h:ae L M)(k:ae L' M'):ae (L++L') (M++M'):=fun w F hs hn=>by
 obtain⟨G,K,rfl,hG,hK⟩:=dM.append.1 hs
 obtain⟨n1,n2,nd⟩:=Z8.1 hn
 obtain⟨G',g1,g2,g3⟩:=h w G hG n1
 obtain⟨K',k1,k2,k3⟩:=k w K hK n2
 refine⟨G'++K',dM.append.2 ⟨G',K',Z,g1,k1⟩,Z8.2 ⟨g2,k2,fun x hx y hy=>nd x (g3 x hx) y (k3 y hy)⟩,fun b hb=>?_⟩
 rcases ZY.1 hb with hb | hb
 ·exact ZY.2 (.inl (g3 b hb))
 ·exact ZY.2 (.inr (k3 b hb))
theorem ae.cons{H:HP}{L M:List HP}(h:ae L M):ae (H::L) (H::M):=ae.app (L:=[H]) (M:=[H]) ae.refl h
theorem ae.pick{L M:List HP}{H:HP}(i:Nat)(hL:L[i]?=some H)(h:ae (L.eraseIdx i) M):ae L (H::M):=(ae.perm (bM hL)).trans h.cons
def DH:List Nat→List HP→List HP
  | [],_=>[]
  | i::l,L=>match L[i]? with
    | some H=>H::DH l (L.eraseIdx i)
    | none=>[]
theorem dF (l:List Nat) {L:List HP}:ae L (DH l L):=by
  induction l generalizing L with
  | nil=>exact ae.nil
  | cons i l ih=>
    unfold DH
    split
    · rename_i H h;exact ae.pick i h ih
    · exact ae.nil
theorem ae.sep{L Ls M:List HP}(h:ae L (Ls++M)):ae L (cU Ls::M):=fun w F hs hn=>by
 obtain⟨F',h1,h2,h3⟩:=h w F hs hn
 obtain⟨G,K,rfl,hG,hK⟩:=dM.append.1 h1
 exact⟨G++K,⟨G,K,Z,hG,hK⟩,h2,h3⟩
theorem ae.Fj{L Ls M:List HP}(h:ae (Ls++L) M):ae (cU Ls::L) M:=fun w F hs hn=>by
 obtain⟨G,K,rfl,hG,hK⟩:=hs
 exact h w _ (dM.append.2 ⟨G,K,Z,hG,hK⟩) hn
theorem ae.ex{α:Type}{f:α→HP}{L M:List HP}(x:α)(h:ae L (f x::M)):ae L (hex f::M):=fun w F hs hn=>by
 obtain⟨F',⟨G,K,rfl,hG,hK⟩,h2,h3⟩:=h w F hs hn
 exact⟨G++K,⟨G,K,Z,⟨x,hG⟩,hK⟩,h2,h3⟩
theorem ae.pure{φ:Prop}{L M:List HP}(hφ:φ)(h:ae L M):ae L (gu φ::M):=fun w F hs hn=>by
 obtain⟨F',h1,h2,h3⟩:=h w F hs hn
 exact⟨F',⟨[],F',Z,⟨rfl,hφ⟩,h1⟩,h2,h3⟩
theorem ae.sl{L M:List HP}{el esz b n cap:Nat}{cs rest:List Value}(hc:cs.length=n*esz)(hn:n≤cap)(hr:(cs++rest).length=cap*esz)(h:ae L (pt b (cs++rest) el::M)):ae L (aI el esz (some ⟨b,0,none⟩) n cap cs::M):=fun w F hs hn'=>by
 obtain⟨F',⟨G,K,rfl,⟨rfl,hG⟩,hK⟩,h2,h3⟩:=h w F hs hn'
 exact⟨[b]++K,⟨[b],K,Z,⟨hc,.inr ⟨b,rest,Z,Z,hn,hr,hG⟩⟩,hK⟩,h2,h3⟩
theorem ae.bZ{L M:List HP}{el esz:Nat}(h:ae L M):ae L (aI el esz none 0 0 []::M):=fun w F hs hn=>by
 obtain⟨F',h1,h2,h3⟩:=h w F hs hn
 exact⟨F',⟨[],F',Z,⟨by simp,.inl ⟨rfl,Z,Z,Z⟩⟩,h1⟩,h2,h3⟩
def aW{ι:Type}(H:HP)(φ:ι→Prop)(Ls:ι→List HP):Prop:=∀w ids,H.sat ids w→ids.Nodup→∃x,φ x∧∃ids',dM (Ls x) ids' w∧ids'.Nodup∧∀b∈ids',b∈ids
theorem aW.st{X:Cx}{L:List HP}{ι:Type}{H:HP}{φ:ι→Prop}{Ls:ι→List HP}(i:Nat)(hL:L[i]?=some H)(h:aW H φ Ls)(w:World)(hw:St X L w):∃x,φ x∧St X (Ls x++L.eraseIdx i) w:=by
 obtain⟨F,⟨ids,K,rfl,hid,hK⟩,hn,hb⟩:=hw.sat.perm (bM hL)
 obtain⟨n1,n2,nd⟩:=Z8.1 hn
 obtain⟨x,hx,ids',h1,h2,h3⟩:=h w ids hid n1
 refine⟨x,hx,⟨⟨ids'++K,dM.append.2 ⟨ids',K,Z,h1,hK⟩,Z8.2 ⟨h2,n2,fun x hx y hy=>nd x (h3 x hx) y hy⟩,fun b hb'=>?_⟩,hw.cK,hw.low⟩⟩
 rcases ZY.1 hb' with hb' | hb'
 ·exact hb b (ZY.2 (.inl (h3 b hb')))
 ·exact hb b (ZY.2 (.inr hb'))
theorem VO.e_{X:Cx}{ops:Array Oper}{G:GS}{l:List Oper}{e:Env}{L:List HP}{K:Env→List HP→Prop}{ι:Type}{H:HP}{φ:ι→Prop}{Ls:ι→List HP}(i:Nat)(hL:L[i]?=some H)(h:aW H φ Ls)
  (hk:∀x,φ x→VO X ops G l e (Ls x++L.eraseIdx i) K):VO X ops G l e L K:=VO.Sn φ _ (h.st i hL) hk
theorem VC.e_{X:Cx}{c:Code}{e:Env}{L:List HP}{Q:Exit→Env→List HP→Prop}{ι:Type}{H:HP}{φ:ι→Prop}{Ls:ι→List HP}(i:Nat)(hL:L[i]?=some H)(h:aW H φ Ls)
  (hk:∀x,φ x→VC X c e (Ls x++L.eraseIdx i) Q):VC X c e L Q:=VC.Sn φ _ (h.st i hL) hk
theorem VA.e_{X:Cx}{ops:Array Oper}{G:GS}{pl:je}{S:lF}{e:Env}{L:List HP}{K:Env→List HP→Prop}{ι:Type}{H:HP}{φ:ι→Prop}{Ls:ι→List HP}(i:Nat)(hL:L[i]?=some H)(h:aW H φ Ls)
  (hk:∀x,φ x→VA X ops G pl S e (Ls x++L.eraseIdx i) K):VA X ops G pl S e L K:=VA.Sn φ _ (h.st i hL) hk
theorem aW.sl(el esz:Nat)(a:Option Addr)(n cap:Nat)(cs:List Value):aW (ι:=Option (Nat×List Value)) (aI el esz a n cap cs)
  (fun x=>cs.length=n*esz∧n≤cap∧match x with | none=>a=none∧n=0∧cap=0∧cs=[] | some (b,rest)=>a=some ⟨b,0,none⟩∧(cs++rest).length=cap*esz)
  (fun x=>match x with | none=>[] | some (b,rest)=>[pt b (cs++rest) el]):=by
 rintro w ids ⟨hc,⟨rfl,rfl,rfl,rfl⟩ | ⟨b,rest,rfl,rfl,hn,hr,hh⟩⟩ hnd
 ·exact⟨none,⟨hc,NR _,rfl,rfl,rfl,List.eq_nil_of_length_eq_zero (by simpa using hc)⟩,[],rfl,.nil,fun _ h=>by cases h⟩
 ·exact⟨some (b,rest),⟨hc,hn,Z,hr⟩,[b],⟨[b],[],Z,⟨rfl,hh⟩,Z⟩,by simp,fun _ h=>h⟩
section
variable {X:Cx} {ops:Array Oper} {G:GS} {l:List Oper} {e:Env} {L:List HP} {K:Env→List HP→Prop}
  {dst:Option Tmp} {ty:TypeId} {pos:String} {after:Array Edge} {guard:Option (Nat×Bool)}
theorem VO.call{f:FuncId}{args:Array Operand}{tys:Array TypeId}{vals:List Value}{R:Value→List HP→Prop}{Lc Lr:List HP}
  (ht:∀Fr' w,(∀b,X.Fr b→Fr' b)→St X L w→aM Fr' Lr w→aH X.P f vals Fr' w Lc R) (hargs:lE e args.toList=some vals) (hL:L=Lc++Lr)
  (hk:∀v L1,R v L1→VO X ops G l (cE dst v e) (L1++Lr) K)
  (hg:gT ops G guard=some true:=by rfl) (hd:bB X.n dst=true:=by rfl) (hf:bt G dst=true:=by rfl):
  VO X ops G (⟨dst,.call ⟨.value (.func f),args,tys⟩,ty,pos,after,guard⟩::l) e L K:=
 VO.op hg hd hf (a8.call hargs (hL▸.refl _) ht) fun v L' ⟨L1,h1,h2⟩=>by subst h2;exact hk v L1 h1
theorem VO.append{t el esz n cap m:Nat}{tt te:TI}{x y:Operand}{a:Option Addr}{cs news:List Value}{v:Value}(i:Nat)
  (hx:ev e x=some (.slice a n cap)) (hy:ev e y=some v) (hL:L[i]?=some (aI el esz a n cap cs)) (hT:aL X.tab t=some tt) (hu:tt.aU=.slice el) (hE:aL X.tab el=some te) (hesz:te.size=esz)
  (hr:dt X L v esz m news) (h1:news.all Value.oneCell'=true) (hb:(n+m)*te.bytes≤140737488355328) (h63:n+m≤9223372036854775807)
  (hk:∀a' cap',n+m≤cap'→VO X ops G l (cE dst (.slice a' (n+m) cap') e) (aI el esz a' (n+m) cap' (cs++news)::L.eraseIdx i) K)
  (hg:gT ops G guard=some true:=by rfl) (hd:bB X.n dst=true:=by rfl) (hf:bt G dst=true:=by rfl):
  VO X ops G (⟨dst,.call ⟨.builtin .append,#[x,y],#[t,t]⟩,ty,pos,after,guard⟩::l) e L K:=
 VO.op hg hd hf (a8.append i hx hy hL hT hu hE hesz hr h1 hb h63) fun u L' ⟨a',cap',h1,h2,h3⟩=>by subst h1;subst h3;exact hk a' cap' h2
theorem a8.buildSlice{T:TypeId}{n:Nat}{parts:Array (Nat×Operand)}{tt te:TI}{el:Nat}{pv:List (Nat×Value)}{cells:List Value}(hT:aL X.tab T=some tt)(hu:tt.aU=.slice el)(hE:aL X.tab el=some te)
  (hp:H0 e parts.toList=some pv) (hn:n*te.size≤16777216) (hfill:qV (fun i=>some (i*te.size,te.size)) (List.replicate n te.zs).flatten pv=some cells):
  a8 X (.buildSlice T n parts) e L (fun u L'=>∃b,u=.slice (some ⟨b,0,none⟩) n n∧L'=pt b cells el::L):=fun a w ha hw dst ty pos after guard=>by
 have hund:=e9 (X.ok.look hT) hu
 have hok:=X.ok.look hE
 obtain⟨i,hi,hsz,_,_⟩:=hok.kY
 have hparts:(parts.map fun x=>match x with | (i,x)=>(i,a.eval x))=pv.toArray:=by
  apply Array.toList_inj.1
  simpa using ha.H0 hp
 have hzero:((Array.range (n*te.size)).map (te.zs.toArray[· % te.zs.toArray.size]!))=((List.replicate n te.zs).flatten).toArray:=so n te.zs te.size hok.len
 have hff:=qj hfill
 refine .inl ⟨.slice (some ⟨w.heap.size,0,none⟩) n n,w.alloc (.cells cells.toArray el),_,?_,⟨w.heap.size,Z,Z⟩,hw.alloc cells el⟩
 have hlim:¬(n*te.size > 2 ^ 24):=by simpa using hn
 have hb:(Instr.buildSlice T n pv.toArray).run X.P w=.ok (.slice (some ⟨w.heap.size,0,none⟩) n n) (w.alloc (.cells cells.toArray el)):=by
  unfold Instr.buildSlice
  by_cases h0:n*te.size=0
  ·have hz0:(List.replicate n te.zs).flatten=[]:=by
    apply List.eq_nil_of_length_eq_zero
    simp[hok.len,h0]
   rw[hz0] at hff
   have e0:∀f:Nat→Value,(Array.range 0).map f=#[]:=fun f=>by simp
   have h2:¬(0 > 2 ^ 24):=by decide
   simp only[Sem.run_bind,run_underlying hund,Result.andThen_ok,dI hi,hsz,h2,if_false,h0,if_true,Sem.run_pure,e0]
   simp[hff,newRow,newObj,Sem.run]
  ·simp only[Sem.run_bind,run_underlying hund,Result.andThen_ok,dI hi,hsz,hlim,if_false,h0,Sem.run_pure,kz hok,hok.zero,hzero]
   simp[hff,newRow,newObj,Sem.run]
 simp only[execOp]
 rw[Sem.run_bind,hparts,hb];rfl
theorem VO.buildSlice{T:TypeId}{n:Nat}{parts:Array (Nat×Operand)}{tt te:TI}{el:Nat}{pv:List (Nat×Value)}(cells:List Value)(hT:aL X.tab T=some tt)(hu:tt.aU=.slice el)(hE:aL X.tab el=some te)
  (hp:H0 e parts.toList=some pv) (hn:n*te.size≤16777216) (hfill:qV (fun i=>some (i*te.size,te.size)) (List.replicate n te.zs).flatten pv=some cells)
  (hk:∀b,VO X ops G l (cE dst (.slice (some ⟨b,0,none⟩) n n) e) (pt b cells el::L) K)
  (hg:gT ops G guard=some true:=by rfl) (hd:bB X.n dst=true:=by rfl) (hf:bt G dst=true:=by rfl):
  VO X ops G (⟨dst,.buildSlice T n parts,ty,pos,after,guard⟩::l) e L K:=
 VO.op hg hd hf (a8.buildSlice hT hu hE hp hn hfill) fun u L' ⟨b,h1,h2⟩=>by subst h1;subst h2;exact hk b
theorem bJ{v:Value}{vs zs:List Value}{s:Nat}(hv:v.cells=vs.toArray)(hs:vs.length=s)(hz:zs.length=s):qV (fun i=>some (i*s,s)) (List.replicate 1 zs).flatten [(0,v)]=some vs:=by
 have h1:v.cells.toList=vs:=by rw[hv]
 have h2:(List.replicate 1 zs).flatten=zs:=by show zs ++ []=zs;simp
 have h3:ki zs 0 vs=vs:=by
  unfold ki
  rw[List.drop_of_length_le yd];simp
 have h4:Nat.beq vs.length s=true:=by rw[hs];exact Nat.beq_refl s
 have h5:Nat.ble s zs.length=true:=by rw[hz];exact Nat.ble_eq.mpr (NR s)
 simp only[qV,h1,h2,Nat.zero_mul,ZQ,h3,h4,h5,Bool.and_self,cond_true]
theorem a8.makeSlice{T:TypeId}{x y:Operand}{tt te:TI}{el:Nat}{k k':IntKind}(n:Nat)(hx:ev e x=some (.int k n))(hy:ev e y=some (.int k' n))(hT:aL X.tab T=some tt)(hu:tt.aU=.slice el)(hE:aL X.tab el=some te)
  (hn:n≤9223372036854775807) (hb:te.bytes*n≤281474976710656):
  a8 X (.makeSlice T x y) e L (fun u L'=>∃b,u=.slice (some ⟨b,0,none⟩) n n∧L'=pt b (List.replicate n te.zs).flatten el::L):=fun a w ha hw dst ty pos after guard=>by
 have hund:=e9 (X.ok.look hT) hu
 have hok:=X.ok.look hE
 obtain⟨i,hi,hsz,hby,hz⟩:=hok.kY
 have hzero:=so n te.zs te.size hok.len
 refine .inl ⟨.slice (some ⟨w.heap.size,0,none⟩) n n,w.alloc (.cells (List.replicate n te.zs).flatten.toArray el),_,?_,⟨w.heap.size,Z,Z⟩,hw.alloc _ el⟩
 have hrun:=run_make (P:=X.P) w T el i te.zero hund hi hz k k' n n yd yd (by
  have h1:((te.bytes*n:Nat):Int)≤((281474976710656:Nat):Int):=Int.ofNat_le.2 hb
  rw[Int.natCast_mul] at h1
  rw[hby];exact h1) yd
 have hmc:madeCells te.zero.cells ((n:Int).toNat*i.size)=(List.replicate n te.zs).flatten.toArray:=by
  rw[←hzero,hok.zero,hsz];rfl
 rw[hmc] at hrun
 simp only[execOp,ha.ev hx,ha.ev hy]
 rw[Sem.run_bind,hrun];rfl
theorem VO.makeSlice{T:TypeId}{x y:Operand}{tt te:TI}{el:Nat}{k k':IntKind}{i j:Int}(n:Nat)(hx:ev e x=some (.int k i))(hy:ev e y=some (.int k' j))(hT:aL X.tab T=some tt)(hu:tt.aU=.slice el)(hE:aL X.tab el=some te)
  (hi:i=n) (hj:j=n) (hn:n≤9223372036854775807) (hb:te.bytes*n≤281474976710656)
  (hk:∀b,VO X ops G l (cE dst (.slice (some ⟨b,0,none⟩) n n) e) (pt b (List.replicate n te.zs).flatten el::L) K)
  (hg:gT ops G guard=some true:=by rfl) (hd:bB X.n dst=true:=by rfl) (hf:bt G dst=true:=by rfl):
  VO X ops G (⟨dst,.makeSlice T x y,ty,pos,after,guard⟩::l) e L K:=by
 subst hi;subst hj
 exact VO.op hg hd hf (a8.makeSlice n hx hy hT hu hE hn hb) fun u L' ⟨b,h1,h2⟩=>by subst h1;subst h2;exact hk b
end
end Vg
namespace Vg
open Go
theorem fU{P:Program}{t:Nat}{ti:TI}(h:az P t ti){b off:Nat}{v:Value}{w:World}(hr:Rd ti.aU.agg ti.size b off v w):(loadVar t ⟨b,off,none⟩).run P w=.ok v w:=by
 have:=uB h hr
 unfold Instr.loadAt at this
 simpa[Instr.sureAddr] using this
theorem ay.cell{X:Cx}{fn:Func}{R:Value→List HP→Prop}{e:Env}{L:List HP}{T:TypeId}{ti:TI}{b:Nat}{v:Value}(p:Nat)(h:fn.results=#[.cell p T])(hp:look e p=some (.pointer (some ⟨b,0,none⟩)))(hT:aL X.tab T=some ti)
  (hr:aE X L ti b 0 v) {L':List HP} (he:jq X L L') (hR:R v L'):ay X fn R e L:=
 ⟨v,L',⟨fun a w ha hw=>by
  have:=fU (X.ok.look hT) (hr w hw)
  have hp':=ha.at_ p _ hp
  simp only[Array.getD_eq_getD_getElem?] at hp'
  simp[results,h,hp',asAddr,this]⟩,he,hR⟩
theorem ay.aT{X:Cx}{fn:Func}{R:Value→List HP→Prop}{e:Env}{L:List HP}{T:TypeId}{ti:TI}{b:Nat}{v u:Value}(p q:Nat)(h:fn.results=#[.cell p T,.tmp q])(hp:look e p=some (.pointer (some ⟨b,0,none⟩)))(hT:aL X.tab T=some ti)
  (hr:aE X L ti b 0 v) (hq:look e q=some u) {L':List HP} (he:jq X L L') (hR:R (.tuple #[v,u]) L'):ay X fn R e L:=
 ⟨_,L',⟨fun a w ha hw=>by
  have:=fU (X.ok.look hT) (hr w hw)
  have hp':=ha.at_ p _ hp
  have hq':=ha.at_ q _ hq
  simp only[Array.getD_eq_getD_getElem?] at hp' hq'
  simp[results,h,hp',hq',asAddr,this]⟩,he,hR⟩
section
variable {X:Cx} {ops:Array Oper} {G:GS} {l:List Oper} {e:Env} {L:List HP} {K:Env→List HP→Prop}
  {dst:Option Tmp} {ty:TypeId} {pos:String} {after:Array Edge} {guard:Option (Nat×Bool)}
theorem a8.clear{t el b off n cap tb:Nat}{tt te:TI}{x:Operand}{cs:List Value}(i:Nat)(hx:ev e x=some (.slice (some ⟨b,off,none⟩) n cap))(hL:L[i]?=some (pt b cs tb))(hT:aL X.tab t=some tt)(hu:tt.aU=.slice el)(hE:aL X.tab el=some te)
  (hn:0<n) (hl:off+n*te.size≤cs.length) (h1:te.zs.all Value.oneCell'=true):
  a8 X (.call ⟨.builtin .clear,#[x],#[t]⟩) e L (fun u L'=>u=.tuple #[]∧L'=L.set i (pt b (ki cs off (List.replicate n te.zs).flatten) tb)):=fun a w ha hw dst ty pos after guard=>by
 have hund:=e9 (X.ok.look hT) hu
 have hok:=X.ok.look hE
 obtain⟨h0,hf⟩:=hw.zu hL
 have hlen:((List.replicate n te.zs).flatten).length=n*te.size:=by simp[hok.len]
 have hz:Builtin.zeroCells te.zs.toArray n=((List.replicate n te.zs).flatten).toArray:=by
  have:=so n te.zs te.size hok.len
  unfold Builtin.zeroCells
  simpa[hok.len] using this
 have hall:((List.replicate n te.zs).flatten).all Value.oneCell'=true:=by
  rw[List.all_eq_true] at h1 ⊢
  intro v hv
  obtain⟨l,hl,hv⟩:=List.mem_flatten.1 hv
  rw[List.mem_replicate] at hl
  exact h1 v (hl.2▸hv)
 have hst:=hO (P:=X.P) _ 0 off w cs h0 (by rw[hlen];simpa using hl) hall
 simp only[Nat.add_zero] at hst
 refine .inl ⟨_,_,_,?_,⟨rfl,Z⟩,hw.set hL⟩
 have hn0:n≠0:=by omega
 have hb:(Builtin.clear_ #[t] ty #[.slice (some ⟨b,off,none⟩) n cap]).run X.P w=.ok (.tuple #[]) (bC w b (.cells (ki cs off (List.replicate n te.zs).flatten).toArray tb (0,0))):=by
  obtain⟨k,rfl⟩:∃k,n=k+1:=⟨n-1,by omega⟩
  simp[Builtin.clear_,run_underlying hund,kz hok,hok.zero,hz,hst]
 simp[execOp,resolve,invoke,builtin,ha.ev hx,hb]
theorem bq{xt yt:TypeId}{x y:Operand}{s t:ByteArray}(hx:ev e x=some (.string s))(hy:ev e y=some (.string t))(hs:s.size+t.size≤9223372036854775807):cY X (.binOp .add xt x y yt) e (.string (s++t)):=by
 intro a ha dst ty pos after guard w
 have h:¬(((s.size+t.size:Nat):Int) > IntKind.i64.max):=by
  have:IntKind.i64.max=9223372036854775807:=rfl
  omega
 have hb:Op.stringOp .add s t=pure (.string (s++t)):=by
  unfold Op.stringOp
  rw[if_neg h]
 simp only[execOp,ha.ev hx,ha.ev hy]
 show((do eqGuard .add xt x y (.string s) (.string t);Op.stringOp .add s t:Sem Value) >>= fun v=>pure (Next.value v)).run X.P w=_
 rw[hb];rfl
theorem a8.str{s d el b n cap tb:Nat}{ts td te:TI}{x:Operand}{bs:List UInt8}{cs:List Value}(i:Nat)(hx:ev e x=some (.slice (some ⟨b,0,none⟩) n cap))(hL:L[i]?=some (pt b cs tb))(hS:aL X.tab s=some ts)(hsu:ts.aU=.slice el)(hE:aL X.tab el=some te)(hEu:te.aU=.int .u8)
  (hD:aL X.tab d=some td) (hdu:td.aU=.string) (hn:bs.length=n) (hcs:cs.take n=bs.map fun c=>Value.int .u8 (c.toNat:Int)):
  a8 X (.convert s d x) e L (fun u L'=>u=.string ⟨bs.toArray⟩∧L'=L):=fun a w ha hw dst ty pos after guard=>by
 have h1:=e9 (X.ok.look hS) hsu
 have h2:=zH (X.ok.look hE) hEu
 have h3:=hU (X.ok.look hD) hdu
 obtain⟨h0,_⟩:=hw.zu hL
 have hr:=run_convert_bytes_back (P:=X.P) w s d el ⟨b,0,none⟩ cap bs h1 h2 h3 (fun j hj=>by
  rw[Addr.add_mid,cell_of_row w b (0+j) _ tb (0,0) h0]
  have:(cs.take n)[j]?=some (.int .u8 (bs[j].toNat:Int)):=by rw[hcs];simp[hj]
  rw[List.getElem?_take,if_pos yd] at this
  simpa using this)
 rw[hn] at hr
 refine .inl ⟨_,w,L,?_,⟨rfl,Z⟩,hw⟩
 simp only[execOp,ha.ev hx]
 rw[Sem.run_bind,hr];rfl
end
section
variable {X:Cx} {ops:Array Oper} {G:GS} {pl:je} {S:lF} {e:Env} {L:List HP} {K:Env→List HP→Prop}
  {dst:Option Tmp} {ty:TypeId} {pos:String} {after:Array Edge} {guard:Option (Nat×Bool)}
theorem VA.Bk{i:Nat}{op:Op}{v:Value}(hi:ops.toList[i]?=some ⟨dst,op,ty,pos,after,guard⟩)(hl:cY X op e v)(hk:VA X ops G pl S (cE dst v e) L K)
  (hg:gT ops G guard=some true:=by rfl) (hd:bB X.n dst=true:=by rfl) (hf:bt G dst=true:=by rfl):VA X ops G (.take i pl) S e L K:=
 VA.pure hi hg hd hf hl hk
theorem VA.arith{op:BinOp}{xt yt:TypeId}{x y:Operand}{k:IntKind}{a b:Int}{i:Nat}(z:Int)(hi:ops.toList[i]?=some ⟨dst,.binOp op xt x y yt,ty,pos,after,guard⟩)
  (hx:ev e x=some (.int k a)) (hy:ev e y=some (.int k b))
  (hz:(match op with | .add=>k.wrap (a+b)=z | .sub=>k.wrap (a-b)=z | .mul=>k.wrap (a*b)=z | _=>False))
  (hk:VA X ops G pl S (cE dst (.int k z) e) L K)
  (hg:gT ops G guard=some true:=by rfl) (hd:bB X.n dst=true:=by rfl) (hf:bt G dst=true:=by rfl):VA X ops G (.take i pl) S e L K:=by
 refine VA.pure hi hg hd hf ?_ hk
 intro a' ha dst ty pos after guard w
 cases op<;>simp only at hz
 case add=>simp[execOp,ha.ev hx,ha.ev hy,eqGuard,binOp,Op.intArith,hz]
 case sub=>simp[execOp,ha.ev hx,ha.ev hy,eqGuard,binOp,Op.intArith,hz]
 case mul=>simp[execOp,ha.ev hx,ha.ev hy,eqGuard,binOp,Op.intArith,hz]
theorem VA.add{xt yt:TypeId}{x y:Operand}{a b:Int}{i:Nat}(hi:ops.toList[i]?=some ⟨dst,.binOp .add xt x y yt,ty,pos,after,guard⟩)
  (hx:ev e x=some (.int .i64 a)) (hy:ev e y=some (.int .i64 b)) (h1:-9223372036854775808≤a+b) (h2:a+b≤9223372036854775807)
  (hk:VA X ops G pl S (cE dst (.int .i64 (a+b)) e) L K)
  (hg:gT ops G guard=some true:=by rfl) (hd:bB X.n dst=true:=by rfl) (hf:bt G dst=true:=by rfl):VA X ops G (.take i pl) S e L K:=VA.arith (a+b) hi hx hy (i64_in _ h1 h2) hk hg hd hf
theorem VA.zp{xt yt:TypeId}{x y:Operand}{a b:Int}{i:Nat}(hi:ops.toList[i]?=some ⟨dst,.binOp .sub xt x y yt,ty,pos,after,guard⟩)
  (hx:ev e x=some (.int .i64 a)) (hy:ev e y=some (.int .i64 b)) (h1:-9223372036854775808≤a-b) (h2:a-b≤9223372036854775807)
  (hk:VA X ops G pl S (cE dst (.int .i64 (a-b)) e) L K)
  (hg:gT ops G guard=some true:=by rfl) (hd:bB X.n dst=true:=by rfl) (hf:bt G dst=true:=by rfl):VA X ops G (.take i pl) S e L K:=VA.arith (a-b) hi hx hy (i64_in _ h1 h2) hk hg hd hf
theorem VA.O6{f:FuncId}{args:Array Operand}{tys:Array TypeId}{vals:List Value}{u:Value}{i:Nat}
  (ht:∀Fr' w,(∀b,X.Fr b→Fr' b)→St X L w→aM Fr' L w→aH X.P f vals Fr' w [] (fun v L=>v=u∧L=[]))
  (hi:ops.toList[i]?=some ⟨dst,.call ⟨.value (.func f),args,tys⟩,ty,pos,after,guard⟩) (hargs:lE e args.toList=some vals)
  (hst:∀w,St X L w→∀p∈S,waits ops i p.1=false→p.2 w)
  (hk:VA X ops G pl (S.filter fun p=>!waits ops i p.1) (cE dst u e) L K)
  (hg:gT ops G guard=some true:=by rfl) (hd:bB X.n dst=true:=by rfl) (hf:bt G dst=true:=by rfl):VA X ops G (.only i pl) S e L K:=by
 refine VA.op (M:=fun v L'=>v=u∧L'=L) hi hg hd hf ?_ (fun v L' ⟨_,h2⟩ w hw=>by subst h2;exact hst w hw) (fun v L' ⟨h1,h2⟩=>by subst h1;subst h2;exact hk)
 intro a w ha hw dst ty pos after guard
 rcases a8.call (R:=fun v L=>v=u∧L=[]) hargs (Lc:=[]) (Lr:=L) (.refl _) ht a w ha hw dst ty pos after guard with ⟨v,w',L',h1,⟨L1,⟨h2,h3⟩,h4⟩,h5⟩ | ⟨w',L',h1,⟨L1,⟨h2,h3⟩,h4⟩,h5⟩ | ⟨f,args,h1,h2⟩
 ·exact .inl ⟨v,w',L',h1,⟨h2,by rw[h4,h3];rfl⟩,h5⟩
 ·exact .inr (.inl ⟨w',L',h1,⟨h2,by rw[h4,h3];rfl⟩,h5⟩)
 ·refine .inr (.inr ⟨f,args,h1,Calls.mono h2 fun en w' ⟨v,L',h3,⟨L1,⟨h4,h5⟩,h6⟩,h7⟩=>⟨v,L',h3,⟨h4,by rw[h6,h5];rfl⟩,h7⟩⟩)
end
end Vg
namespace Vg
open Go
def flat{α:Type}(c:α→List Value)(l:List α):List Value:=(l.map c).flatten
section
variable {α:Type} {c:α→List Value} {n:Nat}
theorem fg:flat c []=[]:=rfl
theorem bO(a:α)(l:List α):flat c (a::l)=c a++flat c l:=by simp[flat]
theorem bf(l m:List α):flat c (l++m)=flat c l++flat c m:=by simp[flat]
theorem bp(h:∀a,(c a).length=n):∀l:List α,(flat c l).length=l.length*n
 | []=>by simp[flat]
 | a::l=>by rw[bO,ZM,h,bp h l,ZW,Nat.add_mul,Nat.one_mul,Nat.add_comm]
theorem pk(h:∀a,(c a).length=n):∀(i:Nat) (l:List α) (rest:List Value),i≤l.length→(flat c l++rest).drop (i*n)=flat c (l.drop i)++rest
 | 0,l,rest,_=>by simp
 | i+1,[],rest,hi=>by simp at hi
 | i+1,a::l,rest,hi=>by
  rw[bO,Nat.add_mul,Nat.one_mul,Nat.add_comm (i*n),ZX,←List.drop_drop]
  have:(c a++(flat c l++rest)).drop n=flat c l++rest:=by rw[←h a];simp
  rw[this,pk h i l rest yk];rfl
theorem fG(h:∀a,(c a).length=n){i:Nat}{l:List α}{a:α}(ha:l[i]?=some a)(rest:List Value):((flat c l++rest).drop (i*n)).take n=c a:=by
 have hi:i<l.length:=(ZP.1 ha).1
 rw[pk h i l rest (Nat.le_of_lt hi),List.drop_eq_getElem_cons hi,(ZP.1 ha).2,bO,ZX,←h a]
 simp
theorem fH(h:∀a,(c a).length=n){i j:Nat}{l:List α}{a:α}{v:Value}(ha:l[i]?=some a)(hj:(c a)[j]?=some v)(rest:List Value):(flat c l++rest)[i*n+j]?=some v:=by
 have hjn:j<n:=by rw[←h a];exact(ZP.1 hj).1
 have:=fG h ha rest
 rw[←this,List.getElem?_take,if_pos hjn,List.getElem?_drop] at hj
 exact hj
theorem lZ(h:∀a,(c a).length=n):∀{i:Nat} {l:List α} (a:α) (rest:List Value),i<l.length→ki (flat c l++rest) (i*n) (c a)=flat c (l.set i a)++rest
 | 0,[],a,rest,hi=>by simp at hi
 | 0,b::l,a,rest,_=>by
  simp only[ki,List.set_cons_zero,bO,Nat.zero_mul,List.take_zero,List.nil_append,ZQ,ZX]
  have:(c b++(flat c l++rest)).drop (c a).length=flat c l++rest:=by rw[h a,←h b];simp
  rw[this]
 | i+1,[],a,rest,hi=>by simp at hi
 | i+1,b::l,a,rest,hi=>by
  have ih:=lZ h (i:=i) (l:=l) a rest yk
  have e:(i+1)*n=(c b).length+i*n:=by rw[h b,Nat.add_mul];omega
  simp only[List.set_cons_succ,bO,ZX]
  unfold ki at ih ⊢
  rw[e,List.take_length_add_append,Nat.add_assoc,List.drop_length_add_append,←ih]
  simp
theorem gF(h:∀a,(c a).length=n){i j:Nat}{l:List α}{a a':α}{v:Value}(ha:l[i]?=some a)(hj:j<n)(hc:(c a).set j v=c a')(rest:List Value):(flat c l++rest).set (i*n+j) v=flat c (l.set i a')++rest:=by
 have hi:i<l.length:=(ZP.1 ha).1
 have hL:(flat c l++rest).length=l.length*n+rest.length:=by rw[ZM,bp h]
 have h1:=lZ h a' rest hi
 rw[←h1,←hc]
 have hle:(i+1)*n≤l.length*n:=Nat.mul_le_mul_right n hi
 rw[Nat.add_mul,Nat.one_mul] at hle
 have hr:=fG h ha rest
 apply List.ext_getElem?
 intro k
 unfold ki
 rw[ZX,List.getElem?_append,List.getElem?_append]
 have hca:=h a
 simp only[Z4,Z1,hca,hL]
 rw[Nat.min_eq_left yd]
 split
 ·rw[List.getElem?_set_ne yd,List.getElem?_take,if_pos (by assumption)]
 ·rename_i hk
  split
  ·rename_i hk2
   by_cases hkj:k=i*n+j
   ·subst hkj
    rw[Z9 yd,Nat.add_sub_cancel_left,Z9 yd]
   ·rw[List.getElem?_set_ne yd,List.getElem?_set_ne yd,←hr,List.getElem?_take,if_pos hk2,List.getElem?_drop]
    congr 1;omega
  ·rename_i hk2
   rw[List.getElem?_set_ne yd,List.getElem?_drop]
   congr 1;omega
theorem ot(m:Nat)(a:α):(List.replicate m (c a)).flatten=flat c (List.replicate m a):=by simp[flat]
theorem gU{p:Value→Bool}(h:∀a,(c a).all p=true)(l:List α):(flat c l).all p=true:=by
 rw[List.all_eq_true];intro v hv
 obtain⟨r,hr,hv⟩:=List.mem_flatten.1 hv
 obtain⟨a,_,rfl⟩:=Z0.1 hr
 exact List.all_eq_true.1 (h a) v hv
end
theorem aM.at_{Fr:Nat→Prop}{L:List HP}{w:World}(h:aM Fr L w)(i:Nat){H:HP}(hL:L[i]?=some H):aM Fr [H] w:=by
 obtain⟨F,hs,hf⟩:=h
 obtain⟨ids,h1,h2⟩:=hs.get hL
 exact⟨ids,⟨ids,[],by simp,h1,Z⟩,fun b hb=>hf b (h2 b hb)⟩
theorem aM.ex{Fr:Nat→Prop}{α:Type}{f:α→HP}{w:World}(h:aM Fr [hex f] w):∃x,aM Fr [f x] w:=by
 obtain⟨F,⟨ids,G,hF,⟨x,hx⟩,hG⟩,hf⟩:=h
 exact⟨x,F,⟨ids,G,hF,hx,hG⟩,hf⟩
theorem aM.sep{Fr:Nat→Prop}{L:List HP}{w:World}(h:aM Fr [cU L] w):aM Fr L w:=by
 obtain⟨F,⟨ids,G,hF,hx,hG⟩,hf⟩:=h
 exact⟨ids,hx,fun b hb=>hf b (by rw[hF];exact ZY.2 (.inl hb))⟩
theorem aM.pure{Fr:Nat→Prop}{L:List HP}{w:World}(h:aM Fr L w)(i:Nat){φ:Prop}(hL:L[i]?=some (gu φ)):φ:=by
 obtain⟨F,hs,hf⟩:=h
 obtain⟨ids,h1,h2⟩:=hs.get hL
 exact h1.2
theorem aM.tail{Fr:Nat→Prop}{H:HP}{L:List HP}{w:World}(h:aM Fr (H::L) w):aM Fr L w:=by
 obtain⟨F,⟨G,K,rfl,_,hK⟩,hf⟩:=h
 exact⟨K,hK,fun b hb=>hf b (ZY.2 (.inr hb))⟩
theorem aM.shut{Fr:Nat→Prop}{α:Type}{φ:α→Prop}{Ls:α→List HP}{w:World}(x:α)(hx:φ x)(h:aM Fr (Ls x) w):aM Fr [hex fun x=>cU (gu (φ x)::Ls x)] w:=by
 obtain⟨F,hs,hf⟩:=h
 exact⟨F,⟨F,[],by simp,⟨x,[],F,Z,⟨rfl,hx⟩,hs⟩,Z⟩,hf⟩
theorem aM.of{X:Cx}{Fr':Nat→Prop}{L:List HP}(hw:aM X.Fr L X.w0)(hF:∀b,X.Fr b→Fr' b){M:List HP}{w':World}(hs:St X M w'):aM Fr' L w':=by
 obtain⟨F,h1,h2⟩:=hw
 exact⟨F,h1.loc (fun b hb=>hs.cK.block b (h2 b hb)),fun b hb=>hF b (h2 b hb)⟩
theorem eS.of{X:Cx}{b:Nat}{cs:List Value}(h:eS X.Fr X.w0 b cs){Fr':Nat→Prop}(hF:∀b,X.Fr b→Fr' b){w:World}{L:List HP}(hw:St X L w):eS Fr' w b cs:=h.cK hF hw
section
variable {X:Cx} {ops:Array Oper} {G:GS} {l:List Oper} {pl:je} {S:lF} {e:Env} {L:List HP} {K:Env→List HP→Prop}
  {dst:Option Tmp} {ty:TypeId} {pos:String} {after:Array Edge} {guard:Option (Nat×Bool)}
theorem a8.de{φ:Value→Prop}{f:FuncId}{args:Array Operand}{tys:Array TypeId}{vals:List Value}
  (ht:∀Fr' w,(∀b,X.Fr b→Fr' b)→St X L w→aM Fr' L w→aH X.P f vals Fr' w [] (fun v L=>φ v∧L=[])) (hargs:lE e args.toList=some vals):
  a8 X (.call ⟨.value (.func f),args,tys⟩) e L (fun v L'=>φ v∧L'=L):=by
 intro a w ha hw dst ty pos after guard
 rcases a8.call (R:=fun v L=>φ v∧L=[]) hargs (Lc:=[]) (Lr:=L) (.refl _) ht a w ha hw dst ty pos after guard with ⟨v,w',L',h1,⟨L1,⟨h2,h3⟩,h4⟩,h5⟩ | ⟨w',L',h1,⟨L1,⟨h2,h3⟩,h4⟩,h5⟩ | ⟨f,args,h1,h2⟩
 ·exact .inl ⟨v,w',L',h1,⟨h2,by rw[h4,h3];rfl⟩,h5⟩
 ·exact .inr (.inl ⟨w',L',h1,⟨h2,by rw[h4,h3];rfl⟩,h5⟩)
 ·refine .inr (.inr ⟨f,args,h1,Calls.mono h2 fun en w' ⟨v,L',h3,⟨L1,⟨h4,h5⟩,h6⟩,h7⟩=>⟨v,L',h3,⟨h4,by rw[h6,h5];rfl⟩,h7⟩⟩)
theorem VO.de{φ:Value→Prop}{f:FuncId}{args:Array Operand}{tys:Array TypeId}{vals:List Value}
  (ht:∀Fr' w,(∀b,X.Fr b→Fr' b)→St X L w→aM Fr' L w→aH X.P f vals Fr' w [] (fun v L=>φ v∧L=[])) (hargs:lE e args.toList=some vals)
  (hk:∀v,φ v→VO X ops G l (cE dst v e) L K)
  (hg:gT ops G guard=some true:=by rfl) (hd:bB X.n dst=true:=by rfl) (hf:bt G dst=true:=by rfl):
  VO X ops G (⟨dst,.call ⟨.value (.func f),args,tys⟩,ty,pos,after,guard⟩::l) e L K:=
 VO.op hg hd hf (a8.de ht hargs) fun v L' ⟨h1,h2⟩=>by subst h2;exact hk v h1
theorem VO.Ig{u:Value}{f:FuncId}{args:Array Operand}{tys:Array TypeId}{vals:List Value}
  (ht:∀Fr' w,(∀b,X.Fr b→Fr' b)→St X L w→aM Fr' L w→aH X.P f vals Fr' w [] (fun v L=>v=u∧L=[])) (hargs:lE e args.toList=some vals)
  (hk:VO X ops G l (cE dst u e) L K)
  (hg:gT ops G guard=some true:=by rfl) (hd:bB X.n dst=true:=by rfl) (hf:bt G dst=true:=by rfl):
  VO X ops G (⟨dst,.call ⟨.value (.func f),args,tys⟩,ty,pos,after,guard⟩::l) e L K:=
 VO.de ht hargs (fun v h=>by subst h;exact hk) hg hd hf
theorem VA.de{φ:Value→Prop}{f:FuncId}{args:Array Operand}{tys:Array TypeId}{vals:List Value}{i:Nat}
  (ht:∀Fr' w,(∀b,X.Fr b→Fr' b)→St X L w→aM Fr' L w→aH X.P f vals Fr' w [] (fun v L=>φ v∧L=[]))
  (hi:ops.toList[i]?=some ⟨dst,.call ⟨.value (.func f),args,tys⟩,ty,pos,after,guard⟩) (hargs:lE e args.toList=some vals)
  (hst:∀w,St X L w→∀p∈S,waits ops i p.1=false→p.2 w)
  (hk:∀v,φ v→VA X ops G pl (S.filter fun p=>!waits ops i p.1) (cE dst v e) L K)
  (hg:gT ops G guard=some true:=by rfl) (hd:bB X.n dst=true:=by rfl) (hf:bt G dst=true:=by rfl):VA X ops G (.only i pl) S e L K:=
 VA.op (M:=fun v L'=>φ v∧L'=L) hi hg hd hf (a8.de ht hargs) (fun v L' ⟨_,h2⟩ w hw=>by subst h2;exact hst w hw) (fun v L' ⟨h1,h2⟩=>by subst h2;exact hk v h1)
def Pd(X:Cx)(L:List HP)(S:lF):Prop:=∀p∈S,∀w,St X L w→p.2 w
theorem Pd.nil:Pd X L []:=fun _ h=>by cases h
theorem Pd.cons{ti:TI}{b off i:Nat}{v:Value}(h:aE X L ti b off v)(hs:Pd X L S):Pd X L ((i,Rd ti.aU.agg ti.size b off v)::S):=fun p hp w hw=>by
 rcases ZV.1 hp with rfl | hp
 ·exact h w hw
 ·exact hs p hp w hw
theorem Pd.filter{f:Nat×(World→Prop)→Bool}(hs:Pd X L S):Pd X L (S.filter f):=fun p hp=>hs p (Z6.1 hp).1
theorem Pd.inner{f g:Nat×(World→Prop)→Bool}(h:Pd X L (S.filter g)):Pd X L ((S.filter f).filter g):=fun p hp=>by
 obtain⟨h1,h2⟩:=Z6.1 hp
 exact h p (Z6.2 ⟨(Z6.1 h1).1,h2⟩)
theorem Pd.skip{i j:Nat}{φ:World→Prop}(hf:waits ops j i=true)(h:Pd X L (S.filter fun p=>!waits ops j p.1)):Pd X L (((i,φ)::S:lF).filter fun p=>!waits ops j p.1):=by
 rw[List.filter_cons_of_neg (by simp[hf])];exact h
theorem Pd.O7{f:Nat×(World→Prop)→Bool}{ti:TI}{b off i:Nat}{v:Value}(h:aE X L ti b off v)(hs:Pd X L (S.filter f)):Pd X L (((i,Rd ti.aU.agg ti.size b off v)::S).filter f):=fun p hp=>by
 obtain⟨h1,h2⟩:=Z6.1 hp
 rcases ZV.1 h1 with rfl | h1
 ·exact fun w hw=>h w hw
 ·exact hs p (Z6.2 ⟨h1,h2⟩)
theorem Pd.st(hs:Pd X L S){i:Nat}:∀w,St X L w→∀p∈S,waits ops i p.1=false→p.2 w:=fun w hw p hp _=>hs p hp w hw
theorem VA.So{i:Nat}{o:Oper}{M:Value→List HP→Prop}(h:a8 X o.op e L M)(hi:ops.toList[i]?=some o)
  (hst:∀v L',M v L'→Pd X L' (S.filter fun p=>!waits ops i p.1))
  (hk:∀v L',M v L'→VA X ops G pl (S.filter fun p=>!waits ops i p.1) (cE o.dst v e) L' K)
  (hg:gT ops G o.guard=some true:=by rfl) (hd:bB X.n o.dst=true:=by rfl) (hf:bt G o.dst=true:=by rfl):VA X ops G (.only i pl) S e L K:=
 VA.op hi hg hd hf h (fun v L' hm w hw p hp hq=>hst v L' hm p (Z6.2 ⟨hp,by simp[hq]⟩) w hw) hk
theorem a8.mono{op:Op}{M N:Value→List HP→Prop}(h:a8 X op e L M)(hm:∀v L',M v L'→N v L'):a8 X op e L N:=fun a w ha hw dst ty pos after guard=>by
 rcases h a w ha hw dst ty pos after guard with ⟨v,w',L',h1,h2,h3⟩ | ⟨w',L',h1,h2,h3⟩ | ⟨f,args,h1,h2⟩
 ·exact .inl ⟨v,w',L',h1,hm _ _ h2,h3⟩
 ·exact .inr (.inl ⟨w',L',h1,hm _ _ h2,h3⟩)
 ·exact .inr (.inr ⟨f,args,h1,Calls.mono h2 fun en w' ⟨v,L',h3,h4,h5⟩=>⟨v,L',h3,hm _ _ h4,h5⟩⟩)
theorem VA.Sk{j:Nat}{T:TypeId}{x y:Operand}{ti:TI}{b off t:Nat}{cs cs' vs:List Value}{L':List HP}(i:Nat)(hi:ops.toList[j]?=some ⟨dst,.store T x y,ty,pos,after,guard⟩)(hx:ev e x=some (.pointer (some ⟨b,off,none⟩)))(hy:ev e y=some (.agg vs.toArray))(hL:L[i]?=some (pt b cs t))
  (hT:aL X.tab T=some ti) (hl:off+vs.length≤cs.length) (hcs:ki cs off vs=cs') (hL':L.set i (pt b cs' t)=L') (h1:vs.all Value.oneCell'=true) (hst:Pd X L' (S.filter fun p=>!waits ops j p.1))
  (hk:VA X ops G pl (S.filter fun p=>!waits ops j p.1) (cE dst undef e) L' K) (hs:vs.length=ti.size:=by rfl)
  (hg:gT ops G guard=some true:=by rfl) (hd:bB X.n dst=true:=by rfl) (hf:bt G dst=true:=by rfl):VA X ops G (.only j pl) S e L K:=by
 subst hcs;subst hL'
 exact VA.So (a8.store (vs:=vs) i hx hy hL hT Z hs hl h1) hi (fun v L' ⟨h3,h4⟩=>by subst h4;exact hst) (fun v L' ⟨h3,h4⟩=>by subst h3;subst h4;exact hk) hg hd hf
theorem VA.st{j:Nat}{T:TypeId}{x y:Operand}{ti:TI}{b off t:Nat}{cs cs':List Value}{v:Value}{L':List HP}(i:Nat)(hi:ops.toList[j]?=some ⟨dst,.store T x y,ty,pos,after,guard⟩)(hx:ev e x=some (.pointer (some ⟨b,off,none⟩)))(hy:ev e y=some v)(hL:L[i]?=some (pt b cs t))
  (hT:aL X.tab T=some ti) (hlt:off<cs.length) (hcs:cs.set off v=cs') (hL':L.set i (pt b cs' t)=L') (hst:Pd X L' (S.filter fun p=>!waits ops j p.1))
  (hk:VA X ops G pl (S.filter fun p=>!waits ops j p.1) (cE dst undef e) L' K) (h1:v.oneCell'=true:=by rfl) (hv:v.cells=#[v]:=by rfl) (hsz:ti.size=1:=by rfl)
  (hg:gT ops G guard=some true:=by rfl) (hd:bB X.n dst=true:=by rfl) (hf:bt G dst=true:=by rfl):VA X ops G (.only j pl) S e L K:=by
 subst hcs;subst hL'
 exact VA.So (a8.store (vs:=[v]) i hx hy hL hT hv (by simp[hsz]) ye yg) hi (fun v' L' ⟨h3,h4⟩=>by subst h4;rw[zt _ _ _ hlt];exact hst) (fun v' L' ⟨h3,h4⟩=>by subst h3;subst h4;rw[zt _ _ _ hlt];exact hk) hg hd hf
end
section
variable {P:Program} {b:Frame} {a:Act} {k:List Item} {cs:List Frame} {w:World}
theorem Br{c:Code}:step P (lone (b.atR a (.code (.scope c)::k)) cs w)=.next (lone (b.atR a (.code c :: .inScope c::k)) cs w):=
 step_lone_go yl
theorem wL{c:Code}:step P (lone (b.atR a (.inScope c::k)) cs w)=.next (lone (b.atR a k) cs w):=
 step_lone_go yl
end
def PL(Q:Exit→Env→List HP→Prop):Exit→Env→List HP→Prop
 | .goto _,_,_=>False
 | x,e,L=>Q x e L
theorem VC.scope{X:Cx}{c:Code}{e:Env}{L:List HP}{Q:Exit→Env→List HP→Prop}(h:VC X c e L (PL Q)):VC X (.scope c) e L Q:=fun ro a w ha hw b k cs hro hb hr=>by
 obtain⟨x,a₁,w₁,⟨e',L',h1,h2,h3⟩,harr⟩:=h ro a w ha hw b (.inScope c::k) cs hro hb hr
 have st:StepsIn (Machine.fenced X.P (wR ro)) X.P (lone (b.atR a (.code (.scope c)::k)) cs w) (lone (b.atR a (.code c :: .inScope c::k)) cs w):=.one (fenced_calm hb hr rfl) Br
 cases x with
 | normal=>exact⟨.normal,a₁,w₁,⟨e',L',h1,h2,h3⟩,StepsIn.trans st (StepsIn.trans harr (.one (fenced_calm hb hr rfl) wL))⟩
 | exit id=>exact⟨_,a₁,w₁,⟨e',L',h1,h2,h3⟩,.of_steps st ⟨fun k' hk=>harr.1 k' (by simp[exitTo,hk]),fun hr hk=>harr.2 hr (by simp[exitTo,hk])⟩⟩
 | goto l=>exact h3.elim
 | ret=>exact⟨_,a₁,w₁,⟨e',L',h1,h2,h3⟩,.of_steps st harr⟩
 | panic ch=>exact⟨_,a₁,w₁,⟨e',L',h1,h2,h3⟩,.of_steps st harr⟩
 | outgrown=>exact⟨_,a₁,w₁,⟨e',L',h1,h2,h3⟩,.of_steps st harr⟩
theorem uC:∀{L:List HP} {i:Nat} (H:HP),i<L.length→(H::L.eraseIdx i).Perm (L.set i H)
 | [],_,_,h=>by simp at h
 | _::L,0,H,_=>by simp
 | x::L,i+1,H,h=>(List.Perm.swap x H _).trans ((uC H yc).cons x)
theorem jq.back{X:Cx}{L:List HP}(i:Nat)(H:HP)(h:i<L.length):jq X (H::L.eraseIdx i) (L.set i H):=(ae.perm (uC H h)).ar
theorem ae.of_eq{L M:List HP}(h:L=M):ae L M:=h▸ae.refl
theorem jq.of_eq{X:Cx}{L M:List HP}(h:L=M):jq X L M:=h▸jq.refl
section
variable {X:Cx} {ops:Array Oper} {G:GS} {l:List Oper} {pl:je} {S:lF} {e:Env} {L:List HP} {K:Env→List HP→Prop}
  {dst:Option Tmp} {ty:TypeId} {pos:String} {after:Array Edge} {guard:Option (Nat×Bool)}
theorem a8.jf{f:FuncId}{args:Array Operand}{tys:Array TypeId}{vals:List Value}{H:HP}{R:Value→List HP→Prop}{ψ:Value→HP→Prop}(i:Nat)
  (hL:L[i]?=some H) (ht:∀Fr' w,(∀b,X.Fr b→Fr' b)→St X L w→aM Fr' (L.eraseIdx i) w→aH X.P f vals Fr' w [H] R) (hargs:lE e args.toList=some vals)
  (hR:∀v L1,R v L1→∃H',L1=[H']∧ψ v H'):
  a8 X (.call ⟨.value (.func f),args,tys⟩) e L (fun v L'=>∃H',ψ v H'∧L'=L.set i H'):=by
 intro a w ha hw dst ty pos after guard
 have hi:i<L.length:=(ZP.1 hL).1
 have key:∀v w' L',(∃L1,R v L1∧L'=L1++L.eraseIdx i)→St X L' w'→∃L'',(∃H',ψ v H'∧L''=L.set i H')∧St X L'' w':=by
  rintro v w' _ ⟨L1,h1,rfl⟩ hs
  obtain⟨H',rfl,hψ⟩:=hR v L1 h1
  exact UW
 rcases a8.call (R:=R) hargs (Lc:=[H]) (Lr:=L.eraseIdx i) (bM hL) ht a w ha hw dst ty pos after guard with ⟨v,w',L',h1,h2,h3⟩ | ⟨w',L',h1,h2,h3⟩ | ⟨f,args,h1,h2⟩
 ·obtain⟨L'',h4,h5⟩:=key _ _ _ h2 h3
  exact TP
 ·obtain⟨L'',h4,h5⟩:=key _ _ _ h2 h3
  exact TQ
 ·refine .inr (.inr ⟨f,args,h1,Calls.mono h2 fun en w' ⟨v,L',h3,h4,h5⟩=>?_⟩)
  obtain⟨L'',h6,h7⟩:=key _ _ _ h4 h5
  exact⟨v,L'',h3,h6,h7⟩
theorem VO.jf{f:FuncId}{args:Array Operand}{tys:Array TypeId}{vals:List Value}{H:HP}{R:Value→List HP→Prop}{ψ:Value→HP→Prop}(i:Nat)
  (hL:L[i]?=some H) (ht:∀Fr' w,(∀b,X.Fr b→Fr' b)→St X L w→aM Fr' (L.eraseIdx i) w→aH X.P f vals Fr' w [H] R) (hargs:lE e args.toList=some vals)
  (hR:∀v L1,R v L1→∃H',L1=[H']∧ψ v H') (hk:∀v H',ψ v H'→VO X ops G l (cE dst v e) (L.set i H') K)
  (hg:gT ops G guard=some true:=by rfl) (hd:bB X.n dst=true:=by rfl) (hf:bt G dst=true:=by rfl):
  VO X ops G (⟨dst,.call ⟨.value (.func f),args,tys⟩,ty,pos,after,guard⟩::l) e L K:=
 VO.op hg hd hf (a8.jf i hL ht hargs hR) fun v L' ⟨H',h1,h2⟩=>by subst h2;exact hk v H' h1
theorem VA.jf{j:Nat}{f:FuncId}{args:Array Operand}{tys:Array TypeId}{vals:List Value}{H:HP}{R:Value→List HP→Prop}{ψ:Value→HP→Prop}(i:Nat)
  (hL:L[i]?=some H) (ht:∀Fr' w,(∀b,X.Fr b→Fr' b)→St X L w→aM Fr' (L.eraseIdx i) w→aH X.P f vals Fr' w [H] R)
  (hi:ops.toList[j]?=some ⟨dst,.call ⟨.value (.func f),args,tys⟩,ty,pos,after,guard⟩) (hargs:lE e args.toList=some vals)
  (hR:∀v L1,R v L1→∃H',L1=[H']∧ψ v H') (hst:∀v H',ψ v H'→Pd X (L.set i H') (S.filter fun p=>!waits ops j p.1))
  (hk:∀v H',ψ v H'→VA X ops G pl (S.filter fun p=>!waits ops j p.1) (cE dst v e) (L.set i H') K)
  (hg:gT ops G guard=some true:=by rfl) (hd:bB X.n dst=true:=by rfl) (hf:bt G dst=true:=by rfl):VA X ops G (.only j pl) S e L K:=
 VA.So (a8.jf i hL ht hargs hR) hi (fun v L' ⟨H',h1,h2⟩=>by subst h2;exact hst v H' h1) (fun v L' ⟨H',h1,h2⟩=>by subst h2;exact hk v H' h1) hg hd hf
end
theorem zS:type_of% @VC.seq:=@VC.seq
theorem zR:type_of% @VC.region:=@VC.region
theorem zB:type_of% @VC.block:=@VC.block
theorem zC:type_of% @VC.scope:=@VC.scope
theorem zG:type_of% @VO.go:=@VO.go
theorem zN:type_of% @VO.nil:=@VO.nil
theorem zD:type_of% @VO.ld:=@VO.ld
theorem zE:type_of% @VO.load:=@VO.load
theorem yG:type_of% @VA.go:=@VA.go
theorem yN:type_of% @VA.nil:=@VA.nil
theorem yD:type_of% @VA.ld:=@VA.ld
theorem yE:type_of% @VA.load:=@VA.load
theorem zo:type_of% @aE.one:=@aE.one
theorem zm:type_of% @aE.many:=@aE.many
theorem zf:type_of% @Pd.O7:=@Pd.O7
theorem zc:type_of% @Pd.cons:=@Pd.cons
end Vg
namespace Vg
open Go
theorem VO.DI{X:Cx}{ops:Array Oper}{G:GS}{o:Oper}{l:List Oper}{e:Env}{L:List HP}{K:Env→List HP→Prop}{j d:Nat}{want:Bool}
  (hg:o.guard=some (j,want)) (hj:(ops.toList[j]?).bind (fun oj=>oj.dst)=some d) (hu:look e d=some undef)
  (hk:VO X ops G l (cE o.dst undef e) L K) (hd:bB X.n o.dst=true:=by rfl) (hf:bt G o.dst=true:=by rfl):VO X ops G (o::l) e L K:=by
 intro Q' hQ ro a w ha hG hw
 unfold wpListIn
 have hn:Region.wanted o (yielded ops a.tmps)=false:=by
  unfold Region.wanted
  rw[hg]
  have hy:yielded ops a.tmps j=none:=by
   unfold yielded
   have hj':(ops[j]?).bind (fun oj=>oj.dst)=some d:=by simpa using hj
   have ht:=ha.at_ d _ hu
   rw[hj']
   simp only[Option.bind_some]
   cases hq:a.tmps[d]? with
   | none=>rfl
   | some v=>
    have:v=undef:=by rw[←ht,Array.getD_eq_getD_getElem?,hq];rfl
    subst this;rfl
  simp[hy]
 rw[if_neg (by rw[hn];simp)]
 exact XA
theorem zU:type_of% @VO.DI:=@VO.DI
end Vg
namespace Vg
open Go
theorem qk{X:Cx}{e:Env}{T:TypeId}{x y:Operand}{tt te:TI}{el len cap:Nat}{a:Option Addr}{k:IntKind}{j:Int}(hi:Nat)(hx:ev e x=some (.slice a len cap))(hy:ev e y=some (.int k j))
  (hT:aL X.tab T=some tt) (hu:tt.aU=.slice el) (hE:aL X.tab el=some te) (hhi:j=hi) (h1:hi≤cap):
  cY X (.slice T x none (some y) none) e (.slice a hi cap):=by
 intro ac hac dst ty pos after guard w
 have hd:=e9 (X.ok.look hT) hu
 obtain⟨i2,hi2,hs2,_,_⟩:=(X.ok.look hE).kY
 subst hhi
 simp[execOp,hac.ev hx,hac.ev hy,Instr.sliceAt,Instr.slice,Instr.sliceBounds,Instr.sliceBound,asIntOf,run_underlying hd,h1,dI hi2]
 cases a with
 | none=>simp
 | some a=>simp[Addr.add]
theorem dN{X:Cx}{e:Env}{s d:TypeId}{x:Operand}{j:IntKind}{a:Int}{ts td:TI}{k:IntKind}(z:Int)(hx:ev e x=some (.int j a))(hs:aL X.tab s=some ts)(hd':aL X.tab d=some td)(hsu:ts.aU=.int j)(hdu:td.aU=.int k)
  (hz:k.wrap a=z):cY X (.convert s d x) e (.int k z):=by
 have h1:=zH (X.ok.look hs) hsu
 have h2:=zH (X.ok.look hd') hdu
 intro a' ha dst ty pos after guard w
 simp[execOp,ha.ev hx,convert,run_underlying h1,run_underlying h2,Conv.intToInt,hz]
theorem ay.uD{X:Cx}{fn:Func}{R:Value→List HP→Prop}{e:Env}{L:List HP}{T:TypeId}{ti:TI}{b:Nat}{v u x:Value}(p q r:Nat)(h:fn.results=#[.cell p T,.tmp q,.tmp r])(hp:look e p=some (.pointer (some ⟨b,0,none⟩)))(hT:aL X.tab T=some ti)
  (hr:aE X L ti b 0 v) (hq:look e q=some u) (hx:look e r=some x) {L':List HP} (he:jq X L L') (hR:R (.tuple #[v,u,x]) L'):ay X fn R e L:=
 ⟨_,L',⟨fun a w ha hw=>by
  have:=fU (X.ok.look hT) (hr w hw)
  have hp':=ha.at_ p _ hp
  have hq':=ha.at_ q _ hq
  have hx':=ha.at_ r _ hx
  simp only[Array.getD_eq_getD_getElem?] at hp' hq' hx'
  simp[results,h,hp',hq',hx',asAddr,this]⟩,he,hR⟩
theorem a8.PM{X:Cx}{f:FuncId}{args:Array Operand}{tys:Array TypeId}{e:Env}{L:List HP}{M:Value→List HP→Prop}{t:Tmp}(ht:look e t=some (.func (.func f) #[] #[]))
  (h:a8 X (.call ⟨.value (.func f),args,tys⟩) e L M):a8 X (.call ⟨.value (.tmp t),args,tys⟩) e L M:=fun a w ha hw dst ty pos after guard=>by
 have he:a.eval (.tmp t)=a.eval (.func f):=ha.at_ t _ ht
 have key:execOp a.eval ⟨dst,.call ⟨.value (.tmp t),args,tys⟩,ty,pos,after,guard⟩=execOp a.eval ⟨dst,.call ⟨.value (.func f),args,tys⟩,ty,pos,after,guard⟩:=by
  simp only[execOp,resolve,he]
 rw[key]
 exact h a w ha hw dst ty pos after guard
section
variable {X:Cx} {ops:Array Oper} {G:GS} {l:List Oper} {pl:je} {S:lF} {e:Env} {L:List HP} {K:Env→List HP→Prop}
  {dst:Option Tmp} {ty:TypeId} {pos:String} {after:Array Edge} {guard:Option (Nat×Bool)}
theorem VA.Wp{i:Nat}{o:Oper}(hi:ops.toList[i]?=some o)(hg:gT ops G o.guard=some false)(hk:VA X ops G pl (S.filter fun p=>!waits ops i p.1) (cE o.dst undef e) L K)
  (hd:bB X.n o.dst=true:=by rfl) (hf:bt G o.dst=true:=by rfl):VA X ops G (.only i pl) S e L K:=by
 intro Q' hp0 hQ hsel ro listed a w hp ha hG hw hall
 simp only[kA,Z2,beq_iff_eq] at hp
 have hi':ops[i]?=some o:=by simpa using hi
 have hpr:=hp.1
 refine⟨fun h0=>yh,fun j hj=>?_⟩
 rw[hpr,Z7] at hj
 subst hj
 unfold wpOpIn
 rw[hi']
 simp only[eO hG hg,Bool.false_eq_true,if_false]
 refine⟨fun _ _=>trivial,fun p hp1 _=>hall p hp1,?_⟩
 exact hk Q' hp0 hQ hsel ro _ _ w hp.2 (ha.cE hd undef) (hG.put hf undef) hw (fun p hp1=>hall p (Z6.1 hp1).1)
theorem VA.Sp{cond:List HP→Prop}(h:∀S:lF,(∀L',cond L'→Pd X L' S)→VA X ops G pl S e L K)(h0:∀L',cond L'→Pd X L' S):VA X ops G pl S e L K:=h S h0
theorem VO.gZ{f:FuncId}{t:Tmp}{args:Array Operand}{tys:Array TypeId}{vals:List Value}{H:HP}{R:Value→List HP→Prop}{ψ:Value→HP→Prop}(i:Nat)(htm:look e t=some (.func (.func f) #[] #[]))
  (hL:L[i]?=some H) (ht:∀Fr' w,(∀b,X.Fr b→Fr' b)→St X L w→aM Fr' (L.eraseIdx i) w→aH X.P f vals Fr' w [H] R) (hargs:lE e args.toList=some vals)
  (hR:∀v L1,R v L1→∃H',L1=[H']∧ψ v H') (hk:∀v H',ψ v H'→VO X ops G l (cE dst v e) (L.set i H') K)
  (hg:gT ops G guard=some true:=by rfl) (hd:bB X.n dst=true:=by rfl) (hf:bt G dst=true:=by rfl):
  VO X ops G (⟨dst,.call ⟨.value (.tmp t),args,tys⟩,ty,pos,after,guard⟩::l) e L K:=
 VO.op hg hd hf (a8.PM htm (a8.jf i hL ht hargs hR)) fun v L' ⟨H',h1,h2⟩=>by subst h2;exact hk v H' h1
end
theorem VG:type_of% @VO.go:=@VO.go
theorem AG:type_of% @VA.go:=@VA.go
theorem VY:type_of% @VO.yes:=@VO.yes
theorem AY:type_of% @VA.yes:=@VA.yes
theorem CR:type_of% @VC.ret:=@VC.ret
theorem CK:type_of% @VC.skip:=@VC.skip
theorem CS:type_of% @VC.seq:=@VC.seq
theorem CG:type_of% @VC.region:=@VC.region
theorem ER:type_of% @jq.refl:=@jq.refl
theorem VN:type_of% @VO.nil:=@VO.nil
theorem AN:type_of% @VA.nil:=@VA.nil
theorem CC:type_of% @VC.cond:=@VC.cond
theorem CP:type_of% @VC.O2:=@VC.O2
theorem CE:type_of% @VC.O3:=@VC.O3
theorem VL:type_of% @VO.ky:=@VO.ky
theorem VT:type_of% @VO.Sk:=@VO.Sk
theorem AR:type_of% @VA.O6:=@VA.O6
theorem VV:type_of% @VO.Ig:=@VO.Ig
theorem VK:type_of% @VO.call:=@VO.call
theorem VQ:type_of% @VO.jf:=@VO.jf
theorem VI:type_of% @VO.Bk:=@VO.Bk
theorem AI:type_of% @VA.Bk:=@VA.Bk
theorem CN:type_of% @VC.ar:=@VC.ar
theorem VB:type_of% @VO.Sl:=@VO.Sl
theorem SC:type_of% @Sub.cons:=@Sub.cons
theorem SN:type_of% @Sub.nil:=@Sub.nil
theorem IP:type_of% @ae.pick:=@ae.pick
theorem TF:type_of% @aH.of:=@aH.of
theorem LB:type_of% @tk:=@tk
theorem CX:type_of% @VC.exit:=@VC.exit
theorem CD:type_of% @VC.draw:=@VC.draw
theorem OC:type_of% @a8.call:=@a8.call
theorem AO:type_of% @VA.So:=@VA.So
theorem AQ:type_of% @VA.jf:=@VA.jf
theorem AT:type_of% @VA.Sk:=@VA.Sk
theorem VP:type_of% @VO.add:=@VO.add
theorem AP:type_of% @VA.add:=@VA.add
abbrev pV(b:Nat):Value:=.pointer (some ⟨b,0,none⟩)
end Vg
namespace Vg
open Go
theorem DJ{X:Cx}{e:Env}{T:TypeId}{x y:Operand}{tt te:TI}{el b off n cap:Nat}{k:IntKind}(hx:ev e x=some (.slice (some ⟨b,off,none⟩) (n+1) cap))(hy:ev e y=some (.int k 1))
  (hT:aL X.tab T=some tt) (hu:tt.aU=.slice el) (hE:aL X.tab el=some te) (hc:n+1≤cap):
  cY X (.slice T x (some y) none none) e (.slice (some (if cap=1 then ⟨b,off,none⟩ else ⟨b,off+te.size,none⟩)) n (cap-1)):=by
 intro a ha dst ty pos after guard w
 have hd:=e9 (X.ok.look hT) hu
 obtain⟨i2,hi2,hs2,_,_⟩:=(X.ok.look hE).kY
 by_cases h:cap=1
 ·subst h
  simp[execOp,ha.ev hx,ha.ev hy,Instr.sliceAt,Instr.slice,Instr.sliceBounds,Instr.sliceBound,asIntOf,run_underlying hd,dI hi2,hs2,Addr.add_mid]
  intro hbad;omega
 ·simp[execOp,ha.ev hx,ha.ev hy,Instr.sliceAt,Instr.slice,Instr.sliceBounds,Instr.sliceBound,asIntOf,run_underlying hd,dI hi2,hs2,Addr.add_mid,h]
  intro hbad;omega
theorem ae.put{H:HP}{L:List HP}(k:Nat)(hk:k<L.length):ae (H::L) (L.set k H):=by
 have h1:ae L (L.eraseIdx k):=ae.trans (ae.perm (bM (GE hk))) (ae.app (L:=[_]) (M:=[]) ae.nil ae.refl)
 exact ae.trans (ae.cons h1) (ae.perm (uC H hk))
end Vg
namespace Vg
open Go
structure RL(α:Type) where
 addr:Option Addr
 cap:Nat
 aP:Option Nat
 cells:List Value
 xs:List α
section
variable {α:Type} {c:α→List Value} {n t:Nat}
def RL.v(r:RL α):Value:=.slice r.addr r.xs.length r.cap
def RL.h(t:Nat)(r:RL α):HP:=match r.aP with
 | none=>gu True
 | some b=>pt b r.cells t
structure RL.Ok(c:α→List Value)(n:Nat)(r:RL α):Prop where
 room:r.xs.length≤r.cap
 at_:r.xs≠[]→∃b off,r.aP=some b∧r.addr=some ⟨b,off,none⟩∧∀i x,r.xs[i]?=some x→(r.cells.drop (off+i*n)).take n=c x
def RL.none:RL α:=⟨.none,0,.none,[],[]⟩
theorem RL.KU:(RL.none:RL α).Ok c n:=⟨NR _,fun h=>absurd rfl h⟩
def RL.tail(n:Nat)(r:RL α):RL α:=⟨match r.addr with | some a=>some (if r.cap=1 then a else ⟨a.block,a.off+n,Option.none⟩) | Option.none=>Option.none,r.cap-1,r.aP,r.cells,r.xs.tail⟩
theorem RL.Ok.tail{r:RL α}(h:r.Ok c n)(hne:r.xs≠[]):(r.tail n).Ok c n:=by
 obtain⟨b,off,h1,h2,h3⟩:=h.at_ hne
 have hr:=h.room
 cases hx:r.xs with
 | nil=>exact absurd hx hne
 | cons x xs=>
  refine⟨by simp only[RL.tail,hx,List.tail_cons];rw[hx] at hr;simp at hr;omega,fun hn=>?_⟩
  have hxs:xs≠[]:=by simpa[RL.tail,hx] using hn
  have hc:¬r.cap=1:=fun e=>by
   rw[hx,e] at hr
   cases xs with
   | nil=>exact hxs rfl
   | cons _ _=>simp at hr
  refine⟨b,off+n,h1,by simp[RL.tail,h2,hc],fun i y hy=>?_⟩
  have:=h3 (i+1) y (by rw[hx];simpa[RL.tail,hx] using hy)
  rw[←this];simp only[RL.tail]
  rw[show off+n+i*n=off+(i+1)*n from by rw[Nat.succ_mul];omega]
def RL.new(c:α→List Value)(b cap:Nat)(xs:List α)(rest:List Value):RL α:=⟨some ⟨b,0,Option.none⟩,cap,some b,flat c xs++rest,xs⟩
theorem RL.uE(hc:∀x,(c x).length=n){b cap:Nat}{xs:List α}{rest:List Value}(h:xs.length≤cap):(RL.new c b cap xs rest).Ok c n:=⟨h,fun _=>⟨b,0,rfl,rfl,fun i x hx=>by
 rw[ZQ];exact fG hc hx rest⟩⟩
theorem xA:∀{xs:List α} {cells:List Value} {off:Nat},(∀i x,xs[i]?=some x→(cells.drop (off+i*n)).take n=c x)→(cells.drop off).take (xs.length*n)=flat c xs
 | [],cells,off,_=>by simp[flat]
 | x::xs,cells,off,h=>by
  have h0:=h 0 x rfl
  rw[Nat.zero_mul,Nat.add_zero] at h0
  have ih:=xA (xs:=xs) (cells:=cells) (off:=off+n) (fun i y hy=>by
   rw[←h (i+1) y (by simpa using hy)]
   rw[show off+n+i*n=off+(i+1)*n from by rw[Nat.succ_mul];omega])
  rw[ZW,Nat.succ_mul,Nat.add_comm (xs.length*n) n,List.take_add,h0,bO,List.drop_drop,ih]
theorem RL.Ok.nth{r:RL α}{x:α}{k:Nat}(h:r.Ok c n)(hx:r.xs[k]?=some x):∃b off,r.aP=some b∧r.addr=some ⟨b,off,Option.none⟩∧(r.cells.drop (off+k*n)).take n=c x:=by
 obtain⟨b,off,h1,h2,h3⟩:=h.at_ (fun e=>by rw[e] at hx;cases hx)
 exact⟨b,off,h1,h2,h3 k x hx⟩
theorem RL.PN{r:RL α}{b:Nat}(h:r.aP=some b):r.h t=pt b r.cells t:=by rw[RL.h,h]
theorem aW.rl(el:Nat)(a:Option Addr)(cap:Nat)(xs:List α)(hc:∀x,(c x).length=n):aW (ι:=RL α) (aI el n a xs.length cap (flat c xs)) (fun r=>r.Ok c n∧r.v=.slice a xs.length cap∧r.xs=xs) (fun r=>[r.h el]):=by
 intro w ids h hn
 obtain⟨x,hx,ids',h1,h2,h3⟩:=aW.sl el n a xs.length cap (flat c xs) w ids h hn
 cases x with
 | none=>
  obtain⟨h5,h6,h7,h8,h9,h10⟩:=hx
  subst h7;subst h9
  obtain rfl:xs=[]:=List.eq_nil_of_length_eq_zero h8
  cases h1
  exact⟨RL.none,⟨RL.KU,rfl,rfl⟩,[],⟨[],[],rfl,⟨rfl,trivial⟩,rfl⟩,.nil,fun _ h=>by cases h⟩
 | some x=>
  obtain⟨b,rest⟩:=x
  obtain⟨h5,h6,h7,h8⟩:=hx
  subst h7
  exact⟨RL.new c b cap xs rest,⟨RL.uE hc h6,Z,Z⟩,ids',h1,h2,h3⟩
end
end Vg
namespace Vg
open Go Go.MapKept
section
variable {κ α:Type} [DecidableEq κ]
def i_:List (κ×α)→κ→Nat→Option (Nat×α)
 | [],_,_=>none
 | (k,v)::r,a,i=>if k=a then some (i,v) else i_ r a (i+1)
def dT:List (κ×α)→κ→Option α
 | [],_=>none
 | (k,v)::r,a=>if k=a then some v else dT r a
def eI:List (κ×α)→κ→α→List (κ×α)
 | [],a,u=>[(a,u)]
 | (k,v)::r,a,u=>if k=a then (k,u)::r else (k,v)::eI r a u
def iE:List (κ×α)→κ→List (κ×α)
 | [],_=>[]
 | (k,v)::r,a=>if k=a then r else (k,v)::iE r a
theorem hY:∀{l:List (κ×α)} {a:κ} {i:Nat},i_ l a i=none→dT l a=none∧(∀x∈l,x.1≠a)∧(∀u,eI l a u=l ++ [(a,u)])∧iE l a=l
 | [],_,_,_=>⟨rfl,(fun _ h=>by cases h),fun _=>rfl,rfl⟩
 | (k,v)::r,a,i,h=>by
  simp only[i_] at h
  split at h
  ·cases h
  ·rename_i hk
   obtain⟨h1,h2,h3,h4⟩:=hY h
   refine⟨by simp[dT,hk,h1],fun x hx=>?_,fun u=>by simp[eI,hk,h3],by simp[iE,hk,h4]⟩
   rcases ZV.1 hx with rfl | hx
   ·exact hk
   ·exact h2 x hx
theorem jg:∀{l:List (κ×α)} {a:κ} {i j:Nat} {v:α},i_ l a i=some (j,v)→i≤j∧l[j-i]?=some (a,v)∧dT l a=some v∧(∀u,eI l a u=l.set (j-i) (a,u))∧iE l a=l.eraseIdx (j-i)
 | [],_,_,_,_,h=>by cases h
 | (k,u)::r,a,i,j,v,h=>by
  simp only[i_] at h
  split at h
  ·rename_i hk
   obtain⟨rfl,rfl⟩:=Prod.mk.inj (Z3 h)
   subst hk
   refine⟨NR _,by simp,by simp[dT],fun u=>by simp[eI],by simp[iE]⟩
  ·rename_i hk
   obtain⟨h1,h2,h3,h4,h5⟩:=jg h
   have e:j-i=(j-(i+1))+1:=by omega
   rw[e]
   exact⟨by omega,by simpa using h2,by simp[dT,hk,h3],fun u=>by simp[eI,hk,h4],by simp[iE,hk,h5]⟩
theorem Ih(l:List (κ×α))(a b:κ)(u:α):dT (eI l a u) b=if a=b then some u else dT l b:=by
 induction l with
 | nil=>simp[eI,dT]
 | cons x r ih=>
  obtain⟨k,v⟩:=x
  simp only[eI]
  by_cases hk:k=a
  ·subst hk
   by_cases hb:k=b
   ·simp[dT,hb]
   ·simp[dT,hb]
  ·rw[if_neg hk]
   simp only[dT]
   rw[ih]
   by_cases hb:k=b
   ·subst hb;simp[Ne.symm hk]
   ·simp[hb]
theorem ou{l:List (κ×α)}{a:κ}{v:α}(h:dT l a=some v):(a,v)∈l:=by
 induction l with
 | nil=>cases h
 | cons x r ih=>
  obtain⟨k,u⟩:=x
  simp only[dT] at h
  by_cases hk:k=a
  ·rw[if_pos hk] at h;cases h;simp[hk]
  ·rw[if_neg hk] at h;simp[ih h]
theorem Gm(l:List (κ×α))(a:κ)(u:α):(eI l a u).map Prod.fst=if a∈l.map Prod.fst then l.map Prod.fst else l.map Prod.fst ++ [a]:=by
 induction l with
 | nil=>simp[eI]
 | cons x r ih=>
  obtain⟨k,v⟩:=x
  simp only[eI]
  by_cases hk:k=a
  ·simp[hk]
  ·rw[if_neg hk,List.map_cons,ih]
   by_cases hm:a∈r.map Prod.fst
   ·rw[if_pos hm,if_pos (by simp[hm])];rfl
   ·rw[if_neg hm,if_neg (by simp only[List.map_cons,ZV,not_or];exact⟨Ne.symm hk,hm⟩)];rfl
theorem DK{l:List (κ×α)}(h:(l.map Prod.fst).Nodup)(a:κ)(u:α):((eI l a u).map Prod.fst).Nodup:=by
 rw[Gm]
 split
 ·exact h
 ·rename_i hm
  exact Z8.2 ⟨h,by simp,fun x hx y hy e=>by simp at hy;subst hy;subst e;exact hm hx⟩
theorem Bt(l:List (κ×α))(a:κ):(iE l a).Sublist l:=by
 induction l with
 | nil=>exact List.Sublist.refl _
 | cons x r ih=>
  obtain⟨k,v⟩:=x
  simp only[iE]
  split
  ·exact List.sublist_cons_self _ _
  ·exact ih.cons_cons _
theorem DL{l:List (κ×α)}(h:(l.map Prod.fst).Nodup)(a:κ):((iE l a).map Prod.fst).Nodup:=((Bt l a).map _).nodup h
end
structure iF(P:Program)(kt:TypeId){κ:Type}[DecidableEq κ](c:κ→Value):Prop where
 inj:∀a b,c a=c b→a=b
 check:∀(e:Bool) (a:κ) (w:World),(Instr.checkKey e 10000 kt (c a)).run P w=.ok () w
 find:∀{α:Type} (d:α→Value) (a:κ) (xs:List (κ×α)) (es:List MapEntry),es.map (fun e=>(e.key,e.val))=xs.map (fun x=>(c x.1,d x.2))→∀w:World,
  (Instr.findKey kt (c a) es).run P w=.ok ((i_ xs a 0).map fun p=>(p.1,d p.2)) w
 bits:∀a,Instr.sameBits 10000 (c a) (c a)=true
def mU(s:ByteArray):Value:=.string s
theorem tq{α:Type}(d:α→Value)(a:ByteArray):∀(xs:List (ByteArray×α)) (es:List MapEntry) (i:Nat),es.map (fun e=>(e.key,e.val))=xs.map (fun x=>(mU x.1,d x.2)) →
  Instr.findNow .string (mU a) es i=some ((i_ xs a i).map fun p=>(p.1,d p.2))
 | [],[],_,_=>rfl
 | [],_::_,_,h=>by cases h
 | _::_,[],_,h=>by cases h
 | (k,v)::xs,e::es,i,h=>by
  simp only[List.map_cons,List.cons.injEq,Prod.mk.injEq] at h
  obtain⟨⟨h1,h2⟩,h3⟩:=h
  unfold Instr.findNow
  rw[h1]
  simp only[mU,Instr.sameNow,i_]
  by_cases hk:k=a
  ·subst hk
   rw[(bytes_beq k k).2 rfl,if_pos rfl,h2];rfl
  ·have:(a == k)=false:=by
    cases hb:a == k
    ·rfl
    ·exact absurd ((bytes_beq a k).1 hb).symm hk
   rw[this,if_neg hk]
   exact tq d a xs es (i+1) h3
theorem iF.string{P:Program}{kt:TypeId}(h:P.underlying kt=some .string):iF P kt mU where
 inj:=fun a b h=>by simpa[mU] using h
 check:=fun e a w=>by
  show(Instr.checkKey e (9999+1) kt (mU a)).run P w=_
  exact run_checkKey h (by trivial) e 9999
 find:=fun d a xs es hes w=>run_findKey h (tq d a xs es 0 hes)
 bits:=fun a=>by simp[mU,Instr.sameBits,bytes_beq]
theorem pS{P:Program}{kt:TypeId}{κ α:Type}[DecidableEq κ]{c:κ→Value}(heq:∀(a b:κ) (w:World),(Op.equal kt (c a) (c b)).run P w=.ok (decide (a=b)) w)(d:α→Value)(a:κ):
  ∀(xs:List (κ×α)) (es:List MapEntry) (i:Nat),es.map (fun e=>(e.key,e.val))=xs.map (fun x=>(c x.1,d x.2))→∀w:World,(Instr.findAsking kt (c a) es i).run P w=.ok ((i_ xs a i).map fun p=>(p.1,d p.2)) w
 | [],[],_,_,_=>rfl
 | [],_::_,_,h,_=>by cases h
 | _::_,[],_,h,_=>by cases h
 | (k,v)::xs,e::es,i,h,w=>by
  simp only[List.map_cons,List.cons.injEq,Prod.mk.injEq] at h
  obtain⟨⟨h1,h2⟩,h3⟩:=h
  unfold Instr.findAsking
  rw[Sem.run_bind,h1,heq a k w,Result.andThen_ok]
  simp only[i_]
  by_cases hk:k=a
  ·subst hk
   simp only[decide_true,if_true,h2];rfl
  ·rw[if_neg hk,DF (Ne.symm hk)]
   simp only[Bool.false_eq_true,if_false]
   exact pS heq d a xs es (i+1) h3 w
def nP{κ α:Type}(c:κ→Value)(d:α→Value)(b:Nat)(xs:List (κ×α))(w:World):Prop:=
 ∃(es:Array MapEntry) (clock:Nat),w.heap[b]?=some (.map es clock)∧es.toList.map (fun e=>(e.key,e.val))=xs.map (fun x=>(c x.1,d x.2))∧Stamped es clock
theorem nP.loc{κ α:Type}{c:κ→Value}{d:α→Value}{b:Nat}{xs:List (κ×α)}{w w':World}(h:nP c d b xs w)(hb:w'.heap[b]?=w.heap[b]?):nP c d b xs w':=by
 obtain⟨es,k,h1,h2⟩:=h
 exact⟨es,k,hb.trans h1,h2⟩
def gO{κ α:Type}(c:κ→Value)(d:α→Value)(b:Nat)(xs:List (κ×α)):HP:=
 ⟨fun ids w=>ids=[b]∧nP c d b xs w,fun _ _ _ h hs=>⟨hs.1,hs.2.loc (h b yb)⟩⟩
structure ov{κ α:Type}(Fr:Nat→Prop)(w:World)(c:κ→Value)(d:α→Value)(b:Nat)(xs:List (κ×α)):Prop where
 fr:Fr b
 at_:nP c d b xs w
section
variable {X:Cx} {κ α:Type} {c:κ→Value} {d:α→Value} {b:Nat} {xs:List (κ×α)}
theorem St.Fk{L:List HP}{w:World}(h:St X L w){i:Nat}(hL:L[i]?=some (gO c d b xs)):nP c d b xs w∧¬X.Fr b:=by
 obtain⟨F,hs,_,hb⟩:=h.sat
 obtain⟨ids,h1,h2⟩:=hs.get hL
 obtain⟨rfl,h1⟩:=h1
 exact⟨h1,(hb b (h2 b yf)).1⟩
theorem aM.DM{Fr:Nat→Prop}{L:List HP}{w:World}(h:aM Fr L w)(i:Nat)(hL:L[i]?=some (gO c d b xs)):ov Fr w c d b xs:=by
 obtain⟨F,hs,hf⟩:=h
 obtain⟨ids,⟨rfl,h1⟩,h2⟩:=hs.get hL
 exact⟨hf b (h2 b yf),h1⟩
theorem ov.of(h:ov X.Fr X.w0 c d b xs){Fr':Nat→Prop}(hF:∀b,X.Fr b→Fr' b){w:World}{L:List HP}(hw:St X L w):ov Fr' w c d b xs:=⟨hF b h.fr,h.at_.loc (hw.cK.block b h.fr)⟩
def pK(X:Cx)(L:List HP)(c:κ→Value)(d:α→Value)(b:Nat)(xs:List (κ×α)):Prop:=∀w,St X L w→nP c d b xs w
theorem pK.one{L:List HP}(i:Nat)(hL:L[i]?=some (gO c d b xs)):pK X L c d b xs:=fun w hw=>(hw.Fk hL).1
theorem pK.aP{L:List HP}(h:ov X.Fr X.w0 c d b xs):pK X L c d b xs:=fun w hw=>h.at_.loc (hw.cK.block b h.fr)
theorem dM.uF:∀{L:List HP} {F:List Nat} {w w':World} {i b:Nat} {H H':HP},dM L F w→F.Nodup→L[i]?=some H→(∀ids w,H.sat ids w→ids=[b])→H'.sat [b] w' →
  (∀c,c≠b→w'.heap[c]?=w.heap[c]?)→dM (L.set i H') F w'
 | [],_,_,_,_,_,_,_,_,_,h,_,_,_=>by simp at h
 | _::L,F,w,w',0,b,H,H',⟨j,G,hF,hj,hG⟩,hn,h,hi,h1,h2=>by
  simp only[List.getElem?_cons_zero,Option.some.injEq] at h
  subst h;subst hF
  obtain rfl:=hi _ _ hj
  refine⟨[b],G,Z,h1,hG.loc fun c hc=>h2 c fun he=>?_⟩
  subst he
  simp at hn
  exact hn.1 hc
 | K::L,F,w,w',i+1,b,H,H',⟨j,G,hF,hj,hG⟩,hn,h,hi,h1,h2=>by
  simp only[List.getElem?_cons_succ] at h
  subst hF
  obtain⟨hnj,hnG,hd⟩:=Z8.1 hn
  obtain⟨ids,hp,hm⟩:=hG.get h
  obtain rfl:=hi _ _ hp
  have hb:=hm b yf
  exact⟨j,G,Z,K.loc j w w' (fun c hc=>h2 c fun he=>hd c hc b hb he) hj,dM.uF hG hnG h hi h1 h2⟩
theorem St.uF{L:List HP}{w:World}(h:St X L w){i:Nat}{H H':HP}{o o':Obj}(hL:L[i]?=some H)(hi:∀ids w,H.sat ids w→ids=[b])(h0:w.heap[b]?=some o)(hf:¬X.Fr b)(h1:H'.sat [b] (bC w b o')):
  St X (L.set i H') (bC w b o'):=by
 obtain⟨F,hs,hn,hb⟩:=h.sat
 refine⟨⟨F,hs.uF hn hL hi h1 (fun c hc=>ku (Ne.symm hc)),hn,fun c hc=>⟨(hb c hc).1,by rw[oo];exact(hb c hc).2⟩⟩,?_,h.low⟩
 exact XE
theorem St.PO{L:List HP}{w:World}(h:St X L w):St X (gO c d w.heap.size ([]:List (κ×α))::L) (w.alloc (.map #[] 0)):=
 ⟨h.sat.alloc h.nZ _ _ ⟨rfl,#[],0,heap_alloc_new w _,rfl,stamped_empty 0⟩,h.cK.trans (dH.alloc h.nZ _),h.low⟩
end
section
variable {X:Cx} {κ α:Type} [DecidableEq κ] {c:κ→Value} {d:α→Value} {b:Nat} {xs:List (κ×α)} {e:Env} {L:List HP} {T kt et:TypeId} {te:TI} {x y z:Operand}
theorem DN{es:List MapEntry}{c:κ→Value}{d:α→Value}{xs:List (κ×α)}(h:es.map (fun e=>(e.key,e.val))=xs.map (fun x=>(c x.1,d x.2))){j:Nat}{a:κ}{v:α}(hx:xs[j]?=some (a,v)):∃m,es[j]?=some m∧m.key=c a∧m.val=d v:=by
 have:=congrArg (fun l=>l[j]?) h
 simp only[ZS,hx,Option.map_some] at this
 cases hm:es[j]? with
 | none=>rw[hm] at this;cases this
 | some m=>
  rw[hm] at this
  simp only[Option.map_some,Option.some.injEq,Prod.mk.injEq] at this
  exact⟨m,Z,this.1,this.2⟩
theorem uG{P:Program}(K:iF P kt c)(hT:P.underlying T=some (.map kt et))(hE:az P et te)(a:κ)(ok:Bool){w:World}(hM:nP c d b xs w):
  (Instr.lookup T (.map (some b)) (c a) ok).run P w=.ok (bif ok then .tuple #[((dT xs a).map d).getD te.zero,.bool (dT xs a).isSome] else ((dT xs a).map d).getD te.zero) w:=by
 obtain⟨es,clock,h1,h2,h3⟩:=hM
 have hf:=K.find d a xs es.toList h2 w
 cases hl:i_ xs a 0 with
 | none=>
  obtain⟨hg,_⟩:=hY hl
  rw[hl] at hf
  cases ok<;>simp[Instr.lookup,run_underlying hT,MapKept.run_getObj_map h1,K.check,hf,hg,kz hE,Result.andThen]
 | some p=>
  obtain⟨j,v⟩:=p
  obtain⟨_,_,hg,_⟩:=jg hl
  rw[hl] at hf
  cases ok<;>simp[Instr.lookup,run_underlying hT,MapKept.run_getObj_map h1,K.check,hf,hg,Result.andThen]
theorem a8.lookup(K:iF X.P kt c)(hT:X.P.underlying T=some (.map kt et))(hE:aL X.tab et=some te){a:κ}{ok:Bool}(hx:ev e x=some (.map (some b)))(hk:ev e y=some (c a))(hM:pK X L c d b xs):
  a8 X (.lookup T x y ok) e L (fun u L'=>u=(bif ok then .tuple #[((dT xs a).map d).getD te.zero,.bool (dT xs a).isSome] else ((dT xs a).map d).getD te.zero)∧L'=L):=fun ac w ha hw dst ty pos after guard=>by
 refine .inl ⟨_,w,L,?_,⟨rfl,Z⟩,hw⟩
 simp only[execOp,ha.ev hx,ha.ev hk]
 rw[Sem.run_bind,uG K hT (X.ok.look hE) a ok (hM w hw)];rfl
theorem Fm{P:Program}(K:iF P kt c)(a:κ)(u:α){es:Array MapEntry}{clock:Nat}(h2:es.toList.map (fun e=>(e.key,e.val))=xs.map (fun x=>(c x.1,d x.2)))(h3:Stamped es clock):
  (∀{j v},i_ xs a 0=some (j,v)→∃m,es[j]?=some m∧m.key=c a∧(es.modify j fun e=>{ e with key:=c a,val:=d u }).toList.map (fun e=>(e.key,e.val))=(eI xs a u).map (fun x=>(c x.1,d x.2))∧Stamped (es.modify j fun e=>{ e with key:=c a,val:=d u }) clock) ∧
  (i_ xs a 0=none→(es.push { key:=c a,val:=d u,born:=clock }).toList.map (fun e=>(e.key,e.val))=(eI xs a u).map (fun x=>(c x.1,d x.2))∧Stamped (es.push { key:=c a,val:=d u,born:=clock }) (clock+1)):=by
 constructor
 ·intro j v hl
  obtain⟨_,hj,_,hp,_⟩:=jg hl
  rw[Nat.sub_zero] at hj hp
  obtain⟨m,hm,hmk,hmv⟩:=DN h2 hj
  have hm':es[j]?=some m:=by simpa using hm
  refine⟨m,hm',hmk,?_,stamped_modify h3 j _ (fun _ _=>rfl) (fun e _ he=>?_)⟩
  ·rw[hp]
   apply List.ext_getElem?
   intro k
   have hk:=congrArg (fun l=>l[k]?) h2
   simp only[ZS] at hk ⊢
   by_cases hjk:j=k
   ·subst hjk
    have hlt:j<xs.length:=(ZP.1 hj).1
    have hlt2:j<es.size:=(Array.getElem?_eq_some_iff.1 hm').1
    simp[hlt,hlt2,Array.getElem?_toList,Array.getElem_modify]
   ·rw[List.getElem?_set_ne hjk,←hk]
    simp only[Array.getElem?_toList,Array.getElem?_modify,if_neg hjk]
  ·rw[hm'] at he;cases he;exact hmk.symm
 ·intro hl
  obtain⟨_,hne,hp,_⟩:=hY hl
  refine⟨by rw[hp];simp[h2],stamped_push h3 fun m hm=>?_⟩
  intro he
  have:(m.key,m.val)∈es.toList.map (fun e=>(e.key,e.val)):=Z0.2 ⟨m,hm,rfl⟩
  rw[h2] at this
  obtain⟨x,hx,hx2⟩:=Z0.1 this
  have:c x.1=m.key:=congrArg Prod.fst hx2
  exact hne x hx (K.inj _ _ (this.trans he))
theorem qW{P:Program}(K:iF P kt c)(a:κ)(w:World):(Instr.keyThatStays (c a) (c a)).run P w=.ok (c a) w:=by
 simp[Instr.keyThatStays,K.bits]
theorem a8.mapUpdate(i:Nat)(K:iF X.P kt c)(hT:X.P.underlying T=some (.map kt et)){a:κ}{u:α}(hx:ev e x=some (.map (some b)))(hk:ev e y=some (c a))(hv:ev e z=some (d u))(hL:L[i]?=some (gO c d b xs)):
  a8 X (.mapUpdate T x y z) e L (fun v L'=>v=undef∧L'=L.set i (gO c d b (eI xs a u))):=fun ac w ha hw dst ty pos after guard=>by
 obtain⟨⟨es,clock,h1,h2,h3⟩,hf⟩:=hw.Fk hL
 have hfi:=K.find d a xs es.toList h2 w
 obtain⟨p1,p2⟩:=Fm K a u h2 h3
 have hids:∀ids w,(gO c d b xs).sat ids w→ids=[b]:=fun _ _ h=>h.1
 cases hl:i_ xs a 0 with
 | none=>
  obtain⟨q1,q2⟩:=p2 hl
  rw[hl] at hfi
  refine .inr (.inl ⟨bC w b (.map (es.push { key:=c a,val:=d u,born:=clock }) (clock+1)),_,?_,⟨rfl,Z⟩,hw.uF hL hids h1 hf ⟨rfl,_,_,eL h1,q1,q2⟩⟩)
  have:(Instr.mapUpdate T (.map (some b)) (c a) (d u)).run X.P w=.ok () (bC w b (.map (es.push { key:=c a,val:=d u,born:=clock }) (clock+1))):=by
   simp[Instr.mapUpdate,run_underlying hT,MapKept.run_getObj_map h1,K.check,hfi,MapKept.run_setObj_map _ h1,Result.andThen,bC]
  simp only[execOp,ha.ev hx,ha.ev hk,ha.ev hv]
  rw[Sem.run_bind,this];rfl
 | some p=>
  obtain⟨j,v⟩:=p
  obtain⟨m,hm,hmk,q1,q2⟩:=p1 hl
  rw[hl] at hfi
  refine .inr (.inl ⟨bC w b (.map (es.modify j fun e=>{ e with key:=c a,val:=d u }) clock),_,?_,⟨rfl,Z⟩,hw.uF hL hids h1 hf ⟨rfl,_,_,eL h1,q1,q2⟩⟩)
  have:(Instr.mapUpdate T (.map (some b)) (c a) (d u)).run X.P w=.ok () (bC w b (.map (es.modify j fun e=>{ e with key:=c a,val:=d u }) clock)):=by
   simp[Instr.mapUpdate,run_underlying hT,MapKept.run_getObj_map h1,K.check,hfi,hm,hmk,qW K,MapKept.run_setObj_map _ h1,Result.andThen,bC]
  simp only[execOp,ha.ev hx,ha.ev hk,ha.ev hv]
  rw[Sem.run_bind,this];rfl
theorem map_eraseIdx{β γ:Type}(f:β→γ):∀(l:List β) (i:Nat),(l.eraseIdx i).map f=(l.map f).eraseIdx i
 | [],_=>rfl
 | _::_,0=>rfl
 | x::l,i+1=>by simp[map_eraseIdx f l i]
theorem KV{j:Nat}{v:α}{a:κ}{es:Array MapEntry}(h2:es.toList.map (fun e=>(e.key,e.val))=xs.map (fun x=>(c x.1,d x.2)))(hl:i_ xs a 0=some (j,v)):
  (es.eraseIdxIfInBounds j).toList.map (fun e=>(e.key,e.val))=(iE xs a).map (fun x=>(c x.1,d x.2)):=by
 obtain⟨_,hj,_,_,hp⟩:=jg hl
 rw[Nat.sub_zero] at hj hp
 obtain⟨m,hm,_⟩:=DN h2 hj
 have hlt:j<es.size:=by have:=(ZP.1 hm).1;simpa using this
 rw[hp]
 unfold Array.eraseIdxIfInBounds
 rw[dif_pos hlt,Array.toList_eraseIdx,map_eraseIdx,map_eraseIdx,h2]
theorem a8.delete(i:Nat)(K:iF X.P kt c)(hT:X.P.underlying T=some (.map kt et)){t2:TypeId}{a:κ}(hx:ev e x=some (.map (some b)))(hk:ev e y=some (c a))(hL:L[i]?=some (gO c d b xs)):
  a8 X (.call ⟨.builtin .delete,#[x,y],#[T,t2]⟩) e L (fun v L'=>v=.tuple #[]∧L'=L.set i (gO c d b (iE xs a))):=fun ac w ha hw dst ty pos after guard=>by
 obtain⟨⟨es,clock,h1,h2,h3⟩,hf⟩:=hw.Fk hL
 have hfi:=K.find d a xs es.toList h2 w
 have hids:∀ids w,(gO c d b xs).sat ids w→ids=[b]:=fun _ _ h=>h.1
 cases hl:i_ xs a 0 with
 | none=>
  obtain⟨_,_,_,hd⟩:=hY hl
  rw[hl] at hfi
  refine .inl ⟨_,bC w b (.map es clock),_,?_,⟨rfl,Z⟩,hw.uF hL hids h1 hf ⟨rfl,_,_,eL h1,by rw[hd];exact h2,h3⟩⟩
  have:(Builtin.delete_ #[T,t2] ty #[.map (some b),c a]).run X.P w=.ok (.tuple #[]) (bC w b (.map es clock)):=by
   simp[Builtin.delete_,run_underlying hT,MapKept.run_getObj_map h1,K.check,hfi,MapKept.run_setObj_map _ h1,Result.andThen,bC]
  simp[execOp,resolve,invoke,builtin,ha.ev hx,ha.ev hk,this]
 | some p=>
  obtain⟨j,v⟩:=p
  rw[hl] at hfi
  refine .inl ⟨_,bC w b (.map (es.eraseIdxIfInBounds j) clock),_,?_,⟨rfl,Z⟩,hw.uF hL hids h1 hf ⟨rfl,_,_,eL h1,KV h2 hl,stamped_erase h3 j⟩⟩
  have:(Builtin.delete_ #[T,t2] ty #[.map (some b),c a]).run X.P w=.ok (.tuple #[]) (bC w b (.map (es.eraseIdxIfInBounds j) clock)):=by
   simp[Builtin.delete_,run_underlying hT,MapKept.run_getObj_map h1,K.check,hfi,MapKept.run_setObj_map _ h1,Result.andThen,bC]
  simp[execOp,resolve,invoke,builtin,ha.ev hx,ha.ev hk,this]
theorem a8.makeMap(c:κ→Value)(d:α→Value){T:TypeId}:a8 X (.makeMap T none) e L (fun v L'=>∃b,v=.map (some b)∧L'=gO c d b ([]:List (κ×α))::L):=fun ac w ha hw dst ty pos after guard=>by
 refine .inl ⟨_,w.alloc (.map #[] 0),_,?_,⟨w.heap.size,Z,Z⟩,hw.PO⟩
 simp[execOp,Instr.makeMap,newObj,Sem.run]
end
section
variable {X:Cx} {ops:Array Oper} {G:GS} {l:List Oper} {e:Env} {L:List HP} {K:Env→List HP→Prop}
  {dst:Option Tmp} {ty:TypeId} {pos:String} {after:Array Edge} {guard:Option (Nat×Bool)}
theorem VO.wG{op:Op}{v:Value}{L':List HP}(h:a8 X op e L (fun u M=>u=v∧M=L'))(hk:VO X ops G l (cE dst v e) L' K)
  (hg:gT ops G guard=some true:=by rfl) (hd:bB X.n dst=true:=by rfl) (hf:bt G dst=true:=by rfl):VO X ops G (⟨dst,op,ty,pos,after,guard⟩::l) e L K:=
 VO.op hg hd hf h (fun _ _ ⟨h1,h2⟩=>by subst h1;subst h2;exact hk)
theorem VO.O8{op:Op}{M:Value→List HP→Prop}(h:a8 X op e L M)(hk:∀v L',M v L'→VO X ops G l (cE dst v e) L' K)
  (hg:gT ops G guard=some true:=by rfl) (hd:bB X.n dst=true:=by rfl) (hf:bt G dst=true:=by rfl):VO X ops G (⟨dst,op,ty,pos,after,guard⟩::l) e L K:=
 VO.op hg hd hf h hk
end
theorem wM{P:Program}{ty k el:Nat}(hund:P.underlying ty=some (.map k el))(a:Option Nat)(w:World):(Op.equal ty (.map a) (.map none)).run P w=.ok a.isNone w:=by
 unfold Op.equal
 show(Op.equalIn (9999+1) ty (.map a) (.map none)).run P w=_
 rw[Op.equalIn,Sem.run_bind,run_underlying hund]
 cases a<;>rfl
theorem qX{X:Cx}{e:Env}{T k el yt:TypeId}{x y:Operand}{a:Option Nat}(hund:X.P.underlying T=some (.map k el))(hx:ev e x=some (.map a))(hy:ev e y=some (.map none)):cY X (.binOp .eql T x y yt) e (.bool a.isNone):=by
 intro a' ha dst t pos after guard w
 simp only[execOp,ha.ev hx,ha.ev hy]
 have h:(do eqGuard .eql T x y (.map a) (.map none);binOp .eql T (.map a) (.map none):Sem Value).run X.P w=.ok (.bool a.isNone) w:=by
  show((do pure (.bool (←Op.equal T (.map a) (.map none))):Sem Value)).run X.P w=_
  rw[Sem.run_bind,wM hund];rfl
 rw[Sem.run_bind,h];rfl
theorem Gn{X:Cx}{e:Env}{T yt:TypeId}{x y:Operand}{xs ys:Array Value}{r:Bool}(hm:X.P.eqGuardType X.P.depth T=false)(hx:ev e x=some (.agg xs))(hy:ev e y=some (.agg ys))
  (h:∀w:World,(Op.equal T (.agg xs) (.agg ys)).run X.P w=.ok r w):cY X (.binOp .neq T x y yt) e (.bool (!r)):=by
 intro a' ha dst t pos after guard w
 simp only[execOp,ha.ev hx,ha.ev hy]
 have h2:(do eqGuard .neq T x y (.agg xs) (.agg ys);binOp .neq T (.agg xs) (.agg ys):Sem Value).run X.P w=.ok (.bool (!r)) w:=by
  rw[Sem.run_bind,run_eqGuard_agg w .neq T x y xs ys hm,Result.andThen_ok]
  show((do pure (.bool (!(←Op.equal T (.agg xs) (.agg ys)))):Sem Value)).run X.P w=_
  rw[Sem.run_bind,h];rfl
 rw[Sem.run_bind,h2];rfl
section
variable {X:Cx} {κ α:Type} [DecidableEq κ] {c:κ→Value} {d:α→Value} {b:Nat} {xs:List (κ×α)} {ops:Array Oper} {G:GS} {pl:je} {S:lF} {e:Env} {L:List HP} {K:Env→List HP→Prop}
  {dst:Option Tmp} {ty:TypeId} {pos:String} {after:Array Edge} {guard:Option (Nat×Bool)}
theorem VA.lookup{i:Nat}{T kt et:TypeId}{te:TI}{x y:Operand}{a:κ}{ok:Bool}(KO:iF X.P kt c)(hT:X.P.underlying T=some (.map kt et))(hE:aL X.tab et=some te)
  (hi:ops.toList[i]?=some ⟨dst,.lookup T x y ok,ty,pos,after,guard⟩) (hx:ev e x=some (.map (some b))) (hk:ev e y=some (c a)) (hM:pK X L c d b xs)
  (hn:VA X ops G pl ((i,nP c d b xs)::S) (cE dst (bif ok then .tuple #[((dT xs a).map d).getD te.zero,.bool (dT xs a).isSome] else ((dT xs a).map d).getD te.zero) e) L K)
  (hg:gT ops G guard=some true:=by rfl) (hd:bB X.n dst=true:=by rfl) (hf:bt G dst=true:=by rfl):VA X ops G (.take i pl) S e L K:=
 VA.first (Si:=nP c d b xs) hi hd hf (fun ac ha hG=>.inl ⟨eO hG hg,fun w hw=>by
  simp only[execOp,ha.ev hx,ha.ev hk]
  rw[Sem.run_bind,uG KO hT (X.ok.look hE) a ok hw];rfl⟩) hM hn
theorem Pd.mV{f:Nat×(World→Prop)→Bool}{i:Nat}(h:pK X L c d b xs)(hs:Pd X L (S.filter f)):Pd X L (((i,nP c d b xs)::S).filter f):=fun p hp=>by
 obtain⟨h1,h2⟩:=Z6.1 hp
 rcases ZV.1 h1 with rfl | h1
 ·exact fun w hw=>h w hw
 ·exact hs p (Z6.2 ⟨h1,h2⟩)
end
end Vg
namespace Vg
open Go
structure aK{α:Type}(c:α→List Value)(n:Nat)(Fr:Nat→Prop)(w:World)(a:Option Addr)(l:List α):Prop where
 at_:l≠[]→∃b off,a=some ⟨b,off,none⟩∧Fr b∧∀i x,l[i]?=some x→w.rangeAt b (off+i*n) (c x)
section
variable {α:Type} {c:α→List Value} {n:Nat}
theorem aK.cK{Fr Fr':Nat→Prop}{w w':World}{a:Option Addr}{l:List α}(h:aK c n Fr w a l)(hF:∀b,Fr b→Fr' b)(hk:dH Fr w w'):aK c n Fr' w' a l:=⟨fun hne=>by
 obtain⟨b,off,h1,h2,h3⟩:=h.at_ hne
 refine⟨b,off,h1,hF b h2,fun i x hx j v hv=>?_⟩
 have:=h3 i x hx j v hv
 unfold World.cell? at this ⊢
 rw[hk.block b h2];exact this⟩
theorem aK.of{X:Cx}{a:Option Addr}{l:List α}(h:aK c n X.Fr X.w0 a l){Fr':Nat→Prop}(hF:∀b,X.Fr b→Fr' b){w:World}{L:List HP}(hw:St X L w):aK c n Fr' w a l:=h.cK hF hw.cK
theorem aK.nil{Fr:Nat→Prop}{w:World}{a:Option Addr}:aK c n Fr w a []:=⟨fun h=>absurd rfl h⟩
theorem aK.rd{X:Cx}{a:Option Addr}{l:List α}(h:aK c n X.Fr X.w0 a l){i:Nat}{x:α}(hx:l[i]?=some x):∃b off,a=some ⟨b,off,none⟩ ∧
  (∀(L:List HP) (ti:TI),(c x).length=ti.size→ti.aU.agg=true→aE X L ti b (off+i*n) (.agg (c x).toArray)) ∧
  ∀(L:List HP) (ti:TI) (j:Nat) (v:Value),ti.aU.agg=false→(c x)[j]?=some v→aE X L ti b (off+i*n+j) v:=by
 obtain⟨b,off,h1,h2,h3⟩:=h.at_ (fun e=>by rw[e] at hx;cases hx)
 refine⟨b,off,h1,fun L ti hl ha=>aE.rd h2 ?_,fun L ti j v ha hv=>aE.rd h2 ?_⟩
 ·rw[ha];exact⟨c x,rfl,hl,h3 i x hx⟩
 ·rw[ha];exact h3 i x hx j v hv
theorem aK.rl{Fr:Nat→Prop}{w:World}{r:RL α}{t:Nat}(h:aM Fr [r.h t] w)(hok:r.Ok c n):aK c n Fr w r.addr r.xs:=⟨fun hne=>by
 obtain⟨b,off,h1,h2,h3⟩:=hok.at_ hne
 have hb:=h.aP 0 (by rw[RL.PN h1];rfl)
 obtain⟨t',fz,ht⟩:=hb.at_
 exact⟨b,off,h2,hb.fr,fun i x hx=>kZ ht (h3 i x hx)⟩⟩
theorem aK.aP{Fr:Nat→Prop}{w:World}{b off:Nat}{cs:List Value}{l:List α}(h:eS Fr w b cs)(hc:∀i x,l[i]?=some x→(cs.drop (off+i*n)).take n=c x):aK c n Fr w (some ⟨b,off,none⟩) l:=⟨fun hne=>by
 obtain⟨t',fz,ht⟩:=h.at_
 exact⟨b,off,Z,h.fr,fun i x hx=>kZ ht (hc i x hx)⟩⟩
theorem qY{w:World}(hc:∀x,(c x).length=n):∀{l:List α} {b off:Nat},(∀i x,l[i]?=some x→w.rangeAt b (off+i*n) (c x))→w.rangeAt b off (flat c l)
 | [],b,off,_=>fun j v hv=>by simp[flat] at hv
 | x::l,b,off,h=>fun j v hv=>by
  rw[bO,List.getElem?_append] at hv
  have h0:=h 0 x rfl
  rw[Nat.zero_mul,Nat.add_zero] at h0
  split at hv
  ·exact h0 j v hv
  ·rename_i hj
   rw[hc x] at hj hv
   have ih:=qY hc (l:=l) (b:=b) (off:=off+n) (fun i y hy=>by
    have:=h (i+1) y (by simpa using hy)
    rw[Nat.succ_mul] at this
    rw[show off+n+i*n=off+(i*n+n) from by omega];exact this)
   have:=ih (j-n) v hv
   rw[show off+n+(j-n)=off+j from by omega] at this
   exact this
theorem aK.row{X:Cx}{L:List HP}{a:Option Addr}{cap:Nat}{l:List α}(hc:∀x,(c x).length=n)(h:aK c n X.Fr X.w0 a l):dt X L (.slice a l.length cap) n l.length (flat c l):=by
 refine⟨bp hc l,?_⟩
 by_cases hl:l=[]
 ·exact .inl ⟨a,cap,Z,by simp[hl]⟩
 ·obtain⟨b,off,h1,h2,h3⟩:=h.at_ hl
  refine .inr ⟨b,off,cap,by rw[h1],fun w hw=>?_⟩
  have:=(aK.of (X:=X) (Fr':=X.Fr) h (fun _ h=>h) hw)
  obtain⟨b',off',e1,_,e3⟩:=this.at_ hl
  rw[h1] at e1
  cases e1
  exact qY hc e3
end
theorem xB(a:Nat)(ha:a<9223372036854775808):(BitVec.ofInt 64 (a:Int)).toNat=a:=by
 simp;omega
theorem Bu{a:Nat}(ha:a<9223372036854775808):IntKind.i64.wrap (a:Int)=a:=i64_in _ yd yd
section
variable {X:Cx} {e:Env} {xt yt:TypeId} {x y:Operand} {a b:Nat}
theorem Ii(hx:ev e x=some (.int .i64 (a:Int)))(hy:ev e y=some (.int .i64 (b:Int)))(ha:a<9223372036854775808)(hb:b<9223372036854775808):cY X (.binOp .or xt x y yt) e (.int .i64 ((a ||| b:Nat):Int)):=by
 intro a' hag dst ty pos after guard w
 have hlt:a ||| b<9223372036854775808:=by
  have:a ||| b<2 ^ 63:=Nat.or_lt_two_pow (by simpa using ha) ym
  simpa using this
 have h:Op.intBits .or .i64 (a:Int) (b:Int)=pure (.int .i64 ((a ||| b:Nat):Int)):=by
  have e1:(BitVec.ofInt 64 (a:Int) ||| BitVec.ofInt 64 (b:Int)).toNat=a ||| b:=by rw[BitVec.toNat_or,xB a ha,xB b hb]
  have e2:IntKind.i64.wrap ((BitVec.ofInt 64 (a:Int) ||| BitVec.ofInt 64 (b:Int)).toNat:Int)=((a ||| b:Nat):Int):=by rw[e1];exact Bu hlt
  show(pure (.int .i64 (IntKind.i64.wrap ((BitVec.ofInt 64 (a:Int) ||| BitVec.ofInt 64 (b:Int)).toNat:Int))):Sem Value)=_
  rw[e2]
 simp only[execOp,hag.ev hx,hag.ev hy]
 show((do eqGuard .or xt x y (.int .i64 a) (.int .i64 b);Op.intBits .or .i64 a b:Sem Value) >>= fun v=>pure (Next.value v)).run X.P w=_
 rw[h];rfl
end
end Vg
namespace Vg
open Go
def pT(f:FuncId)(first capt:List Value):Value:=.func (.func f) first.toArray capt.toArray
theorem fI{X:Cx}{e:Env}{f:FuncId}{first capt:Array Operand}{u v:List Value}(hu:lE e first.toList=some u)(hv:lE e capt.toList=some v):cY X (.makeFunc (.func f) first capt) e (pT f u v):=by
 intro a ha dst ty pos after guard w
 have h1:first.map a.eval=u.toArray:=by
  have:=ha.lE hu
  apply Array.toList_inj.1
  simpa using this
 have h2:capt.map a.eval=v.toArray:=by
  have:=ha.lE hv
  apply Array.toList_inj.1
  simpa using this
 simp only[execOp]
 show((do pure (Next.value (←Instr.makeFunc (.func f) (first.map a.eval) (capt.map a.eval))):Sem Next)).run X.P w=_
 rw[h1,h2];rfl
theorem Gp{P:Program}{f:FuncId}(h:dW P f)(a:Act)(x:Operand)(first capt:List Value)(hx:a.eval x=pT f first capt)(args:Array Operand)(tys:Array TypeId)(dst:Option Tmp)(ty:TypeId)(pos:String)(after:Array Edge)(guard:Option (Nat×Bool))(w:World):
  (execOp a.eval ⟨dst,.call ⟨.value x,args,tys⟩,ty,pos,after,guard⟩).run P w=.ok (.enter f (first.toArray++args.map a.eval++capt.toArray)) w:=by
 have:=mS h (first.toArray++args.map a.eval++capt.toArray) w
 simp only[execOp,resolve,hx,pT,Deferred.ofValue,invoke]
 exact this
theorem a8.jR{X:Cx}{f:FuncId}{x:Operand}{first capt:List Value}{args:Array Operand}{tys:Array TypeId}{e:Env}{L Lc Lr:List HP}{vals:List Value}{R:Value→List HP→Prop}
  (hx:ev e x=some (pT f first capt)) (hargs:lE e args.toList=some vals) (hp:L.Perm (Lc++Lr))
  (ht:∀Fr' w,(∀b,X.Fr b→Fr' b)→St X L w→aM Fr' Lr w→aH X.P f (first++vals++capt) Fr' w Lc R):
  a8 X (.call ⟨.value x,args,tys⟩) e L (fun v L'=>∃L1,R v L1∧L'=L1++Lr):=by
 intro a w ha hw dst ty pos after guard
 obtain⟨F,hs,hnd,hb⟩:=hw.sat.perm hp
 obtain⟨Fc,Fl,rfl,hsc,hsl⟩:=dM.append.1 hs
 have T:=ht (fun b=>X.Fr b∨b∈Fl) w (fun b h=>.inl h) hw ⟨Fl,hsl,fun b h=>.inr h⟩
 have hev:args.map a.eval=vals.toArray:=by
  have:=ha.lE hargs
  apply Array.toList_inj.1
  simpa using this
 refine .inr (.inr ⟨f,(first++vals++capt).toArray,?_,?_⟩)
 ·have:=Gp T.om a x first capt (ha.ev hx) args tys dst ty pos after guard w
  rw[this,hev];simp
 ·obtain⟨hnc,hnl,hdis⟩:=Z8.1 hnd
  refine Calls.mono (T.calls (fun b h=>?_) ⟨Fc,hsc,hnc,fun b h=>⟨fun h'=>?_,(hb b ya).2⟩⟩) fun en w' ⟨v,L',h1,h2,h3,h4⟩=>?_
  ·rcases h with h | h
   ·exact hw.nZ b h
   ·exact(hb b ya).2
  ·rcases h' with h' | h'
   ·exact(hb b ya).1 h'
   ·exact hdis b h b h' rfl
  ·refine⟨v,L'++Lr,h1,⟨L',h2,Z⟩,⟨?_,hw.cK.trans (h4.mono fun b h=>.inl h),hw.low⟩⟩
   obtain⟨G,hG,hGn,hGb⟩:=h3
   refine⟨G++Fl,dM.append.2 ⟨G,Fl,Z,hG,hsl.loc fun b h=>h4.block b (.inr h)⟩,?_,?_⟩
   ·exact UT
   ·intro b h
    rcases ZY.1 h with h | h
    ·exact UU
    ·exact TO
section
variable {X:Cx} {ops:Array Oper} {G:GS} {l:List Oper} {e:Env} {L:List HP} {K:Env→List HP→Prop} {pl:je} {S:lF}
  {dst:Option Tmp} {ty:TypeId} {pos:String} {after:Array Edge} {guard:Option (Nat×Bool)}
theorem VO.jR{f:FuncId}{x:Operand}{first capt:List Value}{args:Array Operand}{tys:Array TypeId}{vals:List Value}{R:Value→List HP→Prop}{Lc Lr:List HP}(hx:ev e x=some (pT f first capt))
  (ht:∀Fr' w,(∀b,X.Fr b→Fr' b)→St X L w→aM Fr' Lr w→aH X.P f (first++vals++capt) Fr' w Lc R) (hargs:lE e args.toList=some vals) (hL:L=Lc++Lr)
  (hk:∀v L1,R v L1→VO X ops G l (cE dst v e) (L1++Lr) K)
  (hg:gT ops G guard=some true:=by rfl) (hd:bB X.n dst=true:=by rfl) (hf:bt G dst=true:=by rfl):
  VO X ops G (⟨dst,.call ⟨.value x,args,tys⟩,ty,pos,after,guard⟩::l) e L K:=
 VO.op hg hd hf (a8.jR hx hargs (hL▸.refl _) ht) fun v L' ⟨L1,h1,h2⟩=>by subst h2;exact hk v L1 h1
theorem a8.Ij{φ:Value→Prop}{f:FuncId}{x:Operand}{first capt:List Value}{args:Array Operand}{tys:Array TypeId}{vals:List Value}(hx:ev e x=some (pT f first capt))
  (ht:∀Fr' w,(∀b,X.Fr b→Fr' b)→St X L w→aM Fr' L w→aH X.P f (first++vals++capt) Fr' w [] (fun v L=>φ v∧L=[])) (hargs:lE e args.toList=some vals):
  a8 X (.call ⟨.value x,args,tys⟩) e L (fun v L'=>φ v∧L'=L):=fun a w ha hw dst ty pos after guard=>by
 have key:∀v (L':List HP),(∃L1,(φ v∧L1=[])∧L'=L1++L)→φ v∧L'=L:=by
  rintro v L' ⟨L1,⟨h1,h2⟩,h3⟩
  rw[h2] at h3;exact⟨h1,h3⟩
 rcases a8.jR (Lc:=[]) (Lr:=L) hx hargs (.refl _) ht a w ha hw dst ty pos after guard with ⟨v,w',L',h1,h2,h3⟩ | ⟨w',L',h1,h2,h3⟩ | ⟨f',args',h1,h2⟩
 ·exact .inl ⟨v,w',L',h1,key _ _ h2,h3⟩
 ·exact .inr (.inl ⟨w',L',h1,key _ _ h2,h3⟩)
 ·refine .inr (.inr ⟨f',args',h1,Calls.mono h2 ?_⟩)
  rintro en w' ⟨v,L',h3,h4,h5⟩
  exact⟨v,L',h3,key _ _ h4,h5⟩
theorem VO.sr{u:Value}{f:FuncId}{x:Operand}{first capt:List Value}{args:Array Operand}{tys:Array TypeId}{vals:List Value}(hx:ev e x=some (pT f first capt))
  (ht:∀Fr' w,(∀b,X.Fr b→Fr' b)→St X L w→aM Fr' L w→aH X.P f (first++vals++capt) Fr' w [] (fun v L=>v=u∧L=[])) (hargs:lE e args.toList=some vals)
  (hk:VO X ops G l (cE dst u e) L K)
  (hg:gT ops G guard=some true:=by rfl) (hd:bB X.n dst=true:=by rfl) (hf:bt G dst=true:=by rfl):
  VO X ops G (⟨dst,.call ⟨.value x,args,tys⟩,ty,pos,after,guard⟩::l) e L K:=
 VO.op hg hd hf (a8.Ij (φ:=fun v=>v=u) hx ht hargs) fun v L' ⟨h1,h2⟩=>by subst h1;subst h2;exact hk
theorem VA.sr{u:Value}{j:Nat}{f:FuncId}{x:Operand}{first capt:List Value}{args:Array Operand}{tys:Array TypeId}{vals:List Value}(hx:ev e x=some (pT f first capt))
  (ht:∀Fr' w,(∀b,X.Fr b→Fr' b)→St X L w→aM Fr' L w→aH X.P f (first++vals++capt) Fr' w [] (fun v L=>v=u∧L=[]))
  (hi:ops.toList[j]?=some ⟨dst,.call ⟨.value x,args,tys⟩,ty,pos,after,guard⟩) (hargs:lE e args.toList=some vals) (hst:Pd X L (S.filter fun p=>!waits ops j p.1))
  (hk:VA X ops G pl (S.filter fun p=>!waits ops j p.1) (cE dst u e) L K)
  (hg:gT ops G guard=some true:=by rfl) (hd:bB X.n dst=true:=by rfl) (hf:bt G dst=true:=by rfl):VA X ops G (.only j pl) S e L K:=
 AO (a8.Ij (φ:=fun v=>v=u) hx ht hargs) hi (fun v L' ⟨h1,h2⟩=>by subst h2;exact hst) (fun v L' ⟨h1,h2⟩=>by subst h1;subst h2;exact hk) hg hd hf
theorem a8.fC{f:FuncId}{x:Operand}{first capt:List Value}{args:Array Operand}{tys:Array TypeId}{vals:List Value}{H:HP}{R:Value→List HP→Prop}{ψ:Value→HP→Prop}(i:Nat)(hx:ev e x=some (pT f first capt))
  (hL:L[i]?=some H) (ht:∀Fr' w,(∀b,X.Fr b→Fr' b)→St X L w→aM Fr' (L.eraseIdx i) w→aH X.P f (first++vals++capt) Fr' w [H] R) (hargs:lE e args.toList=some vals)
  (hR:∀v L1,R v L1→∃H',L1=[H']∧ψ v H'):
  a8 X (.call ⟨.value x,args,tys⟩) e L (fun v L'=>∃H',ψ v H'∧L'=L.set i H'):=by
 intro a w ha hw dst ty pos after guard
 have hi:i<L.length:=(ZP.1 hL).1
 have key:∀v w' L',(∃L1,R v L1∧L'=L1++L.eraseIdx i)→St X L' w'→∃L'',(∃H',ψ v H'∧L''=L.set i H')∧St X L'' w':=by
  rintro v w' _ ⟨L1,h1,rfl⟩ hs
  obtain⟨H',rfl,hψ⟩:=hR v L1 h1
  exact UW
 rcases a8.jR (R:=R) hx hargs (Lc:=[H]) (Lr:=L.eraseIdx i) (bM hL) ht a w ha hw dst ty pos after guard with ⟨v,w',L',h1,h2,h3⟩ | ⟨w',L',h1,h2,h3⟩ | ⟨f,args,h1,h2⟩
 ·obtain⟨L'',h4,h5⟩:=key _ _ _ h2 h3
  exact TP
 ·obtain⟨L'',h4,h5⟩:=key _ _ _ h2 h3
  exact TQ
 ·refine .inr (.inr ⟨f,args,h1,Calls.mono h2 ?_⟩)
  rintro en w' ⟨v,L',h3,h4,h5⟩
  obtain⟨L'',h6,h7⟩:=key _ _ _ h4 h5
  exact⟨v,L'',h3,h6,h7⟩
theorem VO.fC{f:FuncId}{x:Operand}{first capt:List Value}{args:Array Operand}{tys:Array TypeId}{vals:List Value}{H:HP}{R:Value→List HP→Prop}{ψ:Value→HP→Prop}(i:Nat)(hx:ev e x=some (pT f first capt))
  (hL:L[i]?=some H) (ht:∀Fr' w,(∀b,X.Fr b→Fr' b)→St X L w→aM Fr' (L.eraseIdx i) w→aH X.P f (first++vals++capt) Fr' w [H] R) (hargs:lE e args.toList=some vals)
  (hR:∀v L1,R v L1→∃H',L1=[H']∧ψ v H') (hk:∀v H',ψ v H'→VO X ops G l (cE dst v e) (L.set i H') K)
  (hg:gT ops G guard=some true:=by rfl) (hd:bB X.n dst=true:=by rfl) (hf:bt G dst=true:=by rfl):
  VO X ops G (⟨dst,.call ⟨.value x,args,tys⟩,ty,pos,after,guard⟩::l) e L K:=
 VO.op hg hd hf (a8.fC i hx hL ht hargs hR) fun v L' ⟨H',h1,h2⟩=>by subst h2;exact hk v H' h1
theorem VA.fC{j:Nat}{f:FuncId}{x:Operand}{first capt:List Value}{args:Array Operand}{tys:Array TypeId}{vals:List Value}{H:HP}{R:Value→List HP→Prop}{ψ:Value→HP→Prop}(i:Nat)(hx:ev e x=some (pT f first capt))
  (hL:L[i]?=some H) (ht:∀Fr' w,(∀b,X.Fr b→Fr' b)→St X L w→aM Fr' (L.eraseIdx i) w→aH X.P f (first++vals++capt) Fr' w [H] R)
  (hi:ops.toList[j]?=some ⟨dst,.call ⟨.value x,args,tys⟩,ty,pos,after,guard⟩) (hargs:lE e args.toList=some vals)
  (hR:∀v L1,R v L1→∃H',L1=[H']∧ψ v H') (hst:∀v H',ψ v H'→Pd X (L.set i H') (S.filter fun p=>!waits ops j p.1))
  (hk:∀v H',ψ v H'→VA X ops G pl (S.filter fun p=>!waits ops j p.1) (cE dst v e) (L.set i H') K)
  (hg:gT ops G guard=some true:=by rfl) (hd:bB X.n dst=true:=by rfl) (hf:bt G dst=true:=by rfl):VA X ops G (.only j pl) S e L K:=
 AO (a8.fC i hx hL ht hargs hR) hi (fun v L' ⟨H',h1,h2⟩=>by subst h2;exact hst v H' h1) (fun v L' ⟨H',h1,h2⟩=>by subst h2;exact hk v H' h1) hg hd hf
end
theorem aK.aI{α:Type}{c:α→List Value}{n el cap:Nat}{a:Option Addr}{xs:List α}{Fr:Nat→Prop}{w:World}(hc:∀x,(c x).length=n)(h:aM Fr [aI el n a xs.length cap (flat c xs)] w):aK c n Fr w a xs:=by
 obtain⟨F,⟨ids,G,hF,⟨h1,h2⟩,hG⟩,hf⟩:=h
 rcases h2 with ⟨rfl,h3,_,_⟩ | ⟨b,rest,rfl,rfl,h4,h5,h6⟩
 ·obtain rfl:xs=[]:=List.eq_nil_of_length_eq_zero h3
  exact aK.nil
 ·exact⟨fun _=>⟨b,0,Z,hf b (by rw[hF];simp),fun i x hx=>kZ h6 (by rw[ZQ];exact fG hc hx rest)⟩⟩
theorem Sub.bl{e' e:Env}{t:Nat}{a b:Bool}(h:look e t=some (Value.bool a))(hab:a=b)(hs:Sub e' e):Sub ((t,.bool b)::e') e:=by subst hab;exact SC h hs
theorem ay.KW{X:Cx}{fn:Func}{R:Value→List HP→Prop}{e:Env}{L:List HP}{T:TypeId}{ti:TI}{b:Nat}{v u:Value}(q p:Nat)(h:fn.results=#[.tmp q,.cell p T])(hq:look e q=some u)(hp:look e p=some (.pointer (some ⟨b,0,none⟩)))(hT:aL X.tab T=some ti)
  (hr:aE X L ti b 0 v) {L':List HP} (he:jq X L L') (hR:R (.tuple #[u,v]) L'):ay X fn R e L:=
 ⟨_,L',⟨fun a w ha hw=>by
  have:=fU (X.ok.look hT) (hr w hw)
  have hp':=ha.at_ p _ hp
  have hq':=ha.at_ q _ hq
  simp only[Array.getD_eq_getD_getElem?] at hp' hq'
  simp[results,h,hp',hq',asAddr,this]⟩,he,hR⟩
end Vg
namespace T
open Go Vg
abbrev I0:Value:=.int .i64 0
abbrev S0:Value:=.string ⟨#[]⟩
def t3:TI:={ aU:=.int .i64,size:=1,bytes:=8,zero:=I0,zs:=[I0] }
theorem Sq:az Tryz.prog 3 t3:=⟨by kernel_rfl,by kernel_rfl,rfl,rfl⟩
def t4:TI:={ aU:=.bool,size:=1,bytes:=1,zero:=.bool false,zs:=[.bool false] }
theorem Sr:az Tryz.prog 4 t4:=⟨by kernel_rfl,by kernel_rfl,rfl,rfl⟩
def t2:TI:={ aU:=.int .i64,size:=1,bytes:=8,zero:=I0,zs:=[I0] }
theorem Ss:az Tryz.prog 2 t2:=⟨by kernel_rfl,by kernel_rfl,rfl,rfl⟩
def t9:TI:={ aU:=.string,size:=1,bytes:=16,zero:=S0,zs:=[S0] }
theorem Su:az Tryz.prog 9 t9:=⟨by kernel_rfl,by kernel_rfl,rfl,rfl⟩
def t5:TI:={ aU:=.int .u8,size:=1,bytes:=1,zero:=.int .u8 0,zs:=[.int .u8 0] }
theorem Sv:az Tryz.prog 5 t5:=⟨by kernel_rfl,by kernel_rfl,rfl,rfl⟩
def t34:TI:={ aU:=.int .i64,size:=1,bytes:=8,zero:=I0,zs:=[I0] }
theorem PR:az Tryz.prog 34 t34:=⟨by kernel_rfl,by kernel_rfl,rfl,rfl⟩
def t204:TI:={ aU:=.struct [(0,1),(1,1),(2,1),(3,1),(4,1),(5,1),(6,1),(7,4),(11,4),(15,1),(16,7),(23,3),(26,1),(27,1),(28,1)],size:=29,bytes:=288,zero:=.agg ([I0,I0,I0,I0,I0,I0,I0,I0,S0,S0,I0,I0,S0,I0,I0,I0,I0,I0,I0,I0,S0,S0,I0,I0,.slice none 0 0,I0,I0,I0,I0]:List Value).toArray,zs:=[I0,I0,I0,I0,I0,I0,I0,I0,S0,S0,I0,I0,S0,I0,I0,I0,I0,I0,I0,I0,S0,S0,I0,I0,.slice none 0 0,I0,I0,I0,I0] }
theorem KX:az Tryz.prog 204 t204:=⟨by kernel_rfl,by kernel_rfl,rfl,rfl⟩
def t87:TI:={ aU:=.ptr 125,size:=1,bytes:=8,zero:=.pointer none,zs:=[.pointer none] }
theorem PS:az Tryz.prog 87 t87:=⟨by kernel_rfl,by kernel_rfl,rfl,rfl⟩
def t6:TI:={ aU:=.int .u8,size:=1,bytes:=1,zero:=.int .u8 0,zs:=[.int .u8 0] }
theorem Sw:az Tryz.prog 6 t6:=⟨by kernel_rfl,by kernel_rfl,rfl,rfl⟩
def t105:TI:={ aU:=.struct [(0,1),(1,1),(2,1)],size:=3,bytes:=40,zero:=.agg ([I0,.slice none 0 0,I0]:List Value).toArray,zs:=[I0,.slice none 0 0,I0] }
theorem KY:az Tryz.prog 105 t105:=⟨by kernel_rfl,by kernel_rfl,rfl,rfl⟩
def t24:TI:={ aU:=.struct [(0,1),(1,1),(2,1),(3,1),(4,1),(5,1),(6,1),(7,1),(8,1),(9,1),(10,1),(11,1)],size:=12,bytes:=112,zero:=.agg ([I0,I0,I0,.slice none 0 0,I0,I0,I0,I0,I0,I0,I0,I0]:List Value).toArray,zs:=[I0,I0,I0,.slice none 0 0,I0,I0,I0,I0,I0,I0,I0,I0] }
theorem PT:az Tryz.prog 24 t24:=⟨by kernel_rfl,by kernel_rfl,rfl,rfl⟩
def t21:TI:={ aU:=.int .i32,size:=1,bytes:=4,zero:=.int .i32 0,zs:=[.int .i32 0] }
theorem PU:az Tryz.prog 21 t21:=⟨by kernel_rfl,by kernel_rfl,rfl,rfl⟩
def t7:TI:={ aU:=.struct [(0,1),(1,1),(2,1),(3,1)],size:=4,bytes:=24,zero:=.agg ([I0,I0,.bool false,.int .u8 0]:List Value).toArray,zs:=[I0,I0,.bool false,.int .u8 0] }
theorem Sx:az Tryz.prog 7 t7:=⟨by kernel_rfl,by kernel_rfl,rfl,rfl⟩
def t8:TI:={ aU:=.struct [(0,1),(1,1),(2,1),(3,1)],size:=4,bytes:=24,zero:=.agg ([I0,I0,.bool false,.int .u8 0]:List Value).toArray,zs:=[I0,I0,.bool false,.int .u8 0] }
theorem Sy:az Tryz.prog 8 t8:=⟨by kernel_rfl,by kernel_rfl,rfl,rfl⟩
def t196:TI:={ aU:=.int .u64,size:=1,bytes:=8,zero:=.int .u64 0,zs:=[.int .u64 0] }
theorem KZ:az Tryz.prog 196 t196:=⟨by kernel_rfl,by kernel_rfl,rfl,rfl⟩
def t260:TI:={ aU:=.int .u32,size:=1,bytes:=4,zero:=.int .u32 0,zs:=[.int .u32 0] }
theorem K0:az Tryz.prog 260 t260:=⟨by kernel_rfl,by kernel_rfl,rfl,rfl⟩
def t33:TI:={ aU:=.struct [(0,1),(1,1),(2,1),(3,1),(4,4)],size:=8,bytes:=80,zero:=.agg ([I0,I0,I0,I0,I0,S0,S0,I0]:List Value).toArray,zs:=[I0,I0,I0,I0,I0,S0,S0,I0] }
theorem PV:az Tryz.prog 33 t33:=⟨by kernel_rfl,by kernel_rfl,rfl,rfl⟩
def t31:TI:={ aU:=.struct [(0,1),(1,1),(2,1),(3,1)],size:=4,bytes:=48,zero:=.agg ([I0,S0,S0,I0]:List Value).toArray,zs:=[I0,S0,S0,I0] }
theorem PW:az Tryz.prog 31 t31:=⟨by kernel_rfl,by kernel_rfl,rfl,rfl⟩
def t90:TI:={ aU:=.ptr 138,size:=1,bytes:=8,zero:=.pointer none,zs:=[.pointer none] }
theorem PX:az Tryz.prog 90 t90:=⟨by kernel_rfl,by kernel_rfl,rfl,rfl⟩
def t121:TI:={ aU:=.ptr 178,size:=1,bytes:=8,zero:=.pointer none,zs:=[.pointer none] }
theorem K1:az Tryz.prog 121 t121:=⟨by kernel_rfl,by kernel_rfl,rfl,rfl⟩
def t52:TI:={ aU:=.ptr 84,size:=1,bytes:=8,zero:=.pointer none,zs:=[.pointer none] }
theorem PY:az Tryz.prog 52 t52:=⟨by kernel_rfl,by kernel_rfl,rfl,rfl⟩
def t125:TI:={ aU:=.struct [(0,1),(1,1),(2,1),(3,1),(4,3),(7,1),(8,1),(9,1),(10,1),(11,1),(12,1),(13,1),(14,1),(15,1),(16,1)],size:=17,bytes:=152,zero:=.agg ([I0,I0,I0,I0,I0,.slice none 0 0,I0,I0,.bool false,.pointer none,.pointer none,.pointer none,.pointer none,I0,I0,.bool false,I0]:List Value).toArray,zs:=[I0,I0,I0,I0,I0,.slice none 0 0,I0,I0,.bool false,.pointer none,.pointer none,.pointer none,.pointer none,I0,I0,.bool false,I0] }
theorem K2:az Tryz.prog 125 t125:=⟨by kernel_rfl,by kernel_rfl,rfl,rfl⟩
def t10:TI:={ aU:=.string,size:=1,bytes:=16,zero:=S0,zs:=[S0] }
theorem PZ:az Tryz.prog 10 t10:=⟨by kernel_rfl,by kernel_rfl,rfl,rfl⟩
def t74:TI:={ aU:=.ptr 111,size:=1,bytes:=8,zero:=.pointer none,zs:=[.pointer none] }
theorem P0:az Tryz.prog 74 t74:=⟨by kernel_rfl,by kernel_rfl,rfl,rfl⟩
def t153:TI:={ aU:=.struct [(0,1),(1,1),(2,1),(3,1)],size:=4,bytes:=40,zero:=.agg ([I0,S0,I0,I0]:List Value).toArray,zs:=[I0,S0,I0,I0] }
theorem K3:az Tryz.prog 153 t153:=⟨by kernel_rfl,by kernel_rfl,rfl,rfl⟩
def t120:TI:={ aU:=.ptr 176,size:=1,bytes:=8,zero:=.pointer none,zs:=[.pointer none] }
theorem K4:az Tryz.prog 120 t120:=⟨by kernel_rfl,by kernel_rfl,rfl,rfl⟩
def t163:TI:={ aU:=.struct [(0,1),(1,1),(2,1),(3,4)],size:=7,bytes:=72,zero:=.agg ([I0,I0,I0,I0,S0,S0,I0]:List Value).toArray,zs:=[I0,I0,I0,I0,S0,S0,I0] }
theorem K5:az Tryz.prog 163 t163:=⟨by kernel_rfl,by kernel_rfl,rfl,rfl⟩
def t103:TI:={ aU:=.slice 113,size:=1,bytes:=24,zero:=.slice none 0 0,zs:=[.slice none 0 0] }
theorem K6:az Tryz.prog 103 t103:=⟨by kernel_rfl,by kernel_rfl,rfl,rfl⟩
def t11:TI:={ aU:=.string,size:=1,bytes:=16,zero:=S0,zs:=[S0] }
theorem P1:az Tryz.prog 11 t11:=⟨by kernel_rfl,by kernel_rfl,rfl,rfl⟩
def t25:TI:={ aU:=.slice 33,size:=1,bytes:=24,zero:=.slice none 0 0,zs:=[.slice none 0 0] }
theorem P2:az Tryz.prog 25 t25:=⟨by kernel_rfl,by kernel_rfl,rfl,rfl⟩
def t147:TI:={ aU:=.slice 206,size:=1,bytes:=24,zero:=.slice none 0 0,zs:=[.slice none 0 0] }
theorem K7:az Tryz.prog 147 t147:=⟨by kernel_rfl,by kernel_rfl,rfl,rfl⟩
def t100:TI:={ aU:=.ptr 3,size:=1,bytes:=8,zero:=.pointer none,zs:=[.pointer none] }
theorem K8:az Tryz.prog 100 t100:=⟨by kernel_rfl,by kernel_rfl,rfl,rfl⟩
def t122:TI:={ aU:=.ptr 186,size:=1,bytes:=8,zero:=.pointer none,zs:=[.pointer none] }
theorem K9:az Tryz.prog 122 t122:=⟨by kernel_rfl,by kernel_rfl,rfl,rfl⟩
def t12:TI:={ aU:=.int .u64,size:=1,bytes:=8,zero:=.int .u64 0,zs:=[.int .u64 0] }
theorem P3:az Tryz.prog 12 t12:=⟨by kernel_rfl,by kernel_rfl,rfl,rfl⟩
def t56:TI:={ aU:=.slice 5,size:=1,bytes:=24,zero:=.slice none 0 0,zs:=[.slice none 0 0] }
theorem P4:az Tryz.prog 56 t56:=⟨by kernel_rfl,by kernel_rfl,rfl,rfl⟩
def t22:TI:={ aU:=.slice 3,size:=1,bytes:=24,zero:=.slice none 0 0,zs:=[.slice none 0 0] }
theorem P5:az Tryz.prog 22 t22:=⟨by kernel_rfl,by kernel_rfl,rfl,rfl⟩
def t253:TI:={ aU:=.ptr 325,size:=1,bytes:=8,zero:=.pointer none,zs:=[.pointer none] }
theorem K_:az Tryz.prog 253 t253:=⟨by kernel_rfl,by kernel_rfl,rfl,rfl⟩
def t58:TI:={ aU:=.struct [(0,1),(1,1)],size:=2,bytes:=32,zero:=.agg ([.pointer none,.slice none 0 0]:List Value).toArray,zs:=[.pointer none,.slice none 0 0] }
theorem P6:az Tryz.prog 58 t58:=⟨by kernel_rfl,by kernel_rfl,rfl,rfl⟩
def t99:TI:={ aU:=.int .u64,size:=1,bytes:=8,zero:=.int .u64 0,zs:=[.int .u64 0] }
theorem P7:az Tryz.prog 99 t99:=⟨by kernel_rfl,by kernel_rfl,rfl,rfl⟩
def t179:TI:={ aU:=.ptr 252,size:=1,bytes:=8,zero:=.pointer none,zs:=[.pointer none] }
theorem La:az Tryz.prog 179 t179:=⟨by kernel_rfl,by kernel_rfl,rfl,rfl⟩
def t113:TI:={ aU:=.struct [(0,1),(1,1)],size:=2,bytes:=16,zero:=.agg ([I0,I0]:List Value).toArray,zs:=[I0,I0] }
theorem Lb:az Tryz.prog 113 t113:=⟨by kernel_rfl,by kernel_rfl,rfl,rfl⟩
def t138:TI:={ aU:=.struct [(0,1),(1,1),(2,1),(3,1),(4,1),(5,3),(8,1),(9,1),(10,1),(11,1),(12,1),(13,1),(14,1),(15,1),(16,1),(17,4)],size:=21,bytes:=200,zero:=.agg ([I0,I0,I0,I0,.pointer none,I0,.slice none 0 0,I0,.pointer none,I0,I0,I0,.bool false,I0,I0,I0,I0,I0,S0,S0,I0]:List Value).toArray,zs:=[I0,I0,I0,I0,.pointer none,I0,.slice none 0 0,I0,.pointer none,I0,I0,I0,.bool false,I0,I0,I0,I0,I0,S0,S0,I0] }
theorem Ld:az Tryz.prog 138 t138:=⟨by kernel_rfl,by kernel_rfl,rfl,rfl⟩
def t243:TI:={ aU:=.slice 9,size:=1,bytes:=24,zero:=.slice none 0 0,zs:=[.slice none 0 0] }
theorem Le:az Tryz.prog 243 t243:=⟨by kernel_rfl,by kernel_rfl,rfl,rfl⟩
def t84:TI:={ aU:=.struct [(0,12),(12,1),(13,1),(14,1),(15,1),(16,1),(17,1),(18,1)],size:=19,bytes:=216,zero:=.agg ([I0,I0,I0,.slice none 0 0,I0,I0,I0,I0,I0,I0,I0,I0,I0,.pointer none,.slice none 0 0,.slice none 0 0,.pointer none,.pointer none,.slice none 0 0]:List Value).toArray,zs:=[I0,I0,I0,.slice none 0 0,I0,I0,I0,I0,I0,I0,I0,I0,I0,.pointer none,.slice none 0 0,.slice none 0 0,.pointer none,.pointer none,.slice none 0 0] }
theorem P8:az Tryz.prog 84 t84:=⟨by kernel_rfl,by kernel_rfl,rfl,rfl⟩
def t16:TI:={ aU:=.ptr 415,size:=1,bytes:=8,zero:=.pointer none,zs:=[.pointer none] }
theorem P9:az Tryz.prog 16 t16:=⟨by kernel_rfl,by kernel_rfl,rfl,rfl⟩
def t123:TI:={ aU:=.ptr 189,size:=1,bytes:=8,zero:=.pointer none,zs:=[.pointer none] }
theorem Lf:az Tryz.prog 123 t123:=⟨by kernel_rfl,by kernel_rfl,rfl,rfl⟩
def t14:TI:={ aU:=.struct [(0,1),(1,1)],size:=2,bytes:=24,zero:=.agg ([S0,.int .u64 0]:List Value).toArray,zs:=[S0,.int .u64 0] }
theorem P_:az Tryz.prog 14 t14:=⟨by kernel_rfl,by kernel_rfl,rfl,rfl⟩
def t81:TI:={ aU:=.ptr 119,size:=1,bytes:=8,zero:=.pointer none,zs:=[.pointer none] }
theorem P':az Tryz.prog 81 t81:=⟨by kernel_rfl,by kernel_rfl,rfl,rfl⟩
def t111:TI:={ aU:=.struct [(0,1),(1,1),(2,3),(5,6),(11,6)],size:=17,bytes:=112,zero:=.agg ([I0,I0,I0,.slice none 0 0,I0,I0,I0,I0,I0,I0,I0,.bool false,.bool false,.bool false,.bool false,.bool false,.bool false]:List Value).toArray,zs:=[I0,I0,I0,.slice none 0 0,I0,I0,I0,I0,I0,I0,I0,.bool false,.bool false,.bool false,.bool false,.bool false,.bool false] }
theorem Lh:az Tryz.prog 111 t111:=⟨by kernel_rfl,by kernel_rfl,rfl,rfl⟩
def t268:TI:={ aU:=.ptr 204,size:=1,bytes:=8,zero:=.pointer none,zs:=[.pointer none] }
theorem Li:az Tryz.prog 268 t268:=⟨by kernel_rfl,by kernel_rfl,rfl,rfl⟩
def t210:TI:={ aU:=.struct [(0,1),(1,1),(2,1)],size:=3,bytes:=32,zero:=.agg ([I0,I0,S0]:List Value).toArray,zs:=[I0,I0,S0] }
theorem Lj:az Tryz.prog 210 t210:=⟨by kernel_rfl,by kernel_rfl,rfl,rfl⟩
def t77:TI:={ aU:=.ptr 116,size:=1,bytes:=8,zero:=.pointer none,zs:=[.pointer none] }
theorem Qa:az Tryz.prog 77 t77:=⟨by kernel_rfl,by kernel_rfl,rfl,rfl⟩
def t169:TI:={ aU:=.ptr 249,size:=1,bytes:=8,zero:=.pointer none,zs:=[.pointer none] }
theorem Lk:az Tryz.prog 169 t169:=⟨by kernel_rfl,by kernel_rfl,rfl,rfl⟩
def t277:TI:={ aU:=.slice 204,size:=1,bytes:=24,zero:=.slice none 0 0,zs:=[.slice none 0 0] }
theorem Ll:az Tryz.prog 277 t277:=⟨by kernel_rfl,by kernel_rfl,rfl,rfl⟩
def t242:TI:={ aU:=.ptr 246,size:=1,bytes:=8,zero:=.pointer none,zs:=[.pointer none] }
theorem Lm:az Tryz.prog 242 t242:=⟨by kernel_rfl,by kernel_rfl,rfl,rfl⟩
def t135:TI:={ aU:=.ptr 194,size:=1,bytes:=8,zero:=.pointer none,zs:=[.pointer none] }
theorem Ln:az Tryz.prog 135 t135:=⟨by kernel_rfl,by kernel_rfl,rfl,rfl⟩
def t187:TI:={ aU:=.slice 216,size:=1,bytes:=24,zero:=.slice none 0 0,zs:=[.slice none 0 0] }
theorem Lo:az Tryz.prog 187 t187:=⟨by kernel_rfl,by kernel_rfl,rfl,rfl⟩
def t155:TI:={ aU:=.struct [(0,1),(1,1),(2,4)],size:=6,bytes:=56,zero:=.agg ([I0,I0,I0,S0,I0,I0]:List Value).toArray,zs:=[I0,I0,I0,S0,I0,I0] }
theorem Lp:az Tryz.prog 155 t155:=⟨by kernel_rfl,by kernel_rfl,rfl,rfl⟩
def t216:TI:={ aU:=.struct [(0,1),(1,29),(30,4)],size:=34,bytes:=336,zero:=.agg ([I0,I0,I0,I0,I0,I0,I0,I0,I0,S0,S0,I0,I0,S0,I0,I0,I0,I0,I0,I0,I0,S0,S0,I0,I0,.slice none 0 0,I0,I0,I0,I0,I0,S0,I0,I0]:List Value).toArray,zs:=[I0,I0,I0,I0,I0,I0,I0,I0,I0,S0,S0,I0,I0,S0,I0,I0,I0,I0,I0,I0,I0,S0,S0,I0,I0,.slice none 0 0,I0,I0,I0,I0,I0,S0,I0,I0] }
theorem Lq:az Tryz.prog 216 t216:=⟨by kernel_rfl,by kernel_rfl,rfl,rfl⟩
def t13:TI:={ aU:=.struct [(0,1),(1,1)],size:=2,bytes:=24,zero:=.agg ([S0,.int .u64 0]:List Value).toArray,zs:=[S0,.int .u64 0] }
theorem Qb:az Tryz.prog 13 t13:=⟨by kernel_rfl,by kernel_rfl,rfl,rfl⟩
def t183:TI:={ aU:=.struct [(0,1),(1,1)],size:=2,bytes:=16,zero:=.agg ([I0,I0]:List Value).toArray,zs:=[I0,I0] }
theorem Lt:az Tryz.prog 183 t183:=⟨by kernel_rfl,by kernel_rfl,rfl,rfl⟩
def t178:TI:={ aU:=.struct [(0,1),(1,1),(2,1),(3,1),(4,1)],size:=5,bytes:=40,zero:=.agg ([I0,I0,I0,I0,I0]:List Value).toArray,zs:=[I0,I0,I0,I0,I0] }
theorem Lu:az Tryz.prog 178 t178:=⟨by kernel_rfl,by kernel_rfl,rfl,rfl⟩
def t49:TI:={ aU:=.struct [(0,1),(1,1)],size:=2,bytes:=32,zero:=.agg ([S0,S0]:List Value).toArray,zs:=[S0,S0] }
theorem Qc:az Tryz.prog 49 t49:=⟨by kernel_rfl,by kernel_rfl,rfl,rfl⟩
def t55:TI:={ aU:=.ptr 58,size:=1,bytes:=8,zero:=.pointer none,zs:=[.pointer none] }
theorem Qd:az Tryz.prog 55 t55:=⟨by kernel_rfl,by kernel_rfl,rfl,rfl⟩
def t136:TI:={ aU:=.ptr 312,size:=1,bytes:=8,zero:=.pointer none,zs:=[.pointer none] }
theorem Lv:az Tryz.prog 136 t136:=⟨by kernel_rfl,by kernel_rfl,rfl,rfl⟩
def t15:TI:={ aU:=.ptr 412,size:=1,bytes:=8,zero:=.pointer none,zs:=[.pointer none] }
theorem Qe:az Tryz.prog 15 t15:=⟨by kernel_rfl,by kernel_rfl,rfl,rfl⟩
def t18:TI:={ aU:=.struct [(0,1)],size:=1,bytes:=8,zero:=.agg ([.pointer none]:List Value).toArray,zs:=[.pointer none] }
theorem Qf:az Tryz.prog 18 t18:=⟨by kernel_rfl,by kernel_rfl,rfl,rfl⟩
def t82:TI:={ aU:=.slice 163,size:=1,bytes:=24,zero:=.slice none 0 0,zs:=[.slice none 0 0] }
theorem Qg:az Tryz.prog 82 t82:=⟨by kernel_rfl,by kernel_rfl,rfl,rfl⟩
def t257:TI:={ aU:=.struct [(0,1),(1,1),(2,1),(3,1)],size:=4,bytes:=32,zero:=.agg ([.pointer none,I0,I0,I0]:List Value).toArray,zs:=[.pointer none,I0,I0,I0] }
theorem Lw:az Tryz.prog 257 t257:=⟨by kernel_rfl,by kernel_rfl,rfl,rfl⟩
def t266:TI:={ aU:=.slice 100,size:=1,bytes:=24,zero:=.slice none 0 0,zs:=[.slice none 0 0] }
theorem Lx:az Tryz.prog 266 t266:=⟨by kernel_rfl,by kernel_rfl,rfl,rfl⟩
def t402:TI:={ aU:=.ptr 306,size:=1,bytes:=8,zero:=.pointer none,zs:=[.pointer none] }
theorem Ly:az Tryz.prog 402 t402:=⟨by kernel_rfl,by kernel_rfl,rfl,rfl⟩
def t176:TI:={ aU:=.struct [(0,1),(1,1),(2,1),(3,12)],size:=15,bytes:=152,zero:=.agg ([.pointer none,.slice none 0 0,.slice none 0 0,I0,I0,I0,I0,I0,I0,I0,I0,I0,I0,I0,I0]:List Value).toArray,zs:=[.pointer none,.slice none 0 0,.slice none 0 0,I0,I0,I0,I0,I0,I0,I0,I0,I0,I0,I0,I0] }
theorem Lz:az Tryz.prog 176 t176:=⟨by kernel_rfl,by kernel_rfl,rfl,rfl⟩
def t236:TI:={ aU:=.int .i64,size:=1,bytes:=8,zero:=I0,zs:=[I0] }
theorem LA:az Tryz.prog 236 t236:=⟨by kernel_rfl,by kernel_rfl,rfl,rfl⟩
def t194:TI:={ aU:=.struct [(0,1),(1,1),(2,1),(3,1),(4,1)],size:=5,bytes:=40,zero:=.agg ([I0,I0,I0,I0,I0]:List Value).toArray,zs:=[I0,I0,I0,I0,I0] }
theorem LC:az Tryz.prog 194 t194:=⟨by kernel_rfl,by kernel_rfl,rfl,rfl⟩
def t373:TI:={ aU:=.ptr 257,size:=1,bytes:=8,zero:=.pointer none,zs:=[.pointer none] }
theorem LD:az Tryz.prog 373 t373:=⟨by kernel_rfl,by kernel_rfl,rfl,rfl⟩
def t37:TI:={ aU:=.slice 34,size:=1,bytes:=24,zero:=.slice none 0 0,zs:=[.slice none 0 0] }
theorem Qh:az Tryz.prog 37 t37:=⟨by kernel_rfl,by kernel_rfl,rfl,rfl⟩
def t247:TI:={ aU:=.other,size:=1,bytes:=8,zero:=.map none,zs:=[.map none] }
theorem LF:az Tryz.prog 247 t247:=⟨by kernel_rfl,by kernel_rfl,rfl,rfl⟩
def t116:TI:={ aU:=.struct [(0,1),(1,1),(2,1),(3,6)],size:=9,bytes:=88,zero:=.agg ([.bool false,.slice none 0 0,I0,I0,I0,I0,I0,I0,I0]:List Value).toArray,zs:=[.bool false,.slice none 0 0,I0,I0,I0,I0,I0,I0,I0] }
theorem LG:az Tryz.prog 116 t116:=⟨by kernel_rfl,by kernel_rfl,rfl,rfl⟩
def t189:TI:={ aU:=.struct [(0,1),(1,1),(2,1)],size:=3,bytes:=40,zero:=.agg ([I0,I0,.slice none 0 0]:List Value).toArray,zs:=[I0,I0,.slice none 0 0] }
theorem LH:az Tryz.prog 189 t189:=⟨by kernel_rfl,by kernel_rfl,rfl,rfl⟩
def t306:TI:={ aU:=.struct [(0,1),(1,1)],size:=2,bytes:=8,zero:=.agg ([.int .i32 0,.int .u32 0]:List Value).toArray,zs:=[.int .i32 0,.int .u32 0] }
theorem LJ:az Tryz.prog 306 t306:=⟨by kernel_rfl,by kernel_rfl,rfl,rfl⟩
def t108:TI:={ aU:=.array 6 3,size:=6,bytes:=48,zero:=.agg ([I0,I0,I0,I0,I0,I0]:List Value).toArray,zs:=[I0,I0,I0,I0,I0,I0] }
theorem LK:az Tryz.prog 108 t108:=⟨by kernel_rfl,by kernel_rfl,rfl,rfl⟩
def t171:TI:={ aU:=.slice 153,size:=1,bytes:=24,zero:=.slice none 0 0,zs:=[.slice none 0 0] }
theorem LL:az Tryz.prog 171 t171:=⟨by kernel_rfl,by kernel_rfl,rfl,rfl⟩
def t117:TI:={ aU:=.other,size:=1,bytes:=8,zero:=.map none,zs:=[.map none] }
theorem LM:az Tryz.prog 117 t117:=⟨by kernel_rfl,by kernel_rfl,rfl,rfl⟩
def t206:TI:={ aU:=.struct [(0,1),(1,29)],size:=30,bytes:=296,zero:=.agg ([I0,I0,I0,I0,I0,I0,I0,I0,I0,S0,S0,I0,I0,S0,I0,I0,I0,I0,I0,I0,I0,S0,S0,I0,I0,.slice none 0 0,I0,I0,I0,I0]:List Value).toArray,zs:=[I0,I0,I0,I0,I0,I0,I0,I0,I0,S0,S0,I0,I0,S0,I0,I0,I0,I0,I0,I0,I0,S0,S0,I0,I0,.slice none 0 0,I0,I0,I0,I0] }
theorem LN:az Tryz.prog 206 t206:=⟨by kernel_rfl,by kernel_rfl,rfl,rfl⟩
def t212:TI:={ aU:=.struct [(0,1)],size:=1,bytes:=24,zero:=.agg ([.slice none 0 0]:List Value).toArray,zs:=[.slice none 0 0] }
theorem LO:az Tryz.prog 212 t212:=⟨by kernel_rfl,by kernel_rfl,rfl,rfl⟩
def t231:TI:={ aU:=.ptr 234,size:=1,bytes:=8,zero:=.pointer none,zs:=[.pointer none] }
theorem LP:az Tryz.prog 231 t231:=⟨by kernel_rfl,by kernel_rfl,rfl,rfl⟩
def t246:TI:={ aU:=.struct [(0,1),(1,1)],size:=2,bytes:=32,zero:=.agg ([.slice none 0 0,.bool false]:List Value).toArray,zs:=[.slice none 0 0,.bool false] }
theorem LQ:az Tryz.prog 246 t246:=⟨by kernel_rfl,by kernel_rfl,rfl,rfl⟩
def t252:TI:={ aU:=.struct [(0,1),(1,1),(2,1)],size:=3,bytes:=40,zero:=.agg ([.slice none 0 0,I0,.bool false]:List Value).toArray,zs:=[.slice none 0 0,I0,.bool false] }
theorem LR:az Tryz.prog 252 t252:=⟨by kernel_rfl,by kernel_rfl,rfl,rfl⟩
def t325:TI:={ aU:=.struct [(0,1),(1,1),(2,1)],size:=3,bytes:=40,zero:=.agg ([.slice none 0 0,I0,I0]:List Value).toArray,zs:=[.slice none 0 0,I0,I0] }
theorem LS:az Tryz.prog 325 t325:=⟨by kernel_rfl,by kernel_rfl,rfl,rfl⟩
def t50:TI:={ aU:=.array 12 49,size:=24,bytes:=384,zero:=.agg ([S0,S0,S0,S0,S0,S0,S0,S0,S0,S0,S0,S0,S0,S0,S0,S0,S0,S0,S0,S0,S0,S0,S0,S0]:List Value).toArray,zs:=[S0,S0,S0,S0,S0,S0,S0,S0,S0,S0,S0,S0,S0,S0,S0,S0,S0,S0,S0,S0,S0,S0,S0,S0] }
theorem Qi:az Tryz.prog 50 t50:=⟨by kernel_rfl,by kernel_rfl,rfl,rfl⟩
def t154:TI:={ aU:=.struct [(0,1),(1,1),(2,4)],size:=6,bytes:=56,zero:=.agg ([I0,I0,I0,S0,I0,I0]:List Value).toArray,zs:=[I0,I0,I0,S0,I0,I0] }
theorem LU:az Tryz.prog 154 t154:=⟨by kernel_rfl,by kernel_rfl,rfl,rfl⟩
def t239:TI:={ aU:=.ptr 319,size:=1,bytes:=8,zero:=.pointer none,zs:=[.pointer none] }
theorem LV:az Tryz.prog 239 t239:=⟨by kernel_rfl,by kernel_rfl,rfl,rfl⟩
def t271:TI:={ aU:=.struct [(0,1),(1,1)],size:=2,bytes:=16,zero:=.agg ([I0,I0]:List Value).toArray,zs:=[I0,I0] }
theorem LW:az Tryz.prog 271 t271:=⟨by kernel_rfl,by kernel_rfl,rfl,rfl⟩
def t361:TI:={ aU:=.struct [(0,1),(1,1)],size:=2,bytes:=24,zero:=.agg ([S0,I0]:List Value).toArray,zs:=[S0,I0] }
theorem LX:az Tryz.prog 361 t361:=⟨by kernel_rfl,by kernel_rfl,rfl,rfl⟩
def t19:TI:={ aU:=.struct [(0,1)],size:=1,bytes:=8,zero:=.agg ([.pointer none]:List Value).toArray,zs:=[.pointer none] }
theorem Qj:az Tryz.prog 19 t19:=⟨by kernel_rfl,by kernel_rfl,rfl,rfl⟩
def t109:TI:={ aU:=.array 6 4,size:=6,bytes:=6,zero:=.agg ([.bool false,.bool false,.bool false,.bool false,.bool false,.bool false]:List Value).toArray,zs:=[.bool false,.bool false,.bool false,.bool false,.bool false,.bool false] }
theorem LY:az Tryz.prog 109 t109:=⟨by kernel_rfl,by kernel_rfl,rfl,rfl⟩
def t186:TI:={ aU:=.struct [(0,1),(1,1),(2,1),(3,12),(15,6)],size:=21,bytes:=168,zero:=.agg ([.pointer none,I0,I0,I0,I0,I0,I0,I0,I0,I0,I0,I0,I0,I0,I0,I0,I0,I0,I0,I0,I0]:List Value).toArray,zs:=[.pointer none,I0,I0,I0,I0,I0,I0,I0,I0,I0,I0,I0,I0,I0,I0,I0,I0,I0,I0,I0,I0] }
theorem LZ:az Tryz.prog 186 t186:=⟨by kernel_rfl,by kernel_rfl,rfl,rfl⟩
def t17:TI:={ aU:=.ptr 422,size:=1,bytes:=8,zero:=.pointer none,zs:=[.pointer none] }
theorem Qk:az Tryz.prog 17 t17:=⟨by kernel_rfl,by kernel_rfl,rfl,rfl⟩
def t43:TI:={ aU:=.array 2 5,size:=2,bytes:=2,zero:=.agg ([.int .u8 0,.int .u8 0]:List Value).toArray,zs:=[.int .u8 0,.int .u8 0] }
theorem Ql:az Tryz.prog 43 t43:=⟨by kernel_rfl,by kernel_rfl,rfl,rfl⟩
def t173:TI:={ aU:=.struct [(0,1),(1,1)],size:=2,bytes:=16,zero:=.agg ([I0,I0]:List Value).toArray,zs:=[I0,I0] }
theorem L0:az Tryz.prog 173 t173:=⟨by kernel_rfl,by kernel_rfl,rfl,rfl⟩
def t304:TI:={ aU:=.struct [(0,0),(0,1)],size:=1,bytes:=4,zero:=.agg ([.int .u32 0]:List Value).toArray,zs:=[.int .u32 0] }
theorem L5:az Tryz.prog 304 t304:=⟨by kernel_rfl,by kernel_rfl,rfl,rfl⟩
def t32:TI:={ aU:=.struct [(0,1),(1,1),(2,1),(3,1),(4,4)],size:=8,bytes:=80,zero:=.agg ([I0,I0,I0,I0,I0,S0,S0,I0]:List Value).toArray,zs:=[I0,I0,I0,I0,I0,S0,S0,I0] }
theorem Qm:az Tryz.prog 32 t32:=⟨by kernel_rfl,by kernel_rfl,rfl,rfl⟩
def t79:TI:={ aU:=.slice 87,size:=1,bytes:=24,zero:=.slice none 0 0,zs:=[.slice none 0 0] }
theorem Qn:az Tryz.prog 79 t79:=⟨by kernel_rfl,by kernel_rfl,rfl,rfl⟩
def t80:TI:={ aU:=.slice 90,size:=1,bytes:=24,zero:=.slice none 0 0,zs:=[.slice none 0 0] }
theorem Qo:az Tryz.prog 80 t80:=⟨by kernel_rfl,by kernel_rfl,rfl,rfl⟩
def t119:TI:={ aU:=.struct [(0,1),(1,1)],size:=2,bytes:=16,zero:=.agg ([I0,.map none]:List Value).toArray,zs:=[I0,.map none] }
theorem L6:az Tryz.prog 119 t119:=⟨by kernel_rfl,by kernel_rfl,rfl,rfl⟩
def t234:TI:={ aU:=.struct [(0,1),(1,1),(2,4),(6,1),(7,1),(8,6)],size:=14,bytes:=136,zero:=.agg ([I0,I0,I0,S0,S0,I0,I0,I0,I0,I0,I0,S0,I0,I0]:List Value).toArray,zs:=[I0,I0,I0,S0,S0,I0,I0,I0,I0,I0,I0,S0,I0,I0] }
theorem L7:az Tryz.prog 234 t234:=⟨by kernel_rfl,by kernel_rfl,rfl,rfl⟩
def t250:TI:={ aU:=.slice 257,size:=1,bytes:=24,zero:=.slice none 0 0,zs:=[.slice none 0 0] }
theorem L8:az Tryz.prog 250 t250:=⟨by kernel_rfl,by kernel_rfl,rfl,rfl⟩
def t399:TI:={ aU:=.struct [(0,1),(1,1)],size:=2,bytes:=2,zero:=.agg ([.int .u8 0,.int .u8 0]:List Value).toArray,zs:=[.int .u8 0,.int .u8 0] }
theorem L9:az Tryz.prog 399 t399:=⟨by kernel_rfl,by kernel_rfl,rfl,rfl⟩
def t177:TI:={ aU:=.struct [(0,1),(1,1),(2,1),(3,1),(4,1)],size:=5,bytes:=40,zero:=.agg ([I0,I0,I0,I0,I0]:List Value).toArray,zs:=[I0,I0,I0,I0,I0] }
theorem L_:az Tryz.prog 177 t177:=⟨by kernel_rfl,by kernel_rfl,rfl,rfl⟩
def t249:TI:={ aU:=.struct [(0,1)],size:=1,bytes:=8,zero:=.agg ([.map none]:List Value).toArray,zs:=[.map none] }
theorem Ma:az Tryz.prog 249 t249:=⟨by kernel_rfl,by kernel_rfl,rfl,rfl⟩
def t110:TI:={ aU:=.struct [(0,1),(1,1),(2,3),(5,6),(11,6)],size:=17,bytes:=112,zero:=.agg ([I0,I0,I0,.slice none 0 0,I0,I0,I0,I0,I0,I0,I0,.bool false,.bool false,.bool false,.bool false,.bool false,.bool false]:List Value).toArray,zs:=[I0,I0,I0,.slice none 0 0,I0,I0,I0,I0,I0,I0,I0,.bool false,.bool false,.bool false,.bool false,.bool false,.bool false] }
theorem Mb:az Tryz.prog 110 t110:=⟨by kernel_rfl,by kernel_rfl,rfl,rfl⟩
def t114:TI:={ aU:=.slice 234,size:=1,bytes:=24,zero:=.slice none 0 0,zs:=[.slice none 0 0] }
theorem Mc:az Tryz.prog 114 t114:=⟨by kernel_rfl,by kernel_rfl,rfl,rfl⟩
def t261:TI:={ aU:=.array 65 5,size:=65,bytes:=65,zero:=.agg ([.int .u8 0,.int .u8 0,.int .u8 0,.int .u8 0,.int .u8 0,.int .u8 0,.int .u8 0,.int .u8 0,.int .u8 0,.int .u8 0,.int .u8 0,.int .u8 0,.int .u8 0,.int .u8 0,.int .u8 0,.int .u8 0,.int .u8 0,.int .u8 0,.int .u8 0,.int .u8 0,.int .u8 0,.int .u8 0,.int .u8 0,.int .u8 0,.int .u8 0,.int .u8 0,.int .u8 0,.int .u8 0,.int .u8 0,.int .u8 0,.int .u8 0,.int .u8 0,.int .u8 0,.int .u8 0,.int .u8 0,.int .u8 0,.int .u8 0,.int .u8 0,.int .u8 0,.int .u8 0,.int .u8 0,.int .u8 0,.int .u8 0,.int .u8 0,.int .u8 0,.int .u8 0,.int .u8 0,.int .u8 0,.int .u8 0,.int .u8 0,.int .u8 0,.int .u8 0,.int .u8 0,.int .u8 0,.int .u8 0,.int .u8 0,.int .u8 0,.int .u8 0,.int .u8 0,.int .u8 0,.int .u8 0,.int .u8 0,.int .u8 0,.int .u8 0,.int .u8 0]:List Value).toArray,zs:=[.int .u8 0,.int .u8 0,.int .u8 0,.int .u8 0,.int .u8 0,.int .u8 0,.int .u8 0,.int .u8 0,.int .u8 0,.int .u8 0,.int .u8 0,.int .u8 0,.int .u8 0,.int .u8 0,.int .u8 0,.int .u8 0,.int .u8 0,.int .u8 0,.int .u8 0,.int .u8 0,.int .u8 0,.int .u8 0,.int .u8 0,.int .u8 0,.int .u8 0,.int .u8 0,.int .u8 0,.int .u8 0,.int .u8 0,.int .u8 0,.int .u8 0,.int .u8 0,.int .u8 0,.int .u8 0,.int .u8 0,.int .u8 0,.int .u8 0,.int .u8 0,.int .u8 0,.int .u8 0,.int .u8 0,.int .u8 0,.int .u8 0,.int .u8 0,.int .u8 0,.int .u8 0,.int .u8 0,.int .u8 0,.int .u8 0,.int .u8 0,.int .u8 0,.int .u8 0,.int .u8 0,.int .u8 0,.int .u8 0,.int .u8 0,.int .u8 0,.int .u8 0,.int .u8 0,.int .u8 0,.int .u8 0,.int .u8 0,.int .u8 0,.int .u8 0,.int .u8 0] }
theorem Md:az Tryz.prog 261 t261:=⟨by kernel_rfl,by kernel_rfl,rfl,rfl⟩
def t310:TI:={ aU:=.struct [(0,0),(0,1),(1,2)],size:=3,bytes:=12,zero:=.agg ([.int .u32 0,.int .i32 0,.int .u32 0]:List Value).toArray,zs:=[.int .u32 0,.int .i32 0,.int .u32 0] }
theorem Me:az Tryz.prog 310 t310:=⟨by kernel_rfl,by kernel_rfl,rfl,rfl⟩
def t358:TI:={ aU:=.ptr 260,size:=1,bytes:=8,zero:=.pointer none,zs:=[.pointer none] }
theorem Mf:az Tryz.prog 358 t358:=⟨by kernel_rfl,by kernel_rfl,rfl,rfl⟩
def t393:TI:={ aU:=.ptr 310,size:=1,bytes:=8,zero:=.pointer none,zs:=[.pointer none] }
theorem Mg:az Tryz.prog 393 t393:=⟨by kernel_rfl,by kernel_rfl,rfl,rfl⟩
def t30:TI:={ aU:=.struct [(0,1),(1,1),(2,1),(3,1)],size:=4,bytes:=48,zero:=.agg ([I0,S0,S0,I0]:List Value).toArray,zs:=[I0,S0,S0,I0] }
theorem Qp:az Tryz.prog 30 t30:=⟨by kernel_rfl,by kernel_rfl,rfl,rfl⟩
def t174:TI:={ aU:=.array 6 173,size:=12,bytes:=96,zero:=.agg ([I0,I0,I0,I0,I0,I0,I0,I0,I0,I0,I0,I0]:List Value).toArray,zs:=[I0,I0,I0,I0,I0,I0,I0,I0,I0,I0,I0,I0] }
theorem Mh:az Tryz.prog 174 t174:=⟨by kernel_rfl,by kernel_rfl,rfl,rfl⟩
def t184:TI:={ aU:=.array 6 183,size:=12,bytes:=96,zero:=.agg ([I0,I0,I0,I0,I0,I0,I0,I0,I0,I0,I0,I0]:List Value).toArray,zs:=[I0,I0,I0,I0,I0,I0,I0,I0,I0,I0,I0,I0] }
theorem Mi:az Tryz.prog 184 t184:=⟨by kernel_rfl,by kernel_rfl,rfl,rfl⟩
def t193:TI:={ aU:=.struct [(0,1),(1,1),(2,1),(3,1),(4,1)],size:=5,bytes:=40,zero:=.agg ([I0,I0,I0,I0,I0]:List Value).toArray,zs:=[I0,I0,I0,I0,I0] }
theorem Mj:az Tryz.prog 193 t193:=⟨by kernel_rfl,by kernel_rfl,rfl,rfl⟩
def t195:TI:={ aU:=.array 24 5,size:=24,bytes:=24,zero:=.agg ([.int .u8 0,.int .u8 0,.int .u8 0,.int .u8 0,.int .u8 0,.int .u8 0,.int .u8 0,.int .u8 0,.int .u8 0,.int .u8 0,.int .u8 0,.int .u8 0,.int .u8 0,.int .u8 0,.int .u8 0,.int .u8 0,.int .u8 0,.int .u8 0,.int .u8 0,.int .u8 0,.int .u8 0,.int .u8 0,.int .u8 0,.int .u8 0]:List Value).toArray,zs:=[.int .u8 0,.int .u8 0,.int .u8 0,.int .u8 0,.int .u8 0,.int .u8 0,.int .u8 0,.int .u8 0,.int .u8 0,.int .u8 0,.int .u8 0,.int .u8 0,.int .u8 0,.int .u8 0,.int .u8 0,.int .u8 0,.int .u8 0,.int .u8 0,.int .u8 0,.int .u8 0,.int .u8 0,.int .u8 0,.int .u8 0,.int .u8 0] }
theorem Mk:az Tryz.prog 195 t195:=⟨by kernel_rfl,by kernel_rfl,rfl,rfl⟩
def t308:TI:={ aU:=.struct [(0,0),(0,2)],size:=2,bytes:=8,zero:=.agg ([.int .i32 0,.int .u32 0]:List Value).toArray,zs:=[.int .i32 0,.int .u32 0] }
theorem Ml:az Tryz.prog 308 t308:=⟨by kernel_rfl,by kernel_rfl,rfl,rfl⟩
def t312:TI:={ aU:=.struct [(0,1),(1,3),(4,1),(5,6)],size:=11,bytes:=80,zero:=.agg ([.bool false,.int .u32 0,.int .i32 0,.int .u32 0,.int .u32 0,I0,I0,I0,S0,I0,I0]:List Value).toArray,zs:=[.bool false,.int .u32 0,.int .i32 0,.int .u32 0,.int .u32 0,I0,I0,I0,S0,I0,I0] }
theorem Mm:az Tryz.prog 312 t312:=⟨by kernel_rfl,by kernel_rfl,rfl,rfl⟩
def t319:TI:={ aU:=.struct [(0,1),(1,1),(2,1)],size:=3,bytes:=48,zero:=.agg ([S0,S0,.nilIface]:List Value).toArray,zs:=[S0,S0,.nilIface] }
theorem Mn:az Tryz.prog 319 t319:=⟨by kernel_rfl,by kernel_rfl,rfl,rfl⟩
def t404:TI:={ aU:=.ptr 21,size:=1,bytes:=8,zero:=.pointer none,zs:=[.pointer none] }
theorem Mo:az Tryz.prog 404 t404:=⟨by kernel_rfl,by kernel_rfl,rfl,rfl⟩
def t93:TI:={ aU:=.ptr 5,size:=1,bytes:=8,zero:=.pointer none,zs:=[.pointer none] }
theorem Qq:az Tryz.prog 93 t93:=⟨by kernel_rfl,by kernel_rfl,rfl,rfl⟩
def t137:TI:={ aU:=.struct [(0,1),(1,1),(2,1),(3,1),(4,1),(5,3),(8,1),(9,1),(10,1),(11,1),(12,1),(13,1),(14,1),(15,1),(16,1),(17,4)],size:=21,bytes:=200,zero:=.agg ([I0,I0,I0,I0,.pointer none,I0,.slice none 0 0,I0,.pointer none,I0,I0,I0,.bool false,I0,I0,I0,I0,I0,S0,S0,I0]:List Value).toArray,zs:=[I0,I0,I0,I0,.pointer none,I0,.slice none 0 0,I0,.pointer none,I0,I0,I0,.bool false,I0,I0,I0,I0,I0,S0,S0,I0] }
theorem Mp:az Tryz.prog 137 t137:=⟨by kernel_rfl,by kernel_rfl,rfl,rfl⟩
def t162:TI:={ aU:=.struct [(0,1),(1,1),(2,1),(3,4)],size:=7,bytes:=72,zero:=.agg ([I0,I0,I0,I0,S0,S0,I0]:List Value).toArray,zs:=[I0,I0,I0,I0,S0,S0,I0] }
theorem Mq:az Tryz.prog 162 t162:=⟨by kernel_rfl,by kernel_rfl,rfl,rfl⟩
def t23:TI:={ aU:=.struct [(0,1),(1,1),(2,1),(3,1),(4,1),(5,1),(6,1),(7,1),(8,1),(9,1),(10,1),(11,1)],size:=12,bytes:=112,zero:=.agg ([I0,I0,I0,.slice none 0 0,I0,I0,I0,I0,I0,I0,I0,I0]:List Value).toArray,zs:=[I0,I0,I0,.slice none 0 0,I0,I0,I0,I0,I0,I0,I0,I0] }
theorem Qr:az Tryz.prog 23 t23:=⟨by kernel_rfl,by kernel_rfl,rfl,rfl⟩
def t57:TI:={ aU:=.struct [(0,1),(1,1)],size:=2,bytes:=32,zero:=.agg ([.pointer none,.slice none 0 0]:List Value).toArray,zs:=[.pointer none,.slice none 0 0] }
theorem Qs:az Tryz.prog 57 t57:=⟨by kernel_rfl,by kernel_rfl,rfl,rfl⟩
def t175:TI:={ aU:=.struct [(0,1),(1,1),(2,1),(3,12)],size:=15,bytes:=152,zero:=.agg ([.pointer none,.slice none 0 0,.slice none 0 0,I0,I0,I0,I0,I0,I0,I0,I0,I0,I0,I0,I0]:List Value).toArray,zs:=[.pointer none,.slice none 0 0,.slice none 0 0,I0,I0,I0,I0,I0,I0,I0,I0,I0,I0,I0,I0] }
theorem Mr:az Tryz.prog 175 t175:=⟨by kernel_rfl,by kernel_rfl,rfl,rfl⟩
def t291:TI:={ aU:=.struct [(0,1)],size:=1,bytes:=8,zero:=.agg ([.pointer none]:List Value).toArray,zs:=[.pointer none] }
theorem Ms:az Tryz.prog 291 t291:=⟨by kernel_rfl,by kernel_rfl,rfl,rfl⟩
def t83:TI:={ aU:=.struct [(0,12),(12,1),(13,1),(14,1),(15,1),(16,1),(17,1),(18,1)],size:=19,bytes:=216,zero:=.agg ([I0,I0,I0,.slice none 0 0,I0,I0,I0,I0,I0,I0,I0,I0,I0,.pointer none,.slice none 0 0,.slice none 0 0,.pointer none,.pointer none,.slice none 0 0]:List Value).toArray,zs:=[I0,I0,I0,.slice none 0 0,I0,I0,I0,I0,I0,I0,I0,I0,I0,.pointer none,.slice none 0 0,.slice none 0 0,.pointer none,.pointer none,.slice none 0 0] }
theorem Qt:az Tryz.prog 83 t83:=⟨by kernel_rfl,by kernel_rfl,rfl,rfl⟩
def t104:TI:={ aU:=.struct [(0,1),(1,1),(2,1)],size:=3,bytes:=40,zero:=.agg ([I0,.slice none 0 0,I0]:List Value).toArray,zs:=[I0,.slice none 0 0,I0] }
theorem Mt:az Tryz.prog 104 t104:=⟨by kernel_rfl,by kernel_rfl,rfl,rfl⟩
def t112:TI:={ aU:=.struct [(0,1),(1,1)],size:=2,bytes:=16,zero:=.agg ([I0,I0]:List Value).toArray,zs:=[I0,I0] }
theorem Mu:az Tryz.prog 112 t112:=⟨by kernel_rfl,by kernel_rfl,rfl,rfl⟩
def t115:TI:={ aU:=.struct [(0,1),(1,1),(2,1),(3,6)],size:=9,bytes:=88,zero:=.agg ([.bool false,.slice none 0 0,I0,I0,I0,I0,I0,I0,I0]:List Value).toArray,zs:=[.bool false,.slice none 0 0,I0,I0,I0,I0,I0,I0,I0] }
theorem Mv:az Tryz.prog 115 t115:=⟨by kernel_rfl,by kernel_rfl,rfl,rfl⟩
def t248:TI:={ aU:=.struct [(0,1)],size:=1,bytes:=8,zero:=.agg ([.map none]:List Value).toArray,zs:=[.map none] }
theorem Mw:az Tryz.prog 248 t248:=⟨by kernel_rfl,by kernel_rfl,rfl,rfl⟩
def t259:TI:={ aU:=.array 20 196,size:=20,bytes:=160,zero:=.agg ([.int .u64 0,.int .u64 0,.int .u64 0,.int .u64 0,.int .u64 0,.int .u64 0,.int .u64 0,.int .u64 0,.int .u64 0,.int .u64 0,.int .u64 0,.int .u64 0,.int .u64 0,.int .u64 0,.int .u64 0,.int .u64 0,.int .u64 0,.int .u64 0,.int .u64 0,.int .u64 0]:List Value).toArray,zs:=[.int .u64 0,.int .u64 0,.int .u64 0,.int .u64 0,.int .u64 0,.int .u64 0,.int .u64 0,.int .u64 0,.int .u64 0,.int .u64 0,.int .u64 0,.int .u64 0,.int .u64 0,.int .u64 0,.int .u64 0,.int .u64 0,.int .u64 0,.int .u64 0,.int .u64 0,.int .u64 0] }
theorem Mx:az Tryz.prog 259 t259:=⟨by kernel_rfl,by kernel_rfl,rfl,rfl⟩
def t118:TI:={ aU:=.struct [(0,1),(1,1)],size:=2,bytes:=16,zero:=.agg ([I0,.map none]:List Value).toArray,zs:=[I0,.map none] }
theorem My:az Tryz.prog 118 t118:=⟨by kernel_rfl,by kernel_rfl,rfl,rfl⟩
def t182:TI:={ aU:=.struct [(0,1),(1,1)],size:=2,bytes:=16,zero:=.agg ([I0,I0]:List Value).toArray,zs:=[I0,I0] }
theorem Mz:az Tryz.prog 182 t182:=⟨by kernel_rfl,by kernel_rfl,rfl,rfl⟩
def t272:TI:={ aU:=.ptr 212,size:=1,bytes:=8,zero:=.pointer none,zs:=[.pointer none] }
theorem MA:az Tryz.prog 272 t272:=⟨by kernel_rfl,by kernel_rfl,rfl,rfl⟩
def t356:TI:={ aU:=.ptr 304,size:=1,bytes:=8,zero:=.pointer none,zs:=[.pointer none] }
theorem MB:az Tryz.prog 356 t356:=⟨by kernel_rfl,by kernel_rfl,rfl,rfl⟩
def t370:TI:={ aU:=.array 32 5,size:=32,bytes:=32,zero:=.agg ([.int .u8 0,.int .u8 0,.int .u8 0,.int .u8 0,.int .u8 0,.int .u8 0,.int .u8 0,.int .u8 0,.int .u8 0,.int .u8 0,.int .u8 0,.int .u8 0,.int .u8 0,.int .u8 0,.int .u8 0,.int .u8 0,.int .u8 0,.int .u8 0,.int .u8 0,.int .u8 0,.int .u8 0,.int .u8 0,.int .u8 0,.int .u8 0,.int .u8 0,.int .u8 0,.int .u8 0,.int .u8 0,.int .u8 0,.int .u8 0,.int .u8 0,.int .u8 0]:List Value).toArray,zs:=[.int .u8 0,.int .u8 0,.int .u8 0,.int .u8 0,.int .u8 0,.int .u8 0,.int .u8 0,.int .u8 0,.int .u8 0,.int .u8 0,.int .u8 0,.int .u8 0,.int .u8 0,.int .u8 0,.int .u8 0,.int .u8 0,.int .u8 0,.int .u8 0,.int .u8 0,.int .u8 0,.int .u8 0,.int .u8 0,.int .u8 0,.int .u8 0,.int .u8 0,.int .u8 0,.int .u8 0,.int .u8 0,.int .u8 0,.int .u8 0,.int .u8 0,.int .u8 0] }
theorem MC:az Tryz.prog 370 t370:=⟨by kernel_rfl,by kernel_rfl,rfl,rfl⟩
def t371:TI:={ aU:=.array 64 5,size:=64,bytes:=64,zero:=.agg ([.int .u8 0,.int .u8 0,.int .u8 0,.int .u8 0,.int .u8 0,.int .u8 0,.int .u8 0,.int .u8 0,.int .u8 0,.int .u8 0,.int .u8 0,.int .u8 0,.int .u8 0,.int .u8 0,.int .u8 0,.int .u8 0,.int .u8 0,.int .u8 0,.int .u8 0,.int .u8 0,.int .u8 0,.int .u8 0,.int .u8 0,.int .u8 0,.int .u8 0,.int .u8 0,.int .u8 0,.int .u8 0,.int .u8 0,.int .u8 0,.int .u8 0,.int .u8 0,.int .u8 0,.int .u8 0,.int .u8 0,.int .u8 0,.int .u8 0,.int .u8 0,.int .u8 0,.int .u8 0,.int .u8 0,.int .u8 0,.int .u8 0,.int .u8 0,.int .u8 0,.int .u8 0,.int .u8 0,.int .u8 0,.int .u8 0,.int .u8 0,.int .u8 0,.int .u8 0,.int .u8 0,.int .u8 0,.int .u8 0,.int .u8 0,.int .u8 0,.int .u8 0,.int .u8 0,.int .u8 0,.int .u8 0,.int .u8 0,.int .u8 0,.int .u8 0]:List Value).toArray,zs:=[.int .u8 0,.int .u8 0,.int .u8 0,.int .u8 0,.int .u8 0,.int .u8 0,.int .u8 0,.int .u8 0,.int .u8 0,.int .u8 0,.int .u8 0,.int .u8 0,.int .u8 0,.int .u8 0,.int .u8 0,.int .u8 0,.int .u8 0,.int .u8 0,.int .u8 0,.int .u8 0,.int .u8 0,.int .u8 0,.int .u8 0,.int .u8 0,.int .u8 0,.int .u8 0,.int .u8 0,.int .u8 0,.int .u8 0,.int .u8 0,.int .u8 0,.int .u8 0,.int .u8 0,.int .u8 0,.int .u8 0,.int .u8 0,.int .u8 0,.int .u8 0,.int .u8 0,.int .u8 0,.int .u8 0,.int .u8 0,.int .u8 0,.int .u8 0,.int .u8 0,.int .u8 0,.int .u8 0,.int .u8 0,.int .u8 0,.int .u8 0,.int .u8 0,.int .u8 0,.int .u8 0,.int .u8 0,.int .u8 0,.int .u8 0,.int .u8 0,.int .u8 0,.int .u8 0,.int .u8 0,.int .u8 0,.int .u8 0,.int .u8 0,.int .u8 0] }
theorem MD:az Tryz.prog 371 t371:=⟨by kernel_rfl,by kernel_rfl,rfl,rfl⟩
def t400:TI:={ aU:=.array 16 399,size:=32,bytes:=32,zero:=.agg ([.int .u8 0,.int .u8 0,.int .u8 0,.int .u8 0,.int .u8 0,.int .u8 0,.int .u8 0,.int .u8 0,.int .u8 0,.int .u8 0,.int .u8 0,.int .u8 0,.int .u8 0,.int .u8 0,.int .u8 0,.int .u8 0,.int .u8 0,.int .u8 0,.int .u8 0,.int .u8 0,.int .u8 0,.int .u8 0,.int .u8 0,.int .u8 0,.int .u8 0,.int .u8 0,.int .u8 0,.int .u8 0,.int .u8 0,.int .u8 0,.int .u8 0,.int .u8 0]:List Value).toArray,zs:=[.int .u8 0,.int .u8 0,.int .u8 0,.int .u8 0,.int .u8 0,.int .u8 0,.int .u8 0,.int .u8 0,.int .u8 0,.int .u8 0,.int .u8 0,.int .u8 0,.int .u8 0,.int .u8 0,.int .u8 0,.int .u8 0,.int .u8 0,.int .u8 0,.int .u8 0,.int .u8 0,.int .u8 0,.int .u8 0,.int .u8 0,.int .u8 0,.int .u8 0,.int .u8 0,.int .u8 0,.int .u8 0,.int .u8 0,.int .u8 0,.int .u8 0,.int .u8 0] }
theorem MF:az Tryz.prog 400 t400:=⟨by kernel_rfl,by kernel_rfl,rfl,rfl⟩
def t401:TI:={ aU:=.ptr 308,size:=1,bytes:=8,zero:=.pointer none,zs:=[.pointer none] }
theorem MG:az Tryz.prog 401 t401:=⟨by kernel_rfl,by kernel_rfl,rfl,rfl⟩
def t124:TI:={ aU:=.struct [(0,1),(1,1),(2,1),(3,1),(4,3),(7,1),(8,1),(9,1),(10,1),(11,1),(12,1),(13,1),(14,1),(15,1),(16,1)],size:=17,bytes:=152,zero:=.agg ([I0,I0,I0,I0,I0,.slice none 0 0,I0,I0,.bool false,.pointer none,.pointer none,.pointer none,.pointer none,I0,I0,.bool false,I0]:List Value).toArray,zs:=[I0,I0,I0,I0,I0,.slice none 0 0,I0,I0,.bool false,.pointer none,.pointer none,.pointer none,.pointer none,I0,I0,.bool false,I0] }
theorem MH:az Tryz.prog 124 t124:=⟨by kernel_rfl,by kernel_rfl,rfl,rfl⟩
def t152:TI:={ aU:=.struct [(0,1),(1,1),(2,1),(3,1)],size:=4,bytes:=40,zero:=.agg ([I0,S0,I0,I0]:List Value).toArray,zs:=[I0,S0,I0,I0] }
theorem MI:az Tryz.prog 152 t152:=⟨by kernel_rfl,by kernel_rfl,rfl,rfl⟩
def t172:TI:={ aU:=.struct [(0,1),(1,1)],size:=2,bytes:=16,zero:=.agg ([I0,I0]:List Value).toArray,zs:=[I0,I0] }
theorem MJ:az Tryz.prog 172 t172:=⟨by kernel_rfl,by kernel_rfl,rfl,rfl⟩
def t203:TI:={ aU:=.struct [(0,1),(1,1),(2,1),(3,1),(4,1),(5,1),(6,1),(7,4),(11,4),(15,1),(16,7),(23,3),(26,1),(27,1),(28,1)],size:=29,bytes:=288,zero:=.agg ([I0,I0,I0,I0,I0,I0,I0,I0,S0,S0,I0,I0,S0,I0,I0,I0,I0,I0,I0,I0,S0,S0,I0,I0,.slice none 0 0,I0,I0,I0,I0]:List Value).toArray,zs:=[I0,I0,I0,I0,I0,I0,I0,I0,S0,S0,I0,I0,S0,I0,I0,I0,I0,I0,I0,I0,S0,S0,I0,I0,.slice none 0 0,I0,I0,I0,I0] }
theorem MK:az Tryz.prog 203 t203:=⟨by kernel_rfl,by kernel_rfl,rfl,rfl⟩
def t205:TI:={ aU:=.struct [(0,1),(1,29)],size:=30,bytes:=296,zero:=.agg ([I0,I0,I0,I0,I0,I0,I0,I0,I0,S0,S0,I0,I0,S0,I0,I0,I0,I0,I0,I0,I0,S0,S0,I0,I0,.slice none 0 0,I0,I0,I0,I0]:List Value).toArray,zs:=[I0,I0,I0,I0,I0,I0,I0,I0,I0,S0,S0,I0,I0,S0,I0,I0,I0,I0,I0,I0,I0,S0,S0,I0,I0,.slice none 0 0,I0,I0,I0,I0] }
theorem ML:az Tryz.prog 205 t205:=⟨by kernel_rfl,by kernel_rfl,rfl,rfl⟩
def t209:TI:={ aU:=.struct [(0,1),(1,1),(2,1)],size:=3,bytes:=32,zero:=.agg ([I0,I0,S0]:List Value).toArray,zs:=[I0,I0,S0] }
theorem MM:az Tryz.prog 209 t209:=⟨by kernel_rfl,by kernel_rfl,rfl,rfl⟩
def t300:TI:={ aU:=.struct [],size:=0,bytes:=0,zero:=.agg ([]:List Value).toArray,zs:=[] }
theorem MN:az Tryz.prog 300 t300:=⟨by kernel_rfl,by kernel_rfl,rfl,rfl⟩
def t309:TI:={ aU:=.struct [(0,0),(0,1),(1,2)],size:=3,bytes:=12,zero:=.agg ([.int .u32 0,.int .i32 0,.int .u32 0]:List Value).toArray,zs:=[.int .u32 0,.int .i32 0,.int .u32 0] }
theorem MO:az Tryz.prog 309 t309:=⟨by kernel_rfl,by kernel_rfl,rfl,rfl⟩
def t398:TI:={ aU:=.struct [(0,1),(1,1)],size:=2,bytes:=2,zero:=.agg ([.int .u8 0,.int .u8 0]:List Value).toArray,zs:=[.int .u8 0,.int .u8 0] }
theorem MP:az Tryz.prog 398 t398:=⟨by kernel_rfl,by kernel_rfl,rfl,rfl⟩
def t185:TI:={ aU:=.struct [(0,1),(1,1),(2,1),(3,12),(15,6)],size:=21,bytes:=168,zero:=.agg ([.pointer none,I0,I0,I0,I0,I0,I0,I0,I0,I0,I0,I0,I0,I0,I0,I0,I0,I0,I0,I0,I0]:List Value).toArray,zs:=[.pointer none,I0,I0,I0,I0,I0,I0,I0,I0,I0,I0,I0,I0,I0,I0,I0,I0,I0,I0,I0,I0] }
theorem MQ:az Tryz.prog 185 t185:=⟨by kernel_rfl,by kernel_rfl,rfl,rfl⟩
def t188:TI:={ aU:=.struct [(0,1),(1,1),(2,1)],size:=3,bytes:=40,zero:=.agg ([I0,I0,.slice none 0 0]:List Value).toArray,zs:=[I0,I0,.slice none 0 0] }
theorem MR:az Tryz.prog 188 t188:=⟨by kernel_rfl,by kernel_rfl,rfl,rfl⟩
def t211:TI:={ aU:=.struct [(0,1)],size:=1,bytes:=24,zero:=.agg ([.slice none 0 0]:List Value).toArray,zs:=[.slice none 0 0] }
theorem MS:az Tryz.prog 211 t211:=⟨by kernel_rfl,by kernel_rfl,rfl,rfl⟩
def t215:TI:={ aU:=.struct [(0,1),(1,29),(30,4)],size:=34,bytes:=336,zero:=.agg ([I0,I0,I0,I0,I0,I0,I0,I0,I0,S0,S0,I0,I0,S0,I0,I0,I0,I0,I0,I0,I0,S0,S0,I0,I0,.slice none 0 0,I0,I0,I0,I0,I0,S0,I0,I0]:List Value).toArray,zs:=[I0,I0,I0,I0,I0,I0,I0,I0,I0,S0,S0,I0,I0,S0,I0,I0,I0,I0,I0,I0,I0,S0,S0,I0,I0,.slice none 0 0,I0,I0,I0,I0,I0,S0,I0,I0] }
theorem MT:az Tryz.prog 215 t215:=⟨by kernel_rfl,by kernel_rfl,rfl,rfl⟩
def t233:TI:={ aU:=.struct [(0,1),(1,1),(2,4),(6,1),(7,1),(8,6)],size:=14,bytes:=136,zero:=.agg ([I0,I0,I0,S0,S0,I0,I0,I0,I0,I0,I0,S0,I0,I0]:List Value).toArray,zs:=[I0,I0,I0,S0,S0,I0,I0,I0,I0,I0,I0,S0,I0,I0] }
theorem MU:az Tryz.prog 233 t233:=⟨by kernel_rfl,by kernel_rfl,rfl,rfl⟩
def t245:TI:={ aU:=.struct [(0,1),(1,1)],size:=2,bytes:=32,zero:=.agg ([.slice none 0 0,.bool false]:List Value).toArray,zs:=[.slice none 0 0,.bool false] }
theorem MV:az Tryz.prog 245 t245:=⟨by kernel_rfl,by kernel_rfl,rfl,rfl⟩
def t251:TI:={ aU:=.struct [(0,1),(1,1),(2,1)],size:=3,bytes:=40,zero:=.agg ([.slice none 0 0,I0,.bool false]:List Value).toArray,zs:=[.slice none 0 0,I0,.bool false] }
theorem MW:az Tryz.prog 251 t251:=⟨by kernel_rfl,by kernel_rfl,rfl,rfl⟩
def t256:TI:={ aU:=.struct [(0,1),(1,1),(2,1),(3,1)],size:=4,bytes:=32,zero:=.agg ([.pointer none,I0,I0,I0]:List Value).toArray,zs:=[.pointer none,I0,I0,I0] }
theorem MX:az Tryz.prog 256 t256:=⟨by kernel_rfl,by kernel_rfl,rfl,rfl⟩
def t270:TI:={ aU:=.struct [(0,1),(1,1)],size:=2,bytes:=16,zero:=.agg ([I0,I0]:List Value).toArray,zs:=[I0,I0] }
theorem MY:az Tryz.prog 270 t270:=⟨by kernel_rfl,by kernel_rfl,rfl,rfl⟩
def t290:TI:={ aU:=.struct [(0,1)],size:=1,bytes:=8,zero:=.agg ([.pointer none]:List Value).toArray,zs:=[.pointer none] }
theorem MZ:az Tryz.prog 290 t290:=⟨by kernel_rfl,by kernel_rfl,rfl,rfl⟩
def t305:TI:={ aU:=.struct [(0,1),(1,1)],size:=2,bytes:=8,zero:=.agg ([.int .i32 0,.int .u32 0]:List Value).toArray,zs:=[.int .i32 0,.int .u32 0] }
theorem M0:az Tryz.prog 305 t305:=⟨by kernel_rfl,by kernel_rfl,rfl,rfl⟩
def t318:TI:={ aU:=.struct [(0,1),(1,1),(2,1)],size:=3,bytes:=48,zero:=.agg ([S0,S0,.nilIface]:List Value).toArray,zs:=[S0,S0,.nilIface] }
theorem M3:az Tryz.prog 318 t318:=⟨by kernel_rfl,by kernel_rfl,rfl,rfl⟩
def t324:TI:={ aU:=.struct [(0,1),(1,1),(2,1)],size:=3,bytes:=40,zero:=.agg ([.slice none 0 0,I0,I0]:List Value).toArray,zs:=[.slice none 0 0,I0,I0] }
theorem M4:az Tryz.prog 324 t324:=⟨by kernel_rfl,by kernel_rfl,rfl,rfl⟩
def t366:TI:={ aU:=.ptr 368,size:=1,bytes:=8,zero:=.pointer none,zs:=[.pointer none] }
theorem M5:az Tryz.prog 366 t366:=⟨by kernel_rfl,by kernel_rfl,rfl,rfl⟩
def t301:TI:={ aU:=.struct [],size:=0,bytes:=0,zero:=.agg ([]:List Value).toArray,zs:=[] }
theorem M6:az Tryz.prog 301 t301:=⟨by kernel_rfl,by kernel_rfl,rfl,rfl⟩
def t302:TI:={ aU:=.struct [],size:=0,bytes:=0,zero:=.agg ([]:List Value).toArray,zs:=[] }
theorem M7:az Tryz.prog 302 t302:=⟨by kernel_rfl,by kernel_rfl,rfl,rfl⟩
def t303:TI:={ aU:=.struct [(0,0),(0,1)],size:=1,bytes:=4,zero:=.agg ([.int .u32 0]:List Value).toArray,zs:=[.int .u32 0] }
theorem M8:az Tryz.prog 303 t303:=⟨by kernel_rfl,by kernel_rfl,rfl,rfl⟩
def t307:TI:={ aU:=.struct [(0,0),(0,2)],size:=2,bytes:=8,zero:=.agg ([.int .i32 0,.int .u32 0]:List Value).toArray,zs:=[.int .i32 0,.int .u32 0] }
theorem M9:az Tryz.prog 307 t307:=⟨by kernel_rfl,by kernel_rfl,rfl,rfl⟩
def t311:TI:={ aU:=.struct [(0,1),(1,3),(4,1),(5,6)],size:=11,bytes:=80,zero:=.agg ([.bool false,.int .u32 0,.int .i32 0,.int .u32 0,.int .u32 0,I0,I0,I0,S0,I0,I0]:List Value).toArray,zs:=[.bool false,.int .u32 0,.int .i32 0,.int .u32 0,.int .u32 0,I0,I0,I0,S0,I0,I0] }
theorem M_:az Tryz.prog 311 t311:=⟨by kernel_rfl,by kernel_rfl,rfl,rfl⟩
def t368:TI:={ aU:=.struct [(0,1)],size:=1,bytes:=16,zero:=.agg ([S0]:List Value).toArray,zs:=[S0] }
theorem Na:az Tryz.prog 368 t368:=⟨by kernel_rfl,by kernel_rfl,rfl,rfl⟩
def t412:TI:={ aU:=.struct [(0,1),(1,1),(2,1),(3,1)],size:=4,bytes:=40,zero:=.agg ([.pointer none,.pointer none,.pointer none,S0]:List Value).toArray,zs:=[.pointer none,.pointer none,.pointer none,S0] }
theorem Nb:az Tryz.prog 412 t412:=⟨by kernel_rfl,by kernel_rfl,rfl,rfl⟩
def t415:TI:={ aU:=.struct [(0,0)],size:=0,bytes:=0,zero:=.agg ([]:List Value).toArray,zs:=[] }
theorem Nc:az Tryz.prog 415 t415:=⟨by kernel_rfl,by kernel_rfl,rfl,rfl⟩
def t417:TI:={ aU:=.int .u8,size:=1,bytes:=1,zero:=.int .u8 0,zs:=[.int .u8 0] }
theorem Nd:az Tryz.prog 417 t417:=⟨by kernel_rfl,by kernel_rfl,rfl,rfl⟩
def t420:TI:={ aU:=.int .i32,size:=1,bytes:=4,zero:=.int .i32 0,zs:=[.int .i32 0] }
theorem Nf:az Tryz.prog 420 t420:=⟨by kernel_rfl,by kernel_rfl,rfl,rfl⟩
def t360:TI:={ aU:=.struct [(0,1),(1,1)],size:=2,bytes:=24,zero:=.agg ([S0,I0]:List Value).toArray,zs:=[S0,I0] }
theorem Ng:az Tryz.prog 360 t360:=⟨by kernel_rfl,by kernel_rfl,rfl,rfl⟩
def t367:TI:={ aU:=.struct [(0,1)],size:=1,bytes:=16,zero:=.agg ([S0]:List Value).toArray,zs:=[S0] }
theorem Nh:az Tryz.prog 367 t367:=⟨by kernel_rfl,by kernel_rfl,rfl,rfl⟩
def t411:TI:={ aU:=.struct [(0,1),(1,1),(2,1),(3,1)],size:=4,bytes:=40,zero:=.agg ([.pointer none,.pointer none,.pointer none,S0]:List Value).toArray,zs:=[.pointer none,.pointer none,.pointer none,S0] }
theorem Ni:az Tryz.prog 411 t411:=⟨by kernel_rfl,by kernel_rfl,rfl,rfl⟩
def t413:TI:={ aU:=.array 0 16,size:=0,bytes:=0,zero:=.agg ([]:List Value).toArray,zs:=[] }
theorem Nj:az Tryz.prog 413 t413:=⟨by kernel_rfl,by kernel_rfl,rfl,rfl⟩
def t414:TI:={ aU:=.struct [(0,0)],size:=0,bytes:=0,zero:=.agg ([]:List Value).toArray,zs:=[] }
theorem Nk:az Tryz.prog 414 t414:=⟨by kernel_rfl,by kernel_rfl,rfl,rfl⟩
def t416:TI:={ aU:=.int .u8,size:=1,bytes:=1,zero:=.int .u8 0,zs:=[.int .u8 0] }
theorem Nl:az Tryz.prog 416 t416:=⟨by kernel_rfl,by kernel_rfl,rfl,rfl⟩
def t419:TI:={ aU:=.int .i32,size:=1,bytes:=4,zero:=.int .i32 0,zs:=[.int .i32 0] }
theorem Nn:az Tryz.prog 419 t419:=⟨by kernel_rfl,by kernel_rfl,rfl,rfl⟩
def tab:DB:=[(3,t3),(4,t4),(2,t2),(9,t9),(5,t5),(34,t34),(204,t204),(87,t87),(6,t6),(105,t105),(24,t24),(21,t21),(7,t7),(8,t8),(196,t196),(260,t260),(33,t33),(31,t31),(90,t90),(121,t121),(52,t52),(125,t125),(10,t10),(74,t74),(153,t153),(120,t120),(163,t163),(103,t103),(11,t11),(25,t25),(147,t147),(100,t100),(122,t122),(12,t12),(56,t56),(22,t22),(253,t253),(58,t58),(99,t99),(179,t179),(113,t113),(138,t138),(243,t243),(84,t84),(16,t16),(123,t123),(14,t14),(81,t81),(111,t111),(268,t268),(210,t210),(77,t77),(169,t169),(277,t277),(242,t242),(135,t135),(187,t187),(155,t155),(216,t216),(13,t13),(183,t183),(178,t178),(49,t49),(55,t55),(136,t136),(15,t15),(18,t18),(82,t82),(257,t257),(266,t266),(402,t402),(176,t176),(236,t236),(194,t194),(373,t373),(37,t37),(247,t247),(116,t116),(189,t189),(306,t306),(108,t108),(171,t171),(117,t117),(206,t206),(212,t212),(231,t231),(246,t246),(252,t252),(325,t325),(50,t50),(154,t154),(239,t239),(271,t271),(361,t361),(19,t19),(109,t109),(186,t186),(17,t17),(43,t43),(173,t173),(304,t304),(32,t32),(79,t79),(80,t80),(119,t119),(234,t234),(250,t250),(399,t399),(177,t177),(249,t249),(110,t110),(114,t114),(261,t261),(310,t310),(358,t358),(393,t393),(30,t30),(174,t174),(184,t184),(193,t193),(195,t195),(308,t308),(312,t312),(319,t319),(404,t404),(93,t93),(137,t137),(162,t162),(23,t23),(57,t57),(175,t175),(291,t291),(83,t83),(104,t104),(112,t112),(115,t115),(248,t248),(259,t259),(118,t118),(182,t182),(272,t272),(356,t356),(370,t370),(371,t371),(400,t400),(401,t401),(124,t124),(152,t152),(172,t172),(203,t203),(205,t205),(209,t209),(300,t300),(309,t309),(398,t398),(185,t185),(188,t188),(211,t211),(215,t215),(233,t233),(245,t245),(251,t251),(256,t256),(270,t270),(290,t290),(305,t305),(318,t318),(324,t324),(366,t366),(301,t301),(302,t302),(303,t303),(307,t307),(311,t311),(368,t368),(412,t412),(415,t415),(417,t417),(420,t420),(360,t360),(367,t367),(411,t411),(413,t413),(414,t414),(416,t416),(419,t419)]
theorem ah:nM Tryz.prog tab:=by
 intro p hp
 have key:∀(l:DB),(∀p∈l,az Tryz.prog p.1 p.2)→∀k ti,az Tryz.prog k ti→∀p∈(k,ti)::l,az Tryz.prog p.1 p.2:=fun l h k ti h1 p hp=>by
  rcases ZV.1 hp with rfl | hp
  ·exact h1
  ·exact h p hp
 exact key _ (key _ (key _ (key _ (key _ (key _ (key _ (key _ (key _ (key _ (key _ (key _ (key _ (key _ (key _ (key _ (key _ (key _ (key _ (key _ (key _ (key _ (key _ (key _ (key _ (key _ (key _ (key _ (key _ (key _ (key _ (key _ (key _ (key _ (key _ (key _ (key _ (key _ (key _ (key _ (key _ (key _ (key _ (key _ (key _ (key _ (key _ (key _ (key _ (key _ (key _ (key _ (key _ (key _ (key _ (key _ (key _ (key _ (key _ (key _ (key _ (key _ (key _ (key _ (key _ (key _ (key _ (key _ (key _ (key _ (key _ (key _ (key _ (key _ (key _ (key _ (key _ (key _ (key _ (key _ (key _ (key _ (key _ (key _ (key _ (key _ (key _ (key _ (key _ (key _ (key _ (key _ (key _ (key _ (key _ (key _ (key _ (key _ (key _ (key _ (key _ (key _ (key _ (key _ (key _ (key _ (key _ (key _ (key _ (key _ (key _ (key _ (key _ (key _ (key _ (key _ (key _ (key _ (key _ (key _ (key _ (key _ (key _ (key _ (key _ (key _ (key _ (key _ (key _ (key _ (key _ (key _ (key _ (key _ (key _ (key _ (key _ (key _ (key _ (key _ (key _ (key _ (key _ (key _ (key _ (key _ (key _ (key _ (key _ (key _ (key _ (key _ (key _ (key _ (key _ (key _ (key _ (key _ (key _ (key _ (key _ (key _ (key _ (key _ (key _ (key _ (key _ (key _ (key _ (key _ (key _ (key _ (key _ (key _ (key _ (key _ (key _ (key _ (key _ (key _ (key _ (key _ (key _ (key _ (key _ (key _ (fun p h=>by cases h) _ _ Nn) _ _ Nl) _ _ Nk) _ _ Nj) _ _ Ni) _ _ Nh) _ _ Ng) _ _ Nf) _ _ Nd) _ _ Nc) _ _ Nb) _ _ Na) _ _ M_) _ _ M9) _ _ M8) _ _ M7) _ _ M6) _ _ M5) _ _ M4) _ _ M3) _ _ M0) _ _ MZ) _ _ MY) _ _ MX) _ _ MW) _ _ MV) _ _ MU) _ _ MT) _ _ MS) _ _ MR) _ _ MQ) _ _ MP) _ _ MO) _ _ MN) _ _ MM) _ _ ML) _ _ MK) _ _ MJ) _ _ MI) _ _ MH) _ _ MG) _ _ MF) _ _ MD) _ _ MC) _ _ MB) _ _ MA) _ _ Mz) _ _ My) _ _ Mx) _ _ Mw) _ _ Mv) _ _ Mu) _ _ Mt) _ _ Qt) _ _ Ms) _ _ Mr) _ _ Qs) _ _ Qr) _ _ Mq) _ _ Mp) _ _ Qq) _ _ Mo) _ _ Mn) _ _ Mm) _ _ Ml) _ _ Mk) _ _ Mj) _ _ Mi) _ _ Mh) _ _ Qp) _ _ Mg) _ _ Mf) _ _ Me) _ _ Md) _ _ Mc) _ _ Mb) _ _ Ma) _ _ L_) _ _ L9) _ _ L8) _ _ L7) _ _ L6) _ _ Qo) _ _ Qn) _ _ Qm) _ _ L5) _ _ L0) _ _ Ql) _ _ Qk) _ _ LZ) _ _ LY) _ _ Qj) _ _ LX) _ _ LW) _ _ LV) _ _ LU) _ _ Qi) _ _ LS) _ _ LR) _ _ LQ) _ _ LP) _ _ LO) _ _ LN) _ _ LM) _ _ LL) _ _ LK) _ _ LJ) _ _ LH) _ _ LG) _ _ LF) _ _ Qh) _ _ LD) _ _ LC) _ _ LA) _ _ Lz) _ _ Ly) _ _ Lx) _ _ Lw) _ _ Qg) _ _ Qf) _ _ Qe) _ _ Lv) _ _ Qd) _ _ Qc) _ _ Lu) _ _ Lt) _ _ Qb) _ _ Lq) _ _ Lp) _ _ Lo) _ _ Ln) _ _ Lm) _ _ Ll) _ _ Lk) _ _ Qa) _ _ Lj) _ _ Li) _ _ Lh) _ _ P') _ _ P_) _ _ Lf) _ _ P9) _ _ P8) _ _ Le) _ _ Ld) _ _ Lb) _ _ La) _ _ P7) _ _ P6) _ _ K_) _ _ P5) _ _ P4) _ _ P3) _ _ K9) _ _ K8) _ _ K7) _ _ P2) _ _ P1) _ _ K6) _ _ K5) _ _ K4) _ _ K3) _ _ P0) _ _ PZ) _ _ K2) _ _ PY) _ _ K1) _ _ PX) _ _ PW) _ _ PV) _ _ K0) _ _ KZ) _ _ Sy) _ _ Sx) _ _ PU) _ _ PT) _ _ KY) _ _ Sw) _ _ PS) _ _ KX) _ _ PR) _ _ Sv) _ _ Su) _ _ Ss) _ _ Sr) _ _ Sq p hp
end T
namespace Api
open Go Vg T
attribute [local irreducible] VO VC VA
structure fe where
 kind:Int
 key:ByteArray
 value:ByteArray
 version:Int
def fe.cells(o:fe):List Value:=[.int .i64 o.kind,.string o.key,.string o.value,.int .i64 o.version]
def nQ(o:fe):Bool:=
 decide (o.kind<1)||decide (4<o.kind)||decide (o.key.size=0)||decide (o.version<0)||decide (4096<o.version)||(decide (o.version≠0)&&decide (o.kind≠4)) ||
  (decide (o.value.size≠0) && !(decide (o.kind=2)||decide (o.kind=4)))
def lH(o:fe):Bool:=decide (16<o.key.size)||decide (64<o.value.size)
def a6(o:fe):Int:=if nQ o then 2 else if lH o then 3 else 0
def cR(o:fe):Int:=if a6 o=0 then 16+o.key.size+o.value.size else 0
theorem ow(s:ByteArray):s.toList.length=s.size:=by rw[ByteArray.toList_eq];simp
theorem xC(s:ByteArray)(t:ByteArray)(ht:t.size=0):(s.toList == t.toList)=decide (s.size=0):=by
 have h2:t.toList=[]:=List.eq_nil_of_length_eq_zero (by rw[ow];exact ht)
 rw[h2]
 by_cases h:s.size=0
 ·have h1:s.toList=[]:=List.eq_nil_of_length_eq_zero (by rw[ow];exact h)
  rw[h1];simp[h]
 ·have h1:s.toList≠[]:=fun e=>h (by rw[←ow,e];rfl)
  simp[h]
  exact h1
theorem k_(k:Int):aH Tryz.prog 220 [.int .i64 k] Fr w [] (fun v L=>v=.bool (decide (k=2)||decide (k=4))∧L=[]):=by
 refine TF 9 Tryz.func220 Z yn ah Z Z ?_
 refine CS (CG (VG (VN (CS (CG (VG (VO.split 5 Z Z (fun h=>VG (VN (CR ?_))) (fun h=>VG (VN (CR ?_))))))))))
 ·exact ay.bool 2 Z Z (by have:=eq_of_beq h;simp[this]) ER ⟨rfl,Z⟩
 ·exact ay.bool 2 rfl rfl (by have h:=ne_of_beq_false h;by_cases h4:k=4<;>simp[h,h4]) ER ⟨rfl,rfl⟩
theorem bm(o:fe):aH Tryz.prog 148 [.agg o.cells.toArray] Fr w [] (fun v L=>v=.int .i64 (a6 o)∧L=[]):=by
 refine TF 49 Tryz.func148 Z yn ah Z Z ?_
 refine CS (CG (VG (VB (vs:=o.cells) Z (fun b=>VG (VN ?_)))))
 refine CS (VC.block ?_)
 refine VC.meet (σ:=Bool) (fun s=>[(1,pV b),(3,.bool s)]) (fun _=>[pt b o.cells 31]) (fun s=>s=nQ o) ?_ ?_
 ·have K:=xC o.key (ByteArray.mk #[]) rfl
  have V:=xC o.value (ByteArray.mk #[]) rfl
  refine CS (CG (VG (VO.ld 0 Z Z Z Z (VG (VO.split 7 Z Z (fun h1=>VG (VN ?_)) (fun h1=>VG (VO.ld 0 Z Z Z Z (VG (VN ?_)))))))))
  ·refine VC.kr Z (CK ⟨true,?_,ba,ER⟩)
   simp[nQ,h1]
  have h1:=of_decide_eq_false h1
  refine CP Z (fun h2=>CK ⟨_,?_,SC Z (SC Z (SN _)),ER⟩) (fun h2=>?_)
  ·simp[nQ,h2]
  refine CS (CG (VG (VO.ld 0 Z Z Z Z (VG (VN ?_)))))
  refine CC (t:=decide (o.key.size=0)) (congrArg (fun x=>some (Value.bool x)) K) (fun h3=>CK ⟨_,?_,SC Z (SC Z (SN _)),ER⟩) (fun h3=>?_)
  ·rw[K];have h3:=of_decide_eq_true h3;simp[nQ,h3]
  have h3:=of_decide_eq_false h3
  refine CS (CG (VG (VO.ld 0 Z Z Z Z (VG (VO.split 18 Z Z (fun h4=>VG (VN ?_)) (fun h4=>VG (VO.ld 0 Z Z Z Z (VG (VN ?_)))))))))
  ·refine VC.kr Z (CK ⟨true,?_,ba,ER⟩)
   simp[nQ,h4]
  have h4:=of_decide_eq_false h4
  refine CP Z (fun h5=>CK ⟨_,?_,SC Z (SC Z (SN _)),ER⟩) (fun h5=>?_)
  ·simp[nQ,h5]
  refine CS (CG (VG (VO.ld 0 Z Z Z Z (VG (VO.split 26 Z Z (fun h6=>VG (VO.ld 0 Z Z Z Z (VG (VN ?_)))) (fun h6=>VG (VN ?_)))))))
  ·have h6:o.version≠0:=by simpa using h6
   refine VC.bo Z (fun h7=>CK ⟨_,?_,SC Z (SC Z (SN _)),ER⟩) (fun h7=>?_)
   ·simp[nQ,h6,h7]
   have V2:(!(o.value.toList == (ByteArray.mk #[]).toList))=decide (o.value.size≠0):=by rw[V];simp
   refine an ?_
   refine VG (VO.split 34 (b:=decide (o.value.size≠0)) (congrArg (fun x=>some (Value.bool x)) V2) Z (fun h8=>?_) (fun h8=>?_))
   ·have h8:=of_decide_eq_true h8
    refine an ?_
    refine VG (VO.ik (fun Fr w=>k_ Fr w o.kind) Z (VG (VN ⟨_,?_,SC Z (SC Z (SN _)),ER⟩)))
    simp[nQ,h1,h2,h3,h4,h5,h6,h7,h8]
   ·have h8:=of_decide_eq_false h8
    refine an ?_
    refine⟨_,?_,SC Z (SC Z (SN _)),ER⟩
    simp[nQ,h1,h2,h3,h4,h5,h6,h7,h8]
  ·have h6:o.version=0:=by simpa using h6
   have h7:True:=trivial
   have V2:(!(o.value.toList == (ByteArray.mk #[]).toList))=decide (o.value.size≠0):=by rw[V];simp
   refine KL ?_
   refine VG (VO.split 34 (b:=decide (o.value.size≠0)) (congrArg (fun x=>some (Value.bool x)) V2) Z (fun h8=>?_) (fun h8=>?_))
   ·have h8:=of_decide_eq_true h8
    refine an ?_
    refine VG (VO.ik (fun Fr w=>k_ Fr w o.kind) Z (VG (VN ⟨_,?_,SC Z (SC Z (SN _)),ER⟩)))
    simp[nQ,h1,h2,h3,h4,h5,h6,h7,h8]
   ·have h8:=of_decide_eq_false h8
    refine an ?_
    refine⟨_,?_,SC Z (SC Z (SN _)),ER⟩
    simp[nQ,h1,h2,h3,h4,h5,h6,h7,h8]
 intro s hs
 subst hs
 refine CC Z (fun h1=>?_) (fun h1=>?_)
 ·refine an ?_
  exact CR (ay.int 2 Z Z (by simp[a6,h1]) ae.nil.ar ⟨rfl,Z⟩)
 ·refine an ?_
  refine CP Z (fun h2=>CK (CP Z (fun _=>?_) (fun h=>absurd h2 h))) (fun h2=>?_)
  ·have h2:16<(o.key.size:Int):=h2
   refine an ?_
   exact CR (ay.int 2 Z Z yo ae.nil.ar ⟨rfl,Z⟩)
  ·have h2:¬16<(o.key.size:Int):=h2
   refine an ?_
   refine CP Z (fun h3=>?_) (fun h3=>?_)
   ·have h3:64<(o.value.size:Int):=h3
    refine an ?_
    exact CR (ay.int 2 Z Z yo ae.nil.ar ⟨rfl,Z⟩)
   ·have h3:¬64<(o.value.size:Int):=h3
    refine RH ?_
    refine CR (ay.int 2 Z Z ?_ ae.nil.ar ⟨rfl,Z⟩)
    have e:lH o=false:=by simp[lH];omega
    simp[a6,e,h1]
theorem Gq(o:fe):aH Tryz.prog 278 [.agg o.cells.toArray] Fr w [] (fun v L=>v=.int .i64 (cR o)∧L=[]):=by
 refine TF 14 Tryz.func278 Z yn ah Z Z ?_
 refine CS (CG (VG (VB (vs:=o.cells) Z (fun b=>VG (VN ?_)))))
 refine CS (CS (CG (VG (VL 0 o.cells Z Z Z Z (VG (VO.ik (fun Fr w=>bm Fr w o) Z (VG (VN ?_))))))))
 refine VC.bo Z (fun h1=>?_) (fun h1=>?_)
 ·refine an ?_
  exact CR (ay.int 2 Z Z (by simp[cR,h1]) ae.nil.ar ⟨rfl,Z⟩)
 ·refine CK ?_
  have hl:lH o=false:=by
   unfold a6 at h1;split at h1
   ·omega
   ·split at h1
    ·omega
    ·rename_i h;simpa using h
  have hk:o.key.size≤16∧o.value.size≤64:=by simp[lH] at hl;omega
  refine an ?_
  refine VG (VP Z Z ?_ ?_ ?_)
  ·omega
  ·omega
  refine an ?_
  refine VG (VP Z Z ?_ ?_ ?_)
  ·omega
  ·omega
  refine an ?_
  exact CR (ay.int 2 Z Z (by simp[cR,h1]) ae.nil.ar ⟨rfl,Z⟩)
end Api
namespace Api
open Go Vg T
structure jI where
 code:Int
 value:ByteArray
 version:Int
 at_:Int
structure aY where
 index:Int
 aj:Int
 seq:Int
 op:fe
structure aa where
 kind:Int
 al:Int
 aj:Int
 seq:Int
 ct:Int
 cls:Int
 deadline:Int
 op:fe
 res:jI
 reason:Int
 entry:aY
 bV:Int
 drain:Int
 index:Int
 tr:Int
 cL:Int
abbrev bI:=Int×Int
def ax(m:bI):List Value:=[.int .i64 m.1,.int .i64 m.2]
theorem aF(m:bI):(ax m).length=2:=rfl
theorem kB(m:bI):(ax m).all Value.oneCell'=true:=rfl
abbrev aG:TypeId:=113
abbrev kQ:=Option Addr×Nat×Nat
abbrev Ik:=kQ
def aa.cells(f:aa)(m:Ik):List Value:=
  [.int .i64 f.kind,.int .i64 f.al,.int .i64 f.aj,.int .i64 f.seq,.int .i64 f.ct,.int .i64 f.cls,.int .i64 f.deadline,
   .int .i64 f.op.kind,.string f.op.key,.string f.op.value,.int .i64 f.op.version,
   .int .i64 f.res.code,.string f.res.value,.int .i64 f.res.version,.int .i64 f.res.at_,.int .i64 f.reason,
   .int .i64 f.entry.index,.int .i64 f.entry.aj,.int .i64 f.entry.seq,.int .i64 f.entry.op.kind,.string f.entry.op.key,.string f.entry.op.value,.int .i64 f.entry.op.version,
   .int .i64 f.bV,.slice m.1 m.2.1 m.2.2,.int .i64 f.drain,.int .i64 f.index,.int .i64 f.tr,.int .i64 f.cL]
abbrev FM:=aa×Ik
def cG(p:FM):List Value:=p.1.cells p.2
theorem mW(p:FM):(cG p).length=29:=rfl
def Gr:fe:=⟨0,⟨#[]⟩,⟨#[]⟩,0⟩
def aa.zero:aa:=⟨0,0,0,0,0,0,0,Gr,⟨0,⟨#[]⟩,0,0⟩,0,⟨0,0,0,Gr⟩,0,0,0,0,0⟩
def oe:FM:=(aa.zero,none,0,0)
theorem ae.tl{H:HP}{L:List HP}:ae (H::L) L:=ae.app (L:=[H]) (M:=[]) ae.nil ae.refl
def wN(m:kQ):HP:=hex fun ms:List bI=>cU [gu (ms.length=m.2.1∧ms.length≤1000000),aI aG 2 m.1 m.2.1 m.2.2 (flat ax ms)]
def Dw(Fr:Nat→Prop)(w:World)(m:kQ):Prop:=∃ms:List bI,ms.length=m.2.1∧ms.length≤1000000∧aK ax 2 Fr w m.1 ms
theorem Dw.of{X:Cx}{m:kQ}(h:Dw X.Fr X.w0 m){Fr':Nat→Prop}(hF:∀b,X.Fr b→Fr' b){w:World}{L:List HP}(hw:St X L w):Dw Fr' w m:=by
 obtain⟨ms,h1,h2,h3⟩:=h
 exact⟨ms,h1,h2,aK.of h3 hF hw⟩
theorem Dw.sat{Fr:Nat→Prop}{w:World}{m:kQ}(h:aM Fr [wN m] w):Dw Fr w m:=by
 obtain⟨ms,h⟩:=h.ex
 have h:=h.sep
 have hp:=h.pure 0 rfl
 have h1:=h.at_ 1 rfl
 obtain⟨a,n,c⟩:=m
 dsimp only at hp h1
 obtain⟨rfl,hl⟩:=hp
 exact⟨ms,Z,hl,aK.aI aF h1⟩
theorem ae.Wq{L M:List HP}(h:ae L M):ae L (wN (none,0,0)::M):=
 ae.ex (f:=fun ms:List bI=>cU [gu (ms.length=0∧ms.length≤1000000),aI aG 2 none 0 0 (flat ax ms)]) [] (ae.sep (Ls:=[gu _,aI aG 2 none 0 0 (flat ax [])]) (ae.pure ⟨rfl,by decide⟩ (ae.bZ h)))
theorem Il{l:List FM}{k:Nat}{x:FM}(hk:k<l.length):ae (wN x.2::l.map fun r=>wN r.2) ((l.set k x).map fun r=>wN r.2):=by
 rw[Z_]
 exact ae.put k (by simpa using hk)
theorem Sz{l:List FM}{k:Nat}{x:FM}(h:l[k]?=some x):(l.map fun r=>wN r.2)[k]?=some (wN x.2):=by rw[ZS,h];rfl
end Api
namespace Cl
open Go Vg Api
abbrev Bs:=List UInt8
def bT(l:Bs):ByteArray:=⟨l.toArray⟩
abbrev sB(s:ByteArray):Bs:=s.data.toList
theorem dk(a:Bs):(bT a).size=a.length:=by show(a.toArray).size=_;simp
theorem gP(a b:Bs):bT (a++b)=bT a++bT b:=ByteArray.ext (by simp[bT])
theorem Qu{a b:Bs}(h:bT a=bT b):a=b:=by
 have:=congrArg (fun s:ByteArray=>s.data.toList) h
 simpa[bT] using this
theorem O9(s:ByteArray):bT (sB s)=s:=by simp[bT,sB]
theorem uH(s:ByteArray):(sB s).length=s.size:=by show s.data.toList.length=s.data.size;simp
theorem SA(l:Bs):sB (bT l)=l:=by simp[bT,sB]
def H2:Nat→Nat→Bs
 | 0,_=>[]
 | k+1,n=>if n=0 then [] else UInt8.ofNat (n % 256)::H2 k (n / 256)
def ss(n:Nat):Bs:=if n≤247 then [UInt8.ofNat n] else UInt8.ofNat (247+(H2 8 n).length)::(H2 8 n).reverse
def Be(l:Bs):Nat:=l.foldl (fun n b=>n*256+b.toNat) 0
def lf:Bs→Option (Nat×Bs)
 | []=>none
 | c::r=>if c.toNat≤247 then some (c.toNat,r) else if r.length<c.toNat-247 then none
  else if ss (Be (r.take (c.toNat-247)))=c::r.take (c.toNat-247) then some (Be (r.take (c.toNat-247)),r.drop (c.toNat-247)) else none
theorem zI:∀(k n:Nat),(H2 k n).length≤k
 | 0,_=>NR _
 | k+1,n=>by
  unfold H2
  split
  ·exact ZO _
  ·have:=zI k (n / 256);simp;omega
theorem No(l:Bs)(b:UInt8):Be (l ++ [b])=Be l*256+b.toNat:=by simp[Be,List.foldl_append]
theorem Im:∀(l:Bs),Be l<256 ^ l.length:=fun l=>by
 have key:∀(l:Bs) (n k:Nat),n<256 ^ k→l.foldl (fun n b=>n*256+b.toNat) n<256 ^ (k+l.length):=by
  intro l
  induction l with
  | nil=>intro n k h;simpa using h
  | cons b l ih=>
   intro n k h
   rw[List.foldl_cons,ZW,show k+(l.length+1)=(k+1)+l.length from by omega]
   refine ih _ _ ?_
   have hb:b.toNat<256:=b.toNat_lt
   rw[Nat.pow_succ];omega
 have:=key l 0 0 yp
 simpa[Be] using this
theorem su{s:Bs}{n:Nat}{r:Bs}(h:lf s=some (n,r)):r.length<s.length:=by
 cases s with
 | nil=>cases h
 | cons c l=>
  rw[lf] at h
  split at h
  ·cases h;simp
  ·split at h
   ·cases h
   ·split at h
    ·simp only[Option.some.injEq,Prod.mk.injEq] at h;obtain⟨rfl,rfl⟩:=h;rw[List.length_drop,ZW];omega
    ·cases h
theorem Bv{s:Bs}{n:Nat}{r:Bs}(h:lf s=some (n,r)):n<18446744073709551616:=by
 cases s with
 | nil=>cases h
 | cons c l=>
  have hc:c.toNat<256:=c.toNat_lt
  rw[lf] at h
  split at h
  ·cases h;omega
  ·split at h
   ·cases h
   ·split at h
    ·simp only[Option.some.injEq,Prod.mk.injEq] at h
     obtain⟨rfl,rfl⟩:=h
     have h1:=Im (l.take (c.toNat-247))
     have h2:(l.take (c.toNat-247)).length≤8:=by rw[Z1];omega
     have h3:256 ^ (l.take (c.toNat-247)).length≤256 ^ 8:=Nat.pow_le_pow_right yp h2
     have h4:256 ^ 8=18446744073709551616:=rfl
     omega
    ·cases h
def fT(n:Int):Bs:=if n < -1∨1099511627776<n then [] else ss (n+1).toNat
def aX(s:Bs):Option (Int×Bs):=match lf s with
 | some (u,r)=>if 1099511627777<u then none else some ((u:Int)-1,r)
 | none=>none
theorem Gs{s:Bs}{n:Int}{r:Bs}(h:aX s=some (n,r)):-1≤n∧n≤1099511627776∧r.length<s.length:=by
 unfold aX at h
 cases hr:lf s with
 | none=>rw[hr] at h;cases h
 | some x=>
  obtain⟨u,r'⟩:=x
  rw[hr] at h
  dsimp only at h
  split at h
  ·cases h
  ·have:=su hr
   cases h
   omega
def ox(s:Bs):Bs:=ss s.length++s
def l0(s:Bs):Option (Bs×Bs):=match lf s with
 | some (n,r)=>if r.length<n then none else some (r.take n,r.drop n)
 | none=>none
end Cl
namespace Vg
open Go Go.MapKept
def uI(P:Program)(t:TypeId)(d0:Nat)(u v:Value)(r:Bool):Prop:=∀d,d0≤d→∀w:World,(Op.equalIn (d+1) t u v).run P w=.ok r w
theorem uI.int{P:Program}{t:TypeId}{k j:IntKind}(ht:P.underlying t=some (.int k))(a b:Int):uI P t 0 (.int j a) (.int j b) (decide (a=b)):=fun d _ w=>by
 rw[Op.equalIn,Sem.run_bind,run_underlying ht]
 simp;rfl
theorem uI.str{P:Program}{t:TypeId}(ht:P.underlying t=some .string)(a b:ByteArray):uI P t 0 (.string a) (.string b) (decide (a=b)):=fun d _ w=>by
 rw[Op.equalIn,Sem.run_bind,run_underlying ht]
 have:(a == b)=decide (a=b):=by
  by_cases h:a=b
  ·subst h;rw[(bytes_beq a a).2 rfl];simp
  ·rw[DF h]
   cases hb:a == b
   ·rfl
   ·exact absurd ((bytes_beq a b).1 hb) h
 simp[this]
def qZ(P:Program)(d0:Nat)(xs ys:List Value)(fs:List Field)(r:Bool):Prop:=∀d,d0≤d→∀w:World,(Op.eqFields (d+1) xs.toArray ys.toArray fs).run P w=.ok r w
theorem qZ.nil{P:Program}{xs ys:List Value}:qZ P 0 xs ys [] true:=fun d _ w=>rfl
theorem qZ.cons{P:Program}{d0 d1:Nat}{xs ys:List Value}{f:Field}{fs:List Field}{r s:Bool}{u v:Value}(hn:f.name ≠ "_")(hx:∀w:World,(part f.type xs.toArray f.offset).run P w=.ok u w)(hy:∀w:World,(part f.type ys.toArray f.offset).run P w=.ok v w)
  (h:uI P f.type d0 u v r) (hs:qZ P d1 xs ys fs s):qZ P (max d0 d1) xs ys (f::fs) (r&&s):=fun d hd w=>by
 unfold Op.eqFields
 rw[if_pos hn]
 simp only[Sem.run_bind,hx,hy,Result.andThen_ok,h d yd w]
 cases r
 ·simp
 ·simpa using hs d yd w
theorem pU{P:Program}{t:TypeId}{cs:List Value}{off:Nat}{v:Value}{ti:TI}(ht:az P t ti)(ha:ti.aU.agg=false)(hv:cs[off]?=some v)(w:World):(part t cs.toArray off).run P w=.ok v w:=by
 unfold part
 rw[Sem.run_bind,ht.Sj,ha]
 have:cs.toArray[off]?=some v:=by simpa using hv
 simp[this]
theorem uI.st{P:Program}{t:TypeId}{d0:Nat}{xs ys:List Value}{r:Bool}{fs:Array Field}(ht:P.underlying t=some (.struct fs))(hp:P.stoodInHeld t=false)(h:qZ P d0 xs ys fs.toList r):uI P t (d0+1) (.agg xs.toArray) (.agg ys.toArray) r:=fun d hd w=>by
 have hf:P.fieldsOf t=fs:=by unfold Program.fieldsOf;rw[ht]
 rw[run_equalIn_struct w d t _ _ (by rw[hf];exact ht) hp,hf]
 obtain⟨k,rfl⟩:∃k,d=k+1:=⟨d-1,by omega⟩
 exact h k yd w
theorem uI.eq{P:Program}{t:TypeId}{d0:Nat}{u v:Value}{r s:Bool}(h:uI P t d0 u v r)(e:r=s):uI P t d0 u v s:=e▸h
theorem uI.run{P:Program}{t:TypeId}{d0:Nat}{u v:Value}{r:Bool}(h:uI P t d0 u v r)(hd:d0≤9999)(w:World):(Op.equal t u v).run P w=.ok r w:=by
 unfold Op.equal
 exact h 9999 hd w
theorem VC.cq{X:Cx}{σ:Type}(E:σ→Env)(H:σ→List HP)(I:σ→Prop){b c:Code}{e:Env}{L:List HP}{Q:Exit→Env→List HP→Prop}
  (hb:VC X b e L (O4 X E H I Q)) (hc:∀s,I s→VC X c (E s) (H s) Q):VC X b e L (Sd X c Q):=
 hb.mono fun x e' L' h=>by
  cases x with
  | normal=>
   obtain⟨s,hI,hE,hH⟩:=h
   exact((hc s hI).ar hH).sub hE
  | exit id=>exact h
  | goto l=>exact h
  | ret=>exact h
  | panic ch=>exact h
  | outgrown=>exact h
end Vg
end Go.Proofs.YthnlpdacbcjgpaaGreatDoor
