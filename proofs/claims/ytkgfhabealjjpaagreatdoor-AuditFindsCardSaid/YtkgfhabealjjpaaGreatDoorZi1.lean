/- Texts of the proof, put together and shortened. No condition. -/
import Derived.Test.YtkgfhabealjjpaaGreatDoorZi0
set_option maxRecDepth 100000
set_option maxHeartbeats 16000000
set_option linter.unusedVariables false
set_option linter.unusedSectionVars false
set_option linter.unusedSimpArgs false
namespace Go.Proofs.YtkgfhabealjjpaaGreatDoor
variable (Fr : Nat → Prop) (w : World)
namespace Vg
open Go
abbrev Env:=List (Nat×Value)
def look:Env→Nat→Option Value
 | [],_=>none
 | (s,v)::r,t=>bif Nat.beq s t then some v else look r t
def ev(e:Env):Operand→Option Value
 | .tmp t=>look e t
 | .const v=>some v
 | .global g=>some (.pointer (some ⟨g,0,none⟩))
 | .func f=>some (.func (.func f) #[] #[])
def ft(e:Env):List Operand→Option (List Value)
 | []=>some []
 | x::r=>match ev e x,ft e r with
  | some v,some vs=>some (v::vs)
  | _,_=>none
structure eT(n:Nat)(a:Act)(e:Env):Prop where
 size:a.tmps.size=n
 defers:a.defers=[]
 at_:∀t v,look e t=some v→a.tmps.getD t undef=v
theorem eT.put{n:Nat}{a:Act}{e:Env}(h:eT n a e){d:Nat}(hd:Nat.blt d n=true)(v:Value):eT n (a.put (some d) v) ((d,v)::e):=by
 have hd':d<a.tmps.size:=by rw[h.size];exact Nat.blt_eq.mp hd
 refine⟨by simp[Act.put,h.size],by simp[Act.put,h.defers],fun t u ht=>?_⟩
 simp only[look] at ht
 cases hb:Nat.beq d t
 ·rw[hb] at ht
  have hne:d≠t:=Nat.ne_of_beq_eq_false hb
  have:=h.at_ t u ht
  simpa[Act.put,Bo hne] using this
 ·rw[hb] at ht
  have he:d=t:=pg hb
  subst he
  simp only[cond_true,Option.some.injEq] at ht
  subst ht
  simp[Act.put,hd']
def bW(dst:Option Tmp)(v:Value)(e:Env):Env:=
 match dst with
 | some d=>(d,v)::e
 | none=>e
def cI(n:Nat):Option Tmp→Bool
 | some d=>Nat.blt d n
 | none=>true
theorem eT.bW{n:Nat}{a:Act}{e:Env}(h:eT n a e){dst:Option Tmp}(hd:cI n dst=true)(v:Value):eT n (a.put dst v) (bW dst v e):=by
 cases dst with
 | none=>exact h
 | some d=>exact h.put hd v
def Sub(e' e:Env):Prop:=∀t v,look e' t=some v→look e t=some v
theorem Sub.nil(e:Env):Sub [] e:=fun _ _ h=>by cases h
theorem Sub.cons{e' e:Env}{t:Nat}{v:Value}(h:look e t=some v)(hs:Sub e' e):Sub ((t,v)::e') e:=fun s u hu=>by
 simp only[look] at hu
 cases hb:Nat.beq t s
 ·rw[hb] at hu;exact hs s u hu
 ·rw[hb] at hu
  have he:t=s:=pg hb
  subst he
  simp only[cond_true,Option.some.injEq] at hu
  subst hu;exact h
theorem aH{e' e:Env}(h:Sub e' e:=by(repeat(first|exact Sub.nil _|refine Sub.cons rfl ?_))):Sub e' e:=h
theorem Sub.int{e' e:Env}{t:Nat}{k:IntKind}{a b:Int}(h:look e t=some (.int k a))(hab:a=b)(hs:Sub e' e):Sub ((t,.int k b)::e') e:=by
 subst hab;exact Sub.cons h hs
theorem eT.sub{n:Nat}{a:Act}{e e':Env}(h:eT n a e)(hs:Sub e' e):eT n a e':=⟨h.size,h.defers,fun t v ht=>h.at_ t v (hs t v ht)⟩
theorem eT.ev{n:Nat}{a:Act}{e:Env}(h:eT n a e){x:Operand}{v:Value}(hx:ev e x=some v):a.eval x=v:=by
 cases x with
 | tmp t=>exact h.at_ t v hx
 | const u=>simpa[Vg.ev,Act.eval] using hx
 | global g=>simpa[Vg.ev,Act.eval] using hx
 | func f=>simpa[Vg.ev,Act.eval] using hx
theorem eT.ft{n:Nat}{a:Act}{e:Env}(h:eT n a e):∀{xs:List Operand} {vs:List Value},ft e xs=some vs→xs.map a.eval=vs
 | [],vs,hx=>by simpa[Vg.ft] using hx
 | x::r,vs,hx=>by
  simp only[Vg.ft] at hx
  split at hx
  ·rename_i v us hv hus
   simp only[Option.some.injEq] at hx
   subst hx
   simp[h.ev hv,eT.ft h hus]
  ·cases hx
structure HP where
 sat:List Nat→World→Prop
 loc:∀ids w w',(∀b∈ids,w'.heap[b]?=w.heap[b]?)→sat ids w→sat ids w'
def ei:List HP→List Nat→World→Prop
 | [],F,_=>F=[]
 | H::L,F,w=>∃i G,F=i++G∧H.sat i w∧ei L G w
theorem ei.loc:∀{L:List HP} {F:List Nat} {w w':World},(∀b∈F,w'.heap[b]?=w.heap[b]?)→ei L F w→ei L F w'
 | [],_,_,_,_,h=>h
 | H::L,F,w,w',hb,⟨i,G,hF,hi,hG⟩=>by
  subst hF
  exact⟨i,G,Z,H.loc i w w' (fun b hb'=>hb b (by simp[hb'])) hi,ei.loc (fun b hb'=>hb b (by simp[hb'])) hG⟩
theorem ei.append:∀{L M:List HP} {F:List Nat} {w:World},ei (L++M) F w↔∃G K,F=G++K∧ei L G w∧ei M K w
 | [],M,F,w=>by
  constructor
  ·intro h;exact⟨[],F,rfl,rfl,h⟩
  ·rintro⟨G,K,rfl,hG,hK⟩;cases hG;exact hK
 | H::L,M,F,w=>by
  simp only[uM,ei]
  constructor
  ·rintro⟨i,G,rfl,hi,hG⟩
   obtain⟨G1,K,rfl,h1,h2⟩:=ei.append.1 hG
   exact⟨i++G1,K,by simp,⟨i,G1,Z,hi,h1⟩,h2⟩
  ·rintro⟨_,K,rfl,⟨i,G,rfl,hi,hG⟩,hK⟩
   exact⟨i,G++K,by simp,hi,ei.append.2 ⟨G,K,Z,hG,hK⟩⟩
theorem ei.perm{L M:List HP}(hp:L.Perm M):∀{F:List Nat} {w:World},ei L F w→∃G,F.Perm G∧ei M G w:=by
 induction hp with
 | nil=>intro F w h;exact⟨F,.refl _,h⟩
 | cons x _ ih=>
  rintro F w ⟨i,G,rfl,hi,hG⟩
  obtain⟨K,hK,hs⟩:=ih hG
  exact⟨i++K,hK.append_left i,i,K,Z,hi,hs⟩
 | swap x y l=>
  rintro F w ⟨i,G,rfl,hi,j,K,rfl,hj,hK⟩
  refine⟨j++(i++K),?_,j,i++K,Z,hj,i,K,Z,hi,hK⟩
  rw[←ed,←ed]
  exact List.Perm.append_right K lV
 | trans _ _ ih1 ih2=>
  intro F w h
  obtain⟨G,hG,h1⟩:=ih1 h
  obtain⟨K,hK,h2⟩:=ih2 h1
  exact⟨K,hG.trans hK,h2⟩
def Sat(Fr:Nat→Prop)(L:List HP)(w:World):Prop:=∃F,ei L F w∧F.Nodup∧∀b∈F,¬Fr b∧b<w.heap.size
theorem Sat.perm{Fr:Nat→Prop}{L M:List HP}{w:World}(hp:L.Perm M)(h:Sat Fr L w):Sat Fr M w:=by
 obtain⟨F,hs,hn,hb⟩:=h
 obtain⟨G,hG,hs'⟩:=hs.perm hp
 exact⟨G,hs',hG.nodup_iff.1 hn,fun b h=>hb b (hG.mem_iff.2 h)⟩
theorem Sat.nil{Fr:Nat→Prop}{w:World}:Sat Fr [] w:=⟨[],rfl,.nil,fun _ h=>by cases h⟩
abbrev sA(w w':World):Prop:=w.drawn≤w'.drawn
theorem sA.up{w w':World}(h:w.drawn≤w'.drawn):sA w w':=h
structure eL(Fr:Nat→Prop)(w w':World):Prop where
 os:w'.os=w.os
 tape:w'.tape=w.tape
 output:w'.output=w.output
 size:w.heap.size≤w'.heap.size
 block:∀b,Fr b→w'.heap[b]?=w.heap[b]?
 drawn:sA w w'
theorem eL.refl:eL Fr w w:=⟨rfl,rfl,rfl,NR _,fun _ _=>rfl,NR _⟩
theorem eL.trans{Fr:Nat→Prop}{a b c:World}(h:eL Fr a b)(k:eL Fr b c):eL Fr a c:=
 ⟨k.os.trans h.os,k.tape.trans h.tape,k.output.trans h.output,ph h.size k.size,fun b hb=>(k.block b hb).trans (h.block b hb),ph h.drawn k.drawn⟩
theorem eL.mono{Fr Fr':Nat→Prop}{a b:World}(h:eL Fr' a b)(hf:∀x,Fr x→Fr' x):eL Fr a b:=⟨h.os,h.tape,h.output,h.size,fun x hx=>h.block x (hf x hx),h.drawn⟩
theorem eL.drew:eL Fr w { w with drawn:=w.drawn+1 }:=⟨rfl,rfl,rfl,NR _,fun _ _=>rfl,sA.up (Nat.le_succ _)⟩
theorem eL.alloc{Fr:Nat→Prop}{w:World}(hf:∀b,Fr b→b<w.heap.size)(o:Obj):eL Fr w (w.alloc o):=
 ⟨rfl,rfl,rfl,by simp,fun b hb=>heap_alloc_old w o (h:=hf b hb),NR _⟩
theorem eL.below{w w':World}(h:eL (fun b=>b<w.heap.size) w w'):RowKit.Below w.heap.size w w':=⟨h.os,h.tape,h.output,h.size,h.block⟩
theorem Sat.heap{Fr:Nat→Prop}{L:List HP}{w w':World}(hh:w'.heap=w.heap)(h:Sat Fr L w):Sat Fr L w':=by
 obtain⟨F,hs,hn,hb⟩:=h
 exact⟨F,hs.loc (fun b _=>by rw[hh]),hn,fun b h=>by rw[hh];exact hb b h⟩
theorem Sat.alloc{Fr:Nat→Prop}{L:List HP}{w:World}(hf:∀b,Fr b→b<w.heap.size)(o:Obj)(H:HP)(hH:H.sat [w.heap.size] (w.alloc o))(h:Sat Fr L w):Sat Fr (H::L) (w.alloc o):=by
 obtain⟨F,hs,hn,hb⟩:=h
 refine⟨[w.heap.size]++F,⟨_,F,Z,hH,hs.loc fun b hb'=>heap_alloc_old w o (h:=(hb b hb').2)⟩,?_,?_⟩
 ·rw[nN]
  refine⟨by simp,hn,fun x hx y hy he=>?_⟩
  simp at hx;subst hx;subst he
  exact za _ (hb _ hy).2
 ·intro b hb'
  simp only[eP,fe] at hb'
  rcases hb' with rfl | hb'
  ·exact⟨fun h=>za _ (hf _ h),by simp⟩
  ·exact⟨(hb b hb').1,by have:=(hb b hb').2;simp;omega⟩
def pt(b:Nat)(cs:List Value)(t:TypeId):HP:=
 ⟨fun ids w=>ids=[b]∧w.heap[b]?=some (.cells cs.toArray t (0,0)),fun _ _ _ h hs=>⟨hs.1,(h b yd).trans hs.2⟩⟩
def kI(φ:Prop):HP:=⟨fun ids _=>ids=[]∧φ,fun _ _ _ _ h=>h⟩
def hex{α:Type}(f:α→HP):HP:=⟨fun ids w=>∃x,(f x).sat ids w,fun ids w w' hb ⟨x,hx⟩=>⟨x,(f x).loc ids w w' hb hx⟩⟩
def bF(L:List HP):HP:=⟨fun ids w=>ei L ids w,fun _ _ _ hb h=>h.loc hb⟩
inductive BG where
 | int (k:IntKind) | bool | string | ptr (e:Nat) | slice (e:Nat) | array (len e:Nat) | struct (fs:List (Nat×Nat)) | other
structure TI where
 aE:BG
 size:Nat
 bytes:Nat
 zero:Value
 zs:List Value:=[zero]
def BG.agg:BG→Bool
 | .array _ _=>true
 | .struct _=>true
 | _=>false
def ov(P:Program)(t:Nat):Option BG:=
 match P.underlying t with
 | some (.int k)=>some (.int k)
 | some .bool=>some .bool
 | some .string=>some .string
 | some (.pointer e)=>some (.ptr e)
 | some (.slice e)=>some (.slice e)
 | some (.array n e)=>some (.array n e)
 | some (.struct fs)=>some (.struct (fs.toList.map fun f=>(f.offset,((P.info? f.type).map (·.size)).getD 0)))
 | some _=>some .other
 | none=>none
structure aN(P:Program)(t:Nat)(ti:TI):Prop where
 aE:ov P t=some ti.aE
 info:(P.info? t).map (fun i=>(i.size,i.bytes,i.zero))=some (ti.size,ti.bytes,some ti.zero)
 zero:ti.zero.cells=ti.zs.toArray
 len:ti.zs.length=ti.size
abbrev oG:=List (Nat×TI)
def oH(P:Program)(tab:oG):Prop:=∀p∈tab,aN P p.1 p.2
def bR:oG→Nat→Option TI
 | [],_=>none
 | (s,v)::r,t=>bif Nat.beq s t then some v else bR r t
theorem oH.look{P:Program}:∀{tab:oG},oH P tab→∀{t:Nat} {ti:TI},bR tab t=some ti→aN P t ti
 | [],_,_,_,h=>by cases h
 | (s,v)::r,ok,t,ti,h=>by
  simp only[bR] at h
  cases hb:Nat.beq s t
  ·rw[hb] at h;exact oH.look (tab:=r) (fun p hp=>ok p (kW _ hp)) h
  ·rw[hb] at h
   have he:s=t:=pg hb
   subst he
   simp only[cond_true,Option.some.injEq] at h
   subst h
   exact ok _ (qZ ..)
structure Cx where
 P:Program
 tab:oG
 ok:oH P tab
 n:Nat
 Fr:Nat→Prop
 w0:World
structure St(X:Cx)(L:List HP)(w:World):Prop where
 sat:Sat X.Fr L w
 cP:eL X.Fr X.w0 w
 low:∀b,X.Fr b→b<X.w0.heap.size
theorem St.rJ{X:Cx}{L:List HP}{w:World}(h:St X L w):∀b,X.Fr b→b<w.heap.size:=fun b hb=>wu (h.low b hb) h.cP.size
theorem St.heap{X:Cx}{L:List HP}{w w':World}(h:St X L w)(hh:w'.heap=w.heap)(ho:w'.os=w.os)(ht:w'.tape=w.tape)(hu:w'.output=w.output)(hd:sA w w'):St X L w':=
 ⟨h.sat.heap hh,⟨ho.trans h.cP.os,ht.trans h.cP.tape,hu.trans h.cP.output,by rw[hh];exact h.cP.size,fun b hb=>by rw[hh];exact h.cP.block b hb,ph h.cP.drawn hd⟩,h.low⟩
theorem St.drew{X:Cx}{L:List HP}{w:World}(h:St X L w):St X L { w with drawn:=w.drawn+1 }:=h.heap rfl rfl rfl rfl (sA.up (Nat.le_succ _))
def dd(X:Cx)(L M:List HP):Prop:=∀w,St X L w→St X M w
abbrev GS:=List (Nat×Bool)
def qw:GS→Nat→Option Bool
 | [],_=>none
 | (s,v)::r,t=>bif Nat.beq s t then some v else qw r t
def oF(G:GS)(a:Act):Prop:=∀t b,qw G t=some b→a.tmps[t]?=some (.bool b)
def cz(G:GS):Option Tmp→Bool
 | none=>true
 | some d=>match qw G d with
  | none=>true
  | some _=>false
theorem oF.nil(a:Act):oF [] a:=fun _ _ h=>by cases h
theorem oF.put{G:GS}{a:Act}(h:oF G a){dst:Option Tmp}(hf:cz G dst=true)(v:Value):oF G (a.put dst v):=fun t b ht=>by
 cases dst with
 | none=>exact h t b ht
 | some d=>
  have hne:d≠t:=fun he=>by subst he;simp[cz,ht] at hf
  simp only[Act.put]
  rw[Bo hne]
  exact h t b ht
def gB:Bool→Bool→Bool
 | true,true=>true
 | false,false=>true
 | _,_=>false
def cB(ops:Array Oper)(G:GS):Option (Nat×Bool)→Option Bool
 | none=>some true
 | some (j,want)=>match ops.toList[j]? with
  | some oj=>match oj.dst with
   | some d=>match qw G d with
    | some b=>some (gB b want)
    | none=>none
   | none=>none
  | none=>none
theorem rB{ops:Array Oper}{G:GS}{a:Act}{o:Oper}{b:Bool}(hG:oF G a)(h:cB ops G o.guard=some b):Region.wanted o (yielded ops a.tmps)=b:=by
 unfold Region.wanted
 cases hg:o.guard with
 | none=>rw[hg] at h;simpa[cB] using h
 | some jw=>
  obtain⟨j,want⟩:=jw
  rw[hg] at h
  simp only[cB] at h
  cases hj:ops.toList[j]? with
  | none=>rw[hj] at h;cases h
  | some oj=>
   rw[hj] at h
   cases hd:oj.dst with
   | none=>simp[hd] at h
   | some d=>
    simp only[hd] at h
    cases hl:qw G d with
    | none=>rw[hl] at h;cases h
    | some c=>
     rw[hl] at h
     have hy:yielded ops a.tmps j=some c:=by
      unfold yielded
      have hj':ops[j]?=some oj:=by simpa using hj
      simp[hj',hd,hG d c hl]
     simp only[hy]
     cases c<;>cases want<;>simp_all[gB]
def wR(ro:Option Nat):Fence:={ Fence.wide with round:=ro }
def VC(X:Cx)(c:Code)(e:Env)(L:List HP)(Q:Exit→Env→List HP→Prop):Prop:=
 ∀ro a w,eT X.n a e→St X L w→c.wpIn (wR ro) 0 X.P (fun x a' w'=>∃e' L',eT X.n a' e'∧St X L' w'∧Q x e' L') a w
def VO(X:Cx)(ops:Array Oper)(G:GS)(l:List Oper)(e:Env)(L:List HP)(K:Env→List HP→Prop):Prop:=
 ∀(Q':Exit→Act→World→Prop),(∀e' L' a' w',eT X.n a' e'→St X L' w'→K e' L'→Q' .normal a' w') →
  ∀ro a w,eT X.n a e→oF G a→St X L w→wpListIn (wR ro) 0 X.P ops Q' l a w
def sw(P:Program)(f:FuncId):Prop:=∃fn,P.funcs[f]?=some fn∧fn.body.isNone=false∧(fn.name == "runtime.NumGoroutine")=false
structure ax(P:Program)(f:FuncId)(args:List Value)(Fr:Nat→Prop)(w:World)(L:List HP)(R:Value→List HP→Prop):Prop where
 BV:sw P f
 calls:(∀b,Fr b→b<w.heap.size)→Sat Fr L w→Calls P f args.toArray w fun e w'=>∃v L',e=.returned v∧R v L'∧Sat Fr L' w'∧eL Fr w w'
def aK(X:Cx)(op:Op)(e:Env)(L:List HP)(M:Value→List HP→Prop):Prop:=
 ∀a w,eT X.n a e→St X L w→∀dst ty pos after guard,
  (∃v w' L',(execOp a.eval ⟨dst,op,ty,pos,after,guard⟩).run X.P w=.ok (.value v) w'∧M v L'∧St X L' w') ∨
  (∃w' L',(execOp a.eval ⟨dst,op,ty,pos,after,guard⟩).run X.P w=.ok .skip w'∧M undef L'∧St X L' w') ∨
  (∃f args,(execOp a.eval ⟨dst,op,ty,pos,after,guard⟩).run X.P w=.ok (.enter f args) w ∧
   Calls X.P f args w fun en w'=>∃v L',en=.returned v∧M v L'∧St X L' w')
theorem UU{X:Cx}{op:Op}{e:Env}{L:List HP}{M:Value→List HP→Prop}(h:aK X op e L M){a:Act}{w:World}(ha:eT X.n a e)(hw:St X L w):∀c,op≠.defer c:=by
 rintro c rfl
 have key:∀dst ty pos after guard x w',(execOp a.eval ⟨dst,.defer c,ty,pos,after,guard⟩).run X.P w=.ok x w'→∃d,x=.defer d:=fun dst ty pos after guard x w' hr=>by
  have e:execOp a.eval ⟨dst,.defer c,ty,pos,after,guard⟩=(do pure (.defer (←resolve a.eval c ty))):=rfl
  rw[e,Sem.run_bind] at hr
  cases h2:(resolve a.eval c ty).run X.P w with
  | ok d w2=>rw[h2] at hr;cases hr;exact⟨d,rfl⟩
  | halt y w2=>rw[h2] at hr;cases hr
 rcases h a w ha hw none 0 "" #[] none with ⟨v,w',L',hr,-⟩ | ⟨w',L',hr,-⟩ | ⟨f,args,hr,-⟩
 ·obtain⟨d,h⟩:=key _ _ _ _ _ _ _ hr;cases h
 ·obtain⟨d,h⟩:=key _ _ _ _ _ _ _ hr;cases h
 ·obtain⟨d,h⟩:=key _ _ _ _ _ _ _ hr;cases h
theorem MV(ro:Option Nat)(ρ:Operand→Value)(o:Oper)(h:∀c,o.op≠.defer c):o.semAt (wR ro).round ρ=execOp ρ o:=by
 cases ro with
 | none=>rfl
 | some l=>exact Oper.semAt_some l ρ o h
theorem QP{ro:Option Nat}{n:Nat}{P:Program}{f:FuncId}{args:Array Value}{w:World}{R:Ending→World→Prop}(h:Calls P f args w R):CallsIn (wR ro) n P f args w R:=
 show CallsIn Fence.wide n P f args w R from callsIn_wide.2 h
theorem aK.wp{X:Cx}{o:Oper}{e:Env}{L:List HP}{M:Value→List HP→Prop}(h:aK X o.op e L M){a:Act}{w:World}(ha:eT X.n a e)(hw:St X L w){ro:Option Nat}
  {next:Act→World→Prop} {Q:Exit→Act→World→Prop} (hn:∀v L' w',M v L'→St X L' w'→next (a.put o.dst v) w'):o.wpIn (wR ro) 0 X.P a w next Q:=by
 refine⟨fun _ _=>trivial,?_⟩
 rw[MV ro _ _ (UU h ha hw)]
 rcases h a w ha hw o.dst o.type o.pos o.after o.guard with ⟨v,w',L',hr,hm,hs⟩ | ⟨w',L',hr,hm,hs⟩ | ⟨f,args,hr,hc⟩
 ·rw[hr];exact hn v L' w' hm hs
 ·rw[hr];exact hn undef L' w' hm hs
 ·rw[hr]
  refine⟨(fun h=>by cases h),QP (Calls.mono hc fun en w' ⟨v,L',he,hm,hs⟩=>?_)⟩
  subst he
  exact hn v L' w' hm hs
theorem VO.op{X:Cx}{ops:Array Oper}{G:GS}{o:Oper}{l:List Oper}{e:Env}{L:List HP}{K:Env→List HP→Prop}{M:Value→List HP→Prop}
  (hg:cB ops G o.guard=some true) (hd:cI X.n o.dst=true) (hf:cz G o.dst=true) (h:aK X o.op e L M)
  (hk:∀v L',M v L'→VO X ops G l (bW o.dst v e) L' K):VO X ops G (o::l) e L K:=by
 intro Q' hQ ro a w ha hG hw
 unfold wpListIn
 rw[if_pos (rB hG hg)]
 refine h.wp ha hw fun v L' w' hm hs=>?_
 exact hk v L' hm Q' hQ _ _ _ (ha.bW hd v) (hG.put hf v) hs
theorem VO.off{X:Cx}{ops:Array Oper}{G:GS}{o:Oper}{l:List Oper}{e:Env}{L:List HP}{K:Env→List HP→Prop}
  (hg:cB ops G o.guard=some false) (hd:cI X.n o.dst=true) (hf:cz G o.dst=true)
  (hk:VO X ops G l (bW o.dst undef e) L K):VO X ops G (o::l) e L K:=by
 intro Q' hQ ro a w ha hG hw
 unfold wpListIn
 rw[if_neg (by rw[rB hG hg];simp)]
 exact NY
theorem VO.nil{X:Cx}{ops:Array Oper}{G:GS}{e:Env}{L:List HP}{K:Env→List HP→Prop}(h:K e L):VO X ops G [] e L K:=
 fun _ hQ _ _ _ ha _ hw=>hQ _ _ _ _ ha hw h
theorem VO.split{X:Cx}{ops:Array Oper}{G:GS}{l:List Oper}{e:Env}{L:List HP}{K:Env→List HP→Prop}(d:Nat){b:Bool}(hb:look e d=some (.bool b))(hd:Nat.blt d X.n=true)
  (ht:b=true→VO X ops ((d,true)::G) l ((d,.bool true)::e) L K) (hf:b=false→VO X ops ((d,false)::G) l ((d,.bool false)::e) L K):VO X ops G l e L K:=by
 intro Q' hQ ro a w ha hG hw
 have hs:a.tmps[d]?=some (.bool b):=by
  have:=ha.at_ d _ hb
  have hlt:d<a.tmps.size:=by rw[ha.size];exact Nat.blt_eq.mp hd
  simpa[hlt] using this
 have key:∀c,b=c→eT X.n a ((d,.bool c)::e)∧oF ((d,c)::G) a:=fun c hc=>by
  subst hc
  refine⟨⟨ha.size,ha.defers,fun t u ht=>?_⟩,fun t u ht=>?_⟩
  ·simp only[look] at ht
   cases hq:Nat.beq d t
   ·rw[hq] at ht;exact ha.at_ t u ht
   ·rw[hq] at ht
    have:=pg hq
    subst this
    simp only[cond_true,Option.some.injEq] at ht
    subst ht;exact ha.at_ _ _ hb
  ·simp only[qw] at ht
   cases hq:Nat.beq d t
   ·rw[hq] at ht;exact hG t u ht
   ·rw[hq] at ht
    have:=pg hq
    subst this
    simp only[cond_true,Option.some.injEq] at ht
    subst ht;exact hs
 cases b
 ·exact hf Z Q' hQ ro a w (key _ Z).1 (key _ Z).2 hw
 ·exact ht Z Q' hQ ro a w (key _ Z).1 (key _ Z).2 hw
theorem VO.aj{X:Cx}{ops:Array Oper}{G:GS}{l:List Oper}{e:Env}{L L':List HP}{K:Env→List HP→Prop}(hs:dd X L L')(h:VO X ops G l e L' K):VO X ops G l e L K:=
 fun Q' hQ ro a w ha hG hw=>h Q' hQ ro a w ha hG (hs w hw)
theorem VC.mono{X:Cx}{c:Code}{e:Env}{L:List HP}{Q Q':Exit→Env→List HP→Prop}(h:VC X c e L Q)(hq:∀x e L,Q x e L→Q' x e L):VC X c e L Q':=
 fun ro a w ha hw=>wpIn_mono (h ro a w ha hw) fun _ _ _ ⟨e',L',h1,h2,h3⟩=>⟨e',L',h1,h2,hq _ _ _ h3⟩
theorem VC.sub{X:Cx}{c:Code}{e e':Env}{L:List HP}{Q:Exit→Env→List HP→Prop}(hs:Sub e' e)(h:VC X c e' L Q):VC X c e L Q:=
 fun ro a w ha hw=>h ro a w (ha.sub hs) hw
theorem VC.aj{X:Cx}{c:Code}{e:Env}{L L':List HP}{Q:Exit→Env→List HP→Prop}(hs:dd X L L')(h:VC X c e L' Q):VC X c e L Q:=
 fun ro a w ha hw=>h ro a w ha (hs w hw)
def MX(X:Cx)(c:Code)(Q:Exit→Env→List HP→Prop):Exit→Env→List HP→Prop
 | .normal,e,L=>VC X c e L Q
 | x,e,L=>Q x e L
def Jq(id:Nat)(Q:Exit→Env→List HP→Prop):Exit→Env→List HP→Prop
 | .exit j,e,L=>bif Nat.beq j id then Q .normal e L else Q (.exit j) e L
 | x,e,L=>Q x e L
theorem VC.skip{X:Cx}{e:Env}{L:List HP}{Q:Exit→Env→List HP→Prop}(h:Q .normal e L):VC X .skip e L Q:=fun _ _ _ ha hw=>wpIn_skip ⟨e,L,ha,hw,h⟩
theorem VC.label{X:Cx}{l:Nat}{e:Env}{L:List HP}{Q:Exit→Env→List HP→Prop}(h:Q .normal e L):VC X (.label l) e L Q:=fun _ _ _ ha hw=>wpIn_label ⟨e,L,ha,hw,h⟩
theorem VC.exit{X:Cx}{id:Nat}{e:Env}{L:List HP}{Q:Exit→Env→List HP→Prop}(h:Q (.exit id) e L):VC X (.exit id) e L Q:=fun _ _ _ ha hw=>wpIn_exit ⟨e,L,ha,hw,h⟩
theorem VC.ret{X:Cx}{e:Env}{L:List HP}{Q:Exit→Env→List HP→Prop}(h:Q .ret e L):VC X .ret e L Q:=fun _ _ _ ha hw=>wpIn_ret ⟨e,L,ha,hw,h⟩
theorem VC.seq{X:Cx}{b c:Code}{e:Env}{L:List HP}{Q:Exit→Env→List HP→Prop}(h:VC X b e L (MX X c Q)):VC X (.seq b c) e L Q:=by
 intro ro a w ha hw
 refine wpIn_seq (wpIn_mono (h ro a w ha hw) fun x a' w' ⟨e',L',h1,h2,h3⟩=>?_)
 cases x with
 | normal=>exact h3 ro a' w' h1 h2
 | exit id=>exact⟨e',L',h1,h2,h3⟩
 | goto l=>exact⟨e',L',h1,h2,h3⟩
 | ret=>exact⟨e',L',h1,h2,h3⟩
 | panic ch=>exact⟨e',L',h1,h2,h3⟩
 | outgrown=>exact⟨e',L',h1,h2,h3⟩
theorem VC.cond{X:Cx}{x:Operand}{b c:Code}{e:Env}{L:List HP}{Q:Exit→Env→List HP→Prop}{t:Bool}(hx:ev e x=some (.bool t))
  (ht:t=true→VC X b e L Q) (hf:t=false→VC X c e L Q):VC X (.cond x b c) e L Q:=
 fun ro a w ha hw=>wpIn_cond_split (ha.ev hx) (fun h=>ht h ro a w ha hw) (fun h=>hf h ro a w ha hw)
theorem VC.block{X:Cx}{id:Nat}{c:Code}{e:Env}{L:List HP}{Q:Exit→Env→List HP→Prop}(h:VC X c e L (Jq id Q)):VC X (.block id c) e L Q:=by
 intro ro a w ha hw
 refine wpIn_block (wpIn_mono (h ro a w ha hw) fun x a' w' ⟨e',L',h1,h2,h3⟩=>?_)
 cases x with
 | exit j=>
  simp only[Exit.inBlock]
  simp only[Jq] at h3
  cases hb:Nat.beq j id
  ·rw[hb] at h3
   rw[if_neg (Nat.ne_of_beq_eq_false hb)]
   exact⟨e',L',h1,h2,h3⟩
  ·rw[hb] at h3
   rw[if_pos (pg hb)]
   exact⟨e',L',h1,h2,h3⟩
 | normal=>exact⟨e',L',h1,h2,h3⟩
 | goto l=>exact⟨e',L',h1,h2,h3⟩
 | ret=>exact⟨e',L',h1,h2,h3⟩
 | panic ch=>exact⟨e',L',h1,h2,h3⟩
 | outgrown=>exact⟨e',L',h1,h2,h3⟩
theorem VC.region{X:Cx}{id:Nat}{l:List Oper}{e:Env}{L:List HP}{Q:Exit→Env→List HP→Prop}(h:VO X l.toArray [] l e L (Q .normal)):VC X (.region id l.toArray false) e L Q:=
 fun ro a w ha hw=>wpIn_region_lit (h _ (fun e' L' _ _ h1 h2 h3=>⟨e',L',h1,h2,h3⟩) ro a w ha (oF.nil a) hw)
def TV(X:Cx){σ:Type}(E:σ→Env)(H:σ→List HP)(I:σ→Prop)(μ:σ→Nat)(s:σ)(Q:Exit→Env→List HP→Prop):Exit→Env→List HP→Prop
 | .normal,e,L=>∃s',I s'∧μ s'<μ s∧Sub (E s') e∧dd X L (H s')
 | x,e,L=>Q x e L
theorem VC.loop{X:Cx}{σ:Type}(E:σ→Env)(H:σ→List HP)(I:σ→Prop)(μ:σ→Nat)(s0:σ){c:Code}{e:Env}{L:List HP}{Q:Exit→Env→List HP→Prop}
  (h0:I s0) (he:Sub (E s0) e) (hl:dd X L (H s0)) (round:∀s,I s→VC X c (E s) (H s) (TV X E H I μ s Q)):VC X (.loop c) e L Q:=by
 intro ro a w ha hw
 refine wpIn_loop_ghost (fun m a w=>∃s,μ s=m∧I s∧eT X.n a (E s)∧St X (H s) w) (μ s0) ⟨s0,Z,h0,ha.sub he,hl _ hw⟩ ?_
 rintro m a w ⟨s,rfl,hI,ha,hw⟩
 refine wpIn_mono (round s hI ro a w ha hw) fun x a' w' ⟨e',L',h1,h2,h3⟩=>?_
 cases x with
 | normal=>
  obtain⟨s',hI',hlt,hE,hH⟩:=h3
  exact⟨μ s',hlt,s',Z,hI',h1.sub hE,hH _ h2⟩
 | exit id=>exact⟨e',L',h1,h2,h3⟩
 | goto l=>exact⟨e',L',h1,h2,h3⟩
 | ret=>exact⟨e',L',h1,h2,h3⟩
 | panic ch=>exact⟨e',L',h1,h2,h3⟩
 | outgrown=>exact⟨e',L',h1,h2,h3⟩
end Vg
namespace Vg
open Go
def Cr:Env→Nat→(Value→Prop)→Prop→Prop
 | [],_,_,kf=>kf
 | (s,v)::r,t,k,kf=>bif Nat.beq s t then k v else Cr r t k kf
theorem K7{k:Value→Prop}{kf:Prop}:∀{e:Env} {t:Nat},Cr e t k kf→(∃v,look e t=some v∧k v)∨kf
 | [],_,h=>.inr h
 | (s,v)::r,t,h=>by
  simp only[Cr] at h
  simp only[look]
  cases hb:Nat.beq s t
  ·rw[hb] at h;exact K7 h
  ·rw[hb] at h;exact .inl ⟨v,rfl,h⟩
def mm(e:Env)(x:Operand)(k:Value→Prop)(kf:Prop):Prop:=
 match x with
 | .tmp t=>Cr e t k kf
 | .const v=>k v
 | .global g=>k (.pointer (some ⟨g,0,none⟩))
 | .func f=>k (.func (.func f) #[] #[])
theorem mJ{e:Env}{x:Operand}{k:Value→Prop}{kf:Prop}(h:mm e x k kf):(∃v,ev e x=some v∧k v)∨kf:=by
 cases x with
 | tmp t=>exact K7 h
 | const v=>exact .inl ⟨v,rfl,h⟩
 | global g=>exact .inl ⟨_,rfl,h⟩
 | func f=>exact .inl ⟨_,rfl,h⟩
def uA:oG→Nat→(TI→Prop)→Prop→Prop
 | [],_,_,kf=>kf
 | (s,v)::r,t,k,kf=>bif Nat.beq s t then k v else uA r t k kf
theorem xN{k:TI→Prop}{kf:Prop}:∀{e:oG} {t:Nat},uA e t k kf→(∃v,bR e t=some v∧k v)∨kf
 | [],_,h=>.inr h
 | (s,v)::r,t,h=>by
  simp only[uA] at h
  simp only[bR]
  cases hb:Nat.beq s t
  ·rw[hb] at h;exact xN h
  ·rw[hb] at h;exact .inl ⟨v,rfl,h⟩
def vu{α:Type}:List α→Nat→(α→Prop)→Prop→Prop
 | [],_,_,kf=>kf
 | x::_,0,k,_=>k x
 | _::r,n+1,k,kf=>vu r n k kf
theorem xj{α:Type}{k:α→Prop}{kf:Prop}:∀{l:List α} {i:Nat},vu l i k kf→(∃v,l[i]?=some v∧k v)∨kf
 | [],_,h=>.inr h
 | x::r,0,h=>.inl ⟨x,rfl,h⟩
 | x::r,n+1,h=>by simpa using xj (l:=r) (i:=n) h
def fo(X:Cx)(op:Op)(e:Env)(v:Value):Prop:=
 ∀a,eT X.n a e→∀dst ty pos after guard w,(execOp a.eval ⟨dst,op,ty,pos,after,guard⟩).run X.P w=.ok (.value v) w
def JR(op:BinOp)(a b:Int)(k:Value→Prop)(kf:Prop):Prop:=
 match op with
 | .eql=>k (.bool (a == b))
 | .neq=>k (.bool (a != b))
 | .lss=>k (.bool (decide (a<b)))
 | .leq=>k (.bool (decide (a≤b)))
 | .gtr=>k (.bool (decide (b<a)))
 | .geq=>k (.bool (decide (b≤a)))
 | _=>kf
def FW:IntKind→IntKind→Bool
 | .i64,.i64=>true
 | .u8,.u8=>true
 | .u16,.u16=>true
 | .u64,.u64=>true
 | .i32,.i32=>true
 | .u32,.u32=>true
 | .i8,.i8=>true
 | .i16,.i16=>true
 | _,_=>false
theorem Tk{a b:IntKind}(h:FW a b=true):a=b:=by cases a<;>cases b<;>first | rfl | cases h
def E4(tab:oG)(op:BinOp)(ty:Nat)(x y:Value)(k:Value→Prop)(kf:Prop):Prop:=
 match x,y with
 | .int j a,.int i b=>bif FW j i then JR op a b k kf else kf
 | .bool a,.bool b=>uA tab ty (fun ti=>match ti.aE with
   | .bool=>match op with
    | .eql=>k (.bool (a == b))
    | .neq=>k (.bool (!(a == b)))
    | _=>kf
   | _=>kf) kf
 | .string a,.string b=>match op with
   | .eql=>k (.bool (a.toList == b.toList))
   | .neq=>k (.bool (!(a.toList == b.toList)))
   | _=>kf
 | .pointer a,.pointer none=>uA tab ty (fun ti=>match ti.aE with
   | .ptr _=>match op,a with
    | .eql,none=>k (.bool true)
    | .eql,some _=>k (.bool false)
    | .neq,none=>k (.bool false)
    | .neq,some _=>k (.bool true)
    | _,_=>kf
   | _=>kf) kf
 | .slice a _ _,.slice none _ _=>uA tab ty (fun ti=>match ti.aE with
   | .slice _=>match op,a with
    | .eql,none=>k (.bool true)
    | .eql,some _=>k (.bool false)
    | .neq,none=>k (.bool false)
    | .neq,some _=>k (.bool true)
    | _,_=>kf
   | _=>kf) kf
 | _,_=>kf
def xu(tab:oG)(e:Env)(op:Op)(k:Value→Prop)(kf:Prop):Prop:=
 match op with
 | .move x=>mm e x k kf
 | .assign x=>mm e x k kf
 | .nilCheck x=>mm e x (fun v=>match v with
   | .pointer (some a)=>k (.pointer (some a))
   | _=>kf) kf
 | .extract x i=>mm e x (fun v=>match v with
   | .tuple vs=>vu vs.toList i k kf
   | _=>kf) kf
 | .fieldAddr s x f=>mm e x (fun v=>match v with
   | .pointer (some ⟨b,off,none⟩)=>uA tab s (fun ti=>match ti.aE with
    | .struct fs=>vu fs f (fun p=>match p with
     | (o,sz)=>bif Nat.beq sz 0 then kf else bif Nat.beq o 0 then k (.pointer (some ⟨b,off,none⟩)) else k (.pointer (some ⟨b,off+o,none⟩))) kf
    | _=>kf) kf
   | _=>kf) kf
 | .binOp op ty x y _=>mm e x (fun a=>mm e y (fun b=>E4 tab op ty a b k kf) kf) kf
 | .unOp .not _ x=>mm e x (fun v=>match v with
   | .bool b=>k (.bool (!b))
   | _=>kf) kf
 | .pick c a b=>mm e c (fun v=>match v with
   | .bool true=>mm e a k kf
   | .bool false=>mm e b k kf
   | _=>kf) kf
 | .call ⟨.builtin .len,args,tys⟩=>match args.toList,tys.toList with
   | [x],[t]=>mm e x (fun v=>uA tab t (fun ti=>match v with
    | .slice _ n _=>(match ti.aE with
     | .slice _=>k (.int .i64 n)
     | _=>kf)
    | .string s=>(match ti.aE with
     | .string=>k (.int .i64 s.size)
     | _=>kf)
    | _=>kf) kf) kf
   | _,_=>kf
 | .call ⟨.builtin .min,args,_⟩=>match args.toList with
   | [x,y]=>mm e x (fun u=>mm e y (fun v=>match u,v with
    | .int i a,.int _ b=>k (.int i (if b<a then b else a))
    | _,_=>kf) kf) kf
   | _=>kf
 | .call ⟨.builtin .max,args,_⟩=>match args.toList with
   | [x,y]=>mm e x (fun u=>mm e y (fun v=>match u,v with
    | .int i a,.int _ b=>k (.int i (if a<b then b else a))
    | _,_=>kf) kf) kf
   | _=>kf
 | _=>kf
section
variable {X:Cx} {e:Env} {k:Value→Prop} {kf:Prop}
theorem WL{P:Program}{t:Nat}{ti:TI}(h:aN P t ti)(w:World):∃d,P.underlying t=some d∧(underlying t).run P w=.ok d w:=by
 have:=h.aE
 unfold ov at this
 cases hd:P.underlying t with
 | none=>simp[hd] at this
 | some d=>exact⟨d,rfl,run_underlying hd w⟩
theorem lN{P:Program}{t:Nat}{i:TypeInfo}(hi:P.info? t=some i)(w:World):(sizeOf t).run P w=.ok i.size w:=by
 simp[sizeOf,typeInfo,hi]
theorem WJ{P:Program}{S f:Nat}{flds:Array Field}{fl:Field}{i:TypeInfo}(hund:P.underlying S=some (.struct flds))(hf:flds[f]?=some fl)(hi:P.info? fl.type=some i)(hz:i.size≠0)(b off:Nat)(w:World):
  (Instr.fieldAt S (.pointer (some ⟨b,off,none⟩)) f).run P w=.ok (.pointer (some ⟨b,off+fl.offset,none⟩)) w:=by
 simp[Instr.fieldAt,run_underlying hund,hf,Instr.sureAddr,fieldPlace,lN hi,hz,Addr.add_mid]
theorem run_equal_bool{P:Program}{ty:Nat}(hund:P.underlying ty=some .bool)(c d:Bool)(w:World):(Op.equal ty (.bool c) (.bool d)).run P w=.ok (c == d) w:=by
 unfold Op.equal
 show(Op.equalIn (9999+1) ty (.bool c) (.bool d)).run P w=_
 rw[Op.equalIn,Sem.run_bind,run_underlying hund]
 rfl
theorem MI{P:Program}{ty el:Nat}(hund:P.underlying ty=some (.pointer el))(a:Option Addr)(w:World):(Op.equal ty (.pointer a) (.pointer none)).run P w=.ok a.isNone w:=by
 unfold Op.equal
 show(Op.equalIn (9999+1) ty (.pointer a) (.pointer none)).run P w=_
 rw[Op.equalIn,Sem.run_bind,run_underlying hund]
 cases a<;>rfl
theorem MJ{P:Program}{ty el:Nat}(hund:P.underlying ty=some (.slice el))(a:Option Addr)(n m i j:Nat)(w:World):(Op.equal ty (.slice a n m) (.slice none i j)).run P w=.ok a.isNone w:=by
 unfold Op.equal
 show(Op.equalIn (9999+1) ty (.slice a n m) (.slice none i j)).run P w=_
 rw[Op.equalIn,Sem.run_bind,run_underlying hund]
 cases a<;>rfl
theorem Qz{op:BinOp}{ty:Nat}{x y:Operand}{yt:Nat}{a b:Value}(hx:ev e x=some a)(hy:ev e y=some b)(h:E4 X.tab op ty a b k kf):
    (∃v,fo X (.binOp op ty x y yt) e v∧k v)∨kf:=by
  have E:∀v,(∀w,(do eqGuard op ty x y a b;binOp op ty a b:Sem Value).run X.P w=.ok v w)→fo X (.binOp op ty x y yt) e v:=by
    intro v h a' ha dst t pos after guard w
    simp only[execOp,ha.ev hx,ha.ev hy]
    rw[Sem.run_bind,h w]
    rfl
  unfold E4 at h
  split at h
  · rename_i j c i d
    cases hk:FW j i
    · rw[hk] at h;exact .inr h
    · rw[hk] at h
      have:=Tk hk
      subst this
      simp only[cond_true] at h
      unfold JR at h
      split at h
      all_goals first
        | exact .inr h
        | (refine .inl ⟨_,E _ (fun w=>?_),h⟩
           simp[eqGuard,binOp,Op.intCmp])
  · rename_i c d
    rcases xN h with ⟨ti,ht,h⟩ | h
    · split at h
      · rename_i hu
        have hund:X.P.underlying ty=some .bool:=by
          have:=(X.ok.look ht).aE
          rw[hu] at this
          unfold ov at this
          split at this<;>simp_all
        split at h
        · refine .inl ⟨_,E _ (fun w=>?_),h⟩
          show((do pure (.bool (←Op.equal ty (.bool c) (.bool d))):Sem Value)).run X.P w=_
          rw[Sem.run_bind,run_equal_bool hund];rfl
        · refine .inl ⟨_,E _ (fun w=>?_),h⟩
          show((do pure (.bool (!(←Op.equal ty (.bool c) (.bool d)))):Sem Value)).run X.P w=_
          rw[Sem.run_bind,run_equal_bool hund];rfl
        · exact .inr h
      · exact .inr h
    · exact .inr h
  · split at h
    · refine .inl ⟨_,E _ (fun w=>?_),h⟩
      simp[eqGuard,binOp,Op.stringOp]
    · refine .inl ⟨_,E _ (fun w=>?_),h⟩
      simp[eqGuard,binOp,Op.stringOp]
    · exact .inr h
  · rename_i a
    rcases xN h with ⟨ti,ht,h⟩ | h
    · split at h
      · rename_i el hu
        have hund:X.P.underlying ty=some (.pointer el):=by
          have:=(X.ok.look ht).aE
          rw[hu] at this
          unfold ov at this
          split at this<;>simp_all
        have r1:∀w,((do pure (.bool (←Op.equal ty (.pointer a) (.pointer none))):Sem Value)).run X.P w=.ok (.bool a.isNone) w:=fun w=>by
          rw[Sem.run_bind,MI hund];rfl
        have r2:∀w,((do pure (.bool (!(←Op.equal ty (.pointer a) (.pointer none)))):Sem Value)).run X.P w=.ok (.bool (!a.isNone)) w:=fun w=>by
          rw[Sem.run_bind,MI hund];rfl
        split at h
        · exact DR
        · exact DR
        · exact DS
        · exact DS
        · exact .inr h
      · exact .inr h
    · exact .inr h
  · rename_i a n m i j
    rcases xN h with ⟨ti,ht,h⟩ | h
    · split at h
      · rename_i el hu
        have hund:X.P.underlying ty=some (.slice el):=by
          have:=(X.ok.look ht).aE
          rw[hu] at this
          unfold ov at this
          split at this<;>simp_all
        have r1:∀w,((do pure (.bool (←Op.equal ty (.slice a n m) (.slice none i j))):Sem Value)).run X.P w=.ok (.bool a.isNone) w:=fun w=>by
          rw[Sem.run_bind,MJ hund];rfl
        have r2:∀w,((do pure (.bool (!(←Op.equal ty (.slice a n m) (.slice none i j)))):Sem Value)).run X.P w=.ok (.bool (!a.isNone)) w:=fun w=>by
          rw[Sem.run_bind,MJ hund];rfl
        split at h
        · exact DR
        · exact DR
        · exact DS
        · exact DS
        · exact .inr h
      · exact .inr h
    · exact .inr h
  · exact .inr h
theorem ML{P:Program}{t:Nat}{d:TypeDesc}(hd:P.underlying t=some d)(w:World)(x v:Value)
  (h:(d=.string∧∃s,x=.string s∧v=.int .i64 s.size)∨((∃el,d=.slice el)∧∃a n c,x=.slice a n c∧v=.int .i64 n)) (r:Nat):
  (Builtin.len_ #[t] r #[x]).run P w=.ok v w:=by
 rcases h with ⟨rfl,s,rfl,rfl⟩ | ⟨⟨el,rfl⟩,a,n,c,rfl,rfl⟩
 ·simp[Builtin.len_,run_underlying hd,goInt]
 ·simp[Builtin.len_,run_underlying hd,goInt]
theorem C2{op:Op}(h:xu X.tab e op k kf):(∃v,fo X op e v∧k v)∨kf:=by
 unfold xu at h
 split at h
 ·rcases mJ h with ⟨v,hv,h⟩ | h
  ·exact NZ
  ·exact .inr h
 ·rcases mJ h with ⟨v,hv,h⟩ | h
  ·exact NZ
  ·exact .inr h
 ·rcases mJ h with ⟨v,hv,h⟩ | h
  ·split at h
   ·exact N0
   ·exact .inr h
  ·exact .inr h
 ·rcases mJ h with ⟨v,hv,h⟩ | h
  ·split at h
   ·rename_i vs _
    rcases xj h with ⟨u,hu,h⟩ | h
    ·refine .inl ⟨u,fun a ha _ _ _ _ _ w=>?_,h⟩
     rw[Bp] at hu
     simp only[execOp,ha.ev hv,Instr.extract,hu];rfl
    ·exact .inr h
   ·exact .inr h
  ·exact .inr h
 ·rcases mJ h with ⟨v,hv,h⟩ | h
  ·split at h
   ·rename_i b off
    rcases xN h with ⟨ti,ht,h⟩ | h
    ·split at h
     ·rename_i fs hu
      rcases xj h with ⟨⟨o,sz⟩,hp,h⟩ | h
      ·dsimp only at h
       cases hz:Nat.beq sz 0
       case true=>rw[hz] at h;exact .inr h
       case false=>
        rw[hz] at h
        have hsz:sz≠0:=Nat.ne_of_beq_eq_false hz
        have hok:=(X.ok.look ht).aE
        rw[hu] at hok
        obtain⟨flds,hund,hfl⟩:∃flds,X.P.underlying _=some (.struct flds)∧flds.toList.map (fun f=>(f.offset,((X.P.info? f.type).map (·.size)).getD 0))=fs:=by
         unfold ov at hok
         split at hok<;>simp at hok
         rename_i fl hfl
         exact⟨fl,hfl,by simpa using hok⟩
        rw[←hfl] at hp
        simp only[dH,Option.map_eq_some_iff,Prod.mk.injEq] at hp
        obtain⟨f,hf,ho,hsf⟩:=hp
        rw[Bp] at hf
        have hi:∃i,X.P.info? f.type=some i∧i.size=sz:=by
         cases hq:X.P.info? f.type with
         | none=>simp[hq] at hsf;exact(hsz hsf.symm).elim
         | some i=>exact⟨i,rfl,by simpa[hq] using hsf⟩
        obtain⟨i,hi,hiz⟩:=hi
        have key:=WJ hund hf hi (by rw[hiz];exact hsz) b off
        rw[ho] at key
        simp only[cond_false] at h
        cases hoz:Nat.beq o 0
        ·rw[hoz] at h
         refine .inl ⟨_,fun a ha _ _ _ _ _ w=>?_,h⟩
         simp only[execOp,ha.ev hv,Sem.run_bind,key w];rfl
        ·rw[hoz] at h
         refine .inl ⟨_,fun a ha _ _ _ _ _ w=>?_,h⟩
         have:=pg hoz
         subst this
         simp only[execOp,ha.ev hv,Sem.run_bind,key w];rfl
      ·exact .inr h
     ·exact .inr h
    ·exact .inr h
   ·exact .inr h
  ·exact .inr h
 ·rcases mJ h with ⟨a,ha,h⟩ | h
  ·rcases mJ h with ⟨b,hb,h⟩ | h
   ·exact Qz ha hb h
   ·exact .inr h
  ·exact .inr h
 ·rcases mJ h with ⟨v,hv,h⟩ | h
  ·split at h
   ·exact N0
   ·exact .inr h
  ·exact .inr h
 ·rcases mJ h with ⟨v,hv,h⟩ | h
  ·split at h
   ·rcases mJ h with ⟨u,hu,h⟩ | h
    ·exact N1
    ·exact .inr h
   ·rcases mJ h with ⟨u,hu,h⟩ | h
    ·exact N1
    ·exact .inr h
   ·exact .inr h
  ·exact .inr h
 ·rename_i args tys
  split at h
  ·rename_i x t hx ht
   have hargs:args=#[x]:=by apply oz.1;simpa using hx
   have htys:tys=#[t]:=by apply oz.1;simpa using ht
   subst hargs;subst htys
   rcases mJ h with ⟨v,hv,h⟩ | h
   ·rcases xN h with ⟨ti,htt,h⟩ | h
    ·have hok:=(X.ok.look htt).aE
     split at h
     ·rename_i el n c _
      split at h
      ·rename_i hu
       rw[hu] at hok
       have hund:∃d,X.P.underlying t=some d∧∃el,d=.slice el:=by
        unfold ov at hok
        split at hok<;>simp at hok
        rename_i hd;exact⟨_,hd,_,rfl⟩
       obtain⟨d,hd,hd'⟩:=hund
       refine .inl ⟨_,fun a' ha _ _ _ _ _ w=>?_,h⟩
       have hr:=fun r=>ML hd w (.slice el n c) (.int .i64 n) (.inr ⟨hd',el,n,c,rfl,rfl⟩) r
       simp[execOp,resolve,invoke,builtin,ha.ev hv,hr]
      ·exact .inr h
     ·rename_i s _
      split at h
      ·rename_i hu
       rw[hu] at hok
       have hund:X.P.underlying t=some .string:=by
        unfold ov at hok
        split at hok<;>simp_all
       refine .inl ⟨_,fun a' ha _ _ _ _ _ w=>?_,h⟩
       have hr:=fun r=>ML hund w (.string s) (.int .i64 s.size) (.inl ⟨rfl,s,rfl,rfl⟩) r
       simp[execOp,resolve,invoke,builtin,ha.ev hv,hr]
      ·exact .inr h
     ·exact .inr h
    ·exact .inr h
   ·exact .inr h
  ·exact .inr h
 ·rename_i args tys
  split at h
  ·rename_i x y hx
   have hargs:args=#[x,y]:=by apply oz.1;simpa using hx
   subst hargs
   rcases mJ h with ⟨u,hu,h⟩ | h
   ·rcases mJ h with ⟨v,hv,h⟩ | h
    ·split at h
     ·refine .inl ⟨_,fun a' ha _ _ _ _ _ w=>?_,h⟩
      simp[execOp,resolve,invoke,builtin,ha.ev hv,ha.ev hu,Builtin.min_,Builtin.min2]
     ·exact .inr h
    ·exact .inr h
   ·exact .inr h
  ·exact .inr h
 ·rename_i args tys
  split at h
  ·rename_i x y hx
   have hargs:args=#[x,y]:=by apply oz.1;simpa using hx
   subst hargs
   rcases mJ h with ⟨u,hu,h⟩ | h
   ·rcases mJ h with ⟨v,hv,h⟩ | h
    ·split at h
     ·refine .inl ⟨_,fun a' ha _ _ _ _ _ w=>?_,h⟩
      simp[execOp,resolve,invoke,builtin,ha.ev hv,ha.ev hu,Builtin.max_,Builtin.max2]
     ·exact .inr h
    ·exact .inr h
   ·exact .inr h
  ·exact .inr h
 ·exact .inr h
theorem fo.Al{op:Op}{v:Value}{L:List HP}(h:fo X op e v):aK X op e L (fun u L'=>u=v∧L'=L):=
 fun a w ha hw dst ty pos after guard=>.inl ⟨v,w,L,h a ha dst ty pos after guard w,⟨rfl,rfl⟩,hw⟩
end
def runK(n:Nat)(tab:oG)(ops:List Oper)(G:GS):List Oper→Env→(List Oper→Env→Prop)→Prop
 | [],e,k=>k [] e
 | o::r,e,k=>match o.dst with
  | none=>k (o::r) e
  | some d=>match qw G d,Nat.blt d n with
   | none,true=>match o.guard with
    | none=>xu tab e o.op (fun v=>runK n tab ops G r ((d,v)::e) k) (k (o::r) e)
    | some (j,want)=>vu ops j (fun oj=>match oj.dst with
     | some dj=>match qw G dj with
      | some b=>match gB b want with
       | true=>xu tab e o.op (fun v=>runK n tab ops G r ((d,v)::e) k) (k (o::r) e)
       | false=>runK n tab ops G r ((d,undef)::e) k
      | none=>k (o::r) e
     | none=>k (o::r) e) (k (o::r) e)
   | _,_=>k (o::r) e
theorem Ha{X:Cx}{ops:Array Oper}{G:GS}{L:List HP}{K:Env→List HP→Prop}:∀{l:List Oper} {e:Env},
  runK X.n X.tab ops.toList G l e (fun l' e'=>VO X ops G l' e' L K)→VO X ops G l e L K
 | [],e,h=>h
 | o::r,e,h=>by
  unfold runK at h
  split at h
  ·exact h
  ·rename_i d hd
   split at h
   ·rename_i hgl hlt
    have hdst:cI X.n o.dst=true:=by rw[hd];exact hlt
    have hfree:cz G o.dst=true:=by rw[hd];simp[cz,hgl]
    have step:∀{v},cB ops G o.guard=some true→fo X o.op e v→runK X.n X.tab ops.toList G r ((d,v)::e) (fun l' e'=>VO X ops G l' e' L K)→VO X ops G (o::r) e L K:=fun {v} hg hl hk=>by
     refine VO.op hg hdst hfree hl.Al ?_
     rintro _ _ ⟨rfl,rfl⟩
     rw[hd]
     exact Ha hk
    split at h
    ·rename_i hgd
     rcases C2 h with ⟨v,hl,hk⟩ | h
     ·exact step (by rw[hgd];rfl) hl hk
     ·exact h
    ·rename_i j want hgd
     rcases xj h with ⟨oj,hj,h⟩ | h
     ·split at h
      ·rename_i dj hdj
       split at h
       ·rename_i b hb
        have hgo:cB ops G o.guard=some (gB b want):=by
         rw[hgd];simp only[cB,hj,hdj,hb]
        split at h
        ·rename_i hbw
         rw[hbw] at hgo
         rcases C2 h with ⟨v,hl,hk⟩ | h
         ·exact step hgo hl hk
         ·exact h
        ·rename_i hbw
         rw[hbw] at hgo
         refine VO.off hgo hdst hfree ?_
         rw[hd]
         exact Ha h
       ·exact h
      ·exact h
     ·exact h
   ·exact h
end Vg
namespace Vg
open Go
def zy:Nat→List Value→Env
 | _,[]=>[]
 | i,v::r=>(i,v)::zy (i+1) r
theorem K8:∀{l:List Value} {i t:Nat} {v:Value},look (zy i l) t=some v→∃j,t=i+j∧l[j]?=some v
 | [],_,_,_,h=>by cases h
 | x::r,i,t,v,h=>by
  simp only[zy,look] at h
  cases hb:Nat.beq i t
  ·rw[hb] at h
   obtain⟨j,hj,hl⟩:=K8 h
   exact⟨j+1,by omega,by simpa using hl⟩
  ·rw[hb] at h
   have:=pg hb
   exact⟨0,by omega,by simpa using h⟩
theorem Qh{n:Nat}{args:List Value}(h:args.length≤n):eT n ⟨args.toArray++Array.replicate (n-args.toArray.size) undef,[]⟩ (zy 0 args):=by
 refine⟨by simp;omega,Z,fun t v ht=>?_⟩
 obtain⟨j,rfl,hl⟩:=K8 ht
 have hj:j<args.length:=(bP.1 hl).1
 have:args[j]=v:=(bP.1 hl).2
 simp[Bn,hj,this]
structure P7(X:Cx)(fn:Func)(e:Env)(L:List HP)(v:Value):Prop where
 run:∀a w,eT X.n a e→St X L w→(results fn a.tmps).run X.P w=.ok v w
def an(X:Cx)(fn:Func)(R:Value→List HP→Prop)(e:Env)(L:List HP):Prop:=
 ∃v L',P7 X fn e L v∧dd X L L'∧R v L'
def Ww(X:Cx)(fn:Func)(R:Value→List HP→Prop):Exit→Env→List HP→Prop
 | .normal,e,L=>an X fn R e L
 | .ret,e,L=>an X fn R e L
 | _,_,_=>False
theorem ax.of{P:Program}{f:FuncId}{fn:Func}{c:Code}{args:List Value}{Fr:Nat→Prop}{w:World}{L:List HP}{R:Value→List HP→Prop}{tab:oG}(n:Nat)
  (hf:P.funcs[f]?=some fn) (hb:fn.body=some c) (hnm:(fn.name == "runtime.NumGoroutine")=false) (ok:oH P tab) (hnt:fn.ntmps=n) (hn:Nat.ble args.length n=true)
  (h:VC ⟨P,tab,ok,n,Fr,w⟩ c (zy 0 args) L (Ww ⟨P,tab,ok,n,Fr,w⟩ fn R)):ax P f args Fr w L R:=by
 subst hnt
 replace hn:=g_ hn
 refine⟨⟨fn,hf,by simp[hb],hnm⟩,fun hlow hs=>?_⟩
 refine calls_of_wp hf hb (wp_mono (wpIn_wide.1 (h none _ w (Qh hn) ⟨hs,eL.refl _ _,hlow⟩)) fun x a' w' ⟨e',L',h1,h2,h3⟩=>?_)
 have key:an ⟨P,tab,ok,fn.ntmps,Fr,w⟩ fn R e' L'→a'.defers=[]∧∃v,(results fn a'.tmps).run P w'=.ok v w'∧∃v1 L1,Ending.returned v=.returned v1∧R v1 L1∧Sat Fr L1 w'∧eL Fr w w':=by
  rintro⟨v,L1,hr,he,hR⟩
  exact⟨h1.defers,v,hr.run a' w' h1 h2,v,L1,Z,hR,(he w' h2).sat,h2.cP⟩
 cases x with
 | normal=>exact key h3
 | ret=>exact key h3
 | exit id=>exact h3.elim
 | goto l=>exact h3.elim
 | panic ch=>exact h3.elim
 | outgrown=>exact h3.elim
theorem an.tmp{X:Cx}{fn:Func}{R:Value→List HP→Prop}{e:Env}{L:List HP}(t:Nat)(h:fn.results=#[.tmp t]){v:Value}(hv:look e t=some v){L':List HP}(he:dd X L L')(hR:R v L'):an X fn R e L:=
 ⟨v,L',⟨fun a w ha _=>by rw[results_tmp h,ha.at_ t v hv]⟩,he,hR⟩
theorem an.cV{X:Cx}{fn:Func}{R:Value→List HP→Prop}{e:Env}{L:List HP}(t u:Nat)(h:fn.results=#[.tmp t,.tmp u]){v x:Value}(hv:look e t=some v)(hx:look e u=some x){L':List HP}(he:dd X L L')(hR:R (.tuple #[v,x]) L'):an X fn R e L:=
 ⟨_,L',⟨fun a w ha _=>by rw[results_tmp2 h,ha.at_ t v hv,ha.at_ u x hx]⟩,he,hR⟩
theorem an.void{X:Cx}{fn:Func}{R:Value→List HP→Prop}{e:Env}{L:List HP}(h:fn.results=#[]){L':List HP}(he:dd X L L')(hR:R (.tuple #[]) L'):an X fn R e L:=
 ⟨_,L',⟨fun a w _ _=>results_none h a.tmps X.P w⟩,he,hR⟩
theorem VC.JU{X:Cx}{x:Operand}{b c:Code}{e:Env}{L:List HP}{Q:Exit→Env→List HP→Prop}{p:Prop}{_:Decidable p}(hx:ev e x=some (.bool (decide p)))
  (ht:p→VC X b e L Q) (hf:¬p→VC X c e L Q):VC X (.cond x b c) e L Q:=
 VC.cond hx (fun h=>ht (of_decide_eq_true h)) (fun h=>hf (of_decide_eq_false h))
theorem VC.JT{X:Cx}{x:Operand}{b c:Code}{e:Env}{L:List HP}{Q:Exit→Env→List HP→Prop}{i j:Int}(hx:ev e x=some (.bool (i == j)))
  (ht:i=j→VC X b e L Q) (hf:i≠j→VC X c e L Q):VC X (.cond x b c) e L Q:=
 VC.cond hx (fun h=>ht ye) (fun h=>hf ye)
theorem VC.dp{X:Cx}{x:Operand}{b c:Code}{e:Env}{L:List HP}{Q:Exit→Env→List HP→Prop}{i j:Int}(hx:ev e x=some (.bool (i != j)))
  (ht:i≠j→VC X b e L Q) (hf:i=j→VC X c e L Q):VC X (.cond x b c) e L Q:=
 VC.cond hx (fun h=>ht ye) (fun h=>hf ye)
theorem VC.fq{X:Cx}{x:Operand}{b c:Code}{e:Env}{L:List HP}{Q:Exit→Env→List HP→Prop}{t:Bool}(hx:ev e x=some (.bool (!t)))
  (ht:t=false→VC X b e L Q) (hf:t=true→VC X c e L Q):VC X (.cond x b c) e L Q:=
 VC.cond hx (fun h=>ht ye) (fun h=>hf ye)
theorem VC.mi{X:Cx}{x:Operand}{b c:Code}{e:Env}{L:List HP}{Q:Exit→Env→List HP→Prop}(hx:ev e x=some (.bool true))
  (ht:VC X b e L Q):VC X (.cond x b c) e L Q:=
 VC.cond hx (fun _=>ht) (fun h=>by cases h)
theorem VC.mh{X:Cx}{x:Operand}{b c:Code}{e:Env}{L:List HP}{Q:Exit→Env→List HP→Prop}(hx:ev e x=some (.bool false))
  (hf:VC X c e L Q):VC X (.cond x b c) e L Q:=
 VC.cond hx (fun h=>by cases h) (fun _=>hf)
theorem an.int{X:Cx}{fn:Func}{R:Value→List HP→Prop}{e:Env}{L:List HP}(t:Nat)(h:fn.results=#[.tmp t]){k:IntKind}{a b:Int}(hv:look e t=some (.int k a))(hab:a=b){L':List HP}(he:dd X L L')(hR:R (.int k b) L'):an X fn R e L:=by
 subst hab;exact an.tmp t h hv he hR
theorem an.bool{X:Cx}{fn:Func}{R:Value→List HP→Prop}{e:Env}{L:List HP}(t:Nat)(h:fn.results=#[.tmp t]){a b:Bool}(hv:look e t=some (.bool a))(hab:a=b){L':List HP}(he:dd X L L')(hR:R (.bool b) L'):an X fn R e L:=by
 subst hab;exact an.tmp t h hv he hR
theorem dd.refl{X:Cx}{L:List HP}:dd X L L:=fun _ h=>h
def Lu(X:Cx){σ:Type}(E:σ→Env)(H:σ→List HP)(I:σ→Prop)(Q:Exit→Env→List HP→Prop):Exit→Env→List HP→Prop
 | .normal,e,L=>∃s,I s∧Sub (E s) e∧dd X L (H s)
 | x,e,L=>Q x e L
theorem VC.meet{X:Cx}{σ:Type}(E:σ→Env)(H:σ→List HP)(I:σ→Prop){b c:Code}{e:Env}{L:List HP}{Q:Exit→Env→List HP→Prop}
  (hb:VC X b e L (Lu X E H I Q)) (hc:∀s,I s→VC X c (E s) (H s) Q):VC X (.seq b c) e L Q:=by
 refine VC.seq (hb.mono fun x e' L' h=>?_)
 cases x with
 | normal=>
  obtain⟨s,hI,hE,hH⟩:=h
  exact((hc s hI).aj hH).sub hE
 | exit id=>exact h
 | goto l=>exact h
 | ret=>exact h
 | panic ch=>exact h
 | outgrown=>exact h
def a_(Fr:Nat→Prop)(L:List HP)(w:World):Prop:=∃F,ei L F w∧∀b∈F,Fr b
theorem MH{P:Program}{f:FuncId}(h:sw P f)(vals:Array Value)(w:World):(callFunc f vals).run P w=.ok (.enter f vals) w:=by
 obtain⟨fn,hf,hb,hn⟩:=h
 unfold callFunc
 rw[Sem.run_bind]
 show Result.andThen (.ok P w) _=_
 simp[Result.andThen,hf,hb,hn]
theorem WE{P:Program}{f:FuncId}(h:sw P f)(a:Act)(args:Array Operand)(tys:Array TypeId)(dst:Option Tmp)(ty:TypeId)(pos:String)(after:Array Edge)(guard:Option (Nat×Bool))(w:World):
  (execOp a.eval ⟨dst,.call ⟨.value (.func f),args,tys⟩,ty,pos,after,guard⟩).run P w=.ok (.enter f (args.map a.eval)) w:=by
 have:=MH h (args.map a.eval) w
 simp[execOp,resolve,Deferred.ofValue,Act.eval,invoke]
 exact this
theorem aK.call{X:Cx}{f:FuncId}{args:Array Operand}{tys:Array TypeId}{e:Env}{L Lc Lr:List HP}{vals:List Value}{R:Value→List HP→Prop}
  (hargs:ft e args.toList=some vals) (hp:L.Perm (Lc++Lr))
  (ht:∀Fr' w,(∀b,X.Fr b→Fr' b)→St X L w→a_ Fr' Lr w→ax X.P f vals Fr' w Lc R):
  aK X (.call ⟨.value (.func f),args,tys⟩) e L (fun v L'=>∃L1,R v L1∧L'=L1++Lr):=by
 intro a w ha hw dst ty pos after guard
 obtain⟨F,hs,hnd,hb⟩:=hw.sat.perm hp
 obtain⟨Fc,Fl,rfl,hsc,hsl⟩:=ei.append.1 hs
 have T:=ht (fun b=>X.Fr b∨b∈Fl) w (fun b h=>.inl h) hw ⟨Fl,hsl,fun b h=>.inr h⟩
 have hev:args.map a.eval=vals.toArray:=by
  have:=ha.ft hargs
  apply oz.1
  simpa using this
 refine .inr (.inr ⟨f,vals.toArray,?_,?_⟩)
 ·rw[←hev];exact WE T.BV a args tys dst ty pos after guard w
 ·obtain⟨hnc,hnl,hdis⟩:=nN.1 hnd
  refine Calls.mono (T.calls (fun b h=>?_) ⟨Fc,hsc,hnc,fun b h=>⟨fun h'=>?_,(hb b yf).2⟩⟩) fun en w' ⟨v,L',h1,h2,h3,h4⟩=>?_
  ·rcases h with h | h
   ·exact hw.rJ b h
   ·exact(hb b yf).2
  ·rcases h' with h' | h'
   ·exact(hb b yf).1 h'
   ·exact hdis b h b h' rfl
  ·refine⟨v,L'++Lr,h1,⟨L',h2,Z⟩,⟨?_,hw.cP.trans (h4.mono fun b h=>.inl h),hw.low⟩⟩
   obtain⟨G,hG,hGn,hGb⟩:=h3
   refine⟨G++Fl,ei.append.2 ⟨G,Fl,Z,hG,hsl.loc fun b h=>h4.block b (.inr h)⟩,?_,?_⟩
   ·exact N2
   ·intro b h
    rcases eP.1 h with h | h
    ·exact⟨fun h'=>(hGb b h).1 (.inl h'),(hGb b h).2⟩
    ·exact⟨(hb b yf).1,wu (hb b yf).2 h4.size⟩
section
variable {X:Cx} {ops:Array Oper} {G:GS} {l:List Oper} {e:Env} {L:List HP} {K:Env→List HP→Prop}
  {dst:Option Tmp} {ty:TypeId} {pos:String} {after:Array Edge} {guard:Option (Nat×Bool)}
theorem VO.go(h:runK X.n X.tab ops.toList G l e (fun l' e'=>VO X ops G l' e' L K)):VO X ops G l e L K:=Ha h
theorem VO.Jw{f:FuncId}{args:Array Operand}{tys:Array TypeId}{vals:List Value}{R:Value→List HP→Prop}
  (hargs:ft e args.toList=some vals) (ht:∀Fr' w,ax X.P f vals Fr' w [] R)
  (hk:∀v L1,R v L1→VO X ops G l (bW dst v e) (L1++L) K)
  (hg:cB ops G guard=some true:=by rfl) (hd:cI X.n dst=true:=by rfl) (hf:cz G dst=true:=by rfl):
  VO X ops G (⟨dst,.call ⟨.value (.func f),args,tys⟩,ty,pos,after,guard⟩::l) e L K:=
 VO.op hg hd hf (aK.call hargs (Lc:=[]) (Lr:=L) (.refl _) fun Fr' w _ _ _=>ht Fr' w) fun v L' ⟨L1,h1,h2⟩=>by subst h2;exact hk v L1 h1
theorem VO.mf{f:FuncId}{args:Array Operand}{tys:Array TypeId}{vals:List Value}{u:Value}
  (ht:∀Fr' w,ax X.P f vals Fr' w [] (fun v L=>v=u∧L=[])) (hargs:ft e args.toList=some vals)
  (hk:VO X ops G l (bW dst u e) L K)
  (hg:cB ops G guard=some true:=by rfl) (hd:cI X.n dst=true:=by rfl) (hf:cz G dst=true:=by rfl):
  VO X ops G (⟨dst,.call ⟨.value (.func f),args,tys⟩,ty,pos,after,guard⟩::l) e L K:=
 VO.Jw hargs ht (fun v L1 ⟨h1,h2⟩=>by subst h1;subst h2;exact hk) hg hd hf
theorem VO.yes(d:Nat){b:Bool}(c:Bool)(hb:look e d=some (.bool b))(hc:b=c)(h:VO X ops ((d,c)::G) l ((d,.bool c)::e) L K)(hd:Nat.blt d X.n=true:=by rfl):VO X ops G l e L K:=by
 subst hc
 refine VO.split d hb hd (fun h'=>?_) (fun h'=>?_)
 ·subst h';exact h
 ·subst h';exact h
theorem VO.zX{op:Op}{v:Value}(h:fo X op e v)(hk:VO X ops G l (bW dst v e) L K)
  (hg:cB ops G guard=some true:=by rfl) (hd:cI X.n dst=true:=by rfl) (hf:cz G dst=true:=by rfl):VO X ops G (⟨dst,op,ty,pos,after,guard⟩::l) e L K:=
 VO.op hg hd hf h.Al (fun _ _ ⟨h1,h2⟩=>by subst h1;subst h2;exact hk)
theorem VO.arith{op:BinOp}{xt yt:TypeId}{x y:Operand}{k:IntKind}{a b:Int}(z:Int)
  (hx:ev e x=some (.int k a)) (hy:ev e y=some (.int k b))
  (hz:(match op with | .add=>k.wrap (a+b)=z | .sub=>k.wrap (a-b)=z | .mul=>k.wrap (a*b)=z | _=>False))
  (hk:VO X ops G l (bW dst (.int k z) e) L K)
  (hg:cB ops G guard=some true:=by rfl) (hd:cI X.n dst=true:=by rfl) (hf:cz G dst=true:=by rfl):
  VO X ops G (⟨dst,.binOp op xt x y yt,ty,pos,after,guard⟩::l) e L K:=by
 refine VO.op (M:=fun v L'=>v=.int k z∧L'=L) hg hd hf ?_ (fun v L' ⟨h1,h2⟩=>by subst h1;subst h2;exact hk)
 intro a' w ha hw dst ty pos after guard
 refine .inl ⟨_,w,L,?_,⟨rfl,Z⟩,hw⟩
 cases op<;>simp only at hz
 case add=>simp[execOp,ha.ev hx,ha.ev hy,eqGuard,binOp,Op.intArith,hz]
 case sub=>simp[execOp,ha.ev hx,ha.ev hy,eqGuard,binOp,Op.intArith,hz]
 case mul=>simp[execOp,ha.ev hx,ha.ev hy,eqGuard,binOp,Op.intArith,hz]
end
theorem i64_in(n:Int)(h1:-9223372036854775808≤n)(h2:n≤9223372036854775807):IntKind.i64.wrap n=n:=IntWalk.i64_in n ⟨h1,h2⟩
section
variable {X:Cx} {ops:Array Oper} {G:GS} {l:List Oper} {e:Env} {L:List HP} {K:Env→List HP→Prop}
  {dst:Option Tmp} {ty:TypeId} {pos:String} {after:Array Edge} {guard:Option (Nat×Bool)}
theorem VO.add{xt yt:TypeId}{x y:Operand}{a b:Int}(hx:ev e x=some (.int .i64 a))(hy:ev e y=some (.int .i64 b))(h1:-9223372036854775808≤a+b)(h2:a+b≤9223372036854775807)
  (hk:VO X ops G l (bW dst (.int .i64 (a+b)) e) L K)
  (hg:cB ops G guard=some true:=by rfl) (hd:cI X.n dst=true:=by rfl) (hf:cz G dst=true:=by rfl):
  VO X ops G (⟨dst,.binOp .add xt x y yt,ty,pos,after,guard⟩::l) e L K:=VO.arith (a+b) hx hy (i64_in _ h1 h2) hk hg hd hf
theorem VO.xH{xt yt:TypeId}{x y:Operand}{a b:Int}(hx:ev e x=some (.int .i64 a))(hy:ev e y=some (.int .i64 b))(h1:-9223372036854775808≤a-b)(h2:a-b≤9223372036854775807)
  (hk:VO X ops G l (bW dst (.int .i64 (a-b)) e) L K)
  (hg:cB ops G guard=some true:=by rfl) (hd:cI X.n dst=true:=by rfl) (hf:cz G dst=true:=by rfl):
  VO X ops G (⟨dst,.binOp .sub xt x y yt,ty,pos,after,guard⟩::l) e L K:=VO.arith (a-b) hx hy (i64_in _ h1 h2) hk hg hd hf
end
end Vg
namespace Vg
open Go
def dM(cs:List Value)(off:Nat)(vs:List Value):List Value:=cs.take off++vs++cs.drop (off+vs.length)
theorem Hw(cs:List Value)(off:Nat):dM cs off []=cs:=by simp[dM]
theorem Hx(cs:List Value)(off:Nat)(v:Value)(h:off<cs.length):dM cs off [v]=cs.set off v:=by
 simp[dM,List.set_eq_take_append_cons_drop,h]
theorem NU{cs vs:List Value}{off:Nat}{v:Value}(h:off+(vs.length+1)≤cs.length):dM (cs.set off v) (off+1) vs=dM cs off (v::vs):=by
 unfold dM
 have h1:off<cs.length:=by omega
 rw[List.set_eq_take_append_cons_drop,if_pos h1]
 have e1:(cs.take off++v::cs.drop (off+1)).take (off+1)=cs.take off ++ [v]:=by
  rw[List.take_append,jj,Bz yg,show off+1-off=1 from by omega,qg yh]
  simp
 have e2:(cs.take off++v::cs.drop (off+1)).drop (off+1+vs.length)=cs.drop (off+(vs.length+1)):=by
  rw[List.drop_append,jj,Bz yg,List.drop_of_length_le yh]
  rw[show off+1+vs.length-off=vs.length+1 from by omega]
  simp;congr 1;omega
 rw[e1,e2]
 simp
def dZ(w:World)(b:Nat)(o:Obj):World:={ w with heap:=w.heap.setIfInBounds b o }
theorem W1{w:World}{b:Nat}{o:Obj}(h:w.heap[b]?=some o):dZ w b o=w:=by
 unfold dZ
 have:w.heap.setIfInBounds b o=w.heap:=by
  apply v7
  intro i
  by_cases hi:b=i
  ·subst hi
   have hlt:b<w.heap.size:=(sn.1 h).1
   rw[Array.getElem?_setIfInBounds_self_of_lt hlt,h]
  ·rw[Bo hi]
 rw[this]
theorem W2(w:World)(b:Nat)(o o':Obj):dZ (dZ w b o) b o'=dZ w b o':=by
 simp[dZ]
theorem rD{w:World}{b:Nat}{o o':Obj}(h:w.heap[b]?=some o'):(dZ w b o).heap[b]?=some o:=by
 have hlt:b<w.heap.size:=(sn.1 h).1
 simp[dZ,hlt]
theorem FQ{w:World}{b c:Nat}{o:Obj}(h:b≠c):(dZ w b o).heap[c]?=w.heap[c]?:=by
 simp[dZ,Bo h]
theorem Hk(w:World)(b:Nat)(o:Obj):(dZ w b o).heap.size=w.heap.size:=by simp[dZ]
theorem Hi{w:World}{b off:Nat}{cs:List Value}{t:TypeId}{v:Value}(h:w.heap[b]?=some (.cells cs.toArray t (0,0))):
  w.setCell ⟨b,off,none⟩ v=dZ w b (.cells (cs.set off v).toArray t (0,0)):=by
 have hlt:b<w.heap.size:=(sn.1 h).1
 have e:(w.setCell ⟨b,off,none⟩ v).heap=w.heap.setIfInBounds b (.cells (cs.set off v).toArray t (0,0)):=by
  apply v7
  intro i
  by_cases hi:i=b
  ·subst hi
   rw[heap_setCell_same w i off cs.toArray t v h,Array.getElem?_setIfInBounds_self_of_lt hlt]
   simp
  ·rw[heap_setCell_other w _ i v hi,Bo (Ne.symm hi)]
 have e1:w.setCell ⟨b,off,none⟩ v={ w with heap:=(w.setCell ⟨b,off,none⟩ v).heap }:=rfl
 rw[e1,e];rfl
theorem Hb{P:Program}{b t:Nat}:∀(vs:List Value) (i off:Nat) (w:World) (cs:List Value),w.heap[b]?=some (.cells cs.toArray t (0,0)) →
  off+i+vs.length≤cs.length→vs.all Value.oneCell'=true →
  (storeCells ⟨b,off,none⟩ vs i).run P w=.ok () (dZ w b (.cells (dM cs (off+i) vs).toArray t (0,0)))
 | [],i,off,w,cs,h,_,_=>by
  rw[Hw,W1 h];rfl
 | v::vs,i,off,w,cs,h,hl,h1=>by
  simp only[List.all_cons,eG] at h1
  have hcell:w.cell? ⟨b,off+i,none⟩=cs[off+i]?:=by rw[cell_of_row w b (off+i) cs.toArray t (0,0) h];simp
  have hlt:off+i<cs.length:=by simp at hl;omega
  have hfz:=frozen_of_row w b (off+i) cs.toArray t h
  have e:(store ((⟨b,off,none⟩:Addr).add i) v).run P w=.ok () (dZ w b (.cells (cs.set (off+i) v).toArray t (0,0))):=by
   rw[Addr.add_mid,←Hi h]
   have hc:w.cell? ⟨b,off+i,none⟩=some cs[off+i]:=by rw[hcell];simp[hlt]
   have h10:=h1.1
   cases v<;>first
    | (simp[Value.oneCell'] at h10;done)
    | simp[store,Sem.run,hc,hfz]
  unfold storeCells
  rw[Sem.run_bind,e]
  show(storeCells ⟨b,off,none⟩ vs (i+1)).run P _=_
  have hh:(dZ w b (.cells (cs.set (off+i) v).toArray t (0,0))).heap[b]?=some (.cells (cs.set (off+i) v).toArray t (0,0)):=rD h
  rw[Hb vs (i+1) off _ (cs.set (off+i) v) hh (by simp at hl ⊢;omega) h1.2,W2]
  rw[show off+(i+1)=off+i+1 from by omega,NU (by simp at hl;omega)]
theorem ei.get:∀{L:List HP} {F:List Nat} {w:World} {i:Nat} {H:HP},ei L F w→L[i]?=some H→∃ids,H.sat ids w∧∀b∈ids,b∈F
 | [],_,_,_,_,_,h=>by simp at h
 | _::L,F,w,0,H,⟨j,G,hF,hj,_⟩,h=>by
  simp only[uP,Option.some.injEq] at h
  subst h;subst hF
  exact⟨j,hj,fun b hb=>by simp[hb]⟩
 | _::L,F,w,i+1,H,⟨j,G,hF,_,hG⟩,h=>by
  simp only[sr] at h
  obtain⟨ids,h1,h2⟩:=ei.get hG h
  subst hF
  exact⟨ids,h1,fun b hb=>by simp[h2 b hb]⟩
theorem St.sH{X:Cx}{L:List HP}{w:World}(h:St X L w){i b t:Nat}{cs:List Value}(hL:L[i]?=some (pt b cs t)):
  w.heap[b]?=some (.cells cs.toArray t (0,0))∧¬X.Fr b:=by
 obtain⟨F,hs,_,hb⟩:=h.sat
 obtain⟨ids,h1,h2⟩:=hs.get hL
 obtain⟨rfl,h1⟩:=h1
 exact⟨h1,(hb b (h2 b yi)).1⟩
theorem ei.set:∀{L:List HP} {F:List Nat} {w w':World} {i b t t':Nat} {cs cs':List Value},ei L F w→F.Nodup→L[i]?=some (pt b cs t) →
  w'.heap[b]?=some (.cells cs'.toArray t' (0,0))→(∀c,c≠b→w'.heap[c]?=w.heap[c]?)→ei (L.set i (pt b cs' t')) F w'
 | [],_,_,_,_,_,_,_,_,_,_,_,h,_,_=>by simp at h
 | _::L,F,w,w',0,b,t,t',cs,cs',⟨j,G,hF,hj,hG⟩,hn,h,h1,h2=>by
  simp only[uP,Option.some.injEq] at h
  subst h;subst hF
  obtain⟨rfl,hj⟩:=hj
  refine⟨[b],G,Z,⟨rfl,h1⟩,hG.loc fun c hc=>h2 c fun he=>?_⟩
  subst he
  simp at hn
  exact hn.1 hc
 | H::L,F,w,w',i+1,b,t,t',cs,cs',⟨j,G,hF,hj,hG⟩,hn,h,h1,h2=>by
  simp only[sr] at h
  subst hF
  obtain⟨hnj,hnG,hd⟩:=nN.1 hn
  obtain⟨ids,hp,hm⟩:=hG.get h
  obtain⟨rfl,_⟩:=hp
  have hb:=hm b yi
  exact⟨j,G,Z,H.loc j w w' (fun c hc=>h2 c fun he=>hd c hc b hb he) hj,ei.set hG hnG h h1 h2⟩
theorem St.set{X:Cx}{L:List HP}{w:World}(h:St X L w){i b t:Nat}{cs cs':List Value}(hL:L[i]?=some (pt b cs t)):
  St X (L.set i (pt b cs' t)) (dZ w b (.cells cs'.toArray t (0,0))):=by
 obtain⟨h0,hf⟩:=h.sH hL
 obtain⟨F,hs,hn,hb⟩:=h.sat
 refine⟨⟨F,hs.set hn hL (rD h0) (fun c hc=>FQ (Ne.symm hc)),hn,fun c hc=>⟨(hb c hc).1,by rw[Hk];exact(hb c hc).2⟩⟩,?_,h.low⟩
 exact N3
theorem St.alloc{X:Cx}{L:List HP}{w:World}(h:St X L w)(cs:List Value)(t:Nat):St X (pt w.heap.size cs t::L) (w.alloc (.cells cs.toArray t)):=
 ⟨h.sat.alloc h.rJ _ _ ⟨rfl,heap_alloc_new w _⟩,h.cP.trans (eL.alloc h.rJ _),h.low⟩
def Rd(agg:Bool)(n b off:Nat)(v:Value)(w:World):Prop:=
 match agg with
 | true=>∃cs:List Value,v=.agg cs.toArray∧cs.length=n∧w.rangeAt b off cs
 | false=>w.cell? ⟨b,off,none⟩=some v
theorem aN.ES{P:Program}{t:Nat}{ti:TI}(h:aN P t ti)(w:World):(isAgg t).run P w=.ok ti.aE.agg w:=by
 obtain⟨d,hd,hr⟩:=WL h w
 have hu:=h.aE
 unfold Go.isAgg
 rw[Sem.run_bind,hr]
 unfold ov at hu
 rw[hd] at hu
 cases d<;>simp at hu<;>rw[←hu]<;>rfl
theorem aN.nt{P:Program}{t:Nat}{ti:TI}(h:aN P t ti):∃i,P.info? t=some i∧i.size=ti.size∧i.bytes=ti.bytes∧i.zero=some ti.zero:=by
 have:=h.info
 cases hi:P.info? t with
 | none=>simp[hi] at this
 | some i=>exact⟨i,rfl,by simpa[hi] using this⟩
theorem MM{P:Program}{t:Nat}{ti:TI}(h:aN P t ti){b off:Nat}{v:Value}{w:World}(hr:Rd ti.aE.agg ti.size b off v w):
  (Instr.loadAt t (.pointer (some ⟨b,off,none⟩))).run P w=.ok v w:=by
 obtain⟨i,hi,hs,_,_⟩:=h.nt
 have ha:=h.ES w
 unfold Instr.loadAt
 simp only[Instr.sureAddr,Sem.run_bind,Sem.run_pure,Result.andThen_ok,loadVar,ha]
 cases hg:ti.aE.agg
 ·rw[hg] at hr
  simp only[Rd] at hr
  simp[Go.load,Sem.run,hr]
 ·rw[hg] at hr
  simp only[Rd] at hr
  obtain⟨cs,rfl,hl,hc⟩:=hr
  have hload:(loadCells ⟨b,off,none⟩ cs.length).run P w=.ok cs.toArray w:=
   run_loadCells_list (P:=P) w ⟨b,off,none⟩ cs (fun j v hv=>by rw[Addr.add_mid];exact hc j v hv)
  simp[Sem.run_bind,lN hi,hs,←hl,hload]
def aw(X:Cx)(L:List HP)(ti:TI)(b off:Nat)(v:Value):Prop:=∀w,St X L w→Rd ti.aE.agg ti.size b off v w
theorem G4{w:World}{b t:Nat}{cs:List Value}{fz:Nat×Nat}(h:w.heap[b]?=some (.cells cs.toArray t fz)){off:Nat}{v:Value}{n:Nat}(hv:cs[off]?=some v):Rd false n b off v w:=by
 show w.cell? _=_
 rw[cell_of_row w b off cs.toArray t fz h];simpa using hv
theorem Mq{w:World}{b t:Nat}{cs:List Value}{fz:Nat×Nat}(h:w.heap[b]?=some (.cells cs.toArray t fz)){off n:Nat}{ds:List Value}(hd:(cs.drop off).take n=ds)(hl:ds.length=n):Rd true n b off (.agg ds.toArray) w:=by
 refine⟨ds,Z,hl,fun j v hv=>?_⟩
 rw[cell_of_row w b (off+j) cs.toArray t fz h]
 have hj:j<ds.length:=(bP.1 hv).1
 rw[←hd] at hv
 rw[ss,if_pos yg,qY] at hv
 simpa using hv
theorem aw.one{X:Cx}{L:List HP}{ti:TI}{b off t:Nat}{cs:List Value}{v:Value}(i:Nat)(hL:L[i]?=some (pt b cs t))(hv:cs[off]?=some v)(ha:ti.aE.agg=false:=by rfl):aw X L ti b off v:=fun w hw=>by
 rw[ha];exact G4 (hw.sH hL).1 hv
theorem aw.many{X:Cx}{L:List HP}{ti:TI}{b off t:Nat}{cs ds:List Value}(i:Nat)(hL:L[i]?=some (pt b cs t))(hd:(cs.drop off).take ti.size=ds)(hl:ds.length=ti.size:=by rfl)(ha:ti.aE.agg=true:=by rfl):aw X L ti b off (.agg ds.toArray):=fun w hw=>by
 rw[ha];exact Mq (hw.sH hL).1 hd hl
theorem aw.Wy{X:Cx}{L:List HP}{ti:TI}{b off t:Nat}{cs:List Value}{fz:Nat×Nat}{v:Value}(hF:X.Fr b)(h0:X.w0.heap[b]?=some (.cells cs.toArray t fz))(hv:cs[off]?=some v)(ha:ti.aE.agg=false:=by rfl):aw X L ti b off v:=fun w hw=>by
 rw[ha];exact G4 ((hw.cP.block b hF).trans h0) hv
theorem aw.Wz{X:Cx}{L:List HP}{ti:TI}{b off t:Nat}{cs ds:List Value}{fz:Nat×Nat}(hF:X.Fr b)(h0:X.w0.heap[b]?=some (.cells cs.toArray t fz))(hd:(cs.drop off).take ti.size=ds)(hl:ds.length=ti.size:=by rfl)(ha:ti.aE.agg=true:=by rfl):aw X L ti b off (.agg ds.toArray):=fun w hw=>by
 rw[ha];exact Mq ((hw.cP.block b hF).trans h0) hd hl
theorem aw.rd{X:Cx}{L:List HP}{ti:TI}{b off:Nat}{v:Value}(hF:X.Fr b)(h0:Rd ti.aE.agg ti.size b off v X.w0):aw X L ti b off v:=fun w hw=>by
 have hb:=hw.cP.block b hF
 cases hg:ti.aE.agg
 ·rw[hg] at h0
  show w.cell? _=_
  unfold World.cell?;rw[hb];exact h0
 ·rw[hg] at h0
  obtain⟨cs,h1,h2,h3⟩:=h0
  refine⟨cs,h1,h2,fun j v hv=>?_⟩
  have:=h3 j v hv
  unfold World.cell? at this ⊢;rw[hb];exact this
section
variable {X:Cx} {ops:Array Oper} {G:GS} {l:List Oper} {e:Env} {L:List HP} {K:Env→List HP→Prop}
  {dst:Option Tmp} {ty:TypeId} {pos:String} {after:Array Edge} {guard:Option (Nat×Bool)}
theorem run_load{T:TypeId}{x:Operand}{ti:TI}{b off:Nat}{v:Value}(hx:ev e x=some (.pointer (some ⟨b,off,none⟩)))(hT:bR X.tab T=some ti)
  {a:Act} (ha:eT X.n a e) {w:World} (hr:Rd ti.aE.agg ti.size b off v w) (dst:Option Tmp) (ty:TypeId) (pos:String) (after:Array Edge) (guard:Option (Nat×Bool)):
  (execOp a.eval ⟨dst,.load T x,ty,pos,after,guard⟩).run X.P w=.ok (.value v) w:=by
 simp only[execOp,ha.ev hx]
 rw[Sem.run_bind,MM (X.ok.look hT) hr];rfl
theorem aK.load{T:TypeId}{x:Operand}{ti:TI}{b off:Nat}{v:Value}(hx:ev e x=some (.pointer (some ⟨b,off,none⟩)))(hT:bR X.tab T=some ti)(hr:aw X L ti b off v):
  aK X (.load T x) e L (fun u L'=>u=v∧L'=L):=fun _ w ha hw dst ty pos after guard=>
 .inl ⟨v,w,L,run_load hx hT ha (hr w hw) dst ty pos after guard,⟨rfl,rfl⟩,hw⟩
theorem VO.load{T:TypeId}{x:Operand}{ti:TI}{b off:Nat}{v:Value}(hx:ev e x=some (.pointer (some ⟨b,off,none⟩)))(hT:bR X.tab T=some ti)(hr:aw X L ti b off v)
  (hk:VO X ops G l (bW dst v e) L K)
  (hg:cB ops G guard=some true:=by rfl) (hd:cI X.n dst=true:=by rfl) (hf:cz G dst=true:=by rfl):
  VO X ops G (⟨dst,.load T x,ty,pos,after,guard⟩::l) e L K:=
 VO.op hg hd hf (aK.load hx hT hr) (fun _ _ ⟨h1,h2⟩=>by subst h1;subst h2;exact hk)
theorem VO.ld{T:TypeId}{x:Operand}{ti:TI}{b off t:Nat}{cs:List Value}{v:Value}(i:Nat)(hx:ev e x=some (.pointer (some ⟨b,off,none⟩)))(hL:L[i]?=some (pt b cs t))(hT:bR X.tab T=some ti)(hv:cs[off]?=some v)
  (hk:VO X ops G l (bW dst v e) L K) (ha:ti.aE.agg=false:=by rfl)
  (hg:cB ops G guard=some true:=by rfl) (hd:cI X.n dst=true:=by rfl) (hf:cz G dst=true:=by rfl):
  VO X ops G (⟨dst,.load T x,ty,pos,after,guard⟩::l) e L K:=VO.load hx hT (aw.one i hL hv ha) hk hg hd hf
theorem VO.dE{T:TypeId}{x:Operand}{ti:TI}{b off t:Nat}{cs:List Value}(i:Nat)(ds:List Value)(hx:ev e x=some (.pointer (some ⟨b,off,none⟩)))(hL:L[i]?=some (pt b cs t))(hT:bR X.tab T=some ti)(hv:(cs.drop off).take ti.size=ds)
  (hk:VO X ops G l (bW dst (.agg ds.toArray) e) L K) (hl:ds.length=ti.size:=by rfl) (ha:ti.aE.agg=true:=by rfl)
  (hg:cB ops G guard=some true:=by rfl) (hd:cI X.n dst=true:=by rfl) (hf:cz G dst=true:=by rfl):
  VO X ops G (⟨dst,.load T x,ty,pos,after,guard⟩::l) e L K:=VO.load hx hT (aw.many i hL hv hl ha) hk hg hd hf
theorem WK{P:Program}{T:Nat}{ti:TI}(h:aN P T ti){w:World}{b off t:Nat}{cs vs:List Value}{v:Value}(hb:w.heap[b]?=some (.cells cs.toArray t (0,0)))(hv:v.cells=vs.toArray)(hs:vs.length=ti.size)(hl:off+vs.length≤cs.length)(h1:vs.all Value.oneCell'=true):
  (Instr.storeAt T (.pointer (some ⟨b,off,none⟩)) v).run P w=.ok () (dZ w b (.cells (dM cs off vs).toArray t (0,0))):=by
 obtain⟨i,hi,hsz,_,_⟩:=h.nt
 have hr:=Hb (P:=P) vs 0 off w cs hb (by simpa using hl) h1
 simp only[wm] at hr
 have hcs:¬(v.cells.size≠i.size):=by rw[hv,hsz];simp[hs]
 simp[Instr.storeAt,Instr.sureAddr,storeVar,Sem.run_bind,lN hi,hv,hsz,hs,hr]
theorem aK.store{T:TypeId}{x y:Operand}{ti:TI}{b off t:Nat}{cs vs:List Value}{v:Value}(i:Nat)(hx:ev e x=some (.pointer (some ⟨b,off,none⟩)))(hy:ev e y=some v)(hL:L[i]?=some (pt b cs t))
  (hT:bR X.tab T=some ti) (hv:v.cells=vs.toArray) (hs:vs.length=ti.size) (hl:off+vs.length≤cs.length) (h1:vs.all Value.oneCell'=true):
  aK X (.store T x y) e L (fun u L'=>u=undef∧L'=L.set i (pt b (dM cs off vs) t)):=fun a w ha hw dst ty pos after guard=>by
 refine .inr (.inl ⟨_,_,?_,⟨rfl,Z⟩,hw.set hL⟩)
 simp only[execOp,ha.ev hx,ha.ev hy]
 rw[Sem.run_bind,WK (X.ok.look hT) (hw.sH hL).1 hv hs hl h1];rfl
theorem VO.st{T:TypeId}{x y:Operand}{ti:TI}{b off t:Nat}{cs cs':List Value}{v:Value}{L':List HP}(i:Nat)(hx:ev e x=some (.pointer (some ⟨b,off,none⟩)))(hy:ev e y=some v)(hL:L[i]?=some (pt b cs t))
  (hT:bR X.tab T=some ti) (hlt:off<cs.length) (hcs:cs.set off v=cs') (hL':L.set i (pt b cs' t)=L')
  (hk:VO X ops G l (bW dst undef e) L' K) (h1:v.oneCell'=true:=by rfl) (hv:v.cells=#[v]:=by rfl) (hsz:ti.size=1:=by rfl)
  (hg:cB ops G guard=some true:=by rfl) (hd:cI X.n dst=true:=by rfl) (hf:cz G dst=true:=by rfl):
  VO X ops G (⟨dst,.store T x y,ty,pos,after,guard⟩::l) e L K:=by
 refine VO.op hg hd hf (aK.store (vs:=[v]) i hx hy hL hT hv (by simp[hsz]) yh yj) (fun _ _ ⟨h3,h4⟩=>?_)
 subst h3;subst h4
 rw[Hx cs off v hlt,hcs,hL'];exact hk
theorem VO.AH{T:TypeId}{x y:Operand}{ti:TI}{b off t:Nat}{cs cs' vs:List Value}{L':List HP}(i:Nat)(hx:ev e x=some (.pointer (some ⟨b,off,none⟩)))(hy:ev e y=some (.agg vs.toArray))(hL:L[i]?=some (pt b cs t))
  (hT:bR X.tab T=some ti) (hl:off+vs.length≤cs.length) (hcs:dM cs off vs=cs') (hL':L.set i (pt b cs' t)=L') (h1:vs.all Value.oneCell'=true)
  (hk:VO X ops G l (bW dst undef e) L' K) (hs:vs.length=ti.size:=by rfl)
  (hg:cB ops G guard=some true:=by rfl) (hd:cI X.n dst=true:=by rfl) (hf:cz G dst=true:=by rfl):
  VO X ops G (⟨dst,.store T x y,ty,pos,after,guard⟩::l) e L K:=by
 refine VO.op hg hd hf (aK.store (vs:=vs) i hx hy hL hT Z hs hl h1) (fun _ _ ⟨h3,h4⟩=>?_)
 subst h3;subst h4
 rw[hcs,hL'];exact hk
theorem vH{P:Program}{t:Nat}{ti:TI}(h:aN P t ti)(w:World):(zeroValue t).run P w=.ok ti.zero w:=by
 obtain⟨i,hi,_,_,hz⟩:=h.nt
 simp[zeroValue,typeInfo,hi,hz]
theorem aK.alloc{T:TypeId}{ti:TI}(hT:bR X.tab T=some ti):aK X (.alloc T) e L (fun u L'=>∃b,u=.pointer (some ⟨b,0,none⟩)∧L'=pt b ti.zs T::L):=fun a w _ hw dst ty pos after guard=>by
 refine .inl ⟨.pointer (some ⟨w.heap.size,0,none⟩),w.alloc (.cells ti.zs.toArray T),pt w.heap.size ti.zs T::L,?_,⟨w.heap.size,Z,Z⟩,hw.alloc ti.zs T⟩
 have h:=X.ok.look hT
 simp[execOp,Instr.alloc,vH h,newVar,newRow,newObj,Sem.run,h.zero]
theorem VO.alloc{T:TypeId}{ti:TI}(hT:bR X.tab T=some ti)(hk:∀b,VO X ops G l (bW dst (.pointer (some ⟨b,0,none⟩)) e) (pt b ti.zs T::L) K)
  (hg:cB ops G guard=some true:=by rfl) (hd:cI X.n dst=true:=by rfl) (hf:cz G dst=true:=by rfl):
  VO X ops G (⟨dst,.alloc T,ty,pos,after,guard⟩::l) e L K:=
 VO.op hg hd hf (aK.alloc hT) (fun _ _ ⟨b,h1,h2⟩=>by subst h1;subst h2;exact hk b)
theorem aK.box{T:TypeId}{x:Operand}{v:Value}{vs:List Value}(hx:ev e x=some v)(hv:v.cells=vs.toArray):aK X (.box T x) e L (fun u L'=>∃b,u=.pointer (some ⟨b,0,none⟩)∧L'=pt b vs T::L):=fun a w ha hw dst ty pos after guard=>by
 refine .inl ⟨.pointer (some ⟨w.heap.size,0,none⟩),w.alloc (.cells vs.toArray T),pt w.heap.size vs T::L,?_,⟨w.heap.size,Z,Z⟩,hw.alloc vs T⟩
 simp[execOp,Instr.box,ha.ev hx,newVar,newRow,newObj,Sem.run,hv]
theorem VO.Js{T:TypeId}{x:Operand}{vs:List Value}(hx:ev e x=some (.agg vs.toArray))(hk:∀b,VO X ops G l (bW dst (.pointer (some ⟨b,0,none⟩)) e) (pt b vs T::L) K)
  (hg:cB ops G guard=some true:=by rfl) (hd:cI X.n dst=true:=by rfl) (hf:cz G dst=true:=by rfl):
  VO X ops G (⟨dst,.box T x,ty,pos,after,guard⟩::l) e L K:=
 VO.op hg hd hf (aK.box hx rfl) (fun _ _ ⟨b,h1,h2⟩=>by subst h1;subst h2;exact hk b)
theorem VO.QD{T:TypeId}{x:Operand}{v:Value}(hx:ev e x=some v)(hk:∀b,VO X ops G l (bW dst (.pointer (some ⟨b,0,none⟩)) e) (pt b [v] T::L) K)(hv:v.cells=#[v]:=by rfl)
  (hg:cB ops G guard=some true:=by rfl) (hd:cI X.n dst=true:=by rfl) (hf:cz G dst=true:=by rfl):
  VO X ops G (⟨dst,.box T x,ty,pos,after,guard⟩::l) e L K:=
 VO.op hg hd hf (aK.box hx hv) (fun _ _ ⟨b,h1,h2⟩=>by subst h1;subst h2;exact hk b)
end
end Vg
namespace Vg
open Go
def waits(ops:Array Oper)(j i:Nat):Bool:=
 match ops[j]? with
 | some o=>o.after.any fun e=>Region.binds .any e&&e.on == i
 | none=>false
theorem abg{P:Program}{ρ:Operand→Value}{o:Oper}{w w':World}{v:Value}(h:(execOp ρ o).run P w=.ok (.value v) w'):∀c,o.op≠.defer c:=by
 obtain⟨dst,op,ty,pos,after,guard⟩:=o
 rintro c rfl
 have e:execOp ρ ⟨dst,.defer c,ty,pos,after,guard⟩=(do pure (.defer (←resolve ρ c ty))):=rfl
 rw[e,Sem.run_bind] at h
 cases h2:(resolve ρ c ty).run P w with
 | ok d w2=>rw[h2] at h;cases h
 | halt y w2=>rw[h2] at h;cases h
section
variable {P:Program} {ops:Array Oper} {Q:Exit→Act→World→Prop} {ro:Option Nat}
theorem WT(o:Oper)(hs:∀cs b,o.op≠.select cs b)(a:Act)(dst:Option Tmp)(v:Value)(h:∀d,dst=some d→d∉o.looksAt ops):
  o.semAt (wR ro).round (a.put dst v).eval=o.semAt (wR ro).round a.eval:=by
 by_cases hd:∃c,o.op=.defer c
 ·obtain⟨c,hc⟩:=hd
  have hr:=resolve_congr (ρ:=(a.put dst v).eval) (ρ':=a.eval) c o.type fun x hx=>Act.eval_put fun d hd hxd=>h d hd (by
   subst hxd
   exact uQ _ (List.mem_filterMap.2 ⟨.tmp d,by rw[hc];simpa[Op.operands] using hx,Z⟩))
  unfold Oper.semAt
  cases hro:(wR ro).round with
  | none=>exact execOp_put o hs a dst v h
  | some l=>
   rw[hc]
   dsimp only
   rw[hr]
 ·have hn:∀c,o.op≠.defer c:=fun c e=>hd ⟨c,e⟩
  rw[Oper.semAt_eq _ _ o hn,Oper.semAt_eq _ _ o hn,execOp_put o hs a dst v h]
theorem PV{S:World→Prop}{i:Nat}{o:Oper}{v:Value}{a:Act}(hi:ops[i]?=some o)(hy:YieldsIf P ops S o v a)
  {K:Act→World→Prop} {w:World} (hS:S w) (h:K (a.put o.dst v) w):wpOpIn (wR ro) 0 P ops Q i K a w:=by
 unfold wpOpIn
 simp only[hi]
 rcases hy with ⟨hw,hv⟩ | ⟨hw,rfl⟩
 ·simp only[hw,if_true]
  refine⟨fun _ _=>trivial,?_⟩
  rw[MV ro _ o (abg (hv w hS)),hv w hS]
  exact h
 ·simp only[hw,Bool.false_eq_true,if_false]
  exact⟨fun _ _=>trivial,h⟩
theorem abI{S:World→Prop}{j:Nat}{oi oj:Oper}{v:Value}(hj:ops[j]?=some oj)(hap:oi.apart ops oj=true)
  (hsi:∀cs b,oi.op≠.select cs b) (hsj:∀cs b,oj.op≠.select cs b)
  (hQ:∀c a w,Q (.panic c) (a.put oi.dst v) w→Q (.panic c) a w) {K:Act→World→Prop} {a:Act} {w:World}
  (hy:YieldsIf P ops S oi v a) (h:wpOpIn (wR ro) 0 P ops Q j K (a.put oi.dst v) w):
  wpOpIn (wR ro) 0 P ops Q j (fun a' w'=>YieldsIf P ops S oi v a'∧K (a'.put oi.dst v) w') a w:=by
 obtain⟨h1,h2,h3⟩:=Oper.apart_spec hap
 have cP:∀(a:Act),YieldsIf P ops S oi v a→∀u,YieldsIf P ops S oi v (a.put oj.dst u):=fun a hy u=>
  hy.of_same (execOp_put oi hsi a oj.dst u h3) (wanted_put oi a oj.dst u h3)
 have keepD:∀d,YieldsIf P ops S oi v { a with defers:=d::a.defers }:=fun d=>hy.of_same rfl rfl
 unfold wpOpIn at *
 simp only[hj] at *
 rw[wanted_put oj a oi.dst v h1] at h
 split
 ·rename_i hw
  simp only[hw,if_true] at h
  refine⟨fun _ _=>trivial,?_⟩
  have h:=h.2
  rw[WT oj hsj a oi.dst v h1] at h
  generalize (oj.semAt (wR ro).round a.eval).run P w=r at *
  cases r with
  | ok x w'=>
   cases x<;>simp only[Oper.uponIn] at h ⊢
   case value u=>exact⟨cP a hy u,by rw[←Act.put_comm a v u h2];exact h⟩
   case skip=>exact⟨cP a hy _,by rw[←Act.put_comm a v undef h2];exact h⟩
   case defer d=>
    refine⟨cP _ (keepD d) _,?_⟩
    rw[←Act.put_comm _ v undef h2,←Act.put_defers]
    exact h
   case enter f args=>
    refine⟨h.1,CallsIn.mono h.2 fun e w'' he=>?_⟩
    cases e with
    | returned u=>exact⟨cP a hy u,by rw[←Act.put_comm a v u h2];exact he⟩
    | panicked c=>exact hQ _ _ _ he
    | outgrown=>exact he
   case row row args=>exact⟨h.1,RowsIn.mono h.2 fun u w'' he=>⟨cP a hy u,by rw[←Act.put_comm a v u h2];exact he⟩⟩
   case round l f tmps assign body=>
    refine⟨h.1,RoundIn.mono h.2 fun e w'' he=>?_⟩
    cases e with
    | returned u=>exact⟨cP a hy u,by rw[←Act.put_comm a v u h2];exact he⟩
    | panicked c=>exact hQ _ _ _ he
    | outgrown=>exact he
  | halt x w'=>
   cases x<;>simp only[Oper.uponIn] at h ⊢
   case panic u=>exact hQ _ _ _ h
 ·rename_i hw
  simp only[hw] at h
  exact⟨fun _ _=>trivial,cP a hy _,by rw[←Act.put_comm a v undef h2];exact h.2⟩
end
section
variable {P:Program} {ops:Array Oper} {Q:Exit→Act→World→Prop} {ro:Option Nat}
abbrev kA:=List (Nat×(World→Prop))
def tk(ro:Option Nat)(P:Program)(ops:Array Oper)(Q:Exit→Act→World→Prop):Nat→Array Bool→kA→Act→World→Prop
 | 0,listed,_,a,w=>Region.ready .any ops listed=[]∧Q .normal a w
 | fuel+1,listed,S,a,w=>
  (Region.ready .any ops listed=[]→Q .normal a w) ∧
  ∀j∈Region.ready .any ops listed,wpOpIn (wR ro) 0 P ops Q j (fun a' w'=>(∀p∈S,waits ops j p.1=false→p.2 w') ∧
   tk ro P ops Q fuel (listed.setIfInBounds j true) (S.filter fun p=>!waits ops j p.1) a' w') a w
theorem NS:∀(fuel:Nat) (listed:Array Bool) (S S':kA) (a:Act) (w:World),(∀p∈S',p∈S)→tk ro P ops Q fuel listed S a w→tk ro P ops Q fuel listed S' a w
 | 0,_,_,_,_,_,_,h=>h
 | fuel+1,_,S,S',_,_,hs,h=>⟨h.1,fun j hj=>wpOpIn_mono (fun a' w' h'=>⟨fun p hp=>h'.1 p (hs p hp),NS fuel _ _ _ a' w' (fun p hp=>by
   rw[iS] at hp ⊢;exact⟨hs p hp.1,hp.2⟩) h'.2⟩) (h.2 j hj)⟩
theorem NT:∀(fuel:Nat) (listed:Array Bool) (S:kA) (a:Act) (w:World),tk ro P ops Q fuel listed S a w→wpAnyIn (wR ro) 0 P .any ops Q fuel listed a w
 | 0,_,_,_,_,h=>h
 | fuel+1,_,_,_,_,h=>⟨h.1,fun j hj=>wpOpIn_mono (fun a' w' h'=>NT fuel _ _ a' w' h'.2) (h.2 j hj)⟩
theorem abH{i:Nat}{oi:Oper}{v:Value}{Si:World→Prop}(hi:ops[i]?=some oi)(hsel:∀(j:Nat) (o:Oper) cs b,ops[j]?=some o→o.op≠.select cs b)
  (hQ:∀c a w,Q (.panic c) (a.put oi.dst v) w→Q (.panic c) a w):
  ∀(fuel:Nat) (listed:Array Bool) (S:kA) (a:Act) (w:World),
   (∀j oj,ops[j]?=some oj→j≠i→listed.getD j true=false→(∀e∈oj.after,Region.binds .any e=true→e.on≠i)→oi.apart ops oj=true) →
   i∈Region.ready .any ops listed→YieldsIf P ops Si oi v a→Si w→(∀p∈S,p.2 w) →
   tk ro P ops Q fuel (listed.setIfInBounds i true) ((i,Si)::S) (a.put oi.dst v) w→tk ro P ops Q (fuel+1) listed S a w:=by
 intro fuel
 induction fuel with
 | zero=>
  intro listed S a w _ hr hy hS hall H
  refine⟨fun h=>(by rw[h] at hr;cases hr),fun j hj=>?_⟩
  by_cases hji:j=i
  ·subst hji;exact PV hi hy hS ⟨fun p hp _=>hall p hp,H⟩
  ·have:=ready_mono hj hji
   rw[H.1] at this
   cases this
 | succ fuel ih=>
  intro listed S a w hfree hr hy hS hall H
  refine⟨fun h=>(by rw[h] at hr;cases hr),fun j hj=>?_⟩
  by_cases hji:j=i
  ·subst hji
   exact PV hi hy hS ⟨fun p hp _=>hall p hp,NS _ _ _ _ _ _ (fun p hp=>kW _ (iS.1 hp).1) H⟩
  ·have h1:=H.2 j (ready_mono hj hji)
   obtain⟨hjun,oj,hoj,hall'⟩:=mem_ready.1 hj
   have hnot:∀e∈oj.after,Region.binds .any e=true→e.on≠i:=fun e he hb heq=>by
    have h1:=hall' e he hb
    have h0:=(mem_ready.1 hr).1
    rw[heq] at h1
    rcases Nat.lt_or_ge i listed.size with h' | h'
    ·simp[h'] at h0 h1;rw[h0] at h1;cases h1
    ·simp[Array.getElem?_eq_none h'] at h1
   have hwt:waits ops j i=false:=by
    unfold waits;rw[hoj]
    cases hany:oj.after.any fun e=>Region.binds .any e&&e.on == i
    ·exact hany
    ·obtain⟨e,he,hb⟩:=Array.any_eq_true'.1 hany
     simp only[eG,beq_iff_eq] at hb
     exact(hnot e he hb.1 hb.2).elim
   have h2:=abI hoj (hfree j oj hoj hji hjun hnot) (fun cs b=>hsel i oi cs b hi) (fun cs b=>hsel j oj cs b hoj) hQ hy h1
   have hfree':∀k ok,ops[k]?=some ok→k≠i→(listed.setIfInBounds j true).getD k true=false →
     (∀e∈ok.after,Region.binds .any e=true→e.on≠i)→oi.apart ops ok=true:=fun k ok hk hki hun hno=>by
    refine hfree k ok hk hki ?_ hno
    by_cases hjk:j=k
    ·subst hjk;exact hjun
    ·rw[getD_set_ne true hjk] at hun;exact hun
   refine wpOpIn_mono (fun a' w' h3=>?_) h2
   obtain⟨hy',hst,H'⟩:=h3
   refine⟨fun p hp hq=>hst p (kW _ hp) hq,?_⟩
   refine ih (listed.setIfInBounds j true) _ a' w' hfree' (ready_mono hr (Ne.symm hji)) hy' (hst (i,Si) (qZ ..) hwt) (fun p hp=>?_) ?_
   ·have:=iS.1 hp
    exact hst p (kW _ this.1) (by simpa using this.2)
   ·rw[Array.setIfInBounds_comm _ _ hji]
    rw[List.filter_cons_of_pos (by simp[hwt])] at H'
    exact H'
theorem DQ:∀(fuel:Nat) (listed:Array Bool) (S S':kA) (a:Act) (w:World),(∀p∈S',p∈S∨∀w,p.2 w)→tk ro P ops Q fuel listed S a w→tk ro P ops Q fuel listed S' a w
 | 0,_,_,_,_,_,_,h=>h
 | fuel+1,_,S,S',_,_,hs,h=>⟨h.1,fun j hj=>wpOpIn_mono (fun a' w' h'=>⟨fun p hp hq=>(hs p hp).elim (fun h=>h'.1 p h hq) (fun h=>h w'),DQ fuel _ _ _ a' w' (fun p hp=>by
   rw[iS] at hp
   rcases hs p hp.1 with h1 | h1
   ·exact .inl (iS.2 ⟨h1,hp.2⟩)
   ·exact .inr h1) h'.2⟩) (h.2 j hj)⟩
inductive iE where
 | nil
 | take (i:Nat) (p:iE)
 | only(i:Nat) (p:iE)
 | two (i j:Nat) (p q:iE)
 | three (i j m:Nat) (p q r:iE)
def iE.len:iE→Nat
 | .nil=>0
 | .take _ p=>p.len+1
 | .only _ p=>p.len+1
 | .two _ _ p _=>p.len+1
 | .three _ _ _ p _ _=>p.len+1
def ts(i:Nat):Nat→iE→iE
 | 0,p=>p
 | n+1,p=>.take i (ts (i+1) n p)
def om(ops:Array Oper):Array Bool→iE→Bool
 | listed,.nil=>(Region.ready .any ops listed).isEmpty
 | listed,.take i r=>(Region.ready .any ops listed).contains i&&Region.free .any ops listed i&&om ops (listed.setIfInBounds i true) r
 | listed,.only i r=>(Region.ready .any ops listed == [i])&&om ops (listed.setIfInBounds i true) r
 | listed,.two i j p q=>(Region.ready .any ops listed == [i,j])&&om ops (listed.setIfInBounds i true) p&&om ops (listed.setIfInBounds j true) q&&Nat.beq p.len q.len
 | listed,.three i j m p q r=>(Region.ready .any ops listed == [i,j,m])&&om ops (listed.setIfInBounds i true) p&&om ops (listed.setIfInBounds j true) q&&om ops (listed.setIfInBounds m true) r&&Nat.beq p.len q.len&&Nat.beq p.len r.len
end
def VA(X:Cx)(ops:Array Oper)(G:GS)(pl:iE)(S:kA)(e:Env)(L:List HP)(K:Env→List HP→Prop):Prop:=
 ∀(Q':Exit→Act→World→Prop),(∀c a w,¬Q' (.panic c) a w)→(∀e' L' a' w',eT X.n a' e'→St X L' w'→K e' L'→Q' .normal a' w')→Region.noSelect ops=true →
  ∀ro listed a w,om ops listed pl=true→eT X.n a e→oF G a→St X L w→(∀p∈S,p.2 w)→tk ro X.P ops Q' pl.len listed S a w
section
variable {X:Cx} {ops:Array Oper} {G:GS} {pl:iE} {S:kA} {e:Env} {L:List HP} {K:Env→List HP→Prop}
theorem VA.nil(h:K e L):VA X ops G .nil S e L K:=by
 intro Q' _ hQ _ ro listed a w hp ha _ hw _
 simp only[om,List.isEmpty_iff] at hp
 exact⟨hp,hQ _ _ _ _ ha hw h⟩
theorem VA.first{i:Nat}{o:Oper}{v:Value}{Si:World→Prop}(hi:ops.toList[i]?=some o)(hd:cI X.n o.dst=true)(hf:cz G o.dst=true)
  (hy:∀a,eT X.n a e→oF G a→YieldsIf X.P ops Si o v a) (hS:∀w,St X L w→Si w) (hk:VA X ops G pl ((i,Si)::S) (bW o.dst v e) L K):VA X ops G (.take i pl) S e L K:=by
 intro Q' hp0 hQ hsel ro listed a w hp ha hG hw hall
 simp only[om,eG] at hp
 have hi':ops[i]?=some o:=by simpa using hi
 exact abH hi' (Region.noSelect_spec hsel) (fun c a w h=>(hp0 c _ w h).elim) pl.len listed S a w (Region.free_spec hi' hp.1.2) (by simpa using hp.1.1) (hy a ha hG) (hS w hw) hall
  (hk Q' hp0 hQ hsel ro _ _ w hp.2 (ha.bW hd v) (hG.put hf v) hw (fun p h=>by
   rcases iD.1 h with rfl | h
   ·exact hS w hw
   ·exact hall p h))
theorem VA.pure{i:Nat}{o:Oper}{v:Value}(hi:ops.toList[i]?=some o)(hg:cB ops G o.guard=some true)(hd:cI X.n o.dst=true)(hf:cz G o.dst=true)
  (hl:fo X o.op e v) (hk:VA X ops G pl S (bW o.dst v e) L K):VA X ops G (.take i pl) S e L K:=by
 refine VA.first (Si:=fun _=>True) hi hd hf (fun a ha hG=>.inl ⟨rB hG hg,fun w _=>hl a ha _ _ _ _ _ w⟩) (fun _ _=>trivial) ?_
 intro Q' hp0 hQ hsel ro listed a w hp ha hG hw hall
 have:=hk Q' hp0 hQ hsel ro listed a w hp ha hG hw (fun p h=>hall p (kW _ h))
 exact DQ pl.len listed S _ a w (fun p hp=>by
  rcases iD.1 hp with rfl | hp
  ·exact .inr fun _=>trivial
  ·exact .inl hp) this
theorem VA.off{i:Nat}{o:Oper}(hi:ops.toList[i]?=some o)(hg:cB ops G o.guard=some false)(hd:cI X.n o.dst=true)(hf:cz G o.dst=true)
  (hk:VA X ops G pl S (bW o.dst undef e) L K):VA X ops G (.take i pl) S e L K:=by
 refine VA.first (Si:=fun _=>True) hi hd hf (fun a ha hG=>.inr ⟨rB hG hg,Z⟩) (fun _ _=>trivial) ?_
 intro Q' hp0 hQ hsel ro listed a w hp ha hG hw hall
 have:=hk Q' hp0 hQ hsel ro listed a w hp ha hG hw (fun p h=>hall p (kW _ h))
 exact DQ pl.len listed S _ a w (fun p hp=>by
  rcases iD.1 hp with rfl | hp
  ·exact .inr fun _=>trivial
  ·exact .inl hp) this
theorem VA.load{i:Nat}{dst:Option Tmp}{ty:TypeId}{pos:String}{after:Array Edge}{guard:Option (Nat×Bool)}{T:TypeId}{x:Operand}{ti:TI}{b off:Nat}{v:Value}
  (hi:ops.toList[i]?=some ⟨dst,.load T x,ty,pos,after,guard⟩) (hx:ev e x=some (.pointer (some ⟨b,off,none⟩))) (hT:bR X.tab T=some ti) (hr:aw X L ti b off v)
  (hk:VA X ops G pl ((i,Rd ti.aE.agg ti.size b off v)::S) (bW dst v e) L K)
  (hg:cB ops G guard=some true:=by rfl) (hd:cI X.n dst=true:=by rfl) (hf:cz G dst=true:=by rfl):VA X ops G (.take i pl) S e L K:=
 VA.first (Si:=Rd ti.aE.agg ti.size b off v) hi hd hf (fun _ ha hG=>.inl ⟨rB hG hg,fun _ hw=>run_load hx hT ha hw _ _ _ _ _⟩) hr hk
theorem VA.ld{j:Nat}{dst:Option Tmp}{ty:TypeId}{pos:String}{after:Array Edge}{guard:Option (Nat×Bool)}{T:TypeId}{x:Operand}{ti:TI}{b off t:Nat}{cs:List Value}{v:Value}(i:Nat)
  (hi:ops.toList[j]?=some ⟨dst,.load T x,ty,pos,after,guard⟩) (hx:ev e x=some (.pointer (some ⟨b,off,none⟩))) (hL:L[i]?=some (pt b cs t)) (hT:bR X.tab T=some ti) (hv:cs[off]?=some v)
  (hk:VA X ops G pl ((j,Rd ti.aE.agg ti.size b off v)::S) (bW dst v e) L K) (ha:ti.aE.agg=false:=by rfl)
  (hg:cB ops G guard=some true:=by rfl) (hd:cI X.n dst=true:=by rfl) (hf:cz G dst=true:=by rfl):VA X ops G (.take j pl) S e L K:=
 VA.load hi hx hT (aw.one i hL hv ha) hk hg hd hf
theorem VA.dE{j:Nat}{dst:Option Tmp}{ty:TypeId}{pos:String}{after:Array Edge}{guard:Option (Nat×Bool)}{T:TypeId}{x:Operand}{ti:TI}{b off t:Nat}{cs:List Value}(i:Nat)(ds:List Value)
  (hi:ops.toList[j]?=some ⟨dst,.load T x,ty,pos,after,guard⟩) (hx:ev e x=some (.pointer (some ⟨b,off,none⟩))) (hL:L[i]?=some (pt b cs t)) (hT:bR X.tab T=some ti) (hv:(cs.drop off).take ti.size=ds)
  (hk:VA X ops G pl ((j,Rd ti.aE.agg ti.size b off (.agg ds.toArray))::S) (bW dst (.agg ds.toArray) e) L K) (hl:ds.length=ti.size:=by rfl) (ha:ti.aE.agg=true:=by rfl)
  (hg:cB ops G guard=some true:=by rfl) (hd:cI X.n dst=true:=by rfl) (hf:cz G dst=true:=by rfl):VA X ops G (.take j pl) S e L K:=
 VA.load hi hx hT (aw.many i hL hv hl ha) hk hg hd hf
theorem VA.op{i:Nat}{o:Oper}{M:Value→List HP→Prop}(hi:ops.toList[i]?=some o)
  (hg:cB ops G o.guard=some true) (hd:cI X.n o.dst=true) (hf:cz G o.dst=true) (h:aK X o.op e L M)
  (hst:∀v L',M v L'→∀w,St X L' w→∀p∈S,waits ops i p.1=false→p.2 w)
  (hk:∀v L',M v L'→VA X ops G pl (S.filter fun p=>!waits ops i p.1) (bW o.dst v e) L' K):VA X ops G (.only i pl) S e L K:=by
 intro Q' hp0 hQ hsel ro listed a w hp ha hG hw hall
 simp only[om,eG,beq_iff_eq] at hp
 have hi':ops[i]?=some o:=by simpa using hi
 have hpr:=hp.1
 refine⟨fun h0=>yk,fun j hj=>?_⟩
 rw[hpr,fe] at hj
 subst hj
 unfold wpOpIn
 rw[hi']
 simp only[rB hG hg,if_true]
 refine h.wp ha hw (fun v L' w' hm hs=>⟨fun p hp1 hp2=>hst v L' hm w' hs p hp1 hp2,?_⟩)
 exact hk v L' hm Q' hp0 hQ hsel ro _ _ w' hp.2 (ha.bW hd v) (hG.put hf v) hs (fun p hp1=>hst v L' hm w' hs p (iS.1 hp1).1 yl)
theorem VA.two{i j:Nat}{oi oj:Oper}{p q:iE}{M N:Value→List HP→Prop}(hi:ops.toList[i]?=some oi)(hj:ops.toList[j]?=some oj)
  (hgi:cB ops G oi.guard=some true) (hdi:cI X.n oi.dst=true) (hfi:cz G oi.dst=true) (hi2:aK X oi.op e L M)
  (hgj:cB ops G oj.guard=some true) (hdj:cI X.n oj.dst=true) (hfj:cz G oj.dst=true) (hj2:aK X oj.op e L N)
  (hsti:∀v L',M v L'→∀w,St X L' w→∀p∈S,waits ops i p.1=false→p.2 w) (hstj:∀v L',N v L'→∀w,St X L' w→∀p∈S,waits ops j p.1=false→p.2 w)
  (hki:∀v L',M v L'→VA X ops G p (S.filter fun p=>!waits ops i p.1) (bW oi.dst v e) L' K)
  (hkj:∀v L',N v L'→VA X ops G q (S.filter fun p=>!waits ops j p.1) (bW oj.dst v e) L' K):VA X ops G (.two i j p q) S e L K:=by
 intro Q' hp0 hQ hsel ro listed a w hp ha hG hw hall
 simp only[om,eG,beq_iff_eq] at hp
 obtain⟨⟨⟨hpr,hpi⟩,hpj⟩,hlen⟩:=hp
 have hlen:=pg hlen
 have hi':ops[i]?=some oi:=by simpa using hi
 have hj':ops[j]?=some oj:=by simpa using hj
 refine⟨fun h0=>yk,fun k hk=>?_⟩
 rw[hpr] at hk
 rcases iD.1 hk with rfl | hk
 ·unfold wpOpIn
  rw[hi']
  simp only[rB hG hgi,if_true]
  refine hi2.wp ha hw (fun v L' w' hm hs=>⟨fun p hp1 hp2=>hsti v L' hm w' hs p hp1 hp2,?_⟩)
  exact hki v L' hm Q' hp0 hQ hsel ro _ _ w' hpi (ha.bW hdi v) (hG.put hfi v) hs (fun p hp1=>hsti v L' hm w' hs p (iS.1 hp1).1 yl)
 ·rw[fe] at hk
  subst hk
  unfold wpOpIn
  rw[hj']
  simp only[rB hG hgj,if_true]
  refine hj2.wp ha hw (fun v L' w' hm hs=>⟨fun p hp1 hp2=>hstj v L' hm w' hs p hp1 hp2,?_⟩)
  rw[hlen]
  exact hkj v L' hm Q' hp0 hQ hsel ro _ _ w' hpj (ha.bW hdj v) (hG.put hfj v) hs (fun p hp1=>hstj v L' hm w' hs p (iS.1 hp1).1 yl)
theorem VA.split(d:Nat){b:Bool}(hb:look e d=some (.bool b))(hd:Nat.blt d X.n=true)
  (ht:b=true→VA X ops ((d,true)::G) pl S ((d,.bool true)::e) L K) (hf:b=false→VA X ops ((d,false)::G) pl S ((d,.bool false)::e) L K):VA X ops G pl S e L K:=by
 intro Q' hp0 hQ hsel ro listed a w hp ha hG hw hall
 have hs:a.tmps[d]?=some (.bool b):=by
  have:=ha.at_ d _ hb
  have hlt:d<a.tmps.size:=by rw[ha.size];exact Nat.blt_eq.mp hd
  simpa[hlt] using this
 have key:∀c,b=c→eT X.n a ((d,.bool c)::e)∧oF ((d,c)::G) a:=fun c hc=>by
  subst hc
  refine⟨⟨ha.size,ha.defers,fun t u ht=>?_⟩,fun t u ht=>?_⟩
  ·simp only[look] at ht
   cases hq:Nat.beq d t
   ·rw[hq] at ht;exact ha.at_ t u ht
   ·rw[hq] at ht
    have:=pg hq
    subst this
    simp only[cond_true,Option.some.injEq] at ht
    subst ht;exact ha.at_ _ _ hb
  ·simp only[qw] at ht
   cases hq:Nat.beq d t
   ·rw[hq] at ht;exact hG t u ht
   ·rw[hq] at ht
    have:=pg hq
    subst this
    simp only[cond_true,Option.some.injEq] at ht
    subst ht;exact hs
 cases b
 ·exact hf Z Q' hp0 hQ hsel ro listed a w hp (key _ Z).1 (key _ Z).2 hw hall
 ·exact ht Z Q' hp0 hQ hsel ro listed a w hp (key _ Z).1 (key _ Z).2 hw hall
theorem VA.yes(d:Nat){b:Bool}(c:Bool)(hb:look e d=some (.bool b))(hc:b=c)(h:VA X ops ((d,c)::G) pl S ((d,.bool c)::e) L K)(hd:Nat.blt d X.n=true:=by rfl):VA X ops G pl S e L K:=by
 subst hc
 refine VA.split d hb hd (fun h'=>?_) (fun h'=>?_)
 ·subst h';exact h
 ·subst h';exact h
theorem VA.aj{L':List HP}(hs:dd X L L')(h:VA X ops G pl S e L' K):VA X ops G pl S e L K:=
 fun Q' hp0 hQ hsel ro listed a w hp ha hG hw hall=>h Q' hp0 hQ hsel ro listed a w hp ha hG (hs w hw) hall
end
def xy(n:Nat)(tab:oG)(ops:List Oper)(G:GS):iE→Env→(iE→Env→Prop)→Prop
 | .nil,e,k=>k .nil e
 | .only i r,e,k=>k (.only i r) e
 | .two i j p q,e,k=>k (.two i j p q) e
 | .three i j m p q r,e,k=>k (.three i j m p q r) e
 | .take i r,e,k=>vu ops i (fun o=>match o.dst with
  | none=>k (.take i r) e
  | some d=>match qw G d,Nat.blt d n with
   | none,true=>match o.guard with
    | none=>xu tab e o.op (fun v=>xy n tab ops G r ((d,v)::e) k) (k (.take i r) e)
    | some (j,want)=>vu ops j (fun oj=>match oj.dst with
     | some dj=>match qw G dj with
      | some b=>match gB b want with
       | true=>xu tab e o.op (fun v=>xy n tab ops G r ((d,v)::e) k) (k (.take i r) e)
       | false=>xy n tab ops G r ((d,undef)::e) k
      | none=>k (.take i r) e
     | none=>k (.take i r) e) (k (.take i r) e)
   | _,_=>k (.take i r) e) (k (.take i r) e)
theorem VA.go{X:Cx}{ops:Array Oper}{G:GS}{S:kA}{L:List HP}{K:Env→List HP→Prop}:∀{pl:iE} {e:Env},
  xy X.n X.tab ops.toList G pl e (fun pl' e'=>VA X ops G pl' S e' L K)→VA X ops G pl S e L K
 | .nil,e,h=>h
 | .only i r,e,h=>h
 | .two i j p q,e,h=>h
 | .three i j m p q r,e,h=>h
 | .take i r,e,h=>by
  unfold xy at h
  rcases xj h with ⟨o,ho,h⟩ | h
  case inr=>exact h
  split at h
  ·exact h
  ·rename_i d hd
   split at h
   ·rename_i hgl hlt
    have hdst:cI X.n o.dst=true:=by rw[hd];exact hlt
    have hfree:cz G o.dst=true:=by rw[hd];simp[cz,hgl]
    have step:∀{v},cB ops G o.guard=some true→fo X o.op e v→xy X.n X.tab ops.toList G r ((d,v)::e) (fun pl' e'=>VA X ops G pl' S e' L K)→VA X ops G (.take i r) S e L K:=fun {v} hg hl hk=>by
     refine VA.pure ho hg hdst hfree hl ?_
     rw[hd]
     exact VA.go hk
    split at h
    ·rename_i hgd
     rcases C2 h with ⟨v,hl,hk⟩ | h
     ·exact step (by rw[hgd];rfl) hl hk
     ·exact h
    ·rename_i j want hgd
     rcases xj h with ⟨oj,hj,h⟩ | h
     ·split at h
      ·rename_i dj hdj
       split at h
       ·rename_i b hb
        have hgo:cB ops G o.guard=some (gB b want):=by
         rw[hgd];simp only[cB,hj,hdj,hb]
        split at h
        ·rename_i hbw
         rw[hbw] at hgo
         rcases C2 h with ⟨v,hl,hk⟩ | h
         ·exact step hgo hl hk
         ·exact h
        ·rename_i hbw
         rw[hbw] at hgo
         refine VA.off ho hgo hdst hfree ?_
         rw[hd]
         exact VA.go h
       ·exact h
      ·exact h
     ·exact h
   ·exact h
theorem VC.draw{X:Cx}{id:Nat}{l:List Oper}{e:Env}{L:List HP}{Q:Exit→Env→List HP→Prop}(pl:iE)(hmix:X.P.follows .mixedOrders=true)
  (hp:(Region.noSelect l.toArray&&Nat.beq pl.len l.length&&om l.toArray (Array.replicate l.length false) pl)=true)
  (h:VA X l.toArray [] pl [] e L (Q .normal)):VC X (.region id l.toArray true) e L Q:=by
 intro ro a w ha hw
 simp only[eG] at hp
 have hlen:pl.len=l.length:=pg hp.1.2
 refine Code.wpIn_mono (Q:=fun x a' w'=>match x with | .normal=>∃e' L',eT X.n a' e'∧St X L' w'∧Q .normal e' L' | _=>False) (fun x a' w' hx=>?_) (wpIn_region_any hmix ?_)
 ·cases x<;>first | exact hx | exact hx.elim
 ·have:=h (fun x a' w'=>match x with | .normal=>∃e' L',eT X.n a' e'∧St X L' w'∧Q .normal e' L' | _=>False) (fun _ _ _ h=>h) (fun e' L' _ _ h1 h2 h3=>⟨e',L',h1,h2,h3⟩) hp.1.1 ro
   (Array.replicate l.length false) a { w with drawn:=w.drawn+1 } hp.2 ha (oF.nil a) hw.drew (fun _ h=>by cases h)
  rw[hlen] at this
  have h2:=NT _ _ _ _ _ this
  simpa using h2
end Vg
namespace Vg
open Go
theorem qR{P:Program}{t:Nat}{ti:TI}{el:Nat}(h:aN P t ti)(hu:ti.aE=.slice el):P.underlying t=some (.slice el):=by
 have:=h.aE
 rw[hu] at this
 unfold ov at this
 split at this<;>simp_all
theorem NA{P:Program}{t:Nat}{ti:TI}{n el:Nat}(h:aN P t ti)(hu:ti.aE=.array n el):P.underlying t=some (.array n el):=by
 have:=h.aE
 rw[hu] at this
 unfold ov at this
 split at this<;>simp_all
theorem Hs{P:Program}{t:Nat}{ti:TI}{k:IntKind}(h:aN P t ti)(hu:ti.aE=.int k):P.underlying t=some (.int k):=by
 have:=h.aE
 rw[hu] at this
 unfold ov at this
 split at this<;>simp_all
theorem DH{P:Program}{t:Nat}{ti:TI}(h:aN P t ti)(hu:ti.aE=.string):P.underlying t=some .string:=by
 have:=h.aE
 rw[hu] at this
 unfold ov at this
 split at this<;>simp_all
theorem aa8{P:Program}{t:Nat}{ti:TI}{fs:List (Nat×Nat)}(h:aN P t ti)(hu:ti.aE=.struct fs):
  ∃flds,P.underlying t=some (.struct flds)∧flds.toList.map (fun f=>(f.offset,((P.info? f.type).map (·.size)).getD 0))=fs:=by
 have:=h.aE
 rw[hu] at this
 unfold ov at this
 split at this<;>simp at this
 rename_i fl hfl
 exact⟨fl,hfl,by simpa using this⟩
theorem eE{X:Cx}{e:Env}{T:TypeId}{x y:Operand}{tt te:TI}{el b off len cap:Nat}{k:IntKind}{i:Int}(m:Nat)(hx:ev e x=some (.slice (some ⟨b,off,none⟩) len cap))(hy:ev e y=some (.int k i))
  (hT:bR X.tab T=some tt) (hu:tt.aE=.slice el) (hE:bR X.tab el=some te) (hm:i=m) (hlt:m<len):
  fo X (.indexAddr T x y) e (.pointer (some ⟨b,off+m*te.size,none⟩)):=by
 intro a ha dst ty pos after guard w
 have h1:=qR (X.ok.look hT) hu
 obtain⟨i2,hi2,hs2,_,_⟩:=(X.ok.look hE).nt
 subst hm
 simp[execOp,ha.ev hx,ha.ev hy,Instr.indexAt,asIntOf,run_underlying h1,hlt,lN hi2,hs2,Addr.add_mid]
theorem iL{X:Cx}{e:Env}{T:TypeId}{x y:Operand}{tt te:TI}{el b off len:Nat}{k:IntKind}{i:Int}(m:Nat)(hx:ev e x=some (.pointer (some ⟨b,off,none⟩)))(hy:ev e y=some (.int k i))
  (hT:bR X.tab T=some tt) (hu:tt.aE=.array len el) (hE:bR X.tab el=some te) (hm:i=m) (hlt:m<len):
  fo X (.indexAddr T x y) e (.pointer (some ⟨b,off+m*te.size,none⟩)):=by
 intro a ha dst ty pos after guard w
 have h1:=NA (X.ok.look hT) hu
 obtain⟨i2,hi2,hs2,_,_⟩:=(X.ok.look hE).nt
 subst hm
 simp[execOp,ha.ev hx,ha.ev hy,Instr.indexAt,asIntOf,run_underlying h1,hlt,lN hi2,hs2,Addr.add_mid,Instr.sureAddr]
theorem zZ{X:Cx}{e:Env}{xt yt:TypeId}{x y:Operand}{k:IntKind}{a b:Int}(hx:ev e x=some (.int k a))(hy:ev e y=some (.int k b))(ha0:0≤a)(hb0:0<b):
  fo X (.binOp .rem xt x y yt) e (.int k (a % b)):=by
 intro a' ha dst ty pos after guard w
 have hb:b≠0:=by omega
 have ht:a.tmod b=a % b:=Int.tmod_eq_emod_of_nonneg ha0
 simp[execOp,ha.ev hx,ha.ev hy,eqGuard,binOp,Op.intDiv,hb,ht]
theorem K3{X:Cx}{e:Env}{T:TypeId}{x y z:Operand}{tt te:TI}{el b off len cap:Nat}{k k':IntKind}{i j:Int}(lo hi:Nat)(hx:ev e x=some (.slice (some ⟨b,off,none⟩) len cap))(hy:ev e y=some (.int k i))(hz:ev e z=some (.int k' j))
  (hT:bR X.tab T=some tt) (hu:tt.aE=.slice el) (hE:bR X.tab el=some te) (hlo:i=lo) (hhi:j=hi) (h1:lo≤hi) (h2:hi≤cap) (h3:lo<cap):
  fo X (.slice T x (some y) (some z) none) e (.slice (some ⟨b,off+lo*te.size,none⟩) (hi-lo) (cap-lo)):=by
 intro a ha dst ty pos after guard w
 have hd:=qR (X.ok.look hT) hu
 obtain⟨i2,hi2,hs2,_,_⟩:=(X.ok.look hE).nt
 subst hlo;subst hhi
 have hne:¬cap=lo:=by omega
 simp[execOp,ha.ev hx,ha.ev hy,ha.ev hz,Instr.sliceAt,Instr.slice,Instr.sliceBounds,Instr.sliceBound,asIntOf,run_underlying hd,h1,h2,lN hi2,hs2,Addr.add_mid,hne]
theorem Kt:∀(vs:List Value) (k off:Nat) (cs:List Value),off+k+vs.length≤cs.length →
  (vs.zipIdx k).foldl (fun(c:Array Value) (x:Value×Nat)=>c.setIfInBounds (off+x.2) x.1) cs.toArray=(dM cs (off+k) vs).toArray
 | [],k,off,cs,_=>by rw[Hw];rfl
 | v::vs,k,off,cs,h=>by
  have h':off+k+(vs.length+1)≤cs.length:=by simpa using h
  simp only[List.zipIdx_cons,qW,List.setIfInBounds_toArray]
  rw[Kt vs (k+1) off (cs.set (off+k) v) yh,show off+(k+1)=off+k+1 from by omega,NU h']
def rz(place:Nat→Option (Nat×Nat)):List Value→List (Nat×Value)→Option (List Value)
 | zs,[]=>some zs
 | zs,(i,v)::r=>match place i with
  | none=>none
  | some (off,size)=>bif Nat.beq v.cells.toList.length size&&Nat.ble (off+size) zs.length then rz place (dM zs off v.cells.toList) r else none
theorem B8{place:Nat→Option (Nat×Nat)}:∀{parts:List (Nat×Value)} {zs cs:List Value},rz place zs parts=some cs→Instr.fill place zs.toArray parts=some cs.toArray
 | [],zs,cs,h=>by simpa[rz,Instr.fill] using h
 | (i,v)::r,zs,cs,h=>by
  simp only[rz] at h
  simp only[Instr.fill]
  cases hp:place i with
  | none=>simp[hp] at h
  | some p=>
   obtain⟨off,size⟩:=p
   rw[hp] at h
   simp only at h ⊢
   cases hb:Nat.beq v.cells.toList.length size&&Nat.ble (off+size) zs.length
   ·rw[hb] at h;cases h
   ·rw[hb] at h
    simp only[cond_true] at h
    simp only[eG] at hb
    have h1:v.cells.size=size:=by have:=pg hb.1;simpa using this
    have h2:off+size≤zs.length:=g_ hb.2
    rw[if_neg (by simp[h1];omega)]
    have:=Kt v.cells.toList 0 off zs yh
    have e:v.cells.zipIdx.foldl (fun cs (x:Value×Nat)=>cs.setIfInBounds (off+x.2) x.1) zs.toArray=(dM zs off v.cells.toList).toArray:=by
     rw[←Array.foldl_toList,Array.toList_zipIdx];simpa using this
    rw[e]
    exact B8 h
def nY(e:Env):List (Nat×Operand)→Option (List (Nat×Value))
 | []=>some []
 | (i,x)::r=>match ev e x,nY e r with
  | some v,some vs=>some ((i,v)::vs)
  | _,_=>none
theorem eT.nY{n:Nat}{a:Act}{e:Env}(h:eT n a e):∀{xs:List (Nat×Operand)} {vs:List (Nat×Value)},nY e xs=some vs→xs.map (fun p=>(p.1,a.eval p.2))=vs
 | [],vs,hx=>by simpa[Vg.nY] using hx
 | (i,x)::r,vs,hx=>by
  simp only[Vg.nY] at hx
  split at hx
  ·rename_i v us hv hus
   simp only[Option.some.injEq] at hx
   subst hx
   simp[h.ev hv,eT.nY h hus]
  ·cases hx
theorem MO{P:Program}(w:World):∀(fl:List Field),(∀f∈fl,∃i,P.info? f.type=some i) →
  (fl.mapM fun f=>(do pure (f.offset,←sizeOf f.type):Sem (Nat×Nat))).run P w=.ok (fl.map fun f=>(f.offset,((P.info? f.type).map (·.size)).getD 0)) w
 | [],_=>rfl
 | f::fl,h=>by
  obtain⟨i,hi⟩:=h f yi
  have ih:=MO (P:=P) w fl (fun g hg=>h g (by simp[hg]))
  simp only[List.mapM_cons,Sem.run_bind,lN hi,Result.andThen_ok,Sem.run_pure,ih]
  simp[hi]
theorem KV{X:Cx}{e:Env}{T:TypeId}{parts:Array (Nat×Operand)}{ti:TI}{fs:List (Nat×Nat)}{pv:List (Nat×Value)}(cells:List Value)(hT:bR X.tab T=some ti)(hu:ti.aE=.struct fs)
  (hp:nY e parts.toList=some pv) (hfill:rz (fun i=>fs[i]?) ti.zs pv=some cells) (hnz:fs.all (fun p=>!Nat.beq p.2 0)=true):fo X (.build T parts) e (.agg cells.toArray):=by
 intro a ha dst ty pos after guard w
 have hok:=X.ok.look hT
 obtain⟨flds,hund,hfl⟩:=aa8 hok hu
 have hparts:parts.map (fun p=>(p.1,a.eval p.2))=pv.toArray:=by
  apply oz.1
  simpa using ha.nY hp
 have hinfo:∀f∈flds.toList,∃i,X.P.info? f.type=some i:=fun f hf=>by
  cases hq:X.P.info? f.type with
  | some i=>exact⟨i,rfl⟩
  | none=>
   have hm:(f.offset,((X.P.info? f.type).map (·.size)).getD 0)∈fs:=by
    rw[←hfl];exact cy.2 ⟨f,hf,rfl⟩
   have:=nK.1 hnz _ hm
   simp[hq] at this
 have hplaces:(flds.mapM fun f=>(do pure (f.offset,←sizeOf f.type):Sem (Nat×Nat))).run X.P w=.ok fs.toArray w:=by
  have h1:=MO (P:=X.P) w flds.toList hinfo
  rw[hfl] at h1
  simp only[bind_pure_comp] at h1
  rw[Array.mapM_eq_mapM_toList]
  simp[h1]
 have hf:=B8 hfill
 have hfn:(fun i:Nat=>fs.toArray[i]?)=(fun i:Nat=>fs[i]?):=by funext i;simp
 have hb:(Instr.build T pv.toArray).run X.P w=.ok (.agg cells.toArray) w:=by
  unfold Instr.build
  simp only[Sem.run_bind,vH hok,Result.andThen_ok,run_underlying hund,hplaces,hok.zero]
  simp only[hfn,hf,Sem.run_pure]
 simp only[execOp]
 rw[Sem.run_bind]
 have:(parts.map fun x=>match x with | (i,x)=>(i,a.eval x))=pv.toArray:=hparts
 rw[this,hb];rfl
def aq(el esz:Nat)(a:Option Addr)(n cap:Nat)(cs:List Value):HP:=
 ⟨fun ids w=>cs.length=n*esz∧((a=none∧n=0∧cap=0∧ids=[]) ∨
   ∃b rest,a=some ⟨b,0,none⟩∧ids=[b]∧n≤cap∧(cs++rest).length=cap*esz∧w.heap[b]?=some (.cells (cs++rest).toArray el (0,0))),
  fun ids w w' hb h=>⟨h.1,h.2.imp id fun⟨b,rest,h1,h2,h3,h4,h5⟩=>⟨b,rest,h1,h2,h3,h4,(hb b ym).trans h5⟩⟩⟩
def dm(X:Cx)(L:List HP)(v:Value)(esz m:Nat)(news:List Value):Prop:=
 news.length=m*esz∧((∃a c,v=.slice a m c∧m=0)∨∃b off c,v=.slice (some ⟨b,off,none⟩) m c∧∀w,St X L w→w.rangeAt b off news)
theorem G0{w:World}{b t:Nat}{cs:List Value}{fz:Nat×Nat}(h:w.heap[b]?=some (.cells cs.toArray t fz)){off n:Nat}{ds:List Value}(hd:(cs.drop off).take n=ds):w.rangeAt b off ds:=fun j v hv=>by
 rw[cell_of_row w b (off+j) cs.toArray t fz h]
 rw[←hd,ss] at hv
 split at hv
 ·rw[qY] at hv;simpa using hv
 ·cases hv
theorem oW:∀{L:List HP} {i:Nat} {H:HP},L[i]?=some H→L.Perm (H::L.eraseIdx i)
 | [],_,_,h=>by simp at h
 | x::L,0,H,h=>by
  simp only[uP,Option.some.injEq] at h
  subst h;exact .refl _
 | x::L,i+1,H,h=>by
  simp only[sr] at h
  exact((oW h).cons x).trans (.swap _ _ _)
theorem W9(zs:Array Value)(n:Nat):(Builtin.zeroCells zs n).size=n*zs.size:=by simp[Builtin.zeroCells]
theorem MG{P:Program}{w:World}{t el:Nat}{i:TypeInfo}(hund:P.underlying t=some (.slice el))(hi:P.info? el=some i)(a d:Option Addr)(n cap c:Nat)(hnc:n≤cap)(r:Nat):
  (Builtin.append_ #[t,t] r #[.slice a n cap,.slice d 0 c]).run P w=.ok (.slice a n cap) w:=by
 cases a<;>cases d<;>simp[Builtin.append_,run_underlying hund,lN hi,Builtin.lenOf,Builtin.firstCells,hnc,storeCells,loadCells,loadCellsFrom]
theorem aK.append{X:Cx}{e:Env}{L:List HP}{t el esz n cap m:Nat}{tt te:TI}{x y:Operand}{a:Option Addr}{cs news:List Value}{v:Value}(i:Nat)
  (hx:ev e x=some (.slice a n cap)) (hy:ev e y=some v) (hL:L[i]?=some (aq el esz a n cap cs)) (hT:bR X.tab t=some tt) (hu:tt.aE=.slice el) (hE:bR X.tab el=some te) (hesz:te.size=esz)
  (hr:dm X L v esz m news) (h1:news.all Value.oneCell'=true) (hb:(n+m)*te.bytes≤140737488355328) (h63:n+m≤9223372036854775807):
  aK X (.call ⟨.builtin .append,#[x,y],#[t,t]⟩) e L (fun u L'=>∃a' cap',u=.slice a' (n+m) cap'∧n+m≤cap'∧L'=aq el esz a' (n+m) cap' (cs++news)::L.eraseIdx i):=by
 intro ac w ha hw dst ty pos after guard
 have hund:=qR (X.ok.look hT) hu
 have hok:=X.ok.look hE
 obtain⟨ti,hi,hsz,hbt,hz⟩:=hok.nt
 have hexec:∀u w',(Builtin.append_ #[t,t] ty #[.slice a n cap,v]).run X.P w=.ok u w' →
   (execOp ac.eval ⟨dst,.call ⟨.builtin .append,#[x,y],#[t,t]⟩,ty,pos,after,guard⟩).run X.P w=.ok (.value u) w':=fun u w' h=>by
  simp[execOp,resolve,invoke,builtin,ha.ev hx,ha.ev hy,h]
 obtain⟨F,⟨ids,K,hF,hid,hK⟩,hnd,hbd⟩:=hw.sat.perm (oW hL)
 subst hF
 obtain⟨hnl,hrd⟩:=hr
 obtain⟨hcl,hcase⟩:=hid
 have hlen:(cs++news).length=(n+m)*esz:=by rw[a8,hcl,hnl,qj]
 obtain⟨hn1,hn2,hdis⟩:=nN.1 hnd
 have stay:∀ids',HP.sat (aq el esz a n cap cs) ids' w→ids'=ids→m=0→news=[]→St X (aq el esz a (n+m) cap (cs++news)::L.eraseIdx i) w:=by
  rintro ids' hs rfl rfl rfl
  simp only[wm,br]
  exact⟨⟨_,⟨ids',K,Z,hs,hK⟩,hnd,hbd⟩,hw.cP,hw.low⟩
 have hncap:n≤cap:=by rcases hcase with ⟨_,rfl,rfl,_⟩ | ⟨b,rest,_,_,h,_⟩<;>omega
 rcases hrd with ⟨d,c,rfl,rfl⟩ | ⟨b,off,c,rfl,hrg⟩
 ·have hn0:news=[]:=iC (by simpa using hnl)
  refine .inl ⟨_,w,_,hexec _ _ (MG hund hi a d n cap c hncap ty),⟨a,cap,Z,by omega,Z⟩,stay ids ⟨hcl,hcase⟩ Z Z hn0⟩
 ·have hnews:∀j u,news[j]?=some u→w.cell? ((⟨b,off,none⟩:Addr).add j)=some u:=fun j u hj=>by rw[Addr.add_mid];exact hrg w hw j u hj
  have h1':∀u∈news,u.oneCell'=true:=nK.1 h1
  have hnl':news.length=m*ti.size:=by rw[hsz,hesz];exact hnl
  have grown:∀old:Nat,old<n+m→St X (aq el esz (some ⟨w.heap.size,0,none⟩) (n+m) (grownCap w (n+m) old el) (cs++news)::L.eraseIdx i)
    (w.drew.alloc (.cells (cs.toArray++news.toArray++Builtin.zeroCells te.zero.cells (grownCap w (n+m) old el-(n+m))) el)):=by
   intro old ho
   have hge:=grownCap_ge w (n+m) old el
   have hw2:St X (L.eraseIdx i) w.drew:=⟨⟨K,ei.loc (w:=w) (w':=w.drew) (fun _ _=>rfl) hK,hn2,fun b hb=>hbd b (by simp[hb])⟩,hw.cP.trans (eL.drew _ _),hw.low⟩
   refine⟨hw2.sat.alloc hw2.rJ _ _ ?_,hw2.cP.trans (eL.alloc hw2.rJ _),hw.low⟩
   refine⟨hlen,.inr ⟨w.heap.size,(Builtin.zeroCells te.zero.cells (grownCap w (n+m) old el-(n+m))).toList,Z,Z,hge,?_,?_⟩⟩
   ·have hzl:te.zero.cells.size=esz:=by rw[hok.zero];simp[hok.len,hesz]
    rw[a8,hlen,Array.length_toList,W9,hzl,←qj]
    congr 1;omega
   ·have:=heap_alloc_new w.drew (.cells (cs.toArray++news.toArray++Builtin.zeroCells te.zero.cells (grownCap w (n+m) old el-(n+m))) el)
    rw[show(cs++news++(Builtin.zeroCells te.zero.cells (grownCap w (n+m) old el-(n+m))).toList).toArray=cs.toArray++news.toArray++Builtin.zeroCells te.zero.cells (grownCap w (n+m) old el-(n+m)) from by
     apply oz.1;simp]
    exact this
  rcases hcase with ⟨rfl,rfl,rfl,rfl⟩ | ⟨g,rest,rfl,rfl,hnc,hcr,hh⟩
  ·have hcs0:cs=[]:=iC (by simpa using hcl)
   subst hcs0
   by_cases hm:m=0
   ·subst hm
    have hn0:news=[]:=iC (by simpa using hnl)
    refine .inl ⟨.slice none (0+0) 0,w,_,hexec _ _ ?_,⟨none,0,Z,by omega,Z⟩,stay [] ⟨hcl,.inl ⟨rfl,Z,Z,Z⟩⟩ Z Z hn0⟩
    simp[Builtin.append_,run_underlying hund,lN hi,Builtin.lenOf,Builtin.firstCells,loadCells,loadCellsFrom]
   ·have hrun:=run_append_nil (P:=X.P) w t ty el ti te.zero hund hi hz ⟨b,off,none⟩ m c news hnl' hnews yg yg (by rw[hbt];simp only[cj] at hb;omega)
    have hg:=grown 0 yg
    simp only[cj,mZ,Array.empty_append] at hg ⊢
    exact .inl ⟨_,_,_,hexec _ _ hrun,⟨_,_,Z,grownCap_ge w m 0 el,Z⟩,hg⟩
  ·by_cases hroom:n+m≤cap
   ·have hmul:(n+m)*esz≤cap*esz:=sv _ hroom
    have hfit:n*ti.size+news.length≤(cs++rest).toArray.size:=by
     rw[hsz,hesz,hnl];simp only[List.size_toArray];rw[hcr,←qj];exact hmul
    have hrun:=run_append_room (P:=X.P) w t ty el ti hund hi g n cap _ hh ⟨b,off,none⟩ m c news hnl' hnews h1' hroom hfit
    have hnew:(cs++rest).toArray.toList.take (n*ti.size)++news++(cs++rest).toArray.toList.drop (n*ti.size+news.length)=(cs++news)++rest.drop news.length:=by
     simp only[hsz,hesz]
     rw[←hcl]
     simp[List.drop_append]
    rw[hnew] at hrun
    refine .inl ⟨_,_,_,hexec _ _ hrun,⟨some ⟨g,0,none⟩,cap,Z,hroom,Z⟩,?_⟩
    have hgF:¬X.Fr g:=(hbd g yi).1
    have hne:∀x∈K,x≠g:=fun x hx he=>hdis g yi x hx he.symm
    refine⟨⟨[g]++K,⟨[g],K,Z,⟨hlen,.inr ⟨g,rest.drop news.length,Z,Z,hroom,?_,setRow_heap w g _ _ el _ hh⟩⟩,hK.loc fun x hx=>setRow_other w g x _ (hne x hx)⟩,hnd,fun x hx=>⟨(hbd x hx).1,by rw[size_setRow];exact(hbd x hx).2⟩⟩,?_,hw.low⟩
    ·rw[a8,hlen,su]
     rw[a8,hcl] at hcr
     rw[hnl,qj];rw[qj] at hmul;omega
    ·exact hw.cP.trans ⟨rfl,Z,Z,by rw[size_setRow];exact NR _,fun x hx=>setRow_other w g x _ (fun he=>hgF (he▸hx)),NR _⟩
   ·have holds:∀j u,cs[j]?=some u→w.cell? ((⟨g,0,none⟩:Addr).add j)=some u:=fun j u hj=>by
     rw[Addr.add_mid,cell_of_row w g (0+j) _ el (0,0) hh]
     have hlt:j<cs.length:=(bP.1 hj).1
     simp[EK,hlt]
     exact(bP.1 hj).2
    have hrun:=run_append_grow (P:=X.P) w t ty el ti te.zero hund hi hz ⟨g,0,none⟩ n cap cs (by rw[hsz,hesz];exact hcl) holds ⟨b,off,none⟩ m c news hnl' hnews yg yg (growslice_fits yg (by rw[hbt];exact hb))
    exact .inl ⟨_,_,_,hexec _ _ hrun,⟨_,_,Z,grownCap_ge w (n+m) cap el,Z⟩,grown cap yg⟩
end Vg
namespace Vg
open Go
theorem FE(n:Nat)(zs:List Value)(s:Nat)(hs:zs.length=s):((Array.range (n*s)).map (zs.toArray[· % zs.toArray.size]!))=((List.replicate n zs).flatten).toArray:=by
 apply oz.1
 simp only[Array.toList_map,Array.toList_range]
 subst hs
 induction n with
 | zero=>simp
 | succ n ih=>
  rw[List.replicate_succ',List.flatten_append,←ih,zb,List.range_add,gn]
  congr 1
  simp only[List.flatten_cons,List.flatten_nil,br,mY]
  apply List.ext_getElem
  ·simp
  ·intro i h1 h2
   simp at h1
   simp[Nat.mul_add_mod_of_lt h1,h1]
structure bq(Fr:Nat→Prop)(w:World)(b:Nat)(cs:List Value):Prop where
 fr:Fr b
 at_:∃t fz,w.heap[b]?=some (.cells cs.toArray t fz)
theorem a_.aA{Fr:Nat→Prop}{L:List HP}{w:World}(h:a_ Fr L w)(i:Nat){b t:Nat}{cs:List Value}(hL:L[i]?=some (pt b cs t)):bq Fr w b cs:=by
 obtain⟨F,hs,hf⟩:=h
 obtain⟨ids,⟨rfl,h1⟩,h2⟩:=hs.get hL
 exact⟨hf b (h2 b yi),t,(0,0),h1⟩
theorem bq.cP{X:Cx}{b:Nat}{cs:List Value}(h:bq X.Fr X.w0 b cs){Fr':Nat→Prop}{w:World}{L:List HP}(hF:∀b,X.Fr b→Fr' b)(hw:St X L w):bq Fr' w b cs:=by
 obtain⟨t,fz,ht⟩:=h.at_
 exact⟨hF b h.fr,t,fz,(hw.cP.block b h.fr).trans ht⟩
theorem aw.aA{X:Cx}{L:List HP}{ti:TI}{b off:Nat}{cs:List Value}{v:Value}(h:bq X.Fr X.w0 b cs)(hv:cs[off]?=some v)(ha:ti.aE.agg=false:=by rfl):aw X L ti b off v:=by
 obtain⟨t,fz,ht⟩:=h.at_
 exact aw.Wy h.fr ht hv ha
theorem aw.jF{X:Cx}{L:List HP}{ti:TI}{b off:Nat}{cs ds:List Value}(h:bq X.Fr X.w0 b cs)(hd:(cs.drop off).take ti.size=ds)(hl:ds.length=ti.size:=by rfl)(ha:ti.aE.agg=true:=by rfl):aw X L ti b off (.agg ds.toArray):=by
 obtain⟨t,fz,ht⟩:=h.at_
 exact aw.Wz h.fr ht hd hl ha
theorem dm.pt{X:Cx}{L:List HP}{b off m c esz t:Nat}{cs news:List Value}(i:Nat)(hL:L[i]?=some (pt b cs t))(hn:(cs.drop off).take (m*esz)=news)(hl:news.length=m*esz):dm X L (.slice (some ⟨b,off,none⟩) m c) esz m news:=
 ⟨hl,.inr ⟨b,off,c,rfl,fun _ hw=>G0 (hw.sH hL).1 hn⟩⟩
theorem dm.nil{X:Cx}{L:List HP}{a:Option Addr}{c esz:Nat}:dm X L (.slice a 0 c) esz 0 []:=⟨by simp,.inl ⟨a,c,rfl,rfl⟩⟩
theorem VO.Fu{X:Cx}{ops:Array Oper}{G:GS}{l:List Oper}{e:Env}{L:List HP}{K:Env→List HP→Prop}{ι:Type}(φ:ι→Prop)(M:ι→List HP)(h:∀w,St X L w→∃x,φ x∧St X (M x) w)
  (hk:∀x,φ x→VO X ops G l e (M x) K):VO X ops G l e L K:=fun Q' hQ ro a w ha hG hw=>by
 obtain⟨x,h1,h2⟩:=h w hw
 exact hk x h1 Q' hQ ro a w ha hG h2
theorem VC.Fu{X:Cx}{c:Code}{e:Env}{L:List HP}{Q:Exit→Env→List HP→Prop}{ι:Type}(φ:ι→Prop)(M:ι→List HP)(h:∀w,St X L w→∃x,φ x∧St X (M x) w)
  (hk:∀x,φ x→VC X c e (M x) Q):VC X c e L Q:=fun ro a w ha hw=>by
 obtain⟨x,h1,h2⟩:=h w hw
 exact hk x h1 ro a w ha h2
def aa(L M:List HP):Prop:=∀w F,ei L F w→F.Nodup→∃F',ei M F' w∧F'.Nodup∧∀b∈F',b∈F
theorem aa.aj{X:Cx}{L M:List HP}(h:aa L M):dd X L M:=fun w hw=>by
 obtain⟨F,hs,hn,hb⟩:=hw.sat
 obtain⟨F',h1,h2,h3⟩:=h w F hs hn
 exact⟨⟨F',h1,h2,fun b hb'=>hb b (h3 b hb')⟩,hw.cP,hw.low⟩
theorem aa.refl{L:List HP}:aa L L:=fun _ F hs hn=>⟨F,hs,hn,fun _ h=>h⟩
theorem aa.trans{L M N:List HP}(h:aa L M)(k:aa M N):aa L N:=fun w F hs hn=>by
 obtain⟨F',h1,h2,h3⟩:=h w F hs hn
 obtain⟨F'',k1,k2,k3⟩:=k w F' h1 h2
 exact⟨F'',k1,k2,fun b hb=>h3 b (k3 b hb)⟩
theorem aa.perm{L M:List HP}(h:L.Perm M):aa L M:=fun w F hs hn=>by
 obtain⟨G,hG,hs'⟩:=hs.perm h
 exact⟨G,hs',hG.nodup_iff.1 hn,fun b hb=>hG.mem_iff.2 hb⟩
theorem aa.nil{L:List HP}:aa L []:=fun _ _ _ _=>⟨[],rfl,.nil,fun _ h=>by cases h⟩
theorem aa.app{L L' M M':List HP}(h:aa L M)(k:aa L' M'):aa (L++L') (M++M'):=fun w F hs hn=>by
 obtain⟨G,K,rfl,hG,hK⟩:=ei.append.1 hs
 obtain⟨n1,n2,nd⟩:=nN.1 hn
 obtain⟨G',g1,g2,g3⟩:=h w G hG n1
 obtain⟨K',k1,k2,k3⟩:=k w K hK n2
 refine⟨G'++K',ei.append.2 ⟨G',K',Z,g1,k1⟩,nN.2 ⟨g2,k2,fun x hx y hy=>nd x (g3 x hx) y (k3 y hy)⟩,fun b hb=>?_⟩
 rcases eP.1 hb with hb | hb
 ·exact eP.2 (.inl (g3 b hb))
 ·exact eP.2 (.inr (k3 b hb))
theorem aa.cons{H:HP}{L M:List HP}(h:aa L M):aa (H::L) (H::M):=aa.app (L:=[H]) (M:=[H]) aa.refl h
theorem aa.pick{L M:List HP}{H:HP}(i:Nat)(hL:L[i]?=some H)(h:aa (L.eraseIdx i) M):aa L (H::M):=(aa.perm (oW hL)).trans h.cons
def GK:List Nat→List HP→List HP
  | [],_=>[]
  | i::l,L=>match L[i]? with
    | some H=>H::GK l (L.eraseIdx i)
    | none=>[]
theorem bb (l:List Nat) {L:List HP}:aa L (GK l L):=by
  induction l generalizing L with
  | nil=>exact aa.nil
  | cons i l ih=>
    unfold GK
    split
    · rename_i H h;exact aa.pick i h ih
    · exact aa.nil
theorem aa.sep{L Ls M:List HP}(h:aa L (Ls++M)):aa L (bF Ls::M):=fun w F hs hn=>by
 obtain⟨F',h1,h2,h3⟩:=h w F hs hn
 obtain⟨G,K,rfl,hG,hK⟩:=ei.append.1 h1
 exact⟨G++K,⟨G,K,Z,hG,hK⟩,h2,h3⟩
theorem aa.AM{L Ls M:List HP}(h:aa (Ls++L) M):aa (bF Ls::L) M:=fun w F hs hn=>by
 obtain⟨G,K,rfl,hG,hK⟩:=hs
 exact h w _ (ei.append.2 ⟨G,K,Z,hG,hK⟩) hn
theorem aa.ex{α:Type}{f:α→HP}{L M:List HP}(x:α)(h:aa L (f x::M)):aa L (hex f::M):=fun w F hs hn=>by
 obtain⟨F',⟨G,K,rfl,hG,hK⟩,h2,h3⟩:=h w F hs hn
 exact⟨G++K,⟨G,K,Z,⟨x,hG⟩,hK⟩,h2,h3⟩
theorem aa.pure{φ:Prop}{L M:List HP}(hφ:φ)(h:aa L M):aa L (kI φ::M):=fun w F hs hn=>by
 obtain⟨F',h1,h2,h3⟩:=h w F hs hn
 exact⟨F',⟨[],F',Z,⟨rfl,hφ⟩,h1⟩,h2,h3⟩
theorem aa.sl{L M:List HP}{el esz b n cap:Nat}{cs rest:List Value}(hc:cs.length=n*esz)(hn:n≤cap)(hr:(cs++rest).length=cap*esz)(h:aa L (pt b (cs++rest) el::M)):aa L (aq el esz (some ⟨b,0,none⟩) n cap cs::M):=fun w F hs hn'=>by
 obtain⟨F',⟨G,K,rfl,⟨rfl,hG⟩,hK⟩,h2,h3⟩:=h w F hs hn'
 exact⟨[b]++K,⟨[b],K,Z,⟨hc,.inr ⟨b,rest,Z,Z,hn,hr,hG⟩⟩,hK⟩,h2,h3⟩
theorem aa.cK{L M:List HP}{el esz:Nat}(h:aa L M):aa L (aq el esz none 0 0 []::M):=fun w F hs hn=>by
 obtain⟨F',h1,h2,h3⟩:=h w F hs hn
 exact⟨F',⟨[],F',Z,⟨by simp,.inl ⟨rfl,Z,Z,Z⟩⟩,h1⟩,h2,h3⟩
def bd{ι:Type}(H:HP)(φ:ι→Prop)(Ls:ι→List HP):Prop:=∀w ids,H.sat ids w→ids.Nodup→∃x,φ x∧∃ids',ei (Ls x) ids' w∧ids'.Nodup∧∀b∈ids',b∈ids
theorem bd.st{X:Cx}{L:List HP}{ι:Type}{H:HP}{φ:ι→Prop}{Ls:ι→List HP}(i:Nat)(hL:L[i]?=some H)(h:bd H φ Ls)(w:World)(hw:St X L w):∃x,φ x∧St X (Ls x++L.eraseIdx i) w:=by
 obtain⟨F,⟨ids,K,rfl,hid,hK⟩,hn,hb⟩:=hw.sat.perm (oW hL)
 obtain⟨n1,n2,nd⟩:=nN.1 hn
 obtain⟨x,hx,ids',h1,h2,h3⟩:=h w ids hid n1
 refine⟨x,hx,⟨⟨ids'++K,ei.append.2 ⟨ids',K,Z,h1,hK⟩,nN.2 ⟨h2,n2,fun x hx y hy=>nd x (h3 x hx) y hy⟩,fun b hb'=>?_⟩,hw.cP,hw.low⟩⟩
 rcases eP.1 hb' with hb' | hb'
 ·exact hb b (eP.2 (.inl (h3 b hb')))
 ·exact hb b (eP.2 (.inr hb'))
theorem VO.bz{X:Cx}{ops:Array Oper}{G:GS}{l:List Oper}{e:Env}{L:List HP}{K:Env→List HP→Prop}{ι:Type}{H:HP}{φ:ι→Prop}{Ls:ι→List HP}(i:Nat)(hL:L[i]?=some H)(h:bd H φ Ls)
  (hk:∀x,φ x→VO X ops G l e (Ls x++L.eraseIdx i) K):VO X ops G l e L K:=VO.Fu φ _ (h.st i hL) hk
theorem VC.bz{X:Cx}{c:Code}{e:Env}{L:List HP}{Q:Exit→Env→List HP→Prop}{ι:Type}{H:HP}{φ:ι→Prop}{Ls:ι→List HP}(i:Nat)(hL:L[i]?=some H)(h:bd H φ Ls)
  (hk:∀x,φ x→VC X c e (Ls x++L.eraseIdx i) Q):VC X c e L Q:=VC.Fu φ _ (h.st i hL) hk
theorem bd.sl(el esz:Nat)(a:Option Addr)(n cap:Nat)(cs:List Value):bd (ι:=Option (Nat×List Value)) (aq el esz a n cap cs)
  (fun x=>cs.length=n*esz∧n≤cap∧match x with | none=>a=none∧n=0∧cap=0∧cs=[] | some (b,rest)=>a=some ⟨b,0,none⟩∧(cs++rest).length=cap*esz)
  (fun x=>match x with | none=>[] | some (b,rest)=>[pt b (cs++rest) el]):=by
 rintro w ids ⟨hc,⟨rfl,rfl,rfl,rfl⟩ | ⟨b,rest,rfl,rfl,hn,hr,hh⟩⟩ hnd
 ·exact⟨none,⟨hc,NR _,rfl,rfl,rfl,iC (by simpa using hc)⟩,[],rfl,.nil,fun _ h=>by cases h⟩
 ·exact⟨some (b,rest),⟨hc,hn,Z,hr⟩,[b],⟨[b],[],Z,⟨rfl,hh⟩,Z⟩,by simp,fun _ h=>h⟩
section
variable {X:Cx} {ops:Array Oper} {G:GS} {l:List Oper} {e:Env} {L:List HP} {K:Env→List HP→Prop}
  {dst:Option Tmp} {ty:TypeId} {pos:String} {after:Array Edge} {guard:Option (Nat×Bool)}
theorem VO.call{f:FuncId}{args:Array Operand}{tys:Array TypeId}{vals:List Value}{R:Value→List HP→Prop}{Lc Lr:List HP}
  (ht:∀Fr' w,(∀b,X.Fr b→Fr' b)→St X L w→a_ Fr' Lr w→ax X.P f vals Fr' w Lc R) (hargs:ft e args.toList=some vals) (hL:L=Lc++Lr)
  (hk:∀v L1,R v L1→VO X ops G l (bW dst v e) (L1++Lr) K)
  (hg:cB ops G guard=some true:=by rfl) (hd:cI X.n dst=true:=by rfl) (hf:cz G dst=true:=by rfl):
  VO X ops G (⟨dst,.call ⟨.value (.func f),args,tys⟩,ty,pos,after,guard⟩::l) e L K:=
 VO.op hg hd hf (aK.call hargs (hL▸.refl _) ht) fun v L' ⟨L1,h1,h2⟩=>by subst h2;exact hk v L1 h1
theorem VO.append{t el esz n cap m:Nat}{tt te:TI}{x y:Operand}{a:Option Addr}{cs news:List Value}{v:Value}(i:Nat)
  (hx:ev e x=some (.slice a n cap)) (hy:ev e y=some v) (hL:L[i]?=some (aq el esz a n cap cs)) (hT:bR X.tab t=some tt) (hu:tt.aE=.slice el) (hE:bR X.tab el=some te) (hesz:te.size=esz)
  (hr:dm X L v esz m news) (h1:news.all Value.oneCell'=true) (hb:(n+m)*te.bytes≤140737488355328) (h63:n+m≤9223372036854775807)
  (hk:∀a' cap',n+m≤cap'→VO X ops G l (bW dst (.slice a' (n+m) cap') e) (aq el esz a' (n+m) cap' (cs++news)::L.eraseIdx i) K)
  (hg:cB ops G guard=some true:=by rfl) (hd:cI X.n dst=true:=by rfl) (hf:cz G dst=true:=by rfl):
  VO X ops G (⟨dst,.call ⟨.builtin .append,#[x,y],#[t,t]⟩,ty,pos,after,guard⟩::l) e L K:=
 VO.op hg hd hf (aK.append i hx hy hL hT hu hE hesz hr h1 hb h63) fun u L' ⟨a',cap',h1,h2,h3⟩=>by subst h1;subst h3;exact hk a' cap' h2
theorem aK.buildSlice{T:TypeId}{n:Nat}{parts:Array (Nat×Operand)}{tt te:TI}{el:Nat}{pv:List (Nat×Value)}{cells:List Value}(hT:bR X.tab T=some tt)(hu:tt.aE=.slice el)(hE:bR X.tab el=some te)
  (hp:nY e parts.toList=some pv) (hn:n*te.size≤16777216) (hfill:rz (fun i=>some (i*te.size,te.size)) (List.replicate n te.zs).flatten pv=some cells):
  aK X (.buildSlice T n parts) e L (fun u L'=>∃b,u=.slice (some ⟨b,0,none⟩) n n∧L'=pt b cells el::L):=fun a w ha hw dst ty pos after guard=>by
 have hund:=qR (X.ok.look hT) hu
 have hok:=X.ok.look hE
 obtain⟨i,hi,hsz,_,_⟩:=hok.nt
 have hparts:(parts.map fun x=>match x with | (i,x)=>(i,a.eval x))=pv.toArray:=by
  apply oz.1
  simpa using ha.nY hp
 have hzero:((Array.range (n*te.size)).map (te.zs.toArray[· % te.zs.toArray.size]!))=((List.replicate n te.zs).flatten).toArray:=FE n te.zs te.size hok.len
 have hff:=B8 hfill
 refine .inl ⟨.slice (some ⟨w.heap.size,0,none⟩) n n,w.alloc (.cells cells.toArray el),_,?_,⟨w.heap.size,Z,Z⟩,hw.alloc cells el⟩
 have hlim:¬(n*te.size > 2 ^ 24):=by simpa using hn
 have hb:(Instr.buildSlice T n pv.toArray).run X.P w=.ok (.slice (some ⟨w.heap.size,0,none⟩) n n) (w.alloc (.cells cells.toArray el)):=by
  unfold Instr.buildSlice
  by_cases h0:n*te.size=0
  ·have hz0:(List.replicate n te.zs).flatten=[]:=by
    apply iC
    simp[hok.len,h0]
   rw[hz0] at hff
   have e0:∀f:Nat→Value,(Array.range 0).map f=#[]:=fun f=>by simp
   have h2:¬(0 > 2 ^ 24):=by decide
   simp only[Sem.run_bind,run_underlying hund,Result.andThen_ok,lN hi,hsz,h2,if_false,h0,if_true,Sem.run_pure,e0]
   simp[hff,newRow,newObj,Sem.run]
  ·simp only[Sem.run_bind,run_underlying hund,Result.andThen_ok,lN hi,hsz,hlim,if_false,h0,Sem.run_pure,vH hok,hok.zero,hzero]
   simp[hff,newRow,newObj,Sem.run]
 simp only[execOp]
 rw[Sem.run_bind,hparts,hb];rfl
theorem VO.buildSlice{T:TypeId}{n:Nat}{parts:Array (Nat×Operand)}{tt te:TI}{el:Nat}{pv:List (Nat×Value)}(cells:List Value)(hT:bR X.tab T=some tt)(hu:tt.aE=.slice el)(hE:bR X.tab el=some te)
  (hp:nY e parts.toList=some pv) (hn:n*te.size≤16777216) (hfill:rz (fun i=>some (i*te.size,te.size)) (List.replicate n te.zs).flatten pv=some cells)
  (hk:∀b,VO X ops G l (bW dst (.slice (some ⟨b,0,none⟩) n n) e) (pt b cells el::L) K)
  (hg:cB ops G guard=some true:=by rfl) (hd:cI X.n dst=true:=by rfl) (hf:cz G dst=true:=by rfl):
  VO X ops G (⟨dst,.buildSlice T n parts,ty,pos,after,guard⟩::l) e L K:=
 VO.op hg hd hf (aK.buildSlice hT hu hE hp hn hfill) fun u L' ⟨b,h1,h2⟩=>by subst h1;subst h2;exact hk b
theorem eY{v:Value}{vs zs:List Value}{s:Nat}(hv:v.cells=vs.toArray)(hs:vs.length=s)(hz:zs.length=s):rz (fun i=>some (i*s,s)) (List.replicate 1 zs).flatten [(0,v)]=some vs:=by
 have h1:v.cells.toList=vs:=by rw[hv]
 have h2:(List.replicate 1 zs).flatten=zs:=by show zs ++ []=zs;simp
 have h3:dM zs 0 vs=vs:=by
  unfold dM
  rw[List.drop_of_length_le yg];simp
 have h4:Nat.beq vs.length s=true:=by rw[hs];exact Nat.beq_refl s
 have h5:Nat.ble s zs.length=true:=by rw[hz];exact Nat.ble_eq.mpr (NR s)
 simp only[rz,h1,h2,Nat.zero_mul,cj,h3,h4,h5,Bool.and_self,cond_true]
theorem aK.makeSlice{T:TypeId}{x y:Operand}{tt te:TI}{el:Nat}{k k':IntKind}(n:Nat)(hx:ev e x=some (.int k n))(hy:ev e y=some (.int k' n))(hT:bR X.tab T=some tt)(hu:tt.aE=.slice el)(hE:bR X.tab el=some te)
  (hn:n≤9223372036854775807) (hb:te.bytes*n≤281474976710656):
  aK X (.makeSlice T x y) e L (fun u L'=>∃b,u=.slice (some ⟨b,0,none⟩) n n∧L'=pt b (List.replicate n te.zs).flatten el::L):=fun a w ha hw dst ty pos after guard=>by
 have hund:=qR (X.ok.look hT) hu
 have hok:=X.ok.look hE
 obtain⟨i,hi,hsz,hby,hz⟩:=hok.nt
 have hzero:=FE n te.zs te.size hok.len
 refine .inl ⟨.slice (some ⟨w.heap.size,0,none⟩) n n,w.alloc (.cells (List.replicate n te.zs).flatten.toArray el),_,?_,⟨w.heap.size,Z,Z⟩,hw.alloc _ el⟩
 have hrun:=run_make (P:=X.P) w T el i te.zero hund hi hz k k' n n yg yg (by
  have h1:((te.bytes*n:Nat):Int)≤((281474976710656:Nat):Int):=Int.ofNat_le.2 hb
  rw[Int.natCast_mul] at h1
  rw[hby];exact h1) yg
 have hmc:madeCells te.zero.cells ((n:Int).toNat*i.size)=(List.replicate n te.zs).flatten.toArray:=by
  rw[←hzero,hok.zero,hsz];rfl
 rw[hmc] at hrun
 simp only[execOp,ha.ev hx,ha.ev hy]
 rw[Sem.run_bind,hrun];rfl
theorem VO.makeSlice{T:TypeId}{x y:Operand}{tt te:TI}{el:Nat}{k k':IntKind}{i j:Int}(n:Nat)(hx:ev e x=some (.int k i))(hy:ev e y=some (.int k' j))(hT:bR X.tab T=some tt)(hu:tt.aE=.slice el)(hE:bR X.tab el=some te)
  (hi:i=n) (hj:j=n) (hn:n≤9223372036854775807) (hb:te.bytes*n≤281474976710656)
  (hk:∀b,VO X ops G l (bW dst (.slice (some ⟨b,0,none⟩) n n) e) (pt b (List.replicate n te.zs).flatten el::L) K)
  (hg:cB ops G guard=some true:=by rfl) (hd:cI X.n dst=true:=by rfl) (hf:cz G dst=true:=by rfl):
  VO X ops G (⟨dst,.makeSlice T x y,ty,pos,after,guard⟩::l) e L K:=by
 subst hi;subst hj
 exact VO.op hg hd hf (aK.makeSlice n hx hy hT hu hE hn hb) fun u L' ⟨b,h1,h2⟩=>by subst h1;subst h2;exact hk b
end
end Vg
namespace Vg
open Go
theorem C_{P:Program}{t:Nat}{ti:TI}(h:aN P t ti){b off:Nat}{v:Value}{w:World}(hr:Rd ti.aE.agg ti.size b off v w):(loadVar t ⟨b,off,none⟩).run P w=.ok v w:=by
 have:=MM h hr
 unfold Instr.loadAt at this
 simpa[Instr.sureAddr] using this
theorem an.cell{X:Cx}{fn:Func}{R:Value→List HP→Prop}{e:Env}{L:List HP}{T:TypeId}{ti:TI}{b:Nat}{v:Value}(p:Nat)(h:fn.results=#[.cell p T])(hp:look e p=some (.pointer (some ⟨b,0,none⟩)))(hT:bR X.tab T=some ti)
  (hr:aw X L ti b 0 v) {L':List HP} (he:dd X L L') (hR:R v L'):an X fn R e L:=
 ⟨v,L',⟨fun a w ha hw=>by
  have:=C_ (X.ok.look hT) (hr w hw)
  have hp':=ha.at_ p _ hp
  simp only[v8] at hp'
  simp[results,h,hp',asAddr,this]⟩,he,hR⟩
theorem an.dt{X:Cx}{fn:Func}{R:Value→List HP→Prop}{e:Env}{L:List HP}{T:TypeId}{ti:TI}{b:Nat}{v u:Value}(p q:Nat)(h:fn.results=#[.cell p T,.tmp q])(hp:look e p=some (.pointer (some ⟨b,0,none⟩)))(hT:bR X.tab T=some ti)
  (hr:aw X L ti b 0 v) (hq:look e q=some u) {L':List HP} (he:dd X L L') (hR:R (.tuple #[v,u]) L'):an X fn R e L:=
 ⟨_,L',⟨fun a w ha hw=>by
  have:=C_ (X.ok.look hT) (hr w hw)
  have hp':=ha.at_ p _ hp
  have hq':=ha.at_ q _ hq
  simp only[v8] at hp' hq'
  simp[results,h,hp',hq',asAddr,this]⟩,he,hR⟩
section
variable {X:Cx} {ops:Array Oper} {G:GS} {l:List Oper} {e:Env} {L:List HP} {K:Env→List HP→Prop}
  {dst:Option Tmp} {ty:TypeId} {pos:String} {after:Array Edge} {guard:Option (Nat×Bool)}
theorem aK.clear{t el b off n cap tb:Nat}{tt te:TI}{x:Operand}{cs:List Value}(i:Nat)(hx:ev e x=some (.slice (some ⟨b,off,none⟩) n cap))(hL:L[i]?=some (pt b cs tb))(hT:bR X.tab t=some tt)(hu:tt.aE=.slice el)(hE:bR X.tab el=some te)
  (hn:0<n) (hl:off+n*te.size≤cs.length) (h1:te.zs.all Value.oneCell'=true):
  aK X (.call ⟨.builtin .clear,#[x],#[t]⟩) e L (fun u L'=>u=.tuple #[]∧L'=L.set i (pt b (dM cs off (List.replicate n te.zs).flatten) tb)):=fun a w ha hw dst ty pos after guard=>by
 have hund:=qR (X.ok.look hT) hu
 have hok:=X.ok.look hE
 obtain⟨h0,hf⟩:=hw.sH hL
 have hlen:((List.replicate n te.zs).flatten).length=n*te.size:=by simp[hok.len]
 have hz:Builtin.zeroCells te.zs.toArray n=((List.replicate n te.zs).flatten).toArray:=by
  have:=FE n te.zs te.size hok.len
  unfold Builtin.zeroCells
  simpa[hok.len] using this
 have hall:((List.replicate n te.zs).flatten).all Value.oneCell'=true:=by
  rw[nK] at h1 ⊢
  intro v hv
  obtain⟨l,hl,hv⟩:=List.mem_flatten.1 hv
  rw[List.mem_replicate] at hl
  exact h1 v (hl.2▸hv)
 have hst:=Hb (P:=X.P) _ 0 off w cs h0 (by rw[hlen];simpa using hl) hall
 simp only[wm] at hst
 refine .inl ⟨_,_,_,?_,⟨rfl,Z⟩,hw.set hL⟩
 have hn0:n≠0:=by omega
 have hb:(Builtin.clear_ #[t] ty #[.slice (some ⟨b,off,none⟩) n cap]).run X.P w=.ok (.tuple #[]) (dZ w b (.cells (dM cs off (List.replicate n te.zs).flatten).toArray tb (0,0))):=by
  obtain⟨k,rfl⟩:∃k,n=k+1:=⟨n-1,by omega⟩
  simp[Builtin.clear_,run_underlying hund,vH hok,hok.zero,hz,hst]
 simp[execOp,resolve,invoke,builtin,ha.ev hx,hb]
theorem oS{xt yt:TypeId}{x y:Operand}{s t:ByteArray}(hx:ev e x=some (.string s))(hy:ev e y=some (.string t))(hs:s.size+t.size≤9223372036854775807):fo X (.binOp .add xt x y yt) e (.string (s++t)):=by
 intro a ha dst ty pos after guard w
 have h:¬(((s.size+t.size:Nat):Int) > IntKind.i64.max):=by
  have:IntKind.i64.max=9223372036854775807:=rfl
  omega
 have hb:Op.stringOp .add s t=pure (.string (s++t)):=by
  unfold Op.stringOp
  rw[if_neg h]
 simp only[execOp,ha.ev hx,ha.ev hy]
 show((do eqGuard .add xt x y (.string s) (.string t);Op.stringOp .add s t:Sem Value) >>= fun v=>pure (Next.value v)).run X.P w=_
 rw[hb];rfl
theorem aK.str{s d el b n cap tb:Nat}{ts td te:TI}{x:Operand}{bs:List UInt8}{cs:List Value}(i:Nat)(hx:ev e x=some (.slice (some ⟨b,0,none⟩) n cap))(hL:L[i]?=some (pt b cs tb))(hS:bR X.tab s=some ts)(hsu:ts.aE=.slice el)(hE:bR X.tab el=some te)(hEu:te.aE=.int .u8)
  (hD:bR X.tab d=some td) (hdu:td.aE=.string) (hn:bs.length=n) (hcs:cs.take n=bs.map fun c=>Value.int .u8 (c.toNat:Int)):
  aK X (.convert s d x) e L (fun u L'=>u=.string ⟨bs.toArray⟩∧L'=L):=fun a w ha hw dst ty pos after guard=>by
 have h1:=qR (X.ok.look hS) hsu
 have h2:=Hs (X.ok.look hE) hEu
 have h3:=DH (X.ok.look hD) hdu
 obtain⟨h0,_⟩:=hw.sH hL
 have hr:=run_convert_bytes_back (P:=X.P) w s d el ⟨b,0,none⟩ cap bs h1 h2 h3 (fun j hj=>by
  rw[Addr.add_mid,cell_of_row w b (0+j) _ tb (0,0) h0]
  have:(cs.take n)[j]?=some (.int .u8 (bs[j].toNat:Int)):=by rw[hcs];simp[hj]
  rw[ss,if_pos yg] at this
  simpa using this)
 rw[hn] at hr
 refine .inl ⟨_,w,L,?_,⟨rfl,Z⟩,hw⟩
 simp only[execOp,ha.ev hx]
 rw[Sem.run_bind,hr];rfl
end
section
variable {X:Cx} {ops:Array Oper} {G:GS} {pl:iE} {S:kA} {e:Env} {L:List HP} {K:Env→List HP→Prop}
  {dst:Option Tmp} {ty:TypeId} {pos:String} {after:Array Edge} {guard:Option (Nat×Bool)}
theorem VA.zX{i:Nat}{op:Op}{v:Value}(hi:ops.toList[i]?=some ⟨dst,op,ty,pos,after,guard⟩)(hl:fo X op e v)(hk:VA X ops G pl S (bW dst v e) L K)
  (hg:cB ops G guard=some true:=by rfl) (hd:cI X.n dst=true:=by rfl) (hf:cz G dst=true:=by rfl):VA X ops G (.take i pl) S e L K:=
 VA.pure hi hg hd hf hl hk
theorem VA.arith{op:BinOp}{xt yt:TypeId}{x y:Operand}{k:IntKind}{a b:Int}{i:Nat}(z:Int)(hi:ops.toList[i]?=some ⟨dst,.binOp op xt x y yt,ty,pos,after,guard⟩)
  (hx:ev e x=some (.int k a)) (hy:ev e y=some (.int k b))
  (hz:(match op with | .add=>k.wrap (a+b)=z | .sub=>k.wrap (a-b)=z | .mul=>k.wrap (a*b)=z | _=>False))
  (hk:VA X ops G pl S (bW dst (.int k z) e) L K)
  (hg:cB ops G guard=some true:=by rfl) (hd:cI X.n dst=true:=by rfl) (hf:cz G dst=true:=by rfl):VA X ops G (.take i pl) S e L K:=by
 refine VA.pure hi hg hd hf ?_ hk
 intro a' ha dst ty pos after guard w
 cases op<;>simp only at hz
 case add=>simp[execOp,ha.ev hx,ha.ev hy,eqGuard,binOp,Op.intArith,hz]
 case sub=>simp[execOp,ha.ev hx,ha.ev hy,eqGuard,binOp,Op.intArith,hz]
 case mul=>simp[execOp,ha.ev hx,ha.ev hy,eqGuard,binOp,Op.intArith,hz]
theorem VA.add{xt yt:TypeId}{x y:Operand}{a b:Int}{i:Nat}(hi:ops.toList[i]?=some ⟨dst,.binOp .add xt x y yt,ty,pos,after,guard⟩)
  (hx:ev e x=some (.int .i64 a)) (hy:ev e y=some (.int .i64 b)) (h1:-9223372036854775808≤a+b) (h2:a+b≤9223372036854775807)
  (hk:VA X ops G pl S (bW dst (.int .i64 (a+b)) e) L K)
  (hg:cB ops G guard=some true:=by rfl) (hd:cI X.n dst=true:=by rfl) (hf:cz G dst=true:=by rfl):VA X ops G (.take i pl) S e L K:=VA.arith (a+b) hi hx hy (i64_in _ h1 h2) hk hg hd hf
theorem VA.xH{xt yt:TypeId}{x y:Operand}{a b:Int}{i:Nat}(hi:ops.toList[i]?=some ⟨dst,.binOp .sub xt x y yt,ty,pos,after,guard⟩)
  (hx:ev e x=some (.int .i64 a)) (hy:ev e y=some (.int .i64 b)) (h1:-9223372036854775808≤a-b) (h2:a-b≤9223372036854775807)
  (hk:VA X ops G pl S (bW dst (.int .i64 (a-b)) e) L K)
  (hg:cB ops G guard=some true:=by rfl) (hd:cI X.n dst=true:=by rfl) (hf:cz G dst=true:=by rfl):VA X ops G (.take i pl) S e L K:=VA.arith (a-b) hi hx hy (i64_in _ h1 h2) hk hg hd hf
theorem VA.Jy{f:FuncId}{args:Array Operand}{tys:Array TypeId}{vals:List Value}{u:Value}{i:Nat}
  (ht:∀Fr' w,(∀b,X.Fr b→Fr' b)→St X L w→a_ Fr' L w→ax X.P f vals Fr' w [] (fun v L=>v=u∧L=[]))
  (hi:ops.toList[i]?=some ⟨dst,.call ⟨.value (.func f),args,tys⟩,ty,pos,after,guard⟩) (hargs:ft e args.toList=some vals)
  (hst:∀w,St X L w→∀p∈S,waits ops i p.1=false→p.2 w)
  (hk:VA X ops G pl (S.filter fun p=>!waits ops i p.1) (bW dst u e) L K)
  (hg:cB ops G guard=some true:=by rfl) (hd:cI X.n dst=true:=by rfl) (hf:cz G dst=true:=by rfl):VA X ops G (.only i pl) S e L K:=by
 refine VA.op (M:=fun v L'=>v=u∧L'=L) hi hg hd hf ?_ (fun v L' ⟨_,h2⟩ w hw=>by subst h2;exact hst w hw) (fun v L' ⟨h1,h2⟩=>by subst h1;subst h2;exact hk)
 intro a w ha hw dst ty pos after guard
 rcases aK.call (R:=fun v L=>v=u∧L=[]) hargs (Lc:=[]) (Lr:=L) (.refl _) ht a w ha hw dst ty pos after guard with ⟨v,w',L',h1,⟨L1,⟨h2,h3⟩,h4⟩,h5⟩ | ⟨w',L',h1,⟨L1,⟨h2,h3⟩,h4⟩,h5⟩ | ⟨f,args,h1,h2⟩
 ·exact .inl ⟨v,w',L',h1,⟨h2,by rw[h4,h3];rfl⟩,h5⟩
 ·exact .inr (.inl ⟨w',L',h1,⟨h2,by rw[h4,h3];rfl⟩,h5⟩)
 ·refine .inr (.inr ⟨f,args,h1,Calls.mono h2 fun en w' ⟨v,L',h3,⟨L1,⟨h4,h5⟩,h6⟩,h7⟩=>⟨v,L',h3,⟨h4,by rw[h6,h5];rfl⟩,h7⟩⟩)
end
end Vg
namespace Vg
open Go
def flat{α:Type}(c:α→List Value)(l:List α):List Value:=(l.map c).flatten
section
variable {α:Type} {c:α→List Value} {n:Nat}
theorem sM:flat c []=[]:=rfl
theorem lz(a:α)(l:List α):flat c (a::l)=c a++flat c l:=by simp[flat]
theorem fu(l m:List α):flat c (l++m)=flat c l++flat c m:=by simp[flat]
theorem eu(h:∀a,(c a).length=n):∀l:List α,(flat c l).length=l.length*n
 | []=>by simp[flat]
 | a::l=>by rw[lz,a8,h,eu h l,ku,qj,Nat.one_mul,Nat.add_comm]
theorem B_(h:∀a,(c a).length=n):∀(i:Nat) (l:List α) (rest:List Value),i≤l.length→(flat c l++rest).drop (i*n)=flat c (l.drop i)++rest
 | 0,l,rest,_=>by simp
 | i+1,[],rest,hi=>by simp at hi
 | i+1,a::l,rest,hi=>by
  rw[lz,qj,Nat.one_mul,Nat.add_comm (i*n),ed,←Bt]
  have:(c a++(flat c l++rest)).drop n=flat c l++rest:=by rw[←h a];simp
  rw[this,B_ h i l rest yn];rfl
theorem oO(h:∀a,(c a).length=n){i:Nat}{l:List α}{a:α}(ha:l[i]?=some a)(rest:List Value):((flat c l++rest).drop (i*n)).take n=c a:=by
 have hi:i<l.length:=(bP.1 ha).1
 rw[B_ h i l rest (Nat.le_of_lt hi),Bu hi,(bP.1 ha).2,lz,ed,←h a]
 simp
theorem oN(h:∀a,(c a).length=n){i j:Nat}{l:List α}{a:α}{v:Value}(ha:l[i]?=some a)(hj:(c a)[j]?=some v)(rest:List Value):(flat c l++rest)[i*n+j]?=some v:=by
 have hjn:j<n:=by rw[←h a];exact(bP.1 hj).1
 have:=oO h ha rest
 rw[←this,ss,if_pos hjn,qY] at hj
 exact hj
theorem wW(h:∀a,(c a).length=n):∀{i:Nat} {l:List α} (a:α) (rest:List Value),i<l.length→dM (flat c l++rest) (i*n) (c a)=flat c (l.set i a)++rest
 | 0,[],a,rest,hi=>by simp at hi
 | 0,b::l,a,rest,_=>by
  simp only[dM,List.set_cons_zero,lz,Nat.zero_mul,qi,mZ,cj,ed]
  have:(c b++(flat c l++rest)).drop (c a).length=flat c l++rest:=by rw[h a,←h b];simp
  rw[this]
 | i+1,[],a,rest,hi=>by simp at hi
 | i+1,b::l,a,rest,hi=>by
  have ih:=wW h (i:=i) (l:=l) a rest yn
  have e:(i+1)*n=(c b).length+i*n:=by rw[h b,qj];omega
  simp only[y_,lz,ed]
  unfold dM at ih ⊢
  rw[e,List.take_length_add_append,Nat.add_assoc,List.drop_length_add_append,←ih]
  simp
theorem u_(h:∀a,(c a).length=n){i j:Nat}{l:List α}{a a':α}{v:Value}(ha:l[i]?=some a)(hj:j<n)(hc:(c a).set j v=c a')(rest:List Value):(flat c l++rest).set (i*n+j) v=flat c (l.set i a')++rest:=by
 have hi:i<l.length:=(bP.1 ha).1
 have hL:(flat c l++rest).length=l.length*n+rest.length:=by rw[a8,eu h]
 have h1:=wW h a' rest hi
 rw[←h1,←hc]
 have hle:(i+1)*n≤l.length*n:=sv n hi
 rw[qj,Nat.one_mul] at hle
 have hr:=oO h ha rest
 apply qe
 intro k
 unfold dM
 rw[ed,EK,EK]
 have hca:=h a
 simp only[fW,jj,hca,hL]
 rw[Bz yg]
 split
 ·rw[lU yg,ss,if_pos (by assumption)]
 ·rename_i hk
  split
  ·rename_i hk2
   by_cases hkj:k=i*n+j
   ·subst hkj
    rw[iR yg,Nat.add_sub_cancel_left,iR yg]
   ·rw[lU yg,lU yg,←hr,ss,if_pos hk2,qY]
    congr 1;omega
  ·rename_i hk2
   rw[lU yg,qY]
   congr 1;omega
theorem Ks(m:Nat)(a:α):(List.replicate m (c a)).flatten=flat c (List.replicate m a):=by simp[flat]
theorem nZ{p:Value→Bool}(h:∀a,(c a).all p=true)(l:List α):(flat c l).all p=true:=by
 rw[nK];intro v hv
 obtain⟨r,hr,hv⟩:=List.mem_flatten.1 hv
 obtain⟨a,_,rfl⟩:=cy.1 hr
 exact nK.1 (h a) v hv
end
theorem a_.at_{Fr:Nat→Prop}{L:List HP}{w:World}(h:a_ Fr L w)(i:Nat){H:HP}(hL:L[i]?=some H):a_ Fr [H] w:=by
 obtain⟨F,hs,hf⟩:=h
 obtain⟨ids,h1,h2⟩:=hs.get hL
 exact⟨ids,⟨ids,[],by simp,h1,Z⟩,fun b hb=>hf b (h2 b hb)⟩
theorem a_.ex{Fr:Nat→Prop}{α:Type}{f:α→HP}{w:World}(h:a_ Fr [hex f] w):∃x,a_ Fr [f x] w:=by
 obtain⟨F,⟨ids,G,hF,⟨x,hx⟩,hG⟩,hf⟩:=h
 exact⟨x,F,⟨ids,G,hF,hx,hG⟩,hf⟩
theorem a_.sep{Fr:Nat→Prop}{L:List HP}{w:World}(h:a_ Fr [bF L] w):a_ Fr L w:=by
 obtain⟨F,⟨ids,G,hF,hx,hG⟩,hf⟩:=h
 exact⟨ids,hx,fun b hb=>hf b (by rw[hF];exact eP.2 (.inl hb))⟩
theorem a_.pure{Fr:Nat→Prop}{L:List HP}{w:World}(h:a_ Fr L w)(i:Nat){φ:Prop}(hL:L[i]?=some (kI φ)):φ:=by
 obtain⟨F,hs,hf⟩:=h
 obtain⟨ids,h1,h2⟩:=hs.get hL
 exact h1.2
theorem a_.tail{Fr:Nat→Prop}{H:HP}{L:List HP}{w:World}(h:a_ Fr (H::L) w):a_ Fr L w:=by
 obtain⟨F,⟨G,K,rfl,_,hK⟩,hf⟩:=h
 exact⟨K,hK,fun b hb=>hf b (eP.2 (.inr hb))⟩
theorem a_.shut{Fr:Nat→Prop}{α:Type}{φ:α→Prop}{Ls:α→List HP}{w:World}(x:α)(hx:φ x)(h:a_ Fr (Ls x) w):a_ Fr [hex fun x=>bF (kI (φ x)::Ls x)] w:=by
 obtain⟨F,hs,hf⟩:=h
 exact⟨F,⟨F,[],by simp,⟨x,[],F,Z,⟨rfl,hx⟩,hs⟩,Z⟩,hf⟩
theorem a_.of{X:Cx}{Fr':Nat→Prop}{L:List HP}(hw:a_ X.Fr L X.w0)(hF:∀b,X.Fr b→Fr' b){M:List HP}{w':World}(hs:St X M w'):a_ Fr' L w':=by
 obtain⟨F,h1,h2⟩:=hw
 exact⟨F,h1.loc (fun b hb=>hs.cP.block b (h2 b hb)),fun b hb=>hF b (h2 b hb)⟩
theorem bq.of{X:Cx}{b:Nat}{cs:List Value}(h:bq X.Fr X.w0 b cs){Fr':Nat→Prop}(hF:∀b,X.Fr b→Fr' b){w:World}{L:List HP}(hw:St X L w):bq Fr' w b cs:=h.cP hF hw
section
variable {X:Cx} {ops:Array Oper} {G:GS} {l:List Oper} {pl:iE} {S:kA} {e:Env} {L:List HP} {K:Env→List HP→Prop}
  {dst:Option Tmp} {ty:TypeId} {pos:String} {after:Array Edge} {guard:Option (Nat×Bool)}
theorem aK.eB{φ:Value→Prop}{f:FuncId}{args:Array Operand}{tys:Array TypeId}{vals:List Value}
  (ht:∀Fr' w,(∀b,X.Fr b→Fr' b)→St X L w→a_ Fr' L w→ax X.P f vals Fr' w [] (fun v L=>φ v∧L=[])) (hargs:ft e args.toList=some vals):
  aK X (.call ⟨.value (.func f),args,tys⟩) e L (fun v L'=>φ v∧L'=L):=by
 intro a w ha hw dst ty pos after guard
 rcases aK.call (R:=fun v L=>φ v∧L=[]) hargs (Lc:=[]) (Lr:=L) (.refl _) ht a w ha hw dst ty pos after guard with ⟨v,w',L',h1,⟨L1,⟨h2,h3⟩,h4⟩,h5⟩ | ⟨w',L',h1,⟨L1,⟨h2,h3⟩,h4⟩,h5⟩ | ⟨f,args,h1,h2⟩
 ·exact .inl ⟨v,w',L',h1,⟨h2,by rw[h4,h3];rfl⟩,h5⟩
 ·exact .inr (.inl ⟨w',L',h1,⟨h2,by rw[h4,h3];rfl⟩,h5⟩)
 ·refine .inr (.inr ⟨f,args,h1,Calls.mono h2 fun en w' ⟨v,L',h3,⟨L1,⟨h4,h5⟩,h6⟩,h7⟩=>⟨v,L',h3,⟨h4,by rw[h6,h5];rfl⟩,h7⟩⟩)
theorem VO.eB{φ:Value→Prop}{f:FuncId}{args:Array Operand}{tys:Array TypeId}{vals:List Value}
  (ht:∀Fr' w,(∀b,X.Fr b→Fr' b)→St X L w→a_ Fr' L w→ax X.P f vals Fr' w [] (fun v L=>φ v∧L=[])) (hargs:ft e args.toList=some vals)
  (hk:∀v,φ v→VO X ops G l (bW dst v e) L K)
  (hg:cB ops G guard=some true:=by rfl) (hd:cI X.n dst=true:=by rfl) (hf:cz G dst=true:=by rfl):
  VO X ops G (⟨dst,.call ⟨.value (.func f),args,tys⟩,ty,pos,after,guard⟩::l) e L K:=
 VO.op hg hd hf (aK.eB ht hargs) fun v L' ⟨h1,h2⟩=>by subst h2;exact hk v h1
theorem VO.Jz{u:Value}{f:FuncId}{args:Array Operand}{tys:Array TypeId}{vals:List Value}
  (ht:∀Fr' w,(∀b,X.Fr b→Fr' b)→St X L w→a_ Fr' L w→ax X.P f vals Fr' w [] (fun v L=>v=u∧L=[])) (hargs:ft e args.toList=some vals)
  (hk:VO X ops G l (bW dst u e) L K)
  (hg:cB ops G guard=some true:=by rfl) (hd:cI X.n dst=true:=by rfl) (hf:cz G dst=true:=by rfl):
  VO X ops G (⟨dst,.call ⟨.value (.func f),args,tys⟩,ty,pos,after,guard⟩::l) e L K:=
 VO.eB ht hargs (fun v h=>by subst h;exact hk) hg hd hf
theorem VA.eB{φ:Value→Prop}{f:FuncId}{args:Array Operand}{tys:Array TypeId}{vals:List Value}{i:Nat}
  (ht:∀Fr' w,(∀b,X.Fr b→Fr' b)→St X L w→a_ Fr' L w→ax X.P f vals Fr' w [] (fun v L=>φ v∧L=[]))
  (hi:ops.toList[i]?=some ⟨dst,.call ⟨.value (.func f),args,tys⟩,ty,pos,after,guard⟩) (hargs:ft e args.toList=some vals)
  (hst:∀w,St X L w→∀p∈S,waits ops i p.1=false→p.2 w)
  (hk:∀v,φ v→VA X ops G pl (S.filter fun p=>!waits ops i p.1) (bW dst v e) L K)
  (hg:cB ops G guard=some true:=by rfl) (hd:cI X.n dst=true:=by rfl) (hf:cz G dst=true:=by rfl):VA X ops G (.only i pl) S e L K:=
 VA.op (M:=fun v L'=>φ v∧L'=L) hi hg hd hf (aK.eB ht hargs) (fun v L' ⟨_,h2⟩ w hw=>by subst h2;exact hst w hw) (fun v L' ⟨h1,h2⟩=>by subst h2;exact hk v h1)
def Pd(X:Cx)(L:List HP)(S:kA):Prop:=∀p∈S,∀w,St X L w→p.2 w
theorem Pd.nil:Pd X L []:=fun _ h=>by cases h
theorem Pd.cons{ti:TI}{b off i:Nat}{v:Value}(h:aw X L ti b off v)(hs:Pd X L S):Pd X L ((i,Rd ti.aE.agg ti.size b off v)::S):=fun p hp w hw=>by
 rcases iD.1 hp with rfl | hp
 ·exact h w hw
 ·exact hs p hp w hw
theorem Pd.filter{f:Nat×(World→Prop)→Bool}(hs:Pd X L S):Pd X L (S.filter f):=fun p hp=>hs p (iS.1 hp).1
theorem Pd.inner{f g:Nat×(World→Prop)→Bool}(h:Pd X L (S.filter g)):Pd X L ((S.filter f).filter g):=fun p hp=>by
 obtain⟨h1,h2⟩:=iS.1 hp
 exact h p (iS.2 ⟨(iS.1 h1).1,h2⟩)
theorem Pd.skip{i j:Nat}{φ:World→Prop}(hf:waits ops j i=true)(h:Pd X L (S.filter fun p=>!waits ops j p.1)):Pd X L (((i,φ)::S:kA).filter fun p=>!waits ops j p.1):=by
 rw[List.filter_cons_of_neg (by simp[hf])];exact h
theorem Pd.Ki{f:Nat×(World→Prop)→Bool}{ti:TI}{b off i:Nat}{v:Value}(h:aw X L ti b off v)(hs:Pd X L (S.filter f)):Pd X L (((i,Rd ti.aE.agg ti.size b off v)::S).filter f):=fun p hp=>by
 obtain⟨h1,h2⟩:=iS.1 hp
 rcases iD.1 h1 with rfl | h1
 ·exact fun w hw=>h w hw
 ·exact hs p (iS.2 ⟨h1,h2⟩)
theorem Pd.st(hs:Pd X L S){i:Nat}:∀w,St X L w→∀p∈S,waits ops i p.1=false→p.2 w:=fun w hw p hp _=>hs p hp w hw
theorem VA.Ak{i:Nat}{o:Oper}{M:Value→List HP→Prop}(h:aK X o.op e L M)(hi:ops.toList[i]?=some o)
  (hst:∀v L',M v L'→Pd X L' (S.filter fun p=>!waits ops i p.1))
  (hk:∀v L',M v L'→VA X ops G pl (S.filter fun p=>!waits ops i p.1) (bW o.dst v e) L' K)
  (hg:cB ops G o.guard=some true:=by rfl) (hd:cI X.n o.dst=true:=by rfl) (hf:cz G o.dst=true:=by rfl):VA X ops G (.only i pl) S e L K:=
 VA.op hi hg hd hf h (fun v L' hm w hw p hp hq=>hst v L' hm p (iS.2 ⟨hp,by simp[hq]⟩) w hw) hk
theorem aK.mono{op:Op}{M N:Value→List HP→Prop}(h:aK X op e L M)(hm:∀v L',M v L'→N v L'):aK X op e L N:=fun a w ha hw dst ty pos after guard=>by
 rcases h a w ha hw dst ty pos after guard with ⟨v,w',L',h1,h2,h3⟩ | ⟨w',L',h1,h2,h3⟩ | ⟨f,args,h1,h2⟩
 ·exact .inl ⟨v,w',L',h1,hm _ _ h2,h3⟩
 ·exact .inr (.inl ⟨w',L',h1,hm _ _ h2,h3⟩)
 ·exact .inr (.inr ⟨f,args,h1,Calls.mono h2 fun en w' ⟨v,L',h3,h4,h5⟩=>⟨v,L',h3,hm _ _ h4,h5⟩⟩)
theorem VA.AH{j:Nat}{T:TypeId}{x y:Operand}{ti:TI}{b off t:Nat}{cs cs' vs:List Value}{L':List HP}(i:Nat)(hi:ops.toList[j]?=some ⟨dst,.store T x y,ty,pos,after,guard⟩)(hx:ev e x=some (.pointer (some ⟨b,off,none⟩)))(hy:ev e y=some (.agg vs.toArray))(hL:L[i]?=some (pt b cs t))
  (hT:bR X.tab T=some ti) (hl:off+vs.length≤cs.length) (hcs:dM cs off vs=cs') (hL':L.set i (pt b cs' t)=L') (h1:vs.all Value.oneCell'=true) (hst:Pd X L' (S.filter fun p=>!waits ops j p.1))
  (hk:VA X ops G pl (S.filter fun p=>!waits ops j p.1) (bW dst undef e) L' K) (hs:vs.length=ti.size:=by rfl)
  (hg:cB ops G guard=some true:=by rfl) (hd:cI X.n dst=true:=by rfl) (hf:cz G dst=true:=by rfl):VA X ops G (.only j pl) S e L K:=by
 subst hcs;subst hL'
 exact VA.Ak (aK.store (vs:=vs) i hx hy hL hT Z hs hl h1) hi (fun v L' ⟨h3,h4⟩=>by subst h4;exact hst) (fun v L' ⟨h3,h4⟩=>by subst h3;subst h4;exact hk) hg hd hf
theorem VA.st{j:Nat}{T:TypeId}{x y:Operand}{ti:TI}{b off t:Nat}{cs cs':List Value}{v:Value}{L':List HP}(i:Nat)(hi:ops.toList[j]?=some ⟨dst,.store T x y,ty,pos,after,guard⟩)(hx:ev e x=some (.pointer (some ⟨b,off,none⟩)))(hy:ev e y=some v)(hL:L[i]?=some (pt b cs t))
  (hT:bR X.tab T=some ti) (hlt:off<cs.length) (hcs:cs.set off v=cs') (hL':L.set i (pt b cs' t)=L') (hst:Pd X L' (S.filter fun p=>!waits ops j p.1))
  (hk:VA X ops G pl (S.filter fun p=>!waits ops j p.1) (bW dst undef e) L' K) (h1:v.oneCell'=true:=by rfl) (hv:v.cells=#[v]:=by rfl) (hsz:ti.size=1:=by rfl)
  (hg:cB ops G guard=some true:=by rfl) (hd:cI X.n dst=true:=by rfl) (hf:cz G dst=true:=by rfl):VA X ops G (.only j pl) S e L K:=by
 subst hcs;subst hL'
 exact VA.Ak (aK.store (vs:=[v]) i hx hy hL hT hv (by simp[hsz]) yh yj) hi (fun v' L' ⟨h3,h4⟩=>by subst h4;rw[Hx _ _ _ hlt];exact hst) (fun v' L' ⟨h3,h4⟩=>by subst h3;subst h4;rw[Hx _ _ _ hlt];exact hk) hg hd hf
end
section
variable {P:Program} {b:Frame} {a:Act} {k:List Item} {cs:List Frame} {w:World}
theorem Xm{c:Code}:step P (lone (b.atR a (.code (.scope c)::k)) cs w)=.next (lone (b.atR a (.code c :: .inScope c::k)) cs w):=
 step_lone_go yo
theorem Xk{c:Code}:step P (lone (b.atR a (.inScope c::k)) cs w)=.next (lone (b.atR a k) cs w):=
 step_lone_go yo
end
def WN(Q:Exit→Env→List HP→Prop):Exit→Env→List HP→Prop
 | .goto _,_,_=>False
 | x,e,L=>Q x e L
theorem VC.scope{X:Cx}{c:Code}{e:Env}{L:List HP}{Q:Exit→Env→List HP→Prop}(h:VC X c e L (WN Q)):VC X (.scope c) e L Q:=fun ro a w ha hw b k cs hro hb hr=>by
 obtain⟨x,a₁,w₁,⟨e',L',h1,h2,h3⟩,harr⟩:=h ro a w ha hw b (.inScope c::k) cs hro hb hr
 have st:StepsIn (Machine.fenced X.P (wR ro)) X.P (lone (b.atR a (.code (.scope c)::k)) cs w) (lone (b.atR a (.code c :: .inScope c::k)) cs w):=.one (fenced_calm hb hr rfl) Xm
 cases x with
 | normal=>exact⟨.normal,a₁,w₁,⟨e',L',h1,h2,h3⟩,StepsIn.trans st (StepsIn.trans harr (.one (fenced_calm hb hr rfl) Xk))⟩
 | exit id=>exact⟨_,a₁,w₁,⟨e',L',h1,h2,h3⟩,.of_steps st ⟨fun k' hk=>harr.1 k' (by simp[exitTo,hk]),fun hr hk=>harr.2 hr (by simp[exitTo,hk])⟩⟩
 | goto l=>exact h3.elim
 | ret=>exact⟨_,a₁,w₁,⟨e',L',h1,h2,h3⟩,.of_steps st harr⟩
 | panic ch=>exact⟨_,a₁,w₁,⟨e',L',h1,h2,h3⟩,.of_steps st harr⟩
 | outgrown=>exact⟨_,a₁,w₁,⟨e',L',h1,h2,h3⟩,.of_steps st harr⟩
theorem GJ:∀{L:List HP} {i:Nat} (H:HP),i<L.length→(H::L.eraseIdx i).Perm (L.set i H)
 | [],_,_,h=>by simp at h
 | _::L,0,H,_=>by simp
 | x::L,i+1,H,h=>(List.Perm.swap x H _).trans ((GJ H ye).cons x)
theorem dd.back{X:Cx}{L:List HP}(i:Nat)(H:HP)(h:i<L.length):dd X (H::L.eraseIdx i) (L.set i H):=(aa.perm (GJ H h)).aj
theorem FY{X:Cx}{e:Env}{T:TypeId}{parts:Array (Nat×Operand)}{ti te:TI}{n el:Nat}{pv:List (Nat×Value)}(cells:List Value)(hT:bR X.tab T=some ti)(hu:ti.aE=.array n el)(hE:bR X.tab el=some te)
  (hp:nY e parts.toList=some pv) (hfill:rz (fun i=>some (i*te.size,te.size)) ti.zs pv=some cells):fo X (.build T parts) e (.agg cells.toArray):=by
 intro a ha dst ty pos after guard w
 have hok:=X.ok.look hT
 have hund:=NA hok hu
 obtain⟨i2,hi2,hs2,_,_⟩:=(X.ok.look hE).nt
 have hparts:parts.map (fun p=>(p.1,a.eval p.2))=pv.toArray:=by
  apply oz.1
  simpa using ha.nY hp
 have hf:=B8 hfill
 have hb:(Instr.build T pv.toArray).run X.P w=.ok (.agg cells.toArray) w:=by
  unfold Instr.build
  simp only[Sem.run_bind,vH hok,Result.andThen_ok,run_underlying hund,lN hi2,hok.zero,hs2]
  simp only[hf,Sem.run_pure]
 simp only[execOp]
 rw[Sem.run_bind]
 have:(parts.map fun x=>match x with | (i,x)=>(i,a.eval x))=pv.toArray:=hparts
 rw[this,hb];rfl
theorem aa.of_eq{L M:List HP}(h:L=M):aa L M:=h▸aa.refl
theorem dd.of_eq{X:Cx}{L M:List HP}(h:L=M):dd X L M:=h▸dd.refl
section
variable {X:Cx} {ops:Array Oper} {G:GS} {l:List Oper} {pl:iE} {S:kA} {e:Env} {L:List HP} {K:Env→List HP→Prop}
  {dst:Option Tmp} {ty:TypeId} {pos:String} {after:Array Edge} {guard:Option (Nat×Bool)}
theorem aK.oK{f:FuncId}{args:Array Operand}{tys:Array TypeId}{vals:List Value}{H:HP}{R:Value→List HP→Prop}{ψ:Value→HP→Prop}(i:Nat)
  (hL:L[i]?=some H) (ht:∀Fr' w,(∀b,X.Fr b→Fr' b)→St X L w→a_ Fr' (L.eraseIdx i) w→ax X.P f vals Fr' w [H] R) (hargs:ft e args.toList=some vals)
  (hR:∀v L1,R v L1→∃H',L1=[H']∧ψ v H'):
  aK X (.call ⟨.value (.func f),args,tys⟩) e L (fun v L'=>∃H',ψ v H'∧L'=L.set i H'):=by
 intro a w ha hw dst ty pos after guard
 have hi:i<L.length:=(bP.1 hL).1
 have key:∀v w' L',(∃L1,R v L1∧L'=L1++L.eraseIdx i)→St X L' w'→∃L'',(∃H',ψ v H'∧L''=L.set i H')∧St X L'' w':=by
  rintro v w' _ ⟨L1,h1,rfl⟩ hs
  obtain⟨H',rfl,hψ⟩:=hR v L1 h1
  exact⟨_,⟨H',hψ,Z⟩,dd.back i H' hi w' hs⟩
 rcases aK.call (R:=R) hargs (Lc:=[H]) (Lr:=L.eraseIdx i) (oW hL) ht a w ha hw dst ty pos after guard with ⟨v,w',L',h1,h2,h3⟩ | ⟨w',L',h1,h2,h3⟩ | ⟨f,args,h1,h2⟩
 ·obtain⟨L'',h4,h5⟩:=key _ _ _ h2 h3
  exact .inl ⟨v,w',L'',h1,h4,h5⟩
 ·obtain⟨L'',h4,h5⟩:=key _ _ _ h2 h3
  exact .inr (.inl ⟨w',L'',h1,h4,h5⟩)
 ·refine .inr (.inr ⟨f,args,h1,Calls.mono h2 fun en w' ⟨v,L',h3,h4,h5⟩=>?_⟩)
  obtain⟨L'',h6,h7⟩:=key _ _ _ h4 h5
  exact⟨v,L'',h3,h6,h7⟩
theorem VO.oK{f:FuncId}{args:Array Operand}{tys:Array TypeId}{vals:List Value}{H:HP}{R:Value→List HP→Prop}{ψ:Value→HP→Prop}(i:Nat)
  (hL:L[i]?=some H) (ht:∀Fr' w,(∀b,X.Fr b→Fr' b)→St X L w→a_ Fr' (L.eraseIdx i) w→ax X.P f vals Fr' w [H] R) (hargs:ft e args.toList=some vals)
  (hR:∀v L1,R v L1→∃H',L1=[H']∧ψ v H') (hk:∀v H',ψ v H'→VO X ops G l (bW dst v e) (L.set i H') K)
  (hg:cB ops G guard=some true:=by rfl) (hd:cI X.n dst=true:=by rfl) (hf:cz G dst=true:=by rfl):
  VO X ops G (⟨dst,.call ⟨.value (.func f),args,tys⟩,ty,pos,after,guard⟩::l) e L K:=
 VO.op hg hd hf (aK.oK i hL ht hargs hR) fun v L' ⟨H',h1,h2⟩=>by subst h2;exact hk v H' h1
theorem VA.oK{j:Nat}{f:FuncId}{args:Array Operand}{tys:Array TypeId}{vals:List Value}{H:HP}{R:Value→List HP→Prop}{ψ:Value→HP→Prop}(i:Nat)
  (hL:L[i]?=some H) (ht:∀Fr' w,(∀b,X.Fr b→Fr' b)→St X L w→a_ Fr' (L.eraseIdx i) w→ax X.P f vals Fr' w [H] R)
  (hi:ops.toList[j]?=some ⟨dst,.call ⟨.value (.func f),args,tys⟩,ty,pos,after,guard⟩) (hargs:ft e args.toList=some vals)
  (hR:∀v L1,R v L1→∃H',L1=[H']∧ψ v H') (hst:∀v H',ψ v H'→Pd X (L.set i H') (S.filter fun p=>!waits ops j p.1))
  (hk:∀v H',ψ v H'→VA X ops G pl (S.filter fun p=>!waits ops j p.1) (bW dst v e) (L.set i H') K)
  (hg:cB ops G guard=some true:=by rfl) (hd:cI X.n dst=true:=by rfl) (hf:cz G dst=true:=by rfl):VA X ops G (.only j pl) S e L K:=
 VA.Ak (aK.oK i hL ht hargs hR) hi (fun v L' ⟨H',h1,h2⟩=>by subst h2;exact hst v H' h1) (fun v L' ⟨H',h1,h2⟩=>by subst h2;exact hk v H' h1) hg hd hf
end
theorem zS:type_of% @VC.seq:=@VC.seq
theorem zR:type_of% @VC.region:=@VC.region
theorem zB:type_of% @VC.block:=@VC.block
theorem zC:type_of% @VC.scope:=@VC.scope
theorem zG:type_of% @VO.go:=@VO.go
theorem zN:type_of% @VO.nil:=@VO.nil
theorem zD:type_of% @VO.ld:=@VO.ld
theorem zE:type_of% @VO.load:=@VO.load
theorem yG:type_of% @VA.go:=@VA.go
theorem yN:type_of% @VA.nil:=@VA.nil
theorem yD:type_of% @VA.ld:=@VA.ld
theorem yE:type_of% @VA.load:=@VA.load
theorem zo:type_of% @aw.one:=@aw.one
theorem zm:type_of% @aw.many:=@aw.many
theorem zf:type_of% @Pd.Ki:=@Pd.Ki
theorem zc:type_of% @Pd.cons:=@Pd.cons
end Vg
namespace Vg
open Go
theorem VO.rO{X:Cx}{ops:Array Oper}{G:GS}{o:Oper}{l:List Oper}{e:Env}{L:List HP}{K:Env→List HP→Prop}{j d:Nat}{want:Bool}
  (hg:o.guard=some (j,want)) (hj:(ops.toList[j]?).bind (fun oj=>oj.dst)=some d) (hu:look e d=some undef)
  (hk:VO X ops G l (bW o.dst undef e) L K) (hd:cI X.n o.dst=true:=by rfl) (hf:cz G o.dst=true:=by rfl):VO X ops G (o::l) e L K:=by
 intro Q' hQ ro a w ha hG hw
 unfold wpListIn
 have hn:Region.wanted o (yielded ops a.tmps)=false:=by
  unfold Region.wanted
  rw[hg]
  have hy:yielded ops a.tmps j=none:=by
   unfold yielded
   have hj':(ops[j]?).bind (fun oj=>oj.dst)=some d:=by simpa using hj
   have ht:=ha.at_ d _ hu
   rw[hj']
   simp only[jS]
   cases hq:a.tmps[d]? with
   | none=>rfl
   | some v=>
    have:v=undef:=by rw[←ht,v8,hq];rfl
    subst this;rfl
  simp[hy]
 rw[if_neg (by rw[hn];simp)]
 exact NY
theorem zU:type_of% @VO.rO:=@VO.rO
end Vg
namespace Vg
open Go
theorem FZ{X:Cx}{e:Env}{T:TypeId}{x y:Operand}{tt te:TI}{el len cap:Nat}{a:Option Addr}{k:IntKind}{j:Int}(hi:Nat)(hx:ev e x=some (.slice a len cap))(hy:ev e y=some (.int k j))
  (hT:bR X.tab T=some tt) (hu:tt.aE=.slice el) (hE:bR X.tab el=some te) (hhi:j=hi) (h1:hi≤cap):
  fo X (.slice T x none (some y) none) e (.slice a hi cap):=by
 intro ac hac dst ty pos after guard w
 have hd:=qR (X.ok.look hT) hu
 obtain⟨i2,hi2,hs2,_,_⟩:=(X.ok.look hE).nt
 subst hhi
 simp[execOp,hac.ev hx,hac.ev hy,Instr.sliceAt,Instr.slice,Instr.sliceBounds,Instr.sliceBound,asIntOf,run_underlying hd,h1,lN hi2]
 cases a with
 | none=>simp
 | some a=>simp[Addr.add]
theorem pI{X:Cx}{e:Env}{s d:TypeId}{x:Operand}{j:IntKind}{a:Int}{ts td:TI}{k:IntKind}(z:Int)(hx:ev e x=some (.int j a))(hs:bR X.tab s=some ts)(hd':bR X.tab d=some td)(hsu:ts.aE=.int j)(hdu:td.aE=.int k)
  (hz:k.wrap a=z):fo X (.convert s d x) e (.int k z):=by
 have h1:=Hs (X.ok.look hs) hsu
 have h2:=Hs (X.ok.look hd') hdu
 intro a' ha dst ty pos after guard w
 simp[execOp,ha.ev hx,convert,run_underlying h1,run_underlying h2,Conv.intToInt,hz]
theorem an.JD{X:Cx}{fn:Func}{R:Value→List HP→Prop}{e:Env}{L:List HP}{T:TypeId}{ti:TI}{b:Nat}{v u x:Value}(p q r:Nat)(h:fn.results=#[.cell p T,.tmp q,.tmp r])(hp:look e p=some (.pointer (some ⟨b,0,none⟩)))(hT:bR X.tab T=some ti)
  (hr:aw X L ti b 0 v) (hq:look e q=some u) (hx:look e r=some x) {L':List HP} (he:dd X L L') (hR:R (.tuple #[v,u,x]) L'):an X fn R e L:=
 ⟨_,L',⟨fun a w ha hw=>by
  have:=C_ (X.ok.look hT) (hr w hw)
  have hp':=ha.at_ p _ hp
  have hq':=ha.at_ q _ hq
  have hx':=ha.at_ r _ hx
  simp only[v8] at hp' hq' hx'
  simp[results,h,hp',hq',hx',asAddr,this]⟩,he,hR⟩
theorem aK.abm{X:Cx}{f:FuncId}{args:Array Operand}{tys:Array TypeId}{e:Env}{L:List HP}{M:Value→List HP→Prop}{t:Tmp}(ht:look e t=some (.func (.func f) #[] #[]))
  (h:aK X (.call ⟨.value (.func f),args,tys⟩) e L M):aK X (.call ⟨.value (.tmp t),args,tys⟩) e L M:=fun a w ha hw dst ty pos after guard=>by
 have he:a.eval (.tmp t)=a.eval (.func f):=ha.at_ t _ ht
 have key:execOp a.eval ⟨dst,.call ⟨.value (.tmp t),args,tys⟩,ty,pos,after,guard⟩=execOp a.eval ⟨dst,.call ⟨.value (.func f),args,tys⟩,ty,pos,after,guard⟩:=by
  simp only[execOp,resolve,he]
 rw[key]
 exact h a w ha hw dst ty pos after guard
section
variable {X:Cx} {ops:Array Oper} {G:GS} {l:List Oper} {pl:iE} {S:kA} {e:Env} {L:List HP} {K:Env→List HP→Prop}
  {dst:Option Tmp} {ty:TypeId} {pos:String} {after:Array Edge} {guard:Option (Nat×Bool)}
theorem VA.U7{i:Nat}{o:Oper}(hi:ops.toList[i]?=some o)(hg:cB ops G o.guard=some false)(hk:VA X ops G pl (S.filter fun p=>!waits ops i p.1) (bW o.dst undef e) L K)
  (hd:cI X.n o.dst=true:=by rfl) (hf:cz G o.dst=true:=by rfl):VA X ops G (.only i pl) S e L K:=by
 intro Q' hp0 hQ hsel ro listed a w hp ha hG hw hall
 simp only[om,eG,beq_iff_eq] at hp
 have hi':ops[i]?=some o:=by simpa using hi
 have hpr:=hp.1
 refine⟨fun h0=>yk,fun j hj=>?_⟩
 rw[hpr,fe] at hj
 subst hj
 unfold wpOpIn
 rw[hi']
 simp only[rB hG hg,Bool.false_eq_true,if_false]
 refine⟨fun _ _=>trivial,fun p hp1 _=>hall p hp1,?_⟩
 exact hk Q' hp0 hQ hsel ro _ _ w hp.2 (ha.bW hd undef) (hG.put hf undef) hw (fun p hp1=>hall p (iS.1 hp1).1)
theorem VA.rO{i:Nat}{o:Oper}{j d:Nat}{want:Bool}(hi:ops.toList[i]?=some o)(hg:o.guard=some (j,want))(hj:(ops.toList[j]?).bind (fun oj=>oj.dst)=some d)(hu:look e d=some undef)
  (hk:VA X ops G pl S (bW o.dst undef e) L K) (hd:cI X.n o.dst=true:=by rfl) (hf:cz G o.dst=true:=by rfl):VA X ops G (.take i pl) S e L K:=by
 refine VA.first (Si:=fun _=>True) hi hd hf (fun a ha hG=>.inr ⟨?_,Z⟩) (fun _ _=>trivial) ?_
 ·unfold Region.wanted
  rw[hg]
  have hy:yielded ops a.tmps j=none:=by
   unfold yielded
   have hj':(ops[j]?).bind (fun oj=>oj.dst)=some d:=by simpa using hj
   have ht:=ha.at_ d _ hu
   rw[hj']
   simp only[jS]
   cases hq:a.tmps[d]? with
   | none=>rfl
   | some v=>
    have:v=undef:=by rw[←ht,v8,hq];rfl
    subst this;rfl
  simp[hy]
 intro Q' hp0 hQ hsel ro listed a w hp ha hG hw hall
 have:=hk Q' hp0 hQ hsel ro listed a w hp ha hG hw (fun p h=>hall p (kW _ h))
 exact DQ pl.len listed S _ a w (fun p hp=>by
  rcases iD.1 hp with rfl | hp
  ·exact .inr fun _=>trivial
  ·exact .inl hp) this
theorem VA.Tg{cond:List HP→Prop}(h:∀S:kA,(∀L',cond L'→Pd X L' S)→VA X ops G pl S e L K)(h0:∀L',cond L'→Pd X L' S):VA X ops G pl S e L K:=h S h0
theorem VO.py{f:FuncId}{t:Tmp}{args:Array Operand}{tys:Array TypeId}{vals:List Value}{H:HP}{R:Value→List HP→Prop}{ψ:Value→HP→Prop}(i:Nat)(htm:look e t=some (.func (.func f) #[] #[]))
  (hL:L[i]?=some H) (ht:∀Fr' w,(∀b,X.Fr b→Fr' b)→St X L w→a_ Fr' (L.eraseIdx i) w→ax X.P f vals Fr' w [H] R) (hargs:ft e args.toList=some vals)
  (hR:∀v L1,R v L1→∃H',L1=[H']∧ψ v H') (hk:∀v H',ψ v H'→VO X ops G l (bW dst v e) (L.set i H') K)
  (hg:cB ops G guard=some true:=by rfl) (hd:cI X.n dst=true:=by rfl) (hf:cz G dst=true:=by rfl):
  VO X ops G (⟨dst,.call ⟨.value (.tmp t),args,tys⟩,ty,pos,after,guard⟩::l) e L K:=
 VO.op hg hd hf (aK.abm htm (aK.oK i hL ht hargs hR)) fun v L' ⟨H',h1,h2⟩=>by subst h2;exact hk v H' h1
end
theorem yU:type_of% @VA.rO:=@VA.rO
theorem VG:type_of% @VO.go:=@VO.go
theorem AG:type_of% @VA.go:=@VA.go
theorem VY:type_of% @VO.yes:=@VO.yes
theorem AY:type_of% @VA.yes:=@VA.yes
theorem CR:type_of% @VC.ret:=@VC.ret
theorem CK:type_of% @VC.skip:=@VC.skip
theorem CS:type_of% @VC.seq:=@VC.seq
theorem CG:type_of% @VC.region:=@VC.region
theorem ER:type_of% @dd.refl:=@dd.refl
theorem VN:type_of% @VO.nil:=@VO.nil
theorem AN:type_of% @VA.nil:=@VA.nil
theorem CC:type_of% @VC.cond:=@VC.cond
theorem CP:type_of% @VC.JU:=@VC.JU
theorem CE:type_of% @VC.JT:=@VC.JT
theorem VL:type_of% @VO.dE:=@VO.dE
theorem VT:type_of% @VO.AH:=@VO.AH
theorem AR:type_of% @VA.Jy:=@VA.Jy
theorem VV:type_of% @VO.Jz:=@VO.Jz
theorem VK:type_of% @VO.call:=@VO.call
theorem VQ:type_of% @VO.oK:=@VO.oK
theorem VI:type_of% @VO.zX:=@VO.zX
theorem AI:type_of% @VA.zX:=@VA.zX
theorem CN:type_of% @VC.aj:=@VC.aj
theorem VB:type_of% @VO.Js:=@VO.Js
theorem SC:type_of% @Sub.cons:=@Sub.cons
theorem SN:type_of% @Sub.nil:=@Sub.nil
theorem IP:type_of% @aa.pick:=@aa.pick
theorem TF:type_of% @ax.of:=@ax.of
theorem LB:type_of% @KV:=@KV
theorem CX:type_of% @VC.exit:=@VC.exit
theorem CD:type_of% @VC.draw:=@VC.draw
theorem OC:type_of% @aK.call:=@aK.call
theorem AO:type_of% @VA.Ak:=@VA.Ak
theorem AQ:type_of% @VA.oK:=@VA.oK
theorem AT:type_of% @VA.AH:=@VA.AH
theorem VD:type_of% @VO.load:=@VO.load
theorem VP:type_of% @VO.add:=@VO.add
theorem AP:type_of% @VA.add:=@VA.add
abbrev pV(b:Nat):Value:=.pointer (some ⟨b,0,none⟩)
end Vg
namespace Vg
open Go
theorem aa.put{H:HP}{L:List HP}(k:Nat)(hk:k<L.length):aa (H::L) (L.set k H):=by
 have h1:aa L (L.eraseIdx k):=aa.trans (aa.perm (oW (GE hk))) (aa.app (L:=[_]) (M:=[]) aa.nil aa.refl)
 exact aa.trans (aa.cons h1) (aa.perm (GJ H hk))
end Vg
namespace Vg
open Go
structure RL(α:Type) where
 addr:Option Addr
 cap:Nat
 aA:Option Nat
 cells:List Value
 xs:List α
section
variable {α:Type} {c:α→List Value} {n t:Nat}
def RL.v(r:RL α):Value:=.slice r.addr r.xs.length r.cap
def RL.h(t:Nat)(r:RL α):HP:=match r.aA with
 | none=>kI True
 | some b=>pt b r.cells t
structure RL.Ok(c:α→List Value)(n:Nat)(r:RL α):Prop where
 room:r.xs.length≤r.cap
 at_:r.xs≠[]→∃b off,r.aA=some b∧r.addr=some ⟨b,off,none⟩∧∀i x,r.xs[i]?=some x→(r.cells.drop (off+i*n)).take n=c x
def RL.none:RL α:=⟨.none,0,.none,[],[]⟩
theorem RL.UT:(RL.none:RL α).Ok c n:=⟨NR _,fun h=>absurd rfl h⟩
def RL.new(c:α→List Value)(b cap:Nat)(xs:List α)(rest:List Value):RL α:=⟨some ⟨b,0,Option.none⟩,cap,some b,flat c xs++rest,xs⟩
theorem RL.CH(hc:∀x,(c x).length=n){b cap:Nat}{xs:List α}{rest:List Value}(h:xs.length≤cap):(RL.new c b cap xs rest).Ok c n:=⟨h,fun _=>⟨b,0,rfl,rfl,fun i x hx=>by
 rw[cj];exact oO hc hx rest⟩⟩
theorem FB:∀{xs:List α} {cells:List Value} {off:Nat},(∀i x,xs[i]?=some x→(cells.drop (off+i*n)).take n=c x)→(cells.drop off).take (xs.length*n)=flat c xs
 | [],cells,off,_=>by simp[flat]
 | x::xs,cells,off,h=>by
  have h0:=h 0 x rfl
  rw[Nat.zero_mul,wm] at h0
  have ih:=FB (xs:=xs) (cells:=cells) (off:=off+n) (fun i y hy=>by
   rw[←h (i+1) y (by simpa using hy)]
   rw[show off+n+i*n=off+(i+1)*n from by rw[zb];omega])
  rw[ku,zb,Nat.add_comm (xs.length*n) n,List.take_add,h0,lz,Bt,ih]
theorem RL.rd{X:Cx}{L:List HP}{r:RL α}(hc:∀x,(c x).length=n)(h:r.Ok c n)(i:Nat)(hL:L[i]?=some (r.h t)):dm X L r.v n r.xs.length (flat c r.xs):=by
 by_cases hx:r.xs=[]
 ·exact⟨by simp[hx,flat],.inl ⟨r.addr,r.cap,Z,by simp[hx]⟩⟩
 ·obtain⟨b,off,h1,h2,h3⟩:=h.at_ hx
  have hp:L[i]?=some (pt b r.cells t):=by rw[hL,RL.h,h1]
  rw[RL.v,h2]
  exact dm.pt i hp (FB h3) (eu hc _)
theorem RL.Ok.nth{r:RL α}{x:α}{k:Nat}(h:r.Ok c n)(hx:r.xs[k]?=some x):∃b off,r.aA=some b∧r.addr=some ⟨b,off,Option.none⟩∧(r.cells.drop (off+k*n)).take n=c x:=by
 obtain⟨b,off,h1,h2,h3⟩:=h.at_ (fun e=>by rw[e] at hx;cases hx)
 exact⟨b,off,h1,h2,h3 k x hx⟩
theorem RL.KA{r:RL α}{b:Nat}(h:r.aA=some b):r.h t=pt b r.cells t:=by rw[RL.h,h]
theorem bd.rl(el:Nat)(a:Option Addr)(cap:Nat)(xs:List α)(hc:∀x,(c x).length=n):bd (ι:=RL α) (aq el n a xs.length cap (flat c xs)) (fun r=>r.Ok c n∧r.v=.slice a xs.length cap∧r.xs=xs) (fun r=>[r.h el]):=by
 intro w ids h hn
 obtain⟨x,hx,ids',h1,h2,h3⟩:=bd.sl el n a xs.length cap (flat c xs) w ids h hn
 cases x with
 | none=>
  obtain⟨h5,h6,h7,h8,h9,h10⟩:=hx
  subst h7;subst h9
  obtain rfl:xs=[]:=iC h8
  cases h1
  exact⟨RL.none,⟨RL.UT,rfl,rfl⟩,[],⟨[],[],rfl,⟨rfl,trivial⟩,rfl⟩,.nil,fun _ h=>by cases h⟩
 | some x=>
  obtain⟨b,rest⟩:=x
  obtain⟨h5,h6,h7,h8⟩:=hx
  subst h7
  exact⟨RL.new c b cap xs rest,⟨RL.CH hc h6,Z,Z⟩,ids',h1,h2,h3⟩
end
end Vg
namespace Vg
open Go Go.MapKept
section
variable {κ α:Type} [DecidableEq κ]
def lI:List (κ×α)→κ→Nat→Option (Nat×α)
 | [],_,_=>none
 | (k,v)::r,a,i=>if k=a then some (i,v) else lI r a (i+1)
def bX:List (κ×α)→κ→Option α
 | [],_=>none
 | (k,v)::r,a=>if k=a then some v else bX r a
def cS:List (κ×α)→κ→α→List (κ×α)
 | [],a,u=>[(a,u)]
 | (k,v)::r,a,u=>if k=a then (k,u)::r else (k,v)::cS r a u
def gx:List (κ×α)→κ→List (κ×α)
 | [],_=>[]
 | (k,v)::r,a=>if k=a then r else (k,v)::gx r a
theorem vm:∀{l:List (κ×α)} {a:κ} {i:Nat},lI l a i=none→bX l a=none∧(∀x∈l,x.1≠a)∧(∀u,cS l a u=l ++ [(a,u)])∧gx l a=l
 | [],_,_,_=>⟨rfl,(fun _ h=>by cases h),fun _=>rfl,rfl⟩
 | (k,v)::r,a,i,h=>by
  simp only[lI] at h
  split at h
  ·cases h
  ·rename_i hk
   obtain⟨h1,h2,h3,h4⟩:=vm h
   refine⟨by simp[bX,hk,h1],fun x hx=>?_,fun u=>by simp[cS,hk,h3],by simp[gx,hk,h4]⟩
   rcases iD.1 hx with rfl | hx
   ·exact hk
   ·exact h2 x hx
theorem w7:∀{l:List (κ×α)} {a:κ} {i j:Nat} {v:α},lI l a i=some (j,v)→i≤j∧l[j-i]?=some (a,v)∧bX l a=some v∧(∀u,cS l a u=l.set (j-i) (a,u))∧gx l a=l.eraseIdx (j-i)
 | [],_,_,_,_,h=>by cases h
 | (k,u)::r,a,i,j,v,h=>by
  simp only[lI] at h
  split at h
  ·rename_i hk
   obtain⟨rfl,rfl⟩:=Prod.mk.inj (ij h)
   subst hk
   refine⟨NR _,by simp,by simp[bX],fun u=>by simp[cS],by simp[gx]⟩
  ·rename_i hk
   obtain⟨h1,h2,h3,h4,h5⟩:=w7 h
   have e:j-i=(j-(i+1))+1:=by omega
   rw[e]
   exact⟨by omega,by simpa using h2,by simp[bX,hk,h3],fun u=>by simp[cS,hk,h4],by simp[gx,hk,h5]⟩
theorem TY(l:List (κ×α))(a b:κ)(u:α):bX (cS l a u) b=if a=b then some u else bX l b:=by
 induction l with
 | nil=>simp[cS,bX]
 | cons x r ih=>
  obtain⟨k,v⟩:=x
  simp only[cS]
  by_cases hk:k=a
  ·subst hk
   by_cases hb:k=b
   ·simp[bX,hb]
   ·simp[bX,hb]
  ·rw[if_neg hk]
   simp only[bX]
   rw[ih]
   by_cases hb:k=b
   ·subst hb;simp[Ne.symm hk]
   ·simp[hb]
theorem TX(l:List (κ×α))(a:κ):bX l a=none↔∀x∈l,x.1≠a:=by
 induction l with
 | nil=>simp[bX]
 | cons x r ih=>
  obtain⟨k,v⟩:=x
  simp only[bX]
  by_cases hk:k=a
  ·simp[hk]
  ·simp[hk,ih]
theorem ue{l:List (κ×α)}{a:κ}{v:α}(h:bX l a=some v):(a,v)∈l:=by
 induction l with
 | nil=>cases h
 | cons x r ih=>
  obtain⟨k,u⟩:=x
  simp only[bX] at h
  by_cases hk:k=a
  ·rw[if_pos hk] at h;cases h;simp[hk]
  ·rw[if_neg hk] at h;simp[ih h]
theorem Lh{l:List (κ×α)}{a:κ}{v:α}(hn:(l.map Prod.fst).Nodup)(h:(a,v)∈l):bX l a=some v:=by
 induction l with
 | nil=>cases h
 | cons x r ih=>
  obtain⟨k,u⟩:=x
  simp only[kV,List.nodup_cons] at hn
  simp only[bX]
  rcases iD.1 h with h | h
  ·cases h;simp
  ·have:k≠a:=fun e=>hn.1 (e▸cy.2 ⟨(a,v),h,rfl⟩)
   rw[if_neg this];exact ih hn.2 h
theorem TZ(l:List (κ×α))(a:κ)(u:α):(cS l a u).map Prod.fst=if a∈l.map Prod.fst then l.map Prod.fst else l.map Prod.fst ++ [a]:=by
 induction l with
 | nil=>simp[cS]
 | cons x r ih=>
  obtain⟨k,v⟩:=x
  simp only[cS]
  by_cases hk:k=a
  ·simp[hk]
  ·rw[if_neg hk,kV,ih]
   by_cases hm:a∈r.map Prod.fst
   ·rw[if_pos hm,if_pos (by simp[hm])];rfl
   ·rw[if_neg hm,if_neg (by simp only[kV,iD,not_or];exact⟨Ne.symm hk,hm⟩)];rfl
theorem T0{l:List (κ×α)}(h:(l.map Prod.fst).Nodup)(a:κ)(u:α):((cS l a u).map Prod.fst).Nodup:=by
 rw[TZ]
 split
 ·exact h
 ·rename_i hm
  exact nN.2 ⟨h,by simp,fun x hx y hy e=>by simp at hy;subst hy;subst e;exact hm hx⟩
theorem Lf(l:List (κ×α))(a:κ):(gx l a).Sublist l:=by
 induction l with
 | nil=>exact List.Sublist.refl _
 | cons x r ih=>
  obtain⟨k,v⟩:=x
  simp only[gx]
  split
  ·exact List.sublist_cons_self _ _
  ·exact ih.cons_cons _
theorem TW{l:List (κ×α)}(h:(l.map Prod.fst).Nodup)(a:κ):((gx l a).map Prod.fst).Nodup:=((Lf l a).map _).nodup h
end
structure ky(P:Program)(kt:TypeId){κ:Type}[DecidableEq κ](c:κ→Value):Prop where
 inj:∀a b,c a=c b→a=b
 check:∀(e:Bool) (a:κ) (w:World),(Instr.checkKey e 10000 kt (c a)).run P w=.ok () w
 find:∀{α:Type} (d:α→Value) (a:κ) (xs:List (κ×α)) (es:List MapEntry),es.map (fun e=>(e.key,e.val))=xs.map (fun x=>(c x.1,d x.2))→∀w:World,
  (Instr.findKey kt (c a) es).run P w=.ok ((lI xs a 0).map fun p=>(p.1,d p.2)) w
 bits:∀a,Instr.sameBits 10000 (c a) (c a)=true
def kU(s:ByteArray):Value:=.string s
theorem Km{α:Type}(d:α→Value)(a:ByteArray):∀(xs:List (ByteArray×α)) (es:List MapEntry) (i:Nat),es.map (fun e=>(e.key,e.val))=xs.map (fun x=>(kU x.1,d x.2)) →
  Instr.findNow .string (kU a) es i=some ((lI xs a i).map fun p=>(p.1,d p.2))
 | [],[],_,_=>rfl
 | [],_::_,_,h=>by cases h
 | _::_,[],_,h=>by cases h
 | (k,v)::xs,e::es,i,h=>by
  simp only[kV,List.cons.injEq,Prod.mk.injEq] at h
  obtain⟨⟨h1,h2⟩,h3⟩:=h
  unfold Instr.findNow
  rw[h1]
  simp only[kU,Instr.sameNow,lI]
  by_cases hk:k=a
  ·subst hk
   rw[(bytes_beq k k).2 rfl,if_pos rfl,h2];rfl
  ·have:(a == k)=false:=by
    cases hb:a == k
    ·rfl
    ·exact absurd ((bytes_beq a k).1 hb).symm hk
   rw[this,if_neg hk]
   exact Km d a xs es (i+1) h3
theorem ky.string{P:Program}{kt:TypeId}(h:P.underlying kt=some .string):ky P kt kU where
 inj:=fun a b h=>by simpa[kU] using h
 check:=fun e a w=>by
  show(Instr.checkKey e (9999+1) kt (kU a)).run P w=_
  exact run_checkKey h (by trivial) e 9999
 find:=fun d a xs es hes w=>run_findKey h (Km d a xs es 0 hes)
 bits:=fun a=>by simp[kU,Instr.sameBits,bytes_beq]
theorem Kl{P:Program}{kt:TypeId}{κ α:Type}[DecidableEq κ]{c:κ→Value}(heq:∀(a b:κ) (w:World),(Op.equal kt (c a) (c b)).run P w=.ok (decide (a=b)) w)(d:α→Value)(a:κ):
  ∀(xs:List (κ×α)) (es:List MapEntry) (i:Nat),es.map (fun e=>(e.key,e.val))=xs.map (fun x=>(c x.1,d x.2))→∀w:World,(Instr.findAsking kt (c a) es i).run P w=.ok ((lI xs a i).map fun p=>(p.1,d p.2)) w
 | [],[],_,_,_=>rfl
 | [],_::_,_,h,_=>by cases h
 | _::_,[],_,h,_=>by cases h
 | (k,v)::xs,e::es,i,h,w=>by
  simp only[kV,List.cons.injEq,Prod.mk.injEq] at h
  obtain⟨⟨h1,h2⟩,h3⟩:=h
  unfold Instr.findAsking
  rw[Sem.run_bind,h1,heq a k w,Result.andThen_ok]
  simp only[lI]
  by_cases hk:k=a
  ·subst hk
   simp only[decide_true,if_true,h2];rfl
  ·rw[if_neg hk,DF (Ne.symm hk)]
   simp only[Bool.false_eq_true,if_false]
   exact Kl heq d a xs es (i+1) h3 w
def pq{κ α:Type}(c:κ→Value)(d:α→Value)(b:Nat)(xs:List (κ×α))(w:World):Prop:=
 ∃(es:Array MapEntry) (clock:Nat),w.heap[b]?=some (.map es clock)∧es.toList.map (fun e=>(e.key,e.val))=xs.map (fun x=>(c x.1,d x.2))∧Stamped es clock
theorem pq.loc{κ α:Type}{c:κ→Value}{d:α→Value}{b:Nat}{xs:List (κ×α)}{w w':World}(h:pq c d b xs w)(hb:w'.heap[b]?=w.heap[b]?):pq c d b xs w':=by
 obtain⟨es,k,h1,h2⟩:=h
 exact⟨es,k,hb.trans h1,h2⟩
def fG{κ α:Type}(c:κ→Value)(d:α→Value)(b:Nat)(xs:List (κ×α)):HP:=
 ⟨fun ids w=>ids=[b]∧pq c d b xs w,fun _ _ _ h hs=>⟨hs.1,hs.2.loc (h b yd)⟩⟩
structure qk{κ α:Type}(Fr:Nat→Prop)(w:World)(c:κ→Value)(d:α→Value)(b:Nat)(xs:List (κ×α)):Prop where
 fr:Fr b
 at_:pq c d b xs w
section
variable {X:Cx} {κ α:Type} {c:κ→Value} {d:α→Value} {b:Nat} {xs:List (κ×α)}
theorem St.BQ{L:List HP}{w:World}(h:St X L w){i:Nat}(hL:L[i]?=some (fG c d b xs)):pq c d b xs w∧¬X.Fr b:=by
 obtain⟨F,hs,_,hb⟩:=h.sat
 obtain⟨ids,h1,h2⟩:=hs.get hL
 obtain⟨rfl,h1⟩:=h1
 exact⟨h1,(hb b (h2 b yi)).1⟩
theorem a_.w9{Fr:Nat→Prop}{L:List HP}{w:World}(h:a_ Fr L w)(i:Nat)(hL:L[i]?=some (fG c d b xs)):qk Fr w c d b xs:=by
 obtain⟨F,hs,hf⟩:=h
 obtain⟨ids,⟨rfl,h1⟩,h2⟩:=hs.get hL
 exact⟨hf b (h2 b yi),h1⟩
theorem qk.of(h:qk X.Fr X.w0 c d b xs){Fr':Nat→Prop}(hF:∀b,X.Fr b→Fr' b){w:World}{L:List HP}(hw:St X L w):qk Fr' w c d b xs:=⟨hF b h.fr,h.at_.loc (hw.cP.block b h.fr)⟩
def di(X:Cx)(L:List HP)(c:κ→Value)(d:α→Value)(b:Nat)(xs:List (κ×α)):Prop:=∀w,St X L w→pq c d b xs w
theorem di.one{L:List HP}(i:Nat)(hL:L[i]?=some (fG c d b xs)):di X L c d b xs:=fun w hw=>(hw.BQ hL).1
theorem di.aA{L:List HP}(h:qk X.Fr X.w0 c d b xs):di X L c d b xs:=fun w hw=>h.at_.loc (hw.cP.block b h.fr)
theorem ei.qL:∀{L:List HP} {F:List Nat} {w w':World} {i b:Nat} {H H':HP},ei L F w→F.Nodup→L[i]?=some H→(∀ids w,H.sat ids w→ids=[b])→H'.sat [b] w' →
  (∀c,c≠b→w'.heap[c]?=w.heap[c]?)→ei (L.set i H') F w'
 | [],_,_,_,_,_,_,_,_,_,h,_,_,_=>by simp at h
 | _::L,F,w,w',0,b,H,H',⟨j,G,hF,hj,hG⟩,hn,h,hi,h1,h2=>by
  simp only[uP,Option.some.injEq] at h
  subst h;subst hF
  obtain rfl:=hi _ _ hj
  refine⟨[b],G,Z,h1,hG.loc fun c hc=>h2 c fun he=>?_⟩
  subst he
  simp at hn
  exact hn.1 hc
 | K::L,F,w,w',i+1,b,H,H',⟨j,G,hF,hj,hG⟩,hn,h,hi,h1,h2=>by
  simp only[sr] at h
  subst hF
  obtain⟨hnj,hnG,hd⟩:=nN.1 hn
  obtain⟨ids,hp,hm⟩:=hG.get h
  obtain rfl:=hi _ _ hp
  have hb:=hm b yi
  exact⟨j,G,Z,K.loc j w w' (fun c hc=>h2 c fun he=>hd c hc b hb he) hj,ei.qL hG hnG h hi h1 h2⟩
theorem St.qL{L:List HP}{w:World}(h:St X L w){i:Nat}{H H':HP}{o o':Obj}(hL:L[i]?=some H)(hi:∀ids w,H.sat ids w→ids=[b])(h0:w.heap[b]?=some o)(hf:¬X.Fr b)(h1:H'.sat [b] (dZ w b o')):
  St X (L.set i H') (dZ w b o'):=by
 obtain⟨F,hs,hn,hb⟩:=h.sat
 refine⟨⟨F,hs.qL hn hL hi h1 (fun c hc=>FQ (Ne.symm hc)),hn,fun c hc=>⟨(hb c hc).1,by rw[Hk];exact(hb c hc).2⟩⟩,?_,h.low⟩
 exact N3
theorem St.Qj{L:List HP}{w:World}(h:St X L w):St X (fG c d w.heap.size ([]:List (κ×α))::L) (w.alloc (.map #[] 0)):=
 ⟨h.sat.alloc h.rJ _ _ ⟨rfl,#[],0,heap_alloc_new w _,rfl,stamped_empty 0⟩,h.cP.trans (eL.alloc h.rJ _),h.low⟩
end
section
variable {X:Cx} {κ α:Type} [DecidableEq κ] {c:κ→Value} {d:α→Value} {b:Nat} {xs:List (κ×α)} {e:Env} {L:List HP} {T kt et:TypeId} {te:TI} {x y z:Operand}
theorem Fs{es:List MapEntry}{c:κ→Value}{d:α→Value}{xs:List (κ×α)}(h:es.map (fun e=>(e.key,e.val))=xs.map (fun x=>(c x.1,d x.2))){j:Nat}{a:κ}{v:α}(hx:xs[j]?=some (a,v)):∃m,es[j]?=some m∧m.key=c a∧m.val=d v:=by
 have:=congrArg (fun l=>l[j]?) h
 simp only[dH,hx,ng] at this
 cases hm:es[j]? with
 | none=>rw[hm] at this;cases this
 | some m=>
  rw[hm] at this
  simp only[ng,Option.some.injEq,Prod.mk.injEq] at this
  exact⟨m,Z,this.1,this.2⟩
theorem MN{P:Program}(K:ky P kt c)(hT:P.underlying T=some (.map kt et))(hE:aN P et te)(a:κ)(ok:Bool){w:World}(hM:pq c d b xs w):
  (Instr.lookup T (.map (some b)) (c a) ok).run P w=.ok (bif ok then .tuple #[((bX xs a).map d).getD te.zero,.bool (bX xs a).isSome] else ((bX xs a).map d).getD te.zero) w:=by
 obtain⟨es,clock,h1,h2,h3⟩:=hM
 have hf:=K.find d a xs es.toList h2 w
 cases hl:lI xs a 0 with
 | none=>
  obtain⟨hg,_⟩:=vm hl
  rw[hl] at hf
  cases ok<;>simp[Instr.lookup,run_underlying hT,MapKept.run_getObj_map h1,K.check,hf,hg,vH hE,Result.andThen]
 | some p=>
  obtain⟨j,v⟩:=p
  obtain⟨_,_,hg,_⟩:=w7 hl
  rw[hl] at hf
  cases ok<;>simp[Instr.lookup,run_underlying hT,MapKept.run_getObj_map h1,K.check,hf,hg,Result.andThen]
theorem aK.lookup(K:ky X.P kt c)(hT:X.P.underlying T=some (.map kt et))(hE:bR X.tab et=some te){a:κ}{ok:Bool}(hx:ev e x=some (.map (some b)))(hk:ev e y=some (c a))(hM:di X L c d b xs):
  aK X (.lookup T x y ok) e L (fun u L'=>u=(bif ok then .tuple #[((bX xs a).map d).getD te.zero,.bool (bX xs a).isSome] else ((bX xs a).map d).getD te.zero)∧L'=L):=fun ac w ha hw dst ty pos after guard=>by
 refine .inl ⟨_,w,L,?_,⟨rfl,Z⟩,hw⟩
 simp only[execOp,ha.ev hx,ha.ev hk]
 rw[Sem.run_bind,MN K hT (X.ok.look hE) a ok (hM w hw)];rfl
theorem Lj{P:Program}(K:ky P kt c)(a:κ)(u:α){es:Array MapEntry}{clock:Nat}(h2:es.toList.map (fun e=>(e.key,e.val))=xs.map (fun x=>(c x.1,d x.2)))(h3:Stamped es clock):
  (∀{j v},lI xs a 0=some (j,v)→∃m,es[j]?=some m∧m.key=c a∧(es.modify j fun e=>{ e with key:=c a,val:=d u }).toList.map (fun e=>(e.key,e.val))=(cS xs a u).map (fun x=>(c x.1,d x.2))∧Stamped (es.modify j fun e=>{ e with key:=c a,val:=d u }) clock) ∧
  (lI xs a 0=none→(es.push { key:=c a,val:=d u,born:=clock }).toList.map (fun e=>(e.key,e.val))=(cS xs a u).map (fun x=>(c x.1,d x.2))∧Stamped (es.push { key:=c a,val:=d u,born:=clock }) (clock+1)):=by
 constructor
 ·intro j v hl
  obtain⟨_,hj,_,hp,_⟩:=w7 hl
  rw[Nat.sub_zero] at hj hp
  obtain⟨m,hm,hmk,hmv⟩:=Fs h2 hj
  have hm':es[j]?=some m:=by simpa using hm
  refine⟨m,hm',hmk,?_,stamped_modify h3 j _ (fun _ _=>rfl) (fun e _ he=>?_)⟩
  ·rw[hp]
   apply qe
   intro k
   have hk:=congrArg (fun l=>l[k]?) h2
   simp only[dH] at hk ⊢
   by_cases hjk:j=k
   ·subst hjk
    have hlt:j<xs.length:=(bP.1 hj).1
    have hlt2:j<es.size:=(sn.1 hm').1
    simp[hlt,hlt2,Bp,Array.getElem_modify]
   ·rw[lU hjk,←hk]
    simp only[Bp,v_,if_neg hjk]
  ·rw[hm'] at he;cases he;exact hmk.symm
 ·intro hl
  obtain⟨_,hne,hp,_⟩:=vm hl
  refine⟨by rw[hp];simp[h2],stamped_push h3 fun m hm=>?_⟩
  intro he
  have:(m.key,m.val)∈es.toList.map (fun e=>(e.key,e.val)):=cy.2 ⟨m,hm,rfl⟩
  rw[h2] at this
  obtain⟨x,hx,hx2⟩:=cy.1 this
  have:c x.1=m.key:=congrArg Prod.fst hx2
  exact hne x hx (K.inj _ _ (this.trans he))
theorem MK{P:Program}(K:ky P kt c)(a:κ)(w:World):(Instr.keyThatStays (c a) (c a)).run P w=.ok (c a) w:=by
 simp[Instr.keyThatStays,K.bits]
theorem aK.mapUpdate(i:Nat)(K:ky X.P kt c)(hT:X.P.underlying T=some (.map kt et)){a:κ}{u:α}(hx:ev e x=some (.map (some b)))(hk:ev e y=some (c a))(hv:ev e z=some (d u))(hL:L[i]?=some (fG c d b xs)):
  aK X (.mapUpdate T x y z) e L (fun v L'=>v=undef∧L'=L.set i (fG c d b (cS xs a u))):=fun ac w ha hw dst ty pos after guard=>by
 obtain⟨⟨es,clock,h1,h2,h3⟩,hf⟩:=hw.BQ hL
 have hfi:=K.find d a xs es.toList h2 w
 obtain⟨p1,p2⟩:=Lj K a u h2 h3
 have hids:∀ids w,(fG c d b xs).sat ids w→ids=[b]:=fun _ _ h=>h.1
 cases hl:lI xs a 0 with
 | none=>
  obtain⟨q1,q2⟩:=p2 hl
  rw[hl] at hfi
  refine .inr (.inl ⟨dZ w b (.map (es.push { key:=c a,val:=d u,born:=clock }) (clock+1)),_,?_,⟨rfl,Z⟩,hw.qL hL hids h1 hf ⟨rfl,_,_,rD h1,q1,q2⟩⟩)
  have:(Instr.mapUpdate T (.map (some b)) (c a) (d u)).run X.P w=.ok () (dZ w b (.map (es.push { key:=c a,val:=d u,born:=clock }) (clock+1))):=by
   simp[Instr.mapUpdate,run_underlying hT,MapKept.run_getObj_map h1,K.check,hfi,MapKept.run_setObj_map _ h1,Result.andThen,dZ]
  simp only[execOp,ha.ev hx,ha.ev hk,ha.ev hv]
  rw[Sem.run_bind,this];rfl
 | some p=>
  obtain⟨j,v⟩:=p
  obtain⟨m,hm,hmk,q1,q2⟩:=p1 hl
  rw[hl] at hfi
  refine .inr (.inl ⟨dZ w b (.map (es.modify j fun e=>{ e with key:=c a,val:=d u }) clock),_,?_,⟨rfl,Z⟩,hw.qL hL hids h1 hf ⟨rfl,_,_,rD h1,q1,q2⟩⟩)
  have:(Instr.mapUpdate T (.map (some b)) (c a) (d u)).run X.P w=.ok () (dZ w b (.map (es.modify j fun e=>{ e with key:=c a,val:=d u }) clock)):=by
   simp[Instr.mapUpdate,run_underlying hT,MapKept.run_getObj_map h1,K.check,hfi,hm,hmk,MK K,MapKept.run_setObj_map _ h1,Result.andThen,dZ]
  simp only[execOp,ha.ev hx,ha.ev hk,ha.ev hv]
  rw[Sem.run_bind,this];rfl
theorem map_eraseIdx{β γ:Type}(f:β→γ):∀(l:List β) (i:Nat),(l.eraseIdx i).map f=(l.map f).eraseIdx i
 | [],_=>rfl
 | _::_,0=>rfl
 | x::l,i+1=>by simp[map_eraseIdx f l i]
theorem T5{j:Nat}{v:α}{a:κ}{es:Array MapEntry}(h2:es.toList.map (fun e=>(e.key,e.val))=xs.map (fun x=>(c x.1,d x.2)))(hl:lI xs a 0=some (j,v)):
  (es.eraseIdxIfInBounds j).toList.map (fun e=>(e.key,e.val))=(gx xs a).map (fun x=>(c x.1,d x.2)):=by
 obtain⟨_,hj,_,_,hp⟩:=w7 hl
 rw[Nat.sub_zero] at hj hp
 obtain⟨m,hm,_⟩:=Fs h2 hj
 have hlt:j<es.size:=by have:=(bP.1 hm).1;simpa using this
 rw[hp]
 unfold Array.eraseIdxIfInBounds
 rw[dif_pos hlt,Array.toList_eraseIdx,map_eraseIdx,map_eraseIdx,h2]
theorem aK.delete(i:Nat)(K:ky X.P kt c)(hT:X.P.underlying T=some (.map kt et)){t2:TypeId}{a:κ}(hx:ev e x=some (.map (some b)))(hk:ev e y=some (c a))(hL:L[i]?=some (fG c d b xs)):
  aK X (.call ⟨.builtin .delete,#[x,y],#[T,t2]⟩) e L (fun v L'=>v=.tuple #[]∧L'=L.set i (fG c d b (gx xs a))):=fun ac w ha hw dst ty pos after guard=>by
 obtain⟨⟨es,clock,h1,h2,h3⟩,hf⟩:=hw.BQ hL
 have hfi:=K.find d a xs es.toList h2 w
 have hids:∀ids w,(fG c d b xs).sat ids w→ids=[b]:=fun _ _ h=>h.1
 cases hl:lI xs a 0 with
 | none=>
  obtain⟨_,_,_,hd⟩:=vm hl
  rw[hl] at hfi
  refine .inl ⟨_,dZ w b (.map es clock),_,?_,⟨rfl,Z⟩,hw.qL hL hids h1 hf ⟨rfl,_,_,rD h1,by rw[hd];exact h2,h3⟩⟩
  have:(Builtin.delete_ #[T,t2] ty #[.map (some b),c a]).run X.P w=.ok (.tuple #[]) (dZ w b (.map es clock)):=by
   simp[Builtin.delete_,run_underlying hT,MapKept.run_getObj_map h1,K.check,hfi,MapKept.run_setObj_map _ h1,Result.andThen,dZ]
  simp[execOp,resolve,invoke,builtin,ha.ev hx,ha.ev hk,this]
 | some p=>
  obtain⟨j,v⟩:=p
  rw[hl] at hfi
  refine .inl ⟨_,dZ w b (.map (es.eraseIdxIfInBounds j) clock),_,?_,⟨rfl,Z⟩,hw.qL hL hids h1 hf ⟨rfl,_,_,rD h1,T5 h2 hl,stamped_erase h3 j⟩⟩
  have:(Builtin.delete_ #[T,t2] ty #[.map (some b),c a]).run X.P w=.ok (.tuple #[]) (dZ w b (.map (es.eraseIdxIfInBounds j) clock)):=by
   simp[Builtin.delete_,run_underlying hT,MapKept.run_getObj_map h1,K.check,hfi,MapKept.run_setObj_map _ h1,Result.andThen,dZ]
  simp[execOp,resolve,invoke,builtin,ha.ev hx,ha.ev hk,this]
theorem aK.makeMap(c:κ→Value)(d:α→Value){T:TypeId}:aK X (.makeMap T none) e L (fun v L'=>∃b,v=.map (some b)∧L'=fG c d b ([]:List (κ×α))::L):=fun ac w ha hw dst ty pos after guard=>by
 refine .inl ⟨_,w.alloc (.map #[] 0),_,?_,⟨w.heap.size,Z,Z⟩,hw.Qj⟩
 simp[execOp,Instr.makeMap,newObj,Sem.run]
end
section
variable {X:Cx} {ops:Array Oper} {G:GS} {l:List Oper} {e:Env} {L:List HP} {K:Env→List HP→Prop}
  {dst:Option Tmp} {ty:TypeId} {pos:String} {after:Array Edge} {guard:Option (Nat×Bool)}
theorem VO.sV{op:Op}{v:Value}{L':List HP}(h:aK X op e L (fun u M=>u=v∧M=L'))(hk:VO X ops G l (bW dst v e) L' K)
  (hg:cB ops G guard=some true:=by rfl) (hd:cI X.n dst=true:=by rfl) (hf:cz G dst=true:=by rfl):VO X ops G (⟨dst,op,ty,pos,after,guard⟩::l) e L K:=
 VO.op hg hd hf h (fun _ _ ⟨h1,h2⟩=>by subst h1;subst h2;exact hk)
theorem VO.vv{op:Op}{M:Value→List HP→Prop}(h:aK X op e L M)(hk:∀v L',M v L'→VO X ops G l (bW dst v e) L' K)
  (hg:cB ops G guard=some true:=by rfl) (hd:cI X.n dst=true:=by rfl) (hf:cz G dst=true:=by rfl):VO X ops G (⟨dst,op,ty,pos,after,guard⟩::l) e L K:=
 VO.op hg hd hf h hk
end
theorem WI{P:Program}{ty k el:Nat}(hund:P.underlying ty=some (.map k el))(a:Option Nat)(w:World):(Op.equal ty (.map a) (.map none)).run P w=.ok a.isNone w:=by
 unfold Op.equal
 show(Op.equalIn (9999+1) ty (.map a) (.map none)).run P w=_
 rw[Op.equalIn,Sem.run_bind,run_underlying hund]
 cases a<;>rfl
theorem KZ{X:Cx}{e:Env}{T k el yt:TypeId}{x y:Operand}{a:Option Nat}(hund:X.P.underlying T=some (.map k el))(hx:ev e x=some (.map a))(hy:ev e y=some (.map none)):fo X (.binOp .eql T x y yt) e (.bool a.isNone):=by
 intro a' ha dst t pos after guard w
 simp only[execOp,ha.ev hx,ha.ev hy]
 have h:(do eqGuard .eql T x y (.map a) (.map none);binOp .eql T (.map a) (.map none):Sem Value).run X.P w=.ok (.bool a.isNone) w:=by
  show((do pure (.bool (←Op.equal T (.map a) (.map none))):Sem Value)).run X.P w=_
  rw[Sem.run_bind,WI hund];rfl
 rw[Sem.run_bind,h];rfl
theorem KW{X:Cx}{e:Env}{T yt:TypeId}{x y:Operand}{xs ys:Array Value}{r:Bool}(hm:X.P.eqGuardType X.P.depth T=false)(hx:ev e x=some (.agg xs))(hy:ev e y=some (.agg ys))
  (h:∀w:World,(Op.equal T (.agg xs) (.agg ys)).run X.P w=.ok r w):fo X (.binOp .eql T x y yt) e (.bool r):=by
 intro a' ha dst t pos after guard w
 simp only[execOp,ha.ev hx,ha.ev hy]
 have h2:(do eqGuard .eql T x y (.agg xs) (.agg ys);binOp .eql T (.agg xs) (.agg ys):Sem Value).run X.P w=.ok (.bool r) w:=by
  rw[Sem.run_bind,run_eqGuard_agg w .eql T x y xs ys hm,Result.andThen_ok]
  show((do pure (.bool (←Op.equal T (.agg xs) (.agg ys))):Sem Value)).run X.P w=_
  rw[Sem.run_bind,h];rfl
 rw[Sem.run_bind,h2];rfl
theorem TK{X:Cx}{e:Env}{T yt:TypeId}{x y:Operand}{xs ys:Array Value}{r:Bool}(hm:X.P.eqGuardType X.P.depth T=false)(hx:ev e x=some (.agg xs))(hy:ev e y=some (.agg ys))
  (h:∀w:World,(Op.equal T (.agg xs) (.agg ys)).run X.P w=.ok r w):fo X (.binOp .neq T x y yt) e (.bool (!r)):=by
 intro a' ha dst t pos after guard w
 simp only[execOp,ha.ev hx,ha.ev hy]
 have h2:(do eqGuard .neq T x y (.agg xs) (.agg ys);binOp .neq T (.agg xs) (.agg ys):Sem Value).run X.P w=.ok (.bool (!r)) w:=by
  rw[Sem.run_bind,run_eqGuard_agg w .neq T x y xs ys hm,Result.andThen_ok]
  show((do pure (.bool (!(←Op.equal T (.agg xs) (.agg ys)))):Sem Value)).run X.P w=_
  rw[Sem.run_bind,h];rfl
 rw[Sem.run_bind,h2];rfl
section
variable {X:Cx} {κ α:Type} [DecidableEq κ] {c:κ→Value} {d:α→Value} {b:Nat} {xs:List (κ×α)} {ops:Array Oper} {G:GS} {pl:iE} {S:kA} {e:Env} {L:List HP} {K:Env→List HP→Prop}
  {dst:Option Tmp} {ty:TypeId} {pos:String} {after:Array Edge} {guard:Option (Nat×Bool)}
theorem VA.lookup{i:Nat}{T kt et:TypeId}{te:TI}{x y:Operand}{a:κ}{ok:Bool}(KO:ky X.P kt c)(hT:X.P.underlying T=some (.map kt et))(hE:bR X.tab et=some te)
  (hi:ops.toList[i]?=some ⟨dst,.lookup T x y ok,ty,pos,after,guard⟩) (hx:ev e x=some (.map (some b))) (hk:ev e y=some (c a)) (hM:di X L c d b xs)
  (hn:VA X ops G pl ((i,pq c d b xs)::S) (bW dst (bif ok then .tuple #[((bX xs a).map d).getD te.zero,.bool (bX xs a).isSome] else ((bX xs a).map d).getD te.zero) e) L K)
  (hg:cB ops G guard=some true:=by rfl) (hd:cI X.n dst=true:=by rfl) (hf:cz G dst=true:=by rfl):VA X ops G (.take i pl) S e L K:=
 VA.first (Si:=pq c d b xs) hi hd hf (fun ac ha hG=>.inl ⟨rB hG hg,fun w hw=>by
  simp only[execOp,ha.ev hx,ha.ev hk]
  rw[Sem.run_bind,MN KO hT (X.ok.look hE) a ok hw];rfl⟩) hM hn
theorem Pd.lx{f:Nat×(World→Prop)→Bool}{i:Nat}(h:di X L c d b xs)(hs:Pd X L (S.filter f)):Pd X L (((i,pq c d b xs)::S).filter f):=fun p hp=>by
 obtain⟨h1,h2⟩:=iS.1 hp
 rcases iD.1 h1 with rfl | h1
 ·exact fun w hw=>h w hw
 ·exact hs p (iS.2 ⟨h1,h2⟩)
end
end Vg
namespace Vg
open Go
structure aT{α:Type}(c:α→List Value)(n:Nat)(Fr:Nat→Prop)(w:World)(a:Option Addr)(l:List α):Prop where
 at_:l≠[]→∃b off,a=some ⟨b,off,none⟩∧Fr b∧∀i x,l[i]?=some x→w.rangeAt b (off+i*n) (c x)
section
variable {α:Type} {c:α→List Value} {n:Nat}
theorem aT.cP{Fr Fr':Nat→Prop}{w w':World}{a:Option Addr}{l:List α}(h:aT c n Fr w a l)(hF:∀b,Fr b→Fr' b)(hk:eL Fr w w'):aT c n Fr' w' a l:=⟨fun hne=>by
 obtain⟨b,off,h1,h2,h3⟩:=h.at_ hne
 refine⟨b,off,h1,hF b h2,fun i x hx j v hv=>?_⟩
 have:=h3 i x hx j v hv
 unfold World.cell? at this ⊢
 rw[hk.block b h2];exact this⟩
theorem aT.of{X:Cx}{a:Option Addr}{l:List α}(h:aT c n X.Fr X.w0 a l){Fr':Nat→Prop}(hF:∀b,X.Fr b→Fr' b){w:World}{L:List HP}(hw:St X L w):aT c n Fr' w a l:=h.cP hF hw.cP
theorem aT.nil{Fr:Nat→Prop}{w:World}{a:Option Addr}:aT c n Fr w a []:=⟨fun h=>absurd rfl h⟩
theorem aT.rd{X:Cx}{a:Option Addr}{l:List α}(h:aT c n X.Fr X.w0 a l){i:Nat}{x:α}(hx:l[i]?=some x):∃b off,a=some ⟨b,off,none⟩ ∧
  (∀(L:List HP) (ti:TI),(c x).length=ti.size→ti.aE.agg=true→aw X L ti b (off+i*n) (.agg (c x).toArray)) ∧
  ∀(L:List HP) (ti:TI) (j:Nat) (v:Value),ti.aE.agg=false→(c x)[j]?=some v→aw X L ti b (off+i*n+j) v:=by
 obtain⟨b,off,h1,h2,h3⟩:=h.at_ (fun e=>by rw[e] at hx;cases hx)
 refine⟨b,off,h1,fun L ti hl ha=>aw.rd h2 ?_,fun L ti j v ha hv=>aw.rd h2 ?_⟩
 ·rw[ha];exact⟨c x,rfl,hl,h3 i x hx⟩
 ·rw[ha];exact h3 i x hx j v hv
theorem aT.aA{Fr:Nat→Prop}{w:World}{b off:Nat}{cs:List Value}{l:List α}(h:bq Fr w b cs)(hc:∀i x,l[i]?=some x→(cs.drop (off+i*n)).take n=c x):aT c n Fr w (some ⟨b,off,none⟩) l:=⟨fun hne=>by
 obtain⟨t',fz,ht⟩:=h.at_
 exact⟨b,off,Z,h.fr,fun i x hx=>G0 ht (hc i x hx)⟩⟩
theorem Mp{w:World}(hc:∀x,(c x).length=n):∀{l:List α} {b off:Nat},(∀i x,l[i]?=some x→w.rangeAt b (off+i*n) (c x))→w.rangeAt b off (flat c l)
 | [],b,off,_=>fun j v hv=>by simp[flat] at hv
 | x::l,b,off,h=>fun j v hv=>by
  rw[lz,EK] at hv
  have h0:=h 0 x rfl
  rw[Nat.zero_mul,wm] at h0
  split at hv
  ·exact h0 j v hv
  ·rename_i hj
   rw[hc x] at hj hv
   have ih:=Mp hc (l:=l) (b:=b) (off:=off+n) (fun i y hy=>by
    have:=h (i+1) y (by simpa using hy)
    rw[zb] at this
    rw[show off+n+i*n=off+(i*n+n) from by omega];exact this)
   have:=ih (j-n) v hv
   rw[show off+n+(j-n)=off+j from by omega] at this
   exact this
theorem aT.row{X:Cx}{L:List HP}{a:Option Addr}{cap:Nat}{l:List α}(hc:∀x,(c x).length=n)(h:aT c n X.Fr X.w0 a l):dm X L (.slice a l.length cap) n l.length (flat c l):=by
 refine⟨eu hc l,?_⟩
 by_cases hl:l=[]
 ·exact .inl ⟨a,cap,Z,by simp[hl]⟩
 ·obtain⟨b,off,h1,h2,h3⟩:=h.at_ hl
  refine .inr ⟨b,off,cap,by rw[h1],fun w hw=>?_⟩
  have:=(aT.of (X:=X) (Fr':=X.Fr) h (fun _ h=>h) hw)
  obtain⟨b',off',e1,_,e3⟩:=this.at_ hl
  rw[h1] at e1
  cases e1
  exact Mp hc e3
end
section
variable {X:Cx} {e:Env} {xt yt:TypeId} {x y:Operand} {a b:Nat}
end
end Vg
namespace Vg
open Go
def f_(f:FuncId)(first capt:List Value):Value:=.func (.func f) first.toArray capt.toArray
theorem zY{X:Cx}{e:Env}{f:FuncId}{first capt:Array Operand}{u v:List Value}(hu:ft e first.toList=some u)(hv:ft e capt.toList=some v):fo X (.makeFunc (.func f) first capt) e (f_ f u v):=by
 intro a ha dst ty pos after guard w
 have h1:first.map a.eval=u.toArray:=by
  have:=ha.ft hu
  apply oz.1
  simpa using this
 have h2:capt.map a.eval=v.toArray:=by
  have:=ha.ft hv
  apply oz.1
  simpa using this
 simp only[execOp]
 show((do pure (Next.value (←Instr.makeFunc (.func f) (first.map a.eval) (capt.map a.eval))):Sem Next)).run X.P w=_
 rw[h1,h2];rfl
theorem WG{P:Program}{f:FuncId}(h:sw P f)(a:Act)(x:Operand)(first capt:List Value)(hx:a.eval x=f_ f first capt)(args:Array Operand)(tys:Array TypeId)(dst:Option Tmp)(ty:TypeId)(pos:String)(after:Array Edge)(guard:Option (Nat×Bool))(w:World):
  (execOp a.eval ⟨dst,.call ⟨.value x,args,tys⟩,ty,pos,after,guard⟩).run P w=.ok (.enter f (first.toArray++args.map a.eval++capt.toArray)) w:=by
 have:=MH h (first.toArray++args.map a.eval++capt.toArray) w
 simp only[execOp,resolve,hx,f_,Deferred.ofValue,invoke]
 exact this
theorem aK.mG{X:Cx}{f:FuncId}{x:Operand}{first capt:List Value}{args:Array Operand}{tys:Array TypeId}{e:Env}{L Lc Lr:List HP}{vals:List Value}{R:Value→List HP→Prop}
  (hx:ev e x=some (f_ f first capt)) (hargs:ft e args.toList=some vals) (hp:L.Perm (Lc++Lr))
  (ht:∀Fr' w,(∀b,X.Fr b→Fr' b)→St X L w→a_ Fr' Lr w→ax X.P f (first++vals++capt) Fr' w Lc R):
  aK X (.call ⟨.value x,args,tys⟩) e L (fun v L'=>∃L1,R v L1∧L'=L1++Lr):=by
 intro a w ha hw dst ty pos after guard
 obtain⟨F,hs,hnd,hb⟩:=hw.sat.perm hp
 obtain⟨Fc,Fl,rfl,hsc,hsl⟩:=ei.append.1 hs
 have T:=ht (fun b=>X.Fr b∨b∈Fl) w (fun b h=>.inl h) hw ⟨Fl,hsl,fun b h=>.inr h⟩
 have hev:args.map a.eval=vals.toArray:=by
  have:=ha.ft hargs
  apply oz.1
  simpa using this
 refine .inr (.inr ⟨f,(first++vals++capt).toArray,?_,?_⟩)
 ·have:=WG T.BV a x first capt (ha.ev hx) args tys dst ty pos after guard w
  rw[this,hev];simp
 ·obtain⟨hnc,hnl,hdis⟩:=nN.1 hnd
  refine Calls.mono (T.calls (fun b h=>?_) ⟨Fc,hsc,hnc,fun b h=>⟨fun h'=>?_,(hb b yf).2⟩⟩) fun en w' ⟨v,L',h1,h2,h3,h4⟩=>?_
  ·rcases h with h | h
   ·exact hw.rJ b h
   ·exact(hb b yf).2
  ·rcases h' with h' | h'
   ·exact(hb b yf).1 h'
   ·exact hdis b h b h' rfl
  ·refine⟨v,L'++Lr,h1,⟨L',h2,Z⟩,⟨?_,hw.cP.trans (h4.mono fun b h=>.inl h),hw.low⟩⟩
   obtain⟨G,hG,hGn,hGb⟩:=h3
   refine⟨G++Fl,ei.append.2 ⟨G,Fl,Z,hG,hsl.loc fun b h=>h4.block b (.inr h)⟩,?_,?_⟩
   ·exact N2
   ·intro b h
    rcases eP.1 h with h | h
    ·exact⟨fun h'=>(hGb b h).1 (.inl h'),(hGb b h).2⟩
    ·exact⟨(hb b yf).1,wu (hb b yf).2 h4.size⟩
section
variable {X:Cx} {ops:Array Oper} {G:GS} {l:List Oper} {e:Env} {L:List HP} {K:Env→List HP→Prop} {pl:iE} {S:kA}
  {dst:Option Tmp} {ty:TypeId} {pos:String} {after:Array Edge} {guard:Option (Nat×Bool)}
theorem VO.mG{f:FuncId}{x:Operand}{first capt:List Value}{args:Array Operand}{tys:Array TypeId}{vals:List Value}{R:Value→List HP→Prop}{Lc Lr:List HP}(hx:ev e x=some (f_ f first capt))
  (ht:∀Fr' w,(∀b,X.Fr b→Fr' b)→St X L w→a_ Fr' Lr w→ax X.P f (first++vals++capt) Fr' w Lc R) (hargs:ft e args.toList=some vals) (hL:L=Lc++Lr)
  (hk:∀v L1,R v L1→VO X ops G l (bW dst v e) (L1++Lr) K)
  (hg:cB ops G guard=some true:=by rfl) (hd:cI X.n dst=true:=by rfl) (hf:cz G dst=true:=by rfl):
  VO X ops G (⟨dst,.call ⟨.value x,args,tys⟩,ty,pos,after,guard⟩::l) e L K:=
 VO.op hg hd hf (aK.mG hx hargs (hL▸.refl _) ht) fun v L' ⟨L1,h1,h2⟩=>by subst h2;exact hk v L1 h1
theorem aK.Jx{φ:Value→Prop}{f:FuncId}{x:Operand}{first capt:List Value}{args:Array Operand}{tys:Array TypeId}{vals:List Value}(hx:ev e x=some (f_ f first capt))
  (ht:∀Fr' w,(∀b,X.Fr b→Fr' b)→St X L w→a_ Fr' L w→ax X.P f (first++vals++capt) Fr' w [] (fun v L=>φ v∧L=[])) (hargs:ft e args.toList=some vals):
  aK X (.call ⟨.value x,args,tys⟩) e L (fun v L'=>φ v∧L'=L):=fun a w ha hw dst ty pos after guard=>by
 have key:∀v (L':List HP),(∃L1,(φ v∧L1=[])∧L'=L1++L)→φ v∧L'=L:=by
  rintro v L' ⟨L1,⟨h1,h2⟩,h3⟩
  rw[h2] at h3;exact⟨h1,h3⟩
 rcases aK.mG (Lc:=[]) (Lr:=L) hx hargs (.refl _) ht a w ha hw dst ty pos after guard with ⟨v,w',L',h1,h2,h3⟩ | ⟨w',L',h1,h2,h3⟩ | ⟨f',args',h1,h2⟩
 ·exact .inl ⟨v,w',L',h1,key _ _ h2,h3⟩
 ·exact .inr (.inl ⟨w',L',h1,key _ _ h2,h3⟩)
 ·refine .inr (.inr ⟨f',args',h1,Calls.mono h2 ?_⟩)
  rintro en w' ⟨v,L',h3,h4,h5⟩
  exact⟨v,L',h3,key _ _ h4,h5⟩
theorem VO.wG{u:Value}{f:FuncId}{x:Operand}{first capt:List Value}{args:Array Operand}{tys:Array TypeId}{vals:List Value}(hx:ev e x=some (f_ f first capt))
  (ht:∀Fr' w,(∀b,X.Fr b→Fr' b)→St X L w→a_ Fr' L w→ax X.P f (first++vals++capt) Fr' w [] (fun v L=>v=u∧L=[])) (hargs:ft e args.toList=some vals)
  (hk:VO X ops G l (bW dst u e) L K)
  (hg:cB ops G guard=some true:=by rfl) (hd:cI X.n dst=true:=by rfl) (hf:cz G dst=true:=by rfl):
  VO X ops G (⟨dst,.call ⟨.value x,args,tys⟩,ty,pos,after,guard⟩::l) e L K:=
 VO.op hg hd hf (aK.Jx (φ:=fun v=>v=u) hx ht hargs) fun v L' ⟨h1,h2⟩=>by subst h1;subst h2;exact hk
theorem VA.wG{u:Value}{j:Nat}{f:FuncId}{x:Operand}{first capt:List Value}{args:Array Operand}{tys:Array TypeId}{vals:List Value}(hx:ev e x=some (f_ f first capt))
  (ht:∀Fr' w,(∀b,X.Fr b→Fr' b)→St X L w→a_ Fr' L w→ax X.P f (first++vals++capt) Fr' w [] (fun v L=>v=u∧L=[]))
  (hi:ops.toList[j]?=some ⟨dst,.call ⟨.value x,args,tys⟩,ty,pos,after,guard⟩) (hargs:ft e args.toList=some vals) (hst:Pd X L (S.filter fun p=>!waits ops j p.1))
  (hk:VA X ops G pl (S.filter fun p=>!waits ops j p.1) (bW dst u e) L K)
  (hg:cB ops G guard=some true:=by rfl) (hd:cI X.n dst=true:=by rfl) (hf:cz G dst=true:=by rfl):VA X ops G (.only j pl) S e L K:=
 AO (aK.Jx (φ:=fun v=>v=u) hx ht hargs) hi (fun v L' ⟨h1,h2⟩=>by subst h2;exact hst) (fun v L' ⟨h1,h2⟩=>by subst h1;subst h2;exact hk) hg hd hf
theorem aK.mH{f:FuncId}{x:Operand}{first capt:List Value}{args:Array Operand}{tys:Array TypeId}{vals:List Value}{H:HP}{R:Value→List HP→Prop}{ψ:Value→HP→Prop}(i:Nat)(hx:ev e x=some (f_ f first capt))
  (hL:L[i]?=some H) (ht:∀Fr' w,(∀b,X.Fr b→Fr' b)→St X L w→a_ Fr' (L.eraseIdx i) w→ax X.P f (first++vals++capt) Fr' w [H] R) (hargs:ft e args.toList=some vals)
  (hR:∀v L1,R v L1→∃H',L1=[H']∧ψ v H'):
  aK X (.call ⟨.value x,args,tys⟩) e L (fun v L'=>∃H',ψ v H'∧L'=L.set i H'):=by
 intro a w ha hw dst ty pos after guard
 have hi:i<L.length:=(bP.1 hL).1
 have key:∀v w' L',(∃L1,R v L1∧L'=L1++L.eraseIdx i)→St X L' w'→∃L'',(∃H',ψ v H'∧L''=L.set i H')∧St X L'' w':=by
  rintro v w' _ ⟨L1,h1,rfl⟩ hs
  obtain⟨H',rfl,hψ⟩:=hR v L1 h1
  exact⟨_,⟨H',hψ,Z⟩,dd.back i H' hi w' hs⟩
 rcases aK.mG (R:=R) hx hargs (Lc:=[H]) (Lr:=L.eraseIdx i) (oW hL) ht a w ha hw dst ty pos after guard with ⟨v,w',L',h1,h2,h3⟩ | ⟨w',L',h1,h2,h3⟩ | ⟨f,args,h1,h2⟩
 ·obtain⟨L'',h4,h5⟩:=key _ _ _ h2 h3
  exact .inl ⟨v,w',L'',h1,h4,h5⟩
 ·obtain⟨L'',h4,h5⟩:=key _ _ _ h2 h3
  exact .inr (.inl ⟨w',L'',h1,h4,h5⟩)
 ·refine .inr (.inr ⟨f,args,h1,Calls.mono h2 ?_⟩)
  rintro en w' ⟨v,L',h3,h4,h5⟩
  obtain⟨L'',h6,h7⟩:=key _ _ _ h4 h5
  exact⟨v,L'',h3,h6,h7⟩
theorem VO.mH{f:FuncId}{x:Operand}{first capt:List Value}{args:Array Operand}{tys:Array TypeId}{vals:List Value}{H:HP}{R:Value→List HP→Prop}{ψ:Value→HP→Prop}(i:Nat)(hx:ev e x=some (f_ f first capt))
  (hL:L[i]?=some H) (ht:∀Fr' w,(∀b,X.Fr b→Fr' b)→St X L w→a_ Fr' (L.eraseIdx i) w→ax X.P f (first++vals++capt) Fr' w [H] R) (hargs:ft e args.toList=some vals)
  (hR:∀v L1,R v L1→∃H',L1=[H']∧ψ v H') (hk:∀v H',ψ v H'→VO X ops G l (bW dst v e) (L.set i H') K)
  (hg:cB ops G guard=some true:=by rfl) (hd:cI X.n dst=true:=by rfl) (hf:cz G dst=true:=by rfl):
  VO X ops G (⟨dst,.call ⟨.value x,args,tys⟩,ty,pos,after,guard⟩::l) e L K:=
 VO.op hg hd hf (aK.mH i hx hL ht hargs hR) fun v L' ⟨H',h1,h2⟩=>by subst h2;exact hk v H' h1
theorem VA.mH{j:Nat}{f:FuncId}{x:Operand}{first capt:List Value}{args:Array Operand}{tys:Array TypeId}{vals:List Value}{H:HP}{R:Value→List HP→Prop}{ψ:Value→HP→Prop}(i:Nat)(hx:ev e x=some (f_ f first capt))
  (hL:L[i]?=some H) (ht:∀Fr' w,(∀b,X.Fr b→Fr' b)→St X L w→a_ Fr' (L.eraseIdx i) w→ax X.P f (first++vals++capt) Fr' w [H] R)
  (hi:ops.toList[j]?=some ⟨dst,.call ⟨.value x,args,tys⟩,ty,pos,after,guard⟩) (hargs:ft e args.toList=some vals)
  (hR:∀v L1,R v L1→∃H',L1=[H']∧ψ v H') (hst:∀v H',ψ v H'→Pd X (L.set i H') (S.filter fun p=>!waits ops j p.1))
  (hk:∀v H',ψ v H'→VA X ops G pl (S.filter fun p=>!waits ops j p.1) (bW dst v e) (L.set i H') K)
  (hg:cB ops G guard=some true:=by rfl) (hd:cI X.n dst=true:=by rfl) (hf:cz G dst=true:=by rfl):VA X ops G (.only j pl) S e L K:=
 AO (aK.mH i hx hL ht hargs hR) hi (fun v L' ⟨H',h1,h2⟩=>by subst h2;exact hst v H' h1) (fun v L' ⟨H',h1,h2⟩=>by subst h2;exact hk v H' h1) hg hd hf
end
theorem aT.aq{α:Type}{c:α→List Value}{n el cap:Nat}{a:Option Addr}{xs:List α}{Fr:Nat→Prop}{w:World}(hc:∀x,(c x).length=n)(h:a_ Fr [aq el n a xs.length cap (flat c xs)] w):aT c n Fr w a xs:=by
 obtain⟨F,⟨ids,G,hF,⟨h1,h2⟩,hG⟩,hf⟩:=h
 rcases h2 with ⟨rfl,h3,_,_⟩ | ⟨b,rest,rfl,rfl,h4,h5,h6⟩
 ·obtain rfl:xs=[]:=iC h3
  exact aT.nil
 ·exact⟨fun _=>⟨b,0,Z,hf b (by rw[hF];simp),fun i x hx=>G0 h6 (by rw[cj];exact oO hc hx rest)⟩⟩
theorem Sub.bl{e' e:Env}{t:Nat}{a b:Bool}(h:look e t=some (Value.bool a))(hab:a=b)(hs:Sub e' e):Sub ((t,.bool b)::e') e:=by subst hab;exact SC h hs
theorem an.aaO{X:Cx}{fn:Func}{R:Value→List HP→Prop}{e:Env}{L:List HP}{T:TypeId}{ti:TI}{b:Nat}{v u:Value}(q p:Nat)(h:fn.results=#[.tmp q,.cell p T])(hq:look e q=some u)(hp:look e p=some (.pointer (some ⟨b,0,none⟩)))(hT:bR X.tab T=some ti)
  (hr:aw X L ti b 0 v) {L':List HP} (he:dd X L L') (hR:R (.tuple #[u,v]) L'):an X fn R e L:=
 ⟨_,L',⟨fun a w ha hw=>by
  have:=C_ (X.ok.look hT) (hr w hw)
  have hp':=ha.at_ p _ hp
  have hq':=ha.at_ q _ hq
  simp only[v8] at hp' hq'
  simp[results,h,hp',hq',asAddr,this]⟩,he,hR⟩
end Vg
namespace T
open Go Vg
abbrev I0:Value:=.int .i64 0
abbrev S0:Value:=.string ⟨#[]⟩
def t3:TI:={ aE:=.int .i64,size:=1,bytes:=8,zero:=I0,zs:=[I0] }
theorem ZW:aN Tryz.prog 3 t3:=⟨by kernel_rfl,by kernel_rfl,rfl,rfl⟩
def t4:TI:={ aE:=.bool,size:=1,bytes:=1,zero:=.bool false,zs:=[.bool false] }
theorem Z6:aN Tryz.prog 4 t4:=⟨by kernel_rfl,by kernel_rfl,rfl,rfl⟩
def t2:TI:={ aE:=.int .i64,size:=1,bytes:=8,zero:=I0,zs:=[I0] }
theorem Zm:aN Tryz.prog 2 t2:=⟨by kernel_rfl,by kernel_rfl,rfl,rfl⟩
def t5:TI:={ aE:=.int .u8,size:=1,bytes:=1,zero:=.int .u8 0,zs:=[.int .u8 0] }
theorem aac:aN Tryz.prog 5 t5:=⟨by kernel_rfl,by kernel_rfl,rfl,rfl⟩
def t31:TI:={ aE:=.int .i64,size:=1,bytes:=8,zero:=I0,zs:=[I0] }
theorem Zt:aN Tryz.prog 31 t31:=⟨by kernel_rfl,by kernel_rfl,rfl,rfl⟩
def t188:TI:={ aE:=.struct [(0,1),(1,1),(2,1),(3,1),(4,1),(5,1),(6,1),(7,4),(11,4),(15,1),(16,7),(23,3),(26,1),(27,1),(28,1)],size:=29,bytes:=288,zero:=.agg ([I0,I0,I0,I0,I0,I0,I0,I0,S0,S0,I0,I0,S0,I0,I0,I0,I0,I0,I0,I0,S0,S0,I0,I0,.slice none 0 0,I0,I0,I0,I0]:List Value).toArray,zs:=[I0,I0,I0,I0,I0,I0,I0,I0,S0,S0,I0,I0,S0,I0,I0,I0,I0,I0,I0,I0,S0,S0,I0,I0,.slice none 0 0,I0,I0,I0,I0] }
theorem Yw:aN Tryz.prog 188 t188:=⟨by kernel_rfl,by kernel_rfl,rfl,rfl⟩
def t9:TI:={ aE:=.string,size:=1,bytes:=16,zero:=S0,zs:=[S0] }
theorem aav:aN Tryz.prog 9 t9:=⟨by kernel_rfl,by kernel_rfl,rfl,rfl⟩
def t75:TI:={ aE:=.ptr 120,size:=1,bytes:=8,zero:=.pointer none,zs:=[.pointer none] }
theorem aal:aN Tryz.prog 75 t75:=⟨by kernel_rfl,by kernel_rfl,rfl,rfl⟩
def t41:TI:={ aE:=.struct [(0,1),(1,1),(2,1)],size:=3,bytes:=40,zero:=.agg ([I0,.slice none 0 0,I0]:List Value).toArray,zs:=[I0,.slice none 0 0,I0] }
theorem ZY:aN Tryz.prog 41 t41:=⟨by kernel_rfl,by kernel_rfl,rfl,rfl⟩
def t6:TI:={ aE:=.int .u8,size:=1,bytes:=1,zero:=.int .u8 0,zs:=[.int .u8 0] }
theorem aah:aN Tryz.prog 6 t6:=⟨by kernel_rfl,by kernel_rfl,rfl,rfl⟩
def t24:TI:={ aE:=.struct [(0,1),(1,1),(2,1),(3,1),(4,1),(5,1),(6,1),(7,1),(8,1),(9,1),(10,1),(11,1)],size:=12,bytes:=112,zero:=.agg ([I0,I0,I0,.slice none 0 0,I0,I0,I0,I0,I0,I0,I0,I0]:List Value).toArray,zs:=[I0,I0,I0,.slice none 0 0,I0,I0,I0,I0,I0,I0,I0,I0] }
theorem Y1:aN Tryz.prog 24 t24:=⟨by kernel_rfl,by kernel_rfl,rfl,rfl⟩
def t7:TI:={ aE:=.struct [(0,1),(1,1),(2,1),(3,1)],size:=4,bytes:=24,zero:=.agg ([I0,I0,.bool false,.int .u8 0]:List Value).toArray,zs:=[I0,I0,.bool false,.int .u8 0] }
theorem aan:aN Tryz.prog 7 t7:=⟨by kernel_rfl,by kernel_rfl,rfl,rfl⟩
def t8:TI:={ aE:=.struct [(0,1),(1,1),(2,1),(3,1)],size:=4,bytes:=24,zero:=.agg ([I0,I0,.bool false,.int .u8 0]:List Value).toArray,zs:=[I0,I0,.bool false,.int .u8 0] }
theorem aaq:aN Tryz.prog 8 t8:=⟨by kernel_rfl,by kernel_rfl,rfl,rfl⟩
def t30:TI:={ aE:=.ptr 72,size:=1,bytes:=8,zero:=.pointer none,zs:=[.pointer none] }
theorem Zs:aN Tryz.prog 30 t30:=⟨by kernel_rfl,by kernel_rfl,rfl,rfl⟩
def t78:TI:={ aE:=.ptr 130,size:=1,bytes:=8,zero:=.pointer none,zs:=[.pointer none] }
theorem aam:aN Tryz.prog 78 t78:=⟨by kernel_rfl,by kernel_rfl,rfl,rfl⟩
def t279:TI:={ aE:=.int .u32,size:=1,bytes:=4,zero:=.int .u32 0,zs:=[.int .u32 0] }
theorem Y_:aN Tryz.prog 279 t279:=⟨by kernel_rfl,by kernel_rfl,rfl,rfl⟩
def t92:TI:={ aE:=.slice 94,size:=1,bytes:=24,zero:=.slice none 0 0,zs:=[.slice none 0 0] }
theorem aar:aN Tryz.prog 92 t92:=⟨by kernel_rfl,by kernel_rfl,rfl,rfl⟩
def t21:TI:={ aE:=.int .i32,size:=1,bytes:=4,zero:=.int .i32 0,zs:=[.int .i32 0] }
theorem YK:aN Tryz.prog 21 t21:=⟨by kernel_rfl,by kernel_rfl,rfl,rfl⟩
def t63:TI:={ aE:=.ptr 110,size:=1,bytes:=8,zero:=.pointer none,zs:=[.pointer none] }
theorem aad:aN Tryz.prog 63 t63:=⟨by kernel_rfl,by kernel_rfl,rfl,rfl⟩
def t85:TI:={ aE:=.ptr 151,size:=1,bytes:=8,zero:=.pointer none,zs:=[.pointer none] }
theorem aao:aN Tryz.prog 85 t85:=⟨by kernel_rfl,by kernel_rfl,rfl,rfl⟩
def t302:TI:={ aE:=.int .u64,size:=1,bytes:=8,zero:=.int .u64 0,zs:=[.int .u64 0] }
theorem Zn:aN Tryz.prog 302 t302:=⟨by kernel_rfl,by kernel_rfl,rfl,rfl⟩
def t120:TI:={ aE:=.struct [(0,1),(1,1),(2,1),(3,1),(4,3),(7,1),(8,1),(9,1),(10,1),(11,1),(12,1),(13,1),(14,1),(15,1),(16,1)],size:=17,bytes:=152,zero:=.agg ([I0,I0,I0,I0,I0,.slice none 0 0,I0,I0,.bool false,.pointer none,.pointer none,.pointer none,.pointer none,I0,I0,.bool false,I0]:List Value).toArray,zs:=[I0,I0,I0,I0,I0,.slice none 0 0,I0,I0,.bool false,.pointer none,.pointer none,.pointer none,.pointer none,I0,I0,.bool false,I0] }
theorem XS:aN Tryz.prog 120 t120:=⟨by kernel_rfl,by kernel_rfl,rfl,rfl⟩
def t36:TI:={ aE:=.struct [(0,1),(1,1),(2,1),(3,1)],size:=4,bytes:=48,zero:=.agg ([I0,S0,S0,I0]:List Value).toArray,zs:=[I0,S0,S0,I0] }
theorem ZC:aN Tryz.prog 36 t36:=⟨by kernel_rfl,by kernel_rfl,rfl,rfl⟩
def t94:TI:={ aE:=.array 2 3,size:=2,bytes:=16,zero:=.agg ([I0,I0]:List Value).toArray,zs:=[I0,I0] }
theorem aas:aN Tryz.prog 94 t94:=⟨by kernel_rfl,by kernel_rfl,rfl,rfl⟩
def t39:TI:={ aE:=.slice 99,size:=1,bytes:=24,zero:=.slice none 0 0,zs:=[.slice none 0 0] }
theorem ZV:aN Tryz.prog 39 t39:=⟨by kernel_rfl,by kernel_rfl,rfl,rfl⟩
def t141:TI:={ aE:=.struct [(0,1),(1,1),(2,1),(3,1)],size:=4,bytes:=40,zero:=.agg ([I0,S0,I0,I0]:List Value).toArray,zs:=[I0,S0,I0,I0] }
theorem X1:aN Tryz.prog 141 t141:=⟨by kernel_rfl,by kernel_rfl,rfl,rfl⟩
def t55:TI:={ aE:=.struct [(0,1),(1,1),(2,1),(3,4)],size:=7,bytes:=72,zero:=.agg ([I0,I0,I0,I0,S0,S0,I0]:List Value).toArray,zs:=[I0,I0,I0,I0,S0,S0,I0] }
theorem Z_:aN Tryz.prog 55 t55:=⟨by kernel_rfl,by kernel_rfl,rfl,rfl⟩
def t50:TI:={ aE:=.struct [(0,1),(1,1),(2,1),(3,1),(4,3),(7,1),(8,1)],size:=9,bytes:=120,zero:=.agg ([I0,I0,I0,I0,I0,.slice none 0 0,I0,.slice none 0 0,.slice none 0 0]:List Value).toArray,zs:=[I0,I0,I0,I0,I0,.slice none 0 0,I0,.slice none 0 0,.slice none 0 0] }
theorem Z7:aN Tryz.prog 50 t50:=⟨by kernel_rfl,by kernel_rfl,rfl,rfl⟩
def t88:TI:={ aE:=.ptr 159,size:=1,bytes:=8,zero:=.pointer none,zs:=[.pointer none] }
theorem aap:aN Tryz.prog 88 t88:=⟨by kernel_rfl,by kernel_rfl,rfl,rfl⟩
def t10:TI:={ aE:=.string,size:=1,bytes:=16,zero:=S0,zs:=[S0] }
theorem XG:aN Tryz.prog 10 t10:=⟨by kernel_rfl,by kernel_rfl,rfl,rfl⟩
def t117:TI:={ aE:=.ptr 179,size:=1,bytes:=8,zero:=.pointer none,zs:=[.pointer none] }
theorem XO:aN Tryz.prog 117 t117:=⟨by kernel_rfl,by kernel_rfl,rfl,rfl⟩
def t38:TI:={ aE:=.struct [(0,1),(1,1),(2,1),(3,1),(4,4)],size:=8,bytes:=80,zero:=.agg ([I0,I0,I0,I0,I0,S0,S0,I0]:List Value).toArray,zs:=[I0,I0,I0,I0,I0,S0,S0,I0] }
theorem ZL:aN Tryz.prog 38 t38:=⟨by kernel_rfl,by kernel_rfl,rfl,rfl⟩
def t70:TI:={ aE:=.ptr 116,size:=1,bytes:=8,zero:=.pointer none,zs:=[.pointer none] }
theorem aai:aN Tryz.prog 70 t70:=⟨by kernel_rfl,by kernel_rfl,rfl,rfl⟩
def t135:TI:={ aE:=.slice 190,size:=1,bytes:=24,zero:=.slice none 0 0,zs:=[.slice none 0 0] }
theorem XY:aN Tryz.prog 135 t135:=⟨by kernel_rfl,by kernel_rfl,rfl,rfl⟩
def t22:TI:={ aE:=.slice 3,size:=1,bytes:=24,zero:=.slice none 0 0,zs:=[.slice none 0 0] }
theorem YO:aN Tryz.prog 22 t22:=⟨by kernel_rfl,by kernel_rfl,rfl,rfl⟩
def t224:TI:={ aE:=.ptr 3,size:=1,bytes:=8,zero:=.pointer none,zs:=[.pointer none] }
theorem YM:aN Tryz.prog 224 t224:=⟨by kernel_rfl,by kernel_rfl,rfl,rfl⟩
def t11:TI:={ aE:=.string,size:=1,bytes:=16,zero:=S0,zs:=[S0] }
theorem XR:aN Tryz.prog 11 t11:=⟨by kernel_rfl,by kernel_rfl,rfl,rfl⟩
def t46:TI:={ aE:=.struct [(0,3),(3,1),(4,1),(5,1)],size:=6,bytes:=112,zero:=.agg ([I0,.slice none 0 0,I0,.slice none 0 0,.slice none 0 0,.slice none 0 0]:List Value).toArray,zs:=[I0,.slice none 0 0,I0,.slice none 0 0,.slice none 0 0,.slice none 0 0] }
theorem Z3:aN Tryz.prog 46 t46:=⟨by kernel_rfl,by kernel_rfl,rfl,rfl⟩
def t235:TI:={ aE:=.ptr 309,size:=1,bytes:=8,zero:=.pointer none,zs:=[.pointer none] }
theorem YU:aN Tryz.prog 235 t235:=⟨by kernel_rfl,by kernel_rfl,rfl,rfl⟩
def t99:TI:={ aE:=.struct [(0,1),(1,1)],size:=2,bytes:=16,zero:=.agg ([I0,I0]:List Value).toArray,zs:=[I0,I0] }
theorem aau:aN Tryz.prog 99 t99:=⟨by kernel_rfl,by kernel_rfl,rfl,rfl⟩
def t172:TI:={ aE:=.ptr 234,size:=1,bytes:=8,zero:=.pointer none,zs:=[.pointer none] }
theorem Yj:aN Tryz.prog 172 t172:=⟨by kernel_rfl,by kernel_rfl,rfl,rfl⟩
def t130:TI:={ aE:=.struct [(0,1),(1,1),(2,1),(3,1),(4,1),(5,3),(8,1),(9,1),(10,1),(11,1),(12,1),(13,1),(14,1),(15,1),(16,1),(17,4)],size:=21,bytes:=200,zero:=.agg ([I0,I0,I0,I0,.pointer none,I0,.slice none 0 0,I0,.pointer none,I0,I0,I0,.bool false,I0,I0,I0,I0,I0,S0,S0,I0]:List Value).toArray,zs:=[I0,I0,I0,I0,.pointer none,I0,.slice none 0 0,I0,.pointer none,I0,I0,I0,.bool false,I0,I0,I0,I0,I0,S0,S0,I0] }
theorem XX:aN Tryz.prog 130 t130:=⟨by kernel_rfl,by kernel_rfl,rfl,rfl⟩
def t43:TI:={ aE:=.slice 55,size:=1,bytes:=24,zero:=.slice none 0 0,zs:=[.slice none 0 0] }
theorem Z0:aN Tryz.prog 43 t43:=⟨by kernel_rfl,by kernel_rfl,rfl,rfl⟩
def t56:TI:={ aE:=.slice 59,size:=1,bytes:=24,zero:=.slice none 0 0,zs:=[.slice none 0 0] }
theorem Z':aN Tryz.prog 56 t56:=⟨by kernel_rfl,by kernel_rfl,rfl,rfl⟩
def t72:TI:={ aE:=.struct [(0,12),(12,1),(13,1),(14,1),(15,1),(16,1),(17,1),(18,1)],size:=19,bytes:=216,zero:=.agg ([I0,I0,I0,.slice none 0 0,I0,I0,I0,I0,I0,I0,I0,I0,I0,.pointer none,.slice none 0 0,.slice none 0 0,.pointer none,.pointer none,.slice none 0 0]:List Value).toArray,zs:=[I0,I0,I0,.slice none 0 0,I0,I0,I0,I0,I0,I0,I0,I0,I0,.pointer none,.slice none 0 0,.slice none 0 0,.pointer none,.pointer none,.slice none 0 0] }
theorem aak:aN Tryz.prog 72 t72:=⟨by kernel_rfl,by kernel_rfl,rfl,rfl⟩
def t12:TI:={ aE:=.int .u64,size:=1,bytes:=8,zero:=.int .u64 0,zs:=[.int .u64 0] }
theorem XW:aN Tryz.prog 12 t12:=⟨by kernel_rfl,by kernel_rfl,rfl,rfl⟩
def t118:TI:={ aE:=.ptr 182,size:=1,bytes:=8,zero:=.pointer none,zs:=[.pointer none] }
theorem XP:aN Tryz.prog 118 t118:=⟨by kernel_rfl,by kernel_rfl,rfl,rfl⟩
def t223:TI:={ aE:=.int .u64,size:=1,bytes:=8,zero:=.int .u64 0,zs:=[.int .u64 0] }
theorem YL:aN Tryz.prog 223 t223:=⟨by kernel_rfl,by kernel_rfl,rfl,rfl⟩
def t59:TI:={ aE:=.struct [(0,1),(1,1),(2,1)],size:=3,bytes:=24,zero:=.agg ([I0,I0,I0]:List Value).toArray,zs:=[I0,I0,I0] }
theorem aab:aN Tryz.prog 59 t59:=⟨by kernel_rfl,by kernel_rfl,rfl,rfl⟩
def t305:TI:={ aE:=.slice 5,size:=1,bytes:=24,zero:=.slice none 0 0,zs:=[.slice none 0 0] }
theorem Zp:aN Tryz.prog 305 t305:=⟨by kernel_rfl,by kernel_rfl,rfl,rfl⟩
def t165:TI:={ aE:=.slice 9,size:=1,bytes:=24,zero:=.slice none 0 0,zs:=[.slice none 0 0] }
theorem Yh:aN Tryz.prog 165 t165:=⟨by kernel_rfl,by kernel_rfl,rfl,rfl⟩
def t195:TI:={ aE:=.struct [(0,1),(1,1),(2,1)],size:=3,bytes:=32,zero:=.agg ([I0,I0,S0]:List Value).toArray,zs:=[I0,I0,S0] }
theorem YB:aN Tryz.prog 195 t195:=⟨by kernel_rfl,by kernel_rfl,rfl,rfl⟩
def t16:TI:={ aE:=.ptr 393,size:=1,bytes:=8,zero:=.pointer none,zs:=[.pointer none] }
theorem Yi:aN Tryz.prog 16 t16:=⟨by kernel_rfl,by kernel_rfl,rfl,rfl⟩
def t13:TI:={ aE:=.struct [(0,1),(1,1)],size:=2,bytes:=24,zero:=.agg ([S0,.int .u64 0]:List Value).toArray,zs:=[S0,.int .u64 0] }
theorem XZ:aN Tryz.prog 13 t13:=⟨by kernel_rfl,by kernel_rfl,rfl,rfl⟩
def t48:TI:={ aE:=.ptr 50,size:=1,bytes:=8,zero:=.pointer none,zs:=[.pointer none] }
theorem Z4:aN Tryz.prog 48 t48:=⟨by kernel_rfl,by kernel_rfl,rfl,rfl⟩
def t66:TI:={ aE:=.ptr 113,size:=1,bytes:=8,zero:=.pointer none,zs:=[.pointer none] }
theorem aae:aN Tryz.prog 66 t66:=⟨by kernel_rfl,by kernel_rfl,rfl,rfl⟩
def t127:TI:={ aE:=.ptr 184,size:=1,bytes:=8,zero:=.pointer none,zs:=[.pointer none] }
theorem XT:aN Tryz.prog 127 t127:=⟨by kernel_rfl,by kernel_rfl,rfl,rfl⟩
def t245:TI:={ aE:=.ptr 188,size:=1,bytes:=8,zero:=.pointer none,zs:=[.pointer none] }
theorem YZ:aN Tryz.prog 245 t245:=⟨by kernel_rfl,by kernel_rfl,rfl,rfl⟩
def t143:TI:={ aE:=.struct [(0,1),(1,1),(2,4)],size:=6,bytes:=56,zero:=.agg ([I0,I0,I0,S0,I0,I0]:List Value).toArray,zs:=[I0,I0,I0,S0,I0,I0] }
theorem X4:aN Tryz.prog 143 t143:=⟨by kernel_rfl,by kernel_rfl,rfl,rfl⟩
def t110:TI:={ aE:=.struct [(0,1),(1,1),(2,3),(5,6),(11,6)],size:=17,bytes:=112,zero:=.agg ([I0,I0,I0,.slice none 0 0,I0,I0,I0,I0,I0,I0,I0,.bool false,.bool false,.bool false,.bool false,.bool false,.bool false]:List Value).toArray,zs:=[I0,I0,I0,.slice none 0 0,I0,I0,I0,I0,I0,I0,I0,.bool false,.bool false,.bool false,.bool false,.bool false,.bool false] }
theorem XH:aN Tryz.prog 110 t110:=⟨by kernel_rfl,by kernel_rfl,rfl,rfl⟩
def t252:TI:={ aE:=.slice 188,size:=1,bytes:=24,zero:=.slice none 0 0,zs:=[.slice none 0 0] }
theorem Y2:aN Tryz.prog 252 t252:=⟨by kernel_rfl,by kernel_rfl,rfl,rfl⟩
def t151:TI:={ aE:=.struct [(0,1),(1,1),(2,1),(3,1),(4,1)],size:=5,bytes:=40,zero:=.agg ([I0,I0,I0,I0,I0]:List Value).toArray,zs:=[I0,I0,I0,I0,I0] }
theorem X7:aN Tryz.prog 151 t151:=⟨by kernel_rfl,by kernel_rfl,rfl,rfl⟩
def t153:TI:={ aE:=.ptr 231,size:=1,bytes:=8,zero:=.pointer none,zs:=[.pointer none] }
theorem X8:aN Tryz.prog 153 t153:=⟨by kernel_rfl,by kernel_rfl,rfl,rfl⟩
def t201:TI:={ aE:=.struct [(0,1),(1,29),(30,4)],size:=34,bytes:=336,zero:=.agg ([I0,I0,I0,I0,I0,I0,I0,I0,I0,S0,S0,I0,I0,S0,I0,I0,I0,I0,I0,I0,I0,S0,S0,I0,I0,.slice none 0 0,I0,I0,I0,I0,I0,S0,I0,I0]:List Value).toArray,zs:=[I0,I0,I0,I0,I0,I0,I0,I0,I0,S0,S0,I0,I0,S0,I0,I0,I0,I0,I0,I0,I0,S0,S0,I0,I0,.slice none 0 0,I0,I0,I0,I0,I0,S0,I0,I0] }
theorem YG:aN Tryz.prog 201 t201:=⟨by kernel_rfl,by kernel_rfl,rfl,rfl⟩
def t14:TI:={ aE:=.struct [(0,1),(1,1)],size:=2,bytes:=24,zero:=.agg ([S0,.int .u64 0]:List Value).toArray,zs:=[S0,.int .u64 0] }
theorem X5:aN Tryz.prog 14 t14:=⟨by kernel_rfl,by kernel_rfl,rfl,rfl⟩
def t180:TI:={ aE:=.slice 201,size:=1,bytes:=24,zero:=.slice none 0 0,zs:=[.slice none 0 0] }
theorem Yq:aN Tryz.prog 180 t180:=⟨by kernel_rfl,by kernel_rfl,rfl,rfl⟩
def t159:TI:={ aE:=.struct [(0,1),(1,1),(2,1),(3,12)],size:=15,bytes:=152,zero:=.agg ([.pointer none,.slice none 0 0,.slice none 0 0,I0,I0,I0,I0,I0,I0,I0,I0,I0,I0,I0,I0]:List Value).toArray,zs:=[.pointer none,.slice none 0 0,.slice none 0 0,I0,I0,I0,I0,I0,I0,I0,I0,I0,I0,I0,I0] }
theorem Yd:aN Tryz.prog 159 t159:=⟨by kernel_rfl,by kernel_rfl,rfl,rfl⟩
def t128:TI:={ aE:=.ptr 289,size:=1,bytes:=8,zero:=.pointer none,zs:=[.pointer none] }
theorem XU:aN Tryz.prog 128 t128:=⟨by kernel_rfl,by kernel_rfl,rfl,rfl⟩
def t239:TI:={ aE:=.struct [(0,1),(1,1),(2,1),(3,1)],size:=4,bytes:=32,zero:=.agg ([.pointer none,I0,I0,I0]:List Value).toArray,zs:=[.pointer none,I0,I0,I0] }
theorem YW:aN Tryz.prog 239 t239:=⟨by kernel_rfl,by kernel_rfl,rfl,rfl⟩
def t176:TI:={ aE:=.struct [(0,1),(1,1)],size:=2,bytes:=16,zero:=.agg ([I0,I0]:List Value).toArray,zs:=[I0,I0] }
theorem Yl:aN Tryz.prog 176 t176:=⟨by kernel_rfl,by kernel_rfl,rfl,rfl⟩
def t161:TI:={ aE:=.struct [(0,1),(1,1)],size:=2,bytes:=16,zero:=.agg ([I0,I0]:List Value).toArray,zs:=[I0,I0] }
theorem Yg:aN Tryz.prog 161 t161:=⟨by kernel_rfl,by kernel_rfl,rfl,rfl⟩
def t378:TI:={ aE:=.ptr 283,size:=1,bytes:=8,zero:=.pointer none,zs:=[.pointer none] }
theorem ZH:aN Tryz.prog 378 t378:=⟨by kernel_rfl,by kernel_rfl,rfl,rfl⟩
def t15:TI:={ aE:=.ptr 390,size:=1,bytes:=8,zero:=.pointer none,zs:=[.pointer none] }
theorem Ye:aN Tryz.prog 15 t15:=⟨by kernel_rfl,by kernel_rfl,rfl,rfl⟩
def t113:TI:={ aE:=.struct [(0,1),(1,1),(2,1),(3,6)],size:=9,bytes:=88,zero:=.agg ([.bool false,.slice none 0 0,I0,I0,I0,I0,I0,I0,I0]:List Value).toArray,zs:=[.bool false,.slice none 0 0,I0,I0,I0,I0,I0,I0,I0] }
theorem XK:aN Tryz.prog 113 t113:=⟨by kernel_rfl,by kernel_rfl,rfl,rfl⟩
def t184:TI:={ aE:=.struct [(0,1),(1,1),(2,1),(3,1),(4,1)],size:=5,bytes:=40,zero:=.agg ([I0,I0,I0,I0,I0]:List Value).toArray,zs:=[I0,I0,I0,I0,I0] }
theorem Yu:aN Tryz.prog 184 t184:=⟨by kernel_rfl,by kernel_rfl,rfl,rfl⟩
def t42:TI:={ aE:=.slice 50,size:=1,bytes:=24,zero:=.slice none 0 0,zs:=[.slice none 0 0] }
theorem ZZ:aN Tryz.prog 42 t42:=⟨by kernel_rfl,by kernel_rfl,rfl,rfl⟩
def t69:TI:={ aE:=.slice 78,size:=1,bytes:=24,zero:=.slice none 0 0,zs:=[.slice none 0 0] }
theorem aag:aN Tryz.prog 69 t69:=⟨by kernel_rfl,by kernel_rfl,rfl,rfl⟩
def t182:TI:={ aE:=.struct [(0,1),(1,1),(2,1)],size:=3,bytes:=40,zero:=.agg ([I0,I0,.slice none 0 0]:List Value).toArray,zs:=[I0,I0,.slice none 0 0] }
theorem Ys:aN Tryz.prog 182 t182:=⟨by kernel_rfl,by kernel_rfl,rfl,rfl⟩
def t309:TI:={ aE:=.struct [(0,1),(1,1),(2,1)],size:=3,bytes:=40,zero:=.agg ([.slice none 0 0,I0,I0]:List Value).toArray,zs:=[.slice none 0 0,I0,I0] }
theorem Zr:aN Tryz.prog 309 t309:=⟨by kernel_rfl,by kernel_rfl,rfl,rfl⟩
def t353:TI:={ aE:=.ptr 239,size:=1,bytes:=8,zero:=.pointer none,zs:=[.pointer none] }
theorem Zz:aN Tryz.prog 353 t353:=⟨by kernel_rfl,by kernel_rfl,rfl,rfl⟩
def t51:TI:={ aE:=.array 3 3,size:=3,bytes:=24,zero:=.agg ([I0,I0,I0]:List Value).toArray,zs:=[I0,I0,I0] }
theorem Z8:aN Tryz.prog 51 t51:=⟨by kernel_rfl,by kernel_rfl,rfl,rfl⟩
def t197:TI:={ aE:=.struct [(0,1)],size:=1,bytes:=24,zero:=.agg ([.slice none 0 0]:List Value).toArray,zs:=[.slice none 0 0] }
theorem YD:aN Tryz.prog 197 t197:=⟨by kernel_rfl,by kernel_rfl,rfl,rfl⟩
def t283:TI:={ aE:=.struct [(0,1),(1,1)],size:=2,bytes:=8,zero:=.agg ([.int .i32 0,.int .u32 0]:List Value).toArray,zs:=[.int .i32 0,.int .u32 0] }
theorem Zc:aN Tryz.prog 283 t283:=⟨by kernel_rfl,by kernel_rfl,rfl,rfl⟩
def t68:TI:={ aE:=.slice 75,size:=1,bytes:=24,zero:=.slice none 0 0,zs:=[.slice none 0 0] }
theorem aaf:aN Tryz.prog 68 t68:=⟨by kernel_rfl,by kernel_rfl,rfl,rfl⟩
def t114:TI:={ aE:=.other,size:=1,bytes:=8,zero:=.map none,zs:=[.map none] }
theorem XL:aN Tryz.prog 114 t114:=⟨by kernel_rfl,by kernel_rfl,rfl,rfl⟩
def t179:TI:={ aE:=.struct [(0,1),(1,1),(2,1),(3,12),(15,6)],size:=21,bytes:=168,zero:=.agg ([.pointer none,I0,I0,I0,I0,I0,I0,I0,I0,I0,I0,I0,I0,I0,I0,I0,I0,I0,I0,I0,I0]:List Value).toArray,zs:=[.pointer none,I0,I0,I0,I0,I0,I0,I0,I0,I0,I0,I0,I0,I0,I0,I0,I0,I0,I0,I0,I0] }
theorem Yo:aN Tryz.prog 179 t179:=⟨by kernel_rfl,by kernel_rfl,rfl,rfl⟩
def t215:TI:={ aE:=.ptr 218,size:=1,bytes:=8,zero:=.pointer none,zs:=[.pointer none] }
theorem YH:aN Tryz.prog 215 t215:=⟨by kernel_rfl,by kernel_rfl,rfl,rfl⟩
def t234:TI:={ aE:=.struct [(0,1),(1,1),(2,1)],size:=3,bytes:=40,zero:=.agg ([.slice none 0 0,I0,.bool false]:List Value).toArray,zs:=[.slice none 0 0,I0,.bool false] }
theorem YT:aN Tryz.prog 234 t234:=⟨by kernel_rfl,by kernel_rfl,rfl,rfl⟩
def t116:TI:={ aE:=.struct [(0,1),(1,1)],size:=2,bytes:=16,zero:=.agg ([I0,.map none]:List Value).toArray,zs:=[I0,.map none] }
theorem XN:aN Tryz.prog 116 t116:=⟨by kernel_rfl,by kernel_rfl,rfl,rfl⟩
def t190:TI:={ aE:=.struct [(0,1),(1,29)],size:=30,bytes:=296,zero:=.agg ([I0,I0,I0,I0,I0,I0,I0,I0,I0,S0,S0,I0,I0,S0,I0,I0,I0,I0,I0,I0,I0,S0,S0,I0,I0,.slice none 0 0,I0,I0,I0,I0]:List Value).toArray,zs:=[I0,I0,I0,I0,I0,I0,I0,I0,I0,S0,S0,I0,I0,S0,I0,I0,I0,I0,I0,I0,I0,S0,S0,I0,I0,.slice none 0 0,I0,I0,I0,I0] }
theorem Yz:aN Tryz.prog 190 t190:=⟨by kernel_rfl,by kernel_rfl,rfl,rfl⟩
def t292:TI:={ aE:=.struct [(0,1),(1,1)],size:=2,bytes:=24,zero:=.agg ([S0,I0]:List Value).toArray,zs:=[S0,I0] }
theorem Zk:aN Tryz.prog 292 t292:=⟨by kernel_rfl,by kernel_rfl,rfl,rfl⟩
def t107:TI:={ aE:=.array 6 3,size:=6,bytes:=48,zero:=.agg ([I0,I0,I0,I0,I0,I0]:List Value).toArray,zs:=[I0,I0,I0,I0,I0,I0] }
theorem XD:aN Tryz.prog 107 t107:=⟨by kernel_rfl,by kernel_rfl,rfl,rfl⟩
def t154:TI:={ aE:=.slice 141,size:=1,bytes:=24,zero:=.slice none 0 0,zs:=[.slice none 0 0] }
theorem X9:aN Tryz.prog 154 t154:=⟨by kernel_rfl,by kernel_rfl,rfl,rfl⟩
def t229:TI:={ aE:=.other,size:=1,bytes:=8,zero:=.map none,zs:=[.map none] }
theorem YN:aN Tryz.prog 229 t229:=⟨by kernel_rfl,by kernel_rfl,rfl,rfl⟩
def t344:TI:={ aE:=.int .u64,size:=1,bytes:=8,zero:=.int .u64 0,zs:=[.int .u64 0] }
theorem Zw:aN Tryz.prog 344 t344:=⟨by kernel_rfl,by kernel_rfl,rfl,rfl⟩
def t25:TI:={ aE:=.slice 38,size:=1,bytes:=24,zero:=.slice none 0 0,zs:=[.slice none 0 0] }
theorem Y3:aN Tryz.prog 25 t25:=⟨by kernel_rfl,by kernel_rfl,rfl,rfl⟩
def t26:TI:={ aE:=.array 2 5,size:=2,bytes:=2,zero:=.agg ([.int .u8 0,.int .u8 0]:List Value).toArray,zs:=[.int .u8 0,.int .u8 0] }
theorem Y6:aN Tryz.prog 26 t26:=⟨by kernel_rfl,by kernel_rfl,rfl,rfl⟩
def t156:TI:={ aE:=.struct [(0,1),(1,1)],size:=2,bytes:=16,zero:=.agg ([I0,I0]:List Value).toArray,zs:=[I0,I0] }
theorem Ya:aN Tryz.prog 156 t156:=⟨by kernel_rfl,by kernel_rfl,rfl,rfl⟩
def t281:TI:={ aE:=.struct [(0,0),(0,1)],size:=1,bytes:=4,zero:=.agg ([.int .u32 0]:List Value).toArray,zs:=[.int .u32 0] }
theorem Za:aN Tryz.prog 281 t281:=⟨by kernel_rfl,by kernel_rfl,rfl,rfl⟩
def t45:TI:={ aE:=.struct [(0,3),(3,1),(4,1),(5,1)],size:=6,bytes:=112,zero:=.agg ([I0,.slice none 0 0,I0,.slice none 0 0,.slice none 0 0,.slice none 0 0]:List Value).toArray,zs:=[I0,.slice none 0 0,I0,.slice none 0 0,.slice none 0 0,.slice none 0 0] }
theorem Z2:aN Tryz.prog 45 t45:=⟨by kernel_rfl,by kernel_rfl,rfl,rfl⟩
def t108:TI:={ aE:=.array 6 4,size:=6,bytes:=6,zero:=.agg ([.bool false,.bool false,.bool false,.bool false,.bool false,.bool false]:List Value).toArray,zs:=[.bool false,.bool false,.bool false,.bool false,.bool false,.bool false] }
theorem XE:aN Tryz.prog 108 t108:=⟨by kernel_rfl,by kernel_rfl,rfl,rfl⟩
def t111:TI:={ aE:=.slice 218,size:=1,bytes:=24,zero:=.slice none 0 0,zs:=[.slice none 0 0] }
theorem XI:aN Tryz.prog 111 t111:=⟨by kernel_rfl,by kernel_rfl,rfl,rfl⟩
def t232:TI:={ aE:=.slice 239,size:=1,bytes:=24,zero:=.slice none 0 0,zs:=[.slice none 0 0] }
theorem YR:aN Tryz.prog 232 t232:=⟨by kernel_rfl,by kernel_rfl,rfl,rfl⟩
def t19:TI:={ aE:=.struct [(0,1)],size:=1,bytes:=8,zero:=.agg ([.pointer none]:List Value).toArray,zs:=[.pointer none] }
theorem YE:aN Tryz.prog 19 t19:=⟨by kernel_rfl,by kernel_rfl,rfl,rfl⟩
def t44:TI:={ aE:=.slice 51,size:=1,bytes:=24,zero:=.slice none 0 0,zs:=[.slice none 0 0] }
theorem Z1:aN Tryz.prog 44 t44:=⟨by kernel_rfl,by kernel_rfl,rfl,rfl⟩
def t243:TI:={ aE:=.slice 224,size:=1,bytes:=24,zero:=.slice none 0 0,zs:=[.slice none 0 0] }
theorem YY:aN Tryz.prog 243 t243:=⟨by kernel_rfl,by kernel_rfl,rfl,rfl⟩
def t294:TI:={ aE:=.int .i64,size:=1,bytes:=8,zero:=I0,zs:=[I0] }
theorem Zl:aN Tryz.prog 294 t294:=⟨by kernel_rfl,by kernel_rfl,rfl,rfl⟩
def t218:TI:={ aE:=.struct [(0,1),(1,1),(2,4),(6,1),(7,1),(8,6)],size:=14,bytes:=136,zero:=.agg ([I0,I0,I0,S0,S0,I0,I0,I0,I0,I0,I0,S0,I0,I0]:List Value).toArray,zs:=[I0,I0,I0,S0,S0,I0,I0,I0,I0,I0,I0,S0,I0,I0] }
theorem YJ:aN Tryz.prog 218 t218:=⟨by kernel_rfl,by kernel_rfl,rfl,rfl⟩
def t58:TI:={ aE:=.struct [(0,1),(1,1),(2,1)],size:=3,bytes:=24,zero:=.agg ([I0,I0,I0]:List Value).toArray,zs:=[I0,I0,I0] }
theorem aaa:aN Tryz.prog 58 t58:=⟨by kernel_rfl,by kernel_rfl,rfl,rfl⟩
def t98:TI:={ aE:=.struct [(0,1),(1,1)],size:=2,bytes:=16,zero:=.agg ([I0,I0]:List Value).toArray,zs:=[I0,I0] }
theorem aat:aN Tryz.prog 98 t98:=⟨by kernel_rfl,by kernel_rfl,rfl,rfl⟩
def t157:TI:={ aE:=.array 6 156,size:=12,bytes:=96,zero:=.agg ([I0,I0,I0,I0,I0,I0,I0,I0,I0,I0,I0,I0]:List Value).toArray,zs:=[I0,I0,I0,I0,I0,I0,I0,I0,I0,I0,I0,I0] }
theorem Yb:aN Tryz.prog 157 t157:=⟨by kernel_rfl,by kernel_rfl,rfl,rfl⟩
def t23:TI:={ aE:=.struct [(0,1),(1,1),(2,1),(3,1),(4,1),(5,1),(6,1),(7,1),(8,1),(9,1),(10,1),(11,1)],size:=12,bytes:=112,zero:=.agg ([I0,I0,I0,.slice none 0 0,I0,I0,I0,I0,I0,I0,I0,I0]:List Value).toArray,zs:=[I0,I0,I0,.slice none 0 0,I0,I0,I0,I0,I0,I0,I0,I0] }
theorem YX:aN Tryz.prog 23 t23:=⟨by kernel_rfl,by kernel_rfl,rfl,rfl⟩
def t37:TI:={ aE:=.struct [(0,1),(1,1),(2,1),(3,1),(4,4)],size:=8,bytes:=80,zero:=.agg ([I0,I0,I0,I0,I0,S0,S0,I0]:List Value).toArray,zs:=[I0,I0,I0,I0,I0,S0,S0,I0] }
theorem ZI:aN Tryz.prog 37 t37:=⟨by kernel_rfl,by kernel_rfl,rfl,rfl⟩
def t109:TI:={ aE:=.struct [(0,1),(1,1),(2,3),(5,6),(11,6)],size:=17,bytes:=112,zero:=.agg ([I0,I0,I0,.slice none 0 0,I0,I0,I0,I0,I0,I0,I0,.bool false,.bool false,.bool false,.bool false,.bool false,.bool false]:List Value).toArray,zs:=[I0,I0,I0,.slice none 0 0,I0,I0,I0,I0,I0,I0,I0,.bool false,.bool false,.bool false,.bool false,.bool false,.bool false] }
theorem XF:aN Tryz.prog 109 t109:=⟨by kernel_rfl,by kernel_rfl,rfl,rfl⟩
def t287:TI:={ aE:=.struct [(0,0),(0,1),(1,2)],size:=3,bytes:=12,zero:=.agg ([.int .u32 0,.int .i32 0,.int .u32 0]:List Value).toArray,zs:=[.int .u32 0,.int .i32 0,.int .u32 0] }
theorem Zg:aN Tryz.prog 287 t287:=⟨by kernel_rfl,by kernel_rfl,rfl,rfl⟩
def t17:TI:={ aE:=.ptr 401,size:=1,bytes:=8,zero:=.pointer none,zs:=[.pointer none] }
theorem Yp:aN Tryz.prog 17 t17:=⟨by kernel_rfl,by kernel_rfl,rfl,rfl⟩
def t18:TI:={ aE:=.struct [(0,1)],size:=1,bytes:=8,zero:=.agg ([.pointer none]:List Value).toArray,zs:=[.pointer none] }
theorem Yy:aN Tryz.prog 18 t18:=⟨by kernel_rfl,by kernel_rfl,rfl,rfl⟩
def t231:TI:={ aE:=.struct [(0,1)],size:=1,bytes:=8,zero:=.agg ([.map none]:List Value).toArray,zs:=[.map none] }
theorem YQ:aN Tryz.prog 231 t231:=⟨by kernel_rfl,by kernel_rfl,rfl,rfl⟩
def t247:TI:={ aE:=.ptr 197,size:=1,bytes:=8,zero:=.pointer none,zs:=[.pointer none] }
theorem Y0:aN Tryz.prog 247 t247:=⟨by kernel_rfl,by kernel_rfl,rfl,rfl⟩
def t266:TI:={ aE:=.struct [(0,1)],size:=1,bytes:=8,zero:=.agg ([.pointer none]:List Value).toArray,zs:=[.pointer none] }
theorem Y5:aN Tryz.prog 266 t266:=⟨by kernel_rfl,by kernel_rfl,rfl,rfl⟩
def t289:TI:={ aE:=.struct [(0,1),(1,3),(4,1),(5,6)],size:=11,bytes:=80,zero:=.agg ([.bool false,.int .u32 0,.int .i32 0,.int .u32 0,.int .u32 0,I0,I0,I0,S0,I0,I0]:List Value).toArray,zs:=[.bool false,.int .u32 0,.int .i32 0,.int .u32 0,.int .u32 0,I0,I0,I0,S0,I0,I0] }
theorem Zi:aN Tryz.prog 289 t289:=⟨by kernel_rfl,by kernel_rfl,rfl,rfl⟩
def t342:TI:={ aE:=.ptr 279,size:=1,bytes:=8,zero:=.pointer none,zs:=[.pointer none] }
theorem Zv:aN Tryz.prog 342 t342:=⟨by kernel_rfl,by kernel_rfl,rfl,rfl⟩
def t373:TI:={ aE:=.ptr 287,size:=1,bytes:=8,zero:=.pointer none,zs:=[.pointer none] }
theorem ZF:aN Tryz.prog 373 t373:=⟨by kernel_rfl,by kernel_rfl,rfl,rfl⟩
def t35:TI:={ aE:=.struct [(0,1),(1,1),(2,1),(3,1)],size:=4,bytes:=48,zero:=.agg ([I0,S0,S0,I0]:List Value).toArray,zs:=[I0,S0,S0,I0] }
theorem ZA:aN Tryz.prog 35 t35:=⟨by kernel_rfl,by kernel_rfl,rfl,rfl⟩
def t103:TI:={ aE:=.array 10 9,size:=10,bytes:=160,zero:=.agg ([S0,S0,S0,S0,S0,S0,S0,S0,S0,S0]:List Value).toArray,zs:=[S0,S0,S0,S0,S0,S0,S0,S0,S0,S0] }
theorem XC:aN Tryz.prog 103 t103:=⟨by kernel_rfl,by kernel_rfl,rfl,rfl⟩
def t285:TI:={ aE:=.struct [(0,0),(0,2)],size:=2,bytes:=8,zero:=.agg ([.int .i32 0,.int .u32 0]:List Value).toArray,zs:=[.int .i32 0,.int .u32 0] }
theorem Ze:aN Tryz.prog 285 t285:=⟨by kernel_rfl,by kernel_rfl,rfl,rfl⟩
def t351:TI:={ aE:=.array 65 5,size:=65,bytes:=65,zero:=.agg ([.int .u8 0,.int .u8 0,.int .u8 0,.int .u8 0,.int .u8 0,.int .u8 0,.int .u8 0,.int .u8 0,.int .u8 0,.int .u8 0,.int .u8 0,.int .u8 0,.int .u8 0,.int .u8 0,.int .u8 0,.int .u8 0,.int .u8 0,.int .u8 0,.int .u8 0,.int .u8 0,.int .u8 0,.int .u8 0,.int .u8 0,.int .u8 0,.int .u8 0,.int .u8 0,.int .u8 0,.int .u8 0,.int .u8 0,.int .u8 0,.int .u8 0,.int .u8 0,.int .u8 0,.int .u8 0,.int .u8 0,.int .u8 0,.int .u8 0,.int .u8 0,.int .u8 0,.int .u8 0,.int .u8 0,.int .u8 0,.int .u8 0,.int .u8 0,.int .u8 0,.int .u8 0,.int .u8 0,.int .u8 0,.int .u8 0,.int .u8 0,.int .u8 0,.int .u8 0,.int .u8 0,.int .u8 0,.int .u8 0,.int .u8 0,.int .u8 0,.int .u8 0,.int .u8 0,.int .u8 0,.int .u8 0,.int .u8 0,.int .u8 0,.int .u8 0,.int .u8 0]:List Value).toArray,zs:=[.int .u8 0,.int .u8 0,.int .u8 0,.int .u8 0,.int .u8 0,.int .u8 0,.int .u8 0,.int .u8 0,.int .u8 0,.int .u8 0,.int .u8 0,.int .u8 0,.int .u8 0,.int .u8 0,.int .u8 0,.int .u8 0,.int .u8 0,.int .u8 0,.int .u8 0,.int .u8 0,.int .u8 0,.int .u8 0,.int .u8 0,.int .u8 0,.int .u8 0,.int .u8 0,.int .u8 0,.int .u8 0,.int .u8 0,.int .u8 0,.int .u8 0,.int .u8 0,.int .u8 0,.int .u8 0,.int .u8 0,.int .u8 0,.int .u8 0,.int .u8 0,.int .u8 0,.int .u8 0,.int .u8 0,.int .u8 0,.int .u8 0,.int .u8 0,.int .u8 0,.int .u8 0,.int .u8 0,.int .u8 0,.int .u8 0,.int .u8 0,.int .u8 0,.int .u8 0,.int .u8 0,.int .u8 0,.int .u8 0,.int .u8 0,.int .u8 0,.int .u8 0,.int .u8 0,.int .u8 0,.int .u8 0,.int .u8 0,.int .u8 0,.int .u8 0,.int .u8 0] }
theorem Zy:aN Tryz.prog 351 t351:=⟨by kernel_rfl,by kernel_rfl,rfl,rfl⟩
def t366:TI:={ aE:=.ptr 344,size:=1,bytes:=8,zero:=.pointer none,zs:=[.pointer none] }
theorem ZB:aN Tryz.prog 366 t366:=⟨by kernel_rfl,by kernel_rfl,rfl,rfl⟩
def t380:TI:={ aE:=.ptr 21,size:=1,bytes:=8,zero:=.pointer none,zs:=[.pointer none] }
theorem ZJ:aN Tryz.prog 380 t380:=⟨by kernel_rfl,by kernel_rfl,rfl,rfl⟩
def t71:TI:={ aE:=.struct [(0,12),(12,1),(13,1),(14,1),(15,1),(16,1),(17,1),(18,1)],size:=19,bytes:=216,zero:=.agg ([I0,I0,I0,.slice none 0 0,I0,I0,I0,I0,I0,I0,I0,I0,I0,.pointer none,.slice none 0 0,.slice none 0 0,.pointer none,.pointer none,.slice none 0 0]:List Value).toArray,zs:=[I0,I0,I0,.slice none 0 0,I0,I0,I0,I0,I0,I0,I0,I0,I0,.pointer none,.slice none 0 0,.slice none 0 0,.pointer none,.pointer none,.slice none 0 0] }
theorem aaj:aN Tryz.prog 71 t71:=⟨by kernel_rfl,by kernel_rfl,rfl,rfl⟩
def t158:TI:={ aE:=.struct [(0,1),(1,1),(2,1),(3,12)],size:=15,bytes:=152,zero:=.agg ([.pointer none,.slice none 0 0,.slice none 0 0,I0,I0,I0,I0,I0,I0,I0,I0,I0,I0,I0,I0]:List Value).toArray,zs:=[.pointer none,.slice none 0 0,.slice none 0 0,I0,I0,I0,I0,I0,I0,I0,I0,I0,I0,I0,I0] }
theorem Yc:aN Tryz.prog 158 t158:=⟨by kernel_rfl,by kernel_rfl,rfl,rfl⟩
def t303:TI:={ aE:=.array 24 5,size:=24,bytes:=24,zero:=.agg ([.int .u8 0,.int .u8 0,.int .u8 0,.int .u8 0,.int .u8 0,.int .u8 0,.int .u8 0,.int .u8 0,.int .u8 0,.int .u8 0,.int .u8 0,.int .u8 0,.int .u8 0,.int .u8 0,.int .u8 0,.int .u8 0,.int .u8 0,.int .u8 0,.int .u8 0,.int .u8 0,.int .u8 0,.int .u8 0,.int .u8 0,.int .u8 0]:List Value).toArray,zs:=[.int .u8 0,.int .u8 0,.int .u8 0,.int .u8 0,.int .u8 0,.int .u8 0,.int .u8 0,.int .u8 0,.int .u8 0,.int .u8 0,.int .u8 0,.int .u8 0,.int .u8 0,.int .u8 0,.int .u8 0,.int .u8 0,.int .u8 0,.int .u8 0,.int .u8 0,.int .u8 0,.int .u8 0,.int .u8 0,.int .u8 0,.int .u8 0] }
theorem Zo:aN Tryz.prog 303 t303:=⟨by kernel_rfl,by kernel_rfl,rfl,rfl⟩
def t40:TI:={ aE:=.struct [(0,1),(1,1),(2,1)],size:=3,bytes:=40,zero:=.agg ([I0,.slice none 0 0,I0]:List Value).toArray,zs:=[I0,.slice none 0 0,I0] }
theorem ZX:aN Tryz.prog 40 t40:=⟨by kernel_rfl,by kernel_rfl,rfl,rfl⟩
def t49:TI:={ aE:=.struct [(0,1),(1,1),(2,1),(3,1),(4,3),(7,1),(8,1)],size:=9,bytes:=120,zero:=.agg ([I0,I0,I0,I0,I0,.slice none 0 0,I0,.slice none 0 0,.slice none 0 0]:List Value).toArray,zs:=[I0,I0,I0,I0,I0,.slice none 0 0,I0,.slice none 0 0,.slice none 0 0] }
theorem Z5:aN Tryz.prog 49 t49:=⟨by kernel_rfl,by kernel_rfl,rfl,rfl⟩
def t115:TI:={ aE:=.struct [(0,1),(1,1)],size:=2,bytes:=16,zero:=.agg ([I0,.map none]:List Value).toArray,zs:=[I0,.map none] }
theorem XM:aN Tryz.prog 115 t115:=⟨by kernel_rfl,by kernel_rfl,rfl,rfl⟩
def t119:TI:={ aE:=.struct [(0,1),(1,1),(2,1),(3,1),(4,3),(7,1),(8,1),(9,1),(10,1),(11,1),(12,1),(13,1),(14,1),(15,1),(16,1)],size:=17,bytes:=152,zero:=.agg ([I0,I0,I0,I0,I0,.slice none 0 0,I0,I0,.bool false,.pointer none,.pointer none,.pointer none,.pointer none,I0,I0,.bool false,I0]:List Value).toArray,zs:=[I0,I0,I0,I0,I0,.slice none 0 0,I0,I0,.bool false,.pointer none,.pointer none,.pointer none,.pointer none,I0,I0,.bool false,I0] }
theorem XQ:aN Tryz.prog 119 t119:=⟨by kernel_rfl,by kernel_rfl,rfl,rfl⟩
def t142:TI:={ aE:=.struct [(0,1),(1,1),(2,4)],size:=6,bytes:=56,zero:=.agg ([I0,I0,I0,S0,I0,I0]:List Value).toArray,zs:=[I0,I0,I0,S0,I0,I0] }
theorem X3:aN Tryz.prog 142 t142:=⟨by kernel_rfl,by kernel_rfl,rfl,rfl⟩
def t177:TI:={ aE:=.array 6 176,size:=12,bytes:=96,zero:=.agg ([I0,I0,I0,I0,I0,I0,I0,I0,I0,I0,I0,I0]:List Value).toArray,zs:=[I0,I0,I0,I0,I0,I0,I0,I0,I0,I0,I0,I0] }
theorem Ym:aN Tryz.prog 177 t177:=⟨by kernel_rfl,by kernel_rfl,rfl,rfl⟩
def t189:TI:={ aE:=.struct [(0,1),(1,29)],size:=30,bytes:=296,zero:=.agg ([I0,I0,I0,I0,I0,I0,I0,I0,I0,S0,S0,I0,I0,S0,I0,I0,I0,I0,I0,I0,I0,S0,S0,I0,I0,.slice none 0 0,I0,I0,I0,I0]:List Value).toArray,zs:=[I0,I0,I0,I0,I0,I0,I0,I0,I0,S0,S0,I0,I0,S0,I0,I0,I0,I0,I0,I0,I0,S0,S0,I0,I0,.slice none 0 0,I0,I0,I0,I0] }
theorem Yx:aN Tryz.prog 189 t189:=⟨by kernel_rfl,by kernel_rfl,rfl,rfl⟩
def t54:TI:={ aE:=.struct [(0,1),(1,1),(2,1),(3,4)],size:=7,bytes:=72,zero:=.agg ([I0,I0,I0,I0,S0,S0,I0]:List Value).toArray,zs:=[I0,I0,I0,I0,S0,S0,I0] }
theorem Z9:aN Tryz.prog 54 t54:=⟨by kernel_rfl,by kernel_rfl,rfl,rfl⟩
def t175:TI:={ aE:=.struct [(0,1),(1,1)],size:=2,bytes:=16,zero:=.agg ([I0,I0]:List Value).toArray,zs:=[I0,I0] }
theorem Yk:aN Tryz.prog 175 t175:=⟨by kernel_rfl,by kernel_rfl,rfl,rfl⟩
def t178:TI:={ aE:=.struct [(0,1),(1,1),(2,1),(3,12),(15,6)],size:=21,bytes:=168,zero:=.agg ([.pointer none,I0,I0,I0,I0,I0,I0,I0,I0,I0,I0,I0,I0,I0,I0,I0,I0,I0,I0,I0,I0]:List Value).toArray,zs:=[.pointer none,I0,I0,I0,I0,I0,I0,I0,I0,I0,I0,I0,I0,I0,I0,I0,I0,I0,I0,I0,I0] }
theorem Yn:aN Tryz.prog 178 t178:=⟨by kernel_rfl,by kernel_rfl,rfl,rfl⟩
def t340:TI:={ aE:=.ptr 281,size:=1,bytes:=8,zero:=.pointer none,zs:=[.pointer none] }
theorem Zu:aN Tryz.prog 340 t340:=⟨by kernel_rfl,by kernel_rfl,rfl,rfl⟩
def t377:TI:={ aE:=.ptr 285,size:=1,bytes:=8,zero:=.pointer none,zs:=[.pointer none] }
theorem ZG:aN Tryz.prog 377 t377:=⟨by kernel_rfl,by kernel_rfl,rfl,rfl⟩
def t112:TI:={ aE:=.struct [(0,1),(1,1),(2,1),(3,6)],size:=9,bytes:=88,zero:=.agg ([.bool false,.slice none 0 0,I0,I0,I0,I0,I0,I0,I0]:List Value).toArray,zs:=[.bool false,.slice none 0 0,I0,I0,I0,I0,I0,I0,I0] }
theorem XJ:aN Tryz.prog 112 t112:=⟨by kernel_rfl,by kernel_rfl,rfl,rfl⟩
def t155:TI:={ aE:=.struct [(0,1),(1,1)],size:=2,bytes:=16,zero:=.agg ([I0,I0]:List Value).toArray,zs:=[I0,I0] }
theorem X_:aN Tryz.prog 155 t155:=⟨by kernel_rfl,by kernel_rfl,rfl,rfl⟩
def t160:TI:={ aE:=.struct [(0,1),(1,1)],size:=2,bytes:=16,zero:=.agg ([I0,I0]:List Value).toArray,zs:=[I0,I0] }
theorem Yf:aN Tryz.prog 160 t160:=⟨by kernel_rfl,by kernel_rfl,rfl,rfl⟩
def t183:TI:={ aE:=.struct [(0,1),(1,1),(2,1),(3,1),(4,1)],size:=5,bytes:=40,zero:=.agg ([I0,I0,I0,I0,I0]:List Value).toArray,zs:=[I0,I0,I0,I0,I0] }
theorem Yt:aN Tryz.prog 183 t183:=⟨by kernel_rfl,by kernel_rfl,rfl,rfl⟩
def t187:TI:={ aE:=.struct [(0,1),(1,1),(2,1),(3,1),(4,1),(5,1),(6,1),(7,4),(11,4),(15,1),(16,7),(23,3),(26,1),(27,1),(28,1)],size:=29,bytes:=288,zero:=.agg ([I0,I0,I0,I0,I0,I0,I0,I0,S0,S0,I0,I0,S0,I0,I0,I0,I0,I0,I0,I0,S0,S0,I0,I0,.slice none 0 0,I0,I0,I0,I0]:List Value).toArray,zs:=[I0,I0,I0,I0,I0,I0,I0,I0,S0,S0,I0,I0,S0,I0,I0,I0,I0,I0,I0,I0,S0,S0,I0,I0,.slice none 0 0,I0,I0,I0,I0] }
theorem Yv:aN Tryz.prog 187 t187:=⟨by kernel_rfl,by kernel_rfl,rfl,rfl⟩
def t194:TI:={ aE:=.struct [(0,1),(1,1),(2,1)],size:=3,bytes:=32,zero:=.agg ([I0,I0,S0]:List Value).toArray,zs:=[I0,I0,S0] }
theorem YA:aN Tryz.prog 194 t194:=⟨by kernel_rfl,by kernel_rfl,rfl,rfl⟩
def t196:TI:={ aE:=.struct [(0,1)],size:=1,bytes:=24,zero:=.agg ([.slice none 0 0]:List Value).toArray,zs:=[.slice none 0 0] }
theorem YC:aN Tryz.prog 196 t196:=⟨by kernel_rfl,by kernel_rfl,rfl,rfl⟩
def t288:TI:={ aE:=.struct [(0,1),(1,3),(4,1),(5,6)],size:=11,bytes:=80,zero:=.agg ([.bool false,.int .u32 0,.int .i32 0,.int .u32 0,.int .u32 0,I0,I0,I0,S0,I0,I0]:List Value).toArray,zs:=[.bool false,.int .u32 0,.int .i32 0,.int .u32 0,.int .u32 0,I0,I0,I0,S0,I0,I0] }
theorem Zh:aN Tryz.prog 288 t288:=⟨by kernel_rfl,by kernel_rfl,rfl,rfl⟩
def t350:TI:={ aE:=.array 20 302,size:=20,bytes:=160,zero:=.agg ([.int .u64 0,.int .u64 0,.int .u64 0,.int .u64 0,.int .u64 0,.int .u64 0,.int .u64 0,.int .u64 0,.int .u64 0,.int .u64 0,.int .u64 0,.int .u64 0,.int .u64 0,.int .u64 0,.int .u64 0,.int .u64 0,.int .u64 0,.int .u64 0,.int .u64 0,.int .u64 0]:List Value).toArray,zs:=[.int .u64 0,.int .u64 0,.int .u64 0,.int .u64 0,.int .u64 0,.int .u64 0,.int .u64 0,.int .u64 0,.int .u64 0,.int .u64 0,.int .u64 0,.int .u64 0,.int .u64 0,.int .u64 0,.int .u64 0,.int .u64 0,.int .u64 0,.int .u64 0,.int .u64 0,.int .u64 0] }
theorem Zx:aN Tryz.prog 350 t350:=⟨by kernel_rfl,by kernel_rfl,rfl,rfl⟩
def t371:TI:={ aE:=.array 32 5,size:=32,bytes:=32,zero:=.agg ([.int .u8 0,.int .u8 0,.int .u8 0,.int .u8 0,.int .u8 0,.int .u8 0,.int .u8 0,.int .u8 0,.int .u8 0,.int .u8 0,.int .u8 0,.int .u8 0,.int .u8 0,.int .u8 0,.int .u8 0,.int .u8 0,.int .u8 0,.int .u8 0,.int .u8 0,.int .u8 0,.int .u8 0,.int .u8 0,.int .u8 0,.int .u8 0,.int .u8 0,.int .u8 0,.int .u8 0,.int .u8 0,.int .u8 0,.int .u8 0,.int .u8 0,.int .u8 0]:List Value).toArray,zs:=[.int .u8 0,.int .u8 0,.int .u8 0,.int .u8 0,.int .u8 0,.int .u8 0,.int .u8 0,.int .u8 0,.int .u8 0,.int .u8 0,.int .u8 0,.int .u8 0,.int .u8 0,.int .u8 0,.int .u8 0,.int .u8 0,.int .u8 0,.int .u8 0,.int .u8 0,.int .u8 0,.int .u8 0,.int .u8 0,.int .u8 0,.int .u8 0,.int .u8 0,.int .u8 0,.int .u8 0,.int .u8 0,.int .u8 0,.int .u8 0,.int .u8 0,.int .u8 0] }
theorem ZD:aN Tryz.prog 371 t371:=⟨by kernel_rfl,by kernel_rfl,rfl,rfl⟩
def t372:TI:={ aE:=.array 64 5,size:=64,bytes:=64,zero:=.agg ([.int .u8 0,.int .u8 0,.int .u8 0,.int .u8 0,.int .u8 0,.int .u8 0,.int .u8 0,.int .u8 0,.int .u8 0,.int .u8 0,.int .u8 0,.int .u8 0,.int .u8 0,.int .u8 0,.int .u8 0,.int .u8 0,.int .u8 0,.int .u8 0,.int .u8 0,.int .u8 0,.int .u8 0,.int .u8 0,.int .u8 0,.int .u8 0,.int .u8 0,.int .u8 0,.int .u8 0,.int .u8 0,.int .u8 0,.int .u8 0,.int .u8 0,.int .u8 0,.int .u8 0,.int .u8 0,.int .u8 0,.int .u8 0,.int .u8 0,.int .u8 0,.int .u8 0,.int .u8 0,.int .u8 0,.int .u8 0,.int .u8 0,.int .u8 0,.int .u8 0,.int .u8 0,.int .u8 0,.int .u8 0,.int .u8 0,.int .u8 0,.int .u8 0,.int .u8 0,.int .u8 0,.int .u8 0,.int .u8 0,.int .u8 0,.int .u8 0,.int .u8 0,.int .u8 0,.int .u8 0,.int .u8 0,.int .u8 0,.int .u8 0,.int .u8 0]:List Value).toArray,zs:=[.int .u8 0,.int .u8 0,.int .u8 0,.int .u8 0,.int .u8 0,.int .u8 0,.int .u8 0,.int .u8 0,.int .u8 0,.int .u8 0,.int .u8 0,.int .u8 0,.int .u8 0,.int .u8 0,.int .u8 0,.int .u8 0,.int .u8 0,.int .u8 0,.int .u8 0,.int .u8 0,.int .u8 0,.int .u8 0,.int .u8 0,.int .u8 0,.int .u8 0,.int .u8 0,.int .u8 0,.int .u8 0,.int .u8 0,.int .u8 0,.int .u8 0,.int .u8 0,.int .u8 0,.int .u8 0,.int .u8 0,.int .u8 0,.int .u8 0,.int .u8 0,.int .u8 0,.int .u8 0,.int .u8 0,.int .u8 0,.int .u8 0,.int .u8 0,.int .u8 0,.int .u8 0,.int .u8 0,.int .u8 0,.int .u8 0,.int .u8 0,.int .u8 0,.int .u8 0,.int .u8 0,.int .u8 0,.int .u8 0,.int .u8 0,.int .u8 0,.int .u8 0,.int .u8 0,.int .u8 0,.int .u8 0,.int .u8 0,.int .u8 0,.int .u8 0] }
theorem ZE:aN Tryz.prog 372 t372:=⟨by kernel_rfl,by kernel_rfl,rfl,rfl⟩
def t129:TI:={ aE:=.struct [(0,1),(1,1),(2,1),(3,1),(4,1),(5,3),(8,1),(9,1),(10,1),(11,1),(12,1),(13,1),(14,1),(15,1),(16,1),(17,4)],size:=21,bytes:=200,zero:=.agg ([I0,I0,I0,I0,.pointer none,I0,.slice none 0 0,I0,.pointer none,I0,I0,I0,.bool false,I0,I0,I0,I0,I0,S0,S0,I0]:List Value).toArray,zs:=[I0,I0,I0,I0,.pointer none,I0,.slice none 0 0,I0,.pointer none,I0,I0,I0,.bool false,I0,I0,I0,I0,I0,S0,S0,I0] }
theorem XV:aN Tryz.prog 129 t129:=⟨by kernel_rfl,by kernel_rfl,rfl,rfl⟩
def t140:TI:={ aE:=.struct [(0,1),(1,1),(2,1),(3,1)],size:=4,bytes:=40,zero:=.agg ([I0,S0,I0,I0]:List Value).toArray,zs:=[I0,S0,I0,I0] }
theorem X0:aN Tryz.prog 140 t140:=⟨by kernel_rfl,by kernel_rfl,rfl,rfl⟩
def t200:TI:={ aE:=.struct [(0,1),(1,29),(30,4)],size:=34,bytes:=336,zero:=.agg ([I0,I0,I0,I0,I0,I0,I0,I0,I0,S0,S0,I0,I0,S0,I0,I0,I0,I0,I0,I0,I0,S0,S0,I0,I0,.slice none 0 0,I0,I0,I0,I0,I0,S0,I0,I0]:List Value).toArray,zs:=[I0,I0,I0,I0,I0,I0,I0,I0,I0,S0,S0,I0,I0,S0,I0,I0,I0,I0,I0,I0,I0,S0,S0,I0,I0,.slice none 0 0,I0,I0,I0,I0,I0,S0,I0,I0] }
theorem YF:aN Tryz.prog 200 t200:=⟨by kernel_rfl,by kernel_rfl,rfl,rfl⟩
def t230:TI:={ aE:=.struct [(0,1)],size:=1,bytes:=8,zero:=.agg ([.map none]:List Value).toArray,zs:=[.map none] }
theorem YP:aN Tryz.prog 230 t230:=⟨by kernel_rfl,by kernel_rfl,rfl,rfl⟩
def t233:TI:={ aE:=.struct [(0,1),(1,1),(2,1)],size:=3,bytes:=40,zero:=.agg ([.slice none 0 0,I0,.bool false]:List Value).toArray,zs:=[.slice none 0 0,I0,.bool false] }
theorem YS:aN Tryz.prog 233 t233:=⟨by kernel_rfl,by kernel_rfl,rfl,rfl⟩
def t280:TI:={ aE:=.struct [(0,0),(0,1)],size:=1,bytes:=4,zero:=.agg ([.int .u32 0]:List Value).toArray,zs:=[.int .u32 0] }
theorem Y':aN Tryz.prog 280 t280:=⟨by kernel_rfl,by kernel_rfl,rfl,rfl⟩
def t282:TI:={ aE:=.struct [(0,1),(1,1)],size:=2,bytes:=8,zero:=.agg ([.int .i32 0,.int .u32 0]:List Value).toArray,zs:=[.int .i32 0,.int .u32 0] }
theorem Zb:aN Tryz.prog 282 t282:=⟨by kernel_rfl,by kernel_rfl,rfl,rfl⟩
def t284:TI:={ aE:=.struct [(0,0),(0,2)],size:=2,bytes:=8,zero:=.agg ([.int .i32 0,.int .u32 0]:List Value).toArray,zs:=[.int .i32 0,.int .u32 0] }
theorem Zd:aN Tryz.prog 284 t284:=⟨by kernel_rfl,by kernel_rfl,rfl,rfl⟩
def t398:TI:={ aE:=.int .i32,size:=1,bytes:=4,zero:=.int .i32 0,zs:=[.int .i32 0] }
theorem ZT:aN Tryz.prog 398 t398:=⟨by kernel_rfl,by kernel_rfl,rfl,rfl⟩
def t150:TI:={ aE:=.struct [(0,1),(1,1),(2,1),(3,1),(4,1)],size:=5,bytes:=40,zero:=.agg ([I0,I0,I0,I0,I0]:List Value).toArray,zs:=[I0,I0,I0,I0,I0] }
theorem X6:aN Tryz.prog 150 t150:=⟨by kernel_rfl,by kernel_rfl,rfl,rfl⟩
def t181:TI:={ aE:=.struct [(0,1),(1,1),(2,1)],size:=3,bytes:=40,zero:=.agg ([I0,I0,.slice none 0 0]:List Value).toArray,zs:=[I0,I0,.slice none 0 0] }
theorem Yr:aN Tryz.prog 181 t181:=⟨by kernel_rfl,by kernel_rfl,rfl,rfl⟩
def t217:TI:={ aE:=.struct [(0,1),(1,1),(2,4),(6,1),(7,1),(8,6)],size:=14,bytes:=136,zero:=.agg ([I0,I0,I0,S0,S0,I0,I0,I0,I0,I0,I0,S0,I0,I0]:List Value).toArray,zs:=[I0,I0,I0,S0,S0,I0,I0,I0,I0,I0,I0,S0,I0,I0] }
theorem YI:aN Tryz.prog 217 t217:=⟨by kernel_rfl,by kernel_rfl,rfl,rfl⟩
def t238:TI:={ aE:=.struct [(0,1),(1,1),(2,1),(3,1)],size:=4,bytes:=32,zero:=.agg ([.pointer none,I0,I0,I0]:List Value).toArray,zs:=[.pointer none,I0,I0,I0] }
theorem YV:aN Tryz.prog 238 t238:=⟨by kernel_rfl,by kernel_rfl,rfl,rfl⟩
def t265:TI:={ aE:=.struct [(0,1)],size:=1,bytes:=8,zero:=.agg ([.pointer none]:List Value).toArray,zs:=[.pointer none] }
theorem Y4:aN Tryz.prog 265 t265:=⟨by kernel_rfl,by kernel_rfl,rfl,rfl⟩
def t277:TI:={ aE:=.struct [],size:=0,bytes:=0,zero:=.agg ([]:List Value).toArray,zs:=[] }
theorem Y8:aN Tryz.prog 277 t277:=⟨by kernel_rfl,by kernel_rfl,rfl,rfl⟩
def t278:TI:={ aE:=.struct [],size:=0,bytes:=0,zero:=.agg ([]:List Value).toArray,zs:=[] }
theorem Y9:aN Tryz.prog 278 t278:=⟨by kernel_rfl,by kernel_rfl,rfl,rfl⟩
def t308:TI:={ aE:=.struct [(0,1),(1,1),(2,1)],size:=3,bytes:=40,zero:=.agg ([.slice none 0 0,I0,I0]:List Value).toArray,zs:=[.slice none 0 0,I0,I0] }
theorem Zq:aN Tryz.prog 308 t308:=⟨by kernel_rfl,by kernel_rfl,rfl,rfl⟩
def t395:TI:={ aE:=.int .u8,size:=1,bytes:=1,zero:=.int .u8 0,zs:=[.int .u8 0] }
theorem ZR:aN Tryz.prog 395 t395:=⟨by kernel_rfl,by kernel_rfl,rfl,rfl⟩
def t276:TI:={ aE:=.struct [],size:=0,bytes:=0,zero:=.agg ([]:List Value).toArray,zs:=[] }
theorem Y7:aN Tryz.prog 276 t276:=⟨by kernel_rfl,by kernel_rfl,rfl,rfl⟩
def t286:TI:={ aE:=.struct [(0,0),(0,1),(1,2)],size:=3,bytes:=12,zero:=.agg ([.int .u32 0,.int .i32 0,.int .u32 0]:List Value).toArray,zs:=[.int .u32 0,.int .i32 0,.int .u32 0] }
theorem Zf:aN Tryz.prog 286 t286:=⟨by kernel_rfl,by kernel_rfl,rfl,rfl⟩
def t291:TI:={ aE:=.struct [(0,1),(1,1)],size:=2,bytes:=24,zero:=.agg ([S0,I0]:List Value).toArray,zs:=[S0,I0] }
theorem Zj:aN Tryz.prog 291 t291:=⟨by kernel_rfl,by kernel_rfl,rfl,rfl⟩
def t389:TI:={ aE:=.struct [(0,1),(1,1),(2,1),(3,1)],size:=4,bytes:=40,zero:=.agg ([.pointer none,.pointer none,.pointer none,S0]:List Value).toArray,zs:=[.pointer none,.pointer none,.pointer none,S0] }
theorem ZK:aN Tryz.prog 389 t389:=⟨by kernel_rfl,by kernel_rfl,rfl,rfl⟩
def t390:TI:={ aE:=.struct [(0,1),(1,1),(2,1),(3,1)],size:=4,bytes:=40,zero:=.agg ([.pointer none,.pointer none,.pointer none,S0]:List Value).toArray,zs:=[.pointer none,.pointer none,.pointer none,S0] }
theorem ZM:aN Tryz.prog 390 t390:=⟨by kernel_rfl,by kernel_rfl,rfl,rfl⟩
def t391:TI:={ aE:=.array 0 16,size:=0,bytes:=0,zero:=.agg ([]:List Value).toArray,zs:=[] }
theorem ZN:aN Tryz.prog 391 t391:=⟨by kernel_rfl,by kernel_rfl,rfl,rfl⟩
def t392:TI:={ aE:=.struct [(0,0)],size:=0,bytes:=0,zero:=.agg ([]:List Value).toArray,zs:=[] }
theorem ZO:aN Tryz.prog 392 t392:=⟨by kernel_rfl,by kernel_rfl,rfl,rfl⟩
def t393:TI:={ aE:=.struct [(0,0)],size:=0,bytes:=0,zero:=.agg ([]:List Value).toArray,zs:=[] }
theorem ZP:aN Tryz.prog 393 t393:=⟨by kernel_rfl,by kernel_rfl,rfl,rfl⟩
def t394:TI:={ aE:=.int .u8,size:=1,bytes:=1,zero:=.int .u8 0,zs:=[.int .u8 0] }
theorem ZQ:aN Tryz.prog 394 t394:=⟨by kernel_rfl,by kernel_rfl,rfl,rfl⟩
def t397:TI:={ aE:=.ptr 5,size:=1,bytes:=8,zero:=.pointer none,zs:=[.pointer none] }
theorem ZS:aN Tryz.prog 397 t397:=⟨by kernel_rfl,by kernel_rfl,rfl,rfl⟩
def t399:TI:={ aE:=.int .i32,size:=1,bytes:=4,zero:=.int .i32 0,zs:=[.int .i32 0] }
theorem ZU:aN Tryz.prog 399 t399:=⟨by kernel_rfl,by kernel_rfl,rfl,rfl⟩
def tab:oG:=[(3,t3),(4,t4),(2,t2),(5,t5),(31,t31),(188,t188),(9,t9),(75,t75),(41,t41),(6,t6),(24,t24),(7,t7),(8,t8),(30,t30),(78,t78),(279,t279),(92,t92),(21,t21),(63,t63),(85,t85),(302,t302),(120,t120),(36,t36),(94,t94),(39,t39),(141,t141),(55,t55),(50,t50),(88,t88),(10,t10),(117,t117),(38,t38),(70,t70),(135,t135),(22,t22),(224,t224),(11,t11),(46,t46),(235,t235),(99,t99),(172,t172),(130,t130),(43,t43),(56,t56),(72,t72),(12,t12),(118,t118),(223,t223),(59,t59),(305,t305),(165,t165),(195,t195),(16,t16),(13,t13),(48,t48),(66,t66),(127,t127),(245,t245),(143,t143),(110,t110),(252,t252),(151,t151),(153,t153),(201,t201),(14,t14),(180,t180),(159,t159),(128,t128),(239,t239),(176,t176),(161,t161),(378,t378),(15,t15),(113,t113),(184,t184),(42,t42),(69,t69),(182,t182),(309,t309),(353,t353),(51,t51),(197,t197),(283,t283),(68,t68),(114,t114),(179,t179),(215,t215),(234,t234),(116,t116),(190,t190),(292,t292),(107,t107),(154,t154),(229,t229),(344,t344),(25,t25),(26,t26),(156,t156),(281,t281),(45,t45),(108,t108),(111,t111),(232,t232),(19,t19),(44,t44),(243,t243),(294,t294),(218,t218),(58,t58),(98,t98),(157,t157),(23,t23),(37,t37),(109,t109),(287,t287),(17,t17),(18,t18),(231,t231),(247,t247),(266,t266),(289,t289),(342,t342),(373,t373),(35,t35),(103,t103),(285,t285),(351,t351),(366,t366),(380,t380),(71,t71),(158,t158),(303,t303),(40,t40),(49,t49),(115,t115),(119,t119),(142,t142),(177,t177),(189,t189),(54,t54),(175,t175),(178,t178),(340,t340),(377,t377),(112,t112),(155,t155),(160,t160),(183,t183),(187,t187),(194,t194),(196,t196),(288,t288),(350,t350),(371,t371),(372,t372),(129,t129),(140,t140),(200,t200),(230,t230),(233,t233),(280,t280),(282,t282),(284,t284),(398,t398),(150,t150),(181,t181),(217,t217),(238,t238),(265,t265),(277,t277),(278,t278),(308,t308),(395,t395),(276,t276),(286,t286),(291,t291),(389,t389),(390,t390),(391,t391),(392,t392),(393,t393),(394,t394),(397,t397),(399,t399)]
theorem aC:oH Tryz.prog tab:=by
 intro p hp
 have key:∀(l:oG),(∀p∈l,aN Tryz.prog p.1 p.2)→∀k ti,aN Tryz.prog k ti→∀p∈(k,ti)::l,aN Tryz.prog p.1 p.2:=fun l h k ti h1 p hp=>by
  rcases iD.1 hp with rfl | hp
  ·exact h1
  ·exact h p hp
 exact key _ (key _ (key _ (key _ (key _ (key _ (key _ (key _ (key _ (key _ (key _ (key _ (key _ (key _ (key _ (key _ (key _ (key _ (key _ (key _ (key _ (key _ (key _ (key _ (key _ (key _ (key _ (key _ (key _ (key _ (key _ (key _ (key _ (key _ (key _ (key _ (key _ (key _ (key _ (key _ (key _ (key _ (key _ (key _ (key _ (key _ (key _ (key _ (key _ (key _ (key _ (key _ (key _ (key _ (key _ (key _ (key _ (key _ (key _ (key _ (key _ (key _ (key _ (key _ (key _ (key _ (key _ (key _ (key _ (key _ (key _ (key _ (key _ (key _ (key _ (key _ (key _ (key _ (key _ (key _ (key _ (key _ (key _ (key _ (key _ (key _ (key _ (key _ (key _ (key _ (key _ (key _ (key _ (key _ (key _ (key _ (key _ (key _ (key _ (key _ (key _ (key _ (key _ (key _ (key _ (key _ (key _ (key _ (key _ (key _ (key _ (key _ (key _ (key _ (key _ (key _ (key _ (key _ (key _ (key _ (key _ (key _ (key _ (key _ (key _ (key _ (key _ (key _ (key _ (key _ (key _ (key _ (key _ (key _ (key _ (key _ (key _ (key _ (key _ (key _ (key _ (key _ (key _ (key _ (key _ (key _ (key _ (key _ (key _ (key _ (key _ (key _ (key _ (key _ (key _ (key _ (key _ (key _ (key _ (key _ (key _ (key _ (key _ (key _ (key _ (key _ (key _ (key _ (key _ (key _ (key _ (key _ (key _ (key _ (key _ (key _ (key _ (key _ (key _ (key _ (key _ (key _ (key _ (key _ (fun p h=>by cases h) _ _ ZU) _ _ ZS) _ _ ZQ) _ _ ZP) _ _ ZO) _ _ ZN) _ _ ZM) _ _ ZK) _ _ Zj) _ _ Zf) _ _ Y7) _ _ ZR) _ _ Zq) _ _ Y9) _ _ Y8) _ _ Y4) _ _ YV) _ _ YI) _ _ Yr) _ _ X6) _ _ ZT) _ _ Zd) _ _ Zb) _ _ Y') _ _ YS) _ _ YP) _ _ YF) _ _ X0) _ _ XV) _ _ ZE) _ _ ZD) _ _ Zx) _ _ Zh) _ _ YC) _ _ YA) _ _ Yv) _ _ Yt) _ _ Yf) _ _ X_) _ _ XJ) _ _ ZG) _ _ Zu) _ _ Yn) _ _ Yk) _ _ Z9) _ _ Yx) _ _ Ym) _ _ X3) _ _ XQ) _ _ XM) _ _ Z5) _ _ ZX) _ _ Zo) _ _ Yc) _ _ aaj) _ _ ZJ) _ _ ZB) _ _ Zy) _ _ Ze) _ _ XC) _ _ ZA) _ _ ZF) _ _ Zv) _ _ Zi) _ _ Y5) _ _ Y0) _ _ YQ) _ _ Yy) _ _ Yp) _ _ Zg) _ _ XF) _ _ ZI) _ _ YX) _ _ Yb) _ _ aat) _ _ aaa) _ _ YJ) _ _ Zl) _ _ YY) _ _ Z1) _ _ YE) _ _ YR) _ _ XI) _ _ XE) _ _ Z2) _ _ Za) _ _ Ya) _ _ Y6) _ _ Y3) _ _ Zw) _ _ YN) _ _ X9) _ _ XD) _ _ Zk) _ _ Yz) _ _ XN) _ _ YT) _ _ YH) _ _ Yo) _ _ XL) _ _ aaf) _ _ Zc) _ _ YD) _ _ Z8) _ _ Zz) _ _ Zr) _ _ Ys) _ _ aag) _ _ ZZ) _ _ Yu) _ _ XK) _ _ Ye) _ _ ZH) _ _ Yg) _ _ Yl) _ _ YW) _ _ XU) _ _ Yd) _ _ Yq) _ _ X5) _ _ YG) _ _ X8) _ _ X7) _ _ Y2) _ _ XH) _ _ X4) _ _ YZ) _ _ XT) _ _ aae) _ _ Z4) _ _ XZ) _ _ Yi) _ _ YB) _ _ Yh) _ _ Zp) _ _ aab) _ _ YL) _ _ XP) _ _ XW) _ _ aak) _ _ Z') _ _ Z0) _ _ XX) _ _ Yj) _ _ aau) _ _ YU) _ _ Z3) _ _ XR) _ _ YM) _ _ YO) _ _ XY) _ _ aai) _ _ ZL) _ _ XO) _ _ XG) _ _ aap) _ _ Z7) _ _ Z_) _ _ X1) _ _ ZV) _ _ aas) _ _ ZC) _ _ XS) _ _ Zn) _ _ aao) _ _ aad) _ _ YK) _ _ aar) _ _ Y_) _ _ aam) _ _ Zs) _ _ aaq) _ _ aan) _ _ Y1) _ _ aah) _ _ ZY) _ _ aal) _ _ aav) _ _ Yw) _ _ Zt) _ _ aac) _ _ Zm) _ _ Z6) _ _ ZW p hp
end T
namespace Api
open Go Vg T
attribute [local irreducible] VO VC VA
structure bw where
 kind:Int
 key:ByteArray
 value:ByteArray
 version:Int
def bw.cells(o:bw):List Value:=[.int .i64 o.kind,.string o.key,.string o.value,.int .i64 o.version]
def oU(o:bw):Bool:=
 decide (o.kind<1)||decide (4<o.kind)||decide (o.key.size=0)||decide (o.version<0)||decide (4096<o.version)||(decide (o.version≠0)&&decide (o.kind≠4)) ||
  (decide (o.value.size≠0) && !(decide (o.kind=2)||decide (o.kind=4)))
def qH(o:bw):Bool:=decide (16<o.key.size)||decide (64<o.value.size)
def dv(o:bw):Int:=if oU o then 2 else if qH o then 3 else 0
def fP(o:bw):Int:=if dv o=0 then 16+o.key.size+o.value.size else 0
theorem Hq(s:ByteArray):s.toList.length=s.size:=by rw[ByteArray.toList_eq];simp
theorem Nd(s:ByteArray)(t:ByteArray)(ht:t.size=0):(s.toList == t.toList)=decide (s.size=0):=by
 have h2:t.toList=[]:=iC (by rw[Hq];exact ht)
 rw[h2]
 by_cases h:s.size=0
 ·have h1:s.toList=[]:=iC (by rw[Hq];exact h)
  rw[h1];simp[h]
 ·have h1:s.toList≠[]:=fun e=>h (by rw[←Hq,e];rfl)
  simp[h]
  exact h1
theorem DL(k:Int):ax Tryz.prog 212 [.int .i64 k] Fr w [] (fun v L=>v=.bool (decide (k=2)||decide (k=4))∧L=[]):=by
 refine TF 9 Tryz.func212 Z yp aC Z Z ?_
 refine CS (CG (VG (VN (CS (CG (VG (VO.split 5 Z Z (fun h=>VG (VN (CR ?_))) (fun h=>VG (VN (CR ?_))))))))))
 ·exact an.bool 2 Z Z (by have:=eq_of_beq h;simp[this]) ER ⟨rfl,Z⟩
 ·exact an.bool 2 rfl rfl (by have h:=ne_of_beq_false h;by_cases h4:k=4<;>simp[h,h4]) ER ⟨rfl,rfl⟩
theorem gv(o:bw):ax Tryz.prog 139 [.agg o.cells.toArray] Fr w [] (fun v L=>v=.int .i64 (dv o)∧L=[]):=by
 refine TF 49 Tryz.func139 Z yp aC Z Z ?_
 refine CS (CG (VG (VB (vs:=o.cells) Z (fun b=>VG (VN ?_)))))
 refine tm ?_
 refine VC.meet (σ:=Bool) (fun s=>[(1,pV b),(3,.bool s)]) (fun _=>[pt b o.cells 36]) (fun s=>s=oU o) ?_ ?_
 ·have K:=Nd o.key (ByteArray.mk #[]) rfl
  have V:=Nd o.value (ByteArray.mk #[]) rfl
  refine CS (CG (VG (VO.ld 0 Z Z Z Z (VG (VO.split 7 Z Z (fun h1=>VG (VN ?_)) (fun h1=>VG (VO.ld 0 Z Z Z Z (VG (VN ?_)))))))))
  ·refine VC.mi Z (CK ⟨true,?_,aH,ER⟩)
   simp[oU,h1]
  have h1:=of_decide_eq_false h1
  refine CP Z (fun h2=>CK ⟨_,?_,SC Z (SC Z (SN _)),ER⟩) (fun h2=>?_)
  ·simp[oU,h2]
  refine CS (CG (VG (VO.ld 0 Z Z Z Z (VG (VN ?_)))))
  refine CC (t:=decide (o.key.size=0)) (congrArg (fun x=>some (Value.bool x)) K) (fun h3=>CK ⟨_,?_,SC Z (SC Z (SN _)),ER⟩) (fun h3=>?_)
  ·rw[K];have h3:=of_decide_eq_true h3;simp[oU,h3]
  have h3:=of_decide_eq_false h3
  refine CS (CG (VG (VO.ld 0 Z Z Z Z (VG (VO.split 18 Z Z (fun h4=>VG (VN ?_)) (fun h4=>VG (VO.ld 0 Z Z Z Z (VG (VN ?_)))))))))
  ·refine VC.mi Z (CK ⟨true,?_,aH,ER⟩)
   simp[oU,h4]
  have h4:=of_decide_eq_false h4
  refine CP Z (fun h5=>CK ⟨_,?_,SC Z (SC Z (SN _)),ER⟩) (fun h5=>?_)
  ·simp[oU,h5]
  refine CS (CG (VG (VO.ld 0 Z Z Z Z (VG (VO.split 26 Z Z (fun h6=>VG (VO.ld 0 Z Z Z Z (VG (VN ?_)))) (fun h6=>VG (VN ?_)))))))
  ·have h6:o.version≠0:=by simpa using h6
   refine VC.dp Z (fun h7=>CK ⟨_,?_,SC Z (SC Z (SN _)),ER⟩) (fun h7=>?_)
   ·simp[oU,h6,h7]
   have V2:(!(o.value.toList == (ByteArray.mk #[]).toList))=decide (o.value.size≠0):=by rw[V];simp
   refine al ?_
   refine VG (VO.split 34 (b:=decide (o.value.size≠0)) (congrArg (fun x=>some (Value.bool x)) V2) Z (fun h8=>?_) (fun h8=>?_))
   ·have h8:=of_decide_eq_true h8
    refine al ?_
    refine VG (VO.mf (fun Fr w=>DL Fr w o.kind) Z (VG (VN ⟨_,?_,SC Z (SC Z (SN _)),ER⟩)))
    simp[oU,h1,h2,h3,h4,h5,h6,h7,h8]
   ·have h8:=of_decide_eq_false h8
    refine al ?_
    refine⟨_,?_,SC Z (SC Z (SN _)),ER⟩
    simp[oU,h1,h2,h3,h4,h5,h6,h7,h8]
  ·have h6:o.version=0:=by simpa using h6
   have h7:True:=trivial
   have V2:(!(o.value.toList == (ByteArray.mk #[]).toList))=decide (o.value.size≠0):=by rw[V];simp
   refine vM ?_
   refine al ?_
   refine VG (VO.split 34 (b:=decide (o.value.size≠0)) (congrArg (fun x=>some (Value.bool x)) V2) Z (fun h8=>?_) (fun h8=>?_))
   ·have h8:=of_decide_eq_true h8
    refine al ?_
    refine VG (VO.mf (fun Fr w=>DL Fr w o.kind) Z (VG (VN ⟨_,?_,SC Z (SC Z (SN _)),ER⟩)))
    simp[oU,h1,h2,h3,h4,h5,h6,h7,h8]
   ·have h8:=of_decide_eq_false h8
    refine al ?_
    refine⟨_,?_,SC Z (SC Z (SN _)),ER⟩
    simp[oU,h1,h2,h3,h4,h5,h6,h7,h8]
 intro s hs
 subst hs
 refine CC Z (fun h1=>?_) (fun h1=>?_)
 ·refine al ?_
  exact CR (an.int 2 Z Z (by simp[dv,h1]) aa.nil.aj ⟨rfl,Z⟩)
 ·refine al ?_
  refine CP Z (fun h2=>CK (CP Z (fun _=>?_) (fun h=>absurd h2 h))) (fun h2=>?_)
  ·have h2:16<(o.key.size:Int):=h2
   refine al ?_
   exact CR (an.int 2 Z Z yq aa.nil.aj ⟨rfl,Z⟩)
  ·have h2:¬16<(o.key.size:Int):=h2
   refine al ?_
   refine CP Z (fun h3=>?_) (fun h3=>?_)
   ·have h3:64<(o.value.size:Int):=h3
    refine al ?_
    exact CR (an.int 2 Z Z yq aa.nil.aj ⟨rfl,Z⟩)
   ·have h3:¬64<(o.value.size:Int):=h3
    refine yR ?_
    refine CR (an.int 2 Z Z ?_ aa.nil.aj ⟨rfl,Z⟩)
    have e:qH o=false:=by simp[qH];omega
    simp[dv,e,h1]
theorem Rc(o:bw):ax Tryz.prog 268 [.agg o.cells.toArray] Fr w [] (fun v L=>v=.int .i64 (fP o)∧L=[]):=by
 refine TF 14 Tryz.func268 Z yp aC Z Z ?_
 refine CS (CG (VG (VB (vs:=o.cells) Z (fun b=>VG (VN ?_)))))
 refine CS (CS (CG (VG (VL 0 o.cells Z Z Z Z (VG (VO.mf (fun Fr w=>gv Fr w o) Z (VG (VN ?_))))))))
 refine VC.dp Z (fun h1=>?_) (fun h1=>?_)
 ·refine al ?_
  exact CR (an.int 2 Z Z (by simp[fP,h1]) aa.nil.aj ⟨rfl,Z⟩)
 ·refine CK ?_
  have hl:qH o=false:=by
   unfold dv at h1;split at h1
   ·omega
   ·split at h1
    ·omega
    ·rename_i h;simpa using h
  have hk:o.key.size≤16∧o.value.size≤64:=by simp[qH] at hl;omega
  refine al ?_
  refine VG (VP Z Z ?_ ?_ ?_)
  ·omega
  ·omega
  refine al ?_
  refine VG (VP Z Z ?_ ?_ ?_)
  ·omega
  ·omega
  refine al ?_
  exact CR (an.int 2 Z Z (by simp[fP,h1]) aa.nil.aj ⟨rfl,Z⟩)
end Api
namespace Api
open Go Vg T
structure ik where
 code:Int
 value:ByteArray
 version:Int
 at_:Int
structure bf where
 index:Int
 aL:Int
 seq:Int
 op:bw
structure aB where
 kind:Int
 ar:Int
 aL:Int
 seq:Int
 bD:Int
 cls:Int
 deadline:Int
 op:bw
 res:ik
 reason:Int
 entry:bf
 dW:Int
 drain:Int
 index:Int
 tZ:Int
 dQ:Int
abbrev aS:=Int×Int
def aD(m:aS):List Value:=[.int .i64 m.1,.int .i64 m.2]
theorem cu(m:aS):(aD m).length=2:=rfl
theorem vq(m:aS):(aD m).all Value.oneCell'=true:=rfl
abbrev aP:TypeId:=99
abbrev jk:=Option Addr×Nat×Nat
abbrev zg:=jk
def aB.cells(f:aB)(m:zg):List Value:=
  [.int .i64 f.kind,.int .i64 f.ar,.int .i64 f.aL,.int .i64 f.seq,.int .i64 f.bD,.int .i64 f.cls,.int .i64 f.deadline,
   .int .i64 f.op.kind,.string f.op.key,.string f.op.value,.int .i64 f.op.version,
   .int .i64 f.res.code,.string f.res.value,.int .i64 f.res.version,.int .i64 f.res.at_,.int .i64 f.reason,
   .int .i64 f.entry.index,.int .i64 f.entry.aL,.int .i64 f.entry.seq,.int .i64 f.entry.op.kind,.string f.entry.op.key,.string f.entry.op.value,.int .i64 f.entry.op.version,
   .int .i64 f.dW,.slice m.1 m.2.1 m.2.2,.int .i64 f.drain,.int .i64 f.index,.int .i64 f.tZ,.int .i64 f.dQ]
abbrev FM:=aB×zg
def aY(p:FM):List Value:=p.1.cells p.2
theorem vc(p:FM):(aY p).length=29:=rfl
def GA:bw:=⟨0,⟨#[]⟩,⟨#[]⟩,0⟩
def aB.zero:aB:=⟨0,0,0,0,0,0,0,GA,⟨0,⟨#[]⟩,0,0⟩,0,⟨0,0,0,GA⟩,0,0,0,0,0⟩
def eZ:FM:=(aB.zero,none,0,0)
theorem aa.tl{H:HP}{L:List HP}:aa (H::L) L:=aa.app (L:=[H]) (M:=[]) aa.nil aa.refl
def jM(m:jk):HP:=hex fun ms:List aS=>bF [kI (ms.length=m.2.1∧ms.length≤1000000),aq aP 2 m.1 m.2.1 m.2.2 (flat aD ms)]
def mC(Fr:Nat→Prop)(w:World)(m:jk):Prop:=∃ms:List aS,ms.length=m.2.1∧ms.length≤1000000∧aT aD 2 Fr w m.1 ms
theorem mC.of{X:Cx}{m:jk}(h:mC X.Fr X.w0 m){Fr':Nat→Prop}(hF:∀b,X.Fr b→Fr' b){w:World}{L:List HP}(hw:St X L w):mC Fr' w m:=by
 obtain⟨ms,h1,h2,h3⟩:=h
 exact⟨ms,h1,h2,aT.of h3 hF hw⟩
theorem mC.sat{Fr:Nat→Prop}{w:World}{m:jk}(h:a_ Fr [jM m] w):mC Fr w m:=by
 obtain⟨ms,h⟩:=h.ex
 have h:=h.sep
 have hp:=h.pure 0 rfl
 have h1:=h.at_ 1 rfl
 obtain⟨a,n,c⟩:=m
 dsimp only at hp h1
 obtain⟨rfl,hl⟩:=hp
 exact⟨ms,Z,hl,aT.aq cu h1⟩
theorem aa.Gc{L M:List HP}(h:aa L M):aa L (jM (none,0,0)::M):=
 aa.ex (f:=fun ms:List aS=>bF [kI (ms.length=0∧ms.length≤1000000),aq aP 2 none 0 0 (flat aD ms)]) [] (aa.sep (Ls:=[kI _,aq aP 2 none 0 0 (flat aD [])]) (aa.pure ⟨rfl,by decide⟩ (aa.cK h)))
theorem Lz{l:List FM}{k:Nat}{x:FM}(hk:k<l.length):aa (jM x.2::l.map fun r=>jM r.2) ((l.set k x).map fun r=>jM r.2):=by
 rw[gZ]
 exact aa.put k (by simpa using hk)
theorem Uu{l:List FM}{k:Nat}{x:FM}(h:l[k]?=some x):(l.map fun r=>jM r.2)[k]?=some (jM x.2):=by rw[dH,h];rfl
end Api
namespace Win
open Go Vg T Api
attribute [local irreducible] VO VC VA
structure bJ where
 cap:Int
 last:Int
 done:Int
 bS:Int
 js:Int
def bJ.cells(W:bJ):List Value:=[.int .i64 W.cap,.int .i64 W.last,.int .i64 W.done,.int .i64 W.bS,.int .i64 W.js]
abbrev abA:TypeId:=151
def bA(p:Nat)(W:bJ):HP:=pt p W.cells abA
structure bJ.Ok(W:bJ):Prop where
 dO:1≤W.cap
 fM:W.cap≤16
 ln:0≤W.done
 lu:W.done≤W.last
 i_:W.last≤4096
 iy:0≤W.bS
 Az:W.bS≤W.last
 vj:0≤W.js
 vk:W.js≤4112
section
variable {p:Nat} {W:bJ}
theorem fO(h:bq Fr w p W.cells)(hc:1≤W.cap):ax Tryz.prog 69 [.pointer (some ⟨p,0,none⟩)] Fr w [] (fun v L=>v=.bool false∧L=[]):=by
 refine TF 12 Tryz.func69 Z yp aC Z Z ?_
 refine al ?_
 refine VG (VO.split 5 rfl rfl (fun h=>by cases h) (fun _=>?_))
 refine ow ?_
 exact CR (an.bool 2 Z Z yh ER ⟨rfl,Z⟩)
theorem qz(h:bq Fr w p W.cells)(hc:1≤W.cap):ax Tryz.prog 166 [.pointer (some ⟨p,0,none⟩)] Fr w [] (fun v L=>v=.int .i64 W.last∧L=[]):=by
 refine TF 9 Tryz.func166 Z yp aC Z Z ?_
 refine al ?_
 refine Hz ?_
 refine jR ?_
 refine ow ?_
 exact vN
theorem zx(h:bq Fr w p W.cells)(hc:1≤W.cap):ax Tryz.prog 27 [.pointer (some ⟨p,0,none⟩)] Fr w [] (fun v L=>v=.int .i64 W.done∧L=[]):=by
 refine TF 9 Tryz.func27 Z yp aC Z Z ?_
 refine al ?_
 refine Hz ?_
 refine jR ?_
 refine ow ?_
 exact vN
theorem CL(h:bq Fr w p W.cells)(ok:W.Ok):ax Tryz.prog 153 [.pointer (some ⟨p,0,none⟩)] Fr w [] (fun v L=>v=.int .i64 (W.done+W.cap)∧L=[]):=by
 have o1:=ok.dO;have o2:=ok.fM;have o3:=ok.ln;have o4:=ok.lu;have o5:=ok.i_
 refine TF 14 Tryz.func153 Z yp aC Z Z ?_
 refine al ?_
 refine VG (VV (fun Fr w hF hs _=>fO Fr w (h.of hF hs) o1) Z ?_)
 refine jR ?_
 refine CS (CD (ts 0 10 .nil) yp yr ?_)
 refine r5 ?_
 refine pY ?_
 refine bp ?_
 exact vN
theorem free_spec(h:bq Fr w p W.cells)(ok:W.Ok):ax Tryz.prog 101 [.pointer (some ⟨p,0,none⟩)] Fr w [] (fun v L=>v=.int .i64 (max (min (W.done+W.cap) 4096-W.last) 0)∧L=[]):=by
 have o1:=ok.dO;have o2:=ok.fM;have o3:=ok.ln;have o4:=ok.lu;have o5:=ok.i_
 refine TF 14 Tryz.func101 Z yp aC Z Z ?_
 refine al ?_
 refine VG (VV (fun Fr w hF hs _=>fO Fr w (h.of hF hs) o1) Z ?_)
 refine jR ?_
 refine CS (CD (.take 0 (ts 3 4 (.only 1 (.take 2 (ts 7 3 .nil))))) yp yr ?_)
 refine r5 ?_
 refine AG (AR (fun Fr w hF hs hS=>CL Fr w (h.of hF hs) ok) Z Z (by(try refine Pd.st ?_);(repeat(first|exact Pd.nil|exact Pd.fnil|refine Pd.inner ?_|refine Pd.skip yr ?_|refine zf (aw.aA (aw.aA h Z) Z) ?_|refine zf ((aw.aA h Z)) ?_|refine zc (aw.aA (aw.aA h Z) Z) ?_|refine zc ((aw.aA h Z)) ?_))) ?_)
 refine r5 ?_
 refine AG (VA.xH Z Z Z (by split<;>omega) (by split<;>omega) ?_)
 refine bp ?_
 exact CR (an.int 2 Z Z (by simp only[Int.min_def,Int.max_def];repeat' split<;>omega) ER ⟨rfl,Z⟩)
def bJ.room(W:bJ):Bool:=decide (W.last<W.done+W.cap)&&decide (W.last<4096)
theorem vB(ok:W.Ok)(hr:W.room=true):ax Tryz.prog 157 [.pointer (some ⟨p,0,none⟩)] Fr w [bA p W] (fun v L=>v=.bool true∧L=[bA p { W with last:=W.last+1 }]):=by
 have o1:=ok.dO;have o2:=ok.fM;have o3:=ok.ln;have o4:=ok.lu;have o5:=ok.i_
 have hr1:W.last<W.done+W.cap∧W.last<4096:=by simpa[bJ.room] using hr
 refine TF 13 Tryz.func157 Z yp aC Z Z ?_
 unfold bA
 refine al ?_
 refine VG (VV (fun Fr w hF hs hS=>free_spec Fr w (hS.aA 0 Z) ok) Z ?_)
 refine al ?_
 refine CC (t:=false) (by simp only[Vg.ev,Vg.look];simp[Int.min_def,Int.max_def];split<;>constructor<;>omega) (fun hh=>by cases hh) (fun _=>CK ?_)
 refine uG ?_
 refine VG (VO.st 0 (cs':=({ W with last:=W.last+1 }:bJ).cells) Z Z Z Z (g_ Z) Z Z ?_)
 refine al ?_
 exact xQ
def bJ.oJ(W:bJ)(i:Int):Bool:=decide (W.done<i)&&decide (i≤W.last)
def bJ.jl(W:bJ)(i:Int):bJ:=if W.oJ i then { W with done:=i } else W
theorem BJ(ok:W.Ok)(i:Int):ax Tryz.prog 228 [.pointer (some ⟨p,0,none⟩),.int .i64 i] Fr w [bA p W] (fun v L=>v=.bool (W.oJ i)∧L=[bA p (W.jl i)]):=by
 have o1:=ok.dO
 refine TF 27 Tryz.func228 Z yp aC Z Z ?_
 unfold bA
 refine al ?_
 refine DU ?_
 refine al ?_
 refine VG (VY 7 false Z Z ?_)
 refine bG ?_
 by_cases h1:i≤W.done
 ·have hb:W.oJ i=false:=by simp[bJ.oJ];omega
  refine VG (VY 15 true Z (DT h1) ?_)
  refine sd ?_
  exact HA
 ·refine VG (VY 15 false Z (DF h1) ?_)
  refine bG ?_
  refine CP Z (fun h2=>?_) (fun h2=>CK ?_)
  ·have hb:W.oJ i=false:=by simp[bJ.oJ];omega
   refine al ?_
   exact HA
  ·have hb:W.oJ i=true:=by simp[bJ.oJ];omega
   refine al ?_
   refine VG (VO.st 0 (cs':=({ W with done:=i }:bJ).cells) Z Z Z Z (g_ Z) Z Z ?_)
   refine al ?_
   exact HA
theorem SE(ok:W.Ok)(g:Int):ax Tryz.prog 247 [.pointer (some ⟨p,0,none⟩),.int .i64 g] Fr w [bA p W] (fun v L=>v=.tuple #[]∧L=[bA p { W with js:=max W.js (min g 4112) }]):=by
 have o1:=ok.dO
 refine TF 16 Tryz.func247 Z yp aC Z Z ?_
 unfold bA
 refine al ?_
 refine DU ?_
 refine sf ?_
 refine VG (VO.st 0 (cs':=({ W with js:=if W.js<(if 4112<g then 4112 else g) then (if 4112<g then 4112 else g) else W.js }:bJ).cells) Z Z Z Z (g_ Z) Z Z ?_)
 refine al ?_
 exact an.void Z ER ⟨rfl,by rw[show max W.js (min g 4112)=(if W.js<(if 4112<g then 4112 else g) then (if 4112<g then 4112 else g) else W.js) by split<;>split<;>omega];rfl⟩
theorem Je(ok:W.Ok)(g:Int):ax Tryz.prog 164 [.pointer (some ⟨p,0,none⟩),.int .i64 g] Fr w [bA p W] (fun v L=>v=.tuple #[]∧L=[bA p { W with bS:=min (max g 0) W.last }]):=by
 have o1:=ok.dO
 refine TF 16 Tryz.func164 Z yp aC Z Z ?_
 unfold bA
 refine al ?_
 refine DU ?_
 refine sf ?_
 refine VG (VO.st 0 (cs':=({ W with bS:=if W.last<(if g<0 then 0 else g) then W.last else (if g<0 then 0 else g) }:bJ).cells) Z Z Z Z (g_ Z) Z Z ?_)
 refine al ?_
 exact an.void Z ER ⟨rfl,by rw[show min (max g 0) W.last=(if W.last<(if g<0 then 0 else g) then W.last else (if g<0 then 0 else g)) by split<;>split<;>omega];rfl⟩
theorem Wt(ok:W.Ok):ax Tryz.prog 245 [.pointer (some ⟨p,0,none⟩)] Fr w [bA p W] (fun v L=>v=.tuple #[]∧L=[bA p { W with bS:=W.last,js:=0 }]):=by
 have o1:=ok.dO
 refine TF 14 Tryz.func245 Z yp aC Z Z ?_
 unfold bA
 refine al ?_
 refine DU ?_
 refine sf ?_
 refine VG (VO.st 0 (cs':=({ W with bS:=W.last }:bJ).cells) Z Z Z Z (g_ Z) Z Z ?_)
 refine al ?_
 refine VG (VO.st 0 (cs':=({ W with bS:=W.last,js:=0 }:bJ).cells) Z Z Z Z (g_ Z) Z Z ?_)
 refine al ?_
 exact vO
def bJ.ke(W:bJ):Bool:=decide (W.bS<W.last)&&decide (W.bS<W.js)
def bJ.next(W:bJ):bJ:=if W.ke then { W with bS:=W.bS+1 } else W
theorem sU(ok:W.Ok):ax Tryz.prog 160 [.pointer (some ⟨p,0,none⟩)] Fr w [bA p W] (fun v L=>v=.tuple #[.int .i64 (if W.ke then W.bS+1 else 0),.bool W.ke]∧L=[bA p W.next]):=by
 have o1:=ok.dO;have o2:=ok.iy;have o3:=ok.Az;have o4:=ok.i_
 refine TF 39 Tryz.func160 Z yp aC Z Z ?_
 unfold bA
 refine jz ?_
 refine CS (CS (CD (.take 0 (.only 1 (ts 2 22 .nil))) yp yr ?_))
 refine bp ?_
 refine AG (AR (fun Fr w hF hs hS=>fO Fr w (hS.aA 0 Z) o1) Z Z yu ?_)
 refine bp ?_
 refine AG (AY 6 false Z Z ?_)
 refine cW ?_
 by_cases h1:W.last≤W.bS
 ·have hb:W.ke=false:=by simp[bJ.ke];omega
  refine AG (AY 17 true Z (DT h1) ?_)
  refine cW ?_
  refine Ez ?_
  exact HB
 ·refine AG (AY 17 false Z (DF h1) ?_)
  refine cW ?_
  refine CP Z (fun h2=>?_) (fun h2=>CK ?_)
  ·have hb:W.ke=false:=by simp[bJ.ke];omega
   refine al ?_
   exact HB
  ·have hb:W.ke=true:=by simp[bJ.ke];omega
   refine uG ?_
   refine VG (VO.st 0 (cs':=({ W with bS:=W.bS+1 }:bJ).cells) Z Z Z Z (g_ Z) Z Z ?_)
   refine al ?_
   exact HB
theorem zw(h:bq Fr w p W.cells)(hc:1≤W.cap):ax Tryz.prog 68 [.pointer (some ⟨p,0,none⟩)] Fr w [] (fun v L=>∃q,v=.pointer (some ⟨q,0,none⟩)∧L=[bA q W]):=by
 refine TF 9 Tryz.func68 Z yp aC Z Z ?_
 refine al ?_
 refine Hz ?_
 refine sf ?_
 refine VG (VD Z Z (aw.jF (ds:=W.cells) h Z) ?_)
 refine VG (VO.alloc Z fun q=>?_)
 refine VG (VT (vs:=W.cells) 0 Z Z Z Z (NR _) Z Z Z ?_)
 exact IK
end
def bJ.new(cap:Int):bJ:=⟨cap,0,0,0,0⟩
theorem lK{c:Int}(h0:1≤c)(h1:c≤16):ax Tryz.prog 45 [.int .i64 c,.int .i64 0,.int .i64 0] Fr w [] (fun v L=>∃q,v=.tuple #[.pointer (some ⟨q,0,none⟩),.int .i64 0]∧L=[bA q (bJ.new c)]):=by
 refine TF 33 Tryz.func45 Z yp aC Z Z ?_
 refine al ?_
 refine VG (VY 10 false Z (DF yg) ?_)
 refine bG ?_
 refine VG (VY 14 false Z (DF yg) ?_)
 refine bG ?_
 refine VG (VY 18 false Z Z ?_)
 refine bG ?_
 refine VG (VY 23 false Z Z ?_)
 refine p9 ?_
 refine al ?_
 refine VG (VI (LB (pv:=[(0,.int .i64 c),(1,.int .i64 0),(2,.int .i64 0),(3,.int .i64 0)]) (bJ.new c).cells Z Z Z yp Z) ?_)
 refine VG (VB (vs:=(bJ.new c).cells) Z fun q=>?_)
 refine al ?_
 exact CR (an.cV 6 7 Z Z Z ER ⟨q,Z,Z⟩)
theorem bJ.CH{c:Int}(h0:1≤c)(h1:c≤16):(bJ.new c).Ok:=⟨h0,h1,e_ _,e_ _,(by decide:(0:Int)≤4096),e_ _,e_ _,e_ _,(by decide:(0:Int)≤4112)⟩
end Win
end Go.Proofs.YtkgfhabealjjpaaGreatDoor
