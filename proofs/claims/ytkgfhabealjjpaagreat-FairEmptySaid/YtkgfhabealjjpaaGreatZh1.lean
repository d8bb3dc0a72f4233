/- Texts of the proof, put together and shortened. No condition. -/
import Derived.Test.YtkgfhabealjjpaaGreatZh0
set_option maxRecDepth 100000
set_option maxHeartbeats 16000000
set_option linter.unusedVariables false
set_option linter.unusedSectionVars false
set_option linter.unusedSimpArgs false
namespace Go.Proofs.YtkgfhabealjjpaaGreat
variable (Fr : Nat → Prop) (w : World)
namespace Vg
open Go
abbrev Env:=List (Nat×Value)
def look:Env→Nat→Option Value
 | [],_=>none
 | (s,v)::r,t=>bif Nat.beq s t then some v else look r t
def ev(e:Env):Operand→Option Value
 | .tmp t=>look e t
 | .const v=>some v
 | .global g=>some (.pointer (some ⟨g,0,none⟩))
 | .func f=>some (.func (.func f) #[] #[])
def fy(e:Env):List Operand→Option (List Value)
 | []=>some []
 | x::r=>match ev e x,fy e r with
  | some v,some vs=>some (v::vs)
  | _,_=>none
structure dO(n:Nat)(a:Act)(e:Env):Prop where
 size:a.tmps.size=n
 defers:a.defers=[]
 at_:∀t v,look e t=some v→a.tmps.getD t undef=v
theorem dO.put{n:Nat}{a:Act}{e:Env}(h:dO n a e){d:Nat}(hd:Nat.blt d n=true)(v:Value):dO n (a.put (some d) v) ((d,v)::e):=by
 have hd':d<a.tmps.size:=by rw[h.size];exact Nat.blt_eq.mp hd
 refine⟨by simp[Act.put,h.size],by simp[Act.put,h.defers],fun t u ht=>?_⟩
 simp only[look] at ht
 cases hb:Nat.beq d t
 ·rw[hb] at ht
  have hne:d≠t:=Nat.ne_of_beq_eq_false hb
  have:=h.at_ t u ht
  simpa[Act.put,Bl hne] using this
 ·rw[hb] at ht
  have he:d=t:=o7 hb
  subst he
  simp only[cond_true,Option.some.injEq] at ht
  subst ht
  simp[Act.put,hd']
def bX(dst:Option Tmp)(v:Value)(e:Env):Env:=
 match dst with
 | some d=>(d,v)::e
 | none=>e
def cL(n:Nat):Option Tmp→Bool
 | some d=>Nat.blt d n
 | none=>true
theorem dO.bX{n:Nat}{a:Act}{e:Env}(h:dO n a e){dst:Option Tmp}(hd:cL n dst=true)(v:Value):dO n (a.put dst v) (bX dst v e):=by
 cases dst with
 | none=>exact h
 | some d=>exact h.put hd v
def Sub(e' e:Env):Prop:=∀t v,look e' t=some v→look e t=some v
theorem Sub.nil(e:Env):Sub [] e:=fun _ _ h=>by cases h
theorem Sub.cons{e' e:Env}{t:Nat}{v:Value}(h:look e t=some v)(hs:Sub e' e):Sub ((t,v)::e') e:=fun s u hu=>by
 simp only[look] at hu
 cases hb:Nat.beq t s
 ·rw[hb] at hu;exact hs s u hu
 ·rw[hb] at hu
  have he:t=s:=o7 hb
  subst he
  simp only[cond_true,Option.some.injEq] at hu
  subst hu;exact h
theorem aP{e' e:Env}(h:Sub e' e:=by(repeat(first|exact Sub.nil _|refine Sub.cons rfl ?_))):Sub e' e:=h
theorem Sub.int{e' e:Env}{t:Nat}{k:IntKind}{a b:Int}(h:look e t=some (.int k a))(hab:a=b)(hs:Sub e' e):Sub ((t,.int k b)::e') e:=by
 subst hab;exact Sub.cons h hs
theorem dO.sub{n:Nat}{a:Act}{e e':Env}(h:dO n a e)(hs:Sub e' e):dO n a e':=⟨h.size,h.defers,fun t v ht=>h.at_ t v (hs t v ht)⟩
theorem dO.ev{n:Nat}{a:Act}{e:Env}(h:dO n a e){x:Operand}{v:Value}(hx:ev e x=some v):a.eval x=v:=by
 cases x with
 | tmp t=>exact h.at_ t v hx
 | const u=>simpa[Vg.ev,Act.eval] using hx
 | global g=>simpa[Vg.ev,Act.eval] using hx
 | func f=>simpa[Vg.ev,Act.eval] using hx
theorem dO.fy{n:Nat}{a:Act}{e:Env}(h:dO n a e):∀{xs:List Operand} {vs:List Value},fy e xs=some vs→xs.map a.eval=vs
 | [],vs,hx=>by simpa[Vg.fy] using hx
 | x::r,vs,hx=>by
  simp only[Vg.fy] at hx
  split at hx
  ·rename_i v us hv hus
   simp only[Option.some.injEq] at hx
   subst hx
   simp[h.ev hv,dO.fy h hus]
  ·cases hx
structure HP where
 sat:List Nat→World→Prop
 loc:∀ids w w',(∀b∈ids,w'.heap[b]?=w.heap[b]?)→sat ids w→sat ids w'
def ei:List HP→List Nat→World→Prop
 | [],F,_=>F=[]
 | H::L,F,w=>∃i G,F=i++G∧H.sat i w∧ei L G w
theorem ei.loc:∀{L:List HP} {F:List Nat} {w w':World},(∀b∈F,w'.heap[b]?=w.heap[b]?)→ei L F w→ei L F w'
 | [],_,_,_,_,h=>h
 | H::L,F,w,w',hb,⟨i,G,hF,hi,hG⟩=>by
  subst hF
  exact⟨i,G,Z,H.loc i w w' (fun b hb'=>hb b (by simp[hb'])) hi,ei.loc (fun b hb'=>hb b (by simp[hb'])) hG⟩
theorem ei.append:∀{L M:List HP} {F:List Nat} {w:World},ei (L++M) F w↔∃G K,F=G++K∧ei L G w∧ei M K w
 | [],M,F,w=>by
  constructor
  ·intro h;exact⟨[],F,rfl,rfl,h⟩
  ·rintro⟨G,K,rfl,hG,hK⟩;cases hG;exact hK
 | H::L,M,F,w=>by
  simp only[rX,ei]
  constructor
  ·rintro⟨i,G,rfl,hi,hG⟩
   obtain⟨G1,K,rfl,h1,h2⟩:=ei.append.1 hG
   exact⟨i++G1,K,by simp,⟨i,G1,Z,hi,h1⟩,h2⟩
  ·rintro⟨_,K,rfl,⟨i,G,rfl,hi,hG⟩,hK⟩
   exact⟨i,G++K,by simp,hi,ei.append.2 ⟨G,K,Z,hG,hK⟩⟩
theorem ei.perm{L M:List HP}(hp:L.Perm M):∀{F:List Nat} {w:World},ei L F w→∃G,F.Perm G∧ei M G w:=by
 induction hp with
 | nil=>intro F w h;exact⟨F,.refl _,h⟩
 | cons x _ ih=>
  rintro F w ⟨i,G,rfl,hi,hG⟩
  obtain⟨K,hK,hs⟩:=ih hG
  exact⟨i++K,hK.append_left i,i,K,Z,hi,hs⟩
 | swap x y l=>
  rintro F w ⟨i,G,rfl,hi,j,K,rfl,hj,hK⟩
  refine⟨j++(i++K),?_,j,i++K,Z,hj,i,K,Z,hi,hK⟩
  rw[←eL,←eL]
  exact List.Perm.append_right K jL
 | trans _ _ ih1 ih2=>
  intro F w h
  obtain⟨G,hG,h1⟩:=ih1 h
  obtain⟨K,hK,h2⟩:=ih2 h1
  exact⟨K,hG.trans hK,h2⟩
def Sat(Fr:Nat→Prop)(L:List HP)(w:World):Prop:=∃F,ei L F w∧F.Nodup∧∀b∈F,¬Fr b∧b<w.heap.size
theorem Sat.perm{Fr:Nat→Prop}{L M:List HP}{w:World}(hp:L.Perm M)(h:Sat Fr L w):Sat Fr M w:=by
 obtain⟨F,hs,hn,hb⟩:=h
 obtain⟨G,hG,hs'⟩:=hs.perm hp
 exact⟨G,hs',hG.nodup_iff.1 hn,fun b h=>hb b (hG.mem_iff.2 h)⟩
theorem Sat.nil{Fr:Nat→Prop}{w:World}:Sat Fr [] w:=⟨[],rfl,.nil,fun _ h=>by cases h⟩
theorem Sat.tail{Fr:Nat→Prop}{H:HP}{L:List HP}{w:World}(h:Sat Fr (H::L) w):Sat Fr L w:=by
 obtain⟨F,⟨i,G,rfl,_,hG⟩,hn,hb⟩:=h
 exact⟨G,hG,(ja.1 hn).2.1,fun b h=>hb b ya⟩
abbrev wj(w w':World):Prop:=w.drawn≤w'.drawn
theorem wj.up{w w':World}(h:w.drawn≤w'.drawn):wj w w':=h
structure dG(Fr:Nat→Prop)(w w':World):Prop where
 os:w'.os=w.os
 tape:w'.tape=w.tape
 output:w'.output=w.output
 size:w.heap.size≤w'.heap.size
 block:∀b,Fr b→w'.heap[b]?=w.heap[b]?
 drawn:wj w w'
theorem dG.refl:dG Fr w w:=⟨rfl,rfl,rfl,NR _,fun _ _=>rfl,NR _⟩
theorem dG.trans{Fr:Nat→Prop}{a b c:World}(h:dG Fr a b)(k:dG Fr b c):dG Fr a c:=
 ⟨k.os.trans h.os,k.tape.trans h.tape,k.output.trans h.output,pQ h.size k.size,fun b hb=>(k.block b hb).trans (h.block b hb),pQ h.drawn k.drawn⟩
theorem dG.mono{Fr Fr':Nat→Prop}{a b:World}(h:dG Fr' a b)(hf:∀x,Fr x→Fr' x):dG Fr a b:=⟨h.os,h.tape,h.output,h.size,fun x hx=>h.block x (hf x hx),h.drawn⟩
theorem dG.drew:dG Fr w { w with drawn:=w.drawn+1 }:=⟨rfl,rfl,rfl,NR _,fun _ _=>rfl,wj.up (tv _)⟩
theorem dG.alloc{Fr:Nat→Prop}{w:World}(hf:∀b,Fr b→b<w.heap.size)(o:Obj):dG Fr w (w.alloc o):=
 ⟨rfl,rfl,rfl,by simp,fun b hb=>heap_alloc_old w o (h:=hf b hb),NR _⟩
theorem dG.below{w w':World}(h:dG (fun b=>b<w.heap.size) w w'):RowKit.Below w.heap.size w w':=⟨h.os,h.tape,h.output,h.size,h.block⟩
theorem Sat.heap{Fr:Nat→Prop}{L:List HP}{w w':World}(hh:w'.heap=w.heap)(h:Sat Fr L w):Sat Fr L w':=by
 obtain⟨F,hs,hn,hb⟩:=h
 exact⟨F,hs.loc (fun b _=>by rw[hh]),hn,fun b h=>by rw[hh];exact hb b h⟩
theorem Sat.alloc{Fr:Nat→Prop}{L:List HP}{w:World}(hf:∀b,Fr b→b<w.heap.size)(o:Obj)(H:HP)(hH:H.sat [w.heap.size] (w.alloc o))(h:Sat Fr L w):Sat Fr (H::L) (w.alloc o):=by
 obtain⟨F,hs,hn,hb⟩:=h
 refine⟨[w.heap.size]++F,⟨_,F,Z,hH,hs.loc fun b hb'=>heap_alloc_old w o (h:=(hb b hb').2)⟩,?_,?_⟩
 ·rw[ja]
  refine⟨by simp,hn,fun x hx y hy he=>?_⟩
  simp at hx;subst hx;subst he
  exact Nat.lt_irrefl _ (hb _ hy).2
 ·intro b hb'
  simp only[ez,eA] at hb'
  rcases hb' with rfl | hb'
  ·exact⟨fun h=>Nat.lt_irrefl _ (hf _ h),by simp⟩
  ·exact⟨(hb b hb').1,by have:=(hb b hb').2;simp;omega⟩
def pt(b:Nat)(cs:List Value)(t:TypeId):HP:=
 ⟨fun ids w=>ids=[b]∧w.heap[b]?=some (.cells cs.toArray t (0,0)),fun _ _ _ h hs=>⟨hs.1,(h b yb).trans hs.2⟩⟩
def kO(φ:Prop):HP:=⟨fun ids _=>ids=[]∧φ,fun _ _ _ _ h=>h⟩
def hex{α:Type}(f:α→HP):HP:=⟨fun ids w=>∃x,(f x).sat ids w,fun ids w w' hb ⟨x,hx⟩=>⟨x,(f x).loc ids w w' hb hx⟩⟩
def cR(L:List HP):HP:=⟨fun ids w=>ei L ids w,fun _ _ _ hb h=>h.loc hb⟩
inductive BD where
 | int (k:IntKind) | bool | string | ptr (e:Nat) | slice (e:Nat) | array (len e:Nat) | struct (fs:List (Nat×Nat)) | other
structure TI where
 aJ:BD
 size:Nat
 bytes:Nat
 zero:Value
 zs:List Value:=[zero]
def BD.agg:BD→Bool
 | .array _ _=>true
 | .struct _=>true
 | _=>false
def oz(P:Program)(t:Nat):Option BD:=
 match P.underlying t with
 | some (.int k)=>some (.int k)
 | some .bool=>some .bool
 | some .string=>some .string
 | some (.pointer e)=>some (.ptr e)
 | some (.slice e)=>some (.slice e)
 | some (.array n e)=>some (.array n e)
 | some (.struct fs)=>some (.struct (fs.toList.map fun f=>(f.offset,((P.info? f.type).map (·.size)).getD 0)))
 | some _=>some .other
 | none=>none
structure aS(P:Program)(t:Nat)(ti:TI):Prop where
 aJ:oz P t=some ti.aJ
 info:(P.info? t).map (fun i=>(i.size,i.bytes,i.zero))=some (ti.size,ti.bytes,some ti.zero)
 zero:ti.zero.cells=ti.zs.toArray
 len:ti.zs.length=ti.size
abbrev m_:=List (Nat×TI)
def pR(P:Program)(tab:m_):Prop:=∀p∈tab,aS P p.1 p.2
def bS:m_→Nat→Option TI
 | [],_=>none
 | (s,v)::r,t=>bif Nat.beq s t then some v else bS r t
theorem pR.look{P:Program}:∀{tab:m_},pR P tab→∀{t:Nat} {ti:TI},bS tab t=some ti→aS P t ti
 | [],_,_,_,h=>by cases h
 | (s,v)::r,ok,t,ti,h=>by
  simp only[bS] at h
  cases hb:Nat.beq s t
  ·rw[hb] at h;exact pR.look (tab:=r) (fun p hp=>ok p (i_ _ hp)) h
  ·rw[hb] at h
   have he:s=t:=o7 hb
   subst he
   simp only[cond_true,Option.some.injEq] at h
   subst h
   exact ok _ (mW ..)
structure Cx where
 P:Program
 tab:m_
 ok:pR P tab
 n:Nat
 Fr:Nat→Prop
 w0:World
structure St(X:Cx)(L:List HP)(w:World):Prop where
 sat:Sat X.Fr L w
 cS:dG X.Fr X.w0 w
 low:∀b,X.Fr b→b<X.w0.heap.size
theorem St.me{X:Cx}{L:List HP}{w:World}(h:St X L w):∀b,X.Fr b→b<w.heap.size:=fun b hb=>we (h.low b hb) h.cS.size
theorem St.heap{X:Cx}{L:List HP}{w w':World}(h:St X L w)(hh:w'.heap=w.heap)(ho:w'.os=w.os)(ht:w'.tape=w.tape)(hu:w'.output=w.output)(hd:wj w w'):St X L w':=
 ⟨h.sat.heap hh,⟨ho.trans h.cS.os,ht.trans h.cS.tape,hu.trans h.cS.output,by rw[hh];exact h.cS.size,fun b hb=>by rw[hh];exact h.cS.block b hb,pQ h.cS.drawn hd⟩,h.low⟩
theorem St.drew{X:Cx}{L:List HP}{w:World}(h:St X L w):St X L { w with drawn:=w.drawn+1 }:=h.heap rfl rfl rfl rfl (wj.up (tv _))
def dq(X:Cx)(L M:List HP):Prop:=∀w,St X L w→St X M w
abbrev GS:=List (Nat×Bool)
def qf:GS→Nat→Option Bool
 | [],_=>none
 | (s,v)::r,t=>bif Nat.beq s t then some v else qf r t
def nT(G:GS)(a:Act):Prop:=∀t b,qf G t=some b→a.tmps[t]?=some (.bool b)
def cD(G:GS):Option Tmp→Bool
 | none=>true
 | some d=>match qf G d with
  | none=>true
  | some _=>false
theorem nT.nil(a:Act):nT [] a:=fun _ _ h=>by cases h
theorem nT.put{G:GS}{a:Act}(h:nT G a){dst:Option Tmp}(hf:cD G dst=true)(v:Value):nT G (a.put dst v):=fun t b ht=>by
 cases dst with
 | none=>exact h t b ht
 | some d=>
  have hne:d≠t:=fun he=>by subst he;simp[cD,ht] at hf
  simp only[Act.put]
  rw[Bl hne]
  exact h t b ht
def gB:Bool→Bool→Bool
 | true,true=>true
 | false,false=>true
 | _,_=>false
def cy(ops:Array Oper)(G:GS):Option (Nat×Bool)→Option Bool
 | none=>some true
 | some (j,want)=>match ops.toList[j]? with
  | some oj=>match oj.dst with
   | some d=>match qf G d with
    | some b=>some (gB b want)
    | none=>none
   | none=>none
  | none=>none
theorem pj{ops:Array Oper}{G:GS}{a:Act}{o:Oper}{b:Bool}(hG:nT G a)(h:cy ops G o.guard=some b):Region.wanted o (yielded ops a.tmps)=b:=by
 unfold Region.wanted
 cases hg:o.guard with
 | none=>rw[hg] at h;simpa[cy] using h
 | some jw=>
  obtain⟨j,want⟩:=jw
  rw[hg] at h
  simp only[cy] at h
  cases hj:ops.toList[j]? with
  | none=>rw[hj] at h;cases h
  | some oj=>
   rw[hj] at h
   cases hd:oj.dst with
   | none=>simp[hd] at h
   | some d=>
    simp only[hd] at h
    cases hl:qf G d with
    | none=>rw[hl] at h;cases h
    | some c=>
     rw[hl] at h
     have hy:yielded ops a.tmps j=some c:=by
      unfold yielded
      have hj':ops[j]?=some oj:=by simpa using hj
      simp[hj',hd,hG d c hl]
     simp only[hy]
     cases c<;>cases want<;>simp_all[gB]
def wR(ro:Option Nat):Fence:={ Fence.wide with round:=ro }
def VC(X:Cx)(c:Code)(e:Env)(L:List HP)(Q:Exit→Env→List HP→Prop):Prop:=
 ∀ro a w,dO X.n a e→St X L w→c.wpIn (wR ro) 0 X.P (fun x a' w'=>∃e' L',dO X.n a' e'∧St X L' w'∧Q x e' L') a w
def VO(X:Cx)(ops:Array Oper)(G:GS)(l:List Oper)(e:Env)(L:List HP)(K:Env→List HP→Prop):Prop:=
 ∀(Q':Exit→Act→World→Prop),(∀e' L' a' w',dO X.n a' e'→St X L' w'→K e' L'→Q' .normal a' w') →
  ∀ro a w,dO X.n a e→nT G a→St X L w→wpListIn (wR ro) 0 X.P ops Q' l a w
def tz(P:Program)(f:FuncId):Prop:=∃fn,P.funcs[f]?=some fn∧fn.body.isNone=false∧(fn.name == "runtime.NumGoroutine")=false
structure az(P:Program)(f:FuncId)(args:List Value)(Fr:Nat→Prop)(w:World)(L:List HP)(R:Value→List HP→Prop):Prop where
 BT:tz P f
 calls:(∀b,Fr b→b<w.heap.size)→Sat Fr L w→Calls P f args.toArray w fun e w'=>∃v L',e=.returned v∧R v L'∧Sat Fr L' w'∧dG Fr w w'
def aQ(X:Cx)(op:Op)(e:Env)(L:List HP)(M:Value→List HP→Prop):Prop:=
 ∀a w,dO X.n a e→St X L w→∀dst ty pos after guard,
  (∃v w' L',(execOp a.eval ⟨dst,op,ty,pos,after,guard⟩).run X.P w=.ok (.value v) w'∧M v L'∧St X L' w') ∨
  (∃w' L',(execOp a.eval ⟨dst,op,ty,pos,after,guard⟩).run X.P w=.ok .skip w'∧M undef L'∧St X L' w') ∨
  (∃f args,(execOp a.eval ⟨dst,op,ty,pos,after,guard⟩).run X.P w=.ok (.enter f args) w ∧
   Calls X.P f args w fun en w'=>∃v L',en=.returned v∧M v L'∧St X L' w')
theorem VS{X:Cx}{op:Op}{e:Env}{L:List HP}{M:Value→List HP→Prop}(h:aQ X op e L M){a:Act}{w:World}(ha:dO X.n a e)(hw:St X L w):∀c,op≠.defer c:=by
 rintro c rfl
 have key:∀dst ty pos after guard x w',(execOp a.eval ⟨dst,.defer c,ty,pos,after,guard⟩).run X.P w=.ok x w'→∃d,x=.defer d:=fun dst ty pos after guard x w' hr=>by
  have e:execOp a.eval ⟨dst,.defer c,ty,pos,after,guard⟩=(do pure (.defer (←resolve a.eval c ty))):=rfl
  rw[e,Sem.run_bind] at hr
  cases h2:(resolve a.eval c ty).run X.P w with
  | ok d w2=>rw[h2] at hr;cases hr;exact⟨d,rfl⟩
  | halt y w2=>rw[h2] at hr;cases hr
 rcases h a w ha hw none 0 "" #[] none with ⟨v,w',L',hr,-⟩ | ⟨w',L',hr,-⟩ | ⟨f,args,hr,-⟩
 ·obtain⟨d,h⟩:=key _ _ _ _ _ _ _ hr;cases h
 ·obtain⟨d,h⟩:=key _ _ _ _ _ _ _ hr;cases h
 ·obtain⟨d,h⟩:=key _ _ _ _ _ _ _ hr;cases h
theorem GX(ro:Option Nat)(ρ:Operand→Value)(o:Oper)(h:∀c,o.op≠.defer c):o.semAt (wR ro).round ρ=execOp ρ o:=by
 cases ro with
 | none=>rfl
 | some l=>exact Oper.semAt_some l ρ o h
theorem Rw{ro:Option Nat}{n:Nat}{P:Program}{f:FuncId}{args:Array Value}{w:World}{R:Ending→World→Prop}(h:Calls P f args w R):CallsIn (wR ro) n P f args w R:=
 show CallsIn Fence.wide n P f args w R from callsIn_wide.2 h
theorem aQ.wp{X:Cx}{o:Oper}{e:Env}{L:List HP}{M:Value→List HP→Prop}(h:aQ X o.op e L M){a:Act}{w:World}(ha:dO X.n a e)(hw:St X L w){ro:Option Nat}
  {next:Act→World→Prop} {Q:Exit→Act→World→Prop} (hn:∀v L' w',M v L'→St X L' w'→next (a.put o.dst v) w'):o.wpIn (wR ro) 0 X.P a w next Q:=by
 refine⟨fun _ _=>trivial,?_⟩
 rw[GX ro _ _ (VS h ha hw)]
 rcases h a w ha hw o.dst o.type o.pos o.after o.guard with ⟨v,w',L',hr,hm,hs⟩ | ⟨w',L',hr,hm,hs⟩ | ⟨f,args,hr,hc⟩
 ·rw[hr];exact hn v L' w' hm hs
 ·rw[hr];exact hn undef L' w' hm hs
 ·rw[hr]
  refine⟨(fun h=>by cases h),Rw (Calls.mono hc fun en w' ⟨v,L',he,hm,hs⟩=>?_)⟩
  subst he
  exact hn v L' w' hm hs
theorem VO.op{X:Cx}{ops:Array Oper}{G:GS}{o:Oper}{l:List Oper}{e:Env}{L:List HP}{K:Env→List HP→Prop}{M:Value→List HP→Prop}
  (hg:cy ops G o.guard=some true) (hd:cL X.n o.dst=true) (hf:cD G o.dst=true) (h:aQ X o.op e L M)
  (hk:∀v L',M v L'→VO X ops G l (bX o.dst v e) L' K):VO X ops G (o::l) e L K:=by
 intro Q' hQ ro a w ha hG hw
 unfold wpListIn
 rw[if_pos (pj hG hg)]
 refine h.wp ha hw fun v L' w' hm hs=>?_
 exact hk v L' hm Q' hQ _ _ _ (ha.bX hd v) (hG.put hf v) hs
theorem VO.off{X:Cx}{ops:Array Oper}{G:GS}{o:Oper}{l:List Oper}{e:Env}{L:List HP}{K:Env→List HP→Prop}
  (hg:cy ops G o.guard=some false) (hd:cL X.n o.dst=true) (hf:cD G o.dst=true)
  (hk:VO X ops G l (bX o.dst undef e) L K):VO X ops G (o::l) e L K:=by
 intro Q' hQ ro a w ha hG hw
 unfold wpListIn
 rw[if_neg (by rw[pj hG hg];simp)]
 exact Ou
theorem VO.nil{X:Cx}{ops:Array Oper}{G:GS}{e:Env}{L:List HP}{K:Env→List HP→Prop}(h:K e L):VO X ops G [] e L K:=
 fun _ hQ _ _ _ ha _ hw=>hQ _ _ _ _ ha hw h
theorem VO.split{X:Cx}{ops:Array Oper}{G:GS}{l:List Oper}{e:Env}{L:List HP}{K:Env→List HP→Prop}(d:Nat){b:Bool}(hb:look e d=some (.bool b))(hd:Nat.blt d X.n=true)
  (ht:b=true→VO X ops ((d,true)::G) l ((d,.bool true)::e) L K) (hf:b=false→VO X ops ((d,false)::G) l ((d,.bool false)::e) L K):VO X ops G l e L K:=by
 intro Q' hQ ro a w ha hG hw
 have hs:a.tmps[d]?=some (.bool b):=by
  have:=ha.at_ d _ hb
  have hlt:d<a.tmps.size:=by rw[ha.size];exact Nat.blt_eq.mp hd
  simpa[hlt] using this
 have key:∀c,b=c→dO X.n a ((d,.bool c)::e)∧nT ((d,c)::G) a:=fun c hc=>by
  subst hc
  refine⟨⟨ha.size,ha.defers,fun t u ht=>?_⟩,fun t u ht=>?_⟩
  ·simp only[look] at ht
   cases hq:Nat.beq d t
   ·rw[hq] at ht;exact ha.at_ t u ht
   ·rw[hq] at ht
    have:=o7 hq
    subst this
    simp only[cond_true,Option.some.injEq] at ht
    subst ht;exact ha.at_ _ _ hb
  ·simp only[qf] at ht
   cases hq:Nat.beq d t
   ·rw[hq] at ht;exact hG t u ht
   ·rw[hq] at ht
    have:=o7 hq
    subst this
    simp only[cond_true,Option.some.injEq] at ht
    subst ht;exact hs
 cases b
 ·exact hf Z Q' hQ ro a w (key _ Z).1 (key _ Z).2 hw
 ·exact ht Z Q' hQ ro a w (key _ Z).1 (key _ Z).2 hw
theorem VO.ah{X:Cx}{ops:Array Oper}{G:GS}{l:List Oper}{e:Env}{L L':List HP}{K:Env→List HP→Prop}(hs:dq X L L')(h:VO X ops G l e L' K):VO X ops G l e L K:=
 fun Q' hQ ro a w ha hG hw=>h Q' hQ ro a w ha hG (hs w hw)
theorem VC.mono{X:Cx}{c:Code}{e:Env}{L:List HP}{Q Q':Exit→Env→List HP→Prop}(h:VC X c e L Q)(hq:∀x e L,Q x e L→Q' x e L):VC X c e L Q':=
 fun ro a w ha hw=>wpIn_mono (h ro a w ha hw) fun _ _ _ ⟨e',L',h1,h2,h3⟩=>⟨e',L',h1,h2,hq _ _ _ h3⟩
theorem VC.sub{X:Cx}{c:Code}{e e':Env}{L:List HP}{Q:Exit→Env→List HP→Prop}(hs:Sub e' e)(h:VC X c e' L Q):VC X c e L Q:=
 fun ro a w ha hw=>h ro a w (ha.sub hs) hw
theorem VC.ah{X:Cx}{c:Code}{e:Env}{L L':List HP}{Q:Exit→Env→List HP→Prop}(hs:dq X L L')(h:VC X c e L' Q):VC X c e L Q:=
 fun ro a w ha hw=>h ro a w ha (hs w hw)
def Nf(X:Cx)(c:Code)(Q:Exit→Env→List HP→Prop):Exit→Env→List HP→Prop
 | .normal,e,L=>VC X c e L Q
 | x,e,L=>Q x e L
def Js(id:Nat)(Q:Exit→Env→List HP→Prop):Exit→Env→List HP→Prop
 | .exit j,e,L=>bif Nat.beq j id then Q .normal e L else Q (.exit j) e L
 | x,e,L=>Q x e L
theorem VC.skip{X:Cx}{e:Env}{L:List HP}{Q:Exit→Env→List HP→Prop}(h:Q .normal e L):VC X .skip e L Q:=fun _ _ _ ha hw=>wpIn_skip ⟨e,L,ha,hw,h⟩
theorem VC.label{X:Cx}{l:Nat}{e:Env}{L:List HP}{Q:Exit→Env→List HP→Prop}(h:Q .normal e L):VC X (.label l) e L Q:=fun _ _ _ ha hw=>wpIn_label ⟨e,L,ha,hw,h⟩
theorem VC.exit{X:Cx}{id:Nat}{e:Env}{L:List HP}{Q:Exit→Env→List HP→Prop}(h:Q (.exit id) e L):VC X (.exit id) e L Q:=fun _ _ _ ha hw=>wpIn_exit ⟨e,L,ha,hw,h⟩
theorem VC.ret{X:Cx}{e:Env}{L:List HP}{Q:Exit→Env→List HP→Prop}(h:Q .ret e L):VC X .ret e L Q:=fun _ _ _ ha hw=>wpIn_ret ⟨e,L,ha,hw,h⟩
theorem VC.seq{X:Cx}{b c:Code}{e:Env}{L:List HP}{Q:Exit→Env→List HP→Prop}(h:VC X b e L (Nf X c Q)):VC X (.seq b c) e L Q:=by
 intro ro a w ha hw
 refine wpIn_seq (wpIn_mono (h ro a w ha hw) fun x a' w' ⟨e',L',h1,h2,h3⟩=>?_)
 cases x with
 | normal=>exact h3 ro a' w' h1 h2
 | exit id=>exact⟨e',L',h1,h2,h3⟩
 | goto l=>exact⟨e',L',h1,h2,h3⟩
 | ret=>exact⟨e',L',h1,h2,h3⟩
 | panic ch=>exact⟨e',L',h1,h2,h3⟩
 | outgrown=>exact⟨e',L',h1,h2,h3⟩
theorem VC.cond{X:Cx}{x:Operand}{b c:Code}{e:Env}{L:List HP}{Q:Exit→Env→List HP→Prop}{t:Bool}(hx:ev e x=some (.bool t))
  (ht:t=true→VC X b e L Q) (hf:t=false→VC X c e L Q):VC X (.cond x b c) e L Q:=
 fun ro a w ha hw=>wpIn_cond_split (ha.ev hx) (fun h=>ht h ro a w ha hw) (fun h=>hf h ro a w ha hw)
theorem VC.block{X:Cx}{id:Nat}{c:Code}{e:Env}{L:List HP}{Q:Exit→Env→List HP→Prop}(h:VC X c e L (Js id Q)):VC X (.block id c) e L Q:=by
 intro ro a w ha hw
 refine wpIn_block (wpIn_mono (h ro a w ha hw) fun x a' w' ⟨e',L',h1,h2,h3⟩=>?_)
 cases x with
 | exit j=>
  simp only[Exit.inBlock]
  simp only[Js] at h3
  cases hb:Nat.beq j id
  ·rw[hb] at h3
   rw[if_neg (Nat.ne_of_beq_eq_false hb)]
   exact⟨e',L',h1,h2,h3⟩
  ·rw[hb] at h3
   rw[if_pos (o7 hb)]
   exact⟨e',L',h1,h2,h3⟩
 | normal=>exact⟨e',L',h1,h2,h3⟩
 | goto l=>exact⟨e',L',h1,h2,h3⟩
 | ret=>exact⟨e',L',h1,h2,h3⟩
 | panic ch=>exact⟨e',L',h1,h2,h3⟩
 | outgrown=>exact⟨e',L',h1,h2,h3⟩
theorem VC.region{X:Cx}{id:Nat}{l:List Oper}{e:Env}{L:List HP}{Q:Exit→Env→List HP→Prop}(h:VO X l.toArray [] l e L (Q .normal)):VC X (.region id l.toArray false) e L Q:=
 fun ro a w ha hw=>wpIn_region_lit (h _ (fun e' L' _ _ h1 h2 h3=>⟨e',L',h1,h2,h3⟩) ro a w ha (nT.nil a) hw)
def UG(X:Cx){σ:Type}(E:σ→Env)(H:σ→List HP)(I:σ→Prop)(μ:σ→Nat)(s:σ)(Q:Exit→Env→List HP→Prop):Exit→Env→List HP→Prop
 | .normal,e,L=>∃s',I s'∧μ s'<μ s∧Sub (E s') e∧dq X L (H s')
 | x,e,L=>Q x e L
theorem VC.loop{X:Cx}{σ:Type}(E:σ→Env)(H:σ→List HP)(I:σ→Prop)(μ:σ→Nat)(s0:σ){c:Code}{e:Env}{L:List HP}{Q:Exit→Env→List HP→Prop}
  (h0:I s0) (he:Sub (E s0) e) (hl:dq X L (H s0)) (round:∀s,I s→VC X c (E s) (H s) (UG X E H I μ s Q)):VC X (.loop c) e L Q:=by
 intro ro a w ha hw
 refine wpIn_loop_ghost (fun m a w=>∃s,μ s=m∧I s∧dO X.n a (E s)∧St X (H s) w) (μ s0) ⟨s0,Z,h0,ha.sub he,hl _ hw⟩ ?_
 rintro m a w ⟨s,rfl,hI,ha,hw⟩
 refine wpIn_mono (round s hI ro a w ha hw) fun x a' w' ⟨e',L',h1,h2,h3⟩=>?_
 cases x with
 | normal=>
  obtain⟨s',hI',hlt,hE,hH⟩:=h3
  exact⟨μ s',hlt,s',Z,hI',h1.sub hE,hH _ h2⟩
 | exit id=>exact⟨e',L',h1,h2,h3⟩
 | goto l=>exact⟨e',L',h1,h2,h3⟩
 | ret=>exact⟨e',L',h1,h2,h3⟩
 | panic ch=>exact⟨e',L',h1,h2,h3⟩
 | outgrown=>exact⟨e',L',h1,h2,h3⟩
end Vg
namespace Vg
open Go
def Ck:Env→Nat→(Value→Prop)→Prop→Prop
 | [],_,_,kf=>kf
 | (s,v)::r,t,k,kf=>bif Nat.beq s t then k v else Ck r t k kf
theorem K8{k:Value→Prop}{kf:Prop}:∀{e:Env} {t:Nat},Ck e t k kf→(∃v,look e t=some v∧k v)∨kf
 | [],_,h=>.inr h
 | (s,v)::r,t,h=>by
  simp only[Ck] at h
  simp only[look]
  cases hb:Nat.beq s t
  ·rw[hb] at h;exact K8 h
  ·rw[hb] at h;exact .inl ⟨v,rfl,h⟩
def lY(e:Env)(x:Operand)(k:Value→Prop)(kf:Prop):Prop:=
 match x with
 | .tmp t=>Ck e t k kf
 | .const v=>k v
 | .global g=>k (.pointer (some ⟨g,0,none⟩))
 | .func f=>k (.func (.func f) #[] #[])
theorem mK{e:Env}{x:Operand}{k:Value→Prop}{kf:Prop}(h:lY e x k kf):(∃v,ev e x=some v∧k v)∨kf:=by
 cases x with
 | tmp t=>exact K8 h
 | const v=>exact .inl ⟨v,rfl,h⟩
 | global g=>exact .inl ⟨_,rfl,h⟩
 | func f=>exact .inl ⟨_,rfl,h⟩
def uu:m_→Nat→(TI→Prop)→Prop→Prop
 | [],_,_,kf=>kf
 | (s,v)::r,t,k,kf=>bif Nat.beq s t then k v else uu r t k kf
theorem xE{k:TI→Prop}{kf:Prop}:∀{e:m_} {t:Nat},uu e t k kf→(∃v,bS e t=some v∧k v)∨kf
 | [],_,h=>.inr h
 | (s,v)::r,t,h=>by
  simp only[uu] at h
  simp only[bS]
  cases hb:Nat.beq s t
  ·rw[hb] at h;exact xE h
  ·rw[hb] at h;exact .inl ⟨v,rfl,h⟩
def vf{α:Type}:List α→Nat→(α→Prop)→Prop→Prop
 | [],_,_,kf=>kf
 | x::_,0,k,_=>k x
 | _::r,n+1,k,kf=>vf r n k kf
theorem xh{α:Type}{k:α→Prop}{kf:Prop}:∀{l:List α} {i:Nat},vf l i k kf→(∃v,l[i]?=some v∧k v)∨kf
 | [],_,h=>.inr h
 | x::r,0,h=>.inl ⟨x,rfl,h⟩
 | x::r,n+1,h=>by simpa using xh (l:=r) (i:=n) h
def fN(X:Cx)(op:Op)(e:Env)(v:Value):Prop:=
 ∀a,dO X.n a e→∀dst ty pos after guard w,(execOp a.eval ⟨dst,op,ty,pos,after,guard⟩).run X.P w=.ok (.value v) w
def JQ(op:BinOp)(a b:Int)(k:Value→Prop)(kf:Prop):Prop:=
 match op with
 | .eql=>k (.bool (a == b))
 | .neq=>k (.bool (a != b))
 | .lss=>k (.bool (decide (a<b)))
 | .leq=>k (.bool (decide (a≤b)))
 | .gtr=>k (.bool (decide (b<a)))
 | .geq=>k (.bool (decide (b≤a)))
 | _=>kf
def FJ:IntKind→IntKind→Bool
 | .i64,.i64=>true
 | .u8,.u8=>true
 | .u16,.u16=>true
 | .u64,.u64=>true
 | .i32,.i32=>true
 | .u32,.u32=>true
 | .i8,.i8=>true
 | .i16,.i16=>true
 | _,_=>false
theorem T8{a b:IntKind}(h:FJ a b=true):a=b:=by cases a<;>cases b<;>first | rfl | cases h
def EF(tab:m_)(op:BinOp)(ty:Nat)(x y:Value)(k:Value→Prop)(kf:Prop):Prop:=
 match x,y with
 | .int j a,.int i b=>bif FJ j i then JQ op a b k kf else kf
 | .bool a,.bool b=>uu tab ty (fun ti=>match ti.aJ with
   | .bool=>match op with
    | .eql=>k (.bool (a == b))
    | .neq=>k (.bool (!(a == b)))
    | _=>kf
   | _=>kf) kf
 | .string a,.string b=>match op with
   | .eql=>k (.bool (a.toList == b.toList))
   | .neq=>k (.bool (!(a.toList == b.toList)))
   | _=>kf
 | .pointer a,.pointer none=>uu tab ty (fun ti=>match ti.aJ with
   | .ptr _=>match op,a with
    | .eql,none=>k (.bool true)
    | .eql,some _=>k (.bool false)
    | .neq,none=>k (.bool false)
    | .neq,some _=>k (.bool true)
    | _,_=>kf
   | _=>kf) kf
 | .slice a _ _,.slice none _ _=>uu tab ty (fun ti=>match ti.aJ with
   | .slice _=>match op,a with
    | .eql,none=>k (.bool true)
    | .eql,some _=>k (.bool false)
    | .neq,none=>k (.bool false)
    | .neq,some _=>k (.bool true)
    | _,_=>kf
   | _=>kf) kf
 | _,_=>kf
def xm(tab:m_)(e:Env)(op:Op)(k:Value→Prop)(kf:Prop):Prop:=
 match op with
 | .move x=>lY e x k kf
 | .assign x=>lY e x k kf
 | .nilCheck x=>lY e x (fun v=>match v with
   | .pointer (some a)=>k (.pointer (some a))
   | _=>kf) kf
 | .extract x i=>lY e x (fun v=>match v with
   | .tuple vs=>vf vs.toList i k kf
   | _=>kf) kf
 | .fieldAddr s x f=>lY e x (fun v=>match v with
   | .pointer (some ⟨b,off,none⟩)=>uu tab s (fun ti=>match ti.aJ with
    | .struct fs=>vf fs f (fun p=>match p with
     | (o,sz)=>bif Nat.beq sz 0 then kf else bif Nat.beq o 0 then k (.pointer (some ⟨b,off,none⟩)) else k (.pointer (some ⟨b,off+o,none⟩))) kf
    | _=>kf) kf
   | _=>kf) kf
 | .binOp op ty x y _=>lY e x (fun a=>lY e y (fun b=>EF tab op ty a b k kf) kf) kf
 | .unOp .not _ x=>lY e x (fun v=>match v with
   | .bool b=>k (.bool (!b))
   | _=>kf) kf
 | .pick c a b=>lY e c (fun v=>match v with
   | .bool true=>lY e a k kf
   | .bool false=>lY e b k kf
   | _=>kf) kf
 | .call ⟨.builtin .len,args,tys⟩=>match args.toList,tys.toList with
   | [x],[t]=>lY e x (fun v=>uu tab t (fun ti=>match v with
    | .slice _ n _=>(match ti.aJ with
     | .slice _=>k (.int .i64 n)
     | _=>kf)
    | .string s=>(match ti.aJ with
     | .string=>k (.int .i64 s.size)
     | _=>kf)
    | _=>kf) kf) kf
   | _,_=>kf
 | .call ⟨.builtin .min,args,_⟩=>match args.toList with
   | [x,y]=>lY e x (fun u=>lY e y (fun v=>match u,v with
    | .int i a,.int _ b=>k (.int i (if b<a then b else a))
    | _,_=>kf) kf) kf
   | _=>kf
 | .call ⟨.builtin .max,args,_⟩=>match args.toList with
   | [x,y]=>lY e x (fun u=>lY e y (fun v=>match u,v with
    | .int i a,.int _ b=>k (.int i (if a<b then b else a))
    | _,_=>kf) kf) kf
   | _=>kf
 | _=>kf
section
variable {X:Cx} {e:Env} {k:Value→Prop} {kf:Prop}
theorem Xt{P:Program}{t:Nat}{ti:TI}(h:aS P t ti)(w:World):∃d,P.underlying t=some d∧(underlying t).run P w=.ok d w:=by
 have:=h.aJ
 unfold oz at this
 cases hd:P.underlying t with
 | none=>simp[hd] at this
 | some d=>exact⟨d,rfl,run_underlying hd w⟩
theorem mu{P:Program}{t:Nat}{i:TypeInfo}(hi:P.info? t=some i)(w:World):(sizeOf t).run P w=.ok i.size w:=by
 simp[sizeOf,typeInfo,hi]
theorem Xr{P:Program}{S f:Nat}{flds:Array Field}{fl:Field}{i:TypeInfo}(hund:P.underlying S=some (.struct flds))(hf:flds[f]?=some fl)(hi:P.info? fl.type=some i)(hz:i.size≠0)(b off:Nat)(w:World):
  (Instr.fieldAt S (.pointer (some ⟨b,off,none⟩)) f).run P w=.ok (.pointer (some ⟨b,off+fl.offset,none⟩)) w:=by
 simp[Instr.fieldAt,run_underlying hund,hf,Instr.sureAddr,fieldPlace,mu hi,hz,Addr.add_mid]
theorem run_equal_bool{P:Program}{ty:Nat}(hund:P.underlying ty=some .bool)(c d:Bool)(w:World):(Op.equal ty (.bool c) (.bool d)).run P w=.ok (c == d) w:=by
 unfold Op.equal
 show(Op.equalIn (9999+1) ty (.bool c) (.bool d)).run P w=_
 rw[Op.equalIn,Sem.run_bind,run_underlying hund]
 rfl
theorem M4{P:Program}{ty el:Nat}(hund:P.underlying ty=some (.pointer el))(a:Option Addr)(w:World):(Op.equal ty (.pointer a) (.pointer none)).run P w=.ok a.isNone w:=by
 unfold Op.equal
 show(Op.equalIn (9999+1) ty (.pointer a) (.pointer none)).run P w=_
 rw[Op.equalIn,Sem.run_bind,run_underlying hund]
 cases a<;>rfl
theorem M5{P:Program}{ty el:Nat}(hund:P.underlying ty=some (.slice el))(a:Option Addr)(n m i j:Nat)(w:World):(Op.equal ty (.slice a n m) (.slice none i j)).run P w=.ok a.isNone w:=by
 unfold Op.equal
 show(Op.equalIn (9999+1) ty (.slice a n m) (.slice none i j)).run P w=_
 rw[Op.equalIn,Sem.run_bind,run_underlying hund]
 cases a<;>rfl
theorem Re{op:BinOp}{ty:Nat}{x y:Operand}{yt:Nat}{a b:Value}(hx:ev e x=some a)(hy:ev e y=some b)(h:EF X.tab op ty a b k kf):
    (∃v,fN X (.binOp op ty x y yt) e v∧k v)∨kf:=by
  have E:∀v,(∀w,(do eqGuard op ty x y a b;binOp op ty a b:Sem Value).run X.P w=.ok v w)→fN X (.binOp op ty x y yt) e v:=by
    intro v h a' ha dst t pos after guard w
    simp only[execOp,ha.ev hx,ha.ev hy]
    rw[Sem.run_bind,h w]
    rfl
  unfold EF at h
  split at h
  · rename_i j c i d
    cases hk:FJ j i
    · rw[hk] at h;exact .inr h
    · rw[hk] at h
      have:=T8 hk
      subst this
      simp only[cond_true] at h
      unfold JQ at h
      split at h
      all_goals first
        | exact .inr h
        | (refine .inl ⟨_,E _ (fun w=>?_),h⟩
           simp[eqGuard,binOp,Op.intCmp])
  · rename_i c d
    rcases xE h with ⟨ti,ht,h⟩ | h
    · split at h
      · rename_i hu
        have hund:X.P.underlying ty=some .bool:=by
          have:=(X.ok.look ht).aJ
          rw[hu] at this
          unfold oz at this
          split at this<;>simp_all
        split at h
        · refine .inl ⟨_,E _ (fun w=>?_),h⟩
          show((do pure (.bool (←Op.equal ty (.bool c) (.bool d))):Sem Value)).run X.P w=_
          rw[Sem.run_bind,run_equal_bool hund];rfl
        · refine .inl ⟨_,E _ (fun w=>?_),h⟩
          show((do pure (.bool (!(←Op.equal ty (.bool c) (.bool d)))):Sem Value)).run X.P w=_
          rw[Sem.run_bind,run_equal_bool hund];rfl
        · exact .inr h
      · exact .inr h
    · exact .inr h
  · split at h
    · refine .inl ⟨_,E _ (fun w=>?_),h⟩
      simp[eqGuard,binOp,Op.stringOp]
    · refine .inl ⟨_,E _ (fun w=>?_),h⟩
      simp[eqGuard,binOp,Op.stringOp]
    · exact .inr h
  · rename_i a
    rcases xE h with ⟨ti,ht,h⟩ | h
    · split at h
      · rename_i el hu
        have hund:X.P.underlying ty=some (.pointer el):=by
          have:=(X.ok.look ht).aJ
          rw[hu] at this
          unfold oz at this
          split at this<;>simp_all
        have r1:∀w,((do pure (.bool (←Op.equal ty (.pointer a) (.pointer none))):Sem Value)).run X.P w=.ok (.bool a.isNone) w:=fun w=>by
          rw[Sem.run_bind,M4 hund];rfl
        have r2:∀w,((do pure (.bool (!(←Op.equal ty (.pointer a) (.pointer none)))):Sem Value)).run X.P w=.ok (.bool (!a.isNone)) w:=fun w=>by
          rw[Sem.run_bind,M4 hund];rfl
        split at h
        · exact Dy
        · exact Dy
        · exact Dz
        · exact Dz
        · exact .inr h
      · exact .inr h
    · exact .inr h
  · rename_i a n m i j
    rcases xE h with ⟨ti,ht,h⟩ | h
    · split at h
      · rename_i el hu
        have hund:X.P.underlying ty=some (.slice el):=by
          have:=(X.ok.look ht).aJ
          rw[hu] at this
          unfold oz at this
          split at this<;>simp_all
        have r1:∀w,((do pure (.bool (←Op.equal ty (.slice a n m) (.slice none i j))):Sem Value)).run X.P w=.ok (.bool a.isNone) w:=fun w=>by
          rw[Sem.run_bind,M5 hund];rfl
        have r2:∀w,((do pure (.bool (!(←Op.equal ty (.slice a n m) (.slice none i j)))):Sem Value)).run X.P w=.ok (.bool (!a.isNone)) w:=fun w=>by
          rw[Sem.run_bind,M5 hund];rfl
        split at h
        · exact Dy
        · exact Dy
        · exact Dz
        · exact Dz
        · exact .inr h
      · exact .inr h
    · exact .inr h
  · exact .inr h
theorem M7{P:Program}{t:Nat}{d:TypeDesc}(hd:P.underlying t=some d)(w:World)(x v:Value)
  (h:(d=.string∧∃s,x=.string s∧v=.int .i64 s.size)∨((∃el,d=.slice el)∧∃a n c,x=.slice a n c∧v=.int .i64 n)) (r:Nat):
  (Builtin.len_ #[t] r #[x]).run P w=.ok v w:=by
 rcases h with ⟨rfl,s,rfl,rfl⟩ | ⟨⟨el,rfl⟩,a,n,c,rfl,rfl⟩
 ·simp[Builtin.len_,run_underlying hd,goInt]
 ·simp[Builtin.len_,run_underlying hd,goInt]
theorem CZ{op:Op}(h:xm X.tab e op k kf):(∃v,fN X op e v∧k v)∨kf:=by
 unfold xm at h
 split at h
 ·rcases mK h with ⟨v,hv,h⟩ | h
  ·exact Ov
  ·exact .inr h
 ·rcases mK h with ⟨v,hv,h⟩ | h
  ·exact Ov
  ·exact .inr h
 ·rcases mK h with ⟨v,hv,h⟩ | h
  ·split at h
   ·exact Ow
   ·exact .inr h
  ·exact .inr h
 ·rcases mK h with ⟨v,hv,h⟩ | h
  ·split at h
   ·rename_i vs _
    rcases xh h with ⟨u,hu,h⟩ | h
    ·refine .inl ⟨u,fun a ha _ _ _ _ _ w=>?_,h⟩
     rw[Bm] at hu
     simp only[execOp,ha.ev hv,Instr.extract,hu];rfl
    ·exact .inr h
   ·exact .inr h
  ·exact .inr h
 ·rcases mK h with ⟨v,hv,h⟩ | h
  ·split at h
   ·rename_i b off
    rcases xE h with ⟨ti,ht,h⟩ | h
    ·split at h
     ·rename_i fs hu
      rcases xh h with ⟨⟨o,sz⟩,hp,h⟩ | h
      ·dsimp only at h
       cases hz:Nat.beq sz 0
       case true=>rw[hz] at h;exact .inr h
       case false=>
        rw[hz] at h
        have hsz:sz≠0:=Nat.ne_of_beq_eq_false hz
        have hok:=(X.ok.look ht).aJ
        rw[hu] at hok
        obtain⟨flds,hund,hfl⟩:∃flds,X.P.underlying _=some (.struct flds)∧flds.toList.map (fun f=>(f.offset,((X.P.info? f.type).map (·.size)).getD 0))=fs:=by
         unfold oz at hok
         split at hok<;>simp at hok
         rename_i fl hfl
         exact⟨fl,hfl,by simpa using hok⟩
        rw[←hfl] at hp
        simp only[eh,Option.map_eq_some_iff,Prod.mk.injEq] at hp
        obtain⟨f,hf,ho,hsf⟩:=hp
        rw[Bm] at hf
        have hi:∃i,X.P.info? f.type=some i∧i.size=sz:=by
         cases hq:X.P.info? f.type with
         | none=>simp[hq] at hsf;exact(hsz hsf.symm).elim
         | some i=>exact⟨i,rfl,by simpa[hq] using hsf⟩
        obtain⟨i,hi,hiz⟩:=hi
        have key:=Xr hund hf hi (by rw[hiz];exact hsz) b off
        rw[ho] at key
        simp only[cond_false] at h
        cases hoz:Nat.beq o 0
        ·rw[hoz] at h
         refine .inl ⟨_,fun a ha _ _ _ _ _ w=>?_,h⟩
         simp only[execOp,ha.ev hv,Sem.run_bind,key w];rfl
        ·rw[hoz] at h
         refine .inl ⟨_,fun a ha _ _ _ _ _ w=>?_,h⟩
         have:=o7 hoz
         subst this
         simp only[execOp,ha.ev hv,Sem.run_bind,key w];rfl
      ·exact .inr h
     ·exact .inr h
    ·exact .inr h
   ·exact .inr h
  ·exact .inr h
 ·rcases mK h with ⟨a,ha,h⟩ | h
  ·rcases mK h with ⟨b,hb,h⟩ | h
   ·exact Re ha hb h
   ·exact .inr h
  ·exact .inr h
 ·rcases mK h with ⟨v,hv,h⟩ | h
  ·split at h
   ·exact Ow
   ·exact .inr h
  ·exact .inr h
 ·rcases mK h with ⟨v,hv,h⟩ | h
  ·split at h
   ·rcases mK h with ⟨u,hu,h⟩ | h
    ·exact Ox
    ·exact .inr h
   ·rcases mK h with ⟨u,hu,h⟩ | h
    ·exact Ox
    ·exact .inr h
   ·exact .inr h
  ·exact .inr h
 ·rename_i args tys
  split at h
  ·rename_i x t hx ht
   have hargs:args=#[x]:=by apply nK.1;simpa using hx
   have htys:tys=#[t]:=by apply nK.1;simpa using ht
   subst hargs;subst htys
   rcases mK h with ⟨v,hv,h⟩ | h
   ·rcases xE h with ⟨ti,htt,h⟩ | h
    ·have hok:=(X.ok.look htt).aJ
     split at h
     ·rename_i el n c _
      split at h
      ·rename_i hu
       rw[hu] at hok
       have hund:∃d,X.P.underlying t=some d∧∃el,d=.slice el:=by
        unfold oz at hok
        split at hok<;>simp at hok
        rename_i hd;exact⟨_,hd,_,rfl⟩
       obtain⟨d,hd,hd'⟩:=hund
       refine .inl ⟨_,fun a' ha _ _ _ _ _ w=>?_,h⟩
       have hr:=fun r=>M7 hd w (.slice el n c) (.int .i64 n) (.inr ⟨hd',el,n,c,rfl,rfl⟩) r
       simp[execOp,resolve,invoke,builtin,ha.ev hv,hr]
      ·exact .inr h
     ·rename_i s _
      split at h
      ·rename_i hu
       rw[hu] at hok
       have hund:X.P.underlying t=some .string:=by
        unfold oz at hok
        split at hok<;>simp_all
       refine .inl ⟨_,fun a' ha _ _ _ _ _ w=>?_,h⟩
       have hr:=fun r=>M7 hund w (.string s) (.int .i64 s.size) (.inl ⟨rfl,s,rfl,rfl⟩) r
       simp[execOp,resolve,invoke,builtin,ha.ev hv,hr]
      ·exact .inr h
     ·exact .inr h
    ·exact .inr h
   ·exact .inr h
  ·exact .inr h
 ·rename_i args tys
  split at h
  ·rename_i x y hx
   have hargs:args=#[x,y]:=by apply nK.1;simpa using hx
   subst hargs
   rcases mK h with ⟨u,hu,h⟩ | h
   ·rcases mK h with ⟨v,hv,h⟩ | h
    ·split at h
     ·refine .inl ⟨_,fun a' ha _ _ _ _ _ w=>?_,h⟩
      simp[execOp,resolve,invoke,builtin,ha.ev hv,ha.ev hu,Builtin.min_,Builtin.min2]
     ·exact .inr h
    ·exact .inr h
   ·exact .inr h
  ·exact .inr h
 ·rename_i args tys
  split at h
  ·rename_i x y hx
   have hargs:args=#[x,y]:=by apply nK.1;simpa using hx
   subst hargs
   rcases mK h with ⟨u,hu,h⟩ | h
   ·rcases mK h with ⟨v,hv,h⟩ | h
    ·split at h
     ·refine .inl ⟨_,fun a' ha _ _ _ _ _ w=>?_,h⟩
      simp[execOp,resolve,invoke,builtin,ha.ev hv,ha.ev hu,Builtin.max_,Builtin.max2]
     ·exact .inr h
    ·exact .inr h
   ·exact .inr h
  ·exact .inr h
 ·exact .inr h
theorem fN.Ai{op:Op}{v:Value}{L:List HP}(h:fN X op e v):aQ X op e L (fun u L'=>u=v∧L'=L):=
 fun a w ha hw dst ty pos after guard=>.inl ⟨v,w,L,h a ha dst ty pos after guard w,⟨rfl,rfl⟩,hw⟩
end
def runK(n:Nat)(tab:m_)(ops:List Oper)(G:GS):List Oper→Env→(List Oper→Env→Prop)→Prop
 | [],e,k=>k [] e
 | o::r,e,k=>match o.dst with
  | none=>k (o::r) e
  | some d=>match qf G d,Nat.blt d n with
   | none,true=>match o.guard with
    | none=>xm tab e o.op (fun v=>runK n tab ops G r ((d,v)::e) k) (k (o::r) e)
    | some (j,want)=>vf ops j (fun oj=>match oj.dst with
     | some dj=>match qf G dj with
      | some b=>match gB b want with
       | true=>xm tab e o.op (fun v=>runK n tab ops G r ((d,v)::e) k) (k (o::r) e)
       | false=>runK n tab ops G r ((d,undef)::e) k
      | none=>k (o::r) e
     | none=>k (o::r) e) (k (o::r) e)
   | _,_=>k (o::r) e
theorem GP{X:Cx}{ops:Array Oper}{G:GS}{L:List HP}{K:Env→List HP→Prop}:∀{l:List Oper} {e:Env},
  runK X.n X.tab ops.toList G l e (fun l' e'=>VO X ops G l' e' L K)→VO X ops G l e L K
 | [],e,h=>h
 | o::r,e,h=>by
  unfold runK at h
  split at h
  ·exact h
  ·rename_i d hd
   split at h
   ·rename_i hgl hlt
    have hdst:cL X.n o.dst=true:=by rw[hd];exact hlt
    have hfree:cD G o.dst=true:=by rw[hd];simp[cD,hgl]
    have step:∀{v},cy ops G o.guard=some true→fN X o.op e v→runK X.n X.tab ops.toList G r ((d,v)::e) (fun l' e'=>VO X ops G l' e' L K)→VO X ops G (o::r) e L K:=fun {v} hg hl hk=>by
     refine VO.op hg hdst hfree hl.Ai ?_
     rintro _ _ ⟨rfl,rfl⟩
     rw[hd]
     exact GP hk
    split at h
    ·rename_i hgd
     rcases CZ h with ⟨v,hl,hk⟩ | h
     ·exact step (by rw[hgd];rfl) hl hk
     ·exact h
    ·rename_i j want hgd
     rcases xh h with ⟨oj,hj,h⟩ | h
     ·split at h
      ·rename_i dj hdj
       split at h
       ·rename_i b hb
        have hgo:cy ops G o.guard=some (gB b want):=by
         rw[hgd];simp only[cy,hj,hdj,hb]
        split at h
        ·rename_i hbw
         rw[hbw] at hgo
         rcases CZ h with ⟨v,hl,hk⟩ | h
         ·exact step hgo hl hk
         ·exact h
        ·rename_i hbw
         rw[hbw] at hgo
         refine VO.off hgo hdst hfree ?_
         rw[hd]
         exact GP h
       ·exact h
      ·exact h
     ·exact h
   ·exact h
end Vg
namespace Vg
open Go
def wJ:Nat→List Value→Env
 | _,[]=>[]
 | i,v::r=>(i,v)::wJ (i+1) r
theorem K9:∀{l:List Value} {i t:Nat} {v:Value},look (wJ i l) t=some v→∃j,t=i+j∧l[j]?=some v
 | [],_,_,_,h=>by cases h
 | x::r,i,t,v,h=>by
  simp only[wJ,look] at h
  cases hb:Nat.beq i t
  ·rw[hb] at h
   obtain⟨j,hj,hl⟩:=K9 h
   exact⟨j+1,by omega,by simpa using hl⟩
  ·rw[hb] at h
   have:=o7 hb
   exact⟨0,by omega,by simpa using h⟩
theorem I8{n:Nat}{args:List Value}(h:args.length≤n):dO n ⟨args.toArray++Array.replicate (n-args.toArray.size) undef,[]⟩ (wJ 0 args):=by
 refine⟨by simp;omega,Z,fun t v ht=>?_⟩
 obtain⟨j,rfl,hl⟩:=K9 ht
 have hj:j<args.length:=(bY.1 hl).1
 have:args[j]=v:=(bY.1 hl).2
 simp[Eg,hj,this]
structure QK(X:Cx)(fn:Func)(e:Env)(L:List HP)(v:Value):Prop where
 run:∀a w,dO X.n a e→St X L w→(results fn a.tmps).run X.P w=.ok v w
def aq(X:Cx)(fn:Func)(R:Value→List HP→Prop)(e:Env)(L:List HP):Prop:=
 ∃v L',QK X fn e L v∧dq X L L'∧R v L'
def MV(X:Cx)(fn:Func)(R:Value→List HP→Prop):Exit→Env→List HP→Prop
 | .normal,e,L=>aq X fn R e L
 | .ret,e,L=>aq X fn R e L
 | _,_,_=>False
theorem az.of{P:Program}{f:FuncId}{fn:Func}{c:Code}{args:List Value}{Fr:Nat→Prop}{w:World}{L:List HP}{R:Value→List HP→Prop}{tab:m_}(n:Nat)
  (hf:P.funcs[f]?=some fn) (hb:fn.body=some c) (hnm:(fn.name == "runtime.NumGoroutine")=false) (ok:pR P tab) (hnt:fn.ntmps=n) (hn:Nat.ble args.length n=true)
  (h:VC ⟨P,tab,ok,n,Fr,w⟩ c (wJ 0 args) L (MV ⟨P,tab,ok,n,Fr,w⟩ fn R)):az P f args Fr w L R:=by
 subst hnt
 replace hn:=hZ hn
 refine⟨⟨fn,hf,by simp[hb],hnm⟩,fun hlow hs=>?_⟩
 refine calls_of_wp hf hb (wp_mono (wpIn_wide.1 (h none _ w (I8 hn) ⟨hs,dG.refl _ _,hlow⟩)) fun x a' w' ⟨e',L',h1,h2,h3⟩=>?_)
 have key:aq ⟨P,tab,ok,fn.ntmps,Fr,w⟩ fn R e' L'→a'.defers=[]∧∃v,(results fn a'.tmps).run P w'=.ok v w'∧∃v1 L1,Ending.returned v=.returned v1∧R v1 L1∧Sat Fr L1 w'∧dG Fr w w':=by
  rintro⟨v,L1,hr,he,hR⟩
  exact⟨h1.defers,v,hr.run a' w' h1 h2,v,L1,Z,hR,(he w' h2).sat,h2.cS⟩
 cases x with
 | normal=>exact key h3
 | ret=>exact key h3
 | exit id=>exact h3.elim
 | goto l=>exact h3.elim
 | panic ch=>exact h3.elim
 | outgrown=>exact h3.elim
theorem aq.tmp{X:Cx}{fn:Func}{R:Value→List HP→Prop}{e:Env}{L:List HP}(t:Nat)(h:fn.results=#[.tmp t]){v:Value}(hv:look e t=some v){L':List HP}(he:dq X L L')(hR:R v L'):aq X fn R e L:=
 ⟨v,L',⟨fun a w ha _=>by rw[results_tmp h,ha.at_ t v hv]⟩,he,hR⟩
theorem aq.dh{X:Cx}{fn:Func}{R:Value→List HP→Prop}{e:Env}{L:List HP}(t u:Nat)(h:fn.results=#[.tmp t,.tmp u]){v x:Value}(hv:look e t=some v)(hx:look e u=some x){L':List HP}(he:dq X L L')(hR:R (.tuple #[v,x]) L'):aq X fn R e L:=
 ⟨_,L',⟨fun a w ha _=>by rw[results_tmp2 h,ha.at_ t v hv,ha.at_ u x hx]⟩,he,hR⟩
theorem aq.void{X:Cx}{fn:Func}{R:Value→List HP→Prop}{e:Env}{L:List HP}(h:fn.results=#[]){L':List HP}(he:dq X L L')(hR:R (.tuple #[]) L'):aq X fn R e L:=
 ⟨_,L',⟨fun a w _ _=>results_none h a.tmps X.P w⟩,he,hR⟩
theorem VC.JU{X:Cx}{x:Operand}{b c:Code}{e:Env}{L:List HP}{Q:Exit→Env→List HP→Prop}{p:Prop}{_:Decidable p}(hx:ev e x=some (.bool (decide p)))
  (ht:p→VC X b e L Q) (hf:¬p→VC X c e L Q):VC X (.cond x b c) e L Q:=
 VC.cond hx (fun h=>ht (of_decide_eq_true h)) (fun h=>hf (of_decide_eq_false h))
theorem VC.JT{X:Cx}{x:Operand}{b c:Code}{e:Env}{L:List HP}{Q:Exit→Env→List HP→Prop}{i j:Int}(hx:ev e x=some (.bool (i == j)))
  (ht:i=j→VC X b e L Q) (hf:i≠j→VC X c e L Q):VC X (.cond x b c) e L Q:=
 VC.cond hx (fun h=>ht yc) (fun h=>hf yc)
theorem VC.dH{X:Cx}{x:Operand}{b c:Code}{e:Env}{L:List HP}{Q:Exit→Env→List HP→Prop}{i j:Int}(hx:ev e x=some (.bool (i != j)))
  (ht:i≠j→VC X b e L Q) (hf:i=j→VC X c e L Q):VC X (.cond x b c) e L Q:=
 VC.cond hx (fun h=>ht yc) (fun h=>hf yc)
theorem VC.fQ{X:Cx}{x:Operand}{b c:Code}{e:Env}{L:List HP}{Q:Exit→Env→List HP→Prop}{t:Bool}(hx:ev e x=some (.bool (!t)))
  (ht:t=false→VC X b e L Q) (hf:t=true→VC X c e L Q):VC X (.cond x b c) e L Q:=
 VC.cond hx (fun h=>ht yc) (fun h=>hf yc)
theorem VC.nj{X:Cx}{x:Operand}{b c:Code}{e:Env}{L:List HP}{Q:Exit→Env→List HP→Prop}(hx:ev e x=some (.bool true))
  (ht:VC X b e L Q):VC X (.cond x b c) e L Q:=
 VC.cond hx (fun _=>ht) (fun h=>by cases h)
theorem VC.kM{X:Cx}{x:Operand}{b c:Code}{e:Env}{L:List HP}{Q:Exit→Env→List HP→Prop}(hx:ev e x=some (.bool false))
  (hf:VC X c e L Q):VC X (.cond x b c) e L Q:=
 VC.cond hx (fun h=>by cases h) (fun _=>hf)
theorem aq.int{X:Cx}{fn:Func}{R:Value→List HP→Prop}{e:Env}{L:List HP}(t:Nat)(h:fn.results=#[.tmp t]){k:IntKind}{a b:Int}(hv:look e t=some (.int k a))(hab:a=b){L':List HP}(he:dq X L L')(hR:R (.int k b) L'):aq X fn R e L:=by
 subst hab;exact aq.tmp t h hv he hR
theorem aq.bool{X:Cx}{fn:Func}{R:Value→List HP→Prop}{e:Env}{L:List HP}(t:Nat)(h:fn.results=#[.tmp t]){a b:Bool}(hv:look e t=some (.bool a))(hab:a=b){L':List HP}(he:dq X L L')(hR:R (.bool b) L'):aq X fn R e L:=by
 subst hab;exact aq.tmp t h hv he hR
theorem dq.refl{X:Cx}{L:List HP}:dq X L L:=fun _ h=>h
def Lz(X:Cx){σ:Type}(E:σ→Env)(H:σ→List HP)(I:σ→Prop)(Q:Exit→Env→List HP→Prop):Exit→Env→List HP→Prop
 | .normal,e,L=>∃s,I s∧Sub (E s) e∧dq X L (H s)
 | x,e,L=>Q x e L
theorem VC.meet{X:Cx}{σ:Type}(E:σ→Env)(H:σ→List HP)(I:σ→Prop){b c:Code}{e:Env}{L:List HP}{Q:Exit→Env→List HP→Prop}
  (hb:VC X b e L (Lz X E H I Q)) (hc:∀s,I s→VC X c (E s) (H s) Q):VC X (.seq b c) e L Q:=by
 refine VC.seq (hb.mono fun x e' L' h=>?_)
 cases x with
 | normal=>
  obtain⟨s,hI,hE,hH⟩:=h
  exact((hc s hI).ah hH).sub hE
 | exit id=>exact h
 | goto l=>exact h
 | ret=>exact h
 | panic ch=>exact h
 | outgrown=>exact h
def a8(Fr:Nat→Prop)(L:List HP)(w:World):Prop:=∃F,ei L F w∧∀b∈F,Fr b
theorem GQ{P:Program}{f:FuncId}(h:tz P f)(vals:Array Value)(w:World):(callFunc f vals).run P w=.ok (.enter f vals) w:=by
 obtain⟨fn,hf,hb,hn⟩:=h
 unfold callFunc
 rw[Sem.run_bind]
 show Result.andThen (.ok P w) _=_
 simp[Result.andThen,hf,hb,hn]
theorem Xn{P:Program}{f:FuncId}(h:tz P f)(a:Act)(args:Array Operand)(tys:Array TypeId)(dst:Option Tmp)(ty:TypeId)(pos:String)(after:Array Edge)(guard:Option (Nat×Bool))(w:World):
  (execOp a.eval ⟨dst,.call ⟨.value (.func f),args,tys⟩,ty,pos,after,guard⟩).run P w=.ok (.enter f (args.map a.eval)) w:=by
 have:=GQ h (args.map a.eval) w
 simp[execOp,resolve,Deferred.ofValue,Act.eval,invoke]
 exact this
theorem aQ.call{X:Cx}{f:FuncId}{args:Array Operand}{tys:Array TypeId}{e:Env}{L Lc Lr:List HP}{vals:List Value}{R:Value→List HP→Prop}
  (hargs:fy e args.toList=some vals) (hp:L.Perm (Lc++Lr))
  (ht:∀Fr' w,(∀b,X.Fr b→Fr' b)→St X L w→a8 Fr' Lr w→az X.P f vals Fr' w Lc R):
  aQ X (.call ⟨.value (.func f),args,tys⟩) e L (fun v L'=>∃L1,R v L1∧L'=L1++Lr):=by
 intro a w ha hw dst ty pos after guard
 obtain⟨F,hs,hnd,hb⟩:=hw.sat.perm hp
 obtain⟨Fc,Fl,rfl,hsc,hsl⟩:=ei.append.1 hs
 have T:=ht (fun b=>X.Fr b∨b∈Fl) w (fun b h=>.inl h) hw ⟨Fl,hsl,fun b h=>.inr h⟩
 have hev:args.map a.eval=vals.toArray:=by
  have:=ha.fy hargs
  apply nK.1
  simpa using this
 refine .inr (.inr ⟨f,vals.toArray,?_,?_⟩)
 ·rw[←hev];exact Xn T.BT a args tys dst ty pos after guard w
 ·obtain⟨hnc,hnl,hdis⟩:=ja.1 hnd
  refine Calls.mono (T.calls (fun b h=>?_) ⟨Fc,hsc,hnc,fun b h=>⟨fun h'=>?_,(hb b ya).2⟩⟩) fun en w' ⟨v,L',h1,h2,h3,h4⟩=>?_
  ·rcases h with h | h
   ·exact hw.me b h
   ·exact(hb b ya).2
  ·rcases h' with h' | h'
   ·exact(hb b ya).1 h'
   ·exact hdis b h b h' rfl
  ·refine⟨v,L'++Lr,h1,⟨L',h2,Z⟩,⟨?_,hw.cS.trans (h4.mono fun b h=>.inl h),hw.low⟩⟩
   obtain⟨G,hG,hGn,hGb⟩:=h3
   refine⟨G++Fl,ei.append.2 ⟨G,Fl,Z,hG,hsl.loc fun b h=>h4.block b (.inr h)⟩,?_,?_⟩
   ·exact Oy
   ·intro b h
    rcases ez.1 h with h | h
    ·exact⟨fun h'=>(hGb b h).1 (.inl h'),(hGb b h).2⟩
    ·exact Ht
section
variable {X:Cx} {ops:Array Oper} {G:GS} {l:List Oper} {e:Env} {L:List HP} {K:Env→List HP→Prop}
  {dst:Option Tmp} {ty:TypeId} {pos:String} {after:Array Edge} {guard:Option (Nat×Bool)}
theorem VO.go(h:runK X.n X.tab ops.toList G l e (fun l' e'=>VO X ops G l' e' L K)):VO X ops G l e L K:=GP h
theorem VO.Jy{f:FuncId}{args:Array Operand}{tys:Array TypeId}{vals:List Value}{R:Value→List HP→Prop}
  (hargs:fy e args.toList=some vals) (ht:∀Fr' w,az X.P f vals Fr' w [] R)
  (hk:∀v L1,R v L1→VO X ops G l (bX dst v e) (L1++L) K)
  (hg:cy ops G guard=some true:=by rfl) (hd:cL X.n dst=true:=by rfl) (hf:cD G dst=true:=by rfl):
  VO X ops G (⟨dst,.call ⟨.value (.func f),args,tys⟩,ty,pos,after,guard⟩::l) e L K:=
 VO.op hg hd hf (aQ.call hargs (Lc:=[]) (Lr:=L) (.refl _) fun Fr' w _ _ _=>ht Fr' w) fun v L' ⟨L1,h1,h2⟩=>by subst h2;exact hk v L1 h1
theorem VO.lW{f:FuncId}{args:Array Operand}{tys:Array TypeId}{vals:List Value}{u:Value}
  (ht:∀Fr' w,az X.P f vals Fr' w [] (fun v L=>v=u∧L=[])) (hargs:fy e args.toList=some vals)
  (hk:VO X ops G l (bX dst u e) L K)
  (hg:cy ops G guard=some true:=by rfl) (hd:cL X.n dst=true:=by rfl) (hf:cD G dst=true:=by rfl):
  VO X ops G (⟨dst,.call ⟨.value (.func f),args,tys⟩,ty,pos,after,guard⟩::l) e L K:=
 VO.Jy hargs ht (fun v L1 ⟨h1,h2⟩=>by subst h1;subst h2;exact hk) hg hd hf
theorem VO.yes(d:Nat){b:Bool}(c:Bool)(hb:look e d=some (.bool b))(hc:b=c)(h:VO X ops ((d,c)::G) l ((d,.bool c)::e) L K)(hd:Nat.blt d X.n=true:=by rfl):VO X ops G l e L K:=by
 subst hc
 refine VO.split d hb hd (fun h'=>?_) (fun h'=>?_)
 ·subst h';exact h
 ·subst h';exact h
theorem VO.zT{op:Op}{v:Value}(h:fN X op e v)(hk:VO X ops G l (bX dst v e) L K)
  (hg:cy ops G guard=some true:=by rfl) (hd:cL X.n dst=true:=by rfl) (hf:cD G dst=true:=by rfl):VO X ops G (⟨dst,op,ty,pos,after,guard⟩::l) e L K:=
 VO.op hg hd hf h.Ai (fun _ _ ⟨h1,h2⟩=>by subst h1;subst h2;exact hk)
theorem VO.arith{op:BinOp}{xt yt:TypeId}{x y:Operand}{k:IntKind}{a b:Int}(z:Int)
  (hx:ev e x=some (.int k a)) (hy:ev e y=some (.int k b))
  (hz:(match op with | .add=>k.wrap (a+b)=z | .sub=>k.wrap (a-b)=z | .mul=>k.wrap (a*b)=z | _=>False))
  (hk:VO X ops G l (bX dst (.int k z) e) L K)
  (hg:cy ops G guard=some true:=by rfl) (hd:cL X.n dst=true:=by rfl) (hf:cD G dst=true:=by rfl):
  VO X ops G (⟨dst,.binOp op xt x y yt,ty,pos,after,guard⟩::l) e L K:=by
 refine VO.op (M:=fun v L'=>v=.int k z∧L'=L) hg hd hf ?_ (fun v L' ⟨h1,h2⟩=>by subst h1;subst h2;exact hk)
 intro a' w ha hw dst ty pos after guard
 refine .inl ⟨_,w,L,?_,⟨rfl,Z⟩,hw⟩
 cases op<;>simp only at hz
 case add=>simp[execOp,ha.ev hx,ha.ev hy,eqGuard,binOp,Op.intArith,hz]
 case sub=>simp[execOp,ha.ev hx,ha.ev hy,eqGuard,binOp,Op.intArith,hz]
 case mul=>simp[execOp,ha.ev hx,ha.ev hy,eqGuard,binOp,Op.intArith,hz]
end
theorem i64_in(n:Int)(h1:-9223372036854775808≤n)(h2:n≤9223372036854775807):IntKind.i64.wrap n=n:=IntWalk.i64_in n ⟨h1,h2⟩
section
variable {X:Cx} {ops:Array Oper} {G:GS} {l:List Oper} {e:Env} {L:List HP} {K:Env→List HP→Prop}
  {dst:Option Tmp} {ty:TypeId} {pos:String} {after:Array Edge} {guard:Option (Nat×Bool)}
theorem VO.add{xt yt:TypeId}{x y:Operand}{a b:Int}(hx:ev e x=some (.int .i64 a))(hy:ev e y=some (.int .i64 b))(h1:-9223372036854775808≤a+b)(h2:a+b≤9223372036854775807)
  (hk:VO X ops G l (bX dst (.int .i64 (a+b)) e) L K)
  (hg:cy ops G guard=some true:=by rfl) (hd:cL X.n dst=true:=by rfl) (hf:cD G dst=true:=by rfl):
  VO X ops G (⟨dst,.binOp .add xt x y yt,ty,pos,after,guard⟩::l) e L K:=VO.arith (a+b) hx hy (i64_in _ h1 h2) hk hg hd hf
theorem VO.xz{xt yt:TypeId}{x y:Operand}{a b:Int}(hx:ev e x=some (.int .i64 a))(hy:ev e y=some (.int .i64 b))(h1:-9223372036854775808≤a-b)(h2:a-b≤9223372036854775807)
  (hk:VO X ops G l (bX dst (.int .i64 (a-b)) e) L K)
  (hg:cy ops G guard=some true:=by rfl) (hd:cL X.n dst=true:=by rfl) (hf:cD G dst=true:=by rfl):
  VO X ops G (⟨dst,.binOp .sub xt x y yt,ty,pos,after,guard⟩::l) e L K:=VO.arith (a-b) hx hy (i64_in _ h1 h2) hk hg hd hf
theorem VO.mul{xt yt:TypeId}{x y:Operand}{a b:Int}(hx:ev e x=some (.int .i64 a))(hy:ev e y=some (.int .i64 b))(h1:-9223372036854775808≤a*b)(h2:a*b≤9223372036854775807)
  (hk:VO X ops G l (bX dst (.int .i64 (a*b)) e) L K)
  (hg:cy ops G guard=some true:=by rfl) (hd:cL X.n dst=true:=by rfl) (hf:cD G dst=true:=by rfl):
  VO X ops G (⟨dst,.binOp .mul xt x y yt,ty,pos,after,guard⟩::l) e L K:=VO.arith (a*b) hx hy (i64_in _ h1 h2) hk hg hd hf
end
end Vg
namespace Vg
open Go
def dT(cs:List Value)(off:Nat)(vs:List Value):List Value:=cs.take off++vs++cs.drop (off+vs.length)
theorem Hq(cs:List Value)(off:Nat):dT cs off []=cs:=by simp[dT]
theorem Hr(cs:List Value)(off:Nat)(v:Value)(h:off<cs.length):dT cs off [v]=cs.set off v:=by
 simp[dT,List.set_eq_take_append_cons_drop,h]
theorem Oq{cs vs:List Value}{off:Nat}{v:Value}(h:off+(vs.length+1)≤cs.length):dT (cs.set off v) (off+1) vs=dT cs off (v::vs):=by
 unfold dT
 have h1:off<cs.length:=by omega
 rw[List.set_eq_take_append_cons_drop,if_pos h1]
 have e1:(cs.take off++v::cs.drop (off+1)).take (off+1)=cs.take off ++ [v]:=by
  rw[List.take_append,kH,Bw yd,show off+1-off=1 from by omega,r5 ye]
  simp
 have e2:(cs.take off++v::cs.drop (off+1)).drop (off+1+vs.length)=cs.drop (off+(vs.length+1)):=by
  rw[List.drop_append,kH,Bw yd,List.drop_of_length_le ye]
  rw[show off+1+vs.length-off=vs.length+1 from by omega]
  simp;congr 1;omega
 rw[e1,e2]
 simp
def eu(w:World)(b:Nat)(o:Obj):World:={ w with heap:=w.heap.setIfInBounds b o }
theorem XI{w:World}{b:Nat}{o:Obj}(h:w.heap[b]?=some o):eu w b o=w:=by
 unfold eu
 have:w.heap.setIfInBounds b o=w.heap:=by
  apply vW
  intro i
  by_cases hi:b=i
  ·subst hi
   have hlt:b<w.heap.size:=(rW.1 h).1
   rw[Array.getElem?_setIfInBounds_self_of_lt hlt,h]
  ·rw[Bl hi]
 rw[this]
theorem XJ(w:World)(b:Nat)(o o':Obj):eu (eu w b o) b o'=eu w b o':=by
 simp[eu]
theorem ri{w:World}{b:Nat}{o o':Obj}(h:w.heap[b]?=some o'):(eu w b o).heap[b]?=some o:=by
 have hlt:b<w.heap.size:=(rW.1 h).1
 simp[eu,hlt]
theorem FB{w:World}{b c:Nat}{o:Obj}(h:b≠c):(eu w b o).heap[c]?=w.heap[c]?:=by
 simp[eu,Bl h]
theorem Ha(w:World)(b:Nat)(o:Obj):(eu w b o).heap.size=w.heap.size:=by simp[eu]
theorem G5{w:World}{b off:Nat}{cs:List Value}{t:TypeId}{v:Value}(h:w.heap[b]?=some (.cells cs.toArray t (0,0))):
  w.setCell ⟨b,off,none⟩ v=eu w b (.cells (cs.set off v).toArray t (0,0)):=by
 have hlt:b<w.heap.size:=(rW.1 h).1
 have e:(w.setCell ⟨b,off,none⟩ v).heap=w.heap.setIfInBounds b (.cells (cs.set off v).toArray t (0,0)):=by
  apply vW
  intro i
  by_cases hi:i=b
  ·subst hi
   rw[heap_setCell_same w i off cs.toArray t v h,Array.getElem?_setIfInBounds_self_of_lt hlt]
   simp
  ·rw[heap_setCell_other w _ i v hi,Bl (Ne.symm hi)]
 have e1:w.setCell ⟨b,off,none⟩ v={ w with heap:=(w.setCell ⟨b,off,none⟩ v).heap }:=rfl
 rw[e1,e];rfl
theorem GR{P:Program}{b t:Nat}:∀(vs:List Value) (i off:Nat) (w:World) (cs:List Value),w.heap[b]?=some (.cells cs.toArray t (0,0)) →
  off+i+vs.length≤cs.length→vs.all Value.oneCell'=true →
  (storeCells ⟨b,off,none⟩ vs i).run P w=.ok () (eu w b (.cells (dT cs (off+i) vs).toArray t (0,0)))
 | [],i,off,w,cs,h,_,_=>by
  rw[Hq,XI h];rfl
 | v::vs,i,off,w,cs,h,hl,h1=>by
  simp only[List.all_cons,dN] at h1
  have hcell:w.cell? ⟨b,off+i,none⟩=cs[off+i]?:=by rw[cell_of_row w b (off+i) cs.toArray t (0,0) h];simp
  have hlt:off+i<cs.length:=by simp at hl;omega
  have hfz:=frozen_of_row w b (off+i) cs.toArray t h
  have e:(store ((⟨b,off,none⟩:Addr).add i) v).run P w=.ok () (eu w b (.cells (cs.set (off+i) v).toArray t (0,0))):=by
   rw[Addr.add_mid,←G5 h]
   have hc:w.cell? ⟨b,off+i,none⟩=some cs[off+i]:=by rw[hcell];simp[hlt]
   have h10:=h1.1
   cases v<;>first
    | (simp[Value.oneCell'] at h10;done)
    | simp[store,Sem.run,hc,hfz]
  unfold storeCells
  rw[Sem.run_bind,e]
  show(storeCells ⟨b,off,none⟩ vs (i+1)).run P _=_
  have hh:(eu w b (.cells (cs.set (off+i) v).toArray t (0,0))).heap[b]?=some (.cells (cs.set (off+i) v).toArray t (0,0)):=ri h
  rw[GR vs (i+1) off _ (cs.set (off+i) v) hh (by simp at hl ⊢;omega) h1.2,XJ]
  rw[show off+(i+1)=off+i+1 from by omega,Oq (by simp at hl;omega)]
theorem ei.get:∀{L:List HP} {F:List Nat} {w:World} {i:Nat} {H:HP},ei L F w→L[i]?=some H→∃ids,H.sat ids w∧∀b∈ids,b∈F
 | [],_,_,_,_,_,h=>by simp at h
 | _::L,F,w,0,H,⟨j,G,hF,hj,_⟩,h=>by
  simp only[qJ,Option.some.injEq] at h
  subst h;subst hF
  exact⟨j,hj,fun b hb=>by simp[hb]⟩
 | _::L,F,w,i+1,H,⟨j,G,hF,_,hG⟩,h=>by
  simp only[rY] at h
  obtain⟨ids,h1,h2⟩:=ei.get hG h
  subst hF
  exact⟨ids,h1,fun b hb=>by simp[h2 b hb]⟩
theorem St.sj{X:Cx}{L:List HP}{w:World}(h:St X L w){i b t:Nat}{cs:List Value}(hL:L[i]?=some (pt b cs t)):
  w.heap[b]?=some (.cells cs.toArray t (0,0))∧¬X.Fr b:=by
 obtain⟨F,hs,_,hb⟩:=h.sat
 obtain⟨ids,h1,h2⟩:=hs.get hL
 obtain⟨rfl,h1⟩:=h1
 exact⟨h1,(hb b (h2 b yf)).1⟩
theorem ei.set:∀{L:List HP} {F:List Nat} {w w':World} {i b t t':Nat} {cs cs':List Value},ei L F w→F.Nodup→L[i]?=some (pt b cs t) →
  w'.heap[b]?=some (.cells cs'.toArray t' (0,0))→(∀c,c≠b→w'.heap[c]?=w.heap[c]?)→ei (L.set i (pt b cs' t')) F w'
 | [],_,_,_,_,_,_,_,_,_,_,_,h,_,_=>by simp at h
 | _::L,F,w,w',0,b,t,t',cs,cs',⟨j,G,hF,hj,hG⟩,hn,h,h1,h2=>by
  simp only[qJ,Option.some.injEq] at h
  subst h;subst hF
  obtain⟨rfl,hj⟩:=hj
  refine⟨[b],G,Z,⟨rfl,h1⟩,hG.loc fun c hc=>h2 c fun he=>?_⟩
  subst he
  simp at hn
  exact hn.1 hc
 | H::L,F,w,w',i+1,b,t,t',cs,cs',⟨j,G,hF,hj,hG⟩,hn,h,h1,h2=>by
  simp only[rY] at h
  subst hF
  obtain⟨hnj,hnG,hd⟩:=ja.1 hn
  obtain⟨ids,hp,hm⟩:=hG.get h
  obtain⟨rfl,_⟩:=hp
  have hb:=hm b yf
  exact⟨j,G,Z,H.loc j w w' (fun c hc=>h2 c fun he=>hd c hc b hb he) hj,ei.set hG hnG h h1 h2⟩
theorem St.set{X:Cx}{L:List HP}{w:World}(h:St X L w){i b t:Nat}{cs cs':List Value}(hL:L[i]?=some (pt b cs t)):
  St X (L.set i (pt b cs' t)) (eu w b (.cells cs'.toArray t (0,0))):=by
 obtain⟨h0,hf⟩:=h.sj hL
 obtain⟨F,hs,hn,hb⟩:=h.sat
 refine⟨⟨F,hs.set hn hL (ri h0) (fun c hc=>FB (Ne.symm hc)),hn,fun c hc=>⟨(hb c hc).1,by rw[Ha];exact(hb c hc).2⟩⟩,?_,h.low⟩
 exact Oz
theorem St.alloc{X:Cx}{L:List HP}{w:World}(h:St X L w)(cs:List Value)(t:Nat):St X (pt w.heap.size cs t::L) (w.alloc (.cells cs.toArray t)):=
 ⟨h.sat.alloc h.me _ _ ⟨rfl,heap_alloc_new w _⟩,h.cS.trans (dG.alloc h.me _),h.low⟩
def Rd(agg:Bool)(n b off:Nat)(v:Value)(w:World):Prop:=
 match agg with
 | true=>∃cs:List Value,v=.agg cs.toArray∧cs.length=n∧w.rangeAt b off cs
 | false=>w.cell? ⟨b,off,none⟩=some v
theorem aS.I6{P:Program}{t:Nat}{ti:TI}(h:aS P t ti)(w:World):(isAgg t).run P w=.ok ti.aJ.agg w:=by
 obtain⟨d,hd,hr⟩:=Xt h w
 have hu:=h.aJ
 unfold Go.isAgg
 rw[Sem.run_bind,hr]
 unfold oz at hu
 rw[hd] at hu
 cases d<;>simp at hu<;>rw[←hu]<;>rfl
theorem aS.og{P:Program}{t:Nat}{ti:TI}(h:aS P t ti):∃i,P.info? t=some i∧i.size=ti.size∧i.bytes=ti.bytes∧i.zero=some ti.zero:=by
 have:=h.info
 cases hi:P.info? t with
 | none=>simp[hi] at this
 | some i=>exact⟨i,rfl,by simpa[hi] using this⟩
theorem M8{P:Program}{t:Nat}{ti:TI}(h:aS P t ti){b off:Nat}{v:Value}{w:World}(hr:Rd ti.aJ.agg ti.size b off v w):
  (Instr.loadAt t (.pointer (some ⟨b,off,none⟩))).run P w=.ok v w:=by
 obtain⟨i,hi,hs,_,_⟩:=h.og
 have ha:=h.I6 w
 unfold Instr.loadAt
 simp only[Instr.sureAddr,Sem.run_bind,Sem.run_pure,Result.andThen_ok,loadVar,ha]
 cases hg:ti.aJ.agg
 ·rw[hg] at hr
  simp only[Rd] at hr
  simp[Go.load,Sem.run,hr]
 ·rw[hg] at hr
  simp only[Rd] at hr
  obtain⟨cs,rfl,hl,hc⟩:=hr
  have hload:(loadCells ⟨b,off,none⟩ cs.length).run P w=.ok cs.toArray w:=
   run_loadCells_list (P:=P) w ⟨b,off,none⟩ cs (fun j v hv=>by rw[Addr.add_mid];exact hc j v hv)
  simp[Sem.run_bind,mu hi,hs,←hl,hload]
def ax(X:Cx)(L:List HP)(ti:TI)(b off:Nat)(v:Value):Prop:=∀w,St X L w→Rd ti.aJ.agg ti.size b off v w
theorem GJ{w:World}{b t:Nat}{cs:List Value}{fz:Nat×Nat}(h:w.heap[b]?=some (.cells cs.toArray t fz)){off:Nat}{v:Value}{n:Nat}(hv:cs[off]?=some v):Rd false n b off v w:=by
 show w.cell? _=_
 rw[cell_of_row w b off cs.toArray t fz h];simpa using hv
theorem MN{w:World}{b t:Nat}{cs:List Value}{fz:Nat×Nat}(h:w.heap[b]?=some (.cells cs.toArray t fz)){off n:Nat}{ds:List Value}(hd:(cs.drop off).take n=ds)(hl:ds.length=n):Rd true n b off (.agg ds.toArray) w:=by
 refine⟨ds,Z,hl,fun j v hv=>?_⟩
 rw[cell_of_row w b (off+j) cs.toArray t fz h]
 have hj:j<ds.length:=(bY.1 hv).1
 rw[←hd] at hv
 rw[tq,if_pos yd,rZ] at hv
 simpa using hv
theorem ax.one{X:Cx}{L:List HP}{ti:TI}{b off t:Nat}{cs:List Value}{v:Value}(i:Nat)(hL:L[i]?=some (pt b cs t))(hv:cs[off]?=some v)(ha:ti.aJ.agg=false:=by rfl):ax X L ti b off v:=fun w hw=>by
 rw[ha];exact GJ (hw.sj hL).1 hv
theorem ax.many{X:Cx}{L:List HP}{ti:TI}{b off t:Nat}{cs ds:List Value}(i:Nat)(hL:L[i]?=some (pt b cs t))(hd:(cs.drop off).take ti.size=ds)(hl:ds.length=ti.size:=by rfl)(ha:ti.aJ.agg=true:=by rfl):ax X L ti b off (.agg ds.toArray):=fun w hw=>by
 rw[ha];exact MN (hw.sj hL).1 hd hl
theorem ax.Xl{X:Cx}{L:List HP}{ti:TI}{b off t:Nat}{cs:List Value}{fz:Nat×Nat}{v:Value}(hF:X.Fr b)(h0:X.w0.heap[b]?=some (.cells cs.toArray t fz))(hv:cs[off]?=some v)(ha:ti.aJ.agg=false:=by rfl):ax X L ti b off v:=fun w hw=>by
 rw[ha];exact GJ ((hw.cS.block b hF).trans h0) hv
theorem ax.Xm{X:Cx}{L:List HP}{ti:TI}{b off t:Nat}{cs ds:List Value}{fz:Nat×Nat}(hF:X.Fr b)(h0:X.w0.heap[b]?=some (.cells cs.toArray t fz))(hd:(cs.drop off).take ti.size=ds)(hl:ds.length=ti.size:=by rfl)(ha:ti.aJ.agg=true:=by rfl):ax X L ti b off (.agg ds.toArray):=fun w hw=>by
 rw[ha];exact MN ((hw.cS.block b hF).trans h0) hd hl
theorem ax.rd{X:Cx}{L:List HP}{ti:TI}{b off:Nat}{v:Value}(hF:X.Fr b)(h0:Rd ti.aJ.agg ti.size b off v X.w0):ax X L ti b off v:=fun w hw=>by
 have hb:=hw.cS.block b hF
 cases hg:ti.aJ.agg
 ·rw[hg] at h0
  show w.cell? _=_
  unfold World.cell?;rw[hb];exact h0
 ·rw[hg] at h0
  obtain⟨cs,h1,h2,h3⟩:=h0
  refine⟨cs,h1,h2,fun j v hv=>?_⟩
  have:=h3 j v hv
  unfold World.cell? at this ⊢;rw[hb];exact this
section
variable {X:Cx} {ops:Array Oper} {G:GS} {l:List Oper} {e:Env} {L:List HP} {K:Env→List HP→Prop}
  {dst:Option Tmp} {ty:TypeId} {pos:String} {after:Array Edge} {guard:Option (Nat×Bool)}
theorem run_load{T:TypeId}{x:Operand}{ti:TI}{b off:Nat}{v:Value}(hx:ev e x=some (.pointer (some ⟨b,off,none⟩)))(hT:bS X.tab T=some ti)
  {a:Act} (ha:dO X.n a e) {w:World} (hr:Rd ti.aJ.agg ti.size b off v w) (dst:Option Tmp) (ty:TypeId) (pos:String) (after:Array Edge) (guard:Option (Nat×Bool)):
  (execOp a.eval ⟨dst,.load T x,ty,pos,after,guard⟩).run X.P w=.ok (.value v) w:=by
 simp only[execOp,ha.ev hx]
 rw[Sem.run_bind,M8 (X.ok.look hT) hr];rfl
theorem aQ.load{T:TypeId}{x:Operand}{ti:TI}{b off:Nat}{v:Value}(hx:ev e x=some (.pointer (some ⟨b,off,none⟩)))(hT:bS X.tab T=some ti)(hr:ax X L ti b off v):
  aQ X (.load T x) e L (fun u L'=>u=v∧L'=L):=fun _ w ha hw dst ty pos after guard=>
 .inl ⟨v,w,L,run_load hx hT ha (hr w hw) dst ty pos after guard,⟨rfl,rfl⟩,hw⟩
theorem VO.load{T:TypeId}{x:Operand}{ti:TI}{b off:Nat}{v:Value}(hx:ev e x=some (.pointer (some ⟨b,off,none⟩)))(hT:bS X.tab T=some ti)(hr:ax X L ti b off v)
  (hk:VO X ops G l (bX dst v e) L K)
  (hg:cy ops G guard=some true:=by rfl) (hd:cL X.n dst=true:=by rfl) (hf:cD G dst=true:=by rfl):
  VO X ops G (⟨dst,.load T x,ty,pos,after,guard⟩::l) e L K:=
 VO.op hg hd hf (aQ.load hx hT hr) (fun _ _ ⟨h1,h2⟩=>by subst h1;subst h2;exact hk)
theorem VO.ld{T:TypeId}{x:Operand}{ti:TI}{b off t:Nat}{cs:List Value}{v:Value}(i:Nat)(hx:ev e x=some (.pointer (some ⟨b,off,none⟩)))(hL:L[i]?=some (pt b cs t))(hT:bS X.tab T=some ti)(hv:cs[off]?=some v)
  (hk:VO X ops G l (bX dst v e) L K) (ha:ti.aJ.agg=false:=by rfl)
  (hg:cy ops G guard=some true:=by rfl) (hd:cL X.n dst=true:=by rfl) (hf:cD G dst=true:=by rfl):
  VO X ops G (⟨dst,.load T x,ty,pos,after,guard⟩::l) e L K:=VO.load hx hT (ax.one i hL hv ha) hk hg hd hf
theorem VO.dQ{T:TypeId}{x:Operand}{ti:TI}{b off t:Nat}{cs:List Value}(i:Nat)(ds:List Value)(hx:ev e x=some (.pointer (some ⟨b,off,none⟩)))(hL:L[i]?=some (pt b cs t))(hT:bS X.tab T=some ti)(hv:(cs.drop off).take ti.size=ds)
  (hk:VO X ops G l (bX dst (.agg ds.toArray) e) L K) (hl:ds.length=ti.size:=by rfl) (ha:ti.aJ.agg=true:=by rfl)
  (hg:cy ops G guard=some true:=by rfl) (hd:cL X.n dst=true:=by rfl) (hf:cD G dst=true:=by rfl):
  VO X ops G (⟨dst,.load T x,ty,pos,after,guard⟩::l) e L K:=VO.load hx hT (ax.many i hL hv hl ha) hk hg hd hf
theorem Xs{P:Program}{T:Nat}{ti:TI}(h:aS P T ti){w:World}{b off t:Nat}{cs vs:List Value}{v:Value}(hb:w.heap[b]?=some (.cells cs.toArray t (0,0)))(hv:v.cells=vs.toArray)(hs:vs.length=ti.size)(hl:off+vs.length≤cs.length)(h1:vs.all Value.oneCell'=true):
  (Instr.storeAt T (.pointer (some ⟨b,off,none⟩)) v).run P w=.ok () (eu w b (.cells (dT cs off vs).toArray t (0,0))):=by
 obtain⟨i,hi,hsz,_,_⟩:=h.og
 have hr:=GR (P:=P) vs 0 off w cs hb (by simpa using hl) h1
 simp only[yM] at hr
 have hcs:¬(v.cells.size≠i.size):=by rw[hv,hsz];simp[hs]
 simp[Instr.storeAt,Instr.sureAddr,storeVar,Sem.run_bind,mu hi,hv,hsz,hs,hr]
theorem aQ.store{T:TypeId}{x y:Operand}{ti:TI}{b off t:Nat}{cs vs:List Value}{v:Value}(i:Nat)(hx:ev e x=some (.pointer (some ⟨b,off,none⟩)))(hy:ev e y=some v)(hL:L[i]?=some (pt b cs t))
  (hT:bS X.tab T=some ti) (hv:v.cells=vs.toArray) (hs:vs.length=ti.size) (hl:off+vs.length≤cs.length) (h1:vs.all Value.oneCell'=true):
  aQ X (.store T x y) e L (fun u L'=>u=undef∧L'=L.set i (pt b (dT cs off vs) t)):=fun a w ha hw dst ty pos after guard=>by
 refine .inr (.inl ⟨_,_,?_,⟨rfl,Z⟩,hw.set hL⟩)
 simp only[execOp,ha.ev hx,ha.ev hy]
 rw[Sem.run_bind,Xs (X.ok.look hT) (hw.sj hL).1 hv hs hl h1];rfl
theorem VO.st{T:TypeId}{x y:Operand}{ti:TI}{b off t:Nat}{cs cs':List Value}{v:Value}{L':List HP}(i:Nat)(hx:ev e x=some (.pointer (some ⟨b,off,none⟩)))(hy:ev e y=some v)(hL:L[i]?=some (pt b cs t))
  (hT:bS X.tab T=some ti) (hlt:off<cs.length) (hcs:cs.set off v=cs') (hL':L.set i (pt b cs' t)=L')
  (hk:VO X ops G l (bX dst undef e) L' K) (h1:v.oneCell'=true:=by rfl) (hv:v.cells=#[v]:=by rfl) (hsz:ti.size=1:=by rfl)
  (hg:cy ops G guard=some true:=by rfl) (hd:cL X.n dst=true:=by rfl) (hf:cD G dst=true:=by rfl):
  VO X ops G (⟨dst,.store T x y,ty,pos,after,guard⟩::l) e L K:=by
 refine VO.op hg hd hf (aQ.store (vs:=[v]) i hx hy hL hT hv (by simp[hsz]) ye yg) (fun _ _ ⟨h3,h4⟩=>?_)
 subst h3;subst h4
 rw[Hr cs off v hlt,hcs,hL'];exact hk
theorem VO.AF{T:TypeId}{x y:Operand}{ti:TI}{b off t:Nat}{cs cs' vs:List Value}{L':List HP}(i:Nat)(hx:ev e x=some (.pointer (some ⟨b,off,none⟩)))(hy:ev e y=some (.agg vs.toArray))(hL:L[i]?=some (pt b cs t))
  (hT:bS X.tab T=some ti) (hl:off+vs.length≤cs.length) (hcs:dT cs off vs=cs') (hL':L.set i (pt b cs' t)=L') (h1:vs.all Value.oneCell'=true)
  (hk:VO X ops G l (bX dst undef e) L' K) (hs:vs.length=ti.size:=by rfl)
  (hg:cy ops G guard=some true:=by rfl) (hd:cL X.n dst=true:=by rfl) (hf:cD G dst=true:=by rfl):
  VO X ops G (⟨dst,.store T x y,ty,pos,after,guard⟩::l) e L K:=by
 refine VO.op hg hd hf (aQ.store (vs:=vs) i hx hy hL hT Z hs hl h1) (fun _ _ ⟨h3,h4⟩=>?_)
 subst h3;subst h4
 rw[hcs,hL'];exact hk
theorem vu{P:Program}{t:Nat}{ti:TI}(h:aS P t ti)(w:World):(zeroValue t).run P w=.ok ti.zero w:=by
 obtain⟨i,hi,_,_,hz⟩:=h.og
 simp[zeroValue,typeInfo,hi,hz]
theorem aQ.alloc{T:TypeId}{ti:TI}(hT:bS X.tab T=some ti):aQ X (.alloc T) e L (fun u L'=>∃b,u=.pointer (some ⟨b,0,none⟩)∧L'=pt b ti.zs T::L):=fun a w _ hw dst ty pos after guard=>by
 refine .inl ⟨.pointer (some ⟨w.heap.size,0,none⟩),w.alloc (.cells ti.zs.toArray T),pt w.heap.size ti.zs T::L,?_,⟨w.heap.size,Z,Z⟩,hw.alloc ti.zs T⟩
 have h:=X.ok.look hT
 simp[execOp,Instr.alloc,vu h,newVar,newRow,newObj,Sem.run,h.zero]
theorem VO.alloc{T:TypeId}{ti:TI}(hT:bS X.tab T=some ti)(hk:∀b,VO X ops G l (bX dst (.pointer (some ⟨b,0,none⟩)) e) (pt b ti.zs T::L) K)
  (hg:cy ops G guard=some true:=by rfl) (hd:cL X.n dst=true:=by rfl) (hf:cD G dst=true:=by rfl):
  VO X ops G (⟨dst,.alloc T,ty,pos,after,guard⟩::l) e L K:=
 VO.op hg hd hf (aQ.alloc hT) (fun _ _ ⟨b,h1,h2⟩=>by subst h1;subst h2;exact hk b)
theorem aQ.box{T:TypeId}{x:Operand}{v:Value}{vs:List Value}(hx:ev e x=some v)(hv:v.cells=vs.toArray):aQ X (.box T x) e L (fun u L'=>∃b,u=.pointer (some ⟨b,0,none⟩)∧L'=pt b vs T::L):=fun a w ha hw dst ty pos after guard=>by
 refine .inl ⟨.pointer (some ⟨w.heap.size,0,none⟩),w.alloc (.cells vs.toArray T),pt w.heap.size vs T::L,?_,⟨w.heap.size,Z,Z⟩,hw.alloc vs T⟩
 simp[execOp,Instr.box,ha.ev hx,newVar,newRow,newObj,Sem.run,hv]
theorem VO.Ju{T:TypeId}{x:Operand}{vs:List Value}(hx:ev e x=some (.agg vs.toArray))(hk:∀b,VO X ops G l (bX dst (.pointer (some ⟨b,0,none⟩)) e) (pt b vs T::L) K)
  (hg:cy ops G guard=some true:=by rfl) (hd:cL X.n dst=true:=by rfl) (hf:cD G dst=true:=by rfl):
  VO X ops G (⟨dst,.box T x,ty,pos,after,guard⟩::l) e L K:=
 VO.op hg hd hf (aQ.box hx rfl) (fun _ _ ⟨b,h1,h2⟩=>by subst h1;subst h2;exact hk b)
theorem VO.EG{T:TypeId}{x:Operand}{v:Value}(hx:ev e x=some v)(hk:∀b,VO X ops G l (bX dst (.pointer (some ⟨b,0,none⟩)) e) (pt b [v] T::L) K)(hv:v.cells=#[v]:=by rfl)
  (hg:cy ops G guard=some true:=by rfl) (hd:cL X.n dst=true:=by rfl) (hf:cD G dst=true:=by rfl):
  VO X ops G (⟨dst,.box T x,ty,pos,after,guard⟩::l) e L K:=
 VO.op hg hd hf (aQ.box hx hv) (fun _ _ ⟨b,h1,h2⟩=>by subst h1;subst h2;exact hk b)
end
end Vg
namespace Vg
open Go
def waits(ops:Array Oper)(j i:Nat):Bool:=
 match ops[j]? with
 | some o=>o.after.any fun e=>Region.binds .any e&&e.on == i
 | none=>false
theorem abU{P:Program}{ρ:Operand→Value}{o:Oper}{w w':World}{v:Value}(h:(execOp ρ o).run P w=.ok (.value v) w'):∀c,o.op≠.defer c:=by
 obtain⟨dst,op,ty,pos,after,guard⟩:=o
 rintro c rfl
 have e:execOp ρ ⟨dst,.defer c,ty,pos,after,guard⟩=(do pure (.defer (←resolve ρ c ty))):=rfl
 rw[e,Sem.run_bind] at h
 cases h2:(resolve ρ c ty).run P w with
 | ok d w2=>rw[h2] at h;cases h
 | halt y w2=>rw[h2] at h;cases h
section
variable {P:Program} {ops:Array Oper} {Q:Exit→Act→World→Prop} {ro:Option Nat}
theorem Xx(o:Oper)(hs:∀cs b,o.op≠.select cs b)(a:Act)(dst:Option Tmp)(v:Value)(h:∀d,dst=some d→d∉o.looksAt ops):
  o.semAt (wR ro).round (a.put dst v).eval=o.semAt (wR ro).round a.eval:=by
 by_cases hd:∃c,o.op=.defer c
 ·obtain⟨c,hc⟩:=hd
  have hr:=resolve_congr (ρ:=(a.put dst v).eval) (ρ':=a.eval) c o.type fun x hx=>Act.eval_put fun d hd hxd=>h d hd (by
   subst hxd
   exact List.mem_append_left _ (List.mem_filterMap.2 ⟨.tmp d,by rw[hc];simpa[Op.operands] using hx,Z⟩))
  unfold Oper.semAt
  cases hro:(wR ro).round with
  | none=>exact execOp_put o hs a dst v h
  | some l=>
   rw[hc]
   dsimp only
   rw[hr]
 ·have hn:∀c,o.op≠.defer c:=fun c e=>hd ⟨c,e⟩
  rw[Oper.semAt_eq _ _ o hn,Oper.semAt_eq _ _ o hn,execOp_put o hs a dst v h]
theorem Qw{S:World→Prop}{i:Nat}{o:Oper}{v:Value}{a:Act}(hi:ops[i]?=some o)(hy:YieldsIf P ops S o v a)
  {K:Act→World→Prop} {w:World} (hS:S w) (h:K (a.put o.dst v) w):wpOpIn (wR ro) 0 P ops Q i K a w:=by
 unfold wpOpIn
 simp only[hi]
 rcases hy with ⟨hw,hv⟩ | ⟨hw,rfl⟩
 ·simp only[hw,if_true]
  refine⟨fun _ _=>trivial,?_⟩
  rw[GX ro _ o (abU (hv w hS)),hv w hS]
  exact h
 ·simp only[hw,Bool.false_eq_true,if_false]
  exact⟨fun _ _=>trivial,h⟩
theorem acm{S:World→Prop}{j:Nat}{oi oj:Oper}{v:Value}(hj:ops[j]?=some oj)(hap:oi.apart ops oj=true)
  (hsi:∀cs b,oi.op≠.select cs b) (hsj:∀cs b,oj.op≠.select cs b)
  (hQ:∀c a w,Q (.panic c) (a.put oi.dst v) w→Q (.panic c) a w) {K:Act→World→Prop} {a:Act} {w:World}
  (hy:YieldsIf P ops S oi v a) (h:wpOpIn (wR ro) 0 P ops Q j K (a.put oi.dst v) w):
  wpOpIn (wR ro) 0 P ops Q j (fun a' w'=>YieldsIf P ops S oi v a'∧K (a'.put oi.dst v) w') a w:=by
 obtain⟨h1,h2,h3⟩:=Oper.apart_spec hap
 have cS:∀(a:Act),YieldsIf P ops S oi v a→∀u,YieldsIf P ops S oi v (a.put oj.dst u):=fun a hy u=>
  hy.of_same (execOp_put oi hsi a oj.dst u h3) (wanted_put oi a oj.dst u h3)
 have keepD:∀d,YieldsIf P ops S oi v { a with defers:=d::a.defers }:=fun d=>hy.of_same rfl rfl
 unfold wpOpIn at *
 simp only[hj] at *
 rw[wanted_put oj a oi.dst v h1] at h
 split
 ·rename_i hw
  simp only[hw,if_true] at h
  refine⟨fun _ _=>trivial,?_⟩
  have h:=h.2
  rw[Xx oj hsj a oi.dst v h1] at h
  generalize (oj.semAt (wR ro).round a.eval).run P w=r at *
  cases r with
  | ok x w'=>
   cases x<;>simp only[Oper.uponIn] at h ⊢
   case value u=>exact⟨cS a hy u,by rw[←Act.put_comm a v u h2];exact h⟩
   case skip=>exact⟨cS a hy _,by rw[←Act.put_comm a v undef h2];exact h⟩
   case defer d=>
    refine⟨cS _ (keepD d) _,?_⟩
    rw[←Act.put_comm _ v undef h2,←Act.put_defers]
    exact h
   case enter f args=>
    refine⟨h.1,CallsIn.mono h.2 fun e w'' he=>?_⟩
    cases e with
    | returned u=>exact⟨cS a hy u,by rw[←Act.put_comm a v u h2];exact he⟩
    | panicked c=>exact hQ _ _ _ he
    | outgrown=>exact he
   case row row args=>exact⟨h.1,RowsIn.mono h.2 fun u w'' he=>⟨cS a hy u,by rw[←Act.put_comm a v u h2];exact he⟩⟩
   case round l f tmps assign body=>
    refine⟨h.1,RoundIn.mono h.2 fun e w'' he=>?_⟩
    cases e with
    | returned u=>exact⟨cS a hy u,by rw[←Act.put_comm a v u h2];exact he⟩
    | panicked c=>exact hQ _ _ _ he
    | outgrown=>exact he
  | halt x w'=>
   cases x<;>simp only[Oper.uponIn] at h ⊢
   case panic u=>exact hQ _ _ _ h
 ·rename_i hw
  simp only[hw] at h
  exact⟨fun _ _=>trivial,cS a hy _,by rw[←Act.put_comm a v undef h2];exact h.2⟩
end
section
variable {P:Program} {ops:Array Oper} {Q:Exit→Act→World→Prop} {ro:Option Nat}
abbrev kk:=List (Nat×(World→Prop))
def sV(ro:Option Nat)(P:Program)(ops:Array Oper)(Q:Exit→Act→World→Prop):Nat→Array Bool→kk→Act→World→Prop
 | 0,listed,_,a,w=>Region.ready .any ops listed=[]∧Q .normal a w
 | fuel+1,listed,S,a,w=>
  (Region.ready .any ops listed=[]→Q .normal a w) ∧
  ∀j∈Region.ready .any ops listed,wpOpIn (wR ro) 0 P ops Q j (fun a' w'=>(∀p∈S,waits ops j p.1=false→p.2 w') ∧
   sV ro P ops Q fuel (listed.setIfInBounds j true) (S.filter fun p=>!waits ops j p.1) a' w') a w
theorem Om:∀(fuel:Nat) (listed:Array Bool) (S S':kk) (a:Act) (w:World),(∀p∈S',p∈S)→sV ro P ops Q fuel listed S a w→sV ro P ops Q fuel listed S' a w
 | 0,_,_,_,_,_,_,h=>h
 | fuel+1,_,S,S',_,_,hs,h=>⟨h.1,fun j hj=>wpOpIn_mono (fun a' w' h'=>⟨fun p hp=>h'.1 p (hs p hp),Om fuel _ _ _ a' w' (fun p hp=>by
   rw[iC] at hp ⊢;exact⟨hs p hp.1,hp.2⟩) h'.2⟩) (h.2 j hj)⟩
theorem On:∀(fuel:Nat) (listed:Array Bool) (S:kk) (a:Act) (w:World),sV ro P ops Q fuel listed S a w→wpAnyIn (wR ro) 0 P .any ops Q fuel listed a w
 | 0,_,_,_,_,h=>h
 | fuel+1,_,_,_,_,h=>⟨h.1,fun j hj=>wpOpIn_mono (fun a' w' h'=>On fuel _ _ a' w' h'.2) (h.2 j hj)⟩
theorem acj{i:Nat}{oi:Oper}{v:Value}{Si:World→Prop}(hi:ops[i]?=some oi)(hsel:∀(j:Nat) (o:Oper) cs b,ops[j]?=some o→o.op≠.select cs b)
  (hQ:∀c a w,Q (.panic c) (a.put oi.dst v) w→Q (.panic c) a w):
  ∀(fuel:Nat) (listed:Array Bool) (S:kk) (a:Act) (w:World),
   (∀j oj,ops[j]?=some oj→j≠i→listed.getD j true=false→(∀e∈oj.after,Region.binds .any e=true→e.on≠i)→oi.apart ops oj=true) →
   i∈Region.ready .any ops listed→YieldsIf P ops Si oi v a→Si w→(∀p∈S,p.2 w) →
   sV ro P ops Q fuel (listed.setIfInBounds i true) ((i,Si)::S) (a.put oi.dst v) w→sV ro P ops Q (fuel+1) listed S a w:=by
 intro fuel
 induction fuel with
 | zero=>
  intro listed S a w _ hr hy hS hall H
  refine⟨fun h=>(by rw[h] at hr;cases hr),fun j hj=>?_⟩
  by_cases hji:j=i
  ·subst hji;exact Qw hi hy hS ⟨fun p hp _=>hall p hp,H⟩
  ·have:=ready_mono hj hji
   rw[H.1] at this
   cases this
 | succ fuel ih=>
  intro listed S a w hfree hr hy hS hall H
  refine⟨fun h=>(by rw[h] at hr;cases hr),fun j hj=>?_⟩
  by_cases hji:j=i
  ·subst hji
   exact Qw hi hy hS ⟨fun p hp _=>hall p hp,Om _ _ _ _ _ _ (fun p hp=>i_ _ (iC.1 hp).1) H⟩
  ·have h1:=H.2 j (ready_mono hj hji)
   obtain⟨hjun,oj,hoj,hall'⟩:=mem_ready.1 hj
   have hnot:∀e∈oj.after,Region.binds .any e=true→e.on≠i:=fun e he hb heq=>by
    have h1:=hall' e he hb
    have h0:=(mem_ready.1 hr).1
    rw[heq] at h1
    rcases Nat.lt_or_ge i listed.size with h' | h'
    ·simp[h'] at h0 h1;rw[h0] at h1;cases h1
    ·simp[Array.getElem?_eq_none h'] at h1
   have hwt:waits ops j i=false:=by
    unfold waits;rw[hoj]
    cases hany:oj.after.any fun e=>Region.binds .any e&&e.on == i
    ·exact hany
    ·obtain⟨e,he,hb⟩:=Array.any_eq_true'.1 hany
     simp only[dN,beq_iff_eq] at hb
     exact(hnot e he hb.1 hb.2).elim
   have h2:=acm hoj (hfree j oj hoj hji hjun hnot) (fun cs b=>hsel i oi cs b hi) (fun cs b=>hsel j oj cs b hoj) hQ hy h1
   have hfree':∀k ok,ops[k]?=some ok→k≠i→(listed.setIfInBounds j true).getD k true=false →
     (∀e∈ok.after,Region.binds .any e=true→e.on≠i)→oi.apart ops ok=true:=fun k ok hk hki hun hno=>by
    refine hfree k ok hk hki ?_ hno
    by_cases hjk:j=k
    ·subst hjk;exact hjun
    ·rw[getD_set_ne true hjk] at hun;exact hun
   refine wpOpIn_mono (fun a' w' h3=>?_) h2
   obtain⟨hy',hst,H'⟩:=h3
   refine⟨fun p hp hq=>hst p (i_ _ hp) hq,?_⟩
   refine ih (listed.setIfInBounds j true) _ a' w' hfree' (ready_mono hr (Ne.symm hji)) hy' (hst (i,Si) (mW ..) hwt) (fun p hp=>?_) ?_
   ·have:=iC.1 hp
    exact hst p (i_ _ this.1) (by simpa using this.2)
   ·rw[Array.setIfInBounds_comm _ _ hji]
    rw[List.filter_cons_of_pos (by simp[hwt])] at H'
    exact H'
theorem Hp:∀(fuel:Nat) (listed:Array Bool) (S S':kk) (a:Act) (w:World),(∀p∈S',p∈S∨∀w,p.2 w)→sV ro P ops Q fuel listed S a w→sV ro P ops Q fuel listed S' a w
 | 0,_,_,_,_,_,_,h=>h
 | fuel+1,_,S,S',_,_,hs,h=>⟨h.1,fun j hj=>wpOpIn_mono (fun a' w' h'=>⟨fun p hp hq=>(hs p hp).elim (fun h=>h'.1 p h hq) (fun h=>h w'),Hp fuel _ _ _ a' w' (fun p hp=>by
   rw[iC] at hp
   rcases hs p hp.1 with h1 | h1
   ·exact .inl (iC.2 ⟨h1,hp.2⟩)
   ·exact .inr h1) h'.2⟩) (h.2 j hj)⟩
inductive iE where
 | nil
 | take (i:Nat) (p:iE)
 | only(i:Nat) (p:iE)
 | two (i j:Nat) (p q:iE)
 | three (i j m:Nat) (p q r:iE)
def iE.len:iE→Nat
 | .nil=>0
 | .take _ p=>p.len+1
 | .only _ p=>p.len+1
 | .two _ _ p _=>p.len+1
 | .three _ _ _ p _ _=>p.len+1
def ts(i:Nat):Nat→iE→iE
 | 0,p=>p
 | n+1,p=>.take i (ts (i+1) n p)
def nA(ops:Array Oper):Array Bool→iE→Bool
 | listed,.nil=>(Region.ready .any ops listed).isEmpty
 | listed,.take i r=>(Region.ready .any ops listed).contains i&&Region.free .any ops listed i&&nA ops (listed.setIfInBounds i true) r
 | listed,.only i r=>(Region.ready .any ops listed == [i])&&nA ops (listed.setIfInBounds i true) r
 | listed,.two i j p q=>(Region.ready .any ops listed == [i,j])&&nA ops (listed.setIfInBounds i true) p&&nA ops (listed.setIfInBounds j true) q&&Nat.beq p.len q.len
 | listed,.three i j m p q r=>(Region.ready .any ops listed == [i,j,m])&&nA ops (listed.setIfInBounds i true) p&&nA ops (listed.setIfInBounds j true) q&&nA ops (listed.setIfInBounds m true) r&&Nat.beq p.len q.len&&Nat.beq p.len r.len
end
def VA(X:Cx)(ops:Array Oper)(G:GS)(pl:iE)(S:kk)(e:Env)(L:List HP)(K:Env→List HP→Prop):Prop:=
 ∀(Q':Exit→Act→World→Prop),(∀c a w,¬Q' (.panic c) a w)→(∀e' L' a' w',dO X.n a' e'→St X L' w'→K e' L'→Q' .normal a' w')→Region.noSelect ops=true →
  ∀ro listed a w,nA ops listed pl=true→dO X.n a e→nT G a→St X L w→(∀p∈S,p.2 w)→sV ro X.P ops Q' pl.len listed S a w
section
variable {X:Cx} {ops:Array Oper} {G:GS} {pl:iE} {S:kk} {e:Env} {L:List HP} {K:Env→List HP→Prop}
theorem VA.nil(h:K e L):VA X ops G .nil S e L K:=by
 intro Q' _ hQ _ ro listed a w hp ha _ hw _
 simp only[nA,List.isEmpty_iff] at hp
 exact⟨hp,hQ _ _ _ _ ha hw h⟩
theorem VA.first{i:Nat}{o:Oper}{v:Value}{Si:World→Prop}(hi:ops.toList[i]?=some o)(hd:cL X.n o.dst=true)(hf:cD G o.dst=true)
  (hy:∀a,dO X.n a e→nT G a→YieldsIf X.P ops Si o v a) (hS:∀w,St X L w→Si w) (hk:VA X ops G pl ((i,Si)::S) (bX o.dst v e) L K):VA X ops G (.take i pl) S e L K:=by
 intro Q' hp0 hQ hsel ro listed a w hp ha hG hw hall
 simp only[nA,dN] at hp
 have hi':ops[i]?=some o:=by simpa using hi
 exact acj hi' (Region.noSelect_spec hsel) (fun c a w h=>(hp0 c _ w h).elim) pl.len listed S a w (Region.free_spec hi' hp.1.2) (by simpa using hp.1.1) (hy a ha hG) (hS w hw) hall
  (hk Q' hp0 hQ hsel ro _ _ w hp.2 (ha.bX hd v) (hG.put hf v) hw (fun p h=>by
   rcases jK.1 h with rfl | h
   ·exact hS w hw
   ·exact hall p h))
theorem VA.pure{i:Nat}{o:Oper}{v:Value}(hi:ops.toList[i]?=some o)(hg:cy ops G o.guard=some true)(hd:cL X.n o.dst=true)(hf:cD G o.dst=true)
  (hl:fN X o.op e v) (hk:VA X ops G pl S (bX o.dst v e) L K):VA X ops G (.take i pl) S e L K:=by
 refine VA.first (Si:=fun _=>True) hi hd hf (fun a ha hG=>.inl ⟨pj hG hg,fun w _=>hl a ha _ _ _ _ _ w⟩) (fun _ _=>trivial) ?_
 intro Q' hp0 hQ hsel ro listed a w hp ha hG hw hall
 have:=hk Q' hp0 hQ hsel ro listed a w hp ha hG hw (fun p h=>hall p (i_ _ h))
 exact Hp pl.len listed S _ a w (fun p hp=>by
  rcases jK.1 hp with rfl | hp
  ·exact .inr fun _=>trivial
  ·exact .inl hp) this
theorem VA.off{i:Nat}{o:Oper}(hi:ops.toList[i]?=some o)(hg:cy ops G o.guard=some false)(hd:cL X.n o.dst=true)(hf:cD G o.dst=true)
  (hk:VA X ops G pl S (bX o.dst undef e) L K):VA X ops G (.take i pl) S e L K:=by
 refine VA.first (Si:=fun _=>True) hi hd hf (fun a ha hG=>.inr ⟨pj hG hg,Z⟩) (fun _ _=>trivial) ?_
 intro Q' hp0 hQ hsel ro listed a w hp ha hG hw hall
 have:=hk Q' hp0 hQ hsel ro listed a w hp ha hG hw (fun p h=>hall p (i_ _ h))
 exact Hp pl.len listed S _ a w (fun p hp=>by
  rcases jK.1 hp with rfl | hp
  ·exact .inr fun _=>trivial
  ·exact .inl hp) this
theorem VA.load{i:Nat}{dst:Option Tmp}{ty:TypeId}{pos:String}{after:Array Edge}{guard:Option (Nat×Bool)}{T:TypeId}{x:Operand}{ti:TI}{b off:Nat}{v:Value}
  (hi:ops.toList[i]?=some ⟨dst,.load T x,ty,pos,after,guard⟩) (hx:ev e x=some (.pointer (some ⟨b,off,none⟩))) (hT:bS X.tab T=some ti) (hr:ax X L ti b off v)
  (hk:VA X ops G pl ((i,Rd ti.aJ.agg ti.size b off v)::S) (bX dst v e) L K)
  (hg:cy ops G guard=some true:=by rfl) (hd:cL X.n dst=true:=by rfl) (hf:cD G dst=true:=by rfl):VA X ops G (.take i pl) S e L K:=
 VA.first (Si:=Rd ti.aJ.agg ti.size b off v) hi hd hf (fun _ ha hG=>.inl ⟨pj hG hg,fun _ hw=>run_load hx hT ha hw _ _ _ _ _⟩) hr hk
theorem VA.ld{j:Nat}{dst:Option Tmp}{ty:TypeId}{pos:String}{after:Array Edge}{guard:Option (Nat×Bool)}{T:TypeId}{x:Operand}{ti:TI}{b off t:Nat}{cs:List Value}{v:Value}(i:Nat)
  (hi:ops.toList[j]?=some ⟨dst,.load T x,ty,pos,after,guard⟩) (hx:ev e x=some (.pointer (some ⟨b,off,none⟩))) (hL:L[i]?=some (pt b cs t)) (hT:bS X.tab T=some ti) (hv:cs[off]?=some v)
  (hk:VA X ops G pl ((j,Rd ti.aJ.agg ti.size b off v)::S) (bX dst v e) L K) (ha:ti.aJ.agg=false:=by rfl)
  (hg:cy ops G guard=some true:=by rfl) (hd:cL X.n dst=true:=by rfl) (hf:cD G dst=true:=by rfl):VA X ops G (.take j pl) S e L K:=
 VA.load hi hx hT (ax.one i hL hv ha) hk hg hd hf
theorem VA.dQ{j:Nat}{dst:Option Tmp}{ty:TypeId}{pos:String}{after:Array Edge}{guard:Option (Nat×Bool)}{T:TypeId}{x:Operand}{ti:TI}{b off t:Nat}{cs:List Value}(i:Nat)(ds:List Value)
  (hi:ops.toList[j]?=some ⟨dst,.load T x,ty,pos,after,guard⟩) (hx:ev e x=some (.pointer (some ⟨b,off,none⟩))) (hL:L[i]?=some (pt b cs t)) (hT:bS X.tab T=some ti) (hv:(cs.drop off).take ti.size=ds)
  (hk:VA X ops G pl ((j,Rd ti.aJ.agg ti.size b off (.agg ds.toArray))::S) (bX dst (.agg ds.toArray) e) L K) (hl:ds.length=ti.size:=by rfl) (ha:ti.aJ.agg=true:=by rfl)
  (hg:cy ops G guard=some true:=by rfl) (hd:cL X.n dst=true:=by rfl) (hf:cD G dst=true:=by rfl):VA X ops G (.take j pl) S e L K:=
 VA.load hi hx hT (ax.many i hL hv hl ha) hk hg hd hf
theorem VA.op{i:Nat}{o:Oper}{M:Value→List HP→Prop}(hi:ops.toList[i]?=some o)
  (hg:cy ops G o.guard=some true) (hd:cL X.n o.dst=true) (hf:cD G o.dst=true) (h:aQ X o.op e L M)
  (hst:∀v L',M v L'→∀w,St X L' w→∀p∈S,waits ops i p.1=false→p.2 w)
  (hk:∀v L',M v L'→VA X ops G pl (S.filter fun p=>!waits ops i p.1) (bX o.dst v e) L' K):VA X ops G (.only i pl) S e L K:=by
 intro Q' hp0 hQ hsel ro listed a w hp ha hG hw hall
 simp only[nA,dN,beq_iff_eq] at hp
 have hi':ops[i]?=some o:=by simpa using hi
 have hpr:=hp.1
 refine⟨fun h0=>yh,fun j hj=>?_⟩
 rw[hpr,eA] at hj
 subst hj
 unfold wpOpIn
 rw[hi']
 simp only[pj hG hg,if_true]
 refine h.wp ha hw (fun v L' w' hm hs=>⟨fun p hp1 hp2=>hst v L' hm w' hs p hp1 hp2,?_⟩)
 exact OA
theorem VA.two{i j:Nat}{oi oj:Oper}{p q:iE}{M N:Value→List HP→Prop}(hi:ops.toList[i]?=some oi)(hj:ops.toList[j]?=some oj)
  (hgi:cy ops G oi.guard=some true) (hdi:cL X.n oi.dst=true) (hfi:cD G oi.dst=true) (hi2:aQ X oi.op e L M)
  (hgj:cy ops G oj.guard=some true) (hdj:cL X.n oj.dst=true) (hfj:cD G oj.dst=true) (hj2:aQ X oj.op e L N)
  (hsti:∀v L',M v L'→∀w,St X L' w→∀p∈S,waits ops i p.1=false→p.2 w) (hstj:∀v L',N v L'→∀w,St X L' w→∀p∈S,waits ops j p.1=false→p.2 w)
  (hki:∀v L',M v L'→VA X ops G p (S.filter fun p=>!waits ops i p.1) (bX oi.dst v e) L' K)
  (hkj:∀v L',N v L'→VA X ops G q (S.filter fun p=>!waits ops j p.1) (bX oj.dst v e) L' K):VA X ops G (.two i j p q) S e L K:=by
 intro Q' hp0 hQ hsel ro listed a w hp ha hG hw hall
 simp only[nA,dN,beq_iff_eq] at hp
 obtain⟨⟨⟨hpr,hpi⟩,hpj⟩,hlen⟩:=hp
 have hlen:=o7 hlen
 have hi':ops[i]?=some oi:=by simpa using hi
 have hj':ops[j]?=some oj:=by simpa using hj
 refine⟨fun h0=>yh,fun k hk=>?_⟩
 rw[hpr] at hk
 rcases jK.1 hk with rfl | hk
 ·unfold wpOpIn
  rw[hi']
  simp only[pj hG hgi,if_true]
  refine hi2.wp ha hw (fun v L' w' hm hs=>⟨fun p hp1 hp2=>hsti v L' hm w' hs p hp1 hp2,?_⟩)
  exact hki v L' hm Q' hp0 hQ hsel ro _ _ w' hpi (ha.bX hdi v) (hG.put hfi v) hs (fun p hp1=>hsti v L' hm w' hs p (iC.1 hp1).1 yi)
 ·rw[eA] at hk
  subst hk
  unfold wpOpIn
  rw[hj']
  simp only[pj hG hgj,if_true]
  refine hj2.wp ha hw (fun v L' w' hm hs=>⟨fun p hp1 hp2=>hstj v L' hm w' hs p hp1 hp2,?_⟩)
  rw[hlen]
  exact hkj v L' hm Q' hp0 hQ hsel ro _ _ w' hpj (ha.bX hdj v) (hG.put hfj v) hs (fun p hp1=>hstj v L' hm w' hs p (iC.1 hp1).1 yi)
theorem VA.split(d:Nat){b:Bool}(hb:look e d=some (.bool b))(hd:Nat.blt d X.n=true)
  (ht:b=true→VA X ops ((d,true)::G) pl S ((d,.bool true)::e) L K) (hf:b=false→VA X ops ((d,false)::G) pl S ((d,.bool false)::e) L K):VA X ops G pl S e L K:=by
 intro Q' hp0 hQ hsel ro listed a w hp ha hG hw hall
 have hs:a.tmps[d]?=some (.bool b):=by
  have:=ha.at_ d _ hb
  have hlt:d<a.tmps.size:=by rw[ha.size];exact Nat.blt_eq.mp hd
  simpa[hlt] using this
 have key:∀c,b=c→dO X.n a ((d,.bool c)::e)∧nT ((d,c)::G) a:=fun c hc=>by
  subst hc
  refine⟨⟨ha.size,ha.defers,fun t u ht=>?_⟩,fun t u ht=>?_⟩
  ·simp only[look] at ht
   cases hq:Nat.beq d t
   ·rw[hq] at ht;exact ha.at_ t u ht
   ·rw[hq] at ht
    have:=o7 hq
    subst this
    simp only[cond_true,Option.some.injEq] at ht
    subst ht;exact ha.at_ _ _ hb
  ·simp only[qf] at ht
   cases hq:Nat.beq d t
   ·rw[hq] at ht;exact hG t u ht
   ·rw[hq] at ht
    have:=o7 hq
    subst this
    simp only[cond_true,Option.some.injEq] at ht
    subst ht;exact hs
 cases b
 ·exact hf Z Q' hp0 hQ hsel ro listed a w hp (key _ Z).1 (key _ Z).2 hw hall
 ·exact ht Z Q' hp0 hQ hsel ro listed a w hp (key _ Z).1 (key _ Z).2 hw hall
theorem VA.yes(d:Nat){b:Bool}(c:Bool)(hb:look e d=some (.bool b))(hc:b=c)(h:VA X ops ((d,c)::G) pl S ((d,.bool c)::e) L K)(hd:Nat.blt d X.n=true:=by rfl):VA X ops G pl S e L K:=by
 subst hc
 refine VA.split d hb hd (fun h'=>?_) (fun h'=>?_)
 ·subst h';exact h
 ·subst h';exact h
theorem VA.ah{L':List HP}(hs:dq X L L')(h:VA X ops G pl S e L' K):VA X ops G pl S e L K:=
 fun Q' hp0 hQ hsel ro listed a w hp ha hG hw hall=>h Q' hp0 hQ hsel ro listed a w hp ha hG (hs w hw) hall
end
def xq(n:Nat)(tab:m_)(ops:List Oper)(G:GS):iE→Env→(iE→Env→Prop)→Prop
 | .nil,e,k=>k .nil e
 | .only i r,e,k=>k (.only i r) e
 | .two i j p q,e,k=>k (.two i j p q) e
 | .three i j m p q r,e,k=>k (.three i j m p q r) e
 | .take i r,e,k=>vf ops i (fun o=>match o.dst with
  | none=>k (.take i r) e
  | some d=>match qf G d,Nat.blt d n with
   | none,true=>match o.guard with
    | none=>xm tab e o.op (fun v=>xq n tab ops G r ((d,v)::e) k) (k (.take i r) e)
    | some (j,want)=>vf ops j (fun oj=>match oj.dst with
     | some dj=>match qf G dj with
      | some b=>match gB b want with
       | true=>xm tab e o.op (fun v=>xq n tab ops G r ((d,v)::e) k) (k (.take i r) e)
       | false=>xq n tab ops G r ((d,undef)::e) k
      | none=>k (.take i r) e
     | none=>k (.take i r) e) (k (.take i r) e)
   | _,_=>k (.take i r) e) (k (.take i r) e)
theorem VA.go{X:Cx}{ops:Array Oper}{G:GS}{S:kk}{L:List HP}{K:Env→List HP→Prop}:∀{pl:iE} {e:Env},
  xq X.n X.tab ops.toList G pl e (fun pl' e'=>VA X ops G pl' S e' L K)→VA X ops G pl S e L K
 | .nil,e,h=>h
 | .only i r,e,h=>h
 | .two i j p q,e,h=>h
 | .three i j m p q r,e,h=>h
 | .take i r,e,h=>by
  unfold xq at h
  rcases xh h with ⟨o,ho,h⟩ | h
  case inr=>exact h
  split at h
  ·exact h
  ·rename_i d hd
   split at h
   ·rename_i hgl hlt
    have hdst:cL X.n o.dst=true:=by rw[hd];exact hlt
    have hfree:cD G o.dst=true:=by rw[hd];simp[cD,hgl]
    have step:∀{v},cy ops G o.guard=some true→fN X o.op e v→xq X.n X.tab ops.toList G r ((d,v)::e) (fun pl' e'=>VA X ops G pl' S e' L K)→VA X ops G (.take i r) S e L K:=fun {v} hg hl hk=>by
     refine VA.pure ho hg hdst hfree hl ?_
     rw[hd]
     exact VA.go hk
    split at h
    ·rename_i hgd
     rcases CZ h with ⟨v,hl,hk⟩ | h
     ·exact step (by rw[hgd];rfl) hl hk
     ·exact h
    ·rename_i j want hgd
     rcases xh h with ⟨oj,hj,h⟩ | h
     ·split at h
      ·rename_i dj hdj
       split at h
       ·rename_i b hb
        have hgo:cy ops G o.guard=some (gB b want):=by
         rw[hgd];simp only[cy,hj,hdj,hb]
        split at h
        ·rename_i hbw
         rw[hbw] at hgo
         rcases CZ h with ⟨v,hl,hk⟩ | h
         ·exact step hgo hl hk
         ·exact h
        ·rename_i hbw
         rw[hbw] at hgo
         refine VA.off ho hgo hdst hfree ?_
         rw[hd]
         exact VA.go h
       ·exact h
      ·exact h
     ·exact h
   ·exact h
theorem VC.draw{X:Cx}{id:Nat}{l:List Oper}{e:Env}{L:List HP}{Q:Exit→Env→List HP→Prop}(pl:iE)(hmix:X.P.follows .mixedOrders=true)
  (hp:(Region.noSelect l.toArray&&Nat.beq pl.len l.length&&nA l.toArray (Array.replicate l.length false) pl)=true)
  (h:VA X l.toArray [] pl [] e L (Q .normal)):VC X (.region id l.toArray true) e L Q:=by
 intro ro a w ha hw
 simp only[dN] at hp
 have hlen:pl.len=l.length:=o7 hp.1.2
 refine Code.wpIn_mono (Q:=fun x a' w'=>match x with | .normal=>∃e' L',dO X.n a' e'∧St X L' w'∧Q .normal e' L' | _=>False) (fun x a' w' hx=>?_) (wpIn_region_any hmix ?_)
 ·cases x<;>first | exact hx | exact hx.elim
 ·have:=h (fun x a' w'=>match x with | .normal=>∃e' L',dO X.n a' e'∧St X L' w'∧Q .normal e' L' | _=>False) (fun _ _ _ h=>h) (fun e' L' _ _ h1 h2 h3=>⟨e',L',h1,h2,h3⟩) hp.1.1 ro
   (Array.replicate l.length false) a { w with drawn:=w.drawn+1 } hp.2 ha (nT.nil a) hw.drew (fun _ h=>by cases h)
  rw[hlen] at this
  have h2:=On _ _ _ _ _ this
  simpa using h2
end Vg
namespace Vg
open Go
theorem qB{P:Program}{t:Nat}{ti:TI}{el:Nat}(h:aS P t ti)(hu:ti.aJ=.slice el):P.underlying t=some (.slice el):=by
 have:=h.aJ
 rw[hu] at this
 unfold oz at this
 split at this<;>simp_all
theorem N1{P:Program}{t:Nat}{ti:TI}{n el:Nat}(h:aS P t ti)(hu:ti.aJ=.array n el):P.underlying t=some (.array n el):=by
 have:=h.aJ
 rw[hu] at this
 unfold oz at this
 split at this<;>simp_all
theorem Hk{P:Program}{t:Nat}{ti:TI}{k:IntKind}(h:aS P t ti)(hu:ti.aJ=.int k):P.underlying t=some (.int k):=by
 have:=h.aJ
 rw[hu] at this
 unfold oz at this
 split at this<;>simp_all
theorem Dl{P:Program}{t:Nat}{ti:TI}(h:aS P t ti)(hu:ti.aJ=.string):P.underlying t=some .string:=by
 have:=h.aJ
 rw[hu] at this
 unfold oz at this
 split at this<;>simp_all
theorem abJ{P:Program}{t:Nat}{ti:TI}{fs:List (Nat×Nat)}(h:aS P t ti)(hu:ti.aJ=.struct fs):
  ∃flds,P.underlying t=some (.struct flds)∧flds.toList.map (fun f=>(f.offset,((P.info? f.type).map (·.size)).getD 0))=fs:=by
 have:=h.aJ
 rw[hu] at this
 unfold oz at this
 split at this<;>simp at this
 rename_i fl hfl
 exact⟨fl,hfl,by simpa using this⟩
theorem fp{X:Cx}{e:Env}{T:TypeId}{x y:Operand}{tt te:TI}{el b off len cap:Nat}{k:IntKind}{i:Int}(m:Nat)(hx:ev e x=some (.slice (some ⟨b,off,none⟩) len cap))(hy:ev e y=some (.int k i))
  (hT:bS X.tab T=some tt) (hu:tt.aJ=.slice el) (hE:bS X.tab el=some te) (hm:i=m) (hlt:m<len):
  fN X (.indexAddr T x y) e (.pointer (some ⟨b,off+m*te.size,none⟩)):=by
 intro a ha dst ty pos after guard w
 have h1:=qB (X.ok.look hT) hu
 obtain⟨i2,hi2,hs2,_,_⟩:=(X.ok.look hE).og
 subst hm
 simp[execOp,ha.ev hx,ha.ev hy,Instr.indexAt,asIntOf,run_underlying h1,hlt,mu hi2,hs2,Addr.add_mid]
theorem kq{X:Cx}{e:Env}{T:TypeId}{x y:Operand}{tt te:TI}{el b off len:Nat}{k:IntKind}{i:Int}(m:Nat)(hx:ev e x=some (.pointer (some ⟨b,off,none⟩)))(hy:ev e y=some (.int k i))
  (hT:bS X.tab T=some tt) (hu:tt.aJ=.array len el) (hE:bS X.tab el=some te) (hm:i=m) (hlt:m<len):
  fN X (.indexAddr T x y) e (.pointer (some ⟨b,off+m*te.size,none⟩)):=by
 intro a ha dst ty pos after guard w
 have h1:=N1 (X.ok.look hT) hu
 obtain⟨i2,hi2,hs2,_,_⟩:=(X.ok.look hE).og
 subst hm
 simp[execOp,ha.ev hx,ha.ev hy,Instr.indexAt,asIntOf,run_underlying h1,hlt,mu hi2,hs2,Addr.add_mid,Instr.sureAddr]
theorem K0{X:Cx}{e:Env}{xt yt:TypeId}{x y:Operand}{k:IntKind}{a b:Int}(hx:ev e x=some (.int k a))(hy:ev e y=some (.int k b))(ha0:0≤a)(hb0:0<b):
  fN X (.binOp .rem xt x y yt) e (.int k (a % b)):=by
 intro a' ha dst ty pos after guard w
 have hb:b≠0:=by omega
 have ht:a.tmod b=a % b:=Int.tmod_eq_emod_of_nonneg ha0
 simp[execOp,ha.ev hx,ha.ev hy,eqGuard,binOp,Op.intDiv,hb,ht]
theorem K3{X:Cx}{e:Env}{T:TypeId}{x y z:Operand}{tt te:TI}{el b off len cap:Nat}{k k':IntKind}{i j:Int}(lo hi:Nat)(hx:ev e x=some (.slice (some ⟨b,off,none⟩) len cap))(hy:ev e y=some (.int k i))(hz:ev e z=some (.int k' j))
  (hT:bS X.tab T=some tt) (hu:tt.aJ=.slice el) (hE:bS X.tab el=some te) (hlo:i=lo) (hhi:j=hi) (h1:lo≤hi) (h2:hi≤cap) (h3:lo<cap):
  fN X (.slice T x (some y) (some z) none) e (.slice (some ⟨b,off+lo*te.size,none⟩) (hi-lo) (cap-lo)):=by
 intro a ha dst ty pos after guard w
 have hd:=qB (X.ok.look hT) hu
 obtain⟨i2,hi2,hs2,_,_⟩:=(X.ok.look hE).og
 subst hlo;subst hhi
 have hne:¬cap=lo:=by omega
 simp[execOp,ha.ev hx,ha.ev hy,ha.ev hz,Instr.sliceAt,Instr.slice,Instr.sliceBounds,Instr.sliceBound,asIntOf,run_underlying hd,h1,h2,mu hi2,hs2,Addr.add_mid,hne]
theorem Ku:∀(vs:List Value) (k off:Nat) (cs:List Value),off+k+vs.length≤cs.length →
  (vs.zipIdx k).foldl (fun(c:Array Value) (x:Value×Nat)=>c.setIfInBounds (off+x.2) x.1) cs.toArray=(dT cs (off+k) vs).toArray
 | [],k,off,cs,_=>by rw[Hq];rfl
 | v::vs,k,off,cs,h=>by
  have h':off+k+(vs.length+1)≤cs.length:=by simpa using h
  simp only[List.zipIdx_cons,oZ,List.setIfInBounds_toArray]
  rw[Ku vs (k+1) off (cs.set (off+k) v) ye,show off+(k+1)=off+k+1 from by omega,Oq h']
def qZ(place:Nat→Option (Nat×Nat)):List Value→List (Nat×Value)→Option (List Value)
 | zs,[]=>some zs
 | zs,(i,v)::r=>match place i with
  | none=>none
  | some (off,size)=>bif Nat.beq v.cells.toList.length size&&Nat.ble (off+size) zs.length then qZ place (dT zs off v.cells.toList) r else none
theorem B0{place:Nat→Option (Nat×Nat)}:∀{parts:List (Nat×Value)} {zs cs:List Value},qZ place zs parts=some cs→Instr.fill place zs.toArray parts=some cs.toArray
 | [],zs,cs,h=>by simpa[qZ,Instr.fill] using h
 | (i,v)::r,zs,cs,h=>by
  simp only[qZ] at h
  simp only[Instr.fill]
  cases hp:place i with
  | none=>simp[hp] at h
  | some p=>
   obtain⟨off,size⟩:=p
   rw[hp] at h
   simp only at h ⊢
   cases hb:Nat.beq v.cells.toList.length size&&Nat.ble (off+size) zs.length
   ·rw[hb] at h;cases h
   ·rw[hb] at h
    simp only[cond_true] at h
    simp only[dN] at hb
    have h1:v.cells.size=size:=by have:=o7 hb.1;simpa using this
    have h2:off+size≤zs.length:=hZ hb.2
    rw[if_neg (by simp[h1];omega)]
    have:=Ku v.cells.toList 0 off zs ye
    have e:v.cells.zipIdx.foldl (fun cs (x:Value×Nat)=>cs.setIfInBounds (off+x.2) x.1) zs.toArray=(dT zs off v.cells.toList).toArray:=by
     rw[←Array.foldl_toList,Array.toList_zipIdx];simpa using this
    rw[e]
    exact B0 h
def od(e:Env):List (Nat×Operand)→Option (List (Nat×Value))
 | []=>some []
 | (i,x)::r=>match ev e x,od e r with
  | some v,some vs=>some ((i,v)::vs)
  | _,_=>none
theorem dO.od{n:Nat}{a:Act}{e:Env}(h:dO n a e):∀{xs:List (Nat×Operand)} {vs:List (Nat×Value)},od e xs=some vs→xs.map (fun p=>(p.1,a.eval p.2))=vs
 | [],vs,hx=>by simpa[Vg.od] using hx
 | (i,x)::r,vs,hx=>by
  simp only[Vg.od] at hx
  split at hx
  ·rename_i v us hv hus
   simp only[Option.some.injEq] at hx
   subst hx
   simp[h.ev hv,dO.od h hus]
  ·cases hx
theorem M_{P:Program}(w:World):∀(fl:List Field),(∀f∈fl,∃i,P.info? f.type=some i) →
  (fl.mapM fun f=>(do pure (f.offset,←sizeOf f.type):Sem (Nat×Nat))).run P w=.ok (fl.map fun f=>(f.offset,((P.info? f.type).map (·.size)).getD 0)) w
 | [],_=>rfl
 | f::fl,h=>by
  obtain⟨i,hi⟩:=h f yf
  have ih:=M_ (P:=P) w fl (fun g hg=>h g (by simp[hg]))
  simp only[List.mapM_cons,Sem.run_bind,mu hi,Result.andThen_ok,Sem.run_pure,ih]
  simp[hi]
theorem KU{X:Cx}{e:Env}{T:TypeId}{parts:Array (Nat×Operand)}{ti:TI}{fs:List (Nat×Nat)}{pv:List (Nat×Value)}(cells:List Value)(hT:bS X.tab T=some ti)(hu:ti.aJ=.struct fs)
  (hp:od e parts.toList=some pv) (hfill:qZ (fun i=>fs[i]?) ti.zs pv=some cells) (hnz:fs.all (fun p=>!Nat.beq p.2 0)=true):fN X (.build T parts) e (.agg cells.toArray):=by
 intro a ha dst ty pos after guard w
 have hok:=X.ok.look hT
 obtain⟨flds,hund,hfl⟩:=abJ hok hu
 have hparts:parts.map (fun p=>(p.1,a.eval p.2))=pv.toArray:=by
  apply nK.1
  simpa using ha.od hp
 have hinfo:∀f∈flds.toList,∃i,X.P.info? f.type=some i:=fun f hf=>by
  cases hq:X.P.info? f.type with
  | some i=>exact⟨i,rfl⟩
  | none=>
   have hm:(f.offset,((X.P.info? f.type).map (·.size)).getD 0)∈fs:=by
    rw[←hfl];exact bP.2 ⟨f,hf,rfl⟩
   have:=lh.1 hnz _ hm
   simp[hq] at this
 have hplaces:(flds.mapM fun f=>(do pure (f.offset,←sizeOf f.type):Sem (Nat×Nat))).run X.P w=.ok fs.toArray w:=by
  have h1:=M_ (P:=X.P) w flds.toList hinfo
  rw[hfl] at h1
  simp only[bind_pure_comp] at h1
  rw[Array.mapM_eq_mapM_toList]
  simp[h1]
 have hf:=B0 hfill
 have hfn:(fun i:Nat=>fs.toArray[i]?)=(fun i:Nat=>fs[i]?):=by funext i;simp
 have hb:(Instr.build T pv.toArray).run X.P w=.ok (.agg cells.toArray) w:=by
  unfold Instr.build
  simp only[Sem.run_bind,vu hok,Result.andThen_ok,run_underlying hund,hplaces,hok.zero]
  simp only[hfn,hf,Sem.run_pure]
 simp only[execOp]
 rw[Sem.run_bind]
 have:(parts.map fun x=>match x with | (i,x)=>(i,a.eval x))=pv.toArray:=hparts
 rw[this,hb];rfl
def aA(el esz:Nat)(a:Option Addr)(n cap:Nat)(cs:List Value):HP:=
 ⟨fun ids w=>cs.length=n*esz∧((a=none∧n=0∧cap=0∧ids=[]) ∨
   ∃b rest,a=some ⟨b,0,none⟩∧ids=[b]∧n≤cap∧(cs++rest).length=cap*esz∧w.heap[b]?=some (.cells (cs++rest).toArray el (0,0))),
  fun ids w w' hb h=>⟨h.1,h.2.imp id fun⟨b,rest,h1,h2,h3,h4,h5⟩=>⟨b,rest,h1,h2,h3,h4,(hb b yj).trans h5⟩⟩⟩
def fv(X:Cx)(L:List HP)(v:Value)(esz m:Nat)(news:List Value):Prop:=
 news.length=m*esz∧((∃a c,v=.slice a m c∧m=0)∨∃b off c,v=.slice (some ⟨b,off,none⟩) m c∧∀w,St X L w→w.rangeAt b off news)
theorem C5{w:World}{b t:Nat}{cs:List Value}{fz:Nat×Nat}(h:w.heap[b]?=some (.cells cs.toArray t fz)){off n:Nat}{ds:List Value}(hd:(cs.drop off).take n=ds):w.rangeAt b off ds:=fun j v hv=>by
 rw[cell_of_row w b (off+j) cs.toArray t fz h]
 rw[←hd,tq] at hv
 split at hv
 ·rw[rZ] at hv;simpa using hv
 ·cases hv
theorem oT:∀{L:List HP} {i:Nat} {H:HP},L[i]?=some H→L.Perm (H::L.eraseIdx i)
 | [],_,_,h=>by simp at h
 | x::L,0,H,h=>by
  simp only[qJ,Option.some.injEq] at h
  subst h;exact .refl _
 | x::L,i+1,H,h=>by
  simp only[rY] at h
  exact((oT h).cons x).trans (.swap _ _ _)
theorem XS(zs:Array Value)(n:Nat):(Builtin.zeroCells zs n).size=n*zs.size:=by simp[Builtin.zeroCells]
theorem M3{P:Program}{w:World}{t el:Nat}{i:TypeInfo}(hund:P.underlying t=some (.slice el))(hi:P.info? el=some i)(a d:Option Addr)(n cap c:Nat)(hnc:n≤cap)(r:Nat):
  (Builtin.append_ #[t,t] r #[.slice a n cap,.slice d 0 c]).run P w=.ok (.slice a n cap) w:=by
 cases a<;>cases d<;>simp[Builtin.append_,run_underlying hund,mu hi,Builtin.lenOf,Builtin.firstCells,hnc,storeCells,loadCells,loadCellsFrom]
theorem aQ.append{X:Cx}{e:Env}{L:List HP}{t el esz n cap m:Nat}{tt te:TI}{x y:Operand}{a:Option Addr}{cs news:List Value}{v:Value}(i:Nat)
  (hx:ev e x=some (.slice a n cap)) (hy:ev e y=some v) (hL:L[i]?=some (aA el esz a n cap cs)) (hT:bS X.tab t=some tt) (hu:tt.aJ=.slice el) (hE:bS X.tab el=some te) (hesz:te.size=esz)
  (hr:fv X L v esz m news) (h1:news.all Value.oneCell'=true) (hb:(n+m)*te.bytes≤140737488355328) (h63:n+m≤9223372036854775807):
  aQ X (.call ⟨.builtin .append,#[x,y],#[t,t]⟩) e L (fun u L'=>∃a' cap',u=.slice a' (n+m) cap'∧n+m≤cap'∧L'=aA el esz a' (n+m) cap' (cs++news)::L.eraseIdx i):=by
 intro ac w ha hw dst ty pos after guard
 have hund:=qB (X.ok.look hT) hu
 have hok:=X.ok.look hE
 obtain⟨ti,hi,hsz,hbt,hz⟩:=hok.og
 have hexec:∀u w',(Builtin.append_ #[t,t] ty #[.slice a n cap,v]).run X.P w=.ok u w' →
   (execOp ac.eval ⟨dst,.call ⟨.builtin .append,#[x,y],#[t,t]⟩,ty,pos,after,guard⟩).run X.P w=.ok (.value u) w':=fun u w' h=>by
  simp[execOp,resolve,invoke,builtin,ha.ev hx,ha.ev hy,h]
 obtain⟨F,⟨ids,K,hF,hid,hK⟩,hnd,hbd⟩:=hw.sat.perm (oT hL)
 subst hF
 obtain⟨hnl,hrd⟩:=hr
 obtain⟨hcl,hcase⟩:=hid
 have hlen:(cs++news).length=(n+m)*esz:=by rw[a_,hcl,hnl,qK]
 obtain⟨hn1,hn2,hdis⟩:=ja.1 hnd
 have stay:∀ids',HP.sat (aA el esz a n cap cs) ids' w→ids'=ids→m=0→news=[]→St X (aA el esz a (n+m) cap (cs++news)::L.eraseIdx i) w:=by
  rintro ids' hs rfl rfl rfl
  simp only[yM,bK]
  exact⟨⟨_,⟨ids',K,Z,hs,hK⟩,hnd,hbd⟩,hw.cS,hw.low⟩
 have hncap:n≤cap:=by rcases hcase with ⟨_,rfl,rfl,_⟩ | ⟨b,rest,_,_,h,_⟩<;>omega
 rcases hrd with ⟨d,c,rfl,rfl⟩ | ⟨b,off,c,rfl,hrg⟩
 ·have hn0:news=[]:=iz (by simpa using hnl)
  refine .inl ⟨_,w,_,hexec _ _ (M3 hund hi a d n cap c hncap ty),⟨a,cap,Z,by omega,Z⟩,stay ids ⟨hcl,hcase⟩ Z Z hn0⟩
 ·have hnews:∀j u,news[j]?=some u→w.cell? ((⟨b,off,none⟩:Addr).add j)=some u:=fun j u hj=>by rw[Addr.add_mid];exact hrg w hw j u hj
  have h1':∀u∈news,u.oneCell'=true:=lh.1 h1
  have hnl':news.length=m*ti.size:=by rw[hsz,hesz];exact hnl
  have grown:∀old:Nat,old<n+m→St X (aA el esz (some ⟨w.heap.size,0,none⟩) (n+m) (grownCap w (n+m) old el) (cs++news)::L.eraseIdx i)
    (w.drew.alloc (.cells (cs.toArray++news.toArray++Builtin.zeroCells te.zero.cells (grownCap w (n+m) old el-(n+m))) el)):=by
   intro old ho
   have hge:=grownCap_ge w (n+m) old el
   have hw2:St X (L.eraseIdx i) w.drew:=⟨⟨K,ei.loc (w:=w) (w':=w.drew) (fun _ _=>rfl) hK,hn2,fun b hb=>hbd b (by simp[hb])⟩,hw.cS.trans (dG.drew _ _),hw.low⟩
   refine⟨hw2.sat.alloc hw2.me _ _ ?_,hw2.cS.trans (dG.alloc hw2.me _),hw.low⟩
   refine⟨hlen,.inr ⟨w.heap.size,(Builtin.zeroCells te.zero.cells (grownCap w (n+m) old el-(n+m))).toList,Z,Z,hge,?_,?_⟩⟩
   ·have hzl:te.zero.cells.size=esz:=by rw[hok.zero];simp[hok.len,hesz]
    rw[a_,hlen,Array.length_toList,XS,hzl,←qK]
    congr 1;omega
   ·have:=heap_alloc_new w.drew (.cells (cs.toArray++news.toArray++Builtin.zeroCells te.zero.cells (grownCap w (n+m) old el-(n+m))) el)
    rw[show(cs++news++(Builtin.zeroCells te.zero.cells (grownCap w (n+m) old el-(n+m))).toList).toArray=cs.toArray++news.toArray++Builtin.zeroCells te.zero.cells (grownCap w (n+m) old el-(n+m)) from by
     apply nK.1;simp]
    exact this
  rcases hcase with ⟨rfl,rfl,rfl,rfl⟩ | ⟨g,rest,rfl,rfl,hnc,hcr,hh⟩
  ·have hcs0:cs=[]:=iz (by simpa using hcl)
   subst hcs0
   by_cases hm:m=0
   ·subst hm
    have hn0:news=[]:=iz (by simpa using hnl)
    refine .inl ⟨.slice none (0+0) 0,w,_,hexec _ _ ?_,⟨none,0,Z,by omega,Z⟩,stay [] ⟨hcl,.inl ⟨rfl,Z,Z,Z⟩⟩ Z Z hn0⟩
    simp[Builtin.append_,run_underlying hund,mu hi,Builtin.lenOf,Builtin.firstCells,loadCells,loadCellsFrom]
   ·have hrun:=run_append_nil (P:=X.P) w t ty el ti te.zero hund hi hz ⟨b,off,none⟩ m c news hnl' hnews yd yd (by rw[hbt];simp only[di] at hb;omega)
    have hg:=grown 0 yd
    simp only[di,nN,Array.empty_append] at hg ⊢
    exact .inl ⟨_,_,_,hexec _ _ hrun,⟨_,_,Z,grownCap_ge w m 0 el,Z⟩,hg⟩
  ·by_cases hroom:n+m≤cap
   ·have hmul:(n+m)*esz≤cap*esz:=r7 _ hroom
    have hfit:n*ti.size+news.length≤(cs++rest).toArray.size:=by
     rw[hsz,hesz,hnl];simp only[List.size_toArray];rw[hcr,←qK];exact hmul
    have hrun:=run_append_room (P:=X.P) w t ty el ti hund hi g n cap _ hh ⟨b,off,none⟩ m c news hnl' hnews h1' hroom hfit
    have hnew:(cs++rest).toArray.toList.take (n*ti.size)++news++(cs++rest).toArray.toList.drop (n*ti.size+news.length)=(cs++news)++rest.drop news.length:=by
     simp only[hsz,hesz]
     rw[←hcl]
     simp[List.drop_append]
    rw[hnew] at hrun
    refine .inl ⟨_,_,_,hexec _ _ hrun,⟨some ⟨g,0,none⟩,cap,Z,hroom,Z⟩,?_⟩
    have hgF:¬X.Fr g:=(hbd g yf).1
    have hne:∀x∈K,x≠g:=fun x hx he=>hdis g yf x hx he.symm
    refine⟨⟨[g]++K,⟨[g],K,Z,⟨hlen,.inr ⟨g,rest.drop news.length,Z,Z,hroom,?_,setRow_heap w g _ _ el _ hh⟩⟩,hK.loc fun x hx=>setRow_other w g x _ (hne x hx)⟩,hnd,fun x hx=>⟨(hbd x hx).1,by rw[size_setRow];exact(hbd x hx).2⟩⟩,?_,hw.low⟩
    ·rw[a_,hlen,r4]
     rw[a_,hcl] at hcr
     rw[hnl,qK];rw[qK] at hmul;omega
    ·exact hw.cS.trans ⟨rfl,Z,Z,by rw[size_setRow];exact NR _,fun x hx=>setRow_other w g x _ (fun he=>hgF (he▸hx)),NR _⟩
   ·have holds:∀j u,cs[j]?=some u→w.cell? ((⟨g,0,none⟩:Addr).add j)=some u:=fun j u hj=>by
     rw[Addr.add_mid,cell_of_row w g (0+j) _ el (0,0) hh]
     have hlt:j<cs.length:=(bY.1 hj).1
     simp[Ei,hlt]
     exact(bY.1 hj).2
    have hrun:=run_append_grow (P:=X.P) w t ty el ti te.zero hund hi hz ⟨g,0,none⟩ n cap cs (by rw[hsz,hesz];exact hcl) holds ⟨b,off,none⟩ m c news hnl' hnews yd yd (growslice_fits yd (by rw[hbt];exact hb))
    exact .inl ⟨_,_,_,hexec _ _ hrun,⟨_,_,Z,grownCap_ge w (n+m) cap el,Z⟩,grown cap yd⟩
end Vg
namespace Vg
open Go
theorem Fm(n:Nat)(zs:List Value)(s:Nat)(hs:zs.length=s):((Array.range (n*s)).map (zs.toArray[· % zs.toArray.size]!))=((List.replicate n zs).flatten).toArray:=by
 apply nK.1
 simp only[Array.toList_map,Array.toList_range]
 subst hs
 induction n with
 | zero=>simp
 | succ n ih=>
  rw[List.replicate_succ',List.flatten_append,←ih,yO,List.range_add,hU]
  congr 1
  simp only[List.flatten_cons,List.flatten_nil,bK,mV]
  apply List.ext_getElem
  ·simp
  ·intro i h1 h2
   simp at h1
   simp[Nat.mul_add_mod_of_lt h1,h1]
structure bu(Fr:Nat→Prop)(w:World)(b:Nat)(cs:List Value):Prop where
 fr:Fr b
 at_:∃t fz,w.heap[b]?=some (.cells cs.toArray t fz)
theorem a8.aC{Fr:Nat→Prop}{L:List HP}{w:World}(h:a8 Fr L w)(i:Nat){b t:Nat}{cs:List Value}(hL:L[i]?=some (pt b cs t)):bu Fr w b cs:=by
 obtain⟨F,hs,hf⟩:=h
 obtain⟨ids,⟨rfl,h1⟩,h2⟩:=hs.get hL
 exact⟨hf b (h2 b yf),t,(0,0),h1⟩
theorem bu.cS{X:Cx}{b:Nat}{cs:List Value}(h:bu X.Fr X.w0 b cs){Fr':Nat→Prop}{w:World}{L:List HP}(hF:∀b,X.Fr b→Fr' b)(hw:St X L w):bu Fr' w b cs:=by
 obtain⟨t,fz,ht⟩:=h.at_
 exact⟨hF b h.fr,t,fz,(hw.cS.block b h.fr).trans ht⟩
theorem ax.aC{X:Cx}{L:List HP}{ti:TI}{b off:Nat}{cs:List Value}{v:Value}(h:bu X.Fr X.w0 b cs)(hv:cs[off]?=some v)(ha:ti.aJ.agg=false:=by rfl):ax X L ti b off v:=by
 obtain⟨t,fz,ht⟩:=h.at_
 exact ax.Xl h.fr ht hv ha
theorem ax.jR{X:Cx}{L:List HP}{ti:TI}{b off:Nat}{cs ds:List Value}(h:bu X.Fr X.w0 b cs)(hd:(cs.drop off).take ti.size=ds)(hl:ds.length=ti.size:=by rfl)(ha:ti.aJ.agg=true:=by rfl):ax X L ti b off (.agg ds.toArray):=by
 obtain⟨t,fz,ht⟩:=h.at_
 exact ax.Xm h.fr ht hd hl ha
theorem fv.pt{X:Cx}{L:List HP}{b off m c esz t:Nat}{cs news:List Value}(i:Nat)(hL:L[i]?=some (pt b cs t))(hn:(cs.drop off).take (m*esz)=news)(hl:news.length=m*esz):fv X L (.slice (some ⟨b,off,none⟩) m c) esz m news:=
 ⟨hl,.inr ⟨b,off,c,rfl,fun _ hw=>C5 (hw.sj hL).1 hn⟩⟩
theorem fv.nil{X:Cx}{L:List HP}{a:Option Addr}{c esz:Nat}:fv X L (.slice a 0 c) esz 0 []:=⟨by simp,.inl ⟨a,c,rfl,rfl⟩⟩
theorem VO.E9{X:Cx}{ops:Array Oper}{G:GS}{l:List Oper}{e:Env}{L:List HP}{K:Env→List HP→Prop}{ι:Type}(φ:ι→Prop)(M:ι→List HP)(h:∀w,St X L w→∃x,φ x∧St X (M x) w)
  (hk:∀x,φ x→VO X ops G l e (M x) K):VO X ops G l e L K:=fun Q' hQ ro a w ha hG hw=>by
 obtain⟨x,h1,h2⟩:=h w hw
 exact hk x h1 Q' hQ ro a w ha hG h2
theorem VC.E9{X:Cx}{c:Code}{e:Env}{L:List HP}{Q:Exit→Env→List HP→Prop}{ι:Type}(φ:ι→Prop)(M:ι→List HP)(h:∀w,St X L w→∃x,φ x∧St X (M x) w)
  (hk:∀x,φ x→VC X c e (M x) Q):VC X c e L Q:=fun ro a w ha hw=>by
 obtain⟨x,h1,h2⟩:=h w hw
 exact hk x h1 ro a w ha h2
def aa(L M:List HP):Prop:=∀w F,ei L F w→F.Nodup→∃F',ei M F' w∧F'.Nodup∧∀b∈F',b∈F
theorem aa.ah{X:Cx}{L M:List HP}(h:aa L M):dq X L M:=fun w hw=>by
 obtain⟨F,hs,hn,hb⟩:=hw.sat
 obtain⟨F',h1,h2,h3⟩:=h w F hs hn
 exact⟨⟨F',h1,h2,fun b hb'=>hb b (h3 b hb')⟩,hw.cS,hw.low⟩
theorem aa.refl{L:List HP}:aa L L:=fun _ F hs hn=>⟨F,hs,hn,fun _ h=>h⟩
theorem aa.trans{L M N:List HP}(h:aa L M)(k:aa M N):aa L N:=fun w F hs hn=>by
 obtain⟨F',h1,h2,h3⟩:=h w F hs hn
 obtain⟨F'',k1,k2,k3⟩:=k w F' h1 h2
 exact⟨F'',k1,k2,fun b hb=>h3 b (k3 b hb)⟩
theorem aa.perm{L M:List HP}(h:L.Perm M):aa L M:=fun w F hs hn=>by
 obtain⟨G,hG,hs'⟩:=hs.perm h
 exact⟨G,hs',hG.nodup_iff.1 hn,fun b hb=>hG.mem_iff.2 hb⟩
theorem aa.nil{L:List HP}:aa L []:=fun _ _ _ _=>⟨[],rfl,.nil,fun _ h=>by cases h⟩
theorem aa.app{L L' M M':List HP}(h:aa L M)(k:aa L' M'):aa (L++L') (M++M'):=fun w F hs hn=>by
 obtain⟨G,K,rfl,hG,hK⟩:=ei.append.1 hs
 obtain⟨n1,n2,nd⟩:=ja.1 hn
 obtain⟨G',g1,g2,g3⟩:=h w G hG n1
 obtain⟨K',k1,k2,k3⟩:=k w K hK n2
 refine⟨G'++K',ei.append.2 ⟨G',K',Z,g1,k1⟩,ja.2 ⟨g2,k2,fun x hx y hy=>nd x (g3 x hx) y (k3 y hy)⟩,fun b hb=>?_⟩
 rcases ez.1 hb with hb | hb
 ·exact ez.2 (.inl (g3 b hb))
 ·exact ez.2 (.inr (k3 b hb))
theorem aa.cons{H:HP}{L M:List HP}(h:aa L M):aa (H::L) (H::M):=aa.app (L:=[H]) (M:=[H]) aa.refl h
theorem aa.pick{L M:List HP}{H:HP}(i:Nat)(hL:L[i]?=some H)(h:aa (L.eraseIdx i) M):aa L (H::M):=(aa.perm (oT hL)).trans h.cons
def Gt:List Nat→List HP→List HP
  | [],_=>[]
  | i::l,L=>match L[i]? with
    | some H=>H::Gt l (L.eraseIdx i)
    | none=>[]
theorem bm (l:List Nat) {L:List HP}:aa L (Gt l L):=by
  induction l generalizing L with
  | nil=>exact aa.nil
  | cons i l ih=>
    unfold Gt
    split
    · rename_i H h;exact aa.pick i h ih
    · exact aa.nil
theorem aa.sep{L Ls M:List HP}(h:aa L (Ls++M)):aa L (cR Ls::M):=fun w F hs hn=>by
 obtain⟨F',h1,h2,h3⟩:=h w F hs hn
 obtain⟨G,K,rfl,hG,hK⟩:=ei.append.1 h1
 exact⟨G++K,⟨G,K,Z,hG,hK⟩,h2,h3⟩
theorem aa.Dn{L Ls M:List HP}(h:aa (Ls++L) M):aa (cR Ls::L) M:=fun w F hs hn=>by
 obtain⟨G,K,rfl,hG,hK⟩:=hs
 exact h w _ (ei.append.2 ⟨G,K,Z,hG,hK⟩) hn
theorem aa.ex{α:Type}{f:α→HP}{L M:List HP}(x:α)(h:aa L (f x::M)):aa L (hex f::M):=fun w F hs hn=>by
 obtain⟨F',⟨G,K,rfl,hG,hK⟩,h2,h3⟩:=h w F hs hn
 exact⟨G++K,⟨G,K,Z,⟨x,hG⟩,hK⟩,h2,h3⟩
theorem aa.pure{φ:Prop}{L M:List HP}(hφ:φ)(h:aa L M):aa L (kO φ::M):=fun w F hs hn=>by
 obtain⟨F',h1,h2,h3⟩:=h w F hs hn
 exact⟨F',⟨[],F',Z,⟨rfl,hφ⟩,h1⟩,h2,h3⟩
theorem aa.sl{L M:List HP}{el esz b n cap:Nat}{cs rest:List Value}(hc:cs.length=n*esz)(hn:n≤cap)(hr:(cs++rest).length=cap*esz)(h:aa L (pt b (cs++rest) el::M)):aa L (aA el esz (some ⟨b,0,none⟩) n cap cs::M):=fun w F hs hn'=>by
 obtain⟨F',⟨G,K,rfl,⟨rfl,hG⟩,hK⟩,h2,h3⟩:=h w F hs hn'
 exact⟨[b]++K,⟨[b],K,Z,⟨hc,.inr ⟨b,rest,Z,Z,hn,hr,hG⟩⟩,hK⟩,h2,h3⟩
theorem aa.dM{L M:List HP}{el esz:Nat}(h:aa L M):aa L (aA el esz none 0 0 []::M):=fun w F hs hn=>by
 obtain⟨F',h1,h2,h3⟩:=h w F hs hn
 exact⟨F',⟨[],F',Z,⟨by simp,.inl ⟨rfl,Z,Z,Z⟩⟩,h1⟩,h2,h3⟩
def ba{ι:Type}(H:HP)(φ:ι→Prop)(Ls:ι→List HP):Prop:=∀w ids,H.sat ids w→ids.Nodup→∃x,φ x∧∃ids',ei (Ls x) ids' w∧ids'.Nodup∧∀b∈ids',b∈ids
theorem ba.st{X:Cx}{L:List HP}{ι:Type}{H:HP}{φ:ι→Prop}{Ls:ι→List HP}(i:Nat)(hL:L[i]?=some H)(h:ba H φ Ls)(w:World)(hw:St X L w):∃x,φ x∧St X (Ls x++L.eraseIdx i) w:=by
 obtain⟨F,⟨ids,K,rfl,hid,hK⟩,hn,hb⟩:=hw.sat.perm (oT hL)
 obtain⟨n1,n2,nd⟩:=ja.1 hn
 obtain⟨x,hx,ids',h1,h2,h3⟩:=h w ids hid n1
 refine⟨x,hx,⟨⟨ids'++K,ei.append.2 ⟨ids',K,Z,h1,hK⟩,ja.2 ⟨h2,n2,fun x hx y hy=>nd x (h3 x hx) y hy⟩,fun b hb'=>?_⟩,hw.cS,hw.low⟩⟩
 rcases ez.1 hb' with hb' | hb'
 ·exact hb b (ez.2 (.inl (h3 b hb')))
 ·exact hb b (ez.2 (.inr hb'))
theorem VO.bJ{X:Cx}{ops:Array Oper}{G:GS}{l:List Oper}{e:Env}{L:List HP}{K:Env→List HP→Prop}{ι:Type}{H:HP}{φ:ι→Prop}{Ls:ι→List HP}(i:Nat)(hL:L[i]?=some H)(h:ba H φ Ls)
  (hk:∀x,φ x→VO X ops G l e (Ls x++L.eraseIdx i) K):VO X ops G l e L K:=VO.E9 φ _ (h.st i hL) hk
theorem VC.bJ{X:Cx}{c:Code}{e:Env}{L:List HP}{Q:Exit→Env→List HP→Prop}{ι:Type}{H:HP}{φ:ι→Prop}{Ls:ι→List HP}(i:Nat)(hL:L[i]?=some H)(h:ba H φ Ls)
  (hk:∀x,φ x→VC X c e (Ls x++L.eraseIdx i) Q):VC X c e L Q:=VC.E9 φ _ (h.st i hL) hk
theorem ba.sl(el esz:Nat)(a:Option Addr)(n cap:Nat)(cs:List Value):ba (ι:=Option (Nat×List Value)) (aA el esz a n cap cs)
  (fun x=>cs.length=n*esz∧n≤cap∧match x with | none=>a=none∧n=0∧cap=0∧cs=[] | some (b,rest)=>a=some ⟨b,0,none⟩∧(cs++rest).length=cap*esz)
  (fun x=>match x with | none=>[] | some (b,rest)=>[pt b (cs++rest) el]):=by
 rintro w ids ⟨hc,⟨rfl,rfl,rfl,rfl⟩ | ⟨b,rest,rfl,rfl,hn,hr,hh⟩⟩ hnd
 ·exact⟨none,⟨hc,NR _,rfl,rfl,rfl,iz (by simpa using hc)⟩,[],rfl,.nil,fun _ h=>by cases h⟩
 ·exact⟨some (b,rest),⟨hc,hn,Z,hr⟩,[b],⟨[b],[],Z,⟨rfl,hh⟩,Z⟩,by simp,fun _ h=>h⟩
section
variable {X:Cx} {ops:Array Oper} {G:GS} {l:List Oper} {e:Env} {L:List HP} {K:Env→List HP→Prop}
  {dst:Option Tmp} {ty:TypeId} {pos:String} {after:Array Edge} {guard:Option (Nat×Bool)}
theorem VO.call{f:FuncId}{args:Array Operand}{tys:Array TypeId}{vals:List Value}{R:Value→List HP→Prop}{Lc Lr:List HP}
  (ht:∀Fr' w,(∀b,X.Fr b→Fr' b)→St X L w→a8 Fr' Lr w→az X.P f vals Fr' w Lc R) (hargs:fy e args.toList=some vals) (hL:L=Lc++Lr)
  (hk:∀v L1,R v L1→VO X ops G l (bX dst v e) (L1++Lr) K)
  (hg:cy ops G guard=some true:=by rfl) (hd:cL X.n dst=true:=by rfl) (hf:cD G dst=true:=by rfl):
  VO X ops G (⟨dst,.call ⟨.value (.func f),args,tys⟩,ty,pos,after,guard⟩::l) e L K:=
 VO.op hg hd hf (aQ.call hargs (hL▸.refl _) ht) fun v L' ⟨L1,h1,h2⟩=>by subst h2;exact hk v L1 h1
theorem VO.append{t el esz n cap m:Nat}{tt te:TI}{x y:Operand}{a:Option Addr}{cs news:List Value}{v:Value}(i:Nat)
  (hx:ev e x=some (.slice a n cap)) (hy:ev e y=some v) (hL:L[i]?=some (aA el esz a n cap cs)) (hT:bS X.tab t=some tt) (hu:tt.aJ=.slice el) (hE:bS X.tab el=some te) (hesz:te.size=esz)
  (hr:fv X L v esz m news) (h1:news.all Value.oneCell'=true) (hb:(n+m)*te.bytes≤140737488355328) (h63:n+m≤9223372036854775807)
  (hk:∀a' cap',n+m≤cap'→VO X ops G l (bX dst (.slice a' (n+m) cap') e) (aA el esz a' (n+m) cap' (cs++news)::L.eraseIdx i) K)
  (hg:cy ops G guard=some true:=by rfl) (hd:cL X.n dst=true:=by rfl) (hf:cD G dst=true:=by rfl):
  VO X ops G (⟨dst,.call ⟨.builtin .append,#[x,y],#[t,t]⟩,ty,pos,after,guard⟩::l) e L K:=
 VO.op hg hd hf (aQ.append i hx hy hL hT hu hE hesz hr h1 hb h63) fun u L' ⟨a',cap',h1,h2,h3⟩=>by subst h1;subst h3;exact hk a' cap' h2
theorem aQ.buildSlice{T:TypeId}{n:Nat}{parts:Array (Nat×Operand)}{tt te:TI}{el:Nat}{pv:List (Nat×Value)}{cells:List Value}(hT:bS X.tab T=some tt)(hu:tt.aJ=.slice el)(hE:bS X.tab el=some te)
  (hp:od e parts.toList=some pv) (hn:n*te.size≤16777216) (hfill:qZ (fun i=>some (i*te.size,te.size)) (List.replicate n te.zs).flatten pv=some cells):
  aQ X (.buildSlice T n parts) e L (fun u L'=>∃b,u=.slice (some ⟨b,0,none⟩) n n∧L'=pt b cells el::L):=fun a w ha hw dst ty pos after guard=>by
 have hund:=qB (X.ok.look hT) hu
 have hok:=X.ok.look hE
 obtain⟨i,hi,hsz,_,_⟩:=hok.og
 have hparts:(parts.map fun x=>match x with | (i,x)=>(i,a.eval x))=pv.toArray:=by
  apply nK.1
  simpa using ha.od hp
 have hzero:((Array.range (n*te.size)).map (te.zs.toArray[· % te.zs.toArray.size]!))=((List.replicate n te.zs).flatten).toArray:=Fm n te.zs te.size hok.len
 have hff:=B0 hfill
 refine .inl ⟨.slice (some ⟨w.heap.size,0,none⟩) n n,w.alloc (.cells cells.toArray el),_,?_,⟨w.heap.size,Z,Z⟩,hw.alloc cells el⟩
 have hlim:¬(n*te.size > 2 ^ 24):=by simpa using hn
 have hb:(Instr.buildSlice T n pv.toArray).run X.P w=.ok (.slice (some ⟨w.heap.size,0,none⟩) n n) (w.alloc (.cells cells.toArray el)):=by
  unfold Instr.buildSlice
  by_cases h0:n*te.size=0
  ·have hz0:(List.replicate n te.zs).flatten=[]:=by
    apply iz
    simp[hok.len,h0]
   rw[hz0] at hff
   have e0:∀f:Nat→Value,(Array.range 0).map f=#[]:=fun f=>by simp
   have h2:¬(0 > 2 ^ 24):=by decide
   simp only[Sem.run_bind,run_underlying hund,Result.andThen_ok,mu hi,hsz,h2,if_false,h0,if_true,Sem.run_pure,e0]
   simp[hff,newRow,newObj,Sem.run]
  ·simp only[Sem.run_bind,run_underlying hund,Result.andThen_ok,mu hi,hsz,hlim,if_false,h0,Sem.run_pure,vu hok,hok.zero,hzero]
   simp[hff,newRow,newObj,Sem.run]
 simp only[execOp]
 rw[Sem.run_bind,hparts,hb];rfl
theorem VO.buildSlice{T:TypeId}{n:Nat}{parts:Array (Nat×Operand)}{tt te:TI}{el:Nat}{pv:List (Nat×Value)}(cells:List Value)(hT:bS X.tab T=some tt)(hu:tt.aJ=.slice el)(hE:bS X.tab el=some te)
  (hp:od e parts.toList=some pv) (hn:n*te.size≤16777216) (hfill:qZ (fun i=>some (i*te.size,te.size)) (List.replicate n te.zs).flatten pv=some cells)
  (hk:∀b,VO X ops G l (bX dst (.slice (some ⟨b,0,none⟩) n n) e) (pt b cells el::L) K)
  (hg:cy ops G guard=some true:=by rfl) (hd:cL X.n dst=true:=by rfl) (hf:cD G dst=true:=by rfl):
  VO X ops G (⟨dst,.buildSlice T n parts,ty,pos,after,guard⟩::l) e L K:=
 VO.op hg hd hf (aQ.buildSlice hT hu hE hp hn hfill) fun u L' ⟨b,h1,h2⟩=>by subst h1;subst h2;exact hk b
theorem ji{v:Value}{vs zs:List Value}{s:Nat}(hv:v.cells=vs.toArray)(hs:vs.length=s)(hz:zs.length=s):qZ (fun i=>some (i*s,s)) (List.replicate 1 zs).flatten [(0,v)]=some vs:=by
 have h1:v.cells.toList=vs:=by rw[hv]
 have h2:(List.replicate 1 zs).flatten=zs:=by show zs ++ []=zs;simp
 have h3:dT zs 0 vs=vs:=by
  unfold dT
  rw[List.drop_of_length_le yd];simp
 have h4:Nat.beq vs.length s=true:=by rw[hs];exact Nat.beq_refl s
 have h5:Nat.ble s zs.length=true:=by rw[hz];exact Nat.ble_eq.mpr (NR s)
 simp only[qZ,h1,h2,Nat.zero_mul,di,h3,h4,h5,Bool.and_self,cond_true]
theorem aQ.makeSlice{T:TypeId}{x y:Operand}{tt te:TI}{el:Nat}{k k':IntKind}(n:Nat)(hx:ev e x=some (.int k n))(hy:ev e y=some (.int k' n))(hT:bS X.tab T=some tt)(hu:tt.aJ=.slice el)(hE:bS X.tab el=some te)
  (hn:n≤9223372036854775807) (hb:te.bytes*n≤281474976710656):
  aQ X (.makeSlice T x y) e L (fun u L'=>∃b,u=.slice (some ⟨b,0,none⟩) n n∧L'=pt b (List.replicate n te.zs).flatten el::L):=fun a w ha hw dst ty pos after guard=>by
 have hund:=qB (X.ok.look hT) hu
 have hok:=X.ok.look hE
 obtain⟨i,hi,hsz,hby,hz⟩:=hok.og
 have hzero:=Fm n te.zs te.size hok.len
 refine .inl ⟨.slice (some ⟨w.heap.size,0,none⟩) n n,w.alloc (.cells (List.replicate n te.zs).flatten.toArray el),_,?_,⟨w.heap.size,Z,Z⟩,hw.alloc _ el⟩
 have hrun:=run_make (P:=X.P) w T el i te.zero hund hi hz k k' n n yd yd (by
  have h1:((te.bytes*n:Nat):Int)≤((281474976710656:Nat):Int):=Int.ofNat_le.2 hb
  rw[Int.natCast_mul] at h1
  rw[hby];exact h1) yd
 have hmc:madeCells te.zero.cells ((n:Int).toNat*i.size)=(List.replicate n te.zs).flatten.toArray:=by
  rw[←hzero,hok.zero,hsz];rfl
 rw[hmc] at hrun
 simp only[execOp,ha.ev hx,ha.ev hy]
 rw[Sem.run_bind,hrun];rfl
theorem VO.makeSlice{T:TypeId}{x y:Operand}{tt te:TI}{el:Nat}{k k':IntKind}{i j:Int}(n:Nat)(hx:ev e x=some (.int k i))(hy:ev e y=some (.int k' j))(hT:bS X.tab T=some tt)(hu:tt.aJ=.slice el)(hE:bS X.tab el=some te)
  (hi:i=n) (hj:j=n) (hn:n≤9223372036854775807) (hb:te.bytes*n≤281474976710656)
  (hk:∀b,VO X ops G l (bX dst (.slice (some ⟨b,0,none⟩) n n) e) (pt b (List.replicate n te.zs).flatten el::L) K)
  (hg:cy ops G guard=some true:=by rfl) (hd:cL X.n dst=true:=by rfl) (hf:cD G dst=true:=by rfl):
  VO X ops G (⟨dst,.makeSlice T x y,ty,pos,after,guard⟩::l) e L K:=by
 subst hi;subst hj
 exact VO.op hg hd hf (aQ.makeSlice n hx hy hT hu hE hn hb) fun u L' ⟨b,h1,h2⟩=>by subst h1;subst h2;exact hk b
end
end Vg
namespace Vg
open Go
theorem C9{P:Program}{t:Nat}{ti:TI}(h:aS P t ti){b off:Nat}{v:Value}{w:World}(hr:Rd ti.aJ.agg ti.size b off v w):(loadVar t ⟨b,off,none⟩).run P w=.ok v w:=by
 have:=M8 h hr
 unfold Instr.loadAt at this
 simpa[Instr.sureAddr] using this
theorem aq.cell{X:Cx}{fn:Func}{R:Value→List HP→Prop}{e:Env}{L:List HP}{T:TypeId}{ti:TI}{b:Nat}{v:Value}(p:Nat)(h:fn.results=#[.cell p T])(hp:look e p=some (.pointer (some ⟨b,0,none⟩)))(hT:bS X.tab T=some ti)
  (hr:ax X L ti b 0 v) {L':List HP} (he:dq X L L') (hR:R v L'):aq X fn R e L:=
 ⟨v,L',⟨fun a w ha hw=>by
  have:=C9 (X.ok.look hT) (hr w hw)
  have hp':=ha.at_ p _ hp
  simp only[yK] at hp'
  simp[results,h,hp',asAddr,this]⟩,he,hR⟩
theorem aq.dB{X:Cx}{fn:Func}{R:Value→List HP→Prop}{e:Env}{L:List HP}{T:TypeId}{ti:TI}{b:Nat}{v u:Value}(p q:Nat)(h:fn.results=#[.cell p T,.tmp q])(hp:look e p=some (.pointer (some ⟨b,0,none⟩)))(hT:bS X.tab T=some ti)
  (hr:ax X L ti b 0 v) (hq:look e q=some u) {L':List HP} (he:dq X L L') (hR:R (.tuple #[v,u]) L'):aq X fn R e L:=
 ⟨_,L',⟨fun a w ha hw=>by
  have:=C9 (X.ok.look hT) (hr w hw)
  have hp':=ha.at_ p _ hp
  have hq':=ha.at_ q _ hq
  simp only[yK] at hp' hq'
  simp[results,h,hp',hq',asAddr,this]⟩,he,hR⟩
section
variable {X:Cx} {ops:Array Oper} {G:GS} {l:List Oper} {e:Env} {L:List HP} {K:Env→List HP→Prop}
  {dst:Option Tmp} {ty:TypeId} {pos:String} {after:Array Edge} {guard:Option (Nat×Bool)}
theorem aQ.clear{t el b off n cap tb:Nat}{tt te:TI}{x:Operand}{cs:List Value}(i:Nat)(hx:ev e x=some (.slice (some ⟨b,off,none⟩) n cap))(hL:L[i]?=some (pt b cs tb))(hT:bS X.tab t=some tt)(hu:tt.aJ=.slice el)(hE:bS X.tab el=some te)
  (hn:0<n) (hl:off+n*te.size≤cs.length) (h1:te.zs.all Value.oneCell'=true):
  aQ X (.call ⟨.builtin .clear,#[x],#[t]⟩) e L (fun u L'=>u=.tuple #[]∧L'=L.set i (pt b (dT cs off (List.replicate n te.zs).flatten) tb)):=fun a w ha hw dst ty pos after guard=>by
 have hund:=qB (X.ok.look hT) hu
 have hok:=X.ok.look hE
 obtain⟨h0,hf⟩:=hw.sj hL
 have hlen:((List.replicate n te.zs).flatten).length=n*te.size:=by simp[hok.len]
 have hz:Builtin.zeroCells te.zs.toArray n=((List.replicate n te.zs).flatten).toArray:=by
  have:=Fm n te.zs te.size hok.len
  unfold Builtin.zeroCells
  simpa[hok.len] using this
 have hall:((List.replicate n te.zs).flatten).all Value.oneCell'=true:=by
  rw[lh] at h1 ⊢
  intro v hv
  obtain⟨l,hl,hv⟩:=List.mem_flatten.1 hv
  rw[List.mem_replicate] at hl
  exact h1 v (hl.2▸hv)
 have hst:=GR (P:=X.P) _ 0 off w cs h0 (by rw[hlen];simpa using hl) hall
 simp only[yM] at hst
 refine .inl ⟨_,_,_,?_,⟨rfl,Z⟩,hw.set hL⟩
 have hn0:n≠0:=by omega
 have hb:(Builtin.clear_ #[t] ty #[.slice (some ⟨b,off,none⟩) n cap]).run X.P w=.ok (.tuple #[]) (eu w b (.cells (dT cs off (List.replicate n te.zs).flatten).toArray tb (0,0))):=by
  obtain⟨k,rfl⟩:∃k,n=k+1:=⟨n-1,by omega⟩
  simp[Builtin.clear_,run_underlying hund,vu hok,hok.zero,hz,hst]
 simp[execOp,resolve,invoke,builtin,ha.ev hx,hb]
theorem sE{xt yt:TypeId}{x y:Operand}{s t:ByteArray}(hx:ev e x=some (.string s))(hy:ev e y=some (.string t))(hs:s.size+t.size≤9223372036854775807):fN X (.binOp .add xt x y yt) e (.string (s++t)):=by
 intro a ha dst ty pos after guard w
 have h:¬(((s.size+t.size:Nat):Int) > IntKind.i64.max):=by
  have:IntKind.i64.max=9223372036854775807:=rfl
  omega
 have hb:Op.stringOp .add s t=pure (.string (s++t)):=by
  unfold Op.stringOp
  rw[if_neg h]
 simp only[execOp,ha.ev hx,ha.ev hy]
 show((do eqGuard .add xt x y (.string s) (.string t);Op.stringOp .add s t:Sem Value) >>= fun v=>pure (Next.value v)).run X.P w=_
 rw[hb];rfl
theorem aQ.str{s d el b n cap tb:Nat}{ts td te:TI}{x:Operand}{bs:List UInt8}{cs:List Value}(i:Nat)(hx:ev e x=some (.slice (some ⟨b,0,none⟩) n cap))(hL:L[i]?=some (pt b cs tb))(hS:bS X.tab s=some ts)(hsu:ts.aJ=.slice el)(hE:bS X.tab el=some te)(hEu:te.aJ=.int .u8)
  (hD:bS X.tab d=some td) (hdu:td.aJ=.string) (hn:bs.length=n) (hcs:cs.take n=bs.map fun c=>Value.int .u8 (c.toNat:Int)):
  aQ X (.convert s d x) e L (fun u L'=>u=.string ⟨bs.toArray⟩∧L'=L):=fun a w ha hw dst ty pos after guard=>by
 have h1:=qB (X.ok.look hS) hsu
 have h2:=Hk (X.ok.look hE) hEu
 have h3:=Dl (X.ok.look hD) hdu
 obtain⟨h0,_⟩:=hw.sj hL
 have hr:=run_convert_bytes_back (P:=X.P) w s d el ⟨b,0,none⟩ cap bs h1 h2 h3 (fun j hj=>by
  rw[Addr.add_mid,cell_of_row w b (0+j) _ tb (0,0) h0]
  have:(cs.take n)[j]?=some (.int .u8 (bs[j].toNat:Int)):=by rw[hcs];simp[hj]
  rw[tq,if_pos yd] at this
  simpa using this)
 rw[hn] at hr
 refine .inl ⟨_,w,L,?_,⟨rfl,Z⟩,hw⟩
 simp only[execOp,ha.ev hx]
 rw[Sem.run_bind,hr];rfl
end
section
variable {X:Cx} {ops:Array Oper} {G:GS} {pl:iE} {S:kk} {e:Env} {L:List HP} {K:Env→List HP→Prop}
  {dst:Option Tmp} {ty:TypeId} {pos:String} {after:Array Edge} {guard:Option (Nat×Bool)}
theorem VA.zT{i:Nat}{op:Op}{v:Value}(hi:ops.toList[i]?=some ⟨dst,op,ty,pos,after,guard⟩)(hl:fN X op e v)(hk:VA X ops G pl S (bX dst v e) L K)
  (hg:cy ops G guard=some true:=by rfl) (hd:cL X.n dst=true:=by rfl) (hf:cD G dst=true:=by rfl):VA X ops G (.take i pl) S e L K:=
 VA.pure hi hg hd hf hl hk
theorem VA.arith{op:BinOp}{xt yt:TypeId}{x y:Operand}{k:IntKind}{a b:Int}{i:Nat}(z:Int)(hi:ops.toList[i]?=some ⟨dst,.binOp op xt x y yt,ty,pos,after,guard⟩)
  (hx:ev e x=some (.int k a)) (hy:ev e y=some (.int k b))
  (hz:(match op with | .add=>k.wrap (a+b)=z | .sub=>k.wrap (a-b)=z | .mul=>k.wrap (a*b)=z | _=>False))
  (hk:VA X ops G pl S (bX dst (.int k z) e) L K)
  (hg:cy ops G guard=some true:=by rfl) (hd:cL X.n dst=true:=by rfl) (hf:cD G dst=true:=by rfl):VA X ops G (.take i pl) S e L K:=by
 refine VA.pure hi hg hd hf ?_ hk
 intro a' ha dst ty pos after guard w
 cases op<;>simp only at hz
 case add=>simp[execOp,ha.ev hx,ha.ev hy,eqGuard,binOp,Op.intArith,hz]
 case sub=>simp[execOp,ha.ev hx,ha.ev hy,eqGuard,binOp,Op.intArith,hz]
 case mul=>simp[execOp,ha.ev hx,ha.ev hy,eqGuard,binOp,Op.intArith,hz]
theorem VA.add{xt yt:TypeId}{x y:Operand}{a b:Int}{i:Nat}(hi:ops.toList[i]?=some ⟨dst,.binOp .add xt x y yt,ty,pos,after,guard⟩)
  (hx:ev e x=some (.int .i64 a)) (hy:ev e y=some (.int .i64 b)) (h1:-9223372036854775808≤a+b) (h2:a+b≤9223372036854775807)
  (hk:VA X ops G pl S (bX dst (.int .i64 (a+b)) e) L K)
  (hg:cy ops G guard=some true:=by rfl) (hd:cL X.n dst=true:=by rfl) (hf:cD G dst=true:=by rfl):VA X ops G (.take i pl) S e L K:=VA.arith (a+b) hi hx hy (i64_in _ h1 h2) hk hg hd hf
theorem VA.xz{xt yt:TypeId}{x y:Operand}{a b:Int}{i:Nat}(hi:ops.toList[i]?=some ⟨dst,.binOp .sub xt x y yt,ty,pos,after,guard⟩)
  (hx:ev e x=some (.int .i64 a)) (hy:ev e y=some (.int .i64 b)) (h1:-9223372036854775808≤a-b) (h2:a-b≤9223372036854775807)
  (hk:VA X ops G pl S (bX dst (.int .i64 (a-b)) e) L K)
  (hg:cy ops G guard=some true:=by rfl) (hd:cL X.n dst=true:=by rfl) (hf:cD G dst=true:=by rfl):VA X ops G (.take i pl) S e L K:=VA.arith (a-b) hi hx hy (i64_in _ h1 h2) hk hg hd hf
theorem VA.JA{f:FuncId}{args:Array Operand}{tys:Array TypeId}{vals:List Value}{u:Value}{i:Nat}
  (ht:∀Fr' w,(∀b,X.Fr b→Fr' b)→St X L w→a8 Fr' L w→az X.P f vals Fr' w [] (fun v L=>v=u∧L=[]))
  (hi:ops.toList[i]?=some ⟨dst,.call ⟨.value (.func f),args,tys⟩,ty,pos,after,guard⟩) (hargs:fy e args.toList=some vals)
  (hst:∀w,St X L w→∀p∈S,waits ops i p.1=false→p.2 w)
  (hk:VA X ops G pl (S.filter fun p=>!waits ops i p.1) (bX dst u e) L K)
  (hg:cy ops G guard=some true:=by rfl) (hd:cL X.n dst=true:=by rfl) (hf:cD G dst=true:=by rfl):VA X ops G (.only i pl) S e L K:=by
 refine VA.op (M:=fun v L'=>v=u∧L'=L) hi hg hd hf ?_ (fun v L' ⟨_,h2⟩ w hw=>by subst h2;exact hst w hw) (fun v L' ⟨h1,h2⟩=>by subst h1;subst h2;exact hk)
 intro a w ha hw dst ty pos after guard
 rcases aQ.call (R:=fun v L=>v=u∧L=[]) hargs (Lc:=[]) (Lr:=L) (.refl _) ht a w ha hw dst ty pos after guard with ⟨v,w',L',h1,⟨L1,⟨h2,h3⟩,h4⟩,h5⟩ | ⟨w',L',h1,⟨L1,⟨h2,h3⟩,h4⟩,h5⟩ | ⟨f,args,h1,h2⟩
 ·exact .inl ⟨v,w',L',h1,⟨h2,by rw[h4,h3];rfl⟩,h5⟩
 ·exact .inr (.inl ⟨w',L',h1,⟨h2,by rw[h4,h3];rfl⟩,h5⟩)
 ·refine .inr (.inr ⟨f,args,h1,Calls.mono h2 fun en w' ⟨v,L',h3,⟨L1,⟨h4,h5⟩,h6⟩,h7⟩=>⟨v,L',h3,⟨h4,by rw[h6,h5];rfl⟩,h7⟩⟩)
end
end Vg
namespace Vg
open Go
def flat{α:Type}(c:α→List Value)(l:List α):List Value:=(l.map c).flatten
section
variable {α:Type} {c:α→List Value} {n:Nat}
theorem sv:flat c []=[]:=rfl
theorem lZ(a:α)(l:List α):flat c (a::l)=c a++flat c l:=by simp[flat]
theorem jU(l m:List α):flat c (l++m)=flat c l++flat c m:=by simp[flat]
theorem fA(h:∀a,(c a).length=n):∀l:List α,(flat c l).length=l.length*n
 | []=>by simp[flat]
 | a::l=>by rw[lZ,a_,h,fA h l,iA,qK,Nat.one_mul,Nat.add_comm]
theorem B2(h:∀a,(c a).length=n):∀(i:Nat) (l:List α) (rest:List Value),i≤l.length→(flat c l++rest).drop (i*n)=flat c (l.drop i)++rest
 | 0,l,rest,_=>by simp
 | i+1,[],rest,hi=>by simp at hi
 | i+1,a::l,rest,hi=>by
  rw[lZ,qK,Nat.one_mul,Nat.add_comm (i*n),eL,←List.drop_drop]
  have:(c a++(flat c l++rest)).drop n=flat c l++rest:=by rw[←h a];simp
  rw[this,B2 h i l rest yk];rfl
theorem ph(h:∀a,(c a).length=n){i:Nat}{l:List α}{a:α}(ha:l[i]?=some a)(rest:List Value):((flat c l++rest).drop (i*n)).take n=c a:=by
 have hi:i<l.length:=(bY.1 ha).1
 rw[B2 h i l rest (Nat.le_of_lt hi),Bo hi,(bY.1 ha).2,lZ,eL,←h a]
 simp
theorem qe(h:∀a,(c a).length=n){i j:Nat}{l:List α}{a:α}{v:Value}(ha:l[i]?=some a)(hj:(c a)[j]?=some v)(rest:List Value):(flat c l++rest)[i*n+j]?=some v:=by
 have hjn:j<n:=by rw[←h a];exact(bY.1 hj).1
 have:=ph h ha rest
 rw[←this,tq,if_pos hjn,rZ] at hj
 exact hj
theorem wU(h:∀a,(c a).length=n):∀{i:Nat} {l:List α} (a:α) (rest:List Value),i<l.length→dT (flat c l++rest) (i*n) (c a)=flat c (l.set i a)++rest
 | 0,[],a,rest,hi=>by simp at hi
 | 0,b::l,a,rest,_=>by
  simp only[dT,List.set_cons_zero,lZ,Nat.zero_mul,r6,nN,di,eL]
  have:(c b++(flat c l++rest)).drop (c a).length=flat c l++rest:=by rw[h a,←h b];simp
  rw[this]
 | i+1,[],a,rest,hi=>by simp at hi
 | i+1,b::l,a,rest,hi=>by
  have ih:=wU h (i:=i) (l:=l) a rest yk
  have e:(i+1)*n=(c b).length+i*n:=by rw[h b,qK];omega
  simp only[tu,lZ,eL]
  unfold dT at ih ⊢
  rw[e,List.take_length_add_append,Nat.add_assoc,List.drop_length_add_append,←ih]
  simp
theorem wV(h:∀a,(c a).length=n){i j:Nat}{l:List α}{a a':α}{v:Value}(ha:l[i]?=some a)(hj:j<n)(hc:(c a).set j v=c a')(rest:List Value):(flat c l++rest).set (i*n+j) v=flat c (l.set i a')++rest:=by
 have hi:i<l.length:=(bY.1 ha).1
 have hL:(flat c l++rest).length=l.length*n+rest.length:=by rw[a_,fA h]
 have h1:=wU h a' rest hi
 rw[←h1,←hc]
 have hle:(i+1)*n≤l.length*n:=r7 n hi
 rw[qK,Nat.one_mul] at hle
 have hr:=ph h ha rest
 apply pN
 intro k
 unfold dT
 rw[eL,Ei,Ei]
 have hca:=h a
 simp only[iB,kH,hca,hL]
 rw[Bw yd]
 split
 ·rw[kG yd,tq,if_pos (by assumption)]
 ·rename_i hk
  split
  ·rename_i hk2
   by_cases hkj:k=i*n+j
   ·subst hkj
    rw[iM yd,Nat.add_sub_cancel_left,iM yd]
   ·rw[kG yd,kG yd,←hr,tq,if_pos hk2,rZ]
    congr 1;omega
  ·rename_i hk2
   rw[kG yd,rZ]
   congr 1;omega
theorem Kt(m:Nat)(a:α):(List.replicate m (c a)).flatten=flat c (List.replicate m a):=by simp[flat]
theorem qd{p:Value→Bool}(h:∀a,(c a).all p=true)(l:List α):(flat c l).all p=true:=by
 rw[lh];intro v hv
 obtain⟨r,hr,hv⟩:=List.mem_flatten.1 hv
 obtain⟨a,_,rfl⟩:=bP.1 hr
 exact lh.1 (h a) v hv
end
theorem a8.at_{Fr:Nat→Prop}{L:List HP}{w:World}(h:a8 Fr L w)(i:Nat){H:HP}(hL:L[i]?=some H):a8 Fr [H] w:=by
 obtain⟨F,hs,hf⟩:=h
 obtain⟨ids,h1,h2⟩:=hs.get hL
 exact⟨ids,⟨ids,[],by simp,h1,Z⟩,fun b hb=>hf b (h2 b hb)⟩
theorem a8.ex{Fr:Nat→Prop}{α:Type}{f:α→HP}{w:World}(h:a8 Fr [hex f] w):∃x,a8 Fr [f x] w:=by
 obtain⟨F,⟨ids,G,hF,⟨x,hx⟩,hG⟩,hf⟩:=h
 exact⟨x,F,⟨ids,G,hF,hx,hG⟩,hf⟩
theorem a8.sep{Fr:Nat→Prop}{L:List HP}{w:World}(h:a8 Fr [cR L] w):a8 Fr L w:=by
 obtain⟨F,⟨ids,G,hF,hx,hG⟩,hf⟩:=h
 exact⟨ids,hx,fun b hb=>hf b (by rw[hF];exact ez.2 (.inl hb))⟩
theorem a8.pure{Fr:Nat→Prop}{L:List HP}{w:World}(h:a8 Fr L w)(i:Nat){φ:Prop}(hL:L[i]?=some (kO φ)):φ:=by
 obtain⟨F,hs,hf⟩:=h
 obtain⟨ids,h1,h2⟩:=hs.get hL
 exact h1.2
theorem a8.tail{Fr:Nat→Prop}{H:HP}{L:List HP}{w:World}(h:a8 Fr (H::L) w):a8 Fr L w:=by
 obtain⟨F,⟨G,K,rfl,_,hK⟩,hf⟩:=h
 exact⟨K,hK,fun b hb=>hf b (ez.2 (.inr hb))⟩
theorem a8.shut{Fr:Nat→Prop}{α:Type}{φ:α→Prop}{Ls:α→List HP}{w:World}(x:α)(hx:φ x)(h:a8 Fr (Ls x) w):a8 Fr [hex fun x=>cR (kO (φ x)::Ls x)] w:=by
 obtain⟨F,hs,hf⟩:=h
 exact⟨F,⟨F,[],by simp,⟨x,[],F,Z,⟨rfl,hx⟩,hs⟩,Z⟩,hf⟩
theorem a8.of{X:Cx}{Fr':Nat→Prop}{L:List HP}(hw:a8 X.Fr L X.w0)(hF:∀b,X.Fr b→Fr' b){M:List HP}{w':World}(hs:St X M w'):a8 Fr' L w':=by
 obtain⟨F,h1,h2⟩:=hw
 exact⟨F,h1.loc (fun b hb=>hs.cS.block b (h2 b hb)),fun b hb=>hF b (h2 b hb)⟩
theorem bu.of{X:Cx}{b:Nat}{cs:List Value}(h:bu X.Fr X.w0 b cs){Fr':Nat→Prop}(hF:∀b,X.Fr b→Fr' b){w:World}{L:List HP}(hw:St X L w):bu Fr' w b cs:=h.cS hF hw
section
variable {X:Cx} {ops:Array Oper} {G:GS} {l:List Oper} {pl:iE} {S:kk} {e:Env} {L:List HP} {K:Env→List HP→Prop}
  {dst:Option Tmp} {ty:TypeId} {pos:String} {after:Array Edge} {guard:Option (Nat×Bool)}
theorem aQ.dK{φ:Value→Prop}{f:FuncId}{args:Array Operand}{tys:Array TypeId}{vals:List Value}
  (ht:∀Fr' w,(∀b,X.Fr b→Fr' b)→St X L w→a8 Fr' L w→az X.P f vals Fr' w [] (fun v L=>φ v∧L=[])) (hargs:fy e args.toList=some vals):
  aQ X (.call ⟨.value (.func f),args,tys⟩) e L (fun v L'=>φ v∧L'=L):=by
 intro a w ha hw dst ty pos after guard
 rcases aQ.call (R:=fun v L=>φ v∧L=[]) hargs (Lc:=[]) (Lr:=L) (.refl _) ht a w ha hw dst ty pos after guard with ⟨v,w',L',h1,⟨L1,⟨h2,h3⟩,h4⟩,h5⟩ | ⟨w',L',h1,⟨L1,⟨h2,h3⟩,h4⟩,h5⟩ | ⟨f,args,h1,h2⟩
 ·exact .inl ⟨v,w',L',h1,⟨h2,by rw[h4,h3];rfl⟩,h5⟩
 ·exact .inr (.inl ⟨w',L',h1,⟨h2,by rw[h4,h3];rfl⟩,h5⟩)
 ·refine .inr (.inr ⟨f,args,h1,Calls.mono h2 fun en w' ⟨v,L',h3,⟨L1,⟨h4,h5⟩,h6⟩,h7⟩=>⟨v,L',h3,⟨h4,by rw[h6,h5];rfl⟩,h7⟩⟩)
theorem VO.dK{φ:Value→Prop}{f:FuncId}{args:Array Operand}{tys:Array TypeId}{vals:List Value}
  (ht:∀Fr' w,(∀b,X.Fr b→Fr' b)→St X L w→a8 Fr' L w→az X.P f vals Fr' w [] (fun v L=>φ v∧L=[])) (hargs:fy e args.toList=some vals)
  (hk:∀v,φ v→VO X ops G l (bX dst v e) L K)
  (hg:cy ops G guard=some true:=by rfl) (hd:cL X.n dst=true:=by rfl) (hf:cD G dst=true:=by rfl):
  VO X ops G (⟨dst,.call ⟨.value (.func f),args,tys⟩,ty,pos,after,guard⟩::l) e L K:=
 VO.op hg hd hf (aQ.dK ht hargs) fun v L' ⟨h1,h2⟩=>by subst h2;exact hk v h1
theorem VO.JB{u:Value}{f:FuncId}{args:Array Operand}{tys:Array TypeId}{vals:List Value}
  (ht:∀Fr' w,(∀b,X.Fr b→Fr' b)→St X L w→a8 Fr' L w→az X.P f vals Fr' w [] (fun v L=>v=u∧L=[])) (hargs:fy e args.toList=some vals)
  (hk:VO X ops G l (bX dst u e) L K)
  (hg:cy ops G guard=some true:=by rfl) (hd:cL X.n dst=true:=by rfl) (hf:cD G dst=true:=by rfl):
  VO X ops G (⟨dst,.call ⟨.value (.func f),args,tys⟩,ty,pos,after,guard⟩::l) e L K:=
 VO.dK ht hargs (fun v h=>by subst h;exact hk) hg hd hf
theorem VA.dK{φ:Value→Prop}{f:FuncId}{args:Array Operand}{tys:Array TypeId}{vals:List Value}{i:Nat}
  (ht:∀Fr' w,(∀b,X.Fr b→Fr' b)→St X L w→a8 Fr' L w→az X.P f vals Fr' w [] (fun v L=>φ v∧L=[]))
  (hi:ops.toList[i]?=some ⟨dst,.call ⟨.value (.func f),args,tys⟩,ty,pos,after,guard⟩) (hargs:fy e args.toList=some vals)
  (hst:∀w,St X L w→∀p∈S,waits ops i p.1=false→p.2 w)
  (hk:∀v,φ v→VA X ops G pl (S.filter fun p=>!waits ops i p.1) (bX dst v e) L K)
  (hg:cy ops G guard=some true:=by rfl) (hd:cL X.n dst=true:=by rfl) (hf:cD G dst=true:=by rfl):VA X ops G (.only i pl) S e L K:=
 VA.op (M:=fun v L'=>φ v∧L'=L) hi hg hd hf (aQ.dK ht hargs) (fun v L' ⟨_,h2⟩ w hw=>by subst h2;exact hst w hw) (fun v L' ⟨h1,h2⟩=>by subst h2;exact hk v h1)
def Pd(X:Cx)(L:List HP)(S:kk):Prop:=∀p∈S,∀w,St X L w→p.2 w
theorem Pd.nil:Pd X L []:=fun _ h=>by cases h
theorem Pd.cons{ti:TI}{b off i:Nat}{v:Value}(h:ax X L ti b off v)(hs:Pd X L S):Pd X L ((i,Rd ti.aJ.agg ti.size b off v)::S):=fun p hp w hw=>by
 rcases jK.1 hp with rfl | hp
 ·exact h w hw
 ·exact hs p hp w hw
theorem Pd.filter{f:Nat×(World→Prop)→Bool}(hs:Pd X L S):Pd X L (S.filter f):=fun p hp=>hs p (iC.1 hp).1
theorem Pd.inner{f g:Nat×(World→Prop)→Bool}(h:Pd X L (S.filter g)):Pd X L ((S.filter f).filter g):=fun p hp=>by
 obtain⟨h1,h2⟩:=iC.1 hp
 exact h p (iC.2 ⟨(iC.1 h1).1,h2⟩)
theorem Pd.skip{i j:Nat}{φ:World→Prop}(hf:waits ops j i=true)(h:Pd X L (S.filter fun p=>!waits ops j p.1)):Pd X L (((i,φ)::S:kk).filter fun p=>!waits ops j p.1):=by
 rw[List.filter_cons_of_neg (by simp[hf])];exact h
theorem Pd.Kj{f:Nat×(World→Prop)→Bool}{ti:TI}{b off i:Nat}{v:Value}(h:ax X L ti b off v)(hs:Pd X L (S.filter f)):Pd X L (((i,Rd ti.aJ.agg ti.size b off v)::S).filter f):=fun p hp=>by
 obtain⟨h1,h2⟩:=iC.1 hp
 rcases jK.1 h1 with rfl | h1
 ·exact fun w hw=>h w hw
 ·exact hs p (iC.2 ⟨h1,h2⟩)
theorem Pd.st(hs:Pd X L S){i:Nat}:∀w,St X L w→∀p∈S,waits ops i p.1=false→p.2 w:=fun w hw p hp _=>hs p hp w hw
theorem VA.Ah{i:Nat}{o:Oper}{M:Value→List HP→Prop}(h:aQ X o.op e L M)(hi:ops.toList[i]?=some o)
  (hst:∀v L',M v L'→Pd X L' (S.filter fun p=>!waits ops i p.1))
  (hk:∀v L',M v L'→VA X ops G pl (S.filter fun p=>!waits ops i p.1) (bX o.dst v e) L' K)
  (hg:cy ops G o.guard=some true:=by rfl) (hd:cL X.n o.dst=true:=by rfl) (hf:cD G o.dst=true:=by rfl):VA X ops G (.only i pl) S e L K:=
 VA.op hi hg hd hf h (fun v L' hm w hw p hp hq=>hst v L' hm p (iC.2 ⟨hp,by simp[hq]⟩) w hw) hk
theorem aQ.mono{op:Op}{M N:Value→List HP→Prop}(h:aQ X op e L M)(hm:∀v L',M v L'→N v L'):aQ X op e L N:=fun a w ha hw dst ty pos after guard=>by
 rcases h a w ha hw dst ty pos after guard with ⟨v,w',L',h1,h2,h3⟩ | ⟨w',L',h1,h2,h3⟩ | ⟨f,args,h1,h2⟩
 ·exact .inl ⟨v,w',L',h1,hm _ _ h2,h3⟩
 ·exact .inr (.inl ⟨w',L',h1,hm _ _ h2,h3⟩)
 ·exact .inr (.inr ⟨f,args,h1,Calls.mono h2 fun en w' ⟨v,L',h3,h4,h5⟩=>⟨v,L',h3,hm _ _ h4,h5⟩⟩)
theorem VA.AF{j:Nat}{T:TypeId}{x y:Operand}{ti:TI}{b off t:Nat}{cs cs' vs:List Value}{L':List HP}(i:Nat)(hi:ops.toList[j]?=some ⟨dst,.store T x y,ty,pos,after,guard⟩)(hx:ev e x=some (.pointer (some ⟨b,off,none⟩)))(hy:ev e y=some (.agg vs.toArray))(hL:L[i]?=some (pt b cs t))
  (hT:bS X.tab T=some ti) (hl:off+vs.length≤cs.length) (hcs:dT cs off vs=cs') (hL':L.set i (pt b cs' t)=L') (h1:vs.all Value.oneCell'=true) (hst:Pd X L' (S.filter fun p=>!waits ops j p.1))
  (hk:VA X ops G pl (S.filter fun p=>!waits ops j p.1) (bX dst undef e) L' K) (hs:vs.length=ti.size:=by rfl)
  (hg:cy ops G guard=some true:=by rfl) (hd:cL X.n dst=true:=by rfl) (hf:cD G dst=true:=by rfl):VA X ops G (.only j pl) S e L K:=by
 subst hcs;subst hL'
 exact VA.Ah (aQ.store (vs:=vs) i hx hy hL hT Z hs hl h1) hi (fun v L' ⟨h3,h4⟩=>by subst h4;exact hst) (fun v L' ⟨h3,h4⟩=>by subst h3;subst h4;exact hk) hg hd hf
theorem VA.st{j:Nat}{T:TypeId}{x y:Operand}{ti:TI}{b off t:Nat}{cs cs':List Value}{v:Value}{L':List HP}(i:Nat)(hi:ops.toList[j]?=some ⟨dst,.store T x y,ty,pos,after,guard⟩)(hx:ev e x=some (.pointer (some ⟨b,off,none⟩)))(hy:ev e y=some v)(hL:L[i]?=some (pt b cs t))
  (hT:bS X.tab T=some ti) (hlt:off<cs.length) (hcs:cs.set off v=cs') (hL':L.set i (pt b cs' t)=L') (hst:Pd X L' (S.filter fun p=>!waits ops j p.1))
  (hk:VA X ops G pl (S.filter fun p=>!waits ops j p.1) (bX dst undef e) L' K) (h1:v.oneCell'=true:=by rfl) (hv:v.cells=#[v]:=by rfl) (hsz:ti.size=1:=by rfl)
  (hg:cy ops G guard=some true:=by rfl) (hd:cL X.n dst=true:=by rfl) (hf:cD G dst=true:=by rfl):VA X ops G (.only j pl) S e L K:=by
 subst hcs;subst hL'
 exact VA.Ah (aQ.store (vs:=[v]) i hx hy hL hT hv (by simp[hsz]) ye yg) hi (fun v' L' ⟨h3,h4⟩=>by subst h4;rw[Hr _ _ _ hlt];exact hst) (fun v' L' ⟨h3,h4⟩=>by subst h3;subst h4;rw[Hr _ _ _ hlt];exact hk) hg hd hf
end
section
variable {P:Program} {b:Frame} {a:Act} {k:List Item} {cs:List Frame} {w:World}
theorem X5{c:Code}:step P (lone (b.atR a (.code (.scope c)::k)) cs w)=.next (lone (b.atR a (.code c :: .inScope c::k)) cs w):=
 step_lone_go yl
theorem X3{c:Code}:step P (lone (b.atR a (.inScope c::k)) cs w)=.next (lone (b.atR a k) cs w):=
 step_lone_go yl
end
def Xu(Q:Exit→Env→List HP→Prop):Exit→Env→List HP→Prop
 | .goto _,_,_=>False
 | x,e,L=>Q x e L
theorem VC.scope{X:Cx}{c:Code}{e:Env}{L:List HP}{Q:Exit→Env→List HP→Prop}(h:VC X c e L (Xu Q)):VC X (.scope c) e L Q:=fun ro a w ha hw b k cs hro hb hr=>by
 obtain⟨x,a₁,w₁,⟨e',L',h1,h2,h3⟩,harr⟩:=h ro a w ha hw b (.inScope c::k) cs hro hb hr
 have st:StepsIn (Machine.fenced X.P (wR ro)) X.P (lone (b.atR a (.code (.scope c)::k)) cs w) (lone (b.atR a (.code c :: .inScope c::k)) cs w):=.one (fenced_calm hb hr rfl) X5
 cases x with
 | normal=>exact⟨.normal,a₁,w₁,⟨e',L',h1,h2,h3⟩,StepsIn.trans st (StepsIn.trans harr (.one (fenced_calm hb hr rfl) X3))⟩
 | exit id=>exact⟨_,a₁,w₁,⟨e',L',h1,h2,h3⟩,.of_steps st ⟨fun k' hk=>harr.1 k' (by simp[exitTo,hk]),fun hr hk=>harr.2 hr (by simp[exitTo,hk])⟩⟩
 | goto l=>exact h3.elim
 | ret=>exact⟨_,a₁,w₁,⟨e',L',h1,h2,h3⟩,.of_steps st harr⟩
 | panic ch=>exact⟨_,a₁,w₁,⟨e',L',h1,h2,h3⟩,.of_steps st harr⟩
 | outgrown=>exact⟨_,a₁,w₁,⟨e',L',h1,h2,h3⟩,.of_steps st harr⟩
theorem Gs:∀{L:List HP} {i:Nat} (H:HP),i<L.length→(H::L.eraseIdx i).Perm (L.set i H)
 | [],_,_,h=>by simp at h
 | _::L,0,H,_=>by simp
 | x::L,i+1,H,h=>(List.Perm.swap x H _).trans ((Gs H yc).cons x)
theorem dq.back{X:Cx}{L:List HP}(i:Nat)(H:HP)(h:i<L.length):dq X (H::L.eraseIdx i) (L.set i H):=(aa.perm (Gs H h)).ah
theorem Ut{X:Cx}{e:Env}{T:TypeId}{parts:Array (Nat×Operand)}{ti te:TI}{n el:Nat}{pv:List (Nat×Value)}(cells:List Value)(hT:bS X.tab T=some ti)(hu:ti.aJ=.array n el)(hE:bS X.tab el=some te)
  (hp:od e parts.toList=some pv) (hfill:qZ (fun i=>some (i*te.size,te.size)) ti.zs pv=some cells):fN X (.build T parts) e (.agg cells.toArray):=by
 intro a ha dst ty pos after guard w
 have hok:=X.ok.look hT
 have hund:=N1 hok hu
 obtain⟨i2,hi2,hs2,_,_⟩:=(X.ok.look hE).og
 have hparts:parts.map (fun p=>(p.1,a.eval p.2))=pv.toArray:=by
  apply nK.1
  simpa using ha.od hp
 have hf:=B0 hfill
 have hb:(Instr.build T pv.toArray).run X.P w=.ok (.agg cells.toArray) w:=by
  unfold Instr.build
  simp only[Sem.run_bind,vu hok,Result.andThen_ok,run_underlying hund,mu hi2,hok.zero,hs2]
  simp only[hf,Sem.run_pure]
 simp only[execOp]
 rw[Sem.run_bind]
 have:(parts.map fun x=>match x with | (i,x)=>(i,a.eval x))=pv.toArray:=hparts
 rw[this,hb];rfl
theorem aa.of_eq{L M:List HP}(h:L=M):aa L M:=h▸aa.refl
theorem dq.of_eq{X:Cx}{L M:List HP}(h:L=M):dq X L M:=h▸dq.refl
section
variable {X:Cx} {ops:Array Oper} {G:GS} {l:List Oper} {pl:iE} {S:kk} {e:Env} {L:List HP} {K:Env→List HP→Prop}
  {dst:Option Tmp} {ty:TypeId} {pos:String} {after:Array Edge} {guard:Option (Nat×Bool)}
theorem aQ.oJ{f:FuncId}{args:Array Operand}{tys:Array TypeId}{vals:List Value}{H:HP}{R:Value→List HP→Prop}{ψ:Value→HP→Prop}(i:Nat)
  (hL:L[i]?=some H) (ht:∀Fr' w,(∀b,X.Fr b→Fr' b)→St X L w→a8 Fr' (L.eraseIdx i) w→az X.P f vals Fr' w [H] R) (hargs:fy e args.toList=some vals)
  (hR:∀v L1,R v L1→∃H',L1=[H']∧ψ v H'):
  aQ X (.call ⟨.value (.func f),args,tys⟩) e L (fun v L'=>∃H',ψ v H'∧L'=L.set i H'):=by
 intro a w ha hw dst ty pos after guard
 have hi:i<L.length:=(bY.1 hL).1
 have key:∀v w' L',(∃L1,R v L1∧L'=L1++L.eraseIdx i)→St X L' w'→∃L'',(∃H',ψ v H'∧L''=L.set i H')∧St X L'' w':=by
  rintro v w' _ ⟨L1,h1,rfl⟩ hs
  obtain⟨H',rfl,hψ⟩:=hR v L1 h1
  exact⟨_,⟨H',hψ,Z⟩,dq.back i H' hi w' hs⟩
 rcases aQ.call (R:=R) hargs (Lc:=[H]) (Lr:=L.eraseIdx i) (oT hL) ht a w ha hw dst ty pos after guard with ⟨v,w',L',h1,h2,h3⟩ | ⟨w',L',h1,h2,h3⟩ | ⟨f,args,h1,h2⟩
 ·obtain⟨L'',h4,h5⟩:=key _ _ _ h2 h3
  exact .inl ⟨v,w',L'',h1,h4,h5⟩
 ·obtain⟨L'',h4,h5⟩:=key _ _ _ h2 h3
  exact .inr (.inl ⟨w',L'',h1,h4,h5⟩)
 ·refine .inr (.inr ⟨f,args,h1,Calls.mono h2 fun en w' ⟨v,L',h3,h4,h5⟩=>?_⟩)
  obtain⟨L'',h6,h7⟩:=key _ _ _ h4 h5
  exact⟨v,L'',h3,h6,h7⟩
theorem VO.oJ{f:FuncId}{args:Array Operand}{tys:Array TypeId}{vals:List Value}{H:HP}{R:Value→List HP→Prop}{ψ:Value→HP→Prop}(i:Nat)
  (hL:L[i]?=some H) (ht:∀Fr' w,(∀b,X.Fr b→Fr' b)→St X L w→a8 Fr' (L.eraseIdx i) w→az X.P f vals Fr' w [H] R) (hargs:fy e args.toList=some vals)
  (hR:∀v L1,R v L1→∃H',L1=[H']∧ψ v H') (hk:∀v H',ψ v H'→VO X ops G l (bX dst v e) (L.set i H') K)
  (hg:cy ops G guard=some true:=by rfl) (hd:cL X.n dst=true:=by rfl) (hf:cD G dst=true:=by rfl):
  VO X ops G (⟨dst,.call ⟨.value (.func f),args,tys⟩,ty,pos,after,guard⟩::l) e L K:=
 VO.op hg hd hf (aQ.oJ i hL ht hargs hR) fun v L' ⟨H',h1,h2⟩=>by subst h2;exact hk v H' h1
theorem VA.oJ{j:Nat}{f:FuncId}{args:Array Operand}{tys:Array TypeId}{vals:List Value}{H:HP}{R:Value→List HP→Prop}{ψ:Value→HP→Prop}(i:Nat)
  (hL:L[i]?=some H) (ht:∀Fr' w,(∀b,X.Fr b→Fr' b)→St X L w→a8 Fr' (L.eraseIdx i) w→az X.P f vals Fr' w [H] R)
  (hi:ops.toList[j]?=some ⟨dst,.call ⟨.value (.func f),args,tys⟩,ty,pos,after,guard⟩) (hargs:fy e args.toList=some vals)
  (hR:∀v L1,R v L1→∃H',L1=[H']∧ψ v H') (hst:∀v H',ψ v H'→Pd X (L.set i H') (S.filter fun p=>!waits ops j p.1))
  (hk:∀v H',ψ v H'→VA X ops G pl (S.filter fun p=>!waits ops j p.1) (bX dst v e) (L.set i H') K)
  (hg:cy ops G guard=some true:=by rfl) (hd:cL X.n dst=true:=by rfl) (hf:cD G dst=true:=by rfl):VA X ops G (.only j pl) S e L K:=
 VA.Ah (aQ.oJ i hL ht hargs hR) hi (fun v L' ⟨H',h1,h2⟩=>by subst h2;exact hst v H' h1) (fun v L' ⟨H',h1,h2⟩=>by subst h2;exact hk v H' h1) hg hd hf
end
theorem zS:type_of% @VC.seq:=@VC.seq
theorem zR:type_of% @VC.region:=@VC.region
theorem zB:type_of% @VC.block:=@VC.block
theorem zC:type_of% @VC.scope:=@VC.scope
theorem zG:type_of% @VO.go:=@VO.go
theorem zN:type_of% @VO.nil:=@VO.nil
theorem zD:type_of% @VO.ld:=@VO.ld
theorem zE:type_of% @VO.load:=@VO.load
theorem yG:type_of% @VA.go:=@VA.go
theorem yN:type_of% @VA.nil:=@VA.nil
theorem yD:type_of% @VA.ld:=@VA.ld
theorem yE:type_of% @VA.load:=@VA.load
theorem zo:type_of% @ax.one:=@ax.one
theorem zm:type_of% @ax.many:=@ax.many
theorem zf:type_of% @Pd.Kj:=@Pd.Kj
theorem zc:type_of% @Pd.cons:=@Pd.cons
end Vg
namespace Vg
open Go
theorem VO.vh{X:Cx}{ops:Array Oper}{G:GS}{o:Oper}{l:List Oper}{e:Env}{L:List HP}{K:Env→List HP→Prop}{j d:Nat}{want:Bool}
  (hg:o.guard=some (j,want)) (hj:(ops.toList[j]?).bind (fun oj=>oj.dst)=some d) (hu:look e d=some undef)
  (hk:VO X ops G l (bX o.dst undef e) L K) (hd:cL X.n o.dst=true:=by rfl) (hf:cD G o.dst=true:=by rfl):VO X ops G (o::l) e L K:=by
 intro Q' hQ ro a w ha hG hw
 unfold wpListIn
 have hn:Region.wanted o (yielded ops a.tmps)=false:=by
  unfold Region.wanted
  rw[hg]
  have hy:yielded ops a.tmps j=none:=by
   unfold yielded
   have hj':(ops[j]?).bind (fun oj=>oj.dst)=some d:=by simpa using hj
   have ht:=ha.at_ d _ hu
   rw[hj']
   simp only[mD]
   cases hq:a.tmps[d]? with
   | none=>rfl
   | some v=>
    have:v=undef:=by rw[←ht,yK,hq];rfl
    subst this;rfl
  simp[hy]
 rw[if_neg (by rw[hn];simp)]
 exact Ou
theorem zU:type_of% @VO.vh:=@VO.vh
end Vg
namespace Vg
open Go
theorem FL{X:Cx}{e:Env}{T:TypeId}{x y:Operand}{tt te:TI}{el len cap:Nat}{a:Option Addr}{k:IntKind}{j:Int}(hi:Nat)(hx:ev e x=some (.slice a len cap))(hy:ev e y=some (.int k j))
  (hT:bS X.tab T=some tt) (hu:tt.aJ=.slice el) (hE:bS X.tab el=some te) (hhi:j=hi) (h1:hi≤cap):
  fN X (.slice T x none (some y) none) e (.slice a hi cap):=by
 intro ac hac dst ty pos after guard w
 have hd:=qB (X.ok.look hT) hu
 obtain⟨i2,hi2,hs2,_,_⟩:=(X.ok.look hE).og
 subst hhi
 simp[execOp,hac.ev hx,hac.ev hy,Instr.sliceAt,Instr.slice,Instr.sliceBounds,Instr.sliceBound,asIntOf,run_underlying hd,h1,mu hi2]
 cases a with
 | none=>simp
 | some a=>simp[Addr.add]
theorem rm{X:Cx}{e:Env}{s d:TypeId}{x:Operand}{j:IntKind}{a:Int}{ts td:TI}{k:IntKind}(z:Int)(hx:ev e x=some (.int j a))(hs:bS X.tab s=some ts)(hd':bS X.tab d=some td)(hsu:ts.aJ=.int j)(hdu:td.aJ=.int k)
  (hz:k.wrap a=z):fN X (.convert s d x) e (.int k z):=by
 have h1:=Hk (X.ok.look hs) hsu
 have h2:=Hk (X.ok.look hd') hdu
 intro a' ha dst ty pos after guard w
 simp[execOp,ha.ev hx,convert,run_underlying h1,run_underlying h2,Conv.intToInt,hz]
theorem aq.JE{X:Cx}{fn:Func}{R:Value→List HP→Prop}{e:Env}{L:List HP}{T:TypeId}{ti:TI}{b:Nat}{v u x:Value}(p q r:Nat)(h:fn.results=#[.cell p T,.tmp q,.tmp r])(hp:look e p=some (.pointer (some ⟨b,0,none⟩)))(hT:bS X.tab T=some ti)
  (hr:ax X L ti b 0 v) (hq:look e q=some u) (hx:look e r=some x) {L':List HP} (he:dq X L L') (hR:R (.tuple #[v,u,x]) L'):aq X fn R e L:=
 ⟨_,L',⟨fun a w ha hw=>by
  have:=C9 (X.ok.look hT) (hr w hw)
  have hp':=ha.at_ p _ hp
  have hq':=ha.at_ q _ hq
  have hx':=ha.at_ r _ hx
  simp only[yK] at hp' hq' hx'
  simp[results,h,hp',hq',hx',asAddr,this]⟩,he,hR⟩
theorem aQ.abZ{X:Cx}{f:FuncId}{args:Array Operand}{tys:Array TypeId}{e:Env}{L:List HP}{M:Value→List HP→Prop}{t:Tmp}(ht:look e t=some (.func (.func f) #[] #[]))
  (h:aQ X (.call ⟨.value (.func f),args,tys⟩) e L M):aQ X (.call ⟨.value (.tmp t),args,tys⟩) e L M:=fun a w ha hw dst ty pos after guard=>by
 have he:a.eval (.tmp t)=a.eval (.func f):=ha.at_ t _ ht
 have key:execOp a.eval ⟨dst,.call ⟨.value (.tmp t),args,tys⟩,ty,pos,after,guard⟩=execOp a.eval ⟨dst,.call ⟨.value (.func f),args,tys⟩,ty,pos,after,guard⟩:=by
  simp only[execOp,resolve,he]
 rw[key]
 exact h a w ha hw dst ty pos after guard
section
variable {X:Cx} {ops:Array Oper} {G:GS} {l:List Oper} {pl:iE} {S:kk} {e:Env} {L:List HP} {K:Env→List HP→Prop}
  {dst:Option Tmp} {ty:TypeId} {pos:String} {after:Array Edge} {guard:Option (Nat×Bool)}
theorem VA.V1{i:Nat}{o:Oper}(hi:ops.toList[i]?=some o)(hg:cy ops G o.guard=some false)(hk:VA X ops G pl (S.filter fun p=>!waits ops i p.1) (bX o.dst undef e) L K)
  (hd:cL X.n o.dst=true:=by rfl) (hf:cD G o.dst=true:=by rfl):VA X ops G (.only i pl) S e L K:=by
 intro Q' hp0 hQ hsel ro listed a w hp ha hG hw hall
 simp only[nA,dN,beq_iff_eq] at hp
 have hi':ops[i]?=some o:=by simpa using hi
 have hpr:=hp.1
 refine⟨fun h0=>yh,fun j hj=>?_⟩
 rw[hpr,eA] at hj
 subst hj
 unfold wpOpIn
 rw[hi']
 simp only[pj hG hg,Bool.false_eq_true,if_false]
 refine⟨fun _ _=>trivial,fun p hp1 _=>hall p hp1,?_⟩
 exact hk Q' hp0 hQ hsel ro _ _ w hp.2 (ha.bX hd undef) (hG.put hf undef) hw (fun p hp1=>hall p (iC.1 hp1).1)
theorem VA.T6{cond:List HP→Prop}(h:∀S:kk,(∀L',cond L'→Pd X L' S)→VA X ops G pl S e L K)(h0:∀L',cond L'→Pd X L' S):VA X ops G pl S e L K:=h S h0
theorem VO.pg{f:FuncId}{t:Tmp}{args:Array Operand}{tys:Array TypeId}{vals:List Value}{H:HP}{R:Value→List HP→Prop}{ψ:Value→HP→Prop}(i:Nat)(htm:look e t=some (.func (.func f) #[] #[]))
  (hL:L[i]?=some H) (ht:∀Fr' w,(∀b,X.Fr b→Fr' b)→St X L w→a8 Fr' (L.eraseIdx i) w→az X.P f vals Fr' w [H] R) (hargs:fy e args.toList=some vals)
  (hR:∀v L1,R v L1→∃H',L1=[H']∧ψ v H') (hk:∀v H',ψ v H'→VO X ops G l (bX dst v e) (L.set i H') K)
  (hg:cy ops G guard=some true:=by rfl) (hd:cL X.n dst=true:=by rfl) (hf:cD G dst=true:=by rfl):
  VO X ops G (⟨dst,.call ⟨.value (.tmp t),args,tys⟩,ty,pos,after,guard⟩::l) e L K:=
 VO.op hg hd hf (aQ.abZ htm (aQ.oJ i hL ht hargs hR)) fun v L' ⟨H',h1,h2⟩=>by subst h2;exact hk v H' h1
end
theorem VG:type_of% @VO.go:=@VO.go
theorem AG:type_of% @VA.go:=@VA.go
theorem VY:type_of% @VO.yes:=@VO.yes
theorem AY:type_of% @VA.yes:=@VA.yes
theorem CR:type_of% @VC.ret:=@VC.ret
theorem CK:type_of% @VC.skip:=@VC.skip
theorem CS:type_of% @VC.seq:=@VC.seq
theorem CG:type_of% @VC.region:=@VC.region
theorem ER:type_of% @dq.refl:=@dq.refl
theorem VN:type_of% @VO.nil:=@VO.nil
theorem AN:type_of% @VA.nil:=@VA.nil
theorem CC:type_of% @VC.cond:=@VC.cond
theorem CP:type_of% @VC.JU:=@VC.JU
theorem CE:type_of% @VC.JT:=@VC.JT
theorem VL:type_of% @VO.dQ:=@VO.dQ
theorem VT:type_of% @VO.AF:=@VO.AF
theorem AR:type_of% @VA.JA:=@VA.JA
theorem VV:type_of% @VO.JB:=@VO.JB
theorem VK:type_of% @VO.call:=@VO.call
theorem VQ:type_of% @VO.oJ:=@VO.oJ
theorem VI:type_of% @VO.zT:=@VO.zT
theorem AI:type_of% @VA.zT:=@VA.zT
theorem CN:type_of% @VC.ah:=@VC.ah
theorem VB:type_of% @VO.Ju:=@VO.Ju
theorem SC:type_of% @Sub.cons:=@Sub.cons
theorem SN:type_of% @Sub.nil:=@Sub.nil
theorem IP:type_of% @aa.pick:=@aa.pick
theorem TF:type_of% @az.of:=@az.of
theorem LB:type_of% @KU:=@KU
theorem CX:type_of% @VC.exit:=@VC.exit
theorem CD:type_of% @VC.draw:=@VC.draw
theorem OC:type_of% @aQ.call:=@aQ.call
theorem AO:type_of% @VA.Ah:=@VA.Ah
theorem AQ:type_of% @VA.oJ:=@VA.oJ
theorem AT:type_of% @VA.AF:=@VA.AF
theorem VP:type_of% @VO.add:=@VO.add
theorem AP:type_of% @VA.add:=@VA.add
abbrev pV(b:Nat):Value:=.pointer (some ⟨b,0,none⟩)
end Vg
namespace Vg
open Go
theorem aa.put{H:HP}{L:List HP}(k:Nat)(hk:k<L.length):aa (H::L) (L.set k H):=by
 have h1:aa L (L.eraseIdx k):=aa.trans (aa.perm (oT (GE hk))) (aa.app (L:=[_]) (M:=[]) aa.nil aa.refl)
 exact aa.trans (aa.cons h1) (aa.perm (Gs H hk))
end Vg
namespace Vg
open Go
structure RL(α:Type) where
 addr:Option Addr
 cap:Nat
 aC:Option Nat
 cells:List Value
 xs:List α
section
variable {α:Type} {c:α→List Value} {n t:Nat}
def RL.v(r:RL α):Value:=.slice r.addr r.xs.length r.cap
def RL.h(t:Nat)(r:RL α):HP:=match r.aC with
 | none=>kO True
 | some b=>pt b r.cells t
structure RL.Ok(c:α→List Value)(n:Nat)(r:RL α):Prop where
 room:r.xs.length≤r.cap
 at_:r.xs≠[]→∃b off,r.aC=some b∧r.addr=some ⟨b,off,none⟩∧∀i x,r.xs[i]?=some x→(r.cells.drop (off+i*n)).take n=c x
def RL.none:RL α:=⟨.none,0,.none,[],[]⟩
theorem RL.VR:(RL.none:RL α).Ok c n:=⟨NR _,fun h=>absurd rfl h⟩
def RL.new(c:α→List Value)(b cap:Nat)(xs:List α)(rest:List Value):RL α:=⟨some ⟨b,0,Option.none⟩,cap,some b,flat c xs++rest,xs⟩
theorem RL.CB(hc:∀x,(c x).length=n){b cap:Nat}{xs:List α}{rest:List Value}(h:xs.length≤cap):(RL.new c b cap xs rest).Ok c n:=⟨h,fun _=>⟨b,0,rfl,rfl,fun i x hx=>by
 rw[di];exact ph hc hx rest⟩⟩
theorem RL.Ok.nth{r:RL α}{x:α}{k:Nat}(h:r.Ok c n)(hx:r.xs[k]?=some x):∃b off,r.aC=some b∧r.addr=some ⟨b,off,Option.none⟩∧(r.cells.drop (off+k*n)).take n=c x:=by
 obtain⟨b,off,h1,h2,h3⟩:=h.at_ (fun e=>by rw[e] at hx;cases hx)
 exact⟨b,off,h1,h2,h3 k x hx⟩
theorem RL.FA{r:RL α}{b:Nat}(h:r.aC=some b):r.h t=pt b r.cells t:=by rw[RL.h,h]
theorem ba.rl(el:Nat)(a:Option Addr)(cap:Nat)(xs:List α)(hc:∀x,(c x).length=n):ba (ι:=RL α) (aA el n a xs.length cap (flat c xs)) (fun r=>r.Ok c n∧r.v=.slice a xs.length cap∧r.xs=xs) (fun r=>[r.h el]):=by
 intro w ids h hn
 obtain⟨x,hx,ids',h1,h2,h3⟩:=ba.sl el n a xs.length cap (flat c xs) w ids h hn
 cases x with
 | none=>
  obtain⟨h5,h6,h7,h8,h9,h10⟩:=hx
  subst h7;subst h9
  obtain rfl:xs=[]:=iz h8
  cases h1
  exact⟨RL.none,⟨RL.VR,rfl,rfl⟩,[],⟨[],[],rfl,⟨rfl,trivial⟩,rfl⟩,.nil,fun _ h=>by cases h⟩
 | some x=>
  obtain⟨b,rest⟩:=x
  obtain⟨h5,h6,h7,h8⟩:=hx
  subst h7
  exact⟨RL.new c b cap xs rest,⟨RL.CB hc h6,Z,Z⟩,ids',h1,h2,h3⟩
end
end Vg
namespace Vg
open Go
structure Ext(P:Program)(f:FuncId)(fn:Func)(g:Array Value→Sem Value):Prop where
 at_:P.funcs[f]?=some fn
 nm:(fn.name == "runtime.NumGoroutine")=false
 nb:fn.body.isNone=true
 nn:Extern.findNext fn=none
 ex:Extern.find fn=some g
theorem Kg(a:Act)(f:FuncId)(args:Array Operand)(tys:Array TypeId)(dst:Option Tmp)(ty:TypeId)(pos:String)(after:Array Edge)(guard:Option (Nat×Bool)):
  execOp a.eval ⟨dst,.call ⟨.value (.func f),args,tys⟩,ty,pos,after,guard⟩=callFunc f (args.map a.eval):=by
 have ef:a.eval (.func f)=.func (.func f) #[] #[]:=rfl
 unfold execOp
 simp[resolve,Deferred.ofValue,invoke,ef]
section
variable {X:Cx} {e:Env} {L:List HP}
end
section
variable {X:Cx} {ops:Array Oper} {G:GS} {l:List Oper} {pl:iE} {S:kk} {e:Env} {L:List HP} {K:Env→List HP→Prop}
  {dst:Option Tmp} {ty:TypeId} {pos:String} {after:Array Edge} {guard:Option (Nat×Bool)}
end
end Vg
namespace Vg
open Go Go.MapKept
section
variable {κ α:Type} [DecidableEq κ]
def lI:List (κ×α)→κ→Nat→Option (Nat×α)
 | [],_,_=>none
 | (k,v)::r,a,i=>if k=a then some (i,v) else lI r a (i+1)
def bF:List (κ×α)→κ→Option α
 | [],_=>none
 | (k,v)::r,a=>if k=a then some v else bF r a
def bV:List (κ×α)→κ→α→List (κ×α)
 | [],a,u=>[(a,u)]
 | (k,v)::r,a,u=>if k=a then (k,u)::r else (k,v)::bV r a u
def eO:List (κ×α)→κ→List (κ×α)
 | [],_=>[]
 | (k,v)::r,a=>if k=a then r else (k,v)::eO r a
theorem u6:∀{l:List (κ×α)} {a:κ} {i:Nat},lI l a i=none→bF l a=none∧(∀x∈l,x.1≠a)∧(∀u,bV l a u=l ++ [(a,u)])∧eO l a=l
 | [],_,_,_=>⟨rfl,(fun _ h=>by cases h),fun _=>rfl,rfl⟩
 | (k,v)::r,a,i,h=>by
  simp only[lI] at h
  split at h
  ·cases h
  ·rename_i hk
   obtain⟨h1,h2,h3,h4⟩:=u6 h
   refine⟨by simp[bF,hk,h1],fun x hx=>?_,fun u=>by simp[bV,hk,h3],by simp[eO,hk,h4]⟩
   rcases jK.1 hx with rfl | hx
   ·exact hk
   ·exact h2 x hx
theorem wZ:∀{l:List (κ×α)} {a:κ} {i j:Nat} {v:α},lI l a i=some (j,v)→i≤j∧l[j-i]?=some (a,v)∧bF l a=some v∧(∀u,bV l a u=l.set (j-i) (a,u))∧eO l a=l.eraseIdx (j-i)
 | [],_,_,_,_,h=>by cases h
 | (k,u)::r,a,i,j,v,h=>by
  simp only[lI] at h
  split at h
  ·rename_i hk
   obtain⟨rfl,rfl⟩:=Prod.mk.inj (oF h)
   subst hk
   refine⟨NR _,by simp,by simp[bF],fun u=>by simp[bV],by simp[eO]⟩
  ·rename_i hk
   obtain⟨h1,h2,h3,h4,h5⟩:=wZ h
   have e:j-i=(j-(i+1))+1:=by omega
   rw[e]
   exact⟨by omega,by simpa using h2,by simp[bF,hk,h3],fun u=>by simp[bV,hk,h4],by simp[eO,hk,h5]⟩
theorem w6(l:List (κ×α))(a b:κ)(u:α):bF (bV l a u) b=if a=b then some u else bF l b:=by
 induction l with
 | nil=>simp[bV,bF]
 | cons x r ih=>
  obtain⟨k,v⟩:=x
  simp only[bV]
  by_cases hk:k=a
  ·subst hk
   by_cases hb:k=b
   ·simp[bF,hb]
   ·simp[bF,hb]
  ·rw[if_neg hk]
   simp only[bF]
   rw[ih]
   by_cases hb:k=b
   ·subst hb;simp[Ne.symm hk]
   ·simp[hb]
theorem UJ(l:List (κ×α))(a:κ):bF l a=none↔∀x∈l,x.1≠a:=by
 induction l with
 | nil=>simp[bF]
 | cons x r ih=>
  obtain⟨k,v⟩:=x
  simp only[bF]
  by_cases hk:k=a
  ·simp[hk]
  ·simp[hk,ih]
theorem u7{l:List (κ×α)}{a:κ}{v:α}(h:bF l a=some v):(a,v)∈l:=by
 induction l with
 | nil=>cases h
 | cons x r ih=>
  obtain⟨k,u⟩:=x
  simp only[bF] at h
  by_cases hk:k=a
  ·rw[if_pos hk] at h;cases h;simp[hk]
  ·rw[if_neg hk] at h;simp[ih h]
theorem acN{l:List (κ×α)}{a:κ}{v:α}(hn:(l.map Prod.fst).Nodup)(h:(a,v)∈l):bF l a=some v:=by
 induction l with
 | nil=>cases h
 | cons x r ih=>
  obtain⟨k,u⟩:=x
  simp only[gA,Bu] at hn
  simp only[bF]
  rcases jK.1 h with h | h
  ·cases h;simp
  ·have:k≠a:=fun e=>hn.1 (e▸bP.2 ⟨(a,v),h,rfl⟩)
   rw[if_neg this];exact ih hn.2 h
theorem UK(l:List (κ×α))(a:κ)(u:α):(bV l a u).map Prod.fst=if a∈l.map Prod.fst then l.map Prod.fst else l.map Prod.fst ++ [a]:=by
 induction l with
 | nil=>simp[bV]
 | cons x r ih=>
  obtain⟨k,v⟩:=x
  simp only[bV]
  by_cases hk:k=a
  ·simp[hk]
  ·rw[if_neg hk,gA,ih]
   by_cases hm:a∈r.map Prod.fst
   ·rw[if_pos hm,if_pos (by simp[hm])];rfl
   ·rw[if_neg hm,if_neg (by simp only[gA,jK,not_or];exact⟨Ne.symm hk,hm⟩)];rfl
theorem Ll{l:List (κ×α)}(h:(l.map Prod.fst).Nodup)(a:κ)(u:α):((bV l a u).map Prod.fst).Nodup:=by
 rw[UK]
 split
 ·exact h
 ·rename_i hm
  exact ja.2 ⟨h,by simp,fun x hx y hy e=>by simp at hy;subst hy;subst e;exact hm hx⟩
theorem Lj(l:List (κ×α))(a:κ):(eO l a).Sublist l:=by
 induction l with
 | nil=>exact List.Sublist.refl _
 | cons x r ih=>
  obtain⟨k,v⟩:=x
  simp only[eO]
  split
  ·exact List.sublist_cons_self _ _
  ·exact ih.cons_cons _
theorem UH{l:List (κ×α)}(h:(l.map Prod.fst).Nodup)(a:κ):((eO l a).map Prod.fst).Nodup:=((Lj l a).map _).nodup h
theorem UI{l:List (κ×α)}(h:(l.map Prod.fst).Nodup)(a b:κ):bF (eO l a) b=if a=b then none else bF l b:=by
 induction l with
 | nil=>simp[eO,bF]
 | cons x r ih=>
  obtain⟨k,v⟩:=x
  simp only[gA,Bu] at h
  simp only[eO]
  by_cases hk:k=a
  ·subst hk
   rw[if_pos rfl]
   by_cases hb:k=b
   ·subst hb
    rw[if_pos rfl,UJ]
    exact fun x hx e=>h.1 (e▸bP.2 ⟨x,hx,Z⟩)
   ·simp[bF,hb]
  ·rw[if_neg hk]
   simp only[bF]
   rw[ih h.2]
   by_cases hb:k=b
   ·subst hb;simp[Ne.symm hk]
   ·simp[hb]
end
structure kJ(P:Program)(kt:TypeId){κ:Type}[DecidableEq κ](c:κ→Value):Prop where
 inj:∀a b,c a=c b→a=b
 check:∀(e:Bool) (a:κ) (w:World),(Instr.checkKey e 10000 kt (c a)).run P w=.ok () w
 find:∀{α:Type} (d:α→Value) (a:κ) (xs:List (κ×α)) (es:List MapEntry),es.map (fun e=>(e.key,e.val))=xs.map (fun x=>(c x.1,d x.2))→∀w:World,
  (Instr.findKey kt (c a) es).run P w=.ok ((lI xs a 0).map fun p=>(p.1,d p.2)) w
 bits:∀a,Instr.sameBits 10000 (c a) (c a)=true
def kZ(s:ByteArray):Value:=.string s
theorem Kn{α:Type}(d:α→Value)(a:ByteArray):∀(xs:List (ByteArray×α)) (es:List MapEntry) (i:Nat),es.map (fun e=>(e.key,e.val))=xs.map (fun x=>(kZ x.1,d x.2)) →
  Instr.findNow .string (kZ a) es i=some ((lI xs a i).map fun p=>(p.1,d p.2))
 | [],[],_,_=>rfl
 | [],_::_,_,h=>by cases h
 | _::_,[],_,h=>by cases h
 | (k,v)::xs,e::es,i,h=>by
  simp only[gA,List.cons.injEq,Prod.mk.injEq] at h
  obtain⟨⟨h1,h2⟩,h3⟩:=h
  unfold Instr.findNow
  rw[h1]
  simp only[kZ,Instr.sameNow,lI]
  by_cases hk:k=a
  ·subst hk
   rw[(bytes_beq k k).2 rfl,if_pos rfl,h2];rfl
  ·have:(a == k)=false:=by
    cases hb:a == k
    ·rfl
    ·exact absurd ((bytes_beq a k).1 hb).symm hk
   rw[this,if_neg hk]
   exact Kn d a xs es (i+1) h3
theorem kJ.string{P:Program}{kt:TypeId}(h:P.underlying kt=some .string):kJ P kt kZ where
 inj:=fun a b h=>by simpa[kZ] using h
 check:=fun e a w=>by
  show(Instr.checkKey e (9999+1) kt (kZ a)).run P w=_
  exact run_checkKey h (by trivial) e 9999
 find:=fun d a xs es hes w=>run_findKey h (Kn d a xs es 0 hes)
 bits:=fun a=>by simp[kZ,Instr.sameBits,bytes_beq]
theorem Km{P:Program}{kt:TypeId}{κ α:Type}[DecidableEq κ]{c:κ→Value}(heq:∀(a b:κ) (w:World),(Op.equal kt (c a) (c b)).run P w=.ok (decide (a=b)) w)(d:α→Value)(a:κ):
  ∀(xs:List (κ×α)) (es:List MapEntry) (i:Nat),es.map (fun e=>(e.key,e.val))=xs.map (fun x=>(c x.1,d x.2))→∀w:World,(Instr.findAsking kt (c a) es i).run P w=.ok ((lI xs a i).map fun p=>(p.1,d p.2)) w
 | [],[],_,_,_=>rfl
 | [],_::_,_,h,_=>by cases h
 | _::_,[],_,h,_=>by cases h
 | (k,v)::xs,e::es,i,h,w=>by
  simp only[gA,List.cons.injEq,Prod.mk.injEq] at h
  obtain⟨⟨h1,h2⟩,h3⟩:=h
  unfold Instr.findAsking
  rw[Sem.run_bind,h1,heq a k w,Result.andThen_ok]
  simp only[lI]
  by_cases hk:k=a
  ·subst hk
   simp only[decide_true,if_true,h2];rfl
  ·rw[if_neg hk,DF (Ne.symm hk)]
   simp only[Bool.false_eq_true,if_false]
   exact Km heq d a xs es (i+1) h3 w
def o_{κ α:Type}(c:κ→Value)(d:α→Value)(b:Nat)(xs:List (κ×α))(w:World):Prop:=
 ∃(es:Array MapEntry) (clock:Nat),w.heap[b]?=some (.map es clock)∧es.toList.map (fun e=>(e.key,e.val))=xs.map (fun x=>(c x.1,d x.2))∧Stamped es clock
theorem o_.loc{κ α:Type}{c:κ→Value}{d:α→Value}{b:Nat}{xs:List (κ×α)}{w w':World}(h:o_ c d b xs w)(hb:w'.heap[b]?=w.heap[b]?):o_ c d b xs w':=by
 obtain⟨es,k,h1,h2⟩:=h
 exact⟨es,k,hb.trans h1,h2⟩
def fZ{κ α:Type}(c:κ→Value)(d:α→Value)(b:Nat)(xs:List (κ×α)):HP:=
 ⟨fun ids w=>ids=[b]∧o_ c d b xs w,fun _ _ _ h hs=>⟨hs.1,hs.2.loc (h b yb)⟩⟩
structure qM{κ α:Type}(Fr:Nat→Prop)(w:World)(c:κ→Value)(d:α→Value)(b:Nat)(xs:List (κ×α)):Prop where
 fr:Fr b
 at_:o_ c d b xs w
section
variable {X:Cx} {κ α:Type} {c:κ→Value} {d:α→Value} {b:Nat} {xs:List (κ×α)}
theorem St.BN{L:List HP}{w:World}(h:St X L w){i:Nat}(hL:L[i]?=some (fZ c d b xs)):o_ c d b xs w∧¬X.Fr b:=by
 obtain⟨F,hs,_,hb⟩:=h.sat
 obtain⟨ids,h1,h2⟩:=hs.get hL
 obtain⟨rfl,h1⟩:=h1
 exact⟨h1,(hb b (h2 b yf)).1⟩
theorem a8.Aa{Fr:Nat→Prop}{L:List HP}{w:World}(h:a8 Fr L w)(i:Nat)(hL:L[i]?=some (fZ c d b xs)):qM Fr w c d b xs:=by
 obtain⟨F,hs,hf⟩:=h
 obtain⟨ids,⟨rfl,h1⟩,h2⟩:=hs.get hL
 exact⟨hf b (h2 b yf),h1⟩
theorem qM.of(h:qM X.Fr X.w0 c d b xs){Fr':Nat→Prop}(hF:∀b,X.Fr b→Fr' b){w:World}{L:List HP}(hw:St X L w):qM Fr' w c d b xs:=⟨hF b h.fr,h.at_.loc (hw.cS.block b h.fr)⟩
def dA(X:Cx)(L:List HP)(c:κ→Value)(d:α→Value)(b:Nat)(xs:List (κ×α)):Prop:=∀w,St X L w→o_ c d b xs w
theorem dA.one{L:List HP}(i:Nat)(hL:L[i]?=some (fZ c d b xs)):dA X L c d b xs:=fun w hw=>(hw.BN hL).1
theorem dA.aC{L:List HP}(h:qM X.Fr X.w0 c d b xs):dA X L c d b xs:=fun w hw=>h.at_.loc (hw.cS.block b h.fr)
theorem ei.qv:∀{L:List HP} {F:List Nat} {w w':World} {i b:Nat} {H H':HP},ei L F w→F.Nodup→L[i]?=some H→(∀ids w,H.sat ids w→ids=[b])→H'.sat [b] w' →
  (∀c,c≠b→w'.heap[c]?=w.heap[c]?)→ei (L.set i H') F w'
 | [],_,_,_,_,_,_,_,_,_,h,_,_,_=>by simp at h
 | _::L,F,w,w',0,b,H,H',⟨j,G,hF,hj,hG⟩,hn,h,hi,h1,h2=>by
  simp only[qJ,Option.some.injEq] at h
  subst h;subst hF
  obtain rfl:=hi _ _ hj
  refine⟨[b],G,Z,h1,hG.loc fun c hc=>h2 c fun he=>?_⟩
  subst he
  simp at hn
  exact hn.1 hc
 | K::L,F,w,w',i+1,b,H,H',⟨j,G,hF,hj,hG⟩,hn,h,hi,h1,h2=>by
  simp only[rY] at h
  subst hF
  obtain⟨hnj,hnG,hd⟩:=ja.1 hn
  obtain⟨ids,hp,hm⟩:=hG.get h
  obtain rfl:=hi _ _ hp
  have hb:=hm b yf
  exact⟨j,G,Z,K.loc j w w' (fun c hc=>h2 c fun he=>hd c hc b hb he) hj,ei.qv hG hnG h hi h1 h2⟩
theorem St.qv{L:List HP}{w:World}(h:St X L w){i:Nat}{H H':HP}{o o':Obj}(hL:L[i]?=some H)(hi:∀ids w,H.sat ids w→ids=[b])(h0:w.heap[b]?=some o)(hf:¬X.Fr b)(h1:H'.sat [b] (eu w b o')):
  St X (L.set i H') (eu w b o'):=by
 obtain⟨F,hs,hn,hb⟩:=h.sat
 refine⟨⟨F,hs.qv hn hL hi h1 (fun c hc=>FB (Ne.symm hc)),hn,fun c hc=>⟨(hb c hc).1,by rw[Ha];exact(hb c hc).2⟩⟩,?_,h.low⟩
 exact Oz
theorem St.QY{L:List HP}{w:World}(h:St X L w):St X (fZ c d w.heap.size ([]:List (κ×α))::L) (w.alloc (.map #[] 0)):=
 ⟨h.sat.alloc h.me _ _ ⟨rfl,#[],0,heap_alloc_new w _,rfl,stamped_empty 0⟩,h.cS.trans (dG.alloc h.me _),h.low⟩
end
section
variable {X:Cx} {κ α:Type} [DecidableEq κ] {c:κ→Value} {d:α→Value} {b:Nat} {xs:List (κ×α)} {e:Env} {L:List HP} {T kt et:TypeId} {te:TI} {x y z:Operand}
theorem E5{es:List MapEntry}{c:κ→Value}{d:α→Value}{xs:List (κ×α)}(h:es.map (fun e=>(e.key,e.val))=xs.map (fun x=>(c x.1,d x.2))){j:Nat}{a:κ}{v:α}(hx:xs[j]?=some (a,v)):∃m,es[j]?=some m∧m.key=c a∧m.val=d v:=by
 have:=congrArg (fun l=>l[j]?) h
 simp only[eh,hx,nO] at this
 cases hm:es[j]? with
 | none=>rw[hm] at this;cases this
 | some m=>
  rw[hm] at this
  simp only[nO,Option.some.injEq,Prod.mk.injEq] at this
  exact⟨m,Z,this.1,this.2⟩
theorem M9{P:Program}(K:kJ P kt c)(hT:P.underlying T=some (.map kt et))(hE:aS P et te)(a:κ)(ok:Bool){w:World}(hM:o_ c d b xs w):
  (Instr.lookup T (.map (some b)) (c a) ok).run P w=.ok (bif ok then .tuple #[((bF xs a).map d).getD te.zero,.bool (bF xs a).isSome] else ((bF xs a).map d).getD te.zero) w:=by
 obtain⟨es,clock,h1,h2,h3⟩:=hM
 have hf:=K.find d a xs es.toList h2 w
 cases hl:lI xs a 0 with
 | none=>
  obtain⟨hg,_⟩:=u6 hl
  rw[hl] at hf
  cases ok<;>simp[Instr.lookup,run_underlying hT,MapKept.run_getObj_map h1,K.check,hf,hg,vu hE,Result.andThen]
 | some p=>
  obtain⟨j,v⟩:=p
  obtain⟨_,_,hg,_⟩:=wZ hl
  rw[hl] at hf
  cases ok<;>simp[Instr.lookup,run_underlying hT,MapKept.run_getObj_map h1,K.check,hf,hg,Result.andThen]
theorem aQ.lookup(K:kJ X.P kt c)(hT:X.P.underlying T=some (.map kt et))(hE:bS X.tab et=some te){a:κ}{ok:Bool}(hx:ev e x=some (.map (some b)))(hk:ev e y=some (c a))(hM:dA X L c d b xs):
  aQ X (.lookup T x y ok) e L (fun u L'=>u=(bif ok then .tuple #[((bF xs a).map d).getD te.zero,.bool (bF xs a).isSome] else ((bF xs a).map d).getD te.zero)∧L'=L):=fun ac w ha hw dst ty pos after guard=>by
 refine .inl ⟨_,w,L,?_,⟨rfl,Z⟩,hw⟩
 simp only[execOp,ha.ev hx,ha.ev hk]
 rw[Sem.run_bind,M9 K hT (X.ok.look hE) a ok (hM w hw)];rfl
theorem Ln{P:Program}(K:kJ P kt c)(a:κ)(u:α){es:Array MapEntry}{clock:Nat}(h2:es.toList.map (fun e=>(e.key,e.val))=xs.map (fun x=>(c x.1,d x.2)))(h3:Stamped es clock):
  (∀{j v},lI xs a 0=some (j,v)→∃m,es[j]?=some m∧m.key=c a∧(es.modify j fun e=>{ e with key:=c a,val:=d u }).toList.map (fun e=>(e.key,e.val))=(bV xs a u).map (fun x=>(c x.1,d x.2))∧Stamped (es.modify j fun e=>{ e with key:=c a,val:=d u }) clock) ∧
  (lI xs a 0=none→(es.push { key:=c a,val:=d u,born:=clock }).toList.map (fun e=>(e.key,e.val))=(bV xs a u).map (fun x=>(c x.1,d x.2))∧Stamped (es.push { key:=c a,val:=d u,born:=clock }) (clock+1)):=by
 constructor
 ·intro j v hl
  obtain⟨_,hj,_,hp,_⟩:=wZ hl
  rw[Nat.sub_zero] at hj hp
  obtain⟨m,hm,hmk,hmv⟩:=E5 h2 hj
  have hm':es[j]?=some m:=by simpa using hm
  refine⟨m,hm',hmk,?_,stamped_modify h3 j _ (fun _ _=>rfl) (fun e _ he=>?_)⟩
  ·rw[hp]
   apply pN
   intro k
   have hk:=congrArg (fun l=>l[k]?) h2
   simp only[eh] at hk ⊢
   by_cases hjk:j=k
   ·subst hjk
    have hlt:j<xs.length:=(bY.1 hj).1
    have hlt2:j<es.size:=(rW.1 hm').1
    simp[hlt,hlt2,Bm,Array.getElem_modify]
   ·rw[kG hjk,←hk]
    simp only[Bm,vX,if_neg hjk]
  ·rw[hm'] at he;cases he;exact hmk.symm
 ·intro hl
  obtain⟨_,hne,hp,_⟩:=u6 hl
  refine⟨by rw[hp];simp[h2],stamped_push h3 fun m hm=>?_⟩
  intro he
  have:(m.key,m.val)∈es.toList.map (fun e=>(e.key,e.val)):=bP.2 ⟨m,hm,rfl⟩
  rw[h2] at this
  obtain⟨x,hx,hx2⟩:=bP.1 this
  have:c x.1=m.key:=congrArg Prod.fst hx2
  exact hne x hx (K.inj _ _ (this.trans he))
theorem M6{P:Program}(K:kJ P kt c)(a:κ)(w:World):(Instr.keyThatStays (c a) (c a)).run P w=.ok (c a) w:=by
 simp[Instr.keyThatStays,K.bits]
theorem aQ.mapUpdate(i:Nat)(K:kJ X.P kt c)(hT:X.P.underlying T=some (.map kt et)){a:κ}{u:α}(hx:ev e x=some (.map (some b)))(hk:ev e y=some (c a))(hv:ev e z=some (d u))(hL:L[i]?=some (fZ c d b xs)):
  aQ X (.mapUpdate T x y z) e L (fun v L'=>v=undef∧L'=L.set i (fZ c d b (bV xs a u))):=fun ac w ha hw dst ty pos after guard=>by
 obtain⟨⟨es,clock,h1,h2,h3⟩,hf⟩:=hw.BN hL
 have hfi:=K.find d a xs es.toList h2 w
 obtain⟨p1,p2⟩:=Ln K a u h2 h3
 have hids:∀ids w,(fZ c d b xs).sat ids w→ids=[b]:=fun _ _ h=>h.1
 cases hl:lI xs a 0 with
 | none=>
  obtain⟨q1,q2⟩:=p2 hl
  rw[hl] at hfi
  refine .inr (.inl ⟨eu w b (.map (es.push { key:=c a,val:=d u,born:=clock }) (clock+1)),_,?_,⟨rfl,Z⟩,hw.qv hL hids h1 hf ⟨rfl,_,_,ri h1,q1,q2⟩⟩)
  have:(Instr.mapUpdate T (.map (some b)) (c a) (d u)).run X.P w=.ok () (eu w b (.map (es.push { key:=c a,val:=d u,born:=clock }) (clock+1))):=by
   simp[Instr.mapUpdate,run_underlying hT,MapKept.run_getObj_map h1,K.check,hfi,MapKept.run_setObj_map _ h1,Result.andThen,eu]
  simp only[execOp,ha.ev hx,ha.ev hk,ha.ev hv]
  rw[Sem.run_bind,this];rfl
 | some p=>
  obtain⟨j,v⟩:=p
  obtain⟨m,hm,hmk,q1,q2⟩:=p1 hl
  rw[hl] at hfi
  refine .inr (.inl ⟨eu w b (.map (es.modify j fun e=>{ e with key:=c a,val:=d u }) clock),_,?_,⟨rfl,Z⟩,hw.qv hL hids h1 hf ⟨rfl,_,_,ri h1,q1,q2⟩⟩)
  have:(Instr.mapUpdate T (.map (some b)) (c a) (d u)).run X.P w=.ok () (eu w b (.map (es.modify j fun e=>{ e with key:=c a,val:=d u }) clock)):=by
   simp[Instr.mapUpdate,run_underlying hT,MapKept.run_getObj_map h1,K.check,hfi,hm,hmk,M6 K,MapKept.run_setObj_map _ h1,Result.andThen,eu]
  simp only[execOp,ha.ev hx,ha.ev hk,ha.ev hv]
  rw[Sem.run_bind,this];rfl
theorem map_eraseIdx{β γ:Type}(f:β→γ):∀(l:List β) (i:Nat),(l.eraseIdx i).map f=(l.map f).eraseIdx i
 | [],_=>rfl
 | _::_,0=>rfl
 | x::l,i+1=>by simp[map_eraseIdx f l i]
theorem UO{j:Nat}{v:α}{a:κ}{es:Array MapEntry}(h2:es.toList.map (fun e=>(e.key,e.val))=xs.map (fun x=>(c x.1,d x.2)))(hl:lI xs a 0=some (j,v)):
  (es.eraseIdxIfInBounds j).toList.map (fun e=>(e.key,e.val))=(eO xs a).map (fun x=>(c x.1,d x.2)):=by
 obtain⟨_,hj,_,_,hp⟩:=wZ hl
 rw[Nat.sub_zero] at hj hp
 obtain⟨m,hm,_⟩:=E5 h2 hj
 have hlt:j<es.size:=by have:=(bY.1 hm).1;simpa using this
 rw[hp]
 unfold Array.eraseIdxIfInBounds
 rw[dif_pos hlt,Array.toList_eraseIdx,map_eraseIdx,map_eraseIdx,h2]
theorem aQ.delete(i:Nat)(K:kJ X.P kt c)(hT:X.P.underlying T=some (.map kt et)){t2:TypeId}{a:κ}(hx:ev e x=some (.map (some b)))(hk:ev e y=some (c a))(hL:L[i]?=some (fZ c d b xs)):
  aQ X (.call ⟨.builtin .delete,#[x,y],#[T,t2]⟩) e L (fun v L'=>v=.tuple #[]∧L'=L.set i (fZ c d b (eO xs a))):=fun ac w ha hw dst ty pos after guard=>by
 obtain⟨⟨es,clock,h1,h2,h3⟩,hf⟩:=hw.BN hL
 have hfi:=K.find d a xs es.toList h2 w
 have hids:∀ids w,(fZ c d b xs).sat ids w→ids=[b]:=fun _ _ h=>h.1
 cases hl:lI xs a 0 with
 | none=>
  obtain⟨_,_,_,hd⟩:=u6 hl
  rw[hl] at hfi
  refine .inl ⟨_,eu w b (.map es clock),_,?_,⟨rfl,Z⟩,hw.qv hL hids h1 hf ⟨rfl,_,_,ri h1,by rw[hd];exact h2,h3⟩⟩
  have:(Builtin.delete_ #[T,t2] ty #[.map (some b),c a]).run X.P w=.ok (.tuple #[]) (eu w b (.map es clock)):=by
   simp[Builtin.delete_,run_underlying hT,MapKept.run_getObj_map h1,K.check,hfi,MapKept.run_setObj_map _ h1,Result.andThen,eu]
  simp[execOp,resolve,invoke,builtin,ha.ev hx,ha.ev hk,this]
 | some p=>
  obtain⟨j,v⟩:=p
  rw[hl] at hfi
  refine .inl ⟨_,eu w b (.map (es.eraseIdxIfInBounds j) clock),_,?_,⟨rfl,Z⟩,hw.qv hL hids h1 hf ⟨rfl,_,_,ri h1,UO h2 hl,stamped_erase h3 j⟩⟩
  have:(Builtin.delete_ #[T,t2] ty #[.map (some b),c a]).run X.P w=.ok (.tuple #[]) (eu w b (.map (es.eraseIdxIfInBounds j) clock)):=by
   simp[Builtin.delete_,run_underlying hT,MapKept.run_getObj_map h1,K.check,hfi,MapKept.run_setObj_map _ h1,Result.andThen,eu]
  simp[execOp,resolve,invoke,builtin,ha.ev hx,ha.ev hk,this]
theorem aQ.makeMap(c:κ→Value)(d:α→Value){T:TypeId}:aQ X (.makeMap T none) e L (fun v L'=>∃b,v=.map (some b)∧L'=fZ c d b ([]:List (κ×α))::L):=fun ac w ha hw dst ty pos after guard=>by
 refine .inl ⟨_,w.alloc (.map #[] 0),_,?_,⟨w.heap.size,Z,Z⟩,hw.QY⟩
 simp[execOp,Instr.makeMap,newObj,Sem.run]
end
section
variable {X:Cx} {ops:Array Oper} {G:GS} {l:List Oper} {e:Env} {L:List HP} {K:Env→List HP→Prop}
  {dst:Option Tmp} {ty:TypeId} {pos:String} {after:Array Edge} {guard:Option (Nat×Bool)}
theorem VO.ue{op:Op}{v:Value}{L':List HP}(h:aQ X op e L (fun u M=>u=v∧M=L'))(hk:VO X ops G l (bX dst v e) L' K)
  (hg:cy ops G guard=some true:=by rfl) (hd:cL X.n dst=true:=by rfl) (hf:cD G dst=true:=by rfl):VO X ops G (⟨dst,op,ty,pos,after,guard⟩::l) e L K:=
 VO.op hg hd hf h (fun _ _ ⟨h1,h2⟩=>by subst h1;subst h2;exact hk)
theorem VO.vi{op:Op}{M:Value→List HP→Prop}(h:aQ X op e L M)(hk:∀v L',M v L'→VO X ops G l (bX dst v e) L' K)
  (hg:cy ops G guard=some true:=by rfl) (hd:cL X.n dst=true:=by rfl) (hf:cD G dst=true:=by rfl):VO X ops G (⟨dst,op,ty,pos,after,guard⟩::l) e L K:=
 VO.op hg hd hf h hk
end
theorem Xq{P:Program}{ty k el:Nat}(hund:P.underlying ty=some (.map k el))(a:Option Nat)(w:World):(Op.equal ty (.map a) (.map none)).run P w=.ok a.isNone w:=by
 unfold Op.equal
 show(Op.equalIn (9999+1) ty (.map a) (.map none)).run P w=_
 rw[Op.equalIn,Sem.run_bind,run_underlying hund]
 cases a<;>rfl
theorem KY{X:Cx}{e:Env}{T k el yt:TypeId}{x y:Operand}{a:Option Nat}(hund:X.P.underlying T=some (.map k el))(hx:ev e x=some (.map a))(hy:ev e y=some (.map none)):fN X (.binOp .eql T x y yt) e (.bool a.isNone):=by
 intro a' ha dst t pos after guard w
 simp only[execOp,ha.ev hx,ha.ev hy]
 have h:(do eqGuard .eql T x y (.map a) (.map none);binOp .eql T (.map a) (.map none):Sem Value).run X.P w=.ok (.bool a.isNone) w:=by
  show((do pure (.bool (←Op.equal T (.map a) (.map none))):Sem Value)).run X.P w=_
  rw[Sem.run_bind,Xq hund];rfl
 rw[Sem.run_bind,h];rfl
theorem Uv{X:Cx}{e:Env}{T yt:TypeId}{x y:Operand}{xs ys:Array Value}{r:Bool}(hm:X.P.eqGuardType X.P.depth T=false)(hx:ev e x=some (.agg xs))(hy:ev e y=some (.agg ys))
  (h:∀w:World,(Op.equal T (.agg xs) (.agg ys)).run X.P w=.ok r w):fN X (.binOp .neq T x y yt) e (.bool (!r)):=by
 intro a' ha dst t pos after guard w
 simp only[execOp,ha.ev hx,ha.ev hy]
 have h2:(do eqGuard .neq T x y (.agg xs) (.agg ys);binOp .neq T (.agg xs) (.agg ys):Sem Value).run X.P w=.ok (.bool (!r)) w:=by
  rw[Sem.run_bind,run_eqGuard_agg w .neq T x y xs ys hm,Result.andThen_ok]
  show((do pure (.bool (!(←Op.equal T (.agg xs) (.agg ys)))):Sem Value)).run X.P w=_
  rw[Sem.run_bind,h];rfl
 rw[Sem.run_bind,h2];rfl
section
variable {X:Cx} {κ α:Type} [DecidableEq κ] {c:κ→Value} {d:α→Value} {b:Nat} {xs:List (κ×α)} {ops:Array Oper} {G:GS} {pl:iE} {S:kk} {e:Env} {L:List HP} {K:Env→List HP→Prop}
  {dst:Option Tmp} {ty:TypeId} {pos:String} {after:Array Edge} {guard:Option (Nat×Bool)}
theorem VA.lookup{i:Nat}{T kt et:TypeId}{te:TI}{x y:Operand}{a:κ}{ok:Bool}(KO:kJ X.P kt c)(hT:X.P.underlying T=some (.map kt et))(hE:bS X.tab et=some te)
  (hi:ops.toList[i]?=some ⟨dst,.lookup T x y ok,ty,pos,after,guard⟩) (hx:ev e x=some (.map (some b))) (hk:ev e y=some (c a)) (hM:dA X L c d b xs)
  (hn:VA X ops G pl ((i,o_ c d b xs)::S) (bX dst (bif ok then .tuple #[((bF xs a).map d).getD te.zero,.bool (bF xs a).isSome] else ((bF xs a).map d).getD te.zero) e) L K)
  (hg:cy ops G guard=some true:=by rfl) (hd:cL X.n dst=true:=by rfl) (hf:cD G dst=true:=by rfl):VA X ops G (.take i pl) S e L K:=
 VA.first (Si:=o_ c d b xs) hi hd hf (fun ac ha hG=>.inl ⟨pj hG hg,fun w hw=>by
  simp only[execOp,ha.ev hx,ha.ev hk]
  rw[Sem.run_bind,M9 KO hT (X.ok.look hE) a ok hw];rfl⟩) hM hn
theorem Pd.lE{f:Nat×(World→Prop)→Bool}{i:Nat}(h:dA X L c d b xs)(hs:Pd X L (S.filter f)):Pd X L (((i,o_ c d b xs)::S).filter f):=fun p hp=>by
 obtain⟨h1,h2⟩:=iC.1 hp
 rcases jK.1 h1 with rfl | h1
 ·exact fun w hw=>h w hw
 ·exact hs p (iC.2 ⟨h1,h2⟩)
end
end Vg
namespace Vg
open Go
structure aV{α:Type}(c:α→List Value)(n:Nat)(Fr:Nat→Prop)(w:World)(a:Option Addr)(l:List α):Prop where
 at_:l≠[]→∃b off,a=some ⟨b,off,none⟩∧Fr b∧∀i x,l[i]?=some x→w.rangeAt b (off+i*n) (c x)
section
variable {α:Type} {c:α→List Value} {n:Nat}
theorem aV.cS{Fr Fr':Nat→Prop}{w w':World}{a:Option Addr}{l:List α}(h:aV c n Fr w a l)(hF:∀b,Fr b→Fr' b)(hk:dG Fr w w'):aV c n Fr' w' a l:=⟨fun hne=>by
 obtain⟨b,off,h1,h2,h3⟩:=h.at_ hne
 refine⟨b,off,h1,hF b h2,fun i x hx j v hv=>?_⟩
 have:=h3 i x hx j v hv
 unfold World.cell? at this ⊢
 rw[hk.block b h2];exact this⟩
theorem aV.of{X:Cx}{a:Option Addr}{l:List α}(h:aV c n X.Fr X.w0 a l){Fr':Nat→Prop}(hF:∀b,X.Fr b→Fr' b){w:World}{L:List HP}(hw:St X L w):aV c n Fr' w a l:=h.cS hF hw.cS
theorem aV.nil{Fr:Nat→Prop}{w:World}{a:Option Addr}:aV c n Fr w a []:=⟨fun h=>absurd rfl h⟩
theorem aV.rd{X:Cx}{a:Option Addr}{l:List α}(h:aV c n X.Fr X.w0 a l){i:Nat}{x:α}(hx:l[i]?=some x):∃b off,a=some ⟨b,off,none⟩ ∧
  (∀(L:List HP) (ti:TI),(c x).length=ti.size→ti.aJ.agg=true→ax X L ti b (off+i*n) (.agg (c x).toArray)) ∧
  ∀(L:List HP) (ti:TI) (j:Nat) (v:Value),ti.aJ.agg=false→(c x)[j]?=some v→ax X L ti b (off+i*n+j) v:=by
 obtain⟨b,off,h1,h2,h3⟩:=h.at_ (fun e=>by rw[e] at hx;cases hx)
 refine⟨b,off,h1,fun L ti hl ha=>ax.rd h2 ?_,fun L ti j v ha hv=>ax.rd h2 ?_⟩
 ·rw[ha];exact⟨c x,rfl,hl,h3 i x hx⟩
 ·rw[ha];exact h3 i x hx j v hv
theorem aV.rl{Fr:Nat→Prop}{w:World}{r:RL α}{t:Nat}(h:a8 Fr [r.h t] w)(hok:r.Ok c n):aV c n Fr w r.addr r.xs:=⟨fun hne=>by
 obtain⟨b,off,h1,h2,h3⟩:=hok.at_ hne
 have hb:=h.aC 0 (by rw[RL.FA h1];rfl)
 obtain⟨t',fz,ht⟩:=hb.at_
 exact⟨b,off,h2,hb.fr,fun i x hx=>C5 ht (h3 i x hx)⟩⟩
theorem aV.aC{Fr:Nat→Prop}{w:World}{b off:Nat}{cs:List Value}{l:List α}(h:bu Fr w b cs)(hc:∀i x,l[i]?=some x→(cs.drop (off+i*n)).take n=c x):aV c n Fr w (some ⟨b,off,none⟩) l:=⟨fun hne=>by
 obtain⟨t',fz,ht⟩:=h.at_
 exact⟨b,off,Z,h.fr,fun i x hx=>C5 ht (hc i x hx)⟩⟩
theorem MM{w:World}(hc:∀x,(c x).length=n):∀{l:List α} {b off:Nat},(∀i x,l[i]?=some x→w.rangeAt b (off+i*n) (c x))→w.rangeAt b off (flat c l)
 | [],b,off,_=>fun j v hv=>by simp[flat] at hv
 | x::l,b,off,h=>fun j v hv=>by
  rw[lZ,Ei] at hv
  have h0:=h 0 x rfl
  rw[Nat.zero_mul,yM] at h0
  split at hv
  ·exact h0 j v hv
  ·rename_i hj
   rw[hc x] at hj hv
   have ih:=MM hc (l:=l) (b:=b) (off:=off+n) (fun i y hy=>by
    have:=h (i+1) y (by simpa using hy)
    rw[yO] at this
    rw[show off+n+i*n=off+(i*n+n) from by omega];exact this)
   have:=ih (j-n) v hv
   rw[show off+n+(j-n)=off+j from by omega] at this
   exact this
theorem aV.row{X:Cx}{L:List HP}{a:Option Addr}{cap:Nat}{l:List α}(hc:∀x,(c x).length=n)(h:aV c n X.Fr X.w0 a l):fv X L (.slice a l.length cap) n l.length (flat c l):=by
 refine⟨fA hc l,?_⟩
 by_cases hl:l=[]
 ·exact .inl ⟨a,cap,Z,by simp[hl]⟩
 ·obtain⟨b,off,h1,h2,h3⟩:=h.at_ hl
  refine .inr ⟨b,off,cap,by rw[h1],fun w hw=>?_⟩
  have:=(aV.of (X:=X) (Fr':=X.Fr) h (fun _ h=>h) hw)
  obtain⟨b',off',e1,_,e3⟩:=this.at_ hl
  rw[h1] at e1
  cases e1
  exact MM hc e3
end
section
variable {X:Cx} {e:Env} {xt yt:TypeId} {x y:Operand} {a b:Nat}
end
end Vg
namespace Vg
open Go
def gk(f:FuncId)(first capt:List Value):Value:=.func (.func f) first.toArray capt.toArray
theorem wX{X:Cx}{e:Env}{f:FuncId}{first capt:Array Operand}{u v:List Value}(hu:fy e first.toList=some u)(hv:fy e capt.toList=some v):fN X (.makeFunc (.func f) first capt) e (gk f u v):=by
 intro a ha dst ty pos after guard w
 have h1:first.map a.eval=u.toArray:=by
  have:=ha.fy hu
  apply nK.1
  simpa using this
 have h2:capt.map a.eval=v.toArray:=by
  have:=ha.fy hv
  apply nK.1
  simpa using this
 simp only[execOp]
 show((do pure (Next.value (←Instr.makeFunc (.func f) (first.map a.eval) (capt.map a.eval))):Sem Next)).run X.P w=_
 rw[h1,h2];rfl
theorem Xo{P:Program}{f:FuncId}(h:tz P f)(a:Act)(x:Operand)(first capt:List Value)(hx:a.eval x=gk f first capt)(args:Array Operand)(tys:Array TypeId)(dst:Option Tmp)(ty:TypeId)(pos:String)(after:Array Edge)(guard:Option (Nat×Bool))(w:World):
  (execOp a.eval ⟨dst,.call ⟨.value x,args,tys⟩,ty,pos,after,guard⟩).run P w=.ok (.enter f (first.toArray++args.map a.eval++capt.toArray)) w:=by
 have:=GQ h (first.toArray++args.map a.eval++capt.toArray) w
 simp only[execOp,resolve,hx,gk,Deferred.ofValue,invoke]
 exact this
theorem aQ.lA{X:Cx}{f:FuncId}{x:Operand}{first capt:List Value}{args:Array Operand}{tys:Array TypeId}{e:Env}{L Lc Lr:List HP}{vals:List Value}{R:Value→List HP→Prop}
  (hx:ev e x=some (gk f first capt)) (hargs:fy e args.toList=some vals) (hp:L.Perm (Lc++Lr))
  (ht:∀Fr' w,(∀b,X.Fr b→Fr' b)→St X L w→a8 Fr' Lr w→az X.P f (first++vals++capt) Fr' w Lc R):
  aQ X (.call ⟨.value x,args,tys⟩) e L (fun v L'=>∃L1,R v L1∧L'=L1++Lr):=by
 intro a w ha hw dst ty pos after guard
 obtain⟨F,hs,hnd,hb⟩:=hw.sat.perm hp
 obtain⟨Fc,Fl,rfl,hsc,hsl⟩:=ei.append.1 hs
 have T:=ht (fun b=>X.Fr b∨b∈Fl) w (fun b h=>.inl h) hw ⟨Fl,hsl,fun b h=>.inr h⟩
 have hev:args.map a.eval=vals.toArray:=by
  have:=ha.fy hargs
  apply nK.1
  simpa using this
 refine .inr (.inr ⟨f,(first++vals++capt).toArray,?_,?_⟩)
 ·have:=Xo T.BT a x first capt (ha.ev hx) args tys dst ty pos after guard w
  rw[this,hev];simp
 ·obtain⟨hnc,hnl,hdis⟩:=ja.1 hnd
  refine Calls.mono (T.calls (fun b h=>?_) ⟨Fc,hsc,hnc,fun b h=>⟨fun h'=>?_,(hb b ya).2⟩⟩) fun en w' ⟨v,L',h1,h2,h3,h4⟩=>?_
  ·rcases h with h | h
   ·exact hw.me b h
   ·exact(hb b ya).2
  ·rcases h' with h' | h'
   ·exact(hb b ya).1 h'
   ·exact hdis b h b h' rfl
  ·refine⟨v,L'++Lr,h1,⟨L',h2,Z⟩,⟨?_,hw.cS.trans (h4.mono fun b h=>.inl h),hw.low⟩⟩
   obtain⟨G,hG,hGn,hGb⟩:=h3
   refine⟨G++Fl,ei.append.2 ⟨G,Fl,Z,hG,hsl.loc fun b h=>h4.block b (.inr h)⟩,?_,?_⟩
   ·exact Oy
   ·intro b h
    rcases ez.1 h with h | h
    ·exact⟨fun h'=>(hGb b h).1 (.inl h'),(hGb b h).2⟩
    ·exact Ht
section
variable {X:Cx} {ops:Array Oper} {G:GS} {l:List Oper} {e:Env} {L:List HP} {K:Env→List HP→Prop} {pl:iE} {S:kk}
  {dst:Option Tmp} {ty:TypeId} {pos:String} {after:Array Edge} {guard:Option (Nat×Bool)}
theorem VO.lA{f:FuncId}{x:Operand}{first capt:List Value}{args:Array Operand}{tys:Array TypeId}{vals:List Value}{R:Value→List HP→Prop}{Lc Lr:List HP}(hx:ev e x=some (gk f first capt))
  (ht:∀Fr' w,(∀b,X.Fr b→Fr' b)→St X L w→a8 Fr' Lr w→az X.P f (first++vals++capt) Fr' w Lc R) (hargs:fy e args.toList=some vals) (hL:L=Lc++Lr)
  (hk:∀v L1,R v L1→VO X ops G l (bX dst v e) (L1++Lr) K)
  (hg:cy ops G guard=some true:=by rfl) (hd:cL X.n dst=true:=by rfl) (hf:cD G dst=true:=by rfl):
  VO X ops G (⟨dst,.call ⟨.value x,args,tys⟩,ty,pos,after,guard⟩::l) e L K:=
 VO.op hg hd hf (aQ.lA hx hargs (hL▸.refl _) ht) fun v L' ⟨L1,h1,h2⟩=>by subst h2;exact hk v L1 h1
theorem aQ.Jz{φ:Value→Prop}{f:FuncId}{x:Operand}{first capt:List Value}{args:Array Operand}{tys:Array TypeId}{vals:List Value}(hx:ev e x=some (gk f first capt))
  (ht:∀Fr' w,(∀b,X.Fr b→Fr' b)→St X L w→a8 Fr' L w→az X.P f (first++vals++capt) Fr' w [] (fun v L=>φ v∧L=[])) (hargs:fy e args.toList=some vals):
  aQ X (.call ⟨.value x,args,tys⟩) e L (fun v L'=>φ v∧L'=L):=fun a w ha hw dst ty pos after guard=>by
 have key:∀v (L':List HP),(∃L1,(φ v∧L1=[])∧L'=L1++L)→φ v∧L'=L:=by
  rintro v L' ⟨L1,⟨h1,h2⟩,h3⟩
  rw[h2] at h3;exact⟨h1,h3⟩
 rcases aQ.lA (Lc:=[]) (Lr:=L) hx hargs (.refl _) ht a w ha hw dst ty pos after guard with ⟨v,w',L',h1,h2,h3⟩ | ⟨w',L',h1,h2,h3⟩ | ⟨f',args',h1,h2⟩
 ·exact .inl ⟨v,w',L',h1,key _ _ h2,h3⟩
 ·exact .inr (.inl ⟨w',L',h1,key _ _ h2,h3⟩)
 ·refine .inr (.inr ⟨f',args',h1,Calls.mono h2 ?_⟩)
  rintro en w' ⟨v,L',h3,h4,h5⟩
  exact⟨v,L',h3,key _ _ h4,h5⟩
theorem VO.wz{u:Value}{f:FuncId}{x:Operand}{first capt:List Value}{args:Array Operand}{tys:Array TypeId}{vals:List Value}(hx:ev e x=some (gk f first capt))
  (ht:∀Fr' w,(∀b,X.Fr b→Fr' b)→St X L w→a8 Fr' L w→az X.P f (first++vals++capt) Fr' w [] (fun v L=>v=u∧L=[])) (hargs:fy e args.toList=some vals)
  (hk:VO X ops G l (bX dst u e) L K)
  (hg:cy ops G guard=some true:=by rfl) (hd:cL X.n dst=true:=by rfl) (hf:cD G dst=true:=by rfl):
  VO X ops G (⟨dst,.call ⟨.value x,args,tys⟩,ty,pos,after,guard⟩::l) e L K:=
 VO.op hg hd hf (aQ.Jz (φ:=fun v=>v=u) hx ht hargs) fun v L' ⟨h1,h2⟩=>by subst h1;subst h2;exact hk
theorem VA.wz{u:Value}{j:Nat}{f:FuncId}{x:Operand}{first capt:List Value}{args:Array Operand}{tys:Array TypeId}{vals:List Value}(hx:ev e x=some (gk f first capt))
  (ht:∀Fr' w,(∀b,X.Fr b→Fr' b)→St X L w→a8 Fr' L w→az X.P f (first++vals++capt) Fr' w [] (fun v L=>v=u∧L=[]))
  (hi:ops.toList[j]?=some ⟨dst,.call ⟨.value x,args,tys⟩,ty,pos,after,guard⟩) (hargs:fy e args.toList=some vals) (hst:Pd X L (S.filter fun p=>!waits ops j p.1))
  (hk:VA X ops G pl (S.filter fun p=>!waits ops j p.1) (bX dst u e) L K)
  (hg:cy ops G guard=some true:=by rfl) (hd:cL X.n dst=true:=by rfl) (hf:cD G dst=true:=by rfl):VA X ops G (.only j pl) S e L K:=
 AO (aQ.Jz (φ:=fun v=>v=u) hx ht hargs) hi (fun v L' ⟨h1,h2⟩=>by subst h2;exact hst) (fun v L' ⟨h1,h2⟩=>by subst h1;subst h2;exact hk) hg hd hf
theorem aQ.mJ{f:FuncId}{x:Operand}{first capt:List Value}{args:Array Operand}{tys:Array TypeId}{vals:List Value}{H:HP}{R:Value→List HP→Prop}{ψ:Value→HP→Prop}(i:Nat)(hx:ev e x=some (gk f first capt))
  (hL:L[i]?=some H) (ht:∀Fr' w,(∀b,X.Fr b→Fr' b)→St X L w→a8 Fr' (L.eraseIdx i) w→az X.P f (first++vals++capt) Fr' w [H] R) (hargs:fy e args.toList=some vals)
  (hR:∀v L1,R v L1→∃H',L1=[H']∧ψ v H'):
  aQ X (.call ⟨.value x,args,tys⟩) e L (fun v L'=>∃H',ψ v H'∧L'=L.set i H'):=by
 intro a w ha hw dst ty pos after guard
 have hi:i<L.length:=(bY.1 hL).1
 have key:∀v w' L',(∃L1,R v L1∧L'=L1++L.eraseIdx i)→St X L' w'→∃L'',(∃H',ψ v H'∧L''=L.set i H')∧St X L'' w':=by
  rintro v w' _ ⟨L1,h1,rfl⟩ hs
  obtain⟨H',rfl,hψ⟩:=hR v L1 h1
  exact⟨_,⟨H',hψ,Z⟩,dq.back i H' hi w' hs⟩
 rcases aQ.lA (R:=R) hx hargs (Lc:=[H]) (Lr:=L.eraseIdx i) (oT hL) ht a w ha hw dst ty pos after guard with ⟨v,w',L',h1,h2,h3⟩ | ⟨w',L',h1,h2,h3⟩ | ⟨f,args,h1,h2⟩
 ·obtain⟨L'',h4,h5⟩:=key _ _ _ h2 h3
  exact .inl ⟨v,w',L'',h1,h4,h5⟩
 ·obtain⟨L'',h4,h5⟩:=key _ _ _ h2 h3
  exact .inr (.inl ⟨w',L'',h1,h4,h5⟩)
 ·refine .inr (.inr ⟨f,args,h1,Calls.mono h2 ?_⟩)
  rintro en w' ⟨v,L',h3,h4,h5⟩
  obtain⟨L'',h6,h7⟩:=key _ _ _ h4 h5
  exact⟨v,L'',h3,h6,h7⟩
theorem VO.mJ{f:FuncId}{x:Operand}{first capt:List Value}{args:Array Operand}{tys:Array TypeId}{vals:List Value}{H:HP}{R:Value→List HP→Prop}{ψ:Value→HP→Prop}(i:Nat)(hx:ev e x=some (gk f first capt))
  (hL:L[i]?=some H) (ht:∀Fr' w,(∀b,X.Fr b→Fr' b)→St X L w→a8 Fr' (L.eraseIdx i) w→az X.P f (first++vals++capt) Fr' w [H] R) (hargs:fy e args.toList=some vals)
  (hR:∀v L1,R v L1→∃H',L1=[H']∧ψ v H') (hk:∀v H',ψ v H'→VO X ops G l (bX dst v e) (L.set i H') K)
  (hg:cy ops G guard=some true:=by rfl) (hd:cL X.n dst=true:=by rfl) (hf:cD G dst=true:=by rfl):
  VO X ops G (⟨dst,.call ⟨.value x,args,tys⟩,ty,pos,after,guard⟩::l) e L K:=
 VO.op hg hd hf (aQ.mJ i hx hL ht hargs hR) fun v L' ⟨H',h1,h2⟩=>by subst h2;exact hk v H' h1
theorem VA.mJ{j:Nat}{f:FuncId}{x:Operand}{first capt:List Value}{args:Array Operand}{tys:Array TypeId}{vals:List Value}{H:HP}{R:Value→List HP→Prop}{ψ:Value→HP→Prop}(i:Nat)(hx:ev e x=some (gk f first capt))
  (hL:L[i]?=some H) (ht:∀Fr' w,(∀b,X.Fr b→Fr' b)→St X L w→a8 Fr' (L.eraseIdx i) w→az X.P f (first++vals++capt) Fr' w [H] R)
  (hi:ops.toList[j]?=some ⟨dst,.call ⟨.value x,args,tys⟩,ty,pos,after,guard⟩) (hargs:fy e args.toList=some vals)
  (hR:∀v L1,R v L1→∃H',L1=[H']∧ψ v H') (hst:∀v H',ψ v H'→Pd X (L.set i H') (S.filter fun p=>!waits ops j p.1))
  (hk:∀v H',ψ v H'→VA X ops G pl (S.filter fun p=>!waits ops j p.1) (bX dst v e) (L.set i H') K)
  (hg:cy ops G guard=some true:=by rfl) (hd:cL X.n dst=true:=by rfl) (hf:cD G dst=true:=by rfl):VA X ops G (.only j pl) S e L K:=
 AO (aQ.mJ i hx hL ht hargs hR) hi (fun v L' ⟨H',h1,h2⟩=>by subst h2;exact hst v H' h1) (fun v L' ⟨H',h1,h2⟩=>by subst h2;exact hk v H' h1) hg hd hf
end
theorem aV.aA{α:Type}{c:α→List Value}{n el cap:Nat}{a:Option Addr}{xs:List α}{Fr:Nat→Prop}{w:World}(hc:∀x,(c x).length=n)(h:a8 Fr [aA el n a xs.length cap (flat c xs)] w):aV c n Fr w a xs:=by
 obtain⟨F,⟨ids,G,hF,⟨h1,h2⟩,hG⟩,hf⟩:=h
 rcases h2 with ⟨rfl,h3,_,_⟩ | ⟨b,rest,rfl,rfl,h4,h5,h6⟩
 ·obtain rfl:xs=[]:=iz h3
  exact aV.nil
 ·exact⟨fun _=>⟨b,0,Z,hf b (by rw[hF];simp),fun i x hx=>C5 h6 (by rw[di];exact ph hc hx rest)⟩⟩
theorem Sub.bl{e' e:Env}{t:Nat}{a b:Bool}(h:look e t=some (Value.bool a))(hab:a=b)(hs:Sub e' e):Sub ((t,.bool b)::e') e:=by subst hab;exact SC h hs
theorem aq.abw{X:Cx}{fn:Func}{R:Value→List HP→Prop}{e:Env}{L:List HP}{T:TypeId}{ti:TI}{b:Nat}{v u:Value}(q p:Nat)(h:fn.results=#[.tmp q,.cell p T])(hq:look e q=some u)(hp:look e p=some (.pointer (some ⟨b,0,none⟩)))(hT:bS X.tab T=some ti)
  (hr:ax X L ti b 0 v) {L':List HP} (he:dq X L L') (hR:R (.tuple #[u,v]) L'):aq X fn R e L:=
 ⟨_,L',⟨fun a w ha hw=>by
  have:=C9 (X.ok.look hT) (hr w hw)
  have hp':=ha.at_ p _ hp
  have hq':=ha.at_ q _ hq
  simp only[yK] at hp' hq'
  simp[results,h,hp',hq',asAddr,this]⟩,he,hR⟩
end Vg
namespace T
open Go Vg
abbrev I0:Value:=.int .i64 0
abbrev S0:Value:=.string ⟨#[]⟩
def t3:TI:={ aJ:=.int .i64,size:=1,bytes:=8,zero:=I0,zs:=[I0] }
theorem aav:aS Tryz.prog 3 t3:=⟨by kernel_rfl,by kernel_rfl,rfl,rfl⟩
def t4:TI:={ aJ:=.bool,size:=1,bytes:=1,zero:=.bool false,zs:=[.bool false] }
theorem aaA:aS Tryz.prog 4 t4:=⟨by kernel_rfl,by kernel_rfl,rfl,rfl⟩
def t2:TI:={ aJ:=.int .i64,size:=1,bytes:=8,zero:=I0,zs:=[I0] }
theorem Z5:aS Tryz.prog 2 t2:=⟨by kernel_rfl,by kernel_rfl,rfl,rfl⟩
def t29:TI:={ aJ:=.int .i64,size:=1,bytes:=8,zero:=I0,zs:=[I0] }
theorem Z4:aS Tryz.prog 29 t29:=⟨by kernel_rfl,by kernel_rfl,rfl,rfl⟩
def t181:TI:={ aJ:=.struct [(0,1),(1,1),(2,1),(3,1),(4,1),(5,1),(6,1),(7,4),(11,4),(15,1),(16,7),(23,3),(26,1),(27,1),(28,1)],size:=29,bytes:=288,zero:=.agg ([I0,I0,I0,I0,I0,I0,I0,I0,S0,S0,I0,I0,S0,I0,I0,I0,I0,I0,I0,I0,S0,S0,I0,I0,.slice none 0 0,I0,I0,I0,I0]:List Value).toArray,zs:=[I0,I0,I0,I0,I0,I0,I0,I0,S0,S0,I0,I0,S0,I0,I0,I0,I0,I0,I0,I0,S0,S0,I0,I0,.slice none 0 0,I0,I0,I0,I0] }
theorem Zb:aS Tryz.prog 181 t181:=⟨by kernel_rfl,by kernel_rfl,rfl,rfl⟩
def t5:TI:={ aJ:=.int .u8,size:=1,bytes:=1,zero:=.int .u8 0,zs:=[.int .u8 0] }
theorem aaF:aS Tryz.prog 5 t5:=⟨by kernel_rfl,by kernel_rfl,rfl,rfl⟩
def t65:TI:={ aJ:=.ptr 107,size:=1,bytes:=8,zero:=.pointer none,zs:=[.pointer none] }
theorem aaJ:aS Tryz.prog 65 t65:=⟨by kernel_rfl,by kernel_rfl,rfl,rfl⟩
def t40:TI:={ aJ:=.struct [(0,1),(1,1),(2,1)],size:=3,bytes:=40,zero:=.agg ([I0,.slice none 0 0,I0]:List Value).toArray,zs:=[I0,.slice none 0 0,I0] }
theorem aaw:aS Tryz.prog 40 t40:=⟨by kernel_rfl,by kernel_rfl,rfl,rfl⟩
def t9:TI:={ aJ:=.string,size:=1,bytes:=16,zero:=S0,zs:=[S0] }
theorem aa0:aS Tryz.prog 9 t9:=⟨by kernel_rfl,by kernel_rfl,rfl,rfl⟩
def t24:TI:={ aJ:=.struct [(0,1),(1,1),(2,1),(3,1),(4,1),(5,1),(6,1),(7,1),(8,1),(9,1),(10,1),(11,1)],size:=12,bytes:=112,zero:=.agg ([I0,I0,I0,.slice none 0 0,I0,I0,I0,I0,I0,I0,I0,I0]:List Value).toArray,zs:=[I0,I0,I0,.slice none 0 0,I0,I0,I0,I0,I0,I0,I0,I0] }
theorem ZI:aS Tryz.prog 24 t24:=⟨by kernel_rfl,by kernel_rfl,rfl,rfl⟩
def t6:TI:={ aJ:=.int .u8,size:=1,bytes:=1,zero:=.int .u8 0,zs:=[.int .u8 0] }
theorem aaL:aS Tryz.prog 6 t6:=⟨by kernel_rfl,by kernel_rfl,rfl,rfl⟩
def t28:TI:={ aJ:=.ptr 62,size:=1,bytes:=8,zero:=.pointer none,zs:=[.pointer none] }
theorem Z1:aS Tryz.prog 28 t28:=⟨by kernel_rfl,by kernel_rfl,rfl,rfl⟩
def t7:TI:={ aJ:=.struct [(0,1),(1,1),(2,1),(3,1)],size:=4,bytes:=24,zero:=.agg ([I0,I0,.bool false,.int .u8 0]:List Value).toArray,zs:=[I0,I0,.bool false,.int .u8 0] }
theorem aaR:aS Tryz.prog 7 t7:=⟨by kernel_rfl,by kernel_rfl,rfl,rfl⟩
def t8:TI:={ aJ:=.struct [(0,1),(1,1),(2,1),(3,1)],size:=4,bytes:=24,zero:=.agg ([I0,I0,.bool false,.int .u8 0]:List Value).toArray,zs:=[I0,I0,.bool false,.int .u8 0] }
theorem aaY:aS Tryz.prog 8 t8:=⟨by kernel_rfl,by kernel_rfl,rfl,rfl⟩
def t68:TI:={ aJ:=.ptr 120,size:=1,bytes:=8,zero:=.pointer none,zs:=[.pointer none] }
theorem aaK:aS Tryz.prog 68 t68:=⟨by kernel_rfl,by kernel_rfl,rfl,rfl⟩
def t46:TI:={ aJ:=.slice 50,size:=1,bytes:=24,zero:=.slice none 0 0,zs:=[.slice none 0 0] }
theorem aay:aS Tryz.prog 46 t46:=⟨by kernel_rfl,by kernel_rfl,rfl,rfl⟩
def t103:TI:={ aJ:=.ptr 162,size:=1,bytes:=8,zero:=.pointer none,zs:=[.pointer none] }
theorem Ys:aS Tryz.prog 103 t103:=⟨by kernel_rfl,by kernel_rfl,rfl,rfl⟩
def t41:TI:={ aJ:=.ptr 75,size:=1,bytes:=8,zero:=.pointer none,zs:=[.pointer none] }
theorem aax:aS Tryz.prog 41 t41:=⟨by kernel_rfl,by kernel_rfl,rfl,rfl⟩
def t21:TI:={ aJ:=.int .i32,size:=1,bytes:=4,zero:=.int .i32 0,zs:=[.int .i32 0] }
theorem Zq:aS Tryz.prog 21 t21:=⟨by kernel_rfl,by kernel_rfl,rfl,rfl⟩
def t107:TI:={ aJ:=.struct [(0,1),(1,1),(2,1),(3,1),(4,3),(7,1),(8,1),(9,1),(10,1),(11,1),(12,1),(13,1),(14,1),(15,1),(16,1)],size:=17,bytes:=152,zero:=.agg ([I0,I0,I0,I0,I0,.slice none 0 0,I0,I0,.bool false,.pointer none,.pointer none,.pointer none,.pointer none,I0,I0,.bool false,I0]:List Value).toArray,zs:=[I0,I0,I0,I0,I0,.slice none 0 0,I0,I0,.bool false,.pointer none,.pointer none,.pointer none,.pointer none,I0,I0,.bool false,I0] }
theorem Yw:aS Tryz.prog 107 t107:=⟨by kernel_rfl,by kernel_rfl,rfl,rfl⟩
def t35:TI:={ aJ:=.struct [(0,1),(1,1),(2,1),(3,1)],size:=4,bytes:=48,zero:=.agg ([I0,S0,S0,I0]:List Value).toArray,zs:=[I0,S0,S0,I0] }
theorem aaf:aS Tryz.prog 35 t35:=⟨by kernel_rfl,by kernel_rfl,rfl,rfl⟩
def t50:TI:={ aJ:=.array 2 3,size:=2,bytes:=16,zero:=.agg ([I0,I0]:List Value).toArray,zs:=[I0,I0] }
theorem aaB:aS Tryz.prog 50 t50:=⟨by kernel_rfl,by kernel_rfl,rfl,rfl⟩
def t38:TI:={ aJ:=.slice 89,size:=1,bytes:=24,zero:=.slice none 0 0,zs:=[.slice none 0 0] }
theorem aat:aS Tryz.prog 38 t38:=⟨by kernel_rfl,by kernel_rfl,rfl,rfl⟩
def t131:TI:={ aJ:=.struct [(0,1),(1,1),(2,1),(3,1)],size:=4,bytes:=40,zero:=.agg ([I0,S0,I0,I0]:List Value).toArray,zs:=[I0,S0,I0,I0] }
theorem YG:aS Tryz.prog 131 t131:=⟨by kernel_rfl,by kernel_rfl,rfl,rfl⟩
def t102:TI:={ aJ:=.ptr 160,size:=1,bytes:=8,zero:=.pointer none,zs:=[.pointer none] }
theorem Yr:aS Tryz.prog 102 t102:=⟨by kernel_rfl,by kernel_rfl,rfl,rfl⟩
def t139:TI:={ aJ:=.struct [(0,1),(1,1),(2,1),(3,4)],size:=7,bytes:=72,zero:=.agg ([I0,I0,I0,I0,S0,S0,I0]:List Value).toArray,zs:=[I0,I0,I0,I0,S0,S0,I0] }
theorem YK:aS Tryz.prog 139 t139:=⟨by kernel_rfl,by kernel_rfl,rfl,rfl⟩
def t89:TI:={ aJ:=.struct [(0,1),(1,1)],size:=2,bytes:=16,zero:=.agg ([I0,I0]:List Value).toArray,zs:=[I0,I0] }
theorem aaX:aS Tryz.prog 89 t89:=⟨by kernel_rfl,by kernel_rfl,rfl,rfl⟩
def t104:TI:={ aJ:=.ptr 170,size:=1,bytes:=8,zero:=.pointer none,zs:=[.pointer none] }
theorem Yt:aS Tryz.prog 104 t104:=⟨by kernel_rfl,by kernel_rfl,rfl,rfl⟩
def t125:TI:={ aJ:=.slice 183,size:=1,bytes:=24,zero:=.slice none 0 0,zs:=[.slice none 0 0] }
theorem YD:aS Tryz.prog 125 t125:=⟨by kernel_rfl,by kernel_rfl,rfl,rfl⟩
def t37:TI:={ aJ:=.struct [(0,1),(1,1),(2,1),(3,1),(4,4)],size:=8,bytes:=80,zero:=.agg ([I0,I0,I0,I0,I0,S0,S0,I0]:List Value).toArray,zs:=[I0,I0,I0,I0,I0,S0,S0,I0] }
theorem aas:aS Tryz.prog 37 t37:=⟨by kernel_rfl,by kernel_rfl,rfl,rfl⟩
def t223:TI:={ aJ:=.ptr 3,size:=1,bytes:=8,zero:=.pointer none,zs:=[.pointer none] }
theorem Zt:aS Tryz.prog 223 t223:=⟨by kernel_rfl,by kernel_rfl,rfl,rfl⟩
def t10:TI:={ aJ:=.string,size:=1,bytes:=16,zero:=S0,zs:=[S0] }
theorem Yx:aS Tryz.prog 10 t10:=⟨by kernel_rfl,by kernel_rfl,rfl,rfl⟩
def t47:TI:={ aJ:=.ptr 81,size:=1,bytes:=8,zero:=.pointer none,zs:=[.pointer none] }
theorem aaz:aS Tryz.prog 47 t47:=⟨by kernel_rfl,by kernel_rfl,rfl,rfl⟩
def t232:TI:={ aJ:=.ptr 295,size:=1,bytes:=8,zero:=.pointer none,zs:=[.pointer none] }
theorem ZB:aS Tryz.prog 232 t232:=⟨by kernel_rfl,by kernel_rfl,rfl,rfl⟩
def t163:TI:={ aJ:=.ptr 231,size:=1,bytes:=8,zero:=.pointer none,zs:=[.pointer none] }
theorem YZ:aS Tryz.prog 163 t163:=⟨by kernel_rfl,by kernel_rfl,rfl,rfl⟩
def t22:TI:={ aJ:=.slice 3,size:=1,bytes:=24,zero:=.slice none 0 0,zs:=[.slice none 0 0] }
theorem Zy:aS Tryz.prog 22 t22:=⟨by kernel_rfl,by kernel_rfl,rfl,rfl⟩
def t11:TI:={ aJ:=.string,size:=1,bytes:=16,zero:=S0,zs:=[S0] }
theorem YB:aS Tryz.prog 11 t11:=⟨by kernel_rfl,by kernel_rfl,rfl,rfl⟩
def t62:TI:={ aJ:=.struct [(0,12),(12,1),(13,1),(14,1),(15,1),(16,1),(17,1),(18,1)],size:=19,bytes:=216,zero:=.agg ([I0,I0,I0,.slice none 0 0,I0,I0,I0,I0,I0,I0,I0,I0,I0,.pointer none,.slice none 0 0,.slice none 0 0,.pointer none,.pointer none,.slice none 0 0]:List Value).toArray,zs:=[I0,I0,I0,.slice none 0 0,I0,I0,I0,I0,I0,I0,I0,I0,I0,.pointer none,.slice none 0 0,.slice none 0 0,.pointer none,.pointer none,.slice none 0 0] }
theorem aaI:aS Tryz.prog 62 t62:=⟨by kernel_rfl,by kernel_rfl,rfl,rfl⟩
def t120:TI:={ aJ:=.struct [(0,1),(1,1),(2,1),(3,1),(4,1),(5,3),(8,1),(9,1),(10,1),(11,1),(12,1),(13,1),(14,1),(15,1),(16,1),(17,4)],size:=21,bytes:=200,zero:=.agg ([I0,I0,I0,I0,.pointer none,I0,.slice none 0 0,I0,.pointer none,I0,I0,I0,.bool false,I0,I0,I0,I0,I0,S0,S0,I0]:List Value).toArray,zs:=[I0,I0,I0,I0,.pointer none,I0,.slice none 0 0,I0,.pointer none,I0,I0,I0,.bool false,I0,I0,I0,I0,I0,S0,S0,I0] }
theorem YC:aS Tryz.prog 120 t120:=⟨by kernel_rfl,by kernel_rfl,rfl,rfl⟩
def t144:TI:={ aJ:=.slice 9,size:=1,bytes:=24,zero:=.slice none 0 0,zs:=[.slice none 0 0] }
theorem YM:aS Tryz.prog 144 t144:=⟨by kernel_rfl,by kernel_rfl,rfl,rfl⟩
def t105:TI:={ aJ:=.ptr 173,size:=1,bytes:=8,zero:=.pointer none,zs:=[.pointer none] }
theorem Yu:aS Tryz.prog 105 t105:=⟨by kernel_rfl,by kernel_rfl,rfl,rfl⟩
def t222:TI:={ aJ:=.int .u64,size:=1,bytes:=8,zero:=.int .u64 0,zs:=[.int .u64 0] }
theorem Zs:aS Tryz.prog 222 t222:=⟨by kernel_rfl,by kernel_rfl,rfl,rfl⟩
def t188:TI:={ aJ:=.struct [(0,1),(1,1),(2,1)],size:=3,bytes:=32,zero:=.agg ([I0,I0,S0]:List Value).toArray,zs:=[I0,I0,S0] }
theorem Zf:aS Tryz.prog 188 t188:=⟨by kernel_rfl,by kernel_rfl,rfl,rfl⟩
def t12:TI:={ aJ:=.int .u64,size:=1,bytes:=8,zero:=.int .u64 0,zs:=[.int .u64 0] }
theorem YE:aS Tryz.prog 12 t12:=⟨by kernel_rfl,by kernel_rfl,rfl,rfl⟩
def t117:TI:={ aJ:=.ptr 177,size:=1,bytes:=8,zero:=.pointer none,zs:=[.pointer none] }
theorem Yy:aS Tryz.prog 117 t117:=⟨by kernel_rfl,by kernel_rfl,rfl,rfl⟩
def t243:TI:={ aJ:=.ptr 181,size:=1,bytes:=8,zero:=.pointer none,zs:=[.pointer none] }
theorem ZG:aS Tryz.prog 243 t243:=⟨by kernel_rfl,by kernel_rfl,rfl,rfl⟩
def t194:TI:={ aJ:=.struct [(0,1),(1,29),(30,4)],size:=34,bytes:=336,zero:=.agg ([I0,I0,I0,I0,I0,I0,I0,I0,I0,S0,S0,I0,I0,S0,I0,I0,I0,I0,I0,I0,I0,S0,S0,I0,I0,.slice none 0 0,I0,I0,I0,I0,I0,S0,I0,I0]:List Value).toArray,zs:=[I0,I0,I0,I0,I0,I0,I0,I0,I0,S0,S0,I0,I0,S0,I0,I0,I0,I0,I0,I0,I0,S0,S0,I0,I0,.slice none 0 0,I0,I0,I0,I0,I0,S0,I0,I0] }
theorem Zk:aS Tryz.prog 194 t194:=⟨by kernel_rfl,by kernel_rfl,rfl,rfl⟩
def t16:TI:={ aJ:=.ptr 373,size:=1,bytes:=8,zero:=.pointer none,zs:=[.pointer none] }
theorem Y4:aS Tryz.prog 16 t16:=⟨by kernel_rfl,by kernel_rfl,rfl,rfl⟩
def t56:TI:={ aJ:=.ptr 101,size:=1,bytes:=8,zero:=.pointer none,zs:=[.pointer none] }
theorem aaC:aS Tryz.prog 56 t56:=⟨by kernel_rfl,by kernel_rfl,rfl,rfl⟩
def t148:TI:={ aJ:=.int .u64,size:=1,bytes:=8,zero:=.int .u64 0,zs:=[.int .u64 0] }
theorem YN:aS Tryz.prog 148 t148:=⟨by kernel_rfl,by kernel_rfl,rfl,rfl⟩
def t153:TI:={ aJ:=.ptr 228,size:=1,bytes:=8,zero:=.pointer none,zs:=[.pointer none] }
theorem YP:aS Tryz.prog 153 t153:=⟨by kernel_rfl,by kernel_rfl,rfl,rfl⟩
def t162:TI:={ aJ:=.struct [(0,1),(1,1),(2,1),(3,1),(4,1)],size:=5,bytes:=40,zero:=.agg ([I0,I0,I0,I0,I0]:List Value).toArray,zs:=[I0,I0,I0,I0,I0] }
theorem YY:aS Tryz.prog 162 t162:=⟨by kernel_rfl,by kernel_rfl,rfl,rfl⟩
def t171:TI:={ aJ:=.slice 194,size:=1,bytes:=24,zero:=.slice none 0 0,zs:=[.slice none 0 0] }
theorem Y6:aS Tryz.prog 171 t171:=⟨by kernel_rfl,by kernel_rfl,rfl,rfl⟩
def t250:TI:={ aJ:=.slice 181,size:=1,bytes:=24,zero:=.slice none 0 0,zs:=[.slice none 0 0] }
theorem ZJ:aS Tryz.prog 250 t250:=⟨by kernel_rfl,by kernel_rfl,rfl,rfl⟩
def t133:TI:={ aJ:=.struct [(0,1),(1,1),(2,4)],size:=6,bytes:=56,zero:=.agg ([I0,I0,I0,S0,I0,I0]:List Value).toArray,zs:=[I0,I0,I0,S0,I0,I0] }
theorem YI:aS Tryz.prog 133 t133:=⟨by kernel_rfl,by kernel_rfl,rfl,rfl⟩
def t60:TI:={ aJ:=.slice 139,size:=1,bytes:=24,zero:=.slice none 0 0,zs:=[.slice none 0 0] }
theorem aaG:aS Tryz.prog 60 t60:=⟨by kernel_rfl,by kernel_rfl,rfl,rfl⟩
def t81:TI:={ aJ:=.struct [(0,1),(1,1)],size:=2,bytes:=16,zero:=.agg ([I0,.map none]:List Value).toArray,zs:=[I0,.map none] }
theorem aaT:aS Tryz.prog 81 t81:=⟨by kernel_rfl,by kernel_rfl,rfl,rfl⟩
def t236:TI:={ aJ:=.struct [(0,1),(1,1),(2,1),(3,1)],size:=4,bytes:=32,zero:=.agg ([.pointer none,I0,I0,I0]:List Value).toArray,zs:=[.pointer none,I0,I0,I0] }
theorem ZD:aS Tryz.prog 236 t236:=⟨by kernel_rfl,by kernel_rfl,rfl,rfl⟩
def t75:TI:={ aJ:=.struct [(0,1),(1,1),(2,3),(5,6),(11,6)],size:=17,bytes:=112,zero:=.agg ([I0,I0,I0,.slice none 0 0,I0,I0,I0,I0,I0,I0,I0,.bool false,.bool false,.bool false,.bool false,.bool false,.bool false]:List Value).toArray,zs:=[I0,I0,I0,.slice none 0 0,I0,I0,I0,I0,I0,I0,I0,.bool false,.bool false,.bool false,.bool false,.bool false,.bool false] }
theorem aaP:aS Tryz.prog 75 t75:=⟨by kernel_rfl,by kernel_rfl,rfl,rfl⟩
def t118:TI:={ aJ:=.ptr 286,size:=1,bytes:=8,zero:=.pointer none,zs:=[.pointer none] }
theorem Yz:aS Tryz.prog 118 t118:=⟨by kernel_rfl,by kernel_rfl,rfl,rfl⟩
def t83:TI:={ aJ:=.struct [(0,1),(1,1)],size:=2,bytes:=16,zero:=.agg ([I0,I0]:List Value).toArray,zs:=[I0,I0] }
theorem aaV:aS Tryz.prog 83 t83:=⟨by kernel_rfl,by kernel_rfl,rfl,rfl⟩
def t167:TI:={ aJ:=.struct [(0,1),(1,1)],size:=2,bytes:=16,zero:=.agg ([I0,I0]:List Value).toArray,zs:=[I0,I0] }
theorem Y1:aS Tryz.prog 167 t167:=⟨by kernel_rfl,by kernel_rfl,rfl,rfl⟩
def t160:TI:={ aJ:=.struct [(0,1),(1,1),(2,1),(3,12)],size:=15,bytes:=152,zero:=.agg ([.pointer none,.slice none 0 0,.slice none 0 0,I0,I0,I0,I0,I0,I0,I0,I0,I0,I0,I0,I0]:List Value).toArray,zs:=[.pointer none,.slice none 0 0,.slice none 0 0,I0,I0,I0,I0,I0,I0,I0,I0,I0,I0,I0,I0] }
theorem YW:aS Tryz.prog 160 t160:=⟨by kernel_rfl,by kernel_rfl,rfl,rfl⟩
def t358:TI:={ aJ:=.ptr 280,size:=1,bytes:=8,zero:=.pointer none,zs:=[.pointer none] }
theorem aae:aS Tryz.prog 358 t358:=⟨by kernel_rfl,by kernel_rfl,rfl,rfl⟩
def t177:TI:={ aJ:=.struct [(0,1),(1,1),(2,1),(3,1),(4,1)],size:=5,bytes:=40,zero:=.agg ([I0,I0,I0,I0,I0]:List Value).toArray,zs:=[I0,I0,I0,I0,I0] }
theorem Y_:aS Tryz.prog 177 t177:=⟨by kernel_rfl,by kernel_rfl,rfl,rfl⟩
def t220:TI:={ aJ:=.int .u32,size:=1,bytes:=4,zero:=.int .u32 0,zs:=[.int .u32 0] }
theorem Zr:aS Tryz.prog 220 t220:=⟨by kernel_rfl,by kernel_rfl,rfl,rfl⟩
def t14:TI:={ aJ:=.struct [(0,1),(1,1)],size:=2,bytes:=24,zero:=.agg ([S0,.int .u64 0]:List Value).toArray,zs:=[S0,.int .u64 0] }
theorem YO:aS Tryz.prog 14 t14:=⟨by kernel_rfl,by kernel_rfl,rfl,rfl⟩
def t101:TI:={ aJ:=.struct [(0,1),(1,1),(2,1),(3,6)],size:=9,bytes:=88,zero:=.agg ([.bool false,.slice none 0 0,I0,I0,I0,I0,I0,I0,I0]:List Value).toArray,zs:=[.bool false,.slice none 0 0,I0,I0,I0,I0,I0,I0,I0] }
theorem Yq:aS Tryz.prog 101 t101:=⟨by kernel_rfl,by kernel_rfl,rfl,rfl⟩
def t280:TI:={ aJ:=.struct [(0,1),(1,1)],size:=2,bytes:=8,zero:=.agg ([.int .i32 0,.int .u32 0]:List Value).toArray,zs:=[.int .i32 0,.int .u32 0] }
theorem ZT:aS Tryz.prog 280 t280:=⟨by kernel_rfl,by kernel_rfl,rfl,rfl⟩
def t337:TI:={ aJ:=.ptr 236,size:=1,bytes:=8,zero:=.pointer none,zs:=[.pointer none] }
theorem aaa:aS Tryz.prog 337 t337:=⟨by kernel_rfl,by kernel_rfl,rfl,rfl⟩
def t58:TI:={ aJ:=.slice 65,size:=1,bytes:=24,zero:=.slice none 0 0,zs:=[.slice none 0 0] }
theorem aaD:aS Tryz.prog 58 t58:=⟨by kernel_rfl,by kernel_rfl,rfl,rfl⟩
def t183:TI:={ aJ:=.struct [(0,1),(1,29)],size:=30,bytes:=296,zero:=.agg ([I0,I0,I0,I0,I0,I0,I0,I0,I0,S0,S0,I0,I0,S0,I0,I0,I0,I0,I0,I0,I0,S0,S0,I0,I0,.slice none 0 0,I0,I0,I0,I0]:List Value).toArray,zs:=[I0,I0,I0,I0,I0,I0,I0,I0,I0,S0,S0,I0,I0,S0,I0,I0,I0,I0,I0,I0,I0,S0,S0,I0,I0,.slice none 0 0,I0,I0,I0,I0] }
theorem Zd:aS Tryz.prog 183 t183:=⟨by kernel_rfl,by kernel_rfl,rfl,rfl⟩
def t231:TI:={ aJ:=.struct [(0,1),(1,1),(2,1)],size:=3,bytes:=40,zero:=.agg ([.slice none 0 0,I0,.bool false]:List Value).toArray,zs:=[.slice none 0 0,I0,.bool false] }
theorem ZA:aS Tryz.prog 231 t231:=⟨by kernel_rfl,by kernel_rfl,rfl,rfl⟩
def t295:TI:={ aJ:=.struct [(0,1),(1,1),(2,1)],size:=3,bytes:=40,zero:=.agg ([.slice none 0 0,I0,I0]:List Value).toArray,zs:=[.slice none 0 0,I0,I0] }
theorem Z3:aS Tryz.prog 295 t295:=⟨by kernel_rfl,by kernel_rfl,rfl,rfl⟩
def t72:TI:={ aJ:=.array 6 3,size:=6,bytes:=48,zero:=.agg ([I0,I0,I0,I0,I0,I0]:List Value).toArray,zs:=[I0,I0,I0,I0,I0,I0] }
theorem aaM:aS Tryz.prog 72 t72:=⟨by kernel_rfl,by kernel_rfl,rfl,rfl⟩
def t226:TI:={ aJ:=.other,size:=1,bytes:=8,zero:=.map none,zs:=[.map none] }
theorem Zu:aS Tryz.prog 226 t226:=⟨by kernel_rfl,by kernel_rfl,rfl,rfl⟩
def t173:TI:={ aJ:=.struct [(0,1),(1,1),(2,1)],size:=3,bytes:=40,zero:=.agg ([I0,I0,.slice none 0 0]:List Value).toArray,zs:=[I0,I0,.slice none 0 0] }
theorem Y8:aS Tryz.prog 173 t173:=⟨by kernel_rfl,by kernel_rfl,rfl,rfl⟩
def t335:TI:={ aJ:=.slice 5,size:=1,bytes:=24,zero:=.slice none 0 0,zs:=[.slice none 0 0] }
theorem Z':aS Tryz.prog 335 t335:=⟨by kernel_rfl,by kernel_rfl,rfl,rfl⟩
def t99:TI:={ aJ:=.slice 211,size:=1,bytes:=24,zero:=.slice none 0 0,zs:=[.slice none 0 0] }
theorem aaZ:aS Tryz.prog 99 t99:=⟨by kernel_rfl,by kernel_rfl,rfl,rfl⟩
def t190:TI:={ aJ:=.struct [(0,1)],size:=1,bytes:=24,zero:=.agg ([.slice none 0 0]:List Value).toArray,zs:=[.slice none 0 0] }
theorem Zi:aS Tryz.prog 190 t190:=⟨by kernel_rfl,by kernel_rfl,rfl,rfl⟩
def t13:TI:={ aJ:=.struct [(0,1),(1,1)],size:=2,bytes:=24,zero:=.agg ([S0,.int .u64 0]:List Value).toArray,zs:=[S0,.int .u64 0] }
theorem YL:aS Tryz.prog 13 t13:=⟨by kernel_rfl,by kernel_rfl,rfl,rfl⟩
def t59:TI:={ aJ:=.slice 68,size:=1,bytes:=24,zero:=.slice none 0 0,zs:=[.slice none 0 0] }
theorem aaE:aS Tryz.prog 59 t59:=⟨by kernel_rfl,by kernel_rfl,rfl,rfl⟩
def t170:TI:={ aJ:=.struct [(0,1),(1,1),(2,1),(3,12),(15,6)],size:=21,bytes:=168,zero:=.agg ([.pointer none,I0,I0,I0,I0,I0,I0,I0,I0,I0,I0,I0,I0,I0,I0,I0,I0,I0,I0,I0,I0]:List Value).toArray,zs:=[.pointer none,I0,I0,I0,I0,I0,I0,I0,I0,I0,I0,I0,I0,I0,I0,I0,I0,I0,I0,I0,I0] }
theorem Y5:aS Tryz.prog 170 t170:=⟨by kernel_rfl,by kernel_rfl,rfl,rfl⟩
def t208:TI:={ aJ:=.ptr 211,size:=1,bytes:=8,zero:=.pointer none,zs:=[.pointer none] }
theorem Zm:aS Tryz.prog 208 t208:=⟨by kernel_rfl,by kernel_rfl,rfl,rfl⟩
def t241:TI:={ aJ:=.slice 223,size:=1,bytes:=24,zero:=.slice none 0 0,zs:=[.slice none 0 0] }
theorem ZF:aS Tryz.prog 241 t241:=⟨by kernel_rfl,by kernel_rfl,rfl,rfl⟩
def t331:TI:={ aJ:=.struct [(0,1),(1,1)],size:=2,bytes:=24,zero:=.agg ([S0,I0]:List Value).toArray,zs:=[S0,I0] }
theorem Z9:aS Tryz.prog 331 t331:=⟨by kernel_rfl,by kernel_rfl,rfl,rfl⟩
def t155:TI:={ aJ:=.slice 131,size:=1,bytes:=24,zero:=.slice none 0 0,zs:=[.slice none 0 0] }
theorem YQ:aS Tryz.prog 155 t155:=⟨by kernel_rfl,by kernel_rfl,rfl,rfl⟩
def t289:TI:={ aJ:=.int .u64,size:=1,bytes:=8,zero:=.int .u64 0,zs:=[.int .u64 0] }
theorem Z0:aS Tryz.prog 289 t289:=⟨by kernel_rfl,by kernel_rfl,rfl,rfl⟩
def t79:TI:={ aJ:=.other,size:=1,bytes:=8,zero:=.map none,zs:=[.map none] }
theorem aaQ:aS Tryz.prog 79 t79:=⟨by kernel_rfl,by kernel_rfl,rfl,rfl⟩
def t213:TI:={ aJ:=.int .i64,size:=1,bytes:=8,zero:=I0,zs:=[I0] }
theorem Zp:aS Tryz.prog 213 t213:=⟨by kernel_rfl,by kernel_rfl,rfl,rfl⟩
def t278:TI:={ aJ:=.struct [(0,0),(0,1)],size:=1,bytes:=4,zero:=.agg ([.int .u32 0]:List Value).toArray,zs:=[.int .u32 0] }
theorem ZR:aS Tryz.prog 278 t278:=⟨by kernel_rfl,by kernel_rfl,rfl,rfl⟩
def t157:TI:={ aJ:=.struct [(0,1),(1,1)],size:=2,bytes:=16,zero:=.agg ([I0,I0]:List Value).toArray,zs:=[I0,I0] }
theorem YS:aS Tryz.prog 157 t157:=⟨by kernel_rfl,by kernel_rfl,rfl,rfl⟩
def t15:TI:={ aJ:=.ptr 370,size:=1,bytes:=8,zero:=.pointer none,zs:=[.pointer none] }
theorem YV:aS Tryz.prog 15 t15:=⟨by kernel_rfl,by kernel_rfl,rfl,rfl⟩
def t229:TI:={ aJ:=.slice 236,size:=1,bytes:=24,zero:=.slice none 0 0,zs:=[.slice none 0 0] }
theorem Zx:aS Tryz.prog 229 t229:=⟨by kernel_rfl,by kernel_rfl,rfl,rfl⟩
def t211:TI:={ aJ:=.struct [(0,1),(1,1),(2,4),(6,1),(7,1),(8,6)],size:=14,bytes:=136,zero:=.agg ([I0,I0,I0,S0,S0,I0,I0,I0,I0,I0,I0,S0,I0,I0]:List Value).toArray,zs:=[I0,I0,I0,S0,S0,I0,I0,I0,I0,I0,I0,S0,I0,I0] }
theorem Zo:aS Tryz.prog 211 t211:=⟨by kernel_rfl,by kernel_rfl,rfl,rfl⟩
def t228:TI:={ aJ:=.struct [(0,1)],size:=1,bytes:=8,zero:=.agg ([.map none]:List Value).toArray,zs:=[.map none] }
theorem Zw:aS Tryz.prog 228 t228:=⟨by kernel_rfl,by kernel_rfl,rfl,rfl⟩
def t25:TI:={ aJ:=.slice 37,size:=1,bytes:=24,zero:=.slice none 0 0,zs:=[.slice none 0 0] }
theorem ZK:aS Tryz.prog 25 t25:=⟨by kernel_rfl,by kernel_rfl,rfl,rfl⟩
def t158:TI:={ aJ:=.array 6 157,size:=12,bytes:=96,zero:=.agg ([I0,I0,I0,I0,I0,I0,I0,I0,I0,I0,I0,I0]:List Value).toArray,zs:=[I0,I0,I0,I0,I0,I0,I0,I0,I0,I0,I0,I0] }
theorem YT:aS Tryz.prog 158 t158:=⟨by kernel_rfl,by kernel_rfl,rfl,rfl⟩
def t159:TI:={ aJ:=.struct [(0,1),(1,1),(2,1),(3,12)],size:=15,bytes:=152,zero:=.agg ([.pointer none,.slice none 0 0,.slice none 0 0,I0,I0,I0,I0,I0,I0,I0,I0,I0,I0,I0,I0]:List Value).toArray,zs:=[.pointer none,.slice none 0 0,.slice none 0 0,I0,I0,I0,I0,I0,I0,I0,I0,I0,I0,I0,I0] }
theorem YU:aS Tryz.prog 159 t159:=⟨by kernel_rfl,by kernel_rfl,rfl,rfl⟩
def t284:TI:={ aJ:=.struct [(0,0),(0,1),(1,2)],size:=3,bytes:=12,zero:=.agg ([.int .u32 0,.int .i32 0,.int .u32 0]:List Value).toArray,zs:=[.int .u32 0,.int .i32 0,.int .u32 0] }
theorem ZX:aS Tryz.prog 284 t284:=⟨by kernel_rfl,by kernel_rfl,rfl,rfl⟩
def t328:TI:={ aJ:=.ptr 220,size:=1,bytes:=8,zero:=.pointer none,zs:=[.pointer none] }
theorem Z7:aS Tryz.prog 328 t328:=⟨by kernel_rfl,by kernel_rfl,rfl,rfl⟩
def t73:TI:={ aJ:=.array 6 4,size:=6,bytes:=6,zero:=.agg ([.bool false,.bool false,.bool false,.bool false,.bool false,.bool false]:List Value).toArray,zs:=[.bool false,.bool false,.bool false,.bool false,.bool false,.bool false] }
theorem aaN:aS Tryz.prog 73 t73:=⟨by kernel_rfl,by kernel_rfl,rfl,rfl⟩
def t168:TI:={ aJ:=.array 6 167,size:=12,bytes:=96,zero:=.agg ([I0,I0,I0,I0,I0,I0,I0,I0,I0,I0,I0,I0]:List Value).toArray,zs:=[I0,I0,I0,I0,I0,I0,I0,I0,I0,I0,I0,I0] }
theorem Y2:aS Tryz.prog 168 t168:=⟨by kernel_rfl,by kernel_rfl,rfl,rfl⟩
def t353:TI:={ aJ:=.ptr 284,size:=1,bytes:=8,zero:=.pointer none,zs:=[.pointer none] }
theorem aac:aS Tryz.prog 353 t353:=⟨by kernel_rfl,by kernel_rfl,rfl,rfl⟩
def t100:TI:={ aJ:=.struct [(0,1),(1,1),(2,1),(3,6)],size:=9,bytes:=88,zero:=.agg ([.bool false,.slice none 0 0,I0,I0,I0,I0,I0,I0,I0]:List Value).toArray,zs:=[.bool false,.slice none 0 0,I0,I0,I0,I0,I0,I0,I0] }
theorem Yp:aS Tryz.prog 100 t100:=⟨by kernel_rfl,by kernel_rfl,rfl,rfl⟩
def t156:TI:={ aJ:=.struct [(0,1),(1,1)],size:=2,bytes:=16,zero:=.agg ([I0,I0]:List Value).toArray,zs:=[I0,I0] }
theorem YR:aS Tryz.prog 156 t156:=⟨by kernel_rfl,by kernel_rfl,rfl,rfl⟩
def t187:TI:={ aJ:=.struct [(0,1),(1,1),(2,1)],size:=3,bytes:=32,zero:=.agg ([I0,I0,S0]:List Value).toArray,zs:=[I0,I0,S0] }
theorem Ze:aS Tryz.prog 187 t187:=⟨by kernel_rfl,by kernel_rfl,rfl,rfl⟩
def t286:TI:={ aJ:=.struct [(0,1),(1,3),(4,1),(5,6)],size:=11,bytes:=80,zero:=.agg ([.bool false,.int .u32 0,.int .i32 0,.int .u32 0,.int .u32 0,I0,I0,I0,S0,I0,I0]:List Value).toArray,zs:=[.bool false,.int .u32 0,.int .i32 0,.int .u32 0,.int .u32 0,I0,I0,I0,S0,I0,I0] }
theorem ZZ:aS Tryz.prog 286 t286:=⟨by kernel_rfl,by kernel_rfl,rfl,rfl⟩
def t332:TI:={ aJ:=.ptr 289,size:=1,bytes:=8,zero:=.pointer none,zs:=[.pointer none] }
theorem Z_:aS Tryz.prog 332 t332:=⟨by kernel_rfl,by kernel_rfl,rfl,rfl⟩
def t360:TI:={ aJ:=.ptr 21,size:=1,bytes:=8,zero:=.pointer none,zs:=[.pointer none] }
theorem aag:aS Tryz.prog 360 t360:=⟨by kernel_rfl,by kernel_rfl,rfl,rfl⟩
def t39:TI:={ aJ:=.struct [(0,1),(1,1),(2,1)],size:=3,bytes:=40,zero:=.agg ([I0,.slice none 0 0,I0]:List Value).toArray,zs:=[I0,.slice none 0 0,I0] }
theorem aau:aS Tryz.prog 39 t39:=⟨by kernel_rfl,by kernel_rfl,rfl,rfl⟩
def t61:TI:={ aJ:=.struct [(0,12),(12,1),(13,1),(14,1),(15,1),(16,1),(17,1),(18,1)],size:=19,bytes:=216,zero:=.agg ([I0,I0,I0,.slice none 0 0,I0,I0,I0,I0,I0,I0,I0,I0,I0,.pointer none,.slice none 0 0,.slice none 0 0,.pointer none,.pointer none,.slice none 0 0]:List Value).toArray,zs:=[I0,I0,I0,.slice none 0 0,I0,I0,I0,I0,I0,I0,I0,I0,I0,.pointer none,.slice none 0 0,.slice none 0 0,.pointer none,.pointer none,.slice none 0 0] }
theorem aaH:aS Tryz.prog 61 t61:=⟨by kernel_rfl,by kernel_rfl,rfl,rfl⟩
def t106:TI:={ aJ:=.struct [(0,1),(1,1),(2,1),(3,1),(4,3),(7,1),(8,1),(9,1),(10,1),(11,1),(12,1),(13,1),(14,1),(15,1),(16,1)],size:=17,bytes:=152,zero:=.agg ([I0,I0,I0,I0,I0,.slice none 0 0,I0,I0,.bool false,.pointer none,.pointer none,.pointer none,.pointer none,I0,I0,.bool false,I0]:List Value).toArray,zs:=[I0,I0,I0,I0,I0,.slice none 0 0,I0,I0,.bool false,.pointer none,.pointer none,.pointer none,.pointer none,I0,I0,.bool false,I0] }
theorem Yv:aS Tryz.prog 106 t106:=⟨by kernel_rfl,by kernel_rfl,rfl,rfl⟩
def t264:TI:={ aJ:=.struct [(0,1)],size:=1,bytes:=8,zero:=.agg ([.pointer none]:List Value).toArray,zs:=[.pointer none] }
theorem ZM:aS Tryz.prog 264 t264:=⟨by kernel_rfl,by kernel_rfl,rfl,rfl⟩
def t282:TI:={ aJ:=.struct [(0,0),(0,2)],size:=2,bytes:=8,zero:=.agg ([.int .i32 0,.int .u32 0]:List Value).toArray,zs:=[.int .i32 0,.int .u32 0] }
theorem ZV:aS Tryz.prog 282 t282:=⟨by kernel_rfl,by kernel_rfl,rfl,rfl⟩
def t169:TI:={ aJ:=.struct [(0,1),(1,1),(2,1),(3,12),(15,6)],size:=21,bytes:=168,zero:=.agg ([.pointer none,I0,I0,I0,I0,I0,I0,I0,I0,I0,I0,I0,I0,I0,I0,I0,I0,I0,I0,I0,I0]:List Value).toArray,zs:=[.pointer none,I0,I0,I0,I0,I0,I0,I0,I0,I0,I0,I0,I0,I0,I0,I0,I0,I0,I0,I0,I0] }
theorem Y3:aS Tryz.prog 169 t169:=⟨by kernel_rfl,by kernel_rfl,rfl,rfl⟩
def t189:TI:={ aJ:=.struct [(0,1)],size:=1,bytes:=24,zero:=.agg ([.slice none 0 0]:List Value).toArray,zs:=[.slice none 0 0] }
theorem Zg:aS Tryz.prog 189 t189:=⟨by kernel_rfl,by kernel_rfl,rfl,rfl⟩
def t19:TI:={ aJ:=.struct [(0,1)],size:=1,bytes:=8,zero:=.agg ([.pointer none]:List Value).toArray,zs:=[.pointer none] }
theorem Zl:aS Tryz.prog 19 t19:=⟨by kernel_rfl,by kernel_rfl,rfl,rfl⟩
def t36:TI:={ aJ:=.struct [(0,1),(1,1),(2,1),(3,1),(4,4)],size:=8,bytes:=80,zero:=.agg ([I0,I0,I0,I0,I0,S0,S0,I0]:List Value).toArray,zs:=[I0,I0,I0,I0,I0,S0,S0,I0] }
theorem aai:aS Tryz.prog 36 t36:=⟨by kernel_rfl,by kernel_rfl,rfl,rfl⟩
def t82:TI:={ aJ:=.struct [(0,1),(1,1)],size:=2,bytes:=16,zero:=.agg ([I0,I0]:List Value).toArray,zs:=[I0,I0] }
theorem aaU:aS Tryz.prog 82 t82:=⟨by kernel_rfl,by kernel_rfl,rfl,rfl⟩
def t357:TI:={ aJ:=.ptr 282,size:=1,bytes:=8,zero:=.pointer none,zs:=[.pointer none] }
theorem aad:aS Tryz.prog 357 t357:=⟨by kernel_rfl,by kernel_rfl,rfl,rfl⟩
def t34:TI:={ aJ:=.struct [(0,1),(1,1),(2,1),(3,1)],size:=4,bytes:=48,zero:=.agg ([I0,S0,S0,I0]:List Value).toArray,zs:=[I0,S0,S0,I0] }
theorem aab:aS Tryz.prog 34 t34:=⟨by kernel_rfl,by kernel_rfl,rfl,rfl⟩
def t74:TI:={ aJ:=.struct [(0,1),(1,1),(2,3),(5,6),(11,6)],size:=17,bytes:=112,zero:=.agg ([I0,I0,I0,.slice none 0 0,I0,I0,I0,I0,I0,I0,I0,.bool false,.bool false,.bool false,.bool false,.bool false,.bool false]:List Value).toArray,zs:=[I0,I0,I0,.slice none 0 0,I0,I0,I0,I0,I0,I0,I0,.bool false,.bool false,.bool false,.bool false,.bool false,.bool false] }
theorem aaO:aS Tryz.prog 74 t74:=⟨by kernel_rfl,by kernel_rfl,rfl,rfl⟩
def t80:TI:={ aJ:=.struct [(0,1),(1,1)],size:=2,bytes:=16,zero:=.agg ([I0,.map none]:List Value).toArray,zs:=[I0,.map none] }
theorem aaS:aS Tryz.prog 80 t80:=⟨by kernel_rfl,by kernel_rfl,rfl,rfl⟩
def t132:TI:={ aJ:=.struct [(0,1),(1,1),(2,4)],size:=6,bytes:=56,zero:=.agg ([I0,I0,I0,S0,I0,I0]:List Value).toArray,zs:=[I0,I0,I0,S0,I0,I0] }
theorem YH:aS Tryz.prog 132 t132:=⟨by kernel_rfl,by kernel_rfl,rfl,rfl⟩
def t166:TI:={ aJ:=.struct [(0,1),(1,1)],size:=2,bytes:=16,zero:=.agg ([I0,I0]:List Value).toArray,zs:=[I0,I0] }
theorem Y0:aS Tryz.prog 166 t166:=⟨by kernel_rfl,by kernel_rfl,rfl,rfl⟩
def t245:TI:={ aJ:=.ptr 190,size:=1,bytes:=8,zero:=.pointer none,zs:=[.pointer none] }
theorem ZH:aS Tryz.prog 245 t245:=⟨by kernel_rfl,by kernel_rfl,rfl,rfl⟩
def t279:TI:={ aJ:=.struct [(0,1),(1,1)],size:=2,bytes:=8,zero:=.agg ([.int .i32 0,.int .u32 0]:List Value).toArray,zs:=[.int .i32 0,.int .u32 0] }
theorem ZS:aS Tryz.prog 279 t279:=⟨by kernel_rfl,by kernel_rfl,rfl,rfl⟩
def t326:TI:={ aJ:=.ptr 278,size:=1,bytes:=8,zero:=.pointer none,zs:=[.pointer none] }
theorem Z6:aS Tryz.prog 326 t326:=⟨by kernel_rfl,by kernel_rfl,rfl,rfl⟩
def t17:TI:={ aJ:=.ptr 381,size:=1,bytes:=8,zero:=.pointer none,zs:=[.pointer none] }
theorem Y':aS Tryz.prog 17 t17:=⟨by kernel_rfl,by kernel_rfl,rfl,rfl⟩
def t130:TI:={ aJ:=.struct [(0,1),(1,1),(2,1),(3,1)],size:=4,bytes:=40,zero:=.agg ([I0,S0,I0,I0]:List Value).toArray,zs:=[I0,S0,I0,I0] }
theorem YF:aS Tryz.prog 130 t130:=⟨by kernel_rfl,by kernel_rfl,rfl,rfl⟩
def t161:TI:={ aJ:=.struct [(0,1),(1,1),(2,1),(3,1),(4,1)],size:=5,bytes:=40,zero:=.agg ([I0,I0,I0,I0,I0]:List Value).toArray,zs:=[I0,I0,I0,I0,I0] }
theorem YX:aS Tryz.prog 161 t161:=⟨by kernel_rfl,by kernel_rfl,rfl,rfl⟩
def t182:TI:={ aJ:=.struct [(0,1),(1,29)],size:=30,bytes:=296,zero:=.agg ([I0,I0,I0,I0,I0,I0,I0,I0,I0,S0,S0,I0,I0,S0,I0,I0,I0,I0,I0,I0,I0,S0,S0,I0,I0,.slice none 0 0,I0,I0,I0,I0]:List Value).toArray,zs:=[I0,I0,I0,I0,I0,I0,I0,I0,I0,S0,S0,I0,I0,S0,I0,I0,I0,I0,I0,I0,I0,S0,S0,I0,I0,.slice none 0 0,I0,I0,I0,I0] }
theorem Zc:aS Tryz.prog 182 t182:=⟨by kernel_rfl,by kernel_rfl,rfl,rfl⟩
def t193:TI:={ aJ:=.struct [(0,1),(1,29),(30,4)],size:=34,bytes:=336,zero:=.agg ([I0,I0,I0,I0,I0,I0,I0,I0,I0,S0,S0,I0,I0,S0,I0,I0,I0,I0,I0,I0,I0,S0,S0,I0,I0,.slice none 0 0,I0,I0,I0,I0,I0,S0,I0,I0]:List Value).toArray,zs:=[I0,I0,I0,I0,I0,I0,I0,I0,I0,S0,S0,I0,I0,S0,I0,I0,I0,I0,I0,I0,I0,S0,S0,I0,I0,.slice none 0 0,I0,I0,I0,I0,I0,S0,I0,I0] }
theorem Zj:aS Tryz.prog 193 t193:=⟨by kernel_rfl,by kernel_rfl,rfl,rfl⟩
def t210:TI:={ aJ:=.struct [(0,1),(1,1),(2,4),(6,1),(7,1),(8,6)],size:=14,bytes:=136,zero:=.agg ([I0,I0,I0,S0,S0,I0,I0,I0,I0,I0,I0,S0,I0,I0]:List Value).toArray,zs:=[I0,I0,I0,S0,S0,I0,I0,I0,I0,I0,I0,S0,I0,I0] }
theorem Zn:aS Tryz.prog 210 t210:=⟨by kernel_rfl,by kernel_rfl,rfl,rfl⟩
def t230:TI:={ aJ:=.struct [(0,1),(1,1),(2,1)],size:=3,bytes:=40,zero:=.agg ([.slice none 0 0,I0,.bool false]:List Value).toArray,zs:=[.slice none 0 0,I0,.bool false] }
theorem Zz:aS Tryz.prog 230 t230:=⟨by kernel_rfl,by kernel_rfl,rfl,rfl⟩
def t235:TI:={ aJ:=.struct [(0,1),(1,1),(2,1),(3,1)],size:=4,bytes:=32,zero:=.agg ([.pointer none,I0,I0,I0]:List Value).toArray,zs:=[.pointer none,I0,I0,I0] }
theorem ZC:aS Tryz.prog 235 t235:=⟨by kernel_rfl,by kernel_rfl,rfl,rfl⟩
def t275:TI:={ aJ:=.struct [],size:=0,bytes:=0,zero:=.agg ([]:List Value).toArray,zs:=[] }
theorem ZO:aS Tryz.prog 275 t275:=⟨by kernel_rfl,by kernel_rfl,rfl,rfl⟩
def t281:TI:={ aJ:=.struct [(0,0),(0,2)],size:=2,bytes:=8,zero:=.agg ([.int .i32 0,.int .u32 0]:List Value).toArray,zs:=[.int .i32 0,.int .u32 0] }
theorem ZU:aS Tryz.prog 281 t281:=⟨by kernel_rfl,by kernel_rfl,rfl,rfl⟩
def t283:TI:={ aJ:=.struct [(0,0),(0,1),(1,2)],size:=3,bytes:=12,zero:=.agg ([.int .u32 0,.int .i32 0,.int .u32 0]:List Value).toArray,zs:=[.int .u32 0,.int .i32 0,.int .u32 0] }
theorem ZW:aS Tryz.prog 283 t283:=⟨by kernel_rfl,by kernel_rfl,rfl,rfl⟩
def t18:TI:={ aJ:=.struct [(0,1)],size:=1,bytes:=8,zero:=.agg ([.pointer none]:List Value).toArray,zs:=[.pointer none] }
theorem Zh:aS Tryz.prog 18 t18:=⟨by kernel_rfl,by kernel_rfl,rfl,rfl⟩
def t23:TI:={ aJ:=.struct [(0,1),(1,1),(2,1),(3,1),(4,1),(5,1),(6,1),(7,1),(8,1),(9,1),(10,1),(11,1)],size:=12,bytes:=112,zero:=.agg ([I0,I0,I0,.slice none 0 0,I0,I0,I0,I0,I0,I0,I0,I0]:List Value).toArray,zs:=[I0,I0,I0,.slice none 0 0,I0,I0,I0,I0,I0,I0,I0,I0] }
theorem ZE:aS Tryz.prog 23 t23:=⟨by kernel_rfl,by kernel_rfl,rfl,rfl⟩
def t88:TI:={ aJ:=.struct [(0,1),(1,1)],size:=2,bytes:=16,zero:=.agg ([I0,I0]:List Value).toArray,zs:=[I0,I0] }
theorem aaW:aS Tryz.prog 88 t88:=⟨by kernel_rfl,by kernel_rfl,rfl,rfl⟩
def t172:TI:={ aJ:=.struct [(0,1),(1,1),(2,1)],size:=3,bytes:=40,zero:=.agg ([I0,I0,.slice none 0 0]:List Value).toArray,zs:=[I0,I0,.slice none 0 0] }
theorem Y7:aS Tryz.prog 172 t172:=⟨by kernel_rfl,by kernel_rfl,rfl,rfl⟩
def t176:TI:={ aJ:=.struct [(0,1),(1,1),(2,1),(3,1),(4,1)],size:=5,bytes:=40,zero:=.agg ([I0,I0,I0,I0,I0]:List Value).toArray,zs:=[I0,I0,I0,I0,I0] }
theorem Y9:aS Tryz.prog 176 t176:=⟨by kernel_rfl,by kernel_rfl,rfl,rfl⟩
def t180:TI:={ aJ:=.struct [(0,1),(1,1),(2,1),(3,1),(4,1),(5,1),(6,1),(7,4),(11,4),(15,1),(16,7),(23,3),(26,1),(27,1),(28,1)],size:=29,bytes:=288,zero:=.agg ([I0,I0,I0,I0,I0,I0,I0,I0,S0,S0,I0,I0,S0,I0,I0,I0,I0,I0,I0,I0,S0,S0,I0,I0,.slice none 0 0,I0,I0,I0,I0]:List Value).toArray,zs:=[I0,I0,I0,I0,I0,I0,I0,I0,S0,S0,I0,I0,S0,I0,I0,I0,I0,I0,I0,I0,S0,S0,I0,I0,.slice none 0 0,I0,I0,I0,I0] }
theorem Za:aS Tryz.prog 180 t180:=⟨by kernel_rfl,by kernel_rfl,rfl,rfl⟩
def t227:TI:={ aJ:=.struct [(0,1)],size:=1,bytes:=8,zero:=.agg ([.map none]:List Value).toArray,zs:=[.map none] }
theorem Zv:aS Tryz.prog 227 t227:=⟨by kernel_rfl,by kernel_rfl,rfl,rfl⟩
def t274:TI:={ aJ:=.struct [],size:=0,bytes:=0,zero:=.agg ([]:List Value).toArray,zs:=[] }
theorem ZN:aS Tryz.prog 274 t274:=⟨by kernel_rfl,by kernel_rfl,rfl,rfl⟩
def t276:TI:={ aJ:=.struct [],size:=0,bytes:=0,zero:=.agg ([]:List Value).toArray,zs:=[] }
theorem ZP:aS Tryz.prog 276 t276:=⟨by kernel_rfl,by kernel_rfl,rfl,rfl⟩
def t285:TI:={ aJ:=.struct [(0,1),(1,3),(4,1),(5,6)],size:=11,bytes:=80,zero:=.agg ([.bool false,.int .u32 0,.int .i32 0,.int .u32 0,.int .u32 0,I0,I0,I0,S0,I0,I0]:List Value).toArray,zs:=[.bool false,.int .u32 0,.int .i32 0,.int .u32 0,.int .u32 0,I0,I0,I0,S0,I0,I0] }
theorem ZY:aS Tryz.prog 285 t285:=⟨by kernel_rfl,by kernel_rfl,rfl,rfl⟩
def t294:TI:={ aJ:=.struct [(0,1),(1,1),(2,1)],size:=3,bytes:=40,zero:=.agg ([.slice none 0 0,I0,I0]:List Value).toArray,zs:=[.slice none 0 0,I0,I0] }
theorem Z2:aS Tryz.prog 294 t294:=⟨by kernel_rfl,by kernel_rfl,rfl,rfl⟩
def t375:TI:={ aJ:=.int .u8,size:=1,bytes:=1,zero:=.int .u8 0,zs:=[.int .u8 0] }
theorem aao:aS Tryz.prog 375 t375:=⟨by kernel_rfl,by kernel_rfl,rfl,rfl⟩
def t119:TI:={ aJ:=.struct [(0,1),(1,1),(2,1),(3,1),(4,1),(5,3),(8,1),(9,1),(10,1),(11,1),(12,1),(13,1),(14,1),(15,1),(16,1),(17,4)],size:=21,bytes:=200,zero:=.agg ([I0,I0,I0,I0,.pointer none,I0,.slice none 0 0,I0,.pointer none,I0,I0,I0,.bool false,I0,I0,I0,I0,I0,S0,S0,I0]:List Value).toArray,zs:=[I0,I0,I0,I0,.pointer none,I0,.slice none 0 0,I0,.pointer none,I0,I0,I0,.bool false,I0,I0,I0,I0,I0,S0,S0,I0] }
theorem YA:aS Tryz.prog 119 t119:=⟨by kernel_rfl,by kernel_rfl,rfl,rfl⟩
def t138:TI:={ aJ:=.struct [(0,1),(1,1),(2,1),(3,4)],size:=7,bytes:=72,zero:=.agg ([I0,I0,I0,I0,S0,S0,I0]:List Value).toArray,zs:=[I0,I0,I0,I0,S0,S0,I0] }
theorem YJ:aS Tryz.prog 138 t138:=⟨by kernel_rfl,by kernel_rfl,rfl,rfl⟩
def t263:TI:={ aJ:=.struct [(0,1)],size:=1,bytes:=8,zero:=.agg ([.pointer none]:List Value).toArray,zs:=[.pointer none] }
theorem ZL:aS Tryz.prog 263 t263:=⟨by kernel_rfl,by kernel_rfl,rfl,rfl⟩
def t277:TI:={ aJ:=.struct [(0,0),(0,1)],size:=1,bytes:=4,zero:=.agg ([.int .u32 0]:List Value).toArray,zs:=[.int .u32 0] }
theorem ZQ:aS Tryz.prog 277 t277:=⟨by kernel_rfl,by kernel_rfl,rfl,rfl⟩
def t377:TI:={ aJ:=.ptr 5,size:=1,bytes:=8,zero:=.pointer none,zs:=[.pointer none] }
theorem aap:aS Tryz.prog 377 t377:=⟨by kernel_rfl,by kernel_rfl,rfl,rfl⟩
def t378:TI:={ aJ:=.int .i32,size:=1,bytes:=4,zero:=.int .i32 0,zs:=[.int .i32 0] }
theorem aaq:aS Tryz.prog 378 t378:=⟨by kernel_rfl,by kernel_rfl,rfl,rfl⟩
def t330:TI:={ aJ:=.struct [(0,1),(1,1)],size:=2,bytes:=24,zero:=.agg ([S0,I0]:List Value).toArray,zs:=[S0,I0] }
theorem Z8:aS Tryz.prog 330 t330:=⟨by kernel_rfl,by kernel_rfl,rfl,rfl⟩
def t369:TI:={ aJ:=.struct [(0,1),(1,1),(2,1),(3,1)],size:=4,bytes:=40,zero:=.agg ([.pointer none,.pointer none,.pointer none,S0]:List Value).toArray,zs:=[.pointer none,.pointer none,.pointer none,S0] }
theorem aah:aS Tryz.prog 369 t369:=⟨by kernel_rfl,by kernel_rfl,rfl,rfl⟩
def t370:TI:={ aJ:=.struct [(0,1),(1,1),(2,1),(3,1)],size:=4,bytes:=40,zero:=.agg ([.pointer none,.pointer none,.pointer none,S0]:List Value).toArray,zs:=[.pointer none,.pointer none,.pointer none,S0] }
theorem aaj:aS Tryz.prog 370 t370:=⟨by kernel_rfl,by kernel_rfl,rfl,rfl⟩
def t371:TI:={ aJ:=.array 0 16,size:=0,bytes:=0,zero:=.agg ([]:List Value).toArray,zs:=[] }
theorem aak:aS Tryz.prog 371 t371:=⟨by kernel_rfl,by kernel_rfl,rfl,rfl⟩
def t372:TI:={ aJ:=.struct [(0,0)],size:=0,bytes:=0,zero:=.agg ([]:List Value).toArray,zs:=[] }
theorem aal:aS Tryz.prog 372 t372:=⟨by kernel_rfl,by kernel_rfl,rfl,rfl⟩
def t373:TI:={ aJ:=.struct [(0,0)],size:=0,bytes:=0,zero:=.agg ([]:List Value).toArray,zs:=[] }
theorem aam:aS Tryz.prog 373 t373:=⟨by kernel_rfl,by kernel_rfl,rfl,rfl⟩
def t374:TI:={ aJ:=.int .u8,size:=1,bytes:=1,zero:=.int .u8 0,zs:=[.int .u8 0] }
theorem aan:aS Tryz.prog 374 t374:=⟨by kernel_rfl,by kernel_rfl,rfl,rfl⟩
def t379:TI:={ aJ:=.int .i32,size:=1,bytes:=4,zero:=.int .i32 0,zs:=[.int .i32 0] }
theorem aar:aS Tryz.prog 379 t379:=⟨by kernel_rfl,by kernel_rfl,rfl,rfl⟩
def tab:m_:=[(3,t3),(4,t4),(2,t2),(29,t29),(181,t181),(5,t5),(65,t65),(40,t40),(9,t9),(24,t24),(6,t6),(28,t28),(7,t7),(8,t8),(68,t68),(46,t46),(103,t103),(41,t41),(21,t21),(107,t107),(35,t35),(50,t50),(38,t38),(131,t131),(102,t102),(139,t139),(89,t89),(104,t104),(125,t125),(37,t37),(223,t223),(10,t10),(47,t47),(232,t232),(163,t163),(22,t22),(11,t11),(62,t62),(120,t120),(144,t144),(105,t105),(222,t222),(188,t188),(12,t12),(117,t117),(243,t243),(194,t194),(16,t16),(56,t56),(148,t148),(153,t153),(162,t162),(171,t171),(250,t250),(133,t133),(60,t60),(81,t81),(236,t236),(75,t75),(118,t118),(83,t83),(167,t167),(160,t160),(358,t358),(177,t177),(220,t220),(14,t14),(101,t101),(280,t280),(337,t337),(58,t58),(183,t183),(231,t231),(295,t295),(72,t72),(226,t226),(173,t173),(335,t335),(99,t99),(190,t190),(13,t13),(59,t59),(170,t170),(208,t208),(241,t241),(331,t331),(155,t155),(289,t289),(79,t79),(213,t213),(278,t278),(157,t157),(15,t15),(229,t229),(211,t211),(228,t228),(25,t25),(158,t158),(159,t159),(284,t284),(328,t328),(73,t73),(168,t168),(353,t353),(100,t100),(156,t156),(187,t187),(286,t286),(332,t332),(360,t360),(39,t39),(61,t61),(106,t106),(264,t264),(282,t282),(169,t169),(189,t189),(19,t19),(36,t36),(82,t82),(357,t357),(34,t34),(74,t74),(80,t80),(132,t132),(166,t166),(245,t245),(279,t279),(326,t326),(17,t17),(130,t130),(161,t161),(182,t182),(193,t193),(210,t210),(230,t230),(235,t235),(275,t275),(281,t281),(283,t283),(18,t18),(23,t23),(88,t88),(172,t172),(176,t176),(180,t180),(227,t227),(274,t274),(276,t276),(285,t285),(294,t294),(375,t375),(119,t119),(138,t138),(263,t263),(277,t277),(377,t377),(378,t378),(330,t330),(369,t369),(370,t370),(371,t371),(372,t372),(373,t373),(374,t374),(379,t379)]
theorem aD:pR Tryz.prog tab:=by
 intro p hp
 have key:∀(l:m_),(∀p∈l,aS Tryz.prog p.1 p.2)→∀k ti,aS Tryz.prog k ti→∀p∈(k,ti)::l,aS Tryz.prog p.1 p.2:=fun l h k ti h1 p hp=>by
  rcases jK.1 hp with rfl | hp
  ·exact h1
  ·exact h p hp
 exact key _ (key _ (key _ (key _ (key _ (key _ (key _ (key _ (key _ (key _ (key _ (key _ (key _ (key _ (key _ (key _ (key _ (key _ (key _ (key _ (key _ (key _ (key _ (key _ (key _ (key _ (key _ (key _ (key _ (key _ (key _ (key _ (key _ (key _ (key _ (key _ (key _ (key _ (key _ (key _ (key _ (key _ (key _ (key _ (key _ (key _ (key _ (key _ (key _ (key _ (key _ (key _ (key _ (key _ (key _ (key _ (key _ (key _ (key _ (key _ (key _ (key _ (key _ (key _ (key _ (key _ (key _ (key _ (key _ (key _ (key _ (key _ (key _ (key _ (key _ (key _ (key _ (key _ (key _ (key _ (key _ (key _ (key _ (key _ (key _ (key _ (key _ (key _ (key _ (key _ (key _ (key _ (key _ (key _ (key _ (key _ (key _ (key _ (key _ (key _ (key _ (key _ (key _ (key _ (key _ (key _ (key _ (key _ (key _ (key _ (key _ (key _ (key _ (key _ (key _ (key _ (key _ (key _ (key _ (key _ (key _ (key _ (key _ (key _ (key _ (key _ (key _ (key _ (key _ (key _ (key _ (key _ (key _ (key _ (key _ (key _ (key _ (key _ (key _ (key _ (key _ (key _ (key _ (key _ (key _ (key _ (key _ (key _ (key _ (key _ (key _ (key _ (key _ (key _ (key _ (key _ (key _ (key _ (key _ (key _ (key _ (key _ (key _ (key _ (key _ (key _ (fun p h=>by cases h) _ _ aar) _ _ aan) _ _ aam) _ _ aal) _ _ aak) _ _ aaj) _ _ aah) _ _ Z8) _ _ aaq) _ _ aap) _ _ ZQ) _ _ ZL) _ _ YJ) _ _ YA) _ _ aao) _ _ Z2) _ _ ZY) _ _ ZP) _ _ ZN) _ _ Zv) _ _ Za) _ _ Y9) _ _ Y7) _ _ aaW) _ _ ZE) _ _ Zh) _ _ ZW) _ _ ZU) _ _ ZO) _ _ ZC) _ _ Zz) _ _ Zn) _ _ Zj) _ _ Zc) _ _ YX) _ _ YF) _ _ Y') _ _ Z6) _ _ ZS) _ _ ZH) _ _ Y0) _ _ YH) _ _ aaS) _ _ aaO) _ _ aab) _ _ aad) _ _ aaU) _ _ aai) _ _ Zl) _ _ Zg) _ _ Y3) _ _ ZV) _ _ ZM) _ _ Yv) _ _ aaH) _ _ aau) _ _ aag) _ _ Z_) _ _ ZZ) _ _ Ze) _ _ YR) _ _ Yp) _ _ aac) _ _ Y2) _ _ aaN) _ _ Z7) _ _ ZX) _ _ YU) _ _ YT) _ _ ZK) _ _ Zw) _ _ Zo) _ _ Zx) _ _ YV) _ _ YS) _ _ ZR) _ _ Zp) _ _ aaQ) _ _ Z0) _ _ YQ) _ _ Z9) _ _ ZF) _ _ Zm) _ _ Y5) _ _ aaE) _ _ YL) _ _ Zi) _ _ aaZ) _ _ Z') _ _ Y8) _ _ Zu) _ _ aaM) _ _ Z3) _ _ ZA) _ _ Zd) _ _ aaD) _ _ aaa) _ _ ZT) _ _ Yq) _ _ YO) _ _ Zr) _ _ Y_) _ _ aae) _ _ YW) _ _ Y1) _ _ aaV) _ _ Yz) _ _ aaP) _ _ ZD) _ _ aaT) _ _ aaG) _ _ YI) _ _ ZJ) _ _ Y6) _ _ YY) _ _ YP) _ _ YN) _ _ aaC) _ _ Y4) _ _ Zk) _ _ ZG) _ _ Yy) _ _ YE) _ _ Zf) _ _ Zs) _ _ Yu) _ _ YM) _ _ YC) _ _ aaI) _ _ YB) _ _ Zy) _ _ YZ) _ _ ZB) _ _ aaz) _ _ Yx) _ _ Zt) _ _ aas) _ _ YD) _ _ Yt) _ _ aaX) _ _ YK) _ _ Yr) _ _ YG) _ _ aat) _ _ aaB) _ _ aaf) _ _ Yw) _ _ Zq) _ _ aax) _ _ Ys) _ _ aay) _ _ aaK) _ _ aaY) _ _ aaR) _ _ Z1) _ _ aaL) _ _ ZI) _ _ aa0) _ _ aaw) _ _ aaJ) _ _ aaF) _ _ Zb) _ _ Z4) _ _ Z5) _ _ aaA) _ _ aav p hp
end T
namespace Api
open Go Vg T
attribute [local irreducible] VO VC VA
structure bB where
 kind:Int
 key:ByteArray
 value:ByteArray
 version:Int
def bB.cells(o:bB):List Value:=[.int .i64 o.kind,.string o.key,.string o.value,.int .i64 o.version]
def oR(o:bB):Bool:=
 decide (o.kind<1)||decide (4<o.kind)||decide (o.key.size=0)||decide (o.version<0)||decide (4096<o.version)||(decide (o.version≠0)&&decide (o.kind≠4)) ||
  (decide (o.value.size≠0) && !(decide (o.kind=2)||decide (o.kind=4)))
def qn(o:bB):Bool:=decide (16<o.key.size)||decide (64<o.value.size)
def dD(o:bB):Int:=if oR o then 2 else if qn o then 3 else 0
def gm(o:bB):Int:=if dD o=0 then 16+o.key.size+o.value.size else 0
theorem Hg(s:ByteArray):s.toList.length=s.size:=by rw[ByteArray.toList_eq];simp
theorem NA(s:ByteArray)(t:ByteArray)(ht:t.size=0):(s.toList == t.toList)=decide (s.size=0):=by
 have h2:t.toList=[]:=iz (by rw[Hg];exact ht)
 rw[h2]
 by_cases h:s.size=0
 ·have h1:s.toList=[]:=iz (by rw[Hg];exact h)
  rw[h1];simp[h]
 ·have h1:s.toList≠[]:=fun e=>h (by rw[←Hg,e];rfl)
  simp[h]
  exact h1
theorem Ds(k:Int):az Tryz.prog 210 [.int .i64 k] Fr w [] (fun v L=>v=.bool (decide (k=2)||decide (k=4))∧L=[]):=by
 refine TF 9 Tryz.func210 Z ym aD Z Z ?_
 refine CS (CG (VG (VN (CS (CG (VG (VO.split 5 Z Z (fun h=>VG (VN (CR ?_))) (fun h=>VG (VN (CR ?_))))))))))
 ·exact aq.bool 2 Z Z (by have:=eq_of_beq h;simp[this]) ER ⟨rfl,Z⟩
 ·exact aq.bool 2 rfl rfl (by have h:=ne_of_beq_false h;by_cases h4:k=4<;>simp[h,h4]) ER ⟨rfl,rfl⟩
theorem iG(o:bB):az Tryz.prog 144 [.agg o.cells.toArray] Fr w [] (fun v L=>v=.int .i64 (dD o)∧L=[]):=by
 refine TF 49 Tryz.func144 Z ym aD Z Z ?_
 refine CS (CG (VG (VB (vs:=o.cells) Z (fun b=>VG (VN ?_)))))
 refine uv ?_
 refine VC.meet (σ:=Bool) (fun s=>[(1,pV b),(3,.bool s)]) (fun _=>[pt b o.cells 35]) (fun s=>s=oR o) ?_ ?_
 ·have K:=NA o.key (ByteArray.mk #[]) rfl
  have V:=NA o.value (ByteArray.mk #[]) rfl
  refine CS (CG (VG (VO.ld 0 Z Z Z Z (VG (VO.split 7 Z Z (fun h1=>VG (VN ?_)) (fun h1=>VG (VO.ld 0 Z Z Z Z (VG (VN ?_)))))))))
  ·refine VC.nj Z (CK ⟨true,?_,aP,ER⟩)
   simp[oR,h1]
  have h1:=of_decide_eq_false h1
  refine CP Z (fun h2=>CK ⟨_,?_,SC Z (SC Z (SN _)),ER⟩) (fun h2=>?_)
  ·simp[oR,h2]
  refine CS (CG (VG (VO.ld 0 Z Z Z Z (VG (VN ?_)))))
  refine CC (t:=decide (o.key.size=0)) (congrArg (fun x=>some (Value.bool x)) K) (fun h3=>CK ⟨_,?_,SC Z (SC Z (SN _)),ER⟩) (fun h3=>?_)
  ·rw[K];have h3:=of_decide_eq_true h3;simp[oR,h3]
  have h3:=of_decide_eq_false h3
  refine CS (CG (VG (VO.ld 0 Z Z Z Z (VG (VO.split 18 Z Z (fun h4=>VG (VN ?_)) (fun h4=>VG (VO.ld 0 Z Z Z Z (VG (VN ?_)))))))))
  ·refine VC.nj Z (CK ⟨true,?_,aP,ER⟩)
   simp[oR,h4]
  have h4:=of_decide_eq_false h4
  refine CP Z (fun h5=>CK ⟨_,?_,SC Z (SC Z (SN _)),ER⟩) (fun h5=>?_)
  ·simp[oR,h5]
  refine CS (CG (VG (VO.ld 0 Z Z Z Z (VG (VO.split 26 Z Z (fun h6=>VG (VO.ld 0 Z Z Z Z (VG (VN ?_)))) (fun h6=>VG (VN ?_)))))))
  ·have h6:o.version≠0:=by simpa using h6
   refine VC.dH Z (fun h7=>CK ⟨_,?_,SC Z (SC Z (SN _)),ER⟩) (fun h7=>?_)
   ·simp[oR,h6,h7]
   have V2:(!(o.value.toList == (ByteArray.mk #[]).toList))=decide (o.value.size≠0):=by rw[V];simp
   refine aj ?_
   refine VG (VO.split 34 (b:=decide (o.value.size≠0)) (congrArg (fun x=>some (Value.bool x)) V2) Z (fun h8=>?_) (fun h8=>?_))
   ·have h8:=of_decide_eq_true h8
    refine aj ?_
    refine VG (VO.lW (fun Fr w=>Ds Fr w o.kind) Z (VG (VN ⟨_,?_,SC Z (SC Z (SN _)),ER⟩)))
    simp[oR,h1,h2,h3,h4,h5,h6,h7,h8]
   ·have h8:=of_decide_eq_false h8
    refine aj ?_
    refine⟨_,?_,SC Z (SC Z (SN _)),ER⟩
    simp[oR,h1,h2,h3,h4,h5,h6,h7,h8]
  ·have h6:o.version=0:=by simpa using h6
   have h7:True:=trivial
   have V2:(!(o.value.toList == (ByteArray.mk #[]).toList))=decide (o.value.size≠0):=by rw[V];simp
   refine qC ?_
   refine aj ?_
   refine VG (VO.split 34 (b:=decide (o.value.size≠0)) (congrArg (fun x=>some (Value.bool x)) V2) Z (fun h8=>?_) (fun h8=>?_))
   ·have h8:=of_decide_eq_true h8
    refine aj ?_
    refine VG (VO.lW (fun Fr w=>Ds Fr w o.kind) Z (VG (VN ⟨_,?_,SC Z (SC Z (SN _)),ER⟩)))
    simp[oR,h1,h2,h3,h4,h5,h6,h7,h8]
   ·have h8:=of_decide_eq_false h8
    refine aj ?_
    refine⟨_,?_,SC Z (SC Z (SN _)),ER⟩
    simp[oR,h1,h2,h3,h4,h5,h6,h7,h8]
 intro s hs
 subst hs
 refine CC Z (fun h1=>?_) (fun h1=>?_)
 ·refine aj ?_
  exact CR (aq.int 2 Z Z (by simp[dD,h1]) aa.nil.ah ⟨rfl,Z⟩)
 ·refine aj ?_
  refine CP Z (fun h2=>CK (CP Z (fun _=>?_) (fun h=>absurd h2 h))) (fun h2=>?_)
  ·have h2:16<(o.key.size:Int):=h2
   refine aj ?_
   exact CR (aq.int 2 Z Z yn aa.nil.ah ⟨rfl,Z⟩)
  ·have h2:¬16<(o.key.size:Int):=h2
   refine aj ?_
   refine CP Z (fun h3=>?_) (fun h3=>?_)
   ·have h3:64<(o.value.size:Int):=h3
    refine aj ?_
    exact CR (aq.int 2 Z Z yn aa.nil.ah ⟨rfl,Z⟩)
   ·have h3:¬64<(o.value.size:Int):=h3
    refine yJ ?_
    refine CR (aq.int 2 Z Z ?_ aa.nil.ah ⟨rfl,Z⟩)
    have e:qn o=false:=by simp[qn];omega
    simp[dD,e,h1]
theorem RV(o:bB):az Tryz.prog 260 [.agg o.cells.toArray] Fr w [] (fun v L=>v=.int .i64 (gm o)∧L=[]):=by
 refine TF 14 Tryz.func260 Z ym aD Z Z ?_
 refine CS (CG (VG (VB (vs:=o.cells) Z (fun b=>VG (VN ?_)))))
 refine CS (CS (CG (VG (VL 0 o.cells Z Z Z Z (VG (VO.lW (fun Fr w=>iG Fr w o) Z (VG (VN ?_))))))))
 refine VC.dH Z (fun h1=>?_) (fun h1=>?_)
 ·refine aj ?_
  exact CR (aq.int 2 Z Z (by simp[gm,h1]) aa.nil.ah ⟨rfl,Z⟩)
 ·refine CK ?_
  have hl:qn o=false:=by
   unfold dD at h1;split at h1
   ·omega
   ·split at h1
    ·omega
    ·rename_i h;simpa using h
  have hk:o.key.size≤16∧o.value.size≤64:=by simp[qn] at hl;omega
  refine aj ?_
  refine VG (VP Z Z ?_ ?_ ?_)
  ·omega
  ·omega
  refine aj ?_
  refine VG (VP Z Z ?_ ?_ ?_)
  ·omega
  ·omega
  refine aj ?_
  exact CR (aq.int 2 Z Z (by simp[gm,h1]) aa.nil.ah ⟨rfl,Z⟩)
end Api
namespace Api
open Go Vg T
structure iq where
 code:Int
 value:ByteArray
 version:Int
 at_:Int
structure bd where
 index:Int
 aF:Int
 seq:Int
 op:bB
structure ay where
 kind:Int
 ar:Int
 aF:Int
 seq:Int
 br:Int
 cls:Int
 deadline:Int
 op:bB
 res:iq
 reason:Int
 entry:bd
 dV:Int
 drain:Int
 index:Int
 tR:Int
 dW:Int
abbrev aR:=Int×Int
def aH(m:aR):List Value:=[.int .i64 m.1,.int .i64 m.2]
theorem cn(m:aR):(aH m).length=2:=rfl
theorem vc(m:aR):(aH m).all Value.oneCell'=true:=rfl
abbrev aU:TypeId:=89
abbrev jv:=Option Addr×Nat×Nat
abbrev yR:=jv
def ay.cells(f:ay)(m:yR):List Value:=
  [.int .i64 f.kind,.int .i64 f.ar,.int .i64 f.aF,.int .i64 f.seq,.int .i64 f.br,.int .i64 f.cls,.int .i64 f.deadline,
   .int .i64 f.op.kind,.string f.op.key,.string f.op.value,.int .i64 f.op.version,
   .int .i64 f.res.code,.string f.res.value,.int .i64 f.res.version,.int .i64 f.res.at_,.int .i64 f.reason,
   .int .i64 f.entry.index,.int .i64 f.entry.aF,.int .i64 f.entry.seq,.int .i64 f.entry.op.kind,.string f.entry.op.key,.string f.entry.op.value,.int .i64 f.entry.op.version,
   .int .i64 f.dV,.slice m.1 m.2.1 m.2.2,.int .i64 f.drain,.int .i64 f.index,.int .i64 f.tR,.int .i64 f.dW]
abbrev FM:=ay×yR
def aY(p:FM):List Value:=p.1.cells p.2
theorem uW(p:FM):(aY p).length=29:=rfl
def Gk:bB:=⟨0,⟨#[]⟩,⟨#[]⟩,0⟩
def ay.zero:ay:=⟨0,0,0,0,0,0,0,Gk,⟨0,⟨#[]⟩,0,0⟩,0,⟨0,0,0,Gk⟩,0,0,0,0,0⟩
def fB:FM:=(ay.zero,none,0,0)
theorem aa.tl{H:HP}{L:List HP}:aa (H::L) L:=aa.app (L:=[H]) (M:=[]) aa.nil aa.refl
def jZ(m:jv):HP:=hex fun ms:List aR=>cR [kO (ms.length=m.2.1∧ms.length≤1000000),aA aU 2 m.1 m.2.1 m.2.2 (flat aH ms)]
def mE(Fr:Nat→Prop)(w:World)(m:jv):Prop:=∃ms:List aR,ms.length=m.2.1∧ms.length≤1000000∧aV aH 2 Fr w m.1 ms
theorem mE.of{X:Cx}{m:jv}(h:mE X.Fr X.w0 m){Fr':Nat→Prop}(hF:∀b,X.Fr b→Fr' b){w:World}{L:List HP}(hw:St X L w):mE Fr' w m:=by
 obtain⟨ms,h1,h2,h3⟩:=h
 exact⟨ms,h1,h2,aV.of h3 hF hw⟩
theorem mE.sat{Fr:Nat→Prop}{w:World}{m:jv}(h:a8 Fr [jZ m] w):mE Fr w m:=by
 obtain⟨ms,h⟩:=h.ex
 have h:=h.sep
 have hp:=h.pure 0 rfl
 have h1:=h.at_ 1 rfl
 obtain⟨a,n,c⟩:=m
 dsimp only at hp h1
 obtain⟨rfl,hl⟩:=hp
 exact⟨ms,Z,hl,aV.aA cn h1⟩
theorem aa.FX{L M:List HP}(h:aa L M):aa L (jZ (none,0,0)::M):=
 aa.ex (f:=fun ms:List aR=>cR [kO (ms.length=0∧ms.length≤1000000),aA aU 2 none 0 0 (flat aH ms)]) [] (aa.sep (Ls:=[kO _,aA aU 2 none 0 0 (flat aH [])]) (aa.pure ⟨rfl,by decide⟩ (aa.dM h)))
theorem LJ{l:List FM}{k:Nat}{x:FM}(hk:k<l.length):aa (jZ x.2::l.map fun r=>jZ r.2) ((l.set k x).map fun r=>jZ r.2):=by
 rw[iZ]
 exact aa.put k (by simpa using hk)
theorem Ve{l:List FM}{k:Nat}{x:FM}(h:l[k]?=some x):(l.map fun r=>jZ r.2)[k]?=some (jZ x.2):=by rw[eh,h];rfl
end Api
namespace Cl
open Go Vg Api
abbrev Bs:=List UInt8
def bT(l:Bs):ByteArray:=⟨l.toArray⟩
abbrev sB(s:ByteArray):Bs:=s.data.toList
theorem iO(a:Bs):(bT a).size=a.length:=by show(a.toArray).size=_;simp
theorem mI(a b:Bs):bT (a++b)=bT a++bT b:=ByteArray.ext (by simp[bT])
theorem Q2{a b:Bs}(h:bT a=bT b):a=b:=by
 have:=congrArg (fun s:ByteArray=>s.data.toList) h
 simpa[bT] using this
theorem BP(s:ByteArray):bT (sB s)=s:=by simp[bT,sB]
theorem um(s:ByteArray):(sB s).length=s.size:=by show s.data.toList.length=s.data.size;simp
theorem GV(l:Bs):sB (bT l)=l:=by simp[bT,sB]
def kp:Nat→Nat→Bs
 | 0,_=>[]
 | k+1,n=>if n=0 then [] else UInt8.ofNat (n % 256)::kp k (n / 256)
def mP(n:Nat):Bs:=if n≤247 then [UInt8.ofNat n] else UInt8.ofNat (247+(kp 8 n).length)::(kp 8 n).reverse
def kK(l:Bs):Nat:=l.foldl (fun n b=>n*256+b.toNat) 0
def mq:Bs→Option (Nat×Bs)
 | []=>none
 | c::r=>if c.toNat≤247 then some (c.toNat,r) else if r.length<c.toNat-247 then none
  else if mP (kK (r.take (c.toNat-247)))=c::r.take (c.toNat-247) then some (kK (r.take (c.toNat-247)),r.drop (c.toNat-247)) else none
theorem Ci:∀(k n:Nat),(kp k n).length≤k
 | 0,_=>NR _
 | k+1,n=>by
  unfold kp
  split
  ·exact bU _
  ·have:=Ci k (n / 256);simp;omega
theorem Ji(l:Bs)(b:UInt8):kK (l ++ [b])=kK l*256+b.toNat:=by simp[kK,Bp]
theorem Jj:∀{k n:Nat},n<256 ^ k→kK (kp k n).reverse=n
 | 0,n,h=>by
  have:n=0:=by simpa using h
  subst this;rfl
 | k+1,n,h=>by
  unfold kp
  split
  ·rename_i h0;subst h0;rfl
  ·rw[List.reverse_cons,Ji,Jj (k:=k) (by rw[Nat.pow_succ] at h;exact Nat.div_lt_of_lt_mul yd)]
   have:(UInt8.ofNat (n % 256)).toNat=n % 256:=by simp[UInt8.toNat_ofNat']
   rw[this];omega
theorem Jk:∀(l:Bs),kK l<256 ^ l.length:=fun l=>by
 have key:∀(l:Bs) (n k:Nat),n<256 ^ k→l.foldl (fun n b=>n*256+b.toNat) n<256 ^ (k+l.length):=by
  intro l
  induction l with
  | nil=>intro n k h;simpa using h
  | cons b l ih=>
   intro n k h
   rw[oZ,iA,show k+(l.length+1)=(k+1)+l.length from by omega]
   refine ih _ _ ?_
   have hb:b.toNat<256:=b.toNat_lt
   rw[Nat.pow_succ];omega
 have:=key l 0 0 yo
 simpa[kK] using this
theorem Um{n:Nat}(h:n≠0):1≤(kp 8 n).length:=by unfold kp;rw[if_neg h];simp
theorem MP{n:Nat}(h:n<18446744073709551616)(r:Bs):mq (mP n++r)=some (n,r):=by
 unfold mP
 split
 ·rename_i hn
  have hc:(UInt8.ofNat n).toNat=n:=by rw[UInt8.toNat_ofNat'];omega
  rw[List.singleton_append,mq,hc,if_pos hn]
 ·rename_i hn
  have hl:=Ci 8 n
  have hc:(UInt8.ofNat (247+(kp 8 n).length)).toNat=247+(kp 8 n).length:=by rw[UInt8.toNat_ofNat'];omega
  have hp:=Um (n:=n) yd
  have e1:247+(kp 8 n).length-247=(kp 8 n).reverse.length:=by rw[List.length_reverse];omega
  rw[rX,mq,hc,if_neg yd,e1,if_neg yp,wb rfl,List.drop_left' rfl,Jj yc,if_pos (by rw[mP,if_neg hn])]
theorem GK{s:Bs}{n:Nat}{r:Bs}(h:mq s=some (n,r)):r.length<s.length:=by
 cases s with
 | nil=>cases h
 | cons c l=>
  rw[mq] at h
  split at h
  ·cases h;simp
  ·split at h
   ·cases h
   ·split at h
    ·simp only[Option.some.injEq,Prod.mk.injEq] at h;obtain⟨rfl,rfl⟩:=h;rw[r4,iA];omega
    ·cases h
theorem MO{s:Bs}{n:Nat}{r:Bs}(h:mq s=some (n,r)):n<18446744073709551616:=by
 cases s with
 | nil=>cases h
 | cons c l=>
  have hc:c.toNat<256:=c.toNat_lt
  rw[mq] at h
  split at h
  ·cases h;omega
  ·split at h
   ·cases h
   ·split at h
    ·simp only[Option.some.injEq,Prod.mk.injEq] at h
     obtain⟨rfl,rfl⟩:=h
     have h1:=Jk (l.take (c.toNat-247))
     have h2:(l.take (c.toNat-247)).length≤8:=by rw[kH];omega
     have h3:256 ^ (l.take (c.toNat-247)).length≤256 ^ 8:=By yo h2
     have h4:256 ^ 8=18446744073709551616:=rfl
     omega
    ·cases h
def cZ(n:Int):Bs:=if n < -1∨1099511627776<n then [] else mP (n+1).toNat
def cw(s:Bs):Option (Int×Bs):=match mq s with
 | some (u,r)=>if 1099511627777<u then none else some ((u:Int)-1,r)
 | none=>none
theorem rJ{n:Int}(h1:-1≤n)(h2:n≤1099511627776)(r:Bs):cw (cZ n++r)=some (n,r):=by
 unfold cZ cw
 rw[if_neg yd,MP yd]
 dsimp only
 rw[if_neg yd]
 congr 2;omega
theorem abK{s:Bs}{n:Int}{r:Bs}(h:cw s=some (n,r)):-1≤n∧n≤1099511627776∧r.length<s.length:=by
 unfold cw at h
 cases hr:mq s with
 | none=>rw[hr] at h;cases h
 | some x=>
  obtain⟨u,r'⟩:=x
  rw[hr] at h
  dsimp only at h
  split at h
  ·cases h
  ·have:=GK hr
   cases h
   omega
def nJ(s:Bs):Bs:=mP s.length++s
def jf(s:Bs):Option (Bs×Bs):=match mq s with
 | some (n,r)=>if r.length<n then none else some (r.take n,r.drop n)
 | none=>none
theorem J0(s r:Bs)(h:s.length<18446744073709551616):jf (nJ s++r)=some (s,r):=by
 unfold jf nJ
 rw[eL,MP h]
 dsimp only
 rw[if_neg yp,wb rfl,List.drop_left' rfl]
end Cl
namespace Vg
open Go Go.MapKept
def kI(P:Program)(t:TypeId)(d0:Nat)(u v:Value)(r:Bool):Prop:=∀d,d0≤d→∀w:World,(Op.equalIn (d+1) t u v).run P w=.ok r w
theorem kI.int{P:Program}{t:TypeId}{k j:IntKind}(ht:P.underlying t=some (.int k))(a b:Int):kI P t 0 (.int j a) (.int j b) (decide (a=b)):=fun d _ w=>by
 rw[Op.equalIn,Sem.run_bind,run_underlying ht]
 simp;rfl
def o8(P:Program)(d0:Nat)(xs ys:List Value)(fs:List Field)(r:Bool):Prop:=∀d,d0≤d→∀w:World,(Op.eqFields (d+1) xs.toArray ys.toArray fs).run P w=.ok r w
theorem o8.nil{P:Program}{xs ys:List Value}:o8 P 0 xs ys [] true:=fun d _ w=>rfl
theorem o8.cons{P:Program}{d0 d1:Nat}{xs ys:List Value}{f:Field}{fs:List Field}{r s:Bool}{u v:Value}(hn:f.name ≠ "_")(hx:∀w:World,(part f.type xs.toArray f.offset).run P w=.ok u w)(hy:∀w:World,(part f.type ys.toArray f.offset).run P w=.ok v w)
  (h:kI P f.type d0 u v r) (hs:o8 P d1 xs ys fs s):o8 P (max d0 d1) xs ys (f::fs) (r&&s):=fun d hd w=>by
 unfold Op.eqFields
 rw[if_pos hn]
 simp only[Sem.run_bind,hx,hy,Result.andThen_ok,h d yd w]
 cases r
 ·simp
 ·simpa using hs d yd w
theorem rz{P:Program}{t:TypeId}{cs:List Value}{off:Nat}{v:Value}{ti:TI}(ht:aS P t ti)(ha:ti.aJ.agg=false)(hv:cs[off]?=some v)(w:World):(part t cs.toArray off).run P w=.ok v w:=by
 unfold part
 rw[Sem.run_bind,ht.I6,ha]
 have:cs.toArray[off]?=some v:=by simpa using hv
 simp[this]
theorem kI.st{P:Program}{t:TypeId}{d0:Nat}{xs ys:List Value}{r:Bool}{fs:Array Field}(ht:P.underlying t=some (.struct fs))(hp:P.stoodInHeld t=false)(h:o8 P d0 xs ys fs.toList r):kI P t (d0+1) (.agg xs.toArray) (.agg ys.toArray) r:=fun d hd w=>by
 have hf:P.fieldsOf t=fs:=by unfold Program.fieldsOf;rw[ht]
 rw[run_equalIn_struct w d t _ _ (by rw[hf];exact ht) hp,hf]
 obtain⟨k,rfl⟩:∃k,d=k+1:=⟨d-1,by omega⟩
 exact h k yd w
theorem kI.eq{P:Program}{t:TypeId}{d0:Nat}{u v:Value}{r s:Bool}(h:kI P t d0 u v r)(e:r=s):kI P t d0 u v s:=e▸h
theorem kI.run{P:Program}{t:TypeId}{d0:Nat}{u v:Value}{r:Bool}(h:kI P t d0 u v r)(hd:d0≤9999)(w:World):(Op.equal t u v).run P w=.ok r w:=by
 unfold Op.equal
 exact h 9999 hd w
theorem VC.dX{X:Cx}{σ:Type}(E:σ→Env)(H:σ→List HP)(I:σ→Prop){b c:Code}{e:Env}{L:List HP}{Q:Exit→Env→List HP→Prop}
  (hb:VC X b e L (Lz X E H I Q)) (hc:∀s,I s→VC X c (E s) (H s) Q):VC X b e L (Nf X c Q):=
 hb.mono fun x e' L' h=>by
  cases x with
  | normal=>
   obtain⟨s,hI,hE,hH⟩:=h
   exact((hc s hI).ah hH).sub hE
  | exit id=>exact h
  | goto l=>exact h
  | ret=>exact h
  | panic ch=>exact h
  | outgrown=>exact h
end Vg
namespace Ch
open Go Vg T Api
attribute [local irreducible] VO VC VA
abbrev dP:TypeId:=40
structure aW where
 ar:Int
 ms:List aR
 drain:Int
def aW.cells(c:aW)(a:Option Addr)(cap:Nat):List Value:=[.int .i64 c.ar,.slice a c.ms.length cap,.int .i64 c.drain]
def placeOf(ms:List aR)(n:Int):Int:=match ms.findIdx? (fun m=>decide (m.1=n)) with
 | some i=>i
 | none=>-1
theorem Ms{ms:List aR}{n:Int}{i:Nat}{m:aR}(hm:ms[i]?=some m)(h:m.1=n)(hno:∀j m,j<i→ms[j]?=some m→m.1≠n):placeOf ms n=i:=by
 obtain⟨h1,h2⟩:=bY.1 hm
 have:ms.findIdx? (fun m=>decide (m.1=n))=some i:=by
  rw[List.findIdx?_eq_some_iff_getElem]
  refine⟨h1,by rw[h2];simp[h],fun j hj=>?_⟩
  have:=hno j _ hj (GE yd)
  simpa using this
 rw[placeOf,this]
theorem Wq{ms:List aR}{n:Int}(hno:∀j m,j<ms.length→ms[j]?=some m→m.1≠n):placeOf ms n=-1:=by
 have:ms.findIdx? (fun m=>decide (m.1=n))=none:=by
  rw[List.findIdx?_eq_none_iff]
  intro m hm
  obtain⟨j,h1,h2⟩:=List.getElem_of_mem hm
  have:=hno j m h1 (by rw[GE h1,h2])
  simpa using this
 rw[placeOf,this]
theorem ug(ms:List aR)(n:Int):placeOf ms n=-1∨∃(i:Nat) (m:aR),placeOf ms n=i∧i<ms.length∧ms[i]?=some m∧m.1=n:=by
 unfold placeOf
 cases h:ms.findIdx? (fun m=>decide (m.1=n)) with
 | none=>exact .inl rfl
 | some i=>
  obtain⟨h1,h2,_⟩:=List.findIdx?_eq_some_iff_getElem.1 h
  exact .inr ⟨i,ms[i],Z,h1,GE h1,by simpa using h2⟩
section
variable {c:aW} {a:Option Addr} {cap:Nat}
theorem CU{b:Nat}(hb:bu Fr w b (c.cells a cap))(h:aV aH 2 Fr w a c.ms)(hl:c.ms.length≤9223372036854775807)(n:Int):
  az Tryz.prog 142 [.int .i64 n,.pointer (some ⟨b,0,none⟩)] Fr w [] (fun v L=>v=.int .i64 (placeOf c.ms n)∧L=[]):=by
 refine TF 20 Tryz.func142 Z ym aD Z Z ?_
 refine kD ?_
 refine VC.loop (σ:=Nat) (fun i=>[(0,.int .i64 n),(1,pV b),(7,.slice a c.ms.length cap),(8,.int .i64 c.ms.length),(9,.int .i64 i)]) (fun _=>[]) (fun i=>i≤c.ms.length∧∀j m,j<i→c.ms[j]?=some m→m.1≠n) (fun i=>c.ms.length-i) 0
  ⟨bU _,fun j m hj=>by omega⟩ aP ER ?_
 rintro i ⟨hi,hno⟩
 refine aj ?_
 refine CP Z (fun h1=>CK ?_) (fun h1=>CX ?_)
 ·have hi2:i<c.ms.length:=by omega
  obtain⟨m,hm⟩:∃m,c.ms[i]?=some m:=⟨_,GE hi2⟩
  obtain⟨mb,mo,hma,ra,rc⟩:=aV.rd (X:=⟨Tryz.prog,tab,aD,20,Fr,w⟩) h hm
  subst hma
  refine uE ?_
  refine uw ?_
  refine VG (VO.alloc Z fun xb=>?_)
  refine VG (VT (vs:=aH m) 0 Z Z Z Z (NR _) Z Z Z ?_)
  refine aj ?_
  refine CE Z (fun h2=>?_) (fun h2=>CK ?_)
  ·refine aj ?_
   exact CR (aq.tmp 3 Z Z aa.nil.ah ⟨by rw[Ms hm h2 hno],Z⟩)
  ·refine jJ ?_
   exact⟨i+1,⟨hi2,fun j m' hj hm'=>by
    by_cases hji:j=i
    ·subst hji;rw[hm] at hm';cases hm';exact h2
    ·exact hno j m' yd hm'⟩,by dsimp only;omega,aP,aa.nil.ah⟩
 ·obtain rfl:i=c.ms.length:=by omega
  refine aj ?_
  exact CR (aq.tmp 3 Z Z aa.nil.ah ⟨by rw[Wq hno],Z⟩)
theorem Mt:az Tryz.prog 91 [.agg (c.cells a cap).toArray] Fr w [] (fun v L=>∃b,v=gk 142 [] [.pointer (some ⟨b,0,none⟩)]∧L=[pt b (c.cells a cap) dP]):=by
 refine TF 4 Tryz.func91 Z ym aD Z Z ?_
 refine CS (CG (VG (VB (vs:=c.cells a cap) Z fun b=>?_)))
 refine aj ?_
 refine Hu ?_
 refine aj ?_
 exact CR (aq.tmp 2 Z Z ER ⟨b,Z,Z⟩)
def ow(n:Int):Bool:=decide (0≤n)&&decide (n<6)
theorem Mh(n:Int):az Tryz.prog 143 [.int .i64 n] Fr w [] (fun v L=>v=.bool (ow n)∧L=[]):=by
 refine TF 9 Tryz.func143 Z ym aD Z Z ?_
 refine aj ?_
 by_cases h1:0≤n
 ·refine VG (VY 5 true Z (DT h1) ?_)
  refine bW ?_
  exact CR (aq.bool 2 Z Z (by simp[ow,h1]) ER ⟨rfl,Z⟩)
 ·refine VG (VY 5 false Z (DF h1) ?_)
  refine bW ?_
  exact CR (aq.bool 2 Z Z (by simp[ow,h1]) ER ⟨rfl,Z⟩)
def pq(c:aW)(i:Nat):Bool:=match c.ms[i]? with
 | some m=>ow m.1&&(decide (placeOf c.ms m.1=i)&&(decide (1≤m.2)&&decide (m.2≤c.ar)))
 | none=>true
def tT(c:aW):Bool:=decide (1≤c.ar)&&(decide (c.ar≤1099511627776)&&(decide (1≤c.ms.length)&&decide (c.ms.length≤6)))
def wI(c:aW):Bool:=decide (c.drain=-1)||decide (0≤placeOf c.ms c.drain)
def kL(c:aW):Bool:=tT c&&((List.range c.ms.length).all (pq c)&&wI c)
def e_(c:aW):Int:=if kL c then 0 else 2
theorem iG(h:aV aH 2 Fr w a c.ms)(hl:c.ms.length≤9223372036854775807):az Tryz.prog 92 [.agg (c.cells a cap).toArray] Fr w [] (fun v L=>v=.int .i64 (e_ c)∧L=[]):=by
 refine TF 71 Tryz.func92 Z ym aD Z Z ?_
 refine CS (CG (VG (VB (vs:=c.cells a cap) Z fun b=>?_)))
 refine VG (VN (CS (CS ?_)))
 refine VC.dX (σ:=Unit) (fun _=>[(1,pV b),(25,.bool (!tT c))]) (fun _=>[pt b (c.cells a cap) dP]) (fun _=>True) ?_ ?_
 ·refine aj ?_
  by_cases h1:c.ar<1
  ·refine VG (VY 9 true Z (DT h1) ?_)
   refine bW ?_
   refine VG (VY 14 true Z Z ?_)
   refine bW ?_
   refine VG (VY 20 true Z Z ?_)
   refine bW ?_
   exact OD
  refine VG (VY 9 false Z (DF h1) ?_)
  refine bW ?_
  by_cases h2:1099511627776<c.ar
  ·refine VG (VY 14 true Z (DT h2) ?_)
   refine bW ?_
   refine VG (VY 20 true Z Z ?_)
   refine bW ?_
   exact OD
  refine VG (VY 14 false Z (DF h2) ?_)
  refine bW ?_
  by_cases h3:(c.ms.length:Int)<1
  ·refine VG (VY 20 true Z (DT h3) ?_)
   refine bW ?_
   exact⟨(),trivial,SC Z (Sub.bl Z (by rw[tT,DF (show ¬1≤c.ms.length by omega)];simp) (SN _)),ER⟩
  refine VG (VY 20 false Z (DF h3) ?_)
  refine bW ?_
  refine⟨(),trivial,SC Z (Sub.bl Z ?_ (SN _)),ER⟩
  have e1:decide (1≤c.ar)=true:=DT yd
  have e2:decide (c.ar≤1099511627776)=true:=DT yd
  have e3:decide (1≤c.ms.length)=true:=DT yd
  rw[tT,e1,e2,e3]
  by_cases h4:6<(c.ms.length:Int)
  ·rw[DT h4,DF (show ¬c.ms.length≤6 by omega)];rfl
  ·rw[DF h4,DT (show c.ms.length≤6 by omega)];rfl
 rintro _ -
 refine VC.fQ Z (fun hh=>?_) (fun hh=>CK ?_)
 ·refine aj ?_
  exact CR (aq.tmp 2 Z Z aa.nil.ah ⟨by rw[e_,kL,hh];rfl,Z⟩)
 refine uF ?_
 refine AW ?_
 rintro _ _ ⟨pb,rfl,rfl⟩
 refine dz ?_
 have hmv:∀(i:Nat),pq c i=false→i<c.ms.length→kL c=false:=fun i h1 h2=>by
  have:(List.range c.ms.length).all (pq c)=false:=by
   rw[tm];exact⟨i,o6.2 h2,by rw[h1];simp⟩
  rw[kL,this];simp
 refine VC.loop (σ:=Nat) (fun i=>[(1,pV b),(3,gk 142 [] [.pointer (some ⟨pb,0,none⟩)]),(29,.slice a c.ms.length cap),(30,.int .i64 c.ms.length),(31,.int .i64 i)]) (fun _=>[pt pb (c.cells a cap) dP,pt b (c.cells a cap) dP]) (fun i=>i≤c.ms.length∧(List.range i).all (pq c)=true) (fun i=>c.ms.length-i) 0
  ⟨bU _,rfl⟩ aP ER ?_
 rintro i ⟨hi,hall⟩
 refine aj ?_
 refine CP Z (fun h1=>CK ?_) (fun h1=>CX ?_)
 ·have hi2:i<c.ms.length:=by omega
  obtain⟨m,hm⟩:∃m,c.ms[i]?=some m:=⟨_,GE hi2⟩
  have hmo:pq c i=(ow m.1&&(decide (placeOf c.ms m.1=i)&&(decide (1≤m.2)&&decide (m.2≤c.ar)))):=by rw[pq,hm]
  obtain⟨mb,mo,hma,ra,rc⟩:=aV.rd (X:=⟨Tryz.prog,tab,aD,71,Fr,w⟩) h hm
  subst hma
  refine uE ?_
  refine uw ?_
  refine VG (VO.alloc Z fun xb=>?_)
  refine VG (VT (vs:=aH m) 0 Z Z Z Z (NR _) Z Z Z (VG (VN ?_)))
  refine CS ?_
  refine VC.dX (σ:=Unit) (fun _=>[(1,pV b),(3,gk 142 [] [.pointer (some ⟨pb,0,none⟩)]),(29,.slice (some ⟨mb,mo,none⟩) c.ms.length cap),(30,.int .i64 c.ms.length),(31,.int .i64 i),(59,.bool (!pq c i))]) (fun _=>[pt pb (c.cells (some ⟨mb,mo,none⟩) cap) dP,pt b (c.cells (some ⟨mb,mo,none⟩) cap) dP]) (fun _=>True) ?_ ?_
  ·have S3:∀{E:Env} {t:Bool},Vg.look E 59=some (.bool t)→t=(!pq c i)→Vg.look E 1=some (.pointer (some ⟨b,0,none⟩))→Vg.look E 3=some (gk 142 [] [.pointer (some ⟨pb,0,none⟩)])→Vg.look E 29=some (.slice (some ⟨mb,mo,none⟩) c.ms.length cap)→Vg.look E 30=some (.int .i64 c.ms.length)→Vg.look E 31=some (.int .i64 i) →
     Sub [(1,pV b),(3,gk 142 [] [.pointer (some ⟨pb,0,none⟩)]),(29,.slice (some ⟨mb,mo,none⟩) c.ms.length cap),(30,.int .i64 c.ms.length),(31,.int .i64 i),(59,.bool (!pq c i))] E:=fun h0 h1 h2 h3 h4 h5 h6=>SC h2 (SC h3 (SC h4 (SC h5 (SC h6 (Sub.bl h0 h1 (SN _))))))
   refine gK ?_
   refine VG (VO.lW (fun Fr w=>Mh Fr w m.1) Z ?_)
   refine gK ?_
   cases hn:ow m.1 with
   | false=>
    refine AX ?_
    refine jG ?_
    refine VG (VY 48 true Z Z ?_)
    refine jG ?_
    refine VG (VY 53 true Z Z ?_)
    refine jG ?_
    exact⟨(),trivial,S3 Z (by rw[hmo,hn];rfl) Z Z Z Z Z,(bm [1,1]).ah⟩
   | true=>
   refine xL ?_
   refine jG ?_
   refine VG (VO.wz (u:=.int .i64 (placeOf c.ms m.1)) Z (fun Fr w hF hs hS=>CU Fr w (hS.aC 1 Z) (h.of hF hs) hl m.1) Z ?_)
   refine jG ?_
   by_cases h2:placeOf c.ms m.1=i
   ·refine VG (VY 48 false Z yj ?_)
    refine jG ?_
    by_cases h3:m.2<1
    ·refine VG (VY 53 true Z (DT h3) ?_)
     refine jG ?_
     exact⟨(),trivial,S3 Z (by rw[hmo,DF (show ¬1≤m.2 by omega)];simp) Z Z Z Z Z,(bm [1,1]).ah⟩
    refine VG (VY 53 false Z (DF h3) ?_)
    refine jG ?_
    exact⟨(),trivial,S3 Z (by
     rw[hmo,hn,DT h2,DT (show 1≤m.2 by omega)]
     by_cases h4:c.ar<m.2
     ·rw[DT h4,DF (show ¬m.2≤c.ar by omega)];rfl
     ·rw[DF h4,DT (show m.2≤c.ar by omega)];rfl) rfl rfl rfl rfl rfl,(bm [1,1]).ah⟩
   ·refine VG (VY 48 true Z yj ?_)
    refine jG ?_
    refine VG (VY 53 true Z Z ?_)
    refine jG ?_
    exact⟨(),trivial,S3 Z (by rw[hmo,DF h2];simp) Z Z Z Z Z,(bm [1,1]).ah⟩
  rintro _ -
  refine VC.fQ Z (fun hb=>?_) (fun hb=>CK ?_)
  ·refine aj ?_
   exact CR (aq.tmp 2 Z Z aa.nil.ah ⟨by rw[e_,hmv i hb hi2];rfl,Z⟩)
  ·refine jJ ?_
   exact⟨i+1,⟨hi2,by rw[v8,List.all_append,hall];simp[hb]⟩,by dsimp only;omega,aP,ER⟩
 ·obtain rfl:i=c.ms.length:=by omega
  have hce:e_ c=if wI c then 0 else 2:=by rw[e_,kL,hh,hall];simp
  refine dz ?_
  by_cases hd:c.drain=-1
  ·refine VG (VY 64 false Z (by simp[hd]) ?_)
   refine g_ ?_
   refine js ?_
   refine aj ?_
   exact CR (aq.tmp 2 Z Z aa.nil.ah ⟨by rw[hce,wI,DT hd];rfl,Z⟩)
  ·refine VG (VY 64 true Z (by simp[hd]) ?_)
   refine g_ ?_
   refine VG (VO.wz (u:=.int .i64 (placeOf c.ms c.drain)) Z (fun Fr w hF hs hS=>CU Fr w (hS.aC 0 Z) (h.of hF hs) hl c.drain) Z ?_)
   refine g_ ?_
   refine CP Z (fun h5=>?_) (fun h5=>CK ?_)
   ·refine aj ?_
    exact CR (aq.tmp 2 Z Z aa.nil.ah ⟨by rw[hce,wI,DF hd,DF yd];rfl,Z⟩)
   ·refine aj ?_
    exact CR (aq.tmp 2 Z Z aa.nil.ah ⟨by rw[hce,wI,DT (show 0≤placeOf c.ms c.drain by omega)];simp,Z⟩)
def oq(c:aW)(i:Int):Int:=if kL c∧0≤i∧i<c.ms.length then ((c.ms[i.toNat]?).getD (0,0)).1 else -1
theorem Ct(h:aV aH 2 Fr w a c.ms)(hl:c.ms.length≤9223372036854775807)(i:Int):az Tryz.prog 218 [.agg (c.cells a cap).toArray,.int .i64 i] Fr w [] (fun v L=>v=.int .i64 (oq c i)∧L=[]):=by
 refine TF 25 Tryz.func218 Z ym aD Z Z ?_
 refine CS (CG (VG (VB (vs:=c.cells a cap) Z fun b=>?_)))
 refine uF ?_
 refine VG (VV (fun Fr w hF hs hS=>iG Fr w (h.of hF hs) hl) Z ?_)
 refine aj ?_
 cases hc:kL c with
 | false=>
  refine VG (VY 8 true Z yq ?_)
  refine bW ?_
  refine VG (VY 12 true Z Z ?_)
  refine rR ?_
  exact CR (aq.tmp 4 Z Z aa.nil.ah ⟨by rw[oq,if_neg (by rw[hc];simp)],Z⟩)
 | true=>
 refine VG (VY 8 false Z yq ?_)
 refine bW ?_
 by_cases h1:i<0
 ·refine VG (VY 12 true Z (DT h1) ?_)
  refine rR ?_
  exact CR (aq.tmp 4 Z Z aa.nil.ah ⟨by rw[oq,if_neg yd],Z⟩)
 refine VG (VY 12 false Z (DF h1) ?_)
 refine bW ?_
 refine CP Z (fun h2=>?_) (fun h2=>CK ?_)
 ·refine aj ?_
  exact CR (aq.tmp 4 Z Z aa.nil.ah ⟨by rw[oq,if_neg yd],Z⟩)
 ·obtain⟨k,rfl⟩:∃k:Nat,i=k:=⟨i.toNat,by omega⟩
  have hk:k<c.ms.length:=by omega
  obtain⟨m,hm⟩:∃m,c.ms[k]?=some m:=⟨_,GE hk⟩
  obtain⟨mb,mo,hma,ra,rc⟩:=aV.rd (X:=⟨Tryz.prog,tab,aD,25,Fr,w⟩) h hm
  subst hma
  refine aj ?_
  refine AZ ?_
  refine aj ?_
  refine VG (VO.load Z Z (rc _ _ 0 _ Z Z) ?_)
  refine aj ?_
  exact CR (aq.tmp 4 Z Z aa.nil.ah ⟨by rw[oq,if_pos ⟨hc,by omega,by omega⟩,dZ,hm];rfl,Z⟩)
def tS(c:aW):Int:=oq c 0
def vI(c:aW):Int:=oq c (c.ms.length-1)
def Ad(c:aW)(n:Int):Int:=if placeOf c.ms n<0 then -1 else oq c (placeOf c.ms n+1)
def An(c:aW)(n:Int):Int:=oq c (placeOf c.ms n-1)
def cm(c:aW)(n:Int):Int×Bool:=if kL c∧0≤placeOf c.ms n then (((c.ms[(placeOf c.ms n).toNat]?).getD (0,0)).2,true) else (0,false)
theorem zK(h:aV aH 2 Fr w a c.ms)(hl:c.ms.length≤9223372036854775807):az Tryz.prog 157 [.agg (c.cells a cap).toArray] Fr w [] (fun v L=>v=.int .i64 (tS c)∧L=[]):=by
 refine TF 5 Tryz.func157 Z ym aD Z Z ?_
 refine CS (CG (VG (VB (vs:=c.cells a cap) Z fun b=>?_)))
 refine uF ?_
 refine VG (VV (fun Fr w hF hs hS=>Ct Fr w (h.of hF hs) hl 0) Z ?_)
 refine aj ?_
 exact sW
theorem AJ(h:aV aH 2 Fr w a c.ms)(hl:c.ms.length≤9223372036854775807):az Tryz.prog 211 [.agg (c.cells a cap).toArray] Fr w [] (fun v L=>v=.int .i64 (vI c)∧L=[]):=by
 refine TF 9 Tryz.func211 Z ym aD Z Z ?_
 refine CS (CG (VG (VB (vs:=c.cells a cap) Z fun b=>?_)))
 refine uF ?_
 refine aj ?_
 refine qD ?_
 refine VG (VV (fun Fr w hF hs hS=>Ct Fr w (h.of hF hs) hl (c.ms.length-1)) Z ?_)
 refine aj ?_
 exact sW
theorem sH(h:aV aH 2 Fr w a c.ms)(hl:c.ms.length≤1000000)(n:Int):az Tryz.prog 228 [.agg (c.cells a cap).toArray,.int .i64 n] Fr w [] (fun v L=>v=.int .i64 (Ad c n)∧L=[]):=by
 have hp:=ug c.ms n
 refine TF 16 Tryz.func228 Z ym aD Z Z ?_
 refine CS (CG (VG (VB (vs:=c.cells a cap) Z fun b=>?_)))
 refine uF ?_
 refine AW ?_
 rintro _ _ ⟨pb,rfl,rfl⟩
 refine aj ?_
 refine DA ?_
 refine aj ?_
 refine CP Z (fun h1=>?_) (fun h1=>CK ?_)
 ·refine aj ?_
  exact CR (aq.tmp 4 Z Z aa.nil.ah ⟨by rw[Ad,if_pos h1],Z⟩)
 ·have hpl:placeOf c.ms n<1000000:=by
   rcases hp with hp | ⟨i,m,h2,h3,_⟩<;>omega
  refine aj ?_
  refine ux ?_
  refine ta ?_
  refine VG (VV (fun Fr w hF hs hS=>Ct Fr w (h.of hF hs) yd (placeOf c.ms n+1)) Z ?_)
  refine aj ?_
  exact CR (aq.tmp 4 Z Z aa.nil.ah ⟨by rw[Ad,if_neg h1],Z⟩)
theorem CY(h:aV aH 2 Fr w a c.ms)(hl:c.ms.length≤1000000)(n:Int):az Tryz.prog 244 [.agg (c.cells a cap).toArray,.int .i64 n] Fr w [] (fun v L=>v=.int .i64 (An c n)∧L=[]):=by
 have hp:=ug c.ms n
 have hpl:-1≤placeOf c.ms n∧placeOf c.ms n<1000000:=by
  rcases hp with hp | ⟨i,m,h2,h3,_⟩<;>omega
 refine TF 12 Tryz.func244 Z ym aD Z Z ?_
 refine CS (CG (VG (VB (vs:=c.cells a cap) Z fun b=>VG ?_)))
 refine lg ?_
 refine CS (CD (.take 0 (.take 1 (.take 3 (.only 2 (.only 4 (.take 5 (.only 6 (.take 7 .nil)))))))) ym yr ?_)
 refine AG (VA.dQ 0 (c.cells a cap) Z Z Z Z Z ?_)
 refine AG (VA.dQ 0 (c.cells a cap) Z Z Z Z Z ?_)
 refine bt ?_
 refine AG (AO (OC (Lc:=[]) (R:=fun v L=>∃b,v=gk 142 [] [.pointer (some ⟨b,0,none⟩)]∧L=[pt b (c.cells a cap) dP]) Z (.refl _) (fun Fr w hF hs hS=>Mt Fr w)) Z ?_ ?_)
 ·rintro _ _ ⟨_,⟨pb,rfl,rfl⟩,rfl⟩
  exact yu
 rintro _ _ ⟨_,⟨pb,rfl,rfl⟩,rfl⟩
 refine AG (VA.wz (u:=.int .i64 (placeOf c.ms n)) Z (fun Fr w hF hs hS=>CU Fr w (hS.aC 0 Z) (h.of hF hs) yd n) Z Z yu ?_)
 refine xM ?_
 refine AG (AR (fun Fr w hF hs hS=>Ct Fr w (h.of hF hs) yd (placeOf c.ms n-1)) Z Z yu ?_)
 refine bt ?_
 exact Hw
theorem G9(h:aV aH 2 Fr w a c.ms)(hl:c.ms.length≤1000000)(n:Int):az Tryz.prog 51 [.agg (c.cells a cap).toArray,.int .i64 n] Fr w [] (fun v L=>v=.tuple #[.int .i64 (cm c n).1,.bool (cm c n).2]∧L=[]):=by
 have hp:=ug c.ms n
 refine TF 24 Tryz.func51 Z ym aD Z Z ?_
 refine CS (CG (VG (VB (vs:=c.cells a cap) Z fun b=>?_)))
 refine uF ?_
 refine AW ?_
 rintro _ _ ⟨pb,rfl,rfl⟩
 refine aj ?_
 refine DA ?_
 refine aj ?_
 refine ux ?_
 refine VG (VV (fun Fr w hF hs hS=>iG Fr w (h.of hF hs) yd) Z ?_)
 refine aj ?_
 cases hc:kL c with
 | false=>
  refine VG (VY 14 true Z yq ?_)
  refine rR ?_
  exact CR (aq.dh 4 5 Z Z Z aa.nil.ah ⟨by rw[cm,if_neg (by rw[hc];simp)],Z⟩)
 | true=>
 refine VG (VY 14 false Z yq ?_)
 refine bW ?_
 refine CP Z (fun h1=>?_) (fun h1=>CK ?_)
 ·refine aj ?_
  exact CR (aq.dh 4 5 Z Z Z aa.nil.ah ⟨by rw[cm,if_neg yd],Z⟩)
 ·rcases hp with hp | ⟨k,m,h2,h3,h4,h5⟩
  ·omega
  obtain⟨mb,mo,hma,ra,rc⟩:=aV.rd (X:=⟨Tryz.prog,tab,aD,24,Fr,w⟩) h h4
  subst hma
  refine dz ?_
  refine VG (VI (fp k Z Z Z Z Z h2 h3) ?_)
  refine dz ?_
  refine VG (VO.load Z Z (rc _ _ 1 _ Z Z) ?_)
  refine aj ?_
  exact CR (aq.dh 4 5 Z Z Z aa.nil.ah ⟨by rw[cm,if_pos ⟨hc,by omega⟩,h2,dZ,h4];rfl,Z⟩)
end
end Ch
namespace Cl
open Go Vg Api Ch
def mS(k:Int):Bool:=decide (k=2)||decide (k=4)
def py(o:bB):Bs:=cZ o.kind++nJ (sB o.key)++(if mS o.kind then nJ (sB o.value) else [])++(if o.kind=4 then cZ o.version else [])
def wB(c:aW):Bs:=cZ c.ar++cZ c.ms.length++c.ms.flatMap (fun m=>cZ m.1++cZ m.2)++cZ c.drain
def gF(n:Int):Bool:=decide (0≤n∧n≤1099511627776)
def fT(k:Int):List Nat:=
 if k=1 then [1,2,3,4,5,6] else if k=2 then [2,3,4] else if k=3 then [1,2,3,4,15] else if k=4∨k=12 then [1] else if k=5 then [1,26,27,28]
 else if k=6∨k=9∨k=10∨k=11 then [1,26] else []
def iw(f:ay):Nat→Int
 | 1=>f.ar | 2=>f.aF | 3=>f.seq | 4=>f.br | 5=>f.cls | 6=>f.deadline | 15=>f.reason | 26=>f.index | 27=>f.tR | 28=>f.dW | _=>0
def uq(f:ay)(o:Nat)(n:Int):ay:=match o with
 | 1=>{ f with ar:=n } | 2=>{ f with aF:=n } | 3=>{ f with seq:=n } | 4=>{ f with br:=n } | 5=>{ f with cls:=n } | 6=>{ f with deadline:=n }
 | 15=>{ f with reason:=n } | 26=>{ f with index:=n } | 27=>{ f with tR:=n } | 28=>{ f with dW:=n } | _=>f
def sC(o:Nat):Bool:=decide (o∈[1,2,3,4,5,6,15,26,27,28])
theorem Gf(k:Int):∀o∈fT k,sC o=true:=by
 unfold fT
 repeat' split
 all_goals decide
theorem Gg(k:Int):(fT k).length≤6:=by
 unfold fT
 repeat' split
 all_goals decide
def pn(f:ay)(ms:List aR):Bool:=
 if f.kind=1 then decide (dD f.op=0)
 else if f.kind=2 then decide (1≤f.res.code)&&decide (f.res.code≤3)&&decide (f.res.value.size≤64)&&(gF f.res.version&&gF f.res.at_)
 else if f.kind=4 then (gF f.entry.index&&(gF f.entry.aF&&gF f.entry.seq))&&decide (dD f.entry.op=0)
 else if f.kind=8 then decide (e_ ⟨f.dV,ms,f.drain⟩=0)
 else true
def mg(f:ay)(ms:List aR):Bool:=decide (1≤f.kind∧f.kind≤12)&&((fT f.kind).all (fun o=>gF (iw f o))&&pn f ms)
def lU(f:ay)(ms:List aR):Bs:=
 if f.kind=1 then py f.op
 else if f.kind=2 then cZ f.res.code++nJ (sB f.res.value)++cZ f.res.version++cZ f.res.at_
 else if f.kind=4 then cZ f.entry.index++cZ f.entry.aF++cZ f.entry.seq++py f.entry.op
 else if f.kind=8 then wB ⟨f.dV,ms,f.drain⟩
 else []
def uj(f:ay)(ms:List aR):Bs:=(cZ f.kind++(fT f.kind).flatMap (fun o=>cZ (iw f o)))++lU f ms
def qq(f:ay)(ms:List aR):Option Bs:=if mg f ms=true then (if 512<(uj f ms).length then none else some (uj f ms)) else none
def gX:Nat→Bs→Option (List Int×Bs)
 | 0,s=>some ([],s)
 | k+1,s=>match cw s with
  | none=>none
  | some (n,r)=>match gX k r with
   | none=>none
   | some (l,r)=>some (n::l,r)
def rf(s:Bs):Option bB:=match cw s with
 | none=>none
 | some (k,r)=>match jf r with
  | none=>none
  | some (key,r)=>match (if mS k then jf r else some ([],r)) with
   | none=>none
   | some (val,r)=>match (if k=4 then cw r else some (0,r)) with
    | none=>none
    | some (ver,r)=>if r=[]∧dD ⟨k,bT key,bT val,ver⟩=0 then some ⟨k,bT key,bT val,ver⟩ else none
def pw:List Int→List aR
 | a::b::l=>(a,b)::pw l
 | _=>[]
def jV(s:Bs):Option aW:=match cw s with
 | none=>none
 | some (ep,r)=>match cw r with
  | none=>none
  | some (sz,r)=>if sz<1∨6<sz then none else match gX (2*sz.toNat) r with
   | none=>none
   | some (l,r)=>match cw r with
    | none=>none
    | some (dr,r)=>if r=[]∧e_ ⟨ep,pw l,dr⟩=0 then some ⟨ep,pw l,dr⟩ else none
def oV(f:ay):List Nat→List Int→ay
 | o::os,n::ns=>oV (uq f o n) os ns
 | _,_=>f
def nC(f:ay)(s:Bs):Option (ay×List aR):=
 if f.kind=1 then match rf s with
  | none=>none
  | some o=>some ({ f with op:=o },[])
 else if f.kind=2 then match cw s with
  | none=>none
  | some (code,r)=>match jf r with
   | none=>none
   | some (val,r)=>match cw r with
    | none=>none
    | some (ver,r)=>match cw r with
     | none=>none
     | some (at_,r)=>if r=[] then some ({ f with res:=⟨code,bT val,ver,at_⟩ },[]) else none
 else if f.kind=4 then match cw s with
  | none=>none
  | some (i,r)=>match cw r with
   | none=>none
   | some (c,r)=>match cw r with
    | none=>none
    | some (q,r)=>match rf r with
     | none=>none
     | some o=>some ({ f with entry:=⟨i,c,q,o⟩ },[])
 else if f.kind=8 then match jV s with
  | none=>none
  | some c=>some ({ f with dV:=c.ar,drain:=c.drain },c.ms)
 else if s=[] then some (f,[]) else none
def getM(s:Bs):Option (ay×List aR):=if 512<s.length then none else match cw s with
 | none=>none
 | some (k,r)=>match gX (fT k).length r with
  | none=>none
  | some (l,r)=>match nC (oV { ay.zero with kind:=k } (fT k) l) r with
   | none=>none
   | some (f,ms)=>if mg f ms=true then some (f,ms) else none
end Cl
end Go.Proofs.YtkgfhabealjjpaaGreat
