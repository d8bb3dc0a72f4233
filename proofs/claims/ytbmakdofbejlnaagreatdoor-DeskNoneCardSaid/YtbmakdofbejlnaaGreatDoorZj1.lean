/- Texts of the proof, put together and shortened. No condition. -/
import Derived.Test.YtbmakdofbejlnaaGreatDoorZj0
set_option maxRecDepth 100000
set_option maxHeartbeats 16000000
set_option linter.unusedVariables false
set_option linter.unusedSectionVars false
set_option linter.unusedSimpArgs false
namespace Go.Proofs.YtbmakdofbejlnaaGreatDoor
variable (Fr : Nat → Prop) (w : World)
namespace Vg
open Go
abbrev Env:=List (Nat×Value)
def look:Env→Nat→Option Value
 | [],_=>none
 | (s,v)::r,t=>bif Nat.beq s t then some v else look r t
def ev(e:Env):Operand→Option Value
 | .tmp t=>look e t
 | .const v=>some v
 | .global g=>some (.pointer (some ⟨g,0,none⟩))
 | .func f=>some (.func (.func f) #[] #[])
def dZ(e:Env):List Operand→Option (List Value)
 | []=>some []
 | x::r=>match ev e x,dZ e r with
  | some v,some vs=>some (v::vs)
  | _,_=>none
structure cW(n:Nat)(a:Act)(e:Env):Prop where
 size:a.tmps.size=n
 defers:a.defers=[]
 at_:∀t v,look e t=some v→a.tmps.getD t undef=v
theorem cW.put{n:Nat}{a:Act}{e:Env}(h:cW n a e){d:Nat}(hd:Nat.blt d n=true)(v:Value):cW n (a.put (some d) v) ((d,v)::e):=by
 have hd':d<a.tmps.size:=by rw[h.size];exact Nat.blt_eq.mp hd
 refine⟨by simp[Act.put,h.size],by simp[Act.put,h.defers],fun t u ht=>?_⟩
 simp only[look] at ht
 cases hb:Nat.beq d t
 ·rw[hb] at ht
  have hne:d≠t:=Nat.ne_of_beq_eq_false hb
  have:=h.at_ t u ht
  simpa[Act.put,xE hne] using this
 ·rw[hb] at ht
  have he:d=t:=mR hb
  subst he
  simp only[cond_true,Option.some.injEq] at ht
  subst ht
  simp[Act.put,hd']
def bI(dst:Option Tmp)(v:Value)(e:Env):Env:=
 match dst with
 | some d=>(d,v)::e
 | none=>e
def b9(n:Nat):Option Tmp→Bool
 | some d=>Nat.blt d n
 | none=>true
theorem cW.bI{n:Nat}{a:Act}{e:Env}(h:cW n a e){dst:Option Tmp}(hd:b9 n dst=true)(v:Value):cW n (a.put dst v) (bI dst v e):=by
 cases dst with
 | none=>exact h
 | some d=>exact h.put hd v
def Sub(e' e:Env):Prop:=∀t v,look e' t=some v→look e t=some v
theorem Sub.nil(e:Env):Sub [] e:=fun _ _ h=>by cases h
theorem Sub.cons{e' e:Env}{t:Nat}{v:Value}(h:look e t=some v)(hs:Sub e' e):Sub ((t,v)::e') e:=fun s u hu=>by
 simp only[look] at hu
 cases hb:Nat.beq t s
 ·rw[hb] at hu;exact hs s u hu
 ·rw[hb] at hu
  have he:t=s:=mR hb
  subst he
  simp only[cond_true,Option.some.injEq] at hu
  subst hu;exact h
theorem aF{e' e:Env}(h:Sub e' e:=by(repeat(first|exact Sub.nil _|refine Sub.cons rfl ?_))):Sub e' e:=h
theorem Sub.int{e' e:Env}{t:Nat}{k:IntKind}{a b:Int}(h:look e t=some (.int k a))(hab:a=b)(hs:Sub e' e):Sub ((t,.int k b)::e') e:=by
 subst hab;exact Sub.cons h hs
theorem cW.sub{n:Nat}{a:Act}{e e':Env}(h:cW n a e)(hs:Sub e' e):cW n a e':=⟨h.size,h.defers,fun t v ht=>h.at_ t v (hs t v ht)⟩
theorem cW.ev{n:Nat}{a:Act}{e:Env}(h:cW n a e){x:Operand}{v:Value}(hx:ev e x=some v):a.eval x=v:=by
 cases x with
 | tmp t=>exact h.at_ t v hx
 | const u=>simpa[Vg.ev,Act.eval] using hx
 | global g=>simpa[Vg.ev,Act.eval] using hx
 | func f=>simpa[Vg.ev,Act.eval] using hx
theorem cW.dZ{n:Nat}{a:Act}{e:Env}(h:cW n a e):∀{xs:List Operand} {vs:List Value},dZ e xs=some vs→xs.map a.eval=vs
 | [],vs,hx=>by simpa[Vg.dZ] using hx
 | x::r,vs,hx=>by
  simp only[Vg.dZ] at hx
  split at hx
  ·rename_i v us hv hus
   simp only[Option.some.injEq] at hx
   subst hx
   simp[h.ev hv,cW.dZ h hus]
  ·cases hx
structure HP where
 sat:List Nat→World→Prop
 loc:∀ids w w',(∀b∈ids,w'.heap[b]?=w.heap[b]?)→sat ids w→sat ids w'
def df:List HP→List Nat→World→Prop
 | [],F,_=>F=[]
 | H::L,F,w=>∃i G,F=i++G∧H.sat i w∧df L G w
theorem df.loc:∀{L:List HP} {F:List Nat} {w w':World},(∀b∈F,w'.heap[b]?=w.heap[b]?)→df L F w→df L F w'
 | [],_,_,_,_,h=>h
 | H::L,F,w,w',hb,⟨i,G,hF,hi,hG⟩=>by
  subst hF
  exact⟨i,G,Z,H.loc i w w' (fun b hb'=>hb b (by simp[hb'])) hi,df.loc (fun b hb'=>hb b (by simp[hb'])) hG⟩
theorem df.append:∀{L M:List HP} {F:List Nat} {w:World},df (L++M) F w↔∃G K,F=G++K∧df L G w∧df M K w
 | [],M,F,w=>by
  constructor
  ·intro h;exact⟨[],F,rfl,rfl,h⟩
  ·rintro⟨G,K,rfl,hG,hK⟩;cases hG;exact hK
 | H::L,M,F,w=>by
  simp only[tI,df]
  constructor
  ·rintro⟨i,G,rfl,hi,hG⟩
   obtain⟨G1,K,rfl,h1,h2⟩:=df.append.1 hG
   exact⟨i++G1,K,by simp,⟨i,G1,Z,hi,h1⟩,h2⟩
  ·rintro⟨_,K,rfl,⟨i,G,rfl,hi,hG⟩,hK⟩
   exact⟨i,G++K,by simp,hi,df.append.2 ⟨G,K,Z,hG,hK⟩⟩
theorem df.perm{L M:List HP}(hp:L.Perm M):∀{F:List Nat} {w:World},df L F w→∃G,F.Perm G∧df M G w:=by
 induction hp with
 | nil=>intro F w h;exact⟨F,.refl _,h⟩
 | cons x _ ih=>
  rintro F w ⟨i,G,rfl,hi,hG⟩
  obtain⟨K,hK,hs⟩:=ih hG
  exact⟨i++K,hK.append_left i,i,K,Z,hi,hs⟩
 | swap x y l=>
  rintro F w ⟨i,G,rfl,hi,j,K,rfl,hj,hK⟩
  refine⟨j++(i++K),?_,j,i++K,Z,hj,i,K,Z,hi,hK⟩
  rw[←eV,←eV]
  exact List.Perm.append_right K hU
 | trans _ _ ih1 ih2=>
  intro F w h
  obtain⟨G,hG,h1⟩:=ih1 h
  obtain⟨K,hK,h2⟩:=ih2 h1
  exact⟨K,hG.trans hK,h2⟩
def Sat(Fr:Nat→Prop)(L:List HP)(w:World):Prop:=∃F,df L F w∧F.Nodup∧∀b∈F,¬Fr b∧b<w.heap.size
theorem Sat.perm{Fr:Nat→Prop}{L M:List HP}{w:World}(hp:L.Perm M)(h:Sat Fr L w):Sat Fr M w:=by
 obtain⟨F,hs,hn,hb⟩:=h
 obtain⟨G,hG,hs'⟩:=hs.perm hp
 exact⟨G,hs',hG.nodup_iff.1 hn,fun b h=>hb b (hG.mem_iff.2 h)⟩
theorem Sat.nil{Fr:Nat→Prop}{w:World}:Sat Fr [] w:=⟨[],rfl,.nil,fun _ h=>by cases h⟩
theorem Sat.tail{Fr:Nat→Prop}{H:HP}{L:List HP}{w:World}(h:Sat Fr (H::L) w):Sat Fr L w:=by
 obtain⟨F,⟨i,G,rfl,_,hG⟩,hn,hb⟩:=h
 exact⟨G,hG,(gy.1 hn).2.1,fun b h=>hb b ya⟩
abbrev mn(_ _:World):Prop:=(0:Nat)≤0
theorem mn.up{w w':World}(_:w.drawn≤w'.drawn):mn w w':=NR 0
theorem mn.any{w w':World}:mn w w':=NR 0
structure cB(Fr:Nat→Prop)(w w':World):Prop where
 os:w'.os=w.os
 tape:w'.tape=w.tape
 output:w'.output=w.output
 size:w.heap.size≤w'.heap.size
 block:∀b,Fr b→w'.heap[b]?=w.heap[b]?
 drawn:mn w w'
theorem cB.refl:cB Fr w w:=⟨rfl,rfl,rfl,NR _,fun _ _=>rfl,NR _⟩
theorem cB.trans{Fr:Nat→Prop}{a b c:World}(h:cB Fr a b)(k:cB Fr b c):cB Fr a c:=
 ⟨k.os.trans h.os,k.tape.trans h.tape,k.output.trans h.output,p6 h.size k.size,fun b hb=>(k.block b hb).trans (h.block b hb),p6 h.drawn k.drawn⟩
theorem cB.mono{Fr Fr':Nat→Prop}{a b:World}(h:cB Fr' a b)(hf:∀x,Fr x→Fr' x):cB Fr a b:=⟨h.os,h.tape,h.output,h.size,fun x hx=>h.block x (hf x hx),h.drawn⟩
theorem cB.drew:cB Fr w { w with drawn:=w.drawn+1 }:=⟨rfl,rfl,rfl,NR _,fun _ _=>rfl,mn.up (Nat.le_succ _)⟩
theorem cB.alloc{Fr:Nat→Prop}{w:World}(hf:∀b,Fr b→b<w.heap.size)(o:Obj):cB Fr w (w.alloc o):=
 ⟨rfl,rfl,rfl,by simp,fun b hb=>heap_alloc_old w o (h:=hf b hb),NR _⟩
theorem cB.below{w w':World}(h:cB (fun b=>b<w.heap.size) w w'):RowKit.Below w.heap.size w w':=⟨h.os,h.tape,h.output,h.size,h.block⟩
theorem Sat.heap{Fr:Nat→Prop}{L:List HP}{w w':World}(hh:w'.heap=w.heap)(h:Sat Fr L w):Sat Fr L w':=by
 obtain⟨F,hs,hn,hb⟩:=h
 exact⟨F,hs.loc (fun b _=>by rw[hh]),hn,fun b h=>by rw[hh];exact hb b h⟩
theorem Sat.alloc{Fr:Nat→Prop}{L:List HP}{w:World}(hf:∀b,Fr b→b<w.heap.size)(o:Obj)(H:HP)(hH:H.sat [w.heap.size] (w.alloc o))(h:Sat Fr L w):Sat Fr (H::L) (w.alloc o):=by
 obtain⟨F,hs,hn,hb⟩:=h
 refine⟨[w.heap.size]++F,⟨_,F,Z,hH,hs.loc fun b hb'=>heap_alloc_old w o (h:=(hb b hb').2)⟩,?_,?_⟩
 ·rw[gy]
  refine⟨by simp,hn,fun x hx y hy he=>?_⟩
  simp at hx;subst hx;subst he
  exact Nat.lt_irrefl _ (hb _ hy).2
 ·intro b hb'
  simp only[fL,mi] at hb'
  rcases hb' with rfl | hb'
  ·exact⟨fun h=>Nat.lt_irrefl _ (hf _ h),by simp⟩
  ·exact⟨(hb b hb').1,by have:=(hb b hb').2;simp;omega⟩
def pt(b:Nat)(cs:List Value)(t:TypeId):HP:=
 ⟨fun ids w=>ids=[b]∧w.heap[b]?=some (.cells cs.toArray t (0,0)),fun _ _ _ h hs=>⟨hs.1,(h b yb).trans hs.2⟩⟩
def jb(φ:Prop):HP:=⟨fun ids _=>ids=[]∧φ,fun _ _ _ _ h=>h⟩
def hex{α:Type}(f:α→HP):HP:=⟨fun ids w=>∃x,(f x).sat ids w,fun ids w w' hb ⟨x,hx⟩=>⟨x,(f x).loc ids w w' hb hx⟩⟩
def b_(L:List HP):HP:=⟨fun ids w=>df L ids w,fun _ _ _ hb h=>h.loc hb⟩
inductive xT where
 | int (k:IntKind) | bool | string | ptr (e:Nat) | slice (e:Nat) | array (len e:Nat) | struct (fs:List (Nat×Nat)) | other
structure TI where
 ax:xT
 size:Nat
 bytes:Nat
 zero:Value
 zs:List Value:=[zero]
def xT.agg:xT→Bool
 | .array _ _=>true
 | .struct _=>true
 | _=>false
def l9(P:Program)(t:Nat):Option xT:=
 match P.underlying t with
 | some (.int k)=>some (.int k)
 | some .bool=>some .bool
 | some .string=>some .string
 | some (.pointer e)=>some (.ptr e)
 | some (.slice e)=>some (.slice e)
 | some (.array n e)=>some (.array n e)
 | some (.struct fs)=>some (.struct (fs.toList.map fun f=>(f.offset,((P.info? f.type).map (·.size)).getD 0)))
 | some _=>some .other
 | none=>none
structure aE(P:Program)(t:Nat)(ti:TI):Prop where
 ax:l9 P t=some ti.ax
 info:(P.info? t).map (fun i=>(i.size,i.bytes,i.zero))=some (ti.size,ti.bytes,some ti.zero)
 zero:ti.zero.cells=ti.zs.toArray
 len:ti.zs.length=ti.size
abbrev kC:=List (Nat×TI)
def nS(P:Program)(tab:kC):Prop:=∀p∈tab,aE P p.1 p.2
def bD:kC→Nat→Option TI
 | [],_=>none
 | (s,v)::r,t=>bif Nat.beq s t then some v else bD r t
theorem nS.look{P:Program}:∀{tab:kC},nS P tab→∀{t:Nat} {ti:TI},bD tab t=some ti→aE P t ti
 | [],_,_,_,h=>by cases h
 | (s,v)::r,ok,t,ti,h=>by
  simp only[bD] at h
  cases hb:Nat.beq s t
  ·rw[hb] at h;exact nS.look (tab:=r) (fun p hp=>ok p (lH _ hp)) h
  ·rw[hb] at h
   have he:s=t:=mR hb
   subst he
   simp only[cond_true,Option.some.injEq] at h
   subst h
   exact ok _ (q4 ..)
structure Cx where
 P:Program
 tab:kC
 ok:nS P tab
 n:Nat
 Fr:Nat→Prop
 w0:World
structure St(X:Cx)(L:List HP)(w:World):Prop where
 sat:Sat X.Fr L w
 bL:cB X.Fr X.w0 w
 low:∀b,X.Fr b→b<X.w0.heap.size
theorem St.kl{X:Cx}{L:List HP}{w:World}(h:St X L w):∀b,X.Fr b→b<w.heap.size:=fun b hb=>vv (h.low b hb) h.bL.size
theorem St.heap{X:Cx}{L:List HP}{w w':World}(h:St X L w)(hh:w'.heap=w.heap)(ho:w'.os=w.os)(ht:w'.tape=w.tape)(hu:w'.output=w.output)(hd:mn w w'):St X L w':=
 ⟨h.sat.heap hh,⟨ho.trans h.bL.os,ht.trans h.bL.tape,hu.trans h.bL.output,by rw[hh];exact h.bL.size,fun b hb=>by rw[hh];exact h.bL.block b hb,p6 h.bL.drawn hd⟩,h.low⟩
theorem St.drew{X:Cx}{L:List HP}{w:World}(h:St X L w):St X L { w with drawn:=w.drawn+1 }:=h.heap rfl rfl rfl rfl (mn.up (Nat.le_succ _))
def cI(X:Cx)(L M:List HP):Prop:=∀w,St X L w→St X M w
abbrev GS:=List (Nat×Bool)
def od:GS→Nat→Option Bool
 | [],_=>none
 | (s,v)::r,t=>bif Nat.beq s t then some v else od r t
def lK(G:GS)(a:Act):Prop:=∀t b,od G t=some b→a.tmps[t]?=some (.bool b)
def bP(G:GS):Option Tmp→Bool
 | none=>true
 | some d=>match od G d with
  | none=>true
  | some _=>false
theorem lK.nil(a:Act):lK [] a:=fun _ _ h=>by cases h
theorem lK.put{G:GS}{a:Act}(h:lK G a){dst:Option Tmp}(hf:bP G dst=true)(v:Value):lK G (a.put dst v):=fun t b ht=>by
 cases dst with
 | none=>exact h t b ht
 | some d=>
  have hne:d≠t:=fun he=>by subst he;simp[bP,ht] at hf
  simp only[Act.put]
  rw[xE hne]
  exact h t b ht
def gB:Bool→Bool→Bool
 | true,true=>true
 | false,false=>true
 | _,_=>false
def bN(ops:Array Oper)(G:GS):Option (Nat×Bool)→Option Bool
 | none=>some true
 | some (j,want)=>match ops.toList[j]? with
  | some oj=>match oj.dst with
   | some d=>match od G d with
    | some b=>some (gB b want)
    | none=>none
   | none=>none
  | none=>none
theorem nh{ops:Array Oper}{G:GS}{a:Act}{o:Oper}{b:Bool}(hG:lK G a)(h:bN ops G o.guard=some b):Region.wanted o (yielded ops a.tmps)=b:=by
 unfold Region.wanted
 cases hg:o.guard with
 | none=>rw[hg] at h;simpa[bN] using h
 | some jw=>
  obtain⟨j,want⟩:=jw
  rw[hg] at h
  simp only[bN] at h
  cases hj:ops.toList[j]? with
  | none=>rw[hj] at h;cases h
  | some oj=>
   rw[hj] at h
   cases hd:oj.dst with
   | none=>simp[hd] at h
   | some d=>
    simp only[hd] at h
    cases hl:od G d with
    | none=>rw[hl] at h;cases h
    | some c=>
     rw[hl] at h
     have hy:yielded ops a.tmps j=some c:=by
      unfold yielded
      have hj':ops[j]?=some oj:=by simpa using hj
      simp[hj',hd,hG d c hl]
     simp only[hy]
     cases c<;>cases want<;>simp_all[gB]
def wR(ro:Option Nat):Fence:={ Fence.wide with round:=ro }
def VC(X:Cx)(c:Code)(e:Env)(L:List HP)(Q:Exit→Env→List HP→Prop):Prop:=
 ∀ro a w,cW X.n a e→St X L w→c.wpIn (wR ro) 0 X.P (fun x a' w'=>∃e' L',cW X.n a' e'∧St X L' w'∧Q x e' L') a w
def VO(X:Cx)(ops:Array Oper)(G:GS)(l:List Oper)(e:Env)(L:List HP)(K:Env→List HP→Prop):Prop:=
 ∀(Q':Exit→Act→World→Prop),(∀e' L' a' w',cW X.n a' e'→St X L' w'→K e' L'→Q' .normal a' w') →
  ∀ro a w,cW X.n a e→lK G a→St X L w→wpListIn (wR ro) 0 X.P ops Q' l a w
def lJ(P:Program)(f:FuncId):Prop:=∃fn,P.funcs[f]?=some fn∧fn.body.isNone=false∧(fn.name == "runtime.NumGoroutine")=false
structure aq(P:Program)(f:FuncId)(args:List Value)(Fr:Nat→Prop)(w:World)(L:List HP)(R:Value→List HP→Prop):Prop where
 yK:lJ P f
 calls:(∀b,Fr b→b<w.heap.size)→Sat Fr L w→Calls P f args.toArray w fun e w'=>∃v L',e=.returned v∧R v L'∧Sat Fr L' w'∧cB Fr w w'
def aG(X:Cx)(op:Op)(e:Env)(L:List HP)(M:Value→List HP→Prop):Prop:=
 ∀a w,cW X.n a e→St X L w→∀dst ty pos after guard,
  (∃v w' L',(execOp a.eval ⟨dst,op,ty,pos,after,guard⟩).run X.P w=.ok (.value v) w'∧M v L'∧St X L' w') ∨
  (∃w' L',(execOp a.eval ⟨dst,op,ty,pos,after,guard⟩).run X.P w=.ok .skip w'∧M undef L'∧St X L' w') ∨
  (∃f args,(execOp a.eval ⟨dst,op,ty,pos,after,guard⟩).run X.P w=.ok (.enter f args) w ∧
   Calls X.P f args w fun en w'=>∃v L',en=.returned v∧M v L'∧St X L' w')
theorem Rk{X:Cx}{op:Op}{e:Env}{L:List HP}{M:Value→List HP→Prop}(h:aG X op e L M){a:Act}{w:World}(ha:cW X.n a e)(hw:St X L w):∀c,op≠.defer c:=by
 rintro c rfl
 have key:∀dst ty pos after guard x w',(execOp a.eval ⟨dst,.defer c,ty,pos,after,guard⟩).run X.P w=.ok x w'→∃d,x=.defer d:=fun dst ty pos after guard x w' hr=>by
  have e:execOp a.eval ⟨dst,.defer c,ty,pos,after,guard⟩=(do pure (.defer (←resolve a.eval c ty))):=rfl
  rw[e,Sem.run_bind] at hr
  cases h2:(resolve a.eval c ty).run X.P w with
  | ok d w2=>rw[h2] at hr;cases hr;exact⟨d,rfl⟩
  | halt y w2=>rw[h2] at hr;cases hr
 rcases h a w ha hw none 0 "" #[] none with ⟨v,w',L',hr,-⟩ | ⟨w',L',hr,-⟩ | ⟨f,args,hr,-⟩
 ·obtain⟨d,h⟩:=key _ _ _ _ _ _ _ hr;cases h
 ·obtain⟨d,h⟩:=key _ _ _ _ _ _ _ hr;cases h
 ·obtain⟨d,h⟩:=key _ _ _ _ _ _ _ hr;cases h
theorem Ed(ro:Option Nat)(ρ:Operand→Value)(o:Oper)(h:∀c,o.op≠.defer c):o.semAt (wR ro).round ρ=execOp ρ o:=by
 cases ro with
 | none=>rfl
 | some l=>exact Oper.semAt_some l ρ o h
theorem NA{ro:Option Nat}{n:Nat}{P:Program}{f:FuncId}{args:Array Value}{w:World}{R:Ending→World→Prop}(h:Calls P f args w R):CallsIn (wR ro) n P f args w R:=
 show CallsIn Fence.wide n P f args w R from callsIn_wide.2 h
theorem aG.wp{X:Cx}{o:Oper}{e:Env}{L:List HP}{M:Value→List HP→Prop}(h:aG X o.op e L M){a:Act}{w:World}(ha:cW X.n a e)(hw:St X L w){ro:Option Nat}
  {next:Act→World→Prop} {Q:Exit→Act→World→Prop} (hn:∀v L' w',M v L'→St X L' w'→next (a.put o.dst v) w'):o.wpIn (wR ro) 0 X.P a w next Q:=by
 refine⟨fun _ _=>trivial,?_⟩
 rw[Ed ro _ _ (Rk h ha hw)]
 rcases h a w ha hw o.dst o.type o.pos o.after o.guard with ⟨v,w',L',hr,hm,hs⟩ | ⟨w',L',hr,hm,hs⟩ | ⟨f,args,hr,hc⟩
 ·rw[hr];exact hn v L' w' hm hs
 ·rw[hr];exact hn undef L' w' hm hs
 ·rw[hr]
  refine⟨(fun h=>by cases h),NA (Calls.mono hc fun en w' ⟨v,L',he,hm,hs⟩=>?_)⟩
  subst he
  exact hn v L' w' hm hs
theorem VO.op{X:Cx}{ops:Array Oper}{G:GS}{o:Oper}{l:List Oper}{e:Env}{L:List HP}{K:Env→List HP→Prop}{M:Value→List HP→Prop}
  (hg:bN ops G o.guard=some true) (hd:b9 X.n o.dst=true) (hf:bP G o.dst=true) (h:aG X o.op e L M)
  (hk:∀v L',M v L'→VO X ops G l (bI o.dst v e) L' K):VO X ops G (o::l) e L K:=by
 intro Q' hQ ro a w ha hG hw
 unfold wpListIn
 rw[if_pos (nh hG hg)]
 refine h.wp ha hw fun v L' w' hm hs=>?_
 exact hk v L' hm Q' hQ _ _ _ (ha.bI hd v) (hG.put hf v) hs
theorem VO.off{X:Cx}{ops:Array Oper}{G:GS}{o:Oper}{l:List Oper}{e:Env}{L:List HP}{K:Env→List HP→Prop}
  (hg:bN ops G o.guard=some false) (hd:b9 X.n o.dst=true) (hf:bP G o.dst=true)
  (hk:VO X ops G l (bI o.dst undef e) L K):VO X ops G (o::l) e L K:=by
 intro Q' hQ ro a w ha hG hw
 unfold wpListIn
 rw[if_neg (by rw[nh hG hg];simp)]
 exact Kt
theorem VO.nil{X:Cx}{ops:Array Oper}{G:GS}{e:Env}{L:List HP}{K:Env→List HP→Prop}(h:K e L):VO X ops G [] e L K:=
 fun _ hQ _ _ _ ha _ hw=>hQ _ _ _ _ ha hw h
theorem VO.split{X:Cx}{ops:Array Oper}{G:GS}{l:List Oper}{e:Env}{L:List HP}{K:Env→List HP→Prop}(d:Nat){b:Bool}(hb:look e d=some (.bool b))(hd:Nat.blt d X.n=true)
  (ht:b=true→VO X ops ((d,true)::G) l ((d,.bool true)::e) L K) (hf:b=false→VO X ops ((d,false)::G) l ((d,.bool false)::e) L K):VO X ops G l e L K:=by
 intro Q' hQ ro a w ha hG hw
 have hs:a.tmps[d]?=some (.bool b):=by
  have:=ha.at_ d _ hb
  have hlt:d<a.tmps.size:=by rw[ha.size];exact Nat.blt_eq.mp hd
  simpa[hlt] using this
 have key:∀c,b=c→cW X.n a ((d,.bool c)::e)∧lK ((d,c)::G) a:=fun c hc=>by
  subst hc
  refine⟨⟨ha.size,ha.defers,fun t u ht=>?_⟩,fun t u ht=>?_⟩
  ·simp only[look] at ht
   cases hq:Nat.beq d t
   ·rw[hq] at ht;exact ha.at_ t u ht
   ·rw[hq] at ht
    have:=mR hq
    subst this
    simp only[cond_true,Option.some.injEq] at ht
    subst ht;exact ha.at_ _ _ hb
  ·simp only[od] at ht
   cases hq:Nat.beq d t
   ·rw[hq] at ht;exact hG t u ht
   ·rw[hq] at ht
    have:=mR hq
    subst this
    simp only[cond_true,Option.some.injEq] at ht
    subst ht;exact hs
 cases b
 ·exact hf Z Q' hQ ro a w (key _ Z).1 (key _ Z).2 hw
 ·exact ht Z Q' hQ ro a w (key _ Z).1 (key _ Z).2 hw
theorem VO.ah{X:Cx}{ops:Array Oper}{G:GS}{l:List Oper}{e:Env}{L L':List HP}{K:Env→List HP→Prop}(hs:cI X L L')(h:VO X ops G l e L' K):VO X ops G l e L K:=
 fun Q' hQ ro a w ha hG hw=>h Q' hQ ro a w ha hG (hs w hw)
theorem VC.mono{X:Cx}{c:Code}{e:Env}{L:List HP}{Q Q':Exit→Env→List HP→Prop}(h:VC X c e L Q)(hq:∀x e L,Q x e L→Q' x e L):VC X c e L Q':=
 fun ro a w ha hw=>wpIn_mono (h ro a w ha hw) fun _ _ _ ⟨e',L',h1,h2,h3⟩=>⟨e',L',h1,h2,hq _ _ _ h3⟩
theorem VC.sub{X:Cx}{c:Code}{e e':Env}{L:List HP}{Q:Exit→Env→List HP→Prop}(hs:Sub e' e)(h:VC X c e' L Q):VC X c e L Q:=
 fun ro a w ha hw=>h ro a w (ha.sub hs) hw
theorem VC.ah{X:Cx}{c:Code}{e:Env}{L L':List HP}{Q:Exit→Env→List HP→Prop}(hs:cI X L L')(h:VC X c e L' Q):VC X c e L Q:=
 fun ro a w ha hw=>h ro a w ha (hs w hw)
def JG(X:Cx)(c:Code)(Q:Exit→Env→List HP→Prop):Exit→Env→List HP→Prop
 | .normal,e,L=>VC X c e L Q
 | x,e,L=>Q x e L
def Gw(id:Nat)(Q:Exit→Env→List HP→Prop):Exit→Env→List HP→Prop
 | .exit j,e,L=>bif Nat.beq j id then Q .normal e L else Q (.exit j) e L
 | x,e,L=>Q x e L
theorem VC.skip{X:Cx}{e:Env}{L:List HP}{Q:Exit→Env→List HP→Prop}(h:Q .normal e L):VC X .skip e L Q:=fun _ _ _ ha hw=>wpIn_skip ⟨e,L,ha,hw,h⟩
theorem VC.label{X:Cx}{l:Nat}{e:Env}{L:List HP}{Q:Exit→Env→List HP→Prop}(h:Q .normal e L):VC X (.label l) e L Q:=fun _ _ _ ha hw=>wpIn_label ⟨e,L,ha,hw,h⟩
theorem VC.exit{X:Cx}{id:Nat}{e:Env}{L:List HP}{Q:Exit→Env→List HP→Prop}(h:Q (.exit id) e L):VC X (.exit id) e L Q:=fun _ _ _ ha hw=>wpIn_exit ⟨e,L,ha,hw,h⟩
theorem VC.ret{X:Cx}{e:Env}{L:List HP}{Q:Exit→Env→List HP→Prop}(h:Q .ret e L):VC X .ret e L Q:=fun _ _ _ ha hw=>wpIn_ret ⟨e,L,ha,hw,h⟩
theorem VC.seq{X:Cx}{b c:Code}{e:Env}{L:List HP}{Q:Exit→Env→List HP→Prop}(h:VC X b e L (JG X c Q)):VC X (.seq b c) e L Q:=by
 intro ro a w ha hw
 refine wpIn_seq (wpIn_mono (h ro a w ha hw) fun x a' w' ⟨e',L',h1,h2,h3⟩=>?_)
 cases x with
 | normal=>exact h3 ro a' w' h1 h2
 | exit id=>exact⟨e',L',h1,h2,h3⟩
 | goto l=>exact⟨e',L',h1,h2,h3⟩
 | ret=>exact⟨e',L',h1,h2,h3⟩
 | panic ch=>exact⟨e',L',h1,h2,h3⟩
 | outgrown=>exact⟨e',L',h1,h2,h3⟩
theorem VC.cond{X:Cx}{x:Operand}{b c:Code}{e:Env}{L:List HP}{Q:Exit→Env→List HP→Prop}{t:Bool}(hx:ev e x=some (.bool t))
  (ht:t=true→VC X b e L Q) (hf:t=false→VC X c e L Q):VC X (.cond x b c) e L Q:=
 fun ro a w ha hw=>wpIn_cond_split (ha.ev hx) (fun h=>ht h ro a w ha hw) (fun h=>hf h ro a w ha hw)
theorem VC.block{X:Cx}{id:Nat}{c:Code}{e:Env}{L:List HP}{Q:Exit→Env→List HP→Prop}(h:VC X c e L (Gw id Q)):VC X (.block id c) e L Q:=by
 intro ro a w ha hw
 refine wpIn_block (wpIn_mono (h ro a w ha hw) fun x a' w' ⟨e',L',h1,h2,h3⟩=>?_)
 cases x with
 | exit j=>
  simp only[Exit.inBlock]
  simp only[Gw] at h3
  cases hb:Nat.beq j id
  ·rw[hb] at h3
   rw[if_neg (Nat.ne_of_beq_eq_false hb)]
   exact⟨e',L',h1,h2,h3⟩
  ·rw[hb] at h3
   rw[if_pos (mR hb)]
   exact⟨e',L',h1,h2,h3⟩
 | normal=>exact⟨e',L',h1,h2,h3⟩
 | goto l=>exact⟨e',L',h1,h2,h3⟩
 | ret=>exact⟨e',L',h1,h2,h3⟩
 | panic ch=>exact⟨e',L',h1,h2,h3⟩
 | outgrown=>exact⟨e',L',h1,h2,h3⟩
theorem VC.region{X:Cx}{id:Nat}{l:List Oper}{e:Env}{L:List HP}{Q:Exit→Env→List HP→Prop}(h:VO X l.toArray [] l e L (Q .normal)):VC X (.region id l.toArray false) e L Q:=
 fun ro a w ha hw=>wpIn_region_lit (h _ (fun e' L' _ _ h1 h2 h3=>⟨e',L',h1,h2,h3⟩) ro a w ha (lK.nil a) hw)
def Qu(X:Cx){σ:Type}(E:σ→Env)(H:σ→List HP)(I:σ→Prop)(μ:σ→Nat)(s:σ)(Q:Exit→Env→List HP→Prop):Exit→Env→List HP→Prop
 | .normal,e,L=>∃s',I s'∧μ s'<μ s∧Sub (E s') e∧cI X L (H s')
 | x,e,L=>Q x e L
theorem VC.loop{X:Cx}{σ:Type}(E:σ→Env)(H:σ→List HP)(I:σ→Prop)(μ:σ→Nat)(s0:σ){c:Code}{e:Env}{L:List HP}{Q:Exit→Env→List HP→Prop}
  (h0:I s0) (he:Sub (E s0) e) (hl:cI X L (H s0)) (round:∀s,I s→VC X c (E s) (H s) (Qu X E H I μ s Q)):VC X (.loop c) e L Q:=by
 intro ro a w ha hw
 refine wpIn_loop_ghost (fun m a w=>∃s,μ s=m∧I s∧cW X.n a (E s)∧St X (H s) w) (μ s0) ⟨s0,Z,h0,ha.sub he,hl _ hw⟩ ?_
 rintro m a w ⟨s,rfl,hI,ha,hw⟩
 refine wpIn_mono (round s hI ro a w ha hw) fun x a' w' ⟨e',L',h1,h2,h3⟩=>?_
 cases x with
 | normal=>
  obtain⟨s',hI',hlt,hE,hH⟩:=h3
  exact⟨μ s',hlt,s',Z,hI',h1.sub hE,hH _ h2⟩
 | exit id=>exact⟨e',L',h1,h2,h3⟩
 | goto l=>exact⟨e',L',h1,h2,h3⟩
 | ret=>exact⟨e',L',h1,h2,h3⟩
 | panic ch=>exact⟨e',L',h1,h2,h3⟩
 | outgrown=>exact⟨e',L',h1,h2,h3⟩
end Vg
namespace Vg
open Go
def zt:Env→Nat→(Value→Prop)→Prop→Prop
 | [],_,_,kf=>kf
 | (s,v)::r,t,k,kf=>bif Nat.beq s t then k v else zt r t k kf
theorem Ig{k:Value→Prop}{kf:Prop}:∀{e:Env} {t:Nat},zt e t k kf→(∃v,look e t=some v∧k v)∨kf
 | [],_,h=>.inr h
 | (s,v)::r,t,h=>by
  simp only[zt] at h
  simp only[look]
  cases hb:Nat.beq s t
  ·rw[hb] at h;exact Ig h
  ·rw[hb] at h;exact .inl ⟨v,rfl,h⟩
def kh(e:Env)(x:Operand)(k:Value→Prop)(kf:Prop):Prop:=
 match x with
 | .tmp t=>zt e t k kf
 | .const v=>k v
 | .global g=>k (.pointer (some ⟨g,0,none⟩))
 | .func f=>k (.func (.func f) #[] #[])
theorem kJ{e:Env}{x:Operand}{k:Value→Prop}{kf:Prop}(h:kh e x k kf):(∃v,ev e x=some v∧k v)∨kf:=by
 cases x with
 | tmp t=>exact Ig h
 | const v=>exact .inl ⟨v,rfl,h⟩
 | global g=>exact .inl ⟨_,rfl,h⟩
 | func f=>exact .inl ⟨_,rfl,h⟩
def r5:kC→Nat→(TI→Prop)→Prop→Prop
 | [],_,_,kf=>kf
 | (s,v)::r,t,k,kf=>bif Nat.beq s t then k v else r5 r t k kf
theorem uR{k:TI→Prop}{kf:Prop}:∀{e:kC} {t:Nat},r5 e t k kf→(∃v,bD e t=some v∧k v)∨kf
 | [],_,h=>.inr h
 | (s,v)::r,t,h=>by
  simp only[r5] at h
  simp only[bD]
  cases hb:Nat.beq s t
  ·rw[hb] at h;exact uR h
  ·rw[hb] at h;exact .inl ⟨v,rfl,h⟩
def sW{α:Type}:List α→Nat→(α→Prop)→Prop→Prop
 | [],_,_,kf=>kf
 | x::_,0,k,_=>k x
 | _::r,n+1,k,kf=>sW r n k kf
theorem ux{α:Type}{k:α→Prop}{kf:Prop}:∀{l:List α} {i:Nat},sW l i k kf→(∃v,l[i]?=some v∧k v)∨kf
 | [],_,h=>.inr h
 | x::r,0,h=>.inl ⟨x,rfl,h⟩
 | x::r,n+1,h=>by simpa using ux (l:=r) (i:=n) h
def eD(X:Cx)(op:Op)(e:Env)(v:Value):Prop:=
 ∀a,cW X.n a e→∀dst ty pos after guard w,(execOp a.eval ⟨dst,op,ty,pos,after,guard⟩).run X.P w=.ok (.value v) w
def GX(op:BinOp)(a b:Int)(k:Value→Prop)(kf:Prop):Prop:=
 match op with
 | .eql=>k (.bool (a == b))
 | .neq=>k (.bool (a != b))
 | .lss=>k (.bool (decide (a<b)))
 | .leq=>k (.bool (decide (a≤b)))
 | .gtr=>k (.bool (decide (b<a)))
 | .geq=>k (.bool (decide (b≤a)))
 | _=>kf
def C5:IntKind→IntKind→Bool
 | .i64,.i64=>true
 | .u8,.u8=>true
 | .u16,.u16=>true
 | .u64,.u64=>true
 | .i32,.i32=>true
 | .u32,.u32=>true
 | .i8,.i8=>true
 | .i16,.i16=>true
 | _,_=>false
theorem PM{a b:IntKind}(h:C5 a b=true):a=b:=by cases a<;>cases b<;>first | rfl | cases h
def BY(tab:kC)(op:BinOp)(ty:Nat)(x y:Value)(k:Value→Prop)(kf:Prop):Prop:=
 match x,y with
 | .int j a,.int i b=>bif C5 j i then GX op a b k kf else kf
 | .bool a,.bool b=>r5 tab ty (fun ti=>match ti.ax with
   | .bool=>match op with
    | .eql=>k (.bool (a == b))
    | .neq=>k (.bool (!(a == b)))
    | _=>kf
   | _=>kf) kf
 | .string a,.string b=>match op with
   | .eql=>k (.bool (a.toList == b.toList))
   | .neq=>k (.bool (!(a.toList == b.toList)))
   | _=>kf
 | .pointer a,.pointer none=>r5 tab ty (fun ti=>match ti.ax with
   | .ptr _=>match op,a with
    | .eql,none=>k (.bool true)
    | .eql,some _=>k (.bool false)
    | .neq,none=>k (.bool false)
    | .neq,some _=>k (.bool true)
    | _,_=>kf
   | _=>kf) kf
 | .slice a _ _,.slice none _ _=>r5 tab ty (fun ti=>match ti.ax with
   | .slice _=>match op,a with
    | .eql,none=>k (.bool true)
    | .eql,some _=>k (.bool false)
    | .neq,none=>k (.bool false)
    | .neq,some _=>k (.bool true)
    | _,_=>kf
   | _=>kf) kf
 | _,_=>kf
def uD(tab:kC)(e:Env)(op:Op)(k:Value→Prop)(kf:Prop):Prop:=
 match op with
 | .move x=>kh e x k kf
 | .assign x=>kh e x k kf
 | .nilCheck x=>kh e x (fun v=>match v with
   | .pointer (some a)=>k (.pointer (some a))
   | _=>kf) kf
 | .extract x i=>kh e x (fun v=>match v with
   | .tuple vs=>sW vs.toList i k kf
   | _=>kf) kf
 | .fieldAddr s x f=>kh e x (fun v=>match v with
   | .pointer (some ⟨b,off,none⟩)=>r5 tab s (fun ti=>match ti.ax with
    | .struct fs=>sW fs f (fun p=>match p with
     | (o,sz)=>bif Nat.beq sz 0 then kf else bif Nat.beq o 0 then k (.pointer (some ⟨b,off,none⟩)) else k (.pointer (some ⟨b,off+o,none⟩))) kf
    | _=>kf) kf
   | _=>kf) kf
 | .binOp op ty x y _=>kh e x (fun a=>kh e y (fun b=>BY tab op ty a b k kf) kf) kf
 | .unOp .not _ x=>kh e x (fun v=>match v with
   | .bool b=>k (.bool (!b))
   | _=>kf) kf
 | .pick c a b=>kh e c (fun v=>match v with
   | .bool true=>kh e a k kf
   | .bool false=>kh e b k kf
   | _=>kf) kf
 | .call ⟨.builtin .len,args,tys⟩=>match args.toList,tys.toList with
   | [x],[t]=>kh e x (fun v=>r5 tab t (fun ti=>match v with
    | .slice _ n _=>(match ti.ax with
     | .slice _=>k (.int .i64 n)
     | _=>kf)
    | .string s=>(match ti.ax with
     | .string=>k (.int .i64 s.size)
     | _=>kf)
    | _=>kf) kf) kf
   | _,_=>kf
 | .call ⟨.builtin .min,args,_⟩=>match args.toList with
   | [x,y]=>kh e x (fun u=>kh e y (fun v=>match u,v with
    | .int i a,.int _ b=>k (.int i (if b<a then b else a))
    | _,_=>kf) kf) kf
   | _=>kf
 | .call ⟨.builtin .max,args,_⟩=>match args.toList with
   | [x,y]=>kh e x (fun u=>kh e y (fun v=>match u,v with
    | .int i a,.int _ b=>k (.int i (if a<b then b else a))
    | _,_=>kf) kf) kf
   | _=>kf
 | _=>kf
section
variable {X:Cx} {e:Env} {k:Value→Prop} {kf:Prop}
theorem Sy{P:Program}{t:Nat}{ti:TI}(h:aE P t ti)(w:World):∃d,P.underlying t=some d∧(underlying t).run P w=.ok d w:=by
 have:=h.ax
 unfold l9 at this
 cases hd:P.underlying t with
 | none=>simp[hd] at this
 | some d=>exact⟨d,rfl,run_underlying hd w⟩
theorem jm{P:Program}{t:Nat}{i:TypeInfo}(hi:P.info? t=some i)(w:World):(sizeOf t).run P w=.ok i.size w:=by
 simp[sizeOf,typeInfo,hi]
theorem Sw{P:Program}{S f:Nat}{flds:Array Field}{fl:Field}{i:TypeInfo}(hund:P.underlying S=some (.struct flds))(hf:flds[f]?=some fl)(hi:P.info? fl.type=some i)(hz:i.size≠0)(b off:Nat)(w:World):
  (Instr.fieldAt S (.pointer (some ⟨b,off,none⟩)) f).run P w=.ok (.pointer (some ⟨b,off+fl.offset,none⟩)) w:=by
 simp[Instr.fieldAt,run_underlying hund,hf,Instr.sureAddr,fieldPlace,jm hi,hz,Addr.add_mid]
theorem run_equal_bool{P:Program}{ty:Nat}(hund:P.underlying ty=some .bool)(c d:Bool)(w:World):(Op.equal ty (.bool c) (.bool d)).run P w=.ok (c == d) w:=by
 unfold Op.equal
 show(Op.equalIn (9999+1) ty (.bool c) (.bool d)).run P w=_
 rw[Op.equalIn,Sem.run_bind,run_underlying hund]
 rfl
theorem Jw{P:Program}{ty el:Nat}(hund:P.underlying ty=some (.pointer el))(a:Option Addr)(w:World):(Op.equal ty (.pointer a) (.pointer none)).run P w=.ok a.isNone w:=by
 unfold Op.equal
 show(Op.equalIn (9999+1) ty (.pointer a) (.pointer none)).run P w=_
 rw[Op.equalIn,Sem.run_bind,run_underlying hund]
 cases a<;>rfl
theorem Jx{P:Program}{ty el:Nat}(hund:P.underlying ty=some (.slice el))(a:Option Addr)(n m i j:Nat)(w:World):(Op.equal ty (.slice a n m) (.slice none i j)).run P w=.ok a.isNone w:=by
 unfold Op.equal
 show(Op.equalIn (9999+1) ty (.slice a n m) (.slice none i j)).run P w=_
 rw[Op.equalIn,Sem.run_bind,run_underlying hund]
 cases a<;>rfl
theorem Ni{op:BinOp}{ty:Nat}{x y:Operand}{yt:Nat}{a b:Value}(hx:ev e x=some a)(hy:ev e y=some b)(h:BY X.tab op ty a b k kf):
    (∃v,eD X (.binOp op ty x y yt) e v∧k v)∨kf:=by
  have E:∀v,(∀w,(do eqGuard op ty x y a b;binOp op ty a b:Sem Value).run X.P w=.ok v w)→eD X (.binOp op ty x y yt) e v:=by
    intro v h a' ha dst t pos after guard w
    simp only[execOp,ha.ev hx,ha.ev hy]
    rw[Sem.run_bind,h w]
    rfl
  unfold BY at h
  split at h
  · rename_i j c i d
    cases hk:C5 j i
    · rw[hk] at h;exact .inr h
    · rw[hk] at h
      have:=PM hk
      subst this
      simp only[cond_true] at h
      unfold GX at h
      split at h
      all_goals first
        | exact .inr h
        | (refine .inl ⟨_,E _ (fun w=>?_),h⟩
           simp[eqGuard,binOp,Op.intCmp])
  · rename_i c d
    rcases uR h with ⟨ti,ht,h⟩ | h
    · split at h
      · rename_i hu
        have hund:X.P.underlying ty=some .bool:=by
          have:=(X.ok.look ht).ax
          rw[hu] at this
          unfold l9 at this
          split at this<;>simp_all
        split at h
        · refine .inl ⟨_,E _ (fun w=>?_),h⟩
          show((do pure (.bool (←Op.equal ty (.bool c) (.bool d))):Sem Value)).run X.P w=_
          rw[Sem.run_bind,run_equal_bool hund];rfl
        · refine .inl ⟨_,E _ (fun w=>?_),h⟩
          show((do pure (.bool (!(←Op.equal ty (.bool c) (.bool d)))):Sem Value)).run X.P w=_
          rw[Sem.run_bind,run_equal_bool hund];rfl
        · exact .inr h
      · exact .inr h
    · exact .inr h
  · split at h
    · refine .inl ⟨_,E _ (fun w=>?_),h⟩
      simp[eqGuard,binOp,Op.stringOp]
    · refine .inl ⟨_,E _ (fun w=>?_),h⟩
      simp[eqGuard,binOp,Op.stringOp]
    · exact .inr h
  · rename_i a
    rcases uR h with ⟨ti,ht,h⟩ | h
    · split at h
      · rename_i el hu
        have hund:X.P.underlying ty=some (.pointer el):=by
          have:=(X.ok.look ht).ax
          rw[hu] at this
          unfold l9 at this
          split at this<;>simp_all
        have r1:∀w,((do pure (.bool (←Op.equal ty (.pointer a) (.pointer none))):Sem Value)).run X.P w=.ok (.bool a.isNone) w:=fun w=>by
          rw[Sem.run_bind,Jw hund];rfl
        have r2:∀w,((do pure (.bool (!(←Op.equal ty (.pointer a) (.pointer none)))):Sem Value)).run X.P w=.ok (.bool (!a.isNone)) w:=fun w=>by
          rw[Sem.run_bind,Jw hund];rfl
        split at h
        · exact AF
        · exact AF
        · exact AH
        · exact AH
        · exact .inr h
      · exact .inr h
    · exact .inr h
  · rename_i a n m i j
    rcases uR h with ⟨ti,ht,h⟩ | h
    · split at h
      · rename_i el hu
        have hund:X.P.underlying ty=some (.slice el):=by
          have:=(X.ok.look ht).ax
          rw[hu] at this
          unfold l9 at this
          split at this<;>simp_all
        have r1:∀w,((do pure (.bool (←Op.equal ty (.slice a n m) (.slice none i j))):Sem Value)).run X.P w=.ok (.bool a.isNone) w:=fun w=>by
          rw[Sem.run_bind,Jx hund];rfl
        have r2:∀w,((do pure (.bool (!(←Op.equal ty (.slice a n m) (.slice none i j)))):Sem Value)).run X.P w=.ok (.bool (!a.isNone)) w:=fun w=>by
          rw[Sem.run_bind,Jx hund];rfl
        split at h
        · exact AF
        · exact AF
        · exact AH
        · exact AH
        · exact .inr h
      · exact .inr h
    · exact .inr h
  · exact .inr h
theorem Jz{P:Program}{t:Nat}{d:TypeDesc}(hd:P.underlying t=some d)(w:World)(x v:Value)
  (h:(d=.string∧∃s,x=.string s∧v=.int .i64 s.size)∨((∃el,d=.slice el)∧∃a n c,x=.slice a n c∧v=.int .i64 n)) (r:Nat):
  (Builtin.len_ #[t] r #[x]).run P w=.ok v w:=by
 rcases h with ⟨rfl,s,rfl,rfl⟩ | ⟨⟨el,rfl⟩,a,n,c,rfl,rfl⟩
 ·simp[Builtin.len_,run_underlying hd,goInt]
 ·simp[Builtin.len_,run_underlying hd,goInt]
theorem Ab{op:Op}(h:uD X.tab e op k kf):(∃v,eD X op e v∧k v)∨kf:=by
 unfold uD at h
 split at h
 ·rcases kJ h with ⟨v,hv,h⟩ | h
  ·exact Ku
  ·exact .inr h
 ·rcases kJ h with ⟨v,hv,h⟩ | h
  ·exact Ku
  ·exact .inr h
 ·rcases kJ h with ⟨v,hv,h⟩ | h
  ·split at h
   ·exact Kw
   ·exact .inr h
  ·exact .inr h
 ·rcases kJ h with ⟨v,hv,h⟩ | h
  ·split at h
   ·rename_i vs _
    rcases ux h with ⟨u,hu,h⟩ | h
    ·refine .inl ⟨u,fun a ha _ _ _ _ _ w=>?_,h⟩
     rw[BI] at hu
     simp only[execOp,ha.ev hv,Instr.extract,hu];rfl
    ·exact .inr h
   ·exact .inr h
  ·exact .inr h
 ·rcases kJ h with ⟨v,hv,h⟩ | h
  ·split at h
   ·rename_i b off
    rcases uR h with ⟨ti,ht,h⟩ | h
    ·split at h
     ·rename_i fs hu
      rcases ux h with ⟨⟨o,sz⟩,hp,h⟩ | h
      ·dsimp only at h
       cases hz:Nat.beq sz 0
       case true=>rw[hz] at h;exact .inr h
       case false=>
        rw[hz] at h
        have hsz:sz≠0:=Nat.ne_of_beq_eq_false hz
        have hok:=(X.ok.look ht).ax
        rw[hu] at hok
        obtain⟨flds,hund,hfl⟩:∃flds,X.P.underlying _=some (.struct flds)∧flds.toList.map (fun f=>(f.offset,((X.P.info? f.type).map (·.size)).getD 0))=fs:=by
         unfold l9 at hok
         split at hok<;>simp at hok
         rename_i fl hfl
         exact⟨fl,hfl,by simpa using hok⟩
        rw[←hfl] at hp
        simp only[dH,Option.map_eq_some_iff,Prod.mk.injEq] at hp
        obtain⟨f,hf,ho,hsf⟩:=hp
        rw[BI] at hf
        have hi:∃i,X.P.info? f.type=some i∧i.size=sz:=by
         cases hq:X.P.info? f.type with
         | none=>simp[hq] at hsf;exact(hsz hsf.symm).elim
         | some i=>exact⟨i,rfl,by simpa[hq] using hsf⟩
        obtain⟨i,hi,hiz⟩:=hi
        have key:=Sw hund hf hi (by rw[hiz];exact hsz) b off
        rw[ho] at key
        simp only[cond_false] at h
        cases hoz:Nat.beq o 0
        ·rw[hoz] at h
         refine .inl ⟨_,fun a ha _ _ _ _ _ w=>?_,h⟩
         simp only[execOp,ha.ev hv,Sem.run_bind,key w];rfl
        ·rw[hoz] at h
         refine .inl ⟨_,fun a ha _ _ _ _ _ w=>?_,h⟩
         have:=mR hoz
         subst this
         simp only[execOp,ha.ev hv,Sem.run_bind,key w];rfl
      ·exact .inr h
     ·exact .inr h
    ·exact .inr h
   ·exact .inr h
  ·exact .inr h
 ·rcases kJ h with ⟨a,ha,h⟩ | h
  ·rcases kJ h with ⟨b,hb,h⟩ | h
   ·exact Ni ha hb h
   ·exact .inr h
  ·exact .inr h
 ·rcases kJ h with ⟨v,hv,h⟩ | h
  ·split at h
   ·exact Kw
   ·exact .inr h
  ·exact .inr h
 ·rcases kJ h with ⟨v,hv,h⟩ | h
  ·split at h
   ·rcases kJ h with ⟨u,hu,h⟩ | h
    ·exact Kx
    ·exact .inr h
   ·rcases kJ h with ⟨u,hu,h⟩ | h
    ·exact Kx
    ·exact .inr h
   ·exact .inr h
  ·exact .inr h
 ·rename_i args tys
  split at h
  ·rename_i x t hx ht
   have hargs:args=#[x]:=by apply kT.1;simpa using hx
   have htys:tys=#[t]:=by apply kT.1;simpa using ht
   subst hargs;subst htys
   rcases kJ h with ⟨v,hv,h⟩ | h
   ·rcases uR h with ⟨ti,htt,h⟩ | h
    ·have hok:=(X.ok.look htt).ax
     split at h
     ·rename_i el n c _
      split at h
      ·rename_i hu
       rw[hu] at hok
       have hund:∃d,X.P.underlying t=some d∧∃el,d=.slice el:=by
        unfold l9 at hok
        split at hok<;>simp at hok
        rename_i hd;exact⟨_,hd,_,rfl⟩
       obtain⟨d,hd,hd'⟩:=hund
       refine .inl ⟨_,fun a' ha _ _ _ _ _ w=>?_,h⟩
       have hr:=fun r=>Jz hd w (.slice el n c) (.int .i64 n) (.inr ⟨hd',el,n,c,rfl,rfl⟩) r
       simp[execOp,resolve,invoke,builtin,ha.ev hv,hr]
      ·exact .inr h
     ·rename_i s _
      split at h
      ·rename_i hu
       rw[hu] at hok
       have hund:X.P.underlying t=some .string:=by
        unfold l9 at hok
        split at hok<;>simp_all
       refine .inl ⟨_,fun a' ha _ _ _ _ _ w=>?_,h⟩
       have hr:=fun r=>Jz hund w (.string s) (.int .i64 s.size) (.inl ⟨rfl,s,rfl,rfl⟩) r
       simp[execOp,resolve,invoke,builtin,ha.ev hv,hr]
      ·exact .inr h
     ·exact .inr h
    ·exact .inr h
   ·exact .inr h
  ·exact .inr h
 ·rename_i args tys
  split at h
  ·rename_i x y hx
   have hargs:args=#[x,y]:=by apply kT.1;simpa using hx
   subst hargs
   rcases kJ h with ⟨u,hu,h⟩ | h
   ·rcases kJ h with ⟨v,hv,h⟩ | h
    ·split at h
     ·refine .inl ⟨_,fun a' ha _ _ _ _ _ w=>?_,h⟩
      simp[execOp,resolve,invoke,builtin,ha.ev hv,ha.ev hu,Builtin.min_,Builtin.min2]
     ·exact .inr h
    ·exact .inr h
   ·exact .inr h
  ·exact .inr h
 ·rename_i args tys
  split at h
  ·rename_i x y hx
   have hargs:args=#[x,y]:=by apply kT.1;simpa using hx
   subst hargs
   rcases kJ h with ⟨u,hu,h⟩ | h
   ·rcases kJ h with ⟨v,hv,h⟩ | h
    ·split at h
     ·refine .inl ⟨_,fun a' ha _ _ _ _ _ w=>?_,h⟩
      simp[execOp,resolve,invoke,builtin,ha.ev hv,ha.ev hu,Builtin.max_,Builtin.max2]
     ·exact .inr h
    ·exact .inr h
   ·exact .inr h
  ·exact .inr h
 ·exact .inr h
theorem eD.wJ{op:Op}{v:Value}{L:List HP}(h:eD X op e v):aG X op e L (fun u L'=>u=v∧L'=L):=
 fun a w ha hw dst ty pos after guard=>.inl ⟨v,w,L,h a ha dst ty pos after guard w,⟨rfl,rfl⟩,hw⟩
end
def runK(n:Nat)(tab:kC)(ops:List Oper)(G:GS):List Oper→Env→(List Oper→Env→Prop)→Prop
 | [],e,k=>k [] e
 | o::r,e,k=>match o.dst with
  | none=>k (o::r) e
  | some d=>match od G d,Nat.blt d n with
   | none,true=>match o.guard with
    | none=>uD tab e o.op (fun v=>runK n tab ops G r ((d,v)::e) k) (k (o::r) e)
    | some (j,want)=>sW ops j (fun oj=>match oj.dst with
     | some dj=>match od G dj with
      | some b=>match gB b want with
       | true=>uD tab e o.op (fun v=>runK n tab ops G r ((d,v)::e) k) (k (o::r) e)
       | false=>runK n tab ops G r ((d,undef)::e) k
      | none=>k (o::r) e
     | none=>k (o::r) e) (k (o::r) e)
   | _,_=>k (o::r) e
theorem D9{X:Cx}{ops:Array Oper}{G:GS}{L:List HP}{K:Env→List HP→Prop}:∀{l:List Oper} {e:Env},
  runK X.n X.tab ops.toList G l e (fun l' e'=>VO X ops G l' e' L K)→VO X ops G l e L K
 | [],e,h=>h
 | o::r,e,h=>by
  unfold runK at h
  split at h
  ·exact h
  ·rename_i d hd
   split at h
   ·rename_i hgl hlt
    have hdst:b9 X.n o.dst=true:=by rw[hd];exact hlt
    have hfree:bP G o.dst=true:=by rw[hd];simp[bP,hgl]
    have step:∀{v},bN ops G o.guard=some true→eD X o.op e v→runK X.n X.tab ops.toList G r ((d,v)::e) (fun l' e'=>VO X ops G l' e' L K)→VO X ops G (o::r) e L K:=fun {v} hg hl hk=>by
     refine VO.op hg hdst hfree hl.wJ ?_
     rintro _ _ ⟨rfl,rfl⟩
     rw[hd]
     exact D9 hk
    split at h
    ·rename_i hgd
     rcases Ab h with ⟨v,hl,hk⟩ | h
     ·exact step (by rw[hgd];rfl) hl hk
     ·exact h
    ·rename_i j want hgd
     rcases ux h with ⟨oj,hj,h⟩ | h
     ·split at h
      ·rename_i dj hdj
       split at h
       ·rename_i b hb
        have hgo:bN ops G o.guard=some (gB b want):=by
         rw[hgd];simp only[bN,hj,hdj,hb]
        split at h
        ·rename_i hbw
         rw[hbw] at hgo
         rcases Ab h with ⟨v,hl,hk⟩ | h
         ·exact step hgo hl hk
         ·exact h
        ·rename_i hbw
         rw[hbw] at hgo
         refine VO.off hgo hdst hfree ?_
         rw[hd]
         exact D9 h
       ·exact h
      ·exact h
     ·exact h
   ·exact h
end Vg
namespace Vg
open Go
def ua:Nat→List Value→Env
 | _,[]=>[]
 | i,v::r=>(i,v)::ua (i+1) r
theorem Ih:∀{l:List Value} {i t:Nat} {v:Value},look (ua i l) t=some v→∃j,t=i+j∧l[j]?=some v
 | [],_,_,_,h=>by cases h
 | x::r,i,t,v,h=>by
  simp only[ua,look] at h
  cases hb:Nat.beq i t
  ·rw[hb] at h
   obtain⟨j,hj,hl⟩:=Ih h
   exact⟨j+1,by omega,by simpa using hl⟩
  ·rw[hb] at h
   have:=mR hb
   exact⟨0,by omega,by simpa using h⟩
theorem Ga{n:Nat}{args:List Value}(h:args.length≤n):cW n ⟨args.toArray++Array.replicate (n-args.toArray.size) undef,[]⟩ (ua 0 args):=by
 refine⟨by simp;omega,Z,fun t v ht=>?_⟩
 obtain⟨j,rfl,hl⟩:=Ih ht
 have hj:j<args.length:=(cH.1 hl).1
 have:args[j]=v:=(cH.1 hl).2
 simp[Array.getElem?_append,hj,this]
structure MN(X:Cx)(fn:Func)(e:Env)(L:List HP)(v:Value):Prop where
 run:∀a w,cW X.n a e→St X L w→(results fn a.tmps).run X.P w=.ok v w
def al(X:Cx)(fn:Func)(R:Value→List HP→Prop)(e:Env)(L:List HP):Prop:=
 ∃v L',MN X fn e L v∧cI X L L'∧R v L'
def Jp(X:Cx)(fn:Func)(R:Value→List HP→Prop):Exit→Env→List HP→Prop
 | .normal,e,L=>al X fn R e L
 | .ret,e,L=>al X fn R e L
 | _,_,_=>False
theorem aq.of{P:Program}{f:FuncId}{fn:Func}{c:Code}{args:List Value}{Fr:Nat→Prop}{w:World}{L:List HP}{R:Value→List HP→Prop}{tab:kC}(n:Nat)
  (hf:P.funcs[f]?=some fn) (hb:fn.body=some c) (hnm:(fn.name == "runtime.NumGoroutine")=false) (ok:nS P tab) (hnt:fn.ntmps=n) (hn:Nat.ble args.length n=true)
  (h:VC ⟨P,tab,ok,n,Fr,w⟩ c (ua 0 args) L (Jp ⟨P,tab,ok,n,Fr,w⟩ fn R)):aq P f args Fr w L R:=by
 subst hnt
 replace hn:=fB hn
 refine⟨⟨fn,hf,by simp[hb],hnm⟩,fun hlow hs=>?_⟩
 refine calls_of_wp hf hb (wp_mono (wpIn_wide.1 (h none _ w (Ga hn) ⟨hs,cB.refl _ _,hlow⟩)) fun x a' w' ⟨e',L',h1,h2,h3⟩=>?_)
 have key:al ⟨P,tab,ok,fn.ntmps,Fr,w⟩ fn R e' L'→a'.defers=[]∧∃v,(results fn a'.tmps).run P w'=.ok v w'∧∃v1 L1,Ending.returned v=.returned v1∧R v1 L1∧Sat Fr L1 w'∧cB Fr w w':=by
  rintro⟨v,L1,hr,he,hR⟩
  exact⟨h1.defers,v,hr.run a' w' h1 h2,v,L1,Z,hR,(he w' h2).sat,h2.bL⟩
 cases x with
 | normal=>exact key h3
 | ret=>exact key h3
 | exit id=>exact h3.elim
 | goto l=>exact h3.elim
 | panic ch=>exact h3.elim
 | outgrown=>exact h3.elim
theorem al.tmp{X:Cx}{fn:Func}{R:Value→List HP→Prop}{e:Env}{L:List HP}(t:Nat)(h:fn.results=#[.tmp t]){v:Value}(hv:look e t=some v){L':List HP}(he:cI X L L')(hR:R v L'):al X fn R e L:=
 ⟨v,L',⟨fun a w ha _=>by rw[results_tmp h,ha.at_ t v hv]⟩,he,hR⟩
theorem al.cz{X:Cx}{fn:Func}{R:Value→List HP→Prop}{e:Env}{L:List HP}(t u:Nat)(h:fn.results=#[.tmp t,.tmp u]){v x:Value}(hv:look e t=some v)(hx:look e u=some x){L':List HP}(he:cI X L L')(hR:R (.tuple #[v,x]) L'):al X fn R e L:=
 ⟨_,L',⟨fun a w ha _=>by rw[results_tmp2 h,ha.at_ t v hv,ha.at_ u x hx]⟩,he,hR⟩
theorem al.void{X:Cx}{fn:Func}{R:Value→List HP→Prop}{e:Env}{L:List HP}(h:fn.results=#[]){L':List HP}(he:cI X L L')(hR:R (.tuple #[]) L'):al X fn R e L:=
 ⟨_,L',⟨fun a w _ _=>results_none h a.tmps X.P w⟩,he,hR⟩
theorem VC.G2{X:Cx}{x:Operand}{b c:Code}{e:Env}{L:List HP}{Q:Exit→Env→List HP→Prop}{p:Prop}{_:Decidable p}(hx:ev e x=some (.bool (decide p)))
  (ht:p→VC X b e L Q) (hf:¬p→VC X c e L Q):VC X (.cond x b c) e L Q:=
 VC.cond hx (fun h=>ht (of_decide_eq_true h)) (fun h=>hf (of_decide_eq_false h))
theorem VC.G0{X:Cx}{x:Operand}{b c:Code}{e:Env}{L:List HP}{Q:Exit→Env→List HP→Prop}{i j:Int}(hx:ev e x=some (.bool (i == j)))
  (ht:i=j→VC X b e L Q) (hf:i≠j→VC X c e L Q):VC X (.cond x b c) e L Q:=
 VC.cond hx (fun h=>ht yc) (fun h=>hf yc)
theorem VC.dd{X:Cx}{x:Operand}{b c:Code}{e:Env}{L:List HP}{Q:Exit→Env→List HP→Prop}{i j:Int}(hx:ev e x=some (.bool (i != j)))
  (ht:i≠j→VC X b e L Q) (hf:i=j→VC X c e L Q):VC X (.cond x b c) e L Q:=
 VC.cond hx (fun h=>ht yc) (fun h=>hf yc)
theorem VC.ey{X:Cx}{x:Operand}{b c:Code}{e:Env}{L:List HP}{Q:Exit→Env→List HP→Prop}{t:Bool}(hx:ev e x=some (.bool (!t)))
  (ht:t=false→VC X b e L Q) (hf:t=true→VC X c e L Q):VC X (.cond x b c) e L Q:=
 VC.cond hx (fun h=>ht yc) (fun h=>hf yc)
theorem VC.lf{X:Cx}{x:Operand}{b c:Code}{e:Env}{L:List HP}{Q:Exit→Env→List HP→Prop}(hx:ev e x=some (.bool true))
  (ht:VC X b e L Q):VC X (.cond x b c) e L Q:=
 VC.cond hx (fun _=>ht) (fun h=>by cases h)
theorem VC.kG{X:Cx}{x:Operand}{b c:Code}{e:Env}{L:List HP}{Q:Exit→Env→List HP→Prop}(hx:ev e x=some (.bool false))
  (hf:VC X c e L Q):VC X (.cond x b c) e L Q:=
 VC.cond hx (fun h=>by cases h) (fun _=>hf)
theorem al.int{X:Cx}{fn:Func}{R:Value→List HP→Prop}{e:Env}{L:List HP}(t:Nat)(h:fn.results=#[.tmp t]){k:IntKind}{a b:Int}(hv:look e t=some (.int k a))(hab:a=b){L':List HP}(he:cI X L L')(hR:R (.int k b) L'):al X fn R e L:=by
 subst hab;exact al.tmp t h hv he hR
theorem al.bool{X:Cx}{fn:Func}{R:Value→List HP→Prop}{e:Env}{L:List HP}(t:Nat)(h:fn.results=#[.tmp t]){a b:Bool}(hv:look e t=some (.bool a))(hab:a=b){L':List HP}(he:cI X L L')(hR:R (.bool b) L'):al X fn R e L:=by
 subst hab;exact al.tmp t h hv he hR
theorem cI.refl{X:Cx}{L:List HP}:cI X L L:=fun _ h=>h
def IA(X:Cx){σ:Type}(E:σ→Env)(H:σ→List HP)(I:σ→Prop)(Q:Exit→Env→List HP→Prop):Exit→Env→List HP→Prop
 | .normal,e,L=>∃s,I s∧Sub (E s) e∧cI X L (H s)
 | x,e,L=>Q x e L
theorem VC.meet{X:Cx}{σ:Type}(E:σ→Env)(H:σ→List HP)(I:σ→Prop){b c:Code}{e:Env}{L:List HP}{Q:Exit→Env→List HP→Prop}
  (hb:VC X b e L (IA X E H I Q)) (hc:∀s,I s→VC X c (E s) (H s) Q):VC X (.seq b c) e L Q:=by
 refine VC.seq (hb.mono fun x e' L' h=>?_)
 cases x with
 | normal=>
  obtain⟨s,hI,hE,hH⟩:=h
  exact((hc s hI).ah hH).sub hE
 | exit id=>exact h
 | goto l=>exact h
 | ret=>exact h
 | panic ch=>exact h
 | outgrown=>exact h
def aV(Fr:Nat→Prop)(L:List HP)(w:World):Prop:=∃F,df L F w∧∀b∈F,Fr b
theorem D'{P:Program}{f:FuncId}(h:lJ P f)(vals:Array Value)(w:World):(callFunc f vals).run P w=.ok (.enter f vals) w:=by
 obtain⟨fn,hf,hb,hn⟩:=h
 unfold callFunc
 rw[Sem.run_bind]
 show Result.andThen (.ok P w) _=_
 simp[Result.andThen,hf,hb,hn]
theorem Sr{P:Program}{f:FuncId}(h:lJ P f)(a:Act)(args:Array Operand)(tys:Array TypeId)(dst:Option Tmp)(ty:TypeId)(pos:String)(after:Array Edge)(guard:Option (Nat×Bool))(w:World):
  (execOp a.eval ⟨dst,.call ⟨.value (.func f),args,tys⟩,ty,pos,after,guard⟩).run P w=.ok (.enter f (args.map a.eval)) w:=by
 have:=D' h (args.map a.eval) w
 simp[execOp,resolve,Deferred.ofValue,Act.eval,invoke]
 exact this
theorem aG.call{X:Cx}{f:FuncId}{args:Array Operand}{tys:Array TypeId}{e:Env}{L Lc Lr:List HP}{vals:List Value}{R:Value→List HP→Prop}
  (hargs:dZ e args.toList=some vals) (hp:L.Perm (Lc++Lr))
  (ht:∀Fr' w,(∀b,X.Fr b→Fr' b)→St X L w→aV Fr' Lr w→aq X.P f vals Fr' w Lc R):
  aG X (.call ⟨.value (.func f),args,tys⟩) e L (fun v L'=>∃L1,R v L1∧L'=L1++Lr):=by
 intro a w ha hw dst ty pos after guard
 obtain⟨F,hs,hnd,hb⟩:=hw.sat.perm hp
 obtain⟨Fc,Fl,rfl,hsc,hsl⟩:=df.append.1 hs
 have T:=ht (fun b=>X.Fr b∨b∈Fl) w (fun b h=>.inl h) hw ⟨Fl,hsl,fun b h=>.inr h⟩
 have hev:args.map a.eval=vals.toArray:=by
  have:=ha.dZ hargs
  apply kT.1
  simpa using this
 refine .inr (.inr ⟨f,vals.toArray,?_,?_⟩)
 ·rw[←hev];exact Sr T.yK a args tys dst ty pos after guard w
 ·obtain⟨hnc,hnl,hdis⟩:=gy.1 hnd
  refine Calls.mono (T.calls (fun b h=>?_) ⟨Fc,hsc,hnc,fun b h=>⟨fun h'=>?_,(hb b ya).2⟩⟩) fun en w' ⟨v,L',h1,h2,h3,h4⟩=>?_
  ·rcases h with h | h
   ·exact hw.kl b h
   ·exact(hb b ya).2
  ·rcases h' with h' | h'
   ·exact(hb b ya).1 h'
   ·exact hdis b h b h' rfl
  ·refine⟨v,L'++Lr,h1,⟨L',h2,Z⟩,⟨?_,hw.bL.trans (h4.mono fun b h=>.inl h),hw.low⟩⟩
   obtain⟨G,hG,hGn,hGb⟩:=h3
   refine⟨G++Fl,df.append.2 ⟨G,Fl,Z,hG,hsl.loc fun b h=>h4.block b (.inr h)⟩,?_,?_⟩
   ·exact Ky
   ·intro b h
    rcases fL.1 h with h | h
    ·exact⟨fun h'=>(hGb b h).1 (.inl h'),(hGb b h).2⟩
    ·exact ED
section
variable {X:Cx} {ops:Array Oper} {G:GS} {l:List Oper} {e:Env} {L:List HP} {K:Env→List HP→Prop}
  {dst:Option Tmp} {ty:TypeId} {pos:String} {after:Array Edge} {guard:Option (Nat×Bool)}
theorem VO.go(h:runK X.n X.tab ops.toList G l e (fun l' e'=>VO X ops G l' e' L K)):VO X ops G l e L K:=D9 h
theorem VO.GC{f:FuncId}{args:Array Operand}{tys:Array TypeId}{vals:List Value}{R:Value→List HP→Prop}
  (hargs:dZ e args.toList=some vals) (ht:∀Fr' w,aq X.P f vals Fr' w [] R)
  (hk:∀v L1,R v L1→VO X ops G l (bI dst v e) (L1++L) K)
  (hg:bN ops G guard=some true:=by rfl) (hd:b9 X.n dst=true:=by rfl) (hf:bP G dst=true:=by rfl):
  VO X ops G (⟨dst,.call ⟨.value (.func f),args,tys⟩,ty,pos,after,guard⟩::l) e L K:=
 VO.op hg hd hf (aG.call hargs (Lc:=[]) (Lr:=L) (.refl _) fun Fr' w _ _ _=>ht Fr' w) fun v L' ⟨L1,h1,h2⟩=>by subst h2;exact hk v L1 h1
theorem VO.iY{f:FuncId}{args:Array Operand}{tys:Array TypeId}{vals:List Value}{u:Value}
  (ht:∀Fr' w,aq X.P f vals Fr' w [] (fun v L=>v=u∧L=[])) (hargs:dZ e args.toList=some vals)
  (hk:VO X ops G l (bI dst u e) L K)
  (hg:bN ops G guard=some true:=by rfl) (hd:b9 X.n dst=true:=by rfl) (hf:bP G dst=true:=by rfl):
  VO X ops G (⟨dst,.call ⟨.value (.func f),args,tys⟩,ty,pos,after,guard⟩::l) e L K:=
 VO.GC hargs ht (fun v L1 ⟨h1,h2⟩=>by subst h1;subst h2;exact hk) hg hd hf
theorem VO.yes(d:Nat){b:Bool}(c:Bool)(hb:look e d=some (.bool b))(hc:b=c)(h:VO X ops ((d,c)::G) l ((d,.bool c)::e) L K)(hd:Nat.blt d X.n=true:=by rfl):VO X ops G l e L K:=by
 subst hc
 refine VO.split d hb hd (fun h'=>?_) (fun h'=>?_)
 ·subst h';exact h
 ·subst h';exact h
theorem VO.wk{op:Op}{v:Value}(h:eD X op e v)(hk:VO X ops G l (bI dst v e) L K)
  (hg:bN ops G guard=some true:=by rfl) (hd:b9 X.n dst=true:=by rfl) (hf:bP G dst=true:=by rfl):VO X ops G (⟨dst,op,ty,pos,after,guard⟩::l) e L K:=
 VO.op hg hd hf h.wJ (fun _ _ ⟨h1,h2⟩=>by subst h1;subst h2;exact hk)
theorem VO.arith{op:BinOp}{xt yt:TypeId}{x y:Operand}{k:IntKind}{a b:Int}(z:Int)
  (hx:ev e x=some (.int k a)) (hy:ev e y=some (.int k b))
  (hz:(match op with | .add=>k.wrap (a+b)=z | .sub=>k.wrap (a-b)=z | .mul=>k.wrap (a*b)=z | _=>False))
  (hk:VO X ops G l (bI dst (.int k z) e) L K)
  (hg:bN ops G guard=some true:=by rfl) (hd:b9 X.n dst=true:=by rfl) (hf:bP G dst=true:=by rfl):
  VO X ops G (⟨dst,.binOp op xt x y yt,ty,pos,after,guard⟩::l) e L K:=by
 refine VO.op (M:=fun v L'=>v=.int k z∧L'=L) hg hd hf ?_ (fun v L' ⟨h1,h2⟩=>by subst h1;subst h2;exact hk)
 intro a' w ha hw dst ty pos after guard
 refine .inl ⟨_,w,L,?_,⟨rfl,Z⟩,hw⟩
 cases op<;>simp only at hz
 case add=>simp[execOp,ha.ev hx,ha.ev hy,eqGuard,binOp,Op.intArith,hz]
 case sub=>simp[execOp,ha.ev hx,ha.ev hy,eqGuard,binOp,Op.intArith,hz]
 case mul=>simp[execOp,ha.ev hx,ha.ev hy,eqGuard,binOp,Op.intArith,hz]
end
theorem i64_in(n:Int)(h1:-9223372036854775808≤n)(h2:n≤9223372036854775807):IntKind.i64.wrap n=n:=IntWalk.i64_in n ⟨h1,h2⟩
section
variable {X:Cx} {ops:Array Oper} {G:GS} {l:List Oper} {e:Env} {L:List HP} {K:Env→List HP→Prop}
  {dst:Option Tmp} {ty:TypeId} {pos:String} {after:Array Edge} {guard:Option (Nat×Bool)}
theorem VO.add{xt yt:TypeId}{x y:Operand}{a b:Int}(hx:ev e x=some (.int .i64 a))(hy:ev e y=some (.int .i64 b))(h1:-9223372036854775808≤a+b)(h2:a+b≤9223372036854775807)
  (hk:VO X ops G l (bI dst (.int .i64 (a+b)) e) L K)
  (hg:bN ops G guard=some true:=by rfl) (hd:b9 X.n dst=true:=by rfl) (hf:bP G dst=true:=by rfl):
  VO X ops G (⟨dst,.binOp .add xt x y yt,ty,pos,after,guard⟩::l) e L K:=VO.arith (a+b) hx hy (i64_in _ h1 h2) hk hg hd hf
theorem VO.uN{xt yt:TypeId}{x y:Operand}{a b:Int}(hx:ev e x=some (.int .i64 a))(hy:ev e y=some (.int .i64 b))(h1:-9223372036854775808≤a-b)(h2:a-b≤9223372036854775807)
  (hk:VO X ops G l (bI dst (.int .i64 (a-b)) e) L K)
  (hg:bN ops G guard=some true:=by rfl) (hd:b9 X.n dst=true:=by rfl) (hf:bP G dst=true:=by rfl):
  VO X ops G (⟨dst,.binOp .sub xt x y yt,ty,pos,after,guard⟩::l) e L K:=VO.arith (a-b) hx hy (i64_in _ h1 h2) hk hg hd hf
end
end Vg
namespace Vg
open Go
def cT(cs:List Value)(off:Nat)(vs:List Value):List Value:=cs.take off++vs++cs.drop (off+vs.length)
theorem EA(cs:List Value)(off:Nat):cT cs off []=cs:=by simp[cT]
theorem EB(cs:List Value)(off:Nat)(v:Value)(h:off<cs.length):cT cs off [v]=cs.set off v:=by
 simp[cT,List.set_eq_take_append_cons_drop,h]
theorem Kr{cs vs:List Value}{off:Nat}{v:Value}(h:off+(vs.length+1)≤cs.length):cT (cs.set off v) (off+1) vs=cT cs off (v::vs):=by
 unfold cT
 have h1:off<cs.length:=by omega
 rw[List.set_eq_take_append_cons_drop,if_pos h1]
 have e1:(cs.take off++v::cs.drop (off+1)).take (off+1)=cs.take off ++ [v]:=by
  rw[List.take_append,iT,xN yd,show off+1-off=1 from by omega,p4 ye]
  simp
 have e2:(cs.take off++v::cs.drop (off+1)).drop (off+1+vs.length)=cs.drop (off+(vs.length+1)):=by
  rw[List.drop_append,iT,xN yd,List.drop_of_length_le ye]
  rw[show off+1+vs.length-off=vs.length+1 from by omega]
  simp;congr 1;omega
 rw[e1,e2]
 simp
def dq(w:World)(b:Nat)(o:Obj):World:={ w with heap:=w.heap.setIfInBounds b o }
theorem SM{w:World}{b:Nat}{o:Obj}(h:w.heap[b]?=some o):dq w b o=w:=by
 unfold dq
 have:w.heap.setIfInBounds b o=w.heap:=by
  apply xC
  intro i
  by_cases hi:b=i
  ·subst hi
   have hlt:b<w.heap.size:=(pY.1 h).1
   rw[Array.getElem?_setIfInBounds_self_of_lt hlt,h]
  ·rw[xE hi]
 rw[this]
theorem SO(w:World)(b:Nat)(o o':Obj):dq (dq w b o) b o'=dq w b o':=by
 simp[dq]
theorem pd{w:World}{b:Nat}{o o':Obj}(h:w.heap[b]?=some o'):(dq w b o).heap[b]?=some o:=by
 have hlt:b<w.heap.size:=(pY.1 h).1
 simp[dq,hlt]
theorem CV{w:World}{b c:Nat}{o:Obj}(h:b≠c):(dq w b o).heap[c]?=w.heap[c]?:=by
 simp[dq,xE h]
theorem El(w:World)(b:Nat)(o:Obj):(dq w b o).heap.size=w.heap.size:=by simp[dq]
theorem Ej{w:World}{b off:Nat}{cs:List Value}{t:TypeId}{v:Value}(h:w.heap[b]?=some (.cells cs.toArray t (0,0))):
  w.setCell ⟨b,off,none⟩ v=dq w b (.cells (cs.set off v).toArray t (0,0)):=by
 have hlt:b<w.heap.size:=(pY.1 h).1
 have e:(w.setCell ⟨b,off,none⟩ v).heap=w.heap.setIfInBounds b (.cells (cs.set off v).toArray t (0,0)):=by
  apply xC
  intro i
  by_cases hi:i=b
  ·subst hi
   rw[heap_setCell_same w i off cs.toArray t v h,Array.getElem?_setIfInBounds_self_of_lt hlt]
   simp
  ·rw[heap_setCell_other w _ i v hi,xE (Ne.symm hi)]
 have e1:w.setCell ⟨b,off,none⟩ v={ w with heap:=(w.setCell ⟨b,off,none⟩ v).heap }:=rfl
 rw[e1,e];rfl
theorem Ea{P:Program}{b t:Nat}:∀(vs:List Value) (i off:Nat) (w:World) (cs:List Value),w.heap[b]?=some (.cells cs.toArray t (0,0)) →
  off+i+vs.length≤cs.length→vs.all Value.oneCell'=true →
  (storeCells ⟨b,off,none⟩ vs i).run P w=.ok () (dq w b (.cells (cT cs (off+i) vs).toArray t (0,0)))
 | [],i,off,w,cs,h,_,_=>by
  rw[EA,SM h];rfl
 | v::vs,i,off,w,cs,h,hl,h1=>by
  simp only[List.all_cons,dG] at h1
  have hcell:w.cell? ⟨b,off+i,none⟩=cs[off+i]?:=by rw[cell_of_row w b (off+i) cs.toArray t (0,0) h];simp
  have hlt:off+i<cs.length:=by simp at hl;omega
  have hfz:=frozen_of_row w b (off+i) cs.toArray t h
  have e:(store ((⟨b,off,none⟩:Addr).add i) v).run P w=.ok () (dq w b (.cells (cs.set (off+i) v).toArray t (0,0))):=by
   rw[Addr.add_mid,←Ej h]
   have hc:w.cell? ⟨b,off+i,none⟩=some cs[off+i]:=by rw[hcell];simp[hlt]
   have h10:=h1.1
   cases v<;>first
    | (simp[Value.oneCell'] at h10;done)
    | simp[store,Sem.run,hc,hfz]
  unfold storeCells
  rw[Sem.run_bind,e]
  show(storeCells ⟨b,off,none⟩ vs (i+1)).run P _=_
  have hh:(dq w b (.cells (cs.set (off+i) v).toArray t (0,0))).heap[b]?=some (.cells (cs.set (off+i) v).toArray t (0,0)):=pd h
  rw[Ea vs (i+1) off _ (cs.set (off+i) v) hh (by simp at hl ⊢;omega) h1.2,SO]
  rw[show off+(i+1)=off+i+1 from by omega,Kr (by simp at hl;omega)]
theorem df.get:∀{L:List HP} {F:List Nat} {w:World} {i:Nat} {H:HP},df L F w→L[i]?=some H→∃ids,H.sat ids w∧∀b∈ids,b∈F
 | [],_,_,_,_,_,h=>by simp at h
 | _::L,F,w,0,H,⟨j,G,hF,hj,_⟩,h=>by
  simp only[sn,Option.some.injEq] at h
  subst h;subst hF
  exact⟨j,hj,fun b hb=>by simp[hb]⟩
 | _::L,F,w,i+1,H,⟨j,G,hF,_,hG⟩,h=>by
  simp only[pZ] at h
  obtain⟨ids,h1,h2⟩:=df.get hG h
  subst hF
  exact⟨ids,h1,fun b hb=>by simp[h2 b hb]⟩
theorem St.qf{X:Cx}{L:List HP}{w:World}(h:St X L w){i b t:Nat}{cs:List Value}(hL:L[i]?=some (pt b cs t)):
  w.heap[b]?=some (.cells cs.toArray t (0,0))∧¬X.Fr b:=by
 obtain⟨F,hs,_,hb⟩:=h.sat
 obtain⟨ids,h1,h2⟩:=hs.get hL
 obtain⟨rfl,h1⟩:=h1
 exact⟨h1,(hb b (h2 b yf)).1⟩
theorem df.set:∀{L:List HP} {F:List Nat} {w w':World} {i b t t':Nat} {cs cs':List Value},df L F w→F.Nodup→L[i]?=some (pt b cs t) →
  w'.heap[b]?=some (.cells cs'.toArray t' (0,0))→(∀c,c≠b→w'.heap[c]?=w.heap[c]?)→df (L.set i (pt b cs' t')) F w'
 | [],_,_,_,_,_,_,_,_,_,_,_,h,_,_=>by simp at h
 | _::L,F,w,w',0,b,t,t',cs,cs',⟨j,G,hF,hj,hG⟩,hn,h,h1,h2=>by
  simp only[sn,Option.some.injEq] at h
  subst h;subst hF
  obtain⟨rfl,hj⟩:=hj
  refine⟨[b],G,Z,⟨rfl,h1⟩,hG.loc fun c hc=>h2 c fun he=>?_⟩
  subst he
  simp at hn
  exact hn.1 hc
 | H::L,F,w,w',i+1,b,t,t',cs,cs',⟨j,G,hF,hj,hG⟩,hn,h,h1,h2=>by
  simp only[pZ] at h
  subst hF
  obtain⟨hnj,hnG,hd⟩:=gy.1 hn
  obtain⟨ids,hp,hm⟩:=hG.get h
  obtain⟨rfl,_⟩:=hp
  have hb:=hm b yf
  exact⟨j,G,Z,H.loc j w w' (fun c hc=>h2 c fun he=>hd c hc b hb he) hj,df.set hG hnG h h1 h2⟩
theorem St.set{X:Cx}{L:List HP}{w:World}(h:St X L w){i b t:Nat}{cs cs':List Value}(hL:L[i]?=some (pt b cs t)):
  St X (L.set i (pt b cs' t)) (dq w b (.cells cs'.toArray t (0,0))):=by
 obtain⟨h0,hf⟩:=h.qf hL
 obtain⟨F,hs,hn,hb⟩:=h.sat
 refine⟨⟨F,hs.set hn hL (pd h0) (fun c hc=>CV (Ne.symm hc)),hn,fun c hc=>⟨(hb c hc).1,by rw[El];exact(hb c hc).2⟩⟩,?_,h.low⟩
 exact Kz
theorem St.alloc{X:Cx}{L:List HP}{w:World}(h:St X L w)(cs:List Value)(t:Nat):St X (pt w.heap.size cs t::L) (w.alloc (.cells cs.toArray t)):=
 ⟨h.sat.alloc h.kl _ _ ⟨rfl,heap_alloc_new w _⟩,h.bL.trans (cB.alloc h.kl _),h.low⟩
def Rd(agg:Bool)(n b off:Nat)(v:Value)(w:World):Prop:=
 match agg with
 | true=>∃cs:List Value,v=.agg cs.toArray∧cs.length=n∧w.rangeAt b off cs
 | false=>w.cell? ⟨b,off,none⟩=some v
theorem aE.F9{P:Program}{t:Nat}{ti:TI}(h:aE P t ti)(w:World):(isAgg t).run P w=.ok ti.ax.agg w:=by
 obtain⟨d,hd,hr⟩:=Sy h w
 have hu:=h.ax
 unfold Go.isAgg
 rw[Sem.run_bind,hr]
 unfold l9 at hu
 rw[hd] at hu
 cases d<;>simp at hu<;>rw[←hu]<;>rfl
theorem aE.ln{P:Program}{t:Nat}{ti:TI}(h:aE P t ti):∃i,P.info? t=some i∧i.size=ti.size∧i.bytes=ti.bytes∧i.zero=some ti.zero:=by
 have:=h.info
 cases hi:P.info? t with
 | none=>simp[hi] at this
 | some i=>exact⟨i,rfl,by simpa[hi] using this⟩
theorem JA{P:Program}{t:Nat}{ti:TI}(h:aE P t ti){b off:Nat}{v:Value}{w:World}(hr:Rd ti.ax.agg ti.size b off v w):
  (Instr.loadAt t (.pointer (some ⟨b,off,none⟩))).run P w=.ok v w:=by
 obtain⟨i,hi,hs,_,_⟩:=h.ln
 have ha:=h.F9 w
 unfold Instr.loadAt
 simp only[Instr.sureAddr,Sem.run_bind,Sem.run_pure,Result.andThen_ok,loadVar,ha]
 cases hg:ti.ax.agg
 ·rw[hg] at hr
  simp only[Rd] at hr
  simp[Go.load,Sem.run,hr]
 ·rw[hg] at hr
  simp only[Rd] at hr
  obtain⟨cs,rfl,hl,hc⟩:=hr
  have hload:(loadCells ⟨b,off,none⟩ cs.length).run P w=.ok cs.toArray w:=
   run_loadCells_list (P:=P) w ⟨b,off,none⟩ cs (fun j v hv=>by rw[Addr.add_mid];exact hc j v hv)
  simp[Sem.run_bind,jm hi,hs,←hl,hload]
def an(X:Cx)(L:List HP)(ti:TI)(b off:Nat)(v:Value):Prop:=∀w,St X L w→Rd ti.ax.agg ti.size b off v w
theorem D3{w:World}{b t:Nat}{cs:List Value}{fz:Nat×Nat}(h:w.heap[b]?=some (.cells cs.toArray t fz)){off:Nat}{v:Value}{n:Nat}(hv:cs[off]?=some v):Rd false n b off v w:=by
 show w.cell? _=_
 rw[cell_of_row w b off cs.toArray t fz h];simpa using hv
theorem Jj{w:World}{b t:Nat}{cs:List Value}{fz:Nat×Nat}(h:w.heap[b]?=some (.cells cs.toArray t fz)){off n:Nat}{ds:List Value}(hd:(cs.drop off).take n=ds)(hl:ds.length=n):Rd true n b off (.agg ds.toArray) w:=by
 refine⟨ds,Z,hl,fun j v hv=>?_⟩
 rw[cell_of_row w b (off+j) cs.toArray t fz h]
 have hj:j<ds.length:=(cH.1 hv).1
 rw[←hd] at hv
 rw[p3,if_pos yd,qZ] at hv
 simpa using hv
theorem an.one{X:Cx}{L:List HP}{ti:TI}{b off t:Nat}{cs:List Value}{v:Value}(i:Nat)(hL:L[i]?=some (pt b cs t))(hv:cs[off]?=some v)(ha:ti.ax.agg=false:=by rfl):an X L ti b off v:=fun w hw=>by
 rw[ha];exact D3 (hw.qf hL).1 hv
theorem an.many{X:Cx}{L:List HP}{ti:TI}{b off t:Nat}{cs ds:List Value}(i:Nat)(hL:L[i]?=some (pt b cs t))(hd:(cs.drop off).take ti.size=ds)(hl:ds.length=ti.size:=by rfl)(ha:ti.ax.agg=true:=by rfl):an X L ti b off (.agg ds.toArray):=fun w hw=>by
 rw[ha];exact Jj (hw.qf hL).1 hd hl
theorem an.Sm{X:Cx}{L:List HP}{ti:TI}{b off t:Nat}{cs:List Value}{fz:Nat×Nat}{v:Value}(hF:X.Fr b)(h0:X.w0.heap[b]?=some (.cells cs.toArray t fz))(hv:cs[off]?=some v)(ha:ti.ax.agg=false:=by rfl):an X L ti b off v:=fun w hw=>by
 rw[ha];exact D3 ((hw.bL.block b hF).trans h0) hv
theorem an.Sn{X:Cx}{L:List HP}{ti:TI}{b off t:Nat}{cs ds:List Value}{fz:Nat×Nat}(hF:X.Fr b)(h0:X.w0.heap[b]?=some (.cells cs.toArray t fz))(hd:(cs.drop off).take ti.size=ds)(hl:ds.length=ti.size:=by rfl)(ha:ti.ax.agg=true:=by rfl):an X L ti b off (.agg ds.toArray):=fun w hw=>by
 rw[ha];exact Jj ((hw.bL.block b hF).trans h0) hd hl
theorem an.rd{X:Cx}{L:List HP}{ti:TI}{b off:Nat}{v:Value}(hF:X.Fr b)(h0:Rd ti.ax.agg ti.size b off v X.w0):an X L ti b off v:=fun w hw=>by
 have hb:=hw.bL.block b hF
 cases hg:ti.ax.agg
 ·rw[hg] at h0
  show w.cell? _=_
  unfold World.cell?;rw[hb];exact h0
 ·rw[hg] at h0
  obtain⟨cs,h1,h2,h3⟩:=h0
  refine⟨cs,h1,h2,fun j v hv=>?_⟩
  have:=h3 j v hv
  unfold World.cell? at this ⊢;rw[hb];exact this
section
variable {X:Cx} {ops:Array Oper} {G:GS} {l:List Oper} {e:Env} {L:List HP} {K:Env→List HP→Prop}
  {dst:Option Tmp} {ty:TypeId} {pos:String} {after:Array Edge} {guard:Option (Nat×Bool)}
theorem run_load{T:TypeId}{x:Operand}{ti:TI}{b off:Nat}{v:Value}(hx:ev e x=some (.pointer (some ⟨b,off,none⟩)))(hT:bD X.tab T=some ti)
  {a:Act} (ha:cW X.n a e) {w:World} (hr:Rd ti.ax.agg ti.size b off v w) (dst:Option Tmp) (ty:TypeId) (pos:String) (after:Array Edge) (guard:Option (Nat×Bool)):
  (execOp a.eval ⟨dst,.load T x,ty,pos,after,guard⟩).run X.P w=.ok (.value v) w:=by
 simp only[execOp,ha.ev hx]
 rw[Sem.run_bind,JA (X.ok.look hT) hr];rfl
theorem aG.load{T:TypeId}{x:Operand}{ti:TI}{b off:Nat}{v:Value}(hx:ev e x=some (.pointer (some ⟨b,off,none⟩)))(hT:bD X.tab T=some ti)(hr:an X L ti b off v):
  aG X (.load T x) e L (fun u L'=>u=v∧L'=L):=fun _ w ha hw dst ty pos after guard=>
 .inl ⟨v,w,L,run_load hx hT ha (hr w hw) dst ty pos after guard,⟨rfl,rfl⟩,hw⟩
theorem VO.load{T:TypeId}{x:Operand}{ti:TI}{b off:Nat}{v:Value}(hx:ev e x=some (.pointer (some ⟨b,off,none⟩)))(hT:bD X.tab T=some ti)(hr:an X L ti b off v)
  (hk:VO X ops G l (bI dst v e) L K)
  (hg:bN ops G guard=some true:=by rfl) (hd:b9 X.n dst=true:=by rfl) (hf:bP G dst=true:=by rfl):
  VO X ops G (⟨dst,.load T x,ty,pos,after,guard⟩::l) e L K:=
 VO.op hg hd hf (aG.load hx hT hr) (fun _ _ ⟨h1,h2⟩=>by subst h1;subst h2;exact hk)
theorem VO.ld{T:TypeId}{x:Operand}{ti:TI}{b off t:Nat}{cs:List Value}{v:Value}(i:Nat)(hx:ev e x=some (.pointer (some ⟨b,off,none⟩)))(hL:L[i]?=some (pt b cs t))(hT:bD X.tab T=some ti)(hv:cs[off]?=some v)
  (hk:VO X ops G l (bI dst v e) L K) (ha:ti.ax.agg=false:=by rfl)
  (hg:bN ops G guard=some true:=by rfl) (hd:b9 X.n dst=true:=by rfl) (hf:bP G dst=true:=by rfl):
  VO X ops G (⟨dst,.load T x,ty,pos,after,guard⟩::l) e L K:=VO.load hx hT (an.one i hL hv ha) hk hg hd hf
theorem VO.cK{T:TypeId}{x:Operand}{ti:TI}{b off t:Nat}{cs:List Value}(i:Nat)(ds:List Value)(hx:ev e x=some (.pointer (some ⟨b,off,none⟩)))(hL:L[i]?=some (pt b cs t))(hT:bD X.tab T=some ti)(hv:(cs.drop off).take ti.size=ds)
  (hk:VO X ops G l (bI dst (.agg ds.toArray) e) L K) (hl:ds.length=ti.size:=by rfl) (ha:ti.ax.agg=true:=by rfl)
  (hg:bN ops G guard=some true:=by rfl) (hd:b9 X.n dst=true:=by rfl) (hf:bP G dst=true:=by rfl):
  VO X ops G (⟨dst,.load T x,ty,pos,after,guard⟩::l) e L K:=VO.load hx hT (an.many i hL hv hl ha) hk hg hd hf
theorem Sx{P:Program}{T:Nat}{ti:TI}(h:aE P T ti){w:World}{b off t:Nat}{cs vs:List Value}{v:Value}(hb:w.heap[b]?=some (.cells cs.toArray t (0,0)))(hv:v.cells=vs.toArray)(hs:vs.length=ti.size)(hl:off+vs.length≤cs.length)(h1:vs.all Value.oneCell'=true):
  (Instr.storeAt T (.pointer (some ⟨b,off,none⟩)) v).run P w=.ok () (dq w b (.cells (cT cs off vs).toArray t (0,0))):=by
 obtain⟨i,hi,hsz,_,_⟩:=h.ln
 have hr:=Ea (P:=P) vs 0 off w cs hb (by simpa using hl) h1
 simp only[vu] at hr
 have hcs:¬(v.cells.size≠i.size):=by rw[hv,hsz];simp[hs]
 simp[Instr.storeAt,Instr.sureAddr,storeVar,Sem.run_bind,jm hi,hv,hsz,hs,hr]
theorem aG.store{T:TypeId}{x y:Operand}{ti:TI}{b off t:Nat}{cs vs:List Value}{v:Value}(i:Nat)(hx:ev e x=some (.pointer (some ⟨b,off,none⟩)))(hy:ev e y=some v)(hL:L[i]?=some (pt b cs t))
  (hT:bD X.tab T=some ti) (hv:v.cells=vs.toArray) (hs:vs.length=ti.size) (hl:off+vs.length≤cs.length) (h1:vs.all Value.oneCell'=true):
  aG X (.store T x y) e L (fun u L'=>u=undef∧L'=L.set i (pt b (cT cs off vs) t)):=fun a w ha hw dst ty pos after guard=>by
 refine .inr (.inl ⟨_,_,?_,⟨rfl,Z⟩,hw.set hL⟩)
 simp only[execOp,ha.ev hx,ha.ev hy]
 rw[Sem.run_bind,Sx (X.ok.look hT) (hw.qf hL).1 hv hs hl h1];rfl
theorem VO.st{T:TypeId}{x y:Operand}{ti:TI}{b off t:Nat}{cs cs':List Value}{v:Value}{L':List HP}(i:Nat)(hx:ev e x=some (.pointer (some ⟨b,off,none⟩)))(hy:ev e y=some v)(hL:L[i]?=some (pt b cs t))
  (hT:bD X.tab T=some ti) (hlt:off<cs.length) (hcs:cs.set off v=cs') (hL':L.set i (pt b cs' t)=L')
  (hk:VO X ops G l (bI dst undef e) L' K) (h1:v.oneCell'=true:=by rfl) (hv:v.cells=#[v]:=by rfl) (hsz:ti.size=1:=by rfl)
  (hg:bN ops G guard=some true:=by rfl) (hd:b9 X.n dst=true:=by rfl) (hf:bP G dst=true:=by rfl):
  VO X ops G (⟨dst,.store T x y,ty,pos,after,guard⟩::l) e L K:=by
 refine VO.op hg hd hf (aG.store (vs:=[v]) i hx hy hL hT hv (by simp[hsz]) ye yg) (fun _ _ ⟨h3,h4⟩=>?_)
 subst h3;subst h4
 rw[EB cs off v hlt,hcs,hL'];exact hk
theorem VO.w6{T:TypeId}{x y:Operand}{ti:TI}{b off t:Nat}{cs cs' vs:List Value}{L':List HP}(i:Nat)(hx:ev e x=some (.pointer (some ⟨b,off,none⟩)))(hy:ev e y=some (.agg vs.toArray))(hL:L[i]?=some (pt b cs t))
  (hT:bD X.tab T=some ti) (hl:off+vs.length≤cs.length) (hcs:cT cs off vs=cs') (hL':L.set i (pt b cs' t)=L') (h1:vs.all Value.oneCell'=true)
  (hk:VO X ops G l (bI dst undef e) L' K) (hs:vs.length=ti.size:=by rfl)
  (hg:bN ops G guard=some true:=by rfl) (hd:b9 X.n dst=true:=by rfl) (hf:bP G dst=true:=by rfl):
  VO X ops G (⟨dst,.store T x y,ty,pos,after,guard⟩::l) e L K:=by
 refine VO.op hg hd hf (aG.store (vs:=vs) i hx hy hL hT Z hs hl h1) (fun _ _ ⟨h3,h4⟩=>?_)
 subst h3;subst h4
 rw[hcs,hL'];exact hk
theorem s_{P:Program}{t:Nat}{ti:TI}(h:aE P t ti)(w:World):(zeroValue t).run P w=.ok ti.zero w:=by
 obtain⟨i,hi,_,_,hz⟩:=h.ln
 simp[zeroValue,typeInfo,hi,hz]
theorem aG.alloc{T:TypeId}{ti:TI}(hT:bD X.tab T=some ti):aG X (.alloc T) e L (fun u L'=>∃b,u=.pointer (some ⟨b,0,none⟩)∧L'=pt b ti.zs T::L):=fun a w _ hw dst ty pos after guard=>by
 refine .inl ⟨.pointer (some ⟨w.heap.size,0,none⟩),w.alloc (.cells ti.zs.toArray T),pt w.heap.size ti.zs T::L,?_,⟨w.heap.size,Z,Z⟩,hw.alloc ti.zs T⟩
 have h:=X.ok.look hT
 simp[execOp,Instr.alloc,s_ h,newVar,newRow,newObj,Sem.run,h.zero]
theorem VO.alloc{T:TypeId}{ti:TI}(hT:bD X.tab T=some ti)(hk:∀b,VO X ops G l (bI dst (.pointer (some ⟨b,0,none⟩)) e) (pt b ti.zs T::L) K)
  (hg:bN ops G guard=some true:=by rfl) (hd:b9 X.n dst=true:=by rfl) (hf:bP G dst=true:=by rfl):
  VO X ops G (⟨dst,.alloc T,ty,pos,after,guard⟩::l) e L K:=
 VO.op hg hd hf (aG.alloc hT) (fun _ _ ⟨b,h1,h2⟩=>by subst h1;subst h2;exact hk b)
theorem aG.box{T:TypeId}{x:Operand}{v:Value}{vs:List Value}(hx:ev e x=some v)(hv:v.cells=vs.toArray):aG X (.box T x) e L (fun u L'=>∃b,u=.pointer (some ⟨b,0,none⟩)∧L'=pt b vs T::L):=fun a w ha hw dst ty pos after guard=>by
 refine .inl ⟨.pointer (some ⟨w.heap.size,0,none⟩),w.alloc (.cells vs.toArray T),pt w.heap.size vs T::L,?_,⟨w.heap.size,Z,Z⟩,hw.alloc vs T⟩
 simp[execOp,Instr.box,ha.ev hx,newVar,newRow,newObj,Sem.run,hv]
theorem VO.Gy{T:TypeId}{x:Operand}{vs:List Value}(hx:ev e x=some (.agg vs.toArray))(hk:∀b,VO X ops G l (bI dst (.pointer (some ⟨b,0,none⟩)) e) (pt b vs T::L) K)
  (hg:bN ops G guard=some true:=by rfl) (hd:b9 X.n dst=true:=by rfl) (hf:bP G dst=true:=by rfl):
  VO X ops G (⟨dst,.box T x,ty,pos,after,guard⟩::l) e L K:=
 VO.op hg hd hf (aG.box hx rfl) (fun _ _ ⟨b,h1,h2⟩=>by subst h1;subst h2;exact hk b)
theorem VO.BZ{T:TypeId}{x:Operand}{v:Value}(hx:ev e x=some v)(hk:∀b,VO X ops G l (bI dst (.pointer (some ⟨b,0,none⟩)) e) (pt b [v] T::L) K)(hv:v.cells=#[v]:=by rfl)
  (hg:bN ops G guard=some true:=by rfl) (hd:b9 X.n dst=true:=by rfl) (hf:bP G dst=true:=by rfl):
  VO X ops G (⟨dst,.box T x,ty,pos,after,guard⟩::l) e L K:=
 VO.op hg hd hf (aG.box hx hv) (fun _ _ ⟨b,h1,h2⟩=>by subst h1;subst h2;exact hk b)
end
end Vg
namespace Vg
open Go
def waits(ops:Array Oper)(j i:Nat):Bool:=
 match ops[j]? with
 | some o=>o.after.any fun e=>Region.binds .any e&&e.on == i
 | none=>false
theorem X0{P:Program}{ρ:Operand→Value}{o:Oper}{w w':World}{v:Value}(h:(execOp ρ o).run P w=.ok (.value v) w'):∀c,o.op≠.defer c:=by
 obtain⟨dst,op,ty,pos,after,guard⟩:=o
 rintro c rfl
 have e:execOp ρ ⟨dst,.defer c,ty,pos,after,guard⟩=(do pure (.defer (←resolve ρ c ty))):=rfl
 rw[e,Sem.run_bind] at h
 cases h2:(resolve ρ c ty).run P w with
 | ok d w2=>rw[h2] at h;cases h
 | halt y w2=>rw[h2] at h;cases h
section
variable {P:Program} {ops:Array Oper} {Q:Exit→Act→World→Prop} {ro:Option Nat}
theorem SE(o:Oper)(hs:∀cs b,o.op≠.select cs b)(a:Act)(dst:Option Tmp)(v:Value)(h:∀d,dst=some d→d∉o.looksAt ops):
  o.semAt (wR ro).round (a.put dst v).eval=o.semAt (wR ro).round a.eval:=by
 by_cases hd:∃c,o.op=.defer c
 ·obtain⟨c,hc⟩:=hd
  have hr:=resolve_congr (ρ:=(a.put dst v).eval) (ρ':=a.eval) c o.type fun x hx=>Act.eval_put fun d hd hxd=>h d hd (by
   subst hxd
   exact List.mem_append_left _ (List.mem_filterMap.2 ⟨.tmp d,by rw[hc];simpa[Op.operands] using hx,Z⟩))
  unfold Oper.semAt
  cases hro:(wR ro).round with
  | none=>exact execOp_put o hs a dst v h
  | some l=>
   rw[hc]
   dsimp only
   rw[hr]
 ·have hn:∀c,o.op≠.defer c:=fun c e=>hd ⟨c,e⟩
  rw[Oper.semAt_eq _ _ o hn,Oper.semAt_eq _ _ o hn,execOp_put o hs a dst v h]
theorem My{S:World→Prop}{i:Nat}{o:Oper}{v:Value}{a:Act}(hi:ops[i]?=some o)(hy:YieldsIf P ops S o v a)
  {K:Act→World→Prop} {w:World} (hS:S w) (h:K (a.put o.dst v) w):wpOpIn (wR ro) 0 P ops Q i K a w:=by
 unfold wpOpIn
 simp only[hi]
 rcases hy with ⟨hw,hv⟩ | ⟨hw,rfl⟩
 ·simp only[hw,if_true]
  refine⟨fun _ _=>trivial,?_⟩
  rw[Ed ro _ o (X0 (hv w hS)),hv w hS]
  exact h
 ·simp only[hw,Bool.false_eq_true,if_false]
  exact⟨fun _ _=>trivial,h⟩
theorem Yn{S:World→Prop}{j:Nat}{oi oj:Oper}{v:Value}(hj:ops[j]?=some oj)(hap:oi.apart ops oj=true)
  (hsi:∀cs b,oi.op≠.select cs b) (hsj:∀cs b,oj.op≠.select cs b)
  (hQ:∀c a w,Q (.panic c) (a.put oi.dst v) w→Q (.panic c) a w) {K:Act→World→Prop} {a:Act} {w:World}
  (hy:YieldsIf P ops S oi v a) (h:wpOpIn (wR ro) 0 P ops Q j K (a.put oi.dst v) w):
  wpOpIn (wR ro) 0 P ops Q j (fun a' w'=>YieldsIf P ops S oi v a'∧K (a'.put oi.dst v) w') a w:=by
 obtain⟨h1,h2,h3⟩:=Oper.apart_spec hap
 have bL:∀(a:Act),YieldsIf P ops S oi v a→∀u,YieldsIf P ops S oi v (a.put oj.dst u):=fun a hy u=>
  hy.of_same (execOp_put oi hsi a oj.dst u h3) (wanted_put oi a oj.dst u h3)
 have keepD:∀d,YieldsIf P ops S oi v { a with defers:=d::a.defers }:=fun d=>hy.of_same rfl rfl
 unfold wpOpIn at *
 simp only[hj] at *
 rw[wanted_put oj a oi.dst v h1] at h
 split
 ·rename_i hw
  simp only[hw,if_true] at h
  refine⟨fun _ _=>trivial,?_⟩
  have h:=h.2
  rw[SE oj hsj a oi.dst v h1] at h
  generalize (oj.semAt (wR ro).round a.eval).run P w=r at *
  cases r with
  | ok x w'=>
   cases x<;>simp only[Oper.uponIn] at h ⊢
   case value u=>exact⟨bL a hy u,by rw[←Act.put_comm a v u h2];exact h⟩
   case skip=>exact⟨bL a hy _,by rw[←Act.put_comm a v undef h2];exact h⟩
   case defer d=>
    refine⟨bL _ (keepD d) _,?_⟩
    rw[←Act.put_comm _ v undef h2,←Act.put_defers]
    exact h
   case enter f args=>
    refine⟨h.1,CallsIn.mono h.2 fun e w'' he=>?_⟩
    cases e with
    | returned u=>exact⟨bL a hy u,by rw[←Act.put_comm a v u h2];exact he⟩
    | panicked c=>exact hQ _ _ _ he
    | outgrown=>exact he
   case row row args=>exact⟨h.1,RowsIn.mono h.2 fun u w'' he=>⟨bL a hy u,by rw[←Act.put_comm a v u h2];exact he⟩⟩
   case round l f tmps assign body=>
    refine⟨h.1,RoundIn.mono h.2 fun e w'' he=>?_⟩
    cases e with
    | returned u=>exact⟨bL a hy u,by rw[←Act.put_comm a v u h2];exact he⟩
    | panicked c=>exact hQ _ _ _ he
    | outgrown=>exact he
  | halt x w'=>
   cases x<;>simp only[Oper.uponIn] at h ⊢
   case panic u=>exact hQ _ _ _ h
 ·rename_i hw
  simp only[hw] at h
  exact⟨fun _ _=>trivial,bL a hy _,by rw[←Act.put_comm a v undef h2];exact h.2⟩
end
section
variable {P:Program} {ops:Array Oper} {Q:Exit→Act→World→Prop} {ro:Option Nat}
abbrev iF:=List (Nat×(World→Prop))
def qN(ro:Option Nat)(P:Program)(ops:Array Oper)(Q:Exit→Act→World→Prop):Nat→Array Bool→iF→Act→World→Prop
 | 0,listed,_,a,w=>Region.ready .any ops listed=[]∧Q .normal a w
 | fuel+1,listed,S,a,w=>
  (Region.ready .any ops listed=[]→Q .normal a w) ∧
  ∀j∈Region.ready .any ops listed,wpOpIn (wR ro) 0 P ops Q j (fun a' w'=>(∀p∈S,waits ops j p.1=false→p.2 w') ∧
   qN ro P ops Q fuel (listed.setIfInBounds j true) (S.filter fun p=>!waits ops j p.1) a' w') a w
theorem Ko:∀(fuel:Nat) (listed:Array Bool) (S S':iF) (a:Act) (w:World),(∀p∈S',p∈S)→qN ro P ops Q fuel listed S a w→qN ro P ops Q fuel listed S' a w
 | 0,_,_,_,_,_,_,h=>h
 | fuel+1,_,S,S',_,_,hs,h=>⟨h.1,fun j hj=>wpOpIn_mono (fun a' w' h'=>⟨fun p hp=>h'.1 p (hs p hp),Ko fuel _ _ _ a' w' (fun p hp=>by
   rw[gL] at hp ⊢;exact⟨hs p hp.1,hp.2⟩) h'.2⟩) (h.2 j hj)⟩
theorem Kp:∀(fuel:Nat) (listed:Array Bool) (S:iF) (a:Act) (w:World),qN ro P ops Q fuel listed S a w→wpAnyIn (wR ro) 0 P .any ops Q fuel listed a w
 | 0,_,_,_,_,h=>h
 | fuel+1,_,_,_,_,h=>⟨h.1,fun j hj=>wpOpIn_mono (fun a' w' h'=>Kp fuel _ _ a' w' h'.2) (h.2 j hj)⟩
theorem Ym{i:Nat}{oi:Oper}{v:Value}{Si:World→Prop}(hi:ops[i]?=some oi)(hsel:∀(j:Nat) (o:Oper) cs b,ops[j]?=some o→o.op≠.select cs b)
  (hQ:∀c a w,Q (.panic c) (a.put oi.dst v) w→Q (.panic c) a w):
  ∀(fuel:Nat) (listed:Array Bool) (S:iF) (a:Act) (w:World),
   (∀j oj,ops[j]?=some oj→j≠i→listed.getD j true=false→(∀e∈oj.after,Region.binds .any e=true→e.on≠i)→oi.apart ops oj=true) →
   i∈Region.ready .any ops listed→YieldsIf P ops Si oi v a→Si w→(∀p∈S,p.2 w) →
   qN ro P ops Q fuel (listed.setIfInBounds i true) ((i,Si)::S) (a.put oi.dst v) w→qN ro P ops Q (fuel+1) listed S a w:=by
 intro fuel
 induction fuel with
 | zero=>
  intro listed S a w _ hr hy hS hall H
  refine⟨fun h=>(by rw[h] at hr;cases hr),fun j hj=>?_⟩
  by_cases hji:j=i
  ·subst hji;exact My hi hy hS ⟨fun p hp _=>hall p hp,H⟩
  ·have:=ready_mono hj hji
   rw[H.1] at this
   cases this
 | succ fuel ih=>
  intro listed S a w hfree hr hy hS hall H
  refine⟨fun h=>(by rw[h] at hr;cases hr),fun j hj=>?_⟩
  by_cases hji:j=i
  ·subst hji
   exact My hi hy hS ⟨fun p hp _=>hall p hp,Ko _ _ _ _ _ _ (fun p hp=>lH _ (gL.1 hp).1) H⟩
  ·have h1:=H.2 j (ready_mono hj hji)
   obtain⟨hjun,oj,hoj,hall'⟩:=mem_ready.1 hj
   have hnot:∀e∈oj.after,Region.binds .any e=true→e.on≠i:=fun e he hb heq=>by
    have h1:=hall' e he hb
    have h0:=(mem_ready.1 hr).1
    rw[heq] at h1
    rcases Nat.lt_or_ge i listed.size with h' | h'
    ·simp[h'] at h0 h1;rw[h0] at h1;cases h1
    ·simp[Array.getElem?_eq_none h'] at h1
   have hwt:waits ops j i=false:=by
    unfold waits;rw[hoj]
    cases hany:oj.after.any fun e=>Region.binds .any e&&e.on == i
    ·exact hany
    ·obtain⟨e,he,hb⟩:=Array.any_eq_true'.1 hany
     simp only[dG,beq_iff_eq] at hb
     exact(hnot e he hb.1 hb.2).elim
   have h2:=Yn hoj (hfree j oj hoj hji hjun hnot) (fun cs b=>hsel i oi cs b hi) (fun cs b=>hsel j oj cs b hoj) hQ hy h1
   have hfree':∀k ok,ops[k]?=some ok→k≠i→(listed.setIfInBounds j true).getD k true=false →
     (∀e∈ok.after,Region.binds .any e=true→e.on≠i)→oi.apart ops ok=true:=fun k ok hk hki hun hno=>by
    refine hfree k ok hk hki ?_ hno
    by_cases hjk:j=k
    ·subst hjk;exact hjun
    ·rw[getD_set_ne true hjk] at hun;exact hun
   refine wpOpIn_mono (fun a' w' h3=>?_) h2
   obtain⟨hy',hst,H'⟩:=h3
   refine⟨fun p hp hq=>hst p (lH _ hp) hq,?_⟩
   refine ih (listed.setIfInBounds j true) _ a' w' hfree' (ready_mono hr (Ne.symm hji)) hy' (hst (i,Si) (q4 ..) hwt) (fun p hp=>?_) ?_
   ·have:=gL.1 hp
    exact hst p (lH _ this.1) (by simpa using this.2)
   ·rw[Array.setIfInBounds_comm _ _ hji]
    rw[List.filter_cons_of_pos (by simp[hwt])] at H'
    exact H'
theorem Ez:∀(fuel:Nat) (listed:Array Bool) (S S':iF) (a:Act) (w:World),(∀p∈S',p∈S∨∀w,p.2 w)→qN ro P ops Q fuel listed S a w→qN ro P ops Q fuel listed S' a w
 | 0,_,_,_,_,_,_,h=>h
 | fuel+1,_,S,S',_,_,hs,h=>⟨h.1,fun j hj=>wpOpIn_mono (fun a' w' h'=>⟨fun p hp hq=>(hs p hp).elim (fun h=>h'.1 p h hq) (fun h=>h w'),Ez fuel _ _ _ a' w' (fun p hp=>by
   rw[gL] at hp
   rcases hs p hp.1 with h1 | h1
   ·exact .inl (gL.2 ⟨h1,hp.2⟩)
   ·exact .inr h1) h'.2⟩) (h.2 j hj)⟩
inductive fU where
 | nil
 | take (i:Nat) (p:fU)
 | only(i:Nat) (p:fU)
 | two (i j:Nat) (p q:fU)
 | three (i j m:Nat) (p q r:fU)
def fU.len:fU→Nat
 | .nil=>0
 | .take _ p=>p.len+1
 | .only _ p=>p.len+1
 | .two _ _ p _=>p.len+1
 | .three _ _ _ p _ _=>p.len+1
def ts(i:Nat):Nat→fU→fU
 | 0,p=>p
 | n+1,p=>.take i (ts (i+1) n p)
def lB(ops:Array Oper):Array Bool→fU→Bool
 | listed,.nil=>(Region.ready .any ops listed).isEmpty
 | listed,.take i r=>(Region.ready .any ops listed).contains i&&Region.free .any ops listed i&&lB ops (listed.setIfInBounds i true) r
 | listed,.only i r=>(Region.ready .any ops listed == [i])&&lB ops (listed.setIfInBounds i true) r
 | listed,.two i j p q=>(Region.ready .any ops listed == [i,j])&&lB ops (listed.setIfInBounds i true) p&&lB ops (listed.setIfInBounds j true) q&&Nat.beq p.len q.len
 | listed,.three i j m p q r=>(Region.ready .any ops listed == [i,j,m])&&lB ops (listed.setIfInBounds i true) p&&lB ops (listed.setIfInBounds j true) q&&lB ops (listed.setIfInBounds m true) r&&Nat.beq p.len q.len&&Nat.beq p.len r.len
end
def VA(X:Cx)(ops:Array Oper)(G:GS)(pl:fU)(S:iF)(e:Env)(L:List HP)(K:Env→List HP→Prop):Prop:=
 ∀(Q':Exit→Act→World→Prop),(∀c a w,¬Q' (.panic c) a w)→(∀e' L' a' w',cW X.n a' e'→St X L' w'→K e' L'→Q' .normal a' w')→Region.noSelect ops=true →
  ∀ro listed a w,lB ops listed pl=true→cW X.n a e→lK G a→St X L w→(∀p∈S,p.2 w)→qN ro X.P ops Q' pl.len listed S a w
section
variable {X:Cx} {ops:Array Oper} {G:GS} {pl:fU} {S:iF} {e:Env} {L:List HP} {K:Env→List HP→Prop}
theorem VA.nil(h:K e L):VA X ops G .nil S e L K:=by
 intro Q' _ hQ _ ro listed a w hp ha _ hw _
 simp only[lB,List.isEmpty_iff] at hp
 exact⟨hp,hQ _ _ _ _ ha hw h⟩
theorem VA.first{i:Nat}{o:Oper}{v:Value}{Si:World→Prop}(hi:ops.toList[i]?=some o)(hd:b9 X.n o.dst=true)(hf:bP G o.dst=true)
  (hy:∀a,cW X.n a e→lK G a→YieldsIf X.P ops Si o v a) (hS:∀w,St X L w→Si w) (hk:VA X ops G pl ((i,Si)::S) (bI o.dst v e) L K):VA X ops G (.take i pl) S e L K:=by
 intro Q' hp0 hQ hsel ro listed a w hp ha hG hw hall
 simp only[lB,dG] at hp
 have hi':ops[i]?=some o:=by simpa using hi
 exact Ym hi' (Region.noSelect_spec hsel) (fun c a w h=>(hp0 c _ w h).elim) pl.len listed S a w (Region.free_spec hi' hp.1.2) (by simpa using hp.1.1) (hy a ha hG) (hS w hw) hall
  (hk Q' hp0 hQ hsel ro _ _ w hp.2 (ha.bI hd v) (hG.put hf v) hw (fun p h=>by
   rcases gK.1 h with rfl | h
   ·exact hS w hw
   ·exact hall p h))
theorem VA.pure{i:Nat}{o:Oper}{v:Value}(hi:ops.toList[i]?=some o)(hg:bN ops G o.guard=some true)(hd:b9 X.n o.dst=true)(hf:bP G o.dst=true)
  (hl:eD X o.op e v) (hk:VA X ops G pl S (bI o.dst v e) L K):VA X ops G (.take i pl) S e L K:=by
 refine VA.first (Si:=fun _=>True) hi hd hf (fun a ha hG=>.inl ⟨nh hG hg,fun w _=>hl a ha _ _ _ _ _ w⟩) (fun _ _=>trivial) ?_
 intro Q' hp0 hQ hsel ro listed a w hp ha hG hw hall
 have:=hk Q' hp0 hQ hsel ro listed a w hp ha hG hw (fun p h=>hall p (lH _ h))
 exact Ez pl.len listed S _ a w (fun p hp=>by
  rcases gK.1 hp with rfl | hp
  ·exact .inr fun _=>trivial
  ·exact .inl hp) this
theorem VA.off{i:Nat}{o:Oper}(hi:ops.toList[i]?=some o)(hg:bN ops G o.guard=some false)(hd:b9 X.n o.dst=true)(hf:bP G o.dst=true)
  (hk:VA X ops G pl S (bI o.dst undef e) L K):VA X ops G (.take i pl) S e L K:=by
 refine VA.first (Si:=fun _=>True) hi hd hf (fun a ha hG=>.inr ⟨nh hG hg,Z⟩) (fun _ _=>trivial) ?_
 intro Q' hp0 hQ hsel ro listed a w hp ha hG hw hall
 have:=hk Q' hp0 hQ hsel ro listed a w hp ha hG hw (fun p h=>hall p (lH _ h))
 exact Ez pl.len listed S _ a w (fun p hp=>by
  rcases gK.1 hp with rfl | hp
  ·exact .inr fun _=>trivial
  ·exact .inl hp) this
theorem VA.load{i:Nat}{dst:Option Tmp}{ty:TypeId}{pos:String}{after:Array Edge}{guard:Option (Nat×Bool)}{T:TypeId}{x:Operand}{ti:TI}{b off:Nat}{v:Value}
  (hi:ops.toList[i]?=some ⟨dst,.load T x,ty,pos,after,guard⟩) (hx:ev e x=some (.pointer (some ⟨b,off,none⟩))) (hT:bD X.tab T=some ti) (hr:an X L ti b off v)
  (hk:VA X ops G pl ((i,Rd ti.ax.agg ti.size b off v)::S) (bI dst v e) L K)
  (hg:bN ops G guard=some true:=by rfl) (hd:b9 X.n dst=true:=by rfl) (hf:bP G dst=true:=by rfl):VA X ops G (.take i pl) S e L K:=
 VA.first (Si:=Rd ti.ax.agg ti.size b off v) hi hd hf (fun _ ha hG=>.inl ⟨nh hG hg,fun _ hw=>run_load hx hT ha hw _ _ _ _ _⟩) hr hk
theorem VA.ld{j:Nat}{dst:Option Tmp}{ty:TypeId}{pos:String}{after:Array Edge}{guard:Option (Nat×Bool)}{T:TypeId}{x:Operand}{ti:TI}{b off t:Nat}{cs:List Value}{v:Value}(i:Nat)
  (hi:ops.toList[j]?=some ⟨dst,.load T x,ty,pos,after,guard⟩) (hx:ev e x=some (.pointer (some ⟨b,off,none⟩))) (hL:L[i]?=some (pt b cs t)) (hT:bD X.tab T=some ti) (hv:cs[off]?=some v)
  (hk:VA X ops G pl ((j,Rd ti.ax.agg ti.size b off v)::S) (bI dst v e) L K) (ha:ti.ax.agg=false:=by rfl)
  (hg:bN ops G guard=some true:=by rfl) (hd:b9 X.n dst=true:=by rfl) (hf:bP G dst=true:=by rfl):VA X ops G (.take j pl) S e L K:=
 VA.load hi hx hT (an.one i hL hv ha) hk hg hd hf
theorem VA.cK{j:Nat}{dst:Option Tmp}{ty:TypeId}{pos:String}{after:Array Edge}{guard:Option (Nat×Bool)}{T:TypeId}{x:Operand}{ti:TI}{b off t:Nat}{cs:List Value}(i:Nat)(ds:List Value)
  (hi:ops.toList[j]?=some ⟨dst,.load T x,ty,pos,after,guard⟩) (hx:ev e x=some (.pointer (some ⟨b,off,none⟩))) (hL:L[i]?=some (pt b cs t)) (hT:bD X.tab T=some ti) (hv:(cs.drop off).take ti.size=ds)
  (hk:VA X ops G pl ((j,Rd ti.ax.agg ti.size b off (.agg ds.toArray))::S) (bI dst (.agg ds.toArray) e) L K) (hl:ds.length=ti.size:=by rfl) (ha:ti.ax.agg=true:=by rfl)
  (hg:bN ops G guard=some true:=by rfl) (hd:b9 X.n dst=true:=by rfl) (hf:bP G dst=true:=by rfl):VA X ops G (.take j pl) S e L K:=
 VA.load hi hx hT (an.many i hL hv hl ha) hk hg hd hf
theorem VA.op{i:Nat}{o:Oper}{M:Value→List HP→Prop}(hi:ops.toList[i]?=some o)
  (hg:bN ops G o.guard=some true) (hd:b9 X.n o.dst=true) (hf:bP G o.dst=true) (h:aG X o.op e L M)
  (hst:∀v L',M v L'→∀w,St X L' w→∀p∈S,waits ops i p.1=false→p.2 w)
  (hk:∀v L',M v L'→VA X ops G pl (S.filter fun p=>!waits ops i p.1) (bI o.dst v e) L' K):VA X ops G (.only i pl) S e L K:=by
 intro Q' hp0 hQ hsel ro listed a w hp ha hG hw hall
 simp only[lB,dG,beq_iff_eq] at hp
 have hi':ops[i]?=some o:=by simpa using hi
 have hpr:=hp.1
 refine⟨fun h0=>yh,fun j hj=>?_⟩
 rw[hpr,mi] at hj
 subst hj
 unfold wpOpIn
 rw[hi']
 simp only[nh hG hg,if_true]
 refine h.wp ha hw (fun v L' w' hm hs=>⟨fun p hp1 hp2=>hst v L' hm w' hs p hp1 hp2,?_⟩)
 exact KA
theorem VA.two{i j:Nat}{oi oj:Oper}{p q:fU}{M N:Value→List HP→Prop}(hi:ops.toList[i]?=some oi)(hj:ops.toList[j]?=some oj)
  (hgi:bN ops G oi.guard=some true) (hdi:b9 X.n oi.dst=true) (hfi:bP G oi.dst=true) (hi2:aG X oi.op e L M)
  (hgj:bN ops G oj.guard=some true) (hdj:b9 X.n oj.dst=true) (hfj:bP G oj.dst=true) (hj2:aG X oj.op e L N)
  (hsti:∀v L',M v L'→∀w,St X L' w→∀p∈S,waits ops i p.1=false→p.2 w) (hstj:∀v L',N v L'→∀w,St X L' w→∀p∈S,waits ops j p.1=false→p.2 w)
  (hki:∀v L',M v L'→VA X ops G p (S.filter fun p=>!waits ops i p.1) (bI oi.dst v e) L' K)
  (hkj:∀v L',N v L'→VA X ops G q (S.filter fun p=>!waits ops j p.1) (bI oj.dst v e) L' K):VA X ops G (.two i j p q) S e L K:=by
 intro Q' hp0 hQ hsel ro listed a w hp ha hG hw hall
 simp only[lB,dG,beq_iff_eq] at hp
 obtain⟨⟨⟨hpr,hpi⟩,hpj⟩,hlen⟩:=hp
 have hlen:=mR hlen
 have hi':ops[i]?=some oi:=by simpa using hi
 have hj':ops[j]?=some oj:=by simpa using hj
 refine⟨fun h0=>yh,fun k hk=>?_⟩
 rw[hpr] at hk
 rcases gK.1 hk with rfl | hk
 ·unfold wpOpIn
  rw[hi']
  simp only[nh hG hgi,if_true]
  refine hi2.wp ha hw (fun v L' w' hm hs=>⟨fun p hp1 hp2=>hsti v L' hm w' hs p hp1 hp2,?_⟩)
  exact hki v L' hm Q' hp0 hQ hsel ro _ _ w' hpi (ha.bI hdi v) (hG.put hfi v) hs (fun p hp1=>hsti v L' hm w' hs p (gL.1 hp1).1 yi)
 ·rw[mi] at hk
  subst hk
  unfold wpOpIn
  rw[hj']
  simp only[nh hG hgj,if_true]
  refine hj2.wp ha hw (fun v L' w' hm hs=>⟨fun p hp1 hp2=>hstj v L' hm w' hs p hp1 hp2,?_⟩)
  rw[hlen]
  exact hkj v L' hm Q' hp0 hQ hsel ro _ _ w' hpj (ha.bI hdj v) (hG.put hfj v) hs (fun p hp1=>hstj v L' hm w' hs p (gL.1 hp1).1 yi)
theorem VA.split(d:Nat){b:Bool}(hb:look e d=some (.bool b))(hd:Nat.blt d X.n=true)
  (ht:b=true→VA X ops ((d,true)::G) pl S ((d,.bool true)::e) L K) (hf:b=false→VA X ops ((d,false)::G) pl S ((d,.bool false)::e) L K):VA X ops G pl S e L K:=by
 intro Q' hp0 hQ hsel ro listed a w hp ha hG hw hall
 have hs:a.tmps[d]?=some (.bool b):=by
  have:=ha.at_ d _ hb
  have hlt:d<a.tmps.size:=by rw[ha.size];exact Nat.blt_eq.mp hd
  simpa[hlt] using this
 have key:∀c,b=c→cW X.n a ((d,.bool c)::e)∧lK ((d,c)::G) a:=fun c hc=>by
  subst hc
  refine⟨⟨ha.size,ha.defers,fun t u ht=>?_⟩,fun t u ht=>?_⟩
  ·simp only[look] at ht
   cases hq:Nat.beq d t
   ·rw[hq] at ht;exact ha.at_ t u ht
   ·rw[hq] at ht
    have:=mR hq
    subst this
    simp only[cond_true,Option.some.injEq] at ht
    subst ht;exact ha.at_ _ _ hb
  ·simp only[od] at ht
   cases hq:Nat.beq d t
   ·rw[hq] at ht;exact hG t u ht
   ·rw[hq] at ht
    have:=mR hq
    subst this
    simp only[cond_true,Option.some.injEq] at ht
    subst ht;exact hs
 cases b
 ·exact hf Z Q' hp0 hQ hsel ro listed a w hp (key _ Z).1 (key _ Z).2 hw hall
 ·exact ht Z Q' hp0 hQ hsel ro listed a w hp (key _ Z).1 (key _ Z).2 hw hall
theorem VA.yes(d:Nat){b:Bool}(c:Bool)(hb:look e d=some (.bool b))(hc:b=c)(h:VA X ops ((d,c)::G) pl S ((d,.bool c)::e) L K)(hd:Nat.blt d X.n=true:=by rfl):VA X ops G pl S e L K:=by
 subst hc
 refine VA.split d hb hd (fun h'=>?_) (fun h'=>?_)
 ·subst h';exact h
 ·subst h';exact h
theorem VA.ah{L':List HP}(hs:cI X L L')(h:VA X ops G pl S e L' K):VA X ops G pl S e L K:=
 fun Q' hp0 hQ hsel ro listed a w hp ha hG hw hall=>h Q' hp0 hQ hsel ro listed a w hp ha hG (hs w hw) hall
end
def uH(n:Nat)(tab:kC)(ops:List Oper)(G:GS):fU→Env→(fU→Env→Prop)→Prop
 | .nil,e,k=>k .nil e
 | .only i r,e,k=>k (.only i r) e
 | .two i j p q,e,k=>k (.two i j p q) e
 | .three i j m p q r,e,k=>k (.three i j m p q r) e
 | .take i r,e,k=>sW ops i (fun o=>match o.dst with
  | none=>k (.take i r) e
  | some d=>match od G d,Nat.blt d n with
   | none,true=>match o.guard with
    | none=>uD tab e o.op (fun v=>uH n tab ops G r ((d,v)::e) k) (k (.take i r) e)
    | some (j,want)=>sW ops j (fun oj=>match oj.dst with
     | some dj=>match od G dj with
      | some b=>match gB b want with
       | true=>uD tab e o.op (fun v=>uH n tab ops G r ((d,v)::e) k) (k (.take i r) e)
       | false=>uH n tab ops G r ((d,undef)::e) k
      | none=>k (.take i r) e
     | none=>k (.take i r) e) (k (.take i r) e)
   | _,_=>k (.take i r) e) (k (.take i r) e)
theorem VA.go{X:Cx}{ops:Array Oper}{G:GS}{S:iF}{L:List HP}{K:Env→List HP→Prop}:∀{pl:fU} {e:Env},
  uH X.n X.tab ops.toList G pl e (fun pl' e'=>VA X ops G pl' S e' L K)→VA X ops G pl S e L K
 | .nil,e,h=>h
 | .only i r,e,h=>h
 | .two i j p q,e,h=>h
 | .three i j m p q r,e,h=>h
 | .take i r,e,h=>by
  unfold uH at h
  rcases ux h with ⟨o,ho,h⟩ | h
  case inr=>exact h
  split at h
  ·exact h
  ·rename_i d hd
   split at h
   ·rename_i hgl hlt
    have hdst:b9 X.n o.dst=true:=by rw[hd];exact hlt
    have hfree:bP G o.dst=true:=by rw[hd];simp[bP,hgl]
    have step:∀{v},bN ops G o.guard=some true→eD X o.op e v→uH X.n X.tab ops.toList G r ((d,v)::e) (fun pl' e'=>VA X ops G pl' S e' L K)→VA X ops G (.take i r) S e L K:=fun {v} hg hl hk=>by
     refine VA.pure ho hg hdst hfree hl ?_
     rw[hd]
     exact VA.go hk
    split at h
    ·rename_i hgd
     rcases Ab h with ⟨v,hl,hk⟩ | h
     ·exact step (by rw[hgd];rfl) hl hk
     ·exact h
    ·rename_i j want hgd
     rcases ux h with ⟨oj,hj,h⟩ | h
     ·split at h
      ·rename_i dj hdj
       split at h
       ·rename_i b hb
        have hgo:bN ops G o.guard=some (gB b want):=by
         rw[hgd];simp only[bN,hj,hdj,hb]
        split at h
        ·rename_i hbw
         rw[hbw] at hgo
         rcases Ab h with ⟨v,hl,hk⟩ | h
         ·exact step hgo hl hk
         ·exact h
        ·rename_i hbw
         rw[hbw] at hgo
         refine VA.off ho hgo hdst hfree ?_
         rw[hd]
         exact VA.go h
       ·exact h
      ·exact h
     ·exact h
   ·exact h
theorem VC.draw{X:Cx}{id:Nat}{l:List Oper}{e:Env}{L:List HP}{Q:Exit→Env→List HP→Prop}(pl:fU)(hmix:X.P.follows .mixedOrders=true)
  (hp:(Region.noSelect l.toArray&&Nat.beq pl.len l.length&&lB l.toArray (Array.replicate l.length false) pl)=true)
  (h:VA X l.toArray [] pl [] e L (Q .normal)):VC X (.region id l.toArray true) e L Q:=by
 intro ro a w ha hw
 simp only[dG] at hp
 have hlen:pl.len=l.length:=mR hp.1.2
 refine Code.wpIn_mono (Q:=fun x a' w'=>match x with | .normal=>∃e' L',cW X.n a' e'∧St X L' w'∧Q .normal e' L' | _=>False) (fun x a' w' hx=>?_) (wpIn_region_any hmix ?_)
 ·cases x<;>first | exact hx | exact hx.elim
 ·have:=h (fun x a' w'=>match x with | .normal=>∃e' L',cW X.n a' e'∧St X L' w'∧Q .normal e' L' | _=>False) (fun _ _ _ h=>h) (fun e' L' _ _ h1 h2 h3=>⟨e',L',h1,h2,h3⟩) hp.1.1 ro
   (Array.replicate l.length false) a { w with drawn:=w.drawn+1 } hp.2 ha (lK.nil a) hw.drew (fun _ h=>by cases h)
  rw[hlen] at this
  have h2:=Kp _ _ _ _ _ this
  simpa using h2
end Vg
namespace Vg
open Go
theorem nE{P:Program}{t:Nat}{ti:TI}{el:Nat}(h:aE P t ti)(hu:ti.ax=.slice el):P.underlying t=some (.slice el):=by
 have:=h.ax
 rw[hu] at this
 unfold l9 at this
 split at this<;>simp_all
theorem Kc{P:Program}{t:Nat}{ti:TI}{n el:Nat}(h:aE P t ti)(hu:ti.ax=.array n el):P.underlying t=some (.array n el):=by
 have:=h.ax
 rw[hu] at this
 unfold l9 at this
 split at this<;>simp_all
theorem Ew{P:Program}{t:Nat}{ti:TI}{k:IntKind}(h:aE P t ti)(hu:ti.ax=.int k):P.underlying t=some (.int k):=by
 have:=h.ax
 rw[hu] at this
 unfold l9 at this
 split at this<;>simp_all
theorem Ay{P:Program}{t:Nat}{ti:TI}(h:aE P t ti)(hu:ti.ax=.string):P.underlying t=some .string:=by
 have:=h.ax
 rw[hu] at this
 unfold l9 at this
 split at this<;>simp_all
theorem XP{P:Program}{t:Nat}{ti:TI}{fs:List (Nat×Nat)}(h:aE P t ti)(hu:ti.ax=.struct fs):
  ∃flds,P.underlying t=some (.struct flds)∧flds.toList.map (fun f=>(f.offset,((P.info? f.type).map (·.size)).getD 0))=fs:=by
 have:=h.ax
 rw[hu] at this
 unfold l9 at this
 split at this<;>simp at this
 rename_i fl hfl
 exact⟨fl,hfl,by simpa using this⟩
theorem dU{X:Cx}{e:Env}{T:TypeId}{x y:Operand}{tt te:TI}{el b off len cap:Nat}{k:IntKind}{i:Int}(m:Nat)(hx:ev e x=some (.slice (some ⟨b,off,none⟩) len cap))(hy:ev e y=some (.int k i))
  (hT:bD X.tab T=some tt) (hu:tt.ax=.slice el) (hE:bD X.tab el=some te) (hm:i=m) (hlt:m<len):
  eD X (.indexAddr T x y) e (.pointer (some ⟨b,off+m*te.size,none⟩)):=by
 intro a ha dst ty pos after guard w
 have h1:=nE (X.ok.look hT) hu
 obtain⟨i2,hi2,hs2,_,_⟩:=(X.ok.look hE).ln
 subst hm
 simp[execOp,ha.ev hx,ha.ev hy,Instr.indexAt,asIntOf,run_underlying h1,hlt,jm hi2,hs2,Addr.add_mid]
theorem iu{X:Cx}{e:Env}{T:TypeId}{x y:Operand}{tt te:TI}{el b off len:Nat}{k:IntKind}{i:Int}(m:Nat)(hx:ev e x=some (.pointer (some ⟨b,off,none⟩)))(hy:ev e y=some (.int k i))
  (hT:bD X.tab T=some tt) (hu:tt.ax=.array len el) (hE:bD X.tab el=some te) (hm:i=m) (hlt:m<len):
  eD X (.indexAddr T x y) e (.pointer (some ⟨b,off+m*te.size,none⟩)):=by
 intro a ha dst ty pos after guard w
 have h1:=Kc (X.ok.look hT) hu
 obtain⟨i2,hi2,hs2,_,_⟩:=(X.ok.look hE).ln
 subst hm
 simp[execOp,ha.ev hx,ha.ev hy,Instr.indexAt,asIntOf,run_underlying h1,hlt,jm hi2,hs2,Addr.add_mid,Instr.sureAddr]
theorem H8{X:Cx}{e:Env}{xt yt:TypeId}{x y:Operand}{k:IntKind}{a b:Int}(hx:ev e x=some (.int k a))(hy:ev e y=some (.int k b))(ha0:0≤a)(hb0:0<b):
  eD X (.binOp .rem xt x y yt) e (.int k (a % b)):=by
 intro a' ha dst ty pos after guard w
 have hb:b≠0:=by omega
 have ht:a.tmod b=a % b:=Int.tmod_eq_emod_of_nonneg ha0
 simp[execOp,ha.ev hx,ha.ev hy,eqGuard,binOp,Op.intDiv,hb,ht]
theorem Ia{X:Cx}{e:Env}{T:TypeId}{x y z:Operand}{tt te:TI}{el b off len cap:Nat}{k k':IntKind}{i j:Int}(lo hi:Nat)(hx:ev e x=some (.slice (some ⟨b,off,none⟩) len cap))(hy:ev e y=some (.int k i))(hz:ev e z=some (.int k' j))
  (hT:bD X.tab T=some tt) (hu:tt.ax=.slice el) (hE:bD X.tab el=some te) (hlo:i=lo) (hhi:j=hi) (h1:lo≤hi) (h2:hi≤cap) (h3:lo<cap):
  eD X (.slice T x (some y) (some z) none) e (.slice (some ⟨b,off+lo*te.size,none⟩) (hi-lo) (cap-lo)):=by
 intro a ha dst ty pos after guard w
 have hd:=nE (X.ok.look hT) hu
 obtain⟨i2,hi2,hs2,_,_⟩:=(X.ok.look hE).ln
 subst hlo;subst hhi
 have hne:¬cap=lo:=by omega
 simp[execOp,ha.ev hx,ha.ev hy,ha.ev hz,Instr.sliceAt,Instr.slice,Instr.sliceBounds,Instr.sliceBound,asIntOf,run_underlying hd,h1,h2,jm hi2,hs2,Addr.add_mid,hne]
theorem HC:∀(vs:List Value) (k off:Nat) (cs:List Value),off+k+vs.length≤cs.length →
  (vs.zipIdx k).foldl (fun(c:Array Value) (x:Value×Nat)=>c.setIfInBounds (off+x.2) x.1) cs.toArray=(cT cs (off+k) vs).toArray
 | [],k,off,cs,_=>by rw[EA];rfl
 | v::vs,k,off,cs,h=>by
  have h':off+k+(vs.length+1)≤cs.length:=by simpa using h
  simp only[List.zipIdx_cons,xH,List.setIfInBounds_toArray]
  rw[HC vs (k+1) off (cs.set (off+k) v) ye,show off+(k+1)=off+k+1 from by omega,Kr h']
def o8(place:Nat→Option (Nat×Nat)):List Value→List (Nat×Value)→Option (List Value)
 | zs,[]=>some zs
 | zs,(i,v)::r=>match place i with
  | none=>none
  | some (off,size)=>bif Nat.beq v.cells.toList.length size&&Nat.ble (off+size) zs.length then o8 place (cT zs off v.cells.toList) r else none
theorem y_{place:Nat→Option (Nat×Nat)}:∀{parts:List (Nat×Value)} {zs cs:List Value},o8 place zs parts=some cs→Instr.fill place zs.toArray parts=some cs.toArray
 | [],zs,cs,h=>by simpa[o8,Instr.fill] using h
 | (i,v)::r,zs,cs,h=>by
  simp only[o8] at h
  simp only[Instr.fill]
  cases hp:place i with
  | none=>simp[hp] at h
  | some p=>
   obtain⟨off,size⟩:=p
   rw[hp] at h
   simp only at h ⊢
   cases hb:Nat.beq v.cells.toList.length size&&Nat.ble (off+size) zs.length
   ·rw[hb] at h;cases h
   ·rw[hb] at h
    simp only[cond_true] at h
    simp only[dG] at hb
    have h1:v.cells.size=size:=by have:=mR hb.1;simpa using this
    have h2:off+size≤zs.length:=fB hb.2
    rw[if_neg (by simp[h1];omega)]
    have:=HC v.cells.toList 0 off zs ye
    have e:v.cells.zipIdx.foldl (fun cs (x:Value×Nat)=>cs.setIfInBounds (off+x.2) x.1) zs.toArray=(cT zs off v.cells.toList).toArray:=by
     rw[←Array.foldl_toList,Array.toList_zipIdx];simpa using this
    rw[e]
    exact y_ h
def lR(e:Env):List (Nat×Operand)→Option (List (Nat×Value))
 | []=>some []
 | (i,x)::r=>match ev e x,lR e r with
  | some v,some vs=>some ((i,v)::vs)
  | _,_=>none
theorem cW.lR{n:Nat}{a:Act}{e:Env}(h:cW n a e):∀{xs:List (Nat×Operand)} {vs:List (Nat×Value)},lR e xs=some vs→xs.map (fun p=>(p.1,a.eval p.2))=vs
 | [],vs,hx=>by simpa[Vg.lR] using hx
 | (i,x)::r,vs,hx=>by
  simp only[Vg.lR] at hx
  split at hx
  ·rename_i v us hv hus
   simp only[Option.some.injEq] at hx
   subst hx
   simp[h.ev hv,cW.lR h hus]
  ·cases hx
theorem JC{P:Program}(w:World):∀(fl:List Field),(∀f∈fl,∃i,P.info? f.type=some i) →
  (fl.mapM fun f=>(do pure (f.offset,←sizeOf f.type):Sem (Nat×Nat))).run P w=.ok (fl.map fun f=>(f.offset,((P.info? f.type).map (·.size)).getD 0)) w
 | [],_=>rfl
 | f::fl,h=>by
  obtain⟨i,hi⟩:=h f yf
  have ih:=JC (P:=P) w fl (fun g hg=>h g (by simp[hg]))
  simp only[List.mapM_cons,Sem.run_bind,jm hi,Result.andThen_ok,Sem.run_pure,ih]
  simp[hi]
theorem H3{X:Cx}{e:Env}{T:TypeId}{parts:Array (Nat×Operand)}{ti:TI}{fs:List (Nat×Nat)}{pv:List (Nat×Value)}(cells:List Value)(hT:bD X.tab T=some ti)(hu:ti.ax=.struct fs)
  (hp:lR e parts.toList=some pv) (hfill:o8 (fun i=>fs[i]?) ti.zs pv=some cells) (hnz:fs.all (fun p=>!Nat.beq p.2 0)=true):eD X (.build T parts) e (.agg cells.toArray):=by
 intro a ha dst ty pos after guard w
 have hok:=X.ok.look hT
 obtain⟨flds,hund,hfl⟩:=XP hok hu
 have hparts:parts.map (fun p=>(p.1,a.eval p.2))=pv.toArray:=by
  apply kT.1
  simpa using ha.lR hp
 have hinfo:∀f∈flds.toList,∃i,X.P.info? f.type=some i:=fun f hf=>by
  cases hq:X.P.info? f.type with
  | some i=>exact⟨i,rfl⟩
  | none=>
   have hm:(f.offset,((X.P.info? f.type).map (·.size)).getD 0)∈fs:=by
    rw[←hfl];exact eC.2 ⟨f,hf,rfl⟩
   have:=kU.1 hnz _ hm
   simp[hq] at this
 have hplaces:(flds.mapM fun f=>(do pure (f.offset,←sizeOf f.type):Sem (Nat×Nat))).run X.P w=.ok fs.toArray w:=by
  have h1:=JC (P:=X.P) w flds.toList hinfo
  rw[hfl] at h1
  simp only[bind_pure_comp] at h1
  rw[Array.mapM_eq_mapM_toList]
  simp[h1]
 have hf:=y_ hfill
 have hfn:(fun i:Nat=>fs.toArray[i]?)=(fun i:Nat=>fs[i]?):=by funext i;simp
 have hb:(Instr.build T pv.toArray).run X.P w=.ok (.agg cells.toArray) w:=by
  unfold Instr.build
  simp only[Sem.run_bind,s_ hok,Result.andThen_ok,run_underlying hund,hplaces,hok.zero]
  simp only[hfn,hf,Sem.run_pure]
 simp only[execOp]
 rw[Sem.run_bind]
 have:(parts.map fun x=>match x with | (i,x)=>(i,a.eval x))=pv.toArray:=hparts
 rw[this,hb];rfl
def av(el esz:Nat)(a:Option Addr)(n cap:Nat)(cs:List Value):HP:=
 ⟨fun ids w=>cs.length=n*esz∧((a=none∧n=0∧cap=0∧ids=[]) ∨
   ∃b rest,a=some ⟨b,0,none⟩∧ids=[b]∧n≤cap∧(cs++rest).length=cap*esz∧w.heap[b]?=some (.cells (cs++rest).toArray el (0,0))),
  fun ids w w' hb h=>⟨h.1,h.2.imp id fun⟨b,rest,h1,h2,h3,h4,h5⟩=>⟨b,rest,h1,h2,h3,h4,(hb b yj).trans h5⟩⟩⟩
def dN(X:Cx)(L:List HP)(v:Value)(esz m:Nat)(news:List Value):Prop:=
 news.length=m*esz∧((∃a c,v=.slice a m c∧m=0)∨∃b off c,v=.slice (some ⟨b,off,none⟩) m c∧∀w,St X L w→w.rangeAt b off news)
theorem DZ{w:World}{b t:Nat}{cs:List Value}{fz:Nat×Nat}(h:w.heap[b]?=some (.cells cs.toArray t fz)){off n:Nat}{ds:List Value}(hd:(cs.drop off).take n=ds):w.rangeAt b off ds:=fun j v hv=>by
 rw[cell_of_row w b (off+j) cs.toArray t fz h]
 rw[←hd,p3] at hv
 split at hv
 ·rw[qZ] at hv;simpa using hv
 ·cases hv
theorem mH:∀{L:List HP} {i:Nat} {H:HP},L[i]?=some H→L.Perm (H::L.eraseIdx i)
 | [],_,_,h=>by simp at h
 | x::L,0,H,h=>by
  simp only[sn,Option.some.injEq] at h
  subst h;exact .refl _
 | x::L,i+1,H,h=>by
  simp only[pZ] at h
  exact((mH h).cons x).trans (.swap _ _ _)
theorem SW(zs:Array Value)(n:Nat):(Builtin.zeroCells zs n).size=n*zs.size:=by simp[Builtin.zeroCells]
theorem Jv{P:Program}{w:World}{t el:Nat}{i:TypeInfo}(hund:P.underlying t=some (.slice el))(hi:P.info? el=some i)(a d:Option Addr)(n cap c:Nat)(hnc:n≤cap)(r:Nat):
  (Builtin.append_ #[t,t] r #[.slice a n cap,.slice d 0 c]).run P w=.ok (.slice a n cap) w:=by
 cases a<;>cases d<;>simp[Builtin.append_,run_underlying hund,jm hi,Builtin.lenOf,Builtin.firstCells,hnc,storeCells,loadCells,loadCellsFrom]
theorem aG.append{X:Cx}{e:Env}{L:List HP}{t el esz n cap m:Nat}{tt te:TI}{x y:Operand}{a:Option Addr}{cs news:List Value}{v:Value}(i:Nat)
  (hx:ev e x=some (.slice a n cap)) (hy:ev e y=some v) (hL:L[i]?=some (av el esz a n cap cs)) (hT:bD X.tab t=some tt) (hu:tt.ax=.slice el) (hE:bD X.tab el=some te) (hesz:te.size=esz)
  (hr:dN X L v esz m news) (h1:news.all Value.oneCell'=true) (hb:(n+m)*te.bytes≤140737488355328) (h63:n+m≤9223372036854775807):
  aG X (.call ⟨.builtin .append,#[x,y],#[t,t]⟩) e L (fun u L'=>∃a' cap',u=.slice a' (n+m) cap'∧n+m≤cap'∧L'=av el esz a' (n+m) cap' (cs++news)::L.eraseIdx i):=by
 intro ac w ha hw dst ty pos after guard
 have hund:=nE (X.ok.look hT) hu
 have hok:=X.ok.look hE
 obtain⟨ti,hi,hsz,hbt,hz⟩:=hok.ln
 have hexec:∀u w',(Builtin.append_ #[t,t] ty #[.slice a n cap,v]).run X.P w=.ok u w' →
   (execOp ac.eval ⟨dst,.call ⟨.builtin .append,#[x,y],#[t,t]⟩,ty,pos,after,guard⟩).run X.P w=.ok (.value u) w':=fun u w' h=>by
  simp[execOp,resolve,invoke,builtin,ha.ev hx,ha.ev hy,h]
 obtain⟨F,⟨ids,K,hF,hid,hK⟩,hnd,hbd⟩:=hw.sat.perm (mH hL)
 subst hF
 obtain⟨hnl,hrd⟩:=hr
 obtain⟨hcl,hcase⟩:=hid
 have hlen:(cs++news).length=(n+m)*esz:=by rw[a_,hcl,hnl,oN]
 obtain⟨hn1,hn2,hdis⟩:=gy.1 hnd
 have stay:∀ids',HP.sat (av el esz a n cap cs) ids' w→ids'=ids→m=0→news=[]→St X (av el esz a (n+m) cap (cs++news)::L.eraseIdx i) w:=by
  rintro ids' hs rfl rfl rfl
  simp only[vu,bA]
  exact⟨⟨_,⟨ids',K,Z,hs,hK⟩,hnd,hbd⟩,hw.bL,hw.low⟩
 have hncap:n≤cap:=by rcases hcase with ⟨_,rfl,rfl,_⟩ | ⟨b,rest,_,_,h,_⟩<;>omega
 rcases hrd with ⟨d,c,rfl,rfl⟩ | ⟨b,off,c,rfl,hrg⟩
 ·have hn0:news=[]:=gI (by simpa using hnl)
  refine .inl ⟨_,w,_,hexec _ _ (Jv hund hi a d n cap c hncap ty),⟨a,cap,Z,by omega,Z⟩,stay ids ⟨hcl,hcase⟩ Z Z hn0⟩
 ·have hnews:∀j u,news[j]?=some u→w.cell? ((⟨b,off,none⟩:Addr).add j)=some u:=fun j u hj=>by rw[Addr.add_mid];exact hrg w hw j u hj
  have h1':∀u∈news,u.oneCell'=true:=kU.1 h1
  have hnl':news.length=m*ti.size:=by rw[hsz,hesz];exact hnl
  have grown:∀old:Nat,old<n+m→St X (av el esz (some ⟨w.heap.size,0,none⟩) (n+m) (grownCap w (n+m) old el) (cs++news)::L.eraseIdx i)
    (w.drew.alloc (.cells (cs.toArray++news.toArray++Builtin.zeroCells te.zero.cells (grownCap w (n+m) old el-(n+m))) el)):=by
   intro old ho
   have hge:=grownCap_ge w (n+m) old el
   have hw2:St X (L.eraseIdx i) w.drew:=⟨⟨K,df.loc (w:=w) (w':=w.drew) (fun _ _=>rfl) hK,hn2,fun b hb=>hbd b (by simp[hb])⟩,hw.bL.trans (cB.drew _ _),hw.low⟩
   refine⟨hw2.sat.alloc hw2.kl _ _ ?_,hw2.bL.trans (cB.alloc hw2.kl _),hw.low⟩
   refine⟨hlen,.inr ⟨w.heap.size,(Builtin.zeroCells te.zero.cells (grownCap w (n+m) old el-(n+m))).toList,Z,Z,hge,?_,?_⟩⟩
   ·have hzl:te.zero.cells.size=esz:=by rw[hok.zero];simp[hok.len,hesz]
    rw[a_,hlen,Array.length_toList,SW,hzl,←oN]
    congr 1;omega
   ·have:=heap_alloc_new w.drew (.cells (cs.toArray++news.toArray++Builtin.zeroCells te.zero.cells (grownCap w (n+m) old el-(n+m))) el)
    rw[show(cs++news++(Builtin.zeroCells te.zero.cells (grownCap w (n+m) old el-(n+m))).toList).toArray=cs.toArray++news.toArray++Builtin.zeroCells te.zero.cells (grownCap w (n+m) old el-(n+m)) from by
     apply kT.1;simp]
    exact this
  rcases hcase with ⟨rfl,rfl,rfl,rfl⟩ | ⟨g,rest,rfl,rfl,hnc,hcr,hh⟩
  ·have hcs0:cs=[]:=gI (by simpa using hcl)
   subst hcs0
   by_cases hm:m=0
   ·subst hm
    have hn0:news=[]:=gI (by simpa using hnl)
    refine .inl ⟨.slice none (0+0) 0,w,_,hexec _ _ ?_,⟨none,0,Z,by omega,Z⟩,stay [] ⟨hcl,.inl ⟨rfl,Z,Z,Z⟩⟩ Z Z hn0⟩
    simp[Builtin.append_,run_underlying hund,jm hi,Builtin.lenOf,Builtin.firstCells,loadCells,loadCellsFrom]
   ·have hrun:=run_append_nil (P:=X.P) w t ty el ti te.zero hund hi hz ⟨b,off,none⟩ m c news hnl' hnews yd yd (by rw[hbt];simp only[bZ] at hb;omega)
    have hg:=grown 0 yd
    simp only[bZ,kW,Array.empty_append] at hg ⊢
    exact .inl ⟨_,_,_,hexec _ _ hrun,⟨_,_,Z,grownCap_ge w m 0 el,Z⟩,hg⟩
  ·by_cases hroom:n+m≤cap
   ·have hmul:(n+m)*esz≤cap*esz:=so _ hroom
    have hfit:n*ti.size+news.length≤(cs++rest).toArray.size:=by
     rw[hsz,hesz,hnl];simp only[List.size_toArray];rw[hcr,←oN];exact hmul
    have hrun:=run_append_room (P:=X.P) w t ty el ti hund hi g n cap _ hh ⟨b,off,none⟩ m c news hnl' hnews h1' hroom hfit
    have hnew:(cs++rest).toArray.toList.take (n*ti.size)++news++(cs++rest).toArray.toList.drop (n*ti.size+news.length)=(cs++news)++rest.drop news.length:=by
     simp only[hsz,hesz]
     rw[←hcl]
     simp[List.drop_append]
    rw[hnew] at hrun
    refine .inl ⟨_,_,_,hexec _ _ hrun,⟨some ⟨g,0,none⟩,cap,Z,hroom,Z⟩,?_⟩
    have hgF:¬X.Fr g:=(hbd g yf).1
    have hne:∀x∈K,x≠g:=fun x hx he=>hdis g yf x hx he.symm
    refine⟨⟨[g]++K,⟨[g],K,Z,⟨hlen,.inr ⟨g,rest.drop news.length,Z,Z,hroom,?_,setRow_heap w g _ _ el _ hh⟩⟩,hK.loc fun x hx=>setRow_other w g x _ (hne x hx)⟩,hnd,fun x hx=>⟨(hbd x hx).1,by rw[size_setRow];exact(hbd x hx).2⟩⟩,?_,hw.low⟩
    ·rw[a_,hlen,q3]
     rw[a_,hcl] at hcr
     rw[hnl,oN];rw[oN] at hmul;omega
    ·exact hw.bL.trans ⟨rfl,Z,Z,by rw[size_setRow];exact NR _,fun x hx=>setRow_other w g x _ (fun he=>hgF (he▸hx)),NR _⟩
   ·have holds:∀j u,cs[j]?=some u→w.cell? ((⟨g,0,none⟩:Addr).add j)=some u:=fun j u hj=>by
     rw[Addr.add_mid,cell_of_row w g (0+j) _ el (0,0) hh]
     have hlt:j<cs.length:=(cH.1 hj).1
     simp[BJ,hlt]
     exact(cH.1 hj).2
    have hrun:=run_append_grow (P:=X.P) w t ty el ti te.zero hund hi hz ⟨g,0,none⟩ n cap cs (by rw[hsz,hesz];exact hcl) holds ⟨b,off,none⟩ m c news hnl' hnews yd yd (growslice_fits yd (by rw[hbt];exact hb))
    exact .inl ⟨_,_,_,hexec _ _ hrun,⟨_,_,Z,grownCap_ge w (n+m) cap el,Z⟩,grown cap yd⟩
end Vg
namespace Vg
open Go
theorem CI(n:Nat)(zs:List Value)(s:Nat)(hs:zs.length=s):((Array.range (n*s)).map (zs.toArray[· % zs.toArray.size]!))=((List.replicate n zs).flatten).toArray:=by
 apply kT.1
 simp only[Array.toList_map,Array.toList_range]
 subst hs
 induction n with
 | zero=>simp
 | succ n ih=>
  rw[List.replicate_succ',List.flatten_append,←ih,Nat.succ_mul,List.range_add,fA]
  congr 1
  simp only[List.flatten_cons,List.flatten_nil,bA,lG]
  apply List.ext_getElem
  ·simp
  ·intro i h1 h2
   simp at h1
   simp[Nat.mul_add_mod_of_lt h1,h1]
structure a7(Fr:Nat→Prop)(w:World)(b:Nat)(cs:List Value):Prop where
 fr:Fr b
 at_:∃t fz,w.heap[b]?=some (.cells cs.toArray t fz)
theorem aV.ar{Fr:Nat→Prop}{L:List HP}{w:World}(h:aV Fr L w)(i:Nat){b t:Nat}{cs:List Value}(hL:L[i]?=some (pt b cs t)):a7 Fr w b cs:=by
 obtain⟨F,hs,hf⟩:=h
 obtain⟨ids,⟨rfl,h1⟩,h2⟩:=hs.get hL
 exact⟨hf b (h2 b yf),t,(0,0),h1⟩
theorem a7.bL{X:Cx}{b:Nat}{cs:List Value}(h:a7 X.Fr X.w0 b cs){Fr':Nat→Prop}{w:World}{L:List HP}(hF:∀b,X.Fr b→Fr' b)(hw:St X L w):a7 Fr' w b cs:=by
 obtain⟨t,fz,ht⟩:=h.at_
 exact⟨hF b h.fr,t,fz,(hw.bL.block b h.fr).trans ht⟩
theorem an.ar{X:Cx}{L:List HP}{ti:TI}{b off:Nat}{cs:List Value}{v:Value}(h:a7 X.Fr X.w0 b cs)(hv:cs[off]?=some v)(ha:ti.ax.agg=false:=by rfl):an X L ti b off v:=by
 obtain⟨t,fz,ht⟩:=h.at_
 exact an.Sm h.fr ht hv ha
theorem an.h_{X:Cx}{L:List HP}{ti:TI}{b off:Nat}{cs ds:List Value}(h:a7 X.Fr X.w0 b cs)(hd:(cs.drop off).take ti.size=ds)(hl:ds.length=ti.size:=by rfl)(ha:ti.ax.agg=true:=by rfl):an X L ti b off (.agg ds.toArray):=by
 obtain⟨t,fz,ht⟩:=h.at_
 exact an.Sn h.fr ht hd hl ha
theorem dN.pt{X:Cx}{L:List HP}{b off m c esz t:Nat}{cs news:List Value}(i:Nat)(hL:L[i]?=some (pt b cs t))(hn:(cs.drop off).take (m*esz)=news)(hl:news.length=m*esz):dN X L (.slice (some ⟨b,off,none⟩) m c) esz m news:=
 ⟨hl,.inr ⟨b,off,c,rfl,fun _ hw=>DZ (hw.qf hL).1 hn⟩⟩
theorem dN.nil{X:Cx}{L:List HP}{a:Option Addr}{c esz:Nat}:dN X L (.slice a 0 c) esz 0 []:=⟨by simp,.inl ⟨a,c,rfl,rfl⟩⟩
theorem VO.Cv{X:Cx}{ops:Array Oper}{G:GS}{l:List Oper}{e:Env}{L:List HP}{K:Env→List HP→Prop}{ι:Type}(φ:ι→Prop)(M:ι→List HP)(h:∀w,St X L w→∃x,φ x∧St X (M x) w)
  (hk:∀x,φ x→VO X ops G l e (M x) K):VO X ops G l e L K:=fun Q' hQ ro a w ha hG hw=>by
 obtain⟨x,h1,h2⟩:=h w hw
 exact hk x h1 Q' hQ ro a w ha hG h2
theorem VC.Cv{X:Cx}{c:Code}{e:Env}{L:List HP}{Q:Exit→Env→List HP→Prop}{ι:Type}(φ:ι→Prop)(M:ι→List HP)(h:∀w,St X L w→∃x,φ x∧St X (M x) w)
  (hk:∀x,φ x→VC X c e (M x) Q):VC X c e L Q:=fun ro a w ha hw=>by
 obtain⟨x,h1,h2⟩:=h w hw
 exact hk x h1 ro a w ha h2
def aa(L M:List HP):Prop:=∀w F,df L F w→F.Nodup→∃F',df M F' w∧F'.Nodup∧∀b∈F',b∈F
theorem aa.ah{X:Cx}{L M:List HP}(h:aa L M):cI X L M:=fun w hw=>by
 obtain⟨F,hs,hn,hb⟩:=hw.sat
 obtain⟨F',h1,h2,h3⟩:=h w F hs hn
 exact⟨⟨F',h1,h2,fun b hb'=>hb b (h3 b hb')⟩,hw.bL,hw.low⟩
theorem aa.refl{L:List HP}:aa L L:=fun _ F hs hn=>⟨F,hs,hn,fun _ h=>h⟩
theorem aa.trans{L M N:List HP}(h:aa L M)(k:aa M N):aa L N:=fun w F hs hn=>by
 obtain⟨F',h1,h2,h3⟩:=h w F hs hn
 obtain⟨F'',k1,k2,k3⟩:=k w F' h1 h2
 exact⟨F'',k1,k2,fun b hb=>h3 b (k3 b hb)⟩
theorem aa.perm{L M:List HP}(h:L.Perm M):aa L M:=fun w F hs hn=>by
 obtain⟨G,hG,hs'⟩:=hs.perm h
 exact⟨G,hs',hG.nodup_iff.1 hn,fun b hb=>hG.mem_iff.2 hb⟩
theorem aa.nil{L:List HP}:aa L []:=fun _ _ _ _=>⟨[],rfl,.nil,fun _ h=>by cases h⟩
theorem aa.app{L L' M M':List HP}(h:aa L M)(k:aa L' M'):aa (L++L') (M++M'):=fun w F hs hn=>by
 obtain⟨G,K,rfl,hG,hK⟩:=df.append.1 hs
 obtain⟨n1,n2,nd⟩:=gy.1 hn
 obtain⟨G',g1,g2,g3⟩:=h w G hG n1
 obtain⟨K',k1,k2,k3⟩:=k w K hK n2
 refine⟨G'++K',df.append.2 ⟨G',K',Z,g1,k1⟩,gy.2 ⟨g2,k2,fun x hx y hy=>nd x (g3 x hx) y (k3 y hy)⟩,fun b hb=>?_⟩
 rcases fL.1 hb with hb | hb
 ·exact fL.2 (.inl (g3 b hb))
 ·exact fL.2 (.inr (k3 b hb))
theorem aa.cons{H:HP}{L M:List HP}(h:aa L M):aa (H::L) (H::M):=aa.app (L:=[H]) (M:=[H]) aa.refl h
theorem aa.pick{L M:List HP}{H:HP}(i:Nat)(hL:L[i]?=some H)(h:aa (L.eraseIdx i) M):aa L (H::M):=(aa.perm (mH hL)).trans h.cons
def DO:List Nat→List HP→List HP
  | [],_=>[]
  | i::l,L=>match L[i]? with
    | some H=>H::DO l (L.eraseIdx i)
    | none=>[]
theorem aZ (l:List Nat) {L:List HP}:aa L (DO l L):=by
  induction l generalizing L with
  | nil=>exact aa.nil
  | cons i l ih=>
    unfold DO
    split
    · rename_i H h;exact aa.pick i h ih
    · exact aa.nil
theorem aa.sep{L Ls M:List HP}(h:aa L (Ls++M)):aa L (b_ Ls::M):=fun w F hs hn=>by
 obtain⟨F',h1,h2,h3⟩:=h w F hs hn
 obtain⟨G,K,rfl,hG,hK⟩:=df.append.1 h1
 exact⟨G++K,⟨G,K,Z,hG,hK⟩,h2,h3⟩
theorem aa.AA{L Ls M:List HP}(h:aa (Ls++L) M):aa (b_ Ls::L) M:=fun w F hs hn=>by
 obtain⟨G,K,rfl,hG,hK⟩:=hs
 exact h w _ (df.append.2 ⟨G,K,Z,hG,hK⟩) hn
theorem aa.ex{α:Type}{f:α→HP}{L M:List HP}(x:α)(h:aa L (f x::M)):aa L (hex f::M):=fun w F hs hn=>by
 obtain⟨F',⟨G,K,rfl,hG,hK⟩,h2,h3⟩:=h w F hs hn
 exact⟨G++K,⟨G,K,Z,⟨x,hG⟩,hK⟩,h2,h3⟩
theorem aa.pure{φ:Prop}{L M:List HP}(hφ:φ)(h:aa L M):aa L (jb φ::M):=fun w F hs hn=>by
 obtain⟨F',h1,h2,h3⟩:=h w F hs hn
 exact⟨F',⟨[],F',Z,⟨rfl,hφ⟩,h1⟩,h2,h3⟩
theorem aa.sl{L M:List HP}{el esz b n cap:Nat}{cs rest:List Value}(hc:cs.length=n*esz)(hn:n≤cap)(hr:(cs++rest).length=cap*esz)(h:aa L (pt b (cs++rest) el::M)):aa L (av el esz (some ⟨b,0,none⟩) n cap cs::M):=fun w F hs hn'=>by
 obtain⟨F',⟨G,K,rfl,⟨rfl,hG⟩,hK⟩,h2,h3⟩:=h w F hs hn'
 exact⟨[b]++K,⟨[b],K,Z,⟨hc,.inr ⟨b,rest,Z,Z,hn,hr,hG⟩⟩,hK⟩,h2,h3⟩
theorem aa.cN{L M:List HP}{el esz:Nat}(h:aa L M):aa L (av el esz none 0 0 []::M):=fun w F hs hn=>by
 obtain⟨F',h1,h2,h3⟩:=h w F hs hn
 exact⟨F',⟨[],F',Z,⟨by simp,.inl ⟨rfl,Z,Z,Z⟩⟩,h1⟩,h2,h3⟩
def aY{ι:Type}(H:HP)(φ:ι→Prop)(Ls:ι→List HP):Prop:=∀w ids,H.sat ids w→ids.Nodup→∃x,φ x∧∃ids',df (Ls x) ids' w∧ids'.Nodup∧∀b∈ids',b∈ids
theorem aY.st{X:Cx}{L:List HP}{ι:Type}{H:HP}{φ:ι→Prop}{Ls:ι→List HP}(i:Nat)(hL:L[i]?=some H)(h:aY H φ Ls)(w:World)(hw:St X L w):∃x,φ x∧St X (Ls x++L.eraseIdx i) w:=by
 obtain⟨F,⟨ids,K,rfl,hid,hK⟩,hn,hb⟩:=hw.sat.perm (mH hL)
 obtain⟨n1,n2,nd⟩:=gy.1 hn
 obtain⟨x,hx,ids',h1,h2,h3⟩:=h w ids hid n1
 refine⟨x,hx,⟨⟨ids'++K,df.append.2 ⟨ids',K,Z,h1,hK⟩,gy.2 ⟨h2,n2,fun x hx y hy=>nd x (h3 x hx) y hy⟩,fun b hb'=>?_⟩,hw.bL,hw.low⟩⟩
 rcases fL.1 hb' with hb' | hb'
 ·exact hb b (fL.2 (.inl (h3 b hb')))
 ·exact hb b (fL.2 (.inr hb'))
theorem VO.bu{X:Cx}{ops:Array Oper}{G:GS}{l:List Oper}{e:Env}{L:List HP}{K:Env→List HP→Prop}{ι:Type}{H:HP}{φ:ι→Prop}{Ls:ι→List HP}(i:Nat)(hL:L[i]?=some H)(h:aY H φ Ls)
  (hk:∀x,φ x→VO X ops G l e (Ls x++L.eraseIdx i) K):VO X ops G l e L K:=VO.Cv φ _ (h.st i hL) hk
theorem VC.bu{X:Cx}{c:Code}{e:Env}{L:List HP}{Q:Exit→Env→List HP→Prop}{ι:Type}{H:HP}{φ:ι→Prop}{Ls:ι→List HP}(i:Nat)(hL:L[i]?=some H)(h:aY H φ Ls)
  (hk:∀x,φ x→VC X c e (Ls x++L.eraseIdx i) Q):VC X c e L Q:=VC.Cv φ _ (h.st i hL) hk
theorem aY.sl(el esz:Nat)(a:Option Addr)(n cap:Nat)(cs:List Value):aY (ι:=Option (Nat×List Value)) (av el esz a n cap cs)
  (fun x=>cs.length=n*esz∧n≤cap∧match x with | none=>a=none∧n=0∧cap=0∧cs=[] | some (b,rest)=>a=some ⟨b,0,none⟩∧(cs++rest).length=cap*esz)
  (fun x=>match x with | none=>[] | some (b,rest)=>[pt b (cs++rest) el]):=by
 rintro w ids ⟨hc,⟨rfl,rfl,rfl,rfl⟩ | ⟨b,rest,rfl,rfl,hn,hr,hh⟩⟩ hnd
 ·exact⟨none,⟨hc,NR _,rfl,rfl,rfl,gI (by simpa using hc)⟩,[],rfl,.nil,fun _ h=>by cases h⟩
 ·exact⟨some (b,rest),⟨hc,hn,Z,hr⟩,[b],⟨[b],[],Z,⟨rfl,hh⟩,Z⟩,by simp,fun _ h=>h⟩
section
variable {X:Cx} {ops:Array Oper} {G:GS} {l:List Oper} {e:Env} {L:List HP} {K:Env→List HP→Prop}
  {dst:Option Tmp} {ty:TypeId} {pos:String} {after:Array Edge} {guard:Option (Nat×Bool)}
theorem VO.call{f:FuncId}{args:Array Operand}{tys:Array TypeId}{vals:List Value}{R:Value→List HP→Prop}{Lc Lr:List HP}
  (ht:∀Fr' w,(∀b,X.Fr b→Fr' b)→St X L w→aV Fr' Lr w→aq X.P f vals Fr' w Lc R) (hargs:dZ e args.toList=some vals) (hL:L=Lc++Lr)
  (hk:∀v L1,R v L1→VO X ops G l (bI dst v e) (L1++Lr) K)
  (hg:bN ops G guard=some true:=by rfl) (hd:b9 X.n dst=true:=by rfl) (hf:bP G dst=true:=by rfl):
  VO X ops G (⟨dst,.call ⟨.value (.func f),args,tys⟩,ty,pos,after,guard⟩::l) e L K:=
 VO.op hg hd hf (aG.call hargs (hL▸.refl _) ht) fun v L' ⟨L1,h1,h2⟩=>by subst h2;exact hk v L1 h1
theorem VO.append{t el esz n cap m:Nat}{tt te:TI}{x y:Operand}{a:Option Addr}{cs news:List Value}{v:Value}(i:Nat)
  (hx:ev e x=some (.slice a n cap)) (hy:ev e y=some v) (hL:L[i]?=some (av el esz a n cap cs)) (hT:bD X.tab t=some tt) (hu:tt.ax=.slice el) (hE:bD X.tab el=some te) (hesz:te.size=esz)
  (hr:dN X L v esz m news) (h1:news.all Value.oneCell'=true) (hb:(n+m)*te.bytes≤140737488355328) (h63:n+m≤9223372036854775807)
  (hk:∀a' cap',n+m≤cap'→VO X ops G l (bI dst (.slice a' (n+m) cap') e) (av el esz a' (n+m) cap' (cs++news)::L.eraseIdx i) K)
  (hg:bN ops G guard=some true:=by rfl) (hd:b9 X.n dst=true:=by rfl) (hf:bP G dst=true:=by rfl):
  VO X ops G (⟨dst,.call ⟨.builtin .append,#[x,y],#[t,t]⟩,ty,pos,after,guard⟩::l) e L K:=
 VO.op hg hd hf (aG.append i hx hy hL hT hu hE hesz hr h1 hb h63) fun u L' ⟨a',cap',h1,h2,h3⟩=>by subst h1;subst h3;exact hk a' cap' h2
theorem aG.buildSlice{T:TypeId}{n:Nat}{parts:Array (Nat×Operand)}{tt te:TI}{el:Nat}{pv:List (Nat×Value)}{cells:List Value}(hT:bD X.tab T=some tt)(hu:tt.ax=.slice el)(hE:bD X.tab el=some te)
  (hp:lR e parts.toList=some pv) (hn:n*te.size≤16777216) (hfill:o8 (fun i=>some (i*te.size,te.size)) (List.replicate n te.zs).flatten pv=some cells):
  aG X (.buildSlice T n parts) e L (fun u L'=>∃b,u=.slice (some ⟨b,0,none⟩) n n∧L'=pt b cells el::L):=fun a w ha hw dst ty pos after guard=>by
 have hund:=nE (X.ok.look hT) hu
 have hok:=X.ok.look hE
 obtain⟨i,hi,hsz,_,_⟩:=hok.ln
 have hparts:(parts.map fun x=>match x with | (i,x)=>(i,a.eval x))=pv.toArray:=by
  apply kT.1
  simpa using ha.lR hp
 have hzero:((Array.range (n*te.size)).map (te.zs.toArray[· % te.zs.toArray.size]!))=((List.replicate n te.zs).flatten).toArray:=CI n te.zs te.size hok.len
 have hff:=y_ hfill
 refine .inl ⟨.slice (some ⟨w.heap.size,0,none⟩) n n,w.alloc (.cells cells.toArray el),_,?_,⟨w.heap.size,Z,Z⟩,hw.alloc cells el⟩
 have hlim:¬(n*te.size > 2 ^ 24):=by simpa using hn
 have hb:(Instr.buildSlice T n pv.toArray).run X.P w=.ok (.slice (some ⟨w.heap.size,0,none⟩) n n) (w.alloc (.cells cells.toArray el)):=by
  unfold Instr.buildSlice
  by_cases h0:n*te.size=0
  ·have hz0:(List.replicate n te.zs).flatten=[]:=by
    apply gI
    simp[hok.len,h0]
   rw[hz0] at hff
   have e0:∀f:Nat→Value,(Array.range 0).map f=#[]:=fun f=>by simp
   have h2:¬(0 > 2 ^ 24):=by decide
   simp only[Sem.run_bind,run_underlying hund,Result.andThen_ok,jm hi,hsz,h2,if_false,h0,if_true,Sem.run_pure,e0]
   simp[hff,newRow,newObj,Sem.run]
  ·simp only[Sem.run_bind,run_underlying hund,Result.andThen_ok,jm hi,hsz,hlim,if_false,h0,Sem.run_pure,s_ hok,hok.zero,hzero]
   simp[hff,newRow,newObj,Sem.run]
 simp only[execOp]
 rw[Sem.run_bind,hparts,hb];rfl
theorem VO.buildSlice{T:TypeId}{n:Nat}{parts:Array (Nat×Operand)}{tt te:TI}{el:Nat}{pv:List (Nat×Value)}(cells:List Value)(hT:bD X.tab T=some tt)(hu:tt.ax=.slice el)(hE:bD X.tab el=some te)
  (hp:lR e parts.toList=some pv) (hn:n*te.size≤16777216) (hfill:o8 (fun i=>some (i*te.size,te.size)) (List.replicate n te.zs).flatten pv=some cells)
  (hk:∀b,VO X ops G l (bI dst (.slice (some ⟨b,0,none⟩) n n) e) (pt b cells el::L) K)
  (hg:bN ops G guard=some true:=by rfl) (hd:b9 X.n dst=true:=by rfl) (hf:bP G dst=true:=by rfl):
  VO X ops G (⟨dst,.buildSlice T n parts,ty,pos,after,guard⟩::l) e L K:=
 VO.op hg hd hf (aG.buildSlice hT hu hE hp hn hfill) fun u L' ⟨b,h1,h2⟩=>by subst h1;subst h2;exact hk b
theorem fN{v:Value}{vs zs:List Value}{s:Nat}(hv:v.cells=vs.toArray)(hs:vs.length=s)(hz:zs.length=s):o8 (fun i=>some (i*s,s)) (List.replicate 1 zs).flatten [(0,v)]=some vs:=by
 have h1:v.cells.toList=vs:=by rw[hv]
 have h2:(List.replicate 1 zs).flatten=zs:=by show zs ++ []=zs;simp
 have h3:cT zs 0 vs=vs:=by
  unfold cT
  rw[List.drop_of_length_le yd];simp
 have h4:Nat.beq vs.length s=true:=by rw[hs];exact Nat.beq_refl s
 have h5:Nat.ble s zs.length=true:=by rw[hz];exact Nat.ble_eq.mpr (NR s)
 simp only[o8,h1,h2,Nat.zero_mul,bZ,h3,h4,h5,Bool.and_self,cond_true]
theorem aG.makeSlice{T:TypeId}{x y:Operand}{tt te:TI}{el:Nat}{k k':IntKind}(n:Nat)(hx:ev e x=some (.int k n))(hy:ev e y=some (.int k' n))(hT:bD X.tab T=some tt)(hu:tt.ax=.slice el)(hE:bD X.tab el=some te)
  (hn:n≤9223372036854775807) (hb:te.bytes*n≤281474976710656):
  aG X (.makeSlice T x y) e L (fun u L'=>∃b,u=.slice (some ⟨b,0,none⟩) n n∧L'=pt b (List.replicate n te.zs).flatten el::L):=fun a w ha hw dst ty pos after guard=>by
 have hund:=nE (X.ok.look hT) hu
 have hok:=X.ok.look hE
 obtain⟨i,hi,hsz,hby,hz⟩:=hok.ln
 have hzero:=CI n te.zs te.size hok.len
 refine .inl ⟨.slice (some ⟨w.heap.size,0,none⟩) n n,w.alloc (.cells (List.replicate n te.zs).flatten.toArray el),_,?_,⟨w.heap.size,Z,Z⟩,hw.alloc _ el⟩
 have hrun:=run_make (P:=X.P) w T el i te.zero hund hi hz k k' n n yd yd (by
  have h1:((te.bytes*n:Nat):Int)≤((281474976710656:Nat):Int):=Int.ofNat_le.2 hb
  rw[Int.natCast_mul] at h1
  rw[hby];exact h1) yd
 have hmc:madeCells te.zero.cells ((n:Int).toNat*i.size)=(List.replicate n te.zs).flatten.toArray:=by
  rw[←hzero,hok.zero,hsz];rfl
 rw[hmc] at hrun
 simp only[execOp,ha.ev hx,ha.ev hy]
 rw[Sem.run_bind,hrun];rfl
theorem VO.makeSlice{T:TypeId}{x y:Operand}{tt te:TI}{el:Nat}{k k':IntKind}{i j:Int}(n:Nat)(hx:ev e x=some (.int k i))(hy:ev e y=some (.int k' j))(hT:bD X.tab T=some tt)(hu:tt.ax=.slice el)(hE:bD X.tab el=some te)
  (hi:i=n) (hj:j=n) (hn:n≤9223372036854775807) (hb:te.bytes*n≤281474976710656)
  (hk:∀b,VO X ops G l (bI dst (.slice (some ⟨b,0,none⟩) n n) e) (pt b (List.replicate n te.zs).flatten el::L) K)
  (hg:bN ops G guard=some true:=by rfl) (hd:b9 X.n dst=true:=by rfl) (hf:bP G dst=true:=by rfl):
  VO X ops G (⟨dst,.makeSlice T x y,ty,pos,after,guard⟩::l) e L K:=by
 subst hi;subst hj
 exact VO.op hg hd hf (aG.makeSlice n hx hy hT hu hE hn hb) fun u L' ⟨b,h1,h2⟩=>by subst h1;subst h2;exact hk b
end
end Vg
namespace Vg
open Go
theorem Ai{P:Program}{t:Nat}{ti:TI}(h:aE P t ti){b off:Nat}{v:Value}{w:World}(hr:Rd ti.ax.agg ti.size b off v w):(loadVar t ⟨b,off,none⟩).run P w=.ok v w:=by
 have:=JA h hr
 unfold Instr.loadAt at this
 simpa[Instr.sureAddr] using this
theorem al.cell{X:Cx}{fn:Func}{R:Value→List HP→Prop}{e:Env}{L:List HP}{T:TypeId}{ti:TI}{b:Nat}{v:Value}(p:Nat)(h:fn.results=#[.cell p T])(hp:look e p=some (.pointer (some ⟨b,0,none⟩)))(hT:bD X.tab T=some ti)
  (hr:an X L ti b 0 v) {L':List HP} (he:cI X L L') (hR:R v L'):al X fn R e L:=
 ⟨v,L',⟨fun a w ha hw=>by
  have:=Ai (X.ok.look hT) (hr w hw)
  have hp':=ha.at_ p _ hp
  simp only[vm] at hp'
  simp[results,h,hp',asAddr,this]⟩,he,hR⟩
theorem al.cJ{X:Cx}{fn:Func}{R:Value→List HP→Prop}{e:Env}{L:List HP}{T:TypeId}{ti:TI}{b:Nat}{v u:Value}(p q:Nat)(h:fn.results=#[.cell p T,.tmp q])(hp:look e p=some (.pointer (some ⟨b,0,none⟩)))(hT:bD X.tab T=some ti)
  (hr:an X L ti b 0 v) (hq:look e q=some u) {L':List HP} (he:cI X L L') (hR:R (.tuple #[v,u]) L'):al X fn R e L:=
 ⟨_,L',⟨fun a w ha hw=>by
  have:=Ai (X.ok.look hT) (hr w hw)
  have hp':=ha.at_ p _ hp
  have hq':=ha.at_ q _ hq
  simp only[vm] at hp' hq'
  simp[results,h,hp',hq',asAddr,this]⟩,he,hR⟩
section
variable {X:Cx} {ops:Array Oper} {G:GS} {l:List Oper} {e:Env} {L:List HP} {K:Env→List HP→Prop}
  {dst:Option Tmp} {ty:TypeId} {pos:String} {after:Array Edge} {guard:Option (Nat×Bool)}
theorem aG.clear{t el b off n cap tb:Nat}{tt te:TI}{x:Operand}{cs:List Value}(i:Nat)(hx:ev e x=some (.slice (some ⟨b,off,none⟩) n cap))(hL:L[i]?=some (pt b cs tb))(hT:bD X.tab t=some tt)(hu:tt.ax=.slice el)(hE:bD X.tab el=some te)
  (hn:0<n) (hl:off+n*te.size≤cs.length) (h1:te.zs.all Value.oneCell'=true):
  aG X (.call ⟨.builtin .clear,#[x],#[t]⟩) e L (fun u L'=>u=.tuple #[]∧L'=L.set i (pt b (cT cs off (List.replicate n te.zs).flatten) tb)):=fun a w ha hw dst ty pos after guard=>by
 have hund:=nE (X.ok.look hT) hu
 have hok:=X.ok.look hE
 obtain⟨h0,hf⟩:=hw.qf hL
 have hlen:((List.replicate n te.zs).flatten).length=n*te.size:=by simp[hok.len]
 have hz:Builtin.zeroCells te.zs.toArray n=((List.replicate n te.zs).flatten).toArray:=by
  have:=CI n te.zs te.size hok.len
  unfold Builtin.zeroCells
  simpa[hok.len] using this
 have hall:((List.replicate n te.zs).flatten).all Value.oneCell'=true:=by
  rw[kU] at h1 ⊢
  intro v hv
  obtain⟨l,hl,hv⟩:=List.mem_flatten.1 hv
  rw[List.mem_replicate] at hl
  exact h1 v (hl.2▸hv)
 have hst:=Ea (P:=X.P) _ 0 off w cs h0 (by rw[hlen];simpa using hl) hall
 simp only[vu] at hst
 refine .inl ⟨_,_,_,?_,⟨rfl,Z⟩,hw.set hL⟩
 have hn0:n≠0:=by omega
 have hb:(Builtin.clear_ #[t] ty #[.slice (some ⟨b,off,none⟩) n cap]).run X.P w=.ok (.tuple #[]) (dq w b (.cells (cT cs off (List.replicate n te.zs).flatten).toArray tb (0,0))):=by
  obtain⟨k,rfl⟩:∃k,n=k+1:=⟨n-1,by omega⟩
  simp[Builtin.clear_,run_underlying hund,s_ hok,hok.zero,hz,hst]
 simp[execOp,resolve,invoke,builtin,ha.ev hx,hb]
theorem nk{xt yt:TypeId}{x y:Operand}{s t:ByteArray}(hx:ev e x=some (.string s))(hy:ev e y=some (.string t))(hs:s.size+t.size≤9223372036854775807):eD X (.binOp .add xt x y yt) e (.string (s++t)):=by
 intro a ha dst ty pos after guard w
 have h:¬(((s.size+t.size:Nat):Int) > IntKind.i64.max):=by
  have:IntKind.i64.max=9223372036854775807:=rfl
  omega
 have hb:Op.stringOp .add s t=pure (.string (s++t)):=by
  unfold Op.stringOp
  rw[if_neg h]
 simp only[execOp,ha.ev hx,ha.ev hy]
 show((do eqGuard .add xt x y (.string s) (.string t);Op.stringOp .add s t:Sem Value) >>= fun v=>pure (Next.value v)).run X.P w=_
 rw[hb];rfl
theorem aG.str{s d el b n cap tb:Nat}{ts td te:TI}{x:Operand}{bs:List UInt8}{cs:List Value}(i:Nat)(hx:ev e x=some (.slice (some ⟨b,0,none⟩) n cap))(hL:L[i]?=some (pt b cs tb))(hS:bD X.tab s=some ts)(hsu:ts.ax=.slice el)(hE:bD X.tab el=some te)(hEu:te.ax=.int .u8)
  (hD:bD X.tab d=some td) (hdu:td.ax=.string) (hn:bs.length=n) (hcs:cs.take n=bs.map fun c=>Value.int .u8 (c.toNat:Int)):
  aG X (.convert s d x) e L (fun u L'=>u=.string ⟨bs.toArray⟩∧L'=L):=fun a w ha hw dst ty pos after guard=>by
 have h1:=nE (X.ok.look hS) hsu
 have h2:=Ew (X.ok.look hE) hEu
 have h3:=Ay (X.ok.look hD) hdu
 obtain⟨h0,_⟩:=hw.qf hL
 have hr:=run_convert_bytes_back (P:=X.P) w s d el ⟨b,0,none⟩ cap bs h1 h2 h3 (fun j hj=>by
  rw[Addr.add_mid,cell_of_row w b (0+j) _ tb (0,0) h0]
  have:(cs.take n)[j]?=some (.int .u8 (bs[j].toNat:Int)):=by rw[hcs];simp[hj]
  rw[p3,if_pos yd] at this
  simpa using this)
 rw[hn] at hr
 refine .inl ⟨_,w,L,?_,⟨rfl,Z⟩,hw⟩
 simp only[execOp,ha.ev hx]
 rw[Sem.run_bind,hr];rfl
end
section
variable {X:Cx} {ops:Array Oper} {G:GS} {pl:fU} {S:iF} {e:Env} {L:List HP} {K:Env→List HP→Prop}
  {dst:Option Tmp} {ty:TypeId} {pos:String} {after:Array Edge} {guard:Option (Nat×Bool)}
theorem VA.wk{i:Nat}{op:Op}{v:Value}(hi:ops.toList[i]?=some ⟨dst,op,ty,pos,after,guard⟩)(hl:eD X op e v)(hk:VA X ops G pl S (bI dst v e) L K)
  (hg:bN ops G guard=some true:=by rfl) (hd:b9 X.n dst=true:=by rfl) (hf:bP G dst=true:=by rfl):VA X ops G (.take i pl) S e L K:=
 VA.pure hi hg hd hf hl hk
theorem VA.arith{op:BinOp}{xt yt:TypeId}{x y:Operand}{k:IntKind}{a b:Int}{i:Nat}(z:Int)(hi:ops.toList[i]?=some ⟨dst,.binOp op xt x y yt,ty,pos,after,guard⟩)
  (hx:ev e x=some (.int k a)) (hy:ev e y=some (.int k b))
  (hz:(match op with | .add=>k.wrap (a+b)=z | .sub=>k.wrap (a-b)=z | .mul=>k.wrap (a*b)=z | _=>False))
  (hk:VA X ops G pl S (bI dst (.int k z) e) L K)
  (hg:bN ops G guard=some true:=by rfl) (hd:b9 X.n dst=true:=by rfl) (hf:bP G dst=true:=by rfl):VA X ops G (.take i pl) S e L K:=by
 refine VA.pure hi hg hd hf ?_ hk
 intro a' ha dst ty pos after guard w
 cases op<;>simp only at hz
 case add=>simp[execOp,ha.ev hx,ha.ev hy,eqGuard,binOp,Op.intArith,hz]
 case sub=>simp[execOp,ha.ev hx,ha.ev hy,eqGuard,binOp,Op.intArith,hz]
 case mul=>simp[execOp,ha.ev hx,ha.ev hy,eqGuard,binOp,Op.intArith,hz]
theorem VA.add{xt yt:TypeId}{x y:Operand}{a b:Int}{i:Nat}(hi:ops.toList[i]?=some ⟨dst,.binOp .add xt x y yt,ty,pos,after,guard⟩)
  (hx:ev e x=some (.int .i64 a)) (hy:ev e y=some (.int .i64 b)) (h1:-9223372036854775808≤a+b) (h2:a+b≤9223372036854775807)
  (hk:VA X ops G pl S (bI dst (.int .i64 (a+b)) e) L K)
  (hg:bN ops G guard=some true:=by rfl) (hd:b9 X.n dst=true:=by rfl) (hf:bP G dst=true:=by rfl):VA X ops G (.take i pl) S e L K:=VA.arith (a+b) hi hx hy (i64_in _ h1 h2) hk hg hd hf
theorem VA.uN{xt yt:TypeId}{x y:Operand}{a b:Int}{i:Nat}(hi:ops.toList[i]?=some ⟨dst,.binOp .sub xt x y yt,ty,pos,after,guard⟩)
  (hx:ev e x=some (.int .i64 a)) (hy:ev e y=some (.int .i64 b)) (h1:-9223372036854775808≤a-b) (h2:a-b≤9223372036854775807)
  (hk:VA X ops G pl S (bI dst (.int .i64 (a-b)) e) L K)
  (hg:bN ops G guard=some true:=by rfl) (hd:b9 X.n dst=true:=by rfl) (hf:bP G dst=true:=by rfl):VA X ops G (.take i pl) S e L K:=VA.arith (a-b) hi hx hy (i64_in _ h1 h2) hk hg hd hf
theorem VA.GF{f:FuncId}{args:Array Operand}{tys:Array TypeId}{vals:List Value}{u:Value}{i:Nat}
  (ht:∀Fr' w,(∀b,X.Fr b→Fr' b)→St X L w→aV Fr' L w→aq X.P f vals Fr' w [] (fun v L=>v=u∧L=[]))
  (hi:ops.toList[i]?=some ⟨dst,.call ⟨.value (.func f),args,tys⟩,ty,pos,after,guard⟩) (hargs:dZ e args.toList=some vals)
  (hst:∀w,St X L w→∀p∈S,waits ops i p.1=false→p.2 w)
  (hk:VA X ops G pl (S.filter fun p=>!waits ops i p.1) (bI dst u e) L K)
  (hg:bN ops G guard=some true:=by rfl) (hd:b9 X.n dst=true:=by rfl) (hf:bP G dst=true:=by rfl):VA X ops G (.only i pl) S e L K:=by
 refine VA.op (M:=fun v L'=>v=u∧L'=L) hi hg hd hf ?_ (fun v L' ⟨_,h2⟩ w hw=>by subst h2;exact hst w hw) (fun v L' ⟨h1,h2⟩=>by subst h1;subst h2;exact hk)
 intro a w ha hw dst ty pos after guard
 rcases aG.call (R:=fun v L=>v=u∧L=[]) hargs (Lc:=[]) (Lr:=L) (.refl _) ht a w ha hw dst ty pos after guard with ⟨v,w',L',h1,⟨L1,⟨h2,h3⟩,h4⟩,h5⟩ | ⟨w',L',h1,⟨L1,⟨h2,h3⟩,h4⟩,h5⟩ | ⟨f,args,h1,h2⟩
 ·exact .inl ⟨v,w',L',h1,⟨h2,by rw[h4,h3];rfl⟩,h5⟩
 ·exact .inr (.inl ⟨w',L',h1,⟨h2,by rw[h4,h3];rfl⟩,h5⟩)
 ·refine .inr (.inr ⟨f,args,h1,Calls.mono h2 fun en w' ⟨v,L',h3,⟨L1,⟨h4,h5⟩,h6⟩,h7⟩=>⟨v,L',h3,⟨h4,by rw[h6,h5];rfl⟩,h7⟩⟩)
end
end Vg
namespace Vg
open Go
def flat{α:Type}(c:α→List Value)(l:List α):List Value:=(l.map c).flatten
section
variable {α:Type} {c:α→List Value} {n:Nat}
theorem qk:flat c []=[]:=rfl
theorem ki(a:α)(l:List α):flat c (a::l)=c a++flat c l:=by simp[flat]
theorem ik(l m:List α):flat c (l++m)=flat c l++flat c m:=by simp[flat]
theorem dS(h:∀a,(c a).length=n):∀l:List α,(flat c l).length=l.length*n
 | []=>by simp[flat]
 | a::l=>by rw[ki,a_,h,dS h l,mh,oN,Nat.one_mul,Nat.add_comm]
theorem za(h:∀a,(c a).length=n):∀(i:Nat) (l:List α) (rest:List Value),i≤l.length→(flat c l++rest).drop (i*n)=flat c (l.drop i)++rest
 | 0,l,rest,_=>by simp
 | i+1,[],rest,hi=>by simp at hi
 | i+1,a::l,rest,hi=>by
  rw[ki,oN,Nat.one_mul,Nat.add_comm (i*n),eV,←List.drop_drop]
  have:(c a++(flat c l++rest)).drop n=flat c l++rest:=by rw[←h a];simp
  rw[this,za h i l rest yk];rfl
theorem kK(h:∀a,(c a).length=n){i:Nat}{l:List α}{a:α}(ha:l[i]?=some a)(rest:List Value):((flat c l++rest).drop (i*n)).take n=c a:=by
 have hi:i<l.length:=(cH.1 ha).1
 rw[za h i l rest (Nat.le_of_lt hi),xG hi,(cH.1 ha).2,ki,eV,←h a]
 simp
theorem o9(h:∀a,(c a).length=n){i j:Nat}{l:List α}{a:α}{v:Value}(ha:l[i]?=some a)(hj:(c a)[j]?=some v)(rest:List Value):(flat c l++rest)[i*n+j]?=some v:=by
 have hjn:j<n:=by rw[←h a];exact(cH.1 hj).1
 have:=kK h ha rest
 rw[←this,p3,if_pos hjn,qZ] at hj
 exact hj
theorem rH(h:∀a,(c a).length=n):∀{i:Nat} {l:List α} (a:α) (rest:List Value),i<l.length→cT (flat c l++rest) (i*n) (c a)=flat c (l.set i a)++rest
 | 0,[],a,rest,hi=>by simp at hi
 | 0,b::l,a,rest,_=>by
  simp only[cT,List.set_cons_zero,ki,Nat.zero_mul,p5,kW,bZ,eV]
  have:(c b++(flat c l++rest)).drop (c a).length=flat c l++rest:=by rw[h a,←h b];simp
  rw[this]
 | i+1,[],a,rest,hi=>by simp at hi
 | i+1,b::l,a,rest,hi=>by
  have ih:=rH h (i:=i) (l:=l) a rest yk
  have e:(i+1)*n=(c b).length+i*n:=by rw[h b,oN];omega
  simp only[vt,ki,eV]
  unfold cT at ih ⊢
  rw[e,List.take_length_add_append,Nat.add_assoc,List.drop_length_add_append,←ih]
  simp
theorem ue(h:∀a,(c a).length=n){i j:Nat}{l:List α}{a a':α}{v:Value}(ha:l[i]?=some a)(hj:j<n)(hc:(c a).set j v=c a')(rest:List Value):(flat c l++rest).set (i*n+j) v=flat c (l.set i a')++rest:=by
 have hi:i<l.length:=(cH.1 ha).1
 have hL:(flat c l++rest).length=l.length*n+rest.length:=by rw[a_,dS h]
 have h1:=rH h a' rest hi
 rw[←h1,←hc]
 have hle:(i+1)*n≤l.length*n:=so n hi
 rw[oN,Nat.one_mul] at hle
 have hr:=kK h ha rest
 apply oL
 intro k
 unfold cT
 rw[eV,BJ,BJ]
 have hca:=h a
 simp only[gk,iT,hca,hL]
 rw[xN yd]
 split
 ·rw[ky yd,p3,if_pos (by assumption)]
 ·rename_i hk
  split
  ·rename_i hk2
   by_cases hkj:k=i*n+j
   ·subst hkj
    rw[hO yd,Nat.add_sub_cancel_left,hO yd]
   ·rw[ky yd,ky yd,←hr,p3,if_pos hk2,qZ]
    congr 1;omega
  ·rename_i hk2
   rw[ky yd,qZ]
   congr 1;omega
theorem HA(m:Nat)(a:α):(List.replicate m (c a)).flatten=flat c (List.replicate m a):=by simp[flat]
theorem oa{p:Value→Bool}(h:∀a,(c a).all p=true)(l:List α):(flat c l).all p=true:=by
 rw[kU];intro v hv
 obtain⟨r,hr,hv⟩:=List.mem_flatten.1 hv
 obtain⟨a,_,rfl⟩:=eC.1 hr
 exact kU.1 (h a) v hv
end
theorem aV.at_{Fr:Nat→Prop}{L:List HP}{w:World}(h:aV Fr L w)(i:Nat){H:HP}(hL:L[i]?=some H):aV Fr [H] w:=by
 obtain⟨F,hs,hf⟩:=h
 obtain⟨ids,h1,h2⟩:=hs.get hL
 exact⟨ids,⟨ids,[],by simp,h1,Z⟩,fun b hb=>hf b (h2 b hb)⟩
theorem aV.ex{Fr:Nat→Prop}{α:Type}{f:α→HP}{w:World}(h:aV Fr [hex f] w):∃x,aV Fr [f x] w:=by
 obtain⟨F,⟨ids,G,hF,⟨x,hx⟩,hG⟩,hf⟩:=h
 exact⟨x,F,⟨ids,G,hF,hx,hG⟩,hf⟩
theorem aV.sep{Fr:Nat→Prop}{L:List HP}{w:World}(h:aV Fr [b_ L] w):aV Fr L w:=by
 obtain⟨F,⟨ids,G,hF,hx,hG⟩,hf⟩:=h
 exact⟨ids,hx,fun b hb=>hf b (by rw[hF];exact fL.2 (.inl hb))⟩
theorem aV.pure{Fr:Nat→Prop}{L:List HP}{w:World}(h:aV Fr L w)(i:Nat){φ:Prop}(hL:L[i]?=some (jb φ)):φ:=by
 obtain⟨F,hs,hf⟩:=h
 obtain⟨ids,h1,h2⟩:=hs.get hL
 exact h1.2
theorem aV.tail{Fr:Nat→Prop}{H:HP}{L:List HP}{w:World}(h:aV Fr (H::L) w):aV Fr L w:=by
 obtain⟨F,⟨G,K,rfl,_,hK⟩,hf⟩:=h
 exact⟨K,hK,fun b hb=>hf b (fL.2 (.inr hb))⟩
theorem aV.shut{Fr:Nat→Prop}{α:Type}{φ:α→Prop}{Ls:α→List HP}{w:World}(x:α)(hx:φ x)(h:aV Fr (Ls x) w):aV Fr [hex fun x=>b_ (jb (φ x)::Ls x)] w:=by
 obtain⟨F,hs,hf⟩:=h
 exact⟨F,⟨F,[],by simp,⟨x,[],F,Z,⟨rfl,hx⟩,hs⟩,Z⟩,hf⟩
theorem aV.of{X:Cx}{Fr':Nat→Prop}{L:List HP}(hw:aV X.Fr L X.w0)(hF:∀b,X.Fr b→Fr' b){M:List HP}{w':World}(hs:St X M w'):aV Fr' L w':=by
 obtain⟨F,h1,h2⟩:=hw
 exact⟨F,h1.loc (fun b hb=>hs.bL.block b (h2 b hb)),fun b hb=>hF b (h2 b hb)⟩
theorem a7.of{X:Cx}{b:Nat}{cs:List Value}(h:a7 X.Fr X.w0 b cs){Fr':Nat→Prop}(hF:∀b,X.Fr b→Fr' b){w:World}{L:List HP}(hw:St X L w):a7 Fr' w b cs:=h.bL hF hw
section
variable {X:Cx} {ops:Array Oper} {G:GS} {l:List Oper} {pl:fU} {S:iF} {e:Env} {L:List HP} {K:Env→List HP→Prop}
  {dst:Option Tmp} {ty:TypeId} {pos:String} {after:Array Edge} {guard:Option (Nat×Bool)}
theorem aG.dI{φ:Value→Prop}{f:FuncId}{args:Array Operand}{tys:Array TypeId}{vals:List Value}
  (ht:∀Fr' w,(∀b,X.Fr b→Fr' b)→St X L w→aV Fr' L w→aq X.P f vals Fr' w [] (fun v L=>φ v∧L=[])) (hargs:dZ e args.toList=some vals):
  aG X (.call ⟨.value (.func f),args,tys⟩) e L (fun v L'=>φ v∧L'=L):=by
 intro a w ha hw dst ty pos after guard
 rcases aG.call (R:=fun v L=>φ v∧L=[]) hargs (Lc:=[]) (Lr:=L) (.refl _) ht a w ha hw dst ty pos after guard with ⟨v,w',L',h1,⟨L1,⟨h2,h3⟩,h4⟩,h5⟩ | ⟨w',L',h1,⟨L1,⟨h2,h3⟩,h4⟩,h5⟩ | ⟨f,args,h1,h2⟩
 ·exact .inl ⟨v,w',L',h1,⟨h2,by rw[h4,h3];rfl⟩,h5⟩
 ·exact .inr (.inl ⟨w',L',h1,⟨h2,by rw[h4,h3];rfl⟩,h5⟩)
 ·refine .inr (.inr ⟨f,args,h1,Calls.mono h2 fun en w' ⟨v,L',h3,⟨L1,⟨h4,h5⟩,h6⟩,h7⟩=>⟨v,L',h3,⟨h4,by rw[h6,h5];rfl⟩,h7⟩⟩)
theorem VO.dI{φ:Value→Prop}{f:FuncId}{args:Array Operand}{tys:Array TypeId}{vals:List Value}
  (ht:∀Fr' w,(∀b,X.Fr b→Fr' b)→St X L w→aV Fr' L w→aq X.P f vals Fr' w [] (fun v L=>φ v∧L=[])) (hargs:dZ e args.toList=some vals)
  (hk:∀v,φ v→VO X ops G l (bI dst v e) L K)
  (hg:bN ops G guard=some true:=by rfl) (hd:b9 X.n dst=true:=by rfl) (hf:bP G dst=true:=by rfl):
  VO X ops G (⟨dst,.call ⟨.value (.func f),args,tys⟩,ty,pos,after,guard⟩::l) e L K:=
 VO.op hg hd hf (aG.dI ht hargs) fun v L' ⟨h1,h2⟩=>by subst h2;exact hk v h1
theorem VO.GG{u:Value}{f:FuncId}{args:Array Operand}{tys:Array TypeId}{vals:List Value}
  (ht:∀Fr' w,(∀b,X.Fr b→Fr' b)→St X L w→aV Fr' L w→aq X.P f vals Fr' w [] (fun v L=>v=u∧L=[])) (hargs:dZ e args.toList=some vals)
  (hk:VO X ops G l (bI dst u e) L K)
  (hg:bN ops G guard=some true:=by rfl) (hd:b9 X.n dst=true:=by rfl) (hf:bP G dst=true:=by rfl):
  VO X ops G (⟨dst,.call ⟨.value (.func f),args,tys⟩,ty,pos,after,guard⟩::l) e L K:=
 VO.dI ht hargs (fun v h=>by subst h;exact hk) hg hd hf
theorem VA.dI{φ:Value→Prop}{f:FuncId}{args:Array Operand}{tys:Array TypeId}{vals:List Value}{i:Nat}
  (ht:∀Fr' w,(∀b,X.Fr b→Fr' b)→St X L w→aV Fr' L w→aq X.P f vals Fr' w [] (fun v L=>φ v∧L=[]))
  (hi:ops.toList[i]?=some ⟨dst,.call ⟨.value (.func f),args,tys⟩,ty,pos,after,guard⟩) (hargs:dZ e args.toList=some vals)
  (hst:∀w,St X L w→∀p∈S,waits ops i p.1=false→p.2 w)
  (hk:∀v,φ v→VA X ops G pl (S.filter fun p=>!waits ops i p.1) (bI dst v e) L K)
  (hg:bN ops G guard=some true:=by rfl) (hd:b9 X.n dst=true:=by rfl) (hf:bP G dst=true:=by rfl):VA X ops G (.only i pl) S e L K:=
 VA.op (M:=fun v L'=>φ v∧L'=L) hi hg hd hf (aG.dI ht hargs) (fun v L' ⟨_,h2⟩ w hw=>by subst h2;exact hst w hw) (fun v L' ⟨h1,h2⟩=>by subst h2;exact hk v h1)
def Pd(X:Cx)(L:List HP)(S:iF):Prop:=∀p∈S,∀w,St X L w→p.2 w
theorem Pd.nil:Pd X L []:=fun _ h=>by cases h
theorem Pd.cons{ti:TI}{b off i:Nat}{v:Value}(h:an X L ti b off v)(hs:Pd X L S):Pd X L ((i,Rd ti.ax.agg ti.size b off v)::S):=fun p hp w hw=>by
 rcases gK.1 hp with rfl | hp
 ·exact h w hw
 ·exact hs p hp w hw
theorem Pd.filter{f:Nat×(World→Prop)→Bool}(hs:Pd X L S):Pd X L (S.filter f):=fun p hp=>hs p (gL.1 hp).1
theorem Pd.inner{f g:Nat×(World→Prop)→Bool}(h:Pd X L (S.filter g)):Pd X L ((S.filter f).filter g):=fun p hp=>by
 obtain⟨h1,h2⟩:=gL.1 hp
 exact h p (gL.2 ⟨(gL.1 h1).1,h2⟩)
theorem Pd.skip{i j:Nat}{φ:World→Prop}(hf:waits ops j i=true)(h:Pd X L (S.filter fun p=>!waits ops j p.1)):Pd X L (((i,φ)::S:iF).filter fun p=>!waits ops j p.1):=by
 rw[List.filter_cons_of_neg (by simp[hf])];exact h
theorem Pd.Hs{f:Nat×(World→Prop)→Bool}{ti:TI}{b off i:Nat}{v:Value}(h:an X L ti b off v)(hs:Pd X L (S.filter f)):Pd X L (((i,Rd ti.ax.agg ti.size b off v)::S).filter f):=fun p hp=>by
 obtain⟨h1,h2⟩:=gL.1 hp
 rcases gK.1 h1 with rfl | h1
 ·exact fun w hw=>h w hw
 ·exact hs p (gL.2 ⟨h1,h2⟩)
theorem Pd.st(hs:Pd X L S){i:Nat}:∀w,St X L w→∀p∈S,waits ops i p.1=false→p.2 w:=fun w hw p hp _=>hs p hp w hw
theorem VA.wI{i:Nat}{o:Oper}{M:Value→List HP→Prop}(h:aG X o.op e L M)(hi:ops.toList[i]?=some o)
  (hst:∀v L',M v L'→Pd X L' (S.filter fun p=>!waits ops i p.1))
  (hk:∀v L',M v L'→VA X ops G pl (S.filter fun p=>!waits ops i p.1) (bI o.dst v e) L' K)
  (hg:bN ops G o.guard=some true:=by rfl) (hd:b9 X.n o.dst=true:=by rfl) (hf:bP G o.dst=true:=by rfl):VA X ops G (.only i pl) S e L K:=
 VA.op hi hg hd hf h (fun v L' hm w hw p hp hq=>hst v L' hm p (gL.2 ⟨hp,by simp[hq]⟩) w hw) hk
theorem aG.mono{op:Op}{M N:Value→List HP→Prop}(h:aG X op e L M)(hm:∀v L',M v L'→N v L'):aG X op e L N:=fun a w ha hw dst ty pos after guard=>by
 rcases h a w ha hw dst ty pos after guard with ⟨v,w',L',h1,h2,h3⟩ | ⟨w',L',h1,h2,h3⟩ | ⟨f,args,h1,h2⟩
 ·exact .inl ⟨v,w',L',h1,hm _ _ h2,h3⟩
 ·exact .inr (.inl ⟨w',L',h1,hm _ _ h2,h3⟩)
 ·exact .inr (.inr ⟨f,args,h1,Calls.mono h2 fun en w' ⟨v,L',h3,h4,h5⟩=>⟨v,L',h3,hm _ _ h4,h5⟩⟩)
theorem VA.w6{j:Nat}{T:TypeId}{x y:Operand}{ti:TI}{b off t:Nat}{cs cs' vs:List Value}{L':List HP}(i:Nat)(hi:ops.toList[j]?=some ⟨dst,.store T x y,ty,pos,after,guard⟩)(hx:ev e x=some (.pointer (some ⟨b,off,none⟩)))(hy:ev e y=some (.agg vs.toArray))(hL:L[i]?=some (pt b cs t))
  (hT:bD X.tab T=some ti) (hl:off+vs.length≤cs.length) (hcs:cT cs off vs=cs') (hL':L.set i (pt b cs' t)=L') (h1:vs.all Value.oneCell'=true) (hst:Pd X L' (S.filter fun p=>!waits ops j p.1))
  (hk:VA X ops G pl (S.filter fun p=>!waits ops j p.1) (bI dst undef e) L' K) (hs:vs.length=ti.size:=by rfl)
  (hg:bN ops G guard=some true:=by rfl) (hd:b9 X.n dst=true:=by rfl) (hf:bP G dst=true:=by rfl):VA X ops G (.only j pl) S e L K:=by
 subst hcs;subst hL'
 exact VA.wI (aG.store (vs:=vs) i hx hy hL hT Z hs hl h1) hi (fun v L' ⟨h3,h4⟩=>by subst h4;exact hst) (fun v L' ⟨h3,h4⟩=>by subst h3;subst h4;exact hk) hg hd hf
theorem VA.st{j:Nat}{T:TypeId}{x y:Operand}{ti:TI}{b off t:Nat}{cs cs':List Value}{v:Value}{L':List HP}(i:Nat)(hi:ops.toList[j]?=some ⟨dst,.store T x y,ty,pos,after,guard⟩)(hx:ev e x=some (.pointer (some ⟨b,off,none⟩)))(hy:ev e y=some v)(hL:L[i]?=some (pt b cs t))
  (hT:bD X.tab T=some ti) (hlt:off<cs.length) (hcs:cs.set off v=cs') (hL':L.set i (pt b cs' t)=L') (hst:Pd X L' (S.filter fun p=>!waits ops j p.1))
  (hk:VA X ops G pl (S.filter fun p=>!waits ops j p.1) (bI dst undef e) L' K) (h1:v.oneCell'=true:=by rfl) (hv:v.cells=#[v]:=by rfl) (hsz:ti.size=1:=by rfl)
  (hg:bN ops G guard=some true:=by rfl) (hd:b9 X.n dst=true:=by rfl) (hf:bP G dst=true:=by rfl):VA X ops G (.only j pl) S e L K:=by
 subst hcs;subst hL'
 exact VA.wI (aG.store (vs:=[v]) i hx hy hL hT hv (by simp[hsz]) ye yg) hi (fun v' L' ⟨h3,h4⟩=>by subst h4;rw[EB _ _ _ hlt];exact hst) (fun v' L' ⟨h3,h4⟩=>by subst h3;subst h4;rw[EB _ _ _ hlt];exact hk) hg hd hf
end
section
variable {P:Program} {b:Frame} {a:Act} {k:List Item} {cs:List Frame} {w:World}
theorem To{c:Code}:step P (lone (b.atR a (.code (.scope c)::k)) cs w)=.next (lone (b.atR a (.code c :: .inScope c::k)) cs w):=
 step_lone_go yl
theorem Tm{c:Code}:step P (lone (b.atR a (.inScope c::k)) cs w)=.next (lone (b.atR a k) cs w):=
 step_lone_go yl
end
def SA(Q:Exit→Env→List HP→Prop):Exit→Env→List HP→Prop
 | .goto _,_,_=>False
 | x,e,L=>Q x e L
theorem VC.scope{X:Cx}{c:Code}{e:Env}{L:List HP}{Q:Exit→Env→List HP→Prop}(h:VC X c e L (SA Q)):VC X (.scope c) e L Q:=fun ro a w ha hw b k cs hro hb hr=>by
 obtain⟨x,a₁,w₁,⟨e',L',h1,h2,h3⟩,harr⟩:=h ro a w ha hw b (.inScope c::k) cs hro hb hr
 have st:StepsIn (Machine.fenced X.P (wR ro)) X.P (lone (b.atR a (.code (.scope c)::k)) cs w) (lone (b.atR a (.code c :: .inScope c::k)) cs w):=.one (fenced_calm hb hr rfl) To
 cases x with
 | normal=>exact⟨.normal,a₁,w₁,⟨e',L',h1,h2,h3⟩,StepsIn.trans st (StepsIn.trans harr (.one (fenced_calm hb hr rfl) Tm))⟩
 | exit id=>exact⟨_,a₁,w₁,⟨e',L',h1,h2,h3⟩,.of_steps st ⟨fun k' hk=>harr.1 k' (by simp[exitTo,hk]),fun hr hk=>harr.2 hr (by simp[exitTo,hk])⟩⟩
 | goto l=>exact h3.elim
 | ret=>exact⟨_,a₁,w₁,⟨e',L',h1,h2,h3⟩,.of_steps st harr⟩
 | panic ch=>exact⟨_,a₁,w₁,⟨e',L',h1,h2,h3⟩,.of_steps st harr⟩
 | outgrown=>exact⟨_,a₁,w₁,⟨e',L',h1,h2,h3⟩,.of_steps st harr⟩
theorem DN:∀{L:List HP} {i:Nat} (H:HP),i<L.length→(H::L.eraseIdx i).Perm (L.set i H)
 | [],_,_,h=>by simp at h
 | _::L,0,H,_=>by simp
 | x::L,i+1,H,h=>(List.Perm.swap x H _).trans ((DN H yc).cons x)
theorem cI.back{X:Cx}{L:List HP}(i:Nat)(H:HP)(h:i<L.length):cI X (H::L.eraseIdx i) (L.set i H):=(aa.perm (DN H h)).ah
theorem og{X:Cx}{e:Env}{T:TypeId}{parts:Array (Nat×Operand)}{ti te:TI}{n el:Nat}{pv:List (Nat×Value)}(cells:List Value)(hT:bD X.tab T=some ti)(hu:ti.ax=.array n el)(hE:bD X.tab el=some te)
  (hp:lR e parts.toList=some pv) (hfill:o8 (fun i=>some (i*te.size,te.size)) ti.zs pv=some cells):eD X (.build T parts) e (.agg cells.toArray):=by
 intro a ha dst ty pos after guard w
 have hok:=X.ok.look hT
 have hund:=Kc hok hu
 obtain⟨i2,hi2,hs2,_,_⟩:=(X.ok.look hE).ln
 have hparts:parts.map (fun p=>(p.1,a.eval p.2))=pv.toArray:=by
  apply kT.1
  simpa using ha.lR hp
 have hf:=y_ hfill
 have hb:(Instr.build T pv.toArray).run X.P w=.ok (.agg cells.toArray) w:=by
  unfold Instr.build
  simp only[Sem.run_bind,s_ hok,Result.andThen_ok,run_underlying hund,jm hi2,hok.zero,hs2]
  simp only[hf,Sem.run_pure]
 simp only[execOp]
 rw[Sem.run_bind]
 have:(parts.map fun x=>match x with | (i,x)=>(i,a.eval x))=pv.toArray:=hparts
 rw[this,hb];rfl
theorem aa.of_eq{L M:List HP}(h:L=M):aa L M:=h▸aa.refl
theorem cI.of_eq{X:Cx}{L M:List HP}(h:L=M):cI X L M:=h▸cI.refl
section
variable {X:Cx} {ops:Array Oper} {G:GS} {l:List Oper} {pl:fU} {S:iF} {e:Env} {L:List HP} {K:Env→List HP→Prop}
  {dst:Option Tmp} {ty:TypeId} {pos:String} {after:Array Edge} {guard:Option (Nat×Bool)}
theorem aG.mq{f:FuncId}{args:Array Operand}{tys:Array TypeId}{vals:List Value}{H:HP}{R:Value→List HP→Prop}{ψ:Value→HP→Prop}(i:Nat)
  (hL:L[i]?=some H) (ht:∀Fr' w,(∀b,X.Fr b→Fr' b)→St X L w→aV Fr' (L.eraseIdx i) w→aq X.P f vals Fr' w [H] R) (hargs:dZ e args.toList=some vals)
  (hR:∀v L1,R v L1→∃H',L1=[H']∧ψ v H'):
  aG X (.call ⟨.value (.func f),args,tys⟩) e L (fun v L'=>∃H',ψ v H'∧L'=L.set i H'):=by
 intro a w ha hw dst ty pos after guard
 have hi:i<L.length:=(cH.1 hL).1
 have key:∀v w' L',(∃L1,R v L1∧L'=L1++L.eraseIdx i)→St X L' w'→∃L'',(∃H',ψ v H'∧L''=L.set i H')∧St X L'' w':=by
  rintro v w' _ ⟨L1,h1,rfl⟩ hs
  obtain⟨H',rfl,hψ⟩:=hR v L1 h1
  exact⟨_,⟨H',hψ,Z⟩,cI.back i H' hi w' hs⟩
 rcases aG.call (R:=R) hargs (Lc:=[H]) (Lr:=L.eraseIdx i) (mH hL) ht a w ha hw dst ty pos after guard with ⟨v,w',L',h1,h2,h3⟩ | ⟨w',L',h1,h2,h3⟩ | ⟨f,args,h1,h2⟩
 ·obtain⟨L'',h4,h5⟩:=key _ _ _ h2 h3
  exact .inl ⟨v,w',L'',h1,h4,h5⟩
 ·obtain⟨L'',h4,h5⟩:=key _ _ _ h2 h3
  exact .inr (.inl ⟨w',L'',h1,h4,h5⟩)
 ·refine .inr (.inr ⟨f,args,h1,Calls.mono h2 fun en w' ⟨v,L',h3,h4,h5⟩=>?_⟩)
  obtain⟨L'',h6,h7⟩:=key _ _ _ h4 h5
  exact⟨v,L'',h3,h6,h7⟩
theorem VO.mq{f:FuncId}{args:Array Operand}{tys:Array TypeId}{vals:List Value}{H:HP}{R:Value→List HP→Prop}{ψ:Value→HP→Prop}(i:Nat)
  (hL:L[i]?=some H) (ht:∀Fr' w,(∀b,X.Fr b→Fr' b)→St X L w→aV Fr' (L.eraseIdx i) w→aq X.P f vals Fr' w [H] R) (hargs:dZ e args.toList=some vals)
  (hR:∀v L1,R v L1→∃H',L1=[H']∧ψ v H') (hk:∀v H',ψ v H'→VO X ops G l (bI dst v e) (L.set i H') K)
  (hg:bN ops G guard=some true:=by rfl) (hd:b9 X.n dst=true:=by rfl) (hf:bP G dst=true:=by rfl):
  VO X ops G (⟨dst,.call ⟨.value (.func f),args,tys⟩,ty,pos,after,guard⟩::l) e L K:=
 VO.op hg hd hf (aG.mq i hL ht hargs hR) fun v L' ⟨H',h1,h2⟩=>by subst h2;exact hk v H' h1
theorem VA.mq{j:Nat}{f:FuncId}{args:Array Operand}{tys:Array TypeId}{vals:List Value}{H:HP}{R:Value→List HP→Prop}{ψ:Value→HP→Prop}(i:Nat)
  (hL:L[i]?=some H) (ht:∀Fr' w,(∀b,X.Fr b→Fr' b)→St X L w→aV Fr' (L.eraseIdx i) w→aq X.P f vals Fr' w [H] R)
  (hi:ops.toList[j]?=some ⟨dst,.call ⟨.value (.func f),args,tys⟩,ty,pos,after,guard⟩) (hargs:dZ e args.toList=some vals)
  (hR:∀v L1,R v L1→∃H',L1=[H']∧ψ v H') (hst:∀v H',ψ v H'→Pd X (L.set i H') (S.filter fun p=>!waits ops j p.1))
  (hk:∀v H',ψ v H'→VA X ops G pl (S.filter fun p=>!waits ops j p.1) (bI dst v e) (L.set i H') K)
  (hg:bN ops G guard=some true:=by rfl) (hd:b9 X.n dst=true:=by rfl) (hf:bP G dst=true:=by rfl):VA X ops G (.only j pl) S e L K:=
 VA.wI (aG.mq i hL ht hargs hR) hi (fun v L' ⟨H',h1,h2⟩=>by subst h2;exact hst v H' h1) (fun v L' ⟨H',h1,h2⟩=>by subst h2;exact hk v H' h1) hg hd hf
end
theorem zS:type_of% @VC.seq:=@VC.seq
theorem zR:type_of% @VC.region:=@VC.region
theorem zB:type_of% @VC.block:=@VC.block
theorem zC:type_of% @VC.scope:=@VC.scope
theorem zG:type_of% @VO.go:=@VO.go
theorem zN:type_of% @VO.nil:=@VO.nil
theorem zD:type_of% @VO.ld:=@VO.ld
theorem zE:type_of% @VO.load:=@VO.load
theorem yG:type_of% @VA.go:=@VA.go
theorem yN:type_of% @VA.nil:=@VA.nil
theorem yD:type_of% @VA.ld:=@VA.ld
theorem yE:type_of% @VA.load:=@VA.load
theorem zo:type_of% @an.one:=@an.one
theorem zm:type_of% @an.many:=@an.many
theorem zf:type_of% @Pd.Hs:=@Pd.Hs
theorem zc:type_of% @Pd.cons:=@Pd.cons
end Vg
namespace Vg
open Go
theorem VO.sX{X:Cx}{ops:Array Oper}{G:GS}{o:Oper}{l:List Oper}{e:Env}{L:List HP}{K:Env→List HP→Prop}{j d:Nat}{want:Bool}
  (hg:o.guard=some (j,want)) (hj:(ops.toList[j]?).bind (fun oj=>oj.dst)=some d) (hu:look e d=some undef)
  (hk:VO X ops G l (bI o.dst undef e) L K) (hd:b9 X.n o.dst=true:=by rfl) (hf:bP G o.dst=true:=by rfl):VO X ops G (o::l) e L K:=by
 intro Q' hQ ro a w ha hG hw
 unfold wpListIn
 have hn:Region.wanted o (yielded ops a.tmps)=false:=by
  unfold Region.wanted
  rw[hg]
  have hy:yielded ops a.tmps j=none:=by
   unfold yielded
   have hj':(ops[j]?).bind (fun oj=>oj.dst)=some d:=by simpa using hj
   have ht:=ha.at_ d _ hu
   rw[hj']
   simp only[js]
   cases hq:a.tmps[d]? with
   | none=>rfl
   | some v=>
    have:v=undef:=by rw[←ht,vm,hq];rfl
    subst this;rfl
  simp[hy]
 rw[if_neg (by rw[hn];simp)]
 exact Kt
theorem zU:type_of% @VO.sX:=@VO.sX
end Vg
namespace Vg
open Go
theorem C_{X:Cx}{e:Env}{T:TypeId}{x y:Operand}{tt te:TI}{el len cap:Nat}{a:Option Addr}{k:IntKind}{j:Int}(hi:Nat)(hx:ev e x=some (.slice a len cap))(hy:ev e y=some (.int k j))
  (hT:bD X.tab T=some tt) (hu:tt.ax=.slice el) (hE:bD X.tab el=some te) (hhi:j=hi) (h1:hi≤cap):
  eD X (.slice T x none (some y) none) e (.slice a hi cap):=by
 intro ac hac dst ty pos after guard w
 have hd:=nE (X.ok.look hT) hu
 obtain⟨i2,hi2,hs2,_,_⟩:=(X.ok.look hE).ln
 subst hhi
 simp[execOp,hac.ev hx,hac.ev hy,Instr.sliceAt,Instr.slice,Instr.sliceBounds,Instr.sliceBound,asIntOf,run_underlying hd,h1,jm hi2]
 cases a with
 | none=>simp
 | some a=>simp[Addr.add]
theorem mC{X:Cx}{e:Env}{s d:TypeId}{x:Operand}{j:IntKind}{a:Int}{ts td:TI}{k:IntKind}(z:Int)(hx:ev e x=some (.int j a))(hs:bD X.tab s=some ts)(hd':bD X.tab d=some td)(hsu:ts.ax=.int j)(hdu:td.ax=.int k)
  (hz:k.wrap a=z):eD X (.convert s d x) e (.int k z):=by
 have h1:=Ew (X.ok.look hs) hsu
 have h2:=Ew (X.ok.look hd') hdu
 intro a' ha dst ty pos after guard w
 simp[execOp,ha.ev hx,convert,run_underlying h1,run_underlying h2,Conv.intToInt,hz]
theorem al.GK{X:Cx}{fn:Func}{R:Value→List HP→Prop}{e:Env}{L:List HP}{T:TypeId}{ti:TI}{b:Nat}{v u x:Value}(p q r:Nat)(h:fn.results=#[.cell p T,.tmp q,.tmp r])(hp:look e p=some (.pointer (some ⟨b,0,none⟩)))(hT:bD X.tab T=some ti)
  (hr:an X L ti b 0 v) (hq:look e q=some u) (hx:look e r=some x) {L':List HP} (he:cI X L L') (hR:R (.tuple #[v,u,x]) L'):al X fn R e L:=
 ⟨_,L',⟨fun a w ha hw=>by
  have:=Ai (X.ok.look hT) (hr w hw)
  have hp':=ha.at_ p _ hp
  have hq':=ha.at_ q _ hq
  have hx':=ha.at_ r _ hx
  simp only[vm] at hp' hq' hx'
  simp[results,h,hp',hq',hx',asAddr,this]⟩,he,hR⟩
theorem aG.Kg{X:Cx}{f:FuncId}{args:Array Operand}{tys:Array TypeId}{e:Env}{L:List HP}{M:Value→List HP→Prop}{t:Tmp}(ht:look e t=some (.func (.func f) #[] #[]))
  (h:aG X (.call ⟨.value (.func f),args,tys⟩) e L M):aG X (.call ⟨.value (.tmp t),args,tys⟩) e L M:=fun a w ha hw dst ty pos after guard=>by
 have he:a.eval (.tmp t)=a.eval (.func f):=ha.at_ t _ ht
 have key:execOp a.eval ⟨dst,.call ⟨.value (.tmp t),args,tys⟩,ty,pos,after,guard⟩=execOp a.eval ⟨dst,.call ⟨.value (.func f),args,tys⟩,ty,pos,after,guard⟩:=by
  simp only[execOp,resolve,he]
 rw[key]
 exact h a w ha hw dst ty pos after guard
section
variable {X:Cx} {ops:Array Oper} {G:GS} {l:List Oper} {pl:fU} {S:iF} {e:Env} {L:List HP} {K:Env→List HP→Prop}
  {dst:Option Tmp} {ty:TypeId} {pos:String} {after:Array Edge} {guard:Option (Nat×Bool)}
theorem VA.Ro{i:Nat}{o:Oper}(hi:ops.toList[i]?=some o)(hg:bN ops G o.guard=some false)(hk:VA X ops G pl (S.filter fun p=>!waits ops i p.1) (bI o.dst undef e) L K)
  (hd:b9 X.n o.dst=true:=by rfl) (hf:bP G o.dst=true:=by rfl):VA X ops G (.only i pl) S e L K:=by
 intro Q' hp0 hQ hsel ro listed a w hp ha hG hw hall
 simp only[lB,dG,beq_iff_eq] at hp
 have hi':ops[i]?=some o:=by simpa using hi
 have hpr:=hp.1
 refine⟨fun h0=>yh,fun j hj=>?_⟩
 rw[hpr,mi] at hj
 subst hj
 unfold wpOpIn
 rw[hi']
 simp only[nh hG hg,Bool.false_eq_true,if_false]
 refine⟨fun _ _=>trivial,fun p hp1 _=>hall p hp1,?_⟩
 exact hk Q' hp0 hQ hsel ro _ _ w hp.2 (ha.bI hd undef) (hG.put hf undef) hw (fun p hp1=>hall p (gL.1 hp1).1)
theorem VA.PL{cond:List HP→Prop}(h:∀S:iF,(∀L',cond L'→Pd X L' S)→VA X ops G pl S e L K)(h0:∀L',cond L'→Pd X L' S):VA X ops G pl S e L K:=h S h0
theorem VO.mW{f:FuncId}{t:Tmp}{args:Array Operand}{tys:Array TypeId}{vals:List Value}{H:HP}{R:Value→List HP→Prop}{ψ:Value→HP→Prop}(i:Nat)(htm:look e t=some (.func (.func f) #[] #[]))
  (hL:L[i]?=some H) (ht:∀Fr' w,(∀b,X.Fr b→Fr' b)→St X L w→aV Fr' (L.eraseIdx i) w→aq X.P f vals Fr' w [H] R) (hargs:dZ e args.toList=some vals)
  (hR:∀v L1,R v L1→∃H',L1=[H']∧ψ v H') (hk:∀v H',ψ v H'→VO X ops G l (bI dst v e) (L.set i H') K)
  (hg:bN ops G guard=some true:=by rfl) (hd:b9 X.n dst=true:=by rfl) (hf:bP G dst=true:=by rfl):
  VO X ops G (⟨dst,.call ⟨.value (.tmp t),args,tys⟩,ty,pos,after,guard⟩::l) e L K:=
 VO.op hg hd hf (aG.Kg htm (aG.mq i hL ht hargs hR)) fun v L' ⟨H',h1,h2⟩=>by subst h2;exact hk v H' h1
end
theorem VG:type_of% @VO.go:=@VO.go
theorem AG:type_of% @VA.go:=@VA.go
theorem VY:type_of% @VO.yes:=@VO.yes
theorem AY:type_of% @VA.yes:=@VA.yes
theorem CR:type_of% @VC.ret:=@VC.ret
theorem CK:type_of% @VC.skip:=@VC.skip
theorem CS:type_of% @VC.seq:=@VC.seq
theorem CG:type_of% @VC.region:=@VC.region
theorem ER:type_of% @cI.refl:=@cI.refl
theorem VN:type_of% @VO.nil:=@VO.nil
theorem AN:type_of% @VA.nil:=@VA.nil
theorem CC:type_of% @VC.cond:=@VC.cond
theorem CP:type_of% @VC.G2:=@VC.G2
theorem CE:type_of% @VC.G0:=@VC.G0
theorem VL:type_of% @VO.cK:=@VO.cK
theorem VT:type_of% @VO.w6:=@VO.w6
theorem AR:type_of% @VA.GF:=@VA.GF
theorem VV:type_of% @VO.GG:=@VO.GG
theorem VK:type_of% @VO.call:=@VO.call
theorem VQ:type_of% @VO.mq:=@VO.mq
theorem VI:type_of% @VO.wk:=@VO.wk
theorem AI:type_of% @VA.wk:=@VA.wk
theorem CN:type_of% @VC.ah:=@VC.ah
theorem VB:type_of% @VO.Gy:=@VO.Gy
theorem SC:type_of% @Sub.cons:=@Sub.cons
theorem SN:type_of% @Sub.nil:=@Sub.nil
theorem IP:type_of% @aa.pick:=@aa.pick
theorem TF:type_of% @aq.of:=@aq.of
theorem LB:type_of% @H3:=@H3
theorem CX:type_of% @VC.exit:=@VC.exit
theorem CD:type_of% @VC.draw:=@VC.draw
theorem OC:type_of% @aG.call:=@aG.call
theorem AO:type_of% @VA.wI:=@VA.wI
theorem AQ:type_of% @VA.mq:=@VA.mq
theorem AT:type_of% @VA.w6:=@VA.w6
theorem VP:type_of% @VO.add:=@VO.add
theorem AP:type_of% @VA.add:=@VA.add
abbrev pV(b:Nat):Value:=.pointer (some ⟨b,0,none⟩)
end Vg
namespace Vg
open Go
theorem Qk{X:Cx}{e:Env}{T:TypeId}{x y:Operand}{tt te:TI}{el b off n cap:Nat}{k:IntKind}(hx:ev e x=some (.slice (some ⟨b,off,none⟩) (n+1) cap))(hy:ev e y=some (.int k 1))
  (hT:bD X.tab T=some tt) (hu:tt.ax=.slice el) (hE:bD X.tab el=some te) (hc:n+1≤cap):
  eD X (.slice T x (some y) none none) e (.slice (some (if cap=1 then ⟨b,off,none⟩ else ⟨b,off+te.size,none⟩)) n (cap-1)):=by
 intro a ha dst ty pos after guard w
 have hd:=nE (X.ok.look hT) hu
 obtain⟨i2,hi2,hs2,_,_⟩:=(X.ok.look hE).ln
 by_cases h:cap=1
 ·subst h
  simp[execOp,ha.ev hx,ha.ev hy,Instr.sliceAt,Instr.slice,Instr.sliceBounds,Instr.sliceBound,asIntOf,run_underlying hd,jm hi2,hs2,Addr.add_mid]
  intro hbad;omega
 ·simp[execOp,ha.ev hx,ha.ev hy,Instr.sliceAt,Instr.slice,Instr.sliceBounds,Instr.sliceBound,asIntOf,run_underlying hd,jm hi2,hs2,Addr.add_mid,h]
  intro hbad;omega
theorem aa.put{H:HP}{L:List HP}(k:Nat)(hk:k<L.length):aa (H::L) (L.set k H):=by
 have h1:aa L (L.eraseIdx k):=aa.trans (aa.perm (mH (GE hk))) (aa.app (L:=[_]) (M:=[]) aa.nil aa.refl)
 exact aa.trans (aa.cons h1) (aa.perm (DN H hk))
end Vg
namespace Vg
open Go
structure RL(α:Type) where
 addr:Option Addr
 cap:Nat
 ar:Option Nat
 cells:List Value
 xs:List α
section
variable {α:Type} {c:α→List Value} {n t:Nat}
def RL.v(r:RL α):Value:=.slice r.addr r.xs.length r.cap
def RL.h(t:Nat)(r:RL α):HP:=match r.ar with
 | none=>jb True
 | some b=>pt b r.cells t
structure RL.Ok(c:α→List Value)(n:Nat)(r:RL α):Prop where
 room:r.xs.length≤r.cap
 at_:r.xs≠[]→∃b off,r.ar=some b∧r.addr=some ⟨b,off,none⟩∧∀i x,r.xs[i]?=some x→(r.cells.drop (off+i*n)).take n=c x
def RL.none:RL α:=⟨.none,0,.none,[],[]⟩
theorem RL.Rj:(RL.none:RL α).Ok c n:=⟨NR _,fun h=>absurd rfl h⟩
def RL.new(c:α→List Value)(b cap:Nat)(xs:List α)(rest:List Value):RL α:=⟨some ⟨b,0,Option.none⟩,cap,some b,flat c xs++rest,xs⟩
theorem RL.zH(hc:∀x,(c x).length=n){b cap:Nat}{xs:List α}{rest:List Value}(h:xs.length≤cap):(RL.new c b cap xs rest).Ok c n:=⟨h,fun _=>⟨b,0,rfl,rfl,fun i x hx=>by
 rw[bZ];exact kK hc hx rest⟩⟩
theorem RL.Ok.nth{r:RL α}{x:α}{k:Nat}(h:r.Ok c n)(hx:r.xs[k]?=some x):∃b off,r.ar=some b∧r.addr=some ⟨b,off,Option.none⟩∧(r.cells.drop (off+k*n)).take n=c x:=by
 obtain⟨b,off,h1,h2,h3⟩:=h.at_ (fun e=>by rw[e] at hx;cases hx)
 exact⟨b,off,h1,h2,h3 k x hx⟩
theorem RL.HG{r:RL α}{b:Nat}(h:r.ar=some b):r.h t=pt b r.cells t:=by rw[RL.h,h]
theorem aY.rl(el:Nat)(a:Option Addr)(cap:Nat)(xs:List α)(hc:∀x,(c x).length=n):aY (ι:=RL α) (av el n a xs.length cap (flat c xs)) (fun r=>r.Ok c n∧r.v=.slice a xs.length cap∧r.xs=xs) (fun r=>[r.h el]):=by
 intro w ids h hn
 obtain⟨x,hx,ids',h1,h2,h3⟩:=aY.sl el n a xs.length cap (flat c xs) w ids h hn
 cases x with
 | none=>
  obtain⟨h5,h6,h7,h8,h9,h10⟩:=hx
  subst h7;subst h9
  obtain rfl:xs=[]:=gI h8
  cases h1
  exact⟨RL.none,⟨RL.Rj,rfl,rfl⟩,[],⟨[],[],rfl,⟨rfl,trivial⟩,rfl⟩,.nil,fun _ h=>by cases h⟩
 | some x=>
  obtain⟨b,rest⟩:=x
  obtain⟨h5,h6,h7,h8⟩:=hx
  subst h7
  exact⟨RL.new c b cap xs rest,⟨RL.zH hc h6,Z,Z⟩,ids',h1,h2,h3⟩
end
end Vg
namespace Vg
open Go
structure Ext(P:Program)(f:FuncId)(fn:Func)(g:Array Value→Sem Value):Prop where
 at_:P.funcs[f]?=some fn
 nm:(fn.name == "runtime.NumGoroutine")=false
 nb:fn.body.isNone=true
 nn:Extern.findNext fn=none
 ex:Extern.find fn=some g
theorem Hp(a:Act)(f:FuncId)(args:Array Operand)(tys:Array TypeId)(dst:Option Tmp)(ty:TypeId)(pos:String)(after:Array Edge)(guard:Option (Nat×Bool)):
  execOp a.eval ⟨dst,.call ⟨.value (.func f),args,tys⟩,ty,pos,after,guard⟩=callFunc f (args.map a.eval):=by
 have ef:a.eval (.func f)=.func (.func f) #[] #[]:=rfl
 unfold execOp
 simp[resolve,Deferred.ofValue,invoke,ef]
section
variable {X:Cx} {e:Env} {L:List HP}
end
theorem HR{Fr:Nat→Prop}{B:Nat}{w w':World}(hF:∀b,Fr b→b<B)(h:RowKit.Below B w w')(hd:mn w w'):cB Fr w w':=⟨h.os,h.tape,h.output,h.size,fun b hb=>h.block b (hF b hb),hd⟩
theorem aq.I4{P:Program}{f:FuncId}{args:List Value}{Fr:Nat→Prop}{w:World}{u:Value}(hc:lJ P f)(h:Calls P f args.toArray w fun e w'=>e=.returned u∧RowKit.Below w.heap.size w w'∧mn w w'):
  aq P f args Fr w [] (fun v L=>v=u∧L=[]):=
 ⟨hc,fun hl _=>Calls.mono h fun e w' ⟨h1,h2⟩=>⟨u,[],h1,⟨rfl,rfl⟩,Sat.nil,HR hl h2.1 h2.2⟩⟩
theorem aq.Rn{P:Program}{f:FuncId}{args:List Value}{Fr:Nat→Prop}{w:World}{u:Value}(hc:lJ P f)(h:Calls P f args.toArray w fun e w'=>e=.returned u∧∃k os,w'=Sort.grow (w.drewN k) os):
  aq P f args Fr w [] (fun v L=>v=u∧L=[]):=
 aq.I4 hc (Calls.mono h fun e w' ⟨h1,k,os,h2⟩=>⟨h1,by
  subst h2
  exact⟨⟨rfl,Z,Z,by show w.heap.size≤(w.heap++os).size;rw[Array.size_append];omega,fun j hj=>by
   show(w.heap++os)[j]?=w.heap[j]?
   rw[Array.getElem?_append,if_pos hj]⟩,mn.up (Nat.le_add_right _ _)⟩⟩)
structure sv(P:Program)(Fr:Nat→Prop)(w:World)(nm:String)(k:IntKind)(zs:List Int):Prop where
 fr:∃g,P.globalNamed nm=some g∧Fr g
 is:Lib.TabIs P w nm k zs
theorem sv.bL{P:Program}{Fr Fr':Nat→Prop}{w w':World}{nm:String}{k:IntKind}{zs:List Int}(h:sv P Fr w nm k zs)(hF:∀b,Fr b→Fr' b)(hk:cB Fr w w'):sv P Fr' w' nm k zs:=by
 obtain⟨⟨g,hg,hf⟩,hi⟩:=h
 refine⟨⟨g,hg,hF g hf⟩,?_⟩
 unfold Lib.TabIs World.var? at hi ⊢
 rw[hg] at hi ⊢
 simp only[js] at hi ⊢
 rw[hk.block g hf];exact hi
section
variable {X:Cx} {ops:Array Oper} {G:GS} {l:List Oper} {pl:fU} {S:iF} {e:Env} {L:List HP} {K:Env→List HP→Prop}
  {dst:Option Tmp} {ty:TypeId} {pos:String} {after:Array Edge} {guard:Option (Nat×Bool)}
end
end Vg
namespace Vg
open Go Go.MapKept
section
variable {κ α:Type} [DecidableEq κ]
def jE:List (κ×α)→κ→Nat→Option (Nat×α)
 | [],_,_=>none
 | (k,v)::r,a,i=>if k=a then some (i,v) else jE r a (i+1)
def cD:List (κ×α)→κ→Option α
 | [],_=>none
 | (k,v)::r,a=>if k=a then some v else cD r a
def cQ:List (κ×α)→κ→α→List (κ×α)
 | [],a,u=>[(a,u)]
 | (k,v)::r,a,u=>if k=a then (k,u)::r else (k,v)::cQ r a u
def ff:List (κ×α)→κ→List (κ×α)
 | [],_=>[]
 | (k,v)::r,a=>if k=a then r else (k,v)::ff r a
theorem sS:∀{l:List (κ×α)} {a:κ} {i:Nat},jE l a i=none→cD l a=none∧(∀x∈l,x.1≠a)∧(∀u,cQ l a u=l ++ [(a,u)])∧ff l a=l
 | [],_,_,_=>⟨rfl,(fun _ h=>by cases h),fun _=>rfl,rfl⟩
 | (k,v)::r,a,i,h=>by
  simp only[jE] at h
  split at h
  ·cases h
  ·rename_i hk
   obtain⟨h1,h2,h3,h4⟩:=sS h
   refine⟨by simp[cD,hk,h1],fun x hx=>?_,fun u=>by simp[cQ,hk,h3],by simp[ff,hk,h4]⟩
   rcases gK.1 hx with rfl | hx
   ·exact hk
   ·exact h2 x hx
theorem uo:∀{l:List (κ×α)} {a:κ} {i j:Nat} {v:α},jE l a i=some (j,v)→i≤j∧l[j-i]?=some (a,v)∧cD l a=some v∧(∀u,cQ l a u=l.set (j-i) (a,u))∧ff l a=l.eraseIdx (j-i)
 | [],_,_,_,_,h=>by cases h
 | (k,u)::r,a,i,j,v,h=>by
  simp only[jE] at h
  split at h
  ·rename_i hk
   obtain⟨rfl,rfl⟩:=Prod.mk.inj (jS h)
   subst hk
   refine⟨NR _,by simp,by simp[cD],fun u=>by simp[cQ],by simp[ff]⟩
  ·rename_i hk
   obtain⟨h1,h2,h3,h4,h5⟩:=uo h
   have e:j-i=(j-(i+1))+1:=by omega
   rw[e]
   exact⟨by omega,by simpa using h2,by simp[cD,hk,h3],fun u=>by simp[cQ,hk,h4],by simp[ff,hk,h5]⟩
theorem Qx(l:List (κ×α))(a b:κ)(u:α):cD (cQ l a u) b=if a=b then some u else cD l b:=by
 induction l with
 | nil=>simp[cQ,cD]
 | cons x r ih=>
  obtain⟨k,v⟩:=x
  simp only[cQ]
  by_cases hk:k=a
  ·subst hk
   by_cases hb:k=b
   ·simp[cD,hb]
   ·simp[cD,hb]
  ·rw[if_neg hk]
   simp only[cD]
   rw[ih]
   by_cases hb:k=b
   ·subst hb;simp[Ne.symm hk]
   ·simp[hb]
theorem wy{l:List (κ×α)}{a:κ}{v:α}(h:cD l a=some v):(a,v)∈l:=by
 induction l with
 | nil=>cases h
 | cons x r ih=>
  obtain⟨k,u⟩:=x
  simp only[cD] at h
  by_cases hk:k=a
  ·rw[if_pos hk] at h;cases h;simp[hk]
  ·rw[if_neg hk] at h;simp[ih h]
theorem Qy(l:List (κ×α))(a:κ)(u:α):(cQ l a u).map Prod.fst=if a∈l.map Prod.fst then l.map Prod.fst else l.map Prod.fst ++ [a]:=by
 induction l with
 | nil=>simp[cQ]
 | cons x r ih=>
  obtain⟨k,v⟩:=x
  simp only[cQ]
  by_cases hk:k=a
  ·simp[hk]
  ·rw[if_neg hk,kV,ih]
   by_cases hm:a∈r.map Prod.fst
   ·rw[if_pos hm,if_pos (by simp[hm])];rfl
   ·rw[if_neg hm,if_neg (by simp only[kV,gK,not_or];exact⟨Ne.symm hk,hm⟩)];rfl
theorem Qz{l:List (κ×α)}(h:(l.map Prod.fst).Nodup)(a:κ)(u:α):((cQ l a u).map Prod.fst).Nodup:=by
 rw[Qy]
 split
 ·exact h
 ·rename_i hm
  exact gy.2 ⟨h,by simp,fun x hx y hy e=>by simp at hy;subst hy;subst e;exact hm hx⟩
theorem Io(l:List (κ×α))(a:κ):(ff l a).Sublist l:=by
 induction l with
 | nil=>exact List.Sublist.refl _
 | cons x r ih=>
  obtain⟨k,v⟩:=x
  simp only[ff]
  split
  ·exact List.sublist_cons_self _ _
  ·exact ih.cons_cons _
theorem Qw{l:List (κ×α)}(h:(l.map Prod.fst).Nodup)(a:κ):((ff l a).map Prod.fst).Nodup:=((Io l a).map _).nodup h
end
structure iU(P:Program)(kt:TypeId){κ:Type}[DecidableEq κ](c:κ→Value):Prop where
 inj:∀a b,c a=c b→a=b
 check:∀(e:Bool) (a:κ) (w:World),(Instr.checkKey e 10000 kt (c a)).run P w=.ok () w
 find:∀{α:Type} (d:α→Value) (a:κ) (xs:List (κ×α)) (es:List MapEntry),es.map (fun e=>(e.key,e.val))=xs.map (fun x=>(c x.1,d x.2))→∀w:World,
  (Instr.findKey kt (c a) es).run P w=.ok ((jE xs a 0).map fun p=>(p.1,d p.2)) w
 bits:∀a,Instr.sameBits 10000 (c a) (c a)=true
def jq(s:ByteArray):Value:=.string s
theorem Hu{α:Type}(d:α→Value)(a:ByteArray):∀(xs:List (ByteArray×α)) (es:List MapEntry) (i:Nat),es.map (fun e=>(e.key,e.val))=xs.map (fun x=>(jq x.1,d x.2)) →
  Instr.findNow .string (jq a) es i=some ((jE xs a i).map fun p=>(p.1,d p.2))
 | [],[],_,_=>rfl
 | [],_::_,_,h=>by cases h
 | _::_,[],_,h=>by cases h
 | (k,v)::xs,e::es,i,h=>by
  simp only[kV,List.cons.injEq,Prod.mk.injEq] at h
  obtain⟨⟨h1,h2⟩,h3⟩:=h
  unfold Instr.findNow
  rw[h1]
  simp only[jq,Instr.sameNow,jE]
  by_cases hk:k=a
  ·subst hk
   rw[(bytes_beq k k).2 rfl,if_pos rfl,h2];rfl
  ·have:(a == k)=false:=by
    cases hb:a == k
    ·rfl
    ·exact absurd ((bytes_beq a k).1 hb).symm hk
   rw[this,if_neg hk]
   exact Hu d a xs es (i+1) h3
theorem iU.string{P:Program}{kt:TypeId}(h:P.underlying kt=some .string):iU P kt jq where
 inj:=fun a b h=>by simpa[jq] using h
 check:=fun e a w=>by
  show(Instr.checkKey e (9999+1) kt (jq a)).run P w=_
  exact run_checkKey h (by trivial) e 9999
 find:=fun d a xs es hes w=>run_findKey h (Hu d a xs es 0 hes)
 bits:=fun a=>by simp[jq,Instr.sameBits,bytes_beq]
theorem Ht{P:Program}{kt:TypeId}{κ α:Type}[DecidableEq κ]{c:κ→Value}(heq:∀(a b:κ) (w:World),(Op.equal kt (c a) (c b)).run P w=.ok (decide (a=b)) w)(d:α→Value)(a:κ):
  ∀(xs:List (κ×α)) (es:List MapEntry) (i:Nat),es.map (fun e=>(e.key,e.val))=xs.map (fun x=>(c x.1,d x.2))→∀w:World,(Instr.findAsking kt (c a) es i).run P w=.ok ((jE xs a i).map fun p=>(p.1,d p.2)) w
 | [],[],_,_,_=>rfl
 | [],_::_,_,h,_=>by cases h
 | _::_,[],_,h,_=>by cases h
 | (k,v)::xs,e::es,i,h,w=>by
  simp only[kV,List.cons.injEq,Prod.mk.injEq] at h
  obtain⟨⟨h1,h2⟩,h3⟩:=h
  unfold Instr.findAsking
  rw[Sem.run_bind,h1,heq a k w,Result.andThen_ok]
  simp only[jE]
  by_cases hk:k=a
  ·subst hk
   simp only[decide_true,if_true,h2];rfl
  ·rw[if_neg hk,DF (Ne.symm hk)]
   simp only[Bool.false_eq_true,if_false]
   exact Ht heq d a xs es (i+1) h3 w
def mS{κ α:Type}(c:κ→Value)(d:α→Value)(b:Nat)(xs:List (κ×α))(w:World):Prop:=
 ∃(es:Array MapEntry) (clock:Nat),w.heap[b]?=some (.map es clock)∧es.toList.map (fun e=>(e.key,e.val))=xs.map (fun x=>(c x.1,d x.2))∧Stamped es clock
theorem mS.loc{κ α:Type}{c:κ→Value}{d:α→Value}{b:Nat}{xs:List (κ×α)}{w w':World}(h:mS c d b xs w)(hb:w'.heap[b]?=w.heap[b]?):mS c d b xs w':=by
 obtain⟨es,k,h1,h2⟩:=h
 exact⟨es,k,hb.trans h1,h2⟩
def eI{κ α:Type}(c:κ→Value)(d:α→Value)(b:Nat)(xs:List (κ×α)):HP:=
 ⟨fun ids w=>ids=[b]∧mS c d b xs w,fun _ _ _ h hs=>⟨hs.1,hs.2.loc (h b yb)⟩⟩
structure oQ{κ α:Type}(Fr:Nat→Prop)(w:World)(c:κ→Value)(d:α→Value)(b:Nat)(xs:List (κ×α)):Prop where
 fr:Fr b
 at_:mS c d b xs w
section
variable {X:Cx} {κ α:Type} {c:κ→Value} {d:α→Value} {b:Nat} {xs:List (κ×α)}
theorem St.yC{L:List HP}{w:World}(h:St X L w){i:Nat}(hL:L[i]?=some (eI c d b xs)):mS c d b xs w∧¬X.Fr b:=by
 obtain⟨F,hs,_,hb⟩:=h.sat
 obtain⟨ids,h1,h2⟩:=hs.get hL
 obtain⟨rfl,h1⟩:=h1
 exact⟨h1,(hb b (h2 b yf)).1⟩
theorem aV.wB{Fr:Nat→Prop}{L:List HP}{w:World}(h:aV Fr L w)(i:Nat)(hL:L[i]?=some (eI c d b xs)):oQ Fr w c d b xs:=by
 obtain⟨F,hs,hf⟩:=h
 obtain⟨ids,⟨rfl,h1⟩,h2⟩:=hs.get hL
 exact⟨hf b (h2 b yf),h1⟩
theorem oQ.of(h:oQ X.Fr X.w0 c d b xs){Fr':Nat→Prop}(hF:∀b,X.Fr b→Fr' b){w:World}{L:List HP}(hw:St X L w):oQ Fr' w c d b xs:=⟨hF b h.fr,h.at_.loc (hw.bL.block b h.fr)⟩
def cO(X:Cx)(L:List HP)(c:κ→Value)(d:α→Value)(b:Nat)(xs:List (κ×α)):Prop:=∀w,St X L w→mS c d b xs w
theorem cO.one{L:List HP}(i:Nat)(hL:L[i]?=some (eI c d b xs)):cO X L c d b xs:=fun w hw=>(hw.yC hL).1
theorem cO.ar{L:List HP}(h:oQ X.Fr X.w0 c d b xs):cO X L c d b xs:=fun w hw=>h.at_.loc (hw.bL.block b h.fr)
theorem df.oz:∀{L:List HP} {F:List Nat} {w w':World} {i b:Nat} {H H':HP},df L F w→F.Nodup→L[i]?=some H→(∀ids w,H.sat ids w→ids=[b])→H'.sat [b] w' →
  (∀c,c≠b→w'.heap[c]?=w.heap[c]?)→df (L.set i H') F w'
 | [],_,_,_,_,_,_,_,_,_,h,_,_,_=>by simp at h
 | _::L,F,w,w',0,b,H,H',⟨j,G,hF,hj,hG⟩,hn,h,hi,h1,h2=>by
  simp only[sn,Option.some.injEq] at h
  subst h;subst hF
  obtain rfl:=hi _ _ hj
  refine⟨[b],G,Z,h1,hG.loc fun c hc=>h2 c fun he=>?_⟩
  subst he
  simp at hn
  exact hn.1 hc
 | K::L,F,w,w',i+1,b,H,H',⟨j,G,hF,hj,hG⟩,hn,h,hi,h1,h2=>by
  simp only[pZ] at h
  subst hF
  obtain⟨hnj,hnG,hd⟩:=gy.1 hn
  obtain⟨ids,hp,hm⟩:=hG.get h
  obtain rfl:=hi _ _ hp
  have hb:=hm b yf
  exact⟨j,G,Z,K.loc j w w' (fun c hc=>h2 c fun he=>hd c hc b hb he) hj,df.oz hG hnG h hi h1 h2⟩
theorem St.oz{L:List HP}{w:World}(h:St X L w){i:Nat}{H H':HP}{o o':Obj}(hL:L[i]?=some H)(hi:∀ids w,H.sat ids w→ids=[b])(h0:w.heap[b]?=some o)(hf:¬X.Fr b)(h1:H'.sat [b] (dq w b o')):
  St X (L.set i H') (dq w b o'):=by
 obtain⟨F,hs,hn,hb⟩:=h.sat
 refine⟨⟨F,hs.oz hn hL hi h1 (fun c hc=>CV (Ne.symm hc)),hn,fun c hc=>⟨(hb c hc).1,by rw[El];exact(hb c hc).2⟩⟩,?_,h.low⟩
 exact Kz
theorem St.MX{L:List HP}{w:World}(h:St X L w):St X (eI c d w.heap.size ([]:List (κ×α))::L) (w.alloc (.map #[] 0)):=
 ⟨h.sat.alloc h.kl _ _ ⟨rfl,#[],0,heap_alloc_new w _,rfl,stamped_empty 0⟩,h.bL.trans (cB.alloc h.kl _),h.low⟩
end
section
variable {X:Cx} {κ α:Type} [DecidableEq κ] {c:κ→Value} {d:α→Value} {b:Nat} {xs:List (κ×α)} {e:Env} {L:List HP} {T kt et:TypeId} {te:TI} {x y z:Operand}
theorem Ct{es:List MapEntry}{c:κ→Value}{d:α→Value}{xs:List (κ×α)}(h:es.map (fun e=>(e.key,e.val))=xs.map (fun x=>(c x.1,d x.2))){j:Nat}{a:κ}{v:α}(hx:xs[j]?=some (a,v)):∃m,es[j]?=some m∧m.key=c a∧m.val=d v:=by
 have:=congrArg (fun l=>l[j]?) h
 simp only[dH,hx,mj] at this
 cases hm:es[j]? with
 | none=>rw[hm] at this;cases this
 | some m=>
  rw[hm] at this
  simp only[mj,Option.some.injEq,Prod.mk.injEq] at this
  exact⟨m,Z,this.1,this.2⟩
theorem JB{P:Program}(K:iU P kt c)(hT:P.underlying T=some (.map kt et))(hE:aE P et te)(a:κ)(ok:Bool){w:World}(hM:mS c d b xs w):
  (Instr.lookup T (.map (some b)) (c a) ok).run P w=.ok (bif ok then .tuple #[((cD xs a).map d).getD te.zero,.bool (cD xs a).isSome] else ((cD xs a).map d).getD te.zero) w:=by
 obtain⟨es,clock,h1,h2,h3⟩:=hM
 have hf:=K.find d a xs es.toList h2 w
 cases hl:jE xs a 0 with
 | none=>
  obtain⟨hg,_⟩:=sS hl
  rw[hl] at hf
  cases ok<;>simp[Instr.lookup,run_underlying hT,MapKept.run_getObj_map h1,K.check,hf,hg,s_ hE,Result.andThen]
 | some p=>
  obtain⟨j,v⟩:=p
  obtain⟨_,_,hg,_⟩:=uo hl
  rw[hl] at hf
  cases ok<;>simp[Instr.lookup,run_underlying hT,MapKept.run_getObj_map h1,K.check,hf,hg,Result.andThen]
theorem aG.lookup(K:iU X.P kt c)(hT:X.P.underlying T=some (.map kt et))(hE:bD X.tab et=some te){a:κ}{ok:Bool}(hx:ev e x=some (.map (some b)))(hk:ev e y=some (c a))(hM:cO X L c d b xs):
  aG X (.lookup T x y ok) e L (fun u L'=>u=(bif ok then .tuple #[((cD xs a).map d).getD te.zero,.bool (cD xs a).isSome] else ((cD xs a).map d).getD te.zero)∧L'=L):=fun ac w ha hw dst ty pos after guard=>by
 refine .inl ⟨_,w,L,?_,⟨rfl,Z⟩,hw⟩
 simp only[execOp,ha.ev hx,ha.ev hk]
 rw[Sem.run_bind,JB K hT (X.ok.look hE) a ok (hM w hw)];rfl
theorem Ir{P:Program}(K:iU P kt c)(a:κ)(u:α){es:Array MapEntry}{clock:Nat}(h2:es.toList.map (fun e=>(e.key,e.val))=xs.map (fun x=>(c x.1,d x.2)))(h3:Stamped es clock):
  (∀{j v},jE xs a 0=some (j,v)→∃m,es[j]?=some m∧m.key=c a∧(es.modify j fun e=>{ e with key:=c a,val:=d u }).toList.map (fun e=>(e.key,e.val))=(cQ xs a u).map (fun x=>(c x.1,d x.2))∧Stamped (es.modify j fun e=>{ e with key:=c a,val:=d u }) clock) ∧
  (jE xs a 0=none→(es.push { key:=c a,val:=d u,born:=clock }).toList.map (fun e=>(e.key,e.val))=(cQ xs a u).map (fun x=>(c x.1,d x.2))∧Stamped (es.push { key:=c a,val:=d u,born:=clock }) (clock+1)):=by
 constructor
 ·intro j v hl
  obtain⟨_,hj,_,hp,_⟩:=uo hl
  rw[Nat.sub_zero] at hj hp
  obtain⟨m,hm,hmk,hmv⟩:=Ct h2 hj
  have hm':es[j]?=some m:=by simpa using hm
  refine⟨m,hm',hmk,?_,stamped_modify h3 j _ (fun _ _=>rfl) (fun e _ he=>?_)⟩
  ·rw[hp]
   apply oL
   intro k
   have hk:=congrArg (fun l=>l[k]?) h2
   simp only[dH] at hk ⊢
   by_cases hjk:j=k
   ·subst hjk
    have hlt:j<xs.length:=(cH.1 hj).1
    have hlt2:j<es.size:=(pY.1 hm').1
    simp[hlt,hlt2,BI,Array.getElem_modify]
   ·rw[ky hjk,←hk]
    simp only[BI,xD,if_neg hjk]
  ·rw[hm'] at he;cases he;exact hmk.symm
 ·intro hl
  obtain⟨_,hne,hp,_⟩:=sS hl
  refine⟨by rw[hp];simp[h2],stamped_push h3 fun m hm=>?_⟩
  intro he
  have:(m.key,m.val)∈es.toList.map (fun e=>(e.key,e.val)):=eC.2 ⟨m,hm,rfl⟩
  rw[h2] at this
  obtain⟨x,hx,hx2⟩:=eC.1 this
  have:c x.1=m.key:=congrArg Prod.fst hx2
  exact hne x hx (K.inj _ _ (this.trans he))
theorem Jy{P:Program}(K:iU P kt c)(a:κ)(w:World):(Instr.keyThatStays (c a) (c a)).run P w=.ok (c a) w:=by
 simp[Instr.keyThatStays,K.bits]
theorem aG.mapUpdate(i:Nat)(K:iU X.P kt c)(hT:X.P.underlying T=some (.map kt et)){a:κ}{u:α}(hx:ev e x=some (.map (some b)))(hk:ev e y=some (c a))(hv:ev e z=some (d u))(hL:L[i]?=some (eI c d b xs)):
  aG X (.mapUpdate T x y z) e L (fun v L'=>v=undef∧L'=L.set i (eI c d b (cQ xs a u))):=fun ac w ha hw dst ty pos after guard=>by
 obtain⟨⟨es,clock,h1,h2,h3⟩,hf⟩:=hw.yC hL
 have hfi:=K.find d a xs es.toList h2 w
 obtain⟨p1,p2⟩:=Ir K a u h2 h3
 have hids:∀ids w,(eI c d b xs).sat ids w→ids=[b]:=fun _ _ h=>h.1
 cases hl:jE xs a 0 with
 | none=>
  obtain⟨q1,q2⟩:=p2 hl
  rw[hl] at hfi
  refine .inr (.inl ⟨dq w b (.map (es.push { key:=c a,val:=d u,born:=clock }) (clock+1)),_,?_,⟨rfl,Z⟩,hw.oz hL hids h1 hf ⟨rfl,_,_,pd h1,q1,q2⟩⟩)
  have:(Instr.mapUpdate T (.map (some b)) (c a) (d u)).run X.P w=.ok () (dq w b (.map (es.push { key:=c a,val:=d u,born:=clock }) (clock+1))):=by
   simp[Instr.mapUpdate,run_underlying hT,MapKept.run_getObj_map h1,K.check,hfi,MapKept.run_setObj_map _ h1,Result.andThen,dq]
  simp only[execOp,ha.ev hx,ha.ev hk,ha.ev hv]
  rw[Sem.run_bind,this];rfl
 | some p=>
  obtain⟨j,v⟩:=p
  obtain⟨m,hm,hmk,q1,q2⟩:=p1 hl
  rw[hl] at hfi
  refine .inr (.inl ⟨dq w b (.map (es.modify j fun e=>{ e with key:=c a,val:=d u }) clock),_,?_,⟨rfl,Z⟩,hw.oz hL hids h1 hf ⟨rfl,_,_,pd h1,q1,q2⟩⟩)
  have:(Instr.mapUpdate T (.map (some b)) (c a) (d u)).run X.P w=.ok () (dq w b (.map (es.modify j fun e=>{ e with key:=c a,val:=d u }) clock)):=by
   simp[Instr.mapUpdate,run_underlying hT,MapKept.run_getObj_map h1,K.check,hfi,hm,hmk,Jy K,MapKept.run_setObj_map _ h1,Result.andThen,dq]
  simp only[execOp,ha.ev hx,ha.ev hk,ha.ev hv]
  rw[Sem.run_bind,this];rfl
theorem map_eraseIdx{β γ:Type}(f:β→γ):∀(l:List β) (i:Nat),(l.eraseIdx i).map f=(l.map f).eraseIdx i
 | [],_=>rfl
 | _::_,0=>rfl
 | x::l,i+1=>by simp[map_eraseIdx f l i]
theorem QC{j:Nat}{v:α}{a:κ}{es:Array MapEntry}(h2:es.toList.map (fun e=>(e.key,e.val))=xs.map (fun x=>(c x.1,d x.2)))(hl:jE xs a 0=some (j,v)):
  (es.eraseIdxIfInBounds j).toList.map (fun e=>(e.key,e.val))=(ff xs a).map (fun x=>(c x.1,d x.2)):=by
 obtain⟨_,hj,_,_,hp⟩:=uo hl
 rw[Nat.sub_zero] at hj hp
 obtain⟨m,hm,_⟩:=Ct h2 hj
 have hlt:j<es.size:=by have:=(cH.1 hm).1;simpa using this
 rw[hp]
 unfold Array.eraseIdxIfInBounds
 rw[dif_pos hlt,Array.toList_eraseIdx,map_eraseIdx,map_eraseIdx,h2]
theorem aG.delete(i:Nat)(K:iU X.P kt c)(hT:X.P.underlying T=some (.map kt et)){t2:TypeId}{a:κ}(hx:ev e x=some (.map (some b)))(hk:ev e y=some (c a))(hL:L[i]?=some (eI c d b xs)):
  aG X (.call ⟨.builtin .delete,#[x,y],#[T,t2]⟩) e L (fun v L'=>v=.tuple #[]∧L'=L.set i (eI c d b (ff xs a))):=fun ac w ha hw dst ty pos after guard=>by
 obtain⟨⟨es,clock,h1,h2,h3⟩,hf⟩:=hw.yC hL
 have hfi:=K.find d a xs es.toList h2 w
 have hids:∀ids w,(eI c d b xs).sat ids w→ids=[b]:=fun _ _ h=>h.1
 cases hl:jE xs a 0 with
 | none=>
  obtain⟨_,_,_,hd⟩:=sS hl
  rw[hl] at hfi
  refine .inl ⟨_,dq w b (.map es clock),_,?_,⟨rfl,Z⟩,hw.oz hL hids h1 hf ⟨rfl,_,_,pd h1,by rw[hd];exact h2,h3⟩⟩
  have:(Builtin.delete_ #[T,t2] ty #[.map (some b),c a]).run X.P w=.ok (.tuple #[]) (dq w b (.map es clock)):=by
   simp[Builtin.delete_,run_underlying hT,MapKept.run_getObj_map h1,K.check,hfi,MapKept.run_setObj_map _ h1,Result.andThen,dq]
  simp[execOp,resolve,invoke,builtin,ha.ev hx,ha.ev hk,this]
 | some p=>
  obtain⟨j,v⟩:=p
  rw[hl] at hfi
  refine .inl ⟨_,dq w b (.map (es.eraseIdxIfInBounds j) clock),_,?_,⟨rfl,Z⟩,hw.oz hL hids h1 hf ⟨rfl,_,_,pd h1,QC h2 hl,stamped_erase h3 j⟩⟩
  have:(Builtin.delete_ #[T,t2] ty #[.map (some b),c a]).run X.P w=.ok (.tuple #[]) (dq w b (.map (es.eraseIdxIfInBounds j) clock)):=by
   simp[Builtin.delete_,run_underlying hT,MapKept.run_getObj_map h1,K.check,hfi,MapKept.run_setObj_map _ h1,Result.andThen,dq]
  simp[execOp,resolve,invoke,builtin,ha.ev hx,ha.ev hk,this]
theorem aG.makeMap(c:κ→Value)(d:α→Value){T:TypeId}:aG X (.makeMap T none) e L (fun v L'=>∃b,v=.map (some b)∧L'=eI c d b ([]:List (κ×α))::L):=fun ac w ha hw dst ty pos after guard=>by
 refine .inl ⟨_,w.alloc (.map #[] 0),_,?_,⟨w.heap.size,Z,Z⟩,hw.MX⟩
 simp[execOp,Instr.makeMap,newObj,Sem.run]
end
section
variable {X:Cx} {ops:Array Oper} {G:GS} {l:List Oper} {e:Env} {L:List HP} {K:Env→List HP→Prop}
  {dst:Option Tmp} {ty:TypeId} {pos:String} {after:Array Edge} {guard:Option (Nat×Bool)}
theorem VO.rU{op:Op}{v:Value}{L':List HP}(h:aG X op e L (fun u M=>u=v∧M=L'))(hk:VO X ops G l (bI dst v e) L' K)
  (hg:bN ops G guard=some true:=by rfl) (hd:b9 X.n dst=true:=by rfl) (hf:bP G dst=true:=by rfl):VO X ops G (⟨dst,op,ty,pos,after,guard⟩::l) e L K:=
 VO.op hg hd hf h (fun _ _ ⟨h1,h2⟩=>by subst h1;subst h2;exact hk)
theorem VO.ot{op:Op}{M:Value→List HP→Prop}(h:aG X op e L M)(hk:∀v L',M v L'→VO X ops G l (bI dst v e) L' K)
  (hg:bN ops G guard=some true:=by rfl) (hd:b9 X.n dst=true:=by rfl) (hf:bP G dst=true:=by rfl):VO X ops G (⟨dst,op,ty,pos,after,guard⟩::l) e L K:=
 VO.op hg hd hf h hk
end
theorem Sv{P:Program}{ty k el:Nat}(hund:P.underlying ty=some (.map k el))(a:Option Nat)(w:World):(Op.equal ty (.map a) (.map none)).run P w=.ok a.isNone w:=by
 unfold Op.equal
 show(Op.equalIn (9999+1) ty (.map a) (.map none)).run P w=_
 rw[Op.equalIn,Sem.run_bind,run_underlying hund]
 cases a<;>rfl
theorem H6{X:Cx}{e:Env}{T k el yt:TypeId}{x y:Operand}{a:Option Nat}(hund:X.P.underlying T=some (.map k el))(hx:ev e x=some (.map a))(hy:ev e y=some (.map none)):eD X (.binOp .eql T x y yt) e (.bool a.isNone):=by
 intro a' ha dst t pos after guard w
 simp only[execOp,ha.ev hx,ha.ev hy]
 have h:(do eqGuard .eql T x y (.map a) (.map none);binOp .eql T (.map a) (.map none):Sem Value).run X.P w=.ok (.bool a.isNone) w:=by
  show((do pure (.bool (←Op.equal T (.map a) (.map none))):Sem Value)).run X.P w=_
  rw[Sem.run_bind,Sv hund];rfl
 rw[Sem.run_bind,h];rfl
section
variable {X:Cx} {κ α:Type} [DecidableEq κ] {c:κ→Value} {d:α→Value} {b:Nat} {xs:List (κ×α)} {ops:Array Oper} {G:GS} {pl:fU} {S:iF} {e:Env} {L:List HP} {K:Env→List HP→Prop}
  {dst:Option Tmp} {ty:TypeId} {pos:String} {after:Array Edge} {guard:Option (Nat×Bool)}
theorem VA.lookup{i:Nat}{T kt et:TypeId}{te:TI}{x y:Operand}{a:κ}{ok:Bool}(KO:iU X.P kt c)(hT:X.P.underlying T=some (.map kt et))(hE:bD X.tab et=some te)
  (hi:ops.toList[i]?=some ⟨dst,.lookup T x y ok,ty,pos,after,guard⟩) (hx:ev e x=some (.map (some b))) (hk:ev e y=some (c a)) (hM:cO X L c d b xs)
  (hn:VA X ops G pl ((i,mS c d b xs)::S) (bI dst (bif ok then .tuple #[((cD xs a).map d).getD te.zero,.bool (cD xs a).isSome] else ((cD xs a).map d).getD te.zero) e) L K)
  (hg:bN ops G guard=some true:=by rfl) (hd:b9 X.n dst=true:=by rfl) (hf:bP G dst=true:=by rfl):VA X ops G (.take i pl) S e L K:=
 VA.first (Si:=mS c d b xs) hi hd hf (fun ac ha hG=>.inl ⟨nh hG hg,fun w hw=>by
  simp only[execOp,ha.ev hx,ha.ev hk]
  rw[Sem.run_bind,JB KO hT (X.ok.look hE) a ok hw];rfl⟩) hM hn
theorem Pd.jB{f:Nat×(World→Prop)→Bool}{i:Nat}(h:cO X L c d b xs)(hs:Pd X L (S.filter f)):Pd X L (((i,mS c d b xs)::S).filter f):=fun p hp=>by
 obtain⟨h1,h2⟩:=gL.1 hp
 rcases gK.1 h1 with rfl | h1
 ·exact fun w hw=>h w hw
 ·exact hs p (gL.2 ⟨h1,h2⟩)
end
end Vg
namespace Vg
open Go
structure aP{α:Type}(c:α→List Value)(n:Nat)(Fr:Nat→Prop)(w:World)(a:Option Addr)(l:List α):Prop where
 at_:l≠[]→∃b off,a=some ⟨b,off,none⟩∧Fr b∧∀i x,l[i]?=some x→w.rangeAt b (off+i*n) (c x)
section
variable {α:Type} {c:α→List Value} {n:Nat}
theorem aP.bL{Fr Fr':Nat→Prop}{w w':World}{a:Option Addr}{l:List α}(h:aP c n Fr w a l)(hF:∀b,Fr b→Fr' b)(hk:cB Fr w w'):aP c n Fr' w' a l:=⟨fun hne=>by
 obtain⟨b,off,h1,h2,h3⟩:=h.at_ hne
 refine⟨b,off,h1,hF b h2,fun i x hx j v hv=>?_⟩
 have:=h3 i x hx j v hv
 unfold World.cell? at this ⊢
 rw[hk.block b h2];exact this⟩
theorem aP.of{X:Cx}{a:Option Addr}{l:List α}(h:aP c n X.Fr X.w0 a l){Fr':Nat→Prop}(hF:∀b,X.Fr b→Fr' b){w:World}{L:List HP}(hw:St X L w):aP c n Fr' w a l:=h.bL hF hw.bL
theorem aP.mono{Fr Fr':Nat→Prop}{w:World}{a:Option Addr}{l:List α}(h:aP c n Fr w a l)(hF:∀b,Fr b→Fr' b):aP c n Fr' w a l:=⟨fun hne=>by
 obtain⟨b,off,h1,h2,h3⟩:=h.at_ hne
 exact⟨b,off,h1,hF b h2,h3⟩⟩
theorem aP.nil{Fr:Nat→Prop}{w:World}{a:Option Addr}:aP c n Fr w a []:=⟨fun h=>absurd rfl h⟩
theorem aP.rd{X:Cx}{a:Option Addr}{l:List α}(h:aP c n X.Fr X.w0 a l){i:Nat}{x:α}(hx:l[i]?=some x):∃b off,a=some ⟨b,off,none⟩ ∧
  (∀(L:List HP) (ti:TI),(c x).length=ti.size→ti.ax.agg=true→an X L ti b (off+i*n) (.agg (c x).toArray)) ∧
  ∀(L:List HP) (ti:TI) (j:Nat) (v:Value),ti.ax.agg=false→(c x)[j]?=some v→an X L ti b (off+i*n+j) v:=by
 obtain⟨b,off,h1,h2,h3⟩:=h.at_ (fun e=>by rw[e] at hx;cases hx)
 refine⟨b,off,h1,fun L ti hl ha=>an.rd h2 ?_,fun L ti j v ha hv=>an.rd h2 ?_⟩
 ·rw[ha];exact⟨c x,rfl,hl,h3 i x hx⟩
 ·rw[ha];exact h3 i x hx j v hv
theorem aP.ar{Fr:Nat→Prop}{w:World}{b off:Nat}{cs:List Value}{l:List α}(h:a7 Fr w b cs)(hc:∀i x,l[i]?=some x→(cs.drop (off+i*n)).take n=c x):aP c n Fr w (some ⟨b,off,none⟩) l:=⟨fun hne=>by
 obtain⟨t',fz,ht⟩:=h.at_
 exact⟨b,off,Z,h.fr,fun i x hx=>DZ ht (hc i x hx)⟩⟩
theorem Ji{w:World}(hc:∀x,(c x).length=n):∀{l:List α} {b off:Nat},(∀i x,l[i]?=some x→w.rangeAt b (off+i*n) (c x))→w.rangeAt b off (flat c l)
 | [],b,off,_=>fun j v hv=>by simp[flat] at hv
 | x::l,b,off,h=>fun j v hv=>by
  rw[ki,BJ] at hv
  have h0:=h 0 x rfl
  rw[Nat.zero_mul,vu] at h0
  split at hv
  ·exact h0 j v hv
  ·rename_i hj
   rw[hc x] at hj hv
   have ih:=Ji hc (l:=l) (b:=b) (off:=off+n) (fun i y hy=>by
    have:=h (i+1) y (by simpa using hy)
    rw[Nat.succ_mul] at this
    rw[show off+n+i*n=off+(i*n+n) from by omega];exact this)
   have:=ih (j-n) v hv
   rw[show off+n+(j-n)=off+j from by omega] at this
   exact this
theorem aP.row{X:Cx}{L:List HP}{a:Option Addr}{cap:Nat}{l:List α}(hc:∀x,(c x).length=n)(h:aP c n X.Fr X.w0 a l):dN X L (.slice a l.length cap) n l.length (flat c l):=by
 refine⟨dS hc l,?_⟩
 by_cases hl:l=[]
 ·exact .inl ⟨a,cap,Z,by simp[hl]⟩
 ·obtain⟨b,off,h1,h2,h3⟩:=h.at_ hl
  refine .inr ⟨b,off,cap,by rw[h1],fun w hw=>?_⟩
  have:=(aP.of (X:=X) (Fr':=X.Fr) h (fun _ h=>h) hw)
  obtain⟨b',off',e1,_,e3⟩:=this.at_ hl
  rw[h1] at e1
  cases e1
  exact Ji hc e3
end
section
variable {X:Cx} {e:Env} {xt yt:TypeId} {x y:Operand} {a b:Nat}
end
end Vg
namespace Vg
open Go
section
variable {tB:TypeId}
end
theorem RL.Ok.ld{α:Type}{c:α→List Value}{n t:Nat}{r:RL α}(h:r.Ok c n){k:Nat}{x:α}(hx:r.xs[k]?=some x)(hc:(c x).length=n):∃b off,r.ar=some b∧r.addr=some ⟨b,off,Option.none⟩ ∧
  ∀{X:Cx} {L:List HP} (i:Nat),L[i]?=some (r.h t)→(∀ti:TI,n=ti.size→ti.ax.agg=true→an X L ti b (off+k*n) (.agg (c x).toArray)) ∧
   ∀(ti:TI) (j:Nat) (v:Value),ti.ax.agg=false→(c x)[j]?=some v→an X L ti b (off+k*n+j) v:=by
 obtain⟨b,off,h1,h2,h3⟩:=h.nth hx
 refine⟨b,off,h1,h2,fun {X L} i hL=>?_⟩
 rw[RL.HG h1] at hL
 refine⟨fun ti hn ha=>an.many i hL (by rw[←hn];exact h3) (by rw[hc,hn]) ha,fun ti j v ha hv=>an.one i hL ?_ ha⟩
 rw[←h3,p3] at hv
 split at hv
 ·rw[qZ] at hv;exact hv
 ·cases hv
end Vg
namespace T
open Go Vg
abbrev I0:Value:=.int .i64 0
abbrev S0:Value:=.string ⟨#[]⟩
def t3:TI:={ ax:=.int .i64,size:=1,bytes:=8,zero:=I0,zs:=[I0] }
theorem WB:aE Tryz.prog 3 t3:=⟨by kernel_rfl,by kernel_rfl,rfl,rfl⟩
def t4:TI:={ ax:=.bool,size:=1,bytes:=1,zero:=.bool false,zs:=[.bool false] }
theorem W1:aE Tryz.prog 4 t4:=⟨by kernel_rfl,by kernel_rfl,rfl,rfl⟩
def t2:TI:={ ax:=.int .i64,size:=1,bytes:=8,zero:=I0,zs:=[I0] }
theorem VW:aE Tryz.prog 2 t2:=⟨by kernel_rfl,by kernel_rfl,rfl,rfl⟩
def t9:TI:={ ax:=.string,size:=1,bytes:=16,zero:=S0,zs:=[S0] }
theorem Xn:aE Tryz.prog 9 t9:=⟨by kernel_rfl,by kernel_rfl,rfl,rfl⟩
def t5:TI:={ ax:=.int .u8,size:=1,bytes:=1,zero:=.int .u8 0,zs:=[.int .u8 0] }
theorem W2:aE Tryz.prog 5 t5:=⟨by kernel_rfl,by kernel_rfl,rfl,rfl⟩
def t32:TI:={ ax:=.int .i64,size:=1,bytes:=8,zero:=I0,zs:=[I0] }
theorem V_:aE Tryz.prog 32 t32:=⟨by kernel_rfl,by kernel_rfl,rfl,rfl⟩
def t353:TI:={ ax:=.struct [(0,1),(1,1),(2,1),(3,1),(4,1),(5,1),(6,1),(7,4),(11,4),(15,1),(16,7),(23,3),(26,1),(27,1),(28,1)],size:=29,bytes:=288,zero:=.agg ([I0,I0,I0,I0,I0,I0,I0,I0,S0,S0,I0,I0,S0,I0,I0,I0,I0,I0,I0,I0,S0,S0,I0,I0,.slice none 0 0,I0,I0,I0,I0]:List Value).toArray,zs:=[I0,I0,I0,I0,I0,I0,I0,I0,S0,S0,I0,I0,S0,I0,I0,I0,I0,I0,I0,I0,S0,S0,I0,I0,.slice none 0 0,I0,I0,I0,I0] }
theorem Wj:aE Tryz.prog 353 t353:=⟨by kernel_rfl,by kernel_rfl,rfl,rfl⟩
def t6:TI:={ ax:=.int .u8,size:=1,bytes:=1,zero:=.int .u8 0,zs:=[.int .u8 0] }
theorem W8:aE Tryz.prog 6 t6:=⟨by kernel_rfl,by kernel_rfl,rfl,rfl⟩
def t75:TI:={ ax:=.ptr 147,size:=1,bytes:=8,zero:=.pointer none,zs:=[.pointer none] }
theorem Xb:aE Tryz.prog 75 t75:=⟨by kernel_rfl,by kernel_rfl,rfl,rfl⟩
def t91:TI:={ ax:=.struct [(0,1),(1,1),(2,1)],size:=3,bytes:=40,zero:=.agg ([I0,.slice none 0 0,I0]:List Value).toArray,zs:=[I0,.slice none 0 0,I0] }
theorem Xj:aE Tryz.prog 91 t91:=⟨by kernel_rfl,by kernel_rfl,rfl,rfl⟩
def t7:TI:={ ax:=.struct [(0,1),(1,1),(2,1),(3,1)],size:=4,bytes:=24,zero:=.agg ([I0,I0,.bool false,.int .u8 0]:List Value).toArray,zs:=[I0,I0,.bool false,.int .u8 0] }
theorem Xd:aE Tryz.prog 7 t7:=⟨by kernel_rfl,by kernel_rfl,rfl,rfl⟩
def t24:TI:={ ax:=.struct [(0,1),(1,1),(2,1),(3,1),(4,1),(5,1),(6,1),(7,1),(8,1),(9,1),(10,1),(11,1)],size:=12,bytes:=112,zero:=.agg ([I0,I0,I0,.slice none 0 0,I0,I0,I0,I0,I0,I0,I0,I0]:List Value).toArray,zs:=[I0,I0,I0,.slice none 0 0,I0,I0,I0,I0,I0,I0,I0,I0] }
theorem U9:aE Tryz.prog 24 t24:=⟨by kernel_rfl,by kernel_rfl,rfl,rfl⟩
def t8:TI:={ ax:=.struct [(0,1),(1,1),(2,1),(3,1)],size:=4,bytes:=24,zero:=.agg ([I0,I0,.bool false,.int .u8 0]:List Value).toArray,zs:=[I0,I0,.bool false,.int .u8 0] }
theorem Xh:aE Tryz.prog 8 t8:=⟨by kernel_rfl,by kernel_rfl,rfl,rfl⟩
def t28:TI:={ ax:=.ptr 72,size:=1,bytes:=8,zero:=.pointer none,zs:=[.pointer none] }
theorem Vy:aE Tryz.prog 28 t28:=⟨by kernel_rfl,by kernel_rfl,rfl,rfl⟩
def t21:TI:={ ax:=.int .i32,size:=1,bytes:=4,zero:=.int .i32 0,zs:=[.int .i32 0] }
theorem UI:aE Tryz.prog 21 t21:=⟨by kernel_rfl,by kernel_rfl,rfl,rfl⟩
def t283:TI:={ ax:=.int .u64,size:=1,bytes:=8,zero:=.int .u64 0,zs:=[.int .u64 0] }
theorem Vu:aE Tryz.prog 283 t283:=⟨by kernel_rfl,by kernel_rfl,rfl,rfl⟩
def t241:TI:={ ax:=.int .u32,size:=1,bytes:=4,zero:=.int .u32 0,zs:=[.int .u32 0] }
theorem U0:aE Tryz.prog 241 t241:=⟨by kernel_rfl,by kernel_rfl,rfl,rfl⟩
def t78:TI:={ ax:=.ptr 160,size:=1,bytes:=8,zero:=.pointer none,zs:=[.pointer none] }
theorem Xc:aE Tryz.prog 78 t78:=⟨by kernel_rfl,by kernel_rfl,rfl,rfl⟩
def t111:TI:={ ax:=.slice 113,size:=1,bytes:=24,zero:=.slice none 0 0,zs:=[.slice none 0 0] }
theorem TH:aE Tryz.prog 111 t111:=⟨by kernel_rfl,by kernel_rfl,rfl,rfl⟩
def t85:TI:={ ax:=.struct [(0,1),(1,1),(2,1),(3,1)],size:=4,bytes:=48,zero:=.agg ([I0,S0,S0,I0]:List Value).toArray,zs:=[I0,S0,S0,I0] }
theorem Xf:aE Tryz.prog 85 t85:=⟨by kernel_rfl,by kernel_rfl,rfl,rfl⟩
def t99:TI:={ ax:=.ptr 174,size:=1,bytes:=8,zero:=.pointer none,zs:=[.pointer none] }
theorem Xm:aE Tryz.prog 99 t99:=⟨by kernel_rfl,by kernel_rfl,rfl,rfl⟩
def t113:TI:={ ax:=.array 2 3,size:=2,bytes:=16,zero:=.agg ([I0,I0]:List Value).toArray,zs:=[I0,I0] }
theorem TJ:aE Tryz.prog 113 t113:=⟨by kernel_rfl,by kernel_rfl,rfl,rfl⟩
def t62:TI:={ ax:=.ptr 137,size:=1,bytes:=8,zero:=.pointer none,zs:=[.pointer none] }
theorem W3:aE Tryz.prog 62 t62:=⟨by kernel_rfl,by kernel_rfl,rfl,rfl⟩
def t105:TI:={ ax:=.struct [(0,1),(1,1),(2,1),(3,1)],size:=4,bytes:=40,zero:=.agg ([I0,S0,I0,I0]:List Value).toArray,zs:=[I0,S0,I0,I0] }
theorem TC:aE Tryz.prog 105 t105:=⟨by kernel_rfl,by kernel_rfl,rfl,rfl⟩
def t147:TI:={ ax:=.struct [(0,1),(1,1),(2,1),(3,1),(4,3),(7,1),(8,1),(9,1),(10,1),(11,1),(12,1),(13,1),(14,1),(15,1),(16,1)],size:=17,bytes:=152,zero:=.agg ([I0,I0,I0,I0,I0,.slice none 0 0,I0,I0,.bool false,.pointer none,.pointer none,.pointer none,.pointer none,I0,I0,.bool false,I0]:List Value).toArray,zs:=[I0,I0,I0,I0,I0,.slice none 0 0,I0,I0,.bool false,.pointer none,.pointer none,.pointer none,.pointer none,I0,I0,.bool false,I0] }
theorem T8:aE Tryz.prog 147 t147:=⟨by kernel_rfl,by kernel_rfl,rfl,rfl⟩
def t40:TI:={ ax:=.slice 9,size:=1,bytes:=24,zero:=.slice none 0 0,zs:=[.slice none 0 0] }
theorem WC:aE Tryz.prog 40 t40:=⟨by kernel_rfl,by kernel_rfl,rfl,rfl⟩
def t26:TI:={ ax:=.ptr 31,size:=1,bytes:=8,zero:=.pointer none,zs:=[.pointer none] }
theorem Vl:aE Tryz.prog 26 t26:=⟨by kernel_rfl,by kernel_rfl,rfl,rfl⟩
def t10:TI:={ ax:=.string,size:=1,bytes:=16,zero:=S0,zs:=[S0] }
theorem TG:aE Tryz.prog 10 t10:=⟨by kernel_rfl,by kernel_rfl,rfl,rfl⟩
def t262:TI:={ ax:=.struct [(0,1),(1,1),(2,1),(3,4)],size:=7,bytes:=72,zero:=.agg ([I0,I0,I0,I0,S0,S0,I0]:List Value).toArray,zs:=[I0,I0,I0,I0,S0,S0,I0] }
theorem Vd:aE Tryz.prog 262 t262:=⟨by kernel_rfl,by kernel_rfl,rfl,rfl⟩
def t89:TI:={ ax:=.slice 96,size:=1,bytes:=24,zero:=.slice none 0 0,zs:=[.slice none 0 0] }
theorem Xg:aE Tryz.prog 89 t89:=⟨by kernel_rfl,by kernel_rfl,rfl,rfl⟩
def t48:TI:={ ax:=.struct [(0,1),(1,1)],size:=2,bytes:=48,zero:=.agg ([.slice none 0 0,.slice none 0 0]:List Value).toArray,zs:=[.slice none 0 0,.slice none 0 0] }
theorem WX:aE Tryz.prog 48 t48:=⟨by kernel_rfl,by kernel_rfl,rfl,rfl⟩
def t143:TI:={ ax:=.ptr 217,size:=1,bytes:=8,zero:=.pointer none,zs:=[.pointer none] }
theorem T4:aE Tryz.prog 143 t143:=⟨by kernel_rfl,by kernel_rfl,rfl,rfl⟩
def t22:TI:={ ax:=.slice 3,size:=1,bytes:=24,zero:=.slice none 0 0,zs:=[.slice none 0 0] }
theorem UR:aE Tryz.prog 22 t22:=⟨by kernel_rfl,by kernel_rfl,rfl,rfl⟩
def t96:TI:={ ax:=.struct [(0,1),(1,1)],size:=2,bytes:=16,zero:=.agg ([I0,I0]:List Value).toArray,zs:=[I0,I0] }
theorem Xl:aE Tryz.prog 96 t96:=⟨by kernel_rfl,by kernel_rfl,rfl,rfl⟩
def t11:TI:={ ax:=.string,size:=1,bytes:=16,zero:=S0,zs:=[S0] }
theorem TN:aE Tryz.prog 11 t11:=⟨by kernel_rfl,by kernel_rfl,rfl,rfl⟩
def t69:TI:={ ax:=.ptr 142,size:=1,bytes:=8,zero:=.pointer none,zs:=[.pointer none] }
theorem W7:aE Tryz.prog 69 t69:=⟨by kernel_rfl,by kernel_rfl,rfl,rfl⟩
def t169:TI:={ ax:=.struct [(0,1),(1,1),(2,1),(3,1),(4,4)],size:=8,bytes:=80,zero:=.agg ([I0,I0,I0,I0,I0,S0,S0,I0]:List Value).toArray,zs:=[I0,I0,I0,I0,I0,S0,S0,I0] }
theorem Ue:aE Tryz.prog 169 t169:=⟨by kernel_rfl,by kernel_rfl,rfl,rfl⟩
def t197:TI:={ ax:=.struct [(0,1),(1,1),(2,4),(6,1),(7,1),(8,6)],size:=14,bytes:=136,zero:=.agg ([I0,I0,I0,S0,S0,I0,I0,I0,I0,I0,I0,S0,I0,I0]:List Value).toArray,zs:=[I0,I0,I0,S0,S0,I0,I0,I0,I0,I0,I0,S0,I0,I0] }
theorem Uw:aE Tryz.prog 197 t197:=⟨by kernel_rfl,by kernel_rfl,rfl,rfl⟩
def t144:TI:={ ax:=.ptr 225,size:=1,bytes:=8,zero:=.pointer none,zs:=[.pointer none] }
theorem T5:aE Tryz.prog 144 t144:=⟨by kernel_rfl,by kernel_rfl,rfl,rfl⟩
def t310:TI:={ ax:=.slice 355,size:=1,bytes:=24,zero:=.slice none 0 0,zs:=[.slice none 0 0] }
theorem V4:aE Tryz.prog 310 t310:=⟨by kernel_rfl,by kernel_rfl,rfl,rfl⟩
def t181:TI:={ ax:=.slice 5,size:=1,bytes:=24,zero:=.slice none 0 0,zs:=[.slice none 0 0] }
theorem Um:aE Tryz.prog 181 t181:=⟨by kernel_rfl,by kernel_rfl,rfl,rfl⟩
def t188:TI:={ ax:=.struct [(0,1),(1,1),(2,1),(3,1),(4,3),(7,1),(8,1)],size:=9,bytes:=120,zero:=.agg ([I0,I0,I0,I0,I0,.slice none 0 0,I0,.slice none 0 0,.slice none 0 0]:List Value).toArray,zs:=[I0,I0,I0,I0,I0,.slice none 0 0,I0,.slice none 0 0,.slice none 0 0] }
theorem Uq:aE Tryz.prog 188 t188:=⟨by kernel_rfl,by kernel_rfl,rfl,rfl⟩
def t300:TI:={ ax:=.ptr 3,size:=1,bytes:=8,zero:=.pointer none,zs:=[.pointer none] }
theorem VX:aE Tryz.prog 300 t300:=⟨by kernel_rfl,by kernel_rfl,rfl,rfl⟩
def t12:TI:={ ax:=.int .u64,size:=1,bytes:=8,zero:=.int .u64 0,zs:=[.int .u64 0] }
theorem TT:aE Tryz.prog 12 t12:=⟨by kernel_rfl,by kernel_rfl,rfl,rfl⟩
def t70:TI:={ ax:=.slice 262,size:=1,bytes:=24,zero:=.slice none 0 0,zs:=[.slice none 0 0] }
theorem W9:aE Tryz.prog 70 t70:=⟨by kernel_rfl,by kernel_rfl,rfl,rfl⟩
def t295:TI:={ ax:=.ptr 349,size:=1,bytes:=8,zero:=.pointer none,zs:=[.pointer none] }
theorem VR:aE Tryz.prog 295 t295:=⟨by kernel_rfl,by kernel_rfl,rfl,rfl⟩
def t72:TI:={ ax:=.struct [(0,12),(12,1),(13,1),(14,1),(15,1),(16,1),(17,1),(18,1)],size:=19,bytes:=216,zero:=.agg ([I0,I0,I0,.slice none 0 0,I0,I0,I0,I0,I0,I0,I0,I0,I0,.pointer none,.slice none 0 0,.slice none 0 0,.pointer none,.pointer none,.slice none 0 0]:List Value).toArray,zs:=[I0,I0,I0,.slice none 0 0,I0,I0,I0,I0,I0,I0,I0,I0,I0,.pointer none,.slice none 0 0,.slice none 0 0,.pointer none,.pointer none,.slice none 0 0] }
theorem Xa:aE Tryz.prog 72 t72:=⟨by kernel_rfl,by kernel_rfl,rfl,rfl⟩
def t233:TI:={ ax:=.int .u64,size:=1,bytes:=8,zero:=.int .u64 0,zs:=[.int .u64 0] }
theorem UU:aE Tryz.prog 233 t233:=⟨by kernel_rfl,by kernel_rfl,rfl,rfl⟩
def t107:TI:={ ax:=.struct [(0,1),(1,1),(2,4)],size:=6,bytes:=56,zero:=.agg ([I0,I0,I0,S0,I0,I0]:List Value).toArray,zs:=[I0,I0,I0,S0,I0,I0] }
theorem TE:aE Tryz.prog 107 t107:=⟨by kernel_rfl,by kernel_rfl,rfl,rfl⟩
def t160:TI:={ ax:=.struct [(0,1),(1,1),(2,1),(3,1),(4,1),(5,3),(8,1),(9,1),(10,1),(11,1),(12,1),(13,1),(14,1),(15,1),(16,1),(17,4)],size:=21,bytes:=200,zero:=.agg ([I0,I0,I0,I0,.pointer none,I0,.slice none 0 0,I0,.pointer none,I0,I0,I0,.bool false,I0,I0,I0,I0,I0,S0,S0,I0]:List Value).toArray,zs:=[I0,I0,I0,I0,.pointer none,I0,.slice none 0 0,I0,.pointer none,I0,I0,I0,.bool false,I0,I0,I0,I0,I0,S0,S0,I0] }
theorem Uc:aE Tryz.prog 160 t160:=⟨by kernel_rfl,by kernel_rfl,rfl,rfl⟩
def t218:TI:={ ax:=.ptr 294,size:=1,bytes:=8,zero:=.pointer none,zs:=[.pointer none] }
theorem UH:aE Tryz.prog 218 t218:=⟨by kernel_rfl,by kernel_rfl,rfl,rfl⟩
def t145:TI:={ ax:=.ptr 228,size:=1,bytes:=8,zero:=.pointer none,zs:=[.pointer none] }
theorem T6:aE Tryz.prog 145 t145:=⟨by kernel_rfl,by kernel_rfl,rfl,rfl⟩
def t14:TI:={ ax:=.struct [(0,1),(1,1)],size:=2,bytes:=24,zero:=.agg ([S0,.int .u64 0]:List Value).toArray,zs:=[S0,.int .u64 0] }
theorem T9:aE Tryz.prog 14 t14:=⟨by kernel_rfl,by kernel_rfl,rfl,rfl⟩
def t65:TI:={ ax:=.ptr 139,size:=1,bytes:=8,zero:=.pointer none,zs:=[.pointer none] }
theorem W4:aE Tryz.prog 65 t65:=⟨by kernel_rfl,by kernel_rfl,rfl,rfl⟩
def t121:TI:={ ax:=.struct [(0,3),(3,1),(4,1),(5,1)],size:=6,bytes:=112,zero:=.agg ([I0,.slice none 0 0,I0,.slice none 0 0,.slice none 0 0,.slice none 0 0]:List Value).toArray,zs:=[I0,.slice none 0 0,I0,.slice none 0 0,.slice none 0 0,.slice none 0 0] }
theorem TP:aE Tryz.prog 121 t121:=⟨by kernel_rfl,by kernel_rfl,rfl,rfl⟩
def t116:TI:={ ax:=.slice 124,size:=1,bytes:=24,zero:=.slice none 0 0,zs:=[.slice none 0 0] }
theorem TK:aE Tryz.prog 116 t116:=⟨by kernel_rfl,by kernel_rfl,rfl,rfl⟩
def t16:TI:={ ax:=.ptr 488,size:=1,bytes:=8,zero:=.pointer none,zs:=[.pointer none] }
theorem Uf:aE Tryz.prog 16 t16:=⟨by kernel_rfl,by kernel_rfl,rfl,rfl⟩
def t226:TI:={ ax:=.slice 366,size:=1,bytes:=24,zero:=.slice none 0 0,zs:=[.slice none 0 0] }
theorem UO:aE Tryz.prog 226 t226:=⟨by kernel_rfl,by kernel_rfl,rfl,rfl⟩
def t15:TI:={ ax:=.ptr 485,size:=1,bytes:=8,zero:=.pointer none,zs:=[.pointer none] }
theorem Ub:aE Tryz.prog 15 t15:=⟨by kernel_rfl,by kernel_rfl,rfl,rfl⟩
def t210:TI:={ ax:=.ptr 291,size:=1,bytes:=8,zero:=.pointer none,zs:=[.pointer none] }
theorem UA:aE Tryz.prog 210 t210:=⟨by kernel_rfl,by kernel_rfl,rfl,rfl⟩
def t360:TI:={ ax:=.struct [(0,1),(1,1),(2,1)],size:=3,bytes:=32,zero:=.agg ([I0,I0,S0]:List Value).toArray,zs:=[I0,I0,S0] }
theorem Wn:aE Tryz.prog 360 t360:=⟨by kernel_rfl,by kernel_rfl,rfl,rfl⟩
def t395:TI:={ ax:=.ptr 353,size:=1,bytes:=8,zero:=.pointer none,zs:=[.pointer none] }
theorem Wy:aE Tryz.prog 395 t395:=⟨by kernel_rfl,by kernel_rfl,rfl,rfl⟩
def t157:TI:={ ax:=.ptr 232,size:=1,bytes:=8,zero:=.pointer none,zs:=[.pointer none] }
theorem T_:aE Tryz.prog 157 t157:=⟨by kernel_rfl,by kernel_rfl,rfl,rfl⟩
def t13:TI:={ ax:=.struct [(0,1),(1,1)],size:=2,bytes:=24,zero:=.agg ([S0,.int .u64 0]:List Value).toArray,zs:=[S0,.int .u64 0] }
theorem T0:aE Tryz.prog 13 t13:=⟨by kernel_rfl,by kernel_rfl,rfl,rfl⟩
def t347:TI:={ ax:=.slice 353,size:=1,bytes:=24,zero:=.slice none 0 0,zs:=[.slice none 0 0] }
theorem We:aE Tryz.prog 347 t347:=⟨by kernel_rfl,by kernel_rfl,rfl,rfl⟩
def t174:TI:={ ax:=.struct [(0,1),(1,1),(2,1),(3,1),(4,1)],size:=5,bytes:=40,zero:=.agg ([I0,I0,I0,I0,I0]:List Value).toArray,zs:=[I0,I0,I0,I0,I0] }
theorem Uh:aE Tryz.prog 174 t174:=⟨by kernel_rfl,by kernel_rfl,rfl,rfl⟩
def t194:TI:={ ax:=.ptr 266,size:=1,bytes:=8,zero:=.pointer none,zs:=[.pointer none] }
theorem Uu:aE Tryz.prog 194 t194:=⟨by kernel_rfl,by kernel_rfl,rfl,rfl⟩
def t299:TI:={ ax:=.struct [(0,1),(1,1),(2,1),(3,1)],size:=4,bytes:=32,zero:=.agg ([.pointer none,I0,I0,I0]:List Value).toArray,zs:=[.pointer none,I0,I0,I0] }
theorem VU:aE Tryz.prog 299 t299:=⟨by kernel_rfl,by kernel_rfl,rfl,rfl⟩
def t366:TI:={ ax:=.struct [(0,1),(1,29),(30,4)],size:=34,bytes:=336,zero:=.agg ([I0,I0,I0,I0,I0,I0,I0,I0,I0,S0,S0,I0,I0,S0,I0,I0,I0,I0,I0,I0,I0,S0,S0,I0,I0,.slice none 0 0,I0,I0,I0,I0,I0,S0,I0,I0]:List Value).toArray,zs:=[I0,I0,I0,I0,I0,I0,I0,I0,I0,S0,S0,I0,I0,S0,I0,I0,I0,I0,I0,I0,I0,S0,S0,I0,I0,.slice none 0 0,I0,I0,I0,I0,I0,S0,I0,I0] }
theorem Wr:aE Tryz.prog 366 t366:=⟨by kernel_rfl,by kernel_rfl,rfl,rfl⟩
def t180:TI:={ ax:=.ptr 183,size:=1,bytes:=8,zero:=.pointer none,zs:=[.pointer none] }
theorem Ul:aE Tryz.prog 180 t180:=⟨by kernel_rfl,by kernel_rfl,rfl,rfl⟩
def t137:TI:={ ax:=.struct [(0,1),(1,1),(2,3),(5,6),(11,6)],size:=17,bytes:=112,zero:=.agg ([I0,I0,I0,.slice none 0 0,I0,I0,I0,I0,I0,I0,I0,.bool false,.bool false,.bool false,.bool false,.bool false,.bool false]:List Value).toArray,zs:=[I0,I0,I0,.slice none 0 0,I0,I0,I0,I0,I0,I0,I0,.bool false,.bool false,.bool false,.bool false,.bool false,.bool false] }
theorem TX:aE Tryz.prog 137 t137:=⟨by kernel_rfl,by kernel_rfl,rfl,rfl⟩
def t272:TI:={ ax:=.struct [(0,1),(1,1),(2,4),(6,4)],size:=10,bytes:=104,zero:=.agg ([I0,I0,I0,S0,S0,I0,I0,S0,I0,I0]:List Value).toArray,zs:=[I0,I0,I0,S0,S0,I0,I0,S0,I0,I0] }
theorem Vo:aE Tryz.prog 272 t272:=⟨by kernel_rfl,by kernel_rfl,rfl,rfl⟩
def t158:TI:={ ax:=.ptr 251,size:=1,bytes:=8,zero:=.pointer none,zs:=[.pointer none] }
theorem T':aE Tryz.prog 158 t158:=⟨by kernel_rfl,by kernel_rfl,rfl,rfl⟩
def t127:TI:={ ax:=.slice 197,size:=1,bytes:=24,zero:=.slice none 0 0,zs:=[.slice none 0 0] }
theorem TS:aE Tryz.prog 127 t127:=⟨by kernel_rfl,by kernel_rfl,rfl,rfl⟩
def t31:TI:={ ax:=.struct [(0,12),(12,1)],size:=13,bytes:=120,zero:=.agg ([I0,I0,I0,.slice none 0 0,I0,I0,I0,I0,I0,I0,I0,I0,.pointer none]:List Value).toArray,zs:=[I0,I0,I0,.slice none 0 0,I0,I0,I0,I0,I0,I0,I0,I0,.pointer none] }
theorem V5:aE Tryz.prog 31 t31:=⟨by kernel_rfl,by kernel_rfl,rfl,rfl⟩
def t222:TI:={ ax:=.struct [(0,1),(1,1)],size:=2,bytes:=16,zero:=.agg ([I0,I0]:List Value).toArray,zs:=[I0,I0] }
theorem UK:aE Tryz.prog 222 t222:=⟨by kernel_rfl,by kernel_rfl,rfl,rfl⟩
def t124:TI:={ ax:=.struct [(0,1),(1,1),(2,1)],size:=3,bytes:=24,zero:=.agg ([I0,I0,I0]:List Value).toArray,zs:=[I0,I0,I0] }
theorem TR:aE Tryz.prog 124 t124:=⟨by kernel_rfl,by kernel_rfl,rfl,rfl⟩
def t176:TI:={ ax:=.struct [(0,1),(1,1)],size:=2,bytes:=16,zero:=.agg ([I0,I0]:List Value).toArray,zs:=[I0,I0] }
theorem Uj:aE Tryz.prog 176 t176:=⟨by kernel_rfl,by kernel_rfl,rfl,rfl⟩
def t183:TI:={ ax:=.struct [(0,1),(1,1)],size:=2,bytes:=32,zero:=.agg ([.pointer none,.slice none 0 0]:List Value).toArray,zs:=[.pointer none,.slice none 0 0] }
theorem Uo:aE Tryz.prog 183 t183:=⟨by kernel_rfl,by kernel_rfl,rfl,rfl⟩
def t217:TI:={ ax:=.struct [(0,1),(1,1),(2,1),(3,12)],size:=15,bytes:=152,zero:=.agg ([.pointer none,.slice none 0 0,.slice none 0 0,I0,I0,I0,I0,I0,I0,I0,I0,I0,I0,I0,I0]:List Value).toArray,zs:=[.pointer none,.slice none 0 0,.slice none 0 0,I0,I0,I0,I0,I0,I0,I0,I0,I0,I0,I0,I0] }
theorem UG:aE Tryz.prog 217 t217:=⟨by kernel_rfl,by kernel_rfl,rfl,rfl⟩
def t475:TI:={ ax:=.ptr 245,size:=1,bytes:=8,zero:=.pointer none,zs:=[.pointer none] }
theorem WN:aE Tryz.prog 475 t475:=⟨by kernel_rfl,by kernel_rfl,rfl,rfl⟩
def t245:TI:={ ax:=.struct [(0,1),(1,1)],size:=2,bytes:=8,zero:=.agg ([.int .i32 0,.int .u32 0]:List Value).toArray,zs:=[.int .i32 0,.int .u32 0] }
theorem U4:aE Tryz.prog 245 t245:=⟨by kernel_rfl,by kernel_rfl,rfl,rfl⟩
def t232:TI:={ ax:=.struct [(0,1),(1,1),(2,1),(3,1),(4,1)],size:=5,bytes:=40,zero:=.agg ([I0,I0,I0,I0,I0]:List Value).toArray,zs:=[I0,I0,I0,I0,I0] }
theorem UT:aE Tryz.prog 232 t232:=⟨by kernel_rfl,by kernel_rfl,rfl,rfl⟩
def t458:TI:={ ax:=.ptr 299,size:=1,bytes:=8,zero:=.pointer none,zs:=[.pointer none] }
theorem WK:aE Tryz.prog 458 t458:=⟨by kernel_rfl,by kernel_rfl,rfl,rfl⟩
def t67:TI:={ ax:=.slice 75,size:=1,bytes:=24,zero:=.slice none 0 0,zs:=[.slice none 0 0] }
theorem W5:aE Tryz.prog 67 t67:=⟨by kernel_rfl,by kernel_rfl,rfl,rfl⟩
def t142:TI:={ ax:=.struct [(0,1),(1,1)],size:=2,bytes:=16,zero:=.agg ([I0,.map none]:List Value).toArray,zs:=[I0,.map none] }
theorem T3:aE Tryz.prog 142 t142:=⟨by kernel_rfl,by kernel_rfl,rfl,rfl⟩
def t204:TI:={ ax:=.int .i64,size:=1,bytes:=8,zero:=I0,zs:=[I0] }
theorem Uy:aE Tryz.prog 204 t204:=⟨by kernel_rfl,by kernel_rfl,rfl,rfl⟩
def t257:TI:={ ax:=.ptr 188,size:=1,bytes:=8,zero:=.pointer none,zs:=[.pointer none] }
theorem Vb:aE Tryz.prog 257 t257:=⟨by kernel_rfl,by kernel_rfl,rfl,rfl⟩
def t289:TI:={ ax:=.other,size:=1,bytes:=8,zero:=.map none,zs:=[.map none] }
theorem Vx:aE Tryz.prog 289 t289:=⟨by kernel_rfl,by kernel_rfl,rfl,rfl⟩
def t68:TI:={ ax:=.slice 78,size:=1,bytes:=24,zero:=.slice none 0 0,zs:=[.slice none 0 0] }
theorem W6:aE Tryz.prog 68 t68:=⟨by kernel_rfl,by kernel_rfl,rfl,rfl⟩
def t294:TI:={ ax:=.struct [(0,1),(1,1),(2,1)],size:=3,bytes:=40,zero:=.agg ([.slice none 0 0,I0,.bool false]:List Value).toArray,zs:=[.slice none 0 0,I0,.bool false] }
theorem VJ:aE Tryz.prog 294 t294:=⟨by kernel_rfl,by kernel_rfl,rfl,rfl⟩
def t341:TI:={ ax:=.struct [(0,1),(1,1)],size:=2,bytes:=24,zero:=.agg ([S0,I0]:List Value).toArray,zs:=[S0,I0] }
theorem Wa:aE Tryz.prog 341 t341:=⟨by kernel_rfl,by kernel_rfl,rfl,rfl⟩
def t362:TI:={ ax:=.struct [(0,1)],size:=1,bytes:=24,zero:=.agg ([.slice none 0 0]:List Value).toArray,zs:=[.slice none 0 0] }
theorem Wp:aE Tryz.prog 362 t362:=⟨by kernel_rfl,by kernel_rfl,rfl,rfl⟩
def t380:TI:={ ax:=.ptr 197,size:=1,bytes:=8,zero:=.pointer none,zs:=[.pointer none] }
theorem Ws:aE Tryz.prog 380 t380:=⟨by kernel_rfl,by kernel_rfl,rfl,rfl⟩
def t140:TI:={ ax:=.other,size:=1,bytes:=8,zero:=.map none,zs:=[.map none] }
theorem T1:aE Tryz.prog 140 t140:=⟨by kernel_rfl,by kernel_rfl,rfl,rfl⟩
def t225:TI:={ ax:=.struct [(0,1),(1,1),(2,1),(3,12),(15,6)],size:=21,bytes:=168,zero:=.agg ([.pointer none,I0,I0,I0,I0,I0,I0,I0,I0,I0,I0,I0,I0,I0,I0,I0,I0,I0,I0,I0,I0]:List Value).toArray,zs:=[.pointer none,I0,I0,I0,I0,I0,I0,I0,I0,I0,I0,I0,I0,I0,I0,I0,I0,I0,I0,I0,I0] }
theorem UN:aE Tryz.prog 225 t225:=⟨by kernel_rfl,by kernel_rfl,rfl,rfl⟩
def t228:TI:={ ax:=.struct [(0,1),(1,1),(2,1)],size:=3,bytes:=40,zero:=.agg ([I0,I0,.slice none 0 0]:List Value).toArray,zs:=[I0,I0,.slice none 0 0] }
theorem UQ:aE Tryz.prog 228 t228:=⟨by kernel_rfl,by kernel_rfl,rfl,rfl⟩
def t349:TI:={ ax:=.struct [(0,1),(1,1),(2,1)],size:=3,bytes:=40,zero:=.agg ([.slice none 0 0,I0,I0]:List Value).toArray,zs:=[.slice none 0 0,I0,I0] }
theorem Wh:aE Tryz.prog 349 t349:=⟨by kernel_rfl,by kernel_rfl,rfl,rfl⟩
def t355:TI:={ ax:=.struct [(0,1),(1,29)],size:=30,bytes:=296,zero:=.agg ([I0,I0,I0,I0,I0,I0,I0,I0,I0,S0,S0,I0,I0,S0,I0,I0,I0,I0,I0,I0,I0,S0,S0,I0,I0,.slice none 0 0,I0,I0,I0,I0]:List Value).toArray,zs:=[I0,I0,I0,I0,I0,I0,I0,I0,I0,S0,S0,I0,I0,S0,I0,I0,I0,I0,I0,I0,I0,S0,S0,I0,I0,.slice none 0 0,I0,I0,I0,I0] }
theorem Wl:aE Tryz.prog 355 t355:=⟨by kernel_rfl,by kernel_rfl,rfl,rfl⟩
def t38:TI:={ ax:=.array 2 9,size:=2,bytes:=32,zero:=.agg ([S0,S0]:List Value).toArray,zs:=[S0,S0] }
theorem Ww:aE Tryz.prog 38 t38:=⟨by kernel_rfl,by kernel_rfl,rfl,rfl⟩
def t139:TI:={ ax:=.struct [(0,1),(1,1),(2,1),(3,6)],size:=9,bytes:=88,zero:=.agg ([.bool false,.slice none 0 0,I0,I0,I0,I0,I0,I0,I0]:List Value).toArray,zs:=[.bool false,.slice none 0 0,I0,I0,I0,I0,I0,I0,I0] }
theorem TZ:aE Tryz.prog 139 t139:=⟨by kernel_rfl,by kernel_rfl,rfl,rfl⟩
def t175:TI:={ ax:=.struct [(0,1),(1,1)],size:=2,bytes:=16,zero:=.agg ([I0,I0]:List Value).toArray,zs:=[I0,I0] }
theorem Ui:aE Tryz.prog 175 t175:=⟨by kernel_rfl,by kernel_rfl,rfl,rfl⟩
def t266:TI:={ ax:=.struct [(0,1),(1,1),(2,1)],size:=3,bytes:=24,zero:=.agg ([.map none,.map none,I0]:List Value).toArray,zs:=[.map none,.map none,I0] }
theorem Vi:aE Tryz.prog 266 t266:=⟨by kernel_rfl,by kernel_rfl,rfl,rfl⟩
def t385:TI:={ ax:=.int .u64,size:=1,bytes:=8,zero:=.int .u64 0,zs:=[.int .u64 0] }
theorem Wv:aE Tryz.prog 385 t385:=⟨by kernel_rfl,by kernel_rfl,rfl,rfl⟩
def t212:TI:={ ax:=.slice 105,size:=1,bytes:=24,zero:=.slice none 0 0,zs:=[.slice none 0 0] }
theorem UB:aE Tryz.prog 212 t212:=⟨by kernel_rfl,by kernel_rfl,rfl,rfl⟩
def t243:TI:={ ax:=.struct [(0,0),(0,1)],size:=1,bytes:=4,zero:=.agg ([.int .u32 0]:List Value).toArray,zs:=[.int .u32 0] }
theorem U2:aE Tryz.prog 243 t243:=⟨by kernel_rfl,by kernel_rfl,rfl,rfl⟩
def t39:TI:={ ax:=.array 9 38,size:=18,bytes:=288,zero:=.agg ([S0,S0,S0,S0,S0,S0,S0,S0,S0,S0,S0,S0,S0,S0,S0,S0,S0,S0]:List Value).toArray,zs:=[S0,S0,S0,S0,S0,S0,S0,S0,S0,S0,S0,S0,S0,S0,S0,S0,S0,S0] }
theorem WA:aE Tryz.prog 39 t39:=⟨by kernel_rfl,by kernel_rfl,rfl,rfl⟩
def t207:TI:={ ax:=.ptr 287,size:=1,bytes:=8,zero:=.pointer none,zs:=[.pointer none] }
theorem Uz:aE Tryz.prog 207 t207:=⟨by kernel_rfl,by kernel_rfl,rfl,rfl⟩
def t270:TI:={ ax:=.struct [(0,1),(1,1)],size:=2,bytes:=16,zero:=.agg ([I0,I0]:List Value).toArray,zs:=[I0,I0] }
theorem Vm:aE Tryz.prog 270 t270:=⟨by kernel_rfl,by kernel_rfl,rfl,rfl⟩
def t329:TI:={ ax:=.int .i64,size:=1,bytes:=8,zero:=I0,zs:=[I0] }
theorem V9:aE Tryz.prog 329 t329:=⟨by kernel_rfl,by kernel_rfl,rfl,rfl⟩
def t134:TI:={ ax:=.array 6 3,size:=6,bytes:=48,zero:=.agg ([I0,I0,I0,I0,I0,I0]:List Value).toArray,zs:=[I0,I0,I0,I0,I0,I0] }
theorem TU:aE Tryz.prog 134 t134:=⟨by kernel_rfl,by kernel_rfl,rfl,rfl⟩
def t191:TI:={ ax:=.array 3 3,size:=3,bytes:=24,zero:=.agg ([I0,I0,I0]:List Value).toArray,zs:=[I0,I0,I0] }
theorem Us:aE Tryz.prog 191 t191:=⟨by kernel_rfl,by kernel_rfl,rfl,rfl⟩
def t292:TI:={ ax:=.slice 299,size:=1,bytes:=24,zero:=.slice none 0 0,zs:=[.slice none 0 0] }
theorem VF:aE Tryz.prog 292 t292:=⟨by kernel_rfl,by kernel_rfl,rfl,rfl⟩
def t305:TI:={ ax:=.struct [(0,1),(1,1)],size:=2,bytes:=2,zero:=.agg ([.int .u8 0,.int .u8 0]:List Value).toArray,zs:=[.int .u8 0,.int .u8 0] }
theorem V0:aE Tryz.prog 305 t305:=⟨by kernel_rfl,by kernel_rfl,rfl,rfl⟩
def t118:TI:={ ax:=.slice 188,size:=1,bytes:=24,zero:=.slice none 0 0,zs:=[.slice none 0 0] }
theorem TL:aE Tryz.prog 118 t118:=⟨by kernel_rfl,by kernel_rfl,rfl,rfl⟩
def t247:TI:={ ax:=.struct [(0,0),(0,2)],size:=2,bytes:=8,zero:=.agg ([.int .i32 0,.int .u32 0]:List Value).toArray,zs:=[.int .i32 0,.int .u32 0] }
theorem U6:aE Tryz.prog 247 t247:=⟨by kernel_rfl,by kernel_rfl,rfl,rfl⟩
def t267:TI:={ ax:=.slice 40,size:=1,bytes:=24,zero:=.slice none 0 0,zs:=[.slice none 0 0] }
theorem Vj:aE Tryz.prog 267 t267:=⟨by kernel_rfl,by kernel_rfl,rfl,rfl⟩
def t393:TI:={ ax:=.slice 300,size:=1,bytes:=24,zero:=.slice none 0 0,zs:=[.slice none 0 0] }
theorem Wx:aE Tryz.prog 393 t393:=⟨by kernel_rfl,by kernel_rfl,rfl,rfl⟩
def t17:TI:={ ax:=.ptr 495,size:=1,bytes:=8,zero:=.pointer none,zs:=[.pointer none] }
theorem Uk:aE Tryz.prog 17 t17:=⟨by kernel_rfl,by kernel_rfl,rfl,rfl⟩
def t19:TI:={ ax:=.struct [(0,1)],size:=1,bytes:=8,zero:=.agg ([.pointer none]:List Value).toArray,zs:=[.pointer none] }
theorem Ux:aE Tryz.prog 19 t19:=⟨by kernel_rfl,by kernel_rfl,rfl,rfl⟩
def t327:TI:={ ax:=.ptr 241,size:=1,bytes:=8,zero:=.pointer none,zs:=[.pointer none] }
theorem V8:aE Tryz.prog 327 t327:=⟨by kernel_rfl,by kernel_rfl,rfl,rfl⟩
def t18:TI:={ ax:=.struct [(0,1)],size:=1,bytes:=8,zero:=.agg ([.pointer none]:List Value).toArray,zs:=[.pointer none] }
theorem Ur:aE Tryz.prog 18 t18:=⟨by kernel_rfl,by kernel_rfl,rfl,rfl⟩
def t251:TI:={ ax:=.struct [(0,1),(1,3),(4,1),(5,6)],size:=11,bytes:=80,zero:=.agg ([.bool false,.int .u32 0,.int .i32 0,.int .u32 0,.int .u32 0,I0,I0,I0,S0,I0,I0]:List Value).toArray,zs:=[.bool false,.int .u32 0,.int .i32 0,.int .u32 0,.int .u32 0,I0,I0,I0,S0,I0,I0] }
theorem U':aE Tryz.prog 251 t251:=⟨by kernel_rfl,by kernel_rfl,rfl,rfl⟩
def t291:TI:={ ax:=.struct [(0,1)],size:=1,bytes:=8,zero:=.agg ([.map none]:List Value).toArray,zs:=[.map none] }
theorem VE:aE Tryz.prog 291 t291:=⟨by kernel_rfl,by kernel_rfl,rfl,rfl⟩
def t42:TI:={ ax:=.slice 46,size:=1,bytes:=24,zero:=.slice none 0 0,zs:=[.slice none 0 0] }
theorem WH:aE Tryz.prog 42 t42:=⟨by kernel_rfl,by kernel_rfl,rfl,rfl⟩
def t214:TI:={ ax:=.struct [(0,1),(1,1)],size:=2,bytes:=16,zero:=.agg ([I0,I0]:List Value).toArray,zs:=[I0,I0] }
theorem UD:aE Tryz.prog 214 t214:=⟨by kernel_rfl,by kernel_rfl,rfl,rfl⟩
def t249:TI:={ ax:=.struct [(0,0),(0,1),(1,2)],size:=3,bytes:=12,zero:=.agg ([.int .u32 0,.int .i32 0,.int .u32 0]:List Value).toArray,zs:=[.int .u32 0,.int .i32 0,.int .u32 0] }
theorem U8:aE Tryz.prog 249 t249:=⟨by kernel_rfl,by kernel_rfl,rfl,rfl⟩
def t263:TI:={ ax:=.other,size:=1,bytes:=8,zero:=.map none,zs:=[.map none] }
theorem Ve:aE Tryz.prog 263 t263:=⟨by kernel_rfl,by kernel_rfl,rfl,rfl⟩
def t384:TI:={ ax:=.array 65 5,size:=65,bytes:=65,zero:=.agg ([.int .u8 0,.int .u8 0,.int .u8 0,.int .u8 0,.int .u8 0,.int .u8 0,.int .u8 0,.int .u8 0,.int .u8 0,.int .u8 0,.int .u8 0,.int .u8 0,.int .u8 0,.int .u8 0,.int .u8 0,.int .u8 0,.int .u8 0,.int .u8 0,.int .u8 0,.int .u8 0,.int .u8 0,.int .u8 0,.int .u8 0,.int .u8 0,.int .u8 0,.int .u8 0,.int .u8 0,.int .u8 0,.int .u8 0,.int .u8 0,.int .u8 0,.int .u8 0,.int .u8 0,.int .u8 0,.int .u8 0,.int .u8 0,.int .u8 0,.int .u8 0,.int .u8 0,.int .u8 0,.int .u8 0,.int .u8 0,.int .u8 0,.int .u8 0,.int .u8 0,.int .u8 0,.int .u8 0,.int .u8 0,.int .u8 0,.int .u8 0,.int .u8 0,.int .u8 0,.int .u8 0,.int .u8 0,.int .u8 0,.int .u8 0,.int .u8 0,.int .u8 0,.int .u8 0,.int .u8 0,.int .u8 0,.int .u8 0,.int .u8 0,.int .u8 0,.int .u8 0]:List Value).toArray,zs:=[.int .u8 0,.int .u8 0,.int .u8 0,.int .u8 0,.int .u8 0,.int .u8 0,.int .u8 0,.int .u8 0,.int .u8 0,.int .u8 0,.int .u8 0,.int .u8 0,.int .u8 0,.int .u8 0,.int .u8 0,.int .u8 0,.int .u8 0,.int .u8 0,.int .u8 0,.int .u8 0,.int .u8 0,.int .u8 0,.int .u8 0,.int .u8 0,.int .u8 0,.int .u8 0,.int .u8 0,.int .u8 0,.int .u8 0,.int .u8 0,.int .u8 0,.int .u8 0,.int .u8 0,.int .u8 0,.int .u8 0,.int .u8 0,.int .u8 0,.int .u8 0,.int .u8 0,.int .u8 0,.int .u8 0,.int .u8 0,.int .u8 0,.int .u8 0,.int .u8 0,.int .u8 0,.int .u8 0,.int .u8 0,.int .u8 0,.int .u8 0,.int .u8 0,.int .u8 0,.int .u8 0,.int .u8 0,.int .u8 0,.int .u8 0,.int .u8 0,.int .u8 0,.int .u8 0,.int .u8 0,.int .u8 0,.int .u8 0,.int .u8 0,.int .u8 0,.int .u8 0] }
theorem Wu:aE Tryz.prog 384 t384:=⟨by kernel_rfl,by kernel_rfl,rfl,rfl⟩
def t470:TI:={ ax:=.ptr 249,size:=1,bytes:=8,zero:=.pointer none,zs:=[.pointer none] }
theorem WL:aE Tryz.prog 470 t470:=⟨by kernel_rfl,by kernel_rfl,rfl,rfl⟩
def t47:TI:={ ax:=.struct [(0,1),(1,1)],size:=2,bytes:=48,zero:=.agg ([.slice none 0 0,.slice none 0 0]:List Value).toArray,zs:=[.slice none 0 0,.slice none 0 0] }
theorem WQ:aE Tryz.prog 47 t47:=⟨by kernel_rfl,by kernel_rfl,rfl,rfl⟩
def t104:TI:={ ax:=.struct [(0,1),(1,1),(2,1),(3,1)],size:=4,bytes:=40,zero:=.agg ([I0,S0,I0,I0]:List Value).toArray,zs:=[I0,S0,I0,I0] }
theorem TB:aE Tryz.prog 104 t104:=⟨by kernel_rfl,by kernel_rfl,rfl,rfl⟩
def t278:TI:={ ax:=.other,size:=1,bytes:=8,zero:=.map none,zs:=[.map none] }
theorem Vr:aE Tryz.prog 278 t278:=⟨by kernel_rfl,by kernel_rfl,rfl,rfl⟩
def t30:TI:={ ax:=.struct [(0,12),(12,1)],size:=13,bytes:=120,zero:=.agg ([I0,I0,I0,.slice none 0 0,I0,I0,I0,I0,I0,I0,I0,I0,.pointer none]:List Value).toArray,zs:=[I0,I0,I0,.slice none 0 0,I0,I0,I0,I0,I0,I0,I0,I0,.pointer none] }
theorem V3:aE Tryz.prog 30 t30:=⟨by kernel_rfl,by kernel_rfl,rfl,rfl⟩
def t95:TI:={ ax:=.struct [(0,1),(1,1)],size:=2,bytes:=16,zero:=.agg ([I0,I0]:List Value).toArray,zs:=[I0,I0] }
theorem Xk:aE Tryz.prog 95 t95:=⟨by kernel_rfl,by kernel_rfl,rfl,rfl⟩
def t106:TI:={ ax:=.struct [(0,1),(1,1),(2,4)],size:=6,bytes:=56,zero:=.agg ([I0,I0,I0,S0,I0,I0]:List Value).toArray,zs:=[I0,I0,I0,S0,I0,I0] }
theorem TD:aE Tryz.prog 106 t106:=⟨by kernel_rfl,by kernel_rfl,rfl,rfl⟩
def t119:TI:={ ax:=.slice 191,size:=1,bytes:=24,zero:=.slice none 0 0,zs:=[.slice none 0 0] }
theorem TM:aE Tryz.prog 119 t119:=⟨by kernel_rfl,by kernel_rfl,rfl,rfl⟩
def t135:TI:={ ax:=.array 6 4,size:=6,bytes:=6,zero:=.agg ([.bool false,.bool false,.bool false,.bool false,.bool false,.bool false]:List Value).toArray,zs:=[.bool false,.bool false,.bool false,.bool false,.bool false,.bool false] }
theorem TV:aE Tryz.prog 135 t135:=⟨by kernel_rfl,by kernel_rfl,rfl,rfl⟩
def t141:TI:={ ax:=.struct [(0,1),(1,1)],size:=2,bytes:=16,zero:=.agg ([I0,.map none]:List Value).toArray,zs:=[I0,.map none] }
theorem T2:aE Tryz.prog 141 t141:=⟨by kernel_rfl,by kernel_rfl,rfl,rfl⟩
def t159:TI:={ ax:=.struct [(0,1),(1,1),(2,1),(3,1),(4,1),(5,3),(8,1),(9,1),(10,1),(11,1),(12,1),(13,1),(14,1),(15,1),(16,1),(17,4)],size:=21,bytes:=200,zero:=.agg ([I0,I0,I0,I0,.pointer none,I0,.slice none 0 0,I0,.pointer none,I0,I0,I0,.bool false,I0,I0,I0,I0,I0,S0,S0,I0]:List Value).toArray,zs:=[I0,I0,I0,I0,.pointer none,I0,.slice none 0 0,I0,.pointer none,I0,I0,I0,.bool false,I0,I0,I0,I0,I0,S0,S0,I0] }
theorem Ua:aE Tryz.prog 159 t159:=⟨by kernel_rfl,by kernel_rfl,rfl,rfl⟩
def t244:TI:={ ax:=.struct [(0,1),(1,1)],size:=2,bytes:=8,zero:=.agg ([.int .i32 0,.int .u32 0]:List Value).toArray,zs:=[.int .i32 0,.int .u32 0] }
theorem U3:aE Tryz.prog 244 t244:=⟨by kernel_rfl,by kernel_rfl,rfl,rfl⟩
def t264:TI:={ ax:=.other,size:=1,bytes:=8,zero:=.map none,zs:=[.map none] }
theorem Vf:aE Tryz.prog 264 t264:=⟨by kernel_rfl,by kernel_rfl,rfl,rfl⟩
def t279:TI:={ ax:=.struct [(0,2),(2,4)],size:=6,bytes:=64,zero:=.agg ([I0,I0,I0,S0,S0,I0]:List Value).toArray,zs:=[I0,I0,I0,S0,S0,I0] }
theorem Vs:aE Tryz.prog 279 t279:=⟨by kernel_rfl,by kernel_rfl,rfl,rfl⟩
def t320:TI:={ ax:=.array 24 5,size:=24,bytes:=24,zero:=.agg ([.int .u8 0,.int .u8 0,.int .u8 0,.int .u8 0,.int .u8 0,.int .u8 0,.int .u8 0,.int .u8 0,.int .u8 0,.int .u8 0,.int .u8 0,.int .u8 0,.int .u8 0,.int .u8 0,.int .u8 0,.int .u8 0,.int .u8 0,.int .u8 0,.int .u8 0,.int .u8 0,.int .u8 0,.int .u8 0,.int .u8 0,.int .u8 0]:List Value).toArray,zs:=[.int .u8 0,.int .u8 0,.int .u8 0,.int .u8 0,.int .u8 0,.int .u8 0,.int .u8 0,.int .u8 0,.int .u8 0,.int .u8 0,.int .u8 0,.int .u8 0,.int .u8 0,.int .u8 0,.int .u8 0,.int .u8 0,.int .u8 0,.int .u8 0,.int .u8 0,.int .u8 0,.int .u8 0,.int .u8 0,.int .u8 0,.int .u8 0] }
theorem V6:aE Tryz.prog 320 t320:=⟨by kernel_rfl,by kernel_rfl,rfl,rfl⟩
def t423:TI:={ ax:=.ptr 385,size:=1,bytes:=8,zero:=.pointer none,zs:=[.pointer none] }
theorem WG:aE Tryz.prog 423 t423:=⟨by kernel_rfl,by kernel_rfl,rfl,rfl⟩
def t477:TI:={ ax:=.ptr 21,size:=1,bytes:=8,zero:=.pointer none,zs:=[.pointer none] }
theorem WO:aE Tryz.prog 477 t477:=⟨by kernel_rfl,by kernel_rfl,rfl,rfl⟩
def t71:TI:={ ax:=.struct [(0,12),(12,1),(13,1),(14,1),(15,1),(16,1),(17,1),(18,1)],size:=19,bytes:=216,zero:=.agg ([I0,I0,I0,.slice none 0 0,I0,I0,I0,I0,I0,I0,I0,I0,I0,.pointer none,.slice none 0 0,.slice none 0 0,.pointer none,.pointer none,.slice none 0 0]:List Value).toArray,zs:=[I0,I0,I0,.slice none 0 0,I0,I0,I0,I0,I0,I0,I0,I0,I0,.pointer none,.slice none 0 0,.slice none 0 0,.pointer none,.pointer none,.slice none 0 0] }
theorem W_:aE Tryz.prog 71 t71:=⟨by kernel_rfl,by kernel_rfl,rfl,rfl⟩
def t193:TI:={ ax:=.array 10 9,size:=10,bytes:=160,zero:=.agg ([S0,S0,S0,S0,S0,S0,S0,S0,S0,S0]:List Value).toArray,zs:=[S0,S0,S0,S0,S0,S0,S0,S0,S0,S0] }
theorem Ut:aE Tryz.prog 193 t193:=⟨by kernel_rfl,by kernel_rfl,rfl,rfl⟩
def t215:TI:={ ax:=.array 6 214,size:=12,bytes:=96,zero:=.agg ([I0,I0,I0,I0,I0,I0,I0,I0,I0,I0,I0,I0]:List Value).toArray,zs:=[I0,I0,I0,I0,I0,I0,I0,I0,I0,I0,I0,I0] }
theorem UE:aE Tryz.prog 215 t215:=⟨by kernel_rfl,by kernel_rfl,rfl,rfl⟩
def t238:TI:={ ax:=.struct [],size:=0,bytes:=0,zero:=.agg ([]:List Value).toArray,zs:=[] }
theorem UW:aE Tryz.prog 238 t238:=⟨by kernel_rfl,by kernel_rfl,rfl,rfl⟩
def t246:TI:={ ax:=.struct [(0,0),(0,2)],size:=2,bytes:=8,zero:=.agg ([.int .i32 0,.int .u32 0]:List Value).toArray,zs:=[.int .i32 0,.int .u32 0] }
theorem U5:aE Tryz.prog 246 t246:=⟨by kernel_rfl,by kernel_rfl,rfl,rfl⟩
def t287:TI:={ ax:=.struct [(0,1),(1,1),(2,1)],size:=3,bytes:=48,zero:=.agg ([S0,S0,.nilIface]:List Value).toArray,zs:=[S0,S0,.nilIface] }
theorem Vw:aE Tryz.prog 287 t287:=⟨by kernel_rfl,by kernel_rfl,rfl,rfl⟩
def t397:TI:={ ax:=.ptr 362,size:=1,bytes:=8,zero:=.pointer none,zs:=[.pointer none] }
theorem Wz:aE Tryz.prog 397 t397:=⟨by kernel_rfl,by kernel_rfl,rfl,rfl⟩
def t23:TI:={ ax:=.struct [(0,1),(1,1),(2,1),(3,1),(4,1),(5,1),(6,1),(7,1),(8,1),(9,1),(10,1),(11,1)],size:=12,bytes:=112,zero:=.agg ([I0,I0,I0,.slice none 0 0,I0,I0,I0,I0,I0,I0,I0,I0]:List Value).toArray,zs:=[I0,I0,I0,.slice none 0 0,I0,I0,I0,I0,I0,I0,I0,I0] }
theorem UY:aE Tryz.prog 23 t23:=⟨by kernel_rfl,by kernel_rfl,rfl,rfl⟩
def t120:TI:={ ax:=.struct [(0,3),(3,1),(4,1),(5,1)],size:=6,bytes:=112,zero:=.agg ([I0,.slice none 0 0,I0,.slice none 0 0,.slice none 0 0,.slice none 0 0]:List Value).toArray,zs:=[I0,.slice none 0 0,I0,.slice none 0 0,.slice none 0 0,.slice none 0 0] }
theorem TO:aE Tryz.prog 120 t120:=⟨by kernel_rfl,by kernel_rfl,rfl,rfl⟩
def t173:TI:={ ax:=.struct [(0,1),(1,1),(2,1),(3,1),(4,1)],size:=5,bytes:=40,zero:=.agg ([I0,I0,I0,I0,I0]:List Value).toArray,zs:=[I0,I0,I0,I0,I0] }
theorem Ug:aE Tryz.prog 173 t173:=⟨by kernel_rfl,by kernel_rfl,rfl,rfl⟩
def t256:TI:={ ax:=.ptr 5,size:=1,bytes:=8,zero:=.pointer none,zs:=[.pointer none] }
theorem Va:aE Tryz.prog 256 t256:=⟨by kernel_rfl,by kernel_rfl,rfl,rfl⟩
def t280:TI:={ ax:=.struct [(0,2),(2,4)],size:=6,bytes:=64,zero:=.agg ([I0,I0,I0,S0,S0,I0]:List Value).toArray,zs:=[I0,I0,I0,S0,S0,I0] }
theorem Vt:aE Tryz.prog 280 t280:=⟨by kernel_rfl,by kernel_rfl,rfl,rfl⟩
def t290:TI:={ ax:=.struct [(0,1)],size:=1,bytes:=8,zero:=.agg ([.map none]:List Value).toArray,zs:=[.map none] }
theorem Vz:aE Tryz.prog 290 t290:=⟨by kernel_rfl,by kernel_rfl,rfl,rfl⟩
def t306:TI:={ ax:=.array 16 305,size:=32,bytes:=32,zero:=.agg ([.int .u8 0,.int .u8 0,.int .u8 0,.int .u8 0,.int .u8 0,.int .u8 0,.int .u8 0,.int .u8 0,.int .u8 0,.int .u8 0,.int .u8 0,.int .u8 0,.int .u8 0,.int .u8 0,.int .u8 0,.int .u8 0,.int .u8 0,.int .u8 0,.int .u8 0,.int .u8 0,.int .u8 0,.int .u8 0,.int .u8 0,.int .u8 0,.int .u8 0,.int .u8 0,.int .u8 0,.int .u8 0,.int .u8 0,.int .u8 0,.int .u8 0,.int .u8 0]:List Value).toArray,zs:=[.int .u8 0,.int .u8 0,.int .u8 0,.int .u8 0,.int .u8 0,.int .u8 0,.int .u8 0,.int .u8 0,.int .u8 0,.int .u8 0,.int .u8 0,.int .u8 0,.int .u8 0,.int .u8 0,.int .u8 0,.int .u8 0,.int .u8 0,.int .u8 0,.int .u8 0,.int .u8 0,.int .u8 0,.int .u8 0,.int .u8 0,.int .u8 0,.int .u8 0,.int .u8 0,.int .u8 0,.int .u8 0,.int .u8 0,.int .u8 0,.int .u8 0,.int .u8 0] }
theorem V1:aE Tryz.prog 306 t306:=⟨by kernel_rfl,by kernel_rfl,rfl,rfl⟩
def t325:TI:={ ax:=.ptr 243,size:=1,bytes:=8,zero:=.pointer none,zs:=[.pointer none] }
theorem V7:aE Tryz.prog 325 t325:=⟨by kernel_rfl,by kernel_rfl,rfl,rfl⟩
def t90:TI:={ ax:=.struct [(0,1),(1,1),(2,1)],size:=3,bytes:=40,zero:=.agg ([I0,.slice none 0 0,I0]:List Value).toArray,zs:=[I0,.slice none 0 0,I0] }
theorem Xi:aE Tryz.prog 90 t90:=⟨by kernel_rfl,by kernel_rfl,rfl,rfl⟩
def t224:TI:={ ax:=.struct [(0,1),(1,1),(2,1),(3,12),(15,6)],size:=21,bytes:=168,zero:=.agg ([.pointer none,I0,I0,I0,I0,I0,I0,I0,I0,I0,I0,I0,I0,I0,I0,I0,I0,I0,I0,I0,I0]:List Value).toArray,zs:=[.pointer none,I0,I0,I0,I0,I0,I0,I0,I0,I0,I0,I0,I0,I0,I0,I0,I0,I0,I0,I0,I0] }
theorem UM:aE Tryz.prog 224 t224:=⟨by kernel_rfl,by kernel_rfl,rfl,rfl⟩
def t344:TI:={ ax:=.ptr 346,size:=1,bytes:=8,zero:=.pointer none,zs:=[.pointer none] }
theorem Wb:aE Tryz.prog 344 t344:=⟨by kernel_rfl,by kernel_rfl,rfl,rfl⟩
def t383:TI:={ ax:=.array 20 283,size:=20,bytes:=160,zero:=.agg ([.int .u64 0,.int .u64 0,.int .u64 0,.int .u64 0,.int .u64 0,.int .u64 0,.int .u64 0,.int .u64 0,.int .u64 0,.int .u64 0,.int .u64 0,.int .u64 0,.int .u64 0,.int .u64 0,.int .u64 0,.int .u64 0,.int .u64 0,.int .u64 0,.int .u64 0,.int .u64 0]:List Value).toArray,zs:=[.int .u64 0,.int .u64 0,.int .u64 0,.int .u64 0,.int .u64 0,.int .u64 0,.int .u64 0,.int .u64 0,.int .u64 0,.int .u64 0,.int .u64 0,.int .u64 0,.int .u64 0,.int .u64 0,.int .u64 0,.int .u64 0,.int .u64 0,.int .u64 0,.int .u64 0,.int .u64 0] }
theorem Wt:aE Tryz.prog 383 t383:=⟨by kernel_rfl,by kernel_rfl,rfl,rfl⟩
def t414:TI:={ ax:=.struct [(0,1)],size:=1,bytes:=8,zero:=.agg ([.pointer none]:List Value).toArray,zs:=[.pointer none] }
theorem WE:aE Tryz.prog 414 t414:=⟨by kernel_rfl,by kernel_rfl,rfl,rfl⟩
def t455:TI:={ ax:=.array 32 5,size:=32,bytes:=32,zero:=.agg ([.int .u8 0,.int .u8 0,.int .u8 0,.int .u8 0,.int .u8 0,.int .u8 0,.int .u8 0,.int .u8 0,.int .u8 0,.int .u8 0,.int .u8 0,.int .u8 0,.int .u8 0,.int .u8 0,.int .u8 0,.int .u8 0,.int .u8 0,.int .u8 0,.int .u8 0,.int .u8 0,.int .u8 0,.int .u8 0,.int .u8 0,.int .u8 0,.int .u8 0,.int .u8 0,.int .u8 0,.int .u8 0,.int .u8 0,.int .u8 0,.int .u8 0,.int .u8 0]:List Value).toArray,zs:=[.int .u8 0,.int .u8 0,.int .u8 0,.int .u8 0,.int .u8 0,.int .u8 0,.int .u8 0,.int .u8 0,.int .u8 0,.int .u8 0,.int .u8 0,.int .u8 0,.int .u8 0,.int .u8 0,.int .u8 0,.int .u8 0,.int .u8 0,.int .u8 0,.int .u8 0,.int .u8 0,.int .u8 0,.int .u8 0,.int .u8 0,.int .u8 0,.int .u8 0,.int .u8 0,.int .u8 0,.int .u8 0,.int .u8 0,.int .u8 0,.int .u8 0,.int .u8 0] }
theorem WI:aE Tryz.prog 455 t455:=⟨by kernel_rfl,by kernel_rfl,rfl,rfl⟩
def t84:TI:={ ax:=.struct [(0,1),(1,1),(2,1),(3,1)],size:=4,bytes:=48,zero:=.agg ([I0,S0,S0,I0]:List Value).toArray,zs:=[I0,S0,S0,I0] }
theorem Xe:aE Tryz.prog 84 t84:=⟨by kernel_rfl,by kernel_rfl,rfl,rfl⟩
def t182:TI:={ ax:=.struct [(0,1),(1,1)],size:=2,bytes:=32,zero:=.agg ([.pointer none,.slice none 0 0]:List Value).toArray,zs:=[.pointer none,.slice none 0 0] }
theorem Un:aE Tryz.prog 182 t182:=⟨by kernel_rfl,by kernel_rfl,rfl,rfl⟩
def t216:TI:={ ax:=.struct [(0,1),(1,1),(2,1),(3,12)],size:=15,bytes:=152,zero:=.agg ([.pointer none,.slice none 0 0,.slice none 0 0,I0,I0,I0,I0,I0,I0,I0,I0,I0,I0,I0,I0]:List Value).toArray,zs:=[.pointer none,.slice none 0 0,.slice none 0 0,I0,I0,I0,I0,I0,I0,I0,I0,I0,I0,I0,I0] }
theorem UF:aE Tryz.prog 216 t216:=⟨by kernel_rfl,by kernel_rfl,rfl,rfl⟩
def t223:TI:={ ax:=.array 6 222,size:=12,bytes:=96,zero:=.agg ([I0,I0,I0,I0,I0,I0,I0,I0,I0,I0,I0,I0]:List Value).toArray,zs:=[I0,I0,I0,I0,I0,I0,I0,I0,I0,I0,I0,I0] }
theorem UL:aE Tryz.prog 223 t223:=⟨by kernel_rfl,by kernel_rfl,rfl,rfl⟩
def t240:TI:={ ax:=.struct [],size:=0,bytes:=0,zero:=.agg ([]:List Value).toArray,zs:=[] }
theorem UZ:aE Tryz.prog 240 t240:=⟨by kernel_rfl,by kernel_rfl,rfl,rfl⟩
def t248:TI:={ ax:=.struct [(0,0),(0,1),(1,2)],size:=3,bytes:=12,zero:=.agg ([.int .u32 0,.int .i32 0,.int .u32 0]:List Value).toArray,zs:=[.int .u32 0,.int .i32 0,.int .u32 0] }
theorem U7:aE Tryz.prog 248 t248:=⟨by kernel_rfl,by kernel_rfl,rfl,rfl⟩
def t271:TI:={ ax:=.struct [(0,1),(1,1),(2,4),(6,4)],size:=10,bytes:=104,zero:=.agg ([I0,I0,I0,S0,S0,I0,I0,S0,I0,I0]:List Value).toArray,zs:=[I0,I0,I0,S0,S0,I0,I0,S0,I0,I0] }
theorem Vn:aE Tryz.prog 271 t271:=⟨by kernel_rfl,by kernel_rfl,rfl,rfl⟩
def t276:TI:={ ax:=.struct [(0,1),(1,1)],size:=2,bytes:=24,zero:=.agg ([I0,S0]:List Value).toArray,zs:=[I0,S0] }
theorem Vq:aE Tryz.prog 276 t276:=⟨by kernel_rfl,by kernel_rfl,rfl,rfl⟩
def t293:TI:={ ax:=.struct [(0,1),(1,1),(2,1)],size:=3,bytes:=40,zero:=.agg ([.slice none 0 0,I0,.bool false]:List Value).toArray,zs:=[.slice none 0 0,I0,.bool false] }
theorem VH:aE Tryz.prog 293 t293:=⟨by kernel_rfl,by kernel_rfl,rfl,rfl⟩
def t345:TI:={ ax:=.struct [(0,1)],size:=1,bytes:=16,zero:=.agg ([S0]:List Value).toArray,zs:=[S0] }
theorem Wc:aE Tryz.prog 345 t345:=⟨by kernel_rfl,by kernel_rfl,rfl,rfl⟩
def t456:TI:={ ax:=.array 64 5,size:=64,bytes:=64,zero:=.agg ([.int .u8 0,.int .u8 0,.int .u8 0,.int .u8 0,.int .u8 0,.int .u8 0,.int .u8 0,.int .u8 0,.int .u8 0,.int .u8 0,.int .u8 0,.int .u8 0,.int .u8 0,.int .u8 0,.int .u8 0,.int .u8 0,.int .u8 0,.int .u8 0,.int .u8 0,.int .u8 0,.int .u8 0,.int .u8 0,.int .u8 0,.int .u8 0,.int .u8 0,.int .u8 0,.int .u8 0,.int .u8 0,.int .u8 0,.int .u8 0,.int .u8 0,.int .u8 0,.int .u8 0,.int .u8 0,.int .u8 0,.int .u8 0,.int .u8 0,.int .u8 0,.int .u8 0,.int .u8 0,.int .u8 0,.int .u8 0,.int .u8 0,.int .u8 0,.int .u8 0,.int .u8 0,.int .u8 0,.int .u8 0,.int .u8 0,.int .u8 0,.int .u8 0,.int .u8 0,.int .u8 0,.int .u8 0,.int .u8 0,.int .u8 0,.int .u8 0,.int .u8 0,.int .u8 0,.int .u8 0,.int .u8 0,.int .u8 0,.int .u8 0,.int .u8 0]:List Value).toArray,zs:=[.int .u8 0,.int .u8 0,.int .u8 0,.int .u8 0,.int .u8 0,.int .u8 0,.int .u8 0,.int .u8 0,.int .u8 0,.int .u8 0,.int .u8 0,.int .u8 0,.int .u8 0,.int .u8 0,.int .u8 0,.int .u8 0,.int .u8 0,.int .u8 0,.int .u8 0,.int .u8 0,.int .u8 0,.int .u8 0,.int .u8 0,.int .u8 0,.int .u8 0,.int .u8 0,.int .u8 0,.int .u8 0,.int .u8 0,.int .u8 0,.int .u8 0,.int .u8 0,.int .u8 0,.int .u8 0,.int .u8 0,.int .u8 0,.int .u8 0,.int .u8 0,.int .u8 0,.int .u8 0,.int .u8 0,.int .u8 0,.int .u8 0,.int .u8 0,.int .u8 0,.int .u8 0,.int .u8 0,.int .u8 0,.int .u8 0,.int .u8 0,.int .u8 0,.int .u8 0,.int .u8 0,.int .u8 0,.int .u8 0,.int .u8 0,.int .u8 0,.int .u8 0,.int .u8 0,.int .u8 0,.int .u8 0,.int .u8 0,.int .u8 0,.int .u8 0] }
theorem WJ:aE Tryz.prog 456 t456:=⟨by kernel_rfl,by kernel_rfl,rfl,rfl⟩
def t474:TI:={ ax:=.ptr 247,size:=1,bytes:=8,zero:=.pointer none,zs:=[.pointer none] }
theorem WM:aE Tryz.prog 474 t474:=⟨by kernel_rfl,by kernel_rfl,rfl,rfl⟩
def t168:TI:={ ax:=.struct [(0,1),(1,1),(2,1),(3,1),(4,4)],size:=8,bytes:=80,zero:=.agg ([I0,I0,I0,I0,I0,S0,S0,I0]:List Value).toArray,zs:=[I0,I0,I0,I0,I0,S0,S0,I0] }
theorem Ud:aE Tryz.prog 168 t168:=⟨by kernel_rfl,by kernel_rfl,rfl,rfl⟩
def t187:TI:={ ax:=.struct [(0,1),(1,1),(2,1),(3,1),(4,3),(7,1),(8,1)],size:=9,bytes:=120,zero:=.agg ([I0,I0,I0,I0,I0,.slice none 0 0,I0,.slice none 0 0,.slice none 0 0]:List Value).toArray,zs:=[I0,I0,I0,I0,I0,.slice none 0 0,I0,.slice none 0 0,.slice none 0 0] }
theorem Up:aE Tryz.prog 187 t187:=⟨by kernel_rfl,by kernel_rfl,rfl,rfl⟩
def t196:TI:={ ax:=.struct [(0,1),(1,1),(2,4),(6,1),(7,1),(8,6)],size:=14,bytes:=136,zero:=.agg ([I0,I0,I0,S0,S0,I0,I0,I0,I0,I0,I0,S0,I0,I0]:List Value).toArray,zs:=[I0,I0,I0,S0,S0,I0,I0,I0,I0,I0,I0,S0,I0,I0] }
theorem Uv:aE Tryz.prog 196 t196:=⟨by kernel_rfl,by kernel_rfl,rfl,rfl⟩
def t239:TI:={ ax:=.struct [],size:=0,bytes:=0,zero:=.agg ([]:List Value).toArray,zs:=[] }
theorem UX:aE Tryz.prog 239 t239:=⟨by kernel_rfl,by kernel_rfl,rfl,rfl⟩
def t265:TI:={ ax:=.struct [(0,1),(1,1),(2,1)],size:=3,bytes:=24,zero:=.agg ([.map none,.map none,I0]:List Value).toArray,zs:=[.map none,.map none,I0] }
theorem Vh:aE Tryz.prog 265 t265:=⟨by kernel_rfl,by kernel_rfl,rfl,rfl⟩
def t286:TI:={ ax:=.struct [(0,1),(1,1),(2,1)],size:=3,bytes:=48,zero:=.agg ([S0,S0,.nilIface]:List Value).toArray,zs:=[S0,S0,.nilIface] }
theorem Vv:aE Tryz.prog 286 t286:=⟨by kernel_rfl,by kernel_rfl,rfl,rfl⟩
def t346:TI:={ ax:=.struct [(0,1)],size:=1,bytes:=16,zero:=.agg ([S0]:List Value).toArray,zs:=[S0] }
theorem Wd:aE Tryz.prog 346 t346:=⟨by kernel_rfl,by kernel_rfl,rfl,rfl⟩
def t359:TI:={ ax:=.struct [(0,1),(1,1),(2,1)],size:=3,bytes:=32,zero:=.agg ([I0,I0,S0]:List Value).toArray,zs:=[I0,I0,S0] }
theorem Wm:aE Tryz.prog 359 t359:=⟨by kernel_rfl,by kernel_rfl,rfl,rfl⟩
def t231:TI:={ ax:=.struct [(0,1),(1,1),(2,1),(3,1),(4,1)],size:=5,bytes:=40,zero:=.agg ([I0,I0,I0,I0,I0]:List Value).toArray,zs:=[I0,I0,I0,I0,I0] }
theorem US:aE Tryz.prog 231 t231:=⟨by kernel_rfl,by kernel_rfl,rfl,rfl⟩
def t250:TI:={ ax:=.struct [(0,1),(1,3),(4,1),(5,6)],size:=11,bytes:=80,zero:=.agg ([.bool false,.int .u32 0,.int .i32 0,.int .u32 0,.int .u32 0,I0,I0,I0,S0,I0,I0]:List Value).toArray,zs:=[.bool false,.int .u32 0,.int .i32 0,.int .u32 0,.int .u32 0,I0,I0,I0,S0,I0,I0] }
theorem U_:aE Tryz.prog 250 t250:=⟨by kernel_rfl,by kernel_rfl,rfl,rfl⟩
def t304:TI:={ ax:=.struct [(0,1),(1,1)],size:=2,bytes:=2,zero:=.agg ([.int .u8 0,.int .u8 0]:List Value).toArray,zs:=[.int .u8 0,.int .u8 0] }
theorem VZ:aE Tryz.prog 304 t304:=⟨by kernel_rfl,by kernel_rfl,rfl,rfl⟩
def t340:TI:={ ax:=.struct [(0,1),(1,1)],size:=2,bytes:=24,zero:=.agg ([S0,I0]:List Value).toArray,zs:=[S0,I0] }
theorem V':aE Tryz.prog 340 t340:=⟨by kernel_rfl,by kernel_rfl,rfl,rfl⟩
def t123:TI:={ ax:=.struct [(0,1),(1,1),(2,1)],size:=3,bytes:=24,zero:=.agg ([I0,I0,I0]:List Value).toArray,zs:=[I0,I0,I0] }
theorem TQ:aE Tryz.prog 123 t123:=⟨by kernel_rfl,by kernel_rfl,rfl,rfl⟩
def t136:TI:={ ax:=.struct [(0,1),(1,1),(2,3),(5,6),(11,6)],size:=17,bytes:=112,zero:=.agg ([I0,I0,I0,.slice none 0 0,I0,I0,I0,I0,I0,I0,I0,.bool false,.bool false,.bool false,.bool false,.bool false,.bool false]:List Value).toArray,zs:=[I0,I0,I0,.slice none 0 0,I0,I0,I0,I0,I0,I0,I0,.bool false,.bool false,.bool false,.bool false,.bool false,.bool false] }
theorem TW:aE Tryz.prog 136 t136:=⟨by kernel_rfl,by kernel_rfl,rfl,rfl⟩
def t138:TI:={ ax:=.struct [(0,1),(1,1),(2,1),(3,6)],size:=9,bytes:=88,zero:=.agg ([.bool false,.slice none 0 0,I0,I0,I0,I0,I0,I0,I0]:List Value).toArray,zs:=[.bool false,.slice none 0 0,I0,I0,I0,I0,I0,I0,I0] }
theorem TY:aE Tryz.prog 138 t138:=⟨by kernel_rfl,by kernel_rfl,rfl,rfl⟩
def t146:TI:={ ax:=.struct [(0,1),(1,1),(2,1),(3,1),(4,3),(7,1),(8,1),(9,1),(10,1),(11,1),(12,1),(13,1),(14,1),(15,1),(16,1)],size:=17,bytes:=152,zero:=.agg ([I0,I0,I0,I0,I0,.slice none 0 0,I0,I0,.bool false,.pointer none,.pointer none,.pointer none,.pointer none,I0,I0,.bool false,I0]:List Value).toArray,zs:=[I0,I0,I0,I0,I0,.slice none 0 0,I0,I0,.bool false,.pointer none,.pointer none,.pointer none,.pointer none,I0,I0,.bool false,I0] }
theorem T7:aE Tryz.prog 146 t146:=⟨by kernel_rfl,by kernel_rfl,rfl,rfl⟩
def t213:TI:={ ax:=.struct [(0,1),(1,1)],size:=2,bytes:=16,zero:=.agg ([I0,I0]:List Value).toArray,zs:=[I0,I0] }
theorem UC:aE Tryz.prog 213 t213:=⟨by kernel_rfl,by kernel_rfl,rfl,rfl⟩
def t221:TI:={ ax:=.struct [(0,1),(1,1)],size:=2,bytes:=16,zero:=.agg ([I0,I0]:List Value).toArray,zs:=[I0,I0] }
theorem UJ:aE Tryz.prog 221 t221:=⟨by kernel_rfl,by kernel_rfl,rfl,rfl⟩
def t227:TI:={ ax:=.struct [(0,1),(1,1),(2,1)],size:=3,bytes:=40,zero:=.agg ([I0,I0,.slice none 0 0]:List Value).toArray,zs:=[I0,I0,.slice none 0 0] }
theorem UP:aE Tryz.prog 227 t227:=⟨by kernel_rfl,by kernel_rfl,rfl,rfl⟩
def t242:TI:={ ax:=.struct [(0,0),(0,1)],size:=1,bytes:=4,zero:=.agg ([.int .u32 0]:List Value).toArray,zs:=[.int .u32 0] }
theorem U1:aE Tryz.prog 242 t242:=⟨by kernel_rfl,by kernel_rfl,rfl,rfl⟩
def t261:TI:={ ax:=.struct [(0,1),(1,1),(2,1),(3,4)],size:=7,bytes:=72,zero:=.agg ([I0,I0,I0,I0,S0,S0,I0]:List Value).toArray,zs:=[I0,I0,I0,I0,S0,S0,I0] }
theorem Vc:aE Tryz.prog 261 t261:=⟨by kernel_rfl,by kernel_rfl,rfl,rfl⟩
def t269:TI:={ ax:=.struct [(0,1),(1,1)],size:=2,bytes:=16,zero:=.agg ([I0,I0]:List Value).toArray,zs:=[I0,I0] }
theorem Vk:aE Tryz.prog 269 t269:=⟨by kernel_rfl,by kernel_rfl,rfl,rfl⟩
def t275:TI:={ ax:=.struct [(0,1),(1,1)],size:=2,bytes:=24,zero:=.agg ([I0,S0]:List Value).toArray,zs:=[I0,S0] }
theorem Vp:aE Tryz.prog 275 t275:=⟨by kernel_rfl,by kernel_rfl,rfl,rfl⟩
def t298:TI:={ ax:=.struct [(0,1),(1,1),(2,1),(3,1)],size:=4,bytes:=32,zero:=.agg ([.pointer none,I0,I0,I0]:List Value).toArray,zs:=[.pointer none,I0,I0,I0] }
theorem VS:aE Tryz.prog 298 t298:=⟨by kernel_rfl,by kernel_rfl,rfl,rfl⟩
def t348:TI:={ ax:=.struct [(0,1),(1,1),(2,1)],size:=3,bytes:=40,zero:=.agg ([.slice none 0 0,I0,I0]:List Value).toArray,zs:=[.slice none 0 0,I0,I0] }
theorem Wg:aE Tryz.prog 348 t348:=⟨by kernel_rfl,by kernel_rfl,rfl,rfl⟩
def t352:TI:={ ax:=.struct [(0,1),(1,1),(2,1),(3,1),(4,1),(5,1),(6,1),(7,4),(11,4),(15,1),(16,7),(23,3),(26,1),(27,1),(28,1)],size:=29,bytes:=288,zero:=.agg ([I0,I0,I0,I0,I0,I0,I0,I0,S0,S0,I0,I0,S0,I0,I0,I0,I0,I0,I0,I0,S0,S0,I0,I0,.slice none 0 0,I0,I0,I0,I0]:List Value).toArray,zs:=[I0,I0,I0,I0,I0,I0,I0,I0,S0,S0,I0,I0,S0,I0,I0,I0,I0,I0,I0,I0,S0,S0,I0,I0,.slice none 0 0,I0,I0,I0,I0] }
theorem Wi:aE Tryz.prog 352 t352:=⟨by kernel_rfl,by kernel_rfl,rfl,rfl⟩
def t354:TI:={ ax:=.struct [(0,1),(1,29)],size:=30,bytes:=296,zero:=.agg ([I0,I0,I0,I0,I0,I0,I0,I0,I0,S0,S0,I0,I0,S0,I0,I0,I0,I0,I0,I0,I0,S0,S0,I0,I0,.slice none 0 0,I0,I0,I0,I0]:List Value).toArray,zs:=[I0,I0,I0,I0,I0,I0,I0,I0,I0,S0,S0,I0,I0,S0,I0,I0,I0,I0,I0,I0,I0,S0,S0,I0,I0,.slice none 0 0,I0,I0,I0,I0] }
theorem Wk:aE Tryz.prog 354 t354:=⟨by kernel_rfl,by kernel_rfl,rfl,rfl⟩
def t361:TI:={ ax:=.struct [(0,1)],size:=1,bytes:=24,zero:=.agg ([.slice none 0 0]:List Value).toArray,zs:=[.slice none 0 0] }
theorem Wo:aE Tryz.prog 361 t361:=⟨by kernel_rfl,by kernel_rfl,rfl,rfl⟩
def t365:TI:={ ax:=.struct [(0,1),(1,29),(30,4)],size:=34,bytes:=336,zero:=.agg ([I0,I0,I0,I0,I0,I0,I0,I0,I0,S0,S0,I0,I0,S0,I0,I0,I0,I0,I0,I0,I0,S0,S0,I0,I0,.slice none 0 0,I0,I0,I0,I0,I0,S0,I0,I0]:List Value).toArray,zs:=[I0,I0,I0,I0,I0,I0,I0,I0,I0,S0,S0,I0,I0,S0,I0,I0,I0,I0,I0,I0,I0,S0,S0,I0,I0,.slice none 0 0,I0,I0,I0,I0,I0,S0,I0,I0] }
theorem Wq:aE Tryz.prog 365 t365:=⟨by kernel_rfl,by kernel_rfl,rfl,rfl⟩
def t490:TI:={ ax:=.int .u8,size:=1,bytes:=1,zero:=.int .u8 0,zs:=[.int .u8 0] }
theorem WY:aE Tryz.prog 490 t490:=⟨by kernel_rfl,by kernel_rfl,rfl,rfl⟩
def t413:TI:={ ax:=.struct [(0,1)],size:=1,bytes:=8,zero:=.agg ([.pointer none]:List Value).toArray,zs:=[.pointer none] }
theorem WD:aE Tryz.prog 413 t413:=⟨by kernel_rfl,by kernel_rfl,rfl,rfl⟩
def t484:TI:={ ax:=.struct [(0,1),(1,1),(2,1),(3,1)],size:=4,bytes:=40,zero:=.agg ([.pointer none,.pointer none,.pointer none,S0]:List Value).toArray,zs:=[.pointer none,.pointer none,.pointer none,S0] }
theorem WR:aE Tryz.prog 484 t484:=⟨by kernel_rfl,by kernel_rfl,rfl,rfl⟩
def t485:TI:={ ax:=.struct [(0,1),(1,1),(2,1),(3,1)],size:=4,bytes:=40,zero:=.agg ([.pointer none,.pointer none,.pointer none,S0]:List Value).toArray,zs:=[.pointer none,.pointer none,.pointer none,S0] }
theorem WS:aE Tryz.prog 485 t485:=⟨by kernel_rfl,by kernel_rfl,rfl,rfl⟩
def t486:TI:={ ax:=.array 0 16,size:=0,bytes:=0,zero:=.agg ([]:List Value).toArray,zs:=[] }
theorem WT:aE Tryz.prog 486 t486:=⟨by kernel_rfl,by kernel_rfl,rfl,rfl⟩
def t487:TI:={ ax:=.struct [(0,0)],size:=0,bytes:=0,zero:=.agg ([]:List Value).toArray,zs:=[] }
theorem WU:aE Tryz.prog 487 t487:=⟨by kernel_rfl,by kernel_rfl,rfl,rfl⟩
def t488:TI:={ ax:=.struct [(0,0)],size:=0,bytes:=0,zero:=.agg ([]:List Value).toArray,zs:=[] }
theorem WV:aE Tryz.prog 488 t488:=⟨by kernel_rfl,by kernel_rfl,rfl,rfl⟩
def t489:TI:={ ax:=.int .u8,size:=1,bytes:=1,zero:=.int .u8 0,zs:=[.int .u8 0] }
theorem WW:aE Tryz.prog 489 t489:=⟨by kernel_rfl,by kernel_rfl,rfl,rfl⟩
def t492:TI:={ ax:=.int .i32,size:=1,bytes:=4,zero:=.int .i32 0,zs:=[.int .i32 0] }
theorem WZ:aE Tryz.prog 492 t492:=⟨by kernel_rfl,by kernel_rfl,rfl,rfl⟩
def t493:TI:={ ax:=.int .i32,size:=1,bytes:=4,zero:=.int .i32 0,zs:=[.int .i32 0] }
theorem W0:aE Tryz.prog 493 t493:=⟨by kernel_rfl,by kernel_rfl,rfl,rfl⟩
def tab:kC:=[(3,t3),(4,t4),(2,t2),(9,t9),(5,t5),(32,t32),(353,t353),(6,t6),(75,t75),(91,t91),(7,t7),(24,t24),(8,t8),(28,t28),(21,t21),(283,t283),(241,t241),(78,t78),(111,t111),(85,t85),(99,t99),(113,t113),(62,t62),(105,t105),(147,t147),(40,t40),(26,t26),(10,t10),(262,t262),(89,t89),(48,t48),(143,t143),(22,t22),(96,t96),(11,t11),(69,t69),(169,t169),(197,t197),(144,t144),(310,t310),(181,t181),(188,t188),(300,t300),(12,t12),(70,t70),(295,t295),(72,t72),(233,t233),(107,t107),(160,t160),(218,t218),(145,t145),(14,t14),(65,t65),(121,t121),(116,t116),(16,t16),(226,t226),(15,t15),(210,t210),(360,t360),(395,t395),(157,t157),(13,t13),(347,t347),(174,t174),(194,t194),(299,t299),(366,t366),(180,t180),(137,t137),(272,t272),(158,t158),(127,t127),(31,t31),(222,t222),(124,t124),(176,t176),(183,t183),(217,t217),(475,t475),(245,t245),(232,t232),(458,t458),(67,t67),(142,t142),(204,t204),(257,t257),(289,t289),(68,t68),(294,t294),(341,t341),(362,t362),(380,t380),(140,t140),(225,t225),(228,t228),(349,t349),(355,t355),(38,t38),(139,t139),(175,t175),(266,t266),(385,t385),(212,t212),(243,t243),(39,t39),(207,t207),(270,t270),(329,t329),(134,t134),(191,t191),(292,t292),(305,t305),(118,t118),(247,t247),(267,t267),(393,t393),(17,t17),(19,t19),(327,t327),(18,t18),(251,t251),(291,t291),(42,t42),(214,t214),(249,t249),(263,t263),(384,t384),(470,t470),(47,t47),(104,t104),(278,t278),(30,t30),(95,t95),(106,t106),(119,t119),(135,t135),(141,t141),(159,t159),(244,t244),(264,t264),(279,t279),(320,t320),(423,t423),(477,t477),(71,t71),(193,t193),(215,t215),(238,t238),(246,t246),(287,t287),(397,t397),(23,t23),(120,t120),(173,t173),(256,t256),(280,t280),(290,t290),(306,t306),(325,t325),(90,t90),(224,t224),(344,t344),(383,t383),(414,t414),(455,t455),(84,t84),(182,t182),(216,t216),(223,t223),(240,t240),(248,t248),(271,t271),(276,t276),(293,t293),(345,t345),(456,t456),(474,t474),(168,t168),(187,t187),(196,t196),(239,t239),(265,t265),(286,t286),(346,t346),(359,t359),(231,t231),(250,t250),(304,t304),(340,t340),(123,t123),(136,t136),(138,t138),(146,t146),(213,t213),(221,t221),(227,t227),(242,t242),(261,t261),(269,t269),(275,t275),(298,t298),(348,t348),(352,t352),(354,t354),(361,t361),(365,t365),(490,t490),(413,t413),(484,t484),(485,t485),(486,t486),(487,t487),(488,t488),(489,t489),(492,t492),(493,t493)]
theorem aw:nS Tryz.prog tab:=by
 intro p hp
 have key:∀(l:kC),(∀p∈l,aE Tryz.prog p.1 p.2)→∀k ti,aE Tryz.prog k ti→∀p∈(k,ti)::l,aE Tryz.prog p.1 p.2:=fun l h k ti h1 p hp=>by
  rcases gK.1 hp with rfl | hp
  ·exact h1
  ·exact h p hp
 exact key _ (key _ (key _ (key _ (key _ (key _ (key _ (key _ (key _ (key _ (key _ (key _ (key _ (key _ (key _ (key _ (key _ (key _ (key _ (key _ (key _ (key _ (key _ (key _ (key _ (key _ (key _ (key _ (key _ (key _ (key _ (key _ (key _ (key _ (key _ (key _ (key _ (key _ (key _ (key _ (key _ (key _ (key _ (key _ (key _ (key _ (key _ (key _ (key _ (key _ (key _ (key _ (key _ (key _ (key _ (key _ (key _ (key _ (key _ (key _ (key _ (key _ (key _ (key _ (key _ (key _ (key _ (key _ (key _ (key _ (key _ (key _ (key _ (key _ (key _ (key _ (key _ (key _ (key _ (key _ (key _ (key _ (key _ (key _ (key _ (key _ (key _ (key _ (key _ (key _ (key _ (key _ (key _ (key _ (key _ (key _ (key _ (key _ (key _ (key _ (key _ (key _ (key _ (key _ (key _ (key _ (key _ (key _ (key _ (key _ (key _ (key _ (key _ (key _ (key _ (key _ (key _ (key _ (key _ (key _ (key _ (key _ (key _ (key _ (key _ (key _ (key _ (key _ (key _ (key _ (key _ (key _ (key _ (key _ (key _ (key _ (key _ (key _ (key _ (key _ (key _ (key _ (key _ (key _ (key _ (key _ (key _ (key _ (key _ (key _ (key _ (key _ (key _ (key _ (key _ (key _ (key _ (key _ (key _ (key _ (key _ (key _ (key _ (key _ (key _ (key _ (key _ (key _ (key _ (key _ (key _ (key _ (key _ (key _ (key _ (key _ (key _ (key _ (key _ (key _ (key _ (key _ (key _ (key _ (key _ (key _ (key _ (key _ (key _ (key _ (key _ (key _ (key _ (key _ (key _ (key _ (key _ (key _ (key _ (key _ (key _ (key _ (key _ (key _ (key _ (key _ (key _ (key _ (key _ (key _ (key _ (key _ (key _ (key _ (key _ (key _ (key _ (key _ (fun p h=>by cases h) _ _ W0) _ _ WZ) _ _ WW) _ _ WV) _ _ WU) _ _ WT) _ _ WS) _ _ WR) _ _ WD) _ _ WY) _ _ Wq) _ _ Wo) _ _ Wk) _ _ Wi) _ _ Wg) _ _ VS) _ _ Vp) _ _ Vk) _ _ Vc) _ _ U1) _ _ UP) _ _ UJ) _ _ UC) _ _ T7) _ _ TY) _ _ TW) _ _ TQ) _ _ V') _ _ VZ) _ _ U_) _ _ US) _ _ Wm) _ _ Wd) _ _ Vv) _ _ Vh) _ _ UX) _ _ Uv) _ _ Up) _ _ Ud) _ _ WM) _ _ WJ) _ _ Wc) _ _ VH) _ _ Vq) _ _ Vn) _ _ U7) _ _ UZ) _ _ UL) _ _ UF) _ _ Un) _ _ Xe) _ _ WI) _ _ WE) _ _ Wt) _ _ Wb) _ _ UM) _ _ Xi) _ _ V7) _ _ V1) _ _ Vz) _ _ Vt) _ _ Va) _ _ Ug) _ _ TO) _ _ UY) _ _ Wz) _ _ Vw) _ _ U5) _ _ UW) _ _ UE) _ _ Ut) _ _ W_) _ _ WO) _ _ WG) _ _ V6) _ _ Vs) _ _ Vf) _ _ U3) _ _ Ua) _ _ T2) _ _ TV) _ _ TM) _ _ TD) _ _ Xk) _ _ V3) _ _ Vr) _ _ TB) _ _ WQ) _ _ WL) _ _ Wu) _ _ Ve) _ _ U8) _ _ UD) _ _ WH) _ _ VE) _ _ U') _ _ Ur) _ _ V8) _ _ Ux) _ _ Uk) _ _ Wx) _ _ Vj) _ _ U6) _ _ TL) _ _ V0) _ _ VF) _ _ Us) _ _ TU) _ _ V9) _ _ Vm) _ _ Uz) _ _ WA) _ _ U2) _ _ UB) _ _ Wv) _ _ Vi) _ _ Ui) _ _ TZ) _ _ Ww) _ _ Wl) _ _ Wh) _ _ UQ) _ _ UN) _ _ T1) _ _ Ws) _ _ Wp) _ _ Wa) _ _ VJ) _ _ W6) _ _ Vx) _ _ Vb) _ _ Uy) _ _ T3) _ _ W5) _ _ WK) _ _ UT) _ _ U4) _ _ WN) _ _ UG) _ _ Uo) _ _ Uj) _ _ TR) _ _ UK) _ _ V5) _ _ TS) _ _ T') _ _ Vo) _ _ TX) _ _ Ul) _ _ Wr) _ _ VU) _ _ Uu) _ _ Uh) _ _ We) _ _ T0) _ _ T_) _ _ Wy) _ _ Wn) _ _ UA) _ _ Ub) _ _ UO) _ _ Uf) _ _ TK) _ _ TP) _ _ W4) _ _ T9) _ _ T6) _ _ UH) _ _ Uc) _ _ TE) _ _ UU) _ _ Xa) _ _ VR) _ _ W9) _ _ TT) _ _ VX) _ _ Uq) _ _ Um) _ _ V4) _ _ T5) _ _ Uw) _ _ Ue) _ _ W7) _ _ TN) _ _ Xl) _ _ UR) _ _ T4) _ _ WX) _ _ Xg) _ _ Vd) _ _ TG) _ _ Vl) _ _ WC) _ _ T8) _ _ TC) _ _ W3) _ _ TJ) _ _ Xm) _ _ Xf) _ _ TH) _ _ Xc) _ _ U0) _ _ Vu) _ _ UI) _ _ Vy) _ _ Xh) _ _ U9) _ _ Xd) _ _ Xj) _ _ Xb) _ _ W8) _ _ Wj) _ _ V_) _ _ W2) _ _ Xn) _ _ VW) _ _ W1) _ _ WB p hp
end T
end Go.Proofs.YtbmakdofbejlnaaGreatDoor
namespace Go.Proofs
open Go.Shelf
def Tryz.HX : Go.Shelf.Ren := ⟨fun | 156 => 73 | 165 => 118 | 166 => 119 | 169 => 120 | 240 => 161 | 241 => 162 | 276 => 217 | 277 => 218 | n => n, fun | 31 => 40 | 9 => 9 | 3 => 3 | 4 => 4 | 0 => 0 | 20 => 20 | 72 => 183 | 76 => 60 | 70 => 180 | 37 => 181 | 75 => 59 | 127 => 256 | 164 => 336 | 5 => 5 | 80 => 185 | n => n, fun | n => n⟩
theorem Tryz.P1 : Go.Proofs.Lays.n156 Tryz.prog Tryz.HX := {
  mixed := by kernel_rfl
  f156 := Tryz.func73.trans (congrArg some (by kernel_rfl))
  f165 := Tryz.func118.trans (congrArg some (by kernel_rfl))
  f166 := Tryz.func119.trans (congrArg some (by kernel_rfl))
  f169 := Tryz.func120.trans (congrArg some (by kernel_rfl))
  f240 := Tryz.func161.trans (congrArg some (by kernel_rfl))
  f241 := Tryz.func162.trans (congrArg some (by kernel_rfl))
  f276 := Tryz.func217.trans (congrArg some (by kernel_rfl))
  f277 := Tryz.func218.trans (congrArg some (by kernel_rfl))
  t0 := Tryz.underlying0
  a0 := Tryz.isAgg0
  z0 := Tryz.sizeOf0
  v0 := Tryz.zeroValue0
  t3 := Tryz.underlying3
  a3 := Tryz.isAgg3
  z3 := Tryz.sizeOf3
  v3 := Tryz.zeroValue3
  t4 := Tryz.underlying4
  a4 := Tryz.isAgg4
  z4 := Tryz.sizeOf4
  v4 := Tryz.zeroValue4
  t9 := Tryz.underlying9
  a9 := Tryz.isAgg9
  z9 := Tryz.sizeOf9
  v9 := Tryz.zeroValue9
  t20 := Tryz.underlying20
  a20 := Tryz.isAgg20
  z20 := Tryz.sizeOf20
  v20 := Tryz.zeroValue20
  t31 := Tryz.underlying40
  a31 := Tryz.isAgg40
  z31 := Tryz.sizeOf40
  v31 := Tryz.zeroValue40
  t37 := Tryz.underlying181
  a37 := Tryz.isAgg181
  z37 := Tryz.sizeOf181
  v37 := Tryz.zeroValue181
  t70 := Tryz.underlying180
  a70 := Tryz.isAgg180
  z70 := Tryz.sizeOf180
  v70 := Tryz.zeroValue180
  t72 := Tryz.underlying183
  a72 := Tryz.isAgg183
  z72 := Tryz.sizeOf183
  v72 := Tryz.zeroValue183
  t75 := Tryz.underlying59
  a75 := Tryz.isAgg59
  z75 := Tryz.sizeOf59
  v75 := Tryz.zeroValue59
  t76 := Tryz.underlying60
  a76 := Tryz.isAgg60
  z76 := Tryz.sizeOf60
  v76 := Tryz.zeroValue60
  t127 := Tryz.underlying256
  a127 := Tryz.isAgg256
  z127 := Tryz.sizeOf256
  v127 := Tryz.zeroValue256
  t164 := Tryz.underlying336
  a164 := Tryz.isAgg336
  z164 := Tryz.sizeOf336
  v164 := Tryz.zeroValue336 }
theorem Tryz.MK : Builder.Extra Tryz.prog Tryz.HX := {
  sizeBuilder := by kernel_rfl
  liesBuilder := by kernel_rfl
  t5 := Tryz.underlying5
  a5 := Tryz.isAgg5
  z5 := Tryz.sizeOf5
  v5 := Tryz.zeroValue5
  infoByte := by kernel_rfl
  cellsByte := by kernel_rfl
  sizeByte := by kernel_rfl
  neB5 := by decide }
def Tryz.P2 : Go.Shelf.Ren := ⟨fun | 172 => 41 | 244 => 83 | 245 => 84 | 247 => 136 | 279 => 137 | 280 => 138 | 281 => 139 | 282 => 140 | 287 => 177 | 316 => 178 | 171 => 56 | 205 => 179 | 321 => 226 | 322 => 227 | 243 => 103 | 246 => 154 | 283 => 202 | 284 => 203 | 285 => 204 | 286 => 205 | 129 => 216 | 317 => 256 | 318 => 257 | 319 => 258 | 320 => 259 | 337 => 318 | 338 => 319 | n => n, fun | 9 => 9 | 3 => 3 | 75 => 59 | 76 => 60 | 4 => 4 | 5 => 5 | 167 => 204 | 37 => 181 | 0 => 0 | 85 => 205 | 2 => 2 | 168 => 207 | 53 => 283 | 175 => 284 | 46 => 233 | 210 => 287 | 127 => 256 | 145 => 346 | 143 => 344 | 21 => 21 | 171 => 320 | 173 => 323 | 212 => 383 | 51 => 241 | 20 => 20 | 213 => 384 | 232 => 455 | 233 => 456 | 80 => 185 | n => n, fun | 15 => 2 | 16 => 3 | 17 => 6 | 18 => 7 | 19 => 8 | n => n⟩
theorem Tryz.YN : Go.Proofs.Lays.n172 Tryz.prog Tryz.P2 := {
  mixed := by kernel_rfl
  f129 := Tryz.func216.trans (congrArg some (by kernel_rfl))
  f171 := Tryz.func56.trans (congrArg some (by kernel_rfl))
  f172 := Tryz.func41.trans (congrArg some (by kernel_rfl))
  f205 := Tryz.func179.trans (congrArg some (by kernel_rfl))
  f243 := Tryz.func103.trans (congrArg some (by kernel_rfl))
  f244 := Tryz.func83.trans (congrArg some (by kernel_rfl))
  f245 := Tryz.func84.trans (congrArg some (by kernel_rfl))
  f246 := Tryz.func154.trans (congrArg some (by kernel_rfl))
  f247 := Tryz.func136.trans (congrArg some (by kernel_rfl))
  f279 := Tryz.func137.trans (congrArg some (by kernel_rfl))
  f280 := Tryz.func138.trans (congrArg some (by kernel_rfl))
  f281 := Tryz.func139.trans (congrArg some (by kernel_rfl))
  f282 := Tryz.func140.trans (congrArg some (by kernel_rfl))
  f283 := Tryz.func202.trans (congrArg some (by kernel_rfl))
  f284 := Tryz.func203.trans (congrArg some (by kernel_rfl))
  f285 := Tryz.func204.trans (congrArg some (by kernel_rfl))
  f286 := Tryz.func205.trans (congrArg some (by kernel_rfl))
  f287 := Tryz.func177.trans (congrArg some (by kernel_rfl))
  f316 := Tryz.func178.trans (congrArg some (by kernel_rfl))
  f317 := Tryz.func256.trans (congrArg some (by kernel_rfl))
  f318 := Tryz.func257.trans (congrArg some (by kernel_rfl))
  f319 := Tryz.func258.trans (congrArg some (by kernel_rfl))
  f320 := Tryz.func259.trans (congrArg some (by kernel_rfl))
  f321 := Tryz.func226.trans (congrArg some (by kernel_rfl))
  f322 := Tryz.func227.trans (congrArg some (by kernel_rfl))
  f337 := Tryz.func318.trans (congrArg some (by kernel_rfl))
  f338 := Tryz.func319.trans (congrArg some (by kernel_rfl))
  t0 := Tryz.underlying0
  a0 := Tryz.isAgg0
  z0 := Tryz.sizeOf0
  v0 := Tryz.zeroValue0
  t2 := Tryz.underlying2
  a2 := Tryz.isAgg2
  z2 := Tryz.sizeOf2
  v2 := Tryz.zeroValue2
  t3 := Tryz.underlying3
  a3 := Tryz.isAgg3
  z3 := Tryz.sizeOf3
  v3 := Tryz.zeroValue3
  t4 := Tryz.underlying4
  a4 := Tryz.isAgg4
  z4 := Tryz.sizeOf4
  v4 := Tryz.zeroValue4
  t5 := Tryz.underlying5
  a5 := Tryz.isAgg5
  z5 := Tryz.sizeOf5
  v5 := Tryz.zeroValue5
  t9 := Tryz.underlying9
  a9 := Tryz.isAgg9
  z9 := Tryz.sizeOf9
  v9 := Tryz.zeroValue9
  t20 := Tryz.underlying20
  a20 := Tryz.isAgg20
  z20 := Tryz.sizeOf20
  v20 := Tryz.zeroValue20
  t21 := Tryz.underlying21
  a21 := Tryz.isAgg21
  z21 := Tryz.sizeOf21
  v21 := Tryz.zeroValue21
  t37 := Tryz.underlying181
  a37 := Tryz.isAgg181
  z37 := Tryz.sizeOf181
  v37 := Tryz.zeroValue181
  t46 := Tryz.underlying233
  a46 := Tryz.isAgg233
  z46 := Tryz.sizeOf233
  v46 := Tryz.zeroValue233
  t51 := Tryz.underlying241
  a51 := Tryz.isAgg241
  z51 := Tryz.sizeOf241
  v51 := Tryz.zeroValue241
  t53 := Tryz.underlying283
  a53 := Tryz.isAgg283
  z53 := Tryz.sizeOf283
  v53 := Tryz.zeroValue283
  t75 := Tryz.underlying59
  a75 := Tryz.isAgg59
  z75 := Tryz.sizeOf59
  v75 := Tryz.zeroValue59
  t76 := Tryz.underlying60
  a76 := Tryz.isAgg60
  z76 := Tryz.sizeOf60
  v76 := Tryz.zeroValue60
  t85 := Tryz.underlying205
  a85 := Tryz.isAgg205
  z85 := Tryz.sizeOf205
  v85 := Tryz.zeroValue205
  t127 := Tryz.underlying256
  a127 := Tryz.isAgg256
  z127 := Tryz.sizeOf256
  v127 := Tryz.zeroValue256
  t143 := Tryz.underlying344
  a143 := Tryz.isAgg344
  z143 := Tryz.sizeOf344
  v143 := Tryz.zeroValue344
  t145 := Tryz.underlying346
  a145 := Tryz.isAgg346
  z145 := Tryz.sizeOf346
  v145 := Tryz.zeroValue346
  t167 := Tryz.underlying204
  a167 := Tryz.isAgg204
  z167 := Tryz.sizeOf204
  v167 := Tryz.zeroValue204
  t168 := Tryz.underlying207
  a168 := Tryz.isAgg207
  z168 := Tryz.sizeOf207
  v168 := Tryz.zeroValue207
  t171 := Tryz.underlying320
  a171 := Tryz.isAgg320
  z171 := Tryz.sizeOf320
  v171 := Tryz.zeroValue320
  t173 := Tryz.underlying323
  a173 := Tryz.isAgg323
  z173 := Tryz.sizeOf323
  v173 := Tryz.zeroValue323
  t175 := Tryz.underlying284
  a175 := Tryz.isAgg284
  z175 := Tryz.sizeOf284
  v175 := Tryz.zeroValue284
  t210 := Tryz.underlying287
  a210 := Tryz.isAgg287
  z210 := Tryz.sizeOf287
  v210 := Tryz.zeroValue287
  t212 := Tryz.underlying383
  a212 := Tryz.isAgg383
  z212 := Tryz.sizeOf383
  v212 := Tryz.zeroValue383
  t213 := Tryz.underlying384
  a213 := Tryz.isAgg384
  z213 := Tryz.sizeOf384
  t232 := Tryz.underlying455
  a232 := Tryz.isAgg455
  z232 := Tryz.sizeOf455
  v232 := Tryz.zeroValue455
  t233 := Tryz.underlying456
  a233 := Tryz.isAgg456
  z233 := Tryz.sizeOf456
  v233 := Tryz.zeroValue456
  g15 := by kernel_rfl
  g16 := by kernel_rfl
  g17 := by kernel_rfl
  g18 := by kernel_rfl
  g19 := by kernel_rfl }
def Tryz.P8 : Go.Shelf.Ren := ⟨fun | 171 => 56 | 243 => 103 | 246 => 154 | 283 => 202 | 284 => 203 | 285 => 204 | 286 => 205 | 129 => 216 | 317 => 256 | 318 => 257 | 319 => 258 | 320 => 259 | 337 => 318 | 338 => 319 | n => n, fun | 3 => 3 | 9 => 9 | 2 => 2 | 4 => 4 | 171 => 320 | 0 => 0 | 53 => 283 | 37 => 181 | 5 => 5 | 173 => 323 | 212 => 383 | 51 => 241 | 20 => 20 | 213 => 384 | 46 => 233 | 232 => 455 | 233 => 456 | n => n, fun | 17 => 6 | 18 => 7 | 19 => 8 | n => n⟩
theorem Tryz.P7 : Go.Proofs.LaysM.n171 Tryz.prog Tryz.P8 := {
  mixed := by kernel_rfl
  f129 := Tryz.func216.trans (congrArg some (by kernel_rfl))
  f171 := Tryz.func56.trans (congrArg some (by kernel_rfl))
  f243 := Tryz.func103.trans (congrArg some (by kernel_rfl))
  f246 := Tryz.func154.trans (congrArg some (by kernel_rfl))
  f283 := Tryz.func202.trans (congrArg some (by kernel_rfl))
  f284 := Tryz.func203.trans (congrArg some (by kernel_rfl))
  f285 := Tryz.func204.trans (congrArg some (by kernel_rfl))
  f286 := Tryz.func205.trans (congrArg some (by kernel_rfl))
  f317 := Tryz.func256.trans (congrArg some (by kernel_rfl))
  f318 := Tryz.func257.trans (congrArg some (by kernel_rfl))
  f319 := Tryz.func258.trans (congrArg some (by kernel_rfl))
  f320 := Tryz.func259.trans (congrArg some (by kernel_rfl))
  f337 := Tryz.func318.trans (congrArg some (by kernel_rfl))
  f338 := Tryz.func319.trans (congrArg some (by kernel_rfl))
  t0 := Tryz.underlying0
  a0 := Tryz.isAgg0
  z0 := Tryz.sizeOf0
  v0 := Tryz.zeroValue0
  t2 := Tryz.underlying2
  a2 := Tryz.isAgg2
  z2 := Tryz.sizeOf2
  v2 := Tryz.zeroValue2
  t3 := Tryz.underlying3
  a3 := Tryz.isAgg3
  z3 := Tryz.sizeOf3
  v3 := Tryz.zeroValue3
  t4 := Tryz.underlying4
  a4 := Tryz.isAgg4
  z4 := Tryz.sizeOf4
  v4 := Tryz.zeroValue4
  t5 := Tryz.underlying5
  a5 := Tryz.isAgg5
  z5 := Tryz.sizeOf5
  v5 := Tryz.zeroValue5
  t9 := Tryz.underlying9
  a9 := Tryz.isAgg9
  z9 := Tryz.sizeOf9
  v9 := Tryz.zeroValue9
  t20 := Tryz.underlying20
  a20 := Tryz.isAgg20
  z20 := Tryz.sizeOf20
  v20 := Tryz.zeroValue20
  t37 := Tryz.underlying181
  a37 := Tryz.isAgg181
  z37 := Tryz.sizeOf181
  v37 := Tryz.zeroValue181
  t46 := Tryz.underlying233
  a46 := Tryz.isAgg233
  z46 := Tryz.sizeOf233
  v46 := Tryz.zeroValue233
  t51 := Tryz.underlying241
  a51 := Tryz.isAgg241
  z51 := Tryz.sizeOf241
  v51 := Tryz.zeroValue241
  t53 := Tryz.underlying283
  a53 := Tryz.isAgg283
  z53 := Tryz.sizeOf283
  v53 := Tryz.zeroValue283
  t171 := Tryz.underlying320
  a171 := Tryz.isAgg320
  z171 := Tryz.sizeOf320
  v171 := Tryz.zeroValue320
  t173 := Tryz.underlying323
  a173 := Tryz.isAgg323
  z173 := Tryz.sizeOf323
  v173 := Tryz.zeroValue323
  t212 := Tryz.underlying383
  a212 := Tryz.isAgg383
  z212 := Tryz.sizeOf383
  v212 := Tryz.zeroValue383
  t213 := Tryz.underlying384
  a213 := Tryz.isAgg384
  z213 := Tryz.sizeOf384
  t232 := Tryz.underlying455
  a232 := Tryz.isAgg455
  z232 := Tryz.sizeOf455
  v232 := Tryz.zeroValue455
  t233 := Tryz.underlying456
  a233 := Tryz.isAgg456
  z233 := Tryz.sizeOf456
  v233 := Tryz.zeroValue456
  g17 := by kernel_rfl
  g18 := by kernel_rfl
  g19 := by kernel_rfl
  i0 := by kernel_rfl
  i2 := by kernel_rfl
  i3 := by kernel_rfl
  i4 := by kernel_rfl
  i5 := by kernel_rfl
  i9 := by kernel_rfl
  i20 := by kernel_rfl
  i37 := by kernel_rfl
  i46 := by kernel_rfl
  i51 := by kernel_rfl
  i53 := by kernel_rfl
  i171 := by kernel_rfl
  i173 := by kernel_rfl
  i212 := by kernel_rfl
  i232 := by kernel_rfl
  i233 := by kernel_rfl
  m17 := by kernel_rfl
  m18 := by kernel_rfl
  m19 := by kernel_rfl }
def Tryz.P4 : Go.Shelf.Ren := ⟨fun | 172 => 41 | 244 => 83 | 245 => 84 | 247 => 136 | 279 => 137 | 280 => 138 | 281 => 139 | 282 => 140 | 287 => 177 | 316 => 178 | 171 => 56 | 205 => 179 | 321 => 226 | 322 => 227 | 243 => 103 | 246 => 154 | 283 => 202 | 284 => 203 | 285 => 204 | 286 => 205 | 129 => 216 | 317 => 256 | 318 => 257 | 319 => 258 | 320 => 259 | 337 => 318 | 338 => 319 | n => n, fun | 9 => 9 | 3 => 3 | 75 => 59 | 76 => 60 | 4 => 4 | 5 => 5 | 167 => 204 | 37 => 181 | 0 => 0 | 85 => 205 | 2 => 2 | 168 => 207 | 53 => 283 | 175 => 284 | 46 => 233 | 210 => 287 | 127 => 256 | 145 => 346 | 143 => 344 | 21 => 21 | 171 => 320 | 173 => 323 | 212 => 383 | 51 => 241 | 20 => 20 | 213 => 384 | 232 => 455 | 233 => 456 | 80 => 185 | n => n, fun | 15 => 2 | 16 => 3 | 17 => 6 | 18 => 7 | 19 => 8 | n => n⟩
theorem Tryz.P3 : Go.Proofs.LaysC.n172 Tryz.prog Tryz.P4 := {
  mixed := by kernel_rfl
  f129 := Tryz.func216.trans (congrArg some (by kernel_rfl))
  f171 := Tryz.func56.trans (congrArg some (by kernel_rfl))
  f172 := Tryz.func41.trans (congrArg some (by kernel_rfl))
  f205 := Tryz.func179.trans (congrArg some (by kernel_rfl))
  f243 := Tryz.func103.trans (congrArg some (by kernel_rfl))
  f244 := Tryz.func83.trans (congrArg some (by kernel_rfl))
  f245 := Tryz.func84.trans (congrArg some (by kernel_rfl))
  f246 := Tryz.func154.trans (congrArg some (by kernel_rfl))
  f247 := Tryz.func136.trans (congrArg some (by kernel_rfl))
  f279 := Tryz.func137.trans (congrArg some (by kernel_rfl))
  f280 := Tryz.func138.trans (congrArg some (by kernel_rfl))
  f281 := Tryz.func139.trans (congrArg some (by kernel_rfl))
  f282 := Tryz.func140.trans (congrArg some (by kernel_rfl))
  f283 := Tryz.func202.trans (congrArg some (by kernel_rfl))
  f284 := Tryz.func203.trans (congrArg some (by kernel_rfl))
  f285 := Tryz.func204.trans (congrArg some (by kernel_rfl))
  f286 := Tryz.func205.trans (congrArg some (by kernel_rfl))
  f287 := Tryz.func177.trans (congrArg some (by kernel_rfl))
  f316 := Tryz.func178.trans (congrArg some (by kernel_rfl))
  f317 := Tryz.func256.trans (congrArg some (by kernel_rfl))
  f318 := Tryz.func257.trans (congrArg some (by kernel_rfl))
  f319 := Tryz.func258.trans (congrArg some (by kernel_rfl))
  f320 := Tryz.func259.trans (congrArg some (by kernel_rfl))
  f321 := Tryz.func226.trans (congrArg some (by kernel_rfl))
  f322 := Tryz.func227.trans (congrArg some (by kernel_rfl))
  f337 := Tryz.func318.trans (congrArg some (by kernel_rfl))
  f338 := Tryz.func319.trans (congrArg some (by kernel_rfl))
  t0 := Tryz.underlying0
  a0 := Tryz.isAgg0
  z0 := Tryz.sizeOf0
  v0 := Tryz.zeroValue0
  t2 := Tryz.underlying2
  a2 := Tryz.isAgg2
  z2 := Tryz.sizeOf2
  v2 := Tryz.zeroValue2
  t3 := Tryz.underlying3
  a3 := Tryz.isAgg3
  z3 := Tryz.sizeOf3
  v3 := Tryz.zeroValue3
  t4 := Tryz.underlying4
  a4 := Tryz.isAgg4
  z4 := Tryz.sizeOf4
  v4 := Tryz.zeroValue4
  t5 := Tryz.underlying5
  a5 := Tryz.isAgg5
  z5 := Tryz.sizeOf5
  v5 := Tryz.zeroValue5
  t9 := Tryz.underlying9
  a9 := Tryz.isAgg9
  z9 := Tryz.sizeOf9
  v9 := Tryz.zeroValue9
  t20 := Tryz.underlying20
  a20 := Tryz.isAgg20
  z20 := Tryz.sizeOf20
  v20 := Tryz.zeroValue20
  t21 := Tryz.underlying21
  a21 := Tryz.isAgg21
  z21 := Tryz.sizeOf21
  v21 := Tryz.zeroValue21
  t37 := Tryz.underlying181
  a37 := Tryz.isAgg181
  z37 := Tryz.sizeOf181
  v37 := Tryz.zeroValue181
  t46 := Tryz.underlying233
  a46 := Tryz.isAgg233
  z46 := Tryz.sizeOf233
  v46 := Tryz.zeroValue233
  t51 := Tryz.underlying241
  a51 := Tryz.isAgg241
  z51 := Tryz.sizeOf241
  v51 := Tryz.zeroValue241
  t53 := Tryz.underlying283
  a53 := Tryz.isAgg283
  z53 := Tryz.sizeOf283
  v53 := Tryz.zeroValue283
  t75 := Tryz.underlying59
  a75 := Tryz.isAgg59
  z75 := Tryz.sizeOf59
  v75 := Tryz.zeroValue59
  t76 := Tryz.underlying60
  a76 := Tryz.isAgg60
  z76 := Tryz.sizeOf60
  v76 := Tryz.zeroValue60
  t85 := Tryz.underlying205
  a85 := Tryz.isAgg205
  z85 := Tryz.sizeOf205
  v85 := Tryz.zeroValue205
  t127 := Tryz.underlying256
  a127 := Tryz.isAgg256
  z127 := Tryz.sizeOf256
  v127 := Tryz.zeroValue256
  t143 := Tryz.underlying344
  a143 := Tryz.isAgg344
  z143 := Tryz.sizeOf344
  v143 := Tryz.zeroValue344
  t145 := Tryz.underlying346
  a145 := Tryz.isAgg346
  z145 := Tryz.sizeOf346
  v145 := Tryz.zeroValue346
  t167 := Tryz.underlying204
  a167 := Tryz.isAgg204
  z167 := Tryz.sizeOf204
  v167 := Tryz.zeroValue204
  t168 := Tryz.underlying207
  a168 := Tryz.isAgg207
  z168 := Tryz.sizeOf207
  v168 := Tryz.zeroValue207
  t171 := Tryz.underlying320
  a171 := Tryz.isAgg320
  z171 := Tryz.sizeOf320
  v171 := Tryz.zeroValue320
  t173 := Tryz.underlying323
  a173 := Tryz.isAgg323
  z173 := Tryz.sizeOf323
  v173 := Tryz.zeroValue323
  t175 := Tryz.underlying284
  a175 := Tryz.isAgg284
  z175 := Tryz.sizeOf284
  v175 := Tryz.zeroValue284
  t210 := Tryz.underlying287
  a210 := Tryz.isAgg287
  z210 := Tryz.sizeOf287
  v210 := Tryz.zeroValue287
  t212 := Tryz.underlying383
  a212 := Tryz.isAgg383
  z212 := Tryz.sizeOf383
  v212 := Tryz.zeroValue383
  t213 := Tryz.underlying384
  a213 := Tryz.isAgg384
  z213 := Tryz.sizeOf384
  t232 := Tryz.underlying455
  a232 := Tryz.isAgg455
  z232 := Tryz.sizeOf455
  v232 := Tryz.zeroValue455
  t233 := Tryz.underlying456
  a233 := Tryz.isAgg456
  z233 := Tryz.sizeOf456
  v233 := Tryz.zeroValue456
  g15 := by kernel_rfl
  g16 := by kernel_rfl
  g17 := by kernel_rfl
  g18 := by kernel_rfl
  g19 := by kernel_rfl
  t80 := Tryz.underlying185
  a80 := Tryz.isAgg185
  z80 := Tryz.sizeOf185
  v80 := Tryz.zeroValue185
  i0 := by kernel_rfl
  i2 := by kernel_rfl
  i3 := by kernel_rfl
  i4 := by kernel_rfl
  i5 := by kernel_rfl
  i9 := by kernel_rfl
  i20 := by kernel_rfl
  i21 := by kernel_rfl
  i37 := by kernel_rfl
  i46 := by kernel_rfl
  i51 := by kernel_rfl
  i53 := by kernel_rfl
  i75 := by kernel_rfl
  i76 := by kernel_rfl
  i80 := by kernel_rfl
  i85 := by kernel_rfl
  i127 := by kernel_rfl
  i143 := by kernel_rfl
  i145 := by kernel_rfl
  i167 := by kernel_rfl
  i168 := by kernel_rfl
  i171 := by kernel_rfl
  i173 := by kernel_rfl
  i175 := by kernel_rfl
  i210 := by kernel_rfl
  i212 := by kernel_rfl
  i232 := by kernel_rfl
  i233 := by kernel_rfl
  m15 := by kernel_rfl
  m16 := by kernel_rfl
  m17 := by kernel_rfl
  m18 := by kernel_rfl
  m19 := by kernel_rfl
  c0 := by kernel_rfl
  c2 := by kernel_rfl
  c3 := by kernel_rfl
  c4 := by kernel_rfl
  c5 := by kernel_rfl
  c9 := by kernel_rfl
  c20 := by kernel_rfl
  c21 := by kernel_rfl
  c37 := by kernel_rfl
  c46 := by kernel_rfl
  c51 := by kernel_rfl
  c53 := by kernel_rfl
  c75 := by kernel_rfl
  c76 := by kernel_rfl
  c80 := by kernel_rfl
  c85 := by kernel_rfl
  c127 := by kernel_rfl
  c143 := by kernel_rfl
  c145 := by kernel_rfl
  c167 := by kernel_rfl
  c168 := by kernel_rfl
  c171 := by kernel_rfl
  c173 := by kernel_rfl
  c175 := by kernel_rfl
  c210 := by kernel_rfl
  c212 := by kernel_rfl
  c213 := by kernel_rfl
  c232 := by kernel_rfl
  c233 := by kernel_rfl }
def Tryz.C7 : Go.Shelf.Ren := ⟨fun | 146 => 10 | 221 => 16 | 268 => 47 | 138 => 48 | 143 => 49 | 195 => 93 | 197 => 94 | 218 => 95 | 219 => 96 | 260 => 146 | 217 => 147 | 225 => 148 | 224 => 149 | 267 => 150 | 266 => 185 | 314 => 186 | n => n, fun | 9 => 9 | 31 => 40 | 3 => 3 | 4 => 4 | 0 => 0 | 105 => 164 | 21 => 21 | 5 => 5 | 46 => 233 | 119 => 303 | 139 => 306 | 138 => 305 | 146 => 307 | 51 => 241 | n => n, fun | 1 => 1 | 3 => 4 | 4 => 5 | n => n⟩
theorem Tryz.P0 : Go.Proofs.Lays.n146 Tryz.prog Tryz.C7 := {
  mixed := by kernel_rfl
  f138 := Tryz.func48.trans (congrArg some (by kernel_rfl))
  f143 := Tryz.func49.trans (congrArg some (by kernel_rfl))
  f146 := Tryz.func10.trans (congrArg some (by kernel_rfl))
  f195 := Tryz.func93.trans (congrArg some (by kernel_rfl))
  f197 := Tryz.func94.trans (congrArg some (by kernel_rfl))
  f217 := Tryz.func147.trans (congrArg some (by kernel_rfl))
  f218 := Tryz.func95.trans (congrArg some (by kernel_rfl))
  f219 := Tryz.func96.trans (congrArg some (by kernel_rfl))
  f221 := Tryz.func16.trans (congrArg some (by kernel_rfl))
  f224 := Tryz.func149.trans (congrArg some (by kernel_rfl))
  f225 := Tryz.func148.trans (congrArg some (by kernel_rfl))
  f260 := Tryz.func146.trans (congrArg some (by kernel_rfl))
  f266 := Tryz.func185.trans (congrArg some (by kernel_rfl))
  f267 := Tryz.func150.trans (congrArg some (by kernel_rfl))
  f268 := Tryz.func47.trans (congrArg some (by kernel_rfl))
  f314 := Tryz.func186.trans (congrArg some (by kernel_rfl))
  t0 := Tryz.underlying0
  a0 := Tryz.isAgg0
  z0 := Tryz.sizeOf0
  v0 := Tryz.zeroValue0
  t3 := Tryz.underlying3
  a3 := Tryz.isAgg3
  z3 := Tryz.sizeOf3
  v3 := Tryz.zeroValue3
  t4 := Tryz.underlying4
  a4 := Tryz.isAgg4
  z4 := Tryz.sizeOf4
  v4 := Tryz.zeroValue4
  t5 := Tryz.underlying5
  a5 := Tryz.isAgg5
  z5 := Tryz.sizeOf5
  v5 := Tryz.zeroValue5
  t9 := Tryz.underlying9
  a9 := Tryz.isAgg9
  z9 := Tryz.sizeOf9
  v9 := Tryz.zeroValue9
  t21 := Tryz.underlying21
  a21 := Tryz.isAgg21
  z21 := Tryz.sizeOf21
  v21 := Tryz.zeroValue21
  t31 := Tryz.underlying40
  a31 := Tryz.isAgg40
  z31 := Tryz.sizeOf40
  v31 := Tryz.zeroValue40
  t46 := Tryz.underlying233
  a46 := Tryz.isAgg233
  z46 := Tryz.sizeOf233
  v46 := Tryz.zeroValue233
  t51 := Tryz.underlying241
  a51 := Tryz.isAgg241
  z51 := Tryz.sizeOf241
  v51 := Tryz.zeroValue241
  t105 := Tryz.underlying164
  a105 := Tryz.isAgg164
  z105 := Tryz.sizeOf164
  v105 := Tryz.zeroValue164
  t119 := Tryz.underlying303
  a119 := Tryz.isAgg303
  z119 := Tryz.sizeOf303
  t138 := Tryz.underlying305
  a138 := Tryz.isAgg305
  z138 := Tryz.sizeOf305
  v138 := Tryz.zeroValue305
  t139 := Tryz.underlying306
  a139 := Tryz.isAgg306
  z139 := Tryz.sizeOf306
  v139 := Tryz.zeroValue306
  t146 := Tryz.underlying307
  a146 := Tryz.isAgg307
  z146 := Tryz.sizeOf307
  v146 := Tryz.zeroValue307
  g1 := by kernel_rfl
  g3 := by kernel_rfl
  g4 := by kernel_rfl }
def Tryz.P6 : Go.Shelf.Ren := ⟨fun | 146 => 10 | 221 => 16 | 268 => 47 | 138 => 48 | 143 => 49 | 195 => 93 | 197 => 94 | 218 => 95 | 219 => 96 | 260 => 146 | 217 => 147 | 225 => 148 | 224 => 149 | 267 => 150 | 266 => 185 | 314 => 186 | n => n, fun | 9 => 9 | 31 => 40 | 3 => 3 | 4 => 4 | 0 => 0 | 105 => 164 | 21 => 21 | 5 => 5 | 46 => 233 | 119 => 303 | 139 => 306 | 138 => 305 | 146 => 307 | 51 => 241 | n => n, fun | 1 => 1 | 3 => 4 | 4 => 5 | n => n⟩
theorem Tryz.P5 : Go.Proofs.LaysM.n146 Tryz.prog Tryz.P6 := {
  mixed := by kernel_rfl
  f138 := Tryz.func48.trans (congrArg some (by kernel_rfl))
  f143 := Tryz.func49.trans (congrArg some (by kernel_rfl))
  f146 := Tryz.func10.trans (congrArg some (by kernel_rfl))
  f195 := Tryz.func93.trans (congrArg some (by kernel_rfl))
  f197 := Tryz.func94.trans (congrArg some (by kernel_rfl))
  f217 := Tryz.func147.trans (congrArg some (by kernel_rfl))
  f218 := Tryz.func95.trans (congrArg some (by kernel_rfl))
  f219 := Tryz.func96.trans (congrArg some (by kernel_rfl))
  f221 := Tryz.func16.trans (congrArg some (by kernel_rfl))
  f224 := Tryz.func149.trans (congrArg some (by kernel_rfl))
  f225 := Tryz.func148.trans (congrArg some (by kernel_rfl))
  f260 := Tryz.func146.trans (congrArg some (by kernel_rfl))
  f266 := Tryz.func185.trans (congrArg some (by kernel_rfl))
  f267 := Tryz.func150.trans (congrArg some (by kernel_rfl))
  f268 := Tryz.func47.trans (congrArg some (by kernel_rfl))
  f314 := Tryz.func186.trans (congrArg some (by kernel_rfl))
  t0 := Tryz.underlying0
  a0 := Tryz.isAgg0
  z0 := Tryz.sizeOf0
  v0 := Tryz.zeroValue0
  t3 := Tryz.underlying3
  a3 := Tryz.isAgg3
  z3 := Tryz.sizeOf3
  v3 := Tryz.zeroValue3
  t4 := Tryz.underlying4
  a4 := Tryz.isAgg4
  z4 := Tryz.sizeOf4
  v4 := Tryz.zeroValue4
  t5 := Tryz.underlying5
  a5 := Tryz.isAgg5
  z5 := Tryz.sizeOf5
  v5 := Tryz.zeroValue5
  t9 := Tryz.underlying9
  a9 := Tryz.isAgg9
  z9 := Tryz.sizeOf9
  v9 := Tryz.zeroValue9
  t21 := Tryz.underlying21
  a21 := Tryz.isAgg21
  z21 := Tryz.sizeOf21
  v21 := Tryz.zeroValue21
  t31 := Tryz.underlying40
  a31 := Tryz.isAgg40
  z31 := Tryz.sizeOf40
  v31 := Tryz.zeroValue40
  t46 := Tryz.underlying233
  a46 := Tryz.isAgg233
  z46 := Tryz.sizeOf233
  v46 := Tryz.zeroValue233
  t51 := Tryz.underlying241
  a51 := Tryz.isAgg241
  z51 := Tryz.sizeOf241
  v51 := Tryz.zeroValue241
  t105 := Tryz.underlying164
  a105 := Tryz.isAgg164
  z105 := Tryz.sizeOf164
  v105 := Tryz.zeroValue164
  t119 := Tryz.underlying303
  a119 := Tryz.isAgg303
  z119 := Tryz.sizeOf303
  t138 := Tryz.underlying305
  a138 := Tryz.isAgg305
  z138 := Tryz.sizeOf305
  v138 := Tryz.zeroValue305
  t139 := Tryz.underlying306
  a139 := Tryz.isAgg306
  z139 := Tryz.sizeOf306
  v139 := Tryz.zeroValue306
  t146 := Tryz.underlying307
  a146 := Tryz.isAgg307
  z146 := Tryz.sizeOf307
  v146 := Tryz.zeroValue307
  g1 := by kernel_rfl
  g3 := by kernel_rfl
  g4 := by kernel_rfl
  i0 := by kernel_rfl
  i3 := by kernel_rfl
  i4 := by kernel_rfl
  i5 := by kernel_rfl
  i9 := by kernel_rfl
  i21 := by kernel_rfl
  i31 := by kernel_rfl
  i46 := by kernel_rfl
  i51 := by kernel_rfl
  i105 := by kernel_rfl
  i138 := by kernel_rfl
  i139 := by kernel_rfl
  i146 := by kernel_rfl
  m1 := by kernel_rfl
  s1_3 := fun w h => Go.Proofs.cell_of_shapedOpen_int (zero := #[.int .i64 0]) (t := 3) h (of_decide_eq_true (by kernel_rfl)) (by kernel_rfl) rfl (by kernel_rfl) (by kernel_rfl) Tryz.underlying3
  m3 := by kernel_rfl
  m4 := by kernel_rfl }
def Tryz.NT : Go.Shelf.Ren := ⟨fun | 5 => 267 | 7 => 323 | n => n, fun | 23 => 289 | 25 => 9 | 3 => 341 | 4 => 4 | 20 => 20 | n => n, fun | n => n⟩
theorem Tryz.NS : Go.Proofs.SlLaysW.n5 Tryz.prog Tryz.NT := {
  mixed := by kernel_rfl
  f5 := ⟨Tryz.f267.name, by decide, Tryz.func267.trans (congrArg some (by kernel_rfl))⟩
  f7 := Tryz.func323.trans (congrArg some (by kernel_rfl))
  t4 := Tryz.underlying4
  a4 := Tryz.isAgg4
  z4 := Tryz.sizeOf4
  v4 := Tryz.zeroValue4
  t20 := Tryz.underlying20
  a20 := Tryz.isAgg20
  z20 := Tryz.sizeOf20
  v20 := Tryz.zeroValue20
  t23 := Tryz.underlying289
  a23 := Tryz.isAgg289
  z23 := Tryz.sizeOf289
  v23 := Tryz.zeroValue289 }
end Go.Proofs
namespace Go.Proofs.YtbmakdofbejlnaaGreatDoor
variable (Fr : Nat → Prop) (w : World)
namespace LibC
open Go Vg T Go.Shelf
def MQ(Fr:Nat→Prop)(w:World):Prop:=sv Tryz.prog Fr w "internal/strconv.uint64pow10" .u64 Lib.pow10Tab
theorem Nw:lJ Tryz.prog 56:=⟨_,Tryz.func56,by kernel_rfl,by kernel_rfl⟩
theorem Nx:lJ Tryz.prog 73:=⟨_,Tryz.func73,by kernel_rfl,by kernel_rfl⟩
theorem Nz:lJ Tryz.prog 10:=⟨_,Tryz.func10,by kernel_rfl,by kernel_rfl⟩
theorem Nt:lJ Tryz.prog 41:=⟨_,Tryz.func41,by kernel_rfl,by kernel_rfl⟩
def jI(n:Int):ByteArray:=⟨(Lib.itoa n).toArray⟩
def sN(xs:List ByteArray)(sep:ByteArray):ByteArray:=⟨(Lib.join (xs.map (·.data.toList)) sep.data.toList).toArray⟩
def numOf(s:ByteArray):Option Int:=match Lib.atoiAll s.data.toList with
 | .ok v=>some v
 | _=>none
structure iE(Fr:Nat→Prop)(w:World):Prop where
 tab:MQ Fr w
 max:Fr (Tryz.C7.g 1)∧∃m,w.cell? ⟨Tryz.C7.g 1,0,none⟩=some (.int .i64 m)
theorem NC{Fr:Nat→Prop}{w w':World}(hk:cB Fr w w'){b:Nat}(hb:Fr b):w'.cell? ⟨b,0,none⟩=w.cell? ⟨b,0,none⟩:=by
 unfold World.cell?;rw[hk.block b hb]
theorem iE.st{X:Cx}{L:List HP}(h:iE X.Fr X.w0){Fr':Nat→Prop}{w:World}(hF:∀b,X.Fr b→Fr' b)(hw:St X L w):iE Fr' w where
 tab:=sv.bL h.tab hF hw.bL
 max:=⟨hF _ h.max.1,by rw[NC hw.bL h.max.1];exact h.max.2⟩
theorem wi(n:Int)(h0:-9223372036854775808≤n)(h1:n≤9223372036854775807)(h:iE Fr w):
  aq Tryz.prog 56 [.int .i64 n] Fr w [] (fun v L=>v=.string (jI n)∧L=[]):=
 aq.Rn Nw (Any.strconv_Itoa Tryz.P7 n h0 h1 w h.tab.is)
theorem PI(bk o c:Nat)(xs:List ByteArray)(sep:ByteArray)(hcells:∀(j:Nat) x,xs[j]?=some x→w.cell? ⟨bk,o+j,none⟩=some (.string x))(hbk:bk<w.heap.size)
  (hN:xs.length≤140737488355328) (hcap:xs.length≤c) (hlen:(Lib.join (xs.map (·.data.toList)) sep.data.toList).length≤140737488355328):
  aq Tryz.prog 73 [.slice (some ⟨bk,o,none⟩) xs.length c,.string sep] Fr w [] (fun v L=>v=.string (sN xs sep)∧L=[]):=
 aq.I4 Nx (Calls.mono (Any.strings_Join Tryz.P1 Tryz.MK bk o c xs sep w hcells hbk hN hcap hlen) fun e w' ⟨h1,h2⟩=>⟨h1,h2,mn.any⟩)
theorem SZ(s sep:ByteArray)(hs:s.size<4294967281)(h1:1≤sep.size)(h:iE Fr w):
  aq Tryz.prog 10 [.string s,.string sep] Fr w [] (fun v L=>∃b,v=.slice (some ⟨b,0,none⟩) (Lib.countB s sep+1) (Lib.countB s sep+1)∧L=[pt b ((Lib.splitB sep 0 (Lib.countB s sep) s).map Value.string) 9]):=by
 obtain⟨_,m,hm⟩:=h.max
 refine⟨Nz,fun hl hsat=>Calls.mono (Any.strings_Split Tryz.P0 ym s sep m w hs hm h1) fun e w' ⟨h2,h3⟩=>?_⟩
 subst h3
 exact⟨_,_,h2,⟨_,Z,Z⟩,Sat.alloc hl _ _ ⟨rfl,heap_alloc_new w _⟩ hsat,cB.alloc hl _⟩
theorem M6(s:ByteArray)(hs:s.size≤281474976710656){n:Int}(h:numOf s=some n):
  aq Tryz.prog 41 [.string s] Fr w [] (fun v L=>v=.tuple #[.int .i64 n,.nilIface]∧L=[]):=by
 refine⟨Nt,fun hl hsat=>?_⟩
 unfold numOf at h
 cases ha:Lib.atoiAll s.data.toList with
 | ok v=>
  rw[ha] at h
  cases h
  refine Calls.mono (Any.strconv_Atoi_ok Tryz.P3 s yd n ha w) fun e w' ⟨h1,h2⟩=>⟨_,_,h1,⟨rfl,Z⟩,Sat.nil,HR hl ?_ mn.any⟩
  rcases h2 with rfl | ⟨t,rfl⟩
  ·exact RowKit.Below.refl _ _
  ·exact Go.Lib.below_freeze (show RowKit.Below w.heap.size w (w.drew.alloc _) from⟨rfl,Z,Z,by show w.heap.size≤(w.heap.push _).size;simp,fun j hj=>heap_alloc_old w.drew _ hj⟩) (NR _) _
 | _=>rw[ha] at h;cases h
end LibC
end Go.Proofs.YtbmakdofbejlnaaGreatDoor
