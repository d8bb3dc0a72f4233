/- Texts of the proof, put together and shortened. No condition. -/
import Derived.Test.YtmghpgpfeabghaaGreatZe0
set_option maxRecDepth 100000
set_option maxHeartbeats 16000000
set_option linter.unusedVariables false
set_option linter.unusedSectionVars false
set_option linter.unusedSimpArgs false
namespace Go.Proofs.YtmghpgpfeabghaaGreat
variable (Fr : Nat → Prop) (w : World)
namespace Vg
open Go
abbrev Env:=List (Nat×Value)
def look:Env→Nat→Option Value
 | [],_=>none
 | (s,v)::r,t=>bif Nat.beq s t then some v else look r t
def ev(e:Env):Operand→Option Value
 | .tmp t=>look e t
 | .const v=>some v
 | .global g=>some (.pointer (some ⟨g,0,none⟩))
 | .func f=>some (.func (.func f) #[] #[])
def evs(e:Env):List Operand→Option (List Value)
 | []=>some []
 | x::r=>match ev e x,evs e r with
  | some v,some vs=>some (v::vs)
  | _,_=>none
structure Agr(n:Nat)(a:Act)(e:Env):Prop where
 size:a.tmps.size=n
 defers:a.defers=[]
 at_:∀t v,look e t=some v→a.tmps.getD t undef=v
theorem Agr.put{n:Nat}{a:Act}{e:Env}(h:Agr n a e){d:Nat}(hd:Nat.blt d n=true)(v:Value):Agr n (a.put (some d) v) ((d,v)::e):=by
 have hd':d<a.tmps.size:=by rw[h.size];exact Nat.blt_eq.mp hd
 refine⟨by simp[Act.put,h.size],by simp[Act.put,h.defers],fun t u ht=>?_⟩
 simp only[look] at ht
 cases hb:Nat.beq d t
 ·rw[hb] at ht
  have hne:d≠t:=Nat.ne_of_beq_eq_false hb
  have:=h.at_ t u ht
  simpa[Act.put,Array.getElem?_setIfInBounds_ne hne] using this
 ·rw[hb] at ht
  have he:d=t:=Nat.eq_of_beq_eq_true hb
  subst he
  simp only[cond_true,Option.some.injEq] at ht
  subst ht
  simp[Act.put,hd']
def putE(dst:Option Tmp)(v:Value)(e:Env):Env:=
 match dst with
 | some d=>(d,v)::e
 | none=>e
def dstOk(n:Nat):Option Tmp→Bool
 | some d=>Nat.blt d n
 | none=>true
theorem Agr.putE{n:Nat}{a:Act}{e:Env}(h:Agr n a e){dst:Option Tmp}(hd:dstOk n dst=true)(v:Value):Agr n (a.put dst v) (putE dst v e):=by
 cases dst with
 | none=>exact h
 | some d=>exact h.put hd v
def Sub(e' e:Env):Prop:=∀t v,look e' t=some v→look e t=some v
theorem Sub.nil(e:Env):Sub [] e:=fun _ _ h=>by cases h
theorem Sub.cons{e' e:Env}{t:Nat}{v:Value}(h:look e t=some v)(hs:Sub e' e):Sub ((t,v)::e') e:=fun s u hu=>by
 simp only[look] at hu
 cases hb:Nat.beq t s
 ·rw[hb] at hu;exact hs s u hu
 ·rw[hb] at hu
  have he:t=s:=Nat.eq_of_beq_eq_true hb
  subst he
  simp only[cond_true,Option.some.injEq] at hu
  subst hu;exact h
theorem sbZ{e' e:Env}(h:Sub e' e:=by(repeat(first|exact Sub.nil _|refine Sub.cons rfl ?_))):Sub e' e:=h
theorem Sub.int{e' e:Env}{t:Nat}{k:IntKind}{a b:Int}(h:look e t=some (.int k a))(hab:a=b)(hs:Sub e' e):Sub ((t,.int k b)::e') e:=by
 subst hab;exact Sub.cons h hs
theorem Agr.sub{n:Nat}{a:Act}{e e':Env}(h:Agr n a e)(hs:Sub e' e):Agr n a e':=⟨h.size,h.defers,fun t v ht=>h.at_ t v (hs t v ht)⟩
theorem Agr.ev{n:Nat}{a:Act}{e:Env}(h:Agr n a e){x:Operand}{v:Value}(hx:ev e x=some v):a.eval x=v:=by
 cases x with
 | tmp t=>exact h.at_ t v hx
 | const u=>simpa[Vg.ev,Act.eval] using hx
 | global g=>simpa[Vg.ev,Act.eval] using hx
 | func f=>simpa[Vg.ev,Act.eval] using hx
theorem Agr.evs{n:Nat}{a:Act}{e:Env}(h:Agr n a e):∀{xs:List Operand} {vs:List Value},evs e xs=some vs→xs.map a.eval=vs
 | [],vs,hx=>by simpa[Vg.evs] using hx
 | x::r,vs,hx=>by
  simp only[Vg.evs] at hx
  split at hx
  ·rename_i v us hv hus
   simp only[Option.some.injEq] at hx
   subst hx
   simp[h.ev hv,Agr.evs h hus]
  ·cases hx
structure HP where
 sat:List Nat→World→Prop
 loc:∀ids w w',(∀b∈ids,w'.heap[b]?=w.heap[b]?)→sat ids w→sat ids w'
def Sats:List HP→List Nat→World→Prop
 | [],F,_=>F=[]
 | H::L,F,w=>∃i G,F=i++G∧H.sat i w∧Sats L G w
theorem Sats.loc:∀{L:List HP} {F:List Nat} {w w':World},(∀b∈F,w'.heap[b]?=w.heap[b]?)→Sats L F w→Sats L F w'
 | [],_,_,_,_,h=>h
 | H::L,F,w,w',hb,⟨i,G,hF,hi,hG⟩=>by
  subst hF
  exact⟨i,G,rfl,H.loc i w w' (fun b hb'=>hb b (by simp[hb'])) hi,Sats.loc (fun b hb'=>hb b (by simp[hb'])) hG⟩
theorem Sats.append:∀{L M:List HP} {F:List Nat} {w:World},Sats (L++M) F w↔∃G K,F=G++K∧Sats L G w∧Sats M K w
 | [],M,F,w=>by
  constructor
  ·intro h;exact⟨[],F,rfl,rfl,h⟩
  ·rintro⟨G,K,rfl,hG,hK⟩;cases hG;exact hK
 | H::L,M,F,w=>by
  simp only[List.cons_append,Sats]
  constructor
  ·rintro⟨i,G,rfl,hi,hG⟩
   obtain⟨G1,K,rfl,h1,h2⟩:=Sats.append.1 hG
   exact⟨i++G1,K,by simp,⟨i,G1,rfl,hi,h1⟩,h2⟩
  ·rintro⟨_,K,rfl,⟨i,G,rfl,hi,hG⟩,hK⟩
   exact⟨i,G++K,by simp,hi,Sats.append.2 ⟨G,K,rfl,hG,hK⟩⟩
theorem Sats.perm{L M:List HP}(hp:L.Perm M):∀{F:List Nat} {w:World},Sats L F w→∃G,F.Perm G∧Sats M G w:=by
 induction hp with
 | nil=>intro F w h;exact⟨F,.refl _,h⟩
 | cons x _ ih=>
  rintro F w ⟨i,G,rfl,hi,hG⟩
  obtain⟨K,hK,hs⟩:=ih hG
  exact⟨i++K,hK.append_left i,i,K,rfl,hi,hs⟩
 | swap x y l=>
  rintro F w ⟨i,G,rfl,hi,j,K,rfl,hj,hK⟩
  refine⟨j++(i++K),?_,j,i++K,rfl,hj,i,K,rfl,hi,hK⟩
  rw[←List.append_assoc,←List.append_assoc]
  exact List.Perm.append_right K List.perm_append_comm
 | trans _ _ ih1 ih2=>
  intro F w h
  obtain⟨G,hG,h1⟩:=ih1 h
  obtain⟨K,hK,h2⟩:=ih2 h1
  exact⟨K,hG.trans hK,h2⟩
def Sat(Fr:Nat→Prop)(L:List HP)(w:World):Prop:=∃F,Sats L F w∧F.Nodup∧∀b∈F,¬Fr b∧b<w.heap.size
theorem Sat.perm{Fr:Nat→Prop}{L M:List HP}{w:World}(hp:L.Perm M)(h:Sat Fr L w):Sat Fr M w:=by
 obtain⟨F,hs,hn,hb⟩:=h
 obtain⟨G,hG,hs'⟩:=hs.perm hp
 exact⟨G,hs',hG.nodup_iff.1 hn,fun b h=>hb b (hG.mem_iff.2 h)⟩
theorem Sat.nil{Fr:Nat→Prop}{w:World}:Sat Fr [] w:=⟨[],rfl,.nil,fun _ h=>by cases h⟩
theorem Sat.tail{Fr:Nat→Prop}{H:HP}{L:List HP}{w:World}(h:Sat Fr (H::L) w):Sat Fr L w:=by
 obtain⟨F,⟨i,G,rfl,_,hG⟩,hn,hb⟩:=h
 exact⟨G,hG,(List.nodup_append.1 hn).2.1,fun b h=>hb b ya⟩
structure Keep(Fr:Nat→Prop)(w w':World):Prop where
 os:w'.os=w.os
 tape:w'.tape=w.tape
 output:w'.output=w.output
 size:w.heap.size≤w'.heap.size
 block:∀b,Fr b→w'.heap[b]?=w.heap[b]?
 drawn:w.drawn≤w'.drawn
theorem Keep.refl:Keep Fr w w:=⟨rfl,rfl,rfl,NR _,fun _ _=>rfl,NR _⟩
theorem Keep.trans{Fr:Nat→Prop}{a b c:World}(h:Keep Fr a b)(k:Keep Fr b c):Keep Fr a c:=
 ⟨k.os.trans h.os,k.tape.trans h.tape,k.output.trans h.output,Nat.le_trans h.size k.size,fun b hb=>(k.block b hb).trans (h.block b hb),Nat.le_trans h.drawn k.drawn⟩
theorem Keep.mono{Fr Fr':Nat→Prop}{a b:World}(h:Keep Fr' a b)(hf:∀x,Fr x→Fr' x):Keep Fr a b:=⟨h.os,h.tape,h.output,h.size,fun x hx=>h.block x (hf x hx),h.drawn⟩
theorem Keep.drew:Keep Fr w { w with drawn:=w.drawn+1 }:=⟨rfl,rfl,rfl,NR _,fun _ _=>rfl,Nat.le_succ _⟩
theorem Keep.alloc{Fr:Nat→Prop}{w:World}(hf:∀b,Fr b→b<w.heap.size)(o:Obj):Keep Fr w (w.alloc o):=
 ⟨rfl,rfl,rfl,by simp,fun b hb=>heap_alloc_old w o (h:=hf b hb),NR _⟩
theorem Keep.below{w w':World}(h:Keep (fun b=>b<w.heap.size) w w'):RowKit.Below w.heap.size w w':=⟨h.os,h.tape,h.output,h.size,h.block⟩
theorem Sat.heap{Fr:Nat→Prop}{L:List HP}{w w':World}(hh:w'.heap=w.heap)(h:Sat Fr L w):Sat Fr L w':=by
 obtain⟨F,hs,hn,hb⟩:=h
 exact⟨F,hs.loc (fun b _=>by rw[hh]),hn,fun b h=>by rw[hh];exact hb b h⟩
theorem Sat.alloc{Fr:Nat→Prop}{L:List HP}{w:World}(hf:∀b,Fr b→b<w.heap.size)(o:Obj)(H:HP)(hH:H.sat [w.heap.size] (w.alloc o))(h:Sat Fr L w):Sat Fr (H::L) (w.alloc o):=by
 obtain⟨F,hs,hn,hb⟩:=h
 refine⟨[w.heap.size]++F,⟨_,F,rfl,hH,hs.loc fun b hb'=>heap_alloc_old w o (h:=(hb b hb').2)⟩,?_,?_⟩
 ·rw[List.nodup_append]
  refine⟨by simp,hn,fun x hx y hy he=>?_⟩
  simp at hx;subst hx;subst he
  exact Nat.lt_irrefl _ (hb _ hy).2
 ·intro b hb'
  simp only[List.mem_append,List.mem_singleton] at hb'
  rcases hb' with rfl | hb'
  ·exact⟨fun h=>Nat.lt_irrefl _ (hf _ h),by simp⟩
  ·exact⟨(hb b hb').1,by have:=(hb b hb').2;simp;omega⟩
def pt(b:Nat)(cs:List Value)(t:TypeId):HP:=
 ⟨fun ids w=>ids=[b]∧w.heap[b]?=some (.cells cs.toArray t (0,0)),fun _ _ _ h hs=>⟨hs.1,(h b yb).trans hs.2⟩⟩
def hpure(φ:Prop):HP:=⟨fun ids _=>ids=[]∧φ,fun _ _ _ _ h=>h⟩
def hex{α:Type}(f:α→HP):HP:=⟨fun ids w=>∃x,(f x).sat ids w,fun ids w w' hb ⟨x,hx⟩=>⟨x,(f x).loc ids w w' hb hx⟩⟩
def hsep(L:List HP):HP:=⟨fun ids w=>Sats L ids w,fun _ _ _ hb h=>h.loc hb⟩
inductive Und where
 | int (k:IntKind) | bool | string | ptr (e:Nat) | slice (e:Nat) | array (len e:Nat) | struct (fs:List (Nat×Nat)) | other
structure TI where
 und:Und
 size:Nat
 bytes:Nat
 zero:Value
 zs:List Value:=[zero]
def Und.agg:Und→Bool
 | .array _ _=>true
 | .struct _=>true
 | _=>false
def undOf(P:Program)(t:Nat):Option Und:=
 match P.underlying t with
 | some (.int k)=>some (.int k)
 | some .bool=>some .bool
 | some .string=>some .string
 | some (.pointer e)=>some (.ptr e)
 | some (.slice e)=>some (.slice e)
 | some (.array n e)=>some (.array n e)
 | some (.struct fs)=>some (.struct (fs.toList.map fun f=>(f.offset,((P.info? f.type).map (·.size)).getD 0)))
 | some _=>some .other
 | none=>none
structure TIok(P:Program)(t:Nat)(ti:TI):Prop where
 und:undOf P t=some ti.und
 info:(P.info? t).map (fun i=>(i.size,i.bytes,i.zero))=some (ti.size,ti.bytes,some ti.zero)
 zero:ti.zero.cells=ti.zs.toArray
 len:ti.zs.length=ti.size
abbrev Tab:=List (Nat×TI)
def TabOk(P:Program)(tab:Tab):Prop:=∀p∈tab,TIok P p.1 p.2
def tyLook:Tab→Nat→Option TI
 | [],_=>none
 | (s,v)::r,t=>bif Nat.beq s t then some v else tyLook r t
theorem TabOk.look{P:Program}:∀{tab:Tab},TabOk P tab→∀{t:Nat} {ti:TI},tyLook tab t=some ti→TIok P t ti
 | [],_,_,_,h=>by cases h
 | (s,v)::r,ok,t,ti,h=>by
  simp only[tyLook] at h
  cases hb:Nat.beq s t
  ·rw[hb] at h;exact TabOk.look (tab:=r) (fun p hp=>ok p (List.mem_cons_of_mem _ hp)) h
  ·rw[hb] at h
   have he:s=t:=Nat.eq_of_beq_eq_true hb
   subst he
   simp only[cond_true,Option.some.injEq] at h
   subst h
   exact ok _ (List.mem_cons_self ..)
structure Cx where
 P:Program
 tab:Tab
 ok:TabOk P tab
 n:Nat
 Fr:Nat→Prop
 w0:World
structure St(X:Cx)(L:List HP)(w:World):Prop where
 sat:Sat X.Fr L w
 keep:Keep X.Fr X.w0 w
 low:∀b,X.Fr b→b<X.w0.heap.size
theorem St.lowW{X:Cx}{L:List HP}{w:World}(h:St X L w):∀b,X.Fr b→b<w.heap.size:=fun b hb=>Nat.lt_of_lt_of_le (h.low b hb) h.keep.size
theorem St.heap{X:Cx}{L:List HP}{w w':World}(h:St X L w)(hh:w'.heap=w.heap)(ho:w'.os=w.os)(ht:w'.tape=w.tape)(hu:w'.output=w.output)(hd:w.drawn≤w'.drawn):St X L w':=
 ⟨h.sat.heap hh,⟨ho.trans h.keep.os,ht.trans h.keep.tape,hu.trans h.keep.output,by rw[hh];exact h.keep.size,fun b hb=>by rw[hh];exact h.keep.block b hb,Nat.le_trans h.keep.drawn hd⟩,h.low⟩
theorem St.drew{X:Cx}{L:List HP}{w:World}(h:St X L w):St X L { w with drawn:=w.drawn+1 }:=h.heap rfl rfl rfl rfl (Nat.le_succ _)
def Ent(X:Cx)(L M:List HP):Prop:=∀w,St X L w→St X M w
abbrev GS:=List (Nat×Bool)
def gLook:GS→Nat→Option Bool
 | [],_=>none
 | (s,v)::r,t=>bif Nat.beq s t then some v else gLook r t
def GOk(G:GS)(a:Act):Prop:=∀t b,gLook G t=some b→a.tmps[t]?=some (.bool b)
def gFree(G:GS):Option Tmp→Bool
 | none=>true
 | some d=>match gLook G d with
  | none=>true
  | some _=>false
theorem GOk.nil(a:Act):GOk [] a:=fun _ _ h=>by cases h
theorem GOk.put{G:GS}{a:Act}(h:GOk G a){dst:Option Tmp}(hf:gFree G dst=true)(v:Value):GOk G (a.put dst v):=fun t b ht=>by
 cases dst with
 | none=>exact h t b ht
 | some d=>
  have hne:d≠t:=fun he=>by subst he;simp[gFree,ht] at hf
  simp only[Act.put]
  rw[Array.getElem?_setIfInBounds_ne hne]
  exact h t b ht
def gB:Bool→Bool→Bool
 | true,true=>true
 | false,false=>true
 | _,_=>false
def gOn(ops:Array Oper)(G:GS):Option (Nat×Bool)→Option Bool
 | none=>some true
 | some (j,want)=>match ops.toList[j]? with
  | some oj=>match oj.dst with
   | some d=>match gLook G d with
    | some b=>some (gB b want)
    | none=>none
   | none=>none
  | none=>none
theorem gOn_wanted{ops:Array Oper}{G:GS}{a:Act}{o:Oper}{b:Bool}(hG:GOk G a)(h:gOn ops G o.guard=some b):Region.wanted o (yielded ops a.tmps)=b:=by
 unfold Region.wanted
 cases hg:o.guard with
 | none=>rw[hg] at h;simpa[gOn] using h
 | some jw=>
  obtain⟨j,want⟩:=jw
  rw[hg] at h
  simp only[gOn] at h
  cases hj:ops.toList[j]? with
  | none=>rw[hj] at h;cases h
  | some oj=>
   rw[hj] at h
   cases hd:oj.dst with
   | none=>simp[hd] at h
   | some d=>
    simp only[hd] at h
    cases hl:gLook G d with
    | none=>rw[hl] at h;cases h
    | some c=>
     rw[hl] at h
     have hy:yielded ops a.tmps j=some c:=by
      unfold yielded
      have hj':ops[j]?=some oj:=by simpa using hj
      simp[hj',hd,hG d c hl]
     simp only[hy]
     cases c<;>cases want<;>simp_all[gB]
def wR(ro:Option Nat):Fence:={ Fence.wide with round:=ro }
def VC(X:Cx)(c:Code)(e:Env)(L:List HP)(Q:Exit→Env→List HP→Prop):Prop:=
 ∀ro a w,Agr X.n a e→St X L w→c.wpIn (wR ro) 0 X.P (fun x a' w'=>∃e' L',Agr X.n a' e'∧St X L' w'∧Q x e' L') a w
def VO(X:Cx)(ops:Array Oper)(G:GS)(l:List Oper)(e:Env)(L:List HP)(K:Env→List HP→Prop):Prop:=
 ∀(Q':Exit→Act→World→Prop),(∀e' L' a' w',Agr X.n a' e'→St X L' w'→K e' L'→Q' .normal a' w') →
  ∀ro a w,Agr X.n a e→GOk G a→St X L w→wpListIn (wR ro) 0 X.P ops Q' l a w
def Callable(P:Program)(f:FuncId):Prop:=∃fn,P.funcs[f]?=some fn∧fn.body.isNone=false∧(fn.name == "runtime.NumGoroutine")=false
structure Tri(P:Program)(f:FuncId)(args:List Value)(Fr:Nat→Prop)(w:World)(L:List HP)(R:Value→List HP→Prop):Prop where
 callable:Callable P f
 calls:(∀b,Fr b→b<w.heap.size)→Sat Fr L w→Calls P f args.toArray w fun e w'=>∃v L',e=.returned v∧R v L'∧Sat Fr L' w'∧Keep Fr w w'
def OpT(X:Cx)(op:Op)(e:Env)(L:List HP)(M:Value→List HP→Prop):Prop:=
 ∀a w,Agr X.n a e→St X L w→∀dst ty pos after guard,
  (∃v w' L',(execOp a.eval ⟨dst,op,ty,pos,after,guard⟩).run X.P w=.ok (.value v) w'∧M v L'∧St X L' w') ∨
  (∃w' L',(execOp a.eval ⟨dst,op,ty,pos,after,guard⟩).run X.P w=.ok .skip w'∧M undef L'∧St X L' w') ∨
  (∃f args,(execOp a.eval ⟨dst,op,ty,pos,after,guard⟩).run X.P w=.ok (.enter f args) w ∧
   Calls X.P f args w fun en w'=>∃v L',en=.returned v∧M v L'∧St X L' w')
theorem not_defer{X:Cx}{op:Op}{e:Env}{L:List HP}{M:Value→List HP→Prop}(h:OpT X op e L M){a:Act}{w:World}(ha:Agr X.n a e)(hw:St X L w):∀c,op≠.defer c:=by
 rintro c rfl
 have key:∀dst ty pos after guard x w',(execOp a.eval ⟨dst,.defer c,ty,pos,after,guard⟩).run X.P w=.ok x w'→∃d,x=.defer d:=fun dst ty pos after guard x w' hr=>by
  have e:execOp a.eval ⟨dst,.defer c,ty,pos,after,guard⟩=(do pure (.defer (←resolve a.eval c ty))):=rfl
  rw[e,Sem.run_bind] at hr
  cases h2:(resolve a.eval c ty).run X.P w with
  | ok d w2=>rw[h2] at hr;cases hr;exact⟨d,rfl⟩
  | halt y w2=>rw[h2] at hr;cases hr
 rcases h a w ha hw none 0 "" #[] none with ⟨v,w',L',hr,-⟩ | ⟨w',L',hr,-⟩ | ⟨f,args,hr,-⟩
 ·obtain⟨d,h⟩:=key _ _ _ _ _ _ _ hr;cases h
 ·obtain⟨d,h⟩:=key _ _ _ _ _ _ _ hr;cases h
 ·obtain⟨d,h⟩:=key _ _ _ _ _ _ _ hr;cases h
theorem semAt_of(ro:Option Nat)(ρ:Operand→Value)(o:Oper)(h:∀c,o.op≠.defer c):o.semAt (wR ro).round ρ=execOp ρ o:=by
 cases ro with
 | none=>rfl
 | some l=>exact Oper.semAt_some l ρ o h
theorem calls_wR{ro:Option Nat}{n:Nat}{P:Program}{f:FuncId}{args:Array Value}{w:World}{R:Ending→World→Prop}(h:Calls P f args w R):CallsIn (wR ro) n P f args w R:=
 show CallsIn Fence.wide n P f args w R from callsIn_wide.2 h
theorem OpT.wp{X:Cx}{o:Oper}{e:Env}{L:List HP}{M:Value→List HP→Prop}(h:OpT X o.op e L M){a:Act}{w:World}(ha:Agr X.n a e)(hw:St X L w){ro:Option Nat}
  {next:Act→World→Prop} {Q:Exit→Act→World→Prop} (hn:∀v L' w',M v L'→St X L' w'→next (a.put o.dst v) w'):o.wpIn (wR ro) 0 X.P a w next Q:=by
 refine⟨fun _ _=>trivial,?_⟩
 rw[semAt_of ro _ _ (not_defer h ha hw)]
 rcases h a w ha hw o.dst o.type o.pos o.after o.guard with ⟨v,w',L',hr,hm,hs⟩ | ⟨w',L',hr,hm,hs⟩ | ⟨f,args,hr,hc⟩
 ·rw[hr];exact hn v L' w' hm hs
 ·rw[hr];exact hn undef L' w' hm hs
 ·rw[hr]
  refine⟨(fun h=>by cases h),calls_wR (Calls.mono hc fun en w' ⟨v,L',he,hm,hs⟩=>?_)⟩
  subst he
  exact hn v L' w' hm hs
theorem VO.op{X:Cx}{ops:Array Oper}{G:GS}{o:Oper}{l:List Oper}{e:Env}{L:List HP}{K:Env→List HP→Prop}{M:Value→List HP→Prop}
  (hg:gOn ops G o.guard=some true) (hd:dstOk X.n o.dst=true) (hf:gFree G o.dst=true) (h:OpT X o.op e L M)
  (hk:∀v L',M v L'→VO X ops G l (putE o.dst v e) L' K):VO X ops G (o::l) e L K:=by
 intro Q' hQ ro a w ha hG hw
 unfold wpListIn
 rw[if_pos (gOn_wanted hG hg)]
 refine h.wp ha hw fun v L' w' hm hs=>?_
 exact hk v L' hm Q' hQ _ _ _ (ha.putE hd v) (hG.put hf v) hs
theorem VO.off{X:Cx}{ops:Array Oper}{G:GS}{o:Oper}{l:List Oper}{e:Env}{L:List HP}{K:Env→List HP→Prop}
  (hg:gOn ops G o.guard=some false) (hd:dstOk X.n o.dst=true) (hf:gFree G o.dst=true)
  (hk:VO X ops G l (putE o.dst undef e) L K):VO X ops G (o::l) e L K:=by
 intro Q' hQ ro a w ha hG hw
 unfold wpListIn
 rw[if_neg (by rw[gOn_wanted hG hg];simp)]
 exact xcv
theorem VO.nil{X:Cx}{ops:Array Oper}{G:GS}{e:Env}{L:List HP}{K:Env→List HP→Prop}(h:K e L):VO X ops G [] e L K:=
 fun _ hQ _ _ _ ha _ hw=>hQ _ _ _ _ ha hw h
theorem VO.split{X:Cx}{ops:Array Oper}{G:GS}{l:List Oper}{e:Env}{L:List HP}{K:Env→List HP→Prop}(d:Nat){b:Bool}(hb:look e d=some (.bool b))(hd:Nat.blt d X.n=true)
  (ht:b=true→VO X ops ((d,true)::G) l ((d,.bool true)::e) L K) (hf:b=false→VO X ops ((d,false)::G) l ((d,.bool false)::e) L K):VO X ops G l e L K:=by
 intro Q' hQ ro a w ha hG hw
 have hs:a.tmps[d]?=some (.bool b):=by
  have:=ha.at_ d _ hb
  have hlt:d<a.tmps.size:=by rw[ha.size];exact Nat.blt_eq.mp hd
  simpa[hlt] using this
 have key:∀c,b=c→Agr X.n a ((d,.bool c)::e)∧GOk ((d,c)::G) a:=fun c hc=>by
  subst hc
  refine⟨⟨ha.size,ha.defers,fun t u ht=>?_⟩,fun t u ht=>?_⟩
  ·simp only[look] at ht
   cases hq:Nat.beq d t
   ·rw[hq] at ht;exact ha.at_ t u ht
   ·rw[hq] at ht
    have:=Nat.eq_of_beq_eq_true hq
    subst this
    simp only[cond_true,Option.some.injEq] at ht
    subst ht;exact ha.at_ _ _ hb
  ·simp only[gLook] at ht
   cases hq:Nat.beq d t
   ·rw[hq] at ht;exact hG t u ht
   ·rw[hq] at ht
    have:=Nat.eq_of_beq_eq_true hq
    subst this
    simp only[cond_true,Option.some.injEq] at ht
    subst ht;exact hs
 cases b
 ·exact hf rfl Q' hQ ro a w (key _ rfl).1 (key _ rfl).2 hw
 ·exact ht rfl Q' hQ ro a w (key _ rfl).1 (key _ rfl).2 hw
theorem VO.ent{X:Cx}{ops:Array Oper}{G:GS}{l:List Oper}{e:Env}{L L':List HP}{K:Env→List HP→Prop}(hs:Ent X L L')(h:VO X ops G l e L' K):VO X ops G l e L K:=
 fun Q' hQ ro a w ha hG hw=>h Q' hQ ro a w ha hG (hs w hw)
theorem VC.mono{X:Cx}{c:Code}{e:Env}{L:List HP}{Q Q':Exit→Env→List HP→Prop}(h:VC X c e L Q)(hq:∀x e L,Q x e L→Q' x e L):VC X c e L Q':=
 fun ro a w ha hw=>wpIn_mono (h ro a w ha hw) fun _ _ _ ⟨e',L',h1,h2,h3⟩=>⟨e',L',h1,h2,hq _ _ _ h3⟩
theorem VC.sub{X:Cx}{c:Code}{e e':Env}{L:List HP}{Q:Exit→Env→List HP→Prop}(hs:Sub e' e)(h:VC X c e' L Q):VC X c e L Q:=
 fun ro a w ha hw=>h ro a w (ha.sub hs) hw
theorem VC.ent{X:Cx}{c:Code}{e:Env}{L L':List HP}{Q:Exit→Env→List HP→Prop}(hs:Ent X L L')(h:VC X c e L' Q):VC X c e L Q:=
 fun ro a w ha hw=>h ro a w ha (hs w hw)
def seqQ(X:Cx)(c:Code)(Q:Exit→Env→List HP→Prop):Exit→Env→List HP→Prop
 | .normal,e,L=>VC X c e L Q
 | x,e,L=>Q x e L
def blockQ(id:Nat)(Q:Exit→Env→List HP→Prop):Exit→Env→List HP→Prop
 | .exit j,e,L=>bif Nat.beq j id then Q .normal e L else Q (.exit j) e L
 | x,e,L=>Q x e L
theorem VC.skip{X:Cx}{e:Env}{L:List HP}{Q:Exit→Env→List HP→Prop}(h:Q .normal e L):VC X .skip e L Q:=fun _ _ _ ha hw=>wpIn_skip ⟨e,L,ha,hw,h⟩
theorem VC.label{X:Cx}{l:Nat}{e:Env}{L:List HP}{Q:Exit→Env→List HP→Prop}(h:Q .normal e L):VC X (.label l) e L Q:=fun _ _ _ ha hw=>wpIn_label ⟨e,L,ha,hw,h⟩
theorem VC.exit{X:Cx}{id:Nat}{e:Env}{L:List HP}{Q:Exit→Env→List HP→Prop}(h:Q (.exit id) e L):VC X (.exit id) e L Q:=fun _ _ _ ha hw=>wpIn_exit ⟨e,L,ha,hw,h⟩
theorem VC.ret{X:Cx}{e:Env}{L:List HP}{Q:Exit→Env→List HP→Prop}(h:Q .ret e L):VC X .ret e L Q:=fun _ _ _ ha hw=>wpIn_ret ⟨e,L,ha,hw,h⟩
theorem VC.seq{X:Cx}{b c:Code}{e:Env}{L:List HP}{Q:Exit→Env→List HP→Prop}(h:VC X b e L (seqQ X c Q)):VC X (.seq b c) e L Q:=by
 intro ro a w ha hw
 refine wpIn_seq (wpIn_mono (h ro a w ha hw) fun x a' w' ⟨e',L',h1,h2,h3⟩=>?_)
 cases x with
 | normal=>exact h3 ro a' w' h1 h2
 | exit id=>exact⟨e',L',h1,h2,h3⟩
 | goto l=>exact⟨e',L',h1,h2,h3⟩
 | ret=>exact⟨e',L',h1,h2,h3⟩
 | panic ch=>exact⟨e',L',h1,h2,h3⟩
 | outgrown=>exact⟨e',L',h1,h2,h3⟩
theorem VC.cond{X:Cx}{x:Operand}{b c:Code}{e:Env}{L:List HP}{Q:Exit→Env→List HP→Prop}{t:Bool}(hx:ev e x=some (.bool t))
  (ht:t=true→VC X b e L Q) (hf:t=false→VC X c e L Q):VC X (.cond x b c) e L Q:=
 fun ro a w ha hw=>wpIn_cond_split (ha.ev hx) (fun h=>ht h ro a w ha hw) (fun h=>hf h ro a w ha hw)
theorem VC.block{X:Cx}{id:Nat}{c:Code}{e:Env}{L:List HP}{Q:Exit→Env→List HP→Prop}(h:VC X c e L (blockQ id Q)):VC X (.block id c) e L Q:=by
 intro ro a w ha hw
 refine wpIn_block (wpIn_mono (h ro a w ha hw) fun x a' w' ⟨e',L',h1,h2,h3⟩=>?_)
 cases x with
 | exit j=>
  simp only[Exit.inBlock]
  simp only[blockQ] at h3
  cases hb:Nat.beq j id
  ·rw[hb] at h3
   rw[if_neg (Nat.ne_of_beq_eq_false hb)]
   exact⟨e',L',h1,h2,h3⟩
  ·rw[hb] at h3
   rw[if_pos (Nat.eq_of_beq_eq_true hb)]
   exact⟨e',L',h1,h2,h3⟩
 | normal=>exact⟨e',L',h1,h2,h3⟩
 | goto l=>exact⟨e',L',h1,h2,h3⟩
 | ret=>exact⟨e',L',h1,h2,h3⟩
 | panic ch=>exact⟨e',L',h1,h2,h3⟩
 | outgrown=>exact⟨e',L',h1,h2,h3⟩
theorem VC.region{X:Cx}{id:Nat}{l:List Oper}{e:Env}{L:List HP}{Q:Exit→Env→List HP→Prop}(h:VO X l.toArray [] l e L (Q .normal)):VC X (.region id l.toArray false) e L Q:=
 fun ro a w ha hw=>wpIn_region_lit (h _ (fun e' L' _ _ h1 h2 h3=>⟨e',L',h1,h2,h3⟩) ro a w ha (GOk.nil a) hw)
def loopQ(X:Cx){σ:Type}(E:σ→Env)(H:σ→List HP)(I:σ→Prop)(μ:σ→Nat)(s:σ)(Q:Exit→Env→List HP→Prop):Exit→Env→List HP→Prop
 | .normal,e,L=>∃s',I s'∧μ s'<μ s∧Sub (E s') e∧Ent X L (H s')
 | x,e,L=>Q x e L
theorem VC.loop{X:Cx}{σ:Type}(E:σ→Env)(H:σ→List HP)(I:σ→Prop)(μ:σ→Nat)(s0:σ){c:Code}{e:Env}{L:List HP}{Q:Exit→Env→List HP→Prop}
  (h0:I s0) (he:Sub (E s0) e) (hl:Ent X L (H s0)) (round:∀s,I s→VC X c (E s) (H s) (loopQ X E H I μ s Q)):VC X (.loop c) e L Q:=by
 intro ro a w ha hw
 refine wpIn_loop_ghost (fun m a w=>∃s,μ s=m∧I s∧Agr X.n a (E s)∧St X (H s) w) (μ s0) ⟨s0,rfl,h0,ha.sub he,hl _ hw⟩ ?_
 rintro m a w ⟨s,rfl,hI,ha,hw⟩
 refine wpIn_mono (round s hI ro a w ha hw) fun x a' w' ⟨e',L',h1,h2,h3⟩=>?_
 cases x with
 | normal=>
  obtain⟨s',hI',hlt,hE,hH⟩:=h3
  exact⟨μ s',hlt,s',rfl,hI',h1.sub hE,hH _ h2⟩
 | exit id=>exact⟨e',L',h1,h2,h3⟩
 | goto l=>exact⟨e',L',h1,h2,h3⟩
 | ret=>exact⟨e',L',h1,h2,h3⟩
 | panic ch=>exact⟨e',L',h1,h2,h3⟩
 | outgrown=>exact⟨e',L',h1,h2,h3⟩
end Vg
namespace Vg
open Go
def lookK:Env→Nat→(Value→Prop)→Prop→Prop
 | [],_,_,kf=>kf
 | (s,v)::r,t,k,kf=>bif Nat.beq s t then k v else lookK r t k kf
theorem lookK_spec{k:Value→Prop}{kf:Prop}:∀{e:Env} {t:Nat},lookK e t k kf→(∃v,look e t=some v∧k v)∨kf
 | [],_,h=>.inr h
 | (s,v)::r,t,h=>by
  simp only[lookK] at h
  simp only[look]
  cases hb:Nat.beq s t
  ·rw[hb] at h;exact lookK_spec h
  ·rw[hb] at h;exact .inl ⟨v,rfl,h⟩
def evK(e:Env)(x:Operand)(k:Value→Prop)(kf:Prop):Prop:=
 match x with
 | .tmp t=>lookK e t k kf
 | .const v=>k v
 | .global g=>k (.pointer (some ⟨g,0,none⟩))
 | .func f=>k (.func (.func f) #[] #[])
theorem evK_spec{e:Env}{x:Operand}{k:Value→Prop}{kf:Prop}(h:evK e x k kf):(∃v,ev e x=some v∧k v)∨kf:=by
 cases x with
 | tmp t=>exact lookK_spec h
 | const v=>exact .inl ⟨v,rfl,h⟩
 | global g=>exact .inl ⟨_,rfl,h⟩
 | func f=>exact .inl ⟨_,rfl,h⟩
def tyK:Tab→Nat→(TI→Prop)→Prop→Prop
 | [],_,_,kf=>kf
 | (s,v)::r,t,k,kf=>bif Nat.beq s t then k v else tyK r t k kf
theorem tyK_spec{k:TI→Prop}{kf:Prop}:∀{e:Tab} {t:Nat},tyK e t k kf→(∃v,tyLook e t=some v∧k v)∨kf
 | [],_,h=>.inr h
 | (s,v)::r,t,h=>by
  simp only[tyK] at h
  simp only[tyLook]
  cases hb:Nat.beq s t
  ·rw[hb] at h;exact tyK_spec h
  ·rw[hb] at h;exact .inl ⟨v,rfl,h⟩
def nthK{α:Type}:List α→Nat→(α→Prop)→Prop→Prop
 | [],_,_,kf=>kf
 | x::_,0,k,_=>k x
 | _::r,n+1,k,kf=>nthK r n k kf
theorem nthK_spec{α:Type}{k:α→Prop}{kf:Prop}:∀{l:List α} {i:Nat},nthK l i k kf→(∃v,l[i]?=some v∧k v)∨kf
 | [],_,h=>.inr h
 | x::r,0,h=>.inl ⟨x,rfl,h⟩
 | x::r,n+1,h=>by simpa using nthK_spec (l:=r) (i:=n) h
def Light(X:Cx)(op:Op)(e:Env)(v:Value):Prop:=
 ∀a,Agr X.n a e→∀dst ty pos after guard w,(execOp a.eval ⟨dst,op,ty,pos,after,guard⟩).run X.P w=.ok (.value v) w
def cmpK(op:BinOp)(a b:Int)(k:Value→Prop)(kf:Prop):Prop:=
 match op with
 | .eql=>k (.bool (a == b))
 | .neq=>k (.bool (a != b))
 | .lss=>k (.bool (decide (a<b)))
 | .leq=>k (.bool (decide (a≤b)))
 | .gtr=>k (.bool (decide (b<a)))
 | .geq=>k (.bool (decide (b≤a)))
 | _=>kf
def kindEq:IntKind→IntKind→Bool
 | .i64,.i64=>true
 | .u8,.u8=>true
 | .u16,.u16=>true
 | .u64,.u64=>true
 | .i32,.i32=>true
 | .u32,.u32=>true
 | .i8,.i8=>true
 | .i16,.i16=>true
 | _,_=>false
theorem kindEq_eq{a b:IntKind}(h:kindEq a b=true):a=b:=by cases a<;>cases b<;>first | rfl | cases h
def binK(tab:Tab)(op:BinOp)(ty:Nat)(x y:Value)(k:Value→Prop)(kf:Prop):Prop:=
 match x,y with
 | .int j a,.int i b=>bif kindEq j i then cmpK op a b k kf else kf
 | .bool a,.bool b=>tyK tab ty (fun ti=>match ti.und with
   | .bool=>match op with
    | .eql=>k (.bool (a == b))
    | .neq=>k (.bool (!(a == b)))
    | _=>kf
   | _=>kf) kf
 | .string a,.string b=>match op with
   | .eql=>k (.bool (a.toList == b.toList))
   | .neq=>k (.bool (!(a.toList == b.toList)))
   | _=>kf
 | .pointer a,.pointer none=>tyK tab ty (fun ti=>match ti.und with
   | .ptr _=>match op,a with
    | .eql,none=>k (.bool true)
    | .eql,some _=>k (.bool false)
    | .neq,none=>k (.bool false)
    | .neq,some _=>k (.bool true)
    | _,_=>kf
   | _=>kf) kf
 | .slice a _ _,.slice none _ _=>tyK tab ty (fun ti=>match ti.und with
   | .slice _=>match op,a with
    | .eql,none=>k (.bool true)
    | .eql,some _=>k (.bool false)
    | .neq,none=>k (.bool false)
    | .neq,some _=>k (.bool true)
    | _,_=>kf
   | _=>kf) kf
 | _,_=>kf
def pureK(tab:Tab)(e:Env)(op:Op)(k:Value→Prop)(kf:Prop):Prop:=
 match op with
 | .move x=>evK e x k kf
 | .assign x=>evK e x k kf
 | .nilCheck x=>evK e x (fun v=>match v with
   | .pointer (some a)=>k (.pointer (some a))
   | _=>kf) kf
 | .extract x i=>evK e x (fun v=>match v with
   | .tuple vs=>nthK vs.toList i k kf
   | _=>kf) kf
 | .fieldAddr s x f=>evK e x (fun v=>match v with
   | .pointer (some ⟨b,off,none⟩)=>tyK tab s (fun ti=>match ti.und with
    | .struct fs=>nthK fs f (fun p=>match p with
     | (o,sz)=>bif Nat.beq sz 0 then kf else bif Nat.beq o 0 then k (.pointer (some ⟨b,off,none⟩)) else k (.pointer (some ⟨b,off+o,none⟩))) kf
    | _=>kf) kf
   | _=>kf) kf
 | .binOp op ty x y _=>evK e x (fun a=>evK e y (fun b=>binK tab op ty a b k kf) kf) kf
 | .unOp .not _ x=>evK e x (fun v=>match v with
   | .bool b=>k (.bool (!b))
   | _=>kf) kf
 | .pick c a b=>evK e c (fun v=>match v with
   | .bool true=>evK e a k kf
   | .bool false=>evK e b k kf
   | _=>kf) kf
 | .call ⟨.builtin .len,args,tys⟩=>match args.toList,tys.toList with
   | [x],[t]=>evK e x (fun v=>tyK tab t (fun ti=>match v with
    | .slice _ n _=>(match ti.und with
     | .slice _=>k (.int .i64 n)
     | _=>kf)
    | .string s=>(match ti.und with
     | .string=>k (.int .i64 s.size)
     | _=>kf)
    | _=>kf) kf) kf
   | _,_=>kf
 | .call ⟨.builtin .min,args,_⟩=>match args.toList with
   | [x,y]=>evK e x (fun u=>evK e y (fun v=>match u,v with
    | .int i a,.int _ b=>k (.int i (if b<a then b else a))
    | _,_=>kf) kf) kf
   | _=>kf
 | .call ⟨.builtin .max,args,_⟩=>match args.toList with
   | [x,y]=>evK e x (fun u=>evK e y (fun v=>match u,v with
    | .int i a,.int _ b=>k (.int i (if a<b then b else a))
    | _,_=>kf) kf) kf
   | _=>kf
 | _=>kf
section
variable {X:Cx} {e:Env} {k:Value→Prop} {kf:Prop}
theorem run_und{P:Program}{t:Nat}{ti:TI}(h:TIok P t ti)(w:World):∃d,P.underlying t=some d∧(underlying t).run P w=.ok d w:=by
 have:=h.und
 unfold undOf at this
 cases hd:P.underlying t with
 | none=>simp[hd] at this
 | some d=>exact⟨d,rfl,run_underlying hd w⟩
theorem run_size{P:Program}{t:Nat}{i:TypeInfo}(hi:P.info? t=some i)(w:World):(sizeOf t).run P w=.ok i.size w:=by
 simp[sizeOf,typeInfo,hi]
theorem run_fieldAt{P:Program}{S f:Nat}{flds:Array Field}{fl:Field}{i:TypeInfo}(hund:P.underlying S=some (.struct flds))(hf:flds[f]?=some fl)(hi:P.info? fl.type=some i)(hz:i.size≠0)(b off:Nat)(w:World):
  (Instr.fieldAt S (.pointer (some ⟨b,off,none⟩)) f).run P w=.ok (.pointer (some ⟨b,off+fl.offset,none⟩)) w:=by
 simp[Instr.fieldAt,run_underlying hund,hf,Instr.sureAddr,fieldPlace,run_size hi,hz,Addr.add_mid]
theorem run_equal_bool{P:Program}{ty:Nat}(hund:P.underlying ty=some .bool)(c d:Bool)(w:World):(Op.equal ty (.bool c) (.bool d)).run P w=.ok (c == d) w:=by
 unfold Op.equal
 show(Op.equalIn (9999+1) ty (.bool c) (.bool d)).run P w=_
 rw[Op.equalIn,Sem.run_bind,run_underlying hund]
 rfl
theorem run_equal_ptr{P:Program}{ty el:Nat}(hund:P.underlying ty=some (.pointer el))(a:Option Addr)(w:World):(Op.equal ty (.pointer a) (.pointer none)).run P w=.ok a.isNone w:=by
 unfold Op.equal
 show(Op.equalIn (9999+1) ty (.pointer a) (.pointer none)).run P w=_
 rw[Op.equalIn,Sem.run_bind,run_underlying hund]
 cases a<;>rfl
theorem run_equal_slice{P:Program}{ty el:Nat}(hund:P.underlying ty=some (.slice el))(a:Option Addr)(n m i j:Nat)(w:World):(Op.equal ty (.slice a n m) (.slice none i j)).run P w=.ok a.isNone w:=by
 unfold Op.equal
 show(Op.equalIn (9999+1) ty (.slice a n m) (.slice none i j)).run P w=_
 rw[Op.equalIn,Sem.run_bind,run_underlying hund]
 cases a<;>rfl
theorem binK_light{op:BinOp}{ty:Nat}{x y:Operand}{yt:Nat}{a b:Value}(hx:ev e x=some a)(hy:ev e y=some b)(h:binK X.tab op ty a b k kf):
    (∃v,Light X (.binOp op ty x y yt) e v∧k v)∨kf:=by
  have E:∀v,(∀w,(do eqGuard op ty x y a b;binOp op ty a b:Sem Value).run X.P w=.ok v w)→Light X (.binOp op ty x y yt) e v:=by
    intro v h a' ha dst t pos after guard w
    simp only[execOp,ha.ev hx,ha.ev hy]
    rw[Sem.run_bind,h w]
    rfl
  unfold binK at h
  split at h
  · rename_i j c i d
    cases hk:kindEq j i
    · rw[hk] at h;exact .inr h
    · rw[hk] at h
      have:=kindEq_eq hk
      subst this
      simp only[cond_true] at h
      unfold cmpK at h
      split at h
      all_goals first
        | exact .inr h
        | (refine .inl ⟨_,E _ (fun w=>?_),h⟩
           simp[eqGuard,binOp,Op.intCmp])
  · rename_i c d
    rcases tyK_spec h with ⟨ti,ht,h⟩ | h
    · split at h
      · rename_i hu
        have hund:X.P.underlying ty=some .bool:=by
          have:=(X.ok.look ht).und
          rw[hu] at this
          unfold undOf at this
          split at this<;>simp_all
        split at h
        · refine .inl ⟨_,E _ (fun w=>?_),h⟩
          show((do pure (.bool (←Op.equal ty (.bool c) (.bool d))):Sem Value)).run X.P w=_
          rw[Sem.run_bind,run_equal_bool hund];rfl
        · refine .inl ⟨_,E _ (fun w=>?_),h⟩
          show((do pure (.bool (!(←Op.equal ty (.bool c) (.bool d)))):Sem Value)).run X.P w=_
          rw[Sem.run_bind,run_equal_bool hund];rfl
        · exact .inr h
      · exact .inr h
    · exact .inr h
  · split at h
    · refine .inl ⟨_,E _ (fun w=>?_),h⟩
      simp[eqGuard,binOp,Op.stringOp]
    · refine .inl ⟨_,E _ (fun w=>?_),h⟩
      simp[eqGuard,binOp,Op.stringOp]
    · exact .inr h
  · rename_i a
    rcases tyK_spec h with ⟨ti,ht,h⟩ | h
    · split at h
      · rename_i el hu
        have hund:X.P.underlying ty=some (.pointer el):=by
          have:=(X.ok.look ht).und
          rw[hu] at this
          unfold undOf at this
          split at this<;>simp_all
        have r1:∀w,((do pure (.bool (←Op.equal ty (.pointer a) (.pointer none))):Sem Value)).run X.P w=.ok (.bool a.isNone) w:=fun w=>by
          rw[Sem.run_bind,run_equal_ptr hund];rfl
        have r2:∀w,((do pure (.bool (!(←Op.equal ty (.pointer a) (.pointer none)))):Sem Value)).run X.P w=.ok (.bool (!a.isNone)) w:=fun w=>by
          rw[Sem.run_bind,run_equal_ptr hund];rfl
        split at h
        · exact xcw
        · exact xcw
        · exact xcx
        · exact xcx
        · exact .inr h
      · exact .inr h
    · exact .inr h
  · rename_i a n m i j
    rcases tyK_spec h with ⟨ti,ht,h⟩ | h
    · split at h
      · rename_i el hu
        have hund:X.P.underlying ty=some (.slice el):=by
          have:=(X.ok.look ht).und
          rw[hu] at this
          unfold undOf at this
          split at this<;>simp_all
        have r1:∀w,((do pure (.bool (←Op.equal ty (.slice a n m) (.slice none i j))):Sem Value)).run X.P w=.ok (.bool a.isNone) w:=fun w=>by
          rw[Sem.run_bind,run_equal_slice hund];rfl
        have r2:∀w,((do pure (.bool (!(←Op.equal ty (.slice a n m) (.slice none i j)))):Sem Value)).run X.P w=.ok (.bool (!a.isNone)) w:=fun w=>by
          rw[Sem.run_bind,run_equal_slice hund];rfl
        split at h
        · exact xcw
        · exact xcw
        · exact xcx
        · exact xcx
        · exact .inr h
      · exact .inr h
    · exact .inr h
  · exact .inr h
theorem run_len{P:Program}{t:Nat}{d:TypeDesc}(hd:P.underlying t=some d)(w:World)(x v:Value)
  (h:(d=.string∧∃s,x=.string s∧v=.int .i64 s.size)∨((∃el,d=.slice el)∧∃a n c,x=.slice a n c∧v=.int .i64 n)) (r:Nat):
  (Builtin.len_ #[t] r #[x]).run P w=.ok v w:=by
 rcases h with ⟨rfl,s,rfl,rfl⟩ | ⟨⟨el,rfl⟩,a,n,c,rfl,rfl⟩
 ·simp[Builtin.len_,run_underlying hd,goInt]
 ·simp[Builtin.len_,run_underlying hd,goInt]
theorem pureK_light{op:Op}(h:pureK X.tab e op k kf):(∃v,Light X op e v∧k v)∨kf:=by
 unfold pureK at h
 split at h
 ·rcases evK_spec h with ⟨v,hv,h⟩ | h
  ·exact xcy
  ·exact .inr h
 ·rcases evK_spec h with ⟨v,hv,h⟩ | h
  ·exact xcy
  ·exact .inr h
 ·rcases evK_spec h with ⟨v,hv,h⟩ | h
  ·split at h
   ·exact xcz
   ·exact .inr h
  ·exact .inr h
 ·rcases evK_spec h with ⟨v,hv,h⟩ | h
  ·split at h
   ·rename_i vs _
    rcases nthK_spec h with ⟨u,hu,h⟩ | h
    ·refine .inl ⟨u,fun a ha _ _ _ _ _ w=>?_,h⟩
     rw[Array.getElem?_toList] at hu
     simp only[execOp,ha.ev hv,Instr.extract,hu];rfl
    ·exact .inr h
   ·exact .inr h
  ·exact .inr h
 ·rcases evK_spec h with ⟨v,hv,h⟩ | h
  ·split at h
   ·rename_i b off
    rcases tyK_spec h with ⟨ti,ht,h⟩ | h
    ·split at h
     ·rename_i fs hu
      rcases nthK_spec h with ⟨⟨o,sz⟩,hp,h⟩ | h
      ·dsimp only at h
       cases hz:Nat.beq sz 0
       case true=>rw[hz] at h;exact .inr h
       case false=>
        rw[hz] at h
        have hsz:sz≠0:=Nat.ne_of_beq_eq_false hz
        have hok:=(X.ok.look ht).und
        rw[hu] at hok
        obtain⟨flds,hund,hfl⟩:∃flds,X.P.underlying _=some (.struct flds)∧flds.toList.map (fun f=>(f.offset,((X.P.info? f.type).map (·.size)).getD 0))=fs:=by
         unfold undOf at hok
         split at hok<;>simp at hok
         rename_i fl hfl
         exact⟨fl,hfl,by simpa using hok⟩
        rw[←hfl] at hp
        simp only[List.getElem?_map,Option.map_eq_some_iff,Prod.mk.injEq] at hp
        obtain⟨f,hf,ho,hsf⟩:=hp
        rw[Array.getElem?_toList] at hf
        have hi:∃i,X.P.info? f.type=some i∧i.size=sz:=by
         cases hq:X.P.info? f.type with
         | none=>simp[hq] at hsf;exact(hsz hsf.symm).elim
         | some i=>exact⟨i,rfl,by simpa[hq] using hsf⟩
        obtain⟨i,hi,hiz⟩:=hi
        have key:=run_fieldAt hund hf hi (by rw[hiz];exact hsz) b off
        rw[ho] at key
        simp only[cond_false] at h
        cases hoz:Nat.beq o 0
        ·rw[hoz] at h
         refine .inl ⟨_,fun a ha _ _ _ _ _ w=>?_,h⟩
         simp only[execOp,ha.ev hv,Sem.run_bind,key w];rfl
        ·rw[hoz] at h
         refine .inl ⟨_,fun a ha _ _ _ _ _ w=>?_,h⟩
         have:=Nat.eq_of_beq_eq_true hoz
         subst this
         simp only[execOp,ha.ev hv,Sem.run_bind,key w];rfl
      ·exact .inr h
     ·exact .inr h
    ·exact .inr h
   ·exact .inr h
  ·exact .inr h
 ·rcases evK_spec h with ⟨a,ha,h⟩ | h
  ·rcases evK_spec h with ⟨b,hb,h⟩ | h
   ·exact binK_light ha hb h
   ·exact .inr h
  ·exact .inr h
 ·rcases evK_spec h with ⟨v,hv,h⟩ | h
  ·split at h
   ·exact xcz
   ·exact .inr h
  ·exact .inr h
 ·rcases evK_spec h with ⟨v,hv,h⟩ | h
  ·split at h
   ·rcases evK_spec h with ⟨u,hu,h⟩ | h
    ·exact xda
    ·exact .inr h
   ·rcases evK_spec h with ⟨u,hu,h⟩ | h
    ·exact xda
    ·exact .inr h
   ·exact .inr h
  ·exact .inr h
 ·rename_i args tys
  split at h
  ·rename_i x t hx ht
   have hargs:args=#[x]:=by apply Array.toList_inj.1;simpa using hx
   have htys:tys=#[t]:=by apply Array.toList_inj.1;simpa using ht
   subst hargs;subst htys
   rcases evK_spec h with ⟨v,hv,h⟩ | h
   ·rcases tyK_spec h with ⟨ti,htt,h⟩ | h
    ·have hok:=(X.ok.look htt).und
     split at h
     ·rename_i el n c _
      split at h
      ·rename_i hu
       rw[hu] at hok
       have hund:∃d,X.P.underlying t=some d∧∃el,d=.slice el:=by
        unfold undOf at hok
        split at hok<;>simp at hok
        rename_i hd;exact⟨_,hd,_,rfl⟩
       obtain⟨d,hd,hd'⟩:=hund
       refine .inl ⟨_,fun a' ha _ _ _ _ _ w=>?_,h⟩
       have hr:=fun r=>run_len hd w (.slice el n c) (.int .i64 n) (.inr ⟨hd',el,n,c,rfl,rfl⟩) r
       simp[execOp,resolve,invoke,builtin,ha.ev hv,hr]
      ·exact .inr h
     ·rename_i s _
      split at h
      ·rename_i hu
       rw[hu] at hok
       have hund:X.P.underlying t=some .string:=by
        unfold undOf at hok
        split at hok<;>simp_all
       refine .inl ⟨_,fun a' ha _ _ _ _ _ w=>?_,h⟩
       have hr:=fun r=>run_len hund w (.string s) (.int .i64 s.size) (.inl ⟨rfl,s,rfl,rfl⟩) r
       simp[execOp,resolve,invoke,builtin,ha.ev hv,hr]
      ·exact .inr h
     ·exact .inr h
    ·exact .inr h
   ·exact .inr h
  ·exact .inr h
 ·rename_i args tys
  split at h
  ·rename_i x y hx
   have hargs:args=#[x,y]:=by apply Array.toList_inj.1;simpa using hx
   subst hargs
   rcases evK_spec h with ⟨u,hu,h⟩ | h
   ·rcases evK_spec h with ⟨v,hv,h⟩ | h
    ·split at h
     ·refine .inl ⟨_,fun a' ha _ _ _ _ _ w=>?_,h⟩
      simp[execOp,resolve,invoke,builtin,ha.ev hv,ha.ev hu,Builtin.min_,Builtin.min2]
     ·exact .inr h
    ·exact .inr h
   ·exact .inr h
  ·exact .inr h
 ·rename_i args tys
  split at h
  ·rename_i x y hx
   have hargs:args=#[x,y]:=by apply Array.toList_inj.1;simpa using hx
   subst hargs
   rcases evK_spec h with ⟨u,hu,h⟩ | h
   ·rcases evK_spec h with ⟨v,hv,h⟩ | h
    ·split at h
     ·refine .inl ⟨_,fun a' ha _ _ _ _ _ w=>?_,h⟩
      simp[execOp,resolve,invoke,builtin,ha.ev hv,ha.ev hu,Builtin.max_,Builtin.max2]
     ·exact .inr h
    ·exact .inr h
   ·exact .inr h
  ·exact .inr h
 ·exact .inr h
theorem Light.opT{op:Op}{v:Value}{L:List HP}(h:Light X op e v):OpT X op e L (fun u L'=>u=v∧L'=L):=
 fun a w ha hw dst ty pos after guard=>.inl ⟨v,w,L,h a ha dst ty pos after guard w,⟨rfl,rfl⟩,hw⟩
end
def runK(n:Nat)(tab:Tab)(ops:List Oper)(G:GS):List Oper→Env→(List Oper→Env→Prop)→Prop
 | [],e,k=>k [] e
 | o::r,e,k=>match o.dst with
  | none=>k (o::r) e
  | some d=>match gLook G d,Nat.blt d n with
   | none,true=>match o.guard with
    | none=>pureK tab e o.op (fun v=>runK n tab ops G r ((d,v)::e) k) (k (o::r) e)
    | some (j,want)=>nthK ops j (fun oj=>match oj.dst with
     | some dj=>match gLook G dj with
      | some b=>match gB b want with
       | true=>pureK tab e o.op (fun v=>runK n tab ops G r ((d,v)::e) k) (k (o::r) e)
       | false=>runK n tab ops G r ((d,undef)::e) k
      | none=>k (o::r) e
     | none=>k (o::r) e) (k (o::r) e)
   | _,_=>k (o::r) e
theorem runK_sound{X:Cx}{ops:Array Oper}{G:GS}{L:List HP}{K:Env→List HP→Prop}:∀{l:List Oper} {e:Env},
  runK X.n X.tab ops.toList G l e (fun l' e'=>VO X ops G l' e' L K)→VO X ops G l e L K
 | [],e,h=>h
 | o::r,e,h=>by
  unfold runK at h
  split at h
  ·exact h
  ·rename_i d hd
   split at h
   ·rename_i hgl hlt
    have hdst:dstOk X.n o.dst=true:=by rw[hd];exact hlt
    have hfree:gFree G o.dst=true:=by rw[hd];simp[gFree,hgl]
    have step:∀{v},gOn ops G o.guard=some true→Light X o.op e v→runK X.n X.tab ops.toList G r ((d,v)::e) (fun l' e'=>VO X ops G l' e' L K)→VO X ops G (o::r) e L K:=fun {v} hg hl hk=>by
     refine VO.op hg hdst hfree hl.opT ?_
     rintro _ _ ⟨rfl,rfl⟩
     rw[hd]
     exact runK_sound hk
    split at h
    ·rename_i hgd
     rcases pureK_light h with ⟨v,hl,hk⟩ | h
     ·exact step (by rw[hgd];rfl) hl hk
     ·exact h
    ·rename_i j want hgd
     rcases nthK_spec h with ⟨oj,hj,h⟩ | h
     ·split at h
      ·rename_i dj hdj
       split at h
       ·rename_i b hb
        have hgo:gOn ops G o.guard=some (gB b want):=by
         rw[hgd];simp only[gOn,hj,hdj,hb]
        split at h
        ·rename_i hbw
         rw[hbw] at hgo
         rcases pureK_light h with ⟨v,hl,hk⟩ | h
         ·exact step hgo hl hk
         ·exact h
        ·rename_i hbw
         rw[hbw] at hgo
         refine VO.off hgo hdst hfree ?_
         rw[hd]
         exact runK_sound h
       ·exact h
      ·exact h
     ·exact h
   ·exact h
end Vg
namespace Vg
open Go
def enumE:Nat→List Value→Env
 | _,[]=>[]
 | i,v::r=>(i,v)::enumE (i+1) r
theorem look_enumE:∀{l:List Value} {i t:Nat} {v:Value},look (enumE i l) t=some v→∃j,t=i+j∧l[j]?=some v
 | [],_,_,_,h=>by cases h
 | x::r,i,t,v,h=>by
  simp only[enumE,look] at h
  cases hb:Nat.beq i t
  ·rw[hb] at h
   obtain⟨j,hj,hl⟩:=look_enumE h
   exact⟨j+1,by omega,by simpa using hl⟩
  ·rw[hb] at h
   have:=Nat.eq_of_beq_eq_true hb
   exact⟨0,by omega,by simpa using h⟩
theorem agr_enter{n:Nat}{args:List Value}(h:args.length≤n):Agr n ⟨args.toArray++Array.replicate (n-args.toArray.size) undef,[]⟩ (enumE 0 args):=by
 refine⟨by simp;omega,rfl,fun t v ht=>?_⟩
 obtain⟨j,rfl,hl⟩:=look_enumE ht
 have hj:j<args.length:=(List.getElem?_eq_some_iff.1 hl).1
 have:args[j]=v:=(List.getElem?_eq_some_iff.1 hl).2
 simp[Array.getElem?_append,hj,this]
structure RetV(X:Cx)(fn:Func)(e:Env)(L:List HP)(v:Value):Prop where
 run:∀a w,Agr X.n a e→St X L w→(results fn a.tmps).run X.P w=.ok v w
def Ret(X:Cx)(fn:Func)(R:Value→List HP→Prop)(e:Env)(L:List HP):Prop:=
 ∃v L',RetV X fn e L v∧Ent X L L'∧R v L'
def retQ(X:Cx)(fn:Func)(R:Value→List HP→Prop):Exit→Env→List HP→Prop
 | .normal,e,L=>Ret X fn R e L
 | .ret,e,L=>Ret X fn R e L
 | _,_,_=>False
theorem Tri.of{P:Program}{f:FuncId}{fn:Func}{c:Code}{args:List Value}{Fr:Nat→Prop}{w:World}{L:List HP}{R:Value→List HP→Prop}{tab:Tab}(n:Nat)
  (hf:P.funcs[f]?=some fn) (hb:fn.body=some c) (hnm:(fn.name == "runtime.NumGoroutine")=false) (ok:TabOk P tab) (hnt:fn.ntmps=n) (hn:Nat.ble args.length n=true)
  (h:VC ⟨P,tab,ok,n,Fr,w⟩ c (enumE 0 args) L (retQ ⟨P,tab,ok,n,Fr,w⟩ fn R)):Tri P f args Fr w L R:=by
 subst hnt
 replace hn:=Nat.le_of_ble_eq_true hn
 refine⟨⟨fn,hf,by simp[hb],hnm⟩,fun hlow hs=>?_⟩
 refine calls_of_wp hf hb (wp_mono (wpIn_wide.1 (h none _ w (agr_enter hn) ⟨hs,Keep.refl _ _,hlow⟩)) fun x a' w' ⟨e',L',h1,h2,h3⟩=>?_)
 have key:Ret ⟨P,tab,ok,fn.ntmps,Fr,w⟩ fn R e' L'→a'.defers=[]∧∃v,(results fn a'.tmps).run P w'=.ok v w'∧∃v1 L1,Ending.returned v=.returned v1∧R v1 L1∧Sat Fr L1 w'∧Keep Fr w w':=by
  rintro⟨v,L1,hr,he,hR⟩
  exact⟨h1.defers,v,hr.run a' w' h1 h2,v,L1,rfl,hR,(he w' h2).sat,h2.keep⟩
 cases x with
 | normal=>exact key h3
 | ret=>exact key h3
 | exit id=>exact h3.elim
 | goto l=>exact h3.elim
 | panic ch=>exact h3.elim
 | outgrown=>exact h3.elim
theorem Ret.tmp{X:Cx}{fn:Func}{R:Value→List HP→Prop}{e:Env}{L:List HP}(t:Nat)(h:fn.results=#[.tmp t]){v:Value}(hv:look e t=some v){L':List HP}(he:Ent X L L')(hR:R v L'):Ret X fn R e L:=
 ⟨v,L',⟨fun a w ha _=>by rw[results_tmp h,ha.at_ t v hv]⟩,he,hR⟩
theorem Ret.tmp2{X:Cx}{fn:Func}{R:Value→List HP→Prop}{e:Env}{L:List HP}(t u:Nat)(h:fn.results=#[.tmp t,.tmp u]){v x:Value}(hv:look e t=some v)(hx:look e u=some x){L':List HP}(he:Ent X L L')(hR:R (.tuple #[v,x]) L'):Ret X fn R e L:=
 ⟨_,L',⟨fun a w ha _=>by rw[results_tmp2 h,ha.at_ t v hv,ha.at_ u x hx]⟩,he,hR⟩
theorem Ret.void{X:Cx}{fn:Func}{R:Value→List HP→Prop}{e:Env}{L:List HP}(h:fn.results=#[]){L':List HP}(he:Ent X L L')(hR:R (.tuple #[]) L'):Ret X fn R e L:=
 ⟨_,L',⟨fun a w _ _=>results_none h a.tmps X.P w⟩,he,hR⟩
theorem VC.condP{X:Cx}{x:Operand}{b c:Code}{e:Env}{L:List HP}{Q:Exit→Env→List HP→Prop}{p:Prop}{_:Decidable p}(hx:ev e x=some (.bool (decide p)))
  (ht:p→VC X b e L Q) (hf:¬p→VC X c e L Q):VC X (.cond x b c) e L Q:=
 VC.cond hx (fun h=>ht (of_decide_eq_true h)) (fun h=>hf (of_decide_eq_false h))
theorem VC.condE{X:Cx}{x:Operand}{b c:Code}{e:Env}{L:List HP}{Q:Exit→Env→List HP→Prop}{i j:Int}(hx:ev e x=some (.bool (i == j)))
  (ht:i=j→VC X b e L Q) (hf:i≠j→VC X c e L Q):VC X (.cond x b c) e L Q:=
 VC.cond hx (fun h=>ht yc) (fun h=>hf yc)
theorem VC.condNE{X:Cx}{x:Operand}{b c:Code}{e:Env}{L:List HP}{Q:Exit→Env→List HP→Prop}{i j:Int}(hx:ev e x=some (.bool (i != j)))
  (ht:i≠j→VC X b e L Q) (hf:i=j→VC X c e L Q):VC X (.cond x b c) e L Q:=
 VC.cond hx (fun h=>ht yc) (fun h=>hf yc)
theorem VC.condN{X:Cx}{x:Operand}{b c:Code}{e:Env}{L:List HP}{Q:Exit→Env→List HP→Prop}{t:Bool}(hx:ev e x=some (.bool (!t)))
  (ht:t=false→VC X b e L Q) (hf:t=true→VC X c e L Q):VC X (.cond x b c) e L Q:=
 VC.cond hx (fun h=>ht yc) (fun h=>hf yc)
theorem VC.condT{X:Cx}{x:Operand}{b c:Code}{e:Env}{L:List HP}{Q:Exit→Env→List HP→Prop}(hx:ev e x=some (.bool true))
  (ht:VC X b e L Q):VC X (.cond x b c) e L Q:=
 VC.cond hx (fun _=>ht) (fun h=>by cases h)
theorem VC.condF{X:Cx}{x:Operand}{b c:Code}{e:Env}{L:List HP}{Q:Exit→Env→List HP→Prop}(hx:ev e x=some (.bool false))
  (hf:VC X c e L Q):VC X (.cond x b c) e L Q:=
 VC.cond hx (fun h=>by cases h) (fun _=>hf)
theorem Ret.int{X:Cx}{fn:Func}{R:Value→List HP→Prop}{e:Env}{L:List HP}(t:Nat)(h:fn.results=#[.tmp t]){k:IntKind}{a b:Int}(hv:look e t=some (.int k a))(hab:a=b){L':List HP}(he:Ent X L L')(hR:R (.int k b) L'):Ret X fn R e L:=by
 subst hab;exact Ret.tmp t h hv he hR
theorem Ret.bool{X:Cx}{fn:Func}{R:Value→List HP→Prop}{e:Env}{L:List HP}(t:Nat)(h:fn.results=#[.tmp t]){a b:Bool}(hv:look e t=some (.bool a))(hab:a=b){L':List HP}(he:Ent X L L')(hR:R (.bool b) L'):Ret X fn R e L:=by
 subst hab;exact Ret.tmp t h hv he hR
theorem Ent.refl{X:Cx}{L:List HP}:Ent X L L:=fun _ h=>h
def meetQ(X:Cx){σ:Type}(E:σ→Env)(H:σ→List HP)(I:σ→Prop)(Q:Exit→Env→List HP→Prop):Exit→Env→List HP→Prop
 | .normal,e,L=>∃s,I s∧Sub (E s) e∧Ent X L (H s)
 | x,e,L=>Q x e L
theorem VC.meet{X:Cx}{σ:Type}(E:σ→Env)(H:σ→List HP)(I:σ→Prop){b c:Code}{e:Env}{L:List HP}{Q:Exit→Env→List HP→Prop}
  (hb:VC X b e L (meetQ X E H I Q)) (hc:∀s,I s→VC X c (E s) (H s) Q):VC X (.seq b c) e L Q:=by
 refine VC.seq (hb.mono fun x e' L' h=>?_)
 cases x with
 | normal=>
  obtain⟨s,hI,hE,hH⟩:=h
  exact((hc s hI).ent hH).sub hE
 | exit id=>exact h
 | goto l=>exact h
 | ret=>exact h
 | panic ch=>exact h
 | outgrown=>exact h
def SatIn(Fr:Nat→Prop)(L:List HP)(w:World):Prop:=∃F,Sats L F w∧∀b∈F,Fr b
theorem run_callFunc{P:Program}{f:FuncId}(h:Callable P f)(vals:Array Value)(w:World):(callFunc f vals).run P w=.ok (.enter f vals) w:=by
 obtain⟨fn,hf,hb,hn⟩:=h
 unfold callFunc
 rw[Sem.run_bind]
 show Result.andThen (.ok P w) _=_
 simp[Result.andThen,hf,hb,hn]
theorem run_callOp{P:Program}{f:FuncId}(h:Callable P f)(a:Act)(args:Array Operand)(tys:Array TypeId)(dst:Option Tmp)(ty:TypeId)(pos:String)(after:Array Edge)(guard:Option (Nat×Bool))(w:World):
  (execOp a.eval ⟨dst,.call ⟨.value (.func f),args,tys⟩,ty,pos,after,guard⟩).run P w=.ok (.enter f (args.map a.eval)) w:=by
 have:=run_callFunc h (args.map a.eval) w
 simp[execOp,resolve,Deferred.ofValue,Act.eval,invoke]
 exact this
theorem OpT.call{X:Cx}{f:FuncId}{args:Array Operand}{tys:Array TypeId}{e:Env}{L Lc Lr:List HP}{vals:List Value}{R:Value→List HP→Prop}
  (hargs:evs e args.toList=some vals) (hp:L.Perm (Lc++Lr))
  (ht:∀Fr' w,(∀b,X.Fr b→Fr' b)→St X L w→SatIn Fr' Lr w→Tri X.P f vals Fr' w Lc R):
  OpT X (.call ⟨.value (.func f),args,tys⟩) e L (fun v L'=>∃L1,R v L1∧L'=L1++Lr):=by
 intro a w ha hw dst ty pos after guard
 obtain⟨F,hs,hnd,hb⟩:=hw.sat.perm hp
 obtain⟨Fc,Fl,rfl,hsc,hsl⟩:=Sats.append.1 hs
 have T:=ht (fun b=>X.Fr b∨b∈Fl) w (fun b h=>.inl h) hw ⟨Fl,hsl,fun b h=>.inr h⟩
 have hev:args.map a.eval=vals.toArray:=by
  have:=ha.evs hargs
  apply Array.toList_inj.1
  simpa using this
 refine .inr (.inr ⟨f,vals.toArray,?_,?_⟩)
 ·rw[←hev];exact run_callOp T.callable a args tys dst ty pos after guard w
 ·obtain⟨hnc,hnl,hdis⟩:=List.nodup_append.1 hnd
  refine Calls.mono (T.calls (fun b h=>?_) ⟨Fc,hsc,hnc,fun b h=>⟨fun h'=>?_,(hb b ya).2⟩⟩) fun en w' ⟨v,L',h1,h2,h3,h4⟩=>?_
  ·rcases h with h | h
   ·exact hw.lowW b h
   ·exact(hb b ya).2
  ·rcases h' with h' | h'
   ·exact(hb b ya).1 h'
   ·exact hdis b h b h' rfl
  ·refine⟨v,L'++Lr,h1,⟨L',h2,rfl⟩,⟨?_,hw.keep.trans (h4.mono fun b h=>.inl h),hw.low⟩⟩
   obtain⟨G,hG,hGn,hGb⟩:=h3
   refine⟨G++Fl,Sats.append.2 ⟨G,Fl,rfl,hG,hsl.loc fun b h=>h4.block b (.inr h)⟩,?_,?_⟩
   ·exact xdb
   ·intro b h
    rcases List.mem_append.1 h with h | h
    ·exact⟨fun h'=>(hGb b h).1 (.inl h'),(hGb b h).2⟩
    ·exact xdc
section
variable {X:Cx} {ops:Array Oper} {G:GS} {l:List Oper} {e:Env} {L:List HP} {K:Env→List HP→Prop}
  {dst:Option Tmp} {ty:TypeId} {pos:String} {after:Array Edge} {guard:Option (Nat×Bool)}
theorem VO.go(h:runK X.n X.tab ops.toList G l e (fun l' e'=>VO X ops G l' e' L K)):VO X ops G l e L K:=runK_sound h
theorem VO.call0{f:FuncId}{args:Array Operand}{tys:Array TypeId}{vals:List Value}{R:Value→List HP→Prop}
  (hargs:evs e args.toList=some vals) (ht:∀Fr' w,Tri X.P f vals Fr' w [] R)
  (hk:∀v L1,R v L1→VO X ops G l (putE dst v e) (L1++L) K)
  (hg:gOn ops G guard=some true:=by rfl) (hd:dstOk X.n dst=true:=by rfl) (hf:gFree G dst=true:=by rfl):
  VO X ops G (⟨dst,.call ⟨.value (.func f),args,tys⟩,ty,pos,after,guard⟩::l) e L K:=
 VO.op hg hd hf (OpT.call hargs (Lc:=[]) (Lr:=L) (.refl _) fun Fr' w _ _ _=>ht Fr' w) fun v L' ⟨L1,h1,h2⟩=>by subst h2;exact hk v L1 h1
theorem VO.callV{f:FuncId}{args:Array Operand}{tys:Array TypeId}{vals:List Value}{u:Value}
  (ht:∀Fr' w,Tri X.P f vals Fr' w [] (fun v L=>v=u∧L=[])) (hargs:evs e args.toList=some vals)
  (hk:VO X ops G l (putE dst u e) L K)
  (hg:gOn ops G guard=some true:=by rfl) (hd:dstOk X.n dst=true:=by rfl) (hf:gFree G dst=true:=by rfl):
  VO X ops G (⟨dst,.call ⟨.value (.func f),args,tys⟩,ty,pos,after,guard⟩::l) e L K:=
 VO.call0 hargs ht (fun v L1 ⟨h1,h2⟩=>by subst h1;subst h2;exact hk) hg hd hf
theorem VO.yes(d:Nat){b:Bool}(c:Bool)(hb:look e d=some (.bool b))(hc:b=c)(h:VO X ops ((d,c)::G) l ((d,.bool c)::e) L K)(hd:Nat.blt d X.n=true:=by rfl):VO X ops G l e L K:=by
 subst hc
 refine VO.split d hb hd (fun h'=>?_) (fun h'=>?_)
 ·subst h';exact h
 ·subst h';exact h
theorem VO.light{op:Op}{v:Value}(h:Light X op e v)(hk:VO X ops G l (putE dst v e) L K)
  (hg:gOn ops G guard=some true:=by rfl) (hd:dstOk X.n dst=true:=by rfl) (hf:gFree G dst=true:=by rfl):VO X ops G (⟨dst,op,ty,pos,after,guard⟩::l) e L K:=
 VO.op hg hd hf h.opT (fun _ _ ⟨h1,h2⟩=>by subst h1;subst h2;exact hk)
theorem VO.arith{op:BinOp}{xt yt:TypeId}{x y:Operand}{k:IntKind}{a b:Int}(z:Int)
  (hx:ev e x=some (.int k a)) (hy:ev e y=some (.int k b))
  (hz:(match op with | .add=>k.wrap (a+b)=z | .sub=>k.wrap (a-b)=z | .mul=>k.wrap (a*b)=z | _=>False))
  (hk:VO X ops G l (putE dst (.int k z) e) L K)
  (hg:gOn ops G guard=some true:=by rfl) (hd:dstOk X.n dst=true:=by rfl) (hf:gFree G dst=true:=by rfl):
  VO X ops G (⟨dst,.binOp op xt x y yt,ty,pos,after,guard⟩::l) e L K:=by
 refine VO.op (M:=fun v L'=>v=.int k z∧L'=L) hg hd hf ?_ (fun v L' ⟨h1,h2⟩=>by subst h1;subst h2;exact hk)
 intro a' w ha hw dst ty pos after guard
 refine .inl ⟨_,w,L,?_,⟨rfl,rfl⟩,hw⟩
 cases op<;>simp only at hz
 case add=>simp[execOp,ha.ev hx,ha.ev hy,eqGuard,binOp,Op.intArith,hz]
 case sub=>simp[execOp,ha.ev hx,ha.ev hy,eqGuard,binOp,Op.intArith,hz]
 case mul=>simp[execOp,ha.ev hx,ha.ev hy,eqGuard,binOp,Op.intArith,hz]
end
theorem i64_in(n:Int)(h1:-9223372036854775808≤n)(h2:n≤9223372036854775807):IntKind.i64.wrap n=n:=IntWalk.i64_in n ⟨h1,h2⟩
section
variable {X:Cx} {ops:Array Oper} {G:GS} {l:List Oper} {e:Env} {L:List HP} {K:Env→List HP→Prop}
  {dst:Option Tmp} {ty:TypeId} {pos:String} {after:Array Edge} {guard:Option (Nat×Bool)}
theorem VO.add{xt yt:TypeId}{x y:Operand}{a b:Int}(hx:ev e x=some (.int .i64 a))(hy:ev e y=some (.int .i64 b))(h1:-9223372036854775808≤a+b)(h2:a+b≤9223372036854775807)
  (hk:VO X ops G l (putE dst (.int .i64 (a+b)) e) L K)
  (hg:gOn ops G guard=some true:=by rfl) (hd:dstOk X.n dst=true:=by rfl) (hf:gFree G dst=true:=by rfl):
  VO X ops G (⟨dst,.binOp .add xt x y yt,ty,pos,after,guard⟩::l) e L K:=VO.arith (a+b) hx hy (i64_in _ h1 h2) hk hg hd hf
theorem VO.sub'{xt yt:TypeId}{x y:Operand}{a b:Int}(hx:ev e x=some (.int .i64 a))(hy:ev e y=some (.int .i64 b))(h1:-9223372036854775808≤a-b)(h2:a-b≤9223372036854775807)
  (hk:VO X ops G l (putE dst (.int .i64 (a-b)) e) L K)
  (hg:gOn ops G guard=some true:=by rfl) (hd:dstOk X.n dst=true:=by rfl) (hf:gFree G dst=true:=by rfl):
  VO X ops G (⟨dst,.binOp .sub xt x y yt,ty,pos,after,guard⟩::l) e L K:=VO.arith (a-b) hx hy (i64_in _ h1 h2) hk hg hd hf
theorem VO.mul{xt yt:TypeId}{x y:Operand}{a b:Int}(hx:ev e x=some (.int .i64 a))(hy:ev e y=some (.int .i64 b))(h1:-9223372036854775808≤a*b)(h2:a*b≤9223372036854775807)
  (hk:VO X ops G l (putE dst (.int .i64 (a*b)) e) L K)
  (hg:gOn ops G guard=some true:=by rfl) (hd:dstOk X.n dst=true:=by rfl) (hf:gFree G dst=true:=by rfl):
  VO X ops G (⟨dst,.binOp .mul xt x y yt,ty,pos,after,guard⟩::l) e L K:=VO.arith (a*b) hx hy (i64_in _ h1 h2) hk hg hd hf
end
end Vg
namespace Vg
open Go
def wrC(cs:List Value)(off:Nat)(vs:List Value):List Value:=cs.take off++vs++cs.drop (off+vs.length)
theorem wrC_nil(cs:List Value)(off:Nat):wrC cs off []=cs:=by simp[wrC]
theorem wrC_one(cs:List Value)(off:Nat)(v:Value)(h:off<cs.length):wrC cs off [v]=cs.set off v:=by
 simp[wrC,List.set_eq_take_append_cons_drop,h]
theorem wrC_cons{cs vs:List Value}{off:Nat}{v:Value}(h:off+(vs.length+1)≤cs.length):wrC (cs.set off v) (off+1) vs=wrC cs off (v::vs):=by
 unfold wrC
 have h1:off<cs.length:=by omega
 rw[List.set_eq_take_append_cons_drop,if_pos h1]
 have e1:(cs.take off++v::cs.drop (off+1)).take (off+1)=cs.take off ++ [v]:=by
  rw[List.take_append,List.length_take,Nat.min_eq_left yd,show off+1-off=1 from by omega,List.take_of_length_le ye]
  simp
 have e2:(cs.take off++v::cs.drop (off+1)).drop (off+1+vs.length)=cs.drop (off+(vs.length+1)):=by
  rw[List.drop_append,List.length_take,Nat.min_eq_left yd,List.drop_of_length_le ye]
  rw[show off+1+vs.length-off=vs.length+1 from by omega]
  simp;congr 1;omega
 rw[e1,e2]
 simp
def setBlk(w:World)(b:Nat)(o:Obj):World:={ w with heap:=w.heap.setIfInBounds b o }
theorem setBlk_self{w:World}{b:Nat}{o:Obj}(h:w.heap[b]?=some o):setBlk w b o=w:=by
 unfold setBlk
 have:w.heap.setIfInBounds b o=w.heap:=by
  apply Array.ext_getElem?
  intro i
  by_cases hi:b=i
  ·subst hi
   have hlt:b<w.heap.size:=(Array.getElem?_eq_some_iff.1 h).1
   rw[Array.getElem?_setIfInBounds_self_of_lt hlt,h]
  ·rw[Array.getElem?_setIfInBounds_ne hi]
 rw[this]
theorem setBlk_setBlk(w:World)(b:Nat)(o o':Obj):setBlk (setBlk w b o) b o'=setBlk w b o':=by
 simp[setBlk]
theorem heap_setBlk{w:World}{b:Nat}{o o':Obj}(h:w.heap[b]?=some o'):(setBlk w b o).heap[b]?=some o:=by
 have hlt:b<w.heap.size:=(Array.getElem?_eq_some_iff.1 h).1
 simp[setBlk,hlt]
theorem heap_setBlk_ne{w:World}{b c:Nat}{o:Obj}(h:b≠c):(setBlk w b o).heap[c]?=w.heap[c]?:=by
 simp[setBlk,Array.getElem?_setIfInBounds_ne h]
theorem size_setBlk(w:World)(b:Nat)(o:Obj):(setBlk w b o).heap.size=w.heap.size:=by simp[setBlk]
theorem setCell_setBlk{w:World}{b off:Nat}{cs:List Value}{t:TypeId}{v:Value}(h:w.heap[b]?=some (.cells cs.toArray t (0,0))):
  w.setCell ⟨b,off,none⟩ v=setBlk w b (.cells (cs.set off v).toArray t (0,0)):=by
 have hlt:b<w.heap.size:=(Array.getElem?_eq_some_iff.1 h).1
 have e:(w.setCell ⟨b,off,none⟩ v).heap=w.heap.setIfInBounds b (.cells (cs.set off v).toArray t (0,0)):=by
  apply Array.ext_getElem?
  intro i
  by_cases hi:i=b
  ·subst hi
   rw[heap_setCell_same w i off cs.toArray t v h,Array.getElem?_setIfInBounds_self_of_lt hlt]
   simp
  ·rw[heap_setCell_other w _ i v hi,Array.getElem?_setIfInBounds_ne (Ne.symm hi)]
 have e1:w.setCell ⟨b,off,none⟩ v={ w with heap:=(w.setCell ⟨b,off,none⟩ v).heap }:=rfl
 rw[e1,e];rfl
theorem run_storeCells_blk{P:Program}{b t:Nat}:∀(vs:List Value) (i off:Nat) (w:World) (cs:List Value),w.heap[b]?=some (.cells cs.toArray t (0,0)) →
  off+i+vs.length≤cs.length→vs.all Value.oneCell'=true →
  (storeCells ⟨b,off,none⟩ vs i).run P w=.ok () (setBlk w b (.cells (wrC cs (off+i) vs).toArray t (0,0)))
 | [],i,off,w,cs,h,_,_=>by
  rw[wrC_nil,setBlk_self h];rfl
 | v::vs,i,off,w,cs,h,hl,h1=>by
  simp only[List.all_cons,Bool.and_eq_true] at h1
  have hcell:w.cell? ⟨b,off+i,none⟩=cs[off+i]?:=by rw[cell_of_row w b (off+i) cs.toArray t (0,0) h];simp
  have hlt:off+i<cs.length:=by simp at hl;omega
  have hfz:=frozen_of_row w b (off+i) cs.toArray t h
  have e:(store ((⟨b,off,none⟩:Addr).add i) v).run P w=.ok () (setBlk w b (.cells (cs.set (off+i) v).toArray t (0,0))):=by
   rw[Addr.add_mid,←setCell_setBlk h]
   have hc:w.cell? ⟨b,off+i,none⟩=some cs[off+i]:=by rw[hcell];simp[hlt]
   have h10:=h1.1
   cases v<;>first
    | (simp[Value.oneCell'] at h10;done)
    | simp[store,Sem.run,hc,hfz]
  unfold storeCells
  rw[Sem.run_bind,e]
  show(storeCells ⟨b,off,none⟩ vs (i+1)).run P _=_
  have hh:(setBlk w b (.cells (cs.set (off+i) v).toArray t (0,0))).heap[b]?=some (.cells (cs.set (off+i) v).toArray t (0,0)):=heap_setBlk h
  rw[run_storeCells_blk vs (i+1) off _ (cs.set (off+i) v) hh (by simp at hl ⊢;omega) h1.2,setBlk_setBlk]
  rw[show off+(i+1)=off+i+1 from by omega,wrC_cons (by simp at hl;omega)]
theorem Sats.get:∀{L:List HP} {F:List Nat} {w:World} {i:Nat} {H:HP},Sats L F w→L[i]?=some H→∃ids,H.sat ids w∧∀b∈ids,b∈F
 | [],_,_,_,_,_,h=>by simp at h
 | _::L,F,w,0,H,⟨j,G,hF,hj,_⟩,h=>by
  simp only[List.getElem?_cons_zero,Option.some.injEq] at h
  subst h;subst hF
  exact⟨j,hj,fun b hb=>by simp[hb]⟩
 | _::L,F,w,i+1,H,⟨j,G,hF,_,hG⟩,h=>by
  simp only[List.getElem?_cons_succ] at h
  obtain⟨ids,h1,h2⟩:=Sats.get hG h
  subst hF
  exact⟨ids,h1,fun b hb=>by simp[h2 b hb]⟩
theorem St.atPt{X:Cx}{L:List HP}{w:World}(h:St X L w){i b t:Nat}{cs:List Value}(hL:L[i]?=some (pt b cs t)):
  w.heap[b]?=some (.cells cs.toArray t (0,0))∧¬X.Fr b:=by
 obtain⟨F,hs,_,hb⟩:=h.sat
 obtain⟨ids,h1,h2⟩:=hs.get hL
 obtain⟨rfl,h1⟩:=h1
 exact⟨h1,(hb b (h2 b yf)).1⟩
theorem Sats.set:∀{L:List HP} {F:List Nat} {w w':World} {i b t t':Nat} {cs cs':List Value},Sats L F w→F.Nodup→L[i]?=some (pt b cs t) →
  w'.heap[b]?=some (.cells cs'.toArray t' (0,0))→(∀c,c≠b→w'.heap[c]?=w.heap[c]?)→Sats (L.set i (pt b cs' t')) F w'
 | [],_,_,_,_,_,_,_,_,_,_,_,h,_,_=>by simp at h
 | _::L,F,w,w',0,b,t,t',cs,cs',⟨j,G,hF,hj,hG⟩,hn,h,h1,h2=>by
  simp only[List.getElem?_cons_zero,Option.some.injEq] at h
  subst h;subst hF
  obtain⟨rfl,hj⟩:=hj
  refine⟨[b],G,rfl,⟨rfl,h1⟩,hG.loc fun c hc=>h2 c fun he=>?_⟩
  subst he
  simp at hn
  exact hn.1 hc
 | H::L,F,w,w',i+1,b,t,t',cs,cs',⟨j,G,hF,hj,hG⟩,hn,h,h1,h2=>by
  simp only[List.getElem?_cons_succ] at h
  subst hF
  obtain⟨hnj,hnG,hd⟩:=List.nodup_append.1 hn
  obtain⟨ids,hp,hm⟩:=hG.get h
  obtain⟨rfl,_⟩:=hp
  have hb:=hm b yf
  exact⟨j,G,rfl,H.loc j w w' (fun c hc=>h2 c fun he=>hd c hc b hb he) hj,Sats.set hG hnG h h1 h2⟩
theorem St.set{X:Cx}{L:List HP}{w:World}(h:St X L w){i b t:Nat}{cs cs':List Value}(hL:L[i]?=some (pt b cs t)):
  St X (L.set i (pt b cs' t)) (setBlk w b (.cells cs'.toArray t (0,0))):=by
 obtain⟨h0,hf⟩:=h.atPt hL
 obtain⟨F,hs,hn,hb⟩:=h.sat
 refine⟨⟨F,hs.set hn hL (heap_setBlk h0) (fun c hc=>heap_setBlk_ne (Ne.symm hc)),hn,fun c hc=>⟨(hb c hc).1,by rw[size_setBlk];exact(hb c hc).2⟩⟩,?_,h.low⟩
 exact xdd
theorem St.alloc{X:Cx}{L:List HP}{w:World}(h:St X L w)(cs:List Value)(t:Nat):St X (pt w.heap.size cs t::L) (w.alloc (.cells cs.toArray t)):=
 ⟨h.sat.alloc h.lowW _ _ ⟨rfl,heap_alloc_new w _⟩,h.keep.trans (Keep.alloc h.lowW _),h.low⟩
def Rd(agg:Bool)(n b off:Nat)(v:Value)(w:World):Prop:=
 match agg with
 | true=>∃cs:List Value,v=.agg cs.toArray∧cs.length=n∧w.rangeAt b off cs
 | false=>w.cell? ⟨b,off,none⟩=some v
theorem TIok.aggR{P:Program}{t:Nat}{ti:TI}(h:TIok P t ti)(w:World):(isAgg t).run P w=.ok ti.und.agg w:=by
 obtain⟨d,hd,hr⟩:=run_und h w
 have hu:=h.und
 unfold Go.isAgg
 rw[Sem.run_bind,hr]
 unfold undOf at hu
 rw[hd] at hu
 cases d<;>simp at hu<;>rw[←hu]<;>rfl
theorem TIok.info'{P:Program}{t:Nat}{ti:TI}(h:TIok P t ti):∃i,P.info? t=some i∧i.size=ti.size∧i.bytes=ti.bytes∧i.zero=some ti.zero:=by
 have:=h.info
 cases hi:P.info? t with
 | none=>simp[hi] at this
 | some i=>exact⟨i,rfl,by simpa[hi] using this⟩
theorem run_loadAt{P:Program}{t:Nat}{ti:TI}(h:TIok P t ti){b off:Nat}{v:Value}{w:World}(hr:Rd ti.und.agg ti.size b off v w):
  (Instr.loadAt t (.pointer (some ⟨b,off,none⟩))).run P w=.ok v w:=by
 obtain⟨i,hi,hs,_,_⟩:=h.info'
 have ha:=h.aggR w
 unfold Instr.loadAt
 simp only[Instr.sureAddr,Sem.run_bind,Sem.run_pure,Result.andThen_ok,loadVar,ha]
 cases hg:ti.und.agg
 ·rw[hg] at hr
  simp only[Rd] at hr
  simp[Go.load,Sem.run,hr]
 ·rw[hg] at hr
  simp only[Rd] at hr
  obtain⟨cs,rfl,hl,hc⟩:=hr
  have hload:(loadCells ⟨b,off,none⟩ cs.length).run P w=.ok cs.toArray w:=
   run_loadCells_list (P:=P) w ⟨b,off,none⟩ cs (fun j v hv=>by rw[Addr.add_mid];exact hc j v hv)
  simp[Sem.run_bind,run_size hi,hs,←hl,hload]
def RdL(X:Cx)(L:List HP)(ti:TI)(b off:Nat)(v:Value):Prop:=∀w,St X L w→Rd ti.und.agg ti.size b off v w
theorem rd_cell{w:World}{b t:Nat}{cs:List Value}{fz:Nat×Nat}(h:w.heap[b]?=some (.cells cs.toArray t fz)){off:Nat}{v:Value}{n:Nat}(hv:cs[off]?=some v):Rd false n b off v w:=by
 show w.cell? _=_
 rw[cell_of_row w b off cs.toArray t fz h];simpa using hv
theorem rd_agg{w:World}{b t:Nat}{cs:List Value}{fz:Nat×Nat}(h:w.heap[b]?=some (.cells cs.toArray t fz)){off n:Nat}{ds:List Value}(hd:(cs.drop off).take n=ds)(hl:ds.length=n):Rd true n b off (.agg ds.toArray) w:=by
 refine⟨ds,rfl,hl,fun j v hv=>?_⟩
 rw[cell_of_row w b (off+j) cs.toArray t fz h]
 have hj:j<ds.length:=(List.getElem?_eq_some_iff.1 hv).1
 rw[←hd] at hv
 rw[List.getElem?_take,if_pos yd,List.getElem?_drop] at hv
 simpa using hv
theorem RdL.one{X:Cx}{L:List HP}{ti:TI}{b off t:Nat}{cs:List Value}{v:Value}(i:Nat)(hL:L[i]?=some (pt b cs t))(hv:cs[off]?=some v)(ha:ti.und.agg=false:=by rfl):RdL X L ti b off v:=fun w hw=>by
 rw[ha];exact rd_cell (hw.atPt hL).1 hv
theorem RdL.many{X:Cx}{L:List HP}{ti:TI}{b off t:Nat}{cs ds:List Value}(i:Nat)(hL:L[i]?=some (pt b cs t))(hd:(cs.drop off).take ti.size=ds)(hl:ds.length=ti.size:=by rfl)(ha:ti.und.agg=true:=by rfl):RdL X L ti b off (.agg ds.toArray):=fun w hw=>by
 rw[ha];exact rd_agg (hw.atPt hL).1 hd hl
theorem RdL.ro1{X:Cx}{L:List HP}{ti:TI}{b off t:Nat}{cs:List Value}{fz:Nat×Nat}{v:Value}(hF:X.Fr b)(h0:X.w0.heap[b]?=some (.cells cs.toArray t fz))(hv:cs[off]?=some v)(ha:ti.und.agg=false:=by rfl):RdL X L ti b off v:=fun w hw=>by
 rw[ha];exact rd_cell ((hw.keep.block b hF).trans h0) hv
theorem RdL.roN{X:Cx}{L:List HP}{ti:TI}{b off t:Nat}{cs ds:List Value}{fz:Nat×Nat}(hF:X.Fr b)(h0:X.w0.heap[b]?=some (.cells cs.toArray t fz))(hd:(cs.drop off).take ti.size=ds)(hl:ds.length=ti.size:=by rfl)(ha:ti.und.agg=true:=by rfl):RdL X L ti b off (.agg ds.toArray):=fun w hw=>by
 rw[ha];exact rd_agg ((hw.keep.block b hF).trans h0) hd hl
theorem RdL.rd{X:Cx}{L:List HP}{ti:TI}{b off:Nat}{v:Value}(hF:X.Fr b)(h0:Rd ti.und.agg ti.size b off v X.w0):RdL X L ti b off v:=fun w hw=>by
 have hb:=hw.keep.block b hF
 cases hg:ti.und.agg
 ·rw[hg] at h0
  show w.cell? _=_
  unfold World.cell?;rw[hb];exact h0
 ·rw[hg] at h0
  obtain⟨cs,h1,h2,h3⟩:=h0
  refine⟨cs,h1,h2,fun j v hv=>?_⟩
  have:=h3 j v hv
  unfold World.cell? at this ⊢;rw[hb];exact this
section
variable {X:Cx} {ops:Array Oper} {G:GS} {l:List Oper} {e:Env} {L:List HP} {K:Env→List HP→Prop}
  {dst:Option Tmp} {ty:TypeId} {pos:String} {after:Array Edge} {guard:Option (Nat×Bool)}
theorem run_load{T:TypeId}{x:Operand}{ti:TI}{b off:Nat}{v:Value}(hx:ev e x=some (.pointer (some ⟨b,off,none⟩)))(hT:tyLook X.tab T=some ti)
  {a:Act} (ha:Agr X.n a e) {w:World} (hr:Rd ti.und.agg ti.size b off v w) (dst:Option Tmp) (ty:TypeId) (pos:String) (after:Array Edge) (guard:Option (Nat×Bool)):
  (execOp a.eval ⟨dst,.load T x,ty,pos,after,guard⟩).run X.P w=.ok (.value v) w:=by
 simp only[execOp,ha.ev hx]
 rw[Sem.run_bind,run_loadAt (X.ok.look hT) hr];rfl
theorem OpT.load{T:TypeId}{x:Operand}{ti:TI}{b off:Nat}{v:Value}(hx:ev e x=some (.pointer (some ⟨b,off,none⟩)))(hT:tyLook X.tab T=some ti)(hr:RdL X L ti b off v):
  OpT X (.load T x) e L (fun u L'=>u=v∧L'=L):=fun _ w ha hw dst ty pos after guard=>
 .inl ⟨v,w,L,run_load hx hT ha (hr w hw) dst ty pos after guard,⟨rfl,rfl⟩,hw⟩
theorem VO.load{T:TypeId}{x:Operand}{ti:TI}{b off:Nat}{v:Value}(hx:ev e x=some (.pointer (some ⟨b,off,none⟩)))(hT:tyLook X.tab T=some ti)(hr:RdL X L ti b off v)
  (hk:VO X ops G l (putE dst v e) L K)
  (hg:gOn ops G guard=some true:=by rfl) (hd:dstOk X.n dst=true:=by rfl) (hf:gFree G dst=true:=by rfl):
  VO X ops G (⟨dst,.load T x,ty,pos,after,guard⟩::l) e L K:=
 VO.op hg hd hf (OpT.load hx hT hr) (fun _ _ ⟨h1,h2⟩=>by subst h1;subst h2;exact hk)
theorem VO.ld{T:TypeId}{x:Operand}{ti:TI}{b off t:Nat}{cs:List Value}{v:Value}(i:Nat)(hx:ev e x=some (.pointer (some ⟨b,off,none⟩)))(hL:L[i]?=some (pt b cs t))(hT:tyLook X.tab T=some ti)(hv:cs[off]?=some v)
  (hk:VO X ops G l (putE dst v e) L K) (ha:ti.und.agg=false:=by rfl)
  (hg:gOn ops G guard=some true:=by rfl) (hd:dstOk X.n dst=true:=by rfl) (hf:gFree G dst=true:=by rfl):
  VO X ops G (⟨dst,.load T x,ty,pos,after,guard⟩::l) e L K:=VO.load hx hT (RdL.one i hL hv ha) hk hg hd hf
theorem VO.ldA{T:TypeId}{x:Operand}{ti:TI}{b off t:Nat}{cs:List Value}(i:Nat)(ds:List Value)(hx:ev e x=some (.pointer (some ⟨b,off,none⟩)))(hL:L[i]?=some (pt b cs t))(hT:tyLook X.tab T=some ti)(hv:(cs.drop off).take ti.size=ds)
  (hk:VO X ops G l (putE dst (.agg ds.toArray) e) L K) (hl:ds.length=ti.size:=by rfl) (ha:ti.und.agg=true:=by rfl)
  (hg:gOn ops G guard=some true:=by rfl) (hd:dstOk X.n dst=true:=by rfl) (hf:gFree G dst=true:=by rfl):
  VO X ops G (⟨dst,.load T x,ty,pos,after,guard⟩::l) e L K:=VO.load hx hT (RdL.many i hL hv hl ha) hk hg hd hf
theorem run_storeAt{P:Program}{T:Nat}{ti:TI}(h:TIok P T ti){w:World}{b off t:Nat}{cs vs:List Value}{v:Value}(hb:w.heap[b]?=some (.cells cs.toArray t (0,0)))(hv:v.cells=vs.toArray)(hs:vs.length=ti.size)(hl:off+vs.length≤cs.length)(h1:vs.all Value.oneCell'=true):
  (Instr.storeAt T (.pointer (some ⟨b,off,none⟩)) v).run P w=.ok () (setBlk w b (.cells (wrC cs off vs).toArray t (0,0))):=by
 obtain⟨i,hi,hsz,_,_⟩:=h.info'
 have hr:=run_storeCells_blk (P:=P) vs 0 off w cs hb (by simpa using hl) h1
 simp only[Nat.add_zero] at hr
 have hcs:¬(v.cells.size≠i.size):=by rw[hv,hsz];simp[hs]
 simp[Instr.storeAt,Instr.sureAddr,storeVar,Sem.run_bind,run_size hi,hv,hsz,hs,hr]
theorem OpT.store{T:TypeId}{x y:Operand}{ti:TI}{b off t:Nat}{cs vs:List Value}{v:Value}(i:Nat)(hx:ev e x=some (.pointer (some ⟨b,off,none⟩)))(hy:ev e y=some v)(hL:L[i]?=some (pt b cs t))
  (hT:tyLook X.tab T=some ti) (hv:v.cells=vs.toArray) (hs:vs.length=ti.size) (hl:off+vs.length≤cs.length) (h1:vs.all Value.oneCell'=true):
  OpT X (.store T x y) e L (fun u L'=>u=undef∧L'=L.set i (pt b (wrC cs off vs) t)):=fun a w ha hw dst ty pos after guard=>by
 refine .inr (.inl ⟨_,_,?_,⟨rfl,rfl⟩,hw.set hL⟩)
 simp only[execOp,ha.ev hx,ha.ev hy]
 rw[Sem.run_bind,run_storeAt (X.ok.look hT) (hw.atPt hL).1 hv hs hl h1];rfl
theorem VO.st{T:TypeId}{x y:Operand}{ti:TI}{b off t:Nat}{cs cs':List Value}{v:Value}{L':List HP}(i:Nat)(hx:ev e x=some (.pointer (some ⟨b,off,none⟩)))(hy:ev e y=some v)(hL:L[i]?=some (pt b cs t))
  (hT:tyLook X.tab T=some ti) (hlt:off<cs.length) (hcs:cs.set off v=cs') (hL':L.set i (pt b cs' t)=L')
  (hk:VO X ops G l (putE dst undef e) L' K) (h1:v.oneCell'=true:=by rfl) (hv:v.cells=#[v]:=by rfl) (hsz:ti.size=1:=by rfl)
  (hg:gOn ops G guard=some true:=by rfl) (hd:dstOk X.n dst=true:=by rfl) (hf:gFree G dst=true:=by rfl):
  VO X ops G (⟨dst,.store T x y,ty,pos,after,guard⟩::l) e L K:=by
 refine VO.op hg hd hf (OpT.store (vs:=[v]) i hx hy hL hT hv (by simp[hsz]) ye yg) (fun _ _ ⟨h3,h4⟩=>?_)
 subst h3;subst h4
 rw[wrC_one cs off v hlt,hcs,hL'];exact hk
theorem VO.stA{T:TypeId}{x y:Operand}{ti:TI}{b off t:Nat}{cs cs' vs:List Value}{L':List HP}(i:Nat)(hx:ev e x=some (.pointer (some ⟨b,off,none⟩)))(hy:ev e y=some (.agg vs.toArray))(hL:L[i]?=some (pt b cs t))
  (hT:tyLook X.tab T=some ti) (hl:off+vs.length≤cs.length) (hcs:wrC cs off vs=cs') (hL':L.set i (pt b cs' t)=L') (h1:vs.all Value.oneCell'=true)
  (hk:VO X ops G l (putE dst undef e) L' K) (hs:vs.length=ti.size:=by rfl)
  (hg:gOn ops G guard=some true:=by rfl) (hd:dstOk X.n dst=true:=by rfl) (hf:gFree G dst=true:=by rfl):
  VO X ops G (⟨dst,.store T x y,ty,pos,after,guard⟩::l) e L K:=by
 refine VO.op hg hd hf (OpT.store (vs:=vs) i hx hy hL hT rfl hs hl h1) (fun _ _ ⟨h3,h4⟩=>?_)
 subst h3;subst h4
 rw[hcs,hL'];exact hk
theorem run_zero{P:Program}{t:Nat}{ti:TI}(h:TIok P t ti)(w:World):(zeroValue t).run P w=.ok ti.zero w:=by
 obtain⟨i,hi,_,_,hz⟩:=h.info'
 simp[zeroValue,typeInfo,hi,hz]
theorem OpT.alloc{T:TypeId}{ti:TI}(hT:tyLook X.tab T=some ti):OpT X (.alloc T) e L (fun u L'=>∃b,u=.pointer (some ⟨b,0,none⟩)∧L'=pt b ti.zs T::L):=fun a w _ hw dst ty pos after guard=>by
 refine .inl ⟨.pointer (some ⟨w.heap.size,0,none⟩),w.alloc (.cells ti.zs.toArray T),pt w.heap.size ti.zs T::L,?_,⟨w.heap.size,rfl,rfl⟩,hw.alloc ti.zs T⟩
 have h:=X.ok.look hT
 simp[execOp,Instr.alloc,run_zero h,newVar,newRow,newObj,Sem.run,h.zero]
theorem VO.alloc{T:TypeId}{ti:TI}(hT:tyLook X.tab T=some ti)(hk:∀b,VO X ops G l (putE dst (.pointer (some ⟨b,0,none⟩)) e) (pt b ti.zs T::L) K)
  (hg:gOn ops G guard=some true:=by rfl) (hd:dstOk X.n dst=true:=by rfl) (hf:gFree G dst=true:=by rfl):
  VO X ops G (⟨dst,.alloc T,ty,pos,after,guard⟩::l) e L K:=
 VO.op hg hd hf (OpT.alloc hT) (fun _ _ ⟨b,h1,h2⟩=>by subst h1;subst h2;exact hk b)
theorem OpT.box{T:TypeId}{x:Operand}{v:Value}{vs:List Value}(hx:ev e x=some v)(hv:v.cells=vs.toArray):OpT X (.box T x) e L (fun u L'=>∃b,u=.pointer (some ⟨b,0,none⟩)∧L'=pt b vs T::L):=fun a w ha hw dst ty pos after guard=>by
 refine .inl ⟨.pointer (some ⟨w.heap.size,0,none⟩),w.alloc (.cells vs.toArray T),pt w.heap.size vs T::L,?_,⟨w.heap.size,rfl,rfl⟩,hw.alloc vs T⟩
 simp[execOp,Instr.box,ha.ev hx,newVar,newRow,newObj,Sem.run,hv]
theorem VO.boxA{T:TypeId}{x:Operand}{vs:List Value}(hx:ev e x=some (.agg vs.toArray))(hk:∀b,VO X ops G l (putE dst (.pointer (some ⟨b,0,none⟩)) e) (pt b vs T::L) K)
  (hg:gOn ops G guard=some true:=by rfl) (hd:dstOk X.n dst=true:=by rfl) (hf:gFree G dst=true:=by rfl):
  VO X ops G (⟨dst,.box T x,ty,pos,after,guard⟩::l) e L K:=
 VO.op hg hd hf (OpT.box hx rfl) (fun _ _ ⟨b,h1,h2⟩=>by subst h1;subst h2;exact hk b)
theorem VO.box1{T:TypeId}{x:Operand}{v:Value}(hx:ev e x=some v)(hk:∀b,VO X ops G l (putE dst (.pointer (some ⟨b,0,none⟩)) e) (pt b [v] T::L) K)(hv:v.cells=#[v]:=by rfl)
  (hg:gOn ops G guard=some true:=by rfl) (hd:dstOk X.n dst=true:=by rfl) (hf:gFree G dst=true:=by rfl):
  VO X ops G (⟨dst,.box T x,ty,pos,after,guard⟩::l) e L K:=
 VO.op hg hd hf (OpT.box hx hv) (fun _ _ ⟨b,h1,h2⟩=>by subst h1;subst h2;exact hk b)
end
end Vg
namespace Vg
open Go
def waits(ops:Array Oper)(j i:Nat):Bool:=
 match ops[j]? with
 | some o=>o.after.any fun e=>Region.binds .any e&&e.on == i
 | none=>false
theorem value_defer{P:Program}{ρ:Operand→Value}{o:Oper}{w w':World}{v:Value}(h:(execOp ρ o).run P w=.ok (.value v) w'):∀c,o.op≠.defer c:=by
 obtain⟨dst,op,ty,pos,after,guard⟩:=o
 rintro c rfl
 have e:execOp ρ ⟨dst,.defer c,ty,pos,after,guard⟩=(do pure (.defer (←resolve ρ c ty))):=rfl
 rw[e,Sem.run_bind] at h
 cases h2:(resolve ρ c ty).run P w with
 | ok d w2=>rw[h2] at h;cases h
 | halt y w2=>rw[h2] at h;cases h
section
variable {P:Program} {ops:Array Oper} {Q:Exit→Act→World→Prop} {ro:Option Nat}
theorem semAt_put(o:Oper)(hs:∀cs b,o.op≠.select cs b)(a:Act)(dst:Option Tmp)(v:Value)(h:∀d,dst=some d→d∉o.looksAt ops):
  o.semAt (wR ro).round (a.put dst v).eval=o.semAt (wR ro).round a.eval:=by
 by_cases hd:∃c,o.op=.defer c
 ·obtain⟨c,hc⟩:=hd
  have hr:=resolve_congr (ρ:=(a.put dst v).eval) (ρ':=a.eval) c o.type fun x hx=>Act.eval_put fun d hd hxd=>h d hd (by
   subst hxd
   exact List.mem_append_left _ (List.mem_filterMap.2 ⟨.tmp d,by rw[hc];simpa[Op.operands] using hx,rfl⟩))
  unfold Oper.semAt
  cases hro:(wR ro).round with
  | none=>exact execOp_put o hs a dst v h
  | some l=>
   rw[hc]
   dsimp only
   rw[hr]
 ·have hn:∀c,o.op≠.defer c:=fun c e=>hd ⟨c,e⟩
  rw[Oper.semAt_eq _ _ o hn,Oper.semAt_eq _ _ o hn,execOp_put o hs a dst v h]
theorem yields_in{S:World→Prop}{i:Nat}{o:Oper}{v:Value}{a:Act}(hi:ops[i]?=some o)(hy:YieldsIf P ops S o v a)
  {K:Act→World→Prop} {w:World} (hS:S w) (h:K (a.put o.dst v) w):wpOpIn (wR ro) 0 P ops Q i K a w:=by
 unfold wpOpIn
 simp only[hi]
 rcases hy with ⟨hw,hv⟩ | ⟨hw,rfl⟩
 ·simp only[hw,if_true]
  refine⟨fun _ _=>trivial,?_⟩
  rw[semAt_of ro _ o (value_defer (hv w hS)),hv w hS]
  exact h
 ·simp only[hw,Bool.false_eq_true,if_false]
  exact⟨fun _ _=>trivial,h⟩
theorem wpOpIn_putIf{S:World→Prop}{j:Nat}{oi oj:Oper}{v:Value}(hj:ops[j]?=some oj)(hap:oi.apart ops oj=true)
  (hsi:∀cs b,oi.op≠.select cs b) (hsj:∀cs b,oj.op≠.select cs b)
  (hQ:∀c a w,Q (.panic c) (a.put oi.dst v) w→Q (.panic c) a w) {K:Act→World→Prop} {a:Act} {w:World}
  (hy:YieldsIf P ops S oi v a) (h:wpOpIn (wR ro) 0 P ops Q j K (a.put oi.dst v) w):
  wpOpIn (wR ro) 0 P ops Q j (fun a' w'=>YieldsIf P ops S oi v a'∧K (a'.put oi.dst v) w') a w:=by
 obtain⟨h1,h2,h3⟩:=Oper.apart_spec hap
 have keep:∀(a:Act),YieldsIf P ops S oi v a→∀u,YieldsIf P ops S oi v (a.put oj.dst u):=fun a hy u=>
  hy.of_same (execOp_put oi hsi a oj.dst u h3) (wanted_put oi a oj.dst u h3)
 have keepD:∀d,YieldsIf P ops S oi v { a with defers:=d::a.defers }:=fun d=>hy.of_same rfl rfl
 unfold wpOpIn at *
 simp only[hj] at *
 rw[wanted_put oj a oi.dst v h1] at h
 split
 ·rename_i hw
  simp only[hw,if_true] at h
  refine⟨fun _ _=>trivial,?_⟩
  have h:=h.2
  rw[semAt_put oj hsj a oi.dst v h1] at h
  generalize (oj.semAt (wR ro).round a.eval).run P w=r at *
  cases r with
  | ok x w'=>
   cases x<;>simp only[Oper.uponIn] at h ⊢
   case value u=>exact⟨keep a hy u,by rw[←Act.put_comm a v u h2];exact h⟩
   case skip=>exact⟨keep a hy _,by rw[←Act.put_comm a v undef h2];exact h⟩
   case defer d=>
    refine⟨keep _ (keepD d) _,?_⟩
    rw[←Act.put_comm _ v undef h2,←Act.put_defers]
    exact h
   case enter f args=>
    refine⟨h.1,CallsIn.mono h.2 fun e w'' he=>?_⟩
    cases e with
    | returned u=>exact⟨keep a hy u,by rw[←Act.put_comm a v u h2];exact he⟩
    | panicked c=>exact hQ _ _ _ he
    | outgrown=>exact he
   case row row args=>exact⟨h.1,RowsIn.mono h.2 fun u w'' he=>⟨keep a hy u,by rw[←Act.put_comm a v u h2];exact he⟩⟩
   case round l f tmps assign body=>
    refine⟨h.1,RoundIn.mono h.2 fun e w'' he=>?_⟩
    cases e with
    | returned u=>exact⟨keep a hy u,by rw[←Act.put_comm a v u h2];exact he⟩
    | panicked c=>exact hQ _ _ _ he
    | outgrown=>exact he
  | halt x w'=>
   cases x<;>simp only[Oper.uponIn] at h ⊢
   case panic u=>exact hQ _ _ _ h
 ·rename_i hw
  simp only[hw] at h
  exact⟨fun _ _=>trivial,keep a hy _,by rw[←Act.put_comm a v undef h2];exact h.2⟩
end
section
variable {P:Program} {ops:Array Oper} {Q:Exit→Act→World→Prop} {ro:Option Nat}
abbrev Pend:=List (Nat×(World→Prop))
def wpAnyP(ro:Option Nat)(P:Program)(ops:Array Oper)(Q:Exit→Act→World→Prop):Nat→Array Bool→Pend→Act→World→Prop
 | 0,listed,_,a,w=>Region.ready .any ops listed=[]∧Q .normal a w
 | fuel+1,listed,S,a,w=>
  (Region.ready .any ops listed=[]→Q .normal a w) ∧
  ∀j∈Region.ready .any ops listed,wpOpIn (wR ro) 0 P ops Q j (fun a' w'=>(∀p∈S,waits ops j p.1=false→p.2 w') ∧
   wpAnyP ro P ops Q fuel (listed.setIfInBounds j true) (S.filter fun p=>!waits ops j p.1) a' w') a w
theorem wpAnyP_mono:∀(fuel:Nat) (listed:Array Bool) (S S':Pend) (a:Act) (w:World),(∀p∈S',p∈S)→wpAnyP ro P ops Q fuel listed S a w→wpAnyP ro P ops Q fuel listed S' a w
 | 0,_,_,_,_,_,_,h=>h
 | fuel+1,_,S,S',_,_,hs,h=>⟨h.1,fun j hj=>wpOpIn_mono (fun a' w' h'=>⟨fun p hp=>h'.1 p (hs p hp),wpAnyP_mono fuel _ _ _ a' w' (fun p hp=>by
   rw[List.mem_filter] at hp ⊢;exact⟨hs p hp.1,hp.2⟩) h'.2⟩) (h.2 j hj)⟩
theorem wpAny_of_P:∀(fuel:Nat) (listed:Array Bool) (S:Pend) (a:Act) (w:World),wpAnyP ro P ops Q fuel listed S a w→wpAnyIn (wR ro) 0 P .any ops Q fuel listed a w
 | 0,_,_,_,_,h=>h
 | fuel+1,_,_,_,_,h=>⟨h.1,fun j hj=>wpOpIn_mono (fun a' w' h'=>wpAny_of_P fuel _ _ a' w' h'.2) (h.2 j hj)⟩
theorem wpAnyP_first{i:Nat}{oi:Oper}{v:Value}{Si:World→Prop}(hi:ops[i]?=some oi)(hsel:∀(j:Nat) (o:Oper) cs b,ops[j]?=some o→o.op≠.select cs b)
  (hQ:∀c a w,Q (.panic c) (a.put oi.dst v) w→Q (.panic c) a w):
  ∀(fuel:Nat) (listed:Array Bool) (S:Pend) (a:Act) (w:World),
   (∀j oj,ops[j]?=some oj→j≠i→listed.getD j true=false→(∀e∈oj.after,Region.binds .any e=true→e.on≠i)→oi.apart ops oj=true) →
   i∈Region.ready .any ops listed→YieldsIf P ops Si oi v a→Si w→(∀p∈S,p.2 w) →
   wpAnyP ro P ops Q fuel (listed.setIfInBounds i true) ((i,Si)::S) (a.put oi.dst v) w→wpAnyP ro P ops Q (fuel+1) listed S a w:=by
 intro fuel
 induction fuel with
 | zero=>
  intro listed S a w _ hr hy hS hall H
  refine⟨fun h=>(by rw[h] at hr;cases hr),fun j hj=>?_⟩
  by_cases hji:j=i
  ·subst hji;exact yields_in hi hy hS ⟨fun p hp _=>hall p hp,H⟩
  ·have:=ready_mono hj hji
   rw[H.1] at this
   cases this
 | succ fuel ih=>
  intro listed S a w hfree hr hy hS hall H
  refine⟨fun h=>(by rw[h] at hr;cases hr),fun j hj=>?_⟩
  by_cases hji:j=i
  ·subst hji
   exact yields_in hi hy hS ⟨fun p hp _=>hall p hp,wpAnyP_mono _ _ _ _ _ _ (fun p hp=>List.mem_cons_of_mem _ (List.mem_filter.1 hp).1) H⟩
  ·have h1:=H.2 j (ready_mono hj hji)
   obtain⟨hjun,oj,hoj,hall'⟩:=mem_ready.1 hj
   have hnot:∀e∈oj.after,Region.binds .any e=true→e.on≠i:=fun e he hb heq=>by
    have h1:=hall' e he hb
    have h0:=(mem_ready.1 hr).1
    rw[heq] at h1
    rcases Nat.lt_or_ge i listed.size with h' | h'
    ·simp[h'] at h0 h1;rw[h0] at h1;cases h1
    ·simp[Array.getElem?_eq_none h'] at h1
   have hwt:waits ops j i=false:=by
    unfold waits;rw[hoj]
    cases hany:oj.after.any fun e=>Region.binds .any e&&e.on == i
    ·exact hany
    ·obtain⟨e,he,hb⟩:=Array.any_eq_true'.1 hany
     simp only[Bool.and_eq_true,beq_iff_eq] at hb
     exact(hnot e he hb.1 hb.2).elim
   have h2:=wpOpIn_putIf hoj (hfree j oj hoj hji hjun hnot) (fun cs b=>hsel i oi cs b hi) (fun cs b=>hsel j oj cs b hoj) hQ hy h1
   have hfree':∀k ok,ops[k]?=some ok→k≠i→(listed.setIfInBounds j true).getD k true=false →
     (∀e∈ok.after,Region.binds .any e=true→e.on≠i)→oi.apart ops ok=true:=fun k ok hk hki hun hno=>by
    refine hfree k ok hk hki ?_ hno
    by_cases hjk:j=k
    ·subst hjk;exact hjun
    ·rw[getD_set_ne true hjk] at hun;exact hun
   refine wpOpIn_mono (fun a' w' h3=>?_) h2
   obtain⟨hy',hst,H'⟩:=h3
   refine⟨fun p hp hq=>hst p (List.mem_cons_of_mem _ hp) hq,?_⟩
   refine ih (listed.setIfInBounds j true) _ a' w' hfree' (ready_mono hr (Ne.symm hji)) hy' (hst (i,Si) (List.mem_cons_self ..) hwt) (fun p hp=>?_) ?_
   ·have:=List.mem_filter.1 hp
    exact hst p (List.mem_cons_of_mem _ this.1) (by simpa using this.2)
   ·rw[Array.setIfInBounds_comm _ _ hji]
    rw[List.filter_cons_of_pos (by simp[hwt])] at H'
    exact H'
theorem wpAnyP_more:∀(fuel:Nat) (listed:Array Bool) (S S':Pend) (a:Act) (w:World),(∀p∈S',p∈S∨∀w,p.2 w)→wpAnyP ro P ops Q fuel listed S a w→wpAnyP ro P ops Q fuel listed S' a w
 | 0,_,_,_,_,_,_,h=>h
 | fuel+1,_,S,S',_,_,hs,h=>⟨h.1,fun j hj=>wpOpIn_mono (fun a' w' h'=>⟨fun p hp hq=>(hs p hp).elim (fun h=>h'.1 p h hq) (fun h=>h w'),wpAnyP_more fuel _ _ _ a' w' (fun p hp=>by
   rw[List.mem_filter] at hp
   rcases hs p hp.1 with h1 | h1
   ·exact .inl (List.mem_filter.2 ⟨h1,hp.2⟩)
   ·exact .inr h1) h'.2⟩) (h.2 j hj)⟩
inductive Plan where
 | nil
 | take (i:Nat) (p:Plan)
 | only(i:Nat) (p:Plan)
 | two (i j:Nat) (p q:Plan)
 | three (i j m:Nat) (p q r:Plan)
def Plan.len:Plan→Nat
 | .nil=>0
 | .take _ p=>p.len+1
 | .only _ p=>p.len+1
 | .two _ _ p _=>p.len+1
 | .three _ _ _ p _ _=>p.len+1
def ts(i:Nat):Nat→Plan→Plan
 | 0,p=>p
 | n+1,p=>.take i (ts (i+1) n p)
def planB(ops:Array Oper):Array Bool→Plan→Bool
 | listed,.nil=>(Region.ready .any ops listed).isEmpty
 | listed,.take i r=>(Region.ready .any ops listed).contains i&&Region.free .any ops listed i&&planB ops (listed.setIfInBounds i true) r
 | listed,.only i r=>(Region.ready .any ops listed == [i])&&planB ops (listed.setIfInBounds i true) r
 | listed,.two i j p q=>(Region.ready .any ops listed == [i,j])&&planB ops (listed.setIfInBounds i true) p&&planB ops (listed.setIfInBounds j true) q&&Nat.beq p.len q.len
 | listed,.three i j m p q r=>(Region.ready .any ops listed == [i,j,m])&&planB ops (listed.setIfInBounds i true) p&&planB ops (listed.setIfInBounds j true) q&&planB ops (listed.setIfInBounds m true) r&&Nat.beq p.len q.len&&Nat.beq p.len r.len
end
def VA(X:Cx)(ops:Array Oper)(G:GS)(pl:Plan)(S:Pend)(e:Env)(L:List HP)(K:Env→List HP→Prop):Prop:=
 ∀(Q':Exit→Act→World→Prop),(∀c a w,¬Q' (.panic c) a w)→(∀e' L' a' w',Agr X.n a' e'→St X L' w'→K e' L'→Q' .normal a' w')→Region.noSelect ops=true →
  ∀ro listed a w,planB ops listed pl=true→Agr X.n a e→GOk G a→St X L w→(∀p∈S,p.2 w)→wpAnyP ro X.P ops Q' pl.len listed S a w
section
variable {X:Cx} {ops:Array Oper} {G:GS} {pl:Plan} {S:Pend} {e:Env} {L:List HP} {K:Env→List HP→Prop}
theorem VA.nil(h:K e L):VA X ops G .nil S e L K:=by
 intro Q' _ hQ _ ro listed a w hp ha _ hw _
 simp only[planB,List.isEmpty_iff] at hp
 exact⟨hp,hQ _ _ _ _ ha hw h⟩
theorem VA.first{i:Nat}{o:Oper}{v:Value}{Si:World→Prop}(hi:ops.toList[i]?=some o)(hd:dstOk X.n o.dst=true)(hf:gFree G o.dst=true)
  (hy:∀a,Agr X.n a e→GOk G a→YieldsIf X.P ops Si o v a) (hS:∀w,St X L w→Si w) (hk:VA X ops G pl ((i,Si)::S) (putE o.dst v e) L K):VA X ops G (.take i pl) S e L K:=by
 intro Q' hp0 hQ hsel ro listed a w hp ha hG hw hall
 simp only[planB,Bool.and_eq_true] at hp
 have hi':ops[i]?=some o:=by simpa using hi
 exact wpAnyP_first hi' (Region.noSelect_spec hsel) (fun c a w h=>(hp0 c _ w h).elim) pl.len listed S a w (Region.free_spec hi' hp.1.2) (by simpa using hp.1.1) (hy a ha hG) (hS w hw) hall
  (hk Q' hp0 hQ hsel ro _ _ w hp.2 (ha.putE hd v) (hG.put hf v) hw (fun p h=>by
   rcases List.mem_cons.1 h with rfl | h
   ·exact hS w hw
   ·exact hall p h))
theorem VA.pure{i:Nat}{o:Oper}{v:Value}(hi:ops.toList[i]?=some o)(hg:gOn ops G o.guard=some true)(hd:dstOk X.n o.dst=true)(hf:gFree G o.dst=true)
  (hl:Light X o.op e v) (hk:VA X ops G pl S (putE o.dst v e) L K):VA X ops G (.take i pl) S e L K:=by
 refine VA.first (Si:=fun _=>True) hi hd hf (fun a ha hG=>.inl ⟨gOn_wanted hG hg,fun w _=>hl a ha _ _ _ _ _ w⟩) (fun _ _=>trivial) ?_
 intro Q' hp0 hQ hsel ro listed a w hp ha hG hw hall
 have:=hk Q' hp0 hQ hsel ro listed a w hp ha hG hw (fun p h=>hall p (List.mem_cons_of_mem _ h))
 exact wpAnyP_more pl.len listed S _ a w (fun p hp=>by
  rcases List.mem_cons.1 hp with rfl | hp
  ·exact .inr fun _=>trivial
  ·exact .inl hp) this
theorem VA.off{i:Nat}{o:Oper}(hi:ops.toList[i]?=some o)(hg:gOn ops G o.guard=some false)(hd:dstOk X.n o.dst=true)(hf:gFree G o.dst=true)
  (hk:VA X ops G pl S (putE o.dst undef e) L K):VA X ops G (.take i pl) S e L K:=by
 refine VA.first (Si:=fun _=>True) hi hd hf (fun a ha hG=>.inr ⟨gOn_wanted hG hg,rfl⟩) (fun _ _=>trivial) ?_
 intro Q' hp0 hQ hsel ro listed a w hp ha hG hw hall
 have:=hk Q' hp0 hQ hsel ro listed a w hp ha hG hw (fun p h=>hall p (List.mem_cons_of_mem _ h))
 exact wpAnyP_more pl.len listed S _ a w (fun p hp=>by
  rcases List.mem_cons.1 hp with rfl | hp
  ·exact .inr fun _=>trivial
  ·exact .inl hp) this
theorem VA.load{i:Nat}{dst:Option Tmp}{ty:TypeId}{pos:String}{after:Array Edge}{guard:Option (Nat×Bool)}{T:TypeId}{x:Operand}{ti:TI}{b off:Nat}{v:Value}
  (hi:ops.toList[i]?=some ⟨dst,.load T x,ty,pos,after,guard⟩) (hx:ev e x=some (.pointer (some ⟨b,off,none⟩))) (hT:tyLook X.tab T=some ti) (hr:RdL X L ti b off v)
  (hk:VA X ops G pl ((i,Rd ti.und.agg ti.size b off v)::S) (putE dst v e) L K)
  (hg:gOn ops G guard=some true:=by rfl) (hd:dstOk X.n dst=true:=by rfl) (hf:gFree G dst=true:=by rfl):VA X ops G (.take i pl) S e L K:=
 VA.first (Si:=Rd ti.und.agg ti.size b off v) hi hd hf (fun _ ha hG=>.inl ⟨gOn_wanted hG hg,fun _ hw=>run_load hx hT ha hw _ _ _ _ _⟩) hr hk
theorem VA.ld{j:Nat}{dst:Option Tmp}{ty:TypeId}{pos:String}{after:Array Edge}{guard:Option (Nat×Bool)}{T:TypeId}{x:Operand}{ti:TI}{b off t:Nat}{cs:List Value}{v:Value}(i:Nat)
  (hi:ops.toList[j]?=some ⟨dst,.load T x,ty,pos,after,guard⟩) (hx:ev e x=some (.pointer (some ⟨b,off,none⟩))) (hL:L[i]?=some (pt b cs t)) (hT:tyLook X.tab T=some ti) (hv:cs[off]?=some v)
  (hk:VA X ops G pl ((j,Rd ti.und.agg ti.size b off v)::S) (putE dst v e) L K) (ha:ti.und.agg=false:=by rfl)
  (hg:gOn ops G guard=some true:=by rfl) (hd:dstOk X.n dst=true:=by rfl) (hf:gFree G dst=true:=by rfl):VA X ops G (.take j pl) S e L K:=
 VA.load hi hx hT (RdL.one i hL hv ha) hk hg hd hf
theorem VA.ldA{j:Nat}{dst:Option Tmp}{ty:TypeId}{pos:String}{after:Array Edge}{guard:Option (Nat×Bool)}{T:TypeId}{x:Operand}{ti:TI}{b off t:Nat}{cs:List Value}(i:Nat)(ds:List Value)
  (hi:ops.toList[j]?=some ⟨dst,.load T x,ty,pos,after,guard⟩) (hx:ev e x=some (.pointer (some ⟨b,off,none⟩))) (hL:L[i]?=some (pt b cs t)) (hT:tyLook X.tab T=some ti) (hv:(cs.drop off).take ti.size=ds)
  (hk:VA X ops G pl ((j,Rd ti.und.agg ti.size b off (.agg ds.toArray))::S) (putE dst (.agg ds.toArray) e) L K) (hl:ds.length=ti.size:=by rfl) (ha:ti.und.agg=true:=by rfl)
  (hg:gOn ops G guard=some true:=by rfl) (hd:dstOk X.n dst=true:=by rfl) (hf:gFree G dst=true:=by rfl):VA X ops G (.take j pl) S e L K:=
 VA.load hi hx hT (RdL.many i hL hv hl ha) hk hg hd hf
theorem VA.op{i:Nat}{o:Oper}{M:Value→List HP→Prop}(hi:ops.toList[i]?=some o)
  (hg:gOn ops G o.guard=some true) (hd:dstOk X.n o.dst=true) (hf:gFree G o.dst=true) (h:OpT X o.op e L M)
  (hst:∀v L',M v L'→∀w,St X L' w→∀p∈S,waits ops i p.1=false→p.2 w)
  (hk:∀v L',M v L'→VA X ops G pl (S.filter fun p=>!waits ops i p.1) (putE o.dst v e) L' K):VA X ops G (.only i pl) S e L K:=by
 intro Q' hp0 hQ hsel ro listed a w hp ha hG hw hall
 simp only[planB,Bool.and_eq_true,beq_iff_eq] at hp
 have hi':ops[i]?=some o:=by simpa using hi
 have hpr:=hp.1
 refine⟨fun h0=>yh,fun j hj=>?_⟩
 rw[hpr,List.mem_singleton] at hj
 subst hj
 unfold wpOpIn
 rw[hi']
 simp only[gOn_wanted hG hg,if_true]
 refine h.wp ha hw (fun v L' w' hm hs=>⟨fun p hp1 hp2=>hst v L' hm w' hs p hp1 hp2,?_⟩)
 exact xde
theorem VA.two{i j:Nat}{oi oj:Oper}{p q:Plan}{M N:Value→List HP→Prop}(hi:ops.toList[i]?=some oi)(hj:ops.toList[j]?=some oj)
  (hgi:gOn ops G oi.guard=some true) (hdi:dstOk X.n oi.dst=true) (hfi:gFree G oi.dst=true) (hi2:OpT X oi.op e L M)
  (hgj:gOn ops G oj.guard=some true) (hdj:dstOk X.n oj.dst=true) (hfj:gFree G oj.dst=true) (hj2:OpT X oj.op e L N)
  (hsti:∀v L',M v L'→∀w,St X L' w→∀p∈S,waits ops i p.1=false→p.2 w) (hstj:∀v L',N v L'→∀w,St X L' w→∀p∈S,waits ops j p.1=false→p.2 w)
  (hki:∀v L',M v L'→VA X ops G p (S.filter fun p=>!waits ops i p.1) (putE oi.dst v e) L' K)
  (hkj:∀v L',N v L'→VA X ops G q (S.filter fun p=>!waits ops j p.1) (putE oj.dst v e) L' K):VA X ops G (.two i j p q) S e L K:=by
 intro Q' hp0 hQ hsel ro listed a w hp ha hG hw hall
 simp only[planB,Bool.and_eq_true,beq_iff_eq] at hp
 obtain⟨⟨⟨hpr,hpi⟩,hpj⟩,hlen⟩:=hp
 have hlen:=Nat.eq_of_beq_eq_true hlen
 have hi':ops[i]?=some oi:=by simpa using hi
 have hj':ops[j]?=some oj:=by simpa using hj
 refine⟨fun h0=>yh,fun k hk=>?_⟩
 rw[hpr] at hk
 rcases List.mem_cons.1 hk with rfl | hk
 ·unfold wpOpIn
  rw[hi']
  simp only[gOn_wanted hG hgi,if_true]
  refine hi2.wp ha hw (fun v L' w' hm hs=>⟨fun p hp1 hp2=>hsti v L' hm w' hs p hp1 hp2,?_⟩)
  exact hki v L' hm Q' hp0 hQ hsel ro _ _ w' hpi (ha.putE hdi v) (hG.put hfi v) hs (fun p hp1=>hsti v L' hm w' hs p (List.mem_filter.1 hp1).1 yi)
 ·rw[List.mem_singleton] at hk
  subst hk
  unfold wpOpIn
  rw[hj']
  simp only[gOn_wanted hG hgj,if_true]
  refine hj2.wp ha hw (fun v L' w' hm hs=>⟨fun p hp1 hp2=>hstj v L' hm w' hs p hp1 hp2,?_⟩)
  rw[hlen]
  exact hkj v L' hm Q' hp0 hQ hsel ro _ _ w' hpj (ha.putE hdj v) (hG.put hfj v) hs (fun p hp1=>hstj v L' hm w' hs p (List.mem_filter.1 hp1).1 yi)
theorem VA.split(d:Nat){b:Bool}(hb:look e d=some (.bool b))(hd:Nat.blt d X.n=true)
  (ht:b=true→VA X ops ((d,true)::G) pl S ((d,.bool true)::e) L K) (hf:b=false→VA X ops ((d,false)::G) pl S ((d,.bool false)::e) L K):VA X ops G pl S e L K:=by
 intro Q' hp0 hQ hsel ro listed a w hp ha hG hw hall
 have hs:a.tmps[d]?=some (.bool b):=by
  have:=ha.at_ d _ hb
  have hlt:d<a.tmps.size:=by rw[ha.size];exact Nat.blt_eq.mp hd
  simpa[hlt] using this
 have key:∀c,b=c→Agr X.n a ((d,.bool c)::e)∧GOk ((d,c)::G) a:=fun c hc=>by
  subst hc
  refine⟨⟨ha.size,ha.defers,fun t u ht=>?_⟩,fun t u ht=>?_⟩
  ·simp only[look] at ht
   cases hq:Nat.beq d t
   ·rw[hq] at ht;exact ha.at_ t u ht
   ·rw[hq] at ht
    have:=Nat.eq_of_beq_eq_true hq
    subst this
    simp only[cond_true,Option.some.injEq] at ht
    subst ht;exact ha.at_ _ _ hb
  ·simp only[gLook] at ht
   cases hq:Nat.beq d t
   ·rw[hq] at ht;exact hG t u ht
   ·rw[hq] at ht
    have:=Nat.eq_of_beq_eq_true hq
    subst this
    simp only[cond_true,Option.some.injEq] at ht
    subst ht;exact hs
 cases b
 ·exact hf rfl Q' hp0 hQ hsel ro listed a w hp (key _ rfl).1 (key _ rfl).2 hw hall
 ·exact ht rfl Q' hp0 hQ hsel ro listed a w hp (key _ rfl).1 (key _ rfl).2 hw hall
theorem VA.yes(d:Nat){b:Bool}(c:Bool)(hb:look e d=some (.bool b))(hc:b=c)(h:VA X ops ((d,c)::G) pl S ((d,.bool c)::e) L K)(hd:Nat.blt d X.n=true:=by rfl):VA X ops G pl S e L K:=by
 subst hc
 refine VA.split d hb hd (fun h'=>?_) (fun h'=>?_)
 ·subst h';exact h
 ·subst h';exact h
theorem VA.ent{L':List HP}(hs:Ent X L L')(h:VA X ops G pl S e L' K):VA X ops G pl S e L K:=
 fun Q' hp0 hQ hsel ro listed a w hp ha hG hw hall=>h Q' hp0 hQ hsel ro listed a w hp ha hG (hs w hw) hall
end
def runA(n:Nat)(tab:Tab)(ops:List Oper)(G:GS):Plan→Env→(Plan→Env→Prop)→Prop
 | .nil,e,k=>k .nil e
 | .only i r,e,k=>k (.only i r) e
 | .two i j p q,e,k=>k (.two i j p q) e
 | .three i j m p q r,e,k=>k (.three i j m p q r) e
 | .take i r,e,k=>nthK ops i (fun o=>match o.dst with
  | none=>k (.take i r) e
  | some d=>match gLook G d,Nat.blt d n with
   | none,true=>match o.guard with
    | none=>pureK tab e o.op (fun v=>runA n tab ops G r ((d,v)::e) k) (k (.take i r) e)
    | some (j,want)=>nthK ops j (fun oj=>match oj.dst with
     | some dj=>match gLook G dj with
      | some b=>match gB b want with
       | true=>pureK tab e o.op (fun v=>runA n tab ops G r ((d,v)::e) k) (k (.take i r) e)
       | false=>runA n tab ops G r ((d,undef)::e) k
      | none=>k (.take i r) e
     | none=>k (.take i r) e) (k (.take i r) e)
   | _,_=>k (.take i r) e) (k (.take i r) e)
theorem VA.go{X:Cx}{ops:Array Oper}{G:GS}{S:Pend}{L:List HP}{K:Env→List HP→Prop}:∀{pl:Plan} {e:Env},
  runA X.n X.tab ops.toList G pl e (fun pl' e'=>VA X ops G pl' S e' L K)→VA X ops G pl S e L K
 | .nil,e,h=>h
 | .only i r,e,h=>h
 | .two i j p q,e,h=>h
 | .three i j m p q r,e,h=>h
 | .take i r,e,h=>by
  unfold runA at h
  rcases nthK_spec h with ⟨o,ho,h⟩ | h
  case inr=>exact h
  split at h
  ·exact h
  ·rename_i d hd
   split at h
   ·rename_i hgl hlt
    have hdst:dstOk X.n o.dst=true:=by rw[hd];exact hlt
    have hfree:gFree G o.dst=true:=by rw[hd];simp[gFree,hgl]
    have step:∀{v},gOn ops G o.guard=some true→Light X o.op e v→runA X.n X.tab ops.toList G r ((d,v)::e) (fun pl' e'=>VA X ops G pl' S e' L K)→VA X ops G (.take i r) S e L K:=fun {v} hg hl hk=>by
     refine VA.pure ho hg hdst hfree hl ?_
     rw[hd]
     exact VA.go hk
    split at h
    ·rename_i hgd
     rcases pureK_light h with ⟨v,hl,hk⟩ | h
     ·exact step (by rw[hgd];rfl) hl hk
     ·exact h
    ·rename_i j want hgd
     rcases nthK_spec h with ⟨oj,hj,h⟩ | h
     ·split at h
      ·rename_i dj hdj
       split at h
       ·rename_i b hb
        have hgo:gOn ops G o.guard=some (gB b want):=by
         rw[hgd];simp only[gOn,hj,hdj,hb]
        split at h
        ·rename_i hbw
         rw[hbw] at hgo
         rcases pureK_light h with ⟨v,hl,hk⟩ | h
         ·exact step hgo hl hk
         ·exact h
        ·rename_i hbw
         rw[hbw] at hgo
         refine VA.off ho hgo hdst hfree ?_
         rw[hd]
         exact VA.go h
       ·exact h
      ·exact h
     ·exact h
   ·exact h
theorem VC.draw{X:Cx}{id:Nat}{l:List Oper}{e:Env}{L:List HP}{Q:Exit→Env→List HP→Prop}(pl:Plan)(hmix:X.P.follows .mixedOrders=true)
  (hp:(Region.noSelect l.toArray&&Nat.beq pl.len l.length&&planB l.toArray (Array.replicate l.length false) pl)=true)
  (h:VA X l.toArray [] pl [] e L (Q .normal)):VC X (.region id l.toArray true) e L Q:=by
 intro ro a w ha hw
 simp only[Bool.and_eq_true] at hp
 have hlen:pl.len=l.length:=Nat.eq_of_beq_eq_true hp.1.2
 refine Code.wpIn_mono (Q:=fun x a' w'=>match x with | .normal=>∃e' L',Agr X.n a' e'∧St X L' w'∧Q .normal e' L' | _=>False) (fun x a' w' hx=>?_) (wpIn_region_any hmix ?_)
 ·cases x<;>first | exact hx | exact hx.elim
 ·have:=h (fun x a' w'=>match x with | .normal=>∃e' L',Agr X.n a' e'∧St X L' w'∧Q .normal e' L' | _=>False) (fun _ _ _ h=>h) (fun e' L' _ _ h1 h2 h3=>⟨e',L',h1,h2,h3⟩) hp.1.1 ro
   (Array.replicate l.length false) a { w with drawn:=w.drawn+1 } hp.2 ha (GOk.nil a) hw.drew (fun _ h=>by cases h)
  rw[hlen] at this
  have h2:=wpAny_of_P _ _ _ _ _ this
  simpa using h2
end Vg
namespace Vg
open Go
theorem und_slice{P:Program}{t:Nat}{ti:TI}{el:Nat}(h:TIok P t ti)(hu:ti.und=.slice el):P.underlying t=some (.slice el):=by
 have:=h.und
 rw[hu] at this
 unfold undOf at this
 split at this<;>simp_all
theorem und_array{P:Program}{t:Nat}{ti:TI}{n el:Nat}(h:TIok P t ti)(hu:ti.und=.array n el):P.underlying t=some (.array n el):=by
 have:=h.und
 rw[hu] at this
 unfold undOf at this
 split at this<;>simp_all
theorem und_int{P:Program}{t:Nat}{ti:TI}{k:IntKind}(h:TIok P t ti)(hu:ti.und=.int k):P.underlying t=some (.int k):=by
 have:=h.und
 rw[hu] at this
 unfold undOf at this
 split at this<;>simp_all
theorem und_string{P:Program}{t:Nat}{ti:TI}(h:TIok P t ti)(hu:ti.und=.string):P.underlying t=some .string:=by
 have:=h.und
 rw[hu] at this
 unfold undOf at this
 split at this<;>simp_all
theorem und_struct{P:Program}{t:Nat}{ti:TI}{fs:List (Nat×Nat)}(h:TIok P t ti)(hu:ti.und=.struct fs):
  ∃flds,P.underlying t=some (.struct flds)∧flds.toList.map (fun f=>(f.offset,((P.info? f.type).map (·.size)).getD 0))=fs:=by
 have:=h.und
 rw[hu] at this
 unfold undOf at this
 split at this<;>simp at this
 rename_i fl hfl
 exact⟨fl,hfl,by simpa using this⟩
theorem light_idx{X:Cx}{e:Env}{T:TypeId}{x y:Operand}{tt te:TI}{el b off len cap:Nat}{k:IntKind}{i:Int}(m:Nat)(hx:ev e x=some (.slice (some ⟨b,off,none⟩) len cap))(hy:ev e y=some (.int k i))
  (hT:tyLook X.tab T=some tt) (hu:tt.und=.slice el) (hE:tyLook X.tab el=some te) (hm:i=m) (hlt:m<len):
  Light X (.indexAddr T x y) e (.pointer (some ⟨b,off+m*te.size,none⟩)):=by
 intro a ha dst ty pos after guard w
 have h1:=und_slice (X.ok.look hT) hu
 obtain⟨i2,hi2,hs2,_,_⟩:=(X.ok.look hE).info'
 subst hm
 simp[execOp,ha.ev hx,ha.ev hy,Instr.indexAt,asIntOf,run_underlying h1,hlt,run_size hi2,hs2,Addr.add_mid]
theorem light_idxA{X:Cx}{e:Env}{T:TypeId}{x y:Operand}{tt te:TI}{el b off len:Nat}{k:IntKind}{i:Int}(m:Nat)(hx:ev e x=some (.pointer (some ⟨b,off,none⟩)))(hy:ev e y=some (.int k i))
  (hT:tyLook X.tab T=some tt) (hu:tt.und=.array len el) (hE:tyLook X.tab el=some te) (hm:i=m) (hlt:m<len):
  Light X (.indexAddr T x y) e (.pointer (some ⟨b,off+m*te.size,none⟩)):=by
 intro a ha dst ty pos after guard w
 have h1:=und_array (X.ok.look hT) hu
 obtain⟨i2,hi2,hs2,_,_⟩:=(X.ok.look hE).info'
 subst hm
 simp[execOp,ha.ev hx,ha.ev hy,Instr.indexAt,asIntOf,run_underlying h1,hlt,run_size hi2,hs2,Addr.add_mid,Instr.sureAddr]
theorem light_rem{X:Cx}{e:Env}{xt yt:TypeId}{x y:Operand}{k:IntKind}{a b:Int}(hx:ev e x=some (.int k a))(hy:ev e y=some (.int k b))(ha0:0≤a)(hb0:0<b):
  Light X (.binOp .rem xt x y yt) e (.int k (a % b)):=by
 intro a' ha dst ty pos after guard w
 have hb:b≠0:=by omega
 have ht:a.tmod b=a % b:=Int.tmod_eq_emod_of_nonneg ha0
 simp[execOp,ha.ev hx,ha.ev hy,eqGuard,binOp,Op.intDiv,hb,ht]
theorem light_quo{X:Cx}{e:Env}{xt yt:TypeId}{x y:Operand}{k:IntKind}{a b:Int}(z:Int)(hx:ev e x=some (.int k a))(hy:ev e y=some (.int k b))(ha0:0≤a)(hb0:0<b)(hz:k.wrap (a / b)=z):
  Light X (.binOp .quo xt x y yt) e (.int k z):=by
 intro a' ha dst ty pos after guard w
 have hb:b≠0:=by omega
 have ht:a.tdiv b=a / b:=Int.tdiv_eq_ediv_of_nonneg ha0
 simp[execOp,ha.ev hx,ha.ev hy,eqGuard,binOp,Op.intDiv,hb,ht,hz]
theorem light_slice{X:Cx}{e:Env}{T:TypeId}{x y z:Operand}{tt te:TI}{el b off len cap:Nat}{k k':IntKind}{i j:Int}(lo hi:Nat)(hx:ev e x=some (.slice (some ⟨b,off,none⟩) len cap))(hy:ev e y=some (.int k i))(hz:ev e z=some (.int k' j))
  (hT:tyLook X.tab T=some tt) (hu:tt.und=.slice el) (hE:tyLook X.tab el=some te) (hlo:i=lo) (hhi:j=hi) (h1:lo≤hi) (h2:hi≤cap) (h3:lo<cap):
  Light X (.slice T x (some y) (some z) none) e (.slice (some ⟨b,off+lo*te.size,none⟩) (hi-lo) (cap-lo)):=by
 intro a ha dst ty pos after guard w
 have hd:=und_slice (X.ok.look hT) hu
 obtain⟨i2,hi2,hs2,_,_⟩:=(X.ok.look hE).info'
 subst hlo;subst hhi
 have hne:¬cap=lo:=by omega
 simp[execOp,ha.ev hx,ha.ev hy,ha.ev hz,Instr.sliceAt,Instr.slice,Instr.sliceBounds,Instr.sliceBound,asIntOf,run_underlying hd,h1,h2,run_size hi2,hs2,Addr.add_mid,hne]
theorem fold_set:∀(vs:List Value) (k off:Nat) (cs:List Value),off+k+vs.length≤cs.length →
  (vs.zipIdx k).foldl (fun(c:Array Value) (x:Value×Nat)=>c.setIfInBounds (off+x.2) x.1) cs.toArray=(wrC cs (off+k) vs).toArray
 | [],k,off,cs,_=>by rw[wrC_nil];rfl
 | v::vs,k,off,cs,h=>by
  have h':off+k+(vs.length+1)≤cs.length:=by simpa using h
  simp only[List.zipIdx_cons,List.foldl_cons,List.setIfInBounds_toArray]
  rw[fold_set vs (k+1) off (cs.set (off+k) v) ye,show off+(k+1)=off+k+1 from by omega,wrC_cons h']
def fillL(place:Nat→Option (Nat×Nat)):List Value→List (Nat×Value)→Option (List Value)
 | zs,[]=>some zs
 | zs,(i,v)::r=>match place i with
  | none=>none
  | some (off,size)=>bif Nat.beq v.cells.toList.length size&&Nat.ble (off+size) zs.length then fillL place (wrC zs off v.cells.toList) r else none
theorem fill_fillL{place:Nat→Option (Nat×Nat)}:∀{parts:List (Nat×Value)} {zs cs:List Value},fillL place zs parts=some cs→Instr.fill place zs.toArray parts=some cs.toArray
 | [],zs,cs,h=>by simpa[fillL,Instr.fill] using h
 | (i,v)::r,zs,cs,h=>by
  simp only[fillL] at h
  simp only[Instr.fill]
  cases hp:place i with
  | none=>simp[hp] at h
  | some p=>
   obtain⟨off,size⟩:=p
   rw[hp] at h
   simp only at h ⊢
   cases hb:Nat.beq v.cells.toList.length size&&Nat.ble (off+size) zs.length
   ·rw[hb] at h;cases h
   ·rw[hb] at h
    simp only[cond_true] at h
    simp only[Bool.and_eq_true] at hb
    have h1:v.cells.size=size:=by have:=Nat.eq_of_beq_eq_true hb.1;simpa using this
    have h2:off+size≤zs.length:=Nat.le_of_ble_eq_true hb.2
    rw[if_neg (by simp[h1];omega)]
    have:=fold_set v.cells.toList 0 off zs ye
    have e:v.cells.zipIdx.foldl (fun cs (x:Value×Nat)=>cs.setIfInBounds (off+x.2) x.1) zs.toArray=(wrC zs off v.cells.toList).toArray:=by
     rw[←Array.foldl_toList,Array.toList_zipIdx];simpa using this
    rw[e]
    exact fill_fillL h
def evP(e:Env):List (Nat×Operand)→Option (List (Nat×Value))
 | []=>some []
 | (i,x)::r=>match ev e x,evP e r with
  | some v,some vs=>some ((i,v)::vs)
  | _,_=>none
theorem Agr.evP{n:Nat}{a:Act}{e:Env}(h:Agr n a e):∀{xs:List (Nat×Operand)} {vs:List (Nat×Value)},evP e xs=some vs→xs.map (fun p=>(p.1,a.eval p.2))=vs
 | [],vs,hx=>by simpa[Vg.evP] using hx
 | (i,x)::r,vs,hx=>by
  simp only[Vg.evP] at hx
  split at hx
  ·rename_i v us hv hus
   simp only[Option.some.injEq] at hx
   subst hx
   simp[h.ev hv,Agr.evP h hus]
  ·cases hx
theorem run_mapM_places{P:Program}(w:World):∀(fl:List Field),(∀f∈fl,∃i,P.info? f.type=some i) →
  (fl.mapM fun f=>(do pure (f.offset,←sizeOf f.type):Sem (Nat×Nat))).run P w=.ok (fl.map fun f=>(f.offset,((P.info? f.type).map (·.size)).getD 0)) w
 | [],_=>rfl
 | f::fl,h=>by
  obtain⟨i,hi⟩:=h f yf
  have ih:=run_mapM_places (P:=P) w fl (fun g hg=>h g (by simp[hg]))
  simp only[List.mapM_cons,Sem.run_bind,run_size hi,Result.andThen_ok,Sem.run_pure,ih]
  simp[hi]
theorem light_build{X:Cx}{e:Env}{T:TypeId}{parts:Array (Nat×Operand)}{ti:TI}{fs:List (Nat×Nat)}{pv:List (Nat×Value)}(cells:List Value)(hT:tyLook X.tab T=some ti)(hu:ti.und=.struct fs)
  (hp:evP e parts.toList=some pv) (hfill:fillL (fun i=>fs[i]?) ti.zs pv=some cells) (hnz:fs.all (fun p=>!Nat.beq p.2 0)=true):Light X (.build T parts) e (.agg cells.toArray):=by
 intro a ha dst ty pos after guard w
 have hok:=X.ok.look hT
 obtain⟨flds,hund,hfl⟩:=und_struct hok hu
 have hparts:parts.map (fun p=>(p.1,a.eval p.2))=pv.toArray:=by
  apply Array.toList_inj.1
  simpa using ha.evP hp
 have hinfo:∀f∈flds.toList,∃i,X.P.info? f.type=some i:=fun f hf=>by
  cases hq:X.P.info? f.type with
  | some i=>exact⟨i,rfl⟩
  | none=>
   have hm:(f.offset,((X.P.info? f.type).map (·.size)).getD 0)∈fs:=by
    rw[←hfl];exact List.mem_map.2 ⟨f,hf,rfl⟩
   have:=List.all_eq_true.1 hnz _ hm
   simp[hq] at this
 have hplaces:(flds.mapM fun f=>(do pure (f.offset,←sizeOf f.type):Sem (Nat×Nat))).run X.P w=.ok fs.toArray w:=by
  have h1:=run_mapM_places (P:=X.P) w flds.toList hinfo
  rw[hfl] at h1
  simp only[bind_pure_comp] at h1
  rw[Array.mapM_eq_mapM_toList]
  simp[h1]
 have hf:=fill_fillL hfill
 have hfn:(fun i:Nat=>fs.toArray[i]?)=(fun i:Nat=>fs[i]?):=by funext i;simp
 have hb:(Instr.build T pv.toArray).run X.P w=.ok (.agg cells.toArray) w:=by
  unfold Instr.build
  simp only[Sem.run_bind,run_zero hok,Result.andThen_ok,run_underlying hund,hplaces,hok.zero]
  simp only[hfn,hf,Sem.run_pure]
 simp only[execOp]
 rw[Sem.run_bind]
 have:(parts.map fun x=>match x with | (i,x)=>(i,a.eval x))=pv.toArray:=hparts
 rw[this,hb];rfl
def slH(el esz:Nat)(a:Option Addr)(n cap:Nat)(cs:List Value):HP:=
 ⟨fun ids w=>cs.length=n*esz∧((a=none∧n=0∧cap=0∧ids=[]) ∨
   ∃b rest,a=some ⟨b,0,none⟩∧ids=[b]∧n≤cap∧(cs++rest).length=cap*esz∧w.heap[b]?=some (.cells (cs++rest).toArray el (0,0))),
  fun ids w w' hb h=>⟨h.1,h.2.imp id fun⟨b,rest,h1,h2,h3,h4,h5⟩=>⟨b,rest,h1,h2,h3,h4,(hb b yj).trans h5⟩⟩⟩
def RdRow(X:Cx)(L:List HP)(v:Value)(esz m:Nat)(news:List Value):Prop:=
 news.length=m*esz∧((∃a c,v=.slice a m c∧m=0)∨∃b off c,v=.slice (some ⟨b,off,none⟩) m c∧∀w,St X L w→w.rangeAt b off news)
theorem rangeAt_blk{w:World}{b t:Nat}{cs:List Value}{fz:Nat×Nat}(h:w.heap[b]?=some (.cells cs.toArray t fz)){off n:Nat}{ds:List Value}(hd:(cs.drop off).take n=ds):w.rangeAt b off ds:=fun j v hv=>by
 rw[cell_of_row w b (off+j) cs.toArray t fz h]
 rw[←hd,List.getElem?_take] at hv
 split at hv
 ·rw[List.getElem?_drop] at hv;simpa using hv
 ·cases hv
theorem perm_eraseIdx:∀{L:List HP} {i:Nat} {H:HP},L[i]?=some H→L.Perm (H::L.eraseIdx i)
 | [],_,_,h=>by simp at h
 | x::L,0,H,h=>by
  simp only[List.getElem?_cons_zero,Option.some.injEq] at h
  subst h;exact .refl _
 | x::L,i+1,H,h=>by
  simp only[List.getElem?_cons_succ] at h
  exact((perm_eraseIdx h).cons x).trans (.swap _ _ _)
theorem size_zeroCells'(zs:Array Value)(n:Nat):(Builtin.zeroCells zs n).size=n*zs.size:=by simp[Builtin.zeroCells]
theorem run_append0{P:Program}{w:World}{t el:Nat}{i:TypeInfo}(hund:P.underlying t=some (.slice el))(hi:P.info? el=some i)(a d:Option Addr)(n cap c:Nat)(hnc:n≤cap)(r:Nat):
  (Builtin.append_ #[t,t] r #[.slice a n cap,.slice d 0 c]).run P w=.ok (.slice a n cap) w:=by
 cases a<;>cases d<;>simp[Builtin.append_,run_underlying hund,run_size hi,Builtin.lenOf,Builtin.firstCells,hnc,storeCells,loadCells,loadCellsFrom]
theorem OpT.append{X:Cx}{e:Env}{L:List HP}{t el esz n cap m:Nat}{tt te:TI}{x y:Operand}{a:Option Addr}{cs news:List Value}{v:Value}(i:Nat)
  (hx:ev e x=some (.slice a n cap)) (hy:ev e y=some v) (hL:L[i]?=some (slH el esz a n cap cs)) (hT:tyLook X.tab t=some tt) (hu:tt.und=.slice el) (hE:tyLook X.tab el=some te) (hesz:te.size=esz)
  (hr:RdRow X L v esz m news) (h1:news.all Value.oneCell'=true) (hb:(n+m)*te.bytes≤140737488355328) (h63:n+m≤9223372036854775807):
  OpT X (.call ⟨.builtin .append,#[x,y],#[t,t]⟩) e L (fun u L'=>∃a' cap',u=.slice a' (n+m) cap'∧n+m≤cap'∧L'=slH el esz a' (n+m) cap' (cs++news)::L.eraseIdx i):=by
 intro ac w ha hw dst ty pos after guard
 have hund:=und_slice (X.ok.look hT) hu
 have hok:=X.ok.look hE
 obtain⟨ti,hi,hsz,hbt,hz⟩:=hok.info'
 have hexec:∀u w',(Builtin.append_ #[t,t] ty #[.slice a n cap,v]).run X.P w=.ok u w' →
   (execOp ac.eval ⟨dst,.call ⟨.builtin .append,#[x,y],#[t,t]⟩,ty,pos,after,guard⟩).run X.P w=.ok (.value u) w':=fun u w' h=>by
  simp[execOp,resolve,invoke,builtin,ha.ev hx,ha.ev hy,h]
 obtain⟨F,⟨ids,K,hF,hid,hK⟩,hnd,hbd⟩:=hw.sat.perm (perm_eraseIdx hL)
 subst hF
 obtain⟨hnl,hrd⟩:=hr
 obtain⟨hcl,hcase⟩:=hid
 have hlen:(cs++news).length=(n+m)*esz:=by rw[List.length_append,hcl,hnl,Nat.add_mul]
 obtain⟨hn1,hn2,hdis⟩:=List.nodup_append.1 hnd
 have stay:∀ids',HP.sat (slH el esz a n cap cs) ids' w→ids'=ids→m=0→news=[]→St X (slH el esz a (n+m) cap (cs++news)::L.eraseIdx i) w:=by
  rintro ids' hs rfl rfl rfl
  simp only[Nat.add_zero,List.append_nil]
  exact⟨⟨_,⟨ids',K,rfl,hs,hK⟩,hnd,hbd⟩,hw.keep,hw.low⟩
 have hncap:n≤cap:=by rcases hcase with ⟨_,rfl,rfl,_⟩ | ⟨b,rest,_,_,h,_⟩<;>omega
 rcases hrd with ⟨d,c,rfl,rfl⟩ | ⟨b,off,c,rfl,hrg⟩
 ·have hn0:news=[]:=List.eq_nil_of_length_eq_zero (by simpa using hnl)
  refine .inl ⟨_,w,_,hexec _ _ (run_append0 hund hi a d n cap c hncap ty),⟨a,cap,rfl,by omega,rfl⟩,stay ids ⟨hcl,hcase⟩ rfl rfl hn0⟩
 ·have hnews:∀j u,news[j]?=some u→w.cell? ((⟨b,off,none⟩:Addr).add j)=some u:=fun j u hj=>by rw[Addr.add_mid];exact hrg w hw j u hj
  have h1':∀u∈news,u.oneCell'=true:=List.all_eq_true.1 h1
  have hnl':news.length=m*ti.size:=by rw[hsz,hesz];exact hnl
  have grown:∀old:Nat,old<n+m→St X (slH el esz (some ⟨w.heap.size,0,none⟩) (n+m) (grownCap w (n+m) old el) (cs++news)::L.eraseIdx i)
    (w.drew.alloc (.cells (cs.toArray++news.toArray++Builtin.zeroCells te.zero.cells (grownCap w (n+m) old el-(n+m))) el)):=by
   intro old ho
   have hge:=grownCap_ge w (n+m) old el
   have hw2:St X (L.eraseIdx i) w.drew:=⟨⟨K,Sats.loc (w:=w) (w':=w.drew) (fun _ _=>rfl) hK,hn2,fun b hb=>hbd b (by simp[hb])⟩,hw.keep.trans (Keep.drew _ _),hw.low⟩
   refine⟨hw2.sat.alloc hw2.lowW _ _ ?_,hw2.keep.trans (Keep.alloc hw2.lowW _),hw.low⟩
   refine⟨hlen,.inr ⟨w.heap.size,(Builtin.zeroCells te.zero.cells (grownCap w (n+m) old el-(n+m))).toList,rfl,rfl,hge,?_,?_⟩⟩
   ·have hzl:te.zero.cells.size=esz:=by rw[hok.zero];simp[hok.len,hesz]
    rw[List.length_append,hlen,Array.length_toList,size_zeroCells',hzl,←Nat.add_mul]
    congr 1;omega
   ·have:=heap_alloc_new w.drew (.cells (cs.toArray++news.toArray++Builtin.zeroCells te.zero.cells (grownCap w (n+m) old el-(n+m))) el)
    rw[show(cs++news++(Builtin.zeroCells te.zero.cells (grownCap w (n+m) old el-(n+m))).toList).toArray=cs.toArray++news.toArray++Builtin.zeroCells te.zero.cells (grownCap w (n+m) old el-(n+m)) from by
     apply Array.toList_inj.1;simp]
    exact this
  rcases hcase with ⟨rfl,rfl,rfl,rfl⟩ | ⟨g,rest,rfl,rfl,hnc,hcr,hh⟩
  ·have hcs0:cs=[]:=List.eq_nil_of_length_eq_zero (by simpa using hcl)
   subst hcs0
   by_cases hm:m=0
   ·subst hm
    have hn0:news=[]:=List.eq_nil_of_length_eq_zero (by simpa using hnl)
    refine .inl ⟨.slice none (0+0) 0,w,_,hexec _ _ ?_,⟨none,0,rfl,by omega,rfl⟩,stay [] ⟨hcl,.inl ⟨rfl,rfl,rfl,rfl⟩⟩ rfl rfl hn0⟩
    simp[Builtin.append_,run_underlying hund,run_size hi,Builtin.lenOf,Builtin.firstCells,loadCells,loadCellsFrom]
   ·have hrun:=run_append_nil (P:=X.P) w t ty el ti te.zero hund hi hz ⟨b,off,none⟩ m c news hnl' hnews yd yd (by rw[hbt];simp only[Nat.zero_add] at hb;omega)
    have hg:=grown 0 yd
    simp only[Nat.zero_add,List.nil_append,Array.empty_append] at hg ⊢
    exact .inl ⟨_,_,_,hexec _ _ hrun,⟨_,_,rfl,grownCap_ge w m 0 el,rfl⟩,hg⟩
  ·by_cases hroom:n+m≤cap
   ·have hmul:(n+m)*esz≤cap*esz:=Nat.mul_le_mul_right _ hroom
    have hfit:n*ti.size+news.length≤(cs++rest).toArray.size:=by
     rw[hsz,hesz,hnl];simp only[List.size_toArray];rw[hcr,←Nat.add_mul];exact hmul
    have hrun:=run_append_room (P:=X.P) w t ty el ti hund hi g n cap _ hh ⟨b,off,none⟩ m c news hnl' hnews h1' hroom hfit
    have hnew:(cs++rest).toArray.toList.take (n*ti.size)++news++(cs++rest).toArray.toList.drop (n*ti.size+news.length)=(cs++news)++rest.drop news.length:=by
     simp only[hsz,hesz]
     rw[←hcl]
     simp[List.drop_append]
    rw[hnew] at hrun
    refine .inl ⟨_,_,_,hexec _ _ hrun,⟨some ⟨g,0,none⟩,cap,rfl,hroom,rfl⟩,?_⟩
    have hgF:¬X.Fr g:=(hbd g yf).1
    have hne:∀x∈K,x≠g:=fun x hx he=>hdis g yf x hx he.symm
    refine⟨⟨[g]++K,⟨[g],K,rfl,⟨hlen,.inr ⟨g,rest.drop news.length,rfl,rfl,hroom,?_,setRow_heap w g _ _ el _ hh⟩⟩,hK.loc fun x hx=>setRow_other w g x _ (hne x hx)⟩,hnd,fun x hx=>⟨(hbd x hx).1,by rw[size_setRow];exact(hbd x hx).2⟩⟩,?_,hw.low⟩
    ·rw[List.length_append,hlen,List.length_drop]
     rw[List.length_append,hcl] at hcr
     rw[hnl,Nat.add_mul];rw[Nat.add_mul] at hmul;omega
    ·exact hw.keep.trans ⟨rfl,rfl,rfl,by rw[size_setRow];exact NR _,fun x hx=>setRow_other w g x _ (fun he=>hgF (he▸hx)),NR _⟩
   ·have holds:∀j u,cs[j]?=some u→w.cell? ((⟨g,0,none⟩:Addr).add j)=some u:=fun j u hj=>by
     rw[Addr.add_mid,cell_of_row w g (0+j) _ el (0,0) hh]
     have hlt:j<cs.length:=(List.getElem?_eq_some_iff.1 hj).1
     simp[List.getElem?_append,hlt]
     exact(List.getElem?_eq_some_iff.1 hj).2
    have hrun:=run_append_grow (P:=X.P) w t ty el ti te.zero hund hi hz ⟨g,0,none⟩ n cap cs (by rw[hsz,hesz];exact hcl) holds ⟨b,off,none⟩ m c news hnl' hnews yd yd (growslice_fits yd (by rw[hbt];exact hb))
    exact .inl ⟨_,_,_,hexec _ _ hrun,⟨_,_,rfl,grownCap_ge w (n+m) cap el,rfl⟩,grown cap yd⟩
end Vg
namespace Vg
open Go
theorem flat_zero(n:Nat)(zs:List Value)(s:Nat)(hs:zs.length=s):((Array.range (n*s)).map (zs.toArray[· % zs.toArray.size]!))=((List.replicate n zs).flatten).toArray:=by
 apply Array.toList_inj.1
 simp only[Array.toList_map,Array.toList_range]
 subst hs
 induction n with
 | zero=>simp
 | succ n ih=>
  rw[List.replicate_succ',List.flatten_append,←ih,Nat.succ_mul,List.range_add,List.map_append]
  congr 1
  simp only[List.flatten_cons,List.flatten_nil,List.append_nil,List.map_map]
  apply List.ext_getElem
  ·simp
  ·intro i h1 h2
   simp at h1
   simp[Nat.mul_add_mod_of_lt h1,h1]
structure Blk(Fr:Nat→Prop)(w:World)(b:Nat)(cs:List Value):Prop where
 fr:Fr b
 at_:∃t fz,w.heap[b]?=some (.cells cs.toArray t fz)
theorem SatIn.blk{Fr:Nat→Prop}{L:List HP}{w:World}(h:SatIn Fr L w)(i:Nat){b t:Nat}{cs:List Value}(hL:L[i]?=some (pt b cs t)):Blk Fr w b cs:=by
 obtain⟨F,hs,hf⟩:=h
 obtain⟨ids,⟨rfl,h1⟩,h2⟩:=hs.get hL
 exact⟨hf b (h2 b yf),t,(0,0),h1⟩
theorem Blk.keep{X:Cx}{b:Nat}{cs:List Value}(h:Blk X.Fr X.w0 b cs){Fr':Nat→Prop}{w:World}{L:List HP}(hF:∀b,X.Fr b→Fr' b)(hw:St X L w):Blk Fr' w b cs:=by
 obtain⟨t,fz,ht⟩:=h.at_
 exact⟨hF b h.fr,t,fz,(hw.keep.block b h.fr).trans ht⟩
theorem RdL.blk{X:Cx}{L:List HP}{ti:TI}{b off:Nat}{cs:List Value}{v:Value}(h:Blk X.Fr X.w0 b cs)(hv:cs[off]?=some v)(ha:ti.und.agg=false:=by rfl):RdL X L ti b off v:=by
 obtain⟨t,fz,ht⟩:=h.at_
 exact RdL.ro1 h.fr ht hv ha
theorem RdL.blkA{X:Cx}{L:List HP}{ti:TI}{b off:Nat}{cs ds:List Value}(h:Blk X.Fr X.w0 b cs)(hd:(cs.drop off).take ti.size=ds)(hl:ds.length=ti.size:=by rfl)(ha:ti.und.agg=true:=by rfl):RdL X L ti b off (.agg ds.toArray):=by
 obtain⟨t,fz,ht⟩:=h.at_
 exact RdL.roN h.fr ht hd hl ha
theorem RdRow.pt{X:Cx}{L:List HP}{b off m c esz t:Nat}{cs news:List Value}(i:Nat)(hL:L[i]?=some (pt b cs t))(hn:(cs.drop off).take (m*esz)=news)(hl:news.length=m*esz):RdRow X L (.slice (some ⟨b,off,none⟩) m c) esz m news:=
 ⟨hl,.inr ⟨b,off,c,rfl,fun _ hw=>rangeAt_blk (hw.atPt hL).1 hn⟩⟩
theorem RdRow.nil{X:Cx}{L:List HP}{a:Option Addr}{c esz:Nat}:RdRow X L (.slice a 0 c) esz 0 []:=⟨by simp,.inl ⟨a,c,rfl,rfl⟩⟩
theorem VO.exs{X:Cx}{ops:Array Oper}{G:GS}{l:List Oper}{e:Env}{L:List HP}{K:Env→List HP→Prop}{ι:Type}(φ:ι→Prop)(M:ι→List HP)(h:∀w,St X L w→∃x,φ x∧St X (M x) w)
  (hk:∀x,φ x→VO X ops G l e (M x) K):VO X ops G l e L K:=fun Q' hQ ro a w ha hG hw=>by
 obtain⟨x,h1,h2⟩:=h w hw
 exact hk x h1 Q' hQ ro a w ha hG h2
theorem VC.exs{X:Cx}{c:Code}{e:Env}{L:List HP}{Q:Exit→Env→List HP→Prop}{ι:Type}(φ:ι→Prop)(M:ι→List HP)(h:∀w,St X L w→∃x,φ x∧St X (M x) w)
  (hk:∀x,φ x→VC X c e (M x) Q):VC X c e L Q:=fun ro a w ha hw=>by
 obtain⟨x,h1,h2⟩:=h w hw
 exact hk x h1 ro a w ha h2
def Imp(L M:List HP):Prop:=∀w F,Sats L F w→F.Nodup→∃F',Sats M F' w∧F'.Nodup∧∀b∈F',b∈F
theorem Imp.ent{X:Cx}{L M:List HP}(h:Imp L M):Ent X L M:=fun w hw=>by
 obtain⟨F,hs,hn,hb⟩:=hw.sat
 obtain⟨F',h1,h2,h3⟩:=h w F hs hn
 exact⟨⟨F',h1,h2,fun b hb'=>hb b (h3 b hb')⟩,hw.keep,hw.low⟩
theorem Imp.refl{L:List HP}:Imp L L:=fun _ F hs hn=>⟨F,hs,hn,fun _ h=>h⟩
theorem Imp.trans{L M N:List HP}(h:Imp L M)(k:Imp M N):Imp L N:=fun w F hs hn=>by
 obtain⟨F',h1,h2,h3⟩:=h w F hs hn
 obtain⟨F'',k1,k2,k3⟩:=k w F' h1 h2
 exact⟨F'',k1,k2,fun b hb=>h3 b (k3 b hb)⟩
theorem Imp.perm{L M:List HP}(h:L.Perm M):Imp L M:=fun w F hs hn=>by
 obtain⟨G,hG,hs'⟩:=hs.perm h
 exact⟨G,hs',hG.nodup_iff.1 hn,fun b hb=>hG.mem_iff.2 hb⟩
theorem Imp.nil{L:List HP}:Imp L []:=fun _ _ _ _=>⟨[],rfl,.nil,fun _ h=>by cases h⟩
theorem Imp.app{L L' M M':List HP}(h:Imp L M)(k:Imp L' M'):Imp (L++L') (M++M'):=fun w F hs hn=>by
 obtain⟨G,K,rfl,hG,hK⟩:=Sats.append.1 hs
 obtain⟨n1,n2,nd⟩:=List.nodup_append.1 hn
 obtain⟨G',g1,g2,g3⟩:=h w G hG n1
 obtain⟨K',k1,k2,k3⟩:=k w K hK n2
 refine⟨G'++K',Sats.append.2 ⟨G',K',rfl,g1,k1⟩,List.nodup_append.2 ⟨g2,k2,fun x hx y hy=>nd x (g3 x hx) y (k3 y hy)⟩,fun b hb=>?_⟩
 rcases List.mem_append.1 hb with hb | hb
 ·exact List.mem_append.2 (.inl (g3 b hb))
 ·exact List.mem_append.2 (.inr (k3 b hb))
theorem Imp.cons{H:HP}{L M:List HP}(h:Imp L M):Imp (H::L) (H::M):=Imp.app (L:=[H]) (M:=[H]) Imp.refl h
theorem Imp.pick{L M:List HP}{H:HP}(i:Nat)(hL:L[i]?=some H)(h:Imp (L.eraseIdx i) M):Imp L (H::M):=(Imp.perm (perm_eraseIdx hL)).trans h.cons
def picksH:List Nat→List HP→List HP
  | [],_=>[]
  | i::l,L=>match L[i]? with
    | some H=>H::picksH l (L.eraseIdx i)
    | none=>[]
theorem pkZ (l:List Nat) {L:List HP}:Imp L (picksH l L):=by
  induction l generalizing L with
  | nil=>exact Imp.nil
  | cons i l ih=>
    unfold picksH
    split
    · rename_i H h;exact Imp.pick i h ih
    · exact Imp.nil
theorem Imp.sep{L Ls M:List HP}(h:Imp L (Ls++M)):Imp L (hsep Ls::M):=fun w F hs hn=>by
 obtain⟨F',h1,h2,h3⟩:=h w F hs hn
 obtain⟨G,K,rfl,hG,hK⟩:=Sats.append.1 h1
 exact⟨G++K,⟨G,K,rfl,hG,hK⟩,h2,h3⟩
theorem Imp.unsep{L Ls M:List HP}(h:Imp (Ls++L) M):Imp (hsep Ls::L) M:=fun w F hs hn=>by
 obtain⟨G,K,rfl,hG,hK⟩:=hs
 exact h w _ (Sats.append.2 ⟨G,K,rfl,hG,hK⟩) hn
theorem Imp.ex{α:Type}{f:α→HP}{L M:List HP}(x:α)(h:Imp L (f x::M)):Imp L (hex f::M):=fun w F hs hn=>by
 obtain⟨F',⟨G,K,rfl,hG,hK⟩,h2,h3⟩:=h w F hs hn
 exact⟨G++K,⟨G,K,rfl,⟨x,hG⟩,hK⟩,h2,h3⟩
theorem Imp.pure{φ:Prop}{L M:List HP}(hφ:φ)(h:Imp L M):Imp L (hpure φ::M):=fun w F hs hn=>by
 obtain⟨F',h1,h2,h3⟩:=h w F hs hn
 exact⟨F',⟨[],F',rfl,⟨rfl,hφ⟩,h1⟩,h2,h3⟩
theorem Imp.sl{L M:List HP}{el esz b n cap:Nat}{cs rest:List Value}(hc:cs.length=n*esz)(hn:n≤cap)(hr:(cs++rest).length=cap*esz)(h:Imp L (pt b (cs++rest) el::M)):Imp L (slH el esz (some ⟨b,0,none⟩) n cap cs::M):=fun w F hs hn'=>by
 obtain⟨F',⟨G,K,rfl,⟨rfl,hG⟩,hK⟩,h2,h3⟩:=h w F hs hn'
 exact⟨[b]++K,⟨[b],K,rfl,⟨hc,.inr ⟨b,rest,rfl,rfl,hn,hr,hG⟩⟩,hK⟩,h2,h3⟩
theorem Imp.slNil{L M:List HP}{el esz:Nat}(h:Imp L M):Imp L (slH el esz none 0 0 []::M):=fun w F hs hn=>by
 obtain⟨F',h1,h2,h3⟩:=h w F hs hn
 exact⟨F',⟨[],F',rfl,⟨by simp,.inl ⟨rfl,rfl,rfl,rfl⟩⟩,h1⟩,h2,h3⟩
def HOpn{ι:Type}(H:HP)(φ:ι→Prop)(Ls:ι→List HP):Prop:=∀w ids,H.sat ids w→ids.Nodup→∃x,φ x∧∃ids',Sats (Ls x) ids' w∧ids'.Nodup∧∀b∈ids',b∈ids
theorem HOpn.st{X:Cx}{L:List HP}{ι:Type}{H:HP}{φ:ι→Prop}{Ls:ι→List HP}(i:Nat)(hL:L[i]?=some H)(h:HOpn H φ Ls)(w:World)(hw:St X L w):∃x,φ x∧St X (Ls x++L.eraseIdx i) w:=by
 obtain⟨F,⟨ids,K,rfl,hid,hK⟩,hn,hb⟩:=hw.sat.perm (perm_eraseIdx hL)
 obtain⟨n1,n2,nd⟩:=List.nodup_append.1 hn
 obtain⟨x,hx,ids',h1,h2,h3⟩:=h w ids hid n1
 refine⟨x,hx,⟨⟨ids'++K,Sats.append.2 ⟨ids',K,rfl,h1,hK⟩,List.nodup_append.2 ⟨h2,n2,fun x hx y hy=>nd x (h3 x hx) y hy⟩,fun b hb'=>?_⟩,hw.keep,hw.low⟩⟩
 rcases List.mem_append.1 hb' with hb' | hb'
 ·exact hb b (List.mem_append.2 (.inl (h3 b hb')))
 ·exact hb b (List.mem_append.2 (.inr hb'))
theorem VO.opn{X:Cx}{ops:Array Oper}{G:GS}{l:List Oper}{e:Env}{L:List HP}{K:Env→List HP→Prop}{ι:Type}{H:HP}{φ:ι→Prop}{Ls:ι→List HP}(i:Nat)(hL:L[i]?=some H)(h:HOpn H φ Ls)
  (hk:∀x,φ x→VO X ops G l e (Ls x++L.eraseIdx i) K):VO X ops G l e L K:=VO.exs φ _ (h.st i hL) hk
theorem VC.opn{X:Cx}{c:Code}{e:Env}{L:List HP}{Q:Exit→Env→List HP→Prop}{ι:Type}{H:HP}{φ:ι→Prop}{Ls:ι→List HP}(i:Nat)(hL:L[i]?=some H)(h:HOpn H φ Ls)
  (hk:∀x,φ x→VC X c e (Ls x++L.eraseIdx i) Q):VC X c e L Q:=VC.exs φ _ (h.st i hL) hk
theorem HOpn.sl(el esz:Nat)(a:Option Addr)(n cap:Nat)(cs:List Value):HOpn (ι:=Option (Nat×List Value)) (slH el esz a n cap cs)
  (fun x=>cs.length=n*esz∧n≤cap∧match x with | none=>a=none∧n=0∧cap=0∧cs=[] | some (b,rest)=>a=some ⟨b,0,none⟩∧(cs++rest).length=cap*esz)
  (fun x=>match x with | none=>[] | some (b,rest)=>[pt b (cs++rest) el]):=by
 rintro w ids ⟨hc,⟨rfl,rfl,rfl,rfl⟩ | ⟨b,rest,rfl,rfl,hn,hr,hh⟩⟩ hnd
 ·exact⟨none,⟨hc,NR _,rfl,rfl,rfl,List.eq_nil_of_length_eq_zero (by simpa using hc)⟩,[],rfl,.nil,fun _ h=>by cases h⟩
 ·exact⟨some (b,rest),⟨hc,hn,rfl,hr⟩,[b],⟨[b],[],rfl,⟨rfl,hh⟩,rfl⟩,by simp,fun _ h=>h⟩
section
variable {X:Cx} {ops:Array Oper} {G:GS} {l:List Oper} {e:Env} {L:List HP} {K:Env→List HP→Prop}
  {dst:Option Tmp} {ty:TypeId} {pos:String} {after:Array Edge} {guard:Option (Nat×Bool)}
theorem VO.call{f:FuncId}{args:Array Operand}{tys:Array TypeId}{vals:List Value}{R:Value→List HP→Prop}{Lc Lr:List HP}
  (ht:∀Fr' w,(∀b,X.Fr b→Fr' b)→St X L w→SatIn Fr' Lr w→Tri X.P f vals Fr' w Lc R) (hargs:evs e args.toList=some vals) (hL:L=Lc++Lr)
  (hk:∀v L1,R v L1→VO X ops G l (putE dst v e) (L1++Lr) K)
  (hg:gOn ops G guard=some true:=by rfl) (hd:dstOk X.n dst=true:=by rfl) (hf:gFree G dst=true:=by rfl):
  VO X ops G (⟨dst,.call ⟨.value (.func f),args,tys⟩,ty,pos,after,guard⟩::l) e L K:=
 VO.op hg hd hf (OpT.call hargs (hL▸.refl _) ht) fun v L' ⟨L1,h1,h2⟩=>by subst h2;exact hk v L1 h1
theorem VO.append{t el esz n cap m:Nat}{tt te:TI}{x y:Operand}{a:Option Addr}{cs news:List Value}{v:Value}(i:Nat)
  (hx:ev e x=some (.slice a n cap)) (hy:ev e y=some v) (hL:L[i]?=some (slH el esz a n cap cs)) (hT:tyLook X.tab t=some tt) (hu:tt.und=.slice el) (hE:tyLook X.tab el=some te) (hesz:te.size=esz)
  (hr:RdRow X L v esz m news) (h1:news.all Value.oneCell'=true) (hb:(n+m)*te.bytes≤140737488355328) (h63:n+m≤9223372036854775807)
  (hk:∀a' cap',n+m≤cap'→VO X ops G l (putE dst (.slice a' (n+m) cap') e) (slH el esz a' (n+m) cap' (cs++news)::L.eraseIdx i) K)
  (hg:gOn ops G guard=some true:=by rfl) (hd:dstOk X.n dst=true:=by rfl) (hf:gFree G dst=true:=by rfl):
  VO X ops G (⟨dst,.call ⟨.builtin .append,#[x,y],#[t,t]⟩,ty,pos,after,guard⟩::l) e L K:=
 VO.op hg hd hf (OpT.append i hx hy hL hT hu hE hesz hr h1 hb h63) fun u L' ⟨a',cap',h1,h2,h3⟩=>by subst h1;subst h3;exact hk a' cap' h2
theorem OpT.buildSlice{T:TypeId}{n:Nat}{parts:Array (Nat×Operand)}{tt te:TI}{el:Nat}{pv:List (Nat×Value)}{cells:List Value}(hT:tyLook X.tab T=some tt)(hu:tt.und=.slice el)(hE:tyLook X.tab el=some te)
  (hp:evP e parts.toList=some pv) (hn:n*te.size≤16777216) (hfill:fillL (fun i=>some (i*te.size,te.size)) (List.replicate n te.zs).flatten pv=some cells):
  OpT X (.buildSlice T n parts) e L (fun u L'=>∃b,u=.slice (some ⟨b,0,none⟩) n n∧L'=pt b cells el::L):=fun a w ha hw dst ty pos after guard=>by
 have hund:=und_slice (X.ok.look hT) hu
 have hok:=X.ok.look hE
 obtain⟨i,hi,hsz,_,_⟩:=hok.info'
 have hparts:(parts.map fun x=>match x with | (i,x)=>(i,a.eval x))=pv.toArray:=by
  apply Array.toList_inj.1
  simpa using ha.evP hp
 have hzero:((Array.range (n*te.size)).map (te.zs.toArray[· % te.zs.toArray.size]!))=((List.replicate n te.zs).flatten).toArray:=flat_zero n te.zs te.size hok.len
 have hff:=fill_fillL hfill
 refine .inl ⟨.slice (some ⟨w.heap.size,0,none⟩) n n,w.alloc (.cells cells.toArray el),_,?_,⟨w.heap.size,rfl,rfl⟩,hw.alloc cells el⟩
 have hlim:¬(n*te.size > 2 ^ 24):=by simpa using hn
 have hb:(Instr.buildSlice T n pv.toArray).run X.P w=.ok (.slice (some ⟨w.heap.size,0,none⟩) n n) (w.alloc (.cells cells.toArray el)):=by
  unfold Instr.buildSlice
  by_cases h0:n*te.size=0
  ·have hz0:(List.replicate n te.zs).flatten=[]:=by
    apply List.eq_nil_of_length_eq_zero
    simp[hok.len,h0]
   rw[hz0] at hff
   have e0:∀f:Nat→Value,(Array.range 0).map f=#[]:=fun f=>by simp
   have h2:¬(0 > 2 ^ 24):=by decide
   simp only[Sem.run_bind,run_underlying hund,Result.andThen_ok,run_size hi,hsz,h2,if_false,h0,if_true,Sem.run_pure,e0]
   simp[hff,newRow,newObj,Sem.run]
  ·simp only[Sem.run_bind,run_underlying hund,Result.andThen_ok,run_size hi,hsz,hlim,if_false,h0,Sem.run_pure,run_zero hok,hok.zero,hzero]
   simp[hff,newRow,newObj,Sem.run]
 simp only[execOp]
 rw[Sem.run_bind,hparts,hb];rfl
theorem VO.buildSlice{T:TypeId}{n:Nat}{parts:Array (Nat×Operand)}{tt te:TI}{el:Nat}{pv:List (Nat×Value)}(cells:List Value)(hT:tyLook X.tab T=some tt)(hu:tt.und=.slice el)(hE:tyLook X.tab el=some te)
  (hp:evP e parts.toList=some pv) (hn:n*te.size≤16777216) (hfill:fillL (fun i=>some (i*te.size,te.size)) (List.replicate n te.zs).flatten pv=some cells)
  (hk:∀b,VO X ops G l (putE dst (.slice (some ⟨b,0,none⟩) n n) e) (pt b cells el::L) K)
  (hg:gOn ops G guard=some true:=by rfl) (hd:dstOk X.n dst=true:=by rfl) (hf:gFree G dst=true:=by rfl):
  VO X ops G (⟨dst,.buildSlice T n parts,ty,pos,after,guard⟩::l) e L K:=
 VO.op hg hd hf (OpT.buildSlice hT hu hE hp hn hfill) fun u L' ⟨b,h1,h2⟩=>by subst h1;subst h2;exact hk b
theorem fill_one{v:Value}{vs zs:List Value}{s:Nat}(hv:v.cells=vs.toArray)(hs:vs.length=s)(hz:zs.length=s):fillL (fun i=>some (i*s,s)) (List.replicate 1 zs).flatten [(0,v)]=some vs:=by
 have h1:v.cells.toList=vs:=by rw[hv]
 have h2:(List.replicate 1 zs).flatten=zs:=by show zs ++ []=zs;simp
 have h3:wrC zs 0 vs=vs:=by
  unfold wrC
  rw[List.drop_of_length_le yd];simp
 have h4:Nat.beq vs.length s=true:=by rw[hs];exact Nat.beq_refl s
 have h5:Nat.ble s zs.length=true:=by rw[hz];exact Nat.ble_eq.mpr (NR s)
 simp only[fillL,h1,h2,Nat.zero_mul,Nat.zero_add,h3,h4,h5,Bool.and_self,cond_true]
theorem OpT.makeSlice{T:TypeId}{x y:Operand}{tt te:TI}{el:Nat}{k k':IntKind}(n:Nat)(hx:ev e x=some (.int k n))(hy:ev e y=some (.int k' n))(hT:tyLook X.tab T=some tt)(hu:tt.und=.slice el)(hE:tyLook X.tab el=some te)
  (hn:n≤9223372036854775807) (hb:te.bytes*n≤281474976710656):
  OpT X (.makeSlice T x y) e L (fun u L'=>∃b,u=.slice (some ⟨b,0,none⟩) n n∧L'=pt b (List.replicate n te.zs).flatten el::L):=fun a w ha hw dst ty pos after guard=>by
 have hund:=und_slice (X.ok.look hT) hu
 have hok:=X.ok.look hE
 obtain⟨i,hi,hsz,hby,hz⟩:=hok.info'
 have hzero:=flat_zero n te.zs te.size hok.len
 refine .inl ⟨.slice (some ⟨w.heap.size,0,none⟩) n n,w.alloc (.cells (List.replicate n te.zs).flatten.toArray el),_,?_,⟨w.heap.size,rfl,rfl⟩,hw.alloc _ el⟩
 have hrun:=run_make (P:=X.P) w T el i te.zero hund hi hz k k' n n yd yd (by
  have h1:((te.bytes*n:Nat):Int)≤((281474976710656:Nat):Int):=Int.ofNat_le.2 hb
  rw[Int.natCast_mul] at h1
  rw[hby];exact h1) yd
 have hmc:madeCells te.zero.cells ((n:Int).toNat*i.size)=(List.replicate n te.zs).flatten.toArray:=by
  rw[←hzero,hok.zero,hsz];rfl
 rw[hmc] at hrun
 simp only[execOp,ha.ev hx,ha.ev hy]
 rw[Sem.run_bind,hrun];rfl
theorem VO.makeSlice{T:TypeId}{x y:Operand}{tt te:TI}{el:Nat}{k k':IntKind}{i j:Int}(n:Nat)(hx:ev e x=some (.int k i))(hy:ev e y=some (.int k' j))(hT:tyLook X.tab T=some tt)(hu:tt.und=.slice el)(hE:tyLook X.tab el=some te)
  (hi:i=n) (hj:j=n) (hn:n≤9223372036854775807) (hb:te.bytes*n≤281474976710656)
  (hk:∀b,VO X ops G l (putE dst (.slice (some ⟨b,0,none⟩) n n) e) (pt b (List.replicate n te.zs).flatten el::L) K)
  (hg:gOn ops G guard=some true:=by rfl) (hd:dstOk X.n dst=true:=by rfl) (hf:gFree G dst=true:=by rfl):
  VO X ops G (⟨dst,.makeSlice T x y,ty,pos,after,guard⟩::l) e L K:=by
 subst hi;subst hj
 exact VO.op hg hd hf (OpT.makeSlice n hx hy hT hu hE hn hb) fun u L' ⟨b,h1,h2⟩=>by subst h1;subst h2;exact hk b
end
end Vg
namespace Vg
open Go
theorem run_loadVar{P:Program}{t:Nat}{ti:TI}(h:TIok P t ti){b off:Nat}{v:Value}{w:World}(hr:Rd ti.und.agg ti.size b off v w):(loadVar t ⟨b,off,none⟩).run P w=.ok v w:=by
 have:=run_loadAt h hr
 unfold Instr.loadAt at this
 simpa[Instr.sureAddr] using this
theorem Ret.cell{X:Cx}{fn:Func}{R:Value→List HP→Prop}{e:Env}{L:List HP}{T:TypeId}{ti:TI}{b:Nat}{v:Value}(p:Nat)(h:fn.results=#[.cell p T])(hp:look e p=some (.pointer (some ⟨b,0,none⟩)))(hT:tyLook X.tab T=some ti)
  (hr:RdL X L ti b 0 v) {L':List HP} (he:Ent X L L') (hR:R v L'):Ret X fn R e L:=
 ⟨v,L',⟨fun a w ha hw=>by
  have:=run_loadVar (X.ok.look hT) (hr w hw)
  have hp':=ha.at_ p _ hp
  simp only[Array.getD_eq_getD_getElem?] at hp'
  simp[results,h,hp',asAddr,this]⟩,he,hR⟩
theorem Ret.cellTmp{X:Cx}{fn:Func}{R:Value→List HP→Prop}{e:Env}{L:List HP}{T:TypeId}{ti:TI}{b:Nat}{v u:Value}(p q:Nat)(h:fn.results=#[.cell p T,.tmp q])(hp:look e p=some (.pointer (some ⟨b,0,none⟩)))(hT:tyLook X.tab T=some ti)
  (hr:RdL X L ti b 0 v) (hq:look e q=some u) {L':List HP} (he:Ent X L L') (hR:R (.tuple #[v,u]) L'):Ret X fn R e L:=
 ⟨_,L',⟨fun a w ha hw=>by
  have:=run_loadVar (X.ok.look hT) (hr w hw)
  have hp':=ha.at_ p _ hp
  have hq':=ha.at_ q _ hq
  simp only[Array.getD_eq_getD_getElem?] at hp' hq'
  simp[results,h,hp',hq',asAddr,this]⟩,he,hR⟩
section
variable {X:Cx} {ops:Array Oper} {G:GS} {l:List Oper} {e:Env} {L:List HP} {K:Env→List HP→Prop}
  {dst:Option Tmp} {ty:TypeId} {pos:String} {after:Array Edge} {guard:Option (Nat×Bool)}
theorem OpT.clear{t el b off n cap tb:Nat}{tt te:TI}{x:Operand}{cs:List Value}(i:Nat)(hx:ev e x=some (.slice (some ⟨b,off,none⟩) n cap))(hL:L[i]?=some (pt b cs tb))(hT:tyLook X.tab t=some tt)(hu:tt.und=.slice el)(hE:tyLook X.tab el=some te)
  (hn:0<n) (hl:off+n*te.size≤cs.length) (h1:te.zs.all Value.oneCell'=true):
  OpT X (.call ⟨.builtin .clear,#[x],#[t]⟩) e L (fun u L'=>u=.tuple #[]∧L'=L.set i (pt b (wrC cs off (List.replicate n te.zs).flatten) tb)):=fun a w ha hw dst ty pos after guard=>by
 have hund:=und_slice (X.ok.look hT) hu
 have hok:=X.ok.look hE
 obtain⟨h0,hf⟩:=hw.atPt hL
 have hlen:((List.replicate n te.zs).flatten).length=n*te.size:=by simp[hok.len]
 have hz:Builtin.zeroCells te.zs.toArray n=((List.replicate n te.zs).flatten).toArray:=by
  have:=flat_zero n te.zs te.size hok.len
  unfold Builtin.zeroCells
  simpa[hok.len] using this
 have hall:((List.replicate n te.zs).flatten).all Value.oneCell'=true:=by
  rw[List.all_eq_true] at h1 ⊢
  intro v hv
  obtain⟨l,hl,hv⟩:=List.mem_flatten.1 hv
  rw[List.mem_replicate] at hl
  exact h1 v (hl.2▸hv)
 have hst:=run_storeCells_blk (P:=X.P) _ 0 off w cs h0 (by rw[hlen];simpa using hl) hall
 simp only[Nat.add_zero] at hst
 refine .inl ⟨_,_,_,?_,⟨rfl,rfl⟩,hw.set hL⟩
 have hn0:n≠0:=by omega
 have hb:(Builtin.clear_ #[t] ty #[.slice (some ⟨b,off,none⟩) n cap]).run X.P w=.ok (.tuple #[]) (setBlk w b (.cells (wrC cs off (List.replicate n te.zs).flatten).toArray tb (0,0))):=by
  obtain⟨k,rfl⟩:∃k,n=k+1:=⟨n-1,by omega⟩
  simp[Builtin.clear_,run_underlying hund,run_zero hok,hok.zero,hz,hst]
 simp[execOp,resolve,invoke,builtin,ha.ev hx,hb]
theorem light_cat{xt yt:TypeId}{x y:Operand}{s t:ByteArray}(hx:ev e x=some (.string s))(hy:ev e y=some (.string t))(hs:s.size+t.size≤9223372036854775807):Light X (.binOp .add xt x y yt) e (.string (s++t)):=by
 intro a ha dst ty pos after guard w
 have h:¬(((s.size+t.size:Nat):Int) > IntKind.i64.max):=by
  have:IntKind.i64.max=9223372036854775807:=rfl
  omega
 have hb:Op.stringOp .add s t=pure (.string (s++t)):=by
  unfold Op.stringOp
  rw[if_neg h]
 simp only[execOp,ha.ev hx,ha.ev hy]
 show((do eqGuard .add xt x y (.string s) (.string t);Op.stringOp .add s t:Sem Value) >>= fun v=>pure (Next.value v)).run X.P w=_
 rw[hb];rfl
theorem OpT.str{s d el b n cap tb:Nat}{ts td te:TI}{x:Operand}{bs:List UInt8}{cs:List Value}(i:Nat)(hx:ev e x=some (.slice (some ⟨b,0,none⟩) n cap))(hL:L[i]?=some (pt b cs tb))(hS:tyLook X.tab s=some ts)(hsu:ts.und=.slice el)(hE:tyLook X.tab el=some te)(hEu:te.und=.int .u8)
  (hD:tyLook X.tab d=some td) (hdu:td.und=.string) (hn:bs.length=n) (hcs:cs.take n=bs.map fun c=>Value.int .u8 (c.toNat:Int)):
  OpT X (.convert s d x) e L (fun u L'=>u=.string ⟨bs.toArray⟩∧L'=L):=fun a w ha hw dst ty pos after guard=>by
 have h1:=und_slice (X.ok.look hS) hsu
 have h2:=und_int (X.ok.look hE) hEu
 have h3:=und_string (X.ok.look hD) hdu
 obtain⟨h0,_⟩:=hw.atPt hL
 have hr:=run_convert_bytes_back (P:=X.P) w s d el ⟨b,0,none⟩ cap bs h1 h2 h3 (fun j hj=>by
  rw[Addr.add_mid,cell_of_row w b (0+j) _ tb (0,0) h0]
  have:(cs.take n)[j]?=some (.int .u8 (bs[j].toNat:Int)):=by rw[hcs];simp[hj]
  rw[List.getElem?_take,if_pos yd] at this
  simpa using this)
 rw[hn] at hr
 refine .inl ⟨_,w,L,?_,⟨rfl,rfl⟩,hw⟩
 simp only[execOp,ha.ev hx]
 rw[Sem.run_bind,hr];rfl
end
section
variable {X:Cx} {ops:Array Oper} {G:GS} {pl:Plan} {S:Pend} {e:Env} {L:List HP} {K:Env→List HP→Prop}
  {dst:Option Tmp} {ty:TypeId} {pos:String} {after:Array Edge} {guard:Option (Nat×Bool)}
theorem VA.light{i:Nat}{op:Op}{v:Value}(hi:ops.toList[i]?=some ⟨dst,op,ty,pos,after,guard⟩)(hl:Light X op e v)(hk:VA X ops G pl S (putE dst v e) L K)
  (hg:gOn ops G guard=some true:=by rfl) (hd:dstOk X.n dst=true:=by rfl) (hf:gFree G dst=true:=by rfl):VA X ops G (.take i pl) S e L K:=
 VA.pure hi hg hd hf hl hk
theorem VA.arith{op:BinOp}{xt yt:TypeId}{x y:Operand}{k:IntKind}{a b:Int}{i:Nat}(z:Int)(hi:ops.toList[i]?=some ⟨dst,.binOp op xt x y yt,ty,pos,after,guard⟩)
  (hx:ev e x=some (.int k a)) (hy:ev e y=some (.int k b))
  (hz:(match op with | .add=>k.wrap (a+b)=z | .sub=>k.wrap (a-b)=z | .mul=>k.wrap (a*b)=z | _=>False))
  (hk:VA X ops G pl S (putE dst (.int k z) e) L K)
  (hg:gOn ops G guard=some true:=by rfl) (hd:dstOk X.n dst=true:=by rfl) (hf:gFree G dst=true:=by rfl):VA X ops G (.take i pl) S e L K:=by
 refine VA.pure hi hg hd hf ?_ hk
 intro a' ha dst ty pos after guard w
 cases op<;>simp only at hz
 case add=>simp[execOp,ha.ev hx,ha.ev hy,eqGuard,binOp,Op.intArith,hz]
 case sub=>simp[execOp,ha.ev hx,ha.ev hy,eqGuard,binOp,Op.intArith,hz]
 case mul=>simp[execOp,ha.ev hx,ha.ev hy,eqGuard,binOp,Op.intArith,hz]
theorem VA.add{xt yt:TypeId}{x y:Operand}{a b:Int}{i:Nat}(hi:ops.toList[i]?=some ⟨dst,.binOp .add xt x y yt,ty,pos,after,guard⟩)
  (hx:ev e x=some (.int .i64 a)) (hy:ev e y=some (.int .i64 b)) (h1:-9223372036854775808≤a+b) (h2:a+b≤9223372036854775807)
  (hk:VA X ops G pl S (putE dst (.int .i64 (a+b)) e) L K)
  (hg:gOn ops G guard=some true:=by rfl) (hd:dstOk X.n dst=true:=by rfl) (hf:gFree G dst=true:=by rfl):VA X ops G (.take i pl) S e L K:=VA.arith (a+b) hi hx hy (i64_in _ h1 h2) hk hg hd hf
theorem VA.sub'{xt yt:TypeId}{x y:Operand}{a b:Int}{i:Nat}(hi:ops.toList[i]?=some ⟨dst,.binOp .sub xt x y yt,ty,pos,after,guard⟩)
  (hx:ev e x=some (.int .i64 a)) (hy:ev e y=some (.int .i64 b)) (h1:-9223372036854775808≤a-b) (h2:a-b≤9223372036854775807)
  (hk:VA X ops G pl S (putE dst (.int .i64 (a-b)) e) L K)
  (hg:gOn ops G guard=some true:=by rfl) (hd:dstOk X.n dst=true:=by rfl) (hf:gFree G dst=true:=by rfl):VA X ops G (.take i pl) S e L K:=VA.arith (a-b) hi hx hy (i64_in _ h1 h2) hk hg hd hf
theorem VA.callR{f:FuncId}{args:Array Operand}{tys:Array TypeId}{vals:List Value}{u:Value}{i:Nat}
  (ht:∀Fr' w,(∀b,X.Fr b→Fr' b)→St X L w→SatIn Fr' L w→Tri X.P f vals Fr' w [] (fun v L=>v=u∧L=[]))
  (hi:ops.toList[i]?=some ⟨dst,.call ⟨.value (.func f),args,tys⟩,ty,pos,after,guard⟩) (hargs:evs e args.toList=some vals)
  (hst:∀w,St X L w→∀p∈S,waits ops i p.1=false→p.2 w)
  (hk:VA X ops G pl (S.filter fun p=>!waits ops i p.1) (putE dst u e) L K)
  (hg:gOn ops G guard=some true:=by rfl) (hd:dstOk X.n dst=true:=by rfl) (hf:gFree G dst=true:=by rfl):VA X ops G (.only i pl) S e L K:=by
 refine VA.op (M:=fun v L'=>v=u∧L'=L) hi hg hd hf ?_ (fun v L' ⟨_,h2⟩ w hw=>by subst h2;exact hst w hw) (fun v L' ⟨h1,h2⟩=>by subst h1;subst h2;exact hk)
 intro a w ha hw dst ty pos after guard
 rcases OpT.call (R:=fun v L=>v=u∧L=[]) hargs (Lc:=[]) (Lr:=L) (.refl _) ht a w ha hw dst ty pos after guard with ⟨v,w',L',h1,⟨L1,⟨h2,h3⟩,h4⟩,h5⟩ | ⟨w',L',h1,⟨L1,⟨h2,h3⟩,h4⟩,h5⟩ | ⟨f,args,h1,h2⟩
 ·exact .inl ⟨v,w',L',h1,⟨h2,by rw[h4,h3];rfl⟩,h5⟩
 ·exact .inr (.inl ⟨w',L',h1,⟨h2,by rw[h4,h3];rfl⟩,h5⟩)
 ·refine .inr (.inr ⟨f,args,h1,Calls.mono h2 fun en w' ⟨v,L',h3,⟨L1,⟨h4,h5⟩,h6⟩,h7⟩=>⟨v,L',h3,⟨h4,by rw[h6,h5];rfl⟩,h7⟩⟩)
end
end Vg
namespace Vg
open Go
def flat{α:Type}(c:α→List Value)(l:List α):List Value:=(l.map c).flatten
section
variable {α:Type} {c:α→List Value} {n:Nat}
theorem flat_nil:flat c []=[]:=rfl
theorem flat_cons(a:α)(l:List α):flat c (a::l)=c a++flat c l:=by simp[flat]
theorem flat_append(l m:List α):flat c (l++m)=flat c l++flat c m:=by simp[flat]
theorem flat_len(h:∀a,(c a).length=n):∀l:List α,(flat c l).length=l.length*n
 | []=>by simp[flat]
 | a::l=>by rw[flat_cons,List.length_append,h,flat_len h l,List.length_cons,Nat.add_mul,Nat.one_mul,Nat.add_comm]
theorem flat_drop(h:∀a,(c a).length=n):∀(i:Nat) (l:List α) (rest:List Value),i≤l.length→(flat c l++rest).drop (i*n)=flat c (l.drop i)++rest
 | 0,l,rest,_=>by simp
 | i+1,[],rest,hi=>by simp at hi
 | i+1,a::l,rest,hi=>by
  rw[flat_cons,Nat.add_mul,Nat.one_mul,Nat.add_comm (i*n),List.append_assoc,←List.drop_drop]
  have:(c a++(flat c l++rest)).drop n=flat c l++rest:=by rw[←h a];simp
  rw[this,flat_drop h i l rest yk];rfl
theorem flat_row(h:∀a,(c a).length=n){i:Nat}{l:List α}{a:α}(ha:l[i]?=some a)(rest:List Value):((flat c l++rest).drop (i*n)).take n=c a:=by
 have hi:i<l.length:=(List.getElem?_eq_some_iff.1 ha).1
 rw[flat_drop h i l rest (Nat.le_of_lt hi),List.drop_eq_getElem_cons hi,(List.getElem?_eq_some_iff.1 ha).2,flat_cons,List.append_assoc,←h a]
 simp
theorem flat_cell(h:∀a,(c a).length=n){i j:Nat}{l:List α}{a:α}{v:Value}(ha:l[i]?=some a)(hj:(c a)[j]?=some v)(rest:List Value):(flat c l++rest)[i*n+j]?=some v:=by
 have hjn:j<n:=by rw[←h a];exact(List.getElem?_eq_some_iff.1 hj).1
 have:=flat_row h ha rest
 rw[←this,List.getElem?_take,if_pos hjn,List.getElem?_drop] at hj
 exact hj
theorem flat_set(h:∀a,(c a).length=n):∀{i:Nat} {l:List α} (a:α) (rest:List Value),i<l.length→wrC (flat c l++rest) (i*n) (c a)=flat c (l.set i a)++rest
 | 0,[],a,rest,hi=>by simp at hi
 | 0,b::l,a,rest,_=>by
  simp only[wrC,List.set_cons_zero,flat_cons,Nat.zero_mul,List.take_zero,List.nil_append,Nat.zero_add,List.append_assoc]
  have:(c b++(flat c l++rest)).drop (c a).length=flat c l++rest:=by rw[h a,←h b];simp
  rw[this]
 | i+1,[],a,rest,hi=>by simp at hi
 | i+1,b::l,a,rest,hi=>by
  have ih:=flat_set h (i:=i) (l:=l) a rest yk
  have e:(i+1)*n=(c b).length+i*n:=by rw[h b,Nat.add_mul];omega
  simp only[List.set_cons_succ,flat_cons,List.append_assoc]
  unfold wrC at ih ⊢
  rw[e,List.take_length_add_append,Nat.add_assoc,List.drop_length_add_append,←ih]
  simp
theorem flat_setCell(h:∀a,(c a).length=n){i j:Nat}{l:List α}{a a':α}{v:Value}(ha:l[i]?=some a)(hj:j<n)(hc:(c a).set j v=c a')(rest:List Value):(flat c l++rest).set (i*n+j) v=flat c (l.set i a')++rest:=by
 have hi:i<l.length:=(List.getElem?_eq_some_iff.1 ha).1
 have hL:(flat c l++rest).length=l.length*n+rest.length:=by rw[List.length_append,flat_len h]
 have h1:=flat_set h a' rest hi
 rw[←h1,←hc]
 have hle:(i+1)*n≤l.length*n:=Nat.mul_le_mul_right n hi
 rw[Nat.add_mul,Nat.one_mul] at hle
 have hr:=flat_row h ha rest
 apply List.ext_getElem?
 intro k
 unfold wrC
 rw[List.append_assoc,List.getElem?_append,List.getElem?_append]
 have hca:=h a
 simp only[List.length_set,List.length_take,hca,hL]
 rw[Nat.min_eq_left yd]
 split
 ·rw[List.getElem?_set_ne yd,List.getElem?_take,if_pos (by assumption)]
 ·rename_i hk
  split
  ·rename_i hk2
   by_cases hkj:k=i*n+j
   ·subst hkj
    rw[List.getElem?_set_self yd,Nat.add_sub_cancel_left,List.getElem?_set_self yd]
   ·rw[List.getElem?_set_ne yd,List.getElem?_set_ne yd,←hr,List.getElem?_take,if_pos hk2,List.getElem?_drop]
    congr 1;omega
  ·rename_i hk2
   rw[List.getElem?_set_ne yd,List.getElem?_drop]
   congr 1;omega
theorem flat_replicate(m:Nat)(a:α):(List.replicate m (c a)).flatten=flat c (List.replicate m a):=by simp[flat]
theorem flat_all{p:Value→Bool}(h:∀a,(c a).all p=true)(l:List α):(flat c l).all p=true:=by
 rw[List.all_eq_true];intro v hv
 obtain⟨r,hr,hv⟩:=List.mem_flatten.1 hv
 obtain⟨a,_,rfl⟩:=List.mem_map.1 hr
 exact List.all_eq_true.1 (h a) v hv
end
theorem SatIn.at_{Fr:Nat→Prop}{L:List HP}{w:World}(h:SatIn Fr L w)(i:Nat){H:HP}(hL:L[i]?=some H):SatIn Fr [H] w:=by
 obtain⟨F,hs,hf⟩:=h
 obtain⟨ids,h1,h2⟩:=hs.get hL
 exact⟨ids,⟨ids,[],by simp,h1,rfl⟩,fun b hb=>hf b (h2 b hb)⟩
theorem SatIn.ex{Fr:Nat→Prop}{α:Type}{f:α→HP}{w:World}(h:SatIn Fr [hex f] w):∃x,SatIn Fr [f x] w:=by
 obtain⟨F,⟨ids,G,hF,⟨x,hx⟩,hG⟩,hf⟩:=h
 exact⟨x,F,⟨ids,G,hF,hx,hG⟩,hf⟩
theorem SatIn.sep{Fr:Nat→Prop}{L:List HP}{w:World}(h:SatIn Fr [hsep L] w):SatIn Fr L w:=by
 obtain⟨F,⟨ids,G,hF,hx,hG⟩,hf⟩:=h
 exact⟨ids,hx,fun b hb=>hf b (by rw[hF];exact List.mem_append.2 (.inl hb))⟩
theorem SatIn.pure{Fr:Nat→Prop}{L:List HP}{w:World}(h:SatIn Fr L w)(i:Nat){φ:Prop}(hL:L[i]?=some (hpure φ)):φ:=by
 obtain⟨F,hs,hf⟩:=h
 obtain⟨ids,h1,h2⟩:=hs.get hL
 exact h1.2
theorem SatIn.tail{Fr:Nat→Prop}{H:HP}{L:List HP}{w:World}(h:SatIn Fr (H::L) w):SatIn Fr L w:=by
 obtain⟨F,⟨G,K,rfl,_,hK⟩,hf⟩:=h
 exact⟨K,hK,fun b hb=>hf b (List.mem_append.2 (.inr hb))⟩
theorem SatIn.shut{Fr:Nat→Prop}{α:Type}{φ:α→Prop}{Ls:α→List HP}{w:World}(x:α)(hx:φ x)(h:SatIn Fr (Ls x) w):SatIn Fr [hex fun x=>hsep (hpure (φ x)::Ls x)] w:=by
 obtain⟨F,hs,hf⟩:=h
 exact⟨F,⟨F,[],by simp,⟨x,[],F,rfl,⟨rfl,hx⟩,hs⟩,rfl⟩,hf⟩
theorem SatIn.of{X:Cx}{Fr':Nat→Prop}{L:List HP}(hw:SatIn X.Fr L X.w0)(hF:∀b,X.Fr b→Fr' b){M:List HP}{w':World}(hs:St X M w'):SatIn Fr' L w':=by
 obtain⟨F,h1,h2⟩:=hw
 exact⟨F,h1.loc (fun b hb=>hs.keep.block b (h2 b hb)),fun b hb=>hF b (h2 b hb)⟩
theorem Blk.of{X:Cx}{b:Nat}{cs:List Value}(h:Blk X.Fr X.w0 b cs){Fr':Nat→Prop}(hF:∀b,X.Fr b→Fr' b){w:World}{L:List HP}(hw:St X L w):Blk Fr' w b cs:=h.keep hF hw
section
variable {X:Cx} {ops:Array Oper} {G:GS} {l:List Oper} {pl:Plan} {S:Pend} {e:Env} {L:List HP} {K:Env→List HP→Prop}
  {dst:Option Tmp} {ty:TypeId} {pos:String} {after:Array Edge} {guard:Option (Nat×Bool)}
theorem OpT.callP{φ:Value→Prop}{f:FuncId}{args:Array Operand}{tys:Array TypeId}{vals:List Value}
  (ht:∀Fr' w,(∀b,X.Fr b→Fr' b)→St X L w→SatIn Fr' L w→Tri X.P f vals Fr' w [] (fun v L=>φ v∧L=[])) (hargs:evs e args.toList=some vals):
  OpT X (.call ⟨.value (.func f),args,tys⟩) e L (fun v L'=>φ v∧L'=L):=by
 intro a w ha hw dst ty pos after guard
 rcases OpT.call (R:=fun v L=>φ v∧L=[]) hargs (Lc:=[]) (Lr:=L) (.refl _) ht a w ha hw dst ty pos after guard with ⟨v,w',L',h1,⟨L1,⟨h2,h3⟩,h4⟩,h5⟩ | ⟨w',L',h1,⟨L1,⟨h2,h3⟩,h4⟩,h5⟩ | ⟨f,args,h1,h2⟩
 ·exact .inl ⟨v,w',L',h1,⟨h2,by rw[h4,h3];rfl⟩,h5⟩
 ·exact .inr (.inl ⟨w',L',h1,⟨h2,by rw[h4,h3];rfl⟩,h5⟩)
 ·refine .inr (.inr ⟨f,args,h1,Calls.mono h2 fun en w' ⟨v,L',h3,⟨L1,⟨h4,h5⟩,h6⟩,h7⟩=>⟨v,L',h3,⟨h4,by rw[h6,h5];rfl⟩,h7⟩⟩)
theorem VO.callP{φ:Value→Prop}{f:FuncId}{args:Array Operand}{tys:Array TypeId}{vals:List Value}
  (ht:∀Fr' w,(∀b,X.Fr b→Fr' b)→St X L w→SatIn Fr' L w→Tri X.P f vals Fr' w [] (fun v L=>φ v∧L=[])) (hargs:evs e args.toList=some vals)
  (hk:∀v,φ v→VO X ops G l (putE dst v e) L K)
  (hg:gOn ops G guard=some true:=by rfl) (hd:dstOk X.n dst=true:=by rfl) (hf:gFree G dst=true:=by rfl):
  VO X ops G (⟨dst,.call ⟨.value (.func f),args,tys⟩,ty,pos,after,guard⟩::l) e L K:=
 VO.op hg hd hf (OpT.callP ht hargs) fun v L' ⟨h1,h2⟩=>by subst h2;exact hk v h1
theorem VO.callV'{u:Value}{f:FuncId}{args:Array Operand}{tys:Array TypeId}{vals:List Value}
  (ht:∀Fr' w,(∀b,X.Fr b→Fr' b)→St X L w→SatIn Fr' L w→Tri X.P f vals Fr' w [] (fun v L=>v=u∧L=[])) (hargs:evs e args.toList=some vals)
  (hk:VO X ops G l (putE dst u e) L K)
  (hg:gOn ops G guard=some true:=by rfl) (hd:dstOk X.n dst=true:=by rfl) (hf:gFree G dst=true:=by rfl):
  VO X ops G (⟨dst,.call ⟨.value (.func f),args,tys⟩,ty,pos,after,guard⟩::l) e L K:=
 VO.callP ht hargs (fun v h=>by subst h;exact hk) hg hd hf
theorem VA.callP{φ:Value→Prop}{f:FuncId}{args:Array Operand}{tys:Array TypeId}{vals:List Value}{i:Nat}
  (ht:∀Fr' w,(∀b,X.Fr b→Fr' b)→St X L w→SatIn Fr' L w→Tri X.P f vals Fr' w [] (fun v L=>φ v∧L=[]))
  (hi:ops.toList[i]?=some ⟨dst,.call ⟨.value (.func f),args,tys⟩,ty,pos,after,guard⟩) (hargs:evs e args.toList=some vals)
  (hst:∀w,St X L w→∀p∈S,waits ops i p.1=false→p.2 w)
  (hk:∀v,φ v→VA X ops G pl (S.filter fun p=>!waits ops i p.1) (putE dst v e) L K)
  (hg:gOn ops G guard=some true:=by rfl) (hd:dstOk X.n dst=true:=by rfl) (hf:gFree G dst=true:=by rfl):VA X ops G (.only i pl) S e L K:=
 VA.op (M:=fun v L'=>φ v∧L'=L) hi hg hd hf (OpT.callP ht hargs) (fun v L' ⟨_,h2⟩ w hw=>by subst h2;exact hst w hw) (fun v L' ⟨h1,h2⟩=>by subst h2;exact hk v h1)
def Pd(X:Cx)(L:List HP)(S:Pend):Prop:=∀p∈S,∀w,St X L w→p.2 w
theorem Pd.nil:Pd X L []:=fun _ h=>by cases h
theorem Pd.cons{ti:TI}{b off i:Nat}{v:Value}(h:RdL X L ti b off v)(hs:Pd X L S):Pd X L ((i,Rd ti.und.agg ti.size b off v)::S):=fun p hp w hw=>by
 rcases List.mem_cons.1 hp with rfl | hp
 ·exact h w hw
 ·exact hs p hp w hw
theorem Pd.filter{f:Nat×(World→Prop)→Bool}(hs:Pd X L S):Pd X L (S.filter f):=fun p hp=>hs p (List.mem_filter.1 hp).1
theorem Pd.inner{f g:Nat×(World→Prop)→Bool}(h:Pd X L (S.filter g)):Pd X L ((S.filter f).filter g):=fun p hp=>by
 obtain⟨h1,h2⟩:=List.mem_filter.1 hp
 exact h p (List.mem_filter.2 ⟨(List.mem_filter.1 h1).1,h2⟩)
theorem Pd.skip{i j:Nat}{φ:World→Prop}(hf:waits ops j i=true)(h:Pd X L (S.filter fun p=>!waits ops j p.1)):Pd X L (((i,φ)::S:Pend).filter fun p=>!waits ops j p.1):=by
 rw[List.filter_cons_of_neg (by simp[hf])];exact h
theorem Pd.fcons{f:Nat×(World→Prop)→Bool}{ti:TI}{b off i:Nat}{v:Value}(h:RdL X L ti b off v)(hs:Pd X L (S.filter f)):Pd X L (((i,Rd ti.und.agg ti.size b off v)::S).filter f):=fun p hp=>by
 obtain⟨h1,h2⟩:=List.mem_filter.1 hp
 rcases List.mem_cons.1 h1 with rfl | h1
 ·exact fun w hw=>h w hw
 ·exact hs p (List.mem_filter.2 ⟨h1,h2⟩)
theorem Pd.st(hs:Pd X L S){i:Nat}:∀w,St X L w→∀p∈S,waits ops i p.1=false→p.2 w:=fun w hw p hp _=>hs p hp w hw
theorem VA.opP{i:Nat}{o:Oper}{M:Value→List HP→Prop}(h:OpT X o.op e L M)(hi:ops.toList[i]?=some o)
  (hst:∀v L',M v L'→Pd X L' (S.filter fun p=>!waits ops i p.1))
  (hk:∀v L',M v L'→VA X ops G pl (S.filter fun p=>!waits ops i p.1) (putE o.dst v e) L' K)
  (hg:gOn ops G o.guard=some true:=by rfl) (hd:dstOk X.n o.dst=true:=by rfl) (hf:gFree G o.dst=true:=by rfl):VA X ops G (.only i pl) S e L K:=
 VA.op hi hg hd hf h (fun v L' hm w hw p hp hq=>hst v L' hm p (List.mem_filter.2 ⟨hp,by simp[hq]⟩) w hw) hk
theorem OpT.mono{op:Op}{M N:Value→List HP→Prop}(h:OpT X op e L M)(hm:∀v L',M v L'→N v L'):OpT X op e L N:=fun a w ha hw dst ty pos after guard=>by
 rcases h a w ha hw dst ty pos after guard with ⟨v,w',L',h1,h2,h3⟩ | ⟨w',L',h1,h2,h3⟩ | ⟨f,args,h1,h2⟩
 ·exact .inl ⟨v,w',L',h1,hm _ _ h2,h3⟩
 ·exact .inr (.inl ⟨w',L',h1,hm _ _ h2,h3⟩)
 ·exact .inr (.inr ⟨f,args,h1,Calls.mono h2 fun en w' ⟨v,L',h3,h4,h5⟩=>⟨v,L',h3,hm _ _ h4,h5⟩⟩)
theorem VA.stA{j:Nat}{T:TypeId}{x y:Operand}{ti:TI}{b off t:Nat}{cs cs' vs:List Value}{L':List HP}(i:Nat)(hi:ops.toList[j]?=some ⟨dst,.store T x y,ty,pos,after,guard⟩)(hx:ev e x=some (.pointer (some ⟨b,off,none⟩)))(hy:ev e y=some (.agg vs.toArray))(hL:L[i]?=some (pt b cs t))
  (hT:tyLook X.tab T=some ti) (hl:off+vs.length≤cs.length) (hcs:wrC cs off vs=cs') (hL':L.set i (pt b cs' t)=L') (h1:vs.all Value.oneCell'=true) (hst:Pd X L' (S.filter fun p=>!waits ops j p.1))
  (hk:VA X ops G pl (S.filter fun p=>!waits ops j p.1) (putE dst undef e) L' K) (hs:vs.length=ti.size:=by rfl)
  (hg:gOn ops G guard=some true:=by rfl) (hd:dstOk X.n dst=true:=by rfl) (hf:gFree G dst=true:=by rfl):VA X ops G (.only j pl) S e L K:=by
 subst hcs;subst hL'
 exact VA.opP (OpT.store (vs:=vs) i hx hy hL hT rfl hs hl h1) hi (fun v L' ⟨h3,h4⟩=>by subst h4;exact hst) (fun v L' ⟨h3,h4⟩=>by subst h3;subst h4;exact hk) hg hd hf
theorem VA.st{j:Nat}{T:TypeId}{x y:Operand}{ti:TI}{b off t:Nat}{cs cs':List Value}{v:Value}{L':List HP}(i:Nat)(hi:ops.toList[j]?=some ⟨dst,.store T x y,ty,pos,after,guard⟩)(hx:ev e x=some (.pointer (some ⟨b,off,none⟩)))(hy:ev e y=some v)(hL:L[i]?=some (pt b cs t))
  (hT:tyLook X.tab T=some ti) (hlt:off<cs.length) (hcs:cs.set off v=cs') (hL':L.set i (pt b cs' t)=L') (hst:Pd X L' (S.filter fun p=>!waits ops j p.1))
  (hk:VA X ops G pl (S.filter fun p=>!waits ops j p.1) (putE dst undef e) L' K) (h1:v.oneCell'=true:=by rfl) (hv:v.cells=#[v]:=by rfl) (hsz:ti.size=1:=by rfl)
  (hg:gOn ops G guard=some true:=by rfl) (hd:dstOk X.n dst=true:=by rfl) (hf:gFree G dst=true:=by rfl):VA X ops G (.only j pl) S e L K:=by
 subst hcs;subst hL'
 exact VA.opP (OpT.store (vs:=[v]) i hx hy hL hT hv (by simp[hsz]) ye yg) hi (fun v' L' ⟨h3,h4⟩=>by subst h4;rw[wrC_one _ _ _ hlt];exact hst) (fun v' L' ⟨h3,h4⟩=>by subst h3;subst h4;rw[wrC_one _ _ _ hlt];exact hk) hg hd hf
end
section
variable {P:Program} {b:Frame} {a:Act} {k:List Item} {cs:List Frame} {w:World}
theorem stepR_scope{c:Code}:step P (lone (b.atR a (.code (.scope c)::k)) cs w)=.next (lone (b.atR a (.code c :: .inScope c::k)) cs w):=
 step_lone_go yl
theorem stepR_inScope{c:Code}:step P (lone (b.atR a (.inScope c::k)) cs w)=.next (lone (b.atR a k) cs w):=
 step_lone_go yl
end
def scopeQ(Q:Exit→Env→List HP→Prop):Exit→Env→List HP→Prop
 | .goto _,_,_=>False
 | x,e,L=>Q x e L
theorem VC.scope{X:Cx}{c:Code}{e:Env}{L:List HP}{Q:Exit→Env→List HP→Prop}(h:VC X c e L (scopeQ Q)):VC X (.scope c) e L Q:=fun ro a w ha hw b k cs hro hb hr=>by
 obtain⟨x,a₁,w₁,⟨e',L',h1,h2,h3⟩,harr⟩:=h ro a w ha hw b (.inScope c::k) cs hro hb hr
 have st:StepsIn (Machine.fenced X.P (wR ro)) X.P (lone (b.atR a (.code (.scope c)::k)) cs w) (lone (b.atR a (.code c :: .inScope c::k)) cs w):=.one (fenced_calm hb hr rfl) stepR_scope
 cases x with
 | normal=>exact⟨.normal,a₁,w₁,⟨e',L',h1,h2,h3⟩,StepsIn.trans st (StepsIn.trans harr (.one (fenced_calm hb hr rfl) stepR_inScope))⟩
 | exit id=>exact⟨_,a₁,w₁,⟨e',L',h1,h2,h3⟩,.of_steps st ⟨fun k' hk=>harr.1 k' (by simp[exitTo,hk]),fun hr hk=>harr.2 hr (by simp[exitTo,hk])⟩⟩
 | goto l=>exact h3.elim
 | ret=>exact⟨_,a₁,w₁,⟨e',L',h1,h2,h3⟩,.of_steps st harr⟩
 | panic ch=>exact⟨_,a₁,w₁,⟨e',L',h1,h2,h3⟩,.of_steps st harr⟩
 | outgrown=>exact⟨_,a₁,w₁,⟨e',L',h1,h2,h3⟩,.of_steps st harr⟩
theorem perm_set:∀{L:List HP} {i:Nat} (H:HP),i<L.length→(H::L.eraseIdx i).Perm (L.set i H)
 | [],_,_,h=>by simp at h
 | _::L,0,H,_=>by simp
 | x::L,i+1,H,h=>(List.Perm.swap x H _).trans ((perm_set H yc).cons x)
theorem Ent.back{X:Cx}{L:List HP}(i:Nat)(H:HP)(h:i<L.length):Ent X (H::L.eraseIdx i) (L.set i H):=(Imp.perm (perm_set H h)).ent
theorem light_buildArr{X:Cx}{e:Env}{T:TypeId}{parts:Array (Nat×Operand)}{ti te:TI}{n el:Nat}{pv:List (Nat×Value)}(cells:List Value)(hT:tyLook X.tab T=some ti)(hu:ti.und=.array n el)(hE:tyLook X.tab el=some te)
  (hp:evP e parts.toList=some pv) (hfill:fillL (fun i=>some (i*te.size,te.size)) ti.zs pv=some cells):Light X (.build T parts) e (.agg cells.toArray):=by
 intro a ha dst ty pos after guard w
 have hok:=X.ok.look hT
 have hund:=und_array hok hu
 obtain⟨i2,hi2,hs2,_,_⟩:=(X.ok.look hE).info'
 have hparts:parts.map (fun p=>(p.1,a.eval p.2))=pv.toArray:=by
  apply Array.toList_inj.1
  simpa using ha.evP hp
 have hf:=fill_fillL hfill
 have hb:(Instr.build T pv.toArray).run X.P w=.ok (.agg cells.toArray) w:=by
  unfold Instr.build
  simp only[Sem.run_bind,run_zero hok,Result.andThen_ok,run_underlying hund,run_size hi2,hok.zero,hs2]
  simp only[hf,Sem.run_pure]
 simp only[execOp]
 rw[Sem.run_bind]
 have:(parts.map fun x=>match x with | (i,x)=>(i,a.eval x))=pv.toArray:=hparts
 rw[this,hb];rfl
theorem Imp.of_eq{L M:List HP}(h:L=M):Imp L M:=h▸Imp.refl
theorem Ent.of_eq{X:Cx}{L M:List HP}(h:L=M):Ent X L M:=h▸Ent.refl
section
variable {X:Cx} {ops:Array Oper} {G:GS} {l:List Oper} {pl:Plan} {S:Pend} {e:Env} {L:List HP} {K:Env→List HP→Prop}
  {dst:Option Tmp} {ty:TypeId} {pos:String} {after:Array Edge} {guard:Option (Nat×Bool)}
theorem OpT.callAt{f:FuncId}{args:Array Operand}{tys:Array TypeId}{vals:List Value}{H:HP}{R:Value→List HP→Prop}{ψ:Value→HP→Prop}(i:Nat)
  (hL:L[i]?=some H) (ht:∀Fr' w,(∀b,X.Fr b→Fr' b)→St X L w→SatIn Fr' (L.eraseIdx i) w→Tri X.P f vals Fr' w [H] R) (hargs:evs e args.toList=some vals)
  (hR:∀v L1,R v L1→∃H',L1=[H']∧ψ v H'):
  OpT X (.call ⟨.value (.func f),args,tys⟩) e L (fun v L'=>∃H',ψ v H'∧L'=L.set i H'):=by
 intro a w ha hw dst ty pos after guard
 have hi:i<L.length:=(List.getElem?_eq_some_iff.1 hL).1
 have key:∀v w' L',(∃L1,R v L1∧L'=L1++L.eraseIdx i)→St X L' w'→∃L'',(∃H',ψ v H'∧L''=L.set i H')∧St X L'' w':=by
  rintro v w' _ ⟨L1,h1,rfl⟩ hs
  obtain⟨H',rfl,hψ⟩:=hR v L1 h1
  exact⟨_,⟨H',hψ,rfl⟩,Ent.back i H' hi w' hs⟩
 rcases OpT.call (R:=R) hargs (Lc:=[H]) (Lr:=L.eraseIdx i) (perm_eraseIdx hL) ht a w ha hw dst ty pos after guard with ⟨v,w',L',h1,h2,h3⟩ | ⟨w',L',h1,h2,h3⟩ | ⟨f,args,h1,h2⟩
 ·obtain⟨L'',h4,h5⟩:=key _ _ _ h2 h3
  exact .inl ⟨v,w',L'',h1,h4,h5⟩
 ·obtain⟨L'',h4,h5⟩:=key _ _ _ h2 h3
  exact .inr (.inl ⟨w',L'',h1,h4,h5⟩)
 ·refine .inr (.inr ⟨f,args,h1,Calls.mono h2 fun en w' ⟨v,L',h3,h4,h5⟩=>?_⟩)
  obtain⟨L'',h6,h7⟩:=key _ _ _ h4 h5
  exact⟨v,L'',h3,h6,h7⟩
theorem VO.callAt{f:FuncId}{args:Array Operand}{tys:Array TypeId}{vals:List Value}{H:HP}{R:Value→List HP→Prop}{ψ:Value→HP→Prop}(i:Nat)
  (hL:L[i]?=some H) (ht:∀Fr' w,(∀b,X.Fr b→Fr' b)→St X L w→SatIn Fr' (L.eraseIdx i) w→Tri X.P f vals Fr' w [H] R) (hargs:evs e args.toList=some vals)
  (hR:∀v L1,R v L1→∃H',L1=[H']∧ψ v H') (hk:∀v H',ψ v H'→VO X ops G l (putE dst v e) (L.set i H') K)
  (hg:gOn ops G guard=some true:=by rfl) (hd:dstOk X.n dst=true:=by rfl) (hf:gFree G dst=true:=by rfl):
  VO X ops G (⟨dst,.call ⟨.value (.func f),args,tys⟩,ty,pos,after,guard⟩::l) e L K:=
 VO.op hg hd hf (OpT.callAt i hL ht hargs hR) fun v L' ⟨H',h1,h2⟩=>by subst h2;exact hk v H' h1
theorem VA.callAt{j:Nat}{f:FuncId}{args:Array Operand}{tys:Array TypeId}{vals:List Value}{H:HP}{R:Value→List HP→Prop}{ψ:Value→HP→Prop}(i:Nat)
  (hL:L[i]?=some H) (ht:∀Fr' w,(∀b,X.Fr b→Fr' b)→St X L w→SatIn Fr' (L.eraseIdx i) w→Tri X.P f vals Fr' w [H] R)
  (hi:ops.toList[j]?=some ⟨dst,.call ⟨.value (.func f),args,tys⟩,ty,pos,after,guard⟩) (hargs:evs e args.toList=some vals)
  (hR:∀v L1,R v L1→∃H',L1=[H']∧ψ v H') (hst:∀v H',ψ v H'→Pd X (L.set i H') (S.filter fun p=>!waits ops j p.1))
  (hk:∀v H',ψ v H'→VA X ops G pl (S.filter fun p=>!waits ops j p.1) (putE dst v e) (L.set i H') K)
  (hg:gOn ops G guard=some true:=by rfl) (hd:dstOk X.n dst=true:=by rfl) (hf:gFree G dst=true:=by rfl):VA X ops G (.only j pl) S e L K:=
 VA.opP (OpT.callAt i hL ht hargs hR) hi (fun v L' ⟨H',h1,h2⟩=>by subst h2;exact hst v H' h1) (fun v L' ⟨H',h1,h2⟩=>by subst h2;exact hk v H' h1) hg hd hf
end
theorem zS:type_of% @VC.seq:=@VC.seq
theorem zR:type_of% @VC.region:=@VC.region
theorem zB:type_of% @VC.block:=@VC.block
theorem zC:type_of% @VC.scope:=@VC.scope
theorem zG:type_of% @VO.go:=@VO.go
theorem zN:type_of% @VO.nil:=@VO.nil
theorem zD:type_of% @VO.ld:=@VO.ld
theorem zE:type_of% @VO.load:=@VO.load
theorem yG:type_of% @VA.go:=@VA.go
theorem yN:type_of% @VA.nil:=@VA.nil
theorem yD:type_of% @VA.ld:=@VA.ld
theorem yE:type_of% @VA.load:=@VA.load
theorem zo:type_of% @RdL.one:=@RdL.one
theorem zm:type_of% @RdL.many:=@RdL.many
theorem zf:type_of% @Pd.fcons:=@Pd.fcons
theorem zc:type_of% @Pd.cons:=@Pd.cons
end Vg
namespace Vg
open Go
theorem VO.offU{X:Cx}{ops:Array Oper}{G:GS}{o:Oper}{l:List Oper}{e:Env}{L:List HP}{K:Env→List HP→Prop}{j d:Nat}{want:Bool}
  (hg:o.guard=some (j,want)) (hj:(ops.toList[j]?).bind (fun oj=>oj.dst)=some d) (hu:look e d=some undef)
  (hk:VO X ops G l (putE o.dst undef e) L K) (hd:dstOk X.n o.dst=true:=by rfl) (hf:gFree G o.dst=true:=by rfl):VO X ops G (o::l) e L K:=by
 intro Q' hQ ro a w ha hG hw
 unfold wpListIn
 have hn:Region.wanted o (yielded ops a.tmps)=false:=by
  unfold Region.wanted
  rw[hg]
  have hy:yielded ops a.tmps j=none:=by
   unfold yielded
   have hj':(ops[j]?).bind (fun oj=>oj.dst)=some d:=by simpa using hj
   have ht:=ha.at_ d _ hu
   rw[hj']
   simp only[Option.bind_some]
   cases hq:a.tmps[d]? with
   | none=>rfl
   | some v=>
    have:v=undef:=by rw[←ht,Array.getD_eq_getD_getElem?,hq];rfl
    subst this;rfl
  simp[hy]
 rw[if_neg (by rw[hn];simp)]
 exact xcv
theorem zU:type_of% @VO.offU:=@VO.offU
end Vg
namespace Vg
open Go
theorem light_head{X:Cx}{e:Env}{T:TypeId}{x y:Operand}{tt te:TI}{el len cap:Nat}{a:Option Addr}{k:IntKind}{j:Int}(hi:Nat)(hx:ev e x=some (.slice a len cap))(hy:ev e y=some (.int k j))
  (hT:tyLook X.tab T=some tt) (hu:tt.und=.slice el) (hE:tyLook X.tab el=some te) (hhi:j=hi) (h1:hi≤cap):
  Light X (.slice T x none (some y) none) e (.slice a hi cap):=by
 intro ac hac dst ty pos after guard w
 have hd:=und_slice (X.ok.look hT) hu
 obtain⟨i2,hi2,hs2,_,_⟩:=(X.ok.look hE).info'
 subst hhi
 simp[execOp,hac.ev hx,hac.ev hy,Instr.sliceAt,Instr.slice,Instr.sliceBounds,Instr.sliceBound,asIntOf,run_underlying hd,h1,run_size hi2]
 cases a with
 | none=>simp
 | some a=>simp[Addr.add]
theorem light_conv{X:Cx}{e:Env}{s d:TypeId}{x:Operand}{j:IntKind}{a:Int}{ts td:TI}{k:IntKind}(z:Int)(hx:ev e x=some (.int j a))(hs:tyLook X.tab s=some ts)(hd':tyLook X.tab d=some td)(hsu:ts.und=.int j)(hdu:td.und=.int k)
  (hz:k.wrap a=z):Light X (.convert s d x) e (.int k z):=by
 have h1:=und_int (X.ok.look hs) hsu
 have h2:=und_int (X.ok.look hd') hdu
 intro a' ha dst ty pos after guard w
 simp[execOp,ha.ev hx,convert,run_underlying h1,run_underlying h2,Conv.intToInt,hz]
theorem Ret.cell3{X:Cx}{fn:Func}{R:Value→List HP→Prop}{e:Env}{L:List HP}{T:TypeId}{ti:TI}{b:Nat}{v u x:Value}(p q r:Nat)(h:fn.results=#[.cell p T,.tmp q,.tmp r])(hp:look e p=some (.pointer (some ⟨b,0,none⟩)))(hT:tyLook X.tab T=some ti)
  (hr:RdL X L ti b 0 v) (hq:look e q=some u) (hx:look e r=some x) {L':List HP} (he:Ent X L L') (hR:R (.tuple #[v,u,x]) L'):Ret X fn R e L:=
 ⟨_,L',⟨fun a w ha hw=>by
  have:=run_loadVar (X.ok.look hT) (hr w hw)
  have hp':=ha.at_ p _ hp
  have hq':=ha.at_ q _ hq
  have hx':=ha.at_ r _ hx
  simp only[Array.getD_eq_getD_getElem?] at hp' hq' hx'
  simp[results,h,hp',hq',hx',asAddr,this]⟩,he,hR⟩
theorem OpT.viaTmp{X:Cx}{f:FuncId}{args:Array Operand}{tys:Array TypeId}{e:Env}{L:List HP}{M:Value→List HP→Prop}{t:Tmp}(ht:look e t=some (.func (.func f) #[] #[]))
  (h:OpT X (.call ⟨.value (.func f),args,tys⟩) e L M):OpT X (.call ⟨.value (.tmp t),args,tys⟩) e L M:=fun a w ha hw dst ty pos after guard=>by
 have he:a.eval (.tmp t)=a.eval (.func f):=ha.at_ t _ ht
 have key:execOp a.eval ⟨dst,.call ⟨.value (.tmp t),args,tys⟩,ty,pos,after,guard⟩=execOp a.eval ⟨dst,.call ⟨.value (.func f),args,tys⟩,ty,pos,after,guard⟩:=by
  simp only[execOp,resolve,he]
 rw[key]
 exact h a w ha hw dst ty pos after guard
section
variable {X:Cx} {ops:Array Oper} {G:GS} {l:List Oper} {pl:Plan} {S:Pend} {e:Env} {L:List HP} {K:Env→List HP→Prop}
  {dst:Option Tmp} {ty:TypeId} {pos:String} {after:Array Edge} {guard:Option (Nat×Bool)}
theorem VA.offO{i:Nat}{o:Oper}(hi:ops.toList[i]?=some o)(hg:gOn ops G o.guard=some false)(hk:VA X ops G pl (S.filter fun p=>!waits ops i p.1) (putE o.dst undef e) L K)
  (hd:dstOk X.n o.dst=true:=by rfl) (hf:gFree G o.dst=true:=by rfl):VA X ops G (.only i pl) S e L K:=by
 intro Q' hp0 hQ hsel ro listed a w hp ha hG hw hall
 simp only[planB,Bool.and_eq_true,beq_iff_eq] at hp
 have hi':ops[i]?=some o:=by simpa using hi
 have hpr:=hp.1
 refine⟨fun h0=>yh,fun j hj=>?_⟩
 rw[hpr,List.mem_singleton] at hj
 subst hj
 unfold wpOpIn
 rw[hi']
 simp only[gOn_wanted hG hg,Bool.false_eq_true,if_false]
 refine⟨fun _ _=>trivial,fun p hp1 _=>hall p hp1,?_⟩
 exact hk Q' hp0 hQ hsel ro _ _ w hp.2 (ha.putE hd undef) (hG.put hf undef) hw (fun p hp1=>hall p (List.mem_filter.1 hp1).1)
theorem VA.keepS{cond:List HP→Prop}(h:∀S:Pend,(∀L',cond L'→Pd X L' S)→VA X ops G pl S e L K)(h0:∀L',cond L'→Pd X L' S):VA X ops G pl S e L K:=h S h0
theorem VO.callAtT{f:FuncId}{t:Tmp}{args:Array Operand}{tys:Array TypeId}{vals:List Value}{H:HP}{R:Value→List HP→Prop}{ψ:Value→HP→Prop}(i:Nat)(htm:look e t=some (.func (.func f) #[] #[]))
  (hL:L[i]?=some H) (ht:∀Fr' w,(∀b,X.Fr b→Fr' b)→St X L w→SatIn Fr' (L.eraseIdx i) w→Tri X.P f vals Fr' w [H] R) (hargs:evs e args.toList=some vals)
  (hR:∀v L1,R v L1→∃H',L1=[H']∧ψ v H') (hk:∀v H',ψ v H'→VO X ops G l (putE dst v e) (L.set i H') K)
  (hg:gOn ops G guard=some true:=by rfl) (hd:dstOk X.n dst=true:=by rfl) (hf:gFree G dst=true:=by rfl):
  VO X ops G (⟨dst,.call ⟨.value (.tmp t),args,tys⟩,ty,pos,after,guard⟩::l) e L K:=
 VO.op hg hd hf (OpT.viaTmp htm (OpT.callAt i hL ht hargs hR)) fun v L' ⟨H',h1,h2⟩=>by subst h2;exact hk v H' h1
end
theorem VG:type_of% @VO.go:=@VO.go
theorem AG:type_of% @VA.go:=@VA.go
theorem VY:type_of% @VO.yes:=@VO.yes
theorem AY:type_of% @VA.yes:=@VA.yes
theorem CR:type_of% @VC.ret:=@VC.ret
theorem CK:type_of% @VC.skip:=@VC.skip
theorem CS:type_of% @VC.seq:=@VC.seq
theorem CG:type_of% @VC.region:=@VC.region
theorem ER:type_of% @Ent.refl:=@Ent.refl
theorem VN:type_of% @VO.nil:=@VO.nil
theorem AN:type_of% @VA.nil:=@VA.nil
theorem CC:type_of% @VC.cond:=@VC.cond
theorem CP:type_of% @VC.condP:=@VC.condP
theorem CE:type_of% @VC.condE:=@VC.condE
theorem VL:type_of% @VO.ldA:=@VO.ldA
theorem VT:type_of% @VO.stA:=@VO.stA
theorem AR:type_of% @VA.callR:=@VA.callR
theorem VV:type_of% @VO.callV':=@VO.callV'
theorem VK:type_of% @VO.call:=@VO.call
theorem VQ:type_of% @VO.callAt:=@VO.callAt
theorem VI:type_of% @VO.light:=@VO.light
theorem AI:type_of% @VA.light:=@VA.light
theorem CN:type_of% @VC.ent:=@VC.ent
theorem VB:type_of% @VO.boxA:=@VO.boxA
theorem SC:type_of% @Sub.cons:=@Sub.cons
theorem SN:type_of% @Sub.nil:=@Sub.nil
theorem IP:type_of% @Imp.pick:=@Imp.pick
theorem TF:type_of% @Tri.of:=@Tri.of
theorem LB:type_of% @light_build:=@light_build
theorem CX:type_of% @VC.exit:=@VC.exit
theorem CD:type_of% @VC.draw:=@VC.draw
theorem OC:type_of% @OpT.call:=@OpT.call
theorem AO:type_of% @VA.opP:=@VA.opP
theorem AQ:type_of% @VA.callAt:=@VA.callAt
theorem AT:type_of% @VA.stA:=@VA.stA
theorem VP:type_of% @VO.add:=@VO.add
theorem AP:type_of% @VA.add:=@VA.add
abbrev pV(b:Nat):Value:=.pointer (some ⟨b,0,none⟩)
end Vg
namespace Vg
open Go
theorem Imp.put{H:HP}{L:List HP}(k:Nat)(hk:k<L.length):Imp (H::L) (L.set k H):=by
 have h1:Imp L (L.eraseIdx k):=Imp.trans (Imp.perm (perm_eraseIdx (GE hk))) (Imp.app (L:=[_]) (M:=[]) Imp.nil Imp.refl)
 exact Imp.trans (Imp.cons h1) (Imp.perm (perm_set H hk))
end Vg
namespace Vg
open Go
structure RL(α:Type) where
 addr:Option Addr
 cap:Nat
 blk:Option Nat
 cells:List Value
 xs:List α
section
variable {α:Type} {c:α→List Value} {n t:Nat}
def RL.v(r:RL α):Value:=.slice r.addr r.xs.length r.cap
def RL.h(t:Nat)(r:RL α):HP:=match r.blk with
 | none=>hpure True
 | some b=>pt b r.cells t
structure RL.Ok(c:α→List Value)(n:Nat)(r:RL α):Prop where
 room:r.xs.length≤r.cap
 at_:r.xs≠[]→∃b off,r.blk=some b∧r.addr=some ⟨b,off,none⟩∧∀i x,r.xs[i]?=some x→(r.cells.drop (off+i*n)).take n=c x
def RL.none:RL α:=⟨.none,0,.none,[],[]⟩
theorem RL.none_ok:(RL.none:RL α).Ok c n:=⟨NR _,fun h=>absurd rfl h⟩
def RL.new(c:α→List Value)(b cap:Nat)(xs:List α)(rest:List Value):RL α:=⟨some ⟨b,0,Option.none⟩,cap,some b,flat c xs++rest,xs⟩
theorem RL.new_ok(hc:∀x,(c x).length=n){b cap:Nat}{xs:List α}{rest:List Value}(h:xs.length≤cap):(RL.new c b cap xs rest).Ok c n:=⟨h,fun _=>⟨b,0,rfl,rfl,fun i x hx=>by
 rw[Nat.zero_add];exact flat_row hc hx rest⟩⟩
theorem RL.Ok.nth{r:RL α}{x:α}{k:Nat}(h:r.Ok c n)(hx:r.xs[k]?=some x):∃b off,r.blk=some b∧r.addr=some ⟨b,off,Option.none⟩∧(r.cells.drop (off+k*n)).take n=c x:=by
 obtain⟨b,off,h1,h2,h3⟩:=h.at_ (fun e=>by rw[e] at hx;cases hx)
 exact⟨b,off,h1,h2,h3 k x hx⟩
theorem RL.h_pt{r:RL α}{b:Nat}(h:r.blk=some b):r.h t=pt b r.cells t:=by rw[RL.h,h]
theorem HOpn.rl(el:Nat)(a:Option Addr)(cap:Nat)(xs:List α)(hc:∀x,(c x).length=n):HOpn (ι:=RL α) (slH el n a xs.length cap (flat c xs)) (fun r=>r.Ok c n∧r.v=.slice a xs.length cap∧r.xs=xs) (fun r=>[r.h el]):=by
 intro w ids h hn
 obtain⟨x,hx,ids',h1,h2,h3⟩:=HOpn.sl el n a xs.length cap (flat c xs) w ids h hn
 cases x with
 | none=>
  obtain⟨h5,h6,h7,h8,h9,h10⟩:=hx
  subst h7;subst h9
  obtain rfl:xs=[]:=List.eq_nil_of_length_eq_zero h8
  cases h1
  exact⟨RL.none,⟨RL.none_ok,rfl,rfl⟩,[],⟨[],[],rfl,⟨rfl,trivial⟩,rfl⟩,.nil,fun _ h=>by cases h⟩
 | some x=>
  obtain⟨b,rest⟩:=x
  obtain⟨h5,h6,h7,h8⟩:=hx
  subst h7
  exact⟨RL.new c b cap xs rest,⟨RL.new_ok hc h6,rfl,rfl⟩,ids',h1,h2,h3⟩
end
end Vg
namespace Vg
open Go
structure Ext(P:Program)(f:FuncId)(fn:Func)(g:Array Value→Sem Value):Prop where
 at_:P.funcs[f]?=some fn
 nm:(fn.name == "runtime.NumGoroutine")=false
 nb:fn.body.isNone=true
 nn:Extern.findNext fn=none
 ex:Extern.find fn=some g
theorem exec_call(a:Act)(f:FuncId)(args:Array Operand)(tys:Array TypeId)(dst:Option Tmp)(ty:TypeId)(pos:String)(after:Array Edge)(guard:Option (Nat×Bool)):
  execOp a.eval ⟨dst,.call ⟨.value (.func f),args,tys⟩,ty,pos,after,guard⟩=callFunc f (args.map a.eval):=by
 have ef:a.eval (.func f)=.func (.func f) #[] #[]:=rfl
 unfold execOp
 simp[resolve,Deferred.ofValue,invoke,ef]
section
variable {X:Cx} {e:Env} {L:List HP}
end
section
variable {X:Cx} {ops:Array Oper} {G:GS} {l:List Oper} {pl:Plan} {S:Pend} {e:Env} {L:List HP} {K:Env→List HP→Prop}
  {dst:Option Tmp} {ty:TypeId} {pos:String} {after:Array Edge} {guard:Option (Nat×Bool)}
end
end Vg
namespace Vg
open Go Go.MapKept
section
variable {κ α:Type} [DecidableEq κ]
def lookI:List (κ×α)→κ→Nat→Option (Nat×α)
 | [],_,_=>none
 | (k,v)::r,a,i=>if k=a then some (i,v) else lookI r a (i+1)
def mGet:List (κ×α)→κ→Option α
 | [],_=>none
 | (k,v)::r,a=>if k=a then some v else mGet r a
def mPut:List (κ×α)→κ→α→List (κ×α)
 | [],a,u=>[(a,u)]
 | (k,v)::r,a,u=>if k=a then (k,u)::r else (k,v)::mPut r a u
def mDel:List (κ×α)→κ→List (κ×α)
 | [],_=>[]
 | (k,v)::r,a=>if k=a then r else (k,v)::mDel r a
theorem lookI_none:∀{l:List (κ×α)} {a:κ} {i:Nat},lookI l a i=none→mGet l a=none∧(∀x∈l,x.1≠a)∧(∀u,mPut l a u=l ++ [(a,u)])∧mDel l a=l
 | [],_,_,_=>⟨rfl,(fun _ h=>by cases h),fun _=>rfl,rfl⟩
 | (k,v)::r,a,i,h=>by
  simp only[lookI] at h
  split at h
  ·cases h
  ·rename_i hk
   obtain⟨h1,h2,h3,h4⟩:=lookI_none h
   refine⟨by simp[mGet,hk,h1],fun x hx=>?_,fun u=>by simp[mPut,hk,h3],by simp[mDel,hk,h4]⟩
   rcases List.mem_cons.1 hx with rfl | hx
   ·exact hk
   ·exact h2 x hx
theorem lookI_some:∀{l:List (κ×α)} {a:κ} {i j:Nat} {v:α},lookI l a i=some (j,v)→i≤j∧l[j-i]?=some (a,v)∧mGet l a=some v∧(∀u,mPut l a u=l.set (j-i) (a,u))∧mDel l a=l.eraseIdx (j-i)
 | [],_,_,_,_,h=>by cases h
 | (k,u)::r,a,i,j,v,h=>by
  simp only[lookI] at h
  split at h
  ·rename_i hk
   obtain⟨rfl,rfl⟩:=Prod.mk.inj (Option.some.inj h)
   subst hk
   refine⟨NR _,by simp,by simp[mGet],fun u=>by simp[mPut],by simp[mDel]⟩
  ·rename_i hk
   obtain⟨h1,h2,h3,h4,h5⟩:=lookI_some h
   have e:j-i=(j-(i+1))+1:=by omega
   rw[e]
   exact⟨by omega,by simpa using h2,by simp[mGet,hk,h3],fun u=>by simp[mPut,hk,h4],by simp[mDel,hk,h5]⟩
theorem mGet_put(l:List (κ×α))(a b:κ)(u:α):mGet (mPut l a u) b=if a=b then some u else mGet l b:=by
 induction l with
 | nil=>simp[mPut,mGet]
 | cons x r ih=>
  obtain⟨k,v⟩:=x
  simp only[mPut]
  by_cases hk:k=a
  ·subst hk
   by_cases hb:k=b
   ·simp[mGet,hb]
   ·simp[mGet,hb]
  ·rw[if_neg hk]
   simp only[mGet]
   rw[ih]
   by_cases hb:k=b
   ·subst hb;simp[Ne.symm hk]
   ·simp[hb]
theorem mGet_none_iff(l:List (κ×α))(a:κ):mGet l a=none↔∀x∈l,x.1≠a:=by
 induction l with
 | nil=>simp[mGet]
 | cons x r ih=>
  obtain⟨k,v⟩:=x
  simp only[mGet]
  by_cases hk:k=a
  ·simp[hk]
  ·simp[hk,ih]
theorem mGet_mem{l:List (κ×α)}{a:κ}{v:α}(h:mGet l a=some v):(a,v)∈l:=by
 induction l with
 | nil=>cases h
 | cons x r ih=>
  obtain⟨k,u⟩:=x
  simp only[mGet] at h
  by_cases hk:k=a
  ·rw[if_pos hk] at h;cases h;simp[hk]
  ·rw[if_neg hk] at h;simp[ih h]
theorem mGet_of_mem{l:List (κ×α)}{a:κ}{v:α}(hn:(l.map Prod.fst).Nodup)(h:(a,v)∈l):mGet l a=some v:=by
 induction l with
 | nil=>cases h
 | cons x r ih=>
  obtain⟨k,u⟩:=x
  simp only[List.map_cons,List.nodup_cons] at hn
  simp only[mGet]
  rcases List.mem_cons.1 h with h | h
  ·cases h;simp
  ·have:k≠a:=fun e=>hn.1 (e▸List.mem_map.2 ⟨(a,v),h,rfl⟩)
   rw[if_neg this];exact ih hn.2 h
theorem mPut_keys(l:List (κ×α))(a:κ)(u:α):(mPut l a u).map Prod.fst=if a∈l.map Prod.fst then l.map Prod.fst else l.map Prod.fst ++ [a]:=by
 induction l with
 | nil=>simp[mPut]
 | cons x r ih=>
  obtain⟨k,v⟩:=x
  simp only[mPut]
  by_cases hk:k=a
  ·simp[hk]
  ·rw[if_neg hk,List.map_cons,ih]
   by_cases hm:a∈r.map Prod.fst
   ·rw[if_pos hm,if_pos (by simp[hm])];rfl
   ·rw[if_neg hm,if_neg (by simp only[List.map_cons,List.mem_cons,not_or];exact⟨Ne.symm hk,hm⟩)];rfl
theorem mPut_nodup{l:List (κ×α)}(h:(l.map Prod.fst).Nodup)(a:κ)(u:α):((mPut l a u).map Prod.fst).Nodup:=by
 rw[mPut_keys]
 split
 ·exact h
 ·rename_i hm
  exact List.nodup_append.2 ⟨h,by simp,fun x hx y hy e=>by simp at hy;subst hy;subst e;exact hm hx⟩
theorem mDel_sub(l:List (κ×α))(a:κ):(mDel l a).Sublist l:=by
 induction l with
 | nil=>exact List.Sublist.refl _
 | cons x r ih=>
  obtain⟨k,v⟩:=x
  simp only[mDel]
  split
  ·exact List.sublist_cons_self _ _
  ·exact ih.cons_cons _
theorem mDel_nodup{l:List (κ×α)}(h:(l.map Prod.fst).Nodup)(a:κ):((mDel l a).map Prod.fst).Nodup:=((mDel_sub l a).map _).nodup h
end
structure KeyOk(P:Program)(kt:TypeId){κ:Type}[DecidableEq κ](c:κ→Value):Prop where
 inj:∀a b,c a=c b→a=b
 check:∀(e:Bool) (a:κ) (w:World),(Instr.checkKey e 10000 kt (c a)).run P w=.ok () w
 find:∀{α:Type} (d:α→Value) (a:κ) (xs:List (κ×α)) (es:List MapEntry),es.map (fun e=>(e.key,e.val))=xs.map (fun x=>(c x.1,d x.2))→∀w:World,
  (Instr.findKey kt (c a) es).run P w=.ok ((lookI xs a 0).map fun p=>(p.1,d p.2)) w
 bits:∀a,Instr.sameBits 10000 (c a) (c a)=true
def strV(s:ByteArray):Value:=.string s
theorem findNow_str{α:Type}(d:α→Value)(a:ByteArray):∀(xs:List (ByteArray×α)) (es:List MapEntry) (i:Nat),es.map (fun e=>(e.key,e.val))=xs.map (fun x=>(strV x.1,d x.2)) →
  Instr.findNow .string (strV a) es i=some ((lookI xs a i).map fun p=>(p.1,d p.2))
 | [],[],_,_=>rfl
 | [],_::_,_,h=>by cases h
 | _::_,[],_,h=>by cases h
 | (k,v)::xs,e::es,i,h=>by
  simp only[List.map_cons,List.cons.injEq,Prod.mk.injEq] at h
  obtain⟨⟨h1,h2⟩,h3⟩:=h
  unfold Instr.findNow
  rw[h1]
  simp only[strV,Instr.sameNow,lookI]
  by_cases hk:k=a
  ·subst hk
   rw[(bytes_beq k k).2 rfl,if_pos rfl,h2];rfl
  ·have:(a == k)=false:=by
    cases hb:a == k
    ·rfl
    ·exact absurd ((bytes_beq a k).1 hb).symm hk
   rw[this,if_neg hk]
   exact findNow_str d a xs es (i+1) h3
theorem KeyOk.string{P:Program}{kt:TypeId}(h:P.underlying kt=some .string):KeyOk P kt strV where
 inj:=fun a b h=>by simpa[strV] using h
 check:=fun e a w=>by
  show(Instr.checkKey e (9999+1) kt (strV a)).run P w=_
  exact run_checkKey h (by trivial) e 9999
 find:=fun d a xs es hes w=>run_findKey h (findNow_str d a xs es 0 hes)
 bits:=fun a=>by simp[strV,Instr.sameBits,bytes_beq]
theorem findAsking_of{P:Program}{kt:TypeId}{κ α:Type}[DecidableEq κ]{c:κ→Value}(heq:∀(a b:κ) (w:World),(Op.equal kt (c a) (c b)).run P w=.ok (decide (a=b)) w)(d:α→Value)(a:κ):
  ∀(xs:List (κ×α)) (es:List MapEntry) (i:Nat),es.map (fun e=>(e.key,e.val))=xs.map (fun x=>(c x.1,d x.2))→∀w:World,(Instr.findAsking kt (c a) es i).run P w=.ok ((lookI xs a i).map fun p=>(p.1,d p.2)) w
 | [],[],_,_,_=>rfl
 | [],_::_,_,h,_=>by cases h
 | _::_,[],_,h,_=>by cases h
 | (k,v)::xs,e::es,i,h,w=>by
  simp only[List.map_cons,List.cons.injEq,Prod.mk.injEq] at h
  obtain⟨⟨h1,h2⟩,h3⟩:=h
  unfold Instr.findAsking
  rw[Sem.run_bind,h1,heq a k w,Result.andThen_ok]
  simp only[lookI]
  by_cases hk:k=a
  ·subst hk
   simp only[decide_true,if_true,h2];rfl
  ·rw[if_neg hk,DF (Ne.symm hk)]
   simp only[Bool.false_eq_true,if_false]
   exact findAsking_of heq d a xs es (i+1) h3 w
def MapAt{κ α:Type}(c:κ→Value)(d:α→Value)(b:Nat)(xs:List (κ×α))(w:World):Prop:=
 ∃(es:Array MapEntry) (clock:Nat),w.heap[b]?=some (.map es clock)∧es.toList.map (fun e=>(e.key,e.val))=xs.map (fun x=>(c x.1,d x.2))∧Stamped es clock
theorem MapAt.loc{κ α:Type}{c:κ→Value}{d:α→Value}{b:Nat}{xs:List (κ×α)}{w w':World}(h:MapAt c d b xs w)(hb:w'.heap[b]?=w.heap[b]?):MapAt c d b xs w':=by
 obtain⟨es,k,h1,h2⟩:=h
 exact⟨es,k,hb.trans h1,h2⟩
def mapH{κ α:Type}(c:κ→Value)(d:α→Value)(b:Nat)(xs:List (κ×α)):HP:=
 ⟨fun ids w=>ids=[b]∧MapAt c d b xs w,fun _ _ _ h hs=>⟨hs.1,hs.2.loc (h b yb)⟩⟩
structure MapBlk{κ α:Type}(Fr:Nat→Prop)(w:World)(c:κ→Value)(d:α→Value)(b:Nat)(xs:List (κ×α)):Prop where
 fr:Fr b
 at_:MapAt c d b xs w
section
variable {X:Cx} {κ α:Type} {c:κ→Value} {d:α→Value} {b:Nat} {xs:List (κ×α)}
theorem St.atMap{L:List HP}{w:World}(h:St X L w){i:Nat}(hL:L[i]?=some (mapH c d b xs)):MapAt c d b xs w∧¬X.Fr b:=by
 obtain⟨F,hs,_,hb⟩:=h.sat
 obtain⟨ids,h1,h2⟩:=hs.get hL
 obtain⟨rfl,h1⟩:=h1
 exact⟨h1,(hb b (h2 b yf)).1⟩
theorem SatIn.mapBlk{Fr:Nat→Prop}{L:List HP}{w:World}(h:SatIn Fr L w)(i:Nat)(hL:L[i]?=some (mapH c d b xs)):MapBlk Fr w c d b xs:=by
 obtain⟨F,hs,hf⟩:=h
 obtain⟨ids,⟨rfl,h1⟩,h2⟩:=hs.get hL
 exact⟨hf b (h2 b yf),h1⟩
theorem MapBlk.of(h:MapBlk X.Fr X.w0 c d b xs){Fr':Nat→Prop}(hF:∀b,X.Fr b→Fr' b){w:World}{L:List HP}(hw:St X L w):MapBlk Fr' w c d b xs:=⟨hF b h.fr,h.at_.loc (hw.keep.block b h.fr)⟩
def MpL(X:Cx)(L:List HP)(c:κ→Value)(d:α→Value)(b:Nat)(xs:List (κ×α)):Prop:=∀w,St X L w→MapAt c d b xs w
theorem MpL.one{L:List HP}(i:Nat)(hL:L[i]?=some (mapH c d b xs)):MpL X L c d b xs:=fun w hw=>(hw.atMap hL).1
theorem MpL.blk{L:List HP}(h:MapBlk X.Fr X.w0 c d b xs):MpL X L c d b xs:=fun w hw=>h.at_.loc (hw.keep.block b h.fr)
theorem Sats.setG:∀{L:List HP} {F:List Nat} {w w':World} {i b:Nat} {H H':HP},Sats L F w→F.Nodup→L[i]?=some H→(∀ids w,H.sat ids w→ids=[b])→H'.sat [b] w' →
  (∀c,c≠b→w'.heap[c]?=w.heap[c]?)→Sats (L.set i H') F w'
 | [],_,_,_,_,_,_,_,_,_,h,_,_,_=>by simp at h
 | _::L,F,w,w',0,b,H,H',⟨j,G,hF,hj,hG⟩,hn,h,hi,h1,h2=>by
  simp only[List.getElem?_cons_zero,Option.some.injEq] at h
  subst h;subst hF
  obtain rfl:=hi _ _ hj
  refine⟨[b],G,rfl,h1,hG.loc fun c hc=>h2 c fun he=>?_⟩
  subst he
  simp at hn
  exact hn.1 hc
 | K::L,F,w,w',i+1,b,H,H',⟨j,G,hF,hj,hG⟩,hn,h,hi,h1,h2=>by
  simp only[List.getElem?_cons_succ] at h
  subst hF
  obtain⟨hnj,hnG,hd⟩:=List.nodup_append.1 hn
  obtain⟨ids,hp,hm⟩:=hG.get h
  obtain rfl:=hi _ _ hp
  have hb:=hm b yf
  exact⟨j,G,rfl,K.loc j w w' (fun c hc=>h2 c fun he=>hd c hc b hb he) hj,Sats.setG hG hnG h hi h1 h2⟩
theorem St.setG{L:List HP}{w:World}(h:St X L w){i:Nat}{H H':HP}{o o':Obj}(hL:L[i]?=some H)(hi:∀ids w,H.sat ids w→ids=[b])(h0:w.heap[b]?=some o)(hf:¬X.Fr b)(h1:H'.sat [b] (setBlk w b o')):
  St X (L.set i H') (setBlk w b o'):=by
 obtain⟨F,hs,hn,hb⟩:=h.sat
 refine⟨⟨F,hs.setG hn hL hi h1 (fun c hc=>heap_setBlk_ne (Ne.symm hc)),hn,fun c hc=>⟨(hb c hc).1,by rw[size_setBlk];exact(hb c hc).2⟩⟩,?_,h.low⟩
 exact xdd
theorem St.allocM{L:List HP}{w:World}(h:St X L w):St X (mapH c d w.heap.size ([]:List (κ×α))::L) (w.alloc (.map #[] 0)):=
 ⟨h.sat.alloc h.lowW _ _ ⟨rfl,#[],0,heap_alloc_new w _,rfl,stamped_empty 0⟩,h.keep.trans (Keep.alloc h.lowW _),h.low⟩
end
section
variable {X:Cx} {κ α:Type} [DecidableEq κ] {c:κ→Value} {d:α→Value} {b:Nat} {xs:List (κ×α)} {e:Env} {L:List HP} {T kt et:TypeId} {te:TI} {x y z:Operand}
theorem es_map{es:List MapEntry}{c:κ→Value}{d:α→Value}{xs:List (κ×α)}(h:es.map (fun e=>(e.key,e.val))=xs.map (fun x=>(c x.1,d x.2))){j:Nat}{a:κ}{v:α}(hx:xs[j]?=some (a,v)):∃m,es[j]?=some m∧m.key=c a∧m.val=d v:=by
 have:=congrArg (fun l=>l[j]?) h
 simp only[List.getElem?_map,hx,Option.map_some] at this
 cases hm:es[j]? with
 | none=>rw[hm] at this;cases this
 | some m=>
  rw[hm] at this
  simp only[Option.map_some,Option.some.injEq,Prod.mk.injEq] at this
  exact⟨m,rfl,this.1,this.2⟩
theorem run_lookup{P:Program}(K:KeyOk P kt c)(hT:P.underlying T=some (.map kt et))(hE:TIok P et te)(a:κ)(ok:Bool){w:World}(hM:MapAt c d b xs w):
  (Instr.lookup T (.map (some b)) (c a) ok).run P w=.ok (bif ok then .tuple #[((mGet xs a).map d).getD te.zero,.bool (mGet xs a).isSome] else ((mGet xs a).map d).getD te.zero) w:=by
 obtain⟨es,clock,h1,h2,h3⟩:=hM
 have hf:=K.find d a xs es.toList h2 w
 cases hl:lookI xs a 0 with
 | none=>
  obtain⟨hg,_⟩:=lookI_none hl
  rw[hl] at hf
  cases ok<;>simp[Instr.lookup,run_underlying hT,MapKept.run_getObj_map h1,K.check,hf,hg,run_zero hE,Result.andThen]
 | some p=>
  obtain⟨j,v⟩:=p
  obtain⟨_,_,hg,_⟩:=lookI_some hl
  rw[hl] at hf
  cases ok<;>simp[Instr.lookup,run_underlying hT,MapKept.run_getObj_map h1,K.check,hf,hg,Result.andThen]
theorem OpT.lookup(K:KeyOk X.P kt c)(hT:X.P.underlying T=some (.map kt et))(hE:tyLook X.tab et=some te){a:κ}{ok:Bool}(hx:ev e x=some (.map (some b)))(hk:ev e y=some (c a))(hM:MpL X L c d b xs):
  OpT X (.lookup T x y ok) e L (fun u L'=>u=(bif ok then .tuple #[((mGet xs a).map d).getD te.zero,.bool (mGet xs a).isSome] else ((mGet xs a).map d).getD te.zero)∧L'=L):=fun ac w ha hw dst ty pos after guard=>by
 refine .inl ⟨_,w,L,?_,⟨rfl,rfl⟩,hw⟩
 simp only[execOp,ha.ev hx,ha.ev hk]
 rw[Sem.run_bind,run_lookup K hT (X.ok.look hE) a ok (hM w hw)];rfl
theorem map_put{P:Program}(K:KeyOk P kt c)(a:κ)(u:α){es:Array MapEntry}{clock:Nat}(h2:es.toList.map (fun e=>(e.key,e.val))=xs.map (fun x=>(c x.1,d x.2)))(h3:Stamped es clock):
  (∀{j v},lookI xs a 0=some (j,v)→∃m,es[j]?=some m∧m.key=c a∧(es.modify j fun e=>{ e with key:=c a,val:=d u }).toList.map (fun e=>(e.key,e.val))=(mPut xs a u).map (fun x=>(c x.1,d x.2))∧Stamped (es.modify j fun e=>{ e with key:=c a,val:=d u }) clock) ∧
  (lookI xs a 0=none→(es.push { key:=c a,val:=d u,born:=clock }).toList.map (fun e=>(e.key,e.val))=(mPut xs a u).map (fun x=>(c x.1,d x.2))∧Stamped (es.push { key:=c a,val:=d u,born:=clock }) (clock+1)):=by
 constructor
 ·intro j v hl
  obtain⟨_,hj,_,hp,_⟩:=lookI_some hl
  rw[Nat.sub_zero] at hj hp
  obtain⟨m,hm,hmk,hmv⟩:=es_map h2 hj
  have hm':es[j]?=some m:=by simpa using hm
  refine⟨m,hm',hmk,?_,stamped_modify h3 j _ (fun _ _=>rfl) (fun e _ he=>?_)⟩
  ·rw[hp]
   apply List.ext_getElem?
   intro k
   have hk:=congrArg (fun l=>l[k]?) h2
   simp only[List.getElem?_map] at hk ⊢
   by_cases hjk:j=k
   ·subst hjk
    have hlt:j<xs.length:=(List.getElem?_eq_some_iff.1 hj).1
    have hlt2:j<es.size:=(Array.getElem?_eq_some_iff.1 hm').1
    simp[hlt,hlt2,Array.getElem?_toList,Array.getElem_modify]
   ·rw[List.getElem?_set_ne hjk,←hk]
    simp only[Array.getElem?_toList,Array.getElem?_modify,if_neg hjk]
  ·rw[hm'] at he;cases he;exact hmk.symm
 ·intro hl
  obtain⟨_,hne,hp,_⟩:=lookI_none hl
  refine⟨by rw[hp];simp[h2],stamped_push h3 fun m hm=>?_⟩
  intro he
  have:(m.key,m.val)∈es.toList.map (fun e=>(e.key,e.val)):=List.mem_map.2 ⟨m,hm,rfl⟩
  rw[h2] at this
  obtain⟨x,hx,hx2⟩:=List.mem_map.1 this
  have:c x.1=m.key:=congrArg Prod.fst hx2
  exact hne x hx (K.inj _ _ (this.trans he))
theorem run_keyStays{P:Program}(K:KeyOk P kt c)(a:κ)(w:World):(Instr.keyThatStays (c a) (c a)).run P w=.ok (c a) w:=by
 simp[Instr.keyThatStays,K.bits]
theorem OpT.mapUpdate(i:Nat)(K:KeyOk X.P kt c)(hT:X.P.underlying T=some (.map kt et)){a:κ}{u:α}(hx:ev e x=some (.map (some b)))(hk:ev e y=some (c a))(hv:ev e z=some (d u))(hL:L[i]?=some (mapH c d b xs)):
  OpT X (.mapUpdate T x y z) e L (fun v L'=>v=undef∧L'=L.set i (mapH c d b (mPut xs a u))):=fun ac w ha hw dst ty pos after guard=>by
 obtain⟨⟨es,clock,h1,h2,h3⟩,hf⟩:=hw.atMap hL
 have hfi:=K.find d a xs es.toList h2 w
 obtain⟨p1,p2⟩:=map_put K a u h2 h3
 have hids:∀ids w,(mapH c d b xs).sat ids w→ids=[b]:=fun _ _ h=>h.1
 cases hl:lookI xs a 0 with
 | none=>
  obtain⟨q1,q2⟩:=p2 hl
  rw[hl] at hfi
  refine .inr (.inl ⟨setBlk w b (.map (es.push { key:=c a,val:=d u,born:=clock }) (clock+1)),_,?_,⟨rfl,rfl⟩,hw.setG hL hids h1 hf ⟨rfl,_,_,heap_setBlk h1,q1,q2⟩⟩)
  have:(Instr.mapUpdate T (.map (some b)) (c a) (d u)).run X.P w=.ok () (setBlk w b (.map (es.push { key:=c a,val:=d u,born:=clock }) (clock+1))):=by
   simp[Instr.mapUpdate,run_underlying hT,MapKept.run_getObj_map h1,K.check,hfi,MapKept.run_setObj_map _ h1,Result.andThen,setBlk]
  simp only[execOp,ha.ev hx,ha.ev hk,ha.ev hv]
  rw[Sem.run_bind,this];rfl
 | some p=>
  obtain⟨j,v⟩:=p
  obtain⟨m,hm,hmk,q1,q2⟩:=p1 hl
  rw[hl] at hfi
  refine .inr (.inl ⟨setBlk w b (.map (es.modify j fun e=>{ e with key:=c a,val:=d u }) clock),_,?_,⟨rfl,rfl⟩,hw.setG hL hids h1 hf ⟨rfl,_,_,heap_setBlk h1,q1,q2⟩⟩)
  have:(Instr.mapUpdate T (.map (some b)) (c a) (d u)).run X.P w=.ok () (setBlk w b (.map (es.modify j fun e=>{ e with key:=c a,val:=d u }) clock)):=by
   simp[Instr.mapUpdate,run_underlying hT,MapKept.run_getObj_map h1,K.check,hfi,hm,hmk,run_keyStays K,MapKept.run_setObj_map _ h1,Result.andThen,setBlk]
  simp only[execOp,ha.ev hx,ha.ev hk,ha.ev hv]
  rw[Sem.run_bind,this];rfl
theorem map_eraseIdx{β γ:Type}(f:β→γ):∀(l:List β) (i:Nat),(l.eraseIdx i).map f=(l.map f).eraseIdx i
 | [],_=>rfl
 | _::_,0=>rfl
 | x::l,i+1=>by simp[map_eraseIdx f l i]
theorem map_del{j:Nat}{v:α}{a:κ}{es:Array MapEntry}(h2:es.toList.map (fun e=>(e.key,e.val))=xs.map (fun x=>(c x.1,d x.2)))(hl:lookI xs a 0=some (j,v)):
  (es.eraseIdxIfInBounds j).toList.map (fun e=>(e.key,e.val))=(mDel xs a).map (fun x=>(c x.1,d x.2)):=by
 obtain⟨_,hj,_,_,hp⟩:=lookI_some hl
 rw[Nat.sub_zero] at hj hp
 obtain⟨m,hm,_⟩:=es_map h2 hj
 have hlt:j<es.size:=by have:=(List.getElem?_eq_some_iff.1 hm).1;simpa using this
 rw[hp]
 unfold Array.eraseIdxIfInBounds
 rw[dif_pos hlt,Array.toList_eraseIdx,map_eraseIdx,map_eraseIdx,h2]
theorem OpT.delete(i:Nat)(K:KeyOk X.P kt c)(hT:X.P.underlying T=some (.map kt et)){t2:TypeId}{a:κ}(hx:ev e x=some (.map (some b)))(hk:ev e y=some (c a))(hL:L[i]?=some (mapH c d b xs)):
  OpT X (.call ⟨.builtin .delete,#[x,y],#[T,t2]⟩) e L (fun v L'=>v=.tuple #[]∧L'=L.set i (mapH c d b (mDel xs a))):=fun ac w ha hw dst ty pos after guard=>by
 obtain⟨⟨es,clock,h1,h2,h3⟩,hf⟩:=hw.atMap hL
 have hfi:=K.find d a xs es.toList h2 w
 have hids:∀ids w,(mapH c d b xs).sat ids w→ids=[b]:=fun _ _ h=>h.1
 cases hl:lookI xs a 0 with
 | none=>
  obtain⟨_,_,_,hd⟩:=lookI_none hl
  rw[hl] at hfi
  refine .inl ⟨_,setBlk w b (.map es clock),_,?_,⟨rfl,rfl⟩,hw.setG hL hids h1 hf ⟨rfl,_,_,heap_setBlk h1,by rw[hd];exact h2,h3⟩⟩
  have:(Builtin.delete_ #[T,t2] ty #[.map (some b),c a]).run X.P w=.ok (.tuple #[]) (setBlk w b (.map es clock)):=by
   simp[Builtin.delete_,run_underlying hT,MapKept.run_getObj_map h1,K.check,hfi,MapKept.run_setObj_map _ h1,Result.andThen,setBlk]
  simp[execOp,resolve,invoke,builtin,ha.ev hx,ha.ev hk,this]
 | some p=>
  obtain⟨j,v⟩:=p
  rw[hl] at hfi
  refine .inl ⟨_,setBlk w b (.map (es.eraseIdxIfInBounds j) clock),_,?_,⟨rfl,rfl⟩,hw.setG hL hids h1 hf ⟨rfl,_,_,heap_setBlk h1,map_del h2 hl,stamped_erase h3 j⟩⟩
  have:(Builtin.delete_ #[T,t2] ty #[.map (some b),c a]).run X.P w=.ok (.tuple #[]) (setBlk w b (.map (es.eraseIdxIfInBounds j) clock)):=by
   simp[Builtin.delete_,run_underlying hT,MapKept.run_getObj_map h1,K.check,hfi,MapKept.run_setObj_map _ h1,Result.andThen,setBlk]
  simp[execOp,resolve,invoke,builtin,ha.ev hx,ha.ev hk,this]
theorem OpT.makeMap(c:κ→Value)(d:α→Value){T:TypeId}:OpT X (.makeMap T none) e L (fun v L'=>∃b,v=.map (some b)∧L'=mapH c d b ([]:List (κ×α))::L):=fun ac w ha hw dst ty pos after guard=>by
 refine .inl ⟨_,w.alloc (.map #[] 0),_,?_,⟨w.heap.size,rfl,rfl⟩,hw.allocM⟩
 simp[execOp,Instr.makeMap,newObj,Sem.run]
end
section
variable {X:Cx} {ops:Array Oper} {G:GS} {l:List Oper} {e:Env} {L:List HP} {K:Env→List HP→Prop}
  {dst:Option Tmp} {ty:TypeId} {pos:String} {after:Array Edge} {guard:Option (Nat×Bool)}
theorem VO.op1{op:Op}{v:Value}{L':List HP}(h:OpT X op e L (fun u M=>u=v∧M=L'))(hk:VO X ops G l (putE dst v e) L' K)
  (hg:gOn ops G guard=some true:=by rfl) (hd:dstOk X.n dst=true:=by rfl) (hf:gFree G dst=true:=by rfl):VO X ops G (⟨dst,op,ty,pos,after,guard⟩::l) e L K:=
 VO.op hg hd hf h (fun _ _ ⟨h1,h2⟩=>by subst h1;subst h2;exact hk)
theorem VO.opx{op:Op}{M:Value→List HP→Prop}(h:OpT X op e L M)(hk:∀v L',M v L'→VO X ops G l (putE dst v e) L' K)
  (hg:gOn ops G guard=some true:=by rfl) (hd:dstOk X.n dst=true:=by rfl) (hf:gFree G dst=true:=by rfl):VO X ops G (⟨dst,op,ty,pos,after,guard⟩::l) e L K:=
 VO.op hg hd hf h hk
end
theorem run_equal_map{P:Program}{ty k el:Nat}(hund:P.underlying ty=some (.map k el))(a:Option Nat)(w:World):(Op.equal ty (.map a) (.map none)).run P w=.ok a.isNone w:=by
 unfold Op.equal
 show(Op.equalIn (9999+1) ty (.map a) (.map none)).run P w=_
 rw[Op.equalIn,Sem.run_bind,run_underlying hund]
 cases a<;>rfl
theorem light_mapNil{X:Cx}{e:Env}{T k el yt:TypeId}{x y:Operand}{a:Option Nat}(hund:X.P.underlying T=some (.map k el))(hx:ev e x=some (.map a))(hy:ev e y=some (.map none)):Light X (.binOp .eql T x y yt) e (.bool a.isNone):=by
 intro a' ha dst t pos after guard w
 simp only[execOp,ha.ev hx,ha.ev hy]
 have h:(do eqGuard .eql T x y (.map a) (.map none);binOp .eql T (.map a) (.map none):Sem Value).run X.P w=.ok (.bool a.isNone) w:=by
  show((do pure (.bool (←Op.equal T (.map a) (.map none))):Sem Value)).run X.P w=_
  rw[Sem.run_bind,run_equal_map hund];rfl
 rw[Sem.run_bind,h];rfl
theorem light_eqS{X:Cx}{e:Env}{T yt:TypeId}{x y:Operand}{xs ys:Array Value}{r:Bool}(hm:X.P.eqGuardType X.P.depth T=false)(hx:ev e x=some (.agg xs))(hy:ev e y=some (.agg ys))
  (h:∀w:World,(Op.equal T (.agg xs) (.agg ys)).run X.P w=.ok r w):Light X (.binOp .eql T x y yt) e (.bool r):=by
 intro a' ha dst t pos after guard w
 simp only[execOp,ha.ev hx,ha.ev hy]
 have h2:(do eqGuard .eql T x y (.agg xs) (.agg ys);binOp .eql T (.agg xs) (.agg ys):Sem Value).run X.P w=.ok (.bool r) w:=by
  rw[Sem.run_bind,run_eqGuard_agg w .eql T x y xs ys hm,Result.andThen_ok]
  show((do pure (.bool (←Op.equal T (.agg xs) (.agg ys))):Sem Value)).run X.P w=_
  rw[Sem.run_bind,h];rfl
 rw[Sem.run_bind,h2];rfl
section
variable {X:Cx} {κ α:Type} [DecidableEq κ] {c:κ→Value} {d:α→Value} {b:Nat} {xs:List (κ×α)} {ops:Array Oper} {G:GS} {pl:Plan} {S:Pend} {e:Env} {L:List HP} {K:Env→List HP→Prop}
  {dst:Option Tmp} {ty:TypeId} {pos:String} {after:Array Edge} {guard:Option (Nat×Bool)}
theorem VA.lookup{i:Nat}{T kt et:TypeId}{te:TI}{x y:Operand}{a:κ}{ok:Bool}(KO:KeyOk X.P kt c)(hT:X.P.underlying T=some (.map kt et))(hE:tyLook X.tab et=some te)
  (hi:ops.toList[i]?=some ⟨dst,.lookup T x y ok,ty,pos,after,guard⟩) (hx:ev e x=some (.map (some b))) (hk:ev e y=some (c a)) (hM:MpL X L c d b xs)
  (hn:VA X ops G pl ((i,MapAt c d b xs)::S) (putE dst (bif ok then .tuple #[((mGet xs a).map d).getD te.zero,.bool (mGet xs a).isSome] else ((mGet xs a).map d).getD te.zero) e) L K)
  (hg:gOn ops G guard=some true:=by rfl) (hd:dstOk X.n dst=true:=by rfl) (hf:gFree G dst=true:=by rfl):VA X ops G (.take i pl) S e L K:=
 VA.first (Si:=MapAt c d b xs) hi hd hf (fun ac ha hG=>.inl ⟨gOn_wanted hG hg,fun w hw=>by
  simp only[execOp,ha.ev hx,ha.ev hk]
  rw[Sem.run_bind,run_lookup KO hT (X.ok.look hE) a ok hw];rfl⟩) hM hn
theorem Pd.consM{i:Nat}(h:MpL X L c d b xs)(hs:Pd X L S):Pd X L ((i,MapAt c d b xs)::S):=fun p hp w hw=>by
 rcases List.mem_cons.1 hp with rfl | hp
 ·exact h w hw
 ·exact hs p hp w hw
theorem Pd.fconsM{f:Nat×(World→Prop)→Bool}{i:Nat}(h:MpL X L c d b xs)(hs:Pd X L (S.filter f)):Pd X L (((i,MapAt c d b xs)::S).filter f):=fun p hp=>by
 obtain⟨h1,h2⟩:=List.mem_filter.1 hp
 rcases List.mem_cons.1 h1 with rfl | h1
 ·exact fun w hw=>h w hw
 ·exact hs p (List.mem_filter.2 ⟨h1,h2⟩)
end
end Vg
namespace Vg
open Go
structure RwIn{α:Type}(c:α→List Value)(n:Nat)(Fr:Nat→Prop)(w:World)(a:Option Addr)(l:List α):Prop where
 at_:l≠[]→∃b off,a=some ⟨b,off,none⟩∧Fr b∧∀i x,l[i]?=some x→w.rangeAt b (off+i*n) (c x)
section
variable {α:Type} {c:α→List Value} {n:Nat}
theorem RwIn.keep{Fr Fr':Nat→Prop}{w w':World}{a:Option Addr}{l:List α}(h:RwIn c n Fr w a l)(hF:∀b,Fr b→Fr' b)(hk:Keep Fr w w'):RwIn c n Fr' w' a l:=⟨fun hne=>by
 obtain⟨b,off,h1,h2,h3⟩:=h.at_ hne
 refine⟨b,off,h1,hF b h2,fun i x hx j v hv=>?_⟩
 have:=h3 i x hx j v hv
 unfold World.cell? at this ⊢
 rw[hk.block b h2];exact this⟩
theorem RwIn.of{X:Cx}{a:Option Addr}{l:List α}(h:RwIn c n X.Fr X.w0 a l){Fr':Nat→Prop}(hF:∀b,X.Fr b→Fr' b){w:World}{L:List HP}(hw:St X L w):RwIn c n Fr' w a l:=h.keep hF hw.keep
theorem RwIn.nil{Fr:Nat→Prop}{w:World}{a:Option Addr}:RwIn c n Fr w a []:=⟨fun h=>absurd rfl h⟩
theorem RwIn.rd{X:Cx}{a:Option Addr}{l:List α}(h:RwIn c n X.Fr X.w0 a l){i:Nat}{x:α}(hx:l[i]?=some x):∃b off,a=some ⟨b,off,none⟩ ∧
  (∀(L:List HP) (ti:TI),(c x).length=ti.size→ti.und.agg=true→RdL X L ti b (off+i*n) (.agg (c x).toArray)) ∧
  ∀(L:List HP) (ti:TI) (j:Nat) (v:Value),ti.und.agg=false→(c x)[j]?=some v→RdL X L ti b (off+i*n+j) v:=by
 obtain⟨b,off,h1,h2,h3⟩:=h.at_ (fun e=>by rw[e] at hx;cases hx)
 refine⟨b,off,h1,fun L ti hl ha=>RdL.rd h2 ?_,fun L ti j v ha hv=>RdL.rd h2 ?_⟩
 ·rw[ha];exact⟨c x,rfl,hl,h3 i x hx⟩
 ·rw[ha];exact h3 i x hx j v hv
theorem RwIn.blk{Fr:Nat→Prop}{w:World}{b off:Nat}{cs:List Value}{l:List α}(h:Blk Fr w b cs)(hc:∀i x,l[i]?=some x→(cs.drop (off+i*n)).take n=c x):RwIn c n Fr w (some ⟨b,off,none⟩) l:=⟨fun hne=>by
 obtain⟨t',fz,ht⟩:=h.at_
 exact⟨b,off,rfl,h.fr,fun i x hx=>rangeAt_blk ht (hc i x hx)⟩⟩
theorem rangeAt_flat{w:World}(hc:∀x,(c x).length=n):∀{l:List α} {b off:Nat},(∀i x,l[i]?=some x→w.rangeAt b (off+i*n) (c x))→w.rangeAt b off (flat c l)
 | [],b,off,_=>fun j v hv=>by simp[flat] at hv
 | x::l,b,off,h=>fun j v hv=>by
  rw[flat_cons,List.getElem?_append] at hv
  have h0:=h 0 x rfl
  rw[Nat.zero_mul,Nat.add_zero] at h0
  split at hv
  ·exact h0 j v hv
  ·rename_i hj
   rw[hc x] at hj hv
   have ih:=rangeAt_flat hc (l:=l) (b:=b) (off:=off+n) (fun i y hy=>by
    have:=h (i+1) y (by simpa using hy)
    rw[Nat.succ_mul] at this
    rw[show off+n+i*n=off+(i*n+n) from by omega];exact this)
   have:=ih (j-n) v hv
   rw[show off+n+(j-n)=off+j from by omega] at this
   exact this
theorem RwIn.row{X:Cx}{L:List HP}{a:Option Addr}{cap:Nat}{l:List α}(hc:∀x,(c x).length=n)(h:RwIn c n X.Fr X.w0 a l):RdRow X L (.slice a l.length cap) n l.length (flat c l):=by
 refine⟨flat_len hc l,?_⟩
 by_cases hl:l=[]
 ·exact .inl ⟨a,cap,rfl,by simp[hl]⟩
 ·obtain⟨b,off,h1,h2,h3⟩:=h.at_ hl
  refine .inr ⟨b,off,cap,by rw[h1],fun w hw=>?_⟩
  have:=(RwIn.of (X:=X) (Fr':=X.Fr) h (fun _ h=>h) hw)
  obtain⟨b',off',e1,_,e3⟩:=this.at_ hl
  rw[h1] at e1
  cases e1
  exact rangeAt_flat hc e3
end
section
variable {X:Cx} {e:Env} {xt yt:TypeId} {x y:Operand} {a b:Nat}
end
end Vg
namespace Vg
open Go
def fnV(f:FuncId)(first capt:List Value):Value:=.func (.func f) first.toArray capt.toArray
theorem light_makeFunc{X:Cx}{e:Env}{f:FuncId}{first capt:Array Operand}{u v:List Value}(hu:evs e first.toList=some u)(hv:evs e capt.toList=some v):Light X (.makeFunc (.func f) first capt) e (fnV f u v):=by
 intro a ha dst ty pos after guard w
 have h1:first.map a.eval=u.toArray:=by
  have:=ha.evs hu
  apply Array.toList_inj.1
  simpa using this
 have h2:capt.map a.eval=v.toArray:=by
  have:=ha.evs hv
  apply Array.toList_inj.1
  simpa using this
 simp only[execOp]
 show((do pure (Next.value (←Instr.makeFunc (.func f) (first.map a.eval) (capt.map a.eval))):Sem Next)).run X.P w=_
 rw[h1,h2];rfl
theorem run_callV{P:Program}{f:FuncId}(h:Callable P f)(a:Act)(x:Operand)(first capt:List Value)(hx:a.eval x=fnV f first capt)(args:Array Operand)(tys:Array TypeId)(dst:Option Tmp)(ty:TypeId)(pos:String)(after:Array Edge)(guard:Option (Nat×Bool))(w:World):
  (execOp a.eval ⟨dst,.call ⟨.value x,args,tys⟩,ty,pos,after,guard⟩).run P w=.ok (.enter f (first.toArray++args.map a.eval++capt.toArray)) w:=by
 have:=run_callFunc h (first.toArray++args.map a.eval++capt.toArray) w
 simp only[execOp,resolve,hx,fnV,Deferred.ofValue,invoke]
 exact this
theorem OpT.callF{X:Cx}{f:FuncId}{x:Operand}{first capt:List Value}{args:Array Operand}{tys:Array TypeId}{e:Env}{L Lc Lr:List HP}{vals:List Value}{R:Value→List HP→Prop}
  (hx:ev e x=some (fnV f first capt)) (hargs:evs e args.toList=some vals) (hp:L.Perm (Lc++Lr))
  (ht:∀Fr' w,(∀b,X.Fr b→Fr' b)→St X L w→SatIn Fr' Lr w→Tri X.P f (first++vals++capt) Fr' w Lc R):
  OpT X (.call ⟨.value x,args,tys⟩) e L (fun v L'=>∃L1,R v L1∧L'=L1++Lr):=by
 intro a w ha hw dst ty pos after guard
 obtain⟨F,hs,hnd,hb⟩:=hw.sat.perm hp
 obtain⟨Fc,Fl,rfl,hsc,hsl⟩:=Sats.append.1 hs
 have T:=ht (fun b=>X.Fr b∨b∈Fl) w (fun b h=>.inl h) hw ⟨Fl,hsl,fun b h=>.inr h⟩
 have hev:args.map a.eval=vals.toArray:=by
  have:=ha.evs hargs
  apply Array.toList_inj.1
  simpa using this
 refine .inr (.inr ⟨f,(first++vals++capt).toArray,?_,?_⟩)
 ·have:=run_callV T.callable a x first capt (ha.ev hx) args tys dst ty pos after guard w
  rw[this,hev];simp
 ·obtain⟨hnc,hnl,hdis⟩:=List.nodup_append.1 hnd
  refine Calls.mono (T.calls (fun b h=>?_) ⟨Fc,hsc,hnc,fun b h=>⟨fun h'=>?_,(hb b ya).2⟩⟩) fun en w' ⟨v,L',h1,h2,h3,h4⟩=>?_
  ·rcases h with h | h
   ·exact hw.lowW b h
   ·exact(hb b ya).2
  ·rcases h' with h' | h'
   ·exact(hb b ya).1 h'
   ·exact hdis b h b h' rfl
  ·refine⟨v,L'++Lr,h1,⟨L',h2,rfl⟩,⟨?_,hw.keep.trans (h4.mono fun b h=>.inl h),hw.low⟩⟩
   obtain⟨G,hG,hGn,hGb⟩:=h3
   refine⟨G++Fl,Sats.append.2 ⟨G,Fl,rfl,hG,hsl.loc fun b h=>h4.block b (.inr h)⟩,?_,?_⟩
   ·exact xdb
   ·intro b h
    rcases List.mem_append.1 h with h | h
    ·exact⟨fun h'=>(hGb b h).1 (.inl h'),(hGb b h).2⟩
    ·exact xdc
section
variable {X:Cx} {ops:Array Oper} {G:GS} {l:List Oper} {e:Env} {L:List HP} {K:Env→List HP→Prop} {pl:Plan} {S:Pend}
  {dst:Option Tmp} {ty:TypeId} {pos:String} {after:Array Edge} {guard:Option (Nat×Bool)}
theorem VO.callF{f:FuncId}{x:Operand}{first capt:List Value}{args:Array Operand}{tys:Array TypeId}{vals:List Value}{R:Value→List HP→Prop}{Lc Lr:List HP}(hx:ev e x=some (fnV f first capt))
  (ht:∀Fr' w,(∀b,X.Fr b→Fr' b)→St X L w→SatIn Fr' Lr w→Tri X.P f (first++vals++capt) Fr' w Lc R) (hargs:evs e args.toList=some vals) (hL:L=Lc++Lr)
  (hk:∀v L1,R v L1→VO X ops G l (putE dst v e) (L1++Lr) K)
  (hg:gOn ops G guard=some true:=by rfl) (hd:dstOk X.n dst=true:=by rfl) (hf:gFree G dst=true:=by rfl):
  VO X ops G (⟨dst,.call ⟨.value x,args,tys⟩,ty,pos,after,guard⟩::l) e L K:=
 VO.op hg hd hf (OpT.callF hx hargs (hL▸.refl _) ht) fun v L' ⟨L1,h1,h2⟩=>by subst h2;exact hk v L1 h1
theorem OpT.callFP{φ:Value→Prop}{f:FuncId}{x:Operand}{first capt:List Value}{args:Array Operand}{tys:Array TypeId}{vals:List Value}(hx:ev e x=some (fnV f first capt))
  (ht:∀Fr' w,(∀b,X.Fr b→Fr' b)→St X L w→SatIn Fr' L w→Tri X.P f (first++vals++capt) Fr' w [] (fun v L=>φ v∧L=[])) (hargs:evs e args.toList=some vals):
  OpT X (.call ⟨.value x,args,tys⟩) e L (fun v L'=>φ v∧L'=L):=fun a w ha hw dst ty pos after guard=>by
 have key:∀v (L':List HP),(∃L1,(φ v∧L1=[])∧L'=L1++L)→φ v∧L'=L:=by
  rintro v L' ⟨L1,⟨h1,h2⟩,h3⟩
  rw[h2] at h3;exact⟨h1,h3⟩
 rcases OpT.callF (Lc:=[]) (Lr:=L) hx hargs (.refl _) ht a w ha hw dst ty pos after guard with ⟨v,w',L',h1,h2,h3⟩ | ⟨w',L',h1,h2,h3⟩ | ⟨f',args',h1,h2⟩
 ·exact .inl ⟨v,w',L',h1,key _ _ h2,h3⟩
 ·exact .inr (.inl ⟨w',L',h1,key _ _ h2,h3⟩)
 ·refine .inr (.inr ⟨f',args',h1,Calls.mono h2 ?_⟩)
  rintro en w' ⟨v,L',h3,h4,h5⟩
  exact⟨v,L',h3,key _ _ h4,h5⟩
theorem VO.callFV{u:Value}{f:FuncId}{x:Operand}{first capt:List Value}{args:Array Operand}{tys:Array TypeId}{vals:List Value}(hx:ev e x=some (fnV f first capt))
  (ht:∀Fr' w,(∀b,X.Fr b→Fr' b)→St X L w→SatIn Fr' L w→Tri X.P f (first++vals++capt) Fr' w [] (fun v L=>v=u∧L=[])) (hargs:evs e args.toList=some vals)
  (hk:VO X ops G l (putE dst u e) L K)
  (hg:gOn ops G guard=some true:=by rfl) (hd:dstOk X.n dst=true:=by rfl) (hf:gFree G dst=true:=by rfl):
  VO X ops G (⟨dst,.call ⟨.value x,args,tys⟩,ty,pos,after,guard⟩::l) e L K:=
 VO.op hg hd hf (OpT.callFP (φ:=fun v=>v=u) hx ht hargs) fun v L' ⟨h1,h2⟩=>by subst h1;subst h2;exact hk
theorem VA.callFV{u:Value}{j:Nat}{f:FuncId}{x:Operand}{first capt:List Value}{args:Array Operand}{tys:Array TypeId}{vals:List Value}(hx:ev e x=some (fnV f first capt))
  (ht:∀Fr' w,(∀b,X.Fr b→Fr' b)→St X L w→SatIn Fr' L w→Tri X.P f (first++vals++capt) Fr' w [] (fun v L=>v=u∧L=[]))
  (hi:ops.toList[j]?=some ⟨dst,.call ⟨.value x,args,tys⟩,ty,pos,after,guard⟩) (hargs:evs e args.toList=some vals) (hst:Pd X L (S.filter fun p=>!waits ops j p.1))
  (hk:VA X ops G pl (S.filter fun p=>!waits ops j p.1) (putE dst u e) L K)
  (hg:gOn ops G guard=some true:=by rfl) (hd:dstOk X.n dst=true:=by rfl) (hf:gFree G dst=true:=by rfl):VA X ops G (.only j pl) S e L K:=
 AO (OpT.callFP (φ:=fun v=>v=u) hx ht hargs) hi (fun v L' ⟨h1,h2⟩=>by subst h2;exact hst) (fun v L' ⟨h1,h2⟩=>by subst h1;subst h2;exact hk) hg hd hf
theorem OpT.callFAt{f:FuncId}{x:Operand}{first capt:List Value}{args:Array Operand}{tys:Array TypeId}{vals:List Value}{H:HP}{R:Value→List HP→Prop}{ψ:Value→HP→Prop}(i:Nat)(hx:ev e x=some (fnV f first capt))
  (hL:L[i]?=some H) (ht:∀Fr' w,(∀b,X.Fr b→Fr' b)→St X L w→SatIn Fr' (L.eraseIdx i) w→Tri X.P f (first++vals++capt) Fr' w [H] R) (hargs:evs e args.toList=some vals)
  (hR:∀v L1,R v L1→∃H',L1=[H']∧ψ v H'):
  OpT X (.call ⟨.value x,args,tys⟩) e L (fun v L'=>∃H',ψ v H'∧L'=L.set i H'):=by
 intro a w ha hw dst ty pos after guard
 have hi:i<L.length:=(List.getElem?_eq_some_iff.1 hL).1
 have key:∀v w' L',(∃L1,R v L1∧L'=L1++L.eraseIdx i)→St X L' w'→∃L'',(∃H',ψ v H'∧L''=L.set i H')∧St X L'' w':=by
  rintro v w' _ ⟨L1,h1,rfl⟩ hs
  obtain⟨H',rfl,hψ⟩:=hR v L1 h1
  exact⟨_,⟨H',hψ,rfl⟩,Ent.back i H' hi w' hs⟩
 rcases OpT.callF (R:=R) hx hargs (Lc:=[H]) (Lr:=L.eraseIdx i) (perm_eraseIdx hL) ht a w ha hw dst ty pos after guard with ⟨v,w',L',h1,h2,h3⟩ | ⟨w',L',h1,h2,h3⟩ | ⟨f,args,h1,h2⟩
 ·obtain⟨L'',h4,h5⟩:=key _ _ _ h2 h3
  exact .inl ⟨v,w',L'',h1,h4,h5⟩
 ·obtain⟨L'',h4,h5⟩:=key _ _ _ h2 h3
  exact .inr (.inl ⟨w',L'',h1,h4,h5⟩)
 ·refine .inr (.inr ⟨f,args,h1,Calls.mono h2 ?_⟩)
  rintro en w' ⟨v,L',h3,h4,h5⟩
  obtain⟨L'',h6,h7⟩:=key _ _ _ h4 h5
  exact⟨v,L'',h3,h6,h7⟩
theorem VO.callFAt{f:FuncId}{x:Operand}{first capt:List Value}{args:Array Operand}{tys:Array TypeId}{vals:List Value}{H:HP}{R:Value→List HP→Prop}{ψ:Value→HP→Prop}(i:Nat)(hx:ev e x=some (fnV f first capt))
  (hL:L[i]?=some H) (ht:∀Fr' w,(∀b,X.Fr b→Fr' b)→St X L w→SatIn Fr' (L.eraseIdx i) w→Tri X.P f (first++vals++capt) Fr' w [H] R) (hargs:evs e args.toList=some vals)
  (hR:∀v L1,R v L1→∃H',L1=[H']∧ψ v H') (hk:∀v H',ψ v H'→VO X ops G l (putE dst v e) (L.set i H') K)
  (hg:gOn ops G guard=some true:=by rfl) (hd:dstOk X.n dst=true:=by rfl) (hf:gFree G dst=true:=by rfl):
  VO X ops G (⟨dst,.call ⟨.value x,args,tys⟩,ty,pos,after,guard⟩::l) e L K:=
 VO.op hg hd hf (OpT.callFAt i hx hL ht hargs hR) fun v L' ⟨H',h1,h2⟩=>by subst h2;exact hk v H' h1
theorem VA.callFAt{j:Nat}{f:FuncId}{x:Operand}{first capt:List Value}{args:Array Operand}{tys:Array TypeId}{vals:List Value}{H:HP}{R:Value→List HP→Prop}{ψ:Value→HP→Prop}(i:Nat)(hx:ev e x=some (fnV f first capt))
  (hL:L[i]?=some H) (ht:∀Fr' w,(∀b,X.Fr b→Fr' b)→St X L w→SatIn Fr' (L.eraseIdx i) w→Tri X.P f (first++vals++capt) Fr' w [H] R)
  (hi:ops.toList[j]?=some ⟨dst,.call ⟨.value x,args,tys⟩,ty,pos,after,guard⟩) (hargs:evs e args.toList=some vals)
  (hR:∀v L1,R v L1→∃H',L1=[H']∧ψ v H') (hst:∀v H',ψ v H'→Pd X (L.set i H') (S.filter fun p=>!waits ops j p.1))
  (hk:∀v H',ψ v H'→VA X ops G pl (S.filter fun p=>!waits ops j p.1) (putE dst v e) (L.set i H') K)
  (hg:gOn ops G guard=some true:=by rfl) (hd:dstOk X.n dst=true:=by rfl) (hf:gFree G dst=true:=by rfl):VA X ops G (.only j pl) S e L K:=
 AO (OpT.callFAt i hx hL ht hargs hR) hi (fun v L' ⟨H',h1,h2⟩=>by subst h2;exact hst v H' h1) (fun v L' ⟨H',h1,h2⟩=>by subst h2;exact hk v H' h1) hg hd hf
end
theorem RwIn.slH{α:Type}{c:α→List Value}{n el cap:Nat}{a:Option Addr}{xs:List α}{Fr:Nat→Prop}{w:World}(hc:∀x,(c x).length=n)(h:SatIn Fr [slH el n a xs.length cap (flat c xs)] w):RwIn c n Fr w a xs:=by
 obtain⟨F,⟨ids,G,hF,⟨h1,h2⟩,hG⟩,hf⟩:=h
 rcases h2 with ⟨rfl,h3,_,_⟩ | ⟨b,rest,rfl,rfl,h4,h5,h6⟩
 ·obtain rfl:xs=[]:=List.eq_nil_of_length_eq_zero h3
  exact RwIn.nil
 ·exact⟨fun _=>⟨b,0,rfl,hf b (by rw[hF];simp),fun i x hx=>rangeAt_blk h6 (by rw[Nat.zero_add];exact flat_row hc hx rest)⟩⟩
theorem Sub.bl{e' e:Env}{t:Nat}{a b:Bool}(h:look e t=some (Value.bool a))(hab:a=b)(hs:Sub e' e):Sub ((t,.bool b)::e') e:=by subst hab;exact SC h hs
theorem Ret.tmpCell{X:Cx}{fn:Func}{R:Value→List HP→Prop}{e:Env}{L:List HP}{T:TypeId}{ti:TI}{b:Nat}{v u:Value}(q p:Nat)(h:fn.results=#[.tmp q,.cell p T])(hq:look e q=some u)(hp:look e p=some (.pointer (some ⟨b,0,none⟩)))(hT:tyLook X.tab T=some ti)
  (hr:RdL X L ti b 0 v) {L':List HP} (he:Ent X L L') (hR:R (.tuple #[u,v]) L'):Ret X fn R e L:=
 ⟨_,L',⟨fun a w ha hw=>by
  have:=run_loadVar (X.ok.look hT) (hr w hw)
  have hp':=ha.at_ p _ hp
  have hq':=ha.at_ q _ hq
  simp only[Array.getD_eq_getD_getElem?] at hp' hq'
  simp[results,h,hp',hq',asAddr,this]⟩,he,hR⟩
end Vg
namespace T
open Go Vg
abbrev I0:Value:=.int .i64 0
abbrev S0:Value:=.string ⟨#[]⟩
def t3:TI:={ und:=.int .i64,size:=1,bytes:=8,zero:=I0,zs:=[I0] }
theorem t3_ok:TIok Tryz.prog 3 t3:=⟨by kernel_rfl,by kernel_rfl,rfl,rfl⟩
def t4:TI:={ und:=.bool,size:=1,bytes:=1,zero:=.bool false,zs:=[.bool false] }
theorem t4_ok:TIok Tryz.prog 4 t4:=⟨by kernel_rfl,by kernel_rfl,rfl,rfl⟩
def t2:TI:={ und:=.int .i64,size:=1,bytes:=8,zero:=I0,zs:=[I0] }
theorem t2_ok:TIok Tryz.prog 2 t2:=⟨by kernel_rfl,by kernel_rfl,rfl,rfl⟩
def t30:TI:={ und:=.int .i64,size:=1,bytes:=8,zero:=I0,zs:=[I0] }
theorem t30_ok:TIok Tryz.prog 30 t30:=⟨by kernel_rfl,by kernel_rfl,rfl,rfl⟩
def t5:TI:={ und:=.int .u8,size:=1,bytes:=1,zero:=.int .u8 0,zs:=[.int .u8 0] }
theorem t5_ok:TIok Tryz.prog 5 t5:=⟨by kernel_rfl,by kernel_rfl,rfl,rfl⟩
def t198:TI:={ und:=.struct [(0,1),(1,1),(2,1),(3,1),(4,1),(5,1),(6,1),(7,4),(11,4),(15,1),(16,7),(23,3),(26,1),(27,1),(28,1)],size:=29,bytes:=288,zero:=.agg ([I0,I0,I0,I0,I0,I0,I0,I0,S0,S0,I0,I0,S0,I0,I0,I0,I0,I0,I0,I0,S0,S0,I0,I0,.slice none 0 0,I0,I0,I0,I0]:List Value).toArray,zs:=[I0,I0,I0,I0,I0,I0,I0,I0,S0,S0,I0,I0,S0,I0,I0,I0,I0,I0,I0,I0,S0,S0,I0,I0,.slice none 0 0,I0,I0,I0,I0] }
theorem t198_ok:TIok Tryz.prog 198 t198:=⟨by kernel_rfl,by kernel_rfl,rfl,rfl⟩
def t81:TI:={ und:=.ptr 115,size:=1,bytes:=8,zero:=.pointer none,zs:=[.pointer none] }
theorem t81_ok:TIok Tryz.prog 81 t81:=⟨by kernel_rfl,by kernel_rfl,rfl,rfl⟩
def t9:TI:={ und:=.string,size:=1,bytes:=16,zero:=S0,zs:=[S0] }
theorem t9_ok:TIok Tryz.prog 9 t9:=⟨by kernel_rfl,by kernel_rfl,rfl,rfl⟩
def t74:TI:={ und:=.struct [(0,1),(1,1),(2,1)],size:=3,bytes:=40,zero:=.agg ([I0,.slice none 0 0,I0]:List Value).toArray,zs:=[I0,.slice none 0 0,I0] }
theorem t74_ok:TIok Tryz.prog 74 t74:=⟨by kernel_rfl,by kernel_rfl,rfl,rfl⟩
def t24:TI:={ und:=.struct [(0,1),(1,1),(2,1),(3,1),(4,1),(5,1),(6,1),(7,1),(8,1),(9,1),(10,1),(11,1)],size:=12,bytes:=112,zero:=.agg ([I0,I0,I0,.slice none 0 0,I0,I0,I0,I0,I0,I0,I0,I0]:List Value).toArray,zs:=[I0,I0,I0,.slice none 0 0,I0,I0,I0,I0,I0,I0,I0,I0] }
theorem t24_ok:TIok Tryz.prog 24 t24:=⟨by kernel_rfl,by kernel_rfl,rfl,rfl⟩
def t6:TI:={ und:=.int .u8,size:=1,bytes:=1,zero:=.int .u8 0,zs:=[.int .u8 0] }
theorem t6_ok:TIok Tryz.prog 6 t6:=⟨by kernel_rfl,by kernel_rfl,rfl,rfl⟩
def t39:TI:={ und:=.ptr 50,size:=1,bytes:=8,zero:=.pointer none,zs:=[.pointer none] }
theorem t39_ok:TIok Tryz.prog 39 t39:=⟨by kernel_rfl,by kernel_rfl,rfl,rfl⟩
def t7:TI:={ und:=.struct [(0,1),(1,1),(2,1),(3,1)],size:=4,bytes:=24,zero:=.agg ([I0,I0,.bool false,.int .u8 0]:List Value).toArray,zs:=[I0,I0,.bool false,.int .u8 0] }
theorem t7_ok:TIok Tryz.prog 7 t7:=⟨by kernel_rfl,by kernel_rfl,rfl,rfl⟩
def t8:TI:={ und:=.struct [(0,1),(1,1),(2,1),(3,1)],size:=4,bytes:=24,zero:=.agg ([I0,I0,.bool false,.int .u8 0]:List Value).toArray,zs:=[I0,I0,.bool false,.int .u8 0] }
theorem t8_ok:TIok Tryz.prog 8 t8:=⟨by kernel_rfl,by kernel_rfl,rfl,rfl⟩
def t84:TI:={ und:=.ptr 121,size:=1,bytes:=8,zero:=.pointer none,zs:=[.pointer none] }
theorem t84_ok:TIok Tryz.prog 84 t84:=⟨by kernel_rfl,by kernel_rfl,rfl,rfl⟩
def t63:TI:={ und:=.slice 99,size:=1,bytes:=24,zero:=.slice none 0 0,zs:=[.slice none 0 0] }
theorem t63_ok:TIok Tryz.prog 63 t63:=⟨by kernel_rfl,by kernel_rfl,rfl,rfl⟩
def t111:TI:={ und:=.ptr 165,size:=1,bytes:=8,zero:=.pointer none,zs:=[.pointer none] }
theorem t111_ok:TIok Tryz.prog 111 t111:=⟨by kernel_rfl,by kernel_rfl,rfl,rfl⟩
def t21:TI:={ und:=.int .i32,size:=1,bytes:=4,zero:=.int .i32 0,zs:=[.int .i32 0] }
theorem t21_ok:TIok Tryz.prog 21 t21:=⟨by kernel_rfl,by kernel_rfl,rfl,rfl⟩
def t99:TI:={ und:=.array 2 3,size:=2,bytes:=16,zero:=.agg ([I0,I0]:List Value).toArray,zs:=[I0,I0] }
theorem t99_ok:TIok Tryz.prog 99 t99:=⟨by kernel_rfl,by kernel_rfl,rfl,rfl⟩
def t115:TI:={ und:=.struct [(0,1),(1,1),(2,1),(3,1),(4,3),(7,1),(8,1),(9,1),(10,1),(11,1),(12,1),(13,1),(14,1),(15,1),(16,1)],size:=17,bytes:=152,zero:=.agg ([I0,I0,I0,I0,I0,.slice none 0 0,I0,I0,.bool false,.pointer none,.pointer none,.pointer none,.pointer none,I0,I0,.bool false,I0]:List Value).toArray,zs:=[I0,I0,I0,I0,I0,.slice none 0 0,I0,I0,.bool false,.pointer none,.pointer none,.pointer none,.pointer none,I0,I0,.bool false,I0] }
theorem t115_ok:TIok Tryz.prog 115 t115:=⟨by kernel_rfl,by kernel_rfl,rfl,rfl⟩
def t43:TI:={ und:=.ptr 107,size:=1,bytes:=8,zero:=.pointer none,zs:=[.pointer none] }
theorem t43_ok:TIok Tryz.prog 43 t43:=⟨by kernel_rfl,by kernel_rfl,rfl,rfl⟩
def t35:TI:={ und:=.struct [(0,1),(1,1),(2,1),(3,1)],size:=4,bytes:=48,zero:=.agg ([I0,S0,S0,I0]:List Value).toArray,zs:=[I0,S0,S0,I0] }
theorem t35_ok:TIok Tryz.prog 35 t35:=⟨by kernel_rfl,by kernel_rfl,rfl,rfl⟩
def t37:TI:={ und:=.struct [(0,1),(1,1),(2,1),(3,1),(4,4)],size:=8,bytes:=80,zero:=.agg ([I0,I0,I0,I0,I0,S0,S0,I0]:List Value).toArray,zs:=[I0,I0,I0,I0,I0,S0,S0,I0] }
theorem t37_ok:TIok Tryz.prog 37 t37:=⟨by kernel_rfl,by kernel_rfl,rfl,rfl⟩
def t72:TI:={ und:=.slice 78,size:=1,bytes:=24,zero:=.slice none 0 0,zs:=[.slice none 0 0] }
theorem t72_ok:TIok Tryz.prog 72 t72:=⟨by kernel_rfl,by kernel_rfl,rfl,rfl⟩
def t154:TI:={ und:=.struct [(0,1),(1,1),(2,1),(3,1)],size:=4,bytes:=40,zero:=.agg ([I0,S0,I0,I0]:List Value).toArray,zs:=[I0,S0,I0,I0] }
theorem t154_ok:TIok Tryz.prog 154 t154:=⟨by kernel_rfl,by kernel_rfl,rfl,rfl⟩
def t110:TI:={ und:=.ptr 173,size:=1,bytes:=8,zero:=.pointer none,zs:=[.pointer none] }
theorem t110_ok:TIok Tryz.prog 110 t110:=⟨by kernel_rfl,by kernel_rfl,rfl,rfl⟩
def t161:TI:={ und:=.struct [(0,1),(1,1),(2,1),(3,4)],size:=7,bytes:=72,zero:=.agg ([I0,I0,I0,I0,S0,S0,I0]:List Value).toArray,zs:=[I0,I0,I0,I0,S0,S0,I0] }
theorem t161_ok:TIok Tryz.prog 161 t161:=⟨by kernel_rfl,by kernel_rfl,rfl,rfl⟩
def t112:TI:={ und:=.ptr 181,size:=1,bytes:=8,zero:=.pointer none,zs:=[.pointer none] }
theorem t112_ok:TIok Tryz.prog 112 t112:=⟨by kernel_rfl,by kernel_rfl,rfl,rfl⟩
def t141:TI:={ und:=.ptr 3,size:=1,bytes:=8,zero:=.pointer none,zs:=[.pointer none] }
theorem t141_ok:TIok Tryz.prog 141 t141:=⟨by kernel_rfl,by kernel_rfl,rfl,rfl⟩
def t148:TI:={ und:=.slice 200,size:=1,bytes:=24,zero:=.slice none 0 0,zs:=[.slice none 0 0] }
theorem t148_ok:TIok Tryz.prog 148 t148:=⟨by kernel_rfl,by kernel_rfl,rfl,rfl⟩
def t10:TI:={ und:=.string,size:=1,bytes:=16,zero:=S0,zs:=[S0] }
theorem t10_ok:TIok Tryz.prog 10 t10:=⟨by kernel_rfl,by kernel_rfl,rfl,rfl⟩
def t78:TI:={ und:=.struct [(0,1),(1,1)],size:=2,bytes:=16,zero:=.agg ([I0,I0]:List Value).toArray,zs:=[I0,I0] }
theorem t78_ok:TIok Tryz.prog 78 t78:=⟨by kernel_rfl,by kernel_rfl,rfl,rfl⟩
def t46:TI:={ und:=.ptr 129,size:=1,bytes:=8,zero:=.pointer none,zs:=[.pointer none] }
theorem t46_ok:TIok Tryz.prog 46 t46:=⟨by kernel_rfl,by kernel_rfl,rfl,rfl⟩
def t235:TI:={ und:=.ptr 299,size:=1,bytes:=8,zero:=.pointer none,zs:=[.pointer none] }
theorem t235_ok:TIok Tryz.prog 235 t235:=⟨by kernel_rfl,by kernel_rfl,rfl,rfl⟩
def t11:TI:={ und:=.string,size:=1,bytes:=16,zero:=S0,zs:=[S0] }
theorem t11_ok:TIok Tryz.prog 11 t11:=⟨by kernel_rfl,by kernel_rfl,rfl,rfl⟩
def t22:TI:={ und:=.slice 3,size:=1,bytes:=24,zero:=.slice none 0 0,zs:=[.slice none 0 0] }
theorem t22_ok:TIok Tryz.prog 22 t22:=⟨by kernel_rfl,by kernel_rfl,rfl,rfl⟩
def t121:TI:={ und:=.struct [(0,1),(1,1),(2,1),(3,1),(4,1),(5,3),(8,1),(9,1),(10,1),(11,1),(12,1),(13,1),(14,1),(15,1),(16,1),(17,4)],size:=21,bytes:=200,zero:=.agg ([I0,I0,I0,I0,.pointer none,I0,.slice none 0 0,I0,.pointer none,I0,I0,I0,.bool false,I0,I0,I0,I0,I0,S0,S0,I0]:List Value).toArray,zs:=[I0,I0,I0,I0,.pointer none,I0,.slice none 0 0,I0,.pointer none,I0,I0,I0,.bool false,I0,I0,I0,I0,I0,S0,S0,I0] }
theorem t121_ok:TIok Tryz.prog 121 t121:=⟨by kernel_rfl,by kernel_rfl,rfl,rfl⟩
def t113:TI:={ und:=.ptr 184,size:=1,bytes:=8,zero:=.pointer none,zs:=[.pointer none] }
theorem t113_ok:TIok Tryz.prog 113 t113:=⟨by kernel_rfl,by kernel_rfl,rfl,rfl⟩
def t174:TI:={ und:=.ptr 234,size:=1,bytes:=8,zero:=.pointer none,zs:=[.pointer none] }
theorem t174_ok:TIok Tryz.prog 174 t174:=⟨by kernel_rfl,by kernel_rfl,rfl,rfl⟩
def t50:TI:={ und:=.struct [(0,12),(12,1),(13,1),(14,1),(15,1),(16,1),(17,1),(18,1)],size:=19,bytes:=216,zero:=.agg ([I0,I0,I0,.slice none 0 0,I0,I0,I0,I0,I0,I0,I0,I0,I0,.pointer none,.slice none 0 0,.slice none 0 0,.pointer none,.pointer none,.slice none 0 0]:List Value).toArray,zs:=[I0,I0,I0,.slice none 0 0,I0,I0,I0,I0,I0,I0,I0,I0,I0,.pointer none,.slice none 0 0,.slice none 0 0,.pointer none,.pointer none,.slice none 0 0] }
theorem t50_ok:TIok Tryz.prog 50 t50:=⟨by kernel_rfl,by kernel_rfl,rfl,rfl⟩
def t56:TI:={ und:=.ptr 66,size:=1,bytes:=8,zero:=.pointer none,zs:=[.pointer none] }
theorem t56_ok:TIok Tryz.prog 56 t56:=⟨by kernel_rfl,by kernel_rfl,rfl,rfl⟩
def t309:TI:={ und:=.int .u64,size:=1,bytes:=8,zero:=.int .u64 0,zs:=[.int .u64 0] }
theorem t309_ok:TIok Tryz.prog 309 t309:=⟨by kernel_rfl,by kernel_rfl,rfl,rfl⟩
def t240:TI:={ und:=.slice 9,size:=1,bytes:=24,zero:=.slice none 0 0,zs:=[.slice none 0 0] }
theorem t240_ok:TIok Tryz.prog 240 t240:=⟨by kernel_rfl,by kernel_rfl,rfl,rfl⟩
def t12:TI:={ und:=.int .u64,size:=1,bytes:=8,zero:=.int .u64 0,zs:=[.int .u64 0] }
theorem t12_ok:TIok Tryz.prog 12 t12:=⟨by kernel_rfl,by kernel_rfl,rfl,rfl⟩
def t205:TI:={ und:=.struct [(0,1),(1,1),(2,1)],size:=3,bytes:=32,zero:=.agg ([I0,I0,S0]:List Value).toArray,zs:=[I0,I0,S0] }
theorem t205_ok:TIok Tryz.prog 205 t205:=⟨by kernel_rfl,by kernel_rfl,rfl,rfl⟩
def t118:TI:={ und:=.ptr 188,size:=1,bytes:=8,zero:=.pointer none,zs:=[.pointer none] }
theorem t118_ok:TIok Tryz.prog 118 t118:=⟨by kernel_rfl,by kernel_rfl,rfl,rfl⟩
def t251:TI:={ und:=.ptr 198,size:=1,bytes:=8,zero:=.pointer none,zs:=[.pointer none] }
theorem t251_ok:TIok Tryz.prog 251 t251:=⟨by kernel_rfl,by kernel_rfl,rfl,rfl⟩
def t25:TI:={ und:=.slice 37,size:=1,bytes:=24,zero:=.slice none 0 0,zs:=[.slice none 0 0] }
theorem t25_ok:TIok Tryz.prog 25 t25:=⟨by kernel_rfl,by kernel_rfl,rfl,rfl⟩
def t47:TI:={ und:=.ptr 126,size:=1,bytes:=8,zero:=.pointer none,zs:=[.pointer none] }
theorem t47_ok:TIok Tryz.prog 47 t47:=⟨by kernel_rfl,by kernel_rfl,rfl,rfl⟩
def t182:TI:={ und:=.slice 211,size:=1,bytes:=24,zero:=.slice none 0 0,zs:=[.slice none 0 0] }
theorem t182_ok:TIok Tryz.prog 182 t182:=⟨by kernel_rfl,by kernel_rfl,rfl,rfl⟩
def t258:TI:={ und:=.slice 198,size:=1,bytes:=24,zero:=.slice none 0 0,zs:=[.slice none 0 0] }
theorem t258_ok:TIok Tryz.prog 258 t258:=⟨by kernel_rfl,by kernel_rfl,rfl,rfl⟩
def t16:TI:={ und:=.ptr 392,size:=1,bytes:=8,zero:=.pointer none,zs:=[.pointer none] }
theorem t16_ok:TIok Tryz.prog 16 t16:=⟨by kernel_rfl,by kernel_rfl,rfl,rfl⟩
def t156:TI:={ und:=.struct [(0,1),(1,1),(2,4)],size:=6,bytes:=56,zero:=.agg ([I0,I0,I0,S0,I0,I0]:List Value).toArray,zs:=[I0,I0,I0,S0,I0,I0] }
theorem t156_ok:TIok Tryz.prog 156 t156:=⟨by kernel_rfl,by kernel_rfl,rfl,rfl⟩
def t166:TI:={ und:=.ptr 231,size:=1,bytes:=8,zero:=.pointer none,zs:=[.pointer none] }
theorem t166_ok:TIok Tryz.prog 166 t166:=⟨by kernel_rfl,by kernel_rfl,rfl,rfl⟩
def t66:TI:={ und:=.struct [(0,1),(1,1),(2,6),(8,6),(14,1),(15,1),(16,1),(17,1)],size:=18,bytes:=120,zero:=.agg ([.pointer none,I0,.bool false,.bool false,.bool false,.bool false,.bool false,.bool false,I0,I0,I0,I0,I0,I0,I0,I0,.slice none 0 0,.map none]:List Value).toArray,zs:=[.pointer none,I0,.bool false,.bool false,.bool false,.bool false,.bool false,.bool false,I0,I0,I0,I0,I0,I0,I0,I0,.slice none 0 0,.map none] }
theorem t66_ok:TIok Tryz.prog 66 t66:=⟨by kernel_rfl,by kernel_rfl,rfl,rfl⟩
def t211:TI:={ und:=.struct [(0,1),(1,29),(30,4)],size:=34,bytes:=336,zero:=.agg ([I0,I0,I0,I0,I0,I0,I0,I0,I0,S0,S0,I0,I0,S0,I0,I0,I0,I0,I0,I0,I0,S0,S0,I0,I0,.slice none 0 0,I0,I0,I0,I0,I0,S0,I0,I0]:List Value).toArray,zs:=[I0,I0,I0,I0,I0,I0,I0,I0,I0,S0,S0,I0,I0,S0,I0,I0,I0,I0,I0,I0,I0,S0,S0,I0,I0,.slice none 0 0,I0,I0,I0,I0,I0,S0,I0,I0] }
theorem t211_ok:TIok Tryz.prog 211 t211:=⟨by kernel_rfl,by kernel_rfl,rfl,rfl⟩
def t244:TI:={ und:=.int .u64,size:=1,bytes:=8,zero:=.int .u64 0,zs:=[.int .u64 0] }
theorem t244_ok:TIok Tryz.prog 244 t244:=⟨by kernel_rfl,by kernel_rfl,rfl,rfl⟩
def t107:TI:={ und:=.struct [(0,1),(1,1),(2,3),(5,6),(11,6)],size:=17,bytes:=112,zero:=.agg ([I0,I0,I0,.slice none 0 0,I0,I0,I0,I0,I0,I0,I0,.bool false,.bool false,.bool false,.bool false,.bool false,.bool false]:List Value).toArray,zs:=[I0,I0,I0,.slice none 0 0,I0,I0,I0,I0,I0,I0,I0,.bool false,.bool false,.bool false,.bool false,.bool false,.bool false] }
theorem t107_ok:TIok Tryz.prog 107 t107:=⟨by kernel_rfl,by kernel_rfl,rfl,rfl⟩
def t165:TI:={ und:=.struct [(0,1),(1,1),(2,1),(3,1),(4,1)],size:=5,bytes:=40,zero:=.agg ([I0,I0,I0,I0,I0]:List Value).toArray,zs:=[I0,I0,I0,I0,I0] }
theorem t165_ok:TIok Tryz.prog 165 t165:=⟨by kernel_rfl,by kernel_rfl,rfl,rfl⟩
def t62:TI:={ und:=.array 6 3,size:=6,bytes:=48,zero:=.agg ([I0,I0,I0,I0,I0,I0]:List Value).toArray,zs:=[I0,I0,I0,I0,I0,I0] }
theorem t62_ok:TIok Tryz.prog 62 t62:=⟨by kernel_rfl,by kernel_rfl,rfl,rfl⟩
def t64:TI:={ und:=.other,size:=1,bytes:=8,zero:=.map none,zs:=[.map none] }
theorem t64_ok:TIok Tryz.prog 64 t64:=⟨by kernel_rfl,by kernel_rfl,rfl,rfl⟩
def t173:TI:={ und:=.struct [(0,1),(1,1),(2,1),(3,12)],size:=15,bytes:=152,zero:=.agg ([.pointer none,.slice none 0 0,.slice none 0 0,I0,I0,I0,I0,I0,I0,I0,I0,I0,I0,I0,I0]:List Value).toArray,zs:=[.pointer none,.slice none 0 0,.slice none 0 0,I0,I0,I0,I0,I0,I0,I0,I0,I0,I0,I0,I0] }
theorem t173_ok:TIok Tryz.prog 173 t173:=⟨by kernel_rfl,by kernel_rfl,rfl,rfl⟩
def t178:TI:={ und:=.struct [(0,1),(1,1)],size:=2,bytes:=16,zero:=.agg ([I0,I0]:List Value).toArray,zs:=[I0,I0] }
theorem t178_ok:TIok Tryz.prog 178 t178:=⟨by kernel_rfl,by kernel_rfl,rfl,rfl⟩
def t239:TI:={ und:=.struct [(0,1),(1,1),(2,1),(3,1)],size:=4,bytes:=32,zero:=.agg ([.pointer none,I0,I0,I0]:List Value).toArray,zs:=[.pointer none,I0,I0,I0] }
theorem t239_ok:TIok Tryz.prog 239 t239:=⟨by kernel_rfl,by kernel_rfl,rfl,rfl⟩
def t48:TI:={ und:=.slice 161,size:=1,bytes:=24,zero:=.slice none 0 0,zs:=[.slice none 0 0] }
theorem t48_ok:TIok Tryz.prog 48 t48:=⟨by kernel_rfl,by kernel_rfl,rfl,rfl⟩
def t377:TI:={ und:=.ptr 289,size:=1,bytes:=8,zero:=.pointer none,zs:=[.pointer none] }
theorem t377_ok:TIok Tryz.prog 377 t377:=⟨by kernel_rfl,by kernel_rfl,rfl,rfl⟩
def t119:TI:={ und:=.ptr 295,size:=1,bytes:=8,zero:=.pointer none,zs:=[.pointer none] }
theorem t119_ok:TIok Tryz.prog 119 t119:=⟨by kernel_rfl,by kernel_rfl,rfl,rfl⟩
def t190:TI:={ und:=.struct [(0,1),(1,1)],size:=2,bytes:=16,zero:=.agg ([I0,I0]:List Value).toArray,zs:=[I0,I0] }
theorem t190_ok:TIok Tryz.prog 190 t190:=⟨by kernel_rfl,by kernel_rfl,rfl,rfl⟩
def t188:TI:={ und:=.struct [(0,1),(1,1),(2,1),(3,1),(4,1)],size:=5,bytes:=40,zero:=.agg ([I0,I0,I0,I0,I0]:List Value).toArray,zs:=[I0,I0,I0,I0,I0] }
theorem t188_ok:TIok Tryz.prog 188 t188:=⟨by kernel_rfl,by kernel_rfl,rfl,rfl⟩
def t285:TI:={ und:=.int .u32,size:=1,bytes:=4,zero:=.int .u32 0,zs:=[.int .u32 0] }
theorem t285_ok:TIok Tryz.prog 285 t285:=⟨by kernel_rfl,by kernel_rfl,rfl,rfl⟩
def t14:TI:={ und:=.struct [(0,1),(1,1)],size:=2,bytes:=24,zero:=.agg ([S0,.int .u64 0]:List Value).toArray,zs:=[S0,.int .u64 0] }
theorem t14_ok:TIok Tryz.prog 14 t14:=⟨by kernel_rfl,by kernel_rfl,rfl,rfl⟩
def t45:TI:={ und:=.slice 84,size:=1,bytes:=24,zero:=.slice none 0 0,zs:=[.slice none 0 0] }
theorem t45_ok:TIok Tryz.prog 45 t45:=⟨by kernel_rfl,by kernel_rfl,rfl,rfl⟩
def t353:TI:={ und:=.ptr 239,size:=1,bytes:=8,zero:=.pointer none,zs:=[.pointer none] }
theorem t353_ok:TIok Tryz.prog 353 t353:=⟨by kernel_rfl,by kernel_rfl,rfl,rfl⟩
def t61:TI:={ und:=.array 6 4,size:=6,bytes:=6,zero:=.agg ([.bool false,.bool false,.bool false,.bool false,.bool false,.bool false]:List Value).toArray,zs:=[.bool false,.bool false,.bool false,.bool false,.bool false,.bool false] }
theorem t61_ok:TIok Tryz.prog 61 t61:=⟨by kernel_rfl,by kernel_rfl,rfl,rfl⟩
def t126:TI:={ und:=.struct [(0,1),(1,1),(2,1),(3,6)],size:=9,bytes:=88,zero:=.agg ([.bool false,.slice none 0 0,I0,I0,I0,I0,I0,I0,I0]:List Value).toArray,zs:=[.bool false,.slice none 0 0,I0,I0,I0,I0,I0,I0,I0] }
theorem t126_ok:TIok Tryz.prog 126 t126:=⟨by kernel_rfl,by kernel_rfl,rfl,rfl⟩
def t127:TI:={ und:=.other,size:=1,bytes:=8,zero:=.map none,zs:=[.map none] }
theorem t127_ok:TIok Tryz.prog 127 t127:=⟨by kernel_rfl,by kernel_rfl,rfl,rfl⟩
def t200:TI:={ und:=.struct [(0,1),(1,29)],size:=30,bytes:=296,zero:=.agg ([I0,I0,I0,I0,I0,I0,I0,I0,I0,S0,S0,I0,I0,S0,I0,I0,I0,I0,I0,I0,I0,S0,S0,I0,I0,.slice none 0 0,I0,I0,I0,I0]:List Value).toArray,zs:=[I0,I0,I0,I0,I0,I0,I0,I0,I0,S0,S0,I0,I0,S0,I0,I0,I0,I0,I0,I0,I0,S0,S0,I0,I0,.slice none 0 0,I0,I0,I0,I0] }
theorem t200_ok:TIok Tryz.prog 200 t200:=⟨by kernel_rfl,by kernel_rfl,rfl,rfl⟩
def t234:TI:={ und:=.struct [(0,1),(1,1),(2,1)],size:=3,bytes:=40,zero:=.agg ([.slice none 0 0,I0,.bool false]:List Value).toArray,zs:=[.slice none 0 0,I0,.bool false] }
theorem t234_ok:TIok Tryz.prog 234 t234:=⟨by kernel_rfl,by kernel_rfl,rfl,rfl⟩
def t207:TI:={ und:=.struct [(0,1)],size:=1,bytes:=24,zero:=.agg ([.slice none 0 0]:List Value).toArray,zs:=[.slice none 0 0] }
theorem t207_ok:TIok Tryz.prog 207 t207:=⟨by kernel_rfl,by kernel_rfl,rfl,rfl⟩
def t289:TI:={ und:=.struct [(0,1),(1,1)],size:=2,bytes:=8,zero:=.agg ([.int .i32 0,.int .u32 0]:List Value).toArray,zs:=[.int .i32 0,.int .u32 0] }
theorem t289_ok:TIok Tryz.prog 289 t289:=⟨by kernel_rfl,by kernel_rfl,rfl,rfl⟩
def t299:TI:={ und:=.struct [(0,1),(1,1),(2,1)],size:=3,bytes:=40,zero:=.agg ([.slice none 0 0,I0,I0]:List Value).toArray,zs:=[.slice none 0 0,I0,I0] }
theorem t299_ok:TIok Tryz.prog 299 t299:=⟨by kernel_rfl,by kernel_rfl,rfl,rfl⟩
def t225:TI:={ und:=.ptr 228,size:=1,bytes:=8,zero:=.pointer none,zs:=[.pointer none] }
theorem t225_ok:TIok Tryz.prog 225 t225:=⟨by kernel_rfl,by kernel_rfl,rfl,rfl⟩
def t129:TI:={ und:=.struct [(0,1),(1,1)],size:=2,bytes:=16,zero:=.agg ([I0,.map none]:List Value).toArray,zs:=[I0,.map none] }
theorem t129_ok:TIok Tryz.prog 129 t129:=⟨by kernel_rfl,by kernel_rfl,rfl,rfl⟩
def t155:TI:={ und:=.struct [(0,1),(1,1),(2,4)],size:=6,bytes:=56,zero:=.agg ([I0,I0,I0,S0,I0,I0]:List Value).toArray,zs:=[I0,I0,I0,S0,I0,I0] }
theorem t155_ok:TIok Tryz.prog 155 t155:=⟨by kernel_rfl,by kernel_rfl,rfl,rfl⟩
def t232:TI:={ und:=.slice 239,size:=1,bytes:=24,zero:=.slice none 0 0,zs:=[.slice none 0 0] }
theorem t232_ok:TIok Tryz.prog 232 t232:=⟨by kernel_rfl,by kernel_rfl,rfl,rfl⟩
def t351:TI:={ und:=.slice 5,size:=1,bytes:=24,zero:=.slice none 0 0,zs:=[.slice none 0 0] }
theorem t351_ok:TIok Tryz.prog 351 t351:=⟨by kernel_rfl,by kernel_rfl,rfl,rfl⟩
def t13:TI:={ und:=.struct [(0,1),(1,1)],size:=2,bytes:=24,zero:=.agg ([S0,.int .u64 0]:List Value).toArray,zs:=[S0,.int .u64 0] }
theorem t13_ok:TIok Tryz.prog 13 t13:=⟨by kernel_rfl,by kernel_rfl,rfl,rfl⟩
def t44:TI:={ und:=.slice 81,size:=1,bytes:=24,zero:=.slice none 0 0,zs:=[.slice none 0 0] }
theorem t44_ok:TIok Tryz.prog 44 t44:=⟨by kernel_rfl,by kernel_rfl,rfl,rfl⟩
def t168:TI:={ und:=.slice 154,size:=1,bytes:=24,zero:=.slice none 0 0,zs:=[.slice none 0 0] }
theorem t168_ok:TIok Tryz.prog 168 t168:=⟨by kernel_rfl,by kernel_rfl,rfl,rfl⟩
def t181:TI:={ und:=.struct [(0,1),(1,1),(2,1),(3,12),(15,6)],size:=21,bytes:=168,zero:=.agg ([.pointer none,I0,I0,I0,I0,I0,I0,I0,I0,I0,I0,I0,I0,I0,I0,I0,I0,I0,I0,I0,I0]:List Value).toArray,zs:=[.pointer none,I0,I0,I0,I0,I0,I0,I0,I0,I0,I0,I0,I0,I0,I0,I0,I0,I0,I0,I0,I0] }
theorem t181_ok:TIok Tryz.prog 181 t181:=⟨by kernel_rfl,by kernel_rfl,rfl,rfl⟩
def t184:TI:={ und:=.struct [(0,1),(1,1),(2,1)],size:=3,bytes:=40,zero:=.agg ([I0,I0,.slice none 0 0]:List Value).toArray,zs:=[I0,I0,.slice none 0 0] }
theorem t184_ok:TIok Tryz.prog 184 t184:=⟨by kernel_rfl,by kernel_rfl,rfl,rfl⟩
def t345:TI:={ und:=.struct [(0,1),(1,1)],size:=2,bytes:=24,zero:=.agg ([S0,I0]:List Value).toArray,zs:=[S0,I0] }
theorem t345_ok:TIok Tryz.prog 345 t345:=⟨by kernel_rfl,by kernel_rfl,rfl,rfl⟩
def t229:TI:={ und:=.other,size:=1,bytes:=8,zero:=.map none,zs:=[.map none] }
theorem t229_ok:TIok Tryz.prog 229 t229:=⟨by kernel_rfl,by kernel_rfl,rfl,rfl⟩
def t287:TI:={ und:=.struct [(0,0),(0,1)],size:=1,bytes:=4,zero:=.agg ([.int .u32 0]:List Value).toArray,zs:=[.int .u32 0] }
theorem t287_ok:TIok Tryz.prog 287 t287:=⟨by kernel_rfl,by kernel_rfl,rfl,rfl⟩
def t346:TI:={ und:=.int .u64,size:=1,bytes:=8,zero:=.int .u64 0,zs:=[.int .u64 0] }
theorem t346_ok:TIok Tryz.prog 346 t346:=⟨by kernel_rfl,by kernel_rfl,rfl,rfl⟩
def t249:TI:={ und:=.slice 141,size:=1,bytes:=24,zero:=.slice none 0 0,zs:=[.slice none 0 0] }
theorem t249_ok:TIok Tryz.prog 249 t249:=⟨by kernel_rfl,by kernel_rfl,rfl,rfl⟩
def t19:TI:={ und:=.struct [(0,1)],size:=1,bytes:=8,zero:=.agg ([.pointer none]:List Value).toArray,zs:=[.pointer none] }
theorem t19_ok:TIok Tryz.prog 19 t19:=⟨by kernel_rfl,by kernel_rfl,rfl,rfl⟩
def t228:TI:={ und:=.struct [(0,1),(1,1),(2,4),(6,1),(7,1),(8,6)],size:=14,bytes:=136,zero:=.agg ([I0,I0,I0,S0,S0,I0,I0,I0,I0,I0,I0,S0,I0,I0]:List Value).toArray,zs:=[I0,I0,I0,S0,S0,I0,I0,I0,I0,I0,I0,S0,I0,I0] }
theorem t228_ok:TIok Tryz.prog 228 t228:=⟨by kernel_rfl,by kernel_rfl,rfl,rfl⟩
def t301:TI:={ und:=.int .i64,size:=1,bytes:=8,zero:=I0,zs:=[I0] }
theorem t301_ok:TIok Tryz.prog 301 t301:=⟨by kernel_rfl,by kernel_rfl,rfl,rfl⟩
def t15:TI:={ und:=.ptr 389,size:=1,bytes:=8,zero:=.pointer none,zs:=[.pointer none] }
theorem t15_ok:TIok Tryz.prog 15 t15:=⟨by kernel_rfl,by kernel_rfl,rfl,rfl⟩
def t128:TI:={ und:=.struct [(0,1),(1,1)],size:=2,bytes:=16,zero:=.agg ([I0,.map none]:List Value).toArray,zs:=[I0,.map none] }
theorem t128_ok:TIok Tryz.prog 128 t128:=⟨by kernel_rfl,by kernel_rfl,rfl,rfl⟩
def t114:TI:={ und:=.struct [(0,1),(1,1),(2,1),(3,1),(4,3),(7,1),(8,1),(9,1),(10,1),(11,1),(12,1),(13,1),(14,1),(15,1),(16,1)],size:=17,bytes:=152,zero:=.agg ([I0,I0,I0,I0,I0,.slice none 0 0,I0,I0,.bool false,.pointer none,.pointer none,.pointer none,.pointer none,I0,I0,.bool false,I0]:List Value).toArray,zs:=[I0,I0,I0,I0,I0,.slice none 0 0,I0,I0,.bool false,.pointer none,.pointer none,.pointer none,.pointer none,I0,I0,.bool false,I0] }
theorem t114_ok:TIok Tryz.prog 114 t114:=⟨by kernel_rfl,by kernel_rfl,rfl,rfl⟩
def t124:TI:={ und:=.slice 228,size:=1,bytes:=24,zero:=.slice none 0 0,zs:=[.slice none 0 0] }
theorem t124_ok:TIok Tryz.prog 124 t124:=⟨by kernel_rfl,by kernel_rfl,rfl,rfl⟩
def t170:TI:={ und:=.struct [(0,1),(1,1)],size:=2,bytes:=16,zero:=.agg ([I0,I0]:List Value).toArray,zs:=[I0,I0] }
theorem t170_ok:TIok Tryz.prog 170 t170:=⟨by kernel_rfl,by kernel_rfl,rfl,rfl⟩
def t231:TI:={ und:=.struct [(0,1)],size:=1,bytes:=8,zero:=.agg ([.map none]:List Value).toArray,zs:=[.map none] }
theorem t231_ok:TIok Tryz.prog 231 t231:=⟨by kernel_rfl,by kernel_rfl,rfl,rfl⟩
def t171:TI:={ und:=.array 6 170,size:=12,bytes:=96,zero:=.agg ([I0,I0,I0,I0,I0,I0,I0,I0,I0,I0,I0,I0]:List Value).toArray,zs:=[I0,I0,I0,I0,I0,I0,I0,I0,I0,I0,I0,I0] }
theorem t171_ok:TIok Tryz.prog 171 t171:=⟨by kernel_rfl,by kernel_rfl,rfl,rfl⟩
def t293:TI:={ und:=.struct [(0,0),(0,1),(1,2)],size:=3,bytes:=12,zero:=.agg ([.int .u32 0,.int .i32 0,.int .u32 0]:List Value).toArray,zs:=[.int .u32 0,.int .i32 0,.int .u32 0] }
theorem t293_ok:TIok Tryz.prog 293 t293:=⟨by kernel_rfl,by kernel_rfl,rfl,rfl⟩
def t295:TI:={ und:=.struct [(0,1),(1,3),(4,1),(5,6)],size:=11,bytes:=80,zero:=.agg ([.bool false,.int .u32 0,.int .i32 0,.int .u32 0,.int .u32 0,I0,I0,I0,S0,I0,I0]:List Value).toArray,zs:=[.bool false,.int .u32 0,.int .i32 0,.int .u32 0,.int .u32 0,I0,I0,I0,S0,I0,I0] }
theorem t295_ok:TIok Tryz.prog 295 t295:=⟨by kernel_rfl,by kernel_rfl,rfl,rfl⟩
def t342:TI:={ und:=.ptr 285,size:=1,bytes:=8,zero:=.pointer none,zs:=[.pointer none] }
theorem t342_ok:TIok Tryz.prog 342 t342:=⟨by kernel_rfl,by kernel_rfl,rfl,rfl⟩
def t372:TI:={ und:=.ptr 293,size:=1,bytes:=8,zero:=.pointer none,zs:=[.pointer none] }
theorem t372_ok:TIok Tryz.prog 372 t372:=⟨by kernel_rfl,by kernel_rfl,rfl,rfl⟩
def t179:TI:={ und:=.array 6 178,size:=12,bytes:=96,zero:=.agg ([I0,I0,I0,I0,I0,I0,I0,I0,I0,I0,I0,I0]:List Value).toArray,zs:=[I0,I0,I0,I0,I0,I0,I0,I0,I0,I0,I0,I0] }
theorem t179_ok:TIok Tryz.prog 179 t179:=⟨by kernel_rfl,by kernel_rfl,rfl,rfl⟩
def t367:TI:={ und:=.ptr 346,size:=1,bytes:=8,zero:=.pointer none,zs:=[.pointer none] }
theorem t367_ok:TIok Tryz.prog 367 t367:=⟨by kernel_rfl,by kernel_rfl,rfl,rfl⟩
def t379:TI:={ und:=.ptr 21,size:=1,bytes:=8,zero:=.pointer none,zs:=[.pointer none] }
theorem t379_ok:TIok Tryz.prog 379 t379:=⟨by kernel_rfl,by kernel_rfl,rfl,rfl⟩
def t106:TI:={ und:=.struct [(0,1),(1,1),(2,3),(5,6),(11,6)],size:=17,bytes:=112,zero:=.agg ([I0,I0,I0,.slice none 0 0,I0,I0,I0,I0,I0,I0,I0,.bool false,.bool false,.bool false,.bool false,.bool false,.bool false]:List Value).toArray,zs:=[I0,I0,I0,.slice none 0 0,I0,I0,I0,I0,I0,I0,I0,.bool false,.bool false,.bool false,.bool false,.bool false,.bool false] }
theorem t106_ok:TIok Tryz.prog 106 t106:=⟨by kernel_rfl,by kernel_rfl,rfl,rfl⟩
def t164:TI:={ und:=.struct [(0,1),(1,1),(2,1),(3,1),(4,1)],size:=5,bytes:=40,zero:=.agg ([I0,I0,I0,I0,I0]:List Value).toArray,zs:=[I0,I0,I0,I0,I0] }
theorem t164_ok:TIok Tryz.prog 164 t164:=⟨by kernel_rfl,by kernel_rfl,rfl,rfl⟩
def t291:TI:={ und:=.struct [(0,0),(0,2)],size:=2,bytes:=8,zero:=.agg ([.int .i32 0,.int .u32 0]:List Value).toArray,zs:=[.int .i32 0,.int .u32 0] }
theorem t291_ok:TIok Tryz.prog 291 t291:=⟨by kernel_rfl,by kernel_rfl,rfl,rfl⟩
def t23:TI:={ und:=.struct [(0,1),(1,1),(2,1),(3,1),(4,1),(5,1),(6,1),(7,1),(8,1),(9,1),(10,1),(11,1)],size:=12,bytes:=112,zero:=.agg ([I0,I0,I0,.slice none 0 0,I0,I0,I0,I0,I0,I0,I0,I0]:List Value).toArray,zs:=[I0,I0,I0,.slice none 0 0,I0,I0,I0,I0,I0,I0,I0,I0] }
theorem t23_ok:TIok Tryz.prog 23 t23:=⟨by kernel_rfl,by kernel_rfl,rfl,rfl⟩
def t34:TI:={ und:=.struct [(0,1),(1,1),(2,1),(3,1)],size:=4,bytes:=48,zero:=.agg ([I0,S0,S0,I0]:List Value).toArray,zs:=[I0,S0,S0,I0] }
theorem t34_ok:TIok Tryz.prog 34 t34:=⟨by kernel_rfl,by kernel_rfl,rfl,rfl⟩
def t169:TI:={ und:=.struct [(0,1),(1,1)],size:=2,bytes:=16,zero:=.agg ([I0,I0]:List Value).toArray,zs:=[I0,I0] }
theorem t169_ok:TIok Tryz.prog 169 t169:=⟨by kernel_rfl,by kernel_rfl,rfl,rfl⟩
def t199:TI:={ und:=.struct [(0,1),(1,29)],size:=30,bytes:=296,zero:=.agg ([I0,I0,I0,I0,I0,I0,I0,I0,I0,S0,S0,I0,I0,S0,I0,I0,I0,I0,I0,I0,I0,S0,S0,I0,I0,.slice none 0 0,I0,I0,I0,I0]:List Value).toArray,zs:=[I0,I0,I0,I0,I0,I0,I0,I0,I0,S0,S0,I0,I0,S0,I0,I0,I0,I0,I0,I0,I0,S0,S0,I0,I0,.slice none 0 0,I0,I0,I0,I0] }
theorem t199_ok:TIok Tryz.prog 199 t199:=⟨by kernel_rfl,by kernel_rfl,rfl,rfl⟩
def t272:TI:={ und:=.struct [(0,1)],size:=1,bytes:=8,zero:=.agg ([.pointer none]:List Value).toArray,zs:=[.pointer none] }
theorem t272_ok:TIok Tryz.prog 272 t272:=⟨by kernel_rfl,by kernel_rfl,rfl,rfl⟩
def t376:TI:={ und:=.ptr 291,size:=1,bytes:=8,zero:=.pointer none,zs:=[.pointer none] }
theorem t376_ok:TIok Tryz.prog 376 t376:=⟨by kernel_rfl,by kernel_rfl,rfl,rfl⟩
def t49:TI:={ und:=.struct [(0,12),(12,1),(13,1),(14,1),(15,1),(16,1),(17,1),(18,1)],size:=19,bytes:=216,zero:=.agg ([I0,I0,I0,.slice none 0 0,I0,I0,I0,I0,I0,I0,I0,I0,I0,.pointer none,.slice none 0 0,.slice none 0 0,.pointer none,.pointer none,.slice none 0 0]:List Value).toArray,zs:=[I0,I0,I0,.slice none 0 0,I0,I0,I0,I0,I0,I0,I0,I0,I0,.pointer none,.slice none 0 0,.slice none 0 0,.pointer none,.pointer none,.slice none 0 0] }
theorem t49_ok:TIok Tryz.prog 49 t49:=⟨by kernel_rfl,by kernel_rfl,rfl,rfl⟩
def t73:TI:={ und:=.struct [(0,1),(1,1),(2,1)],size:=3,bytes:=40,zero:=.agg ([I0,.slice none 0 0,I0]:List Value).toArray,zs:=[I0,.slice none 0 0,I0] }
theorem t73_ok:TIok Tryz.prog 73 t73:=⟨by kernel_rfl,by kernel_rfl,rfl,rfl⟩
def t77:TI:={ und:=.struct [(0,1),(1,1)],size:=2,bytes:=16,zero:=.agg ([I0,I0]:List Value).toArray,zs:=[I0,I0] }
theorem t77_ok:TIok Tryz.prog 77 t77:=⟨by kernel_rfl,by kernel_rfl,rfl,rfl⟩
def t125:TI:={ und:=.struct [(0,1),(1,1),(2,1),(3,6)],size:=9,bytes:=88,zero:=.agg ([.bool false,.slice none 0 0,I0,I0,I0,I0,I0,I0,I0]:List Value).toArray,zs:=[.bool false,.slice none 0 0,I0,I0,I0,I0,I0,I0,I0] }
theorem t125_ok:TIok Tryz.prog 125 t125:=⟨by kernel_rfl,by kernel_rfl,rfl,rfl⟩
def t180:TI:={ und:=.struct [(0,1),(1,1),(2,1),(3,12),(15,6)],size:=21,bytes:=168,zero:=.agg ([.pointer none,I0,I0,I0,I0,I0,I0,I0,I0,I0,I0,I0,I0,I0,I0,I0,I0,I0,I0,I0,I0]:List Value).toArray,zs:=[.pointer none,I0,I0,I0,I0,I0,I0,I0,I0,I0,I0,I0,I0,I0,I0,I0,I0,I0,I0,I0,I0] }
theorem t180_ok:TIok Tryz.prog 180 t180:=⟨by kernel_rfl,by kernel_rfl,rfl,rfl⟩
def t197:TI:={ und:=.struct [(0,1),(1,1),(2,1),(3,1),(4,1),(5,1),(6,1),(7,4),(11,4),(15,1),(16,7),(23,3),(26,1),(27,1),(28,1)],size:=29,bytes:=288,zero:=.agg ([I0,I0,I0,I0,I0,I0,I0,I0,S0,S0,I0,I0,S0,I0,I0,I0,I0,I0,I0,I0,S0,S0,I0,I0,.slice none 0 0,I0,I0,I0,I0]:List Value).toArray,zs:=[I0,I0,I0,I0,I0,I0,I0,I0,S0,S0,I0,I0,S0,I0,I0,I0,I0,I0,I0,I0,S0,S0,I0,I0,.slice none 0 0,I0,I0,I0,I0] }
theorem t197_ok:TIok Tryz.prog 197 t197:=⟨by kernel_rfl,by kernel_rfl,rfl,rfl⟩
def t340:TI:={ und:=.ptr 287,size:=1,bytes:=8,zero:=.pointer none,zs:=[.pointer none] }
theorem t340_ok:TIok Tryz.prog 340 t340:=⟨by kernel_rfl,by kernel_rfl,rfl,rfl⟩
def t17:TI:={ und:=.ptr 400,size:=1,bytes:=8,zero:=.pointer none,zs:=[.pointer none] }
theorem t17_ok:TIok Tryz.prog 17 t17:=⟨by kernel_rfl,by kernel_rfl,rfl,rfl⟩
def t36:TI:={ und:=.struct [(0,1),(1,1),(2,1),(3,1),(4,4)],size:=8,bytes:=80,zero:=.agg ([I0,I0,I0,I0,I0,S0,S0,I0]:List Value).toArray,zs:=[I0,I0,I0,I0,I0,S0,S0,I0] }
theorem t36_ok:TIok Tryz.prog 36 t36:=⟨by kernel_rfl,by kernel_rfl,rfl,rfl⟩
def t65:TI:={ und:=.struct [(0,1),(1,1),(2,6),(8,6),(14,1),(15,1),(16,1),(17,1)],size:=18,bytes:=120,zero:=.agg ([.pointer none,I0,.bool false,.bool false,.bool false,.bool false,.bool false,.bool false,I0,I0,I0,I0,I0,I0,I0,I0,.slice none 0 0,.map none]:List Value).toArray,zs:=[.pointer none,I0,.bool false,.bool false,.bool false,.bool false,.bool false,.bool false,I0,I0,I0,I0,I0,I0,I0,I0,.slice none 0 0,.map none] }
theorem t65_ok:TIok Tryz.prog 65 t65:=⟨by kernel_rfl,by kernel_rfl,rfl,rfl⟩
def t120:TI:={ und:=.struct [(0,1),(1,1),(2,1),(3,1),(4,1),(5,3),(8,1),(9,1),(10,1),(11,1),(12,1),(13,1),(14,1),(15,1),(16,1),(17,4)],size:=21,bytes:=200,zero:=.agg ([I0,I0,I0,I0,.pointer none,I0,.slice none 0 0,I0,.pointer none,I0,I0,I0,.bool false,I0,I0,I0,I0,I0,S0,S0,I0]:List Value).toArray,zs:=[I0,I0,I0,I0,.pointer none,I0,.slice none 0 0,I0,.pointer none,I0,I0,I0,.bool false,I0,I0,I0,I0,I0,S0,S0,I0] }
theorem t120_ok:TIok Tryz.prog 120 t120:=⟨by kernel_rfl,by kernel_rfl,rfl,rfl⟩
def t153:TI:={ und:=.struct [(0,1),(1,1),(2,1),(3,1)],size:=4,bytes:=40,zero:=.agg ([I0,S0,I0,I0]:List Value).toArray,zs:=[I0,S0,I0,I0] }
theorem t153_ok:TIok Tryz.prog 153 t153:=⟨by kernel_rfl,by kernel_rfl,rfl,rfl⟩
def t177:TI:={ und:=.struct [(0,1),(1,1)],size:=2,bytes:=16,zero:=.agg ([I0,I0]:List Value).toArray,zs:=[I0,I0] }
theorem t177_ok:TIok Tryz.prog 177 t177:=⟨by kernel_rfl,by kernel_rfl,rfl,rfl⟩
def t189:TI:={ und:=.struct [(0,1),(1,1)],size:=2,bytes:=16,zero:=.agg ([I0,I0]:List Value).toArray,zs:=[I0,I0] }
theorem t189_ok:TIok Tryz.prog 189 t189:=⟨by kernel_rfl,by kernel_rfl,rfl,rfl⟩
def t227:TI:={ und:=.struct [(0,1),(1,1),(2,4),(6,1),(7,1),(8,6)],size:=14,bytes:=136,zero:=.agg ([I0,I0,I0,S0,S0,I0,I0,I0,I0,I0,I0,S0,I0,I0]:List Value).toArray,zs:=[I0,I0,I0,S0,S0,I0,I0,I0,I0,I0,I0,S0,I0,I0] }
theorem t227_ok:TIok Tryz.prog 227 t227:=⟨by kernel_rfl,by kernel_rfl,rfl,rfl⟩
def t253:TI:={ und:=.ptr 207,size:=1,bytes:=8,zero:=.pointer none,zs:=[.pointer none] }
theorem t253_ok:TIok Tryz.prog 253 t253:=⟨by kernel_rfl,by kernel_rfl,rfl,rfl⟩
def t288:TI:={ und:=.struct [(0,1),(1,1)],size:=2,bytes:=8,zero:=.agg ([.int .i32 0,.int .u32 0]:List Value).toArray,zs:=[.int .i32 0,.int .u32 0] }
theorem t288_ok:TIok Tryz.prog 288 t288:=⟨by kernel_rfl,by kernel_rfl,rfl,rfl⟩
def t290:TI:={ und:=.struct [(0,0),(0,2)],size:=2,bytes:=8,zero:=.agg ([.int .i32 0,.int .u32 0]:List Value).toArray,zs:=[.int .i32 0,.int .u32 0] }
theorem t290_ok:TIok Tryz.prog 290 t290:=⟨by kernel_rfl,by kernel_rfl,rfl,rfl⟩
def t18:TI:={ und:=.struct [(0,1)],size:=1,bytes:=8,zero:=.agg ([.pointer none]:List Value).toArray,zs:=[.pointer none] }
theorem t18_ok:TIok Tryz.prog 18 t18:=⟨by kernel_rfl,by kernel_rfl,rfl,rfl⟩
def t160:TI:={ und:=.struct [(0,1),(1,1),(2,1),(3,4)],size:=7,bytes:=72,zero:=.agg ([I0,I0,I0,I0,S0,S0,I0]:List Value).toArray,zs:=[I0,I0,I0,I0,S0,S0,I0] }
theorem t160_ok:TIok Tryz.prog 160 t160:=⟨by kernel_rfl,by kernel_rfl,rfl,rfl⟩
def t187:TI:={ und:=.struct [(0,1),(1,1),(2,1),(3,1),(4,1)],size:=5,bytes:=40,zero:=.agg ([I0,I0,I0,I0,I0]:List Value).toArray,zs:=[I0,I0,I0,I0,I0] }
theorem t187_ok:TIok Tryz.prog 187 t187:=⟨by kernel_rfl,by kernel_rfl,rfl,rfl⟩
def t230:TI:={ und:=.struct [(0,1)],size:=1,bytes:=8,zero:=.agg ([.map none]:List Value).toArray,zs:=[.map none] }
theorem t230_ok:TIok Tryz.prog 230 t230:=⟨by kernel_rfl,by kernel_rfl,rfl,rfl⟩
def t233:TI:={ und:=.struct [(0,1),(1,1),(2,1)],size:=3,bytes:=40,zero:=.agg ([.slice none 0 0,I0,.bool false]:List Value).toArray,zs:=[.slice none 0 0,I0,.bool false] }
theorem t233_ok:TIok Tryz.prog 233 t233:=⟨by kernel_rfl,by kernel_rfl,rfl,rfl⟩
def t271:TI:={ und:=.struct [(0,1)],size:=1,bytes:=8,zero:=.agg ([.pointer none]:List Value).toArray,zs:=[.pointer none] }
theorem t271_ok:TIok Tryz.prog 271 t271:=⟨by kernel_rfl,by kernel_rfl,rfl,rfl⟩
def t284:TI:={ und:=.struct [],size:=0,bytes:=0,zero:=.agg ([]:List Value).toArray,zs:=[] }
theorem t284_ok:TIok Tryz.prog 284 t284:=⟨by kernel_rfl,by kernel_rfl,rfl,rfl⟩
def t398:TI:={ und:=.int .i32,size:=1,bytes:=4,zero:=.int .i32 0,zs:=[.int .i32 0] }
theorem t398_ok:TIok Tryz.prog 398 t398:=⟨by kernel_rfl,by kernel_rfl,rfl,rfl⟩
def t172:TI:={ und:=.struct [(0,1),(1,1),(2,1),(3,12)],size:=15,bytes:=152,zero:=.agg ([.pointer none,.slice none 0 0,.slice none 0 0,I0,I0,I0,I0,I0,I0,I0,I0,I0,I0,I0,I0]:List Value).toArray,zs:=[.pointer none,.slice none 0 0,.slice none 0 0,I0,I0,I0,I0,I0,I0,I0,I0,I0,I0,I0,I0] }
theorem t172_ok:TIok Tryz.prog 172 t172:=⟨by kernel_rfl,by kernel_rfl,rfl,rfl⟩
def t183:TI:={ und:=.struct [(0,1),(1,1),(2,1)],size:=3,bytes:=40,zero:=.agg ([I0,I0,.slice none 0 0]:List Value).toArray,zs:=[I0,I0,.slice none 0 0] }
theorem t183_ok:TIok Tryz.prog 183 t183:=⟨by kernel_rfl,by kernel_rfl,rfl,rfl⟩
def t204:TI:={ und:=.struct [(0,1),(1,1),(2,1)],size:=3,bytes:=32,zero:=.agg ([I0,I0,S0]:List Value).toArray,zs:=[I0,I0,S0] }
theorem t204_ok:TIok Tryz.prog 204 t204:=⟨by kernel_rfl,by kernel_rfl,rfl,rfl⟩
def t206:TI:={ und:=.struct [(0,1)],size:=1,bytes:=24,zero:=.agg ([.slice none 0 0]:List Value).toArray,zs:=[.slice none 0 0] }
theorem t206_ok:TIok Tryz.prog 206 t206:=⟨by kernel_rfl,by kernel_rfl,rfl,rfl⟩
def t238:TI:={ und:=.struct [(0,1),(1,1),(2,1),(3,1)],size:=4,bytes:=32,zero:=.agg ([.pointer none,I0,I0,I0]:List Value).toArray,zs:=[.pointer none,I0,I0,I0] }
theorem t238_ok:TIok Tryz.prog 238 t238:=⟨by kernel_rfl,by kernel_rfl,rfl,rfl⟩
def t282:TI:={ und:=.struct [],size:=0,bytes:=0,zero:=.agg ([]:List Value).toArray,zs:=[] }
theorem t282_ok:TIok Tryz.prog 282 t282:=⟨by kernel_rfl,by kernel_rfl,rfl,rfl⟩
def t283:TI:={ und:=.struct [],size:=0,bytes:=0,zero:=.agg ([]:List Value).toArray,zs:=[] }
theorem t283_ok:TIok Tryz.prog 283 t283:=⟨by kernel_rfl,by kernel_rfl,rfl,rfl⟩
def t344:TI:={ und:=.struct [(0,1),(1,1)],size:=2,bytes:=24,zero:=.agg ([S0,I0]:List Value).toArray,zs:=[S0,I0] }
theorem t344_ok:TIok Tryz.prog 344 t344:=⟨by kernel_rfl,by kernel_rfl,rfl,rfl⟩
def t210:TI:={ und:=.struct [(0,1),(1,29),(30,4)],size:=34,bytes:=336,zero:=.agg ([I0,I0,I0,I0,I0,I0,I0,I0,I0,S0,S0,I0,I0,S0,I0,I0,I0,I0,I0,I0,I0,S0,S0,I0,I0,.slice none 0 0,I0,I0,I0,I0,I0,S0,I0,I0]:List Value).toArray,zs:=[I0,I0,I0,I0,I0,I0,I0,I0,I0,S0,S0,I0,I0,S0,I0,I0,I0,I0,I0,I0,I0,S0,S0,I0,I0,.slice none 0 0,I0,I0,I0,I0,I0,S0,I0,I0] }
theorem t210_ok:TIok Tryz.prog 210 t210:=⟨by kernel_rfl,by kernel_rfl,rfl,rfl⟩
def t286:TI:={ und:=.struct [(0,0),(0,1)],size:=1,bytes:=4,zero:=.agg ([.int .u32 0]:List Value).toArray,zs:=[.int .u32 0] }
theorem t286_ok:TIok Tryz.prog 286 t286:=⟨by kernel_rfl,by kernel_rfl,rfl,rfl⟩
def t292:TI:={ und:=.struct [(0,0),(0,1),(1,2)],size:=3,bytes:=12,zero:=.agg ([.int .u32 0,.int .i32 0,.int .u32 0]:List Value).toArray,zs:=[.int .u32 0,.int .i32 0,.int .u32 0] }
theorem t292_ok:TIok Tryz.prog 292 t292:=⟨by kernel_rfl,by kernel_rfl,rfl,rfl⟩
def t294:TI:={ und:=.struct [(0,1),(1,3),(4,1),(5,6)],size:=11,bytes:=80,zero:=.agg ([.bool false,.int .u32 0,.int .i32 0,.int .u32 0,.int .u32 0,I0,I0,I0,S0,I0,I0]:List Value).toArray,zs:=[.bool false,.int .u32 0,.int .i32 0,.int .u32 0,.int .u32 0,I0,I0,I0,S0,I0,I0] }
theorem t294_ok:TIok Tryz.prog 294 t294:=⟨by kernel_rfl,by kernel_rfl,rfl,rfl⟩
def t298:TI:={ und:=.struct [(0,1),(1,1),(2,1)],size:=3,bytes:=40,zero:=.agg ([.slice none 0 0,I0,I0]:List Value).toArray,zs:=[.slice none 0 0,I0,I0] }
theorem t298_ok:TIok Tryz.prog 298 t298:=⟨by kernel_rfl,by kernel_rfl,rfl,rfl⟩
def t394:TI:={ und:=.int .u8,size:=1,bytes:=1,zero:=.int .u8 0,zs:=[.int .u8 0] }
theorem t394_ok:TIok Tryz.prog 394 t394:=⟨by kernel_rfl,by kernel_rfl,rfl,rfl⟩
def t388:TI:={ und:=.struct [(0,1),(1,1),(2,1),(3,1)],size:=4,bytes:=40,zero:=.agg ([.pointer none,.pointer none,.pointer none,S0]:List Value).toArray,zs:=[.pointer none,.pointer none,.pointer none,S0] }
theorem t388_ok:TIok Tryz.prog 388 t388:=⟨by kernel_rfl,by kernel_rfl,rfl,rfl⟩
def t389:TI:={ und:=.struct [(0,1),(1,1),(2,1),(3,1)],size:=4,bytes:=40,zero:=.agg ([.pointer none,.pointer none,.pointer none,S0]:List Value).toArray,zs:=[.pointer none,.pointer none,.pointer none,S0] }
theorem t389_ok:TIok Tryz.prog 389 t389:=⟨by kernel_rfl,by kernel_rfl,rfl,rfl⟩
def t390:TI:={ und:=.array 0 16,size:=0,bytes:=0,zero:=.agg ([]:List Value).toArray,zs:=[] }
theorem t390_ok:TIok Tryz.prog 390 t390:=⟨by kernel_rfl,by kernel_rfl,rfl,rfl⟩
def t391:TI:={ und:=.struct [(0,0)],size:=0,bytes:=0,zero:=.agg ([]:List Value).toArray,zs:=[] }
theorem t391_ok:TIok Tryz.prog 391 t391:=⟨by kernel_rfl,by kernel_rfl,rfl,rfl⟩
def t392:TI:={ und:=.struct [(0,0)],size:=0,bytes:=0,zero:=.agg ([]:List Value).toArray,zs:=[] }
theorem t392_ok:TIok Tryz.prog 392 t392:=⟨by kernel_rfl,by kernel_rfl,rfl,rfl⟩
def t393:TI:={ und:=.int .u8,size:=1,bytes:=1,zero:=.int .u8 0,zs:=[.int .u8 0] }
theorem t393_ok:TIok Tryz.prog 393 t393:=⟨by kernel_rfl,by kernel_rfl,rfl,rfl⟩
def t396:TI:={ und:=.ptr 5,size:=1,bytes:=8,zero:=.pointer none,zs:=[.pointer none] }
theorem t396_ok:TIok Tryz.prog 396 t396:=⟨by kernel_rfl,by kernel_rfl,rfl,rfl⟩
def t397:TI:={ und:=.int .i32,size:=1,bytes:=4,zero:=.int .i32 0,zs:=[.int .i32 0] }
theorem t397_ok:TIok Tryz.prog 397 t397:=⟨by kernel_rfl,by kernel_rfl,rfl,rfl⟩
def tab:Tab:=[(3,t3),(4,t4),(2,t2),(30,t30),(5,t5),(198,t198),(81,t81),(9,t9),(74,t74),(24,t24),(6,t6),(39,t39),(7,t7),(8,t8),(84,t84),(63,t63),(111,t111),(21,t21),(99,t99),(115,t115),(43,t43),(35,t35),(37,t37),(72,t72),(154,t154),(110,t110),(161,t161),(112,t112),(141,t141),(148,t148),(10,t10),(78,t78),(46,t46),(235,t235),(11,t11),(22,t22),(121,t121),(113,t113),(174,t174),(50,t50),(56,t56),(309,t309),(240,t240),(12,t12),(205,t205),(118,t118),(251,t251),(25,t25),(47,t47),(182,t182),(258,t258),(16,t16),(156,t156),(166,t166),(66,t66),(211,t211),(244,t244),(107,t107),(165,t165),(62,t62),(64,t64),(173,t173),(178,t178),(239,t239),(48,t48),(377,t377),(119,t119),(190,t190),(188,t188),(285,t285),(14,t14),(45,t45),(353,t353),(61,t61),(126,t126),(127,t127),(200,t200),(234,t234),(207,t207),(289,t289),(299,t299),(225,t225),(129,t129),(155,t155),(232,t232),(351,t351),(13,t13),(44,t44),(168,t168),(181,t181),(184,t184),(345,t345),(229,t229),(287,t287),(346,t346),(249,t249),(19,t19),(228,t228),(301,t301),(15,t15),(128,t128),(114,t114),(124,t124),(170,t170),(231,t231),(171,t171),(293,t293),(295,t295),(342,t342),(372,t372),(179,t179),(367,t367),(379,t379),(106,t106),(164,t164),(291,t291),(23,t23),(34,t34),(169,t169),(199,t199),(272,t272),(376,t376),(49,t49),(73,t73),(77,t77),(125,t125),(180,t180),(197,t197),(340,t340),(17,t17),(36,t36),(65,t65),(120,t120),(153,t153),(177,t177),(189,t189),(227,t227),(253,t253),(288,t288),(290,t290),(18,t18),(160,t160),(187,t187),(230,t230),(233,t233),(271,t271),(284,t284),(398,t398),(172,t172),(183,t183),(204,t204),(206,t206),(238,t238),(282,t282),(283,t283),(344,t344),(210,t210),(286,t286),(292,t292),(294,t294),(298,t298),(394,t394),(388,t388),(389,t389),(390,t390),(391,t391),(392,t392),(393,t393),(396,t396),(397,t397)]
theorem tabOk:TabOk Tryz.prog tab:=by
 intro p hp
 have key:∀(l:Tab),(∀p∈l,TIok Tryz.prog p.1 p.2)→∀k ti,TIok Tryz.prog k ti→∀p∈(k,ti)::l,TIok Tryz.prog p.1 p.2:=fun l h k ti h1 p hp=>by
  rcases List.mem_cons.1 hp with rfl | hp
  ·exact h1
  ·exact h p hp
 exact key _ (key _ (key _ (key _ (key _ (key _ (key _ (key _ (key _ (key _ (key _ (key _ (key _ (key _ (key _ (key _ (key _ (key _ (key _ (key _ (key _ (key _ (key _ (key _ (key _ (key _ (key _ (key _ (key _ (key _ (key _ (key _ (key _ (key _ (key _ (key _ (key _ (key _ (key _ (key _ (key _ (key _ (key _ (key _ (key _ (key _ (key _ (key _ (key _ (key _ (key _ (key _ (key _ (key _ (key _ (key _ (key _ (key _ (key _ (key _ (key _ (key _ (key _ (key _ (key _ (key _ (key _ (key _ (key _ (key _ (key _ (key _ (key _ (key _ (key _ (key _ (key _ (key _ (key _ (key _ (key _ (key _ (key _ (key _ (key _ (key _ (key _ (key _ (key _ (key _ (key _ (key _ (key _ (key _ (key _ (key _ (key _ (key _ (key _ (key _ (key _ (key _ (key _ (key _ (key _ (key _ (key _ (key _ (key _ (key _ (key _ (key _ (key _ (key _ (key _ (key _ (key _ (key _ (key _ (key _ (key _ (key _ (key _ (key _ (key _ (key _ (key _ (key _ (key _ (key _ (key _ (key _ (key _ (key _ (key _ (key _ (key _ (key _ (key _ (key _ (key _ (key _ (key _ (key _ (key _ (key _ (key _ (key _ (key _ (key _ (key _ (key _ (key _ (key _ (key _ (key _ (key _ (key _ (key _ (key _ (key _ (key _ (key _ (key _ (key _ (key _ (key _ (key _ (key _ (key _ (fun p h=>by cases h) _ _ t397_ok) _ _ t396_ok) _ _ t393_ok) _ _ t392_ok) _ _ t391_ok) _ _ t390_ok) _ _ t389_ok) _ _ t388_ok) _ _ t394_ok) _ _ t298_ok) _ _ t294_ok) _ _ t292_ok) _ _ t286_ok) _ _ t210_ok) _ _ t344_ok) _ _ t283_ok) _ _ t282_ok) _ _ t238_ok) _ _ t206_ok) _ _ t204_ok) _ _ t183_ok) _ _ t172_ok) _ _ t398_ok) _ _ t284_ok) _ _ t271_ok) _ _ t233_ok) _ _ t230_ok) _ _ t187_ok) _ _ t160_ok) _ _ t18_ok) _ _ t290_ok) _ _ t288_ok) _ _ t253_ok) _ _ t227_ok) _ _ t189_ok) _ _ t177_ok) _ _ t153_ok) _ _ t120_ok) _ _ t65_ok) _ _ t36_ok) _ _ t17_ok) _ _ t340_ok) _ _ t197_ok) _ _ t180_ok) _ _ t125_ok) _ _ t77_ok) _ _ t73_ok) _ _ t49_ok) _ _ t376_ok) _ _ t272_ok) _ _ t199_ok) _ _ t169_ok) _ _ t34_ok) _ _ t23_ok) _ _ t291_ok) _ _ t164_ok) _ _ t106_ok) _ _ t379_ok) _ _ t367_ok) _ _ t179_ok) _ _ t372_ok) _ _ t342_ok) _ _ t295_ok) _ _ t293_ok) _ _ t171_ok) _ _ t231_ok) _ _ t170_ok) _ _ t124_ok) _ _ t114_ok) _ _ t128_ok) _ _ t15_ok) _ _ t301_ok) _ _ t228_ok) _ _ t19_ok) _ _ t249_ok) _ _ t346_ok) _ _ t287_ok) _ _ t229_ok) _ _ t345_ok) _ _ t184_ok) _ _ t181_ok) _ _ t168_ok) _ _ t44_ok) _ _ t13_ok) _ _ t351_ok) _ _ t232_ok) _ _ t155_ok) _ _ t129_ok) _ _ t225_ok) _ _ t299_ok) _ _ t289_ok) _ _ t207_ok) _ _ t234_ok) _ _ t200_ok) _ _ t127_ok) _ _ t126_ok) _ _ t61_ok) _ _ t353_ok) _ _ t45_ok) _ _ t14_ok) _ _ t285_ok) _ _ t188_ok) _ _ t190_ok) _ _ t119_ok) _ _ t377_ok) _ _ t48_ok) _ _ t239_ok) _ _ t178_ok) _ _ t173_ok) _ _ t64_ok) _ _ t62_ok) _ _ t165_ok) _ _ t107_ok) _ _ t244_ok) _ _ t211_ok) _ _ t66_ok) _ _ t166_ok) _ _ t156_ok) _ _ t16_ok) _ _ t258_ok) _ _ t182_ok) _ _ t47_ok) _ _ t25_ok) _ _ t251_ok) _ _ t118_ok) _ _ t205_ok) _ _ t12_ok) _ _ t240_ok) _ _ t309_ok) _ _ t56_ok) _ _ t50_ok) _ _ t174_ok) _ _ t113_ok) _ _ t121_ok) _ _ t22_ok) _ _ t11_ok) _ _ t235_ok) _ _ t46_ok) _ _ t78_ok) _ _ t10_ok) _ _ t148_ok) _ _ t141_ok) _ _ t112_ok) _ _ t161_ok) _ _ t110_ok) _ _ t154_ok) _ _ t72_ok) _ _ t37_ok) _ _ t35_ok) _ _ t43_ok) _ _ t115_ok) _ _ t99_ok) _ _ t21_ok) _ _ t111_ok) _ _ t63_ok) _ _ t84_ok) _ _ t8_ok) _ _ t7_ok) _ _ t39_ok) _ _ t6_ok) _ _ t24_ok) _ _ t74_ok) _ _ t9_ok) _ _ t81_ok) _ _ t198_ok) _ _ t5_ok) _ _ t30_ok) _ _ t2_ok) _ _ t4_ok) _ _ t3_ok p hp
end T
namespace Api
open Go Vg T
attribute [local irreducible] VO VC VA
structure OpM where
 kind:Int
 key:ByteArray
 value:ByteArray
 version:Int
def OpM.cells(o:OpM):List Value:=[.int .i64 o.kind,.string o.key,.string o.value,.int .i64 o.version]
def opBad(o:OpM):Bool:=
 decide (o.kind<1)||decide (4<o.kind)||decide (o.key.size=0)||decide (o.version<0)||decide (4096<o.version)||(decide (o.version≠0)&&decide (o.kind≠4)) ||
  (decide (o.value.size≠0) && !(decide (o.kind=2)||decide (o.kind=4)))
def opLong(o:OpM):Bool:=decide (16<o.key.size)||decide (64<o.value.size)
def opCheck(o:OpM):Int:=if opBad o then 2 else if opLong o then 3 else 0
def opCost(o:OpM):Int:=if opCheck o=0 then 16+o.key.size+o.value.size else 0
theorem toList_size(s:ByteArray):s.toList.length=s.size:=by rw[ByteArray.toList_eq];simp
theorem str_empty(s:ByteArray)(t:ByteArray)(ht:t.size=0):(s.toList == t.toList)=decide (s.size=0):=by
 have h2:t.toList=[]:=List.eq_nil_of_length_eq_zero (by rw[toList_size];exact ht)
 rw[h2]
 by_cases h:s.size=0
 ·have h1:s.toList=[]:=List.eq_nil_of_length_eq_zero (by rw[toList_size];exact h)
  rw[h1];simp[h]
 ·have h1:s.toList≠[]:=fun e=>h (by rw[←toList_size,e];rfl)
  simp[h]
  exact h1
theorem valued_spec(k:Int):Tri Tryz.prog 219 [.int .i64 k] Fr w [] (fun v L=>v=.bool (decide (k=2)||decide (k=4))∧L=[]):=by
 refine TF 9 Tryz.func219 rfl ym tabOk rfl rfl ?_
 refine CS (CG (VG (VN (CS (CG (VG (VO.split 5 rfl rfl (fun h=>VG (VN (CR ?_))) (fun h=>VG (VN (CR ?_))))))))))
 ·exact Ret.bool 2 rfl rfl (by have:=eq_of_beq h;simp[this]) ER ⟨rfl,rfl⟩
 ·exact Ret.bool 2 rfl rfl (by have h:=ne_of_beq_false h;by_cases h4:k=4<;>simp[h,h4]) ER ⟨rfl,rfl⟩
theorem check_spec(o:OpM):Tri Tryz.prog 149 [.agg o.cells.toArray] Fr w [] (fun v L=>v=.int .i64 (opCheck o)∧L=[]):=by
 refine TF 49 Tryz.func149 rfl ym tabOk rfl rfl ?_
 refine CS (CG (VG (VB (vs:=o.cells) rfl (fun b=>VG (VN ?_)))))
 refine CS (VC.block ?_)
 refine VC.meet (σ:=Bool) (fun s=>[(1,pV b),(3,.bool s)]) (fun _=>[pt b o.cells 35]) (fun s=>s=opBad o) ?_ ?_
 ·have K:=str_empty o.key (ByteArray.mk #[]) rfl
  have V:=str_empty o.value (ByteArray.mk #[]) rfl
  refine CS (CG (VG (VO.ld 0 rfl rfl rfl rfl (VG (VO.split 7 rfl rfl (fun h1=>VG (VN ?_)) (fun h1=>VG (VO.ld 0 rfl rfl rfl rfl (VG (VN ?_)))))))))
  ·refine VC.condT rfl (CK ⟨true,?_,sbZ,ER⟩)
   simp[opBad,h1]
  have h1:=of_decide_eq_false h1
  refine CP rfl (fun h2=>CK ⟨_,?_,SC rfl (SC rfl (SN _)),ER⟩) (fun h2=>?_)
  ·simp[opBad,h2]
  refine CS (CG (VG (VO.ld 0 rfl rfl rfl rfl (VG (VN ?_)))))
  refine CC (t:=decide (o.key.size=0)) (congrArg (fun x=>some (Value.bool x)) K) (fun h3=>CK ⟨_,?_,SC rfl (SC rfl (SN _)),ER⟩) (fun h3=>?_)
  ·rw[K];have h3:=of_decide_eq_true h3;simp[opBad,h3]
  have h3:=of_decide_eq_false h3
  refine CS (CG (VG (VO.ld 0 rfl rfl rfl rfl (VG (VO.split 18 rfl rfl (fun h4=>VG (VN ?_)) (fun h4=>VG (VO.ld 0 rfl rfl rfl rfl (VG (VN ?_)))))))))
  ·refine VC.condT rfl (CK ⟨true,?_,sbZ,ER⟩)
   simp[opBad,h4]
  have h4:=of_decide_eq_false h4
  refine CP rfl (fun h5=>CK ⟨_,?_,SC rfl (SC rfl (SN _)),ER⟩) (fun h5=>?_)
  ·simp[opBad,h5]
  refine CS (CG (VG (VO.ld 0 rfl rfl rfl rfl (VG (VO.split 26 rfl rfl (fun h6=>VG (VO.ld 0 rfl rfl rfl rfl (VG (VN ?_)))) (fun h6=>VG (VN ?_)))))))
  ·have h6:o.version≠0:=by simpa using h6
   refine VC.condNE rfl (fun h7=>CK ⟨_,?_,SC rfl (SC rfl (SN _)),ER⟩) (fun h7=>?_)
   ·simp[opBad,h6,h7]
   have V2:(!(o.value.toList == (ByteArray.mk #[]).toList))=decide (o.value.size≠0):=by rw[V];simp
   refine xdf ?_
   refine VG (VO.split 34 (b:=decide (o.value.size≠0)) (congrArg (fun x=>some (Value.bool x)) V2) rfl (fun h8=>?_) (fun h8=>?_))
   ·have h8:=of_decide_eq_true h8
    refine xdf ?_
    refine VG (VO.callV (fun Fr w=>valued_spec Fr w o.kind) rfl (VG (VN ⟨_,?_,SC rfl (SC rfl (SN _)),ER⟩)))
    simp[opBad,h1,h2,h3,h4,h5,h6,h7,h8]
   ·have h8:=of_decide_eq_false h8
    refine xdf ?_
    refine⟨_,?_,SC rfl (SC rfl (SN _)),ER⟩
    simp[opBad,h1,h2,h3,h4,h5,h6,h7,h8]
  ·have h6:o.version=0:=by simpa using h6
   have h7:True:=trivial
   have V2:(!(o.value.toList == (ByteArray.mk #[]).toList))=decide (o.value.size≠0):=by rw[V];simp
   refine xdg ?_
   refine xdf ?_
   refine VG (VO.split 34 (b:=decide (o.value.size≠0)) (congrArg (fun x=>some (Value.bool x)) V2) rfl (fun h8=>?_) (fun h8=>?_))
   ·have h8:=of_decide_eq_true h8
    refine xdf ?_
    refine VG (VO.callV (fun Fr w=>valued_spec Fr w o.kind) rfl (VG (VN ⟨_,?_,SC rfl (SC rfl (SN _)),ER⟩)))
    simp[opBad,h1,h2,h3,h4,h5,h6,h7,h8]
   ·have h8:=of_decide_eq_false h8
    refine xdf ?_
    refine⟨_,?_,SC rfl (SC rfl (SN _)),ER⟩
    simp[opBad,h1,h2,h3,h4,h5,h6,h7,h8]
 intro s hs
 subst hs
 refine CC rfl (fun h1=>?_) (fun h1=>?_)
 ·refine xdf ?_
  exact CR (Ret.int 2 rfl rfl (by simp[opCheck,h1]) Imp.nil.ent ⟨rfl,rfl⟩)
 ·refine xdf ?_
  refine CP rfl (fun h2=>CK (CP rfl (fun _=>?_) (fun h=>absurd h2 h))) (fun h2=>?_)
  ·have h2:16<(o.key.size:Int):=h2
   refine xdf ?_
   exact CR (Ret.int 2 rfl rfl yn Imp.nil.ent ⟨rfl,rfl⟩)
  ·have h2:¬16<(o.key.size:Int):=h2
   refine xdf ?_
   refine CP rfl (fun h3=>?_) (fun h3=>?_)
   ·have h3:64<(o.value.size:Int):=h3
    refine xdf ?_
    exact CR (Ret.int 2 rfl rfl yn Imp.nil.ent ⟨rfl,rfl⟩)
   ·have h3:¬64<(o.value.size:Int):=h3
    refine zqn ?_
    refine CR (Ret.int 2 rfl rfl ?_ Imp.nil.ent ⟨rfl,rfl⟩)
    have e:opLong o=false:=by simp[opLong];omega
    simp[opCheck,e,h1]
theorem cost_spec(o:OpM):Tri Tryz.prog 272 [.agg o.cells.toArray] Fr w [] (fun v L=>v=.int .i64 (opCost o)∧L=[]):=by
 refine TF 14 Tryz.func272 rfl ym tabOk rfl rfl ?_
 refine CS (CG (VG (VB (vs:=o.cells) rfl (fun b=>VG (VN ?_)))))
 refine CS (CS (CG (VG (VL 0 o.cells rfl rfl rfl rfl (VG (VO.callV (fun Fr w=>check_spec Fr w o) rfl (VG (VN ?_))))))))
 refine VC.condNE rfl (fun h1=>?_) (fun h1=>?_)
 ·refine xdf ?_
  exact xdh
 ·refine CK ?_
  have hl:opLong o=false:=by
   unfold opCheck at h1;split at h1
   ·omega
   ·split at h1
    ·omega
    ·rename_i h;simpa using h
  have hk:o.key.size≤16∧o.value.size≤64:=by simp[opLong] at hl;omega
  refine xdf ?_
  refine VG (VP rfl rfl ?_ ?_ ?_)
  ·omega
  ·omega
  refine xdf ?_
  refine VG (VP rfl rfl ?_ ?_ ?_)
  ·omega
  ·omega
  refine xdf ?_
  exact xdh
end Api
namespace Api
open Go Vg T
structure ResM where
 code:Int
 value:ByteArray
 version:Int
 at_:Int
structure EntryM where
 index:Int
 client:Int
 seq:Int
 op:OpM
structure FrameM where
 kind:Int
 epoch:Int
 client:Int
 seq:Int
 try_:Int
 cls:Int
 deadline:Int
 op:OpM
 res:ResM
 reason:Int
 entry:EntryM
 cepoch:Int
 drain:Int
 index:Int
 grant:Int
 have_:Int
abbrev MemM:=Int×Int
def memC(m:MemM):List Value:=[.int .i64 m.1,.int .i64 m.2]
theorem memC_len(m:MemM):(memC m).length=2:=rfl
theorem memC_one(m:MemM):(memC m).all Value.oneCell'=true:=rfl
abbrev memT:TypeId:=78
abbrev MemG:=Option Addr×Nat×Nat
abbrev MemS:=MemG
def FrameM.cells(f:FrameM)(m:MemS):List Value:=
  [.int .i64 f.kind,.int .i64 f.epoch,.int .i64 f.client,.int .i64 f.seq,.int .i64 f.try_,.int .i64 f.cls,.int .i64 f.deadline,
   .int .i64 f.op.kind,.string f.op.key,.string f.op.value,.int .i64 f.op.version,
   .int .i64 f.res.code,.string f.res.value,.int .i64 f.res.version,.int .i64 f.res.at_,.int .i64 f.reason,
   .int .i64 f.entry.index,.int .i64 f.entry.client,.int .i64 f.entry.seq,.int .i64 f.entry.op.kind,.string f.entry.op.key,.string f.entry.op.value,.int .i64 f.entry.op.version,
   .int .i64 f.cepoch,.slice m.1 m.2.1 m.2.2,.int .i64 f.drain,.int .i64 f.index,.int .i64 f.grant,.int .i64 f.have_]
abbrev FM:=FrameM×MemS
def fmc(p:FM):List Value:=p.1.cells p.2
theorem fmc_len(p:FM):(fmc p).length=29:=rfl
def opZ:OpM:=⟨0,⟨#[]⟩,⟨#[]⟩,0⟩
def FrameM.zero:FrameM:=⟨0,0,0,0,0,0,0,opZ,⟨0,⟨#[]⟩,0,0⟩,0,⟨0,0,0,opZ⟩,0,0,0,0,0⟩
def fmz:FM:=(FrameM.zero,none,0,0)
theorem Imp.tl{H:HP}{L:List HP}:Imp (H::L) L:=Imp.app (L:=[H]) (M:=[]) Imp.nil Imp.refl
def mmH(m:MemG):HP:=hex fun ms:List MemM=>hsep [hpure (ms.length=m.2.1∧ms.length≤1000000),slH memT 2 m.1 m.2.1 m.2.2 (flat memC ms)]
def MIn(Fr:Nat→Prop)(w:World)(m:MemG):Prop:=∃ms:List MemM,ms.length=m.2.1∧ms.length≤1000000∧RwIn memC 2 Fr w m.1 ms
theorem MIn.of{X:Cx}{m:MemG}(h:MIn X.Fr X.w0 m){Fr':Nat→Prop}(hF:∀b,X.Fr b→Fr' b){w:World}{L:List HP}(hw:St X L w):MIn Fr' w m:=by
 obtain⟨ms,h1,h2,h3⟩:=h
 exact⟨ms,h1,h2,RwIn.of h3 hF hw⟩
theorem MIn.sat{Fr:Nat→Prop}{w:World}{m:MemG}(h:SatIn Fr [mmH m] w):MIn Fr w m:=by
 obtain⟨ms,h⟩:=h.ex
 have h:=h.sep
 have hp:=h.pure 0 rfl
 have h1:=h.at_ 1 rfl
 obtain⟨a,n,c⟩:=m
 dsimp only at hp h1
 obtain⟨rfl,hl⟩:=hp
 exact⟨ms,rfl,hl,RwIn.slH memC_len h1⟩
theorem Imp.mm0{L M:List HP}(h:Imp L M):Imp L (mmH (none,0,0)::M):=
 Imp.ex (f:=fun ms:List MemM=>hsep [hpure (ms.length=0∧ms.length≤1000000),slH memT 2 none 0 0 (flat memC ms)]) [] (Imp.sep (Ls:=[hpure _,slH memT 2 none 0 0 (flat memC [])]) (Imp.pure ⟨rfl,by decide⟩ (Imp.slNil h)))
theorem mm_put{l:List FM}{k:Nat}{x:FM}(hk:k<l.length):Imp (mmH x.2::l.map fun r=>mmH r.2) ((l.set k x).map fun r=>mmH r.2):=by
 rw[List.map_set]
 exact Imp.put k (by simpa using hk)
theorem mm_at{l:List FM}{k:Nat}{x:FM}(h:l[k]?=some x):(l.map fun r=>mmH r.2)[k]?=some (mmH x.2):=by rw[List.getElem?_map,h];rfl
end Api
namespace Cl
open Go Vg Api
abbrev Bs:=List UInt8
def bT(l:Bs):ByteArray:=⟨l.toArray⟩
abbrev sB(s:ByteArray):Bs:=s.data.toList
theorem bT_size(a:Bs):(bT a).size=a.length:=by show(a.toArray).size=_;simp
theorem bT_app(a b:Bs):bT (a++b)=bT a++bT b:=ByteArray.ext (by simp[bT])
theorem bT_inj{a b:Bs}(h:bT a=bT b):a=b:=by
 have:=congrArg (fun s:ByteArray=>s.data.toList) h
 simpa[bT] using this
theorem bT_of(s:ByteArray):bT (sB s)=s:=by simp[bT,sB]
theorem sB_len(s:ByteArray):(sB s).length=s.size:=by show s.data.toList.length=s.data.size;simp
theorem sB_of(l:Bs):sB (bT l)=l:=by simp[bT,sB]
def leB:Nat→Nat→Bs
 | 0,_=>[]
 | k+1,n=>if n=0 then [] else UInt8.ofNat (n % 256)::leB k (n / 256)
def numB(n:Nat):Bs:=if n≤247 then [UInt8.ofNat n] else UInt8.ofNat (247+(leB 8 n).length)::(leB 8 n).reverse
def beN(l:Bs):Nat:=l.foldl (fun n b=>n*256+b.toNat) 0
def readB:Bs→Option (Nat×Bs)
 | []=>none
 | c::r=>if c.toNat≤247 then some (c.toNat,r) else if r.length<c.toNat-247 then none
  else if numB (beN (r.take (c.toNat-247)))=c::r.take (c.toNat-247) then some (beN (r.take (c.toNat-247)),r.drop (c.toNat-247)) else none
theorem leB_len:∀(k n:Nat),(leB k n).length≤k
 | 0,_=>NR _
 | k+1,n=>by
  unfold leB
  split
  ·exact Nat.zero_le _
  ·have:=leB_len k (n / 256);simp;omega
theorem beN_app(l:Bs)(b:UInt8):beN (l ++ [b])=beN l*256+b.toNat:=by simp[beN,List.foldl_append]
theorem beN_le:∀{k n:Nat},n<256 ^ k→beN (leB k n).reverse=n
 | 0,n,h=>by
  have:n=0:=by simpa using h
  subst this;rfl
 | k+1,n,h=>by
  unfold leB
  split
  ·rename_i h0;subst h0;rfl
  ·rw[List.reverse_cons,beN_app,beN_le (k:=k) (by rw[Nat.pow_succ] at h;exact Nat.div_lt_of_lt_mul yd)]
   have:(UInt8.ofNat (n % 256)).toNat=n % 256:=by simp[UInt8.toNat_ofNat']
   rw[this];omega
theorem beN_lt:∀(l:Bs),beN l<256 ^ l.length:=fun l=>by
 have key:∀(l:Bs) (n k:Nat),n<256 ^ k→l.foldl (fun n b=>n*256+b.toNat) n<256 ^ (k+l.length):=by
  intro l
  induction l with
  | nil=>intro n k h;simpa using h
  | cons b l ih=>
   intro n k h
   rw[List.foldl_cons,List.length_cons,show k+(l.length+1)=(k+1)+l.length from by omega]
   refine ih _ _ ?_
   have hb:b.toNat<256:=b.toNat_lt
   rw[Nat.pow_succ];omega
 have:=key l 0 0 yo
 simpa[beN] using this
theorem leB_pos{n:Nat}(h:n≠0):1≤(leB 8 n).length:=by unfold leB;rw[if_neg h];simp
theorem readB_num{n:Nat}(h:n<18446744073709551616)(r:Bs):readB (numB n++r)=some (n,r):=by
 unfold numB
 split
 ·rename_i hn
  have hc:(UInt8.ofNat n).toNat=n:=by rw[UInt8.toNat_ofNat'];omega
  rw[List.singleton_append,readB,hc,if_pos hn]
 ·rename_i hn
  have hl:=leB_len 8 n
  have hc:(UInt8.ofNat (247+(leB 8 n).length)).toNat=247+(leB 8 n).length:=by rw[UInt8.toNat_ofNat'];omega
  have hp:=leB_pos (n:=n) yd
  have e1:247+(leB 8 n).length-247=(leB 8 n).reverse.length:=by rw[List.length_reverse];omega
  rw[List.cons_append,readB,hc,if_neg yd,e1,if_neg yp,List.take_left' rfl,List.drop_left' rfl,beN_le yc,if_pos (by rw[numB,if_neg hn])]
theorem readB_len{s:Bs}{n:Nat}{r:Bs}(h:readB s=some (n,r)):r.length<s.length:=by
 cases s with
 | nil=>cases h
 | cons c l=>
  rw[readB] at h
  split at h
  ·cases h;simp
  ·split at h
   ·cases h
   ·split at h
    ·simp only[Option.some.injEq,Prod.mk.injEq] at h;obtain⟨rfl,rfl⟩:=h;rw[List.length_drop,List.length_cons];omega
    ·cases h
theorem readB_lt{s:Bs}{n:Nat}{r:Bs}(h:readB s=some (n,r)):n<18446744073709551616:=by
 cases s with
 | nil=>cases h
 | cons c l=>
  have hc:c.toNat<256:=c.toNat_lt
  rw[readB] at h
  split at h
  ·cases h;omega
  ·split at h
   ·cases h
   ·split at h
    ·simp only[Option.some.injEq,Prod.mk.injEq] at h
     obtain⟨rfl,rfl⟩:=h
     have h1:=beN_lt (l.take (c.toNat-247))
     have h2:(l.take (c.toNat-247)).length≤8:=by rw[List.length_take];omega
     have h3:256 ^ (l.take (c.toNat-247)).length≤256 ^ 8:=Nat.pow_le_pow_right yo h2
     have h4:256 ^ 8=18446744073709551616:=rfl
     omega
    ·cases h
def intB(n:Int):Bs:=if n < -1∨1099511627776<n then [] else numB (n+1).toNat
def unintB(s:Bs):Option (Int×Bs):=match readB s with
 | some (u,r)=>if 1099511627777<u then none else some ((u:Int)-1,r)
 | none=>none
theorem unintB_int{n:Int}(h1:-1≤n)(h2:n≤1099511627776)(r:Bs):unintB (intB n++r)=some (n,r):=by
 unfold intB unintB
 rw[if_neg yd,readB_num yd]
 dsimp only
 rw[if_neg yd]
 congr 2;omega
theorem unintB_in{s:Bs}{n:Int}{r:Bs}(h:unintB s=some (n,r)):-1≤n∧n≤1099511627776∧r.length<s.length:=by
 unfold unintB at h
 cases hr:readB s with
 | none=>rw[hr] at h;cases h
 | some x=>
  obtain⟨u,r'⟩:=x
  rw[hr] at h
  dsimp only at h
  split at h
  ·cases h
  ·have:=readB_len hr
   cases h
   omega
def textB(s:Bs):Bs:=numB s.length++s
def cutB(s:Bs):Option (Bs×Bs):=match readB s with
 | some (n,r)=>if r.length<n then none else some (r.take n,r.drop n)
 | none=>none
end Cl
namespace Vg
open Go Go.MapKept
def EqT(P:Program)(t:TypeId)(d0:Nat)(u v:Value)(r:Bool):Prop:=∀d,d0≤d→∀w:World,(Op.equalIn (d+1) t u v).run P w=.ok r w
theorem EqT.int{P:Program}{t:TypeId}{k j:IntKind}(ht:P.underlying t=some (.int k))(a b:Int):EqT P t 0 (.int j a) (.int j b) (decide (a=b)):=fun d _ w=>by
 rw[Op.equalIn,Sem.run_bind,run_underlying ht]
 simp;rfl
theorem EqT.str{P:Program}{t:TypeId}(ht:P.underlying t=some .string)(a b:ByteArray):EqT P t 0 (.string a) (.string b) (decide (a=b)):=fun d _ w=>by
 rw[Op.equalIn,Sem.run_bind,run_underlying ht]
 have:(a == b)=decide (a=b):=by
  by_cases h:a=b
  ·subst h;rw[(bytes_beq a a).2 rfl];simp
  ·rw[DF h]
   cases hb:a == b
   ·rfl
   ·exact absurd ((bytes_beq a b).1 hb) h
 simp[this]
def EqFs(P:Program)(d0:Nat)(xs ys:List Value)(fs:List Field)(r:Bool):Prop:=∀d,d0≤d→∀w:World,(Op.eqFields (d+1) xs.toArray ys.toArray fs).run P w=.ok r w
theorem EqFs.nil{P:Program}{xs ys:List Value}:EqFs P 0 xs ys [] true:=fun d _ w=>rfl
theorem EqFs.cons{P:Program}{d0 d1:Nat}{xs ys:List Value}{f:Field}{fs:List Field}{r s:Bool}{u v:Value}(hn:f.name ≠ "_")(hx:∀w:World,(part f.type xs.toArray f.offset).run P w=.ok u w)(hy:∀w:World,(part f.type ys.toArray f.offset).run P w=.ok v w)
  (h:EqT P f.type d0 u v r) (hs:EqFs P d1 xs ys fs s):EqFs P (max d0 d1) xs ys (f::fs) (r&&s):=fun d hd w=>by
 unfold Op.eqFields
 rw[if_pos hn]
 simp only[Sem.run_bind,hx,hy,Result.andThen_ok,h d yd w]
 cases r
 ·simp
 ·simpa using hs d yd w
theorem part1{P:Program}{t:TypeId}{cs:List Value}{off:Nat}{v:Value}{ti:TI}(ht:TIok P t ti)(ha:ti.und.agg=false)(hv:cs[off]?=some v)(w:World):(part t cs.toArray off).run P w=.ok v w:=by
 unfold part
 rw[Sem.run_bind,ht.aggR,ha]
 have:cs.toArray[off]?=some v:=by simpa using hv
 simp[this]
theorem partA{P:Program}{t:TypeId}{cs ds:List Value}{off:Nat}{ti:TI}(ht:TIok P t ti)(ha:ti.und.agg=true)(hv:(cs.drop off).take ti.size=ds)(w:World):(part t cs.toArray off).run P w=.ok (.agg ds.toArray) w:=by
 obtain⟨i,hi,hs,_,_⟩:=ht.info'
 unfold part
 rw[Sem.run_bind,ht.aggR,ha]
 simp[run_size hi,hs]
 exact hv
theorem EqT.st{P:Program}{t:TypeId}{d0:Nat}{xs ys:List Value}{r:Bool}{fs:Array Field}(ht:P.underlying t=some (.struct fs))(hp:P.stoodInHeld t=false)(h:EqFs P d0 xs ys fs.toList r):EqT P t (d0+1) (.agg xs.toArray) (.agg ys.toArray) r:=fun d hd w=>by
 have hf:P.fieldsOf t=fs:=by unfold Program.fieldsOf;rw[ht]
 rw[run_equalIn_struct w d t _ _ (by rw[hf];exact ht) hp,hf]
 obtain⟨k,rfl⟩:∃k,d=k+1:=⟨d-1,by omega⟩
 exact h k yd w
theorem EqT.eq{P:Program}{t:TypeId}{d0:Nat}{u v:Value}{r s:Bool}(h:EqT P t d0 u v r)(e:r=s):EqT P t d0 u v s:=e▸h
theorem EqT.run{P:Program}{t:TypeId}{d0:Nat}{u v:Value}{r:Bool}(h:EqT P t d0 u v r)(hd:d0≤9999)(w:World):(Op.equal t u v).run P w=.ok r w:=by
 unfold Op.equal
 exact h 9999 hd w
theorem VC.meetS{X:Cx}{σ:Type}(E:σ→Env)(H:σ→List HP)(I:σ→Prop){b c:Code}{e:Env}{L:List HP}{Q:Exit→Env→List HP→Prop}
  (hb:VC X b e L (meetQ X E H I Q)) (hc:∀s,I s→VC X c (E s) (H s) Q):VC X b e L (seqQ X c Q):=
 hb.mono fun x e' L' h=>by
  cases x with
  | normal=>
   obtain⟨s,hI,hE,hH⟩:=h
   exact((hc s hI).ent hH).sub hE
  | exit id=>exact h
  | goto l=>exact h
  | ret=>exact h
  | panic ch=>exact h
  | outgrown=>exact h
end Vg
namespace Ch
open Go Vg T Api
attribute [local irreducible] VO VC VA
abbrev chT:TypeId:=74
structure ChM where
 epoch:Int
 ms:List MemM
 drain:Int
def ChM.cells(c:ChM)(a:Option Addr)(cap:Nat):List Value:=[.int .i64 c.epoch,.slice a c.ms.length cap,.int .i64 c.drain]
def placeOf(ms:List MemM)(n:Int):Int:=match ms.findIdx? (fun m=>decide (m.1=n)) with
 | some i=>i
 | none=>-1
theorem place_hit{ms:List MemM}{n:Int}{i:Nat}{m:MemM}(hm:ms[i]?=some m)(h:m.1=n)(hno:∀j m,j<i→ms[j]?=some m→m.1≠n):placeOf ms n=i:=by
 obtain⟨h1,h2⟩:=List.getElem?_eq_some_iff.1 hm
 have:ms.findIdx? (fun m=>decide (m.1=n))=some i:=by
  rw[List.findIdx?_eq_some_iff_getElem]
  refine⟨h1,by rw[h2];simp[h],fun j hj=>?_⟩
  have:=hno j _ hj (GE yd)
  simpa using this
 rw[placeOf,this]
theorem place_miss{ms:List MemM}{n:Int}(hno:∀j m,j<ms.length→ms[j]?=some m→m.1≠n):placeOf ms n=-1:=by
 have:ms.findIdx? (fun m=>decide (m.1=n))=none:=by
  rw[List.findIdx?_eq_none_iff]
  intro m hm
  obtain⟨j,h1,h2⟩:=List.getElem_of_mem hm
  have:=hno j m h1 (by rw[GE h1,h2])
  simpa using this
 rw[placeOf,this]
theorem place_range(ms:List MemM)(n:Int):placeOf ms n=-1∨∃(i:Nat) (m:MemM),placeOf ms n=i∧i<ms.length∧ms[i]?=some m∧m.1=n:=by
 unfold placeOf
 cases h:ms.findIdx? (fun m=>decide (m.1=n)) with
 | none=>exact .inl rfl
 | some i=>
  obtain⟨h1,h2,_⟩:=List.findIdx?_eq_some_iff_getElem.1 h
  exact .inr ⟨i,ms[i],rfl,h1,GE h1,by simpa using h2⟩
section
variable {c:ChM} {a:Option Addr} {cap:Nat}
theorem place1_spec{b:Nat}(hb:Blk Fr w b (c.cells a cap))(h:RwIn memC 2 Fr w a c.ms)(hl:c.ms.length≤9223372036854775807)(n:Int):
  Tri Tryz.prog 143 [.int .i64 n,.pointer (some ⟨b,0,none⟩)] Fr w [] (fun v L=>v=.int .i64 (placeOf c.ms n)∧L=[]):=by
 refine TF 20 Tryz.func143 rfl ym tabOk rfl rfl ?_
 refine xdi ?_
 refine VC.loop (σ:=Nat) (fun i=>[(0,.int .i64 n),(1,pV b),(7,.slice a c.ms.length cap),(8,.int .i64 c.ms.length),(9,.int .i64 i)]) (fun _=>[]) (fun i=>i≤c.ms.length∧∀j m,j<i→c.ms[j]?=some m→m.1≠n) (fun i=>c.ms.length-i) 0
  ⟨Nat.zero_le _,fun j m hj=>by omega⟩ sbZ ER ?_
 rintro i ⟨hi,hno⟩
 refine xdf ?_
 refine CP rfl (fun h1=>CK ?_) (fun h1=>CX ?_)
 ·have hi2:i<c.ms.length:=by omega
  obtain⟨m,hm⟩:∃m,c.ms[i]?=some m:=⟨_,GE hi2⟩
  obtain⟨mb,mo,hma,ra,rc⟩:=RwIn.rd (X:=⟨Tryz.prog,tab,tabOk,20,Fr,w⟩) h hm
  subst hma
  refine zpp ?_
  refine xdk ?_
  refine VG (VO.alloc rfl fun xb=>?_)
  refine VG (VT (vs:=memC m) 0 rfl rfl rfl rfl (NR _) rfl rfl rfl ?_)
  refine xdf ?_
  refine CE rfl (fun h2=>?_) (fun h2=>CK ?_)
  ·refine xdf ?_
   exact CR (Ret.tmp 3 rfl rfl Imp.nil.ent ⟨by rw[place_hit hm h2 hno],rfl⟩)
  ·refine zor ?_
   exact⟨i+1,⟨hi2,fun j m' hj hm'=>by
    by_cases hji:j=i
    ·subst hji;rw[hm] at hm';cases hm';exact h2
    ·exact hno j m' yd hm'⟩,by dsimp only;omega,sbZ,Imp.nil.ent⟩
 ·obtain rfl:i=c.ms.length:=by omega
  refine xdf ?_
  exact CR (Ret.tmp 3 rfl rfl Imp.nil.ent ⟨by rw[place_miss hno],rfl⟩)
theorem places_spec:Tri Tryz.prog 100 [.agg (c.cells a cap).toArray] Fr w [] (fun v L=>∃b,v=fnV 143 [] [.pointer (some ⟨b,0,none⟩)]∧L=[pt b (c.cells a cap) chT]):=by
 refine TF 4 Tryz.func100 rfl ym tabOk rfl rfl ?_
 refine CS (CG (VG (VB (vs:=c.cells a cap) rfl fun b=>?_)))
 refine xdf ?_
 refine xdm ?_
 refine xdf ?_
 exact CR (Ret.tmp 2 rfl rfl ER ⟨b,rfl,rfl⟩)
def nodeB(n:Int):Bool:=decide (0≤n)&&decide (n<6)
theorem node_spec(n:Int):Tri Tryz.prog 144 [.int .i64 n] Fr w [] (fun v L=>v=.bool (nodeB n)∧L=[]):=by
 refine TF 9 Tryz.func144 rfl ym tabOk rfl rfl ?_
 refine xdf ?_
 by_cases h1:0≤n
 ·refine VG (VY 5 true rfl (DT h1) ?_)
  refine xdn ?_
  exact CR (Ret.bool 2 rfl rfl (by simp[nodeB,h1]) ER ⟨rfl,rfl⟩)
 ·refine VG (VY 5 false rfl (DF h1) ?_)
  refine xdn ?_
  exact CR (Ret.bool 2 rfl rfl (by simp[nodeB,h1]) ER ⟨rfl,rfl⟩)
def memOk(c:ChM)(i:Nat):Bool:=match c.ms[i]? with
 | some m=>nodeB m.1&&(decide (placeOf c.ms m.1=i)&&(decide (1≤m.2)&&decide (m.2≤c.epoch)))
 | none=>true
def headOk(c:ChM):Bool:=decide (1≤c.epoch)&&(decide (c.epoch≤1099511627776)&&(decide (1≤c.ms.length)&&decide (c.ms.length≤6)))
def drainOk(c:ChM):Bool:=decide (c.drain=-1)||decide (0≤placeOf c.ms c.drain)
def chOk(c:ChM):Bool:=headOk c&&((List.range c.ms.length).all (memOk c)&&drainOk c)
def chE(c:ChM):Int:=if chOk c then 0 else 2
theorem check_spec(h:RwIn memC 2 Fr w a c.ms)(hl:c.ms.length≤9223372036854775807):Tri Tryz.prog 101 [.agg (c.cells a cap).toArray] Fr w [] (fun v L=>v=.int .i64 (chE c)∧L=[]):=by
 refine TF 71 Tryz.func101 rfl ym tabOk rfl rfl ?_
 refine CS (CG (VG (VB (vs:=c.cells a cap) rfl fun b=>?_)))
 refine VG (VN (CS (CS ?_)))
 refine VC.meetS (σ:=Unit) (fun _=>[(1,pV b),(25,.bool (!headOk c))]) (fun _=>[pt b (c.cells a cap) chT]) (fun _=>True) ?_ ?_
 ·refine xdf ?_
  by_cases h1:c.epoch<1
  ·refine VG (VY 9 true rfl (DT h1) ?_)
   refine xdn ?_
   refine xdo ?_
   refine xdn ?_
   refine VG (VY 20 true rfl rfl ?_)
   refine xdn ?_
   exact xdp
  refine VG (VY 9 false rfl (DF h1) ?_)
  refine xdn ?_
  by_cases h2:1099511627776<c.epoch
  ·refine VG (VY 14 true rfl (DT h2) ?_)
   refine xdn ?_
   refine VG (VY 20 true rfl rfl ?_)
   refine xdn ?_
   exact xdp
  refine VG (VY 14 false rfl (DF h2) ?_)
  refine xdn ?_
  by_cases h3:(c.ms.length:Int)<1
  ·refine VG (VY 20 true rfl (DT h3) ?_)
   refine xdn ?_
   exact⟨(),trivial,SC rfl (Sub.bl rfl (by rw[headOk,DF (show ¬1≤c.ms.length by omega)];simp) (SN _)),ER⟩
  refine VG (VY 20 false rfl (DF h3) ?_)
  refine xdn ?_
  refine⟨(),trivial,SC rfl (Sub.bl rfl ?_ (SN _)),ER⟩
  have e1:decide (1≤c.epoch)=true:=DT yd
  have e2:decide (c.epoch≤1099511627776)=true:=DT yd
  have e3:decide (1≤c.ms.length)=true:=DT yd
  rw[headOk,e1,e2,e3]
  by_cases h4:6<(c.ms.length:Int)
  ·rw[DT h4,DF (show ¬c.ms.length≤6 by omega)];rfl
  ·rw[DF h4,DT (show c.ms.length≤6 by omega)];rfl
 rintro _ -
 refine VC.condN rfl (fun hh=>?_) (fun hh=>CK ?_)
 ·refine xdf ?_
  exact CR (Ret.tmp 2 rfl rfl Imp.nil.ent ⟨by rw[chE,chOk,hh];rfl,rfl⟩)
 refine zpq ?_
 refine xdr ?_
 rintro _ _ ⟨pb,rfl,rfl⟩
 refine xds ?_
 have hmv:∀(i:Nat),memOk c i=false→i<c.ms.length→chOk c=false:=fun i h1 h2=>by
  have:(List.range c.ms.length).all (memOk c)=false:=by
   rw[List.all_eq_false];exact⟨i,List.mem_range.2 h2,by rw[h1];simp⟩
  rw[chOk,this];simp
 refine VC.loop (σ:=Nat) (fun i=>[(1,pV b),(3,fnV 143 [] [.pointer (some ⟨pb,0,none⟩)]),(29,.slice a c.ms.length cap),(30,.int .i64 c.ms.length),(31,.int .i64 i)]) (fun _=>[pt pb (c.cells a cap) chT,pt b (c.cells a cap) chT]) (fun i=>i≤c.ms.length∧(List.range i).all (memOk c)=true) (fun i=>c.ms.length-i) 0
  ⟨Nat.zero_le _,rfl⟩ sbZ ER ?_
 rintro i ⟨hi,hall⟩
 refine xdf ?_
 refine CP rfl (fun h1=>CK ?_) (fun h1=>CX ?_)
 ·have hi2:i<c.ms.length:=by omega
  obtain⟨m,hm⟩:∃m,c.ms[i]?=some m:=⟨_,GE hi2⟩
  have hmo:memOk c i=(nodeB m.1&&(decide (placeOf c.ms m.1=i)&&(decide (1≤m.2)&&decide (m.2≤c.epoch)))):=by rw[memOk,hm]
  obtain⟨mb,mo,hma,ra,rc⟩:=RwIn.rd (X:=⟨Tryz.prog,tab,tabOk,71,Fr,w⟩) h hm
  subst hma
  refine zpp ?_
  refine xdk ?_
  refine VG (VO.alloc rfl fun xb=>?_)
  refine VG (VT (vs:=memC m) 0 rfl rfl rfl rfl (NR _) rfl rfl rfl (VG (VN ?_)))
  refine CS ?_
  refine VC.meetS (σ:=Unit) (fun _=>[(1,pV b),(3,fnV 143 [] [.pointer (some ⟨pb,0,none⟩)]),(29,.slice (some ⟨mb,mo,none⟩) c.ms.length cap),(30,.int .i64 c.ms.length),(31,.int .i64 i),(59,.bool (!memOk c i))]) (fun _=>[pt pb (c.cells (some ⟨mb,mo,none⟩) cap) chT,pt b (c.cells (some ⟨mb,mo,none⟩) cap) chT]) (fun _=>True) ?_ ?_
  ·have S3:∀{E:Env} {t:Bool},Vg.look E 59=some (.bool t)→t=(!memOk c i)→Vg.look E 1=some (.pointer (some ⟨b,0,none⟩))→Vg.look E 3=some (fnV 143 [] [.pointer (some ⟨pb,0,none⟩)])→Vg.look E 29=some (.slice (some ⟨mb,mo,none⟩) c.ms.length cap)→Vg.look E 30=some (.int .i64 c.ms.length)→Vg.look E 31=some (.int .i64 i) →
     Sub [(1,pV b),(3,fnV 143 [] [.pointer (some ⟨pb,0,none⟩)]),(29,.slice (some ⟨mb,mo,none⟩) c.ms.length cap),(30,.int .i64 c.ms.length),(31,.int .i64 i),(59,.bool (!memOk c i))] E:=fun h0 h1 h2 h3 h4 h5 h6=>SC h2 (SC h3 (SC h4 (SC h5 (SC h6 (Sub.bl h0 h1 (SN _))))))
   refine xdt ?_
   refine VG (VO.callV (fun Fr w=>node_spec Fr w m.1) rfl ?_)
   refine xdt ?_
   cases hn:nodeB m.1 with
   | false=>
    refine xdu ?_
    refine xdv ?_
    refine VG (VY 48 true rfl rfl ?_)
    refine xdv ?_
    refine VG (VY 53 true rfl rfl ?_)
    refine xdv ?_
    exact⟨(),trivial,S3 rfl (by rw[hmo,hn];rfl) rfl rfl rfl rfl rfl,(pkZ [1,1]).ent⟩
   | true=>
   refine xdw ?_
   refine xdv ?_
   refine VG (VO.callFV (u:=.int .i64 (placeOf c.ms m.1)) rfl (fun Fr w hF hs hS=>place1_spec Fr w (hS.blk 1 rfl) (h.of hF hs) hl m.1) rfl ?_)
   refine xdv ?_
   by_cases h2:placeOf c.ms m.1=i
   ·refine VG (VY 48 false rfl yj ?_)
    refine xdv ?_
    by_cases h3:m.2<1
    ·refine VG (VY 53 true rfl (DT h3) ?_)
     refine xdv ?_
     exact⟨(),trivial,S3 rfl (by rw[hmo,DF (show ¬1≤m.2 by omega)];simp) rfl rfl rfl rfl rfl,(pkZ [1,1]).ent⟩
    refine VG (VY 53 false rfl (DF h3) ?_)
    refine xdv ?_
    exact⟨(),trivial,S3 rfl (by
     rw[hmo,hn,DT h2,DT (show 1≤m.2 by omega)]
     by_cases h4:c.epoch<m.2
     ·rw[DT h4,DF (show ¬m.2≤c.epoch by omega)];rfl
     ·rw[DF h4,DT (show m.2≤c.epoch by omega)];rfl) rfl rfl rfl rfl rfl,(pkZ [1,1]).ent⟩
   ·refine VG (VY 48 true rfl yj ?_)
    refine xdv ?_
    refine VG (VY 53 true rfl rfl ?_)
    refine xdv ?_
    exact⟨(),trivial,S3 rfl (by rw[hmo,DF h2];simp) rfl rfl rfl rfl rfl,(pkZ [1,1]).ent⟩
  rintro _ -
  refine VC.condN rfl (fun hb=>?_) (fun hb=>CK ?_)
  ·refine xdf ?_
   exact CR (Ret.tmp 2 rfl rfl Imp.nil.ent ⟨by rw[chE,hmv i hb hi2];rfl,rfl⟩)
  ·refine zor ?_
   exact⟨i+1,⟨hi2,by rw[List.range_succ,List.all_append,hall];simp[hb]⟩,by dsimp only;omega,sbZ,ER⟩
 ·obtain rfl:i=c.ms.length:=by omega
  have hce:chE c=if drainOk c then 0 else 2:=by rw[chE,chOk,hh,hall];simp
  refine xds ?_
  by_cases hd:c.drain=-1
  ·refine VG (VY 64 false rfl (by simp[hd]) ?_)
   refine xdx ?_
   refine xdy ?_
   refine xdf ?_
   exact CR (Ret.tmp 2 rfl rfl Imp.nil.ent ⟨by rw[hce,drainOk,DT hd];rfl,rfl⟩)
  ·refine VG (VY 64 true rfl (by simp[hd]) ?_)
   refine xdx ?_
   refine VG (VO.callFV (u:=.int .i64 (placeOf c.ms c.drain)) rfl (fun Fr w hF hs hS=>place1_spec Fr w (hS.blk 0 rfl) (h.of hF hs) hl c.drain) rfl ?_)
   refine xdx ?_
   refine CP rfl (fun h5=>?_) (fun h5=>CK ?_)
   ·refine xdf ?_
    exact CR (Ret.tmp 2 rfl rfl Imp.nil.ent ⟨by rw[hce,drainOk,DF hd,DF yd];rfl,rfl⟩)
   ·refine xdf ?_
    exact CR (Ret.tmp 2 rfl rfl Imp.nil.ent ⟨by rw[hce,drainOk,DT (show 0≤placeOf c.ms c.drain by omega)];simp,rfl⟩)
def memAt(c:ChM)(i:Int):Int:=if chOk c∧0≤i∧i<c.ms.length then ((c.ms[i.toNat]?).getD (0,0)).1 else -1
theorem member_spec(h:RwIn memC 2 Fr w a c.ms)(hl:c.ms.length≤9223372036854775807)(i:Int):Tri Tryz.prog 227 [.agg (c.cells a cap).toArray,.int .i64 i] Fr w [] (fun v L=>v=.int .i64 (memAt c i)∧L=[]):=by
 refine TF 25 Tryz.func227 rfl ym tabOk rfl rfl ?_
 refine CS (CG (VG (VB (vs:=c.cells a cap) rfl fun b=>?_)))
 refine zpq ?_
 refine VG (VV (fun Fr w hF hs hS=>check_spec Fr w (h.of hF hs) hl) rfl ?_)
 refine xdf ?_
 cases hc:chOk c with
 | false=>
  refine VG (VY 8 true rfl yq ?_)
  refine xdn ?_
  refine VG (VY 12 true rfl rfl ?_)
  refine zpa ?_
  exact CR (Ret.tmp 4 rfl rfl Imp.nil.ent ⟨by rw[memAt,if_neg (by rw[hc];simp)],rfl⟩)
 | true=>
 refine VG (VY 8 false rfl yq ?_)
 refine xdn ?_
 by_cases h1:i<0
 ·refine VG (VY 12 true rfl (DT h1) ?_)
  refine zpa ?_
  exact CR (Ret.tmp 4 rfl rfl Imp.nil.ent ⟨by rw[memAt,if_neg yd],rfl⟩)
 refine VG (VY 12 false rfl (DF h1) ?_)
 refine xdn ?_
 refine CP rfl (fun h2=>?_) (fun h2=>CK ?_)
 ·refine xdf ?_
  exact CR (Ret.tmp 4 rfl rfl Imp.nil.ent ⟨by rw[memAt,if_neg yd],rfl⟩)
 ·obtain⟨k,rfl⟩:∃k:Nat,i=k:=⟨i.toNat,by omega⟩
  have hk:k<c.ms.length:=by omega
  obtain⟨m,hm⟩:∃m,c.ms[k]?=some m:=⟨_,GE hk⟩
  obtain⟨mb,mo,hma,ra,rc⟩:=RwIn.rd (X:=⟨Tryz.prog,tab,tabOk,25,Fr,w⟩) h hm
  subst hma
  refine xdf ?_
  refine xea ?_
  refine xdf ?_
  refine xeb ?_
  refine xdf ?_
  exact CR (Ret.tmp 4 rfl rfl Imp.nil.ent ⟨by rw[memAt,if_pos ⟨hc,by omega,by omega⟩,Int.toNat_natCast,hm];rfl,rfl⟩)
def headOf(c:ChM):Int:=memAt c 0
def tailOf(c:ChM):Int:=memAt c (c.ms.length-1)
def nextOf(c:ChM)(n:Int):Int:=if placeOf c.ms n<0 then -1 else memAt c (placeOf c.ms n+1)
def prevOf(c:ChM)(n:Int):Int:=memAt c (placeOf c.ms n-1)
def sinceOf(c:ChM)(n:Int):Int×Bool:=if chOk c∧0≤placeOf c.ms n then (((c.ms[(placeOf c.ms n).toNat]?).getD (0,0)).2,true) else (0,false)
theorem head_spec(h:RwIn memC 2 Fr w a c.ms)(hl:c.ms.length≤9223372036854775807):Tri Tryz.prog 162 [.agg (c.cells a cap).toArray] Fr w [] (fun v L=>v=.int .i64 (headOf c)∧L=[]):=by
 refine TF 5 Tryz.func162 rfl ym tabOk rfl rfl ?_
 refine CS (CG (VG (VB (vs:=c.cells a cap) rfl fun b=>?_)))
 refine zpq ?_
 refine VG (VV (fun Fr w hF hs hS=>member_spec Fr w (h.of hF hs) hl 0) rfl ?_)
 refine xdf ?_
 exact xec
theorem tail_spec(h:RwIn memC 2 Fr w a c.ms)(hl:c.ms.length≤9223372036854775807):Tri Tryz.prog 220 [.agg (c.cells a cap).toArray] Fr w [] (fun v L=>v=.int .i64 (tailOf c)∧L=[]):=by
 refine TF 9 Tryz.func220 rfl ym tabOk rfl rfl ?_
 refine CS (CG (VG (VB (vs:=c.cells a cap) rfl fun b=>?_)))
 refine zpq ?_
 refine xdf ?_
 refine xed ?_
 refine VG (VV (fun Fr w hF hs hS=>member_spec Fr w (h.of hF hs) hl (c.ms.length-1)) rfl ?_)
 refine xdf ?_
 exact xec
theorem next_spec(h:RwIn memC 2 Fr w a c.ms)(hl:c.ms.length≤1000000)(n:Int):Tri Tryz.prog 237 [.agg (c.cells a cap).toArray,.int .i64 n] Fr w [] (fun v L=>v=.int .i64 (nextOf c n)∧L=[]):=by
 have hp:=place_range c.ms n
 refine TF 16 Tryz.func237 rfl ym tabOk rfl rfl ?_
 refine CS (CG (VG (VB (vs:=c.cells a cap) rfl fun b=>?_)))
 refine zpq ?_
 refine xdr ?_
 rintro _ _ ⟨pb,rfl,rfl⟩
 refine xdf ?_
 refine xee ?_
 refine xdf ?_
 refine CP rfl (fun h1=>?_) (fun h1=>CK ?_)
 ·refine xdf ?_
  exact CR (Ret.tmp 4 rfl rfl Imp.nil.ent ⟨by rw[nextOf,if_pos h1],rfl⟩)
 ·have hpl:placeOf c.ms n<1000000:=by
   rcases hp with hp | ⟨i,m,h2,h3,_⟩<;>omega
  refine xdf ?_
  refine xef ?_
  refine zoo ?_
  refine VG (VV (fun Fr w hF hs hS=>member_spec Fr w (h.of hF hs) yd (placeOf c.ms n+1)) rfl ?_)
  refine xdf ?_
  exact CR (Ret.tmp 4 rfl rfl Imp.nil.ent ⟨by rw[nextOf,if_neg h1],rfl⟩)
theorem prev_spec(h:RwIn memC 2 Fr w a c.ms)(hl:c.ms.length≤1000000)(n:Int):Tri Tryz.prog 253 [.agg (c.cells a cap).toArray,.int .i64 n] Fr w [] (fun v L=>v=.int .i64 (prevOf c n)∧L=[]):=by
 have hp:=place_range c.ms n
 have hpl:-1≤placeOf c.ms n∧placeOf c.ms n<1000000:=by
  rcases hp with hp | ⟨i,m,h2,h3,_⟩<;>omega
 refine TF 12 Tryz.func253 rfl ym tabOk rfl rfl ?_
 refine CS (CG (VG (VB (vs:=c.cells a cap) rfl fun b=>VG ?_)))
 refine xeg ?_
 refine CS (CD (.take 0 (.take 1 (.take 3 (.only 2 (.only 4 (.take 5 (.only 6 (.take 7 .nil)))))))) ym yr ?_)
 refine AG (VA.ldA 0 (c.cells a cap) rfl rfl rfl rfl rfl ?_)
 refine AG (VA.ldA 0 (c.cells a cap) rfl rfl rfl rfl rfl ?_)
 refine xeh ?_
 refine AG (AO (OC (Lc:=[]) (R:=fun v L=>∃b,v=fnV 143 [] [.pointer (some ⟨b,0,none⟩)]∧L=[pt b (c.cells a cap) chT]) rfl (.refl _) (fun Fr w hF hs hS=>places_spec Fr w)) rfl ?_ ?_)
 ·rintro _ _ ⟨_,⟨pb,rfl,rfl⟩,rfl⟩
  exact yu
 rintro _ _ ⟨_,⟨pb,rfl,rfl⟩,rfl⟩
 refine AG (VA.callFV (u:=.int .i64 (placeOf c.ms n)) rfl (fun Fr w hF hs hS=>place1_spec Fr w (hS.blk 0 rfl) (h.of hF hs) yd n) rfl rfl yu ?_)
 refine xei ?_
 refine AG (AR (fun Fr w hF hs hS=>member_spec Fr w (h.of hF hs) yd (placeOf c.ms n-1)) rfl rfl yu ?_)
 refine xeh ?_
 exact CR (Ret.tmp 4 rfl rfl Imp.nil.ent ⟨rfl,rfl⟩)
theorem since_spec(h:RwIn memC 2 Fr w a c.ms)(hl:c.ms.length≤1000000)(n:Int):Tri Tryz.prog 70 [.agg (c.cells a cap).toArray,.int .i64 n] Fr w [] (fun v L=>v=.tuple #[.int .i64 (sinceOf c n).1,.bool (sinceOf c n).2]∧L=[]):=by
 have hp:=place_range c.ms n
 refine TF 24 Tryz.func70 rfl ym tabOk rfl rfl ?_
 refine CS (CG (VG (VB (vs:=c.cells a cap) rfl fun b=>?_)))
 refine zpq ?_
 refine xdr ?_
 rintro _ _ ⟨pb,rfl,rfl⟩
 refine xdf ?_
 refine xee ?_
 refine xdf ?_
 refine xef ?_
 refine VG (VV (fun Fr w hF hs hS=>check_spec Fr w (h.of hF hs) yd) rfl ?_)
 refine xdf ?_
 cases hc:chOk c with
 | false=>
  refine VG (VY 14 true rfl yq ?_)
  refine zpa ?_
  exact CR (Ret.tmp2 4 5 rfl rfl rfl Imp.nil.ent ⟨by rw[sinceOf,if_neg (by rw[hc];simp)],rfl⟩)
 | true=>
 refine VG (VY 14 false rfl yq ?_)
 refine xdn ?_
 refine CP rfl (fun h1=>?_) (fun h1=>CK ?_)
 ·refine xdf ?_
  exact CR (Ret.tmp2 4 5 rfl rfl rfl Imp.nil.ent ⟨by rw[sinceOf,if_neg yd],rfl⟩)
 ·rcases hp with hp | ⟨k,m,h2,h3,h4,h5⟩
  ·omega
  obtain⟨mb,mo,hma,ra,rc⟩:=RwIn.rd (X:=⟨Tryz.prog,tab,tabOk,24,Fr,w⟩) h h4
  subst hma
  refine xds ?_
  refine VG (VI (light_idx k rfl rfl rfl rfl rfl h2 h3) ?_)
  refine xds ?_
  refine VG (VO.load rfl rfl (rc _ _ 1 _ rfl rfl) ?_)
  refine xdf ?_
  exact CR (Ret.tmp2 4 5 rfl rfl rfl Imp.nil.ent ⟨by rw[sinceOf,if_pos ⟨hc,by omega⟩,h2,Int.toNat_natCast,h4];rfl,rfl⟩)
end
end Ch
end Go.Proofs.YtmghpgpfeabghaaGreat
