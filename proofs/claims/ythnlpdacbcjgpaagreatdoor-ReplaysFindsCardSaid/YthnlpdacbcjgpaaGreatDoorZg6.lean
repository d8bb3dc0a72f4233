/- Texts of the proof, put together and shortened. No condition. -/
import Derived.Test.YthnlpdacbcjgpaaGreatDoorZg5
set_option maxRecDepth 100000
set_option maxHeartbeats 16000000
set_option linter.unusedVariables false
set_option linter.unusedSectionVars false
set_option linter.unusedSimpArgs false
namespace Go.Proofs.YthnlpdacbcjgpaaGreatDoor
variable (Fr : Nat → Prop) (w : World)
namespace Vg
open Go Go.ChangeShapes Go.WideShapes Go.ChangeAt Go.RowKit
section
variable {H:Type} (enc:TypeId×Value→H) (P:Program) (w:World) (base:Nat) (spare:Nat→Bool) (held:Bool)
def uh(t:TypeId)(v:Value):Prop:=∃fuel x,DataW.trod enc P w base spare held fuel t [v]=some x
def qS(rec:TypeId→Option (List TypeId)):List Field→Nat→Option (List TypeId)
 | [],_=>some []
 | f::fs,off=>if f.offset=off then match rec f.type with
   | some l=>if P.cellsOf f.type=l.length then (qS rec fs (off+l.length)).map (l ++ ·) else none
   | none=>none
  else none
def sf:Nat→TypeId→Option (List TypeId)
 | 0,_=>none
 | n+1,t=>match P.underlying t with
  | some (.struct fs)=>match qS P (sf n) fs.toList 0 with
   | some l=>if P.cellsOf t=l.length then some l else none
   | none=>none
  | some (.int _)=>some [t]
  | some .bool=>some [t]
  | some .string=>some [t]
  | some (.slice _)=>some [t]
  | some (.pointer _)=>some [t]
  | _=>none
end
section
variable {H:Type} {enc:TypeId×Value→H} {P:Program} {w:World} {base:Nat} {spare:Nat→Bool} {held:Bool}
theorem uh.int{t:TypeId}{v:Value}{k:IntKind}(h:uh enc P w base spare held t v)(ht:P.underlying t=some (.int k)):∃n,v=.int k n∧(Lit.int k n).wf=true:=by
 obtain⟨fuel,x,h⟩:=h
 obtain⟨n,e,_,hw⟩:=DataW.trod_int ht h
 exact⟨n,(List.cons.inj e).1,hw⟩
theorem uh.str{t:TypeId}{v:Value}(h:uh enc P w base spare held t v)(ht:P.underlying t=some .string):∃s,v=.string s∧s.size≤maxLen:=by
 obtain⟨fuel,x,h⟩:=h
 obtain⟨n,e,_,hs⟩:=DataW.trod_string ht h
 exact⟨n,(List.cons.inj e).1,hs⟩
theorem zj{rec:TypeId→Option (List TypeId)}{cs:List Value}{n:Nat}
  (hrec:∀(t:TypeId) (ls:List TypeId),rec t=some ls→∀(cs:List Value) x,DataW.trod enc P w base spare held n t cs=some x→cs.length=ls.length∧∀(i:Nat) (v:Value) (u:TypeId),cs[i]?=some v→ls[i]?=some u→uh enc P w base spare held u v):
  ∀(fs:List Field) (off:Nat) (ls:List TypeId),qS P rec fs off=some ls→(∀f∈fs,∃y,DataW.trod enc P w base spare held n f.type ((cs.drop f.offset).take (P.cellsOf f.type))=some y) →
   ∀(i:Nat) (v:Value) (u:TypeId),cs[off+i]?=some v→ls[i]?=some u→uh enc P w base spare held u v
 | [],off,ls,h,_,i,v,u,_,hu=>by
  obtain rfl:ls=[]:=by simpa[qS] using h.symm
  simp at hu
 | f::fs,off,ls,h,hf,i,v,u,hv,hu=>by
  simp only[qS] at h
  split at h
  ·rename_i hoff
   split at h
   ·rename_i l hl
    split at h
    ·rename_i hc
     cases hr:qS P rec fs (off+l.length) with
     | none=>rw[hr] at h;cases h
     | some ls'=>
      rw[hr] at h
      obtain rfl:l++ls'=ls:=by simpa using h
      obtain⟨y,hy⟩:=hf f yf
      obtain⟨h1,h2⟩:=hrec f.type l hl _ y hy
      by_cases hi:i<l.length
      ·refine h2 i v u ?_ (by rwa[List.getElem?_append_left hi] at hu)
       rw[List.getElem?_take,if_pos yd,List.getElem?_drop,hoff];exact hv
      ·rw[List.getElem?_append_right yd] at hu
       refine zj hrec fs (off+l.length) ls' hr (fun g hg=>hf g (by simp[hg])) (i-l.length) v u ?_ hu
       rw[←hv];congr 1;omega
    ·cases h
   ·cases h
  ·cases h
theorem wC:∀(n:Nat) (t:TypeId) (ls:List TypeId),sf P n t=some ls→∀(fuel:Nat) (cs:List Value) x,DataW.trod enc P w base spare held fuel t cs=some x →
  cs.length=ls.length∧∀(i:Nat) (v:Value) (u:TypeId),cs[i]?=some v→ls[i]?=some u→uh enc P w base spare held u v
 | 0,t,ls,h,_,_,_,_=>by simp[sf] at h
 | n+1,t,ls,h,fuel,cs,x,hx=>by
  have one:∀v,cs=[v]→ls=[t]→cs.length=ls.length∧∀(i:Nat) (v:Value) (u:TypeId),cs[i]?=some v→ls[i]?=some u→uh enc P w base spare held u v:=by
   intro v h1 h2
   subst h1;subst h2
   refine⟨rfl,fun i v' u hv hu=>?_⟩
   match i,hv,hu with
   | 0,hv,hu=>
    obtain rfl:=Z3 hv
    obtain rfl:=Z3 hu
    exact⟨fuel,x,hx⟩
   | i+1,hv,_=>cases hv
  simp only[sf] at h
  split at h
  ·rename_i fs ht
   cases hr:qS P (sf P n) fs.toList 0 with
   | none=>rw[hr] at h;cases h
   | some l=>
    rw[hr] at h
    dsimp only at h
    split at h
    ·rename_i hc
     obtain rfl:=Z3 h
     obtain⟨xs,m,_,_,hl,hlen,hfs⟩:=DataW.trod_struct ht hx
     refine⟨hl.trans hc,fun i v u hv hu=>?_⟩
     refine zj (n:=m) (cs:=cs) (fun t ls h1 cs x h2=>wC n t ls h1 m cs x h2) fs.toList 0 l hr (fun f hf=>?_) i v u (by rwa[ZQ]) hu
     obtain⟨j,hj⟩:=List.getElem?_of_mem hf
     have hj':fs[j]?=some f:=by simpa using hj
     have hjl:j<xs.length:=by
      have:=(Array.getElem?_eq_some_iff.1 hj').1
      omega
     exact⟨xs[j],by rw[hfs j f hj',GE hjl]⟩
    ·cases h
  ·rename_i k ht
   obtain⟨a,e,_⟩:=DataW.trod_int ht hx
   exact PD
  ·rename_i ht
   obtain⟨a,e,_⟩:=DataW.trod_bool ht hx
   exact PD
  ·rename_i ht
   obtain⟨a,e,_⟩:=DataW.trod_string ht hx
   exact PD
  ·rename_i e ht
   rcases DataW.trod_slice ht hx with ⟨e,_⟩ | ⟨_,_,_,_,_,_,_,e,_⟩
   ·exact PD
   ·exact PD
  ·rename_i e ht
   rcases DataW.trod_pointer ht hx with ⟨e,_⟩ | ⟨_,_,_,_,_,e,_⟩
   ·exact PD
   ·exact PD
  ·cases h
theorem wD{w:World}{a:Addr}{v:Value}(h:w.cell? a=some v):a.block<w.heap.size:=by
 unfold World.cell? at h
 cases hb:w.heap[a.block]? with
 | none=>simp[hb] at h
 | some o=>exact(Array.getElem?_eq_some_iff.1 hb).1
theorem zk{α:Type}(cells:α→List Value)(φ:α→Prop){t e:TypeId}{n:Nat}{ls:List TypeId}(ht:P.underlying t=some (.slice e))(hf:sf P n e=some ls)(hce:P.cellsOf e=ls.length)(hpos:0<ls.length)
  (hrow:∀cs,cs.length=ls.length→(∀(i:Nat) (v:Value) (u:TypeId),cs[i]?=some v→ls[i]?=some u→uh enc P w base spare held u v)→∃x,cs=cells x∧φ x)
  {fuel:Nat} {v:Value} {x:DataW H×List MemPlace} (h:DataW.trod enc P w base spare held fuel t [v]=some x):
  ∃(a:Option Addr) (tc:Nat) (l:List α),v=.slice a l.length tc∧(l.length≤tc∧l.length≤maxLen)∧(∀x∈l,φ x)∧(l≠[]→∃b off,a=some ⟨b,off,none⟩∧b<w.heap.size∧∀i x,l[i]?=some x→∀j v,(cells x)[j]?=some v→w.cell? ⟨b,off+i*ls.length+j,none⟩=some v):=by
 rcases Go.Deep.open_slice ht h with ⟨e,_⟩ | ⟨a',len,cap,m,n',D,Pl,e,_,hle,hcm,hm,_,hx⟩
 ·exact⟨none,0,[],(List.cons.inj e).1,⟨ZO _,ZO _⟩,fun x hx=>by simp at hx,fun h=>absurd Z h⟩
 ·have hlm:len≤m:=by rw[hm];split<;>omega
  rw[hce] at hx
  have key:∀i,i<len→∃y:α,φ y∧(cells y).length=ls.length∧∀j v,(cells y)[j]?=some v→w.cell? ((a'.add (i*ls.length)).add j)=some v:=by
   intro i hi
   obtain⟨cs',h1,h2⟩:=hx i yd
   obtain⟨_,hl,hc⟩:=World.cells?_some h1
   obtain⟨h3,h4⟩:=wC n _ ls hf _ _ _ h2
   obtain⟨y,rfl,hy⟩:=hrow cs' h3 h4
   refine⟨y,hy,h3,fun j v hv=>?_⟩
   have hj:j<ls.length:=by have:=(ZP.1 hv).1;omega
   rw[hc j hj,hv]
  have build:∀k,k≤len→∃l:List α,l.length=k∧∀i x,l[i]?=some x→φ x∧(cells x).length=ls.length∧∀j v,(cells x)[j]?=some v→w.cell? ((a'.add (i*ls.length)).add j)=some v:=by
   intro k
   induction k with
   | zero=>intro _;exact⟨[],rfl,fun i x hx=>by simp at hx⟩
   | succ k ih=>
    intro hk
    obtain⟨l,hl,hall⟩:=ih yd
    obtain⟨y,hy⟩:=key k yd
    refine⟨l ++ [y],by simp[hl],fun i x hx=>?_⟩
    by_cases hi:i<l.length
    ·rw[List.getElem?_append_left hi] at hx;exact hall i x hx
    ·rw[List.getElem?_append_right yd] at hx
     have hi2:i=k:=by
      have:=(ZP.1 hx).1
      simp at this;omega
     subst hi2
     rw[hl,Nat.sub_self] at hx
     obtain rfl:=Z3 hx
     exact hy
  obtain⟨l,hl,hall⟩:=build len (NR _)
  subst hl
  refine⟨some a',cap,l,(List.cons.inj e).1,⟨by omega,by omega⟩,fun x hx=>?_,fun hne=>?_⟩
  ·obtain⟨i,hi⟩:=List.getElem?_of_mem hx
   exact(hall i x hi).1
  obtain⟨ab,ao,asp⟩:=a'
  cases l with
  | nil=>exact absurd rfl hne
  | cons y l=>
   obtain⟨_,h5,h6⟩:=hall 0 y rfl
   have h0:=h6 0 _ (GE yd)
   have hsp:asp=none:=by simpa[Addr.add] using World.cell?_spot h0
   subst hsp
   refine⟨ab,ao,Z,by simpa[Addr.add] using wD h0,fun i x hx j v hv=>?_⟩
   have:=(hall i x hx).2.2 j v hv
   rwa[Addr.add_mid,Addr.add_mid] at this
end
end Vg
namespace Adm
open Go Vg Go.ChangeShapes Go.WideShapes Go.ChangeAt Go.RowKit Sched Conf
theorem Ke:sf Tryz.prog 3 24=some [3,3,3,22,3,3,3,3,3,3,3,3]:=by kernel_rfl
theorem ON:sf Tryz.prog 1 3=some [3]:=by kernel_rfl
theorem uw{a:Int}(w:(Lit.int .u8 a).wf=true):0≤a∧a≤255:=by
 simp[Lit.wf,IntKind.min,IntKind.max,IntKind.signed,IntKind.bits] at w;omega
section
variable {H:Type} {enc:TypeId×Value→H} {w:World} {base:Nat} {spare:Nat→Bool} {held:Bool}
theorem HR{v:Value}(h:uh enc Tryz.prog w base spare held 22 v):∃a tc l,v=.slice a (l:List Int).length tc∧l.length≤tc∧ee (fun b=>b<w.heap.size) w a l:=by
 obtain⟨fuel,x,hf⟩:=h
 obtain⟨a,tc,l,e,h1,h2,h3⟩:=zk (α:=Int) (fun x=>[.int .i64 x]) (fun _=>True) Tryz.underlying22 ON yn yp (fun cs hl hc=>by
  match cs,hl,hc with
  | [c],_,hc=>
   obtain⟨n,rfl,_⟩:=(hc 0 c _ rfl rfl).int Tryz.underlying3
   exact⟨n,Z,trivial⟩) hf
 refine⟨a,tc,l,e,h1.1,⟨fun hne=>?_⟩⟩
 obtain⟨b,off,h4,h5,h6⟩:=h3 hne
 refine⟨b,off,h4,h5,fun i v hv=>?_⟩
 have:=h6 i v hv 0 _ rfl
 simpa using this
theorem HS{cs:List Value}(hl:cs.length=12)(h3:∀(i:Nat) (v:Value) (u:TypeId),cs[i]?=some v→([3,3,3,22,3,3,3,3,3,3,3,3]:List TypeId)[i]?=some u→uh enc Tryz.prog w base spare held u v):
  ∃(c:aV) (a:Option Addr) (cap:Nat),cs=c.cells a cap∧c.qs.length≤cap∧ee (fun b=>b<w.heap.size) w a c.qs:=by
 match cs,hl,h3 with
 | [c0,c1,c2,c3,c4,c5,c6,c7,c8,c9,c10,c11],_,h3=>
 obtain⟨n0,rfl,_⟩:=(h3 0 c0 _ rfl rfl).int Tryz.underlying3
 obtain⟨n1,rfl,_⟩:=(h3 1 c1 _ rfl rfl).int Tryz.underlying3
 obtain⟨n2,rfl,_⟩:=(h3 2 c2 _ rfl rfl).int Tryz.underlying3
 obtain⟨a3,cap3,l3,rfl,hc3,hq3⟩:=HR (h3 3 c3 _ rfl rfl)
 obtain⟨n4,rfl,_⟩:=(h3 4 c4 _ rfl rfl).int Tryz.underlying3
 obtain⟨n5,rfl,_⟩:=(h3 5 c5 _ rfl rfl).int Tryz.underlying3
 obtain⟨n6,rfl,_⟩:=(h3 6 c6 _ rfl rfl).int Tryz.underlying3
 obtain⟨n7,rfl,_⟩:=(h3 7 c7 _ rfl rfl).int Tryz.underlying3
 obtain⟨n8,rfl,_⟩:=(h3 8 c8 _ rfl rfl).int Tryz.underlying3
 obtain⟨n9,rfl,_⟩:=(h3 9 c9 _ rfl rfl).int Tryz.underlying3
 obtain⟨n10,rfl,_⟩:=(h3 10 c10 _ rfl rfl).int Tryz.underlying3
 obtain⟨n11,rfl,_⟩:=(h3 11 c11 _ rfl rfl).int Tryz.underlying3
 exact⟨⟨n0,n1,n2,l3,n4,n5,n6,n7,n8,n9,n10,n11⟩,a3,cap3,Z,hc3,hq3⟩
theorem E'{P:Program}{r:Reach}{t:TypeId}{v:Value}{fs:Array Field}(ht:P.underlying t=some (.struct fs))(h:Value.okWide P w r base t v):∃cs:List Value,v=.agg cs.toArray:=by
 unfold Value.okWide at h
 rw[ht] at h
 obtain⟨cs,h,_⟩:=h
 exact⟨cs.toList,by rw[h]⟩
theorem HT{base0:Nat}{v:Value}{d:DataW H}{ps:List MemPlace}(hval:Value.okWide Tryz.prog w .any base0 24 v)(h:DataW.Trod enc Tryz.prog w base spare held 24 v d ps):
  ∃(c:aV) (a:Option Addr) (cap:Nat),v=.agg (c.cells a cap).toArray∧c.qs.length≤cap∧ee (fun b=>b<w.heap.size) w a c.qs:=by
 obtain⟨cs,rfl⟩:=E' Tryz.underlying24 hval
 obtain⟨fuel,hf⟩:=h
 obtain⟨h1,h2⟩:=wC 3 _ _ Ke fuel cs _ hf
 obtain⟨c,a,cap,rfl,h3,h4⟩:=HS h1 h2
 exact⟨c,a,cap,Z,h3,h4⟩
end
end Adm
namespace Vg
open Go Go.ChangeShapes Go.WideShapes Go.ChangeAt Go.RowKit
theorem sg{P:Program}{W:World}{x:String×DataW Unit}{l:List (String×DataW Unit)}(h:laidMet P (x::l) W):laidMet P l W:=by
 obtain⟨ps,⟨g,t,cs,fuel,p,q,_,_,_,_,hr,rfl⟩,hn,hall⟩:=h
 exact⟨q,hr,(Z8.1 hn).2.1,fun b off h=>hall b off (ZY.2 (.inr h))⟩
theorem Kf{P:Program}{W:World}{laid:List (String×DataW Unit)}{nm:String}{k:IntKind}{zs:List Int}{g:Nat}{t e:TypeId}{n:Nat}(i:Nat)(hh:(laid.all fun x=>x.2.handleName?.isNone)=true)
  (hm:laid[i]?=some (nm,Lib.tabData k zs)) (hg:P.globalNamed nm=some g) (hty:(P.globals[g]?).map (·.type)=some t) (ht:P.underlying t=some (.array n e)) (he:P.underlying e=some (.int k)) (hce:P.cellsOf e=1) (hct:P.cellsOf t=n)
  (h:laidMetH P laid W):uO P (fun b=>b<W.heap.size) W nm k zs:=by
 rw[MakeChecks.laidMetH_plain _ _ _ hh] at h
 have key:∀{l:List (String×DataW Unit)} {i:Nat},laidMet P l W→l[i]?=some (nm,Lib.tabData k zs)→Lib.TabIs P W nm k zs:=by
  intro l
  induction l with
  | nil=>intro i _ hm;simp at hm
  | cons x l ih=>
   intro i hv hm
   cases i with
   | zero=>
    obtain rfl:=Z3 hm
    exact Lib.tabIs_of_head hg hty ht he hce hct hv
   | succ i=>exact ih (sg hv) (by simpa using hm)
 have ht2:=key h hm
 refine⟨⟨g,hg,?_⟩,ht2⟩
 unfold Lib.TabIs World.var? at ht2
 rw[hg] at ht2
 simp only[Option.bind_some] at ht2
 rcases Nat.lt_or_ge g W.heap.size with h' | h'
 ·exact h'
 ·rw[Array.getElem?_eq_none h'] at ht2;simp at ht2
end Vg
namespace Vg
open Go Go.ChangeShapes Go.WideShapes Go.ChangeAt Go.RowKit
theorem Ba{H:Type}{enc:TypeId×Value→H}{C:Checked}{os:Os}{f:FuncId}{fn:Func}{s:ChangeSpec}{conds:List PathCond}{laid:List (String×DataW Unit)}
  (own:ownKnob C.prog.godebug=none) (started:os.Started) (noInit:C.prog.inits.idxOf? f=none) (hfn:C.prog.funcs[f]?=some fn)
  (witness:∃(w:World) (tape:Tape) (i:Input),w.os=os∧(w.forCall tape i).Shaped C.prog∧i.vars=[]∧Input.okWide C.prog (w.forCall tape i) .any w.heap.size f i ∧
   ((s.pre enc C.prog fn conds false (w.forCall tape i).memory i.args∧laidMetH C.prog laid (w.forCall tape i).memory)∧sizedMet enc C.prog fn (OpenSpec.ofChange s) false (w.forCall tape i).memory i.args) ∧
   ({}:Assume).holds C.prog (lone (Frame.enter C.prog f i.args .normal) [] (w.forCall tape i)))
  (hl:laidOutB C.prog=true) (hts:∀t∈fn.params.toList,C.prog.readableRec t=true∧t<C.prog.types.size)
  (hv:s.vars=[]) {tb:TypeId} (hres:fn.resultTypes=#[tb]) (hbool:C.prog.underlying tb=some .bool)
  (hs:∀ds:List (DataW H),ds.length=fn.params.toList.length→s.fn H (ds ++ [])={ results:=[.lit (.bool true)],args:=ds })
  (walk:∀(W:World) (base:Nat) (args:Array Value) (ds:List (DataW H)) (ps:List MemPlace),laidMetH C.prog laid W→W.ShapedOpen C.prog →
   (∀(j:Nat) t v,fn.params[j]?=some t→args[j]?=some v→Value.okWide C.prog W .any base t v) →
   DataW.TrodAll enc C.prog W 0 (fun _=>true) true fn.params.toList args.toList ds ps→W.noneFrozen ps →
   (DataW.weightsEach C.prog fn.params.toList ds).all (·≤reachBytes)=true →
   aH C.prog f args.toList (fun b=>b<W.heap.size) W [] (fun v _=>v=.bool true)):
  ReturnsInHanded {} C os f .any (fun w args=>(s.pre enc C.prog fn conds false w args∧laidMetH C.prog laid w)∧sizedMet enc C.prog fn (OpenSpec.ofChange s) false w args) (s.post enc C.prog fn false true false false):=by
 refine returnsInHanded_of_calls own started noInit witness ?_
 intro w tape i _ hsh _ hok hpre _
 obtain⟨_,_,_,fn',hfn',_,_,_,_,hval⟩:=hok
 obtain rfl:fn'=fn:=Z3 (hfn'.symm.trans hfn)
 obtain⟨⟨⟨ds,gs,before,hw,hc⟩,hL⟩,hz⟩:=hpre
 have hwt:(DataW.weightsEach C.prog (fn'.params.toList++s.plain.varTypes C.prog) (ds++gs)).all (·≤reachBytes)=true:=hz.weights hw
 have hW:=DataW.Whole.of_heap (w':=w.forCall tape i) (by rfl) hw
 have hL:laidMetH C.prog laid (w.forCall tape i):=hL.of_heap (by rfl)
 generalize w.forCall tape i=W at hW hL hval hsh ⊢
 have hW2:=hW
 obtain⟨p,q,hA,hV,rfl,hfz,_⟩:=hW2
 rw[hv] at hV
 obtain⟨rfl,rfl⟩:=trodVars_none hV
 have hvt:s.plain.varTypes C.prog=[]:=by simp[ChangeSpec.plain,hv,DataSpec.varTypes]
 rw[hvt] at hwt
 simp only[ZN] at hwt hfz
 have T:=walk W w.heap.size i.args ds p hL hsh hval hA hfz hwt
 have:=T.calls (fun _ h=>h) Sat.nil
 simp only[Array.toArray_toList] at this
 refine Calls.mono this fun e W' ⟨v,L',he,h1,_,hk⟩=>?_
 subst he;subst h1
 exact ChangeSpec.post_blind (Kd hl hts hv hres hbool hs hW hk.below)
end Vg
namespace Scr
open Go Vg Go.ChangeShapes Go.WideShapes Go.ChangeAt Go.RowKit Api LibC
set_option maxRecDepth 100000
theorem W7:ownKnob Tryz.prog.godebug=none:=by kernel_rfl
theorem Kg:laidOutB Tryz.prog=true:=by kernel_rfl
def nX:List (String×DataW Unit):=Rows.replaysSameRow.laid
theorem Kh(os:Os)(args:Array Value):laidMetH Tryz.prog nX ((World.laidAll Tryz.prog os nX).forCall (fun _ _=>0) ⟨#[],args,[]⟩).memory:=by
 rw[MakeChecks.laidMetH_plain _ _ _ yn]
 exact laidMet_laidAll args yn yn
theorem Bb{P:Program}{W:World}:∀{l:List (String×DataW Unit)} {i:Nat} {nm:String} {d:DataW Unit},laidMet P l W→l[i]?=some (nm,d) →
  ∃g t cs fuel p,P.globalNamed nm=some g∧(P.globals[g]?).map (·.type)=some t∧W.var? P nm=some cs∧DataW.trod (fun _=>()) P W 0 (fun _=>true) false fuel t cs.toList=some (d,p)
 | [],i,nm,d,_,h=>by simp at h
 | x::l,0,nm,d,hm,h=>by
  obtain rfl:=Z3 h
  obtain⟨ps,⟨g,t,cs,fuel,p,q,h1,h2,h3,h4,_,_⟩,_⟩:=hm
  exact⟨g,t,cs,fuel,p,h1,h2,h3,h4⟩
 | x::l,i+1,nm,d,hm,h=>Bb (sg hm) yc
theorem zl{P:Program}{W:World}{nm:String}{g:Nat}{cs:Array Value}(hg:P.globalNamed nm=some g)(h:W.var? P nm=some cs):g<W.heap.size∧∃t fz,W.heap[g]?=some (.cells cs t fz):=by
 unfold World.var? at h
 rw[hg] at h
 simp only[Option.bind_some] at h
 cases hh:W.heap[g]? with
 | none=>rw[hh] at h;cases h
 | some o=>
  rw[hh] at h
  refine⟨(Array.getElem?_eq_some_iff.1 hh).1,?_⟩
  cases o<;>simp at h
  subst h
  exact⟨_,_,Z⟩
theorem Fa{P:Program}{W:World}{t:TypeId}{ms:Array (String×TypeId)}{fuel base:Nat}{sp:Nat→Bool}{held:Bool}{cs:List Value}{x:DataW Unit×List MemPlace}(ht:P.underlying t=some (.interface ms))(h:DataW.trod (fun _=>()) P W base sp held fuel t cs=some x):
  ∃v,cs=[v]∧(v=.nilIface∨∃tp p,v=.iface tp p):=by
 cases fuel with
 | zero=>simp[DataW.trod] at h
 | succ m=>
  unfold DataW.trod at h
  rw[ht] at h
  split at h<;>simp_all
theorem Ki{W:World}{nm:String}{i g:Nat}{d:DataW Unit}(hL:laidMet Tryz.prog nX W)(hi:nX[i]?=some (nm,d))(hg:Tryz.prog.globalNamed nm=some g)(ht:(Tryz.prog.globals[g]?).map (·.type)=some 60):
  g<W.heap.size∧∃ev,W.cell? ⟨g,0,none⟩=some ev∧(ev=.nilIface∨∃te pe,ev=.iface te pe):=by
 obtain⟨g',t,cs,fuel,p,h1,h2,h3,h4⟩:=Bb hL hi
 obtain rfl:g'=g:=Z3 (h1.symm.trans hg)
 obtain rfl:t=60:=Z3 (h2.symm.trans ht)
 obtain⟨v,hv,hc⟩:=Fa Tryz.underlying60 h4
 obtain⟨hlt,tt,fz,hh⟩:=zl h1 h3
 refine⟨hlt,v,?_,hc⟩
 have:cs[0]?=some v:=by
  have:=congrArg (fun l:List Value=>l[0]?) hv
  simpa using this
 simp[World.cell?,hh,this]
theorem Ri{P:Program}{W:World}{t s:TypeId}{f g:Field}{fuel base:Nat}{sp:Nat→Bool}{held:Bool}{cs:List Value}{x:DataW Unit×List MemPlace}{a b:List UInt8}(ht:P.underlying t=some (.struct #[f,g]))(hs:P.underlying s=some .string)(hf:f.type=s)(hg:g.type=s)(hfo:f.offset=0)(hgo:g.offset=1)(hcs:P.cellsOf s=1)(hct:P.cellsOf t=2)
  (h:DataW.trod (fun _=>()) P W base sp held fuel t cs=some x) (hx:x.1=.agg [.lit (.string a),.lit (.string b)]):cs=[.string (bY a),.string (bY b)]:=by
 obtain⟨ys,m,_,e,hl,hyl,hall⟩:=DataW.trod_struct ht h
 rw[hct] at hl
 have h0:=hall 0 f rfl
 have h1:=hall 1 g rfl
 rw[hf,hfo,hcs] at h0
 rw[hg,hgo,hcs] at h1
 match cs,hl,ys,hyl with
 | [c0,c1],_,[y0,y1],_=>
  obtain⟨s0,e0,k0,_⟩:=DataW.trod_string hs h0
  obtain⟨s1,e1,k1,_⟩:=DataW.trod_string hs h1
  have q0:c0=.string s0:=(List.cons.inj (show [c0]=[Value.string s0] from e0)).1
  have q1:c1=.string s1:=(List.cons.inj (show [c1]=[Value.string s1] from e1)).1
  subst e;subst k0;subst k1;subst q0;subst q1
  have hx:(DataW.agg [DataW.lit (.string s0.data.toList),DataW.lit (.string s1.data.toList)]:DataW Unit)=.agg [.lit (.string a),.lit (.string b)]:=hx
  injection hx with hx
  injection hx with g1 g2
  injection g1 with g1
  injection g1 with g1
  injection g2 with g2 _
  injection g2 with g2
  injection g2 with g2
  rw[←g1,←g2,mz,mz]
theorem Fb:(Rows.laid_fairway_script_kinds:DataW Unit)=.agg (kT.map fun k=>.agg [.lit (.string (dD k)),.lit (.string (aZ k))]):=rfl
theorem Kj{W:World}(hL:laidMet Tryz.prog nX W):cy (fun b=>b<W.heap.size) W:=by
 obtain⟨g',t,cs,fuel,p,h1,h2,h3,h4⟩:=Bb hL (show nX[6]?=some ("fairway/script.kinds",Rows.laid_fairway_script_kinds) from rfl)
 obtain rfl:g'=0:=Z3 (h1.symm.trans yn)
 obtain rfl:t=50:=Z3 (h2.symm.trans yn)
 obtain⟨xs,m,_,e,hl,hxl,hall⟩:=DataW.trod_array Tryz.underlying50 h4
 have hce:Tryz.prog.cellsOf 49=2:=by kernel_rfl
 have hct:Tryz.prog.cellsOf 50=24:=by kernel_rfl
 have hcs:Tryz.prog.cellsOf 9=1:=by kernel_rfl
 rw[hct] at hl
 rw[hce] at hall
 have e1:(Rows.laid_fairway_script_kinds:DataW Unit)=.agg (xs.map (·.1)):=(Prod.mk.inj e).1
 rw[Fb] at e1
 have e2:(kT.map fun k=>(DataW.agg [.lit (.string (dD k)),.lit (.string (aZ k))]:DataW Unit))=xs.map (·.1):=by injection e1
 obtain⟨hlt,tt,fz,hh⟩:=zl h1 h3
 have hflat:cs.toList=kinds:=by
  have:=xA (c:=UD) (n:=2) (xs:=kT) (cells:=cs.toList) (off:=0) (fun i k hk=>by
   have hi:i<12:=(ZP.1 hk).1
   have e3:=congrArg (fun l=>l[i]?) e2
   simp only[ZS,hk,Option.map_some] at e3
   cases hx:xs[i]? with
   | none=>rw[hx] at e3;cases e3
   | some x=>
    rw[hx] at e3
    have h5:=hall i hi
    rw[hx] at h5
    rw[ZQ]
    exact Ri Tryz.underlying49 Tryz.underlying9 Z Z Z Z hcs hce h5 (Z3 e3).symm)
  rw[List.drop_zero,show kT.length*2=24 from rfl,List.take_of_length_le yd] at this
  exact this
 exact⟨hlt,tt,fz,by rw[←hflat];simpa using hh⟩
theorem OO{W:World}(h:laidMetH Tryz.prog nX W)(hsh:W.ShapedOpen Tryz.prog):b9 (fun b=>b<W.heap.size) W∧cy (fun b=>b<W.heap.size) W:=by
 have hp:laidMet Tryz.prog nX W:=Eq.mp (MakeChecks.laidMetH_plain Tryz.prog nX W yn) h
 obtain⟨m,hm⟩:=Tryz.Iu.s1_3 W hsh
 have hb:∀{b:Nat} {v:Value},W.cell? ⟨b,0,none⟩=some v→b<W.heap.size:=fun {b v} hc=>wD hc
 exact⟨⟨Kf (g:=1) 2 yn yn yn yn Tryz.underlying259 Tryz.underlying196 yn yn h,
  ⟨hb hm,m,hm⟩,Ki (i:=5) (nm:="strconv.ErrSyntax") (d:=Rows.laid_strconv_ErrSyntax) hp rfl yn yn,Ki (i:=4) (nm:="strconv.ErrRange") (d:=Rows.laid_strconv_ErrRange) hp rfl yn yn⟩,Kj hp⟩
theorem tg{a:Int}(w:(Lit.int .i64 a).wf=true):Scr.pA a:=by
 simp[Lit.wf,IntKind.min,IntKind.max,IntKind.signed,IntKind.bits] at w;exact⟨by omega,by omega⟩
def Ty:List TypeId:=[3,3,3,3,3,9,9,3]
theorem Rj:sf Tryz.prog 5 33=some Ty:=by kernel_rfl
section
variable {H:Type} {enc:TypeId×Value→H} {w:World} {base:Nat} {spare:Nat→Bool} {held:Bool}
theorem OP{cs:List Value}(hl:cs.length=8)
  (h3:∀(i:Nat) (v:Value) (u:TypeId),cs[i]?=some v→Ty[i]?=some u→uh enc Tryz.prog w base spare held u v):∃x:cn,cs=dV x∧Cl.Dr x:=by
 match cs,hl,h3 with
 | [c1,c2,c3,c4,c5,c6,c7,c8],_,h3=>
 obtain⟨n1,rfl,w1⟩:=(h3 0 c1 _ rfl rfl).int Tryz.underlying3
 obtain⟨n2,rfl,w2⟩:=(h3 1 c2 _ rfl rfl).int Tryz.underlying3
 obtain⟨n3,rfl,w3⟩:=(h3 2 c3 _ rfl rfl).int Tryz.underlying3
 obtain⟨n4,rfl,w4⟩:=(h3 3 c4 _ rfl rfl).int Tryz.underlying3
 obtain⟨n5,rfl,w5⟩:=(h3 4 c5 _ rfl rfl).int Tryz.underlying3
 obtain⟨s6,rfl,_⟩:=(h3 5 c6 _ rfl rfl).str Tryz.underlying9
 obtain⟨s7,rfl,_⟩:=(h3 6 c7 _ rfl rfl).str Tryz.underlying9
 obtain⟨n8,rfl,w8⟩:=(h3 7 c8 _ rfl rfl).int Tryz.underlying3
 exact⟨⟨n1,n2,n3,n4,⟨n5,s6,s7,n8⟩⟩,Z,⟨tg w1,tg w2,tg w3,tg w4,tg w5,tg w8⟩⟩
theorem Kk{base0:Nat}{v:Value}{d:DataW H}{ps:List MemPlace}(hval:Value.okWide Tryz.prog w .any base0 25 v)(h:DataW.Trod enc Tryz.prog w base spare held 25 v d ps):
  ∃(a:Option Addr) (tc:Nat) (l:List cn),v=.slice a l.length tc∧l.length≤9223372036854775807∧(∀d∈l,Cl.Dr d)∧aK dV 8 (fun b=>b<w.heap.size) w a l:=by
 obtain⟨a0,n0,c0,rfl⟩:=okWide_slice Tryz.underlying25 hval
 obtain⟨fuel,hf⟩:=h
 obtain⟨a,tc,l,e,h1,h2,h3⟩:=zk (α:=cn) dV Cl.Dr Tryz.underlying25 Rj yn yp (fun cs hl hc=>OP hl hc) hf
 have hm:maxLen≤9223372036854775807:=by decide
 exact⟨a,tc,l,e,by omega,h2,⟨h3⟩⟩
end
end Scr
end Go.Proofs.YthnlpdacbcjgpaaGreatDoor
