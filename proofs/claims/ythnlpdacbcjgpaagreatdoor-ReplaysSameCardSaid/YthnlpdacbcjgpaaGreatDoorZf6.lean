/- Texts of the proof, put together and shortened. No condition. -/
import Derived.Test.YthnlpdacbcjgpaaGreatDoorZf5
set_option maxRecDepth 100000
set_option maxHeartbeats 16000000
set_option linter.unusedVariables false
set_option linter.unusedSectionVars false
set_option linter.unusedSimpArgs false
namespace Go.Proofs.YthnlpdacbcjgpaaGreatDoor
variable (Fr : Nat → Prop) (w : World)
namespace Scr
open Go Vg Go.ChangeShapes Go.WideShapes Go.ChangeAt Go.RowKit Api LibC
set_option maxRecDepth 100000
theorem WE:ownKnob Tryz.prog.godebug=none:=by kernel_rfl
theorem JR:laidOutB Tryz.prog=true:=by kernel_rfl
def nW:List (String×DataW Unit):=Rows.replaysSameRow.laid
theorem JS(os:Os)(args:Array Value):laidMetH Tryz.prog nW ((World.laidAll Tryz.prog os nW).forCall (fun _ _=>0) ⟨#[],args,[]⟩).memory:=by
 rw[MakeChecks.laidMetH_plain _ _ _ yn]
 exact laidMet_laidAll args yn yn
theorem AJ{P:Program}{W:World}:∀{l:List (String×DataW Unit)} {i:Nat} {nm:String} {d:DataW Unit},laidMet P l W→l[i]?=some (nm,d) →
  ∃g t cs fuel p,P.globalNamed nm=some g∧(P.globals[g]?).map (·.type)=some t∧W.var? P nm=some cs∧DataW.trod (fun _=>()) P W 0 (fun _=>true) false fuel t cs.toList=some (d,p)
 | [],i,nm,d,_,h=>by simp at h
 | x::l,0,nm,d,hm,h=>by
  obtain rfl:=Zy h
  obtain⟨ps,⟨g,t,cs,fuel,p,q,h1,h2,h3,h4,_,_⟩,_⟩:=hm
  exact⟨g,t,cs,fuel,p,h1,h2,h3,h4⟩
 | x::l,i+1,nm,d,hm,h=>AJ (r9 hm) yc
theorem yR{P:Program}{W:World}{nm:String}{g:Nat}{cs:Array Value}(hg:P.globalNamed nm=some g)(h:W.var? P nm=some cs):g<W.heap.size∧∃t fz,W.heap[g]?=some (.cells cs t fz):=by
 unfold World.var? at h
 rw[hg] at h
 simp only[ZJ] at h
 cases hh:W.heap[g]? with
 | none=>rw[hh] at h;cases h
 | some o=>
  rw[hh] at h
  refine⟨(ZZ.1 hh).1,?_⟩
  cases o<;>simp at h
  subst h
  exact⟨_,_,Z⟩
theorem EU{P:Program}{W:World}{t:TypeId}{ms:Array (String×TypeId)}{fuel base:Nat}{sp:Nat→Bool}{held:Bool}{cs:List Value}{x:DataW Unit×List MemPlace}(ht:P.underlying t=some (.interface ms))(h:DataW.trod (fun _=>()) P W base sp held fuel t cs=some x):
  ∃v,cs=[v]∧(v=.nilIface∨∃tp p,v=.iface tp p):=by
 cases fuel with
 | zero=>simp[DataW.trod] at h
 | succ m=>
  unfold DataW.trod at h
  rw[ht] at h
  split at h<;>simp_all
theorem JT{W:World}{nm:String}{i g:Nat}{d:DataW Unit}(hL:laidMet Tryz.prog nW W)(hi:nW[i]?=some (nm,d))(hg:Tryz.prog.globalNamed nm=some g)(ht:(Tryz.prog.globals[g]?).map (·.type)=some 60):
  g<W.heap.size∧∃ev,W.cell? ⟨g,0,none⟩=some ev∧(ev=.nilIface∨∃te pe,ev=.iface te pe):=by
 obtain⟨g',t,cs,fuel,p,h1,h2,h3,h4⟩:=AJ hL hi
 obtain rfl:g'=g:=Zy (h1.symm.trans hg)
 obtain rfl:t=60:=Zy (h2.symm.trans ht)
 obtain⟨v,hv,hc⟩:=EU Tryz.underlying60 h4
 obtain⟨hlt,tt,fz,hh⟩:=yR h1 h3
 refine⟨hlt,v,?_,hc⟩
 have:cs[0]?=some v:=by
  have:=congrArg (fun l:List Value=>l[0]?) hv
  simpa using this
 simp[World.cell?,hh,this]
theorem QS{P:Program}{W:World}{t s:TypeId}{f g:Field}{fuel base:Nat}{sp:Nat→Bool}{held:Bool}{cs:List Value}{x:DataW Unit×List MemPlace}{a b:List UInt8}(ht:P.underlying t=some (.struct #[f,g]))(hs:P.underlying s=some .string)(hf:f.type=s)(hg:g.type=s)(hfo:f.offset=0)(hgo:g.offset=1)(hcs:P.cellsOf s=1)(hct:P.cellsOf t=2)
  (h:DataW.trod (fun _=>()) P W base sp held fuel t cs=some x) (hx:x.1=.agg [.lit (.string a),.lit (.string b)]):cs=[.string (cH a),.string (cH b)]:=by
 obtain⟨ys,m,_,e,hl,hyl,hall⟩:=DataW.trod_struct ht h
 rw[hct] at hl
 have h0:=hall 0 f rfl
 have h1:=hall 1 g rfl
 rw[hf,hfo,hcs] at h0
 rw[hg,hgo,hcs] at h1
 match cs,hl,ys,hyl with
 | [c0,c1],_,[y0,y1],_=>
  obtain⟨s0,e0,k0,_⟩:=DataW.trod_string hs h0
  obtain⟨s1,e1,k1,_⟩:=DataW.trod_string hs h1
  have q0:c0=.string s0:=(List.cons.inj (show [c0]=[Value.string s0] from e0)).1
  have q1:c1=.string s1:=(List.cons.inj (show [c1]=[Value.string s1] from e1)).1
  subst e;subst k0;subst k1;subst q0;subst q1
  have hx:(DataW.agg [DataW.lit (.string s0.data.toList),DataW.lit (.string s1.data.toList)]:DataW Unit)=.agg [.lit (.string a),.lit (.string b)]:=hx
  injection hx with hx
  injection hx with g1 g2
  injection g1 with g1
  injection g1 with g1
  injection g2 with g2 _
  injection g2 with g2
  injection g2 with g2
  rw[←g1,←g2,mu,mu]
theorem EV:(Rows.laid_fairway_script_kinds:DataW Unit)=.agg (kT.map fun k=>.agg [.lit (.string (eA k)),.lit (.string (aR k))]):=rfl
theorem JU{W:World}(hL:laidMet Tryz.prog nW W):cj (fun b=>b<W.heap.size) W:=by
 obtain⟨g',t,cs,fuel,p,h1,h2,h3,h4⟩:=AJ hL (show nW[6]?=some ("fairway/script.kinds",Rows.laid_fairway_script_kinds) from rfl)
 obtain rfl:g'=0:=Zy (h1.symm.trans yn)
 obtain rfl:t=50:=Zy (h2.symm.trans yn)
 obtain⟨xs,m,_,e,hl,hxl,hall⟩:=DataW.trod_array Tryz.underlying50 h4
 have hce:Tryz.prog.cellsOf 49=2:=by kernel_rfl
 have hct:Tryz.prog.cellsOf 50=24:=by kernel_rfl
 have hcs:Tryz.prog.cellsOf 9=1:=by kernel_rfl
 rw[hct] at hl
 rw[hce] at hall
 have e1:(Rows.laid_fairway_script_kinds:DataW Unit)=.agg (xs.map (·.1)):=(Prod.mk.inj e).1
 rw[EV] at e1
 have e2:(kT.map fun k=>(DataW.agg [.lit (.string (eA k)),.lit (.string (aR k))]:DataW Unit))=xs.map (·.1):=by injection e1
 obtain⟨hlt,tt,fz,hh⟩:=yR h1 h3
 have hflat:cs.toList=kinds:=by
  have:=xf (c:=Ud) (n:=2) (xs:=kT) (cells:=cs.toList) (off:=0) (fun i k hk=>by
   have hi:i<12:=(Zk.1 hk).1
   have e3:=congrArg (fun l=>l[i]?) e2
   simp only[Zn,hk,ZS] at e3
   cases hx:xs[i]? with
   | none=>rw[hx] at e3;cases e3
   | some x=>
    rw[hx] at e3
    have h5:=hall i hi
    rw[hx] at h5
    rw[Zl]
    exact QS Tryz.underlying49 Tryz.underlying9 Z Z Z Z hcs hce h5 (Zy e3).symm)
  rw[List.drop_zero,show kT.length*2=24 from rfl,Z3 yd] at this
  exact this
 exact⟨hlt,tt,fz,by rw[←hflat];simpa using hh⟩
theorem Oi{W:World}(h:laidMetH Tryz.prog nW W)(hsh:W.ShapedOpen Tryz.prog):bX (fun b=>b<W.heap.size) W∧cj (fun b=>b<W.heap.size) W:=by
 have hp:laidMet Tryz.prog nW W:=Eq.mp (MakeChecks.laidMetH_plain Tryz.prog nW W yn) h
 obtain⟨m,hm⟩:=Tryz.H4.s1_3 W hsh
 have hb:∀{b:Nat} {v:Value},W.cell? ⟨b,0,none⟩=some v→b<W.heap.size:=fun {b v} hc=>wj hc
 exact⟨⟨JQ (g:=1) 2 yn yn yn yn Tryz.underlying259 Tryz.underlying196 yn yn h,
  ⟨hb hm,m,hm⟩,JT (i:=5) (nm:="strconv.ErrSyntax") (d:=Rows.laid_strconv_ErrSyntax) hp rfl yn yn,JT (i:=4) (nm:="strconv.ErrRange") (d:=Rows.laid_strconv_ErrRange) hp rfl yn yn⟩,JU hp⟩
theorem sW{a:Int}(w:(Lit.int .i64 a).wf=true):Scr.pA a:=by
 simp[Lit.wf,IntKind.min,IntKind.max,IntKind.signed,IntKind.bits] at w;exact⟨by omega,by omega⟩
def SZ:List TypeId:=[3,3,3,3,3,9,9,3]
theorem QT:r8 Tryz.prog 5 33=some SZ:=by kernel_rfl
section
variable {H:Type} {enc:TypeId×Value→H} {w:World} {base:Nat} {spare:Nat→Bool} {held:Bool}
theorem Oj{cs:List Value}(hl:cs.length=8)
  (h3:∀(i:Nat) (v:Value) (u:TypeId),cs[i]?=some v→SZ[i]?=some u→tT enc Tryz.prog w base spare held u v):∃x:cE,cs=dR x∧Cl.C_ x:=by
 match cs,hl,h3 with
 | [c1,c2,c3,c4,c5,c6,c7,c8],_,h3=>
 obtain⟨n1,rfl,w1⟩:=(h3 0 c1 _ rfl rfl).int Tryz.underlying3
 obtain⟨n2,rfl,w2⟩:=(h3 1 c2 _ rfl rfl).int Tryz.underlying3
 obtain⟨n3,rfl,w3⟩:=(h3 2 c3 _ rfl rfl).int Tryz.underlying3
 obtain⟨n4,rfl,w4⟩:=(h3 3 c4 _ rfl rfl).int Tryz.underlying3
 obtain⟨n5,rfl,w5⟩:=(h3 4 c5 _ rfl rfl).int Tryz.underlying3
 obtain⟨s6,rfl,_⟩:=(h3 5 c6 _ rfl rfl).str Tryz.underlying9
 obtain⟨s7,rfl,_⟩:=(h3 6 c7 _ rfl rfl).str Tryz.underlying9
 obtain⟨n8,rfl,w8⟩:=(h3 7 c8 _ rfl rfl).int Tryz.underlying3
 exact⟨⟨n1,n2,n3,n4,⟨n5,s6,s7,n8⟩⟩,Z,⟨sW w1,sW w2,sW w3,sW w4,sW w5,sW w8⟩⟩
theorem JV{base0:Nat}{v:Value}{d:DataW H}{ps:List MemPlace}(hval:Value.okWide Tryz.prog w .any base0 25 v)(h:DataW.Trod enc Tryz.prog w base spare held 25 v d ps):
  ∃(a:Option Addr) (tc:Nat) (l:List cE),v=.slice a l.length tc∧l.length≤9223372036854775807∧(∀d∈l,Cl.C_ d)∧aI dR 8 (fun b=>b<w.heap.size) w a l:=by
 obtain⟨a0,n0,c0,rfl⟩:=okWide_slice Tryz.underlying25 hval
 obtain⟨fuel,hf⟩:=h
 obtain⟨a,tc,l,e,h1,h2,h3⟩:=yQ (α:=cE) dR Cl.C_ Tryz.underlying25 QT yn yp (fun cs hl hc=>Oj hl hc) hf
 have hm:maxLen≤9223372036854775807:=by decide
 exact⟨a,tc,l,e,by omega,h2,⟨h3⟩⟩
end
end Scr
end Go.Proofs.YthnlpdacbcjgpaaGreatDoor
