/- Texts of the proof, put together and shortened. No condition. -/
import Derived.Test.YtmghpgpfeabghaaGreatZe5
set_option maxRecDepth 100000
set_option maxHeartbeats 16000000
set_option linter.unusedVariables false
set_option linter.unusedSectionVars false
set_option linter.unusedSimpArgs false
namespace Go.Proofs.YtmghpgpfeabghaaGreat
variable (Fr : Nat → Prop) (w : World)
namespace Adm
open Go Vg Go.ChangeShapes Go.WideShapes Go.ChangeAt Go.RowKit Sched Conf
theorem confFlat:flatT Tryz.prog 3 24=some [3,3,3,22,3,3,3,3,3,3,3,3]:=by kernel_rfl
theorem intFlat:flatT Tryz.prog 1 3=some [3]:=by kernel_rfl
theorem wf_byte{a:Int}(w:(Lit.int .u8 a).wf=true):0≤a∧a≤255:=by
 simp[Lit.wf,IntKind.min,IntKind.max,IntKind.signed,IntKind.bits] at w;omega
section
variable {H:Type} {enc:TypeId×Value→H} {w:World} {base:Nat} {spare:Nat→Bool} {held:Bool}
theorem leaf_ints{v:Value}(h:Leaf enc Tryz.prog w base spare held 22 v):∃a tc l,v=.slice a (l:List Int).length tc∧l.length≤tc∧IntsIn (fun b=>b<w.heap.size) w a l:=by
 obtain⟨fuel,x,hf⟩:=h
 obtain⟨a,tc,l,e,h1,h2,h3⟩:=open_rows (α:=Int) (fun x=>[.int .i64 x]) (fun _=>True) Tryz.underlying22 intFlat ym yo (fun cs hl hc=>by
  match cs,hl,hc with
  | [c],_,hc=>
   obtain⟨n,rfl,_⟩:=(hc 0 c _ rfl rfl).int Tryz.underlying3
   exact⟨n,rfl,trivial⟩) hf
 refine⟨a,tc,l,e,h1.1,⟨fun hne=>?_⟩⟩
 obtain⟨b,off,h4,h5,h6⟩:=h3 hne
 refine⟨b,off,h4,h5,fun i v hv=>?_⟩
 have:=h6 i v hv 0 _ rfl
 simpa using this
theorem leaf_conf{cs:List Value}(hl:cs.length=12)(h3:∀(i:Nat) (v:Value) (u:TypeId),cs[i]?=some v→([3,3,3,22,3,3,3,3,3,3,3,3]:List TypeId)[i]?=some u→Leaf enc Tryz.prog w base spare held u v):
  ∃(c:ConfM) (a:Option Addr) (cap:Nat),cs=c.cells a cap∧c.qs.length≤cap∧IntsIn (fun b=>b<w.heap.size) w a c.qs:=by
 match cs,hl,h3 with
 | [c0,c1,c2,c3,c4,c5,c6,c7,c8,c9,c10,c11],_,h3=>
 obtain⟨n0,rfl,_⟩:=(h3 0 c0 _ rfl rfl).int Tryz.underlying3
 obtain⟨n1,rfl,_⟩:=(h3 1 c1 _ rfl rfl).int Tryz.underlying3
 obtain⟨n2,rfl,_⟩:=(h3 2 c2 _ rfl rfl).int Tryz.underlying3
 obtain⟨a3,cap3,l3,rfl,hc3,hq3⟩:=leaf_ints (h3 3 c3 _ rfl rfl)
 obtain⟨n4,rfl,_⟩:=(h3 4 c4 _ rfl rfl).int Tryz.underlying3
 obtain⟨n5,rfl,_⟩:=(h3 5 c5 _ rfl rfl).int Tryz.underlying3
 obtain⟨n6,rfl,_⟩:=(h3 6 c6 _ rfl rfl).int Tryz.underlying3
 obtain⟨n7,rfl,_⟩:=(h3 7 c7 _ rfl rfl).int Tryz.underlying3
 obtain⟨n8,rfl,_⟩:=(h3 8 c8 _ rfl rfl).int Tryz.underlying3
 obtain⟨n9,rfl,_⟩:=(h3 9 c9 _ rfl rfl).int Tryz.underlying3
 obtain⟨n10,rfl,_⟩:=(h3 10 c10 _ rfl rfl).int Tryz.underlying3
 obtain⟨n11,rfl,_⟩:=(h3 11 c11 _ rfl rfl).int Tryz.underlying3
 exact⟨⟨n0,n1,n2,l3,n4,n5,n6,n7,n8,n9,n10,n11⟩,a3,cap3,rfl,hc3,hq3⟩
theorem okWide_agg{P:Program}{r:Reach}{t:TypeId}{v:Value}{fs:Array Field}(ht:P.underlying t=some (.struct fs))(h:Value.okWide P w r base t v):∃cs:List Value,v=.agg cs.toArray:=by
 unfold Value.okWide at h
 rw[ht] at h
 obtain⟨cs,h,_⟩:=h
 exact⟨cs.toList,by rw[h]⟩
theorem open_conf{base0:Nat}{v:Value}{d:DataW H}{ps:List MemPlace}(hval:Value.okWide Tryz.prog w .any base0 24 v)(h:DataW.Trod enc Tryz.prog w base spare held 24 v d ps):
  ∃(c:ConfM) (a:Option Addr) (cap:Nat),v=.agg (c.cells a cap).toArray∧c.qs.length≤cap∧IntsIn (fun b=>b<w.heap.size) w a c.qs:=by
 obtain⟨cs,rfl⟩:=okWide_agg Tryz.underlying24 hval
 obtain⟨fuel,hf⟩:=h
 obtain⟨h1,h2⟩:=flatT_ok 3 _ _ confFlat fuel cs _ hf
 obtain⟨c,a,cap,rfl,h3,h4⟩:=leaf_conf h1 h2
 exact⟨c,a,cap,rfl,h3,h4⟩
end
end Adm
namespace Cl
open Go Vg Go.ChangeShapes Go.WideShapes Go.ChangeAt Go.RowKit Sched Conf Adm Api
def doTs:List TypeId:=[3,3,3,3,3,9,9,3]
theorem doFlat:flatT Tryz.prog 5 37=some doTs:=by kernel_rfl
section
variable {H:Type} {enc:TypeId×Value→H} {w:World} {base:Nat} {spare:Nat→Bool} {held:Bool}
theorem leaf_do{cs:List Value}(hl:cs.length=8)
  (h3:∀(i:Nat) (v:Value) (u:TypeId),cs[i]?=some v→doTs[i]?=some u→Leaf enc Tryz.prog w base spare held u v):∃x:StpM,cs=x.cells∧True:=by
 match cs,hl,h3 with
 | [c1,c2,c3,c4,c5,c6,c7,c8],_,h3=>
 obtain⟨n1,rfl,_⟩:=(h3 0 c1 _ rfl rfl).int Tryz.underlying3
 obtain⟨n2,rfl,_⟩:=(h3 1 c2 _ rfl rfl).int Tryz.underlying3
 obtain⟨n3,rfl,_⟩:=(h3 2 c3 _ rfl rfl).int Tryz.underlying3
 obtain⟨n4,rfl,_⟩:=(h3 3 c4 _ rfl rfl).int Tryz.underlying3
 obtain⟨n5,rfl,_⟩:=(h3 4 c5 _ rfl rfl).int Tryz.underlying3
 obtain⟨s6,rfl,_⟩:=(h3 5 c6 _ rfl rfl).str Tryz.underlying9
 obtain⟨s7,rfl,_⟩:=(h3 6 c7 _ rfl rfl).str Tryz.underlying9
 obtain⟨n8,rfl,_⟩:=(h3 7 c8 _ rfl rfl).int Tryz.underlying3
 exact⟨⟨n1,n2,n3,n4,⟨n5,s6,s7,n8⟩⟩,rfl,trivial⟩
theorem open_dos{base0:Nat}{v:Value}{d:DataW H}{ps:List MemPlace}(hval:Value.okWide Tryz.prog w .any base0 25 v)(h:DataW.Trod enc Tryz.prog w base spare held 25 v d ps):
  ∃(a:Option Addr) (tc:Nat) (l:List StpM),v=.slice a l.length tc∧l.length≤9223372036854775807∧RwIn StpM.cells 8 (fun b=>b<w.heap.size) w a l:=by
 obtain⟨a0,n0,c0,rfl⟩:=okWide_slice Tryz.underlying25 hval
 obtain⟨fuel,hf⟩:=h
 obtain⟨a,tc,l,e,h1,h2,h3⟩:=open_rows (α:=StpM) StpM.cells (fun _=>True) Tryz.underlying25 doFlat ym yo (fun cs hl hc=>leaf_do hl hc) hf
 have hm:maxLen≤9223372036854775807:=by decide
 exact⟨a,tc,l,e,by omega,⟨h3⟩⟩
end
end Cl
end Go.Proofs.YtmghpgpfeabghaaGreat
