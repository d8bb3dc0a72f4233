/- Texts of the proof, put together and shortened. No condition. -/
import Derived.Test.YtbmakdofbejlnaaGreatDoorZj1
set_option maxRecDepth 100000
set_option maxHeartbeats 16000000
set_option linter.unusedVariables false
set_option linter.unusedSectionVars false
set_option linter.unusedSimpArgs false
namespace Go.Proofs.YtbmakdofbejlnaaGreatDoor
variable (Fr : Nat → Prop) (w : World)
namespace Cl
open Go Vg T LibC
abbrev xP:=ByteArray×ByteArray×Nat
def mv:List xP:=[(⟨#[112,117,116]⟩,⟨#[110,116,116]⟩,17),(⟨#[115,119,97,112]⟩,⟨#[110,116,116,110]⟩,18),(⟨#[100,101,108]⟩,⟨#[110,116]⟩,19),(⟨#[103,101,116]⟩,⟨#[110,116]⟩,20),(⟨#[115,116,101,112]⟩,⟨#[110]⟩,21),(⟨#[99,114,97,115,104]⟩,⟨#[110]⟩,22),(⟨#[115,117,115,112,101,99,116]⟩,⟨#[110]⟩,23),(⟨#[106,111,105,110]⟩,⟨#[110]⟩,24),(⟨#[100,114,97,105,110]⟩,⟨#[110]⟩,25),(⟨#[116,105,99,107]⟩,⟨#[]⟩,26),(⟨#[119,97,116,99,104]⟩,⟨#[]⟩,27),(⟨#[100,101,108,105,118,101,114]⟩,⟨#[110,110]⟩,28),(⟨#[100,114,111,112]⟩,⟨#[110,110]⟩,29),(⟨#[100,111,117,98,108,101]⟩,⟨#[110,110]⟩,30),(⟨#[114,111,117,110,100]⟩,⟨#[110]⟩,31),(⟨#[99,104,97,105,110]⟩,⟨#[]⟩,32),(⟨#[110,111,100,101]⟩,⟨#[110]⟩,33),(⟨#[99,108,105,101,110,116]⟩,⟨#[110]⟩,34),(⟨#[109,97,105,108]⟩,⟨#[]⟩,35),(⟨#[97,117,100,105,116]⟩,⟨#[]⟩,36),(⟨#[108,105,110,101,97,114]⟩,⟨#[]⟩,37),(⟨#[97,108,105,118,101]⟩,⟨#[]⟩,38)]
def pg:List (ByteArray×ByteArray):=[(⟨#[112,117,116,32,48,32,107,32,118]⟩,⟨#[111,107]⟩),(⟨#[114,111,117,110,100,32,51]⟩,⟨#[111,107]⟩),(⟨#[99,108,105,101,110,116,32,48]⟩,⟨#[100,111,110,101,32,49,32,49,32,49,32,49,32,58]⟩),(⟨#[103,101,116,32,48,32,107]⟩,⟨#[111,107]⟩),(⟨#[114,111,117,110,100,32,49]⟩,⟨#[111,107]⟩),(⟨#[99,108,105,101,110,116,32,48]⟩,⟨#[100,111,110,101,32,50,32,49,32,49,32,49,32,58,118]⟩),(⟨#[99,104,97,105,110]⟩,⟨#[101,112,111,99,104,32,49,32,109,101,109,98,101,114,115,32,48,64,49]⟩),(⟨#[99,114,97,115,104,32,57]⟩,⟨#[101,114,114,111,114,32,52]⟩),(⟨#[104,101,108,108,111]⟩,⟨#[63]⟩)]
def zJ(s:ByteArray):Bool:=s.data.toList.all (fun c=>decide (48≤c∧c≤57))&&decide (1≤s.size∧s.size≤6)
def Aw(s:ByteArray):Bool:=s.data.toList.all (fun c=>decide (33≤c∧c≤126))&&decide (1≤s.size∧s.size≤64)
abbrev q9:=List Int×List ByteArray
def oU(a:q9)(x:ByteArray×UInt8):q9:=if x.2=116 then (a.1,a.2 ++ [x.1]) else (a.1 ++ [(numOf x.1).getD 0],a.2)
def xZ(x:ByteArray×UInt8):Bool:=if x.2=116 then Aw x.1 else zJ x.1&&(numOf x.1).isSome
def iV(ws:List ByteArray)(us:List UInt8):q9:=(ws.zip us).foldl oU ([],[])
def vE(ws:List ByteArray)(us:List UInt8):Bool:=decide (ws.length=us.length)&&(ws.zip us).all xZ
def jo:ByteArray:=⟨#[32]⟩
def Kn(s:ByteArray):List ByteArray:=Lib.splitB jo 0 (Lib.countB s jo) s
end Cl
namespace Vg
open Go
section
variable {X:Cx} {e:Env} {L:List HP}
theorem sO{T:TypeId}{x y:Operand}{s:ByteArray}{b:UInt8}{k:IntKind}{j:Int}{tt:TI}(i:Nat)(hx:ev e x=some (.string s))(hy:ev e y=some (.int k j))(hT:bD X.tab T=some tt)(hu:tt.ax=.string)
  (hj:j=i) (hb:s.data.toList[i]?=some b):eD X (.index T x y) e (.int .u8 (b.toNat:Int)):=by
 intro a ha dst ty pos after guard w
 have hund:=Ay (X.ok.look hT) hu
 subst hj
 have hb2:s[i]?=some b:=by
  have:s.data[i]?=some b:=by simpa using hb
  obtain⟨h1,h2⟩:=pY.1 this
  rw[getElem?_pos s i h1]
  exact congrArg some h2
 simp[execOp,ha.ev hx,ha.ev hy,Instr.index,asIntOf,run_underlying hund,hb2]
end
end Vg
namespace Cl
open Go Vg T LibC
attribute [local irreducible] VO VC VA
theorem BT{s:ByteArray}{i:Nat}(h:i<s.size):∃c,s.data.toList[i]?=some c:=⟨_,GE yc⟩
theorem Gc{s:ByteArray}{P:UInt8→Prop}[∀c,Decidable (P c)](h:s.data.toList.all (fun c=>decide (P c))=true){i:Nat}{c:UInt8}(hc:s.data.toList[i]?=some c):P c:=
 of_decide_eq_true (kU.1 h c (ME hc))
theorem PB{s:ByteArray}(h:zJ s=true):aq Tryz.prog 40 [.string s] Fr w [] (fun v L=>v=.bool true∧L=[]):=by
 unfold zJ at h
 rw[dG] at h
 obtain⟨h1,h2⟩:=h
 have h2:=of_decide_eq_true h2
 refine TF 28 Tryz.func40 Z ym aw Z Z ?_
 refine ae ?_
 refine KB ?_
 intro i hi
 refine ae ?_
 refine CP (p:=(i:Int)<s.size) Z (fun hl=>CK ?_) (fun hl=>CX ?_)
 ·obtain⟨c,hc⟩:=BT (s:=s) (i:=i) yd
  have hr:=Gc h1 hc
  have r1:48≤c.toNat:=UInt8.le_iff_toNat_le.1 hr.1
  have r2:c.toNat≤57:=UInt8.le_iff_toNat_le.1 hr.2
  refine ae ?_
  refine AJ ?_
  refine ae ?_
  refine VG (VY 14 false Z (DF yd) ?_)
  refine au ?_
  refine AJ ?_
  refine au ?_
  refine CP (p:=(57:Int)<c.toNat) Z (fun h=>absurd h yd) (fun _=>CK ?_)
  refine fx ?_
  exact KC
 ·refine ae ?_
  refine VG (VY 23 true Z (DT yd) ?_)
  refine au ?_
  exact CR (al.bool 2 Z Z (DT yd) ER ⟨rfl,Z⟩)
theorem PC{s:ByteArray}(h:Aw s=true):aq Tryz.prog 39 [.string s] Fr w [] (fun v L=>v=.bool true∧L=[]):=by
 unfold Aw at h
 rw[dG] at h
 obtain⟨h1,h2⟩:=h
 have h2:=of_decide_eq_true h2
 refine TF 28 Tryz.func39 Z ym aw Z Z ?_
 refine ae ?_
 refine KB ?_
 intro i hi
 refine ae ?_
 refine CP (p:=(i:Int)<s.size) Z (fun hl=>CK ?_) (fun hl=>CX ?_)
 ·obtain⟨c,hc⟩:=BT (s:=s) (i:=i) yd
  have hr:=Gc h1 hc
  have r1:33≤c.toNat:=UInt8.le_iff_toNat_le.1 hr.1
  have r2:c.toNat≤126:=UInt8.le_iff_toNat_le.1 hr.2
  refine ae ?_
  refine AJ ?_
  refine ae ?_
  refine VG (VY 14 false Z (DF yd) ?_)
  refine au ?_
  refine AJ ?_
  refine au ?_
  refine CP (p:=(126:Int)<c.toNat) Z (fun h=>absurd h yd) (fun _=>CK ?_)
  refine fx ?_
  exact KC
 ·refine ae ?_
  refine VG (VY 23 true Z (DT yd) ?_)
  refine au ?_
  exact CR (al.bool 2 Z Z (DT yd) ER ⟨rfl,Z⟩)
def oF(s:ByteArray):List Value:=[.string s]
theorem Yd(s:ByteArray):(oF s).length=1:=rfl
theorem Ep{a:Option Addr}{cap:Nat}{xs:List ByteArray}(hne:xs≠[])(h:aP oF 1 Fr w a xs)(hc:xs.length≤cap)(hl:xs.length≤1000)(hj:(Lib.join (xs.map (·.data.toList)) jo.data.toList).length≤100000):
  aq Tryz.prog 57 [.slice a xs.length cap] Fr w [] (fun v L=>v=.string (sN xs jo)∧L=[]):=by
 obtain⟨b,o,rfl,hF,hr⟩:=h.at_ hne
 have hx:∀{w':World},(∀(i:Nat) (x:ByteArray),xs[i]?=some x→w'.rangeAt b (o+i*1) (oF x))→∀(j:Nat) (x:ByteArray),xs[j]?=some x→w'.cell? ⟨b,o+j,none⟩=some (.string x):=fun h j x hj=>by
  have:=h j x hj 0 _ rfl
  rw[oO] at this
  exact this
 refine TF 5 Tryz.func57 Z ym aw Z Z ?_
 refine ae ?_
 refine VG (VV (u:=.string (sN xs jo)) (fun Fr w hF' hw _=>?_) Z ?_)
 ·have hk:=h.of hF' hw
  obtain⟨b',o',e,_,hr'⟩:=hk.at_ hne
  cases e
  have hcell:=hx hr'
  refine PI Fr w b o cap xs jo hcell ?_ yd hc yd
  obtain⟨x,l,rfl⟩:=List.exists_cons_of_ne_nil hne
  have:=hcell 0 x rfl
  unfold World.cell? at this
  cases hb:w.heap[b]? with
  | none=>rw[hb] at this;cases this
  | some _=>exact(pY.1 hb).1
 refine ae ?_
 exact jQ
theorem Gd:aq Tryz.prog 52 [.int .i64 0] Fr w [] (fun v L=>v=.string ⟨#[111,107]⟩∧L=[]):=by
 refine TF 9 Tryz.func52 Z ym aw Z Z ?_
 refine oK ?_
 exact jQ
theorem MY(h:iE Fr w):aq Tryz.prog 52 [.int .i64 4] Fr w [] (fun v L=>v=.string ⟨#[101,114,114,111,114,32,52]⟩∧L=[]):=by
 refine TF 9 Tryz.func52 Z ym aw Z Z ?_
 refine iR ?_
 refine VG (VV (fun Fr w hF' hw _=>wi Fr w 4 yd yd (h.st hF' hw)) Z ?_)
 refine VG (VO.buildSlice (n:=2) (pv:=[(0,.string ⟨#[101,114,114,111,114]⟩),(1,.string (jI 4))]) [.string ⟨#[101,114,114,111,114]⟩,.string (jI 4)] Z Z Z Z yn Z fun b=>?_)
 refine VG (VV (fun Fr w hF' hw hS=>Ep Fr w (xs:=[⟨#[101,114,114,111,114]⟩,jI 4]) yf (aP.ar (hS.ar 0 Z) fun i x hx=>?_) (NR _) yn yo) Z ?_)
 ·match i,hx with
  | 0,hx=>cases hx;rfl
  | 1,hx=>cases hx;rfl
 refine ae ?_
 exact CR (al.tmp 2 Z Z aa.nil.ah ⟨congrArg Value.string yo,Z⟩)
end Cl
namespace Cl
open Go Vg T LibC
attribute [local irreducible] VO VC VA
def wF(l:List Int):List Value:=l.map (Value.int .i64)
def qM(l:List ByteArray):List Value:=l.map Value.string
abbrev sr:=Option Addr×Nat
def fW(x:q9)(n t:sr):List Value:=[.slice n.1 x.1.length n.2,.slice t.1 x.2.length t.2]
def vD(x:q9)(n t:sr):List HP:=[av 3 1 n.1 x.1.length n.2 (wF x.1),av 9 1 t.1 x.2.length t.2 (qM x.2)]
def j_(ws:List ByteArray)(us:List UInt8)(k:Nat):q9:=((ws.zip us).take k).foldl oU ([],[])
theorem M0{ws:List ByteArray}{us:List UInt8}{k:Nat}{x:ByteArray}{c:UInt8}(hx:ws[k]?=some x)(hc:us[k]?=some c):j_ ws us (k+1)=oU (j_ ws us k) (x,c):=by
 have:(ws.zip us)[k]?=some (x,c):=List.getElem?_zip_eq_some.2 ⟨hx,hc⟩
 unfold j_
 rw[fS,this,vo]
 rfl
theorem Gf(ws:List ByteArray)(us:List UInt8):∀k,(j_ ws us k).1.length+(j_ ws us k).2.length≤k
 | 0=>by show([]:List Int).length+([]:List ByteArray).length≤0;exact NR _
 | k+1=>by
  have ih:=Gf ws us k
  unfold j_
  rw[fS,vo]
  show(List.foldl oU (j_ ws us k) _).1.length+(List.foldl oU (j_ ws us k) _).2.length≤k+1
  cases (ws.zip us)[k]? with
  | none=>exact Nat.le_succ_of_le ih
  | some x=>
   show(oU (j_ ws us k) x).1.length+(oU (j_ ws us k) x).2.length≤k+1
   unfold oU
   split<;>simp<;>omega
theorem I8{a:Option Addr}{cap:Nat}{ws:List ByteArray}{us:ByteArray}(h:aP oF 1 Fr w a ws)(hl:ws.length≤1000)(hok:vE ws us.data.toList=true)(hsz:∀x∈ws,x.size≤1000):
  aq Tryz.prog 12 [.slice a ws.length cap,.string us] Fr w [] (fun v L=>∃n t,v=.tuple #[.agg (fW (iV ws us.data.toList) n t).toArray,.bool true]∧L=vD (iV ws us.data.toList) n t):=by
 unfold vE at hok
 rw[dG] at hok
 obtain⟨e1,hall⟩:=hok
 have e1:ws.length=us.size:=by have:=of_decide_eq_true e1;simpa using this
 refine TF 54 Tryz.func12 Z ym aw Z Z ?_
 refine CS (CG (VG (VO.alloc Z fun rb=>?_)))
 refine ae ?_
 have eb:((ws.length:Int) != (us.size:Int))=false:=by simp[e1]
 refine VC.kG (congrArg (fun b=>some (Value.bool b)) eb) (CK ?_)
 refine ae ?_
 refine VC.loop (σ:=Nat×sr×sr) (fun s=>[(4,pV rb),(1,.string us),(16,.slice a ws.length cap),(17,.int .i64 ws.length),(18,.int .i64 (s.1:Int))]) (fun s=>pt rb (fW (j_ ws us.data.toList s.1) s.2.1 s.2.2) 48::vD (j_ ws us.data.toList s.1) s.2.1 s.2.2) (fun s=>s.1≤ws.length) (fun s=>ws.length-s.1) (0,(none,0),(none,0))
  (bK _) aF (aa.cons (aa.cN (aa.cN aa.nil))).ah ?_
 rintro⟨k,n,t⟩ hk
 dsimp only at hk ⊢
 refine ae ?_
 refine CP (p:=(k:Int)<ws.length) Z (fun h1=>CK ?_) (fun h1=>CX ?_)
 rotate_left
 ·have ek:j_ ws us.data.toList k=iV ws us.data.toList:=by
   unfold j_ iV
   rw[p4 (by rw[List.length_zip];omega)]
  rw[ek]
  refine ae ?_
  refine VG (VL 0 (fW (iV ws us.data.toList) n t) Z Z Z Z ?_)
  refine VG (VT (vs:=fW (iV ws us.data.toList) n t) (cs':=fW (iV ws us.data.toList) n t) 0 Z Z Z Z (NR _) Z Z Z ?_)
  refine ae ?_
  exact CR (al.cJ 4 5 Z Z Z (an.many (ds:=fW (iV ws us.data.toList) n t) 0 Z Z) Z (IP 1 Z (IP 1 Z aa.nil)).ah ⟨n,t,Z,Z⟩)
 have hkl:k<ws.length:=by omega
 have hx:ws[k]?=some ws[k]:=GE hkl
 generalize ws[k]=x at hx
 obtain⟨c,hc⟩:=BT (s:=us) (i:=k) yd
 have hq:xZ (x,c)=true:=kU.1 hall _ (ME (List.getElem?_zip_eq_some.2 ⟨hx,hc⟩))
 have es:=M0 hx hc
 have hfew:=Gf ws us.data.toList k
 generalize j_ ws us.data.toList k=A at es hfew
 obtain⟨ns,ts⟩:=A
 dsimp only at hfew
 obtain⟨xb,xo,rfl,_,hrd⟩:=aP.rd (X:=⟨Tryz.prog,tab,aw,54,Fr,w⟩) h hx
 refine ae ?_
 refine EE ?_
 refine VG (VO.load Z Z (hrd _ _ 0 _ Z Z) ?_)
 refine ae ?_
 refine VG (VI (sO k Z Z Z Z Z hc) ?_)
 refine ae ?_
 refine CP (p:=(c.toNat:Int)=116) Z (fun h2=>?_) (fun h2=>CK ?_)
 ·have h2:c=116:=UInt8.toNat_inj.1 (by show c.toNat=116;omega)
  have ht:Aw x=true:=by unfold xZ at hq;rw[if_pos h2] at hq;exact hq
  have es:j_ ws us.data.toList (k+1)=(ns,ts ++ [x]):=by rw[es];unfold oU;rw[if_pos h2]
  refine ae ?_
  refine VG (VV (fun Fr w hF hw _=>PC Fr w ht) Z ?_)
  refine pR ?_
  refine aj ?_
  refine VG (VO.buildSlice (n:=1) (pv:=[(0,.string x)]) [.string x] Z Z Z Z yn (fN Z Z Z) fun nb=>?_)
  refine VG (VO.append (m:=1) (news:=[.string x]) 3 Z Z Z Z Z Z Z (dN.pt 0 Z Z Z) Z (by show(_+1)*16≤140737488355328;dsimp only;omega) yp fun a2 c2 _=>?_)
  refine ae ?_
  refine VG (VO.st 2 (cs':=[.slice n.1 ns.length n.2,.slice a2 (ts.length+1) c2]) Z Z Z Z (by show 1<2;omega) Z Z ?_)
  refine ae ?_
  refine CX ?_
  refine fx ?_
  refine⟨(k+1,n,(a2,c2)),by dsimp only;omega,by dsimp only;omega,SC Z (SC Z (SC Z (SC Z (Sub.int Z yd (SN _))))),?_⟩
  dsimp only
  rw[es]
  unfold fW vD qM
  simp only[a_,mh,List.length_nil,fA,kV,List.map_nil]
  exact(aZ [2,2,0]).ah
 have h2:¬c=116:=fun e=>h2 yq
 have hq2:(zJ x&&(numOf x).isSome)=true:=by unfold xZ at hq;rw[if_neg h2] at hq;exact hq
 rw[dG] at hq2
 obtain⟨hnum,hsome⟩:=hq2
 obtain⟨z,hz⟩:=Option.isSome_iff_exists.1 hsome
 have es:j_ ws us.data.toList (k+1)=(ns ++ [z],ts):=by rw[es];unfold oU;rw[if_neg h2,hz];rfl
 refine ae ?_
 refine VG (VV (fun Fr w hF hw _=>PB Fr w hnum) Z ?_)
 refine iR ?_
 refine VG (VV (fun Fr w hF hw _=>M6 Fr w x (by have:=hsz x (ME hx);omega) hz) Z ?_)
 refine aj ?_
 refine VG (VO.buildSlice (n:=1) (pv:=[(0,.int .i64 z)]) [.int .i64 z] Z Z Z Z yn (fN Z Z Z) fun nb=>?_)
 refine VG (VO.append (m:=1) (news:=[.int .i64 z]) 2 Z Z Z Z Z Z Z (dN.pt 0 Z Z Z) Z (by show(_+1)*8≤140737488355328;dsimp only;omega) yp fun a2 c2 _=>?_)
 refine ae ?_
 refine VG (VO.st 2 (cs':=[.slice a2 (ns.length+1) c2,.slice t.1 ts.length t.2]) Z Z Z Z (by show 0<2;omega) Z Z ?_)
 refine fx ?_
 refine⟨(k+1,(a2,c2),t),by dsimp only;omega,by dsimp only;omega,SC Z (SC Z (SC Z (SC Z (Sub.int Z yd (SN _))))),?_⟩
 dsimp only
 rw[es]
 unfold fW vD wF
 simp only[a_,mh,List.length_nil,fA,kV,List.map_nil]
 exact(aZ [2,0,1]).ah
end Cl
namespace Vg
open Go
def ba(f:FuncId)(first capt:List Value):Value:=.func (.func f) first.toArray capt.toArray
theorem uk{X:Cx}{e:Env}{f:FuncId}{first capt:Array Operand}{u v:List Value}(hu:dZ e first.toList=some u)(hv:dZ e capt.toList=some v):eD X (.makeFunc (.func f) first capt) e (ba f u v):=by
 intro a ha dst ty pos after guard w
 have h1:first.map a.eval=u.toArray:=by
  have:=ha.dZ hu
  apply kT.1
  simpa using this
 have h2:capt.map a.eval=v.toArray:=by
  have:=ha.dZ hv
  apply kT.1
  simpa using this
 simp only[execOp]
 show((do pure (Next.value (←Instr.makeFunc (.func f) (first.map a.eval) (capt.map a.eval))):Sem Next)).run X.P w=_
 rw[h1,h2];rfl
theorem Ss{P:Program}{f:FuncId}(h:lJ P f)(a:Act)(x:Operand)(first capt:List Value)(hx:a.eval x=ba f first capt)(args:Array Operand)(tys:Array TypeId)(dst:Option Tmp)(ty:TypeId)(pos:String)(after:Array Edge)(guard:Option (Nat×Bool))(w:World):
  (execOp a.eval ⟨dst,.call ⟨.value x,args,tys⟩,ty,pos,after,guard⟩).run P w=.ok (.enter f (first.toArray++args.map a.eval++capt.toArray)) w:=by
 have:=D' h (first.toArray++args.map a.eval++capt.toArray) w
 simp only[execOp,resolve,hx,ba,Deferred.ofValue,invoke]
 exact this
theorem aG.kc{X:Cx}{f:FuncId}{x:Operand}{first capt:List Value}{args:Array Operand}{tys:Array TypeId}{e:Env}{L Lc Lr:List HP}{vals:List Value}{R:Value→List HP→Prop}
  (hx:ev e x=some (ba f first capt)) (hargs:dZ e args.toList=some vals) (hp:L.Perm (Lc++Lr))
  (ht:∀Fr' w,(∀b,X.Fr b→Fr' b)→St X L w→aV Fr' Lr w→aq X.P f (first++vals++capt) Fr' w Lc R):
  aG X (.call ⟨.value x,args,tys⟩) e L (fun v L'=>∃L1,R v L1∧L'=L1++Lr):=by
 intro a w ha hw dst ty pos after guard
 obtain⟨F,hs,hnd,hb⟩:=hw.sat.perm hp
 obtain⟨Fc,Fl,rfl,hsc,hsl⟩:=df.append.1 hs
 have T:=ht (fun b=>X.Fr b∨b∈Fl) w (fun b h=>.inl h) hw ⟨Fl,hsl,fun b h=>.inr h⟩
 have hev:args.map a.eval=vals.toArray:=by
  have:=ha.dZ hargs
  apply kT.1
  simpa using this
 refine .inr (.inr ⟨f,(first++vals++capt).toArray,?_,?_⟩)
 ·have:=Ss T.yK a x first capt (ha.ev hx) args tys dst ty pos after guard w
  rw[this,hev];simp
 ·obtain⟨hnc,hnl,hdis⟩:=gy.1 hnd
  refine Calls.mono (T.calls (fun b h=>?_) ⟨Fc,hsc,hnc,fun b h=>⟨fun h'=>?_,(hb b ya).2⟩⟩) fun en w' ⟨v,L',h1,h2,h3,h4⟩=>?_
  ·rcases h with h | h
   ·exact hw.kl b h
   ·exact(hb b ya).2
  ·rcases h' with h' | h'
   ·exact(hb b ya).1 h'
   ·exact hdis b h b h' rfl
  ·refine⟨v,L'++Lr,h1,⟨L',h2,Z⟩,⟨?_,hw.bL.trans (h4.mono fun b h=>.inl h),hw.low⟩⟩
   obtain⟨G,hG,hGn,hGb⟩:=h3
   refine⟨G++Fl,df.append.2 ⟨G,Fl,Z,hG,hsl.loc fun b h=>h4.block b (.inr h)⟩,?_,?_⟩
   ·exact Ky
   ·intro b h
    rcases fL.1 h with h | h
    ·exact⟨fun h'=>(hGb b h).1 (.inl h'),(hGb b h).2⟩
    ·exact ED
section
variable {X:Cx} {ops:Array Oper} {G:GS} {l:List Oper} {e:Env} {L:List HP} {K:Env→List HP→Prop} {pl:fU} {S:iF}
  {dst:Option Tmp} {ty:TypeId} {pos:String} {after:Array Edge} {guard:Option (Nat×Bool)}
theorem VO.kc{f:FuncId}{x:Operand}{first capt:List Value}{args:Array Operand}{tys:Array TypeId}{vals:List Value}{R:Value→List HP→Prop}{Lc Lr:List HP}(hx:ev e x=some (ba f first capt))
  (ht:∀Fr' w,(∀b,X.Fr b→Fr' b)→St X L w→aV Fr' Lr w→aq X.P f (first++vals++capt) Fr' w Lc R) (hargs:dZ e args.toList=some vals) (hL:L=Lc++Lr)
  (hk:∀v L1,R v L1→VO X ops G l (bI dst v e) (L1++Lr) K)
  (hg:bN ops G guard=some true:=by rfl) (hd:b9 X.n dst=true:=by rfl) (hf:bP G dst=true:=by rfl):
  VO X ops G (⟨dst,.call ⟨.value x,args,tys⟩,ty,pos,after,guard⟩::l) e L K:=
 VO.op hg hd hf (aG.kc hx hargs (hL▸.refl _) ht) fun v L' ⟨L1,h1,h2⟩=>by subst h2;exact hk v L1 h1
theorem aG.GD{φ:Value→Prop}{f:FuncId}{x:Operand}{first capt:List Value}{args:Array Operand}{tys:Array TypeId}{vals:List Value}(hx:ev e x=some (ba f first capt))
  (ht:∀Fr' w,(∀b,X.Fr b→Fr' b)→St X L w→aV Fr' L w→aq X.P f (first++vals++capt) Fr' w [] (fun v L=>φ v∧L=[])) (hargs:dZ e args.toList=some vals):
  aG X (.call ⟨.value x,args,tys⟩) e L (fun v L'=>φ v∧L'=L):=fun a w ha hw dst ty pos after guard=>by
 have key:∀v (L':List HP),(∃L1,(φ v∧L1=[])∧L'=L1++L)→φ v∧L'=L:=by
  rintro v L' ⟨L1,⟨h1,h2⟩,h3⟩
  rw[h2] at h3;exact⟨h1,h3⟩
 rcases aG.kc (Lc:=[]) (Lr:=L) hx hargs (.refl _) ht a w ha hw dst ty pos after guard with ⟨v,w',L',h1,h2,h3⟩ | ⟨w',L',h1,h2,h3⟩ | ⟨f',args',h1,h2⟩
 ·exact .inl ⟨v,w',L',h1,key _ _ h2,h3⟩
 ·exact .inr (.inl ⟨w',L',h1,key _ _ h2,h3⟩)
 ·refine .inr (.inr ⟨f',args',h1,Calls.mono h2 ?_⟩)
  rintro en w' ⟨v,L',h3,h4,h5⟩
  exact⟨v,L',h3,key _ _ h4,h5⟩
theorem VO.tS{u:Value}{f:FuncId}{x:Operand}{first capt:List Value}{args:Array Operand}{tys:Array TypeId}{vals:List Value}(hx:ev e x=some (ba f first capt))
  (ht:∀Fr' w,(∀b,X.Fr b→Fr' b)→St X L w→aV Fr' L w→aq X.P f (first++vals++capt) Fr' w [] (fun v L=>v=u∧L=[])) (hargs:dZ e args.toList=some vals)
  (hk:VO X ops G l (bI dst u e) L K)
  (hg:bN ops G guard=some true:=by rfl) (hd:b9 X.n dst=true:=by rfl) (hf:bP G dst=true:=by rfl):
  VO X ops G (⟨dst,.call ⟨.value x,args,tys⟩,ty,pos,after,guard⟩::l) e L K:=
 VO.op hg hd hf (aG.GD (φ:=fun v=>v=u) hx ht hargs) fun v L' ⟨h1,h2⟩=>by subst h1;subst h2;exact hk
theorem VA.tS{u:Value}{j:Nat}{f:FuncId}{x:Operand}{first capt:List Value}{args:Array Operand}{tys:Array TypeId}{vals:List Value}(hx:ev e x=some (ba f first capt))
  (ht:∀Fr' w,(∀b,X.Fr b→Fr' b)→St X L w→aV Fr' L w→aq X.P f (first++vals++capt) Fr' w [] (fun v L=>v=u∧L=[]))
  (hi:ops.toList[j]?=some ⟨dst,.call ⟨.value x,args,tys⟩,ty,pos,after,guard⟩) (hargs:dZ e args.toList=some vals) (hst:Pd X L (S.filter fun p=>!waits ops j p.1))
  (hk:VA X ops G pl (S.filter fun p=>!waits ops j p.1) (bI dst u e) L K)
  (hg:bN ops G guard=some true:=by rfl) (hd:b9 X.n dst=true:=by rfl) (hf:bP G dst=true:=by rfl):VA X ops G (.only j pl) S e L K:=
 AO (aG.GD (φ:=fun v=>v=u) hx ht hargs) hi (fun v L' ⟨h1,h2⟩=>by subst h2;exact hst) (fun v L' ⟨h1,h2⟩=>by subst h1;subst h2;exact hk) hg hd hf
theorem aG.kF{f:FuncId}{x:Operand}{first capt:List Value}{args:Array Operand}{tys:Array TypeId}{vals:List Value}{H:HP}{R:Value→List HP→Prop}{ψ:Value→HP→Prop}(i:Nat)(hx:ev e x=some (ba f first capt))
  (hL:L[i]?=some H) (ht:∀Fr' w,(∀b,X.Fr b→Fr' b)→St X L w→aV Fr' (L.eraseIdx i) w→aq X.P f (first++vals++capt) Fr' w [H] R) (hargs:dZ e args.toList=some vals)
  (hR:∀v L1,R v L1→∃H',L1=[H']∧ψ v H'):
  aG X (.call ⟨.value x,args,tys⟩) e L (fun v L'=>∃H',ψ v H'∧L'=L.set i H'):=by
 intro a w ha hw dst ty pos after guard
 have hi:i<L.length:=(cH.1 hL).1
 have key:∀v w' L',(∃L1,R v L1∧L'=L1++L.eraseIdx i)→St X L' w'→∃L'',(∃H',ψ v H'∧L''=L.set i H')∧St X L'' w':=by
  rintro v w' _ ⟨L1,h1,rfl⟩ hs
  obtain⟨H',rfl,hψ⟩:=hR v L1 h1
  exact⟨_,⟨H',hψ,Z⟩,cI.back i H' hi w' hs⟩
 rcases aG.kc (R:=R) hx hargs (Lc:=[H]) (Lr:=L.eraseIdx i) (mH hL) ht a w ha hw dst ty pos after guard with ⟨v,w',L',h1,h2,h3⟩ | ⟨w',L',h1,h2,h3⟩ | ⟨f,args,h1,h2⟩
 ·obtain⟨L'',h4,h5⟩:=key _ _ _ h2 h3
  exact .inl ⟨v,w',L'',h1,h4,h5⟩
 ·obtain⟨L'',h4,h5⟩:=key _ _ _ h2 h3
  exact .inr (.inl ⟨w',L'',h1,h4,h5⟩)
 ·refine .inr (.inr ⟨f,args,h1,Calls.mono h2 ?_⟩)
  rintro en w' ⟨v,L',h3,h4,h5⟩
  obtain⟨L'',h6,h7⟩:=key _ _ _ h4 h5
  exact⟨v,L'',h3,h6,h7⟩
theorem VO.kF{f:FuncId}{x:Operand}{first capt:List Value}{args:Array Operand}{tys:Array TypeId}{vals:List Value}{H:HP}{R:Value→List HP→Prop}{ψ:Value→HP→Prop}(i:Nat)(hx:ev e x=some (ba f first capt))
  (hL:L[i]?=some H) (ht:∀Fr' w,(∀b,X.Fr b→Fr' b)→St X L w→aV Fr' (L.eraseIdx i) w→aq X.P f (first++vals++capt) Fr' w [H] R) (hargs:dZ e args.toList=some vals)
  (hR:∀v L1,R v L1→∃H',L1=[H']∧ψ v H') (hk:∀v H',ψ v H'→VO X ops G l (bI dst v e) (L.set i H') K)
  (hg:bN ops G guard=some true:=by rfl) (hd:b9 X.n dst=true:=by rfl) (hf:bP G dst=true:=by rfl):
  VO X ops G (⟨dst,.call ⟨.value x,args,tys⟩,ty,pos,after,guard⟩::l) e L K:=
 VO.op hg hd hf (aG.kF i hx hL ht hargs hR) fun v L' ⟨H',h1,h2⟩=>by subst h2;exact hk v H' h1
theorem VA.kF{j:Nat}{f:FuncId}{x:Operand}{first capt:List Value}{args:Array Operand}{tys:Array TypeId}{vals:List Value}{H:HP}{R:Value→List HP→Prop}{ψ:Value→HP→Prop}(i:Nat)(hx:ev e x=some (ba f first capt))
  (hL:L[i]?=some H) (ht:∀Fr' w,(∀b,X.Fr b→Fr' b)→St X L w→aV Fr' (L.eraseIdx i) w→aq X.P f (first++vals++capt) Fr' w [H] R)
  (hi:ops.toList[j]?=some ⟨dst,.call ⟨.value x,args,tys⟩,ty,pos,after,guard⟩) (hargs:dZ e args.toList=some vals)
  (hR:∀v L1,R v L1→∃H',L1=[H']∧ψ v H') (hst:∀v H',ψ v H'→Pd X (L.set i H') (S.filter fun p=>!waits ops j p.1))
  (hk:∀v H',ψ v H'→VA X ops G pl (S.filter fun p=>!waits ops j p.1) (bI dst v e) (L.set i H') K)
  (hg:bN ops G guard=some true:=by rfl) (hd:b9 X.n dst=true:=by rfl) (hf:bP G dst=true:=by rfl):VA X ops G (.only j pl) S e L K:=
 AO (aG.kF i hx hL ht hargs hR) hi (fun v L' ⟨H',h1,h2⟩=>by subst h2;exact hst v H' h1) (fun v L' ⟨H',h1,h2⟩=>by subst h2;exact hk v H' h1) hg hd hf
end
theorem aP.av{α:Type}{c:α→List Value}{n el cap:Nat}{a:Option Addr}{xs:List α}{Fr:Nat→Prop}{w:World}(hc:∀x,(c x).length=n)(h:aV Fr [av el n a xs.length cap (flat c xs)] w):aP c n Fr w a xs:=by
 obtain⟨F,⟨ids,G,hF,⟨h1,h2⟩,hG⟩,hf⟩:=h
 rcases h2 with ⟨rfl,h3,_,_⟩ | ⟨b,rest,rfl,rfl,h4,h5,h6⟩
 ·obtain rfl:xs=[]:=gI h3
  exact aP.nil
 ·exact⟨fun _=>⟨b,0,Z,hf b (by rw[hF];simp),fun i x hx=>DZ h6 (by rw[bZ];exact kK hc hx rest)⟩⟩
theorem Sub.bl{e' e:Env}{t:Nat}{a b:Bool}(h:look e t=some (Value.bool a))(hab:a=b)(hs:Sub e' e):Sub ((t,.bool b)::e') e:=by subst hab;exact SC h hs
theorem al.XD{X:Cx}{fn:Func}{R:Value→List HP→Prop}{e:Env}{L:List HP}{T:TypeId}{ti:TI}{b:Nat}{v u:Value}(q p:Nat)(h:fn.results=#[.tmp q,.cell p T])(hq:look e q=some u)(hp:look e p=some (.pointer (some ⟨b,0,none⟩)))(hT:bD X.tab T=some ti)
  (hr:an X L ti b 0 v) {L':List HP} (he:cI X L L') (hR:R (.tuple #[u,v]) L'):al X fn R e L:=
 ⟨_,L',⟨fun a w ha hw=>by
  have:=Ai (X.ok.look hT) (hr w hw)
  have hp':=ha.at_ p _ hp
  have hq':=ha.at_ q _ hq
  simp only[vm] at hp' hq'
  simp[results,h,hp',hq',asAddr,this]⟩,he,hR⟩
end Vg
namespace Cl
open Go Vg T LibC
attribute [local irreducible] VO VC VA
def Xp:TI:={ ax:=.other,size:=1,bytes:=8,zero:=.nilFunc,zs:=[.nilFunc] }
def Xo:TI:={ ax:=.struct [(0,1),(1,1),(2,1)],size:=3,bytes:=40,zero:=.agg ([.string ⟨#[]⟩,.string ⟨#[]⟩,.nilFunc]:List Value).toArray,zs:=[.string ⟨#[]⟩,.string ⟨#[]⟩,.nilFunc] }
abbrev Cb:Nat:=46
abbrev O1:Nat:=44
def Xq:kC:=(Cb,Xo)::(O1,Xp)::tab
theorem JU:nS Tryz.prog Xq:=fun p hp=>by
 rcases gK.1 hp with rfl | hp
 ·exact⟨by kernel_rfl,by kernel_rfl,Z,Z⟩
 ·rcases gK.1 hp with rfl | hp
  ·exact⟨by kernel_rfl,by kernel_rfl,Z,Z⟩
  ·exact aw p hp
def oZ(c:xP):List Value:=[.string c.1,.string c.2.1,ba c.2.2 [] []]
theorem NV(c:xP):(oZ c).length=3:=rfl
theorem NX:aq Tryz.prog 11 [] Fr w [] (fun v L=>∃b,v=.slice (some ⟨b,0,none⟩) 22 22∧L=[pt b (flat oZ mv) 46]):=by
 refine TF 24 Tryz.func11 Z ym JU Z Z ?_
 refine ae ?_
 refine VG (VI (LB (pv:=[(0,.string ⟨#[112,117,116]⟩),(1,.string ⟨#[110,116,116]⟩),(2,ba 17 [] [])]) [.string ⟨#[112,117,116]⟩,.string ⟨#[110,116,116]⟩,ba 17 [] []] Z Z Z Z Z) ?_)
 refine VG (VI (LB (pv:=[(0,.string ⟨#[115,119,97,112]⟩),(1,.string ⟨#[110,116,116,110]⟩),(2,ba 18 [] [])]) [.string ⟨#[115,119,97,112]⟩,.string ⟨#[110,116,116,110]⟩,ba 18 [] []] Z Z Z Z Z) ?_)
 refine VG (VI (LB (pv:=[(0,.string ⟨#[100,101,108]⟩),(1,.string ⟨#[110,116]⟩),(2,ba 19 [] [])]) [.string ⟨#[100,101,108]⟩,.string ⟨#[110,116]⟩,ba 19 [] []] Z Z Z Z Z) ?_)
 refine VG (VI (LB (pv:=[(0,.string ⟨#[103,101,116]⟩),(1,.string ⟨#[110,116]⟩),(2,ba 20 [] [])]) [.string ⟨#[103,101,116]⟩,.string ⟨#[110,116]⟩,ba 20 [] []] Z Z Z Z Z) ?_)
 refine VG (VI (LB (pv:=[(0,.string ⟨#[115,116,101,112]⟩),(1,.string ⟨#[110]⟩),(2,ba 21 [] [])]) [.string ⟨#[115,116,101,112]⟩,.string ⟨#[110]⟩,ba 21 [] []] Z Z Z Z Z) ?_)
 refine VG (VI (LB (pv:=[(0,.string ⟨#[99,114,97,115,104]⟩),(1,.string ⟨#[110]⟩),(2,ba 22 [] [])]) [.string ⟨#[99,114,97,115,104]⟩,.string ⟨#[110]⟩,ba 22 [] []] Z Z Z Z Z) ?_)
 refine VG (VI (LB (pv:=[(0,.string ⟨#[115,117,115,112,101,99,116]⟩),(1,.string ⟨#[110]⟩),(2,ba 23 [] [])]) [.string ⟨#[115,117,115,112,101,99,116]⟩,.string ⟨#[110]⟩,ba 23 [] []] Z Z Z Z Z) ?_)
 refine VG (VI (LB (pv:=[(0,.string ⟨#[106,111,105,110]⟩),(1,.string ⟨#[110]⟩),(2,ba 24 [] [])]) [.string ⟨#[106,111,105,110]⟩,.string ⟨#[110]⟩,ba 24 [] []] Z Z Z Z Z) ?_)
 refine VG (VI (LB (pv:=[(0,.string ⟨#[100,114,97,105,110]⟩),(1,.string ⟨#[110]⟩),(2,ba 25 [] [])]) [.string ⟨#[100,114,97,105,110]⟩,.string ⟨#[110]⟩,ba 25 [] []] Z Z Z Z Z) ?_)
 refine VG (VI (LB (pv:=[(0,.string ⟨#[116,105,99,107]⟩),(1,.string ⟨#[]⟩),(2,ba 26 [] [])]) [.string ⟨#[116,105,99,107]⟩,.string ⟨#[]⟩,ba 26 [] []] Z Z Z Z Z) ?_)
 refine VG (VI (LB (pv:=[(0,.string ⟨#[119,97,116,99,104]⟩),(1,.string ⟨#[]⟩),(2,ba 27 [] [])]) [.string ⟨#[119,97,116,99,104]⟩,.string ⟨#[]⟩,ba 27 [] []] Z Z Z Z Z) ?_)
 refine VG (VI (LB (pv:=[(0,.string ⟨#[100,101,108,105,118,101,114]⟩),(1,.string ⟨#[110,110]⟩),(2,ba 28 [] [])]) [.string ⟨#[100,101,108,105,118,101,114]⟩,.string ⟨#[110,110]⟩,ba 28 [] []] Z Z Z Z Z) ?_)
 refine VG (VI (LB (pv:=[(0,.string ⟨#[100,114,111,112]⟩),(1,.string ⟨#[110,110]⟩),(2,ba 29 [] [])]) [.string ⟨#[100,114,111,112]⟩,.string ⟨#[110,110]⟩,ba 29 [] []] Z Z Z Z Z) ?_)
 refine VG (VI (LB (pv:=[(0,.string ⟨#[100,111,117,98,108,101]⟩),(1,.string ⟨#[110,110]⟩),(2,ba 30 [] [])]) [.string ⟨#[100,111,117,98,108,101]⟩,.string ⟨#[110,110]⟩,ba 30 [] []] Z Z Z Z Z) ?_)
 refine VG (VI (LB (pv:=[(0,.string ⟨#[114,111,117,110,100]⟩),(1,.string ⟨#[110]⟩),(2,ba 31 [] [])]) [.string ⟨#[114,111,117,110,100]⟩,.string ⟨#[110]⟩,ba 31 [] []] Z Z Z Z Z) ?_)
 refine VG (VI (LB (pv:=[(0,.string ⟨#[99,104,97,105,110]⟩),(1,.string ⟨#[]⟩),(2,ba 32 [] [])]) [.string ⟨#[99,104,97,105,110]⟩,.string ⟨#[]⟩,ba 32 [] []] Z Z Z Z Z) ?_)
 refine VG (VI (LB (pv:=[(0,.string ⟨#[110,111,100,101]⟩),(1,.string ⟨#[110]⟩),(2,ba 33 [] [])]) [.string ⟨#[110,111,100,101]⟩,.string ⟨#[110]⟩,ba 33 [] []] Z Z Z Z Z) ?_)
 refine VG (VI (LB (pv:=[(0,.string ⟨#[99,108,105,101,110,116]⟩),(1,.string ⟨#[110]⟩),(2,ba 34 [] [])]) [.string ⟨#[99,108,105,101,110,116]⟩,.string ⟨#[110]⟩,ba 34 [] []] Z Z Z Z Z) ?_)
 refine VG (VI (LB (pv:=[(0,.string ⟨#[109,97,105,108]⟩),(1,.string ⟨#[]⟩),(2,ba 35 [] [])]) [.string ⟨#[109,97,105,108]⟩,.string ⟨#[]⟩,ba 35 [] []] Z Z Z Z Z) ?_)
 refine VG (VI (LB (pv:=[(0,.string ⟨#[97,117,100,105,116]⟩),(1,.string ⟨#[]⟩),(2,ba 36 [] [])]) [.string ⟨#[97,117,100,105,116]⟩,.string ⟨#[]⟩,ba 36 [] []] Z Z Z Z Z) ?_)
 refine VG (VI (LB (pv:=[(0,.string ⟨#[108,105,110,101,97,114]⟩),(1,.string ⟨#[]⟩),(2,ba 37 [] [])]) [.string ⟨#[108,105,110,101,97,114]⟩,.string ⟨#[]⟩,ba 37 [] []] Z Z Z Z Z) ?_)
 refine VG (VI (LB (pv:=[(0,.string ⟨#[97,108,105,118,101]⟩),(1,.string ⟨#[]⟩),(2,ba 38 [] [])]) [.string ⟨#[97,108,105,118,101]⟩,.string ⟨#[]⟩,ba 38 [] []] Z Z Z Z Z) ?_)
 refine VG (VO.buildSlice (n:=22) (pv:=[(0,.agg (List.toArray [.string ⟨#[112,117,116]⟩,.string ⟨#[110,116,116]⟩,ba 17 [] []])),(1,.agg (List.toArray [.string ⟨#[115,119,97,112]⟩,.string ⟨#[110,116,116,110]⟩,ba 18 [] []])),(2,.agg (List.toArray [.string ⟨#[100,101,108]⟩,.string ⟨#[110,116]⟩,ba 19 [] []])),(3,.agg (List.toArray [.string ⟨#[103,101,116]⟩,.string ⟨#[110,116]⟩,ba 20 [] []])),(4,.agg (List.toArray [.string ⟨#[115,116,101,112]⟩,.string ⟨#[110]⟩,ba 21 [] []])),(5,.agg (List.toArray [.string ⟨#[99,114,97,115,104]⟩,.string ⟨#[110]⟩,ba 22 [] []])),(6,.agg (List.toArray [.string ⟨#[115,117,115,112,101,99,116]⟩,.string ⟨#[110]⟩,ba 23 [] []])),(7,.agg (List.toArray [.string ⟨#[106,111,105,110]⟩,.string ⟨#[110]⟩,ba 24 [] []])),(8,.agg (List.toArray [.string ⟨#[100,114,97,105,110]⟩,.string ⟨#[110]⟩,ba 25 [] []])),(9,.agg (List.toArray [.string ⟨#[116,105,99,107]⟩,.string ⟨#[]⟩,ba 26 [] []])),(10,.agg (List.toArray [.string ⟨#[119,97,116,99,104]⟩,.string ⟨#[]⟩,ba 27 [] []])),(11,.agg (List.toArray [.string ⟨#[100,101,108,105,118,101,114]⟩,.string ⟨#[110,110]⟩,ba 28 [] []])),(12,.agg (List.toArray [.string ⟨#[100,114,111,112]⟩,.string ⟨#[110,110]⟩,ba 29 [] []])),(13,.agg (List.toArray [.string ⟨#[100,111,117,98,108,101]⟩,.string ⟨#[110,110]⟩,ba 30 [] []])),(14,.agg (List.toArray [.string ⟨#[114,111,117,110,100]⟩,.string ⟨#[110]⟩,ba 31 [] []])),(15,.agg (List.toArray [.string ⟨#[99,104,97,105,110]⟩,.string ⟨#[]⟩,ba 32 [] []])),(16,.agg (List.toArray [.string ⟨#[110,111,100,101]⟩,.string ⟨#[110]⟩,ba 33 [] []])),(17,.agg (List.toArray [.string ⟨#[99,108,105,101,110,116]⟩,.string ⟨#[110]⟩,ba 34 [] []])),(18,.agg (List.toArray [.string ⟨#[109,97,105,108]⟩,.string ⟨#[]⟩,ba 35 [] []])),(19,.agg (List.toArray [.string ⟨#[97,117,100,105,116]⟩,.string ⟨#[]⟩,ba 36 [] []])),(20,.agg (List.toArray [.string ⟨#[108,105,110,101,97,114]⟩,.string ⟨#[]⟩,ba 37 [] []])),(21,.agg (List.toArray [.string ⟨#[97,108,105,118,101]⟩,.string ⟨#[]⟩,ba 38 [] []]))]) (flat oZ mv) Z Z Z Z yn ym fun b=>?_)
 refine ae ?_
 exact CR (al.tmp 0 Z Z ER ⟨b,Z,Z⟩)
end Cl
namespace Api
open Go Vg T
attribute [local irreducible] VO VC VA
structure bp where
 kind:Int
 key:ByteArray
 value:ByteArray
 version:Int
def bp.cells(o:bp):List Value:=[.int .i64 o.kind,.string o.key,.string o.value,.int .i64 o.version]
def nt(o:bp):Bool:=
 decide (o.kind<1)||decide (4<o.kind)||decide (o.key.size=0)||decide (o.version<0)||decide (4096<o.version)||(decide (o.version≠0)&&decide (o.kind≠4)) ||
  (decide (o.value.size≠0) && !(decide (o.kind=2)||decide (o.kind=4)))
def px(o:bp):Bool:=decide (16<o.key.size)||decide (64<o.value.size)
def c_(o:bp):Int:=if nt o then 2 else if px o then 3 else 0
def eQ(o:bp):Int:=if c_ o=0 then 16+o.key.size+o.value.size else 0
theorem Es(s:ByteArray):s.toList.length=s.size:=by rw[ByteArray.toList_eq];simp
theorem JQ(s:ByteArray)(t:ByteArray)(ht:t.size=0):(s.toList == t.toList)=decide (s.size=0):=by
 have h2:t.toList=[]:=gI (by rw[Es];exact ht)
 rw[h2]
 by_cases h:s.size=0
 ·have h1:s.toList=[]:=gI (by rw[Es];exact h)
  rw[h1];simp[h]
 ·have h1:s.toList≠[]:=fun e=>h (by rw[←Es,e];rfl)
  simp[h]
  exact h1
theorem AD(k:Int):aq Tryz.prog 225 [.int .i64 k] Fr w [] (fun v L=>v=.bool (decide (k=2)||decide (k=4))∧L=[]):=by
 refine TF 9 Tryz.func225 Z ym aw Z Z ?_
 refine CS (CG (VG (VN (CS (CG (VG (VO.split 5 Z Z (fun h=>VG (VN (CR ?_))) (fun h=>VG (VN (CR ?_))))))))))
 ·exact al.bool 2 Z Z (by have:=eq_of_beq h;simp[this]) ER ⟨rfl,Z⟩
 ·exact al.bool 2 rfl rfl (by have h:=ne_of_beq_false h;by_cases h4:k=4<;>simp[h,h4]) ER ⟨rfl,rfl⟩
theorem gq(o:bp):aq Tryz.prog 175 [.agg o.cells.toArray] Fr w [] (fun v L=>v=.int .i64 (c_ o)∧L=[]):=by
 refine TF 49 Tryz.func175 Z ym aw Z Z ?_
 refine CS (CG (VG (VB (vs:=o.cells) Z (fun b=>VG (VN ?_)))))
 refine CS (VC.block ?_)
 refine VC.meet (σ:=Bool) (fun s=>[(1,pV b),(3,.bool s)]) (fun _=>[pt b o.cells 85]) (fun s=>s=nt o) ?_ ?_
 ·have K:=JQ o.key (ByteArray.mk #[]) rfl
  have V:=JQ o.value (ByteArray.mk #[]) rfl
  refine CS (CG (VG (VO.ld 0 Z Z Z Z (VG (VO.split 7 Z Z (fun h1=>VG (VN ?_)) (fun h1=>VG (VO.ld 0 Z Z Z Z (VG (VN ?_)))))))))
  ·refine VC.lf Z (CK ⟨true,?_,aF,ER⟩)
   simp[nt,h1]
  have h1:=of_decide_eq_false h1
  refine CP Z (fun h2=>CK ⟨_,?_,SC Z (SC Z (SN _)),ER⟩) (fun h2=>?_)
  ·simp[nt,h2]
  refine CS (CG (VG (VO.ld 0 Z Z Z Z (VG (VN ?_)))))
  refine CC (t:=decide (o.key.size=0)) (congrArg (fun x=>some (Value.bool x)) K) (fun h3=>CK ⟨_,?_,SC Z (SC Z (SN _)),ER⟩) (fun h3=>?_)
  ·rw[K];have h3:=of_decide_eq_true h3;simp[nt,h3]
  have h3:=of_decide_eq_false h3
  refine CS (CG (VG (VO.ld 0 Z Z Z Z (VG (VO.split 18 Z Z (fun h4=>VG (VN ?_)) (fun h4=>VG (VO.ld 0 Z Z Z Z (VG (VN ?_)))))))))
  ·refine VC.lf Z (CK ⟨true,?_,aF,ER⟩)
   simp[nt,h4]
  have h4:=of_decide_eq_false h4
  refine CP Z (fun h5=>CK ⟨_,?_,SC Z (SC Z (SN _)),ER⟩) (fun h5=>?_)
  ·simp[nt,h5]
  refine CS (CG (VG (VO.ld 0 Z Z Z Z (VG (VO.split 26 Z Z (fun h6=>VG (VO.ld 0 Z Z Z Z (VG (VN ?_)))) (fun h6=>VG (VN ?_)))))))
  ·have h6:o.version≠0:=by simpa using h6
   refine VC.dd Z (fun h7=>CK ⟨_,?_,SC Z (SC Z (SN _)),ER⟩) (fun h7=>?_)
   ·simp[nt,h6,h7]
   have V2:(!(o.value.toList == (ByteArray.mk #[]).toList))=decide (o.value.size≠0):=by rw[V];simp
   refine aj ?_
   refine VG (VO.split 34 (b:=decide (o.value.size≠0)) (congrArg (fun x=>some (Value.bool x)) V2) Z (fun h8=>?_) (fun h8=>?_))
   ·have h8:=of_decide_eq_true h8
    refine aj ?_
    refine VG (VO.iY (fun Fr w=>AD Fr w o.kind) Z (VG (VN ⟨_,?_,SC Z (SC Z (SN _)),ER⟩)))
    simp[nt,h1,h2,h3,h4,h5,h6,h7,h8]
   ·have h8:=of_decide_eq_false h8
    refine aj ?_
    refine⟨_,?_,SC Z (SC Z (SN _)),ER⟩
    simp[nt,h1,h2,h3,h4,h5,h6,h7,h8]
  ·have h6:o.version=0:=by simpa using h6
   have h7:True:=trivial
   have V2:(!(o.value.toList == (ByteArray.mk #[]).toList))=decide (o.value.size≠0):=by rw[V];simp
   refine oG ?_
   refine aj ?_
   refine VG (VO.split 34 (b:=decide (o.value.size≠0)) (congrArg (fun x=>some (Value.bool x)) V2) Z (fun h8=>?_) (fun h8=>?_))
   ·have h8:=of_decide_eq_true h8
    refine aj ?_
    refine VG (VO.iY (fun Fr w=>AD Fr w o.kind) Z (VG (VN ⟨_,?_,SC Z (SC Z (SN _)),ER⟩)))
    simp[nt,h1,h2,h3,h4,h5,h6,h7,h8]
   ·have h8:=of_decide_eq_false h8
    refine aj ?_
    refine⟨_,?_,SC Z (SC Z (SN _)),ER⟩
    simp[nt,h1,h2,h3,h4,h5,h6,h7,h8]
 intro s hs
 subst hs
 refine CC Z (fun h1=>?_) (fun h1=>?_)
 ·refine aj ?_
  exact CR (al.int 2 Z Z (by simp[c_,h1]) aa.nil.ah ⟨rfl,Z⟩)
 ·refine aj ?_
  refine CP Z (fun h2=>CK (CP Z (fun _=>?_) (fun h=>absurd h2 h))) (fun h2=>?_)
  ·have h2:16<(o.key.size:Int):=h2
   refine aj ?_
   exact CR (al.int 2 Z Z yr aa.nil.ah ⟨rfl,Z⟩)
  ·have h2:¬16<(o.key.size:Int):=h2
   refine aj ?_
   refine CP Z (fun h3=>?_) (fun h3=>?_)
   ·have h3:64<(o.value.size:Int):=h3
    refine aj ?_
    exact CR (al.int 2 Z Z yr aa.nil.ah ⟨rfl,Z⟩)
   ·have h3:¬64<(o.value.size:Int):=h3
    refine vl ?_
    refine CR (al.int 2 Z Z ?_ aa.nil.ah ⟨rfl,Z⟩)
    have e:px o=false:=by simp[px];omega
    simp[c_,e,h1]
theorem N0(o:bp):aq Tryz.prog 365 [.agg o.cells.toArray] Fr w [] (fun v L=>v=.int .i64 (eQ o)∧L=[]):=by
 refine TF 14 Tryz.func365 Z ym aw Z Z ?_
 refine CS (CG (VG (VB (vs:=o.cells) Z (fun b=>VG (VN ?_)))))
 refine CS (CS (CG (VG (VL 0 o.cells Z Z Z Z (VG (VO.iY (fun Fr w=>gq Fr w o) Z (VG (VN ?_))))))))
 refine VC.dd Z (fun h1=>?_) (fun h1=>?_)
 ·refine aj ?_
  exact CR (al.int 2 Z Z (by simp[eQ,h1]) aa.nil.ah ⟨rfl,Z⟩)
 ·refine CK ?_
  have hl:px o=false:=by
   unfold c_ at h1;split at h1
   ·omega
   ·split at h1
    ·omega
    ·rename_i h;simpa using h
  have hk:o.key.size≤16∧o.value.size≤64:=by simp[px] at hl;omega
  refine aj ?_
  refine VG (VP Z Z ?_ ?_ ?_)
  ·omega
  ·omega
  refine aj ?_
  refine VG (VP Z Z ?_ ?_ ?_)
  ·omega
  ·omega
  refine aj ?_
  exact CR (al.int 2 Z Z (by simp[eQ,h1]) aa.nil.ah ⟨rfl,Z⟩)
end Api
namespace Api
open Go Vg T
structure fV where
 code:Int
 value:ByteArray
 version:Int
 at_:Int
structure bS where
 index:Int
 aI:Int
 seq:Int
 op:bp
structure aA where
 kind:Int
 aB:Int
 aI:Int
 seq:Int
 bz:Int
 cls:Int
 deadline:Int
 op:bp
 res:fV
 reason:Int
 entry:bS
 dE:Int
 drain:Int
 index:Int
 rL:Int
 dp:Int
abbrev bj:=Int×Int
def aC(m:bj):List Value:=[.int .i64 m.1,.int .i64 m.2]
theorem cj(m:bj):(aC m).length=2:=rfl
theorem sV(m:bj):(aC m).all Value.oneCell'=true:=rfl
abbrev aN:TypeId:=96
abbrev gM:=Option Addr×Nat×Nat
abbrev vy:=gM
def aA.cells(f:aA)(m:vy):List Value:=
  [.int .i64 f.kind,.int .i64 f.aB,.int .i64 f.aI,.int .i64 f.seq,.int .i64 f.bz,.int .i64 f.cls,.int .i64 f.deadline,
   .int .i64 f.op.kind,.string f.op.key,.string f.op.value,.int .i64 f.op.version,
   .int .i64 f.res.code,.string f.res.value,.int .i64 f.res.version,.int .i64 f.res.at_,.int .i64 f.reason,
   .int .i64 f.entry.index,.int .i64 f.entry.aI,.int .i64 f.entry.seq,.int .i64 f.entry.op.kind,.string f.entry.op.key,.string f.entry.op.value,.int .i64 f.entry.op.version,
   .int .i64 f.dE,.slice m.1 m.2.1 m.2.2,.int .i64 f.drain,.int .i64 f.index,.int .i64 f.rL,.int .i64 f.dp]
abbrev FM:=aA×vy
def aS(p:FM):List Value:=p.1.cells p.2
theorem sI(p:FM):(aS p).length=29:=rfl
def DI:bp:=⟨0,⟨#[]⟩,⟨#[]⟩,0⟩
def aA.zero:aA:=⟨0,0,0,0,0,0,0,DI,⟨0,⟨#[]⟩,0,0⟩,0,⟨0,0,0,DI⟩,0,0,0,0,0⟩
def d_:FM:=(aA.zero,none,0,0)
theorem aa.tl{H:HP}{L:List HP}:aa (H::L) L:=aa.app (L:=[H]) (M:=[]) aa.nil aa.refl
def iv(m:gM):HP:=hex fun ms:List bj=>b_ [jb (ms.length=m.2.1∧ms.length≤1000000),av aN 2 m.1 m.2.1 m.2.2 (flat aC ms)]
def kz(Fr:Nat→Prop)(w:World)(m:gM):Prop:=∃ms:List bj,ms.length=m.2.1∧ms.length≤1000000∧aP aC 2 Fr w m.1 ms
theorem kz.of{X:Cx}{m:gM}(h:kz X.Fr X.w0 m){Fr':Nat→Prop}(hF:∀b,X.Fr b→Fr' b){w:World}{L:List HP}(hw:St X L w):kz Fr' w m:=by
 obtain⟨ms,h1,h2,h3⟩:=h
 exact⟨ms,h1,h2,aP.of h3 hF hw⟩
theorem kz.sat{Fr:Nat→Prop}{w:World}{m:gM}(h:aV Fr [iv m] w):kz Fr w m:=by
 obtain⟨ms,h⟩:=h.ex
 have h:=h.sep
 have hp:=h.pure 0 rfl
 have h1:=h.at_ 1 rfl
 obtain⟨a,n,c⟩:=m
 dsimp only at hp h1
 obtain⟨rfl,hl⟩:=hp
 exact⟨ms,Z,hl,aP.av cj h1⟩
theorem aa.Dm{L M:List HP}(h:aa L M):aa L (iv (none,0,0)::M):=
 aa.ex (f:=fun ms:List bj=>b_ [jb (ms.length=0∧ms.length≤1000000),av aN 2 none 0 0 (flat aC ms)]) [] (aa.sep (Ls:=[jb _,av aN 2 none 0 0 (flat aC [])]) (aa.pure ⟨rfl,by decide⟩ (aa.cN h)))
theorem IE{l:List FM}{k:Nat}{x:FM}(hk:k<l.length):aa (iv x.2::l.map fun r=>iv r.2) ((l.set k x).map fun r=>iv r.2):=by
 rw[gJ]
 exact aa.put k (by simpa using hk)
theorem QZ{l:List FM}{k:Nat}{x:FM}(h:l[k]?=some x):(l.map fun r=>iv r.2)[k]?=some (iv x.2):=by rw[dH,h];rfl
end Api
namespace Cl
open Go Vg Api
abbrev Bs:=List UInt8
def bT(l:Bs):ByteArray:=⟨l.toArray⟩
abbrev sB(s:ByteArray):Bs:=s.data.toList
theorem gn(a:Bs):(bT a).size=a.length:=by show(a.toArray).size=_;simp
theorem kE(a b:Bs):bT (a++b)=bT a++bT b:=ByteArray.ext (by simp[bT])
theorem M8{a b:Bs}(h:bT a=bT b):a=b:=by
 have:=congrArg (fun s:ByteArray=>s.data.toList) h
 simpa[bT] using this
theorem Gi(s:ByteArray):bT (sB s)=s:=by simp[bT,sB]
theorem wU(s:ByteArray):(sB s).length=s.size:=by show s.data.toList.length=s.data.size;simp
theorem Sz(l:Bs):sB (bT l)=l:=by simp[bT,sB]
def nj:Nat→Nat→Bs
 | 0,_=>[]
 | k+1,n=>if n=0 then [] else UInt8.ofNat (n % 256)::nj k (n / 256)
def mE(n:Nat):Bs:=if n≤247 then [UInt8.ofNat n] else UInt8.ofNat (247+(nj 8 n).length)::(nj 8 n).reverse
def jx(l:Bs):Nat:=l.foldl (fun n b=>n*256+b.toNat) 0
def lY:Bs→Option (Nat×Bs)
 | []=>none
 | c::r=>if c.toNat≤247 then some (c.toNat,r) else if r.length<c.toNat-247 then none
  else if mE (jx (r.take (c.toNat-247)))=c::r.take (c.toNat-247) then some (jx (r.take (c.toNat-247)),r.drop (c.toNat-247)) else none
theorem C8:∀(k n:Nat),(nj k n).length≤k
 | 0,_=>NR _
 | k+1,n=>by
  unfold nj
  split
  ·exact bK _
  ·have:=C8 k (n / 256);simp;omega
theorem Nd(l:Bs)(b:UInt8):jx (l ++ [b])=jx l*256+b.toNat:=by simp[jx,vo]
theorem Gq:∀(l:Bs),jx l<256 ^ l.length:=fun l=>by
 have key:∀(l:Bs) (n k:Nat),n<256 ^ k→l.foldl (fun n b=>n*256+b.toNat) n<256 ^ (k+l.length):=by
  intro l
  induction l with
  | nil=>intro n k h;simpa using h
  | cons b l ih=>
   intro n k h
   rw[xH,mh,show k+(l.length+1)=(k+1)+l.length from by omega]
   refine ih _ _ ?_
   have hb:b.toNat<256:=b.toNat_lt
   rw[Nat.pow_succ];omega
 have:=key l 0 0 yn
 simpa[jx] using this
theorem D5{s:Bs}{n:Nat}{r:Bs}(h:lY s=some (n,r)):r.length<s.length:=by
 cases s with
 | nil=>cases h
 | cons c l=>
  rw[lY] at h
  split at h
  ·cases h;simp
  ·split at h
   ·cases h
   ·split at h
    ·simp only[Option.some.injEq,Prod.mk.injEq] at h;obtain⟨rfl,rfl⟩:=h;rw[q3,mh];omega
    ·cases h
theorem Jk{s:Bs}{n:Nat}{r:Bs}(h:lY s=some (n,r)):n<18446744073709551616:=by
 cases s with
 | nil=>cases h
 | cons c l=>
  have hc:c.toNat<256:=c.toNat_lt
  rw[lY] at h
  split at h
  ·cases h;omega
  ·split at h
   ·cases h
   ·split at h
    ·simp only[Option.some.injEq,Prod.mk.injEq] at h
     obtain⟨rfl,rfl⟩:=h
     have h1:=Gq (l.take (c.toNat-247))
     have h2:(l.take (c.toNat-247)).length≤8:=by rw[iT];omega
     have h3:256 ^ (l.take (c.toNat-247)).length≤256 ^ 8:=xO yn h2
     have h4:256 ^ 8=18446744073709551616:=rfl
     omega
    ·cases h
def dJ(n:Int):Bs:=if n < -1∨1099511627776<n then [] else mE (n+1).toNat
def bR(s:Bs):Option (Int×Bs):=match lY s with
 | some (u,r)=>if 1099511627777<u then none else some ((u:Int)-1,r)
 | none=>none
theorem XR{s:Bs}{n:Int}{r:Bs}(h:bR s=some (n,r)):-1≤n∧n≤1099511627776∧r.length<s.length:=by
 unfold bR at h
 cases hr:lY s with
 | none=>rw[hr] at h;cases h
 | some x=>
  obtain⟨u,r'⟩:=x
  rw[hr] at h
  dsimp only at h
  split at h
  ·cases h
  ·have:=D5 hr
   cases h
   omega
def oC(s:Bs):Bs:=mE s.length++s
def iG(s:Bs):Option (Bs×Bs):=match lY s with
 | some (n,r)=>if r.length<n then none else some (r.take n,r.drop n)
 | none=>none
end Cl
namespace Vg
open Go Go.MapKept
def kX(P:Program)(t:TypeId)(d0:Nat)(u v:Value)(r:Bool):Prop:=∀d,d0≤d→∀w:World,(Op.equalIn (d+1) t u v).run P w=.ok r w
theorem kX.int{P:Program}{t:TypeId}{k j:IntKind}(ht:P.underlying t=some (.int k))(a b:Int):kX P t 0 (.int j a) (.int j b) (decide (a=b)):=fun d _ w=>by
 rw[Op.equalIn,Sem.run_bind,run_underlying ht]
 simp;rfl
def p7(P:Program)(d0:Nat)(xs ys:List Value)(fs:List Field)(r:Bool):Prop:=∀d,d0≤d→∀w:World,(Op.eqFields (d+1) xs.toArray ys.toArray fs).run P w=.ok r w
theorem p7.nil{P:Program}{xs ys:List Value}:p7 P 0 xs ys [] true:=fun d _ w=>rfl
theorem p7.cons{P:Program}{d0 d1:Nat}{xs ys:List Value}{f:Field}{fs:List Field}{r s:Bool}{u v:Value}(hn:f.name ≠ "_")(hx:∀w:World,(part f.type xs.toArray f.offset).run P w=.ok u w)(hy:∀w:World,(part f.type ys.toArray f.offset).run P w=.ok v w)
  (h:kX P f.type d0 u v r) (hs:p7 P d1 xs ys fs s):p7 P (max d0 d1) xs ys (f::fs) (r&&s):=fun d hd w=>by
 unfold Op.eqFields
 rw[if_pos hn]
 simp only[Sem.run_bind,hx,hy,Result.andThen_ok,h d yd w]
 cases r
 ·simp
 ·simpa using hs d yd w
theorem rW{P:Program}{t:TypeId}{cs:List Value}{off:Nat}{v:Value}{ti:TI}(ht:aE P t ti)(ha:ti.ax.agg=false)(hv:cs[off]?=some v)(w:World):(part t cs.toArray off).run P w=.ok v w:=by
 unfold part
 rw[Sem.run_bind,ht.F9,ha]
 have:cs.toArray[off]?=some v:=by simpa using hv
 simp[this]
theorem kX.st{P:Program}{t:TypeId}{d0:Nat}{xs ys:List Value}{r:Bool}{fs:Array Field}(ht:P.underlying t=some (.struct fs))(hp:P.stoodInHeld t=false)(h:p7 P d0 xs ys fs.toList r):kX P t (d0+1) (.agg xs.toArray) (.agg ys.toArray) r:=fun d hd w=>by
 have hf:P.fieldsOf t=fs:=by unfold Program.fieldsOf;rw[ht]
 rw[run_equalIn_struct w d t _ _ (by rw[hf];exact ht) hp,hf]
 obtain⟨k,rfl⟩:∃k,d=k+1:=⟨d-1,by omega⟩
 exact h k yd w
theorem kX.eq{P:Program}{t:TypeId}{d0:Nat}{u v:Value}{r s:Bool}(h:kX P t d0 u v r)(e:r=s):kX P t d0 u v s:=e▸h
theorem kX.run{P:Program}{t:TypeId}{d0:Nat}{u v:Value}{r:Bool}(h:kX P t d0 u v r)(hd:d0≤9999)(w:World):(Op.equal t u v).run P w=.ok r w:=by
 unfold Op.equal
 exact h 9999 hd w
theorem VC.cZ{X:Cx}{σ:Type}(E:σ→Env)(H:σ→List HP)(I:σ→Prop){b c:Code}{e:Env}{L:List HP}{Q:Exit→Env→List HP→Prop}
  (hb:VC X b e L (IA X E H I Q)) (hc:∀s,I s→VC X c (E s) (H s) Q):VC X b e L (JG X c Q):=
 hb.mono fun x e' L' h=>by
  cases x with
  | normal=>
   obtain⟨s,hI,hE,hH⟩:=h
   exact((hc s hI).ah hH).sub hE
  | exit id=>exact h
  | goto l=>exact h
  | ret=>exact h
  | panic ch=>exact h
  | outgrown=>exact h
end Vg
namespace Ch
open Go Vg T Api
attribute [local irreducible] VO VC VA
abbrev cX:TypeId:=91
structure aW where
 aB:Int
 ms:List bj
 drain:Int
def aW.cells(c:aW)(a:Option Addr)(cap:Nat):List Value:=[.int .i64 c.aB,.slice a c.ms.length cap,.int .i64 c.drain]
def placeOf(ms:List bj)(n:Int):Int:=match ms.findIdx? (fun m=>decide (m.1=n)) with
 | some i=>i
 | none=>-1
theorem RM{ms:List bj}{n:Int}{i:Nat}{m:bj}(hm:ms[i]?=some m)(h:m.1=n)(hno:∀j m,j<i→ms[j]?=some m→m.1≠n):placeOf ms n=i:=by
 obtain⟨h1,h2⟩:=cH.1 hm
 have:ms.findIdx? (fun m=>decide (m.1=n))=some i:=by
  rw[List.findIdx?_eq_some_iff_getElem]
  refine⟨h1,by rw[h2];simp[h],fun j hj=>?_⟩
  have:=hno j _ hj (GE yd)
  simpa using this
 rw[placeOf,this]
theorem RO{ms:List bj}{n:Int}(hno:∀j m,j<ms.length→ms[j]?=some m→m.1≠n):placeOf ms n=-1:=by
 have:ms.findIdx? (fun m=>decide (m.1=n))=none:=by
  rw[List.findIdx?_eq_none_iff]
  intro m hm
  obtain⟨j,h1,h2⟩:=List.getElem_of_mem hm
  have:=hno j m h1 (by rw[GE h1,h2])
  simpa using this
 rw[placeOf,this]
theorem s3(ms:List bj)(n:Int):placeOf ms n=-1∨∃(i:Nat) (m:bj),placeOf ms n=i∧i<ms.length∧ms[i]?=some m∧m.1=n:=by
 unfold placeOf
 cases h:ms.findIdx? (fun m=>decide (m.1=n)) with
 | none=>exact .inl rfl
 | some i=>
  obtain⟨h1,h2,_⟩:=List.findIdx?_eq_some_iff_getElem.1 h
  exact .inr ⟨i,ms[i],Z,h1,GE h1,by simpa using h2⟩
section
variable {c:aW} {a:Option Addr} {cap:Nat}
theorem zY{b:Nat}(hb:a7 Fr w b (c.cells a cap))(h:aP aC 2 Fr w a c.ms)(hl:c.ms.length≤9223372036854775807)(n:Int):
  aq Tryz.prog 181 [.int .i64 n,.pointer (some ⟨b,0,none⟩)] Fr w [] (fun v L=>v=.int .i64 (placeOf c.ms n)∧L=[]):=by
 refine TF 20 Tryz.func181 Z ym aw Z Z ?_
 refine kS ?_
 refine VC.loop (σ:=Nat) (fun i=>[(0,.int .i64 n),(1,pV b),(7,.slice a c.ms.length cap),(8,.int .i64 c.ms.length),(9,.int .i64 i)]) (fun _=>[]) (fun i=>i≤c.ms.length∧∀j m,j<i→c.ms[j]?=some m→m.1≠n) (fun i=>c.ms.length-i) 0
  ⟨bK _,fun j m hj=>by omega⟩ aF ER ?_
 rintro i ⟨hi,hno⟩
 refine aj ?_
 refine CP Z (fun h1=>CK ?_) (fun h1=>CX ?_)
 ·have hi2:i<c.ms.length:=by omega
  obtain⟨m,hm⟩:∃m,c.ms[i]?=some m:=⟨_,GE hi2⟩
  obtain⟨mb,mo,hma,ra,rc⟩:=aP.rd (X:=⟨Tryz.prog,tab,aw,20,Fr,w⟩) h hm
  subst hma
  refine sf ?_
  refine tq ?_
  refine VG (VO.alloc Z fun xb=>?_)
  refine VG (VT (vs:=aC m) 0 Z Z Z Z (NR _) Z Z Z ?_)
  refine aj ?_
  refine CE Z (fun h2=>?_) (fun h2=>CK ?_)
  ·refine aj ?_
   exact CR (al.tmp 3 Z Z aa.nil.ah ⟨by rw[RM hm h2 hno],Z⟩)
  ·refine gG ?_
   exact⟨i+1,⟨hi2,fun j m' hj hm'=>by
    by_cases hji:j=i
    ·subst hji;rw[hm] at hm';cases hm';exact h2
    ·exact hno j m' yd hm'⟩,by dsimp only;omega,aF,aa.nil.ah⟩
 ·obtain rfl:i=c.ms.length:=by omega
  refine aj ?_
  exact CR (al.tmp 3 Z Z aa.nil.ah ⟨by rw[RO hno],Z⟩)
theorem I9:aq Tryz.prog 143 [.agg (c.cells a cap).toArray] Fr w [] (fun v L=>∃b,v=ba 181 [] [.pointer (some ⟨b,0,none⟩)]∧L=[pt b (c.cells a cap) cX]):=by
 refine TF 4 Tryz.func143 Z ym aw Z Z ?_
 refine CS (CG (VG (VB (vs:=c.cells a cap) Z fun b=>?_)))
 refine aj ?_
 refine EF ?_
 refine aj ?_
 exact CR (al.tmp 2 Z Z ER ⟨b,Z,Z⟩)
def pq(n:Int):Bool:=decide (0≤n)&&decide (n<6)
theorem I2(n:Int):aq Tryz.prog 163 [.int .i64 n] Fr w [] (fun v L=>v=.bool (pq n)∧L=[]):=by
 refine TF 9 Tryz.func163 Z ym aw Z Z ?_
 refine aj ?_
 by_cases h1:0≤n
 ·refine VG (VY 5 true Z (DT h1) ?_)
  refine bF ?_
  exact CR (al.bool 2 Z Z (by simp[pq,h1]) ER ⟨rfl,Z⟩)
 ·refine VG (VY 5 false Z (DF h1) ?_)
  refine bF ?_
  exact CR (al.bool 2 Z Z (by simp[pq,h1]) ER ⟨rfl,Z⟩)
def qu(c:aW)(i:Nat):Bool:=match c.ms[i]? with
 | some m=>pq m.1&&(decide (placeOf c.ms m.1=i)&&(decide (1≤m.2)&&decide (m.2≤c.aB)))
 | none=>true
def sK(c:aW):Bool:=decide (1≤c.aB)&&(decide (c.aB≤1099511627776)&&(decide (1≤c.ms.length)&&decide (c.ms.length≤6)))
def vP(c:aW):Bool:=decide (c.drain=-1)||decide (0≤placeOf c.ms c.drain)
def k_(c:aW):Bool:=sK c&&((List.range c.ms.length).all (qu c)&&vP c)
def fp(c:aW):Int:=if k_ c then 0 else 2
theorem gq(h:aP aC 2 Fr w a c.ms)(hl:c.ms.length≤9223372036854775807):aq Tryz.prog 121 [.agg (c.cells a cap).toArray] Fr w [] (fun v L=>v=.int .i64 (fp c)∧L=[]):=by
 refine TF 71 Tryz.func121 Z ym aw Z Z ?_
 refine CS (CG (VG (VB (vs:=c.cells a cap) Z fun b=>?_)))
 refine VG (VN (CS (CS ?_)))
 refine VC.cZ (σ:=Unit) (fun _=>[(1,pV b),(25,.bool (!sK c))]) (fun _=>[pt b (c.cells a cap) cX]) (fun _=>True) ?_ ?_
 ·refine aj ?_
  by_cases h1:c.aB<1
  ·refine VG (VY 9 true Z (DT h1) ?_)
   refine bF ?_
   refine VG (VY 14 true Z Z ?_)
   refine bF ?_
   refine VG (VY 20 true Z Z ?_)
   refine bF ?_
   exact KE
  refine VG (VY 9 false Z (DF h1) ?_)
  refine bF ?_
  by_cases h2:1099511627776<c.aB
  ·refine VG (VY 14 true Z (DT h2) ?_)
   refine bF ?_
   refine VG (VY 20 true Z Z ?_)
   refine bF ?_
   exact KE
  refine VG (VY 14 false Z (DF h2) ?_)
  refine bF ?_
  by_cases h3:(c.ms.length:Int)<1
  ·refine VG (VY 20 true Z (DT h3) ?_)
   refine bF ?_
   exact⟨(),trivial,SC Z (Sub.bl Z (by rw[sK,DF (show ¬1≤c.ms.length by omega)];simp) (SN _)),ER⟩
  refine VG (VY 20 false Z (DF h3) ?_)
  refine bF ?_
  refine⟨(),trivial,SC Z (Sub.bl Z ?_ (SN _)),ER⟩
  have e1:decide (1≤c.aB)=true:=DT yd
  have e2:decide (c.aB≤1099511627776)=true:=DT yd
  have e3:decide (1≤c.ms.length)=true:=DT yd
  rw[sK,e1,e2,e3]
  by_cases h4:6<(c.ms.length:Int)
  ·rw[DT h4,DF (show ¬c.ms.length≤6 by omega)];rfl
  ·rw[DF h4,DT (show c.ms.length≤6 by omega)];rfl
 rintro _ -
 refine VC.ey Z (fun hh=>?_) (fun hh=>CK ?_)
 ·refine aj ?_
  exact CR (al.tmp 2 Z Z aa.nil.ah ⟨by rw[fp,k_,hh];rfl,Z⟩)
 refine sg ?_
 refine xe ?_
 rintro _ _ ⟨pb,rfl,rfl⟩
 refine cF ?_
 have hmv:∀(i:Nat),qu c i=false→i<c.ms.length→k_ c=false:=fun i h1 h2=>by
  have:(List.range c.ms.length).all (qu c)=false:=by
   rw[vn];exact⟨i,List.mem_range.2 h2,by rw[h1];simp⟩
  rw[k_,this];simp
 refine VC.loop (σ:=Nat) (fun i=>[(1,pV b),(3,ba 181 [] [.pointer (some ⟨pb,0,none⟩)]),(29,.slice a c.ms.length cap),(30,.int .i64 c.ms.length),(31,.int .i64 i)]) (fun _=>[pt pb (c.cells a cap) cX,pt b (c.cells a cap) cX]) (fun i=>i≤c.ms.length∧(List.range i).all (qu c)=true) (fun i=>c.ms.length-i) 0
  ⟨bK _,rfl⟩ aF ER ?_
 rintro i ⟨hi,hall⟩
 refine aj ?_
 refine CP Z (fun h1=>CK ?_) (fun h1=>CX ?_)
 ·have hi2:i<c.ms.length:=by omega
  obtain⟨m,hm⟩:∃m,c.ms[i]?=some m:=⟨_,GE hi2⟩
  have hmo:qu c i=(pq m.1&&(decide (placeOf c.ms m.1=i)&&(decide (1≤m.2)&&decide (m.2≤c.aB)))):=by rw[qu,hm]
  obtain⟨mb,mo,hma,ra,rc⟩:=aP.rd (X:=⟨Tryz.prog,tab,aw,71,Fr,w⟩) h hm
  subst hma
  refine sf ?_
  refine tq ?_
  refine VG (VO.alloc Z fun xb=>?_)
  refine VG (VT (vs:=aC m) 0 Z Z Z Z (NR _) Z Z Z (VG (VN ?_)))
  refine CS ?_
  refine VC.cZ (σ:=Unit) (fun _=>[(1,pV b),(3,ba 181 [] [.pointer (some ⟨pb,0,none⟩)]),(29,.slice (some ⟨mb,mo,none⟩) c.ms.length cap),(30,.int .i64 c.ms.length),(31,.int .i64 i),(59,.bool (!qu c i))]) (fun _=>[pt pb (c.cells (some ⟨mb,mo,none⟩) cap) cX,pt b (c.cells (some ⟨mb,mo,none⟩) cap) cX]) (fun _=>True) ?_ ?_
  ·have S3:∀{E:Env} {t:Bool},Vg.look E 59=some (.bool t)→t=(!qu c i)→Vg.look E 1=some (.pointer (some ⟨b,0,none⟩))→Vg.look E 3=some (ba 181 [] [.pointer (some ⟨pb,0,none⟩)])→Vg.look E 29=some (.slice (some ⟨mb,mo,none⟩) c.ms.length cap)→Vg.look E 30=some (.int .i64 c.ms.length)→Vg.look E 31=some (.int .i64 i) →
     Sub [(1,pV b),(3,ba 181 [] [.pointer (some ⟨pb,0,none⟩)]),(29,.slice (some ⟨mb,mo,none⟩) c.ms.length cap),(30,.int .i64 c.ms.length),(31,.int .i64 i),(59,.bool (!qu c i))] E:=fun h0 h1 h2 h3 h4 h5 h6=>SC h2 (SC h3 (SC h4 (SC h5 (SC h6 (Sub.bl h0 h1 (SN _))))))
   refine gh ?_
   refine VG (VO.iY (fun Fr w=>I2 Fr w m.1) Z ?_)
   refine gh ?_
   cases hn:pq m.1 with
   | false=>
    refine xf ?_
    refine gZ ?_
    refine VG (VY 48 true Z Z ?_)
    refine gZ ?_
    refine VG (VY 53 true Z Z ?_)
    refine gZ ?_
    exact⟨(),trivial,S3 Z (by rw[hmo,hn];rfl) Z Z Z Z Z,(aZ [1,1]).ah⟩
   | true=>
   refine uT ?_
   refine gZ ?_
   refine VG (VO.tS (u:=.int .i64 (placeOf c.ms m.1)) Z (fun Fr w hF hs hS=>zY Fr w (hS.ar 1 Z) (h.of hF hs) hl m.1) Z ?_)
   refine gZ ?_
   by_cases h2:placeOf c.ms m.1=i
   ·refine VG (VY 48 false Z yj ?_)
    refine gZ ?_
    by_cases h3:m.2<1
    ·refine VG (VY 53 true Z (DT h3) ?_)
     refine gZ ?_
     exact⟨(),trivial,S3 Z (by rw[hmo,DF (show ¬1≤m.2 by omega)];simp) Z Z Z Z Z,(aZ [1,1]).ah⟩
    refine VG (VY 53 false Z (DF h3) ?_)
    refine gZ ?_
    exact⟨(),trivial,S3 Z (by
     rw[hmo,hn,DT h2,DT (show 1≤m.2 by omega)]
     by_cases h4:c.aB<m.2
     ·rw[DT h4,DF (show ¬m.2≤c.aB by omega)];rfl
     ·rw[DF h4,DT (show m.2≤c.aB by omega)];rfl) rfl rfl rfl rfl rfl,(aZ [1,1]).ah⟩
   ·refine VG (VY 48 true Z yj ?_)
    refine gZ ?_
    refine VG (VY 53 true Z Z ?_)
    refine gZ ?_
    exact⟨(),trivial,S3 Z (by rw[hmo,DF h2];simp) Z Z Z Z Z,(aZ [1,1]).ah⟩
  rintro _ -
  refine VC.ey Z (fun hb=>?_) (fun hb=>CK ?_)
  ·refine aj ?_
   exact CR (al.tmp 2 Z Z aa.nil.ah ⟨by rw[fp,hmv i hb hi2];rfl,Z⟩)
  ·refine gG ?_
   exact⟨i+1,⟨hi2,by rw[tK,xF,hall];simp[hb]⟩,by dsimp only;omega,aF,ER⟩
 ·obtain rfl:i=c.ms.length:=by omega
  have hce:fp c=if vP c then 0 else 2:=by rw[fp,k_,hh,hall];simp
  refine cF ?_
  by_cases hd:c.drain=-1
  ·refine VG (VY 64 false Z (by simp[hd]) ?_)
   refine iC ?_
   refine iQ ?_
   refine aj ?_
   exact CR (al.tmp 2 Z Z aa.nil.ah ⟨by rw[hce,vP,DT hd];rfl,Z⟩)
  ·refine VG (VY 64 true Z (by simp[hd]) ?_)
   refine iC ?_
   refine VG (VO.tS (u:=.int .i64 (placeOf c.ms c.drain)) Z (fun Fr w hF hs hS=>zY Fr w (hS.ar 0 Z) (h.of hF hs) hl c.drain) Z ?_)
   refine iC ?_
   refine CP Z (fun h5=>?_) (fun h5=>CK ?_)
   ·refine aj ?_
    exact CR (al.tmp 2 Z Z aa.nil.ah ⟨by rw[hce,vP,DF hd,DF yd];rfl,Z⟩)
   ·refine aj ?_
    exact CR (al.tmp 2 Z Z aa.nil.ah ⟨by rw[hce,vP,DT (show 0≤placeOf c.ms c.drain by omega)];simp,Z⟩)
def qt(c:aW)(i:Int):Int:=if k_ c∧0≤i∧i<c.ms.length then ((c.ms[i.toNat]?).getD (0,0)).1 else -1
theorem zz(h:aP aC 2 Fr w a c.ms)(hl:c.ms.length≤9223372036854775807)(i:Int):aq Tryz.prog 331 [.agg (c.cells a cap).toArray,.int .i64 i] Fr w [] (fun v L=>v=.int .i64 (qt c i)∧L=[]):=by
 refine TF 25 Tryz.func331 Z ym aw Z Z ?_
 refine CS (CG (VG (VB (vs:=c.cells a cap) Z fun b=>?_)))
 refine sg ?_
 refine VG (VV (fun Fr w hF hs hS=>gq Fr w (h.of hF hs) hl) Z ?_)
 refine aj ?_
 cases hc:k_ c with
 | false=>
  refine VG (VY 8 true Z yu ?_)
  refine bF ?_
  refine VG (VY 12 true Z Z ?_)
  refine pS ?_
  exact CR (al.tmp 4 Z Z aa.nil.ah ⟨by rw[qt,if_neg (by rw[hc];simp)],Z⟩)
 | true=>
 refine VG (VY 8 false Z yu ?_)
 refine bF ?_
 by_cases h1:i<0
 ·refine VG (VY 12 true Z (DT h1) ?_)
  refine pS ?_
  exact CR (al.tmp 4 Z Z aa.nil.ah ⟨by rw[qt,if_neg yd],Z⟩)
 refine VG (VY 12 false Z (DF h1) ?_)
 refine bF ?_
 refine CP Z (fun h2=>?_) (fun h2=>CK ?_)
 ·refine aj ?_
  exact CR (al.tmp 4 Z Z aa.nil.ah ⟨by rw[qt,if_neg yd],Z⟩)
 ·obtain⟨k,rfl⟩:∃k:Nat,i=k:=⟨i.toNat,by omega⟩
  have hk:k<c.ms.length:=by omega
  obtain⟨m,hm⟩:∃m,c.ms[k]?=some m:=⟨_,GE hk⟩
  obtain⟨mb,mo,hma,ra,rc⟩:=aP.rd (X:=⟨Tryz.prog,tab,aw,25,Fr,w⟩) h hm
  subst hma
  refine aj ?_
  refine xg ?_
  refine aj ?_
  refine VG (VO.load Z Z (rc _ _ 0 _ Z Z) ?_)
  refine aj ?_
  exact CR (al.tmp 4 Z Z aa.nil.ah ⟨by rw[qt,if_pos ⟨hc,by omega,by omega⟩,fy,hm];rfl,Z⟩)
def ug(c:aW):Int:=qt c 0
def tm(c:aW):Int:=qt c (c.ms.length-1)
def zI(c:aW)(n:Int):Int:=if placeOf c.ms n<0 then -1 else qt c (placeOf c.ms n+1)
def Ja(c:aW)(n:Int):Int:=qt c (placeOf c.ms n-1)
def dm(c:aW)(n:Int):Int×Bool:=if k_ c∧0≤placeOf c.ms n then (((c.ms[(placeOf c.ms n).toNat]?).getD (0,0)).2,true) else (0,false)
theorem v7(h:aP aC 2 Fr w a c.ms)(hl:c.ms.length≤9223372036854775807):aq Tryz.prog 280 [.agg (c.cells a cap).toArray] Fr w [] (fun v L=>v=.int .i64 (ug c)∧L=[]):=by
 refine TF 5 Tryz.func280 Z ym aw Z Z ?_
 refine CS (CG (VG (VB (vs:=c.cells a cap) Z fun b=>?_)))
 refine sg ?_
 refine VG (VV (fun Fr w hF hs hS=>zz Fr w (h.of hF hs) hl 0) Z ?_)
 refine aj ?_
 exact qO
theorem w7(h:aP aC 2 Fr w a c.ms)(hl:c.ms.length≤9223372036854775807):aq Tryz.prog 324 [.agg (c.cells a cap).toArray] Fr w [] (fun v L=>v=.int .i64 (tm c)∧L=[]):=by
 refine TF 9 Tryz.func324 Z ym aw Z Z ?_
 refine CS (CG (VG (VB (vs:=c.cells a cap) Z fun b=>?_)))
 refine sg ?_
 refine aj ?_
 refine mN ?_
 refine VG (VV (fun Fr w hF hs hS=>zz Fr w (h.of hF hs) hl (c.ms.length-1)) Z ?_)
 refine aj ?_
 exact qO
theorem qx(h:aP aC 2 Fr w a c.ms)(hl:c.ms.length≤1000000)(n:Int):aq Tryz.prog 340 [.agg (c.cells a cap).toArray,.int .i64 n] Fr w [] (fun v L=>v=.int .i64 (zI c n)∧L=[]):=by
 have hp:=s3 c.ms n
 refine TF 16 Tryz.func340 Z ym aw Z Z ?_
 refine CS (CG (VG (VB (vs:=c.cells a cap) Z fun b=>?_)))
 refine sg ?_
 refine xe ?_
 rintro _ _ ⟨pb,rfl,rfl⟩
 refine aj ?_
 refine AK ?_
 refine aj ?_
 refine CP Z (fun h1=>?_) (fun h1=>CK ?_)
 ·refine aj ?_
  exact CR (al.tmp 4 Z Z aa.nil.ah ⟨by rw[zI,if_pos h1],Z⟩)
 ·have hpl:placeOf c.ms n<1000000:=by
   rcases hp with hp | ⟨i,m,h2,h3,_⟩<;>omega
  refine aj ?_
  refine tr ?_
  refine vb ?_
  refine VG (VV (fun Fr w hF hs hS=>zz Fr w (h.of hF hs) yd (placeOf c.ms n+1)) Z ?_)
  refine aj ?_
  exact CR (al.tmp 4 Z Z aa.nil.ah ⟨by rw[zI,if_neg h1],Z⟩)
theorem Aa(h:aP aC 2 Fr w a c.ms)(hl:c.ms.length≤1000000)(n:Int):aq Tryz.prog 356 [.agg (c.cells a cap).toArray,.int .i64 n] Fr w [] (fun v L=>v=.int .i64 (Ja c n)∧L=[]):=by
 have hp:=s3 c.ms n
 have hpl:-1≤placeOf c.ms n∧placeOf c.ms n<1000000:=by
  rcases hp with hp | ⟨i,m,h2,h3,_⟩<;>omega
 refine TF 12 Tryz.func356 Z ym aw Z Z ?_
 refine CS (CG (VG (VB (vs:=c.cells a cap) Z fun b=>VG ?_)))
 refine jr ?_
 refine CS (CD (.take 0 (.take 1 (.take 3 (.only 2 (.only 4 (.take 5 (.only 6 (.take 7 .nil)))))))) ym yo ?_)
 refine AG (VA.cK 0 (c.cells a cap) Z Z Z Z Z ?_)
 refine AG (VA.cK 0 (c.cells a cap) Z Z Z Z Z ?_)
 refine bg ?_
 refine AG (AO (OC (Lc:=[]) (R:=fun v L=>∃b,v=ba 181 [] [.pointer (some ⟨b,0,none⟩)]∧L=[pt b (c.cells a cap) cX]) Z (.refl _) (fun Fr w hF hs hS=>I9 Fr w)) Z ?_ ?_)
 ·rintro _ _ ⟨_,⟨pb,rfl,rfl⟩,rfl⟩
  exact yv
 rintro _ _ ⟨_,⟨pb,rfl,rfl⟩,rfl⟩
 refine AG (VA.tS (u:=.int .i64 (placeOf c.ms n)) Z (fun Fr w hF hs hS=>zY Fr w (hS.ar 0 Z) (h.of hF hs) yd n) Z Z yv ?_)
 refine qP ?_
 refine AG (AR (fun Fr w hF hs hS=>zz Fr w (h.of hF hs) yd (placeOf c.ms n-1)) Z Z yv ?_)
 refine bg ?_
 exact uU
theorem Ek(h:aP aC 2 Fr w a c.ms)(hl:c.ms.length≤1000000)(n:Int):aq Tryz.prog 90 [.agg (c.cells a cap).toArray,.int .i64 n] Fr w [] (fun v L=>v=.tuple #[.int .i64 (dm c n).1,.bool (dm c n).2]∧L=[]):=by
 have hp:=s3 c.ms n
 refine TF 24 Tryz.func90 Z ym aw Z Z ?_
 refine CS (CG (VG (VB (vs:=c.cells a cap) Z fun b=>?_)))
 refine sg ?_
 refine xe ?_
 rintro _ _ ⟨pb,rfl,rfl⟩
 refine aj ?_
 refine AK ?_
 refine aj ?_
 refine tr ?_
 refine VG (VV (fun Fr w hF hs hS=>gq Fr w (h.of hF hs) yd) Z ?_)
 refine aj ?_
 cases hc:k_ c with
 | false=>
  refine VG (VY 14 true Z yu ?_)
  refine pS ?_
  exact CR (al.cz 4 5 Z Z Z aa.nil.ah ⟨by rw[dm,if_neg (by rw[hc];simp)],Z⟩)
 | true=>
 refine VG (VY 14 false Z yu ?_)
 refine bF ?_
 refine CP Z (fun h1=>?_) (fun h1=>CK ?_)
 ·refine aj ?_
  exact CR (al.cz 4 5 Z Z Z aa.nil.ah ⟨by rw[dm,if_neg yd],Z⟩)
 ·rcases hp with hp | ⟨k,m,h2,h3,h4,h5⟩
  ·omega
  obtain⟨mb,mo,hma,ra,rc⟩:=aP.rd (X:=⟨Tryz.prog,tab,aw,24,Fr,w⟩) h h4
  subst hma
  refine cF ?_
  refine VG (VI (dU k Z Z Z Z Z h2 h3) ?_)
  refine cF ?_
  refine VG (VO.load Z Z (rc _ _ 1 _ Z Z) ?_)
  refine aj ?_
  exact CR (al.cz 4 5 Z Z Z aa.nil.ah ⟨by rw[dm,if_pos ⟨hc,by omega⟩,h2,fy,h4];rfl,Z⟩)
end
end Ch
namespace Cl
open Go Vg Api Ch
def pI(k:Int):Bool:=decide (k=2)||decide (k=4)
def rV(o:bp):Bs:=dJ o.kind++oC (sB o.key)++(if pI o.kind then oC (sB o.value) else [])++(if o.kind=4 then dJ o.version else [])
def B6(c:aW):Bs:=dJ c.aB++dJ c.ms.length++c.ms.flatMap (fun m=>dJ m.1++dJ m.2)++dJ c.drain
def fP(n:Int):Bool:=decide (0≤n∧n≤1099511627776)
def fu(k:Int):List Nat:=
 if k=1 then [1,2,3,4,5,6] else if k=2 then [2,3,4] else if k=3 then [1,2,3,4,15] else if k=4∨k=12 then [1] else if k=5 then [1,26,27,28]
 else if k=6∨k=9∨k=10∨k=11 then [1,26] else []
def iM(f:aA):Nat→Int
 | 1=>f.aB | 2=>f.aI | 3=>f.seq | 4=>f.bz | 5=>f.cls | 6=>f.deadline | 15=>f.reason | 26=>f.index | 27=>f.rL | 28=>f.dp | _=>0
def uL(f:aA)(o:Nat)(n:Int):aA:=match o with
 | 1=>{ f with aB:=n } | 2=>{ f with aI:=n } | 3=>{ f with seq:=n } | 4=>{ f with bz:=n } | 5=>{ f with cls:=n } | 6=>{ f with deadline:=n }
 | 15=>{ f with reason:=n } | 26=>{ f with index:=n } | 27=>{ f with rL:=n } | 28=>{ f with dp:=n } | _=>f
def qp(o:Nat):Bool:=decide (o∈[1,2,3,4,5,6,15,26,27,28])
theorem DD(k:Int):∀o∈fu k,qp o=true:=by
 unfold fu
 repeat' split
 all_goals decide
theorem DE(k:Int):(fu k).length≤6:=by
 unfold fu
 repeat' split
 all_goals decide
def qq(f:aA)(ms:List bj):Bool:=
 if f.kind=1 then decide (c_ f.op=0)
 else if f.kind=2 then decide (1≤f.res.code)&&decide (f.res.code≤3)&&decide (f.res.value.size≤64)&&(fP f.res.version&&fP f.res.at_)
 else if f.kind=4 then (fP f.entry.index&&(fP f.entry.aI&&fP f.entry.seq))&&decide (c_ f.entry.op=0)
 else if f.kind=8 then decide (fp ⟨f.dE,ms,f.drain⟩=0)
 else true
def kP(f:aA)(ms:List bj):Bool:=decide (1≤f.kind∧f.kind≤12)&&((fu f.kind).all (fun o=>fP (iM f o))&&qq f ms)
def sD(f:aA)(ms:List bj):Bs:=
 if f.kind=1 then rV f.op
 else if f.kind=2 then dJ f.res.code++oC (sB f.res.value)++dJ f.res.version++dJ f.res.at_
 else if f.kind=4 then dJ f.entry.index++dJ f.entry.aI++dJ f.entry.seq++rV f.entry.op
 else if f.kind=8 then B6 ⟨f.dE,ms,f.drain⟩
 else []
def uF(f:aA)(ms:List bj):Bs:=(dJ f.kind++(fu f.kind).flatMap (fun o=>dJ (iM f o)))++sD f ms
def rY(f:aA)(ms:List bj):Option Bs:=if kP f ms=true then (if 512<(uF f ms).length then none else some (uF f ms)) else none
def fQ:Nat→Bs→Option (List Int×Bs)
 | 0,s=>some ([],s)
 | k+1,s=>match bR s with
  | none=>none
  | some (n,r)=>match fQ k r with
   | none=>none
   | some (l,r)=>some (n::l,r)
def rJ(s:Bs):Option bp:=match bR s with
 | none=>none
 | some (k,r)=>match iG r with
  | none=>none
  | some (key,r)=>match (if pI k then iG r else some ([],r)) with
   | none=>none
   | some (val,r)=>match (if k=4 then bR r else some (0,r)) with
    | none=>none
    | some (ver,r)=>if r=[]∧c_ ⟨k,bT key,bT val,ver⟩=0 then some ⟨k,bT key,bT val,ver⟩ else none
def pk:List Int→List bj
 | a::b::l=>(a,b)::pk l
 | _=>[]
def i_(s:Bs):Option aW:=match bR s with
 | none=>none
 | some (ep,r)=>match bR r with
  | none=>none
  | some (sz,r)=>if sz<1∨6<sz then none else match fQ (2*sz.toNat) r with
   | none=>none
   | some (l,r)=>match bR r with
    | none=>none
    | some (dr,r)=>if r=[]∧fp ⟨ep,pk l,dr⟩=0 then some ⟨ep,pk l,dr⟩ else none
def th(f:aA):List Nat→List Int→aA
 | o::os,n::ns=>th (uL f o n) os ns
 | _,_=>f
def qC(f:aA)(s:Bs):Option (aA×List bj):=
 if f.kind=1 then match rJ s with
  | none=>none
  | some o=>some ({ f with op:=o },[])
 else if f.kind=2 then match bR s with
  | none=>none
  | some (code,r)=>match iG r with
   | none=>none
   | some (val,r)=>match bR r with
    | none=>none
    | some (ver,r)=>match bR r with
     | none=>none
     | some (at_,r)=>if r=[] then some ({ f with res:=⟨code,bT val,ver,at_⟩ },[]) else none
 else if f.kind=4 then match bR s with
  | none=>none
  | some (i,r)=>match bR r with
   | none=>none
   | some (c,r)=>match bR r with
    | none=>none
    | some (q,r)=>match rJ r with
     | none=>none
     | some o=>some ({ f with entry:=⟨i,c,q,o⟩ },[])
 else if f.kind=8 then match i_ s with
  | none=>none
  | some c=>some ({ f with dE:=c.aB,drain:=c.drain },c.ms)
 else if s=[] then some (f,[]) else none
def getM(s:Bs):Option (aA×List bj):=if 512<s.length then none else match bR s with
 | none=>none
 | some (k,r)=>match fQ (fu k).length r with
  | none=>none
  | some (l,r)=>match qC (th { aA.zero with kind:=k } (fu k) l) r with
   | none=>none
   | some (f,ms)=>if kP f ms=true then some (f,ms) else none
end Cl
namespace Win
open Go Vg T Api
attribute [local irreducible] VO VC VA
structure bE where
 cap:Int
 last:Int
 done:Int
 bX:Int
 gS:Int
def bE.cells(W:bE):List Value:=[.int .i64 W.cap,.int .i64 W.last,.int .i64 W.done,.int .i64 W.bX,.int .i64 W.gS]
abbrev Yh:TypeId:=174
def bq(p:Nat)(W:bE):HP:=pt p W.cells Yh
structure bE.Ok(W:bE):Prop where
 dh:1≤W.cap
 eN:W.cap≤16
 kH:0≤W.done
 kI:W.done≤W.last
 ir:W.last≤4096
 gd:0≤W.bX
 wX:W.bX≤W.last
 sP:0≤W.gS
 sQ:W.gS≤4112
section
variable {p:Nat} {W:bE}
theorem eZ(h:a7 Fr w p W.cells)(hc:1≤W.cap):aq Tryz.prog 109 [.pointer (some ⟨p,0,none⟩)] Fr w [] (fun v L=>v=.bool false∧L=[]):=by
 refine TF 12 Tryz.func109 Z ym aw Z Z ?_
 refine aj ?_
 refine VG (VO.split 5 rfl rfl (fun h=>by cases h) (fun _=>?_))
 refine me ?_
 exact CR (al.bool 2 Z Z ye ER ⟨rfl,Z⟩)
theorem oe(h:a7 Fr w p W.cells)(hc:1≤W.cap):aq Tryz.prog 64 [.pointer (some ⟨p,0,none⟩)] Fr w [] (fun v L=>v=.int .i64 W.last∧L=[]):=by
 refine TF 9 Tryz.func64 Z ym aw Z Z ?_
 refine aj ?_
 refine EH ?_
 refine iD ?_
 refine me ?_
 exact uV
theorem yQ(h:a7 Fr w p W.cells)(hc:1≤W.cap):aq Tryz.prog 65 [.pointer (some ⟨p,0,none⟩)] Fr w [] (fun v L=>v=.int .i64 W.done∧L=[]):=by
 refine TF 9 Tryz.func65 Z ym aw Z Z ?_
 refine aj ?_
 refine EH ?_
 refine iD ?_
 refine me ?_
 exact uV
theorem zO(h:a7 Fr w p W.cells)(ok:W.Ok):aq Tryz.prog 281 [.pointer (some ⟨p,0,none⟩)] Fr w [] (fun v L=>v=.int .i64 (W.done+W.cap)∧L=[]):=by
 have o1:=ok.dh;have o2:=ok.eN;have o3:=ok.kH;have o4:=ok.kI;have o5:=ok.ir
 refine TF 14 Tryz.func281 Z ym aw Z Z ?_
 refine aj ?_
 refine VG (VV (fun Fr w hF hs _=>eZ Fr w (h.of hF hs) o1) Z ?_)
 refine iD ?_
 refine CS (CD (ts 0 10 .nil) ym yo ?_)
 refine pJ ?_
 refine pK ?_
 refine bg ?_
 exact uV
theorem free_spec(h:a7 Fr w p W.cells)(ok:W.Ok):aq Tryz.prog 237 [.pointer (some ⟨p,0,none⟩)] Fr w [] (fun v L=>v=.int .i64 (max (min (W.done+W.cap) 4096-W.last) 0)∧L=[]):=by
 have o1:=ok.dh;have o2:=ok.eN;have o3:=ok.kH;have o4:=ok.kI;have o5:=ok.ir
 refine TF 14 Tryz.func237 Z ym aw Z Z ?_
 refine aj ?_
 refine VG (VV (fun Fr w hF hs _=>eZ Fr w (h.of hF hs) o1) Z ?_)
 refine iD ?_
 refine CS (CD (.take 0 (ts 3 4 (.only 1 (.take 2 (ts 7 3 .nil))))) ym yo ?_)
 refine pJ ?_
 refine AG (AR (fun Fr w hF hs hS=>zO Fr w (h.of hF hs) ok) Z Z (by(try refine Pd.st ?_);(repeat(first|exact Pd.nil|exact Pd.fnil|refine Pd.inner ?_|refine Pd.skip yo ?_|refine zf (an.ar (an.ar h Z) Z) ?_|refine zf ((an.ar h Z)) ?_|refine zc (an.ar (an.ar h Z) Z) ?_|refine zc ((an.ar h Z)) ?_))) ?_)
 refine pJ ?_
 refine AG (VA.uN Z Z Z (by split<;>omega) (by split<;>omega) ?_)
 refine bg ?_
 exact CR (al.int 2 Z Z (by simp only[Int.min_def,Int.max_def];repeat' split<;>omega) ER ⟨rfl,Z⟩)
def bE.room(W:bE):Bool:=decide (W.last<W.done+W.cap)&&decide (W.last<4096)
theorem s6(ok:W.Ok)(hr:W.room=true):aq Tryz.prog 285 [.pointer (some ⟨p,0,none⟩)] Fr w [bq p W] (fun v L=>v=.bool true∧L=[bq p { W with last:=W.last+1 }]):=by
 have o1:=ok.dh;have o2:=ok.eN;have o3:=ok.kH;have o4:=ok.kI;have o5:=ok.ir
 have hr1:W.last<W.done+W.cap∧W.last<4096:=by simpa[bE.room] using hr
 refine TF 13 Tryz.func285 Z ym aw Z Z ?_
 unfold bq
 refine aj ?_
 refine VG (VV (fun Fr w hF hs hS=>free_spec Fr w (hS.ar 0 Z) ok) Z ?_)
 refine aj ?_
 refine CC (t:=false) (by simp only[Vg.ev,Vg.look];simp[Int.min_def,Int.max_def];split<;>constructor<;>omega) (fun hh=>by cases hh) (fun _=>CK ?_)
 refine vb ?_
 refine VG (VO.st 0 (cs':=({ W with last:=W.last+1 }:bE).cells) Z Z Z Z (fB Z) Z Z ?_)
 refine aj ?_
 exact uW
def bE.mT(W:bE)(i:Int):Bool:=decide (W.done<i)&&decide (i≤W.last)
def bE.kD(W:bE)(i:Int):bE:=if W.mT i then { W with done:=i } else W
theorem xV(ok:W.Ok)(i:Int):aq Tryz.prog 338 [.pointer (some ⟨p,0,none⟩),.int .i64 i] Fr w [bq p W] (fun v L=>v=.bool (W.mT i)∧L=[bq p (W.kD i)]):=by
 have o1:=ok.dh
 refine TF 27 Tryz.func338 Z ym aw Z Z ?_
 unfold bq
 refine aj ?_
 refine AL ?_
 refine aj ?_
 refine VG (VY 7 false Z Z ?_)
 refine bF ?_
 by_cases h1:i≤W.done
 ·have hb:W.mT i=false:=by simp[bE.mT];omega
  refine VG (VY 15 true Z (DT h1) ?_)
  refine pS ?_
  exact EI
 ·refine VG (VY 15 false Z (DF h1) ?_)
  refine bF ?_
  refine CP Z (fun h2=>?_) (fun h2=>CK ?_)
  ·have hb:W.mT i=false:=by simp[bE.mT];omega
   refine aj ?_
   exact EI
  ·have hb:W.mT i=true:=by simp[bE.mT];omega
   refine aj ?_
   refine VG (VO.st 0 (cs':=({ W with done:=i }:bE).cells) Z Z Z Z (fB Z) Z Z ?_)
   refine aj ?_
   exact EI
theorem Pk(ok:W.Ok)(g:Int):aq Tryz.prog 357 [.pointer (some ⟨p,0,none⟩),.int .i64 g] Fr w [bq p W] (fun v L=>v=.tuple #[]∧L=[bq p { W with gS:=max W.gS (min g 4112) }]):=by
 have o1:=ok.dh
 refine TF 16 Tryz.func357 Z ym aw Z Z ?_
 unfold bq
 refine aj ?_
 refine AL ?_
 refine pT ?_
 refine VG (VO.st 0 (cs':=({ W with gS:=if W.gS<(if 4112<g then 4112 else g) then (if 4112<g then 4112 else g) else W.gS }:bE).cells) Z Z Z Z (fB Z) Z Z ?_)
 refine aj ?_
 exact al.void Z ER ⟨rfl,by rw[show max W.gS (min g 4112)=(if W.gS<(if 4112<g then 4112 else g) then (if 4112<g then 4112 else g) else W.gS) by split<;>split<;>omega];rfl⟩
theorem Gk(ok:W.Ok)(g:Int):aq Tryz.prog 292 [.pointer (some ⟨p,0,none⟩),.int .i64 g] Fr w [bq p W] (fun v L=>v=.tuple #[]∧L=[bq p { W with bX:=min (max g 0) W.last }]):=by
 have o1:=ok.dh
 refine TF 16 Tryz.func292 Z ym aw Z Z ?_
 unfold bq
 refine aj ?_
 refine AL ?_
 refine pT ?_
 refine VG (VO.st 0 (cs':=({ W with bX:=if W.last<(if g<0 then 0 else g) then W.last else (if g<0 then 0 else g) }:bE).cells) Z Z Z Z (fB Z) Z Z ?_)
 refine aj ?_
 exact al.void Z ER ⟨rfl,by rw[show min (max g 0) W.last=(if W.last<(if g<0 then 0 else g) then W.last else (if g<0 then 0 else g)) by split<;>split<;>omega];rfl⟩
theorem Sf(ok:W.Ok):aq Tryz.prog 355 [.pointer (some ⟨p,0,none⟩)] Fr w [bq p W] (fun v L=>v=.tuple #[]∧L=[bq p { W with bX:=W.last,gS:=0 }]):=by
 have o1:=ok.dh
 refine TF 14 Tryz.func355 Z ym aw Z Z ?_
 unfold bq
 refine aj ?_
 refine AL ?_
 refine pT ?_
 refine VG (VO.st 0 (cs':=({ W with bX:=W.last }:bE).cells) Z Z Z Z (fB Z) Z Z ?_)
 refine aj ?_
 refine VG (VO.st 0 (cs':=({ W with bX:=W.last,gS:=0 }:bE).cells) Z Z Z Z (fB Z) Z Z ?_)
 refine aj ?_
 exact tu
def bE.iL(W:bE):Bool:=decide (W.bX<W.last)&&decide (W.bX<W.gS)
def bE.next(W:bE):bE:=if W.iL then { W with bX:=W.bX+1 } else W
theorem qx(ok:W.Ok):aq Tryz.prog 288 [.pointer (some ⟨p,0,none⟩)] Fr w [bq p W] (fun v L=>v=.tuple #[.int .i64 (if W.iL then W.bX+1 else 0),.bool W.iL]∧L=[bq p W.next]):=by
 have o1:=ok.dh;have o2:=ok.gd;have o3:=ok.wX;have o4:=ok.ir
 refine TF 39 Tryz.func288 Z ym aw Z Z ?_
 unfold bq
 refine ku ?_
 refine CS (CS (CD (.take 0 (.only 1 (ts 2 22 .nil))) ym yo ?_))
 refine bg ?_
 refine AG (AR (fun Fr w hF hs hS=>eZ Fr w (hS.ar 0 Z) o1) Z Z yv ?_)
 refine bg ?_
 refine AG (AY 6 false Z Z ?_)
 refine dF ?_
 by_cases h1:W.last≤W.bX
 ·have hb:W.iL=false:=by simp[bE.iL];omega
  refine AG (AY 17 true Z (DT h1) ?_)
  refine dF ?_
  refine BA ?_
  exact EJ
 ·refine AG (AY 17 false Z (DF h1) ?_)
  refine dF ?_
  refine CP Z (fun h2=>?_) (fun h2=>CK ?_)
  ·have hb:W.iL=false:=by simp[bE.iL];omega
   refine aj ?_
   exact EJ
  ·have hb:W.iL=true:=by simp[bE.iL];omega
   refine vb ?_
   refine VG (VO.st 0 (cs':=({ W with bX:=W.bX+1 }:bE).cells) Z Z Z Z (fB Z) Z Z ?_)
   refine aj ?_
   exact EJ
theorem vN(h:a7 Fr w p W.cells)(hc:1≤W.cap):aq Tryz.prog 106 [.pointer (some ⟨p,0,none⟩)] Fr w [] (fun v L=>∃q,v=.pointer (some ⟨q,0,none⟩)∧L=[bq q W]):=by
 refine TF 9 Tryz.func106 Z ym aw Z Z ?_
 refine aj ?_
 refine EH ?_
 refine pT ?_
 refine VG (VO.load Z Z (an.h_ (ds:=W.cells) h Z) ?_)
 refine VG (VO.alloc Z fun q=>?_)
 refine VG (VT (vs:=W.cells) 0 Z Z Z Z (NR _) Z Z Z ?_)
 exact FT
end
def bE.new(cap:Int):bE:=⟨cap,0,0,0,0⟩
theorem jH{c:Int}(h0:1≤c)(h1:c≤16):aq Tryz.prog 87 [.int .i64 c,.int .i64 0,.int .i64 0] Fr w [] (fun v L=>∃q,v=.tuple #[.pointer (some ⟨q,0,none⟩),.int .i64 0]∧L=[bq q (bE.new c)]):=by
 refine TF 33 Tryz.func87 Z ym aw Z Z ?_
 refine aj ?_
 refine VG (VY 10 false Z (DF yd) ?_)
 refine bF ?_
 refine VG (VY 14 false Z (DF yd) ?_)
 refine bF ?_
 refine VG (VY 18 false Z Z ?_)
 refine bF ?_
 refine VG (VY 23 false Z Z ?_)
 refine qV ?_
 refine aj ?_
 refine VG (VI (LB (pv:=[(0,.int .i64 c),(1,.int .i64 0),(2,.int .i64 0),(3,.int .i64 0)]) (bE.new c).cells Z Z Z ym Z) ?_)
 refine VG (VB (vs:=(bE.new c).cells) Z fun q=>?_)
 refine aj ?_
 exact CR (al.cz 6 7 Z Z Z ER ⟨q,Z,Z⟩)
theorem bE.zH{c:Int}(h0:1≤c)(h1:c≤16):(bE.new c).Ok:=⟨h0,h1,fj _,fj _,(by decide:(0:Int)≤4096),fj _,fj _,fj _,(by decide:(0:Int)≤4112)⟩
end Win
namespace Kv
open Go Vg T Api
attribute [local irreducible] VO VC VA
abbrev jV:=List (ByteArray×(ByteArray×Int))
def lO(x:ByteArray×Int):Value:=.agg ([.string x.1,.int .i64 x.2]:List Value).toArray
def a8(r:fV):List Value:=[.int .i64 r.code,.string r.value,.int .i64 r.version,.int .i64 r.at_]
def gT:ByteArray:=⟨#[]⟩
def bO:fV:=⟨0,gT,0,0⟩
def gu(p:Nat)(S:jV):HP:=hex fun b:Nat=>b_ [pt p [.map (some b)] 291,eI jq lO b S]
theorem C6{Fr:Nat→Prop}{w:World}{p:Nat}{S:jV}(h:aV Fr [gu p S] w):∃b,a7 Fr w p [.map (some b)]∧oQ Fr w jq lO b S:=by
 obtain⟨b,hb⟩:=h.ex
 have hs:=hb.sep
 exact⟨b,hs.ar 0 Z,hs.wB 1 Z⟩
theorem aY.kv(p:Nat)(S:jV):aY (ι:=Nat) (gu p S) (fun _=>True) (fun b=>[pt p [.map (some b)] 291,eI jq lO b S]):=fun w ids ⟨b,h⟩ hn=>⟨b,trivial,ids,h,hn,fun _ h=>h⟩
theorem aa.kv{L M:List HP}{p b:Nat}{S:jV}(h:aa L (pt p [.map (some b)] 291::eI jq lO b S::M)):aa L (gu p S::M):=
 aa.ex (f:=fun b:Nat=>b_ [pt p [.map (some b)] 291,eI jq lO b S]) b (aa.sep (Ls:=[pt p [.map (some b)] 291,eI jq lO b S]) h)
theorem aV.kv{Fr:Nat→Prop}{L:List HP}{w:World}{p b:Nat}{S:jV}(h:aV Fr L w)(i j:Nat)(hi:L[i]?=some (pt p [.map (some b)] 291))(hj:L[j]?=some (eI jq lO b S)):aV Fr [gu p S] w:=by
 obtain⟨F,hs,hf⟩:=h
 obtain⟨ids1,s1,m1⟩:=hs.get hi
 obtain⟨ids2,s2,m2⟩:=hs.get hj
 refine⟨ids1++ids2,⟨ids1++ids2,[],by simp,⟨b,ids1,ids2,Z,s1,ids2,[],by simp,s2,Z⟩,Z⟩,fun c hc=>?_⟩
 rcases fL.1 hc with hc | hc
 ·exact hf c (m1 c hc)
 ·exact hf c (m2 c hc)
theorem zn:iU Tryz.prog 9 jq:=iU.string Tryz.underlying9
def lT(S:jV)(k:ByteArray)(at_:Int):fV:=match cD S k with
 | none=>⟨2,gT,0,at_⟩
 | some (v,n)=>⟨1,v,n,at_⟩
def iq(S:jV)(i:Int)(o:bp):jV×fV:=
 if i<1∨4096<i∨c_ o≠0 then (S,bO)
 else if o.kind=1 then (S,lT S o.key i)
 else if o.kind=3 then match cD S o.key with
  | none=>(S,⟨2,gT,0,i⟩)
  | some _=>(ff S o.key,⟨1,gT,0,i⟩)
 else if o.kind=4∧((cD S o.key).getD (gT,0)).2≠o.version then (S,⟨3,((cD S o.key).getD (gT,0)).1,((cD S o.key).getD (gT,0)).2,i⟩)
 else (cQ S o.key (o.value,i),⟨1,gT,i,i⟩)
theorem wS(o:bp):aq Tryz.prog 174 [.agg o.cells.toArray] Fr w [] (fun v L=>v=.bool (decide (o.kind=1)&&decide (c_ o=0))∧L=[]):=by
 refine TF 11 Tryz.func174 Z ym aw Z Z ?_
 refine CS (CG (VG (VB (vs:=o.cells) Z (fun b=>VG (VN ?_)))))
 refine aj ?_
 refine VG (VO.split 6 Z Z (fun h1=>?_) (fun h1=>?_))
 ·have h1:o.kind=1:=eq_of_beq h1
  refine VG (VL 0 o.cells Z Z Z Z ?_)
  refine EK ?_
  refine aj ?_
  exact CR (al.bool 2 Z Z (by simp[h1];rfl) aa.nil.ah ⟨rfl,Z⟩)
 ·have h1:o.kind≠1:=ne_of_beq_false h1
  refine aj ?_
  exact CR (al.bool 2 Z Z yg aa.nil.ah ⟨rfl,Z⟩)
theorem jH:aq Tryz.prog 141 [] Fr w [] (fun v L=>∃p,v=.pointer (some ⟨p,0,none⟩)∧L=[gu p []]):=by
 refine TF 4 Tryz.func141 Z ym aw Z Z ?_
 refine aj ?_
 refine VG (VO.ot (aG.makeMap jq lO) ?_)
 rintro _ _ ⟨b,rfl,rfl⟩
 refine aj ?_
 refine VG (VI (LB (pv:=[(0,.map (some b))]) [.map (some b)] Z Z Z ym Z) ?_)
 refine VG (VB (vs:=[.map (some b)]) Z fun p=>?_)
 refine aj ?_
 exact CR (al.tmp 0 Z Z (aa.kv aa.refl).ah ⟨p,Z,Z⟩)
theorem eZ{p:Nat}{S:jV}(h:aV Fr [gu p S] w):aq Tryz.prog 224 [.pointer (some ⟨p,0,none⟩)] Fr w [] (fun v L=>v=.bool false∧L=[]):=by
 obtain⟨b,hp,hm⟩:=C6 h
 refine TF 12 Tryz.func224 Z ym aw Z Z ?_
 refine AM ?_
 refine xh ?_
 refine AM ?_
 refine VG (VI (H6 Tryz.underlying289 Z Z) ?_)
 refine aj ?_
 exact jQ
theorem zu{p:Nat}{S:jV}(h:aV Fr [gu p S] w)(k:ByteArray)(n:Int):
  aq Tryz.prog 173 [.pointer (some ⟨p,0,none⟩),.string k,.int .i64 n] Fr w [] (fun v L=>v=.agg (a8 (lT S k n)).toArray∧L=[]):=by
 obtain⟨b,hp,hm⟩:=C6 h
 refine TF 31 Tryz.func173 Z ym aw Z Z ?_
 refine aj ?_
 refine VG (VO.alloc Z fun r=>?_)
 refine aj ?_
 refine EL ?_
 refine iD ?_
 refine AM ?_
 refine VG (VO.rU (aG.lookup zn Tryz.underlying289 Z Z (a:=k) Z (cO.ar hm)) ?_)
 cases hg:cD S k with
 | none=>
  refine aj ?_
  refine VG (VO.alloc Z fun q=>?_)
  refine VG (VT (vs:=[.string gT,.int .i64 0]) 0 Z Z Z Z (NR _) Z Z Z ?_)
  refine pU ?_
  refine VG (VI (LB (pv:=[(0,.int .i64 2),(3,.int .i64 n)]) (a8 ⟨2,gT,0,n⟩) Z Z Z ym Z) ?_)
  refine VG (VT (vs:=a8 ⟨2,gT,0,n⟩) 1 Z Z Z Z (NR _) Z Z Z ?_)
  refine aj ?_
  exact CR (al.cell 6 Z Z Z (an.many (ds:=a8 ⟨2,gT,0,n⟩) 1 Z Z) aa.nil.ah ⟨by rw[lT,hg],Z⟩)
 | some x=>
  obtain⟨v,m⟩:=x
  refine aj ?_
  refine VG (VO.alloc Z fun q=>?_)
  refine VG (VT (vs:=[.string v,.int .i64 m]) 0 Z Z Z Z (NR _) Z Z Z ?_)
  refine pT ?_
  refine VG (VI (LB (pv:=[(0,.int .i64 1),(1,.string v),(2,.int .i64 m),(3,.int .i64 n)]) (a8 ⟨1,v,m,n⟩) Z Z Z ym Z) ?_)
  refine VG (VT (vs:=a8 ⟨1,v,m,n⟩) 1 Z Z Z Z (NR _) Z Z Z ?_)
  refine aj ?_
  exact CR (al.cell 6 Z Z Z (an.many (ds:=a8 ⟨1,v,m,n⟩) 1 Z Z) aa.nil.ah ⟨by rw[lT,hg],Z⟩)
theorem MZ(p:Nat)(S:jV)(i:Int)(o:bp):
  aq Tryz.prog 172 [.pointer (some ⟨p,0,none⟩),.int .i64 i,.agg o.cells.toArray] Fr w [gu p S] (fun v L=>v=.agg (a8 (iq S i o).2).toArray∧L=[gu p (iq S i o).1]):=by
 refine TF 96 Tryz.func172 Z ym aw Z Z ?_
 refine aj ?_
 refine VG (VB (vs:=o.cells) Z fun ob=>?_)
 refine VG (VO.alloc Z fun r=>?_)
 refine VG (VN (CS ?_))
 refine VC.meet (σ:=Bool) (fun t=>[(0,pV p),(1,.int .i64 i),(5,pV ob),(6,pV r),(23,.bool t)]) (fun _=>[pt r (a8 bO) 105,pt ob o.cells 85,gu p S]) (fun t=>t=true↔(i<1∨4096<i∨c_ o≠0)) ?_ ?_
 ·refine CG ?_
  refine aj ?_
  refine VG (VV (fun Fr w hF hs hS=>eZ Fr w (hS.at_ 2 Z)) Z ?_)
  refine aj ?_
  refine VG (VY 11 false Z Z ?_)
  refine aj ?_
  refine VG (VO.split 15 Z Z (fun h1=>?_) (fun h1=>?_))
  ·have h1:=of_decide_eq_true h1
   refine aj ?_
   refine VG (VY 19 true Z Z ?_)
   refine VG (VN ⟨true,by simp[h1],aF,ER⟩)
  have h1:=of_decide_eq_false h1
  refine aj ?_
  refine VG (VO.split 19 Z Z (fun h2=>?_) (fun h2=>?_))
  ·have h2:=of_decide_eq_true h2
   refine aj ?_
   exact⟨true,by simp[h2],aF,ER⟩
  have h2:=of_decide_eq_false h2
  refine VG (VL 1 o.cells Z Z Z Z ?_)
  refine EK ?_
  refine aj ?_
  exact⟨_,by simp[h1,h2],SC Z (SC Z (SC Z (SC Z (SC Z (SN _))))),ER⟩
 intro t ht
 refine CC Z (fun h=>?_) (fun h=>CK ?_)
 ·have hb:=ht.1 h
  have e1:iq S i o=(S,bO):=by rw[iq,if_pos hb]
  refine vc ?_
  refine EM ?_
  refine aj ?_
  exact CR (al.cell 6 Z Z Z (an.many (ds:=a8 bO) 0 Z Z) (IP 2 Z aa.nil).ah ⟨by rw[e1],by rw[e1]⟩)
 have hb:¬(i<1∨4096<i∨c_ o≠0):=fun h'=>by rw[ht.2 h'] at h;cases h
 refine VC.bu 2 Z (aY.kv p S) ?_
 intro b _
 generalize hx:(cD S o.key).getD (gT,0)=x
 refine VC.meet (σ:=Nat) (fun q=>[(0,pV p),(1,.int .i64 i),(5,pV ob),(6,pV r),(7,pV q),(8,.bool (cD S o.key).isSome)])
  (fun q=>[pt q [.string x.1,.int .i64 x.2] 341,pt p [.map (some b)] 291,eI jq lO b S,pt r (a8 bO) 105,pt ob o.cells 85]) (fun _=>True) ?_ ?_
 ·refine CD (ts 0 10 (.only 10 (.only 11 (.take 12 .nil)))) ym yo ?_
  refine gi ?_
  refine AG (VA.lookup zn Tryz.underlying289 Z Z Z (a:=o.key) Z (cO.one 1 Z) ?_)
  have hv:((cD S o.key).map lO).getD T.t341.zero=lO x:=by rw[←hx];cases cD S o.key<;>rfl
  rw[hv]
  refine gi ?_
  refine AG (AO (aG.alloc Z) Z ?_ ?_)
  ·rintro v L' ⟨q,rfl,rfl⟩
   exact yw
  rintro v L' ⟨q,rfl,rfl⟩
  refine AG (AT (vs:=[.string x.1,.int .i64 x.2]) 0 Z Z Z Z Z (NR _) Z Z Z yw ?_)
  refine gi ?_
  exact⟨q,trivial,aF,ER⟩
 intro q _
 have hres:∀(R:fV) {e:Env} {M:List HP} {S':jV},Vg.look e 6=some (.pointer (some ⟨r,0,none⟩))→iq S i o=(S',R)→aa M (pt p [.map (some b)] 291::eI jq lO b S' :: [])→M[3]?=some (pt r (a8 R) 105) →
   al ⟨Tryz.prog,tab,aw,96,Fr,w⟩ Tryz.f172 (fun v L=>v=.agg (a8 (iq S i o).2).toArray∧L=[gu p (iq S i o).1]) e M:=by
  intro R e M S' h6 hk hi hM
  exact al.cell 6 Z h6 Z (an.many (ds:=a8 R) 3 hM Z) (aa.kv hi).ah ⟨by rw[hk],by rw[hk]⟩
 refine VC.meet (σ:=Unit) (fun _=>[(0,pV p),(1,.int .i64 i),(5,pV ob),(6,pV r)]) (fun _=>[pt q [.string x.1,.int .i64 x.2] 341,pt p [.map (some b)] 291,eI jq lO b S,pt r (a8 bO) 105,pt ob o.cells 85]) (fun _=>o.kind≠1∧o.kind≠3∧¬(o.kind=4∧x.2≠o.version)) (VC.block ?_) ?_
 case refine_2=>
  rintro _ ⟨h1,h2,h3⟩
  refine EN ?_
  refine pL ?_
  refine AG (AI Z (LB (pv:=[(0,.string o.value),(1,.int .i64 i)]) [.string o.value,.int .i64 i] Z Z Z ym Z) ?_)
  refine AG (AO (aG.mapUpdate (d:=lO) (u:=(o.value,i)) 2 zn Tryz.underlying289 (a:=o.key) Z Z Z Z) Z ?_ ?_)
  ·rintro v L' ⟨rfl,rfl⟩
   exact yw
  rintro v L' ⟨rfl,rfl⟩
  refine AG (AN ?_)
  refine aj ?_
  refine VG (VI (LB (pv:=[(0,.int .i64 1),(2,.int .i64 i),(3,.int .i64 i)]) (a8 ⟨1,gT,i,i⟩) Z Z Z ym Z) ?_)
  refine VG (VT (vs:=a8 ⟨1,gT,i,i⟩) 3 Z Z Z Z (NR _) Z Z Z ?_)
  refine aj ?_
  exact CR (hres ⟨1,gT,i,i⟩ Z (by rw[iq,if_neg hb,if_neg h1,if_neg h2,hx,if_neg h3]) (aZ [1,1]) Z)
 refine lF ?_
 refine CE Z (fun h1=>?_) (fun h1=>?_)
 ·refine lF ?_
  refine VG (VV (fun Fr w hF hs hS=>zu Fr w (aV.kv hS 1 2 Z Z) o.key i) Z ?_)
  refine VG (VT (vs:=a8 (lT S o.key i)) 3 Z Z Z Z (NR _) Z Z Z ?_)
  refine aj ?_
  exact CR (hres (lT S o.key i) Z (by rw[iq,if_neg hb,if_pos h1]) (aZ [1,1]) Z)
 ·refine lF ?_
  refine VG (VO.split 48 Z Z (fun h2=>?_) (fun h2=>?_))
  ·have h2:o.kind=3:=eq_of_beq h2
   refine lF ?_
   cases hg:cD S o.key with
   | none=>
    refine BA ?_
    refine VG (VI (LB (pv:=[(0,.int .i64 2),(3,.int .i64 i)]) (a8 ⟨2,gT,0,i⟩) Z Z Z ym Z) ?_)
    refine VG (VT (vs:=a8 ⟨2,gT,0,i⟩) 3 Z Z Z Z (NR _) Z Z Z ?_)
    refine aj ?_
    exact CR (hres ⟨2,gT,0,i⟩ Z yx (aZ [1,1]) Z)
   | some y=>
    refine oG ?_
    refine lF ?_
    refine CC Z (fun _=>?_) (fun h=>absurd h2 (ne_of_beq_false h))
    refine AS ?_
    refine pL ?_
    refine AG (AO (aG.delete 2 zn Tryz.underlying289 (a:=o.key) Z Z Z) Z ?_ ?_)
    ·rintro v L' ⟨rfl,rfl⟩
     exact yw
    rintro v L' ⟨rfl,rfl⟩
    refine AG (AN ?_)
    refine aj ?_
    refine VG (VI (LB (pv:=[(0,.int .i64 1),(3,.int .i64 i)]) (a8 ⟨1,gT,0,i⟩) Z Z Z ym Z) ?_)
    refine VG (VT (vs:=a8 ⟨1,gT,0,i⟩) 3 Z Z Z Z (NR _) Z Z Z ?_)
    refine aj ?_
    exact CR (hres ⟨1,gT,0,i⟩ Z yx (aZ [1,1]) Z)
  have h2:o.kind≠3:=ne_of_beq_false h2
  refine lF ?_
  refine oG ?_
  refine lF ?_
  refine CC Z (fun h=>absurd (eq_of_beq h) h2) (fun _=>?_)
  refine lF ?_
  refine VG (VO.split 70 Z Z (fun h3=>?_) (fun h3=>?_))
  ·have h3:o.kind=4:=eq_of_beq h3
   refine lF ?_
   refine CC Z (fun h4=>?_) (fun h4=>?_)
   ·have h4:x.2≠o.version:=by simpa using h4
    refine lF ?_
    refine VG (VI (LB (pv:=[(0,.int .i64 3),(1,.string x.1),(2,.int .i64 x.2),(3,.int .i64 i)]) (a8 ⟨3,x.1,x.2,i⟩) Z Z Z ym Z) ?_)
    refine VG (VT (vs:=a8 ⟨3,x.1,x.2,i⟩) 3 Z Z Z Z (NR _) Z Z Z ?_)
    refine aj ?_
    exact CR (hres ⟨3,x.1,x.2,i⟩ Z (by rw[iq,if_neg hb,if_neg h1,if_neg h2,hx,if_pos ⟨h3,h4⟩]) (aZ [1,1]) Z)
   ·have h4:x.2=o.version:=by simpa using h4
    exact CK ⟨(),⟨h1,h2,fun h=>h.2 h4⟩,aF,ER⟩
  ·have h3:o.kind≠4:=ne_of_beq_false h3
   refine lF ?_
   exact VC.kG Z (CK ⟨(),⟨h1,h2,fun h=>h3 h.1⟩,aF,ER⟩)
end Kv
namespace Lg
open Go Vg T Api Kv
attribute [local irreducible] VO VC VA
abbrev e_:TypeId:=262
abbrev fH:TypeId:=105
abbrev rQ:TypeId:=217
def bJ(e:bS):List Value:=[.int .i64 e.index,.int .i64 e.aI,.int .i64 e.seq,.int .i64 e.op.kind,.string e.op.key,.string e.op.value,.int .i64 e.op.version]
theorem Hn(e:bS):(bJ e).length=7:=rfl
theorem OD(e:bS):(bJ e).all Value.oneCell'=true:=rfl
theorem Jm(r:fV):(a8 r).length=4:=rfl
theorem Sh(r:fV):(a8 r).all Value.oneCell'=true:=rfl
def ie:bS:=⟨0,0,0,DI⟩
def wv(x:jV×List fV)(e:bS):jV×List fV:=((iq x.1 e.index e.op).1,x.2 ++ [(iq x.1 e.index e.op).2])
def bC(es:List bS):jV×List fV:=es.foldl wv ([],[])
theorem De(es:List bS)(e:bS):bC (es ++ [e])=wv (bC es) e:=by simp[bC]
theorem Dd(es:List bS):(bC es).2.length=es.length:=by
 have:∀(es:List bS) (x:jV×List fV),(es.foldl wv x).2.length=x.2.length+es.length:=by
  intro es
  induction es with
  | nil=>intro x;rfl
  | cons e es ih=>intro x;rw[xH,ih];simp[wv];omega
 have h:=this es ([],[])
 simpa[bC] using h
def uj(c:Int)(p:Int×Int)(e:bS):Int×Int:=if e.aI=c then (e.seq,e.index) else p
def eU(es:List bS)(c:Int):Int×Int:=es.foldl (uj c) (0,0)
theorem PS(es:List bS)(e:bS)(c:Int):eU (es ++ [e]) c=if e.aI=c then (e.seq,e.index) else eU es c:=by simp[eU,uj]
def kk(es:List bS):List Value:=(List.range 6).flatMap fun c=>[.int .i64 (eU es (c:Nat)).1,.int .i64 (eU es (c:Nat)).2]
theorem HW{es:List bS}{c:Nat}(h:c<6):(kk es)[c*2]?=some (.int .i64 (eU es (c:Nat)).1)∧(kk es)[c*2+1]?=some (.int .i64 (eU es (c:Nat)).2):=by
 match c,h with
 | 0,_=>exact⟨rfl,rfl⟩
 | 1,_=>exact⟨rfl,rfl⟩
 | 2,_=>exact⟨rfl,rfl⟩
 | 3,_=>exact⟨rfl,rfl⟩
 | 4,_=>exact⟨rfl,rfl⟩
 | 5,_=>exact⟨rfl,rfl⟩
 | c+6,h=>omega
structure vx where
 sp:Nat
 a1:Option Addr
 c1:Nat
 a2:Option Addr
 c2:Nat
def iK(es:List bS)(x:vx):List Value:=.pointer (some ⟨x.sp,0,none⟩) :: .slice x.a1 es.length x.c1 :: .slice x.a2 (bC es).2.length x.c2::kk es
def rP(p:Nat)(es:List bS)(x:vx):List HP:=[pt p (iK es x) rQ,gu x.sp (bC es).1,av e_ 7 x.a1 es.length x.c1 (flat bJ es),av fH 4 x.a2 (bC es).2.length x.c2 (flat a8 (bC es).2)]
def bw(p:Nat)(es:List bS):HP:=hex fun x=>b_ (rP p es x)
structure q_(Fr:Nat→Prop)(w:World)(p:Nat)(es:List bS)(x:vx):Prop where
 ar:a7 Fr w p (iK es x)
 kv:aV Fr [gu x.sp (bC es).1] w
 Ho:aP bJ 7 Fr w x.a1 es
 Jn:aP a8 4 Fr w x.a2 (bC es).2
theorem q_.of{Fr:Nat→Prop}{w:World}{p:Nat}{es:List bS}(h:aV Fr [bw p es] w):∃x,q_ Fr w p es x:=by
 obtain⟨x,h⟩:=h.ex
 have h:=h.sep
 exact⟨x,h.ar 0 Z,h.at_ 1 Z,aP.av Hn (h.at_ 2 Z),aP.av Jm (h.at_ 3 Z)⟩
theorem aY.log(p:Nat)(es:List bS):aY (ι:=vx) (bw p es) (fun _=>True) (fun x=>rP p es x):=fun w ids ⟨x,h⟩ hn=>⟨x,trivial,ids,h,hn,fun _ h=>h⟩
theorem aa.log{p:Nat}{es:List bS}{L M:List HP}(x:vx)(h:aa L (rP p es x++M)):aa L (bw p es::M):=
 aa.ex (f:=fun x=>b_ (rP p es x)) x (aa.sep (Ls:=rP p es x) h)
theorem jH:aq Tryz.prog 86 [] Fr w [] (fun v L=>∃p,v=.pointer (some ⟨p,0,none⟩)∧L=[bw p []]):=by
 refine TF 4 Tryz.func86 Z ym aw Z Z ?_
 refine aj ?_
 refine VG (VK (Lc:=[]) (fun Fr w hF hw _=>Kv.jH Fr w) Z Z ?_)
 rintro _ _ ⟨q,rfl,rfl⟩
 refine VG (VI (LB (pv:=[(0,pV q)]) (iK [] ⟨q,none,0,none,0⟩) Z Z Z ym Z) ?_)
 refine VG (VB (vs:=iK [] ⟨q,none,0,none,0⟩) Z fun p=>?_)
 refine aj ?_
 exact CR (al.tmp 0 Z Z (aa.log ⟨q,none,0,none,0⟩ (IP 0 Z (IP 0 Z (aa.cN (aa.cN aa.nil))))).ah ⟨p,Z,Z⟩)
section
variable {p:Nat} {es:List bS}
theorem eZ{q:Nat}{cs:List Value}(h:a7 Fr w p (.pointer (some ⟨q,0,none⟩)::cs)):aq Tryz.prog 169 [.pointer (some ⟨p,0,none⟩)] Fr w [] (fun v L=>v=.bool false∧L=[]):=by
 refine TF 12 Tryz.func169 Z ym aw Z Z ?_
 refine aj ?_
 refine VG (VO.split 5 rfl rfl (fun h=>by cases h) (fun _=>?_))
 refine me ?_
 exact uW
theorem kO(h:aV Fr [bw p es] w):aq Tryz.prog 238 [.pointer (some ⟨p,0,none⟩)] Fr w [] (fun v L=>v=.int .i64 es.length∧L=[]):=by
 obtain⟨x,hx⟩:=q_.of h
 have hb:=hx.ar
 unfold iK at hb
 refine TF 10 Tryz.func238 Z ym aw Z Z ?_
 refine aj ?_
 refine VG (VV (fun Fr w hF hs _=>eZ Fr w (hb.of hF hs)) Z ?_)
 refine iD ?_
 refine kS ?_
 exact uV
def eF{α:Type}(l:List α)(i:Int):Option α:=if 1≤i then l[(i-1).toNat]? else none
theorem yA{α:Type}{l:List α}{i:Int}(h:i<1∨(l.length:Int)<i):eF l i=none:=by
 unfold eF
 split
 ·exact mQ yd
 ·rfl
theorem yB{α:Type}{l:List α}{i:Int}(h0:1≤i)(h1:i≤l.length):∃(k:Nat) (x:α),i=k+1∧k<l.length∧l[k]?=some x∧eF l i=some x:=by
 refine⟨(i-1).toNat,_,by omega,by omega,GE yd,?_⟩
 rw[eF,if_pos h0,GE yd]
theorem vF(h:aV Fr [bw p es] w)(i:Int)(hi0:-9223372036854775808<i)(hi1:i≤9223372036854775807):aq Tryz.prog 199 [.pointer (some ⟨p,0,none⟩),.int .i64 i] Fr w []
  (fun v L=>v=.tuple #[.agg (bJ ((eF es i).getD ie)).toArray,.bool (eF es i).isSome]∧L=[]):=by
 obtain⟨x,hx⟩:=q_.of h
 have hb:=hx.ar
 unfold iK at hb
 refine TF 23 Tryz.func199 Z ym aw Z Z ?_
 refine CS (CG (VG (VO.alloc Z fun rb=>?_)))
 refine aj ?_
 by_cases h0:i<1
 ·refine VG (VY 8 true Z (DT h0) ?_)
  refine pS ?_
  refine VG (VI (LB (pv:=[]) (bJ ie) Z Z Z ym Z) ?_)
  refine VG (VT (vs:=bJ ie) 0 Z Z Z Z (NR _) Z Z Z ?_)
  refine aj ?_
  exact CR (al.cJ 4 5 Z Z Z (an.many (ds:=bJ ie) 0 Z Z) Z aa.nil.ah ⟨by rw[yA (.inl h0)];rfl,Z⟩)
 ·refine VG (VY 8 false Z (DF h0) ?_)
  refine bF ?_
  refine VG (VV (fun Fr w hF hs hS=>kO Fr w (h.of hF hs)) Z ?_)
  refine bF ?_
  refine CP Z (fun h1=>?_) (fun h1=>CK ?_)
  ·refine aj ?_
   refine VG (VI (LB (pv:=[]) (bJ ie) Z Z Z ym Z) ?_)
   refine VG (VT (vs:=bJ ie) 0 Z Z Z Z (NR _) Z Z Z ?_)
   refine aj ?_
   exact CR (al.cJ 4 5 Z Z Z (an.many (ds:=bJ ie) 0 Z Z) Z aa.nil.ah ⟨by rw[yA (.inr h1)];rfl,Z⟩)
  ·obtain⟨k,e,rfl,hk,he,hat⟩:=yB (l:=es) (i:=i) yd yd
   obtain⟨eb,eo,hea,ra,rc⟩:=aP.rd (X:=⟨Tryz.prog,tab,aw,23,Fr,w⟩) hx.Ho he
   rw[hea] at hb
   refine kS ?_
   refine mN ?_
   refine VG (VI (dU k Z Z Z Z Z yd hk) ?_)
   refine tq ?_
   refine VG (VT (vs:=bJ e) 0 Z Z Z Z (NR _) Z Z Z ?_)
   refine aj ?_
   exact CR (al.cJ 4 5 Z Z Z (an.many (ds:=bJ e) 0 Z Z) Z aa.nil.ah ⟨by rw[hat];rfl,Z⟩)
theorem Jo(h:aV Fr [bw p es] w)(i:Int)(hi0:-9223372036854775808<i)(hi1:i≤9223372036854775807):aq Tryz.prog 339 [.pointer (some ⟨p,0,none⟩),.int .i64 i] Fr w []
  (fun v L=>v=.tuple #[.agg (a8 ((eF (bC es).2 i).getD bO)).toArray,.bool (eF (bC es).2 i).isSome]∧L=[]):=by
 obtain⟨x,hx⟩:=q_.of h
 have hb:=hx.ar
 unfold iK at hb
 have hrl:=Dd es
 refine TF 23 Tryz.func339 Z ym aw Z Z ?_
 refine CS (CG (VG (VO.alloc Z fun rb=>?_)))
 refine aj ?_
 by_cases h0:i<1
 ·refine VG (VY 8 true Z (DT h0) ?_)
  refine pS ?_
  refine KF ?_
  refine EM ?_
  refine aj ?_
  exact CR (al.cJ 4 5 Z Z Z (an.many (ds:=a8 bO) 0 Z Z) Z aa.nil.ah ⟨by rw[yA (.inl h0)];rfl,Z⟩)
 ·refine VG (VY 8 false Z (DF h0) ?_)
  refine bF ?_
  refine VG (VV (fun Fr w hF hs hS=>kO Fr w (h.of hF hs)) Z ?_)
  refine bF ?_
  refine CP Z (fun h1=>?_) (fun h1=>CK ?_)
  ·refine vc ?_
   refine EM ?_
   refine aj ?_
   exact CR (al.cJ 4 5 Z Z Z (an.many (ds:=a8 bO) 0 Z Z) Z aa.nil.ah ⟨by rw[yA (.inr (by rw[hrl];exact h1))];rfl,Z⟩)
  ·obtain⟨k,e,rfl,hk,he,hat⟩:=yB (l:=(bC es).2) (i:=i) yd yd
   obtain⟨eb,eo,hea,ra,rc⟩:=aP.rd (X:=⟨Tryz.prog,tab,aw,23,Fr,w⟩) hx.Jn he
   rw[hea] at hb
   refine kS ?_
   refine mN ?_
   refine VG (VI (dU k Z Z Z Z Z yd hk) ?_)
   refine tq ?_
   refine VG (VT (vs:=a8 e) 0 Z Z Z Z (NR _) Z Z Z ?_)
   refine aj ?_
   exact CR (al.cJ 4 5 Z Z Z (an.many (ds:=a8 e) 0 Z Z) Z aa.nil.ah ⟨by rw[hat];rfl,Z⟩)
def fD(es:List bS)(c:Int):Int×Int:=if 0≤c∧c<6 then eU es c else (0,0)
theorem oe(h:aV Fr [bw p es] w)(c:Int):aq Tryz.prog 375 [.pointer (some ⟨p,0,none⟩),.int .i64 c] Fr w []
  (fun v L=>v=.tuple #[.int .i64 (fD es c).1,.int .i64 (fD es c).2]∧L=[]):=by
 obtain⟨x,hx⟩:=q_.of h
 have hb:=hx.ar
 unfold iK at hb
 refine TF 30 Tryz.func375 Z ym aw Z Z ?_
 refine aj ?_
 refine EO ?_
 refine aj ?_
 refine VG (VY 8 false Z Z ?_)
 refine bF ?_
 by_cases h0:c<0
 ·refine VG (VY 12 true Z (DT h0) ?_)
  refine pS ?_
  exact CR (al.cz 4 5 Z Z Z ER ⟨by rw[fD,if_neg yd],Z⟩)
 ·refine VG (VY 12 false Z (DF h0) ?_)
  refine bF ?_
  refine CP Z (fun h1=>?_) (fun h1=>CK ?_)
  ·refine aj ?_
   exact CR (al.cz 4 5 Z Z Z ER ⟨by rw[fD,if_neg yd],Z⟩)
  ·obtain⟨k,rfl⟩:∃k:Nat,c=k:=⟨c.toNat,by omega⟩
   obtain⟨l1,l2⟩:=HW (es:=es) (c:=k) yd
   have q1:(iK es x)[0+3+k*2+0]?=some (.int .i64 (eU es (k:Nat)).1):=by rw[show 0+3+k*2+0=k*2+3 by omega];exact l1
   have q2:(iK es x)[0+3+k*2+1]?=some (.int .i64 (eU es (k:Nat)).2):=by rw[show 0+3+k*2+1=k*2+1+3 by omega];exact l2
   refine CS (CD (ts 0 16 .nil) ym yo ?_)
   refine bg ?_
   refine AG (AI Z (iu k Z Z Z Z Z Z yd) ?_)
   refine bg ?_
   refine AG (VA.load Z Z Z (an.ar hx.ar q1) ?_)
   refine bg ?_
   refine AG (AI Z (iu k Z Z Z Z Z Z yd) ?_)
   refine bg ?_
   refine AG (VA.load Z Z Z (an.ar hx.ar q2) ?_)
   refine bg ?_
   exact CR (al.cz 4 5 Z Z Z ER ⟨by rw[fD,if_pos yd],Z⟩)
theorem zu(h:aV Fr [bw p es] w)(k:ByteArray):aq Tryz.prog 351 [.pointer (some ⟨p,0,none⟩),.string k] Fr w []
  (fun v L=>v=.agg (a8 (lT (bC es).1 k es.length)).toArray∧L=[]):=by
 obtain⟨x,hx⟩:=q_.of h
 have hb:=hx.ar
 unfold iK at hb
 refine TF 19 Tryz.func351 Z ym aw Z Z ?_
 refine CS (CG (VG (VO.alloc Z fun rb=>?_)))
 refine aj ?_
 refine EO ?_
 refine iD ?_
 refine CS (CD (ts 0 10 (.only 10 (.only 11 .nil))) ym yo ?_)
 refine xi ?_
 refine AG (AR (fun Fr w hF hs hS=>Kv.zu Fr w (hx.kv.of hF hs) k es.length) Z Z yy ?_)
 refine AG (AT (vs:=a8 (lT (bC es).1 k es.length)) 0 Z Z Z Z Z (NR _) Z Z Z (by(try refine Pd.st ?_);(repeat(first|exact Pd.nil|exact Pd.fnil|refine Pd.inner ?_|refine Pd.skip yo ?_|refine zf (zo 0 Z Z) ?_|refine zf (zm 0 Z Z) ?_|refine zf (an.ar (an.ar hb Z) Z) ?_|refine zf ((an.ar hb Z)) ?_|refine zc (zo 0 Z Z) ?_|refine zc (zm 0 Z Z) ?_|refine zc (an.ar (an.ar hb Z) Z) ?_|refine zc ((an.ar hb Z)) ?_))) ?_)
 refine bg ?_
 exact CR (al.cell 4 Z Z Z (an.many (ds:=a8 (lT (bC es).1 k es.length)) 0 Z Z) aa.nil.ah ⟨rfl,Z⟩)
end
end Lg
namespace Lg
open Go Vg T Api Kv
attribute [local irreducible] VO VC VA
def qD(o:bp):Bool:=decide (o.kind=1)&&decide (c_ o=0)
def lN(e:bS):Bool:=decide (e.aI<0)||decide (6≤e.aI)||decide (e.seq<1)||(decide (c_ e.op≠0)||qD e.op)
def fZ(es:List bS)(e:bS):Int:=
 if lN e then 2 else if (4096:Int)≤es.length then 60 else if e.index≠es.length+1 then 70 else if e.seq≤(eU es e.aI).1 then 71 else 0
def jc(es:List bS)(e:bS):List bS:=if fZ es e=0 then es ++ [e] else es
def lU(es:List bS)(e:bS):fV:=if fZ es e=0 then (iq (bC es).1 e.index e.op).2 else bO
theorem PX{es:List bS}{e:bS}{c:Nat}(h:c<6)(hc:e.aI=c)(x y z:Value):
  cT (x::y::z::kk es) (0+3+c*2) [.int .i64 e.seq,.int .i64 e.index]=x::y::z::kk (es ++ [e]):=by
 unfold kk
 simp only[PS,hc]
 match c,h with
 | 0,_=>rfl
 | 1,_=>rfl
 | 2,_=>rfl
 | 3,_=>rfl
 | 4,_=>rfl
 | 5,_=>rfl
 | c+6,h=>omega
theorem xY(p:Nat)(es:List bS)(e:bS):aq Tryz.prog 283 [.pointer (some ⟨p,0,none⟩),.agg (bJ e).toArray] Fr w [bw p es]
  (fun v L=>v=.tuple #[.agg (a8 (lU es e)).toArray,.int .i64 (fZ es e)]∧L=[bw p (jc es e)]):=by
 refine TF 107 Tryz.func283 Z ym aw Z Z ?_
 refine CS (CG (VG (VB (vs:=bJ e) Z fun eb=>VG (VO.alloc Z fun rb=>?_))))
 refine VG (VN (CS (VC.block ?_)))
 refine VC.bu 2 Z (aY.log p es) ?_
 rintro x -
 have hrl:=Dd es
 unfold rP
 show VC _ _ _ [pt p (iK es x) rQ,gu x.sp (bC es).1,av e_ 7 x.a1 es.length x.c1 (flat bJ es),av fH 4 x.a2 (bC es).2.length x.c2 (flat a8 (bC es).2),pt rb (a8 bO) fH,pt eb (bJ e) e_] _
 have back:∀{X:Cx},cI X [pt p (iK es x) rQ,gu x.sp (bC es).1,av e_ 7 x.a1 es.length x.c1 (flat bJ es),av fH 4 x.a2 (bC es).2.length x.c2 (flat a8 (bC es).2),pt rb (a8 bO) fH,pt eb (bJ e) e_] [bw p es]:=
  (aa.log x (aZ [0,0,0,0])).ah
 refine aj ?_
 refine VG (VV (fun Fr w hF hs hS=>eZ Fr w (hS.ar 0 Z)) Z ?_)
 refine aj ?_
 refine oG ?_
 refine CS ?_
 refine VC.cZ (σ:=Unit) (fun _=>[(0,pV p),(3,pV eb),(4,pV rb),(10,.bool (lN e))]) (fun _=>[pt p (iK es x) rQ,gu x.sp (bC es).1,av e_ 7 x.a1 es.length x.c1 (flat bJ es),av fH 4 x.a2 (bC es).2.length x.c2 (flat a8 (bC es).2),pt rb (a8 bO) fH,pt eb (bJ e) e_]) (fun _=>True) ?_ ?_
 ·refine AU ?_
  by_cases h1:e.aI<0
  ·have hb:lN e=true:=by simp[lN,h1]
   refine VG (VY 14 true Z (DT h1) ?_)
   refine r6 ?_
   refine VG (VY 19 true Z Z ?_)
   refine r6 ?_
   refine VC.lf Z (CK ?_)
   exact⟨(),trivial,by rw[hb];exact aF,ER⟩
  refine VG (VY 14 false Z (DF h1) ?_)
  refine r6 ?_
  by_cases h2:6≤e.aI
  ·have hb:lN e=true:=by simp[lN,h2]
   refine VG (VY 19 true Z (DT h2) ?_)
   refine r6 ?_
   refine VC.lf Z (CK ?_)
   exact⟨(),trivial,by rw[hb];exact aF,ER⟩
  refine VG (VY 19 false Z (DF h2) ?_)
  refine r6 ?_
  refine CP Z (fun h3=>CK ?_) (fun h3=>?_)
  ·have hb:lN e=true:=by simp[lN,h3]
   exact⟨(),trivial,SC Z (SC Z (SC Z (Sub.bl Z (by simp[hb,h3]) (SN _)))),ER⟩
  ·have hb:lN e=(decide (c_ e.op≠0)||qD e.op):=by simp[lN,h1,h2,h3]
   refine AU ?_
   refine VG (VL 5 e.op.cells Z Z Z Z ?_)
   refine VG (VO.iY (fun Fr w=>gq Fr w e.op) Z ?_)
   refine AU ?_
   by_cases h4:c_ e.op=0
   ·refine VG (VY 28 false Z (by simp[h4]) ?_)
    refine r6 ?_
    refine VG (VL 5 e.op.cells Z Z Z Z ?_)
    refine VG (VO.iY (fun Fr w=>Kv.wS Fr w e.op) Z ?_)
    refine r6 ?_
    exact⟨(),trivial,SC Z (SC Z (SC Z (Sub.bl Z (by rw[hb];simp[qD,h4]) (SN _)))),ER⟩
   ·refine VG (VY 28 true Z (by simp[h4]) ?_)
    refine r6 ?_
    exact⟨(),trivial,SC Z (SC Z (SC Z (Sub.bl Z (by rw[hb,DT (show c_ e.op≠0 from h4)];rfl) (SN _)))),ER⟩
 rintro _ -
 have fin:∀{X:Cx} {fn:Func} {E:Env} (z:Int),fn.results=#[.cell 4 fH,.tmp 5]→fZ es e=z→z≠0→bD X.tab fH=some T.t105→Vg.look E 4=some (.pointer (some ⟨rb,0,none⟩))→Vg.look E 5=some (.int .i64 z) →
   al X fn (fun v L=>v=.tuple #[.agg (a8 (lU es e)).toArray,.int .i64 (fZ es e)]∧L=[bw p (jc es e)]) E [pt p (iK es x) rQ,gu x.sp (bC es).1,av e_ 7 x.a1 es.length x.c1 (flat bJ es),av fH 4 x.a2 (bC es).2.length x.c2 (flat a8 (bC es).2),pt rb (a8 bO) fH,pt eb (bJ e) e_]:=fun z hr hz hne hT h4 h5=>
  al.cJ 4 5 hr h4 hT (an.many (ds:=a8 bO) 4 rfl rfl) h5 back ⟨by rw[lU,if_neg (by rw[hz];exact hne),hz],by rw[jc,if_neg (by rw[hz];exact hne)]⟩
 refine CC Z (fun hb=>?_) (fun hb=>?_)
 ·refine vc ?_
  refine AV ?_
  refine aj ?_
  exact CR (fin 2 Z (by rw[fZ,if_pos hb]) yn Z Z Z)
 refine aj ?_
 refine CP Z (fun h5=>?_) (fun h5=>?_)
 ·refine vc ?_
  refine AV ?_
  refine aj ?_
  exact CR (fin 60 Z (by rw[fZ,hb,if_neg yf,if_pos h5]) yn Z Z Z)
 refine CS (CD (ts 0 10 .nil) ym yo ?_)
 refine kx ?_
 refine pK ?_
 refine kx ?_
 refine VC.dd Z (fun h6=>?_) (fun h6=>?_)
 ·refine vc ?_
  refine AV ?_
  refine aj ?_
  exact CR (fin 70 Z (by rw[fZ,hb,if_neg yf,if_neg h5,if_pos h6]) yn Z Z Z)
 have hcl:∃c:Nat,c<6∧e.aI=c:=by
  have:¬e.aI<0∧¬6≤e.aI:=by simp[lN] at hb;omega
  exact⟨e.aI.toNat,by omega,by omega⟩
 obtain⟨c,hc6,hcc⟩:=hcl
 obtain⟨l1,l2⟩:=HW (es:=es) (c:=c) hc6
 have q1:(iK es x)[0+3+c*2+0]?=some (.int .i64 (eU es e.aI).1):=by rw[show 0+3+c*2+0=c*2+3 by omega,hcc];exact l1
 refine CS (CD (ts 0 12 .nil) ym yo ?_)
 refine kx ?_
 refine AG (AI Z (iu c Z Z Z Z Z hcc hc6) ?_)
 refine kx ?_
 refine AG (VA.load Z Z Z (an.one 0 Z q1) ?_)
 refine kx ?_
 refine CP Z (fun h7=>?_) (fun h7=>CK ?_)
 ·refine vc ?_
  refine AV ?_
  refine aj ?_
  exact CR (fin 71 Z (by rw[fZ,hb,if_neg yf,if_neg h5,if_neg yd,if_pos h7]) yn Z Z Z)
 have hz:fZ es e=0:=by rw[fZ,hb,if_neg yf,if_neg h5,if_neg yd,if_neg h7]
 have hll:(bC (es ++ [e])).2.length=(bC es).2.length+1:=by rw[De];simp[wv]
 have hrr:lU es e=(iq (bC es).1 e.index e.op).2:=by rw[lU,if_pos hz]
 have happ:jc es e=es ++ [e]:=by rw[jc,if_pos hz]
 have hst1:(bC (es ++ [e])).1=(iq (bC es).1 e.index e.op).1:=by rw[De];rfl
 have hst2:(bC (es ++ [e])).2=(bC es).2 ++ [(iq (bC es).1 e.index e.op).2]:=by rw[De];rfl
 refine CS (CD (ts 0 8 (.only 8 (.only 9 .nil))) ym yo ?_)
 refine kx ?_
 refine AG (VA.cK 5 e.op.cells Z Z Z Z Z ?_)
 refine AG (AQ 1 Z (fun Fr w hF hs hS=>Kv.MZ Fr w x.sp (bC es).1 e.index e.op) Z Z (ψ:=fun v H=>v=.agg (a8 (iq (bC es).1 e.index e.op).2).toArray∧H=gu x.sp (iq (bC es).1 e.index e.op).1) yz ?_ ?_)
 ·rintro _ _ ⟨rfl,rfl⟩
  exact yv
 rintro _ _ ⟨rfl,rfl⟩
 generalize (iq (bC es).1 e.index e.op).2=rr at hrr hst2 ⊢
 generalize (iq (bC es).1 e.index e.op).1=S' at hst1 ⊢
 refine AG (AT (vs:=a8 rr) 4 Z Z Z Z Z (NR _) Z Z Z yv ?_)
 refine kx ?_
 refine KG ?_
 refine kx ?_
 refine AG (VA.cK 5 (bJ e) Z Z Z Z Z ?_)
 refine AG (AO (aG.buildSlice (n:=1) (pv:=[(0,.agg (bJ e).toArray)]) (cells:=bJ e) Z Z Z Z yn (fN Z Z Z)) Z ?_ ?_)
 ·rintro _ _ ⟨nb,rfl,rfl⟩
  exact yv
 rintro _ _ ⟨nb,rfl,rfl⟩
 refine AG (AO (aG.append (m:=1) (news:=bJ e) 3 Z Z Z Z Z Z Z (dN.pt 0 Z Z Z) Z (by show(es.length+1)*72≤_;omega) yd) Z ?_ ?_)
 ·rintro _ _ ⟨a1,c1,rfl,hc1,rfl⟩
  exact yv
 rintro _ _ ⟨a1,c1,rfl,hc1,rfl⟩
 refine kx ?_
 refine AG (VA.st 2 (cs':=.pointer (some ⟨x.sp,0,none⟩) :: .slice a1 (es.length+1) c1 :: .slice x.a2 (bC es).2.length x.c2::kk es) Z Z Z Z Z (fB Z) Z Z yv ?_)
 refine kx ?_
 refine CN (L':=[pt p (.pointer (some ⟨x.sp,0,none⟩) :: .slice a1 (es.length+1) c1 :: .slice x.a2 (bC es).2.length x.c2::kk es) rQ,gu x.sp S',av e_ 7 a1 (es.length+1) c1 (flat bJ es++bJ e),av fH 4 x.a2 (bC es).2.length x.c2 (flat a8 (bC es).2),pt rb (a8 rr) fH,pt eb (bJ e) e_]) (aZ [2,2,0,1,1,1]).ah ?_
 refine KG ?_
 refine kx ?_
 refine AG (VA.cK 4 (a8 rr) Z Z Z Z Z ?_)
 refine AG (AO (aG.buildSlice (n:=1) (pv:=[(0,.agg (a8 rr).toArray)]) (cells:=a8 rr) Z Z Z Z yn (fN Z Z Z)) Z ?_ ?_)
 ·rintro _ _ ⟨nb,rfl,rfl⟩
  exact yv
 rintro _ _ ⟨nb,rfl,rfl⟩
 refine AG (AO (aG.append (m:=1) (news:=a8 rr) 4 Z Z Z Z Z Z Z (dN.pt 0 Z Z Z) Z (by show((bC es).2.length+1)*40≤_;omega) yd) Z ?_ ?_)
 ·rintro _ _ ⟨a2,c2,rfl,hc2,rfl⟩
  exact yv
 rintro _ _ ⟨a2,c2,rfl,hc2,rfl⟩
 refine kx ?_
 refine AG (VA.st 2 (cs':=.pointer (some ⟨x.sp,0,none⟩) :: .slice a1 (es.length+1) c1 :: .slice a2 ((bC es).2.length+1) c2::kk es) Z Z Z Z Z (fB Z) Z Z yv ?_)
 refine kx ?_
 refine CN (L':=[pt p (.pointer (some ⟨x.sp,0,none⟩) :: .slice a1 (es.length+1) c1 :: .slice a2 ((bC es).2.length+1) c2::kk es) rQ,gu x.sp S',av e_ 7 a1 (es.length+1) c1 (flat bJ es++bJ e),av fH 4 a2 ((bC es).2.length+1) c2 (flat a8 (bC es).2++a8 rr),pt rb (a8 rr) fH,pt eb (bJ e) e_]) (aZ [2,2,2,0,1,1]).ah ?_
 refine CS (CD (ts 0 11 (.only 11 .nil)) ym yo ?_)
 refine kx ?_
 refine AG (AI Z (LB (pv:=[(0,.int .i64 e.seq),(1,.int .i64 e.index)]) [.int .i64 e.seq,.int .i64 e.index] Z Z Z ym Z) ?_)
 refine kx ?_
 refine AG (AI Z (iu c Z Z Z Z Z hcc hc6) ?_)
 refine AG (AT (vs:=[.int .i64 e.seq,.int .i64 e.index]) 0 Z Z Z Z Z (by show 0+3+c*2+2≤15;omega) (PX hc6 hcc _ _ _) Z Z yv ?_)
 refine kx ?_
 refine aj ?_
 refine VG (VL 4 (a8 rr) Z Z Z Z ?_)
 refine VG (VT (vs:=a8 rr) 4 Z Z Z Z (NR _) Z Z Z ?_)
 refine aj ?_
 have hfin:rP p (es ++ [e]) ⟨x.sp,a1,c1,a2,c2⟩=[pt p (.pointer (some ⟨x.sp,0,none⟩) :: .slice a1 (es.length+1) c1 :: .slice a2 ((bC es).2.length+1) c2::kk (es ++ [e])) rQ,gu x.sp S',av e_ 7 a1 (es.length+1) c1 (flat bJ es++bJ e),av fH 4 a2 ((bC es).2.length+1) c2 (flat a8 (bC es).2++a8 rr)]:=by
  unfold rP iK
  rw[hll,hst1,hst2,a_,ik,ik,ki,qk,ki,qk,bA,bA];rfl
 exact CR (al.cJ 4 5 Z Z Z (an.many (ds:=a8 rr) 4 Z Z) Z (aa.log ⟨x.sp,a1,c1,a2,c2⟩ (by rw[hfin];exact IP 0 Z (IP 0 Z (IP 0 Z (IP 0 Z aa.nil))))).ah ⟨by rw[hrr,hz],by rw[happ]⟩)
end Lg
namespace Kv
open Go Vg T Api Go.Shelf
attribute [local irreducible] VO VC VA
theorem Nu:lJ Tryz.prog 267:=⟨_,Tryz.func267,by kernel_rfl,by kernel_rfl⟩
theorem B'{κ α:Type}{c:κ→Value}{d:α→Value}{b:Nat}{xs:List (κ×α)}(Fr:Nat→Prop)(w:World)(h:oQ Fr w c d b xs):
  aq Tryz.prog 267 [.map (some b)] Fr w [] (fun v L=>∃b',v=.map (some b')∧L=[eI c d b' xs]):=
 ⟨Nu,fun hl hs=>by
  obtain⟨es,clock,h1,h2,h3⟩:=h.at_
  exact Calls.mono (AnyW.maps_Clone Tryz.NS b es clock w h1) fun e w' ⟨h4,h5⟩=>⟨_,_,h4,⟨_,Z,Z⟩,by
   subst h5
   exact⟨Sat.alloc hl _ (eI c d w.heap.size xs) ⟨rfl,es,clock,heap_alloc_new w _,h2,h3⟩ Sat.nil,cB.alloc hl _⟩⟩⟩
theorem vN{p:Nat}{S:jV}(h:aV Fr [gu p S] w):
  aq Tryz.prog 222 [.pointer (some ⟨p,0,none⟩)] Fr w [] (fun v L=>∃p',v=.pointer (some ⟨p',0,none⟩)∧L=[gu p' S]):=by
 obtain⟨b,hp,hm⟩:=C6 h
 refine TF 12 Tryz.func222 Z ym aw Z Z ?_
 refine aj ?_
 refine EL ?_
 refine iD ?_
 refine AM ?_
 refine VG (VK (Lc:=[]) (fun Fr w hF hs hS=>B' Fr w (hm.of hF hs)) Z Z ?_)
 rintro _ _ ⟨b',rfl,rfl⟩
 refine aj ?_
 refine VG (VI (LB (pv:=[(0,.map (some b'))]) [.map (some b')] Z Z Z ym Z) ?_)
 refine VG (VB (vs:=[.map (some b')]) Z fun p'=>?_)
 refine aj ?_
 exact CR (al.tmp 2 Z Z (aa.kv aa.refl).ah ⟨p',Z,Z⟩)
end Kv
namespace Lg
open Go Vg T Api Kv
attribute [local irreducible] VO VC VA
theorem NQ{a:Option Addr}{cap:Nat}{l:List bS}(h:aP bJ 7 Fr w a l)(hl:l.length≤1000000):
  aq Tryz.prog 170 [.slice a l.length cap] Fr w [] (fun v L=>∃a' c',v=.slice a' l.length c'∧L=[av e_ 7 a' l.length c' (flat bJ l)]):=by
 refine TF 8 Tryz.func170 Z ym aw Z Z ?_
 cases a with
 | none=>
  obtain rfl:l=[]:=by
   cases l with
   | nil=>rfl
   | cons x l=>obtain⟨b,o,h1,_⟩:=h.at_ yf;cases h1
  refine pU ?_
  exact xj
 | some a=>
  refine iD ?_
  refine CS (CG (VG (VO.buildSlice (n:=0) (pv:=[]) [] Z Z Z Z yn Z fun b=>?_)))
  refine VO.ah (L':=[av e_ 7 (some ⟨b,0,none⟩) 0 0 []]) (aa.sl (M:=[]) (cs:=[]) (rest:=[]) Z (NR _) Z (aa.refl (L:=[pt b [] e_]))).ah ?_
  refine VG (VO.append (m:=l.length) (news:=flat bJ l) 0 Z Z Z Z Z Z Z (aP.row Hn h) (oa OD l) (by show(0+l.length)*72≤_;omega) yd fun a' c' _=>?_)
  rw[bZ,kW]
  refine aj ?_
  exact xk
theorem NU{a:Option Addr}{cap:Nat}{l:List fV}(h:aP a8 4 Fr w a l)(hl:l.length≤1000000):
  aq Tryz.prog 223 [.slice a l.length cap] Fr w [] (fun v L=>∃a' c',v=.slice a' l.length c'∧L=[av fH 4 a' l.length c' (flat a8 l)]):=by
 refine TF 8 Tryz.func223 Z ym aw Z Z ?_
 cases a with
 | none=>
  obtain rfl:l=[]:=by
   cases l with
   | nil=>rfl
   | cons x l=>obtain⟨b,o,h1,_⟩:=h.at_ yf;cases h1
  refine pU ?_
  exact xj
 | some a=>
  refine iD ?_
  refine CS (CG (VG (VO.buildSlice (n:=0) (pv:=[]) [] Z Z Z Z yn Z fun b=>?_)))
  refine VO.ah (L':=[av fH 4 (some ⟨b,0,none⟩) 0 0 []]) (aa.sl (M:=[]) (cs:=[]) (rest:=[]) Z (NR _) Z (aa.refl (L:=[pt b [] fH]))).ah ?_
  refine VG (VO.append (m:=l.length) (news:=flat a8 l) 0 Z Z Z Z Z Z Z (aP.row Jm h) (oa Sh l) (by show(0+l.length)*40≤_;omega) yd fun a' c' _=>?_)
  rw[bZ,kW]
  refine aj ?_
  exact xk
theorem vN{p:Nat}{es:List bS}(h:aV Fr [bw p es] w)(hl:es.length≤1000000):aq Tryz.prog 168 [.pointer (some ⟨p,0,none⟩)] Fr w [] (fun v L=>∃q,v=.pointer (some ⟨q,0,none⟩)∧L=[bw q es]):=by
 obtain⟨x,hx⟩:=q_.of h
 have hb:=hx.ar
 unfold iK at hb
 have hrl:=Dd es
 refine TF 26 Tryz.func168 Z ym aw Z Z ?_
 refine aj ?_
 refine EO ?_
 refine iD ?_
 refine CS (CD (ts 0 4 (ts 5 4 (ts 10 4 (ts 15 4 (.only 4 (.only 9 (.only 14 (.take 19 (.only 20 (.take 21 .nil)))))))))) ym yo ?_)
 refine xi ?_
 refine AG (VA.load Z Z Z (an.h_ (ds:=kk es) hb Z) ?_)
 refine AG (AO (OC (Lc:=[]) (R:=fun v L=>∃p',v=.pointer (some ⟨p',0,none⟩)∧L=[gu p' (bC es).1]) Z (.refl _) (fun Fr w hF hs hS=>Kv.vN Fr w (hx.kv.of hF hs))) Z ?_ ?_)
 ·rintro _ _ ⟨_,⟨q,rfl,rfl⟩,rfl⟩
  exact Bn
 rintro _ _ ⟨_,⟨q,rfl,rfl⟩,rfl⟩
 refine AG (AO (OC (Lc:=[]) (R:=fun v L=>∃a' c',v=.slice a' es.length c'∧L=[av e_ 7 a' es.length c' (flat bJ es)]) Z (.refl _) (fun Fr w hF hs hS=>NQ Fr w (hx.Ho.of hF hs) hl)) Z ?_ ?_)
 ·rintro _ _ ⟨_,⟨a1,c1,rfl,rfl⟩,rfl⟩
  exact Bn
 rintro _ _ ⟨_,⟨a1,c1,rfl,rfl⟩,rfl⟩
 refine AG (AO (OC (Lc:=[]) (R:=fun v L=>∃a' c',v=.slice a' (bC es).2.length c'∧L=[av fH 4 a' (bC es).2.length c' (flat a8 (bC es).2)]) Z (.refl _) (fun Fr w hF hs hS=>NU Fr w (hx.Jn.of hF hs) yd)) Z ?_ ?_)
 ·rintro _ _ ⟨_,⟨a2,c2,rfl,rfl⟩,rfl⟩
  exact Bn
 rintro _ _ ⟨_,⟨a2,c2,rfl,rfl⟩,rfl⟩
 refine AG (AI Z (LB (pv:=[(0,pV q),(1,.slice a1 es.length c1),(2,.slice a2 (bC es).2.length c2),(3,.agg (kk es).toArray)]) (iK es ⟨q,a1,c1,a2,c2⟩) Z Z Z ym Z) ?_)
 refine AG (AO (aG.box (vs:=iK es ⟨q,a1,c1,a2,c2⟩) Z Z) Z ?_ ?_)
 ·rintro _ _ ⟨pb,rfl,rfl⟩
  exact Bn
 rintro _ _ ⟨pb,rfl,rfl⟩
 refine bg ?_
 exact CR (al.tmp 2 Z Z (aa.log ⟨q,a1,c1,a2,c2⟩ (IP 0 Z (IP 2 Z (IP 1 Z (IP 0 Z aa.nil))))).ah ⟨pb,Z,Z⟩)
end Lg
namespace Rd
open Go Vg T Api Kv Ch
attribute [local irreducible] VO VC VA
theorem wZ{n k b M:Nat}(h:n≤k)(hk:k*b≤M):n*b≤M:=p6 (so b h) hk
def bW(f:aA)(m:gM):List Value:=f.cells m
abbrev bM:TypeId:=353
structure ss where
 id:Int
 f:aA
 r:fV
abbrev oS:=ss×gM
def cM(x:oS):List Value:=.int .i64 x.1.id::(bW x.1.f x.2++a8 x.1.r)
theorem wN(x:oS):(cM x).length=34:=rfl
abbrev dM:TypeId:=366
abbrev wP:TypeId:=228
structure ee where
 cap:Int
 last:Int
 l:List ss
structure tP where
 a:Option Addr
 c:Nat
 rows:List oS
def qA(R:ee)(x:tP):List Value:=[.int .i64 R.cap,.int .i64 R.last,.slice x.a x.rows.length x.c]
def rZ(p:Nat)(R:ee)(x:tP):List HP:=[pt p (qA R x) wP,av dM 34 x.a x.rows.length x.c (flat cM x.rows)]
def tO(R:ee)(x:tP):Prop:=x.rows.map Prod.fst=R.l
def br(p:Nat)(R:ee):HP:=hex fun x=>b_ (jb (tO R x)::rZ p R x)
structure xR(Fr:Nat→Prop)(w:World)(p:Nat)(R:ee)(x:tP):Prop where
 ok:tO R x
 ar:a7 Fr w p (qA R x)
 rows:aP cM 34 Fr w x.a x.rows
theorem xR.of{Fr:Nat→Prop}{w:World}{p:Nat}{R:ee}(h:aV Fr [br p R] w):∃x,xR Fr w p R x:=by
 obtain⟨x,h⟩:=h.ex
 have h:=h.sep
 exact⟨x,h.pure 0 Z,h.ar 1 Z,aP.av wN (h.at_ 2 Z)⟩
theorem aY.aL(p:Nat)(R:ee):aY (br p R) (fun x=>tO R x) (fun x=>rZ p R x):=by
 rintro w ids ⟨s,h⟩ hn
 obtain⟨F,G,rfl,⟨rfl,h1⟩,h2⟩:=h
 exact AW
theorem aa.aL{p:Nat}{R:ee}{L M:List HP}(x:tP)(hs:tO R x)(h:aa L (rZ p R x++M)):aa L (br p R::M):=
 aa.ex x (aa.sep (aa.trans h (aa.app (L:=rZ p R x) (M:=_::rZ p R x) (aa.pure hs aa.refl) aa.refl)))
theorem tO.len{R:ee}{x:tP}(h:tO R x):x.rows.length=R.l.length:=by rw[←h];simp
def ee.new(cap:Int):ee:=⟨cap,0,[]⟩
theorem jH{c:Int}(h0:1≤c)(h1:c≤16):aq Tryz.prog 89 [.int .i64 c] Fr w [] (fun v L=>∃q,v=.tuple #[.pointer (some ⟨q,0,none⟩),.int .i64 0]∧L=[br q (ee.new c)]):=by
 refine TF 13 Tryz.func89 Z ym aw Z Z ?_
 refine aj ?_
 refine VG (VY 6 false Z (DF yd) ?_)
 refine bF ?_
 refine CP Z (fun h=>by omega) (fun _=>CK ?_)
 refine aj ?_
 refine VG (VI (LB (pv:=[(0,.int .i64 c)]) (qA (ee.new c) ⟨none,0,[]⟩) Z Z Z ym Z) ?_)
 refine VG (VB (vs:=qA (ee.new c) ⟨none,0,[]⟩) Z fun q=>?_)
 refine aj ?_
 exact CR (al.cz 2 3 Z Z Z (aa.aL (R:=ee.new c) ⟨none,0,[]⟩ Z (IP 0 Z (aa.cN aa.nil))).ah ⟨q,Z,Z⟩)
section
variable {p:Nat} {R:ee}
theorem eZ{c:Int}{cs:List Value}(h:a7 Fr w p (.int .i64 c::cs))(hc:1≤c):aq Tryz.prog 219 [.pointer (some ⟨p,0,none⟩)] Fr w [] (fun v L=>v=.bool false∧L=[]):=by
 refine TF 12 Tryz.func219 Z ym aw Z Z ?_
 refine aj ?_
 refine VG (VO.split 5 rfl rfl (fun h=>by cases h) (fun _=>?_))
 refine me ?_
 exact CR (al.bool 2 Z Z ye ER ⟨rfl,Z⟩)
theorem kO(h:aV Fr [br p R] w)(hc:1≤R.cap):aq Tryz.prog 166 [.pointer (some ⟨p,0,none⟩)] Fr w [] (fun v L=>v=.int .i64 R.l.length∧L=[]):=by
 obtain⟨x,hx⟩:=xR.of h
 have hb:=hx.ar
 have hlen:=hx.ok.len
 refine TF 10 Tryz.func166 Z ym aw Z Z ?_
 refine aj ?_
 refine VG (VV (fun Fr w hF hs _=>eZ Fr w (hb.of hF hs) hc) Z ?_)
 refine iD ?_
 refine kS ?_
 exact CR (al.int 2 Z Z (by rw[hlen]) ER ⟨rfl,Z⟩)
def ee.ni(R:ee):Int:=match R.l.getLast? with
 | some x=>x.id
 | none=>0
theorem oe(h:aV Fr [br p R] w)(hc:1≤R.cap)(hl:R.l.length≤1000000):aq Tryz.prog 293 [.pointer (some ⟨p,0,none⟩)] Fr w [] (fun v L=>v=.tuple #[.int .i64 R.ni,.bool (!R.l.isEmpty)]∧L=[]):=by
 obtain⟨x,hx⟩:=xR.of h
 have hb:=hx.ar
 have hlen:=hx.ok.len
 refine TF 20 Tryz.func293 Z ym aw Z Z ?_
 refine aj ?_
 refine VG (VV (fun Fr w hF hs _=>kO Fr w (h.of hF hs) hc) Z ?_)
 refine aj ?_
 refine CE Z (fun h1=>?_) (fun h1=>CK ?_)
 ·have h0:R.l=[]:=gI yd
  refine aj ?_
  exact CR (al.cz 2 3 Z Z Z ER ⟨by rw[ee.ni,h0];rfl,Z⟩)
 ·have hpos:0<x.rows.length:=by omega
  obtain⟨y,hy⟩:∃y,x.rows[x.rows.length-1]?=some y:=⟨_,GE yd⟩
  have hgl:R.l.getLast?=some y.1:=by rw[List.getLast?_eq_getElem?,←hx.ok,dH,dW,hy];rfl
  obtain⟨eb,eo,hea,ra,rc⟩:=aP.rd (X:=⟨Tryz.prog,tab,aw,20,Fr,w⟩) hx.rows hy
  have hb2:a7 Fr w p [.int .i64 R.cap,.int .i64 R.last,.slice (some ⟨eb,eo,none⟩) x.rows.length x.c]:=by rw[←hea];exact hb
  refine CS (CD (ts 0 15 .nil) ym yo ?_)
  (repeat(first|refine yG (yN ?_)|refine yG (yE rfl rfl rfl (an.ar hb2 rfl) ?_)))
  refine qP ?_
  refine AG (AI Z (dU (x.rows.length-1) Z Z Z Z Z yd yd) ?_)
  refine bg ?_
  refine AG (VA.load Z Z Z (rc _ _ 0 _ Z Z) ?_)
  refine bg ?_
  exact CR (al.cz 2 3 Z Z Z ER ⟨by
   rw[ee.ni,hgl]
   cases hR:R.l with
   | nil=>exfalso;apply h1;rw[hR];rfl
   | cons _ _=>rfl,rfl⟩)
end
theorem B'{a:Option Addr}{cap:Nat}{l:List bj}(h:aP aC 2 Fr w a l)(hl:l.length≤1000000):
  aq Tryz.prog 359 [.slice a l.length cap] Fr w [] (fun v L=>∃a' c',v=.slice a' l.length c'∧L=[av aN 2 a' l.length c' (flat aC l)]):=by
 refine TF 8 Tryz.func359 Z ym aw Z Z ?_
 cases a with
 | none=>
  obtain rfl:l=[]:=by
   cases l with
   | nil=>rfl
   | cons x l=>obtain⟨b,o,h1,_⟩:=h.at_ yf;cases h1
  refine pU ?_
  exact xj
 | some a=>
  refine iD ?_
  refine CS (CG (VG (VO.buildSlice (n:=0) (pv:=[]) [] Z Z Z Z yn Z fun b=>?_)))
  refine EP ?_
  refine VG (VO.append (m:=l.length) (news:=flat aC l) 0 Z Z Z Z Z Z Z (aP.row cj h) (oa sV _) Bo yd fun a' c' _=>?_)
  rw[bZ,kW]
  refine aj ?_
  exact xk
theorem zV(f:aA){a:Option Addr}{cap:Nat}{ms:List bj}(h:aP aC 2 Fr w a ms)(hl:ms.length≤1000000):aq Tryz.prog 372 [.agg (bW f (a,ms.length,cap)).toArray] Fr w [] (fun v L=>(∃m,v=.agg (bW f m).toArray)∧L=[]):=by
 refine TF 10 Tryz.func372 Z ym aw Z Z ?_
 refine CS (CG (VG (VB (vs:=bW f (a,ms.length,cap)) Z (fun b=>VG (VO.alloc Z fun c=>VG (VN ?_))))))
 refine cF ?_
 refine VG (VK (Lc:=[]) (fun Fr w hF hs _=>B' Fr w (h.of hF hs) hl) Z Z ?_)
 rintro _ _ ⟨a',c',rfl,rfl⟩
 refine VG (VO.st 2 (cs':=bW f (a',ms.length,c')) Z Z Z Z (by show 24<29;omega) Z Z (VG (VN ?_)))
 refine CS (CG (VG (VL 2 (bW f (a',ms.length,c')) Z Z Z Z (VG (VT (vs:=bW f (a',ms.length,c')) (cs':=bW f (a',ms.length,c')) 1 Z Z Z Z (NR _) Z Z Z (VG (VN ?_)))))))
 exact CR (al.cell 2 Z Z Z (an.many 1 Z Z) aa.nil.ah ⟨⟨_,Z⟩,Z⟩)
def ee.put(R:ee)(f:aA)(r:fV):ee:=if (R.l.length:Int)<R.cap then { R with last:=R.last+1,l:=R.l ++ [⟨R.last+1,f,r⟩] } else R
theorem R8(p:Nat)(R:ee)(hc:1≤R.cap)(hc1:R.cap≤16)(h0:0≤R.last)(h1:R.last≤1000000000)(f:aA){a:Option Addr}{cap:Nat}{ms:List bj}(h:aP aC 2 Fr w a ms)(hl:ms.length≤1000000)(r:fV):
  aq Tryz.prog 350 [.pointer (some ⟨p,0,none⟩),.agg (bW f (a,ms.length,cap)).toArray,.agg (a8 r).toArray] Fr w [br p R]
   (fun v L=>v=(if (R.l.length:Int)<R.cap then .tuple #[.int .i64 (R.last+1),.int .i64 0] else .tuple #[.int .i64 0,.int .i64 60])∧L=[br p (R.put f r)]):=by
 refine TF 50 Tryz.func350 Z ym aw Z Z ?_
 refine CS (CG (VG (VB (vs:=bW f (a,ms.length,cap)) Z fun fb=>VG (VB (vs:=a8 r) Z fun rb=>VG (VN ?_)))))
 refine VC.bu 2 Z (aY.aL p R) ?_
 rintro x hx
 have hlen:=hx.len
 unfold rZ
 show VC _ _ _ [pt p (qA R x) wP,av dM 34 x.a x.rows.length x.c (flat cM x.rows),pt rb (a8 r) 105,pt fb (bW f (a,ms.length,cap)) bM] _
 refine aj ?_
 refine VG (VV (fun Fr w hF hs hS=>eZ Fr w (hS.ar 0 Z) hc) Z ?_)
 refine aj ?_
 refine oG ?_
 refine CS (CD (ts 0 11 .nil) ym yo ?_)
 refine bg ?_
 by_cases hfull:(R.l.length:Int)<R.cap
 ·refine CP Z (fun h=>by omega) (fun _=>CK ?_)
  refine vb ?_
  refine VG (VO.st 0 (cs':=[.int .i64 R.cap,.int .i64 (R.last+1),.slice x.a x.rows.length x.c]) Z Z Z Z (fB Z) Z Z ?_)
  refine jr ?_
  refine CS (CD (ts 0 10 (.take 11 (.only 10 (.take 12 (.only 13 (.only 14 (ts 15 2 (.only 17 .nil)))))))) ym yo ?_)
  refine bg ?_
  refine AG (VA.cK 3 (bW f (a,ms.length,cap)) Z Z Z Z Z ?_)
  refine AG (VA.cK 2 (a8 r) Z Z Z Z Z ?_)
  refine AG (VA.dI (φ:=fun v=>∃m,v=.agg (bW f m).toArray) (fun Fr w hF hs hS=>zV Fr w f (h.of hF hs) hl) Z Z yv ?_)
  rintro _ ⟨m,rfl⟩
  refine AG (AI Z (LB (pv:=[(0,.int .i64 (R.last+1)),(1,.agg (bW f m).toArray),(2,.agg (a8 r).toArray)]) (cM (⟨R.last+1,f,r⟩,m)) Z Z Z ym Z) ?_)
  refine AG (AO (aG.buildSlice (n:=1) (pv:=[(0,.agg (cM (⟨R.last+1,f,r⟩,m)).toArray)]) (cells:=cM (⟨R.last+1,f,r⟩,m)) Z Z Z Z yn (fN Z Z Z)) Z ?_ ?_)
  ·rintro _ _ ⟨nb,rfl,rfl⟩
   exact yv
  rintro _ _ ⟨nb,rfl,rfl⟩
  refine AG (AO (aG.append (m:=1) (news:=cM (⟨R.last+1,f,r⟩,m)) 2 Z Z Z Z Z Z Z (dN.pt 0 Z Z Z) Z (wZ (k:=101) yd yn) yd) Z ?_ ?_)
  ·rintro _ _ ⟨a1,c1,rfl,hc1,rfl⟩
   exact yv
  rintro _ _ ⟨a1,c1,rfl,hc1,rfl⟩
  refine pL ?_
  refine AG (VA.st 2 (cs':=[.int .i64 R.cap,.int .i64 (R.last+1),.slice a1 (x.rows.length+1) c1]) Z Z Z Z Z (fB Z) Z Z yv ?_)
  refine pL ?_
  refine gh ?_
  have hput:R.put f r={ R with last:=R.last+1,l:=R.l ++ [⟨R.last+1,f,r⟩] }:=by rw[ee.put,if_pos hfull]
  refine CR (al.cz 6 7 Z Z Z (aa.aL ⟨a1,c1,x.rows ++ [(⟨R.last+1,f,r⟩,m)]⟩ (R:=R.put f r) ?_ ?_).ah ⟨by rw[if_pos hfull],Z⟩)
  ·rw[hput];show List.map _ _=_;rw[fA,hx];rfl
  ·rw[hput]
   unfold rZ qA
   rw[a_,ik,ki,qk,bA]
   exact(aZ [2,0])
 ·refine CP Z (fun h=>?_) (fun h=>by omega)
  have hput:R.put f r=R:=by rw[ee.put,if_neg hfull]
  refine aj ?_
  exact CR (al.cz 6 7 Z Z Z (aa.aL x hx (IP 0 Z (IP 0 Z aa.nil))).ah ⟨by rw[if_neg hfull],by rw[hput]⟩)
end Rd
namespace Rd
open Go Vg T Api Kv Ch
attribute [local irreducible] VO VC VA
theorem Gu{Fr Fr':Nat→Prop}{w w':World}{b:Nat}{cs:List Value}(h:a7 Fr w b cs)(hF:∀b,Fr b→Fr' b)(hk:cB Fr w w'):a7 Fr' w' b cs:=by
 obtain⟨t,fz,ht⟩:=h.at_
 exact⟨hF b h.fr,t,fz,by rw[hk.block b h.fr];exact ht⟩
theorem w8(p:Nat)(R:ee)(hc:1≤R.cap)(hl:R.l.length≤100)(g:FuncId)(capt:List Value)(st:ss→Bool)
  (hg:∀Fr' w',(∀b,Fr b→Fr' b)→cB Fr w w'→∀row:oS,aq Tryz.prog g (.agg (cM row).toArray::capt) Fr' w' [] (fun v L=>v=.bool (st row.1)∧L=[])):
  aq Tryz.prog 277 [.pointer (some ⟨p,0,none⟩),ba g [] capt] Fr w [br p R]
   (fun v L=>∃a c rows,rows.map Prod.fst=R.l.filter (fun x=>!st x)∧v=.slice a rows.length c∧L=[br p { R with l:=R.l.filter st },av dM 34 a rows.length c (flat cM rows)]):=by
 refine TF 37 Tryz.func277 Z ym aw Z Z ?_
 refine VC.bu 0 Z (aY.aL p R) ?_
 rintro x hx
 have hlen:=hx.len
 unfold rZ
 show VC _ _ _ [pt p (qA R x) wP,av dM 34 x.a x.rows.length x.c (flat cM x.rows)] _
 refine aj ?_
 refine VG (VV (fun Fr w hF hs hS=>eZ Fr w (hS.ar 0 Z) hc) Z ?_)
 refine iD ?_
 refine VC.bu 1 Z (aY.rl dM x.a x.c x.rows wN) ?_
 rintro r ⟨rok,hrv,hrx⟩
 show VC _ _ _ [r.h dM,pt p (qA R x) wP] _
 refine cF ?_
 refine VC.loop (σ:=Nat×List oS×List oS×(Option Addr×Nat)×(Option Addr×Nat)) (fun y=>[(0,pV p),(1,ba g [] capt),(5,.slice y.2.2.2.1.1 y.2.1.length y.2.2.2.1.2),(6,.slice y.2.2.2.2.1 y.2.2.1.length y.2.2.2.2.2),(14,.slice x.a x.rows.length x.c),(15,.int .i64 x.rows.length),(16,.int .i64 y.1)])
  (fun y=>[av dM 34 y.2.2.2.1.1 y.2.1.length y.2.2.2.1.2 (flat cM y.2.1),av dM 34 y.2.2.2.2.1 y.2.2.1.length y.2.2.2.2.2 (flat cM y.2.2.1),pt p (qA R x) wP,r.h dM])
  (fun y=>y.1≤x.rows.length∧y.2.1.map Prod.fst=(R.l.take y.1).filter st∧y.2.2.1.map Prod.fst=(R.l.take y.1).filter (fun z=>!st z)∧y.2.1.length≤y.1∧y.2.2.1.length≤y.1) (fun y=>x.rows.length-y.1) (0,[],[],(none,0),(none,0))
  ⟨bK _,rfl,rfl,NR _,NR _⟩ aF (aa.cN (aa.cN (aZ [1,0]))).ah ?_
 rintro⟨i,K,D,⟨ak,ck⟩,⟨ag,cg⟩⟩ ⟨hi,hK,hD,hKl,hDl⟩
 dsimp only at hi hK hD hKl hDl ⊢
 refine aj ?_
 refine CP Z (fun h1=>CK ?_) (fun h1=>CX ?_)
 ·have hi2:i<x.rows.length:=by omega
  obtain⟨row,hrow⟩:∃row,x.rows[i]?=some row:=⟨_,GE hi2⟩
  have hli:R.l[i]?=some row.1:=by rw[←hx,dH,hrow];rfl
  have htk:R.l.take (i+1)=R.l.take i ++ [row.1]:=by rw[fS,hli];rfl
  obtain⟨rb,ro,r1,r2,hrd⟩:=rok.ld (t:=dM) (hrx▸hrow) rfl
  have hxa:x.a=some ⟨rb,ro,none⟩:=by rw[RL.v,r2,hrx] at hrv;injection hrv with e1;exact e1.symm
  rw[hxa]
  refine sf ?_
  refine VG (VO.load Z Z ((hrd 3 Z).1 _ Z Z) ?_)
  refine VG (VO.alloc Z fun tb=>?_)
  refine VG (VT (vs:=cM row) 0 Z Z Z Z (NR _) Z Z Z ?_)
  refine FV ?_
  refine VG (VO.tS (u:=.bool (st row.1)) Z (fun Fr w hF hs hS=>hg Fr w hF hs.bL row) Z ?_)
  refine aj ?_
  refine CC Z (fun hst=>?_) (fun hst=>?_)
  ·refine FV ?_
   refine VG (VO.buildSlice (n:=1) (pv:=[(0,.agg (cM row).toArray)]) (cM row) Z Z Z Z yn (fN Z Z Z) fun nb=>?_)
   refine VG (VO.append (m:=1) (news:=cM row) 2 Z Z Z Z Z Z Z (dN.pt 0 Z Z Z) Z (wZ (k:=201) yd yn) yd fun a2 c2 hc2=>?_)
   refine gG ?_
   have hL:(K ++ [row]).length=K.length+1:=by simp
   have hF:flat cM (K ++ [row])=flat cM K++cM row:=by simp[ik,ki,qk]
   refine⟨(i+1,K ++ [row],D,(a2,c2),(ag,cg)),⟨hi2,?_,?_,by dsimp only;rw[hL];omega,by dsimp only;omega⟩,by dsimp only;omega,SC Z (SC Z (SC (by rw[hL];rfl) aF)),?_⟩
   ·dsimp only;rw[fA,hK,htk,sk];simp[hst]
   ·dsimp only;rw[hD,htk,sk];simp[hst]
   ·dsimp only;rw[hL,hF];exact(aZ [0,2,2,2]).ah
  ·refine FV ?_
   refine VG (VO.buildSlice (n:=1) (pv:=[(0,.agg (cM row).toArray)]) (cM row) Z Z Z Z yn (fN Z Z Z) fun nb=>?_)
   refine VG (VO.append (m:=1) (news:=cM row) 3 Z Z Z Z Z Z Z (dN.pt 0 Z Z Z) Z (wZ (k:=201) yd yn) yd fun a2 c2 hc2=>?_)
   refine gG ?_
   have hL:(D ++ [row]).length=D.length+1:=by simp
   have hF:flat cM (D ++ [row])=flat cM D++cM row:=by simp[ik,ki,qk]
   refine⟨(i+1,K,D ++ [row],(ak,ck),(a2,c2)),⟨hi2,?_,?_,by dsimp only;omega,by dsimp only;rw[hL];omega⟩,by dsimp only;omega,SC Z (SC Z (SC Z (SC (by rw[hL];rfl) aF))),?_⟩
   ·dsimp only;rw[hK,htk,sk];simp[hst]
   ·dsimp only;rw[fA,hD,htk,sk];simp[hst]
   ·dsimp only;rw[hL,hF];exact(aZ [3,0,2,2]).ah
 ·obtain rfl:i=x.rows.length:=by omega
  rw[hlen,jR] at hK hD
  refine aj ?_
  refine VG (VO.st 2 (cs':=[.int .i64 R.cap,.int .i64 R.last,.slice ak K.length ck]) Z Z Z Z (fB Z) Z Z ?_)
  refine aj ?_
  exact CR (al.tmp 4 Z Z (aa.aL (R:={ R with l:=R.l.filter st }) ⟨ak,ck,K⟩ hK (IP 2 Z (IP 0 Z (IP 0 Z aa.nil)))).ah ⟨ag,cg,D,hD,Z,Z⟩)
section
variable {p:Nat} {R:ee}
def nB(id:Int)(x:ss):Bool:=decide (id<x.id)
def ph(now:Int)(x:ss):Bool:=decide (now≤x.f.deadline)
theorem Ty{b:Nat}{id:Int}(hb:a7 Fr w b [.int .i64 id])(row:oS):aq Tryz.prog 358 [.agg (cM row).toArray,.pointer (some ⟨b,0,none⟩)] Fr w [] (fun v L=>v=.bool (nB id row.1)∧L=[]):=by
 refine TF 8 Tryz.func358 Z ym aw Z Z ?_
 refine CS (CG (VG (VB (vs:=cM row) Z fun rb=>?_)))
 refine KH ?_
 exact CR (al.tmp 3 Z Z aa.nil.ah ⟨rfl,Z⟩)
theorem OM{b:Nat}{now:Int}(hb:a7 Fr w b [.int .i64 now])(row:oS):aq Tryz.prog 278 [.agg (cM row).toArray,.pointer (some ⟨b,0,none⟩)] Fr w [] (fun v L=>v=.bool (ph now row.1)∧L=[]):=by
 refine TF 9 Tryz.func278 Z ym aw Z Z ?_
 refine CS (CG (VG (VB (vs:=cM row) Z fun rb=>?_)))
 refine KH ?_
 exact CR (al.tmp 3 Z Z aa.nil.ah ⟨rfl,Z⟩)
theorem O0(row:oS):aq Tryz.prog 377 [.agg (cM row).toArray] Fr w [] (fun v L=>v=.bool false∧L=[]):=by
 refine TF 3 Tryz.func377 Z ym aw Z Z ?_
 refine CS (CG (VG (VB (vs:=cM row) Z fun rb=>?_)))
 refine aj ?_
 exact qO
theorem TA(hc:1≤R.cap)(hl:R.l.length≤100)(id:Int):aq Tryz.prog 314 [.pointer (some ⟨p,0,none⟩),.int .i64 id] Fr w [br p R]
   (fun v L=>∃a c rows,rows.map Prod.fst=R.l.filter (fun x=>!nB id x)∧v=.slice a rows.length c∧L=[br p { R with l:=R.l.filter (nB id) },av dM 34 a rows.length c (flat cM rows)]):=by
 refine TF 8 Tryz.func314 Z ym aw Z Z ?_
 refine CS (CG (VG (VO.ot (aG.box (vs:=[.int .i64 id]) Z Z) ?_)))
 rintro _ _ ⟨b,rfl,rfl⟩
 refine aj ?_
 refine EF ?_
 refine VO.ah (L':=[br p R,pt b [.int .i64 id] 3]) (aZ [1,0]).ah ?_
 refine VG (VK (Lc:=[br p R]) (fun Fr w hF hw hS=>w8 Fr w p R hc hl 358 [.pointer (some ⟨b,0,none⟩)] (nB id) (fun Fr' w' hF' hk row=>Ty Fr' w' (Gu (hS.ar 0 Z) hF' hk) row)) Z Z ?_)
 rintro _ _ ⟨a,c,rows,h1,rfl,rfl⟩
 refine aj ?_
 exact KI
theorem ub(hc:1≤R.cap)(hl:R.l.length≤100)(now:Int):aq Tryz.prog 233 [.pointer (some ⟨p,0,none⟩),.int .i64 now] Fr w [br p R]
   (fun v L=>∃a c rows,rows.map Prod.fst=R.l.filter (fun x=>!ph now x)∧v=.slice a rows.length c∧L=[br p { R with l:=R.l.filter (ph now) },av dM 34 a rows.length c (flat cM rows)]):=by
 refine TF 8 Tryz.func233 Z ym aw Z Z ?_
 refine CS (CG (VG (VO.ot (aG.box (vs:=[.int .i64 now]) Z Z) ?_)))
 rintro _ _ ⟨b,rfl,rfl⟩
 refine aj ?_
 refine EF ?_
 refine VO.ah (L':=[br p R,pt b [.int .i64 now] 3]) (aZ [1,0]).ah ?_
 refine VG (VK (Lc:=[br p R]) (fun Fr w hF hw hS=>w8 Fr w p R hc hl 278 [.pointer (some ⟨b,0,none⟩)] (ph now) (fun Fr' w' hF' hk row=>OM Fr' w' (Gu (hS.ar 0 Z) hF' hk) row)) Z Z ?_)
 rintro _ _ ⟨a,c,rows,h1,rfl,rfl⟩
 refine aj ?_
 exact KI
theorem CJ(hc:1≤R.cap)(hl:R.l.length≤100):aq Tryz.prog 354 [.pointer (some ⟨p,0,none⟩)] Fr w [br p R]
   (fun v L=>∃a c rows,rows.map Prod.fst=R.l∧v=.slice a rows.length c∧L=[br p { R with l:=[] },av dM 34 a rows.length c (flat cM rows)]):=by
 refine TF 5 Tryz.func354 Z ym aw Z Z ?_
 refine aj ?_
 refine VG (VK (Lc:=[br p R]) (fun Fr w hF hw hS=>w8 Fr w p R hc hl 377 [] (fun _=>false) (fun Fr' w' hF' hk row=>O0 Fr' w' row)) Z Z ?_)
 rintro _ _ ⟨a,c,rows,h1,rfl,rfl⟩
 refine aj ?_
 refine CR (al.tmp 2 Z Z ER ⟨a,c,rows,?_,Z,?_⟩)
 ·rw[h1];simp
 ·rw[show R.l.filter (fun _=>false)=[] from List.filter_eq_nil_iff.2 yf];rfl
end
end Rd
namespace Ring
open Go Vg T Api
attribute [local irreducible] VO VC VA
theorem Ca(m:gM)(h:kz Fr w m):aq Tryz.prog 359 [.slice m.1 m.2.1 m.2.2] Fr w [] (fun v L=>∃m':gM,v=.slice m'.1 m'.2.1 m'.2.2∧L=[iv m']):=by
 obtain⟨a,n,c⟩:=m
 obtain⟨l,hl,hl2,h⟩:=h
 dsimp only at hl h ⊢
 subst hl
 have key:∀(a':Option Addr) (c':Nat),aa [av aN 2 a' l.length c' (flat aC l)] [iv (a',l.length,c')]:=fun a' c'=>
  aa.ex (f:=fun ms:List bj=>b_ [jb (ms.length=l.length∧ms.length≤1000000),av aN 2 a' l.length c' (flat aC ms)]) l (aa.sep (Ls:=[jb _,av aN 2 a' l.length c' (flat aC l)]) (aa.pure ⟨rfl,hl2⟩ aa.refl))
 refine TF 8 Tryz.func359 Z ym aw Z Z ?_
 cases a with
 | none=>
  obtain rfl:l=[]:=by
   cases l with
   | nil=>rfl
   | cons x l=>obtain⟨b,o,h1,_⟩:=h.at_ yf;cases h1
  refine pU ?_
  exact CR (al.tmp 2 Z Z (aa.Dm aa.nil).ah ⟨(none,0,0),Z,Z⟩)
 | some a=>
  refine iD ?_
  refine CS (CG (VG (VO.buildSlice (n:=0) (pv:=[]) [] Z Z Z Z yn Z fun b=>?_)))
  refine EP ?_
  refine VG (VO.append (m:=l.length) (news:=flat aC l) 0 Z Z Z Z Z Z Z (aP.row cj h) (oa sV _) Bo yd fun a' c' _=>?_)
  rw[bZ,kW]
  refine aj ?_
  exact CR (al.tmp 2 Z Z (key a' c').ah ⟨(a',l.length,c'),Z,Z⟩)
theorem zV(p:FM)(h:kz Fr w p.2):aq Tryz.prog 387 [.agg (aS p).toArray] Fr w [] (fun v L=>∃m,v=.agg (aS (p.1,m)).toArray∧L=[iv m]):=by
 refine TF 10 Tryz.func387 Z ym aw Z Z ?_
 refine CS (CG (VG (VB (vs:=aS p) Z (fun b=>VG (VO.alloc Z fun c=>VG (VN ?_))))))
 refine cF ?_
 refine VG (VK (Lc:=[]) (fun Fr w hF hs _=>Ca Fr w p.2 (h.of hF hs)) Z Z ?_)
 rintro _ _ ⟨m,rfl,rfl⟩
 refine VG (VO.st 2 (cs':=aS (p.1,m)) Z Z Z Z (by show 24<29;omega) Z Z (VG (VN ?_)))
 refine CS (CG (VG (VL 2 (aS (p.1,m)) Z Z Z Z (VG (VT (vs:=aS (p.1,m)) (cs':=aS (p.1,m)) 1 Z Z Z Z (NR _) Z Z Z (VG (VN ?_)))))))
 exact CR (al.cell 2 Z Z Z (an.many 1 Z Z) (IP 0 Z aa.nil).ah ⟨m,Z,Z⟩)
structure re where
 pb:Nat
 pl:List FM
 first:Nat
structure kZ(q:List aA)(cap:Nat)(s:re):Prop where
 len:s.pl.length=cap
 dh:1≤cap
 eN:cap≤64
 first:s.first<cap
 Ad:q.length≤cap
 at_:∀i,i<q.length→(s.pl[(s.first+i) % cap]?).map Prod.fst=q[i]?
def uG(q:List aA)(cap:Nat)(s:re):List Value:=[.slice (some ⟨s.pb,0,none⟩) cap cap,.int .i64 s.first,.int .i64 q.length]
def pA(p:Nat)(q:List aA)(cap:Nat)(s:re):List HP:=pt p (uG q cap s) 349::pt s.pb (flat aS s.pl) 353::s.pl.map fun r=>iv r.2
def cR(p:Nat)(q:List aA)(cap:Nat):HP:=hex fun s=>b_ (jb (kZ q cap s)::pA p q cap s)
structure xS(Fr:Nat→Prop)(w:World)(p:Nat)(q:List aA)(cap:Nat)(s:re):Prop where
 ok:kZ q cap s
 ring:a7 Fr w p (uG q cap s)
 places:a7 Fr w s.pb (flat aS s.pl)
 mem:∀(i:Nat) (r:FM),s.pl[i]?=some r→kz Fr w r.2
theorem xS.of{Fr:Nat→Prop}{w:World}{p:Nat}{q:List aA}{cap:Nat}(h:aV Fr [cR p q cap] w):∃s,xS Fr w p q cap s:=by
 obtain⟨s,h⟩:=h.ex
 have h:=h.sep
 exact⟨s,h.pure 0 Z,h.ar 1 Z,h.ar 2 Z,fun i r hr=>kz.sat (h.at_ (i+3) (QZ hr))⟩
theorem aY.ring(p:Nat)(q:List aA)(cap:Nat):aY (cR p q cap) (fun s=>kZ q cap s) (fun s=>pA p q cap s):=by
 rintro w ids ⟨s,h⟩ hn
 obtain⟨F,G,rfl,⟨rfl,h1⟩,h2⟩:=h
 exact AW
theorem aa.ring{p:Nat}{q:List aA}{cap:Nat}{L M:List HP}(s:re)(hs:kZ q cap s)(h:aa L (pA p q cap s++M)):aa L (cR p q cap::M):=
 aa.ex s (aa.sep (aa.trans h (aa.app (L:=pA p q cap s) (M:=_::pA p q cap s) (aa.pure hs aa.refl) aa.refl)))
theorem eZ{p:Nat}{a:Addr}{n c:Nat}{cs:List Value}(h:a7 Fr w p (.slice (some a) n c::cs)):aq Tryz.prog 322 [.pointer (some ⟨p,0,none⟩)] Fr w [] (fun v L=>v=.bool false∧L=[]):=by
 refine TF 12 Tryz.func322 Z ym aw Z Z ?_
 refine aj ?_
 refine VG (VO.split 5 rfl rfl (fun h=>by cases h) (fun _=>?_))
 refine me ?_
 exact uW
theorem DP{p pb first cap:Nat}{cs:List Value}(i:Nat)(h:a7 Fr w p (.slice (some ⟨pb,0,none⟩) cap cap :: .int .i64 first::cs))(hc:1≤cap)(h1:first≤1000)(h2:i≤1000):
  aq Tryz.prog 380 [.pointer (some ⟨p,0,none⟩),.int .i64 i] Fr w [] (fun v L=>v=.int .i64 ((first+i) % cap:Nat)∧L=[]):=by
 refine TF 17 Tryz.func380 Z ym aw Z Z ?_
 refine aj ?_
 refine CD (ts 0 13 .nil) ym ym ?_
 refine pJ ?_
 refine AG (AP Z Z Z ?_ ?_ ?_)
 ·omega
 ·omega
 refine pJ ?_
 refine AG (AI Z (H8 Z Z ?_ ?_) ?_)
 ·omega
 ·omega
 refine bg ?_
 exact CR (al.int 4 Z Z (by push_cast;rfl) ER ⟨rfl,Z⟩)
theorem kO{p:Nat}{q:List aA}{cap:Nat}(h:aV Fr [cR p q cap] w):aq Tryz.prog 266 [.pointer (some ⟨p,0,none⟩)] Fr w [] (fun v L=>v=.int .i64 q.length∧L=[]):=by
 obtain⟨s,h⟩:=xS.of h
 have hb:=h.ring
 refine TF 9 Tryz.func266 Z ym aw Z Z ?_
 refine aj ?_
 refine VG (VV (fun Fr w hF hs _=>eZ Fr w (hb.of hF hs)) Z ?_)
 refine iD ?_
 refine kS ?_
 exact uV
theorem kZ.place{q:List aA}{cap:Nat}{s:re}(h:kZ q cap s){i:Nat}(hi:i<q.length):∃p:FM,s.pl[(s.first+i) % cap]?=some p∧q[i]?=some p.1:=by
 have h1:=h.at_ i hi
 have h2:(s.first+i) % cap<s.pl.length:=by rw[h.len];exact tM _ h.dh
 refine⟨_,GE h2,?_⟩
 rw[←h1,GE h2];rfl
def atR(q:List aA)(i:Nat)(v:Value)(L:List HP):Prop:=match q[i]? with
 | some f=>∃m,v=.tuple #[.agg (aS (f,m)).toArray,.bool true]∧L=[iv m]
 | none=>v=.tuple #[.agg (aS d_).toArray,.bool false]∧L=[]
theorem vF{p:Nat}{q:List aA}{cap:Nat}(i:Nat)(h:aV Fr [cR p q cap] w):aq Tryz.prog 379 [.pointer (some ⟨p,0,none⟩),.int .i64 i] Fr w [] (atR q i):=by
 obtain⟨s,h⟩:=xS.of h
 have hb:=h.ring
 have hp:=h.places
 refine TF 31 Tryz.func379 Z ym aw Z Z ?_
 refine CS (CG (VG (VO.alloc Z fun b=>VG (VN ?_))))
 refine aj ?_
 refine VG (VV (fun Fr w hF hs _=>eZ Fr w (hb.of hF hs)) Z (VG (VY 8 false Z Z ?_)))
 refine aj ?_
 refine VG (VY 12 false Z (DF yd) ?_)
 refine kS ?_
 refine CP Z (fun h1=>?_) (fun h1=>?_)
 ·refine CS (CG (VG (VI (LB (pv:=[]) (aS d_) Z Z Z Z Z) (VG (VT (vs:=aS d_) (cs':=aS d_) 0 Z Z Z Z (NR _) Z Z Z (VG (VN ?_)))))))
  refine CR (al.cJ 4 5 Z Z Z (an.many 0 Z Z) Z aa.nil.ah ?_)
  have h1:q.length≤i:=by omega
  simp only[atR,mQ h1]
  exact⟨rfl,trivial⟩
 ·have h1:i<q.length:=by omega
  have hq:=h.ok.Ad
  have hc:=h.ok.eN
  have hf:=h.ok.first
  obtain⟨f,hf1,hf2⟩:=h.ok.place h1
  have hlt:(s.first+i) % cap<cap:=tM _ h.ok.dh
  refine CK ?_
  refine CS (CD (ts 0 6 (.only 6 (ts 7 2 (.only 9 (.only 10 (.take 11 .nil)))))) ym ym ?_)
  refine xi ?_
  refine AG (VA.dI (fun Fr w hF hs _=>DP Fr w i (hb.of hF hs) h.ok.dh yd yd) Z Z (Pd.cons (an.ar hb Z) Pd.nil).st ?_)
  rintro _ rfl
  refine AG (AI Z (dU ((s.first+i) % cap) Z Z Z Z Z Z hlt) ?_)
  have hrow:((flat aS s.pl).drop (0+(s.first+i) % cap*29)).take 29=aS f:=by
   have:=kK sI hf1 []
   rwa[bA,←bZ (_*29)] at this
  refine AG (VA.load Z Z Z (an.h_ hp hrow) ?_)
  refine AG (AO (OC (Lc:=[]) (R:=fun v L=>∃m,v=.agg (aS (f.1,m)).toArray∧L=[iv m]) Z (.refl _) (fun Fr w hF hs _=>zV Fr w f ((h.mem _ _ hf1).of hF hs))) Z ?_ ?_)
  ·rintro _ _ ⟨_,⟨m,rfl,rfl⟩,rfl⟩
   exact L0
  rintro _ _ ⟨_,⟨m,rfl,rfl⟩,rfl⟩
  refine AG (AT (vs:=aS (f.1,m)) (cs':=aS (f.1,m)) 1 Z Z Z Z Z (NR _) Z Z Z L0 ?_)
  refine bg ?_
  refine CR (al.cJ 4 5 Z Z Z (an.many 1 Z Z) Z (L':=[iv m]) (IP 0 Z aa.nil).ah ?_)
  simp only[atR,hf2]
  exact⟨m,Z,Z⟩
theorem HE{p:Nat}{q:List aA}{cap:Nat}(h:aV Fr [cR p q cap] w):aq Tryz.prog 363 [.pointer (some ⟨p,0,none⟩)] Fr w [] (atR q 0):=by
 refine TF 8 Tryz.func363 Z ym aw Z Z ?_
 refine CS (CG (VG (VO.alloc Z fun b=>VG (VN ?_))))
 refine aj ?_
 refine VG (VK (Lc:=[]) (R:=atR q 0) (fun Fr w hF hs _=>vF Fr w 0 (h.of hF hs)) Z Z ?_)
 intro v L hv
 unfold atR at hv
 cases hq:q[0]? with
 | some f=>
  rw[hq] at hv
  obtain⟨m,rfl,rfl⟩:=hv
  refine KJ ?_
  refine CR (al.cJ 2 3 Z Z Z (an.many 1 Z Z) Z (L':=[iv m]) (IP 0 Z aa.nil).ah ?_)
  simp only[atR,hq]
  exact⟨m,Z,Z⟩
 | none=>
  rw[hq] at hv
  obtain⟨rfl,rfl⟩:=hv
  refine KK ?_
  refine CR (al.cJ 2 3 Z Z Z (an.many 0 Z Z) Z aa.nil.ah ?_)
  simp only[atR,hq]
  exact⟨rfl,trivial⟩
theorem IH{a i j c:Nat}(h1:i<j)(h2:j<c):(a+i) % c≠(a+j) % c:=fun h=>by
 have:=Nat.sub_mod_eq_zero_of_mod_eq h.symm
 rw[show a+j-(a+i)=j-i from by omega,Nat.mod_eq_of_lt yd] at this
 omega
theorem kZ.push{q:List aA}{cap:Nat}{s:re}(h:kZ q cap s)(hq:q.length<cap)(f:aA)(m:vy):kZ (q ++ [f]) cap { s with pl:=s.pl.set ((s.first+q.length) % cap) (f,m) }:=by
 have hlt:(s.first+q.length) % cap<s.pl.length:=by rw[h.len];exact tM _ h.dh
 refine⟨by simpa using h.len,h.dh,h.eN,h.first,by simp;omega,fun i hi=>?_⟩
 simp only[a_,List.length_singleton] at hi
 by_cases hi2:i<q.length
 ·rw[tJ hi2,ky (fun e=>IH hi2 hq e.symm)]
  exact h.at_ i hi2
 ·have:i=q.length:=by omega
  subst this
  rw[hO hlt];simp
theorem kZ.pop{f:aA}{q:List aA}{cap:Nat}{s:re}(h:kZ (f::q) cap s)(z:FM):kZ q cap { s with first:=(s.first+1) % cap,pl:=s.pl.set s.first z }:=by
 have hq:=h.Ad
 simp only[mh] at hq
 refine⟨by simpa using h.len,h.dh,h.eN,tM _ h.dh,by omega,fun i hi=>?_⟩
 have h1:=h.at_ (i+1) yk
 have h2:((s.first+1) % cap+i) % cap=(s.first+(i+1)) % cap:=by rw[Nat.mod_add_mod];congr 1;omega
 have h3:s.first≠(s.first+(i+1)) % cap:=fun e=>by
  have:=IH (a:=s.first) (i:=0) (j:=i+1) (c:=cap) yd yd
  rw[vu,Nat.mod_eq_of_lt h.first] at this
  exact this e
 simp only
 rw[h2,ky h3,h1];rfl
def Jb(p:Nat)(q:List aA)(cap:Nat)(f:aA)(v:Value)(L:List HP):Prop:=v=.bool (decide (q.length<cap))∧L=[cR p (if q.length<cap then q ++ [f] else q) cap]
theorem s6(p:Nat)(q:List aA)(cap:Nat)(f:FM)(hm:kz Fr w f.2):aq Tryz.prog 378 [.pointer (some ⟨p,0,none⟩),.agg (aS f).toArray] Fr w [cR p q cap] (Jb p q cap f.1):=by
 refine TF 39 Tryz.func378 Z ym aw Z Z ?_
 refine CS (CG (VG (VB (vs:=aS f) Z fun b=>VG (VN ?_))))
 refine VC.bu 1 Z (aY.ring p q cap) fun s h=>?_
 refine CN (L':=pt b (aS f) 353::pA p q cap s) (aa.perm hU).ah ?_
 have hq:=h.Ad
 have hc:=h.eN
 have hf:=h.first
 refine aj ?_
 refine CD (.take 0 (.only 1 (ts 2 12 .nil))) ym ym ?_
 refine AG (VA.dI (fun Fr w hF _ hs=>eZ Fr w (hs.ar 1 Z)) Z Z Pd.nil.st ?_)
 rintro _ rfl
 refine AG (AY 7 false Z Z ?_)
 refine eu ?_
 refine CE Z (fun h1=>?_) (fun h1=>?_)
 ·refine aj ?_
  have h1:¬q.length<cap:=by omega
  exact CR (al.bool 4 Z Z Z (aa.trans aa.tl (aa.ring s h (aa.of_eq (bA _).symm))).ah ⟨by simp[h1],by simp[h1]⟩)
 ·have h1:q.length<cap:=by omega
  have hlt:(s.first+q.length) % cap<cap:=tM _ h.dh
  refine CK ?_
  refine CS (CD (ts 0 9 (.take 10 (.only 9 (.only 11 (.take 12 (.only 13 .nil)))))) ym ym ?_)
  refine eu ?_
  refine AG (VA.cK 0 (aS f) Z Z Z Z Z ?_)
  refine AG (VA.dI (fun Fr w hF _ hs=>DP Fr w q.length (hs.ar 1 Z) h.dh yd yd) Z Z yv ?_)
  rintro _ rfl
  refine AG (AO (OC (Lc:=[]) (R:=fun v L=>∃m,v=.agg (aS (f.1,m)).toArray∧L=[iv m]) Z (.refl _) (fun Fr w hF hs _=>zV Fr w f (hm.of hF hs))) Z ?_ ?_)
  ·rintro _ _ ⟨_,⟨m,rfl,rfl⟩,rfl⟩
   exact yv
  rintro _ _ ⟨_,⟨m,rfl,rfl⟩,rfl⟩
  refine AG (AI Z (dU ((s.first+q.length) % cap) Z Z Z Z Z Z hlt) ?_)
  have hw:=rH sI (f.1,m) [] (i:=(s.first+q.length) % cap) (l:=s.pl) (by rw[h.len];exact hlt)
  rw[bA,bA,←bZ (_*29)] at hw
  refine AG (AT (vs:=aS (f.1,m)) 3 Z Z Z Z Z ?_ hw Z Z yv ?_)
  ·rw[dS sI,h.len,sI];show 0+(s.first+q.length) % cap*29+29≤cap*29;omega
  refine gF ?_
  refine gh ?_
  refine VG (VP Z Z ?_ ?_ ?_)
  ·omega
  ·omega
  refine ES ?_
  refine aj ?_
  refine CR (al.bool 4 Z Z Z (L':=[cR p (q ++ [f.1]) cap]) ?_ ⟨by simp[h1],by simp[h1]⟩)
  have e:uG (q ++ [f.1]) cap { s with pl:=s.pl.set ((s.first+q.length) % cap) (f.1,m) }=[.slice (some ⟨s.pb,0,none⟩) cap cap,.int .i64 s.first,.int .i64 ((q.length:Int)+1)]:=by simp[uG]
  refine(aa.ring _ (h.push h1 f.1 m) ?_).ah
  unfold pA
  rw[e,bA]
  refine IP 2 Z (IP 2 Z ?_)
  exact aa.trans (IP 0 Z aa.tl) (IE (x:=(f.1,m)) (by rw[h.len];exact hlt))
def rX(p:Nat)(cap:Nat):List aA→Value→List HP→Prop
 | [],v,L=>v=.tuple #[.agg (aS d_).toArray,.bool false]∧L=[cR p [] cap]
 | f::q,v,L=>∃m,v=.tuple #[.agg (aS (f,m)).toArray,.bool true]∧L=[iv m,cR p q cap]
theorem z_(p:Nat)(q:List aA)(cap:Nat):aq Tryz.prog 366 [.pointer (some ⟨p,0,none⟩)] Fr w [cR p q cap] (rX p cap q):=by
 refine TF 39 Tryz.func366 Z ym aw Z Z ?_
 refine CS (CG (VG (VO.alloc Z fun b=>VG (VN ?_))))
 refine aj ?_
 refine VG (VK (Lc:=[]) (R:=atR q 0) (fun Fr w hF hw hs=>HE Fr w (hs.at_ 1 Z)) Z Z ?_)
 intro v L hv
 unfold atR at hv
 cases q with
 | nil=>
  simp only[List.getElem?_nil] at hv
  obtain⟨rfl,rfl⟩:=hv
  refine KK ?_
  refine aj ?_
  refine l_ ?_
  refine CS (CG (VG (VI (LB (pv:=[]) (aS d_) Z Z Z Z Z) (VG (VT (vs:=aS d_) (cs':=aS d_) 0 Z Z Z Z (NR _) Z Z Z (VG (VN ?_)))))))
  exact CR (al.cJ 2 3 Z Z Z (an.many 0 Z Z) Z (aa.app (L:=[_]) (M:=[]) (L':=[_]) (M':=[_]) aa.nil aa.refl).ah ⟨rfl,Z⟩)
 | cons f q=>
  simp only[sn] at hv
  obtain⟨m,rfl,rfl⟩:=hv
  refine KJ ?_
  refine iD ?_
  refine VC.bu 2 Z (aY.ring p (f::q) cap) fun s h=>?_
  refine CN (L':=iv m::pt b (aS (f,m)) 353::pA p (f::q) cap s) (aa.perm hU).ah ?_
  have hq:=h.Ad
  have hc:=h.eN
  have hf:=h.first
  have hc0:=h.dh
  refine CS (CD (ts 0 14 (.only 14 .nil)) ym ym ?_)
  refine gF ?_
  refine AG (AP Z Z Z ?_ ?_ ?_)
  ·omega
  ·omega
  refine gF ?_
  refine AG (AI Z (Ia s.first (s.first+1) Z Z Z Z Z Z Z (by push_cast;rfl) yd yd yd) ?_)
  have hw:=rH sI d_ [] (i:=s.first) (l:=s.pl) (by rw[h.len];exact hf)
  rw[bA,bA,←bZ (_*29)] at hw
  refine AG (AO (aG.clear 3 Z Z Z Z Z yd ?_ Z) Z ?_ ?_)
  ·rw[dS sI,h.len];show 0+s.first*29+(s.first+1-s.first)*29≤cap*29;omega
  ·rintro _ _ ⟨rfl,rfl⟩
   exact yv
  rintro _ _ ⟨rfl,rfl⟩
  have hz:(List.replicate (s.first+1-s.first) T.t353.zs).flatten=aS d_:=by rw[show s.first+1-s.first=1 from by omega];rfl
  have hw2:cT (flat aS s.pl) (0+s.first*T.t353.size) (List.replicate (s.first+1-s.first) T.t353.zs).flatten=flat aS (s.pl.set s.first d_):=by rw[hz];exact hw
  rw[hw2]
  refine gF ?_
  refine gh ?_
  refine VG (VV (fun Fr w hF _ hs=>DP Fr w 1 (hs.ar 2 Z) hc0 yd yd) Z ?_)
  refine VG (VO.st 2 Z Z Z Z sd Z Z (VG (VN ?_)))
  refine gh ?_
  refine VG (VO.uN Z Z ?_ ?_ ?_)
  ·omega
  ·omega
  refine ES ?_
  refine gh ?_
  refine VG (VL 1 (aS (f,m)) Z Z Z Z (VG (VT (vs:=aS (f,m)) (cs':=aS (f,m)) 1 Z Z Z Z (NR _) Z Z Z (VG (VN ?_)))))
  refine CR (al.cJ 2 3 Z Z Z (an.many 1 Z Z) Z (L':=[iv m,cR p q cap]) ?_ ⟨m,Z,Z⟩)
  refine(IP 0 Z (aa.ring _ (h.pop d_) ?_)).ah
  have e:uG q cap { s with first:=(s.first+1) % cap,pl:=s.pl.set s.first d_ }=[.slice (some ⟨s.pb,0,none⟩) cap cap,.int .i64 ((s.first+1) % cap:Nat),.int .i64 (((f::q).length:Int)-1)]:=by simp[uG]
  unfold pA
  rw[e,bA]
  refine IP 1 Z (IP 1 Z ?_)
  exact aa.trans (aa.trans aa.tl (aa.Dm aa.refl)) (IE (x:=d_) (by rw[h.len];exact hf))
theorem aq.drop{P:Program}{f:FuncId}{args:List Value}{Fr:Nat→Prop}{w:World}{L:List HP}{R R':Value→List HP→Prop}(h:aq P f args Fr w L R)(hi:∀v L',R v L'→∃L2,R' v L2∧aa L' L2):aq P f args Fr w L R':=
 ⟨h.yK,fun hl hs=>Calls.mono (h.calls hl hs) fun e w' ⟨v,L',h1,h2,h3,h4⟩=>by
  obtain⟨L2,h5,h6⟩:=hi v L' h2
  obtain⟨F,hs,hn,hb⟩:=h3
  obtain⟨F',hs',hn',hb'⟩:=h6 w' F hs hn
  exact⟨v,L2,h1,h5,⟨F',hs',hn',fun b hb2=>hb b (hb' b hb2)⟩,h4⟩⟩
theorem aG.Nq{X:Cx}{e:Env}{L:List HP}{f:FuncId}{args:Array Operand}{tys:Array TypeId}{vals:List Value}{H:HP}{R:Value→List HP→Prop}{ψ:Value→HP→HP→Prop}(i:Nat)
  (hL:L[i]?=some H) (ht:∀Fr' w,(∀b,X.Fr b→Fr' b)→St X L w→aV Fr' (L.eraseIdx i) w→aq X.P f vals Fr' w [H] R) (hargs:dZ e args.toList=some vals)
  (hR:∀v L1,R v L1→∃M H',L1=[M,H']∧ψ v M H'):
  aG X (.call ⟨.value (.func f),args,tys⟩) e L (fun v L'=>∃M H',ψ v M H'∧L'=M::L.set i H'):=by
 intro a w ha hw dst ty pos after guard
 have hi:i<L.length:=(cH.1 hL).1
 have key:∀v w' L',(∃L1,R v L1∧L'=L1++L.eraseIdx i)→St X L' w'→∃L'',(∃M H',ψ v M H'∧L''=M::L.set i H')∧St X L'' w':=by
  rintro v w' _ ⟨L1,h1,rfl⟩ hs
  obtain⟨M,H',rfl,hψ⟩:=hR v L1 h1
  have hp:(H'::L.eraseIdx i).Perm (L.set i H'):=by
   have:=mH (L:=L.set i H') (i:=i) (H:=H') (hO hi)
   rw[List.eraseIdx_set_eq] at this
   exact this.symm
  exact⟨_,⟨M,H',hψ,Z⟩,(aa.perm (hp.cons M)).ah w' hs⟩
 rcases OC (R:=R) hargs (Lc:=[H]) (Lr:=L.eraseIdx i) (mH hL) ht a w ha hw dst ty pos after guard with ⟨v,w',L',h1,h2,h3⟩ | ⟨w',L',h1,h2,h3⟩ | ⟨f,args,h1,h2⟩
 ·obtain⟨L'',h4,h5⟩:=key _ _ _ h2 h3
  exact .inl ⟨v,w',L'',h1,h4,h5⟩
 ·obtain⟨L'',h4,h5⟩:=key _ _ _ h2 h3
  exact .inr (.inl ⟨w',L'',h1,h4,h5⟩)
 ·refine .inr (.inr ⟨f,args,h1,Calls.mono h2 fun en w' ⟨v,L',h3,h4,h5⟩=>?_⟩)
  obtain⟨L'',h6,h7⟩:=key _ _ _ h4 h5
  exact⟨v,L'',h3,h6,h7⟩
def yF(q:List aA)(i:Nat)(v:Value):Prop:=match q[i]? with
 | some f=>∃m,v=.tuple #[.agg (aS (f,m)).toArray,.bool true]
 | none=>v=.tuple #[.agg (aS d_).toArray,.bool false]
theorem O8{p:Nat}{q:List aA}{cap:Nat}(h:aV Fr [cR p q cap] w):aq Tryz.prog 363 [.pointer (some ⟨p,0,none⟩)] Fr w [] (fun v L=>yF q 0 v∧L=[]):=
 aq.drop (HE Fr w h) fun v L h=>by
  unfold atR at h;unfold yF
  cases hq:q[0]? with
  | some f=>rw[hq] at h;obtain⟨m,rfl,rfl⟩:=h;exact⟨[],⟨⟨m,rfl⟩,rfl⟩,aa.nil⟩
  | none=>rw[hq] at h;obtain⟨rfl,rfl⟩:=h;exact⟨[],⟨rfl,rfl⟩,aa.nil⟩
def RT(p:Nat)(cap:Nat):List aA→Value→List HP→Prop
 | [],v,L=>v=.tuple #[.agg (aS d_).toArray,.bool false]∧L=[cR p [] cap]
 | f::q,v,L=>(∃m,v=.tuple #[.agg (aS (f,m)).toArray,.bool true])∧L=[cR p q cap]
theorem RX(p:Nat)(q:List aA)(cap:Nat):aq Tryz.prog 366 [.pointer (some ⟨p,0,none⟩)] Fr w [cR p q cap] (RT p cap q):=
 aq.drop (z_ Fr w p q cap) fun v L h=>by
  cases q with
  | nil=>exact⟨L,h,aa.refl⟩
  | cons f q=>obtain⟨m,rfl,rfl⟩:=h;exact⟨_,⟨⟨m,rfl⟩,rfl⟩,aa.tl⟩
theorem kZ.new(cap:Nat)(h0:1≤cap)(h1:cap≤64)(b:Nat):kZ [] cap ⟨b,List.replicate cap d_,0⟩:=
 ⟨by simp,h0,h1,h0,by simp,fun i hi=>by simp at hi⟩
theorem jH(cap:Nat)(h0:1≤cap)(h1:cap≤64):aq Tryz.prog 180 [.int .i64 cap] Fr w [] (fun v L=>∃p,v=.tuple #[.pointer (some ⟨p,0,none⟩),.int .i64 0]∧L=[cR p [] cap]):=by
 refine TF 14 Tryz.func180 Z ym aw Z Z ?_
 refine aj ?_
 refine VG (VY 6 false Z (DF yd) ?_)
 refine aj ?_
 refine CP Z (fun h=>absurd h yd) (fun _=>CK ?_)
 refine CS (CG (VG (VO.makeSlice cap Z Z Z Z Z Z Z yd ?_ fun b=>?_)))
 ·show 288*cap≤_;omega
 refine VG (VI (LB [.slice (some ⟨b,0,none⟩) cap cap,.int .i64 0,.int .i64 0] Z Z Z Z Z) (VG (VB (vs:=[.slice (some ⟨b,0,none⟩) cap cap,.int .i64 0,.int .i64 0]) Z fun p=>VG (VN ?_))))
 refine CR (al.cz 2 3 Z Z Z ?_ ⟨p,Z,Z⟩)
 exact(aa.ring (M:=[]) ⟨b,List.replicate cap d_,0⟩ (kZ.new cap h0 h1 b) (by
  have:flat aS (List.replicate cap d_)=(List.replicate cap T.t353.zs).flatten:=(HA cap d_).symm
  unfold pA
  simp only[this,List.map_replicate,bA]
  refine IP 0 Z (IP 0 Z ?_)
  have:∀n:Nat,aa [] (List.replicate n (iv d_.2)):=fun n=>by
   induction n with
   | zero=>exact aa.nil
   | succ n ih=>exact aa.Dm ih
  exact this cap)).ah
end Ring
namespace Sched
open Go Vg T Api Ring
attribute [local irreducible] VO VC VA
structure cm where
 q:List aA
 kR:Int
 cC:Int
 served:Int
structure aH where
 cls:List cm
 cap:Nat
 bf:Nat
 fresh:Bool
def aH.iP(S:aH)(k:Nat)(c:cm):aH:={ S with cls:=S.cls.set k c }
def aH.idle(S:aH):Bool:=S.cls.all fun c=>c.q.isEmpty
structure cm.Wf(c:cm):Prop where
 q0:96≤c.kR
 q1:c.kR≤65536
 c0:0≤c.cC
 c1:c.cC≤c.kR+95
 s0:0≤c.served
 s1:c.served≤4611686018427387904
structure aH.Wf(S:aH):Prop where
 n0:1≤S.cls.length
 n1:S.cls.length≤4
 dh:1≤S.cap
 eN:S.cap≤16
 bf:S.bf<S.cls.length
 cls:∀c∈S.cls,c.Wf
 qs:∀c∈S.cls,c.q.length≤S.cap
 low:∀k c,S.cls[k]?=some c→(k=S.bf→S.fresh=true)→c.cC≤95
abbrev Row:=Nat×cm
def cn(r:Row):List Value:=[.pointer (some ⟨r.1,0,none⟩),.int .i64 r.2.kR,.int .i64 r.2.cC,.int .i64 r.2.served]
theorem tW(r:Row):(cn r).length=4:=rfl
structure kA where
 cb:Nat
 oW:Nat
 rest:List Value
 rows:List Row
structure jX(S:aH)(s:kA):Prop where
 wf:S.Wf
 rows:s.rows.map Prod.snd=S.cls
 cap:s.rows.length≤s.oW
def qF(S:aH)(s:kA):List Value:=[.slice (some ⟨s.cb,0,none⟩) s.rows.length s.oW,.int .i64 S.bf,.bool S.fresh]
def iA(p:Nat)(S:aH)(s:kA):List HP:=pt p (qF S s) 294::pt s.cb (flat cn s.rows++s.rest) 299::s.rows.map fun r=>cR r.1 r.2.q S.cap
def fh(p:Nat)(S:aH):HP:=hex fun s=>b_ (jb (jX S s)::iA p S s)
structure BO(Fr:Nat→Prop)(w:World)(p:Nat)(S:aH)(s:kA):Prop where
 ok:jX S s
 aO:a7 Fr w p (qF S s)
 cls:a7 Fr w s.cb (flat cn s.rows++s.rest)
 ring:∀(k:Nat) (r:Row),s.rows[k]?=some r→aV Fr [cR r.1 r.2.q S.cap] w
theorem BO.of{Fr:Nat→Prop}{w:World}{p:Nat}{S:aH}(h:aV Fr [fh p S] w):∃s,BO Fr w p S s:=by
 obtain⟨s,h⟩:=h.ex
 have h:=h.sep
 exact⟨s,h.pure 0 Z,h.ar 1 Z,h.ar 2 Z,fun k r hr=>h.at_ (k+3) Br⟩
theorem aY.aO(p:Nat)(S:aH):aY (fh p S) (fun s=>jX S s) (fun s=>iA p S s):=by
 rintro w ids ⟨s,h⟩ hn
 obtain⟨F,G,rfl,⟨rfl,h1⟩,h2⟩:=h
 exact AW
theorem aa.aO{p:Nat}{S:aH}{L M:List HP}(s:kA)(hs:jX S s)(h:aa L (iA p S s++M)):aa L (fh p S::M):=
 aa.ex s (aa.sep (aa.trans h (aa.app (L:=iA p S s) (M:=_::iA p S s) (aa.pure hs aa.refl) aa.refl)))
theorem jX.len{S:aH}{s:kA}(h:jX S s):s.rows.length=S.cls.length:=by rw[←h.rows,dW]
theorem jX.row{S:aH}{s:kA}(h:jX S s){k:Nat}(hk:k<S.cls.length):∃p c,s.rows[k]?=some (p,c)∧S.cls[k]?=some c:=by
 have hk':k<s.rows.length:=by rw[h.len];exact hk
 refine⟨s.rows[k].1,s.rows[k].2,by simp[GE hk'],?_⟩
 rw[←h.rows,dH,GE hk'];rfl
theorem eZ{p:Nat}{a:Option Addr}{n c:Nat}{cs:List Value}(h:a7 Fr w p (.slice a n c::cs)):aq Tryz.prog 321 [.pointer (some ⟨p,0,none⟩)] Fr w [] (fun v L=>v=.bool (decide (n=0))∧L=[]):=by
 refine TF 13 Tryz.func321 Z ym aw Z Z ?_
 refine aj ?_
 refine VG (VO.split 5 rfl rfl (fun h=>by cases h) (fun _=>?_))
 refine me ?_
 exact CR (al.bool 2 rfl rfl (by cases n<;>rfl) ER ⟨rfl,rfl⟩)
theorem vZ{p n c:Nat}{a:Option Addr}{cs:List Value}(i:Int)(h:a7 Fr w p (.slice a n c::cs)):aq Tryz.prog 265 [.pointer (some ⟨p,0,none⟩),.int .i64 i] Fr w [] (fun v L=>v=.bool (decide (0≤i∧i<n))∧L=[]):=by
 refine TF 21 Tryz.func265 Z ym aw Z Z ?_
 refine aj ?_
 refine VG (VV (fun Fr w hF hs _=>eZ Fr w (h.of hF hs)) Z (VG (VO.split 8 Z Z (fun h1=>?_) (fun h1=>?_))))
 ·have h1:n≠0:=by simpa using h1
  refine VG (VO.split 12 Z Z (fun h2=>?_) (fun h2=>?_))
  ·have h2:=of_decide_eq_true h2
   refine me ?_
   exact CR (al.bool 4 Z Z yj ER ⟨rfl,Z⟩)
  ·have h2:=of_decide_eq_false h2
   refine aj ?_
   exact CR (al.bool 4 Z Z yj ER ⟨rfl,Z⟩)
 ·have h1:n=0:=by simpa using h1
  refine VG (VY 12 false Z Z ?_)
  refine aj ?_
  exact CR (al.bool 4 Z Z (by symm;apply DF;omega) ER ⟨rfl,Z⟩)
def aH.at_(S:aH)(i:Int):Option cm:=if 0≤i then S.cls[i.toNat]? else none
theorem aH.Gh(S:aH)(k:Nat):S.at_ k=S.cls[k]?:=by simp[aH.at_]
theorem aH.M5{S:aH}{i:Int}(h:¬(0≤i∧i<S.cls.length)):S.at_ i=none:=by
 unfold aH.at_;split
 ·rw[mQ];omega
 ·rfl
theorem vL{rows:List Row}{k j:Nat}{r:Row}{v:Value}(hr:rows[k]?=some r)(hj:(cn r)[j]?=some v)(rest:List Value):(flat cn rows++rest)[k*4+j]?=some v:=o9 tW hr hj rest
theorem DM{p:Nat}{a:Addr}{n c t:Nat}{f:Bool}(hn:1≤n)(ht:t≤1000):
  aq Tryz.prog 364 [.pointer (some ⟨p,0,none⟩)] Fr w [pt p [.slice (some a) n c,.int .i64 t,.bool f] 294]
   (fun v L=>v=.tuple #[]∧L=[pt p [.slice (some a) n c,.int .i64 ((t+1) % n:Nat),.bool true] 294]):=by
 refine TF 19 Tryz.func364 Z ym aw Z Z ?_
 refine CS ?_
 refine CD (ts 0 14 (.only 14 .nil)) ym ym ?_
 refine bg ?_
 refine AG (AP Z Z Z ?_ ?_ ?_)
 ·omega
 ·omega
 refine bg ?_
 refine AG (AI Z (H8 Z Z ?_ ?_) ?_)
 ·omega
 ·omega
 refine AG (VA.st 0 Z Z Z Z Z sd Z Z yv ?_)
 refine sh ?_
 refine VG (VO.st 0 Z Z Z Z Bp Z Z (VG (VN ?_)))
 exact al.void Z ER ⟨rfl,by push_cast;rfl⟩
theorem Pv{p:Nat}{S:aH}(h:aV Fr [fh p S] w):aq Tryz.prog 362 [.pointer (some ⟨p,0,none⟩)] Fr w [] (fun v L=>v=.bool S.idle∧L=[]):=by
 obtain⟨s,h⟩:=BO.of h
 have hb:=h.aO
 have hn:=h.ok.len
 have hn4:=h.ok.wf.n1
 refine TF 19 Tryz.func362 Z ym aw Z Z ?_
 refine kS ?_
 refine VC.loop (fun k:Nat=>[(8,.slice (some ⟨s.cb,0,none⟩) s.rows.length s.oW),(9,.int .i64 s.rows.length),(10,.int .i64 k)]) (fun _=>[]) (fun k=>k≤S.cls.length∧∀j,j<k→∀c,S.cls[j]?=some c→c.q=[]) (fun k=>4-k) 0 ⟨bK _,fun j hj=>by omega⟩ aF ER ?_
 rintro k ⟨hk,hall⟩
 refine aj ?_
 refine CP Z (fun h1=>?_) (fun h1=>?_)
 ·have hk2:k<S.cls.length:=by omega
  obtain⟨q,c,hr,hc⟩:=h.ok.row hk2
  have hrow:((flat cn s.rows++s.rest).drop (0+k*4)).take 4=cn (q,c):=by rw[bZ];exact kK tW hr _
  refine vl ?_
  refine xl ?_
  refine VG (VO.load Z Z (an.h_ h.cls hrow) (VG (VO.alloc Z fun b=>VG (VT (vs:=cn (q,c)) (cs':=cn (q,c)) 0 Z Z Z Z (NR _) Z Z Z (VG (VN ?_))))))
  refine aj ?_
  refine VG (VV (fun Fr w hF hs _=>Ring.kO Fr w ((h.ring k _ hr).of hF hs)) Z (VG (VN ?_)))
  refine CP Z (fun h2=>?_) (fun h2=>?_)
  ·refine aj ?_
   refine CR (al.bool 2 Z Z ?_ aa.nil.ah ⟨rfl,Z⟩)
   symm
   rw[aH.idle,vn]
   refine⟨c,ME hc,?_⟩
   have:0<(c.q.length:Int):=h2
   cases hq:c.q with
   | nil=>rw[hq] at this;simp at this
   | cons _ _=>simp
  ·refine vl ?_
   refine VG (VP Z Z ?_ ?_ ?_)
   ·omega
   ·omega
   refine aj ?_
   refine⟨k+1,⟨by omega,fun j hj c' hc'=>?_⟩,by dsimp only;omega,aF,aa.nil.ah⟩
   by_cases hjk:j=k
   ·subst hjk
    rw[hc] at hc';cases hc'
    have h2:¬0<(c.q.length:Int):=h2
    exact gI yd
   ·exact hall j yd c' hc'
 ·have hk2:k=S.cls.length:=by omega
  subst hk2
  refine CX ?_
  refine aj ?_
  refine CR (al.bool 2 Z Z ?_ aa.nil.ah ⟨rfl,Z⟩)
  symm
  rw[aH.idle,kU]
  intro c hc
  obtain⟨j,hj⟩:=vq hc
  rw[hall j (cH.1 hj).1 c hj];rfl
def aH.eK(S:aH)(f:aA):Int×aH:=
 match S.at_ f.cls with
 | none=>(2,S)
 | some c=>if c_ f.op≠0 then (2,S) else if c.q.length<S.cap then (0,S.iP f.cls.toNat { c with q:=c.q ++ [f] }) else (60,S)
theorem SR{α β:Type}{g:α→β}{l:List α}{k:Nat}{a:α}:(l.map g).set k (g a)=(l.set k a).map g:=by rw[gJ]
theorem jX.iP{S:aH}{s:kA}(h:jX S s){k q:Nat}{c c':cm}(hr:s.rows[k]?=some (q,c))(hw:(S.iP k c').Wf):jX (S.iP k c') { s with rows:=s.rows.set k (q,c') }:=
 ⟨hw,by simp[aH.iP,←h.rows,gJ],by simpa using h.cap⟩
theorem aH.Wf.set{S:aH}(h:S.Wf){k:Nat}{c c':cm}(hc:S.cls[k]?=some c)(hw:c'.Wf)(hq:c'.q.length≤S.cap)(hl:(k=S.bf→S.fresh=true)→c'.cC≤95):(S.iP k c').Wf:=by
 have hk:=(cH.1 hc).1
 refine⟨by simpa[aH.iP] using h.n0,by simpa[aH.iP] using h.n1,h.dh,h.eN,by simpa[aH.iP] using h.bf,fun x hx=>?_,fun x hx=>?_,fun j x hx hj=>?_⟩
 ·rcases lI hx with hx | rfl
  ·exact h.cls x hx
  ·exact hw
 ·rcases lI hx with hx | rfl
  ·exact h.qs x hx
  ·exact hq
 ·by_cases hjk:k=j
  ·subst hjk
   simp only[aH.iP,hO hk,Option.some.injEq] at hx
   subst hx;exact hl hj
  ·simp only[aH.iP,ky hjk] at hx
   exact h.low j x hx hj
theorem Hz{l:List Row}{k:Nat}{a b:Row}(h:cn a=cn b):flat cn (l.set k a)=flat cn (l.set k b):=by simp[flat,gJ,h]
theorem CF{l:List Row}{k:Nat}{a b:Row}(ha:l[k]?=some a)(h:cn a=cn b):flat cn l=flat cn (l.set k b):=by
 rw[←Hz h]
 have hk:=(cH.1 ha)
 rw[show l.set k a=l from by rw[←hk.2];simp]
theorem uI{p:Nat}{S:aH}{s:kA}(h:jX S s):aa (iA p S s) [fh p S]:=aa.aO (M:=[]) s h (aa.of_eq (bA _).symm)
theorem JD{p k q:Nat}{S:aH}{s:kA}{c c':cm}(hr:s.rows[k]?=some (q,c))(hcs:cn (q,c)=cn (q,c')):
  pt p (qF S s) 294::pt s.cb (flat cn s.rows++s.rest) 299::(s.rows.map fun r=>cR r.1 r.2.q S.cap).set k (cR q c'.q S.cap)=iA p (S.iP k c') { s with rows:=s.rows.set k (q,c') }:=by
 simp only[iA,qF,gk,←CF hr hcs,gJ];rfl
theorem s6(p:Nat)(S:aH)(f:FM)(hm:kz Fr w f.2):aq Tryz.prog 391 [.pointer (some ⟨p,0,none⟩),.agg (aS f).toArray] Fr w [fh p S] (fun v L=>v=.int .i64 (S.eK f.1).1∧L=[fh p (S.eK f.1).2]):=by
 refine TF 33 Tryz.func391 Z ym aw Z Z ?_
 refine CS (CG (VG (VB (vs:=aS f) Z fun b=>VG (VN ?_))))
 refine VC.bu 1 Z (aY.aO p S) fun s h=>?_
 refine CN (L':=pt b (aS f) 353::iA p S s) (aa.perm hU).ah ?_
 have hn:=h.len
 have hn0:=h.wf.n0
 have hn4:=h.wf.n1
 have out:∀{X:Cx},cI X (pt b (aS f) 353::iA p S s) [fh p S]:=fun {X}=>(aa.trans aa.tl (uI h)).ah
 refine aj ?_
 refine VG (VV (fun Fr w hF _ hs=>eZ Fr w (hs.ar 1 Z)) Z (VG (VN ?_)))
 refine CP Z (fun h0=>by omega) (fun _=>?_)
 refine cF ?_
 refine VG (VV (fun Fr w hF _ hs=>vZ Fr w f.1.cls (hs.ar 1 Z)) Z (VG (VO.split 14 Z Z (fun h1=>?_) (fun h1=>?_))))
 ·have h1:¬(0≤f.1.cls∧f.1.cls<s.rows.length):=fun hx=>by simp[hx] at h1
  refine pU ?_
  have e:S.eK f.1=(2,S):=by simp only[aH.eK,aH.M5 (hn▸h1)]
  exact CR (al.int 4 Z Z Z out ⟨by rw[e],by rw[e]⟩)
 ·have h1:0≤f.1.cls∧f.1.cls<s.rows.length:=by simpa using h1
  obtain⟨k,hfk⟩:=sj h1.1
  have hk:k<S.cls.length:=by omega
  obtain⟨q,c,hr,hc⟩:=h.row hk
  have hat:S.at_ f.1.cls=some c:=by rw[hfk,aH.Gh,hc]
  refine aj ?_
  refine VG (VL 0 f.1.op.cells Z Z Z Z ?_)
  refine VG (VO.iY (fun Fr w=>gq Fr w f.1.op) Z (VG (VN ?_)))
  refine VC.dd Z (fun h2=>?_) (fun h2=>?_)
  ·refine aj ?_
   have e:S.eK f.1=(2,S):=by simp only[aH.eK,hat,if_pos h2]
   exact CR (al.int 4 Z Z Z out ⟨by rw[e],by rw[e]⟩)
  ·have h2':¬c_ f.1.op≠0:=fun hx=>hx h2
   have hcell:(flat cn s.rows++s.rest)[0+k*4]?=some (.pointer (some ⟨q,0,none⟩)):=by rw[bZ];exact vL (j:=0) hr rfl _
   refine CS (CD (ts 0 10 (.only 10 (ts 11 2 .nil))) ym ym ?_)
   refine eu ?_
   refine AG (AI Z (dU k Z Z Z Z Z hfk yd) ?_)
   refine AG (VA.ld 2 Z Z Z Z hcell (AG (VA.cK 0 (aS f) Z Z Z Z Z ?_)))
   refine AG (AQ (k+3) (H:=cR q c.q S.cap) (R:=Jb q c.q S.cap f.1) (ψ:=fun v H=>v=.bool (decide (c.q.length<S.cap))∧H=cR q (if c.q.length<S.cap then c.q ++ [f.1] else c.q) S.cap) Br (fun Fr w hF hs _=>Ring.s6 Fr w q c.q S.cap f (hm.of hF hs)) Z Z (fun v L1 ⟨h3,h4⟩=>⟨_,h4,h3,Z⟩) ?_ ?_)
   ·rintro _ _ ⟨rfl,rfl⟩
    exact(by(try refine Pd.st ?_);(repeat(first|exact Pd.nil|exact Pd.fnil|refine Pd.inner ?_|refine Pd.skip yo ?_|refine zf (zo 0 Z Z) ?_|refine zf (zo 1 Z Z) ?_|refine zf (zm 0 Z Z) ?_|refine zf (zm 1 Z Z) ?_|refine zf (an.ar (an.one 2 Z hcell) Z) ?_|refine zf ((an.one 2 Z hcell)) ?_|refine zc (zo 0 Z Z) ?_|refine zc (zo 1 Z Z) ?_|refine zc (zm 0 Z Z) ?_|refine zc (zm 1 Z Z) ?_|refine zc (an.ar (an.one 2 Z hcell) Z) ?_|refine zc ((an.one 2 Z hcell)) ?_)))
   rintro _ _ ⟨rfl,rfl⟩
   refine bg ?_
   refine VC.ey Z (fun h3=>?_) (fun h3=>?_)
   ·have h3:¬c.q.length<S.cap:=of_decide_eq_false h3
    refine aj ?_
    have e:S.eK f.1=(60,S):=by simp only[aH.eK,hat,if_neg h2',if_neg h3]
    refine CR (al.int 4 Z Z Z ?_ ⟨by rw[e],by rw[e]⟩)
    rw[if_neg h3]
    have e2:S.iP k c=S:=by simp only[aH.iP];rw[show S.cls.set k c=S.cls from by rw[←(cH.1 hc).2];simp]
    have e3:s.rows.set k (q,c)=s.rows:=by rw[←(cH.1 hr).2];simp
    have e4:=JD (p:=p) (S:=S) hr (c':=c) rfl
    rw[e2,e3] at e4
    exact(aa.trans aa.tl (aa.trans (aa.of_eq e4) (uI h))).ah
   ·have h3:c.q.length<S.cap:=of_decide_eq_true h3
    refine vl ?_
    have e:S.eK f.1=(0,S.iP k { c with q:=c.q ++ [f.1] }):=by simp only[aH.eK,hat,if_neg h2',if_pos h3];rw[hfk,fy]
    refine CR (al.int 4 Z Z Z ?_ ⟨by rw[e],by rw[e]⟩)
    rw[if_pos h3]
    have hw:(S.iP k { c with q:=c.q ++ [f.1] }).Wf:=h.wf.set hc ⟨(h.wf.cls c (ME hc)).q0,(h.wf.cls c (ME hc)).q1,(h.wf.cls c (ME hc)).c0,(h.wf.cls c (ME hc)).c1,(h.wf.cls c (ME hc)).s0,(h.wf.cls c (ME hc)).s1⟩ ye (h.wf.low k c hc)
    exact(aa.trans aa.tl (aa.trans (aa.of_eq (JD (p:=p) hr (c':={ c with q:=c.q ++ [f.1] }) Z)) (uI (h.iP hr hw)))).ah
def aH.qH(a:Int):Int:=if 4611686018427387904<a then 4611686018427387904 else a
def cm.c0(c:cm):cm:={ c with cC:=0 }
def cm.c1(c:cm)(fr:Bool):cm:={ c with cC:=if fr then c.cC+c.kR else c.cC }
def cm.c2(c:cm)(fr:Bool)(f:aA)(q:List aA):cm:=⟨q,c.kR,if q=[] then 0 else (c.c1 fr).cC-eQ f.op,aH.qH (c.served+eQ f.op)⟩
def aH.gW:Nat→aH→Option (aA×aH)
 | 0,_=>none
 | n+1,S=>match S.cls[S.bf]? with
  | none=>none
  | some c=>match c.q with
   | []=>gW n ⟨S.cls.set S.bf c.c0,S.cap,(S.bf+1) % S.cls.length,true⟩
   | f::q=>if (c.c1 S.fresh).cC<eQ f.op then gW n ⟨S.cls.set S.bf (c.c1 S.fresh),S.cap,(S.bf+1) % S.cls.length,true⟩
    else some (f,if q=[] then ⟨S.cls.set S.bf (c.c2 S.fresh f q),S.cap,(S.bf+1) % S.cls.length,true⟩ else ⟨S.cls.set S.bf (c.c2 S.fresh f q),S.cap,S.bf,false⟩)
theorem wH(o:bp):0≤eQ o∧eQ o≤96:=by
 unfold eQ
 split
 ·rename_i h
  have hl:px o=false:=by
   cases hl:px o with
   | false=>rfl
   | true=>unfold c_ at h;rw[hl] at h;split at h<;>simp at h
  have hk:o.key.size≤16∧o.value.size≤64:=by simp[px] at hl;omega
  omega
 ·omega
theorem aH.Wf.qL{S:aH}(h:S.Wf){c':cm}(hw:c'.Wf)(hq:c'.q.length≤S.cap)(hl:c'.cC≤95):aH.Wf ⟨S.cls.set S.bf c',S.cap,(S.bf+1) % S.cls.length,true⟩:=by
 have hn:=h.n0
 refine⟨by simpa using h.n0,by simpa using h.n1,h.dh,h.eN,by simpa using tM _ hn,fun x hx=>?_,fun x hx=>?_,fun j x hx _=>?_⟩
 ·rcases lI hx with hx | rfl
  ·exact h.cls x hx
  ·exact hw
 ·rcases lI hx with hx | rfl
  ·exact h.qs x hx
  ·exact hq
 ·by_cases hjk:S.bf=j
  ·subst hjk
   simp only[hO h.bf,Option.some.injEq] at hx
   subst hx;exact hl
  ·simp only[ky hjk] at hx
   exact h.low j x hx (fun e=>absurd e.symm hjk)
theorem aH.Wf.stays{S:aH}(h:S.Wf){c':cm}(hw:c'.Wf)(hq:c'.q.length≤S.cap):aH.Wf ⟨S.cls.set S.bf c',S.cap,S.bf,false⟩:=by
 refine⟨by simpa using h.n0,by simpa using h.n1,h.dh,h.eN,by simpa using h.bf,fun x hx=>?_,fun x hx=>?_,fun j x hx hj=>?_⟩
 ·rcases lI hx with hx | rfl
  ·exact h.cls x hx
  ·exact hw
 ·rcases lI hx with hx | rfl
  ·exact h.qs x hx
  ·exact hq
 ·have hjk:S.bf≠j:=fun e=>by simpa using hj e.symm
  simp only[ky hjk] at hx
  exact h.low j x hx (fun e=>absurd e.symm hjk)
theorem cm.Wf.empty{c:cm}(h:c.Wf):c.c0.Wf:=⟨h.q0,h.q1,fj _,by have:=h.q0;show(0:Int)≤c.kR+95;omega,h.s0,h.s1⟩
theorem aH.Wf.c1{S:aH}(h:S.Wf){c:cm}(hc:S.cls[S.bf]?=some c):(c.c1 S.fresh).Wf:=by
 have hw:=h.cls c (ME hc)
 have hl:=h.low S.bf c hc
 have h1:=hw.q0;have h2:=hw.c0;have h3:=hw.c1
 refine⟨hw.q0,hw.q1,?_,?_,hw.s0,hw.s1⟩
 ·show(0:Int)≤if S.fresh then c.cC+c.kR else c.cC
  split<;>omega
 ·show(if S.fresh then c.cC+c.kR else c.cC)≤c.kR+95
  split
  ·rename_i hf
   have:=hl (fun _=>hf)
   omega
  ·omega
theorem aH.Wf.c2{S:aH}(h:S.Wf){c:cm}(hc:S.cls[S.bf]?=some c){f:aA}{q:List aA}(hq:c.q=f::q)(hcost:¬(c.c1 S.fresh).cC<eQ f.op):(c.c2 S.fresh f q).Wf∧(c.c2 S.fresh f q).q.length≤S.cap:=by
 have hw:=h.c1 hc
 have hb:=wH f.op
 have hqs:=h.qs c (ME hc)
 have h3:=hw.c1;have h4:0≤c.served:=hw.s0;have h5:=hw.q0
 have h3':(c.c1 S.fresh).cC≤c.kR+95:=h3
 have h5':96≤c.kR:=h5
 refine⟨⟨hw.q0,hw.q1,?_,?_,?_,?_⟩,?_⟩
 ·show(0:Int)≤if q=[] then 0 else (c.c1 S.fresh).cC-eQ f.op
  split<;>omega
 ·show(if q=[] then 0 else (c.c1 S.fresh).cC-eQ f.op)≤c.kR+95
  split<;>omega
 ·show(0:Int)≤aH.qH (c.served+eQ f.op)
  unfold aH.qH;split<;>omega
 ·show aH.qH (c.served+eQ f.op)≤_
  unfold aH.qH;split<;>omega
 ·rw[hq] at hqs;simp at hqs;show q.length≤S.cap;omega
theorem zb{rows:List Row}{k j:Nat}{r r':Row}{v:Value}(hr:rows[k]?=some r)(hj:j<4)(hc:(cn r).set j v=cn r')(rest:List Value):(flat cn rows++rest).set (0+k*4+j) v=flat cn (rows.set k r')++rest:=by
 rw[bZ];exact ue tW hr hj hc rest
theorem CH{rows:List Row}{k j:Nat}{r r':Row}{v:Value}(hk:k<rows.length)(hj:j<4)(hc:(cn r).set j v=cn r')(rest:List Value):(flat cn (rows.set k r)++rest).set (0+k*4+j) v=flat cn (rows.set k r')++rest:=by
 rw[zb (hO hk) hj hc,tL]
theorem Jq{rows:List Row}{k q cap:Nat}{c:cm}(hr:rows[k]?=some (q,c)):(rows.map fun r=>cR r.1 r.2.q cap)=(rows.map fun r=>cR r.1 r.2.q cap).set k (cR q c.q cap):=by
 rw[show cR q c.q cap=(fun r:Row=>cR r.1 r.2.q cap) (q,c) from rfl,SR,show rows.set k (q,c)=rows from by rw[←(cH.1 hr).2];simp]
theorem wW{p k q t n:Nat}{S:aH}{s:kA}{c cA c':cm}{fr:Bool}{x:Int}(hr:s.rows[k]?=some (q,c))(hcs:cn (q,cA)=cn (q,c'))(hx:x=t)(hn:n=s.rows.length):
  pt p [.slice (some ⟨s.cb,0,none⟩) n s.oW,.int .i64 x,.bool fr] 294::pt s.cb (flat cn (s.rows.set k (q,cA))++s.rest) 299::(s.rows.map fun r=>cR r.1 r.2.q S.cap).set k (cR q c'.q S.cap)=iA p ⟨S.cls.set k c',S.cap,t,fr⟩ { s with rows:=s.rows.set k (q,c') }:=by
 subst hx;subst hn
 simp only[iA,qF,gk,Hz hcs,gJ]
theorem JE{p k q t n:Nat}{S:aH}{s:kA}{c cA c':cm}{fr:Bool}{x:Int}(hr:s.rows[k]?=some (q,c))(hcs:cn (q,cA)=cn (q,c'))(hq:c'.q=c.q)(hx:x=t)(hn:n=s.rows.length):
  pt p [.slice (some ⟨s.cb,0,none⟩) n s.oW,.int .i64 x,.bool fr] 294::pt s.cb (flat cn (s.rows.set k (q,cA))++s.rest) 299::(s.rows.map fun r=>cR r.1 r.2.q S.cap)=iA p ⟨S.cls.set k c',S.cap,t,fr⟩ { s with rows:=s.rows.set k (q,c') }:=by
 rw[←wW hr hcs hx hn,hq,←Jq hr]
theorem jX.Ah{S:aH}{s:kA}(h:jX S s){k q:Nat}{c c':cm}{t:Nat}{fr:Bool}(hr:s.rows[k]?=some (q,c))(hw:aH.Wf ⟨S.cls.set k c',S.cap,t,fr⟩):jX ⟨S.cls.set k c',S.cap,t,fr⟩ { s with rows:=s.rows.set k (q,c') }:=
 ⟨hw,by simp[←h.rows,gJ],by simpa using h.cap⟩
def RG(p cb n c t:Nat):HP:=pt p [.slice (some ⟨cb,0,none⟩) n c,.int .i64 ((t+1) % n:Nat),.bool true] 294
theorem z_(p:Nat)(S0:aH)(N:Nat)(f:aA)(S1:aH)(hp:S0.gW N=some (f,S1))(hi:S0.idle=false):
  aq Tryz.prog 333 [.pointer (some ⟨p,0,none⟩)] Fr w [fh p S0] (fun v L=>(∃m,v=.tuple #[.agg (aS (f,m)).toArray,.bool true])∧L=[fh p S1]):=by
 refine TF 107 Tryz.func333 Z ym aw Z Z ?_
 refine CS (CG (VG (VO.alloc Z fun b=>VG (VN ?_))))
 refine VC.bu 1 Z (aY.aO p S0) fun s0 h0=>?_
 refine CN (L':=pt b (aS d_) 353::iA p S0 s0) (aa.perm hU).ah ?_
 refine aj ?_
 refine VG (VV (fun Fr w hF _ hs=>eZ Fr w (hs.ar 1 Z)) Z ?_)
 refine VG (VY 10 false Z (DF L5) ?_)
 refine aj ?_
 refine KL ?_
 refine CC rfl (fun h=>by rw[hi] at h;cases h) (fun _=>CK ?_)
 refine CS (VC.label (CS (VC.block ?_)))
 refine VC.loop (σ:=Nat×aH×kA) (fun _=>[(0,pV p),(2,pV b)]) (fun x=>pt b (aS d_) 353::iA p x.2.1 x.2.2) (fun x=>jX x.2.1 x.2.2∧x.2.1.gW x.1=some (f,S1)) (fun x=>x.1) (N,S0,s0) ⟨h0,hp⟩ aF ER ?_
 clear hp
 rintro⟨N,S,s⟩ ⟨h,hp⟩
 dsimp only at h hp ⊢
 have hn:=h.len
 have hn0:=h.wf.n0
 have hn4:=h.wf.n1
 have ht:=h.wf.bf
 obtain⟨q,c,hr,hc⟩:=h.row ht
 have hcell:∀{j:Nat} {v:Value},(cn (q,c))[j]?=some v→(flat cn s.rows++s.rest)[0+S.bf*4+j]?=some v:=fun {j v} hj=>by rw[bZ];exact vL hr hj _
 cases N with
 | zero=>simp[aH.gW] at hp
 | succ N=>
 simp only[aH.gW,hc] at hp
 refine aj ?_
 refine CD (ts 0 10 .nil) ym ym ?_
 refine eu ?_
 refine AG (AI Z (dU S.bf Z Z Z Z Z Z yd) ?_)
 refine sh ?_
 refine AX ?_
 refine VG (VO.dI (φ:=yF c.q 0) (fun Fr w hF _ hs=>O8 (cap:=S.cap) Fr w (hs.at_ (S.bf+3) Br)) Z ?_)
 intro v hv
 unfold yF at hv
 cases hq:c.q with
 | nil=>
  simp only[hq] at hp
  simp only[hq,List.getElem?_nil] at hv
  subst hv
  refine VG (VO.alloc Z fun b5=>VG (VT (vs:=aS d_) (cs':=aS d_) 0 Z Z Z Z (NR _) Z Z Z (VG (VN ?_))))
  refine pU ?_
  have hwf:=h.wf.qL (c':=c.c0) (h.wf.cls c (ME hc)).empty (h.wf.qs c (ME hc)) Bt
  refine VG (VO.st 3 Z Z Z Z (by rw[a_,dS tW];show 0+S.bf*4+2<_;omega) (zb hr yd (r':=(q,c.c0)) Z s.rest) Z (VG (VN ?_)))
  refine aj ?_
  refine ET ?_
  rintro _ _ ⟨rfl,rfl⟩
  refine VG (VN (CX ⟨(N,_,_),⟨h.Ah hr hwf,hp⟩,xM N,aF,?_⟩))
  refine(aa.trans aa.tl (aa.cons (aa.of_eq ?_))).ah
  exact JE (c':=c.c0) hr Z Z (by rw[hn]) rfl
 | cons g q'=>
  simp only[hq] at hp
  simp only[hq,sn] at hv
  obtain⟨m,rfl⟩:=hv
  have hlen:∀(l:List Row),l.length=s.rows.length→∀j,j<4→0+S.bf*4+j<(flat cn l++s.rest).length:=fun l hl j hj=>by rw[a_,dS tW,hl];omega
  refine VG (VO.alloc Z fun b5=>VG (VT (vs:=aS (g,m)) (cs':=aS (g,m)) 0 Z Z Z Z (NR _) Z Z Z (VG (VN ?_))))
  refine iD ?_
  refine VC.meet (σ:=Unit) (fun _=>[(0,pV p),(2,pV b),(4,.pointer (some ⟨s.cb,0+S.bf*4,none⟩)),(5,pV b5)])
   (fun _=>pt b5 (aS (g,m)) 353::pt b (aS d_) 353::pt p [.slice (some ⟨s.cb,0,none⟩) s.rows.length s.oW,.int .i64 S.bf,.bool false] 294::pt s.cb (flat cn (s.rows.set S.bf (q,c.c1 S.fresh))++s.rest) 299::s.rows.map fun r=>cR r.1 r.2.q S.cap) (fun _=>True) ?_ ?_
  ·refine CS (CG (VG (VO.ld 2 Z Z Z Z (VG (VN ?_)))))
   refine CC (t:=S.fresh) Z (fun hf=>?_) (fun hf=>CK ⟨(),trivial,aF,cI.of_eq ?_⟩)
   ·refine CS (CD (ts 0 11 (.only 11 .nil)) ym ym ?_)
    have hwc:=h.wf.cls c (ME hc)
    have:=hwc.q0;have:=hwc.q1;have:=hwc.c0;have:=hwc.c1
    refine AG (VA.ld 3 Z Z Z Z (hcell (j:=2) Z) (AG (VA.ld 3 Z Z Z Z (hcell (j:=1) Z) ?_)))
    refine AG (AP Z Z Z ?_ ?_ ?_)
    ·dsimp only;omega
    ·dsimp only;omega
    refine AG (VA.st 3 Z Z Z Z Z (hlen _ Z 2 yd) (zb hr yd (r':=(q,c.c1 S.fresh)) (by rw[hf];rfl) s.rest) Z yv ?_)
    refine sh ?_
    refine ES ?_
    exact⟨(),trivial,aF,ER⟩
   ·unfold iA qF
    rw[hf,←CF hr (b:=(q,c.c1 false)) rfl]
    rfl
  intro _ _
  have hk:S.bf<s.rows.length:=by omega
  have hr1:(s.rows.set S.bf (q,c.c1 S.fresh))[S.bf]?=some (q,c.c1 S.fresh):=hO hk
  have hcell1:∀{j:Nat} {v:Value},(cn (q,c.c1 S.fresh))[j]?=some v→(flat cn (s.rows.set S.bf (q,c.c1 S.fresh))++s.rest)[0+S.bf*4+j]?=some v:=fun {j v} hj=>by rw[bZ];exact vL hr1 hj _
  have hcost:=wH g.op
  have hw1:=h.wf.c1 hc
  have:=hw1.q0;have:=hw1.q1;have hc0:=hw1.c0;have hc1:=hw1.c1;have hs0:0≤c.served:=hw1.s0;have hs1:c.served≤4611686018427387904:=hw1.s1
  refine aj ?_
  refine VG (VL 0 g.op.cells Z Z Z Z (VG (VO.iY (fun Fr w=>N0 Fr w g.op) Z (VG (VN ?_)))))
  refine aj ?_
  refine VG (VO.ld 3 Z Z Z (hcell1 (j:=2) Z) (VG (VN ?_)))
  refine CP Z (fun hlt=>?_) (fun hlt=>CK ?_)
  ·have hlt:(c.c1 S.fresh).cC<eQ g.op:=hlt
   rw[if_pos hlt] at hp
   have hwf:=h.wf.qL (c':=c.c1 S.fresh) hw1 (h.wf.qs c (ME hc)) yd
   refine aj ?_
   refine ET ?_
   rintro _ _ ⟨rfl,rfl⟩
   refine VG (VN (CX ⟨(N,_,_),⟨h.Ah hr hwf,hp⟩,xM N,aF,?_⟩))
   refine(aa.trans aa.tl (aa.cons (aa.of_eq ?_))).ah
   exact JE (c':=c.c1 S.fresh) hr Z Z (by rw[hn]) rfl
  ·have hlt:¬(c.c1 S.fresh).cC<eQ g.op:=hlt
   rw[if_neg hlt] at hp
   obtain⟨hwf2,hq2⟩:=h.wf.c2 hc hq hlt
   refine aj ?_
   refine VG (VO.ld 3 Z Z Z (hcell1 (j:=0) Z) ?_)
   refine VG (VQ (S.bf+4) (H:=cR q c.q S.cap) (ψ:=fun v H=>(∃m,v=.tuple #[.agg (aS (g,m)).toArray,.bool true])∧H=cR q q' S.cap) (by simp[hr]) (fun Fr w _ _ _=>Ring.RX Fr w q c.q S.cap) Z (fun v L1 h1=>by rw[hq] at h1;exact⟨_,h1.2,h1.1,Z⟩) ?_)
   rintro _ _ ⟨⟨m',rfl⟩,rfl⟩
   refine VG (VT (vs:=aS (g,m')) (cs':=aS (g,m')) 1 Z Z Z Z (NR _) Z Z Z (VG (VN ?_)))
   refine aj ?_
   refine VG (VO.ld 3 Z Z Z (hcell1 (j:=2) Z) ?_)
   refine VG (VO.uN Z Z ?_ ?_ ?_)
   ·dsimp only;omega
   ·dsimp only;omega
   refine VG (VO.st 3 Z Z Z Z (hlen _ yf 2 yd) (CH hk yd (r':=(q,{ c with cC:=(c.c1 S.fresh).cC-eQ g.op })) Z s.rest) Z (VG (VN ?_)))
   have hr2:∀c':cm,(s.rows.set S.bf (q,c'))[S.bf]?=some (q,c'):=fun c'=>hO hk
   have hcell2:∀{c':cm} {j:Nat} {v:Value},(cn (q,c'))[j]?=some v→(flat cn (s.rows.set S.bf (q,c'))++s.rest)[0+S.bf*4+j]?=some v:=fun {c' j v} hj=>by rw[bZ];exact vL (hr2 c') hj _
   refine aj ?_
   refine VG (VO.ld 3 Z Z Z (hcell2 (j:=3) Z) ?_)
   refine VG (VP Z Z ?_ ?_ ?_)
   ·dsimp only;omega
   ·dsimp only;omega
   refine VG (VO.st 3 Z Z Z Z (hlen _ yf 3 yd) (CH hk yd (r':=(q,{ c with cC:=(c.c1 S.fresh).cC-eQ g.op,served:=aH.qH (c.served+eQ g.op) })) Z s.rest) Z (VG (VN ?_)))
   refine aj ?_
   refine VG (VO.ld 3 Z Z Z (hcell2 (j:=0) Z) ?_)
   refine VG (VV (fun Fr w hF _ hs=>Ring.kO (q:=q') (cap:=S.cap) Fr w (hs.at_ (S.bf+4) (by simp[hk]))) Z (VG (VN ?_)))
   refine CE Z (fun hz=>?_) (fun hz=>CK (CX ?_))
   ·have hz:q'=[]:=gI yd
    rw[if_pos hz] at hp
    cases hp
    have hcr:(c.c2 S.fresh f q').cC=0:=by show(if q'=[] then 0 else (c.c1 S.fresh).cC-eQ f.op)=0;rw[if_pos hz]
    have hwf:=h.wf.qL hwf2 hq2 (by rw[hcr];omega)
    refine aj ?_
    refine VG (VO.st 3 Z Z Z Z (hlen _ yf 2 yd) (CH hk yd (r':=(q,{ c with cC:=0,served:=aH.qH (c.served+eQ f.op) })) Z s.rest) Z (VG (VN ?_)))
    refine aj ?_
    refine ET ?_
    rintro _ _ ⟨rfl,rfl⟩
    refine VG (VN (CX ?_))
    refine aj ?_
    refine VG (VL 1 (aS (f,m')) Z Z Z Z (VG (VT (vs:=aS (f,m')) (cs':=aS (f,m')) 1 Z Z Z Z (NR _) Z Z Z (VG (VN ?_)))))
    refine CR (al.cJ 2 3 Z Z Z (an.many 1 Z Z) Z ?_ ⟨⟨m',Z⟩,Z⟩)
    have e:=wW (p:=p) (S:=S) (cA:={ c with cC:=0,served:=aH.qH (c.served+eQ f.op) }) (c':=c.c2 S.fresh f q') (fr:=true) hr Bu (show(((S.bf+1) % s.rows.length:Nat):Int)=((S.bf+1) % S.cls.length:Nat) by rw[hn]) rfl
    exact KM
   ·have hz:q'≠[]:=fun e=>hz (by simp[e])
    rw[if_neg hz] at hp
    cases hp
    have hcr:(c.c2 S.fresh f q').cC=(c.c1 S.fresh).cC-eQ f.op:=by show(if q'=[] then 0 else (c.c1 S.fresh).cC-eQ f.op)=_;rw[if_neg hz]
    have hwf:=h.wf.stays hwf2 hq2
    refine aj ?_
    refine VG (VL 1 (aS (f,m')) Z Z Z Z (VG (VT (vs:=aS (f,m')) (cs':=aS (f,m')) 1 Z Z Z Z (NR _) Z Z Z (VG (VN ?_)))))
    refine CR (al.cJ 2 3 Z Z Z (an.many 1 Z Z) Z ?_ ⟨⟨m',Z⟩,Z⟩)
    have e:=wW (p:=p) (S:=S) (cA:={ c with cC:=(c.c1 S.fresh).cC-eQ f.op,served:=aH.qH (c.served+eQ f.op) }) (c':=c.c2 S.fresh f q') (fr:=false) hr Bu (rfl:((S.bf:Nat):Int)=(S.bf:Nat)) rfl
    exact KM
end Sched
namespace Sched
open Go Vg T Api Ring
attribute [local irreducible] VO VC VA
def vW(a:Option Addr)(c:Nat)(gs:List FM):HP:=av 353 29 a gs.length c (flat aS gs)
theorem O5(a:Option Addr)(c:Nat)(gs:List FM)(g:FM):av 353 29 a (gs.length+1) c (flat aS gs++aS g)=vW a c (gs ++ [g]):=by
 simp[vW,ik,ki,qk]
theorem aH.Wf.my{S:aH}(h:S.Wf)(i:Nat):((S.cls.take i).flatMap cm.q).length≤64:=by
 have hq:=h.qs;have hn:=h.n1;have hc:=h.eN
 have:∀(l:List cm),(∀c∈l,c.q.length≤16)→(l.flatMap cm.q).length≤l.length*16:=by
  intro l
  induction l with
  | nil=>intro _;simp
  | cons c l ih=>intro hl;rw[List.flatMap_cons,a_,mh];have:=hl c yf;have:=ih (fun c hc=>hl c (by simp[hc]));omega
 have h2:=this (S.cls.take i) (fun c hc=>by have:=hq c (List.mem_of_mem_take hc);omega)
 have:(S.cls.take i).length≤4:=by rw[iT];omega
 omega
def gone(now:Int)(f:aA):Bool:=decide (f.deadline<now)
def stay(now:Int)(f:aA):Bool:=!gone now f
def cm.ng(now:Int)(c:cm):cm:=⟨c.q.filter (stay now),c.kR,if c.q.filter (stay now)=[] then 0 else c.cC,c.served⟩
def aH.cY(S:aH)(now:Int):List aA:=S.cls.flatMap fun c=>c.q.filter (gone now)
def aH.iI(S:aH)(now:Int):aH:={ S with cls:=S.cls.map (cm.ng now) }
theorem cm.Wf.exp{c:cm}(h:c.Wf)(now:Int):(c.ng now).Wf:=by
 have:=h.q0;have:=h.c0;have:=h.c1
 refine⟨h.q0,h.q1,?_,?_,h.s0,h.s1⟩
 ·show(0:Int)≤if _ then 0 else c.cC
  split<;>omega
 ·show(if _ then 0 else c.cC)≤c.kR+95
  split<;>omega
abbrev FX:=Nat×aH×kA×Option Addr×Nat×List FM
structure FW(S0:aH)(now:Int)(s0:kA)(x:FX):Prop where
 le:x.1≤S0.cls.length
 ok:jX x.2.1 x.2.2.1
 cls:∀k,x.2.1.cls[k]?=(S0.cls[k]?).map (if k<x.1 then cm.ng now else id)
 cap:x.2.1.cap=S0.cap
 bf:x.2.1.bf=S0.bf
 fresh:x.2.1.fresh=S0.fresh
 cb:x.2.2.1.cb=s0.cb
 oW:x.2.2.1.oW=s0.oW
 rows:x.2.2.1.rows.length=s0.rows.length
 room:x.2.2.2.2.2.length≤x.2.2.2.2.1
 gs:x.2.2.2.2.2.map Prod.fst=(S0.cls.take x.1).flatMap fun c=>c.q.filter (gone now)
structure ML(cl:cm)(now:Int)(gs0:List aA)(x:Nat×List aA×Option Addr×Nat×List FM):Prop where
 le:x.1≤cl.q.length
 cur:x.2.1=cl.q.drop x.1++(cl.q.take x.1).filter (stay now)
 room:x.2.2.2.2.length≤x.2.2.2.1
 gs:x.2.2.2.2.map Prod.fst=gs0++(cl.q.take x.1).filter (gone now)
theorem aH.Wf.Cw{S:aH}(h:S.Wf)(i:Nat)(now:Int):((S.cls.take i).flatMap fun c=>c.q.filter (gone now)).length≤64:=by
 have hq:=h.qs;have hn:=h.n1;have hc:=h.eN
 have:∀(l:List cm),(∀c∈l,c.q.length≤16)→(l.flatMap fun c=>c.q.filter (gone now)).length≤l.length*16:=by
  intro l
  induction l with
  | nil=>intro _;simp
  | cons c l ih=>intro hl;rw[List.flatMap_cons,a_,mh];have:=hl c yf;have:=ih (fun c hc=>hl c (by simp[hc]));have:=nP (gone now) c.q;omega
 have h2:=this (S.cls.take i) (fun c hc=>by have:=hq c (List.mem_of_mem_take hc);omega)
 have:(S.cls.take i).length≤4:=by rw[iT];omega
 omega
theorem ub(p:Nat)(S0:aH)(now:Int):
  aq Tryz.prog 361 [.pointer (some ⟨p,0,none⟩),.int .i64 now] Fr w [fh p S0] (fun v L=>∃a c gs,gs.map Prod.fst=S0.cY now∧v=.slice a gs.length c∧L=[fh p (S0.iI now),vW a c gs]):=by
 refine TF 67 Tryz.func361 Z ym aw Z Z ?_
 refine VC.bu 0 Z (aY.aO p S0) fun s0 h0=>?_
 refine CN (L':=iA p S0 s0) (aa.of_eq (bA _)).ah ?_
 have hn:=h0.len
 have hn0:=h0.wf.n0
 have hn4:=h0.wf.n1
 refine aj ?_
 refine VG (VV (fun Fr w hF _ hs=>eZ Fr w (hs.ar 0 Z)) Z (VG (VN ?_)))
 refine CP Z (fun h=>by omega) (fun _=>CK ?_)
 refine aj ?_
 refine VC.loop (σ:=FX) (fun x=>[(0,pV p),(1,.int .i64 now),(5,.slice x.2.2.2.1 x.2.2.2.2.2.length x.2.2.2.2.1),(16,.int .i64 s0.rows.length),(17,.int .i64 x.1)]) (fun x=>vW x.2.2.2.1 x.2.2.2.2.1 x.2.2.2.2.2::iA p x.2.1 x.2.2.1) (FW S0 now s0) (fun x=>4-x.1) (0,S0,s0,none,0,[]) ⟨bK _,h0,fun k=>by simp,Z,Z,Z,Z,Z,Z,NR _,Z⟩ aF (aa.cN aa.refl).ah ?_
 rintro⟨i,S,s,a,c,gs⟩ ⟨hi,h,hcls,hcap,hturn,hfresh,hcb,hccap,hrows,hroom,hgs⟩
 dsimp only at hi h hcls hcap hturn hfresh hcb hccap hrows hroom hgs ⊢
 refine aj ?_
 refine CP Z (fun h1=>?_) (fun h1=>?_)
 ·have hk0:i<S0.cls.length:=by omega
  obtain⟨c0,hc0⟩:∃c0,S0.cls[i]?=some c0:=⟨_,GE hk0⟩
  have hc0':S.cls[i]?=some c0:=by rw[hcls i,hc0,if_neg (Nat.lt_irrefl i)];rfl
  have hk:i<S.cls.length:=(cH.1 hc0').1
  obtain⟨q,cl,hr,hc⟩:=h.row hk
  obtain rfl:cl=c0:=by rw[hc] at hc0';exact jS hc0'
  have hql:=h.wf.qs cl (ME hc)
  have hcap16:=h.wf.eN
  have hki:i<s.rows.length:=by omega
  have hcell:∀{j:Nat} {v:Value},(cn (q,cl))[j]?=some v→(flat cn s.rows++s.rest)[0+i*4+j]?=some v:=fun {j v} hj=>by rw[bZ];exact vL hr hj _
  refine CK ?_
  refine cF ?_
  refine VG (VI (dU i Z Z Z Z Z Z hki) ?_)
  refine cF ?_
  refine AX ?_
  refine VG (VV (fun Fr w hF _ hs=>Ring.kO (q:=cl.q) (cap:=S.cap) Fr w (hs.at_ (i+3) Br)) Z (VG (VN ?_)))
  refine aj ?_
  refine VC.loop (σ:=Nat×List aA×Option Addr×Nat×List FM) (fun x=>[(0,pV p),(1,.int .i64 now),(5,.slice x.2.2.1 x.2.2.2.2.length x.2.2.2.1),(7,.pointer (some ⟨s.cb,0+i*4,none⟩)),(16,.int .i64 s0.rows.length),(17,.int .i64 i),(30,.int .i64 cl.q.length),(31,.int .i64 x.1)]) (fun x=>vW x.2.2.1 x.2.2.2.1 x.2.2.2.2::pt p (qF S s) 294::pt s.cb (flat cn s.rows++s.rest) 299::(s.rows.map fun r=>cR r.1 r.2.q S.cap).set i (cR q x.2.1 S.cap)) (ML cl now ((S0.cls.take i).flatMap fun c=>c.q.filter (gone now))) (fun x=>16-x.1) (0,cl.q,a,c,gs) ⟨bK _,by simp,hroom,by simpa using hgs⟩ aF (cI.of_eq (by dsimp only;rw[←Jq hr];rfl)) ?_
  rintro⟨j,cur,a,c,gs⟩ ⟨hj,hcur,hroom,hgs⟩
  dsimp only at hj hcur hroom hgs ⊢
  have hfew:=h0.wf.Cw i now
  have hgl:gs.length≤80:=by
   have:=congrArg List.length hgs
   have h3:=nP (gone now) (cl.q.take j)
   have h4:=xJ j cl.q
   rw[dW,a_] at this
   omega
  have hrl:(s.rows.map fun r=>cR r.1 r.2.q S.cap).length=s.rows.length:=by simp
  refine aj ?_
  refine CP Z (fun h2=>?_) (fun h2=>?_)
  ·have hj2:j<cl.q.length:=by omega
   have hf:=GE hj2
   have hdrop:cl.q.drop j=cl.q[j]::cl.q.drop (j+1):=xG hj2
   generalize cl.q[j]=f at hf hdrop
   have htake:cl.q.take (j+1)=cl.q.take j ++ [f]:=by rw[fS,hf];rfl
   have hcur2:cur=f::(cl.q.drop (j+1)++(cl.q.take j).filter (stay now)):=by rw[hcur,hdrop];rfl
   refine vl ?_
   refine AX ?_
   refine VG (VO.op rfl rfl rfl (aG.Nq (i+3) (H:=cR q cur S.cap) (R:=Ring.rX q S.cap cur) (ψ:=fun v M H=>(∃m,v=.tuple #[.agg (aS (f,m)).toArray,.bool true]∧M=iv m)∧H=cR q (cl.q.drop (j+1)++(cl.q.take j).filter (stay now)) S.cap) (by simp[hki]) (fun Fr w _ _ _=>Ring.z_ Fr w q cur S.cap) rfl (fun v L1 h1=>by rw[hcur2] at h1;obtain⟨m,h2,h3⟩:=h1;exact⟨_,_,h3,⟨m,h2,rfl⟩,rfl⟩)) ?_)
   rintro _ _ ⟨_,_,⟨⟨m,rfl,rfl⟩,rfl⟩,rfl⟩
   refine VG (VO.alloc Z fun b8=>VG (VT (vs:=aS (f,m)) (cs':=aS (f,m)) 0 Z Z Z Z (NR _) Z Z Z (VG (VN ?_))))
   refine aj ?_
   refine CP Z (fun h3=>?_) (fun h3=>?_)
   ·have h3:f.deadline<now:=h3
    have hg:gone now f=true:=by simp[gone,h3]
    have hs:stay now f=false:=by simp[stay,hg]
    refine aj ?_
    refine VG (VL 0 (aS (f,m)) Z Z Z Z ?_)
    refine VG (VO.buildSlice (n:=1) (pv:=[(0,.agg (aS (f,m)).toArray)]) (aS (f,m)) Z Z Z Z yn (fN Z Z Z) fun nb=>?_)
    refine VG (VO.append (m:=1) (news:=aS (f,m)) 3 Z Z Z Z Z Z Z (dN.pt 0 Z Z Z) Z (by show(gs.length+1)*288≤_;omega) yd fun a' c' hc'=>VG (VN ?_))
    refine gG ?_
    have hL:(gs ++ [(f,m)]).length=gs.length+1:=by simp
    refine⟨(j+1,cl.q.drop (j+1)++(cl.q.take j).filter (stay now),a',c',gs ++ [(f,m)]),⟨hj2,by dsimp only;rw[htake,sk];simp[hs],by dsimp only;rw[hL];exact hc',?_⟩,by dsimp only;omega,SC Z (SC Z (SC (by rw[hL];rfl) aF)),?_⟩
    ·dsimp only;rw[fA,hgs,htake,sk,eV];simp[hg]
    ·dsimp only
     rw[←O5]
     refine(aa.cons (aa.trans aa.tl (aa.trans aa.tl (aa.trans aa.tl (aa.of_eq ?_))))).ah
     show _::_::((s.rows.map fun r=>cR r.1 r.2.q S.cap).set i (cR q cur S.cap)).set i _=_
     rw[tL]
   ·have h3:¬f.deadline<now:=h3
    have hg:gone now f=false:=by simp[gone];omega
    have hs:stay now f=true:=by simp[stay,hg]
    have hlt:(cl.q.drop (j+1)++(cl.q.take j).filter (stay now)).length<S.cap:=by
     have h4:=nP (stay now) (cl.q.take j)
     have h5:=xJ j cl.q
     rw[a_,q3]
     omega
    refine CD (ts 0 5 (.only 5 .nil)) ym ym ?_
    have hc3:(flat cn s.rows++s.rest)[0+i*4]?=some (.pointer (some ⟨q,0,none⟩)):=hcell (j:=0) rfl
    refine AG (VA.ld 4 Z Z Z Z hc3 (AG (VA.cK 0 (aS (f,m)) Z Z Z Z Z ?_)))
    refine AG (AQ (i+5) (H:=cR q (cl.q.drop (j+1)++(cl.q.take j).filter (stay now)) S.cap) (ψ:=fun v H=>H=cR q (cl.q.drop (j+1)++(cl.q.take j).filter (stay now) ++ [f]) S.cap) (by simp[hki]) (fun Fr w _ _ hS=>Ring.s6 Fr w q _ S.cap (f,m) (kz.sat (hS.at_ 1 Z))) Z Z (fun v L1 h1=>⟨_,h1.2,by rw[if_pos hlt]⟩) ?_ ?_)
    ·rintro _ _ rfl
     exact(by(try refine Pd.st ?_);(repeat(first|exact Pd.nil|exact Pd.fnil|refine Pd.inner ?_|refine Pd.skip yo ?_|refine zf (zo 0 Z Z) ?_|refine zf (zo 1 Z Z) ?_|refine zf (zm 0 Z Z) ?_|refine zf (zm 1 Z Z) ?_|refine zf (an.ar (an.one 4 Z hc3) Z) ?_|refine zf ((an.one 4 Z hc3)) ?_|refine zc (zo 0 Z Z) ?_|refine zc (zo 1 Z Z) ?_|refine zc (zm 0 Z Z) ?_|refine zc (zm 1 Z Z) ?_|refine zc (an.ar (an.one 4 Z hc3) Z) ?_|refine zc ((an.one 4 Z hc3)) ?_)))
    rintro _ _ rfl
    refine bg ?_
    refine gG ?_
    refine⟨(j+1,cl.q.drop (j+1)++(cl.q.take j).filter (stay now) ++ [f],a,c,gs),⟨hj2,by dsimp only;rw[htake,sk,eV];simp[hs],hroom,by dsimp only;rw[hgs,htake,sk];simp[hg]⟩,by dsimp only;omega,aF,?_⟩
    refine(aa.trans aa.tl (aa.trans aa.tl (aa.cons (aa.of_eq ?_)))).ah
    show _::_::(((s.rows.map fun r=>cR r.1 r.2.q S.cap).set i (cR q cur S.cap)).set i _).set i _=_
    rw[tL,tL]
  ·have hj2:j=cl.q.length:=by omega
   subst hj2
   rw[jR] at hgs
   have hcur3:cur=cl.q.filter (stay now):=by rw[hcur];simp
   subst hcur3
   have hle2:=nP (stay now) cl.q
   have hwf':aH.Wf ⟨S.cls.set i (cl.ng now),S.cap,S.bf,S.fresh⟩:=h.wf.set hc ((h.wf.cls cl (ME hc)).exp now) (by show(cl.q.filter (stay now)).length≤S.cap;omega) (fun hl=>by
    have:=h.wf.low i cl hc hl
    show(if cl.q.filter (stay now)=[] then 0 else cl.cC)≤95
    split<;>omega)
   have hnext:FW S0 now s0 (i+1,⟨S.cls.set i (cl.ng now),S.cap,S.bf,S.fresh⟩,{ s with rows:=s.rows.set i (q,cl.ng now) },a,c,gs):=by
    refine⟨hk0,h.Ah hr hwf',fun k=>?_,hcap,hturn,hfresh,hcb,hccap,by simpa using hrows,hroom,?_⟩
    ·dsimp only
     by_cases hik:i=k
     ·subst hik
      rw[hO hk,hc0,if_pos (xM i)];rfl
     ·rw[ky hik,hcls k]
      congr 1
      by_cases h9:k<i
      ·rw[if_pos h9,if_pos yd]
      ·rw[if_neg h9,if_neg yd]
    ·dsimp only;rw[hgs,fS,hc0,List.flatMap_append];simp
   refine CX ?_
   refine aj ?_
   refine AX ?_
   refine VG (VV (fun Fr w hF _ hs=>Ring.kO (q:=cl.q.filter (stay now)) (cap:=S.cap) Fr w (hs.at_ (i+3) (by simp[hki]))) Z (VG (VN ?_)))
   refine CE Z (fun hz=>?_) (fun hz=>CK ?_)
   ·have hz:cl.q.filter (stay now)=[]:=gI yd
    have hcr:(cl.ng now).cC=0:=by show(if cl.q.filter (stay now)=[] then 0 else cl.cC)=0;rw[if_pos hz]
    refine aj ?_
    refine VG (VO.st 2 Z Z Z Z (by rw[a_,dS tW];show 0+i*4+2<_;omega) (zb hr yd (r':=(q,cl.c0)) Z s.rest) Z (VG (VN ?_)))
    refine gG ?_
    refine⟨_,hnext,by dsimp only;omega,SC Z (SC Z (SC Z (SC Z (SC Z (SN _))))),(aa.cons (aa.of_eq ?_)).ah⟩
    exact wW (cA:=cl.c0) (c':=cl.ng now) hr Bu Z rfl
   ·have hz:cl.q.filter (stay now)≠[]:=fun e=>hz yq
    have hcr:(cl.ng now).cC=cl.cC:=by show(if cl.q.filter (stay now)=[] then 0 else cl.cC)=_;rw[if_neg hz]
    refine gG ?_
    refine⟨_,hnext,by dsimp only;omega,SC Z (SC Z (SC Z (SC Z (SC Z (SN _))))),(aa.cons (aa.of_eq ?_)).ah⟩
    rw[CF hr (b:=(q,cl)) rfl]
    exact wW (cA:=cl) (c':=cl.ng now) hr Bu Z rfl
 ·have hk:i=S0.cls.length:=by omega
  subst hk
  rw[jR] at hgs
  refine CX ?_
  refine aj ?_
  have e:S=S0.iI now:=by
   obtain⟨cls,cap,bf,fresh⟩:=S
   dsimp only at hcls hcap hturn hfresh
   subst hcap;subst hturn;subst hfresh
   show aH.mk _ _ _ _=aH.mk _ _ _ _
   congr 1
   apply oL
   intro k
   rw[hcls k,dH]
   by_cases h9:k<S0.cls.length
   ·rw[if_pos h9]
   ·rw[mQ yd];rfl
  subst e
  refine CR (al.tmp 4 Z Z (aa.trans (aa.perm (hU (l₁:=[_]))) (aa.app (uI h) aa.refl)).ah ⟨a,c,gs,hgs,Z,Z⟩)
end Sched
namespace Sched
open Go Vg T Api Ring
attribute [local irreducible] VO VC VA
structure fT(Fr:Nat→Prop)(w:World)(a:Option Addr)(qs:List Int):Prop where
 at_:qs≠[]→∃b off,a=some ⟨b,off,none⟩∧Fr b∧∀i v,qs[i]?=some v→w.cell? ⟨b,off+i,none⟩=some (.int .i64 v)
def pz(q:Int):Bool:=decide (96≤q)&&decide (q≤65536)
def lW(qs:List Int)(cap:Int):Bool:=decide (1≤qs.length)&&decide (qs.length≤4)&&decide (1≤cap)&&decide (cap≤16)&&qs.all pz
def mX(q:Int):cm:=⟨[],q,0,0⟩
def aH.new(qs:List Int)(cap:Int):aH:=⟨qs.map mX,cap.toNat,0,true⟩
theorem aH.IQ{qs:List Int}{cap:Int}(h:lW qs cap=true):(aH.new qs cap).Wf:=by
 simp only[lW,dG,decide_eq_true_eq,kU,pz] at h
 obtain⟨⟨⟨⟨h1,h2⟩,h3⟩,h4⟩,h5⟩:=h
 refine⟨by simpa[aH.new] using h1,by simpa[aH.new] using h2,by simp[aH.new];omega,by simp[aH.new];omega,by simp[aH.new];omega,fun c hc=>?_,fun c hc=>?_,fun k c hc _=>?_⟩
 ·obtain⟨q,hq,rfl⟩:=eC.1 hc
  have:=h5 q hq
  exact⟨this.1,this.2,fj _,by show(0:Int)≤q+95;omega,fj _,by show(0:Int)≤_;omega⟩
 ·obtain⟨q,hq,rfl⟩:=eC.1 hc
  simp[mX]
 ·obtain⟨q,hq,rfl⟩:=eC.1 (ME hc)
  show(0:Int)≤95;omega
abbrev xQ:=Nat×Option Addr×Nat×List Row
def IL(p:Nat)(cap:Nat)(x:xQ):List HP:=pt p [.slice x.2.1 x.1 x.2.2.1,.int .i64 0,.bool true] 294::av 299 4 x.2.1 x.1 x.2.2.1 (flat cn x.2.2.2)::x.2.2.2.map fun r=>cR r.1 r.2.q cap
def dz(qs:List Int)(cap:Int)(v:Value)(L:List HP):Prop:=if lW qs cap=true then ∃p,v=.tuple #[.pointer (some ⟨p,0,none⟩),.int .i64 0]∧L=[fh p (aH.new qs cap)] else v=.tuple #[.pointer none,.int .i64 2]∧L=[]
theorem dz.bad{X:Cx}{e:Env}{L:List HP}{qs:List Int}{cap:Int}(h:lW qs cap=false)(h4:Vg.look e 4=some (.pointer none))(h5:Vg.look e 5=some (.int .i64 2)):Vg.al X Tryz.f142 (dz qs cap) e L:=
 al.cz 4 5 rfl h4 h5 aa.nil.ah (by unfold dz;rw[if_neg (by rw[h];simp)];exact⟨rfl,rfl⟩)
structure BL(qs:List Int)(x:xQ):Prop where
 le:x.1≤qs.length
 room:x.1≤x.2.2.1
 rows:x.2.2.2.map Prod.snd=(qs.take x.1).map mX
 ok:(qs.take x.1).all pz=true
theorem BL.len{qs:List Int}{x:xQ}(h:BL qs x):x.2.2.2.length=x.1:=by
 have:=congrArg List.length h.rows
 have h2:=h.le
 simp only[dW,iT] at this
 omega
theorem jH(a:Option Addr)(qc:Nat)(qs:List Int)(cap:Int)(hq:fT Fr w a qs):
  aq Tryz.prog 142 [.slice a qs.length qc,.int .i64 cap] Fr w [] (dz qs cap):=by
 refine TF 62 Tryz.func142 Z ym aw Z Z ?_
 refine aj ?_
 refine VG (VO.split 13 Z Z (fun h1=>?_) (fun h1=>VG (VO.split 18 Z Z (fun h2=>?_) (fun h2=>VG (VO.split 22 Z Z (fun h3=>?_) (fun h3=>?_))))))
 ·have h1:=of_decide_eq_true h1
  refine VG (VY 18 true Z Z (VG (VY 22 true Z Z (VG (VN (VC.lf Z ?_))))))
  refine aj ?_
  refine CR (dz.bad ?_ Z Z)
  have:¬(1≤qs.length):=by omega
  simp[lW,this]
 ·have h2:=of_decide_eq_true h2
  refine VG (VY 22 true Z Z (VG (VN (VC.lf Z ?_))))
  refine aj ?_
  refine CR (dz.bad ?_ Z Z)
  have:¬(qs.length≤4):=by omega
  simp[lW,this]
 ·have h3:=of_decide_eq_true h3
  refine VG (VN (VC.lf Z ?_))
  refine aj ?_
  refine CR (dz.bad ?_ Z Z)
  have:¬(1≤cap):=by omega
  simp[lW,this]
 have h1:=of_decide_eq_false h1
 have h2:=of_decide_eq_false h2
 have h3:=of_decide_eq_false h3
 refine aj ?_
 refine CP Z (fun h4=>?_) (fun h4=>CK ?_)
 ·refine aj ?_
  refine CR (dz.bad ?_ Z Z)
  have:¬(cap≤16):=by omega
  simp[lW,this]
 obtain⟨cp,rfl⟩:=sj (show 0≤cap by omega)
 obtain⟨b,off,ha,hF,hcell⟩:=hq.at_ (fun e=>by rw[e] at h1;simp at h1)
 subst ha
 refine CS (CG (VG (VI (LB [.slice none 0 0,.int .i64 0,.bool true] Z Z Z Z Z) (VG (VB (vs:=[.slice none 0 0,.int .i64 0,.bool true]) Z fun p=>VG (VN ?_))))))
 refine aj ?_
 refine VC.loop (σ:=xQ) (fun x=>[(0,.slice (some ⟨b,off,none⟩) qs.length qc),(1,.int .i64 cp),(4,pV p),(28,.slice (some ⟨b,off,none⟩) qs.length qc),(29,.int .i64 qs.length),(30,.int .i64 x.1)]) (IL p cp) (BL qs) (fun x=>4-x.1) (0,none,0,[]) ⟨bK _,NR _,Z,Z⟩ aF ?_ ?_
 ·exact(aa.cons (aa.cN aa.refl)).ah
 rintro⟨i,a,c,rows⟩ hI
 have hle:=hI.le;have hroom:=hI.room;have hlen:=hI.len;have hrows:=hI.rows;have hok:=hI.ok
 dsimp only at hle hroom hlen hrows hok ⊢
 refine aj ?_
 refine CP Z (fun h5=>?_) (fun h5=>?_)
 ·have h5:i<qs.length:=by omega
  have hqi:=GE h5
  have hmem:qs[i]∈qs:=List.getElem_mem h5
  have htake:qs.take (i+1)=qs.take i ++ [qs[i]]:=by rw[fS,hqi];rfl
  generalize hqv:qs[i]=q at hqi hmem htake
  have hbad:pz q=false→lW qs cp=false:=fun h=>by
   have:qs.all pz=false:=vn.2 ⟨q,hmem,by simp[h]⟩
   simp[lW,this]
  refine vl ?_
  refine VG (VI (dU i Z Z Z Z Z Z h5) ?_)
  refine VG (VO.load Z Z (an.rd (v:=.int .i64 q) hF (by show w.cell? ⟨b,off+i*1,none⟩=_;rw[oO];exact hcell i _ hqi)) (VG (VN ?_)))
  refine CS (CS (CG (VG (VO.split 36 Z Z (fun h6=>?_) (fun h6=>?_)))))
  ·have h6:=of_decide_eq_true h6
   refine VG (VN (VC.lf Z ?_))
   refine aj ?_
   refine CR (dz.bad (hbad ?_) Z Z)
   have:¬96≤q:=by omega
   simp[pz,this]
  have h6:=of_decide_eq_false h6
  refine VG (VN (CP Z (fun h7=>?_) (fun h7=>CK ?_)))
  ·refine aj ?_
   refine CR (dz.bad (hbad ?_) Z Z)
   have:¬q≤65536:=by omega
   simp[pz,this]
  refine aj ?_
  refine VG (VO.GC Z (fun Fr w=>Ring.jH Fr w cp yd yd) ?_)
  rintro _ _ ⟨r,rfl,rfl⟩
  refine aj ?_
  refine VC.dd Z (fun h=>absurd Z h) (fun _=>CK ?_)
  refine CG ?_
  refine uX ?_
  refine VG (VI (LB (pv:=[(0,pV r),(1,.int .i64 q)]) (cn (r,mX q)) Z Z Z Z Z) ?_)
  refine VG (VO.buildSlice (n:=1) (pv:=[(0,.agg (cn (r,mX q)).toArray)]) (cn (r,mX q)) Z Z Z Z yn (fN Z Z Z) fun nb=>?_)
  refine VG (VO.append (m:=1) (news:=cn (r,mX q)) 3 Z Z Z Z Z Z Z (dN.pt 0 Z Z Z) Z (by show(i+1)*32≤_;omega) yd fun a' c' hc'=>?_)
  refine VG (VO.st 3 Z Z Z Z (by show 0<3;omega) Z Z (VG (VN ?_)))
  refine aj ?_
  refine VG (VP Z Z ?_ ?_ ?_)
  ·omega
  ·omega
  refine aj ?_
  refine⟨(i+1,a',c',rows ++ [(r,mX q)]),⟨h5,hc',?_,?_⟩,by dsimp only;omega,aF,?_⟩
  ·dsimp only;rw[fA,hrows,htake,fA];rfl
  ·dsimp only;rw[htake,xF,hok];simp[pz];omega
  ·have e1:aa (cR r [] cp::rows.map fun r:Row=>cR r.1 r.2.q cp) ((rows ++ [(r,mX q)]).map fun r:Row=>cR r.1 r.2.q cp):=by
    rw[fA]
    exact aa.perm (hU (l₁:=[cR r [] cp]))
   have e2:flat cn rows++cn (r,mX q)=flat cn (rows ++ [(r,mX q)]):=by simp[ik,ki,qk]
   rw[e2]
   refine(IP 3 Z ?_).ah
   exact IP 0 Z (aa.trans aa.tl e1)
 ·have h5:i=qs.length:=by omega
  subst h5
  have hnew:lW qs cp=true:=by
   rw[jR] at hok
   simp only[lW,hok,Bool.and_true,dG,decide_eq_true_eq]
   omega
  refine CX ?_
  refine aj ?_
  refine VC.bu 1 Z (aY.sl _ _ _ _ _ _) fun x hx=>?_
  obtain⟨hx1,hx2,hx3⟩:=hx
  cases x with
  | none=>exact absurd hx3.2.1 yd
  | some y=>
   obtain⟨cb,rest⟩:=y
   obtain⟨rfl,hx3⟩:=hx3
   refine CR (al.cz 4 5 Z Z Z (L':=[fh p (aH.new qs cp)]) ?_ (by unfold dz;rw[if_pos hnew];exact⟨p,Z,Z⟩))
   rw[jR] at hrows
   refine(aa.aO (M:=[]) ⟨cb,c,rest,rows⟩ ⟨aH.IQ hnew,hrows,by dsimp only;omega⟩ ?_).ah
   have e:qF (aH.new qs cp) ⟨cb,c,rest,rows⟩=[.slice (some ⟨cb,0,none⟩) qs.length c,.int .i64 0,.bool true]:=by simp[qF,aH.new,hlen]
   unfold iA
   rw[e]
   refine IP 1 Z ?_
   exact aa.of_eq (by simp[IL,aH.new])
end Sched
namespace Sched
open Go Vg T Api Ring
attribute [local irreducible] VO VC VA
def aH.qs(S:aH):List (List aA):=S.cls.map cm.q
theorem aH.DX{S:aH}{k:Nat}{c:cm}(h:S.cls[k]?=some c):S.qs[k]?=some c.q:=by simp[aH.qs,h]
theorem Qm{α:Type}{l:List α}{k:Nat}{a:α}(h:l[k]?=some a):l.set k a=l:=by rw[←(cH.1 h).2];simp
theorem DY{S:aH}{k:Nat}{c:cm}(hc:S.cls[k]?=some c){c':cm}(h:c'.q=c.q):(S.cls.set k c').map cm.q=S.qs:=by
 rw[gJ,h];exact Qm (by simp[hc])
theorem DR{S:aH}{c:cm}(hc:S.cls[S.bf]?=some c)(N:Nat):S.gW (N+1)=match c.q with
   | []=>aH.gW N ⟨S.cls.set S.bf c.c0,S.cap,(S.bf+1) % S.cls.length,true⟩
   | f::q=>if (c.c1 S.fresh).cC<eQ f.op then aH.gW N ⟨S.cls.set S.bf (c.c1 S.fresh),S.cap,(S.bf+1) % S.cls.length,true⟩
    else some (f,if q=[] then ⟨S.cls.set S.bf (c.c2 S.fresh f q),S.cap,(S.bf+1) % S.cls.length,true⟩ else ⟨S.cls.set S.bf (c.c2 S.fresh f q),S.cap,S.bf,false⟩):=by
 simp only[aH.gW,hc]
 all_goals (cases c.q<;>rfl)
theorem DQ:∀{N:Nat} {S S1:aH} {f:aA},S.Wf→S.gW N=some (f,S1)→∃k q,S.qs[k]?=some (f::q)∧S1.qs=S.qs.set k q∧S1.cap=S.cap∧S1.Wf
 | 0,S,S1,f,_,h=>by simp[aH.gW] at h
 | N+1,S,S1,f,hw,h=>by
  obtain⟨c,hc⟩:∃c,S.cls[S.bf]?=some c:=⟨_,GE hw.bf⟩
  have hcw:=hw.cls c (ME hc)
  have hql:=hw.qs c (ME hc)
  have same:∀c':cm,c'.q=c.q→(S.cls.set S.bf c').map cm.q=S.qs:=fun c' h'=>DY hc h'
  rw[DR hc] at h
  cases hq:c.q with
  | nil=>
   simp only[hq] at h
   have hw':=hw.qL (c':=c.c0) hcw.empty hql Bt
   obtain⟨k,q,h1,h2,h3,h4⟩:=DQ hw' h
   have e:aH.qs ⟨S.cls.set S.bf c.c0,S.cap,(S.bf+1) % S.cls.length,true⟩=S.qs:=same c.c0 rfl
   rw[e] at h1 h2
   exact⟨k,q,h1,h2,h3,h4⟩
  | cons g q'=>
   simp only[hq] at h
   have hcost:=wH g.op
   have hw1:=hw.c1 hc
   by_cases hlt:(c.c1 S.fresh).cC<eQ g.op
   ·rw[if_pos hlt] at h
    have hw':=hw.qL (c':=c.c1 S.fresh) hw1 hql yd
    obtain⟨k,q,h1,h2,h3,h4⟩:=DQ hw' h
    have e:aH.qs ⟨S.cls.set S.bf (c.c1 S.fresh),S.cap,(S.bf+1) % S.cls.length,true⟩=S.qs:=same (c.c1 S.fresh) rfl
    rw[e] at h1 h2
    exact⟨k,q,h1,h2,h3,h4⟩
   ·rw[if_neg hlt] at h
    obtain⟨hw2,hq2⟩:=hw.c2 hc hq hlt
    simp only[Option.some.injEq,Prod.mk.injEq] at h
    obtain⟨rfl,h⟩:=h
    refine⟨S.bf,q',by rw[aH.DX hc,hq],?_⟩
    by_cases hz:q'=[]
    ·rw[if_pos hz] at h
     subst h
     have hcr:(c.c2 S.fresh g q').cC=0:=by show(if q'=[] then 0 else (c.c1 S.fresh).cC-eQ g.op)=0;rw[if_pos hz]
     exact⟨by simp only[aH.qs,gJ];rfl,Z,hw.qL hw2 hq2 (by rw[hcr];omega)⟩
    ·rw[if_neg hz] at h
     subst h
     exact⟨by simp only[aH.qs,gJ];rfl,Z,hw.stays hw2 hq2⟩
theorem uB:∀{N:Nat} {S:aH} {r:aA×aH} (M:Nat),S.gW N=some r→S.gW (N+M)=some r
 | 0,S,r,M,h=>by simp[aH.gW] at h
 | N+1,S,r,M,h=>by
  rw[show N+1+M=(N+M)+1 from by omega]
  simp only[aH.gW] at h ⊢
  cases hc:S.cls[S.bf]? with
  | none=>simp[hc] at h
  | some c=>
   simp only[hc] at h ⊢
   cases hq:c.q with
   | nil=>simp only[hq] at h ⊢;exact uB M h
   | cons g q'=>
    simp only[hq] at h ⊢
    by_cases hlt:(c.c1 S.fresh).cC<eQ g.op
    ·rw[if_pos hlt] at h ⊢;exact uB M h
    ·rw[if_neg hlt] at h ⊢;exact h
theorem I_:∀(d:Nat) {S:aH},S.Wf→S.fresh=true→(∃x,S.qs[(S.bf+d) % S.cls.length]?=some x∧x≠[])→∃r,S.gW (d+1)=some r
 | d,S,hw,hf,⟨x,hx,hne⟩=>by
  obtain⟨c,hc⟩:∃c,S.cls[S.bf]?=some c:=⟨_,GE hw.bf⟩
  have hcw:=hw.cls c (ME hc)
  have hql:=hw.qs c (ME hc)
  rw[DR hc]
  cases hq:c.q with
  | cons g q'=>
   have hcost:=wH g.op
   have h1:=hcw.q0;have h2:=hcw.c0
   have hlt:¬(c.c1 S.fresh).cC<eQ g.op:=by
    show ¬(if S.fresh then c.cC+c.kR else c.cC)<_
    rw[hf,if_pos rfl];omega
   simp only[if_neg hlt]
   exact⟨_,Z⟩
  | nil=>
   cases d with
   | zero=>
    rw[vu,Nat.mod_eq_of_lt hw.bf,aH.DX hc] at hx
    rw[←jS hx] at hne
    exact absurd hq hne
   | succ d=>
    have hw':=hw.qL (c':=c.c0) hcw.empty hql Bt
    refine I_ d hw' Z ⟨x,?_,hne⟩
    have e:aH.qs ⟨S.cls.set S.bf c.c0,S.cap,(S.bf+1) % S.cls.length,true⟩=S.qs:=DY hc rfl
    rw[e,←hx]
    congr 1
    simp only[gk]
    rw[Nat.mod_add_mod]
    congr 1;omega
theorem I'{S:aH}(hw:S.Wf)(hi:S.idle=false):∃f S1,S.gW 9=some (f,S1):=by
 have hn4:=hw.n1
 have key:∀{T:aH},T.Wf→T.fresh=true→T.qs=S.qs→∃r,T.gW 4=some r:=by
  intro T hT hf hqs
  obtain⟨c,hc,hne⟩:=vn.1 hi
  obtain⟨j,hj⟩:=vq hc
  have hTn:T.cls.length=S.cls.length:=by have:=congrArg List.length hqs;simpa[aH.qs] using this
  have hjn:=(cH.1 hj).1
  have ht:=hT.bf
  have hx:T.qs[j]?=some c.q:=by rw[hqs,aH.DX hj]
  have hne':c.q≠[]:=fun e=>hne yq
  let d:=(j+T.cls.length-T.bf) % T.cls.length
  have hd:d<T.cls.length:=tM _ hT.n0
  have hdj:(T.bf+d) % T.cls.length=j:=by
   show(T.bf+(j+T.cls.length-T.bf) % T.cls.length) % T.cls.length=j
   rw[Nat.add_mod_mod,show T.bf+(j+T.cls.length-T.bf)=j+T.cls.length from by omega,Nat.add_mod_right]
   exact Nat.mod_eq_of_lt yd
  obtain⟨r,hr⟩:=I_ d hT hf ⟨c.q,by rw[hdj];exact hx,hne'⟩
  refine⟨r,?_⟩
  have:=uB (3-d) hr
  rwa[show d+1+(3-d)=4 from by omega] at this
 have up:∀{T:aH} {r:aA×aH},T.gW 4=some r→T.gW 9=some r:=fun h=>uB 5 h
 cases hf:S.fresh with
 | true=>
  obtain⟨r,hr⟩:=key hw hf rfl
  exact⟨r.1,r.2,up hr⟩
 | false=>
  obtain⟨c,hc⟩:∃c,S.cls[S.bf]?=some c:=⟨_,GE hw.bf⟩
  have hcw:=hw.cls c (ME hc)
  have hql:=hw.qs c (ME hc)
  have same:∀c':cm,c'.q=c.q→(S.cls.set S.bf c').map cm.q=S.qs:=fun c' h'=>DY hc h'
  rw[DR (N:=8) hc]
  cases hq:c.q with
  | nil=>
   have hw':=hw.qL (c':=c.c0) hcw.empty hql Bt
   obtain⟨r,hr⟩:=key hw' rfl (same c.c0 rfl)
   exact⟨r.1,r.2,uB 4 hr⟩
  | cons g q'=>
   have hcost:=wH g.op
   by_cases hlt:(c.c1 S.fresh).cC<eQ g.op
   ·have hw':=hw.qL (c':=c.c1 S.fresh) (hw.c1 hc) hql yd
    obtain⟨r,hr⟩:=key hw' rfl (same (c.c1 S.fresh) rfl)
    simp only[if_pos hlt]
    exact⟨r.1,r.2,uB 4 hr⟩
   ·simp only[if_neg hlt]
    exact⟨_,_,Z⟩
def aH.mI(S:aH):Option (aA×aH):=if S.idle then none else S.gW 9
def rX(p:Nat)(S:aH)(v:Value)(L:List HP):Prop:=match S.mI with
 | none=>v=.tuple #[.agg (aS d_).toArray,.bool false]∧L=[fh p S]
 | some r=>(∃m,v=.tuple #[.agg (aS (r.1,m)).toArray,.bool true])∧L=[fh p r.2]
theorem RW(p:Nat)(S:aH)(hi:S.idle=true):
  aq Tryz.prog 333 [.pointer (some ⟨p,0,none⟩)] Fr w [fh p S] (fun v L=>v=.tuple #[.agg (aS d_).toArray,.bool false]∧L=[fh p S]):=by
 refine TF 107 Tryz.func333 Z ym aw Z Z ?_
 refine CS (CG (VG (VO.alloc Z fun b=>VG (VN ?_))))
 refine VC.bu 1 Z (aY.aO p S) fun s0 h0=>?_
 refine CN (L':=pt b (aS d_) 353::iA p S s0) (aa.perm hU).ah ?_
 refine aj ?_
 refine VG (VV (fun Fr w hF _ hs=>eZ Fr w (hs.ar 1 Z)) Z ?_)
 refine VG (VY 10 false Z (DF L5) ?_)
 refine aj ?_
 refine KL ?_
 refine CC rfl (fun _=>?_) (fun h=>by rw[hi] at h;cases h)
 refine CS (CG (VG (VI (LB (pv:=[]) (aS d_) Z Z Z Z Z) (VG (VT (vs:=aS d_) (cs':=aS d_) 0 Z Z Z Z (NR _) Z Z Z (VG (VN ?_)))))))
 exact CR (al.cJ 2 3 Z Z Z (an.many 0 Z Z) Z (aa.trans aa.tl (uI h0)).ah ⟨rfl,Z⟩)
theorem RU(p:Nat)(S:aH)(hw:S.Wf):aq Tryz.prog 333 [.pointer (some ⟨p,0,none⟩)] Fr w [fh p S] (rX p S):=by
 cases hi:S.idle with
 | true=>
  have:=RW Fr w p S hi
  unfold rX aH.mI
  simpa only[hi,if_true] using this
 | false=>
  obtain⟨f,S1,h⟩:=I' hw hi
  have:=z_ Fr w p S 9 f S1 h hi
  unfold rX aH.mI
  simpa only[hi,h,if_neg (by simp:¬false=true)] using this
theorem DS{S S1:aH}{f:aA}(hw:S.Wf)(h:S.mI=some (f,S1)):∃k q,S.qs[k]?=some (f::q)∧S1.qs=S.qs.set k q∧S1.cap=S.cap∧S1.Wf:=by
 unfold aH.mI at h
 split at h
 ·cases h
 ·exact DQ hw h
theorem RP{S:aH}(hw:S.Wf)(h:S.mI=none):S.idle=true:=by
 unfold aH.mI at h
 split at h
 ·assumption
 ·rename_i hi
  obtain⟨f,S1,h2⟩:=I' hw yk
  rw[h2] at h;cases h
theorem DW{S:aH}(hw:S.Wf)(f:aA):(S.eK f).2.Wf:=by
 unfold aH.eK
 cases ha:S.at_ f.cls with
 | none=>exact hw
 | some c=>
  dsimp only
  split
  ·exact hw
  ·split
   ·rename_i hlt
    unfold aH.at_ at ha
    split at ha
    ·have hcw:=hw.cls c (ME ha)
     exact hw.set ha ⟨hcw.q0,hcw.q1,hcw.c0,hcw.c1,hcw.s0,hcw.s1⟩ ye (hw.low _ c ha)
    ·cases ha
   ·exact hw
theorem R1{S:aH}{f:aA}{k:Nat}{c:cm}(hk:f.cls=k)(hc:S.cls[k]?=some c)(ho:c_ f.op=0):
  S.eK f=if c.q.length<S.cap then (0,S.iP k { c with q:=c.q ++ [f] }) else (60,S):=by
 unfold aH.eK
 rw[hk,aH.Gh,hc]
 dsimp only
 rw[if_neg (fun h=>h ho),fy]
theorem R4{S:aH}{f:aA}{k:Nat}{q:List aA}(hk:f.cls=k)(hc:S.qs[k]?=some q)(ho:c_ f.op=0):
  (S.eK f).1=(if q.length<S.cap then 0 else 60)∧(S.eK f).2.qs=(if q.length<S.cap then S.qs.set k (q ++ [f]) else S.qs)∧(S.eK f).2.cap=S.cap:=by
 unfold aH.qs at hc
 rw[dH] at hc
 cases hcl:S.cls[k]? with
 | none=>rw[hcl] at hc;cases hc
 | some c=>
  rw[hcl] at hc
  obtain rfl:c.q=q:=jS hc
  rw[R1 hk hcl ho]
  split
  ·exact⟨rfl,by simp[aH.qs,aH.iP,gJ],Z⟩
  ·exact⟨rfl,Z,Z⟩
theorem Hq(S:aH)(now:Int):(S.iI now).qs=S.qs.map fun q=>q.filter (stay now):=by simp[aH.qs,aH.iI,cm.ng,Function.comp_def]
theorem Pj(S:aH)(now:Int):S.cY now=S.qs.flatMap fun q=>q.filter (gone now):=by simp[aH.qs,aH.cY,List.flatMap_map]
theorem Hr{S:aH}(hw:S.Wf)(now:Int):(S.iI now).Wf:=by
 refine⟨by simpa[aH.iI] using hw.n0,by simpa[aH.iI] using hw.n1,hw.dh,hw.eN,by simpa[aH.iI] using hw.bf,fun x hx=>?_,fun x hx=>?_,fun k x hx hl=>?_⟩
 ·obtain⟨c,hc,rfl⟩:=eC.1 hx
  exact(hw.cls c hc).exp now
 ·obtain⟨c,hc,rfl⟩:=eC.1 hx
  have:=hw.qs c hc
  have:=nP (stay now) c.q
  show(c.q.filter (stay now)).length≤S.cap
  omega
 ·simp only[aH.iI,dH] at hx
  cases hc:S.cls[k]? with
  | none=>rw[hc] at hx;cases hx
  | some c=>
   rw[hc] at hx
   obtain rfl:c.ng now=x:=jS hx
   have:=hw.low k c hc hl
   show(if c.q.filter (stay now)=[] then 0 else c.cC)≤95
   split<;>omega
end Sched
namespace Conf
open Go Api Vg T Sched
attribute [local irreducible] VO VC VA
def du(qs:List Int):List Value:=qs.map fun q=>.int .i64 q
def kj(a:Option Addr)(cap:Nat)(qs:List Int):HP:=av 3 1 a qs.length cap (du qs)
theorem v8(qs:List Int):(du qs).length=qs.length:=by simp[du]
theorem Px(qs:List Int):(du qs).all Value.oneCell'=true:=by
 rw[kU]
 intro v hv
 obtain⟨q,_,rfl⟩:=eC.1 hv
 rfl
theorem B3{w w':World}{b off:Nat}{v:Value}(hb:w'.heap[b]?=w.heap[b]?)(h:w.cell? ⟨b,off,none⟩=some v):w'.cell? ⟨b,off,none⟩=some v:=by
 rw[←h];unfold World.cell?;rw[hb]
theorem lS{X:Cx}{a:Option Addr}{qs:List Int}(h:fT X.Fr X.w0 a qs){Fr':Nat→Prop}(hF:∀b,X.Fr b→Fr' b){w:World}{L:List HP}(hw:St X L w):fT Fr' w a qs:=⟨fun hne=>by
 obtain⟨b,off,h1,h2,h3⟩:=h.at_ hne
 exact⟨b,off,h1,hF b h2,fun i v hv=>B3 (hw.bL.block b h2) (h3 i v hv)⟩⟩
theorem we{Fr:Nat→Prop}{w:World}{a:Option Addr}{c:Nat}{qs:List Int}(h:aV Fr [kj a c qs] w):fT Fr w a qs:=by
 refine⟨fun hne=>?_⟩
 obtain⟨F,⟨i,G,rfl,hs,rfl⟩,hF⟩:=h
 obtain⟨hc,⟨rfl,h0,_,_⟩ | ⟨b,rest,rfl,rfl,hn,hr,hh⟩⟩:=hs
 ·exact absurd (gI h0) hne
 ·refine⟨b,0,Z,hF b yf,fun i v hv=>?_⟩
  rw[bZ,cell_of_row w b i (du qs++rest).toArray _ _ hh]
  have hi:=(cH.1 hv).1
  have:(du qs++rest)[i]?=some (.int .i64 v):=by
   rw[tJ (by simpa[du] using hi),du,dH,hv];rfl
  simpa using this
theorem Pz{Fr:Nat→Prop}{w:World}{a:Option Addr}{qs:List Int}(h:fT Fr w a qs)(n:Nat):fT Fr w a (qs.take n):=by
 refine⟨fun hne=>?_⟩
 obtain⟨b,off,h1,h2,h3⟩:=h.at_ (fun e=>hne (by rw[e];simp))
 refine⟨b,off,h1,h2,fun i v hv=>h3 i v ?_⟩
 rw[p3] at hv
 split at hv
 ·exact hv
 ·cases hv
def nR(_:Option Addr):Prop:=True
structure bn where
 nodes:Int
 chain:Int
 bt:Int
 qs:List Int
 queue:Int
 gg:Int
 reads:Int
 link:Int
 ei:Int
 timeout:Int
 eR:Int
 dQ:Int
deriving DecidableEq
def bn.cells(c:bn)(a:Option Addr)(cap:Nat):List Value:=[.int .i64 c.nodes,.int .i64 c.chain,.int .i64 c.bt,.slice a c.qs.length cap,.int .i64 c.queue,.int .i64 c.gg,.int .i64 c.reads,.int .i64 c.link,.int .i64 c.ei,.int .i64 c.timeout,.int .i64 c.eR,.int .i64 c.dQ]
def aD(x lo hi:Int):Int:=if (if hi<x then hi else x)<lo then lo else if hi<x then hi else x
theorem kn{x lo hi:Int}(h:lo≤hi):lo≤aD x lo hi∧aD x lo hi≤hi:=by
 unfold aD;split<;>split<;>omega
theorem Q7{x lo hi:Int}(h1:lo≤x)(h2:x≤hi):aD x lo hi=x:=by
 unfold aD;rw[if_neg yd,if_neg yd]
theorem Q6(x lo hi:Int):(if lo<(if hi<x then hi else x) then (if hi<x then hi else x) else lo)=aD x lo hi:=by
 unfold aD;split<;>split<;>omega
def jk(q:Int):Int:=aD q 96 65536
def dL(qs:List Int):List Int:=if qs.take 4=[] then [96] else qs.take 4
def fF(qs:List Int):List Int:=(dL qs).map jk
def ct(c:bn):bn:=⟨aD c.nodes 1 6,aD c.chain 1 (aD c.nodes 1 6),aD c.bt 1 6,fF c.qs,aD c.queue 1 16,aD c.gg 1 16,aD c.reads 1 16,aD c.link 4 64,aD c.ei 4 64,aD c.timeout 4 64,aD c.eR 0 16,aD c.dQ 1 1099511627776⟩
theorem Jd(qs:List Int):1≤(dL qs).length∧(dL qs).length≤4:=by
 unfold dL
 split
 ·simp
 ·rename_i h
  have:=xJ 4 qs
  refine⟨?_,this⟩
  cases hq:qs.take 4 with
  | nil=>exact absurd hq h
  | cons _ _=>simp
theorem wM(qs:List Int):1≤(fF qs).length∧(fF qs).length≤4:=by
 have:=Jd qs
 simpa[fF] using this
theorem NM(x lo hi:Int):aq Tryz.prog 183 [.int .i64 x,.int .i64 lo,.int .i64 hi] Fr w [] (fun v L=>v=.int .i64 (aD x lo hi)∧L=[]):=by
 refine TF 12 Tryz.func183 Z ym aw Z Z ?_
 refine aj ?_
 exact CR (al.int 6 Z Z Z ER ⟨rfl,Z⟩)
theorem mV{b off t:Nat}{cs:List Value}{x:Int}(lo hi:Int)(hx:cs[off]?=some (.int .i64 x)):
  aq Tryz.prog 182 [.pointer (some ⟨b,off,none⟩),.int .i64 lo,.int .i64 hi] Fr w [pt b cs t] (fun v L=>v=.tuple #[]∧L=[pt b (cs.set off (.int .i64 (aD x lo hi))) t]):=by
 refine TF 14 Tryz.func182 Z ym aw Z Z ?_
 refine CG ?_
 refine VG (VO.ld 0 Z Z Z hx ?_)
 refine VG (VO.iY (fun Fr w=>NM Fr w x lo hi) Z ?_)
 refine VG (VO.st 0 Z Z Z Z (cH.1 hx).1 Z Z (VG (VN ?_)))
 exact tu
theorem Ca(a:Option Addr)(cap:Nat)(qs:List Int)(hq:fT Fr w a qs)(hl:qs.length≤1000):aq Tryz.prog 184 [.slice a qs.length cap] Fr w []
  (fun v L=>∃a' cap',v=.slice a' qs.length cap'∧L=[kj a' cap' qs]):=by
 refine TF 8 Tryz.func184 Z ym aw Z Z ?_
 cases ha:a with
 | none=>
  have hnil:qs=[]:=by
   cases hqs:qs with
   | nil=>rfl
   | cons x xs=>
    obtain⟨b,off,h1,_⟩:=hq.at_ (by rw[hqs];simp)
    rw[ha] at h1;cases h1
  subst hnil
  refine pU ?_
  exact CR (al.tmp 2 Z Z (aa.cN aa.refl).ah ⟨none,0,Z,Z⟩)
 | some ad=>
  refine pT ?_
  refine VG (VO.buildSlice (n:=0) (pv:=[]) [] Z Z Z Z yn Z fun nb=>?_)
  refine VO.ah (L':=[av 3 1 (some ⟨nb,0,none⟩) 0 0 []]) (aa.sl (cs:=[]) (rest:=[]) Z (NR _) Z aa.refl).ah ?_
  refine VG (VO.append (m:=qs.length) (news:=du qs) 0 Z Z Z Z Z Z Z ?_ (Px qs) (by show(0+qs.length)*8≤_;omega) yd fun a' c' hc'=>VG (VN ?_))
  ·by_cases hne:qs=[]
   ·subst hne
    exact⟨rfl,.inl ⟨some ad,cap,Z,Z⟩⟩
   ·obtain⟨b,off,h1,h2,h3⟩:=hq.at_ hne
    rw[ha] at h1
    cases h1
    refine⟨by simp[du],.inr ⟨b,off,cap,Z,fun w' hw' j v hv=>?_⟩⟩
    rw[du,dH] at hv
    cases hj:qs[j]? with
    | none=>rw[hj] at hv;cases hv
    | some x=>
     rw[hj] at hv
     obtain rfl:=jS hv
     exact B3 (hw'.bL.block b h2) (h3 j x hj)
  ·exact CR (al.tmp 2 Z Z (aa.of_eq (by rw[bZ];rfl)).ah ⟨a',c',by rw[bZ],Z⟩)
theorem OJ(a b:Option Addr)(ca cb:Nat)(qs ps:List Int)(hq:fT Fr w a qs)(hp:fT Fr w b ps)(hl:ps.length≤1000):aq Tryz.prog 145 [.slice a qs.length ca,.slice b ps.length cb] Fr w []
  (fun v L=>v=.bool (decide (qs=ps))∧L=[]):=by
 refine TF 26 Tryz.func145 Z ym aw Z Z ?_
 refine aj ?_
 refine VC.dd Z (fun h1=>?_) (fun h1=>CK ?_)
 ·refine aj ?_
  exact CR (al.bool 4 Z Z (by symm;apply DF;intro e;exact h1 oJ) ER ⟨rfl,Z⟩)
 have h1:qs.length=ps.length:=by omega
 refine aj ?_
 refine VC.loop (σ:=Nat) (fun i=>[(0,.slice a qs.length ca),(1,.slice b ps.length cb),(12,.int .i64 qs.length),(13,.int .i64 i)]) (fun _=>[]) (fun i=>i≤qs.length∧∀j,j<i→qs[j]?=ps[j]?) (fun i=>qs.length-i) 0 ⟨bK _,fun j hj=>by omega⟩ aF ER ?_
 rintro i ⟨hi,hall⟩
 refine aj ?_
 refine CP Z (fun h2=>CK ?_) (fun h2=>CX ?_)
 ·have hi1:i<qs.length:=by omega
  have hi2:i<ps.length:=by omega
  obtain⟨qb,qo,rfl,hFq,hcq⟩:=hq.at_ (fun e=>by rw[e] at hi1;simp at hi1)
  obtain⟨pb,po,rfl,hFp,hcp⟩:=hp.at_ (fun e=>by rw[e] at hi2;simp at hi2)
  have e1:=GE hi1
  have e2:=GE hi2
  generalize qs[i]=x at e1
  generalize ps[i]=y at e2
  refine CS (VC.block ?_)
  refine ku ?_
  refine CS (CD (ts 0 9 .nil) ym yo ?_)
  refine bg ?_
  refine AG (AI Z (dU i Z Z Z Z Z Z hi1) ?_)
  refine AG (VA.load Z Z Z (an.rd (v:=.int .i64 x) hFq (by show w.cell? ⟨qb,qo+i*1,none⟩=_;rw[oO];exact hcq i x e1)) ?_)
  refine bg ?_
  refine AG (AI Z (dU i Z Z Z Z Z Z hi2) ?_)
  refine AG (VA.load Z Z Z (an.rd (v:=.int .i64 y) hFp (by show w.cell? ⟨pb,po+i*1,none⟩=_;rw[oO];exact hcp i y e2)) ?_)
  refine bg ?_
  refine VC.dd Z (fun h3=>?_) (fun h3=>CK ?_)
  ·refine aj ?_
   exact CR (al.bool 4 Z Z (by symm;apply DF;intro e;rw[e,e2] at e1;exact h3 (jS e1).symm) ER ⟨rfl,Z⟩)
  refine gG ?_
  refine⟨i+1,⟨hi1,fun j hj=>?_⟩,by dsimp only;omega,aF,ER⟩
  by_cases hji:j=i
  ·subst hji;rw[e1,e2,h3]
  ·exact hall j yd
 ·have hi1:i=qs.length:=by omega
  subst hi1
  refine aj ?_
  refine CR (al.bool 4 Z Z (by
   symm;apply DT
   apply oL
   intro j
   by_cases hj:j<qs.length
   ·exact hall j hj
   ·rw[mQ yd,mQ yd]) ER ⟨rfl,rfl⟩)
def lA(qs:List Int)(i:Nat):List Int:=(qs.take i).map jk++qs.drop i
theorem QW(qs:List Int)(i:Nat):(lA qs i).length=qs.length:=by simp[lA];omega
theorem QV{qs:List Int}{i:Nat}{x:Int}(h:qs[i]?=some x):(lA qs i)[i]?=some x:=by
 have hi:=(cH.1 h).1
 rw[lA,vp ye]
 simp only[dW,iT,qZ]
 rw[←h];congr 1;omega
theorem QX{qs:List Int}{i:Nat}{x:Int}(h:qs[i]?=some x):(lA qs i).set i (jk x)=lA qs (i+1):=by
 have hi:=(cH.1 h).1
 rw[lA,lA,fS,h,List.set_append_right _ _ ye]
 have h2:qs.drop i=x::qs.drop (i+1):=by
  rw[xG hi,(cH.1 h).2]
 rw[h2]
 have h3:i-((qs.take i).map jk).length=0:=by simp;omega
 rw[h3];simp
theorem OX(c:bn)(a:Option Addr)(cap:Nat)(hq:fT Fr w a c.qs)(ha:nR a)(hcap:c.qs.length≤cap):aq Tryz.prog 144 [.agg (c.cells a cap).toArray] Fr w []
  (fun v L=>∃a' cap',nR a'∧(ct c).qs.length≤cap'∧v=.agg ((ct c).cells a' cap').toArray∧L=[kj a' cap' (ct c).qs]):=by
 refine TF 69 Tryz.func144 Z ym aw Z Z ?_
 refine CS (CG (VG (VB (vs:=c.cells a cap) Z fun x=>VG (VO.alloc Z fun r=>VG (VN ?_)))))
 obtain⟨c0,c1,c2,qs,c4,c5,c6,c7,c8,c9,c10,c11⟩:=c
 dsimp only at hq hcap
 refine ku ?_
 refine CS (CG ?_)
 refine VG (VO.mW 1 (ψ:=fun v H=>H=pt x [.int .i64 (aD c0 1 6),.int .i64 c1,.int .i64 c2,.slice a qs.length cap,.int .i64 c4,.int .i64 c5,.int .i64 c6,.int .i64 c7,.int .i64 c8,.int .i64 c9,.int .i64 c10,.int .i64 c11] 24) Z Z (fun Fr w _ _ _=>mV Fr w _ _ Z) Z (fun v L1 h=>⟨_,h.2,Z⟩) ?_)
 rintro _ _ rfl
 refine qU ?_
 refine uX ?_
 refine VG (VO.mW 1 (ψ:=fun v H=>H=pt x [.int .i64 (aD c0 1 6),.int .i64 (aD c1 1 (aD c0 1 6)),.int .i64 c2,.slice a qs.length cap,.int .i64 c4,.int .i64 c5,.int .i64 c6,.int .i64 c7,.int .i64 c8,.int .i64 c9,.int .i64 c10,.int .i64 c11] 24) Z Z (fun Fr w _ _ _=>mV Fr w _ _ Z) Z (fun v L1 h=>⟨_,h.2,Z⟩) ?_)
 rintro _ _ rfl
 refine qU ?_
 refine VG (VO.mW 1 (ψ:=fun v H=>H=pt x [.int .i64 (aD c0 1 6),.int .i64 (aD c1 1 (aD c0 1 6)),.int .i64 (aD c2 1 6),.slice a qs.length cap,.int .i64 c4,.int .i64 c5,.int .i64 c6,.int .i64 c7,.int .i64 c8,.int .i64 c9,.int .i64 c10,.int .i64 c11] 24) Z Z (fun Fr w _ _ _=>mV Fr w _ _ Z) Z (fun v L1 h=>⟨_,h.2,Z⟩) ?_)
 rintro _ _ rfl
 refine jr ?_
 have ht4:=xJ 4 qs
 refine CS (CG (VG (VO.ld 1 Z Z Z Z (VG (VO.ld 1 Z Z Z Z ?_)))))
 refine VG (VI (C_ (qs.take 4).length Z Z Z Z Z (by rw[iT];split<;>omega) FG) ?_)
 refine VG (VK (Lc:=[]) (fun Fr w hF hs _=>Ca Fr w a cap (qs.take 4) (Pz (lS hq hF hs) 4) yd) Z Z ?_)
 rintro _ _ ⟨a1,eN,rfl,rfl⟩
 refine VG (VO.st 2 Z Z Z Z u9 Z Z (VG (VN ?_)))
 have hf1:=Jd qs
 refine VC.meet (σ:=Nat×Nat×List Value) (fun _=>[(1,pV x),(2,pV r),(3,.func (.func 182) #[] #[])])
  (fun y=>[pt y.1 (du (dL qs)++y.2.2) 3,pt r T.t24.zs 24,pt x [.int .i64 (aD c0 1 6),.int .i64 (aD c1 1 (aD c0 1 6)),.int .i64 (aD c2 1 6),.slice (some ⟨y.1,0,none⟩) (dL qs).length y.2.1,.int .i64 c4,.int .i64 c5,.int .i64 c6,.int .i64 c7,.int .i64 c8,.int .i64 c9,.int .i64 c10,.int .i64 c11] 24]) (fun y=>(dL qs).length≤y.2.1∧(du (dL qs)++y.2.2).length=y.2.1) ?_ ?_
 ·refine CS (CG (VG (VO.ld 2 Z Z Z Z (VG (VN ?_)))))
  refine CE Z (fun hz=>?_) (fun hz=>?_)
  ·have hz:qs.take 4=[]:=gI yd
   have hqf:dL qs=[96]:=by unfold dL;rw[if_pos hz]
   refine CG (VG (VO.buildSlice (n:=1) (pv:=[(0,.int .i64 96)]) [.int .i64 96] Z Z Z Z yn Z fun nb=>?_))
   refine VG (VO.st 3 Z Z Z Z u9 Z Z (VG (VN ?_)))
   refine⟨(nb,1,[]),⟨by rw[hqf];exact NR 1,by rw[hqf];rfl⟩,aF,?_⟩
   rw[hqf]
   exact(aa.cons aa.tl).ah
  ·have hz:¬qs.take 4=[]:=fun e=>hz yq
   have hqf:dL qs=qs.take 4:=by unfold dL;rw[if_neg hz]
   refine VC.bu 0 Z (aY.sl 3 1 a1 (qs.take 4).length eN (du (qs.take 4))) fun y hy=>CK ?_
   obtain⟨h1,h2,h3⟩:=hy
   cases y with
   | none=>
    obtain⟨_,h5,_⟩:=h3
    exact absurd (gI h5) hz
   | some y=>
    obtain⟨b1,rest⟩:=y
    obtain⟨rfl,h4⟩:=h3
    refine⟨(b1,eN,rest),⟨by rw[hqf];exact h2,by rw[hqf];simpa using h4⟩,aF,?_⟩
    rw[hqf]
    exact ER
 rintro⟨qb,qcap,rest⟩ ⟨hqc,hrest⟩
 dsimp only at hqc hrest ⊢
 refine gh ?_
 refine VC.loop (σ:=Nat) (fun i=>[(1,pV x),(2,pV r),(3,.func (.func 182) #[] #[]),(33,.int .i64 (dL qs).length),(34,.int .i64 i)])
  (fun i=>[pt qb (du (lA (dL qs) i)++rest) 3,pt r T.t24.zs 24,pt x [.int .i64 (aD c0 1 6),.int .i64 (aD c1 1 (aD c0 1 6)),.int .i64 (aD c2 1 6),.slice (some ⟨qb,0,none⟩) (dL qs).length qcap,.int .i64 c4,.int .i64 c5,.int .i64 c6,.int .i64 c7,.int .i64 c8,.int .i64 c9,.int .i64 c10,.int .i64 c11] 24]) (fun i=>i≤(dL qs).length) (fun i=>4-i) 0 (bK _) aF ER ?_
 intro i hi
 refine aj ?_
 refine CP Z (fun h1=>CK ?_) (fun h1=>CX ?_)
 ·have hi2:i<(dL qs).length:=by omega
  have hy:=GE hi2
  generalize (dL qs)[i]=y at hy
  have hc:(du (lA (dL qs) i)++rest)[0+i*1]?=some (.int .i64 y):=by
   rw[bZ,oO,tJ L6,du,dH,QV hy];rfl
  have hset:(du (lA (dL qs) i)++rest).set (0+i*1) (.int .i64 (aD y 96 65536))=du (lA (dL qs) (i+1))++rest:=by
   rw[bZ,oO,List.set_append_left _ _ L6,du,←QX hy,du,gJ];rfl
  refine gh ?_
  refine KD ?_
  refine VG (VO.mW 0 (ψ:=fun v H=>H=pt qb (du (lA (dL qs) (i+1))++rest) 3) Z Z (fun Fr w _ _ _=>mV Fr w _ _ hc) Z (fun v L1 h=>⟨_,h.2,by rw[hset]⟩) ?_)
  rintro _ _ rfl
  refine jr ?_
  refine gG ?_
  exact⟨i+1,hi2,by dsimp only;omega,aF,ER⟩
 have hi2:i=(dL qs).length:=by omega
 subst hi2
 refine CS (CG ?_)
 refine VG (VO.mW 2 (ψ:=fun v H=>H=pt x [.int .i64 (aD c0 1 6),.int .i64 (aD c1 1 (aD c0 1 6)),.int .i64 (aD c2 1 6),.slice (some ⟨qb,0,none⟩) (dL qs).length qcap,.int .i64 (aD c4 1 16),.int .i64 c5,.int .i64 c6,.int .i64 c7,.int .i64 c8,.int .i64 c9,.int .i64 c10,.int .i64 c11] 24) Z Z (fun Fr w _ _ _=>mV Fr w _ _ Z) Z (fun v L1 h=>⟨_,h.2,Z⟩) ?_)
 rintro _ _ rfl
 refine qU ?_
 refine VG (VO.mW 2 (ψ:=fun v H=>H=pt x [.int .i64 (aD c0 1 6),.int .i64 (aD c1 1 (aD c0 1 6)),.int .i64 (aD c2 1 6),.slice (some ⟨qb,0,none⟩) (dL qs).length qcap,.int .i64 (aD c4 1 16),.int .i64 (aD c5 1 16),.int .i64 c6,.int .i64 c7,.int .i64 c8,.int .i64 c9,.int .i64 c10,.int .i64 c11] 24) Z Z (fun Fr w _ _ _=>mV Fr w _ _ Z) Z (fun v L1 h=>⟨_,h.2,Z⟩) ?_)
 rintro _ _ rfl
 refine qU ?_
 refine VG (VO.mW 2 (ψ:=fun v H=>H=pt x [.int .i64 (aD c0 1 6),.int .i64 (aD c1 1 (aD c0 1 6)),.int .i64 (aD c2 1 6),.slice (some ⟨qb,0,none⟩) (dL qs).length qcap,.int .i64 (aD c4 1 16),.int .i64 (aD c5 1 16),.int .i64 (aD c6 1 16),.int .i64 c7,.int .i64 c8,.int .i64 c9,.int .i64 c10,.int .i64 c11] 24) Z Z (fun Fr w _ _ _=>mV Fr w _ _ Z) Z (fun v L1 h=>⟨_,h.2,Z⟩) ?_)
 rintro _ _ rfl
 refine qU ?_
 refine VG (VO.mW 2 (ψ:=fun v H=>H=pt x [.int .i64 (aD c0 1 6),.int .i64 (aD c1 1 (aD c0 1 6)),.int .i64 (aD c2 1 6),.slice (some ⟨qb,0,none⟩) (dL qs).length qcap,.int .i64 (aD c4 1 16),.int .i64 (aD c5 1 16),.int .i64 (aD c6 1 16),.int .i64 (aD c7 4 64),.int .i64 c8,.int .i64 c9,.int .i64 c10,.int .i64 c11] 24) Z Z (fun Fr w _ _ _=>mV Fr w _ _ Z) Z (fun v L1 h=>⟨_,h.2,Z⟩) ?_)
 rintro _ _ rfl
 refine qU ?_
 refine VG (VO.mW 2 (ψ:=fun v H=>H=pt x [.int .i64 (aD c0 1 6),.int .i64 (aD c1 1 (aD c0 1 6)),.int .i64 (aD c2 1 6),.slice (some ⟨qb,0,none⟩) (dL qs).length qcap,.int .i64 (aD c4 1 16),.int .i64 (aD c5 1 16),.int .i64 (aD c6 1 16),.int .i64 (aD c7 4 64),.int .i64 (aD c8 4 64),.int .i64 c9,.int .i64 c10,.int .i64 c11] 24) Z Z (fun Fr w _ _ _=>mV Fr w _ _ Z) Z (fun v L1 h=>⟨_,h.2,Z⟩) ?_)
 rintro _ _ rfl
 refine qU ?_
 refine VG (VO.mW 2 (ψ:=fun v H=>H=pt x [.int .i64 (aD c0 1 6),.int .i64 (aD c1 1 (aD c0 1 6)),.int .i64 (aD c2 1 6),.slice (some ⟨qb,0,none⟩) (dL qs).length qcap,.int .i64 (aD c4 1 16),.int .i64 (aD c5 1 16),.int .i64 (aD c6 1 16),.int .i64 (aD c7 4 64),.int .i64 (aD c8 4 64),.int .i64 (aD c9 4 64),.int .i64 c10,.int .i64 c11] 24) Z Z (fun Fr w _ _ _=>mV Fr w _ _ Z) Z (fun v L1 h=>⟨_,h.2,Z⟩) ?_)
 rintro _ _ rfl
 refine qU ?_
 refine VG (VO.mW 2 (ψ:=fun v H=>H=pt x [.int .i64 (aD c0 1 6),.int .i64 (aD c1 1 (aD c0 1 6)),.int .i64 (aD c2 1 6),.slice (some ⟨qb,0,none⟩) (dL qs).length qcap,.int .i64 (aD c4 1 16),.int .i64 (aD c5 1 16),.int .i64 (aD c6 1 16),.int .i64 (aD c7 4 64),.int .i64 (aD c8 4 64),.int .i64 (aD c9 4 64),.int .i64 (aD c10 0 16),.int .i64 c11] 24) Z Z (fun Fr w _ _ _=>mV Fr w _ _ Z) Z (fun v L1 h=>⟨_,h.2,Z⟩) ?_)
 rintro _ _ rfl
 refine qU ?_
 refine VG (VO.mW 2 (ψ:=fun v H=>H=pt x [.int .i64 (aD c0 1 6),.int .i64 (aD c1 1 (aD c0 1 6)),.int .i64 (aD c2 1 6),.slice (some ⟨qb,0,none⟩) (dL qs).length qcap,.int .i64 (aD c4 1 16),.int .i64 (aD c5 1 16),.int .i64 (aD c6 1 16),.int .i64 (aD c7 4 64),.int .i64 (aD c8 4 64),.int .i64 (aD c9 4 64),.int .i64 (aD c10 0 16),.int .i64 (aD c11 1 1099511627776)] 24) Z Z (fun Fr w _ _ _=>mV Fr w _ _ Z) Z (fun v L1 h=>⟨_,h.2,Z⟩) ?_)
 rintro _ _ rfl
 refine jr ?_
 have hmix:lA (dL qs) (dL qs).length=fF qs:=by simp[lA,fF]
 have hql:(dL qs).length=(fF qs).length:=by simp[fF]
 rw[hmix]
 refine CS (CG (VG (VL 2 [.int .i64 (aD c0 1 6),.int .i64 (aD c1 1 (aD c0 1 6)),.int .i64 (aD c2 1 6),.slice (some ⟨qb,0,none⟩) (dL qs).length qcap,.int .i64 (aD c4 1 16),.int .i64 (aD c5 1 16),.int .i64 (aD c6 1 16),.int .i64 (aD c7 4 64),.int .i64 (aD c8 4 64),.int .i64 (aD c9 4 64),.int .i64 (aD c10 0 16),.int .i64 (aD c11 1 1099511627776)] Z Z Z Z ?_)))
 refine VG (VT (vs:=[.int .i64 (aD c0 1 6),.int .i64 (aD c1 1 (aD c0 1 6)),.int .i64 (aD c2 1 6),.slice (some ⟨qb,0,none⟩) (dL qs).length qcap,.int .i64 (aD c4 1 16),.int .i64 (aD c5 1 16),.int .i64 (aD c6 1 16),.int .i64 (aD c7 4 64),.int .i64 (aD c8 4 64),.int .i64 (aD c9 4 64),.int .i64 (aD c10 0 16),.int .i64 (aD c11 1 1099511627776)]) (cs':=[.int .i64 (aD c0 1 6),.int .i64 (aD c1 1 (aD c0 1 6)),.int .i64 (aD c2 1 6),.slice (some ⟨qb,0,none⟩) (dL qs).length qcap,.int .i64 (aD c4 1 16),.int .i64 (aD c5 1 16),.int .i64 (aD c6 1 16),.int .i64 (aD c7 4 64),.int .i64 (aD c8 4 64),.int .i64 (aD c9 4 64),.int .i64 (aD c10 0 16),.int .i64 (aD c11 1 1099511627776)]) 1 Z Z Z Z (NR _) Z Z Z (VG (VN ?_)))
 refine CR (al.cell 2 Z Z Z (an.many 1 Z Z) (L':=[kj (some ⟨qb,0,none⟩) qcap (fF qs)]) ?_ ⟨some ⟨qb,0,none⟩,qcap,trivial,by show(fF qs).length≤_;omega,?_,Z⟩)
 ·refine(aa.sl (b:=qb) (rest:=rest) (by rw[v8,oO]) yd (by rw[←hrest,oO,a_,a_,v8,v8,hql]) (aa.app (L:=[_]) (M:=[_]) aa.refl aa.nil)).ah
 ·rw[hql];rfl
end Conf
namespace Conf
open Go Api Vg T Sched
attribute [local irreducible] VO VC VA
def jz(c:bn):Int:=if c=ct c then 0 else 2
theorem G3{c d:bn}(h0:c.nodes=d.nodes)(h1:c.chain=d.chain)(h2:c.bt=d.bt)(h3:c.qs=d.qs)(h4:c.queue=d.queue)(h5:c.gg=d.gg)(h6:c.reads=d.reads)(h7:c.link=d.link)(h8:c.ei=d.ei)(h9:c.timeout=d.timeout)(h10:c.eR=d.eR)(h11:c.dQ=d.dQ):c=d:=by
 cases c;cases d;simp_all
theorem gq(c:bn)(a:Option Addr)(cap:Nat)(hq:fT Fr w a c.qs)(ha:nR a)(hcap:c.qs.length≤cap):aq Tryz.prog 91 [.agg (c.cells a cap).toArray] Fr w []
  (fun v L=>v=.int .i64 (jz c)∧L=[]):=by
 refine TF 91 Tryz.func91 Z ym aw Z Z ?_
 refine CS (CG (VG (VB (vs:=c.cells a cap) Z fun x=>VG (VN ?_))))
 refine CS (CG (VG (VL 0 (c.cells a cap) Z Z Z Z ?_)))
 refine VG (VK (Lc:=[]) (fun Fr w hF hs _=>OX Fr w c a cap (lS hq hF hs) ha hcap) Z Z ?_)
 rintro _ _ ⟨a',cap',ha',hcap',rfl,rfl⟩
 refine VG (VO.alloc Z fun f=>VG (VT (vs:=(ct c).cells a' cap') (cs':=(ct c).cells a' cap') 0 Z Z Z Z (NR _) Z Z Z (VG (VN ?_))))
 refine VC.meet (σ:=Bool) (fun b=>[(4,.bool b)]) (fun _=>[]) (fun b=>b=decide (c=ct c)) ?_ ?_
 rotate_left
 ·rintro b rfl
  refine CS (CS (CG (VG (VN ?_))))
  refine VC.ey Z (fun h=>?_) (fun h=>CK ?_)
  ·have h:=of_decide_eq_false h
   refine aj ?_
   exact CR (al.int 2 Z Z (by rw[jz,if_neg h]) ER ⟨rfl,Z⟩)
  ·have h:=of_decide_eq_true h
   refine aj ?_
   exact CR (al.int 2 Z Z (by rw[jz,if_pos h]) ER ⟨rfl,Z⟩)
 refine CG ?_
 refine nI ?_
 refine VG (VO.split 12 Z Z (fun h0=>?_) (fun h0=>?_))
 rotate_left
 ·refine VG (VY 19 false Z Z ?_)
  refine VG (VY 26 false Z Z ?_)
  refine VG (VY 33 false Z Z ?_)
  refine uT ?_
  refine xm ?_
  refine ve ?_
  refine VG (VN ⟨false,?_,aF,aa.nil.ah⟩)
  show false=decide _;symm;apply DF;intro e
  exact(beq_eq_false_iff_ne.1 h0) (congrArg bn.nodes e)
 refine nI ?_
 refine VG (VO.split 19 Z Z (fun h1=>?_) (fun h1=>?_))
 rotate_left
 ·refine VG (VY 26 false Z Z ?_)
  refine VG (VY 33 false Z Z ?_)
  refine uT ?_
  refine xm ?_
  refine ve ?_
  refine VG (VN ⟨false,?_,aF,aa.nil.ah⟩)
  show false=decide _;symm;apply DF;intro e
  exact(beq_eq_false_iff_ne.1 h1) (congrArg bn.chain e)
 refine nI ?_
 refine VG (VO.split 26 Z Z (fun h2=>?_) (fun h2=>?_))
 rotate_left
 ·refine VG (VY 33 false Z Z ?_)
  refine uT ?_
  refine xm ?_
  refine ve ?_
  refine VG (VN ⟨false,?_,aF,aa.nil.ah⟩)
  show false=decide _;symm;apply DF;intro e
  exact(beq_eq_false_iff_ne.1 h2) (congrArg bn.bt e)
 refine nI ?_
 refine VG (VV (fun Fr w hF hs h2=>OJ Fr w a a' cap cap' c.qs (ct c).qs (lS hq hF hs) (we (h2.at_ 1 Z)) (by have:=(wM c.qs).2;show(fF c.qs).length≤1000;omega)) Z ?_)
 refine VG (VO.split 33 Z Z (fun h3=>?_) (fun h3=>?_))
 rotate_left
 ·refine uT ?_
  refine xm ?_
  refine ve ?_
  refine VG (VN ⟨false,?_,aF,aa.nil.ah⟩)
  show false=decide _;symm;apply DF;intro e
  exact(of_decide_eq_false h3) (congrArg bn.qs e)
 refine nI ?_
 refine VG (VO.split 40 Z Z (fun h4=>?_) (fun h4=>?_))
 rotate_left
 ·refine xm ?_
  refine ve ?_
  refine VG (VN ⟨false,?_,aF,aa.nil.ah⟩)
  show false=decide _;symm;apply DF;intro e
  exact(beq_eq_false_iff_ne.1 h4) (congrArg bn.queue e)
 refine nI ?_
 refine VG (VO.split 47 Z Z (fun h5=>?_) (fun h5=>?_))
 rotate_left
 ·refine ve ?_
  refine VG (VN ⟨false,?_,aF,aa.nil.ah⟩)
  show false=decide _;symm;apply DF;intro e
  exact(beq_eq_false_iff_ne.1 h5) (congrArg bn.gg e)
 refine nI ?_
 refine VG (VO.split 54 Z Z (fun h6=>?_) (fun h6=>?_))
 rotate_left
 ·refine MI ?_
  refine VG (VN ⟨false,?_,aF,aa.nil.ah⟩)
  show false=decide _;symm;apply DF;intro e
  exact(beq_eq_false_iff_ne.1 h6) (congrArg bn.reads e)
 refine nI ?_
 refine VG (VO.split 61 Z Z (fun h7=>?_) (fun h7=>?_))
 rotate_left
 ·refine MG ?_
  refine VG (VN ⟨false,?_,aF,aa.nil.ah⟩)
  show false=decide _;symm;apply DF;intro e
  exact(beq_eq_false_iff_ne.1 h7) (congrArg bn.link e)
 refine nI ?_
 refine VG (VO.split 68 Z Z (fun h8=>?_) (fun h8=>?_))
 rotate_left
 ·refine MD ?_
  refine VG (VN ⟨false,?_,aF,aa.nil.ah⟩)
  show false=decide _;symm;apply DF;intro e
  exact(beq_eq_false_iff_ne.1 h8) (congrArg bn.ei e)
 refine nI ?_
 refine VG (VO.split 75 Z Z (fun h9=>?_) (fun h9=>?_))
 rotate_left
 ·refine KN ?_
  refine VG (VN ⟨false,?_,aF,aa.nil.ah⟩)
  show false=decide _;symm;apply DF;intro e
  exact(beq_eq_false_iff_ne.1 h9) (congrArg bn.timeout e)
 refine nI ?_
 refine VG (VO.split 82 Z Z (fun h10=>?_) (fun h10=>?_))
 rotate_left
 ·refine VG (VN ⟨false,?_,aF,aa.nil.ah⟩)
  show false=decide _;symm;apply DF;intro e
  exact(beq_eq_false_iff_ne.1 h10) (congrArg bn.eR e)
 refine nI ?_
 refine VG (VN ⟨(c.dQ == (ct c).dQ),?_,aF,aa.nil.ah⟩)
 show(c.dQ == (ct c).dQ)=decide _
 rw[Bool.eq_iff_iff,beq_iff_eq,decide_eq_true_iff]
 refine⟨fun h11=>G3 (eq_of_beq h0) (eq_of_beq h1) (eq_of_beq h2) (of_decide_eq_true h3) (eq_of_beq h4) (eq_of_beq h5) (eq_of_beq h6) (eq_of_beq h7) (eq_of_beq h8) (eq_of_beq h9) (eq_of_beq h10) h11,fun e=>congrArg bn.dQ e⟩
theorem gX(x lo hi:Int):aq Tryz.prog 15 [.int .i64 x,.int .i64 lo,.int .i64 hi] Fr w [] (fun v L=>v=.int .i64 (aD x lo hi)∧L=[]):=by
 refine TF 12 Tryz.func15 Z ym aw Z Z ?_
 refine aj ?_
 exact CR (al.int 6 Z Z (Q6 x lo hi) ER ⟨rfl,Z⟩)
theorem Qg{X:Cx}(hX:X.tab=tab){e:Env}{parts:Array (Nat×Operand)}{x0 x1 x2 x4 x5 x6 x7 x8 x9 x10 x11:Int}
  (hp:lR e parts.toList=some [(0,.int .i64 x0),(1,.int .i64 x1),(2,.int .i64 x2),(4,.int .i64 x4),(5,.int .i64 x5),(6,.int .i64 x6),(7,.int .i64 x7),(8,.int .i64 x8),(9,.int .i64 x9),(10,.int .i64 x10),(11,.int .i64 x11)]):
  eD X (.build 24 parts) e (.agg ([.int .i64 x0,.int .i64 x1,.int .i64 x2,.slice none 0 0,.int .i64 x4,.int .i64 x5,.int .i64 x6,.int .i64 x7,.int .i64 x8,.int .i64 x9,.int .i64 x10,.int .i64 x11]:List Value).toArray):=
 LB _ (by rw[hX];rfl) rfl hp ym rfl
theorem aY.F7(el esz:Nat)(a:Option Addr)(n cap:Nat)(cs:List Value):aY (ι:=Unit) (av el esz a n cap cs) (fun _=>nR a) (fun _=>[av el esz a n cap cs]):=by
 intro w ids h hn
 exact⟨(),trivial,ids,⟨ids,[],by simp,h,Z⟩,hn,fun b h=>h⟩
structure MM(qs:List Int)(x:Nat×Option Addr×Nat):Prop where
 le:x.1≤(qs.take 4).length
 room:x.1≤x.2.2
theorem Sl(c:bn)(a:Option Addr)(cap:Nat)(hq:fT Fr w a c.qs):aq Tryz.prog 9 [.agg (c.cells a cap).toArray] Fr w []
  (fun v L=>∃a' cap',nR a'∧(ct c).qs.length≤cap'∧v=.agg ((ct c).cells a' cap').toArray∧L=[kj a' cap' (ct c).qs]):=by
 refine TF 74 Tryz.func9 Z ym aw Z Z ?_
 refine CS (CG (VG (VB (vs:=c.cells a cap) Z fun x=>VG (VO.alloc Z fun r=>VG (VN ?_)))))
 refine CS (CG (VG (VO.ld 1 Z Z Z Z ?_)))
 refine VG (VO.iY (fun Fr w=>gX Fr w c.nodes 1 6) Z (VG (VN ?_)))
 refine VC.meet (σ:=Nat) (fun d=>[(1,pV x),(2,pV r),(4,pV d)])
  (fun d=>[pt d [.int .i64 (aD c.nodes 1 6),.int .i64 (aD c.chain 1 (aD c.nodes 1 6)),.int .i64 (aD c.bt 1 6),.slice none 0 0,.int .i64 (aD c.queue 1 16),.int .i64 (aD c.gg 1 16),.int .i64 (aD c.reads 1 16),.int .i64 (aD c.link 4 64),.int .i64 (aD c.ei 4 64),.int .i64 (aD c.timeout 4 64),.int .i64 (aD c.eR 0 16),.int .i64 (aD c.dQ 1 1099511627776)] 24,pt r T.t24.zs 24,pt x (c.cells a cap) 24]) (fun _=>True) ?_ ?_
 ·refine CD (.take 0 (.take 1 (.take 2 (.take 3 (.take 5 (.take 6 (.take 8 (.take 9 (.take 11 (.take 12 (.take 14 (.take 15 (.take 17 (.take 18 (.take 20 (.take 21 (.take 23 (.take 24 (.take 26 (.take 27 (.take 29 (.take 30 (.two 4 33 (.two 7 33 (.two 10 33 (.two 13 33 (.two 16 33 (.two 19 33 (.two 22 33 (.two 25 33 (.two 28 33 (.two 31 33 (.take 32 (.only 33 (.only 34 .nil))) (.only 31 (.take 32 (.only 34 .nil)))) (.only 28 (.only 31 (.take 32 (.only 34 .nil))))) (.only 25 (.only 28 (.only 31 (.take 32 (.only 34 .nil)))))) (.only 22 (.only 25 (.only 28 (.only 31 (.take 32 (.only 34 .nil))))))) (.only 19 (.only 22 (.only 25 (.only 28 (.only 31 (.take 32 (.only 34 .nil)))))))) (.only 16 (.only 19 (.only 22 (.only 25 (.only 28 (.only 31 (.take 32 (.only 34 .nil))))))))) (.only 13 (.only 16 (.only 19 (.only 22 (.only 25 (.only 28 (.only 31 (.take 32 (.only 34 .nil)))))))))) (.only 10 (.only 13 (.only 16 (.only 19 (.only 22 (.only 25 (.only 28 (.only 31 (.take 32 (.only 34 .nil))))))))))) (.only 7 (.only 10 (.only 13 (.only 16 (.only 19 (.only 22 (.only 25 (.only 28 (.only 31 (.take 32 (.only 34 .nil)))))))))))) (.only 4 (.only 7 (.only 10 (.only 13 (.only 16 (.only 19 (.only 22 (.only 25 (.only 28 (.only 31 (.take 32 (.only 34 .nil))))))))))))))))))))))))))))))))))) ym yo ?_
  refine eu ?_
  refine VA.PL (cond:=fun L'=>pt x (c.cells a cap) 24∈L') (fun S hS=>?_) (fun L' hL'=>?_)
  rotate_left
  ·obtain⟨i,hi⟩:=vq hL'
   exact(by(try refine Pd.st ?_);(repeat(first|exact Pd.nil|exact Pd.fnil|refine Pd.inner ?_|refine Pd.skip yo ?_|refine zf (an.ar (an.one i hi Z) Z) ?_|refine zf ((an.one i hi Z)) ?_|refine zc (an.ar (an.one i hi Z) Z) ?_|refine zc ((an.one i hi Z)) ?_)))
  refine AG (VA.two rfl rfl rfl rfl rfl (aG.dI (φ:=fun v=>v=.int .i64 (aD c.chain 1 (aD c.nodes 1 6))) (fun Fr w _ _ _=>gX Fr w _ _ _) rfl) rfl rfl rfl (aG.alloc rfl) (fun v L' h=>by obtain⟨_,rfl⟩:=h;exact Pd.st pO) (fun v L' h=>by obtain⟨d,_,rfl⟩:=h;exact Pd.st g') ?_ ?_)
  rotate_left
  ·rintro _ _ ⟨d,rfl,rfl⟩
   refine AG (AO (aG.dI (φ:=fun v=>v=.int .i64 (aD c.chain 1 (aD c.nodes 1 6))) (fun Fr w _ _ _=>gX Fr w _ _ _) rfl) rfl (fun v L' h=>by obtain⟨_,rfl⟩:=h;exact g') ?_)
   rintro _ _ ⟨rfl,rfl⟩
   refine KP ?_
   rintro _ _ ⟨rfl,rfl⟩
   refine EW ?_
   rintro _ _ ⟨rfl,rfl⟩
   refine AZ ?_
   rintro _ _ ⟨rfl,rfl⟩
   refine xn ?_
   rintro _ _ ⟨rfl,rfl⟩
   refine uY ?_
   rintro _ _ ⟨rfl,rfl⟩
   refine tv ?_
   rintro _ _ ⟨rfl,rfl⟩
   refine r7 ?_
   rintro _ _ ⟨rfl,rfl⟩
   refine qQ ?_
   rintro _ _ ⟨rfl,rfl⟩
   refine pM ?_
   rintro _ _ ⟨rfl,rfl⟩
   exact pX
  rintro _ _ ⟨rfl,rfl⟩
  refine AG (VA.two rfl rfl rfl rfl rfl (aG.dI (φ:=fun v=>v=.int .i64 (aD c.bt 1 6)) (fun Fr w _ _ _=>gX Fr w _ _ _) rfl) rfl rfl rfl (aG.alloc rfl) (fun v L' h=>by obtain⟨_,rfl⟩:=h;exact Pd.st pO) (fun v L' h=>by obtain⟨d,_,rfl⟩:=h;exact Pd.st g') ?_ ?_)
  rotate_left
  ·rintro _ _ ⟨d,rfl,rfl⟩
   refine KP ?_
   rintro _ _ ⟨rfl,rfl⟩
   refine EW ?_
   rintro _ _ ⟨rfl,rfl⟩
   refine AZ ?_
   rintro _ _ ⟨rfl,rfl⟩
   refine xn ?_
   rintro _ _ ⟨rfl,rfl⟩
   refine uY ?_
   rintro _ _ ⟨rfl,rfl⟩
   refine tv ?_
   rintro _ _ ⟨rfl,rfl⟩
   refine r7 ?_
   rintro _ _ ⟨rfl,rfl⟩
   refine qQ ?_
   rintro _ _ ⟨rfl,rfl⟩
   refine pM ?_
   rintro _ _ ⟨rfl,rfl⟩
   exact pX
  rintro _ _ ⟨rfl,rfl⟩
  refine AG (VA.two rfl rfl rfl rfl rfl (aG.dI (φ:=fun v=>v=.int .i64 (aD c.queue 1 16)) (fun Fr w _ _ _=>gX Fr w _ _ _) rfl) rfl rfl rfl (aG.alloc rfl) (fun v L' h=>by obtain⟨_,rfl⟩:=h;exact Pd.st pO) (fun v L' h=>by obtain⟨d,_,rfl⟩:=h;exact Pd.st g') ?_ ?_)
  rotate_left
  ·rintro _ _ ⟨d,rfl,rfl⟩
   refine EW ?_
   rintro _ _ ⟨rfl,rfl⟩
   refine AZ ?_
   rintro _ _ ⟨rfl,rfl⟩
   refine xn ?_
   rintro _ _ ⟨rfl,rfl⟩
   refine uY ?_
   rintro _ _ ⟨rfl,rfl⟩
   refine tv ?_
   rintro _ _ ⟨rfl,rfl⟩
   refine r7 ?_
   rintro _ _ ⟨rfl,rfl⟩
   refine qQ ?_
   rintro _ _ ⟨rfl,rfl⟩
   refine pM ?_
   rintro _ _ ⟨rfl,rfl⟩
   exact pX
  rintro _ _ ⟨rfl,rfl⟩
  refine AG (VA.two rfl rfl rfl rfl rfl (aG.dI (φ:=fun v=>v=.int .i64 (aD c.gg 1 16)) (fun Fr w _ _ _=>gX Fr w _ _ _) rfl) rfl rfl rfl (aG.alloc rfl) (fun v L' h=>by obtain⟨_,rfl⟩:=h;exact Pd.st pO) (fun v L' h=>by obtain⟨d,_,rfl⟩:=h;exact Pd.st g') ?_ ?_)
  rotate_left
  ·rintro _ _ ⟨d,rfl,rfl⟩
   refine AZ ?_
   rintro _ _ ⟨rfl,rfl⟩
   refine xn ?_
   rintro _ _ ⟨rfl,rfl⟩
   refine uY ?_
   rintro _ _ ⟨rfl,rfl⟩
   refine tv ?_
   rintro _ _ ⟨rfl,rfl⟩
   refine r7 ?_
   rintro _ _ ⟨rfl,rfl⟩
   refine qQ ?_
   rintro _ _ ⟨rfl,rfl⟩
   refine pM ?_
   rintro _ _ ⟨rfl,rfl⟩
   exact pX
  rintro _ _ ⟨rfl,rfl⟩
  refine AG (VA.two rfl rfl rfl rfl rfl (aG.dI (φ:=fun v=>v=.int .i64 (aD c.reads 1 16)) (fun Fr w _ _ _=>gX Fr w _ _ _) rfl) rfl rfl rfl (aG.alloc rfl) (fun v L' h=>by obtain⟨_,rfl⟩:=h;exact Pd.st pO) (fun v L' h=>by obtain⟨d,_,rfl⟩:=h;exact Pd.st g') ?_ ?_)
  rotate_left
  ·rintro _ _ ⟨d,rfl,rfl⟩
   refine xn ?_
   rintro _ _ ⟨rfl,rfl⟩
   refine uY ?_
   rintro _ _ ⟨rfl,rfl⟩
   refine tv ?_
   rintro _ _ ⟨rfl,rfl⟩
   refine r7 ?_
   rintro _ _ ⟨rfl,rfl⟩
   refine qQ ?_
   rintro _ _ ⟨rfl,rfl⟩
   refine pM ?_
   rintro _ _ ⟨rfl,rfl⟩
   exact pX
  rintro _ _ ⟨rfl,rfl⟩
  refine AG (VA.two rfl rfl rfl rfl rfl (aG.dI (φ:=fun v=>v=.int .i64 (aD c.link 4 64)) (fun Fr w _ _ _=>gX Fr w _ _ _) rfl) rfl rfl rfl (aG.alloc rfl) (fun v L' h=>by obtain⟨_,rfl⟩:=h;exact Pd.st pO) (fun v L' h=>by obtain⟨d,_,rfl⟩:=h;exact Pd.st g') ?_ ?_)
  rotate_left
  ·rintro _ _ ⟨d,rfl,rfl⟩
   refine uY ?_
   rintro _ _ ⟨rfl,rfl⟩
   refine tv ?_
   rintro _ _ ⟨rfl,rfl⟩
   refine r7 ?_
   rintro _ _ ⟨rfl,rfl⟩
   refine qQ ?_
   rintro _ _ ⟨rfl,rfl⟩
   refine pM ?_
   rintro _ _ ⟨rfl,rfl⟩
   exact pX
  rintro _ _ ⟨rfl,rfl⟩
  refine AG (VA.two rfl rfl rfl rfl rfl (aG.dI (φ:=fun v=>v=.int .i64 (aD c.ei 4 64)) (fun Fr w _ _ _=>gX Fr w _ _ _) rfl) rfl rfl rfl (aG.alloc rfl) (fun v L' h=>by obtain⟨_,rfl⟩:=h;exact Pd.st pO) (fun v L' h=>by obtain⟨d,_,rfl⟩:=h;exact Pd.st g') ?_ ?_)
  rotate_left
  ·rintro _ _ ⟨d,rfl,rfl⟩
   refine tv ?_
   rintro _ _ ⟨rfl,rfl⟩
   refine r7 ?_
   rintro _ _ ⟨rfl,rfl⟩
   refine qQ ?_
   rintro _ _ ⟨rfl,rfl⟩
   refine pM ?_
   rintro _ _ ⟨rfl,rfl⟩
   exact pX
  rintro _ _ ⟨rfl,rfl⟩
  refine AG (VA.two rfl rfl rfl rfl rfl (aG.dI (φ:=fun v=>v=.int .i64 (aD c.timeout 4 64)) (fun Fr w _ _ _=>gX Fr w _ _ _) rfl) rfl rfl rfl (aG.alloc rfl) (fun v L' h=>by obtain⟨_,rfl⟩:=h;exact Pd.st pO) (fun v L' h=>by obtain⟨d,_,rfl⟩:=h;exact Pd.st g') ?_ ?_)
  rotate_left
  ·rintro _ _ ⟨d,rfl,rfl⟩
   refine r7 ?_
   rintro _ _ ⟨rfl,rfl⟩
   refine qQ ?_
   rintro _ _ ⟨rfl,rfl⟩
   refine pM ?_
   rintro _ _ ⟨rfl,rfl⟩
   exact pX
  rintro _ _ ⟨rfl,rfl⟩
  refine AG (VA.two rfl rfl rfl rfl rfl (aG.dI (φ:=fun v=>v=.int .i64 (aD c.eR 0 16)) (fun Fr w _ _ _=>gX Fr w _ _ _) rfl) rfl rfl rfl (aG.alloc rfl) (fun v L' h=>by obtain⟨_,rfl⟩:=h;exact Pd.st pO) (fun v L' h=>by obtain⟨d,_,rfl⟩:=h;exact Pd.st g') ?_ ?_)
  rotate_left
  ·rintro _ _ ⟨d,rfl,rfl⟩
   refine qQ ?_
   rintro _ _ ⟨rfl,rfl⟩
   refine pM ?_
   rintro _ _ ⟨rfl,rfl⟩
   exact pX
  rintro _ _ ⟨rfl,rfl⟩
  refine AG (VA.two rfl rfl rfl rfl rfl (aG.dI (φ:=fun v=>v=.int .i64 (aD c.dQ 1 1099511627776)) (fun Fr w _ _ _=>gX Fr w _ _ _) rfl) rfl rfl rfl (aG.alloc rfl) (fun v L' h=>by obtain⟨_,rfl⟩:=h;exact Pd.st pO) (fun v L' h=>by obtain⟨d,_,rfl⟩:=h;exact Pd.st g') ?_ ?_)
  rotate_left
  ·rintro _ _ ⟨d,rfl,rfl⟩
   refine pM ?_
   rintro _ _ ⟨rfl,rfl⟩
   exact pX
  rintro _ _ ⟨rfl,rfl⟩
  refine KQ ?_
  refine AG (AO (aG.alloc rfl) rfl (fun v L' h=>by obtain⟨d,_,rfl⟩:=h;exact g') ?_)
  rintro _ _ ⟨d,rfl,rfl⟩
  refine KR ?_
  exact KS
 rintro d _
 have ht4:=xJ 4 c.qs
 have htl:(c.qs.take 4).length=if c.qs.length≤4 then c.qs.length else 4:=by rw[iT];split<;>omega
 refine VC.meet (σ:=Option Addr×Nat) (fun _=>[(1,pV x),(2,pV r),(4,pV d)])
  (fun y=>[av 3 1 y.1 (c.qs.take 4).length y.2 (du ((c.qs.take 4).map jk)),pt d [.int .i64 (aD c.nodes 1 6),.int .i64 (aD c.chain 1 (aD c.nodes 1 6)),.int .i64 (aD c.bt 1 6),.slice y.1 (c.qs.take 4).length y.2,.int .i64 (aD c.queue 1 16),.int .i64 (aD c.gg 1 16),.int .i64 (aD c.reads 1 16),.int .i64 (aD c.link 4 64),.int .i64 (aD c.ei 4 64),.int .i64 (aD c.timeout 4 64),.int .i64 (aD c.eR 0 16),.int .i64 (aD c.dQ 1 1099511627776)] 24,pt r T.t24.zs 24]) (fun y=>(c.qs.take 4).length≤y.2) ?_ ?_
 ·refine CS (CG (VG (VN (VC.block ?_))))
  refine VC.loop (σ:=Nat×Option Addr×Nat) (fun y=>[(1,pV x),(2,pV r),(4,pV d),(5,.int .i64 y.1)])
   (fun y=>[av 3 1 y.2.1 y.1 y.2.2 (du ((c.qs.take y.1).map jk)),pt d [.int .i64 (aD c.nodes 1 6),.int .i64 (aD c.chain 1 (aD c.nodes 1 6)),.int .i64 (aD c.bt 1 6),.slice y.2.1 y.1 y.2.2,.int .i64 (aD c.queue 1 16),.int .i64 (aD c.gg 1 16),.int .i64 (aD c.reads 1 16),.int .i64 (aD c.link 4 64),.int .i64 (aD c.ei 4 64),.int .i64 (aD c.timeout 4 64),.int .i64 (aD c.eR 0 16),.int .i64 (aD c.dQ 1 1099511627776)] 24,pt r T.t24.zs 24,pt x (c.cells a cap) 24]) (MM c.qs) (fun y=>4-y.1) (0,none,0) ⟨bK _,NR _⟩ aF (aa.cN aa.refl).ah ?_
  rintro⟨i,ai,ci⟩ ⟨hi,hroom⟩
  dsimp only at hi hroom ⊢
  refine CS (CS (CG (VG (VO.ld 3 Z Z Z Z ?_))))
  refine VG (VO.split 47 Z Z (fun h1=>?_) (fun h1=>VG (VN (VC.kG Z (CX ?_)))))
  rotate_left
  ·have h1:=of_decide_eq_false h1
   have hi2:i=(c.qs.take 4).length:=by rw[htl] at hi ⊢;split at hi<;>split<;>omega
   have hi3:c.qs.take i=c.qs.take 4:=by rw[hi2,iT];rw[List.take_eq_take_iff];omega
   refine⟨(ai,ci),by rw[←hi2];exact hroom,aF,?_⟩
   dsimp only
   rw[←hi2,←hi3]
   exact(aa.app (L:=[_,_,_]) (M:=[_,_,_]) aa.refl aa.nil).ah
  have h1:=of_decide_eq_true h1
  refine VG (VN (CP Z (fun h2=>CK ?_) (fun h2=>CX ?_)))
  rotate_left
  ·have hi2:i=(c.qs.take 4).length:=by rw[htl] at hi ⊢;split at hi<;>split<;>omega
   have hi3:c.qs.take i=c.qs.take 4:=by rw[hi2,iT];rw[List.take_eq_take_iff];omega
   refine⟨(ai,ci),by rw[←hi2];exact hroom,aF,?_⟩
   dsimp only
   rw[←hi2,←hi3]
   exact(aa.app (L:=[_,_,_]) (M:=[_,_,_]) aa.refl aa.nil).ah
  have hiq:i<c.qs.length:=by omega
  obtain⟨qb,qo,hqa,hFq,hcq⟩:=hq.at_ (fun e=>by rw[e] at hiq;simp at hiq)
  have hy:=GE hiq
  generalize c.qs[i]=y at hy
  have hsl:some (Value.slice a c.qs.length cap)=some (Value.slice (some ⟨qb,qo,none⟩) c.qs.length cap):=by rw[hqa]
  have htk:c.qs.take (i+1)=c.qs.take i ++ [y]:=by rw[fS,hy];rfl
  have hcell:w.cell? ⟨qb,qo+i*1,none⟩=some (.int .i64 y):=by rw[oO];exact hcq i y hy
  have PQ:∀{L:List HP},an (⟨Tryz.prog,tab,aw,74,Fr,w⟩:Cx) L T.t3 qb (qo+i*T.t3.size) (.int .i64 y):=an.rd hFq hcell
  refine CS (VC.block (CD (ts 0 7 (.only 7 (.only 8 (.only 9 (.take 10 (.only 11 .nil)))))) ym yo ?_))
  refine gi ?_
  refine AG (AI Z (dU i hsl Z Z Z Z Z hiq) ?_)
  refine AG (VA.load Z Z Z (an.rd (v:=.int .i64 y) hFq hcell) ?_)
  refine AG (VA.dI (φ:=fun v=>v=.int .i64 (jk y)) (fun Fr w _ _ _=>gX Fr w _ _ _) Z Z (by(try refine Pd.st ?_);(repeat(first|exact Pd.nil|exact Pd.fnil|refine Pd.inner ?_|refine Pd.skip yo ?_|refine zf (zo 0 Z Z) ?_|refine zf (zo 1 Z Z) ?_|refine zf (zo 2 Z Z) ?_|refine zf (zo 3 Z Z) ?_|refine zf (zm 0 Z Z) ?_|refine zf (zm 1 Z Z) ?_|refine zf (zm 2 Z Z) ?_|refine zf (zm 3 Z Z) ?_|refine zf (an.ar PQ Z) ?_|refine zf (PQ) ?_|refine zc (zo 0 Z Z) ?_|refine zc (zo 1 Z Z) ?_|refine zc (zo 2 Z Z) ?_|refine zc (zo 3 Z Z) ?_|refine zc (zm 0 Z Z) ?_|refine zc (zm 1 Z Z) ?_|refine zc (zm 2 Z Z) ?_|refine zc (zm 3 Z Z) ?_|refine zc (an.ar PQ Z) ?_|refine zc (PQ) ?_))) ?_)
  rintro _ rfl
  refine AG (AO (aG.buildSlice (n:=1) (pv:=[(0,.int .i64 (jk y))]) (cells:=[.int .i64 (jk y)]) Z Z Z Z yn Z) Z ?_ ?_)
  ·rintro _ _ ⟨nb,rfl,rfl⟩
   exact FH
  rintro _ _ ⟨nb,rfl,rfl⟩
  refine AG (AO (aG.append (m:=1) (news:=[.int .i64 (jk y)]) 1 Z Z Z Z Z Z Z (dN.pt 0 Z Z Z) Z (by show(i+1)*8≤_;omega) yd) Z ?_ ?_)
  ·rintro _ _ ⟨a2,c2,rfl,hc2,rfl⟩
   exact FH
  rintro _ _ ⟨a2,c2,rfl,hc2,rfl⟩
  refine pL ?_
  refine AG (VA.st 2 Z Z Z Z Z u9 Z Z FH (AG (AN ?_)))
  refine gG ?_
  refine⟨(i+1,a2,c2),⟨by rw[htl];split<;>omega,hc2⟩,by dsimp only;omega,aF,?_⟩
  dsimp only
  rw[htk]
  have e:du ((c.qs.take i ++ [y]).map jk)=du ((c.qs.take i).map jk) ++ [.int .i64 (jk y)]:=by simp[du]
  rw[e]
  exact(aa.cons aa.tl).ah
 rintro⟨ai,ci⟩ hroom
 dsimp only at hroom ⊢
 have hf1:=wM c.qs
 refine VC.meet (σ:=Option Addr×Nat) (fun _=>[(2,pV r),(4,pV d)])
  (fun y=>[kj y.1 y.2 (fF c.qs),pt d ((ct c).cells y.1 y.2) 24,pt r T.t24.zs 24]) (fun y=>(fF c.qs).length≤y.2∧nR y.1) ?_ ?_
 ·refine CS (CG (VG (VO.ld 1 Z Z Z Z (VG (VN ?_)))))
  refine CE Z (fun hz=>?_) (fun hz=>?_)
  ·have hz:c.qs.take 4=[]:=gI yd
   have hqf:fF c.qs=[96]:=by unfold fF dL;rw[if_pos hz];rfl
   refine CG (VG (VO.ld 1 Z Z Z Z ?_))
   refine VG (VO.buildSlice (n:=1) (pv:=[(0,.int .i64 96)]) [.int .i64 96] Z Z Z Z yn Z fun nb=>?_)
   refine VG (VO.append (m:=1) (news:=[.int .i64 96]) 1 Z Z Z Z Z Z Z (dN.pt 0 Z Z Z) Z (by show((c.qs.take 4).length+1)*8≤_;omega) yd fun a2 c2 hc2=>?_)
   refine VO.bu 0 Z (aY.F7 _ _ _ _ _ _) fun _ had=>?_
   refine VG (VO.st 2 Z Z Z Z u9 Z Z (VG (VN ?_)))
   have e1:du ((c.qs.take 4).map jk) ++ [.int .i64 96]=du (fF c.qs):=by rw[hqf,hz];rfl
   have e2:(c.qs.take 4).length+1=(fF c.qs).length:=by rw[hqf,hz];rfl
   refine⟨(a2,c2),⟨by rw[←e2];exact hc2,had⟩,aF,?_⟩
   rw[e1,e2]
   exact(aa.cons aa.tl).ah
  ·have hz:¬c.qs.take 4=[]:=fun e=>hz yq
   have hqf:fF c.qs=(c.qs.take 4).map jk:=by unfold fF dL;rw[if_neg hz]
   refine VC.bu 0 Z (aY.F7 _ _ _ _ _ _) fun _ had=>CK ?_
   have e1:du ((c.qs.take 4).map jk)=du (fF c.qs):=by rw[hqf]
   have e2:(c.qs.take 4).length=(fF c.qs).length:=by rw[hqf,dW]
   refine⟨(ai,ci),⟨by rw[←e2];exact hroom,had⟩,aF,?_⟩
   rw[e1,e2]
   exact ER
 rintro⟨af,cf⟩ ⟨hcf,haf⟩
 dsimp only at hcf haf ⊢
 refine CS (CG (VG (VL 1 ((ct c).cells af cf) Z Z Z Z ?_)))
 refine VG (VT (vs:=(ct c).cells af cf) (cs':=(ct c).cells af cf) 2 Z Z Z Z (NR _) Z Z Z (VG (VN ?_)))
 exact CR (al.cell 2 Z Z Z (an.many 2 Z Z) (L':=[kj af cf (fF c.qs)]) (aa.app (L:=[_]) (M:=[_]) aa.refl aa.nil).ah ⟨af,cf,haf,hcf,Z,Z⟩)
end Conf
namespace Adm
open Go Vg T Api Sched Conf
attribute [local irreducible] VO VC VA
abbrev qd:=Int×Int
def sw(t u:qd):Bool:=decide (t.1<u.1)||((t.1 == u.1)&&decide (t.2<u.2))
def ji(n:Int):Bool:=decide (1≤n)&&decide (n≤1099511627776)
structure aK where
 aO:aH
 bt:Int
 marks:List qd
 waits:List Int
def aK.has(A:aK)(k:Int):Bool:=decide (0≤k∧k<A.bt)
def aK.mark(A:aK)(k:Int):qd:=(A.marks[k.toNat]?).getD (0,0)
def aK.wt(A:aK)(k:Int):Int:=(A.waits[k.toNat]?).getD 0
def aK.tR(A:aK)(k s t:Int):Bool:=A.has k && !sw (A.mark k) (s,t)
def aK.pD(A:aK)(k:Int)(m:qd):aK:={ A with marks:=A.marks.set k.toNat m }
def aK.fI(A:aK)(k:Int)(n:Int):aK:={ A with waits:=A.waits.set k.toNat n }
def aK.hZ(A:aK)(k s t:Int):aK:=if sw (A.mark k) (s,t) then A.pD k (s,t) else A
def aK.dw(A:aK)(k s t:Int):Int×aK:=if A.has k&&ji s&&ji t then (0,A.hZ k s t) else (2,A)
structure aK.Wf(A:aK):Prop where
 aO:A.aO.Wf
 c0:1≤A.bt
 c1:A.bt≤6
 marks:A.marks.length=6
 waits:A.waits.length=6
def jf(m:qd):List Value:=[.int .i64 m.1,.int .i64 m.2]
theorem sT(m:qd):(jf m).length=2:=rfl
def eE(A:aK)(sp:Nat):List Value:=.pointer (some ⟨sp,0,none⟩) :: .int .i64 A.bt :: .int .i64 A.aO.cls.length::(flat jf A.marks++du A.waits)
def nU(p:Nat)(A:aK)(sp:Nat):List HP:=[pt p (eE A sp) 225,fh sp A.aO]
def bb(p:Nat)(A:aK):HP:=hex fun sp=>b_ (jb A.Wf::nU p A sp)
theorem aY.aM(p:Nat)(A:aK):aY (bb p A) (fun _=>A.Wf) (fun sp=>nU p A sp):=by
 rintro w ids ⟨s,h⟩ hn
 obtain⟨F,G,rfl,⟨rfl,h1⟩,h2⟩:=h
 exact AW
theorem nV{p:Nat}{A:aK}{L:List HP}(sp:Nat)(hs:A.Wf)(h:aa L (nU p A sp)):aa L [bb p A]:=
 aa.ex sp (aa.sep (aa.trans h (aa.of_eq (bA _).symm |>.trans (aa.pure hs aa.refl))))
structure tN(Fr:Nat→Prop)(w:World)(p:Nat)(A:aK)(sp:Nat):Prop where
 wf:A.Wf
 x_:a7 Fr w p (eE A sp)
 aO:aV Fr [fh sp A.aO] w
theorem tN.of{Fr:Nat→Prop}{w:World}{p:Nat}{A:aK}(h:aV Fr [bb p A] w):∃sp,tN Fr w p A sp:=by
 obtain⟨s,h⟩:=h.ex
 have h:=h.sep
 exact⟨s,h.pure 0 Z,h.ar 1 Z,h.at_ 2 Z⟩
theorem ur{A:aK}(h:A.Wf){sp k:Nat}(hk:k<6):((eE A sp).drop (0+3+k*2)).take 2=jf (A.mark k):=by
 have hk2:k<A.marks.length:=by rw[h.marks];exact hk
 have h1:A.marks[k]?=some (A.mark k):=by rw[aK.mark,fy,GE hk2];rfl
 have:=kK sT h1 (du A.waits)
 rw[←this,show 0+3+k*2=k*2+1+1+1 from by omega]
 rfl
theorem QE{A:aK}(h:A.Wf){sp k:Nat}(hk:k<6)(m:qd):cT (eE A sp) (0+3+k*2) (jf m)=eE (A.pD k m) sp:=by
 have hk2:k<A.marks.length:=by rw[h.marks];exact hk
 have:=rH sT m (du A.waits) hk2
 show cT (_::_::_::(flat jf A.marks++du A.waits)) (0+3+k*2) (jf m)=_::_::_::(flat jf (A.marks.set ((k:Int).toNat) m)++du A.waits)
 rw[fy,←this,show 0+3+k*2=k*2+1+1+1 from by omega]
 simp only[cT,List.take_succ_cons,tI,sT]
 rw[show k*2+1+1+1+2=k*2+2+1+1+1 from by omega]
 simp only[List.drop_succ_cons]
 rfl
theorem BP{A:aK}(h:A.Wf)(sp:Nat):(eE A sp).length=21:=by
 simp[eE,dS sT,h.marks,v8,h.waits]
theorem Yp{A:aK}(h:A.Wf){sp k:Nat}(hk:k<6):(eE A sp)[0+15+k*1]?=some (.int .i64 (A.wt k)):=by
 have hk2:k<A.waits.length:=by rw[h.waits];exact hk
 have h1:A.waits[k]?=some (A.wt k):=by rw[aK.wt,fy,GE hk2];rfl
 rw[show 0+15+k*1=(12+k)+1+1+1 from by omega]
 simp only[eE,pZ]
 rw[vp L7,dS sT,h.marks,show 12+k-6*2=k from by omega,du,dH,h1];rfl
theorem EC{A:aK}(h:A.Wf){sp k:Nat}(hk:k<6)(n:Int):(eE A sp).set (0+15+k*1) (.int .i64 n)=eE (A.fI k n) sp:=by
 rw[show 0+15+k*1=(12+k)+1+1+1 from by omega]
 simp only[eE,vt,aK.fI,fy]
 rw[List.set_append_right _ _ L7,dS sT,h.marks,show 12+k-6*2=k from by omega]
 simp[du,gJ]
theorem aK.Wf.pD{A:aK}(h:A.Wf)(k:Int)(m:qd):(A.pD k m).Wf:=⟨h.aO,h.c0,h.c1,by simpa[aK.pD] using h.marks,h.waits⟩
theorem aK.Wf.fI{A:aK}(h:A.Wf)(k:Int)(n:Int):(A.fI k n).Wf:=⟨h.aO,h.c0,h.c1,h.marks,by simpa[aK.fI] using h.waits⟩
theorem aK.Wf.hZ{A:aK}(h:A.Wf)(k s t:Int):(A.hZ k s t).Wf:=by
 unfold aK.hZ;split
 ·exact h.pD k _
 ·exact h
theorem aK.Wf.dw{A:aK}(h:A.Wf)(k s t:Int):(A.dw k s t).2.Wf:=by
 unfold aK.dw;split
 ·exact h.hZ k s t
 ·exact h
theorem eZ{p:Nat}{a:Addr}{cs:List Value}(h:a7 Fr w p (.pointer (some a)::cs)):aq Tryz.prog 220 [.pointer (some ⟨p,0,none⟩)] Fr w [] (fun v L=>v=.bool false∧L=[]):=by
 refine TF 12 Tryz.func220 Z ym aw Z Z ?_
 refine aj ?_
 refine VG (VO.split 5 rfl rfl (fun h=>by cases h) (fun _=>?_))
 refine me ?_
 exact uW
theorem vZ{p sp:Nat}{A:aK}(k:Int)(h:a7 Fr w p (eE A sp)):aq Tryz.prog 334 [.pointer (some ⟨p,0,none⟩),.int .i64 k] Fr w [] (fun v L=>v=.bool (A.has k)∧L=[]):=by
 refine TF 20 Tryz.func334 Z ym aw Z Z ?_
 refine aj ?_
 refine EL ?_
 refine VG (VY 8 true Z Z ?_)
 refine VG (VO.split 12 Z Z (fun h2=>?_) (fun h2=>?_))
 ·have h2:=of_decide_eq_true h2
  refine me ?_
  exact CR (al.bool 4 Z Z (by simp[aK.has,h2]) ER ⟨rfl,Z⟩)
 ·have h2:=of_decide_eq_false h2
  refine aj ?_
  exact CR (al.bool 4 Z Z (by simp[aK.has,h2]) ER ⟨rfl,Z⟩)
theorem zK(n:Int):aq Tryz.prog 335 [.int .i64 n] Fr w [] (fun v L=>v=.bool (ji n)∧L=[]):=by
 refine TF 9 Tryz.func335 Z ym aw Z Z ?_
 refine aj ?_
 refine VG (VO.split 5 Z Z (fun h2=>?_) (fun h2=>?_))
 ·have h2:=of_decide_eq_true h2
  refine aj ?_
  exact CR (al.bool 2 Z Z (by simp[ji,h2]) ER ⟨rfl,Z⟩)
 ·have h2:=of_decide_eq_false h2
  refine aj ?_
  exact CR (al.bool 2 Z Z (by simp[ji,h2]) ER ⟨rfl,Z⟩)
theorem Gb(t u:qd):aq Tryz.prog 336 [.agg (jf t).toArray,.agg (jf u).toArray] Fr w [] (fun v L=>v=.bool (sw t u)∧L=[]):=by
 refine TF 24 Tryz.func336 Z ym aw Z Z ?_
 refine CS (CG (VG (VB (vs:=jf t) Z fun b1=>VG (VB (vs:=jf u) Z fun b2=>VG (VN ?_)))))
 refine cF ?_
 refine VG (VO.split 10 Z Z (fun h1=>?_) (fun h1=>?_))
 ·refine VG (VO.sX Z Z Z (VG (VO.sX Z Z Z (VG (VO.sX Z Z Z (VG (VO.sX Z Z Z (VG (VO.sX Z Z Z ?_)))))))))
  refine aj ?_
  exact CR (al.bool 4 Z Z (by simp only[sw,h1];rfl) aa.nil.ah ⟨rfl,Z⟩)
 ·refine cF ?_
  refine VG (VO.split 16 Z Z (fun h2=>?_) (fun h2=>?_))
  ·refine cF ?_
   exact CR (al.bool 4 Z Z (by simp only[sw,h1,h2,Bool.false_or,qY]) aa.nil.ah ⟨rfl,Z⟩)
  ·refine cF ?_
   exact CR (al.bool 4 Z Z (by simp only[sw,h1,h2,Bool.false_or,fK]) aa.nil.ah ⟨rfl,Z⟩)
theorem Gn{p:Nat}{A:aK}(k s t:Int)(h:aV Fr [bb p A] w):aq Tryz.prog 374 [.pointer (some ⟨p,0,none⟩),.int .i64 k,.int .i64 s,.int .i64 t] Fr w [] (fun v L=>v=.bool (A.tR k s t)∧L=[]):=by
 obtain⟨sp,h⟩:=tN.of h
 have hb:=h.x_
 refine TF 25 Tryz.func374 Z ym aw Z Z ?_
 refine aj ?_
 refine VG (VV (fun Fr w hF hs _=>vZ Fr w k (hb.of hF hs)) Z ?_)
 refine VG (VO.split 12 Z Z (fun h1=>?_) (fun h1=>?_))
 ·have hk:=of_decide_eq_true h1
  obtain⟨n,rfl⟩:=sj hk.1
  have hn:n<6:=by have:=h.wf.c1;omega
  refine VG (VI (iu n Z Z Z Z Z Z hn) ?_)
  refine VG (VO.load Z Z (v:=.agg (jf (A.mark n)).toArray) (an.h_ hb (ur h.wf hn)) ?_)
  refine KT ?_
  refine VG (VO.iY (fun Fr w=>Gb Fr w (A.mark n) (s,t)) Z ?_)
  refine aj ?_
  exact CR (al.bool 8 Z Z (by simp only[aK.tR,h1,qY]) ER ⟨rfl,Z⟩)
 ·refine aj ?_
  exact CR (al.bool 8 Z Z (by simp only[aK.tR,h1,fK]) ER ⟨rfl,Z⟩)
theorem yH(p:Nat)(A:aK)(k s t:Int):aq Tryz.prog 284 [.pointer (some ⟨p,0,none⟩),.int .i64 k,.int .i64 s,.int .i64 t] Fr w [bb p A] (fun v L=>v=.int .i64 (A.dw k s t).1∧L=[bb p (A.dw k s t).2]):=by
 refine TF 45 Tryz.func284 Z ym aw Z Z ?_
 refine VC.bu 0 Z (aY.aM p A) fun sp h=>?_
 refine CN (L':=nU p A sp) (aa.of_eq (bA _)).ah ?_
 have out:∀{X:Cx},cI X (nU p A sp) [bb p A]:=fun {X}=>(nV sp h aa.refl).ah
 refine aj ?_
 refine VG (VV (fun Fr w hF _ hs=>eZ Fr w (hs.ar 0 Z)) Z (VG (VN (VC.kG Z ?_))))
 refine aj ?_
 refine VG (VV (fun Fr w hF _ hs=>vZ Fr w k (hs.ar 0 Z)) Z (VG (VO.split 18 Z Z (fun h1=>?_) (fun h1=>?_))))
 ·have h1:A.has k=false:=by simpa using h1
  have e:A.dw k s t=(2,A):=by simp[aK.dw,h1]
  refine VG (VY 23 true Z Z (VG (VN (VC.lf Z ?_))))
  refine aj ?_
  exact EX
 have h1:A.has k=true:=by simpa using h1
 refine VG (VO.iY (fun Fr w=>zK Fr w s) Z (VG (VO.split 23 Z Z (fun h2=>?_) (fun h2=>?_))))
 ·have h2:ji s=false:=by simpa using h2
  have e:A.dw k s t=(2,A):=by simp[aK.dw,h2]
  refine VG (VN (VC.lf Z ?_))
  refine aj ?_
  exact EX
 have h2:ji s=true:=by simpa using h2
 refine VG (VO.iY (fun Fr w=>zK Fr w t) Z (VG (VN ?_)))
 refine VC.ey Z (fun h3=>?_) (fun h3=>CK ?_)
 ·have e:A.dw k s t=(2,A):=by simp[aK.dw,h3]
  refine aj ?_
  exact EX
 have e:A.dw k s t=(0,A.hZ k s t):=by simp[aK.dw,h1,h2,h3]
 have hk:=of_decide_eq_true h1
 obtain⟨n,rfl⟩:=sj hk.1
 have hn:n<6:=by have:=h.c1;omega
 have hlen:=BP h sp
 refine aj ?_
 refine KT ?_
 refine VG (VO.alloc Z fun m=>VG (VT (vs:=jf (s,t)) (cs':=jf (s,t)) 0 Z Z Z Z (NR _) Z Z Z (VG (VN ?_))))
 refine CS (CS (CD (ts 0 7 (.only 7 .nil)) ym yo ?_))
 refine AG (AI Z (iu n Z Z Z Z Z Z hn) ?_)
 refine AG (VA.cK 1 (jf (A.mark n)) Z Z Z Z (ur h hn) ?_)
 refine AG (VA.cK 0 (jf (s,t)) Z Z Z Z Z ?_)
 refine AG (VA.dI (φ:=fun v=>v=.bool (sw (A.mark n) (s,t))) (fun Fr w _ _ _=>Gb Fr w _ _) Z Z (by(try refine Pd.st ?_);(repeat(first|exact Pd.nil|exact Pd.fnil|refine Pd.inner ?_|refine Pd.skip yo ?_|refine zf (zo 0 Z Z) ?_|refine zf (zo 1 Z Z) ?_|refine zf (zm 0 Z Z) ?_|refine zf (zm 1 Z Z) ?_|refine zf (an.ar (an.many 1 Z (ur h hn)) Z) ?_|refine zf ((an.many 1 Z (ur h hn))) ?_|refine zc (zo 0 Z Z) ?_|refine zc (zo 1 Z Z) ?_|refine zc (zm 0 Z Z) ?_|refine zc (zm 1 Z Z) ?_|refine zc (an.ar (an.many 1 Z (ur h hn)) Z) ?_|refine zc ((an.many 1 Z (ur h hn))) ?_))) ?_)
 rintro _ rfl
 refine bg ?_
 refine CC Z (fun h4=>?_) (fun h4=>CK ?_)
 ·have e2:A.hZ n s t=A.pD n (s,t):=by unfold aK.hZ;rw[if_pos h4]
  refine A0 ?_
  refine AG (VA.cK 0 (jf (s,t)) Z Z Z Z Z ?_)
  refine AG (AI Z (iu n Z Z Z Z Z Z hn) ?_)
  refine AG (AT (vs:=jf (s,t)) (cs':=eE (A.pD n (s,t)) sp) 1 Z Z Z Z Z (by rw[hlen];show 0+3+n*2+2≤21;omega) (QE h hn (s,t)) Z Z yv (AG (AN ?_)))
  refine aj ?_
  exact CR (al.int 8 Z Z oJ (L':=[bb p (A.pD n (s,t))]) (aa.trans aa.tl (nV sp (h.pD n _) aa.refl)).ah ⟨rfl,by rw[e,e2]⟩)
 ·have e2:A.hZ n s t=A:=by unfold aK.hZ;rw[if_neg (by rw[h4];simp)]
  refine aj ?_
  exact CR (al.int 8 Z Z oJ (L':=[bb p A]) (aa.trans aa.tl (nV sp h aa.refl)).ah ⟨rfl,by rw[e,e2]⟩)
end Adm
namespace Adm
open Go Vg T Api Sched Conf
attribute [local irreducible] VO VC VA
def s7(o:bp):Bool:=(o.kind == 1)&&(c_ o == 0)
theorem wS(o:bp):aq Tryz.prog 174 [.agg o.cells.toArray] Fr w [] (fun v L=>v=.bool (s7 o)∧L=[]):=by
 refine TF 11 Tryz.func174 Z ym aw Z Z ?_
 refine CS (CG (VG (VB (vs:=o.cells) Z fun b=>VG (VN ?_))))
 refine aj ?_
 refine VG (VO.split 6 Z Z (fun h1=>?_) (fun h1=>?_))
 ·refine VG (VL 0 o.cells Z Z Z Z ?_)
  refine EK ?_
  refine aj ?_
  exact CR (al.bool 2 Z Z (by simp only[s7,h1,qY]) aa.nil.ah ⟨rfl,Z⟩)
 ·refine aj ?_
  exact CR (al.bool 2 Z Z (by simp only[s7,h1,fK]) aa.nil.ah ⟨rfl,Z⟩)
def aK.may(A:aK)(f:aA):Bool:=A.has f.aI&&(f.kind == 1)&&ji f.seq&&ji f.bz&&decide (0≤f.cls)&&decide (f.cls<A.aO.cls.length)&&decide (0≤f.deadline)&&decide (f.deadline≤1099511627776)&&(c_ f.op == 0) && !s7 f.op
theorem wD{p:Nat}{A:aK}(f:FM)(h:aV Fr [bb p A] w):aq Tryz.prog 373 [.pointer (some ⟨p,0,none⟩),.agg (aS f).toArray] Fr w [] (fun v L=>v=.bool (A.may f.1)∧L=[]):=by
 obtain⟨sp,h⟩:=tN.of h
 have hb:=h.x_
 refine TF 60 Tryz.func373 Z ym aw Z Z ?_
 refine CS (CG (VG (VB (vs:=aS f) Z fun b=>VG (VN ?_))))
 refine VC.meet (σ:=Bool) (fun b=>[(4,.bool b)]) (fun _=>[]) (fun b=>b=A.may f.1) ?_ ?_
 rotate_left
 ·rintro b rfl
  exact CR (al.bool 4 Z Z Z ER ⟨rfl,Z⟩)
 refine CD (ts 0 3 (.only 3 (ts 4 8 (.only 12 (ts 13 4 (.only 17 (ts 18 28 (.only 46 (ts 47 5 (.only 52 (ts 53 3 .nil))))))))))) ym yo ?_
 refine bg ?_
 refine AG (VA.dI (φ:=fun v=>v=.bool (A.has f.1.aI)) (fun Fr w hF hs _=>vZ Fr w f.1.aI (hb.of hF hs)) Z Z yv ?_)
 rintro _ rfl
 refine mO ?_
 refine AG (VA.split 9 Z Z (fun h0=>?_) (fun h0=>?_))
 rotate_left
 ·refine AG (AY 14 false Z Z ?_)
  refine nJ ?_
  refine AG (AY 19 false Z Z ?_)
  refine nJ ?_
  refine AG (AY 24 false Z Z ?_)
  refine BD ?_
  refine vf ?_
  exact⟨false,(by show false=aK.may A f.1;rw[aK.may];simp only[show(A.has f.1.aI)=false from h0,gj,fK]),aF,aa.nil.ah⟩
 refine mO ?_
 refine AG (VA.split 14 Z Z (fun h1=>?_) (fun h1=>?_))
 rotate_left
 ·refine nJ ?_
  refine AG (AY 19 false Z Z ?_)
  refine nJ ?_
  refine AG (AY 24 false Z Z ?_)
  refine BD ?_
  refine vf ?_
  exact⟨false,(by show false=aK.may A f.1;rw[aK.may];simp only[show(f.1.kind == 1)=false from h1,gj,fK]),aF,aa.nil.ah⟩
 refine mO ?_
 refine AG (VA.dI (φ:=fun v=>v=.bool (ji f.1.seq)) (fun Fr w _ _ _=>zK Fr w _) Z Z Bv ?_)
 rintro _ rfl
 refine mO ?_
 refine AG (VA.split 19 Z Z (fun h2=>?_) (fun h2=>?_))
 rotate_left
 ·refine nJ ?_
  refine AG (AY 24 false Z Z ?_)
  refine BD ?_
  refine vf ?_
  exact⟨false,(by show false=aK.may A f.1;rw[aK.may];simp only[show(ji f.1.seq)=false from h2,gj,fK]),aF,aa.nil.ah⟩
 refine mO ?_
 refine AG (VA.dI (φ:=fun v=>v=.bool (ji f.1.bz)) (fun Fr w _ _ _=>zK Fr w _) Z Z Bv ?_)
 rintro _ rfl
 refine mO ?_
 refine AG (VA.split 24 Z Z (fun h3=>?_) (fun h3=>?_))
 rotate_left
 ·refine BD ?_
  refine vf ?_
  exact⟨false,(by show false=aK.may A f.1;rw[aK.may];simp only[show(ji f.1.bz)=false from h3,gj,fK]),aF,aa.nil.ah⟩
 refine mO ?_
 refine AG (VA.split 29 Z Z (fun h4=>?_) (fun h4=>?_))
 rotate_left
 ·refine KU ?_
  refine vf ?_
  exact⟨false,(by show false=aK.may A f.1;rw[aK.may];simp only[show(decide (0≤f.1.cls))=false from h4,gj,fK]),aF,aa.nil.ah⟩
 refine mO ?_
 refine AG (VA.split 38 Z Z (fun h5=>?_) (fun h5=>?_))
 rotate_left
 ·refine vf ?_
  exact⟨false,(by show false=aK.may A f.1;rw[aK.may];simp only[show(decide (f.1.cls<A.aO.cls.length))=false from h5,gj,fK]),aF,aa.nil.ah⟩
 refine mO ?_
 refine AG (VA.split 43 Z Z (fun h6=>?_) (fun h6=>?_))
 rotate_left
 ·refine MJ ?_
  exact⟨false,(by show false=aK.may A f.1;rw[aK.may];simp only[show(decide (0≤f.1.deadline))=false from h6,gj,fK]),aF,aa.nil.ah⟩
 refine mO ?_
 refine AG (VA.split 48 Z Z (fun h7=>?_) (fun h7=>?_))
 rotate_left
 ·refine MH ?_
  exact⟨false,(by show false=aK.may A f.1;rw[aK.may];simp only[show(decide (f.1.deadline≤1099511627776))=false from h7,gj,fK]),aF,aa.nil.ah⟩
 refine mO ?_
 refine AG (VA.cK 0 f.1.op.cells Z Z Z Z Z ?_)
 refine AG (VA.dI (φ:=fun v=>v=.int .i64 (c_ f.1.op)) (fun Fr w _ _ _=>gq Fr w _) Z Z Bv ?_)
 rintro _ rfl
 refine mO ?_
 refine AG (VA.split 54 Z Z (fun h8=>?_) (fun h8=>?_))
 rotate_left
 ·refine MF ?_
  exact⟨false,(by show false=aK.may A f.1;rw[aK.may];simp only[show(c_ f.1.op == 0)=false from h8,gj,fK]),aF,aa.nil.ah⟩
 refine mO ?_
 refine AG (VA.cK 0 f.1.op.cells Z Z Z Z Z ?_)
 refine AG (VA.dI (φ:=fun v=>v=.bool (s7 f.1.op)) (fun Fr w _ _ _=>wS Fr w _) Z Z Bv ?_)
 rintro _ rfl
 refine bg ?_
 refine⟨!s7 f.1.op,?_,aF,aa.nil.ah⟩
 show(!s7 f.1.op)=aK.may A f.1
 rw[aK.may]
 simp only[show(A.has f.1.aI)=true from h0,show(f.1.kind == 1)=true from h1,show(ji f.1.seq)=true from h2,show(ji f.1.bz)=true from h3,show(decide (0≤f.1.cls))=true from h4,show(decide (f.1.cls<A.aO.cls.length))=true from h5,show(decide (0≤f.1.deadline))=true from h6,show(decide (f.1.deadline≤1099511627776))=true from h7,show(c_ f.1.op == 0)=true from h8,qY,Bool.and_true]
end Adm
end Go.Proofs.YtbmakdofbejlnaaGreatDoor
