/- Texts of the proof, put together and shortened. No condition. -/
import Derived.Test.YtkgfhabealjjpaaGreatDoorZi3
set_option maxRecDepth 100000
set_option maxHeartbeats 16000000
set_option linter.unusedVariables false
set_option linter.unusedSectionVars false
set_option linter.unusedSimpArgs false
namespace Go.Proofs.YtkgfhabealjjpaaGreatDoor
variable (Fr : Nat → Prop) (w : World)
namespace Cl
open Go Vg T Api Ch
attribute [local irreducible] VO VC VA
def fx(s:ByteArray):List Value:=[.string s]
theorem rY(s:ByteArray):(fx s).length=1:=rfl
theorem Nx(s:ByteArray):(fx s).all Value.oneCell'=true:=rfl
theorem Ub{a:Option Addr}{cap:Nat}{l:List aS}(h:aT aD 2 Fr w a l)(hl:l.length≤1000000):ax Tryz.prog 249 [.slice a l.length cap] Fr w [] (fun v L=>∃a' cap',v=.slice a' l.length cap'∧L=[aq aP 2 a' l.length cap' (flat aD l)]):=by
 refine TF 8 Tryz.func249 Z yp aC Z Z ?_
 cases a with
 | none=>
  obtain rfl:l=[]:=by
   cases l with
   | nil=>rfl
   | cons x l=>obtain⟨b,o,h1,_⟩:=h.at_ yi;cases h1
  refine sg ?_
  exact A1
 | some a=>
  refine jR ?_
  refine CS (CG (VG (VO.buildSlice (n:=0) (pv:=[]) [] Z Z Z Z yy Z fun b=>?_)))
  refine HJ ?_
  refine VG (VO.append (m:=l.length) (news:=flat aD l) 0 Z Z Z Z Z Z Z (aT.row cu h) (nZ vq _) En yg fun a' c' _=>?_)
  rw[cj,mZ]
  refine al ?_
  exact xR
theorem Uc{a:Option Addr}{cap:Nat}{l:List aS}{i:Nat}(hi:i<l.length)(hl:l.length≤1000000):ax Tryz.prog 234 [.slice a l.length cap,.int .i64 (i:Int),.int .i64 ((i:Int)+1)] Fr w [aq aP 2 a l.length cap (flat aD l)]
  (fun v L=>∃a' cap',v=.slice a' (l.eraseIdx i).length cap'∧L=[aq aP 2 a' (l.eraseIdx i).length cap' (flat aD (l.eraseIdx i))]):=by
 have hel:(l.eraseIdx i).length=l.length-1:=by rw[List.length_eraseIdx,if_pos hi]
 refine TF 33 Tryz.func234 Z yp aC Z Z ?_
 refine jz ?_
 refine VC.bz 0 Z (bd.sl _ _ _ _ _ _) ?_
 rintro(_ | ⟨sb,rest⟩) ⟨hx1,hx2,hx3⟩
 ·obtain⟨_,h0,_⟩:=hx3
  omega
 obtain⟨rfl,hx4⟩:=hx3
 have hcl:(flat aD l++rest).length=cap*2:=by simpa using hx4
 have hfl:=eu cu l
 have hcap:l.length≤cap:=by
  rw[a8,hfl] at hcl
  exact Nat.le_of_mul_le_mul_right yg (by decide:0<2)
 obtain⟨z,hz,hwr⟩:=J1 cu hi rest
 have hdl:(l.drop (i+1)).length=l.length-(i+1):=su
 have hdf:(flat aD (l.drop (i+1))).length=(l.length-(i+1))*2:=by rw[eu cu,hdl]
 dsimp only
 refine ae ?_
 refine OJ ?_
 refine ae ?_
 refine CE Z (fun h=>absurd h yg) (fun h=>CK ?_)
 refine ae ?_
 refine D_ ?_
 refine cX ?_
 refine AG (AI Z (FZ i Z Z Z Z Z Z yg) ?_)
 refine cX ?_
 refine AG (AI Z (KY (i+1) Z Z Z Z Z Z yg yg) ?_)
 refine AG (AO (aK.I' (n:=i) (m:=l.length-(i+1)) (news:=flat aD (l.drop (i+1))) 0 rfl rfl rfl rfl rfl rfl rfl ?_ (nZ vq _) yg ?_) rfl (fun v L' g=>by obtain⟨rfl,rfl⟩:=g;exact kp) ?_)
 ·by_cases hm:l.length=i+1
  ·have e:l.drop (i+1)=[]:=iC yg
   rw[e,show l.length-(i+1)=0 from by omega]
   exact dm.nil
  ·have hne:¬cap=i+1:=by omega
   have hfa:rA (some ⟨sb,0,none⟩) cap (i+1) 2=some ⟨sb,0+(i+1)*2,none⟩:=by unfold rA;simp[hne,Addr.add_mid]
   show dm _ _ (.slice (rA (some ⟨sb,0,none⟩) cap (i+1) 2) _ _) _ _ _
   rw[hfa]
   refine dm.pt 0 Z ?_ hdf
   show((flat aD l++rest).drop (0+(i+1)*2)).take ((l.length-(i+1))*2)=_
   rw[cj,B_ cu _ _ _ yg,wk hdf]
 ·show i*2+(flat aD (l.drop (i+1))).length≤(flat aD l++rest).length
  rw[hdf,a8,hfl,←qj]
  exact ph (sv _ yg) (Nat.le_add_right _ _)
 rintro _ _ ⟨rfl,rfl⟩
 rw[show i+(l.length-(i+1))=l.length-1 from by omega]
 show VA _ _ _ _ _ _ [pt sb (dM (flat aD l++rest) (i*2) (flat aD (l.drop (i+1)))) aP] _
 rw[hwr]
 refine pf ?_
 refine OK ?_
 rw[show l.length-(l.length-1)=1 from by omega]
 have hzz:(aD (0,0)).length=z.length:=by rw[hz];rfl
 refine VG (VO.sV (L':=[pt sb (flat aD (l.eraseIdx i)++((aD (0,0))++rest)) aP]) ((aK.clear 0 Z Z Z Z Z yy ?_ Z).mono fun v L' g=>⟨g.1,by
  rw[g.2]
  show [pt sb (dM (flat aD (l.eraseIdx i)++(z++rest)) (0+(l.length-1)*2) (aD (0,0))) aP]=_
  rw[NV (by rw[eu cu,hel];omega) hzz]⟩) ?_)
 ·show 0+(l.length-1)*2+1*2≤(flat aD (l.eraseIdx i)++(z++rest)).length
  rw[a8,a8,eu cu,hel,hz];omega
 refine ae ?_
 refine CR (an.tmp 6 Z Z (L':=[aq aP 2 (some ⟨sb,0,none⟩) (l.length-1) cap (flat aD (l.eraseIdx i))]) (aa.sl (by rw[eu cu,hel]) yg ?_ aa.refl).aj Pz)
 rw[a8,a8,eu cu,hel,hzz,hz]
 rw[a8,hfl] at hcl
 have:(l.length-1)*2+2=l.length*2:=by rw[←zb];congr 1;omega
 omega
theorem aaC{a:Option Addr}{cap:Nat}{l:List ByteArray}(h:aT fx 1 Fr w a l)(hl:l.length≤1000000):ax Tryz.prog 128 [.slice a l.length cap] Fr w [] (fun v L=>∃a' cap',v=.slice a' l.length cap'∧L=[aq 9 1 a' l.length cap' (flat fx l)]):=by
 refine TF 8 Tryz.func128 Z yp aC Z Z ?_
 cases a with
 | none=>
  obtain rfl:l=[]:=by
   cases l with
   | nil=>rfl
   | cons x l=>obtain⟨b,o,h1,_⟩:=h.at_ yi;cases h1
  refine sg ?_
  exact A1
 | some a=>
  refine jR ?_
  refine CS (CG (VG (VO.buildSlice (n:=0) (pv:=[]) [] Z Z Z Z yy Z fun b=>?_)))
  refine VO.aj (L':=[aq 9 1 (some ⟨b,0,none⟩) 0 0 []]) (aa.sl (M:=[]) (cs:=[]) (rest:=[]) Z (NR _) Z (aa.refl (L:=[pt b [] 9]))).aj ?_
  refine VG (VO.append (m:=l.length) (news:=flat fx l) 0 Z Z Z Z Z Z Z (aT.row rY h) (nZ Nx _) En yg fun a' c' _=>?_)
  rw[cj,mZ]
  refine al ?_
  exact xR
theorem aaD{a:Option Addr}{cap:Nat}{l:List ByteArray}{i:Nat}(hi:i<l.length)(hl:l.length≤1000000):ax Tryz.prog 171 [.slice a l.length cap,.int .i64 (i:Int),.int .i64 ((i:Int)+1)] Fr w [aq 9 1 a l.length cap (flat fx l)]
  (fun v L=>∃a' cap',v=.slice a' (l.eraseIdx i).length cap'∧L=[aq 9 1 a' (l.eraseIdx i).length cap' (flat fx (l.eraseIdx i))]):=by
 have hel:(l.eraseIdx i).length=l.length-1:=by rw[List.length_eraseIdx,if_pos hi]
 refine TF 33 Tryz.func171 Z yp aC Z Z ?_
 refine jz ?_
 refine VC.bz 0 Z (bd.sl _ _ _ _ _ _) ?_
 rintro(_ | ⟨sb,rest⟩) ⟨hx1,hx2,hx3⟩
 ·obtain⟨_,h0,_⟩:=hx3
  omega
 obtain⟨rfl,hx4⟩:=hx3
 have hcl:(flat fx l++rest).length=cap*1:=by simpa using hx4
 have hfl:=eu rY l
 have hcap:l.length≤cap:=by
  rw[a8,hfl] at hcl
  exact Nat.le_of_mul_le_mul_right yg (by decide:0<1)
 obtain⟨z,hz,hwr⟩:=J1 rY hi rest
 have hdl:(l.drop (i+1)).length=l.length-(i+1):=su
 have hdf:(flat fx (l.drop (i+1))).length=(l.length-(i+1))*1:=by rw[eu rY,hdl]
 dsimp only
 refine ae ?_
 refine OJ ?_
 refine ae ?_
 refine CE Z (fun h=>absurd h yg) (fun h=>CK ?_)
 refine ae ?_
 refine D_ ?_
 refine cX ?_
 refine AG (AI Z (FZ i Z Z Z Z Z Z yg) ?_)
 refine cX ?_
 refine AG (AI Z (KY (i+1) Z Z Z Z Z Z yg yg) ?_)
 refine AG (AO (aK.I' (n:=i) (m:=l.length-(i+1)) (news:=flat fx (l.drop (i+1))) 0 rfl rfl rfl rfl rfl rfl rfl ?_ (nZ Nx _) yg ?_) rfl (fun v L' g=>by obtain⟨rfl,rfl⟩:=g;exact kp) ?_)
 ·by_cases hm:l.length=i+1
  ·have e:l.drop (i+1)=[]:=iC yg
   rw[e,show l.length-(i+1)=0 from by omega]
   exact dm.nil
  ·have hne:¬cap=i+1:=by omega
   have hfa:rA (some ⟨sb,0,none⟩) cap (i+1) 1=some ⟨sb,0+(i+1)*1,none⟩:=by unfold rA;simp[hne,Addr.add_mid]
   show dm _ _ (.slice (rA (some ⟨sb,0,none⟩) cap (i+1) 1) _ _) _ _ _
   rw[hfa]
   refine dm.pt 0 Z ?_ hdf
   show((flat fx l++rest).drop (0+(i+1)*1)).take ((l.length-(i+1))*1)=_
   rw[cj,B_ rY _ _ _ yg,wk hdf]
 ·show i*1+(flat fx (l.drop (i+1))).length≤(flat fx l++rest).length
  rw[hdf,a8,hfl,←qj]
  exact ph (sv _ yg) (Nat.le_add_right _ _)
 rintro _ _ ⟨rfl,rfl⟩
 rw[show i+(l.length-(i+1))=l.length-1 from by omega]
 show VA _ _ _ _ _ _ [pt sb (dM (flat fx l++rest) (i*1) (flat fx (l.drop (i+1)))) 9] _
 rw[hwr]
 refine pf ?_
 refine OK ?_
 rw[show l.length-(l.length-1)=1 from by omega]
 have hzz:(fx ⟨#[]⟩).length=z.length:=by rw[hz];rfl
 refine VG (VO.sV (L':=[pt sb (flat fx (l.eraseIdx i)++((fx ⟨#[]⟩)++rest)) 9]) ((aK.clear 0 Z Z Z Z Z yy ?_ Z).mono fun v L' g=>⟨g.1,by
  rw[g.2]
  show [pt sb (dM (flat fx (l.eraseIdx i)++(z++rest)) (0+(l.length-1)*1) (fx ⟨#[]⟩)) 9]=_
  rw[NV (by rw[eu rY,hel];omega) hzz]⟩) ?_)
 ·show 0+(l.length-1)*1+1*1≤(flat fx (l.eraseIdx i)++(z++rest)).length
  rw[a8,a8,eu rY,hel,hz];omega
 refine ae ?_
 refine CR (an.tmp 6 Z Z (L':=[aq 9 1 (some ⟨sb,0,none⟩) (l.length-1) cap (flat fx (l.eraseIdx i))]) (aa.sl (by rw[eu rY,hel]) yg ?_ aa.refl).aj Pz)
 rw[a8,a8,eu rY,hel,hzz,hz]
 rw[a8,hfl] at hcl
 have:(l.length-1)*1+1=l.length*1:=by rw[←zb];congr 1;omega
 omega
end Cl
namespace Cl
open Go Vg T Api
attribute [local irreducible] VO VC VA
abbrev zt:TypeId:=5
def jG(b:UInt8):List Value:=[.int .u8 (b.toNat:Int)]
theorem E5(b:UInt8):(jG b).length=1:=rfl
theorem R8(l:Bs):flat jG l=l.map fun c=>Value.int .u8 (c.toNat:Int):=by
 induction l with
 | nil=>rfl
 | cons b l ih=>rw[lz,ih];rfl
theorem FA(l:Bs):(flat jG l).length=l.length:=by rw[eu E5];omega
theorem wrap_u8(n:Nat):IntKind.u8.wrap (n:Int)=((UInt8.ofNat n).toNat:Int):=by
 simp[IntKind.wrap,IntKind.bits,IntKind.signed,UInt8.toNat_ofNat']
theorem AX{n:Nat}(h:n<18446744073709551616):IntKind.u64.wrap (n:Int)=(n:Int):=wrap_u64 yg yg
theorem Ju{l:Bs}{rest:List Value}{i:Nat}{v:UInt8}(h:l[i]?=some v):(flat jG l++rest)[0+i*1]?=some (.int .u8 (v.toNat:Int)):=by
 have:=oN E5 (j:=0) h rfl rest
 rw[cj];exact this
theorem Jv{l:Bs}{rest:List Value}{i:Nat}{v:UInt8}(h:i<l.length):(flat jG l++rest).set (0+i*1) (.int .u8 (v.toNat:Int))=flat jG (l.set i v)++rest:=by
 obtain⟨u,hu⟩:∃u,l[i]?=some u:=⟨_,GE h⟩
 have:=u_ E5 (a':=v) (j:=0) hu yy rfl rest
 rw[cj];exact this
structure wC(cs ds:Bs)(i:Nat):Prop where
 len:ds.length=cs.length
 at_:∀k,k<cs.length→ds[k]?=if k<i∨cs.length-i≤k then cs[cs.length-1-k]? else cs[k]?
theorem wC.done{cs ds:Bs}{i:Nat}(h:wC cs ds i)(hi:cs.length≤2*i+1):ds=cs.reverse:=by
 refine qe fun k=>?_
 by_cases hk:k<cs.length
 ·rw[h.at_ k hk,List.getElem?_reverse hk]
  split
  ·rfl
  ·congr 1;omega
 ·rw[kr (by rw[h.len];omega),kr (by rw[List.length_reverse];omega)]
theorem wC.next{cs ds:Bs}{i:Nat}{x y:UInt8}(h:wC cs ds i)(hi:2*i+1<cs.length)(hx:ds[i]?=some x)(hy:ds[cs.length-1-i]?=some y):wC cs ((ds.set i y).set (cs.length-1-i) x) (i+1):=by
 have hl:=h.len
 refine⟨by simp[hl],fun k hk=>?_⟩
 have e1:cs[i]?=some x:=by rw[←hx,h.at_ i yg,if_neg yg]
 have e2:cs[cs.length-1-i]?=some y:=by rw[←hy,h.at_ _ yg,if_neg yg]
 by_cases h1:k=cs.length-1-i
 ·subst h1
  rw[iR yh,if_pos yg,show cs.length-1-(cs.length-1-i)=i from by omega,e1]
 rw[lU yg]
 by_cases h2:k=i
 ·subst h2
  rw[iR yg,if_pos yg,e2]
 rw[lU yg,h.at_ k hk]
 by_cases h3:k<i∨cs.length-i≤k
 ·rw[if_pos h3,if_pos yg]
 ·rw[if_neg h3,if_neg yg]
theorem Wx(b n cap:Nat)(cs:Bs)(rest:List Value)(hn:cs.length=n)(h0:1≤n)(h1:n≤1000):
  ax Tryz.prog 263 [.slice (some ⟨b,0,none⟩) n cap] Fr w [pt b (flat jG cs++rest) zt] (fun v L=>v=.tuple #[]∧L=[pt b (flat jG cs.reverse++rest) zt]):=by
 refine TF 28 Tryz.func263 Z yp aC Z Z ?_
 refine ae ?_
 refine pZ ?_
 refine ae ?_
 refine VC.loop (σ:=Nat×Bs) (fun s=>[(0,.slice (some ⟨b,0,none⟩) n cap),(2,.int .i64 (s.1:Int)),(3,.int .i64 ((n:Int)-1-s.1))]) (fun s=>[pt b (flat jG s.2++rest) zt]) (fun s=>wC cs s.2 s.1∧s.1≤n) (fun s=>n-s.1) (0,cs)
  (by refine⟨⟨rfl,fun k hk=>?_⟩,bH _⟩;rw[if_neg yg]) (SC rfl (SC rfl (Sub.int rfl fB (SN _)))) ER ?_
 rintro⟨i,ds⟩ ⟨hR,hi⟩
 have hl:ds.length=n:=by rw[hR.len,hn]
 dsimp only
 refine ae ?_
 refine CP (p:=(i:Int)<(n:Int)-1-i) Z (fun h2=>CK ?_) (fun h2=>CX ?_)
 rotate_left
 ·have hd:=hR.done yg
  subst hd
  refine ae ?_
  exact vO
 obtain⟨x,hx⟩:∃x,ds[i]?=some x:=⟨_,GE yg⟩
 obtain⟨y,hy⟩:∃y,ds[n-1-i]?=some y:=⟨_,GE yg⟩
 have hj:(n:Int)-1-i=((n-1-i:Nat):Int):=by omega
 have hcap:n≤n:=NR _
 rw[hj]
 refine ae ?_
 refine CD (ts 0 13 (.only 13 (.take 14 (.only 15 .nil)))) yp yr ?_
 refine cX ?_
 refine AG (AI Z (eE (n-1-i) Z Z Z Z Z Z yg) ?_)
 refine AG (VA.ld 0 Z Z Z Z (Ju (i:=n-1-i) hy) ?_)
 refine cX ?_
 refine AG (AI Z (eE i Z Z Z Z Z Z yg) ?_)
 refine AG (VA.ld 0 Z Z Z Z (Ju (i:=i) hx) ?_)
 refine cX ?_
 refine AG (AI Z (eE i Z Z Z Z Z Z yg) ?_)
 refine AG (VA.st 0 (cs':=flat jG (ds.set i y)++rest) Z Z Z Z Z (by show 0+i*1<_;rw[a8,FA];omega) (Jv (i:=i) yg) Z yu ?_)
 refine cX ?_
 refine AG (AI Z (eE (n-1-i) Z Z Z Z Z Z yg) ?_)
 refine AG (VA.st 0 (cs':=flat jG ((ds.set i y).set (n-1-i) x)++rest) Z Z Z Z Z (by show 0+(n-1-i)*1<_;rw[a8,FA,fW];omega) (Jv (i:=n-1-i) (by rw[fW];omega)) Z yu ?_)
 refine cX ?_
 refine Bm ?_
 refine pZ ?_
 refine ae ?_
 refine⟨(i+1,(ds.set i y).set (n-1-i) x),⟨?_,by omega⟩,by dsimp only;omega,SC Z (SC Z (Sub.int Z fB (SN _))),ER⟩
 subst hn
 exact hR.next yg hx hy
end Cl
namespace Cl
open Go Vg T Api
attribute [local irreducible] VO VC VA
theorem ofNat_mod(n:Nat):UInt8.ofNat (n % 256)=UInt8.ofNat n:=by apply UInt8.toNat_inj.1;simp[UInt8.toNat_ofNat']
theorem TC:∀k,jZ k 0=[]
 | 0=>rfl
 | k+1=>by rw[jZ,if_pos rfl]
theorem EV(l:Bs)(k:Nat):(bT l).extract k (bT l).size=bT (l.drop k):=by
 rw[iF];exact ByteArray.ext (by simp[bT,qg])
theorem Jc(l:Bs)(k:Nat):(bT l).extract 0 k=bT (l.take k):=ByteArray.ext (by simp[bT])
theorem QG(a b:ByteArray):(a.toList == b.toList)=decide (a=b):=by
 by_cases h:a=b
 ·subst h;simp
 ·have:a.toList≠b.toList:=fun e=>h (by
   rw[ByteArray.toList_eq,ByteArray.toList_eq] at e
   exact ByteArray.ext (oz.1 e))
  rw[DF h];simpa using this
theorem ri(a b:Bs):((bT a).toList == (bT b).toList)=decide (a=b):=by
 rw[QG]
 by_cases h:a=b
 ·rw[DT h,DT (congrArg bT h)]
 ·rw[DF h,DF fun k=>h (Qp k)]
theorem Qw{r:Bs}{j:Nat}{b:UInt8}(h:r[j]?=some b):kD (r.take (j+1))=kD (r.take j)*256+b.toNat:=by
 rw[fX,h,←Ji];rfl
theorem Jl{r:Bs}{j:Nat}(h:j≤8):kD (r.take j)<256 ^ j:=by
 have:=Jk (r.take j)
 exact wu this (BA yy Ix)
theorem VZ{j:Nat}(h:j≤7):256 ^ j≤72057594037927936:=by
 have:256 ^ j≤256 ^ 7:=BA yy h
 exact this
theorem V0{j:Nat}(h:j≤8):256 ^ j≤18446744073709551616:=by
 have:256 ^ j≤256 ^ 8:=BA yy h
 exact this
theorem Gt(n:Nat)(hn:n<18446744073709551616):ax Tryz.prog 216 [.int .u64 n] Fr w [] (fun v L=>v=.string (bT (mP n))∧L=[]):=by
 refine TF 30 Tryz.func216 Z yp aC Z Z ?_
 refine ae ?_
 refine CP (p:=(n:Int)≤247) Z (fun h=>?_) (fun h=>CK ?_)
 ·refine ae ?_
  refine VG (VI (pI ((UInt8.ofNat n).toNat:Int) Z Z Z Z Z (wrap_u8 n)) ?_)
  refine VG (VO.buildSlice (pv:=[(0,.int .u8 ((UInt8.ofNat n).toNat:Int))]) (jG (UInt8.ofNat n)) Z Z Z Z yy Z fun b=>?_)
  refine VG (VO.sV (aK.str (bs:=[UInt8.ofNat n]) 0 Z Z Z Z Z Z Z Z Z Z) ?_)
  refine ae ?_
  exact CR (an.tmp 2 Z Z aa.nil.aj ⟨by rw[mP,if_pos yg];rfl,Z⟩)
 refine ae ?_
 refine VC.loop (σ:=Bs×Nat×Option Addr×Nat) (fun s=>[(0,.int .u64 (s.2.1:Int)),(3,.slice s.2.2.1 s.1.length s.2.2.2)]) (fun s=>[aq zt 1 s.2.2.1 s.1.length s.2.2.2 (flat jG s.1)]) (fun s=>jZ 8 n=s.1++jZ (8-s.1.length) s.2.1∧s.1.length≤8∧s.2.1<256 ^ (8-s.1.length)) (fun s=>8-s.1.length) ([],n,none,0)
  ⟨rfl,bH _,hn⟩ aH (aa.cK aa.nil).aj ?_
 rintro⟨done,cur,a,c⟩ ⟨hJ,hl,hc⟩
 dsimp only at hJ hl hc ⊢
 refine ae ?_
 refine CP (p:=0<(cur:Int)) Z (fun h2=>CK ?_) (fun h2=>CX ?_)
 ·obtain⟨k,hk⟩:∃k,8-done.length=k+1:=⟨8-done.length-1,by
   by_cases h8:done.length=8
   ·rw[h8] at hc;simp at hc;omega
   ·omega⟩
  have hu:jZ (k+1) cur=UInt8.ofNat cur::jZ k (cur / 256):=by rw[jZ,if_neg yg,ofNat_mod]
  rw[hk] at hc
  rw[hk,hu] at hJ
  refine ae ?_
  refine VG (VI (pI ((UInt8.ofNat cur).toNat:Int) Z Z Z Z Z (wrap_u8 cur)) ?_)
  refine VG (VO.buildSlice (pv:=[(0,.int .u8 ((UInt8.ofNat cur).toNat:Int))]) (jG (UInt8.ofNat cur)) Z Z Z Z yy Z fun b=>?_)
  refine VG (VO.append (m:=1) (news:=jG (UInt8.ofNat cur)) 1 Z Z Z Z Z Z Z (dm.pt 0 Z Z Z) Z PA yg fun a2 c2 hc2=>?_)
  refine ae ?_
  refine VG (VI (TM (n:=8) Z Z yy) ?_)
  refine ae ?_
  have hL:(done ++ [UInt8.ofNat cur]).length=done.length+1:=by simp
  refine⟨(done ++ [UInt8.ofNat cur],cur / 2 ^ 8,a2,c2),⟨?_,by dsimp only;omega,?_⟩,by dsimp only;omega,SC Z (SC (by dsimp only;rw[hL];rfl) (SN _)),?_⟩
  ·dsimp only
   rw[hJ,hL,show 8-(done.length+1)=k from by omega,ed];rfl
  ·dsimp only
   rw[hL,show 8-(done.length+1)=k from by omega]
   rw[Nat.pow_succ] at hc
   exact Nat.div_lt_of_lt_mul (by rw[Nat.mul_comm];exact hc)
  ·dsimp only
   rw[hL,fu]
   exact(IP 0 Z aa.nil).aj
 obtain rfl:cur=0:=by omega
 rw[TC,br] at hJ
 refine Bm ?_
 refine VG (VI (pI ((UInt8.ofNat (247+done.length)).toNat:Int) Z Z Z Z Z (wrap_u8 (247+done.length))) ?_)
 generalize hz:UInt8.ofNat (247+done.length)=z
 refine VG (VO.buildSlice (pv:=[(0,.int .u8 (z.toNat:Int))]) (jG z) Z Z Z Z yy Z fun b=>?_)
 refine VG (VO.append (m:=1) (news:=jG z) 1 Z Z Z Z Z Z Z (dm.pt 0 Z Z Z) Z PA yg fun a2 c2 hc2=>?_)
 refine ae ?_
 rw[show flat jG done++jG z=flat jG (done ++ [z]) from by rw[fu];rfl]
 refine VO.bz 0 Z (bd.sl _ _ _ _ _ _) ?_
 rintro(_ | ⟨sb,rest⟩) ⟨hx1,hx2,hx3⟩
 ·obtain⟨_,h0,_⟩:=hx3
  omega
 obtain⟨rfl,hx4⟩:=hx3
 dsimp only
 refine ae ?_
 refine VG (VQ 0 Z (fun Fr w hF hw _=>Wx Fr w sb (done.length+1) c2 (done ++ [z]) rest yi yg yg) Z (ψ:=fun v H=>v=.tuple #[]∧H=pt sb (flat jG (done ++ [z]).reverse++rest) zt) yz ?_)
 rintro _ _ ⟨rfl,rfl⟩
 refine ae ?_
 refine VG (VO.sV (aK.str (bs:=(done ++ [z]).reverse) 0 Z Z Z Z Z Z Z Z yi (by rw[←R8,wk (by rw[FA];simp)])) ?_)
 refine ae ?_
 exact CR (an.tmp 2 Z Z aa.nil.aj ⟨by rw[mP,if_neg yg,hJ,hz,List.reverse_append];rfl,Z⟩)
theorem nu(n:Int):ax Tryz.prog 145 [.int .i64 n] Fr w [] (fun v L=>v=.string (bT (cO n))∧L=[]):=by
 refine TF 13 Tryz.func145 Z yp aC Z Z ?_
 refine ae ?_
 by_cases h1:n < -1
 ·refine VG (VY 5 true Z (DT h1) ?_)
  refine oy ?_
  exact CR (an.tmp 2 Z Z ER ⟨by rw[cO,if_pos (.inl h1)];rfl,Z⟩)
 refine VG (VY 5 false Z (DF h1) ?_)
 refine av ?_
 refine CP (p:=1099511627776<n) Z (fun h2=>?_) (fun h2=>CK ?_)
 ·refine ae ?_
  exact CR (an.tmp 2 Z Z ER ⟨by rw[cO,if_pos (.inr h2)];rfl,Z⟩)
 refine Bm ?_
 refine VG (VI (pI (((n+1).toNat:Nat):Int) Z Z Z Z Z (by rw[wrap_u64 yg yg];omega)) ?_)
 refine VG (VV (fun Fr w hF hw _=>Gt Fr w (n+1).toNat yg) Z ?_)
 refine ae ?_
 exact CR (an.tmp 2 Z Z ER ⟨by rw[cO,if_neg yg],Z⟩)
theorem uy(s:ByteArray)(hs:s.size≤1000000):ax Tryz.prog 218 [.string s] Fr w [] (fun v L=>v=.string (bT (nJ (sB s)))∧L=[]):=by
 have hl:(mP s.size).length≤9:=by
  unfold mP
  split
  ·simp
  ·have:=Cp 8 s.size;simp;omega
 refine TF 9 Tryz.func218 Z yp aC Z Z ?_
 refine ae ?_
 refine VG (VI (pI (s.size:Int) Z Z Z Z Z (AX yg)) ?_)
 refine VG (VV (fun Fr w hF hw _=>Gt Fr w s.size yg) Z ?_)
 refine ae ?_
 refine VG (VI (oS Z Z (by rw[iF];omega)) ?_)
 refine ae ?_
 exact CR (an.tmp 2 Z Z ER ⟨by rw[nJ,mF,BS,uq],Z⟩)
end Cl
namespace Cl
open Go Vg T Api
attribute [local irreducible] VO VC VA
theorem an.t3{X:Cx}{fn:Func}{R:Value→List HP→Prop}{e:Env}{L:List HP}(t u r:Nat)(h:fn.results=#[.tmp t,.tmp u,.tmp r]){v x y:Value}(hv:Vg.look e t=some v)(hx:Vg.look e u=some x)(hy:Vg.look e r=some y){L':List HP}(he:dd X L L')(hR:R (.tuple #[v,x,y]) L'):an X fn R e L:=
 ⟨_,L',⟨fun a w ha hw=>by
  have h1:=ha.at_ t _ hv
  have h2:=ha.at_ u _ hx
  have h3:=ha.at_ r _ hy
  simp only[v8] at h1 h2 h3
  simp[results,h,h1,h2,h3]⟩,he,hR⟩
def G3:Option (Nat×Bs)→Value
 | some (n,r)=>.tuple #[.int .u64 n,.string (bT r),.bool true]
 | none=>.tuple #[.int .u64 0,.string (bT []),.bool false]
def Nz:Option (Int×Bs)→Value
 | some (n,r)=>.tuple #[.int .i64 n,.string (bT r),.bool true]
 | none=>.tuple #[.int .i64 0,.string (bT []),.bool false]
def JY:Option (Bs×Bs)→Value
 | some (n,r)=>.tuple #[.string (bT n),.string (bT r),.bool true]
 | none=>.tuple #[.string (bT []),.string (bT []),.bool false]
theorem C4(s:Bs)(hs:s.length≤1000000):ax Tryz.prog 273 [.string (bT s)] Fr w [] (fun v L=>v=G3 (mz s)∧L=[]):=by
 refine TF 48 Tryz.func273 Z yp aC Z Z ?_
 refine ae ?_
 refine CC Z (fun h=>?_) (fun h=>CK ?_)
 ·have h:s=[]:=by rw[show(ByteArray.mk #[])=bT [] from rfl,ri] at h;exact of_decide_eq_true h
  subst h
  refine ae ?_
  exact CR (an.t3 2 3 4 Z Z Z Z ER ⟨rfl,Z⟩)
 have h:s≠[]:=by rw[show(ByteArray.mk #[])=bT [] from rfl,ri] at h;exact of_decide_eq_false h
 obtain⟨c,r,rfl⟩:∃c r,s=c::r:=by cases s with
  | nil=>exact absurd rfl h
  | cons c r=>exact⟨c,r,rfl⟩
 have hc:c.toNat<256:=c.toNat_lt
 rw[ku] at hs
 have hsz:(bT (c::r)).size=r.length+1:=by rw[iF];rfl
 refine ae ?_
 refine VG (VI (Cq (b:=c) 0 Z Z Z Z Z Z) ?_)
 refine ae ?_
 refine CP (p:=(c.toNat:Int)≤247) Z (fun h2=>?_) (fun h2=>CK ?_)
 ·refine ae ?_
  refine CD (ts 0 8 .nil) yp yr ?_
  refine cX ?_
  refine AG (AI Z (Cq (b:=c) 0 Z Z Z Z Z Z) ?_)
  refine AG (AI Z (pI (c.toNat:Int) Z Z Z Z Z (AX yg)) ?_)
  refine cX ?_
  refine AG (AI Z (F0 1 Z Z Z Z Z (by rw[hsz];omega)) ?_)
  refine cX ?_
  exact CR (an.t3 2 3 4 Z Z Z Z ER ⟨by rw[mz,if_pos yg,EV];rfl,Z⟩)
 obtain⟨k,hk⟩:∃k,c.toNat-247=k:=⟨_,rfl⟩
 have hk1:1≤k:=by omega
 have hk8:k≤8:=by omega
 refine ae ?_
 refine VG (VI (Cq (b:=c) 0 Z Z Z Z Z Z) ?_)
 refine VG (VI (pI (c.toNat:Int) Z Z Z Z Z (i64_in _ yg yg)) ?_)
 refine tp ?_
 refine pZ ?_
 rw[show(1:Int)+c.toNat-247=((k+1:Nat):Int) from by omega]
 refine ae ?_
 have hr:mz (c::r)=if r.length<k then none else if mP (kD (r.take k))=c::r.take k then some (kD (r.take k),r.drop k) else none:=by
  rw[mz,if_neg yg,hk]
 refine CP (p:=((bT (c::r)).size:Int)<((k+1:Nat):Int)) Z (fun h3=>?_) (fun h3=>CK ?_)
 ·rw[hsz] at h3
  refine ae ?_
  exact CR (an.t3 2 3 4 Z Z Z Z ER ⟨by rw[hr,if_pos yg];rfl,Z⟩)
 rw[hsz] at h3
 rw[if_neg yg] at hr
 refine ae ?_
 refine VC.loop (σ:=Nat) (fun j=>[(0,.string (bT (c::r))),(5,.int .i64 ((k+1:Nat):Int)),(6,.int .i64 ((j+1:Nat):Int)),(2,.int .u64 ((kD (r.take j):Nat):Int))]) (fun _=>[]) (fun j=>j≤k) (fun j=>k-j) 0
  (bH _) (SC rfl (SC rfl (SC rfl (Sub.int rfl (by rw[qi];rfl) (SN _))))) ER ?_
 intro j hj
 refine ae ?_
 refine CP (p:=((j+1:Nat):Int)<((k+1:Nat):Int)) Z (fun h4=>CK ?_) (fun h4=>CX ?_)
 ·obtain⟨b,hb⟩:∃b,r[j]?=some b:=⟨_,GE yg⟩
  have h256:b.toNat<256:=b.toNat_lt
  have hlt:=Jl (r:=r) (j:=j) yg
  have hp:=VZ (j:=j) yg
  have hsh:kD (r.take j)*2 ^ 8<18446744073709551616:=by omega
  refine ae ?_
  refine VG (VI (K2 (n:=8) ((kD (r.take j)*2 ^ 8:Nat):Int) Z Z yy (AX hsh)) ?_)
  refine ae ?_
  refine VG (VI (Cq (b:=b) (j+1) Z Z Z Z Z hb) ?_)
  refine VG (VI (pI (b.toNat:Int) Z Z Z Z Z (AX yg)) ?_)
  refine VG (VI (TL Z Z hsh yg) ?_)
  refine gC ?_
  refine⟨j+1,by omega,by dsimp only;omega,SC Z (SC Z (Sub.int Z yg (Sub.int Z (by rw[Qw hb,show(2:Nat) ^ 8=256 from Z,Vj h256]) (SN _)))),ER⟩
 obtain rfl:j=k:=by omega
 have hlt:=Jl (r:=r) (j:=j) hk8
 have hp:=V0 (j:=j) hk8
 refine ae ?_
 refine CD (ts 0 1 (ts 2 3 (.only 1 (.take 5 .nil)))) yp yr ?_
 refine cX ?_
 refine AG (AI Z (K1 (j+1) Z Z Z Z Z (by rw[hsz];omega)) ?_)
 refine AG (AR (fun Fr w hF hs hS=>Gt Fr w (kD (r.take j)) yg) Z Z yu ?_)
 refine cX ?_
 rw[Jc]
 refine VC.fq Z (fun h5=>?_) (fun h5=>CK ?_)
 ·have h5:¬mP (kD (r.take j))=c::r.take j:=by rw[ri] at h5;exact of_decide_eq_false h5
  refine ae ?_
  exact CR (an.t3 2 3 4 Z Z Z Z ER ⟨by rw[hr,if_neg h5];rfl,Z⟩)
 have h5:mP (kD (r.take j))=c::r.take j:=by rw[ri] at h5;exact of_decide_eq_true h5
 refine ae ?_
 refine CD (ts 0 7 .nil) yp yr ?_
 refine cX ?_
 refine AG (AI Z (F0 (j+1) Z Z Z Z Z (by rw[hsz];omega)) ?_)
 refine cX ?_
 exact CR (an.t3 2 3 4 Z Z Z Z ER ⟨by rw[hr,if_pos h5,EV];rfl,Z⟩)
theorem DI(s:Bs)(hs:s.length≤1000000):ax Tryz.prog 235 [.string (bT s)] Fr w [] (fun v L=>v=Nz (cd s)∧L=[]):=by
 refine TF 22 Tryz.func235 Z yp aC Z Z ?_
 refine ae ?_
 cases hr:mz s with
 | none=>
  refine OL ?_
  refine av ?_
  refine VG (VY 14 true Z Z ?_)
  refine oy ?_
  exact CR (an.t3 2 3 4 Z Z Z Z ER ⟨by rw[cd,hr];rfl,Z⟩)
 | some x=>
  obtain⟨u,r⟩:=x
  have hu:=Mr hr
  refine OM ?_
  refine av ?_
  refine VG (VY 14 false Z Z ?_)
  refine av ?_
  refine CP (p:=(1099511627777:Int)<(u:Int)) Z (fun h2=>?_) (fun h2=>CK ?_)
  ·refine ae ?_
   exact CR (an.t3 2 3 4 Z Z Z Z ER ⟨by rw[cd,hr];dsimp only;rw[if_pos yg];rfl,Z⟩)
  refine ae ?_
  refine VG (VI (pI (u:Int) Z Z Z Z Z (i64_in _ yg yg)) ?_)
  refine pZ ?_
  refine ae ?_
  exact CR (an.t3 2 3 4 Z Z Z Z ER ⟨by rw[cd,hr];dsimp only;rw[if_neg yg];rfl,Z⟩)
theorem Ro(s:Bs)(hs:s.length≤1000000):ax Tryz.prog 237 [.string (bT s)] Fr w [] (fun v L=>v=JY (iV s)∧L=[]):=by
 refine TF 27 Tryz.func237 Z yp aC Z Z ?_
 refine ae ?_
 cases hr:mz s with
 | none=>
  refine OL ?_
  refine av ?_
  refine VG (VY 14 true Z Z ?_)
  refine oy ?_
  exact CR (an.t3 2 3 4 Z Z Z Z ER ⟨by rw[iV,hr];rfl,Z⟩)
 | some x=>
  obtain⟨u,r⟩:=x
  have hu:=Mr hr
  have hrl:=G5 hr
  have hsz:(bT r).size=r.length:=iF r
  refine OM ?_
  refine av ?_
  refine VG (VY 14 false Z Z ?_)
  refine av ?_
  refine VG (VI (pI ((bT r).size:Int) Z Z Z Z Z (AX yg)) ?_)
  refine av ?_
  refine CP (p:=((bT r).size:Int)<(u:Int)) Z (fun h2=>?_) (fun h2=>CK ?_)
  ·refine ae ?_
   exact CR (an.t3 2 3 4 Z Z Z Z ER ⟨by rw[iV,hr];dsimp only;rw[if_pos yg];rfl,Z⟩)
  refine ae ?_
  refine CD (ts 0 9 .nil) yp yr ?_
  refine cX ?_
  refine AG (AI Z (K1 u Z Z Z Z Z yg) ?_)
  refine cX ?_
  refine AG (AI Z (F0 u Z Z Z Z Z yg) ?_)
  refine cX ?_
  exact CR (an.t3 2 3 4 Z Z Z Z ER ⟨by rw[iV,hr];dsimp only;rw[if_neg yg,EV,Jc];rfl,Z⟩)
end Cl
namespace Cl
open Go Vg T Api
attribute [local irreducible] VO VC VA
theorem LY(n:Nat):(mP n).length≤9:=by
 unfold mP
 split
 ·simp
 ·have:=Cp 8 n;simp;omega
theorem gw(n:Int):(cO n).length≤9:=by
 unfold cO
 split
 ·exact bH _
 ·exact LY _
theorem xK(s:Bs):(nJ s).length≤9+s.length:=by
 have:=LY s.length
 rw[nJ,a8];omega
theorem L5{o:bw}(h:dv o=0):o.key.size≤16∧o.value.size≤64:=by
 unfold dv at h
 split at h
 ·exact absurd h yy
 split at h
 ·exact absurd h yy
 rename_i h2
 simp[qH] at h2
 omega
theorem Gz{o:bw}(h:dv o=0):(pN o).length≤116:=by
 obtain⟨h1,h2⟩:=L5 h
 have a:=gw o.kind
 have b:=xK (sB o.key)
 have c:=xK (sB o.value)
 have d:=gw o.version
 rw[uq] at b c
 unfold pN
 simp only[a8]
 have e:(if mU o.kind=true then nJ (sB o.value) else []).length≤73:=by split<;>first | omega | simp
 have f:(if o.kind=4 then cO o.version else []).length≤9:=by split<;>first | omega | simp
 omega
theorem L7(o:bw):ax Tryz.prog 217 [.agg o.cells.toArray] Fr w [] (fun v L=>v=.tuple #[.string (bT (if dv o=0 then pN o else [])),.int .i64 (dv o)]∧L=[]):=by
 refine TF 35 Tryz.func217 Z yp aC Z Z ?_
 refine CS (CG (VG (VB (vs:=o.cells) Z fun b=>VG (VN ?_))))
 refine ae ?_
 refine VG (VL 0 o.cells Z Z Z Z ?_)
 refine VG (VV (fun Fr w hF hw _=>Api.gv Fr w o) Z ?_)
 refine ae ?_
 refine VC.dp Z (fun h=>?_) (fun h=>CK ?_)
 ·refine ae ?_
  exact CR (an.cV 2 3 Z Z Z aa.nil.aj ⟨by rw[if_neg h];rfl,Z⟩)
 rw[if_pos h,h]
 obtain⟨hk,hv⟩:=L5 h
 have l1:=gw o.kind
 have l2:=xK (sB o.key)
 have l3:=xK (sB o.value)
 have l4:=gw o.version
 rw[uq] at l2 l3
 refine ae ?_
 refine CD (ts 0 2 (ts 3 2 (.only 2 (.only 5 (ts 6 2 .nil))))) yp yr ?_
 refine bp ?_
 refine AG (AR (fun Fr w hF hs hS=>nu Fr w o.kind) Z Z yu ?_)
 refine AG (AR (fun Fr w hF hs hS=>uy Fr w o.key yg) Z Z yu ?_)
 refine Ba ?_
 rw[←mF]
 refine uJ ?_
 refine VG (VV (fun Fr w hF hw _=>DL Fr w o.kind) Z ?_)
 refine al ?_
 refine VC.bZ (σ:=Bs) (fun s=>[(1,pV b),(5,.string (bT s))]) (fun _=>[pt b o.cells 36]) (fun s=>s=cO o.kind++nJ (sB o.key)++(if mU o.kind=true then nJ (sB o.value) else [])) ?_ ?_
 ·refine CC Z (fun h2=>?_) (fun h2=>CK ?_)
  ·refine al ?_
   refine VG (VV (fun Fr w hF hw _=>uy Fr w o.value yg) Z ?_)
   refine VG (VI (oS Z Z (by rw[iF,iF,a8];omega)) ?_)
   rw[←mF]
   refine al ?_
   exact⟨_,by rw[show mU o.kind=true from h2,if_pos rfl],SC Z (SC Z (SN _)),ER⟩
  ·exact⟨_,by rw[show mU o.kind=false from h2,if_neg yy,br],SC Z (SC Z (SN _)),ER⟩
 rintro s rfl
 have e:(if mU o.kind=true then nJ (sB o.value) else []).length≤73:=by split<;>first | omega | simp
 refine al ?_
 refine VC.bZ (σ:=Bs) (fun s=>[(1,pV b),(5,.string (bT s))]) (fun _=>[pt b o.cells 36]) (fun s=>s=pN o) ?_ ?_
 ·refine CE Z (fun h2=>?_) (fun h2=>CK ?_)
  ·refine al ?_
   refine VG (VV (fun Fr w hF hw _=>nu Fr w o.version) Z ?_)
   refine D' ?_
   rw[←mF]
   refine al ?_
   exact⟨_,by rw[pN,if_pos h2],SC Z (SC Z (SN _)),ER⟩
  ·exact⟨_,by rw[pN,if_neg h2,br],SC Z (SC Z (SN _)),ER⟩
 rintro s rfl
 refine al ?_
 exact CR (an.cV 2 3 Z Z Z aa.nil.aj ⟨rfl,Z⟩)
end Cl
namespace Cl
open Go Vg T Api
attribute [local irreducible] VO VC VA
theorem Rn{s a r:Bs}(h:iV s=some (a,r)):a.length≤s.length∧r.length≤s.length:=by
 unfold iV at h
 cases hr:mz s with
 | none=>rw[hr] at h;cases h
 | some x=>
  obtain⟨n,q⟩:=x
  have:=G5 hr
  rw[hr] at h
  dsimp only at h
  split at h
  ·cases h
  ·simp only[Option.some.injEq,Prod.mk.injEq] at h
   obtain⟨rfl,rfl⟩:=h
   rw[jj,su];omega
def g1(s:Bs):Option (bw×Bs):=(cd s).map fun x=>(⟨x.1,bT [],bT [],0⟩,x.2)
def g2(s:Bs):Option (bw×Bs):=(g1 s).bind fun x=>(iV x.2).map fun y=>({ x.1 with key:=bT y.1 },y.2)
def g3(s:Bs):Option (bw×Bs):=(g2 s).bind fun x=>if mU x.1.kind=true then (iV x.2).map fun y=>({ x.1 with value:=bT y.1 },y.2) else some x
def g4(s:Bs):Option (bw×Bs):=(g3 s).bind fun x=>if x.1.kind=4 then (cd x.2).map fun y=>({ x.1 with version:=y.1 },y.2) else some x
theorem Cd(s:Bs):rC s=(g4 s).bind fun x=>if x.2=[]∧dv x.1=0 then some x.1 else none:=by
 unfold rC g4 g3 g2 g1
 cases h1:cd s with
 | none=>rfl
 | some x=>
  obtain⟨k,r⟩:=x
  simp only[ng,jS]
  cases h2:iV r with
  | none=>rfl
  | some y=>
   obtain⟨key,r2⟩:=y
   simp only[ng,jS]
   by_cases hv:mU k=true
   ·simp only[hv,if_true]
    cases h3:iV r2 with
    | none=>rfl
    | some z=>
     obtain⟨val,r3⟩:=z
     simp only[ng,jS]
     by_cases h4:k=4
     ·simp only[h4,if_true]
      cases h5:cd r3 with
      | none=>rfl
      | some u=>simp only[ng,jS]
     ·simp only[h4,if_false,jS]
   ·simp only[hv,if_false,Bool.false_eq_true,jS]
    by_cases h4:k=4
    ·exact absurd (by subst h4;rfl) hv
    ·simp only[h4,if_false,jS]
structure GI(o:Option (bw×Bs))(n:Nat)(x:bw×Bs×Bool):Prop where
 len:x.2.1.length≤n
 KH:if x.2.2=true then o=some (x.1,x.2.1) else o=none
theorem GI.yes{o:Option (bw×Bs)}{n:Nat}{p:bw}{r:Bs}(h:o=some (p,r))(hl:r.length≤n):GI o n (p,r,true):=⟨hl,h⟩
theorem GI.no{o:Option (bw×Bs)}{n:Nat}{p:bw}{r:Bs}(h:o=none)(hl:r.length≤n):GI o n (p,r,false):=⟨hl,h⟩
theorem GI.t{o:Option (bw×Bs)}{n:Nat}{p:bw}{r:Bs}(h:GI o n (p,r,true)):o=some (p,r):=h.KH
theorem GI.f{o:Option (bw×Bs)}{n:Nat}{p:bw}{r:Bs}(h:GI o n (p,r,false)):o=none:=h.KH
abbrev Al:TypeId:=36
def zJ:Option bw→Value
 | some o=>.tuple #[.agg o.cells.toArray,.int .i64 0]
 | none=>.tuple #[.agg (bw.cells ⟨0,bT [],bT [],0⟩).toArray,.int .i64 10]
theorem DG(s:Bs):∃k r ok,Nz (cd s)=.tuple #[.int .i64 k,.string (bT r),.bool ok]∧r.length≤s.length∧(ok=true→cd s=some (k,r))∧(ok=false→cd s=none):=by
 cases h:cd s with
 | none=>exact⟨0,[],false,rfl,bH _,fun h=>(qd h).elim,fun _=>rfl⟩
 | some x=>exact⟨x.1,x.2,true,rfl,by have:=(aa9 (n:=x.1) (r:=x.2) h).2.2;omega,fun _=>rfl,fun h=>(qd h.symm).elim⟩
theorem Fh(s:Bs):∃a r ok,JY (iV s)=.tuple #[.string (bT a),.string (bT r),.bool ok]∧r.length≤s.length∧(ok=true→iV s=some (a,r))∧(ok=false→iV s=none):=by
 cases h:iV s with
 | none=>exact⟨[],[],false,rfl,bH _,fun h=>(qd h).elim,fun _=>rfl⟩
 | some x=>exact⟨x.1,x.2,true,rfl,(Rn (a:=x.1) (r:=x.2) h).2,fun _=>rfl,fun h=>(qd h.symm).elim⟩
abbrev gE(b2 b4:Nat)(x:bw×Bs×Bool):Env:=[(2,pV b2),(4,pV b4),(6,.string (bT x.2.1)),(7,.bool x.2.2)]
abbrev gH(b2 b4:Nat)(x:bw×Bs×Bool):List HP:=[pt b4 x.1.cells Al,pt b2 (bw.cells ⟨0,bT [],bT [],0⟩) Al]
theorem GI.mk'{o:Option (bw×Bs)}{n:Nat}{p:bw}{r:Bs}{ok:Bool}(hl:r.length≤n)(h1:ok=true→o=some (p,r))(h2:ok=false→o=none):GI o n (p,r,ok):=by
 cases ok with
 | true=>exact GI.yes (h1 rfl) hl
 | false=>exact GI.no (h2 rfl) hl
theorem CM(s:Bs)(hs:s.length≤1000000):ax Tryz.prog 236 [.string (bT s)] Fr w [] (fun v L=>v=zJ (rC s)∧L=[]):=by
 refine TF 63 Tryz.func236 Z yp aC Z Z ?_
 refine CS (CG (VG (VO.alloc Z fun b2=>?_)))
 refine ae ?_
 refine VG (VO.alloc Z fun b4=>?_)
 refine ae ?_
 obtain⟨k,r,ok,hv,hrl,hk1,hk2⟩:=DG s
 refine VG (VV (fun Fr w hF hw _=>hv▸DI Fr w s hs) Z ?_)
 refine av ?_
 refine VG (VO.st 0 (cs':=bw.cells ⟨k,bT [],bT [],0⟩) Z Z Z Z (by show 0<4;omega) Z Z ?_)
 refine av ?_
 have hI:GI (g1 s) s.length (⟨k,bT [],bT [],0⟩,r,ok):=GI.mk' hrl (fun h=>by rw[g1,hk1 h];rfl) (fun h=>by rw[g1,hk2 h];rfl)
 clear hk1 hk2 hv
 refine VC.bZ (gE b2 b4) (gH b2 b4) (GI (g2 s) s.length) ?_ ?_
 ·refine CC Z (fun h=>?_) (fun h=>CK ?_)
  ·subst h
   obtain⟨a,q,ok,hv,hql,hk1,hk2⟩:=Fh r
   refine av ?_
   refine H2 ?_
   refine av ?_
   refine VG (VO.st 0 (cs':=bw.cells ⟨k,bT a,bT [],0⟩) Z Z Z Z (by show 1<4;omega) Z Z ?_)
   refine av ?_
   refine⟨(⟨k,bT a,bT [],0⟩,q,ok),GI.mk' yg (fun h=>by rw[g2,hI.t];show(iV r).map _=_;rw[hk1 h];rfl) (fun h=>by rw[g2,hI.t];show(iV r).map _=_;rw[hk2 h];rfl),aH,ER⟩
  ·subst h
   exact⟨(⟨k,bT [],bT [],0⟩,r,false),GI.no (by rw[g2,hI.f];rfl) hrl,aH,ER⟩
 clear hI hrl
 rintro⟨p,r,ok⟩ hI
 refine CS (VC.bZ (gE b2 b4) (gH b2 b4) (GI (g3 s) s.length) ?_ ?_)
 ·cases ok with
  | false=>
   refine av ?_
   refine VG (VY 25 false Z Z ?_)
   refine lS ?_
   exact⟨(p,r,false),GI.no (by rw[g3,hI.f];rfl) hI.len,aH,ER⟩
  | true=>
   have hrl:r.length≤s.length:=hI.len
   refine av ?_
   refine VG (VY 25 true Z Z ?_)
   refine bG ?_
   refine VG (VV (fun Fr w hF hw _=>DL Fr w p.kind) Z ?_)
   refine av ?_
   refine CC Z (fun h=>?_) (fun h=>CK ?_)
   ·obtain⟨a,q,ok,hv,hql,hk1,hk2⟩:=Fh r
    have e:g3 s=(iV r).map fun y=>({ p with value:=bT y.1 },y.2):=by rw[g3,hI.t];exact if_pos h
    refine av ?_
    refine H2 ?_
    refine av ?_
    refine VG (VO.st 0 (cs':=bw.cells { p with value:=bT a }) Z Z Z Z (by show 2<4;omega) Z Z ?_)
    refine av ?_
    exact⟨({ p with value:=bT a },q,ok),GI.mk' yg (fun h=>by rw[e,hk1 h];rfl) (fun h=>by rw[e,hk2 h];rfl),aH,ER⟩
   ·exact⟨(p,r,true),GI.yes (by rw[g3,hI.t];exact if_neg (by rw[show mU p.kind=false from h];decide)) hrl,aH,ER⟩
 clear hI
 clear p r ok
 rintro⟨p,r,ok⟩ hI
 refine CS (VC.bZ (gE b2 b4) (gH b2 b4) (GI (g4 s) s.length) ?_ ?_)
 ·cases ok with
  | false=>
   refine av ?_
   refine VG (VY 38 false Z Z ?_)
   refine lS ?_
   exact⟨(p,r,false),GI.no (by rw[g4,hI.f];rfl) hI.len,aH,ER⟩
  | true=>
   have hrl:r.length≤s.length:=hI.len
   refine av ?_
   refine VG (VY 38 true Z Z ?_)
   refine bG ?_
   refine CE Z (fun h=>?_) (fun h=>CK ?_)
   ·obtain⟨k,q,ok,hv,hql,hk1,hk2⟩:=DG r
    have e:g4 s=(cd r).map fun y=>({ p with version:=y.1 },y.2):=by rw[g4,hI.t];exact if_pos h
    refine av ?_
    refine VG (VV (fun Fr w hF hw _=>hv▸DI Fr w r yg) Z ?_)
    refine av ?_
    refine VG (VO.st 0 (cs':=bw.cells { p with version:=k }) Z Z Z Z (by show 3<4;omega) Z Z ?_)
    refine av ?_
    exact⟨({ p with version:=k },q,ok),GI.mk' yg (fun h=>by rw[e,hk1 h];rfl) (fun h=>by rw[e,hk2 h];rfl),aH,ER⟩
   ·exact⟨(p,r,true),GI.yes (by rw[g4,hI.t];exact if_neg h) hrl,aH,ER⟩
 clear hI
 clear p r ok
 rintro⟨p,r,ok⟩ hI
 refine av ?_
 cases ok with
 | false=>
  refine VG (VY 52 true Z Z ?_)
  refine av ?_
  refine VG (VY 56 true Z Z ?_)
  refine kq ?_
  refine H3 ?_
  refine H4 ?_
  refine av ?_
  exact CR (an.dt 2 3 Z Z Z (aw.many (ds:=bw.cells ⟨0,bT [],bT [],0⟩) 1 Z Z) Z aa.nil.aj ⟨by rw[Cd,hI.f];rfl,Z⟩)
 | true=>
 refine VG (VY 52 false Z Z ?_)
 refine av ?_
 by_cases hr:r=[]
 rotate_left
 ·refine VG (VY 56 true Z (by rw[show(ByteArray.mk #[])=bT [] from Z,ri,DF hr];rfl) ?_)
  refine kq ?_
  refine H3 ?_
  refine H4 ?_
  refine av ?_
  exact CR (an.dt 2 3 Z Z Z (aw.many (ds:=bw.cells ⟨0,bT [],bT [],0⟩) 1 Z Z) Z aa.nil.aj ⟨by rw[Cd,hI.t,jS,if_neg (fun h=>hr h.1)];rfl,Z⟩)
 refine VG (VY 56 false Z (by rw[show(ByteArray.mk #[])=bT [] from Z,ri,DT hr];rfl) ?_)
 refine bG ?_
 refine VG (VL 0 p.cells Z Z Z Z ?_)
 refine VG (VV (fun Fr w hF hw _=>Api.gv Fr w p) Z ?_)
 refine av ?_
 refine VC.dp Z (fun hc=>?_) (fun hc=>CK ?_)
 ·refine av ?_
  refine H3 ?_
  refine H4 ?_
  refine av ?_
  exact CR (an.dt 2 3 Z Z Z (aw.many (ds:=bw.cells ⟨0,bT [],bT [],0⟩) 1 Z Z) Z aa.nil.aj ⟨by rw[Cd,hI.t,jS,if_neg (fun h=>hc h.2)];rfl,Z⟩)
 refine bG ?_
 refine VG (VL 0 p.cells Z Z Z Z ?_)
 refine VG (VT (vs:=p.cells) (cs':=p.cells) 1 Z Z Z Z (NR _) Z Z Z ?_)
 refine av ?_
 exact CR (an.dt 2 3 Z Z Z (aw.many (ds:=p.cells) 1 Z Z) Z aa.nil.aj ⟨by rw[Cd,hI.t,jS,if_pos ⟨hr,hc⟩];rfl,Z⟩)
end Cl
namespace Cl
open Go Vg T Api Ch
attribute [local irreducible] VO VC VA
theorem QV{c:aV}(h:eN c=0):lh c=true:=by
 unfold eN at h
 by_cases hc:lh c=true
 ·exact hc
 ·rw[if_neg hc] at h;exact absurd h yy
theorem rn{c:aV}(h:eN c=0):1≤c.ms.length∧c.ms.length≤6∧1≤c.ar∧c.ar≤1099511627776:=by
 have:=QV h
 simp[lh,ua] at this
 omega
def ug(m:aS):Bs:=cO m.1++cO m.2
theorem Uf(m:aS):(ug m).length≤18:=by
 have:=gw m.1
 have:=gw m.2
 rw[ug,a8];omega
theorem Cz:∀ms:List aS,(ms.flatMap ug).length≤18*ms.length
 | []=>NR _
 | m::ms=>by
  have:=Uf m
  have:=Cz ms
  rw[uO,a8,ku];omega
theorem QU{c:aV}(h:eN c=0):(wI c).length≤135:=by
 obtain⟨h1,h2,_⟩:=rn h
 have a:=gw c.ar
 have b:=gw (c.ms.length:Int)
 have d:=gw c.drain
 have m:=Cz c.ms
 show(cO c.ar++cO c.ms.length++c.ms.flatMap ug++cO c.drain).length≤_
 simp only[a8];omega
theorem Rf{c:aV}{a:Option Addr}{cap:Nat}(h:aT aD 2 Fr w a c.ms)(hl:c.ms.length≤1000000):ax Tryz.prog 219 [.agg (c.cells a cap).toArray] Fr w [] (fun v L=>v=.tuple #[.string (bT (if eN c=0 then wI c else [])),.int .i64 (eN c)]∧L=[]):=by
 refine TF 43 Tryz.func219 Z yp aC Z Z ?_
 refine CS (CG (VG (VB (vs:=c.cells a cap) Z fun b=>VG (VN ?_))))
 refine ae ?_
 refine HI ?_
 refine VG (VV (fun Fr w hF hw _=>Ch.gv Fr w (h.of hF hw) yg) Z ?_)
 refine ae ?_
 refine VC.dp Z (fun h2=>?_) (fun h2=>CK ?_)
 ·refine ae ?_
  exact CR (an.cV 2 3 Z Z Z aa.nil.aj ⟨by rw[if_neg h2];rfl,Z⟩)
 rw[if_pos h2,h2]
 obtain⟨h3,h4,_⟩:=rn h2
 have l1:=gw c.ar
 have l2:=gw (c.ms.length:Int)
 have l3:=gw c.drain
 have l4:=Cz c.ms
 refine ae ?_
 refine CD (ts 0 2 (ts 3 3 (.only 2 (.only 6 (ts 7 2 .nil))))) yp yr ?_
 refine bp ?_
 refine AG (AR (fun Fr w hF hs hS=>nu Fr w c.ar) Z Z yu ?_)
 refine AG (AR (fun Fr w hF hs hS=>nu Fr w c.ms.length) Z Z yu ?_)
 refine Ba ?_
 rw[←mF]
 refine uJ ?_
 refine VC.loop (σ:=Nat) (fun k=>[(1,pV b),(22,.slice a c.ms.length cap),(23,.int .i64 c.ms.length),(24,.int .i64 (k:Int)),(5,.string (bT (cO c.ar++cO c.ms.length++(c.ms.take k).flatMap ug)))]) (fun _=>[pt b (c.cells a cap) cM]) (fun k=>k≤c.ms.length) (fun k=>c.ms.length-k) 0
  (bH _) (SC rfl (SC rfl (SC rfl (SC rfl (SC PB (SN _)))))) ER ?_
 rintro k hk
 refine ae ?_
 refine CP (p:=(k:Int)<c.ms.length) Z (fun h5=>CK ?_) (fun h5=>CX ?_)
 ·obtain⟨m,hm⟩:∃m,c.ms[k]?=some m:=⟨_,GE yg⟩
  obtain⟨mb,mo,hma,ra,rc⟩:=aT.rd (X:=⟨Tryz.prog,tab,aC,43,Fr,w⟩) h hm
  subst hma
  have e:(c.ms.take (k+1)).flatMap ug=(c.ms.take k).flatMap ug++(cO m.1++cO m.2):=by rw[fX,hm,wg];simp[ug]
  have l5:=Cz (c.ms.take k)
  rw[jj] at l5
  have l6:=gw m.1
  have l7:=gw m.2
  refine p_ ?_
  refine uB ?_
  refine VG (VO.alloc Z fun b7=>?_)
  refine VG (VT (vs:=aD m) (cs':=aD m) 0 Z Z Z Z (NR _) Z Z Z ?_)
  refine ae ?_
  refine CD (ts 0 3 (ts 4 2 (.only 3 (.only 6 (ts 7 3 .nil))))) yp yr ?_
  refine bp ?_
  refine AG (AR (fun Fr w hF hs hS=>nu Fr w m.1) Z Z yu ?_)
  refine AG (AR (fun Fr w hF hs hS=>nu Fr w m.2) Z Z yu ?_)
  refine Ba ?_
  refine AG (AI Z (oS Z Z (by rw[uL,iF,iF,iF];simp only[a8];omega)) ?_)
  rw[←mF,←mF]
  refine bp ?_
  refine gC ?_
  refine⟨k+1,by omega,by dsimp only;omega,SC Z (SC Z (SC Z (Sub.int Z yg (SC PC (SN _))))),(IP 1 Z aa.nil).aj⟩
 obtain rfl:k=c.ms.length:=by omega
 rw[iT]
 refine al ?_
 refine VG (VV (fun Fr w hF hw _=>nu Fr w c.drain) Z ?_)
 refine D' ?_
 rw[←mF]
 refine al ?_
 exact CR (an.cV 2 3 Z Z Z aa.nil.aj ⟨rfl,Z⟩)
end Cl
namespace Cl
open Go Vg T Api Ch
attribute [local irreducible] VO VC VA
def mK(c:aV):aV×Int:=if gS c≠0 then (fE,2) else (⟨c.ar+1,c.ms,c.drain⟩,0)
def zu(r:aV×Int)(v:Value)(L:List HP):Prop:=∃a c,v=.tuple #[.agg (r.1.cells a c).toArray,.int .i64 r.2]∧L=[aq aP 2 a r.1.ms.length c (flat aD r.1.ms)]
theorem Cc{c:aV}(h:gS c=0):eN c=0∧c.ar≠1099511627776:=by
 unfold gS at h
 split at h
 ·exact absurd h yy
 ·rename_i k
  exact⟨EI fun e=>k (.inl e),fun e=>k (.inr e)⟩
section
variable {c:aV} {a:Option Addr} {cap:Nat}
theorem Sq(h:aT aD 2 Fr w a c.ms)(hl:c.ms.length≤1000000):ax Tryz.prog 190 [.agg (c.cells a cap).toArray] Fr w [] (zu (mK c)):=by
 refine TF 22 Tryz.func190 Z yp aC Z Z ?_
 refine CS (CG (VG (VB (vs:=c.cells a cap) Z fun b=>VG (VO.alloc Z fun b2=>?_))))
 refine ae ?_
 refine vP ?_
 refine VG (VV (fun Fr w hF hw _=>Ch.gv Fr w (h.of hF hw) yg) Z ?_)
 refine av ?_
 have bad:∀{X:Cx} {E:Env} {fn:Func} {ti:TI} {L:List HP},fn.results=#[.cell 2 cM,.tmp 3]→Vg.look E 2=some (.pointer (some ⟨b2,0,none⟩))→Vg.look E 3=some (.int .i64 2)→bR X.tab cM=some ti→ti.aE.agg=true→ti.size=3→gS c≠0→an X fn (zu (mK c)) E (pt b2 (fE.cells none 0) cM::L):=fun h1 h2 h3 h4 h5 h6 h7=>
  an.dt 2 3 h1 h2 h4 (aw.many (ds:=fE.cells none 0) 0 rfl (by rw[h6];rfl) (by rw[h6];rfl) h5) h3 (aa.cK aa.nil).aj (by rw[mK,if_pos h7];exact⟨none,0,rfl,rfl⟩)
 by_cases h1:eN c=0
 rotate_left
 ·have hf:gS c≠0:=by rw[gS,if_pos (.inl h1)];decide
  refine VG (VY 7 true Z (by rw[bne_iff_ne];exact h1) ?_)
  refine kq ?_
  refine ON ?_
  refine OO ?_
  refine av ?_
  exact CR (bad Z Z Z Z Z Z hf)
 obtain⟨g1,g2,g3,g4⟩:=rn h1
 refine VG (VY 7 false Z (by rw[bne_eq_false_iff_eq];exact h1) ?_)
 refine dG ?_
 refine CE Z (fun h2=>?_) (fun h2=>CK ?_)
 ·have hf:gS c≠0:=by rw[gS,if_pos (.inr h2)];decide
  refine tD ?_
  refine OO ?_
  refine av ?_
  exact CR (bad Z Z Z Z Z Z hf)
 have hf:gS c=0:=by rw[gS,if_neg (by simp[h1,h2])]
 refine av ?_
 refine CD (ts 0 5 (ts 6 2 (.only 5 (.take 8 (.only 9 (.take 10 .nil)))))) yp yr ?_
 refine fj ?_
 refine pY ?_
 refine fj ?_
 refine AG (AO (OC (Lc:=[]) (Lr:=[pt b2 (fE.cells none 0) cM,pt b (c.cells a cap) cM]) rfl (.refl _) (fun Fr w hF hs hS=>Ub Fr w (h.of hF hs) hl)) rfl (fun v L' g=>by obtain⟨_,⟨_,_,rfl,rfl⟩,rfl⟩:=g;exact kp) ?_)
 rintro _ _ ⟨_,⟨ma,mc,rfl,rfl⟩,rfl⟩
 refine AG (AI Z (LB (pv:=[(0,.int .i64 (c.ar+1)),(1,.slice ma c.ms.length mc),(2,.int .i64 c.drain)]) ((aV.mk (c.ar+1) c.ms c.drain).cells ma mc) Z Z Z yp Z) ?_)
 refine AG (AT (vs:=(aV.mk (c.ar+1) c.ms c.drain).cells ma mc) (cs':=(aV.mk (c.ar+1) c.ms c.drain).cells ma mc) 1 Z Z Z Z Z (NR _) Z Z Z yu ?_)
 refine cX ?_
 exact CR (an.dt 2 3 Z Z Z (aw.many (ds:=(aV.mk (c.ar+1) c.ms c.drain).cells ma mc) 1 Z Z) Z (L':=[aq aP 2 ma c.ms.length mc (flat aD c.ms)]) (IP 0 Z aa.nil).aj (by rw[mK,if_neg Ev];exact⟨ma,mc,Z,Z⟩))
theorem TH(h:aT aD 2 Fr w a c.ms)(hl:c.ms.length≤1000000)(n:Int):ax Tryz.prog 191 [.agg (c.cells a cap).toArray,.int .i64 n] Fr w []
  (fun v L=>v=.tuple #[.int .i64 (if lH c n≠0 then 0 else placeOf c.ms n),.int .i64 (lH c n)]∧L=[]):=by
 refine TF 19 Tryz.func191 Z yp aC Z Z ?_
 refine CS (CG (VG (VB (vs:=c.cells a cap) Z fun b=>?_)))
 refine ae ?_
 refine HI ?_
 refine A2 ?_
 rintro _ _ ⟨pb,rfl,rfl⟩
 refine ae ?_
 refine DZ ?_
 refine ae ?_
 refine CP Z (fun h1=>?_) (fun h1=>?_)
 ·refine ae ?_
  exact CR (an.cV 4 5 Z Z Z aa.nil.aj ⟨by rw[lH,if_pos h1];rfl,Z⟩)
 refine ae ?_
 refine vQ ?_
 refine ae ?_
 refine CE Z (fun h2=>?_) (fun h2=>CK ?_)
 ·have h2:c.ms.length=1:=by omega
  refine ae ?_
  exact CR (an.cV 4 5 Z Z Z aa.nil.aj ⟨by rw[lH,if_neg h1,if_pos h2];rfl,Z⟩)
 have h2:¬c.ms.length=1:=by omega
 refine ae ?_
 exact CR (an.cV 4 5 Z Z Z aa.nil.aj ⟨by rw[lH,if_neg h1,if_neg h2];rfl,Z⟩)
end
end Cl
namespace Cl
open Go Vg T Api Ch
attribute [local irreducible] VO VC VA
def Fi(ep:Int)(a:Value)(dr:Int):List Value:=[.int .i64 ep,a,.int .i64 dr]
section
variable {c:aV} {a:Option Addr} {cap:Nat}
theorem abB(h:aT aD 2 Fr w a c.ms)(hl:c.ms.length≤1000000)(n:Int):ax Tryz.prog 177 [.agg (c.cells a cap).toArray,.int .i64 n] Fr w [] (zu (fy c n)):=by
 have hpl:=uj c.ms n
 refine TF 38 Tryz.func177 Z yp aC Z Z ?_
 refine CS (CG (VG (VB (vs:=c.cells a cap) Z fun b=>VG (VO.alloc Z fun b4=>?_))))
 refine ae ?_
 refine vP ?_
 refine H5 ?_
 rintro _ _ ⟨ma,mc,rfl,rfl⟩
 by_cases hf:gS c=0
 rotate_left
 ·have hf2:mK c=(fE,2):=by rw[mK,if_pos hf]
  rw[hf2]
  refine av ?_
  refine H6 ?_
  refine av ?_
  refine VC.dp Z (fun _=>?_) (fun e=>absurd e yy)
  refine tD ?_
  refine av ?_
  refine vZ ?_
  exact CR (an.dt 4 5 Z Z Z (aw.many (ds:=fE.cells none 0) 1 Z Z) Z (L':=[aq aP 2 none 0 0 (flat aD [])]) (aa.cK aa.nil).aj (by rw[fy,if_pos hf];exact⟨none,0,Z,Z⟩))
 have hf2:mK c=(⟨c.ar+1,c.ms,c.drain⟩,0):=by rw[mK,if_neg Ev]
 obtain⟨hce,hep⟩:=Cc hf
 obtain⟨g1,g2,g3,g4⟩:=rn hce
 have hM:¬gS c≠0:=by rw[hf];decide
 rw[hf2]
 refine av ?_
 refine H7 ?_
 refine av ?_
 refine VC.dp Z (fun e=>absurd Z e) (fun _=>?_)
 refine av ?_
 refine VG (VV (fun Fr w hF hw _=>Ch.LW Fr w n) Z ?_)
 refine av ?_
 refine VC.fq Z (fun h2=>?_) (fun h2=>?_)
 ·refine tD ?_
  refine vZ ?_
  exact CR (an.dt 4 5 Z Z Z (aw.many (ds:=fE.cells none 0) 1 Z Z) Z (L':=[aq aP 2 none 0 0 (flat aD [])]) (aa.cK aa.nil).aj (by rw[fy,if_neg hM,if_pos h2];exact⟨none,0,Z,Z⟩))
 refine II ?_
 refine A2 ?_
 rintro _ _ ⟨pb,rfl,rfl⟩
 refine av ?_
 refine DZ ?_
 refine av ?_
 refine CP (p:=0≤placeOf c.ms n) Z (fun h3=>?_) (fun h3=>CK ?_)
 ·refine tD ?_
  refine VG (VT (vs:=fE.cells none 0) (cs':=fE.cells none 0) 2 Z Z Z Z (NR _) Z Z Z ?_)
  refine av ?_
  exact CR (an.dt 4 5 Z Z Z (aw.many (ds:=fE.cells none 0) 2 Z Z) Z (L':=[aq aP 2 none 0 0 (flat aD [])]) (aa.cK aa.nil).aj (by rw[fy,if_neg hM,if_neg (by rw[h2];decide),if_pos h3];exact⟨none,0,Z,Z⟩))
 refine gO ?_
 refine VG (VI (LB (pv:=[(0,.int .i64 n),(1,.int .i64 (c.ar+1))]) (aD (n,c.ar+1)) Z Z Z yp Z) ?_)
 refine VG (VO.buildSlice (pv:=[(0,.agg (aD (n,c.ar+1)).toArray)]) (aD (n,c.ar+1)) Z Z Z Z yy (eY Z Z Z) fun sb=>?_)
 refine VG (VO.append (m:=1) (news:=aD (n,c.ar+1)) 2 Z Z Z Z Z Z Z (dm.pt 0 Z Z Z) Z (by show(c.ms.length+1)*16≤_;omega) (by show c.ms.length+1≤_;omega) fun a2 c2 hc2=>?_)
 have hlen:(c.ms ++ [(n,c.ar+1)]).length=c.ms.length+1:=by simp
 have hcc:Fi (c.ar+1) (.slice a2 (c.ms.length+1) c2) c.drain=(aV.mk (c.ar+1) (c.ms ++ [(n,c.ar+1)]) c.drain).cells a2 c2:=by unfold Fi aV.cells;rw[hlen]
 refine av ?_
 refine VG (VO.st 3 (cs':=Fi (c.ar+1) (.slice a2 (c.ms.length+1) c2) c.drain) Z Z Z Z uF Z Z ?_)
 rw[hcc]
 refine av ?_
 refine VG (VL 3 ((aV.mk (c.ar+1) (c.ms ++ [(n,c.ar+1)]) c.drain).cells a2 c2) Z Z Z Z ?_)
 refine VG (VT (vs:=(aV.mk (c.ar+1) (c.ms ++ [(n,c.ar+1)]) c.drain).cells a2 c2) (cs':=(aV.mk (c.ar+1) (c.ms ++ [(n,c.ar+1)]) c.drain).cells a2 c2) 3 Z Z Z Z (NR _) Z Z Z ?_)
 refine av ?_
 have hW:fy c n=(⟨c.ar+1,c.ms ++ [(n,c.ar+1)],c.drain⟩,0):=by rw[fy,if_neg hM,if_neg (by rw[h2];decide),if_neg h3]
 exact CR (an.dt 4 5 Z Z Z (aw.many (ds:=(aV.mk (c.ar+1) (c.ms ++ [(n,c.ar+1)]) c.drain).cells a2 c2) 3 Z Z) Z (L':=[aq aP 2 a2 (c.ms ++ [(n,c.ar+1)]).length c2 (flat aD (c.ms ++ [(n,c.ar+1)]))]) (by rw[hlen,fu];exact(IP 0 Z aa.nil).aj) PD)
theorem abC(h:aT aD 2 Fr w a c.ms)(hl:c.ms.length≤1000000)(n:Int):ax Tryz.prog 169 [.agg (c.cells a cap).toArray,.int .i64 n] Fr w [] (zu (jg c n)):=by
 have hpl:=uj c.ms n
 refine TF 39 Tryz.func169 Z yp aC Z Z ?_
 refine CS (CG (VG (VB (vs:=c.cells a cap) Z fun b=>VG (VO.alloc Z fun b4=>?_))))
 refine ae ?_
 refine vP ?_
 refine H5 ?_
 rintro _ _ ⟨ma,mc,rfl,rfl⟩
 by_cases hf:gS c=0
 rotate_left
 ·have hf2:mK c=(fE,2):=by rw[mK,if_pos hf]
  rw[hf2]
  refine av ?_
  refine H6 ?_
  refine av ?_
  refine VC.dp Z (fun _=>?_) (fun e=>absurd e yy)
  refine tD ?_
  refine av ?_
  refine vZ ?_
  exact CR (an.dt 4 5 Z Z Z (aw.many (ds:=fE.cells none 0) 1 Z Z) Z (L':=[aq aP 2 none 0 0 (flat aD [])]) (aa.cK aa.nil).aj (by rw[jg,if_pos hf];exact⟨none,0,Z,Z⟩))
 have hf2:mK c=(⟨c.ar+1,c.ms,c.drain⟩,0):=by rw[mK,if_neg Ev]
 obtain⟨hce,hep⟩:=Cc hf
 obtain⟨g1,g2,g3,g4⟩:=rn hce
 have hM:¬gS c≠0:=by rw[hf];decide
 rw[hf2]
 refine av ?_
 refine H7 ?_
 refine av ?_
 refine VC.dp Z (fun e=>absurd Z e) (fun _=>CK ?_)
 refine II ?_
 refine OP ?_
 by_cases hlv:lH c n=0
 rotate_left
 ·rw[if_pos hlv]
  refine av ?_
  refine VC.dp Z (fun _=>?_) (fun e=>absurd e hlv)
  refine tD ?_
  refine av ?_
  refine vZ ?_
  exact CR (an.dt 4 5 Z Z Z (aw.many (ds:=fE.cells none 0) 1 Z Z) Z (L':=[aq aP 2 none 0 0 (flat aD [])]) (aa.cK aa.nil).aj (by rw[jg,if_neg hM,if_pos hlv];exact⟨none,0,Z,Z⟩))
 have hpp:¬placeOf c.ms n<0∧¬c.ms.length=1:=by
  unfold lH at hlv
  by_cases p:placeOf c.ms n<0
  ·rw[if_pos p] at hlv;exact absurd hlv yy
  ·refine⟨p,fun e=>?_⟩
   rw[if_neg p,if_pos e] at hlv;exact absurd hlv yy
 obtain⟨i,hi,hil⟩:∃i:Nat,placeOf c.ms n=i∧i<c.ms.length:=by
  rcases hpl with e | ⟨i,m,e,h2,_⟩
  ·omega
  ·exact⟨i,e,h2⟩
 rw[if_neg Bl,hi]
 refine av ?_
 refine VC.dp Z (fun e=>absurd hlv e) (fun _=>CK ?_)
 refine dG ?_
 refine tp ?_
 refine VG (VK (Lc:=[aq aP 2 ma c.ms.length mc (flat aD c.ms)]) (fun Fr w hF hw _=>Uc Fr w (l:=c.ms) hil yg) Z Z ?_)
 rintro _ _ ⟨a2,c2,rfl,rfl⟩
 refine av ?_
 refine VG (VO.st 1 (cs':=(aV.mk (c.ar+1) (c.ms.eraseIdx i) c.drain).cells a2 c2) Z Z Z Z uF Z Z (VG (VN ?_)))
 refine CS (VC.bZ (σ:=Int) (fun d=>[(4,pV b4)]) (fun d=>[aq aP 2 a2 (c.ms.eraseIdx i).length c2 (flat aD (c.ms.eraseIdx i)),pt b4 ((aV.mk (c.ar+1) (c.ms.eraseIdx i) d).cells a2 c2) cM]) (fun d=>d=if c.drain=n then -1 else c.drain) ?_ ?_)
 ·refine dG ?_
  refine CE Z (fun h5=>?_) (fun h5=>CK ?_)
  ·refine av ?_
   refine VG (VO.st 1 (cs':=(aV.mk (c.ar+1) (c.ms.eraseIdx i) (-1)).cells a2 c2) Z Z Z Z Eo Z Z ?_)
   refine av ?_
   exact⟨-1,by rw[if_pos h5],aH,(bb [0,0]).aj⟩
  ·exact⟨c.drain,by rw[if_neg h5],aH,(bb [0,0]).aj⟩
 rintro d hd
 have hW:jg c n=(⟨c.ar+1,c.ms.eraseIdx i,d⟩,0):=by rw[jg,if_neg hM,if_neg Bl,hi,hd];rfl
 refine av ?_
 refine VG (VL 1 ((aV.mk (c.ar+1) (c.ms.eraseIdx i) d).cells a2 c2) Z Z Z Z ?_)
 refine VG (VT (vs:=(aV.mk (c.ar+1) (c.ms.eraseIdx i) d).cells a2 c2) (cs':=(aV.mk (c.ar+1) (c.ms.eraseIdx i) d).cells a2 c2) 1 Z Z Z Z (NR _) Z Z Z ?_)
 refine av ?_
 exact CR (an.dt 4 5 Z Z Z (aw.many (ds:=(aV.mk (c.ar+1) (c.ms.eraseIdx i) d).cells a2 c2) 1 Z Z) Z (L':=[aq aP 2 a2 (c.ms.eraseIdx i).length c2 (flat aD (c.ms.eraseIdx i))]) (IP 0 Z aa.nil).aj PD)
theorem RA(h:aT aD 2 Fr w a c.ms)(hl:c.ms.length≤1000000)(n:Int):ax Tryz.prog 118 [.agg (c.cells a cap).toArray,.int .i64 n] Fr w [] (zu (gR c n)):=by
 have hpl:=uj c.ms n
 refine TF 32 Tryz.func118 Z yp aC Z Z ?_
 refine CS (CG (VG (VB (vs:=c.cells a cap) Z fun b=>VG (VO.alloc Z fun b4=>?_))))
 refine ae ?_
 refine vP ?_
 refine H5 ?_
 rintro _ _ ⟨ma,mc,rfl,rfl⟩
 by_cases hf:gS c=0
 rotate_left
 ·have hf2:mK c=(fE,2):=by rw[mK,if_pos hf]
  rw[hf2]
  refine av ?_
  refine H6 ?_
  refine av ?_
  refine VC.dp Z (fun _=>?_) (fun e=>absurd e yy)
  refine tD ?_
  refine av ?_
  refine vZ ?_
  exact CR (an.dt 4 5 Z Z Z (aw.many (ds:=fE.cells none 0) 1 Z Z) Z (L':=[aq aP 2 none 0 0 (flat aD [])]) (aa.cK aa.nil).aj (by rw[gR,if_pos hf];exact⟨none,0,Z,Z⟩))
 have hf2:mK c=(⟨c.ar+1,c.ms,c.drain⟩,0):=by rw[mK,if_neg Ev]
 obtain⟨hce,hep⟩:=Cc hf
 obtain⟨g1,g2,g3,g4⟩:=rn hce
 have hM:¬gS c≠0:=by rw[hf];decide
 rw[hf2]
 refine av ?_
 refine H7 ?_
 refine av ?_
 refine VC.dp Z (fun e=>absurd Z e) (fun _=>CK ?_)
 refine II ?_
 refine OP ?_
 by_cases hlv:lH c n=0
 rotate_left
 ·rw[if_pos hlv]
  refine av ?_
  refine VC.dp Z (fun _=>?_) (fun e=>absurd e hlv)
  refine tD ?_
  refine av ?_
  refine vZ ?_
  exact CR (an.dt 4 5 Z Z Z (aw.many (ds:=fE.cells none 0) 1 Z Z) Z (L':=[aq aP 2 none 0 0 (flat aD [])]) (aa.cK aa.nil).aj (by rw[gR,if_neg hM,if_pos hlv];exact⟨none,0,Z,Z⟩))
 rw[if_neg Bl]
 refine av ?_
 refine VC.dp Z (fun e=>absurd hlv e) (fun _=>CK ?_)
 refine av ?_
 refine VG (VO.ld 2 Z Z Z Z ?_)
 refine av ?_
 refine VC.dp Z (fun h5=>?_) (fun h5=>CK ?_)
 ·refine tD ?_
  refine vZ ?_
  exact CR (an.dt 4 5 Z Z Z (aw.many (ds:=fE.cells none 0) 1 Z Z) Z (L':=[aq aP 2 none 0 0 (flat aD [])]) (aa.cK aa.nil).aj (by rw[gR,if_neg hM,if_neg Bl,if_pos h5];exact⟨none,0,Z,Z⟩))
 have hW:gR c n=(⟨c.ar+1,c.ms,n⟩,0):=by rw[gR,if_neg hM,if_neg Bl,if_neg yg]
 refine av ?_
 refine VG (VO.st 1 (cs':=(aV.mk (c.ar+1) c.ms n).cells ma mc) Z Z Z Z Eo Z Z ?_)
 refine av ?_
 refine VG (VL 1 ((aV.mk (c.ar+1) c.ms n).cells ma mc) Z Z Z Z ?_)
 refine VG (VT (vs:=(aV.mk (c.ar+1) c.ms n).cells ma mc) (cs':=(aV.mk (c.ar+1) c.ms n).cells ma mc) 1 Z Z Z Z (NR _) Z Z Z ?_)
 refine av ?_
 exact CR (an.dt 4 5 Z Z Z (aw.many (ds:=(aV.mk (c.ar+1) c.ms n).cells ma mc) 1 Z Z) Z (L':=[aq aP 2 ma c.ms.length mc (flat aD c.ms)]) (IP 0 Z aa.nil).aj (by rw[hW];exact⟨ma,mc,Z,Z⟩))
end
end Cl
namespace Cl
open Go Vg T Api Ch Rep
attribute [local irreducible] VO VC VA
abbrev ka:TypeId:=110
def jY(m:aI):List Value:=m.heard.map (Value.int .i64)
def pX(m:aI):List Value:=m.whole.map Value.bool
def cQ(m:aI)(a:Option Addr)(c:Nat):List Value:=[.int .i64 m.nodes,.int .i64 m.fQ]++m.ch.cells a c++jY m++pX m
structure aI.Ok(m:aI):Prop where
 n0:1≤m.nodes
 n1:m.nodes≤6
 p0:0≤m.fQ
 p1:m.fQ≤1000000
 ml:m.ch.ms.length≤7
 mr:∀x∈m.ch.ms,0≤x.1∧x.1<6
 hl:m.heard.length=6
 wl:m.whole.length=6
 hr:∀x∈m.heard,0≤x∧x≤1099511627776
abbrev gr:=dJ×(Option Addr×Nat)
def dy(x:gr):List Value:=.int .i64 x.1.1::x.1.2.1.cells (x.2.1,x.1.2.2.length,x.2.2)
theorem Db(x:gr):(dy x).length=30:=rfl
def iM(x:gr):HP:=aq aP 2 x.2.1 x.1.2.2.length x.2.2 (flat aD x.1.2.2)
def nG(S:List dJ)(v:Value)(L:List HP)(H:List HP):Prop:=∃(X:List gr) (a:Option Addr) (c:Nat),X.map Prod.fst=S∧v=.slice a X.length c∧L=H++(aq gk 30 a X.length c (flat dy X)::X.map iM)
theorem Lt{c:aV}{a:Option Addr}{cap:Nat}(h:aT aD 2 Fr w a c.ms)(hl:c.ms.length≤1000000):ax Tryz.prog 66 [.agg (c.cells a cap).toArray] Fr w []
  (fun v L=>∃a' c',v=.agg (c.cells a' c').toArray∧L=[aq aP 2 a' c.ms.length c' (flat aD c.ms)]):=by
 refine TF 8 Tryz.func66 Z yp aC Z Z ?_
 refine CS (CG (VG (VB (vs:=c.cells a cap) Z (fun b=>VG (VO.alloc Z fun d=>VG (VN ?_))))))
 refine dF ?_
 refine OB ?_
 refine VG (VO.append (m:=c.ms.length) (news:=flat aD c.ms) 0 Z Z Z Z Z Z Z (aT.row cu h) (nZ vq _) Pv yg fun a' c' _=>?_)
 rw[cj,mZ]
 refine al ?_
 refine VG (VO.st 2 (cs':=c.cells a' c') Z Z Z Z uF Z Z (VG (VN ?_)))
 refine CS (CG (VG (VL 2 (c.cells a' c') Z Z Z Z (VG (VT (vs:=c.cells a' c') (cs':=c.cells a' c') 1 Z Z Z Z (NR _) Z Z Z (VG (VN ?_)))))))
 exact HY
theorem Gg(n:Int):ax Tryz.prog 107 [.int .i64 n] Fr w [] (fun v L=>v=.int .i64 (bY n)∧L=[]):=by
 refine TF 6 Tryz.func107 Z yp aC Z Z ?_
 refine ae ?_
 exact CR (an.int 2 Z Z PE ER ⟨rfl,Z⟩)
section
variable {p:Nat} {M:aI} {a:Option Addr} {c:Nat}
theorem LA(ok:M.Ok)(h:bq Fr w p (cQ M a c)):ax Tryz.prog 65 [.pointer (some ⟨p,0,none⟩)] Fr w [] (fun v L=>v=.bool true∧L=[]):=by
 have:=ok.n0
 refine TF 12 Tryz.func65 Z yp aC Z Z ?_
 refine EF ?_
 refine ji ?_
 exact CR (an.bool (b:=true) 2 Z Z (DT yg) ER ⟨rfl,Z⟩)
theorem Ly(h:bq Fr w p (cQ M a c))(n:Int):ax Tryz.prog 176 [.pointer (some ⟨p,0,none⟩),.int .i64 n] Fr w [] (fun v L=>v=.bool (M.isNode n)∧L=[]):=by
 refine TF 15 Tryz.func176 Z yp aC Z Z ?_
 refine av ?_
 by_cases h1:0≤n
 ·refine VG (VY 7 true Z (DT h1) ?_)
  refine ji ?_
  exact CR (an.bool 4 Z Z (by rw[aI.isNode,DT h1];rfl) ER ⟨rfl,Z⟩)
 ·refine VG (VY 7 false Z (DF h1) ?_)
  refine av ?_
  exact CR (an.bool 4 Z Z (by rw[aI.isNode,DF h1];rfl) ER ⟨rfl,Z⟩)
theorem T7:((cQ M a c).drop 2).take 3=M.ch.cells a c:=rfl
theorem LC(ok:M.Ok)(h:bq Fr w p (cQ M a c))(hm:aT aD 2 Fr w a M.ch.ms)(n:Int):ax Tryz.prog 115 [.pointer (some ⟨p,0,none⟩),.int .i64 n] Fr w [] (fun v L=>v=.bool (bU M.ch n).2∧L=[]):=by
 have hl:=ok.ml
 refine TF 17 Tryz.func115 Z yp aC Z Z ?_
 refine av ?_
 refine H8 ?_
 refine av ?_
 refine VG (VV (fun Fr w hF hw _=>Dg Fr w (hm.of hF hw) yg n) Z ?_)
 refine av ?_
 exact A_
theorem F_(ok:M.Ok)(h:bq Fr w p (cQ M a c))(hm:aT aD 2 Fr w a M.ch.ms)(to:Int):ax Tryz.prog 170 [.pointer (some ⟨p,0,none⟩),.int .i64 to] Fr w []
  (fun v L=>∃g,v=.agg (dy (gP M.ch to,g)).toArray∧L=[iM (gP M.ch to,g)]):=by
 have hl:=ok.ml
 refine TF 13 Tryz.func170 Z yp aC Z Z ?_
 refine CS (CG (VG (VO.alloc Z fun d=>?_)))
 refine av ?_
 refine H8 ?_
 refine OQ ?_
 rintro _ _ ⟨ma,mc,rfl,rfl⟩
 refine VG (VI (LB (pv:=[(0,.int .i64 8),(11,.agg (M.ch.cells ma mc).toArray)]) ((jH M.ch).cells (ma,M.ch.ms.length,mc)) Z Z Z yp Z) ?_)
 refine VG (VI (LB (pv:=[(0,.int .i64 to),(1,.agg ((jH M.ch).cells (ma,M.ch.ms.length,mc)).toArray)]) (dy (gP M.ch to,(ma,mc))) Z Z Z yp Z) ?_)
 refine VG (VT (vs:=dy (gP M.ch to,(ma,mc))) (cs':=dy (gP M.ch to,(ma,mc))) 1 Z Z Z Z (NR _) Z Z Z ?_)
 refine av ?_
 exact CR (an.cell 4 Z Z Z (aw.many 1 Z Z) (IP 0 Z aa.nil).aj ⟨(ma,mc),Z,Z⟩)
theorem vp(ok:M.Ok):(cQ M a c).length=17:=by
 show(_::_::_::_::_::(jY M++pX M)).length=17
 simp[jY,pX,ok.hl,ok.wl]
theorem T_(ok:M.Ok){k:Nat}{b:Bool}(h:M.whole[k]?=some b):(cQ M a c)[11+k]?=some (.bool b):=by
 have hh:(jY M).length=6:=by simp[jY,ok.hl]
 show(_::_::_::_::_::(jY M++pX M))[11+k]?=_
 rw[show 11+k=(6+k)+1+1+1+1+1 from by omega]
 simp only[sr]
 rw[qX yg,hh,show 6+k-6=k from by omega,pX,dH,h];rfl
theorem Lk(ok:M.Ok){k:Nat}{b:Int}(h:M.heard[k]?=some b):(cQ M a c)[5+k]?=some (.int .i64 b):=by
 have hk:=(bP.1 h).1
 rw[ok.hl] at hk
 have hh:(jY M).length=6:=by simp[jY,ok.hl]
 show(_::_::_::_::_::(jY M++pX M))[5+k]?=_
 rw[show 5+k=k+1+1+1+1+1 from by omega]
 simp only[sr]
 rw[nL yg,jY,dH,h];rfl
theorem Cv(ok:M.Ok){k:Nat}(hk:k<6)(b:Bool):(cQ M a c).set (11+k) (.bool b)=cQ { M with whole:=M.whole.set k b } a c:=by
 have hh:(jY M).length=6:=by simp[jY,ok.hl]
 show(_::_::_::_::_::(jY M++pX M)).set (11+k) _=_::_::_::_::_::(jY M++pX { M with whole:=M.whole.set k b })
 rw[show 11+k=(6+k)+1+1+1+1+1 from by omega]
 simp only[y_]
 rw[List.set_append_right _ _ yg,hh,show 6+k-6=k from by omega,pX,pX,gZ]
theorem Ll(ok:M.Ok){k:Nat}(hk:k<6)(b:Int):(cQ M a c).set (5+k) (.int .i64 b)=cQ { M with heard:=M.heard.set k b } a c:=by
 have hh:(jY M).length=6:=by simp[jY,ok.hl]
 show(_::_::_::_::_::(jY M++pX M)).set (5+k) _=_::_::_::_::_::(jY { M with heard:=M.heard.set k b } ++ pX M)
 rw[show 5+k=k+1+1+1+1+1 from by omega]
 simp only[y_]
 rw[List.set_append_left _ _ yg,jY,jY,gZ]
theorem aI.Ok.DN(ok:M.Ok){n:Int}(h:0≤n∧n<6):∃k:Nat,n=k∧k<6∧M.whole[k]?=some (M.r4 n):=by
 obtain⟨k,rfl⟩:∃k:Nat,n=k:=⟨n.toNat,by omega⟩
 refine⟨k,Z,by omega,?_⟩
 have hk:k<M.whole.length:=by rw[ok.wl];omega
 unfold aI.r4
 rw[ea,GE hk];rfl
theorem aI.Ok.SX(ok:M.Ok){n:Int}(h:0≤n∧n<6):∃k:Nat,n=k∧k<6∧M.heard[k]?=some (M.rE n)∧0≤M.rE n∧M.rE n≤1099511627776:=by
 obtain⟨k,rfl⟩:∃k:Nat,n=k:=⟨n.toNat,by omega⟩
 have hk:k<M.heard.length:=by rw[ok.hl];omega
 have e:M.heard[k]?=some (M.rE (k:Int)):=by
  unfold aI.rE
  rw[ea,GE hk];rfl
 exact⟨k,Z,by omega,e,ok.hr _ (ME e)⟩
theorem Gd(ok:M.Ok)(h:bq Fr w p (cQ M a c))(hm:aT aD 2 Fr w a M.ch.ms)(n:Int):ax Tryz.prog 108 [.pointer (some ⟨p,0,none⟩),.int .i64 n] Fr w [] (fun v L=>v=.bool (M.mu n)∧L=[]):=by
 have hl:=ok.ml
 refine TF 31 Tryz.func108 Z yp aC Z Z ?_
 refine ow ?_
 refine VC.loop (σ:=Nat) (fun k=>[(0,pV p),(1,.int .i64 n),(11,.slice a M.ch.ms.length c),(12,.int .i64 M.ch.ms.length),(13,.int .i64 (k:Int))]) (fun _=>[]) (fun k=>k≤M.ch.ms.length∧(M.ch.ms.take k).any (fun x=>!decide (x.1=n)&&M.r4 x.1)=false) (fun k=>M.ch.ms.length-k) 0
  ⟨bH _,by rw[qi];rfl⟩ aH ER ?_
 rintro k ⟨hk,hno⟩
 refine ae ?_
 refine CP (p:=(k:Int)<M.ch.ms.length) Z (fun h1=>CK ?_) (fun h1=>CX ?_)
 rotate_left
 ·rw[qg yg] at hno
  refine ae ?_
  exact CR (an.tmp 4 Z Z aa.nil.aj ⟨by rw[aI.mu,hno],Z⟩)
 obtain⟨x,hx⟩:∃x,M.ch.ms[k]?=some x:=⟨_,GE yg⟩
 obtain⟨xb,xo,hxa,ra,rc⟩:=aT.rd (X:=⟨Tryz.prog,tab,aC,31,Fr,w⟩) hm hx
 subst hxa
 obtain⟨j,hj,hj6,hw⟩:=ok.DN (ok.mr x (ME hx))
 have next:(!decide (x.1=n)&&M.r4 x.1)=false→(M.ch.ms.take (k+1)).any (fun x=>!decide (x.1=n)&&M.r4 x.1)=false:=fun e=>by
  rw[fX,hx,List.any_append,hno];simpa using e
 refine p_ ?_
 refine uB ?_
 refine VG (VO.alloc Z fun b6=>?_)
 refine VG (VT (vs:=aD x) (cs':=aD x) 0 Z Z Z Z (NR _) Z Z Z ?_)
 refine ae ?_
 refine CD (ts 0 13 .nil) yp yr ?_
 refine cW ?_
 by_cases h2:x.1=n
 ·refine AG (AY 21 false Z (by rw[bne_eq_false_iff_eq];exact h2) ?_)
  refine cW ?_
  refine fV ?_
  refine gC ?_
  exact⟨k+1,⟨by omega,next (by rw[DT h2];rfl)⟩,by dsimp only;omega,SC Z (SC Z (SC Z (SC Z (Sub.int Z yg (SN _))))),aa.nil.aj⟩
 refine AG (AY 21 true Z (by rw[bne_iff_ne];exact h2) ?_)
 refine cW ?_
 refine AG (AI Z (iL j Z Z Z Z Z hj yg) ?_)
 refine AG (VA.load Z Z Z (aw.aA h (v:=.bool (M.r4 x.1)) (by show(cQ M _ c)[11+j*1]?=_;rw[pj];exact T_ ok hw)) ?_)
 refine cW ?_
 refine CC Z (fun h3=>?_) (fun h3=>CK ?_)
 ·refine ae ?_
  refine CR (an.tmp 4 Z Z aa.nil.aj ⟨?_,Z⟩)
  have:M.mu n=true:=by
   rw[aI.mu,List.any_eq_true]
   exact⟨x,ME hx,by rw[DF h2,h3];rfl⟩
  rw[this]
 refine gC ?_
 exact⟨k+1,⟨by omega,next (by rw[h3,mX])⟩,by dsimp only;omega,SC Z (SC Z (SC Z (SC Z (Sub.int Z yg (SN _))))),aa.nil.aj⟩
theorem u6{n k b M:Nat}(h:n≤k)(hk:k*b≤M):n*b≤M:=ph (sv b h) hk
theorem aa.last{H:HP}{L:List HP}:aa (H::L) (L ++ [H]):=aa.perm (by simpa using(lV (l₁:=[H]) (l₂:=L)))
theorem Ae(ok:M.Ok)(h:bq Fr w p (cQ M a c))(hm:aT aD 2 Fr w a M.ch.ms):ax Tryz.prog 110 [.pointer (some ⟨p,0,none⟩)] Fr w [] (fun v L=>nG M.all v L []):=by
 have hn0:=ok.n0
 have hn1:=ok.n1
 refine TF 20 Tryz.func110 Z yp aC Z Z ?_
 refine ae ?_
 refine VC.loop (σ:=List gr×Option Addr×Nat) (fun x=>[(0,pV p),(3,.slice x.2.1 x.1.length x.2.2),(4,.int .i64 x.1.length)]) (fun x=>aq gk 30 x.2.1 x.1.length x.2.2 (flat dy x.1)::x.1.map iM) (fun x=>x.1.length≤M.nodes.toNat∧x.1.map Prod.fst=(List.range x.1.length).map fun(n:Nat)=>gP M.ch (n:Int)) (fun x=>M.nodes.toNat-x.1.length) ([],none,0)
  ⟨bH _,rfl⟩ aH (aa.cK aa.nil).aj ?_
 rintro⟨X,sa,sc⟩ ⟨hk,hX⟩
 dsimp only at hk hX ⊢
 refine ow ?_
 refine CP (p:=(X.length:Int)<M.nodes) Z (fun h1=>CK ?_) (fun h1=>CX ?_)
 rotate_left
 ·refine ae ?_
  refine CR (an.tmp 2 Z Z ER ⟨X,sa,sc,?_,Z,Z⟩)
  rw[hX,aI.all,show M.nodes.toNat=X.length from by omega]
 refine ae ?_
 refine VG (VK (Lc:=[]) (fun Fr w hF hw _=>F_ Fr w ok (h.of hF hw) (hm.of hF hw) X.length) Z Z ?_)
 rintro _ _ ⟨g,rfl,rfl⟩
 refine VG (VO.buildSlice (pv:=[(0,.agg (dy (gP M.ch X.length,g)).toArray)]) (dy (gP M.ch X.length,g)) Z Z Z Z yy (eY Z Z Z) fun sb=>?_)
 refine VG (VO.append (m:=1) (news:=dy (gP M.ch X.length,g)) 2 Z Z Z Z Z Z Z (dm.pt 0 Z Z Z) Z (u6 (k:=1000) yg yy) yg fun a2 c2 hc2=>?_)
 refine gC ?_
 have hlen:(X ++ [(gP M.ch X.length,g)]).length=X.length+1:=by simp
 refine⟨(X ++ [(gP M.ch X.length,g)],a2,c2),⟨by dsimp only;omega,?_⟩,by dsimp only;omega,SC Z (SC (by dsimp only;rw[hlen];rfl) (Sub.int Z fB (SN _))),?_⟩
 ·dsimp only
  rw[hlen,gn,hX,tH,gn];rfl
 ·dsimp only
  rw[hlen,fu,gn]
  exact(aa.cons (aa.tl.trans aa.last)).aj
end
end Cl
namespace Cl
open Go Vg T Api Ch Rep
attribute [local irreducible] VO VC VA
def nz(p:Nat)(M:aI)(a:Option Addr)(c:Nat):List HP:=[pt p (cQ M a c) ka,aq aP 2 a M.ch.ms.length c (flat aD M.ch.ms)]
def cC(p:Nat)(M:aI):HP:=hex fun x:Option Addr×Nat=>bF (nz p M x.1 x.2)
theorem bd.aG(p:Nat)(M:aI):bd (ι:=Option Addr×Nat) (cC p M) (fun _=>True) (fun x=>nz p M x.1 x.2):=fun w ids ⟨x,h⟩ hn=>⟨x,trivial,ids,h,hn,fun _ h=>h⟩
theorem aa.aG{p:Nat}{M:aI}{L K:List HP}(x:Option Addr×Nat)(h:aa L (nz p M x.1 x.2++K)):aa L (cC p M::K):=aa.ex (f:=fun x:Option Addr×Nat=>bF (nz p M x.1 x.2)) x (aa.sep h)
theorem aa.Fj{R A:List HP}:aa (R++A) A:=aa.app (M:=[]) aa.nil aa.refl
theorem uZ{p:Nat}{M:aI}{a:Option Addr}{c:Nat}{A R:List HP}:aa (A++(nz p M a c++R)) (cC p M::A):=
 (aa.perm lV).trans (aa.aG (a,c) ((aa.of_eq (ed _ _ _)).trans (aa.app aa.refl aa.Fj)))
theorem zF{α:Type}(c:α→List Value)(x:α):flat c [x]=c x:=by simp[flat]
theorem Gy{p:Nat}{M:aI}{a:Option Addr}{c:Nat}{x:gr}{sb:Nat}{R:List HP}:aa (pt sb (dy x) gk::iM x::(nz p M a c++R)) (cC p M::aq gk 30 (some ⟨sb,0,none⟩) 1 1 (flat dy [x]) :: [x].map iM):=by
 rw[zF]
 exact(aa.Di (n:=1) (by rw[Db]) (aa.refl (L:=pt sb (dy x) gk::iM x::(nz p M a c++R)))).trans (uZ (A:=[_,_]))
theorem rN{p:Nat}{M:aI}{a:Option Addr}{c:Nat}{R:List HP}:aa (nz p M a c++R) (cC p M::aq gk 30 none 0 0 (flat dy [])::([]:List gr).map iM):=
 (aa.cK (aa.refl (L:=nz p M a c++R))).trans (uZ (A:=[aq gk 30 none 0 0 []]))
theorem xB{v:Value}{L H:List HP}(hv:v=.slice none 0 0)(hL:L=H++(aq gk 30 none 0 0 (flat dy [])::([]:List gr).map iM)):nG [] v L H:=⟨[],none,0,rfl,hv,hL⟩
theorem De{v:Value}{L H:List HP}{x:gr}{sb:Nat}(hv:v=.slice (some ⟨sb,0,none⟩) 1 1)(hL:L=H++(aq gk 30 (some ⟨sb,0,none⟩) 1 1 (flat dy [x]) :: [x].map iM)):nG [x.1] v L H:=⟨[x],some ⟨sb,0,none⟩,1,rfl,hv,hL⟩
theorem xq{ms:List aS}{n:Int}(h:0≤placeOf ms n):∃(i:Nat) (m:aS),placeOf ms n=i∧i<ms.length∧ms[i]?=some m∧m.1=n:=by
 rcases uj ms n with e | h
 ·omega
 ·exact h
theorem Ct{c:aV}{n:Int}(h:lH c n=0):0≤placeOf c.ms n∧c.ms.length≠1:=by
 unfold lH at h
 by_cases p:placeOf c.ms n<0
 ·rw[if_pos p] at h;exact absurd h yy
 ·refine⟨by omega,fun e=>?_⟩
  rw[if_neg p,if_pos e] at h;exact absurd h yy
theorem AU{c:aV}{n:Int}(h:(jg c n).2=0):gS c=0∧lH c n=0∧jg c n=(⟨c.ar+1,c.ms.eraseIdx (placeOf c.ms n).toNat,if c.drain=n then -1 else c.drain⟩,0):=by
 unfold jg at h ⊢
 by_cases h1:gS c≠0
 ·rw[if_pos h1] at h;exact absurd h yy
 rw[if_neg h1] at h ⊢
 by_cases h2:lH c n≠0
 ·rw[if_pos h2] at h;exact absurd h h2
 rw[if_neg h2]
 exact⟨we.1 h1,we.1 h2,Z⟩
theorem DO{c:aV}{n:Int}(h:(fy c n).2=0):gS c=0∧oT n=true∧placeOf c.ms n<0∧fy c n=(⟨c.ar+1,c.ms ++ [(n,c.ar+1)],c.drain⟩,0):=by
 unfold fy at h ⊢
 by_cases h1:gS c≠0
 ·rw[if_pos h1] at h;exact absurd h yy
 rw[if_neg h1] at h ⊢
 by_cases h2:oT n=false
 ·rw[if_pos h2] at h;exact absurd h yy
 rw[if_neg h2] at h ⊢
 by_cases h3:0≤placeOf c.ms n
 ·rw[if_pos h3] at h;exact absurd h yy
 rw[if_neg h3]
 exact⟨we.1 h1,by simpa using h2,by omega,Z⟩
theorem B0{c:aV}{n:Int}(h:(gR c n).2=0):gS c=0∧lH c n=0∧c.drain=-1∧gR c n=(⟨c.ar+1,c.ms,n⟩,0):=by
 unfold gR at h ⊢
 by_cases h1:gS c≠0
 ·rw[if_pos h1] at h;exact absurd h yy
 rw[if_neg h1] at h ⊢
 by_cases h2:lH c n≠0
 ·rw[if_pos h2] at h;exact absurd h h2
 rw[if_neg h2] at h ⊢
 by_cases h3:c.drain≠-1
 ·rw[if_pos h3] at h;exact absurd h yy
 rw[if_neg h3]
 exact⟨we.1 h1,we.1 h2,we.1 h3,Z⟩
theorem aI.Ok.place{M:aI}(ok:M.Ok){n:Int}(h:0≤placeOf M.ch.ms n):0≤n∧n<6:=by
 obtain⟨i,m,_,_,h2,rfl⟩:=xq h
 exact ok.mr m (ME h2)
theorem aI.Ok.gone{M:aI}(ok:M.Ok){n:Int}(h:M.nD n=0):(M.gone n).Ok:=by
 obtain⟨_,_,e⟩:=AU h
 have e1:(M.gone n).ch=⟨M.ch.ar+1,M.ch.ms.eraseIdx (placeOf M.ch.ms n).toNat,if M.ch.drain=n then -1 else M.ch.drain⟩:=by show(jg M.ch n).1=_;rw[e]
 refine⟨ok.n0,ok.n1,ok.p0,ok.p1,?_,?_,ok.hl,by show(M.whole.set _ _).length=6;rw[fW,ok.wl],ok.hr⟩
 ·rw[e1];exact ph (List.length_eraseIdx_le _ _) ok.ml
 ·rw[e1];exact fun x hx=>ok.mr x (List.mem_of_mem_eraseIdx hx)
theorem aI.Ok.out{M:aI}(ok:M.Ok)(n:Int):(M.out n).Ok:=by
 unfold aI.out
 split
 ·exact ok
 ·rename_i h;exact ok.gone (we.1 h)
theorem tg(n:Int):0≤bY n∧bY n≤1099511627776:=by unfold bY;omega
theorem aI.Ok.ic{M:aI}(ok:M.Ok)(n now:Int):(M.ic n now).Ok:=
 ⟨ok.n0,ok.n1,ok.p0,ok.p1,ok.ml,ok.mr,by show(M.heard.set _ _).length=6;rw[fW,ok.hl],ok.wl,fun x hx=>by
  rcases kx hx with h | h
  ·exact ok.hr x h
  ·rw[h];exact tg now⟩
theorem aI.Ok.wholeAt{M:aI}(ok:M.Ok)(n:Int):(M.wholeAt n).Ok:=
 ⟨ok.n0,ok.n1,ok.p0,ok.p1,ok.ml,ok.mr,ok.hl,by show(M.whole.set _ _).length=6;rw[fW,ok.wl],ok.hr⟩
theorem aI.Ok.take{M:aI}(ok:M.Ok)(from_:Int)(f:aB)(now:Int):(M.take from_ f now).1.Ok:=by
 unfold aI.take
 split
 ·exact ok
 split
 ·exact ok
 split
 ·split
  ·exact ok.ic _ _
  split
  ·exact(ok.ic _ _).wholeAt _
  ·exact ok.ic _ _
 split
 ·split
  ·exact ok
  split<;>exact ok
 split
 ·split
  ·rename_i h;exact ok.gone h.2.2
  ·exact ok
 ·exact ok
section
variable {p:Nat} {M:aI}
theorem Ge(ok:M.Ok)(n:Int):ax Tryz.prog 109 [.pointer (some ⟨p,0,none⟩),.int .i64 n] Fr w [cC p M] (fun v L=>v=.int .i64 (M.nD n)∧L=[cC p (M.out n)]):=by
 have hl:=ok.ml
 refine TF 28 Tryz.func109 Z yp aC Z Z ?_
 refine Bb ?_
 rintro⟨a,c⟩ -
 show VC _ _ _ (nz p M a c) _
 unfold nz
 refine al ?_
 refine Bc ?_
 refine al ?_
 refine VG (VK (Lc:=[]) (fun Fr w hF hw hS=>abC Fr w (c:=M.ch) (aT.aq cu (hS.at_ 1 Z)) yg n) Z Z ?_)
 rintro _ _ ⟨wa,wc,rfl,rfl⟩
 refine av ?_
 refine VG (VO.alloc Z fun b5=>?_)
 refine VG (VT (vs:=(jg M.ch n).1.cells wa wc) (cs':=(jg M.ch n).1.cells wa wc) 0 Z Z Z Z (NR _) Z Z Z ?_)
 refine av ?_
 refine VC.dp Z (fun he=>?_) (fun he=>CK ?_)
 ·refine av ?_
  exact CR (an.tmp 4 Z Z (aa.aG (a,c) (IP 2 Z (IP 2 Z aa.nil))).aj ⟨rfl,by rw[aI.out,if_pos (show M.nD n≠0 from he)]⟩)
 obtain⟨hf,hlv,hW⟩:=AU he
 obtain⟨k,hk,hk6,_⟩:=ok.DN (ok.place (Ct hlv).1)
 have ok1:=ok.gone he
 refine av ?_
 refine VG (VL 0 ((jg M.ch n).1.cells wa wc) Z Z Z Z ?_)
 refine av ?_
 refine VG (VT (vs:=(jg M.ch n).1.cells wa wc) (cs':=cQ { M with ch:=(jg M.ch n).1 } wa wc) 2 Z Z Z Z ID Z Z Z ?_)
 refine av ?_
 have ok2:({ M with ch:=(jg M.ch n).1 }:aI).Ok:=⟨ok1.n0,ok1.n1,ok1.p0,ok1.p1,ok1.ml,ok1.mr,ok.hl,ok.wl,ok.hr⟩
 have hg:cQ (M.gone n) wa wc=cQ { ({ M with ch:=(jg M.ch n).1 }:aI) with whole:=M.whole.set k false } wa wc:=by rw[aI.gone,show n.toNat=k from by omega]
 refine VG (VI (iL k Z Z Z Z Z hk hk6) ?_)
 refine VG (VO.st 2 (cs':=cQ (M.gone n) wa wc) Z Z Z Z (by show 0+11+k*1<_;rw[vp ok2];omega) (by rw[hg,←Cv ok2 hk6];show _=(cQ _ wa wc).set (11+k) _;rw[show 11+k=0+11+k*1 from by omega];rfl) Z ?_)
 refine av ?_
 exact CR (an.int 4 Z Z he.symm (aa.aG (M:=M.gone n) (wa,wc) (IP 2 Z (IP 1 Z aa.nil))).aj ⟨rfl,by rw[aI.out,if_neg (by rw[show M.nD n=0 from he];decide)]⟩)
end
end Cl
namespace Cl
open Go Vg T Api Ch Rep Rd
attribute [local irreducible] VO VC VA
section
variable {p:Nat} {M:aI}
theorem aI.KG{n:Int}(ok:M.Ok)(h:M.isNode n=true):0≤n∧n<6:=by
 have:=ok.n1
 unfold aI.isNode at h
 simp only[eG,decide_eq_true_eq] at h
 omega
theorem UA(ok:M.Ok)(from_:Int)(f:aB)(g:jk)(now:Int):ax Tryz.prog 174 [.pointer (some ⟨p,0,none⟩),.int .i64 from_,.agg (f.cells g).toArray,.int .i64 now] Fr w [cC p M]
  (fun v L=>nG (M.take from_ f now).2 v L [cC p (M.take from_ f now).1]):=by
 have hl:=ok.ml
 unfold aI.take
 refine TF 112 Tryz.func174 Z yp aC Z Z ?_
 refine CS (CG (VG (VB (vs:=f.cells g) Z fun fb=>VG (VN ?_))))
 refine VC.bz 1 Z (bd.aG p M) ?_
 rintro⟨a,c⟩ -
 show VC _ _ _ [pt p (cQ M a c) ka,aq aP 2 a M.ch.ms.length c (flat aD M.ch.ms),pt fb (f.cells g) cq] _
 refine ae ?_
 refine Bd ?_
 refine tz ?_
 refine jA ?_
 refine CE Z (fun k7=>?_) (fun k7=>CK ?_)
 ·rw[if_pos k7]
  refine ae ?_
  refine OR ?_
  rintro _ _ ⟨y,rfl,rfl⟩
  refine VG (VO.buildSlice (pv:=[(0,.agg (dy (gP M.ch from_,y)).toArray)]) (dy (gP M.ch from_,y)) Z Z Z Z yy (eY Z Z Z) fun sb=>?_)
  refine ae ?_
  exact OS
 rw[if_neg k7]
 refine ae ?_
 refine VG (VV (fun Fr w hF hw hS=>Ly Fr w (hS.aA 0 Z) from_) Z ?_)
 refine ae ?_
 refine VC.fq Z (fun hn=>?_) (fun hn=>CK ?_)
 ·rw[if_pos hn]
  refine ae ?_
  exact x_
 rw[if_neg (by rw[hn];decide)]
 obtain⟨j,hj,hj6,hwj⟩:=ok.DN (aI.KG ok hn)
 refine ae ?_
 refine CD (ts 0 9 .nil) yp yr ?_
 refine jh ?_
 refine jA ?_
 refine CE Z (fun lG=>?_) (fun lG=>?_)
 ·rw[if_pos lG]
  refine ae ?_
  refine CD (ts 0 3 (ts 4 2 (.only 3 (.take 6 (.only 7 .nil))))) yp yr ?_
  refine cX ?_
  refine AG (AR (fun Fr w hF hs hS=>Gg Fr w now) Z Z yu ?_)
  refine H9 ?_
  refine AG (VA.st 0 (cs':=cQ (M.ic from_ now) a c) Z Z Z Z Z (by show 0+5+j*1<_;rw[vp ok];omega) (by rw[aI.ic,show from_.toNat=j from by omega,←Ll ok hj6];show(cQ M a c).set (0+5+j*1) _=_;rw[show 0+5+j*1=5+j from by omega]) Z yu ?_)
  have ok1:=ok.ic from_ now
  refine cX ?_
  show VC _ _ _ [pt p (cQ (M.ic from_ now) a c) ka,aq aP 2 a (M.ic from_ now).ch.ms.length c (flat aD (M.ic from_ now).ch.ms),pt fb (f.cells g) cq] _
  refine ae ?_
  by_cases he:f.ar=M.ch.ar
  rotate_left
  ·rw[if_pos he]
   refine VC.fq (t:=false) PF (fun _=>?_) (fun e=>Bool.noConfusion e)
   refine ae ?_
   refine VG (VK (Lc:=[]) (fun Fr w hF hw hS=>F_ (M:=M.ic from_ now) Fr w ok1 (hS.aA 0 Z) (aT.aq cu (hS.at_ 1 Z)) from_) Z Z ?_)
   rintro _ _ ⟨y,rfl,rfl⟩
   refine VG (VO.buildSlice (pv:=[(0,.agg (dy (gP (M.ic from_ now).ch from_,y)).toArray)]) (dy (gP (M.ic from_ now).ch from_,y)) Z Z Z Z yy (eY Z Z Z) fun sb=>?_)
   refine ae ?_
   exact CR (an.tmp 8 Z Z (Gy (M:=M.ic from_ now) (a:=a) (c:=c) (R:=[_])).aj (De (x:=(gP M.ch from_,y)) Z Z))
  rw[if_neg (fun h=>h he)]
  refine VC.fq (t:=true) (by rw[←beq_iff_eq.2 he];rfl) (fun e=>Bool.noConfusion e) (fun _=>CK ?_)
  have hsn:bU (M.ic from_ now).ch from_=bU M.ch from_:=rfl
  refine jA ?_
  by_cases hi:f.index=1
  rotate_left
  ·rw[if_neg (fun h=>hi h.1)]
   refine VG (VY 53 false Z (beq_eq_false_iff_ne.2 hi) ?_)
   refine lS ?_
   refine ae ?_
   exact OT
  refine VG (VY 53 true Z (beq_iff_eq.2 hi) ?_)
  refine av ?_
  refine VG (VV (fun Fr w hF hw hS=>LC (M:=M.ic from_ now) Fr w ok1 (hS.aA 0 Z) (aT.aq cu (hS.at_ 1 Z)) from_) Z ?_)
  refine av ?_
  refine CC Z (fun hm=>?_) (fun hm=>CK ?_)
  ·rw[if_pos ⟨hi,hm⟩]
   refine ae ?_
   refine VG (VI (iL j Z Z Z Z Z hj hj6) ?_)
   refine VG (VO.st 0 (cs':=cQ ((M.ic from_ now).wholeAt from_) a c) Z Z Z Z (by show 0+11+j*1<_;rw[vp ok1];omega) (by rw[aI.wholeAt,show from_.toNat=j from by omega,←Cv ok1 hj6];show(cQ (M.ic from_ now) a c).set (0+11+j*1) _=_;rw[show 0+11+j*1=11+j from by omega]) Z ?_)
   refine ae ?_
   exact CR (an.tmp 8 Z Z (rN (M:=(M.ic from_ now).wholeAt from_) (a:=a) (c:=c) (R:=[_])).aj (xB Z Z))
  ·rw[if_neg (fun h=>by rw[hsn] at hm;rw[hm] at h;cases h.2)]
   refine ae ?_
   exact OT
 rw[if_neg lG]
 refine ae ?_
 refine CE Z (fun k9=>?_) (fun k9=>?_)
 ·rw[if_pos k9]
  refine ae ?_
  by_cases he:f.ar=M.ch.ar
  rotate_left
  ·rw[if_pos he]
   refine VC.fq (t:=false) PF (fun _=>?_) (fun e=>Bool.noConfusion e)
   refine ae ?_
   refine OR ?_
   rintro _ _ ⟨y,rfl,rfl⟩
   refine VG (VO.buildSlice (pv:=[(0,.agg (dy (gP M.ch from_,y)).toArray)]) (dy (gP M.ch from_,y)) Z Z Z Z yy (eY Z Z Z) fun sb=>?_)
   refine ae ?_
   exact OS
  rw[if_neg (fun h=>h he)]
  refine VC.fq (t:=true) (by rw[←beq_iff_eq.2 he];rfl) (fun e=>Bool.noConfusion e) (fun _=>CK ?_)
  refine ae ?_
  refine Bc ?_
  refine VG (VV (fun Fr w hF hw hS=>AJ Fr w (c:=M.ch) (aT.aq cu (hS.at_ 1 Z)) yg) Z ?_)
  refine ae ?_
  refine CE Z (fun ht=>?_) (fun ht=>CK ?_)
  ·rw[if_pos ht]
   refine jA ?_
   refine VG (VI (LB (pv:=[(0,.int .i64 10),(1,.int .i64 f.ar),(12,.int .i64 f.index)]) ((pS f.ar f.index).cells (none,0,0)) Z Z Z yp Z) ?_)
   refine VG (VO.alloc Z fun b10=>?_)
   refine VG (VT (vs:=(pS f.ar f.index).cells (none,0,0)) (cs':=(pS f.ar f.index).cells (none,0,0)) 0 Z Z Z Z (NR _) Z Z Z ?_)
   refine ae ?_
   refine VG (VL 0 ((pS f.ar f.index).cells (none,0,0)) Z Z Z Z ?_)
   refine VG (VI (LB (pv:=[(0,.int .i64 from_),(1,.agg ((pS f.ar f.index).cells (none,0,0)).toArray)]) (dy ((from_,pS f.ar f.index,[]),(none,0))) Z Z Z yp Z) ?_)
   refine VG (VO.buildSlice (pv:=[(0,.agg (dy ((from_,pS f.ar f.index,[]),(none,0))).toArray)]) (dy ((from_,pS f.ar f.index,[]),(none,0))) Z Z Z Z yy (eY Z Z Z) fun sb=>?_)
   refine ae ?_
   refine CR (an.tmp 8 Z Z ?_ (De (x:=((from_,pS f.ar f.index,[]),(none,0))) (sb:=sb) Z Z))
   refine aa.aj (aa.trans (M:=pt sb (dy ((from_,pS f.ar f.index,[]),(none,0))) gk::iM ((from_,pS f.ar f.index,[]),(none,0))::(nz p M a c ++ [])) ?_ Gy)
   exact IP 0 Z (aa.cK (bb [1,1]))
  ·rw[if_neg ht]
   refine ae ?_
   exact x_
 rw[if_neg k9]
 refine ae ?_
 refine CE Z (fun k12=>?_) (fun k12=>CK ?_)
 rotate_left
 ·rw[if_neg k12]
  refine ae ?_
  exact x_
 rw[if_pos k12]
 refine ae ?_
 by_cases he:f.ar=M.ch.ar
 rotate_left
 ·rw[if_neg (fun h=>he h.1.1)]
  refine VG (VY 90 false Z (beq_eq_false_iff_ne.2 he) ?_)
  refine av ?_
  refine VG (VY 99 false Z Z ?_)
  refine av ?_
  refine VG (VY 104 false Z Z ?_)
  refine lS ?_
  refine ae ?_
  exact x_
 refine VG (VY 90 true Z (beq_iff_eq.2 he) ?_)
 refine gO ?_
 by_cases hd:M.ch.drain=from_
 rotate_left
 ·rw[if_neg (fun h=>hd h.1.2)]
  refine VG (VY 99 false Z (beq_eq_false_iff_ne.2 hd) ?_)
  refine av ?_
  refine VG (VY 104 false Z Z ?_)
  refine lS ?_
  refine ae ?_
  exact x_
 refine VG (VY 99 true Z (beq_iff_eq.2 hd) ?_)
 refine av ?_
 refine VG (VV (fun Fr w hF hw hS=>Gd Fr w ok (hS.aA 0 Z) (aT.aq cu (hS.at_ 1 Z)) from_) Z ?_)
 refine av ?_
 cases hg:M.mu from_ with
 | false=>
  rw[if_neg (fun h=>Bool.noConfusion h.2.1)]
  refine VG (VY 104 false Z Z ?_)
  refine lS ?_
  refine ae ?_
  exact x_
 | true=>
 refine VG (VY 104 true Z Z ?_)
 refine av ?_
 refine VO.aj (L':=[cC p M] ++ [pt fb (f.cells g) cq]) (aa.aG (a,c) (bb [0,0,0])).aj ?_
 refine VG (VK (Lc:=[cC p M]) (fun Fr w hF hw hS=>Ge Fr w ok from_) Z Z ?_)
 rintro _ _ ⟨rfl,rfl⟩
 refine av ?_
 refine CE Z (fun ho=>?_) (fun ho=>CK ?_)
 ·rw[if_pos ⟨⟨he,hd⟩,rfl,ho⟩]
  have hout:M.out from_=M.gone from_:=by rw[aI.out,if_neg (by rw[ho];decide)]
  rw[hout]
  have ok1:=ok.gone ho
  refine VC.bz 0 Z (bd.aG p (M.gone from_)) ?_
  rintro⟨a1,c1⟩ -
  show VC _ _ _ [pt p (cQ (M.gone from_) a1 c1) ka,aq aP 2 a1 (M.gone from_).ch.ms.length c1 (flat aD (M.gone from_).ch.ms),pt fb (f.cells g) cq] _
  refine ae ?_
  refine VG (VK (Lc:=[]) (fun Fr w hF hw hS=>Ae (M:=M.gone from_) Fr w ok1 (hS.aA 0 Z) (aT.aq cu (hS.at_ 1 Z))) Z Z ?_)
  rintro _ _ ⟨X,sa,sc,hX,rfl,rfl⟩
  refine ae ?_
  exact CR (an.tmp 8 Z Z (uZ (p:=p) (M:=M.gone from_) (a:=a1) (c:=c1) (R:=[_])).aj ⟨X,sa,sc,hX,Z,Z⟩)
 ·rw[if_neg (fun h=>ho h.2.2)]
  have hout:M.out from_=M:=by rw[aI.out,if_pos ho]
  rw[hout]
  refine ae ?_
  exact CR (an.tmp 8 Z Z ((aa.cK (aa.refl (L:=[cC p M,pt fb (f.cells g) cq]))).trans (IP 1 Z (IP 0 Z aa.nil))).aj (xB Z Z))
end
end Cl
namespace Cl
open Go Vg T Api Ch Rep Rd
attribute [local irreducible] VO VC VA
def xA(S:List dJ)(e:Int)(v:Value)(L:List HP)(H:List HP):Prop:=∃(X:List gr) (a:Option Addr) (c:Nat),X.map Prod.fst=S∧v=.tuple #[.slice a X.length c,.int .i64 e]∧L=H++(aq gk 30 a X.length c (flat dy X)::X.map iM)
theorem s9{v:Value}{e:Int}{L H:List HP}(hv:v=.tuple #[.slice none 0 0,.int .i64 e])(hL:L=H++(aq gk 30 none 0 0 (flat dy [])::([]:List gr).map iM)):xA [] e v L H:=⟨[],none,0,rfl,hv,hL⟩
theorem KX{X:Cx}{e:Env}{T:TypeId}{x:Operand}{xs:Array Value}{fs:Array Field}{g:Field}{f:Nat}{v:Value}(hT:X.P.underlying T=some (.struct fs))(hx:ev e x=some (.agg xs))(hf:fs[f]?=some g)
  (hp:∀w:World,(part g.type xs g.offset).run X.P w=.ok v w):fo X (.field T x f) e v:=by
 intro a ha dst ty pos after guard w
 have h:(Instr.field T (.agg xs) f).run X.P w=.ok v w:=by
  simp[Instr.field,run_underlying hT,hf,asAgg,hp w]
 simp[execOp,ha.ev hx,h]
section
variable {p:Nat} {M:aI}
theorem aw.aG{X:Cx}{L:List HP}{ti:TI}{M:aI}{off:Nat}{v:Value}(i:Nat)(hL:L[i]?=some (cC p M))(hv:∀a c,(cQ M a c)[off]?=some v)(ha:ti.aE.agg=false:=by rfl):aw X L ti p off v:=fun w hw=>by
 obtain⟨F,hs,_,_⟩:=hw.sat
 obtain⟨ids,hid,_⟩:=ei.get hs hL
 obtain⟨x,i1,G,_,h1,_⟩:=hid
 rw[ha];exact G4 h1.2 (hv _ _)
theorem Vm(M:aI)(n:Int):(M.out n).fQ=M.fQ:=by unfold aI.out;split<;>rfl
theorem NL{now:Int}:∀(l:List aS) (x:aI×Bool),x.1.Ok→(aI.watch now l x).1.Ok
 | [],x,h=>h
 | y::l,x,h=>by
  rw[aI.watch]
  refine NL l _ ?_
  split
  ·rename_i hl
   simp only[aI.late,eG,decide_eq_true_eq] at hl
   exact h.gone hl.2.2
  ·exact h
theorem aI.Ok.tick(ok:M.Ok)(now:Int):(M.tick now).1.Ok:=NL _ _ ok
theorem UC(ok:M.Ok)(now:Int):ax Tryz.prog 54 [.pointer (some ⟨p,0,none⟩),.int .i64 now] Fr w [cC p M]
  (fun v L=>nG (M.tick now).2 v L [cC p (M.tick now).1]):=by
 have hl:=ok.ml
 have htk:=tg now
 unfold aI.tick
 generalize htn:bY now=tn at htk
 refine TF 56 Tryz.func54 Z yp aC Z Z ?_
 refine Bb ?_
 rintro⟨a,c⟩ -
 show VC _ _ _ [pt p (cQ M a c) ka,aq aP 2 a M.ch.ms.length c (flat aD M.ch.ms)] _
 refine ae ?_
 refine Bd ?_
 refine si ?_
 refine VG (VV (fun Fr w hF hw hS=>Gg Fr w now) Z ?_)
 rw[htn]
 refine ae ?_
 refine Bc ?_
 refine VG (VK (Lc:=[]) (fun Fr w hF hw hS=>Lt Fr w (c:=M.ch) (aT.aq cu (hS.at_ 1 Z)) yg) Z Z ?_)
 rintro _ _ ⟨ca,cc,rfl,rfl⟩
 refine ae ?_
 refine VG (VI (KX (v:=.slice ca M.ch.ms.length cc) Tryz.underlying41 Z Z (fun w=>pO (oH.look aC (t:=39) (ti:=T.t39) Z) Z Z w)) ?_)
 refine ae ?_
 have hml:=ok.ml
 have hmr:=ok.mr
 generalize hms:M.ch.ms=ms at hml hmr
 refine VC.bz 0 Z (bd.rl aP ca cc ms cu) ?_
 rintro⟨ra,rc,rb,rcs,rxs⟩ ⟨rok,rv,rx⟩
 dsimp only at rx
 subst rx
 injection rv with e1 _ e3
 subst e1 e3
 refine VC.loop (σ:=Nat×aI×Bool) (fun x=>[(0,pV p),(1,.int .i64 tn),(18,.slice ra rxs.length rc),(19,.int .i64 rxs.length),(20,.int .i64 (x.1:Int)),(5,.bool x.2.2)]) (fun x=>[RL.h aP ⟨ra,rc,rb,rcs,rxs⟩,cC p x.2.1])
  (fun x=>x.1≤rxs.length∧x.2.1.Ok∧aI.watch tn (rxs.drop x.1) x.2=aI.watch tn rxs (M,false)) (fun x=>rxs.length-x.1) (0,M,false)
  ⟨bH _,ok,rfl⟩ aH ?_ ?_
 ·refine(IP 0 Z (aa.aG (a,c) ?_)).aj
  unfold nz
  rw[hms]
  exact aa.refl
 rintro⟨k,M1,b⟩ ⟨hk,ok1,hW⟩
 dsimp only at hk ok1 hW ⊢
 refine ae ?_
 refine CP (p:=(k:Int)<rxs.length) Z (fun h1=>CK ?_) (fun h1=>CX ?_)
 rotate_left
 ·rw[List.drop_of_length_le yg] at hW
  rw[←hW]
  show VC _ _ _ _ _
  dsimp only[aI.watch]
  refine ae ?_
  cases b with
  | false=>
   refine lR ?_
   refine ae ?_
   exact CR (an.tmp 4 Z Z ((aa.cK (aa.refl (L:=[RL.h aP ⟨ra,rc,rb,rcs,rxs⟩,cC p M1]))).trans (IP 2 Z (IP 0 Z aa.nil))).aj (xB Z Z))
  | true=>
   refine fV ?_
   refine VC.bz 1 Z (bd.aG p M1) ?_
   rintro⟨a1,c1⟩ -
   show VC _ _ _ [pt p (cQ M1 a1 c1) ka,aq aP 2 a1 M1.ch.ms.length c1 (flat aD M1.ch.ms),RL.h aP ⟨ra,rc,rb,rcs,rxs⟩] _
   refine ae ?_
   refine VG (VK (Lc:=[]) (fun Fr w hF hw hS=>Ae (M:=M1) Fr w ok1 (hS.aA 0 Z) (aT.aq cu (hS.at_ 1 Z))) Z Z ?_)
   rintro _ _ ⟨X,sa,sc,hX,rfl,rfl⟩
   refine ae ?_
   exact CR (an.tmp 4 Z Z (uZ (p:=p) (M:=M1) (a:=a1) (c:=c1) (R:=[_])).aj ⟨X,sa,sc,hX,Z,Z⟩)
 obtain⟨x,hx⟩:∃x,rxs[k]?=some x:=⟨_,GE yg⟩
 have hdr:rxs.drop k=x::rxs.drop (k+1):=by
  obtain⟨g1,g2⟩:=bP.1 hx
  rw[Bu g1,g2]
 rw[hdr,aI.watch] at hW
 obtain⟨j,hj,hj6,hh,hh0,hh1⟩:=ok1.SX (hmr x (ME hx))
 have hp0:=ok1.p0
 have hp1:=ok1.p1
 obtain⟨tb,tof,htb,hta,hrd⟩:=RL.Ok.ld (t:=aP) (k:=k) (x:=x) rok hx (cu x)
 dsimp only at hta
 subst hta
 refine VC.bz 1 Z (bd.aG p M1) ?_
 rintro⟨a1,c1⟩ -
 show VC _ _ _ [pt p (cQ M1 a1 c1) ka,aq aP 2 a1 M1.ch.ms.length c1 (flat aD M1.ch.ms),RL.h aP ⟨some ⟨tb,tof,none⟩,rc,rb,rcs,rxs⟩] _
 refine CS (VC.bZ (σ:=aI×Bool) (fun x=>[(0,pV p),(1,.int .i64 tn),(18,.slice (some ⟨tb,tof,none⟩) rxs.length rc),(19,.int .i64 rxs.length),(20,.int .i64 (k:Int)),(5,.bool x.2)]) (fun x=>[RL.h aP ⟨some ⟨tb,tof,none⟩,rc,rb,rcs,rxs⟩,cC p x.1]) (fun y=>y.1.Ok∧y=if M1.late tn x.1 then (M1.gone x.1,true) else (M1,b)) ?_ ?_)
 rotate_left
 ·rintro⟨M2,b2⟩ ⟨ok2,hy⟩
  refine gC ?_
  exact⟨(k+1,M2,b2),⟨by omega,ok2,by dsimp only;rw[hy];exact hW⟩,by dsimp only;omega,SC Z (SC Z (SC Z (SC Z (Sub.int Z fB aH)))),ER⟩
 refine p_ ?_
 refine VG (VD Z Z ((hrd 2 Z).1 _ Z Z) ?_)
 refine VG (VO.alloc Z fun b7=>?_)
 refine VG (VT (vs:=aD x) (cs':=aD x) 0 Z Z Z Z (NR _) Z Z Z ?_)
 refine ae ?_
 refine CD (ts 0 18 (.only 18 (ts 19 5 (.only 24 (ts 25 2 .nil))))) yp yr ?_
 refine ko ?_
 refine H9 ?_
 have hcell:(cQ M1 a1 c1)[0+5+j*1]?=some (.int .i64 (M1.rE x.1)):=by rw[show 0+5+j*1=5+j from by omega];exact Lk ok1 hh
 refine AG (VA.ld 1 Z Z Z Z hcell ?_)
 refine xV ?_
 refine ko ?_
 by_cases g1:M1.fQ<tn-M1.rE x.1
 rotate_left
 ·refine AG (AY 38 false Z (DF g1) ?_)
  refine ko ?_
  refine p6 ?_
  refine ko ?_
  refine AG (AY 44 false Z Z ?_)
  refine ko ?_
  refine p6 ?_
  refine ko ?_
  refine fV ?_
  exact⟨(M1,b),⟨ok1,by rw[if_neg];rw[aI.late,DF g1,oA];exact qd⟩,aH,(IP 3 Z (aa.aG (a1,c1) (bb [1,1]))).aj⟩
 refine AG (AY 38 true Z (DT g1) ?_)
 refine ko ?_
 refine AG (AR (fun Fr w hF hw hS=>Gd Fr w ok1 (hS.aA 1 Z) (aT.aq cu (hS.at_ 2 Z)) x.1) Z Z (by(try refine Pd.st ?_);(repeat(first|exact Pd.nil|exact Pd.fnil|refine Pd.inner ?_|refine Pd.skip yr ?_|refine zf (zo 0 Z Z) ?_|refine zf (zo 1 Z Z) ?_|refine zf (zm 0 Z Z) ?_|refine zf (zm 1 Z Z) ?_|refine zf (aw.aA (aw.one 1 Z hcell) Z) ?_|refine zf ((aw.one 1 Z hcell)) ?_|refine zc (zo 0 Z Z) ?_|refine zc (zo 1 Z Z) ?_|refine zc (zm 0 Z Z) ?_|refine zc (zm 1 Z Z) ?_|refine zc (aw.aA (aw.one 1 Z hcell) Z) ?_|refine zc ((aw.one 1 Z hcell)) ?_))) ?_)
 refine ko ?_
 cases g2:M1.mu x.1 with
 | false=>
  refine AG (AY 44 false Z Z ?_)
  refine ko ?_
  refine p6 ?_
  refine ko ?_
  refine fV ?_
  exact⟨(M1,b),⟨ok1,by rw[if_neg];rw[aI.late,g2,oA,mX];exact qd⟩,aH,(IP 3 Z (aa.aG (a1,c1) (bb [1,1]))).aj⟩
 | true=>
 refine AG (AY 44 true Z Z ?_)
 refine ko ?_
 refine VA.aj (L':=[cC p M1] ++ [RL.h aP ⟨some ⟨tb,tof,none⟩,rc,rb,rcs,rxs⟩,pt b7 (aD x) aP]) (aa.aG (a1,c1) (bb [1,1,1,0])).aj ?_
 have ok2:=ok1.out x.1
 have hh2:(M1.out x.1).heard[j]?=some (M1.rE x.1):=by unfold aI.out;split<;>exact hh
 have q7:∀a c,(cQ (M1.out x.1) a c)[0+5+j*1]?=some (.int .i64 (M1.rE x.1)):=fun a c=>by rw[show 0+5+j*1=5+j from by omega];exact Lk ok2 hh2
 have q12:∀a c,(cQ (M1.out x.1) a c)[1]?=some (.int .i64 M1.fQ):=fun a c=>by rw[←Vm M1 x.1];rfl
 refine AG (AO (OC (Lc:=[cC p M1]) (Lr:=[RL.h aP ⟨some ⟨tb,tof,none⟩,rc,rb,rcs,rxs⟩,pt b7 (aD x) aP]) rfl (.refl _) (fun Fr w hF hw hS=>Ge Fr w ok1 x.1)) rfl (fun v L' g=>by obtain⟨_,⟨rfl,rfl⟩,rfl⟩:=g;exact(by(try refine Pd.st ?_);(repeat(first|exact Pd.nil|exact Pd.fnil|refine Pd.inner ?_|refine Pd.skip yr ?_|refine zf (zo 0 rfl rfl) ?_|refine zf (zo 1 rfl rfl) ?_|refine zf (zo 2 rfl rfl) ?_|refine zf (zm 0 rfl rfl) ?_|refine zf (zm 1 rfl rfl) ?_|refine zf (zm 2 rfl rfl) ?_|refine zf (aw.aA (aw.aG 0 rfl q7) rfl) ?_|refine zf (aw.aA (aw.aG 0 rfl q12) rfl) ?_|refine zf ((aw.aG 0 rfl q7)) ?_|refine zf ((aw.aG 0 rfl q12)) ?_|refine zc (zo 0 rfl rfl) ?_|refine zc (zo 1 rfl rfl) ?_|refine zc (zo 2 rfl rfl) ?_|refine zc (zm 0 rfl rfl) ?_|refine zc (zm 1 rfl rfl) ?_|refine zc (zm 2 rfl rfl) ?_|refine zc (aw.aA (aw.aG 0 rfl q7) rfl) ?_|refine zc (aw.aA (aw.aG 0 rfl q12) rfl) ?_|refine zc ((aw.aG 0 rfl q7)) ?_|refine zc ((aw.aG 0 rfl q12)) ?_)))) ?_)
 rintro _ _ ⟨_,⟨rfl,rfl⟩,rfl⟩
 refine cn ?_
 refine CE Z (fun ho=>?_) (fun ho=>CK ?_)
 ·have hout:M1.out x.1=M1.gone x.1:=by rw[aI.out,if_neg (by rw[ho];decide)]
  rw[hout]
  refine ae ?_
  exact⟨(M1.gone x.1,true),⟨ok1.gone ho,by rw[if_pos];rw[aI.late,DT g1,g2,DT ho];rfl⟩,aH,(bb [1,0]).aj⟩
 ·have hout:M1.out x.1=M1:=by rw[aI.out,if_pos ho]
  rw[hout]
  exact⟨(M1,b),⟨ok1,by rw[if_neg];rw[aI.late,DF ho,mX,mX];exact qd⟩,aH,(bb [1,0]).aj⟩
end
end Cl
namespace Cl
open Go Vg T Api Ch Rep Rd Conf
attribute [local irreducible] VO VC VA
section
variable {p:Nat} {M:aI}
theorem aI.Ok.iJ(ok:M.Ok){n:Int}(h:(fy M.ch n).2=0)(now:Int):(M.iJ n now).Ok:=by
 obtain⟨h1,h2,h3,e⟩:=DO h
 obtain⟨g1,g2,_⟩:=rn (Cc h1).1
 have e1:(M.iJ n now).ch=⟨M.ch.ar+1,M.ch.ms ++ [(n,M.ch.ar+1)],M.ch.drain⟩:=by show(fy M.ch n).1=_;rw[e]
 refine⟨ok.n0,ok.n1,ok.p0,ok.p1,?_,?_,by show(M.heard.set _ _).length=6;rw[fW,ok.hl],by show(M.whole.set _ _).length=6;rw[fW,ok.wl],fun x hx=>?_⟩
 ·rw[e1];simp;omega
 ·rw[e1]
  intro x hx
  rcases eP.1 hx with hx | hx
  ·exact ok.mr x hx
  ·obtain rfl:=fe.1 hx
   simp[oT] at h2
   exact h2
 ·rcases kx hx with h | h
  ·exact ok.hr x h
  ·rw[h];exact tg now
theorem aI.Ok.mj(ok:M.Ok){n:Int}(h:(gR M.ch n).2=0):(M.mj n).Ok:=by
 obtain⟨h1,h2,h3,e⟩:=B0 h
 have e1:(M.mj n).ch=⟨M.ch.ar+1,M.ch.ms,n⟩:=by show(gR M.ch n).1=_;rw[e]
 exact⟨ok.n0,ok.n1,ok.p0,ok.p1,by rw[e1];exact ok.ml,by rw[e1];exact ok.mr,ok.hl,ok.wl,ok.hr⟩
theorem Nf{n:Int}(hm:(bU M.ch n).2=false):M.fI n=(M,[],4)∧M.drain n=(M,[],4):=by unfold aI.fI aI.drain aI.qA;simp[hm]
theorem Ng{n:Int}(hm:(bU M.ch n).2=true)(hg:M.mu n=false):M.fI n=(M,[],72)∧M.drain n=(M,[],72):=by unfold aI.fI aI.drain aI.qA;simp[hm,hg]
theorem Xy{n:Int}(hm:(bU M.ch n).2=true)(hg:M.mu n=true)(ho:M.nD n≠0):M.fI n=(M,[],M.nD n):=by unfold aI.fI aI.qA;simp[hm,hg,ho]
theorem Xx{n:Int}(hm:(bU M.ch n).2=true)(hg:M.mu n=true)(ho:M.nD n=0):M.fI n=(M.gone n,(M.gone n).all,0):=by unfold aI.fI aI.qA;simp[hm,hg,ho]
theorem Rz{n:Int}(hm:(bU M.ch n).2=true)(hg:M.mu n=true)(ho:(gR M.ch n).2≠0):M.drain n=(M,[],(gR M.ch n).2):=by unfold aI.drain aI.qA;simp[hm,hg,ho]
theorem Ry{n:Int}(hm:(bU M.ch n).2=true)(hg:M.mu n=true)(ho:(gR M.ch n).2=0):M.drain n=(M.mj n,(M.mj n).all,0):=by unfold aI.drain aI.qA;simp[hm,hg,ho]
theorem Uy(ok:M.Ok)(n:Int):ax Tryz.prog 58 [.pointer (some ⟨p,0,none⟩),.int .i64 n] Fr w [cC p M]
  (fun v L=>xA (M.fI n).2.1 (M.fI n).2.2 v L [cC p (M.fI n).1]):=by
 have hl:=ok.ml
 refine TF 29 Tryz.func58 Z yp aC Z Z ?_
 refine Bb ?_
 rintro⟨a,c⟩ -
 show VC _ _ _ [pt p (cQ M a c) ka,aq aP 2 a M.ch.ms.length c (flat aD M.ch.ms)] _
 refine ae ?_
 refine Bd ?_
 refine r9 ?_
 refine ae ?_
 refine OU ?_
 refine ae ?_
 refine VC.fq Z (fun hm=>?_) (fun hm=>?_)
 ·refine ae ?_
  exact CR (an.cV 4 5 Z Z Z (rN (a:=a) (c:=c) (R:=[])).aj (by rw[(Nf hm).1];exact s9 Z Z))
 refine ae ?_
 refine OV ?_
 refine ae ?_
 refine VC.fq Z (fun hg=>?_) (fun hg=>CK ?_)
 ·refine ae ?_
  exact CR (an.cV 4 5 Z Z Z (rN (a:=a) (c:=c) (R:=[])).aj (by rw[(Ng hm hg).1];exact s9 Z Z))
 refine CN (L':=[cC p M]) (aa.aG (a,c) (aa.refl)).aj ?_
 refine ae ?_
 refine VG (VK (Lc:=[cC p M]) (fun Fr w hF hw hS=>Ge Fr w ok n) Z Z ?_)
 rintro _ _ ⟨rfl,rfl⟩
 refine ae ?_
 refine VC.dp Z (fun ho=>?_) (fun ho=>CK ?_)
 ·have hout:M.out n=M:=by rw[aI.out,if_pos ho]
  rw[hout]
  refine ae ?_
  exact CR (an.cV 4 5 Z Z Z ((aa.cK (aa.refl (L:=[cC p M]))).trans (IP 1 Z aa.refl)).aj (by rw[Xy hm hg ho];exact s9 Z Z))
 have hout:M.out n=M.gone n:=by rw[aI.out,if_neg (by rw[ho];decide)]
 rw[hout]
 have ok1:=ok.gone ho
 refine VC.bz 0 Z (bd.aG p (M.gone n)) ?_
 rintro⟨a1,c1⟩ -
 show VC _ _ _ [pt p (cQ (M.gone n) a1 c1) ka,aq aP 2 a1 (M.gone n).ch.ms.length c1 (flat aD (M.gone n).ch.ms)] _
 refine ae ?_
 refine VG (VK (Lc:=[]) (fun Fr w hF hw hS=>Ae (M:=M.gone n) Fr w ok1 (hS.aA 0 Z) (aT.aq cu (hS.at_ 1 Z))) Z Z ?_)
 rintro _ _ ⟨X,sa,sc,hX,rfl,rfl⟩
 refine ae ?_
 exact CR (an.cV 4 5 Z Z Z (uZ (p:=p) (M:=M.gone n) (a:=a1) (c:=c1) (R:=[])).aj (by rw[Xx hm hg ho];exact⟨X,sa,sc,hX,Z,Z⟩))
theorem Ud(ok:M.Ok)(n:Int):ax Tryz.prog 60 [.pointer (some ⟨p,0,none⟩),.int .i64 n] Fr w [cC p M]
  (fun v L=>xA (M.drain n).2.1 (M.drain n).2.2 v L [cC p (M.drain n).1]):=by
 have hl:=ok.ml
 refine TF 40 Tryz.func60 Z yp aC Z Z ?_
 refine Bb ?_
 rintro⟨a,c⟩ -
 show VC _ _ _ [pt p (cQ M a c) ka,aq aP 2 a M.ch.ms.length c (flat aD M.ch.ms)] _
 refine ae ?_
 refine Bd ?_
 refine r9 ?_
 refine ae ?_
 refine OU ?_
 refine ae ?_
 refine VC.fq Z (fun hm=>?_) (fun hm=>?_)
 ·refine ae ?_
  exact CR (an.cV 4 5 Z Z Z (rN (a:=a) (c:=c) (R:=[])).aj (by rw[(Nf hm).2];exact s9 Z Z))
 refine ae ?_
 refine OV ?_
 refine ae ?_
 refine VC.fq Z (fun hg=>?_) (fun hg=>CK ?_)
 ·refine ae ?_
  exact CR (an.cV 4 5 Z Z Z (rN (a:=a) (c:=c) (R:=[])).aj (by rw[(Ng hm hg).2];exact s9 Z Z))
 refine al ?_
 refine Bc ?_
 refine ae ?_
 refine VG (VK (Lc:=[]) (fun Fr w hF hw hS=>RA Fr w (c:=M.ch) (aT.aq cu (hS.at_ 1 Z)) yg n) Z Z ?_)
 rintro _ _ ⟨wa,wc,rfl,rfl⟩
 refine av ?_
 refine VG (VO.alloc Z fun b6=>?_)
 refine VG (VT (vs:=(gR M.ch n).1.cells wa wc) (cs':=(gR M.ch n).1.cells wa wc) 0 Z Z Z Z (NR _) Z Z Z ?_)
 refine av ?_
 refine VC.dp Z (fun ho=>?_) (fun ho=>CK ?_)
 ·refine av ?_
  refine CR (an.cV 4 5 Z Z Z ?_ (by rw[Rz hm hg ho];exact s9 Z Z))
  exact(aa.trans (M:=nz p M a c ++ []) (bb [2,2]) rN).aj
 have ok1:=ok.mj ho
 refine av ?_
 refine VG (VL 0 ((gR M.ch n).1.cells wa wc) Z Z Z Z ?_)
 refine av ?_
 refine VG (VT (vs:=(gR M.ch n).1.cells wa wc) (cs':=cQ (M.mj n) wa wc) 2 Z Z Z Z ID Z Z Z ?_)
 refine VO.aj (L':=[pt p (cQ (M.mj n) wa wc) ka,aq aP 2 wa (M.mj n).ch.ms.length wc (flat aD (M.mj n).ch.ms)]) (bb [2,1]).aj ?_
 refine av ?_
 refine VG (VK (Lc:=[]) (fun Fr w hF hw hS=>Ae (M:=M.mj n) Fr w ok1 (hS.aA 0 Z) (aT.aq cu (hS.at_ 1 Z))) Z Z ?_)
 rintro _ _ ⟨X,sa,sc,hX,rfl,rfl⟩
 refine ae ?_
 exact CR (an.cV 4 5 Z Z Z (uZ (p:=p) (M:=M.mj n) (a:=wa) (c:=wc) (R:=[])).aj (by rw[Ry hm hg ho];exact⟨X,sa,sc,hX,Z,Z⟩))
theorem Tb{n now:Int}(h:M.isNode n=false):M.join n now=(M,[],2):=by unfold aI.join;simp[h]
theorem Tc{n now:Int}(h:M.isNode n=true)(ho:(fy M.ch n).2≠0):M.join n now=(M,[],(fy M.ch n).2):=by unfold aI.join;simp[h,ho]
theorem Ta{n now:Int}(h:M.isNode n=true)(ho:(fy M.ch n).2=0):M.join n now=(M.iJ n now,(M.iJ n now).all,0):=by unfold aI.join;simp[h,ho]
theorem Us(ok:M.Ok)(n now:Int):ax Tryz.prog 116 [.pointer (some ⟨p,0,none⟩),.int .i64 n,.int .i64 now] Fr w [cC p M]
  (fun v L=>xA (M.join n now).2.1 (M.join n now).2.2 v L [cC p (M.join n now).1]):=by
 have hl:=ok.ml
 refine TF 49 Tryz.func116 Z yp aC Z Z ?_
 refine Bb ?_
 rintro⟨a,c⟩ -
 show VC _ _ _ [pt p (cQ M a c) ka,aq aP 2 a M.ch.ms.length c (flat aD M.ch.ms)] _
 refine ae ?_
 refine Bd ?_
 refine r9 ?_
 refine ae ?_
 refine VG (VV (fun Fr w hF hw hS=>Ly Fr w (hS.aA 0 Z) n) Z ?_)
 refine ae ?_
 refine VC.fq Z (fun hn=>?_) (fun hn=>CK ?_)
 ·refine ae ?_
  exact CR (an.cV 6 7 Z Z Z (rN (a:=a) (c:=c) (R:=[])).aj (by rw[Tb hn];exact s9 Z Z))
 obtain⟨j,hj,hj6,_⟩:=ok.DN (aI.KG ok hn)
 refine al ?_
 refine Bc ?_
 refine ae ?_
 refine VG (VK (Lc:=[]) (fun Fr w hF hw hS=>abB Fr w (c:=M.ch) (aT.aq cu (hS.at_ 1 Z)) yg n) Z Z ?_)
 rintro _ _ ⟨wa,wc,rfl,rfl⟩
 refine av ?_
 refine VG (VO.alloc Z fun b6=>?_)
 refine VG (VT (vs:=(fy M.ch n).1.cells wa wc) (cs':=(fy M.ch n).1.cells wa wc) 0 Z Z Z Z (NR _) Z Z Z ?_)
 refine av ?_
 refine VC.dp Z (fun ho=>?_) (fun ho=>CK ?_)
 ·refine av ?_
  refine CR (an.cV 6 7 Z Z Z ?_ (by rw[Tc hn ho];exact s9 Z Z))
  exact(aa.trans (M:=nz p M a c ++ []) (bb [2,2]) rN).aj
 have ok1:=ok.iJ ho now
 have ok2:({ M with ch:=(fy M.ch n).1 }:aI).Ok:=⟨ok1.n0,ok1.n1,ok1.p0,ok1.p1,ok1.ml,ok1.mr,ok.hl,ok.wl,ok.hr⟩
 have ok3:({ M with ch:=(fy M.ch n).1,whole:=M.whole.set j false }:aI).Ok:=⟨ok1.n0,ok1.n1,ok1.p0,ok1.p1,ok1.ml,ok1.mr,ok.hl,by show(M.whole.set _ _).length=6;rw[fW,ok.wl],ok.hr⟩
 refine av ?_
 refine VG (VL 0 ((fy M.ch n).1.cells wa wc) Z Z Z Z ?_)
 refine av ?_
 refine VG (VT (vs:=(fy M.ch n).1.cells wa wc) (cs':=cQ { M with ch:=(fy M.ch n).1 } wa wc) 2 Z Z Z Z ID Z Z Z ?_)
 refine av ?_
 refine VG (VI (iL j Z Z Z Z Z hj hj6) ?_)
 refine VG (VO.st 2 (cs':=cQ { M with ch:=(fy M.ch n).1,whole:=M.whole.set j false } wa wc) Z Z Z Z (by show 0+11+j*1<_;rw[vp ok2];omega) (by show(cQ ({ M with ch:=(fy M.ch n).1 }:aI) wa wc).set (0+11+j*1) _=_;rw[show 0+11+j*1=11+j from by omega,Cv ok2 hj6]) Z ?_)
 refine av ?_
 refine CD (ts 0 3 (ts 4 2 (.only 3 (.take 6 (.only 7 .nil))))) yp yr ?_
 refine cX ?_
 refine AG (AR (fun Fr w hF hs hS=>Gg Fr w now) Z Z yu ?_)
 refine H9 ?_
 refine AG (VA.st 2 (cs':=cQ (M.iJ n now) wa wc) Z Z Z Z Z (by show 0+5+j*1<_;rw[vp ok3];omega) (by show(cQ ({ M with ch:=(fy M.ch n).1,whole:=M.whole.set j false }:aI) wa wc).set (0+5+j*1) _=_;rw[show 0+5+j*1=5+j from by omega,Ll ok3 hj6,aI.iJ,show n.toNat=j from by omega]) Z yu ?_)
 refine cX ?_
 refine CN (L':=[pt p (cQ (M.iJ n now) wa wc) ka,aq aP 2 wa (M.iJ n now).ch.ms.length wc (flat aD (M.iJ n now).ch.ms)]) (bb [2,1]).aj ?_
 refine av ?_
 refine VG (VK (Lc:=[]) (fun Fr w hF hw hS=>Ae (M:=M.iJ n now) Fr w ok1 (hS.aA 0 Z) (aT.aq cu (hS.at_ 1 Z))) Z Z ?_)
 rintro _ _ ⟨X,sa,sc,hX,rfl,rfl⟩
 refine ae ?_
 exact CR (an.cV 6 7 Z Z Z (uZ (p:=p) (M:=M.iJ n now) (a:=wa) (c:=wc) (R:=[])).aj (by rw[Ta hn ho];exact⟨X,sa,sc,hX,Z,Z⟩))
theorem Ua(ok:M.Ok){a:Option Addr}{c:Nat}(h:bq Fr w p (cQ M a c))(hm:aT aD 2 Fr w a M.ch.ms):ax Tryz.prog 23 [.pointer (some ⟨p,0,none⟩)] Fr w []
  (fun v L=>∃a' c',v=.agg (M.ch.cells a' c').toArray∧L=[aq aP 2 a' M.ch.ms.length c' (flat aD M.ch.ms)]):=by
 have hl:=ok.ml
 refine TF 12 Tryz.func23 Z yp aC Z Z ?_
 refine CS (CG (VG (VO.alloc Z fun d=>?_)))
 refine ae ?_
 refine VG (VV (fun Fr w hF hw hS=>LA Fr w ok (h.of hF hw)) Z ?_)
 refine si ?_
 refine H8 ?_
 refine OQ ?_
 rintro _ _ ⟨ma,mc,rfl,rfl⟩
 refine VG (VT (vs:=M.ch.cells ma mc) (cs':=M.ch.cells ma mc) 1 Z Z Z Z (NR _) Z Z Z ?_)
 refine ae ?_
 exact CR (an.cell 2 Z Z Z (aw.many 1 Z Z) (IP 0 Z aa.nil).aj ⟨ma,mc,Z,Z⟩)
end
end Cl
namespace Cl
open Go Vg T Api Ch Rep Rd Conf Sched
attribute [local irreducible] VO VC VA
def AS(k:Nat):List Bool:=(List.range 6).map fun(i:Nat)=>decide (i<k)
def sS(c:ba)(k:Nat):aI:=⟨c.nodes,c.fQ,bM c,List.replicate 6 0,AS k⟩
theorem abz{k:Nat}(h:k<6):(AS k).set k true=AS (k+1):=by
 rcases(by omega:k=0∨k=1∨k=2∨k=3∨k=4∨k=5) with rfl | rfl | rfl | rfl | rfl | rfl<;>rfl
theorem wO{c:ba}(h:c=bh c):(4≤c.fQ∧c.fQ≤64)∧(4≤c.timeout∧c.timeout≤64)∧(0≤c.gI∧c.gI≤16)∧(1≤c.fh∧c.fh≤1099511627776)∧(4≤c.link∧c.link≤64)∧(1≤c.qs.length∧c.qs.length≤4):=by
 have e1:c.fQ=aF c.fQ 4 64:=congrArg ba.fQ h
 have e2:c.timeout=aF c.timeout 4 64:=congrArg ba.timeout h
 have e3:c.gI=aF c.gI 0 16:=congrArg ba.gI h
 have e4:c.fh=aF c.fh 1 1099511627776:=congrArg ba.fh h
 have e5:c.link=aF c.link 4 64:=congrArg ba.link h
 have e6:c.qs=eI c.qs:=congrArg ba.qs h
 have n1:=kc (x:=c.fQ) (lo:=4) (hi:=64) yy
 have n2:=kc (x:=c.timeout) (lo:=4) (hi:=64) yy
 have n3:=kc (x:=c.gI) (lo:=0) (hi:=16) yy
 have n4:=kc (x:=c.fh) (lo:=1) (hi:=1099511627776) yy
 have n5:=kc (x:=c.link) (lo:=4) (hi:=64) yy
 have n6:=sX c.qs
 rw[←e6] at n6
 omega
theorem LL{c:ba}(h:c=bh c)(k:Nat):(sS c k).Ok:=by
 obtain⟨b1,b2,_⟩:=kG h
 obtain⟨b3,_⟩:=wO h
 refine⟨b1.1,b1.2,by show 0≤c.fQ;omega,by show c.fQ≤_;omega,?_,?_,Z,Z,fun x hx=>?_⟩
 ·show(jX c.chain.toNat).length≤7;rw[u7];omega
 ·intro x hx
  obtain⟨i,hi,rfl⟩:=cy.1 (show x∈(List.range c.chain.toNat).map _ from hx)
  have:=tG.1 hi
  dsimp only;omega
 ·obtain rfl:=List.eq_of_mem_replicate hx
  decide
theorem LK(c:ba)(h:c=bh c):sS c c.chain.toNat=qF c:=by
 obtain⟨b1,b2,_⟩:=kG h
 unfold sS qF AS
 congr 1
 refine List.map_congr_left fun i hi=>?_
 by_cases e:(i:Int)<c.chain
 ·rw[DT e,DT yg]
 ·rw[DF e,DF yg]
theorem R3{n k:Nat}(h:k<n):(jX n)[k]?=some ((k:Int),(1:Int)):=by
 unfold jX
 rw[dH,List.getElem?_range h];rfl
theorem Uv(c:ba){qa:Option Addr}{qc:Nat}(hq:gp Fr w qa c.qs)(hqa:pk qa)(hqc:c.qs.length≤qc):
  ax Tryz.prog 14 [.agg (c.cells qa qc).toArray] Fr w [] (fun v L=>if c=bh c then ∃p,v=.tuple #[.pointer (some ⟨p,0,none⟩),.int .i64 0]∧L=[cC p (qF c)] else v=.tuple #[.pointer none,.int .i64 2]∧L=[]):=by
 refine TF 38 Tryz.func14 Z yp aC Z Z ?_
 refine CS (CG (VG (VB (vs:=c.cells qa qc) Z fun b1=>VG (VN ?_))))
 refine IJ ?_
 refine VG (VK (Lc:=[]) (fun Fr w hF hs _=>Kp Fr w c qa qc (pG hq hF hs) hqa hqc) Z Z ?_)
 rintro v L1 h
 by_cases hf:c=bh c
 rotate_left
 ·rw[if_neg hf] at h
  obtain⟨rfl,rfl⟩:=h
  refine av ?_
  refine VG (VO.alloc Z fun b4=>?_)
  refine HZ ?_
  refine kq ?_
  exact CR (an.cV 2 3 Z Z Z aa.nil.aj PG)
 rw[if_pos hf] at h
 obtain⟨a,n,rfl,rfl⟩:=h
 obtain⟨b1',b2',_⟩:=kG hf
 have hlen:(bM c).ms.length=c.chain.toNat:=u7 _
 refine av ?_
 refine VG (VO.alloc Z fun b4=>?_)
 refine VG (VT (vs:=(bM c).cells a n) (cs':=(bM c).cells a n) 0 Z Z Z Z (NR _) Z Z Z ?_)
 refine lS ?_
 refine gO ?_
 refine VG (VL 0 ((bM c).cells a n) Z Z Z Z ?_)
 refine VG (VI (LB (pv:=[(0,.int .i64 c.nodes),(1,.int .i64 c.fQ),(2,.agg ((bM c).cells a n).toArray)]) (cQ (sS c 0) a n) Z Z Z yp Z) ?_)
 refine VG (VB (vs:=cQ (sS c 0) a n) Z fun q=>?_)
 refine dG ?_
 have hq2:∀(i:Nat) (x:aS),(bM c).ms[i]?=some x→x=((i:Int),(1:Int)):=fun i x hx=>by
  have hi:=(bP.1 hx).1
  rw[hlen] at hi
  have:=R3 hi
  rw[show(bM c).ms=jX c.chain.toNat from rfl,this] at hx
  exact(ij hx).symm
 refine CN (L':=[aq aP 2 a (bM c).ms.length n (flat aD (bM c).ms),pt q (cQ (sS c 0) a n) ka]) (bb [2,0]).aj ?_
 generalize hms:(bM c).ms=ms at hlen hq2
 refine VC.bz 0 Z (bd.sl _ _ _ _ _ _) ?_
 rintro(_ | ⟨mb,rest⟩) ⟨hx1,hx2,hx3⟩
 ·obtain⟨_,h0,_⟩:=hx3
  omega
 obtain⟨rfl,hx4⟩:=hx3
 dsimp only
 refine VC.loop (σ:=Nat) (fun k=>[(6,pV q),(24,.slice (some ⟨mb,0,none⟩) ms.length n),(25,.int .i64 ms.length),(26,.int .i64 (k:Int))]) (fun k=>[pt mb (flat aD ms++rest) aP,pt q (cQ (sS c k) (some ⟨mb,0,none⟩) n) ka]) (fun k=>k≤ms.length) (fun k=>ms.length-k) 0
  (bH _) aH ER ?_
 rintro k hk
 refine ae ?_
 refine CP (p:=(k:Int)<ms.length) Z (fun h1=>CK ?_) (fun h1=>CX ?_)
 rotate_left
 ·obtain rfl:k=ms.length:=by omega
  refine ae ?_
  refine CR (an.cV 2 3 Z Z Z (L':=[cC q (qF c)]) ?_ (by rw[if_pos hf];exact⟨q,Z,Z⟩))
  rw[←LK c hf,←hlen]
  refine(aa.aG (some ⟨mb,0,none⟩,n) (IP 1 Z ?_)).aj
  show aa [pt mb (flat aD ms++rest) aP] [aq aP 2 (some ⟨mb,0,none⟩) (bM c).ms.length n (flat aD (bM c).ms)]
  rw[hms]
  exact aa.sl hx1 hx2 (by simpa using hx4) aa.refl
 obtain⟨x,hx⟩:∃x,ms[k]?=some x:=⟨_,GE yg⟩
 obtain rfl:=hq2 k x hx
 have hk6:k<6:=by omega
 have ok:=LL hf k
 refine p_ ?_
 refine VG (VL 0 (aD ((k:Int),1)) Z Z Z (by show((flat aD ms++rest).drop (0+k*2)).take 2=_;rw[cj];exact oO cu hx rest) ?_)
 refine VG (VO.alloc Z fun b8=>?_)
 refine VG (VT (vs:=aD ((k:Int),1)) (cs':=aD ((k:Int),1)) 0 Z Z Z Z (NR _) Z Z Z ?_)
 refine ae ?_
 refine D3 ?_
 refine bp ?_
 refine AG (AI Z (iL k Z Z Z Z Z Z hk6) ?_)
 refine AG (VA.st 2 (cs':=cQ (sS c (k+1)) (some ⟨mb,0,none⟩) n) Z Z Z Z Z (by show 0+11+k*1<_;rw[vp ok];omega) (by show(cQ (sS c k) _ n).set (0+11+k*1) _=_;rw[show 0+11+k*1=11+k from by omega,Cv ok hk6];show cQ ⟨_,_,_,_,(AS k).set k true⟩ _ _=_;rw[abz hk6];rfl) Z yu ?_)
 refine cX ?_
 refine gC ?_
 exact⟨k+1,by omega,by dsimp only;omega,SC Z (SC Z (SC Z (Sub.int Z yg (SN _)))),(bb [1,1]).aj⟩
end Cl
namespace Cl
open Go Vg T Api Ch Rep
attribute [local irreducible] VO VC VA
abbrev jI:TypeId:=130
structure q9 where
 q:Nat
 b:Nat
 a:Option Addr
 c:Nat
def Hl(o:Option (Option eV))(b:Nat):Value:=match o with
 | some _=>.pointer (some ⟨b,0,none⟩)
 | none=>.pointer none
def kT(o:Option (Option eV))(b:Nat):HP:=match o with
 | some x=>pt b (o6 x) nH
 | none=>kI True
def du(S:aW)(y:q9):List Value:=[.int .i64 S.id,.int .i64 S.cls,.int .i64 S.timeout,.int .i64 S.gI,.pointer (some ⟨y.q,0,none⟩),.int .i64 S.ch.ar,.slice y.a S.ch.ms.length y.c,.int .i64 S.ch.drain,Hl S.out y.b,.int .i64 S.gQ,.int .i64 S.since,.int .i64 S.DJ,.bool S.unsure,.int .i64 S.seq,.int .i64 S.tries,.int .i64 S.cl,.int .i64 S.deadline,.int .i64 S.op.kind,.string S.op.key,.string S.op.value,.int .i64 S.op.version]
def rq(p:Nat)(S:aW)(y:q9):List HP:=[pt p (du S y) jI,pt y.q (eA S.tok) fL,aq aP 2 y.a S.ch.ms.length y.c (flat aD S.ch.ms),kT S.out y.b]
def bQ(p:Nat)(S:aW):HP:=hex fun y:q9=>bF (rq p S y)
theorem bd.eS(p:Nat)(S:aW):bd (ι:=q9) (bQ p S) (fun _=>True) (fun y=>rq p S y):=fun w ids ⟨x,h⟩ hn=>⟨x,trivial,ids,h,hn,fun _ h=>h⟩
theorem aa.eS{p:Nat}{S:aW}{L K:List HP}(y:q9)(h:aa L (rq p S y++K)):aa L (bQ p S::K):=aa.ex (f:=fun y:q9=>bF (rq p S y)) y (aa.sep h)
structure aW.Ok(S:aW):Prop where
 c0:1≤S.cls
 c1:S.cls≤4
 t0:0≤S.timeout
 t1:S.timeout≤1000
 b0:0≤S.gI
 b1:S.gI≤16
 tok:S.tok.Ok
 ml:S.ch.ms.length≤6
 out:S.gQ≠0→S.out=some none
 s0:0≤S.since
 s1:S.since≤1099511627776
 q0:0≤S.seq
 r0:0≤S.tries
 r1:S.tries≤17
 rb:S.gQ=1∨S.gQ=3→S.tries≤16
def iy(to:Int)(f:aB):gr:=((to,f,[]),(none,0))
theorem JN{p:Nat}{S:aW}{y:q9}{A R:List HP}:aa (A++(rq p S y++R)) (bQ p S::A):=
 (aa.perm lV).trans (aa.eS y ((aa.of_eq (ed _ _ _)).trans (aa.app aa.refl aa.Fj)))
theorem JM{p:Nat}{S:aW}{y:q9}{to:Int}{f:aB}{sb:Nat}{R:List HP}:aa (pt sb (dy (iy to f)) gk::(rq p S y++R)) (bQ p S::aq gk 30 (some ⟨sb,0,none⟩) 1 1 (flat dy [iy to f]) :: [iy to f].map iM):=by
 rw[zF]
 refine aa.trans (M:=[aq gk 30 (some ⟨sb,0,none⟩) 1 1 (dy (iy to f)),iM (iy to f)]++(rq p S y++R)) ?_ JN
 exact aa.Di (n:=1) (by rw[Db]) (aa.cons (aa.cK aa.refl))
theorem wL{p:Nat}{S:aW}{y:q9}{R:List HP}:aa (rq p S y++R) (bQ p S::aq gk 30 none 0 0 (flat dy [])::([]:List gr).map iM):=
 (aa.cK (aa.refl (L:=rq p S y++R))).trans (JN (A:=[aq gk 30 none 0 0 []]))
theorem Hg{v:Value}{L H:List HP}{to:Int}{f:aB}{sb:Nat}(hv:v=.slice (some ⟨sb,0,none⟩) 1 1)(hL:L=H++(aq gk 30 (some ⟨sb,0,none⟩) 1 1 (flat dy [iy to f]) :: [iy to f].map iM)):nG [(to,f,[])] v L H:=De (x:=iy to f) hv hL
section
variable {p:Nat} {S:aW} {y:q9}
theorem Rp(n:Int):ax Tryz.prog 140 [.int .i64 n] Fr w [] (fun v L=>v=.int .i64 (bY n)∧L=[]):=by
 refine TF 6 Tryz.func140 Z yp aC Z Z ?_
 refine ae ?_
 exact CR (an.int 2 Z Z PE ER ⟨rfl,Z⟩)
theorem JQ(ok:S.Ok)(h:bq Fr w p (du S y)):ax Tryz.prog 119 [.pointer (some ⟨p,0,none⟩)] Fr w [] (fun v L=>v=.bool true∧L=[]):=by
 have:=ok.c0
 refine TF 12 Tryz.func119 Z yp aC Z Z ?_
 refine EF ?_
 refine ji ?_
 exact CR (an.bool (b:=true) 2 Z Z (DT yg) ER ⟨rfl,Z⟩)
theorem JB(ok:S.Ok)(h:bq Fr w p (du S y)):ax Tryz.prog 138 [.pointer (some ⟨p,0,none⟩)] Fr w [] (fun v L=>v=.bool (S.gQ != 0)∧L=[]):=by
 refine TF 12 Tryz.func138 Z yp aC Z Z ?_
 refine av ?_
 refine H_ ?_
 refine EF ?_
 refine ji ?_
 exact o_
theorem Ri(ok:S.Ok)(h:bq Fr w p (du S y)):ax Tryz.prog 63 [.pointer (some ⟨p,0,none⟩)] Fr w [] (fun v L=>v=.int .i64 S.seq∧L=[]):=by
 refine TF 10 Tryz.func63 Z yp aC Z Z ?_
 refine av ?_
 refine H_ ?_
 refine lS ?_
 refine ji ?_
 exact o_
def GB(o:Option eV):Value:=.tuple #[.agg (dL (o.getD my)).toArray,.bool o.isSome]
theorem Re(ok:S.Ok)(h:bq Fr w p (du S y))(hs:∀x,S.out=some x→bq Fr w y.b (o6 x)):ax Tryz.prog 61 [.pointer (some ⟨p,0,none⟩)] Fr w [] (fun v L=>v=GB S.outcome∧L=[]):=by
 have hv:∀o,S.out=o→(du S y)[8]?=some (Hl o y.b):=fun o e=>by rw[←e];rfl
 refine TF 22 Tryz.func61 Z yp aC Z Z ?_
 refine CS (CG (VG (VO.alloc Z fun b2=>?_)))
 refine av ?_
 refine H_ ?_
 refine av ?_
 refine VG (VY 7 false Z Z ?_)
 refine av ?_
 unfold aW.outcome
 cases ho:S.out with
 | none=>
  refine VG (VD (v:=.pointer none) Z Z (aw.aA h (hv _ ho)) ?_)
  refine kq ?_
  refine VG (VL 0 (dL my) Z Z Z Z ?_)
  refine OH ?_
  refine av ?_
  exact OI
 | some x=>
  refine OW ?_
  refine yP ?_
  refine OW ?_
  refine VG (VV (fun Fr w hF hw _=>W7 Fr w x ((hs x ho).of hF hw)) Z ?_)
  refine av ?_
  refine VG (VT (vs:=dL (x.getD my)) (cs':=dL (x.getD my)) 0 Z Z Z Z (NR _) Z Z Z ?_)
  refine av ?_
  exact CR (an.dt 2 3 Z Z Z (aw.many (ds:=dL (x.getD my)) 0 Z Z) Z aa.nil.aj ⟨rfl,Z⟩)
theorem Mm:ax Tryz.prog 214 [] Fr w [] (fun v L=>∃sb,v=.slice (some ⟨sb,0,none⟩) 1 1∧L=[pt sb (dy (iy 16 { aB.zero with kind:=7 })) gk]):=by
 refine TF 4 Tryz.func214 Z yp aC Z Z ?_
 refine ae ?_
 refine VG (VI (LB (pv:=[(0,.int .i64 7)]) (({ aB.zero with kind:=7 }:aB).cells (none,0,0)) Z Z Z yp Z) ?_)
 refine VG (VI (LB (pv:=[(0,.int .i64 16),(1,.agg (({ aB.zero with kind:=7 }:aB).cells (none,0,0)).toArray)]) (dy (iy 16 { aB.zero with kind:=7 })) Z Z Z yp Z) ?_)
 refine VG (VO.buildSlice (pv:=[(0,.agg (dy (iy 16 { aB.zero with kind:=7 })).toArray)]) (dy (iy 16 { aB.zero with kind:=7 })) Z Z Z Z yy (eY Z Z Z) fun sb=>?_)
 refine ae ?_
 exact CR (an.tmp 0 Z Z ER ⟨sb,Z,Z⟩)
theorem JA(ok:S.Ok)(now:Int):ax Tryz.prog 143 [.pointer (some ⟨p,0,none⟩),.int .i64 now] Fr w [bQ p S] (fun v L=>nG (S.ask now).2 v L [bQ p (S.ask now).1]):=by
 refine TF 13 Tryz.func143 Z yp aC Z Z ?_
 refine vU ?_
 rintro y -
 show VC _ _ _ [pt p (du S y) jI,pt y.q (eA S.tok) fL,aq aP 2 y.a S.ch.ms.length y.c (flat aD S.ch.ms),kT S.out y.b] _
 refine ae ?_
 refine VG (VO.st 0 (cs':=du { S with gQ:=1 } y) Z Z Z Z Ew Z Z ?_)
 refine VG (VO.st 0 (cs':=du { S with gQ:=1,since:=now } y) Z Z Z Z (by show 10<21;omega) Z Z ?_)
 refine ae ?_
 refine VG (VK (Lc:=[]) (fun Fr w hF hw _=>Mm Fr w) Z Z ?_)
 rintro _ _ ⟨sb,rfl,rfl⟩
 refine ae ?_
 exact CR (an.tmp 4 Z Z (JM (S:={ S with gQ:=1,since:=now }) (y:=y) (R:=[])).aj (Hg Z Z))
end
end Cl
namespace Cl
open Go Vg T Api Ch Rep
attribute [local irreducible] VO VC VA
section
variable {p:Nat} {S:aW}
theorem JZ(ok:S.Ok)(now:Int):ax Tryz.prog 142 [.pointer (some ⟨p,0,none⟩),.int .i64 now] Fr w [bQ p S] (fun v L=>nG (S.bD now).2 v L [bQ p (S.bD now).1]):=by
 have hr0:=ok.r0
 have hr1:=ok.r1
 have hml:=ok.ml
 refine TF 68 Tryz.func142 Z yp aC Z Z ?_
 refine vU ?_
 rintro y -
 show VC _ _ _ [pt p (du S y) jI,pt y.q (eA S.tok) fL,aq aP 2 y.a S.ch.ms.length y.c (flat aD S.ch.ms),kT S.out y.b] _
 refine uG ?_
 refine ae ?_
 refine VG (VO.st 0 (cs':=du { S with tries:=S.tries+1 } y) Z Z Z Z (by show 14<21;omega) Z Z ?_)
 refine ae ?_
 refine VG (VO.st 0 (cs':=du { S with tries:=S.tries+1,gQ:=2 } y) Z Z Z Z Ew Z Z ?_)
 refine VG (VO.st 0 (cs':=du (S.pU now) y) Z Z Z Z (by show 10<21;omega) Z Z ?_)
 refine ae ?_
 refine VG (VL 0 (S.ch.cells y.a y.c) Z Z Z Z ?_)
 refine VG (VV (fun Fr w hF hw hS=>zP Fr w (c:=S.ch) (aT.aq cu (hS.at_ 2 Z)) yg) Z (VG (VN ?_)))
 refine CS (VC.bZ (σ:=Int) (fun to=>[(0,pV p),(5,.int .i64 to)]) (fun _=>[pt p (du (S.pU now) y) jI,pt y.q (eA S.tok) fL,aq aP 2 y.a S.ch.ms.length y.c (flat aD S.ch.ms),kT S.out y.b]) (fun to=>to=(S.pU now).to) ?_ ?_)
 ·refine ae ?_
  refine VG (VL 0 S.op.cells Z Z Z Z ?_)
  refine VG (VV (fun Fr w hF hw hS=>Kv.Av Fr w S.op) Z ?_)
  refine ae ?_
  refine CC Z (fun h=>?_) (fun h=>CK ?_)
  ·refine ae ?_
   refine VG (VL 0 (S.ch.cells y.a y.c) Z Z Z Z ?_)
   refine VG (VV (fun Fr w hF hw hS=>AJ Fr w (c:=S.ch) (aT.aq cu (hS.at_ 2 Z)) yg) Z ?_)
   refine ae ?_
   exact⟨_,by show vL S.ch=if As S.op=true then vL S.ch else t_ S.ch;rw[show As S.op=true from h];rfl,SC Z (SC Z (SN _)),ER⟩
  ·exact⟨_,by show t_ S.ch=if As S.op=true then vL S.ch else t_ S.ch;rw[show As S.op=false from h];rfl,SC Z (SC Z (SN _)),ER⟩
 rintro to hto
 unfold aW.bD
 rw[←hto]
 refine CS (CD (ts 0 32 (.only 32 (.take 33 .nil))) yp yr ?_)
 refine bp ?_
 refine AG (VA.dE 0 S.op.cells Z Z Z Z Z ?_)
 refine AG (AI Z (LB (pv:=[(0,.int .i64 1),(1,.int .i64 S.ch.ar),(2,.int .i64 S.id),(3,.int .i64 S.seq),(4,.int .i64 (S.tries+1)),(5,.int .i64 S.cl),(6,.int .i64 S.deadline),(7,.agg S.op.cells.toArray)]) ((mG (S.pU now)).cells (none,0,0)) Z Z Z yp Z) ?_)
 refine AG (AI Z (LB (pv:=[(0,.int .i64 to),(1,.agg ((mG (S.pU now)).cells (none,0,0)).toArray)]) (dy (iy to (mG (S.pU now)))) Z Z Z yp Z) ?_)
 refine AG (AO (aK.buildSlice (n:=1) (pv:=[(0,.agg (dy (iy to (mG (S.pU now)))).toArray)]) (cells:=dy (iy to (mG (S.pU now)))) rfl rfl rfl rfl yy (eY rfl rfl rfl)) rfl (fun v L' g=>by obtain⟨b,rfl,rfl⟩:=g;exact kp) ?_)
 rintro _ _ ⟨sb,rfl,rfl⟩
 refine cX ?_
 exact CR (an.tmp 4 Z Z (JM (S:=S.pU now) (y:=y) (R:=[])).aj (Hg Z Z))
theorem E8(ho:S.out=some none){o:eV}(h1:1≤o.kind)(h2:o.kind≤3):ax Tryz.prog 233 [.pointer (some ⟨p,0,none⟩),.agg (dL o).toArray] Fr w [bQ p S] (fun v L=>v=.tuple #[]∧L=[bQ p (S.end_ o)]):=by
 refine TF 13 Tryz.func233 Z yp aC Z Z ?_
 refine CS (CG (VG (VB (vs:=dL o) Z fun b3=>VG (VN ?_))))
 refine VC.bz 1 Z (bd.eS p S) ?_
 rintro y -
 have hv:(du S y)[8]?=some (.pointer (some ⟨y.b,0,none⟩)):=by show some (Hl S.out y.b)=_;rw[ho];rfl
 have hp:kT S.out y.b=pt y.b (o6 none) nH:=by rw[ho];rfl
 have he:S.end_ o={ S with out:=some (some o),gQ:=0 }:=by unfold aW.end_ M8;rw[ho]
 rw[he]
 show VC _ _ _ [pt p (du S y) jI,pt y.q (eA S.tok) fL,aq aP 2 y.a S.ch.ms.length y.c (flat aD S.ch.ms),kT S.out y.b,pt b3 (dL o) sW] _
 rw[hp]
 refine CN (L':=[pt y.b (o6 none) nH,pt b3 (dL o) sW,pt p (du S y) jI,pt y.q (eA S.tok) fL,aq aP 2 y.a S.ch.ms.length y.c (flat aD S.ch.ms)]) (bb [3,3,0,0,0]).aj ?_
 refine CS (CD (ts 0 5 (.only 5 .nil)) yp yr ?_)
 refine cX ?_
 refine AG (VA.ld 2 Z Z Z Z hv ?_)
 refine AG (VA.dE 1 (dL o) Z Z Z Z Z ?_)
 refine AG (AO (OC (Lc:=[pt y.b (o6 none) nH]) (Lr:=[pt b3 (dL o) sW,pt p (du S y) jI,pt y.q (eA S.tok) fL,aq aP 2 y.a S.ch.ms.length y.c (flat aD S.ch.ms)]) rfl (.refl _) (fun Fr w hF hw hS=>Xi Fr w h1 h2)) rfl (fun v L' g=>by obtain⟨_,⟨rfl,rfl⟩,rfl⟩:=g;exact(by(try refine Pd.st ?_);(repeat(first|exact Pd.nil|exact Pd.fnil|refine Pd.inner ?_|refine Pd.skip yr ?_|refine zf (zo 0 rfl rfl) ?_|refine zf (zo 1 rfl rfl) ?_|refine zf (zo 2 rfl rfl) ?_|refine zf (zm 0 rfl rfl) ?_|refine zf (zm 1 rfl rfl) ?_|refine zf (zm 2 rfl rfl) ?_|refine zf (aw.aA (aw.one 2 rfl hv) rfl) ?_|refine zf ((aw.one 2 rfl hv)) ?_|refine zc (zo 0 rfl rfl) ?_|refine zc (zo 1 rfl rfl) ?_|refine zc (zo 2 rfl rfl) ?_|refine zc (zm 0 rfl rfl) ?_|refine zc (zm 1 rfl rfl) ?_|refine zc (zm 2 rfl rfl) ?_|refine zc (aw.aA (aw.one 2 rfl hv) rfl) ?_|refine zc ((aw.one 2 rfl hv)) ?_)))) ?_)
 rintro _ _ ⟨_,⟨rfl,rfl⟩,rfl⟩
 refine pf ?_
 have hc:du S y=du { S with out:=some (some o) } y:=by unfold du;rw[ho];rfl
 rw[hc]
 refine VG (VO.st 2 (cs':=du { S with out:=some (some o),gQ:=0 } y) Z Z Z Z Ew Z Z ?_)
 refine ae ?_
 exact an.void Z (aa.eS (S:={ S with out:=some (some o),gQ:=0 }) y (IP 2 Z (IP 2 Z (IP 2 Z (IP 0 Z aa.nil))))).aj ⟨rfl,Z⟩
theorem E9(ho:S.out=some none)(reason:Int):ax Tryz.prog 168 [.pointer (some ⟨p,0,none⟩),.int .i64 reason] Fr w [bQ p S] (fun v L=>nG (S.giveUp reason).2 v L [bQ p (S.giveUp reason).1]):=by
 unfold aW.giveUp
 refine TF 17 Tryz.func168 Z yp aC Z Z ?_
 refine vU ?_
 rintro y -
 show VC _ _ _ [pt p (du S y) jI,pt y.q (eA S.tok) fL,aq aP 2 y.a S.ch.ms.length y.c (flat aD S.ch.ms),kT S.out y.b] _
 refine jz ?_
 refine CS (VC.bZ (σ:=eV) (fun _=>[(0,pV p)]) (fun o=>[bQ p (S.end_ o)]) (fun o=>o=if S.unsure then ⟨3,0,cw⟩ else ⟨2,reason,cw⟩) ?_ ?_)
 ·refine al ?_
  refine CC Z (fun h=>?_) (fun h=>?_)
  ·refine Ea ?_
   refine ae ?_
   refine VG (VI (LB (pv:=[(0,.int .i64 3)]) (dL ⟨3,0,cw⟩) Z Z Z yp Z) ?_)
   refine VG (VK (Lc:=[bQ p S]) (fun Fr w hF hw _=>E8 Fr w ho (o:=⟨3,0,cw⟩) yy yy) Z Z ?_)
   rintro _ _ ⟨rfl,rfl⟩
   refine ae ?_
   exact⟨_,by rw[h];rfl,SC Z (SN _),ER⟩
  ·refine Ea ?_
   refine ae ?_
   refine VG (VI (LB (pv:=[(0,.int .i64 2),(1,.int .i64 reason)]) (dL ⟨2,reason,cw⟩) Z Z Z yp Z) ?_)
   refine VG (VK (Lc:=[bQ p S]) (fun Fr w hF hw _=>E8 Fr w ho (o:=⟨2,reason,cw⟩) (by show(1:Int)≤2;decide) (by show(2:Int)≤3;decide)) Z Z ?_)
   rintro _ _ ⟨rfl,rfl⟩
   refine ae ?_
   exact⟨_,by rw[h];rfl,SC Z (SN _),ER⟩
 rintro o rfl
 generalize (if S.unsure=true then (⟨3,0,cw⟩:eV) else ⟨2,reason,cw⟩)=o
 refine ae ?_
 refine VG (VK (Lc:=[]) (fun Fr w hF hw _=>Mm Fr w) Z Z ?_)
 rintro _ _ ⟨sb,rfl,rfl⟩
 refine ae ?_
 refine CR (an.tmp 4 Z Z ?_ (Hg (to:=16) (f:={ aB.zero with kind:=7 }) (sb:=sb) Z Z))
 rw[zF]
 refine aa.aj (aa.trans (M:=[aq gk 30 (some ⟨sb,0,none⟩) 1 1 (dy (iy 16 { aB.zero with kind:=7 })),iM (iy 16 { aB.zero with kind:=7 }),bQ p (S.end_ o)]) ?_ (bb [2,0,0]))
 exact aa.Di (n:=1) (by rw[Db]) (aa.cons (aa.cK aa.refl))
end
end Cl
namespace Cl
open Go Vg T Api Ch Rep
attribute [local irreducible] VO VC VA
section
variable {p:Nat} {S:aW}
theorem AA{v:Value}{L H:List HP}(hv:v=.slice none 0 0)(hL:L=H++(aq gk 30 none 0 0 (flat dy [])::([]:List gr).map iM)):nG [] v L H:=xB hv hL
theorem JE(ok:S.Ok)(ho:S.out=some none)(reason now:Int)(h0:0≤now)(h1:now≤1099511627776):ax Tryz.prog 167 [.pointer (some ⟨p,0,none⟩),.int .i64 reason,.int .i64 now] Fr w [bQ p S] (fun v L=>nG (S.im reason now).2 v L [bQ p (S.im reason now).1]):=by
 unfold aW.im
 refine TF 49 Tryz.func167 Z yp aC Z Z ?_
 refine vU ?_
 rintro y -
 show VC _ _ _ [pt p (du S y) jI,pt y.q (eA S.tok) fL,aq aP 2 y.a S.ch.ms.length y.c (flat aD S.ch.ms),kT S.out y.b] _
 refine ae ?_
 refine CD (ts 0 23 (.only 23 (ts 24 2 .nil))) yp yr ?_
 refine cW ?_
 by_cases g1:S.gI<S.tries
 ·rw[if_pos (.inl g1)]
  refine AG (AY 16 true Z (DT g1) ?_)
  refine cW ?_
  refine AG (AY 24 true Z Z ?_)
  refine vW ?_
  refine lR ?_
  refine Ea ?_
  refine ae ?_
  refine Ia ?_
  rintro _ _ ⟨X,sa,sc,hX,rfl,rfl⟩
  refine ae ?_
  exact yA
 refine AG (AY 16 false Z (DF g1) ?_)
 refine cW ?_
 by_cases g2:S.deadline<now
 ·rw[if_pos (.inr g2)]
  refine AG (AY 24 true Z (DT g2) ?_)
  refine vW ?_
  refine lR ?_
  refine Ea ?_
  refine ae ?_
  refine Ia ?_
  rintro _ _ ⟨X,sa,sc,hX,rfl,rfl⟩
  refine ae ?_
  exact yA
 rw[if_neg (fun h=>h.elim g1 g2)]
 refine AG (AY 24 false Z (DF g2) ?_)
 refine cW ?_
 refine AG (AO (OC (Lc:=[pt y.q (eA S.tok) fL]) (Lr:=[pt p (du S y) jI,aq aP 2 y.a S.ch.ms.length y.c (flat aD S.ch.ms),kT S.out y.b]) rfl (.swap _ _ _) (fun Fr w hF hw hS=>QF Fr w ok.tok now)) rfl (fun v L' g=>by obtain⟨_,⟨rfl,rfl⟩,rfl⟩:=g;exact kp) ?_)
 rintro _ _ ⟨_,⟨rfl,rfl⟩,rfl⟩
 refine cn ?_
 refine VC.fq Z (fun hb=>?_) (fun hb=>CK ?_)
 ·rw[if_neg (by rw[hb];decide)]
  refine CN (L':=[bQ p (S.rW now)]) (aa.eS (S:=S.rW now) y (bb [1,0,0,0])).aj ?_
  refine ae ?_
  refine VG (VK (Lc:=[bQ p (S.rW now)]) (Lr:=[]) (fun Fr w hF hw _=>E9 (S:=S.rW now) Fr w ho reason) Z Z ?_)
  rintro _ _ ⟨X,sa,sc,hX,rfl,rfl⟩
  refine ae ?_
  exact yA
 rw[if_pos hb]
 have hg:=Sr S.tries 64
 refine ae ?_
 refine VG (VO.st 1 (cs':=du { S with gQ:=3 } y) Z Z Z Z Ew Z Z ?_)
 refine dF ?_
 refine VG (VV (fun Fr w hF hw _=>Ss Fr w S.tries 64) Z ?_)
 refine tp ?_
 refine ae ?_
 refine VG (VO.st 1 (cs':=du ((S.rW now).CT now) y) Z Z Z Z (by show 11<21;omega) Z Z ?_)
 refine ae ?_
 refine CR (an.tmp 6 Z Z ?_ (AA Z Z))
 exact(aa.trans (M:=rq p ((S.rW now).CT now) y ++ []) (bb [1,0,0,0]) wL).aj
theorem Rh(ok:S.Ok)(ho:S.out=some none)(reason now:Int)(h0:0≤now)(h1:now≤1099511627776):ax Tryz.prog 275 [.pointer (some ⟨p,0,none⟩),.int .i64 reason,.int .i64 now] Fr w [bQ p S] (fun v L=>nG (S.refused reason now).2 v L [bQ p (S.refused reason now).1]):=by
 have ok2:({ S with unsure:=true }:aW).Ok:=⟨ok.c0,ok.c1,ok.t0,ok.t1,ok.b0,ok.b1,ok.tok,ok.ml,ok.out,ok.s0,ok.s1,ok.q0,ok.r0,ok.r1,ok.rb⟩
 unfold aW.refused
 refine TF 25 Tryz.func275 Z yp aC Z Z ?_
 refine jz ?_
 refine CS (CS (CG (VG (VN ?_))))
 refine VC.bZ (σ:=aW) (fun _=>[(0,pV p),(1,.int .i64 reason),(2,.int .i64 now)]) (fun S'=>[bQ p S']) (fun S'=>(S'={ S with unsure:=true }∧(reason=6∨reason=5∨reason=7))∨(S'=S∧¬(reason=6∨reason=5∨reason=7)∧¬(reason=2∨reason=10))) ?_ ?_
 rotate_left
 ·rintro S' hS
  have key:S'.Ok∧S'.out=some none∧(if reason=6∨reason=5∨reason=7 then ({ S with unsure:=true }:aW).im reason now else if reason=2∨reason=10 then S.giveUp reason else S.im reason now)=S'.im reason now:=by
   rcases hS with ⟨rfl,h⟩ | ⟨rfl,h,h'⟩
   ·exact⟨ok2,ho,if_pos h⟩
   ·exact⟨ok,ho,by rw[if_neg h,if_neg h']⟩
  rw[key.2.2]
  refine ae ?_
  refine VG (VK (Lc:=[bQ p S']) (Lr:=[]) (fun Fr w hF hw _=>JE Fr w key.1 key.2.1 reason now h0 h1) Z Z ?_)
  rintro _ _ ⟨X,sa,sc,hX,rfl,rfl⟩
  refine ae ?_
  exact yA
 refine VC.block ?_
 refine CS (VC.bZ (σ:=Bool) (fun b=>[(0,pV p),(1,.int .i64 reason),(2,.int .i64 now),(7,.int .i64 reason),(8,.bool b)]) (fun _=>[bQ p S]) (fun b=>b=true↔(reason=6∨reason=5∨reason=7)) ?_ ?_)
 ·refine ae ?_
  refine CE Z (fun k=>CK ?_) (fun k=>?_)
  ·exact⟨true,by simp[k],SC Z (SC Z (SC Z (SC Z (Sub.bl Z (beq_iff_eq.2 k) (SN _))))),ER⟩
  refine ae ?_
  refine CE Z (fun k5=>CK ?_) (fun k5=>?_)
  ·exact⟨true,by simp[k5],SC Z (SC Z (SC Z (SC Z (Sub.bl Z (beq_iff_eq.2 k5) (SN _))))),ER⟩
  refine ae ?_
  exact⟨decide (reason=7),by simp[k,k5],SC Z (SC Z (SC Z (SC Z (Sub.bl Z Z (SN _))))),ER⟩
 rintro b hb
 refine ae ?_
 refine CC Z (fun k=>?_) (fun k=>?_)
 ·have k:=hb.1 k
  refine vU ?_
  rintro y -
  show VC _ _ _ [pt p (du S y) jI,pt y.q (eA S.tok) fL,aq aP 2 y.a S.ch.ms.length y.c (flat aD S.ch.ms),kT S.out y.b] _
  refine ae ?_
  refine OX ?_
  refine ae ?_
  exact⟨{ S with unsure:=true },.inl ⟨rfl,k⟩,aH,(aa.eS (S:={ S with unsure:=true }) y aa.refl).aj⟩
 have k:¬(reason=6∨reason=5∨reason=7):=fun h=>by rw[hb.2 h] at k;cases k
 refine CS (VC.bZ (σ:=Bool) (fun b=>[(0,pV p),(1,.int .i64 reason),(2,.int .i64 now),(15,.bool b)]) (fun _=>[bQ p S]) (fun b=>b=true↔(reason=2∨reason=10)) ?_ ?_)
 ·refine ae ?_
  refine CE Z (fun k=>CK ?_) (fun k=>?_)
  ·exact⟨true,by simp[k],SC Z (SC Z (SC Z (Sub.bl Z (beq_iff_eq.2 k) (SN _)))),ER⟩
  refine ae ?_
  exact⟨decide (reason=10),by simp[k],SC Z (SC Z (SC Z (Sub.bl Z Z (SN _)))),ER⟩
 rintro b2 hb2
 refine ae ?_
 refine CC Z (fun k2=>?_) (fun k2=>CK ?_)
 ·rw[if_neg k,if_pos (hb2.1 k2)]
  refine ae ?_
  refine Ia ?_
  rintro _ _ ⟨X,sa,sc,hX,rfl,rfl⟩
  refine ae ?_
  exact yA
 ·exact⟨S,.inr ⟨rfl,k,fun h=>by rw[hb2.2 h] at k2;cases k2⟩,aH,ER⟩
end
end Cl
namespace Cl
open Go Vg T Api Ch Rep Rd
attribute [local irreducible] VO VC VA
section
variable {p:Nat} {S:aW}
theorem Rk(ok:S.Ok)(f:aB){ma:Option Addr}{mc:Nat}{ms:List aS}(hm:aT aD 2 Fr w ma ms)(hml:ms.length≤1000000)(now:Int):ax Tryz.prog 239 [.pointer (some ⟨p,0,none⟩),.agg (f.cells (ma,ms.length,mc)).toArray,.int .i64 now] Fr w [bQ p S] (fun v L=>nG (S.take f ms now).2 v L [bQ p (S.take f ms now).1]):=by
 have htk:=tg now
 unfold aW.take
 generalize htn:bY now=tn at htk
 generalize hfc:f.cells (ma,ms.length,mc)=fc
 have hkd:fc[0]?=some (.int .i64 f.kind):=by rw[←hfc];rfl
 have hch:(fc.drop 23).take 3=aV.cells ⟨f.dW,ms,f.drain⟩ ma mc:=by rw[←hfc];rfl
 have hep:fc[23]?=some (.int .i64 f.dW):=by rw[←hfc];rfl
 have hmm:fc[24]?=some (.slice ma ms.length mc):=by rw[←hfc];rfl
 have hcl:fc[2]?=some (.int .i64 f.aL):=by rw[←hfc];rfl
 have hsq:fc[3]?=some (.int .i64 f.seq):=by rw[←hfc];rfl
 have hty:fc[4]?=some (.int .i64 f.bD):=by rw[←hfc];rfl
 have hrs:fc[15]?=some (.int .i64 f.reason):=by rw[←hfc];rfl
 have hre:(fc.drop 11).take 4=[.int .i64 f.res.code,.string f.res.value,.int .i64 f.res.version,.int .i64 f.res.at_]:=by rw[←hfc];rfl
 refine TF 118 Tryz.func239 Z yp aC Z Z ?_
 refine CS (CG (VG (VB (vs:=fc) Z fun fb=>VG (VN ?_))))
 refine VC.bz 1 Z (bd.eS p S) ?_
 rintro y -
 show VC _ _ _ [pt p (du S y) jI,pt y.q (eA S.tok) fL,aq aP 2 y.a S.ch.ms.length y.c (flat aD S.ch.ms),kT S.out y.b,pt fb fc cq] _
 have rK:dd ⟨Tryz.prog,tab,aC,118,Fr,w⟩ [pt p (du S y) jI,pt y.q (eA S.tok) fL,aq aP 2 y.a S.ch.ms.length y.c (flat aD S.ch.ms),kT S.out y.b,pt fb fc cq] ([bQ p S] ++ [pt fb fc cq]):=(aa.eS (K:=[pt fb fc cq]) y aa.refl).aj
 refine ae ?_
 refine Ib ?_
 refine si ?_
 refine Ic ?_
 rw[htn]
 refine ae ?_
 refine VG (VO.ld 4 Z Z Z hkd ?_)
 refine ae ?_
 refine CE Z (fun k8=>?_) (fun k8=>?_)
 ·rw[if_pos k8]
  refine ae ?_
  refine CD (ts 0 2 (.only 2 (ts 3 12 .nil))) yp yr ?_
  refine cn ?_
  refine AG (VA.dE 4 (aV.cells ⟨f.dW,ms,f.drain⟩ ma mc) Z Z Z Z hch ?_)
  refine AG (AR (fun Fr w hF hw hS=>Ch.gv Fr w (c:=⟨f.dW,ms,f.drain⟩) (hm.of hF hw) IB) Z Z (by(try refine Pd.st ?_);(repeat(first|exact Pd.nil|exact Pd.fnil|refine Pd.inner ?_|refine Pd.skip yr ?_|refine zf (zo 0 Z Z) ?_|refine zf (zo 1 Z Z) ?_|refine zf (zo 2 Z Z) ?_|refine zf (zo 3 Z Z) ?_|refine zf (zm 0 Z Z) ?_|refine zf (zm 1 Z Z) ?_|refine zf (zm 2 Z Z) ?_|refine zf (zm 3 Z Z) ?_|refine zf (aw.aA (aw.many 4 Z hch) Z) ?_|refine zf ((aw.many 4 Z hch)) ?_|refine zc (zo 0 Z Z) ?_|refine zc (zo 1 Z Z) ?_|refine zc (zo 2 Z Z) ?_|refine zc (zo 3 Z Z) ?_|refine zc (zm 0 Z Z) ?_|refine zc (zm 1 Z Z) ?_|refine zc (zm 2 Z Z) ?_|refine zc (zm 3 Z Z) ?_|refine zc (aw.aA (aw.many 4 Z hch) Z) ?_|refine zc ((aw.many 4 Z hch)) ?_))) ?_)
  refine cn ?_
  by_cases hc:eN ⟨f.dW,ms,f.drain⟩=0
  rotate_left
  ·rw[if_pos (.inl hc)]
   refine AG (AY 20 true Z (by rw[bne_iff_ne];exact hc) ?_)
   refine cn ?_
   refine VC.mi Z (CX ?_)
   exact sk
  have hc6:=(rn hc).2.1
  dsimp only at hc6
  refine AG (AY 20 false Z (by rw[bne_eq_false_iff_eq];exact hc) ?_)
  refine cn ?_
  refine AG (VA.ld 4 Z Z Z Z hep ?_)
  refine cW ?_
  refine CP (p:=f.dW<S.ch.ar) Z (fun he=>CX ?_) (fun he=>CK ?_)
  ·rw[if_pos (.inr he)]
   exact sk
  rw[if_neg (fun h=>h.elim (fun k=>k hc) he)]
  refine ae ?_
  refine VG (VL 4 (aV.cells ⟨f.dW,ms,f.drain⟩ ma mc) Z Z Z hch ?_)
  refine VG (VT (vs:=aV.cells ⟨f.dW,ms,f.drain⟩ ma mc) (cs':=du { S with ch:=⟨f.dW,ms,f.drain⟩ } { y with a:=ma,c:=mc }) 0 Z Z Z Z (by show 5+3≤21;omega) Z Z Z ?_)
  refine ae ?_
  refine VG (VO.ld 4 Z Z Z hmm ?_)
  refine VO.aj (L':=[aq aP 2 none 0 0 [],pt p (du { S with ch:=⟨f.dW,ms,f.drain⟩ } { y with a:=ma,c:=mc }) jI,pt y.q (eA S.tok) fL,kT S.out y.b,pt fb fc cq]) (aa.cK (bb [0,0,1,1])).aj ?_
  refine VG (VO.append (m:=ms.length) (news:=flat aD ms) 0 Z Z Z Z Z Z Z (aT.row cu hm) (nZ vq _) (by show(0+ms.length)*16≤_;omega) yg fun a' c' _=>?_)
  rw[cj,mZ]
  refine ae ?_
  refine VG (VO.st 1 (cs':=du { S with ch:=⟨f.dW,ms,f.drain⟩ } { y with a:=a',c:=c' }) Z Z Z Z (by show 6<21;omega) Z Z ?_)
  have ok2:({ S with ch:=⟨f.dW,ms,f.drain⟩ }:aW).Ok:=⟨ok.c0,ok.c1,ok.t0,ok.t1,ok.b0,ok.b1,ok.tok,hc6,ok.out,ok.s0,ok.s1,ok.q0,ok.r0,ok.r1,ok.rb⟩
  refine VO.aj (L':=[pt p (du { S with ch:=⟨f.dW,ms,f.drain⟩ } { y with a:=a',c:=c' }) jI,pt y.q (eA S.tok) fL,aq aP 2 a' ms.length c' (flat aD ms),kT S.out y.b]) (bb [1,1,0,0]).aj ?_
  refine al ?_
  refine CE Z (fun h1=>?_) (fun h1=>CK ?_)
  ·rw[if_pos h1]
   refine CN (L':=[bQ p { S with ch:=⟨f.dW,ms,f.drain⟩ }]) (aa.eS (S:={ S with ch:=⟨f.dW,ms,f.drain⟩ }) { y with a:=a',c:=c' } aa.refl).aj ?_
   refine ae ?_
   refine VG (VK (Lc:=[bQ p { S with ch:=⟨f.dW,ms,f.drain⟩ }]) (Lr:=[]) (fun Fr w hF hw _=>JZ Fr w ok2 tn) Z Z ?_)
   rintro _ _ ⟨X,sa,sc,hX,rfl,rfl⟩
   refine ae ?_
   exact yA
  ·rw[if_neg h1]
   refine ae ?_
   exact CR (an.tmp 6 Z Z (wL (S:={ S with ch:=⟨f.dW,ms,f.drain⟩ }) (y:={ y with a:=a',c:=c' }) (R:=[])).aj (AA Z Z))
 rw[if_neg k8]
 refine ae ?_
 refine CE Z (fun k2=>?_) (fun k2=>?_)
 ·rw[if_pos k2]
  refine ae ?_
  refine CD (ts 0 1 (.only 1 (ts 2 18 .nil))) yp yr ?_
  refine cn ?_
  refine AG (AR (fun Fr w hF hw hS=>JB Fr w ok (hS.aA 0 Z)) Z Z yu ?_)
  refine cn ?_
  by_cases hb:S.gQ=0
  ·rw[if_neg (fun h=>h.1 hb)]
   refine AG (AY 56 false Z (by rw[bne_eq_false_iff_eq];exact hb) ?_)
   refine cn ?_
   refine AG (AY 65 false Z Z ?_)
   refine cn ?_
   refine fV ?_
   exact sk
  refine AG (AY 56 true Z (by rw[bne_iff_ne];exact hb) ?_)
  refine cn ?_
  refine AG (VA.ld 4 Z Z Z Z hcl ?_)
  refine cW ?_
  by_cases hi:f.aL=S.id
  rotate_left
  ·rw[if_neg (fun h=>hi h.2.1)]
   refine AG (AY 65 false Z (beq_eq_false_iff_ne.2 hi) ?_)
   refine cn ?_
   refine fV ?_
   exact sk
  refine AG (AY 65 true Z (beq_iff_eq.2 hi) ?_)
  refine cn ?_
  refine AG (VA.ld 4 Z Z Z Z hsq ?_)
  refine cW ?_
  refine CE Z (fun hs=>?_) (fun hs=>CK ?_)
  ·rw[if_pos ⟨hb,hi,hs⟩]
   refine ae ?_
   refine VG (VL 4 [.int .i64 f.res.code,.string f.res.value,.int .i64 f.res.version,.int .i64 f.res.at_] Z Z Z hre ?_)
   refine VG (VI (LB (pv:=[(0,.int .i64 1),(2,.agg ([.int .i64 f.res.code,.string f.res.value,.int .i64 f.res.version,.int .i64 f.res.at_]:List Value).toArray)]) (dL ⟨1,0,f.res⟩) Z Z Z yp Z) ?_)
   refine VO.aj rK ?_
   refine VG (VK (Lc:=[bQ p S]) (Lr:=[pt fb fc cq]) (fun Fr w hF hw _=>E8 Fr w (ok.out hb) (o:=⟨1,0,f.res⟩) (by show(1:Int)≤1;decide) (by show(1:Int)≤3;decide)) Z Z ?_)
   rintro _ _ ⟨rfl,rfl⟩
   refine ae ?_
   exact CR (an.tmp 6 Z Z ((aa.cK (aa.refl (L:=[bQ p (S.end_ ⟨1,0,f.res⟩),pt fb fc cq]))).trans (IP 1 Z (IP 0 Z aa.nil))).aj (AA Z Z))
  ·rw[if_neg (fun h=>hs h.2.2)]
   exact sk
 rw[if_neg k2]
 refine ae ?_
 refine CE Z (fun k3=>?_) (fun k3=>CK ?_)
 rotate_left
 ·rw[if_neg k3]
  exact sk
 rw[if_pos k3]
 refine ae ?_
 refine CD (ts 0 32 .nil) yp yr ?_
 refine cW ?_
 by_cases hd:S.gQ=2
 rotate_left
 ·rw[if_neg (fun h=>hd h.1)]
  refine AG (AY 86 false Z (beq_eq_false_iff_ne.2 hd) ?_)
  refine cn ?_
  refine AG (AY 95 false Z Z ?_)
  refine cn ?_
  refine AG (AY 104 false Z Z ?_)
  refine cn ?_
  refine fV ?_
  exact sk
 refine AG (AY 86 true Z (beq_iff_eq.2 hd) ?_)
 refine cn ?_
 refine AG (VA.ld 4 Z Z Z Z hcl ?_)
 refine cW ?_
 by_cases hi:f.aL=S.id
 rotate_left
 ·rw[if_neg (fun h=>hi h.2.1)]
  refine AG (AY 95 false Z (beq_eq_false_iff_ne.2 hi) ?_)
  refine cn ?_
  refine AG (AY 104 false Z Z ?_)
  refine cn ?_
  refine fV ?_
  exact sk
 refine AG (AY 95 true Z (beq_iff_eq.2 hi) ?_)
 refine cn ?_
 refine AG (VA.ld 4 Z Z Z Z hsq ?_)
 refine cW ?_
 by_cases hs:f.seq=S.seq
 rotate_left
 ·rw[if_neg (fun h=>hs h.2.2.1)]
  refine AG (AY 104 false Z (beq_eq_false_iff_ne.2 hs) ?_)
  refine cn ?_
  refine fV ?_
  exact sk
 refine AG (AY 104 true Z (beq_iff_eq.2 hs) ?_)
 refine cn ?_
 refine AG (VA.ld 4 Z Z Z Z hty ?_)
 refine cW ?_
 refine CE Z (fun ht=>?_) (fun ht=>CK ?_)
 ·rw[if_pos ⟨hd,hi,hs,ht⟩]
  refine ae ?_
  refine VG (VO.ld 4 Z Z Z hrs ?_)
  refine ae ?_
  refine VO.aj rK ?_
  refine VG (VK (Lc:=[bQ p S]) (Lr:=[pt fb fc cq]) (fun Fr w hF hw _=>Rh Fr w ok (ok.out (by rw[hd];decide)) f.reason tn htk.1 htk.2) Z Z ?_)
  rintro _ _ ⟨X,sa,sc,hX,rfl,rfl⟩
  refine ae ?_
  refine CR (an.tmp 6 Z Z (L':=[bQ p (S.refused f.reason tn).1]++(aq gk 30 sa X.length sc (flat dy X)::X.map iM)) ?_ ⟨X,sa,sc,hX,Z,Z⟩)
  exact((aa.perm lV).trans aa.Fj).aj
 ·rw[if_neg (fun h=>ht h.2.2.2)]
  exact sk
end
end Cl
namespace Cl
open Go Vg T Api Ch Rep Rd Conf Sched
attribute [local irreducible] VO VC VA
section
variable {S:aW}
theorem aW.Ok.ask(ok:S.Ok)(h:S.tries≤16)(ho:S.out=some none){now:Int}(h0:0≤now)(h1:now≤1099511627776):(S.ask now).1.Ok:=
 ⟨ok.c0,ok.c1,ok.t0,ok.t1,ok.b0,ok.b1,ok.tok,ok.ml,fun _=>ho,h0,h1,ok.q0,ok.r0,ok.r1,fun _=>h⟩
theorem aW.Ok.bD(ok:S.Ok)(h:S.tries≤16)(ho:S.out=some none){now:Int}(h0:0≤now)(h1:now≤1099511627776):(S.bD now).1.Ok:=by
 have:=ok.r0
 exact⟨ok.c0,ok.c1,ok.t0,ok.t1,ok.b0,ok.b1,ok.tok,ok.ml,fun _=>ho,h0,h1,ok.q0,by show 0≤S.tries+1;omega,by show S.tries+1≤17;omega,fun e=>by rcases e with e | e<;>exact absurd (show(2:Int)=_ from e) yy⟩
theorem aW.Ok.end_(ok:S.Ok)(o:eV):(S.end_ o).Ok:=
 ⟨ok.c0,ok.c1,ok.t0,ok.t1,ok.b0,ok.b1,ok.tok,ok.ml,fun e=>absurd rfl e,ok.s0,ok.s1,ok.q0,ok.r0,ok.r1,fun e=>by rcases e with e | e<;>exact absurd (show(0:Int)=_ from e) yy⟩
theorem aW.Ok.giveUp(ok:S.Ok)(r:Int):(S.giveUp r).1.Ok:=ok.end_ _
theorem aW.Ok.im(ok:S.Ok)(ho:S.out=some none)(r now:Int):(S.im r now).1.Ok:=by
 unfold aW.im
 split
 ·exact ok.giveUp r
 rename_i h
 have:=ok.b1
 have ok2:(S.rW now).Ok:=⟨ok.c0,ok.c1,ok.t0,ok.t1,ok.b0,ok.b1,ok.tok.take now,ok.ml,ok.out,ok.s0,ok.s1,ok.q0,ok.r0,ok.r1,ok.rb⟩
 split
 ·exact⟨ok.c0,ok.c1,ok.t0,ok.t1,ok.b0,ok.b1,ok.tok.take now,ok.ml,fun _=>ho,ok.s0,ok.s1,ok.q0,ok.r0,ok.r1,fun _=>by show S.tries≤16;omega⟩
 ·exact ok2.giveUp r
theorem aW.Ok.unsure(ok:S.Ok):({ S with unsure:=true }:aW).Ok:=⟨ok.c0,ok.c1,ok.t0,ok.t1,ok.b0,ok.b1,ok.tok,ok.ml,ok.out,ok.s0,ok.s1,ok.q0,ok.r0,ok.r1,ok.rb⟩
theorem aW.Ok.refused(ok:S.Ok)(ho:S.out=some none)(r now:Int):(S.refused r now).1.Ok:=by
 unfold aW.refused
 split
 ·exact ok.unsure.im ho r now
 split
 ·exact ok.giveUp r
 ·exact ok.im ho r now
theorem aW.Ok.take(ok:S.Ok)(f:aB)(ms:List aS)(now:Int):(S.take f ms now).1.Ok:=by
 have ht:=tg now
 unfold aW.take
 split
 ·split
  ·exact ok
  rename_i hc
  have hc0:eN ⟨f.dW,ms,f.drain⟩=0:=EI fun e=>hc (.inl e)
  have ok2:({ S with ch:=⟨f.dW,ms,f.drain⟩ }:aW).Ok:=⟨ok.c0,ok.c1,ok.t0,ok.t1,ok.b0,ok.b1,ok.tok,(rn hc0).2.1,ok.out,ok.s0,ok.s1,ok.q0,ok.r0,ok.r1,ok.rb⟩
  split
  ·rename_i h1
   exact ok2.bD (ok.rb (.inl h1)) (ok.out (by rw[h1];decide)) ht.1 ht.2
  ·exact ok2
 split
 ·split
  ·exact ok.end_ _
  ·exact ok
 split
 ·split
  ·rename_i h
   exact ok.refused (ok.out (by rw[h.1];decide)) _ _
  ·exact ok
 ·exact ok
theorem aW.Ok.tick(ok:S.Ok)(now:Int):(S.tick now).1.Ok:=by
 have ht:=tg now
 unfold aW.tick
 split
 ·rename_i h
  split
  ·exact ok.unsure.im (ok.out cG) _ _
  ·exact ok
 split
 ·rename_i h
  split
  ·exact ok
  split
  ·exact ok.giveUp _
  ·exact ok.ask (ok.rb (.inl h)) (ok.out cG) ht.1 ht.2
 split
 ·rename_i h
  split
  ·exact ok.ask (ok.rb (.inr h)) (ok.out cG) ht.1 ht.2
  ·exact ok
 ·exact ok
theorem aW.Ok.begun(ok:S.Ok)(o:bw)(cl d:Int):(S.begun o cl d).Ok:=by
 have:=ok.q0
 exact⟨ok.c0,ok.c1,ok.t0,ok.t1,ok.b0,ok.b1,ok.tok,ok.ml,fun _=>rfl,ok.s0,ok.s1,by show 0≤S.seq+1;omega,e_ _,by show(0:Int)≤17;decide,fun _=>by show(0:Int)≤16;decide⟩
theorem aW.Ok.call(ok:S.Ok)(o:bw)(cl d now:Int):(S.call o cl d now).1.Ok:=by
 have ht:=tg now
 unfold aW.call
 split
 ·exact ok
 split
 ·exact(ok.begun o cl d).bD (by show(0:Int)≤16;decide) Z ht.1 ht.2
 ·exact(ok.begun o cl d).ask (by show(0:Int)≤16;decide) Z ht.1 ht.2
end
section
variable {p:Nat} {S:aW}
theorem Rm(ok:S.Ok)(now:Int):ax Tryz.prog 106 [.pointer (some ⟨p,0,none⟩),.int .i64 now] Fr w [bQ p S] (fun v L=>nG (S.tick now).2 v L [bQ p (S.tick now).1]):=by
 have htk:=tg now
 have s0:=ok.s0
 have s1:=ok.s1
 unfold aW.tick
 generalize htn:bY now=tn at htk
 refine TF 68 Tryz.func106 Z yp aC Z Z ?_
 refine vU ?_
 rintro y -
 show VC _ _ _ [pt p (du S y) jI,pt y.q (eA S.tok) fL,aq aP 2 y.a S.ch.ms.length y.c (flat aD S.ch.ms),kT S.out y.b] _
 have rK:dd ⟨Tryz.prog,tab,aC,68,Fr,w⟩ [pt p (du S y) jI,pt y.q (eA S.tok) fL,aq aP 2 y.a S.ch.ms.length y.c (flat aD S.ch.ms),kT S.out y.b] [bQ p S]:=(aa.eS (K:=[]) y aa.refl).aj
 refine ae ?_
 refine Ib ?_
 refine si ?_
 refine Ic ?_
 rw[htn]
 refine al ?_
 refine CE Z (fun k2=>?_) (fun k2=>?_)
 ·rw[if_pos k2]
  have ho:=ok.out (by rw[k2];decide)
  refine ae ?_
  refine CD (ts 0 11 .nil) yp yr ?_
  refine bp ?_
  refine xV ?_
  refine bp ?_
  refine CP (p:=S.timeout≤tn-S.since) Z (fun h=>?_) (fun h=>CK ?_)
  ·rw[if_pos h]
   refine ae ?_
   refine OX ?_
   refine VO.aj (L':=[bQ p { S with unsure:=true }]) (aa.eS (S:={ S with unsure:=true }) (K:=[]) y aa.refl).aj ?_
   refine ae ?_
   refine VG (VK (Lc:=[bQ p { S with unsure:=true }]) (Lr:=[]) (fun Fr w hF hw _=>JE Fr w ok.unsure ho 0 tn htk.1 htk.2) Z Z ?_)
   rintro _ _ ⟨X,sa,sc,hX,rfl,rfl⟩
   refine ae ?_
   exact Eb
  ·rw[if_neg h]
   refine ae ?_
   exact Ec
 rw[if_neg k2]
 refine ae ?_
 refine CE Z (fun k1=>?_) (fun k1=>?_)
 ·rw[if_pos k1]
  have ho:=ok.out (by rw[k1];decide)
  refine ae ?_
  refine CD (ts 0 11 .nil) yp yr ?_
  refine bp ?_
  refine xV ?_
  refine bp ?_
  refine CP (p:=tn-S.since<S.timeout) Z (fun h=>CX ?_) (fun h=>CK ?_)
  ·rw[if_pos h]
   refine ae ?_
   exact Ec
  rw[if_neg h]
  refine al ?_
  refine CP (p:=S.deadline<tn) Z (fun h2=>?_) (fun h2=>CK ?_)
  ·rw[if_pos h2]
   refine CN rK ?_
   refine ae ?_
   refine VG (VK (Lc:=[bQ p S]) (Lr:=[]) (fun Fr w hF hw _=>E9 Fr w ho 2) Z Z ?_)
   rintro _ _ ⟨X,sa,sc,hX,rfl,rfl⟩
   refine ae ?_
   exact Eb
  ·rw[if_neg h2]
   refine CN rK ?_
   refine ae ?_
   refine OY ?_
   rintro _ _ ⟨X,sa,sc,hX,rfl,rfl⟩
   refine ae ?_
   exact Eb
 rw[if_neg k1]
 refine ae ?_
 refine CE Z (fun k3=>?_) (fun k3=>CK ?_)
 ·rw[if_pos k3]
  refine al ?_
  refine CP (p:=S.DJ≤tn) Z (fun h=>?_) (fun h=>CK ?_)
  ·rw[if_pos h]
   refine CN rK ?_
   refine ae ?_
   refine OY ?_
   rintro _ _ ⟨X,sa,sc,hX,rfl,rfl⟩
   refine ae ?_
   exact Eb
  ·rw[if_neg h]
   refine ae ?_
   exact Ec
 ·rw[if_neg k3]
  refine ae ?_
  exact Ec
end
end Cl
namespace Cl
open Go Vg T Api Ch Rep Conf Sched
attribute [local irreducible] VO VC VA
section
variable {p:Nat} {S:aW}
def JJ(S:aW):List Value:=(du S ⟨0,0,none,0⟩).set 4 (.pointer none)
theorem wH{o:bw}{cl d now e:Int}(h:S.fZ o cl d=e)(he:e≠0):(S.call o cl d now).1=S∧(S.call o cl d now).2=[]:=by
 unfold aW.call;rw[if_pos (by rw[h];exact he)];exact⟨rfl,rfl⟩
theorem QQ(ok:S.Ok)(hq:S.seq≤1000000000)(o:bw)(cl d now:Int):ax Tryz.prog 92 [.pointer (some ⟨p,0,none⟩),.agg o.cells.toArray,.int .i64 cl,.int .i64 d,.int .i64 now] Fr w [bQ p S]
  (fun v L=>xA (S.call o cl d now).2 (S.fZ o cl d) v L [bQ p (S.call o cl d now).1]):=by
 have htk:=tg now
 have q0:=ok.q0
 refine TF 78 Tryz.func92 Z yp aC Z Z ?_
 refine vU ?_
 rintro y -
 show VC _ _ _ [pt p (du S y) jI,pt y.q (eA S.tok) fL,aq aP 2 y.a S.ch.ms.length y.c (flat aD S.ch.ms),kT S.out y.b] _
 refine CS (CG (VG (VB (vs:=o.cells) Z fun ob=>VO.aj (L':=[pt p (du S y) jI,pt y.q (eA S.tok) fL,aq aP 2 y.a S.ch.ms.length y.c (flat aD S.ch.ms),kT S.out y.b,pt ob o.cells 36]) (bb [1,1,1,1,0]).aj ?_)))
 refine ae ?_
 refine Ib ?_
 refine r9 ?_
 refine ae ?_
 refine VG (VV (fun Fr w hF hw hS=>JB Fr w ok (hS.aA 0 Z)) Z ?_)
 refine ae ?_
 refine CC Z (fun hb=>?_) (fun hb=>?_)
 ·have he:S.fZ o cl d=63:=by unfold aW.fZ;rw[if_pos (by simpa using hb)]
  refine ae ?_
  exact CR (an.cV 10 11 Z Z Z (wL (y:=y) (R:=[_])).aj PI)
 have hd0:S.gQ=0:=by simpa using hb
 have hcE:S.fZ o cl d=if dv o≠0∨cl<0∨S.cls≤cl∨d<0∨1099511627776<d then 2 else 0:=by unfold aW.fZ;rw[if_neg (fun h=>h hd0)]
 refine CS (VC.bZ (σ:=Bool) (fun b=>[(0,pV p),(2,.int .i64 cl),(3,.int .i64 d),(4,.int .i64 now),(6,pV ob),(19,.bool b)]) (fun _=>[pt p (du S y) jI,pt y.q (eA S.tok) fL,aq aP 2 y.a S.ch.ms.length y.c (flat aD S.ch.ms),kT S.out y.b,pt ob o.cells 36]) (fun b=>b=true↔(dv o≠0∨cl<0∨S.cls≤cl∨d<0∨1099511627776<d)) ?_ ?_)
 ·refine ae ?_
  refine VG (VL 4 o.cells Z Z Z Z ?_)
  refine VG (VV (fun Fr w hF hw hS=>Api.gv Fr w o) Z ?_)
  refine ae ?_
  refine VC.dp Z (fun k1=>CK ?_) (fun k1=>?_)
  ·exact⟨true,by simp[k1],SC Z (SC Z (SC Z (SC Z (SC Z (Sub.bl Z (by rw[bne_iff_ne];exact k1) (SN _)))))),ER⟩
  refine ae ?_
  refine CP (p:=cl<0) Z (fun k2=>CK ?_) (fun k2=>?_)
  ·exact⟨true,by simp[k2],SC Z (SC Z (SC Z (SC Z (SC Z (Sub.bl Z (DT k2) (SN _)))))),ER⟩
  refine al ?_
  refine CP (p:=S.cls≤cl) Z (fun k3=>CK ?_) (fun k3=>?_)
  ·exact⟨true,by simp[k3],SC Z (SC Z (SC Z (SC Z (SC Z (Sub.bl Z (DT k3) (SN _)))))),ER⟩
  refine ae ?_
  refine CP (p:=d<0) Z (fun k4=>CK ?_) (fun k4=>?_)
  ·exact⟨true,by simp[k4],SC Z (SC Z (SC Z (SC Z (SC Z (Sub.bl Z (DT k4) (SN _)))))),ER⟩
  refine ae ?_
  exact⟨decide (1099511627776<d),by simp[k1,k2,k3,k4],SC Z (SC Z (SC Z (SC Z (SC Z (Sub.bl Z Z (SN _)))))),ER⟩
 rintro b hb2
 refine ae ?_
 refine CC Z (fun k=>?_) (fun k=>CK ?_)
 ·have he:S.fZ o cl d=2:=by rw[hcE,if_pos (hb2.1 k)]
  refine ae ?_
  exact CR (an.cV 10 11 Z Z Z (wL (y:=y) (R:=[_])).aj PI)
 have he:S.fZ o cl d=0:=by rw[hcE,if_neg (fun h=>by rw[hb2.2 h] at k;cases k)]
 rw[he]
 refine ae ?_
 refine Ic ?_
 refine ae ?_
 generalize htn:bY now=tn at htk
 refine VG (VK (Lc:=[]) (fun Fr w hF hw _=>W_ Fr w) Z Z ?_)
 rintro _ _ ⟨sb,rfl,rfl⟩
 refine VO.aj (L':=[pt p (du S y) jI,pt y.q (eA S.tok) fL,aq aP 2 y.a S.ch.ms.length y.c (flat aD S.ch.ms),pt sb (o6 none) nH,pt ob o.cells 36]) (bb [1,1,1,0,1]).aj ?_
 refine ae ?_
 refine VG (VO.st 0 (cs':=du { S with out:=some none } { y with b:=sb }) Z Z Z Z (by show 8<21;omega) Z Z ?_)
 refine al ?_
 refine VG (VP Z Z fB fB ?_)
 refine ae ?_
 refine VG (VO.st 0 (cs':=du { S with out:=some none,seq:=S.seq+1 } { y with b:=sb }) Z Z Z Z (by show 13<21;omega) Z Z ?_)
 refine ae ?_
 refine VG (VO.st 0 (cs':=du { S with out:=some none,seq:=S.seq+1,tries:=0 } { y with b:=sb }) Z Z Z Z (by show 14<21;omega) Z Z ?_)
 refine VG (VO.st 0 (cs':=du { S with out:=some none,seq:=S.seq+1,tries:=0,unsure:=false } { y with b:=sb }) Z Z Z Z PH Z Z ?_)
 refine ae ?_
 refine VG (VL 4 o.cells Z Z Z Z ?_)
 refine ae ?_
 refine VG (VT (vs:=o.cells) (cs':=du { S with out:=some none,seq:=S.seq+1,tries:=0,unsure:=false,op:=o } { y with b:=sb }) 0 Z Z Z Z (by show 17+4≤21;omega) Z Z Z ?_)
 refine VG (VO.st 0 (cs':=du { S with out:=some none,seq:=S.seq+1,tries:=0,unsure:=false,op:=o,cl:=cl } { y with b:=sb }) Z Z Z Z (by show 15<21;omega) Z Z ?_)
 refine VG (VO.st 0 (cs':=du (S.begun o cl d) { y with b:=sb }) Z Z Z Z (by show 16<21;omega) Z Z ?_)
 refine al ?_
 have okb:=ok.begun o cl d
 refine CP (p:=0<S.ch.ar) Z (fun hp=>?_) (fun hp=>CK ?_)
 ·have ec:S.call o cl d now=(S.begun o cl d).bD tn:=by unfold aW.call;rw[if_neg (by rw[he];decide),if_pos hp,htn]
  rw[ec]
  refine OZ ?_
  refine ae ?_
  refine VG (VK (Lc:=[bQ p (S.begun o cl d)]) (Lr:=[]) (fun Fr w hF hw _=>JZ Fr w okb tn) Z Z ?_)
  rintro _ _ ⟨X,sa,sc,hX,rfl,rfl⟩
  refine ae ?_
  exact CR (an.cV 10 11 Z Z Z ER ⟨X,sa,sc,hX,Z,br _⟩)
 ·have ec:S.call o cl d now=(S.begun o cl d).ask tn:=by unfold aW.call;rw[if_neg (by rw[he];decide),if_neg hp,htn]
  rw[ec]
  refine OZ ?_
  refine ae ?_
  refine VG (VK (Lc:=[bQ p (S.begun o cl d)]) (Lr:=[]) (fun Fr w hF hw _=>JA Fr w okb tn) Z Z ?_)
  rintro _ _ ⟨X,sa,sc,hX,rfl,rfl⟩
  refine ae ?_
  exact CR (an.cV 10 11 Z Z Z ER ⟨X,sa,sc,hX,Z,br _⟩)
end
theorem QA{c r:Int}(h0:0≤c)(h1:c≤16)(h2:1≤r)(h3:r≤1099511627776):ax Tryz.prog 48 [.int .i64 c,.int .i64 r] Fr w [] (fun v L=>∃p,v=.tuple #[.pointer (some ⟨p,0,none⟩),.int .i64 0]∧L=[pt p (eA ⟨c,r,c,0,0⟩) fL]):=by
 refine TF 25 Tryz.func48 Z yp aC Z Z ?_
 refine ae ?_
 refine VG (VY 8 false Z (DF yg) ?_)
 refine av ?_
 refine VG (VY 12 false Z (DF yg) ?_)
 refine av ?_
 refine VG (VY 16 false Z (DF yg) ?_)
 refine av ?_
 refine CP (p:=1099511627776<r) Z (fun h=>absurd h yg) (fun h=>CK ?_)
 refine av ?_
 refine VG (VI (LB (pv:=[(0,.int .i64 c),(1,.int .i64 r),(2,.int .i64 c)]) (eA ⟨c,r,c,0,0⟩) Z Z Z yp Z) ?_)
 refine VG (VB (vs:=eA ⟨c,r,c,0,0⟩) Z fun q=>?_)
 refine ae ?_
 exact CR (an.cV 4 5 Z Z Z ER ⟨q,Z,Z⟩)
def qE(c:ba)(id:Int):Int:=if c=bh c∧0≤id∧id<c.bK then 0 else 2
theorem UH{c:ba}(h:c=bh c)(id:Int):(qD c id).Ok:=by
 obtain⟨_,b2,b3,b4,_,b6⟩:=wO h
 exact⟨by show(1:Int)≤c.qs.length;omega,by show(c.qs.length:Int)≤4;omega,by show 0≤c.timeout;omega,by show c.timeout≤1000;omega,b3.1,b3.2,⟨b3.1,b3.2,b4.1,b4.2,b3.1,e_ _,e_ _,by show(0:Int)≤_;decide,by show(0:Int)≤0;decide,by show(0:Int)≤0;decide⟩,by show 0≤6;decide,fun k=>absurd Z k,by show(0:Int)≤0;decide,by show(0:Int)≤_;decide,by show(0:Int)≤0;decide,by show(0:Int)≤0;decide,by show(0:Int)≤17;decide,fun _=>by show(0:Int)≤16;decide⟩
theorem Q8(c:ba){qa:Option Addr}{qc:Nat}(hq:gp Fr w qa c.qs)(hqa:pk qa)(hqc:c.qs.length≤qc)(id:Int):
  ax Tryz.prog 18 [.agg (c.cells qa qc).toArray,.int .i64 id] Fr w [] (fun v L=>if qE c id=0 then ∃p,v=.tuple #[.pointer (some ⟨p,0,none⟩),.int .i64 0]∧L=[bQ p (qD c id)] else v=.tuple #[.pointer none,.int .i64 2]∧L=[]):=by
 refine TF 42 Tryz.func18 Z yp aC Z Z ?_
 refine CS (CG (VG (VB (vs:=c.cells qa qc) Z fun b2=>VG (VN ?_))))
 refine IJ ?_
 refine OG ?_
 refine av ?_
 by_cases hf:c=bh c
 rotate_left
 ·have hE:qE c id≠0:=by unfold qE;rw[if_neg (fun h=>hf h.1)];decide
  refine VG (VY 10 true Z (by unfold mI;rw[if_neg hf];rfl) ?_)
  refine av ?_
  refine VG (VY 14 true Z Z ?_)
  refine kq ?_
  exact Ie
 refine VG (VY 10 false Z (by unfold mI;rw[if_pos hf];rfl) ?_)
 refine av ?_
 by_cases h0:id<0
 ·have hE:qE c id≠0:=by unfold qE;rw[if_neg (fun h=>by omega)];decide
  refine VG (VY 14 true Z (DT h0) ?_)
  refine kq ?_
  exact Ie
 refine VG (VY 14 false Z (DF h0) ?_)
 refine bG ?_
 refine CP (p:=c.bK≤id) Z (fun h1=>?_) (fun h1=>CK ?_)
 ·have hE:qE c id≠0:=by unfold qE;rw[if_neg (fun h=>by omega)];decide
  refine av ?_
  exact Ie
 have hE:qE c id=0:=by unfold qE;rw[if_pos ⟨hf,by omega,by omega⟩]
 obtain⟨_,b2,b3,b4,_,b6⟩:=wO hf
 refine bG ?_
 refine VG (VI (LB (pv:=[(0,.int .i64 id),(1,.int .i64 c.qs.length),(2,.int .i64 c.timeout),(3,.int .i64 c.gI)]) (JJ (qD c id)) Z Z Z yp Z) ?_)
 refine VG (VB (vs:=JJ (qD c id)) Z fun p=>?_)
 refine dG ?_
 refine VG (VK (Lc:=[]) (fun Fr w hF hs _=>QA Fr w b3.1 b3.2 b4.1 b4.2) Z Z ?_)
 rintro _ _ ⟨q,rfl,rfl⟩
 refine dG ?_
 refine VG (VO.st 1 (cs':=du (qD c id) ⟨q,0,none,0⟩) Z Z Z Z (by show 4<21;omega) Z Z ?_)
 refine dG ?_
 exact CR (an.cV 4 5 Z Z Z (aa.eS (S:=qD c id) (K:=[]) ⟨q,0,none,0⟩ (IP 1 Z (IP 0 Z (aa.cK (aa.pure trivial aa.nil))))).aj (by rw[if_pos hE];exact⟨p,Z,Z⟩))
end Cl
namespace Cl
open Go Vg T Api Ch Rep
attribute [local irreducible] VO VC VA
abbrev lF:TypeId:=113
abbrev lL:TypeId:=218
def recC(r:RecM):List Value:=[.int .i64 r.aL,.int .i64 r.seq]++r.op.cells ++ [.int .i64 r.from_,.int .i64 r.to]++dL r.out
theorem s3(r:RecM):(recC r).length=14:=rfl
def fS(h:bx)(a:Option Addr)(c:Nat):List Value:=[.bool true,.slice a h.bn.length c,.int .i64 h.events]++h.last.map (Value.int .i64)
def Ci(p:Nat)(h:bx)(a:Option Addr)(c:Nat):List HP:=[pt p (fS h a c) lF,aq lL 14 a h.bn.length c (flat recC h.bn)]
def jr(p:Nat)(h:bx):HP:=hex fun y:Option Addr×Nat=>bF (Ci p h y.1 y.2)
theorem bd.bO(p:Nat)(h:bx):bd (ι:=Option Addr×Nat) (jr p h) (fun _=>True) (fun y=>Ci p h y.1 y.2):=fun w ids ⟨x,h⟩ hn=>⟨x,trivial,ids,h,hn,fun _ h=>h⟩
theorem aa.bO{p:Nat}{S:bx}{L K:List HP}(y:Option Addr×Nat)(h:aa L (Ci p S y.1 y.2++K)):aa L (jr p S::K):=aa.ex (f:=fun y:Option Addr×Nat=>bF (Ci p S y.1 y.2)) y (aa.sep h)
structure bx.Ok(h:bx):Prop where
 rl:h.bn.length≤1000000
 e0:0≤h.events
 e1:h.events≤10000000
 ll:h.last.length=6
 lr:∀x∈h.last,0≤x∧x≤h.bn.length
def bx.mM(h:bx)(c:Int):Int:=(h.last[c.toNat]?).getD 0
section
variable {p:Nat} {S:bx} {a:Option Addr} {cap:Nat}
theorem KC(ok:S.Ok):(fS S a cap).length=9:=by show(_::_::_::S.last.map _).length=9;simp[ok.ll]
theorem SR{k:Nat}{x:Int}(h:S.last[k]?=some x):(fS S a cap)[3+k]?=some (.int .i64 x):=by
 show(_::_::_::S.last.map (Value.int .i64))[3+k]?=_
 rw[show 3+k=k+1+1+1 from by omega]
 simp only[sr]
 rw[dH,h];rfl
theorem SS{k:Nat}(x:Int):(fS S a cap).set (3+k) (.int .i64 x)=fS { S with last:=S.last.set k x } a cap:=by
 show(_::_::_::S.last.map (Value.int .i64)).set (3+k) _=_::_::_::(S.last.set k x).map (Value.int .i64)
 rw[show 3+k=k+1+1+1 from by omega]
 simp only[y_]
 rw[gZ]
theorem bx.Ok.at(ok:S.Ok){c:Int}(h:0≤c∧c<6):∃k:Nat,c=k∧k<6∧S.last[k]?=some (S.mM c)∧0≤S.mM c∧S.mM c≤S.bn.length:=by
 obtain⟨k,rfl⟩:∃k:Nat,c=k:=⟨c.toNat,by omega⟩
 have hk:k<S.last.length:=by rw[ok.ll];omega
 have e:S.last[k]?=some (S.mM (k:Int)):=by
  unfold bx.mM
  rw[ea,GE hk];rfl
 exact⟨k,Z,by omega,e,ok.lr _ (ME e)⟩
theorem Co{c:Int}(h:c<0∨6≤c∨S.mM c=0):S.fT c=none:=by unfold bx.fT;exact if_pos h
theorem KQ(ok:S.Ok){c:Int}(h0:0≤c)(h1:c<6)(h2:S.mM c≠0):∃i r,S.fT c=some (i,r)∧S.bn[i]?=some r∧S.mM c=(i:Int)+1∧i<S.bn.length:=by
 obtain⟨k,_,_,_,g1,g2⟩:=ok.at ⟨h0,h1⟩
 have hi:(S.mM c).toNat-1<S.bn.length:=by omega
 refine⟨(S.mM c).toNat-1,S.bn[(S.mM c).toNat-1],?_,GE hi,by omega,hi⟩
 unfold bx.fT
 rw[if_neg (fun h=>by
  rcases h with h | h | h
  ·omega
  ·omega
  ·exact h2 h)]
 show(S.bn[(S.mM c).toNat-1]?).map _=_
 rw[GE hi];rfl
theorem KP(ok:S.Ok)(c:Int):(S.fT c=none∧(c<0∨6≤c∨S.mM c=0))∨∃i r,S.fT c=some (i,r)∧S.bn[i]?=some r∧S.mM c=(i:Int)+1∧i<S.bn.length:=by
 by_cases h:c<0∨6≤c∨S.mM c=0
 ·exact .inl ⟨Co h,h⟩
 ·exact .inr (KQ ok yg yg yg)
def oQ(S:bx)(a:Option Addr)(c:Int):Value:=match S.fT c with
 | none=>.pointer none
 | some (i,_)=>.pointer (a.map fun x=>⟨x.block,x.off+i*14,none⟩)
theorem SV:ax Tryz.prog 15 [] Fr w [] (fun v L=>∃p,v=.pointer (some ⟨p,0,none⟩)∧L=[jr p uh]):=by
 refine TF 3 Tryz.func15 Z yp aC Z Z ?_
 refine ae ?_
 refine VG (VI (LB (pv:=[(0,.bool true)]) (fS uh none 0) Z Z Z yp Z) ?_)
 refine VG (VB (vs:=fS uh none 0) Z fun q=>?_)
 refine ae ?_
 exact CR (an.tmp 0 Z Z (aa.bO (S:=uh) (K:=[]) (none,0) (IP 0 Z (aa.cK aa.nil))).aj ⟨q,Z,Z⟩)
theorem KE(h:bq Fr w p (fS S a cap)):ax Tryz.prog 121 [.pointer (some ⟨p,0,none⟩)] Fr w [] (fun v L=>v=.bool false∧L=[]):=by
 refine TF 12 Tryz.func121 Z yp aC Z Z ?_
 refine av ?_
 refine AZ ?_
 refine ji ?_
 exact o_
theorem To(ok:S.Ok)(h:bq Fr w p (fS S a cap))(hr:aT recC 14 Fr w a S.bn)(c:Int):ax Tryz.prog 122 [.pointer (some ⟨p,0,none⟩),.int .i64 c] Fr w [] (fun v L=>v=oQ S a c∧L=[]):=by
 have hrl:=ok.rl
 refine TF 32 Tryz.func122 Z yp aC Z Z ?_
 refine av ?_
 by_cases h0:c<0
 ·refine VG (VY 7 true Z (DT h0) ?_)
  refine av ?_
  refine VG (VY 11 true Z Z ?_)
  refine kq ?_
  exact CR (an.tmp 4 Z Z ER ⟨by rw[oQ,Co (.inl h0)],Z⟩)
 refine VG (VY 7 false Z (DF h0) ?_)
 refine av ?_
 by_cases h6:6≤c
 ·refine VG (VY 11 true Z (DT h6) ?_)
  refine kq ?_
  exact CR (an.tmp 4 Z Z ER ⟨by rw[oQ,Co (.inr (.inl h6))],Z⟩)
 refine VG (VY 11 false Z (DF h6) ?_)
 obtain⟨k,rfl,hk,hx,g1,g2⟩:=ok.at (c:=c) ⟨by omega,by omega⟩
 have hx':(fS S a cap)[0+3+k*1]?=some (.int .i64 (S.mM k)):=by rw[show 0+3+k*1=3+k from by omega];exact SR hx
 refine av ?_
 refine VG (VI (iL k Z Z Z Z Z Z hk) ?_)
 refine VG (VD Z Z (aw.aA h hx') ?_)
 refine av ?_
 refine CE Z (fun hz=>?_) (fun hz=>CK ?_)
 ·refine av ?_
  exact CR (an.tmp 4 Z Z ER ⟨by rw[oQ,Co (.inr (.inr hz))],Z⟩)
 obtain⟨i,r,e1,e2,e3,e4⟩:=KQ ok yg yg hz
 obtain⟨rb,ro,rfl,_,_⟩:=hr.at_ (fun e=>by rw[e] at e4;exact absurd e4 yi)
 refine ae ?_
 refine CD (ts 0 13 .nil) yp yr ?_
 refine r5 ?_
 refine AG (AI Z (iL k Z Z Z Z Z Z hk) ?_)
 refine AG (VA.load Z Z Z (aw.aA h hx') ?_)
 refine xV ?_
 refine AG (AI Z (eE i Z Z Z Z Z yg e4) ?_)
 refine cX ?_
 exact CR (an.tmp 4 Z Z ER ⟨by rw[oQ,e1];rfl,Z⟩)
end
end Cl
namespace Cl
open Go Vg T Api Ch Rep
attribute [local irreducible] VO VC VA
section
variable {p:Nat} {S:bx}
def sI(S:bx)(c seq:Int)(o:bw):RecM:=⟨c,seq,o,S.events,-1,L8⟩
theorem bx.BU{c seq:Int}{o:bw}(h:c<0∨6≤c∨seq<1∨dv o≠0):S.fZ c seq o=2:=by unfold bx.fZ;exact if_pos h
theorem bx.QI{c seq:Int}{o:bw}(h:¬(c<0∨6≤c∨seq<1∨dv o≠0))(h2:S.fT c=none):S.fZ c seq o=0:=by unfold bx.fZ;rw[if_neg h,h2]
theorem bx.QJ{c seq:Int}{o:bw}{i:Nat}{r:RecM}(h:¬(c<0∨6≤c∨seq<1∨dv o≠0))(h2:S.fT c=some (i,r)):S.fZ c seq o=if r.to<0 then 63 else if seq≤r.seq then 70 else 0:=by unfold bx.fZ;rw[if_neg h,h2]
theorem bx.wH{c seq e:Int}{o:bw}(h:S.fZ c seq o=e)(he:e≠0):S.call c seq o=S:=by unfold bx.call;rw[h,if_pos he]
theorem bx.QN{c seq:Int}{o:bw}(h:S.fZ c seq o=0):S.call c seq o=⟨S.bn ++ [sI S c seq o],S.events+1,S.last.set c.toNat ((S.bn.length:Int)+1)⟩:=by unfold bx.call;rw[h,if_neg yy];rfl
theorem bx.Ok.call(ok:S.Ok)(h1:S.bn.length<1000000)(h2:S.events<10000000)(c seq:Int)(o:bw):(S.call c seq o).Ok:=by
 unfold bx.call
 split
 ·exact ok
 have:=ok.e0
 refine⟨by show(S.bn ++ [_]).length≤_;rw[a8];simp;omega,by show 0≤S.events+1;omega,by show S.events+1≤_;omega,by show(S.last.set _ _).length=6;rw[fW,ok.ll],fun x hx=>?_⟩
 show 0≤x∧x≤((S.bn ++ [_]).length:Int)
 rw[a8]
 rcases kx hx with h | h
 ·have:=ok.lr x h;simp;omega
 ·rw[h];simp;omega
theorem SL(ok:S.Ok)(h2:S.events<10000000)(c seq:Int)(o:bw):ax Tryz.prog 93 [.pointer (some ⟨p,0,none⟩),.int .i64 c,.int .i64 seq,.agg o.cells.toArray] Fr w [jr p S]
  (fun v L=>v=.int .i64 (S.fZ c seq o)∧L=[jr p (S.call c seq o)]):=by
 have hrl:=ok.rl
 have he0:=ok.e0
 refine TF 77 Tryz.func93 Z yp aC Z Z ?_
 refine VC.bz 0 Z (bd.bO p S) ?_
 rintro⟨a,cap⟩ -
 show VC _ _ _ [pt p (fS S a cap) lF,aq lL 14 a S.bn.length cap (flat recC S.bn)] _
 refine CS (CG (VG (VB (vs:=o.cells) Z fun ob=>VO.aj (L':=[pt p (fS S a cap) lF,aq lL 14 a S.bn.length cap (flat recC S.bn),pt ob o.cells 36]) (bb [1,1,0]).aj ?_)))
 have fin:∀a cap,dd ⟨Tryz.prog,tab,aC,77,Fr,w⟩ [pt p (fS S a cap) lF,aq lL 14 a S.bn.length cap (flat recC S.bn),pt ob o.cells 36] [jr p S]:=fun a cap=>(aa.bO (K:=[]) (a,cap) (bb [0,0])).aj
 refine ae ?_
 refine VG (VV (fun Fr w hF hw hS=>KE Fr w (hS.aA 0 Z)) Z ?_)
 refine tz ?_
 refine av ?_
 by_cases k0:c<0
 ·have hE:=bx.BU (S:=S) (c:=c) (seq:=seq) (o:=o) (.inl k0)
  refine VG (VY 14 true Z (DT k0) ?_)
  refine av ?_
  refine VG (VY 18 true Z Z ?_)
  refine av ?_
  refine VG (VY 22 true Z Z ?_)
  refine kq ?_
  exact Ed
 refine VG (VY 14 false Z (DF k0) ?_)
 refine av ?_
 by_cases k1:6≤c
 ·have hE:=bx.BU (S:=S) (c:=c) (seq:=seq) (o:=o) (.inr (.inl k1))
  refine VG (VY 18 true Z (DT k1) ?_)
  refine av ?_
  refine VG (VY 22 true Z Z ?_)
  refine kq ?_
  exact Ed
 refine VG (VY 18 false Z (DF k1) ?_)
 refine av ?_
 by_cases k2:seq<1
 ·have hE:=bx.BU (S:=S) (c:=c) (seq:=seq) (o:=o) (.inr (.inr (.inl k2)))
  refine VG (VY 22 true Z (DT k2) ?_)
  refine kq ?_
  exact Ed
 refine VG (VY 22 false Z (DF k2) ?_)
 refine av ?_
 refine VG (VL 2 o.cells Z Z Z Z ?_)
 refine VG (VV (fun Fr w hF hw hS=>Api.gv Fr w o) Z ?_)
 refine av ?_
 refine VC.dp Z (fun k3=>?_) (fun k3=>CK ?_)
 ·have hE:=bx.BU (S:=S) (c:=c) (seq:=seq) (o:=o) (.inr (.inr (.inr k3)))
  refine av ?_
  exact Ed
 have hn:¬(c<0∨6≤c∨seq<1∨dv o≠0):=by
  rintro(h | h | h | h)
  ·exact k0 h
  ·exact k1 h
  ·exact k2 h
  ·exact h k3
 refine CS (VC.bZ (σ:=Option Addr×Nat) (fun _=>[(0,pV p),(1,.int .i64 c),(2,.int .i64 seq),(7,pV ob)]) (fun y=>[pt p (fS S y.1 y.2) lF,aq lL 14 y.1 S.bn.length y.2 (flat recC S.bn),pt ob o.cells 36]) (fun _=>S.fZ c seq o=0) ?_ ?_)
 ·refine ae ?_
  refine O0 ?_
  rcases KP ok c with ⟨e1,_⟩ | ⟨i,r,e1,e2,e3,e4⟩
  ·rw[show oQ S a c=.pointer none by rw[oQ,e1]]
   refine tz ?_
   exact⟨(a,cap),bx.QI hn e1,aH,ER⟩
  have hE:=bx.QJ hn e1
  refine VO.bz 1 Z (bd.sl _ _ _ _ _ _) ?_
  rintro(_ | ⟨mb,rest⟩) ⟨x1,x2,x3⟩
  ·obtain⟨_,h0,_⟩:=x3
   omega
  obtain⟨rfl,x4⟩:=x3
  rw[show oQ S (some ⟨mb,0,none⟩) c=.pointer (some ⟨mb,0+i*14,none⟩) by rw[oQ,e1];rfl]
  show VO _ _ _ _ _ [pt mb (flat recC S.bn++rest) lL,pt p (fS S (some ⟨mb,0,none⟩) cap) lF,pt ob o.cells 36] _
  have back:dd ⟨Tryz.prog,tab,aC,77,Fr,w⟩ [pt mb (flat recC S.bn++rest) lL,pt p (fS S (some ⟨mb,0,none⟩) cap) lF,pt ob o.cells 36] [pt p (fS S (some ⟨mb,0,none⟩) cap) lF,aq lL 14 (some ⟨mb,0,none⟩) S.bn.length cap (flat recC S.bn),pt ob o.cells 36]:=(IP 1 rfl (aa.sl x1 x2 x4 aa.refl)).aj
  have c7:(flat recC S.bn++rest)[0+i*14+7]?=some (.int .i64 r.to):=by rw[cj];exact oN s3 e2 rfl rest
  have c1:(flat recC S.bn++rest)[0+i*14+1]?=some (.int .i64 r.seq):=by rw[cj];exact oN s3 e2 rfl rest
  refine vY ?_
  refine VG (VD Z Z (aw.one 0 Z c7) ?_)
  refine ae ?_
  refine CP (p:=r.to<0) Z (fun j=>?_) (fun j=>CK ?_)
  ·have hE2:S.fZ c seq o=63:=by rw[hE,if_pos j]
   refine CN back ?_
   refine ae ?_
   exact O1
  refine ae ?_
  refine VG (VD Z Z (aw.one 0 Z c1) ?_)
  refine ae ?_
  refine CP (p:=seq≤r.seq) Z (fun j2=>?_) (fun j2=>CK ?_)
  ·have hE2:S.fZ c seq o=70:=by rw[hE,if_neg j,if_pos j2]
   refine CN back ?_
   refine ae ?_
   exact O1
  exact⟨(some ⟨mb,0,none⟩,cap),by rw[hE,if_neg j,if_neg j2],aH,back⟩
 rintro⟨a,cap⟩ hE
 dsimp only
 have hc:=bx.QN hE
 obtain⟨k,rfl,hk,hx,g1,g2⟩:=ok.at (c:=c) ⟨by omega,by omega⟩
 refine CS (CD (ts 0 13 (.only 13 (.only 14 (ts 15 2 (.only 17 .nil))))) yp yr ?_)
 refine fj ?_
 refine AG (VA.dE 2 o.cells Z Z Z Z Z ?_)
 refine fj ?_
 refine AG (AI Z (LB (pv:=[(0,.int .i64 k),(1,.int .i64 seq),(2,.agg o.cells.toArray),(3,.int .i64 S.events),(4,.int .i64 (-1))]) (recC (sI S k seq o)) Z Z Z yp Z) ?_)
 refine AG (AO (aK.buildSlice (n:=1) (pv:=[(0,.agg (recC (sI S k seq o)).toArray)]) (cells:=recC (sI S k seq o)) Z Z Z Z yy (eY Z Z Z)) Z ?_ ?_)
 ·rintro _ _ ⟨nb,rfl,rfl⟩
  exact yu
 rintro _ _ ⟨nb,rfl,rfl⟩
 refine AG (AO (aK.append (m:=1) (news:=recC (sI S k seq o)) 2 Z Z Z Z Z Z Z (dm.pt 0 Z Z Z) Z (by show(S.bn.length+1)*136≤_;omega) yg) Z ?_ ?_)
 ·rintro _ _ ⟨a1,c1,rfl,hc1,rfl⟩
  exact yu
 rintro _ _ ⟨a1,c1,rfl,hc1,rfl⟩
 refine iB ?_
 have e1:S.bn.length+1=(S.bn ++ [sI S k seq o]).length:=by rw[a8];rfl
 refine AG (VA.st 2 (cs':=fS { S with bn:=S.bn ++ [sI S k seq o] } a1 c1) Z Z Z Z Z (by rw[KC ok];decide) (by rw[e1];rfl) Z yu ?_)
 refine cX ?_
 generalize hS1:({ S with bn:=S.bn ++ [sI S k seq o] }:bx)=S1
 have l1:S1.bn=S.bn ++ [sI S k seq o]:=by rw[←hS1]
 have l2:S1.last=S.last:=by rw[←hS1]
 have l3:S1.events=S.events:=by rw[←hS1]
 refine CN (L':=[pt p (fS S1 a1 c1) lF,aq lL 14 a1 S1.bn.length c1 (flat recC S1.bn),pt ob o.cells 36]) ?_ ?_
 ·rw[l1,fu,zF,←e1]
  exact(bb [2,0,1]).aj
 refine HF ?_
 refine fj ?_
 refine AG (AI Z (iL k Z Z Z Z Z Z hk) ?_)
 refine AG (VA.st 0 (cs':=fS { S1 with last:=S1.last.set k S1.bn.length } a1 c1) Z Z Z Z Z (by show 0+3+k*1<(_::_::_::S1.last.map _).length;rw[l2];simp[ok.ll];omega) (by show(fS S1 a1 c1).set (0+3+k*1) _=_;rw[show 0+3+k*1=3+k from by omega];exact SS _) Z yu ?_)
 refine cX ?_
 refine CN (L':=[pt p (fS { S1 with last:=S1.last.set k S1.bn.length } a1 c1) lF,aq lL 14 a1 S1.bn.length c1 (flat recC S1.bn)]) (bb [0,0]).aj ?_
 refine al ?_
 refine VG (VP Z Z fB fB ?_)
 refine ae ?_
 refine VG (VO.st 0 (cs':=fS { S1 with last:=S1.last.set k S1.bn.length,events:=S1.events+1 } a1 c1) Z Z Z Z (by show 2<(_::_::_::(S1.last.set k _).map _).length;simp) Z Z ?_)
 refine ae ?_
 refine CR (an.tmp 8 Z Z (L':=[jr p { S1 with last:=S1.last.set k S1.bn.length,events:=S1.events+1 }]) (aa.bO (S:={ S1 with last:=S1.last.set k S1.bn.length,events:=S1.events+1 }) (K:=[]) (a1,c1) aa.refl).aj ⟨by rw[hE],?_⟩)
 rw[hc,l1,l2,l3,←e1,ea]
 rfl
end
end Cl
namespace Cl
open Go Vg T Api Ch Rep
attribute [local irreducible] VO VC VA
theorem abJ{B R vs:List Value}{o j n:Nat}(hR:(B.drop o).take n=R)(hn:R.length=n)(hj:j+vs.length≤n)(ho:o≤B.length):dM B (o+j) vs=dM B o (dM R j vs):=by
 have hB:B.drop o=R++B.drop (o+n):=by rw[←hR,←Bt,List.take_append_drop]
 have h1:(dM R j vs).length=n:=by unfold dM;simp;omega
 have h2:B.take (o+j)=B.take o++R.take j:=by
  rw[List.take_add,hB,List.take_append_of_le_length yg]
 have h3:B.drop (o+j+vs.length)=R.drop (j+vs.length)++B.drop (o+n):=by
  rw[Nat.add_assoc,←Bt,hB,List.drop_append_of_le_length yg]
 unfold dM at h1 ⊢
 rw[h1,h2,h3]
 simp
theorem R9{α:Type}{c:α→List Value}{n:Nat}(h:∀a,(c a).length=n){i j:Nat}{l:List α}{a a':α}{vs:List Value}(ha:l[i]?=some a)(hj:j+vs.length≤n)(hc:dM (c a) j vs=c a')(rest:List Value):dM (flat c l++rest) (i*n+j) vs=flat c (l.set i a')++rest:=by
 have hi:i<l.length:=(bP.1 ha).1
 have hle:i*n≤l.length*n:=sv n (Nat.le_of_lt hi)
 rw[←wW h a' rest hi,←hc]
 exact abJ (oO h ha rest) (h a) hj (by rw[a8,eu h];omega)
section
variable {p:Nat} {S:bx}
def bx.ru(h:bx)(c seq:Int)(o:eV):Int:=
 if o.kind≠1∧o.kind≠2∧o.kind≠3 then 2
 else match h.fT c with
  | none=>4
  | some (i,r)=>if r.seq≠seq∨0≤r.to then 4 else 0
def tV(S:bx)(r:RecM)(o:eV):RecM:={ r with to:=S.events,out:=o }
theorem bx.RC{c seq:Int}{o:eV}(h:o.kind≠1∧o.kind≠2∧o.kind≠3):S.end_ c seq o=S∧S.ru c seq o=2:=by unfold bx.end_ bx.ru;rw[if_pos h,if_pos h];exact⟨rfl,rfl⟩
theorem bx.RD{c seq:Int}{o:eV}(h:¬(o.kind≠1∧o.kind≠2∧o.kind≠3))(h2:S.fT c=none):S.end_ c seq o=S∧S.ru c seq o=4:=by unfold bx.end_ bx.ru;rw[if_neg h,if_neg h,h2];exact⟨rfl,rfl⟩
theorem bx.J_{c seq:Int}{o:eV}{i:Nat}{r:RecM}(h:¬(o.kind≠1∧o.kind≠2∧o.kind≠3))(h2:S.fT c=some (i,r))(h3:r.seq≠seq∨0≤r.to):S.end_ c seq o=S∧S.ru c seq o=4:=by
 unfold bx.end_ bx.ru;rw[if_neg h,if_neg h,h2];dsimp only;rw[if_pos h3,if_pos h3];exact⟨rfl,rfl⟩
theorem bx.RE{c seq:Int}{o:eV}{i:Nat}{r:RecM}(h:¬(o.kind≠1∧o.kind≠2∧o.kind≠3))(h2:S.fT c=some (i,r))(h3:¬(r.seq≠seq∨0≤r.to)):S.end_ c seq o={ S with bn:=S.bn.set i (tV S r o),events:=S.events+1 }∧S.ru c seq o=0:=by
 unfold bx.end_ bx.ru;rw[if_neg h,if_neg h,h2];dsimp only;rw[if_neg h3,if_neg h3];exact⟨rfl,rfl⟩
theorem bx.Ok.end_(ok:S.Ok)(h2:S.events<10000000)(c seq:Int)(o:eV):(S.end_ c seq o).Ok:=by
 have:=ok.e0
 unfold bx.end_
 split
 ·exact ok
 split
 ·exact ok
 split
 ·exact ok
 refine⟨by show(S.bn.set _ _).length≤_;rw[fW];exact ok.rl,by show 0≤S.events+1;omega,by show S.events+1≤_;omega,ok.ll,fun x hx=>?_⟩
 show 0≤x∧x≤((S.bn.set _ _).length:Int)
 rw[fW]
 exact ok.lr x hx
theorem SQ(ok:S.Ok)(h2:S.events<10000000)(c seq:Int)(o:eV):ax Tryz.prog 62 [.pointer (some ⟨p,0,none⟩),.int .i64 c,.int .i64 seq,.agg (dL o).toArray] Fr w [jr p S]
  (fun v L=>v=.int .i64 (S.ru c seq o)∧L=[jr p (S.end_ c seq o)]):=by
 have hrl:=ok.rl
 have he0:=ok.e0
 refine TF 63 Tryz.func62 Z yp aC Z Z ?_
 refine VC.bz 0 Z (bd.bO p S) ?_
 rintro⟨a,cap⟩ -
 show VC _ _ _ [pt p (fS S a cap) lF,aq lL 14 a S.bn.length cap (flat recC S.bn)] _
 refine CS (CG (VG (VB (vs:=dL o) Z fun ob=>VO.aj (L':=[pt p (fS S a cap) lF,aq lL 14 a S.bn.length cap (flat recC S.bn),pt ob (dL o) 143]) (bb [1,1,0]).aj ?_)))
 have fin:dd ⟨Tryz.prog,tab,aC,63,Fr,w⟩ [pt p (fS S a cap) lF,aq lL 14 a S.bn.length cap (flat recC S.bn),pt ob (dL o) 143] [jr p S]:=(aa.bO (K:=[]) (a,cap) (bb [0,0])).aj
 refine ae ?_
 refine VG (VV (fun Fr w hF hw hS=>KE Fr w (hS.aA 0 Z)) Z ?_)
 refine tz ?_
 refine CS (VC.bZ (σ:=Unit) (fun _=>[(0,pV p),(1,.int .i64 c),(2,.int .i64 seq),(7,pV ob)]) (fun _=>[pt p (fS S a cap) lF,aq lL 14 a S.bn.length cap (flat recC S.bn),pt ob (dL o) 143]) (fun _=>¬(o.kind≠1∧o.kind≠2∧o.kind≠3)) ?_ ?_)
 ·refine gO ?_
  by_cases k1:o.kind=1
  ·refine VG (VY 15 false Z (by simp[k1]) ?_)
   refine gO ?_
   refine VG (VY 20 false Z Z ?_)
   refine gO ?_
   refine fV ?_
   exact⟨(),fun h=>h.1 k1,aH,ER⟩
  refine VG (VY 15 true Z (by simp[k1]) ?_)
  refine gO ?_
  by_cases k2:o.kind=2
  ·refine VG (VY 20 false Z (by simp[k2]) ?_)
   refine gO ?_
   refine fV ?_
   exact⟨(),fun h=>h.2.1 k2,aH,ER⟩
  refine VG (VY 20 true Z (by simp[k2]) ?_)
  refine gO ?_
  refine VC.dp Z (fun k3=>?_) (fun k3=>CK ?_)
  ·obtain⟨g1,g2⟩:=bx.RC (S:=S) (c:=c) (seq:=seq) (o:=o) ⟨k1,k2,k3⟩
   refine av ?_
   exact Ee
  exact⟨(),fun h=>h.2.2 k3,aH,ER⟩
 rintro-hk
 refine ae ?_
 refine O0 ?_
 rcases KP ok c with ⟨e1,_⟩ | ⟨i,r,e1,e2,e3,e4⟩
 ·obtain⟨g1,g2⟩:=bx.RD (seq:=seq) hk e1
  rw[show oQ S a c=.pointer none by rw[oQ,e1]]
  refine av ?_
  refine VG (VY 30 true Z Z ?_)
  refine av ?_
  refine VG (VY 38 true Z Z ?_)
  refine kq ?_
  exact Ee
 refine VO.bz 1 Z (bd.sl _ _ _ _ _ _) ?_
 rintro(_ | ⟨mb,rest⟩) ⟨x1,x2,x3⟩
 ·obtain⟨_,h0,_⟩:=x3
  omega
 obtain⟨rfl,x4⟩:=x3
 rw[show oQ S (some ⟨mb,0,none⟩) c=.pointer (some ⟨mb,0+i*14,none⟩) by rw[oQ,e1];rfl]
 show VO _ _ _ _ _ [pt mb (flat recC S.bn++rest) lL,pt p (fS S (some ⟨mb,0,none⟩) cap) lF,pt ob (dL o) 143] _
 have back:dd ⟨Tryz.prog,tab,aC,63,Fr,w⟩ [pt mb (flat recC S.bn++rest) lL,pt p (fS S (some ⟨mb,0,none⟩) cap) lF,pt ob (dL o) 143] [pt p (fS S (some ⟨mb,0,none⟩) cap) lF,aq lL 14 (some ⟨mb,0,none⟩) S.bn.length cap (flat recC S.bn),pt ob (dL o) 143]:=(IP 1 rfl (aa.sl x1 x2 x4 aa.refl)).aj
 have c7:(flat recC S.bn++rest)[0+i*14+7]?=some (.int .i64 r.to):=by rw[cj];exact oN s3 e2 rfl rest
 have c1:(flat recC S.bn++rest)[0+i*14+1]?=some (.int .i64 r.seq):=by rw[cj];exact oN s3 e2 rfl rest
 refine av ?_
 refine VG (VY 30 false Z Z ?_)
 refine av ?_
 refine VG (VD Z Z (aw.one 0 Z c1) ?_)
 refine av ?_
 by_cases j1:r.seq=seq
 rotate_left
 ·obtain⟨g1,g2⟩:=bx.J_ hk e1 (.inl j1)
  refine VG (VY 38 true Z (by simp[j1]) ?_)
  refine yJ ?_
  refine CN back ?_
  refine av ?_
  exact Ee
 refine VG (VY 38 false Z (by simp[j1]) ?_)
 refine av ?_
 refine VG (VD Z Z (aw.one 0 Z c7) ?_)
 refine av ?_
 refine CP (p:=0≤r.to) Z (fun j2=>?_) (fun j2=>CK ?_)
 ·obtain⟨g1,g2⟩:=bx.J_ hk e1 (seq:=seq) (.inr j2)
  refine CN back ?_
  refine av ?_
  exact Ee
 obtain⟨g1,g2⟩:=bx.RE hk e1 (o:=o) (seq:=seq) (by rintro(h | h);exact h j1;exact j2 h)
 refine CS (CD (ts 0 9 (.only 9 (ts 10 2 (.only 12 .nil)))) yp yr ?_)
 refine fj ?_
 refine AG (VA.dE 2 (dL o) Z Z Z Z Z ?_)
 refine fj ?_
 have hfl:∀x:RecM,((flat recC (S.bn.set i x)).length:Nat)=S.bn.length*14:=fun x=>by rw[eu s3,fW]
 have hfl0:=eu s3 S.bn
 have hi14:(i+1)*14≤S.bn.length*14:=sv 14 e4
 refine AG (VA.st 0 (cs':=flat recC (S.bn.set i { r with to:=S.events })++rest) Z Z Z Z Z (by rw[a8,hfl0];omega) (by rw[cj];exact u_ s3 e2 yy Z rest) Z yu ?_)
 refine cX ?_
 refine AG (AT (vs:=dL o) (cs':=flat recC (S.bn.set i (tV S r o))++rest) 0 Z Z Z Z Z (by rw[a8,hfl];show 0+i*14+8+6≤_;omega) (by rw[cj,R9 (a:={ r with to:=S.events }) (a':=tV S r o) s3 (iR e4) (by show 8+6≤14;decide) Z rest,wj]) Z Z yu ?_)
 refine cX ?_
 refine dF ?_
 refine tp ?_
 refine ae ?_
 refine VG (VO.st 1 (cs':=fS { S with events:=S.events+1 } (some ⟨mb,0,none⟩) cap) Z Z Z Z (by rw[KC ok];decide) Z Z ?_)
 refine ae ?_
 refine CR (an.tmp 8 Z Z (L':=[jr p { S with bn:=S.bn.set i (tV S r o),events:=S.events+1 }]) ?_ ⟨by rw[g2],by rw[g1]⟩)
 refine(aa.bO (S:={ S with bn:=S.bn.set i (tV S r o),events:=S.events+1 }) (K:=[]) (some ⟨mb,0,none⟩,cap) ?_).aj
 show aa _ [pt p ([.bool true,.slice (some ⟨mb,0,none⟩) (S.bn.set i (tV S r o)).length cap,.int .i64 (S.events+1)]++S.last.map (Value.int .i64)) lF,aq lL 14 (some ⟨mb,0,none⟩) (S.bn.set i (tV S r o)).length cap (flat recC (S.bn.set i (tV S r o)))]
 rw[fW]
 exact IP 1 Z (aa.sl (hfl _) x2 (by rw[a8,hfl];rw[a8,hfl0] at x4;exact x4) (IP 0 Z aa.nil))
end
end Cl
namespace Vg
open Go Go.MapKept
def fN(k:Int×Int):Value:=.agg ([.int .i64 k.1,.int .i64 k.2]:List Value).toArray
theorem ky.ii{P:Program}{t ti:TypeId}{f g:Field}{Ti:TI}(ht:P.underlying t=some (.struct #[f,g]))(hp:P.stoodInHeld t=false)(hf:f.name ≠ "_")(hg:g.name ≠ "_")(hf2:f.type=ti)(hg2:g.type=ti)(hfo:f.offset=0)(hgo:g.offset=1)
  (hi:P.underlying ti=some (.int .i64)) (hTi:aN P ti Ti) (ha:Ti.aE.agg=false):ky P t fN where
 inj:=fun a b h=>by
  obtain⟨a1,a2⟩:=a;obtain⟨b1,b2⟩:=b
  simp[fN] at h
  rw[h.1,h.2]
 check:=fun e a w=>by
  have h1:(part ti ([.int .i64 a.1,.int .i64 a.2]:List Value).toArray 0).run P w=.ok (.int .i64 a.1) w:=pO hTi ha rfl w
  have h2:(part ti ([.int .i64 a.1,.int .i64 a.2]:List Value).toArray 1).run P w=.ok (.int .i64 a.2) w:=pO hTi ha rfl w
  have c1:(Instr.checkKey e (9998+1) ti (.int .i64 a.1)).run P w=.ok () w:=run_checkKey hi (by rfl) e 9998
  have c2:(Instr.checkKey e (9998+1) ti (.int .i64 a.2)).run P w=.ok () w:=run_checkKey hi (by rfl) e 9998
  show(Instr.checkKey e (9999+1) t (fN a)).run P w=_
  unfold Instr.checkKey
  rw[Sem.run_bind,run_underlying ht]
  simp only[Result.andThen_ok,fN]
  rw[←Array.forIn_toList]
  simp[hf,hg,hf2,hg2,hfo,hgo,h1,h2,Sem.run_bind,Result.andThen]
  rw[show(9999:Nat)=9998+1 from rfl,c1]
  simp[Result.andThen,h2,c2]
 find:=fun {α} d a xs es hes w=>by
  unfold Instr.findKey
  rw[Sem.run_bind,run_underlying ht]
  simp only[Result.andThen_ok]
  have hnow:∀(l:List MapEntry) (ys:List ((Int×Int)×α)) (i:Nat),l.map (fun e=>(e.key,e.val))=ys.map (fun x=>(fN x.1,d x.2))→(l≠[]→Instr.findNow (.struct #[f,g]) (fN a) l i=none):=by
   intro l ys i hl hne
   cases l with
   | nil=>exact absurd rfl hne
   | cons e r=>rfl
  have heq:∀(a b:Int×Int) (w:World),(Op.equal t (fN a) (fN b)).run P w=.ok (decide (a=b)) w:=fun a b w=>by
   have hx1:∀w:World,(part f.type ([.int .i64 a.1,.int .i64 a.2]:List Value).toArray f.offset).run P w=.ok (.int .i64 a.1) w:=fun w=>by rw[hf2,hfo];exact pO hTi ha rfl w
   have hx2:∀w:World,(part g.type ([.int .i64 a.1,.int .i64 a.2]:List Value).toArray g.offset).run P w=.ok (.int .i64 a.2) w:=fun w=>by rw[hg2,hgo];exact pO hTi ha rfl w
   have hy1:∀w:World,(part f.type ([.int .i64 b.1,.int .i64 b.2]:List Value).toArray f.offset).run P w=.ok (.int .i64 b.1) w:=fun w=>by rw[hf2,hfo];exact pO hTi ha rfl w
   have hy2:∀w:World,(part g.type ([.int .i64 b.1,.int .i64 b.2]:List Value).toArray g.offset).run P w=.ok (.int .i64 b.2) w:=fun w=>by rw[hg2,hgo];exact pO hTi ha rfl w
   refine eU.run (eU.eq (eU.st ht hp (hU.cons hf hx1 hy1 (hf2▸eU.int hi a.1 b.1) (hU.cons hg hx2 hy2 (hg2▸eU.int hi a.2 b.2) hU.nil))) ?_) yy w
   obtain⟨a1,a2⟩:=a;obtain⟨b1,b2⟩:=b
   by_cases h1:a1=b1<;>by_cases h2:a2=b2<;>simp[h1,h2]
  cases es with
  | nil=>
   cases xs with
   | nil=>rfl
   | cons _ _=>cases hes
  | cons e r=>
   rw[hnow (e::r) xs 0 hes yi]
   exact Kl heq d a xs (e::r) 0 hes w
 bits:=fun a=>by simp[fN,Instr.sameBits]
theorem QC{l:List MapEntry}(hn:(l.map (·.born)).Nodup):∀{j:Nat} {m:MapEntry},l[j]?=some m→l.findIdx? (fun e=>(e.born:Int) == (m.born:Int))=some j:=by
 induction l with
 | nil=>intro j m h;cases h
 | cons a r ih=>
  intro j m h
  simp only[kV,List.nodup_cons] at hn
  rw[List.findIdx?_cons]
  cases j with
  | zero=>
   simp only[uP,Option.some.injEq] at h
   subst h
   simp
  | succ j=>
   simp only[sr] at h
   have hne:((a.born:Int) == (m.born:Int))=false:=by
    rw[beq_eq_false_iff_ne]
    intro e
    exact hn.1 (cy.2 ⟨m,ME h,(Int.ofNat.inj e).symm⟩)
   rw[hne,ih hn.2 h];rfl
theorem Jr{es:Array MapEntry}(hn:(es.toList.map (·.born)).Nodup){j:Nat}{m:MapEntry}(h:es[j]?=some m):es.findIdx? (fun e=>(e.born:Int) == (m.born:Int))=some j:=by
 have:=QC hn (j:=j) (m:=m) ye
 cases es
 simpa using this
theorem Uw(es:Array MapEntry)(m:MapEntry)(f:MapEntry→MapEntry):(es.push m).modify es.size f=es.push (f m):=by
 apply v7
 intro i
 rw[v_,Array.getElem?_push,Array.getElem?_push]
 by_cases h:es.size=i
 ·subst h;simp
 ·rw[if_neg h,if_neg (fun k=>h k.symm),if_neg (fun k=>h k.symm)]
theorem Ux(es:Array MapEntry)(j:Nat)(k v:Value):(es.modify j fun e=>{ e with key:=k }).modify j (fun e=>{ e with val:=v })=es.modify j fun e=>{ e with key:=k,val:=v }:=by
 apply v7
 intro i
 simp only[v_]
 by_cases h:j=i
 ·subst h;simp;rfl
 ·simp[h]
def CA{κ α:Type}[DecidableEq κ](c:κ→Value)(d:α→Value)(b:Nat)(xs:List (κ×α))(a:κ)(st:Nat):HP:=
 ⟨fun ids w=>ids=[b]∧∃(es:Array MapEntry) (clock j:Nat),w.heap[b]?=some (.map es clock)∧es.findIdx? (fun e=>(e.born:Int) == (st:Int))=some j ∧
   ∀u,(es.modify j fun e=>{ e with val:=d u }).toList.map (fun e=>(e.key,e.val))=(cS xs a u).map (fun x=>(c x.1,d x.2))∧Stamped (es.modify j fun e=>{ e with val:=d u }) clock,
  fun _ _ _ h hs=>⟨hs.1,by
   obtain⟨es,k,j,h1,h2⟩:=hs.2
   exact⟨es,k,j,(h b yd).trans h1,h2⟩⟩⟩
section
variable {X:Cx} {κ α:Type} [DecidableEq κ] {c:κ→Value} {d:α→Value} {b:Nat} {xs:List (κ×α)} {e:Env} {L:List HP} {T kt et:TypeId} {te:TI} {x y z:Operand}
theorem aK.mapEntry(i:Nat)(K:ky X.P kt c)(hT:X.P.underlying T=some (.map kt et))(hE:bR X.tab et=some te){a:κ}(hx:ev e x=some (.map (some b)))(hk:ev e y=some (c a))(hL:L[i]?=some (fG c d b xs)):
  aK X (.mapEntry T x y) e L (fun v L'=>∃st:Nat,v=.tuple #[((bX xs a).map d).getD te.zero,.int .i64 st]∧L'=L.set i (CA c d b xs a st)):=fun ac w ha hw dst ty pos after guard=>by
 obtain⟨⟨es,clock,h1,h2,h3⟩,hf⟩:=hw.BQ hL
 have hfi:=K.find d a xs es.toList h2 w
 have hids:∀ids w,(fG c d b xs).sat ids w→ids=[b]:=fun _ _ h=>h.1
 have P:=fun u=>Lj K a u h2 h3
 cases hl:lI xs a 0 with
 | none=>
  obtain⟨hg,_⟩:=vm hl
  rw[hl] at hfi
  have hz:=vH (X.ok.look hE) (w:=w)
  refine .inl ⟨_,dZ w b (.map (es.push { key:=c a,val:=te.zero,born:=clock }) (clock+1)),_,?_,⟨clock,Z,Z⟩,hw.qL hL hids h1 hf ⟨rfl,_,_,es.size,rD h1,?_,fun u=>?_⟩⟩
  ·have:(Instr.mapEntry T (.map (some b)) (c a)).run X.P w=.ok (.tuple #[te.zero,.int .i64 clock]) (dZ w b (.map (es.push { key:=c a,val:=te.zero,born:=clock }) (clock+1))):=by
    simp[Instr.mapEntry,run_underlying hT,MapKept.run_getObj_map h1,K.check,hfi,hz,MapKept.run_setObj_map _ h1,Result.andThen,dZ,goInt]
   simp only[execOp,ha.ev hx,ha.ev hk,hg]
   rw[Sem.run_bind,this];rfl
  ·have hk:∀x∈es.toList,x.key≠c a:=fun m hm he=>by
    have:(m.key,m.val)∈es.toList.map (fun e=>(e.key,e.val)):=cy.2 ⟨m,hm,rfl⟩
    rw[h2] at this
    obtain⟨x,hx,hx2⟩:=cy.1 this
    have e2:c x.1=m.key:=congrArg Prod.fst hx2
    exact(vm hl).2.1 x hx (K.inj _ _ (e2.trans he))
   exact Jr (m:={ key:=c a,val:=te.zero,born:=clock }) (stamped_push h3 (val:=te.zero) hk).2.1 yi
  ·rw[Uw]
   exact(P u).2 hl
 | some p=>
  obtain⟨j,v⟩:=p
  obtain⟨_,hj,hg,_⟩:=w7 hl
  rw[Nat.sub_zero] at hj
  obtain⟨m,hm',hmk,_⟩:=Fs h2 hj
  have hm:es[j]?=some m:=by simpa using hm'
  rw[hl] at hfi
  have hst:=stamped_modify h3 j (fun e=>{ e with key:=c a }) (fun _ _=>rfl) (fun e _ he=>by rw[hm] at he;cases he;exact hmk.symm)
  have hat:(es.modify j fun e=>{ e with key:=c a })[j]?=some { m with key:=c a }:=by rw[v_,if_pos rfl,hm];rfl
  refine .inl ⟨_,dZ w b (.map (es.modify j fun e=>{ e with key:=c a }) clock),_,?_,⟨m.born,Z,Z⟩,hw.qL hL hids h1 hf ⟨rfl,_,_,j,rD h1,Jr (m:={ m with key:=c a }) hst.2.1 hat,fun u=>?_⟩⟩
  ·have:(Instr.mapEntry T (.map (some b)) (c a)).run X.P w=.ok (.tuple #[d v,.int .i64 m.born]) (dZ w b (.map (es.modify j fun e=>{ e with key:=c a }) clock)):=by
    simp[Instr.mapEntry,run_underlying hT,MapKept.run_getObj_map h1,K.check,hfi,hm,hmk,MK K,MapKept.run_setObj_map _ h1,Result.andThen,dZ,goInt]
   simp only[execOp,ha.ev hx,ha.ev hk,hg]
   rw[Sem.run_bind,this];rfl
  ·rw[Ux]
   obtain⟨_,_,_,q1,q2⟩:=(P u).1 hl
   exact⟨q1,q2⟩
theorem aK.T4(i:Nat)(K:ky X.P kt c)(hT:X.P.underlying T=some (.map kt et))(hE:bR X.tab et=some te)(v0:Value){a:κ}(hx:ev e x=some (.map (some b)))(hk:ev e y=some (c a))(hL:L[i]?=some (fG c d b xs))(hv:((bX xs a).map d).getD te.zero=v0):
  aK X (.mapEntry T x y) e L (fun v L'=>∃st:Nat,v=.tuple #[v0,.int .i64 st]∧L'=L.set i (CA c d b xs a st)):=hv▸aK.mapEntry i K hT hE hx hk hL
theorem aK.entryStore(i:Nat){a:κ}{u:α}{st:Nat}(hx:ev e x=some (.map (some b)))(hs:ev e y=some (.int .i64 st))(hv:ev e z=some (d u))(hL:L[i]?=some (CA c d b xs a st)):
  aK X (.entryStore T x y z) e L (fun v L'=>v=undef∧L'=L.set i (fG c d b (cS xs a u))):=fun ac w ha hw dst ty pos after guard=>by
 obtain⟨F,hs1,_,hb⟩:=hw.sat
 obtain⟨ids,hp,hm⟩:=hs1.get hL
 obtain⟨rfl,es,clock,j,h1,h2,h3⟩:=hp
 have hf:=(hb b (hm b yi)).1
 have hids:∀ids w,(CA c d b xs a st).sat ids w→ids=[b]:=fun _ _ h=>h.1
 obtain⟨q1,q2⟩:=h3 u
 refine .inr (.inl ⟨dZ w b (.map (es.modify j fun e=>{ e with val:=d u }) clock),_,?_,⟨rfl,Z⟩,hw.qL hL hids h1 hf ⟨rfl,_,_,rD h1,q1,q2⟩⟩)
 have:(Instr.entryStore T (.map (some b)) (.int .i64 st) (d u)).run X.P w=.ok () (dZ w b (.map (es.modify j fun e=>{ e with val:=d u }) clock)):=by
  simp[Instr.entryStore,MapKept.run_getObj_map h1,asInt,asIntOf,h2,MapKept.run_setObj_map _ h1,Result.andThen,dZ]
 simp only[execOp,ha.ev hx,ha.ev hs,ha.ev hv]
 rw[Sem.run_bind,this];rfl
end
end Vg
namespace Vg
open Go Go.MapKept
theorem FR{α β:Type}{f:α→β}:∀{l:List α} {a b:α},(l.map f).Nodup→a∈l→b∈l→f a=f b→a=b
 | x::l,a,b,hn,ha,hb,e=>by
  simp only[kV,List.nodup_cons] at hn
  rcases iD.1 ha with h1 | h1<;>rcases iD.1 hb with h2 | h2
  ·rw[h1,h2]
  ·exact absurd (cy.2 ⟨b,h2,by rw[←e,h1]⟩) hn.1
  ·exact absurd (cy.2 ⟨a,h1,by rw[e,h2]⟩) hn.1
  ·exact FR hn.2 h1 h2 e
section
variable {κ α:Type} {c:κ→Value} {d:α→Value}
structure nP(c:κ→Value)(d:α→Value)(xs:List (κ×α))(es:Array MapEntry)(clock:Nat):Prop where
 row:es.toList.map (fun e=>(e.key,e.val))=xs.map (fun x=>(c x.1,d x.2))
 st:Stamped es clock
abbrev ql(κ α:Type):=List (MapEntry×(κ×α))
structure lf(c:κ→Value)(d:α→Value)(xs:List (κ×α))(es:Array MapEntry)(J:ql κ α):Prop where
 sub:∀z∈J,z∈es.toList.zip xs
 nd:(J.map fun z=>z.1.born).Nodup
theorem lf.nil{xs:List (κ×α)}{es:Array MapEntry}:lf c d xs es []:=⟨(fun _ h=>by cases h),List.Pairwise.nil⟩
def ou(J:ql κ α):Array Nat:=(J.map fun z=>z.1.born).toArray
theorem MS(J:ql κ α)(z:MapEntry×(κ×α)):(ou J).push z.1.born=ou (J ++ [z]):=by unfold ou;simp
theorem nP.len{xs:List (κ×α)}{es:Array MapEntry}{k:Nat}(h:nP c d xs es k):es.toList.length=xs.length:=by have:=congrArg List.length h.row;simpa using this
theorem nP.zip{xs:List (κ×α)}{es:Array MapEntry}{k:Nat}(h:nP c d xs es k){m:MapEntry}(hm:m∈es.toList):∃x,(m,x)∈es.toList.zip xs:=by
 obtain⟨i,hi,rfl⟩:=List.getElem_of_mem hm
 have hx:i<xs.length:=by rw[←h.len];exact hi
 exact⟨xs[i],List.mem_iff_getElem.2 ⟨i,by rw[List.length_zip];omega,by rw[List.getElem_zip]⟩⟩
theorem nP.kv{xs:List (κ×α)}{es:Array MapEntry}{k:Nat}(h:nP c d xs es k){z:MapEntry×(κ×α)}(hz:z∈es.toList.zip xs):z.1∈es.toList∧z.2∈xs∧z.1.key=c z.2.1∧z.1.val=d z.2.2:=by
 obtain⟨i,hi,rfl⟩:=List.mem_iff_getElem.1 hz
 rw[List.length_zip] at hi
 have h1:i<es.toList.length:=by omega
 have h2:i<xs.length:=by omega
 have e:=congrArg (fun l=>l[i]?) h.row
 simp only[dH,GE h1,GE h2,ng,Option.some.injEq,Prod.mk.injEq] at e
 rw[List.getElem_zip]
 exact⟨List.getElem_mem h1,List.getElem_mem h2,e.1,e.2⟩
theorem nP.all{xs:List (κ×α)}{es:Array MapEntry}{k:Nat}(h:nP c d xs es k){J:ql κ α}(ok:lf c d xs es J)(h0:(leftOf es (ou J)).size=0):(J.map Prod.snd).Perm xs:=by
 have e1:(es.toList.zip xs).map Prod.fst=es.toList:=List.map_fst_zip (by rw[h.len];exact NR _)
 have e2:(es.toList.zip xs).map Prod.snd=xs:=List.map_snd_zip (by rw[h.len];exact NR _)
 have n1:J.Nodup:=(uR.1 ok.nd).imp fun hne e=>hne mW
 have n2:(es.toList.zip xs).Nodup:=by
  have:((es.toList.zip xs).map fun z=>z.1.born).Nodup:=by
   rw[show(fun z:MapEntry×(κ×α)=>z.1.born)=(fun m:MapEntry=>m.born)∘Prod.fst from rfl,←mY,e1];exact h.st.2.1
  exact(uR.1 this).imp fun hne e=>hne mW
 have hall:∀m∈es.toList,m.born∈J.map fun z=>z.1.born:=fun m hm=>by
  have hf:leftOf es (ou J)=#[]:=Array.eq_empty_of_size_eq_zero h0
  unfold leftOf at hf
  rw[Array.filter_eq_empty_iff] at hf
  have:=hf m (by simpa using hm)
  simpa[ou] using this
 rw[←e2]
 refine List.Perm.map _ ((List.perm_ext_iff_of_nodup n1 n2).2 fun z=>⟨ok.sub z,fun hz=>?_⟩)
 obtain⟨y,hy,hb⟩:=cy.1 (hall z.1 (h.kv hz).1)
 have hy2:=ok.sub y hy
 have:y=z:=by
  have n3:((es.toList.zip xs).map fun z=>z.1.born).Nodup:=by
   rw[show(fun z:MapEntry×(κ×α)=>z.1.born)=(fun m:MapEntry=>m.born)∘Prod.fst from rfl,←mY,e1];exact h.st.2.1
  exact FR n3 hy2 hz hb
 rw[←this];exact hy
def ub(q b since:Nat)(J:ql κ α):HP:=
 ⟨fun ids w=>ids=[q]∧w.heap[q]?=some (.mapIter (some b) since (ou J) since),fun _ _ _ h hs=>⟨hs.1,(h q yd).trans hs.2⟩⟩
end
section
variable {X:Cx} {κ α:Type} {c:κ→Value} {d:α→Value} {b q clock:Nat} {xs:List (κ×α)} {es:Array MapEntry} {e:Env} {L:List HP} {J:ql κ α}
theorem aK.Wo(c:κ→Value)(d:α→Value){T kt et:TypeId}{x:Operand}(hT:X.P.underlying T=some (.map kt et))(hx:ev e x=some (.map (some b)))(hM:∀w,St X L w→w.heap[b]?=some (.map es clock)):
  aK X (.range T x) e L (fun v L'=>∃q,v=.pointer (some ⟨q,0,none⟩)∧L'=ub q b clock ([]:ql κ α)::L):=fun ac w ha hw dst ty pos after guard=>by
 have h1:=hM w hw
 refine .inl ⟨_,w.alloc (.mapIter (some b) clock #[] clock),_,?_,⟨w.heap.size,Z,Z⟩,?_⟩
 ·simp[execOp,ha.ev hx,Instr.range,run_underlying hT,newObj,Sem.run,MapKept.run_getObj_map h1]
 ·exact⟨hw.sat.alloc hw.rJ _ _ ⟨rfl,heap_alloc_new w _⟩,hw.cP.trans (eL.alloc hw.rJ _),hw.low⟩
theorem St.Ja{w:World}(h:St X L w){i:Nat}(hL:L[i]?=some (ub q b clock J)):w.heap[q]?=some (.mapIter (some b) clock (ou J) clock)∧¬X.Fr q:=by
 obtain⟨F,hs,_,hb⟩:=h.sat
 obtain⟨ids,h1,h2⟩:=hs.get hL
 obtain⟨rfl,h1⟩:=h1
 exact⟨h1,(hb q (h2 q yi)).1⟩
theorem aK.dX{it:Operand}(i:Nat)(hx:ev e it=some (.pointer (some ⟨q,0,none⟩)))(hL:L[i]?=some (ub q b clock J))(hM:∀w,St X L w→w.heap[b]?=some (.map es clock))(hz:nP c d xs es clock)(ok:lf c d xs es J):
  aK X (.next it false) e L (fun v L'=>(v=.tuple #[.bool false]∧L'=L∧(J.map Prod.snd).Perm xs)∨∃z,v=.tuple #[.bool true,c z.2.1,d z.2.2]∧z.2∈xs∧z∈es.toList.zip xs∧lf c d xs es (J ++ [z])∧L'=L.set i (ub q b clock (J ++ [z]))):=fun ac w ha hw dst ty pos after guard=>by
 have h1:=hM w hw
 obtain⟨h3,hf⟩:=hw.Ja hL
 have hids:∀ids w,(ub q b clock J).sat ids w→ids=[q]:=fun _ _ h=>h.1
 rcases run_next_at (P:=X.P) w ty q b clock clock (ou J) es clock h3 h1 hz.st.1 (NR _) with ⟨h4,h5⟩ | ⟨m,hm,w1,hw1,h5⟩
 ·refine .inl ⟨_,w,L,?_,.inl ⟨rfl,Z,hz.all ok h4⟩,hw⟩
  simp only[execOp,ha.ev hx]
  rw[Sem.run_bind,h5];rfl
 ·have hm2:m∈es.toList∧m.born∉J.map fun z=>z.1.born:=by
   unfold leftOf at hm
   simpa[ou] using hm
  obtain⟨x,hzx⟩:=hz.zip hm2.1
  obtain⟨k1,k2,k3,k4⟩:=hz.kv hzx
  have ok2:lf c d xs es (J ++ [(m,x)]):=⟨fun z hz'=>by
    rcases eP.1 hz' with h | h
    ·exact ok.sub z h
    ·obtain rfl:=fe.1 h;exact hzx,by
    rw[gn]
    exact nN.2 ⟨ok.nd,by simp,fun a ha b hb e=>by simp at hb;subst hb;subst e;exact hm2.2 ha⟩⟩
  have hst1:St X L w1:=by rcases hw1 with rfl | rfl;exact hw;exact hw.drew
  have h31:w1.heap[q]?=some (.mapIter (some b) clock (ou J) clock):=by rcases hw1 with rfl | rfl<;>exact h3
  refine .inl ⟨_,dZ w1 q (.mapIter (some b) clock ((ou J).push m.born) clock),_,?_,.inr ⟨(m,x),Z,k2,hzx,ok2,Z⟩,hst1.qL hL hids h31 hf ⟨rfl,?_⟩⟩
  ·simp only[execOp,ha.ev hx]
   rw[Sem.run_bind,h5]
   dsimp only at k3 k4
   rw[k3,k4];rfl
  ·rw[←MS J (m,x)];exact rD h31
theorem aK.RN{it:Operand}(i:Nat){z:MapEntry×(κ×α)}(hx:ev e it=some (.pointer (some ⟨q,0,none⟩)))(hL:L[i]?=some (ub q b clock (J ++ [z])))(hM:∀w,St X L w→w.heap[b]?=some (.map es clock))(hz:nP c d xs es clock)(hzz:z∈es.toList.zip xs):
  aK X (.entry it) e L (fun v L'=>v=.tuple #[c z.2.1,d z.2.2]∧L'=L):=fun ac w ha hw dst ty pos after guard=>by
 have h1:=hM w hw
 obtain⟨h3,hf⟩:=hw.Ja hL
 obtain⟨k1,k2,k3,k4⟩:=hz.kv hzz
 refine .inl ⟨_,w,_,?_,⟨rfl,Z⟩,hw⟩
 have h4:w.heap[q]?=some (.mapIter (some b) clock ((ou J).push z.1.born) clock):=by rw[MS];exact h3
 simp only[execOp,ha.ev hx]
 rw[Sem.run_bind,run_entry_at w q b clock (ou J) es clock z.1 h4 h1 k1 hz.st.2.1,k3,k4];rfl
end
end Vg
namespace Cl
open Go Vg T Api Ch
attribute [local irreducible] VO VC VA
theorem rF:∀(k:Nat) (s:Bs),gL (k+1) s=(gL k s).bind fun p=>(cd p.2).map fun u=>(p.1 ++ [u.1],u.2)
 | 0,s=>by
  rw[gL,gL]
  cases h:cd s with
  | none=>simp[h]
  | some x=>simp[h,gL]
 | k+1,s=>by
  rw[gL,gL]
  cases h:cd s with
  | none=>rfl
  | some x=>
   dsimp only
   rw[rF k x.2]
   cases h2:gL k x.2 with
   | none=>rfl
   | some y=>
    simp only[jS]
    cases h3:cd y.2 with
    | none=>rfl
    | some z=>rfl
theorem FT{s:Bs}{k:Nat}(h:gL k s=none):∀j,gL (k+j) s=none
 | 0=>h
 | j+1=>by rw[←Nat.add_assoc,rF,FT h j];rfl
theorem Lw{a b:Int}:∀(k:Nat) (l:List Int),l.length=2*k→pL (l ++ [a,b])=pL l ++ [(a,b)]
 | 0,l,h=>by
  obtain rfl:l=[]:=iC h
  rfl
 | k+1,l,h=>by
  match l,h with
  | x::y::l,h=>
   rw[uM,uM,pL,pL,Lw k l (by simp at h;omega),uM]
  | [x],h=>simp at h;omega
  | [],h=>simp at h
theorem Ui{ms:List aS}{k:Nat}{m:aS}(h:ms[k]?=some m):(flat aD ms)[0+k*2]?=some (.int .i64 m.1):=by
 have:=oN cu (j:=0) h rfl []
 rw[br] at this
 rw[cj];exact this
theorem Uj{ms:List aS}{k:Nat}{m:aS}(h:ms[k]?=some m):(flat aD ms)[0+k*2+1]?=some (.int .i64 m.2):=by
 have:=oN cu (j:=1) h rfl []
 rw[br] at this
 rw[cj];exact this
theorem Uk{ms:List aS}{k:Nat}{m:aS}(x:Int)(h:ms[k]?=some m):(flat aD ms).set (0+k*2) (.int .i64 x)=flat aD (ms.set k (x,m.2)):=by
 have:=u_ cu (j:=0) (a':=(x,m.2)) h yy rfl []
 rw[br,br] at this
 rw[cj];exact this
theorem Ul{ms:List aS}{k:Nat}{m:aS}(x:Int)(h:ms[k]?=some m):(flat aD ms).set (0+k*2+1) (.int .i64 x)=flat aD (ms.set k (m.1,x)):=by
 have:=u_ cu (j:=1) (a':=(m.1,x)) h yy rfl []
 rw[br,br] at this
 rw[cj];exact this
structure EN(ok:Bool)(r:Bs)(ok':Bool)(k:Int)(q:Bs):Prop where
 len:q.length≤r.length
 t:ok'=true→ok=true∧cd r=some (k,q)
 f:ok'=false→ok=false∨cd r=none
abbrev zr:TypeId:=4
abbrev qO:TypeId:=9
def qJ(pb okb rb:Nat)(T:TypeId)(cs:List Value)(ok:Bool)(r:Bs):List HP:=[pt pb cs T,pt okb [.bool ok] zr,pt rb [.string (bT r)] qO]
theorem Aq{pb off okb rb:Nat}{T:TypeId}{cs:List Value}{ok:Bool}{r:Bs}{k0:Int}(h0:cs[off]?=some (.int .i64 k0))(hr:r.length≤1000000):
  ax Tryz.prog 274 [.pointer (some ⟨pb,off,none⟩),.pointer (some ⟨okb,0,none⟩),.pointer (some ⟨rb,0,none⟩)] Fr w (qJ pb okb rb T cs ok r)
   (fun v L=>v=.tuple #[]∧∃k q ok',EN ok r ok' k q∧L=qJ pb okb rb T (cs.set off (.int .i64 k)) ok' q):=by
 have hlt:off<cs.length:=(bP.1 h0).1
 have hself:cs.set off (.int .i64 k0)=cs:=by
  refine qe fun j=>?_
  by_cases h:off=j
  ·subst h;rw[iR hlt,h0]
  ·rw[lU h]
 unfold qJ
 refine TF 13 Tryz.func274 Z yp aC Z Z ?_
 refine CS (CG (VG (VO.ld 1 Z Z Z Z ?_)))
 refine ae ?_
 refine CC Z (fun h=>?_) (fun h=>CK ?_)
 rotate_left
 ·exact an.void rfl ER ⟨rfl,k0,r,ok,⟨NR _,fun h2=>(by rw[h] at h2;cases h2),fun _=>.inl h⟩,by rw[hself]⟩
 subst h
 obtain⟨k,q,ok',hv,hql,hk1,hk2⟩:=DG r
 refine ae ?_
 refine VG (VO.ld 2 Z Z Z Z ?_)
 refine VG (VV (fun Fr w hF hw _=>hv▸DI Fr w r hr) Z ?_)
 refine ae ?_
 refine VG (VO.st 0 (cs':=cs.set off (.int .i64 k)) Z Z Z Z hlt Z Z ?_)
 refine VG (VO.st 2 (cs':=[.string (bT q)]) Z Z Z Z uS Z Z ?_)
 refine VG (VO.st 1 (cs':=[.bool ok']) Z Z Z Z uS Z Z ?_)
 refine ae ?_
 exact an.void Z ER ⟨rfl,k,q,ok',⟨hql,fun h=>⟨rfl,hk1 h⟩,fun h=>.inr (hk2 h)⟩,Z⟩
structure LI(n:Nat)(r0:Bs)(N:Nat)(x:Nat×List aS×Bs×Bool):Prop where
 k:x.1≤n
 ms:x.2.1.length=n
 len:x.2.2.1.length≤N
 t:x.2.2.2=true→∃l,gL (2*x.1) r0=some (l,x.2.2.1)∧x.2.1.take x.1=pL l∧l.length=2*x.1
 f:x.2.2.2=false→gL (2*n) r0=none
theorem LI.next{n N k:Nat}{r0 r q p:Bs}{ms:List aS}{ok ok1 ok2:Bool}{a b:Int}{m:aS}(h:LI n r0 N (k,ms,r,ok))(hk:k<n)(h1:EN ok r ok1 a q)(h2:EN ok1 q ok2 b p):LI n r0 N (k+1,ms.set k (a,b),p,ok2):=by
 have hl:=h.ms
 have hlen:=h.len
 have l1:=h1.len
 have l2:=h2.len
 dsimp only at hl hlen
 have step:∀l,gL (2*k) r0=some (l,r)→gL (2*k+1) r0=(cd r).map fun u=>(l ++ [u.1],u.2):=fun l hl=>by rw[rF,hl];rfl
 refine⟨hk,by simp[hl],by dsimp only;omega,fun e=>?_,fun e=>?_⟩
 ·obtain⟨e1,u2⟩:=h2.t e
  obtain⟨e0,u1⟩:=h1.t e1
  obtain⟨l,hi,ht,hll⟩:=h.t e0
  dsimp only at hi ht hll ⊢
  refine⟨l ++ [a,b],?_,?_,by simp[hll];omega⟩
  ·rw[show 2*(k+1)=2*k+1+1 from by omega,rF,step l hi,u1]
   simp[u2]
  ·rw[Lw k l hll,←ht,fX,iR yg,List.take_set_of_le (NR _)];rfl
 ·show gL (2*n) r0=none
  have two:∀j,2*k+j≤2*n→gL (2*k+j) r0=none→gL (2*n) r0=none:=fun j hj hn=>by
   have:=FT hn (2*n-(2*k+j))
   rwa[show 2*k+j+(2*n-(2*k+j))=2*n from by omega] at this
  by_cases e0:ok=true
  rotate_left
  ·exact h.f (by simpa using e0)
  obtain⟨l,hi,_,_⟩:=h.t e0
  by_cases e1:ok1=true
  rotate_left
  ·rcases h1.f (by simpa using e1) with g | g
   ·rw[g] at e0;cases e0
   ·exact two 1 yg (by rw[step l hi,g];rfl)
  ·obtain⟨_,u1⟩:=h1.t e1
   rcases h2.f e with g | g
   ·rw[g] at e1;cases e1
   ·exact two 2 yg (by rw[rF,step l hi,u1];simp[g])
end Cl
namespace Cl
open Go Vg T Api Ch
attribute [local irreducible] VO VC VA
def lj:List Value:=[.int .i64 0,.slice none 0 0,.int .i64 0]
def QS(o:Option aV)(v:Value)(L:List HP):Prop:=match o with
 | some c=>∃a cap,v=.tuple #[.agg (c.cells a cap).toArray,.int .i64 0]∧L=[aq aP 2 a c.ms.length cap (flat aD c.ms)]
 | none=>v=.tuple #[.agg lj.toArray,.int .i64 10]∧L=[]
theorem Su{s:Bs}(h:cd s=none):jJ s=none:=by unfold jJ;rw[h]
theorem Sv{s r:Bs}{k:Int}(h:cd s=some (k,r))(h2:cd r=none):jJ s=none:=by unfold jJ;rw[h];dsimp only;rw[h2]
theorem Kx{s r q:Bs}{k z:Int}(h:cd s=some (k,r))(h2:cd r=some (z,q))(h3:z<1∨6<z):jJ s=none:=by unfold jJ;rw[h];dsimp only;rw[h2];dsimp only;rw[if_pos h3]
theorem Sy{s r q:Bs}{k:Int}{n:Nat}(h:cd s=some (k,r))(h2:cd r=some ((n:Int),q))(h3:1≤n∧n≤6):jJ s=match gL (2*n) q with
   | none=>none
   | some (l,r)=>match cd r with
    | none=>none
    | some (dr,r)=>if r=[]∧eN ⟨k,pL l,dr⟩=0 then some ⟨k,pL l,dr⟩ else none:=by
 unfold jJ;rw[h];dsimp only;rw[h2];dsimp only;rw[if_neg yg];rfl
abbrev zT:TypeId:=3
def dC(ep:Int)(a:Value)(dr:Int):List Value:=[.int .i64 ep,a,.int .i64 dr]
theorem QT(s:Bs)(hs:s.length≤1000000):ax Tryz.prog 238 [.string (bT s)] Fr w [] (QS (jJ s)):=by
 refine TF 68 Tryz.func238 Z yp aC Z Z ?_
 refine CS (CG (VG (VO.alloc Z fun b2=>?_)))
 refine ae ?_
 refine VG (VO.alloc Z fun b4=>?_)
 refine ae ?_
 refine VG (VO.alloc Z fun b5=>?_)
 refine VG (VO.alloc Z fun b6=>?_)
 refine VG (VO.alloc Z fun b7=>?_)
 refine VG (VO.st 2 (cs':=[.string (bT s)]) Z Z Z Z uS Z Z ?_)
 refine VG (VO.st 1 (cs':=[.bool true]) Z Z Z Z uS Z Z ?_)
 refine VG (VO.st 0 (cs':=[.int .i64 0]) Z Z Z Z uS Z Z ?_)
 refine ae ?_
 refine VG (VI (zY (u:=[]) (v:=[.pointer (some ⟨b6,0,none⟩),.pointer (some ⟨b5,0,none⟩)]) Z Z) ?_)
 refine ae ?_
 refine VO.aj (L':=qJ b4 b6 b5 cM (dC 0 (.slice none 0 0) 0) true s ++ [pt b7 [.int .i64 0] zT,pt b2 lj cM]) (bb [3,1,1,0,0]).aj ?_
 refine VG (VO.mG (Lc:=qJ b4 b6 b5 cM (dC 0 (.slice none 0 0) 0) true s) (Lr:=[pt b7 [.int .i64 0] zT,pt b2 lj cM]) Z (fun Fr w hF hw _=>Aq Fr w (k0:=0) Z hs) Z Z ?_)
 rintro _ _ ⟨rfl,k1,r1,ok1,i1,rfl⟩
 have n1:=i1.len
 refine ae ?_
 refine VO.aj (L':=qJ b7 b6 b5 zT [.int .i64 0] ok1 r1 ++ [pt b4 (dC k1 (.slice none 0 0) 0) cM,pt b2 lj cM]) (bb [3,1,1,0,0]).aj ?_
 refine VG (VO.mG (Lc:=qJ b7 b6 b5 zT [.int .i64 0] ok1 r1) (Lr:=[pt b4 (dC k1 (.slice none 0 0) 0) cM,pt b2 lj cM]) Z (fun Fr w hF hw _=>Aq Fr w (k0:=0) Z yg) Z Z ?_)
 rintro _ _ ⟨rfl,z,r2,ok2,i2,rfl⟩
 have n2:=i2.len
 show VO _ _ _ _ _ [pt b7 [.int .i64 z] zT,pt b6 [.bool ok2] zr,pt b5 [.string (bT r2)] qO,pt b4 (dC k1 (.slice none 0 0) 0) cM,pt b2 lj cM] _
 refine ae ?_
 refine vQ ?_
 cases ok2 with
 | false=>
  have hn:jJ s=none:=by
   by_cases e1:ok1=true
   ·obtain⟨_,u1⟩:=i1.t e1
    rcases i2.f rfl with g | g
    ·rw[g] at e1;cases e1
    ·exact Sv u1 g
   ·rcases i1.f (by simpa using e1) with g | g
    ·cases g
    ·exact Su g
  refine av ?_
  refine VG (VY 19 true Z Z ?_)
  refine av ?_
  refine VG (VY 23 true Z Z ?_)
  refine oy ?_
  refine yQ ?_
  exact yB
 | true=>
 obtain⟨e1,u2⟩:=i2.t rfl
 obtain⟨_,u1⟩:=i1.t e1
 clear i1 i2
 refine av ?_
 refine VG (VY 19 false Z Z ?_)
 refine bG ?_
 by_cases h1:z<1
 ·have hn:jJ s=none:=Kx u1 u2 (.inl h1)
  refine VG (VY 23 true Z (DT h1) ?_)
  refine oy ?_
  refine yQ ?_
  exact yB
 refine VG (VY 23 false Z (DF h1) ?_)
 refine bG ?_
 refine CP (p:=6<z) Z (fun h2=>?_) (fun h2=>CK ?_)
 ·have hn:jJ s=none:=Kx u1 u2 (.inr h2)
  refine ae ?_
  refine yQ ?_
  exact yB
 obtain⟨n,rfl⟩:∃n:Nat,z=n:=⟨z.toNat,by omega⟩
 have hG:=Sy u1 u2 yg
 clear u1 u2 e1
 refine al ?_
 refine VG (VO.makeSlice n Z Z Z Z Z Z Z yg (by show 16*n≤_;omega) fun mb=>?_)
 rw[show(List.replicate n T.t99.zs).flatten=flat aD (List.replicate n (0,0)) from Ks (c:=aD) n (0,0)]
 refine ae ?_
 refine VG (VO.st 4 (cs':=dC k1 (.slice (some ⟨mb,0,none⟩) n n) 0) Z Z Z Z uF Z Z ?_)
 refine ox ?_
 refine VC.loop (σ:=Nat×List aS×Bs×Bool) (fun x=>[(2,pV b2),(4,pV b4),(5,pV b5),(6,pV b6),(8,f_ 274 [] [.pointer (some ⟨b6,0,none⟩),.pointer (some ⟨b5,0,none⟩)]),(33,.int .i64 n),(34,.int .i64 (x.1:Int))])
  (fun x=>[pt mb (flat aD x.2.1) aP,pt b6 [.bool x.2.2.2] zr,pt b5 [.string (bT x.2.2.1)] qO,pt b4 (dC k1 (.slice (some ⟨mb,0,none⟩) n n) 0) cM,pt b2 lj cM]) (LI n r2 s.length) (fun x=>n-x.1) (0,List.replicate n (0,0),r2,true)
  ⟨bH _,by simp,by dsimp only;omega,fun _=>⟨[],rfl,rfl,rfl⟩,fun h=>(qd h.symm).elim⟩ aH (bb [0,1,1,1,1]).aj ?_
 rintro⟨k,ms,r,ok⟩ hI
 have hk:=hI.k
 have hml:=hI.ms
 have hrl:=hI.len
 dsimp only at hk hml hrl ⊢
 refine ae ?_
 refine CP (p:=(k:Int)<n) Z (fun h3=>CK ?_) (fun h3=>CX ?_)
 ·obtain⟨m,hm⟩:∃m,ms[k]?=some m:=⟨_,GE yg⟩
  refine Ig ?_
  refine xW ?_
  refine ae ?_
  refine VG (VO.mG (Lc:=qJ mb b6 b5 aP (flat aD ms) ok r) (Lr:=[pt b4 (dC k1 (.slice (some ⟨mb,0,none⟩) n n) 0) cM,pt b2 lj cM]) Z (fun Fr w hF hw _=>Aq Fr w (Ui hm) yg) Z Z ?_)
  rintro _ _ ⟨rfl,x,q,ok1,i1,rfl⟩
  have n1:=i1.len
  rw[Uk x hm]
  have hm2:(ms.set k (x,m.2))[k]?=some (x,m.2):=iR yg
  show VO _ _ _ _ _ [pt mb (flat aD (ms.set k (x,m.2))) aP,pt b6 [.bool ok1] zr,pt b5 [.string (bT q)] qO,pt b4 (dC k1 (.slice (some ⟨mb,0,none⟩) n n) 0) cM,pt b2 lj cM] _
  refine Ig ?_
  refine xW ?_
  refine ae ?_
  refine VG (VO.mG (Lc:=qJ mb b6 b5 aP (flat aD (ms.set k (x,m.2))) ok1 q) (Lr:=[pt b4 (dC k1 (.slice (some ⟨mb,0,none⟩) n n) 0) cM,pt b2 lj cM]) Z (fun Fr w hF hw _=>Aq Fr w (Uj hm2) yg) Z Z ?_)
  rintro _ _ ⟨rfl,y,p,ok2,i2,rfl⟩
  rw[Ul y hm2,wj]
  refine gC ?_
  exact⟨(k+1,ms.set k (x,y),p,ok2),hI.next (m:=m) yg i1 i2,by dsimp only;omega,SC Z (SC Z (SC Z (SC Z (SC Z (SC Z (Sub.int Z fB (SN _))))))),ER⟩
 obtain rfl:k=n:=by omega
 refine ae ?_
 refine VO.aj (L':=qJ b4 b6 b5 cM (dC k1 (.slice (some ⟨mb,0,none⟩) k k) 0) ok r ++ [pt mb (flat aD ms) aP,pt b2 lj cM]) (bb [3,1,1,0,0]).aj ?_
 refine VG (VO.mG (Lc:=qJ b4 b6 b5 cM (dC k1 (.slice (some ⟨mb,0,none⟩) k k) 0) ok r) (Lr:=[pt mb (flat aD ms) aP,pt b2 lj cM]) Z (fun Fr w hF hw _=>Aq Fr w (off:=2) (k0:=0) Z yg) Z Z ?_)
 rintro _ _ ⟨rfl,dr,q,ok3,i3,rfl⟩
 have n3:=i3.len
 show VO _ _ _ _ _ [pt b4 (dC k1 (.slice (some ⟨mb,0,none⟩) k k) dr) cM,pt b6 [.bool ok3] zr,pt b5 [.string (bT q)] qO,pt mb (flat aD ms) aP,pt b2 lj cM] _
 refine ae ?_
 refine vQ ?_
 cases ok3 with
 | false=>
  have hn:jJ s=none:=by
   rw[hG]
   by_cases e1:ok=true
   ·obtain⟨l,hl,_,_⟩:=hI.t e1
    dsimp only at hl
    rw[hl]
    rcases i3.f rfl with g | g
    ·rw[g] at e1;cases e1
    ·dsimp only;rw[g]
   ·rw[hI.f (by simpa using e1)]
  refine av ?_
  refine VG (VY 57 true Z Z ?_)
  refine av ?_
  refine VG (VY 61 true Z Z ?_)
  refine oy ?_
  refine yQ ?_
  exact yB
 | true=>
 obtain⟨e1,u1⟩:=i3.t rfl
 obtain⟨l,hl,ht,hll⟩:=hI.t e1
 dsimp only at hl ht hll
 rw[hl] at hG
 dsimp only at hG
 rw[u1] at hG
 dsimp only at hG
 rw[qg yg] at ht
 rw[←ht] at hG
 refine av ?_
 refine VG (VY 57 false Z Z ?_)
 refine gO ?_
 by_cases hq:q=[]
 rotate_left
 ·have hn:jJ s=none:=by rw[hG,if_neg (fun h=>hq h.1)]
  refine VG (VY 61 true Z (by rw[show(ByteArray.mk #[])=bT [] from Z,ri,DF hq];rfl) ?_)
  refine oy ?_
  refine yQ ?_
  exact yB
 refine VG (VY 61 false Z (by rw[show(ByteArray.mk #[])=bT [] from Z,ri,DT hq];rfl) ?_)
 refine av ?_
 have hdc:dC k1 (.slice (some ⟨mb,0,none⟩) k k) dr=(aV.mk k1 ms dr).cells (some ⟨mb,0,none⟩) k:=by unfold dC aV.cells;rw[hml]
 rw[hdc]
 refine O2 ?_
 refine VG (VV (fun Fr w hF hw hS=>Ch.gv Fr w (aT.aA (off:=0) (hS.aA 3 Z) (fun i x hx=>by have:=oO cu hx [];rw[br] at this;rw[cj];exact this)) (by rw[hml];omega)) Z ?_)
 refine av ?_
 refine VC.dp Z (fun hc=>?_) (fun hc=>CK ?_)
 ·have hn:jJ s=none:=by rw[hG,if_neg (fun h=>hc h.2)]
  refine ae ?_
  refine yQ ?_
  exact yB
 rw[if_pos ⟨hq,hc⟩] at hG
 refine av ?_
 refine O2 ?_
 refine VG (VT (vs:=(aV.mk k1 ms dr).cells (some ⟨mb,0,none⟩) k) (cs':=(aV.mk k1 ms dr).cells (some ⟨mb,0,none⟩) k) 4 Z Z Z Z (NR _) Z Z Z ?_)
 refine av ?_
 refine CR (an.dt 2 3 Z Z Z (aw.many (ds:=(aV.mk k1 ms dr).cells (some ⟨mb,0,none⟩) k) 4 Z Z) Z (L':=[aq aP 2 (some ⟨mb,0,none⟩) ms.length k (flat aD ms)]) ?_ (by rw[hG];exact⟨_,_,Z,Z⟩))
 have hsl:aa [pt mb (flat aD ms ++ []) aP] [aq aP 2 (some ⟨mb,0,none⟩) ms.length k (flat aD ms)]:=aa.sl (eu cu ms) yg (by rw[br,eu cu];omega) aa.refl
 rw[br] at hsl
 exact((IP 3 Z aa.nil).trans hsl).aj
end Cl
namespace Cl
open Go Vg T Api Ch
attribute [local irreducible] VO VC VA
abbrev gK:TypeId:=188
abbrev jK:TypeId:=224
def gz(fb:Nat)(o:Nat):List Value:=[.pointer (some ⟨fb,o,none⟩)]
theorem vx(fb o:Nat):(gz fb o).length=1:=rfl
abbrev vh(n:Int):List Value:=[.int .i64 n]
theorem Hv{a:Option Addr}{c:Nat}{ns:List Int}(h:aT vh 1 Fr w a ns)(hl:ns.length≤1000):ax Tryz.prog 215 [.slice a ns.length c] Fr w [] (fun v L=>v=.bool (ns.all gd)∧L=[]):=by
 refine TF 18 Tryz.func215 Z yp aC Z Z ?_
 refine ae ?_
 refine VC.loop (σ:=Nat) (fun k=>[(5,.slice a ns.length c),(6,.int .i64 ns.length),(7,.int .i64 (k:Int))]) (fun _=>[]) (fun k=>k≤ns.length∧(ns.take k).all gd=true) (fun k=>ns.length-k) 0
  ⟨bH _,by rw[qi];rfl⟩ aH ER ?_
 rintro k ⟨hk,hall⟩
 refine ae ?_
 refine CP (p:=(k:Int)<ns.length) Z (fun h1=>CK ?_) (fun h1=>CX ?_)
 rotate_left
 ·rw[qg yg] at hall
  refine ae ?_
  exact CR (an.tmp 2 Z Z ER ⟨by rw[hall],Z⟩)
 obtain⟨x,hx⟩:∃x,ns[k]?=some x:=⟨_,GE yg⟩
 obtain⟨xb,xo,hxa,ra,rc⟩:=aT.rd (X:=⟨Tryz.prog,tab,aC,18,Fr,w⟩) h hx
 subst hxa
 have bad:gd x=false→ns.all gd=false:=fun hb=>by
  rw[yT]
  exact⟨x,ME hx,by rw[hb];decide⟩
 refine p_ ?_
 refine xU ?_
 refine ae ?_
 by_cases h2:x<0
 ·refine VG (VY 13 true Z (DT h2) ?_)
  refine oy ?_
  exact CR (an.tmp 2 Z Z ER ⟨by rw[bad (DF yg)],Z⟩)
 refine VG (VY 13 false Z (DF h2) ?_)
 refine av ?_
 refine CP (p:=1099511627776<x) Z (fun h3=>?_) (fun h3=>CK ?_)
 ·refine ae ?_
  exact CR (an.tmp 2 Z Z ER ⟨by rw[bad (DF yg)],Z⟩)
 refine gC ?_
 refine⟨k+1,⟨by omega,?_⟩,by dsimp only;omega,SC Z (SC Z (Sub.int Z yg (SN _))),ER⟩
 rw[fX,hx,List.all_append,hall]
 have:gd x=true:=DT yg
 simp[this]
def LQ(fb:Nat)(os:List Nat)(v:Value)(L:List HP):Prop:=∃a c,v=.slice a os.length c∧L=[aq jK 1 a os.length c (flat (gz fb) os)]
theorem Gu{fb:Nat}{f:aB}{g:jk}(h:bq Fr w fb (f.cells g)):ax Tryz.prog 146 [.pointer (some ⟨fb,0,none⟩)] Fr w [] (LQ fb (fv f.kind)):=by
 have fin:∀{X:Cx} {E:Env} {fn:Func} {b:Nat} (os:List Nat),fn.results=#[.tmp 2]→Vg.look E 2=some (.slice (some ⟨b,0,none⟩) os.length os.length)→fv f.kind=os→an X fn (LQ fb (fv f.kind)) E [pt b (flat (gz fb) os) jK]:=fun os h1 h2 h3=>
  an.tmp 2 h1 h2 (aa.Di (by rw[eu (vx fb)]) aa.refl).aj (by rw[h3];exact⟨_,_,rfl,rfl⟩)
 refine TF 92 Tryz.func146 Z yp aC Z Z ?_
 refine ae ?_
 refine VG (VD Z Z (aw.aA h Z) ?_)
 refine ae ?_
 refine CE Z (fun h1=>?_) (fun h1=>?_)
 ·refine ae ?_
  refine CD (ts 0 18 (.only 18 (.take 19 .nil))) yp yr ?_
  refine cX ?_
  refine AG (AO (aK.buildSlice (n:=6) (pv:=[(0,.pointer (some ⟨fb,1,none⟩)),(1,.pointer (some ⟨fb,2,none⟩)),(2,.pointer (some ⟨fb,3,none⟩)),(3,.pointer (some ⟨fb,4,none⟩)),(4,.pointer (some ⟨fb,5,none⟩)),(5,.pointer (some ⟨fb,6,none⟩))]) (cells:=flat (gz fb) [1,2,3,4,5,6]) rfl rfl rfl rfl yy rfl) rfl (fun v L' g=>by obtain⟨b,rfl,rfl⟩:=g;exact kp) ?_)
  rintro _ _ ⟨b,rfl,rfl⟩
  refine cX ?_
  exact CR (fin [1,2,3,4,5,6] Z Z (by rw[h1];rfl))
 refine ae ?_
 refine CE Z (fun h2=>?_) (fun h2=>?_)
 ·refine ae ?_
  refine CD (ts 0 9 (.only 9 (.take 10 .nil))) yp yr ?_
  refine cX ?_
  refine AG (AO (aK.buildSlice (n:=3) (pv:=[(0,.pointer (some ⟨fb,2,none⟩)),(1,.pointer (some ⟨fb,3,none⟩)),(2,.pointer (some ⟨fb,4,none⟩))]) (cells:=flat (gz fb) [2,3,4]) rfl rfl rfl rfl yy rfl) rfl (fun v L' g=>by obtain⟨b,rfl,rfl⟩:=g;exact kp) ?_)
  rintro _ _ ⟨b,rfl,rfl⟩
  refine cX ?_
  exact CR (fin [2,3,4] Z Z (by rw[h2];rfl))
 refine ae ?_
 refine CE Z (fun h3=>?_) (fun h3=>?_)
 ·refine ae ?_
  refine CD (ts 0 15 (.only 15 (.take 16 .nil))) yp yr ?_
  refine cX ?_
  refine AG (AO (aK.buildSlice (n:=5) (pv:=[(0,.pointer (some ⟨fb,1,none⟩)),(1,.pointer (some ⟨fb,2,none⟩)),(2,.pointer (some ⟨fb,3,none⟩)),(3,.pointer (some ⟨fb,4,none⟩)),(4,.pointer (some ⟨fb,15,none⟩))]) (cells:=flat (gz fb) [1,2,3,4,15]) rfl rfl rfl rfl yy rfl) rfl (fun v L' g=>by obtain⟨b,rfl,rfl⟩:=g;exact kp) ?_)
  rintro _ _ ⟨b,rfl,rfl⟩
  refine cX ?_
  exact CR (fin [1,2,3,4,15] Z Z (by rw[h3];rfl))
 refine CS (VC.bZ (σ:=Bool) (fun x=>[(0,pV fb),(6,.int .i64 f.kind),(58,.bool x)]) (fun _=>[]) (fun x=>x=(decide (f.kind=4)||decide (f.kind=12))) ?_ ?_)
 ·refine ae ?_
  refine CE Z (fun h4=>CK ?_) (fun h4=>?_)
  ·exact⟨true,by rw[DT h4];rfl,SC Z (SC Z (Sub.bl Z (by rw[h4];rfl) (SN _))),ER⟩
  ·refine ae ?_
   exact⟨decide (f.kind=12),by rw[DF h4];rfl,SC Z (SC Z (Sub.bl Z Z (SN _))),ER⟩
 rintro x hx
 refine ae ?_
 refine CC Z (fun h4=>?_) (fun h4=>?_)
 ·have hk:f.kind=4∨f.kind=12:=by rw[hx] at h4;simpa using h4
  refine ae ?_
  refine VG (VO.buildSlice (n:=1) (pv:=[(0,.pointer (some ⟨fb,1,none⟩))]) (flat (gz fb) [1]) Z Z Z Z yy Z fun b=>?_)
  refine ae ?_
  exact CR (fin [1] rfl rfl (by rcases hk with e | e<;>rw[e]<;>rfl))
 have hk:f.kind≠4∧f.kind≠12:=by rw[hx] at h4;simpa using h4
 refine ae ?_
 refine CE Z (fun h5=>?_) (fun h5=>?_)
 ·refine ae ?_
  refine CD (ts 0 12 (.only 12 (.take 13 .nil))) yp yr ?_
  refine cX ?_
  refine AG (AO (aK.buildSlice (n:=4) (pv:=[(0,.pointer (some ⟨fb,1,none⟩)),(1,.pointer (some ⟨fb,26,none⟩)),(2,.pointer (some ⟨fb,27,none⟩)),(3,.pointer (some ⟨fb,28,none⟩))]) (cells:=flat (gz fb) [1,26,27,28]) rfl rfl rfl rfl yy rfl) rfl (fun v L' g=>by obtain⟨b,rfl,rfl⟩:=g;exact kp) ?_)
  rintro _ _ ⟨b,rfl,rfl⟩
  refine cX ?_
  exact CR (fin [1,26,27,28] Z Z (by rw[h5];rfl))
 refine CS (VC.bZ (σ:=Bool) (fun x=>[(0,pV fb),(6,.int .i64 f.kind),(80,.bool x)]) (fun _=>[]) (fun x=>x=true↔(f.kind=6∨f.kind=9∨f.kind=10∨f.kind=11)) ?_ ?_)
 ·refine ae ?_
  refine CE Z (fun h6=>CK ?_) (fun h6=>?_)
  ·exact⟨true,by simp[h6],SC Z (SC Z (Sub.bl Z (by rw[h6];rfl) (SN _))),ER⟩
  refine ae ?_
  refine CE Z (fun h7=>CK ?_) (fun h7=>?_)
  ·exact⟨true,by simp[h7],SC Z (SC Z (Sub.bl Z (by rw[h7];rfl) (SN _))),ER⟩
  refine ae ?_
  refine CE Z (fun h8=>CK ?_) (fun h8=>?_)
  ·exact⟨true,by simp[h8],SC Z (SC Z (Sub.bl Z (by rw[h8];rfl) (SN _))),ER⟩
  refine ae ?_
  exact⟨decide (f.kind=11),by simp[h6,h7,h8],SC Z (SC Z (Sub.bl Z Z (SN _))),ER⟩
 rintro y hy
 refine ae ?_
 refine CC Z (fun h6=>?_) (fun h6=>CK ?_)
 ·have hk2:=hy.1 h6
  refine ae ?_
  refine D_ ?_
  refine cX ?_
  refine AG (AO (aK.buildSlice (n:=2) (pv:=[(0,.pointer (some ⟨fb,1,none⟩)),(1,.pointer (some ⟨fb,26,none⟩))]) (cells:=flat (gz fb) [1,26]) rfl rfl rfl rfl yy rfl) rfl (fun v L' g=>by obtain⟨b,rfl,rfl⟩:=g;exact kp) ?_)
  rintro _ _ ⟨b,rfl,rfl⟩
  refine cX ?_
  exact CR (fin [1,26] rfl rfl (by rcases hk2 with e | e | e | e<;>rw[e]<;>rfl))
 have hk2:¬(f.kind=6∨f.kind=9∨f.kind=10∨f.kind=11):=fun k=>by rw[hy.2 k] at h6;cases h6
 have ho:fv f.kind=[]:=by
  unfold fv
  rw[if_neg h1,if_neg h2,if_neg h3,if_neg yg,if_neg h5,if_neg hk2]
 refine ae ?_
 exact CR (an.tmp 2 Z Z (aa.cK aa.nil).aj (by rw[ho];exact⟨_,_,Z,Z⟩))
end Cl
namespace Cl
open Go Vg T Api Ch
attribute [local irreducible] VO VC VA
theorem E6(f:aB)(g:jk){o:Nat}(h:sP o=true):(f.cells g)[o]?=some (.int .i64 (ie f o)):=by
 have hm:o∈[1,2,3,4,5,6,15,26,27,28]:=by unfold sP at h;exact of_decide_eq_true h
 simp only[iD,oB,or_false] at hm
 rcases hm with rfl | rfl | rfl | rfl | rfl | rfl | rfl | rfl | rfl | rfl<;>rfl
theorem Hc{Fr:Nat→Prop}{w:World}{b:Nat}{ns:List Int}(h:bq Fr w b (flat vh ns)):aT vh 1 Fr w (some ⟨b,0,none⟩) ns:=
 aT.aA (off:=0) h fun i x hx=>by
  have:=oO (c:=vh) (n:=1) (fun _=>rfl) hx []
  rw[br] at this
  rw[cj];exact this
def C5(r:ik):List Value:=[.int .i64 r.code,.string r.value,.int .i64 r.version,.int .i64 r.at_]
def B4(e:bf):List Value:=[.int .i64 e.index,.int .i64 e.aL,.int .i64 e.seq,.int .i64 e.op.kind,.string e.op.key,.string e.op.value,.int .i64 e.op.version]
theorem Ah{f:aB}{a:Option Addr}{cap:Nat}{ms:List aS}(h:aT aD 2 Fr w a ms)(hl:ms.length≤1000000):ax Tryz.prog 144 [.agg (f.cells (a,ms.length,cap)).toArray] Fr w [] (fun v L=>v=.bool (mv f ms)∧L=[]):=by
 generalize hfc:f.cells (a,ms.length,cap)=fc
 have hch:(fc.drop 23).take 3=aV.cells ⟨f.dW,ms,f.drain⟩ a cap:=by rw[←hfc];rfl
 have hop:(fc.drop 7).take 4=f.op.cells:=by rw[←hfc];rfl
 have hkd:fc[0]?=some (.int .i64 f.kind):=by rw[←hfc];rfl
 refine TF 86 Tryz.func144 Z yp aC Z Z ?_
 refine CS (CG (VG (VB (vs:=fc) Z fun b=>VG (VN ?_))))
 refine ae ?_
 refine VG (VO.ld 0 Z Z Z hkd ?_)
 refine ae ?_
 by_cases h1:f.kind<1
 ·refine VG (VY 10 true Z (DT h1) ?_)
  refine oy ?_
  exact CR (an.tmp 2 Z Z aa.nil.aj ⟨by rw[mv,DF yg];rfl,Z⟩)
 refine VG (VY 10 false Z (DF h1) ?_)
 refine av ?_
 refine VG (VO.ld 0 Z Z Z hkd ?_)
 refine av ?_
 refine CP (p:=12<f.kind) Z (fun h2=>?_) (fun h2=>CK ?_)
 ·refine ae ?_
  exact CR (an.tmp 2 Z Z aa.nil.aj ⟨by rw[mv,DF yg];rfl,Z⟩)
 have hM:mv f ms=((fv f.kind).all (fun o=>gd (ie f o))&&pJ f ms):=by rw[mv,DT yg];rfl
 refine ae ?_
 refine VG (VK (Lc:=[]) (fun Fr w hF hw hS=>Gu Fr w (fb:=b) (f:=f) (g:=(a,ms.length,cap)) (by rw[hfc];exact hS.aA 0 Z)) Z Z ?_)
 rintro _ _ ⟨na,nc,rfl,rfl⟩
 refine ae ?_
 generalize hos:fv f.kind=os at hM
 have hof:∀o∈os,sP o=true:=fun o ho=>Gw f.kind o (by rw[hos];exact ho)
 have hol:os.length≤6:=by rw[←hos];exact Gx _
 refine VC.bz 0 Z (bd.rl jK na nc os (vx b)) ?_
 rintro⟨ra,rc,rb,rcs,rxs⟩ ⟨rok,rv,rx⟩
 dsimp only at rx
 subst rx
 injection rv with e1 _ e3
 subst e1 e3
 refine VC.loop (σ:=Nat) (fun k=>[(1,pV b),(15,.slice ra rxs.length rc),(16,.int .i64 rxs.length),(17,.int .i64 (k:Int))]) (fun _=>[RL.h jK ⟨ra,rc,rb,rcs,rxs⟩,pt b fc gK]) (fun k=>k≤rxs.length∧(rxs.take k).all (fun o=>gd (ie f o))=true) (fun k=>rxs.length-k) 0
  ⟨bH _,by rw[qi];rfl⟩ aH ER ?_
 rintro k ⟨hk,hall⟩
 refine ae ?_
 refine CP (p:=(k:Int)<rxs.length) Z (fun h3=>CK ?_) (fun h3=>CX ?_)
 ·obtain⟨o,ho⟩:∃o,rxs[k]?=some o:=⟨_,GE yg⟩
  have hoo:=hof o (ME ho)
  have hcell:fc[o]?=some (.int .i64 (ie f o)):=by rw[←hfc];exact E6 f _ hoo
  obtain⟨tb,tof,htb,hta,hrd⟩:=RL.Ok.ld (t:=jK) (k:=k) (x:=o) rok ho (vx b o)
  dsimp only at hta
  subst hta
  refine p_ ?_
  refine VG (VD Z Z ((hrd 0 Z).2 _ 0 _ Z Z) ?_)
  refine ae ?_
  refine VG (VO.ld 1 Z Z Z hcell ?_)
  refine VG (VO.buildSlice (n:=1) (pv:=[(0,.int .i64 (ie f o))]) (flat vh [ie f o]) Z Z Z Z yy Z fun sb=>?_)
  refine VG (VV (fun Fr w hF hw hS=>Hv Fr w (ns:=[ie f o]) (Hc (hS.aA 0 Z)) (g_ Z)) Z ?_)
  refine ae ?_
  have e:[ie f o].all gd=gd (ie f o):=by simp
  refine VC.fq Z (fun h4=>?_) (fun h4=>CK ?_)
  ·rw[e] at h4
   refine ae ?_
   exact CR (an.tmp 2 Z Z aa.nil.aj ⟨by rw[hM,yT.2 ⟨o,ME ho,by rw[h4];decide⟩];rfl,Z⟩)
  rw[e] at h4
  refine gC ?_
  refine⟨k+1,⟨by omega,?_⟩,by dsimp only;omega,SC Z (SC Z (SC Z (Sub.int Z yg (SN _)))),(bb [1,1]).aj⟩
  rw[fX,ho,List.all_append,hall]
  simp[h4]
 rw[qg yg] at hall
 rw[hall,yS] at hM
 clear rok hall hk h3 hol hof hos
 rw[hM]
 unfold pJ
 refine ae ?_
 refine VG (VO.ld 1 Z Z Z hkd ?_)
 refine ae ?_
 refine CE Z (fun k1=>?_) (fun k1=>?_)
 ·rw[if_pos k1]
  refine ae ?_
  refine VG (VL 1 f.op.cells Z Z Z hop ?_)
  refine VG (VV (fun Fr w hF hw hS=>Api.gv Fr w f.op) Z ?_)
  refine ae ?_
  exact qS
 rw[if_neg k1]
 refine ae ?_
 refine CE Z (fun k2=>?_) (fun k2=>?_)
 ·rw[if_pos k2]
  refine ae ?_
  refine VG (VL 1 (C5 f.res) Z Z Z Ex ?_)
  refine VG (VO.alloc Z fun rb2=>?_)
  refine O3 ?_
  refine al ?_
  by_cases g1:1≤f.res.code
  rotate_left
  ·refine VG (VY 43 false Z (DF g1) ?_)
   refine av ?_
   refine VG (VY 48 false Z Z ?_)
   refine av ?_
   refine HM ?_
   refine av ?_
   exact CR (an.tmp 2 Z Z aa.nil.aj ⟨by rw[DF g1];rfl,Z⟩)
  refine VG (VY 43 true Z (DT g1) ?_)
  refine bG ?_
  by_cases g2:f.res.code≤3
  rotate_left
  ·refine VG (VY 48 false Z (DF g2) ?_)
   refine av ?_
   refine HM ?_
   refine av ?_
   exact CR (an.tmp 2 Z Z aa.nil.aj ⟨by rw[DF g2,mX];rfl,Z⟩)
  refine VG (VY 48 true Z (DT g2) ?_)
  refine bG ?_
  by_cases g3:f.res.value.size≤64
  rotate_left
  ·refine VG (VY 54 false Z (DF yg) ?_)
   refine av ?_
   exact CR (an.tmp 2 Z Z aa.nil.aj ⟨by rw[DF g3,mX];rfl,Z⟩)
  refine VG (VY 54 true Z (DT yg) ?_)
  refine bG ?_
  refine VG (VO.buildSlice (n:=2) (pv:=[(0,.int .i64 f.res.version),(1,.int .i64 f.res.at_)]) (flat vh [f.res.version,f.res.at_]) Z Z Z Z yy Z fun sb=>?_)
  refine VG (VV (fun Fr w hF hw hS=>Hv Fr w (ns:=[f.res.version,f.res.at_]) (Hc (hS.aA 0 Z)) (g_ Z)) Z ?_)
  refine av ?_
  exact CR (an.tmp 2 Z Z aa.nil.aj ⟨by rw[DT g1,DT g2,DT g3];simp,Z⟩)
 rw[if_neg k2]
 refine ae ?_
 refine CE Z (fun k4=>?_) (fun k4=>?_)
 ·rw[if_pos k4]
  refine ae ?_
  refine VG (VL 1 (B4 f.entry) Z Z Z Ex ?_)
  refine VG (VO.alloc Z fun eb=>?_)
  refine O4 ?_
  refine al ?_
  refine VG (VO.buildSlice (n:=3) (pv:=[(0,.int .i64 f.entry.index),(1,.int .i64 f.entry.aL),(2,.int .i64 f.entry.seq)]) (flat vh [f.entry.index,f.entry.aL,f.entry.seq]) Z Z Z Z yy Z fun sb=>?_)
  refine VG (VV (fun Fr w hF hw hS=>Hv Fr w (ns:=[f.entry.index,f.entry.aL,f.entry.seq]) (Hc (hS.aA 0 Z)) (g_ Z)) Z ?_)
  have e3:[f.entry.index,f.entry.aL,f.entry.seq].all gd=(gd f.entry.index&&(gd f.entry.aL&&gd f.entry.seq)):=by simp
  rw[e3]
  generalize (gd f.entry.index&&(gd f.entry.aL&&gd f.entry.seq))=x
  refine av ?_
  cases x with
  | false=>
   refine VG (VY 74 false Z Z ?_)
   refine av ?_
   exact qS
  | true=>
  refine VG (VY 74 true Z Z ?_)
  refine av ?_
  refine VG (VL 1 f.entry.op.cells Z Z Z Z ?_)
  refine VG (VV (fun Fr w hF hw hS=>Api.gv Fr w f.entry.op) Z ?_)
  refine av ?_
  exact qS
 rw[if_neg k4]
 refine ae ?_
 refine CE Z (fun k8=>?_) (fun k8=>CK ?_)
 ·rw[if_pos k8]
  refine ae ?_
  refine VG (VL 1 (aV.cells ⟨f.dW,ms,f.drain⟩ a cap) Z Z Z hch ?_)
  refine VG (VV (fun Fr w hF hw hS=>Ch.gv Fr w (c:=⟨f.dW,ms,f.drain⟩) (h.of hF hw) IB) Z ?_)
  refine ae ?_
  exact qS
 rw[if_neg k8]
 refine ae ?_
 exact qS
end Cl
namespace Cl
open Go Vg T Api Ch
attribute [local irreducible] VO VC VA
theorem Cw{f:aB}{ms:List aS}(h:mv f ms=true):pJ f ms=true:=by
 unfold mv at h
 simp only[eG] at h
 exact h.2.2
theorem Lm{f:aB}{ms:List aS}(h:mv f ms=true)(k:f.kind=1):dv f.op=0:=by
 have:=Cw h
 rw[pJ,if_pos k] at this
 exact of_decide_eq_true this
theorem Ln{f:aB}{ms:List aS}(h:mv f ms=true)(k:f.kind=2):f.res.value.size≤64:=by
 have:=Cw h
 rw[pJ,if_neg yg,if_pos k] at this
 simp only[eG,decide_eq_true_eq] at this
 omega
theorem Lo{f:aB}{ms:List aS}(h:mv f ms=true)(k:f.kind=4):dv f.entry.op=0∧gd f.entry.index=true∧gd f.entry.aL=true∧gd f.entry.seq=true:=by
 have:=Cw h
 rw[pJ,if_neg yg,if_neg yg,if_pos k] at this
 simp only[eG,decide_eq_true_eq] at this
 exact⟨this.2,this.1.1,this.1.2.1,this.1.2.2⟩
theorem Lp{f:aB}{ms:List aS}(h:mv f ms=true)(k:f.kind=8):eN ⟨f.dW,ms,f.drain⟩=0:=by
 have:=Cw h
 rw[pJ,if_neg yg,if_neg yg,if_neg yg,if_pos k] at this
 exact of_decide_eq_true this
theorem Qx{f:aB}{ms:List aS}(h:mv f ms=true):(l_ f ms).length≤200:=by
 unfold l_
 split
 ·rename_i k
  have:=Gz (Lm h k);omega
 split
 ·rename_i k
  have:=Ln h k
  have a:=gw f.res.code
  have b:=xK (sB f.res.value)
  have c:=gw f.res.version
  have d:=gw f.res.at_
  rw[uq] at b
  simp only[a8];omega
 split
 ·rename_i k
  have:=Gz (Lo h k).1
  have a:=gw f.entry.index
  have b:=gw f.entry.aL
  have c:=gw f.entry.seq
  simp only[a8];omega
 split
 ·rename_i k
  have:=QU (Lp h k);omega
 ·exact bH _
theorem Qy{f:aB}{a:Option Addr}{cap:Nat}{ms:List aS}(h:aT aD 2 Fr w a ms)(hl:ms.length≤1000000)(hm:mv f ms=true):ax Tryz.prog 147 [.agg (f.cells (a,ms.length,cap)).toArray] Fr w [] (fun v L=>v=.string (bT (l_ f ms))∧L=[]):=by
 generalize hfc:f.cells (a,ms.length,cap)=fc
 have hch:(fc.drop 23).take 3=aV.cells ⟨f.dW,ms,f.drain⟩ a cap:=by rw[←hfc];rfl
 have hop:(fc.drop 7).take 4=f.op.cells:=by rw[←hfc];rfl
 have hkd:fc[0]?=some (.int .i64 f.kind):=by rw[←hfc];rfl
 refine TF 66 Tryz.func147 Z yp aC Z Z ?_
 refine CS (CG (VG (VB (vs:=fc) Z fun b=>VG (VN ?_))))
 refine CS (CS (CG (VG (VO.ld 0 Z Z Z hkd (VG (VN ?_))))))
 refine VC.bZ (σ:=Unit) (fun _=>[(2,.string (bT (l_ f ms)))]) (fun _=>[]) (fun _=>True) ?_ ?_
 rotate_left
 ·rintro⟨⟩ _
  refine ae ?_
  exact qS
 unfold l_
 refine ae ?_
 refine CE Z (fun k1=>?_) (fun k1=>?_)
 ·have ho:=Lm hm k1
  rw[if_pos k1]
  refine ae ?_
  refine VG (VL 0 f.op.cells Z Z Z hop ?_)
  refine VG (VV (fun Fr w hF hw hS=>L7 Fr w f.op) Z ?_)
  rw[if_pos ho]
  refine ae ?_
  exact Be
 rw[if_neg k1]
 refine ae ?_
 refine CE Z (fun k2=>?_) (fun k2=>?_)
 ·have hv:=Ln hm k2
  have l1:=gw f.res.code
  have l2:=xK (sB f.res.value)
  have l3:=gw f.res.version
  have l4:=gw f.res.at_
  rw[uq] at l2
  rw[if_pos k2]
  refine ae ?_
  refine VG (VL 0 (C5 f.res) Z Z Z Ex ?_)
  refine VG (VO.alloc Z fun rb=>?_)
  refine O3 ?_
  refine ae ?_
  refine CD (ts 0 2 (ts 3 2 (ts 7 2 (ts 11 2 (.only 2 (.only 5 (.take 6 (.only 9 (.take 10 (.only 13 (ts 14 2 .nil))))))))))) yp yr ?_
  refine bp ?_
  refine AG (AR (fun Fr w hF hs hS=>nu Fr w f.res.code) Z Z yu ?_)
  refine AG (AR (fun Fr w hF hs hS=>uy Fr w f.res.value yg) Z Z yu ?_)
  refine Ba ?_
  refine AG (AR (fun Fr w hF hs hS=>nu Fr w f.res.version) Z Z yu ?_)
  refine AG (AI Z (oS Z Z PJ) ?_)
  refine AG (AR (fun Fr w hF hs hS=>nu Fr w f.res.at_) Z Z yu ?_)
  refine AG (AI Z (oS Z Z PK) ?_)
  rw[←mF,←mF,←mF]
  refine bp ?_
  exact Be
 rw[if_neg k2]
 refine ae ?_
 refine CE Z (fun k4=>?_) (fun k4=>?_)
 ·have ho:=(Lo hm k4).1
  have l1:=gw f.entry.index
  have l2:=gw f.entry.aL
  have l3:=gw f.entry.seq
  have l4:=Gz ho
  rw[if_pos k4]
  refine ae ?_
  refine VG (VL 0 (B4 f.entry) Z Z Z Ex ?_)
  refine VG (VO.alloc Z fun eb=>?_)
  refine O4 ?_
  refine ae ?_
  refine VG (VL 0 f.entry.op.cells Z Z Z Z ?_)
  refine VG (VV (fun Fr w hF hw hS=>L7 Fr w f.entry.op) Z ?_)
  rw[if_pos ho]
  refine ae ?_
  refine CD (ts 0 2 (ts 3 2 (ts 7 2 (.take 11 (.only 2 (.only 5 (.take 6 (.only 9 (.take 10 (ts 12 2 .nil)))))))))) yp yr ?_
  refine bp ?_
  refine AG (AR (fun Fr w hF hs hS=>nu Fr w f.entry.index) Z Z yu ?_)
  refine AG (AR (fun Fr w hF hs hS=>nu Fr w f.entry.aL) Z Z yu ?_)
  refine Ba ?_
  refine AG (AR (fun Fr w hF hs hS=>nu Fr w f.entry.seq) Z Z yu ?_)
  refine AG (AI Z (oS Z Z PJ) ?_)
  refine AG (AI Z (oS Z Z PK) ?_)
  rw[←mF,←mF,←mF]
  refine bp ?_
  exact Be
 rw[if_neg k4]
 refine ae ?_
 refine CE Z (fun k8=>?_) (fun k8=>CK ?_)
 ·have hc:=Lp hm k8
  rw[if_pos k8]
  refine ae ?_
  refine VG (VL 0 (aV.cells ⟨f.dW,ms,f.drain⟩ a cap) Z Z Z hch ?_)
  refine VG (VV (fun Fr w hF hw hS=>Rf Fr w (c:=⟨f.dW,ms,f.drain⟩) (h.of hF hw) hl) Z ?_)
  rw[if_pos hc]
  refine ae ?_
  exact Be
 rw[if_neg k8]
 exact Be
end Cl
namespace Cl
open Go Vg T Api Ch
attribute [local irreducible] VO VC VA
def Ku(o:Option Bs)(v:Value):Prop:=match o with
 | some t=>v=.tuple #[.string (bT t),.int .i64 0]
 | none=>∃e,e≠0∧v=.tuple #[.string (bT []),.int .i64 e]
theorem Gv(f:aB):∀os:List Nat,(os.flatMap (fun o=>cO (ie f o))).length≤9*os.length
 | []=>NR _
 | o::os=>by
  have:=gw (ie f o)
  have:=Gv f os
  rw[uO,a8,ku];omega
theorem Sk{f:aB}{a:Option Addr}{cap:Nat}{ms:List aS}(h:aT aD 2 Fr w a ms)(hl:ms.length≤1000000):ax Tryz.prog 94 [.agg (f.cells (a,ms.length,cap)).toArray] Fr w [] (fun v L=>Ku (rQ f ms) v∧L=[]):=by
 refine TF 34 Tryz.func94 Z yp aC Z Z ?_
 refine CS (CG (VG (VB (vs:=f.cells (a,ms.length,cap)) Z fun b=>VG (VN ?_))))
 refine ae ?_
 refine VG (VL 0 (f.cells (a,ms.length,cap)) Z Z Z Z ?_)
 refine VG (VV (fun Fr w hF hw hS=>Ah Fr w (h.of hF hw) hl) Z ?_)
 refine ae ?_
 refine VC.fq Z (fun hm=>?_) (fun hm=>CK ?_)
 ·refine ae ?_
  exact CR (an.cV 2 3 Z Z Z aa.nil.aj ⟨by rw[rQ,if_neg (by rw[hm];decide)];exact⟨2,by decide,Z⟩,Z⟩)
 have hP:rQ f ms=if 512<(um f ms).length then none else some (um f ms):=by rw[rQ,if_pos hm]
 have lb:=Qx hm
 have lk:=gw f.kind
 refine al ?_
 refine VG (VV (fun Fr w hF hw hS=>nu Fr w f.kind) Z ?_)
 refine ae ?_
 refine VG (VK (Lc:=[]) (fun Fr w hF hw hS=>Gu Fr w (fb:=b) (f:=f) (g:=(a,ms.length,cap)) (hS.aA 0 Z)) Z Z ?_)
 rintro _ _ ⟨na,nc,rfl,rfl⟩
 refine ae ?_
 have hpb:um f ms=(cO f.kind++(fv f.kind).flatMap (fun o=>cO (ie f o)))++l_ f ms:=rfl
 generalize hos:fv f.kind=os at hpb
 have hof:∀o∈os,sP o=true:=fun o ho=>Gw f.kind o (by rw[hos];exact ho)
 have hol:os.length≤6:=by rw[←hos];exact Gx _
 refine VC.bz 0 Z (bd.rl jK na nc os (vx b)) ?_
 rintro⟨ra,rc,rb,rcs,rxs⟩ ⟨rok,rv,rx⟩
 dsimp only at rx
 subst rx
 injection rv with e1 _ e3
 subst e1 e3
 refine VC.loop (σ:=Nat) (fun k=>[(1,pV b),(13,.slice ra rxs.length rc),(14,.int .i64 rxs.length),(15,.int .i64 (k:Int)),(4,.string (bT (cO f.kind++(rxs.take k).flatMap (fun o=>cO (ie f o)))))]) (fun _=>[RL.h jK ⟨ra,rc,rb,rcs,rxs⟩,pt b (f.cells (a,ms.length,cap)) gK]) (fun k=>k≤rxs.length) (fun k=>rxs.length-k) 0
  (bH _) (SC rfl (SC rfl (SC rfl (SC rfl (SC PB (SN _)))))) ER ?_
 rintro k hk
 refine ae ?_
 refine CP (p:=(k:Int)<rxs.length) Z (fun h3=>CK ?_) (fun h3=>CX ?_)
 ·obtain⟨o,ho⟩:∃o,rxs[k]?=some o:=⟨_,GE yg⟩
  have hoo:=hof o (ME ho)
  have lo:=gw (ie f o)
  have lt:=Gv f (rxs.take k)
  rw[jj] at lt
  have e:(rxs.take (k+1)).flatMap (fun o=>cO (ie f o))=(rxs.take k).flatMap (fun o=>cO (ie f o))++cO (ie f o):=by rw[fX,ho,wg];simp
  obtain⟨tb,tof,htb,hta,hrd⟩:=RL.Ok.ld (t:=jK) (k:=k) (x:=o) rok ho (vx b o)
  dsimp only at hta
  subst hta
  refine p_ ?_
  refine VG (VD Z Z ((hrd 0 Z).2 _ 0 _ Z Z) ?_)
  refine ae ?_
  refine VG (VO.ld 1 Z Z Z (E6 f _ hoo) ?_)
  refine VG (VV (fun Fr w hF hw hS=>nu Fr w (ie f o)) Z ?_)
  refine D' ?_
  rw[←mF]
  refine gC ?_
  exact⟨k+1,by omega,by dsimp only;omega,SC Z (SC Z (SC Z (Sub.int Z yg (SC PC (SN _))))),ER⟩
 obtain rfl:k=rxs.length:=by omega
 have lt:=Gv f rxs
 rw[iT]
 refine ae ?_
 refine VG (VL 1 (f.cells (a,ms.length,cap)) Z Z Z Z ?_)
 refine VG (VV (fun Fr w hF hw hS=>Qy Fr w (h.of hF hw) hl hm) Z ?_)
 refine D' ?_
 rw[←mF,←hpb]
 refine ae ?_
 refine CP (p:=(512:Int)<(bT (um f ms)).size) Z (fun h4=>?_) (fun h4=>CK ?_)
 ·rw[iF] at h4
  refine ae ?_
  exact CR (an.cV 2 3 Z Z Z aa.nil.aj ⟨by rw[hP,if_pos yg];exact⟨3,by decide,Z⟩,Z⟩)
 rw[iF] at h4
 refine ae ?_
 exact CR (an.cV 2 3 Z Z Z aa.nil.aj ⟨by rw[hP,if_neg yg];exact Z,Z⟩)
def pR:List Value→List Nat→List Int→List Value
 | cs,o::os,k::ks=>pR (cs.set o (.int .i64 k)) os ks
 | cs,_,_=>cs
theorem M4{o:Nat}{x:Int}:∀{os:List Nat} {ks:List Int} {cs:List Value},os.length=ks.length→pR cs (os ++ [o]) (ks ++ [x])=(pR cs os ks).set o (.int .i64 x)
 | [],[],cs,_=>rfl
 | a::os,b::ks,cs,h=>M4 (os:=os) (ks:=ks) ye
 | [],_::_,_,h=>by simp at h
 | _::_,[],_,h=>by simp at h
def sO(v:Option Value):Prop:=∃n,v=some (.int .i64 n)
theorem M3{o:Nat}:∀{os:List Nat} {ks:List Int} {cs:List Value},sO cs[o]?→sO (pR cs os ks)[o]?
 | a::os,b::ks,cs,h=>M3 (os:=os) (ks:=ks) (by
   by_cases e:a=o
   ·subst e
    obtain⟨n,hn⟩:=h
    exact⟨b,by rw[iR (bP.1 hn).1]⟩
   ·rw[lU e];exact h)
 | [],_,_,h=>h
 | _::_,[],_,h=>h
theorem W6{cs:List Value}{o:Nat}{v:Value}(h:cs[o]?=some v):cs.set o v=cs:=by
 refine qe fun j=>?_
 by_cases e:o=j
 ·subst e;rw[iR (bP.1 h).1,h]
 ·rw[lU e]
structure NI(os:List Nat)(s:Bs)(k:Nat)(x:List Int×Bs×Bool):Prop where
 le:k≤os.length
 ks:x.1.length=k
 len:x.2.1.length≤s.length
 t:x.2.2=true→gL k s=some (x.1,x.2.1)
 f:x.2.2=false→gL os.length s=none
def UM(fb:Nat)(T:TypeId)(cs:List Value)(os:List Nat)(s:Bs)(v:Value)(L:List HP):Prop:=
 ∃x:List Int×Bs×Bool,NI os s os.length x∧v=.tuple #[.string (bT x.2.1),.bool x.2.2]∧L=[pt fb (pR cs os x.1) T]
theorem zV{s:Bs}(hs:s.length≤1000000){fb:Nat}{T:TypeId}{cs:List Value}{os:List Nat}(hol:os.length≤1000)(ho:∀o∈os,sO cs[o]?){a:Option Addr}{c:Nat}(h:aT (gz fb) 1 Fr w a os):
  ax Tryz.prog 172 [.string (bT s),.slice a os.length c] Fr w [pt fb cs T] (UM fb T cs os s):=by
 refine TF 27 Tryz.func172 Z yp aC Z Z ?_
 refine ae ?_
 refine VC.loop (σ:=Nat×List Int×Bs×Bool) (fun x=>[(9,.slice a os.length c),(10,.int .i64 os.length),(11,.int .i64 (x.1:Int)),(4,.string (bT x.2.2.1)),(5,.bool x.2.2.2)]) (fun x=>[pt fb (pR cs (os.take x.1) x.2.1) T]) (fun x=>NI os s x.1 x.2) (fun x=>os.length-x.1) (0,[],s,true)
  ⟨bH _,rfl,NR _,fun _=>rfl,fun h=>(qd h.symm).elim⟩ aH (by rw[qi];exact ER) ?_
 rintro⟨k,ks,r,ok⟩ hI
 have hk:=hI.le
 have hkl:=hI.ks
 have hrl:=hI.len
 dsimp only at hk hkl hrl ⊢
 refine ae ?_
 refine CP (p:=(k:Int)<os.length) Z (fun h3=>CK ?_) (fun h3=>CX ?_)
 rotate_left
 ·obtain rfl:k=os.length:=by omega
  rw[iT]
  refine ae ?_
  exact CR (an.cV 4 5 Z Z Z ER ⟨(ks,r,ok),hI,Z,Z⟩)
 obtain⟨o,hoo⟩:∃o,os[k]?=some o:=⟨_,GE yg⟩
 obtain⟨xb,xo,hxa,ra,rc⟩:=aT.rd (X:=⟨Tryz.prog,tab,aC,27,Fr,w⟩) h hoo
 subst hxa
 obtain⟨n0,hn0⟩:=M3 (os:=os.take k) (ks:=ks) (ho o (ME hoo))
 have hlt:=(bP.1 hn0).1
 have htk:os.take (k+1)=os.take k ++ [o]:=by rw[fX,hoo];rfl
 have hsn:∀x:Int,pR cs (os.take (k+1)) (ks ++ [x])=(pR cs (os.take k) ks).set o (.int .i64 x):=fun x=>by rw[htk,M4 Ix]
 refine CS (VC.bZ (σ:=List Int×Bs×Bool) (fun x=>[(9,.slice (some ⟨xb,xo,none⟩) os.length c),(10,.int .i64 os.length),(11,.int .i64 (k:Int)),(4,.string (bT x.2.1)),(5,.bool x.2.2)]) (fun x=>[pt fb (pR cs (os.take (k+1)) x.1) T]) (fun x=>NI os s (k+1) x) ?_ ?_)
 ·refine p_ ?_
  refine xU ?_
  refine ae ?_
  refine CC Z (fun h=>?_) (fun h=>CK ?_)
  ·subst h
   have ht:=hI.t rfl
   dsimp only at ht
   obtain⟨x,q,ok,hv,hql,hk1,hk2⟩:=DG r
   refine ae ?_
   refine VG (VV (fun Fr w hF hw _=>hv▸DI Fr w r yg) Z ?_)
   refine ae ?_
   refine VG (VO.st 0 (cs':=(pR cs (os.take k) ks).set o (.int .i64 x)) Z Z Z Z hlt Z Z ?_)
   refine ae ?_
   refine⟨(ks ++ [x],q,ok),⟨by omega,by simp[hkl],by dsimp only;omega,fun h=>?_,fun h=>?_⟩,aH,by dsimp only;rw[hsn];exact ER⟩
   ·rw[rF,ht];simp[hk1 h]
   ·have:gL (k+1) s=none:=by rw[rF,ht];simp[hk2 h]
    have:=FT this (os.length-(k+1))
    rwa[show k+1+(os.length-(k+1))=os.length from by omega] at this
  ·subst h
   exact⟨(ks ++ [n0],r,false),⟨by omega,by simp[hkl],hrl,fun h=>(qd h).elim,fun _=>hI.f Z⟩,aH,by dsimp only;rw[hsn,W6 hn0];exact ER⟩
 rintro⟨ks2,r2,ok2⟩ hI2
 refine gC ?_
 exact⟨(k+1,ks2,r2,ok2),hI2,by dsimp only;omega,SC Z (SC Z (Sub.int Z fB aH)),ER⟩
end Cl
namespace Cl
open Go Vg T Api Ch
attribute [local irreducible] VO VC VA
def Ca(fb:Nat)(f:aB)(ms:List aS)(L:List HP):Prop:=∃a cap,L=[pt fb (f.cells (a,ms.length,cap)) gK,aq aP 2 a ms.length cap (flat aD ms)]
def Sm(fb:Nat)(o:Option (aB×List aS))(v:Value)(L:List HP):Prop:=match o with
 | some x=>v=.bool true∧Ca fb x.1 x.2 L
 | none=>v=.bool false∧L=[]
abbrev IW:=Int×Bs×Bool×List HP
structure k_(fb:Nat)(o:Option (aB×List aS))(x:IW):Prop where
 yes:x.2.2.1=true→x.1=0→x.2.1=[]→∃y,o=some y∧Ca fb y.1 y.2 x.2.2.2
 no:¬(x.2.2.1=true∧x.1=0∧x.2.1=[])→o=none
theorem k_.ok{fb:Nat}{o:Option (aB×List aS)}{f:aB}{ms:List aS}{L:List HP}(h:o=some (f,ms))(hL:Ca fb f ms L):k_ fb o (0,[],true,L):=⟨fun _ _ _=>⟨_,h,hL⟩,fun k=>absurd ⟨rfl,rfl,rfl⟩ k⟩
theorem k_.bad{fb:Nat}{o:Option (aB×List aS)}{e:Int}{r:Bs}{ok:Bool}{L:List HP}(h:o=none)(hb:¬(ok=true∧e=0∧r=[])):k_ fb o (e,r,ok,L):=⟨fun h1 h2 h3=>absurd ⟨h1,h2,h3⟩ hb,fun _=>h⟩
def ey:jk:=(none,0,0)
theorem Cb{fb:Nat}{f:aB}:Ca fb f [] [pt fb (f.cells ey) gK,aq aP 2 none 0 0 (flat aD [])]:=⟨none,0,rfl⟩
theorem B2{X:Cx}{fb:Nat}{f:aB}{L:List HP}(h:aa L [pt fb (f.cells ey) gK]):dd X L [pt fb (f.cells ey) gK,aq aP 2 none 0 0 (flat aD [])]:=
 ((h.trans (aa.cK aa.refl)).trans (IP 1 rfl aa.refl)).aj
theorem Qi{cs:List Value}:∀o∈([]:List Nat),sO cs[o]?:=fun o ho=>by cases ho
theorem BL{cs:List Value}{a:Nat}{l:List Nat}(h:sO cs[a]?)(hl:∀o∈l,sO cs[o]?):∀o∈a::l,sO cs[o]?:=fun o ho=>by
 rcases iD.1 ho with rfl | ho
 ·exact h
 ·exact hl o ho
theorem BK{cs:List Value}{a:Nat}(h:sO cs[a]?):∀o∈[a],sO cs[o]?:=BL h Qi
theorem Ck{s:Bs}:gL 1 s=(cd s).map fun x=>([x.1],x.2):=by
 rw[gL]
 cases cd s with
 | none=>rfl
 | some x=>rfl
theorem Da{Fr:Nat→Prop}{w:World}{b fb:Nat}{os:List Nat}(h:bq Fr w b (flat (gz fb) os)):aT (gz fb) 1 Fr w (some ⟨b,0,none⟩) os:=
 aT.aA (off:=0) h fun i x hx=>by
  have:=oO (vx fb) hx []
  rw[br] at this
  rw[cj];exact this
theorem Sn{s:Bs}(hs:s.length≤1000000){fb:Nat}{f:aB}:ax Tryz.prog 173 [.pointer (some ⟨fb,0,none⟩),.string (bT s)] Fr w [pt fb (f.cells ey) gK] (Sm fb (nE f s)):=by
 refine TF 110 Tryz.func173 Z yp aC Z Z ?_
 refine jz ?_
 refine jz ?_
 refine jz ?_
 refine CS (CS (CG (VG (VO.ld 0 Z Z Z Z (VG (VN ?_))))))
 refine VC.bZ (σ:=IW) (fun x=>[(5,.int .i64 x.1),(6,.string (bT x.2.1)),(7,.bool x.2.2.1)]) (fun x=>x.2.2.2) (k_ fb (nE f s)) ?_ ?_
 rotate_left
 ·rintro⟨e,r,ok,L⟩ hE
  refine ae ?_
  cases ok with
  | false=>
   refine VG (VY 102 false Z Z ?_)
   refine av ?_
   refine VG (VY 106 false Z Z ?_)
   refine av ?_
   exact CR (an.tmp 4 Z Z aa.nil.aj (by rw[hE.no (fun h=>qd h.1)];exact⟨rfl,Z⟩))
  | true=>
  refine VG (VY 102 true Z Z ?_)
  refine av ?_
  by_cases he:e=0
  rotate_left
  ·refine VG (VY 106 false Z (beq_eq_false_iff_ne.2 he) ?_)
   refine av ?_
   exact CR (an.tmp 4 Z Z aa.nil.aj (by rw[hE.no (fun h=>he h.2.1)];exact⟨rfl,Z⟩))
  refine VG (VY 106 true Z (beq_iff_eq.2 he) ?_)
  refine av ?_
  by_cases hr:r=[]
  rotate_left
  ·exact CR (an.bool (b:=false) 4 Z Z (by rw[show(ByteArray.mk #[])=bT [] from Z,ri];exact DF hr) aa.nil.aj (by rw[hE.no (fun h=>hr h.2.2)];exact⟨rfl,Z⟩))
  obtain⟨y,hy,hL⟩:=hE.yes rfl he hr
  exact CR (an.bool (b:=true) 4 Z Z (by rw[show(ByteArray.mk #[])=bT [] from Z,ri];exact DT hr) ER (by rw[hy];exact⟨rfl,hL⟩))
 have nf:∀{e:Int} {r:Bs},¬(false=true∧e=0∧r=[]):=fun h=>qd h.1
 have n10:∀{r:Bs},¬(true=true∧(10:Int)=0∧r=[]):=fun h=>absurd h.2.1 yy
 unfold nE
 refine ae ?_
 refine CE Z (fun k1=>?_) (fun k1=>?_)
 ·rw[if_pos k1]
  refine ae ?_
  cases hg:rC s with
  | none=>
   refine VG (VV (u:=zJ none) (fun Fr w hF hw _=>hg▸CM Fr w s hs) Z ?_)
   refine av ?_
   refine VG (VT (vs:=bw.cells ⟨0,bT [],bT [],0⟩) (cs':=({ f with op:=⟨0,bT [],bT [],0⟩ }:aB).cells ey) 0 Z Z Z Z (by show 7+4≤29;omega) Z Z Z ?_)
   refine av ?_
   exact Ih
  | some o=>
   refine VG (VV (u:=zJ (some o)) (fun Fr w hF hw _=>hg▸CM Fr w s hs) Z ?_)
   refine av ?_
   refine VG (VT (vs:=o.cells) (cs':=({ f with op:=o }:aB).cells ey) 0 Z Z Z Z (by show 7+4≤29;omega) Z Z Z ?_)
   refine av ?_
   exact⟨(0,[],true,_),k_.ok Z Cb,aH,B2 aa.refl⟩
 rw[if_neg k1]
 refine ae ?_
 refine CE Z (fun k2=>?_) (fun k2=>?_)
 ·rw[if_pos k2]
  refine ae ?_
  refine VG (VO.buildSlice (n:=1) (pv:=[(0,.pointer (some ⟨fb,11,none⟩))]) (flat (gz fb) [11]) Z Z Z Z yy Z fun sb=>?_)
  refine VO.aj (L':=[pt fb (f.cells ey) gK] ++ [pt sb (flat (gz fb) [11]) jK]) (bb [1,0]).aj ?_
  refine VG (VK (Lc:=[pt fb (f.cells ey) gK]) (fun Fr w hF hw hS=>zV Fr w (os:=[11]) hs yy (BK ⟨_,Z⟩) (Da (hS.aA 0 Z))) Z Z ?_)
  rintro _ _ ⟨⟨ks,r,ok⟩,hI,rfl,rfl⟩
  have hl:=hI.len
  have h1:=hI.ks
  have ht:=hI.t
  have hf:=hI.f
  dsimp only at hl h1 ht hf
  obtain⟨code,rfl⟩:∃x,ks=[x]:=by
   match ks,h1 with
   | [x],_=>exact⟨x,rfl⟩
  show VO _ _ _ _ _ [pt fb (({ f with res:={ f.res with code:=code } }:aB).cells ey) gK,pt sb (flat (gz fb) [11]) jK] _
  rw[show([11]:List Nat).length=1 from rfl,Ck] at ht hf
  refine av ?_
  cases ok with
  | false=>
   have hu:cd s=none:=by simpa using hf rfl
   refine fV ?_
   refine tz ?_
   exact⟨(0,r,false,[]),k_.bad (by rw[hu]) nf,aH,aa.nil.aj⟩
  | true=>
  have hu:cd s=some (code,r):=by
   have:=ht rfl
   cases hx:cd s with
   | none=>rw[hx] at this;cases this
   | some x=>rw[hx] at this;simp at this;rw[←this.1,←this.2]
  refine lR ?_
  obtain⟨val,q,ok2,hv,hql,hc1,hc2⟩:=Fh r
  refine av ?_
  refine H2 ?_
  refine av ?_
  refine VG (VO.st 0 (cs':=({ f with res:={ f.res with code:=code,value:=bT val } }:aB).cells ey) Z Z Z Z (by show 12<29;omega) Z Z ?_)
  refine av ?_
  rw[hu]
  dsimp only
  cases ok2 with
  | false=>
   refine fV ?_
   exact⟨(0,q,false,[]),k_.bad (by rw[hc2 rfl]) nf,aH,aa.nil.aj⟩
  | true=>
  rw[hc1 rfl]
  dsimp only
  refine lR ?_
  refine ae ?_
  refine CD (ts 0 9 (.only 9 (.only 10 (ts 11 5 .nil)))) yp yr ?_
  refine cX ?_
  refine AG (AO (aK.buildSlice (n:=2) (pv:=[(0,.pointer (some ⟨fb,13,none⟩)),(1,.pointer (some ⟨fb,14,none⟩))]) (cells:=flat (gz fb) [13,14]) rfl rfl rfl rfl yy rfl) rfl (fun v L' g=>by obtain⟨b,rfl,rfl⟩:=g;exact kp) ?_)
  rintro _ _ ⟨sc,rfl,rfl⟩
  refine AG (AO (OC (Lc:=[pt fb (({ f with res:={ f.res with code:=code,value:=bT val } }:aB).cells ey) gK]) (Lr:=[pt sc (flat (gz fb) [13,14]) jK,pt sb (flat (gz fb) [11]) jK]) rfl (.swap _ _ _) (fun Fr w hF hw hS=>zV Fr w (s:=q) (os:=[13,14]) yg (g_ rfl) (BL ⟨_,rfl⟩ (BK ⟨_,rfl⟩)) (Da (hS.aA 0 rfl)))) rfl (fun v L' g=>by obtain⟨_,⟨x,_,rfl,rfl⟩,rfl⟩:=g;exact kp) ?_)
  rintro _ _ ⟨_,⟨⟨ks,r3,ok3⟩,hI3,rfl,rfl⟩,rfl⟩
  have h3l:=hI3.len
  have h31:=hI3.ks
  have h3t:=hI3.t
  have h3f:=hI3.f
  dsimp only at h3l h31 h3t h3f
  obtain⟨ver,at_,rfl⟩:∃x y,ks=[x,y]:=by
   match ks,h31 with
   | [x,y],_=>exact⟨x,y,rfl⟩
  rw[show([13,14]:List Nat).length=1+1 from rfl,rF,Ck] at h3t h3f
  refine cX ?_
  cases h5:cd q with
  | none=>
   have hko:ok3=false:=by
    cases ok3 with
    | false=>rfl
    | true=>have:=h3t rfl;rw[h5] at this;cases this
   subst hko
   exact⟨(0,r3,false,[]),k_.bad Z nf,aH,aa.nil.aj⟩
  | some x5=>
  obtain⟨v5,q5⟩:=x5
  dsimp only
  rw[h5] at h3t h3f
  simp only[ng,jS] at h3t h3f
  cases h6:cd q5 with
  | none=>
   have hko:ok3=false:=by
    cases ok3 with
    | false=>rfl
    | true=>have:=h3t rfl;rw[h6] at this;cases this
   subst hko
   exact⟨(0,r3,false,[]),k_.bad Z nf,aH,aa.nil.aj⟩
  | some x6=>
  obtain⟨v6,q6⟩:=x6
  dsimp only
  rw[h6] at h3t h3f
  simp only[ng] at h3t h3f
  have hko:ok3=true:=by
   cases ok3 with
   | true=>rfl
   | false=>have:=h3f rfl;cases this
  subst hko
  have h7:=h3t rfl
  simp only[Option.some.injEq,Prod.mk.injEq,uM,mZ,List.cons.injEq,and_true] at h7
  obtain⟨⟨rfl,rfl⟩,rfl⟩:=h7
  by_cases hq:q6=[]
  ·subst hq
   exact⟨(0,[],true,_),k_.ok (if_pos Z) Cb,aH,B2 (IP 0 Z aa.nil)⟩
  ·exact⟨(0,q6,true,[]),k_.bad (if_neg hq) (fun h=>hq h.2.2),aH,aa.nil.aj⟩
 rw[if_neg k2]
 refine ae ?_
 refine CE Z (fun k4=>?_) (fun k4=>?_)
 ·rw[if_pos k4]
  refine ae ?_
  refine CD (ts 0 13 (.only 13 (.only 14 (ts 15 5 .nil)))) yp yr ?_
  refine cX ?_
  refine AG (AO (aK.buildSlice (n:=3) (pv:=[(0,.pointer (some ⟨fb,16,none⟩)),(1,.pointer (some ⟨fb,17,none⟩)),(2,.pointer (some ⟨fb,18,none⟩))]) (cells:=flat (gz fb) [16,17,18]) rfl rfl rfl rfl yy rfl) rfl (fun v L' g=>by obtain⟨b,rfl,rfl⟩:=g;exact kp) ?_)
  rintro _ _ ⟨sc,rfl,rfl⟩
  refine AG (AO (OC (Lc:=[pt fb (f.cells ey) gK]) (Lr:=[pt sc (flat (gz fb) [16,17,18]) jK]) rfl (.swap _ _ _) (fun Fr w hF hw hS=>zV Fr w (s:=s) (os:=[16,17,18]) hs (g_ rfl) (BL ⟨_,rfl⟩ (BL ⟨_,rfl⟩ (BK ⟨_,rfl⟩))) (Da (hS.aA 0 rfl)))) rfl (fun v L' g=>by obtain⟨_,⟨x,_,rfl,rfl⟩,rfl⟩:=g;exact kp) ?_)
  rintro _ _ ⟨_,⟨⟨ks,r3,ok3⟩,hI3,rfl,rfl⟩,rfl⟩
  have h3l:=hI3.len
  have h31:=hI3.ks
  have h3t:=hI3.t
  have h3f:=hI3.f
  dsimp only at h3l h31 h3t h3f
  obtain⟨ix,cl,sq,rfl⟩:∃x y z,ks=[x,y,z]:=by
   match ks,h31 with
   | [x,y,z],_=>exact⟨x,y,z,rfl⟩
  rw[show([16,17,18]:List Nat).length=1+1+1 from rfl,rF,rF,Ck] at h3t h3f
  show VA _ _ _ _ _ _ [pt fb (({ f with entry:={ f.entry with index:=ix,aL:=cl,seq:=sq } }:aB).cells ey) gK,pt sc (flat (gz fb) [16,17,18]) jK] _
  refine pf ?_
  cases ok3 with
  | false=>
   have hn:(match cd s with
    | none=>none
    | some (i,r)=>match cd r with
     | none=>none
     | some (c,r)=>match cd r with
      | none=>none
      | some (q,r)=>match rC r with
       | none=>none
       | some o=>some (({ f with entry:=⟨i,c,q,o⟩ }:aB),([]:List aS)))=none:=by
    have:=h3f rfl
    cases a1:cd s with
    | none=>rfl
    | some x=>
     rw[a1] at this
     simp only[ng,jS] at this
     dsimp only
     cases a2:cd x.2 with
     | none=>rfl
     | some y=>
      rw[a2] at this
      simp only[ng,jS] at this
      dsimp only
      cases a3:cd y.2 with
      | none=>rfl
      | some z=>rw[a3] at this;cases this
   refine fV ?_
   exact⟨(0,r3,false,[]),k_.bad hn nf,aH,aa.nil.aj⟩
  | true=>
  have h7:=h3t rfl
  cases a1:cd s with
  | none=>rw[a1] at h7;cases h7
  | some x=>
  rw[a1] at h7
  simp only[ng,jS] at h7
  obtain⟨x1,x2⟩:=x
  dsimp only at h7 ⊢
  cases a2:cd x2 with
  | none=>rw[a2] at h7;cases h7
  | some y=>
  rw[a2] at h7
  simp only[ng,jS] at h7
  obtain⟨y1,y2⟩:=y
  dsimp only at h7 ⊢
  cases a3:cd y2 with
  | none=>rw[a3] at h7;cases h7
  | some z=>
  obtain⟨z1,z2⟩:=z
  rw[a3] at h7
  simp only[ng,Option.some.injEq,Prod.mk.injEq,uM,mZ,List.cons.injEq,and_true] at h7
  obtain⟨⟨rfl,rfl,rfl⟩,rfl⟩:=h7
  dsimp only
  refine lR ?_
  refine ae ?_
  cases hg:rC z2 with
  | none=>
   refine VG (VV (u:=zJ none) (fun Fr w hF hw _=>hg▸CM Fr w z2 yg) Z ?_)
   refine av ?_
   refine VG (VT (vs:=bw.cells ⟨0,bT [],bT [],0⟩) (cs':=({ f with entry:=⟨x1,y1,z1,⟨0,bT [],bT [],0⟩⟩ }:aB).cells ey) 0 Z Z Z Z (by show 19+4≤29;omega) Z Z Z ?_)
   refine av ?_
   exact Ih
  | some o=>
   refine VG (VV (u:=zJ (some o)) (fun Fr w hF hw _=>hg▸CM Fr w z2 yg) Z ?_)
   refine av ?_
   refine VG (VT (vs:=o.cells) (cs':=({ f with entry:=⟨x1,y1,z1,o⟩ }:aB).cells ey) 0 Z Z Z Z (by show 19+4≤29;omega) Z Z Z ?_)
   refine av ?_
   exact⟨(0,[],true,_),k_.ok Z Cb,aH,B2 (IP 0 Z aa.nil)⟩
 rw[if_neg k4]
 refine ae ?_
 refine CE Z (fun k8=>?_) (fun k8=>CK ?_)
 ·rw[if_pos k8]
  refine ae ?_
  refine VG (VK (Lc:=[]) (fun Fr w hF hw hS=>QT Fr w s hs) Z Z ?_)
  cases hg:jJ s with
  | none=>
   rintro _ _ ⟨rfl,rfl⟩
   refine av ?_
   refine VG (VT (vs:=lj) (cs':=({ f with dW:=0,drain:=0 }:aB).cells ey) 0 Z Z Z Z (by show 23+3≤29;omega) Z Z Z ?_)
   refine av ?_
   exact Ih
  | some c=>
   rintro _ _ ⟨ma,mc,rfl,rfl⟩
   refine av ?_
   refine VG (VT (vs:=c.cells ma mc) (cs':=({ f with dW:=c.ar,drain:=c.drain }:aB).cells (ma,c.ms.length,mc)) 1 Z Z Z Z (by show 23+3≤29;omega) Z Z Z ?_)
   refine av ?_
   exact⟨(0,[],true,_),k_.ok Z ⟨ma,mc,Z⟩,aH,(bb [1,0]).aj⟩
 rw[if_neg k8]
 by_cases hq:s=[]
 ·subst hq
  exact⟨(0,[],true,_),k_.ok (if_pos Z) Cb,aH,B2 aa.refl⟩
 ·exact⟨(0,s,true,[]),k_.bad (if_neg hq) (fun h=>hq h.2.2),aH,aa.nil.aj⟩
end Cl
namespace Cl
open Go Vg T Api Ch
attribute [local irreducible] VO VC VA
theorem W3(f:aB)(g:jk){o:Nat}(n:Int)(h:sP o=true):(f.cells g).set o (.int .i64 n)=(uu f o n).cells g:=by
 have hm:o∈[1,2,3,4,5,6,15,26,27,28]:=by unfold sP at h;exact of_decide_eq_true h
 simp only[iD,oB,or_false] at hm
 rcases hm with rfl | rfl | rfl | rfl | rfl | rfl | rfl | rfl | rfl | rfl<;>rfl
theorem M5(g:jk):∀(os:List Nat) (ks:List Int) (f:aB),(∀o∈os,sP o=true)→pR (f.cells g) os ks=(oZ f os ks).cells g
 | o::os,k::ks,f,h=>by
  show pR ((f.cells g).set o (.int .i64 k)) os ks=(oZ (uu f o k) os ks).cells g
  rw[W3 f g k (h o (qZ ..)),M5 g os ks _ fun o ho=>h o (kW _ ho)]
 | [],_,_,_=>rfl
 | _::_,[],_,_=>rfl
theorem Sw{s:Bs}{c:aV}(h:jJ s=some c):eN c=0:=by
 unfold jJ at h
 repeat' split at h
 all_goals first | cases h;done | skip
 all_goals simp only[Option.some.injEq] at h
 all_goals subst h
 all_goals rename_i hh
 all_goals exact hh.2
theorem Mt{f:aB}{s:Bs}{y:aB×List aS}(h:nE f s=some y):y.2.length≤6:=by
 unfold nE at h
 by_cases k1:f.kind=1
 ·rw[if_pos k1] at h
  split at h
  ·cases h
  ·cases h;exact bH _
 rw[if_neg k1] at h
 by_cases k2:f.kind=2
 ·rw[if_pos k2] at h
  repeat' split at h
  all_goals first | (cases h;done) | (cases h;exact bH _)
 rw[if_neg k2] at h
 by_cases k4:f.kind=4
 ·rw[if_pos k4] at h
  repeat' split at h
  all_goals first | (cases h;done) | (cases h;exact bH _)
 rw[if_neg k4] at h
 by_cases k8:f.kind=8
 ·rw[if_pos k8] at h
  split at h
  ·cases h
  ·rename_i c hc
   cases h
   have:=rn (Sw hc)
   exact this.2.1
 rw[if_neg k8] at h
 split at h
 ·cases h;exact bH _
 ·cases h
def RZ(o:Option (aB×List aS))(v:Value)(L:List HP):Prop:=match o with
 | some x=>∃a cap,v=.tuple #[.agg (x.1.cells (a,x.2.length,cap)).toArray,.int .i64 0]∧L=[aq aP 2 a x.2.length cap (flat aD x.2)]
 | none=>v=.tuple #[.agg (aB.zero.cells ey).toArray,.int .i64 10]∧L=[]
theorem R0{s:Bs}:ax Tryz.prog 112 [.string (bT s)] Fr w [] (RZ (getM s)):=by
 refine TF 39 Tryz.func112 Z yp aC Z Z ?_
 refine CS (CG (VG (VO.alloc Z fun b2=>?_)))
 refine ae ?_
 refine CP (p:=(512:Int)<(bT s).size) Z (fun h1=>?_) (fun h1=>CK ?_)
 ·rw[iF] at h1
  refine ae ?_
  refine Bf ?_
  refine Ii ?_
  refine av ?_
  exact CR (an.dt 2 3 Z Z Z (aw.many (ds:=aB.zero.cells ey) 0 Z Z) Z aa.nil.aj (by rw[show getM s=none from(by rw[getM,if_pos yg])];exact⟨rfl,Z⟩))
 rw[iF] at h1
 have hs:s.length≤1000000:=by omega
 have hG:getM s=_:=if_neg yg
 refine ae ?_
 refine VG (VO.alloc Z fun b4=>?_)
 refine ae ?_
 refine VG (VO.buildSlice (n:=1) (pv:=[(0,pV b4)]) (flat (gz b4) [0]) Z Z Z Z yy Z fun sb=>?_)
 refine VO.aj (L':=[pt b4 (aB.zero.cells ey) gK] ++ [pt b2 (aB.zero.cells ey) gK,pt sb (flat (gz b4) [0]) jK]) (bb [1,1,0]).aj ?_
 refine VG (VK (Lc:=[pt b4 (aB.zero.cells ey) gK]) (fun Fr w hF hw hS=>zV Fr w (os:=[0]) hs (g_ Z) (BK ⟨_,Z⟩) (Da (hS.aA 1 Z))) Z Z ?_)
 rintro _ _ ⟨⟨ks,r,ok⟩,hI,rfl,rfl⟩
 have hl:=hI.len
 have hk1:=hI.ks
 have ht:=hI.t
 have hf:=hI.f
 dsimp only at hl hk1 ht hf
 obtain⟨k,rfl⟩:∃x,ks=[x]:=by
  match ks,hk1 with
  | [x],_=>exact⟨x,rfl⟩
 rw[show([0]:List Nat).length=1 from rfl,Ck] at ht hf
 show VO _ _ _ _ _ [pt b4 (({ aB.zero with kind:=k }:aB).cells ey) gK,pt b2 (aB.zero.cells ey) gK,pt sb (flat (gz b4) [0]) jK] _
 refine av ?_
 cases ok with
 | false=>
  have hu:cd s=none:=by simpa using hf rfl
  rw[hu] at hG
  refine fV ?_
  refine ae ?_
  refine VG (VY 27 true Z Z ?_)
  refine av ?_
  refine VG (VY 32 true Z Z ?_)
  refine kq ?_
  refine Bf ?_
  refine O5 ?_
  refine av ?_
  exact O6
 | true=>
 have hu:cd s=some (k,r):=by
  have:=ht rfl
  cases hx:cd s with
  | none=>rw[hx] at this;cases this
  | some x=>rw[hx] at this;simp at this;rw[←this.1,←this.2]
 rw[hu] at hG
 dsimp only at hG
 clear ht hf hI hk1
 have hof:∀o∈fv k,sP o=true:=fun o ho=>Gw k o ho
 have hol:=Gx k
 refine lR ?_
 refine ae ?_
 refine VG (VK (Lc:=[]) (fun Fr w hF hw hS=>Gu Fr w (fb:=b4) (f:={ aB.zero with kind:=k }) (g:=ey) (hS.aA 0 Z)) Z Z ?_)
 rintro _ _ ⟨na,nc,rfl,rfl⟩
 show VO _ _ _ _ _ [aq jK 1 na (fv k).length nc (flat (gz b4) (fv k)),pt b4 (({ aB.zero with kind:=k }:aB).cells ey) gK,pt b2 (aB.zero.cells ey) gK,pt sb (flat (gz b4) [0]) jK] _
 refine VO.aj (L':=[pt b4 (({ aB.zero with kind:=k }:aB).cells ey) gK] ++ [pt b2 (aB.zero.cells ey) gK,aq jK 1 na (fv k).length nc (flat (gz b4) (fv k))]) (bb [1,1,0]).aj ?_
 refine VG (VK (Lc:=[pt b4 (({ aB.zero with kind:=k }:aB).cells ey) gK]) (fun Fr w hF hw hS=>zV Fr w (s:=r) (os:=fv k) yg yg (fun o ho=>⟨_,E6 _ _ (hof o ho)⟩) (aT.aq (vx b4) (hS.at_ 1 Z))) Z Z ?_)
 rintro _ _ ⟨⟨ks,r2,ok2⟩,hI,rfl,rfl⟩
 have hl2:=hI.len
 have ht:=hI.t
 have hf:=hI.f
 dsimp only at hl2 ht hf
 rw[M5 _ _ _ _ hof]
 generalize hF2:oZ ({ aB.zero with kind:=k }:aB) (fv k) ks=F
 show VO _ _ _ _ _ [pt b4 (F.cells ey) gK,pt b2 (aB.zero.cells ey) gK,aq jK 1 na (fv k).length nc (flat (gz b4) (fv k))] _
 refine av ?_
 cases ok2 with
 | false=>
  rw[hf rfl] at hG
  refine VG (VY 27 true Z Z ?_)
  refine av ?_
  refine VG (VY 32 true Z Z ?_)
  refine kq ?_
  refine Bf ?_
  refine O5 ?_
  refine av ?_
  exact O6
 | true=>
 rw[ht rfl] at hG
 dsimp only at hG
 rw[hF2] at hG
 refine VG (VY 27 false Z Z ?_)
 refine av ?_
 refine VG (VK (Lc:=[pt b4 (F.cells ey) gK]) (fun Fr w hF hw hS=>Sn Fr w (s:=r2) (f:=F) yg) Z Z ?_)
 cases hR:nE F r2 with
 | none=>
  rw[hR] at hG
  rintro _ _ ⟨rfl,rfl⟩
  refine av ?_
  refine VG (VY 32 true Z Z ?_)
  refine kq ?_
  refine Bf ?_
  refine Ii ?_
  refine av ?_
  exact CR (an.dt 2 3 Z Z Z (aw.many (ds:=aB.zero.cells ey) 0 Z Z) Z aa.nil.aj IE)
 | some y=>
 have hms:=Mt hR
 obtain⟨f,ms⟩:=y
 rw[hR] at hG
 dsimp only at hG hms
 rintro _ _ ⟨rfl,ma,mc,rfl⟩
 show VO _ _ _ _ _ [pt b4 (f.cells (ma,ms.length,mc)) gK,aq aP 2 ma ms.length mc (flat aD ms),pt b2 (aB.zero.cells ey) gK,aq jK 1 na (fv k).length nc (flat (gz b4) (fv k))] _
 refine av ?_
 refine VG (VY 32 false Z Z ?_)
 refine av ?_
 refine Ij ?_
 refine VG (VV (fun Fr w hF hw hS=>Ah Fr w (f:=f) (ms:=ms) (aT.aq cu (hS.at_ 1 Z)) yg) Z ?_)
 refine av ?_
 refine VC.fq Z (fun h5=>?_) (fun h5=>CK ?_)
 ·rw[if_neg (by rw[h5];decide)] at hG
  refine av ?_
  refine Bf ?_
  refine VG (VT (vs:=aB.zero.cells ey) (cs':=aB.zero.cells ey) 2 Z Z Z Z (NR _) Z Z Z ?_)
  refine av ?_
  exact CR (an.dt 2 3 Z Z Z (aw.many (ds:=aB.zero.cells ey) 2 Z Z) Z aa.nil.aj IE)
 rw[if_pos h5] at hG
 refine av ?_
 refine Ij ?_
 refine VG (VT (vs:=f.cells (ma,ms.length,mc)) (cs':=f.cells (ma,ms.length,mc)) 2 Z Z Z Z (NR _) Z Z Z ?_)
 refine av ?_
 exact CR (an.dt 2 3 Z Z Z (aw.many (ds:=f.cells (ma,ms.length,mc)) 2 Z Z) Z (L':=[aq aP 2 ma ms.length mc (flat aD ms)]) (IP 1 Z aa.nil).aj (by rw[hG];exact⟨_,_,Z,Z⟩))
end Cl
namespace Cl
open Go Vg T Api Ch Rep
attribute [local irreducible] VO VC VA
abbrev vl:TypeId:=116
abbrev lJ:TypeId:=195
abbrev An:TypeId:=161
abbrev zd:=List ByteArray×(Option Addr×Nat)
abbrev lY:=bE×zd
theorem sQ:ky Tryz.prog An fN:=ky.ii Tryz.underlying161 yp yy yy rfl rfl rfl rfl Tryz.underlying3 (aC.look (t:=3) rfl) rfl
def iQ(v:zd):Value:=.slice v.2.1 v.1.length v.2.2
def jf(x:lY):HP:=aq qO 1 x.2.2.1 x.2.1.length x.2.2.2 (flat fx x.2.1)
def mN(S:aX)(b:Nat):List Value:=[.int .i64 S.cap,.map (some b)]
def Aa(p:Nat)(S:aX)(b:Nat)(X:List lY):List HP:=pt p (mN S b) vl::fG fN iQ b X::X.map jf
def il(X:List lY):List (bE×List ByteArray):=X.map fun x=>(x.1,x.2.1)
def cH(p:Nat)(S:aX):HP:=hex fun y:Nat×List lY=>bF (kI (il y.2=S.mail)::Aa p S y.1 y.2)
theorem bd.aU(p:Nat)(S:aX):bd (ι:=Nat×List lY) (cH p S) (fun y=>il y.2=S.mail) (fun y=>Aa p S y.1 y.2):=fun w ids ⟨x,h⟩ hn=>by
 obtain⟨i1,i2,rfl,⟨rfl,h1⟩,h2⟩:=h
 exact⟨x,h1,i2,h2,hn,fun _ h=>h⟩
theorem aa.aU{p:Nat}{S:aX}{L K:List HP}(b:Nat)(X:List lY)(hX:il X=S.mail)(h:aa L (Aa p S b X++K)):aa L (cH p S::K):=aa.ex (f:=fun y:Nat×List lY=>bF (kI (il y.2=S.mail)::Aa p S y.1 y.2)) (b,X) (aa.sep (aa.pure hX h))
structure aX.Ok(S:aX):Prop where
 c0:1≤S.cap
 c1:S.cap≤64
 each:∀x∈S.mail,x.2.length≤64
 nd:(S.mail.map Prod.fst).Nodup
theorem F6{κ α β:Type}[DecidableEq κ](f:α→β)(a:κ):∀l:List (κ×α),bX (l.map fun x=>(x.1,f x.2)) a=(bX l a).map f
 | []=>rfl
 | (k,v)::r=>by
  simp only[kV,bX]
  split
  ·rfl
  ·exact F6 f a r
theorem F7{κ α β:Type}[DecidableEq κ](f:α→β)(a:κ)(u:α):∀l:List (κ×α),(cS l a u).map (fun x=>(x.1,f x.2))=cS (l.map fun x=>(x.1,f x.2)) a (f u)
 | []=>rfl
 | (k,v)::r=>by
  simp only[kV,cS]
  split
  ·rfl
  ·simp only[kV,F7 f a u r]
theorem Lb{κ α β:Type}[DecidableEq κ](f:α→β)(a:κ):∀l:List (κ×α),(gx l a).map (fun x=>(x.1,f x.2))=gx (l.map fun x=>(x.1,f x.2)) a
 | []=>rfl
 | (k,v)::r=>by
  simp only[kV,gx]
  split
  ·rfl
  ·simp only[kV,Lb f a r]
theorem F2(X:List lY)(p:bE):∃(old:List ByteArray) (a:Option Addr) (c:Nat) (R:List HP),old=(bX (il X) p).getD []∧((bX X p).map iQ).getD (.slice none 0 0)=.slice a old.length c ∧
  aa (X.map jf) (aq qO 1 a old.length c (flat fx old)::R)∧(∀v:zd,aa (aq qO 1 v.2.1 v.1.length v.2.2 (flat fx v.1)::R) ((cS X p v).map jf))∧aa R ((gx X p).map jf):=by
 have eg:bX (il X) p=(bX X p).map Prod.fst:=F6 Prod.fst p X
 cases hl:lI X p 0 with
 | none=>
  obtain⟨h1,h2,h3,h4⟩:=vm hl
  refine⟨[],none,0,X.map jf,by rw[eg,h1];rfl,by rw[h1];rfl,aa.cK aa.refl,fun v=>?_,by rw[h4];exact aa.refl⟩
  rw[h3 v,gn]
  exact aa.perm (lV (l₁:=[jf (p,v)]))
 | some q=>
  obtain⟨j,v0⟩:=q
  obtain⟨_,h2,h3,h4,h5⟩:=w7 hl
  rw[Nat.sub_zero] at h2 h4 h5
  have e1:(X.map jf)[j]?=some (jf (p,v0)):=by rw[dH,h2];rfl
  have e2:(X.map jf).eraseIdx j=(X.eraseIdx j).map jf:=(map_eraseIdx jf X j).symm
  have hj:j<X.length:=(bP.1 h2).1
  refine⟨v0.1,v0.2.1,v0.2.2,(X.map jf).eraseIdx j,by rw[eg,h3];rfl,by rw[h3];rfl,aa.perm (oW e1),fun v=>?_,by rw[h5,e2];exact aa.refl⟩
  rw[h4 v]
  have e3:((X.set j (p,v)).map jf)[j]?=some (jf (p,v)):=by rw[dH,iR hj];rfl
  have e4:((X.set j (p,v)).map jf).eraseIdx j=(X.map jf).eraseIdx j:=by rw[gZ,List.eraseIdx_set_eq]
  refine aa.perm ?_
  have:=(oW e3).symm
  rw[e4] at this
  exact this
section
variable {p:Nat} {S:aX} {b:Nat} {X:List lY}
theorem K5(h:bq Fr w p (mN S b)):ax Tryz.prog 77 [.pointer (some ⟨p,0,none⟩)] Fr w [] (fun v L=>v=.bool false∧L=[]):=by
 refine TF 12 Tryz.func77 Z yp aC Z Z ?_
 refine av ?_
 refine AZ ?_
 refine ji ?_
 refine VG (VI (KZ Tryz.underlying114 Z Z) ?_)
 refine av ?_
 exact o_
theorem TP{n:Int}(h0:1≤n)(h1:n≤64):ax Tryz.prog 16 [.int .i64 n] Fr w [] (fun v L=>∃p,v=.tuple #[.pointer (some ⟨p,0,none⟩),.int .i64 0]∧L=[cH p ⟨n,[]⟩]):=by
 refine TF 14 Tryz.func16 Z yp aC Z Z ?_
 refine ae ?_
 refine VG (VY 6 false Z (DF yg) ?_)
 refine av ?_
 refine CP (p:=64<n) Z (fun h=>absurd h yg) (fun h=>CK ?_)
 refine av ?_
 refine VG (VO.vv (aK.makeMap fN iQ) ?_)
 rintro _ _ ⟨m,rfl,rfl⟩
 refine VG (VI (LB (pv:=[(0,.int .i64 n),(1,.map (some m))]) (mN ⟨n,[]⟩ m) Z Z Z yp Z) ?_)
 refine VG (VB (vs:=mN ⟨n,[]⟩ m) Z fun q=>?_)
 refine av ?_
 exact CR (an.cV 2 3 Z Z Z (aa.aU (S:=⟨n,[]⟩) (K:=[]) m [] Z aa.refl).aj ⟨q,Z,Z⟩)
theorem I5(n:Int):ax Tryz.prog 148 [.int .i64 n] Fr w [] (fun v L=>v=.bool (h_ n)∧L=[]):=by
 unfold h_
 refine TF 21 Tryz.func148 Z yp aC Z Z ?_
 refine av ?_
 by_cases h0:0≤n
 ·refine VG (VY 5 true Z (DT h0) ?_)
  refine av ?_
  by_cases h6:n<6
  ·refine VG (VY 9 true Z (DT h6) ?_)
   refine av ?_
   refine VG (VY 13 true Z Z ?_)
   refine av ?_
   exact CR (an.bool 2 Z Z (by simp[h0,h6]) ER ⟨rfl,Z⟩)
  refine VG (VY 9 false Z (DF h6) ?_)
  refine av ?_
  by_cases h16:n=16
  ·refine VG (VY 13 true Z (beq_iff_eq.2 h16) ?_)
   refine av ?_
   exact CR (an.bool 2 Z Z (by simp[h16]) ER ⟨rfl,Z⟩)
  refine VG (VY 13 false Z (beq_eq_false_iff_ne.2 h16) ?_)
  refine av ?_
  by_cases h32:32≤n
  ·refine VG (VY 16 true Z (DT h32) ?_)
   refine av ?_
   exact CR (an.bool 2 Z Z (by simp[h0,h6,h16,h32]) ER ⟨rfl,Z⟩)
  refine VG (VY 16 false Z (DF h32) ?_)
  refine av ?_
  exact CR (an.bool 2 Z Z (by simp[h0,h6,h16,h32]) ER ⟨rfl,Z⟩)
 refine VG (VY 5 false Z (DF h0) ?_)
 refine av ?_
 refine VG (VY 9 false Z Z ?_)
 refine av ?_
 refine VG (VY 13 false Z (beq_eq_false_iff_ne.2 yg) ?_)
 refine av ?_
 refine VG (VY 16 false Z (DF yg) ?_)
 refine av ?_
 exact CR (an.bool 2 Z Z yh ER ⟨rfl,Z⟩)
theorem aK.w8{Zx0:Cx}{κ α:Type}[DecidableEq κ]{c:κ→Value}{d:α→Value}{b:Nat}{xs:List (κ×α)}{e:Env}{L:List HP}{T kt et:TypeId}{te:TI}{x y:Operand}(K:ky Zx0.P kt c)(hT:Zx0.P.underlying T=some (.map kt et))(hE:bR Zx0.tab et=some te){a:κ}(v:Value)(hx:ev e x=some (.map (some b)))(hk:ev e y=some (c a))(hM:di Zx0 L c d b xs)(hv:((bX xs a).map d).getD te.zero=v):
  aK Zx0 (.lookup T x y false) e L (fun u L'=>u=v∧L'=L):=hv▸aK.lookup (ok:=false) K hT hE hx hk hM
theorem VA.w8{Zx0:Cx}{κ α:Type}[DecidableEq κ]{c:κ→Value}{d:α→Value}{b:Nat}{xs:List (κ×α)}{ops:Array Oper}{G:GS}{pl:iE}{S:kA}{e:Env}{L:List HP}{Q:Env→List HP→Prop}{dst:Option Tmp}{ty:TypeId}{pos:String}{after:Array Edge}{guard:Option (Nat×Bool)}
  {i:Nat} {T kt et:TypeId} {te:TI} {x y:Operand} {a:κ} (KO:ky Zx0.P kt c) (hT:Zx0.P.underlying T=some (.map kt et)) (hE:bR Zx0.tab et=some te) (v:Value)
  (hi:ops.toList[i]?=some ⟨dst,.lookup T x y false,ty,pos,after,guard⟩) (hx:ev e x=some (.map (some b))) (hk:ev e y=some (c a)) (hM:di Zx0 L c d b xs) (hv:((bX xs a).map d).getD te.zero=v)
  (hn:VA Zx0 ops G pl ((i,pq c d b xs)::S) (bW dst v e) L Q)
  (hg:cB ops G guard=some true:=by rfl) (hd:cI Zx0.n dst=true:=by rfl) (hf:cz G dst=true:=by rfl):VA Zx0 ops G (.take i pl) S e L Q:=
 VA.lookup (ok:=false) KO hT hE hi hx hk hM (by subst hv;exact hn) hg hd hf
theorem Ty(h:bq Fr w p (mN S b))(hm:qk Fr w fN iQ b X)(hX:il X=S.mail)(x y:Int):ax Tryz.prog 36 [.pointer (some ⟨p,0,none⟩),.int .i64 x,.int .i64 y] Fr w [] (fun v L=>v=.int .i64 (S.list (x,y)).length∧L=[]):=by
 obtain⟨old,a,c,R,e1,e2,_⟩:=F2 X (x,y)
 refine TF 18 Tryz.func36 Z yp aC Z Z ?_
 refine av ?_
 refine Ef ?_
 refine lS ?_
 refine ji ?_
 refine Eg ?_
 refine VG (VO.sV (aK.w8 sQ Tryz.underlying114 Z (a:=(x,y)) (.slice a old.length c) Z Z (di.aA hm) e2) ?_)
 refine av ?_
 exact CR (an.tmp 6 Z Z ER ⟨by rw[aX.list,←hX,←e1],Z⟩)
end
end Cl
namespace Cl
open Go Vg T Api Ch Rep
attribute [local irreducible] VO VC VA
def eO(x y:Int)(t:ByteArray):List Value:=[.int .i64 x,.int .i64 y,.string t]
theorem z_{S:aX}(ok:S.Ok)(p:bE):(S.list p).length≤64:=by
 unfold aX.list
 cases h:bX S.mail p with
 | none=>exact bH _
 | some v=>exact ok.each _ (ue h)
theorem Ac{κ α:Type}[DecidableEq κ]{a:κ}{u:α}:∀{l:List (κ×α)} {x:κ×α},x∈cS l a u→x∈l∨x=(a,u)
 | [],x,h=>.inr (by simpa[cS] using h)
 | (k,v)::r,x,h=>by
  unfold cS at h
  split at h
  ·rename_i hk
   rcases iD.1 h with h | h
   ·right;rw[h,hk]
   ·left;exact kW _ h
  ·rcases iD.1 h with h | h
   ·left;rw[h];exact qZ
   ·rcases Ac h with h | h
    ·left;exact kW _ h
    ·right;exact h
theorem aX.Ok.put{S:aX}(ok:S.Ok)(p:bE){l:List ByteArray}(h:l.length≤64):({ S with mail:=cS S.mail p l }:aX).Ok:=
 ⟨ok.c0,ok.c1,fun x hx=>(Ac hx).elim (ok.each x) (fun e=>by rw[e];exact h),T0 ok.nd _ _⟩
theorem aX.Ok.del{S:aX}(ok:S.Ok)(p:bE):({ S with mail:=gx S.mail p }:aX).Ok:=
 ⟨ok.c0,ok.c1,fun x hx=>ok.each x ((Lf _ _).mem hx),TW ok.nd _⟩
theorem aX.Ok.send{S:aX}(ok:S.Ok)(p:bE)(t:ByteArray):(S.send p t).Ok:=by
 unfold aX.send
 split
 ·exact ok
 rename_i h
 refine ok.put p ?_
 have:=z_ ok p
 have:=ok.c1
 rw[a8]
 have h0:S.kS p t=0:=by simpa using h
 unfold aX.kS at h0
 split at h0
 ·cases h0
 split at h0
 ·cases h0
 split at h0
 ·cases h0
 ·simp;omega
section
variable {p:Nat} {S:aX} {b:Nat} {X:List lY}
theorem He{x y:Int}{t:ByteArray}(h:h_ x=false∨h_ y=false∨x=y):S.kS (x,y) t=2:=by unfold aX.kS;exact if_pos h
theorem WU{x y:Int}{t:ByteArray}(h:¬(h_ x=false∨h_ y=false∨x=y)):S.kS (x,y) t=if 512<t.size then 3 else if S.cap≤(S.list (x,y)).length then 60 else 0:=by unfold aX.kS;exact if_neg h
theorem WV{q:bE}{t:ByteArray}{e:Int}(h:S.kS q t=e)(he:e≠0):S.send q t=S:=by unfold aX.send;rw[h,if_pos he]
theorem La(ok:S.Ok)(x y:Int)(t:ByteArray):ax Tryz.prog 95 [.pointer (some ⟨p,0,none⟩),.agg (eO x y t).toArray] Fr w [cH p S]
  (fun v L=>v=.int .i64 (S.kS (x,y) t)∧L=[cH p (S.send (x,y) t)]):=by
 have hll:=z_ ok (x,y)
 have hc1:=ok.c1
 refine TF 62 Tryz.func95 Z yp aC Z Z ?_
 refine VC.bz 0 Z (bd.aU p S) ?_
 rintro⟨b,X⟩ hX
 dsimp only at hX
 refine Ik ?_
 obtain⟨old,a,c,R,e1,e2,e3,e4,e5⟩:=F2 X (x,y)
 have eo:old=S.list (x,y):=by rw[e1,hX];rfl
 refine CS (CG (VG (VB (vs:=eO x y t) Z fun mb=>?_)))
 refine EE ?_
 refine EE ?_
 refine ae ?_
 refine Eg ?_
 refine VG (VO.alloc Z fun kb=>?_)
 refine O7 ?_
 show VO _ _ _ _ _ (pt kb [.int .i64 x,.int .i64 y] An::pt mb (eO x y t) lJ::pt p (mN S b) vl::fG fN iQ b X::X.map jf) _
 have fin:dd ⟨Tryz.prog,tab,aC,62,Fr,w⟩ (pt kb [.int .i64 x,.int .i64 y] An::pt mb (eO x y t) lJ::pt p (mN S b) vl::fG fN iQ b X::X.map jf) [cH p S]:=
  (aa.aU (K:=[]) b X hX (by rw[br];exact IP 2 rfl (IP 2 rfl (aa.app (L:=[_,_]) (M:=[]) aa.nil aa.refl)))).aj
 refine ae ?_
 refine VG (VV (fun Fr w hF hw hS=>K5 Fr w (hS.aA 2 Z)) Z ?_)
 refine r9 ?_
 refine dG ?_
 refine VG (VV (fun Fr w hF hw hS=>I5 Fr w x) Z ?_)
 refine dG ?_
 by_cases k1:h_ x=true
 rotate_left
 ·have hE:=He (S:=S) (x:=x) (y:=y) (t:=t) (.inl tx)
  refine VG (VY 19 true Z tx ?_)
  refine dG ?_
  refine VG (VY 25 true Z Z ?_)
  refine dG ?_
  refine lR ?_
  refine av ?_
  exact Bg
 refine VG (VY 19 false Z tx ?_)
 refine dG ?_
 refine VG (VV (fun Fr w hF hw hS=>I5 Fr w y) Z ?_)
 refine dG ?_
 by_cases k2:h_ y=true
 rotate_left
 ·have hE:=He (S:=S) (x:=x) (y:=y) (t:=t) (.inr (.inl (by simpa using k2)))
  refine VG (VY 25 true Z (by simpa using k2) ?_)
  refine dG ?_
  refine lR ?_
  refine av ?_
  exact Bg
 refine VG (VY 25 false Z (by simpa using k2) ?_)
 refine dG ?_
 refine CE Z (fun k3=>?_) (fun k3=>?_)
 ·have hE:=He (S:=S) (x:=x) (y:=y) (t:=t) (.inr (.inr k3))
  refine av ?_
  exact Bg
 have hN:=WU (S:=S) (t:=t) (by rintro(h | h | h);rw[k1] at h;cases h;rw[k2] at h;cases h;exact k3 h:¬(h_ x=false∨h_ y=false∨x=y))
 refine dG ?_
 refine CP (p:=512<(t.size:Int)) Z (fun k4=>?_) (fun k4=>?_)
 ·have hE:S.kS (x,y) t=3:=by rw[hN,if_pos yg]
  refine av ?_
  exact Bg
 refine av ?_
 refine CD (ts 0 13 .nil) yp yr ?_
 refine jh ?_
 refine AG (VA.dE 0 [.int .i64 x,.int .i64 y] Z Z Z Z Z ?_)
 refine AG (VA.w8 (a:=(x,y)) sQ Tryz.underlying114 Z (.slice a old.length c) Z Z Z (di.one 3 Z) e2 ?_)
 refine jh ?_
 refine CP (p:=S.cap≤(old.length:Int)) Z (fun k5=>?_) (fun k5=>CK ?_)
 ·have hE:S.kS (x,y) t=60:=by rw[hN,if_neg yg,←eo,if_pos k5]
  refine av ?_
  exact Bg
 have hE:S.kS (x,y) t=0:=by rw[hN,if_neg yg,←eo,if_neg k5]
 have en:(old ++ [t]).length=old.length+1:=by rw[a8];rfl
 refine CN (L':=aq qO 1 a old.length c (flat fx old)::pt kb [.int .i64 x,.int .i64 y] An::pt mb (eO x y t) lJ::pt p (mN S b) vl::fG fN iQ b X::R) ?_ ?_
 ·refine((aa.app (L:=[_,_,_,_]) (M:=[_,_,_,_]) aa.refl e3).trans (IP 4 Z aa.refl)).aj
 refine ae ?_
 refine CD (ts 0 7 (.only 7 (.only 8 (ts 9 1 (ts 11 1 (.only 10 (.only 12 .nil))))))) yp yr ?_
 refine iB ?_
 refine Bh ?_
 refine iB ?_
 refine AG (AO (aK.buildSlice (n:=1) (pv:=[(0,.string t)]) (cells:=fx t) Z Z Z Z yy (eY Z Z Z)) Z ?_ ?_)
 ·rintro _ _ ⟨nb,rfl,rfl⟩
  exact yv
 rintro _ _ ⟨nb,rfl,rfl⟩
 refine AG (AO (aK.T4 5 sQ Tryz.underlying114 Z (.slice a old.length c) (a:=(x,y)) Z Z Z e2) Z ?_ ?_)
 ·rintro _ _ ⟨st,rfl,rfl⟩
  exact yv
 rintro _ _ ⟨st,rfl,rfl⟩
 refine iB ?_
 refine AG (AO (aK.append (m:=1) (news:=fx t) 1 Z Z Z Z Z Z Z (dm.pt 0 Z Z Z) Z (by show(old.length+1)*16≤_;omega) yg) Z ?_ ?_)
 ·rintro _ _ ⟨a1,c1,rfl,hc1,rfl⟩
  exact yv
 rintro _ _ ⟨a1,c1,rfl,hc1,rfl⟩
 refine iB ?_
 refine AG (AO (aK.entryStore 5 (c:=fN) (d:=iQ) (xs:=X) (a:=(x,y)) (u:=(old ++ [t],(a1,c1))) Z Z (by show some (Value.slice a1 (old.length+1) c1)=some (.slice a1 (old ++ [t]).length c1);rw[en]) Z) Z ?_ ?_)
 ·rintro _ _ ⟨rfl,rfl⟩
  exact yv
 rintro _ _ ⟨rfl,rfl⟩
 refine pf ?_
 refine CR (an.tmp 4 Z Z (L':=[cH p (S.send (x,y) t)]) ?_ ⟨by rw[hE],Z⟩)
 have es:S.send (x,y) t={ S with mail:=cS S.mail (x,y) (old ++ [t]) }:=by unfold aX.send;rw[hE,if_neg yy,eo]
 rw[es]
 refine(aa.aU (S:={ S with mail:=cS S.mail (x,y) (old ++ [t]) }) (K:=[]) b (cS X (x,y) (old ++ [t],(a1,c1))) (by show il _=cS S.mail (x,y) (old ++ [t]);rw[←hX];exact F7 Prod.fst _ _ _) ?_).aj
 rw[br]
 refine IP 4 Z (IP 4 Z ?_)
 have e4':=e4 (old ++ [t],(a1,c1))
 dsimp only at e4'
 rw[fu,zF,en] at e4'
 exact(aa.app (L:=[_]) (L':=_) (M:=[_]) aa.refl (aa.app (L:=[_,_,_]) (M:=[]) aa.nil aa.refl)).trans e4'
end
end Cl
namespace Cl
open Go Vg T Api Ch Rep
attribute [local irreducible] VO VC VA
def tX(S:aX)(p:bE)(i:Int):Value:=match S.find p i with
 | none=>.tuple #[.agg (eO 0 0 ⟨#[]⟩).toArray,.int .i64 4]
 | some t=>.tuple #[.agg (eO p.1 p.2 t).toArray,.int .i64 0]
theorem wT{S:aX}{p:bE}{i:Int}(h:S.find p i=none):tX S p i=.tuple #[.agg (eO 0 0 ⟨#[]⟩).toArray,.int .i64 4]:=by unfold tX;rw[h]
theorem zz{S:aX}{p:bE}{i:Int}{t:ByteArray}(h:S.find p i=some t):tX S p i=.tuple #[.agg (eO p.1 p.2 t).toArray,.int .i64 0]:=by unfold tX;rw[h]
theorem Ld{κ α:Type}[DecidableEq κ](a:κ)(u:α):∀l:List (κ×α),gx (cS l a u) a=gx l a
 | []=>by simp[cS,gx]
 | (k,v)::r=>by
  unfold cS
  by_cases h:k=a
  ·rw[if_pos h];simp[gx,h]
  ·rw[if_neg h];simp[gx,h,Ld a u r]
theorem F1{Fr:Nat→Prop}{w:World}{A:List HP}{X:List lY}(h:a_ Fr (A++X.map jf) w):∀z∈X,aT fx 1 Fr w z.2.2.1 z.2.1:=fun z hz=>by
 obtain⟨i,hi,rfl⟩:=List.getElem_of_mem hz
 exact aT.aq rY (h.at_ (A.length+i) (by rw[qX yg,Nat.add_sub_cancel_left,dH,GE hi];rfl))
section
variable {p:Nat} {S:aX} {b:Nat} {X:List lY}
theorem KU(ok:S.Ok)(h:bq Fr w p (mN S b))(hm:qk Fr w fN iQ b X)(hr:∀z∈X,aT fx 1 Fr w z.2.2.1 z.2.1)(hX:il X=S.mail)(x y i:Int):ax Tryz.prog 114 [.pointer (some ⟨p,0,none⟩),.int .i64 x,.int .i64 y,.int .i64 i] Fr w [] (fun v L=>v=tX S (x,y) i∧L=[]):=by
 have hll:=z_ ok (x,y)
 have eg:bX S.mail (x,y)=(bX X (x,y)).map Prod.fst:=by rw[←hX];exact F6 Prod.fst _ X
 obtain⟨l,a,c,e1,e2,e3⟩:∃(l:List ByteArray) (a:Option Addr) (c:Nat),S.list (x,y)=l∧((bX X (x,y)).map iQ).getD (.slice none 0 0)=.slice a l.length c∧aT fx 1 Fr w a l:=by
  unfold aX.list
  rw[eg]
  cases hg:bX X (x,y) with
  | none=>exact⟨[],none,0,rfl,rfl,aT.nil⟩
  | some v=>exact⟨v.1,v.2.1,v.2.2,rfl,rfl,hr _ (ue hg)⟩
 have hf:S.find (x,y) i=if i<0 then none else l[i.toNat]?:=by unfold aX.find;rw[e1]
 rw[e1] at hll
 refine TF 38 Tryz.func114 Z yp aC Z Z ?_
 refine CS (CG (VG (VO.alloc Z fun rb=>?_)))
 refine av ?_
 refine Ef ?_
 refine lS ?_
 refine ji ?_
 refine Eg ?_
 refine VG (VO.sV (aK.w8 sQ Tryz.underlying114 Z (a:=(x,y)) (.slice a l.length c) Z Z (di.aA hm) e2) ?_)
 refine av ?_
 by_cases h0:i<0
 ·refine VG (VY 24 true Z (DT h0) ?_)
  refine kq ?_
  refine Il ?_
  refine yC ?_
  refine av ?_
  exact CR (an.dt 8 9 Z Z Z (aw.many (ds:=eO 0 0 ⟨#[]⟩) 0 Z Z) Z aa.nil.aj ⟨(wT (by rw[hf,if_pos h0])).symm,Z⟩)
 obtain⟨k,rfl⟩:∃k:Nat,i=k:=⟨i.toNat,by omega⟩
 rw[if_neg h0,ea] at hf
 refine VG (VY 24 false Z (DF h0) ?_)
 refine av ?_
 refine CP (p:=(l.length:Int)≤k) Z (fun h1=>?_) (fun h1=>CK ?_)
 ·refine av ?_
  refine Il ?_
  refine yC ?_
  refine av ?_
  exact CR (an.dt 8 9 Z Z Z (aw.many (ds:=eO 0 0 ⟨#[]⟩) 0 Z Z) Z aa.nil.aj ⟨(wT (by rw[hf,kr yg])).symm,Z⟩)
 have hk:k<l.length:=by omega
 have hk2:l[k]?=some l[k]:=GE hk
 generalize l[k]=t at hk2
 obtain⟨tb,to,rfl,_,hrd⟩:=aT.rd (X:=⟨Tryz.prog,tab,aC,38,Fr,w⟩) e3 hk2
 refine av ?_
 refine A3 ?_
 refine VG (VD Z Z (hrd _ _ 0 _ Z Z) ?_)
 refine av ?_
 refine VG (VI (LB (pv:=[(0,.int .i64 x),(1,.int .i64 y),(2,.string t)]) (eO x y t) Z Z Z yp Z) ?_)
 refine Im ?_
 refine av ?_
 exact CR (an.dt 8 9 Z Z Z (aw.many (ds:=eO x y t) 0 Z Z) Z aa.nil.aj ⟨(zz (by rw[hf,hk2])).symm,Z⟩)
end
end Cl
namespace Cl
open Go Vg T Api Ch Rep
attribute [local irreducible] VO VC VA
theorem R1{S:aX}{q:bE}{i:Int}{t:ByteArray}(h:S.find q i=some t):∃k:Nat,i=k∧k<(S.list q).length∧(S.list q)[k]?=some t:=by
 unfold aX.find at h
 split at h
 ·cases h
 ·exact⟨i.toNat,by omega,(bP.1 h).1,h⟩
theorem Fk{S:aX}{q:bE}{i:Int}(h:S.find q i=none):S.drop q i=(S,4):=by unfold aX.drop;rw[if_pos h]
theorem Fm{S:aX}{q:bE}{i:Int}{t:ByteArray}(h:S.find q i=some t):S.drop q i=(S.fA q i,0):=by unfold aX.drop;rw[if_neg (by rw[h];intro e;cases e)]
theorem aX.Ok.drop{S:aX}(ok:S.Ok)(q:bE)(i:Int):(S.drop q i).1.Ok:=by
 unfold aX.drop
 split
 ·exact ok
 show(S.fA q i).Ok
 have hl:=z_ ok q
 have hl2:((S.list q).eraseIdx i.toNat).length≤64:=ph (List.length_eraseIdx_le _ _) hl
 unfold aX.fA
 split
 ·exact aX.Ok.del (ok.put q hl2) q
 ·exact ok.put q hl2
section
variable {p:Nat} {S:aX} {b:Nat} {X:List lY}
theorem KT(ok:S.Ok)(x y i:Int):ax Tryz.prog 111 [.pointer (some ⟨p,0,none⟩),.int .i64 x,.int .i64 y,.int .i64 i] Fr w [cH p S]
  (fun v L=>v=tX S (x,y) i∧L=[cH p (S.drop (x,y) i).1]):=by
 have hll:=z_ ok (x,y)
 refine TF 55 Tryz.func111 Z yp aC Z Z ?_
 refine VC.bz 0 Z (bd.aU p S) ?_
 rintro⟨b,X⟩ hX
 dsimp only at hX
 refine Ik ?_
 obtain⟨old,a,c,R,e1,e2,e3,e4,e5⟩:=F2 X (x,y)
 have eo:old=S.list (x,y):=by rw[e1,hX];rfl
 refine CS (CG (VG (VO.alloc Z fun rb=>?_)))
 refine ae ?_
 refine VG (VV (fun Fr w hF hw hS=>KU Fr w ok (hS.aA 1 Z) (hS.w9 2 Z) (F1 (A:=[_,_,_]) hS) hX x y i) Z ?_)
 cases hf:S.find (x,y) i with
 | none=>
  rw[wT hf]
  refine ae ?_
  refine yC ?_
  refine vY ?_
  refine Il ?_
  refine yC ?_
  refine ae ?_
  refine CR (an.dt 8 9 Z Z Z (aw.many (ds:=eO 0 0 ⟨#[]⟩) 0 Z Z) Z (L':=[cH p S]) ?_ ⟨rfl,by rw[Fk hf]⟩)
  exact(aa.aU (K:=[]) b X hX (by rw[br];exact IP 1 Z (IP 1 Z (aa.app (L:=[_]) (M:=[]) aa.nil aa.refl)))).aj
 | some t=>
  obtain⟨k,rfl,hk,hkt⟩:=R1 hf
  rw[←eo] at hk hkt
  rw[zz hf]
  refine ae ?_
  refine Im ?_
  refine si ?_
  refine Eg ?_
  refine VG (VO.alloc Z fun kb=>?_)
  refine O7 ?_
  refine VO.aj (L':=aq qO 1 a old.length c (flat fx old)::pt kb [.int .i64 x,.int .i64 y] An::pt rb (eO x y t) lJ::pt p (mN S b) vl::fG fN iQ b X::R) ?_ ?_
  ·exact((aa.app (L:=[_,_,_,_]) (M:=[_,_,_,_]) aa.refl e3).trans (IP 4 Z aa.refl)).aj
  have hlo:old.length≤64:=by rw[eo];exact hll
  refine ae ?_
  refine CD (ts 0 14 (.only 14 (.only 15 .nil))) yp yr ?_
  refine iB ?_
  refine Bh ?_
  refine iB ?_
  refine Bh ?_
  refine AG (VA.w8 (a:=(x,y)) sQ Tryz.underlying114 Z (.slice a old.length c) Z Z Z (di.one 4 Z) e2 ?_)
  refine iB ?_
  refine pY ?_
  refine AG (AQ 0 rfl (fun Fr w hF hs hS=>aaD (a:=a) (cap:=c) Fr w hk yg) rfl rfl (ψ:=fun v H=>∃a' cap',v=.slice a' (old.eraseIdx k).length cap'∧H=aq qO 1 a' (old.eraseIdx k).length cap' (flat fx (old.eraseIdx k))) (fun v L h=>by obtain⟨a',c',h1,h2⟩:=h;exact⟨_,h2,a',c',h1,rfl⟩) ?_ ?_)
  ·rintro _ _ ⟨a1,c1,rfl,rfl⟩
   exact yv
  rintro _ _ ⟨a1,c1,rfl,rfl⟩
  refine AG (AO (aK.mapUpdate 4 (c:=fN) (d:=iQ) (xs:=X) (a:=(x,y)) (u:=(old.eraseIdx k,(a1,c1))) sQ Tryz.underlying114 Z Z Z Z) Z ?_ ?_)
  ·rintro _ _ ⟨rfl,rfl⟩
   exact yv
  rintro _ _ ⟨rfl,rfl⟩
  refine cX ?_
  have ew:S.fA (x,y) k=if (old.eraseIdx k).length=0 then { S with mail:=gx (cS S.mail (x,y) (old.eraseIdx k)) (x,y) } else { S with mail:=cS S.mail (x,y) (old.eraseIdx k) }:=by unfold aX.fA;rw[←eo,ea]
  have eX:il (cS X (x,y) (old.eraseIdx k,(a1,c1)))=cS S.mail (x,y) (old.eraseIdx k):=by rw[←hX];exact F7 Prod.fst _ _ _
  refine CS (VC.bZ (σ:=Unit) (fun _=>[(8,pV rb)]) (fun _=>[cH p (S.fA (x,y) k),pt rb (eO x y t) lJ]) (fun _=>True) ?_ ?_)
  ·refine CS (CD (ts 0 8 .nil) yp yr ?_)
   refine iB ?_
   refine Bh ?_
   refine AG (VA.w8 (a:=(x,y)) sQ Tryz.underlying114 Z (.slice a1 (old.eraseIdx k).length c1) Z Z Z (di.one 4 Z) (by rw[TY,if_pos rfl];rfl) ?_)
   refine iB ?_
   refine CE (i:=((old.eraseIdx k).length:Int)) (j:=0) Z (fun k0=>?_) (fun k0=>CK ?_)
   ·refine CD (ts 0 5 (.only 5 .nil)) yp yr ?_
    refine iB ?_
    refine Bh ?_
    refine AG (AO (aK.delete 4 (c:=fN) (d:=iQ) (xs:=cS X (x,y) (old.eraseIdx k,(a1,c1))) (a:=(x,y)) sQ Tryz.underlying114 Z Z Z) Z ?_ ?_)
    ·rintro _ _ ⟨rfl,rfl⟩
     exact yv
    rintro _ _ ⟨rfl,rfl⟩
    refine cX ?_
    refine⟨(),trivial,aH,?_⟩
    rw[ew,if_pos yg]
    refine(aa.aU (S:={ S with mail:=gx (cS S.mail (x,y) (old.eraseIdx k)) (x,y) }) b (gx (cS X (x,y) (old.eraseIdx k,(a1,c1))) (x,y)) (by show il _=gx (cS S.mail (x,y) (old.eraseIdx k)) (x,y);rw[←eX];exact Lb Prod.fst _ _) ?_).aj
    refine IP 3 Z (IP 3 Z ?_)
    refine(aa.perm (lV (l₁:=[_,_,_]) (l₂:=R))).trans (aa.app ?_ (IP 2 Z aa.nil))
    rw[Ld]
    exact e5
   ·refine⟨(),trivial,aH,?_⟩
    rw[ew,if_neg yg]
    refine(aa.aU (S:={ S with mail:=cS S.mail (x,y) (old.eraseIdx k) }) b (cS X (x,y) (old.eraseIdx k,(a1,c1))) eX ?_).aj
    refine IP 3 Z (IP 3 Z ?_)
    refine aa.trans (M:=[pt rb (eO x y t) lJ]++(cS X (x,y) (old.eraseIdx k,(a1,c1))).map jf) (IP 2 Z ?_) (aa.perm lV)
    exact(aa.app (L:=[_]) (L':=_) (M:=[_]) aa.refl (aa.app (L:=[_]) (M:=[]) aa.nil aa.refl)).trans (e4 (old.eraseIdx k,(a1,c1)))
  rintro - -
  refine ae ?_
  refine VG (VL 1 (eO x y t) Z Z Z Z ?_)
  refine VG (VT (vs:=eO x y t) (cs':=eO x y t) 1 Z Z Z Z (NR _) Z Z Z ?_)
  refine ae ?_
  exact CR (an.dt 8 9 Z Z Z (aw.many (ds:=eO x y t) 1 Z Z) Z (L':=[cH p (S.fA (x,y) k)]) (IP 0 Z aa.nil).aj ⟨rfl,by rw[Fm hf]⟩)
end
end Cl
end Go.Proofs.YtkgfhabealjjpaaGreatDoor
