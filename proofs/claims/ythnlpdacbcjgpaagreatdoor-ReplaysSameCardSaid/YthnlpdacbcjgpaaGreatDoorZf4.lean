/- Texts of the proof, put together and shortened. No condition. -/
import Derived.Test.YthnlpdacbcjgpaaGreatDoorZf3
set_option maxRecDepth 100000
set_option maxHeartbeats 16000000
set_option linter.unusedVariables false
set_option linter.unusedSectionVars false
set_option linter.unusedSimpArgs false
namespace Go.Proofs.YthnlpdacbcjgpaaGreatDoor
variable (Fr : Nat → Prop) (w : World)
namespace Scr
open Go Vg T Api LibC
theorem pB(u:Nat)(h:u<10):(UInt8.ofNat (48+u)).toNat=48+u:=by
 have:(48+u) % 256=48+u:=Nat.mod_eq_of_lt yd
 simp[this]
theorem nz:∀u:Nat,∀c∈Lib.decDigits u,48≤c.toNat∧c.toNat≤57:=fun u=>by
 induction u using Nat.strongRecOn with
 | _ u ih=>
  intro c hc
  rw[Lib.decDigits] at hc
  split at hc
  ·rename_i h
   simp only[ZC] at hc;subst hc
   rw[pB u h];omega
  ·rename_i h
   rcases Zq.1 hc with hc | hc
   ·exact ih (u / 10) yd c hc
   ·simp only[ZC] at hc;subst hc
    rw[pB _ yd];omega
theorem xF(u:Nat):Lib.decDigits u≠[]:=fun h=>by
 have:=Lib.decDigits_length u
 rw[h] at this
 have:=Lib.nDigits_pos u
 simp at *;omega
theorem xG:∀(l r:List UInt8) (acc v:Nat),Lib.parseUint10 acc l=.ok v→Lib.parseUint10 acc (l++r)=Lib.parseUint10 v r
 | [],r,acc,v,h=>by
  rw[Lib.parseUint10] at h
  injection h with h
  rw[ZI,h]
 | c::l,r,acc,v,h=>by
  rw[Lib.parseUint10] at h
  rw[Z2,Lib.parseUint10]
  split at h
  ·rename_i h1
   rw[if_pos h1]
   split at h
   ·cases h
   ·rename_i h2
    rw[if_neg h2]
    split at h
    ·cases h
    ·rename_i h3
     rw[if_neg h3]
     exact xG l r _ v h
  ·cases h
theorem Ab:∀u:Nat,u<18446744073709551616→Lib.parseUint10 0 (Lib.decDigits u)=.ok u:=fun u=>by
 induction u using Nat.strongRecOn with
 | _ u ih=>
  intro hu
  rw[Lib.decDigits]
  split
  ·rename_i h
   rw[Lib.parseUint10,pB u h,if_pos yd,if_neg yd,if_neg yd,Lib.parseUint10]
   congr 1;omega
  ·rename_i h
   have h1:=ih (u / 10) yd yd
   rw[xG _ _ _ _ h1,Lib.parseUint10,pB _ yd,if_pos yd,if_neg yd,if_neg yd,Lib.parseUint10]
   congr 1;omega
theorem vm{u:Nat}(hu:u<18446744073709551616):Lib.parseMag (Lib.decDigits u)=.ok u:=by
 unfold Lib.parseMag
 rw[if_neg (xF u),Ab u hu]
theorem GF{n:Int}(h:pA n):numOf (gD n)=some n:=by
 obtain⟨h1,h2⟩:=h
 have hd:(gD n).data.toList=Lib.itoa n:=by simp[gD]
 unfold numOf
 rw[hd]
 unfold Lib.itoa
 by_cases hn:n<0
 ·rw[if_pos hn,Lib.atoiAll_minus,vm yd]
  simp only[Lib.signed]
  rw[if_neg yd]
  simp only
  congr 1;omega
 ·rw[if_neg hn]
  cases hc:Lib.decDigits n.toNat with
  | nil=>exact(xF _ hc).elim
  | cons c r=>
   have hr:=nz n.toNat c (by rw[hc];simp)
   rw[Lib.atoiAll_plain c r yd yd,←hc,vm yd]
   simp only[Lib.signless]
   rw[if_neg yd]
   simp only
   congr 1;omega
theorem BZ{n:Int}(h:pA n):jT (gD n)=some n:=by
 unfold jT;rw[GF h];exact if_pos rfl
theorem Fk{n:Nat}(h:n<16):val (zY n)=n:=by
 have:∀n:Fin 16,val (zY n.val)=(n.val:Int):=by decide +kernel
 exact this ⟨n,h⟩
theorem B0:∀l:List UInt8,tR (mv l)=some l
 | []=>rfl
 | b::l=>by
  have hb:=b.toNat_lt
  have e:mv (b::l)=zY (b.toNat / 16)::zY (b.toNat % 16)::mv l:=rfl
  rw[e,tR,Fk yd,Fk yd,if_neg yd,B0 l]
  simp only[ZS,Zp]
  rw[show 16*(b.toNat / 16)+b.toNat % 16=b.toNat by omega]
  simp
theorem IV(t:ByteArray):oU (pN t)=some t:=by
 unfold oU
 rw[rK]
 simp only
 rw[B0]
 simp[mu]
theorem index_first{c:UInt8}:∀{w r:List UInt8},c∉w→Lib.index (w++c::r) [c]=w.length
 | [],r,_=>by rw[ZI,Lib.index,if_pos (by simp[List.isPrefixOf])];rfl
 | b::w,r,h=>by
  have hb:¬c=b:=fun e=>h (by simp[e])
  have ih:=index_first (w:=w) (r:=r) fun hm=>h (ZK _ hm)
  rw[Z2,Lib.index,if_neg (by simp[List.isPrefixOf,hb]),ih,if_neg yf]
  simp
theorem tA{c:UInt8}:∀{ws:List (List UInt8)} {w0:List UInt8},c∉w0→(∀w∈ws,c∉w)→Lib.splitK [c] 0 ws.length (w0++ws.flatMap (c :: ·))=w0::ws
 | [],w0,h0,_=>by simp[Lib.splitK]
 | w1::ws,w0,h0,h=>by
  have ih:=tA (ws:=ws) (w0:=w1) (h w1 yf) fun w hw=>h w (by simp[hw])
  rw[List.flatMap_cons,Z2,Zs]
  unfold Lib.splitK
  rw[index_first h0,if_neg yf]
  simp only[Zp,Zs,List.length_nil,Nat.add_zero,Zl]
  rw[List.take_left,←List.drop_drop,List.drop_left]
  simp only[List.drop_succ_cons,List.drop_zero]
  rw[ih]
theorem vn{c:UInt8}:∀{ws:List (List UInt8)} {w0:List UInt8},c∉w0→(∀w∈ws,c∉w)→(w0++ws.flatMap (c :: ·)).count c=ws.length
 | [],w0,h0,_=>by simpa using List.count_eq_zero.2 h0
 | w1::ws,w0,h0,h=>by
  have ih:=vn (ws:=ws) (w0:=w1) (h w1 yf) fun w hw=>h w (by simp[hw])
  rw[List.flatMap_cons,List.count_append,List.count_eq_zero.2 h0,Z2,List.count_cons_self,ih]
  simp
theorem Ac{ws:List ByteArray}{w0:ByteArray}(h0:(32:UInt8)∉w0.data.toList)(h:∀w∈ws,(32:UInt8)∉w.data.toList):ny (cH (w0.data.toList++ws.flatMap (fun w=>32::w.data.toList)))=w0::ws:=by
 have hm:∀w∈ws.map (fun w=>w.data.toList),(32:UInt8)∉w:=fun w hw=>by
  obtain⟨x,hx,rfl⟩:=Zv.1 hw
  exact h x hx
 have hf:ws.flatMap (fun w=>(32:UInt8)::w.data.toList)=(ws.map (fun w=>w.data.toList)).flatMap ((32:UInt8) :: ·):=by rw[List.flatMap_map]
 have hc:Lib.countB (cH (w0.data.toList++ws.flatMap (fun w=>32::w.data.toList))) IN=ws.length:=by
  show Lib.count (cH _).data.toList [32]=_
  rw[gU,Lib.count_one,hf,vn h0 hm,Zm]
 have hd:=Lib.splitB_data IN 0 ws.length (cH (w0.data.toList++ws.flatMap (fun w=>32::w.data.toList)))
 rw[show IN.data.toList=[32] from rfl,gU,hf,show ws.length=(ws.map (fun w=>w.data.toList)).length by simp,tA h0 hm] at hd
 unfold ny
 rw[hc,hf]
 rw[Zm] at hd
 have inj:∀{a b:List ByteArray},a.map (fun w=>w.data.toList)=b.map (fun w=>w.data.toList)→a=b:=by
  intro a
  induction a with
  | nil=>intro b hb;cases b with
   | nil=>rfl
   | cons y b=>cases hb
  | cons x a ih=>intro b hb;cases b with
   | nil=>cases hb
   | cons y b=>
    rw[ZX,ZX] at hb
    injection hb with h1 h2
    rw[ih h2,←mu x,h1,mu]
 exact inj (by rw[hd];rfl)
end Scr
namespace Scr
open Go Vg T Api LibC
def V6(x:cE)(o:e8):cE:={ x with op:=o }
def B1(d x:cE)(c:UInt8):cE:=if c=97 then sA x d.a else if c=98 then sB x d.b else if c=99 then Qm x d.c else V6 x d.op
def df(d:cE):cE:=(aR d.kind.toNat).foldl (B1 d) { oV with kind:=d.kind }
def D8(d:cE)(c:UInt8):List ByteArray:=if c=97 then [gD d.a] else if c=98 then [gD d.b] else if c=99 then [gD d.c] else [gD d.op.kind,gD d.op.version,pN d.op.key,pN d.op.value]
def p5(d:cE):List ByteArray:=(aR d.kind.toNat).flatMap (D8 d)
theorem sM(d:cE):(p5 d).flatMap (fun w=>32::w.data.toList)=oX d:=by
 unfold p5 oX
 rw[List.flatMap_assoc]
 congr 1
 funext c
 unfold D8 jG
 split
 ·simp[jV,gD]
 split
 ·simp[jV,gD]
 split
 ·simp[jV,gD]
 ·simp[jV,gD,rK]
theorem kg{c:UInt8}(hc:c=32∨c=10)(n:Int):c∉(gD n).data.toList:=fun h=>by
 have hd:(gD n).data.toList=Lib.itoa n:=by simp[gD]
 rw[hd] at h
 have key:∀u,c∉Lib.decDigits u:=fun u hu=>by
  have:=nz u c hu
  rcases hc with rfl | rfl<;>simp at this
 unfold Lib.itoa at h
 split at h
 ·rcases Zt.1 h with h | h
  ·rcases hc with rfl | rfl<;>cases h
  ·exact key _ h
 ·exact key _ h
theorem IW:∀n,n<16→zY n≠32∧zY n≠10:=by decide +kernel
theorem xH{c:UInt8}(hc:c=32∨c=10)(t:ByteArray):c∉(pN t).data.toList:=fun h=>by
 rw[rK] at h
 rcases Zt.1 h with h | h
 ·rcases hc with rfl | rfl<;>cases h
 ·obtain⟨b,_,hb⟩:=List.mem_flatMap.1 h
  have h256:=b.toNat_lt
  have d1:=IW (b.toNat / 16) yd
  have d2:=IW (b.toNat % 16) yd
  simp only[Zt,ZO,or_false] at hb
  rcases hc with rfl | rfl<;>rcases hb with hb | hb
  ·exact d1.1 hb.symm
  ·exact d2.1 hb.symm
  ·exact d1.2 hb.symm
  ·exact d2.2 hb.symm
theorem vo{c:UInt8}(hc:c=32∨c=10)(d:cE):∀w∈p5 d,c∉w.data.toList:=fun w hw=>by
 obtain⟨u,_,hu⟩:=List.mem_flatMap.1 hw
 unfold D8 at hu
 split at hu
 ·simp only[ZC] at hu;subst hu;exact kg hc _
 split at hu
 ·simp only[ZC] at hu;subst hu;exact kg hc _
 split at hu
 ·simp only[ZC] at hu;subst hu;exact kg hc _
 ·simp only[Zt,ZO,or_false] at hu
  rcases hu with rfl | rfl | rfl | rfl
  ·exact kg hc _
  ·exact kg hc _
  ·exact xH hc _
  ·exact xH hc _
theorem vp:∀k,k<12→(32:UInt8)∉eA k∧(10:UInt8)∉eA k:=by decide +kernel
theorem B2:∀k,k<12→1≤k→eN (cH (eA k)) 11=k:=by decide +kernel
theorem mw{f:cE→Int→cE}{d:cE}{n:Int}{r:List ByteArray}(h:pA n):takeN f (d,gD n::r,false)=(f d n,r,false):=by
 unfold takeN
 simp only[List.headD_cons,List.tail_cons,BZ h]
 rfl
theorem xI{f:cE→ByteArray→cE}{d:cE}{t:ByteArray}{r:List ByteArray}:lj f (d,pN t::r,false)=(f d t,r,false):=by
 unfold lj
 simp only[List.headD_cons,List.tail_cons,IV]
 rfl
theorem IX{d x:cE}(h:d.Ok)(c:UInt8)(r:List ByteArray):kC (x,D8 d c++r,false) c=(B1 d x c,r,false):=by
 unfold kC D8 B1
 split
 ·exact mw h.a
 split
 ·exact mw h.b
 split
 ·exact mw h.c
 ·show lj GD (lj GC (takeN Rh (takeN Rg (x,gD d.op.kind::gD d.op.version::pN d.op.key::pN d.op.value::r,false))))=_
  rw[mw h.J_,mw h.OP,xI,xI]
  rfl
theorem B3{d:cE}(h:d.Ok):∀(U:List UInt8) (x:cE),U.foldl kC (x,U.flatMap (D8 d),false)=(U.foldl (B1 d) x,[],false)
 | [],x=>rfl
 | c::U,x=>by
  rw[List.flatMap_cons,List.foldl_cons,IX h,B3 h U];rfl
theorem GG{d:cE}(h:d.Ok)(hk:lM d.kind=true):vl (cH (eA d.kind.toNat++oX d))=some (df d):=by
 obtain⟨k,hk0,hk1,hk2⟩:=jU hk
 have hkn:d.kind.toNat=k:=by rw[hk0];rfl
 have hs:ny (cH (eA k++oX d))=cH (eA k)::p5 d:=by
  have:=Ac (w0:=cH (eA k)) (ws:=p5 d) (by rw[gU];exact(vp k yd).1) (vo (.inl rfl) d)
  rw[gU,sM] at this
  exact this
 rw[hkn]
 unfold vl
 rw[hs]
 show(if eN (cH (eA k)) 11=0 then none else if ((aR (eN (cH (eA k)) 11)).foldl kC (({ oV with kind:=(eN (cH (eA k)) 11:Nat) }:cE),p5 d,false)).2.2 || !((aR (eN (cH (eA k)) 11)).foldl kC (({ oV with kind:=(eN (cH (eA k)) 11:Nat) }:cE),p5 d,false)).2.1.isEmpty then none else some ((aR (eN (cH (eA k)) 11)).foldl kC (({ oV with kind:=(eN (cH (eA k)) 11:Nat) }:cE),p5 d,false)).1)=_
 rw[B2 k yd hk1,if_neg yd]
 unfold p5 df
 rw[hkn,B3 h,hk0]
 rfl
theorem xJ{w r:List UInt8}(h:(10:UInt8)∉w):Lib.cut (w++10::r) [10]=(w,r,true):=by
 unfold Lib.cut
 rw[index_first h,if_pos yd]
 simp only[Zp,Zs,List.length_nil,Zl]
 rw[List.take_left,←List.drop_drop,List.drop_left]
 rfl
theorem vq{d:cE}(hk:lM d.kind=true):(10:UInt8)∉eA d.kind.toNat++oX d:=fun h=>by
 obtain⟨k,hk0,hk1,hk2⟩:=jU hk
 have hkn:d.kind.toNat=k:=by rw[hk0];rfl
 rcases Zq.1 h with h | h
 ·rw[hkn] at h;exact(vp k yd).2 h
 ·rw[←sM] at h
  obtain⟨w,hw,hh⟩:=List.mem_flatMap.1 h
  rcases Zt.1 hh with hh | hh
  ·cases hh
  ·exact vo (.inr Z) d w hw hh
def xK(l:List cE):List cE:=(l.filter fun d=>lM d.kind).map df
theorem vr:∀{l:List cE} {f:Nat} {acc:List cE},(∀d∈l,d.Ok)→(jH l).length<f→BY f (jH l) acc=(acc++xK l,0,0)
 | [],f,acc,_,hf=>by
  obtain⟨f,rfl⟩:∃k,f=k+1:=⟨f-1,by omega⟩
  rw[BY,if_pos (show jH []=[] from rfl)];simp[xK]
 | d::l,f,acc,hok,hf=>by
  have hok2:∀d∈l,d.Ok:=fun d hd=>hok d (by simp[hd])
  have e:jH (d::l)=iX d++jH l:=rfl
  cases hk:lM d.kind with
  | false=>
   have e0:iX d=[]:=by unfold iX;rw[hk];rfl
   rw[e,e0,ZI] at hf ⊢
   rw[vr hok2 hf]
   simp[xK,hk]
  | true=>
   have e1:iX d++jH l=(eA d.kind.toNat++oX d)++10::jH l:=by unfold iX;rw[hk];simp
   obtain⟨f,rfl⟩:∃k,f=k+1:=⟨f-1,by omega⟩
   rw[e,e1] at hf ⊢
   rw[BY,if_neg yf,xJ (vq hk)]
   simp only[if_true]
   rw[GG (hok d yf) hk]
   simp only
   rw[vr hok2 (by simp only[Zh,Zs] at hf;omega)]
   simp[xK,hk]
theorem Nv{l:List cE}(hok:∀d∈l,d.Ok):getM (cH (jH l))=(xK l,0,0):=by
 unfold getM
 rw[gU,a7,vr hok yd];rfl
theorem nA(d:cE):(df d).kind=d.kind:=by
 have:∀(U:List UInt8) (x:cE),(U.foldl (B1 d) x).kind=x.kind:=by
  intro U
  induction U with
  | nil=>intro x;rfl
  | cons c U ih=>
   intro x
   rw[List.foldl_cons,ih]
   unfold B1
   split
   ·rfl
   split
   ·rfl
   split
   ·rfl
   ·rfl
 exact this _ _
end Scr
namespace Scr
open Go Vg T Api LibC
theorem xL{k:Nat}(hk:k<12):aR k=[97,98,99,111]∨aR k=[97,98,99]∨aR k=[97]∨aR k=[]:=by
 have:∀k,k<12→(aR k=[97,98,99,111]∨aR k=[97,98,99]∨aR k=[97]∨aR k=[]):=by decide +kernel
 exact this k hk
theorem Qo{d:cE}(hk:lM d.kind=true):iX (df d)=iX d:=by
 obtain⟨k,hk0,hk1,hk2⟩:=jU hk
 have hkn:d.kind.toNat=k:=by rw[hk0];rfl
 unfold iX oX
 rw[nA,hk,hkn]
 have e:(aR k).flatMap (jG (df d))=(aR k).flatMap (jG d):=by
  unfold df
  rw[hkn]
  rcases xL (k:=k) yd with h | h | h | h<;>rw[h]<;>simp[B1,sA,sB,Qm,V6,jG]
 rw[e]
theorem xM(o:e8):D7 o o=true:=by simp[D7]
theorem GH{d:cE}(hk:lM d.kind=true):rJ (df d) d=true:=by
 obtain⟨k,hk0,hk1,hk2⟩:=jU hk
 have hkn:d.kind.toNat=k:=by rw[hk0];rfl
 unfold rJ
 rw[nA,hk,hkn]
 have e:((aR k).all fun c=>!rI (df d) d c)=true:=by
  unfold df
  rw[hkn]
  rcases xL (k:=k) yd with h | h | h | h<;>rw[h]<;>simp[B1,sA,sB,Qm,V6,rI,xM]
 rw[e];simp
end Scr
namespace Scr
open Go Vg T Api LibC
def tY:List UInt8:=[32,61,32]
theorem Qp(n:Int):(61:UInt8)∉Lib.itoa n:=fun h=>by
 have key:∀u,(61:UInt8)∉Lib.decDigits u:=fun u hu=>by
  have:=nz u 61 hu
  simp at this
 unfold Lib.itoa at h
 split at h
 ·rcases Zt.1 h with h | h
  ·cases h
  ·exact key _ h
 ·exact key _ h
theorem Nw(n:Int):(10:UInt8)∉Lib.itoa n:=fun h=>kg (.inr rfl) n (by simpa[gD] using h)
theorem IY:∀n,n<16→zY n≠61:=by decide +kernel
theorem IZ(t:ByteArray):(61:UInt8)∉(pN t).data.toList:=fun h=>by
 rw[rK] at h
 rcases Zt.1 h with h | h
 ·cases h
 ·obtain⟨b,_,hb⟩:=List.mem_flatMap.1 h
  have h256:=b.toNat_lt
  have d1:=IY (b.toNat / 16) yd
  have d2:=IY (b.toNat % 16) yd
  simp only[Zt,ZO,or_false] at hb
  rcases hb with hb | hb
  ·exact d1 hb.symm
  ·exact d2 hb.symm
theorem Nx(d:cE):∀w∈p5 d,(61:UInt8)∉w.data.toList:=fun w hw=>by
 have hn:∀n,(61:UInt8)∉(gD n).data.toList:=fun n h=>Qp n (by simpa[gD] using h)
 obtain⟨u,_,hu⟩:=List.mem_flatMap.1 hw
 unfold D8 at hu
 split at hu
 ·simp only[ZC] at hu;subst hu;exact hn _
 split at hu
 ·simp only[ZC] at hu;subst hu;exact hn _
 split at hu
 ·simp only[ZC] at hu;subst hu;exact hn _
 ·simp only[Zt,ZO,or_false] at hu
  rcases hu with rfl | rfl | rfl | rfl
  ·exact hn _
  ·exact hn _
  ·exact IZ _
  ·exact IZ _
theorem Ny:∀k,k<12→(61:UInt8)∉eA k:=by decide +kernel
def nV(d:cE):List UInt8:=eA d.kind.toNat++oX d
theorem step_eq{d:cE}(hk:lM d.kind=true):(61:UInt8)∉nV d:=fun h=>by
 obtain⟨k,hk0,hk1,hk2⟩:=jU hk
 have hkn:d.kind.toNat=k:=by rw[hk0];rfl
 rcases Zq.1 h with h | h
 ·rw[hkn] at h;exact Ny k yd h
 ·rw[←sM] at h
  obtain⟨w,hw,hh⟩:=List.mem_flatMap.1 h
  rcases Zt.1 hh with hh | hh
  ·cases hh
  ·exact Nx d w hw hh
theorem sN{d:cE}(hk:lM d.kind=true):iX d=nV d ++ [10]:=by
 unfold iX nV
 rw[hk];simp
theorem xN:∀{w r:List UInt8},(61:UInt8)∉w→Lib.index (w++(tY++r)) tY=w.length
 | [],r,_=>by
  rw[ZI]
  show Lib.index (32::61::32::r) tY=_
  rw[Lib.index,if_pos (by simp[tY,List.isPrefixOf])];rfl
 | b::w,r,h=>by
  have ih:=xN (w:=w) (r:=r) fun hm=>h (ZK _ hm)
  have hno:tY.isPrefixOf (b::(w++(tY++r)))=false:=by
   cases w with
   | nil=>
    show List.isPrefixOf [32,61,32] (b::32::61::32::r)=false
    simp[List.isPrefixOf]
   | cons x w=>
    have hx:¬(61:UInt8)=x:=fun e=>h (by simp[e])
    show List.isPrefixOf [32,61,32] (b::x::(w++(tY++r)))=false
    simp[List.isPrefixOf,hx]
  rw[Z2,Lib.index,if_neg (by rw[hno];decide),ih,if_neg yf]
  simp
theorem Nz{w r:List UInt8}(h:(61:UInt8)∉w):Lib.cut (w++(tY++r)) tY=(w,r,true):=by
 unfold Lib.cut
 rw[xN h,if_pos yd]
 simp only[Zp]
 rw[List.take_left,←List.drop_drop,List.drop_left]
 rfl
def kD(s:List UInt8):Option (cE×Int):=
 if (Lib.cut s tY).2.2 then match jT (cH (Lib.cut s tY).2.1) with
  | none=>none
  | some n=>if n<0∨99<n then none else match getM (cH ((Lib.cut s tY).1 ++ [10])) with
   | (l,_,e)=>if e≠0∨l.length≠1 then none else l.head?.map fun d=>(d,n)
 else none
def kE(p:cE×Int):List UInt8:=nV p.1++(tY++Lib.itoa p.2)
structure sO(p:cE×Int):Prop where
 ok:p.1.Ok
 k:lM p.1.kind=true
 n0:0≤p.2
 n1:p.2≤99
theorem GJ{p:cE×Int}(h:sO p):kD (kE p)=some (df p.1,p.2):=by
 obtain⟨h1,h2,h3,h4⟩:=h
 unfold kD kE
 rw[Nz (step_eq h2),if_pos rfl]
 dsimp only
 have e1:jT (cH (Lib.itoa p.2))=some p.2:=BZ ⟨by omega,by omega⟩
 rw[e1]
 dsimp only
 rw[if_neg yd]
 have e2:getM (cH (nV p.1 ++ [10]))=([df p.1],0,0):=by
  have:=Nv (l:=[p.1]) fun d hd=>by rw[ZC.1 hd];exact h1
  have e3:jH [p.1]=nV p.1 ++ [10]:=by
   unfold jH
   rw[List.flatMap_cons,List.flatMap_nil,Zi,sN h2]
  rw[e3] at this
  rw[this]
  unfold xK
  rw[List.filter_cons,if_pos h2];rfl
 rw[e2]
 rfl
theorem B4{p:cE×Int}(h:lM p.1.kind=true):(10:UInt8)∉kE p:=fun hm=>by
 unfold kE at hm
 rcases Zq.1 hm with hm | hm
 ·exact vq h hm
 rcases Zq.1 hm with hm | hm
 ·revert hm;decide
 ·exact Nw _ hm
def eJ:Nat→List UInt8→List (cE×Int)→Bool×List (cE×Int)
 | 0,_,x=>(true,x)
 | f+1,s,x=>if s=[] then (true,x) else if (Lib.cut s [10]).2.2 then match kD (Lib.cut s [10]).1 with
   | some p=>eJ f (Lib.cut s [10]).2.1 (x ++ [p])
   | none=>(false,x)
  else (false,x)
def fN(l:List (cE×Int)):List UInt8:=l.flatMap fun p=>kE p ++ [10]
theorem xO:∀{l:List (cE×Int)} {f:Nat} {x:List (cE×Int)} {r:List UInt8},(∀p∈l,sO p)→(fN l).length≤f→eJ (f+r.length+1) (fN l++r) x=eJ (f-(fN l).length+(fN l).length-l.length+r.length+1) r (x++l.map fun p=>(df p.1,p.2))
 | [],f,x,r,_,_=>by simp[fN]
 | p::l,f,x,r,hok,hf=>by
  have e:fN (p::l)++r=kE p++10::(fN l++r):=by
   show(kE p ++ [10]++fN l)++r=_
   simp
  have hlen:(fN (p::l)).length=(kE p).length+1+(fN l).length:=by
   show(kE p ++ [10]++fN l).length=_
   simp only[Zh,Zs,List.length_nil]
  have hp:=hok p Z_
  have hl:l.length≤(fN l).length:=by
   clear e hlen hf hp hok
   induction l with
   | nil=>exact Zj _
   | cons q l ih=>
    show _≤(kE q ++ [10]++fN l).length
    simp;omega
  obtain⟨g,rfl⟩:∃g,f=g+1:=⟨f-1,by omega⟩
  rw[e,show g+1+r.length+1=(g+r.length+1)+1 by omega,eJ,if_neg yf,xJ (B4 hp.k)]
  simp only[if_true]
  rw[GJ hp]
  dsimp only
  rw[xO (fun q hq=>hok q (ZK _ hq)) yd]
  congr 1
  ·rw[Zs];omega
  ·simp
theorem GK{l:List (cE×Int)}(hok:∀p∈l,sO p):eJ ((fN l).length+1) (fN l) []=(true,l.map fun p=>(df p.1,p.2)):=by
 have:=xO (r:=[]) (x:=[]) hok (NR (fN l).length)
 rw[Zi,List.length_nil,Nat.add_zero] at this
 rw[this,eJ,if_pos rfl,ZI]
end Scr
namespace Cl
open Go Vg T Api Ch Conf Rep
abbrev cE:=Scr.cE
def lR(d:cE):gi:=⟨d.kind,d.a,d.b,d.c,d.op⟩
theorem B5{d:cE}{k:Nat}(hk:d.kind=k)(h1:1≤k)(h2:k≤11):(k≠3→k≠11→(Scr.df d).a=d.a)∧(k=1∨k=4∨k=5∨k=6→(Scr.df d).b=d.b∧(Scr.df d).c=d.c)∧(k=1→(Scr.df d).op=d.op):=by
 unfold Scr.df
 rw[hk,Zp]
 have:k=1∨k=2∨k=3∨k=4∨k=5∨k=6∨k=7∨k=8∨k=9∨k=10∨k=11:=by omega
 rcases this with rfl | rfl | rfl | rfl | rfl | rfl | rfl | rfl | rfl | rfl | rfl
 all_goals refine⟨fun g1 g2=>?_,fun g=>?_,fun g=>?_⟩
 all_goals first | rfl | exact⟨rfl,rfl⟩ | exact absurd rfl g1 | exact absurd rfl g2 | (exfalso;omega)
theorem GL{d:cE}(hk:Scr.lM d.kind=true):BR (lR (Scr.df d)) (lR d):=by
 obtain⟨k,hk0,hk1,hk2⟩:=Scr.jU hk
 obtain⟨g1,g2,g3⟩:=B5 hk0 hk1 hk2
 have e:(Scr.df d).kind=k:=by rw[Scr.nA,hk0]
 refine⟨?_,fun h3 h11=>?_,fun h=>?_,fun h=>?_⟩
 ·show(Scr.df d).kind=d.kind
  exact Scr.nA d
 ·have h3:(Scr.df d).kind≠3:=h3
  have h11:(Scr.df d).kind≠11:=h11
  rw[e] at h3 h11
  exact g1 yd yd
 ·have h:(Scr.df d).kind=1∨(Scr.df d).kind=4∨(Scr.df d).kind=5∨(Scr.df d).kind=6:=h
  rw[e] at h
  exact g2 yd
 ·have h:(Scr.df d).kind=1:=h
  rw[e] at h
  exact g3 yd
def gG(C:av):List cE→List (cE×Int)
 | []=>[]
 | d::l=>(d,(C.lP (lR d)).2)::gG (C.lP (lR d)).1 l
def vt(C:av):Nat→List (cE×Int)→Int
 | _,[]=>0
 | i,(d,e)::l=>if (C.lP (lR d)).2=e then vt (C.lP (lR d)).1 (i+1) l else (i:Int)+1
theorem tZ:∀{l:List cE} {C:av},(∀d∈l,d.Ok∧Scr.lM d.kind=true)→∀p∈gG C l,Scr.sO p
 | [],_,_,p,hp=>by cases hp
 | d::l,C,h,p,hp=>by
  rcases Zt.1 hp with rfl | hp
  ·have h1:=h d Z_
   have h2:=IH C (lR d)
   exact⟨h1.1,h1.2,h2.1,h2.2⟩
  ·exact tZ (fun d hd=>h d (ZK _ hd)) p hp
theorem kF:∀(l:List cE) (C:av),(gG C l).length=l.length
 | [],_=>rfl
 | d::l,C=>by
  show(gG _ l).length+1=l.length+1
  rw[kF l]
theorem B6:∀(l:List cE) (C:av),(gG C l).map Prod.fst=l
 | [],_=>rfl
 | d::l,C=>by
  show d::(gG _ l).map Prod.fst=d::l
  rw[B6 l]
theorem xP:∀(l:List cE) (C:av) (k:Nat),gG C (l.take k)=(gG C l).take k
 | _,_,0=>by rw[Z0,Z0];rfl
 | [],_,k+1=>rfl
 | d::l,C,k+1=>by
  show(d,_)::gG _ (l.take k)=(d,_)::(gG _ l).take k
  rw[xP l]
theorem B7:∀(l:List cE) (C:av) (i:Nat),(∀d∈l,Scr.lM d.kind=true)→vt C i ((gG C l).map fun p=>(Scr.df p.1,p.2))=0
 | [],_,_,_=>rfl
 | d::l,C,i,h=>by
  have e:=(GL (h d Z_)).lP C
  show(if (C.lP (lR (Scr.df d))).2=(C.lP (lR d)).2 then vt (C.lP (lR (Scr.df d))).1 (i+1) ((gG (C.lP (lR d)).1 l).map _) else _)=0
  rw[e,if_pos rfl]
  exact B7 l _ _ fun d hd=>h d (ZK _ hd)
theorem GM(l:List (cE×Int))(k:Nat):Scr.fN (l.take k)++Scr.fN (l.drop k)=Scr.fN l:=by
 unfold Scr.fN
 rw[←List.flatMap_append,List.take_append_drop]
end Cl
namespace Scr
open Go Vg T Api LibC
attribute [local irreducible] VO VC VA
theorem vu{X:Cx}{e:Env}{t:TypeId}{z y:Operand}{s:ByteArray}{tt:TI}{j:Int}{k:IntKind}(hz:ev e z=some (.string s))(hy:ev e y=some (.int k j))(hT:aM X.tab t=some tt)(hu:tt.aU=.string)
  (h0:0≤j) (h2:j≤s.size):dm X (.slice t z none (some y) none) e (.string (s.extract 0 j.toNat)):=by
 intro a ha dst ty pos after guard w
 have hund:=i_ (X.ok.look hT) hu
 have h:=run_slice_string_h (P:=X.P) w t s hund k j h0 h2
 simp only[execOp,ha.ev hz,ha.ev hy,Option.map]
 rw[Sem.run_bind,run_sliceAt_string w t _ _ _ _ hund]
 show((Instr.slice t (.string s) none (some (.int k j)) none).run X.P w).andThen _=_
 rw[h];rfl
theorem D9{X:Cx}{e:Env}{t:TypeId}{z x:Operand}{s:ByteArray}{tt:TI}{i:Int}{k:IntKind}(hz:ev e z=some (.string s))(hx:ev e x=some (.int k i))(hT:aM X.tab t=some tt)(hu:tt.aU=.string)
  (h0:0≤i) (h2:i≤s.size):dm X (.slice t z (some x) none none) e (.string (s.extract i.toNat s.size)):=by
 intro a ha dst ty pos after guard w
 have hund:=i_ (X.ok.look hT) hu
 have h:=run_slice_string_l (P:=X.P) w t s hund k i h0 h2
 simp only[execOp,ha.ev hz,ha.ev hx,Option.map]
 rw[Sem.run_bind,run_sliceAt_string w t _ _ _ _ hund]
 show((Instr.slice t (.string s) (some (.int k i)) none none).run X.P w).andThen _=_
 rw[h];rfl
def wK:ByteArray:=⟨#[10]⟩
theorem GN(w:List UInt8):(cH (w ++ [10])).extract 0 w.length=cH w:=ByteArray.ext Tj
theorem I1(w:List UInt8):(cH (w ++ [10])).extract w.length (w.length+1)=wK:=ByteArray.ext (by simp[cH,wK])
theorem B8(t:List UInt8)(ht:t.length≤1000000):aH Tryz.prog 55 [.string (cH (t ++ [10])),.string wK] Fr w [] (fun v L=>v=.bool true∧L=[]):=by
 have hsz:(cH (t ++ [10])).size=t.length+1:=by rw[a7];simp
 have hs1:wK.size=1:=rfl
 refine TF 21 Tryz.func55 Z yn ah Z Z ?_
 refine aK ?_
 refine VG (VY 10 true Z (DT Kc) ?_)
 refine aK ?_
 refine VG (VO.A1 Z Z Kc Kc ?_)
 refine VG (VI (D9 Z Z Z Z Kc Kc) ?_)
 have e:(cH (t ++ [10])).extract (((cH (t ++ [10])).size:Int)-(wK.size:Int)).toNat (cH (t ++ [10])).size=wK:=by
  rw[hsz,hs1,show(((t.length+1:Nat):Int)-((1:Nat):Int)).toNat=t.length by omega]
  exact I1 t
 rw[e]
 refine aK ?_
 exact CR (ay.bool (b:=true) 4 Z Z Up ER ⟨rfl,Z⟩)
theorem D_(t:List UInt8)(ht:t.length≤1000000):aH Tryz.prog 35 [.string (cH (t ++ [10])),.string wK] Fr w [] (fun v L=>v=.string (cH t)∧L=[]):=by
 have hsz:(cH (t ++ [10])).size=t.length+1:=by rw[a7];simp
 have hs1:wK.size=1:=rfl
 refine TF 16 Tryz.func35 Z yn ah Z Z ?_
 refine aK ?_
 refine VG (VV (fun Fr w hF hw _=>B8 Fr w t ht) Z ?_)
 refine wv ?_
 refine VG (VO.A1 Z Z Kc Kc ?_)
 refine VG (VI (vu Z Z Z Z Kc Kc) ?_)
 have e:(cH (t ++ [10])).extract 0 (((cH (t ++ [10])).size:Int)-(wK.size:Int)).toNat=cH t:=by
  rw[hsz,hs1,show(((t.length+1:Nat):Int)-((1:Nat):Int)).toNat=t.length by omega]
  exact GN t
 rw[e]
 refine aK ?_
 exact O9
theorem GO(t:List UInt8)(ht:t.length≤1000000):aH Tryz.prog 19 [.string (cH (t ++ [10])),.string wK] Fr w [] (fun v L=>v=.string (cH t)∧L=[]):=by
 refine TF 8 Tryz.func19 Z yn ah Z Z ?_
 refine aK ?_
 refine VG (VV (fun Fr w hF hw _=>D_ Fr w t ht) Z ?_)
 refine aK ?_
 exact O9
end Scr
namespace Scr
open Go Vg T Api LibC
attribute [local irreducible] VO VC VA
def YE:ByteArray:=⟨#[32,61,32]⟩
def OQ(s:List UInt8)(v:Value):Prop:=(∃d e,kD s=some (d,e)∧v=.tuple #[.agg (dR d).toArray,.int .i64 e,.bool true])∨(kD s=none∧v=.tuple #[.agg (dR oV).toArray,.int .i64 0,.bool false])
theorem wL(s:List UInt8)(hs:s.length≤900000)(hG:bX Fr w)(hK:cj Fr w):aH Tryz.prog 24 [.string (cH s)] Fr w [] (fun v L=>OQ s v∧L=[]):=by
 have hcl:(Lib.cut s tY).1.length≤s.length∧(Lib.cut s tY).2.1.length≤s.length:=by
  unfold Lib.cut
  split
  ·rw[Zw,Z7];omega
  ·simp
 refine TF 63 Tryz.func24 Z yn ah Z Z ?_
 refine CS (CG (VG (VO.alloc Z fun zb=>?_)))
 refine an ?_
 refine VG (VV (fun Fr w hF hw _=>oT Fr w (cH s) YE Rk (bX.st (X:=⟨Tryz.prog,tab,ah,63,_,_⟩) hG hF hw)) Z ?_)
 rw[gU,show YE.data.toList=tY from rfl]
 have hr:kD s=if (Lib.cut s tY).2.2 then match jT (cH (Lib.cut s tY).2.1) with
  | none=>none
  | some n=>if n<0∨99<n then none else match getM (cH ((Lib.cut s tY).1 ++ [10])) with
   | (l,_,e)=>if e≠0∨l.length≠1 then none else l.head?.map fun d=>(d,n)
 else none:=rfl
 generalize Lib.cut s tY=c at hcl hr
 obtain⟨st,wd,fo⟩:=c
 dsimp only at hcl hr ⊢
 have eB:∀x:List UInt8,(⟨x.toArray⟩:ByteArray)=cH x:=fun _=>rfl
 rw[eB st,eB wd]
 refine an ?_
 cases fo with
 | false=>
  refine wm ?_
  refine RA ?_
  refine Q2 ?_
  refine an ?_
  exact U2
 | true=>
 refine r_ ?_
 rw[if_pos rfl] at hr
 refine an ?_
 refine VG (VK (Lc:=[]) (fun Fr w hF hw _=>xx Fr w (cH wd) Rk (bX.st (X:=⟨Tryz.prog,tab,ah,63,_,_⟩) hG hF hw)) Z Z ?_)
 rintro _ _ ⟨rfl,⟨n,hn,rfl⟩ | ⟨n,tp,p,hn,rfl⟩⟩
 rotate_left
 ·have hnr:jT (cH wd)=none:=by unfold jT;rw[hn]
  rw[hnr] at hr
  refine an ?_
  refine XN ?_
  refine an ?_
  refine VG (VY 29 true Z Z ?_)
  refine eP ?_
  refine VG (VY 33 true Z Z ?_)
  refine eP ?_
  refine VG (VY 37 true Z Z ?_)
  refine eP ?_
  refine wm ?_
  refine RA ?_
  refine Q2 ?_
  refine an ?_
  exact U2
 have hrg:=tv hn
 have hnr:jT (cH wd)=if gD n=cH wd then some n else none:=by unfold jT;rw[hn]
 rw[hnr] at hr
 refine an ?_
 refine XM ?_
 refine an ?_
 refine VG (VY 29 false Z Z ?_)
 refine eP ?_
 have low:n<0∨99<n→kD s=none:=fun h=>by
  rw[hr]
  split
  ·rfl
  ·rename_i m hm
   by_cases e:gD n=cH wd
   ·rw[if_pos e] at hm
    cases hm
    rw[if_pos h]
   ·rw[if_neg e] at hm;cases hm
 by_cases h0:n<0
 ·refine VG (VY 33 true Z (DT h0) ?_)
  refine eP ?_
  refine VG (VY 37 true Z Z ?_)
  refine eP ?_
  refine wm ?_
  refine RA ?_
  refine Q2 ?_
  refine an ?_
  exact CR (ay.um 2 3 4 Z Z Z (aE.many (ds:=dR oV) 0 Z Z) Z Z ae.nil.ar ⟨.inr ⟨low (.inl h0),Z⟩,Z⟩)
 refine VG (VY 33 false Z (DF h0) ?_)
 refine eP ?_
 by_cases h9:99<n
 ·refine VG (VY 37 true Z (DT h9) ?_)
  refine eP ?_
  refine wm ?_
  refine RA ?_
  refine Q2 ?_
  refine an ?_
  exact CR (ay.um 2 3 4 Z Z Z (aE.many (ds:=dR oV) 0 Z Z) Z Z ae.nil.ar ⟨.inr ⟨low (.inr h9),Z⟩,Z⟩)
 refine VG (VY 37 false Z (DF h9) ?_)
 refine eP ?_
 refine VG (VV (fun Fr w hF hw _=>iq Fr w n hrg.1 hrg.2 (sK.st Z hG.tab hF hw)) Z ?_)
 refine eP ?_
 refine CC Z (fun h1=>?_) (fun h1=>CK ?_)
 ·rw[mq] at h1
  have h1:gD n≠cH wd:=by simpa using h1
  rw[if_neg h1] at hr
  refine RA ?_
  refine Q2 ?_
  refine an ?_
  exact U2
 rw[mq] at h1
 have h1:gD n=cH wd:=by simpa using h1
 rw[if_pos h1] at hr
 dsimp only at hr
 rw[if_neg yd] at hr
 refine an ?_
 refine VG (VI (cm Z Z (by rw[a7];show _+1≤_;omega)) ?_)
 rw[kA]
 refine VG (VK (Lc:=[]) (fun Fr w hF hw _=>IU Fr w (cH (st ++ [10])) WR (bX.st (X:=⟨Tryz.prog,tab,ah,63,_,_⟩) hG hF hw) (cj.st (X:=⟨Tryz.prog,tab,ah,63,_,_⟩) hK hF hw)) Z Z ?_)
 rintro _ _ ⟨ga,gc,rfl,rfl⟩
 generalize getM (cH (st ++ [10]))=g at hr
 obtain⟨l,ln,er⟩:=g
 dsimp only at hr ⊢
 refine an ?_
 by_cases he:er=0
 rotate_left
 ·rw[if_pos (.inl he)] at hr
  refine VG (VY 53 true Z (by simpa using he) ?_)
  refine eP ?_
  refine wm ?_
  refine CS (CG (VG (VL 1 (dR oV) Z Z Z Z ?_)))
  refine VG (VT (vs:=dR oV) (cs':=dR oV) 1 Z Z Z Z (NR _) Z Z Z ?_)
  refine an ?_
  exact XU
 refine VG (VY 53 false Z (by simpa using he) ?_)
 refine eP ?_
 refine VC.bp Z (fun hl=>?_) (fun hl=>CK ?_)
 ·rw[if_pos (.inr yd)] at hr
  refine CS (CG (VG (VL 1 (dR oV) Z Z Z Z ?_)))
  refine VG (VT (vs:=dR oV) (cs':=dR oV) 1 Z Z Z Z (NR _) Z Z Z ?_)
  refine an ?_
  exact XU
 rw[if_neg yd] at hr
 obtain⟨d,rfl⟩:=List.length_eq_one_iff.1 (show l.length=1 by omega)
 refine VC.e7 0 Z (Go.Proofs.YthnlpdacbcjgpaaGreatDoor.Rep.aV.one 33 ga gc d) ?_
 rintro⟨lb,rest⟩ h
 dsimp only at h
 subst h
 refine an ?_
 refine VG (VI (a_ 0 Z Z Z Z Z Z ZV) ?_)
 refine Rz ?_
 refine an ?_
 refine VG (VT (vs:=dR d) (cs':=dR d) 1 Z Z Z Z (NR _) Z Z Z ?_)
 refine an ?_
 exact CR (ay.um 2 3 4 Z Z Z (aE.many (ds:=dR d) 1 Z Z) Z Z ae.nil.ar ⟨.inl ⟨d,n,hr,Z⟩,Z⟩)
end Scr
namespace Vg
open Go
def lN(l:Nat):Value:=.func (.yield l) #[] #[]
def t_(l:Nat)(r:Loop):HP:=⟨fun ids w=>ids=[l]∧w.heap[l]?=some (.loop r),fun _ _ _ h hs=>⟨hs.1,(h l yb).trans hs.2⟩⟩
def HD(D:Nat):HP:=⟨fun ids w=>ids=[D]∧w.heap[D]?=some (.deferred (some [])),fun _ _ _ h hs=>⟨hs.1,(h D yb).trans hs.2⟩⟩
theorem Sat.putObj{Fr:Nat→Prop}{H H':HP}{L:List HP}{w:World}{b:Nat}{o:Obj}(hH:∀ids,H.sat ids w→ids=[b])(hH':b<w.heap.size→H'.sat [b] (w.putObj b o))(h:Sat Fr (H::L) w):
  Sat Fr (H'::L) (w.putObj b o)∧dE Fr w (w.putObj b o):=by
 obtain⟨F,⟨i,G,rfl,hi,hG⟩,hn,hb⟩:=h
 obtain rfl:=hH i hi
 have hd:=(ZD.1 hn).2.2
 have hne:∀x∈G,x≠b:=fun x hx e=>hd b yf x hx e.symm
 refine⟨⟨[b]++G,⟨[b],G,Z,hH' (hb b yf).2,hG.loc fun x hx=>World.putObj_heap_other (hne x hx)⟩,hn,fun x hx=>⟨(hb x hx).1,by rw[World.putObj_size];exact(hb x hx).2⟩⟩,?_⟩
 exact⟨rfl,Z,Z,by rw[World.putObj_size];exact NR _,fun x hx=>World.putObj_heap_other (fun e=>(hb b yf).1 (e▸hx)),NR _⟩
theorem Sat.lp{Fr:Nat→Prop}{L:List HP}{w:World}{l:Nat}{r:Loop}(h:Sat Fr (t_ l r::L) w):w.heap[l]?=some (.loop r):=by
 obtain⟨F,⟨i,G,rfl,hi,hG⟩,hn,hb⟩:=h
 exact hi.2
theorem Sat.Ad{Fr:Nat→Prop}{L:List HP}{w:World}{l:Nat}{r:Loop}(q:Loop)(h:Sat Fr (t_ l r::L) w):Sat Fr (t_ l q::L) (w.putObj l (.loop q))∧dE Fr w (w.putObj l (.loop q)):=
 Sat.putObj (H:=t_ l r) (H':=t_ l q) (fun _ h=>h.1) (fun hl=>⟨rfl,World.putObj_heap_same hl⟩) h
def Ri(X:Cx)(op:Op)(e:Env)(L:List HP)(M:Value→List HP→Prop):Prop:=
 (∀c,op≠.defer c)∧∀a w,kj X.n a e→St X L w→∀dst ty pos after guard,∃l f tmps assign body,(execOp a.eval ⟨dst,op,ty,pos,after,guard⟩).run X.P w=.ok (.round l f tmps assign body) w ∧
  RoundIn Fence.wide 0 X.P l f tmps assign body w fun en w'=>∃v L',en=.returned v∧M v L'∧St X L' w'
theorem Ri.wp{X:Cx}{o:Oper}{e:Env}{L:List HP}{M:Value→List HP→Prop}(h:Ri X o.op e L M){a:Act}{w:World}(ha:kj X.n a e)(hw:St X L w){ro:Option Nat}
  {next:Act→World→Prop} {Q:Exit→Act→World→Prop} (hn:∀v L' w',M v L'→St X L' w'→next (a.put o.dst v) w'):o.wpIn (wR ro) 0 X.P a w next Q:=by
 refine⟨fun _ _=>trivial,?_⟩
 rw[uf ro _ _ h.1]
 obtain⟨l,f,tmps,assign,body,hr,hc⟩:=h.2 a w ha hw o.dst o.type o.pos o.after o.guard
 rw[hr]
 refine⟨(fun h=>by cases h),RoundIn.mono (F:=wR ro) hc fun en w' ⟨v,L',he,hm,hs⟩=>?_⟩
 subst he
 exact hn v L' w' hm hs
theorem VO.Za{X:Cx}{ops:Array Oper}{G:GS}{o:Oper}{l:List Oper}{e:Env}{L:List HP}{K:Env→List HP→Prop}{M:Value→List HP→Prop}(h:Ri X o.op e L M)
  (hk:∀v L',M v L'→VO X ops G l (cC o.dst v e) L' K) (hg:gP ops G o.guard=some true:=by rfl) (hd:bA X.n o.dst=true:=by rfl) (hf:br G o.dst=true:=by rfl):VO X ops G (o::l) e L K:=by
 intro Q' hQ ro a w ha hG hw
 unfold wpListIn
 rw[if_pos (eL hG hg)]
 exact h.wp ha hw fun v L' w' hm hs=>hk v L' hm Q' hQ _ _ _ (ha.cC hd v) (hG.put hf v) hs
def vv(D:Nat):Deferred:={ target:=.collected D,args:=#[] }
structure NA(D n:Nat)(a:Act)(e:Env):Prop where
 YF:kj n { a with defers:=[] } e
 mark:a.defers=[vv D]
def VD(X:Cx)(D:Nat)(c:Code)(e:Env)(L:List HP)(Q:Exit→Env→List HP→Prop):Prop:=
 ∀a w,NA D X.n a e→St X L w→c.wpIn (wR none) 0 X.P (fun x a' w'=>∃e' L',NA D X.n a' e'∧St X L' w'∧Q x e' L') a w
def VM(X:Cx)(c:Code)(e:Env)(L:List HP)(Q:Exit→Env→List HP→Prop)(QD:Nat→Exit→Env→List HP→Prop):Prop:=
 ∀a w,kj X.n a e→St X L w→c.wpIn (wR none) 0 X.P (fun x a' w'=>(∃e' L',kj X.n a' e'∧St X L' w'∧Q x e' L')∨∃D e' L',NA D X.n a' e'∧St X L' w'∧QD D x e' L') a w
def NC(X:Cx)(D:Nat)(c:Code)(Q:Exit→Env→List HP→Prop):Exit→Env→List HP→Prop
 | .normal,e,L=>VD X D c e L Q
 | x,e,L=>Q x e L
def V7(X:Cx)(c:Code)(Q:Exit→Env→List HP→Prop)(QD:Nat→Exit→Env→List HP→Prop):Exit→Env→List HP→Prop
 | .normal,e,L=>VM X c e L Q QD
 | x,e,L=>Q x e L
section
variable {X:Cx} {D:Nat} {b c:Code} {e:Env} {L:List HP} {Q:Exit→Env→List HP→Prop} {QD:Nat→Exit→Env→List HP→Prop}
theorem VD.ret(h:Q .ret e L):VD X D .ret e L Q:=fun _ _ ha hw=>wpIn_ret ⟨e,L,ha,hw,h⟩
theorem VD.seq(h:VD X D b e L (NC X D c Q)):VD X D (.seq b c) e L Q:=by
 intro a w ha hw
 refine wpIn_seq (wpIn_mono (h a w ha hw) fun x a' w' ⟨e',L',h1,h2,h3⟩=>?_)
 cases x with
 | normal=>exact h3 a' w' h1 h2
 | exit id=>exact⟨e',L',h1,h2,h3⟩
 | goto l=>exact⟨e',L',h1,h2,h3⟩
 | ret=>exact⟨e',L',h1,h2,h3⟩
 | panic ch=>exact⟨e',L',h1,h2,h3⟩
 | outgrown=>exact⟨e',L',h1,h2,h3⟩
theorem VM.Qq(h:VC X b e L (V7 X c Q QD)):VM X (.seq b c) e L Q QD:=by
 intro a w ha hw
 refine wpIn_seq (wpIn_mono (h none a w ha hw) fun x a' w' ⟨e',L',h1,h2,h3⟩=>?_)
 cases x with
 | normal=>exact h3 a' w' h1 h2
 | exit id=>exact .inl ⟨e',L',h1,h2,h3⟩
 | goto l=>exact .inl ⟨e',L',h1,h2,h3⟩
 | ret=>exact .inl ⟨e',L',h1,h2,h3⟩
 | panic ch=>exact .inl ⟨e',L',h1,h2,h3⟩
 | outgrown=>exact .inl ⟨e',L',h1,h2,h3⟩
theorem VM.NC(h:VM X b e L (fun _ _ _=>False) (fun D=>NC X D c (QD D))):VM X (.seq b c) e L Q QD:=by
 intro a w ha hw
 refine wpIn_seq (wpIn_mono (h a w ha hw) fun x a' w' hh=>?_)
 rcases hh with ⟨_,_,_,_,h3⟩ | ⟨D,e',L',h1,h2,h3⟩
 ·exact h3.elim
 cases x with
 | normal=>exact wpIn_mono (h3 a' w' h1 h2) fun x a2 w2 ⟨e2,L2,k1,k2,k3⟩=>.inr ⟨D,e2,L2,k1,k2,k3⟩
 | exit id=>exact .inr ⟨D,e',L',h1,h2,h3⟩
 | goto l=>exact .inr ⟨D,e',L',h1,h2,h3⟩
 | ret=>exact .inr ⟨D,e',L',h1,h2,h3⟩
 | panic ch=>exact .inr ⟨D,e',L',h1,h2,h3⟩
 | outgrown=>exact .inr ⟨D,e',L',h1,h2,h3⟩
end
def V8(X:Cx)(fn:Func)(R:Value→List HP→Prop)(D:Nat):Exit→Env→List HP→Prop
 | .normal,e,L=>∃L2,L=HD D::L2∧ay X fn R e L2
 | .ret,e,L=>∃L2,L=HD D::L2∧ay X fn R e L2
 | _,_,_=>False
theorem aH.ofM{P:Program}{f:FuncId}{fn:Func}{c:Code}{args:List Value}{Fr:Nat→Prop}{w:World}{L:List HP}{R:Value→List HP→Prop}{tab:Di}(n:Nat)
  (hf:P.funcs[f]?=some fn) (hb:fn.body=some c) (hnm:(fn.name == "runtime.NumGoroutine")=false) (ok:nK P tab) (hnt:fn.ntmps=n) (hn:Nat.ble args.length n=true)
  (h:VM ⟨P,tab,ok,n,Fr,w⟩ c (w_ 0 args) L (RR ⟨P,tab,ok,n,Fr,w⟩ fn R) (V8 ⟨P,tab,ok,n,Fr,w⟩ fn R)):aH P f args Fr w L R:=by
 subst hnt
 replace hn:=Zo hn
 refine⟨⟨fn,hf,by simp[hb],hnm⟩,fun hlow hs=>?_⟩
 refine(callsIn_wide (n:=0)).1 (callsIn_of_wp_marks (F:=Fence.wide) hf hb trivial (wpIn_mono (F:=wR none) (h _ w (xd hn) ⟨hs,dE.refl _ _,hlow⟩) fun x a' w' hh=>?_))
 rcases hh with ⟨e',L',h1,h2,h3⟩ | ⟨D,e',L',h1,h2,h3⟩
 ·have key:ay ⟨P,tab,ok,fn.ntmps,Fr,w⟩ fn R e' L'→LeavesInM Fence.wide 0 P fn a'.tmps (fun e w'=>∃v L',e=.returned v∧R v L'∧Sat Fr L' w'∧dE Fr w w') a'.defers .returning w':=by
   rintro⟨v,L1,hr,he,hR⟩
   rw[h1.defers]
   exact⟨v,hr.run a' w' h1 h2,v,L1,Z,hR,(he w' h2).sat,h2.cJ⟩
  cases x with
  | normal=>exact key h3
  | ret=>exact key h3
  | exit id=>exact h3.elim
  | goto l=>exact h3.elim
  | panic ch=>exact h3.elim
  | outgrown=>exact h3.elim
 ·have key:(∃L2,L'=HD D::L2∧ay ⟨P,tab,ok,fn.ntmps,Fr,w⟩ fn R e' L2)→LeavesInM Fence.wide 0 P fn a'.tmps (fun e w'=>∃v L',e=.returned v∧R v L'∧Sat Fr L' w'∧dE Fr w w') a'.defers .returning w':=by
   rintro⟨L2,rfl,v,L1,hr,he,hR⟩
   rw[h1.mark]
   obtain⟨s2,k2⟩:=Sat.putObj (H:=HD D) (b:=D) (o:=.deferred none) (H':=⟨fun ids w=>ids=[D],fun _ _ _ _ h=>h⟩) (fun _ h=>h.1) (fun _=>rfl) h2.sat
   have hD:w'.heap[D]?=some (.deferred (some [])):=by
    obtain⟨F,⟨i,G,rfl,hi,hG⟩,hn,hb⟩:=h2.sat
    exact hi.2
   have st:St ⟨P,tab,ok,fn.ntmps,Fr,w⟩ L2 (w'.putObj D (.deferred none)):=⟨s2.tail,h2.cJ.trans k2,h2.low⟩
   exact⟨(fun h=>by cases h),.inl ⟨D,_,rfl,run_takeDeferred hD,v,hr.run { a' with defers:=[] } _ h1.YF st,v,L1,rfl,hR,(he _ st).sat,st.cJ⟩⟩
  cases x with
  | normal=>exact key h3
  | ret=>exact key h3
  | exit id=>exact h3.elim
  | goto l=>exact h3.elim
  | panic ch=>exact h3.elim
  | outgrown=>exact h3.elim
end Vg
namespace Vg
open Go
theorem B9{F:Fence}{n:Nat}{P:Program}{Q:Exit→Act→World→Prop}{K:Act→World→Prop}(ds:List Deferred){o:Oper}{a:Act}{w:World}(h:o.wpIn F n P a w K Q):
  o.wpIn F n P { a with defers:=a.defers++ds } w (fun a' w'=>∃a0,K a0 w'∧a'={ a0 with defers:=a0.defers++ds }) (fun x a' w'=>∃a0,Q x a0 w'∧a'={ a0 with defers:=a0.defers++ds }):=by
 have hput:∀(a:Act) v,({ a with defers:=a.defers++ds }:Act).put o.dst v={ a.put o.dst v with defers:=(a.put o.dst v).defers++ds }:=fun a v=>by
  cases hd:o.dst<;>rfl
 unfold Oper.wpIn at h ⊢
 refine⟨h.1,?_⟩
 have h:=h.2
 have he:({ a with defers:=a.defers++ds }:Act).eval=a.eval:=rfl
 rw[he]
 generalize (o.semAt F.round a.eval).run P w=r at h ⊢
 cases r with
 | ok x w'=>
  cases x<;>simp only[Oper.uponIn] at h ⊢
  case value u=>exact⟨_,h,hput _ _⟩
  case skip=>exact⟨_,h,hput _ _⟩
  case defer d=>
   refine⟨_,h,?_⟩
   exact hput { a with defers:=d::a.defers } _
  case enter f args=>
   refine⟨h.1,CallsIn.mono h.2 fun e w'' he=>?_⟩
   cases e with
   | returned u=>exact⟨_,he,hput _ _⟩
   | panicked c=>exact⟨a,he,rfl⟩
   | outgrown=>obtain⟨a0,w0,hq⟩:=he;exact⟨_,w0,a0,hq,rfl⟩
  case row row args=>exact⟨h.1,RowsIn.mono h.2 fun u w'' he=>⟨_,he,hput _ _⟩⟩
  case round l f tmps assign body=>
   refine⟨h.1,RoundIn.mono h.2 fun e w'' he=>?_⟩
   cases e with
   | returned u=>exact⟨_,he,hput _ _⟩
   | panicked c=>exact⟨a,he,rfl⟩
   | outgrown=>obtain⟨a0,w0,hq⟩:=he;exact⟨_,w0,a0,hq,rfl⟩
 | halt x w'=>
  cases x<;>simp only[Oper.uponIn] at h ⊢
  case panic u=>exact⟨a,h,rfl⟩
theorem iN{F:Fence}{n:Nat}{P:Program}{ops:Array Oper}{Q:Exit→Act→World→Prop}(ds:List Deferred):∀(fuel:Nat) (listed:Array Bool) (a:Act) (w:World),wpAnyIn F n P .any ops Q fuel listed a w →
  wpAnyIn F n P .any ops (fun x a' w'=>∃a0,Q x a0 w'∧a'={ a0 with defers:=a0.defers++ds }) fuel listed { a with defers:=a.defers++ds } w
 | 0,listed,a,w,h=>⟨h.1,a,h.2,rfl⟩
 | fuel+1,listed,a,w,h=>⟨fun hr=>⟨a,h.1 hr,rfl⟩,fun i hi=>by
  have h2:=h.2 i hi
  unfold wpOpIn at h2 ⊢
  cases hx:ops[i]? with
  | none=>rw[hx] at h2;exact iN ds fuel _ a w h2
  | some o=>
   rw[hx] at h2
   dsimp only at h2 ⊢
   have hput:∀(a:Act) v,({ a with defers:=a.defers++ds }:Act).put o.dst v={ a.put o.dst v with defers:=(a.put o.dst v).defers++ds }:=fun a v=>by
    cases hd:o.dst<;>rfl
   split
   ·rename_i hw
    rw[if_pos hw] at h2
    exact Oper.wpIn_mono (fun a' w' ⟨a0,h3,h4⟩=>by subst h4;exact iN ds fuel _ a0 w' h3) (B9 ds h2)
   ·rename_i hw
    rw[if_neg hw] at h2
    refine⟨h2.1,?_⟩
    rw[hput]
    exact iN ds fuel _ _ w h2.2⟩
theorem VD.draw{X:Cx}{D:Nat}{id:Nat}{l:List Oper}{e:Env}{L:List HP}{Q:Exit→Env→List HP→Prop}(pl:iZ)(hmix:X.P.follows .mixedOrders=true)
  (hp:(Region.noSelect l.toArray&&Nat.beq pl.len l.length&&kq l.toArray (Array.replicate l.length false) pl)=true)
  (h:VA X l.toArray [] pl [] e L (Q .normal)):VD X D (.region id l.toArray true) e L Q:=by
 intro a w ha hw
 simp only[Zx] at hp
 have hlen:pl.len=l.length:=ZW hp.1.2
 have h0:=h (fun x a' w'=>match x with | .normal=>∃e' L',kj X.n a' e'∧St X L' w'∧Q .normal e' L' | _=>False) (fun _ _ _ h=>h) (fun e' L' _ _ h1 h2 h3=>⟨e',L',h1,h2,h3⟩) hp.1.1 none
  (Array.replicate l.length false) { a with defers:=[] } { w with drawn:=w.drawn+1 } hp.2 ha.YF (EZ.nil _) hw.drew (fun _ h=>by cases h)
 rw[hlen] at h0
 have h2:=iN [vv D] _ _ _ _ (qg _ _ _ _ _ h0)
 have e1:({ ({ a with defers:=[] }:Act) with defers:=({ a with defers:=[] }:Act).defers ++ [vv D] }:Act)=a:=by
  have:=ha.mark
  obtain⟨t,d⟩:=a
  dsimp only at this
  subst this;rfl
 rw[e1] at h2
 refine Code.wpIn_mono (fun x a' w' hx=>?_) (wpIn_region_any hmix (by simpa using h2))
 obtain⟨a0,h3,rfl⟩:=hx
 cases x with
 | normal=>
  obtain⟨e',h4,L',h5,h6⟩:∃e',kj X.n a0 e'∧∃L',St X L' w'∧Q .normal e' L':=h3
  have hd0:=h4.defers
  refine⟨e',L',⟨?_,?_⟩,h5,h6⟩
  ·obtain⟨t,d⟩:=a0
   dsimp only at hd0
   subst hd0
   exact h4
  ·show a0.defers ++ [vv D]=_
   rw[hd0];rfl
 | exit id=>exact h3.elim
 | goto l=>exact h3.elim
 | ret=>exact h3.elim
 | panic ch=>exact h3.elim
 | outgrown=>exact h3.elim
theorem V9{n:Nat}{a:Act}{e:Env}(h:kj n a e){t u:Nat}(ht:Nat.blt t n=true)(hu:Nat.blt u n=true)(v x:Value):kj n { tmps:=((#[t,u]:Array Tmp).zip #[v,x]).foldl (fun tmps (t,a)=>tmps.setIfInBounds t a) a.tmps,defers:=[] } ((u,x)::(t,v)::e):=by
 have:=(h.put ht v).put hu x
 have hd:=h.defers
 obtain⟨y,d⟩:=a
 dsimp only at hd
 subst hd
 have e1:((#[t,u]:Array Tmp).zip #[v,x]).foldl (fun tmps (t,a)=>tmps.setIfInBounds t a) y=(y.setIfInBounds t v).setIfInBounds u x:=by simp
 dsimp only
 rw[e1]
 exact this
end Vg
namespace Vg
open Go
def p6(r:Loop):Loop:={ r with state:=.done,pending:=some .ret }
def I2(P:Program)(l:Nat)(r:Loop)(vals:List Value)(Fr:Nat→Prop)(w:World)(L:List HP)(R S:List HP→Prop):Prop:=
 (∀b,Fr b→b<w.heap.size)→Sat Fr (t_ l r::L) w →
  RoundIn Fence.wide 0 P l r.fn ((r.params.zip vals.toArray).foldl (fun tmps (t,a)=>tmps.setIfInBounds t a) r.tmps) r.assign r.body w fun en w'=>∃(b:Bool) (L':List HP),en=.returned (.bool b)∧(if b then R L' else S L')∧Sat Fr (t_ l (if b then r else p6 r)::L') w'∧dE Fr w w'
theorem I2.of{P:Program}{tab:Di}{ok:nK P tab}{n l:Nat}{r:Loop}{vals:List Value}{Fr:Nat→Prop}{w:World}{L:List HP}{R S:List HP→Prop}{e0:Env}(hst:r.state=.ready)(hpe:r.pending=none)
  (ha:kj n { tmps:=(r.params.zip vals.toArray).foldl (fun tmps (t,a)=>tmps.setIfInBounds t a) r.tmps,defers:=[] } e0)
  (h:VC ⟨P,tab,ok,n,Fr,w⟩ r.assign e0 (t_ l r::L) fun x e1 L1=>x=.normal∧∃L2,L1=t_ l r::L2 ∧
   ∀w2,dE Fr w w2→VC ⟨P,tab,ok,n,Fr,w2⟩ r.body e1 (t_ l { r with state:=.busy } :: L2) fun x e2 L3=>∃L4,L3=t_ l { r with state:=.busy } :: L4∧(x=.normal∧R L4∨x=.ret∧S L4)):
  I2 P l r vals Fr w L R S:=fun hlow hs=>by
 refine roundIn_of_wpIn (F:=Fence.wide) trivial ?_
 have h1:=h (some l) _ w ha ⟨hs,dE.refl _ _,hlow⟩
 refine wpIn_mono (F:=wR (some l)) h1 ?_
 rintro x a1 w1 ⟨e1,L1,g1,g2,rfl,L2,rfl,hb⟩
 have hl1:=g2.sat.lp
 obtain⟨s2,k2⟩:=g2.sat.Ad { r with state:=.busy }
 refine⟨_,run_beginRound hl1 hst,?_⟩
 have hlow2:∀b,Fr b→b<(w1.putObj l (.loop { r with state:=.busy })).heap.size:=fun b hb=>by rw[World.putObj_size];exact g2.nX b hb
 refine wpIn_mono (F:=wR (some l)) (hb (w1.putObj l (.loop { r with state:=.busy })) (g2.cJ.trans k2) (some l) a1 _ g1 ⟨s2,dE.refl _ _,hlow2⟩) ?_
 rintro x a2 w2 ⟨e2,L3,g3,g4,L4,rfl,hR⟩
 have he:({ ({ r with state:=LoopState.busy }:Loop) with state:=if (none:Option Code).isNone then .ready else .done,pending:=none }:Loop)=r:=by
  obtain⟨_,_,_,_,_,_,_,_⟩:=r
  dsimp only at hst hpe
  subst hst hpe
  rfl
 have he2:({ ({ r with state:=LoopState.busy }:Loop) with state:=if (some Code.ret).isNone then .ready else .done,pending:=some Code.ret }:Loop)=p6 r:=rfl
 rcases hR with ⟨rfl,hR⟩ | ⟨rfl,hR⟩
 ·obtain⟨s5,k5⟩:=g4.sat.Ad r
  refine⟨_,_,run_endRound none g4.sat.lp,?_⟩
  rw[he]
  exact⟨true,L4,Z,hR,s5,((g2.cJ.trans k2).trans g4.cJ).trans k5⟩
 ·obtain⟨s5,k5⟩:=g4.sat.Ad (p6 r)
  refine⟨_,_,run_endRound (some .ret) g4.sat.lp,?_⟩
  rw[he2]
  exact⟨false,L4,Z,hR,s5,((g2.cJ.trans k2).trans g4.cJ).trans k5⟩
theorem Ri.Qr{X:Cx}{x:Operand}{l:Nat}{r:Loop}{args:Array Operand}{tys:Array TypeId}{e:Env}{L Lc Lr:List HP}{vals:List Value}{R S:List HP→Prop}
  (hx:ev e x=some (lN l)) (hargs:lz e args.toList=some vals) (hn:vals.length=r.params.size) (hp:L.Perm (t_ l r::(Lc++Lr)))
  (ht:∀Fr' w,(∀b,X.Fr b→Fr' b)→St X L w→aL Fr' Lr w→I2 X.P l r vals Fr' w Lc R S):
  Ri X (.call ⟨.value x,args,tys⟩) e L (fun v L'=>∃(b:Bool) (L1:List HP),v=.bool b∧(if b then R L1 else S L1)∧L'=t_ l (if b then r else p6 r)::(L1++Lr)):=by
 refine⟨fun c=>Op.noConfusion,fun a w ha hw dst ty pos after guard=>?_⟩
 obtain⟨F,hs,hnd,hb⟩:=hw.sat.perm hp
 obtain⟨i,G,rfl,hi,hG⟩:=hs
 obtain⟨rfl,hl⟩:=hi
 obtain⟨Fc,Fl,rfl,hsc,hsl⟩:=dK.append.1 hG
 have T:=ht (fun b=>X.Fr b∨b∈Fl) w (fun b h=>.inl h) hw ⟨Fl,hsl,fun b h=>.inr h⟩
 have hev:args.map a.eval=vals.toArray:=by
  have:=ha.lz hargs
  apply ZP.1
  simpa using this
 refine⟨l,r.fn,(r.params.zip vals.toArray).foldl (fun tmps (t,a)=>tmps.setIfInBounds t a) r.tmps,r.assign,r.body,?_,?_⟩
 rotate_left
 ·have hnd2:=ZD.1 hnd
  have hnd3:=ZD.1 hnd2.2.1
  refine RoundIn.mono (T (fun b h=>?_) ⟨[l]++Fc,⟨[l],Fc,Z,⟨rfl,hl⟩,hsc⟩,?_,fun b h=>⟨fun h'=>?_,?_⟩⟩) fun en w' ⟨bb,L',h1,h2,h3,h4⟩=>?_
  ·rcases h with h | h
   ·exact hw.nX b h
   ·exact(hb b ya).2
  ·rw[←Zr] at hnd
   exact(ZD.1 hnd).1
  ·rcases h' with h' | h'
   ·refine(hb b ?_).1 h'
    rcases Zq.1 h with h | h
    ·simp at h;simp[h]
    ·simp[h]
   ·rcases Zq.1 h with h | h
    ·exact hnd2.2.2 b h b (by simp[h']) rfl
    ·exact hnd3.2.2 b h b h' rfl
  ·rcases Zq.1 h with h | h
   ·exact(hb b (by simp at h;simp[h])).2
   ·exact(hb b ya).2
  ·refine⟨.bool bb,t_ l (if bb then r else p6 r)::(L'++Lr),h1,⟨bb,L',Z,h2,Z⟩,⟨?_,hw.cJ.trans (h4.mono fun b h=>.inl h),hw.low⟩⟩
   obtain⟨K,hK,hKn,hKb⟩:=h3
   refine⟨K++Fl,dK.append (L:=t_ l (if bb then r else p6 r)::L').2 ⟨K,Fl,Z,hK,hsl.loc fun b h=>h4.block b (.inr h)⟩,?_,?_⟩
   ·exact ZD.2 ⟨hKn,hnd3.2.1,fun x hx y hy he=>(hKb x hx).1 (.inr (he▸hy))⟩
   ·intro b h
    rcases Zq.1 h with h | h
    ·exact⟨fun h'=>(hKb b h).1 (.inl h'),(hKb b h).2⟩
    ·exact Tm
 ·have hy:=run_yield (P:=X.P) (args:=vals.toArray) hl (by simpa using hn)
  simp only[execOp,resolve,ha.ev hx,lN,Deferred.ofValue,invoke]
  rw[hev]
  simpa[Sem.run_bind,Result.andThen] using hy
section
variable {X:Cx} {D:Nat} {b c:Code} {e:Env} {L:List HP} {Q:Exit→Env→List HP→Prop} {QD:Nat→Exit→Env→List HP→Prop}
theorem VM.Qs{id:Nat}(h:VM X c e L (fun _ _ _=>False) (fun D x e L=>(x=.normal∧QD D .normal e L)∨(x=.ret∧QD D .ret e L))):VM X (.block id c) e L (fun _ _ _=>False) QD:=by
 intro a w ha hw
 refine wpIn_block (wpIn_mono (h a w ha hw) fun x a' w' hh=>?_)
 rcases hh with ⟨_,_,_,_,h3⟩ | ⟨D,e',L',h1,h2,⟨rfl,h3⟩ | ⟨rfl,h3⟩⟩
 ·exact h3.elim
 ·exact .inr ⟨D,e',L',h1,h2,h3⟩
 ·exact .inr ⟨D,e',L',h1,h2,h3⟩
theorem VM.ND{g:Operand}{ps:Array Tmp}{assign body:Code}{f:FuncId}{capt:List Value}{M N:List HP→Prop}(hg:ev e g=some (pS f [] capt))(hc:dS X.P f)
  (ht:∀(l:Nat) (r:Loop) (Fr':Nat→Prop) (w:World),(∀b,X.Fr b→Fr' b)→dE X.Fr X.w0 w→(∃a:Act,kj X.n a e∧r.tmps=a.tmps)→r.state=.ready→r.pending=none→r.params=ps→r.assign=assign→r.body=body →
   aH X.P f (lN l::capt) Fr' w (t_ l r::L) fun _ L'=>∃(bb:Bool) (L2:List HP),L'=t_ l (if bb then r else p6 r)::L2∧(if bb then M L2 else N L2))
  (hk:∀D L2,M L2→QD D .normal e (HD D::L2)) (hx:∀D L2,N L2→QD D .ret e (HD D::L2)):VM X (.rangeFunc g ps assign body) e L Q QD:=by
 intro a w ha hw
 refine wpIn_rangeFunc (F:=Fence.wide) fun fn _=>?_
 obtain⟨r,hr⟩:∃r:Loop,r={ state:=.ready,pending:=none,fn,tmps:=a.tmps,params:=ps,assign,body,defers:=w.heap.size }:=⟨_,rfl⟩
 obtain⟨W,hW⟩:∃W,W=(w.alloc (.deferred (some []))).alloc (.loop r):=⟨_,rfl⟩
 have s1:Sat X.Fr (HD w.heap.size::L) (w.alloc (.deferred (some []))):=hw.sat.alloc hw.nX _ _ ⟨rfl,heap_alloc_new w _⟩
 have k1:dE X.Fr w (w.alloc (.deferred (some []))):=dE.alloc hw.nX _
 have low1:∀b,X.Fr b→b<(w.alloc (.deferred (some []))).heap.size:=fun b hb=>Nat.lt_of_lt_of_le (hw.nX b hb) k1.size
 have hsz:(w.alloc (.deferred (some []))).heap.size=w.heap.size+1:=by simp
 have s2:Sat X.Fr (t_ (w.heap.size+1) r::HD w.heap.size::L) W:=by
  rw[hW,←hsz]
  exact s1.alloc low1 _ _ ⟨rfl,heap_alloc_new _ _⟩
 have k2:dE X.Fr w W:=by rw[hW];exact k1.trans (dE.alloc low1 _)
 have hev:a.eval g=.func (.func f) #[] capt.toArray:=ha.ev hg
 refine⟨w.heap.size+1,[vv w.heap.size],W,{ target:=.fn (.func f) capt.toArray,args:=#[lN (w.heap.size+1)] },W,f,#[lN (w.heap.size+1)]++capt.toArray,W,?_,?_,fun _ _=>trivial,?_,(fun h=>by cases h),?_⟩
 ·rw[hW,hr];exact run_enterLoop_outer _ _ _ _ _
 ·simp only[resolve,hev]
  simp[Deferred.ofValue,lN,Act.eval]
 ·simp only[invoke]
  exact mO hc _ _
 obtain⟨F,hs,hnd,hb⟩:=s2
 obtain⟨i,G,rfl,hi,hG⟩:=hs
 obtain⟨rfl,hl⟩:=hi
 obtain⟨j,K,rfl,hj,hK⟩:=hG
 obtain⟨rfl,hD⟩:=hj
 have hn2:=ZD.1 hnd
 have hn3:=ZD.1 hn2.2.1
 have T:=ht (w.heap.size+1) r (fun b=>X.Fr b∨b=w.heap.size) W (fun b h=>.inl h) (hw.cJ.trans k2) ⟨a,ha,by rw[hr]⟩ (by rw[hr]) (by rw[hr]) (by rw[hr]) (by rw[hr]) (by rw[hr])
 have hc1:=T.calls (fun b h=>by
  rcases h with h | rfl
  ·exact(Nat.lt_of_lt_of_le (hw.nX b h) k2.size)
  ·exact(hb _ yf).2) ⟨[w.heap.size+1]++K,⟨[w.heap.size+1],K,Z,⟨rfl,hl⟩,hK⟩,by
   refine ZD.2 ⟨by simp,hn3.2.1,fun x hx y hy he=>hn2.2.2 x hx y (by simp[hy]) he⟩,fun b hbm=>⟨fun h=>?_,?_⟩⟩
 rotate_left
 ·rcases h with h | rfl
  ·rcases Zq.1 hbm with h2 | h2
   ·exact(hb b (by simp at h2;simp[h2])).1 h
   ·exact(hb b yj).1 h
  ·rcases Zq.1 hbm with h2 | h2
   ·simp at h2
   ·exact hn3.2.2 _ yf _ h2 rfl
 ·rcases Zq.1 hbm with h2 | h2
  ·exact(hb b (by simp at h2;simp[h2])).2
  ·exact(hb b yj).2
 have e1:(#[lN (w.heap.size+1)]++capt.toArray:Array Value)=(lN (w.heap.size+1)::capt).toArray:=by simp
 rw[e1]
 refine(callsIn_wide (n:=0-1)).2 (Calls.mono hc1 ?_)
 rintro en w' ⟨v,L',rfl,⟨bb,L2,rfl,hM⟩,h3,h4⟩
 obtain⟨rr,hrr⟩:∃rr,rr=(if bb then r else p6 r):=⟨_,rfl⟩
 rw[←hrr] at h3
 have hl':=h3.lp
 have hnb:rr.state≠.busy:=by
  rw[hrr]
  cases bb
  ·exact fun h=>by cases h
  ·rw[hr];exact fun h=>by cases h
 have hpd:rr.pending=if bb then none else some .ret:=by
  rw[hrr]
  cases bb
  ·rfl
  ·rw[hr];rfl
 obtain⟨s5,k5⟩:=h3.Ad { rr with state:=.exhausted }
 refine⟨if bb then none else some .ret,w'.putObj (w.heap.size+1) (.loop { rr with state:=.exhausted }),?_,?_⟩
 ·have:=run_endLoop (P:=X.P) hl' hnb
  rw[this,hpd]
 have hD':(w'.putObj (w.heap.size+1) (.loop { rr with state:=.exhausted })).heap[w.heap.size]?=some (.deferred (some [])):=(k5.block _ (.inr rfl)).trans ((h4.block _ (.inr rfl)).trans hD)
 have hag:NA w.heap.size X.n { a with defers:=[vv w.heap.size]++a.defers } e:=by
  refine⟨?_,?_⟩
  ·have hd0:=ha.defers
   obtain⟨t,d⟩:=a
   dsimp only at hd0
   subst hd0
   exact ha
  ·show [vv w.heap.size]++a.defers=_
   rw[ha.defers];rfl
 have hst:St X (HD w.heap.size::L2) (w'.putObj (w.heap.size+1) (.loop { rr with state:=.exhausted })):=by
  refine⟨?_,(hw.cJ.trans k2).trans ((h4.trans k5).mono fun b h=>.inl h),hw.low⟩
  obtain⟨F5,hs5,hn5,hb5⟩:=s5.tail
  refine⟨[w.heap.size]++F5,⟨_,F5,Z,⟨rfl,hD'⟩,hs5⟩,ZD.2 ⟨by simp,hn5,fun x hx y hy he=>?_⟩,fun b hbm=>?_⟩
  ·simp at hx
   exact(hb5 y hy).1 (.inr (by rw[←he,hx]))
  ·rcases Zq.1 hbm with h2 | h2
   ·simp at h2
    rw[h2]
    exact⟨fun h=>Nat.lt_irrefl _ (hw.nX _ h),(ZZ.1 hD').1⟩
   ·exact⟨fun h=>(hb5 b h2).1 (.inl h),(hb5 b h2).2⟩
 cases bb with
 | true=>exact .inr ⟨w.heap.size,e,HD w.heap.size::L2,hag,hst,hk _ _ hM⟩
 | false=>exact wpIn_ret (.inr ⟨w.heap.size,e,HD w.heap.size::L2,hag,hst,hx _ _ hM⟩)
end
end Vg
namespace Scr
open Go Vg T Api LibC
attribute [local irreducible] VO VC VA VM VD
abbrev Sv:TypeId:=9
abbrev V_:TypeId:=3
abbrev NF:TypeId:=34
abbrev Sw:TypeId:=37
abbrev Sx:TypeId:=25
def eC(n:Int):List Value:=[.int .i64 n]
theorem I3(n:Int):(eC n).length=1:=rfl
structure D' where
 a:Option Addr
 c:Nat
 b:Option Addr
 d:Nat
structure OR where
 l:Nat
 t:Nat
 m:Nat
 e:Nat
 n:Nat
def xQ(B:OR)(x:List (cE×Int))(y:D'):List HP:=[pt B.l [.slice y.a x.length y.c] Sx,pt B.t [.slice y.b x.length y.d] Sw,pt B.m [.int .i64 0] V_,pt B.e [.int .i64 0] NF,pt B.n [.int .i64 x.length] V_,
 aJ 33 8 y.a x.length y.c (flat dR (x.map Prod.fst)),aJ NF 1 y.b x.length y.d (flat eC (x.map Prod.snd))]
def my(B:OR)(x:List (cE×Int)):HP:=hex fun y:D'=>cT (xQ B x y)
def xR(B:OR)(x:List (cE×Int)):List HP:=[pt B.l [.slice none 0 0] Sx,pt B.t [.slice none 0 0] Sw,pt B.m [.int .i64 ((x.length:Int)+1)] V_,pt B.e [.int .i64 10] NF]
theorem aV.read(B:OR)(x:List (cE×Int)):aV (ι:=D') (my B x) (fun _=>True) (fun y=>xQ B x y):=fun w ids ⟨y,h⟩ hn=>⟨y,trivial,ids,h,hn,fun _ h=>h⟩
theorem ae.read{B:OR}{x:List (cE×Int)}{L K:List HP}(y:D')(h:ae L (xQ B x y++K)):ae L (my B x::K):=ae.ex (f:=fun y:D'=>cT (xQ B x y)) y (ae.sep h)
def YG(r:Loop)(l:Nat)(B:OR):Prop:=∀(x:List (cE×Int)) (t:List UInt8) (ended:Bool) (Fr:Nat→Prop) (w:World),t.length≤900000→x.length≤1000000→bX Fr w→cj Fr w →
 I2 Tryz.prog l r [.string (cH t),.bool ended] Fr w [my B x] (fun L=>∃p,ended=true∧kD t=some p∧L=[my B (x ++ [p])]) (fun L=>(ended=false∨kD t=none)∧L=xR B x)
theorem B_{r:Loop}{l bx:Nat}{B:OR}(hy:YG r l B)(hps:r.params.size=2)(s:List UInt8)(hs:s.length≤900000)(x0:List (cE×Int))(hx0:x0.length+s.length≤1000000)(hG:bX Fr w)(hK:cj Fr w):
  aH Tryz.prog 40 [lN l,.pointer (some ⟨bx,0,none⟩)] Fr w (t_ l r :: [my B x0,pt bx [.string (cH s)] Sv]) (fun v L=>∃bb x,eJ (s.length+1) s x0=(bb,x)∧v=.tuple #[]∧L=t_ l (if bb then r else p6 r)::(if bb then [my B x] else xR B x)):=by
 obtain⟨J,hJ⟩:∃J,J=eJ (s.length+1) s x0:=⟨_,rfl⟩
 rw[←hJ]
 refine TF 20 Tryz.func40 Z yn ah Z Z ?_
 refine VC.block ?_
 refine VC.loop (σ:=List UInt8×List (cE×Int)×Nat) (fun z=>[(0,lN l),(1,pV bx)]) (fun z=>t_ l r :: [my B z.2.1,pt bx [.string (cH z.1)] Sv]) (fun z=>z.2.1.length+z.1.length≤1000000∧z.1.length≤900000∧z.1.length<z.2.2∧J=eJ z.2.2 z.1 z.2.1) (fun z=>z.1.length) (s,x0,s.length+1)
  ⟨hx0,hs,by dsimp only;omega,hJ⟩ bd ER ?_
 rintro⟨t,x,f⟩ ⟨h1,h2,h3,h4⟩
 dsimp only at h1 h2 h3 h4 ⊢
 obtain⟨f,rfl⟩:∃k,f=k+1:=⟨f-1,by omega⟩
 refine sf ?_
 refine CC Z (fun hc=>CK ?_) (fun hc=>CX ?_)
 rotate_left
 ·have ht:t=[]:=by
   rw[mq] at hc
   have hc:cH t=⟨#[]⟩:=by simpa using hc
   have:=congrArg (fun b:ByteArray=>b.data.toList) hc
   rwa[gU] at this
  rw[eJ,if_pos ht] at h4
  exact ay.void Z (IP 0 Z (IP 0 Z ae.nil)).ar ⟨true,x,h4,Z,Z⟩
 have ht:t≠[]:=fun e=>by
  rw[mq,e] at hc
  simp[cH] at hc
 rw[eJ,if_neg ht] at h4
 have hcl:=IT (s:=t)
 refine sf ?_
 refine VG (VV (fun Fr w hF hw _=>oT Fr w (cH t) ⟨#[10]⟩ Rk (bX.st (X:=⟨Tryz.prog,tab,ah,20,_,_⟩) hG hF hw)) Z ?_)
 rw[gU,show(⟨#[10]⟩:ByteArray).data.toList=[10] from rfl]
 have hct:=fun h=>Fj (s:=t) h ht
 generalize Lib.cut t [10]=q at hcl hct h4
 obtain⟨ln,rs,en⟩:=q
 dsimp only at hcl hct h4 ⊢
 refine aq ?_
 refine VG (VO.Za (Ri.Qr (r:=r) (vals:=[.string (cH ln),.bool en]) (Lc:=[my B x]) (Lr:=[pt bx [.string (cH t)] Sv]) Z Z hps.symm (List.Perm.refl _) (fun Fr' w hF hw hS=>hy x ln en Fr' w yd yd (bX.st (X:=⟨Tryz.prog,tab,ah,20,_,_⟩) hG hF hw) (cj.st (X:=⟨Tryz.prog,tab,ah,20,_,_⟩) hK hF hw))) ?_)
 rintro _ _ ⟨bb,L1,rfl,hL1,rfl⟩
 cases bb with
 | false=>
  obtain⟨hno,rfl⟩:(en=false∨kD ln=none)∧L1=xR B x:=hL1
  refine Pa ?_
  refine CR (ay.void Z (L':=t_ l (p6 r)::xR B x) (IP 0 Z (IP 0 Z (IP 0 Z (IP 0 Z (IP 0 Z ae.nil))))).ar ⟨false,x,?_,Z,Z⟩)
  rw[h4]
  rcases hno with h | h
  ·rw[if_neg ir]
  ·by_cases he:en=true
   ·rw[if_pos he,h]
   ·rw[if_neg he]
 | true=>
  obtain⟨p,he,hp,rfl⟩:∃p,en=true∧kD ln=some p∧L1=[my B (x ++ [p])]:=hL1
  rw[if_pos he,hp] at h4
  refine EY ?_
  refine VG (VO.st 2 Z Z Z Z ZV Z Z ?_)
  refine aq ?_
  have:=(hct he).1
  exact⟨(rs,x ++ [p],f),⟨by dsimp only;rw[Zh,List.length_singleton];omega,by dsimp only;omega,by dsimp only;omega,h4⟩,by dsimp only;omega,bd,ER⟩
theorem Ea(s:ByteArray):aH Tryz.prog 23 [.string s] Fr w [] (fun v L=>∃bx,v=pS 40 [] [.pointer (some ⟨bx,0,none⟩)]∧L=[pt bx [.string s] Sv]):=by
 refine TF 4 Tryz.func23 Z yn ah Z Z ?_
 refine CS (CG (VG (VO.RV Z fun bx=>?_)))
 refine aq ?_
 refine VG (VI (fE (u:=[]) (v:=[.pointer (some ⟨bx,0,none⟩)]) Z Z) ?_)
 refine aq ?_
 exact CR (ay.tmp 2 Z Z ER ⟨bx,Z,Z⟩)
theorem call40:dS Tryz.prog 40:=⟨_,Tryz.func40,by kernel_rfl,by kernel_rfl⟩
end Scr
namespace Scr
open Go Vg T Api LibC
attribute [local irreducible] VO VC VA VM VD
theorem ay.I4{X:Cx}{fn:Func}{R:Value→List HP→Prop}{e:Env}{L:List HP}{T1 T2 T3 T4:TypeId}{t1 t2 t3 t4:TI}{b1 b2 b3 b4:Nat}{v1 v2 v3 v4:Value}(p1 p2 p3 p4:Nat)(h:fn.results=#[.cell p1 T1,.cell p2 T2,.cell p3 T3,.cell p4 T4])
  (hp1:Vg.look e p1=some (.pointer (some ⟨b1,0,none⟩))) (hT1:aM X.tab T1=some t1) (hr1:aE X L t1 b1 0 v1) (hp2:Vg.look e p2=some (.pointer (some ⟨b2,0,none⟩))) (hT2:aM X.tab T2=some t2) (hr2:aE X L t2 b2 0 v2)
  (hp3:Vg.look e p3=some (.pointer (some ⟨b3,0,none⟩))) (hT3:aM X.tab T3=some t3) (hr3:aE X L t3 b3 0 v3) (hp4:Vg.look e p4=some (.pointer (some ⟨b4,0,none⟩))) (hT4:aM X.tab T4=some t4) (hr4:aE X L t4 b4 0 v4)
  {L':List HP} (he:jj X L L') (hR:R (.tuple #[v1,v2,v3,v4]) L'):ay X fn R e L:=
 ⟨_,L',⟨fun a w ha hw=>by
  have h1:=fP (X.ok.look hT1) (hr1 w hw)
  have h2:=fP (X.ok.look hT2) (hr2 w hw)
  have h3:=fP (X.ok.look hT3) (hr3 w hw)
  have h4:=fP (X.ok.look hT4) (hr4 w hw)
  have q1:=ha.at_ p1 _ hp1
  have q2:=ha.at_ p2 _ hp2
  have q3:=ha.at_ p3 _ hp3
  have q4:=ha.at_ p4 _ hp4
  simp only[Array.getD_eq_getD_getElem?] at q1 q2 q3 q4
  simp[results,h,q1,q2,q3,q4,asAddr,h1,h2,h3,h4]⟩,he,hR⟩
theorem eQ.kp{Fr:Nat→Prop}{w w':World}{b:Nat}{cs:List Value}(h:eQ Fr w b cs)(hk:dE Fr w w'):eQ Fr w' b cs:=by
 obtain⟨t,fz,ht⟩:=h.at_
 exact⟨h.fr,t,fz,(hk.block b h.fr).trans ht⟩
theorem eQ.up{Fr Fr':Nat→Prop}{w:World}{b:Nat}{cs:List Value}(h:eQ Fr w b cs)(hF:∀b,Fr b→Fr' b):eQ Fr' w b cs:=by
 obtain⟨t,fz,ht⟩:=h.at_
 exact⟨hF b h.fr,t,fz,ht⟩
def Sy(s:List UInt8)(v:Value)(L:List HP):Prop:=∃bb x,eJ (s.length+1) s []=(bb,x)∧(if bb then ∃y:D',v=.tuple #[.slice y.a x.length y.c,.slice y.b x.length y.d,.int .i64 0,.int .i64 0]∧L=[aJ 33 8 y.a x.length y.c (flat dR (x.map Prod.fst)),aJ NF 1 y.b x.length y.d (flat eC (x.map Prod.snd))]
 else v=.tuple #[.slice none 0 0,.slice none 0 0,.int .i64 ((x.length:Int)+1),.int .i64 10]∧L=[])
theorem jf(s:List UInt8)(hs:s.length≤900000)(hG:bX Fr w)(hK:cj Fr w):aH Tryz.prog 10 [.string (cH s)] Fr w [] (Sy s):=by
 refine aH.ofM 41 Tryz.func10 Z yn ah Z Z ?_
 refine VM.Qq ?_
 refine CG (VG (VO.alloc Z fun lb=>?_))
 refine VG (VO.alloc Z fun tb=>?_)
 refine VG (VO.alloc Z fun mb=>?_)
 refine VG (VO.alloc Z fun eb=>?_)
 refine AM ?_
 refine VM.Qq ?_
 refine CG (VG (VO.alloc Z fun nb=>?_))
 refine VG (VO.st 0 Z Z Z Z ZV Z Z ?_)
 obtain⟨B,hB⟩:∃B:OR,B=⟨lb,tb,mb,eb,nb⟩:=⟨_,rfl⟩
 refine VG (VO.ar (L':=[my B []]) (by subst hB;exact(ae.read ⟨none,0,none,0⟩ (IP 4 Z (IP 3 Z (IP 2 Z (IP 1 Z (IP 0 Z (ae.bY (ae.bY ae.nil)))))))).ar) ?_)
 refine AM ?_
 refine VM.NC ?_
 refine VM.Qq ?_
 refine aq ?_
 refine VG (VK (Lc:=[]) (fun Fr w hF hw hS=>Ea Fr w (cH s)) Z Z ?_)
 rintro _ _ ⟨bx,rfl,rfl⟩
 refine VG (VO.ar (L':=[my B [],pt bx [.string (cH s)] Sv]) (ae.perm (List.Perm.swap ..)).ar ?_)
 refine aq ?_
 refine VM.Qs ?_
 refine VM.ND (M:=fun L2=>∃x,eJ (s.length+1) s []=(true,x)∧L2=[my B x]) (N:=fun L2=>∃x,eJ (s.length+1) s []=(false,x)∧L2=xR B x) Z call40 (fun l r Fr' w2 hF hK2 ha hst hpe hps has hbo=>?_) (fun D L2 h=>?_) (fun D L2 h=>?_)
 ·obtain⟨a,ha1,ha2⟩:=ha
  have hy:YG r l B:=by
   intro x t ended Fr w ht hx hG hK
   have key:=V9 ha1 (t:=14) (u:=15) rfl rfl (.string (cH t)) (.bool ended)
   rw[←ha2,←hps] at key
   refine I2.of (vals:=[.string (cH t),.bool ended]) (tab:=tab) (ok:=ah) (n:=41) hst hpe key ?_
   generalize ({ r with state:=LoopState.busy }:Loop)=rb
   rw[has]
   refine aq ?_
   refine⟨rfl,_,Z,fun w2 hk=>?_⟩
   rw[hbo]
   have hG2:bX Fr w2:=hG.cJ (fun _ h=>h) hk
   have hK2:cj Fr w2:=eQ.kp hK hk
   clear key ha1 ha2 has hbo hst hpe
   subst hB
   refine VC.block ?_
   refine VC.e7 1 Z (aV.read _ x) ?_
   rintro y -
   refine Dd ?_
   refine JY ?_
   refine aq ?_
   refine VG (VO.st 4 Z Z Z Z ZV Z Z ?_)
   refine aq ?_
   refine VG (VO.c_ (φ:=OQ t) (fun Fr' w hF hw hS=>wL Fr' w t ht (bX.st (X:=⟨Tryz.prog,tab,ah,41,_,_⟩) hG2 hF hw) (cj.st (X:=⟨Tryz.prog,tab,ah,41,_,_⟩) hK2 hF hw)) Z ?_)
   rintro _ (⟨d,e,hr,rfl⟩ | ⟨hr,rfl⟩)
   ·refine aq ?_
    refine VG (VO.alloc Z fun db=>?_)
    refine TL ?_
    refine aq ?_
    cases ended with
    | false=>
     refine VG (VY 26 true Z Z ?_)
     refine Ki ?_
     refine U3 ?_
     refine U4 ?_
     refine TM ?_
     refine TN ?_
     refine TO ?_
     refine U5 ?_
     refine U6 ?_
     exact AG (AN (CR ⟨_,Z,.inr ⟨rfl,.inl Z,Z⟩⟩))
    | true=>
     refine VG (VY 26 false Z Z ?_)
     refine J6 ?_
     refine jA ?_
     refine Rz ?_
     refine VG (VO.buildSlice (n:=1) (pv:=[(0,.agg (dR d).toArray)]) (dR d) Z Z Z Z yp (bM Z Z Z) fun n1=>?_)
     refine VG (VO.append (m:=1) (news:=dR d) 7 Z Z Z Z Z Z Z (dq.pt 0 Z Z Z) Z (by show(x.length+1)*80≤_;omega) yd fun a2 c2 hc2=>?_)
     refine aq ?_
     refine VG (VO.st 3 Z Z Z Z ZV Z Z ?_)
     refine Dd ?_
     refine VG (VO.buildSlice (n:=1) (pv:=[(0,.int .i64 e)]) (eC e) Z Z Z Z yp (bM Z Z Z) fun n2=>?_)
     refine VG (VO.append (m:=1) (news:=eC e) 9 Z Z Z Z Z Z Z (dq.pt 0 Z Z Z) Z (by show(x.length+1)*8≤_;omega) yd fun a3 c3 hc3=>?_)
     refine aq ?_
     refine VG (VO.st 6 Z Z Z Z ZV Z Z ?_)
     have hL:(x ++ [(d,e)]).length=x.length+1:=by simp
     have hF1:flat dR ((x ++ [(d,e)]).map Prod.fst)=flat dR (x.map Prod.fst)++dR d:=by simp[bf,bL,e_]
     have hF2:flat eC ((x ++ [(d,e)]).map Prod.snd)=flat eC (x.map Prod.snd)++eC e:=by simp[bf,bL,e_]
     refine VG (VO.ar (L':=t_ l rb :: [my ⟨lb,tb,mb,eb,nb⟩ (x ++ [(d,e)])]) (ae.ar (IP 10 Z (ae.read ⟨a2,c2,a3,c3⟩ ?_))) ?_)
     ·unfold xQ
      rw[hL,hF1,hF2]
      exact(dG [5,5,5,5,5,2,0])
     exact VG (VN ⟨_,Z,.inl ⟨rfl,_,Z,hr,Z⟩⟩)
   ·refine aq ?_
    refine VG (VO.alloc Z fun db=>?_)
    refine Q2 ?_
    refine aq ?_
    cases ended with
    | false=>
     refine VG (VY 26 true Z Z ?_)
     refine Ki ?_
     refine U3 ?_
     refine U4 ?_
     refine TM ?_
     refine TN ?_
     refine TO ?_
     refine U5 ?_
     refine U6 ?_
     exact AG (AN (CR ⟨_,Z,.inr ⟨rfl,.inl Z,Z⟩⟩))
    | true=>
     refine VG (VY 26 false Z Z ?_)
     refine Ki ?_
     refine U3 ?_
     refine U4 ?_
     refine TM ?_
     refine TN ?_
     refine TO ?_
     refine U5 ?_
     refine U6 ?_
     exact AG (AN (CR ⟨_,Z,.inr ⟨rfl,.inr hr,Z⟩⟩))
  exact Ring.aH.drop (B_ Fr' w2 hy (by rw[hps];rfl) s hs [] (by simpa using(by omega:s.length≤1000000)) (hG.cJ hF hK2) (eQ.up (eQ.kp hK hK2) hF)) fun v L ⟨bb,x,hx,_,e⟩=>⟨L,⟨bb,_,e,by cases bb<;>exact⟨x,hx,rfl⟩⟩,ae.refl⟩
 ·obtain⟨x,hx,rfl⟩:=h
  refine .inl ⟨rfl,?_⟩
  subst hB
  refine VD.seq (VD.draw (ts 0 2 (.only 2 (.only 3 (.only 4 (.only 5 .nil))))) yn yr ?_)
  refine VA.e7 1 Z (aV.read _ x) ?_
  rintro y -
  refine FT ?_
  refine AG (VA.st 0 Z Z Z Z Z ZV Z Z yu ?_)
  refine TM ?_
  refine TN ?_
  refine TO ?_
  refine VA.ar (L':=HD D::xQ ⟨lb,tb,mb,eb,nb⟩ x y) (IP 7 Z ae.refl).ar ?_
  refine AG (AN (VD.ret ⟨_,Z,?_⟩))
  exact ay.I4 2 3 4 5 Z Z Z (aE.one 0 Z Z) Z Z (aE.one 1 Z Z) Z Z (aE.one 2 Z Z) Z Z (aE.one 3 Z Z) (IP 5 Z (IP 5 Z ae.nil)).ar ⟨true,x,hx,y,Z,Z⟩
 ·obtain⟨x,hx,rfl⟩:=h
  subst hB
  refine .inr ⟨rfl,_,Z,?_⟩
  exact ay.I4 2 3 4 5 Z Z Z (aE.one 0 Z Z) Z Z (aE.one 1 Z Z) Z Z (aE.one 2 Z Z) Z Z (aE.one 3 Z Z) ae.nil.ar ⟨false,x,hx,Z,Z⟩
end Scr
namespace Cl
open Go Vg T Api
attribute [local irreducible] VO VC VA
abbrev qC:TypeId:=312
abbrev rL:TypeId:=155
def eK(o:gk):List Value:=[.int .i64 o.kind,.int .i64 o.reason,.int .i64 o.res.code,.string o.res.value,.int .i64 o.res.version,.int .i64 o.res.at_]
def jy:gk:=⟨0,0,⟨0,⟨#[]⟩,0,0⟩⟩
def vw(d k s:Int)(o:gk):List Value:=[.bool true,.int .u32 d,.int .i32 k,.int .u32 0,.int .u32 s]++eK o
def sP:Option gk→List Value
 | none=>vw 0 0 0 jy
 | some o=>vw 1 0 1 o
theorem GP:aH Tryz.prog 150 [] Fr w [] (fun v L=>∃p,v=.pointer (some ⟨p,0,none⟩)∧L=[pt p (sP none) qC]):=by
 refine TF 3 Tryz.func150 Z yn ah Z Z ?_
 refine aq ?_
 refine VG (VI (LB (pv:=[(0,.bool true)]) (sP none) Z Z Z yn Z) ?_)
 refine VG (VB (vs:=sP none) Z fun q=>?_)
 refine aq ?_
 exact CR (ay.tmp 0 Z Z ER ⟨q,Z,Z⟩)
theorem qD{p:Nat}{d k s:Int}{o:gk}(h:eQ Fr w p (vw d k s o)):aH Tryz.prog 203 [.pointer (some ⟨p,0,none⟩)] Fr w [] (fun v L=>v=.bool false∧L=[]):=by
 refine TF 12 Tryz.func203 Z yn ah Z Z ?_
 refine aK ?_
 refine Rs ?_
 refine yS ?_
 exact EX
section
variable {X:Cx} {e:Env} {L:List HP}
theorem a8.Qt{k:IntKind}{f:FuncId}{fn:Func}{x:Operand}{tys:Array TypeId}{b off:Nat}{n:Int}(h:Ext X.P f fn (Extern.Atomic.loadT (.int k)))(hx:ev e x=some (.pointer (some ⟨b,off,none⟩)))
  (hr:∀w,St X L w→w.cell? ⟨b,off,none⟩=some (.int k n)):a8 X (.call ⟨.value (.func f),#[x],tys⟩) e L (fun v L'=>v=.int k n∧L'=L):=fun a w ha hw dst ty pos after guard=>by
 refine .inl ⟨_,w,L,?_,⟨rfl,Z⟩,hw⟩
 rw[xm]
 have:(#[x]:Array Operand).map a.eval=#[.pointer (some ⟨b,off,none⟩)]:=by simp[ha.ev hx]
 rw[this]
 exact run_call_load h.at_ h.nm h.nb h.nn k h.ex (hr w hw)
theorem a8.NG{k:IntKind}{f:FuncId}{fn:Func}{x y:Operand}{tys:Array TypeId}{b off t:Nat}{m:Int}{u:Value}{cs:List Value}(i:Nat)(h:Ext X.P f fn Extern.Atomic.storeT)(hx:ev e x=some (.pointer (some ⟨b,off,none⟩)))
  (hy:ev e y=some (.int k m)) (hL:L[i]?=some (pt b cs t)) (hc:cs[off]?=some u):
  a8 X (.call ⟨.value (.func f),#[x,y],tys⟩) e L (fun v L'=>v=.tuple #[]∧L'=L.set i (pt b (cs.set off (.int k m)) t)):=fun a w ha hw dst ty pos after guard=>by
 obtain⟨h0,_⟩:=hw.yW hL
 refine .inl ⟨_,_,_,?_,⟨rfl,Z⟩,hw.set hL⟩
 rw[xm]
 have:(#[x,y]:Array Operand).map a.eval=#[.pointer (some ⟨b,off,none⟩),.int k m]:=by simp[ha.ev hx,ha.ev hy]
 rw[this,←km h0]
 exact run_call_store h.at_ h.nm h.nb h.nn h.ex (by rw[cell_of_row w b off cs.toArray t (0,0) h0];simpa using hc) (frozen_of_row w b off cs.toArray t h0)
end
theorem Eb:Ext Tryz.prog 261 Tryz.f261 (Extern.Atomic.loadT (.int .u32)):=⟨Tryz.func261,by kernel_rfl,by kernel_rfl,by kernel_rfl,by kernel_rfl⟩
theorem B':Ext Tryz.prog 310 Tryz.f310 Extern.Atomic.storeT:=⟨Tryz.func310,by kernel_rfl,by kernel_rfl,by kernel_rfl,by kernel_rfl⟩
theorem qE{p off:Nat}{cs:List Value}{n:Int}(h:eQ Fr w p cs)(hn:cs[off]?=some (.int .u32 n)):aH Tryz.prog 204 [.pointer (some ⟨p,off,none⟩)] Fr w [] (fun v L=>v=.bool (n != 0)∧L=[]):=by
 obtain⟨hf,t,fz,ht⟩:=h
 refine TF 8 Tryz.func204 Z yn ah Z Z ?_
 refine aq ?_
 refine VG (VO.wo (v:=.int .u32 n) (a8.Qt (X:=⟨Tryz.prog,tab,ah,8,Fr,w⟩) Eb Z (fun w' hw=>?_)) ?_)
 ·have hb:w'.heap[p]?=some (.cells cs.toArray t fz):=(hw.cJ.block p hf).trans ht
  have:=cell_of_row w' p off cs.toArray t fz hb
  rw[this];simpa using hn
 refine aq ?_
 exact EX
theorem I5(b:Bool):aH Tryz.prog 311 [.bool b] Fr w [] (fun v L=>v=.int .u32 (if b then 1 else 0)∧L=[]):=by
 refine TF 4 Tryz.func311 Z yn ah Z Z ?_
 refine aq ?_
 refine CC Z (fun h=>?_) (fun h=>CK ?_)
 ·subst h
  refine aq ?_
  exact EX
 ·subst h
  refine aq ?_
  exact EX
theorem Ca{p off:Nat}{T:TypeId}{cs:List Value}{u:Value}(b:Bool)(hu:cs[off]?=some u):aH Tryz.prog 305 [.pointer (some ⟨p,off,none⟩),.bool b] Fr w [pt p cs T] (fun v L=>v=.tuple #[]∧L=[pt p (cs.set off (.int .u32 (if b then 1 else 0))) T]):=by
 refine TF 10 Tryz.func305 Z yn ah Z Z ?_
 refine CD (ts 0 4 (.only 4 (.only 5 .nil))) yn yr ?_
 refine ji ?_
 refine AG (AR (fun Fr w hF hs hS=>I5 Fr w b) Z Z yu ?_)
 refine AG (AO (a8.NG (k:=.u32) 0 B' rfl rfl rfl hu) rfl (fun v L' g=>by obtain⟨rfl,rfl⟩:=g;exact Dg) ?_)
 rintro _ _ ⟨rfl,rfl⟩
 refine ji ?_
 exact O6
theorem GQ{p:Nat}(o:Option gk)(h:eQ Fr w p (sP o)):aH Tryz.prog 122 [.pointer (some ⟨p,0,none⟩)] Fr w [] (fun v L=>v=.tuple #[.agg (eK (o.getD jy)).toArray,.bool o.isSome]∧L=[]):=by
 refine TF 18 Tryz.func122 Z yn ah Z Z ?_
 refine CS (CG (VG (VO.alloc Z fun b2=>?_)))
 refine aK ?_
 cases o with
 | none=>
  refine VG (VV (fun Fr w hF hw _=>qD Fr w (d:=0) (k:=0) (s:=0) (o:=jy) (h.of hF hw)) Z ?_)
  refine aK ?_
  refine VG (VY 6 false Z Z ?_)
  refine aK ?_
  refine VG (VV (fun Fr w hF hw _=>qE Fr w (h.of hF hw) Z) Z ?_)
  refine wv ?_
  refine VG (VI (LB (pv:=[]) (eK jy) Z Z Z yn Z) ?_)
  refine XV ?_
  refine aK ?_
  exact XW
 | some o=>
  refine VG (VV (fun Fr w hF hw _=>qD Fr w (d:=1) (k:=0) (s:=1) (o:=o) (h.of hF hw)) Z ?_)
  refine aK ?_
  refine VG (VY 6 false Z Z ?_)
  refine aK ?_
  refine VG (VV (fun Fr w hF hw _=>qE Fr w (h.of hF hw) Z) Z ?_)
  refine J6 ?_
  refine aK ?_
  refine VG (VO.load Z Z (aE.lB (ds:=eK o) h Z) ?_)
  refine VG (VT (vs:=eK o) (cs':=eK o) 0 Z Z Z Z (NR _) Z Z Z ?_)
  refine aK ?_
  exact CR (ay.aT 2 3 Z Z Z (aE.many (ds:=eK o) 0 Z Z) Z ae.nil.ar ⟨rfl,Z⟩)
theorem GR{p b2 b3 b5:Nat}{o o0:gk}{d k:Int}:aH Tryz.prog 304 [.pointer (some ⟨b3,0,none⟩),.pointer (some ⟨b2,0,none⟩),.pointer (some ⟨b5,0,none⟩)] Fr w
  [pt p (vw d k 0 o0) qC,pt b2 [.pointer (some ⟨p,0,none⟩)] 136,pt b3 (eK o) rL,pt b5 [.bool false] 4]
  (fun v L=>v=.tuple #[]∧L=[pt p (vw d k 1 o) qC,pt b2 [.pointer (some ⟨p,0,none⟩)] 136,pt b3 (eK o) rL,pt b5 [.bool true] 4]):=by
 refine TF 11 Tryz.func304 Z yn ah Z Z ?_
 refine CS (CG (VG (VO.ld 1 Z Z Z Z ?_)))
 refine VG (VL 2 (eK o) Z Z Z Z ?_)
 refine VG (VT (vs:=eK o) (cs':=vw d k 0 o) 0 Z Z Z Z (NR _) Z Z Z ?_)
 refine aq ?_
 refine QZ ?_
 refine aq ?_
 refine VG (VK (Lc:=[pt p (vw d k 0 o) qC]) (fun Fr w hF hw _=>Ca Fr w (off:=4) true Z) Z Z ?_)
 rintro _ _ ⟨rfl,rfl⟩
 refine aq ?_
 refine VG (VO.st 3 (cs':=[.bool true]) Z Z Z Z ZV Z Z ?_)
 refine aq ?_
 exact O6
end Cl
namespace Cl
open Go Vg T Api
theorem Cb(w:World):(callFunc 318 #[]).run Tryz.prog w=.ok (.value (.tuple #[])) w:=run_call_mark0 Tryz.func318 yn yn yn .disable yn w
theorem Fm(w:World):(callFunc 320 #[]).run Tryz.prog w=.ok (.value (.tuple #[])) w:=run_call_mark0 Tryz.func320 yn yn yn .enable yn w
theorem I6(a:Addr)(w:World):(callFunc 321 #[.pointer (some a)]).run Tryz.prog w=.ok (.value (.tuple #[])) w:=run_call_marked Tryz.func321 yn yn yn .acquire yn a w
theorem I7(a:Addr)(w:World):(callFunc 323 #[.pointer (some a)]).run Tryz.prog w=.ok (.value (.tuple #[])) w:=run_call_marked Tryz.func323 yn yn yn .releaseMerge yn a w
theorem Ec(a:Addr)(x:Value)(u:FrameMode)(w:World)(hc:w.cell? a=some x)(hz:w.frozen? a=false):
  CallsD Tryz.prog 305 #[.pointer (some a),.bool true] u w fun e u' w'=>u'=u∧(e=.returned (.tuple #[])∧w'=w.drew.setCell a (.int .u32 1)):=by
 have hc':w.drew.cell? a=some x:=by go_simp
 have hz':w.drew.frozen? a=false:=by go_simp
 have hst:=run_call_store (P:=Tryz.prog) Tryz.func310 yn yn yn yn (k:=.u32) (y:=1) hc' hz'
 go_enter_d Tryz.func305,Tryz.ntmps305
 go_wp2
 go_region_calls
 all_goals (go_end0;exact⟨rfl,rfl⟩)
theorem Cc(a:Addr)(u:FrameMode)(w:World)(hc:w.cell? a=some (.int .i32 1))(hz:w.frozen? a=false):
  CallsD Tryz.prog 314 #[.pointer (some a)] u w fun e u' w'=>u'=u∧(e=.returned (.tuple #[])∧w'=w.setCell a (.int .i32 0)):=by
 have hd:=Cb
 have he:=Fm
 have hr:=I7
 have hadd:=run_call_add (P:=Tryz.prog) Tryz.func324 yn yn yn .i32 yn (y:=-1) (s:=0) hc hz (by simp[go_sem];rfl)
 have hcv:=run_convert_to_unsafe (P:=Tryz.prog) (src:=402) (dst:=141) Tryz.underlying402 Tryz.underlying141 yn hc
 go_enter_d Tryz.func314,Tryz.ntmps314
 go_wp2
 go_end0
 go_wp2
 go_end0
 exact⟨rfl,Z⟩
theorem GU(a:Addr)(w:World)(hc:w.cell? a=some (.int .i32 0))(hz:w.frozen? a=false):
  Calls Tryz.prog 313 #[.pointer (some a)] w fun e w'=>e=.returned (.tuple #[])∧w'=w.setCell a (.int .i32 1):=by
 have hd:=Cb
 have he:=Fm
 have ha:=I6
 have hcas:=run_call_cas_hit (P:=Tryz.prog) Tryz.func319 yn yn yn .i32 yn (y:=1) hc hz
 have hc':(w.setCell a (.int .i32 1)).cell? a=some (.int .i32 1):=World.cell?_setCell_same w a _ hc
 have hcv:=run_convert_to_unsafe (P:=Tryz.prog) (src:=402) (dst:=141) Tryz.underlying402 Tryz.underlying141 yn hc'
 go_enter Tryz.func313,Tryz.ntmps313
 go_wp2
 first | go_end0 | (simp only[Exit.inBlock,Exit.then];refine bodyPost_ret (results_none rfl _ _ _) rfl ?_) | refine bodyPost_ret (results_none rfl _ _ _) rfl ?_
 go_wp2
 go_end0
 exact⟨rfl,Z⟩
end Cl
namespace Cl
open Go Vg T Api
abbrev Ue:TypeId:=136
def Ae(p b2 b3 b5:Nat)(d k s:Int)(o0 o:gk)(f:Bool):List HP:=[pt p (vw d k s o0) qC,pt b2 [.pointer (some ⟨p,0,none⟩)] Ue,pt b3 (eK o) rL,pt b5 [.bool f] 4]
theorem o6{Fr:Nat→Prop}{L:List HP}{w:World}{b t:Nat}{cs:List Value}(h:Sat Fr (pt b cs t::L) w):w.heap[b]?=some (.cells cs.toArray t (0,0))∧¬Fr b:=by
 obtain⟨F,⟨i,G,rfl,⟨rfl,hi⟩,hG⟩,hn,hb⟩:=h
 exact⟨hi,(hb b yf).1⟩
theorem Af{Fr:Nat→Prop}{L:List HP}{w:World}{b t off:Nat}{cs:List Value}{v:Value}(hlow:∀x,Fr x→x<w.heap.size)(h:Sat Fr (pt b cs t::L) w):
  Sat Fr (pt b (cs.set off v) t::L) (w.setCell ⟨b,off,none⟩ v)∧dE Fr w (w.setCell ⟨b,off,none⟩ v):=by
 obtain⟨h0,hf⟩:=o6 h
 have hst:St (X:=⟨Tryz.prog,tab,ah,0,Fr,w⟩) (pt b cs t::L) w:=⟨h,dE.refl _ _,hlow⟩
 have:=hst.set (i:=0) (cs':=cs.set off v) rfl
 rw[←km h0] at this
 exact⟨this.sat,this.cJ⟩
theorem o7{Fr:Nat→Prop}{w w':World}(hlow:∀x,Fr x→x<w.heap.size)(h:dE Fr w w'):∀x,Fr x→x<w'.heap.size:=fun x hx=>Nat.lt_of_lt_of_le (hlow x hx) h.size
theorem ua{w:World}{b t off:Nat}{cs:List Value}{v:Value}(h:w.heap[b]?=some (.cells cs.toArray t (0,0)))(hv:cs[off]?=some v):w.cell? ⟨b,off,none⟩=some v:=by
 rw[cell_of_row w b off cs.toArray t (0,0) h];simpa using hv
theorem sQ{w:World}{b t off:Nat}{cs:List Value}(h:w.heap[b]?=some (.cells cs.toArray t (0,0))):w.frozen? ⟨b,off,none⟩=false:=frozen_of_row w b off cs.toArray t h
theorem Cd{p b2 b3 b5:Nat}{o0 o:gk}:aH Tryz.prog 309 [.pointer (some ⟨p,1,none⟩),pS 304 [] [.pointer (some ⟨b3,0,none⟩),.pointer (some ⟨b2,0,none⟩),.pointer (some ⟨b5,0,none⟩)]] Fr w
  (Ae p b2 b3 b5 0 0 0 o0 o false) (fun v L=>v=.tuple #[]∧L=Ae p b2 b3 b5 1 0 1 o o true):=by
 refine⟨⟨_,Tryz.func309,by kernel_rfl,by kernel_rfl⟩,fun hlow hsat=>?_⟩
 show Calls _ _ #[.pointer (some ⟨p,1,none⟩),.func (.func 304) #[] #[.pointer (some ⟨b3,0,none⟩),.pointer (some ⟨b2,0,none⟩),.pointer (some ⟨b5,0,none⟩)]] w _
 obtain⟨h0,hf⟩:=o6 hsat
 obtain⟨hs1,hk1⟩:=Af (off:=2) (v:=.int .i32 1) hlow hsat
 have hlow1:=o7 hlow hk1
 have hs1':Sat Fr (Ae p b2 b3 b5 0 1 0 o0 o false) (w.setCell ⟨p,2,none⟩ (.int .i32 1)):=hs1
 have hset:=(GR Fr (w.setCell ⟨p,2,none⟩ (.int .i32 1)) (p:=p) (b2:=b2) (b3:=b3) (b5:=b5) (o:=o) (o0:=o0) (d:=0) (k:=1)).calls hlow1 hs1'
 have h01:=(o6 hs1).1
 have hl:=run_call_load (P:=Tryz.prog) Tryz.func261 yn yn yn .u32 yn (w:=w.setCell ⟨p,2,none⟩ (.int .i32 1)) (a:=⟨p,1,none⟩) (x:=0) (ua h01 rfl)
 have hnot:∀(x:Bool) (w:World),(Op.unary .not (.bool x)).run Tryz.prog w=.ok (.bool (!x)) w:=fun _ _=>rfl
 go_enter_defers Tryz.func309,Tryz.ntmps309
 go_wp2_with (go_at_call 313;refine(GU ⟨p,2,none⟩ _ (ua h0 rfl) (sQ h0)).mono ?_;rintro e w' ⟨rfl,rfl⟩)
 go_wp2_with (first | (go_at_call 304;refine hset.mono ?_;rintro e w' ⟨v,L',rfl,⟨rfl,rfl⟩,hs2,hk2⟩) | (go_at_call 204;go_in))
 have hs2':Sat Fr (pt p (vw 0 1 1 o) qC :: [pt b2 [.pointer (some ⟨p,0,none⟩)] Ue,pt b3 (eK o) rL,pt b5 [.bool true] 4]) w':=hs2
 have hlow2:=o7 hlow1 hk2
 have h02:=(o6 hs2').1
 have hs3:Sat Fr (pt p (vw 0 1 1 o) qC :: [pt b2 [.pointer (some ⟨p,0,none⟩)] Ue,pt b3 (eK o) rL,pt b5 [.bool true] 4]) w'.drew:=hs2'.heap rfl
 have hk3:dE Fr w' w'.drew:=dE.drew _ _
 obtain⟨hs4,hk4⟩:=Af (off:=1) (v:=.int .u32 1) (o7 hlow2 hk3) hs3
 have h04:=(o6 hs4).1
 obtain⟨hs5,hk5⟩:=Af (off:=2) (v:=.int .i32 0) (o7 (o7 hlow2 hk3) hk4) hs4
 refine leaves_cons (f:=305) (args:=#[.pointer (some ⟨p,1,none⟩),.bool true]) yf (by simp[go_sem]) ?_
 refine(Ec ⟨p,1,none⟩ (.int .u32 0) .returning _ (ua h02 Z) (sQ h02)).mono ?_
 rintro e u' w'' ⟨rfl,rfl,rfl⟩
 refine leaves_cons (f:=314) (args:=#[.pointer (some ⟨p,2,none⟩)]) (by simp[settle]) (by simp[go_sem]) ?_
 refine(Cc ⟨p,2,none⟩ _ _ (ua h04 Z) (sQ h04)).mono ?_
 rintro e u' w'' ⟨rfl,rfl,rfl⟩
 have hres:∃v L',Ending.returned (.tuple #[])=Ending.returned v∧(v=.tuple #[]∧L'=Ae p b2 b3 b5 1 0 1 o o true)∧Sat Fr L' ((w'.drew.setCell ⟨p,1,none⟩ (.int .u32 1)).setCell ⟨p,2,none⟩ (.int .i32 0))∧dE Fr w ((w'.drew.setCell ⟨p,1,none⟩ (.int .u32 1)).setCell ⟨p,2,none⟩ (.int .i32 0)):=
  ⟨_,_,rfl,⟨rfl,rfl⟩,hs5,(((hk1.trans hk2).trans hk3).trans hk4).trans hk5⟩
 simpa[Leaves,settle,results,Tryz.results309] using hres
end Cl
namespace Vg
open Go
section
variable {X:Cx} {e:Env}
theorem o8{T:TypeId}{x y:Operand}{tt:TI}{s:ByteArray}{k:IntKind}{j:Int}(lo:Nat)(hx:ev e x=some (.string s))(hy:ev e y=some (.int k j))
  (hT:aM X.tab T=some tt) (hu:tt.aU=.string) (hj:j=lo) (hl:lo≤s.size):dm X (.slice T x (some y) none none) e (.string (s.extract lo s.size)):=by
 intro a ha dst ty pos after guard w
 have hd:=i_ (X.ok.look hT) hu
 subst hj
 simp[execOp,ha.ev hx,ha.ev hy,Instr.sliceAt,Instr.slice,Instr.sliceBounds,Instr.sliceBound,asIntOf,run_underlying hd,hl]
theorem xS{T:TypeId}{x y:Operand}{tt:TI}{s:ByteArray}{k:IntKind}{j:Int}(hi:Nat)(hx:ev e x=some (.string s))(hy:ev e y=some (.int k j))
  (hT:aM X.tab T=some tt) (hu:tt.aU=.string) (hj:j=hi) (hl:hi≤s.size):dm X (.slice T x none (some y) none) e (.string (s.extract 0 hi)):=by
 intro a ha dst ty pos after guard w
 have hd:=i_ (X.ok.look hT) hu
 subst hj
 simp[execOp,ha.ev hx,ha.ev hy,Instr.sliceAt,Instr.slice,Instr.sliceBounds,Instr.sliceBound,asIntOf,run_underlying hd,hl]
theorem vx{xt yt:TypeId}{x y:Operand}{a n:Nat}{k j:IntKind}(z:Int)(hx:ev e x=some (.int j (a:Int)))(hy:ev e y=some (.int k (n:Int)))(hn:n≤j.bits)(hz:j.wrap (((a*2 ^ n:Nat)):Int)=z):dm X (.binOp .shl xt x y yt) e (.int j z):=by
 intro a' ha dst ty pos after guard w
 have h8:min ((n:Int).toNat) j.bits=n:=Nat.min_eq_left hn
 have h2:(a:Int)*2 ^ n=((a*2 ^ n:Nat):Int):=by simp
 have h:Op.shift .shl j (a:Int) k (n:Int)=pure (.int j z):=by
  unfold Op.shift
  rw[if_neg yd,h8]
  simp only[h2]
  rw[hz]
 simp only[execOp,ha.ev hx,ha.ev hy]
 show((do eqGuard .shl xt x y (.int j a) (.int k n);Op.shift .shl j a k n:Sem Value) >>= fun v=>pure (Next.value v)).run X.P w=_
 rw[h];rfl
theorem Ed{xt yt:TypeId}{x y:Operand}{a n:Nat}{k j:IntKind}(hx:ev e x=some (.int j (a:Int)))(hy:ev e y=some (.int k (n:Int)))(hn:n≤j.bits):dm X (.binOp .shr xt x y yt) e (.int j ((a / 2 ^ n:Nat):Int)):=by
 intro a' ha dst ty pos after guard w
 have h8:min ((n:Int).toNat) j.bits=n:=Nat.min_eq_left hn
 have h2:((2:Int) ^ n)=((2 ^ n:Nat):Int):=by simp
 have hd:(a:Int).fdiv (2 ^ n)=((a / 2 ^ n:Nat):Int):=by
  rw[h2,Int.fdiv_eq_ediv_of_nonneg _ (Int.natCast_nonneg _)];rfl
 have h:Op.shift .shr j (a:Int) k (n:Int)=pure (.int j ((a / 2 ^ n:Nat):Int)):=by
  unfold Op.shift
  rw[if_neg yd,h8]
  simp only[hd]
 simp only[execOp,ha.ev hx,ha.ev hy]
 show((do eqGuard .shr xt x y (.int j a) (.int k n);Op.shift .shr j a k n:Sem Value) >>= fun v=>pure (Next.value v)).run X.P w=_
 rw[h];rfl
theorem wrap_u64{n:Int}(h0:0≤n)(h1:n<18446744073709551616):IntKind.u64.wrap n=n:=by
 simp[IntKind.wrap,IntKind.bits,IntKind.signed];omega
theorem Ee{xt yt:TypeId}{x y:Operand}{a b:Nat}(hx:ev e x=some (.int .u64 (a:Int)))(hy:ev e y=some (.int .u64 (b:Int)))(ha:a<18446744073709551616)(hb:b<18446744073709551616):dm X (.binOp .or xt x y yt) e (.int .u64 ((a ||| b:Nat):Int)):=by
 intro a' hag dst ty pos after guard w
 have hlt:a ||| b<18446744073709551616:=by
  have:a ||| b<2 ^ 64:=Nat.or_lt_two_pow (by simpa using ha) ym
  simpa using this
 have f1:∀c:Nat,c<18446744073709551616→(BitVec.ofInt 64 (c:Int)).toNat=c:=fun c hc=>by simp;omega
 have h:Op.intBits .or .u64 (a:Int) (b:Int)=pure (.int .u64 ((a ||| b:Nat):Int)):=by
  have e1:(BitVec.ofInt 64 (a:Int) ||| BitVec.ofInt 64 (b:Int)).toNat=a ||| b:=by rw[BitVec.toNat_or,f1 a ha,f1 b hb]
  have e2:IntKind.u64.wrap ((BitVec.ofInt 64 (a:Int) ||| BitVec.ofInt 64 (b:Int)).toNat:Int)=((a ||| b:Nat):Int):=by rw[e1];exact wrap_u64 yd yd
  show(pure (.int .u64 (IntKind.u64.wrap ((BitVec.ofInt 64 (a:Int) ||| BitVec.ofInt 64 (b:Int)).toNat:Int))):Sem Value)=_
  rw[e2]
 simp only[execOp,hag.ev hx,hag.ev hy]
 show((do eqGuard .or xt x y (.int .u64 a) (.int .u64 b);Op.intBits .or .u64 a b:Sem Value) >>= fun v=>pure (Next.value v)).run X.P w=_
 rw[h];rfl
end
theorem Ag{X:Cx}{e:Env}{T:TypeId}{x y z u:Operand}{tt te:TI}{el len cap:Nat}{a:Option Addr}{k k' k'':IntKind}{i j m:Int}(lo hi mx:Nat)(hx:ev e x=some (.slice a len cap))(hy:ev e y=some (.int k i))(hz:ev e z=some (.int k' j))(hw:ev e u=some (.int k'' m))
  (hT:aM X.tab T=some tt) (hu:tt.aU=.slice el) (hE:aM X.tab el=some te) (hlo:i=lo) (hhi:j=hi) (hmx:m=mx) (h1:lo≤hi) (h2:hi≤mx) (h3:mx≤cap):
  dm X (.slice T x (some y) (some z) (some u)) e (.slice (if mx=lo then a else a.map (·.add (lo*te.size))) (hi-lo) (mx-lo)):=by
 intro ac ha dst ty pos after guard w
 have hd:=eZ (X.ok.look hT) hu
 obtain⟨i2,hi2,hs2,_,_⟩:=(X.ok.look hE).kR
 subst hlo;subst hhi;subst hmx
 simp[execOp,ha.ev hx,ha.ev hy,ha.ev hz,ha.ev hw,Instr.sliceAt,Instr.slice,Instr.sliceBounds,Instr.sliceBound,asIntOf,run_underlying hd,h1,h2,h3,dF hi2,hs2]
theorem a8.vy{X:Cx}{e:Env}{L:List HP}{t el esz n cap m g:Nat}{tt te:TI}{x y:Operand}{cs news:List Value}{v:Value}(i:Nat)
  (hx:ev e x=some (.slice (some ⟨g,0,none⟩) n cap)) (hy:ev e y=some v) (hL:L[i]?=some (pt g cs el)) (hT:aM X.tab t=some tt) (hu:tt.aU=.slice el) (hE:aM X.tab el=some te) (hesz:te.size=esz)
  (hr:dq X L v esz m news) (h1:news.all Value.oneCell'=true) (hroom:n+m≤cap) (hfit:n*esz+news.length≤cs.length):
  a8 X (.call ⟨.builtin .append,#[x,y],#[t,t]⟩) e L (fun u L'=>u=.slice (some ⟨g,0,none⟩) (n+m) cap∧L'=L.set i (pt g (j_ cs (n*esz) news) el)):=by
 intro ac w ha hw dst ty pos after guard
 have hund:=eZ (X.ok.look hT) hu
 have hok:=X.ok.look hE
 obtain⟨ti,hi,hsz,hbt,hz⟩:=hok.kR
 have hexec:∀u w',(Builtin.append_ #[t,t] ty #[.slice (some ⟨g,0,none⟩) n cap,v]).run X.P w=.ok u w' →
   (execOp ac.eval ⟨dst,.call ⟨.builtin .append,#[x,y],#[t,t]⟩,ty,pos,after,guard⟩).run X.P w=.ok (.value u) w':=fun u w' h=>by
  simp[execOp,resolve,invoke,builtin,ha.ev hx,ha.ev hy,h]
 obtain⟨h0,hf⟩:=hw.yW hL
 obtain⟨hnl,hrd⟩:=hr
 rcases hrd with ⟨d,c,rfl,rfl⟩ | ⟨b,off,c,rfl,hrg⟩
 ·have hn0:news=[]:=ZH (by simpa using hnl)
  subst hn0
  refine .inl ⟨_,w,_,hexec _ _ (s3 hund hi (some ⟨g,0,none⟩) d n cap c yd ty),⟨rfl,Z⟩,?_⟩
  rw[yT]
  have hset:L.set i (pt g cs el)=L:=by
   refine Z8 fun j=>?_
   by_cases e:i=j
   ·subst e;rw[ZG (Zk.1 hL).1,hL]
   ·rw[ZN e]
  rw[hset];exact hw
 ·have hnews:∀j u,news[j]?=some u→w.cell? ((⟨b,off,none⟩:Addr).add j)=some u:=fun j u hj=>by rw[Addr.add_mid];exact hrg w hw j u hj
  have h1':∀u∈news,u.oneCell'=true:=ZR.1 h1
  have hrun:=run_append_room (P:=X.P) w t ty el ti hund hi g n cap _ h0 ⟨b,off,none⟩ m c news (by rw[hsz,hesz];exact hnl) hnews h1' hroom (by rw[hsz,hesz];simpa using hfit)
  have e2:cs.toArray.toList.take (n*ti.size)++news++cs.toArray.toList.drop (n*ti.size+news.length)=j_ cs (n*esz) news:=by rw[hsz,hesz];rfl
  rw[e2] at hrun
  have e3:w.setRow g (j_ cs (n*esz) news).toArray=bB w g (.cells (j_ cs (n*esz) news).toArray el (0,0)):=by
   unfold World.setRow bB
   have hlt:=(ZZ.1 h0).1
   refine congrArg (fun h=>({ w with heap:=h }:World)) (Array.ext_getElem? fun j=>?_)
   rw[Array.getElem?_modify,Array.getElem?_setIfInBounds]
   by_cases e:g=j
   ·subst e;rw[if_pos rfl,if_pos rfl,if_pos hlt,h0];rfl
   ·rw[if_neg e,if_neg e]
  rw[e3] at hrun
  exact .inl ⟨_,_,_,hexec _ _ hrun,⟨rfl,Z⟩,hw.set hL⟩
section
variable {α:Type} {c:α→List Value} {n:Nat}
theorem erase_eq(l:List α)(i:Nat):l.eraseIdx i=l.take i++l.drop (i+1):=List.eraseIdx_eq_take_drop_succ l i
theorem I8(h:∀a,(c a).length=n){l:List α}{i:Nat}(hi:i<l.length)(rest:List Value):∃z,z.length=n∧j_ (flat c l++rest) (i*n) (flat c (l.drop (i+1)))=flat c (l.eraseIdx i)++(z++rest):=by
 obtain⟨x,hx⟩:∃x,l[i]?=some x:=⟨_,GE hi⟩
 have hd:l.drop i=x::l.drop (i+1):=by
  obtain⟨h1,h2⟩:=Zk.1 hx
  rw[List.drop_eq_getElem_cons h1,h2]
 have hl:flat c l=flat c (l.take i)++(c x++flat c (l.drop (i+1))):=by rw[←bL,←hd,←bf,List.take_append_drop]
 have ha:(flat c (l.take i)).length=i*n:=by rw[bo h,Zw];congr 1;omega
 refine⟨(c x++flat c (l.drop (i+1))).drop (flat c (l.drop (i+1))).length,by rw[Z7,Zh,h];omega,?_⟩
 rw[erase_eq,bf,hl]
 generalize flat c (l.take i)=A at ha
 generalize flat c (l.drop (i+1))=D
 unfold j_
 have e1:(A++(c x++D)++rest).take (i*n)=A:=by rw[Zr];exact List.take_left' ha
 have e2:(A++(c x++D)++rest).drop (i*n+D.length)=(c x++D).drop D.length++rest:=by
  rw[←ha,←List.drop_drop,Zr,List.drop_left' rfl,List.drop_append_of_le_length JX]
 rw[e1,e2,Zr]
theorem Fo{A z zs rest:List Value}{k:Nat}(hA:A.length=k)(hz:zs.length=z.length):j_ (A++(z++rest)) k zs=A++(zs++rest):=by
 unfold j_
 subst hA
 rw[List.take_left' rfl,List.drop_append,hz]
 simp
end
theorem ae.Uf{L M:List HP}{el esz b n:Nat}{cs:List Value}(hc:cs.length=n*esz)(h:ae L (pt b cs el::M)):ae L (aJ el esz (some ⟨b,0,none⟩) n n cs::M):=by
 have:=ae.sl (L:=L) (M:=M) (el:=el) (b:=b) (rest:=[]) (cap:=n) hc (NR _) (by rw[Zi];exact hc) (by rw[Zi];exact h)
 exact this
theorem I9{n b:Nat}(hb:b<256):(n*256) ||| b=n*256+b:=by
 have h:n*256=n <<< 8:=by rw[Nat.shiftLeft_eq]
 rw[h,Nat.shiftLeft_add_eq_or_of_lt ym]
end Vg
namespace Cl
open Go Vg T Api
attribute [local irreducible] VO VC VA
theorem Ce{p b2 b3 b5:Nat}{o0 o:gk}:aH Tryz.prog 303 [.pointer (some ⟨p,1,none⟩),pS 304 [] [.pointer (some ⟨b3,0,none⟩),.pointer (some ⟨b2,0,none⟩),.pointer (some ⟨b5,0,none⟩)]] Fr w
  (Ae p b2 b3 b5 0 0 0 o0 o false) (fun v L=>v=.tuple #[]∧L=Ae p b2 b3 b5 1 0 1 o o true):=by
 refine TF 12 Tryz.func303 Z yn ah Z Z ?_
 refine aq ?_
 refine VG (VV (fun Fr w hF hw hS=>qE Fr w (n:=0) (hS.aP 0 Z) Z) Z ?_)
 refine Pf ?_
 refine VG (VK (Lc:=Ae p b2 b3 b5 0 0 0 o0 o false) (Lr:=[]) (fun Fr w hF hw _=>Cd Fr w) Z (Zi _).symm ?_)
 rintro _ _ ⟨rfl,rfl⟩
 refine aq ?_
 exact ay.void Z ER ⟨rfl,Zi _⟩
theorem GV{p:Nat}{o:gk}(h1:1≤o.kind)(h2:o.kind≤3):aH Tryz.prog 283 [.pointer (some ⟨p,0,none⟩),.agg (eK o).toArray] Fr w [pt p (sP none) qC] (fun v L=>v=.bool true∧L=[pt p (sP (some o)) qC]):=by
 refine TF 24 Tryz.func283 Z yn ah Z Z ?_
 refine CS (CG (VG (VO.RV Z fun b2=>VG (VB (vs:=eK o) Z fun b3=>VG (VN ?_)))))
 refine wu ?_
 refine VG (VV (fun Fr w hF hw hS=>qD Fr w (p:=p) (d:=0) (k:=0) (s:=0) (o:=jy) (hS.aP 2 Z)) Z ?_)
 refine aK ?_
 refine VG (VY 8 false Z Z ?_)
 refine eP ?_
 refine VG (VY 13 false Z (DF yd) ?_)
 refine eP ?_
 refine CP (p:=3<o.kind) Z (fun h=>absurd h yd) (fun h=>CK ?_)
 refine aK ?_
 refine VG (VO.alloc Z fun b5=>?_)
 refine VG (VO.st 0 (cs':=[.bool false]) Z Z Z Z ZV Z Z ?_)
 refine pP ?_
 refine VG (VI (fE (u:=[]) (v:=[.pointer (some ⟨b3,0,none⟩),.pointer (some ⟨b2,0,none⟩),.pointer (some ⟨b5,0,none⟩)]) Z Z) ?_)
 refine VO.ar (L':=Ae p b2 b3 b5 0 0 0 jy o false) (dG [3,2,1,0]).ar ?_
 refine VG (VK (Lc:=Ae p b2 b3 b5 0 0 0 jy o false) (Lr:=[]) (fun Fr w hF hw _=>Ce Fr w) Z (Zi _).symm ?_)
 rintro _ _ ⟨rfl,rfl⟩
 show VO _ _ _ _ _ [pt p (vw 1 0 1 o) qC,pt b2 [.pointer (some ⟨p,0,none⟩)] Ue,pt b3 (eK o) rL,pt b5 [.bool true] 4] _
 refine aK ?_
 refine VG (VO.ld 3 Z Z Z Z ?_)
 refine aK ?_
 exact CR (ay.tmp 4 Z Z (IP 0 Z ae.nil).ar ⟨rfl,Z⟩)
abbrev gV:TypeId:=194
def fv(b:fK):List Value:=[.int .i64 b.cap,.int .i64 b.cG,.int .i64 b.tokens,.int .i64 b.tick,.int .i64 b.since]
structure fK.Ok(b:fK):Prop where
 c0:0≤b.cap
 c1:b.cap≤16
 r0:1≤b.cG
 r1:b.cG≤1099511627776
 t0:0≤b.tokens
 t1:b.tokens≤b.cap
 k0:0≤b.tick
 k1:b.tick≤1099511627776
 s0:0≤b.since
 s1:b.since≤b.tick
theorem fK.Ok.at(b:fK)(h:b.Ok)(now:Int):(b.at now).Ok:=by
 have:=h.k0
 have:=h.k1
 have:=h.s1
 exact⟨h.c0,h.c1,h.r0,h.r1,h.t0,h.t1,by show 0≤min (max now b.tick) _;omega,by show min (max now b.tick) _≤_;omega,h.s0,by show b.since≤min (max now b.tick) _;omega⟩
theorem xT:∀(k:Nat) {b:fK},b.Ok→(jF k b).Ok
 | 0,_,h=>h
 | k+1,b,h=>by
  rw[jF]
  split
  ·rename_i hc
   have:=h.t0
   have:=h.s0
   have:=h.r0
   exact xT k ⟨h.c0,h.c1,h.r0,h.r1,by show 0≤b.tokens+1;omega,by show b.tokens+1≤b.cap;omega,h.k0,h.k1,by show 0≤b.since+b.cG;omega,hc.2⟩
  ·exact h
theorem fK.Ok.full{b:fK}(h:b.Ok):b.full.Ok:=by
 unfold fK.full
 split
 ·exact⟨h.c0,h.c1,h.r0,h.r1,h.t0,h.t1,h.k0,h.k1,h.k0,Zz _⟩
 ·exact h
theorem fK.Ok.jt{b:fK}(h:b.Ok)(now:Int):(b.jt now).Ok:=(xT 17 (fK.Ok.at b h now)).full
theorem fK.Ok.take{b:fK}(h:b.Ok)(now:Int):(b.take now).1.Ok:=by
 have k:=h.jt now
 unfold fK.take
 split
 ·exact k
 ·rename_i hn
  have:=k.t0
  have:=k.t1
  exact⟨k.c0,k.c1,k.r0,k.r1,by show 0≤(b.jt now).tokens-1;omega,by show(b.jt now).tokens-1≤(b.jt now).cap;omega,k.k0,k.k1,k.s0,k.s1⟩
theorem Ef{k:Nat}{b:fK}(h:¬(b.tokens<b.cap∧b.since+b.cG≤b.tick)):jF k b=b:=by
 cases k with
 | zero=>rfl
 | succ k=>rw[jF,if_neg h]
section
variable {p:Nat}
theorem Cf{b:fK}(ok:b.Ok)(now:Int):aH Tryz.prog 302 [.pointer (some ⟨p,0,none⟩),.int .i64 now] Fr w [pt p (fv b) gV] (fun v L=>v=.tuple #[]∧L=[pt p (fv (b.jt now)) gV]):=by
 have ok0:=fK.Ok.at b ok now
 refine TF 73 Tryz.func302 Z yn ah Z Z ?_
 refine CS (CG (VG (VO.ld 0 Z Z Z Z ?_)))
 refine VG (VO.st 0 (cs':=fv (b.at now)) Z Z Z Z (by show 3<5;omega) (by show [_,_,_,_,_]=fv _;unfold fv fK.at;congr 4;show Value.int _ _=Value.int _ _;congr 1;dsimp only;repeat' split;all_goals omega) Z (VG (VN ?_)))
 unfold fK.jt
 generalize hb0:b.at now=b0 at ok0
 refine CS (VC.cq (σ:=fK) (fun _=>[(0,pV p)]) (fun x=>[pt p (fv x) gV]) (fun x=>x.Ok∧x=jF 17 b0) ?_ ?_)
 ·refine VC.block ?_
  refine VC.loop (σ:=Nat×fK) (fun x=>[(0,pV p)]) (fun x=>[pt p (fv x.2) gV]) (fun x=>x.2.Ok∧jF x.1 x.2=jF 17 b0∧(x.2.cap-x.2.tokens).toNat≤x.1) (fun x=>x.1) (17,b0)
   ⟨ok0,rfl,by have:=ok0.c1;have:=ok0.t0;dsimp only;omega⟩ bd ER ?_
  rintro⟨k,x⟩ ⟨okx,hk,hn⟩
  dsimp only at okx hk hn ⊢
  have:=okx.c0
  have:=okx.c1
  have:=okx.r0
  have:=okx.r1
  have:=okx.t0
  have:=okx.t1
  have:=okx.k0
  have:=okx.k1
  have:=okx.s0
  have:=okx.s1
  have fin:¬(x.tokens<x.cap∧x.since+x.cG≤x.tick)→x=jF 17 b0:=fun h=>by rw[←hk,Ef h]
  refine aq ?_
  refine CD (ts 0 25 .nil) yn yr ?_
  refine lS ?_
  by_cases h1:x.tokens<x.cap
  rotate_left
  ·refine AG (AY 23 false Z (DF h1) ?_)
   refine lS ?_
   refine VC.jm Z (CX ?_)
   exact⟨x,⟨okx,fin fun h=>h1 h.1⟩,bd,ER⟩
  refine AG (AY 23 true Z (DT h1) ?_)
  refine lS ?_
  refine HI ?_
  refine lS ?_
  refine CP (p:=x.since+x.cG≤x.tick) Z (fun h2=>CK ?_) (fun h2=>CX ?_)
  rotate_left
  ·exact⟨x,⟨okx,fin fun h=>h2 h.2⟩,bd,ER⟩
  obtain⟨j,rfl⟩:∃j,k=j+1:=⟨k-1,by omega⟩
  rw[jF,if_pos ⟨h1,h2⟩] at hk
  refine Ov ?_
  refine aq ?_
  refine VG (VO.st 0 (cs':=fv { x with tokens:=x.tokens+1 }) Z Z Z Z (by show 2<5;omega) Z Z ?_)
  refine aq ?_
  refine CD (ts 0 11 (.only 11 .nil)) yn yr ?_
  refine eT ?_
  refine AG (AP Z Z Z tL tL ?_)
  refine eT ?_
  refine AG (VA.st 0 (cs':=fv { x with tokens:=x.tokens+1,since:=x.since+x.cG }) Z Z Z Z Z (by show 4<5;omega) Z Z yu ?_)
  refine ji ?_
  exact⟨(j,{ x with tokens:=x.tokens+1,since:=x.since+x.cG }),⟨⟨okx.c0,okx.c1,okx.r0,okx.r1,by dsimp only;omega,by dsimp only;omega,okx.k0,okx.k1,by dsimp only;omega,h2⟩,hk,by dsimp only;omega⟩,by dsimp only;omega,bd,ER⟩
 rintro x ⟨okx,rfl⟩
 generalize jF 17 b0=x at okx
 unfold fK.full
 refine aq ?_
 refine CD (ts 0 9 .nil) yn yr ?_
 refine eT ?_
 refine CE Z (fun h3=>?_) (fun h3=>CK ?_)
 ·rw[if_pos h3]
  refine an ?_
  refine VG (VO.st 0 (cs':=fv { x with since:=x.tick }) Z Z Z Z (by show 4<5;omega) Z Z ?_)
  refine aq ?_
  exact O6
 ·rw[if_neg h3]
  exact O6
theorem Eg{b:fK}(ok:b.Ok)(h:eQ Fr w p (fv b)):aH Tryz.prog 301 [.pointer (some ⟨p,0,none⟩)] Fr w [] (fun v L=>v=.bool false∧L=[]):=by
 have:=ok.r0
 refine TF 12 Tryz.func301 Z yn ah Z Z ?_
 refine aK ?_
 refine Rs ?_
 refine yS ?_
 exact CR (ay.bool (b:=false) 2 Z Z (beq_eq_false_iff_ne.2 yd) ER ⟨rfl,Z⟩)
theorem Eh{b:fK}(ok:b.Ok)(now:Int):aH Tryz.prog 242 [.pointer (some ⟨p,0,none⟩),.int .i64 now] Fr w [pt p (fv b) gV] (fun v L=>v=.bool (b.take now).2∧L=[pt p (fv (b.take now).1) gV]):=by
 have ok1:=ok.jt now
 have:=ok1.t0
 have:=ok1.t1
 have:=ok1.c1
 have left:∀(Fr:Nat→Prop) (w:World),aH Tryz.prog 282 [.pointer (some ⟨p,0,none⟩),.int .i64 now] Fr w [pt p (fv b) gV] (fun v L=>v=.int .i64 (b.jt now).tokens∧L=[pt p (fv (b.jt now)) gV]):=by
  intro Fr w
  refine TF 14 Tryz.func282 Z yn ah Z Z ?_
  refine aq ?_
  refine VG (VV (fun Fr w hF hw hS=>Eg Fr w ok (hS.aP 0 Z)) Z ?_)
  refine EY ?_
  refine VG (VK (Lc:=[pt p (fv b) gV]) (fun Fr w hF hw _=>Cf Fr w ok now) Z Z ?_)
  rintro _ _ ⟨rfl,rfl⟩
  refine T7 ?_
  refine aq ?_
  exact O9
 unfold fK.take
 refine TF 16 Tryz.func242 Z yn ah Z Z ?_
 refine aq ?_
 refine VG (VK (Lc:=[pt p (fv b) gV]) (fun Fr w hF hw _=>left Fr w) Z Z ?_)
 rintro _ _ ⟨rfl,rfl⟩
 refine aq ?_
 refine CE Z (fun h1=>?_) (fun h1=>CK ?_)
 ·rw[if_pos h1]
  refine aq ?_
  exact O9
 rw[if_neg h1]
 refine T7 ?_
 refine HH ?_
 refine aq ?_
 refine VG (VO.st 0 (cs':=fv { b.jt now with tokens:=(b.jt now).tokens-1 }) Z Z Z Z (by show 2<5;omega) Z Z ?_)
 refine aq ?_
 exact O9
theorem Sz(t m:Int):0≤Gx t m∧Gx t m≤64:=by
 unfold Gx
 split
 ·omega
 split
 ·omega
 ·have:(0:Int)≤((2 ^ (t-1).toNat:Nat):Int):=Int.natCast_nonneg _
  omega
theorem I_(t m:Int):aH Tryz.prog 243 [.int .i64 t,.int .i64 m] Fr w [] (fun v L=>v=.int .i64 (Gx t m)∧L=[]):=by
 unfold Gx
 refine TF 18 Tryz.func243 Z yn ah Z Z ?_
 refine aq ?_
 refine CP (p:=t<1) Z (fun h1=>?_) (fun h1=>CK ?_)
 ·rw[if_pos h1]
  refine aq ?_
  exact O9
 rw[if_neg h1]
 refine aq ?_
 refine CP (p:=7<t) Z (fun h2=>?_) (fun h2=>CK ?_)
 ·rw[if_pos h2]
  refine aq ?_
  exact CR (ay.int 4 Z Z (by repeat' split;all_goals omega) ER ⟨rfl,Z⟩)
 rw[if_neg h2]
 refine aq ?_
 refine HH ?_
 obtain⟨n,hn⟩:∃n:Nat,t-1=n:=⟨(t-1).toNat,by omega⟩
 have hp:2 ^ n≤64:=by
  have:2 ^ n≤2 ^ 6:=Nat.pow_le_pow_right yp yd
  exact this
 rw[hn,Zp]
 refine VG (VI (vx (a:=1) (n:=n) ((2 ^ n:Nat):Int) Z Z (by show n≤64;omega) (by rw[Nat.one_mul];generalize 2 ^ n=m at hp;exact i64_in _ yd yd)) ?_)
 generalize 2 ^ n=m at hp
 refine aq ?_
 exact CR (ay.int 4 Z Z (by repeat' split;all_goals omega) ER ⟨rfl,Z⟩)
end
end Cl
namespace Cl
open Go Vg T Api Ch
attribute [local irreducible] VO VC VA
def qN(s:ByteArray):List Value:=[.string s]
theorem jW(s:ByteArray):(qN s).length=1:=rfl
theorem NH(s:ByteArray):(qN s).all Value.oneCell'=true:=rfl
theorem Cg{a:Option Addr}{cap:Nat}{l:List bG}(h:aI ax 2 Fr w a l)(hl:l.length≤1000000):aH Tryz.prog 260 [.slice a l.length cap] Fr w [] (fun v L=>∃a' cap',v=.slice a' l.length cap'∧L=[aJ aG 2 a' l.length cap' (flat ax l)]):=by
 refine TF 8 Tryz.func260 Z yn ah Z Z ?_
 cases a with
 | none=>
  obtain rfl:l=[]:=by
   cases l with
   | nil=>rfl
   | cons x l=>obtain⟨b,o,h1,_⟩:=h.at_ yf;cases h1
  refine J5 ?_
  exact Tv
 | some a=>
  refine w7 ?_
  refine CS (CG (VG (VO.buildSlice (n:=0) (pv:=[]) [] Z Z Z Z yp Z fun b=>?_)))
  refine UG ?_
  refine VG (VO.append (m:=l.length) (news:=flat ax l) 0 Z Z Z Z Z Z Z (aI.row aF h) (gQ kr _) Ul yd fun a' c' _=>?_)
  rw[Zl,ZI]
  refine an ?_
  exact Tw
theorem Ah{a:Option Addr}{cap:Nat}{l:List bG}{i:Nat}(hi:i<l.length)(hl:l.length≤1000000):aH Tryz.prog 245 [.slice a l.length cap,.int .i64 (i:Int),.int .i64 ((i:Int)+1)] Fr w [aJ aG 2 a l.length cap (flat ax l)]
  (fun v L=>∃a' cap',v=.slice a' (l.eraseIdx i).length cap'∧L=[aJ aG 2 a' (l.eraseIdx i).length cap' (flat ax (l.eraseIdx i))]):=by
 have hel:(l.eraseIdx i).length=l.length-1:=by rw[List.length_eraseIdx,if_pos hi]
 refine TF 33 Tryz.func245 Z yn ah Z Z ?_
 refine Dc ?_
 refine VC.e7 0 Z (aV.sl _ _ _ _ _ _) ?_
 rintro(_ | ⟨sb,rest⟩) ⟨hx1,hx2,hx3⟩
 ·obtain⟨_,h0,_⟩:=hx3
  omega
 obtain⟨rfl,hx4⟩:=hx3
 have hcl:(flat ax l++rest).length=cap*2:=by simpa using hx4
 have hfl:=bo aF l
 have hcap:l.length≤cap:=by
  rw[Zh,hfl] at hcl
  exact Nat.le_of_mul_le_mul_right yd (by decide:0<2)
 obtain⟨z,hz,hwr⟩:=I8 aF hi rest
 have hdl:(l.drop (i+1)).length=l.length-(i+1):=Z7
 have hdf:(flat ax (l.drop (i+1))).length=(l.length-(i+1))*2:=by rw[bo aF,hdl]
 dsimp only
 refine aq ?_
 refine XX ?_
 refine aq ?_
 refine CE Z (fun h=>absurd h yd) (fun h=>CK ?_)
 refine aq ?_
 refine U7 ?_
 refine ji ?_
 refine AG (AI Z (mQ i Z Z Z Z Z Z yd) ?_)
 refine ji ?_
 refine AG (AI Z (u_ (i+1) Z Z Z Z Z Z yd yd) ?_)
 refine AG (AO (a8.vy (n:=i) (m:=l.length-(i+1)) (news:=flat ax (l.drop (i+1))) 0 rfl rfl rfl rfl rfl rfl rfl ?_ (gQ kr _) yd ?_) rfl (fun v L' g=>by obtain⟨rfl,rfl⟩:=g;exact Dg) ?_)
 ·by_cases hm:l.length=i+1
  ·have e:l.drop (i+1)=[]:=ZH yd
   rw[e,show l.length-(i+1)=0 from by omega]
   exact dq.nil
  ·have hne:¬cap=i+1:=by omega
   have hfa:pZ (some ⟨sb,0,none⟩) cap (i+1) 2=some ⟨sb,0+(i+1)*2,none⟩:=by unfold pZ;simp[hne,Addr.add_mid]
   show dq _ _ (.slice (pZ (some ⟨sb,0,none⟩) cap (i+1) 2) _ _) _ _ _
   rw[hfa]
   refine dq.pt 0 Z ?_ hdf
   show((flat ax l++rest).drop (0+(i+1)*2)).take ((l.length-(i+1))*2)=_
   rw[Zl,pk aF _ _ _ yd,List.take_left' hdf]
 ·show i*2+(flat ax (l.drop (i+1))).length≤(flat ax l++rest).length
  rw[hdf,Zh,hfl,←Z6]
  exact ZQ (Nat.mul_le_mul_right _ yd) (Nat.le_add_right _ _)
 rintro _ _ ⟨rfl,rfl⟩
 rw[show i+(l.length-(i+1))=l.length-1 from by omega]
 show VA _ _ _ _ _ _ [pt sb (j_ (flat ax l++rest) (i*2) (flat ax (l.drop (i+1)))) aG] _
 rw[hwr]
 refine Hz ?_
 refine XY ?_
 rw[show l.length-(l.length-1)=1 from by omega]
 have hzz:(ax (0,0)).length=z.length:=by rw[hz];rfl
 refine VG (VO.wo (L':=[pt sb (flat ax (l.eraseIdx i)++((ax (0,0))++rest)) aG]) ((a8.clear 0 Z Z Z Z Z yp ?_ Z).mono fun v L' g=>⟨g.1,by
  rw[g.2]
  show [pt sb (j_ (flat ax (l.eraseIdx i)++(z++rest)) (0+(l.length-1)*2) (ax (0,0))) aG]=_
  rw[Fo (by rw[bo aF,hel];omega) hzz]⟩) ?_)
 ·show 0+(l.length-1)*2+1*2≤(flat ax (l.eraseIdx i)++(z++rest)).length
  rw[Zh,Zh,bo aF,hel,hz];omega
 refine aq ?_
 refine CR (ay.tmp 6 Z Z (L':=[aJ aG 2 (some ⟨sb,0,none⟩) (l.length-1) cap (flat ax (l.eraseIdx i))]) (ae.sl (by rw[bo aF,hel]) yd ?_ ae.refl).ar W5)
 rw[Zh,Zh,bo aF,hel,hzz,hz]
 rw[Zh,hfl] at hcl
 have:(l.length-1)*2+2=l.length*2:=by rw[←Nat.succ_mul];congr 1;omega
 omega
theorem Ai{a:Option Addr}{cap:Nat}{l:List ByteArray}{i:Nat}(hi:i<l.length)(hl:l.length≤1000000):aH Tryz.prog 182 [.slice a l.length cap,.int .i64 (i:Int),.int .i64 ((i:Int)+1)] Fr w [aJ 9 1 a l.length cap (flat qN l)]
  (fun v L=>∃a' cap',v=.slice a' (l.eraseIdx i).length cap'∧L=[aJ 9 1 a' (l.eraseIdx i).length cap' (flat qN (l.eraseIdx i))]):=by
 have hel:(l.eraseIdx i).length=l.length-1:=by rw[List.length_eraseIdx,if_pos hi]
 refine TF 33 Tryz.func182 Z yn ah Z Z ?_
 refine Dc ?_
 refine VC.e7 0 Z (aV.sl _ _ _ _ _ _) ?_
 rintro(_ | ⟨sb,rest⟩) ⟨hx1,hx2,hx3⟩
 ·obtain⟨_,h0,_⟩:=hx3
  omega
 obtain⟨rfl,hx4⟩:=hx3
 have hcl:(flat qN l++rest).length=cap*1:=by simpa using hx4
 have hfl:=bo jW l
 have hcap:l.length≤cap:=by
  rw[Zh,hfl] at hcl
  exact Nat.le_of_mul_le_mul_right yd (by decide:0<1)
 obtain⟨z,hz,hwr⟩:=I8 jW hi rest
 have hdl:(l.drop (i+1)).length=l.length-(i+1):=Z7
 have hdf:(flat qN (l.drop (i+1))).length=(l.length-(i+1))*1:=by rw[bo jW,hdl]
 dsimp only
 refine aq ?_
 refine XX ?_
 refine aq ?_
 refine CE Z (fun h=>absurd h yd) (fun h=>CK ?_)
 refine aq ?_
 refine U7 ?_
 refine ji ?_
 refine AG (AI Z (mQ i Z Z Z Z Z Z yd) ?_)
 refine ji ?_
 refine AG (AI Z (u_ (i+1) Z Z Z Z Z Z yd yd) ?_)
 refine AG (AO (a8.vy (n:=i) (m:=l.length-(i+1)) (news:=flat qN (l.drop (i+1))) 0 rfl rfl rfl rfl rfl rfl rfl ?_ (gQ NH _) yd ?_) rfl (fun v L' g=>by obtain⟨rfl,rfl⟩:=g;exact Dg) ?_)
 ·by_cases hm:l.length=i+1
  ·have e:l.drop (i+1)=[]:=ZH yd
   rw[e,show l.length-(i+1)=0 from by omega]
   exact dq.nil
  ·have hne:¬cap=i+1:=by omega
   have hfa:pZ (some ⟨sb,0,none⟩) cap (i+1) 1=some ⟨sb,0+(i+1)*1,none⟩:=by unfold pZ;simp[hne,Addr.add_mid]
   show dq _ _ (.slice (pZ (some ⟨sb,0,none⟩) cap (i+1) 1) _ _) _ _ _
   rw[hfa]
   refine dq.pt 0 Z ?_ hdf
   show((flat qN l++rest).drop (0+(i+1)*1)).take ((l.length-(i+1))*1)=_
   rw[Zl,pk jW _ _ _ yd,List.take_left' hdf]
 ·show i*1+(flat qN (l.drop (i+1))).length≤(flat qN l++rest).length
  rw[hdf,Zh,hfl,←Z6]
  exact ZQ (Nat.mul_le_mul_right _ yd) (Nat.le_add_right _ _)
 rintro _ _ ⟨rfl,rfl⟩
 rw[show i+(l.length-(i+1))=l.length-1 from by omega]
 show VA _ _ _ _ _ _ [pt sb (j_ (flat qN l++rest) (i*1) (flat qN (l.drop (i+1)))) 9] _
 rw[hwr]
 refine Hz ?_
 refine XY ?_
 rw[show l.length-(l.length-1)=1 from by omega]
 have hzz:(qN ⟨#[]⟩).length=z.length:=by rw[hz];rfl
 refine VG (VO.wo (L':=[pt sb (flat qN (l.eraseIdx i)++((qN ⟨#[]⟩)++rest)) 9]) ((a8.clear 0 Z Z Z Z Z yp ?_ Z).mono fun v L' g=>⟨g.1,by
  rw[g.2]
  show [pt sb (j_ (flat qN (l.eraseIdx i)++(z++rest)) (0+(l.length-1)*1) (qN ⟨#[]⟩)) 9]=_
  rw[Fo (by rw[bo jW,hel];omega) hzz]⟩) ?_)
 ·show 0+(l.length-1)*1+1*1≤(flat qN (l.eraseIdx i)++(z++rest)).length
  rw[Zh,Zh,bo jW,hel,hz];omega
 refine aq ?_
 refine CR (ay.tmp 6 Z Z (L':=[aJ 9 1 (some ⟨sb,0,none⟩) (l.length-1) cap (flat qN (l.eraseIdx i))]) (ae.sl (by rw[bo jW,hel]) yd ?_ ae.refl).ar W5)
 rw[Zh,Zh,bo jW,hel,hzz,hz]
 rw[Zh,hfl] at hcl
 have:(l.length-1)*1+1=l.length*1:=by rw[←Nat.succ_mul];congr 1;omega
 omega
end Cl
namespace Cl
open Go Vg T Api
attribute [local irreducible] VO VC VA
abbrev SA:TypeId:=5
def wM(b:UInt8):List Value:=[.int .u8 (b.toNat:Int)]
theorem Aj(b:UInt8):(wM b).length=1:=rfl
theorem NJ(l:Bs):flat wM l=l.map fun c=>Value.int .u8 (c.toNat:Int):=by
 induction l with
 | nil=>rfl
 | cons b l ih=>rw[bL,ih];rfl
theorem qF(l:Bs):(flat wM l).length=l.length:=by rw[bo Aj];omega
theorem wrap_u8(n:Nat):IntKind.u8.wrap (n:Int)=((UInt8.ofNat n).toNat:Int):=by
 simp[IntKind.wrap,IntKind.bits,IntKind.signed,UInt8.toNat_ofNat']
theorem rM{n:Nat}(h:n<18446744073709551616):IntKind.u64.wrap (n:Int)=(n:Int):=wrap_u64 yd yd
theorem I'{l:Bs}{rest:List Value}{i:Nat}{v:UInt8}(h:l[i]?=some v):(flat wM l++rest)[0+i*1]?=some (.int .u8 (v.toNat:Int)):=by
 have:=fD Aj (j:=0) h rfl rest
 rw[Zl];exact this
theorem Ja{l:Bs}{rest:List Value}{i:Nat}{v:UInt8}(h:i<l.length):(flat wM l++rest).set (0+i*1) (.int .u8 (v.toNat:Int))=flat wM (l.set i v)++rest:=by
 obtain⟨u,hu⟩:∃u,l[i]?=some u:=⟨_,GE h⟩
 have:=gy Aj (a':=v) (j:=0) hu yp rfl rest
 rw[Zl];exact this
structure Rj(cs ds:Bs)(i:Nat):Prop where
 len:ds.length=cs.length
 at_:∀k,k<cs.length→ds[k]?=if k<i∨cs.length-i≤k then cs[cs.length-1-k]? else cs[k]?
theorem Rj.done{cs ds:Bs}{i:Nat}(h:Rj cs ds i)(hi:cs.length≤2*i+1):ds=cs.reverse:=by
 refine Z8 fun k=>?_
 by_cases hk:k<cs.length
 ·rw[h.at_ k hk,List.getElem?_reverse hk]
  split
  ·rfl
  ·congr 1;omega
 ·rw[Z4 (by rw[h.len];omega),Z4 (by rw[List.length_reverse];omega)]
theorem Rj.next{cs ds:Bs}{i:Nat}{x y:UInt8}(h:Rj cs ds i)(hi:2*i+1<cs.length)(hx:ds[i]?=some x)(hy:ds[cs.length-1-i]?=some y):Rj cs ((ds.set i y).set (cs.length-1-i) x) (i+1):=by
 have hl:=h.len
 refine⟨by simp[hl],fun k hk=>?_⟩
 have e1:cs[i]?=some x:=by rw[←hx,h.at_ i yd,if_neg yd]
 have e2:cs[cs.length-1-i]?=some y:=by rw[←hy,h.at_ _ yd,if_neg yd]
 by_cases h1:k=cs.length-1-i
 ·subst h1
  rw[ZG ye,if_pos yd,show cs.length-1-(cs.length-1-i)=i from by omega,e1]
 rw[ZN yd]
 by_cases h2:k=i
 ·subst h2
  rw[ZG yd,if_pos yd,e2]
 rw[ZN yd,h.at_ k hk]
 by_cases h3:k<i∨cs.length-i≤k
 ·rw[if_pos h3,if_pos yd]
 ·rw[if_neg h3,if_neg yd]
theorem Ak(b n cap:Nat)(cs:Bs)(rest:List Value)(hn:cs.length=n)(h0:1≤n)(h1:n≤1000):
  aH Tryz.prog 272 [.slice (some ⟨b,0,none⟩) n cap] Fr w [pt b (flat wM cs++rest) SA] (fun v L=>v=.tuple #[]∧L=[pt b (flat wM cs.reverse++rest) SA]):=by
 refine TF 28 Tryz.func272 Z yn ah Z Z ?_
 refine aq ?_
 refine HH ?_
 refine aq ?_
 refine VC.loop (σ:=Nat×Bs) (fun s=>[(0,.slice (some ⟨b,0,none⟩) n cap),(2,.int .i64 (s.1:Int)),(3,.int .i64 ((n:Int)-1-s.1))]) (fun s=>[pt b (flat wM s.2++rest) SA]) (fun s=>Rj cs s.2 s.1∧s.1≤n) (fun s=>n-s.1) (0,cs)
  (by refine⟨⟨rfl,fun k hk=>?_⟩,Zj _⟩;rw[if_neg yd]) (SC rfl (SC rfl (Sub.int rfl tL (SN _)))) ER ?_
 rintro⟨i,ds⟩ ⟨hR,hi⟩
 have hl:ds.length=n:=by rw[hR.len,hn]
 dsimp only
 refine aq ?_
 refine CP (p:=(i:Int)<(n:Int)-1-i) Z (fun h2=>CK ?_) (fun h2=>CX ?_)
 rotate_left
 ·have hd:=hR.done yd
  subst hd
  refine aq ?_
  exact O6
 obtain⟨x,hx⟩:∃x,ds[i]?=some x:=⟨_,GE yd⟩
 obtain⟨y,hy⟩:∃y,ds[n-1-i]?=some y:=⟨_,GE yd⟩
 have hj:(n:Int)-1-i=((n-1-i:Nat):Int):=by omega
 have hcap:n≤n:=NR _
 rw[hj]
 refine aq ?_
 refine CD (ts 0 13 (.only 13 (.take 14 (.only 15 .nil)))) yn yr ?_
 refine ji ?_
 refine AG (AI Z (a_ (n-1-i) Z Z Z Z Z Z yd) ?_)
 refine AG (VA.ld 0 Z Z Z Z (I' (i:=n-1-i) hy) ?_)
 refine ji ?_
 refine AG (AI Z (a_ i Z Z Z Z Z Z yd) ?_)
 refine AG (VA.ld 0 Z Z Z Z (I' (i:=i) hx) ?_)
 refine ji ?_
 refine AG (AI Z (a_ i Z Z Z Z Z Z yd) ?_)
 refine AG (VA.st 0 (cs':=flat wM (ds.set i y)++rest) Z Z Z Z Z (by show 0+i*1<_;rw[Zh,qF];omega) (Ja (i:=i) yd) Z yu ?_)
 refine ji ?_
 refine AG (AI Z (a_ (n-1-i) Z Z Z Z Z Z yd) ?_)
 refine AG (VA.st 0 (cs':=flat wM ((ds.set i y).set (n-1-i) x)++rest) Z Z Z Z Z (by show 0+(n-1-i)*1<_;rw[Zh,qF,ZB];omega) (Ja (i:=n-1-i) (by rw[ZB];omega)) Z yu ?_)
 refine ji ?_
 refine RM ?_
 refine HH ?_
 refine aq ?_
 refine⟨(i+1,(ds.set i y).set (n-1-i) x),⟨?_,by omega⟩,by dsimp only;omega,SC Z (SC Z (Sub.int Z tL (SN _))),ER⟩
 subst hn
 exact hR.next yd hx hy
end Cl
namespace Cl
open Go Vg T Api
attribute [local irreducible] VO VC VA
theorem ofNat_mod(n:Nat):UInt8.ofNat (n % 256)=UInt8.ofNat n:=by apply UInt8.toNat_inj.1;simp[UInt8.toNat_ofNat']
theorem Jb:∀k,HC k 0=[]
 | 0=>rfl
 | k+1=>by rw[HC,if_pos rfl]
theorem Al(l:Bs)(k:Nat):(bT l).extract k (bT l).size=bT (l.drop k):=by
 rw[di];exact ByteArray.ext (by simp[bT,Z3])
theorem Fp(l:Bs)(k:Nat):(bT l).extract 0 k=bT (l.take k):=ByteArray.ext (by simp[bT])
theorem Jc(a b:ByteArray):(a.toList == b.toList)=decide (a=b):=by
 by_cases h:a=b
 ·subst h;simp
 ·have:a.toList≠b.toList:=fun e=>h (by
   rw[ByteArray.toList_eq,ByteArray.toList_eq] at e
   exact ByteArray.ext (ZP.1 e))
  rw[DF h];simpa using this
theorem p7(a b:Bs):((bT a).toList == (bT b).toList)=decide (a=b):=by
 rw[Jc]
 by_cases h:a=b
 ·rw[DT h,DT (congrArg bT h)]
 ·rw[DF h,DF fun k=>h (P5 k)]
theorem Jd{r:Bs}{j:Nat}{b:UInt8}(h:r[j]?=some b):AS (r.take (j+1))=AS (r.take j)*256+b.toNat:=by
 rw[Zu,h,←MT];rfl
theorem tC{r:Bs}{j:Nat}(h:j≤8):AS (r.take j)<256 ^ j:=by
 have:=HW (r.take j)
 exact Nat.lt_of_lt_of_le this (Nat.pow_le_pow_right yp Ta)
theorem V'{j:Nat}(h:j≤7):256 ^ j≤72057594037927936:=by
 have:256 ^ j≤256 ^ 7:=Nat.pow_le_pow_right yp h
 exact this
theorem Wa{j:Nat}(h:j≤8):256 ^ j≤18446744073709551616:=by
 have:256 ^ j≤256 ^ 8:=Nat.pow_le_pow_right yp h
 exact this
theorem vz(n:Nat)(hn:n<18446744073709551616):aH Tryz.prog 224 [.int .u64 n] Fr w [] (fun v L=>v=.string (bT (sj n))∧L=[]):=by
 refine TF 30 Tryz.func224 Z yn ah Z Z ?_
 refine aq ?_
 refine CP (p:=(n:Int)≤247) Z (fun h=>?_) (fun h=>CK ?_)
 ·refine aq ?_
  refine VG (VI (dX ((UInt8.ofNat n).toNat:Int) Z Z Z Z Z (wrap_u8 n)) ?_)
  refine VG (VO.buildSlice (pv:=[(0,.int .u8 ((UInt8.ofNat n).toNat:Int))]) (wM (UInt8.ofNat n)) Z Z Z Z yp Z fun b=>?_)
  refine VG (VO.wo (a8.str (bs:=[UInt8.ofNat n]) 0 Z Z Z Z Z Z Z Z Z Z) ?_)
  refine aq ?_
  exact CR (ay.tmp 2 Z Z ae.nil.ar ⟨by rw[sj,if_pos yd];rfl,Z⟩)
 refine aq ?_
 refine VC.loop (σ:=Bs×Nat×Option Addr×Nat) (fun s=>[(0,.int .u64 (s.2.1:Int)),(3,.slice s.2.2.1 s.1.length s.2.2.2)]) (fun s=>[aJ SA 1 s.2.2.1 s.1.length s.2.2.2 (flat wM s.1)]) (fun s=>HC 8 n=s.1++HC (8-s.1.length) s.2.1∧s.1.length≤8∧s.2.1<256 ^ (8-s.1.length)) (fun s=>8-s.1.length) ([],n,none,0)
  ⟨rfl,Zj _,hn⟩ bd (ae.bY ae.nil).ar ?_
 rintro⟨done,cur,a,c⟩ ⟨hJ,hl,hc⟩
 dsimp only at hJ hl hc ⊢
 refine aq ?_
 refine CP (p:=0<(cur:Int)) Z (fun h2=>CK ?_) (fun h2=>CX ?_)
 ·obtain⟨k,hk⟩:∃k,8-done.length=k+1:=⟨8-done.length-1,by
   by_cases h8:done.length=8
   ·rw[h8] at hc;simp at hc;omega
   ·omega⟩
  have hu:HC (k+1) cur=UInt8.ofNat cur::HC k (cur / 256):=by rw[HC,if_neg yd,ofNat_mod]
  rw[hk] at hc
  rw[hk,hu] at hJ
  refine aq ?_
  refine VG (VI (dX ((UInt8.ofNat cur).toNat:Int) Z Z Z Z Z (wrap_u8 cur)) ?_)
  refine VG (VO.buildSlice (pv:=[(0,.int .u8 ((UInt8.ofNat cur).toNat:Int))]) (wM (UInt8.ofNat cur)) Z Z Z Z yp Z fun b=>?_)
  refine VG (VO.append (m:=1) (news:=wM (UInt8.ofNat cur)) 1 Z Z Z Z Z Z Z (dq.pt 0 Z Z Z) Z WZ yd fun a2 c2 hc2=>?_)
  refine aq ?_
  refine VG (VI (Ed (n:=8) Z Z yp) ?_)
  refine aq ?_
  have hL:(done ++ [UInt8.ofNat cur]).length=done.length+1:=by simp
  refine⟨(done ++ [UInt8.ofNat cur],cur / 2 ^ 8,a2,c2),⟨?_,by dsimp only;omega,?_⟩,by dsimp only;omega,SC Z (SC (by dsimp only;rw[hL];rfl) (SN _)),?_⟩
  ·dsimp only
   rw[hJ,hL,show 8-(done.length+1)=k from by omega,Zr];rfl
  ·dsimp only
   rw[hL,show 8-(done.length+1)=k from by omega]
   rw[Nat.pow_succ] at hc
   exact Nat.div_lt_of_lt_mul (by rw[Nat.mul_comm];exact hc)
  ·dsimp only
   rw[hL,bf]
   exact(IP 0 Z ae.nil).ar
 obtain rfl:cur=0:=by omega
 rw[Jb,Zi] at hJ
 refine RM ?_
 refine VG (VI (dX ((UInt8.ofNat (247+done.length)).toNat:Int) Z Z Z Z Z (wrap_u8 (247+done.length))) ?_)
 generalize hz:UInt8.ofNat (247+done.length)=z
 refine VG (VO.buildSlice (pv:=[(0,.int .u8 (z.toNat:Int))]) (wM z) Z Z Z Z yp Z fun b=>?_)
 refine VG (VO.append (m:=1) (news:=wM z) 1 Z Z Z Z Z Z Z (dq.pt 0 Z Z Z) Z WZ yd fun a2 c2 hc2=>?_)
 refine aq ?_
 rw[show flat wM done++wM z=flat wM (done ++ [z]) from by rw[bf];rfl]
 refine VO.e7 0 Z (aV.sl _ _ _ _ _ _) ?_
 rintro(_ | ⟨sb,rest⟩) ⟨hx1,hx2,hx3⟩
 ·obtain⟨_,h0,_⟩:=hx3
  omega
 obtain⟨rfl,hx4⟩:=hx3
 dsimp only
 refine aq ?_
 refine VG (VQ 0 Z (fun Fr w hF hw _=>Ak Fr w sb (done.length+1) c2 (done ++ [z]) rest yf yd yd) Z (ψ:=fun v H=>v=.tuple #[]∧H=pt sb (flat wM (done ++ [z]).reverse++rest) SA) yy ?_)
 rintro _ _ ⟨rfl,rfl⟩
 refine aq ?_
 refine VG (VO.wo (a8.str (bs:=(done ++ [z]).reverse) 0 Z Z Z Z Z Z Z Z yf (by rw[←NJ,List.take_left' (by rw[qF];simp)])) ?_)
 refine aq ?_
 exact CR (ay.tmp 2 Z Z ae.nil.ar ⟨by rw[sj,if_neg yd,hJ,hz,List.reverse_append];rfl,Z⟩)
theorem eO(n:Int):aH Tryz.prog 154 [.int .i64 n] Fr w [] (fun v L=>v=.string (bT (fO n))∧L=[]):=by
 refine TF 13 Tryz.func154 Z yn ah Z Z ?_
 refine aq ?_
 by_cases h1:n < -1
 ·refine VG (VY 5 true Z (DT h1) ?_)
  refine HL ?_
  exact CR (ay.tmp 2 Z Z ER ⟨by rw[fO,if_pos (.inl h1)];rfl,Z⟩)
 refine VG (VY 5 false Z (DF h1) ?_)
 refine aK ?_
 refine CP (p:=1099511627776<n) Z (fun h2=>?_) (fun h2=>CK ?_)
 ·refine aq ?_
  exact CR (ay.tmp 2 Z Z ER ⟨by rw[fO,if_pos (.inr h2)];rfl,Z⟩)
 refine RM ?_
 refine VG (VI (dX (((n+1).toNat:Nat):Int) Z Z Z Z Z (by rw[wrap_u64 yd yd];omega)) ?_)
 refine VG (VV (fun Fr w hF hw _=>vz Fr w (n+1).toNat yd) Z ?_)
 refine aq ?_
 exact CR (ay.tmp 2 Z Z ER ⟨by rw[fO,if_neg yd],Z⟩)
theorem ke(s:ByteArray)(hs:s.size≤1000000):aH Tryz.prog 226 [.string s] Fr w [] (fun v L=>v=.string (bT (ow (sB s)))∧L=[]):=by
 have hl:(sj s.size).length≤9:=by
  unfold sj
  split
  ·simp
  ·have:=zd 8 s.size;simp;omega
 refine TF 9 Tryz.func226 Z yn ah Z Z ?_
 refine aq ?_
 refine VG (VI (dX (s.size:Int) Z Z Z Z Z (rM yd)) ?_)
 refine VG (VV (fun Fr w hF hw _=>vz Fr w s.size yd) Z ?_)
 refine aq ?_
 refine VG (VI (cm Z Z (by rw[di];omega)) ?_)
 refine aq ?_
 exact CR (ay.tmp 2 Z Z ER ⟨by rw[ow,gM,OJ,uu],Z⟩)
end Cl
namespace Cl
open Go Vg T Api
attribute [local irreducible] VO VC VA
theorem ay.t3{X:Cx}{fn:Func}{R:Value→List HP→Prop}{e:Env}{L:List HP}(t u r:Nat)(h:fn.results=#[.tmp t,.tmp u,.tmp r]){v x y:Value}(hv:Vg.look e t=some v)(hx:Vg.look e u=some x)(hy:Vg.look e r=some y){L':List HP}(he:jj X L L')(hR:R (.tuple #[v,x,y]) L'):ay X fn R e L:=
 ⟨_,L',⟨fun a w ha hw=>by
  have h1:=ha.at_ t _ hv
  have h2:=ha.at_ u _ hx
  have h3:=ha.at_ r _ hy
  simp only[Array.getD_eq_getD_getElem?] at h1 h2 h3
  simp[results,h,h1,h2,h3]⟩,he,hR⟩
def Wb:Option (Nat×Bs)→Value
 | some (n,r)=>.tuple #[.int .u64 n,.string (bT r),.bool true]
 | none=>.tuple #[.int .u64 0,.string (bT []),.bool false]
def YH:Option (Int×Bs)→Value
 | some (n,r)=>.tuple #[.int .i64 n,.string (bT r),.bool true]
 | none=>.tuple #[.int .i64 0,.string (bT []),.bool false]
def YI:Option (Bs×Bs)→Value
 | some (n,r)=>.tuple #[.string (bT n),.string (bT r),.bool true]
 | none=>.tuple #[.string (bT []),.string (bT []),.bool false]
theorem jf(s:Bs)(hs:s.length≤1000000):aH Tryz.prog 284 [.string (bT s)] Fr w [] (fun v L=>v=Wb (kV s)∧L=[]):=by
 refine TF 48 Tryz.func284 Z yn ah Z Z ?_
 refine aq ?_
 refine CC Z (fun h=>?_) (fun h=>CK ?_)
 ·have h:s=[]:=by rw[show(ByteArray.mk #[])=bT [] from rfl,p7] at h;exact of_decide_eq_true h
  subst h
  refine aq ?_
  exact CR (ay.t3 2 3 4 Z Z Z Z ER ⟨rfl,Z⟩)
 have h:s≠[]:=by rw[show(ByteArray.mk #[])=bT [] from rfl,p7] at h;exact of_decide_eq_false h
 obtain⟨c,r,rfl⟩:∃c r,s=c::r:=by cases s with
  | nil=>exact absurd rfl h
  | cons c r=>exact⟨c,r,rfl⟩
 have hc:c.toNat<256:=c.toNat_lt
 rw[Zs] at hs
 have hsz:(bT (c::r)).size=r.length+1:=by rw[di];rfl
 refine aq ?_
 refine VG (VI (dV (b:=c) 0 Z Z Z Z Z Z) ?_)
 refine aq ?_
 refine CP (p:=(c.toNat:Int)≤247) Z (fun h2=>?_) (fun h2=>CK ?_)
 ·refine aq ?_
  refine CD (ts 0 8 .nil) yn yr ?_
  refine ji ?_
  refine AG (AI Z (dV (b:=c) 0 Z Z Z Z Z Z) ?_)
  refine AG (AI Z (dX (c.toNat:Int) Z Z Z Z Z (rM yd)) ?_)
  refine ji ?_
  refine AG (AI Z (o8 1 Z Z Z Z Z Tf) ?_)
  refine ji ?_
  exact CR (ay.t3 2 3 4 Z Z Z Z ER ⟨by rw[kV,if_pos yd,Al];rfl,Z⟩)
 obtain⟨k,hk⟩:∃k,c.toNat-247=k:=⟨_,rfl⟩
 have hk1:1≤k:=by omega
 have hk8:k≤8:=by omega
 refine aq ?_
 refine VG (VI (dV (b:=c) 0 Z Z Z Z Z Z) ?_)
 refine VG (VI (dX (c.toNat:Int) Z Z Z Z Z (i64_in _ yd yd)) ?_)
 refine JY ?_
 refine HH ?_
 rw[show(1:Int)+c.toNat-247=((k+1:Nat):Int) from by omega]
 refine aq ?_
 have hr:kV (c::r)=if r.length<k then none else if sj (AS (r.take k))=c::r.take k then some (AS (r.take k),r.drop k) else none:=by
  rw[kV,if_neg yd,hk]
 refine CP (p:=((bT (c::r)).size:Int)<((k+1:Nat):Int)) Z (fun h3=>?_) (fun h3=>CK ?_)
 ·rw[hsz] at h3
  refine aq ?_
  exact CR (ay.t3 2 3 4 Z Z Z Z ER ⟨by rw[hr,if_pos yd];rfl,Z⟩)
 rw[hsz] at h3
 rw[if_neg yd] at hr
 refine aq ?_
 refine VC.loop (σ:=Nat) (fun j=>[(0,.string (bT (c::r))),(5,.int .i64 ((k+1:Nat):Int)),(6,.int .i64 ((j+1:Nat):Int)),(2,.int .u64 ((AS (r.take j):Nat):Int))]) (fun _=>[]) (fun j=>j≤k) (fun j=>k-j) 0
  (Zj _) (SC rfl (SC rfl (SC rfl (Sub.int rfl (by rw[Z0];rfl) (SN _))))) ER ?_
 intro j hj
 refine aq ?_
 refine CP (p:=((j+1:Nat):Int)<((k+1:Nat):Int)) Z (fun h4=>CK ?_) (fun h4=>CX ?_)
 ·obtain⟨b,hb⟩:∃b,r[j]?=some b:=⟨_,GE yd⟩
  have h256:b.toNat<256:=b.toNat_lt
  have hlt:=tC (r:=r) (j:=j) yd
  have hp:=V' (j:=j) yd
  have hsh:AS (r.take j)*2 ^ 8<18446744073709551616:=by omega
  refine aq ?_
  refine VG (VI (vx (n:=8) ((AS (r.take j)*2 ^ 8:Nat):Int) Z Z yp (rM hsh)) ?_)
  refine aq ?_
  refine VG (VI (dV (b:=b) (j+1) Z Z Z Z Z hb) ?_)
  refine VG (VI (dX (b.toNat:Int) Z Z Z Z Z (rM yd)) ?_)
  refine VG (VI (Ee Z Z hsh yd) ?_)
  refine qO ?_
  refine⟨j+1,by omega,by dsimp only;omega,SC Z (SC Z (Sub.int Z yd (Sub.int Z (by rw[Jd hb,show(2:Nat) ^ 8=256 from Z,I9 h256]) (SN _)))),ER⟩
 obtain rfl:j=k:=by omega
 have hlt:=tC (r:=r) (j:=j) hk8
 have hp:=Wa (j:=j) hk8
 refine aq ?_
 refine CD (ts 0 1 (ts 2 3 (.only 1 (.take 5 .nil)))) yn yr ?_
 refine ji ?_
 refine AG (AI Z (xS (j+1) Z Z Z Z Z Tf) ?_)
 refine AG (AR (fun Fr w hF hs hS=>vz Fr w (AS (r.take j)) yd) Z Z yu ?_)
 refine ji ?_
 rw[Fp]
 refine VC.dT Z (fun h5=>?_) (fun h5=>CK ?_)
 ·have h5:¬sj (AS (r.take j))=c::r.take j:=by rw[p7] at h5;exact of_decide_eq_false h5
  refine aq ?_
  exact CR (ay.t3 2 3 4 Z Z Z Z ER ⟨by rw[hr,if_neg h5];rfl,Z⟩)
 have h5:sj (AS (r.take j))=c::r.take j:=by rw[p7] at h5;exact of_decide_eq_true h5
 refine aq ?_
 refine CD (ts 0 7 .nil) yn yr ?_
 refine ji ?_
 refine AG (AI Z (o8 (j+1) Z Z Z Z Z Tf) ?_)
 refine ji ?_
 exact CR (ay.t3 2 3 4 Z Z Z Z ER ⟨by rw[hr,if_pos h5,Al];rfl,Z⟩)
theorem nB(s:Bs)(hs:s.length≤1000000):aH Tryz.prog 246 [.string (bT s)] Fr w [] (fun v L=>v=YH (aW s)∧L=[]):=by
 refine TF 22 Tryz.func246 Z yn ah Z Z ?_
 refine aq ?_
 cases hr:kV s with
 | none=>
  refine XZ ?_
  refine aK ?_
  refine VG (VY 14 true Z Z ?_)
  refine HL ?_
  exact CR (ay.t3 2 3 4 Z Z Z Z ER ⟨by rw[aW,hr];rfl,Z⟩)
 | some x=>
  obtain⟨u,r⟩:=x
  have hu:=A_ hr
  refine X1 ?_
  refine aK ?_
  refine VG (VY 14 false Z Z ?_)
  refine aK ?_
  refine CP (p:=(1099511627777:Int)<(u:Int)) Z (fun h2=>?_) (fun h2=>CK ?_)
  ·refine aq ?_
   exact CR (ay.t3 2 3 4 Z Z Z Z ER ⟨by rw[aW,hr];dsimp only;rw[if_pos yd];rfl,Z⟩)
  refine aq ?_
  refine VG (VI (dX (u:Int) Z Z Z Z Z (i64_in _ yd yd)) ?_)
  refine HH ?_
  refine aq ?_
  exact CR (ay.t3 2 3 4 Z Z Z Z ER ⟨by rw[aW,hr];dsimp only;rw[if_neg yd];rfl,Z⟩)
theorem oT(s:Bs)(hs:s.length≤1000000):aH Tryz.prog 248 [.string (bT s)] Fr w [] (fun v L=>v=YI (lV s)∧L=[]):=by
 refine TF 27 Tryz.func248 Z yn ah Z Z ?_
 refine aq ?_
 cases hr:kV s with
 | none=>
  refine XZ ?_
  refine aK ?_
  refine VG (VY 14 true Z Z ?_)
  refine HL ?_
  exact CR (ay.t3 2 3 4 Z Z Z Z ER ⟨by rw[lV,hr];rfl,Z⟩)
 | some x=>
  obtain⟨u,r⟩:=x
  have hu:=A_ hr
  have hrl:=sk hr
  have hsz:(bT r).size=r.length:=di r
  refine X1 ?_
  refine aK ?_
  refine VG (VY 14 false Z Z ?_)
  refine aK ?_
  refine VG (VI (dX ((bT r).size:Int) Z Z Z Z Z (rM yd)) ?_)
  refine aK ?_
  refine CP (p:=((bT r).size:Int)<(u:Int)) Z (fun h2=>?_) (fun h2=>CK ?_)
  ·refine aq ?_
   exact CR (ay.t3 2 3 4 Z Z Z Z ER ⟨by rw[lV,hr];dsimp only;rw[if_pos yd];rfl,Z⟩)
  refine aq ?_
  refine CD (ts 0 9 .nil) yn yr ?_
  refine ji ?_
  refine AG (AI Z (xS u Z Z Z Z Z yd) ?_)
  refine ji ?_
  refine AG (AI Z (o8 u Z Z Z Z Z yd) ?_)
  refine ji ?_
  exact CR (ay.t3 2 3 4 Z Z Z Z ER ⟨by rw[lV,hr];dsimp only;rw[if_neg yd,Al,Fp];rfl,Z⟩)
end Cl
namespace Cl
open Go Vg T Api
attribute [local irreducible] VO VC VA
theorem Ci(n:Nat):(sj n).length≤9:=by
 unfold sj
 split
 ·simp
 ·have:=zd 8 n;simp;omega
theorem bI(n:Int):(fO n).length≤9:=by
 unfold fO
 split
 ·exact Zj _
 ·exact Ci _
theorem kh(s:Bs):(ow s).length≤9+s.length:=by
 have:=Ci s.length
 rw[ow,Zh];omega
theorem Cj{o:e8}(h:aZ o=0):o.key.size≤16∧o.value.size≤64:=by
 unfold aZ at h
 split at h
 ·exact absurd h yp
 split at h
 ·exact absurd h yp
 rename_i h2
 simp[lC] at h2
 omega
theorem Am{o:e8}(h:aZ o=0):(OK o).length≤116:=by
 obtain⟨h1,h2⟩:=Cj h
 have a:=bI o.kind
 have b:=kh (sB o.key)
 have c:=kh (sB o.value)
 have d:=bI o.version
 rw[uu] at b c
 unfold OK
 simp only[Zh]
 have e:(if wC o.kind=true then ow (sB o.value) else []).length≤73:=by split<;>first | omega | simp
 have f:(if o.kind=4 then fO o.version else []).length≤9:=by split<;>first | omega | simp
 omega
theorem xU(o:e8):aH Tryz.prog 225 [.agg o.cells.toArray] Fr w [] (fun v L=>v=.tuple #[.string (bT (if aZ o=0 then OK o else [])),.int .i64 (aZ o)]∧L=[]):=by
 refine TF 35 Tryz.func225 Z yn ah Z Z ?_
 refine CS (CG (VG (VB (vs:=o.cells) Z fun b=>VG (VN ?_))))
 refine aq ?_
 refine VG (VL 0 o.cells Z Z Z Z ?_)
 refine VG (VV (fun Fr w hF hw _=>Api.bm Fr w o) Z ?_)
 refine aq ?_
 refine VC.bp Z (fun h=>?_) (fun h=>CK ?_)
 ·refine aq ?_
  exact CR (ay.cU 2 3 Z Z Z ae.nil.ar ⟨by rw[if_neg h];rfl,Z⟩)
 rw[if_pos h,h]
 obtain⟨hk,hv⟩:=Cj h
 have l1:=bI o.kind
 have l2:=kh (sB o.key)
 have l3:=kh (sB o.value)
 have l4:=bI o.version
 rw[uu] at l2 l3
 refine aq ?_
 refine CD (ts 0 2 (ts 3 2 (.only 2 (.only 5 (ts 6 2 .nil))))) yn yr ?_
 refine eT ?_
 refine AG (AR (fun Fr w hF hs hS=>eO Fr w o.kind) Z Z yu ?_)
 refine AG (AR (fun Fr w hF hs hS=>ke Fr w o.key yd) Z Z yu ?_)
 refine RB ?_
 rw[←gM]
 refine Oy ?_
 refine VG (VV (fun Fr w hF hw _=>kU Fr w o.kind) Z ?_)
 refine an ?_
 refine VC.cq (σ:=Bs) (fun s=>[(1,pV b),(5,.string (bT s))]) (fun _=>[pt b o.cells 31]) (fun s=>s=fO o.kind++ow (sB o.key)++(if wC o.kind=true then ow (sB o.value) else [])) ?_ ?_
 ·refine CC Z (fun h2=>?_) (fun h2=>CK ?_)
  ·refine an ?_
   refine VG (VV (fun Fr w hF hw _=>ke Fr w o.value yd) Z ?_)
   refine VG (VI (cm Z Z (by rw[di,di,Zh];omega)) ?_)
   rw[←gM]
   refine an ?_
   exact⟨_,by rw[show wC o.kind=true from h2,if_pos rfl],SC Z (SC Z (SN _)),ER⟩
  ·exact⟨_,by rw[show wC o.kind=false from h2,if_neg yp,Zi],SC Z (SC Z (SN _)),ER⟩
 rintro s rfl
 have e:(if wC o.kind=true then ow (sB o.value) else []).length≤73:=by split<;>first | omega | simp
 refine an ?_
 refine VC.cq (σ:=Bs) (fun s=>[(1,pV b),(5,.string (bT s))]) (fun _=>[pt b o.cells 31]) (fun s=>s=OK o) ?_ ?_
 ·refine CE Z (fun h2=>?_) (fun h2=>CK ?_)
  ·refine an ?_
   refine VG (VV (fun Fr w hF hw _=>eO Fr w o.version) Z ?_)
   refine TP ?_
   rw[←gM]
   refine an ?_
   exact⟨_,by rw[OK,if_pos h2],SC Z (SC Z (SN _)),ER⟩
  ·exact⟨_,by rw[OK,if_neg h2,Zi],SC Z (SC Z (SN _)),ER⟩
 rintro s rfl
 refine an ?_
 exact CR (ay.cU 2 3 Z Z Z ae.nil.ar ⟨rfl,Z⟩)
end Cl
namespace Cl
open Go Vg T Api
attribute [local irreducible] VO VC VA
theorem Je{s a r:Bs}(h:lV s=some (a,r)):a.length≤s.length∧r.length≤s.length:=by
 unfold lV at h
 cases hr:kV s with
 | none=>rw[hr] at h;cases h
 | some x=>
  obtain⟨n,q⟩:=x
  have:=sk hr
  rw[hr] at h
  dsimp only at h
  split at h
  ·cases h
  ·simp only[Option.some.injEq,Prod.mk.injEq] at h
   obtain⟨rfl,rfl⟩:=h
   rw[Zw,Z7];omega
def g1(s:Bs):Option (e8×Bs):=(aW s).map fun x=>(⟨x.1,bT [],bT [],0⟩,x.2)
def g2(s:Bs):Option (e8×Bs):=(g1 s).bind fun x=>(lV x.2).map fun y=>({ x.1 with key:=bT y.1 },y.2)
def g3(s:Bs):Option (e8×Bs):=(g2 s).bind fun x=>if wC x.1.kind=true then (lV x.2).map fun y=>({ x.1 with value:=bT y.1 },y.2) else some x
def g4(s:Bs):Option (e8×Bs):=(g3 s).bind fun x=>if x.1.kind=4 then (aW x.2).map fun y=>({ x.1 with version:=y.1 },y.2) else some x
theorem uc(s:Bs):Bb s=(g4 s).bind fun x=>if x.2=[]∧aZ x.1=0 then some x.1 else none:=by
 unfold Bb g4 g3 g2 g1
 cases h1:aW s with
 | none=>rfl
 | some x=>
  obtain⟨k,r⟩:=x
  simp only[ZS,ZJ]
  cases h2:lV r with
  | none=>rfl
  | some y=>
   obtain⟨key,r2⟩:=y
   simp only[ZS,ZJ]
   by_cases hv:wC k=true
   ·simp only[hv,if_true]
    cases h3:lV r2 with
    | none=>rfl
    | some z=>
     obtain⟨val,r3⟩:=z
     simp only[ZS,ZJ]
     by_cases h4:k=4
     ·simp only[h4,if_true]
      cases h5:aW r3 with
      | none=>rfl
      | some u=>simp only[ZS,ZJ]
     ·simp only[h4,if_false,ZJ]
   ·simp only[hv,if_false,Bool.false_eq_true,ZJ]
    by_cases h4:k=4
    ·exact absurd (by subst h4;rfl) hv
    ·simp only[h4,if_false,ZJ]
structure GI(o:Option (e8×Bs))(n:Nat)(x:e8×Bs×Bool):Prop where
 len:x.2.1.length≤n
 YJ:if x.2.2=true then o=some (x.1,x.2.1) else o=none
theorem GI.yes{o:Option (e8×Bs)}{n:Nat}{p:e8}{r:Bs}(h:o=some (p,r))(hl:r.length≤n):GI o n (p,r,true):=⟨hl,h⟩
theorem GI.no{o:Option (e8×Bs)}{n:Nat}{p:e8}{r:Bs}(h:o=none)(hl:r.length≤n):GI o n (p,r,false):=⟨hl,h⟩
theorem GI.t{o:Option (e8×Bs)}{n:Nat}{p:e8}{r:Bs}(h:GI o n (p,r,true)):o=some (p,r):=h.YJ
theorem GI.f{o:Option (e8×Bs)}{n:Nat}{p:e8}{r:Bs}(h:GI o n (p,r,false)):o=none:=h.YJ
abbrev RQ:TypeId:=31
def SB:Option e8→Value
 | some o=>.tuple #[.agg o.cells.toArray,.int .i64 0]
 | none=>.tuple #[.agg (e8.cells ⟨0,bT [],bT [],0⟩).toArray,.int .i64 10]
theorem An(s:Bs):∃k r ok,YH (aW s)=.tuple #[.int .i64 k,.string (bT r),.bool ok]∧r.length≤s.length∧(ok=true→aW s=some (k,r))∧(ok=false→aW s=none):=by
 cases h:aW s with
 | none=>exact⟨0,[],false,rfl,Zj _,fun h=>(Z5 h).elim,fun _=>rfl⟩
 | some x=>exact⟨x.1,x.2,true,rfl,by have:=(F6 (n:=x.1) (r:=x.2) h).2.2;omega,fun _=>rfl,fun h=>(Z5 h.symm).elim⟩
theorem Ei(s:Bs):∃a r ok,YI (lV s)=.tuple #[.string (bT a),.string (bT r),.bool ok]∧r.length≤s.length∧(ok=true→lV s=some (a,r))∧(ok=false→lV s=none):=by
 cases h:lV s with
 | none=>exact⟨[],[],false,rfl,Zj _,fun h=>(Z5 h).elim,fun _=>rfl⟩
 | some x=>exact⟨x.1,x.2,true,rfl,(Je (a:=x.1) (r:=x.2) h).2,fun _=>rfl,fun h=>(Z5 h.symm).elim⟩
abbrev gE(b2 b4:Nat)(x:e8×Bs×Bool):Env:=[(2,pV b2),(4,pV b4),(6,.string (bT x.2.1)),(7,.bool x.2.2)]
abbrev gH(b2 b4:Nat)(x:e8×Bs×Bool):List HP:=[pt b4 x.1.cells RQ,pt b2 (e8.cells ⟨0,bT [],bT [],0⟩) RQ]
theorem GI.mk'{o:Option (e8×Bs)}{n:Nat}{p:e8}{r:Bs}{ok:Bool}(hl:r.length≤n)(h1:ok=true→o=some (p,r))(h2:ok=false→o=none):GI o n (p,r,ok):=by
 cases ok with
 | true=>exact GI.yes (h1 rfl) hl
 | false=>exact GI.no (h2 rfl) hl
theorem pC(s:Bs)(hs:s.length≤1000000):aH Tryz.prog 247 [.string (bT s)] Fr w [] (fun v L=>v=SB (Bb s)∧L=[]):=by
 refine TF 63 Tryz.func247 Z yn ah Z Z ?_
 refine CS (CG (VG (VO.alloc Z fun b2=>?_)))
 refine aq ?_
 refine VG (VO.alloc Z fun b4=>?_)
 refine aq ?_
 obtain⟨k,r,ok,hv,hrl,hk1,hk2⟩:=An s
 refine VG (VV (fun Fr w hF hw _=>hv▸nB Fr w s hs) Z ?_)
 refine aK ?_
 refine VG (VO.st 0 (cs':=e8.cells ⟨k,bT [],bT [],0⟩) Z Z Z Z (by show 0<4;omega) Z Z ?_)
 refine aK ?_
 have hI:GI (g1 s) s.length (⟨k,bT [],bT [],0⟩,r,ok):=GI.mk' hrl (fun h=>by rw[g1,hk1 h];rfl) (fun h=>by rw[g1,hk2 h];rfl)
 clear hk1 hk2 hv
 refine VC.cq (gE b2 b4) (gH b2 b4) (GI (g2 s) s.length) ?_ ?_
 ·refine CC Z (fun h=>?_) (fun h=>CK ?_)
  ·subst h
   obtain⟨a,q,ok,hv,hql,hk1,hk2⟩:=Ei r
   refine aK ?_
   refine U8 ?_
   refine aK ?_
   refine VG (VO.st 0 (cs':=e8.cells ⟨k,bT a,bT [],0⟩) Z Z Z Z (by show 1<4;omega) Z Z ?_)
   refine aK ?_
   refine⟨(⟨k,bT a,bT [],0⟩,q,ok),GI.mk' yd (fun h=>by rw[g2,hI.t];show(lV r).map _=_;rw[hk1 h];rfl) (fun h=>by rw[g2,hI.t];show(lV r).map _=_;rw[hk2 h];rfl),bd,ER⟩
  ·subst h
   exact⟨(⟨k,bT [],bT [],0⟩,r,false),GI.no (by rw[g2,hI.f];rfl) hrl,bd,ER⟩
 clear hI hrl
 rintro⟨p,r,ok⟩ hI
 refine CS (VC.cq (gE b2 b4) (gH b2 b4) (GI (g3 s) s.length) ?_ ?_)
 ·cases ok with
  | false=>
   refine aK ?_
   refine VG (VY 25 false Z Z ?_)
   refine J6 ?_
   exact⟨(p,r,false),GI.no (by rw[g3,hI.f];rfl) hI.len,bd,ER⟩
  | true=>
   have hrl:r.length≤s.length:=hI.len
   refine aK ?_
   refine VG (VY 25 true Z Z ?_)
   refine eP ?_
   refine VG (VV (fun Fr w hF hw _=>kU Fr w p.kind) Z ?_)
   refine aK ?_
   refine CC Z (fun h=>?_) (fun h=>CK ?_)
   ·obtain⟨a,q,ok,hv,hql,hk1,hk2⟩:=Ei r
    have e:g3 s=(lV r).map fun y=>({ p with value:=bT y.1 },y.2):=by rw[g3,hI.t];exact if_pos h
    refine aK ?_
    refine U8 ?_
    refine aK ?_
    refine VG (VO.st 0 (cs':=e8.cells { p with value:=bT a }) Z Z Z Z (by show 2<4;omega) Z Z ?_)
    refine aK ?_
    exact⟨({ p with value:=bT a },q,ok),GI.mk' yd (fun h=>by rw[e,hk1 h];rfl) (fun h=>by rw[e,hk2 h];rfl),bd,ER⟩
   ·exact⟨(p,r,true),GI.yes (by rw[g3,hI.t];exact if_neg (by rw[show wC p.kind=false from h];decide)) hrl,bd,ER⟩
 clear hI
 clear p r ok
 rintro⟨p,r,ok⟩ hI
 refine CS (VC.cq (gE b2 b4) (gH b2 b4) (GI (g4 s) s.length) ?_ ?_)
 ·cases ok with
  | false=>
   refine aK ?_
   refine VG (VY 38 false Z Z ?_)
   refine J6 ?_
   exact⟨(p,r,false),GI.no (by rw[g4,hI.f];rfl) hI.len,bd,ER⟩
  | true=>
   have hrl:r.length≤s.length:=hI.len
   refine aK ?_
   refine VG (VY 38 true Z Z ?_)
   refine eP ?_
   refine CE Z (fun h=>?_) (fun h=>CK ?_)
   ·obtain⟨k,q,ok,hv,hql,hk1,hk2⟩:=An r
    have e:g4 s=(aW r).map fun y=>({ p with version:=y.1 },y.2):=by rw[g4,hI.t];exact if_pos h
    refine aK ?_
    refine VG (VV (fun Fr w hF hw _=>hv▸nB Fr w r yd) Z ?_)
    refine aK ?_
    refine VG (VO.st 0 (cs':=e8.cells { p with version:=k }) Z Z Z Z (by show 3<4;omega) Z Z ?_)
    refine aK ?_
    exact⟨({ p with version:=k },q,ok),GI.mk' yd (fun h=>by rw[e,hk1 h];rfl) (fun h=>by rw[e,hk2 h];rfl),bd,ER⟩
   ·exact⟨(p,r,true),GI.yes (by rw[g4,hI.t];exact if_neg h) hrl,bd,ER⟩
 clear hI
 clear p r ok
 rintro⟨p,r,ok⟩ hI
 refine aK ?_
 cases ok with
 | false=>
  refine VG (VY 52 true Z Z ?_)
  refine aK ?_
  refine VG (VY 56 true Z Z ?_)
  refine wv ?_
  refine U9 ?_
  refine U_ ?_
  refine aK ?_
  exact CR (ay.aT 2 3 Z Z Z (aE.many (ds:=e8.cells ⟨0,bT [],bT [],0⟩) 1 Z Z) Z ae.nil.ar ⟨by rw[uc,hI.f];rfl,Z⟩)
 | true=>
 refine VG (VY 52 false Z Z ?_)
 refine aK ?_
 by_cases hr:r=[]
 rotate_left
 ·refine VG (VY 56 true Z (by rw[show(ByteArray.mk #[])=bT [] from Z,p7,DF hr];rfl) ?_)
  refine wv ?_
  refine U9 ?_
  refine U_ ?_
  refine aK ?_
  exact CR (ay.aT 2 3 Z Z Z (aE.many (ds:=e8.cells ⟨0,bT [],bT [],0⟩) 1 Z Z) Z ae.nil.ar ⟨by rw[uc,hI.t,ZJ,if_neg (fun h=>hr h.1)];rfl,Z⟩)
 refine VG (VY 56 false Z (by rw[show(ByteArray.mk #[])=bT [] from Z,p7,DT hr];rfl) ?_)
 refine eP ?_
 refine VG (VL 0 p.cells Z Z Z Z ?_)
 refine VG (VV (fun Fr w hF hw _=>Api.bm Fr w p) Z ?_)
 refine aK ?_
 refine VC.bp Z (fun hc=>?_) (fun hc=>CK ?_)
 ·refine aK ?_
  refine U9 ?_
  refine U_ ?_
  refine aK ?_
  exact CR (ay.aT 2 3 Z Z Z (aE.many (ds:=e8.cells ⟨0,bT [],bT [],0⟩) 1 Z Z) Z ae.nil.ar ⟨by rw[uc,hI.t,ZJ,if_neg (fun h=>hc h.2)];rfl,Z⟩)
 refine eP ?_
 refine VG (VL 0 p.cells Z Z Z Z ?_)
 refine VG (VT (vs:=p.cells) (cs':=p.cells) 1 Z Z Z Z (NR _) Z Z Z ?_)
 refine aK ?_
 exact CR (ay.aT 2 3 Z Z Z (aE.many (ds:=p.cells) 1 Z Z) Z ae.nil.ar ⟨by rw[uc,hI.t,ZJ,if_pos ⟨hr,hc⟩];rfl,Z⟩)
end Cl
namespace Cl
open Go Vg T Api Ch
attribute [local irreducible] VO VC VA
theorem SD{c:dL}(h:se c=0):qj c=true:=by
 unfold se at h
 by_cases hc:qj c=true
 ·exact hc
 ·rw[if_neg hc] at h;exact absurd h yp
theorem jl{c:dL}(h:se c=0):1≤c.ms.length∧c.ms.length≤6∧1≤c.al∧c.al≤1099511627776:=by
 have:=SD h
 simp[qj,qi] at this
 omega
def Ck(m:bG):Bs:=fO m.1++fO m.2
theorem Jf(m:bG):(Ck m).length≤18:=by
 have:=bI m.1
 have:=bI m.2
 rw[Ck,Zh];omega
theorem rN:∀ms:List bG,(ms.flatMap Ck).length≤18*ms.length
 | []=>NR _
 | m::ms=>by
  have:=Jf m
  have:=rN ms
  rw[List.flatMap_cons,Zh,Zs];omega
theorem NK{c:dL}(h:se c=0):(VZ c).length≤135:=by
 obtain⟨h1,h2,_⟩:=jl h
 have a:=bI c.al
 have b:=bI (c.ms.length:Int)
 have d:=bI c.drain
 have m:=rN c.ms
 show(fO c.al++fO c.ms.length++c.ms.flatMap Ck++fO c.drain).length≤_
 simp only[Zh];omega
theorem GW{c:dL}{a:Option Addr}{cap:Nat}(h:aI ax 2 Fr w a c.ms)(hl:c.ms.length≤1000000):aH Tryz.prog 227 [.agg (c.cells a cap).toArray] Fr w [] (fun v L=>v=.tuple #[.string (bT (if se c=0 then VZ c else [])),.int .i64 (se c)]∧L=[]):=by
 refine TF 43 Tryz.func227 Z yn ah Z Z ?_
 refine CS (CG (VG (VB (vs:=c.cells a cap) Z fun b=>VG (VN ?_))))
 refine aq ?_
 refine Uw ?_
 refine VG (VV (fun Fr w hF hw _=>Ch.bm Fr w (h.of hF hw) yd) Z ?_)
 refine aq ?_
 refine VC.bp Z (fun h2=>?_) (fun h2=>CK ?_)
 ·refine aq ?_
  exact CR (ay.cU 2 3 Z Z Z ae.nil.ar ⟨by rw[if_neg h2];rfl,Z⟩)
 rw[if_pos h2,h2]
 obtain⟨h3,h4,_⟩:=jl h2
 have l1:=bI c.al
 have l2:=bI (c.ms.length:Int)
 have l3:=bI c.drain
 have l4:=rN c.ms
 refine aq ?_
 refine CD (ts 0 2 (ts 3 3 (.only 2 (.only 6 (ts 7 2 .nil))))) yn yr ?_
 refine eT ?_
 refine AG (AR (fun Fr w hF hs hS=>eO Fr w c.al) Z Z yu ?_)
 refine AG (AR (fun Fr w hF hs hS=>eO Fr w c.ms.length) Z Z yu ?_)
 refine RB ?_
 rw[←gM]
 refine Oy ?_
 refine VC.loop (σ:=Nat) (fun k=>[(1,pV b),(22,.slice a c.ms.length cap),(23,.int .i64 c.ms.length),(24,.int .i64 (k:Int)),(5,.string (bT (fO c.al++fO c.ms.length++(c.ms.take k).flatMap Ck)))]) (fun _=>[pt b (c.cells a cap) kK]) (fun k=>k≤c.ms.length) (fun k=>c.ms.length-k) 0
  (Zj _) (SC rfl (SC rfl (SC rfl (SC rfl (SC WQ (SN _)))))) ER ?_
 rintro k hk
 refine aq ?_
 refine CP (p:=(k:Int)<c.ms.length) Z (fun h5=>CK ?_) (fun h5=>CX ?_)
 ·obtain⟨m,hm⟩:∃m,c.ms[k]?=some m:=⟨_,GE yd⟩
  obtain⟨mb,mo,hma,ra,rc⟩:=aI.rd (X:=⟨Tryz.prog,tab,ah,43,Fr,w⟩) h hm
  subst hma
  have e:(c.ms.take (k+1)).flatMap Ck=(c.ms.take k).flatMap Ck++(fO m.1++fO m.2):=by rw[Zu,hm,List.flatMap_append];simp[Ck]
  have l5:=rN (c.ms.take k)
  rw[Zw] at l5
  have l6:=bI m.1
  have l7:=bI m.2
  refine HA ?_
  refine HG ?_
  refine VG (VO.alloc Z fun b7=>?_)
  refine VG (VT (vs:=ax m) (cs':=ax m) 0 Z Z Z Z (NR _) Z Z Z ?_)
  refine aq ?_
  refine CD (ts 0 3 (ts 4 2 (.only 3 (.only 6 (ts 7 3 .nil))))) yn yr ?_
  refine eT ?_
  refine AG (AR (fun Fr w hF hs hS=>eO Fr w m.1) Z Z yu ?_)
  refine AG (AR (fun Fr w hF hs hS=>eO Fr w m.2) Z Z yu ?_)
  refine RB ?_
  refine AG (AI Z (cm Z Z (by rw[ByteArray.size_append,di,di,di];simp only[Zh];omega)) ?_)
  rw[←gM,←gM]
  refine eT ?_
  refine qO ?_
  refine⟨k+1,by omega,by dsimp only;omega,SC Z (SC Z (SC Z (Sub.int Z yd (SC WV (SN _))))),(IP 1 Z ae.nil).ar⟩
 obtain rfl:k=c.ms.length:=by omega
 rw[ZF]
 refine an ?_
 refine VG (VV (fun Fr w hF hw _=>eO Fr w c.drain) Z ?_)
 refine TP ?_
 rw[←gM]
 refine an ?_
 exact CR (ay.cU 2 3 Z Z Z ae.nil.ar ⟨rfl,Z⟩)
end Cl
namespace Cl
open Go Vg T Api Ch
attribute [local irreducible] VO VC VA
def eD(c:dL):dL×Int:=if cd c≠0 then (ez,2) else (⟨c.al+1,c.ms,c.drain⟩,0)
def SE(r:dL×Int)(v:Value)(L:List HP):Prop:=∃a c,v=.tuple #[.agg (r.1.cells a c).toArray,.int .i64 r.2]∧L=[aJ aG 2 a r.1.ms.length c (flat ax r.1.ms)]
theorem Fq{c:dL}(h:cd c=0):se c=0∧c.al≠1099511627776:=by
 unfold cd at h
 split at h
 ·exact absurd h yp
 ·rename_i k
  exact⟨Classical.byContradiction fun e=>k (.inl e),fun e=>k (.inr e)⟩
section
variable {c:dL} {a:Option Addr} {cap:Nat}
theorem Ao(h:aI ax 2 Fr w a c.ms)(hl:c.ms.length≤1000000):aH Tryz.prog 201 [.agg (c.cells a cap).toArray] Fr w [] (SE (eD c)):=by
 refine TF 22 Tryz.func201 Z yn ah Z Z ?_
 refine CS (CG (VG (VB (vs:=c.cells a cap) Z fun b=>VG (VO.alloc Z fun b2=>?_))))
 refine aq ?_
 refine O5 ?_
 refine VG (VV (fun Fr w hF hw _=>Ch.bm Fr w (h.of hF hw) yd) Z ?_)
 refine aK ?_
 have bad:∀{X:Cx} {E:Env} {fn:Func} {ti:TI} {L:List HP},fn.results=#[.cell 2 kK,.tmp 3]→Vg.look E 2=some (.pointer (some ⟨b2,0,none⟩))→Vg.look E 3=some (.int .i64 2)→aM X.tab kK=some ti→ti.aU.agg=true→ti.size=3→cd c≠0→ay X fn (SE (eD c)) E (pt b2 (ez.cells none 0) kK::L):=fun h1 h2 h3 h4 h5 h6 h7=>
  ay.aT 2 3 h1 h2 h4 (aE.many (ds:=ez.cells none 0) 0 rfl (by rw[h6];rfl) (by rw[h6];rfl) h5) h3 (ae.bY ae.nil).ar (by rw[eD,if_pos h7];exact⟨none,0,rfl,rfl⟩)
 by_cases h1:se c=0
 rotate_left
 ·have hf:cd c≠0:=by rw[cd,if_pos (.inl h1)];decide
  refine VG (VY 7 true Z (by rw[bne_iff_ne];exact h1) ?_)
  refine wv ?_
  refine X3 ?_
  refine X4 ?_
  refine aK ?_
  exact CR (bad Z Z Z Z Z Z hf)
 obtain⟨g1,g2,g3,g4⟩:=jl h1
 refine VG (VY 7 false Z (by rw[bne_eq_false_iff_eq];exact h1) ?_)
 refine wu ?_
 refine CE Z (fun h2=>?_) (fun h2=>CK ?_)
 ·have hf:cd c≠0:=by rw[cd,if_pos (.inr h2)];decide
  refine Ko ?_
  refine X4 ?_
  refine aK ?_
  exact CR (bad Z Z Z Z Z Z hf)
 have hf:cd c=0:=by rw[cd,if_neg (by simp[h1,h2])]
 refine aK ?_
 refine CD (ts 0 5 (ts 6 2 (.only 5 (.take 8 (.only 9 (.take 10 .nil)))))) yn yr ?_
 refine qe ?_
 refine HI ?_
 refine qe ?_
 refine AG (AO (OC (Lc:=[]) (Lr:=[pt b2 (ez.cells none 0) kK,pt b (c.cells a cap) kK]) rfl (.refl _) (fun Fr w hF hs hS=>Cg Fr w (h.of hF hs) hl)) rfl (fun v L' g=>by obtain⟨_,⟨_,_,rfl,rfl⟩,rfl⟩:=g;exact Dg) ?_)
 rintro _ _ ⟨_,⟨ma,mc,rfl,rfl⟩,rfl⟩
 refine AG (AI Z (LB (pv:=[(0,.int .i64 (c.al+1)),(1,.slice ma c.ms.length mc),(2,.int .i64 c.drain)]) ((dL.mk (c.al+1) c.ms c.drain).cells ma mc) Z Z Z yn Z) ?_)
 refine AG (AT (vs:=(dL.mk (c.al+1) c.ms c.drain).cells ma mc) (cs':=(dL.mk (c.al+1) c.ms c.drain).cells ma mc) 1 Z Z Z Z Z (NR _) Z Z Z yu ?_)
 refine ji ?_
 exact CR (ay.aT 2 3 Z Z Z (aE.many (ds:=(dL.mk (c.al+1) c.ms c.drain).cells ma mc) 1 Z Z) Z (L':=[aJ aG 2 ma c.ms.length mc (flat ax c.ms)]) (IP 0 Z ae.nil).ar (by rw[eD,if_neg Tg];exact⟨ma,mc,Z,Z⟩))
theorem Ap(h:aI ax 2 Fr w a c.ms)(hl:c.ms.length≤1000000)(n:Int):aH Tryz.prog 202 [.agg (c.cells a cap).toArray,.int .i64 n] Fr w []
  (fun v L=>v=.tuple #[.int .i64 (if de c n≠0 then 0 else placeOf c.ms n),.int .i64 (de c n)]∧L=[]):=by
 refine TF 19 Tryz.func202 Z yn ah Z Z ?_
 refine CS (CG (VG (VB (vs:=c.cells a cap) Z fun b=>?_)))
 refine aq ?_
 refine Uw ?_
 refine Rp ?_
 rintro _ _ ⟨pb,rfl,rfl⟩
 refine aq ?_
 refine Tp ?_
 refine aq ?_
 refine CP Z (fun h1=>?_) (fun h1=>?_)
 ·refine aq ?_
  exact CR (ay.cU 4 5 Z Z Z ae.nil.ar ⟨by rw[de,if_pos h1];rfl,Z⟩)
 refine aq ?_
 refine QZ ?_
 refine aq ?_
 refine CE Z (fun h2=>?_) (fun h2=>CK ?_)
 ·have h2:c.ms.length=1:=by omega
  refine aq ?_
  exact CR (ay.cU 4 5 Z Z Z ae.nil.ar ⟨by rw[de,if_neg h1,if_pos h2];rfl,Z⟩)
 have h2:¬c.ms.length=1:=by omega
 refine aq ?_
 exact CR (ay.cU 4 5 Z Z Z ae.nil.ar ⟨by rw[de,if_neg h1,if_neg h2];rfl,Z⟩)
end
end Cl
namespace Cl
open Go Vg T Api Ch
attribute [local irreducible] VO VC VA
def Wc(ep:Int)(a:Value)(dr:Int):List Value:=[.int .i64 ep,a,.int .i64 dr]
section
variable {c:dL} {a:Option Addr} {cap:Nat}
theorem GX(h:aI ax 2 Fr w a c.ms)(hl:c.ms.length≤1000000)(n:Int):aH Tryz.prog 188 [.agg (c.cells a cap).toArray,.int .i64 n] Fr w [] (SE (fJ c n)):=by
 have hpl:=gn c.ms n
 refine TF 38 Tryz.func188 Z yn ah Z Z ?_
 refine CS (CG (VG (VB (vs:=c.cells a cap) Z fun b=>VG (VO.alloc Z fun b4=>?_))))
 refine aq ?_
 refine O5 ?_
 refine U' ?_
 rintro _ _ ⟨ma,mc,rfl,rfl⟩
 by_cases hf:cd c=0
 rotate_left
 ·have hf2:eD c=(ez,2):=by rw[eD,if_pos hf]
  rw[hf2]
  refine aK ?_
  refine Va ?_
  refine aK ?_
  refine VC.bp Z (fun _=>?_) (fun e=>absurd e yp)
  refine Ko ?_
  refine aK ?_
  refine Pg ?_
  exact CR (ay.aT 4 5 Z Z Z (aE.many (ds:=ez.cells none 0) 1 Z Z) Z (L':=[aJ aG 2 none 0 0 (flat ax [])]) (ae.bY ae.nil).ar (by rw[fJ,if_pos hf];exact⟨none,0,Z,Z⟩))
 have hf2:eD c=(⟨c.al+1,c.ms,c.drain⟩,0):=by rw[eD,if_neg Tg]
 obtain⟨hce,hep⟩:=Fq hf
 obtain⟨g1,g2,g3,g4⟩:=jl hce
 have hM:¬cd c≠0:=by rw[hf];decide
 rw[hf2]
 refine aK ?_
 refine Vb ?_
 refine aK ?_
 refine VC.bp Z (fun e=>absurd Z e) (fun _=>?_)
 refine aK ?_
 refine VG (VV (fun Fr w hF hw _=>Ch.xi Fr w n) Z ?_)
 refine aK ?_
 refine VC.dT Z (fun h2=>?_) (fun h2=>?_)
 ·refine Ko ?_
  refine Pg ?_
  exact CR (ay.aT 4 5 Z Z Z (aE.many (ds:=ez.cells none 0) 1 Z Z) Z (L':=[aJ aG 2 none 0 0 (flat ax [])]) (ae.bY ae.nil).ar (by rw[fJ,if_neg hM,if_pos h2];exact⟨none,0,Z,Z⟩))
 refine VE ?_
 refine Rp ?_
 rintro _ _ ⟨pb,rfl,rfl⟩
 refine aK ?_
 refine Tp ?_
 refine aK ?_
 refine CP (p:=0≤placeOf c.ms n) Z (fun h3=>?_) (fun h3=>CK ?_)
 ·refine Ko ?_
  refine VG (VT (vs:=ez.cells none 0) (cs':=ez.cells none 0) 2 Z Z Z Z (NR _) Z Z Z ?_)
  refine aK ?_
  exact CR (ay.aT 4 5 Z Z Z (aE.many (ds:=ez.cells none 0) 2 Z Z) Z (L':=[aJ aG 2 none 0 0 (flat ax [])]) (ae.bY ae.nil).ar (by rw[fJ,if_neg hM,if_neg (by rw[h2];decide),if_pos h3];exact⟨none,0,Z,Z⟩))
 refine pP ?_
 refine VG (VI (LB (pv:=[(0,.int .i64 n),(1,.int .i64 (c.al+1))]) (ax (n,c.al+1)) Z Z Z yn Z) ?_)
 refine VG (VO.buildSlice (pv:=[(0,.agg (ax (n,c.al+1)).toArray)]) (ax (n,c.al+1)) Z Z Z Z yp (bM Z Z Z) fun sb=>?_)
 refine VG (VO.append (m:=1) (news:=ax (n,c.al+1)) 2 Z Z Z Z Z Z Z (dq.pt 0 Z Z Z) Z (by show(c.ms.length+1)*16≤_;omega) (by show c.ms.length+1≤_;omega) fun a2 c2 hc2=>?_)
 have hlen:(c.ms ++ [(n,c.al+1)]).length=c.ms.length+1:=by simp
 have hcc:Wc (c.al+1) (.slice a2 (c.ms.length+1) c2) c.drain=(dL.mk (c.al+1) (c.ms ++ [(n,c.al+1)]) c.drain).cells a2 c2:=by unfold Wc dL.cells;rw[hlen]
 refine aK ?_
 refine VG (VO.st 3 (cs':=Wc (c.al+1) (.slice a2 (c.ms.length+1) c2) c.drain) Z Z Z Z Om Z Z ?_)
 rw[hcc]
 refine aK ?_
 refine VG (VL 3 ((dL.mk (c.al+1) (c.ms ++ [(n,c.al+1)]) c.drain).cells a2 c2) Z Z Z Z ?_)
 refine VG (VT (vs:=(dL.mk (c.al+1) (c.ms ++ [(n,c.al+1)]) c.drain).cells a2 c2) (cs':=(dL.mk (c.al+1) (c.ms ++ [(n,c.al+1)]) c.drain).cells a2 c2) 3 Z Z Z Z (NR _) Z Z Z ?_)
 refine aK ?_
 have hW:fJ c n=(⟨c.al+1,c.ms ++ [(n,c.al+1)],c.drain⟩,0):=by rw[fJ,if_neg hM,if_neg (by rw[h2];decide),if_neg h3]
 exact CR (ay.aT 4 5 Z Z Z (aE.many (ds:=(dL.mk (c.al+1) (c.ms ++ [(n,c.al+1)]) c.drain).cells a2 c2) 3 Z Z) Z (L':=[aJ aG 2 a2 (c.ms ++ [(n,c.al+1)]).length c2 (flat ax (c.ms ++ [(n,c.al+1)]))]) (by rw[hlen,bf];exact(IP 0 Z ae.nil).ar) W4)
theorem Aq(h:aI ax 2 Fr w a c.ms)(hl:c.ms.length≤1000000)(n:Int):aH Tryz.prog 180 [.agg (c.cells a cap).toArray,.int .i64 n] Fr w [] (SE (dJ c n)):=by
 have hpl:=gn c.ms n
 refine TF 39 Tryz.func180 Z yn ah Z Z ?_
 refine CS (CG (VG (VB (vs:=c.cells a cap) Z fun b=>VG (VO.alloc Z fun b4=>?_))))
 refine aq ?_
 refine O5 ?_
 refine U' ?_
 rintro _ _ ⟨ma,mc,rfl,rfl⟩
 by_cases hf:cd c=0
 rotate_left
 ·have hf2:eD c=(ez,2):=by rw[eD,if_pos hf]
  rw[hf2]
  refine aK ?_
  refine Va ?_
  refine aK ?_
  refine VC.bp Z (fun _=>?_) (fun e=>absurd e yp)
  refine Ko ?_
  refine aK ?_
  refine Pg ?_
  exact CR (ay.aT 4 5 Z Z Z (aE.many (ds:=ez.cells none 0) 1 Z Z) Z (L':=[aJ aG 2 none 0 0 (flat ax [])]) (ae.bY ae.nil).ar (by rw[dJ,if_pos hf];exact⟨none,0,Z,Z⟩))
 have hf2:eD c=(⟨c.al+1,c.ms,c.drain⟩,0):=by rw[eD,if_neg Tg]
 obtain⟨hce,hep⟩:=Fq hf
 obtain⟨g1,g2,g3,g4⟩:=jl hce
 have hM:¬cd c≠0:=by rw[hf];decide
 rw[hf2]
 refine aK ?_
 refine Vb ?_
 refine aK ?_
 refine VC.bp Z (fun e=>absurd Z e) (fun _=>CK ?_)
 refine VE ?_
 refine X5 ?_
 by_cases hlv:de c n=0
 rotate_left
 ·rw[if_pos hlv]
  refine aK ?_
  refine VC.bp Z (fun _=>?_) (fun e=>absurd e hlv)
  refine Ko ?_
  refine aK ?_
  refine Pg ?_
  exact CR (ay.aT 4 5 Z Z Z (aE.many (ds:=ez.cells none 0) 1 Z Z) Z (L':=[aJ aG 2 none 0 0 (flat ax [])]) (ae.bY ae.nil).ar (by rw[dJ,if_neg hM,if_pos hlv];exact⟨none,0,Z,Z⟩))
 have hpp:¬placeOf c.ms n<0∧¬c.ms.length=1:=by
  unfold de at hlv
  by_cases p:placeOf c.ms n<0
  ·rw[if_pos p] at hlv;exact absurd hlv yp
  ·refine⟨p,fun e=>?_⟩
   rw[if_neg p,if_pos e] at hlv;exact absurd hlv yp
 obtain⟨i,hi,hil⟩:∃i:Nat,placeOf c.ms n=i∧i<c.ms.length:=by
  rcases hpl with e | ⟨i,m,e,h2,_⟩
  ·omega
  ·exact⟨i,e,h2⟩
 rw[if_neg Rm,hi]
 refine aK ?_
 refine VC.bp Z (fun e=>absurd hlv e) (fun _=>CK ?_)
 refine wu ?_
 refine JY ?_
 refine VG (VK (Lc:=[aJ aG 2 ma c.ms.length mc (flat ax c.ms)]) (fun Fr w hF hw _=>Ah Fr w (l:=c.ms) hil yd) Z Z ?_)
 rintro _ _ ⟨a2,c2,rfl,rfl⟩
 refine aK ?_
 refine VG (VO.st 1 (cs':=(dL.mk (c.al+1) (c.ms.eraseIdx i) c.drain).cells a2 c2) Z Z Z Z Om Z Z (VG (VN ?_)))
 refine CS (VC.cq (σ:=Int) (fun d=>[(4,pV b4)]) (fun d=>[aJ aG 2 a2 (c.ms.eraseIdx i).length c2 (flat ax (c.ms.eraseIdx i)),pt b4 ((dL.mk (c.al+1) (c.ms.eraseIdx i) d).cells a2 c2) kK]) (fun d=>d=if c.drain=n then -1 else c.drain) ?_ ?_)
 ·refine wu ?_
  refine CE Z (fun h5=>?_) (fun h5=>CK ?_)
  ·refine aK ?_
   refine VG (VO.st 1 (cs':=(dL.mk (c.al+1) (c.ms.eraseIdx i) (-1)).cells a2 c2) Z Z Z Z Td Z Z ?_)
   refine aK ?_
   exact⟨-1,by rw[if_pos h5],bd,(dG [0,0]).ar⟩
  ·exact⟨c.drain,by rw[if_neg h5],bd,(dG [0,0]).ar⟩
 rintro d hd
 have hW:dJ c n=(⟨c.al+1,c.ms.eraseIdx i,d⟩,0):=by rw[dJ,if_neg hM,if_neg Rm,hi,hd];rfl
 refine aK ?_
 refine VG (VL 1 ((dL.mk (c.al+1) (c.ms.eraseIdx i) d).cells a2 c2) Z Z Z Z ?_)
 refine VG (VT (vs:=(dL.mk (c.al+1) (c.ms.eraseIdx i) d).cells a2 c2) (cs':=(dL.mk (c.al+1) (c.ms.eraseIdx i) d).cells a2 c2) 1 Z Z Z Z (NR _) Z Z Z ?_)
 refine aK ?_
 exact CR (ay.aT 4 5 Z Z Z (aE.many (ds:=(dL.mk (c.al+1) (c.ms.eraseIdx i) d).cells a2 c2) 1 Z Z) Z (L':=[aJ aG 2 a2 (c.ms.eraseIdx i).length c2 (flat ax (c.ms.eraseIdx i))]) (IP 0 Z ae.nil).ar W4)
theorem Ej(h:aI ax 2 Fr w a c.ms)(hl:c.ms.length≤1000000)(n:Int):aH Tryz.prog 120 [.agg (c.cells a cap).toArray,.int .i64 n] Fr w [] (SE (fj c n)):=by
 have hpl:=gn c.ms n
 refine TF 32 Tryz.func120 Z yn ah Z Z ?_
 refine CS (CG (VG (VB (vs:=c.cells a cap) Z fun b=>VG (VO.alloc Z fun b4=>?_))))
 refine aq ?_
 refine O5 ?_
 refine U' ?_
 rintro _ _ ⟨ma,mc,rfl,rfl⟩
 by_cases hf:cd c=0
 rotate_left
 ·have hf2:eD c=(ez,2):=by rw[eD,if_pos hf]
  rw[hf2]
  refine aK ?_
  refine Va ?_
  refine aK ?_
  refine VC.bp Z (fun _=>?_) (fun e=>absurd e yp)
  refine Ko ?_
  refine aK ?_
  refine Pg ?_
  exact CR (ay.aT 4 5 Z Z Z (aE.many (ds:=ez.cells none 0) 1 Z Z) Z (L':=[aJ aG 2 none 0 0 (flat ax [])]) (ae.bY ae.nil).ar (by rw[fj,if_pos hf];exact⟨none,0,Z,Z⟩))
 have hf2:eD c=(⟨c.al+1,c.ms,c.drain⟩,0):=by rw[eD,if_neg Tg]
 obtain⟨hce,hep⟩:=Fq hf
 obtain⟨g1,g2,g3,g4⟩:=jl hce
 have hM:¬cd c≠0:=by rw[hf];decide
 rw[hf2]
 refine aK ?_
 refine Vb ?_
 refine aK ?_
 refine VC.bp Z (fun e=>absurd Z e) (fun _=>CK ?_)
 refine VE ?_
 refine X5 ?_
 by_cases hlv:de c n=0
 rotate_left
 ·rw[if_pos hlv]
  refine aK ?_
  refine VC.bp Z (fun _=>?_) (fun e=>absurd e hlv)
  refine Ko ?_
  refine aK ?_
  refine Pg ?_
  exact CR (ay.aT 4 5 Z Z Z (aE.many (ds:=ez.cells none 0) 1 Z Z) Z (L':=[aJ aG 2 none 0 0 (flat ax [])]) (ae.bY ae.nil).ar (by rw[fj,if_neg hM,if_pos hlv];exact⟨none,0,Z,Z⟩))
 rw[if_neg Rm]
 refine aK ?_
 refine VC.bp Z (fun e=>absurd hlv e) (fun _=>CK ?_)
 refine aK ?_
 refine VG (VO.ld 2 Z Z Z Z ?_)
 refine aK ?_
 refine VC.bp Z (fun h5=>?_) (fun h5=>CK ?_)
 ·refine Ko ?_
  refine Pg ?_
  exact CR (ay.aT 4 5 Z Z Z (aE.many (ds:=ez.cells none 0) 1 Z Z) Z (L':=[aJ aG 2 none 0 0 (flat ax [])]) (ae.bY ae.nil).ar (by rw[fj,if_neg hM,if_neg Rm,if_pos h5];exact⟨none,0,Z,Z⟩))
 have hW:fj c n=(⟨c.al+1,c.ms,n⟩,0):=by rw[fj,if_neg hM,if_neg Rm,if_neg yd]
 refine aK ?_
 refine VG (VO.st 1 (cs':=(dL.mk (c.al+1) c.ms n).cells ma mc) Z Z Z Z Td Z Z ?_)
 refine aK ?_
 refine VG (VL 1 ((dL.mk (c.al+1) c.ms n).cells ma mc) Z Z Z Z ?_)
 refine VG (VT (vs:=(dL.mk (c.al+1) c.ms n).cells ma mc) (cs':=(dL.mk (c.al+1) c.ms n).cells ma mc) 1 Z Z Z Z (NR _) Z Z Z ?_)
 refine aK ?_
 exact CR (ay.aT 4 5 Z Z Z (aE.many (ds:=(dL.mk (c.al+1) c.ms n).cells ma mc) 1 Z Z) Z (L':=[aJ aG 2 ma c.ms.length mc (flat ax c.ms)]) (IP 0 Z ae.nil).ar (by rw[hW];exact⟨ma,mc,Z,Z⟩))
end
end Cl
namespace Cl
open Go Vg T Api Ch Rep
attribute [local irreducible] VO VC VA
abbrev qG:TypeId:=111
def mz(m:aC):List Value:=m.heard.map (Value.int .i64)
def tS(m:aC):List Value:=m.whole.map Value.bool
def bR(m:aC)(a:Option Addr)(c:Nat):List Value:=[.int .i64 m.nodes,.int .i64 m.bt]++m.ch.cells a c++mz m++tS m
structure aC.Ok(m:aC):Prop where
 n0:1≤m.nodes
 n1:m.nodes≤6
 p0:0≤m.bt
 p1:m.bt≤1000000
 ml:m.ch.ms.length≤7
 mr:∀x∈m.ch.ms,0≤x.1∧x.1<6
 hl:m.heard.length=6
 wl:m.whole.length=6
 hr:∀x∈m.heard,0≤x∧x≤1099511627776
abbrev rO:=nY×(Option Addr×Nat)
def jI(x:rO):List Value:=.int .i64 x.1.1::x.1.2.1.cells (x.2.1,x.1.2.2.length,x.2.2)
theorem ud(x:rO):(jI x).length=30:=rfl
def jX(x:rO):HP:=aJ aG 2 x.2.1 x.1.2.2.length x.2.2 (flat ax x.1.2.2)
def kG(S:List nY)(v:Value)(L:List HP)(H:List HP):Prop:=∃(X:List rO) (a:Option Addr) (c:Nat),X.map Prod.fst=S∧v=.slice a X.length c∧L=H++(aJ iv 30 a X.length c (flat jI X)::X.map jX)
theorem rP{c:dL}{a:Option Addr}{cap:Nat}(h:aI ax 2 Fr w a c.ms)(hl:c.ms.length≤1000000):aH Tryz.prog 108 [.agg (c.cells a cap).toArray] Fr w []
  (fun v L=>∃a' c',v=.agg (c.cells a' c').toArray∧L=[aJ aG 2 a' c.ms.length c' (flat ax c.ms)]):=by
 refine TF 8 Tryz.func108 Z yn ah Z Z ?_
 refine CS (CG (VG (VB (vs:=c.cells a cap) Z (fun b=>VG (VO.alloc Z fun d=>VG (VN ?_))))))
 refine jA ?_
 refine XI ?_
 refine VG (VO.append (m:=c.ms.length) (news:=flat ax c.ms) 0 Z Z Z Z Z Z Z (aI.row aF h) (gQ kr _) WY yd fun a' c' _=>?_)
 rw[Zl,ZI]
 refine an ?_
 refine VG (VO.st 2 (cs':=c.cells a' c') Z Z Z Z Om Z Z (VG (VN ?_)))
 refine CS (CG (VG (VL 2 (c.cells a' c') Z Z Z Z (VG (VT (vs:=c.cells a' c') (cs':=c.cells a' c') 1 Z Z Z Z (NR _) Z Z Z (VG (VN ?_)))))))
 exact UT
theorem nC(n:Int):aH Tryz.prog 107 [.int .i64 n] Fr w [] (fun v L=>v=.int .i64 (cu n)∧L=[]):=by
 refine TF 6 Tryz.func107 Z yn ah Z Z ?_
 refine aq ?_
 exact CR (ay.int 2 Z Z WU ER ⟨rfl,Z⟩)
section
variable {p:Nat} {M:aC} {a:Option Addr} {c:Nat}
theorem vA(ok:M.Ok)(h:eQ Fr w p (bR M a c)):aH Tryz.prog 106 [.pointer (some ⟨p,0,none⟩)] Fr w [] (fun v L=>v=.bool true∧L=[]):=by
 have:=ok.n0
 refine TF 12 Tryz.func106 Z yn ah Z Z ?_
 refine T9 ?_
 refine yS ?_
 exact CR (ay.bool (b:=true) 2 Z Z (DT yd) ER ⟨rfl,Z⟩)
theorem rQ(h:eQ Fr w p (bR M a c))(n:Int):aH Tryz.prog 187 [.pointer (some ⟨p,0,none⟩),.int .i64 n] Fr w [] (fun v L=>v=.bool (M.isNode n)∧L=[]):=by
 refine TF 15 Tryz.func187 Z yn ah Z Z ?_
 refine aK ?_
 by_cases h1:0≤n
 ·refine VG (VY 7 true Z (DT h1) ?_)
  refine yS ?_
  exact CR (ay.bool 4 Z Z (by rw[aC.isNode,DT h1];rfl) ER ⟨rfl,Z⟩)
 ·refine VG (VY 7 false Z (DF h1) ?_)
  refine aK ?_
  exact CR (ay.bool 4 Z Z (by rw[aC.isNode,DF h1];rfl) ER ⟨rfl,Z⟩)
theorem Qu:((bR M a c).drop 2).take 3=M.ch.cells a c:=rfl
theorem rR(ok:M.Ok)(h:eQ Fr w p (bR M a c))(hm:aI ax 2 Fr w a M.ch.ms)(n:Int):aH Tryz.prog 116 [.pointer (some ⟨p,0,none⟩),.int .i64 n] Fr w [] (fun v L=>v=.bool (a6 M.ch n).2∧L=[]):=by
 have hl:=ok.ml
 refine TF 17 Tryz.func116 Z yn ah Z Z ?_
 refine aK ?_
 refine Vc ?_
 refine aK ?_
 refine VG (VV (fun Fr w hF hw _=>ql Fr w (hm.of hF hw) yd n) Z ?_)
 refine aK ?_
 exact O9
theorem nD(ok:M.Ok)(h:eQ Fr w p (bR M a c))(hm:aI ax 2 Fr w a M.ch.ms)(toQ:Int):aH Tryz.prog 181 [.pointer (some ⟨p,0,none⟩),.int .i64 toQ] Fr w []
  (fun v L=>∃g,v=.agg (jI (jR M.ch toQ,g)).toArray∧L=[jX (jR M.ch toQ,g)]):=by
 have hl:=ok.ml
 refine TF 13 Tryz.func181 Z yn ah Z Z ?_
 refine CS (CG (VG (VO.alloc Z fun d=>?_)))
 refine aK ?_
 refine Vc ?_
 refine X6 ?_
 rintro _ _ ⟨ma,mc,rfl,rfl⟩
 refine VG (VI (LB (pv:=[(0,.int .i64 8),(11,.agg (M.ch.cells ma mc).toArray)]) ((oQ M.ch).cells (ma,M.ch.ms.length,mc)) Z Z Z yn Z) ?_)
 refine VG (VI (LB (pv:=[(0,.int .i64 toQ),(1,.agg ((oQ M.ch).cells (ma,M.ch.ms.length,mc)).toArray)]) (jI (jR M.ch toQ,(ma,mc))) Z Z Z yn Z) ?_)
 refine VG (VT (vs:=jI (jR M.ch toQ,(ma,mc))) (cs':=jI (jR M.ch toQ,(ma,mc))) 1 Z Z Z Z (NR _) Z Z Z ?_)
 refine aK ?_
 exact CR (ay.cell 4 Z Z Z (aE.many 1 Z Z) (IP 0 Z ae.nil).ar ⟨(ma,mc),Z,Z⟩)
theorem nE(ok:M.Ok):(bR M a c).length=17:=by
 show(_::_::_::_::_::(mz M++tS M)).length=17
 simp[mz,tS,ok.hl,ok.wl]
theorem NL(ok:M.Ok){k:Nat}{b:Bool}(h:M.whole[k]?=some b):(bR M a c)[11+k]?=some (.bool b):=by
 have hh:(mz M).length=6:=by simp[mz,ok.hl]
 show(_::_::_::_::_::(mz M++tS M))[11+k]?=_
 rw[show 11+k=(6+k)+1+1+1+1+1 from by omega]
 simp only[Z']
 rw[List.getElem?_append_right yd,hh,show 6+k-6=k from by omega,tS,Zn,h];rfl
theorem Fs(ok:M.Ok){k:Nat}{b:Int}(h:M.heard[k]?=some b):(bR M a c)[5+k]?=some (.int .i64 b):=by
 have hk:=(Zk.1 h).1
 rw[ok.hl] at hk
 have hh:(mz M).length=6:=by simp[mz,ok.hl]
 show(_::_::_::_::_::(mz M++tS M))[5+k]?=_
 rw[show 5+k=k+1+1+1+1+1 from by omega]
 simp only[Z']
 rw[List.getElem?_append_left yd,mz,Zn,h];rfl
theorem nF(ok:M.Ok){k:Nat}(hk:k<6)(b:Bool):(bR M a c).set (11+k) (.bool b)=bR { M with whole:=M.whole.set k b } a c:=by
 have hh:(mz M).length=6:=by simp[mz,ok.hl]
 show(_::_::_::_::_::(mz M++tS M)).set (11+k) _=_::_::_::_::_::(mz M++tS { M with whole:=M.whole.set k b })
 rw[show 11+k=(6+k)+1+1+1+1+1 from by omega]
 simp only[List.set_cons_succ]
 rw[List.set_append_right _ _ yd,hh,show 6+k-6=k from by omega,tS,tS,ZE]
theorem vB(ok:M.Ok){k:Nat}(hk:k<6)(b:Int):(bR M a c).set (5+k) (.int .i64 b)=bR { M with heard:=M.heard.set k b } a c:=by
 have hh:(mz M).length=6:=by simp[mz,ok.hl]
 show(_::_::_::_::_::(mz M++tS M)).set (5+k) _=_::_::_::_::_::(mz { M with heard:=M.heard.set k b } ++ tS M)
 rw[show 5+k=k+1+1+1+1+1 from by omega]
 simp only[List.set_cons_succ]
 rw[List.set_append_left _ _ yd,mz,mz,ZE]
theorem aC.Ok.Ft(ok:M.Ok){n:Int}(h:0≤n∧n<6):∃k:Nat,n=k∧k<6∧M.whole[k]?=some (M.qB n):=by
 obtain⟨k,rfl⟩:∃k:Nat,n=k:=⟨n.toNat,by omega⟩
 refine⟨k,Z,by omega,?_⟩
 have hk:k<M.whole.length:=by rw[ok.wl];omega
 unfold aC.qB
 rw[Zp,GE hk];rfl
theorem aC.Ok.SF(ok:M.Ok){n:Int}(h:0≤n∧n<6):∃k:Nat,n=k∧k<6∧M.heard[k]?=some (M.lL n)∧0≤M.lL n∧M.lL n≤1099511627776:=by
 obtain⟨k,rfl⟩:∃k:Nat,n=k:=⟨n.toNat,by omega⟩
 have hk:k<M.heard.length:=by rw[ok.hl];omega
 have e:M.heard[k]?=some (M.lL (k:Int)):=by
  unfold aC.lL
  rw[Zp,GE hk];rfl
 exact⟨k,Z,by omega,e,ok.hr _ (ME e)⟩
theorem o9(ok:M.Ok)(h:eQ Fr w p (bR M a c))(hm:aI ax 2 Fr w a M.ch.ms)(n:Int):aH Tryz.prog 109 [.pointer (some ⟨p,0,none⟩),.int .i64 n] Fr w [] (fun v L=>v=.bool (M.lg n)∧L=[]):=by
 have hl:=ok.ml
 refine TF 31 Tryz.func109 Z yn ah Z Z ?_
 refine EW ?_
 refine VC.loop (σ:=Nat) (fun k=>[(0,pV p),(1,.int .i64 n),(11,.slice a M.ch.ms.length c),(12,.int .i64 M.ch.ms.length),(13,.int .i64 (k:Int))]) (fun _=>[]) (fun k=>k≤M.ch.ms.length∧(M.ch.ms.take k).any (fun x=>!decide (x.1=n)&&M.qB x.1)=false) (fun k=>M.ch.ms.length-k) 0
  ⟨Zj _,by rw[Z0];rfl⟩ bd ER ?_
 rintro k ⟨hk,hno⟩
 refine aq ?_
 refine CP (p:=(k:Int)<M.ch.ms.length) Z (fun h1=>CK ?_) (fun h1=>CX ?_)
 rotate_left
 ·rw[Z3 yd] at hno
  refine aq ?_
  exact CR (ay.tmp 4 Z Z ae.nil.ar ⟨by rw[aC.lg,hno],Z⟩)
 obtain⟨x,hx⟩:∃x,M.ch.ms[k]?=some x:=⟨_,GE yd⟩
 obtain⟨xb,xo,hxa,ra,rc⟩:=aI.rd (X:=⟨Tryz.prog,tab,ah,31,Fr,w⟩) hm hx
 subst hxa
 obtain⟨j,hj,hj6,hw⟩:=ok.Ft (ok.mr x (ME hx))
 have next:(!decide (x.1=n)&&M.qB x.1)=false→(M.ch.ms.take (k+1)).any (fun x=>!decide (x.1=n)&&M.qB x.1)=false:=fun e=>by
  rw[Zu,hx,List.any_append,hno];simpa using e
 refine HA ?_
 refine HG ?_
 refine VG (VO.alloc Z fun b6=>?_)
 refine VG (VT (vs:=ax x) (cs':=ax x) 0 Z Z Z Z (NR _) Z Z Z ?_)
 refine aq ?_
 refine CD (ts 0 13 .nil) yn yr ?_
 refine lS ?_
 by_cases h2:x.1=n
 ·refine AG (AY 21 false Z (by rw[bne_eq_false_iff_eq];exact h2) ?_)
  refine lS ?_
  refine r_ ?_
  refine qO ?_
  exact⟨k+1,⟨by omega,next (by rw[DT h2];rfl)⟩,by dsimp only;omega,SC Z (SC Z (SC Z (SC Z (Sub.int Z yd (SN _))))),ae.nil.ar⟩
 refine AG (AY 21 true Z (by rw[bne_iff_ne];exact h2) ?_)
 refine lS ?_
 refine AG (AI Z (bS j Z Z Z Z Z hj yd) ?_)
 refine AG (VA.load Z Z Z (aE.aP h (v:=.bool (M.qB x.1)) (by show(bR M _ c)[11+j*1]?=_;rw[Nat.mul_one];exact NL ok hw)) ?_)
 refine lS ?_
 refine CC Z (fun h3=>?_) (fun h3=>CK ?_)
 ·refine aq ?_
  refine CR (ay.tmp 4 Z Z ae.nil.ar ⟨?_,Z⟩)
  have:M.lg n=true:=by
   rw[aC.lg,List.any_eq_true]
   exact⟨x,ME hx,by rw[DF h2,h3];rfl⟩
  rw[this]
 refine qO ?_
 exact⟨k+1,⟨by omega,next (by rw[h3,ZU])⟩,by dsimp only;omega,SC Z (SC Z (SC Z (SC Z (Sub.int Z yd (SN _))))),ae.nil.ar⟩
theorem ki{n k b M:Nat}(h:n≤k)(hk:k*b≤M):n*b≤M:=ZQ (Nat.mul_le_mul_right b h) hk
theorem ae.last{H:HP}{L:List HP}:ae (H::L) (L ++ [H]):=ae.perm (by simpa using(ZM (l₁:=[H]) (l₂:=L)))
theorem mA(ok:M.Ok)(h:eQ Fr w p (bR M a c))(hm:aI ax 2 Fr w a M.ch.ms):aH Tryz.prog 111 [.pointer (some ⟨p,0,none⟩)] Fr w [] (fun v L=>kG M.all v L []):=by
 have hn0:=ok.n0
 have hn1:=ok.n1
 refine TF 20 Tryz.func111 Z yn ah Z Z ?_
 refine aq ?_
 refine VC.loop (σ:=List rO×Option Addr×Nat) (fun x=>[(0,pV p),(3,.slice x.2.1 x.1.length x.2.2),(4,.int .i64 x.1.length)]) (fun x=>aJ iv 30 x.2.1 x.1.length x.2.2 (flat jI x.1)::x.1.map jX) (fun x=>x.1.length≤M.nodes.toNat∧x.1.map Prod.fst=(List.range x.1.length).map fun(n:Nat)=>jR M.ch (n:Int)) (fun x=>M.nodes.toNat-x.1.length) ([],none,0)
  ⟨Zj _,rfl⟩ bd (ae.bY ae.nil).ar ?_
 rintro⟨X,sa,sc⟩ ⟨hk,hX⟩
 dsimp only at hk hX ⊢
 refine EW ?_
 refine CP (p:=(X.length:Int)<M.nodes) Z (fun h1=>CK ?_) (fun h1=>CX ?_)
 rotate_left
 ·refine aq ?_
  refine CR (ay.tmp 2 Z Z ER ⟨X,sa,sc,?_,Z,Z⟩)
  rw[hX,aC.all,show M.nodes.toNat=X.length from by omega]
 refine aq ?_
 refine VG (VK (Lc:=[]) (fun Fr w hF hw _=>nD Fr w ok (h.of hF hw) (hm.of hF hw) X.length) Z Z ?_)
 rintro _ _ ⟨g,rfl,rfl⟩
 refine VG (VO.buildSlice (pv:=[(0,.agg (jI (jR M.ch X.length,g)).toArray)]) (jI (jR M.ch X.length,g)) Z Z Z Z yp (bM Z Z Z) fun sb=>?_)
 refine VG (VO.append (m:=1) (news:=jI (jR M.ch X.length,g)) 2 Z Z Z Z Z Z Z (dq.pt 0 Z Z Z) Z (ki (k:=1000) yd yp) yd fun a2 c2 hc2=>?_)
 refine qO ?_
 have hlen:(X ++ [(jR M.ch X.length,g)]).length=X.length+1:=by simp
 refine⟨(X ++ [(jR M.ch X.length,g)],a2,c2),⟨by dsimp only;omega,?_⟩,by dsimp only;omega,SC Z (SC (by dsimp only;rw[hlen];rfl) (Sub.int Z tL (SN _))),?_⟩
 ·dsimp only
  rw[hlen,ZL,hX,List.range_succ,ZL];rfl
 ·dsimp only
  rw[hlen,bf,ZL]
  exact(ae.cons (ae.tl.trans ae.last)).ar
end
end Cl
namespace Cl
open Go Vg T Api Ch Rep
attribute [local irreducible] VO VC VA
def qH(p:Nat)(M:aC)(a:Option Addr)(c:Nat):List HP:=[pt p (bR M a c) qG,aJ aG 2 a M.ch.ms.length c (flat ax M.ch.ms)]
def dh(p:Nat)(M:aC):HP:=hex fun x:Option Addr×Nat=>cT (qH p M x.1 x.2)
theorem aV.dk(p:Nat)(M:aC):aV (ι:=Option Addr×Nat) (dh p M) (fun _=>True) (fun x=>qH p M x.1 x.2):=fun w ids ⟨x,h⟩ hn=>⟨x,trivial,ids,h,hn,fun _ h=>h⟩
theorem ae.dk{p:Nat}{M:aC}{L K:List HP}(x:Option Addr×Nat)(h:ae L (qH p M x.1 x.2++K)):ae L (dh p M::K):=ae.ex (f:=fun x:Option Addr×Nat=>cT (qH p M x.1 x.2)) x (ae.sep h)
theorem ae.Jg{R A:List HP}:ae (R++A) A:=ae.app (M:=[]) ae.nil ae.refl
theorem kH{p:Nat}{M:aC}{a:Option Addr}{c:Nat}{A R:List HP}:ae (A++(qH p M a c++R)) (dh p M::A):=
 (ae.perm ZM).trans (ae.dk (a,c) ((ae.of_eq (Zr _ _ _)).trans (ae.app ae.refl ae.Jg)))
theorem vC{α:Type}(c:α→List Value)(x:α):flat c [x]=c x:=by simp[flat]
theorem vD{p:Nat}{M:aC}{a:Option Addr}{c:Nat}{x:rO}{sb:Nat}{R:List HP}:ae (pt sb (jI x) iv::jX x::(qH p M a c++R)) (dh p M::aJ iv 30 (some ⟨sb,0,none⟩) 1 1 (flat jI [x]) :: [x].map jX):=by
 rw[vC]
 exact(ae.Uf (n:=1) (by rw[ud]) (ae.refl (L:=pt sb (jI x) iv::jX x::(qH p M a c++R)))).trans (kH (A:=[_,_]))
theorem gh{p:Nat}{M:aC}{a:Option Addr}{c:Nat}{R:List HP}:ae (qH p M a c++R) (dh p M::aJ iv 30 none 0 0 (flat jI [])::([]:List rO).map jX):=
 (ae.bY (ae.refl (L:=qH p M a c++R))).trans (kH (A:=[aJ iv 30 none 0 0 []]))
theorem mB{v:Value}{L H:List HP}(hv:v=.slice none 0 0)(hL:L=H++(aJ iv 30 none 0 0 (flat jI [])::([]:List rO).map jX)):kG [] v L H:=⟨[],none,0,rfl,hv,hL⟩
theorem Ar{v:Value}{L H:List HP}{x:rO}{sb:Nat}(hv:v=.slice (some ⟨sb,0,none⟩) 1 1)(hL:L=H++(aJ iv 30 (some ⟨sb,0,none⟩) 1 1 (flat jI [x]) :: [x].map jX)):kG [x.1] v L H:=⟨[x],some ⟨sb,0,none⟩,1,rfl,hv,hL⟩
theorem GY{ms:List bG}{n:Int}(h:0≤placeOf ms n):∃(i:Nat) (m:bG),placeOf ms n=i∧i<ms.length∧ms[i]?=some m∧m.1=n:=by
 rcases gn ms n with e | h
 ·omega
 ·exact h
theorem Wd{c:dL}{n:Int}(h:de c n=0):0≤placeOf c.ms n∧c.ms.length≠1:=by
 unfold de at h
 by_cases p:placeOf c.ms n<0
 ·rw[if_pos p] at h;exact absurd h yp
 ·refine⟨by omega,fun e=>?_⟩
  rw[if_neg p,if_pos e] at h;exact absurd h yp
theorem OS{c:dL}{n:Int}(h:(dJ c n).2=0):cd c=0∧de c n=0∧dJ c n=(⟨c.al+1,c.ms.eraseIdx (placeOf c.ms n).toNat,if c.drain=n then -1 else c.drain⟩,0):=by
 unfold dJ at h ⊢
 by_cases h1:cd c≠0
 ·rw[if_pos h1] at h;exact absurd h yp
 rw[if_neg h1] at h ⊢
 by_cases h2:de c n≠0
 ·rw[if_pos h2] at h;exact absurd h h2
 rw[if_neg h2]
 exact⟨Classical.not_not.1 h1,Classical.not_not.1 h2,Z⟩
theorem SG{c:dL}{n:Int}(h:(fJ c n).2=0):cd c=0∧pU n=true∧placeOf c.ms n<0∧fJ c n=(⟨c.al+1,c.ms ++ [(n,c.al+1)],c.drain⟩,0):=by
 unfold fJ at h ⊢
 by_cases h1:cd c≠0
 ·rw[if_pos h1] at h;exact absurd h yp
 rw[if_neg h1] at h ⊢
 by_cases h2:pU n=false
 ·rw[if_pos h2] at h;exact absurd h yp
 rw[if_neg h2] at h ⊢
 by_cases h3:0≤placeOf c.ms n
 ·rw[if_pos h3] at h;exact absurd h yp
 rw[if_neg h3]
 exact⟨Classical.not_not.1 h1,by simpa using h2,by omega,Z⟩
theorem SH{c:dL}{n:Int}(h:(fj c n).2=0):cd c=0∧de c n=0∧c.drain=-1∧fj c n=(⟨c.al+1,c.ms,n⟩,0):=by
 unfold fj at h ⊢
 by_cases h1:cd c≠0
 ·rw[if_pos h1] at h;exact absurd h yp
 rw[if_neg h1] at h ⊢
 by_cases h2:de c n≠0
 ·rw[if_pos h2] at h;exact absurd h h2
 rw[if_neg h2] at h ⊢
 by_cases h3:c.drain≠-1
 ·rw[if_pos h3] at h;exact absurd h yp
 rw[if_neg h3]
 exact⟨Classical.not_not.1 h1,Classical.not_not.1 h2,Classical.not_not.1 h3,Z⟩
theorem aC.Ok.place{M:aC}(ok:M.Ok){n:Int}(h:0≤placeOf M.ch.ms n):0≤n∧n<6:=by
 obtain⟨i,m,_,_,h2,rfl⟩:=GY h
 exact ok.mr m (ME h2)
theorem aC.Ok.gone{M:aC}(ok:M.Ok){n:Int}(h:M.tQ n=0):(M.gone n).Ok:=by
 obtain⟨_,_,e⟩:=OS h
 have e1:(M.gone n).ch=⟨M.ch.al+1,M.ch.ms.eraseIdx (placeOf M.ch.ms n).toNat,if M.ch.drain=n then -1 else M.ch.drain⟩:=by show(dJ M.ch n).1=_;rw[e]
 refine⟨ok.n0,ok.n1,ok.p0,ok.p1,?_,?_,ok.hl,by show(M.whole.set _ _).length=6;rw[ZB,ok.wl],ok.hr⟩
 ·rw[e1];exact ZQ (List.length_eraseIdx_le _ _) ok.ml
 ·rw[e1];exact fun x hx=>ok.mr x (List.mem_of_mem_eraseIdx hx)
theorem aC.Ok.out{M:aC}(ok:M.Ok)(n:Int):(M.out n).Ok:=by
 unfold aC.out
 split
 ·exact ok
 ·rename_i h;exact ok.gone (Classical.not_not.1 h)
theorem jY(n:Int):0≤cu n∧cu n≤1099511627776:=by unfold cu;omega
theorem aC.Ok.cV{M:aC}(ok:M.Ok)(n now:Int):(M.cV n now).Ok:=
 ⟨ok.n0,ok.n1,ok.p0,ok.p1,ok.ml,ok.mr,by show(M.heard.set _ _).length=6;rw[ZB,ok.hl],ok.wl,fun x hx=>by
  rcases ZT hx with h | h
  ·exact ok.hr x h
  ·rw[h];exact jY now⟩
theorem aC.Ok.wholeAt{M:aC}(ok:M.Ok)(n:Int):(M.wholeAt n).Ok:=
 ⟨ok.n0,ok.n1,ok.p0,ok.p1,ok.ml,ok.mr,ok.hl,by show(M.whole.set _ _).length=6;rw[ZB,ok.wl],ok.hr⟩
theorem aC.Ok.take{M:aC}(ok:M.Ok)(from_:Int)(f:aa)(now:Int):(M.take from_ f now).1.Ok:=by
 unfold aC.take
 split
 ·exact ok
 split
 ·exact ok
 split
 ·split
  ·exact ok.cV _ _
  split
  ·exact(ok.cV _ _).wholeAt _
  ·exact ok.cV _ _
 split
 ·split
  ·exact ok
  split<;>exact ok
 split
 ·split
  ·rename_i h;exact ok.gone h.2.2
  ·exact ok
 ·exact ok
section
variable {p:Nat} {M:aC}
theorem sR(ok:M.Ok)(n:Int):aH Tryz.prog 110 [.pointer (some ⟨p,0,none⟩),.int .i64 n] Fr w [dh p M] (fun v L=>v=.int .i64 (M.tQ n)∧L=[dh p (M.out n)]):=by
 have hl:=ok.ml
 refine TF 28 Tryz.func110 Z yn ah Z Z ?_
 refine RC ?_
 rintro⟨a,c⟩ -
 show VC _ _ _ (qH p M a c) _
 unfold qH
 refine an ?_
 refine RD ?_
 refine an ?_
 refine VG (VK (Lc:=[]) (fun Fr w hF hw hS=>Aq Fr w (c:=M.ch) (aI.aJ aF (hS.at_ 1 Z)) yd n) Z Z ?_)
 rintro _ _ ⟨wa,wc,rfl,rfl⟩
 refine aK ?_
 refine VG (VO.alloc Z fun b5=>?_)
 refine VG (VT (vs:=(dJ M.ch n).1.cells wa wc) (cs':=(dJ M.ch n).1.cells wa wc) 0 Z Z Z Z (NR _) Z Z Z ?_)
 refine aK ?_
 refine VC.bp Z (fun he=>?_) (fun he=>CK ?_)
 ·refine aK ?_
  exact CR (ay.tmp 4 Z Z (ae.dk (a,c) (IP 2 Z (IP 2 Z ae.nil))).ar ⟨rfl,by rw[aC.out,if_pos (show M.tQ n≠0 from he)]⟩)
 obtain⟨hf,hlv,hW⟩:=OS he
 obtain⟨k,hk,hk6,_⟩:=ok.Ft (ok.place (Wd hlv).1)
 have ok1:=ok.gone he
 refine aK ?_
 refine VG (VL 0 ((dJ M.ch n).1.cells wa wc) Z Z Z Z ?_)
 refine aK ?_
 refine VG (VT (vs:=(dJ M.ch n).1.cells wa wc) (cs':=bR { M with ch:=(dJ M.ch n).1 } wa wc) 2 Z Z Z Z Uk Z Z Z ?_)
 refine aK ?_
 have ok2:({ M with ch:=(dJ M.ch n).1 }:aC).Ok:=⟨ok1.n0,ok1.n1,ok1.p0,ok1.p1,ok1.ml,ok1.mr,ok.hl,ok.wl,ok.hr⟩
 have hg:bR (M.gone n) wa wc=bR { ({ M with ch:=(dJ M.ch n).1 }:aC) with whole:=M.whole.set k false } wa wc:=by rw[aC.gone,show n.toNat=k from by omega]
 refine VG (VI (bS k Z Z Z Z Z hk hk6) ?_)
 refine VG (VO.st 2 (cs':=bR (M.gone n) wa wc) Z Z Z Z (by show 0+11+k*1<_;rw[nE ok2];omega) (by rw[hg,←nF ok2 hk6];show _=(bR _ wa wc).set (11+k) _;rw[show 11+k=0+11+k*1 from by omega];rfl) Z ?_)
 refine aK ?_
 exact CR (ay.int 4 Z Z he.symm (ae.dk (M:=M.gone n) (wa,wc) (IP 2 Z (IP 1 Z ae.nil))).ar ⟨rfl,by rw[aC.out,if_neg (by rw[show M.tQ n=0 from he];decide)]⟩)
end
end Cl
namespace Cl
open Go Vg T Api Ch Rep Rd
attribute [local irreducible] VO VC VA
section
variable {p:Nat} {M:aC}
theorem aC.Cm{n:Int}(ok:M.Ok)(h:M.isNode n=true):0≤n∧n<6:=by
 have:=ok.n1
 unfold aC.isNode at h
 simp only[Zx,decide_eq_true_eq] at h
 omega
theorem Ek(ok:M.Ok)(from_:Int)(f:aa)(g:kL)(now:Int):aH Tryz.prog 185 [.pointer (some ⟨p,0,none⟩),.int .i64 from_,.agg (f.cells g).toArray,.int .i64 now] Fr w [dh p M]
  (fun v L=>kG (M.take from_ f now).2 v L [dh p (M.take from_ f now).1]):=by
 have hl:=ok.ml
 unfold aC.take
 refine TF 112 Tryz.func185 Z yn ah Z Z ?_
 refine CS (CG (VG (VB (vs:=f.cells g) Z fun fb=>VG (VN ?_))))
 refine VC.e7 1 Z (aV.dk p M) ?_
 rintro⟨a,c⟩ -
 show VC _ _ _ [pt p (bR M a c) qG,aJ aG 2 a M.ch.ms.length c (flat ax M.ch.ms),pt fb (f.cells g) g_] _
 refine aq ?_
 refine RE ?_
 refine Oz ?_
 refine sf ?_
 refine CE Z (fun k7=>?_) (fun k7=>CK ?_)
 ·rw[if_pos k7]
  refine aq ?_
  refine X7 ?_
  rintro _ _ ⟨y,rfl,rfl⟩
  refine VG (VO.buildSlice (pv:=[(0,.agg (jI (jR M.ch from_,y)).toArray)]) (jI (jR M.ch from_,y)) Z Z Z Z yp (bM Z Z Z) fun sb=>?_)
  refine aq ?_
  exact X8
 rw[if_neg k7]
 refine aq ?_
 refine VG (VV (fun Fr w hF hw hS=>rQ Fr w (hS.aP 0 Z) from_) Z ?_)
 refine aq ?_
 refine VC.dT Z (fun hn=>?_) (fun hn=>CK ?_)
 ·rw[if_pos hn]
  refine aq ?_
  exact Q3
 rw[if_neg (by rw[hn];decide)]
 obtain⟨j,hj,hj6,hwj⟩:=ok.Ft (aC.Cm ok hn)
 refine aq ?_
 refine CD (ts 0 9 .nil) yn yr ?_
 refine sg ?_
 refine sf ?_
 refine CE Z (fun k11=>?_) (fun k11=>?_)
 ·rw[if_pos k11]
  refine aq ?_
  refine CD (ts 0 3 (ts 4 2 (.only 3 (.take 6 (.only 7 .nil))))) yn yr ?_
  refine ji ?_
  refine AG (AR (fun Fr w hF hs hS=>nC Fr w now) Z Z yu ?_)
  refine Vd ?_
  refine AG (VA.st 0 (cs':=bR (M.cV from_ now) a c) Z Z Z Z Z (by show 0+5+j*1<_;rw[nE ok];omega) (by rw[aC.cV,show from_.toNat=j from by omega,←vB ok hj6];show(bR M a c).set (0+5+j*1) _=_;rw[show 0+5+j*1=5+j from by omega]) Z yu ?_)
  have ok1:=ok.cV from_ now
  refine ji ?_
  show VC _ _ _ [pt p (bR (M.cV from_ now) a c) qG,aJ aG 2 a (M.cV from_ now).ch.ms.length c (flat ax (M.cV from_ now).ch.ms),pt fb (f.cells g) g_] _
  refine aq ?_
  by_cases he:f.al=M.ch.al
  rotate_left
  ·rw[if_pos he]
   refine VC.dT (t:=false) W0 (fun _=>?_) (fun e=>Bool.noConfusion e)
   refine aq ?_
   refine VG (VK (Lc:=[]) (fun Fr w hF hw hS=>nD (M:=M.cV from_ now) Fr w ok1 (hS.aP 0 Z) (aI.aJ aF (hS.at_ 1 Z)) from_) Z Z ?_)
   rintro _ _ ⟨y,rfl,rfl⟩
   refine VG (VO.buildSlice (pv:=[(0,.agg (jI (jR (M.cV from_ now).ch from_,y)).toArray)]) (jI (jR (M.cV from_ now).ch from_,y)) Z Z Z Z yp (bM Z Z Z) fun sb=>?_)
   refine aq ?_
   exact CR (ay.tmp 8 Z Z (vD (M:=M.cV from_ now) (a:=a) (c:=c) (R:=[_])).ar (Ar (x:=(jR M.ch from_,y)) Z Z))
  rw[if_neg (fun h=>h he)]
  refine VC.dT (t:=true) (by rw[←beq_iff_eq.2 he];rfl) (fun e=>Bool.noConfusion e) (fun _=>CK ?_)
  have hsn:a6 (M.cV from_ now).ch from_=a6 M.ch from_:=rfl
  refine sf ?_
  by_cases hi:f.index=1
  rotate_left
  ·rw[if_neg (fun h=>hi h.1)]
   refine VG (VY 53 false Z (beq_eq_false_iff_ne.2 hi) ?_)
   refine aK ?_
   refine FU ?_
   exact X9
  refine VG (VY 53 true Z (beq_iff_eq.2 hi) ?_)
  refine aK ?_
  refine VG (VV (fun Fr w hF hw hS=>rR (M:=M.cV from_ now) Fr w ok1 (hS.aP 0 Z) (aI.aJ aF (hS.at_ 1 Z)) from_) Z ?_)
  refine aK ?_
  refine CC Z (fun hm=>?_) (fun hm=>CK ?_)
  ·rw[if_pos ⟨hi,hm⟩]
   refine aq ?_
   refine VG (VI (bS j Z Z Z Z Z hj hj6) ?_)
   refine VG (VO.st 0 (cs':=bR ((M.cV from_ now).wholeAt from_) a c) Z Z Z Z (by show 0+11+j*1<_;rw[nE ok1];omega) (by rw[aC.wholeAt,show from_.toNat=j from by omega,←nF ok1 hj6];show(bR (M.cV from_ now) a c).set (0+11+j*1) _=_;rw[show 0+11+j*1=11+j from by omega]) Z ?_)
   refine aq ?_
   exact CR (ay.tmp 8 Z Z (gh (M:=(M.cV from_ now).wholeAt from_) (a:=a) (c:=c) (R:=[_])).ar (mB Z Z))
  ·rw[if_neg (fun h=>by rw[hsn] at hm;rw[hm] at h;cases h.2)]
   refine aq ?_
   exact X9
 rw[if_neg k11]
 refine aq ?_
 refine CE Z (fun k9=>?_) (fun k9=>?_)
 ·rw[if_pos k9]
  refine aq ?_
  by_cases he:f.al=M.ch.al
  rotate_left
  ·rw[if_pos he]
   refine VC.dT (t:=false) W0 (fun _=>?_) (fun e=>Bool.noConfusion e)
   refine aq ?_
   refine X7 ?_
   rintro _ _ ⟨y,rfl,rfl⟩
   refine VG (VO.buildSlice (pv:=[(0,.agg (jI (jR M.ch from_,y)).toArray)]) (jI (jR M.ch from_,y)) Z Z Z Z yp (bM Z Z Z) fun sb=>?_)
   refine aq ?_
   exact X8
  rw[if_neg (fun h=>h he)]
  refine VC.dT (t:=true) (by rw[←beq_iff_eq.2 he];rfl) (fun e=>Bool.noConfusion e) (fun _=>CK ?_)
  refine aq ?_
  refine RD ?_
  refine VG (VV (fun Fr w hF hw hS=>lX Fr w (c:=M.ch) (aI.aJ aF (hS.at_ 1 Z)) yd) Z ?_)
  refine aq ?_
  refine CE Z (fun ht=>?_) (fun ht=>CK ?_)
  ·rw[if_pos ht]
   refine sf ?_
   refine VG (VI (LB (pv:=[(0,.int .i64 10),(1,.int .i64 f.al),(12,.int .i64 f.index)]) ((nU f.al f.index).cells (none,0,0)) Z Z Z yn Z) ?_)
   refine VG (VO.alloc Z fun b10=>?_)
   refine VG (VT (vs:=(nU f.al f.index).cells (none,0,0)) (cs':=(nU f.al f.index).cells (none,0,0)) 0 Z Z Z Z (NR _) Z Z Z ?_)
   refine aq ?_
   refine VG (VL 0 ((nU f.al f.index).cells (none,0,0)) Z Z Z Z ?_)
   refine VG (VI (LB (pv:=[(0,.int .i64 from_),(1,.agg ((nU f.al f.index).cells (none,0,0)).toArray)]) (jI ((from_,nU f.al f.index,[]),(none,0))) Z Z Z yn Z) ?_)
   refine VG (VO.buildSlice (pv:=[(0,.agg (jI ((from_,nU f.al f.index,[]),(none,0))).toArray)]) (jI ((from_,nU f.al f.index,[]),(none,0))) Z Z Z Z yp (bM Z Z Z) fun sb=>?_)
   refine aq ?_
   refine CR (ay.tmp 8 Z Z ?_ (Ar (x:=((from_,nU f.al f.index,[]),(none,0))) (sb:=sb) Z Z))
   refine ae.ar (ae.trans (M:=pt sb (jI ((from_,nU f.al f.index,[]),(none,0))) iv::jX ((from_,nU f.al f.index,[]),(none,0))::(qH p M a c ++ [])) ?_ vD)
   exact IP 0 Z (ae.bY (dG [1,1]))
  ·rw[if_neg ht]
   refine aq ?_
   exact Q3
 rw[if_neg k9]
 refine aq ?_
 refine CE Z (fun k12=>?_) (fun k12=>CK ?_)
 rotate_left
 ·rw[if_neg k12]
  refine aq ?_
  exact Q3
 rw[if_pos k12]
 refine aq ?_
 by_cases he:f.al=M.ch.al
 rotate_left
 ·rw[if_neg (fun h=>he h.1.1)]
  refine VG (VY 90 false Z (beq_eq_false_iff_ne.2 he) ?_)
  refine aK ?_
  refine VG (VY 99 false Z Z ?_)
  refine aK ?_
  refine VG (VY 104 false Z Z ?_)
  refine aK ?_
  refine FU ?_
  exact Q3
 refine VG (VY 90 true Z (beq_iff_eq.2 he) ?_)
 refine pP ?_
 by_cases hd:M.ch.drain=from_
 rotate_left
 ·rw[if_neg (fun h=>hd h.1.2)]
  refine VG (VY 99 false Z (beq_eq_false_iff_ne.2 hd) ?_)
  refine aK ?_
  refine VG (VY 104 false Z Z ?_)
  refine aK ?_
  refine FU ?_
  exact Q3
 refine VG (VY 99 true Z (beq_iff_eq.2 hd) ?_)
 refine aK ?_
 refine VG (VV (fun Fr w hF hw hS=>o9 Fr w ok (hS.aP 0 Z) (aI.aJ aF (hS.at_ 1 Z)) from_) Z ?_)
 refine aK ?_
 cases hg:M.lg from_ with
 | false=>
  rw[if_neg (fun h=>Bool.noConfusion h.2.1)]
  refine VG (VY 104 false Z Z ?_)
  refine aK ?_
  refine FU ?_
  exact Q3
 | true=>
 refine VG (VY 104 true Z Z ?_)
 refine aK ?_
 refine VO.ar (L':=[dh p M] ++ [pt fb (f.cells g) g_]) (ae.dk (a,c) (dG [0,0,0])).ar ?_
 refine VG (VK (Lc:=[dh p M]) (fun Fr w hF hw hS=>sR Fr w ok from_) Z Z ?_)
 rintro _ _ ⟨rfl,rfl⟩
 refine aK ?_
 refine CE Z (fun ho=>?_) (fun ho=>CK ?_)
 ·rw[if_pos ⟨⟨he,hd⟩,rfl,ho⟩]
  have hout:M.out from_=M.gone from_:=by rw[aC.out,if_neg (by rw[ho];decide)]
  rw[hout]
  have ok1:=ok.gone ho
  refine VC.e7 0 Z (aV.dk p (M.gone from_)) ?_
  rintro⟨a1,c1⟩ -
  show VC _ _ _ [pt p (bR (M.gone from_) a1 c1) qG,aJ aG 2 a1 (M.gone from_).ch.ms.length c1 (flat ax (M.gone from_).ch.ms),pt fb (f.cells g) g_] _
  refine aq ?_
  refine VG (VK (Lc:=[]) (fun Fr w hF hw hS=>mA (M:=M.gone from_) Fr w ok1 (hS.aP 0 Z) (aI.aJ aF (hS.at_ 1 Z))) Z Z ?_)
  rintro _ _ ⟨X,sa,sc,hX,rfl,rfl⟩
  refine aq ?_
  exact CR (ay.tmp 8 Z Z (kH (p:=p) (M:=M.gone from_) (a:=a1) (c:=c1) (R:=[_])).ar ⟨X,sa,sc,hX,Z,Z⟩)
 ·rw[if_neg (fun h=>ho h.2.2)]
  have hout:M.out from_=M:=by rw[aC.out,if_pos ho]
  rw[hout]
  refine aq ?_
  exact CR (ay.tmp 8 Z Z ((ae.bY (ae.refl (L:=[dh p M,pt fb (f.cells g) g_]))).trans (IP 1 Z (IP 0 Z ae.nil))).ar (mB Z Z))
end
end Cl
namespace Cl
open Go Vg T Api Ch Rep Rd
attribute [local irreducible] VO VC VA
def xV(S:List nY)(e:Int)(v:Value)(L:List HP)(H:List HP):Prop:=∃(X:List rO) (a:Option Addr) (c:Nat),X.map Prod.fst=S∧v=.tuple #[.slice a X.length c,.int .i64 e]∧L=H++(aJ iv 30 a X.length c (flat jI X)::X.map jX)
theorem gI{v:Value}{e:Int}{L H:List HP}(hv:v=.tuple #[.slice none 0 0,.int .i64 e])(hL:L=H++(aJ iv 30 none 0 0 (flat jI [])::([]:List rO).map jX)):xV [] e v L H:=⟨[],none,0,rfl,hv,hL⟩
theorem xW{X:Cx}{e:Env}{T:TypeId}{x:Operand}{xs:Array Value}{fs:Array Field}{g:Field}{f:Nat}{v:Value}(hT:X.P.underlying T=some (.struct fs))(hx:ev e x=some (.agg xs))(hf:fs[f]?=some g)
  (hp:∀w:World,(part g.type xs g.offset).run X.P w=.ok v w):dm X (.field T x f) e v:=by
 intro a ha dst ty pos after guard w
 have h:(Instr.field T (.agg xs) f).run X.P w=.ok v w:=by
  simp[Instr.field,run_underlying hT,hf,asAgg,hp w]
 simp[execOp,ha.ev hx,h]
section
variable {p:Nat} {M:aC}
theorem aE.dk{X:Cx}{L:List HP}{ti:TI}{M:aC}{off:Nat}{v:Value}(i:Nat)(hL:L[i]?=some (dh p M))(hv:∀a c,(bR M a c)[off]?=some v)(ha:ti.aU.agg=false:=by rfl):aE X L ti p off v:=fun w hw=>by
 obtain⟨F,hs,_,_⟩:=hw.sat
 obtain⟨ids,hid,_⟩:=dK.get hs hL
 obtain⟨x,i1,G,_,h1,_⟩:=hid
 rw[ha];exact yX h1.2 (hv _ _)
theorem NM(M:aC)(n:Int):(M.out n).bt=M.bt:=by unfold aC.out;split<;>rfl
theorem Cn{now:Int}:∀(l:List bG) (x:aC×Bool),x.1.Ok→(aC.watch now l x).1.Ok
 | [],x,h=>h
 | y::l,x,h=>by
  rw[aC.watch]
  refine Cn l _ ?_
  split
  ·rename_i hl
   simp only[aC.late,Zx,decide_eq_true_eq] at hl
   exact h.gone hl.2.2
  ·exact h
theorem aC.Ok.tick(ok:M.Ok)(now:Int):(M.tick now).1.Ok:=Cn _ _ ok
theorem El(ok:M.Ok)(now:Int):aH Tryz.prog 62 [.pointer (some ⟨p,0,none⟩),.int .i64 now] Fr w [dh p M]
  (fun v L=>kG (M.tick now).2 v L [dh p (M.tick now).1]):=by
 have hl:=ok.ml
 have htk:=jY now
 unfold aC.tick
 generalize htn:cu now=tn at htk
 refine TF 56 Tryz.func62 Z yn ah Z Z ?_
 refine RC ?_
 rintro⟨a,c⟩ -
 show VC _ _ _ [pt p (bR M a c) qG,aJ aG 2 a M.ch.ms.length c (flat ax M.ch.ms)] _
 refine aq ?_
 refine RE ?_
 refine EY ?_
 refine VG (VV (fun Fr w hF hw hS=>nC Fr w now) Z ?_)
 rw[htn]
 refine aq ?_
 refine RD ?_
 refine VG (VK (Lc:=[]) (fun Fr w hF hw hS=>rP Fr w (c:=M.ch) (aI.aJ aF (hS.at_ 1 Z)) yd) Z Z ?_)
 rintro _ _ ⟨ca,cc,rfl,rfl⟩
 refine aq ?_
 refine VG (VI (xW (v:=.slice ca M.ch.ms.length cc) Tryz.underlying105 Z Z (fun w=>pT (nK.look ah (t:=103) (ti:=T.t103) Z) Z Z w)) ?_)
 refine aq ?_
 have hml:=ok.ml
 have hmr:=ok.mr
 generalize hms:M.ch.ms=ms at hml hmr
 refine VC.e7 0 Z (aV.rl aG ca cc ms aF) ?_
 rintro⟨ra,rc,rb,rcs,rxs⟩ ⟨rok,rv,rx⟩
 dsimp only at rx
 subst rx
 injection rv with e1 _ e3
 subst e1 e3
 refine VC.loop (σ:=Nat×aC×Bool) (fun x=>[(0,pV p),(1,.int .i64 tn),(18,.slice ra rxs.length rc),(19,.int .i64 rxs.length),(20,.int .i64 (x.1:Int)),(5,.bool x.2.2)]) (fun x=>[RL.h aG ⟨ra,rc,rb,rcs,rxs⟩,dh p x.2.1])
  (fun x=>x.1≤rxs.length∧x.2.1.Ok∧aC.watch tn (rxs.drop x.1) x.2=aC.watch tn rxs (M,false)) (fun x=>rxs.length-x.1) (0,M,false)
  ⟨Zj _,ok,rfl⟩ bd ?_ ?_
 ·refine(IP 0 Z (ae.dk (a,c) ?_)).ar
  unfold qH
  rw[hms]
  exact ae.refl
 rintro⟨k,M1,b⟩ ⟨hk,ok1,hW⟩
 dsimp only at hk ok1 hW ⊢
 refine aq ?_
 refine CP (p:=(k:Int)<rxs.length) Z (fun h1=>CK ?_) (fun h1=>CX ?_)
 rotate_left
 ·rw[List.drop_of_length_le yd] at hW
  rw[←hW]
  show VC _ _ _ _ _
  dsimp only[aC.watch]
  refine aq ?_
  cases b with
  | false=>
   refine Rb ?_
   exact CR (ay.tmp 4 Z Z ((ae.bY (ae.refl (L:=[RL.h aG ⟨ra,rc,rb,rcs,rxs⟩,dh p M1]))).trans (IP 2 Z (IP 0 Z ae.nil))).ar (mB Z Z))
  | true=>
   refine r_ ?_
   refine VC.e7 1 Z (aV.dk p M1) ?_
   rintro⟨a1,c1⟩ -
   show VC _ _ _ [pt p (bR M1 a1 c1) qG,aJ aG 2 a1 M1.ch.ms.length c1 (flat ax M1.ch.ms),RL.h aG ⟨ra,rc,rb,rcs,rxs⟩] _
   refine aq ?_
   refine VG (VK (Lc:=[]) (fun Fr w hF hw hS=>mA (M:=M1) Fr w ok1 (hS.aP 0 Z) (aI.aJ aF (hS.at_ 1 Z))) Z Z ?_)
   rintro _ _ ⟨X,sa,sc,hX,rfl,rfl⟩
   refine aq ?_
   exact CR (ay.tmp 4 Z Z (kH (p:=p) (M:=M1) (a:=a1) (c:=c1) (R:=[_])).ar ⟨X,sa,sc,hX,Z,Z⟩)
 obtain⟨x,hx⟩:∃x,rxs[k]?=some x:=⟨_,GE yd⟩
 have hdr:rxs.drop k=x::rxs.drop (k+1):=by
  obtain⟨g1,g2⟩:=Zk.1 hx
  rw[List.drop_eq_getElem_cons g1,g2]
 rw[hdr,aC.watch] at hW
 obtain⟨j,hj,hj6,hh,hh0,hh1⟩:=ok1.SF (hmr x (ME hx))
 have hp0:=ok1.p0
 have hp1:=ok1.p1
 obtain⟨tb,tof,htb,hta,hrd⟩:=RL.Ok.ld (t:=aG) (k:=k) (x:=x) rok hx (aF x)
 dsimp only at hta
 subst hta
 refine VC.e7 1 Z (aV.dk p M1) ?_
 rintro⟨a1,c1⟩ -
 show VC _ _ _ [pt p (bR M1 a1 c1) qG,aJ aG 2 a1 M1.ch.ms.length c1 (flat ax M1.ch.ms),RL.h aG ⟨some ⟨tb,tof,none⟩,rc,rb,rcs,rxs⟩] _
 refine CS (VC.cq (σ:=aC×Bool) (fun x=>[(0,pV p),(1,.int .i64 tn),(18,.slice (some ⟨tb,tof,none⟩) rxs.length rc),(19,.int .i64 rxs.length),(20,.int .i64 (k:Int)),(5,.bool x.2)]) (fun x=>[RL.h aG ⟨some ⟨tb,tof,none⟩,rc,rb,rcs,rxs⟩,dh p x.1]) (fun y=>y.1.Ok∧y=if M1.late tn x.1 then (M1.gone x.1,true) else (M1,b)) ?_ ?_)
 rotate_left
 ·rintro⟨M2,b2⟩ ⟨ok2,hy⟩
  refine qO ?_
  exact⟨(k+1,M2,b2),⟨by omega,ok2,by dsimp only;rw[hy];exact hW⟩,by dsimp only;omega,SC Z (SC Z (SC Z (SC Z (Sub.int Z tL bd)))),ER⟩
 refine HA ?_
 refine VG (VO.load Z Z ((hrd 2 Z).1 _ Z Z) ?_)
 refine VG (VO.alloc Z fun b7=>?_)
 refine VG (VT (vs:=ax x) (cs':=ax x) 0 Z Z Z Z (NR _) Z Z Z ?_)
 refine aq ?_
 refine CD (ts 0 18 (.only 18 (ts 19 5 (.only 24 (ts 25 2 .nil))))) yn yr ?_
 refine FT ?_
 refine Vd ?_
 have hcell:(bR M1 a1 c1)[0+5+j*1]?=some (.int .i64 (M1.lL x.1)):=by rw[show 0+5+j*1=5+j from by omega];exact Fs ok1 hh
 refine AG (VA.ld 1 Z Z Z Z hcell ?_)
 refine QW ?_
 refine FT ?_
 by_cases g1:M1.bt<tn-M1.lL x.1
 rotate_left
 ·refine AG (AY 38 false Z (DF g1) ?_)
  refine FT ?_
  refine Hy ?_
  refine FT ?_
  refine AG (AY 44 false Z Z ?_)
  refine FT ?_
  refine Hy ?_
  refine FT ?_
  refine r_ ?_
  exact⟨(M1,b),⟨ok1,by rw[if_neg];rw[aC.late,DF g1,ZY];exact Z5⟩,bd,(IP 3 Z (ae.dk (a1,c1) (dG [1,1]))).ar⟩
 refine AG (AY 38 true Z (DT g1) ?_)
 refine FT ?_
 refine AG (AR (fun Fr w hF hw hS=>o9 Fr w ok1 (hS.aP 1 Z) (aI.aJ aF (hS.at_ 2 Z)) x.1) Z Z (by(try refine Pd.st ?_);(repeat(first|exact Pd.nil|exact Pd.fnil|refine Pd.inner ?_|refine Pd.skip yr ?_|refine zf (zo 0 Z Z) ?_|refine zf (zo 1 Z Z) ?_|refine zf (zm 0 Z Z) ?_|refine zf (zm 1 Z Z) ?_|refine zf (aE.aP (aE.one 1 Z hcell) Z) ?_|refine zf ((aE.one 1 Z hcell)) ?_|refine zc (zo 0 Z Z) ?_|refine zc (zo 1 Z Z) ?_|refine zc (zm 0 Z Z) ?_|refine zc (zm 1 Z Z) ?_|refine zc (aE.aP (aE.one 1 Z hcell) Z) ?_|refine zc ((aE.one 1 Z hcell)) ?_))) ?_)
 refine FT ?_
 cases g2:M1.lg x.1 with
 | false=>
  refine AG (AY 44 false Z Z ?_)
  refine FT ?_
  refine Hy ?_
  refine FT ?_
  refine r_ ?_
  exact⟨(M1,b),⟨ok1,by rw[if_neg];rw[aC.late,g2,ZY,ZU];exact Z5⟩,bd,(IP 3 Z (ae.dk (a1,c1) (dG [1,1]))).ar⟩
 | true=>
 refine AG (AY 44 true Z Z ?_)
 refine FT ?_
 refine VA.ar (L':=[dh p M1] ++ [RL.h aG ⟨some ⟨tb,tof,none⟩,rc,rb,rcs,rxs⟩,pt b7 (ax x) aG]) (ae.dk (a1,c1) (dG [1,1,1,0])).ar ?_
 have ok2:=ok1.out x.1
 have hh2:(M1.out x.1).heard[j]?=some (M1.lL x.1):=by unfold aC.out;split<;>exact hh
 have q7:∀a c,(bR (M1.out x.1) a c)[0+5+j*1]?=some (.int .i64 (M1.lL x.1)):=fun a c=>by rw[show 0+5+j*1=5+j from by omega];exact Fs ok2 hh2
 have q12:∀a c,(bR (M1.out x.1) a c)[1]?=some (.int .i64 M1.bt):=fun a c=>by rw[←NM M1 x.1];rfl
 refine AG (AO (OC (Lc:=[dh p M1]) (Lr:=[RL.h aG ⟨some ⟨tb,tof,none⟩,rc,rb,rcs,rxs⟩,pt b7 (ax x) aG]) rfl (.refl _) (fun Fr w hF hw hS=>sR Fr w ok1 x.1)) rfl (fun v L' g=>by obtain⟨_,⟨rfl,rfl⟩,rfl⟩:=g;exact(by(try refine Pd.st ?_);(repeat(first|exact Pd.nil|exact Pd.fnil|refine Pd.inner ?_|refine Pd.skip yr ?_|refine zf (zo 0 rfl rfl) ?_|refine zf (zo 1 rfl rfl) ?_|refine zf (zo 2 rfl rfl) ?_|refine zf (zm 0 rfl rfl) ?_|refine zf (zm 1 rfl rfl) ?_|refine zf (zm 2 rfl rfl) ?_|refine zf (aE.aP (aE.dk 0 rfl q7) rfl) ?_|refine zf (aE.aP (aE.dk 0 rfl q12) rfl) ?_|refine zf ((aE.dk 0 rfl q7)) ?_|refine zf ((aE.dk 0 rfl q12)) ?_|refine zc (zo 0 rfl rfl) ?_|refine zc (zo 1 rfl rfl) ?_|refine zc (zo 2 rfl rfl) ?_|refine zc (zm 0 rfl rfl) ?_|refine zc (zm 1 rfl rfl) ?_|refine zc (zm 2 rfl rfl) ?_|refine zc (aE.aP (aE.dk 0 rfl q7) rfl) ?_|refine zc (aE.aP (aE.dk 0 rfl q12) rfl) ?_|refine zc ((aE.dk 0 rfl q7)) ?_|refine zc ((aE.dk 0 rfl q12)) ?_)))) ?_)
 rintro _ _ ⟨_,⟨rfl,rfl⟩,rfl⟩
 refine oc ?_
 refine CE Z (fun ho=>?_) (fun ho=>CK ?_)
 ·have hout:M1.out x.1=M1.gone x.1:=by rw[aC.out,if_neg (by rw[ho];decide)]
  rw[hout]
  refine aq ?_
  exact⟨(M1.gone x.1,true),⟨ok1.gone ho,by rw[if_pos];rw[aC.late,DT g1,g2,DT ho];rfl⟩,bd,(dG [1,0]).ar⟩
 ·have hout:M1.out x.1=M1:=by rw[aC.out,if_pos ho]
  rw[hout]
  exact⟨(M1,b),⟨ok1,by rw[if_neg];rw[aC.late,DF ho,ZU,ZU];exact Z5⟩,bd,(dG [1,0]).ar⟩
end
end Cl
namespace Cl
open Go Vg T Api Ch Rep Rd Conf
attribute [local irreducible] VO VC VA
section
variable {p:Nat} {M:aC}
theorem aC.Ok.gN(ok:M.Ok){n:Int}(h:(fJ M.ch n).2=0)(now:Int):(M.gN n now).Ok:=by
 obtain⟨h1,h2,h3,e⟩:=SG h
 obtain⟨g1,g2,_⟩:=jl (Fq h1).1
 have e1:(M.gN n now).ch=⟨M.ch.al+1,M.ch.ms ++ [(n,M.ch.al+1)],M.ch.drain⟩:=by show(fJ M.ch n).1=_;rw[e]
 refine⟨ok.n0,ok.n1,ok.p0,ok.p1,?_,?_,by show(M.heard.set _ _).length=6;rw[ZB,ok.hl],by show(M.whole.set _ _).length=6;rw[ZB,ok.wl],fun x hx=>?_⟩
 ·rw[e1];simp;omega
 ·rw[e1]
  intro x hx
  rcases Zq.1 hx with hx | hx
  ·exact ok.mr x hx
  ·obtain rfl:=ZC.1 hx
   simp[pU] at h2
   exact h2
 ·rcases ZT hx with h | h
  ·exact ok.hr x h
  ·rw[h];exact jY now
theorem aC.Ok.fW(ok:M.Ok){n:Int}(h:(fj M.ch n).2=0):(M.fW n).Ok:=by
 obtain⟨h1,h2,h3,e⟩:=SH h
 have e1:(M.fW n).ch=⟨M.ch.al+1,M.ch.ms,n⟩:=by show(fj M.ch n).1=_;rw[e]
 exact⟨ok.n0,ok.n1,ok.p0,ok.p1,by rw[e1];exact ok.ml,by rw[e1];exact ok.mr,ok.hl,ok.wl,ok.hr⟩
theorem SI{n:Int}(hm:(a6 M.ch n).2=false):M.cW n=(M,[],4)∧M.drain n=(M,[],4):=by unfold aC.cW aC.drain aC.u7;simp[hm]
theorem OT{n:Int}(hm:(a6 M.ch n).2=true)(hg:M.lg n=false):M.cW n=(M,[],72)∧M.drain n=(M,[],72):=by unfold aC.cW aC.drain aC.u7;simp[hm,hg]
theorem We{n:Int}(hm:(a6 M.ch n).2=true)(hg:M.lg n=true)(ho:M.tQ n≠0):M.cW n=(M,[],M.tQ n):=by unfold aC.cW aC.u7;simp[hm,hg,ho]
theorem Wg{n:Int}(hm:(a6 M.ch n).2=true)(hg:M.lg n=true)(ho:M.tQ n=0):M.cW n=(M.gone n,(M.gone n).all,0):=by unfold aC.cW aC.u7;simp[hm,hg,ho]
theorem Wh{n:Int}(hm:(a6 M.ch n).2=true)(hg:M.lg n=true)(ho:(fj M.ch n).2≠0):M.drain n=(M,[],(fj M.ch n).2):=by unfold aC.drain aC.u7;simp[hm,hg,ho]
theorem Wi{n:Int}(hm:(a6 M.ch n).2=true)(hg:M.lg n=true)(ho:(fj M.ch n).2=0):M.drain n=(M.fW n,(M.fW n).all,0):=by unfold aC.drain aC.u7;simp[hm,hg,ho]
theorem wN(ok:M.Ok)(n:Int):aH Tryz.prog 66 [.pointer (some ⟨p,0,none⟩),.int .i64 n] Fr w [dh p M]
  (fun v L=>xV (M.cW n).2.1 (M.cW n).2.2 v L [dh p (M.cW n).1]):=by
 have hl:=ok.ml
 refine TF 29 Tryz.func66 Z yn ah Z Z ?_
 refine RC ?_
 rintro⟨a,c⟩ -
 show VC _ _ _ [pt p (bR M a c) qG,aJ aG 2 a M.ch.ms.length c (flat ax M.ch.ms)] _
 refine aq ?_
 refine RE ?_
 refine aq ?_
 refine HF ?_
 refine aq ?_
 refine X_ ?_
 refine aq ?_
 refine VC.dT Z (fun hm=>?_) (fun hm=>?_)
 ·refine aq ?_
  exact CR (ay.cU 4 5 Z Z Z (gh (a:=a) (c:=c) (R:=[])).ar (by rw[(SI hm).1];exact gI Z Z))
 refine aq ?_
 refine Ya ?_
 refine aq ?_
 refine VC.dT Z (fun hg=>?_) (fun hg=>CK ?_)
 ·refine aq ?_
  exact CR (ay.cU 4 5 Z Z Z (gh (a:=a) (c:=c) (R:=[])).ar (by rw[(OT hm hg).1];exact gI Z Z))
 refine CN (L':=[dh p M]) (ae.dk (a,c) (ae.refl)).ar ?_
 refine aq ?_
 refine VG (VK (Lc:=[dh p M]) (fun Fr w hF hw hS=>sR Fr w ok n) Z Z ?_)
 rintro _ _ ⟨rfl,rfl⟩
 refine aq ?_
 refine VC.bp Z (fun ho=>?_) (fun ho=>CK ?_)
 ·have hout:M.out n=M:=by rw[aC.out,if_pos ho]
  rw[hout]
  refine aq ?_
  exact CR (ay.cU 4 5 Z Z Z ((ae.bY (ae.refl (L:=[dh p M]))).trans (IP 1 Z ae.refl)).ar (by rw[We hm hg ho];exact gI Z Z))
 have hout:M.out n=M.gone n:=by rw[aC.out,if_neg (by rw[ho];decide)]
 rw[hout]
 have ok1:=ok.gone ho
 refine VC.e7 0 Z (aV.dk p (M.gone n)) ?_
 rintro⟨a1,c1⟩ -
 show VC _ _ _ [pt p (bR (M.gone n) a1 c1) qG,aJ aG 2 a1 (M.gone n).ch.ms.length c1 (flat ax (M.gone n).ch.ms)] _
 refine aq ?_
 refine VG (VK (Lc:=[]) (fun Fr w hF hw hS=>mA (M:=M.gone n) Fr w ok1 (hS.aP 0 Z) (aI.aJ aF (hS.at_ 1 Z))) Z Z ?_)
 rintro _ _ ⟨X,sa,sc,hX,rfl,rfl⟩
 refine aq ?_
 exact CR (ay.cU 4 5 Z Z Z (kH (p:=p) (M:=M.gone n) (a:=a1) (c:=c1) (R:=[])).ar (by rw[Wg hm hg ho];exact⟨X,sa,sc,hX,Z,Z⟩))
theorem Co(ok:M.Ok)(n:Int):aH Tryz.prog 68 [.pointer (some ⟨p,0,none⟩),.int .i64 n] Fr w [dh p M]
  (fun v L=>xV (M.drain n).2.1 (M.drain n).2.2 v L [dh p (M.drain n).1]):=by
 have hl:=ok.ml
 refine TF 40 Tryz.func68 Z yn ah Z Z ?_
 refine RC ?_
 rintro⟨a,c⟩ -
 show VC _ _ _ [pt p (bR M a c) qG,aJ aG 2 a M.ch.ms.length c (flat ax M.ch.ms)] _
 refine aq ?_
 refine RE ?_
 refine aq ?_
 refine HF ?_
 refine aq ?_
 refine X_ ?_
 refine aq ?_
 refine VC.dT Z (fun hm=>?_) (fun hm=>?_)
 ·refine aq ?_
  exact CR (ay.cU 4 5 Z Z Z (gh (a:=a) (c:=c) (R:=[])).ar (by rw[(SI hm).2];exact gI Z Z))
 refine aq ?_
 refine Ya ?_
 refine aq ?_
 refine VC.dT Z (fun hg=>?_) (fun hg=>CK ?_)
 ·refine aq ?_
  exact CR (ay.cU 4 5 Z Z Z (gh (a:=a) (c:=c) (R:=[])).ar (by rw[(OT hm hg).2];exact gI Z Z))
 refine an ?_
 refine RD ?_
 refine aq ?_
 refine VG (VK (Lc:=[]) (fun Fr w hF hw hS=>Ej Fr w (c:=M.ch) (aI.aJ aF (hS.at_ 1 Z)) yd n) Z Z ?_)
 rintro _ _ ⟨wa,wc,rfl,rfl⟩
 refine aK ?_
 refine VG (VO.alloc Z fun b6=>?_)
 refine VG (VT (vs:=(fj M.ch n).1.cells wa wc) (cs':=(fj M.ch n).1.cells wa wc) 0 Z Z Z Z (NR _) Z Z Z ?_)
 refine aK ?_
 refine VC.bp Z (fun ho=>?_) (fun ho=>CK ?_)
 ·refine aK ?_
  refine CR (ay.cU 4 5 Z Z Z ?_ (by rw[Wh hm hg ho];exact gI Z Z))
  exact(ae.trans (M:=qH p M a c ++ []) (dG [2,2]) gh).ar
 have ok1:=ok.fW ho
 refine aK ?_
 refine VG (VL 0 ((fj M.ch n).1.cells wa wc) Z Z Z Z ?_)
 refine aK ?_
 refine VG (VT (vs:=(fj M.ch n).1.cells wa wc) (cs':=bR (M.fW n) wa wc) 2 Z Z Z Z Uk Z Z Z ?_)
 refine VO.ar (L':=[pt p (bR (M.fW n) wa wc) qG,aJ aG 2 wa (M.fW n).ch.ms.length wc (flat ax (M.fW n).ch.ms)]) (dG [2,1]).ar ?_
 refine aK ?_
 refine VG (VK (Lc:=[]) (fun Fr w hF hw hS=>mA (M:=M.fW n) Fr w ok1 (hS.aP 0 Z) (aI.aJ aF (hS.at_ 1 Z))) Z Z ?_)
 rintro _ _ ⟨X,sa,sc,hX,rfl,rfl⟩
 refine aq ?_
 exact CR (ay.cU 4 5 Z Z Z (kH (p:=p) (M:=M.fW n) (a:=wa) (c:=wc) (R:=[])).ar (by rw[Wi hm hg ho];exact⟨X,sa,sc,hX,Z,Z⟩))
theorem Wj{n now:Int}(h:M.isNode n=false):M.join n now=(M,[],2):=by unfold aC.join;simp[h]
theorem Wk{n now:Int}(h:M.isNode n=true)(ho:(fJ M.ch n).2≠0):M.join n now=(M,[],(fJ M.ch n).2):=by unfold aC.join;simp[h,ho]
theorem Wl{n now:Int}(h:M.isNode n=true)(ho:(fJ M.ch n).2=0):M.join n now=(M.gN n now,(M.gN n now).all,0):=by unfold aC.join;simp[h,ho]
theorem Em(ok:M.Ok)(n now:Int):aH Tryz.prog 117 [.pointer (some ⟨p,0,none⟩),.int .i64 n,.int .i64 now] Fr w [dh p M]
  (fun v L=>xV (M.join n now).2.1 (M.join n now).2.2 v L [dh p (M.join n now).1]):=by
 have hl:=ok.ml
 refine TF 49 Tryz.func117 Z yn ah Z Z ?_
 refine RC ?_
 rintro⟨a,c⟩ -
 show VC _ _ _ [pt p (bR M a c) qG,aJ aG 2 a M.ch.ms.length c (flat ax M.ch.ms)] _
 refine aq ?_
 refine RE ?_
 refine aq ?_
 refine HF ?_
 refine aq ?_
 refine VG (VV (fun Fr w hF hw hS=>rQ Fr w (hS.aP 0 Z) n) Z ?_)
 refine aq ?_
 refine VC.dT Z (fun hn=>?_) (fun hn=>CK ?_)
 ·refine aq ?_
  exact CR (ay.cU 6 7 Z Z Z (gh (a:=a) (c:=c) (R:=[])).ar (by rw[Wj hn];exact gI Z Z))
 obtain⟨j,hj,hj6,_⟩:=ok.Ft (aC.Cm ok hn)
 refine an ?_
 refine RD ?_
 refine aq ?_
 refine VG (VK (Lc:=[]) (fun Fr w hF hw hS=>GX Fr w (c:=M.ch) (aI.aJ aF (hS.at_ 1 Z)) yd n) Z Z ?_)
 rintro _ _ ⟨wa,wc,rfl,rfl⟩
 refine aK ?_
 refine VG (VO.alloc Z fun b6=>?_)
 refine VG (VT (vs:=(fJ M.ch n).1.cells wa wc) (cs':=(fJ M.ch n).1.cells wa wc) 0 Z Z Z Z (NR _) Z Z Z ?_)
 refine aK ?_
 refine VC.bp Z (fun ho=>?_) (fun ho=>CK ?_)
 ·refine aK ?_
  refine CR (ay.cU 6 7 Z Z Z ?_ (by rw[Wk hn ho];exact gI Z Z))
  exact(ae.trans (M:=qH p M a c ++ []) (dG [2,2]) gh).ar
 have ok1:=ok.gN ho now
 have ok2:({ M with ch:=(fJ M.ch n).1 }:aC).Ok:=⟨ok1.n0,ok1.n1,ok1.p0,ok1.p1,ok1.ml,ok1.mr,ok.hl,ok.wl,ok.hr⟩
 have ok3:({ M with ch:=(fJ M.ch n).1,whole:=M.whole.set j false }:aC).Ok:=⟨ok1.n0,ok1.n1,ok1.p0,ok1.p1,ok1.ml,ok1.mr,ok.hl,by show(M.whole.set _ _).length=6;rw[ZB,ok.wl],ok.hr⟩
 refine aK ?_
 refine VG (VL 0 ((fJ M.ch n).1.cells wa wc) Z Z Z Z ?_)
 refine aK ?_
 refine VG (VT (vs:=(fJ M.ch n).1.cells wa wc) (cs':=bR { M with ch:=(fJ M.ch n).1 } wa wc) 2 Z Z Z Z Uk Z Z Z ?_)
 refine aK ?_
 refine VG (VI (bS j Z Z Z Z Z hj hj6) ?_)
 refine VG (VO.st 2 (cs':=bR { M with ch:=(fJ M.ch n).1,whole:=M.whole.set j false } wa wc) Z Z Z Z (by show 0+11+j*1<_;rw[nE ok2];omega) (by show(bR ({ M with ch:=(fJ M.ch n).1 }:aC) wa wc).set (0+11+j*1) _=_;rw[show 0+11+j*1=11+j from by omega,nF ok2 hj6]) Z ?_)
 refine aK ?_
 refine CD (ts 0 3 (ts 4 2 (.only 3 (.take 6 (.only 7 .nil))))) yn yr ?_
 refine ji ?_
 refine AG (AR (fun Fr w hF hs hS=>nC Fr w now) Z Z yu ?_)
 refine Vd ?_
 refine AG (VA.st 2 (cs':=bR (M.gN n now) wa wc) Z Z Z Z Z (by show 0+5+j*1<_;rw[nE ok3];omega) (by show(bR ({ M with ch:=(fJ M.ch n).1,whole:=M.whole.set j false }:aC) wa wc).set (0+5+j*1) _=_;rw[show 0+5+j*1=5+j from by omega,vB ok3 hj6,aC.gN,show n.toNat=j from by omega]) Z yu ?_)
 refine ji ?_
 refine CN (L':=[pt p (bR (M.gN n now) wa wc) qG,aJ aG 2 wa (M.gN n now).ch.ms.length wc (flat ax (M.gN n now).ch.ms)]) (dG [2,1]).ar ?_
 refine aK ?_
 refine VG (VK (Lc:=[]) (fun Fr w hF hw hS=>mA (M:=M.gN n now) Fr w ok1 (hS.aP 0 Z) (aI.aJ aF (hS.at_ 1 Z))) Z Z ?_)
 rintro _ _ ⟨X,sa,sc,hX,rfl,rfl⟩
 refine aq ?_
 exact CR (ay.cU 6 7 Z Z Z (kH (p:=p) (M:=M.gN n now) (a:=wa) (c:=wc) (R:=[])).ar (by rw[Wl hn ho];exact⟨X,sa,sc,hX,Z,Z⟩))
theorem Cp(ok:M.Ok){a:Option Addr}{c:Nat}(h:eQ Fr w p (bR M a c))(hm:aI ax 2 Fr w a M.ch.ms):aH Tryz.prog 118 [.pointer (some ⟨p,0,none⟩)] Fr w []
  (fun v L=>∃a' c',v=.agg (M.ch.cells a' c').toArray∧L=[aJ aG 2 a' M.ch.ms.length c' (flat ax M.ch.ms)]):=by
 have hl:=ok.ml
 refine TF 12 Tryz.func118 Z yn ah Z Z ?_
 refine CS (CG (VG (VO.alloc Z fun d=>?_)))
 refine aq ?_
 refine VG (VV (fun Fr w hF hw hS=>vA Fr w ok (h.of hF hw)) Z ?_)
 refine EY ?_
 refine Vc ?_
 refine X6 ?_
 rintro _ _ ⟨ma,mc,rfl,rfl⟩
 refine VG (VT (vs:=M.ch.cells ma mc) (cs':=M.ch.cells ma mc) 1 Z Z Z Z (NR _) Z Z Z ?_)
 refine aq ?_
 exact CR (ay.cell 2 Z Z Z (aE.many 1 Z Z) (IP 0 Z ae.nil).ar ⟨ma,mc,Z,Z⟩)
end
end Cl
namespace Cl
open Go Vg T Api Ch Rep Rd Conf Sched
attribute [local irreducible] VO VC VA
def Jh(k:Nat):List Bool:=(List.range 6).map fun(i:Nat)=>decide (i<k)
def rS(c:aX)(k:Nat):aC:=⟨c.nodes,c.bt,bq c,List.replicate 6 0,Jh k⟩
theorem Ji{k:Nat}(h:k<6):(Jh k).set k true=Jh (k+1):=by
 rcases(by omega:k=0∨k=1∨k=2∨k=3∨k=4∨k=5) with rfl | rfl | rfl | rfl | rfl | rfl<;>rfl
theorem iO{c:aX}(h:c=dy c):(4≤c.bt∧c.bt≤64)∧(4≤c.timeout∧c.timeout≤64)∧(0≤c.dB∧c.dB≤16)∧(1≤c.cG∧c.cG≤1099511627776)∧(4≤c.link∧c.link≤64)∧(1≤c.qs.length∧c.qs.length≤4):=by
 have e1:c.bt=aw c.bt 4 64:=congrArg aX.bt h
 have e2:c.timeout=aw c.timeout 4 64:=congrArg aX.timeout h
 have e3:c.dB=aw c.dB 0 16:=congrArg aX.dB h
 have e4:c.cG=aw c.cG 1 1099511627776:=congrArg aX.cG h
 have e5:c.link=aw c.link 4 64:=congrArg aX.link h
 have e6:c.qs=gj c.qs:=congrArg aX.qs h
 have n1:=fA (x:=c.bt) (lo:=4) (hi:=64) yp
 have n2:=fA (x:=c.timeout) (lo:=4) (hi:=64) yp
 have n3:=fA (x:=c.dB) (lo:=0) (hi:=16) yp
 have n4:=fA (x:=c.cG) (lo:=1) (hi:=1099511627776) yp
 have n5:=fA (x:=c.link) (lo:=4) (hi:=64) yp
 have n6:=oF c.qs
 rw[←e6] at n6
 omega
theorem Cq{c:aX}(h:c=dy c)(k:Nat):(rS c k).Ok:=by
 obtain⟨b1,b2,_⟩:=cN h
 obtain⟨b3,_⟩:=iO h
 refine⟨b1.1,b1.2,by show 0≤c.bt;omega,by show c.bt≤_;omega,?_,?_,Z,Z,fun x hx=>?_⟩
 ·show(gC c.chain.toNat).length≤7;rw[jr];omega
 ·intro x hx
  obtain⟨i,hi,rfl⟩:=Zv.1 (show x∈(List.range c.chain.toNat).map _ from hx)
  have:=List.mem_range.1 hi
  dsimp only;omega
 ·obtain rfl:=List.eq_of_mem_replicate hx
  decide
theorem Fu(c:aX)(h:c=dy c):rS c c.chain.toNat=u6 c:=by
 obtain⟨b1,b2,_⟩:=cN h
 unfold rS u6 Jh
 congr 1
 refine List.map_congr_left fun i hi=>?_
 by_cases e:(i:Int)<c.chain
 ·rw[DT e,DT yd]
 ·rw[DF e,DF yd]
theorem En{n k:Nat}(h:k<n):(gC n)[k]?=some ((k:Int),(1:Int)):=by
 unfold gC
 rw[Zn,List.getElem?_range h];rfl
theorem GZ(c:aX){qa:Option Addr}{qc:Nat}(hq:dZ Fr w qa c.qs)(hqa:sD qa)(hqc:c.qs.length≤qc):
  aH Tryz.prog 29 [.agg (c.cells qa qc).toArray] Fr w [] (fun v L=>if c=dy c then ∃p,v=.tuple #[.pointer (some ⟨p,0,none⟩),.int .i64 0]∧L=[dh p (u6 c)] else v=.tuple #[.pointer none,.int .i64 2]∧L=[]):=by
 refine TF 38 Tryz.func29 Z yn ah Z Z ?_
 refine CS (CG (VG (VB (vs:=c.cells qa qc) Z fun b1=>VG (VN ?_))))
 refine VF ?_
 refine VG (VK (Lc:=[]) (fun Fr w hF hs _=>uX Fr w c qa qc (fT hq hF hs) hqa hqc) Z Z ?_)
 rintro v L1 h
 by_cases hf:c=dy c
 rotate_left
 ·rw[if_neg hf] at h
  obtain⟨rfl,rfl⟩:=h
  refine aK ?_
  refine VG (VO.alloc Z fun b4=>?_)
  refine UU ?_
  refine wv ?_
  exact CR (ay.cU 2 3 Z Z Z ae.nil.ar W3)
 rw[if_pos hf] at h
 obtain⟨a,n,rfl,rfl⟩:=h
 obtain⟨b1',b2',_⟩:=cN hf
 have hlen:(bq c).ms.length=c.chain.toNat:=jr _
 refine aK ?_
 refine VG (VO.alloc Z fun b4=>?_)
 refine VG (VT (vs:=(bq c).cells a n) (cs':=(bq c).cells a n) 0 Z Z Z Z (NR _) Z Z Z ?_)
 refine J6 ?_
 refine pP ?_
 refine VG (VL 0 ((bq c).cells a n) Z Z Z Z ?_)
 refine VG (VI (LB (pv:=[(0,.int .i64 c.nodes),(1,.int .i64 c.bt),(2,.agg ((bq c).cells a n).toArray)]) (bR (rS c 0) a n) Z Z Z yn Z) ?_)
 refine VG (VB (vs:=bR (rS c 0) a n) Z fun q=>?_)
 refine wu ?_
 have hq2:∀(i:Nat) (x:bG),(bq c).ms[i]?=some x→x=((i:Int),(1:Int)):=fun i x hx=>by
  have hi:=(Zk.1 hx).1
  rw[hlen] at hi
  have:=En hi
  rw[show(bq c).ms=gC c.chain.toNat from rfl,this] at hx
  exact(Zy hx).symm
 refine CN (L':=[aJ aG 2 a (bq c).ms.length n (flat ax (bq c).ms),pt q (bR (rS c 0) a n) qG]) (dG [2,0]).ar ?_
 generalize hms:(bq c).ms=ms at hlen hq2
 refine VC.e7 0 Z (aV.sl _ _ _ _ _ _) ?_
 rintro(_ | ⟨mb,rest⟩) ⟨hx1,hx2,hx3⟩
 ·obtain⟨_,h0,_⟩:=hx3
  omega
 obtain⟨rfl,hx4⟩:=hx3
 dsimp only
 refine VC.loop (σ:=Nat) (fun k=>[(6,pV q),(24,.slice (some ⟨mb,0,none⟩) ms.length n),(25,.int .i64 ms.length),(26,.int .i64 (k:Int))]) (fun k=>[pt mb (flat ax ms++rest) aG,pt q (bR (rS c k) (some ⟨mb,0,none⟩) n) qG]) (fun k=>k≤ms.length) (fun k=>ms.length-k) 0
  (Zj _) bd ER ?_
 rintro k hk
 refine aq ?_
 refine CP (p:=(k:Int)<ms.length) Z (fun h1=>CK ?_) (fun h1=>CX ?_)
 rotate_left
 ·obtain rfl:k=ms.length:=by omega
  refine aq ?_
  refine CR (ay.cU 2 3 Z Z Z (L':=[dh q (u6 c)]) ?_ (by rw[if_pos hf];exact⟨q,Z,Z⟩))
  rw[←Fu c hf,←hlen]
  refine(ae.dk (some ⟨mb,0,none⟩,n) (IP 1 Z ?_)).ar
  show ae [pt mb (flat ax ms++rest) aG] [aJ aG 2 (some ⟨mb,0,none⟩) (bq c).ms.length n (flat ax (bq c).ms)]
  rw[hms]
  exact ae.sl hx1 hx2 (by simpa using hx4) ae.refl
 obtain⟨x,hx⟩:∃x,ms[k]?=some x:=⟨_,GE yd⟩
 obtain rfl:=hq2 k x hx
 have hk6:k<6:=by omega
 have ok:=Cq hf k
 refine HA ?_
 refine VG (VL 0 (ax ((k:Int),1)) Z Z Z (by show((flat ax ms++rest).drop (0+k*2)).take 2=_;rw[Zl];exact fC aF hx rest) ?_)
 refine VG (VO.alloc Z fun b8=>?_)
 refine VG (VT (vs:=ax ((k:Int),1)) (cs':=ax ((k:Int),1)) 0 Z Z Z Z (NR _) Z Z Z ?_)
 refine aq ?_
 refine TB ?_
 refine eT ?_
 refine AG (AI Z (bS k Z Z Z Z Z Z hk6) ?_)
 refine AG (VA.st 2 (cs':=bR (rS c (k+1)) (some ⟨mb,0,none⟩) n) Z Z Z Z Z (by show 0+11+k*1<_;rw[nE ok];omega) (by show(bR (rS c k) _ n).set (0+11+k*1) _=_;rw[show 0+11+k*1=11+k from by omega,nF ok hk6];show bR ⟨_,_,_,_,(Jh k).set k true⟩ _ _=_;rw[Ji hk6];rfl) Z yu ?_)
 refine ji ?_
 refine qO ?_
 exact⟨k+1,by omega,by dsimp only;omega,SC Z (SC Z (SC Z (Sub.int Z yd (SN _)))),(dG [1,1]).ar⟩
end Cl
namespace Cl
open Go Vg T Api Ch Rep
attribute [local irreducible] VO VC VA
abbrev lO:TypeId:=138
structure wO where
 q:Nat
 b:Nat
 a:Option Addr
 c:Nat
def Qv(o:Option (Option gk))(b:Nat):Value:=match o with
 | some _=>.pointer (some ⟨b,0,none⟩)
 | none=>.pointer none
def mC(o:Option (Option gk))(b:Nat):HP:=match o with
 | some x=>pt b (sP x) qC
 | none=>gm True
def ed(S:aN)(y:wO):List Value:=[.int .i64 S.id,.int .i64 S.cls,.int .i64 S.timeout,.int .i64 S.dB,.pointer (some ⟨y.q,0,none⟩),.int .i64 S.ch.al,.slice y.a S.ch.ms.length y.c,.int .i64 S.ch.drain,Qv S.out y.b,.int .i64 S.fL,.int .i64 S.since,.int .i64 S.zV,.bool S.unsure,.int .i64 S.seq,.int .i64 S.tries,.int .i64 S.cl,.int .i64 S.deadline,.int .i64 S.op.kind,.string S.op.key,.string S.op.value,.int .i64 S.op.version]
def wP(p:Nat)(S:aN)(y:wO):List HP:=[pt p (ed S y) lO,pt y.q (fv S.tok) gV,aJ aG 2 y.a S.ch.ms.length y.c (flat ax S.ch.ms),mC S.out y.b]
def cw(p:Nat)(S:aN):HP:=hex fun y:wO=>cT (wP p S y)
theorem aV.pz(p:Nat)(S:aN):aV (ι:=wO) (cw p S) (fun _=>True) (fun y=>wP p S y):=fun w ids ⟨x,h⟩ hn=>⟨x,trivial,ids,h,hn,fun _ h=>h⟩
theorem ae.pz{p:Nat}{S:aN}{L K:List HP}(y:wO)(h:ae L (wP p S y++K)):ae L (cw p S::K):=ae.ex (f:=fun y:wO=>cT (wP p S y)) y (ae.sep h)
structure aN.Ok(S:aN):Prop where
 c0:1≤S.cls
 c1:S.cls≤4
 t0:0≤S.timeout
 t1:S.timeout≤1000
 b0:0≤S.dB
 b1:S.dB≤16
 tok:S.tok.Ok
 ml:S.ch.ms.length≤6
 out:S.fL≠0→S.out=some none
 s0:0≤S.since
 s1:S.since≤1099511627776
 q0:0≤S.seq
 r0:0≤S.tries
 r1:S.tries≤17
 rb:S.fL=1∨S.fL=3→S.tries≤16
def fY(toQ:Int)(f:aa):rO:=((toQ,f,[]),(none,0))
theorem Cr{p:Nat}{S:aN}{y:wO}{A R:List HP}:ae (A++(wP p S y++R)) (cw p S::A):=
 (ae.perm ZM).trans (ae.pz y ((ae.of_eq (Zr _ _ _)).trans (ae.app ae.refl ae.Jg)))
theorem Fv{p:Nat}{S:aN}{y:wO}{toQ:Int}{f:aa}{sb:Nat}{R:List HP}:ae (pt sb (jI (fY toQ f)) iv::(wP p S y++R)) (cw p S::aJ iv 30 (some ⟨sb,0,none⟩) 1 1 (flat jI [fY toQ f]) :: [fY toQ f].map jX):=by
 rw[vC]
 refine ae.trans (M:=[aJ iv 30 (some ⟨sb,0,none⟩) 1 1 (jI (fY toQ f)),jX (fY toQ f)]++(wP p S y++R)) ?_ Cr
 exact ae.Uf (n:=1) (by rw[ud]) (ae.cons (ae.bY ae.refl))
theorem mD{p:Nat}{S:aN}{y:wO}{R:List HP}:ae (wP p S y++R) (cw p S::aJ iv 30 none 0 0 (flat jI [])::([]:List rO).map jX):=
 (ae.bY (ae.refl (L:=wP p S y++R))).trans (Cr (A:=[aJ iv 30 none 0 0 []]))
theorem Eo{v:Value}{L H:List HP}{toQ:Int}{f:aa}{sb:Nat}(hv:v=.slice (some ⟨sb,0,none⟩) 1 1)(hL:L=H++(aJ iv 30 (some ⟨sb,0,none⟩) 1 1 (flat jI [fY toQ f]) :: [fY toQ f].map jX)):kG [(toQ,f,[])] v L H:=Ar (x:=fY toQ f) hv hL
section
variable {p:Nat} {S:aN} {y:wO}
theorem As(n:Int):aH Tryz.prog 149 [.int .i64 n] Fr w [] (fun v L=>v=.int .i64 (cu n)∧L=[]):=by
 refine TF 6 Tryz.func149 Z yn ah Z Z ?_
 refine aq ?_
 exact CR (ay.int 2 Z Z WU ER ⟨rfl,Z⟩)
theorem vE(ok:S.Ok)(h:eQ Fr w p (ed S y)):aH Tryz.prog 121 [.pointer (some ⟨p,0,none⟩)] Fr w [] (fun v L=>v=.bool true∧L=[]):=by
 have:=ok.c0
 refine TF 12 Tryz.func121 Z yn ah Z Z ?_
 refine T9 ?_
 refine yS ?_
 exact CR (ay.bool (b:=true) 2 Z Z (DT yd) ER ⟨rfl,Z⟩)
theorem vF(ok:S.Ok)(h:eQ Fr w p (ed S y)):aH Tryz.prog 147 [.pointer (some ⟨p,0,none⟩)] Fr w [] (fun v L=>v=.bool (S.fL != 0)∧L=[]):=by
 refine TF 12 Tryz.func147 Z yn ah Z Z ?_
 refine aK ?_
 refine Ve ?_
 refine T9 ?_
 refine yS ?_
 exact EX
theorem G0(ok:S.Ok)(h:eQ Fr w p (ed S y)):aH Tryz.prog 71 [.pointer (some ⟨p,0,none⟩)] Fr w [] (fun v L=>v=.int .i64 S.seq∧L=[]):=by
 refine TF 10 Tryz.func71 Z yn ah Z Z ?_
 refine aK ?_
 refine Ve ?_
 refine J6 ?_
 refine yS ?_
 exact EX
def Qw(o:Option gk):Value:=.tuple #[.agg (eK (o.getD jy)).toArray,.bool o.isSome]
theorem wQ(ok:S.Ok)(h:eQ Fr w p (ed S y))(hs:∀x,S.out=some x→eQ Fr w y.b (sP x)):aH Tryz.prog 69 [.pointer (some ⟨p,0,none⟩)] Fr w [] (fun v L=>v=Qw S.outcome∧L=[]):=by
 have hv:∀o,S.out=o→(ed S y)[8]?=some (Qv o y.b):=fun o e=>by rw[←e];rfl
 refine TF 22 Tryz.func69 Z yn ah Z Z ?_
 refine CS (CG (VG (VO.alloc Z fun b2=>?_)))
 refine aK ?_
 refine Ve ?_
 refine aK ?_
 refine VG (VY 7 false Z Z ?_)
 refine aK ?_
 unfold aN.outcome
 cases ho:S.out with
 | none=>
  refine VG (VO.load (v:=.pointer none) Z Z (aE.aP h (hv _ ho)) ?_)
  refine wv ?_
  refine VG (VL 0 (eK jy) Z Z Z Z ?_)
  refine XV ?_
  refine aK ?_
  exact XW
 | some x=>
  refine Yb ?_
  refine J6 ?_
  refine aK ?_
  refine Yb ?_
  refine VG (VV (fun Fr w hF hw _=>GQ Fr w x ((hs x ho).of hF hw)) Z ?_)
  refine aK ?_
  refine VG (VT (vs:=eK (x.getD jy)) (cs':=eK (x.getD jy)) 0 Z Z Z Z (NR _) Z Z Z ?_)
  refine aK ?_
  exact CR (ay.aT 2 3 Z Z Z (aE.many (ds:=eK (x.getD jy)) 0 Z Z) Z ae.nil.ar ⟨rfl,Z⟩)
theorem p8:aH Tryz.prog 222 [] Fr w [] (fun v L=>∃sb,v=.slice (some ⟨sb,0,none⟩) 1 1∧L=[pt sb (jI (fY 16 { aa.zero with kind:=7 })) iv]):=by
 refine TF 4 Tryz.func222 Z yn ah Z Z ?_
 refine aq ?_
 refine VG (VI (LB (pv:=[(0,.int .i64 7)]) (({ aa.zero with kind:=7 }:aa).cells (none,0,0)) Z Z Z yn Z) ?_)
 refine VG (VI (LB (pv:=[(0,.int .i64 16),(1,.agg (({ aa.zero with kind:=7 }:aa).cells (none,0,0)).toArray)]) (jI (fY 16 { aa.zero with kind:=7 })) Z Z Z yn Z) ?_)
 refine VG (VO.buildSlice (pv:=[(0,.agg (jI (fY 16 { aa.zero with kind:=7 })).toArray)]) (jI (fY 16 { aa.zero with kind:=7 })) Z Z Z Z yp (bM Z Z Z) fun sb=>?_)
 refine aq ?_
 exact CR (ay.tmp 0 Z Z ER ⟨sb,Z,Z⟩)
theorem xX(ok:S.Ok)(now:Int):aH Tryz.prog 152 [.pointer (some ⟨p,0,none⟩),.int .i64 now] Fr w [cw p S] (fun v L=>kG (S.ask now).2 v L [cw p (S.ask now).1]):=by
 refine TF 13 Tryz.func152 Z yn ah Z Z ?_
 refine O_ ?_
 rintro y -
 show VC _ _ _ [pt p (ed S y) lO,pt y.q (fv S.tok) gV,aJ aG 2 y.a S.ch.ms.length y.c (flat ax S.ch.ms),mC S.out y.b] _
 refine aq ?_
 refine VG (VO.st 0 (cs':=ed { S with fL:=1 } y) Z Z Z Z Tc Z Z ?_)
 refine VG (VO.st 0 (cs':=ed { S with fL:=1,since:=now } y) Z Z Z Z (by show 10<21;omega) Z Z ?_)
 refine aq ?_
 refine VG (VK (Lc:=[]) (fun Fr w hF hw _=>p8 Fr w) Z Z ?_)
 rintro _ _ ⟨sb,rfl,rfl⟩
 refine aq ?_
 exact CR (ay.tmp 4 Z Z (Fv (S:={ S with fL:=1,since:=now }) (y:=y) (R:=[])).ar (Eo Z Z))
end
end Cl
namespace Cl
open Go Vg T Api Ch Rep
attribute [local irreducible] VO VC VA
section
variable {p:Nat} {S:aN}
theorem xY(ok:S.Ok)(now:Int):aH Tryz.prog 151 [.pointer (some ⟨p,0,none⟩),.int .i64 now] Fr w [cw p S] (fun v L=>kG (S.cn now).2 v L [cw p (S.cn now).1]):=by
 have hr0:=ok.r0
 have hr1:=ok.r1
 have hml:=ok.ml
 refine TF 68 Tryz.func151 Z yn ah Z Z ?_
 refine O_ ?_
 rintro y -
 show VC _ _ _ [pt p (ed S y) lO,pt y.q (fv S.tok) gV,aJ aG 2 y.a S.ch.ms.length y.c (flat ax S.ch.ms),mC S.out y.b] _
 refine Ov ?_
 refine aq ?_
 refine VG (VO.st 0 (cs':=ed { S with tries:=S.tries+1 } y) Z Z Z Z (by show 14<21;omega) Z Z ?_)
 refine aq ?_
 refine VG (VO.st 0 (cs':=ed { S with tries:=S.tries+1,fL:=2 } y) Z Z Z Z Tc Z Z ?_)
 refine VG (VO.st 0 (cs':=ed (S.nT now) y) Z Z Z Z (by show 10<21;omega) Z Z ?_)
 refine aq ?_
 refine VG (VL 0 (S.ch.cells y.a y.c) Z Z Z Z ?_)
 refine VG (VV (fun Fr w hF hw hS=>lW Fr w (c:=S.ch) (aI.aJ aF (hS.at_ 2 Z)) yd) Z (VG (VN ?_)))
 refine CS (VC.cq (σ:=Int) (fun toQ=>[(0,pV p),(5,.int .i64 toQ)]) (fun _=>[pt p (ed (S.nT now) y) lO,pt y.q (fv S.tok) gV,aJ aG 2 y.a S.ch.ms.length y.c (flat ax S.ch.ms),mC S.out y.b]) (fun toQ=>toQ=(S.nT now).toQ) ?_ ?_)
 ·refine aq ?_
  refine VG (VL 0 S.op.cells Z Z Z Z ?_)
  refine VG (VV (fun Fr w hF hw hS=>Kv.ku Fr w S.op) Z ?_)
  refine aq ?_
  refine CC Z (fun h=>?_) (fun h=>CK ?_)
  ·refine aq ?_
   refine VG (VL 0 (S.ch.cells y.a y.c) Z Z Z Z ?_)
   refine VG (VV (fun Fr w hF hw hS=>lX Fr w (c:=S.ch) (aI.aJ aF (hS.at_ 2 Z)) yd) Z ?_)
   refine aq ?_
   exact⟨_,by show qk S.ch=if u5 S.op=true then qk S.ch else sn S.ch;rw[show u5 S.op=true from h];rfl,SC Z (SC Z (SN _)),ER⟩
  ·exact⟨_,by show sn S.ch=if u5 S.op=true then qk S.ch else sn S.ch;rw[show u5 S.op=false from h];rfl,SC Z (SC Z (SN _)),ER⟩
 rintro toQ hto
 unfold aN.cn
 rw[←hto]
 refine CS (CD (ts 0 32 (.only 32 (.take 33 .nil))) yn yr ?_)
 refine eT ?_
 refine AG (VA.kn 0 S.op.cells Z Z Z Z Z ?_)
 refine AG (AI Z (LB (pv:=[(0,.int .i64 1),(1,.int .i64 S.ch.al),(2,.int .i64 S.id),(3,.int .i64 S.seq),(4,.int .i64 (S.tries+1)),(5,.int .i64 S.cl),(6,.int .i64 S.deadline),(7,.agg S.op.cells.toArray)]) ((jK (S.nT now)).cells (none,0,0)) Z Z Z yn Z) ?_)
 refine AG (AI Z (LB (pv:=[(0,.int .i64 toQ),(1,.agg ((jK (S.nT now)).cells (none,0,0)).toArray)]) (jI (fY toQ (jK (S.nT now)))) Z Z Z yn Z) ?_)
 refine AG (AO (a8.buildSlice (n:=1) (pv:=[(0,.agg (jI (fY toQ (jK (S.nT now)))).toArray)]) (cells:=jI (fY toQ (jK (S.nT now)))) rfl rfl rfl rfl yp (bM rfl rfl rfl)) rfl (fun v L' g=>by obtain⟨b,rfl,rfl⟩:=g;exact Dg) ?_)
 rintro _ _ ⟨sb,rfl,rfl⟩
 refine ji ?_
 exact CR (ay.tmp 4 Z Z (Fv (S:=S.nT now) (y:=y) (R:=[])).ar (Eo Z Z))
theorem sS(ho:S.out=some none){o:gk}(h1:1≤o.kind)(h2:o.kind≤3):aH Tryz.prog 244 [.pointer (some ⟨p,0,none⟩),.agg (eK o).toArray] Fr w [cw p S] (fun v L=>v=.tuple #[]∧L=[cw p (S.end_ o)]):=by
 refine TF 13 Tryz.func244 Z yn ah Z Z ?_
 refine CS (CG (VG (VB (vs:=eK o) Z fun b3=>VG (VN ?_))))
 refine VC.e7 1 Z (aV.pz p S) ?_
 rintro y -
 have hv:(ed S y)[8]?=some (.pointer (some ⟨y.b,0,none⟩)):=by show some (Qv S.out y.b)=_;rw[ho];rfl
 have hp:mC S.out y.b=pt y.b (sP none) qC:=by rw[ho];rfl
 have he:S.end_ o={ S with out:=some (some o),fL:=0 }:=by unfold aN.end_ Sm;rw[ho]
 rw[he]
 show VC _ _ _ [pt p (ed S y) lO,pt y.q (fv S.tok) gV,aJ aG 2 y.a S.ch.ms.length y.c (flat ax S.ch.ms),mC S.out y.b,pt b3 (eK o) rL] _
 rw[hp]
 refine CN (L':=[pt y.b (sP none) qC,pt b3 (eK o) rL,pt p (ed S y) lO,pt y.q (fv S.tok) gV,aJ aG 2 y.a S.ch.ms.length y.c (flat ax S.ch.ms)]) (dG [3,3,0,0,0]).ar ?_
 refine CS (CD (ts 0 5 (.only 5 .nil)) yn yr ?_)
 refine ji ?_
 refine AG (VA.ld 2 Z Z Z Z hv ?_)
 refine AG (VA.kn 1 (eK o) Z Z Z Z Z ?_)
 refine AG (AO (OC (Lc:=[pt y.b (sP none) qC]) (Lr:=[pt b3 (eK o) rL,pt p (ed S y) lO,pt y.q (fv S.tok) gV,aJ aG 2 y.a S.ch.ms.length y.c (flat ax S.ch.ms)]) rfl (.refl _) (fun Fr w hF hw hS=>GV Fr w h1 h2)) rfl (fun v L' g=>by obtain⟨_,⟨rfl,rfl⟩,rfl⟩:=g;exact(by(try refine Pd.st ?_);(repeat(first|exact Pd.nil|exact Pd.fnil|refine Pd.inner ?_|refine Pd.skip yr ?_|refine zf (zo 0 rfl rfl) ?_|refine zf (zo 1 rfl rfl) ?_|refine zf (zo 2 rfl rfl) ?_|refine zf (zm 0 rfl rfl) ?_|refine zf (zm 1 rfl rfl) ?_|refine zf (zm 2 rfl rfl) ?_|refine zf (aE.aP (aE.one 2 rfl hv) rfl) ?_|refine zf ((aE.one 2 rfl hv)) ?_|refine zc (zo 0 rfl rfl) ?_|refine zc (zo 1 rfl rfl) ?_|refine zc (zo 2 rfl rfl) ?_|refine zc (zm 0 rfl rfl) ?_|refine zc (zm 1 rfl rfl) ?_|refine zc (zm 2 rfl rfl) ?_|refine zc (aE.aP (aE.one 2 rfl hv) rfl) ?_|refine zc ((aE.one 2 rfl hv)) ?_)))) ?_)
 rintro _ _ ⟨_,⟨rfl,rfl⟩,rfl⟩
 refine Hz ?_
 have hc:ed S y=ed { S with out:=some (some o) } y:=by unfold ed;rw[ho];rfl
 rw[hc]
 refine VG (VO.st 2 (cs':=ed { S with out:=some (some o),fL:=0 } y) Z Z Z Z Tc Z Z ?_)
 refine aq ?_
 exact ay.void Z (ae.pz (S:={ S with out:=some (some o),fL:=0 }) y (IP 2 Z (IP 2 Z (IP 2 Z (IP 0 Z ae.nil))))).ar ⟨rfl,Z⟩
theorem qI(ho:S.out=some none)(reason:Int):aH Tryz.prog 179 [.pointer (some ⟨p,0,none⟩),.int .i64 reason] Fr w [cw p S] (fun v L=>kG (S.giveUp reason).2 v L [cw p (S.giveUp reason).1]):=by
 unfold aN.giveUp
 refine TF 17 Tryz.func179 Z yn ah Z Z ?_
 refine O_ ?_
 rintro y -
 show VC _ _ _ [pt p (ed S y) lO,pt y.q (fv S.tok) gV,aJ aG 2 y.a S.ch.ms.length y.c (flat ax S.ch.ms),mC S.out y.b] _
 refine Dc ?_
 refine CS (VC.cq (σ:=gk) (fun _=>[(0,pV p)]) (fun o=>[cw p (S.end_ o)]) (fun o=>o=if S.unsure then ⟨3,0,cY⟩ else ⟨2,reason,cY⟩) ?_ ?_)
 ·refine an ?_
  refine CC Z (fun h=>?_) (fun h=>?_)
  ·refine TQ ?_
   refine aq ?_
   refine VG (VI (LB (pv:=[(0,.int .i64 3)]) (eK ⟨3,0,cY⟩) Z Z Z yn Z) ?_)
   refine VG (VK (Lc:=[cw p S]) (fun Fr w hF hw _=>sS Fr w ho (o:=⟨3,0,cY⟩) yp yp) Z Z ?_)
   rintro _ _ ⟨rfl,rfl⟩
   refine aq ?_
   exact⟨_,by rw[h];rfl,SC Z (SN _),ER⟩
  ·refine TQ ?_
   refine aq ?_
   refine VG (VI (LB (pv:=[(0,.int .i64 2),(1,.int .i64 reason)]) (eK ⟨2,reason,cY⟩) Z Z Z yn Z) ?_)
   refine VG (VK (Lc:=[cw p S]) (fun Fr w hF hw _=>sS Fr w ho (o:=⟨2,reason,cY⟩) (by show(1:Int)≤2;decide) (by show(2:Int)≤3;decide)) Z Z ?_)
   rintro _ _ ⟨rfl,rfl⟩
   refine aq ?_
   exact⟨_,by rw[h];rfl,SC Z (SN _),ER⟩
 rintro o rfl
 generalize (if S.unsure=true then (⟨3,0,cY⟩:gk) else ⟨2,reason,cY⟩)=o
 refine aq ?_
 refine VG (VK (Lc:=[]) (fun Fr w hF hw _=>p8 Fr w) Z Z ?_)
 rintro _ _ ⟨sb,rfl,rfl⟩
 refine aq ?_
 refine CR (ay.tmp 4 Z Z ?_ (Eo (toQ:=16) (f:={ aa.zero with kind:=7 }) (sb:=sb) Z Z))
 rw[vC]
 refine ae.ar (ae.trans (M:=[aJ iv 30 (some ⟨sb,0,none⟩) 1 1 (jI (fY 16 { aa.zero with kind:=7 })),jX (fY 16 { aa.zero with kind:=7 }),cw p (S.end_ o)]) ?_ (dG [2,0,0]))
 exact ae.Uf (n:=1) (by rw[ud]) (ae.cons (ae.bY ae.refl))
end
end Cl
namespace Cl
open Go Vg T Api Ch Rep
attribute [local irreducible] VO VC VA
section
variable {p:Nat} {S:aN}
theorem mE{v:Value}{L H:List HP}(hv:v=.slice none 0 0)(hL:L=H++(aJ iv 30 none 0 0 (flat jI [])::([]:List rO).map jX)):kG [] v L H:=mB hv hL
theorem vG(ok:S.Ok)(ho:S.out=some none)(reason now:Int)(h0:0≤now)(h1:now≤1099511627776):aH Tryz.prog 178 [.pointer (some ⟨p,0,none⟩),.int .i64 reason,.int .i64 now] Fr w [cw p S] (fun v L=>kG (S.nu reason now).2 v L [cw p (S.nu reason now).1]):=by
 unfold aN.nu
 refine TF 49 Tryz.func178 Z yn ah Z Z ?_
 refine O_ ?_
 rintro y -
 show VC _ _ _ [pt p (ed S y) lO,pt y.q (fv S.tok) gV,aJ aG 2 y.a S.ch.ms.length y.c (flat ax S.ch.ms),mC S.out y.b] _
 refine aq ?_
 refine CD (ts 0 23 (.only 23 (ts 24 2 .nil))) yn yr ?_
 refine lS ?_
 by_cases g1:S.dB<S.tries
 ·rw[if_pos (.inl g1)]
  refine AG (AY 16 true Z (DT g1) ?_)
  refine lS ?_
  refine AG (AY 24 true Z Z ?_)
  refine Pc ?_
  refine wm ?_
  refine TQ ?_
  refine aq ?_
  refine Vf ?_
  rintro _ _ ⟨X,sa,sc,hX,rfl,rfl⟩
  refine aq ?_
  exact Q4
 refine AG (AY 16 false Z (DF g1) ?_)
 refine lS ?_
 by_cases g2:S.deadline<now
 ·rw[if_pos (.inr g2)]
  refine AG (AY 24 true Z (DT g2) ?_)
  refine Pc ?_
  refine wm ?_
  refine TQ ?_
  refine aq ?_
  refine Vf ?_
  rintro _ _ ⟨X,sa,sc,hX,rfl,rfl⟩
  refine aq ?_
  exact Q4
 rw[if_neg (fun h=>h.elim g1 g2)]
 refine AG (AY 24 false Z (DF g2) ?_)
 refine lS ?_
 refine AG (AO (OC (Lc:=[pt y.q (fv S.tok) gV]) (Lr:=[pt p (ed S y) lO,aJ aG 2 y.a S.ch.ms.length y.c (flat ax S.ch.ms),mC S.out y.b]) rfl (.swap _ _ _) (fun Fr w hF hw hS=>Eh Fr w ok.tok now)) rfl (fun v L' g=>by obtain⟨_,⟨rfl,rfl⟩,rfl⟩:=g;exact Dg) ?_)
 rintro _ _ ⟨_,⟨rfl,rfl⟩,rfl⟩
 refine oc ?_
 refine VC.dT Z (fun hb=>?_) (fun hb=>CK ?_)
 ·rw[if_neg (by rw[hb];decide)]
  refine CN (L':=[cw p (S.wI now)]) (ae.pz (S:=S.wI now) y (dG [1,0,0,0])).ar ?_
  refine aq ?_
  refine VG (VK (Lc:=[cw p (S.wI now)]) (Lr:=[]) (fun Fr w hF hw _=>qI (S:=S.wI now) Fr w ho reason) Z Z ?_)
  rintro _ _ ⟨X,sa,sc,hX,rfl,rfl⟩
  refine aq ?_
  exact Q4
 rw[if_pos hb]
 have hg:=Sz S.tries 64
 refine aq ?_
 refine VG (VO.st 1 (cs':=ed { S with fL:=3 } y) Z Z Z Z Tc Z Z ?_)
 refine jA ?_
 refine VG (VV (fun Fr w hF hw _=>I_ Fr w S.tries 64) Z ?_)
 refine JY ?_
 refine aq ?_
 refine VG (VO.st 1 (cs':=ed ((S.wI now).Fg now) y) Z Z Z Z (by show 11<21;omega) Z Z ?_)
 refine aq ?_
 refine CR (ay.tmp 6 Z Z ?_ (mE Z Z))
 exact(ae.trans (M:=wP p ((S.wI now).Fg now) y ++ []) (dG [1,0,0,0]) mD).ar
theorem wS(ok:S.Ok)(ho:S.out=some none)(reason now:Int)(h0:0≤now)(h1:now≤1099511627776):aH Tryz.prog 286 [.pointer (some ⟨p,0,none⟩),.int .i64 reason,.int .i64 now] Fr w [cw p S] (fun v L=>kG (S.refused reason now).2 v L [cw p (S.refused reason now).1]):=by
 have ok2:({ S with unsure:=true }:aN).Ok:=⟨ok.c0,ok.c1,ok.t0,ok.t1,ok.b0,ok.b1,ok.tok,ok.ml,ok.out,ok.s0,ok.s1,ok.q0,ok.r0,ok.r1,ok.rb⟩
 unfold aN.refused
 refine TF 25 Tryz.func286 Z yn ah Z Z ?_
 refine Dc ?_
 refine CS (CS (CG (VG (VN ?_))))
 refine VC.cq (σ:=aN) (fun _=>[(0,pV p),(1,.int .i64 reason),(2,.int .i64 now)]) (fun S'=>[cw p S']) (fun S'=>(S'={ S with unsure:=true }∧(reason=6∨reason=5∨reason=7))∨(S'=S∧¬(reason=6∨reason=5∨reason=7)∧¬(reason=2∨reason=10))) ?_ ?_
 rotate_left
 ·rintro S' hS
  have key:S'.Ok∧S'.out=some none∧(if reason=6∨reason=5∨reason=7 then ({ S with unsure:=true }:aN).nu reason now else if reason=2∨reason=10 then S.giveUp reason else S.nu reason now)=S'.nu reason now:=by
   rcases hS with ⟨rfl,h⟩ | ⟨rfl,h,h'⟩
   ·exact⟨ok2,ho,if_pos h⟩
   ·exact⟨ok,ho,by rw[if_neg h,if_neg h']⟩
  rw[key.2.2]
  refine aq ?_
  refine VG (VK (Lc:=[cw p S']) (Lr:=[]) (fun Fr w hF hw _=>vG Fr w key.1 key.2.1 reason now h0 h1) Z Z ?_)
  rintro _ _ ⟨X,sa,sc,hX,rfl,rfl⟩
  refine aq ?_
  exact Q4
 refine VC.block ?_
 refine CS (VC.cq (σ:=Bool) (fun b=>[(0,pV p),(1,.int .i64 reason),(2,.int .i64 now),(7,.int .i64 reason),(8,.bool b)]) (fun _=>[cw p S]) (fun b=>b=true↔(reason=6∨reason=5∨reason=7)) ?_ ?_)
 ·refine aq ?_
  refine CE Z (fun k=>CK ?_) (fun k=>?_)
  ·exact⟨true,by simp[k],SC Z (SC Z (SC Z (SC Z (Sub.bl Z (beq_iff_eq.2 k) (SN _))))),ER⟩
  refine aq ?_
  refine CE Z (fun k5=>CK ?_) (fun k5=>?_)
  ·exact⟨true,by simp[k5],SC Z (SC Z (SC Z (SC Z (Sub.bl Z (beq_iff_eq.2 k5) (SN _))))),ER⟩
  refine aq ?_
  exact⟨decide (reason=7),by simp[k,k5],SC Z (SC Z (SC Z (SC Z (Sub.bl Z Z (SN _))))),ER⟩
 rintro b hb
 refine aq ?_
 refine CC Z (fun k=>?_) (fun k=>?_)
 ·have k:=hb.1 k
  refine O_ ?_
  rintro y -
  show VC _ _ _ [pt p (ed S y) lO,pt y.q (fv S.tok) gV,aJ aG 2 y.a S.ch.ms.length y.c (flat ax S.ch.ms),mC S.out y.b] _
  refine aq ?_
  refine Yc ?_
  refine aq ?_
  exact⟨{ S with unsure:=true },.inl ⟨rfl,k⟩,bd,(ae.pz (S:={ S with unsure:=true }) y ae.refl).ar⟩
 have k:¬(reason=6∨reason=5∨reason=7):=fun h=>by rw[hb.2 h] at k;cases k
 refine CS (VC.cq (σ:=Bool) (fun b=>[(0,pV p),(1,.int .i64 reason),(2,.int .i64 now),(15,.bool b)]) (fun _=>[cw p S]) (fun b=>b=true↔(reason=2∨reason=10)) ?_ ?_)
 ·refine aq ?_
  refine CE Z (fun k=>CK ?_) (fun k=>?_)
  ·exact⟨true,by simp[k],SC Z (SC Z (SC Z (Sub.bl Z (beq_iff_eq.2 k) (SN _)))),ER⟩
  refine aq ?_
  exact⟨decide (reason=10),by simp[k],SC Z (SC Z (SC Z (Sub.bl Z Z (SN _)))),ER⟩
 rintro b2 hb2
 refine aq ?_
 refine CC Z (fun k2=>?_) (fun k2=>CK ?_)
 ·rw[if_neg k,if_pos (hb2.1 k2)]
  refine aq ?_
  refine Vf ?_
  rintro _ _ ⟨X,sa,sc,hX,rfl,rfl⟩
  refine aq ?_
  exact Q4
 ·exact⟨S,.inr ⟨rfl,k,fun h=>by rw[hb2.2 h] at k2;cases k2⟩,bd,ER⟩
end
end Cl
namespace Cl
open Go Vg T Api Ch Rep Rd
attribute [local irreducible] VO VC VA
section
variable {p:Nat} {S:aN}
theorem Ep(ok:S.Ok)(f:aa){ma:Option Addr}{mc:Nat}{ms:List bG}(hm:aI ax 2 Fr w ma ms)(hml:ms.length≤1000000)(now:Int):aH Tryz.prog 250 [.pointer (some ⟨p,0,none⟩),.agg (f.cells (ma,ms.length,mc)).toArray,.int .i64 now] Fr w [cw p S] (fun v L=>kG (S.take f ms now).2 v L [cw p (S.take f ms now).1]):=by
 have htk:=jY now
 unfold aN.take
 generalize htn:cu now=tn at htk
 generalize hfc:f.cells (ma,ms.length,mc)=fc
 have hkd:fc[0]?=some (.int .i64 f.kind):=by rw[←hfc];rfl
 have hch:(fc.drop 23).take 3=dL.cells ⟨f.bU,ms,f.drain⟩ ma mc:=by rw[←hfc];rfl
 have hep:fc[23]?=some (.int .i64 f.bU):=by rw[←hfc];rfl
 have hmm:fc[24]?=some (.slice ma ms.length mc):=by rw[←hfc];rfl
 have hcl:fc[2]?=some (.int .i64 f.aj):=by rw[←hfc];rfl
 have hsq:fc[3]?=some (.int .i64 f.seq):=by rw[←hfc];rfl
 have hty:fc[4]?=some (.int .i64 f.cn):=by rw[←hfc];rfl
 have hrs:fc[15]?=some (.int .i64 f.reason):=by rw[←hfc];rfl
 have hre:(fc.drop 11).take 4=[.int .i64 f.res.code,.string f.res.value,.int .i64 f.res.version,.int .i64 f.res.at_]:=by rw[←hfc];rfl
 refine TF 118 Tryz.func250 Z yn ah Z Z ?_
 refine CS (CG (VG (VB (vs:=fc) Z fun fb=>VG (VN ?_))))
 refine VC.e7 1 Z (aV.pz p S) ?_
 rintro y -
 show VC _ _ _ [pt p (ed S y) lO,pt y.q (fv S.tok) gV,aJ aG 2 y.a S.ch.ms.length y.c (flat ax S.ch.ms),mC S.out y.b,pt fb fc g_] _
 have mid:jj ⟨Tryz.prog,tab,ah,118,Fr,w⟩ [pt p (ed S y) lO,pt y.q (fv S.tok) gV,aJ aG 2 y.a S.ch.ms.length y.c (flat ax S.ch.ms),mC S.out y.b,pt fb fc g_] ([cw p S] ++ [pt fb fc g_]):=(ae.pz (K:=[pt fb fc g_]) y ae.refl).ar
 refine aq ?_
 refine Vh ?_
 refine EY ?_
 refine Vi ?_
 rw[htn]
 refine aq ?_
 refine VG (VO.ld 4 Z Z Z hkd ?_)
 refine aq ?_
 refine CE Z (fun k8=>?_) (fun k8=>?_)
 ·rw[if_pos k8]
  refine aq ?_
  refine CD (ts 0 2 (.only 2 (ts 3 12 .nil))) yn yr ?_
  refine oc ?_
  refine AG (VA.kn 4 (dL.cells ⟨f.bU,ms,f.drain⟩ ma mc) Z Z Z Z hch ?_)
  refine AG (AR (fun Fr w hF hw hS=>Ch.bm Fr w (c:=⟨f.bU,ms,f.drain⟩) (hm.of hF hw) Um) Z Z (by(try refine Pd.st ?_);(repeat(first|exact Pd.nil|exact Pd.fnil|refine Pd.inner ?_|refine Pd.skip yr ?_|refine zf (zo 0 Z Z) ?_|refine zf (zo 1 Z Z) ?_|refine zf (zo 2 Z Z) ?_|refine zf (zo 3 Z Z) ?_|refine zf (zm 0 Z Z) ?_|refine zf (zm 1 Z Z) ?_|refine zf (zm 2 Z Z) ?_|refine zf (zm 3 Z Z) ?_|refine zf (aE.aP (aE.many 4 Z hch) Z) ?_|refine zf ((aE.many 4 Z hch)) ?_|refine zc (zo 0 Z Z) ?_|refine zc (zo 1 Z Z) ?_|refine zc (zo 2 Z Z) ?_|refine zc (zo 3 Z Z) ?_|refine zc (zm 0 Z Z) ?_|refine zc (zm 1 Z Z) ?_|refine zc (zm 2 Z Z) ?_|refine zc (zm 3 Z Z) ?_|refine zc (aE.aP (aE.many 4 Z hch) Z) ?_|refine zc ((aE.many 4 Z hch)) ?_))) ?_)
  refine oc ?_
  by_cases hc:se ⟨f.bU,ms,f.drain⟩=0
  rotate_left
  ·rw[if_pos (.inl hc)]
   refine AG (AY 20 true Z (by rw[bne_iff_ne];exact hc) ?_)
   refine oc ?_
   refine VC.kk Z (CX ?_)
   refine aq ?_
   exact J2
  have hc6:=(jl hc).2.1
  dsimp only at hc6
  refine AG (AY 20 false Z (by rw[bne_eq_false_iff_eq];exact hc) ?_)
  refine oc ?_
  refine AG (VA.ld 4 Z Z Z Z hep ?_)
  refine lS ?_
  refine CP (p:=f.bU<S.ch.al) Z (fun he=>CX ?_) (fun he=>CK ?_)
  ·rw[if_pos (.inr he)]
   refine aq ?_
   exact J2
  rw[if_neg (fun h=>h.elim (fun k=>k hc) he)]
  refine aq ?_
  refine VG (VL 4 (dL.cells ⟨f.bU,ms,f.drain⟩ ma mc) Z Z Z hch ?_)
  refine VG (VT (vs:=dL.cells ⟨f.bU,ms,f.drain⟩ ma mc) (cs':=ed { S with ch:=⟨f.bU,ms,f.drain⟩ } { y with a:=ma,c:=mc }) 0 Z Z Z Z (by show 5+3≤21;omega) Z Z Z ?_)
  refine aq ?_
  refine VG (VO.ld 4 Z Z Z hmm ?_)
  refine VO.ar (L':=[aJ aG 2 none 0 0 [],pt p (ed { S with ch:=⟨f.bU,ms,f.drain⟩ } { y with a:=ma,c:=mc }) lO,pt y.q (fv S.tok) gV,mC S.out y.b,pt fb fc g_]) (ae.bY (dG [0,0,1,1])).ar ?_
  refine VG (VO.append (m:=ms.length) (news:=flat ax ms) 0 Z Z Z Z Z Z Z (aI.row aF hm) (gQ kr _) (by show(0+ms.length)*16≤_;omega) yd fun a' c' _=>?_)
  rw[Zl,ZI]
  refine aq ?_
  refine VG (VO.st 1 (cs':=ed { S with ch:=⟨f.bU,ms,f.drain⟩ } { y with a:=a',c:=c' }) Z Z Z Z (by show 6<21;omega) Z Z ?_)
  have ok2:({ S with ch:=⟨f.bU,ms,f.drain⟩ }:aN).Ok:=⟨ok.c0,ok.c1,ok.t0,ok.t1,ok.b0,ok.b1,ok.tok,hc6,ok.out,ok.s0,ok.s1,ok.q0,ok.r0,ok.r1,ok.rb⟩
  refine VO.ar (L':=[pt p (ed { S with ch:=⟨f.bU,ms,f.drain⟩ } { y with a:=a',c:=c' }) lO,pt y.q (fv S.tok) gV,aJ aG 2 a' ms.length c' (flat ax ms),mC S.out y.b]) (dG [1,1,0,0]).ar ?_
  refine an ?_
  refine CE Z (fun h1=>?_) (fun h1=>CK ?_)
  ·rw[if_pos h1]
   refine CN (L':=[cw p { S with ch:=⟨f.bU,ms,f.drain⟩ }]) (ae.pz (S:={ S with ch:=⟨f.bU,ms,f.drain⟩ }) { y with a:=a',c:=c' } ae.refl).ar ?_
   refine aq ?_
   refine VG (VK (Lc:=[cw p { S with ch:=⟨f.bU,ms,f.drain⟩ }]) (Lr:=[]) (fun Fr w hF hw _=>xY Fr w ok2 tn) Z Z ?_)
   rintro _ _ ⟨X,sa,sc,hX,rfl,rfl⟩
   refine aq ?_
   exact Q4
  ·rw[if_neg h1]
   refine aq ?_
   exact CR (ay.tmp 6 Z Z (mD (S:={ S with ch:=⟨f.bU,ms,f.drain⟩ }) (y:={ y with a:=a',c:=c' }) (R:=[])).ar (mE Z Z))
 rw[if_neg k8]
 refine aq ?_
 refine CE Z (fun k2=>?_) (fun k2=>?_)
 ·rw[if_pos k2]
  refine aq ?_
  refine CD (ts 0 1 (.only 1 (ts 2 18 .nil))) yn yr ?_
  refine oc ?_
  refine AG (AR (fun Fr w hF hw hS=>vF Fr w ok (hS.aP 0 Z)) Z Z yu ?_)
  refine oc ?_
  by_cases hb:S.fL=0
  ·rw[if_neg (fun h=>h.1 hb)]
   refine AG (AY 56 false Z (by rw[bne_eq_false_iff_eq];exact hb) ?_)
   refine oc ?_
   refine AG (AY 65 false Z Z ?_)
   refine oc ?_
   refine FU ?_
   exact J2
  refine AG (AY 56 true Z (by rw[bne_iff_ne];exact hb) ?_)
  refine oc ?_
  refine AG (VA.ld 4 Z Z Z Z hcl ?_)
  refine lS ?_
  by_cases hi:f.aj=S.id
  rotate_left
  ·rw[if_neg (fun h=>hi h.2.1)]
   refine AG (AY 65 false Z (beq_eq_false_iff_ne.2 hi) ?_)
   refine oc ?_
   refine FU ?_
   exact J2
  refine AG (AY 65 true Z (beq_iff_eq.2 hi) ?_)
  refine oc ?_
  refine AG (VA.ld 4 Z Z Z Z hsq ?_)
  refine lS ?_
  refine CE Z (fun hs=>?_) (fun hs=>CK ?_)
  ·rw[if_pos ⟨hb,hi,hs⟩]
   refine aq ?_
   refine VG (VL 4 [.int .i64 f.res.code,.string f.res.value,.int .i64 f.res.version,.int .i64 f.res.at_] Z Z Z hre ?_)
   refine VG (VI (LB (pv:=[(0,.int .i64 1),(2,.agg ([.int .i64 f.res.code,.string f.res.value,.int .i64 f.res.version,.int .i64 f.res.at_]:List Value).toArray)]) (eK ⟨1,0,f.res⟩) Z Z Z yn Z) ?_)
   refine VO.ar mid ?_
   refine VG (VK (Lc:=[cw p S]) (Lr:=[pt fb fc g_]) (fun Fr w hF hw _=>sS Fr w (ok.out hb) (o:=⟨1,0,f.res⟩) (by show(1:Int)≤1;decide) (by show(1:Int)≤3;decide)) Z Z ?_)
   rintro _ _ ⟨rfl,rfl⟩
   refine aq ?_
   exact CR (ay.tmp 6 Z Z ((ae.bY (ae.refl (L:=[cw p (S.end_ ⟨1,0,f.res⟩),pt fb fc g_]))).trans (IP 1 Z (IP 0 Z ae.nil))).ar (mE Z Z))
  ·rw[if_neg (fun h=>hs h.2.2)]
   refine aq ?_
   exact J2
 rw[if_neg k2]
 refine aq ?_
 refine CE Z (fun k3=>?_) (fun k3=>CK ?_)
 rotate_left
 ·rw[if_neg k3]
  refine aq ?_
  exact J2
 rw[if_pos k3]
 refine aq ?_
 refine CD (ts 0 32 .nil) yn yr ?_
 refine lS ?_
 by_cases hd:S.fL=2
 rotate_left
 ·rw[if_neg (fun h=>hd h.1)]
  refine AG (AY 86 false Z (beq_eq_false_iff_ne.2 hd) ?_)
  refine oc ?_
  refine AG (AY 95 false Z Z ?_)
  refine oc ?_
  refine AG (AY 104 false Z Z ?_)
  refine oc ?_
  refine FU ?_
  exact J2
 refine AG (AY 86 true Z (beq_iff_eq.2 hd) ?_)
 refine oc ?_
 refine AG (VA.ld 4 Z Z Z Z hcl ?_)
 refine lS ?_
 by_cases hi:f.aj=S.id
 rotate_left
 ·rw[if_neg (fun h=>hi h.2.1)]
  refine AG (AY 95 false Z (beq_eq_false_iff_ne.2 hi) ?_)
  refine oc ?_
  refine AG (AY 104 false Z Z ?_)
  refine oc ?_
  refine FU ?_
  exact J2
 refine AG (AY 95 true Z (beq_iff_eq.2 hi) ?_)
 refine oc ?_
 refine AG (VA.ld 4 Z Z Z Z hsq ?_)
 refine lS ?_
 by_cases hs:f.seq=S.seq
 rotate_left
 ·rw[if_neg (fun h=>hs h.2.2.1)]
  refine AG (AY 104 false Z (beq_eq_false_iff_ne.2 hs) ?_)
  refine oc ?_
  refine FU ?_
  exact J2
 refine AG (AY 104 true Z (beq_iff_eq.2 hs) ?_)
 refine oc ?_
 refine AG (VA.ld 4 Z Z Z Z hty ?_)
 refine lS ?_
 refine CE Z (fun ht=>?_) (fun ht=>CK ?_)
 ·rw[if_pos ⟨hd,hi,hs,ht⟩]
  refine aq ?_
  refine VG (VO.ld 4 Z Z Z hrs ?_)
  refine aq ?_
  refine VO.ar mid ?_
  refine VG (VK (Lc:=[cw p S]) (Lr:=[pt fb fc g_]) (fun Fr w hF hw _=>wS Fr w ok (ok.out (by rw[hd];decide)) f.reason tn htk.1 htk.2) Z Z ?_)
  rintro _ _ ⟨X,sa,sc,hX,rfl,rfl⟩
  refine aq ?_
  refine CR (ay.tmp 6 Z Z (L':=[cw p (S.refused f.reason tn).1]++(aJ iv 30 sa X.length sc (flat jI X)::X.map jX)) ?_ ⟨X,sa,sc,hX,Z,Z⟩)
  exact((ae.perm ZM).trans ae.Jg).ar
 ·rw[if_neg (fun h=>ht h.2.2.2)]
  refine aq ?_
  exact J2
end
end Cl
namespace Cl
open Go Vg T Api Ch Rep Rd Conf Sched
attribute [local irreducible] VO VC VA
section
variable {S:aN}
theorem aN.Ok.ask(ok:S.Ok)(h:S.tries≤16)(ho:S.out=some none){now:Int}(h0:0≤now)(h1:now≤1099511627776):(S.ask now).1.Ok:=
 ⟨ok.c0,ok.c1,ok.t0,ok.t1,ok.b0,ok.b1,ok.tok,ok.ml,fun _=>ho,h0,h1,ok.q0,ok.r0,ok.r1,fun _=>h⟩
theorem aN.Ok.cn(ok:S.Ok)(h:S.tries≤16)(ho:S.out=some none){now:Int}(h0:0≤now)(h1:now≤1099511627776):(S.cn now).1.Ok:=by
 have:=ok.r0
 exact⟨ok.c0,ok.c1,ok.t0,ok.t1,ok.b0,ok.b1,ok.tok,ok.ml,fun _=>ho,h0,h1,ok.q0,by show 0≤S.tries+1;omega,by show S.tries+1≤17;omega,fun e=>by rcases e with e | e<;>exact absurd (show(2:Int)=_ from e) yp⟩
theorem aN.Ok.end_(ok:S.Ok)(o:gk):(S.end_ o).Ok:=
 ⟨ok.c0,ok.c1,ok.t0,ok.t1,ok.b0,ok.b1,ok.tok,ok.ml,fun e=>absurd rfl e,ok.s0,ok.s1,ok.q0,ok.r0,ok.r1,fun e=>by rcases e with e | e<;>exact absurd (show(0:Int)=_ from e) yp⟩
theorem aN.Ok.giveUp(ok:S.Ok)(r:Int):(S.giveUp r).1.Ok:=ok.end_ _
theorem aN.Ok.nu(ok:S.Ok)(ho:S.out=some none)(r now:Int):(S.nu r now).1.Ok:=by
 unfold aN.nu
 split
 ·exact ok.giveUp r
 rename_i h
 have:=ok.b1
 have ok2:(S.wI now).Ok:=⟨ok.c0,ok.c1,ok.t0,ok.t1,ok.b0,ok.b1,ok.tok.take now,ok.ml,ok.out,ok.s0,ok.s1,ok.q0,ok.r0,ok.r1,ok.rb⟩
 split
 ·exact⟨ok.c0,ok.c1,ok.t0,ok.t1,ok.b0,ok.b1,ok.tok.take now,ok.ml,fun _=>ho,ok.s0,ok.s1,ok.q0,ok.r0,ok.r1,fun _=>by show S.tries≤16;omega⟩
 ·exact ok2.giveUp r
theorem aN.Ok.unsure(ok:S.Ok):({ S with unsure:=true }:aN).Ok:=⟨ok.c0,ok.c1,ok.t0,ok.t1,ok.b0,ok.b1,ok.tok,ok.ml,ok.out,ok.s0,ok.s1,ok.q0,ok.r0,ok.r1,ok.rb⟩
theorem aN.Ok.refused(ok:S.Ok)(ho:S.out=some none)(r now:Int):(S.refused r now).1.Ok:=by
 unfold aN.refused
 split
 ·exact ok.unsure.nu ho r now
 split
 ·exact ok.giveUp r
 ·exact ok.nu ho r now
theorem aN.Ok.take(ok:S.Ok)(f:aa)(ms:List bG)(now:Int):(S.take f ms now).1.Ok:=by
 have ht:=jY now
 unfold aN.take
 split
 ·split
  ·exact ok
  rename_i hc
  have hc0:se ⟨f.bU,ms,f.drain⟩=0:=Classical.byContradiction fun e=>hc (.inl e)
  have ok2:({ S with ch:=⟨f.bU,ms,f.drain⟩ }:aN).Ok:=⟨ok.c0,ok.c1,ok.t0,ok.t1,ok.b0,ok.b1,ok.tok,(jl hc0).2.1,ok.out,ok.s0,ok.s1,ok.q0,ok.r0,ok.r1,ok.rb⟩
  split
  ·rename_i h1
   exact ok2.cn (ok.rb (.inl h1)) (ok.out (by rw[h1];decide)) ht.1 ht.2
  ·exact ok2
 split
 ·split
  ·exact ok.end_ _
  ·exact ok
 split
 ·split
  ·rename_i h
   exact ok.refused (ok.out (by rw[h.1];decide)) _ _
  ·exact ok
 ·exact ok
theorem aN.Ok.tick(ok:S.Ok)(now:Int):(S.tick now).1.Ok:=by
 have ht:=jY now
 unfold aN.tick
 split
 ·rename_i h
  split
  ·exact ok.unsure.nu (ok.out ir) _ _
  ·exact ok
 split
 ·rename_i h
  split
  ·exact ok
  split
  ·exact ok.giveUp _
  ·exact ok.ask (ok.rb (.inl h)) (ok.out ir) ht.1 ht.2
 split
 ·rename_i h
  split
  ·exact ok.ask (ok.rb (.inr h)) (ok.out ir) ht.1 ht.2
  ·exact ok
 ·exact ok
theorem aN.Ok.begun(ok:S.Ok)(o:e8)(cl d:Int):(S.begun o cl d).Ok:=by
 have:=ok.q0
 exact⟨ok.c0,ok.c1,ok.t0,ok.t1,ok.b0,ok.b1,ok.tok,ok.ml,fun _=>rfl,ok.s0,ok.s1,by show 0≤S.seq+1;omega,Zz _,by show(0:Int)≤17;decide,fun _=>by show(0:Int)≤16;decide⟩
theorem aN.Ok.call(ok:S.Ok)(o:e8)(cl d now:Int):(S.call o cl d now).1.Ok:=by
 have ht:=jY now
 unfold aN.call
 split
 ·exact ok
 split
 ·exact(ok.begun o cl d).cn (by show(0:Int)≤16;decide) Z ht.1 ht.2
 ·exact(ok.begun o cl d).ask (by show(0:Int)≤16;decide) Z ht.1 ht.2
end
section
variable {p:Nat} {S:aN}
theorem Er(ok:S.Ok)(now:Int):aH Tryz.prog 105 [.pointer (some ⟨p,0,none⟩),.int .i64 now] Fr w [cw p S] (fun v L=>kG (S.tick now).2 v L [cw p (S.tick now).1]):=by
 have htk:=jY now
 have s0:=ok.s0
 have s1:=ok.s1
 unfold aN.tick
 generalize htn:cu now=tn at htk
 refine TF 68 Tryz.func105 Z yn ah Z Z ?_
 refine O_ ?_
 rintro y -
 show VC _ _ _ [pt p (ed S y) lO,pt y.q (fv S.tok) gV,aJ aG 2 y.a S.ch.ms.length y.c (flat ax S.ch.ms),mC S.out y.b] _
 have mid:jj ⟨Tryz.prog,tab,ah,68,Fr,w⟩ [pt p (ed S y) lO,pt y.q (fv S.tok) gV,aJ aG 2 y.a S.ch.ms.length y.c (flat ax S.ch.ms),mC S.out y.b] [cw p S]:=(ae.pz (K:=[]) y ae.refl).ar
 refine aq ?_
 refine Vh ?_
 refine EY ?_
 refine Vi ?_
 rw[htn]
 refine an ?_
 refine CE Z (fun k2=>?_) (fun k2=>?_)
 ·rw[if_pos k2]
  have ho:=ok.out (by rw[k2];decide)
  refine aq ?_
  refine CD (ts 0 11 .nil) yn yr ?_
  refine eT ?_
  refine QW ?_
  refine eT ?_
  refine CP (p:=S.timeout≤tn-S.since) Z (fun h=>?_) (fun h=>CK ?_)
  ·rw[if_pos h]
   refine aq ?_
   refine Yc ?_
   refine VO.ar (L':=[cw p { S with unsure:=true }]) (ae.pz (S:={ S with unsure:=true }) (K:=[]) y ae.refl).ar ?_
   refine aq ?_
   refine VG (VK (Lc:=[cw p { S with unsure:=true }]) (Lr:=[]) (fun Fr w hF hw _=>vG Fr w ok.unsure ho 0 tn htk.1 htk.2) Z Z ?_)
   rintro _ _ ⟨X,sa,sc,hX,rfl,rfl⟩
   refine aq ?_
   exact TR
  ·rw[if_neg h]
   refine aq ?_
   exact TS
 rw[if_neg k2]
 refine aq ?_
 refine CE Z (fun k1=>?_) (fun k1=>?_)
 ·rw[if_pos k1]
  have ho:=ok.out (by rw[k1];decide)
  refine aq ?_
  refine CD (ts 0 11 .nil) yn yr ?_
  refine eT ?_
  refine QW ?_
  refine eT ?_
  refine CP (p:=tn-S.since<S.timeout) Z (fun h=>CX ?_) (fun h=>CK ?_)
  ·rw[if_pos h]
   refine aq ?_
   exact TS
  rw[if_neg h]
  refine an ?_
  refine CP (p:=S.deadline<tn) Z (fun h2=>?_) (fun h2=>CK ?_)
  ·rw[if_pos h2]
   refine CN mid ?_
   refine aq ?_
   refine VG (VK (Lc:=[cw p S]) (Lr:=[]) (fun Fr w hF hw _=>qI Fr w ho 2) Z Z ?_)
   rintro _ _ ⟨X,sa,sc,hX,rfl,rfl⟩
   refine aq ?_
   exact TR
  ·rw[if_neg h2]
   refine CN mid ?_
   refine aq ?_
   refine Yd ?_
   rintro _ _ ⟨X,sa,sc,hX,rfl,rfl⟩
   refine aq ?_
   exact TR
 rw[if_neg k1]
 refine aq ?_
 refine CE Z (fun k3=>?_) (fun k3=>CK ?_)
 ·rw[if_pos k3]
  refine an ?_
  refine CP (p:=S.zV≤tn) Z (fun h=>?_) (fun h=>CK ?_)
  ·rw[if_pos h]
   refine CN mid ?_
   refine aq ?_
   refine Yd ?_
   rintro _ _ ⟨X,sa,sc,hX,rfl,rfl⟩
   refine aq ?_
   exact TR
  ·rw[if_neg h]
   refine aq ?_
   exact TS
 ·rw[if_neg k3]
  refine aq ?_
  exact TS
end
end Cl
namespace Cl
open Go Vg T Api Ch Rep Conf Sched
attribute [local irreducible] VO VC VA
section
variable {p:Nat} {S:aN}
def OU(S:aN):List Value:=(ed S ⟨0,0,none,0⟩).set 4 (.pointer none)
theorem mF{o:e8}{cl d now e:Int}(h:S.eU o cl d=e)(he:e≠0):(S.call o cl d now).1=S∧(S.call o cl d now).2=[]:=by
 unfold aN.call;rw[if_pos (by rw[h];exact he)];exact⟨rfl,rfl⟩
theorem Es(ok:S.Ok)(hq:S.seq≤1000000000)(o:e8)(cl d now:Int):aH Tryz.prog 90 [.pointer (some ⟨p,0,none⟩),.agg o.cells.toArray,.int .i64 cl,.int .i64 d,.int .i64 now] Fr w [cw p S]
  (fun v L=>xV (S.call o cl d now).2 (S.eU o cl d) v L [cw p (S.call o cl d now).1]):=by
 have htk:=jY now
 have q0:=ok.q0
 refine TF 78 Tryz.func90 Z yn ah Z Z ?_
 refine O_ ?_
 rintro y -
 show VC _ _ _ [pt p (ed S y) lO,pt y.q (fv S.tok) gV,aJ aG 2 y.a S.ch.ms.length y.c (flat ax S.ch.ms),mC S.out y.b] _
 refine CS (CG (VG (VB (vs:=o.cells) Z fun ob=>VO.ar (L':=[pt p (ed S y) lO,pt y.q (fv S.tok) gV,aJ aG 2 y.a S.ch.ms.length y.c (flat ax S.ch.ms),mC S.out y.b,pt ob o.cells 31]) (dG [1,1,1,1,0]).ar ?_)))
 refine aq ?_
 refine Vh ?_
 refine aq ?_
 refine HF ?_
 refine aq ?_
 refine VG (VV (fun Fr w hF hw hS=>vF Fr w ok (hS.aP 0 Z)) Z ?_)
 refine aq ?_
 refine CC Z (fun hb=>?_) (fun hb=>?_)
 ·have he:S.eU o cl d=63:=by unfold aN.eU;rw[if_pos ym]
  refine aq ?_
  exact CR (ay.cU 10 11 Z Z Z (mD (y:=y) (R:=[_])).ar WL)
 have hd0:S.fL=0:=by simpa using hb
 have hcE:S.eU o cl d=if aZ o≠0∨cl<0∨S.cls≤cl∨d<0∨1099511627776<d then 2 else 0:=by unfold aN.eU;rw[if_neg (fun h=>h hd0)]
 refine CS (VC.cq (σ:=Bool) (fun b=>[(0,pV p),(2,.int .i64 cl),(3,.int .i64 d),(4,.int .i64 now),(6,pV ob),(19,.bool b)]) (fun _=>[pt p (ed S y) lO,pt y.q (fv S.tok) gV,aJ aG 2 y.a S.ch.ms.length y.c (flat ax S.ch.ms),mC S.out y.b,pt ob o.cells 31]) (fun b=>b=true↔(aZ o≠0∨cl<0∨S.cls≤cl∨d<0∨1099511627776<d)) ?_ ?_)
 ·refine aq ?_
  refine VG (VL 4 o.cells Z Z Z Z ?_)
  refine VG (VV (fun Fr w hF hw hS=>Api.bm Fr w o) Z ?_)
  refine aq ?_
  refine VC.bp Z (fun k1=>CK ?_) (fun k1=>?_)
  ·exact⟨true,by simp[k1],SC Z (SC Z (SC Z (SC Z (SC Z (Sub.bl Z (by rw[bne_iff_ne];exact k1) (SN _)))))),ER⟩
  refine aq ?_
  refine CP (p:=cl<0) Z (fun k2=>CK ?_) (fun k2=>?_)
  ·exact⟨true,by simp[k2],SC Z (SC Z (SC Z (SC Z (SC Z (Sub.bl Z (DT k2) (SN _)))))),ER⟩
  refine an ?_
  refine CP (p:=S.cls≤cl) Z (fun k3=>CK ?_) (fun k3=>?_)
  ·exact⟨true,by simp[k3],SC Z (SC Z (SC Z (SC Z (SC Z (Sub.bl Z (DT k3) (SN _)))))),ER⟩
  refine aq ?_
  refine CP (p:=d<0) Z (fun k4=>CK ?_) (fun k4=>?_)
  ·exact⟨true,by simp[k4],SC Z (SC Z (SC Z (SC Z (SC Z (Sub.bl Z (DT k4) (SN _)))))),ER⟩
  refine aq ?_
  exact⟨decide (1099511627776<d),by simp[k1,k2,k3,k4],SC Z (SC Z (SC Z (SC Z (SC Z (Sub.bl Z Z (SN _)))))),ER⟩
 rintro b hb2
 refine aq ?_
 refine CC Z (fun k=>?_) (fun k=>CK ?_)
 ·have he:S.eU o cl d=2:=by rw[hcE,if_pos (hb2.1 k)]
  refine aq ?_
  exact CR (ay.cU 10 11 Z Z Z (mD (y:=y) (R:=[_])).ar WL)
 have he:S.eU o cl d=0:=by rw[hcE,if_neg (fun h=>by rw[hb2.2 h] at k;cases k)]
 rw[he]
 refine aq ?_
 refine Vi ?_
 refine aq ?_
 generalize htn:cu now=tn at htk
 refine VG (VK (Lc:=[]) (fun Fr w hF hw _=>GP Fr w) Z Z ?_)
 rintro _ _ ⟨sb,rfl,rfl⟩
 refine VO.ar (L':=[pt p (ed S y) lO,pt y.q (fv S.tok) gV,aJ aG 2 y.a S.ch.ms.length y.c (flat ax S.ch.ms),pt sb (sP none) qC,pt ob o.cells 31]) (dG [1,1,1,0,1]).ar ?_
 refine aq ?_
 refine VG (VO.st 0 (cs':=ed { S with out:=some none } { y with b:=sb }) Z Z Z Z (by show 8<21;omega) Z Z ?_)
 refine an ?_
 refine VG (VP Z Z tL tL ?_)
 refine aq ?_
 refine VG (VO.st 0 (cs':=ed { S with out:=some none,seq:=S.seq+1 } { y with b:=sb }) Z Z Z Z (by show 13<21;omega) Z Z ?_)
 refine aq ?_
 refine VG (VO.st 0 (cs':=ed { S with out:=some none,seq:=S.seq+1,tries:=0 } { y with b:=sb }) Z Z Z Z (by show 14<21;omega) Z Z ?_)
 refine VG (VO.st 0 (cs':=ed { S with out:=some none,seq:=S.seq+1,tries:=0,unsure:=false } { y with b:=sb }) Z Z Z Z W6 Z Z ?_)
 refine aq ?_
 refine VG (VL 4 o.cells Z Z Z Z ?_)
 refine aq ?_
 refine VG (VT (vs:=o.cells) (cs':=ed { S with out:=some none,seq:=S.seq+1,tries:=0,unsure:=false,op:=o } { y with b:=sb }) 0 Z Z Z Z (by show 17+4≤21;omega) Z Z Z ?_)
 refine VG (VO.st 0 (cs':=ed { S with out:=some none,seq:=S.seq+1,tries:=0,unsure:=false,op:=o,cl:=cl } { y with b:=sb }) Z Z Z Z (by show 15<21;omega) Z Z ?_)
 refine VG (VO.st 0 (cs':=ed (S.begun o cl d) { y with b:=sb }) Z Z Z Z (by show 16<21;omega) Z Z ?_)
 refine an ?_
 have okb:=ok.begun o cl d
 refine CP (p:=0<S.ch.al) Z (fun hp=>?_) (fun hp=>CK ?_)
 ·have ec:S.call o cl d now=(S.begun o cl d).cn tn:=by unfold aN.call;rw[if_neg (by rw[he];decide),if_pos hp,htn]
  rw[ec]
  refine Ye ?_
  refine aq ?_
  refine VG (VK (Lc:=[cw p (S.begun o cl d)]) (Lr:=[]) (fun Fr w hF hw _=>xY Fr w okb tn) Z Z ?_)
  rintro _ _ ⟨X,sa,sc,hX,rfl,rfl⟩
  refine aq ?_
  exact CR (ay.cU 10 11 Z Z Z ER ⟨X,sa,sc,hX,Z,Zi _⟩)
 ·have ec:S.call o cl d now=(S.begun o cl d).ask tn:=by unfold aN.call;rw[if_neg (by rw[he];decide),if_neg hp,htn]
  rw[ec]
  refine Ye ?_
  refine aq ?_
  refine VG (VK (Lc:=[cw p (S.begun o cl d)]) (Lr:=[]) (fun Fr w hF hw _=>xX Fr w okb tn) Z Z ?_)
  rintro _ _ ⟨X,sa,sc,hX,rfl,rfl⟩
  refine aq ?_
  exact CR (ay.cU 10 11 Z Z Z ER ⟨X,sa,sc,hX,Z,Zi _⟩)
end
theorem G2{c r:Int}(h0:0≤c)(h1:c≤16)(h2:1≤r)(h3:r≤1099511627776):aH Tryz.prog 53 [.int .i64 c,.int .i64 r] Fr w [] (fun v L=>∃p,v=.tuple #[.pointer (some ⟨p,0,none⟩),.int .i64 0]∧L=[pt p (fv ⟨c,r,c,0,0⟩) gV]):=by
 refine TF 25 Tryz.func53 Z yn ah Z Z ?_
 refine aq ?_
 refine VG (VY 8 false Z (DF yd) ?_)
 refine aK ?_
 refine VG (VY 12 false Z (DF yd) ?_)
 refine aK ?_
 refine VG (VY 16 false Z (DF yd) ?_)
 refine aK ?_
 refine CP (p:=1099511627776<r) Z (fun h=>absurd h yd) (fun h=>CK ?_)
 refine aK ?_
 refine VG (VI (LB (pv:=[(0,.int .i64 c),(1,.int .i64 r),(2,.int .i64 c)]) (fv ⟨c,r,c,0,0⟩) Z Z Z yn Z) ?_)
 refine VG (VB (vs:=fv ⟨c,r,c,0,0⟩) Z fun q=>?_)
 refine aq ?_
 exact CR (ay.cU 4 5 Z Z Z ER ⟨q,Z,Z⟩)
def kI(c:aX)(id:Int):Int:=if c=dy c∧0≤id∧id<c.aB then 0 else 2
theorem Jj{c:aX}(h:c=dy c)(id:Int):(oR c id).Ok:=by
 obtain⟨_,b2,b3,b4,_,b6⟩:=iO h
 exact⟨by show(1:Int)≤c.qs.length;omega,by show(c.qs.length:Int)≤4;omega,by show 0≤c.timeout;omega,by show c.timeout≤1000;omega,b3.1,b3.2,⟨b3.1,b3.2,b4.1,b4.2,b3.1,Zz _,Zz _,by show(0:Int)≤_;decide,by show(0:Int)≤0;decide,by show(0:Int)≤0;decide⟩,by show 0≤6;decide,fun k=>absurd Z k,by show(0:Int)≤0;decide,by show(0:Int)≤_;decide,by show(0:Int)≤0;decide,by show(0:Int)≤0;decide,by show(0:Int)≤17;decide,fun _=>by show(0:Int)≤16;decide⟩
theorem G3(c:aX){qa:Option Addr}{qc:Nat}(hq:dZ Fr w qa c.qs)(hqa:sD qa)(hqc:c.qs.length≤qc)(id:Int):
  aH Tryz.prog 33 [.agg (c.cells qa qc).toArray,.int .i64 id] Fr w [] (fun v L=>if kI c id=0 then ∃p,v=.tuple #[.pointer (some ⟨p,0,none⟩),.int .i64 0]∧L=[cw p (oR c id)] else v=.tuple #[.pointer none,.int .i64 2]∧L=[]):=by
 refine TF 42 Tryz.func33 Z yn ah Z Z ?_
 refine CS (CG (VG (VB (vs:=c.cells qa qc) Z fun b2=>VG (VN ?_))))
 refine VF ?_
 refine VG (VV (fun Fr w hF hs _=>Conf.bm Fr w c qa qc (fT hq hF hs) hqa hqc) Z ?_)
 refine aK ?_
 by_cases hf:c=dy c
 rotate_left
 ·have hE:kI c id≠0:=by unfold kI;rw[if_neg (fun h=>hf h.1)];decide
  refine VG (VY 10 true Z (by unfold hY;rw[if_neg hf];rfl) ?_)
  refine aK ?_
  refine VG (VY 14 true Z Z ?_)
  refine wv ?_
  exact Vj
 refine VG (VY 10 false Z (by unfold hY;rw[if_pos hf];rfl) ?_)
 refine aK ?_
 by_cases h0:id<0
 ·have hE:kI c id≠0:=by unfold kI;rw[if_neg (fun h=>by omega)];decide
  refine VG (VY 14 true Z (DT h0) ?_)
  refine wv ?_
  exact Vj
 refine VG (VY 14 false Z (DF h0) ?_)
 refine eP ?_
 refine CP (p:=c.aB≤id) Z (fun h1=>?_) (fun h1=>CK ?_)
 ·have hE:kI c id≠0:=by unfold kI;rw[if_neg (fun h=>by omega)];decide
  refine aK ?_
  exact Vj
 have hE:kI c id=0:=by unfold kI;rw[if_pos ⟨hf,by omega,by omega⟩]
 obtain⟨_,b2,b3,b4,_,b6⟩:=iO hf
 refine eP ?_
 refine VG (VI (LB (pv:=[(0,.int .i64 id),(1,.int .i64 c.qs.length),(2,.int .i64 c.timeout),(3,.int .i64 c.dB)]) (OU (oR c id)) Z Z Z yn Z) ?_)
 refine VG (VB (vs:=OU (oR c id)) Z fun p=>?_)
 refine wu ?_
 refine VG (VK (Lc:=[]) (fun Fr w hF hs _=>G2 Fr w b3.1 b3.2 b4.1 b4.2) Z Z ?_)
 rintro _ _ ⟨q,rfl,rfl⟩
 refine wu ?_
 refine VG (VO.st 1 (cs':=ed (oR c id) ⟨q,0,none,0⟩) Z Z Z Z (by show 4<21;omega) Z Z ?_)
 refine wu ?_
 exact CR (ay.cU 4 5 Z Z Z (ae.pz (S:=oR c id) (K:=[]) ⟨q,0,none,0⟩ (IP 1 Z (IP 0 Z (ae.bY (ae.pure trivial ae.nil))))).ar (by rw[if_pos hE];exact⟨p,Z,Z⟩))
end Cl
namespace Cl
open Go Vg T Api Ch Rep
attribute [local irreducible] VO VC VA
abbrev nZ:TypeId:=116
abbrev n_:TypeId:=234
def recC(r:RecM):List Value:=[.int .i64 r.aj,.int .i64 r.seq]++r.op.cells ++ [.int .i64 r.from_,.int .i64 r.toQ]++eK r.out
theorem iP(r:RecM):(recC r).length=14:=rfl
def h_(h:bK)(a:Option Addr)(c:Nat):List Value:=[.bool true,.slice a h.bw.length c,.int .i64 h.events]++h.last.map (Value.int .i64)
def NN(p:Nat)(h:bK)(a:Option Addr)(c:Nat):List HP:=[pt p (h_ h a c) nZ,aJ n_ 14 a h.bw.length c (flat recC h.bw)]
def kJ(p:Nat)(h:bK):HP:=hex fun y:Option Addr×Nat=>cT (NN p h y.1 y.2)
theorem aV.gx(p:Nat)(h:bK):aV (ι:=Option Addr×Nat) (kJ p h) (fun _=>True) (fun y=>NN p h y.1 y.2):=fun w ids ⟨x,h⟩ hn=>⟨x,trivial,ids,h,hn,fun _ h=>h⟩
theorem ae.gx{p:Nat}{S:bK}{L K:List HP}(y:Option Addr×Nat)(h:ae L (NN p S y.1 y.2++K)):ae L (kJ p S::K):=ae.ex (f:=fun y:Option Addr×Nat=>cT (NN p S y.1 y.2)) y (ae.sep h)
structure bK.Ok(h:bK):Prop where
 rl:h.bw.length≤1000000
 e0:0≤h.events
 e1:h.events≤10000000
 ll:h.last.length=6
 lr:∀x∈h.last,0≤x∧x≤h.bw.length
def bK.jN(h:bK)(c:Int):Int:=(h.last[c.toNat]?).getD 0
section
variable {p:Nat} {S:bK} {a:Option Addr} {cap:Nat}
theorem Fw(ok:S.Ok):(h_ S a cap).length=9:=by show(_::_::_::S.last.map _).length=9;simp[ok.ll]
theorem Qx{k:Nat}{x:Int}(h:S.last[k]?=some x):(h_ S a cap)[3+k]?=some (.int .i64 x):=by
 show(_::_::_::S.last.map (Value.int .i64))[3+k]?=_
 rw[show 3+k=k+1+1+1 from by omega]
 simp only[Z']
 rw[Zn,h];rfl
theorem NO{k:Nat}(x:Int):(h_ S a cap).set (3+k) (.int .i64 x)=h_ { S with last:=S.last.set k x } a cap:=by
 show(_::_::_::S.last.map (Value.int .i64)).set (3+k) _=_::_::_::(S.last.set k x).map (Value.int .i64)
 rw[show 3+k=k+1+1+1 from by omega]
 simp only[List.set_cons_succ]
 rw[ZE]
theorem bK.Ok.at(ok:S.Ok){c:Int}(h:0≤c∧c<6):∃k:Nat,c=k∧k<6∧S.last[k]?=some (S.jN c)∧0≤S.jN c∧S.jN c≤S.bw.length:=by
 obtain⟨k,rfl⟩:∃k:Nat,c=k:=⟨c.toNat,by omega⟩
 have hk:k<S.last.length:=by rw[ok.ll];omega
 have e:S.last[k]?=some (S.jN (k:Int)):=by
  unfold bK.jN
  rw[Zp,GE hk];rfl
 exact⟨k,Z,by omega,e,ok.lr _ (ME e)⟩
theorem lu{c:Int}(h:c<0∨6≤c∨S.jN c=0):S.cZ c=none:=by unfold bK.cZ;exact if_pos h
theorem tD(ok:S.Ok){c:Int}(h0:0≤c)(h1:c<6)(h2:S.jN c≠0):∃i r,S.cZ c=some (i,r)∧S.bw[i]?=some r∧S.jN c=(i:Int)+1∧i<S.bw.length:=by
 obtain⟨k,_,_,_,g1,g2⟩:=ok.at ⟨h0,h1⟩
 have hi:(S.jN c).toNat-1<S.bw.length:=by omega
 refine⟨(S.jN c).toNat-1,S.bw[(S.jN c).toNat-1],?_,GE hi,by omega,hi⟩
 unfold bK.cZ
 rw[if_neg (fun h=>by
  rcases h with h | h | h
  ·omega
  ·omega
  ·exact h2 h)]
 show(S.bw[(S.jN c).toNat-1]?).map _=_
 rw[GE hi];rfl
theorem rT(ok:S.Ok)(c:Int):(S.cZ c=none∧(c<0∨6≤c∨S.jN c=0))∨∃i r,S.cZ c=some (i,r)∧S.bw[i]?=some r∧S.jN c=(i:Int)+1∧i<S.bw.length:=by
 by_cases h:c<0∨6≤c∨S.jN c=0
 ·exact .inl ⟨lu h,h⟩
 ·exact .inr (tD ok yd yd yd)
def mG(S:bK)(a:Option Addr)(c:Int):Value:=match S.cZ c with
 | none=>.pointer none
 | some (i,_)=>.pointer (a.map fun x=>⟨x.block,x.off+i*14,none⟩)
theorem G4:aH Tryz.prog 30 [] Fr w [] (fun v L=>∃p,v=.pointer (some ⟨p,0,none⟩)∧L=[kJ p BQ]):=by
 refine TF 3 Tryz.func30 Z yn ah Z Z ?_
 refine aq ?_
 refine VG (VI (LB (pv:=[(0,.bool true)]) (h_ BQ none 0) Z Z Z yn Z) ?_)
 refine VG (VB (vs:=h_ BQ none 0) Z fun q=>?_)
 refine aq ?_
 exact CR (ay.tmp 0 Z Z (ae.gx (S:=BQ) (K:=[]) (none,0) (IP 0 Z (ae.bY ae.nil))).ar ⟨q,Z,Z⟩)
theorem vH(h:eQ Fr w p (h_ S a cap)):aH Tryz.prog 123 [.pointer (some ⟨p,0,none⟩)] Fr w [] (fun v L=>v=.bool false∧L=[]):=by
 refine TF 12 Tryz.func123 Z yn ah Z Z ?_
 refine aK ?_
 refine Rs ?_
 refine yS ?_
 exact EX
theorem Cs(ok:S.Ok)(h:eQ Fr w p (h_ S a cap))(hr:aI recC 14 Fr w a S.bw)(c:Int):aH Tryz.prog 124 [.pointer (some ⟨p,0,none⟩),.int .i64 c] Fr w [] (fun v L=>v=mG S a c∧L=[]):=by
 have hrl:=ok.rl
 refine TF 32 Tryz.func124 Z yn ah Z Z ?_
 refine aK ?_
 by_cases h0:c<0
 ·refine VG (VY 7 true Z (DT h0) ?_)
  refine aK ?_
  refine VG (VY 11 true Z Z ?_)
  refine wv ?_
  exact CR (ay.tmp 4 Z Z ER ⟨by rw[mG,lu (.inl h0)],Z⟩)
 refine VG (VY 7 false Z (DF h0) ?_)
 refine aK ?_
 by_cases h6:6≤c
 ·refine VG (VY 11 true Z (DT h6) ?_)
  refine wv ?_
  exact CR (ay.tmp 4 Z Z ER ⟨by rw[mG,lu (.inr (.inl h6))],Z⟩)
 refine VG (VY 11 false Z (DF h6) ?_)
 obtain⟨k,rfl,hk,hx,g1,g2⟩:=ok.at (c:=c) ⟨by omega,by omega⟩
 have hx':(h_ S a cap)[0+3+k*1]?=some (.int .i64 (S.jN k)):=by rw[show 0+3+k*1=3+k from by omega];exact Qx hx
 refine aK ?_
 refine VG (VI (bS k Z Z Z Z Z Z hk) ?_)
 refine VG (VO.load Z Z (aE.aP h hx') ?_)
 refine aK ?_
 refine CE Z (fun hz=>?_) (fun hz=>CK ?_)
 ·refine aK ?_
  exact CR (ay.tmp 4 Z Z ER ⟨by rw[mG,lu (.inr (.inr hz))],Z⟩)
 obtain⟨i,r,e1,e2,e3,e4⟩:=tD ok yd yd hz
 obtain⟨rb,ro,rfl,_,_⟩:=hr.at_ (fun e=>by rw[e] at e4;exact absurd e4 yf)
 refine aq ?_
 refine CD (ts 0 13 .nil) yn yr ?_
 refine JZ ?_
 refine AG (AI Z (bS k Z Z Z Z Z Z hk) ?_)
 refine AG (VA.load Z Z Z (aE.aP h hx') ?_)
 refine QW ?_
 refine AG (AI Z (a_ i Z Z Z Z Z yd e4) ?_)
 refine ji ?_
 exact CR (ay.tmp 4 Z Z ER ⟨by rw[mG,e1];rfl,Z⟩)
end
end Cl
namespace Cl
open Go Vg T Api Ch Rep
attribute [local irreducible] VO VC VA
section
variable {p:Nat} {S:bK}
def At(S:bK)(c seq:Int)(o:e8):RecM:=⟨c,seq,o,S.events,-1,Sn⟩
theorem bK.pD{c seq:Int}{o:e8}(h:c<0∨6≤c∨seq<1∨aZ o≠0):S.eU c seq o=2:=by unfold bK.eU;exact if_pos h
theorem bK.Et{c seq:Int}{o:e8}(h:¬(c<0∨6≤c∨seq<1∨aZ o≠0))(h2:S.cZ c=none):S.eU c seq o=0:=by unfold bK.eU;rw[if_neg h,h2]
theorem bK.Eu{c seq:Int}{o:e8}{i:Nat}{r:RecM}(h:¬(c<0∨6≤c∨seq<1∨aZ o≠0))(h2:S.cZ c=some (i,r)):S.eU c seq o=if r.toQ<0 then 63 else if seq≤r.seq then 70 else 0:=by unfold bK.eU;rw[if_neg h,h2]
theorem bK.mF{c seq e:Int}{o:e8}(h:S.eU c seq o=e)(he:e≠0):S.call c seq o=S:=by unfold bK.call;rw[h,if_pos he]
theorem bK.NP{c seq:Int}{o:e8}(h:S.eU c seq o=0):S.call c seq o=⟨S.bw ++ [At S c seq o],S.events+1,S.last.set c.toNat ((S.bw.length:Int)+1)⟩:=by unfold bK.call;rw[h,if_neg yp];rfl
theorem bK.Ok.call(ok:S.Ok)(h1:S.bw.length<1000000)(h2:S.events<10000000)(c seq:Int)(o:e8):(S.call c seq o).Ok:=by
 unfold bK.call
 split
 ·exact ok
 have:=ok.e0
 refine⟨by show(S.bw ++ [_]).length≤_;rw[Zh];simp;omega,by show 0≤S.events+1;omega,by show S.events+1≤_;omega,by show(S.last.set _ _).length=6;rw[ZB,ok.ll],fun x hx=>?_⟩
 show 0≤x∧x≤((S.bw ++ [_]).length:Int)
 rw[Zh]
 rcases ZT hx with h | h
 ·have:=ok.lr x h;simp;omega
 ·rw[h];simp;omega
theorem Ev(ok:S.Ok)(h2:S.events<10000000)(c seq:Int)(o:e8):aH Tryz.prog 91 [.pointer (some ⟨p,0,none⟩),.int .i64 c,.int .i64 seq,.agg o.cells.toArray] Fr w [kJ p S]
  (fun v L=>v=.int .i64 (S.eU c seq o)∧L=[kJ p (S.call c seq o)]):=by
 have hrl:=ok.rl
 have he0:=ok.e0
 refine TF 77 Tryz.func91 Z yn ah Z Z ?_
 refine VC.e7 0 Z (aV.gx p S) ?_
 rintro⟨a,cap⟩ -
 show VC _ _ _ [pt p (h_ S a cap) nZ,aJ n_ 14 a S.bw.length cap (flat recC S.bw)] _
 refine CS (CG (VG (VB (vs:=o.cells) Z fun ob=>VO.ar (L':=[pt p (h_ S a cap) nZ,aJ n_ 14 a S.bw.length cap (flat recC S.bw),pt ob o.cells 31]) (dG [1,1,0]).ar ?_)))
 have fin:∀a cap,jj ⟨Tryz.prog,tab,ah,77,Fr,w⟩ [pt p (h_ S a cap) nZ,aJ n_ 14 a S.bw.length cap (flat recC S.bw),pt ob o.cells 31] [kJ p S]:=fun a cap=>(ae.gx (K:=[]) (a,cap) (dG [0,0])).ar
 refine aq ?_
 refine VG (VV (fun Fr w hF hw hS=>vH Fr w (hS.aP 0 Z)) Z ?_)
 refine Oz ?_
 refine aK ?_
 by_cases k0:c<0
 ·have hE:=bK.pD (S:=S) (c:=c) (seq:=seq) (o:=o) (.inl k0)
  refine VG (VY 14 true Z (DT k0) ?_)
  refine aK ?_
  refine VG (VY 18 true Z Z ?_)
  refine aK ?_
  refine VG (VY 22 true Z Z ?_)
  refine wv ?_
  exact TT
 refine VG (VY 14 false Z (DF k0) ?_)
 refine aK ?_
 by_cases k1:6≤c
 ·have hE:=bK.pD (S:=S) (c:=c) (seq:=seq) (o:=o) (.inr (.inl k1))
  refine VG (VY 18 true Z (DT k1) ?_)
  refine aK ?_
  refine VG (VY 22 true Z Z ?_)
  refine wv ?_
  exact TT
 refine VG (VY 18 false Z (DF k1) ?_)
 refine aK ?_
 by_cases k2:seq<1
 ·have hE:=bK.pD (S:=S) (c:=c) (seq:=seq) (o:=o) (.inr (.inr (.inl k2)))
  refine VG (VY 22 true Z (DT k2) ?_)
  refine wv ?_
  exact TT
 refine VG (VY 22 false Z (DF k2) ?_)
 refine aK ?_
 refine VG (VL 2 o.cells Z Z Z Z ?_)
 refine VG (VV (fun Fr w hF hw hS=>Api.bm Fr w o) Z ?_)
 refine aK ?_
 refine VC.bp Z (fun k3=>?_) (fun k3=>CK ?_)
 ·have hE:=bK.pD (S:=S) (c:=c) (seq:=seq) (o:=o) (.inr (.inr (.inr k3)))
  refine aK ?_
  exact TT
 have hn:¬(c<0∨6≤c∨seq<1∨aZ o≠0):=by
  rintro(h | h | h | h)
  ·exact k0 h
  ·exact k1 h
  ·exact k2 h
  ·exact h k3
 refine CS (VC.cq (σ:=Option Addr×Nat) (fun _=>[(0,pV p),(1,.int .i64 c),(2,.int .i64 seq),(7,pV ob)]) (fun y=>[pt p (h_ S y.1 y.2) nZ,aJ n_ 14 y.1 S.bw.length y.2 (flat recC S.bw),pt ob o.cells 31]) (fun _=>S.eU c seq o=0) ?_ ?_)
 ·refine aq ?_
  refine Yf ?_
  rcases rT ok c with ⟨e1,_⟩ | ⟨i,r,e1,e2,e3,e4⟩
  ·rw[show mG S a c=.pointer none by rw[mG,e1]]
   refine Oz ?_
   exact⟨(a,cap),bK.Et hn e1,bd,ER⟩
  have hE:=bK.Eu hn e1
  refine VO.e7 1 Z (aV.sl _ _ _ _ _ _) ?_
  rintro(_ | ⟨mb,rest⟩) ⟨x1,x2,x3⟩
  ·obtain⟨_,h0,_⟩:=x3
   omega
  obtain⟨rfl,x4⟩:=x3
  rw[show mG S (some ⟨mb,0,none⟩) c=.pointer (some ⟨mb,0+i*14,none⟩) by rw[mG,e1];rfl]
  show VO _ _ _ _ _ [pt mb (flat recC S.bw++rest) n_,pt p (h_ S (some ⟨mb,0,none⟩) cap) nZ,pt ob o.cells 31] _
  have back:jj ⟨Tryz.prog,tab,ah,77,Fr,w⟩ [pt mb (flat recC S.bw++rest) n_,pt p (h_ S (some ⟨mb,0,none⟩) cap) nZ,pt ob o.cells 31] [pt p (h_ S (some ⟨mb,0,none⟩) cap) nZ,aJ n_ 14 (some ⟨mb,0,none⟩) S.bw.length cap (flat recC S.bw),pt ob o.cells 31]:=(IP 1 rfl (ae.sl x1 x2 x4 ae.refl)).ar
  have c7:(flat recC S.bw++rest)[0+i*14+7]?=some (.int .i64 r.toQ):=by rw[Zl];exact fD iP e2 rfl rest
  have c1:(flat recC S.bw++rest)[0+i*14+1]?=some (.int .i64 r.seq):=by rw[Zl];exact fD iP e2 rfl rest
  refine Pf ?_
  refine VG (VO.load Z Z (aE.one 0 Z c7) ?_)
  refine aq ?_
  refine CP (p:=r.toQ<0) Z (fun j=>?_) (fun j=>CK ?_)
  ·have hE2:S.eU c seq o=63:=by rw[hE,if_pos j]
   refine CN back ?_
   refine aq ?_
   exact Yg
  refine aq ?_
  refine VG (VO.load Z Z (aE.one 0 Z c1) ?_)
  refine aq ?_
  refine CP (p:=seq≤r.seq) Z (fun j2=>?_) (fun j2=>CK ?_)
  ·have hE2:S.eU c seq o=70:=by rw[hE,if_neg j,if_pos j2]
   refine CN back ?_
   refine aq ?_
   exact Yg
  exact⟨(some ⟨mb,0,none⟩,cap),by rw[hE,if_neg j,if_neg j2],bd,back⟩
 rintro⟨a,cap⟩ hE
 dsimp only
 have hc:=bK.NP hE
 obtain⟨k,rfl,hk,hx,g1,g2⟩:=ok.at (c:=c) ⟨by omega,by omega⟩
 refine CS (CD (ts 0 13 (.only 13 (.only 14 (ts 15 2 (.only 17 .nil))))) yn yr ?_)
 refine qe ?_
 refine AG (VA.kn 2 o.cells Z Z Z Z Z ?_)
 refine qe ?_
 refine AG (AI Z (LB (pv:=[(0,.int .i64 k),(1,.int .i64 seq),(2,.agg o.cells.toArray),(3,.int .i64 S.events),(4,.int .i64 (-1))]) (recC (At S k seq o)) Z Z Z yn Z) ?_)
 refine AG (AO (a8.buildSlice (n:=1) (pv:=[(0,.agg (recC (At S k seq o)).toArray)]) (cells:=recC (At S k seq o)) Z Z Z Z yp (bM Z Z Z)) Z ?_ ?_)
 ·rintro _ _ ⟨nb,rfl,rfl⟩
  exact yu
 rintro _ _ ⟨nb,rfl,rfl⟩
 refine AG (AO (a8.append (m:=1) (news:=recC (At S k seq o)) 2 Z Z Z Z Z Z Z (dq.pt 0 Z Z Z) Z (by show(S.bw.length+1)*136≤_;omega) yd) Z ?_ ?_)
 ·rintro _ _ ⟨a1,c1,rfl,hc1,rfl⟩
  exact yu
 rintro _ _ ⟨a1,c1,rfl,hc1,rfl⟩
 refine tM ?_
 have e1:S.bw.length+1=(S.bw ++ [At S k seq o]).length:=by rw[Zh];rfl
 refine AG (VA.st 2 (cs':=h_ { S with bw:=S.bw ++ [At S k seq o] } a1 c1) Z Z Z Z Z (by rw[Fw ok];decide) (by rw[e1];rfl) Z yu ?_)
 refine ji ?_
 generalize hS1:({ S with bw:=S.bw ++ [At S k seq o] }:bK)=S1
 have l1:S1.bw=S.bw ++ [At S k seq o]:=by rw[←hS1]
 have l2:S1.last=S.last:=by rw[←hS1]
 have l3:S1.events=S.events:=by rw[←hS1]
 refine CN (L':=[pt p (h_ S1 a1 c1) nZ,aJ n_ 14 a1 S1.bw.length c1 (flat recC S1.bw),pt ob o.cells 31]) ?_ ?_
 ·rw[l1,bf,vC,←e1]
  exact(dG [2,0,1]).ar
 refine UD ?_
 refine qe ?_
 refine AG (AI Z (bS k Z Z Z Z Z Z hk) ?_)
 refine AG (VA.st 0 (cs':=h_ { S1 with last:=S1.last.set k S1.bw.length } a1 c1) Z Z Z Z Z (by show 0+3+k*1<(_::_::_::S1.last.map _).length;rw[l2];simp[ok.ll];omega) (by show(h_ S1 a1 c1).set (0+3+k*1) _=_;rw[show 0+3+k*1=3+k from by omega];exact NO _) Z yu ?_)
 refine ji ?_
 refine CN (L':=[pt p (h_ { S1 with last:=S1.last.set k S1.bw.length } a1 c1) nZ,aJ n_ 14 a1 S1.bw.length c1 (flat recC S1.bw)]) (dG [0,0]).ar ?_
 refine an ?_
 refine VG (VP Z Z tL tL ?_)
 refine aq ?_
 refine VG (VO.st 0 (cs':=h_ { S1 with last:=S1.last.set k S1.bw.length,events:=S1.events+1 } a1 c1) Z Z Z Z (by show 2<(_::_::_::(S1.last.set k _).map _).length;simp) Z Z ?_)
 refine aq ?_
 refine CR (ay.tmp 8 Z Z (L':=[kJ p { S1 with last:=S1.last.set k S1.bw.length,events:=S1.events+1 }]) (ae.gx (S:={ S1 with last:=S1.last.set k S1.bw.length,events:=S1.events+1 }) (K:=[]) (a1,c1) ae.refl).ar ⟨by rw[hE],?_⟩)
 rw[hc,l1,l2,l3,←e1,Zp]
 rfl
end
end Cl
namespace Cl
open Go Vg T Api Ch Rep
attribute [local irreducible] VO VC VA
theorem SJ{B R vs:List Value}{o j n:Nat}(hR:(B.drop o).take n=R)(hn:R.length=n)(hj:j+vs.length≤n)(ho:o≤B.length):j_ B (o+j) vs=j_ B o (j_ R j vs):=by
 have hB:B.drop o=R++B.drop (o+n):=by rw[←hR,←List.drop_drop,List.take_append_drop]
 have h1:(j_ R j vs).length=n:=by unfold j_;simp;omega
 have h2:B.take (o+j)=B.take o++R.take j:=by
  rw[List.take_add,hB,List.take_append_of_le_length yd]
 have h3:B.drop (o+j+vs.length)=R.drop (j+vs.length)++B.drop (o+n):=by
  rw[Nat.add_assoc,←List.drop_drop,hB,List.drop_append_of_le_length yd]
 unfold j_ at h1 ⊢
 rw[h1,h2,h3]
 simp
theorem NQ{α:Type}{c:α→List Value}{n:Nat}(h:∀a,(c a).length=n){i j:Nat}{l:List α}{a a':α}{vs:List Value}(ha:l[i]?=some a)(hj:j+vs.length≤n)(hc:j_ (c a) j vs=c a')(rest:List Value):j_ (flat c l++rest) (i*n+j) vs=flat c (l.set i a')++rest:=by
 have hi:i<l.length:=(Zk.1 ha).1
 have hle:i*n≤l.length*n:=Nat.mul_le_mul_right n (Nat.le_of_lt hi)
 rw[←lU h a' rest hi,←hc]
 exact SJ (fC h ha rest) (h a) hj (by rw[Zh,bo h];omega)
section
variable {p:Nat} {S:bK}
def bK.wT(h:bK)(c seq:Int)(o:gk):Int:=
 if o.kind≠1∧o.kind≠2∧o.kind≠3 then 2
 else match h.cZ c with
  | none=>4
  | some (i,r)=>if r.seq≠seq∨0≤r.toQ then 4 else 0
def Ct(S:bK)(r:RecM)(o:gk):RecM:={ r with toQ:=S.events,out:=o }
theorem bK.NS{c seq:Int}{o:gk}(h:o.kind≠1∧o.kind≠2∧o.kind≠3):S.end_ c seq o=S∧S.wT c seq o=2:=by unfold bK.end_ bK.wT;rw[if_pos h,if_pos h];exact⟨rfl,rfl⟩
theorem bK.Jk{c seq:Int}{o:gk}(h:¬(o.kind≠1∧o.kind≠2∧o.kind≠3))(h2:S.cZ c=none):S.end_ c seq o=S∧S.wT c seq o=4:=by unfold bK.end_ bK.wT;rw[if_neg h,if_neg h,h2];exact⟨rfl,rfl⟩
theorem bK.Jl{c seq:Int}{o:gk}{i:Nat}{r:RecM}(h:¬(o.kind≠1∧o.kind≠2∧o.kind≠3))(h2:S.cZ c=some (i,r))(h3:r.seq≠seq∨0≤r.toQ):S.end_ c seq o=S∧S.wT c seq o=4:=by
 unfold bK.end_ bK.wT;rw[if_neg h,if_neg h,h2];dsimp only;rw[if_pos h3,if_pos h3];exact⟨rfl,rfl⟩
theorem bK.Qy{c seq:Int}{o:gk}{i:Nat}{r:RecM}(h:¬(o.kind≠1∧o.kind≠2∧o.kind≠3))(h2:S.cZ c=some (i,r))(h3:¬(r.seq≠seq∨0≤r.toQ)):S.end_ c seq o={ S with bw:=S.bw.set i (Ct S r o),events:=S.events+1 }∧S.wT c seq o=0:=by
 unfold bK.end_ bK.wT;rw[if_neg h,if_neg h,h2];dsimp only;rw[if_neg h3,if_neg h3];exact⟨rfl,rfl⟩
theorem bK.Ok.end_(ok:S.Ok)(h2:S.events<10000000)(c seq:Int)(o:gk):(S.end_ c seq o).Ok:=by
 have:=ok.e0
 unfold bK.end_
 split
 ·exact ok
 split
 ·exact ok
 split
 ·exact ok
 refine⟨by show(S.bw.set _ _).length≤_;rw[ZB];exact ok.rl,by show 0≤S.events+1;omega,by show S.events+1≤_;omega,ok.ll,fun x hx=>?_⟩
 show 0≤x∧x≤((S.bw.set _ _).length:Int)
 rw[ZB]
 exact ok.lr x hx
theorem G5(ok:S.Ok)(h2:S.events<10000000)(c seq:Int)(o:gk):aH Tryz.prog 70 [.pointer (some ⟨p,0,none⟩),.int .i64 c,.int .i64 seq,.agg (eK o).toArray] Fr w [kJ p S]
  (fun v L=>v=.int .i64 (S.wT c seq o)∧L=[kJ p (S.end_ c seq o)]):=by
 have hrl:=ok.rl
 have he0:=ok.e0
 refine TF 63 Tryz.func70 Z yn ah Z Z ?_
 refine VC.e7 0 Z (aV.gx p S) ?_
 rintro⟨a,cap⟩ -
 show VC _ _ _ [pt p (h_ S a cap) nZ,aJ n_ 14 a S.bw.length cap (flat recC S.bw)] _
 refine CS (CG (VG (VB (vs:=eK o) Z fun ob=>VO.ar (L':=[pt p (h_ S a cap) nZ,aJ n_ 14 a S.bw.length cap (flat recC S.bw),pt ob (eK o) 155]) (dG [1,1,0]).ar ?_)))
 have fin:jj ⟨Tryz.prog,tab,ah,63,Fr,w⟩ [pt p (h_ S a cap) nZ,aJ n_ 14 a S.bw.length cap (flat recC S.bw),pt ob (eK o) 155] [kJ p S]:=(ae.gx (K:=[]) (a,cap) (dG [0,0])).ar
 refine aq ?_
 refine VG (VV (fun Fr w hF hw hS=>vH Fr w (hS.aP 0 Z)) Z ?_)
 refine Oz ?_
 refine CS (VC.cq (σ:=Unit) (fun _=>[(0,pV p),(1,.int .i64 c),(2,.int .i64 seq),(7,pV ob)]) (fun _=>[pt p (h_ S a cap) nZ,aJ n_ 14 a S.bw.length cap (flat recC S.bw),pt ob (eK o) 155]) (fun _=>¬(o.kind≠1∧o.kind≠2∧o.kind≠3)) ?_ ?_)
 ·refine pP ?_
  by_cases k1:o.kind=1
  ·refine VG (VY 15 false Z (by simp[k1]) ?_)
   refine pP ?_
   refine VG (VY 20 false Z Z ?_)
   refine pP ?_
   refine r_ ?_
   exact⟨(),fun h=>h.1 k1,bd,ER⟩
  refine VG (VY 15 true Z (by simp[k1]) ?_)
  refine pP ?_
  by_cases k2:o.kind=2
  ·refine VG (VY 20 false Z (by simp[k2]) ?_)
   refine pP ?_
   refine r_ ?_
   exact⟨(),fun h=>h.2.1 k2,bd,ER⟩
  refine VG (VY 20 true Z (by simp[k2]) ?_)
  refine pP ?_
  refine VC.bp Z (fun k3=>?_) (fun k3=>CK ?_)
  ·obtain⟨g1,g2⟩:=bK.NS (S:=S) (c:=c) (seq:=seq) (o:=o) ⟨k1,k2,k3⟩
   refine aK ?_
   exact TU
  exact⟨(),fun h=>h.2.2 k3,bd,ER⟩
 rintro-hk
 refine aq ?_
 refine Yf ?_
 rcases rT ok c with ⟨e1,_⟩ | ⟨i,r,e1,e2,e3,e4⟩
 ·obtain⟨g1,g2⟩:=bK.Jk (seq:=seq) hk e1
  rw[show mG S a c=.pointer none by rw[mG,e1]]
  refine aK ?_
  refine VG (VY 30 true Z Z ?_)
  refine aK ?_
  refine VG (VY 38 true Z Z ?_)
  refine wv ?_
  exact TU
 refine VO.e7 1 Z (aV.sl _ _ _ _ _ _) ?_
 rintro(_ | ⟨mb,rest⟩) ⟨x1,x2,x3⟩
 ·obtain⟨_,h0,_⟩:=x3
  omega
 obtain⟨rfl,x4⟩:=x3
 rw[show mG S (some ⟨mb,0,none⟩) c=.pointer (some ⟨mb,0+i*14,none⟩) by rw[mG,e1];rfl]
 show VO _ _ _ _ _ [pt mb (flat recC S.bw++rest) n_,pt p (h_ S (some ⟨mb,0,none⟩) cap) nZ,pt ob (eK o) 155] _
 have back:jj ⟨Tryz.prog,tab,ah,63,Fr,w⟩ [pt mb (flat recC S.bw++rest) n_,pt p (h_ S (some ⟨mb,0,none⟩) cap) nZ,pt ob (eK o) 155] [pt p (h_ S (some ⟨mb,0,none⟩) cap) nZ,aJ n_ 14 (some ⟨mb,0,none⟩) S.bw.length cap (flat recC S.bw),pt ob (eK o) 155]:=(IP 1 rfl (ae.sl x1 x2 x4 ae.refl)).ar
 have c7:(flat recC S.bw++rest)[0+i*14+7]?=some (.int .i64 r.toQ):=by rw[Zl];exact fD iP e2 rfl rest
 have c1:(flat recC S.bw++rest)[0+i*14+1]?=some (.int .i64 r.seq):=by rw[Zl];exact fD iP e2 rfl rest
 refine aK ?_
 refine VG (VY 30 false Z Z ?_)
 refine aK ?_
 refine VG (VO.load Z Z (aE.one 0 Z c1) ?_)
 refine aK ?_
 by_cases j1:r.seq=seq
 rotate_left
 ·obtain⟨g1,g2⟩:=bK.Jl hk e1 (.inl j1)
  refine VG (VY 38 true Z (by simp[j1]) ?_)
  refine Ki ?_
  refine CN back ?_
  refine aK ?_
  exact TU
 refine VG (VY 38 false Z (by simp[j1]) ?_)
 refine aK ?_
 refine VG (VO.load Z Z (aE.one 0 Z c7) ?_)
 refine aK ?_
 refine CP (p:=0≤r.toQ) Z (fun j2=>?_) (fun j2=>CK ?_)
 ·obtain⟨g1,g2⟩:=bK.Jl hk e1 (seq:=seq) (.inr j2)
  refine CN back ?_
  refine aK ?_
  exact TU
 obtain⟨g1,g2⟩:=bK.Qy hk e1 (o:=o) (seq:=seq) (by rintro(h | h);exact h j1;exact j2 h)
 refine CS (CD (ts 0 9 (.only 9 (ts 10 2 (.only 12 .nil)))) yn yr ?_)
 refine qe ?_
 refine AG (VA.kn 2 (eK o) Z Z Z Z Z ?_)
 refine qe ?_
 have hfl:∀x:RecM,((flat recC (S.bw.set i x)).length:Nat)=S.bw.length*14:=fun x=>by rw[bo iP,ZB]
 have hfl0:=bo iP S.bw
 have hi14:(i+1)*14≤S.bw.length*14:=Nat.mul_le_mul_right 14 e4
 refine AG (VA.st 0 (cs':=flat recC (S.bw.set i { r with toQ:=S.events })++rest) Z Z Z Z Z (by rw[Zh,hfl0];omega) (by rw[Zl];exact gy iP e2 yp Z rest) Z yu ?_)
 refine ji ?_
 refine AG (AT (vs:=eK o) (cs':=flat recC (S.bw.set i (Ct S r o))++rest) 0 Z Z Z Z Z (by rw[Zh,hfl];show 0+i*14+8+6≤_;omega) (by rw[Zl,NQ (a:={ r with toQ:=S.events }) (a':=Ct S r o) iP (ZG e4) (by show 8+6≤14;decide) Z rest,List.set_set]) Z Z yu ?_)
 refine ji ?_
 refine jA ?_
 refine JY ?_
 refine aq ?_
 refine VG (VO.st 1 (cs':=h_ { S with events:=S.events+1 } (some ⟨mb,0,none⟩) cap) Z Z Z Z (by rw[Fw ok];decide) Z Z ?_)
 refine aq ?_
 refine CR (ay.tmp 8 Z Z (L':=[kJ p { S with bw:=S.bw.set i (Ct S r o),events:=S.events+1 }]) ?_ ⟨by rw[g2],by rw[g1]⟩)
 refine(ae.gx (S:={ S with bw:=S.bw.set i (Ct S r o),events:=S.events+1 }) (K:=[]) (some ⟨mb,0,none⟩,cap) ?_).ar
 show ae _ [pt p ([.bool true,.slice (some ⟨mb,0,none⟩) (S.bw.set i (Ct S r o)).length cap,.int .i64 (S.events+1)]++S.last.map (Value.int .i64)) nZ,aJ n_ 14 (some ⟨mb,0,none⟩) (S.bw.set i (Ct S r o)).length cap (flat recC (S.bw.set i (Ct S r o)))]
 rw[ZB]
 exact IP 1 Z (ae.sl (hfl _) x2 (by rw[Zh,hfl];rw[Zh,hfl0] at x4;exact x4) (IP 0 Z ae.nil))
end
end Cl
end Go.Proofs.YthnlpdacbcjgpaaGreatDoor
